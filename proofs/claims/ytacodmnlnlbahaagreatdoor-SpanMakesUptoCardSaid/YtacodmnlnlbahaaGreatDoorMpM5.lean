/- Texts of a claim, merged: what they prove is told at the last one's head. -/
import Derived.Test.YtacodmnlnlbahaaGreatDoorMpM4
import Derived.KernelRfl
set_option linter.unusedSimpArgs false
set_option linter.unusedVariables false
set_option maxRecDepth 100000
set_option maxHeartbeats 8000000
namespace Go.Proofs.YtacodmnlnlbahaaGreatDoor
open Go.VM

theorem cmp06_spec (t u : Tok) (neg : Bool) (m n c : Nat) (hmb : bl m ≤ 68719476736) (hn : bl n ≤ 68719476736) : VSpec Tryz.prog F.surdref06_Cmp c [zV t neg m, zV u neg n] (fun r _ => r = iv (if neg = true then - cmpI m n else cmpI m n)) := by
  refine spec_mk hm E.surdref06_Cmp B.surdref06_Cmp K.surdref06_Cmp Q.surdref06_Cmp (by rw [N.surdref06_Cmp]; simp) ?_
  unfold C.surdref06_Cmp R.surdref06_Cmp
  have h3 := cmpI_cases m n
  cases neg
  · (repeat (first | refine v_reg ?_ | refine v_last ?_ | refine vwp_seq ?_ | refine vwp_block ?_ | refine vwp_skip ?_ | refine vwp_exit ?_ | refine vwp_ret ?_ | refine v_cond ?_ | simp (disch := omega) only [vm, ite_true, ite_false, eq_self, reduceIte, Nat.reduceEqDiff, Option.map, vst, List.length_cons, List.length_nil, List.set_cons_zero, List.set_cons_succ, List.map_cons, List.map_nil, Option.map_some, Option.bind_some, Nat.reduceAdd, Nat.reduceLT, Nat.reduceLeDiff, Nat.add_zero, and_self, k_ne, Nat.add_left_cancel_iff, ne_eq, Int.reduceEq, Int.reduceLT, Int.reduceLE, List.cons_append, List.nil_append, Nat.reduceDiv, Nat.reduceMul, Int.reduceToNat, Int.reduceAdd, Int.cast_ofNat_Int] | refine And.intro (by omega) ?_))
    refine s_call (cmpR t u m n (c + 1 + 1) hmb hn) (by simp (disch := omega) only [vm, ite_true, ite_false, eq_self, reduceIte, Nat.reduceEqDiff, Option.map, vst, List.length_cons, List.length_nil, List.set_cons_zero, List.set_cons_succ, List.map_cons, List.map_nil, Option.map_some, Option.bind_some, Nat.reduceAdd, Nat.reduceLT, Nat.reduceLeDiff, Nat.add_zero, and_self, k_ne, Nat.add_left_cancel_iff, ne_eq, Int.reduceEq, Int.reduceLT, Int.reduceLE, List.cons_append, List.nil_append, Nat.reduceDiv, Nat.reduceMul, Int.reduceToNat, Int.reduceAdd, Int.cast_ofNat_Int]) ?_
    rintro v c1 hc1 rfl
    (repeat (first | refine v_reg ?_ | refine v_last ?_ | refine vwp_seq ?_ | refine vwp_block ?_ | refine vwp_skip ?_ | refine vwp_exit ?_ | refine vwp_ret ?_ | refine v_cond ?_ | simp (disch := omega) only [vm, ite_true, ite_false, eq_self, reduceIte, Nat.reduceEqDiff, Option.map, vst, List.length_cons, List.length_nil, List.set_cons_zero, List.set_cons_succ, List.map_cons, List.map_nil, Option.map_some, Option.bind_some, Nat.reduceAdd, Nat.reduceLT, Nat.reduceLeDiff, Nat.add_zero, and_self, k_ne, Nat.add_left_cancel_iff, ne_eq, Int.reduceEq, Int.reduceLT, Int.reduceLE, List.cons_append, List.nil_append, Nat.reduceDiv, Nat.reduceMul, Int.reduceToNat, Int.reduceAdd, Int.cast_ofNat_Int] | refine And.intro (by omega) ?_))
    (first | omega | rfl | ((repeat' apply And.intro) <;> first | rfl | omega | assumption))
  · (repeat (first | refine v_reg ?_ | refine v_last ?_ | refine vwp_seq ?_ | refine vwp_block ?_ | refine vwp_skip ?_ | refine vwp_exit ?_ | refine vwp_ret ?_ | refine v_cond ?_ | simp (disch := omega) only [vm, ite_true, ite_false, eq_self, reduceIte, Nat.reduceEqDiff, Option.map, vst, List.length_cons, List.length_nil, List.set_cons_zero, List.set_cons_succ, List.map_cons, List.map_nil, Option.map_some, Option.bind_some, Nat.reduceAdd, Nat.reduceLT, Nat.reduceLeDiff, Nat.add_zero, and_self, k_ne, Nat.add_left_cancel_iff, ne_eq, Int.reduceEq, Int.reduceLT, Int.reduceLE, List.cons_append, List.nil_append, Nat.reduceDiv, Nat.reduceMul, Int.reduceToNat, Int.reduceAdd, Int.cast_ofNat_Int] | refine And.intro (by omega) ?_))
    refine s_call (cmpR t u m n (c + 1 + 1) hmb hn) (by simp (disch := omega) only [vm, ite_true, ite_false, eq_self, reduceIte, Nat.reduceEqDiff, Option.map, vst, List.length_cons, List.length_nil, List.set_cons_zero, List.set_cons_succ, List.map_cons, List.map_nil, Option.map_some, Option.bind_some, Nat.reduceAdd, Nat.reduceLT, Nat.reduceLeDiff, Nat.add_zero, and_self, k_ne, Nat.add_left_cancel_iff, ne_eq, Int.reduceEq, Int.reduceLT, Int.reduceLE, List.cons_append, List.nil_append, Nat.reduceDiv, Nat.reduceMul, Int.reduceToNat, Int.reduceAdd, Int.cast_ofNat_Int]) ?_
    rintro v c1 hc1 rfl
    generalize cmpI m n = q at *
    (repeat (first | refine v_reg ?_ | refine v_last ?_ | refine vwp_seq ?_ | refine vwp_block ?_ | refine vwp_skip ?_ | refine vwp_exit ?_ | refine vwp_ret ?_ | refine v_cond ?_ | simp (disch := omega) only [vm, ite_true, ite_false, eq_self, reduceIte, Nat.reduceEqDiff, Option.map, vst, List.length_cons, List.length_nil, List.set_cons_zero, List.set_cons_succ, List.map_cons, List.map_nil, Option.map_some, Option.bind_some, Nat.reduceAdd, Nat.reduceLT, Nat.reduceLeDiff, Nat.add_zero, and_self, k_ne, Nat.add_left_cancel_iff, ne_eq, Int.reduceEq, Int.reduceLT, Int.reduceLE, List.cons_append, List.nil_append, Nat.reduceDiv, Nat.reduceMul, Int.reduceToNat, Int.reduceAdd, Int.cast_ofNat_Int, n_neg'] | refine And.intro (by omega) ?_))
    (first | omega | rfl | ((repeat' apply And.intro) <;> first | rfl | omega | assumption))
theorem shift06_spec (t : Tok) (neg : Bool) (m k c : Nat) (hmb : bl m ≤ 68719476736) (hmz : m ≠ 0) (hk : k ≤ 1099511627776) (hb : bl (m * 2 ^ k) ≤ 68719476736) : VSpec Tryz.prog F.surdref06_Shift c [zV t neg m, iv (k : Int)] (fun r _ => ∃ tk, r = zV tk neg (m * 2 ^ k)) := by
  refine spec_mk hm E.surdref06_Shift B.surdref06_Shift K.surdref06_Shift Q.surdref06_Shift (by rw [N.surdref06_Shift]; simp) ?_
  unfold C.surdref06_Shift R.surdref06_Shift
  have g : (0 : Int) ≤ (k : Int) := by omega
  (repeat (first | refine v_reg ?_ | refine v_last ?_ | refine vwp_seq ?_ | refine vwp_block ?_ | refine vwp_skip ?_ | refine vwp_exit ?_ | refine vwp_ret ?_ | refine v_cond ?_ | simp (disch := omega) only [vm, ite_true, ite_false, eq_self, reduceIte, Nat.reduceEqDiff, Option.map, vst, List.length_cons, List.length_nil, List.set_cons_zero, List.set_cons_succ, List.map_cons, List.map_nil, Option.map_some, Option.bind_some, Nat.reduceAdd, Nat.reduceLT, Nat.reduceLeDiff, Nat.add_zero, and_self, k_ne, Nat.add_left_cancel_iff, ne_eq, Int.reduceEq, Int.reduceLT, Int.reduceLE, List.cons_append, List.nil_append, Nat.reduceDiv, Nat.reduceMul, Int.reduceToNat, Int.reduceAdd, Int.cast_ofNat_Int, g] | refine And.intro (by omega) ?_))
  refine s_call (shlR t m k (c + 2) hmb (Nat.pos_of_ne_zero hmz) hk) (by simp (disch := omega) only [vm, ite_true, ite_false, eq_self, reduceIte, Nat.reduceEqDiff, Option.map, vst, List.length_cons, List.length_nil, List.set_cons_zero, List.set_cons_succ, List.map_cons, List.map_nil, Option.map_some, Option.bind_some, Nat.reduceAdd, Nat.reduceLT, Nat.reduceLeDiff, Nat.add_zero, and_self, k_ne, Nat.add_left_cancel_iff, ne_eq, Int.reduceEq, Int.reduceLT, Int.reduceLE, List.cons_append, List.nil_append, Nat.reduceDiv, Nat.reduceMul, Int.reduceToNat, Int.reduceAdd, Int.cast_ofNat_Int]) ?_
  rintro v c1 hc1 ⟨i, rfl, _, _⟩
  (repeat (first | refine v_reg ?_ | refine v_last ?_ | refine vwp_seq ?_ | refine vwp_block ?_ | refine vwp_skip ?_ | refine vwp_exit ?_ | refine vwp_ret ?_ | refine v_cond ?_ | simp (disch := omega) only [vm, ite_true, ite_false, eq_self, reduceIte, Nat.reduceEqDiff, Option.map, vst, List.length_cons, List.length_nil, List.set_cons_zero, List.set_cons_succ, List.map_cons, List.map_nil, Option.map_some, Option.bind_some, Nat.reduceAdd, Nat.reduceLT, Nat.reduceLeDiff, Nat.add_zero, and_self, k_ne, Nat.add_left_cancel_iff, ne_eq, Int.reduceEq, Int.reduceLT, Int.reduceLE, List.cons_append, List.nil_append, Nat.reduceDiv, Nat.reduceMul, Int.reduceToNat, Int.reduceAdd, Int.cast_ofNat_Int] | refine And.intro (by omega) ?_))
  refine s_call (make1_spec neg (.id i) (m * 2 ^ k) c1 hb) (by simp (disch := omega) only [vm, ite_true, ite_false, eq_self, reduceIte, Nat.reduceEqDiff, Option.map, vst, List.length_cons, List.length_nil, List.set_cons_zero, List.set_cons_succ, List.map_cons, List.map_nil, Option.map_some, Option.bind_some, Nat.reduceAdd, Nat.reduceLT, Nat.reduceLeDiff, Nat.add_zero, and_self, k_ne, Nat.add_left_cancel_iff, ne_eq, Int.reduceEq, Int.reduceLT, Int.reduceLE, List.cons_append, List.nil_append, Nat.reduceDiv, Nat.reduceMul, Int.reduceToNat, Int.reduceAdd, Int.cast_ofNat_Int]) ?_
  rintro v c2 hc2 rfl
  have e : zneg neg (m * 2 ^ k) = neg := by
    unfold zneg
    have : ¬ m * 2 ^ k = 0 := Nat.mul_ne_zero hmz (Nat.ne_of_gt (Nat.two_pow_pos k))
    rw [decide_eq_false this]
    simp
  rw [e]
  (repeat (first | refine v_reg ?_ | refine v_last ?_ | refine vwp_seq ?_ | refine vwp_block ?_ | refine vwp_skip ?_ | refine vwp_exit ?_ | refine vwp_ret ?_ | refine v_cond ?_ | simp (disch := omega) only [vm, ite_true, ite_false, eq_self, reduceIte, Nat.reduceEqDiff, Option.map, vst, List.length_cons, List.length_nil, List.set_cons_zero, List.set_cons_succ, List.map_cons, List.map_nil, Option.map_some, Option.bind_some, Nat.reduceAdd, Nat.reduceLT, Nat.reduceLeDiff, Nat.add_zero, and_self, k_ne, Nat.add_left_cancel_iff, ne_eq, Int.reduceEq, Int.reduceLT, Int.reduceLE, List.cons_append, List.nil_append, Nat.reduceDiv, Nat.reduceMul, Int.reduceToNat, Int.reduceAdd, Int.cast_ofNat_Int] | refine And.intro (by omega) ?_))
  exact ⟨_, rfl⟩

theorem rcmp_spec (tx ty : Tok) (x y : Dy) (c : Nat) (hx : RNum x) (hy : RNum y) : VSpec Tryz.prog F.surdref08_Cmp c [fV tx x, fV ty y] (fun r _ => r = iv (cmpD x y)) := by
  refine spec_mk hm E.surdref08_Cmp B.surdref08_Cmp K.surdref08_Cmp Q.surdref08_Cmp (by rw [N.surdref08_Cmp]; simp) ?_
  unfold C.surdref08_Cmp R.surdref08_Cmp
  have x1 := hx.lo
  have x2 := hx.hi
  have y1 := hy.lo
  have y2 := hy.hi
  have bx2 := hx.bits
  have by2 := hy.bits
  (repeat (first | refine v_reg ?_ | refine v_last ?_ | refine vwp_seq ?_ | refine vwp_block ?_ | refine vwp_skip ?_ | refine vwp_exit ?_ | refine vwp_ret ?_ | refine v_cond ?_ | simp (disch := omega) only [vm, ite_true, ite_false, eq_self, reduceIte, Nat.reduceEqDiff, Option.map, vst, List.length_cons, List.length_nil, List.set_cons_zero, List.set_cons_succ, List.map_cons, List.map_nil, Option.map_some, Option.bind_some, Nat.reduceAdd, Nat.reduceLT, Nat.reduceLeDiff, Nat.add_zero, and_self, k_ne, Nat.add_left_cancel_iff, ne_eq, Int.reduceEq, Int.reduceLT, Int.reduceLE, List.cons_append, List.nil_append, Nat.reduceDiv, Nat.reduceMul, Int.reduceToNat, Int.reduceAdd, Int.cast_ofNat_Int] | refine And.intro (by omega) ?_))
  refine s_call (zsign_spec x.neg tx x.m (c + 1 + 1) hx.bits hx.nz) (by simp (disch := omega) only [vm, ite_true, ite_false, eq_self, reduceIte, Nat.reduceEqDiff, Option.map, vst, List.length_cons, List.length_nil, List.set_cons_zero, List.set_cons_succ, List.map_cons, List.map_nil, Option.map_some, Option.bind_some, Nat.reduceAdd, Nat.reduceLT, Nat.reduceLeDiff, Nat.add_zero, and_self, k_ne, Nat.add_left_cancel_iff, ne_eq, Int.reduceEq, Int.reduceLT, Int.reduceLE, List.cons_append, List.nil_append, Nat.reduceDiv, Nat.reduceMul, Int.reduceToNat, Int.reduceAdd, Int.cast_ofNat_Int]) ?_
  rintro v c1 hc1 rfl
  (repeat (first | refine v_reg ?_ | refine v_last ?_ | refine vwp_seq ?_ | refine vwp_block ?_ | refine vwp_skip ?_ | refine vwp_exit ?_ | refine vwp_ret ?_ | refine v_cond ?_ | simp (disch := omega) only [vm, ite_true, ite_false, eq_self, reduceIte, Nat.reduceEqDiff, Option.map, vst, List.length_cons, List.length_nil, List.set_cons_zero, List.set_cons_succ, List.map_cons, List.map_nil, Option.map_some, Option.bind_some, Nat.reduceAdd, Nat.reduceLT, Nat.reduceLeDiff, Nat.add_zero, and_self, k_ne, Nat.add_left_cancel_iff, ne_eq, Int.reduceEq, Int.reduceLT, Int.reduceLE, List.cons_append, List.nil_append, Nat.reduceDiv, Nat.reduceMul, Int.reduceToNat, Int.reduceAdd, Int.cast_ofNat_Int] | refine And.intro (by omega) ?_))
  refine s_call (zsign_spec y.neg ty y.m c1 hy.bits hy.nz) (by simp (disch := omega) only [vm, ite_true, ite_false, eq_self, reduceIte, Nat.reduceEqDiff, Option.map, vst, List.length_cons, List.length_nil, List.set_cons_zero, List.set_cons_succ, List.map_cons, List.map_nil, Option.map_some, Option.bind_some, Nat.reduceAdd, Nat.reduceLT, Nat.reduceLeDiff, Nat.add_zero, and_self, k_ne, Nat.add_left_cancel_iff, ne_eq, Int.reduceEq, Int.reduceLT, Int.reduceLE, List.cons_append, List.nil_append, Nat.reduceDiv, Nat.reduceMul, Int.reduceToNat, Int.reduceAdd, Int.cast_ofNat_Int]) ?_
  rintro v c2 hc2 rfl
  rw [sgW_dy, sgW_dy]
  by_cases g0 : x.sg = y.sg
  · by_cases g3 : x.sg = 0
    · have ec : cmpD x y = 0 := by unfold cmpD; rw [if_neg (by omega), if_neg (by omega), if_pos g3]
      rw [ec]
      have g4 : y.sg = 0 := by omega
      (repeat (first | refine v_reg ?_ | refine v_last ?_ | refine vwp_seq ?_ | refine vwp_block ?_ | refine vwp_skip ?_ | refine vwp_exit ?_ | refine vwp_ret ?_ | refine v_cond ?_ | simp (disch := omega) only [vm, ite_true, ite_false, eq_self, reduceIte, Nat.reduceEqDiff, Option.map, vst, List.length_cons, List.length_nil, List.set_cons_zero, List.set_cons_succ, List.map_cons, List.map_nil, Option.map_some, Option.bind_some, Nat.reduceAdd, Nat.reduceLT, Nat.reduceLeDiff, Nat.add_zero, and_self, k_ne, Nat.add_left_cancel_iff, ne_eq, Int.reduceEq, Int.reduceLT, Int.reduceLE, List.cons_append, List.nil_append, Nat.reduceDiv, Nat.reduceMul, Int.reduceToNat, Int.reduceAdd, Int.cast_ofNat_Int, g3, g4] | refine And.intro (by omega) ?_))
      (first | omega | rfl | ((repeat' apply And.intro) <;> first | rfl | omega | assumption))
    have ec : cmpD x y = if x.top < y.top then -x.sg else if y.top < x.top then x.sg else x.sg * cmpI (x.m * 2 ^ (x.e - y.e).toNat) (y.m * 2 ^ (y.e - x.e).toNat) := by
      unfold cmpD; rw [if_neg (by omega), if_neg (by omega), if_neg g3]
    have hxm : x.m ≠ 0 := fun e => g3 (by unfold Dy.sg; rw [if_pos e])
    have hym : y.m ≠ 0 := fun e => by
      have : y.sg = 0 := by unfold Dy.sg; rw [if_pos e]
      omega
    have hsx := sg_sign hxm
    have hsy := sg_sign hym
    have hneg : y.neg = x.neg := by
      rw [hsx, hsy] at g0
      cases hx0 : x.neg <;> cases hy0 : y.neg <;> simp [hx0, hy0] at g0 ⊢
    have hs : x.sg = 1 ∨ x.sg = -1 := by rcases sg_cases x with ⟨_, h⟩ | ⟨_, _, h⟩ | ⟨_, _, h⟩ <;> omega
    have bx := bl_pos (Nat.pos_of_ne_zero hxm)
    have by' := bl_pos (Nat.pos_of_ne_zero hym)
    generalize cmpD x y = R at *
    rw [← g0]
    generalize hsv : x.sg = s at *
    (repeat (first | refine v_reg ?_ | refine v_last ?_ | refine vwp_seq ?_ | refine vwp_block ?_ | refine vwp_skip ?_ | refine vwp_exit ?_ | refine vwp_ret ?_ | refine v_cond ?_ | simp (disch := omega) only [vm, ite_true, ite_false, eq_self, reduceIte, Nat.reduceEqDiff, Option.map, vst, List.length_cons, List.length_nil, List.set_cons_zero, List.set_cons_succ, List.map_cons, List.map_nil, Option.map_some, Option.bind_some, Nat.reduceAdd, Nat.reduceLT, Nat.reduceLeDiff, Nat.add_zero, and_self, k_ne, Nat.add_left_cancel_iff, ne_eq, Int.reduceEq, Int.reduceLT, Int.reduceLE, List.cons_append, List.nil_append, Nat.reduceDiv, Nat.reduceMul, Int.reduceToNat, Int.reduceAdd, Int.cast_ofNat_Int, g3] | refine And.intro (by omega) ?_))
    refine s_call (rtop_spec tx x c2 hx) (by simp (disch := omega) only [vm, ite_true, ite_false, eq_self, reduceIte, Nat.reduceEqDiff, Option.map, vst, List.length_cons, List.length_nil, List.set_cons_zero, List.set_cons_succ, List.map_cons, List.map_nil, Option.map_some, Option.bind_some, Nat.reduceAdd, Nat.reduceLT, Nat.reduceLeDiff, Nat.add_zero, and_self, k_ne, Nat.add_left_cancel_iff, ne_eq, Int.reduceEq, Int.reduceLT, Int.reduceLE, List.cons_append, List.nil_append, Nat.reduceDiv, Nat.reduceMul, Int.reduceToNat, Int.reduceAdd, Int.cast_ofNat_Int]) ?_
    rintro v c3 hc3 rfl
    (repeat (first | refine v_reg ?_ | refine v_last ?_ | refine vwp_seq ?_ | refine vwp_block ?_ | refine vwp_skip ?_ | refine vwp_exit ?_ | refine vwp_ret ?_ | refine v_cond ?_ | simp (disch := omega) only [vm, ite_true, ite_false, eq_self, reduceIte, Nat.reduceEqDiff, Option.map, vst, List.length_cons, List.length_nil, List.set_cons_zero, List.set_cons_succ, List.map_cons, List.map_nil, Option.map_some, Option.bind_some, Nat.reduceAdd, Nat.reduceLT, Nat.reduceLeDiff, Nat.add_zero, and_self, k_ne, Nat.add_left_cancel_iff, ne_eq, Int.reduceEq, Int.reduceLT, Int.reduceLE, List.cons_append, List.nil_append, Nat.reduceDiv, Nat.reduceMul, Int.reduceToNat, Int.reduceAdd, Int.cast_ofNat_Int] | refine And.intro (by omega) ?_))
    refine s_call (rtop_spec ty y c3 hy) (by simp (disch := omega) only [vm, ite_true, ite_false, eq_self, reduceIte, Nat.reduceEqDiff, Option.map, vst, List.length_cons, List.length_nil, List.set_cons_zero, List.set_cons_succ, List.map_cons, List.map_nil, Option.map_some, Option.bind_some, Nat.reduceAdd, Nat.reduceLT, Nat.reduceLeDiff, Nat.add_zero, and_self, k_ne, Nat.add_left_cancel_iff, ne_eq, Int.reduceEq, Int.reduceLT, Int.reduceLE, List.cons_append, List.nil_append, Nat.reduceDiv, Nat.reduceMul, Int.reduceToNat, Int.reduceAdd, Int.cast_ofNat_Int]) ?_
    rintro v c4 hc4 rfl
    by_cases g4 : x.top = y.top
    · have e4 : x.e + (bl x.m : Int) = y.e + (bl y.m : Int) := by unfold Dy.top at g4; omega
      rw [if_neg (by omega), if_neg (by omega)] at ec
      by_cases g5 : x.e ≤ y.e
      · obtain ⟨k, hk⟩ : ∃ k : Nat, y.e - x.e = (k : Int) := ⟨(y.e - x.e).toNat, by omega⟩
        rw [show (x.e - y.e).toNat = 0 by omega, show (y.e - x.e).toNat = k by omega, Nat.pow_zero, Nat.mul_one, hsx] at ec
        (repeat (first | refine v_reg ?_ | refine v_last ?_ | refine vwp_seq ?_ | refine vwp_block ?_ | refine vwp_skip ?_ | refine vwp_exit ?_ | refine vwp_ret ?_ | refine v_cond ?_ | simp (disch := omega) only [vm, ite_true, ite_false, eq_self, reduceIte, Nat.reduceEqDiff, Option.map, vst, List.length_cons, List.length_nil, List.set_cons_zero, List.set_cons_succ, List.map_cons, List.map_nil, Option.map_some, Option.bind_some, Nat.reduceAdd, Nat.reduceLT, Nat.reduceLeDiff, Nat.add_zero, and_self, k_ne, Nat.add_left_cancel_iff, ne_eq, Int.reduceEq, Int.reduceLT, Int.reduceLE, List.cons_append, List.nil_append, Nat.reduceDiv, Nat.reduceMul, Int.reduceToNat, Int.reduceAdd, Int.cast_ofNat_Int, g4, g5, hk] | refine And.intro (by omega) ?_))
        refine s_call (shift06_spec ty y.neg y.m k c4 hy.bits hym (by omega) (by rw [bl_shl hym]; omega)) (by simp (disch := omega) only [vm, ite_true, ite_false, eq_self, reduceIte, Nat.reduceEqDiff, Option.map, vst, List.length_cons, List.length_nil, List.set_cons_zero, List.set_cons_succ, List.map_cons, List.map_nil, Option.map_some, Option.bind_some, Nat.reduceAdd, Nat.reduceLT, Nat.reduceLeDiff, Nat.add_zero, and_self, k_ne, Nat.add_left_cancel_iff, ne_eq, Int.reduceEq, Int.reduceLT, Int.reduceLE, List.cons_append, List.nil_append, Nat.reduceDiv, Nat.reduceMul, Int.reduceToNat, Int.reduceAdd, Int.cast_ofNat_Int]) ?_
        rintro v c5 hc5 ⟨t5, rfl⟩
        rw [hneg]
        (repeat (first | refine v_reg ?_ | refine v_last ?_ | refine vwp_seq ?_ | refine vwp_block ?_ | refine vwp_skip ?_ | refine vwp_exit ?_ | refine vwp_ret ?_ | refine v_cond ?_ | simp (disch := omega) only [vm, ite_true, ite_false, eq_self, reduceIte, Nat.reduceEqDiff, Option.map, vst, List.length_cons, List.length_nil, List.set_cons_zero, List.set_cons_succ, List.map_cons, List.map_nil, Option.map_some, Option.bind_some, Nat.reduceAdd, Nat.reduceLT, Nat.reduceLeDiff, Nat.add_zero, and_self, k_ne, Nat.add_left_cancel_iff, ne_eq, Int.reduceEq, Int.reduceLT, Int.reduceLE, List.cons_append, List.nil_append, Nat.reduceDiv, Nat.reduceMul, Int.reduceToNat, Int.reduceAdd, Int.cast_ofNat_Int] | refine And.intro (by omega) ?_))
        refine s_call (cmp06_spec tx t5 x.neg x.m (y.m * 2 ^ k) c5 hx.bits (by rw [bl_shl hym]; omega)) (by simp (disch := omega) only [vm, ite_true, ite_false, eq_self, reduceIte, Nat.reduceEqDiff, Option.map, vst, List.length_cons, List.length_nil, List.set_cons_zero, List.set_cons_succ, List.map_cons, List.map_nil, Option.map_some, Option.bind_some, Nat.reduceAdd, Nat.reduceLT, Nat.reduceLeDiff, Nat.add_zero, and_self, k_ne, Nat.add_left_cancel_iff, ne_eq, Int.reduceEq, Int.reduceLT, Int.reduceLE, List.cons_append, List.nil_append, Nat.reduceDiv, Nat.reduceMul, Int.reduceToNat, Int.reduceAdd, Int.cast_ofNat_Int]) ?_
        rintro v c6 hc6 rfl
        have ec2 : R = if x.neg = true then - cmpI x.m (y.m * 2 ^ k) else cmpI x.m (y.m * 2 ^ k) := by rw [ec]; split <;> omega
        rw [← ec2]
        (repeat (first | refine v_reg ?_ | refine v_last ?_ | refine vwp_seq ?_ | refine vwp_block ?_ | refine vwp_skip ?_ | refine vwp_exit ?_ | refine vwp_ret ?_ | refine v_cond ?_ | simp (disch := omega) only [vm, ite_true, ite_false, eq_self, reduceIte, Nat.reduceEqDiff, Option.map, vst, List.length_cons, List.length_nil, List.set_cons_zero, List.set_cons_succ, List.map_cons, List.map_nil, Option.map_some, Option.bind_some, Nat.reduceAdd, Nat.reduceLT, Nat.reduceLeDiff, Nat.add_zero, and_self, k_ne, Nat.add_left_cancel_iff, ne_eq, Int.reduceEq, Int.reduceLT, Int.reduceLE, List.cons_append, List.nil_append, Nat.reduceDiv, Nat.reduceMul, Int.reduceToNat, Int.reduceAdd, Int.cast_ofNat_Int] | refine And.intro (by omega) ?_))
        (first | omega | rfl | ((repeat' apply And.intro) <;> first | rfl | omega | assumption))
      · obtain ⟨k, hk⟩ : ∃ k : Nat, x.e - y.e = (k : Int) := ⟨(x.e - y.e).toNat, by omega⟩
        rw [show (x.e - y.e).toNat = k by omega, show (y.e - x.e).toNat = 0 by omega, Nat.pow_zero, Nat.mul_one, hsx] at ec
        (repeat (first | refine v_reg ?_ | refine v_last ?_ | refine vwp_seq ?_ | refine vwp_block ?_ | refine vwp_skip ?_ | refine vwp_exit ?_ | refine vwp_ret ?_ | refine v_cond ?_ | simp (disch := omega) only [vm, ite_true, ite_false, eq_self, reduceIte, Nat.reduceEqDiff, Option.map, vst, List.length_cons, List.length_nil, List.set_cons_zero, List.set_cons_succ, List.map_cons, List.map_nil, Option.map_some, Option.bind_some, Nat.reduceAdd, Nat.reduceLT, Nat.reduceLeDiff, Nat.add_zero, and_self, k_ne, Nat.add_left_cancel_iff, ne_eq, Int.reduceEq, Int.reduceLT, Int.reduceLE, List.cons_append, List.nil_append, Nat.reduceDiv, Nat.reduceMul, Int.reduceToNat, Int.reduceAdd, Int.cast_ofNat_Int, g4, g5, hk] | refine And.intro (by omega) ?_))
        refine s_call (shift06_spec tx x.neg x.m k c4 hx.bits hxm (by omega) (by rw [bl_shl hxm]; omega)) (by simp (disch := omega) only [vm, ite_true, ite_false, eq_self, reduceIte, Nat.reduceEqDiff, Option.map, vst, List.length_cons, List.length_nil, List.set_cons_zero, List.set_cons_succ, List.map_cons, List.map_nil, Option.map_some, Option.bind_some, Nat.reduceAdd, Nat.reduceLT, Nat.reduceLeDiff, Nat.add_zero, and_self, k_ne, Nat.add_left_cancel_iff, ne_eq, Int.reduceEq, Int.reduceLT, Int.reduceLE, List.cons_append, List.nil_append, Nat.reduceDiv, Nat.reduceMul, Int.reduceToNat, Int.reduceAdd, Int.cast_ofNat_Int]) ?_
        rintro v c5 hc5 ⟨t5, rfl⟩
        (repeat (first | refine v_reg ?_ | refine v_last ?_ | refine vwp_seq ?_ | refine vwp_block ?_ | refine vwp_skip ?_ | refine vwp_exit ?_ | refine vwp_ret ?_ | refine v_cond ?_ | simp (disch := omega) only [vm, ite_true, ite_false, eq_self, reduceIte, Nat.reduceEqDiff, Option.map, vst, List.length_cons, List.length_nil, List.set_cons_zero, List.set_cons_succ, List.map_cons, List.map_nil, Option.map_some, Option.bind_some, Nat.reduceAdd, Nat.reduceLT, Nat.reduceLeDiff, Nat.add_zero, and_self, k_ne, Nat.add_left_cancel_iff, ne_eq, Int.reduceEq, Int.reduceLT, Int.reduceLE, List.cons_append, List.nil_append, Nat.reduceDiv, Nat.reduceMul, Int.reduceToNat, Int.reduceAdd, Int.cast_ofNat_Int, hneg] | refine And.intro (by omega) ?_))
        refine s_call (cmp06_spec t5 ty x.neg (x.m * 2 ^ k) y.m c5 (by rw [bl_shl hxm]; omega) hy.bits) (by simp (disch := omega) only [vm, ite_true, ite_false, eq_self, reduceIte, Nat.reduceEqDiff, Option.map, vst, List.length_cons, List.length_nil, List.set_cons_zero, List.set_cons_succ, List.map_cons, List.map_nil, Option.map_some, Option.bind_some, Nat.reduceAdd, Nat.reduceLT, Nat.reduceLeDiff, Nat.add_zero, and_self, k_ne, Nat.add_left_cancel_iff, ne_eq, Int.reduceEq, Int.reduceLT, Int.reduceLE, List.cons_append, List.nil_append, Nat.reduceDiv, Nat.reduceMul, Int.reduceToNat, Int.reduceAdd, Int.cast_ofNat_Int, hneg]) ?_
        rintro v c6 hc6 rfl
        have ec2 : R = if x.neg = true then - cmpI (x.m * 2 ^ k) y.m else cmpI (x.m * 2 ^ k) y.m := by rw [ec]; split <;> omega
        rw [← ec2]
        (repeat (first | refine v_reg ?_ | refine v_last ?_ | refine vwp_seq ?_ | refine vwp_block ?_ | refine vwp_skip ?_ | refine vwp_exit ?_ | refine vwp_ret ?_ | refine v_cond ?_ | simp (disch := omega) only [vm, ite_true, ite_false, eq_self, reduceIte, Nat.reduceEqDiff, Option.map, vst, List.length_cons, List.length_nil, List.set_cons_zero, List.set_cons_succ, List.map_cons, List.map_nil, Option.map_some, Option.bind_some, Nat.reduceAdd, Nat.reduceLT, Nat.reduceLeDiff, Nat.add_zero, and_self, k_ne, Nat.add_left_cancel_iff, ne_eq, Int.reduceEq, Int.reduceLT, Int.reduceLE, List.cons_append, List.nil_append, Nat.reduceDiv, Nat.reduceMul, Int.reduceToNat, Int.reduceAdd, Int.cast_ofNat_Int] | refine And.intro (by omega) ?_))
        (first | omega | rfl | ((repeat' apply And.intro) <;> first | rfl | omega | assumption))
    · (repeat (first | refine v_reg ?_ | refine v_last ?_ | refine vwp_seq ?_ | refine vwp_block ?_ | refine vwp_skip ?_ | refine vwp_exit ?_ | refine vwp_ret ?_ | refine v_cond ?_ | simp (disch := omega) only [vm, ite_true, ite_false, eq_self, reduceIte, Nat.reduceEqDiff, Option.map, vst, List.length_cons, List.length_nil, List.set_cons_zero, List.set_cons_succ, List.map_cons, List.map_nil, Option.map_some, Option.bind_some, Nat.reduceAdd, Nat.reduceLT, Nat.reduceLeDiff, Nat.add_zero, and_self, k_ne, Nat.add_left_cancel_iff, ne_eq, Int.reduceEq, Int.reduceLT, Int.reduceLE, List.cons_append, List.nil_append, Nat.reduceDiv, Nat.reduceMul, Int.reduceToNat, Int.reduceAdd, Int.cast_ofNat_Int, g4] | refine And.intro (by omega) ?_))
      refine s_call (rtop_spec tx x c4 hx) (by simp (disch := omega) only [vm, ite_true, ite_false, eq_self, reduceIte, Nat.reduceEqDiff, Option.map, vst, List.length_cons, List.length_nil, List.set_cons_zero, List.set_cons_succ, List.map_cons, List.map_nil, Option.map_some, Option.bind_some, Nat.reduceAdd, Nat.reduceLT, Nat.reduceLeDiff, Nat.add_zero, and_self, k_ne, Nat.add_left_cancel_iff, ne_eq, Int.reduceEq, Int.reduceLT, Int.reduceLE, List.cons_append, List.nil_append, Nat.reduceDiv, Nat.reduceMul, Int.reduceToNat, Int.reduceAdd, Int.cast_ofNat_Int]) ?_
      rintro v c5 hc5 rfl
      (repeat (first | refine v_reg ?_ | refine v_last ?_ | refine vwp_seq ?_ | refine vwp_block ?_ | refine vwp_skip ?_ | refine vwp_exit ?_ | refine vwp_ret ?_ | refine v_cond ?_ | simp (disch := omega) only [vm, ite_true, ite_false, eq_self, reduceIte, Nat.reduceEqDiff, Option.map, vst, List.length_cons, List.length_nil, List.set_cons_zero, List.set_cons_succ, List.map_cons, List.map_nil, Option.map_some, Option.bind_some, Nat.reduceAdd, Nat.reduceLT, Nat.reduceLeDiff, Nat.add_zero, and_self, k_ne, Nat.add_left_cancel_iff, ne_eq, Int.reduceEq, Int.reduceLT, Int.reduceLE, List.cons_append, List.nil_append, Nat.reduceDiv, Nat.reduceMul, Int.reduceToNat, Int.reduceAdd, Int.cast_ofNat_Int] | refine And.intro (by omega) ?_))
      refine s_call (rtop_spec ty y c5 hy) (by simp (disch := omega) only [vm, ite_true, ite_false, eq_self, reduceIte, Nat.reduceEqDiff, Option.map, vst, List.length_cons, List.length_nil, List.set_cons_zero, List.set_cons_succ, List.map_cons, List.map_nil, Option.map_some, Option.bind_some, Nat.reduceAdd, Nat.reduceLT, Nat.reduceLeDiff, Nat.add_zero, and_self, k_ne, Nat.add_left_cancel_iff, ne_eq, Int.reduceEq, Int.reduceLT, Int.reduceLE, List.cons_append, List.nil_append, Nat.reduceDiv, Nat.reduceMul, Int.reduceToNat, Int.reduceAdd, Int.cast_ofNat_Int]) ?_
      rintro v c6 hc6 rfl
      by_cases g5 : x.top < y.top
      · rw [if_pos g5] at ec
        (repeat (first | refine v_reg ?_ | refine v_last ?_ | refine vwp_seq ?_ | refine vwp_block ?_ | refine vwp_skip ?_ | refine vwp_exit ?_ | refine vwp_ret ?_ | refine v_cond ?_ | simp (disch := omega) only [vm, ite_true, ite_false, eq_self, reduceIte, Nat.reduceEqDiff, Option.map, vst, List.length_cons, List.length_nil, List.set_cons_zero, List.set_cons_succ, List.map_cons, List.map_nil, Option.map_some, Option.bind_some, Nat.reduceAdd, Nat.reduceLT, Nat.reduceLeDiff, Nat.add_zero, and_self, k_ne, Nat.add_left_cancel_iff, ne_eq, Int.reduceEq, Int.reduceLT, Int.reduceLE, List.cons_append, List.nil_append, Nat.reduceDiv, Nat.reduceMul, Int.reduceToNat, Int.reduceAdd, Int.cast_ofNat_Int, g4, g5, n_neg'] | refine And.intro (by omega) ?_))
        rw [ec]
      · rw [if_neg g5, if_pos (by omega)] at ec
        (repeat (first | refine v_reg ?_ | refine v_last ?_ | refine vwp_seq ?_ | refine vwp_block ?_ | refine vwp_skip ?_ | refine vwp_exit ?_ | refine vwp_ret ?_ | refine v_cond ?_ | simp (disch := omega) only [vm, ite_true, ite_false, eq_self, reduceIte, Nat.reduceEqDiff, Option.map, vst, List.length_cons, List.length_nil, List.set_cons_zero, List.set_cons_succ, List.map_cons, List.map_nil, Option.map_some, Option.bind_some, Nat.reduceAdd, Nat.reduceLT, Nat.reduceLeDiff, Nat.add_zero, and_self, k_ne, Nat.add_left_cancel_iff, ne_eq, Int.reduceEq, Int.reduceLT, Int.reduceLE, List.cons_append, List.nil_append, Nat.reduceDiv, Nat.reduceMul, Int.reduceToNat, Int.reduceAdd, Int.cast_ofNat_Int, g4, g5] | refine And.intro (by omega) ?_))
        rw [ec]
  · by_cases g1 : x.sg < y.sg
    · have ec : cmpD x y = -1 := by unfold cmpD; rw [if_pos g1]
      rw [ec]
      (repeat (first | refine v_reg ?_ | refine v_last ?_ | refine vwp_seq ?_ | refine vwp_block ?_ | refine vwp_skip ?_ | refine vwp_exit ?_ | refine vwp_ret ?_ | refine v_cond ?_ | simp (disch := omega) only [vm, ite_true, ite_false, eq_self, reduceIte, Nat.reduceEqDiff, Option.map, vst, List.length_cons, List.length_nil, List.set_cons_zero, List.set_cons_succ, List.map_cons, List.map_nil, Option.map_some, Option.bind_some, Nat.reduceAdd, Nat.reduceLT, Nat.reduceLeDiff, Nat.add_zero, and_self, k_ne, Nat.add_left_cancel_iff, ne_eq, Int.reduceEq, Int.reduceLT, Int.reduceLE, List.cons_append, List.nil_append, Nat.reduceDiv, Nat.reduceMul, Int.reduceToNat, Int.reduceAdd, Int.cast_ofNat_Int, g0, g1] | refine And.intro (by omega) ?_))
      (first | omega | rfl | ((repeat' apply And.intro) <;> first | rfl | omega | assumption))
    · have ec : cmpD x y = 1 := by unfold cmpD; rw [if_neg g1, if_pos (by omega)]
      rw [ec]
      (repeat (first | refine v_reg ?_ | refine v_last ?_ | refine vwp_seq ?_ | refine vwp_block ?_ | refine vwp_skip ?_ | refine vwp_exit ?_ | refine vwp_ret ?_ | refine v_cond ?_ | simp (disch := omega) only [vm, ite_true, ite_false, eq_self, reduceIte, Nat.reduceEqDiff, Option.map, vst, List.length_cons, List.length_nil, List.set_cons_zero, List.set_cons_succ, List.map_cons, List.map_nil, Option.map_some, Option.bind_some, Nat.reduceAdd, Nat.reduceLT, Nat.reduceLeDiff, Nat.add_zero, and_self, k_ne, Nat.add_left_cancel_iff, ne_eq, Int.reduceEq, Int.reduceLT, Int.reduceLE, List.cons_append, List.nil_append, Nat.reduceDiv, Nat.reduceMul, Int.reduceToNat, Int.reduceAdd, Int.cast_ofNat_Int, g0, g1] | refine And.intro (by omega) ?_))
      (first | omega | rfl | ((repeat' apply And.intro) <;> first | rfl | omega | assumption))
end Go.Proofs.YtacodmnlnlbahaaGreatDoor
set_option linter.unusedSimpArgs false
set_option linter.unusedVariables false
set_option maxRecDepth 100000
set_option maxHeartbeats 8000000
namespace Go.Proofs.YtacodmnlnlbahaaGreatDoor
open Go.VM

theorem dyOf_zneg (neg : Bool) (n : Nat) (e : Int) : dyOf (zneg neg n) n e = dyOf neg n e := by
  unfold dyOf zneg
  by_cases g : n = 0
  · rw [if_pos g, if_pos g]
  · rw [if_neg g, if_neg g, decide_eq_false g]
    simp
theorem zneg_zero {neg : Bool} {n : Nat} (h : n = 0) : zneg neg n = false := by unfold zneg; rw [decide_eq_true h]; simp
theorem dyad_spec (t : Tok) (a : RD) (c : Nat) (ha : a.Ok) : VSpec Tryz.prog F.surdlaw10_dyad c [rdV t a] (fun r _ => ∃ tk, r = fV tk a.d) := by
  refine spec_mk hm E.surdlaw10_dyad B.surdlaw10_dyad K.surdlaw10_dyad Q.surdlaw10_dyad (by rw [N.surdlaw10_dyad]; simp) ?_
  unfold C.surdlaw10_dyad R.surdlaw10_dyad
  have hb := ha.arg.bl
  have he := ha.fit
  unfold fitE at he
  (repeat (first | refine v_reg ?_ | refine v_last ?_ | refine vwp_seq ?_ | refine vwp_block ?_ | refine vwp_skip ?_ | refine vwp_exit ?_ | refine vwp_ret ?_ | refine v_cond ?_ | simp (maxSteps := 4000000) (disch := omega) only [vm, ite_true, ite_false, eq_self, reduceIte, Nat.reduceEqDiff, Option.map, vst, List.length_cons, List.length_nil, List.set_cons_zero, List.set_cons_succ, List.map_cons, List.map_nil, Option.map_some, Option.bind_some, Nat.reduceAdd, Nat.reduceLT, Nat.reduceLeDiff, Nat.add_zero, and_self, k_ne, Nat.add_left_cancel_iff, ne_eq, Int.reduceEq, Int.reduceLT, Int.reduceLE, List.cons_append, List.nil_append, Nat.reduceDiv, Nat.reduceMul, Int.reduceToNat, Int.reduceAdd, Int.cast_ofNat_Int] | refine And.intro (by omega) ?_))
  refine s_call (of06_spec a.neg t a.l (c + 1 + 1) ha.arg) (by simp (maxSteps := 4000000) (disch := omega) only [vm, ite_true, ite_false, eq_self, reduceIte, Nat.reduceEqDiff, Option.map, vst, List.length_cons, List.length_nil, List.set_cons_zero, List.set_cons_succ, List.map_cons, List.map_nil, Option.map_some, Option.bind_some, Nat.reduceAdd, Nat.reduceLT, Nat.reduceLeDiff, Nat.add_zero, and_self, k_ne, Nat.add_left_cancel_iff, ne_eq, Int.reduceEq, Int.reduceLT, Int.reduceLE, List.cons_append, List.nil_append, Nat.reduceDiv, Nat.reduceMul, Int.reduceToNat, Int.reduceAdd, Int.cast_ofNat_Int]) ?_
  rintro v c1 hc1 ⟨tk, rfl⟩
  (repeat (first | refine v_reg ?_ | refine v_last ?_ | refine vwp_seq ?_ | refine vwp_block ?_ | refine vwp_skip ?_ | refine vwp_exit ?_ | refine vwp_ret ?_ | refine v_cond ?_ | simp (maxSteps := 4000000) (disch := omega) only [vm, ite_true, ite_false, eq_self, reduceIte, Nat.reduceEqDiff, Option.map, vst, List.length_cons, List.length_nil, List.set_cons_zero, List.set_cons_succ, List.map_cons, List.map_nil, Option.map_some, Option.bind_some, Nat.reduceAdd, Nat.reduceLT, Nat.reduceLeDiff, Nat.add_zero, and_self, k_ne, Nat.add_left_cancel_iff, ne_eq, Int.reduceEq, Int.reduceLT, Int.reduceLE, List.cons_append, List.nil_append, Nat.reduceDiv, Nat.reduceMul, Int.reduceToNat, Int.reduceAdd, Int.cast_ofNat_Int] | refine And.intro (by omega) ?_))
  refine s_call (of08_spec (zneg a.neg (val 18446744073709551616 a.l)) tk (val 18446744073709551616 a.l) a.e c1 (by omega) zneg_zero (by omega) (by omega)) (by simp (maxSteps := 4000000) (disch := omega) only [vm, ite_true, ite_false, eq_self, reduceIte, Nat.reduceEqDiff, Option.map, vst, List.length_cons, List.length_nil, List.set_cons_zero, List.set_cons_succ, List.map_cons, List.map_nil, Option.map_some, Option.bind_some, Nat.reduceAdd, Nat.reduceLT, Nat.reduceLeDiff, Nat.add_zero, and_self, k_ne, Nat.add_left_cancel_iff, ne_eq, Int.reduceEq, Int.reduceLT, Int.reduceLE, List.cons_append, List.nil_append, Nat.reduceDiv, Nat.reduceMul, Int.reduceToNat, Int.reduceAdd, Int.cast_ofNat_Int]) ?_
  rw [dyOf_zneg]
  rintro v c2 hc2 ⟨tk2, rfl⟩
  (repeat (first | refine v_reg ?_ | refine v_last ?_ | refine vwp_seq ?_ | refine vwp_block ?_ | refine vwp_skip ?_ | refine vwp_exit ?_ | refine vwp_ret ?_ | refine v_cond ?_ | simp (maxSteps := 4000000) (disch := omega) only [vm, ite_true, ite_false, eq_self, reduceIte, Nat.reduceEqDiff, Option.map, vst, List.length_cons, List.length_nil, List.set_cons_zero, List.set_cons_succ, List.map_cons, List.map_nil, Option.map_some, Option.bind_some, Nat.reduceAdd, Nat.reduceLT, Nat.reduceLeDiff, Nat.add_zero, and_self, k_ne, Nat.add_left_cancel_iff, ne_eq, Int.reduceEq, Int.reduceLT, Int.reduceLE, List.cons_append, List.nil_append, Nat.reduceDiv, Nat.reduceMul, Int.reduceToNat, Int.reduceAdd, Int.cast_ofNat_Int] | refine And.intro (by omega) ?_))
  exact ⟨tk2, rfl⟩
def okL (f : Int) (d : Dy) : Dy := if f = 0 then d else dy0
theorem ofS_spec (t u : Tok) (a b : RD) (c : Nat) (ha : Arg a.l) (hb : Arg b.l) : VSpec Tryz.prog F.surdlaw10_of c [rsV t u a b] (fun r _ => ∃ tk uk, r = .tup [fsV tk uk (okL (chkE a b) a.d) (okL (chkE a b) b.d), iv (chkE a b)]) := by
  refine spec_mk hm E.surdlaw10_of B.surdlaw10_of K.surdlaw10_of Q.surdlaw10_of (by rw [N.surdlaw10_of]; simp) ?_
  unfold C.surdlaw10_of R.surdlaw10_of
  (repeat (first | refine v_reg ?_ | refine v_last ?_ | refine vwp_seq ?_ | refine vwp_block ?_ | refine vwp_skip ?_ | refine vwp_exit ?_ | refine vwp_ret ?_ | refine v_cond ?_ | simp (maxSteps := 4000000) (disch := omega) only [vm, ite_true, ite_false, eq_self, reduceIte, Nat.reduceEqDiff, Option.map, vst, List.length_cons, List.length_nil, List.set_cons_zero, List.set_cons_succ, List.map_cons, List.map_nil, Option.map_some, Option.bind_some, Nat.reduceAdd, Nat.reduceLT, Nat.reduceLeDiff, Nat.add_zero, and_self, k_ne, Nat.add_left_cancel_iff, ne_eq, Int.reduceEq, Int.reduceLT, Int.reduceLE, List.cons_append, List.nil_append, Nat.reduceDiv, Nat.reduceMul, Int.reduceToNat, Int.reduceAdd, Int.cast_ofNat_Int] | refine And.intro (by omega) ?_))
  refine s_call (fits_spec' a.e (c + 1 + 1)) (by simp (maxSteps := 4000000) (disch := omega) only [vm, ite_true, ite_false, eq_self, reduceIte, Nat.reduceEqDiff, Option.map, vst, List.length_cons, List.length_nil, List.set_cons_zero, List.set_cons_succ, List.map_cons, List.map_nil, Option.map_some, Option.bind_some, Nat.reduceAdd, Nat.reduceLT, Nat.reduceLeDiff, Nat.add_zero, and_self, k_ne, Nat.add_left_cancel_iff, ne_eq, Int.reduceEq, Int.reduceLT, Int.reduceLE, List.cons_append, List.nil_append, Nat.reduceDiv, Nat.reduceMul, Int.reduceToNat, Int.reduceAdd, Int.cast_ofNat_Int]) ?_
  rintro v c1 hc1 rfl
  by_cases h1 : fitE a.e
  · (repeat (first | refine v_reg ?_ | refine v_last ?_ | refine vwp_seq ?_ | refine vwp_block ?_ | refine vwp_skip ?_ | refine vwp_exit ?_ | refine vwp_ret ?_ | refine v_cond ?_ | simp (maxSteps := 4000000) (disch := omega) only [vm, ite_true, ite_false, eq_self, reduceIte, Nat.reduceEqDiff, Option.map, vst, List.length_cons, List.length_nil, List.set_cons_zero, List.set_cons_succ, List.map_cons, List.map_nil, Option.map_some, Option.bind_some, Nat.reduceAdd, Nat.reduceLT, Nat.reduceLeDiff, Nat.add_zero, and_self, k_ne, Nat.add_left_cancel_iff, ne_eq, Int.reduceEq, Int.reduceLT, Int.reduceLE, List.cons_append, List.nil_append, Nat.reduceDiv, Nat.reduceMul, Int.reduceToNat, Int.reduceAdd, Int.cast_ofNat_Int, h1] | refine And.intro (by omega) ?_))
    refine s_call (fits_spec' b.e c1) (by simp (maxSteps := 4000000) (disch := omega) only [vm, ite_true, ite_false, eq_self, reduceIte, Nat.reduceEqDiff, Option.map, vst, List.length_cons, List.length_nil, List.set_cons_zero, List.set_cons_succ, List.map_cons, List.map_nil, Option.map_some, Option.bind_some, Nat.reduceAdd, Nat.reduceLT, Nat.reduceLeDiff, Nat.add_zero, and_self, k_ne, Nat.add_left_cancel_iff, ne_eq, Int.reduceEq, Int.reduceLT, Int.reduceLE, List.cons_append, List.nil_append, Nat.reduceDiv, Nat.reduceMul, Int.reduceToNat, Int.reduceAdd, Int.cast_ofNat_Int]) ?_
    rintro v c2 hc2 rfl
    by_cases h2 : fitE b.e
    · have oa : a.Ok := ⟨ha, h1⟩
      have ob : b.Ok := ⟨hb, h2⟩
      have e1 : chkE a b = if 0 < cmpD a.d b.d then 100 else 0 := by unfold chkE; rw [if_pos ⟨h1, h2⟩]
      (repeat (first | refine v_reg ?_ | refine v_last ?_ | refine vwp_seq ?_ | refine vwp_block ?_ | refine vwp_skip ?_ | refine vwp_exit ?_ | refine vwp_ret ?_ | refine v_cond ?_ | simp (maxSteps := 4000000) (disch := omega) only [vm, ite_true, ite_false, eq_self, reduceIte, Nat.reduceEqDiff, Option.map, vst, List.length_cons, List.length_nil, List.set_cons_zero, List.set_cons_succ, List.map_cons, List.map_nil, Option.map_some, Option.bind_some, Nat.reduceAdd, Nat.reduceLT, Nat.reduceLeDiff, Nat.add_zero, and_self, k_ne, Nat.add_left_cancel_iff, ne_eq, Int.reduceEq, Int.reduceLT, Int.reduceLE, List.cons_append, List.nil_append, Nat.reduceDiv, Nat.reduceMul, Int.reduceToNat, Int.reduceAdd, Int.cast_ofNat_Int, h1, h2] | refine And.intro (by omega) ?_))
      refine s_call (dyad_spec t a c2 oa) (by simp (maxSteps := 4000000) (disch := omega) only [vm, ite_true, ite_false, eq_self, reduceIte, Nat.reduceEqDiff, Option.map, vst, List.length_cons, List.length_nil, List.set_cons_zero, List.set_cons_succ, List.map_cons, List.map_nil, Option.map_some, Option.bind_some, Nat.reduceAdd, Nat.reduceLT, Nat.reduceLeDiff, Nat.add_zero, and_self, k_ne, Nat.add_left_cancel_iff, ne_eq, Int.reduceEq, Int.reduceLT, Int.reduceLE, List.cons_append, List.nil_append, Nat.reduceDiv, Nat.reduceMul, Int.reduceToNat, Int.reduceAdd, Int.cast_ofNat_Int]) ?_
      rintro v c3 hc3 ⟨tk, rfl⟩
      (repeat (first | refine v_reg ?_ | refine v_last ?_ | refine vwp_seq ?_ | refine vwp_block ?_ | refine vwp_skip ?_ | refine vwp_exit ?_ | refine vwp_ret ?_ | refine v_cond ?_ | simp (maxSteps := 4000000) (disch := omega) only [vm, ite_true, ite_false, eq_self, reduceIte, Nat.reduceEqDiff, Option.map, vst, List.length_cons, List.length_nil, List.set_cons_zero, List.set_cons_succ, List.map_cons, List.map_nil, Option.map_some, Option.bind_some, Nat.reduceAdd, Nat.reduceLT, Nat.reduceLeDiff, Nat.add_zero, and_self, k_ne, Nat.add_left_cancel_iff, ne_eq, Int.reduceEq, Int.reduceLT, Int.reduceLE, List.cons_append, List.nil_append, Nat.reduceDiv, Nat.reduceMul, Int.reduceToNat, Int.reduceAdd, Int.cast_ofNat_Int, h1, h2] | refine And.intro (by omega) ?_))
      refine s_call (dyad_spec u b c3 ob) (by simp (maxSteps := 4000000) (disch := omega) only [vm, ite_true, ite_false, eq_self, reduceIte, Nat.reduceEqDiff, Option.map, vst, List.length_cons, List.length_nil, List.set_cons_zero, List.set_cons_succ, List.map_cons, List.map_nil, Option.map_some, Option.bind_some, Nat.reduceAdd, Nat.reduceLT, Nat.reduceLeDiff, Nat.add_zero, and_self, k_ne, Nat.add_left_cancel_iff, ne_eq, Int.reduceEq, Int.reduceLT, Int.reduceLE, List.cons_append, List.nil_append, Nat.reduceDiv, Nat.reduceMul, Int.reduceToNat, Int.reduceAdd, Int.cast_ofNat_Int]) ?_
      rintro v c4 hc4 ⟨uk, rfl⟩
      (repeat (first | refine v_reg ?_ | refine v_last ?_ | refine vwp_seq ?_ | refine vwp_block ?_ | refine vwp_skip ?_ | refine vwp_exit ?_ | refine vwp_ret ?_ | refine v_cond ?_ | simp (maxSteps := 4000000) (disch := omega) only [vm, ite_true, ite_false, eq_self, reduceIte, Nat.reduceEqDiff, Option.map, vst, List.length_cons, List.length_nil, List.set_cons_zero, List.set_cons_succ, List.map_cons, List.map_nil, Option.map_some, Option.bind_some, Nat.reduceAdd, Nat.reduceLT, Nat.reduceLeDiff, Nat.add_zero, and_self, k_ne, Nat.add_left_cancel_iff, ne_eq, Int.reduceEq, Int.reduceLT, Int.reduceLE, List.cons_append, List.nil_append, Nat.reduceDiv, Nat.reduceMul, Int.reduceToNat, Int.reduceAdd, Int.cast_ofNat_Int, h1, h2, nb_app] | refine And.intro (by omega) ?_))
      refine s_call (rcmp_spec tk uk a.d b.d (c4 + 1) oa.num.r ob.num.r) (by simp (maxSteps := 4000000) (disch := omega) only [vm, ite_true, ite_false, eq_self, reduceIte, Nat.reduceEqDiff, Option.map, vst, List.length_cons, List.length_nil, List.set_cons_zero, List.set_cons_succ, List.map_cons, List.map_nil, Option.map_some, Option.bind_some, Nat.reduceAdd, Nat.reduceLT, Nat.reduceLeDiff, Nat.add_zero, and_self, k_ne, Nat.add_left_cancel_iff, ne_eq, Int.reduceEq, Int.reduceLT, Int.reduceLE, List.cons_append, List.nil_append, Nat.reduceDiv, Nat.reduceMul, Int.reduceToNat, Int.reduceAdd, Int.cast_ofNat_Int]) ?_
      rintro v c5 hc5 rfl
      by_cases g : 0 < cmpD a.d b.d
      · rw [if_pos g] at e1
        rw [e1]
        (repeat (first | refine v_reg ?_ | refine v_last ?_ | refine vwp_seq ?_ | refine vwp_block ?_ | refine vwp_skip ?_ | refine vwp_exit ?_ | refine vwp_ret ?_ | refine v_cond ?_ | simp (maxSteps := 4000000) (disch := omega) only [vm, ite_true, ite_false, eq_self, reduceIte, Nat.reduceEqDiff, Option.map, vst, List.length_cons, List.length_nil, List.set_cons_zero, List.set_cons_succ, List.map_cons, List.map_nil, Option.map_some, Option.bind_some, Nat.reduceAdd, Nat.reduceLT, Nat.reduceLeDiff, Nat.add_zero, and_self, k_ne, Nat.add_left_cancel_iff, ne_eq, Int.reduceEq, Int.reduceLT, Int.reduceLE, List.cons_append, List.nil_append, Nat.reduceDiv, Nat.reduceMul, Int.reduceToNat, Int.reduceAdd, Int.cast_ofNat_Int, g] | refine And.intro (by omega) ?_))
        exact ⟨.nil, .nil, rfl⟩
      · rw [if_neg g] at e1
        rw [e1]
        (repeat (first | refine v_reg ?_ | refine v_last ?_ | refine vwp_seq ?_ | refine vwp_block ?_ | refine vwp_skip ?_ | refine vwp_exit ?_ | refine vwp_ret ?_ | refine v_cond ?_ | simp (maxSteps := 4000000) (disch := omega) only [vm, ite_true, ite_false, eq_self, reduceIte, Nat.reduceEqDiff, Option.map, vst, List.length_cons, List.length_nil, List.set_cons_zero, List.set_cons_succ, List.map_cons, List.map_nil, Option.map_some, Option.bind_some, Nat.reduceAdd, Nat.reduceLT, Nat.reduceLeDiff, Nat.add_zero, and_self, k_ne, Nat.add_left_cancel_iff, ne_eq, Int.reduceEq, Int.reduceLT, Int.reduceLE, List.cons_append, List.nil_append, Nat.reduceDiv, Nat.reduceMul, Int.reduceToNat, Int.reduceAdd, Int.cast_ofNat_Int, g] | refine And.intro (by omega) ?_))
        exact ⟨tk, uk, rfl⟩
    · have e1 : chkE a b = 80 := by unfold chkE; rw [if_neg fun h => h2 h.2]
      rw [e1]
      (repeat (first | refine v_reg ?_ | refine v_last ?_ | refine vwp_seq ?_ | refine vwp_block ?_ | refine vwp_skip ?_ | refine vwp_exit ?_ | refine vwp_ret ?_ | refine v_cond ?_ | simp (maxSteps := 4000000) (disch := omega) only [vm, ite_true, ite_false, eq_self, reduceIte, Nat.reduceEqDiff, Option.map, vst, List.length_cons, List.length_nil, List.set_cons_zero, List.set_cons_succ, List.map_cons, List.map_nil, Option.map_some, Option.bind_some, Nat.reduceAdd, Nat.reduceLT, Nat.reduceLeDiff, Nat.add_zero, and_self, k_ne, Nat.add_left_cancel_iff, ne_eq, Int.reduceEq, Int.reduceLT, Int.reduceLE, List.cons_append, List.nil_append, Nat.reduceDiv, Nat.reduceMul, Int.reduceToNat, Int.reduceAdd, Int.cast_ofNat_Int, h1, h2] | refine And.intro (by omega) ?_))
      exact ⟨.nil, .nil, rfl⟩
  · have e1 : chkE a b = 80 := by unfold chkE; rw [if_neg fun h => h1 h.1]
    rw [e1]
    (repeat (first | refine v_reg ?_ | refine v_last ?_ | refine vwp_seq ?_ | refine vwp_block ?_ | refine vwp_skip ?_ | refine vwp_exit ?_ | refine vwp_ret ?_ | refine v_cond ?_ | simp (maxSteps := 4000000) (disch := omega) only [vm, ite_true, ite_false, eq_self, reduceIte, Nat.reduceEqDiff, Option.map, vst, List.length_cons, List.length_nil, List.set_cons_zero, List.set_cons_succ, List.map_cons, List.map_nil, Option.map_some, Option.bind_some, Nat.reduceAdd, Nat.reduceLT, Nat.reduceLeDiff, Nat.add_zero, and_self, k_ne, Nat.add_left_cancel_iff, ne_eq, Int.reduceEq, Int.reduceLT, Int.reduceLE, List.cons_append, List.nil_append, Nat.reduceDiv, Nat.reduceMul, Int.reduceToNat, Int.reduceAdd, Int.cast_ofNat_Int, h1] | refine And.intro (by omega) ?_))
    exact ⟨.nil, .nil, rfl⟩

theorem num10_spec (n : Int) (c : Nat) : VSpec Tryz.prog F.surdlaw10_num c [iv n] (fun r _ => r = iv n) := by
  refine spec_mk hm E.surdlaw10_num B.surdlaw10_num K.surdlaw10_num Q.surdlaw10_num (by rw [N.surdlaw10_num]; simp) ?_
  unfold C.surdlaw10_num R.surdlaw10_num
  (repeat (first | refine v_reg ?_ | refine v_last ?_ | refine vwp_seq ?_ | refine vwp_block ?_ | refine vwp_skip ?_ | refine vwp_exit ?_ | refine vwp_ret ?_ | refine v_cond ?_ | simp only [vm, ite_true, ite_false, eq_self, reduceIte, Nat.reduceEqDiff, Option.map] | refine And.intro (by omega) ?_))
  exact Nat.le_refl _
theorem zis_spec (t u : Tok) (d : Dy) (neg : Bool) (l : List Nat) (c : Nat) (hb : bl d.m ≤ 68719476736) (hneg : d.neg = neg) (hl : l = digs 18446744073709551616 d.m) : VSpec Tryz.prog F.surdref06_Z_Is c [zV t d.neg d.m, bv neg, nats u l] (fun r _ => r = bv true) := by
  refine spec_mk hm E.surdref06_Z_Is B.surdref06_Z_Is K.surdref06_Z_Is Q.surdref06_Z_Is (by rw [N.surdref06_Z_Is]; simp) ?_
  unfold C.surdref06_Z_Is R.surdref06_Z_Is
  subst hneg hl
  (repeat (first | refine v_reg ?_ | refine v_last ?_ | refine vwp_seq ?_ | refine vwp_block ?_ | refine vwp_skip ?_ | refine vwp_exit ?_ | refine vwp_ret ?_ | refine v_cond ?_ | simp (maxSteps := 4000000) (disch := omega) only [vm, ite_true, ite_false, eq_self, reduceIte, Nat.reduceEqDiff, Option.map, vst, List.length_cons, List.length_nil, List.set_cons_zero, List.set_cons_succ, List.map_cons, List.map_nil, Option.map_some, Option.bind_some, Nat.reduceAdd, Nat.reduceLT, Nat.reduceLeDiff, Nat.add_zero, and_self, k_ne, Nat.add_left_cancel_iff, ne_eq, Int.reduceEq, Int.reduceLT, Int.reduceLE, List.cons_append, List.nil_append, Nat.reduceDiv, Nat.reduceMul, Int.reduceToNat, Int.reduceAdd, Int.cast_ofNat_Int] | refine And.intro (by omega) ?_))
  refine s_call (is_spec t u d.m (digs 18446744073709551616 d.m) (c + 1) (Nat.le_trans (digs32_len hb) (by decide)) (by have := digs_len_bl (m := d.m) (k := 1073741824) (by omega); omega)) (by simp (maxSteps := 4000000) (disch := omega) only [vm, ite_true, ite_false, eq_self, reduceIte, Nat.reduceEqDiff, Option.map, vst, List.length_cons, List.length_nil, List.set_cons_zero, List.set_cons_succ, List.map_cons, List.map_nil, Option.map_some, Option.bind_some, Nat.reduceAdd, Nat.reduceLT, Nat.reduceLeDiff, Nat.add_zero, and_self, k_ne, Nat.add_left_cancel_iff, ne_eq, Int.reduceEq, Int.reduceLT, Int.reduceLE, List.cons_append, List.nil_append, Nat.reduceDiv, Nat.reduceMul, Int.reduceToNat, Int.reduceAdd, Int.cast_ofNat_Int]) ?_
  rintro v c1 hc1 rfl
  (repeat (first | refine v_reg ?_ | refine v_last ?_ | refine vwp_seq ?_ | refine vwp_block ?_ | refine vwp_skip ?_ | refine vwp_exit ?_ | refine vwp_ret ?_ | refine v_cond ?_ | simp (maxSteps := 4000000) (disch := omega) only [vm, ite_true, ite_false, eq_self, reduceIte, Nat.reduceEqDiff, Option.map, vst, List.length_cons, List.length_nil, List.set_cons_zero, List.set_cons_succ, List.map_cons, List.map_nil, Option.map_some, Option.bind_some, Nat.reduceAdd, Nat.reduceLT, Nat.reduceLeDiff, Nat.add_zero, and_self, k_ne, Nat.add_left_cancel_iff, ne_eq, Int.reduceEq, Int.reduceLT, Int.reduceLE, List.cons_append, List.nil_append, Nat.reduceDiv, Nat.reduceMul, Int.reduceToNat, Int.reduceAdd, Int.cast_ofNat_Int] | refine And.intro (by omega) ?_))
  (first | omega | rfl | ((repeat' apply And.intro) <;> first | rfl | omega | assumption))
theorem dis_spec (t u : Tok) (d : Dy) (x : RD) (c : Nat) (hb : bl d.m ≤ 68719476736) (hx : x = RD.of d) : VSpec Tryz.prog F.surdref08_D_Is c [fV t d, bv x.neg, nats u x.l, iv x.e] (fun r _ => r = bv true) := by
  refine spec_mk hm E.surdref08_D_Is B.surdref08_D_Is K.surdref08_D_Is Q.surdref08_D_Is (by rw [N.surdref08_D_Is]; simp) ?_
  unfold C.surdref08_D_Is R.surdref08_D_Is
  subst hx
  (repeat (first | refine v_reg ?_ | refine v_last ?_ | refine vwp_seq ?_ | refine vwp_block ?_ | refine vwp_skip ?_ | refine vwp_exit ?_ | refine vwp_ret ?_ | refine v_cond ?_ | simp (maxSteps := 4000000) (disch := omega) only [vm, ite_true, ite_false, eq_self, reduceIte, Nat.reduceEqDiff, Option.map, vst, List.length_cons, List.length_nil, List.set_cons_zero, List.set_cons_succ, List.map_cons, List.map_nil, Option.map_some, Option.bind_some, Nat.reduceAdd, Nat.reduceLT, Nat.reduceLeDiff, Nat.add_zero, and_self, k_ne, Nat.add_left_cancel_iff, ne_eq, Int.reduceEq, Int.reduceLT, Int.reduceLE, List.cons_append, List.nil_append, Nat.reduceDiv, Nat.reduceMul, Int.reduceToNat, Int.reduceAdd, Int.cast_ofNat_Int] | refine And.intro (by omega) ?_))
  refine s_call (zis_spec t u d d.neg (digs 18446744073709551616 d.m) (c + 1) hb rfl rfl) (by simp (maxSteps := 4000000) (disch := omega) only [vm, ite_true, ite_false, eq_self, reduceIte, Nat.reduceEqDiff, Option.map, vst, List.length_cons, List.length_nil, List.set_cons_zero, List.set_cons_succ, List.map_cons, List.map_nil, Option.map_some, Option.bind_some, Nat.reduceAdd, Nat.reduceLT, Nat.reduceLeDiff, Nat.add_zero, and_self, k_ne, Nat.add_left_cancel_iff, ne_eq, Int.reduceEq, Int.reduceLT, Int.reduceLE, List.cons_append, List.nil_append, Nat.reduceDiv, Nat.reduceMul, Int.reduceToNat, Int.reduceAdd, Int.cast_ofNat_Int]; rfl) ?_
  rintro v c1 hc1 rfl
  have e : (RD.of d).e = d.e := rfl
  (repeat (first | refine v_reg ?_ | refine v_last ?_ | refine vwp_seq ?_ | refine vwp_block ?_ | refine vwp_skip ?_ | refine vwp_exit ?_ | refine vwp_ret ?_ | refine v_cond ?_ | simp (maxSteps := 4000000) (disch := omega) only [vm, ite_true, ite_false, eq_self, reduceIte, Nat.reduceEqDiff, Option.map, vst, List.length_cons, List.length_nil, List.set_cons_zero, List.set_cons_succ, List.map_cons, List.map_nil, Option.map_some, Option.bind_some, Nat.reduceAdd, Nat.reduceLT, Nat.reduceLeDiff, Nat.add_zero, and_self, k_ne, Nat.add_left_cancel_iff, ne_eq, Int.reduceEq, Int.reduceLT, Int.reduceLE, List.cons_append, List.nil_append, Nat.reduceDiv, Nat.reduceMul, Int.reduceToNat, Int.reduceAdd, Int.cast_ofNat_Int, e] | refine And.intro (by omega) ?_))
  (first | omega | rfl | ((repeat' apply And.intro) <;> first | rfl | omega | assumption))
theorem alk_bad (t u tk uk : Tok) (f : Int) (x y : Dy) (c : Nat) (hf : f ≠ 0) : VSpec Tryz.prog F.surdlaw10_alike c [rsV t u rd0 rd0, iv f, fsV tk uk x y, iv f] (fun r _ => r = bv true) := by
  refine spec_mk hm E.surdlaw10_alike B.surdlaw10_alike K.surdlaw10_alike Q.surdlaw10_alike (by rw [N.surdlaw10_alike]; simp) ?_
  unfold C.surdlaw10_alike R.surdlaw10_alike
  have e1 : rd0.neg = false := rfl
  have e2 : rd0.l = [] := rfl
  have e3 : rd0.e = 0 := rfl
  have e4 : nats t [] = V.sl t 1 [] := rfl
  (repeat (first | refine v_reg ?_ | refine v_last ?_ | refine vwp_seq ?_ | refine vwp_block ?_ | refine vwp_skip ?_ | refine vwp_exit ?_ | refine vwp_ret ?_ | refine v_cond ?_ | simp (maxSteps := 4000000) (disch := omega) only [vm, ite_true, ite_false, eq_self, reduceIte, Nat.reduceEqDiff, Option.map, vst, List.length_cons, List.length_nil, List.set_cons_zero, List.set_cons_succ, List.map_cons, List.map_nil, Option.map_some, Option.bind_some, Nat.reduceAdd, Nat.reduceLT, Nat.reduceLeDiff, Nat.add_zero, and_self, k_ne, Nat.add_left_cancel_iff, ne_eq, Int.reduceEq, Int.reduceLT, Int.reduceLE, List.cons_append, List.nil_append, Nat.reduceDiv, Nat.reduceMul, Int.reduceToNat, Int.reduceAdd, Int.cast_ofNat_Int, hf, e1, e2, e3] | refine And.intro (by omega) ?_))
  refine s_call (num10_spec f (c + 1 + 1)) (by simp (maxSteps := 4000000) (disch := omega) only [vm, ite_true, ite_false, eq_self, reduceIte, Nat.reduceEqDiff, Option.map, vst, List.length_cons, List.length_nil, List.set_cons_zero, List.set_cons_succ, List.map_cons, List.map_nil, Option.map_some, Option.bind_some, Nat.reduceAdd, Nat.reduceLT, Nat.reduceLeDiff, Nat.add_zero, and_self, k_ne, Nat.add_left_cancel_iff, ne_eq, Int.reduceEq, Int.reduceLT, Int.reduceLE, List.cons_append, List.nil_append, Nat.reduceDiv, Nat.reduceMul, Int.reduceToNat, Int.reduceAdd, Int.cast_ofNat_Int]) ?_
  rintro v c1 hc1 rfl
  (repeat (first | refine v_reg ?_ | refine v_last ?_ | refine vwp_seq ?_ | refine vwp_block ?_ | refine vwp_skip ?_ | refine vwp_exit ?_ | refine vwp_ret ?_ | refine v_cond ?_ | simp (maxSteps := 4000000) (disch := omega) only [vm, ite_true, ite_false, eq_self, reduceIte, Nat.reduceEqDiff, Option.map, vst, List.length_cons, List.length_nil, List.set_cons_zero, List.set_cons_succ, List.map_cons, List.map_nil, Option.map_some, Option.bind_some, Nat.reduceAdd, Nat.reduceLT, Nat.reduceLeDiff, Nat.add_zero, and_self, k_ne, Nat.add_left_cancel_iff, ne_eq, Int.reduceEq, Int.reduceLT, Int.reduceLE, List.cons_append, List.nil_append, Nat.reduceDiv, Nat.reduceMul, Int.reduceToNat, Int.reduceAdd, Int.cast_ofNat_Int, hf, e1, e2, e3, l_nil, List.map_nil] | refine And.intro (by omega) ?_))
  (first | omega | rfl | ((repeat' apply And.intro) <;> first | rfl | omega | assumption))
theorem alk_ok (t u tk uk : Tok) (x y : Dy) (c : Nat) (hx : RNum x) (hy : RNum y) : VSpec Tryz.prog F.surdlaw10_alike c [rsV t u (RD.of (ansL x y)) (RD.of (ansH x y)), iv (ansE x y), fsV tk uk x y, iv 0] (fun r _ => r = bv true) := by
  refine spec_mk hm E.surdlaw10_alike B.surdlaw10_alike K.surdlaw10_alike Q.surdlaw10_alike (by rw [N.surdlaw10_alike]; simp) ?_
  unfold C.surdlaw10_alike R.surdlaw10_alike
  (repeat (first | refine v_reg ?_ | refine v_last ?_ | refine vwp_seq ?_ | refine vwp_block ?_ | refine vwp_skip ?_ | refine vwp_exit ?_ | refine vwp_ret ?_ | refine v_cond ?_ | simp (maxSteps := 4000000) (disch := omega) only [vm, ite_true, ite_false, eq_self, reduceIte, Nat.reduceEqDiff, Option.map, vst, List.length_cons, List.length_nil, List.set_cons_zero, List.set_cons_succ, List.map_cons, List.map_nil, Option.map_some, Option.bind_some, Nat.reduceAdd, Nat.reduceLT, Nat.reduceLeDiff, Nat.add_zero, and_self, k_ne, Nat.add_left_cancel_iff, ne_eq, Int.reduceEq, Int.reduceLT, Int.reduceLE, List.cons_append, List.nil_append, Nat.reduceDiv, Nat.reduceMul, Int.reduceToNat, Int.reduceAdd, Int.cast_ofNat_Int] | refine And.intro (by omega) ?_))
  refine s_call (rtold10_spec tk uk x y (c + 1 + 1) hx hy) (by simp (maxSteps := 4000000) (disch := omega) only [vm, ite_true, ite_false, eq_self, reduceIte, Nat.reduceEqDiff, Option.map, vst, List.length_cons, List.length_nil, List.set_cons_zero, List.set_cons_succ, List.map_cons, List.map_nil, Option.map_some, Option.bind_some, Nat.reduceAdd, Nat.reduceLT, Nat.reduceLeDiff, Nat.add_zero, and_self, k_ne, Nat.add_left_cancel_iff, ne_eq, Int.reduceEq, Int.reduceLT, Int.reduceLE, List.cons_append, List.nil_append, Nat.reduceDiv, Nat.reduceMul, Int.reduceToNat, Int.reduceAdd, Int.cast_ofNat_Int]) ?_
  rintro v c1 hc1 ⟨tk2, uk2, rfl⟩
  by_cases g : ansE x y = 0
  · have e1 : ansL x y = x := if_pos g
    have e2 : ansH x y = y := if_pos g
    rw [e1, e2, g]
    (repeat (first | refine v_reg ?_ | refine v_last ?_ | refine vwp_seq ?_ | refine vwp_block ?_ | refine vwp_skip ?_ | refine vwp_exit ?_ | refine vwp_ret ?_ | refine v_cond ?_ | simp (maxSteps := 4000000) (disch := omega) only [vm, ite_true, ite_false, eq_self, reduceIte, Nat.reduceEqDiff, Option.map, vst, List.length_cons, List.length_nil, List.set_cons_zero, List.set_cons_succ, List.map_cons, List.map_nil, Option.map_some, Option.bind_some, Nat.reduceAdd, Nat.reduceLT, Nat.reduceLeDiff, Nat.add_zero, and_self, k_ne, Nat.add_left_cancel_iff, ne_eq, Int.reduceEq, Int.reduceLT, Int.reduceLE, List.cons_append, List.nil_append, Nat.reduceDiv, Nat.reduceMul, Int.reduceToNat, Int.reduceAdd, Int.cast_ofNat_Int] | refine And.intro (by omega) ?_))
    refine s_call (num10_spec 0 c1) (by simp (maxSteps := 4000000) (disch := omega) only [vm, ite_true, ite_false, eq_self, reduceIte, Nat.reduceEqDiff, Option.map, vst, List.length_cons, List.length_nil, List.set_cons_zero, List.set_cons_succ, List.map_cons, List.map_nil, Option.map_some, Option.bind_some, Nat.reduceAdd, Nat.reduceLT, Nat.reduceLeDiff, Nat.add_zero, and_self, k_ne, Nat.add_left_cancel_iff, ne_eq, Int.reduceEq, Int.reduceLT, Int.reduceLE, List.cons_append, List.nil_append, Nat.reduceDiv, Nat.reduceMul, Int.reduceToNat, Int.reduceAdd, Int.cast_ofNat_Int]) ?_
    rintro v c2 hc2 rfl
    (repeat (first | refine v_reg ?_ | refine v_last ?_ | refine vwp_seq ?_ | refine vwp_block ?_ | refine vwp_skip ?_ | refine vwp_exit ?_ | refine vwp_ret ?_ | refine v_cond ?_ | simp (maxSteps := 4000000) (disch := omega) only [vm, ite_true, ite_false, eq_self, reduceIte, Nat.reduceEqDiff, Option.map, vst, List.length_cons, List.length_nil, List.set_cons_zero, List.set_cons_succ, List.map_cons, List.map_nil, Option.map_some, Option.bind_some, Nat.reduceAdd, Nat.reduceLT, Nat.reduceLeDiff, Nat.add_zero, and_self, k_ne, Nat.add_left_cancel_iff, ne_eq, Int.reduceEq, Int.reduceLT, Int.reduceLE, List.cons_append, List.nil_append, Nat.reduceDiv, Nat.reduceMul, Int.reduceToNat, Int.reduceAdd, Int.cast_ofNat_Int] | refine And.intro (by omega) ?_))
    refine s_call (dis_spec tk2 t x (RD.of x) c2 hx.bits rfl) (by simp (maxSteps := 4000000) (disch := omega) only [vm, ite_true, ite_false, eq_self, reduceIte, Nat.reduceEqDiff, Option.map, vst, List.length_cons, List.length_nil, List.set_cons_zero, List.set_cons_succ, List.map_cons, List.map_nil, Option.map_some, Option.bind_some, Nat.reduceAdd, Nat.reduceLT, Nat.reduceLeDiff, Nat.add_zero, and_self, k_ne, Nat.add_left_cancel_iff, ne_eq, Int.reduceEq, Int.reduceLT, Int.reduceLE, List.cons_append, List.nil_append, Nat.reduceDiv, Nat.reduceMul, Int.reduceToNat, Int.reduceAdd, Int.cast_ofNat_Int]) ?_
    rintro v c3 hc3 rfl
    (repeat (first | refine v_reg ?_ | refine v_last ?_ | refine vwp_seq ?_ | refine vwp_block ?_ | refine vwp_skip ?_ | refine vwp_exit ?_ | refine vwp_ret ?_ | refine v_cond ?_ | simp (maxSteps := 4000000) (disch := omega) only [vm, ite_true, ite_false, eq_self, reduceIte, Nat.reduceEqDiff, Option.map, vst, List.length_cons, List.length_nil, List.set_cons_zero, List.set_cons_succ, List.map_cons, List.map_nil, Option.map_some, Option.bind_some, Nat.reduceAdd, Nat.reduceLT, Nat.reduceLeDiff, Nat.add_zero, and_self, k_ne, Nat.add_left_cancel_iff, ne_eq, Int.reduceEq, Int.reduceLT, Int.reduceLE, List.cons_append, List.nil_append, Nat.reduceDiv, Nat.reduceMul, Int.reduceToNat, Int.reduceAdd, Int.cast_ofNat_Int] | refine And.intro (by omega) ?_))
    refine s_call (dis_spec uk2 u y (RD.of y) c3 hy.bits rfl) (by simp (maxSteps := 4000000) (disch := omega) only [vm, ite_true, ite_false, eq_self, reduceIte, Nat.reduceEqDiff, Option.map, vst, List.length_cons, List.length_nil, List.set_cons_zero, List.set_cons_succ, List.map_cons, List.map_nil, Option.map_some, Option.bind_some, Nat.reduceAdd, Nat.reduceLT, Nat.reduceLeDiff, Nat.add_zero, and_self, k_ne, Nat.add_left_cancel_iff, ne_eq, Int.reduceEq, Int.reduceLT, Int.reduceLE, List.cons_append, List.nil_append, Nat.reduceDiv, Nat.reduceMul, Int.reduceToNat, Int.reduceAdd, Int.cast_ofNat_Int]) ?_
    rintro v c4 hc4 rfl
    (repeat (first | refine v_reg ?_ | refine v_last ?_ | refine vwp_seq ?_ | refine vwp_block ?_ | refine vwp_skip ?_ | refine vwp_exit ?_ | refine vwp_ret ?_ | refine v_cond ?_ | simp (maxSteps := 4000000) (disch := omega) only [vm, ite_true, ite_false, eq_self, reduceIte, Nat.reduceEqDiff, Option.map, vst, List.length_cons, List.length_nil, List.set_cons_zero, List.set_cons_succ, List.map_cons, List.map_nil, Option.map_some, Option.bind_some, Nat.reduceAdd, Nat.reduceLT, Nat.reduceLeDiff, Nat.add_zero, and_self, k_ne, Nat.add_left_cancel_iff, ne_eq, Int.reduceEq, Int.reduceLT, Int.reduceLE, List.cons_append, List.nil_append, Nat.reduceDiv, Nat.reduceMul, Int.reduceToNat, Int.reduceAdd, Int.cast_ofNat_Int] | refine And.intro (by omega) ?_))
    (first | omega | rfl | ((repeat' apply And.intro) <;> first | rfl | omega | assumption))
  · have e1 : ansL x y = dy0 := if_neg g
    have e2 : ansH x y = dy0 := if_neg g
    have e3 : RD.of dy0 = rd0 := rfl
    rw [e1, e2, e3]
    have e1 : rd0.neg = false := rfl
    have e2 : rd0.l = [] := rfl
    have e3 : rd0.e = 0 := rfl
    generalize ansE x y = f at *
    (repeat (first | refine v_reg ?_ | refine v_last ?_ | refine vwp_seq ?_ | refine vwp_block ?_ | refine vwp_skip ?_ | refine vwp_exit ?_ | refine vwp_ret ?_ | refine v_cond ?_ | simp (maxSteps := 4000000) (disch := omega) only [vm, ite_true, ite_false, eq_self, reduceIte, Nat.reduceEqDiff, Option.map, vst, List.length_cons, List.length_nil, List.set_cons_zero, List.set_cons_succ, List.map_cons, List.map_nil, Option.map_some, Option.bind_some, Nat.reduceAdd, Nat.reduceLT, Nat.reduceLeDiff, Nat.add_zero, and_self, k_ne, Nat.add_left_cancel_iff, ne_eq, Int.reduceEq, Int.reduceLT, Int.reduceLE, List.cons_append, List.nil_append, Nat.reduceDiv, Nat.reduceMul, Int.reduceToNat, Int.reduceAdd, Int.cast_ofNat_Int, g, e1, e2, e3] | refine And.intro (by omega) ?_))
    refine s_call (num10_spec f c1) (by simp (maxSteps := 4000000) (disch := omega) only [vm, ite_true, ite_false, eq_self, reduceIte, Nat.reduceEqDiff, Option.map, vst, List.length_cons, List.length_nil, List.set_cons_zero, List.set_cons_succ, List.map_cons, List.map_nil, Option.map_some, Option.bind_some, Nat.reduceAdd, Nat.reduceLT, Nat.reduceLeDiff, Nat.add_zero, and_self, k_ne, Nat.add_left_cancel_iff, ne_eq, Int.reduceEq, Int.reduceLT, Int.reduceLE, List.cons_append, List.nil_append, Nat.reduceDiv, Nat.reduceMul, Int.reduceToNat, Int.reduceAdd, Int.cast_ofNat_Int]) ?_
    rintro v c2 hc2 rfl
    (repeat (first | refine v_reg ?_ | refine v_last ?_ | refine vwp_seq ?_ | refine vwp_block ?_ | refine vwp_skip ?_ | refine vwp_exit ?_ | refine vwp_ret ?_ | refine v_cond ?_ | simp (maxSteps := 4000000) (disch := omega) only [vm, ite_true, ite_false, eq_self, reduceIte, Nat.reduceEqDiff, Option.map, vst, List.length_cons, List.length_nil, List.set_cons_zero, List.set_cons_succ, List.map_cons, List.map_nil, Option.map_some, Option.bind_some, Nat.reduceAdd, Nat.reduceLT, Nat.reduceLeDiff, Nat.add_zero, and_self, k_ne, Nat.add_left_cancel_iff, ne_eq, Int.reduceEq, Int.reduceLT, Int.reduceLE, List.cons_append, List.nil_append, Nat.reduceDiv, Nat.reduceMul, Int.reduceToNat, Int.reduceAdd, Int.cast_ofNat_Int, g, e1, e2, e3, l_nil, List.map_nil] | refine And.intro (by omega) ?_))
    (first | omega | rfl | ((repeat' apply And.intro) <;> first | rfl | omega | assumption))

theorem lent_spec (t : Tok) (a : RD) (c : Nat) (ha : Arg a.l) : VSpec Tryz.prog F.surdlaw10_lent c [rdV t a] (fun r c' => ∃ i, r = .tup [nats (.id i) (wholeL a.l), rdV (.sub i) a] ∧ c ≤ i ∧ i < c') := by
  refine spec_mk hm E.surdlaw10_lent B.surdlaw10_lent K.surdlaw10_lent Q.surdlaw10_lent (by rw [N.surdlaw10_lent]; simp) ?_
  unfold C.surdlaw10_lent R.surdlaw10_lent
  have h1 := ha.len
  (repeat (first | refine v_reg ?_ | refine v_last ?_ | refine vwp_seq ?_ | refine vwp_block ?_ | refine vwp_skip ?_ | refine vwp_exit ?_ | refine vwp_ret ?_ | refine v_cond ?_ | simp (maxSteps := 4000000) (disch := omega) only [vm, ite_true, ite_false, eq_self, reduceIte, Nat.reduceEqDiff, Option.map, vst, List.length_cons, List.length_nil, List.set_cons_zero, List.set_cons_succ, List.map_cons, List.map_nil, Option.map_some, Option.bind_some, Nat.reduceAdd, Nat.reduceLT, Nat.reduceLeDiff, Nat.add_zero, and_self, k_ne, Nat.add_left_cancel_iff, ne_eq, Int.reduceEq, Int.reduceLT, Int.reduceLE, List.cons_append, List.nil_append, Nat.reduceDiv, Nat.reduceMul, Int.reduceToNat, Int.reduceAdd, Int.cast_ofNat_Int] | refine And.intro (by omega) ?_))
  refine s_call (lend_spec t a.l (c + 1 + 1) ha.lim (by omega)) (by simp (maxSteps := 4000000) (disch := omega) only [vm, ite_true, ite_false, eq_self, reduceIte, Nat.reduceEqDiff, Option.map, vst, List.length_cons, List.length_nil, List.set_cons_zero, List.set_cons_succ, List.map_cons, List.map_nil, Option.map_some, Option.bind_some, Nat.reduceAdd, Nat.reduceLT, Nat.reduceLeDiff, Nat.add_zero, and_self, k_ne, Nat.add_left_cancel_iff, ne_eq, Int.reduceEq, Int.reduceLT, Int.reduceLE, List.cons_append, List.nil_append, Nat.reduceDiv, Nat.reduceMul, Int.reduceToNat, Int.reduceAdd, Int.cast_ofNat_Int]) ?_
  rintro v c1 hc1 ⟨i, rfl, h2, h3⟩
  (repeat (first | refine v_reg ?_ | refine v_last ?_ | refine vwp_seq ?_ | refine vwp_block ?_ | refine vwp_skip ?_ | refine vwp_exit ?_ | refine vwp_ret ?_ | refine v_cond ?_ | simp (maxSteps := 4000000) (disch := omega) only [vm, ite_true, ite_false, eq_self, reduceIte, Nat.reduceEqDiff, Option.map, vst, List.length_cons, List.length_nil, List.set_cons_zero, List.set_cons_succ, List.map_cons, List.map_nil, Option.map_some, Option.bind_some, Nat.reduceAdd, Nat.reduceLT, Nat.reduceLeDiff, Nat.add_zero, and_self, k_ne, Nat.add_left_cancel_iff, ne_eq, Int.reduceEq, Int.reduceLT, Int.reduceLE, List.cons_append, List.nil_append, Nat.reduceDiv, Nat.reduceMul, Int.reduceToNat, Int.reduceAdd, Int.cast_ofNat_Int] | refine And.intro (by omega) ?_))
  exact ⟨i, rfl, by omega, by omega⟩
abbrev twV (i j : Nat) (a b : RD) : V := .agg [nats (.id i) (wholeL a.l), nats (.id j) (wholeL b.l), bv a.neg, nats (.sub i) a.l, iv a.e, bv b.neg, nats (.sub j) b.l, iv b.e]
theorem lends_spec (t u : Tok) (a b : RD) (c : Nat) (ha : Arg a.l) (hb : Arg b.l) : VSpec Tryz.prog F.surdlaw10_lend c [rsV t u a b] (fun r c' => ∃ i j, r = twV i j a b ∧ c ≤ i ∧ i < j ∧ j < c') := by
  refine spec_mk hm E.surdlaw10_lend B.surdlaw10_lend K.surdlaw10_lend Q.surdlaw10_lend (by rw [N.surdlaw10_lend]; simp) ?_
  unfold C.surdlaw10_lend R.surdlaw10_lend
  (repeat (first | refine v_reg ?_ | refine v_last ?_ | refine vwp_seq ?_ | refine vwp_block ?_ | refine vwp_skip ?_ | refine vwp_exit ?_ | refine vwp_ret ?_ | refine v_cond ?_ | simp (maxSteps := 4000000) (disch := omega) only [vm, ite_true, ite_false, eq_self, reduceIte, Nat.reduceEqDiff, Option.map, vst, List.length_cons, List.length_nil, List.set_cons_zero, List.set_cons_succ, List.map_cons, List.map_nil, Option.map_some, Option.bind_some, Nat.reduceAdd, Nat.reduceLT, Nat.reduceLeDiff, Nat.add_zero, and_self, k_ne, Nat.add_left_cancel_iff, ne_eq, Int.reduceEq, Int.reduceLT, Int.reduceLE, List.cons_append, List.nil_append, Nat.reduceDiv, Nat.reduceMul, Int.reduceToNat, Int.reduceAdd, Int.cast_ofNat_Int] | refine And.intro (by omega) ?_))
  refine s_call (lent_spec t a (c + 1 + 1) ha) (by simp (maxSteps := 4000000) (disch := omega) only [vm, ite_true, ite_false, eq_self, reduceIte, Nat.reduceEqDiff, Option.map, vst, List.length_cons, List.length_nil, List.set_cons_zero, List.set_cons_succ, List.map_cons, List.map_nil, Option.map_some, Option.bind_some, Nat.reduceAdd, Nat.reduceLT, Nat.reduceLeDiff, Nat.add_zero, and_self, k_ne, Nat.add_left_cancel_iff, ne_eq, Int.reduceEq, Int.reduceLT, Int.reduceLE, List.cons_append, List.nil_append, Nat.reduceDiv, Nat.reduceMul, Int.reduceToNat, Int.reduceAdd, Int.cast_ofNat_Int]) ?_
  rintro v c1 hc1 ⟨i, rfl, h2, h3⟩
  (repeat (first | refine v_reg ?_ | refine v_last ?_ | refine vwp_seq ?_ | refine vwp_block ?_ | refine vwp_skip ?_ | refine vwp_exit ?_ | refine vwp_ret ?_ | refine v_cond ?_ | simp (maxSteps := 4000000) (disch := omega) only [vm, ite_true, ite_false, eq_self, reduceIte, Nat.reduceEqDiff, Option.map, vst, List.length_cons, List.length_nil, List.set_cons_zero, List.set_cons_succ, List.map_cons, List.map_nil, Option.map_some, Option.bind_some, Nat.reduceAdd, Nat.reduceLT, Nat.reduceLeDiff, Nat.add_zero, and_self, k_ne, Nat.add_left_cancel_iff, ne_eq, Int.reduceEq, Int.reduceLT, Int.reduceLE, List.cons_append, List.nil_append, Nat.reduceDiv, Nat.reduceMul, Int.reduceToNat, Int.reduceAdd, Int.cast_ofNat_Int] | refine And.intro (by omega) ?_))
  refine s_call (lent_spec u b (c1 + 1) hb) (by simp (maxSteps := 4000000) (disch := omega) only [vm, ite_true, ite_false, eq_self, reduceIte, Nat.reduceEqDiff, Option.map, vst, List.length_cons, List.length_nil, List.set_cons_zero, List.set_cons_succ, List.map_cons, List.map_nil, Option.map_some, Option.bind_some, Nat.reduceAdd, Nat.reduceLT, Nat.reduceLeDiff, Nat.add_zero, and_self, k_ne, Nat.add_left_cancel_iff, ne_eq, Int.reduceEq, Int.reduceLT, Int.reduceLE, List.cons_append, List.nil_append, Nat.reduceDiv, Nat.reduceMul, Int.reduceToNat, Int.reduceAdd, Int.cast_ofNat_Int]) ?_
  rintro v c2 hc2 ⟨j, rfl, h4, h5⟩
  (repeat (first | refine v_reg ?_ | refine v_last ?_ | refine vwp_seq ?_ | refine vwp_block ?_ | refine vwp_skip ?_ | refine vwp_exit ?_ | refine vwp_ret ?_ | refine v_cond ?_ | simp (maxSteps := 4000000) (disch := omega) only [vm, ite_true, ite_false, eq_self, reduceIte, Nat.reduceEqDiff, Option.map, vst, List.length_cons, List.length_nil, List.set_cons_zero, List.set_cons_succ, List.map_cons, List.map_nil, Option.map_some, Option.bind_some, Nat.reduceAdd, Nat.reduceLT, Nat.reduceLeDiff, Nat.add_zero, and_self, k_ne, Nat.add_left_cancel_iff, ne_eq, Int.reduceEq, Int.reduceLT, Int.reduceLE, List.cons_append, List.nil_append, Nat.reduceDiv, Nat.reduceMul, Int.reduceToNat, Int.reduceAdd, Int.cast_ofNat_Int] | refine And.intro (by omega) ?_))
  exact ⟨i, j, rfl, by omega, by omega, by omega⟩
theorem keptS_spec (t u : Tok) (i j : Nat) (a b : RD) (c : Nat) (ha : Arg a.l) (hb : Arg b.l) : VSpec Tryz.prog F.surdlaw10_Two_kept c [twV i j a b, rsV t u a b] (fun r _ => r = bv true) := by
  refine spec_mk hm E.surdlaw10_Two_kept B.surdlaw10_Two_kept K.surdlaw10_Two_kept Q.surdlaw10_Two_kept (by rw [N.surdlaw10_Two_kept]; simp) ?_
  unfold C.surdlaw10_Two_kept R.surdlaw10_Two_kept
  have h1 := ha.len
  have h2 := hb.len
  (repeat (first | refine v_reg ?_ | refine v_last ?_ | refine vwp_seq ?_ | refine vwp_block ?_ | refine vwp_skip ?_ | refine vwp_exit ?_ | refine vwp_ret ?_ | refine v_cond ?_ | simp (maxSteps := 4000000) (disch := omega) only [vm, ite_true, ite_false, eq_self, reduceIte, Nat.reduceEqDiff, Option.map, vst, List.length_cons, List.length_nil, List.set_cons_zero, List.set_cons_succ, List.map_cons, List.map_nil, Option.map_some, Option.bind_some, Nat.reduceAdd, Nat.reduceLT, Nat.reduceLeDiff, Nat.add_zero, and_self, k_ne, Nat.add_left_cancel_iff, ne_eq, Int.reduceEq, Int.reduceLT, Int.reduceLE, List.cons_append, List.nil_append, Nat.reduceDiv, Nat.reduceMul, Int.reduceToNat, Int.reduceAdd, Int.cast_ofNat_Int] | refine And.intro (by omega) ?_))
  refine s_call (kept_spec (.id i) t a.l (c + 1 + 1) (by omega)) (by simp (maxSteps := 4000000) (disch := omega) only [vm, ite_true, ite_false, eq_self, reduceIte, Nat.reduceEqDiff, Option.map, vst, List.length_cons, List.length_nil, List.set_cons_zero, List.set_cons_succ, List.map_cons, List.map_nil, Option.map_some, Option.bind_some, Nat.reduceAdd, Nat.reduceLT, Nat.reduceLeDiff, Nat.add_zero, and_self, k_ne, Nat.add_left_cancel_iff, ne_eq, Int.reduceEq, Int.reduceLT, Int.reduceLE, List.cons_append, List.nil_append, Nat.reduceDiv, Nat.reduceMul, Int.reduceToNat, Int.reduceAdd, Int.cast_ofNat_Int]) ?_
  rintro v c1 hc1 rfl
  (repeat (first | refine v_reg ?_ | refine v_last ?_ | refine vwp_seq ?_ | refine vwp_block ?_ | refine vwp_skip ?_ | refine vwp_exit ?_ | refine vwp_ret ?_ | refine v_cond ?_ | simp (maxSteps := 4000000) (disch := omega) only [vm, ite_true, ite_false, eq_self, reduceIte, Nat.reduceEqDiff, Option.map, vst, List.length_cons, List.length_nil, List.set_cons_zero, List.set_cons_succ, List.map_cons, List.map_nil, Option.map_some, Option.bind_some, Nat.reduceAdd, Nat.reduceLT, Nat.reduceLeDiff, Nat.add_zero, and_self, k_ne, Nat.add_left_cancel_iff, ne_eq, Int.reduceEq, Int.reduceLT, Int.reduceLE, List.cons_append, List.nil_append, Nat.reduceDiv, Nat.reduceMul, Int.reduceToNat, Int.reduceAdd, Int.cast_ofNat_Int] | refine And.intro (by omega) ?_))
  refine s_call (kept_spec (.id j) u b.l c1 (by omega)) (by simp (maxSteps := 4000000) (disch := omega) only [vm, ite_true, ite_false, eq_self, reduceIte, Nat.reduceEqDiff, Option.map, vst, List.length_cons, List.length_nil, List.set_cons_zero, List.set_cons_succ, List.map_cons, List.map_nil, Option.map_some, Option.bind_some, Nat.reduceAdd, Nat.reduceLT, Nat.reduceLeDiff, Nat.add_zero, and_self, k_ne, Nat.add_left_cancel_iff, ne_eq, Int.reduceEq, Int.reduceLT, Int.reduceLE, List.cons_append, List.nil_append, Nat.reduceDiv, Nat.reduceMul, Int.reduceToNat, Int.reduceAdd, Int.cast_ofNat_Int]) ?_
  rintro v c2 hc2 rfl
  (repeat (first | refine v_reg ?_ | refine v_last ?_ | refine vwp_seq ?_ | refine vwp_block ?_ | refine vwp_skip ?_ | refine vwp_exit ?_ | refine vwp_ret ?_ | refine v_cond ?_ | simp (maxSteps := 4000000) (disch := omega) only [vm, ite_true, ite_false, eq_self, reduceIte, Nat.reduceEqDiff, Option.map, vst, List.length_cons, List.length_nil, List.set_cons_zero, List.set_cons_succ, List.map_cons, List.map_nil, Option.map_some, Option.bind_some, Nat.reduceAdd, Nat.reduceLT, Nat.reduceLeDiff, Nat.add_zero, and_self, k_ne, Nat.add_left_cancel_iff, ne_eq, Int.reduceEq, Int.reduceLT, Int.reduceLE, List.cons_append, List.nil_append, Nat.reduceDiv, Nat.reduceMul, Int.reduceToNat, Int.reduceAdd, Int.cast_ofNat_Int] | refine And.intro (by omega) ?_))
  (first | omega | rfl | ((repeat' apply And.intro) <;> first | rfl | omega | assumption))
end Go.Proofs.YtacodmnlnlbahaaGreatDoor
set_option linter.unusedSimpArgs false
set_option linter.unusedVariables false
set_option maxRecDepth 100000
set_option maxHeartbeats 8000000
namespace Go.Proofs.YtacodmnlnlbahaaGreatDoor
open Go.VM Go.RowKit

def Row1 (lo hi : Nat) (t : Tok) (l : List Nat) : Prop := (t = .nil ∧ l = []) ∨ ∃ i, t = .id i ∧ lo ≤ i ∧ i < hi
theorem Row1.mono {a b c d : Nat} {t : Tok} {l : List Nat} (h : Row1 a b t l) (h1 : c ≤ a) (h2 : b ≤ d) : Row1 c d t l := by
  rcases h with h | ⟨i, h, h3, h4⟩
  · exact .inl h
  · exact .inr ⟨i, h, by omega, by omega⟩
theorem Row1.of {a b : Nat} {t : Tok} {l : List Nat} (h : Tk a b t) (hl : t = .nil → l = []) : Row1 a b t l := by
  rcases h with rfl | ⟨i, rfl, h⟩
  · exact .inl ⟨rfl, hl rfl⟩
  · exact .inr ⟨i, rfl, h⟩
theorem nodup_nodupB : ∀ {l : List Nat}, l.Nodup → nodupB l = true
  | [], _ => rfl
  | a :: r, h => by
    obtain ⟨h1, h2⟩ := List.nodup_cons.1 h
    simp only [nodupB, Bool.and_eq_true, Bool.not_eq_true', List.contains_eq_mem, decide_eq_false_iff_not]
    exact ⟨h1, nodup_nodupB h2⟩

abbrev rowsV (ps : List (Tok × List Nat)) : List V := ps.map fun p => nats p.1 p.2
theorem mem_ids {ps : List (Tok × List Nat)} {i : Nat} (h : i ∈ ids (rowsV ps)) : ∃ p ∈ ps, p.1 = .id i := by
  obtain ⟨x, hx, e⟩ := List.mem_filterMap.1 h
  obtain ⟨p, hp, rfl⟩ := List.mem_map.1 hx
  obtain ⟨t, l⟩ := p
  cases t with
  | id j => simp at e; subst e; exact ⟨_, hp, rfl⟩
  | _ => simp at e
theorem ids_nodup : ∀ {ps : List (Tok × List Nat)}, ps.Pairwise (fun p q => Apt p.1 q.1) → (ids (rowsV ps)).Nodup
  | [], _ => List.nodup_nil
  | (t, l) :: ps, h => by
    obtain ⟨h1, h2⟩ := List.pairwise_cons.1 h
    have ih := ids_nodup h2
    cases t with
    | id j =>
      refine List.nodup_cons.2 ⟨fun hm0 => ?_, ih⟩
      obtain ⟨q, hq, e⟩ := mem_ids hm0
      exact h1 q hq j rfl e
    | nil => exact ih
    | unk => exact ih
    | sub j => exact ih
theorem ownable_of {c0 lo tL : Nat} {ps : List (Tok × List Nat)} (hc : c0 ≤ lo) (h0 : 0 < ps.length) (h1 : ps.length ≤ 1000000) (hp : ∀ p ∈ ps, Row1 lo tL p.1 p.2 ∧ p.2.length ≤ 4398046511104) (hl : lo ≤ tL) (ha : ps.Pairwise (fun p q => Apt p.1 q.1)) : ownable c0 tL (rowsV ps) = true := by
  simp only [ownable, Bool.and_eq_true, decide_eq_true_eq, List.all_eq_true]
  have hid : ∀ i ∈ ids (rowsV ps), lo ≤ i ∧ i < tL := fun i hi => by
    obtain ⟨p, hpm, e⟩ := mem_ids hi
    rcases (hp p hpm).1 with ⟨e1, _⟩ | ⟨j, e1, h3, h4⟩
    · rw [e] at e1; cases e1
    · rw [e] at e1; cases e1; exact ⟨h3, h4⟩
  refine ⟨⟨⟨⟨by simpa using h0, by simpa using h1⟩, fun x hx => ?_⟩, fun t ht => ?_⟩, nodup_nodupB (List.nodup_cons.2 ⟨fun h => ?_, ids_nodup ha⟩)⟩
  · obtain ⟨p, hpm, rfl⟩ := List.mem_map.1 hx
    obtain ⟨t, l⟩ := p
    obtain ⟨h2, h3⟩ := hp _ hpm
    rcases h2 with ⟨e1, e2⟩ | ⟨i, e1, _⟩
    · simp only at e1 e2; subst e1 e2; rfl
    · simp only at e1 h3; subst e1
      simp [rowable, h3]
  · rcases List.mem_cons.1 ht with rfl | h
    · omega
    · have := hid t h; omega
  · have := hid tL h; omega

section
variable {P : Program} {c0 : Nat} {ρ : Nat → V} {c i : Nat} {r : List VO} {K : VS → Prop}
variable {σ : Nat → Option Blk} {dr : Bool}
end

end Go.Proofs.YtacodmnlnlbahaaGreatDoor
set_option linter.unusedSimpArgs false
set_option linter.unusedVariables false
set_option maxRecDepth 100000
set_option maxHeartbeats 8000000
namespace Go.VM
open Go.RowKit

theorem giv_mk {P : Program} (hm : P.follows .mixedOrders = true) {f : FuncId} {fn : Func} {code : Code} {vc : VC} {rs : List VRes} (hf : P.funcs[f]? = some fn) (hb : fn.body = some code) (hvc : resCode P fn.ntmps code = vc) (hrs : resResults P fn.results.toList = some rs)
    {n : Nat} {x : V} (hn : 1 ≤ fn.ntmps) (h : VWP P 0 vc (retQ rs fun r _ => r = bv true) ⟨start [x], noBlk, n⟩) : GivSpec P f n x := by
  obtain ⟨e, S', he, hq⟩ := h
  have key : ∀ r, vresult S' rs = some r → r = bv true → (e = .ret ∨ e = .normal) → GivSpec P f n x := fun r hr hv he' => by
    subst hv
    exact ⟨noBlk, S'.c, vcallsG_of_exec hm hf hb hvc hrs (by simpa using hn) he he' hr (fun t k h => by cases h) (fun t h => absurd rfl h)⟩
  cases e with
  | normal => rw [retQ_normal] at hq; obtain ⟨r, hr, h1⟩ := hq; exact key r hr h1 (.inr rfl)
  | ret => rw [retQ_ret] at hq; obtain ⟨r, hr, h1⟩ := hq; exact key r hr h1 (.inl rfl)
  | exit id => unfold retQ at hq; exact hq.elim
def renT (us : List Nat) : Tok → Tok | .id t => .id (us.idxOf t) | t => t
theorem rep_row {us : List Nat} {w : World} {M M' : Nat → Prop} {μ μ' : Nat → Nat} {c : Nat} (hM : ∀ b, M b → M' b) (hμ : ∀ s, s < us.length → μ' s = μ (us.getD s 0)) {t : Tok} {l : List Nat} {v : Value} (ht : t = .nil ∨ ∃ i, t = .id i ∧ i ∈ us)
    (h : Rep w M μ c (nats t l) v) : Rep w M' μ' us.length (nats (renT us t) l) v := by
  generalize hx : nats t l = x at h
  cases h with
  | any | lit | agg | tup => cases hx
  | nil tk sz =>
    simp only [nats, V.sl.injEq] at hx
    obtain ⟨rfl, rfl, hx⟩ := hx
    show Rep w M' μ' us.length (.sl (renT us t) 1 (l.map nv)) _
    rw [hx]
    exact .nil _ 1
  | sl tk sz n cap a l' vs htk hn hc hs hMb hcap h1 hl =>
    simp only [nats, V.sl.injEq] at hx
    obtain ⟨rfl, rfl, rfl⟩ := hx
    refine .sl _ 1 n cap a _ vs ?_ hn hc hs (fun h => hM _ (hMb h)) hcap h1 (fun j x hx => ?_)
    · rcases ht with rfl | ⟨i, rfl, hi⟩
      · exact htk
      · intro hr
        obtain ⟨⟨q1, q2⟩, q3⟩ := htk hr
        obtain ⟨i1, i2⟩ := getD_idxOf hi
        exact ⟨⟨i1, by rw [hμ _ i1, i2]; exact q2⟩, q3⟩
    · rw [List.getElem?_map] at hx
      obtain ⟨y, hy, rfl⟩ := Option.map_eq_some_iff.1 hx
      have := hl j (nv y) (by rw [List.getElem?_map, hy]; rfl)
      generalize vs j = u at this
      cases this
      exact .lit _

section
variable {P : Program} {c0 : Nat} {ρ : Nat → V} {σ : Nat → Option Blk} {c i : Nat} {r : List VO} {K : VS → Prop} {d : Option Nat}
theorem s_appNilR {bytes : Nat} {z : List Value} {x y : X} {tk : Tok} {ys : List V} (hx : x.ev ρ = .sl .nil 1 []) (hy : y.ev ρ = .sl tk 1 ys) (h0 : 0 < ys.length) (h2 : ys.length * bytes ≤ 281474976710656) (h3 : ys.length ≤ 4611686018427387904)
    (hk : wps P false c0 r ⟨upd ρ i (.buf c 0 ys.length none 1), supd σ c (some ⟨ys, true⟩), c + 1⟩ K) : wps P false c0 (⟨some i, .app 1 bytes z x y, none⟩ :: r) ⟨ρ, σ, c⟩ K := by
  have hc : vcells 1 σ (y.ev ρ) = some ys := by rw [hy]; cases tk <;> rfl
  exact s_eff rfl (by intros; exact fun h => by cases h) (by intros; exact fun h => by cases h) ⟨_, _, _, none, .appNil hx hc (k := ys.length) (by omega) h0 h2 h3, hk⟩
theorem s_appR {bytes t n : Nat} {z : List Value} {x y : X} {tk : Tok} {ys cs : List V} (hx : x.ev ρ = .buf t 0 n none 1) (ht : σ t = some ⟨cs, true⟩) (ht0 : c0 ≤ t) (hy : y.ev ρ = .sl tk 1 ys) (h1 : n ≤ cs.length) (h2 : (2 * (n + ys.length)) * bytes ≤ 281474976710656) (h3 : n + ys.length ≤ 4611686018427387904)
    (hk : wps P false c0 r ⟨upd (kill (some (.inl t)) ρ) i (.buf t 0 (n + ys.length) none 1), supd (killσ t σ) t (some ⟨(cs.take n ++ ys).map (killV t), true⟩), c⟩ K) : wps P false c0 (⟨some i, .app 1 bytes z x y, none⟩ :: r) ⟨ρ, σ, c⟩ K := by
  have hc : vcells 1 σ (y.ev ρ) = some ys := by rw [hy]; cases tk <;> rfl
  refine s_eff rfl (by intros; exact fun h => by cases h) (by intros; exact fun h => by cases h) ⟨_, _, _, some (.inl t), .appMove hx ht ht0 hc (k := ys.length) (by omega) (by omega) h2 h3, ?_⟩
  rw [Nat.mul_one]
  exact hk
theorem kill_ap {t j : Nat} : kill (some (.inl t)) ρ j = killV t (ρ j) := rfl
end
theorem kv_sl {t n : Nat} {tk : Tok} {l : List V} : killV t (.sl tk n l) = .sl tk n l := Eq.trans rfl rfl
theorem kv_lit {t : Nat} {v : Value} : killV t (.lit v) = .lit v := Eq.trans rfl rfl
theorem kv_rows (t : Nat) (ps : List (Tok × List Nat)) : (ps.map fun p => nats p.1 p.2).map (killV t) = ps.map fun p => nats p.1 p.2 := by
  rw [List.map_map]; rfl
end Go.VM
namespace Go.Proofs.YtacodmnlnlbahaaGreatDoor
open Go.VM

structure SP where
  t : Tok
  u : Tok
  a : RD
  b : RD
abbrev SP.cells (s : SP) : List V := [bv s.a.neg, nats s.t s.a.l, iv s.a.e, bv s.b.neg, nats s.u s.b.l, iv s.b.e]
def cellsL (L : List SP) : List V := L.flatMap SP.cells
def rowsL (L : List SP) : List (Tok × List Nat) := L.flatMap fun s => [(s.t, s.a.l), (s.u, s.b.l)]
theorem cellsL_len (L : List SP) : (cellsL L).length = 6 * L.length := by
  induction L with
  | nil => rfl
  | cons s L ih => simp only [cellsL, List.flatMap_cons, List.length_append, List.length_cons, List.length_nil] at ih ⊢; omega
theorem rowsL_len (L : List SP) : (rowsL L).length = 2 * L.length := by
  induction L with
  | nil => rfl
  | cons s L ih => simp only [rowsL, List.flatMap_cons, List.length_append, List.length_cons, List.length_nil] at ih ⊢; omega
theorem cellsL_at : ∀ (L : List SP) (i : Nat) (s : SP), L[i]? = some s → vpart (cellsL L) (i * 6) (some 6) = some (.agg s.cells)
  | [], i, s, h => by simp at h
  | q :: L, 0, s, h => by
    simp at h; subst h
    have h6 : ([bv q.a.neg, nats q.t q.a.l, iv q.a.e, bv q.b.neg, nats q.u q.b.l, iv q.b.e] : List V).all V.flat = true := rfl
    simp [cellsL, vpart, SP.cells]
    exact ⟨rfl, rfl, rfl, rfl, rfl, rfl⟩
  | q :: L, i + 1, s, h => by
    have ih := cellsL_at L i s (by simpa using h)
    have e : cellsL (q :: L) = bv q.a.neg :: nats q.t q.a.l :: iv q.a.e :: bv q.b.neg :: nats q.u q.b.l :: iv q.b.e :: cellsL L := rfl
    rw [e, show (i + 1) * 6 = i * 6 + 1 + 1 + 1 + 1 + 1 + 1 by omega, vp_succ, vp_succ, vp_succ, vp_succ, vp_succ, vp_succ]
    exact ih
theorem rowsL_take {L : List SP} {i : Nat} {s : SP} (h : L[i]? = some s) : rowsL (L.take (i + 1)) = rowsL (L.take i) ++ [(s.t, s.a.l), (s.u, s.b.l)] := by
  have hi := (List.getElem?_eq_some_iff.1 h).1
  rw [List.take_succ_eq_append_getElem hi]
  have : L[i] = s := (List.getElem?_eq_some_iff.1 h).2
  rw [this]
  simp [rowsL]
theorem own10_giv (L : List SP) (hl : 0 < L.length) (hl2 : L.length ≤ 1000) (n : Nat) (hp : ∀ p ∈ rowsL L, Row1 0 n p.1 p.2 ∧ p.2.length ≤ 4398046511104) (ha : (rowsL L).Pairwise (fun p q => Apt p.1 q.1)) :
    GivSpec Tryz.prog F.surdlaw10_own n (.sl (.id 0) 6 (cellsL L)) := by
  refine giv_mk hm E.surdlaw10_own B.surdlaw10_own K.surdlaw10_own Q.surdlaw10_own (by rw [N.surdlaw10_own]; decide) ?_
  unfold C.surdlaw10_own R.surdlaw10_own
  have hcl := cellsL_len L
  have hd : (cellsL L).length / 6 = L.length := by omega
  (repeat (first | refine v_reg ?_ | refine v_last ?_ | refine vwp_seq ?_ | refine vwp_block ?_ | refine vwp_skip ?_ | refine vwp_exit ?_ | refine vwp_ret ?_ | refine v_cond ?_ | simp (maxSteps := 4000000) (disch := omega) only [vm, ite_true, ite_false, eq_self, reduceIte, Nat.reduceEqDiff, Option.map, vst, List.length_cons, List.length_nil, List.set_cons_zero, List.set_cons_succ, List.map_cons, List.map_nil, Option.map_some, Option.bind_some, Nat.reduceAdd, Nat.reduceLT, Nat.reduceLeDiff, Nat.add_zero, and_self, k_ne, Nat.add_left_cancel_iff, ne_eq, Int.reduceEq, Int.reduceLT, Int.reduceLE, List.cons_append, List.nil_append, Nat.reduceDiv, Nat.reduceMul, Int.reduceToNat, Int.reduceAdd, Int.cast_ofNat_Int, hd] | refine And.intro (by omega) ?_))
  refine v_loop (fun S => ∃ tb, n ≤ tb ∧ tb < S.c ∧ S.ρ 3 = .buf tb 0 (2 * L.length) none 1 ∧ S.σ tb = some ⟨rowsV (rowsL L), true⟩) ?_ ?_
  · refine vwp_loop (fun k S => ∃ i, k = L.length - i ∧ i ≤ L.length ∧ S.ρ 6 = .sl (.id 0) 6 (cellsL L) ∧ S.ρ 7 = iv L.length ∧ S.ρ 8 = iv i ∧ n ≤ S.c ∧ (∀ t, S.c ≤ t → S.σ t = none) ∧ ((i = 0 ∧ S.ρ 3 = nil1) ∨ (0 < i ∧ ∃ tb, n ≤ tb ∧ tb < S.c ∧ S.ρ 3 = .buf tb 0 (2 * i) none 1 ∧ S.σ tb = some ⟨rowsV (rowsL (L.take i)), true⟩))) L.length ?_ ?_
    · refine ⟨0, by omega, by omega, ?_⟩
      simp only [vm, ite_true, ite_false, eq_self, reduceIte, Nat.reduceEqDiff, Option.map]
      (repeat' apply And.intro) <;> first | rfl | exact Nat.le_refl _ | (intros; rfl) | exact .inl trivial | exact .inl ⟨rfl, rfl⟩
    rintro k ⟨ρ, σ, c⟩ ⟨i, hk, hi, h6, h7, h8, hc, hfree, hst⟩
    dsimp only at h6 h7 h8 hc hfree hst
    by_cases g : (i : Int) < L.length
    · have hi' : i < L.length := by omega
      obtain ⟨s, hs⟩ : ∃ s, L[i]? = some s := ⟨_, List.getElem?_eq_getElem hi'⟩
      have hat := cellsL_at L i s hs
      have htk := rowsL_take hs
      have e1 : (i : Int) + 1 = ((i + 1 : Nat) : Int) := by omega
      have hlen := rowsL_len (L.take i)
      rw [List.length_take, Nat.min_eq_left (by omega)] at hlen
      rcases hst with ⟨hi0, h3⟩ | ⟨hpos, tb, hb1, hb2, h3, hσ⟩
      · (repeat (first | refine v_reg ?_ | refine v_last ?_ | refine vwp_seq ?_ | refine vwp_block ?_ | refine vwp_skip ?_ | refine vwp_exit ?_ | refine vwp_ret ?_ | refine v_cond ?_ | simp (maxSteps := 4000000) (disch := omega) only [vm, ite_true, ite_false, eq_self, reduceIte, Nat.reduceEqDiff, Option.map, vst, List.length_cons, List.length_nil, List.set_cons_zero, List.set_cons_succ, List.map_cons, List.map_nil, Option.map_some, Option.bind_some, Nat.reduceAdd, Nat.reduceLT, Nat.reduceLeDiff, Nat.add_zero, and_self, k_ne, Nat.add_left_cancel_iff, ne_eq, Int.reduceEq, Int.reduceLT, Int.reduceLE, List.cons_append, List.nil_append, Nat.reduceDiv, Nat.reduceMul, Int.reduceToNat, Int.reduceAdd, Int.cast_ofNat_Int, h3, h6, h7, h8, g, hd, hi', hat] | refine And.intro (by omega) ?_))
        refine s_appNilR (tk := .id (c + 1)) (ys := [nats s.t s.a.l, nats s.u s.b.l]) (by simp (maxSteps := 4000000) (disch := omega) only [vm, ite_true, ite_false, eq_self, reduceIte, Nat.reduceEqDiff, Option.map, vst, List.length_cons, List.length_nil, List.set_cons_zero, List.set_cons_succ, List.map_cons, List.map_nil, Option.map_some, Option.bind_some, Nat.reduceAdd, Nat.reduceLT, Nat.reduceLeDiff, Nat.add_zero, and_self, k_ne, Nat.add_left_cancel_iff, ne_eq, Int.reduceEq, Int.reduceLT, Int.reduceLE, List.cons_append, List.nil_append, Nat.reduceDiv, Nat.reduceMul, Int.reduceToNat, Int.reduceAdd, Int.cast_ofNat_Int]) (by simp (maxSteps := 4000000) (disch := omega) only [vm, ite_true, ite_false, eq_self, reduceIte, Nat.reduceEqDiff, Option.map, vst, List.length_cons, List.length_nil, List.set_cons_zero, List.set_cons_succ, List.map_cons, List.map_nil, Option.map_some, Option.bind_some, Nat.reduceAdd, Nat.reduceLT, Nat.reduceLeDiff, Nat.add_zero, and_self, k_ne, Nat.add_left_cancel_iff, ne_eq, Int.reduceEq, Int.reduceLT, Int.reduceLE, List.cons_append, List.nil_append, Nat.reduceDiv, Nat.reduceMul, Int.reduceToNat, Int.reduceAdd, Int.cast_ofNat_Int]) (by simp) (by simp) (by simp) ?_
        (repeat (first | refine v_reg ?_ | refine v_last ?_ | refine vwp_seq ?_ | refine vwp_block ?_ | refine vwp_skip ?_ | refine vwp_exit ?_ | refine vwp_ret ?_ | refine v_cond ?_ | simp (maxSteps := 4000000) (disch := omega) only [vm, ite_true, ite_false, eq_self, reduceIte, Nat.reduceEqDiff, Option.map, vst, List.length_cons, List.length_nil, List.set_cons_zero, List.set_cons_succ, List.map_cons, List.map_nil, Option.map_some, Option.bind_some, Nat.reduceAdd, Nat.reduceLT, Nat.reduceLeDiff, Nat.add_zero, and_self, k_ne, Nat.add_left_cancel_iff, ne_eq, Int.reduceEq, Int.reduceLT, Int.reduceLE, List.cons_append, List.nil_append, Nat.reduceDiv, Nat.reduceMul, Int.reduceToNat, Int.reduceAdd, Int.cast_ofNat_Int, h3, h6, h7, h8, g, e1] | refine And.intro (by omega) ?_))
        refine ⟨L.length - (i + 1), by omega, i + 1, by omega, by omega, rfl, by omega, fun t ht => ?_, .inr ⟨by omega, c + 1 + 1, by omega, by omega, by rw [hi0], ?_⟩⟩
        · rw [if_neg (by omega), if_neg (by omega)]
          exact hfree t (by omega)
        · rw [if_pos rfl, htk, hi0]; rfl
      · have hne : ¬ tb = c := by omega
        (repeat (first | refine v_reg ?_ | refine v_last ?_ | refine vwp_seq ?_ | refine vwp_block ?_ | refine vwp_skip ?_ | refine vwp_exit ?_ | refine vwp_ret ?_ | refine v_cond ?_ | simp (maxSteps := 4000000) (disch := omega) only [vm, ite_true, ite_false, eq_self, reduceIte, Nat.reduceEqDiff, Option.map, vst, List.length_cons, List.length_nil, List.set_cons_zero, List.set_cons_succ, List.map_cons, List.map_nil, Option.map_some, Option.bind_some, Nat.reduceAdd, Nat.reduceLT, Nat.reduceLeDiff, Nat.add_zero, and_self, k_ne, Nat.add_left_cancel_iff, ne_eq, Int.reduceEq, Int.reduceLT, Int.reduceLE, List.cons_append, List.nil_append, Nat.reduceDiv, Nat.reduceMul, Int.reduceToNat, Int.reduceAdd, Int.cast_ofNat_Int, h3, h6, h7, h8, g, hd, hi', hat] | refine And.intro (by omega) ?_))
        refine s_appR (t := tb) (n := 2 * i) (tk := .id (c + 1)) (ys := [nats s.t s.a.l, nats s.u s.b.l]) (cs := rowsV (rowsL (L.take i))) (by simp (maxSteps := 4000000) (disch := omega) only [vm, ite_true, ite_false, eq_self, reduceIte, Nat.reduceEqDiff, Option.map, vst, List.length_cons, List.length_nil, List.set_cons_zero, List.set_cons_succ, List.map_cons, List.map_nil, Option.map_some, Option.bind_some, Nat.reduceAdd, Nat.reduceLT, Nat.reduceLeDiff, Nat.add_zero, and_self, k_ne, Nat.add_left_cancel_iff, ne_eq, Int.reduceEq, Int.reduceLT, Int.reduceLE, List.cons_append, List.nil_append, Nat.reduceDiv, Nat.reduceMul, Int.reduceToNat, Int.reduceAdd, Int.cast_ofNat_Int]) (by simp (maxSteps := 4000000) (disch := omega) only [vm, ite_true, ite_false, eq_self, reduceIte, Nat.reduceEqDiff, Option.map, vst, List.length_cons, List.length_nil, List.set_cons_zero, List.set_cons_succ, List.map_cons, List.map_nil, Option.map_some, Option.bind_some, Nat.reduceAdd, Nat.reduceLT, Nat.reduceLeDiff, Nat.add_zero, and_self, k_ne, Nat.add_left_cancel_iff, ne_eq, Int.reduceEq, Int.reduceLT, Int.reduceLE, List.cons_append, List.nil_append, Nat.reduceDiv, Nat.reduceMul, Int.reduceToNat, Int.reduceAdd, Int.cast_ofNat_Int, hne, hσ]) (Nat.zero_le _) (by simp (maxSteps := 4000000) (disch := omega) only [vm, ite_true, ite_false, eq_self, reduceIte, Nat.reduceEqDiff, Option.map, vst, List.length_cons, List.length_nil, List.set_cons_zero, List.set_cons_succ, List.map_cons, List.map_nil, Option.map_some, Option.bind_some, Nat.reduceAdd, Nat.reduceLT, Nat.reduceLeDiff, Nat.add_zero, and_self, k_ne, Nat.add_left_cancel_iff, ne_eq, Int.reduceEq, Int.reduceLT, Int.reduceLE, List.cons_append, List.nil_append, Nat.reduceDiv, Nat.reduceMul, Int.reduceToNat, Int.reduceAdd, Int.cast_ofNat_Int]) (by simp [hlen]) (by simp; omega) (by simp; omega) ?_
        have e9 : (rowsV (rowsL (L.take i))).take (2 * i) = rowsV (rowsL (L.take i)) := List.take_of_length_le (by simp [hlen])
        have e10 : (rowsV (rowsL (L.take i)) ++ [nats s.t s.a.l, nats s.u s.b.l]).map (killV tb) = rowsV (rowsL (L.take (i + 1))) := by
          rw [htk]
          have : rowsV (rowsL (L.take i)) ++ [nats s.t s.a.l, nats s.u s.b.l] = rowsV (rowsL (L.take i) ++ [(s.t, s.a.l), (s.u, s.b.l)]) := by simp [rowsV]
          rw [this]
          exact kv_rows tb _
        rw [e9, e10]
        (repeat (first | refine v_reg ?_ | refine v_last ?_ | refine vwp_seq ?_ | refine vwp_block ?_ | refine vwp_skip ?_ | refine vwp_exit ?_ | refine vwp_ret ?_ | refine v_cond ?_ | simp (maxSteps := 4000000) (disch := omega) only [vm, ite_true, ite_false, eq_self, reduceIte, Nat.reduceEqDiff, Option.map, vst, List.length_cons, List.length_nil, List.set_cons_zero, List.set_cons_succ, List.map_cons, List.map_nil, Option.map_some, Option.bind_some, Nat.reduceAdd, Nat.reduceLT, Nat.reduceLeDiff, Nat.add_zero, and_self, k_ne, Nat.add_left_cancel_iff, ne_eq, Int.reduceEq, Int.reduceLT, Int.reduceLE, List.cons_append, List.nil_append, Nat.reduceDiv, Nat.reduceMul, Int.reduceToNat, Int.reduceAdd, Int.cast_ofNat_Int, kill_ap, h3, h6, h7, h8, g, e1, kv_sl, kv_lit] | refine And.intro (by omega) ?_))
        refine ⟨L.length - (i + 1), by omega, i + 1, by omega, by omega, rfl, by omega, fun t ht => ?_, .inr ⟨by omega, tb, by omega, by omega, rfl, ?_⟩⟩
        · rw [if_neg (by omega)]
          unfold killσ
          rw [supd_app, if_neg (by omega), hfree t (by omega)]
          rfl
        · rw [if_pos rfl]
    · have hi' : i = L.length := by omega
      subst hi'
      rcases hst with ⟨h0, _⟩ | ⟨_, tb, hb1, hb2, h3, hσ⟩
      · omega
      (repeat (first | refine v_reg ?_ | refine v_last ?_ | refine vwp_seq ?_ | refine vwp_block ?_ | refine vwp_skip ?_ | refine vwp_exit ?_ | refine vwp_ret ?_ | refine v_cond ?_ | simp (maxSteps := 4000000) (disch := omega) only [vm, ite_true, ite_false, eq_self, reduceIte, Nat.reduceEqDiff, Option.map, vst, List.length_cons, List.length_nil, List.set_cons_zero, List.set_cons_succ, List.map_cons, List.map_nil, Option.map_some, Option.bind_some, Nat.reduceAdd, Nat.reduceLT, Nat.reduceLeDiff, Nat.add_zero, and_self, k_ne, Nat.add_left_cancel_iff, ne_eq, Int.reduceEq, Int.reduceLT, Int.reduceLE, List.cons_append, List.nil_append, Nat.reduceDiv, Nat.reduceMul, Int.reduceToNat, Int.reduceAdd, Int.cast_ofNat_Int, h3, h6, h7, h8, g] | refine And.intro (by omega) ?_))
      rw [List.take_length] at hσ
      exact ⟨tb, hb1, hb2, rfl, hσ⟩
  rintro ⟨ρ3, σ, c5⟩ ⟨tb, hb1, hb2, h3, hσ⟩
  dsimp only at hb1 hb2 h3 hσ
  refine vwp_freeze 3 tb 0 (2 * L.length) 1 none (rowsV (rowsL L)) (by exact h3) (by exact hσ) (Nat.zero_le _) (by simp [rowsL_len]) ?_
  have e1 : ((((rowsV (rowsL L)).drop 0).take (2 * L.length * 1)).map V.solid) = rowsV (rowsL L) := by
    rw [List.drop_zero, Nat.mul_one, List.take_of_length_le (by simp [rowsL_len]), List.map_map]
    rfl
  rw [e1]
  unfold VM.frozen
  (repeat (first | refine v_reg ?_ | refine v_last ?_ | refine vwp_seq ?_ | refine vwp_block ?_ | refine vwp_skip ?_ | refine vwp_exit ?_ | refine vwp_ret ?_ | refine v_cond ?_ | simp (maxSteps := 4000000) (disch := omega) only [vm, ite_true, ite_false, eq_self, reduceIte, Nat.reduceEqDiff, Option.map, vst, List.length_cons, List.length_nil, List.set_cons_zero, List.set_cons_succ, List.map_cons, List.map_nil, Option.map_some, Option.bind_some, Nat.reduceAdd, Nat.reduceLT, Nat.reduceLeDiff, Nat.add_zero, and_self, k_ne, Nat.add_left_cancel_iff, ne_eq, Int.reduceEq, Int.reduceLT, Int.reduceLE, List.cons_append, List.nil_append, Nat.reduceDiv, Nat.reduceMul, Int.reduceToNat, Int.reduceAdd, Int.cast_ofNat_Int] | refine And.intro (by omega) ?_))
  show opS _ _ _ (.call F.surdref01_Own [.t 24]) (some 25) _ _
  have hex : X.ev (upd (upd ρ3 3 (.sl (Tok.from 0 tb) 1 (rowsV (rowsL L)))) 24 (.sl (Tok.from 0 tb) 1 (rowsV (rowsL L)))) (.t 24) = .sl (.id tb) 1 (rowsV (rowsL L)) := rfl
  refine ⟨_, _, _, _, .own rfl own_spec hex (ownable_of (lo := 0) (ps := rowsL L) (Nat.le_refl _) (by rw [rowsL_len]; omega) (by rw [rowsL_len]; omega) (fun p hp' => ⟨(hp p hp').1.mono (Nat.le_refl _) hb1, (hp p hp').2⟩) (Nat.zero_le _) ha), ?_⟩
  (repeat (first | refine v_reg ?_ | refine v_last ?_ | refine vwp_seq ?_ | refine vwp_block ?_ | refine vwp_skip ?_ | refine vwp_exit ?_ | refine vwp_ret ?_ | refine v_cond ?_ | simp (maxSteps := 4000000) (disch := omega) only [vm, ite_true, ite_false, eq_self, reduceIte, Nat.reduceEqDiff, Option.map, vst, List.length_cons, List.length_nil, List.set_cons_zero, List.set_cons_succ, List.map_cons, List.map_nil, Option.map_some, Option.bind_some, Nat.reduceAdd, Nat.reduceLT, Nat.reduceLeDiff, Nat.add_zero, and_self, k_ne, Nat.add_left_cancel_iff, ne_eq, Int.reduceEq, Int.reduceLT, Int.reduceLE, List.cons_append, List.nil_append, Nat.reduceDiv, Nat.reduceMul, Int.reduceToNat, Int.reduceAdd, Int.cast_ofNat_Int] | refine And.intro (by omega) ?_))
end Go.Proofs.YtacodmnlnlbahaaGreatDoor
set_option linter.unusedSimpArgs false
set_option linter.unusedVariables false
set_option maxRecDepth 100000
set_option maxHeartbeats 8000000
namespace Go.Proofs.YtacodmnlnlbahaaGreatDoor
open Go.VM Go.RowKit

def renSP (us : List Nat) (s : SP) : SP := ⟨renT us s.t, renT us s.u, s.a, s.b⟩
theorem rowsL_ren (us : List Nat) (L : List SP) : rowsL (L.map (renSP us)) = (rowsL L).map fun p => (renT us p.1, p.2) := by
  induction L with
  | nil => rfl
  | cons s L ih =>
    have e : ∀ (s : SP) (L : List SP), rowsL (s :: L) = (s.t, s.a.l) :: (s.u, s.b.l) :: rowsL L := fun s L => rfl
    rw [List.map_cons, e, e, ih]
    rfl
theorem cellsL_ren {us : List Nat} : ∀ (L : List SP) (j : Nat) (y : V), (cellsL (L.map (renSP us)))[j]? = some y →
    ∃ x, (cellsL L)[j]? = some x ∧ ((∃ v, x = .lit v ∧ y = .lit v) ∨ ∃ p ∈ rowsL L, x = nats p.1 p.2 ∧ y = nats (renT us p.1) p.2)
  | [], j, y, h => by simp [cellsL] at h
  | s :: L, j, y, h => by
    have e1 : cellsL (s :: L) = bv s.a.neg :: nats s.t s.a.l :: iv s.a.e :: bv s.b.neg :: nats s.u s.b.l :: iv s.b.e :: cellsL L := rfl
    have e2 : cellsL ((s :: L).map (renSP us)) = bv s.a.neg :: nats (renT us s.t) s.a.l :: iv s.a.e :: bv s.b.neg :: nats (renT us s.u) s.b.l :: iv s.b.e :: cellsL (L.map (renSP us)) := rfl
    have e3 : rowsL (s :: L) = (s.t, s.a.l) :: (s.u, s.b.l) :: rowsL L := rfl
    rw [e2] at h
    rw [e1, e3]
    match j, h with
    | 0, h => simp at h; subst h; exact ⟨_, rfl, .inl ⟨_, rfl, rfl⟩⟩
    | 1, h => simp at h; subst h; exact ⟨_, rfl, .inr ⟨_, List.mem_cons_self, rfl, rfl⟩⟩
    | 2, h => simp at h; subst h; exact ⟨_, rfl, .inl ⟨_, rfl, rfl⟩⟩
    | 3, h => simp at h; subst h; exact ⟨_, rfl, .inl ⟨_, rfl, rfl⟩⟩
    | 4, h => simp at h; subst h; exact ⟨_, rfl, .inr ⟨_, List.mem_cons_of_mem _ List.mem_cons_self, rfl, rfl⟩⟩
    | 5, h => simp at h; subst h; exact ⟨_, rfl, .inl ⟨_, rfl, rfl⟩⟩
    | j + 6, h =>
      obtain ⟨x, h1, h2⟩ := cellsL_ren L j y (by simpa using h)
      refine ⟨x, by simpa using h1, ?_⟩
      rcases h2 with h2 | ⟨p, hp, h2⟩
      · exact .inl h2
      · exact .inr ⟨p, List.mem_cons_of_mem _ (List.mem_cons_of_mem _ hp), h2⟩
theorem retok_cells {us : List Nat} {tA : Nat} (L : List SP) (hA : us.getD 0 0 = tA) (h0 : 0 < us.length) (hr : ∀ p ∈ rowsL L, p.1 = .nil ∨ ∃ i, p.1 = .id i ∧ i ∈ us) :
    ReTok us (.sl (.id tA) 6 (cellsL L)) (.sl (.id 0) 6 (cellsL (L.map (renSP us)))) := by
  intro w M M' μ μ' c v hM hμ h
  have hlen : (cellsL (L.map (renSP us))).length = (cellsL L).length := by rw [cellsL_len, cellsL_len, List.length_map]
  generalize hx : V.sl (.id tA) 6 (cellsL L) = x at h
  cases h with
  | any | lit | agg | tup => cases hx
  | nil tk sz =>
    simp only [V.sl.injEq] at hx
    obtain ⟨rfl, rfl, hx⟩ := hx
    have : cellsL (L.map (renSP us)) = [] := List.eq_nil_of_length_eq_zero (by rw [hlen, hx]; rfl)
    rw [this]
    exact .nil _ 6
  | sl tk sz n cap a l' vs htk hn hc hs hMb hcap h1 hl =>
    simp only [V.sl.injEq] at hx
    obtain ⟨rfl, rfl, rfl⟩ := hx
    refine .sl _ 6 n cap a _ vs ?_ (by rw [hlen]; exact hn) hc hs (fun h => hM _ (hMb h)) hcap h1 (fun j y hy => ?_)
    · intro hr
      obtain ⟨⟨q1, q2⟩, q3⟩ := htk hr
      exact ⟨⟨h0, by rw [hμ 0 h0, hA]; exact q2⟩, q3⟩
    · obtain ⟨x, hx, ⟨v, rfl, rfl⟩ | ⟨p, hp, rfl, rfl⟩⟩ := cellsL_ren L j y hy
      · have := hl j _ hx
        generalize vs j = u at this
        cases this
        exact .lit _
      · exact rep_row hM hμ (hr p hp) (hl j _ hx)
theorem idxOf_inj {us : List Nat} {i j : Nat} (hi : i ∈ us) (hj : j ∈ us) (h : us.idxOf i = us.idxOf j) : i = j := by
  rw [← (getD_idxOf hi).2, ← (getD_idxOf hj).2, h]

section
variable {c0 : Nat} {ρ : Nat → V} {σ : Nat → Option Blk} {c i : Nat} {r : List VO} {K : VS → Prop}
theorem s_own10 {x : X} {tA lo : Nat} (L : List SP) (hx : x.ev ρ = .sl (.id tA) 6 (cellsL L)) (hl : 0 < L.length) (hl2 : L.length ≤ 1000) (hc : c0 ≤ lo) (hlo : lo ≤ tA) (hA : tA < c)
    (hp : ∀ p ∈ rowsL L, Row1 lo tA p.1 p.2 ∧ p.2.length ≤ 4398046511104) (ha : (rowsL L).Pairwise (fun p q => Apt p.1 q.1))
    (hk : wps Tryz.prog false c0 r ⟨upd (kill (some (.inr (tA :: ids (rowsV (rowsL L))))) ρ) i (bv true), fun t => if (tA :: ids (rowsV (rowsL L))).contains t = true then none else (σ t).map fun b => ⟨b.cells.map (V.thawL (tA :: ids (rowsV (rowsL L)))), b.live⟩, c⟩ K) :
    wps Tryz.prog false c0 (⟨some i, .call F.surdlaw10_own [x], none⟩ :: r) ⟨ρ, σ, c⟩ K := by
  obtain ⟨us, hus⟩ : ∃ us, us = tA :: ids (rowsV (rowsL L)) := ⟨_, rfl⟩
  have hown := ownable_of (c0 := c0) (lo := lo) (tL := tA) (ps := rowsL L) hc (by rw [rowsL_len]; omega) (by rw [rowsL_len]; omega) hp hlo ha
  simp only [ownable, Bool.and_eq_true, decide_eq_true_eq, List.all_eq_true] at hown
  obtain ⟨⟨⟨⟨_, _⟩, _⟩, _⟩, hnd⟩ := hown
  have hid : ∀ j ∈ ids (rowsV (rowsL L)), lo ≤ j ∧ j < tA := fun j hj => by
    obtain ⟨p, hpm, e⟩ := mem_ids hj
    rcases (hp p hpm).1 with ⟨e1, _⟩ | ⟨q, e1, h3, h4⟩
    · rw [e] at e1; cases e1
    · rw [e] at e1; cases e1; exact ⟨h3, h4⟩
  rw [← hus] at hk hnd
  have hmem : ∀ p ∈ rowsL L, p.1 = .nil ∨ ∃ j, p.1 = .id j ∧ j ∈ us := fun p hpm => by
    rcases (hp p hpm).1 with ⟨e1, _⟩ | ⟨q, e1, h3, h4⟩
    · exact .inl e1
    · refine .inr ⟨q, e1, ?_⟩
      rw [hus]
      refine List.mem_cons_of_mem _ (List.mem_filterMap.2 ⟨nats p.1 p.2, List.mem_map.2 ⟨p, hpm, rfl⟩, ?_⟩)
      rw [e1]
  have hpos : 0 < us.length := by rw [hus]; simp
  have hgiv := own10_giv (L.map (renSP us)) (by simpa using hl) (by simpa using hl2) us.length (fun p hpm => by
      rw [rowsL_ren] at hpm
      obtain ⟨q, hq, rfl⟩ := List.mem_map.1 hpm
      refine ⟨?_, (hp q hq).2⟩
      rcases (hp q hq).1 with ⟨e1, e2⟩ | ⟨j, e1, _⟩
      · exact .inl ⟨by simp only [e1]; rfl, e2⟩
      · rcases hmem q hq with e | ⟨j', e, hj'⟩
        · rw [e1] at e; cases e
        · exact .inr ⟨us.idxOf j', by simp only [e]; rfl, Nat.zero_le _, (getD_idxOf hj').1⟩) (by
      rw [rowsL_ren, List.pairwise_map]
      refine List.Pairwise.imp_of_mem (fun {p q} hpm hqm h => ?_) ha
      intro k e1 e2
      rcases hmem p hpm with e | ⟨j, e, hj⟩
      · simp only [e] at e1; cases e1
      · rcases hmem q hqm with e' | ⟨j', e', hj'⟩
        · simp only [e'] at e2; cases e2
        · simp only [e, renT] at e1
          simp only [e', renT] at e2
          cases e1
          have := idxOf_inj hj' hj (by injection e2)
          exact h j e (by rw [e', this]))
  show opS _ _ _ (.call F.surdlaw10_own [x]) (some i) _ _
  refine ⟨_, _, _, _, .ownV (us := us) rfl hgiv (by rw [hx]; rfl) (by rw [hx]; exact retok_cells L (by rw [hus]; rfl) hpos hmem) hnd (fun t ht => ?_), hk⟩
  show c0 ≤ t ∧ t < c
  rw [hus] at ht
  rcases List.mem_cons.1 ht with rfl | h
  · exact ⟨by omega, by omega⟩
  · have := hid t h; exact ⟨by omega, by omega⟩
end
end Go.Proofs.YtacodmnlnlbahaaGreatDoor
set_option linter.unusedSimpArgs false
set_option linter.unusedVariables false
set_option maxRecDepth 100000
set_option maxHeartbeats 8000000
namespace Go.Proofs.YtacodmnlnlbahaaGreatDoor
open Go.VM Go.RowKit

def anE (f : Int) (lo hi : Dy) : Int := if f = 0 then ansE lo hi else f
def anL (f : Int) (lo hi : Dy) : Dy := if f = 0 then ansL lo hi else dy0
def anH (f : Int) (lo hi : Dy) : Dy := if f = 0 then ansH lo hi else dy0
theorem AnsF.an {c c' : Nat} {f : Int} {lo hi : Dy} {r : V} (h : AnsF c c' f lo hi r) (hcc : c ≤ c') : ∃ t u cm, c ≤ cm ∧ cm ≤ c' ∧ r = .tup [rsV t u (RD.of (anL f lo hi)) (RD.of (anH f lo hi)), iv (anE f lo hi)] ∧ Own1 c cm t (digs 18446744073709551616 (anL f lo hi).m) ∧ Own1 cm c' u (digs 18446744073709551616 (anH f lo hi).m) := by
  unfold anE anL anH
  by_cases g : f = 0
  · obtain ⟨t, u, cm, h1, h2, h3, h4, h5⟩ := h.ok g
    rw [if_pos g, if_pos g, if_pos g]
    exact ⟨t, u, cm, h1, h2, h3, h4, h5⟩
  · rw [if_neg g, if_neg g, if_neg g]
    exact ⟨.nil, .nil, c, Nat.le_refl _, hcc, h.bad g, .inl ⟨rfl, rfl⟩, .inl ⟨rfl, rfl⟩⟩
theorem alk_an (t u tk uk : Tok) (f : Int) (x y x' y' : Dy) (c : Nat) (h : f = 0 → RNum x ∧ RNum y ∧ x' = x ∧ y' = y) :
    VSpec Tryz.prog F.surdlaw10_alike c [rsV t u (RD.of (anL f x y)) (RD.of (anH f x y)), iv (anE f x y), fsV tk uk x' y', iv f] (fun r _ => r = bv true) := by
  unfold anE anL anH
  by_cases g : f = 0
  · obtain ⟨h1, h2, rfl, rfl⟩ := h g
    subst g
    exact alk_ok t u tk uk x' y' c h1 h2
  · rw [if_neg g, if_neg g, if_neg g]
    exact alk_bad t u tk uk f x' y' c g
theorem an_len {f : Int} {x y : Dy} (h : f = 0 → RNum x ∧ RNum y) : (RD.of (anL f x y)).l.length ≤ 4398046511104 ∧ (RD.of (anH f x y)).l.length ≤ 4398046511104 := by
  have key : ∀ {z : Dy}, bl z.m ≤ 68719476736 → (RD.of z).l.length ≤ 4398046511104 := fun {z} h => by
    have := digs_len_bl (m := z.m) (k := 1073741824) (by omega)
    show (digs 18446744073709551616 z.m).length ≤ _
    omega
  have k0 : (RD.of dy0).l.length ≤ 4398046511104 := by decide
  unfold anL anH ansL ansH
  by_cases g : f = 0
  · obtain ⟨h1, h2⟩ := h g
    rw [if_pos g, if_pos g]
    constructor
    · split
      · exact key h1.bits
      · exact k0
    · split
      · exact key h2.bits
      · exact k0
  · rw [if_neg g, if_neg g]
    exact ⟨k0, k0⟩

theorem thawL_still {ts : List Nat} {x : V} (h : ∀ q ∈ ts, x.still q 4 = true) : V.thawL ts x = x := by
  unfold V.thawL
  rw [if_pos (List.all_eq_true.2 fun q hq => h q hq)]
def Sf (lo : Nat) (x : V) : Prop := ∀ q, lo ≤ q → x.still q 4 = true
theorem sf_lit {lo : Nat} (v : Value) : Sf lo (.lit v) := fun q _ => rfl
theorem sf_nats {lo : Nat} {t : Tok} {l : List Nat} (h : Kn lo t) : Sf lo (nats t l) := fun q hq => by
  show (t.apart q && (l.map nv).all (V.still q 3)) = true
  rw [Bool.and_eq_true]
  refine ⟨?_, ?_⟩
  · rcases h with rfl | ⟨i, rfl | rfl, hi⟩
    · rfl
    · exact beq_no (by omega)
    · exact beq_no (by omega)
  · rw [List.all_eq_true]
    intro x hx
    obtain ⟨n, _, rfl⟩ := List.mem_map.1 hx
    rfl
theorem sf_ptr {lo : Nat} (t o : Nat) : Sf lo (.ptr t o) := fun q _ => rfl
section
variable {c0 : Nat} {ρ : Nat → V} {σ : Nat → Option Blk} {c i : Nat} {r : List VO} {K : VS → Prop}
theorem s_own10S {x : X} {tA : Nat} (lo : Nat) (L : List SP) (hx : x.ev ρ = .sl (.id tA) 6 (cellsL L)) (hl : 0 < L.length) (hl2 : L.length ≤ 1000) (hc : c0 ≤ lo) (hlo : lo ≤ tA) (hA : tA < c)
    (hp : ∀ p ∈ rowsL L, Row1 lo tA p.1 p.2 ∧ p.2.length ≤ 4398046511104) (ha : (rowsL L).Pairwise (fun p q => Apt p.1 q.1))
    (hk : ∀ ρ' σ', (∀ j, Sf lo (ρ j) → ρ' j = ρ j) → (∀ t b, t < lo → σ t = some b → (∀ x ∈ b.cells, Sf lo x) → σ' t = some b) → (∀ t, c ≤ t → σ t = none → σ' t = none) → wps Tryz.prog false c0 r ⟨upd ρ' i (bv true), σ', c⟩ K) :
    wps Tryz.prog false c0 (⟨some i, .call F.surdlaw10_own [x], none⟩ :: r) ⟨ρ, σ, c⟩ K := by
  have hid : ∀ j ∈ (tA :: ids (rowsV (rowsL L))), lo ≤ j := fun j hj => by
    rcases List.mem_cons.1 hj with rfl | hj
    · exact hlo
    obtain ⟨p, hpm, e⟩ := mem_ids hj
    rcases (hp p hpm).1 with ⟨e1, _⟩ | ⟨q, e1, h3, h4⟩
    · rw [e] at e1; cases e1
    · rw [e] at e1; cases e1; exact h3
  refine s_own10 L hx hl hl2 hc hlo hA hp ha (hk _ _ (fun j hj => thawL_still fun q hq => hj q (hid q hq)) (fun t b ht hb hs => ?_) (fun t _ h => ?_))
  · rw [if_neg (fun h => by have := hid t (by simpa using h); omega), hb]
    show some (⟨b.cells.map (V.thawL _), b.live⟩ : Blk) = some b
    have : b.cells.map (V.thawL (tA :: ids (rowsV (rowsL L)))) = b.cells := by
      exact (List.map_congr_left fun x hx => thawL_still fun q hq => hs x hx q (hid q hq)).trans (List.map_id _)
    rw [this]
  · simp only [h, Option.map_none, ite_self]
end
end Go.Proofs.YtacodmnlnlbahaaGreatDoor
set_option linter.unusedVariables false
set_option linter.unusedSimpArgs false
namespace Go.VM

section
variable {α : Type}
def fN (n : Nat) (k : Nat → α) : α := match n with | 0 => k 0 | m + 1 => k (Nat.succ m)
theorem fN_eq (n : Nat) (k : Nat → α) : fN n k = k n := by cases n <;> rfl
def fI (n : Int) (k : Int → α) : α := match n with | .ofNat m => fN m fun m => k (.ofNat m) | .negSucc m => fN m fun m => k (.negSucc m)
theorem fI_eq (n : Int) (k : Int → α) : fI n k = k n := by cases n <;> simp only [fI, fN_eq]
def fU (v : Value) (k : Value → α) : α := match v with
  | .int t n => fI n fun n => k (.int t n)
  | .bool true => k (.bool true)
  | .bool false => k (.bool false)
  | v => k v
theorem fU_eq (v : Value) (k : Value → α) : fU v k = k v := by
  unfold fU
  split <;> simp only [fI_eq]
def fL {β : Type} (l : List β) (k : List β → α) : α := match l with | [] => k [] | x :: xs => fL xs fun xs => k (x :: xs)
theorem fL_eq {β : Type} (l : List β) (k : List β → α) : fL l k = k l := by
  induction l generalizing k with
  | nil => rfl
  | cons x xs ih => rw [fL, ih]
def fO (o : Option Nat) (k : Option Nat → α) : α := match o with | none => k none | some n => fN n fun n => k (some n)
theorem fO_eq (o : Option Nat) (k : Option Nat → α) : fO o k = k o := by cases o <;> simp only [fO, fN_eq]
def fT (t : Tok) (k : Tok → α) : α := match t with | .nil => k .nil | .unk => k .unk | .id n => fN n fun n => k (.id n) | .sub n => fN n fun n => k (.sub n)
theorem fT_eq (t : Tok) (k : Tok → α) : fT t k = k t := by cases t <;> simp only [fT, fN_eq]
def fV (v : V) (k : V → α) : α := match v with
  | .any => k .any
  | .lit v => fU v fun v => k (.lit v)
  | .sl t sz l => fT t fun t => fN sz fun sz => fL l fun l => k (.sl t sz l)
  | .buf t off n cap sz => fN t fun t => fN off fun off => fN n fun n => fO cap fun cap => fN sz fun sz => k (.buf t off n cap sz)
  | .ptr t off => fN t fun t => fN off fun off => k (.ptr t off)
  | .gptr t off => fN t fun t => fN off fun off => k (.gptr t off)
  | .eptr l i => fL l fun l => fN i fun i => k (.eptr l i)
  | .agg l => fL l fun l => k (.agg l)
  | .tup l => fL l fun l => k (.tup l)
theorem fV_eq (v : V) (k : V → α) : fV v k = k v := by cases v <;> simp only [fV, fU_eq, fT_eq, fN_eq, fL_eq, fO_eq]
end

def nth (l : List V) (i : Nat) : V := match l, i with | [], _ => .any | x :: _, 0 => x | _ :: xs, i + 1 => nth xs i
theorem nth_getD (l : List V) (i : Nat) : nth l i = l.getD i .any := by
  induction l generalizing i with
  | nil => rfl
  | cons x xs ih => cases i with
    | zero => rfl
    | succ i => rw [nth, ih]; rfl
theorem start_nth (l : List V) : start l = nth l := by funext i; rw [nth_getD]; rfl
theorem nth_append_any (l : List V) (n : Nat) : nth (l ++ List.replicate n .any) = nth l := by
  funext i
  rw [nth_getD, nth_getD, List.getD_eq_getElem?_getD, List.getD_eq_getElem?_getD, List.getElem?_append]
  split
  · rfl
  · rename_i h
    rw [List.getElem?_eq_none (Nat.le_of_not_lt h), List.getElem?_replicate]
    split <;> rfl
def setR {β : Type} (l : List V) (i : Nat) (v : V) (k : List V → Option β) : Option β := match l, i with
  | [], _ => none
  | _ :: xs, 0 => k (v :: xs)
  | x :: xs, i + 1 => setR xs i v fun xs => k (x :: xs)
theorem setR_some {β : Type} {l : List V} {i : Nat} {v : V} {k : List V → Option β} {b : β} (h : setR l i v k = some b) : ∃ l', k l' = some b ∧ nth l' = upd (nth l) i v := by
  induction l generalizing i k with
  | nil => cases h
  | cons x xs ih =>
    cases i with
    | zero =>
      refine ⟨_, h, ?_⟩
      funext j
      cases j with
      | zero => rfl
      | succ j => rfl
    | succ i =>
      obtain ⟨l', h1, h2⟩ := ih h
      refine ⟨x :: l', h1, ?_⟩
      funext j
      cases j with
      | zero => rfl
      | succ j =>
        rw [nth, h2]
        simp [upd, nth]

abbrev BL := List (Nat × Blk)
def lookB (l : BL) (t : Nat) : Option Blk := match l with | [] => none | p :: r => if p.1 = t then some p.2 else lookB r t
def putB (l : BL) (t : Nat) (b : Blk) : BL := match l with | [] => [(t, b)] | p :: r => if p.1 = t then (t, b) :: r else p :: putB r t b
theorem lookB_nil : lookB [] = noBlk := rfl
theorem lookB_put (l : BL) (t : Nat) (b : Blk) : lookB (putB l t b) = supd (lookB l) t (some b) := by
  funext u
  induction l with
  | nil => simp only [putB, lookB, supd]; by_cases e : t = u <;> simp [e, eq_comm]
  | cons p r ih =>
    obtain ⟨t', b'⟩ := p
    simp only [putB]
    by_cases e : t' = t
    · subst e
      simp only [if_true, lookB, supd]
      by_cases e : t' = u
      · simp [e]
      · simp [e, Ne.symm e]
    · simp only [e, if_false, lookB, ih, supd]
      by_cases e1 : t' = u
      · subst e1; simp [e]
      · simp [e1]
def keepB (p : Nat → Bool) (l : BL) : BL := match l with | [] => [] | q :: r => if p q.1 = true then q :: keepB p r else keepB p r
theorem lookB_keep (p : Nat → Bool) (l : BL) (t : Nat) : lookB (keepB p l) t = if p t = true then lookB l t else none := by
  induction l with
  | nil => simp [keepB, lookB]
  | cons q r ih =>
    simp only [keepB]
    by_cases h : p q.1 = true
    · simp only [h, if_true, lookB, ih]
      by_cases e : q.1 = t
      · subst e; simp [h]
      · simp [e]
    · simp only [h, lookB]
      by_cases e : q.1 = t
      · subst e; simp [ih, h]
      · simp [e, ih]
theorem lookB_append (l r : BL) (t : Nat) : lookB (l ++ r) t = match lookB l t with | some b => some b | none => lookB r t := by
  induction l with
  | nil => rfl
  | cons q l ih =>
    simp only [List.cons_append, lookB]
    by_cases e : q.1 = t
    · simp [e]
    · simp [e, ih]

structure XS where
  r : List V
  s : BL
  c : Nat
def XS.vs (S : XS) : VS := ⟨nth S.r, lookB S.s, S.c⟩

structure XEff where
  v : V
  s : BL
  c : Nat
  k : KT

def flatB (s : BL) : Bool := match s with | [] => true | p :: r => if p.2.cells.all V.flat = true then flatB r else false
theorem flat_kill {x : V} (t : Nat) (h : x.flat = true) : killV t x = x := by
  cases x <;> first | rfl | cases h
theorem flat_killL {l : List V} (t : Nat) (h : l.all V.flat = true) : l.map (killV t) = l := by
  refine (List.map_congr_left fun x hx => ?_).trans (List.map_id _)
  exact flat_kill t (List.all_eq_true.1 h x hx)
theorem flat_solid {l : List V} (h : l.all V.flat = true) : l.map V.solid = l := by
  refine (List.map_congr_left fun x hx => ?_).trans (List.map_id _)
  unfold V.solid
  rw [if_pos (List.all_eq_true.1 h x hx)]
  rfl
theorem flatB_look {s : BL} (h : flatB s = true) {t : Nat} {b : Blk} (hb : lookB s t = some b) : b.cells.all V.flat = true := by
  induction s with
  | nil => cases hb
  | cons p r ih =>
    simp only [flatB] at h
    split at h
    · rename_i hp
      simp only [lookB] at hb
      split at hb
      · cases hb; exact hp
      · exact ih h hb
    · cases h
theorem flatB_kill {s : BL} (h : flatB s = true) (t : Nat) : killσ t (lookB s) = lookB s := by
  funext u
  unfold killσ
  cases hb : lookB s u with
  | none => rfl
  | some b => simp only [Option.map]; rw [flat_killL t (flatB_look h hb)]
theorem all_take {l : List V} (n : Nat) (h : l.all V.flat = true) : (l.take n).all V.flat = true := List.all_eq_true.2 fun x hx => List.all_eq_true.1 h x (List.mem_of_mem_take hx)
theorem all_app {l r : List V} (h : l.all V.flat = true) (h2 : r.all V.flat = true) : (l ++ r).all V.flat = true := by rw [List.all_append, h, h2]; rfl
def xstore (s : BL) (n : Nat) (x v : V) : Option BL :=
  match x, v.cellsB with
  | .ptr t off, some cs => match lookB s t with
    | some b => if b.live = true ∧ cs.length = n ∧ off + n ≤ b.cells.length then fL (putCells b.cells off cs) fun cs => some (putB s t ⟨cs, true⟩) else none
    | none => none
  | _, _ => none
def xapp (c0 : Nat) (s : BL) (c sz bytes : Nat) (x y : V) : Option XEff :=
  match x with
  | .sl .nil sz0 [] => match vcells sz (lookB s) y with
    | some [] => some ⟨.sl .nil sz0 [], s, c, none⟩
    | some ys => let k := ys.length / sz; if ys.length = k * sz ∧ 0 < k ∧ k * bytes ≤ 281474976710656 ∧ k ≤ 4611686018427387904 then fL ys fun ys => some ⟨.buf c 0 k none sz, putB s c ⟨ys, true⟩, c + 1, none⟩ else none
    | none => none
  | .buf t 0 n cp sz' => match lookB s t, vcells sz (lookB s) y with
    | some b, some ys => let k := ys.length / sz; if sz' = sz ∧ b.live = true ∧ ys.length = k * sz then
        (match cp with
        | some cap => if n + k ≤ cap ∧ (n + k) * sz ≤ b.cells.length then fL (putCells b.cells (n * sz) ys) fun cs => some ⟨.buf t 0 (n + k) (some cap) sz, putB s t ⟨cs, true⟩, c, none⟩
          else if c0 ≤ t ∧ n * sz ≤ b.cells.length ∧ (2 * (n + k)) * bytes ≤ 281474976710656 ∧ n + k ≤ 4611686018427387904 ∧ flatB s = true ∧ ys.all V.flat = true then fL (b.cells.take (n * sz) ++ ys) fun cs => some ⟨.buf t 0 (n + k) none sz, putB s t ⟨cs, true⟩, c, some (.inl t)⟩ else none
        | none => if c0 ≤ t ∧ n * sz ≤ b.cells.length ∧ (2 * (n + k)) * bytes ≤ 281474976710656 ∧ n + k ≤ 4611686018427387904 ∧ flatB s = true ∧ ys.all V.flat = true then fL (b.cells.take (n * sz) ++ ys) fun cs => some ⟨.buf t 0 (n + k) none sz, putB s t ⟨cs, true⟩, c, some (.inl t)⟩ else none)
      else none
    | _, _ => none
  | _ => none
def xcpy (s : BL) (c sz : Nat) (x y : V) : Option XEff :=
  match x with
  | .buf t off n cap sz' => match lookB s t, vcells sz (lookB s) y with
    | some b, some ys => let m := ys.length / sz; if sz' = sz ∧ b.live = true ∧ ys.length = m * sz ∧ off + n * sz ≤ b.cells.length then
        fL (putCells b.cells off (ys.take (min m n * sz))) fun cs => some ⟨.int .i64 ((min m n : Nat) : Int), putB s t ⟨cs, true⟩, c, none⟩ else none
    | _, _ => none
  | _ => none
def xmk (s : BL) (c : Nat) (z : List Value) (bytes : Nat) (l q : V) : Option XEff :=
  match l, q with
  | .lit (.int _ (.ofNat n)), .lit (.int _ (.ofNat cap)) => if n ≤ cap ∧ cap * bytes ≤ 281474976710656 ∧ cap ≤ 9223372036854775807 then fL (rept z cap) fun cs => some ⟨.buf c 0 n (some cap) z.length, putB s c ⟨cs, true⟩, c + 1, none⟩ else none
  | _, _ => none

def offB : V → V → Bool
  | .ptr t _, .ptr u _ => !(Nat.beq t u)
  | .ptr _ _, .eptr _ _ => true
  | _, _ => false
theorem offB_off {p q : V} (h : offB p q = true) : V.offp p q := by
  unfold offB at h
  split at h
  · exact fun e => by subst e; simp at h
  · trivial
  · cases h
def xeff (c0 : Nat) (e : X → V) (s : BL) (c : Nat) (o : VOp) : Option XEff :=
  match o with
  | .load ag x => (vload (lookB s) ag (e x)).map fun v => ⟨v, s, c, none⟩
  | .store n x y => (xstore s n (e x) (e y)).map fun s => ⟨.any, s, c, none⟩
  | .storeA n x y ys => if (ys.all fun i => offB (e x) (e (.t i))) = true then (xstore s n (e x) (e y)).map fun s => ⟨.any, s, c, none⟩ else none
  | .boxA n x => match (e x).cells, lookB s c with | some cs, none => if cs.length = n then fL cs fun cs => some ⟨.ptr c 0, putB s c ⟨cs, true⟩, c + 1, none⟩ else none | _, _ => none
  | .mk z bytes l q => xmk s c z bytes (e l) (e q)
  | .box x => match (e x).cells with | some cs => fL cs fun cs => some ⟨.ptr c 0, putB s c ⟨cs, true⟩, c + 1, none⟩ | none => none
  | .alloc z => fL (vlits z) fun cs => some ⟨.ptr c 0, putB s c ⟨cs, true⟩, c + 1, none⟩
  | .bsl tok sz len z ps => match vfill (rept z len) (partsOf e ps) with
    | some cs => if tok = true then some ⟨.sl (.id c) sz cs, s, c + 1, none⟩ else some ⟨.sl .unk sz cs, s, c, none⟩
    | none => none
  | .app sz bytes z x y => xapp c0 s c sz bytes (e x) (e y)
  | .cpy sz x y => xcpy s c sz (e x) (e y)
  | .call _ _ => none
  | .callv _ _ => none
  | .bad => none
  | o => (vpure e o).map fun v => ⟨v, s, c, none⟩

theorem xstore_sound {s s' : BL} {n : Nat} {x y : V} (h1 : xstore s n x y = some s') : vstore (lookB s) n x y = some (lookB s') := by
  unfold xstore at h1
  unfold vstore
  split at h1
  · split at h1
    · split at h1
      · rename_i hb hc
        rw [fL_eq] at h1
        cases h1
        simp only [*, lookB_put]
        rw [if_pos (by first | exact hc | simp [hc])]
      · cases h1
    · cases h1
  · cases h1
theorem xeff_sound {P : Program} {dr : Bool} {c0 : Nat} {e : X → V} {s : BL} {c : Nat} {o : VOp} {r : XEff} (h : xeff c0 e s c o = some r) : VEff P dr c0 e (lookB s) c o r.v (lookB r.s) r.c r.k := by
  unfold xeff at h
  split at h
  · obtain ⟨v, h1, rfl⟩ := Option.map_eq_some_iff.1 h
    exact .load h1
  · obtain ⟨s', h1, rfl⟩ := Option.map_eq_some_iff.1 h
    exact .store (xstore_sound h1)
  · split at h
    · rename_i hy
      obtain ⟨s', h1, rfl⟩ := Option.map_eq_some_iff.1 h
      exact .storeA (fun i hi => offB_off (List.all_eq_true.1 hy i hi)) (xstore_sound h1)
    · cases h
  · split at h
    · rename_i hc hf
      split at h
      · rename_i hn
        rw [fL_eq] at h
        cases h
        rw [lookB_put]
        exact .boxA hf hc hn
      · cases h
    · cases h
  · unfold xmk at h
    split at h
    · rename_i hl hq
      split at h
      · rename_i hc
        rw [fL_eq] at h
        cases h
        rw [lookB_put]
        exact .mk hl hq hc.1 hc.2.1 hc.2.2
      · cases h
    · cases h
  · split at h
    · rename_i hc
      rw [fL_eq] at h
      cases h
      rw [lookB_put]
      exact .box hc
    · cases h
  · rw [fL_eq] at h
    cases h
    rw [lookB_put]
    exact .alloc
  · split at h
    · rename_i hc
      split at h
      · rename_i ht; subst ht; cases h; exact .bsl hc
      · rename_i ht
        simp at ht
        subst ht; cases h; exact .bsl0 hc
    · cases h
  · rename_i sz bytes z x y
    unfold xapp at h
    split at h
    · rename_i hx
      split at h
      · rename_i hy
        cases h
        exact .appNil0 hx hy
      · rename_i ys _ hy
        dsimp only at h
        split at h
        · rename_i hc
          rw [fL_eq] at h
          cases h
          rw [lookB_put]
          exact .appNil hx hy hc.1 hc.2.1 hc.2.2.1 hc.2.2.2
        · cases h
      · cases h
    · rename_i t n cp sz' hx
      split at h
      · rename_i b ys hb hy
        dsimp only at h
        split at h
        · rename_i hc
          obtain ⟨rfl, hl, hk⟩ := hc
          have hb' : lookB s t = some ⟨b.cells, true⟩ := by rw [hb, ← hl]
          split at h
          · rename_i cap
            split at h
            · rename_i hf
              rw [fL_eq] at h
              cases h
              rw [lookB_put]
              exact .appFit hx hb' hy hk hf.1 hf.2
            · split at h
              · rename_i hf
                rw [fL_eq] at h
                cases h
                rw [lookB_put]
                exact (by have q := VEff.appMove (P := P) (dr := dr) (c0 := c0) (e := e) (σ := lookB s) (c := c) (z := z) hx hb' hf.1 hy hk hf.2.1 hf.2.2.1 hf.2.2.2.1; rw [flatB_kill hf.2.2.2.2.1, flat_killL t (all_app (all_take _ (flatB_look hf.2.2.2.2.1 hb')) hf.2.2.2.2.2)] at q; exact q)
              · cases h
          · split at h
            · rename_i hf
              rw [fL_eq] at h
              cases h
              rw [lookB_put]
              exact (by have q := VEff.appMove (P := P) (dr := dr) (c0 := c0) (e := e) (σ := lookB s) (c := c) (z := z) hx hb' hf.1 hy hk hf.2.1 hf.2.2.1 hf.2.2.2.1; rw [flatB_kill hf.2.2.2.2.1, flat_killL t (all_app (all_take _ (flatB_look hf.2.2.2.2.1 hb')) hf.2.2.2.2.2)] at q; exact q)
            · cases h
        · cases h
      · cases h
    · cases h
  · unfold xcpy at h
    split at h
    · rename_i t off n cap sz' hx
      split at h
      · rename_i b ys hb hy
        dsimp only at h
        split at h
        · rename_i hc
          obtain ⟨rfl, hl, hk, hf⟩ := hc
          have hb' : lookB s t = some ⟨b.cells, true⟩ := by rw [hb, ← hl]
          rw [fL_eq] at h
          cases h
          rw [lookB_put]
          exact .cpy hx hb' hy hk hf
        · cases h
      · cases h
    · cases h
  · cases h
  · cases h
  · cases h
  · obtain ⟨v, h1, rfl⟩ := Option.map_eq_some_iff.1 h
    exact .pure h1

def frz1 {β : Type} (c0 : Nat) (i : Nat) (S : XS) (k : XS → Option β) : Option β :=
  match nth S.r i with
  | .buf t off n cap sz => if c0 ≤ t then (match lookB S.s t with
      | some b => if off + n * sz ≤ b.cells.length ∧ ((b.cells.drop off).take (n * sz)).all V.flat = true then fL ((b.cells.drop off).take (n * sz)) fun l => setR S.r i (.sl (Tok.from off t) sz l) fun r => k ⟨r, putB S.s t ⟨b.cells, false⟩, S.c⟩ else none
      | none => none) else k S
  | _ => k S
theorem frz1_some {β : Type} {c0 i : Nat} {S : XS} {k : XS → Option β} {b : β} (h : frz1 c0 i S k = some b) : ∃ S1, k S1 = some b ∧ (S1 = S ∨ ∃ t off n sz cap cells lv, S.vs.ρ i = .buf t off n cap sz ∧ S.vs.σ t = some ⟨cells, lv⟩ ∧ c0 ≤ t ∧ off + n * sz ≤ cells.length ∧ S1.vs = frozen S.vs i t off sz cells (((cells.drop off).take (n * sz)).map V.solid)) := by
  unfold frz1 at h
  split at h
  · rename_i t off n cap sz hi
    split at h
    · rename_i h0
      split at h
      · rename_i bk hb
        split at h
        · rename_i hl
          rw [fL_eq] at h
          obtain ⟨r, h1, h2⟩ := setR_some h
          refine ⟨_, h1, .inr ⟨t, off, n, sz, cap, bk.cells, bk.live, hi, hb, h0, hl.1, ?_⟩⟩
          rw [flat_solid hl.2]
          simp only [XS.vs, frozen, h2, lookB_put]
        · cases h
      · cases h
    · exact ⟨S, h, .inl rfl⟩
  · exact ⟨S, h, .inl rfl⟩
def frzL {β : Type} (c0 : Nat) (l : List Nat) (S : XS) (k : XS → Option β) : Option β := match l with | [] => k S | i :: r => frz1 c0 i S fun S => frzL c0 r S k

theorem frzL_exec {β : Type} {P : Program} {c0 : Nat} {l : List Nat} {S : XS} {k : XS → Option β} {b : β} (h : frzL c0 l S k = some b) : ∃ S1 : XS, k S1 = some b ∧ ∀ vc e S', VExec P c0 vc S1.vs e S' → VExec P c0 vc S.vs e S' := by
  induction l generalizing S with
  | nil => exact ⟨S, h, fun _ _ _ h => h⟩
  | cons i r ih =>
    obtain ⟨S1, h1, h2⟩ := frz1_some h
    obtain ⟨S2, h3, h4⟩ := ih h1
    refine ⟨S2, h3, fun vc e S' hs => ?_⟩
    have h5 := h4 vc e S' hs
    rcases h2 with rfl | ⟨t, off, n, sz, cap, cells, lv, g1, g2, g3, g4, g5⟩
    · exact h5
    · exact .freeze g1 g2 g3 g4 (by rw [← g5]; exact h5)

def lentB (s : BL) (l : List V) : BL := match l with
  | [] => []
  | .buf t _ _ _ _ :: r => (match lookB s t with | some b => if b.live = true then putB (lentB s r) t b else lentB s r | none => lentB s r)
  | .ptr t _ :: r => (match lookB s t with | some b => if b.live = true then putB (lentB s r) t b else lentB s r | none => lentB s r)
  | _ :: r => lentB s r
theorem lentB_ok (s : BL) (l : List V) (t : Nat) (b : Blk) (h : lookB (lentB s l) t = some b) : lookB s t = some b ∧ b.live = true := by
  have key : ∀ (t : Nat) (b : Blk) (r : List V) (t' : Nat), (∀ t b, lookB (lentB s r) t = some b → lookB s t = some b ∧ b.live = true) →
      lookB (match lookB s t' with | some b => if b.live = true then putB (lentB s r) t' b else lentB s r | none => lentB s r) t = some b → lookB s t = some b ∧ b.live = true := by
    intro t b r t' ih h
    split at h
    · rename_i b' hb
      split at h
      · rename_i hl
        rw [lookB_put] at h
        simp only [supd] at h
        split at h
        · rename_i e; subst e; cases h; exact ⟨hb, hl⟩
        · exact ih _ _ h
      · exact ih _ _ h
    · exact ih _ _ h
  revert t b
  induction l with
  | nil => intro t b h; cases h
  | cons x r ih =>
    intro t b h
    cases x with
    | buf t' off n cap sz => exact key t b r t' (fun t b h => ih t b h) h
    | ptr t' off => exact key t b r t' (fun t b h => ih t b h) h
    | any => exact ih t b h
    | lit _ => exact ih t b h
    | sl _ _ _ => exact ih t b h
    | eptr _ _ => exact ih t b h
    | gptr _ _ => exact ih t b h
    | agg _ => exact ih t b h
    | tup _ => exact ih t b h

structure XRes where
  v : V
  s : BL
  c : Nat
abbrev XCall := FuncId → List V → BL → Nat → Option XRes
def CallOk (P : Program) (call : XCall) : Prop := ∀ f xs sl c r, call f xs sl c = some r → VCalls P f c (lookB sl) xs r.v (lookB r.s) r.c ∧ ∀ t, lookB sl t = none → lookB r.s t = none

def xput {β : Type} (d : Option Nat) (v : V) (r : List V) (k : List V → Option β) : Option β := match d with | none => k r | some i => fV v fun v => setR r i v k
theorem xput_some {β : Type} {d : Option Nat} {v : V} {r : List V} {k : List V → Option β} {b : β} (h : xput d v r k = some b) : ∃ r', k r' = some b ∧ nth r' = updo (nth r) d v := by
  cases d with
  | none => exact ⟨r, h, rfl⟩
  | some i =>
    simp only [xput, fV_eq] at h
    exact setR_some h

def killR (t : Nat) (l : List V) : List V := match l with | [] => [] | x :: xs => killV t x :: killR t xs
theorem nth_kill (t : Nat) (l : List V) : nth (killR t l) = kill (some (.inl t)) (nth l) := by
  funext i
  induction l generalizing i with
  | nil => rfl
  | cons x xs ih =>
    cases i with
    | zero => rfl
    | succ i => exact ih i

def xcallop {β : Type} (call : XCall) (dr : Bool) (lend : FuncId → Bool) (c0 : Nat) (f : FuncId) (xs : List X) (d : Option Nat) (S : XS) (k : XS → Option β) : Option β :=
  (if dr = true ∨ lend f = true then fun k => k S else frzL c0 (xs.flatMap X.reads) S) fun S =>
    let ys := xs.map (X.ev (nth S.r))
    let sl := if dr = true then [] else lentB S.s ys
    match sl with
    | [] => (match call f ys [] S.c with
      | some ⟨v, _, c'⟩ => fN c' fun c' => xput d v S.r fun r => k ⟨r, S.s, c'⟩
      | none => none)
    | sl => (match call f ys sl S.c with
      | some ⟨v, s', c'⟩ => fN c' fun c' => fL (keepB (fun t => !((lookB sl t).isSome || decide (S.c ≤ t))) S.s ++ s') fun s => xput d v S.r fun r => k ⟨r, s, c'⟩
      | none => none)

def asFn (v : V) : Option FuncId := match v with | .lit (.func (.func f) a b) => if a.size = 0 ∧ b.size = 0 then some f else none | _ => none
theorem asFn_some {v : V} {f : FuncId} (h : asFn v = some f) : v = .lit (.func (.func f) #[] #[]) := by
  unfold asFn at h
  split at h
  · split at h
    · rename_i f' a b g
      cases h
      rw [Array.eq_empty_of_size_eq_zero g.1, Array.eq_empty_of_size_eq_zero g.2]
    · cases h
  · cases h
def xstep {β : Type} (call : XCall) (dr : Bool) (lend : FuncId → Bool) (c0 : Nat) (op : VOp) (d : Option Nat) (S : XS) (k : XS → Option β) : Option β :=
  match op with
  | .call f xs => xcallop call dr lend c0 f xs d S k
  | .callv x xs => (if dr = true then fun k => k S else frzL c0 (xs.flatMap X.reads) S) fun S =>
      (match asFn (x.ev (nth S.r)) with
      | some f => (match call f (xs.map (X.ev (nth S.r))) [] S.c with
        | some ⟨v, _, c'⟩ => fN c' fun c' => xput d v S.r fun r => k ⟨r, S.s, c'⟩
        | none => none)
      | none => none)
  | op => (if dr = true then fun k => k S else (match op with | .build .. | .bsl .. | .store .. | .box .. => frzL c0 op.reads S | _ => fun k => k S)) fun S =>
    (match xeff c0 (X.ev (nth S.r)) S.s S.c op with
    | some ⟨v, s, c, none⟩ => xput d v S.r fun r => k ⟨r, s, c⟩
    | some ⟨v, s, c, some (.inl t)⟩ => fL (killR t S.r) fun r => xput d v r fun r => k ⟨r, s, c⟩
    | _ => none)

def xops (call : XCall) (dr : Bool) (lend : FuncId → Bool) (c0 : Nat) (l : List VO) (S : XS) : Option XS :=
  match l with
  | [] => some S
  | ⟨d, op, none⟩ :: r => xstep call dr lend c0 op d S fun S => xops call dr lend c0 r S
  | ⟨d, op, some (t, b)⟩ :: r => match nth S.r t with
    | .lit (.bool b') => if b' = b then xstep call dr lend c0 op d S fun S => xops call dr lend c0 r S else xput d (.tup []) S.r fun rr => xops call dr lend c0 r ⟨rr, S.s, S.c⟩
    | .tup [] => xput d (.tup []) S.r fun rr => xops call dr lend c0 r ⟨rr, S.s, S.c⟩
    | _ => none

structure XOut where
  e : VEx
  S : XS
def frzOf (l : List VO) : List Nat := l.flatMap fun o => match o.op with | .call .. | .callv .. | .build .. | .bsl .. | .store .. | .box .. => o.op.reads | _ => []
def xrun (call : XCall) (lend : FuncId → Bool) (rsl : List Nat) (c0 : Nat) (n : Nat) (vc : VC) (S : XS) : Option XOut :=
  match n with
  | 0 => none
  | n + 1 => match vc with
    | .skip => some ⟨.normal, S⟩
    | .region dr ops => (if dr = true then frzL c0 (frzOf ops) S else fun k => k S) fun S =>
      (match xops call dr lend c0 ops S with | some S => some ⟨.normal, S⟩ | none => none)
    | .seq a b => match xrun call lend rsl c0 n a S with
      | some ⟨.normal, S⟩ => xrun call lend rsl c0 n b S
      | r => r
    | .cond x a b => match x.ev (nth S.r) with
      | .lit (.bool true) => xrun call lend rsl c0 n a S
      | .lit (.bool false) => xrun call lend rsl c0 n b S
      | _ => none
    | .block id b => match xrun call lend rsl c0 n b S with
      | some ⟨.exit j, S⟩ => if j = id then some ⟨.normal, S⟩ else some ⟨.exit j, S⟩
      | r => r
    | .loop b => match xrun call lend rsl c0 n b S with
      | some ⟨.normal, S⟩ => xrun call lend rsl c0 n (.loop b) S
      | r => r
    | .exit id => some ⟨.exit id, S⟩
    | .ret => frzL c0 rsl S fun S => some ⟨.ret, S⟩
    | .bad => none

structure XFun where
  f : FuncId
  vc : VC
  rs : List VRes
  n : Nat
def findF (l : List XFun) (f : FuncId) : Option XFun := match l with | [] => none | e :: r => if Nat.beq e.f f = true then some e else findF r f
def resSlots : List VRes → List Nat | [] => [] | .tmp t :: r => t :: resSlots r | _ :: r => resSlots r

abbrev XOrc := FuncId → List V → Option V
def OrcOk (P : Program) (orc : XOrc) : Prop := ∀ f xs v, orc f xs = some v → ∀ c, VCallP P f c xs v c
def askO (orc : XOrc) (f : FuncId) (xs : List V) (sl : BL) : Option V := match sl with | [] => orc f xs | _ => none

def xcall (orc : XOrc) (T : List XFun) (lend : FuncId → Bool) (rounds : Nat) : Nat → XCall
  | 0 => fun _ _ _ _ => none
  | n + 1 => fun f xs sl c => match findF T f with
    | none => none
    | some ⟨_, vc, rs, m⟩ => match askO orc f xs sl with
    | some v => some ⟨v, [], c⟩
    | none => if xs.length ≤ m then
      (match fL (xs ++ List.replicate (m - xs.length) .any) fun r => xrun (xcall orc T lend rounds n) lend (resSlots rs) c rounds vc ⟨r, sl, c⟩ with
      | some ⟨.exit _, _⟩ => none
      | some ⟨e, S⟩ => (match vresult S.vs rs with | some v => some ⟨v, keepB (fun t => (lookB sl t).isSome) S.s, S.c⟩ | none => none)
      | none => none) else none

def GoodF (P : Program) (e : XFun) : Prop := ∃ fn code, P.funcs[e.f]? = some fn ∧ fn.body = some code ∧ resCode P fn.ntmps code = e.vc ∧ resResults P fn.results.toList = some e.rs ∧ fn.ntmps = e.n ∧ (fn.name == "runtime.NumGoroutine") = false


def Fz (P : Program) (dr : Bool) (c0 : Nat) (S S0 : XS) : Prop := (∀ ops S', VSteps P dr c0 ops S0.vs S' → VSteps P dr c0 ops S.vs S') ∧ ∀ t v, nth S.r t = .lit v → nth S0.r t = .lit v
theorem Fz.refl {P : Program} {dr : Bool} {c0 : Nat} {S : XS} : Fz P dr c0 S S := ⟨fun _ _ h => h, fun _ _ h => h⟩
theorem frzL_fz {β : Type} {P : Program} {c0 : Nat} {l : List Nat} {S : XS} {k : XS → Option β} {b : β} (h : frzL c0 l S k = some b) : ∃ S1 : XS, k S1 = some b ∧ Fz P false c0 S S1 := by
  induction l generalizing S with
  | nil => exact ⟨S, h, Fz.refl⟩
  | cons i r ih =>
    obtain ⟨S1, h1, h2⟩ := frz1_some h
    obtain ⟨S2, h3, h4, h6⟩ := ih h1
    rcases h2 with rfl | ⟨t, off, n, sz, cap, cells, lv, g1, g2, g3, g4, g5⟩
    · exact ⟨S2, h3, h4, h6⟩
    · refine ⟨S2, h3, fun ops S' hs => .frz rfl g1 g2 g3 g4 (by rw [← g5]; exact h4 ops S' hs), fun u v hv => h6 u v ?_⟩
      have e : nth S1.r u = upd (nth S.r) i (.sl (Tok.from off t) sz (((cells.drop off).take (n * sz)).map V.solid)) u := congrFun (congrArg VS.ρ g5) u
      rw [e]
      simp only [upd]
      split
      · rename_i e; subst e
        have g1' : nth S.r u = _ := g1
        rw [hv] at g1'; cases g1'
      · exact hv
theorem fz_if {β : Type} {P : Program} {dr : Bool} {c0 : Nat} {p : Prop} [Decidable p] (hp : dr = true → p) {l : List Nat} {S : XS} {k : XS → Option β} {b : β} (h : (if p then fun k => k S else frzL c0 l S) k = some b) : ∃ S1 : XS, k S1 = some b ∧ Fz P dr c0 S S1 := by
  split at h
  · exact ⟨S, h, Fz.refl⟩
  · rename_i g
    cases dr with
    | true => exact absurd (hp rfl) g
    | false => exact frzL_fz h

theorem joinB (c : Nat) (s sl s' : BL) (h : ∀ t, lookB sl t = none → lookB s' t = none) : lookB (keepB (fun t => !((lookB sl t).isSome || decide (c ≤ t))) s ++ s') = joinσ c (lookB s) (lookB sl) (lookB s') := by
  funext t
  rw [lookB_append, lookB_keep]
  unfold joinσ
  by_cases e1 : (lookB sl t).isSome = true
  · simp [e1]
  · have e1' : lookB sl t = none := by simpa using e1
    by_cases e2 : c ≤ t
    · simp [e1, e2]
    · simp only [e1', Option.isSome_none, Bool.false_or, e2, decide_false, Bool.not_false, if_true, Bool.false_eq_true, or_self, if_false]
      rw [h t e1']
      cases lookB s t <;> rfl

theorem xcallop_sound {β : Type} {P : Program} {call : XCall} (hc : CallOk P call) {dr : Bool} {lend : FuncId → Bool} {c0 : Nat} {f : FuncId} {xs : List X} {d : Option Nat} {S : XS} {k : XS → Option β} {b : β} (h : xcallop call dr lend c0 f xs d S k = some b) :
    ∃ (S0 S1 : XS) (v : V) (σ' : Nat → Option Blk) (c' : Nat) (kt : KT), Fz P dr c0 S S0 ∧ VEff P dr c0 (X.ev S0.vs.ρ) S0.vs.σ S0.vs.c (.call f xs) v σ' c' kt ∧ S1.vs = ⟨updo (kill kt S0.vs.ρ) d v, σ', c'⟩ ∧ k S1 = some b := by
  unfold xcallop at h
  obtain ⟨S0, h, hz⟩ := fz_if (P := P) (dr := dr) (fun e => .inl e) h
  dsimp only at h
  split at h
  · split at h
    · rename_i v s' c' hcl
      rw [fN_eq] at h
      obtain ⟨r', h1, h2⟩ := xput_some h
      obtain ⟨g1, g2⟩ := hc _ _ _ _ _ hcl
      have e : lookB s' = noBlk := funext fun t => g2 t rfl
      rw [lookB_nil] at g1
      dsimp only at g1
      rw [e] at g1
      exact ⟨S0, _, v, _, c', none, hz, .callp g1, by simp only [XS.vs, h2]; rfl, h1⟩
    · cases h
  · rename_i sl hsl
    split at h
    · rename_i v s' c' hcl
      rw [fN_eq, fL_eq] at h
      obtain ⟨r', h1, h2⟩ := xput_some h
      obtain ⟨g1, g2⟩ := hc _ _ _ _ _ hcl
      have hdr : dr = false := by
        cases dr with
        | false => rfl
        | true => exact absurd (by simp) hsl
      subst hdr
      simp only [Bool.false_eq_true, if_false] at *
      refine ⟨S0, _, v, _, c', none, hz, .call rfl (fun t k hk => lentB_ok _ _ t k hk) g1, ?_, h1⟩
      simp only [XS.vs, h2]
      rw [joinB _ _ _ _ g2]
      rfl
    · cases h

theorem xeffop {β : Type} {P : Program} {dr : Bool} {c0 : Nat} {op : VOp} {d : Option Nat} {S : XS} {k : XS → Option β} {b : β}
    (h : (match xeff c0 (X.ev (nth S.r)) S.s S.c op with
    | some ⟨v, s, c, none⟩ => xput d v S.r fun r => k ⟨r, s, c⟩
    | some ⟨v, s, c, some (.inl t)⟩ => fL (killR t S.r) fun r => xput d v r fun r => k ⟨r, s, c⟩
    | _ => none) = some b) :
    ∃ (S1 : XS) (v : V) (σ' : Nat → Option Blk) (c' : Nat) (kt : KT), VEff P dr c0 (X.ev S.vs.ρ) S.vs.σ S.vs.c op v σ' c' kt ∧ S1.vs = ⟨updo (kill kt S.vs.ρ) d v, σ', c'⟩ ∧ k S1 = some b := by
  split at h
  · rename_i v s c hx
    obtain ⟨r', h1, h2⟩ := xput_some h
    exact ⟨_, v, _, c, none, xeff_sound hx, by simp only [XS.vs, h2]; rfl, h1⟩
  · rename_i v s c t hx
    rw [fL_eq] at h
    obtain ⟨r', h1, h2⟩ := xput_some h
    exact ⟨_, v, _, c, some (.inl t), xeff_sound hx, by simp only [XS.vs, h2, nth_kill], h1⟩
  · cases h

theorem xstep_sound {β : Type} {P : Program} {call : XCall} (hc : CallOk P call) {dr : Bool} {lend : FuncId → Bool} {c0 : Nat} {op : VOp} {d : Option Nat} {S : XS} {k : XS → Option β} {b : β}
    (hfn : ∀ x xs, op = .callv x xs → ∀ f r, call f (xs.map (X.ev (nth S.r))) [] S.c = some r → True)
    (hnm : ∀ f xs sl c r, call f xs sl c = some r → ∃ fn b, P.funcs[f]? = some fn ∧ (fn.name == "runtime.NumGoroutine") = false ∧ fn.body = some b) (h : xstep call dr lend c0 op d S k = some b) :
    ∃ (S0 S1 : XS) (v : V) (σ' : Nat → Option Blk) (c' : Nat) (kt : KT), Fz P dr c0 S S0 ∧ VEff P dr c0 (X.ev S0.vs.ρ) S0.vs.σ S0.vs.c op v σ' c' kt ∧ S1.vs = ⟨updo (kill kt S0.vs.ρ) d v, σ', c'⟩ ∧ k S1 = some b := by
  unfold xstep at h
  split at h
  · exact xcallop_sound hc h
  · rename_i x xs
    obtain ⟨S0, h, hz⟩ := fz_if (P := P) (dr := dr) (fun e => e) h
    split at h
    · rename_i f hx
      split at h
      · rename_i v s' c' hcl
        rw [fN_eq] at h
        obtain ⟨r', h1, h2⟩ := xput_some h
        obtain ⟨g1, g2⟩ := hc _ _ _ _ _ hcl
        have e : lookB s' = noBlk := funext fun t => g2 t rfl
        rw [lookB_nil] at g1
        dsimp only at g1
        rw [e] at g1
        exact ⟨S0, _, v, _, c', none, hz, .callv (asFn_some hx) (hnm _ _ _ _ _ hcl) g1, by simp only [XS.vs, h2]; rfl, h1⟩
      · cases h
    · cases h
  · obtain ⟨S0, h, hz⟩ : ∃ S1 : XS, (match xeff c0 (X.ev (nth S1.r)) S1.s S1.c op with
        | some ⟨v, s, c, none⟩ => xput d v S1.r fun r => k ⟨r, s, c⟩
        | some ⟨v, s, c, some (.inl t)⟩ => fL (killR t S1.r) fun r => xput d v r fun r => k ⟨r, s, c⟩
        | _ => none) = some b ∧ Fz P dr c0 S S1 := by
      cases dr with
      | true => exact ⟨S, by simpa using h, Fz.refl⟩
      | false =>
        simp only [Bool.false_eq_true, if_false] at h
        split at h
        all_goals first | exact frzL_fz h | exact ⟨S, h, Fz.refl⟩
    obtain ⟨S1, v, σ', c', kt, g1, g2, g3⟩ := xeffop (P := P) (dr := dr) h
    exact ⟨S0, S1, v, σ', c', kt, hz, g1, g2, g3⟩

theorem xops_sound {P : Program} {call : XCall} (hc : CallOk P call) (hnm : ∀ f xs sl c r, call f xs sl c = some r → ∃ fn b, P.funcs[f]? = some fn ∧ (fn.name == "runtime.NumGoroutine") = false ∧ fn.body = some b) {dr : Bool} {lend : FuncId → Bool} {c0 : Nat} {l : List VO} {S S' : XS} (h : xops call dr lend c0 l S = some S') :
    VSteps P dr c0 l S.vs S'.vs := by
  induction l generalizing S with
  | nil => cases h; exact .nil _
  | cons o r ih =>
    obtain ⟨d, op, g⟩ := o
    have run : ∀ g : Option (Nat × Bool), (∀ t b, g = some (t, b) → nth S.r t = .lit (.bool b)) → xstep call dr lend c0 op d S (fun S => xops call dr lend c0 r S) = some S' → VSteps P dr c0 (⟨d, op, g⟩ :: r) S.vs S'.vs := by
      intro g hg h
      obtain ⟨S0, S1, v, σ', c', kt, hz, h1, h2, h3⟩ := xstep_sound hc (fun _ _ _ _ _ _ => trivial) hnm h
      refine hz.1 _ _ (.cons (.run (fun t b e => hz.2 _ _ (hg t b e)) h1) ?_)
      rw [← h2]
      exact ih h3
    cases g with
    | none => exact run none (fun t b e => by cases e) h
    | some tb =>
      obtain ⟨t, b⟩ := tb
      have skip : skips (nth S.r t) b → (xput d (.tup []) S.r fun rr => xops call dr lend c0 r ⟨rr, S.s, S.c⟩) = some S' → VSteps P dr c0 (⟨d, op, some (t, b)⟩ :: r) S.vs S'.vs := by
        intro hs h
        obtain ⟨r', h1, h2⟩ := xput_some h
        refine .cons (.skip rfl hs) ?_
        have := ih h1
        simp only [XS.vs, h2] at this
        exact this
      simp only [xops] at h
      split at h
      · rename_i b' hb
        split at h
        · rename_i e
          subst e
          exact run _ (fun t' b'' e => by cases e; exact hb) h
        · rename_i e
          exact skip (.inl ⟨b', hb, e⟩) h
      · rename_i hb
        exact skip (.inr hb) h
      · cases h

theorem xrun_sound {P : Program} {call : XCall} (hc : CallOk P call) (hnm : ∀ f xs sl c r, call f xs sl c = some r → ∃ fn b, P.funcs[f]? = some fn ∧ (fn.name == "runtime.NumGoroutine") = false ∧ fn.body = some b) {lend : FuncId → Bool} {rsl : List Nat} {c0 : Nat} {n : Nat} {vc : VC} {S : XS} {o : XOut} (h : xrun call lend rsl c0 n vc S = some o) :
    VExec P c0 vc S.vs o.e o.S.vs := by
  induction n generalizing vc S o with
  | zero => cases h
  | succ n ih =>
    unfold xrun at h
    split at h
    · cases h; exact .skip _
    · rename_i dr ops
      have fin : ∀ S0 : XS, (match xops call dr lend c0 ops S0 with | some S => some (⟨.normal, S⟩ : XOut) | none => none) = some o → VExec P c0 (.region dr ops) S0.vs o.e o.S.vs := by
        intro S0 h
        split at h
        · rename_i S1 hS
          cases h
          exact .region (xops_sound hc hnm hS)
        · cases h
      split at h
      · obtain ⟨S0, h1, h2⟩ := frzL_exec (P := P) h
        exact h2 _ _ _ (fin S0 h1)
      · exact fin S h
    · rename_i a b
      split at h
      · rename_i S1 h1
        exact .seq (ih h1) (ih h)
      · rename_i hne
        refine .seqOut (ih h) ?_
        intro e
        obtain ⟨e0, S1⟩ := o
        simp only at e
        subst e
        exact hne S1 h
    · split at h
      · rename_i hx
        exact .cond (t := true) hx (ih h)
      · rename_i hx
        exact .cond (t := false) hx (ih h)
      · cases h
    · split at h
      · rename_i j S1 h1
        split at h
        · rename_i e; subst e; cases h; exact .blockExit (ih h1)
        · rename_i e; cases h; exact .block (ih h1) (fun e' => by cases e'; exact e rfl)
      · rename_i hne
        refine .block (ih h) ?_
        intro e
        obtain ⟨e0, S1⟩ := o
        simp only at e
        subst e
        exact hne _ S1 h
    · split at h
      · rename_i S1 h1
        exact .loop (ih h1) (ih h)
      · rename_i hne
        refine .loopOut (ih h) ?_
        intro e
        obtain ⟨e0, S1⟩ := o
        simp only at e
        subst e
        exact hne S1 h
    · cases h; exact .exit _ _
    · obtain ⟨S0, h1, h2⟩ := frzL_exec (P := P) h
      cases h1
      exact h2 _ _ _ (.ret _)
    · cases h

theorem findF_some {T : List XFun} {f : FuncId} {e : XFun} (h : findF T f = some e) : e ∈ T ∧ e.f = f := by
  induction T with
  | nil => cases h
  | cons a r ih =>
    simp only [findF] at h
    split at h
    · rename_i g
      cases h
      exact ⟨List.mem_cons_self, Nat.eq_of_beq_eq_true g⟩
    · obtain ⟨h1, h2⟩ := ih h
      exact ⟨List.mem_cons_of_mem _ h1, h2⟩

theorem xcall_sound {P : Program} (hm : P.follows .mixedOrders = true) {orc : XOrc} (ho : OrcOk P orc) {T : List XFun} (hT : ∀ e ∈ T, GoodF P e) {lend : FuncId → Bool} {rounds : Nat} (n : Nat) : CallOk P (xcall orc T lend rounds n) ∧ ∀ f xs sl c r, xcall orc T lend rounds n f xs sl c = some r → ∃ fn b, P.funcs[f]? = some fn ∧ (fn.name == "runtime.NumGoroutine") = false ∧ fn.body = some b := by
  induction n with
  | zero => exact ⟨fun f xs sl c r h => (by cases h), fun f xs sl c r h => (by cases h)⟩
  | succ n ih =>
    constructor
    · intro f xs sl c r h
      simp only [xcall] at h
      split at h
      · cases h
      · rename_i f' vc rs m hf
        obtain ⟨h1, h2⟩ := findF_some hf
        obtain ⟨fn, code, g1, g2, g3, g4, g5, _⟩ := hT _ h1
        dsimp only at h2 g1 g3 g4 g5
        subst h2 g5
        split at h
        · rename_i v hv
          cases h
          cases sl with
          | nil =>
            refine ⟨?_, fun t _ => rfl⟩
            rw [lookB_nil]
            exact ho _ _ _ hv c
          | cons _ _ => cases hv
        split at h
        · rename_i hlen
          split at h
          · cases h
          · rename_i e S hne hr
            rw [fL_eq] at hr
            have hex := xrun_sound ih.1 ih.2 hr
            dsimp only at hex
            have hst : (⟨xs ++ List.replicate (fn.ntmps - xs.length) .any, sl, c⟩ : XS).vs = ⟨start xs, lookB sl, c⟩ := by simp only [XS.vs, nth_append_any, start_nth]
            rw [hst] at hex
            split at h
            · rename_i v hv
              cases h
              have he : e = .ret ∨ e = .normal := by
                cases e with
                | normal => exact .inr rfl
                | ret => exact .inl rfl
                | exit id => exact (hne id rfl).elim
              refine ⟨vcalls_of_exec hm g1 g2 g3 g4 hlen hex he hv (fun t k hk => ?_) (fun t ht => ?_), fun t ht => ?_⟩
              · rw [lookB_keep] at hk
                split at hk
                · exact hk
                · cases hk
              · rw [lookB_keep, if_pos]
                · rfl
                · cases hq : lookB sl t with
                  | none => exact absurd hq ht
                  | some k => rfl
              · dsimp only
                rw [lookB_keep, ht]
                rfl
            · cases h
          · cases h
        · cases h
    · intro f xs sl c r h
      simp only [xcall] at h
      split at h
      · cases h
      · rename_i f' vc rs m hf
        obtain ⟨h1, h2⟩ := findF_some hf
        obtain ⟨fn, code, g1, g2, g3, g4, g5, g6⟩ := hT _ h1
        dsimp only at h2 g1
        subst h2
        exact ⟨fn, code, g1, g6, g2⟩
end Go.VM
namespace Go.VM
theorem xcall_p {P : Program} (hm : P.follows .mixedOrders = true) {orc : XOrc} (ho : OrcOk P orc) {T : List XFun} (hT : ∀ e ∈ T, GoodF P e) {lend : FuncId → Bool} {rounds n c : Nat} {f : FuncId} {xs : List V} {v : V}
    (h : ((xcall orc T lend rounds n f xs [] c).map fun r => r.v) = some v) : ∃ c', VCallP P f c xs v c' := by
  cases hr : xcall orc T lend rounds n f xs [] c with
  | none => rw [hr] at h; cases h
  | some r =>
    rw [hr] at h
    cases h
    obtain ⟨h1, h2⟩ := (xcall_sound hm ho hT (lend := lend) (rounds := rounds) n).1 f xs [] c r hr
    have e : lookB r.s = noBlk := funext fun t => h2 t rfl
    rw [lookB_nil, e] at h1
    exact ⟨_, h1⟩
end Go.VM
set_option linter.unusedVariables false
set_option linter.unusedSimpArgs false
namespace Go.VM

inductive Loose : V → V → Prop
  | lit (v : Value) : Loose (.lit v) (.lit v)
  | sl (t : Tok) (sz : Nat) (l : List Value) : Loose (.sl t sz (l.map .lit)) (.sl .unk sz (l.map .lit))
  | tup (l l' : List V) (hn : l.length = l'.length) (h : ∀ (j : Nat) (x y : V), l[j]? = some x → l'[j]? = some y → Loose x y) : Loose (.tup l) (.tup l')

theorem Loose.nats (t : Tok) (l : List Nat) : Loose (nats t l) (nats .unk l) := by
  have := Loose.sl t 1 (l.map fun (n : Nat) => Value.int .u64 (n : Int))
  rw [List.map_map] at this
  exact this
theorem Loose.pair {x y x' y' : V} (h1 : Loose x x') (h2 : Loose y y') : Loose (.tup [x, y]) (.tup [x', y']) :=
  .tup _ _ rfl fun j a b ha hb => match j, ha, hb with
    | 0, ha, hb => by simp at ha hb; subst ha hb; exact h1
    | 1, ha, hb => by simp at ha hb; subst ha hb; exact h2
    | j + 2, ha, hb => by simp at ha
theorem rep_lit {w : World} {M : Nat → Prop} {μ : Nat → Nat} {c : Nat} {v u : Value} (h : Rep w M μ c (.lit v) u) : u = v := by cases h; rfl
theorem Loose.one {x y : V} (h : Loose x y) : x.one = true := by cases h <;> rfl

theorem VCallP.at {P : Program} {f : FuncId} {c' : Nat} {v : Value} (h : VCallP P f 0 [] (.lit v) c') (c : Nat) : VCallP P f c [] (.lit v) c := by
  intro w Φ μ vs hm hn ha
  have hm0 : Mem ⟨P, 0, w, Φ, 0, μ, noBlk, noGiv⟩ noBlk 0 w μ := ⟨⟨fun t ht => absurd rfl ht, fun t ht => absurd rfl ht, fun t t' ht => absurd rfl ht, fun t ht => absurd ht (Nat.not_lt_zero _), fun b hb => hb.elim, fun t ht => absurd rfl ht, fun b hb => hb.elim, hm.good.glob⟩, ⟨rfl, rfl, rfl, Nat.le_refl _, Grows.refl _, fun _ _ _ _ => rfl⟩, Nat.le_refl _, fun _ _ => rfl, fun t h1 h2 => absurd h2 (Nat.not_lt_zero _), fun t t' h1 h2 => absurd h2 (Nat.not_lt_zero _), fun t k hk => (by cases hk), fun t ht => absurd rfl ht, fun t k hk => (by cases hk)⟩
  refine Calls.mono (h w Φ μ vs hm0 hn (fun j x v hx => by simp at hx)) ?_
  rintro e W' ⟨u, μ', rfl, hm', hr⟩
  refine ⟨u, μ, rfl, ⟨hm.good, ⟨hm'.moved.os, hm'.moved.tape, hm'.moved.output, hm'.moved.size, hm'.moved.grows, fun b hb hg _ => hm'.moved.block b hb hg (fun t ht => absurd rfl ht)⟩, Nat.le_refl _, fun _ _ => rfl, fun t h1 h2 => absurd h2 (Nat.not_lt.2 h1), fun t t' h1 h2 => absurd h2 (Nat.not_lt.2 h1), fun t k hk => (by cases hk), fun t ht => absurd rfl ht, fun t k hk => (by cases hk)⟩, RepE.of_one ?_⟩
  have := hr.one rfl
  rw [rep_lit this]
  exact .lit v

def dec1 (v : V) : Option Nat := match v with | .lit (.int .u64 (.ofNat n)) => if n < 18446744073709551616 then some n else none | _ => none
def decL (l : List V) : Option (List Nat) := match l with
  | [] => some []
  | x :: r => match dec1 x, decL r with | some n, some l => some (n :: l) | _, _ => none
def shortL (l : List Nat) : Bool := Nat.ble l.length 1000000
def decN (v : V) : Option (Tok × List Nat) := match v with
  | .sl t 1 l => match decL l with | some r => if shortL r = true then some (t, r) else none | none => none
  | _ => none
def o1 (g : Nat → V) (xs : List V) : Option V := match xs with | [x] => (match decN x with | some p => some (g (val 18446744073709551616 p.2)) | none => none) | _ => none
def o2 (g : Nat → Nat → V) (xs : List V) : Option V := match xs with | [x, y] => (match decN x, decN y with | some p, some q => some (g (val 18446744073709551616 p.2) (val 18446744073709551616 q.2)) | _, _ => none) | _ => none
section
variable {P : Program} {f : FuncId} {xs : List V} {v : V}
end
end Go.VM
set_option linter.unusedVariables false
set_option maxRecDepth 100000
namespace Go.Proofs.YtacodmnlnlbahaaGreatDoor
open Go.VM

theorem X.surdlaw10_awake : GoodF Tryz.prog ⟨F.surdlaw10_awake, C.surdlaw10_awake, R.surdlaw10_awake, 46⟩ := ⟨_, _, E.surdlaw10_awake, B.surdlaw10_awake, K.surdlaw10_awake, Q.surdlaw10_awake, N.surdlaw10_awake, by kernel_rfl⟩
theorem X.surdlaw10_num : GoodF Tryz.prog ⟨F.surdlaw10_num, C.surdlaw10_num, R.surdlaw10_num, 4⟩ := ⟨_, _, E.surdlaw10_num, B.surdlaw10_num, K.surdlaw10_num, Q.surdlaw10_num, N.surdlaw10_num, by kernel_rfl⟩
theorem X.span_Add : GoodF Tryz.prog ⟨F.span_Add, C.span_Add, R.span_Add, 24⟩ := ⟨_, _, E.span_Add, B.span_Add, K.span_Add, Q.span_Add, N.span_Add, by kernel_rfl⟩
theorem X.surdref06_Z_Sign : GoodF Tryz.prog ⟨F.surdref06_Z_Sign, C.surdref06_Z_Sign, R.surdref06_Z_Sign, 8⟩ := ⟨_, _, E.surdref06_Z_Sign, B.surdref06_Z_Sign, K.surdref06_Z_Sign, Q.surdref06_Z_Sign, N.surdref06_Z_Sign, by kernel_rfl⟩
theorem X.span_check : GoodF Tryz.prog ⟨F.span_check, C.span_check, R.span_check, 20⟩ := ⟨_, _, E.span_check, B.span_check, K.span_check, Q.span_check, N.span_check, by kernel_rfl⟩
theorem X.surdref08_Of : GoodF Tryz.prog ⟨F.surdref08_Of, C.surdref08_Of, R.surdref08_Of, 24⟩ := ⟨_, _, E.surdref08_Of, B.surdref08_Of, K.surdref08_Of, Q.surdref08_Of, N.surdref08_Of, by kernel_rfl⟩
theorem X.surdref08_D_Is : GoodF Tryz.prog ⟨F.surdref08_D_Is, C.surdref08_D_Is, R.surdref08_D_Is, 20⟩ := ⟨_, _, E.surdref08_D_Is, B.surdref08_D_Is, K.surdref08_D_Is, Q.surdref08_D_Is, N.surdref08_D_Is, by kernel_rfl⟩
theorem X.surdlaw10_small : GoodF Tryz.prog ⟨F.surdlaw10_small, C.surdlaw10_small, R.surdlaw10_small, 8⟩ := ⟨_, _, E.surdlaw10_small, B.surdlaw10_small, K.surdlaw10_small, Q.surdlaw10_small, N.surdlaw10_small, by kernel_rfl⟩
theorem X.surdref08_Int : GoodF Tryz.prog ⟨F.surdref08_Int, C.surdref08_Int, R.surdref08_Int, 9⟩ := ⟨_, _, E.surdref08_Int, B.surdref08_Int, K.surdref08_Int, Q.surdref08_Int, N.surdref08_Int, by kernel_rfl⟩
theorem X.span_checks : GoodF Tryz.prog ⟨F.span_checks, C.span_checks, R.span_checks, 26⟩ := ⟨_, _, E.span_checks, B.span_checks, K.span_checks, Q.span_checks, N.span_checks, by kernel_rfl⟩
theorem X.dyadic_Compare : GoodF Tryz.prog ⟨F.dyadic_Compare, C.dyadic_Compare, R.dyadic_Compare, 22⟩ := ⟨_, _, E.dyadic_Compare, B.dyadic_Compare, K.dyadic_Compare, Q.dyadic_Compare, N.dyadic_Compare, by kernel_rfl⟩
theorem X.dyadic_Round : GoodF Tryz.prog ⟨F.dyadic_Round, C.dyadic_Round, R.dyadic_Round, 36⟩ := ⟨_, _, E.dyadic_Round, B.dyadic_Round, K.dyadic_Round, Q.dyadic_Round, N.dyadic_Round, by kernel_rfl⟩
theorem X.span_worst : GoodF Tryz.prog ⟨F.span_worst, C.span_worst, R.span_worst, 15⟩ := ⟨_, _, E.span_worst, B.span_worst, K.span_worst, Q.span_worst, N.span_worst, by kernel_rfl⟩
theorem X.surdref01_Int : GoodF Tryz.prog ⟨F.surdref01_Int, C.surdref01_Int, R.surdref01_Int, 7⟩ := ⟨_, _, E.surdref01_Int, B.surdref01_Int, K.surdref01_Int, Q.surdref01_Int, N.surdref01_Int, by kernel_rfl⟩
theorem X.span_sums : GoodF Tryz.prog ⟨F.span_sums, C.span_sums, R.span_sums, 42⟩ := ⟨_, _, E.span_sums, B.span_sums, K.span_sums, Q.span_sums, N.span_sums, by kernel_rfl⟩
theorem X.surdref01_Num_Zero : GoodF Tryz.prog ⟨F.surdref01_Num_Zero, C.surdref01_Num_Zero, R.surdref01_Num_Zero, 6⟩ := ⟨_, _, E.surdref01_Num_Zero, B.surdref01_Num_Zero, K.surdref01_Num_Zero, Q.surdref01_Num_Zero, N.surdref01_Num_Zero, by kernel_rfl⟩
theorem X.span_ends : GoodF Tryz.prog ⟨F.span_ends, C.span_ends, R.span_ends, 21⟩ := ⟨_, _, E.span_ends, B.span_ends, K.span_ends, Q.span_ends, N.span_ends, by kernel_rfl⟩
theorem X.surdref01_Num_Tail : GoodF Tryz.prog ⟨F.surdref01_Num_Tail, C.surdref01_Num_Tail, R.surdref01_Num_Tail, 14⟩ := ⟨_, _, E.surdref01_Num_Tail, B.surdref01_Num_Tail, K.surdref01_Num_Tail, Q.surdref01_Num_Tail, N.surdref01_Num_Tail, by kernel_rfl⟩
theorem X.surdref01_Shr : GoodF Tryz.prog ⟨F.surdref01_Shr, C.surdref01_Shr, R.surdref01_Shr, 53⟩ := ⟨_, _, E.surdref01_Shr, B.surdref01_Shr, K.surdref01_Shr, Q.surdref01_Shr, N.surdref01_Shr, by kernel_rfl⟩
theorem X.surdref06_make1 : GoodF Tryz.prog ⟨F.surdref06_make1, C.surdref06_make1, R.surdref06_make1, 13⟩ := ⟨_, _, E.surdref06_make1, B.surdref06_make1, K.surdref06_make1, Q.surdref06_make1, N.surdref06_make1, by kernel_rfl⟩
theorem X.surdref01_Of : GoodF Tryz.prog ⟨F.surdref01_Of, C.surdref01_Of, R.surdref01_Of, 26⟩ := ⟨_, _, E.surdref01_Of, B.surdref01_Of, K.surdref01_Of, Q.surdref01_Of, N.surdref01_Of, by kernel_rfl⟩
theorem X.surdref06_Z_Is : GoodF Tryz.prog ⟨F.surdref06_Z_Is, C.surdref06_Z_Is, R.surdref06_Z_Is, 17⟩ := ⟨_, _, E.surdref06_Z_Is, B.surdref06_Z_Is, K.surdref06_Z_Is, Q.surdref06_Z_Is, N.surdref06_Z_Is, by kernel_rfl⟩
theorem X.surdref06_Int : GoodF Tryz.prog ⟨F.surdref06_Int, C.surdref06_Int, R.surdref06_Int, 16⟩ := ⟨_, _, E.surdref06_Int, B.surdref06_Int, K.surdref06_Int, Q.surdref06_Int, N.surdref06_Int, by kernel_rfl⟩
theorem X.dyadic_two : GoodF Tryz.prog ⟨F.dyadic_two, C.dyadic_two, R.dyadic_two, 28⟩ := ⟨_, _, E.dyadic_two, B.dyadic_two, K.dyadic_two, Q.dyadic_two, N.dyadic_two, by kernel_rfl⟩
theorem X.dyadic_compare : GoodF Tryz.prog ⟨F.dyadic_compare, C.dyadic_compare, R.dyadic_compare, 71⟩ := ⟨_, _, E.dyadic_compare, B.dyadic_compare, K.dyadic_compare, Q.dyadic_compare, N.dyadic_compare, by kernel_rfl⟩
theorem X.whole_Sign : GoodF Tryz.prog ⟨F.whole_Sign, C.whole_Sign, R.whole_Sign, 11⟩ := ⟨_, _, E.whole_Sign, B.whole_Sign, K.whole_Sign, Q.whole_Sign, N.whole_Sign, by kernel_rfl⟩
theorem X.dyadic_sum : GoodF Tryz.prog ⟨F.dyadic_sum, C.dyadic_sum, R.dyadic_sum, 97⟩ := ⟨_, _, E.dyadic_sum, B.dyadic_sum, K.dyadic_sum, Q.dyadic_sum, N.dyadic_sum, by kernel_rfl⟩
theorem X.dyadic_part_sign : GoodF Tryz.prog ⟨F.dyadic_part_sign, C.dyadic_part_sign, R.dyadic_part_sign, 6⟩ := ⟨_, _, E.dyadic_part_sign, B.dyadic_part_sign, K.dyadic_part_sign, Q.dyadic_part_sign, N.dyadic_part_sign, by kernel_rfl⟩
theorem X.dyadic_read : GoodF Tryz.prog ⟨F.dyadic_read, C.dyadic_read, R.dyadic_read, 14⟩ := ⟨_, _, E.dyadic_read, B.dyadic_read, K.dyadic_read, Q.dyadic_read, N.dyadic_read, by kernel_rfl⟩
theorem X.dyadic_within : GoodF Tryz.prog ⟨F.dyadic_within, C.dyadic_within, R.dyadic_within, 9⟩ := ⟨_, _, E.dyadic_within, B.dyadic_within, K.dyadic_within, Q.dyadic_within, N.dyadic_within, by kernel_rfl⟩
theorem X.dyadic_direction : GoodF Tryz.prog ⟨F.dyadic_direction, C.dyadic_direction, R.dyadic_direction, 13⟩ := ⟨_, _, E.dyadic_direction, B.dyadic_direction, K.dyadic_direction, Q.dyadic_direction, N.dyadic_direction, by kernel_rfl⟩
theorem X.dyadic_rounded : GoodF Tryz.prog ⟨F.dyadic_rounded, C.dyadic_rounded, R.dyadic_rounded, 34⟩ := ⟨_, _, E.dyadic_rounded, B.dyadic_rounded, K.dyadic_rounded, Q.dyadic_rounded, N.dyadic_rounded, by kernel_rfl⟩
theorem X.surdref01_norm : GoodF Tryz.prog ⟨F.surdref01_norm, C.surdref01_norm, R.surdref01_norm, 22⟩ := ⟨_, _, E.surdref01_norm, B.surdref01_norm, K.surdref01_norm, Q.surdref01_norm, N.surdref01_norm, by kernel_rfl⟩
theorem X.surdref01_Num_Bit : GoodF Tryz.prog ⟨F.surdref01_Num_Bit, C.surdref01_Num_Bit, R.surdref01_Num_Bit, 24⟩ := ⟨_, _, E.surdref01_Num_Bit, B.surdref01_Num_Bit, K.surdref01_Num_Bit, Q.surdref01_Num_Bit, N.surdref01_Num_Bit, by kernel_rfl⟩
theorem X.dyadic_Add : GoodF Tryz.prog ⟨F.dyadic_Add, C.dyadic_Add, R.dyadic_Add, 25⟩ := ⟨_, _, E.dyadic_Add, B.dyadic_Add, K.dyadic_Add, Q.dyadic_Add, N.dyadic_Add, by kernel_rfl⟩
theorem X.span_outward : GoodF Tryz.prog ⟨F.span_outward, C.span_outward, R.span_outward, 31⟩ := ⟨_, _, E.span_outward, B.span_outward, K.span_outward, Q.span_outward, N.span_outward, by kernel_rfl⟩
theorem X.dyadic_told : GoodF Tryz.prog ⟨F.dyadic_told, C.dyadic_told, R.dyadic_told, 34⟩ := ⟨_, _, E.dyadic_told, B.dyadic_told, K.dyadic_told, Q.dyadic_told, N.dyadic_told, by kernel_rfl⟩
theorem X.surdref01_Num_at : GoodF Tryz.prog ⟨F.surdref01_Num_at, C.surdref01_Num_at, R.surdref01_Num_at, 13⟩ := ⟨_, _, E.surdref01_Num_at, B.surdref01_Num_at, K.surdref01_Num_at, Q.surdref01_Num_at, N.surdref01_Num_at, by kernel_rfl⟩
theorem X.surdref01_Num_Is : GoodF Tryz.prog ⟨F.surdref01_Num_Is, C.surdref01_Num_Is, R.surdref01_Num_Is, 29⟩ := ⟨_, _, E.surdref01_Num_Is, B.surdref01_Num_Is, K.surdref01_Num_Is, Q.surdref01_Num_Is, N.surdref01_Num_Is, by kernel_rfl⟩
theorem X.dyadic_number_top : GoodF Tryz.prog ⟨F.dyadic_number_top, C.dyadic_number_top, R.dyadic_number_top, 10⟩ := ⟨_, _, E.dyadic_number_top, B.dyadic_number_top, K.dyadic_number_top, Q.dyadic_number_top, N.dyadic_number_top, by kernel_rfl⟩
theorem X.dyadic_left : GoodF Tryz.prog ⟨F.dyadic_left, C.dyadic_left, R.dyadic_left, 65⟩ := ⟨_, _, E.dyadic_left, B.dyadic_left, K.dyadic_left, Q.dyadic_left, N.dyadic_left, by kernel_rfl⟩
theorem X.nat_Compare : GoodF Tryz.prog ⟨F.nat_Compare, C.nat_Compare, R.nat_Compare, 45⟩ := ⟨_, _, E.nat_Compare, B.nat_Compare, K.nat_Compare, Q.nat_Compare, N.nat_Compare, by kernel_rfl⟩
theorem X.nat_Length : GoodF Tryz.prog ⟨F.nat_Length, C.nat_Length, R.nat_Length, 20⟩ := ⟨_, _, E.nat_Length, B.nat_Length, K.nat_Length, Q.nat_Length, N.nat_Length, by kernel_rfl⟩
theorem X.whole_Make : GoodF Tryz.prog ⟨F.whole_Make, C.whole_Make, R.whole_Make, 12⟩ := ⟨_, _, E.whole_Make, B.whole_Make, K.whole_Make, Q.whole_Make, N.whole_Make, by kernel_rfl⟩
theorem X.dyadic_long : GoodF Tryz.prog ⟨F.dyadic_long, C.dyadic_long, R.dyadic_long, 64⟩ := ⟨_, _, E.dyadic_long, B.dyadic_long, K.dyadic_long, Q.dyadic_long, N.dyadic_long, by kernel_rfl⟩
theorem X.whole_Add : GoodF Tryz.prog ⟨F.whole_Add, C.whole_Add, R.whole_Add, 57⟩ := ⟨_, _, E.whole_Add, B.whole_Add, K.whole_Add, Q.whole_Add, N.whole_Add, by kernel_rfl⟩
theorem X.dyadic_odd : GoodF Tryz.prog ⟨F.dyadic_odd, C.dyadic_odd, R.dyadic_odd, 30⟩ := ⟨_, _, E.dyadic_odd, B.dyadic_odd, K.dyadic_odd, Q.dyadic_odd, N.dyadic_odd, by kernel_rfl⟩
theorem X.dyadic_steps : GoodF Tryz.prog ⟨F.dyadic_steps, C.dyadic_steps, R.dyadic_steps, 98⟩ := ⟨_, _, E.dyadic_steps, B.dyadic_steps, K.dyadic_steps, Q.dyadic_steps, N.dyadic_steps, by kernel_rfl⟩
theorem X.whole_result : GoodF Tryz.prog ⟨F.whole_result, C.whole_result, R.whole_result, 18⟩ := ⟨_, _, E.whole_result, B.whole_result, K.whole_result, Q.whole_result, N.whole_result, by kernel_rfl⟩
theorem X.dyadic_part_length : GoodF Tryz.prog ⟨F.dyadic_part_length, C.dyadic_part_length, R.dyadic_part_length, 7⟩ := ⟨_, _, E.dyadic_part_length, B.dyadic_part_length, K.dyadic_part_length, Q.dyadic_part_length, N.dyadic_part_length, by kernel_rfl⟩
theorem X.surdref01_Num_Limbs : GoodF Tryz.prog ⟨F.surdref01_Num_Limbs, C.surdref01_Num_Limbs, R.surdref01_Num_Limbs, 34⟩ := ⟨_, _, E.surdref01_Num_Limbs, B.surdref01_Num_Limbs, K.surdref01_Num_Limbs, Q.surdref01_Num_Limbs, N.surdref01_Num_Limbs, by kernel_rfl⟩
theorem X.nat_Left : GoodF Tryz.prog ⟨F.nat_Left, C.nat_Left, R.nat_Left, 73⟩ := ⟨_, _, E.nat_Left, B.nat_Left, K.nat_Left, Q.nat_Left, N.nat_Left, by kernel_rfl⟩
theorem X.nat_Norm : GoodF Tryz.prog ⟨F.nat_Norm, C.nat_Norm, R.nat_Norm, 6⟩ := ⟨_, _, E.nat_Norm, B.nat_Norm, K.nat_Norm, Q.nat_Norm, N.nat_Norm, by kernel_rfl⟩
theorem X.nat_trim : GoodF Tryz.prog ⟨F.nat_trim, C.nat_trim, R.nat_trim, 21⟩ := ⟨_, _, E.nat_trim, B.nat_trim, K.nat_trim, Q.nat_trim, N.nat_trim, by kernel_rfl⟩
theorem X.bits_Len64 : GoodF Tryz.prog ⟨F.bits_Len64, C.bits_Len64, R.bits_Len64, 25⟩ := ⟨_, _, E.bits_Len64, B.bits_Len64, K.bits_Len64, Q.bits_Len64, N.bits_Len64, by kernel_rfl⟩
theorem X.whole_fits : GoodF Tryz.prog ⟨F.whole_fits, C.whole_fits, R.whole_fits, 11⟩ := ⟨_, _, E.whole_fits, B.whole_fits, K.whole_fits, Q.whole_fits, N.whole_fits, by kernel_rfl⟩
theorem X.dyadic_minus : GoodF Tryz.prog ⟨F.dyadic_minus, C.dyadic_minus, R.dyadic_minus, 49⟩ := ⟨_, _, E.dyadic_minus, B.dyadic_minus, K.dyadic_minus, Q.dyadic_minus, N.dyadic_minus, by kernel_rfl⟩
theorem X.dyadic_plus : GoodF Tryz.prog ⟨F.dyadic_plus, C.dyadic_plus, R.dyadic_plus, 51⟩ := ⟨_, _, E.dyadic_plus, B.dyadic_plus, K.dyadic_plus, Q.dyadic_plus, N.dyadic_plus, by kernel_rfl⟩
theorem X.whole_norm : GoodF Tryz.prog ⟨F.whole_norm, C.whole_norm, R.whole_norm, 16⟩ := ⟨_, _, E.whole_norm, B.whole_norm, K.whole_norm, Q.whole_norm, N.whole_norm, by kernel_rfl⟩
theorem X.nat_Add : GoodF Tryz.prog ⟨F.nat_Add, C.nat_Add, R.nat_Add, 61⟩ := ⟨_, _, E.nat_Add, B.nat_Add, K.nat_Add, Q.nat_Add, N.nat_Add, by kernel_rfl⟩
theorem X.nat_Sub : GoodF Tryz.prog ⟨F.nat_Sub, C.nat_Sub, R.nat_Sub, 52⟩ := ⟨_, _, E.nat_Sub, B.nat_Sub, K.nat_Sub, Q.nat_Sub, N.nat_Sub, by kernel_rfl⟩
theorem X.nat_Tail : GoodF Tryz.prog ⟨F.nat_Tail, C.nat_Tail, R.nat_Tail, 20⟩ := ⟨_, _, E.nat_Tail, B.nat_Tail, K.nat_Tail, Q.nat_Tail, N.nat_Tail, by kernel_rfl⟩
theorem X.dyadic_shifted : GoodF Tryz.prog ⟨F.dyadic_shifted, C.dyadic_shifted, R.dyadic_shifted, 76⟩ := ⟨_, _, E.dyadic_shifted, B.dyadic_shifted, K.dyadic_shifted, Q.dyadic_shifted, N.dyadic_shifted, by kernel_rfl⟩
theorem X.nat_Bit : GoodF Tryz.prog ⟨F.nat_Bit, C.nat_Bit, R.nat_Bit, 25⟩ := ⟨_, _, E.nat_Bit, B.nat_Bit, K.nat_Bit, Q.nat_Bit, N.nat_Bit, by kernel_rfl⟩
theorem X.nat_From : GoodF Tryz.prog ⟨F.nat_From, C.nat_From, R.nat_From, 7⟩ := ⟨_, _, E.nat_From, B.nat_From, K.nat_From, Q.nat_From, N.nat_From, by kernel_rfl⟩
theorem X.dyadic_limb : GoodF Tryz.prog ⟨F.dyadic_limb, C.dyadic_limb, R.dyadic_limb, 13⟩ := ⟨_, _, E.dyadic_limb, B.dyadic_limb, K.dyadic_limb, Q.dyadic_limb, N.dyadic_limb, by kernel_rfl⟩
theorem X.nat_told : GoodF Tryz.prog ⟨F.nat_told, C.nat_told, R.nat_told, 10⟩ := ⟨_, _, E.nat_told, B.nat_told, K.nat_told, Q.nat_told, N.nat_told, by kernel_rfl⟩
theorem X.bits_TrailingZeros64 : GoodF Tryz.prog ⟨F.bits_TrailingZeros64, C.bits_TrailingZeros64, R.bits_TrailingZeros64, 14⟩ := ⟨_, _, E.bits_TrailingZeros64, B.bits_TrailingZeros64, K.bits_TrailingZeros64, Q.bits_TrailingZeros64, N.bits_TrailingZeros64, by kernel_rfl⟩
theorem X.nat_Right : GoodF Tryz.prog ⟨F.nat_Right, C.nat_Right, R.nat_Right, 77⟩ := ⟨_, _, E.nat_Right, B.nat_Right, K.nat_Right, Q.nat_Right, N.nat_Right, by kernel_rfl⟩
def XT : List XFun := [⟨F.surdlaw10_awake, C.surdlaw10_awake, R.surdlaw10_awake, 46⟩,
  ⟨F.surdlaw10_num, C.surdlaw10_num, R.surdlaw10_num, 4⟩,
  ⟨F.span_Add, C.span_Add, R.span_Add, 24⟩,
  ⟨F.surdref06_Z_Sign, C.surdref06_Z_Sign, R.surdref06_Z_Sign, 8⟩,
  ⟨F.span_check, C.span_check, R.span_check, 20⟩,
  ⟨F.surdref08_Of, C.surdref08_Of, R.surdref08_Of, 24⟩,
  ⟨F.surdref08_D_Is, C.surdref08_D_Is, R.surdref08_D_Is, 20⟩,
  ⟨F.surdlaw10_small, C.surdlaw10_small, R.surdlaw10_small, 8⟩,
  ⟨F.surdref08_Int, C.surdref08_Int, R.surdref08_Int, 9⟩,
  ⟨F.span_checks, C.span_checks, R.span_checks, 26⟩,
  ⟨F.dyadic_Compare, C.dyadic_Compare, R.dyadic_Compare, 22⟩,
  ⟨F.dyadic_Round, C.dyadic_Round, R.dyadic_Round, 36⟩,
  ⟨F.span_worst, C.span_worst, R.span_worst, 15⟩,
  ⟨F.surdref01_Int, C.surdref01_Int, R.surdref01_Int, 7⟩,
  ⟨F.span_sums, C.span_sums, R.span_sums, 42⟩,
  ⟨F.surdref01_Num_Zero, C.surdref01_Num_Zero, R.surdref01_Num_Zero, 6⟩,
  ⟨F.span_ends, C.span_ends, R.span_ends, 21⟩,
  ⟨F.surdref01_Num_Tail, C.surdref01_Num_Tail, R.surdref01_Num_Tail, 14⟩,
  ⟨F.surdref01_Shr, C.surdref01_Shr, R.surdref01_Shr, 53⟩,
  ⟨F.surdref06_make1, C.surdref06_make1, R.surdref06_make1, 13⟩,
  ⟨F.surdref01_Of, C.surdref01_Of, R.surdref01_Of, 26⟩,
  ⟨F.surdref06_Z_Is, C.surdref06_Z_Is, R.surdref06_Z_Is, 17⟩,
  ⟨F.surdref06_Int, C.surdref06_Int, R.surdref06_Int, 16⟩,
  ⟨F.dyadic_two, C.dyadic_two, R.dyadic_two, 28⟩,
  ⟨F.dyadic_compare, C.dyadic_compare, R.dyadic_compare, 71⟩,
  ⟨F.whole_Sign, C.whole_Sign, R.whole_Sign, 11⟩,
  ⟨F.dyadic_sum, C.dyadic_sum, R.dyadic_sum, 97⟩,
  ⟨F.dyadic_part_sign, C.dyadic_part_sign, R.dyadic_part_sign, 6⟩,
  ⟨F.dyadic_read, C.dyadic_read, R.dyadic_read, 14⟩,
  ⟨F.dyadic_within, C.dyadic_within, R.dyadic_within, 9⟩,
  ⟨F.dyadic_direction, C.dyadic_direction, R.dyadic_direction, 13⟩,
  ⟨F.dyadic_rounded, C.dyadic_rounded, R.dyadic_rounded, 34⟩,
  ⟨F.surdref01_norm, C.surdref01_norm, R.surdref01_norm, 22⟩,
  ⟨F.surdref01_Num_Bit, C.surdref01_Num_Bit, R.surdref01_Num_Bit, 24⟩,
  ⟨F.dyadic_Add, C.dyadic_Add, R.dyadic_Add, 25⟩,
  ⟨F.span_outward, C.span_outward, R.span_outward, 31⟩,
  ⟨F.dyadic_told, C.dyadic_told, R.dyadic_told, 34⟩,
  ⟨F.surdref01_Num_at, C.surdref01_Num_at, R.surdref01_Num_at, 13⟩,
  ⟨F.surdref01_Num_Is, C.surdref01_Num_Is, R.surdref01_Num_Is, 29⟩,
  ⟨F.dyadic_number_top, C.dyadic_number_top, R.dyadic_number_top, 10⟩,
  ⟨F.dyadic_left, C.dyadic_left, R.dyadic_left, 65⟩,
  ⟨F.nat_Compare, C.nat_Compare, R.nat_Compare, 45⟩,
  ⟨F.nat_Length, C.nat_Length, R.nat_Length, 20⟩,
  ⟨F.whole_Make, C.whole_Make, R.whole_Make, 12⟩,
  ⟨F.dyadic_long, C.dyadic_long, R.dyadic_long, 64⟩,
  ⟨F.whole_Add, C.whole_Add, R.whole_Add, 57⟩,
  ⟨F.dyadic_odd, C.dyadic_odd, R.dyadic_odd, 30⟩,
  ⟨F.dyadic_steps, C.dyadic_steps, R.dyadic_steps, 98⟩,
  ⟨F.whole_result, C.whole_result, R.whole_result, 18⟩,
  ⟨F.dyadic_part_length, C.dyadic_part_length, R.dyadic_part_length, 7⟩,
  ⟨F.surdref01_Num_Limbs, C.surdref01_Num_Limbs, R.surdref01_Num_Limbs, 34⟩,
  ⟨F.nat_Left, C.nat_Left, R.nat_Left, 73⟩,
  ⟨F.nat_Norm, C.nat_Norm, R.nat_Norm, 6⟩,
  ⟨F.nat_trim, C.nat_trim, R.nat_trim, 21⟩,
  ⟨F.bits_Len64, C.bits_Len64, R.bits_Len64, 25⟩,
  ⟨F.whole_fits, C.whole_fits, R.whole_fits, 11⟩,
  ⟨F.dyadic_minus, C.dyadic_minus, R.dyadic_minus, 49⟩,
  ⟨F.dyadic_plus, C.dyadic_plus, R.dyadic_plus, 51⟩,
  ⟨F.whole_norm, C.whole_norm, R.whole_norm, 16⟩,
  ⟨F.nat_Add, C.nat_Add, R.nat_Add, 61⟩,
  ⟨F.nat_Sub, C.nat_Sub, R.nat_Sub, 52⟩,
  ⟨F.nat_Tail, C.nat_Tail, R.nat_Tail, 20⟩,
  ⟨F.dyadic_shifted, C.dyadic_shifted, R.dyadic_shifted, 76⟩,
  ⟨F.nat_Bit, C.nat_Bit, R.nat_Bit, 25⟩,
  ⟨F.nat_From, C.nat_From, R.nat_From, 7⟩,
  ⟨F.dyadic_limb, C.dyadic_limb, R.dyadic_limb, 13⟩,
  ⟨F.nat_told, C.nat_told, R.nat_told, 10⟩,
  ⟨F.bits_TrailingZeros64, C.bits_TrailingZeros64, R.bits_TrailingZeros64, 14⟩,
  ⟨F.nat_Right, C.nat_Right, R.nat_Right, 77⟩]
theorem XT_good : ∀ e ∈ XT, GoodF Tryz.prog e := by
  intro e h
  unfold XT at h
  simp only [List.mem_cons, List.not_mem_nil, or_false] at h
  rcases h with rfl | rfl | rfl | rfl | rfl | rfl | rfl | rfl | rfl | rfl | rfl | rfl | rfl | rfl | rfl | rfl | rfl | rfl | rfl | rfl | rfl | rfl | rfl | rfl | rfl | rfl | rfl | rfl | rfl | rfl | rfl | rfl | rfl | rfl | rfl | rfl | rfl | rfl | rfl | rfl | rfl | rfl | rfl | rfl | rfl | rfl | rfl | rfl | rfl | rfl | rfl | rfl | rfl | rfl | rfl | rfl | rfl | rfl | rfl | rfl | rfl | rfl | rfl | rfl | rfl | rfl | rfl | rfl | rfl
  · exact X.surdlaw10_awake
  · exact X.surdlaw10_num
  · exact X.span_Add
  · exact X.surdref06_Z_Sign
  · exact X.span_check
  · exact X.surdref08_Of
  · exact X.surdref08_D_Is
  · exact X.surdlaw10_small
  · exact X.surdref08_Int
  · exact X.span_checks
  · exact X.dyadic_Compare
  · exact X.dyadic_Round
  · exact X.span_worst
  · exact X.surdref01_Int
  · exact X.span_sums
  · exact X.surdref01_Num_Zero
  · exact X.span_ends
  · exact X.surdref01_Num_Tail
  · exact X.surdref01_Shr
  · exact X.surdref06_make1
  · exact X.surdref01_Of
  · exact X.surdref06_Z_Is
  · exact X.surdref06_Int
  · exact X.dyadic_two
  · exact X.dyadic_compare
  · exact X.whole_Sign
  · exact X.dyadic_sum
  · exact X.dyadic_part_sign
  · exact X.dyadic_read
  · exact X.dyadic_within
  · exact X.dyadic_direction
  · exact X.dyadic_rounded
  · exact X.surdref01_norm
  · exact X.surdref01_Num_Bit
  · exact X.dyadic_Add
  · exact X.span_outward
  · exact X.dyadic_told
  · exact X.surdref01_Num_at
  · exact X.surdref01_Num_Is
  · exact X.dyadic_number_top
  · exact X.dyadic_left
  · exact X.nat_Compare
  · exact X.nat_Length
  · exact X.whole_Make
  · exact X.dyadic_long
  · exact X.whole_Add
  · exact X.dyadic_odd
  · exact X.dyadic_steps
  · exact X.whole_result
  · exact X.dyadic_part_length
  · exact X.surdref01_Num_Limbs
  · exact X.nat_Left
  · exact X.nat_Norm
  · exact X.nat_trim
  · exact X.bits_Len64
  · exact X.whole_fits
  · exact X.dyadic_minus
  · exact X.dyadic_plus
  · exact X.whole_norm
  · exact X.nat_Add
  · exact X.nat_Sub
  · exact X.nat_Tail
  · exact X.dyadic_shifted
  · exact X.nat_Bit
  · exact X.nat_From
  · exact X.dyadic_limb
  · exact X.nat_told
  · exact X.bits_TrailingZeros64
  · exact X.nat_Right
end Go.Proofs.YtacodmnlnlbahaaGreatDoor
set_option maxRecDepth 100000
namespace Go.Proofs.YtacodmnlnlbahaaGreatDoor
open Go.VM
theorem hm9 : Tryz.prog.follows .mixedOrders = true := by kernel_rfl
def orcNo : XOrc := fun _ _ => none
theorem orcNo_ok : OrcOk Tryz.prog orcNo := fun f xs v h => by cases h
theorem awake_spec (c : Nat) : VSpec Tryz.prog F.surdlaw10_awake c [] (fun r _ => r = bv true) := by
  obtain ⟨c', h⟩ := xcall_p hm9 orcNo_ok XT_good (lend := fun _ => false) (rounds := 100000) (n := 60) (c := 0) (f := F.surdlaw10_awake) (xs := []) (v := bv true) (by kernel_rfl)
  exact ⟨_, c, Nat.le_refl _, h.at c, rfl⟩
end Go.Proofs.YtacodmnlnlbahaaGreatDoor
set_option linter.unusedSimpArgs false
set_option linter.unusedVariables false
set_option maxRecDepth 100000
set_option maxHeartbeats 8000000
namespace Go.Proofs.YtacodmnlnlbahaaGreatDoor
open Go.VM Go.RowKit

theorem sfl_rs {lo : Nat} {t u : Tok} {a b : RD} (ht : Kn lo t) (hu : Kn lo u) : ∀ x ∈ [bv a.neg, nats t a.l, iv a.e, bv b.neg, nats u b.l, iv b.e], Sf lo x := by
  intro x hx
  simp only [List.mem_cons, List.not_mem_nil, or_false] at hx
  rcases hx with rfl | rfl | rfl | rfl | rfl | rfl
  · exact sf_lit _
  · exact sf_nats ht
  · exact sf_lit _
  · exact sf_lit _
  · exact sf_nats hu
  · exact sf_lit _
theorem sfl_tw {lo i j : Nat} {a b : RD} (hi : i < lo) (hj : j < lo) : ∀ x ∈ [nats (.id i) (wholeL a.l), nats (.id j) (wholeL b.l), bv a.neg, nats (.sub i) a.l, iv a.e, bv b.neg, nats (.sub j) b.l, iv b.e], Sf lo x := by
  intro x hx
  simp only [List.mem_cons, List.not_mem_nil, or_false] at hx
  rcases hx with rfl | rfl | rfl | rfl | rfl | rfl | rfl | rfl
  · exact sf_nats (.inr ⟨i, .inl rfl, hi⟩)
  · exact sf_nats (.inr ⟨j, .inl rfl, hj⟩)
  · exact sf_lit _
  · exact sf_nats (.inr ⟨i, .inr rfl, hi⟩)
  · exact sf_lit _
  · exact sf_lit _
  · exact sf_nats (.inr ⟨j, .inr rfl, hj⟩)
  · exact sf_lit _
theorem apt1 {a b c d : Nat} {t u : Tok} {l k : List Nat} (h : Own1 a b t l) (g : Own1 c d u k) (hb : b ≤ c) : Apt t u := by
  intro i e1 e2
  rcases h with ⟨h, _⟩ | ⟨j, h, _, h2⟩
  · rw [h] at e1; cases e1
  · rw [h] at e1; cases e1
    rcases g with ⟨g, _⟩ | ⟨q, g, g1, _⟩
    · rw [g] at e2; cases e2
    · rw [g] at e2; cases e2; omega
theorem apt4 {a b c d e f : Nat} {t1 t2 t3 t4 : Tok} {l1 l2 l3 l4 : List Nat} (h1 : Own1 a b t1 l1) (h2 : Own1 b c t2 l2) (h3 : Own1 d e t3 l3) (h4 : Own1 e f t4 l4) (g1 : b ≤ c) (g2 : c ≤ d) (g3 : e ≤ f) (g4 : d ≤ e) :
    [(t1, l1), (t2, l2), (t3, l3), (t4, l4)].Pairwise (fun p q => Apt p.1 q.1) := by
  simp only [List.pairwise_cons, List.mem_cons, List.not_mem_nil, or_false, forall_eq_or_imp, forall_eq, List.Pairwise.nil, and_true, false_implies, implies_true]
  exact ⟨⟨apt1 h1 h2 (Nat.le_refl _), apt1 h1 h3 (by omega), apt1 h1 h4 (by omega)⟩, ⟨apt1 h2 h3 g2, apt1 h2 h4 (by omega)⟩, apt1 h3 h4 (Nat.le_refl _)⟩
theorem makes_law (t u : Tok) (a b : RD) (c : Nat) (ha : Arg a.l) (hb : Arg b.l) (ht : Kn c t) (hu : Kn c u) :
    VSpec Tryz.prog F.surdlaw10_SpanMakes c [rsV t u a b] (fun r _ => r = bv true) := by
  refine spec_mk hm E.surdlaw10_SpanMakes B.surdlaw10_SpanMakes K.surdlaw10_SpanMakes Q.surdlaw10_SpanMakes (by rw [N.surdlaw10_SpanMakes]; simp) ?_
  unfold C.surdlaw10_SpanMakes R.surdlaw10_SpanMakes
  (repeat (first | refine v_reg ?_ | refine v_last ?_ | refine vwp_seq ?_ | refine vwp_block ?_ | refine vwp_skip ?_ | refine vwp_exit ?_ | refine vwp_ret ?_ | refine v_cond ?_ | simp (maxSteps := 4000000) (disch := omega) only [vm, ite_true, ite_false, eq_self, reduceIte, Nat.reduceEqDiff, Option.map, vst, List.length_cons, List.length_nil, List.set_cons_zero, List.set_cons_succ, List.map_cons, List.map_nil, Option.map_some, Option.bind_some, Nat.reduceAdd, Nat.reduceLT, Nat.reduceLeDiff, Nat.add_zero, and_self, k_ne, Nat.add_left_cancel_iff, ne_eq, Int.reduceEq, Int.reduceLT, Int.reduceLE, List.cons_append, List.nil_append, Nat.reduceDiv, Nat.reduceMul, Int.reduceToNat, Int.reduceAdd, Int.cast_ofNat_Int] | refine And.intro (by omega) ?_))
  refine s_call (lends_spec t u a b (c + 1) ha hb) (by simp (maxSteps := 4000000) (disch := omega) only [vm, ite_true, ite_false, eq_self, reduceIte, Nat.reduceEqDiff, Option.map, vst, List.length_cons, List.length_nil, List.set_cons_zero, List.set_cons_succ, List.map_cons, List.map_nil, Option.map_some, Option.bind_some, Nat.reduceAdd, Nat.reduceLT, Nat.reduceLeDiff, Nat.add_zero, and_self, k_ne, Nat.add_left_cancel_iff, ne_eq, Int.reduceEq, Int.reduceLT, Int.reduceLE, List.cons_append, List.nil_append, Nat.reduceDiv, Nat.reduceMul, Int.reduceToNat, Int.reduceAdd, Int.cast_ofNat_Int]) ?_
  rintro v c1 hc1 ⟨i, j, rfl, hi, hj, hj2⟩
  (repeat (first | refine v_reg ?_ | refine v_last ?_ | refine vwp_seq ?_ | refine vwp_block ?_ | refine vwp_skip ?_ | refine vwp_exit ?_ | refine vwp_ret ?_ | refine v_cond ?_ | simp (maxSteps := 4000000) (disch := omega) only [vm, ite_true, ite_false, eq_self, reduceIte, Nat.reduceEqDiff, Option.map, vst, List.length_cons, List.length_nil, List.set_cons_zero, List.set_cons_succ, List.map_cons, List.map_nil, Option.map_some, Option.bind_some, Nat.reduceAdd, Nat.reduceLT, Nat.reduceLeDiff, Nat.add_zero, and_self, k_ne, Nat.add_left_cancel_iff, ne_eq, Int.reduceEq, Int.reduceLT, Int.reduceLE, List.cons_append, List.nil_append, Nat.reduceDiv, Nat.reduceMul, Int.reduceToNat, Int.reduceAdd, Int.cast_ofNat_Int] | refine And.intro (by omega) ?_))
  refine s_call (Make_spec (.sub i) (.sub j) a b (c1 + 1) ha hb) (by simp (maxSteps := 4000000) (disch := omega) only [vm, ite_true, ite_false, eq_self, reduceIte, Nat.reduceEqDiff, Option.map, vst, List.length_cons, List.length_nil, List.set_cons_zero, List.set_cons_succ, List.map_cons, List.map_nil, Option.map_some, Option.bind_some, Nat.reduceAdd, Nat.reduceLT, Nat.reduceLeDiff, Nat.add_zero, and_self, k_ne, Nat.add_left_cancel_iff, ne_eq, Int.reduceEq, Int.reduceLT, Int.reduceLE, List.cons_append, List.nil_append, Nat.reduceDiv, Nat.reduceMul, Int.reduceToNat, Int.reduceAdd, Int.cast_ofNat_Int]) ?_
  rintro v c2 hc2 hv
  obtain ⟨p1, p2, m1, h1, h2, rfl, hp1, hp2⟩ := hv.an (by omega)
  (repeat (first | refine v_reg ?_ | refine v_last ?_ | refine vwp_seq ?_ | refine vwp_block ?_ | refine vwp_skip ?_ | refine vwp_exit ?_ | refine vwp_ret ?_ | refine v_cond ?_ | simp (maxSteps := 4000000) (disch := omega) only [vm, ite_true, ite_false, eq_self, reduceIte, Nat.reduceEqDiff, Option.map, vst, List.length_cons, List.length_nil, List.set_cons_zero, List.set_cons_succ, List.map_cons, List.map_nil, Option.map_some, Option.bind_some, Nat.reduceAdd, Nat.reduceLT, Nat.reduceLeDiff, Nat.add_zero, and_self, k_ne, Nat.add_left_cancel_iff, ne_eq, Int.reduceEq, Int.reduceLT, Int.reduceLE, List.cons_append, List.nil_append, Nat.reduceDiv, Nat.reduceMul, Int.reduceToNat, Int.reduceAdd, Int.cast_ofNat_Int] | refine And.intro (by omega) ?_))
  refine s_call (Point_spec (.sub i) a (c2 + 1) ha) (by simp (maxSteps := 4000000) (disch := omega) only [vm, ite_true, ite_false, eq_self, reduceIte, Nat.reduceEqDiff, Option.map, vst, List.length_cons, List.length_nil, List.set_cons_zero, List.set_cons_succ, List.map_cons, List.map_nil, Option.map_some, Option.bind_some, Nat.reduceAdd, Nat.reduceLT, Nat.reduceLeDiff, Nat.add_zero, and_self, k_ne, Nat.add_left_cancel_iff, ne_eq, Int.reduceEq, Int.reduceLT, Int.reduceLE, List.cons_append, List.nil_append, Nat.reduceDiv, Nat.reduceMul, Int.reduceToNat, Int.reduceAdd, Int.cast_ofNat_Int]) ?_
  rintro v c3 hc3 hv
  obtain ⟨q1, q2, m2, h3, h4, rfl, hq1, hq2⟩ := hv.an (by omega)
  (repeat (first | refine v_reg ?_ | refine v_last ?_ | refine vwp_seq ?_ | refine vwp_block ?_ | refine vwp_skip ?_ | refine vwp_exit ?_ | refine vwp_ret ?_ | refine v_cond ?_ | simp (maxSteps := 4000000) (disch := omega) only [vm, ite_true, ite_false, eq_self, reduceIte, Nat.reduceEqDiff, Option.map, vst, List.length_cons, List.length_nil, List.set_cons_zero, List.set_cons_succ, List.map_cons, List.map_nil, Option.map_some, Option.bind_some, Nat.reduceAdd, Nat.reduceLT, Nat.reduceLeDiff, Nat.add_zero, and_self, k_ne, Nat.add_left_cancel_iff, ne_eq, Int.reduceEq, Int.reduceLT, Int.reduceLE, List.cons_append, List.nil_append, Nat.reduceDiv, Nat.reduceMul, Int.reduceToNat, Int.reduceAdd, Int.cast_ofNat_Int] | refine And.intro (by omega) ?_))
  refine s_call (ofS_spec t u a b (c3 + 1) ha hb) (by simp (maxSteps := 4000000) (disch := omega) only [vm, ite_true, ite_false, eq_self, reduceIte, Nat.reduceEqDiff, Option.map, vst, List.length_cons, List.length_nil, List.set_cons_zero, List.set_cons_succ, List.map_cons, List.map_nil, Option.map_some, Option.bind_some, Nat.reduceAdd, Nat.reduceLT, Nat.reduceLeDiff, Nat.add_zero, and_self, k_ne, Nat.add_left_cancel_iff, ne_eq, Int.reduceEq, Int.reduceLT, Int.reduceLE, List.cons_append, List.nil_append, Nat.reduceDiv, Nat.reduceMul, Int.reduceToNat, Int.reduceAdd, Int.cast_ofNat_Int]) ?_
  rintro v c4 hc4 ⟨w1, w2, rfl⟩
  (repeat (first | refine v_reg ?_ | refine v_last ?_ | refine vwp_seq ?_ | refine vwp_block ?_ | refine vwp_skip ?_ | refine vwp_exit ?_ | refine vwp_ret ?_ | refine v_cond ?_ | simp (maxSteps := 4000000) (disch := omega) only [vm, ite_true, ite_false, eq_self, reduceIte, Nat.reduceEqDiff, Option.map, vst, List.length_cons, List.length_nil, List.set_cons_zero, List.set_cons_succ, List.map_cons, List.map_nil, Option.map_some, Option.bind_some, Nat.reduceAdd, Nat.reduceLT, Nat.reduceLeDiff, Nat.add_zero, and_self, k_ne, Nat.add_left_cancel_iff, ne_eq, Int.reduceEq, Int.reduceLT, Int.reduceLE, List.cons_append, List.nil_append, Nat.reduceDiv, Nat.reduceMul, Int.reduceToNat, Int.reduceAdd, Int.cast_ofNat_Int] | refine And.intro (by omega) ?_))
  refine s_call (fits_spec' a.e (c4 + 1 + 1)) (by simp (maxSteps := 4000000) (disch := omega) only [vm, ite_true, ite_false, eq_self, reduceIte, Nat.reduceEqDiff, Option.map, vst, List.length_cons, List.length_nil, List.set_cons_zero, List.set_cons_succ, List.map_cons, List.map_nil, Option.map_some, Option.bind_some, Nat.reduceAdd, Nat.reduceLT, Nat.reduceLeDiff, Nat.add_zero, and_self, k_ne, Nat.add_left_cancel_iff, ne_eq, Int.reduceEq, Int.reduceLT, Int.reduceLE, List.cons_append, List.nil_append, Nat.reduceDiv, Nat.reduceMul, Int.reduceToNat, Int.reduceAdd, Int.cast_ofNat_Int]) ?_
  rintro v c5 hc5 rfl
  have hw1 : chkE a b = 0 → RNum a.d ∧ RNum b.d ∧ okL (chkE a b) a.d = a.d ∧ okL (chkE a b) b.d = b.d := fun g => by
    obtain ⟨g1, g2, _⟩ := chk_ok g
    exact ⟨(RD.Ok.num ⟨ha, g1⟩).r, (RD.Ok.num ⟨hb, g2⟩).r, if_pos g, if_pos g⟩
  by_cases g : fitE a.e
  · have oa : a.Ok := ⟨ha, g⟩
    have gp : ptE a = 0 := if_pos g
    have hw2 : ptE a = 0 → RNum a.d ∧ RNum a.d ∧ a.d = a.d ∧ a.d = a.d := fun _ => ⟨oa.num.r, oa.num.r, rfl, rfl⟩
    (repeat (first | refine v_reg ?_ | refine v_last ?_ | refine vwp_seq ?_ | refine vwp_block ?_ | refine vwp_skip ?_ | refine vwp_exit ?_ | refine vwp_ret ?_ | refine v_cond ?_ | simp (maxSteps := 4000000) (disch := omega) only [vm, ite_true, ite_false, eq_self, reduceIte, Nat.reduceEqDiff, Option.map, vst, List.length_cons, List.length_nil, List.set_cons_zero, List.set_cons_succ, List.map_cons, List.map_nil, Option.map_some, Option.bind_some, Nat.reduceAdd, Nat.reduceLT, Nat.reduceLeDiff, Nat.add_zero, and_self, k_ne, Nat.add_left_cancel_iff, ne_eq, Int.reduceEq, Int.reduceLT, Int.reduceLE, List.cons_append, List.nil_append, Nat.reduceDiv, Nat.reduceMul, Int.reduceToNat, Int.reduceAdd, Int.cast_ofNat_Int, g] | refine And.intro (by omega) ?_))
    refine s_call (dyad_spec t a c5 oa) (by simp (maxSteps := 4000000) (disch := omega) only [vm, ite_true, ite_false, eq_self, reduceIte, Nat.reduceEqDiff, Option.map, vst, List.length_cons, List.length_nil, List.set_cons_zero, List.set_cons_succ, List.map_cons, List.map_nil, Option.map_some, Option.bind_some, Nat.reduceAdd, Nat.reduceLT, Nat.reduceLeDiff, Nat.add_zero, and_self, k_ne, Nat.add_left_cancel_iff, ne_eq, Int.reduceEq, Int.reduceLT, Int.reduceLE, List.cons_append, List.nil_append, Nat.reduceDiv, Nat.reduceMul, Int.reduceToNat, Int.reduceAdd, Int.cast_ofNat_Int]) ?_
    rintro v c6 hc6 ⟨tk, rfl⟩
    (repeat (first | refine v_reg ?_ | refine v_last ?_ | refine vwp_seq ?_ | refine vwp_block ?_ | refine vwp_skip ?_ | refine vwp_exit ?_ | refine vwp_ret ?_ | refine v_cond ?_ | simp (maxSteps := 4000000) (disch := omega) only [vm, ite_true, ite_false, eq_self, reduceIte, Nat.reduceEqDiff, Option.map, vst, List.length_cons, List.length_nil, List.set_cons_zero, List.set_cons_succ, List.map_cons, List.map_nil, Option.map_some, Option.bind_some, Nat.reduceAdd, Nat.reduceLT, Nat.reduceLeDiff, Nat.add_zero, and_self, k_ne, Nat.add_left_cancel_iff, ne_eq, Int.reduceEq, Int.reduceLT, Int.reduceLE, List.cons_append, List.nil_append, Nat.reduceDiv, Nat.reduceMul, Int.reduceToNat, Int.reduceAdd, Int.cast_ofNat_Int, g] | refine And.intro (by omega) ?_))
    refine s_call (dyad_spec t a c6 oa) (by simp (maxSteps := 4000000) (disch := omega) only [vm, ite_true, ite_false, eq_self, reduceIte, Nat.reduceEqDiff, Option.map, vst, List.length_cons, List.length_nil, List.set_cons_zero, List.set_cons_succ, List.map_cons, List.map_nil, Option.map_some, Option.bind_some, Nat.reduceAdd, Nat.reduceLT, Nat.reduceLeDiff, Nat.add_zero, and_self, k_ne, Nat.add_left_cancel_iff, ne_eq, Int.reduceEq, Int.reduceLT, Int.reduceLE, List.cons_append, List.nil_append, Nat.reduceDiv, Nat.reduceMul, Int.reduceToNat, Int.reduceAdd, Int.cast_ofNat_Int]) ?_
    rintro v c7 hc7 ⟨uk, rfl⟩
    (repeat (first | refine v_reg ?_ | refine v_last ?_ | refine vwp_seq ?_ | refine vwp_block ?_ | refine vwp_skip ?_ | refine vwp_exit ?_ | refine vwp_ret ?_ | refine v_cond ?_ | simp (maxSteps := 4000000) (disch := omega) only [vm, ite_true, ite_false, eq_self, reduceIte, Nat.reduceEqDiff, Option.map, vst, List.length_cons, List.length_nil, List.set_cons_zero, List.set_cons_succ, List.map_cons, List.map_nil, Option.map_some, Option.bind_some, Nat.reduceAdd, Nat.reduceLT, Nat.reduceLeDiff, Nat.add_zero, and_self, k_ne, Nat.add_left_cancel_iff, ne_eq, Int.reduceEq, Int.reduceLT, Int.reduceLE, List.cons_append, List.nil_append, Nat.reduceDiv, Nat.reduceMul, Int.reduceToNat, Int.reduceAdd, Int.cast_ofNat_Int, g] | refine And.intro (by omega) ?_))
    refine s_call (alk_an p1 p2 w1 w2 (chkE a b) a.d b.d _ _ c7 hw1) (by simp (maxSteps := 4000000) (disch := omega) only [vm, ite_true, ite_false, eq_self, reduceIte, Nat.reduceEqDiff, Option.map, vst, List.length_cons, List.length_nil, List.set_cons_zero, List.set_cons_succ, List.map_cons, List.map_nil, Option.map_some, Option.bind_some, Nat.reduceAdd, Nat.reduceLT, Nat.reduceLeDiff, Nat.add_zero, and_self, k_ne, Nat.add_left_cancel_iff, ne_eq, Int.reduceEq, Int.reduceLT, Int.reduceLE, List.cons_append, List.nil_append, Nat.reduceDiv, Nat.reduceMul, Int.reduceToNat, Int.reduceAdd, Int.cast_ofNat_Int]) ?_
    rintro v d1 hd1 rfl
    (repeat (first | refine v_reg ?_ | refine v_last ?_ | refine vwp_seq ?_ | refine vwp_block ?_ | refine vwp_skip ?_ | refine vwp_exit ?_ | refine vwp_ret ?_ | refine v_cond ?_ | simp (maxSteps := 4000000) (disch := omega) only [vm, ite_true, ite_false, eq_self, reduceIte, Nat.reduceEqDiff, Option.map, vst, List.length_cons, List.length_nil, List.set_cons_zero, List.set_cons_succ, List.map_cons, List.map_nil, Option.map_some, Option.bind_some, Nat.reduceAdd, Nat.reduceLT, Nat.reduceLeDiff, Nat.add_zero, and_self, k_ne, Nat.add_left_cancel_iff, ne_eq, Int.reduceEq, Int.reduceLT, Int.reduceLE, List.cons_append, List.nil_append, Nat.reduceDiv, Nat.reduceMul, Int.reduceToNat, Int.reduceAdd, Int.cast_ofNat_Int, g] | refine And.intro (by omega) ?_))
    refine s_call (alk_an q1 q2 tk uk (ptE a) a.d a.d _ _ d1 hw2) (by simp (maxSteps := 4000000) (disch := omega) only [vm, ite_true, ite_false, eq_self, reduceIte, Nat.reduceEqDiff, Option.map, vst, List.length_cons, List.length_nil, List.set_cons_zero, List.set_cons_succ, List.map_cons, List.map_nil, Option.map_some, Option.bind_some, Nat.reduceAdd, Nat.reduceLT, Nat.reduceLeDiff, Nat.add_zero, and_self, k_ne, Nat.add_left_cancel_iff, ne_eq, Int.reduceEq, Int.reduceLT, Int.reduceLE, List.cons_append, List.nil_append, Nat.reduceDiv, Nat.reduceMul, Int.reduceToNat, Int.reduceAdd, Int.cast_ofNat_Int, gp]) ?_
    rintro v d2 hd2 rfl
    (repeat (first | refine v_reg ?_ | refine v_last ?_ | refine vwp_seq ?_ | refine vwp_block ?_ | refine vwp_skip ?_ | refine vwp_exit ?_ | refine vwp_ret ?_ | refine v_cond ?_ | simp (maxSteps := 4000000) (disch := omega) only [vm, ite_true, ite_false, eq_self, reduceIte, Nat.reduceEqDiff, Option.map, vst, List.length_cons, List.length_nil, List.set_cons_zero, List.set_cons_succ, List.map_cons, List.map_nil, Option.map_some, Option.bind_some, Nat.reduceAdd, Nat.reduceLT, Nat.reduceLeDiff, Nat.add_zero, and_self, k_ne, Nat.add_left_cancel_iff, ne_eq, Int.reduceEq, Int.reduceLT, Int.reduceLE, List.cons_append, List.nil_append, Nat.reduceDiv, Nat.reduceMul, Int.reduceToNat, Int.reduceAdd, Int.cast_ofNat_Int, g] | refine And.intro (by omega) ?_))
    have hl1 := an_len (f := chkE a b) (x := a.d) (y := b.d) fun q => ⟨(hw1 q).1, (hw1 q).2.1⟩
    have hl2 := an_len (f := ptE a) (x := a.d) (y := a.d) fun q => ⟨(hw2 q).1, (hw2 q).2.1⟩
    refine s_own10S (tA := d2) (c1 + 1) [⟨p1, p2, RD.of (anL (chkE a b) a.d b.d), RD.of (anH (chkE a b) a.d b.d)⟩, ⟨q1, q2, RD.of (anL (ptE a) a.d a.d), RD.of (anH (ptE a) a.d a.d)⟩] (by simp (maxSteps := 4000000) (disch := omega) only [vm, ite_true, ite_false, eq_self, reduceIte, Nat.reduceEqDiff, Option.map, vst, List.length_cons, List.length_nil, List.set_cons_zero, List.set_cons_succ, List.map_cons, List.map_nil, Option.map_some, Option.bind_some, Nat.reduceAdd, Nat.reduceLT, Nat.reduceLeDiff, Nat.add_zero, and_self, k_ne, Nat.add_left_cancel_iff, ne_eq, Int.reduceEq, Int.reduceLT, Int.reduceLE, List.cons_append, List.nil_append, Nat.reduceDiv, Nat.reduceMul, Int.reduceToNat, Int.reduceAdd, Int.cast_ofNat_Int]; rfl) (by simp) (by simp) (by omega) (by omega) (by omega) ?_ ?_ ?_
    · intro p hp
      simp only [rowsL, List.flatMap_cons, List.flatMap_nil, List.append_nil, List.cons_append, List.nil_append, List.mem_cons, List.not_mem_nil, or_false] at hp
      rcases hp with rfl | rfl | rfl | rfl
      · exact ⟨hp1.mono (by omega) (by omega), hl1.1⟩
      · exact ⟨hp2.mono (by omega) (by omega), hl1.2⟩
      · exact ⟨hq1.mono (by omega) (by omega), hl2.1⟩
      · exact ⟨hq2.mono (by omega) (by omega), hl2.2⟩
    · exact apt4 hp1 hp2 hq1 hq2 h2 (by omega) h4 h3
    intro ρ9 σ9 hρ hσ hf
    have e1 := hρ 1 (sf_ptr _ _)
    have e3 := hρ 3 (sf_ptr _ _)
    have e60 := hρ 60 (by simp (maxSteps := 4000000) (disch := omega) only [vm, ite_true, ite_false, eq_self, reduceIte, Nat.reduceEqDiff, Option.map, vst, List.length_cons, List.length_nil, List.set_cons_zero, List.set_cons_succ, List.map_cons, List.map_nil, Option.map_some, Option.bind_some, Nat.reduceAdd, Nat.reduceLT, Nat.reduceLeDiff, Nat.add_zero, and_self, k_ne, Nat.add_left_cancel_iff, ne_eq, Int.reduceEq, Int.reduceLT, Int.reduceLE, List.cons_append, List.nil_append, Nat.reduceDiv, Nat.reduceMul, Int.reduceToNat, Int.reduceAdd, Int.cast_ofNat_Int]; exact sf_lit _)
    have b1 := hσ c ⟨[bv a.neg, nats t a.l, iv a.e, bv b.neg, nats u b.l, iv b.e], true⟩ (by omega) (by simp (maxSteps := 4000000) (disch := omega) only [vm, ite_true, ite_false, eq_self, reduceIte, Nat.reduceEqDiff, Option.map, vst, List.length_cons, List.length_nil, List.set_cons_zero, List.set_cons_succ, List.map_cons, List.map_nil, Option.map_some, Option.bind_some, Nat.reduceAdd, Nat.reduceLT, Nat.reduceLeDiff, Nat.add_zero, and_self, k_ne, Nat.add_left_cancel_iff, ne_eq, Int.reduceEq, Int.reduceLT, Int.reduceLE, List.cons_append, List.nil_append, Nat.reduceDiv, Nat.reduceMul, Int.reduceToNat, Int.reduceAdd, Int.cast_ofNat_Int]) (sfl_rs (ht.mono (by omega)) (hu.mono (by omega)))
    have b3 := hσ c1 ⟨[nats (.id i) (wholeL a.l), nats (.id j) (wholeL b.l), bv a.neg, nats (.sub i) a.l, iv a.e, bv b.neg, nats (.sub j) b.l, iv b.e], true⟩ (by omega) (by simp (maxSteps := 4000000) (disch := omega) only [vm, ite_true, ite_false, eq_self, reduceIte, Nat.reduceEqDiff, Option.map, vst, List.length_cons, List.length_nil, List.set_cons_zero, List.set_cons_succ, List.map_cons, List.map_nil, Option.map_some, Option.bind_some, Nat.reduceAdd, Nat.reduceLT, Nat.reduceLeDiff, Nat.add_zero, and_self, k_ne, Nat.add_left_cancel_iff, ne_eq, Int.reduceEq, Int.reduceLT, Int.reduceLE, List.cons_append, List.nil_append, Nat.reduceDiv, Nat.reduceMul, Int.reduceToNat, Int.reduceAdd, Int.cast_ofNat_Int]) (sfl_tw (by omega) (by omega))
    simp (maxSteps := 4000000) (disch := omega) only [vm, ite_true, ite_false, eq_self, reduceIte, Nat.reduceEqDiff, Option.map, vst, List.length_cons, List.length_nil, List.set_cons_zero, List.set_cons_succ, List.map_cons, List.map_nil, Option.map_some, Option.bind_some, Nat.reduceAdd, Nat.reduceLT, Nat.reduceLeDiff, Nat.add_zero, and_self, k_ne, Nat.add_left_cancel_iff, ne_eq, Int.reduceEq, Int.reduceLT, Int.reduceLE, List.cons_append, List.nil_append, Nat.reduceDiv, Nat.reduceMul, Int.reduceToNat, Int.reduceAdd, Int.cast_ofNat_Int] at e1 e3 e60
    (repeat (first | refine v_reg ?_ | refine v_last ?_ | refine vwp_seq ?_ | refine vwp_block ?_ | refine vwp_skip ?_ | refine vwp_exit ?_ | refine vwp_ret ?_ | refine v_cond ?_ | simp (maxSteps := 4000000) (disch := omega) only [vm, ite_true, ite_false, eq_self, reduceIte, Nat.reduceEqDiff, Option.map, vst, List.length_cons, List.length_nil, List.set_cons_zero, List.set_cons_succ, List.map_cons, List.map_nil, Option.map_some, Option.bind_some, Nat.reduceAdd, Nat.reduceLT, Nat.reduceLeDiff, Nat.add_zero, and_self, k_ne, Nat.add_left_cancel_iff, ne_eq, Int.reduceEq, Int.reduceLT, Int.reduceLE, List.cons_append, List.nil_append, Nat.reduceDiv, Nat.reduceMul, Int.reduceToNat, Int.reduceAdd, Int.cast_ofNat_Int, e1, e3, e60, b1, b3] | refine And.intro (by omega) ?_))
    clear hρ hσ hf
    refine s_call (keptS_spec t u i j a b (d2 + 1) ha hb) (by simp (maxSteps := 4000000) (disch := omega) only [vm, ite_true, ite_false, eq_self, reduceIte, Nat.reduceEqDiff, Option.map, vst, List.length_cons, List.length_nil, List.set_cons_zero, List.set_cons_succ, List.map_cons, List.map_nil, Option.map_some, Option.bind_some, Nat.reduceAdd, Nat.reduceLT, Nat.reduceLeDiff, Nat.add_zero, and_self, k_ne, Nat.add_left_cancel_iff, ne_eq, Int.reduceEq, Int.reduceLT, Int.reduceLE, List.cons_append, List.nil_append, Nat.reduceDiv, Nat.reduceMul, Int.reduceToNat, Int.reduceAdd, Int.cast_ofNat_Int, e1, e3, b1, b3]) ?_
    rintro v d4 hd4 rfl
    (repeat (first | refine v_reg ?_ | refine v_last ?_ | refine vwp_seq ?_ | refine vwp_block ?_ | refine vwp_skip ?_ | refine vwp_exit ?_ | refine vwp_ret ?_ | refine v_cond ?_ | simp (maxSteps := 4000000) (disch := omega) only [vm, ite_true, ite_false, eq_self, reduceIte, Nat.reduceEqDiff, Option.map, vst, List.length_cons, List.length_nil, List.set_cons_zero, List.set_cons_succ, List.map_cons, List.map_nil, Option.map_some, Option.bind_some, Nat.reduceAdd, Nat.reduceLT, Nat.reduceLeDiff, Nat.add_zero, and_self, k_ne, Nat.add_left_cancel_iff, ne_eq, Int.reduceEq, Int.reduceLT, Int.reduceLE, List.cons_append, List.nil_append, Nat.reduceDiv, Nat.reduceMul, Int.reduceToNat, Int.reduceAdd, Int.cast_ofNat_Int] | refine And.intro (by omega) ?_))
    refine s_call (awake_spec d4) (by simp (maxSteps := 4000000) (disch := omega) only [vm, ite_true, ite_false, eq_self, reduceIte, Nat.reduceEqDiff, Option.map, vst, List.length_cons, List.length_nil, List.set_cons_zero, List.set_cons_succ, List.map_cons, List.map_nil, Option.map_some, Option.bind_some, Nat.reduceAdd, Nat.reduceLT, Nat.reduceLeDiff, Nat.add_zero, and_self, k_ne, Nat.add_left_cancel_iff, ne_eq, Int.reduceEq, Int.reduceLT, Int.reduceLE, List.cons_append, List.nil_append, Nat.reduceDiv, Nat.reduceMul, Int.reduceToNat, Int.reduceAdd, Int.cast_ofNat_Int]) ?_
    rintro v d5 hd5 rfl
    (repeat (first | refine v_reg ?_ | refine v_last ?_ | refine vwp_seq ?_ | refine vwp_block ?_ | refine vwp_skip ?_ | refine vwp_exit ?_ | refine vwp_ret ?_ | refine v_cond ?_ | simp (maxSteps := 4000000) (disch := omega) only [vm, ite_true, ite_false, eq_self, reduceIte, Nat.reduceEqDiff, Option.map, vst, List.length_cons, List.length_nil, List.set_cons_zero, List.set_cons_succ, List.map_cons, List.map_nil, Option.map_some, Option.bind_some, Nat.reduceAdd, Nat.reduceLT, Nat.reduceLeDiff, Nat.add_zero, and_self, k_ne, Nat.add_left_cancel_iff, ne_eq, Int.reduceEq, Int.reduceLT, Int.reduceLE, List.cons_append, List.nil_append, Nat.reduceDiv, Nat.reduceMul, Int.reduceToNat, Int.reduceAdd, Int.cast_ofNat_Int] | refine And.intro (by omega) ?_))
    (first | omega | rfl | ((repeat' apply And.intro) <;> first | rfl | omega | assumption))
  · have gp : ptE a = 80 := if_neg g
    have hw2 : ptE a = 0 → RNum a.d ∧ RNum a.d ∧ dy0 = a.d ∧ dy0 = a.d := fun h => by omega
    (repeat (first | refine v_reg ?_ | refine v_last ?_ | refine vwp_seq ?_ | refine vwp_block ?_ | refine vwp_skip ?_ | refine vwp_exit ?_ | refine vwp_ret ?_ | refine v_cond ?_ | simp (maxSteps := 4000000) (disch := omega) only [vm, ite_true, ite_false, eq_self, reduceIte, Nat.reduceEqDiff, Option.map, vst, List.length_cons, List.length_nil, List.set_cons_zero, List.set_cons_succ, List.map_cons, List.map_nil, Option.map_some, Option.bind_some, Nat.reduceAdd, Nat.reduceLT, Nat.reduceLeDiff, Nat.add_zero, and_self, k_ne, Nat.add_left_cancel_iff, ne_eq, Int.reduceEq, Int.reduceLT, Int.reduceLE, List.cons_append, List.nil_append, Nat.reduceDiv, Nat.reduceMul, Int.reduceToNat, Int.reduceAdd, Int.cast_ofNat_Int, g] | refine And.intro (by omega) ?_))
    refine s_call (alk_an p1 p2 w1 w2 (chkE a b) a.d b.d _ _ c5 hw1) (by simp (maxSteps := 4000000) (disch := omega) only [vm, ite_true, ite_false, eq_self, reduceIte, Nat.reduceEqDiff, Option.map, vst, List.length_cons, List.length_nil, List.set_cons_zero, List.set_cons_succ, List.map_cons, List.map_nil, Option.map_some, Option.bind_some, Nat.reduceAdd, Nat.reduceLT, Nat.reduceLeDiff, Nat.add_zero, and_self, k_ne, Nat.add_left_cancel_iff, ne_eq, Int.reduceEq, Int.reduceLT, Int.reduceLE, List.cons_append, List.nil_append, Nat.reduceDiv, Nat.reduceMul, Int.reduceToNat, Int.reduceAdd, Int.cast_ofNat_Int]) ?_
    rintro v d1 hd1 rfl
    (repeat (first | refine v_reg ?_ | refine v_last ?_ | refine vwp_seq ?_ | refine vwp_block ?_ | refine vwp_skip ?_ | refine vwp_exit ?_ | refine vwp_ret ?_ | refine v_cond ?_ | simp (maxSteps := 4000000) (disch := omega) only [vm, ite_true, ite_false, eq_self, reduceIte, Nat.reduceEqDiff, Option.map, vst, List.length_cons, List.length_nil, List.set_cons_zero, List.set_cons_succ, List.map_cons, List.map_nil, Option.map_some, Option.bind_some, Nat.reduceAdd, Nat.reduceLT, Nat.reduceLeDiff, Nat.add_zero, and_self, k_ne, Nat.add_left_cancel_iff, ne_eq, Int.reduceEq, Int.reduceLT, Int.reduceLE, List.cons_append, List.nil_append, Nat.reduceDiv, Nat.reduceMul, Int.reduceToNat, Int.reduceAdd, Int.cast_ofNat_Int, g] | refine And.intro (by omega) ?_))
    refine s_call (alk_an q1 q2 .nil .nil (ptE a) a.d a.d _ _ d1 hw2) (by simp (maxSteps := 4000000) (disch := omega) only [vm, ite_true, ite_false, eq_self, reduceIte, Nat.reduceEqDiff, Option.map, vst, List.length_cons, List.length_nil, List.set_cons_zero, List.set_cons_succ, List.map_cons, List.map_nil, Option.map_some, Option.bind_some, Nat.reduceAdd, Nat.reduceLT, Nat.reduceLeDiff, Nat.add_zero, and_self, k_ne, Nat.add_left_cancel_iff, ne_eq, Int.reduceEq, Int.reduceLT, Int.reduceLE, List.cons_append, List.nil_append, Nat.reduceDiv, Nat.reduceMul, Int.reduceToNat, Int.reduceAdd, Int.cast_ofNat_Int, gp]; rfl) ?_
    rintro v d2 hd2 rfl
    (repeat (first | refine v_reg ?_ | refine v_last ?_ | refine vwp_seq ?_ | refine vwp_block ?_ | refine vwp_skip ?_ | refine vwp_exit ?_ | refine vwp_ret ?_ | refine v_cond ?_ | simp (maxSteps := 4000000) (disch := omega) only [vm, ite_true, ite_false, eq_self, reduceIte, Nat.reduceEqDiff, Option.map, vst, List.length_cons, List.length_nil, List.set_cons_zero, List.set_cons_succ, List.map_cons, List.map_nil, Option.map_some, Option.bind_some, Nat.reduceAdd, Nat.reduceLT, Nat.reduceLeDiff, Nat.add_zero, and_self, k_ne, Nat.add_left_cancel_iff, ne_eq, Int.reduceEq, Int.reduceLT, Int.reduceLE, List.cons_append, List.nil_append, Nat.reduceDiv, Nat.reduceMul, Int.reduceToNat, Int.reduceAdd, Int.cast_ofNat_Int, g] | refine And.intro (by omega) ?_))
    have hl1 := an_len (f := chkE a b) (x := a.d) (y := b.d) fun q => ⟨(hw1 q).1, (hw1 q).2.1⟩
    have hl2 := an_len (f := ptE a) (x := a.d) (y := a.d) fun q => ⟨(hw2 q).1, (hw2 q).2.1⟩
    refine s_own10S (tA := d2) (c1 + 1) [⟨p1, p2, RD.of (anL (chkE a b) a.d b.d), RD.of (anH (chkE a b) a.d b.d)⟩, ⟨q1, q2, RD.of (anL (ptE a) a.d a.d), RD.of (anH (ptE a) a.d a.d)⟩] (by simp (maxSteps := 4000000) (disch := omega) only [vm, ite_true, ite_false, eq_self, reduceIte, Nat.reduceEqDiff, Option.map, vst, List.length_cons, List.length_nil, List.set_cons_zero, List.set_cons_succ, List.map_cons, List.map_nil, Option.map_some, Option.bind_some, Nat.reduceAdd, Nat.reduceLT, Nat.reduceLeDiff, Nat.add_zero, and_self, k_ne, Nat.add_left_cancel_iff, ne_eq, Int.reduceEq, Int.reduceLT, Int.reduceLE, List.cons_append, List.nil_append, Nat.reduceDiv, Nat.reduceMul, Int.reduceToNat, Int.reduceAdd, Int.cast_ofNat_Int]; rfl) (by simp) (by simp) (by omega) (by omega) (by omega) ?_ ?_ ?_
    · intro p hp
      simp only [rowsL, List.flatMap_cons, List.flatMap_nil, List.append_nil, List.cons_append, List.nil_append, List.mem_cons, List.not_mem_nil, or_false] at hp
      rcases hp with rfl | rfl | rfl | rfl
      · exact ⟨hp1.mono (by omega) (by omega), hl1.1⟩
      · exact ⟨hp2.mono (by omega) (by omega), hl1.2⟩
      · exact ⟨hq1.mono (by omega) (by omega), hl2.1⟩
      · exact ⟨hq2.mono (by omega) (by omega), hl2.2⟩
    · exact apt4 hp1 hp2 hq1 hq2 h2 (by omega) h4 h3
    intro ρ9 σ9 hρ hσ hf
    have e1 := hρ 1 (sf_ptr _ _)
    have e3 := hρ 3 (sf_ptr _ _)
    have e60 := hρ 60 (by simp (maxSteps := 4000000) (disch := omega) only [vm, ite_true, ite_false, eq_self, reduceIte, Nat.reduceEqDiff, Option.map, vst, List.length_cons, List.length_nil, List.set_cons_zero, List.set_cons_succ, List.map_cons, List.map_nil, Option.map_some, Option.bind_some, Nat.reduceAdd, Nat.reduceLT, Nat.reduceLeDiff, Nat.add_zero, and_self, k_ne, Nat.add_left_cancel_iff, ne_eq, Int.reduceEq, Int.reduceLT, Int.reduceLE, List.cons_append, List.nil_append, Nat.reduceDiv, Nat.reduceMul, Int.reduceToNat, Int.reduceAdd, Int.cast_ofNat_Int]; exact sf_lit _)
    have b1 := hσ c ⟨[bv a.neg, nats t a.l, iv a.e, bv b.neg, nats u b.l, iv b.e], true⟩ (by omega) (by simp (maxSteps := 4000000) (disch := omega) only [vm, ite_true, ite_false, eq_self, reduceIte, Nat.reduceEqDiff, Option.map, vst, List.length_cons, List.length_nil, List.set_cons_zero, List.set_cons_succ, List.map_cons, List.map_nil, Option.map_some, Option.bind_some, Nat.reduceAdd, Nat.reduceLT, Nat.reduceLeDiff, Nat.add_zero, and_self, k_ne, Nat.add_left_cancel_iff, ne_eq, Int.reduceEq, Int.reduceLT, Int.reduceLE, List.cons_append, List.nil_append, Nat.reduceDiv, Nat.reduceMul, Int.reduceToNat, Int.reduceAdd, Int.cast_ofNat_Int]) (sfl_rs (ht.mono (by omega)) (hu.mono (by omega)))
    have b3 := hσ c1 ⟨[nats (.id i) (wholeL a.l), nats (.id j) (wholeL b.l), bv a.neg, nats (.sub i) a.l, iv a.e, bv b.neg, nats (.sub j) b.l, iv b.e], true⟩ (by omega) (by simp (maxSteps := 4000000) (disch := omega) only [vm, ite_true, ite_false, eq_self, reduceIte, Nat.reduceEqDiff, Option.map, vst, List.length_cons, List.length_nil, List.set_cons_zero, List.set_cons_succ, List.map_cons, List.map_nil, Option.map_some, Option.bind_some, Nat.reduceAdd, Nat.reduceLT, Nat.reduceLeDiff, Nat.add_zero, and_self, k_ne, Nat.add_left_cancel_iff, ne_eq, Int.reduceEq, Int.reduceLT, Int.reduceLE, List.cons_append, List.nil_append, Nat.reduceDiv, Nat.reduceMul, Int.reduceToNat, Int.reduceAdd, Int.cast_ofNat_Int]) (sfl_tw (by omega) (by omega))
    simp (maxSteps := 4000000) (disch := omega) only [vm, ite_true, ite_false, eq_self, reduceIte, Nat.reduceEqDiff, Option.map, vst, List.length_cons, List.length_nil, List.set_cons_zero, List.set_cons_succ, List.map_cons, List.map_nil, Option.map_some, Option.bind_some, Nat.reduceAdd, Nat.reduceLT, Nat.reduceLeDiff, Nat.add_zero, and_self, k_ne, Nat.add_left_cancel_iff, ne_eq, Int.reduceEq, Int.reduceLT, Int.reduceLE, List.cons_append, List.nil_append, Nat.reduceDiv, Nat.reduceMul, Int.reduceToNat, Int.reduceAdd, Int.cast_ofNat_Int] at e1 e3 e60
    (repeat (first | refine v_reg ?_ | refine v_last ?_ | refine vwp_seq ?_ | refine vwp_block ?_ | refine vwp_skip ?_ | refine vwp_exit ?_ | refine vwp_ret ?_ | refine v_cond ?_ | simp (maxSteps := 4000000) (disch := omega) only [vm, ite_true, ite_false, eq_self, reduceIte, Nat.reduceEqDiff, Option.map, vst, List.length_cons, List.length_nil, List.set_cons_zero, List.set_cons_succ, List.map_cons, List.map_nil, Option.map_some, Option.bind_some, Nat.reduceAdd, Nat.reduceLT, Nat.reduceLeDiff, Nat.add_zero, and_self, k_ne, Nat.add_left_cancel_iff, ne_eq, Int.reduceEq, Int.reduceLT, Int.reduceLE, List.cons_append, List.nil_append, Nat.reduceDiv, Nat.reduceMul, Int.reduceToNat, Int.reduceAdd, Int.cast_ofNat_Int, e1, e3, e60, b1, b3] | refine And.intro (by omega) ?_))
    clear hρ hσ hf
    refine s_call (keptS_spec t u i j a b (d2 + 1) ha hb) (by simp (maxSteps := 4000000) (disch := omega) only [vm, ite_true, ite_false, eq_self, reduceIte, Nat.reduceEqDiff, Option.map, vst, List.length_cons, List.length_nil, List.set_cons_zero, List.set_cons_succ, List.map_cons, List.map_nil, Option.map_some, Option.bind_some, Nat.reduceAdd, Nat.reduceLT, Nat.reduceLeDiff, Nat.add_zero, and_self, k_ne, Nat.add_left_cancel_iff, ne_eq, Int.reduceEq, Int.reduceLT, Int.reduceLE, List.cons_append, List.nil_append, Nat.reduceDiv, Nat.reduceMul, Int.reduceToNat, Int.reduceAdd, Int.cast_ofNat_Int, e1, e3, b1, b3]) ?_
    rintro v d4 hd4 rfl
    (repeat (first | refine v_reg ?_ | refine v_last ?_ | refine vwp_seq ?_ | refine vwp_block ?_ | refine vwp_skip ?_ | refine vwp_exit ?_ | refine vwp_ret ?_ | refine v_cond ?_ | simp (maxSteps := 4000000) (disch := omega) only [vm, ite_true, ite_false, eq_self, reduceIte, Nat.reduceEqDiff, Option.map, vst, List.length_cons, List.length_nil, List.set_cons_zero, List.set_cons_succ, List.map_cons, List.map_nil, Option.map_some, Option.bind_some, Nat.reduceAdd, Nat.reduceLT, Nat.reduceLeDiff, Nat.add_zero, and_self, k_ne, Nat.add_left_cancel_iff, ne_eq, Int.reduceEq, Int.reduceLT, Int.reduceLE, List.cons_append, List.nil_append, Nat.reduceDiv, Nat.reduceMul, Int.reduceToNat, Int.reduceAdd, Int.cast_ofNat_Int] | refine And.intro (by omega) ?_))
    refine s_call (awake_spec d4) (by simp (maxSteps := 4000000) (disch := omega) only [vm, ite_true, ite_false, eq_self, reduceIte, Nat.reduceEqDiff, Option.map, vst, List.length_cons, List.length_nil, List.set_cons_zero, List.set_cons_succ, List.map_cons, List.map_nil, Option.map_some, Option.bind_some, Nat.reduceAdd, Nat.reduceLT, Nat.reduceLeDiff, Nat.add_zero, and_self, k_ne, Nat.add_left_cancel_iff, ne_eq, Int.reduceEq, Int.reduceLT, Int.reduceLE, List.cons_append, List.nil_append, Nat.reduceDiv, Nat.reduceMul, Int.reduceToNat, Int.reduceAdd, Int.cast_ofNat_Int]) ?_
    rintro v d5 hd5 rfl
    (repeat (first | refine v_reg ?_ | refine v_last ?_ | refine vwp_seq ?_ | refine vwp_block ?_ | refine vwp_skip ?_ | refine vwp_exit ?_ | refine vwp_ret ?_ | refine v_cond ?_ | simp (maxSteps := 4000000) (disch := omega) only [vm, ite_true, ite_false, eq_self, reduceIte, Nat.reduceEqDiff, Option.map, vst, List.length_cons, List.length_nil, List.set_cons_zero, List.set_cons_succ, List.map_cons, List.map_nil, Option.map_some, Option.bind_some, Nat.reduceAdd, Nat.reduceLT, Nat.reduceLeDiff, Nat.add_zero, and_self, k_ne, Nat.add_left_cancel_iff, ne_eq, Int.reduceEq, Int.reduceLT, Int.reduceLE, List.cons_append, List.nil_append, Nat.reduceDiv, Nat.reduceMul, Int.reduceToNat, Int.reduceAdd, Int.cast_ofNat_Int] | refine And.intro (by omega) ?_))
    (first | omega | rfl | ((repeat' apply And.intro) <;> first | rfl | omega | assumption))
end Go.Proofs.YtacodmnlnlbahaaGreatDoor
