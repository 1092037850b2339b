import Derived.Test.YtladcfeibpddeabS5
import Derived.Test.YtladcfeibpddeabDivL
set_option linter.unusedSimpArgs false
set_option linter.unusedVariables false
set_option maxRecDepth 100000
set_option maxHeartbeats 4000000
namespace Go.Proofs.Ytladcfeibpddeab
open Go.VM

theorem div64_spec (hi lo y c : Nat) (hlo : lo < 18446744073709551616) (hy : y < 18446744073709551616) (hiy : hi < y) : VSpec Try.prog F.bits_Div64 c [nv hi, nv lo, nv y] (fun r _ => r = .tup [nv ((hi * 18446744073709551616 + lo) / y), nv ((hi * 18446744073709551616 + lo) % y)]) := by
  refine spec_mk hm E.bits_Div64 B.bits_Div64 K.bits_Div64 Q.bits_Div64 (by rw [N.bits_Div64]; simp) ?_
  unfold C.bits_Div64 R.bits_Div64
  have y0 : 0 < y := by omega
  have e1 : ¬ y = 0 := by omega
  have e2 : ¬ y ≤ hi := by omega
  (repeat (first | refine v_reg ?_ | refine v_last ?_ | refine vwp_seq ?_ | refine vwp_block ?_ | refine vwp_skip ?_ | refine vwp_exit ?_ | refine vwp_ret ?_ | refine v_cond ?_ | simp only [vm, ite_true, ite_false, reduceIte, Nat.reduceEqDiff, Option.map, decide_eq_true_eq, decide_eq_false_iff_not, Bool.not_eq_true, decide_true, decide_false, Bool.not_true, Bool.not_false, Bool.false_eq_true, not_true_eq_false, not_false_eq_true, eq_self, and_true, true_and, e1, e2] | refine And.intro (by omega) ?_))
  refine ⟨fun g => ?_, fun g => ?_⟩
  · (repeat (first | refine v_reg ?_ | refine v_last ?_ | refine vwp_seq ?_ | refine vwp_block ?_ | refine vwp_skip ?_ | refine vwp_exit ?_ | refine vwp_ret ?_ | refine v_cond ?_ | simp only [vm, ite_true, ite_false, reduceIte, Nat.reduceEqDiff, Option.map, decide_eq_true_eq, decide_eq_false_iff_not, Bool.not_eq_true, decide_true, decide_false, Bool.not_true, Bool.not_false, Bool.false_eq_true, not_true_eq_false, not_false_eq_true, eq_self, and_true, true_and, e1] | refine And.intro (by omega) ?_))
    subst g
    rw [Nat.zero_mul, Nat.zero_add, Nat.mod_eq_of_lt (Nat.lt_of_le_of_lt (Nat.div_le_self _ _) hlo)]
  (repeat (first | refine v_reg ?_ | refine v_last ?_ | refine vwp_seq ?_ | refine vwp_block ?_ | refine vwp_skip ?_ | refine vwp_exit ?_ | refine vwp_ret ?_ | refine v_cond ?_ | simp only [vm, ite_true, ite_false, reduceIte, Nat.reduceEqDiff, Option.map, decide_eq_true_eq, decide_eq_false_iff_not, Bool.not_eq_true, decide_true, decide_false, Bool.not_true, Bool.not_false, Bool.false_eq_true, not_true_eq_false, not_false_eq_true, eq_self, and_true, true_and] | refine And.intro (by omega) ?_))
  refine s_call (lz64_spec y c hy) (by simp only [vm, ite_true, ite_false, reduceIte, Nat.reduceEqDiff, Option.map, decide_eq_true_eq, decide_eq_false_iff_not, Bool.not_eq_true, decide_true, decide_false, Bool.not_true, Bool.not_false, Bool.false_eq_true, not_true_eq_false, not_false_eq_true, eq_self, and_true, true_and, List.map]) ?_
  rintro v c2 hc2 rfl
  have hbl : bl y ≤ 64 := bl_le hy
  have hbp := bl_pos y0
  obtain ⟨hv64, hv63⟩ := norm_shift y0 hy
  have es : ((64 : Int) - (bl y : Int)).toNat = 64 - bl y := by omega
  simp only [vm, ite_true, ite_false, reduceIte, Nat.reduceEqDiff, Option.map, decide_eq_true_eq, decide_eq_false_iff_not, Bool.not_eq_true, decide_true, decide_false, Bool.not_true, Bool.not_false, Bool.false_eq_true, not_true_eq_false, not_false_eq_true, eq_self, and_true, true_and, es]
  refine ⟨by omega, ?_⟩
  obtain ⟨hor, hN⟩ := shift_two (hi := hi) (lo := lo) (s := 64 - bl y) (by omega) hlo
  have hH := shift_lt (y := y) (by omega) hN
  generalize hsd : 64 - bl y = s at *
  have hmin : min s 64 = s := by omega
  have hs64 : (64 + (18446744073709551616 - s % 18446744073709551616)) % 18446744073709551616 = 64 - s := by omega
  have hmin2 : min (64 - s) 64 = 64 - s := by omega
  have hhs : hi * 2 ^ s < 18446744073709551616 := by
    refine Nat.lt_trans (Nat.mul_lt_mul_of_pos_right hiy (Nat.two_pow_pos s)) hv64
  have hos : lo / 2 ^ (64 - s) < 18446744073709551616 := Nat.lt_of_le_of_lt (Nat.div_le_self _ _) hlo
  (repeat (first | refine v_reg ?_ | refine v_last ?_ | refine vwp_seq ?_ | refine vwp_block ?_ | refine vwp_skip ?_ | refine vwp_exit ?_ | refine vwp_ret ?_ | refine v_cond ?_)); simp only [vm, ite_true, ite_false, reduceIte, Nat.reduceEqDiff, Option.map, decide_eq_true_eq, decide_eq_false_iff_not, Bool.not_eq_true, decide_true, decide_false, Bool.not_true, Bool.not_false, Bool.false_eq_true, not_true_eq_false, not_false_eq_true, eq_self, and_true, true_and, hmin, Nat.mod_eq_of_lt hv64]
  have hvd : 0 < y * 2 ^ s := by omega
  have hlast : ((hi * 18446744073709551616 + lo) * 2 ^ s) / (y * 2 ^ s) = (hi * 18446744073709551616 + lo) / y := Nat.mul_div_mul_right _ _ (Nat.two_pow_pos s)
  have hlastr : ((hi * 18446744073709551616 + lo) * 2 ^ s) % (y * 2 ^ s) = (hi * 18446744073709551616 + lo) % y * 2 ^ s := Nat.mul_mod_mul_right _ _ _
  rw [hN] at hlast hlastr
  have hHp : hi * 2 ^ s + lo / 2 ^ (64 - s) < 18446744073709551616 := Nat.lt_trans hH hv64
  (repeat (first | refine v_reg ?_ | refine v_last ?_ | refine vwp_seq ?_ | refine vwp_block ?_ | refine vwp_skip ?_ | refine vwp_exit ?_ | refine vwp_ret ?_ | refine v_cond ?_ | simp only [vm, ite_true, ite_false, reduceIte, Nat.reduceEqDiff, Option.map, decide_eq_true_eq, decide_eq_false_iff_not, Bool.not_eq_true, decide_true, decide_false, Bool.not_true, Bool.not_false, Bool.false_eq_true, not_true_eq_false, not_false_eq_true, eq_self, and_true, true_and, hmin, u_or, hs64, hmin2, Nat.mod_eq_of_lt hhs, Nat.mod_eq_of_lt hos, or_shift hor] | refine And.intro (by omega) ?_))
  generalize hi * 2 ^ s + lo / 2 ^ (64 - s) = H at *
  have hL := Nat.mod_lt (lo * 2 ^ s) (show 0 < 18446744073709551616 by decide)
  generalize lo * 2 ^ s % 18446744073709551616 = L at *
  generalize y * 2 ^ s = v at *
  have hv : v = v / 4294967296 * 4294967296 + v % 4294967296 := by omega
  have h1 : 2147483648 ≤ v / 4294967296 := by omega
  have h0 : v % 4294967296 < 4294967296 := by omega
  have h1b : v / 4294967296 < 4294967296 := by omega
  generalize v / 4294967296 = v1 at *
  generalize v % 4294967296 = v0 at *
  obtain ⟨k1, k2⟩ := kd_two (h := H) (l := L) hvd hL
  have hd1 : L / 4294967296 < 4294967296 := by omega
  have hd0 : L % 4294967296 < 4294967296 := by omega
  obtain ⟨l1, hl1⟩ : ∃ l1, L / 4294967296 = l1 := ⟨_, rfl⟩
  obtain ⟨l0, hl0⟩ : ∃ l0, L % 4294967296 = l0 := ⟨_, rfl⟩
  rw [hl1, hl0]
  rw [hl1] at hd1
  rw [hl0] at hd0
  rw [hl1, hl0] at k1 k2
  rw [hlast] at k1
  rw [hlastr] at k2
  clear hlast hlastr hN hl1 hl0
  have hfirst := kd_first hv h1 h0 hH
  have hdm := Nat.div_add_mod H v1
  rw [Nat.mul_comm] at hdm
  have hrm := Nat.mod_lt H (show 0 < v1 by omega)
  have hq0 : H / v1 % 18446744073709551616 = H / v1 := Nat.mod_eq_of_lt (Nat.lt_of_le_of_lt hfirst (by decide))
  rw [hq0, sub_mod64 (p := H / v1 * v1) (n := H) (by omega) hHp]
  have hQb := kd_lt (b := 4294967296) (by decide) hd1 hH
  have hrest := kd_rest (q := (H * 4294967296 + l1) / v) rfl hv64 hvd
  have hQ0 := kd_up (b := 4294967296) (n := H) (by decide) hd1 hv (by omega)
  obtain ⟨Q, hQd⟩ : ∃ Q, Q = (H * 4294967296 + l1) / v := ⟨_, rfl⟩
  rw [← hQd] at hQb hrest hQ0
  refine v_loop (fun S => S.ρ 2 = nv v ∧ S.ρ 8 = nv s ∧ S.ρ 9 = nv v1 ∧ S.ρ 10 = nv v0 ∧ S.ρ 11 = nv H ∧ S.ρ 13 = nv (l1) ∧ S.ρ 14 = nv (l0) ∧ S.ρ 15 = nv Q ∧ S.σ = noBlk ∧ S.c = c2) ?_ ?_
  · refine vwp_loop (fun k S => ∃ q r, k = q ∧ q * v1 + r = H ∧ Q ≤ q ∧ r < 4294967296 ∧ q ≤ 4294967297 ∧ S.ρ 2 = nv v ∧ S.ρ 8 = nv s ∧ S.ρ 9 = nv v1 ∧ S.ρ 10 = nv v0 ∧ S.ρ 11 = nv H ∧ S.ρ 13 = nv (l1) ∧ S.ρ 14 = nv (l0) ∧ S.ρ 15 = nv q ∧ S.ρ 16 = nv r ∧ S.σ = noBlk ∧ S.c = c2) (H / v1) ?_ ?_
    · refine ⟨H / v1, H - H / v1 * v1, rfl, ?_⟩
      simp only [vm, ite_true, ite_false, reduceIte, Nat.reduceEqDiff, Option.map, decide_eq_true_eq, decide_eq_false_iff_not, Bool.not_eq_true, decide_true, decide_false, Bool.not_true, Bool.not_false, Bool.false_eq_true, not_true_eq_false, not_false_eq_true, eq_self, and_true, true_and]
      (repeat' apply And.intro) <;> first | rfl | omega | assumption
    rintro k ⟨ρ2, σ, c4⟩ ⟨q, r, hk, he, hQ, hr, hq, g2, g8, g9, g10, g11, g13, g14, g15, g16, hσ, hc4⟩
    dsimp only at g2 g8 g9 g10 g11 g13 g14 g15 g16 hσ hc4
    subst hσ hc4
    have hqv0 := kd_fit hq h0
    have hbr : 4294967296 * r < 18446744073709551616 := by omega
    have hbr2 : 4294967296 * r + l1 < 18446744073709551616 := by omega
    have hrv : r + v1 < 18446744073709551616 := by omega
    have hdec : 4294967296 ≤ q ∨ 4294967296 * r + l1 < q * v0 → Q < q := fun h => by
      have := kd_dec (by decide) hd1 hv (by omega) hH he h
      rw [← hQd] at this
      exact this
    have hend : ¬ 4294967296 ≤ q → ¬ 4294967296 * r + l1 < q * v0 → q = Q := fun h h' => by
      have := kd_le (u := l1) (b := 4294967296) (v0 := v0) (by decide) hv (by omega) he (by omega)
      rw [← hQd] at this
      omega
    have hnext : Q < q → 4294967296 ≤ r + v1 → q - 1 = Q := fun h h' => by
      have := kd_big (u := l1) (by decide) hv (by omega) h0 (kd_next (by omega) he) (by omega) h'
      rw [← hQd] at this
      omega
    have hstep : Q < q → (q - 1) * v1 + (r + v1) = H := fun h => kd_next (by omega) he
    by_cases gq : 4294967296 ≤ q
    · have hd := hdec (.inl gq)
      (repeat (first | refine v_reg ?_ | refine v_last ?_ | refine vwp_seq ?_ | refine vwp_block ?_ | refine vwp_skip ?_ | refine vwp_exit ?_ | refine vwp_ret ?_ | refine v_cond ?_ | simp only [vm, ite_true, ite_false, reduceIte, Nat.reduceEqDiff, Option.map, decide_eq_true_eq, decide_eq_false_iff_not, Bool.not_eq_true, decide_true, decide_false, Bool.not_true, Bool.not_false, Bool.false_eq_true, not_true_eq_false, not_false_eq_true, eq_self, and_true, true_and, g2, g8, g9, g10, g11, g13, g14, g15, g16, gq, dec_mod64 (show 0 < q by omega) (by omega), Nat.mod_eq_of_lt hrv] | refine And.intro (by omega) ?_))
      refine ⟨fun gr => ?_, fun gr => ?_⟩
      · have := hnext hd gr
        (repeat (first | refine v_reg ?_ | refine v_last ?_ | refine vwp_seq ?_ | refine vwp_block ?_ | refine vwp_skip ?_ | refine vwp_exit ?_ | refine vwp_ret ?_ | refine v_cond ?_ | simp only [vm, ite_true, ite_false, reduceIte, Nat.reduceEqDiff, Option.map, decide_eq_true_eq, decide_eq_false_iff_not, Bool.not_eq_true, decide_true, decide_false, Bool.not_true, Bool.not_false, Bool.false_eq_true, not_true_eq_false, not_false_eq_true, eq_self, and_true, true_and, g2, g8, g9, g10, g11, g13, g14, this] | refine And.intro (by omega) ?_))
      · (repeat (first | refine v_reg ?_ | refine v_last ?_ | refine vwp_seq ?_ | refine vwp_block ?_ | refine vwp_skip ?_ | refine vwp_exit ?_ | refine vwp_ret ?_ | refine v_cond ?_ | simp only [vm, ite_true, ite_false, reduceIte, Nat.reduceEqDiff, Option.map, decide_eq_true_eq, decide_eq_false_iff_not, Bool.not_eq_true, decide_true, decide_false, Bool.not_true, Bool.not_false, Bool.false_eq_true, not_true_eq_false, not_false_eq_true, eq_self, and_true, true_and, g2, g8, g9, g10, g11, g13, g14] | refine And.intro (by omega) ?_))

        refine ⟨q - 1, by omega, q - 1, r + v1, ?_⟩
        have := hstep hd
        (repeat' apply And.intro) <;> first | rfl | omega | assumption
    · (repeat (first | refine v_reg ?_ | refine v_last ?_ | refine vwp_seq ?_ | refine vwp_block ?_ | refine vwp_skip ?_ | refine vwp_exit ?_ | refine vwp_ret ?_ | refine v_cond ?_ | simp only [vm, ite_true, ite_false, reduceIte, Nat.reduceEqDiff, Option.map, decide_eq_true_eq, decide_eq_false_iff_not, Bool.not_eq_true, decide_true, decide_false, Bool.not_true, Bool.not_false, Bool.false_eq_true, not_true_eq_false, not_false_eq_true, eq_self, and_true, true_and, g2, g8, g9, g10, g11, g13, g14, g15, g16, gq, Nat.mod_eq_of_lt hqv0, Nat.mod_eq_of_lt hbr, Nat.mod_eq_of_lt hbr2] | refine And.intro (by omega) ?_))
      refine ⟨fun g3 => ?_, fun g3 => ?_⟩
      · have hd := hdec (.inr g3)
        (repeat (first | refine v_reg ?_ | refine v_last ?_ | refine vwp_seq ?_ | refine vwp_block ?_ | refine vwp_skip ?_ | refine vwp_exit ?_ | refine vwp_ret ?_ | refine v_cond ?_ | simp only [vm, ite_true, ite_false, reduceIte, Nat.reduceEqDiff, Option.map, decide_eq_true_eq, decide_eq_false_iff_not, Bool.not_eq_true, decide_true, decide_false, Bool.not_true, Bool.not_false, Bool.false_eq_true, not_true_eq_false, not_false_eq_true, eq_self, and_true, true_and, g2, g8, g9, g10, g11, g13, g14, g15, g16, gq, dec_mod64 (show 0 < q by omega) (by omega), Nat.mod_eq_of_lt hrv] | refine And.intro (by omega) ?_))
        refine ⟨fun gr => ?_, fun gr => ?_⟩
        · have := hnext hd gr
          (repeat (first | refine v_reg ?_ | refine v_last ?_ | refine vwp_seq ?_ | refine vwp_block ?_ | refine vwp_skip ?_ | refine vwp_exit ?_ | refine vwp_ret ?_ | refine v_cond ?_ | simp only [vm, ite_true, ite_false, reduceIte, Nat.reduceEqDiff, Option.map, decide_eq_true_eq, decide_eq_false_iff_not, Bool.not_eq_true, decide_true, decide_false, Bool.not_true, Bool.not_false, Bool.false_eq_true, not_true_eq_false, not_false_eq_true, eq_self, and_true, true_and, g2, g8, g9, g10, g11, g13, g14, this] | refine And.intro (by omega) ?_))
        · (repeat (first | refine v_reg ?_ | refine v_last ?_ | refine vwp_seq ?_ | refine vwp_block ?_ | refine vwp_skip ?_ | refine vwp_exit ?_ | refine vwp_ret ?_ | refine v_cond ?_ | simp only [vm, ite_true, ite_false, reduceIte, Nat.reduceEqDiff, Option.map, decide_eq_true_eq, decide_eq_false_iff_not, Bool.not_eq_true, decide_true, decide_false, Bool.not_true, Bool.not_false, Bool.false_eq_true, not_true_eq_false, not_false_eq_true, eq_self, and_true, true_and, g2, g8, g9, g10, g11, g13, g14] | refine And.intro (by omega) ?_))
          refine ⟨q - 1, by omega, q - 1, r + v1, ?_⟩
          have := hstep hd
          (repeat' apply And.intro) <;> first | rfl | omega | assumption
      · have := hend gq g3
        (repeat (first | refine v_reg ?_ | refine v_last ?_ | refine vwp_seq ?_ | refine vwp_block ?_ | refine vwp_skip ?_ | refine vwp_exit ?_ | refine vwp_ret ?_ | refine v_cond ?_ | simp only [vm, ite_true, ite_false, reduceIte, Nat.reduceEqDiff, Option.map, decide_eq_true_eq, decide_eq_false_iff_not, Bool.not_eq_true, decide_true, decide_false, Bool.not_true, Bool.not_false, Bool.false_eq_true, not_true_eq_false, not_false_eq_true, eq_self, and_true, true_and, g2, g8, g9, g10, g11, g13, g14, g15, this] | refine And.intro (by omega) ?_))
  rintro ⟨ρ2, σ, c4⟩ ⟨g2, g8, g9, g10, g11, g13, g14, g15, hσ, hc4⟩
  dsimp only at g2 g8 g9 g10 g11 g13 g14 g15 hσ hc4
  subst hσ hc4
  rw [← hQd] at k1
  have hR := Nat.mod_lt (H * 4294967296 + l1) hvd
  obtain ⟨R, hRd⟩ : ∃ R, R = (H * 4294967296 + l1) % v := ⟨_, rfl⟩
  rw [← hRd] at hrest k1 k2 hR
  (repeat (first | refine v_reg ?_ | refine v_last ?_ | refine vwp_seq ?_ | refine vwp_block ?_ | refine vwp_skip ?_ | refine vwp_exit ?_ | refine vwp_ret ?_ | refine v_cond ?_)); simp only [vm, ite_true, ite_false, reduceIte, Nat.reduceEqDiff, Option.map, decide_eq_true_eq, decide_eq_false_iff_not, Bool.not_eq_true, decide_true, decide_false, Bool.not_true, Bool.not_false, Bool.false_eq_true, not_true_eq_false, not_false_eq_true, eq_self, and_true, true_and, g2, g8, g9, g10, g11, g13, g14, g15, hrest]
  have hRp : R < 18446744073709551616 := Nat.lt_trans hR hv64
  have hfirst := kd_first hv h1 h0 hR
  have hdm := Nat.div_add_mod R v1
  rw [Nat.mul_comm] at hdm
  have hrm := Nat.mod_lt R (show 0 < v1 by omega)
  have hq0 : R / v1 % 18446744073709551616 = R / v1 := Nat.mod_eq_of_lt (Nat.lt_of_le_of_lt hfirst (by decide))
  have hne : ¬ v1 = 0 := by omega
  (repeat (first | refine v_reg ?_ | refine v_last ?_ | refine vwp_seq ?_ | refine vwp_block ?_ | refine vwp_skip ?_ | refine vwp_exit ?_ | refine vwp_ret ?_ | refine v_cond ?_ | simp only [vm, ite_true, ite_false, reduceIte, Nat.reduceEqDiff, Option.map, decide_eq_true_eq, decide_eq_false_iff_not, Bool.not_eq_true, decide_true, decide_false, Bool.not_true, Bool.not_false, Bool.false_eq_true, not_true_eq_false, not_false_eq_true, eq_self, and_true, true_and, g2, g8, g9, g10, g11, g13, g14, g15, ne_eq, hne, hq0, sub_mod64 (p := R / v1 * v1) (n := R) (by omega) hRp] | refine And.intro (by omega) ?_))
  have hTb := kd_lt (b := 4294967296) (by decide) hd0 hR
  have hrest2 := kd_rest (q := (R * 4294967296 + l0) / v) rfl hv64 hvd
  have hT0 := kd_up (b := 4294967296) (n := R) (by decide) hd0 hv (by omega)
  obtain ⟨T, hTd⟩ : ∃ T, T = (R * 4294967296 + l0) / v := ⟨_, rfl⟩
  rw [← hTd] at hTb hrest2 hT0 k1
  refine v_loop (fun S => S.ρ 2 = nv v ∧ S.ρ 8 = nv s ∧ S.ρ 14 = nv (l0) ∧ S.ρ 15 = nv Q ∧ S.ρ 17 = nv R ∧ S.ρ 18 = nv T ∧ S.σ = noBlk ∧ S.c = c4) ?_ ?_
  · refine vwp_loop (fun k S => ∃ q r, k = q ∧ q * v1 + r = R ∧ T ≤ q ∧ r < 4294967296 ∧ q ≤ 4294967297 ∧ S.ρ 2 = nv v ∧ S.ρ 8 = nv s ∧ S.ρ 9 = nv v1 ∧ S.ρ 10 = nv v0 ∧ S.ρ 14 = nv (l0) ∧ S.ρ 15 = nv Q ∧ S.ρ 17 = nv R ∧ S.ρ 18 = nv q ∧ S.ρ 16 = nv r ∧ S.σ = noBlk ∧ S.c = c4) (R / v1) ?_ ?_
    · refine ⟨R / v1, R - R / v1 * v1, rfl, ?_⟩
      simp only [vm, ite_true, ite_false, reduceIte, Nat.reduceEqDiff, Option.map, decide_eq_true_eq, decide_eq_false_iff_not, Bool.not_eq_true, decide_true, decide_false, Bool.not_true, Bool.not_false, Bool.false_eq_true, not_true_eq_false, not_false_eq_true, eq_self, and_true, true_and, g2, g8, g9, g10, g14, g15]
      (repeat' apply And.intro) <;> first | rfl | omega | assumption
    rintro k ⟨ρ3, σ, c5⟩ ⟨q, r, hk, he, hQ, hr, hq, g2, g8, g9, g10, g14, g15, g17, g18, g16, hσ, hc5⟩
    dsimp only at g2 g8 g9 g10 g14 g15 g17 g18 g16 hσ hc5
    subst hσ hc5
    have hqv0 := kd_fit hq h0
    have hbr : 4294967296 * r < 18446744073709551616 := by omega
    have hbr2 : 4294967296 * r + l0 < 18446744073709551616 := by omega
    have hrv : r + v1 < 18446744073709551616 := by omega
    have hdec : 4294967296 ≤ q ∨ 4294967296 * r + l0 < q * v0 → T < q := fun h => by
      have := kd_dec (by decide) hd0 hv (by omega) hR he h
      rw [← hTd] at this
      exact this
    have hend : ¬ 4294967296 ≤ q → ¬ 4294967296 * r + l0 < q * v0 → q = T := fun h h' => by
      have := kd_le (u := l0) (b := 4294967296) (v0 := v0) (by decide) hv (by omega) he (by omega)
      rw [← hTd] at this
      omega
    have hnext : T < q → 4294967296 ≤ r + v1 → q - 1 = T := fun h h' => by
      have := kd_big (u := l0) (by decide) hv (by omega) h0 (kd_next (by omega) he) (by omega) h'
      rw [← hTd] at this
      omega
    have hstep : T < q → (q - 1) * v1 + (r + v1) = R := fun h => kd_next (by omega) he
    by_cases gq : 4294967296 ≤ q
    · have hd := hdec (.inl gq)
      (repeat (first | refine v_reg ?_ | refine v_last ?_ | refine vwp_seq ?_ | refine vwp_block ?_ | refine vwp_skip ?_ | refine vwp_exit ?_ | refine vwp_ret ?_ | refine v_cond ?_ | simp only [vm, ite_true, ite_false, reduceIte, Nat.reduceEqDiff, Option.map, decide_eq_true_eq, decide_eq_false_iff_not, Bool.not_eq_true, decide_true, decide_false, Bool.not_true, Bool.not_false, Bool.false_eq_true, not_true_eq_false, not_false_eq_true, eq_self, and_true, true_and, g2, g8, g9, g10, g14, g15, g17, g18, g16, gq, dec_mod64 (show 0 < q by omega) (by omega), Nat.mod_eq_of_lt hrv] | refine And.intro (by omega) ?_))
      refine ⟨fun gr => ?_, fun gr => ?_⟩
      · have := hnext hd gr
        (repeat (first | refine v_reg ?_ | refine v_last ?_ | refine vwp_seq ?_ | refine vwp_block ?_ | refine vwp_skip ?_ | refine vwp_exit ?_ | refine vwp_ret ?_ | refine v_cond ?_ | simp only [vm, ite_true, ite_false, reduceIte, Nat.reduceEqDiff, Option.map, decide_eq_true_eq, decide_eq_false_iff_not, Bool.not_eq_true, decide_true, decide_false, Bool.not_true, Bool.not_false, Bool.false_eq_true, not_true_eq_false, not_false_eq_true, eq_self, and_true, true_and, g2, g8, g9, g10, g14, g15, g17, this] | refine And.intro (by omega) ?_))
      · (repeat (first | refine v_reg ?_ | refine v_last ?_ | refine vwp_seq ?_ | refine vwp_block ?_ | refine vwp_skip ?_ | refine vwp_exit ?_ | refine vwp_ret ?_ | refine v_cond ?_ | simp only [vm, ite_true, ite_false, reduceIte, Nat.reduceEqDiff, Option.map, decide_eq_true_eq, decide_eq_false_iff_not, Bool.not_eq_true, decide_true, decide_false, Bool.not_true, Bool.not_false, Bool.false_eq_true, not_true_eq_false, not_false_eq_true, eq_self, and_true, true_and, g2, g8, g9, g10, g14, g15, g17] | refine And.intro (by omega) ?_))
        refine ⟨q - 1, by omega, q - 1, r + v1, ?_⟩
        have := hstep hd
        (repeat' apply And.intro) <;> first | rfl | omega | assumption
    · (repeat (first | refine v_reg ?_ | refine v_last ?_ | refine vwp_seq ?_ | refine vwp_block ?_ | refine vwp_skip ?_ | refine vwp_exit ?_ | refine vwp_ret ?_ | refine v_cond ?_ | simp only [vm, ite_true, ite_false, reduceIte, Nat.reduceEqDiff, Option.map, decide_eq_true_eq, decide_eq_false_iff_not, Bool.not_eq_true, decide_true, decide_false, Bool.not_true, Bool.not_false, Bool.false_eq_true, not_true_eq_false, not_false_eq_true, eq_self, and_true, true_and, g2, g8, g9, g10, g14, g15, g17, g18, g16, gq, Nat.mod_eq_of_lt hqv0, Nat.mod_eq_of_lt hbr, Nat.mod_eq_of_lt hbr2] | refine And.intro (by omega) ?_))
      refine ⟨fun g3 => ?_, fun g3 => ?_⟩
      · have hd := hdec (.inr g3)
        (repeat (first | refine v_reg ?_ | refine v_last ?_ | refine vwp_seq ?_ | refine vwp_block ?_ | refine vwp_skip ?_ | refine vwp_exit ?_ | refine vwp_ret ?_ | refine v_cond ?_ | simp only [vm, ite_true, ite_false, reduceIte, Nat.reduceEqDiff, Option.map, decide_eq_true_eq, decide_eq_false_iff_not, Bool.not_eq_true, decide_true, decide_false, Bool.not_true, Bool.not_false, Bool.false_eq_true, not_true_eq_false, not_false_eq_true, eq_self, and_true, true_and, g2, g8, g9, g10, g14, g15, g17, g18, g16, gq, dec_mod64 (show 0 < q by omega) (by omega), Nat.mod_eq_of_lt hrv] | refine And.intro (by omega) ?_))
        refine ⟨fun gr => ?_, fun gr => ?_⟩
        · have := hnext hd gr
          (repeat (first | refine v_reg ?_ | refine v_last ?_ | refine vwp_seq ?_ | refine vwp_block ?_ | refine vwp_skip ?_ | refine vwp_exit ?_ | refine vwp_ret ?_ | refine v_cond ?_ | simp only [vm, ite_true, ite_false, reduceIte, Nat.reduceEqDiff, Option.map, decide_eq_true_eq, decide_eq_false_iff_not, Bool.not_eq_true, decide_true, decide_false, Bool.not_true, Bool.not_false, Bool.false_eq_true, not_true_eq_false, not_false_eq_true, eq_self, and_true, true_and, g2, g8, g9, g10, g14, g15, g17, this] | refine And.intro (by omega) ?_))
        · (repeat (first | refine v_reg ?_ | refine v_last ?_ | refine vwp_seq ?_ | refine vwp_block ?_ | refine vwp_skip ?_ | refine vwp_exit ?_ | refine vwp_ret ?_ | refine v_cond ?_ | simp only [vm, ite_true, ite_false, reduceIte, Nat.reduceEqDiff, Option.map, decide_eq_true_eq, decide_eq_false_iff_not, Bool.not_eq_true, decide_true, decide_false, Bool.not_true, Bool.not_false, Bool.false_eq_true, not_true_eq_false, not_false_eq_true, eq_self, and_true, true_and, g2, g8, g9, g10, g14, g15, g17] | refine And.intro (by omega) ?_))
          refine ⟨q - 1, by omega, q - 1, r + v1, ?_⟩
          have := hstep hd
          (repeat' apply And.intro) <;> first | rfl | omega | assumption
      · have := hend gq g3
        (repeat (first | refine v_reg ?_ | refine v_last ?_ | refine vwp_seq ?_ | refine vwp_block ?_ | refine vwp_skip ?_ | refine vwp_exit ?_ | refine vwp_ret ?_ | refine v_cond ?_ | simp only [vm, ite_true, ite_false, reduceIte, Nat.reduceEqDiff, Option.map, decide_eq_true_eq, decide_eq_false_iff_not, Bool.not_eq_true, decide_true, decide_false, Bool.not_true, Bool.not_false, Bool.false_eq_true, not_true_eq_false, not_false_eq_true, eq_self, and_true, true_and, g2, g8, g9, g10, g14, g15, g17, g18, this] | refine And.intro (by omega) ?_))
  rintro ⟨ρ3, σ, c5⟩ ⟨g2, g8, g14, g15, g17, g18, hσ, hc5⟩
  dsimp only at g2 g8 g14 g15 g17 g18 hσ hc5
  subst hσ hc5
  obtain ⟨hQT, hQT2⟩ := two_lt hQb hTb
  (repeat (first | refine v_reg ?_ | refine v_last ?_ | refine vwp_seq ?_ | refine vwp_block ?_ | refine vwp_skip ?_ | refine vwp_exit ?_ | refine vwp_ret ?_ | refine v_cond ?_ | simp only [vm, ite_true, ite_false, reduceIte, Nat.reduceEqDiff, Option.map, decide_eq_true_eq, decide_eq_false_iff_not, Bool.not_eq_true, decide_true, decide_false, Bool.not_true, Bool.not_false, Bool.false_eq_true, not_true_eq_false, not_false_eq_true, eq_self, and_true, true_and, g2, g8, g14, g15, g17, g18, hmin, hrest2, Nat.mod_eq_of_lt hQT2, Nat.mod_eq_of_lt hQT] | refine And.intro (by omega) ?_))
  rw [k1, k2, Nat.mul_div_cancel _ (Nat.two_pow_pos s)]
end Go.Proofs.Ytladcfeibpddeab
