/- Texts of a claim, merged: what they prove is told at the last one's head. -/
import Derived.Test.YtacodmnlnlbahabDoorNamM3
import Derived.KernelRfl
set_option linter.unusedSimpArgs false
set_option linter.unusedVariables false
set_option maxRecDepth 100000
set_option maxHeartbeats 4000000
namespace Go.Proofs.YtacodmnlnlbahabDoor
open Go.VM

theorem div64_spec (hi lo y c : Nat) (hlo : lo < 18446744073709551616) (hy : y < 18446744073709551616) (hiy : hi < y) : VSpec Tryd.prog F.bits_Div64 c [nv hi, nv lo, nv y] (fun r _ => r = .tup [nv ((hi * 18446744073709551616 + lo) / y), nv ((hi * 18446744073709551616 + lo) % y)]) := by
  refine spec_mk hm E.bits_Div64 B.bits_Div64 K.bits_Div64 Q.bits_Div64 (by rw [N.bits_Div64]; simp) ?_
  unfold C.bits_Div64 R.bits_Div64
  have y0 : 0 < y := by omega
  have e1 : ¬ y = 0 := by omega
  have e2 : ¬ y ≤ hi := by omega
  (repeat (first | refine v_reg ?_ | refine v_last ?_ | refine vwp_seq ?_ | refine vwp_block ?_ | refine vwp_skip ?_ | refine vwp_exit ?_ | refine vwp_ret ?_ | refine v_cond ?_ | simp only [vm, ite_true, ite_false, eq_self, reduceIte, Nat.reduceEqDiff, Option.map, e1, e2] | refine And.intro (by omega) ?_))
  refine ⟨fun g => ?_, fun g => ?_⟩
  · (repeat (first | refine v_reg ?_ | refine v_last ?_ | refine vwp_seq ?_ | refine vwp_block ?_ | refine vwp_skip ?_ | refine vwp_exit ?_ | refine vwp_ret ?_ | refine v_cond ?_ | simp only [vm, ite_true, ite_false, eq_self, reduceIte, Nat.reduceEqDiff, Option.map, e1] | refine And.intro (by omega) ?_))
    subst g
    rw [Nat.zero_mul, Nat.zero_add, Nat.mod_eq_of_lt (Nat.lt_of_le_of_lt (Nat.div_le_self _ _) hlo)]
  (repeat (first | refine v_reg ?_ | refine v_last ?_ | refine vwp_seq ?_ | refine vwp_block ?_ | refine vwp_skip ?_ | refine vwp_exit ?_ | refine vwp_ret ?_ | refine v_cond ?_ | simp only [vm, ite_true, ite_false, eq_self, reduceIte, Nat.reduceEqDiff, Option.map] | refine And.intro (by omega) ?_))
  refine s_call (lz64_spec y c hy) (by simp only [vm, ite_true, ite_false, eq_self, reduceIte, Nat.reduceEqDiff, Option.map, List.map]) ?_
  rintro v c2 hc2 rfl
  have hbl : bl y ≤ 64 := bl_le hy
  have hbp := bl_pos y0
  obtain ⟨hv64, hv63⟩ := norm_shift y0 hy
  have es : ((64 : Int) - (bl y : Int)).toNat = 64 - bl y := by omega
  simp only [vm, ite_true, ite_false, eq_self, reduceIte, Nat.reduceEqDiff, Option.map, es]
  refine ⟨by omega, ?_⟩
  obtain ⟨hor, hN⟩ := shift_two (hi := hi) (lo := lo) (s := 64 - bl y) (by omega) hlo
  have hH := shift_lt (y := y) (by omega) hN
  generalize hsd : 64 - bl y = s at *
  have hmin : min s 64 = s := by omega
  have hs64 : (64 + (18446744073709551616 - s % 18446744073709551616)) % 18446744073709551616 = 64 - s := by omega
  have hmin2 : min (64 - s) 64 = 64 - s := by omega
  have hhs : hi * 2 ^ s < 18446744073709551616 := by
    refine Nat.lt_trans (Nat.mul_lt_mul_of_pos_right hiy (Nat.two_pow_pos s)) hv64
  have hos : lo / 2 ^ (64 - s) < 18446744073709551616 := Nat.lt_of_le_of_lt (Nat.div_le_self _ _) hlo
  (repeat (first | refine v_reg ?_ | refine v_last ?_ | refine vwp_seq ?_ | refine vwp_block ?_ | refine vwp_skip ?_ | refine vwp_exit ?_ | refine vwp_ret ?_ | refine v_cond ?_)); simp only [vm, ite_true, ite_false, eq_self, reduceIte, Nat.reduceEqDiff, Option.map, hmin, Nat.mod_eq_of_lt hv64]
  have hvd : 0 < y * 2 ^ s := by omega
  have hlast : ((hi * 18446744073709551616 + lo) * 2 ^ s) / (y * 2 ^ s) = (hi * 18446744073709551616 + lo) / y := Nat.mul_div_mul_right _ _ (Nat.two_pow_pos s)
  have hlastr : ((hi * 18446744073709551616 + lo) * 2 ^ s) % (y * 2 ^ s) = (hi * 18446744073709551616 + lo) % y * 2 ^ s := Nat.mul_mod_mul_right _ _ _
  rw [hN] at hlast hlastr
  have hHp : hi * 2 ^ s + lo / 2 ^ (64 - s) < 18446744073709551616 := Nat.lt_trans hH hv64
  (repeat (first | refine v_reg ?_ | refine v_last ?_ | refine vwp_seq ?_ | refine vwp_block ?_ | refine vwp_skip ?_ | refine vwp_exit ?_ | refine vwp_ret ?_ | refine v_cond ?_ | simp only [vm, ite_true, ite_false, eq_self, reduceIte, Nat.reduceEqDiff, Option.map, hmin, u_or, hs64, hmin2, Nat.mod_eq_of_lt hhs, Nat.mod_eq_of_lt hos, or_shift hor] | refine And.intro (by omega) ?_))
  generalize hi * 2 ^ s + lo / 2 ^ (64 - s) = H at *
  have hL := Nat.mod_lt (lo * 2 ^ s) (show 0 < 18446744073709551616 by decide)
  generalize lo * 2 ^ s % 18446744073709551616 = L at *
  generalize y * 2 ^ s = v at *
  have hv : v = v / 4294967296 * 4294967296 + v % 4294967296 := by omega
  have h1 : 2147483648 ≤ v / 4294967296 := by omega
  have h0 : v % 4294967296 < 4294967296 := by omega
  have h1b : v / 4294967296 < 4294967296 := by omega
  generalize v / 4294967296 = v1 at *
  generalize v % 4294967296 = v0 at *
  obtain ⟨k1, k2⟩ := kd_two (h := H) (l := L) hvd hL
  have hd1 : L / 4294967296 < 4294967296 := by omega
  have hd0 : L % 4294967296 < 4294967296 := by omega
  obtain ⟨l1, hl1⟩ : ∃ l1, L / 4294967296 = l1 := ⟨_, rfl⟩
  obtain ⟨l0, hl0⟩ : ∃ l0, L % 4294967296 = l0 := ⟨_, rfl⟩
  rw [hl1, hl0]
  rw [hl1] at hd1
  rw [hl0] at hd0
  rw [hl1, hl0] at k1 k2
  rw [hlast] at k1
  rw [hlastr] at k2
  clear hlast hlastr hN hl1 hl0
  have hfirst := kd_first hv h1 h0 hH
  have hdm := Nat.div_add_mod H v1
  rw [Nat.mul_comm] at hdm
  have hrm := Nat.mod_lt H (show 0 < v1 by omega)
  have hq0 : H / v1 % 18446744073709551616 = H / v1 := Nat.mod_eq_of_lt (Nat.lt_of_le_of_lt hfirst (by decide))
  rw [hq0, sub_mod64 (p := H / v1 * v1) (n := H) (by omega) hHp]
  have hQb := kd_lt (b := 4294967296) (by decide) hd1 hH
  have hrest := kd_rest (q := (H * 4294967296 + l1) / v) rfl hv64 hvd
  have hQ0 := kd_up (b := 4294967296) (n := H) (by decide) hd1 hv (by omega)
  obtain ⟨Q, hQd⟩ : ∃ Q, Q = (H * 4294967296 + l1) / v := ⟨_, rfl⟩
  rw [← hQd] at hQb hrest hQ0
  refine v_loop (fun S => S.ρ 2 = nv v ∧ S.ρ 8 = nv s ∧ S.ρ 9 = nv v1 ∧ S.ρ 10 = nv v0 ∧ S.ρ 11 = nv H ∧ S.ρ 13 = nv (l1) ∧ S.ρ 14 = nv (l0) ∧ S.ρ 15 = nv Q ∧ S.σ = noBlk ∧ S.c = c2) ?_ ?_
  · refine vwp_loop (fun k S => ∃ q r, k = q ∧ q * v1 + r = H ∧ Q ≤ q ∧ r < 4294967296 ∧ q ≤ 4294967297 ∧ S.ρ 2 = nv v ∧ S.ρ 8 = nv s ∧ S.ρ 9 = nv v1 ∧ S.ρ 10 = nv v0 ∧ S.ρ 11 = nv H ∧ S.ρ 13 = nv (l1) ∧ S.ρ 14 = nv (l0) ∧ S.ρ 15 = nv q ∧ S.ρ 16 = nv r ∧ S.σ = noBlk ∧ S.c = c2) (H / v1) ?_ ?_
    · refine ⟨H / v1, H - H / v1 * v1, rfl, ?_⟩
      simp only [vm, ite_true, ite_false, eq_self, reduceIte, Nat.reduceEqDiff, Option.map]
      (repeat' apply And.intro) <;> first | rfl | omega | assumption
    rintro k ⟨ρ2, σ, c4⟩ ⟨q, r, hk, he, hQ, hr, hq, g2, g8, g9, g10, g11, g13, g14, g15, g16, hσ, hc4⟩
    dsimp only at g2 g8 g9 g10 g11 g13 g14 g15 g16 hσ hc4
    subst hσ hc4
    have hqv0 := kd_fit hq h0
    have hbr : 4294967296 * r < 18446744073709551616 := by omega
    have hbr2 : 4294967296 * r + l1 < 18446744073709551616 := by omega
    have hrv : r + v1 < 18446744073709551616 := by omega
    have hdec : 4294967296 ≤ q ∨ 4294967296 * r + l1 < q * v0 → Q < q := fun h => by
      have := kd_dec (by decide) hd1 hv (by omega) hH he h
      rw [← hQd] at this
      exact this
    have hend : ¬ 4294967296 ≤ q → ¬ 4294967296 * r + l1 < q * v0 → q = Q := fun h h' => by
      have := kd_le (u := l1) (b := 4294967296) (v0 := v0) (by decide) hv (by omega) he (by omega)
      rw [← hQd] at this
      omega
    have hnext : Q < q → 4294967296 ≤ r + v1 → q - 1 = Q := fun h h' => by
      have := kd_big (u := l1) (by decide) hv (by omega) h0 (kd_next (by omega) he) (by omega) h'
      rw [← hQd] at this
      omega
    have hstep : Q < q → (q - 1) * v1 + (r + v1) = H := fun h => kd_next (by omega) he
    by_cases gq : 4294967296 ≤ q
    · have hd := hdec (.inl gq)
      (repeat (first | refine v_reg ?_ | refine v_last ?_ | refine vwp_seq ?_ | refine vwp_block ?_ | refine vwp_skip ?_ | refine vwp_exit ?_ | refine vwp_ret ?_ | refine v_cond ?_ | simp only [vm, ite_true, ite_false, eq_self, reduceIte, Nat.reduceEqDiff, Option.map, g2, g8, g9, g10, g11, g13, g14, g15, g16, gq, dec_mod64 (show 0 < q by omega) (by omega), Nat.mod_eq_of_lt hrv] | refine And.intro (by omega) ?_))
      refine ⟨fun gr => ?_, fun gr => ?_⟩
      · have := hnext hd gr
        (repeat (first | refine v_reg ?_ | refine v_last ?_ | refine vwp_seq ?_ | refine vwp_block ?_ | refine vwp_skip ?_ | refine vwp_exit ?_ | refine vwp_ret ?_ | refine v_cond ?_ | simp only [vm, ite_true, ite_false, eq_self, reduceIte, Nat.reduceEqDiff, Option.map, g2, g8, g9, g10, g11, g13, g14, this] | refine And.intro (by omega) ?_))
      · (repeat (first | refine v_reg ?_ | refine v_last ?_ | refine vwp_seq ?_ | refine vwp_block ?_ | refine vwp_skip ?_ | refine vwp_exit ?_ | refine vwp_ret ?_ | refine v_cond ?_ | simp only [vm, ite_true, ite_false, eq_self, reduceIte, Nat.reduceEqDiff, Option.map, g2, g8, g9, g10, g11, g13, g14] | refine And.intro (by omega) ?_))

        refine ⟨q - 1, by omega, q - 1, r + v1, ?_⟩
        have := hstep hd
        (repeat' apply And.intro) <;> first | rfl | omega | assumption
    · (repeat (first | refine v_reg ?_ | refine v_last ?_ | refine vwp_seq ?_ | refine vwp_block ?_ | refine vwp_skip ?_ | refine vwp_exit ?_ | refine vwp_ret ?_ | refine v_cond ?_ | simp only [vm, ite_true, ite_false, eq_self, reduceIte, Nat.reduceEqDiff, Option.map, g2, g8, g9, g10, g11, g13, g14, g15, g16, gq, Nat.mod_eq_of_lt hqv0, Nat.mod_eq_of_lt hbr, Nat.mod_eq_of_lt hbr2] | refine And.intro (by omega) ?_))
      refine ⟨fun g3 => ?_, fun g3 => ?_⟩
      · have hd := hdec (.inr g3)
        (repeat (first | refine v_reg ?_ | refine v_last ?_ | refine vwp_seq ?_ | refine vwp_block ?_ | refine vwp_skip ?_ | refine vwp_exit ?_ | refine vwp_ret ?_ | refine v_cond ?_ | simp only [vm, ite_true, ite_false, eq_self, reduceIte, Nat.reduceEqDiff, Option.map, g2, g8, g9, g10, g11, g13, g14, g15, g16, gq, dec_mod64 (show 0 < q by omega) (by omega), Nat.mod_eq_of_lt hrv] | refine And.intro (by omega) ?_))
        refine ⟨fun gr => ?_, fun gr => ?_⟩
        · have := hnext hd gr
          (repeat (first | refine v_reg ?_ | refine v_last ?_ | refine vwp_seq ?_ | refine vwp_block ?_ | refine vwp_skip ?_ | refine vwp_exit ?_ | refine vwp_ret ?_ | refine v_cond ?_ | simp only [vm, ite_true, ite_false, eq_self, reduceIte, Nat.reduceEqDiff, Option.map, g2, g8, g9, g10, g11, g13, g14, this] | refine And.intro (by omega) ?_))
        · (repeat (first | refine v_reg ?_ | refine v_last ?_ | refine vwp_seq ?_ | refine vwp_block ?_ | refine vwp_skip ?_ | refine vwp_exit ?_ | refine vwp_ret ?_ | refine v_cond ?_ | simp only [vm, ite_true, ite_false, eq_self, reduceIte, Nat.reduceEqDiff, Option.map, g2, g8, g9, g10, g11, g13, g14] | refine And.intro (by omega) ?_))
          refine ⟨q - 1, by omega, q - 1, r + v1, ?_⟩
          have := hstep hd
          (repeat' apply And.intro) <;> first | rfl | omega | assumption
      · have := hend gq g3
        (repeat (first | refine v_reg ?_ | refine v_last ?_ | refine vwp_seq ?_ | refine vwp_block ?_ | refine vwp_skip ?_ | refine vwp_exit ?_ | refine vwp_ret ?_ | refine v_cond ?_ | simp only [vm, ite_true, ite_false, eq_self, reduceIte, Nat.reduceEqDiff, Option.map, g2, g8, g9, g10, g11, g13, g14, g15, this] | refine And.intro (by omega) ?_))
  rintro ⟨ρ2, σ, c4⟩ ⟨g2, g8, g9, g10, g11, g13, g14, g15, hσ, hc4⟩
  dsimp only at g2 g8 g9 g10 g11 g13 g14 g15 hσ hc4
  subst hσ hc4
  rw [← hQd] at k1
  have hR := Nat.mod_lt (H * 4294967296 + l1) hvd
  obtain ⟨R, hRd⟩ : ∃ R, R = (H * 4294967296 + l1) % v := ⟨_, rfl⟩
  rw [← hRd] at hrest k1 k2 hR
  (repeat (first | refine v_reg ?_ | refine v_last ?_ | refine vwp_seq ?_ | refine vwp_block ?_ | refine vwp_skip ?_ | refine vwp_exit ?_ | refine vwp_ret ?_ | refine v_cond ?_)); simp only [vm, ite_true, ite_false, eq_self, reduceIte, Nat.reduceEqDiff, Option.map, g2, g8, g9, g10, g11, g13, g14, g15, hrest]
  have hRp : R < 18446744073709551616 := Nat.lt_trans hR hv64
  have hfirst := kd_first hv h1 h0 hR
  have hdm := Nat.div_add_mod R v1
  rw [Nat.mul_comm] at hdm
  have hrm := Nat.mod_lt R (show 0 < v1 by omega)
  have hq0 : R / v1 % 18446744073709551616 = R / v1 := Nat.mod_eq_of_lt (Nat.lt_of_le_of_lt hfirst (by decide))
  have hne : ¬ v1 = 0 := by omega
  (repeat (first | refine v_reg ?_ | refine v_last ?_ | refine vwp_seq ?_ | refine vwp_block ?_ | refine vwp_skip ?_ | refine vwp_exit ?_ | refine vwp_ret ?_ | refine v_cond ?_ | simp only [vm, ite_true, ite_false, eq_self, reduceIte, Nat.reduceEqDiff, Option.map, g2, g8, g9, g10, g11, g13, g14, g15, ne_eq, hne, hq0, sub_mod64 (p := R / v1 * v1) (n := R) (by omega) hRp] | refine And.intro (by omega) ?_))
  have hTb := kd_lt (b := 4294967296) (by decide) hd0 hR
  have hrest2 := kd_rest (q := (R * 4294967296 + l0) / v) rfl hv64 hvd
  have hT0 := kd_up (b := 4294967296) (n := R) (by decide) hd0 hv (by omega)
  obtain ⟨T, hTd⟩ : ∃ T, T = (R * 4294967296 + l0) / v := ⟨_, rfl⟩
  rw [← hTd] at hTb hrest2 hT0 k1
  refine v_loop (fun S => S.ρ 2 = nv v ∧ S.ρ 8 = nv s ∧ S.ρ 14 = nv (l0) ∧ S.ρ 15 = nv Q ∧ S.ρ 17 = nv R ∧ S.ρ 18 = nv T ∧ S.σ = noBlk ∧ S.c = c4) ?_ ?_
  · refine vwp_loop (fun k S => ∃ q r, k = q ∧ q * v1 + r = R ∧ T ≤ q ∧ r < 4294967296 ∧ q ≤ 4294967297 ∧ S.ρ 2 = nv v ∧ S.ρ 8 = nv s ∧ S.ρ 9 = nv v1 ∧ S.ρ 10 = nv v0 ∧ S.ρ 14 = nv (l0) ∧ S.ρ 15 = nv Q ∧ S.ρ 17 = nv R ∧ S.ρ 18 = nv q ∧ S.ρ 16 = nv r ∧ S.σ = noBlk ∧ S.c = c4) (R / v1) ?_ ?_
    · refine ⟨R / v1, R - R / v1 * v1, rfl, ?_⟩
      simp only [vm, ite_true, ite_false, eq_self, reduceIte, Nat.reduceEqDiff, Option.map, g2, g8, g9, g10, g14, g15]
      (repeat' apply And.intro) <;> first | rfl | omega | assumption
    rintro k ⟨ρ3, σ, c5⟩ ⟨q, r, hk, he, hQ, hr, hq, g2, g8, g9, g10, g14, g15, g17, g18, g16, hσ, hc5⟩
    dsimp only at g2 g8 g9 g10 g14 g15 g17 g18 g16 hσ hc5
    subst hσ hc5
    have hqv0 := kd_fit hq h0
    have hbr : 4294967296 * r < 18446744073709551616 := by omega
    have hbr2 : 4294967296 * r + l0 < 18446744073709551616 := by omega
    have hrv : r + v1 < 18446744073709551616 := by omega
    have hdec : 4294967296 ≤ q ∨ 4294967296 * r + l0 < q * v0 → T < q := fun h => by
      have := kd_dec (by decide) hd0 hv (by omega) hR he h
      rw [← hTd] at this
      exact this
    have hend : ¬ 4294967296 ≤ q → ¬ 4294967296 * r + l0 < q * v0 → q = T := fun h h' => by
      have := kd_le (u := l0) (b := 4294967296) (v0 := v0) (by decide) hv (by omega) he (by omega)
      rw [← hTd] at this
      omega
    have hnext : T < q → 4294967296 ≤ r + v1 → q - 1 = T := fun h h' => by
      have := kd_big (u := l0) (by decide) hv (by omega) h0 (kd_next (by omega) he) (by omega) h'
      rw [← hTd] at this
      omega
    have hstep : T < q → (q - 1) * v1 + (r + v1) = R := fun h => kd_next (by omega) he
    by_cases gq : 4294967296 ≤ q
    · have hd := hdec (.inl gq)
      (repeat (first | refine v_reg ?_ | refine v_last ?_ | refine vwp_seq ?_ | refine vwp_block ?_ | refine vwp_skip ?_ | refine vwp_exit ?_ | refine vwp_ret ?_ | refine v_cond ?_ | simp only [vm, ite_true, ite_false, eq_self, reduceIte, Nat.reduceEqDiff, Option.map, g2, g8, g9, g10, g14, g15, g17, g18, g16, gq, dec_mod64 (show 0 < q by omega) (by omega), Nat.mod_eq_of_lt hrv] | refine And.intro (by omega) ?_))
      refine ⟨fun gr => ?_, fun gr => ?_⟩
      · have := hnext hd gr
        (repeat (first | refine v_reg ?_ | refine v_last ?_ | refine vwp_seq ?_ | refine vwp_block ?_ | refine vwp_skip ?_ | refine vwp_exit ?_ | refine vwp_ret ?_ | refine v_cond ?_ | simp only [vm, ite_true, ite_false, eq_self, reduceIte, Nat.reduceEqDiff, Option.map, g2, g8, g9, g10, g14, g15, g17, this] | refine And.intro (by omega) ?_))
      · (repeat (first | refine v_reg ?_ | refine v_last ?_ | refine vwp_seq ?_ | refine vwp_block ?_ | refine vwp_skip ?_ | refine vwp_exit ?_ | refine vwp_ret ?_ | refine v_cond ?_ | simp only [vm, ite_true, ite_false, eq_self, reduceIte, Nat.reduceEqDiff, Option.map, g2, g8, g9, g10, g14, g15, g17] | refine And.intro (by omega) ?_))
        refine ⟨q - 1, by omega, q - 1, r + v1, ?_⟩
        have := hstep hd
        (repeat' apply And.intro) <;> first | rfl | omega | assumption
    · (repeat (first | refine v_reg ?_ | refine v_last ?_ | refine vwp_seq ?_ | refine vwp_block ?_ | refine vwp_skip ?_ | refine vwp_exit ?_ | refine vwp_ret ?_ | refine v_cond ?_ | simp only [vm, ite_true, ite_false, eq_self, reduceIte, Nat.reduceEqDiff, Option.map, g2, g8, g9, g10, g14, g15, g17, g18, g16, gq, Nat.mod_eq_of_lt hqv0, Nat.mod_eq_of_lt hbr, Nat.mod_eq_of_lt hbr2] | refine And.intro (by omega) ?_))
      refine ⟨fun g3 => ?_, fun g3 => ?_⟩
      · have hd := hdec (.inr g3)
        (repeat (first | refine v_reg ?_ | refine v_last ?_ | refine vwp_seq ?_ | refine vwp_block ?_ | refine vwp_skip ?_ | refine vwp_exit ?_ | refine vwp_ret ?_ | refine v_cond ?_ | simp only [vm, ite_true, ite_false, eq_self, reduceIte, Nat.reduceEqDiff, Option.map, g2, g8, g9, g10, g14, g15, g17, g18, g16, gq, dec_mod64 (show 0 < q by omega) (by omega), Nat.mod_eq_of_lt hrv] | refine And.intro (by omega) ?_))
        refine ⟨fun gr => ?_, fun gr => ?_⟩
        · have := hnext hd gr
          (repeat (first | refine v_reg ?_ | refine v_last ?_ | refine vwp_seq ?_ | refine vwp_block ?_ | refine vwp_skip ?_ | refine vwp_exit ?_ | refine vwp_ret ?_ | refine v_cond ?_ | simp only [vm, ite_true, ite_false, eq_self, reduceIte, Nat.reduceEqDiff, Option.map, g2, g8, g9, g10, g14, g15, g17, this] | refine And.intro (by omega) ?_))
        · (repeat (first | refine v_reg ?_ | refine v_last ?_ | refine vwp_seq ?_ | refine vwp_block ?_ | refine vwp_skip ?_ | refine vwp_exit ?_ | refine vwp_ret ?_ | refine v_cond ?_ | simp only [vm, ite_true, ite_false, eq_self, reduceIte, Nat.reduceEqDiff, Option.map, g2, g8, g9, g10, g14, g15, g17] | refine And.intro (by omega) ?_))
          refine ⟨q - 1, by omega, q - 1, r + v1, ?_⟩
          have := hstep hd
          (repeat' apply And.intro) <;> first | rfl | omega | assumption
      · have := hend gq g3
        (repeat (first | refine v_reg ?_ | refine v_last ?_ | refine vwp_seq ?_ | refine vwp_block ?_ | refine vwp_skip ?_ | refine vwp_exit ?_ | refine vwp_ret ?_ | refine v_cond ?_ | simp only [vm, ite_true, ite_false, eq_self, reduceIte, Nat.reduceEqDiff, Option.map, g2, g8, g9, g10, g14, g15, g17, g18, this] | refine And.intro (by omega) ?_))
  rintro ⟨ρ3, σ, c5⟩ ⟨g2, g8, g14, g15, g17, g18, hσ, hc5⟩
  dsimp only at g2 g8 g14 g15 g17 g18 hσ hc5
  subst hσ hc5
  obtain ⟨hQT, hQT2⟩ := two_lt hQb hTb
  (repeat (first | refine v_reg ?_ | refine v_last ?_ | refine vwp_seq ?_ | refine vwp_block ?_ | refine vwp_skip ?_ | refine vwp_exit ?_ | refine vwp_ret ?_ | refine v_cond ?_ | simp only [vm, ite_true, ite_false, eq_self, reduceIte, Nat.reduceEqDiff, Option.map, g2, g8, g14, g15, g17, g18, hmin, hrest2, Nat.mod_eq_of_lt hQT2, Nat.mod_eq_of_lt hQT] | refine And.intro (by omega) ?_))
  rw [k1, k2, Nat.mul_div_cancel _ (Nat.two_pow_pos s)]
end Go.Proofs.YtacodmnlnlbahabDoor
set_option linter.unusedSimpArgs false
set_option linter.unusedVariables false
set_option maxRecDepth 100000
set_option maxHeartbeats 4000000
namespace Go.Proofs.YtacodmnlnlbahabDoor
open Go.VM

theorem through_spec (t : Tok) (a : List Nat) (d c : Nat) (ha : Lim 18446744073709551616 a) (hd : d < 18446744073709551616) (hna : a.length ≤ 1099511627776) :
    VSpec Tryd.prog F.nat_Through c [nats t a, nv d] (fun r c' => (d = 0 → r = .tup [nil1, nv 0, iv 1]) ∧ (0 < d → bl (val 18446744073709551616 a / d) ≤ 67108864 → ∃ t, r = .tup [nats t (digs 18446744073709551616 (val 18446744073709551616 a / d)), nv (val 18446744073709551616 a % d), iv 0] ∧ Tk c c' t) ∧ (0 < d → 67108864 < bl (val 18446744073709551616 a / d) → r = .tup [nil1, nv 0, iv 3])) := by
  refine spec_mk hm E.nat_Through B.nat_Through K.nat_Through Q.nat_Through (by rw [N.nat_Through]; simp) ?_
  unfold C.nat_Through R.nat_Through
  have hla := digs_len_le two64 ha
  by_cases hd0 : d = 0
  · (repeat (first | refine v_reg ?_ | refine v_last ?_ | refine vwp_seq ?_ | refine vwp_block ?_ | refine vwp_skip ?_ | refine vwp_exit ?_ | refine vwp_ret ?_ | refine v_cond ?_ | simp only [vm, ite_true, ite_false, eq_self, reduceIte, Nat.reduceEqDiff, Option.map, hd0] | refine And.intro (by omega) ?_))
    exact ⟨fun _ => trivial, fun h => absurd h (by omega), fun h => absurd h (by omega)⟩
  (repeat (first | refine v_reg ?_ | refine v_last ?_ | refine vwp_seq ?_ | refine vwp_block ?_ | refine vwp_skip ?_ | refine vwp_exit ?_ | refine vwp_ret ?_ | refine v_cond ?_ | simp only [vm, ite_true, ite_false, eq_self, reduceIte, Nat.reduceEqDiff, Option.map, hd0] | refine And.intro (by omega) ?_))
  refine s_call (trim_spec t a c ha (by omega)) (by simp only [vm, ite_true, ite_false, eq_self, reduceIte, Nat.reduceEqDiff, Option.map, List.map]) ?_
  rintro v c2 hc2 rfl
  have hx := lim_digs two64 (val 18446744073709551616 a)
  have va := val_digs two64 (val 18446744073709551616 a)
  generalize digs 18446744073709551616 (val 18446744073709551616 a) = x at *
  (repeat (first | refine v_reg ?_ | refine v_last ?_ | refine vwp_seq ?_ | refine vwp_block ?_ | refine vwp_skip ?_ | refine vwp_exit ?_ | refine vwp_ret ?_ | refine v_cond ?_ | simp only [vm, ite_true, ite_false, eq_self, reduceIte, Nat.reduceEqDiff, Option.map] | refine And.intro (by omega) ?_))
  refine s_mk (n := x.length) (m := x.length) (by simp only [vm, ite_true, ite_false, eq_self, reduceIte, Nat.reduceEqDiff, Option.map]) (by simp only [vm, ite_true, ite_false, eq_self, reduceIte, Nat.reduceEqDiff, Option.map]) (Nat.le_refl _) (by omega) ?_
  (repeat (first | refine v_reg ?_ | refine v_last ?_ | refine vwp_seq ?_ | refine vwp_block ?_ | refine vwp_skip ?_ | refine vwp_exit ?_ | refine vwp_ret ?_ | refine v_cond ?_ | simp only [vm, ite_true, ite_false, eq_self, reduceIte, Nat.reduceEqDiff, Option.map] | refine And.intro (by omega) ?_))
  refine v_loop (fun S => ∃ w, w.length = x.length ∧ Lim 18446744073709551616 w ∧ val 18446744073709551616 w = val 18446744073709551616 x / d ∧ S.ρ 7 = .buf c2 0 x.length (some x.length) 1 ∧ S.ρ 8 = nv (val 18446744073709551616 x % d) ∧ S.σ = supd noBlk c2 (nblk w) ∧ c2 + 1 ≤ S.c) ?_ ?_
  · refine vwp_loop (fun k S => ∃ w rest, k ≤ x.length ∧ w.length = x.length - k ∧ Lim 18446744073709551616 w ∧ val 18446744073709551616 w * d + rest = val 18446744073709551616 (x.drop k) ∧ rest < d ∧ S.ρ 0 = nats t x ∧ S.ρ 1 = nv d ∧ S.ρ 7 = .buf c2 0 x.length (some x.length) 1 ∧ S.ρ 8 = nv rest ∧ S.ρ 9 = iv ((k : Int) - 1) ∧ S.σ = supd noBlk c2 (nblk (List.replicate k 0 ++ w)) ∧ c2 + 1 ≤ S.c) x.length ?_ ?_
    · refine ⟨[], 0, Nat.le_refl _, ?_⟩
      simp only [vm, ite_true, ite_false, eq_self, reduceIte, Nat.reduceEqDiff, Option.map, List.drop_length]
      (repeat' apply And.intro) <;> first | rfl | omega | assumption | exact Lim.nil | (simp [val]; done)
    rintro k ⟨ρ2, σ, c4⟩ ⟨w, rest, hk, hw, hlw, hinv, hr, h0, h1, h7, h8, h9, hσ, hc4⟩
    dsimp only at h0 h1 h7 h8 h9 hσ hc4
    subst hσ
    rcases Nat.eq_zero_or_pos k with rfl | hkp
    · have g : ¬ (0 : Int) ≤ ((0 : Nat) : Int) - 1 := by omega
      (repeat (first | refine v_reg ?_ | refine v_last ?_ | refine vwp_seq ?_ | refine vwp_block ?_ | refine vwp_skip ?_ | refine vwp_exit ?_ | refine vwp_ret ?_ | refine v_cond ?_ | simp only [vm, ite_true, ite_false, eq_self, reduceIte, Nat.reduceEqDiff, Option.map, h9, g] | refine And.intro (by omega) ?_))
      obtain ⟨e1, e2⟩ := div_mod_of hinv hr
      rw [List.drop_zero] at e1 e2
      refine ⟨w, ?_⟩
      rw [e1, e2]
      (repeat' apply And.intro) <;> first | rfl | omega | assumption
    · obtain ⟨i, rfl⟩ : ∃ i, k = i + 1 := ⟨k - 1, by omega⟩
      have e1 : (((i + 1 : Nat) : Int) - 1).toNat = i := by omega
      have g : (0 : Int) ≤ ((i + 1 : Nat) : Int) - 1 := by omega
      have hset : ∀ v, (List.replicate (i + 1) 0 ++ w).set i v = List.replicate i 0 ++ (v :: w) := fun v => set_top w i v
      have hlen : (List.replicate (i + 1) 0 ++ w).length = x.length := by simp; omega
      have hxi := hx.getD (i := i) (by decide)
      have hq := dig_lt hr hxi
      have hdm := Nat.div_add_mod (rest * 18446744073709551616 + x.getD i 0) d
      have hrm := Nat.mod_lt (rest * 18446744073709551616 + x.getD i 0) (show 0 < d by omega)
      obtain ⟨q, hqd⟩ : ∃ q, q = (rest * 18446744073709551616 + x.getD i 0) / d := ⟨_, rfl⟩
      obtain ⟨r, hrd⟩ : ∃ r, r = (rest * 18446744073709551616 + x.getD i 0) % d := ⟨_, rfl⟩
      rw [← hqd, ← hrd, Nat.mul_comm] at hdm
      rw [← hqd] at hq
      rw [← hrd] at hrm
      have key := thr_step hinv hdm
      rw [← val_drop (l := x) (i := i) (by omega)] at key
      (repeat (first | refine v_reg ?_ | refine v_last ?_ | refine vwp_seq ?_ | refine vwp_block ?_ | refine vwp_skip ?_ | refine vwp_exit ?_ | refine vwp_ret ?_ | refine v_cond ?_ | simp only [vm, ite_true, ite_false, eq_self, reduceIte, Nat.reduceEqDiff, Option.map, h0, h1, h7, h8, h9, g, e1] | refine And.intro (by omega) ?_))
      refine s_call (div64_spec rest (x.getD i 0) d c4 hxi hd hr) (by simp only [vm, ite_true, ite_false, eq_self, reduceIte, Nat.reduceEqDiff, Option.map, List.map, h0, h1, h7, h8, h9]) ?_
      rintro v c5 hc5 rfl
      rw [← hqd, ← hrd]
      (repeat (first | refine v_reg ?_ | refine v_last ?_ | refine vwp_seq ?_ | refine vwp_block ?_ | refine vwp_skip ?_ | refine vwp_exit ?_ | refine vwp_ret ?_ | refine v_cond ?_ | simp only [vm, ite_true, ite_false, eq_self, reduceIte, Nat.reduceEqDiff, Option.map, h0, h1, h7, h8, h9, hset, hlen, e1] | refine And.intro (by omega) ?_))
      refine ⟨i, by omega, q :: w, r, ?_⟩
      simp only [vm, ite_true, ite_false, eq_self, reduceIte, Nat.reduceEqDiff, Option.map, hset, e1]
      (repeat' apply And.intro) <;> first | rfl | omega | assumption | (simp [hw]; omega) | (simp only [e1, hset]; done) | exact Lim.cons hq hlw | exact key | exact congrArg iv (by omega)
  rintro ⟨ρ3, σ, c5⟩ ⟨w, hw, hlw, hvw, h7, h8, hσ, hc5⟩
  dsimp only at h7 h8 hσ hc5
  subst hσ
  refine v_freeze 7 (t := c2) (off := 0) (n := x.length) (cap := some x.length) (l := w) (by simp only [vm, ite_true, ite_false, eq_self, reduceIte, Nat.reduceEqDiff, Option.map, h7]) (by simp only [vm, ite_true, ite_false, eq_self, reduceIte, Nat.reduceEqDiff, Option.map]) (by omega) (by omega) ?_
  rw [List.drop_zero, show w.take x.length = w from List.take_of_length_le (by omega)]
  (repeat (first | refine v_reg ?_ | refine v_last ?_ | refine vwp_seq ?_ | refine vwp_block ?_ | refine vwp_skip ?_ | refine vwp_exit ?_ | refine vwp_ret ?_ | refine v_cond ?_ | simp only [vm, ite_true, ite_false, eq_self, reduceIte, Nat.reduceEqDiff, Option.map, h8] | refine And.intro (by omega) ?_))
  refine s_call (told_spec (.id c2) w c5 hlw (by omega)) (by simp only [vm, ite_true, ite_false, eq_self, reduceIte, Nat.reduceEqDiff, Option.map, List.map]) ?_
  rintro v c6 hc6 rfl
  rw [hvw, va]
  rw [va] at h8
  by_cases gb : bl (val 18446744073709551616 a / d) ≤ 67108864
  · rw [if_pos gb]
    (repeat (first | refine v_reg ?_ | refine v_last ?_ | refine vwp_seq ?_ | refine vwp_block ?_ | refine vwp_skip ?_ | refine vwp_exit ?_ | refine vwp_ret ?_ | refine v_cond ?_ | simp only [vm, ite_true, ite_false, eq_self, reduceIte, Nat.reduceEqDiff, Option.map, h8] | refine And.intro (by omega) ?_))
    exact ⟨fun h => h.elim, fun _ _ => ⟨_, rfl, .inr ⟨c2, rfl, by omega, by omega⟩⟩, fun _ h => absurd h (by omega)⟩
  · have g3 : ¬ (3 : Int) = 0 := by omega
    rw [if_neg gb]
    (repeat (first | refine v_reg ?_ | refine v_last ?_ | refine vwp_seq ?_ | refine vwp_block ?_ | refine vwp_skip ?_ | refine vwp_exit ?_ | refine vwp_ret ?_ | refine v_cond ?_ | simp only [vm, ite_true, ite_false, eq_self, reduceIte, Nat.reduceEqDiff, Option.map, h8, g3] | refine And.intro (by omega) ?_))
    exact ⟨fun h => h.elim, fun _ h => absurd h gb, fun _ _ => trivial⟩
end Go.Proofs.YtacodmnlnlbahabDoor
set_option linter.unusedSimpArgs false
set_option linter.unusedVariables false
set_option maxRecDepth 100000
set_option maxHeartbeats 4000000
namespace Go.Proofs.YtacodmnlnlbahabDoor
open Go.VM

theorem left_spec (t : Tok) (a : List Nat) (n c : Nat) (ha : Lim 18446744073709551616 a) (hn : n ≤ 1099511627776) (hna : a.length ≤ 1099511627776) :
    VSpec Tryd.prog F.nat_Left c [nats t a, iv n] (fun r c' => Told c c' (val 18446744073709551616 a * 2 ^ n) r) := by
  refine spec_mk hm E.nat_Left B.nat_Left K.nat_Left Q.nat_Left (by rw [N.nat_Left]; simp) ?_
  unfold C.nat_Left R.nat_Left
  have hla := digs_len_le two64 ha
  have g1 : ¬ (n : Int) < 0 := by omega
  have g2 : ¬ (1099511627776 : Int) < n := by omega
  (repeat (first | refine v_reg ?_ | refine v_last ?_ | refine vwp_seq ?_ | refine vwp_block ?_ | refine vwp_skip ?_ | refine vwp_exit ?_ | refine vwp_ret ?_ | refine v_cond ?_ | simp only [vm, ite_true, ite_false, eq_self, reduceIte, Nat.reduceEqDiff, Option.map, g1, g2] | refine And.intro (by omega) ?_))
  refine s_call (trim_spec t a c ha (by omega)) (by simp only [vm, ite_true, ite_false, eq_self, reduceIte, Nat.reduceEqDiff, Option.map, List.map]) ?_
  rintro v c2 hc2 rfl
  have hx := lim_digs two64 (val 18446744073709551616 a)
  have va := val_digs two64 (val 18446744073709551616 a)
  have hz := digs_eq_nil two64 (n := val 18446744073709551616 a)
  generalize digs 18446744073709551616 (val 18446744073709551616 a) = x at *
  by_cases hx0 : x = []
  · have g3 : (x.length : Int) = 0 := by rw [hx0]; rfl
    (repeat (first | refine v_reg ?_ | refine v_last ?_ | refine vwp_seq ?_ | refine vwp_block ?_ | refine vwp_skip ?_ | refine vwp_exit ?_ | refine vwp_ret ?_ | refine v_cond ?_ | simp only [vm, ite_true, ite_false, eq_self, reduceIte, Nat.reduceEqDiff, Option.map, g1, g2, g3] | refine And.intro (by omega) ?_))
    have := hz.1 hx0
    rw [this, Nat.zero_mul]
    exact .inl ⟨by decide, .nil, rfl, .inl rfl⟩
  have hpos : 0 < val 18446744073709551616 a := by
    rcases Nat.eq_zero_or_pos (val 18446744073709551616 a) with h | h
    · exact absurd (hz.2 h) hx0
    · exact h
  have hxl : 0 < x.length := List.length_pos_iff.2 hx0
  have g3 : ¬ (x.length : Int) = 0 := by omega
  (repeat (first | refine v_reg ?_ | refine v_last ?_ | refine vwp_seq ?_ | refine vwp_block ?_ | refine vwp_skip ?_ | refine vwp_exit ?_ | refine vwp_ret ?_ | refine v_cond ?_ | simp only [vm, ite_true, ite_false, eq_self, reduceIte, Nat.reduceEqDiff, Option.map, g1, g2, g3] | refine And.intro (by omega) ?_))
  refine s_call (length_spec t x c2 hx (by omega)) (by simp only [vm, ite_true, ite_false, eq_self, reduceIte, Nat.reduceEqDiff, Option.map, List.map]) ?_
  rintro v c3 hc3 rfl
  rw [va]
  have hbl : bl (val 18446744073709551616 a) ≤ 64 * x.length := by
    refine bl_le ?_
    have := val_lt hx
    rw [va, pow64] at this
    exact this
  have hmul := bl_mul_pow (n := n) hpos
  by_cases g4 : (67108864 : Int) < (bl (val 18446744073709551616 a) : Int) + n
  · (repeat (first | refine v_reg ?_ | refine v_last ?_ | refine vwp_seq ?_ | refine vwp_block ?_ | refine vwp_skip ?_ | refine vwp_exit ?_ | refine vwp_ret ?_ | refine v_cond ?_ | simp only [vm, ite_true, ite_false, eq_self, reduceIte, Nat.reduceEqDiff, Option.map, g4] | refine And.intro (by omega) ?_))
    exact .inr ⟨by omega, rfl⟩
  have hns : ((n : Int) % 64).toNat = n % 64 := by omega
  have hnw : (n : Int) / 64 = ((n / 64 : Nat) : Int) := by omega
  (repeat (first | refine v_reg ?_ | refine v_last ?_ | refine vwp_seq ?_ | refine vwp_block ?_ | refine vwp_skip ?_ | refine vwp_exit ?_ | refine vwp_ret ?_ | refine v_cond ?_ | simp only [vm, ite_true, ite_false, eq_self, reduceIte, Nat.reduceEqDiff, Option.map, g4, hns, hnw] | refine And.intro (by omega) ?_))
  refine s_mk (n := n / 64 + x.length + 1) (m := n / 64 + x.length + 1) (by simp only [vm, ite_true, ite_false, eq_self, reduceIte, Nat.reduceEqDiff, Option.map]; rfl) (by simp only [vm, ite_true, ite_false, eq_self, reduceIte, Nat.reduceEqDiff, Option.map]; rfl) (Nat.le_refl _) (by omega) ?_
  have hs : n % 64 < 64 := Nat.mod_lt _ (by decide)
  have hpow : val 18446744073709551616 x * 2 ^ n = 18446744073709551616 ^ (n / 64) * (val 18446744073709551616 x * 2 ^ (n % 64)) := by
    rw [pow64, Nat.mul_left_comm, ← Nat.pow_add, show 64 * (n / 64) + n % 64 = n by omega]
  generalize n / 64 = wd at *
  generalize n % 64 = s at *
  (repeat (first | refine v_reg ?_ | refine v_last ?_ | refine vwp_seq ?_ | refine vwp_block ?_ | refine vwp_skip ?_ | refine vwp_exit ?_ | refine vwp_ret ?_ | refine v_cond ?_ | simp only [vm, ite_true, ite_false, eq_self, reduceIte, Nat.reduceEqDiff, Option.map] | refine And.intro (by omega) ?_))
  refine v_loop (fun S => ∃ w, w.length = wd + x.length + 1 ∧ Lim 18446744073709551616 w ∧ val 18446744073709551616 w = val 18446744073709551616 x * 2 ^ n ∧ S.ρ 8 = .buf c3 0 (wd + x.length + 1) (some (wd + x.length + 1)) 1 ∧ S.σ = supd noBlk c3 (nblk w) ∧ c3 + 1 ≤ S.c) ?_ ?_
  · refine vwp_loop (fun k S => ∃ i w top, k = x.length - i ∧ i ≤ x.length ∧ w.length = i ∧ Lim 18446744073709551616 w ∧ top < 2 ^ s ∧ val 18446744073709551616 (w ++ [top]) = val 18446744073709551616 (x.take i) * 2 ^ s ∧ S.ρ 38 = nats t x ∧ S.ρ 6 = iv wd ∧ S.ρ 7 = nv s ∧ S.ρ 39 = iv x.length ∧ S.ρ 40 = iv i ∧ S.ρ 8 = .buf c3 0 (wd + x.length + 1) (some (wd + x.length + 1)) 1 ∧ S.σ = supd noBlk c3 (nblk ((List.replicate wd 0 ++ w) ++ top :: List.replicate (x.length - i) 0)) ∧ c3 + 1 ≤ S.c) x.length ?_ ?_
    · refine ⟨0, [], 0, by omega, by omega, ?_⟩
      simp only [vm, ite_true, ite_false, eq_self, reduceIte, Nat.reduceEqDiff, Option.map]
      have e0 : List.replicate (wd + x.length + 1) 0 = (List.replicate wd 0 ++ []) ++ 0 :: List.replicate (x.length - 0) 0 := by
        rw [List.append_nil, Nat.sub_zero, Nat.add_assoc, ← List.replicate_append_replicate, List.replicate_succ]
      (repeat' apply And.intro) <;> first | rfl | omega | assumption | exact Lim.nil | exact Nat.two_pow_pos s | (simp [val]; done) | (rw [e0])
    rintro k ⟨ρ2, σ, c4⟩ ⟨i, w, top, hk, hi, hw, hlw, ht, hinv, h38, h6, h7, h39, h40, h8, hσ, hc4⟩
    dsimp only at h38 h6 h7 h39 h40 h8 hσ hc4
    subst hσ
    by_cases g : (i : Int) < x.length
    · have hi' : i < x.length := by omega
      have hxi := hx.getD (i := i) (by decide)
      obtain ⟨p1, p2, p3⟩ := shl_parts hs hxi
      obtain ⟨o1, o2⟩ := or_top hs hxi ht
      have hlo := Nat.mod_lt (x.getD i 0 * 2 ^ s) (show 0 < 18446744073709551616 by decide)
      have e1 : ((wd : Int) + (i : Int)).toNat = wd + i := by omega
      have e2 : ((wd : Int) + (i : Int) + 1).toNat = wd + i + 1 := by omega
      have e3 : min s 64 = s := by omega
      have e4 : (63 + (18446744073709551616 - s % 18446744073709551616)) % 18446744073709551616 = 63 - s := by omega
      have e5 : min (63 - s) 64 = 63 - s := by omega
      have hps : 2 ^ s ≤ 18446744073709551616 := Nat.le_trans (Nat.pow_le_pow_right (by decide) (show s ≤ 64 by omega)) (by decide)
      have e6 : top % 18446744073709551616 = top := Nat.mod_eq_of_lt (by omega)
      have e7 : x.getD i 0 / 2 / 2 ^ (63 - s) % 18446744073709551616 = x.getD i 0 / 2 / 2 ^ (63 - s) := Nat.mod_eq_of_lt (by omega)
      have hl1 : (List.replicate wd 0 ++ w).length = wd + i := by simp; omega
      have hget1 : ((List.replicate wd 0 ++ w) ++ top :: List.replicate (x.length - i) 0).getD (wd + i) 0 = top := by
        rw [← hl1]; exact getD_at _ _ _
      have hlen1 : ((List.replicate wd 0 ++ w) ++ top :: List.replicate (x.length - i) 0).length = wd + x.length + 1 := by simp; omega
      have hset1 : ∀ v, ((List.replicate wd 0 ++ w) ++ top :: List.replicate (x.length - i) 0).set (wd + i) v = ((List.replicate wd 0 ++ w) ++ [v]) ++ 0 :: List.replicate (x.length - (i + 1)) 0 := fun v => by
        rw [← hl1, set_at, show x.length - i = x.length - (i + 1) + 1 by omega, List.replicate_succ]; simp
      have hl2 : ∀ v, ((List.replicate wd 0 ++ w) ++ [v]).length = wd + i + 1 := fun v => by simp; omega
      have hget2 : ∀ v, (((List.replicate wd 0 ++ w) ++ [v]) ++ 0 :: List.replicate (x.length - (i + 1)) 0).getD (wd + i + 1) 0 = 0 := fun v => by
        rw [← hl2 v]; exact getD_at _ _ _
      have hlen2 : ∀ v, (((List.replicate wd 0 ++ w) ++ [v]) ++ 0 :: List.replicate (x.length - (i + 1)) 0).length = wd + x.length + 1 := fun v => by simp; omega
      have hset2 : ∀ v u, (((List.replicate wd 0 ++ w) ++ [v]) ++ 0 :: List.replicate (x.length - (i + 1)) 0).set (wd + i + 1) u = (List.replicate wd 0 ++ (w ++ [v])) ++ u :: List.replicate (x.length - (i + 1)) 0 := fun v u => by
        rw [← hl2 v, set_at, List.append_assoc (List.replicate wd 0)]
      have key := shl_step (i := i) hw hinv p1
      rw [← Nat.mul_assoc, ← Nat.add_mul, ← val_take (l := x) (i := i) hi'] at key
      (repeat (first | refine v_reg ?_ | refine v_last ?_ | refine vwp_seq ?_ | refine vwp_block ?_ | refine vwp_skip ?_ | refine vwp_exit ?_ | refine vwp_ret ?_ | refine v_cond ?_ | simp only [vm, ite_true, ite_false, eq_self, reduceIte, Nat.reduceEqDiff, Option.map, h38, h6, h7, h39, h40, h8, g, e1, e2, e3, e4, e5, hget1, hlen1, hset1, u_or, e6, Nat.mod_mod, o1, hget2, hlen2, hset2, e7, Nat.zero_mod, Nat.zero_or] | refine And.intro (by omega) ?_))
      refine ⟨x.length - (i + 1), by omega, i + 1, w ++ [top + x.getD i 0 * 2 ^ s % 18446744073709551616], x.getD i 0 / 2 / 2 ^ (63 - s), ?_⟩
      (repeat' apply And.intro) <;> first | rfl | omega | assumption | (simp [hw]; done) | exact lim_snoc hlw o2 | exact key
    · have hi' : i = x.length := by omega
      subst hi'
      (repeat (first | refine v_reg ?_ | refine v_last ?_ | refine vwp_seq ?_ | refine vwp_block ?_ | refine vwp_skip ?_ | refine vwp_exit ?_ | refine vwp_ret ?_ | refine v_cond ?_ | simp only [vm, ite_true, ite_false, eq_self, reduceIte, Nat.reduceEqDiff, Option.map, h38, h6, h7, h39, h40, h8, g] | refine And.intro (by omega) ?_))
      rw [List.take_length] at hinv
      have hps : 2 ^ s ≤ 18446744073709551616 := Nat.le_trans (Nat.pow_le_pow_right (by decide) (show s ≤ 64 by omega)) (by decide)
      refine ⟨(List.replicate wd 0 ++ w) ++ [top], ?_⟩
      have e0 : (List.replicate wd 0 ++ w) ++ top :: List.replicate (x.length - x.length) 0 = (List.replicate wd 0 ++ w) ++ [top] := by simp
      rw [e0]
      have hvv : val 18446744073709551616 ((List.replicate wd 0 ++ w) ++ [top]) = val 18446744073709551616 x * 2 ^ n := by
        rw [List.append_assoc, val_zeros, hinv, hpow]
      (repeat' apply And.intro) <;> first | rfl | omega | assumption | (simp [hw]; omega) | exact (Lim.append (Lim.append (Lim.replicate (by decide)) hlw) (.cons (by omega) .nil)) | exact hvv
  rintro ⟨ρ3, σ, c5⟩ ⟨w, hw, hlw, hvw, h8, hσ, hc5⟩
  dsimp only at h8 hσ hc5
  subst hσ
  refine v_freeze 8 (t := c3) (off := 0) (n := wd + x.length + 1) (cap := some (wd + x.length + 1)) (l := w) (by simp only [vm, ite_true, ite_false, eq_self, reduceIte, Nat.reduceEqDiff, Option.map, h8]) (by simp only [vm, ite_true, ite_false, eq_self, reduceIte, Nat.reduceEqDiff, Option.map]) (by omega) (by omega) ?_
  rw [List.drop_zero, show w.take (wd + x.length + 1) = w from List.take_of_length_le (by omega)]
  (repeat (first | refine v_reg ?_ | refine v_last ?_ | refine vwp_seq ?_ | refine vwp_block ?_ | refine vwp_skip ?_ | refine vwp_exit ?_ | refine vwp_ret ?_ | refine v_cond ?_ | simp only [vm, ite_true, ite_false, eq_self, reduceIte, Nat.reduceEqDiff, Option.map] | refine And.intro (by omega) ?_))
  refine s_call (trim_spec (.id c3) w c5 hlw (by omega)) (by simp only [vm, ite_true, ite_false, eq_self, reduceIte, Nat.reduceEqDiff, Option.map, List.map]) ?_
  rintro v c6 hc6 rfl
  rw [hvw, va]
  (repeat (first | refine v_reg ?_ | refine v_last ?_ | refine vwp_seq ?_ | refine vwp_block ?_ | refine vwp_skip ?_ | refine vwp_exit ?_ | refine vwp_ret ?_ | refine v_cond ?_ | simp only [vm, ite_true, ite_false, eq_self, reduceIte, Nat.reduceEqDiff, Option.map] | refine And.intro (by omega) ?_))
  exact .inl ⟨by omega, .id c3, rfl, .inr ⟨c3, rfl, by omega, by omega⟩⟩
end Go.Proofs.YtacodmnlnlbahabDoor
set_option linter.unusedSimpArgs false
set_option linter.unusedVariables false
set_option maxRecDepth 100000
set_option maxHeartbeats 4000000
namespace Go.Proofs.YtacodmnlnlbahabDoor
open Go.VM

theorem addAt_spec (t : Nat) (u : Tok) (l y : List Nat) (k n c : Nat) (cap : Option Nat) (hl : Lim 18446744073709551616 l) (hy : Lim 18446744073709551616 y) (hn : l.length = n) (hnb : n ≤ 4398046511104) (hyb : y.length ≤ 4398046511104) (hkb : k ≤ 4398046511104) (hroom : val 18446744073709551616 l + 18446744073709551616 ^ k * val 18446744073709551616 y < 18446744073709551616 ^ n) :
    VSpecL Tryd.prog F.mul_addAt c (supd noBlk t (nblk l)) [.buf t 0 n cap 1, nats u y, iv k] (fun r σ' c' => r = .tup [] ∧ ∃ l', σ' t = nblk l' ∧ l'.length = n ∧ Lim 18446744073709551616 l' ∧ val 18446744073709551616 l' = val 18446744073709551616 l + 18446744073709551616 ^ k * val 18446744073709551616 y) := by
  refine specL_mk hm E.mul_addAt B.mul_addAt K.mul_addAt Q.mul_addAt (by rw [N.mul_addAt]; simp) ?_
  unfold C.mul_addAt R.mul_addAt
  (repeat (first | refine v_reg ?_ | refine v_last ?_ | refine vwp_seq ?_ | refine vwp_block ?_ | refine vwp_skip ?_ | refine vwp_exit ?_ | refine vwp_ret ?_ | refine v_cond ?_ | simp only [vm, ite_true, ite_false, eq_self, reduceIte, Nat.reduceEqDiff, Option.map] | refine And.intro (by omega) ?_))
  refine vwp_loop (fun m S => ∃ i w carry, m = n - i ∧ k ≤ i ∧ w.length = n ∧ Lim 18446744073709551616 w ∧ carry ≤ 1 ∧ val 18446744073709551616 w + 18446744073709551616 ^ i * carry = val 18446744073709551616 l + 18446744073709551616 ^ k * val 18446744073709551616 (y.take (i - k)) ∧ S.ρ 0 = .buf t 0 n cap 1 ∧ S.ρ 1 = nats u y ∧ S.ρ 2 = iv k ∧ S.ρ 6 = nv carry ∧ S.ρ 7 = iv i ∧ S.σ = supd noBlk t (nblk w) ∧ S.c = c) (n - k) ?_ ?_
  · refine ⟨k, l, 0, rfl, ?_⟩
    simp only [vm, ite_true, ite_false, eq_self, reduceIte, Nat.reduceEqDiff, Option.map, Nat.sub_self, List.take_zero]
    (repeat' apply And.intro) <;> first | rfl | omega | assumption | (simp [val]; done)
  rintro m ⟨ρ, σ, c3⟩ ⟨i, w, carry, hm', hki, hw, hlw, hca, hinv, h0, h1, h2, h6, h7, hσ, hc3⟩
  dsimp only at h0 h1 h2 h6 h7 hσ hc3
  subst hσ hc3
  have hfin : n ≤ i ∨ (y.length ≤ i - k ∧ carry = 0) → val 18446744073709551616 w = val 18446744073709551616 l + 18446744073709551616 ^ k * val 18446744073709551616 y := fun h => by
    rcases h with h | ⟨h, h'⟩
    · exact addAt_end (by decide) h hki hinv hroom
    · rw [List.take_of_length_le h, h', Nat.mul_zero, Nat.add_zero] at hinv
      exact hinv
  by_cases g1 : (i : Int) < n
  · have hw0 := hlw.getD (i := i) (by decide)
    have hy0 := hy.getD (i := i - k) (by decide)
    have hty := val_take' 18446744073709551616 y (i - k)
    have key := addAt_step (b := 18446744073709551616) (y := y.getD (i - k) 0) (by omega) hki hinv _ rfl
    rw [← hty, show i - k + 1 = i + 1 - k by omega] at key
    have eik : ((i : Int) - k).toNat = i - k := by omega
    have hc1 : (w.getD i 0 + y.getD (i - k) 0 + carry) / 18446744073709551616 ≤ 1 := by omega
    by_cases g2 : (i : Int) - k < y.length
    · (repeat (first | refine v_reg ?_ | refine v_last ?_ | refine vwp_seq ?_ | refine vwp_block ?_ | refine vwp_skip ?_ | refine vwp_exit ?_ | refine vwp_ret ?_ | refine v_cond ?_ | simp only [vm, ite_true, ite_false, eq_self, reduceIte, Nat.reduceEqDiff, Option.map, h0, h1, h2, h6, h7, g1, g2, eik] | refine And.intro (by omega) ?_))
      refine ⟨n - (i + 1), by omega, i + 1, w.set i ((w.getD i 0 + y.getD (i - k) 0 + carry) % 18446744073709551616), (w.getD i 0 + y.getD (i - k) 0 + carry) / 18446744073709551616, ?_⟩
      (repeat' apply And.intro) <;> first | rfl | omega | assumption | (rw [List.length_set]; exact hw) | exact hlw.set (Nat.mod_lt _ (by decide)) | exact key
    · have hyz : y.getD (i - k) 0 = 0 := getD_ge (by omega)
      by_cases g3 : 0 < carry
      · (repeat (first | refine v_reg ?_ | refine v_last ?_ | refine vwp_seq ?_ | refine vwp_block ?_ | refine vwp_skip ?_ | refine vwp_exit ?_ | refine vwp_ret ?_ | refine v_cond ?_ | simp only [vm, ite_true, ite_false, eq_self, reduceIte, Nat.reduceEqDiff, Option.map, h0, h1, h2, h6, h7, g1, g2, g3, eik] | refine And.intro (by omega) ?_))
        rw [hyz, Nat.add_zero] at key hc1
        refine ⟨n - (i + 1), by omega, i + 1, w.set i ((w.getD i 0 + carry) % 18446744073709551616), (w.getD i 0 + carry) / 18446744073709551616, ?_⟩
        (repeat' apply And.intro) <;> first | rfl | omega | assumption | (rw [List.length_set]; exact hw) | exact hlw.set (Nat.mod_lt _ (by decide)) | exact key
      · (repeat (first | refine v_reg ?_ | refine v_last ?_ | refine vwp_seq ?_ | refine vwp_block ?_ | refine vwp_skip ?_ | refine vwp_exit ?_ | refine vwp_ret ?_ | refine v_cond ?_ | simp only [vm, ite_true, ite_false, eq_self, reduceIte, Nat.reduceEqDiff, Option.map, h0, h1, h2, h6, h7, g1, g2, g3, eik] | refine And.intro (by omega) ?_))
        exact ⟨w, rfl, hw, hlw, hfin (.inr ⟨by omega, by omega⟩)⟩
  · (repeat (first | refine v_reg ?_ | refine v_last ?_ | refine vwp_seq ?_ | refine vwp_block ?_ | refine vwp_skip ?_ | refine vwp_exit ?_ | refine vwp_ret ?_ | refine v_cond ?_ | simp only [vm, ite_true, ite_false, eq_self, reduceIte, Nat.reduceEqDiff, Option.map, h0, h1, h2, h6, h7, g1] | refine And.intro (by omega) ?_))
    exact ⟨w, rfl, hw, hlw, hfin (.inl (by omega))⟩
end Go.Proofs.YtacodmnlnlbahabDoor
set_option linter.unusedSimpArgs false
set_option linter.unusedVariables false
set_option maxRecDepth 100000
set_option maxHeartbeats 4000000
namespace Go.Proofs.YtacodmnlnlbahabDoor
open Go.VM

theorem sum_spec (t u : Tok) (a b : List Nat) (c : Nat) (ha : Lim 18446744073709551616 a) (hb : Lim 18446744073709551616 b) (hna : a.length ≤ 1099511627776) (hnb : b.length ≤ 1099511627776) :
    VSpec Tryd.prog F.mul_sum c [nats t a, nats u b] (fun r c' => ∃ l i, r = nats (.id i) l ∧ c ≤ i ∧ i < c' ∧ Lim 18446744073709551616 l ∧ l.length = max a.length b.length + 1 ∧ val 18446744073709551616 l = val 18446744073709551616 a + val 18446744073709551616 b) := by
  refine spec_mk hm E.mul_sum B.mul_sum K.mul_sum Q.mul_sum (by rw [N.mul_sum]; simp) ?_
  unfold C.mul_sum R.mul_sum
  have em : max (a.length : Int) (b.length : Int) = ((max a.length b.length : Nat) : Int) := by omega
  (repeat (first | refine v_reg ?_ | refine v_last ?_ | refine vwp_seq ?_ | refine vwp_block ?_ | refine vwp_skip ?_ | refine vwp_exit ?_ | refine vwp_ret ?_ | refine v_cond ?_ | simp only [vm, ite_true, ite_false, eq_self, reduceIte, Nat.reduceEqDiff, Option.map, em] | refine And.intro (by omega) ?_))
  refine s_mk (n := max a.length b.length + 1) (m := max a.length b.length + 1) (by simp only [vm, ite_true, ite_false, eq_self, reduceIte, Nat.reduceEqDiff, Option.map, em]; rfl) (by simp only [vm, ite_true, ite_false, eq_self, reduceIte, Nat.reduceEqDiff, Option.map, em]; rfl) (Nat.le_refl _) (by omega) ?_
  have h1 : a.length ≤ max a.length b.length := Nat.le_max_left _ _
  have h2 : b.length ≤ max a.length b.length := Nat.le_max_right _ _
  have h3 : max a.length b.length ≤ 1099511627776 := by omega
  generalize max a.length b.length = n at *
  (repeat (first | refine v_reg ?_ | refine v_last ?_ | refine vwp_seq ?_ | refine vwp_block ?_ | refine vwp_skip ?_ | refine vwp_exit ?_ | refine vwp_ret ?_ | refine v_cond ?_ | simp only [vm, ite_true, ite_false, eq_self, reduceIte, Nat.reduceEqDiff, Option.map] | refine And.intro (by omega) ?_))
  refine s_cpy (t := c) (n := n + 1) (cap := some (n + 1)) (l := List.replicate (n + 1) 0) (a := a) (u := t) (by simp only [vm, ite_true, ite_false, eq_self, reduceIte, Nat.reduceEqDiff, Option.map]) (by simp only [vm, ite_true, ite_false, eq_self, reduceIte, Nat.reduceEqDiff, Option.map]) (by simp only [vm, ite_true, ite_false, eq_self, reduceIte, Nat.reduceEqDiff, Option.map]) (by omega) (by simp) ?_
  have e0 : a ++ (List.replicate (n + 1) 0).drop a.length = a ++ List.replicate (n + 1 - a.length) 0 := by simp
  rw [e0]
  have hl0 : Lim 18446744073709551616 (a ++ List.replicate (n + 1 - a.length) 0) := ha.append (Lim.replicate (by decide))
  have hv0 : val 18446744073709551616 (a ++ List.replicate (n + 1 - a.length) 0) = val 18446744073709551616 a := by rw [val_append, val_replicate]; simp
  have hn0 : (a ++ List.replicate (n + 1 - a.length) 0).length = n + 1 := by simp; omega
  generalize a ++ List.replicate (n + 1 - a.length) 0 = l0 at *
  have hroom : val 18446744073709551616 l0 + 18446744073709551616 ^ 0 * val 18446744073709551616 b < 18446744073709551616 ^ (n + 1) := by
    rw [hv0, Nat.pow_zero, Nat.one_mul, Nat.pow_succ]
    have p1 := Nat.lt_of_lt_of_le (val_lt ha) (Nat.pow_le_pow_right (show 0 < 18446744073709551616 by decide) h1)
    have p2 := Nat.lt_of_lt_of_le (val_lt hb) (Nat.pow_le_pow_right (show 0 < 18446744073709551616 by decide) h2)
    generalize 18446744073709551616 ^ n = q at *
    omega
  (repeat (first | refine v_reg ?_ | refine v_last ?_ | refine vwp_seq ?_ | refine vwp_block ?_ | refine vwp_skip ?_ | refine vwp_exit ?_ | refine vwp_ret ?_ | refine v_cond ?_ | simp only [vm, ite_true, ite_false, eq_self, reduceIte, Nat.reduceEqDiff, Option.map] | refine And.intro (by omega) ?_))
  refine s_call1 c (l := l0) (by simp only [vm, ite_true, ite_false, eq_self, reduceIte, Nat.reduceEqDiff, Option.map]) (fun s hs => by simp only [vm, ite_true, ite_false, eq_self, reduceIte, Nat.reduceEqDiff, Option.map]; rw [if_neg (by omega)]; rfl) (addAt_spec c u l0 b 0 (n + 1) (c + 1) (some (n + 1)) hl0 hb hn0 (by omega) (by omega) (by omega) hroom) (by simp only [vm, ite_true, ite_false, eq_self, reduceIte, Nat.reduceEqDiff, Option.map, List.map]; rfl) ?_
  rintro v σ' c2 hc2 ⟨rfl, l', hσ', hn', hlim, hval⟩
  rw [hσ']
  rw [Nat.pow_zero, Nat.one_mul, hv0] at hval
  simp only [vm, ite_true, ite_false, eq_self, reduceIte, Nat.reduceEqDiff, Option.map]
  refine v_freeze 5 (t := c) (off := 0) (n := n + 1) (cap := some (n + 1)) (l := l') (by simp only [vm, ite_true, ite_false, eq_self, reduceIte, Nat.reduceEqDiff, Option.map]) (by simp only [vm, ite_true, ite_false, eq_self, reduceIte, Nat.reduceEqDiff, Option.map]) (by omega) (by omega) ?_
  rw [List.drop_zero, show l'.take (n + 1) = l' from List.take_of_length_le (by omega)]
  (repeat (first | refine v_reg ?_ | refine v_last ?_ | refine vwp_seq ?_ | refine vwp_block ?_ | refine vwp_skip ?_ | refine vwp_exit ?_ | refine vwp_ret ?_ | refine v_cond ?_ | simp only [vm, ite_true, ite_false, eq_self, reduceIte, Nat.reduceEqDiff, Option.map] | refine And.intro (by omega) ?_))
  exact ⟨l', c, rfl, by omega, by omega, hlim, hn', hval⟩

theorem less_spec (t u : Tok) (a b : List Nat) (c : Nat) (ha : Lim 18446744073709551616 a) (hb : Lim 18446744073709551616 b) (hna : a.length ≤ 1099511627776) (hnb : b.length ≤ 1099511627776) (hle : val 18446744073709551616 b ≤ val 18446744073709551616 a) :
    VSpec Tryd.prog F.mul_less c [nats t a, nats u b] (fun r c' => ∃ l i, r = nats (.id i) l ∧ c ≤ i ∧ i < c' ∧ Lim 18446744073709551616 l ∧ l.length = a.length ∧ val 18446744073709551616 l = val 18446744073709551616 a - val 18446744073709551616 b) := by
  refine spec_mk hm E.mul_less B.mul_less K.mul_less Q.mul_less (by rw [N.mul_less]; simp) ?_
  unfold C.mul_less R.mul_less
  (repeat (first | refine v_reg ?_ | refine v_last ?_ | refine vwp_seq ?_ | refine vwp_block ?_ | refine vwp_skip ?_ | refine vwp_exit ?_ | refine vwp_ret ?_ | refine v_cond ?_ | simp only [vm, ite_true, ite_false, eq_self, reduceIte, Nat.reduceEqDiff, Option.map] | refine And.intro (by omega) ?_))
  refine s_mk (n := a.length) (m := a.length) (by simp only [vm, ite_true, ite_false, eq_self, reduceIte, Nat.reduceEqDiff, Option.map]) (by simp only [vm, ite_true, ite_false, eq_self, reduceIte, Nat.reduceEqDiff, Option.map]) (Nat.le_refl _) (by omega) ?_
  (repeat (first | refine v_reg ?_ | refine v_last ?_ | refine vwp_seq ?_ | refine vwp_block ?_ | refine vwp_skip ?_ | refine vwp_exit ?_ | refine vwp_ret ?_ | refine v_cond ?_ | simp only [vm, ite_true, ite_false, eq_self, reduceIte, Nat.reduceEqDiff, Option.map] | refine And.intro (by omega) ?_))
  refine s_cpy (t := c) (n := a.length) (cap := some a.length) (l := List.replicate a.length 0) (a := a) (u := t) (by simp only [vm, ite_true, ite_false, eq_self, reduceIte, Nat.reduceEqDiff, Option.map]) (by simp only [vm, ite_true, ite_false, eq_self, reduceIte, Nat.reduceEqDiff, Option.map]) (by simp only [vm, ite_true, ite_false, eq_self, reduceIte, Nat.reduceEqDiff, Option.map]) (by omega) (by simp) ?_
  have e0 : a ++ (List.replicate a.length 0).drop a.length = a := by simp
  rw [e0]
  (repeat (first | refine v_reg ?_ | refine v_last ?_ | refine vwp_seq ?_ | refine vwp_block ?_ | refine vwp_skip ?_ | refine vwp_exit ?_ | refine vwp_ret ?_ | refine v_cond ?_ | simp only [vm, ite_true, ite_false, eq_self, reduceIte, Nat.reduceEqDiff, Option.map] | refine And.intro (by omega) ?_))
  refine v_loop (fun S => ∃ w, w.length = a.length ∧ Lim 18446744073709551616 w ∧ val 18446744073709551616 w = val 18446744073709551616 a - val 18446744073709551616 b ∧ S.ρ 5 = .buf c 0 a.length (some a.length) 1 ∧ S.σ = supd noBlk c (nblk w) ∧ S.c = c + 1) ?_ ?_
  · refine vwp_loop (fun k S => ∃ i w bo, k = a.length - i ∧ i ≤ a.length ∧ w.length = i ∧ Lim 18446744073709551616 w ∧ bo ≤ 1 ∧ val 18446744073709551616 w + val 18446744073709551616 (b.take i) = val 18446744073709551616 (a.take i) + 18446744073709551616 ^ i * bo ∧ S.ρ 1 = nats u b ∧ S.ρ 5 = .buf c 0 a.length (some a.length) 1 ∧ S.ρ 6 = nv bo ∧ S.ρ 16 = iv a.length ∧ S.ρ 17 = iv i ∧ S.σ = supd noBlk c (nblk (w ++ a.drop i)) ∧ S.c = c + 1) a.length ?_ ?_
    · refine ⟨0, [], 0, by omega, by omega, ?_⟩
      simp only [vm, ite_true, ite_false, eq_self, reduceIte, Nat.reduceEqDiff, Option.map]
      (repeat' apply And.intro) <;> first | rfl | omega | assumption | exact Lim.nil
    rintro k ⟨ρ2, σ, c4⟩ ⟨i, w, bo, hk, hi, hw, hlw, hbo, hinv, h1, h5, h6, h16, h17, hσ, hc4⟩
    dsimp only at h1 h5 h6 h16 h17 hσ hc4
    subst hσ hc4
    by_cases g : (i : Int) < a.length
    · have hi' : i < a.length := by omega
      have hxi := ha.getD (i := i) (by decide)
      have hyi := hb.getD (i := i) (by decide)
      have hx' := val_take' 18446744073709551616 a i
      have hy' := val_take' 18446744073709551616 b i
      have hlen : (w ++ a.drop i).length = a.length := by simp; omega
      have hget : (w ++ a.drop i).getD i 0 = a.getD i 0 := by
        rw [drop_cons hi', ← hw]; exact getD_at _ _ _
      have hset : ∀ v, (w ++ a.drop i).set i v = (w ++ [v]) ++ a.drop (i + 1) := fun v => by
        rw [drop_cons hi']
        conv => lhs; rw [← hw]
        rw [set_at, hw]; simp
      have key := sub_step (b := 18446744073709551616) (c' := if a.getD i 0 < b.getD i 0 + bo then 1 else 0) (x := a.getD i 0) (y := b.getD i 0) (d := (a.getD i 0 + 18446744073709551616 - b.getD i 0 - bo) % 18446744073709551616) hw hinv (by split <;> omega)
      have hb1 : (if a.getD i 0 < b.getD i 0 + bo then 1 else 0) ≤ 1 := by split <;> omega
      rw [← hx', ← hy'] at key
      by_cases g2 : (i : Int) < b.length
      · (repeat (first | refine v_reg ?_ | refine v_last ?_ | refine vwp_seq ?_ | refine vwp_block ?_ | refine vwp_skip ?_ | refine vwp_exit ?_ | refine vwp_ret ?_ | refine v_cond ?_ | simp only [vm, ite_true, ite_false, eq_self, reduceIte, Nat.reduceEqDiff, Option.map, h1, h5, h6, h16, h17, g, g2, hlen, hget, hset] | refine And.intro (by omega) ?_))
        refine ⟨a.length - (i + 1), by omega, i + 1, w ++ [(a.getD i 0 + 18446744073709551616 - b.getD i 0 - bo) % 18446744073709551616], if a.getD i 0 < b.getD i 0 + bo then 1 else 0, ?_⟩
        (repeat' apply And.intro) <;> first | rfl | omega | assumption | (simp [hw]; done) | exact lim_snoc hlw (Nat.mod_lt _ (by decide)) | exact key
      · have hy0 : b.getD i 0 = 0 := getD_ge (by omega)
        rw [hy0] at key hb1
        (repeat (first | refine v_reg ?_ | refine v_last ?_ | refine vwp_seq ?_ | refine vwp_block ?_ | refine vwp_skip ?_ | refine vwp_exit ?_ | refine vwp_ret ?_ | refine v_cond ?_ | simp only [vm, ite_true, ite_false, eq_self, reduceIte, Nat.reduceEqDiff, Option.map, h1, h5, h6, h16, h17, g, g2, hlen, hget, hset] | refine And.intro (by omega) ?_))
        refine ⟨a.length - (i + 1), by omega, i + 1, w ++ [(a.getD i 0 + 18446744073709551616 - 0 - bo) % 18446744073709551616], if a.getD i 0 < 0 + bo then 1 else 0, ?_⟩
        simp only [Nat.zero_add] at key hb1 ⊢
        (repeat' apply And.intro) <;> first | rfl | omega | assumption | (simp [hw]; done) | exact lim_snoc hlw (Nat.mod_lt _ (by decide)) | exact key
    · have hi' : i = a.length := by omega
      subst hi'
      (repeat (first | refine v_reg ?_ | refine v_last ?_ | refine vwp_seq ?_ | refine vwp_block ?_ | refine vwp_skip ?_ | refine vwp_exit ?_ | refine vwp_ret ?_ | refine v_cond ?_ | simp only [vm, ite_true, ite_false, eq_self, reduceIte, Nat.reduceEqDiff, Option.map, h1, h5, h6, h16, h17, g] | refine And.intro (by omega) ?_))
      have hwl := val_lt hlw
      rw [hw] at hwl
      have hbt : val 18446744073709551616 (b.take a.length) = val 18446744073709551616 b := by
        by_cases gl : a.length ≤ b.length
        · have p := val_take_drop 18446744073709551616 a.length b gl
          have p2 := val_lt ha
          have p3 : val 18446744073709551616 (b.drop a.length) = 0 := by
            rcases Nat.eq_zero_or_pos (val 18446744073709551616 (b.drop a.length)) with e | e
            · exact e
            · have := Nat.mul_le_mul_left (18446744073709551616 ^ a.length) e
              omega
          rw [p3] at p
          omega
        · rw [List.take_of_length_le (by omega)]
      rw [List.take_length, hbt] at hinv
      have hvz : val 18446744073709551616 w = val 18446744073709551616 a - val 18446744073709551616 b := by
        have hbb : bo = 0 ∨ bo = 1 := by omega
        rcases hbb with rfl | rfl <;> omega
      refine ⟨w, hw, hlw, hvz, ?_⟩
      rw [List.drop_length, List.append_nil]
  rintro ⟨ρ3, σ, c5⟩ ⟨w, hw, hlw, hvw, h5, hσ, hc5⟩
  dsimp only at h5 hσ hc5
  subst hσ hc5
  refine v_freeze 5 (t := c) (off := 0) (n := a.length) (cap := some a.length) (l := w) (by simp only [vm, ite_true, ite_false, eq_self, reduceIte, Nat.reduceEqDiff, Option.map, h5]) (by simp only [vm, ite_true, ite_false, eq_self, reduceIte, Nat.reduceEqDiff, Option.map]) (by omega) (by omega) ?_
  rw [List.drop_zero, show w.take a.length = w from List.take_of_length_le (by omega)]
  (repeat (first | refine v_reg ?_ | refine v_last ?_ | refine vwp_seq ?_ | refine vwp_block ?_ | refine vwp_skip ?_ | refine vwp_exit ?_ | refine vwp_ret ?_ | refine v_cond ?_ | simp only [vm, ite_true, ite_false, eq_self, reduceIte, Nat.reduceEqDiff, Option.map] | refine And.intro (by omega) ?_))
  exact ⟨w, c, rfl, by omega, by omega, hlw, hw, hvw⟩
end Go.Proofs.YtacodmnlnlbahabDoor
set_option linter.unusedSimpArgs false
set_option linter.unusedVariables false
set_option maxRecDepth 100000
set_option maxHeartbeats 4000000
namespace Go.Proofs.YtacodmnlnlbahabDoor
open Go.VM

theorem part_spec (t : Tok) (a : List Nat) (f e c : Nat) (ha : Lim 18446744073709551616 a) (hna : a.length ≤ 1099511627776) (hfe : f ≤ e) :
    VSpec Tryd.prog F.mul_part c [nats t a, iv f, iv e] (fun r c' => ∃ t' l, r = nats t' l ∧ Lim 18446744073709551616 l ∧ l.length ≤ e - f ∧ l.length ≤ a.length - f ∧ val 18446744073709551616 l = val 18446744073709551616 ((a.drop f).take (e - f))) := by
  refine spec_mk hm E.mul_part B.mul_part K.mul_part Q.mul_part (by rw [N.mul_part]; simp) ?_
  unfold C.mul_part R.mul_part
  have e1 : min (f : Int) (a.length : Int) = ((min f a.length : Nat) : Int) := by omega
  have e2 : min (e : Int) (a.length : Int) = ((min e a.length : Nat) : Int) := by omega
  have hval : (a.drop f).take (e - f) = (a.drop (min f a.length)).take (min e a.length - min f a.length) := by
    rcases Nat.lt_or_ge a.length f with g | g
    · rw [List.drop_of_length_le (by omega), show min f a.length = a.length by omega, List.drop_of_length_le (Nat.le_refl _)]; simp
    · rw [show min f a.length = f by omega]
      rcases Nat.lt_or_ge a.length e with g2 | g2
      · rw [show min e a.length = a.length by omega, List.take_of_length_le (by simp; omega), List.take_of_length_le (by simp)]
      · rw [show min e a.length = e by omega]
  rw [hval]
  have h1 : min f a.length ≤ min e a.length := by omega
  have h2 : min e a.length ≤ a.length := by omega
  have h3 : min e a.length - min f a.length ≤ e - f := by omega
  have h4 : min e a.length - min f a.length ≤ a.length - f := by omega
  (repeat (first | refine v_reg ?_ | refine v_last ?_ | refine vwp_seq ?_ | refine vwp_block ?_ | refine vwp_skip ?_ | refine vwp_exit ?_ | refine vwp_ret ?_ | refine v_cond ?_ | simp only [vm, ite_true, ite_false, eq_self, reduceIte, Nat.reduceEqDiff, Option.map, e1, e2] | refine And.intro (by omega) ?_))
  generalize min f a.length = f' at *
  generalize min e a.length = e' at *
  refine v_loop (fun S => ∃ k, f' ≤ k ∧ k ≤ e' ∧ val 18446744073709551616 ((a.drop f').take (k - f')) = val 18446744073709551616 ((a.drop f').take (e' - f')) ∧ S.ρ 0 = nats t a ∧ S.ρ 1 = iv f' ∧ S.ρ 2 = iv k ∧ S.σ = noBlk ∧ S.c = c) ?_ ?_
  · refine vwp_loop (fun m S => ∃ k, m = k ∧ f' ≤ k ∧ k ≤ e' ∧ val 18446744073709551616 ((a.drop f').take (k - f')) = val 18446744073709551616 ((a.drop f').take (e' - f')) ∧ S.ρ 0 = nats t a ∧ S.ρ 1 = iv f' ∧ S.ρ 2 = iv k ∧ S.σ = noBlk ∧ S.c = c) e' ?_ ?_
    · refine ⟨e', rfl, ?_⟩
      simp only [vm, ite_true, ite_false, eq_self, reduceIte, Nat.reduceEqDiff, Option.map]
      (repeat' apply And.intro) <;> first | rfl | omega | assumption
    rintro m ⟨ρ2, σ, c4⟩ ⟨k, hm', hk1, hk2, hv, g0, g1, g2, hσ, hc4⟩
    dsimp only at g0 g1 g2 hσ hc4
    subst hσ hc4
    by_cases g : (f' : Int) < k
    · obtain ⟨i, rfl⟩ : ∃ i, k = i + 1 := ⟨k - 1, by omega⟩
      have ei : (((i + 1 : Nat) : Int) - 1).toNat = i := by omega
      by_cases gz : a.getD i 0 = 0
      · (repeat (first | refine v_reg ?_ | refine v_last ?_ | refine vwp_seq ?_ | refine vwp_block ?_ | refine vwp_skip ?_ | refine vwp_exit ?_ | refine vwp_ret ?_ | refine v_cond ?_ | simp only [vm, ite_true, ite_false, eq_self, reduceIte, Nat.reduceEqDiff, Option.map, g0, g1, g2, g, ei, gz] | refine And.intro (by omega) ?_))
        refine ⟨i, by omega, i, ?_⟩
        have hs := slice_snoc (a := a) (f := f') (k := i) (by omega) (by omega)
        rw [hs, gz, val_snoc0] at hv
        (repeat' apply And.intro) <;> first | rfl | omega | assumption | exact congrArg iv (by omega)
      · (repeat (first | refine v_reg ?_ | refine v_last ?_ | refine vwp_seq ?_ | refine vwp_block ?_ | refine vwp_skip ?_ | refine vwp_exit ?_ | refine vwp_ret ?_ | refine v_cond ?_ | simp only [vm, ite_true, ite_false, eq_self, reduceIte, Nat.reduceEqDiff, Option.map, g0, g1, g2, g, ei, gz] | refine And.intro (by omega) ?_))
        exact ⟨i + 1, hk1, hk2, hv, rfl⟩
    · (repeat (first | refine v_reg ?_ | refine v_last ?_ | refine vwp_seq ?_ | refine vwp_block ?_ | refine vwp_skip ?_ | refine vwp_exit ?_ | refine vwp_ret ?_ | refine v_cond ?_ | simp only [vm, ite_true, ite_false, eq_self, reduceIte, Nat.reduceEqDiff, Option.map, g0, g1, g2, g] | refine And.intro (by omega) ?_))
      exact ⟨k, hk1, hk2, hv, rfl⟩
  rintro ⟨ρ3, σ, c5⟩ ⟨k, hk1, hk2, hv, g0, g1, g2, hσ, hc5⟩
  dsimp only at g0 g1 g2 hσ hc5
  subst hσ hc5
  (repeat (first | refine v_reg ?_ | refine v_last ?_ | refine vwp_seq ?_ | refine vwp_block ?_ | refine vwp_skip ?_ | refine vwp_exit ?_ | refine vwp_ret ?_ | refine v_cond ?_ | simp only [vm, ite_true, ite_false, eq_self, reduceIte, Nat.reduceEqDiff, Option.map, g0, g1, g2] | refine And.intro (by omega) ?_))
  refine ⟨_, _, rfl, ha.drop.take, ?_, ?_, hv⟩
  · simp; omega
  · simp; omega
end Go.Proofs.YtacodmnlnlbahabDoor
set_option linter.unusedSimpArgs false
set_option linter.unusedVariables false
set_option maxRecDepth 100000
set_option maxHeartbeats 4000000
namespace Go.Proofs.YtacodmnlnlbahabDoor
open Go.VM

theorem school_spec (t u : Tok) (a b : List Nat) (c : Nat) (ha : Lim 18446744073709551616 a) (hb : Lim 18446744073709551616 b) (hna : a.length ≤ 1099511627776) (hnb : b.length ≤ 1099511627776) :
    VSpec Tryd.prog F.mul_school c [nats t a, nats u b] (fun r c' => ∃ l i, r = nats (.id i) l ∧ c ≤ i ∧ i < c' ∧ Lim 18446744073709551616 l ∧ l.length = a.length + b.length ∧ val 18446744073709551616 l = val 18446744073709551616 a * val 18446744073709551616 b) := by
  refine spec_mk hm E.mul_school B.mul_school K.mul_school Q.mul_school (by rw [N.mul_school]; simp) ?_
  unfold C.mul_school R.mul_school
  (repeat (first | refine v_reg ?_ | refine v_last ?_ | refine vwp_seq ?_ | refine vwp_block ?_ | refine vwp_skip ?_ | refine vwp_exit ?_ | refine vwp_ret ?_ | refine v_cond ?_ | simp only [vm, ite_true, ite_false, eq_self, reduceIte, Nat.reduceEqDiff, Option.map] | refine And.intro (by omega) ?_))
  refine s_mk (n := a.length + b.length) (m := a.length + b.length) (by simp only [vm, ite_true, ite_false, eq_self, reduceIte, Nat.reduceEqDiff, Option.map]; rfl) (by simp only [vm, ite_true, ite_false, eq_self, reduceIte, Nat.reduceEqDiff, Option.map]; rfl) (Nat.le_refl _) (by omega) ?_
  (repeat (first | refine v_reg ?_ | refine v_last ?_ | refine vwp_seq ?_ | refine vwp_block ?_ | refine vwp_skip ?_ | refine vwp_exit ?_ | refine vwp_ret ?_ | refine v_cond ?_ | simp only [vm, ite_true, ite_false, eq_self, reduceIte, Nat.reduceEqDiff, Option.map] | refine And.intro (by omega) ?_))
  refine v_loop (fun S => ∃ w, w.length = a.length + b.length ∧ Lim 18446744073709551616 w ∧ val 18446744073709551616 w = val 18446744073709551616 a * val 18446744073709551616 b ∧ S.ρ 5 = .buf c 0 (a.length + b.length) (some (a.length + b.length)) 1 ∧ S.σ = supd noBlk c (nblk w) ∧ c + 1 ≤ S.c) ?_ ?_
  · refine vwp_loop (fun m S => ∃ i w, m = a.length - i ∧ i ≤ a.length ∧ w.length = i + b.length ∧ Lim 18446744073709551616 w ∧ val 18446744073709551616 w = val 18446744073709551616 (a.take i) * val 18446744073709551616 b ∧ S.ρ 1 = nats u b ∧ S.ρ 5 = .buf c 0 (a.length + b.length) (some (a.length + b.length)) 1 ∧ S.ρ 20 = nats t a ∧ S.ρ 21 = iv a.length ∧ S.ρ 22 = iv i ∧ S.σ = supd noBlk c (nblk (w ++ List.replicate (a.length - i) 0)) ∧ c + 1 ≤ S.c) a.length ?_ ?_
    · refine ⟨0, List.replicate b.length 0, by omega, by omega, ?_⟩
      simp only [vm, ite_true, ite_false, eq_self, reduceIte, Nat.reduceEqDiff, Option.map]
      have e0 : List.replicate b.length 0 ++ List.replicate (a.length - 0) 0 = List.replicate (a.length + b.length) 0 := by
        rw [List.replicate_append_replicate]; congr 1; omega
      (repeat' apply And.intro) <;> first | rfl | omega | assumption | (simp; done) | exact Lim.replicate (by decide) | (rw [val_replicate]; simp [val]; done) | (rw [e0])
    rintro m ⟨ρ2, σ, c4⟩ ⟨i, w, hm', hi, hw, hlw, hinv, h1, h5, h20, h21, h22, hσ, hc4⟩
    dsimp only at h1 h5 h20 h21 h22 hσ hc4
    subst hσ
    by_cases g : (i : Int) < a.length
    · have hi' : i < a.length := by omega
      have hxi := ha.getD (i := i) (by decide)
      have hx' := val_take' 18446744073709551616 a i
      (repeat (first | refine v_reg ?_ | refine v_last ?_ | refine vwp_seq ?_ | refine vwp_block ?_ | refine vwp_skip ?_ | refine vwp_exit ?_ | refine vwp_ret ?_ | refine v_cond ?_ | simp only [vm, ite_true, ite_false, eq_self, reduceIte, Nat.reduceEqDiff, Option.map, h1, h5, h20, h21, h22, g] | refine And.intro (by omega) ?_))
      generalize a.getD i 0 = x at *
      refine v_loop (fun S => ∃ w' carry, w'.length = i + b.length ∧ Lim 18446744073709551616 w' ∧ carry < 18446744073709551616 ∧ val 18446744073709551616 w' + 18446744073709551616 ^ (i + b.length) * carry = val 18446744073709551616 w + 18446744073709551616 ^ i * (x * val 18446744073709551616 b) ∧ S.ρ 1 = nats u b ∧ S.ρ 5 = .buf c 0 (a.length + b.length) (some (a.length + b.length)) 1 ∧ S.ρ 6 = iv i ∧ S.ρ 8 = nv carry ∧ S.ρ 20 = nats t a ∧ S.ρ 21 = iv a.length ∧ S.ρ 22 = iv i ∧ S.σ = supd noBlk c (nblk (w' ++ List.replicate (a.length - i) 0)) ∧ c + 1 ≤ S.c) ?_ ?_
      · refine vwp_loop (fun m S => ∃ k w' carry, m = b.length - k ∧ k ≤ b.length ∧ w'.length = i + b.length ∧ Lim 18446744073709551616 w' ∧ carry < 18446744073709551616 ∧ val 18446744073709551616 w' + 18446744073709551616 ^ (i + k) * carry = val 18446744073709551616 w + 18446744073709551616 ^ i * (x * val 18446744073709551616 (b.take k)) ∧ S.ρ 1 = nats u b ∧ S.ρ 5 = .buf c 0 (a.length + b.length) (some (a.length + b.length)) 1 ∧ S.ρ 6 = iv i ∧ S.ρ 7 = nv x ∧ S.ρ 8 = nv carry ∧ S.ρ 20 = nats t a ∧ S.ρ 21 = iv a.length ∧ S.ρ 22 = iv i ∧ S.ρ 27 = nats u b ∧ S.ρ 28 = iv b.length ∧ S.ρ 29 = iv k ∧ S.σ = supd noBlk c (nblk (w' ++ List.replicate (a.length - i) 0)) ∧ c + 1 ≤ S.c) b.length ?_ ?_
        · refine ⟨0, w, 0, by omega, by omega, ?_⟩
          simp only [vm, ite_true, ite_false, eq_self, reduceIte, Nat.reduceEqDiff, Option.map, h1, h5, h20, h21, h22]
          (repeat' apply And.intro) <;> first | rfl | omega | assumption | (simp [val]; done)
        rintro m ⟨ρ3, σ, c5⟩ ⟨k, w', carry, hm2, hk, hw', hlw', hca, hinv', q1, q5, q6, q7, q8, q20, q21, q22, q27, q28, q29, hσ, hc5⟩
        dsimp only at q1 q5 q6 q7 q8 q20 q21 q22 q27 q28 q29 hσ hc5
        subst hσ
        by_cases g2 : (k : Int) < b.length
        · have hk' : k < b.length := by omega
          have hyk := hb.getD (i := k) (by decide)
          have hy' := val_take' 18446744073709551616 b k
          have hik : i + k < w'.length := by omega
          have hwk := hlw'.getD (i := i + k) (by decide)
          have key := addAt_step (b := 18446744073709551616) (k := i) (Y := x * val 18446744073709551616 (b.take k)) (y := x * b.getD k 0) (c := carry) hik (by omega) hinv' _ rfl
          rw [show i + k - i = k by omega, Nat.mul_left_comm, ← Nat.mul_add, ← hy'] at key
          obtain ⟨s1, s2, s3⟩ := school_step (mul_le_max hxi hyk) hca hwk
          have eik : ((i : Int) + (k : Int)).toNat = i + k := by omega
          have hget : (w' ++ List.replicate (a.length - i) 0).getD (i + k) 0 = w'.getD (i + k) 0 := getD_append_left hik
          have hset : ∀ v, (w' ++ List.replicate (a.length - i) 0).set (i + k) v = w'.set (i + k) v ++ List.replicate (a.length - i) 0 := fun v => List.set_append_left _ _ hik
          have hlen : (w' ++ List.replicate (a.length - i) 0).length = a.length + b.length := by simp; omega
          (repeat (first | refine v_reg ?_ | refine v_last ?_ | refine vwp_seq ?_ | refine vwp_block ?_ | refine vwp_skip ?_ | refine vwp_exit ?_ | refine vwp_ret ?_ | refine v_cond ?_ | simp only [vm, ite_true, ite_false, eq_self, reduceIte, Nat.reduceEqDiff, Option.map, q1, q5, q6, q7, q8, q20, q21, q22, q27, q28, q29, g2] | refine And.intro (by omega) ?_))
          refine s_call (mul64_spec x (b.getD k 0) c5 hxi hyk) (by simp only [vm, ite_true, ite_false, eq_self, reduceIte, Nat.reduceEqDiff, Option.map, List.map, q7]) ?_
          rintro v c6 hc6 rfl
          (repeat (first | refine v_reg ?_ | refine v_last ?_ | refine vwp_seq ?_ | refine vwp_block ?_ | refine vwp_skip ?_ | refine vwp_exit ?_ | refine vwp_ret ?_ | refine v_cond ?_ | simp only [vm, ite_true, ite_false, eq_self, reduceIte, Nat.reduceEqDiff, Option.map, q1, q5, q6, q7, q8, q20, q21, q22, q27, q28, q29, g2, Nat.add_zero, eik, hget, hset, hlen, s1, s2] | refine And.intro (by omega) ?_))
          refine ⟨b.length - (k + 1), by omega, k + 1, w'.set (i + k) ((w'.getD (i + k) 0 + x * b.getD k 0 + carry) % 18446744073709551616), (w'.getD (i + k) 0 + x * b.getD k 0 + carry) / 18446744073709551616, ?_⟩
          (repeat' apply And.intro) <;> first | rfl | omega | assumption | (rw [List.length_set]; exact hw') | exact hlw'.set (Nat.mod_lt _ (by decide)) | exact key
        · have hk' : k = b.length := by omega
          subst hk'
          (repeat (first | refine v_reg ?_ | refine v_last ?_ | refine vwp_seq ?_ | refine vwp_block ?_ | refine vwp_skip ?_ | refine vwp_exit ?_ | refine vwp_ret ?_ | refine v_cond ?_ | simp only [vm, ite_true, ite_false, eq_self, reduceIte, Nat.reduceEqDiff, Option.map, q1, q5, q6, q7, q8, q20, q21, q22, q27, q28, q29, g2] | refine And.intro (by omega) ?_))
          rw [List.take_length] at hinv'
          refine ⟨w', carry, hw', hlw', hca, hinv', ?_⟩
          (repeat' apply And.intro) <;> first | rfl | omega | assumption
      rintro ⟨ρ3, σ, c5⟩ ⟨w', carry, hw', hlw', hca, hinv', q1, q5, q6, q8, q20, q21, q22, hσ, hc5⟩
      dsimp only at q1 q5 q6 q8 q20 q21 q22 hσ hc5
      subst hσ
      have eib : ((i : Int) + (b.length : Int)).toNat = i + b.length := by omega
      have hlen : (w' ++ List.replicate (a.length - i) 0).length = a.length + b.length := by simp; omega
      have hset : ∀ v, (w' ++ List.replicate (a.length - i) 0).set (i + b.length) v = (w' ++ [v]) ++ List.replicate (a.length - (i + 1)) 0 := fun v => by
        have := set_fill w' (a.length - (i + 1)) v
        rw [hw'] at this
        rw [show a.length - i = a.length - (i + 1) + 1 by omega, this]
      (repeat (first | refine v_reg ?_ | refine v_last ?_ | refine vwp_seq ?_ | refine vwp_block ?_ | refine vwp_skip ?_ | refine vwp_exit ?_ | refine vwp_ret ?_ | refine v_cond ?_ | simp only [vm, ite_true, ite_false, eq_self, reduceIte, Nat.reduceEqDiff, Option.map, q1, q5, q6, q8, q20, q21, q22, eib, hlen, hset] | refine And.intro (by omega) ?_))
      refine ⟨a.length - (i + 1), by omega, i + 1, w' ++ [carry], ?_⟩
      have hvv : val 18446744073709551616 (w' ++ [carry]) = val 18446744073709551616 (a.take (i + 1)) * val 18446744073709551616 b := by
        rw [val_append, hw']
        simp only [val, Nat.mul_zero, Nat.add_zero]
        rw [hinv', hinv, hx', Nat.add_mul, Nat.mul_assoc]
      (repeat' apply And.intro) <;> first | rfl | omega | assumption | (simp; omega) | exact lim_snoc hlw' hca | exact hvv
    · have hi' : i = a.length := by omega
      subst hi'
      (repeat (first | refine v_reg ?_ | refine v_last ?_ | refine vwp_seq ?_ | refine vwp_block ?_ | refine vwp_skip ?_ | refine vwp_exit ?_ | refine vwp_ret ?_ | refine v_cond ?_ | simp only [vm, ite_true, ite_false, eq_self, reduceIte, Nat.reduceEqDiff, Option.map, h1, h5, h20, h21, h22, g] | refine And.intro (by omega) ?_))
      rw [List.take_length] at hinv
      refine ⟨w, by omega, hlw, hinv, ?_⟩
      have e0 : w ++ List.replicate (a.length - a.length) 0 = w := by simp
      rw [e0]
      (repeat' apply And.intro) <;> first | rfl | omega | assumption
  rintro ⟨ρ3, σ, c5⟩ ⟨w, hw, hlw, hvw, h5, hσ, hc5⟩
  dsimp only at h5 hσ hc5
  subst hσ
  refine v_freeze 5 (t := c) (off := 0) (n := a.length + b.length) (cap := some (a.length + b.length)) (l := w) (by simp only [vm, ite_true, ite_false, eq_self, reduceIte, Nat.reduceEqDiff, Option.map, h5]) (by simp only [vm, ite_true, ite_false, eq_self, reduceIte, Nat.reduceEqDiff, Option.map]) (by omega) (by omega) ?_
  rw [List.drop_zero, show w.take (a.length + b.length) = w from List.take_of_length_le (by omega)]
  (repeat (first | refine v_reg ?_ | refine v_last ?_ | refine vwp_seq ?_ | refine vwp_block ?_ | refine vwp_skip ?_ | refine vwp_exit ?_ | refine vwp_ret ?_ | refine v_cond ?_ | simp only [vm, ite_true, ite_false, eq_self, reduceIte, Nat.reduceEqDiff, Option.map] | refine And.intro (by omega) ?_))
  exact ⟨w, c, rfl, by omega, by omega, hlw, hw, hvw⟩
end Go.Proofs.YtacodmnlnlbahabDoor
set_option linter.unusedSimpArgs false
set_option linter.unusedVariables false
set_option maxRecDepth 100000
set_option maxHeartbeats 4000000
namespace Go.Proofs.YtacodmnlnlbahabDoor
open Go.VM

/-- an answer of a product, of any length, in memory of its own -/
def RawR (c c' n m : Nat) (r : V) : Prop := ∃ l i, r = nats (.id i) l ∧ c ≤ i ∧ i < c' ∧ Lim 18446744073709551616 l ∧ l.length ≤ m ∧ val 18446744073709551616 l = n

theorem kar (X0 X1 Y0 Y1 P : Nat) : X0 * Y0 + P * ((X0 + X1) * (Y0 + Y1) - X0 * Y0 - X1 * Y1) + P * P * (X1 * Y1) = (X0 + P * X1) * (Y0 + P * Y1) ∧ X0 * Y0 ≤ (X0 + X1) * (Y0 + Y1) ∧ X1 * Y1 ≤ (X0 + X1) * (Y0 + Y1) - X0 * Y0 := by
  have e : (X0 + X1) * (Y0 + Y1) = X0 * Y0 + X0 * Y1 + X1 * Y0 + X1 * Y1 := by rw [Nat.add_mul, Nat.mul_add, Nat.mul_add]; omega
  have e2 : (X0 + X1) * (Y0 + Y1) - X0 * Y0 - X1 * Y1 = X0 * Y1 + X1 * Y0 := by omega
  have e3 : (X0 + P * X1) * (Y0 + P * Y1) = X0 * Y0 + P * (X0 * Y1 + X1 * Y0) + P * P * (X1 * Y1) := by
    simp only [Nat.add_mul, Nat.mul_add]
    rw [Nat.mul_left_comm X0 P Y1, Nat.mul_assoc P X1 Y0, show P * X1 * (P * Y1) = P * P * (X1 * Y1) by rw [Nat.mul_mul_mul_comm]]
    omega
  rw [e2, e3]
  exact ⟨rfl, by omega, by omega⟩
theorem prod_lt {x y : List Nat} (hx : Lim 18446744073709551616 x) (hy : Lim 18446744073709551616 y) : val 18446744073709551616 x * val 18446744073709551616 y < 18446744073709551616 ^ (x.length + y.length) := by
  rw [Nat.pow_add]
  exact Nat.mul_lt_mul'' (val_lt hx) (val_lt hy)

theorem halved_spec : ∀ (m0 : Nat) (t u : Tok) (a b : List Nat) (c : Nat), a.length + b.length = m0 → Lim 18446744073709551616 a → Lim 18446744073709551616 b → a.length ≤ 549755813888 → b.length ≤ 549755813888 →
    VSpec Tryd.prog F.mul_halved c [nats t a, nats u b, iv 40] (fun r c' => RawR c c' (val 18446744073709551616 a * val 18446744073709551616 b) (a.length + b.length + 1) r) := by
  intro m0
  induction m0 using Nat.strongRecOn with
  | _ m0 ih =>
  intro t u a b c hN ha hb hna hnb
  refine spec_mk hm E.mul_halved B.mul_halved K.mul_halved Q.mul_halved (by rw [N.mul_halved]; simp) ?_
  unfold C.mul_halved R.mul_halved
  (repeat (first | refine v_reg ?_ | refine v_last ?_ | refine vwp_seq ?_ | refine vwp_block ?_ | refine vwp_skip ?_ | refine vwp_exit ?_ | refine vwp_ret ?_ | refine v_cond ?_)); simp only [vm, ite_true, ite_false, eq_self, reduceIte, Nat.reduceEqDiff, Option.map]
  refine v_cut (fun S => ∃ t u x y, S.ρ 0 = nats t x ∧ S.ρ 1 = nats u y ∧ S.ρ 2 = iv 40 ∧ Lim 18446744073709551616 x ∧ Lim 18446744073709551616 y ∧ y.length ≤ x.length ∧ x.length + y.length = m0 ∧ x.length ≤ 549755813888 ∧ val 18446744073709551616 x * val 18446744073709551616 y = val 18446744073709551616 a * val 18446744073709551616 b ∧ S.σ = noBlk ∧ S.c = c) ?_ ?_
  · (repeat (first | refine v_reg ?_ | refine v_last ?_ | refine vwp_seq ?_ | refine vwp_block ?_ | refine vwp_skip ?_ | refine vwp_exit ?_ | refine vwp_ret ?_ | refine v_cond ?_ | simp only [vm, ite_true, ite_false, eq_self, reduceIte, Nat.reduceEqDiff, Option.map] | refine And.intro (by omega) ?_))
    refine ⟨fun g => ?_, fun g => ?_⟩
    · (repeat (first | refine v_reg ?_ | refine v_last ?_ | refine vwp_seq ?_ | refine vwp_block ?_ | refine vwp_skip ?_ | refine vwp_exit ?_ | refine vwp_ret ?_ | refine v_cond ?_ | simp only [vm, ite_true, ite_false, eq_self, reduceIte, Nat.reduceEqDiff, Option.map] | refine And.intro (by omega) ?_))
      exact ⟨u, t, b, a, rfl, rfl, hb, ha, by omega, by omega, by omega, Nat.mul_comm _ _⟩
    · refine vwp_skip ?_
      simp only [vm, ite_true, ite_false, eq_self, reduceIte, Nat.reduceEqDiff, Option.map]
      exact ⟨t, u, a, b, rfl, rfl, ha, hb, by omega, hN, by omega, rfl⟩
  rintro ⟨ρ, σ, c1⟩ ⟨t, u, x, y, h0, h1, h2, hx, hy, hyx, hN2, hxn, hv, hσ, hc1⟩
  dsimp only at h0 h1 h2 hσ hc1
  subst hσ hc1
  rw [← hv, hN, ← hN2]
  by_cases g1 : (y.length : Int) < 40
  · (repeat (first | refine v_reg ?_ | refine v_last ?_ | refine vwp_seq ?_ | refine vwp_block ?_ | refine vwp_skip ?_ | refine vwp_exit ?_ | refine vwp_ret ?_ | refine v_cond ?_ | simp only [vm, ite_true, ite_false, eq_self, reduceIte, Nat.reduceEqDiff, Option.map, h0, h1, h2, g1] | refine And.intro (by omega) ?_))
    refine s_call (school_spec t u x y c1 hx hy (by omega) (by omega)) (by simp only [vm, ite_true, ite_false, eq_self, reduceIte, Nat.reduceEqDiff, Option.map, List.map, h0, h1]) ?_
    rintro v c2 hc2 ⟨l, i, rfl, hi1, hi2, hl, hll, hlv⟩
    (repeat (first | refine v_reg ?_ | refine v_last ?_ | refine vwp_seq ?_ | refine vwp_block ?_ | refine vwp_skip ?_ | refine vwp_exit ?_ | refine vwp_ret ?_ | refine v_cond ?_ | simp only [vm, ite_true, ite_false, eq_self, reduceIte, Nat.reduceEqDiff, Option.map, h0, h1] | refine And.intro (by omega) ?_))
    exact ⟨l, i, rfl, hi1, hi2, hl, by omega, hlv⟩
  have ek : ((x.length : Int) + 1) / 2 = (((x.length + 1) / 2 : Nat) : Int) := by omega
  have hk1 : (x.length + 1) / 2 ≤ x.length := by omega
  have hk2 : 2 * ((x.length + 1) / 2) ≤ x.length + 1 := by omega
  have hk3 : 20 ≤ (x.length + 1) / 2 := by omega
  have hXY := prod_lt hx hy
  have hXd := val_take_drop 18446744073709551616 ((x.length + 1) / 2) x hk1
  have hx0 : (x.drop 0).take ((x.length + 1) / 2 - 0) = x.take ((x.length + 1) / 2) := by simp
  have hx1 : (x.drop ((x.length + 1) / 2)).take (x.length - (x.length + 1) / 2) = x.drop ((x.length + 1) / 2) := List.take_of_length_le (by simp)
  have hxl : ((x.length + 1) / 2) + (x.length - (x.length + 1) / 2) = x.length := by omega
  generalize (x.length + 1) / 2 = k at *
  have hpow : 18446744073709551616 ^ (x.length + y.length) ≤ 18446744073709551616 ^ (x.length + y.length + 1) := Nat.pow_le_pow_right (by decide) (by omega)
  by_cases g2 : (y.length : Int) ≤ k
  · (repeat (first | refine v_reg ?_ | refine v_last ?_ | refine vwp_seq ?_ | refine vwp_block ?_ | refine vwp_skip ?_ | refine vwp_exit ?_ | refine vwp_ret ?_ | refine v_cond ?_ | simp only [vm, ite_true, ite_false, eq_self, reduceIte, Nat.reduceEqDiff, Option.map, h0, h1, h2, g1, g2, ek] | refine And.intro (by omega) ?_))
    refine s_mk (n := x.length + y.length + 1) (m := x.length + y.length + 1) (by simp only [vm, ite_true, ite_false, eq_self, reduceIte, Nat.reduceEqDiff, Option.map, h0, h1]; rfl) (by simp only [vm, ite_true, ite_false, eq_self, reduceIte, Nat.reduceEqDiff, Option.map, h0, h1]; rfl) (Nat.le_refl _) (by omega) ?_
    (repeat (first | refine v_reg ?_ | refine v_last ?_ | refine vwp_seq ?_ | refine vwp_block ?_ | refine vwp_skip ?_ | refine vwp_exit ?_ | refine vwp_ret ?_ | refine v_cond ?_ | simp only [vm, ite_true, ite_false, eq_self, reduceIte, Nat.reduceEqDiff, Option.map, h0, h1, h2] | refine And.intro (by omega) ?_))
    refine s_call (part_spec t x 0 k _ hx (by omega) (by omega)) (by simp only [vm, ite_true, ite_false, eq_self, reduceIte, Nat.reduceEqDiff, Option.map, List.map]; rfl) ?_
    rintro v c2 hc2 ⟨tk0, l0, rfl, hl0, hl0a, hl0b, hl0v⟩
    rw [hx0] at hl0v
    (repeat (first | refine v_reg ?_ | refine v_last ?_ | refine vwp_seq ?_ | refine vwp_block ?_ | refine vwp_skip ?_ | refine vwp_exit ?_ | refine vwp_ret ?_ | refine v_cond ?_ | simp only [vm, ite_true, ite_false, eq_self, reduceIte, Nat.reduceEqDiff, Option.map, h0, h1, h2] | refine And.intro (by omega) ?_))
    refine s_call (ih _ (by omega) tk0 u l0 y c2 rfl hl0 hy (by omega) (by omega)) (by simp only [vm, ite_true, ite_false, eq_self, reduceIte, Nat.reduceEqDiff, Option.map, List.map]) ?_
    rintro v c3 hc3 ⟨p0, i0, rfl, hi01, hi02, hp0, hp0l, hp0v⟩
    rw [hl0v] at hp0v
    have hroom : val 18446744073709551616 (List.replicate (x.length + y.length + 1) 0) + 18446744073709551616 ^ 0 * val 18446744073709551616 p0 < 18446744073709551616 ^ (x.length + y.length + 1) := by
      rw [val_replicate, Nat.zero_add, Nat.pow_zero, Nat.one_mul, hp0v]
      refine Nat.lt_of_le_of_lt (Nat.mul_le_mul_right _ ?_) (Nat.lt_of_lt_of_le hXY hpow)
      rw [hXd]; exact Nat.le_add_right _ _
    (repeat (first | refine v_reg ?_ | refine v_last ?_ | refine vwp_seq ?_ | refine vwp_block ?_ | refine vwp_skip ?_ | refine vwp_exit ?_ | refine vwp_ret ?_ | refine v_cond ?_ | simp only [vm, ite_true, ite_false, eq_self, reduceIte, Nat.reduceEqDiff, Option.map, h0, h1, h2] | refine And.intro (by omega) ?_))
    refine s_call1 c1 (l := List.replicate (x.length + y.length + 1) 0) (by simp only [vm, ite_true, ite_false, eq_self, reduceIte, Nat.reduceEqDiff, Option.map]) (fun s hs => by simp only [vm, ite_true, ite_false, eq_self, reduceIte, Nat.reduceEqDiff, Option.map]; rw [if_neg (by omega)]; rfl) (addAt_spec c1 (.id i0) _ p0 0 (x.length + y.length + 1) c3 (some (x.length + y.length + 1)) (Lim.replicate (by decide)) hp0 (by simp) (by omega) (by omega) (by omega) hroom) (by simp only [vm, ite_true, ite_false, eq_self, reduceIte, Nat.reduceEqDiff, Option.map, List.map]; rfl) ?_
    rintro v σ' c4 hc4 ⟨rfl, w, hσ', hwn, hwl, hwv⟩
    rw [hσ']
    rw [val_replicate, Nat.zero_add, Nat.pow_zero, Nat.one_mul, hp0v] at hwv
    (repeat (first | refine v_reg ?_ | refine v_last ?_ | refine vwp_seq ?_ | refine vwp_block ?_ | refine vwp_skip ?_ | refine vwp_exit ?_ | refine vwp_ret ?_ | refine v_cond ?_ | simp only [vm, ite_true, ite_false, eq_self, reduceIte, Nat.reduceEqDiff, Option.map, h0, h1, h2] | refine And.intro (by omega) ?_))
    refine s_call (part_spec t x k x.length _ hx (by omega) (by omega)) (by simp only [vm, ite_true, ite_false, eq_self, reduceIte, Nat.reduceEqDiff, Option.map, List.map]) ?_
    rintro v c5 hc5 ⟨tk1, l1, rfl, hl1, hl1a, hl1b, hl1v⟩
    rw [hx1] at hl1v
    (repeat (first | refine v_reg ?_ | refine v_last ?_ | refine vwp_seq ?_ | refine vwp_block ?_ | refine vwp_skip ?_ | refine vwp_exit ?_ | refine vwp_ret ?_ | refine v_cond ?_ | simp only [vm, ite_true, ite_false, eq_self, reduceIte, Nat.reduceEqDiff, Option.map, h0, h1, h2] | refine And.intro (by omega) ?_))
    refine s_call (ih _ (by omega) tk1 u l1 y c5 rfl hl1 hy (by omega) (by omega)) (by simp only [vm, ite_true, ite_false, eq_self, reduceIte, Nat.reduceEqDiff, Option.map, List.map]) ?_
    rintro v c6 hc6 ⟨p1, i1, rfl, hi11, hi12, hp1, hp1l, hp1v⟩
    rw [hl1v] at hp1v
    have htot : val 18446744073709551616 w + 18446744073709551616 ^ k * val 18446744073709551616 p1 = val 18446744073709551616 x * val 18446744073709551616 y := by
      rw [hwv, hp1v, hXd, Nat.add_mul, Nat.mul_assoc]
    (repeat (first | refine v_reg ?_ | refine v_last ?_ | refine vwp_seq ?_ | refine vwp_block ?_ | refine vwp_skip ?_ | refine vwp_exit ?_ | refine vwp_ret ?_ | refine v_cond ?_ | simp only [vm, ite_true, ite_false, eq_self, reduceIte, Nat.reduceEqDiff, Option.map, h0, h1, h2] | refine And.intro (by omega) ?_))
    refine s_call1 c1 (l := w) (by simp only [vm, ite_true, ite_false, eq_self, reduceIte, Nat.reduceEqDiff, Option.map]) (fun s hs => by simp only [vm, ite_true, ite_false, eq_self, reduceIte, Nat.reduceEqDiff, Option.map]; rw [if_neg (by omega)]; rfl) (addAt_spec c1 (.id i1) w p1 k (x.length + y.length + 1) c6 (some (x.length + y.length + 1)) hwl hp1 hwn (by omega) (by omega) (by omega) (by rw [htot]; exact Nat.lt_of_lt_of_le hXY hpow)) (by simp only [vm, ite_true, ite_false, eq_self, reduceIte, Nat.reduceEqDiff, Option.map, List.map]) ?_
    rintro v σ' c7 hc7 ⟨rfl, w2, hσ', hw2n, hw2l, hw2v⟩
    rw [hσ']
    rw [htot] at hw2v
    simp only [vm, ite_true, ite_false, eq_self, reduceIte, Nat.reduceEqDiff, Option.map]
    refine v_freeze 8 (t := c1) (off := 0) (n := x.length + y.length + 1) (cap := some (x.length + y.length + 1)) (l := w2) (by simp only [vm, ite_true, ite_false, eq_self, reduceIte, Nat.reduceEqDiff, Option.map]) (by simp only [vm, ite_true, ite_false, eq_self, reduceIte, Nat.reduceEqDiff, Option.map]) (by omega) (by omega) ?_
    rw [List.drop_zero, show w2.take (x.length + y.length + 1) = w2 from List.take_of_length_le (by omega)]
    (repeat (first | refine v_reg ?_ | refine v_last ?_ | refine vwp_seq ?_ | refine vwp_block ?_ | refine vwp_skip ?_ | refine vwp_exit ?_ | refine vwp_ret ?_ | refine v_cond ?_ | simp only [vm, ite_true, ite_false, eq_self, reduceIte, Nat.reduceEqDiff, Option.map] | refine And.intro (by omega) ?_))
    exact ⟨w2, c1, rfl, by omega, by omega, hw2l, by omega, hw2v⟩
  have hYd := val_take_drop 18446744073709551616 k y (by omega)
  have hy0 : (y.drop 0).take (k - 0) = y.take k := by simp
  have hy1 : (y.drop k).take (y.length - k) = y.drop k := List.take_of_length_le (by simp)
  obtain ⟨kar1, kar2, kar3⟩ := kar (val 18446744073709551616 (x.take k)) (val 18446744073709551616 (x.drop k)) (val 18446744073709551616 (y.take k)) (val 18446744073709551616 (y.drop k)) (18446744073709551616 ^ k)
  rw [← hXd, ← hYd] at kar1
  generalize hX0 : val 18446744073709551616 (x.take k) = X0 at *
  generalize hX1 : val 18446744073709551616 (x.drop k) = X1 at *
  generalize hY0 : val 18446744073709551616 (y.take k) = Y0 at *
  generalize hY1 : val 18446744073709551616 (y.drop k) = Y1 at *
  (repeat (first | refine v_reg ?_ | refine v_last ?_ | refine vwp_seq ?_ | refine vwp_block ?_ | refine vwp_skip ?_ | refine vwp_exit ?_ | refine vwp_ret ?_ | refine v_cond ?_ | simp only [vm, ite_true, ite_false, eq_self, reduceIte, Nat.reduceEqDiff, Option.map, h0, h1, h2, g1, g2, ek] | refine And.intro (by omega) ?_))
  refine s_call (part_spec t x 0 k _ hx (by omega) (by omega)) (by simp only [vm, ite_true, ite_false, eq_self, reduceIte, Nat.reduceEqDiff, Option.map, List.map]; rfl) ?_
  rintro v c2 hc2 ⟨tk2, al, rfl, hal, hala, halb, halv⟩
  rw [hx0, hX0] at halv
  (repeat (first | refine v_reg ?_ | refine v_last ?_ | refine vwp_seq ?_ | refine vwp_block ?_ | refine vwp_skip ?_ | refine vwp_exit ?_ | refine vwp_ret ?_ | refine v_cond ?_ | simp only [vm, ite_true, ite_false, eq_self, reduceIte, Nat.reduceEqDiff, Option.map, h0, h1, h2] | refine And.intro (by omega) ?_))
  refine s_call (part_spec t x k x.length _ hx (by omega) (by omega)) (by simp only [vm, ite_true, ite_false, eq_self, reduceIte, Nat.reduceEqDiff, Option.map, List.map]) ?_
  rintro v c3 hc3 ⟨tk3, ah, rfl, hah, haha, hahb, hahv⟩
  rw [hx1, hX1] at hahv
  (repeat (first | refine v_reg ?_ | refine v_last ?_ | refine vwp_seq ?_ | refine vwp_block ?_ | refine vwp_skip ?_ | refine vwp_exit ?_ | refine vwp_ret ?_ | refine v_cond ?_ | simp only [vm, ite_true, ite_false, eq_self, reduceIte, Nat.reduceEqDiff, Option.map, h0, h1, h2] | refine And.intro (by omega) ?_))
  refine s_call (part_spec u y 0 k _ hy (by omega) (by omega)) (by simp only [vm, ite_true, ite_false, eq_self, reduceIte, Nat.reduceEqDiff, Option.map, List.map]; rfl) ?_
  rintro v c4 hc4 ⟨tk4, bl', rfl, hbl, hbla, hblb, hblv⟩
  rw [hy0, hY0] at hblv
  (repeat (first | refine v_reg ?_ | refine v_last ?_ | refine vwp_seq ?_ | refine vwp_block ?_ | refine vwp_skip ?_ | refine vwp_exit ?_ | refine vwp_ret ?_ | refine v_cond ?_ | simp only [vm, ite_true, ite_false, eq_self, reduceIte, Nat.reduceEqDiff, Option.map, h0, h1, h2] | refine And.intro (by omega) ?_))
  refine s_call (part_spec u y k y.length _ hy (by omega) (by omega)) (by simp only [vm, ite_true, ite_false, eq_self, reduceIte, Nat.reduceEqDiff, Option.map, List.map]) ?_
  rintro v c5 hc5 ⟨tk5, bh, rfl, hbh, hbha, hbhb, hbhv⟩
  rw [hy1, hY1] at hbhv
  (repeat (first | refine v_reg ?_ | refine v_last ?_ | refine vwp_seq ?_ | refine vwp_block ?_ | refine vwp_skip ?_ | refine vwp_exit ?_ | refine vwp_ret ?_ | refine v_cond ?_ | simp only [vm, ite_true, ite_false, eq_self, reduceIte, Nat.reduceEqDiff, Option.map, h0, h1, h2] | refine And.intro (by omega) ?_))
  refine s_call (ih _ (by omega) tk2 tk4 al bl' c5 rfl hal hbl (by omega) (by omega)) (by simp only [vm, ite_true, ite_false, eq_self, reduceIte, Nat.reduceEqDiff, Option.map, List.map, h2]) ?_
  rintro v c6 hc6 ⟨low, i1, rfl, hi11, hi12, hlow, hlowl, hlowv⟩
  rw [halv, hblv] at hlowv
  (repeat (first | refine v_reg ?_ | refine v_last ?_ | refine vwp_seq ?_ | refine vwp_block ?_ | refine vwp_skip ?_ | refine vwp_exit ?_ | refine vwp_ret ?_ | refine v_cond ?_ | simp only [vm, ite_true, ite_false, eq_self, reduceIte, Nat.reduceEqDiff, Option.map, h0, h1, h2] | refine And.intro (by omega) ?_))
  refine s_call (ih _ (by omega) tk3 tk5 ah bh c6 rfl hah hbh (by omega) (by omega)) (by simp only [vm, ite_true, ite_false, eq_self, reduceIte, Nat.reduceEqDiff, Option.map, List.map, h2]) ?_
  rintro v c7 hc7 ⟨high, i2, rfl, hi21, hi22, hhigh, hhighl, hhighv⟩
  rw [hahv, hbhv] at hhighv
  (repeat (first | refine v_reg ?_ | refine v_last ?_ | refine vwp_seq ?_ | refine vwp_block ?_ | refine vwp_skip ?_ | refine vwp_exit ?_ | refine vwp_ret ?_ | refine v_cond ?_ | simp only [vm, ite_true, ite_false, eq_self, reduceIte, Nat.reduceEqDiff, Option.map, h0, h1, h2] | refine And.intro (by omega) ?_))
  refine s_call (sum_spec tk2 tk3 al ah c7 hal hah (by omega) (by omega)) (by simp only [vm, ite_true, ite_false, eq_self, reduceIte, Nat.reduceEqDiff, Option.map, List.map]) ?_
  rintro v c8 hc8 ⟨sx, i3, rfl, hi31, hi32, hsx, hsxl, hsxv⟩
  rw [halv, hahv] at hsxv
  (repeat (first | refine v_reg ?_ | refine v_last ?_ | refine vwp_seq ?_ | refine vwp_block ?_ | refine vwp_skip ?_ | refine vwp_exit ?_ | refine vwp_ret ?_ | refine v_cond ?_ | simp only [vm, ite_true, ite_false, eq_self, reduceIte, Nat.reduceEqDiff, Option.map, h0, h1, h2] | refine And.intro (by omega) ?_))
  refine s_call (norm_spec (.id i3) sx c8 hsx (by omega)) (by simp only [vm, ite_true, ite_false, eq_self, reduceIte, Nat.reduceEqDiff, Option.map, List.map]) ?_
  rintro v c9 hc9 ⟨t3, rfl, ht3⟩
  have hdx := digs_len_le two64 hsx
  rw [hsxv] at hdx ⊢
  (repeat (first | refine v_reg ?_ | refine v_last ?_ | refine vwp_seq ?_ | refine vwp_block ?_ | refine vwp_skip ?_ | refine vwp_exit ?_ | refine vwp_ret ?_ | refine v_cond ?_ | simp only [vm, ite_true, ite_false, eq_self, reduceIte, Nat.reduceEqDiff, Option.map, h0, h1, h2] | refine And.intro (by omega) ?_))
  refine s_call (sum_spec tk4 tk5 bl' bh c9 hbl hbh (by omega) (by omega)) (by simp only [vm, ite_true, ite_false, eq_self, reduceIte, Nat.reduceEqDiff, Option.map, List.map]) ?_
  rintro v c10 hc10 ⟨sy, i4, rfl, hi41, hi42, hsy, hsyl, hsyv⟩
  rw [hblv, hbhv] at hsyv
  (repeat (first | refine v_reg ?_ | refine v_last ?_ | refine vwp_seq ?_ | refine vwp_block ?_ | refine vwp_skip ?_ | refine vwp_exit ?_ | refine vwp_ret ?_ | refine v_cond ?_ | simp only [vm, ite_true, ite_false, eq_self, reduceIte, Nat.reduceEqDiff, Option.map, h0, h1, h2] | refine And.intro (by omega) ?_))
  refine s_call (norm_spec (.id i4) sy c10 hsy (by omega)) (by simp only [vm, ite_true, ite_false, eq_self, reduceIte, Nat.reduceEqDiff, Option.map, List.map]) ?_
  rintro v c11 hc11 ⟨t4, rfl, ht4⟩
  have hdy := digs_len_le two64 hsy
  rw [hsyv] at hdy ⊢
  (repeat (first | refine v_reg ?_ | refine v_last ?_ | refine vwp_seq ?_ | refine vwp_block ?_ | refine vwp_skip ?_ | refine vwp_exit ?_ | refine vwp_ret ?_ | refine v_cond ?_ | simp only [vm, ite_true, ite_false, eq_self, reduceIte, Nat.reduceEqDiff, Option.map, h0, h1, h2] | refine And.intro (by omega) ?_))
  refine s_call (ih _ (by omega) t3 t4 (digs 18446744073709551616 (X0 + X1)) (digs 18446744073709551616 (Y0 + Y1)) c11 rfl (lim_digs two64 _) (lim_digs two64 _) (by omega) (by omega)) (by simp only [vm, ite_true, ite_false, eq_self, reduceIte, Nat.reduceEqDiff, Option.map, List.map, h2]) ?_
  rintro v c12 hc12 ⟨mid, i5, rfl, hi51, hi52, hmid, hmidl, hmidv⟩
  rw [val_digs two64, val_digs two64] at hmidv
  (repeat (first | refine v_reg ?_ | refine v_last ?_ | refine vwp_seq ?_ | refine vwp_block ?_ | refine vwp_skip ?_ | refine vwp_exit ?_ | refine vwp_ret ?_ | refine v_cond ?_ | simp only [vm, ite_true, ite_false, eq_self, reduceIte, Nat.reduceEqDiff, Option.map, h0, h1, h2] | refine And.intro (by omega) ?_))
  refine s_call (less_spec (.id i5) (.id i1) mid low c12 hmid hlow (by omega) (by omega) (by rw [hmidv, hlowv]; exact kar2)) (by simp only [vm, ite_true, ite_false, eq_self, reduceIte, Nat.reduceEqDiff, Option.map, List.map]) ?_
  rintro v c13 hc13 ⟨m1, i6, rfl, hi61, hi62, hm1, hm1l, hm1v⟩
  rw [hmidv, hlowv] at hm1v
  (repeat (first | refine v_reg ?_ | refine v_last ?_ | refine vwp_seq ?_ | refine vwp_block ?_ | refine vwp_skip ?_ | refine vwp_exit ?_ | refine vwp_ret ?_ | refine v_cond ?_ | simp only [vm, ite_true, ite_false, eq_self, reduceIte, Nat.reduceEqDiff, Option.map, h0, h1, h2] | refine And.intro (by omega) ?_))
  refine s_call (less_spec (.id i6) (.id i2) m1 high c13 hm1 hhigh (by omega) (by omega) (by rw [hm1v, hhighv]; exact kar3)) (by simp only [vm, ite_true, ite_false, eq_self, reduceIte, Nat.reduceEqDiff, Option.map, List.map]) ?_
  rintro v c14 hc14 ⟨m2, i7, rfl, hi71, hi72, hm2, hm2l, hm2v⟩
  rw [hm1v, hhighv] at hm2v
  rw [← hm2v, ← hlowv, ← hhighv] at kar1
  have hpow2 : 18446744073709551616 ^ k * 18446744073709551616 ^ k = 18446744073709551616 ^ (2 * k) := by rw [← Nat.pow_add]; congr 1; omega
  rw [hpow2] at kar1
  have hroomT : val 18446744073709551616 low + 18446744073709551616 ^ k * val 18446744073709551616 m2 + 18446744073709551616 ^ (2 * k) * val 18446744073709551616 high < 18446744073709551616 ^ (x.length + y.length + 1) := by
    rw [kar1]; exact Nat.lt_of_lt_of_le hXY hpow
  (repeat (first | refine v_reg ?_ | refine v_last ?_ | refine vwp_seq ?_ | refine vwp_block ?_ | refine vwp_skip ?_ | refine vwp_exit ?_ | refine vwp_ret ?_ | refine v_cond ?_ | simp only [vm, ite_true, ite_false, eq_self, reduceIte, Nat.reduceEqDiff, Option.map, h0, h1, h2] | refine And.intro (by omega) ?_))
  refine s_mk (n := x.length + y.length + 1) (m := x.length + y.length + 1) (by simp only [vm, ite_true, ite_false, eq_self, reduceIte, Nat.reduceEqDiff, Option.map, h0, h1]; rfl) (by simp only [vm, ite_true, ite_false, eq_self, reduceIte, Nat.reduceEqDiff, Option.map, h0, h1]; rfl) (Nat.le_refl _) (by omega) ?_
  (repeat (first | refine v_reg ?_ | refine v_last ?_ | refine vwp_seq ?_ | refine vwp_block ?_ | refine vwp_skip ?_ | refine vwp_exit ?_ | refine vwp_ret ?_ | refine v_cond ?_ | simp only [vm, ite_true, ite_false, eq_self, reduceIte, Nat.reduceEqDiff, Option.map, h0, h1, h2] | refine And.intro (by omega) ?_))
  refine s_call1 c14 (l := List.replicate (x.length + y.length + 1) 0) (by simp only [vm, ite_true, ite_false, eq_self, reduceIte, Nat.reduceEqDiff, Option.map]) (fun s hs => by simp only [vm, ite_true, ite_false, eq_self, reduceIte, Nat.reduceEqDiff, Option.map]; rw [if_neg (by omega)]; rfl) (addAt_spec c14 (.id i1) _ low 0 (x.length + y.length + 1) (c14 + 1) (some (x.length + y.length + 1)) (Lim.replicate (by decide)) hlow (by simp) (by omega) (by omega) (by omega) (by rw [val_replicate, Nat.zero_add, Nat.pow_zero, Nat.one_mul]; omega)) (by simp only [vm, ite_true, ite_false, eq_self, reduceIte, Nat.reduceEqDiff, Option.map, List.map]; rfl) ?_
  rintro v σ' c15 hc15 ⟨rfl, w, hσ', hwn, hwl, hwv⟩
  rw [hσ']
  rw [val_replicate, Nat.zero_add, Nat.pow_zero, Nat.one_mul] at hwv
  (repeat (first | refine v_reg ?_ | refine v_last ?_ | refine vwp_seq ?_ | refine vwp_block ?_ | refine vwp_skip ?_ | refine vwp_exit ?_ | refine vwp_ret ?_ | refine v_cond ?_ | simp only [vm, ite_true, ite_false, eq_self, reduceIte, Nat.reduceEqDiff, Option.map, h0, h1, h2] | refine And.intro (by omega) ?_))
  refine s_call1 c14 (l := w) (by simp only [vm, ite_true, ite_false, eq_self, reduceIte, Nat.reduceEqDiff, Option.map]) (fun s hs => by simp only [vm, ite_true, ite_false, eq_self, reduceIte, Nat.reduceEqDiff, Option.map]; rw [if_neg (by omega)]; rfl) (addAt_spec c14 (.id i7) w m2 k (x.length + y.length + 1) c15 (some (x.length + y.length + 1)) hwl hm2 hwn (by omega) (by omega) (by omega) (by rw [hwv]; omega)) (by simp only [vm, ite_true, ite_false, eq_self, reduceIte, Nat.reduceEqDiff, Option.map, List.map]) ?_
  rintro v σ' c16 hc16 ⟨rfl, w2, hσ', hw2n, hw2l, hw2v⟩
  rw [hσ']
  rw [hwv] at hw2v
  have e2k : 2 * (k : Int) = ((2 * k : Nat) : Int) := by omega
  (repeat (first | refine v_reg ?_ | refine v_last ?_ | refine vwp_seq ?_ | refine vwp_block ?_ | refine vwp_skip ?_ | refine vwp_exit ?_ | refine vwp_ret ?_ | refine v_cond ?_ | simp only [vm, ite_true, ite_false, eq_self, reduceIte, Nat.reduceEqDiff, Option.map, h0, h1, h2, e2k] | refine And.intro (by omega) ?_))
  refine s_call1 c14 (l := w2) (by simp only [vm, ite_true, ite_false, eq_self, reduceIte, Nat.reduceEqDiff, Option.map]) (fun s hs => by simp only [vm, ite_true, ite_false, eq_self, reduceIte, Nat.reduceEqDiff, Option.map]; rw [if_neg (by omega)]; rfl) (addAt_spec c14 (.id i2) w2 high (2 * k) (x.length + y.length + 1) c16 (some (x.length + y.length + 1)) hw2l hhigh hw2n (by omega) (by omega) (by omega) (by rw [hw2v]; exact hroomT)) (by simp only [vm, ite_true, ite_false, eq_self, reduceIte, Nat.reduceEqDiff, Option.map, List.map]) ?_
  rintro v σ' c17 hc17 ⟨rfl, w3, hσ', hw3n, hw3l, hw3v⟩
  rw [hσ']
  rw [hw2v, kar1] at hw3v
  simp only [vm, ite_true, ite_false, eq_self, reduceIte, Nat.reduceEqDiff, Option.map]
  refine v_freeze 16 (t := c14) (off := 0) (n := x.length + y.length + 1) (cap := some (x.length + y.length + 1)) (l := w3) (by simp only [vm, ite_true, ite_false, eq_self, reduceIte, Nat.reduceEqDiff, Option.map]) (by simp only [vm, ite_true, ite_false, eq_self, reduceIte, Nat.reduceEqDiff, Option.map]) (by omega) (by omega) ?_
  rw [List.drop_zero, show w3.take (x.length + y.length + 1) = w3 from List.take_of_length_le (by omega)]
  (repeat (first | refine v_reg ?_ | refine v_last ?_ | refine vwp_seq ?_ | refine vwp_block ?_ | refine vwp_skip ?_ | refine vwp_exit ?_ | refine vwp_ret ?_ | refine v_cond ?_ | simp only [vm, ite_true, ite_false, eq_self, reduceIte, Nat.reduceEqDiff, Option.map] | refine And.intro (by omega) ?_))
  exact ⟨w3, c14, rfl, by omega, by omega, hw3l, by omega, hw3v⟩
end Go.Proofs.YtacodmnlnlbahabDoor
set_option linter.unusedSimpArgs false
set_option linter.unusedVariables false
set_option maxRecDepth 100000
set_option maxHeartbeats 4000000
namespace Go.Proofs.YtacodmnlnlbahabDoor
open Go.VM

theorem mfits_spec (t : Tok) (l : List Nat) (c : Nat) (hl : Lim 18446744073709551616 l) (hn : l.length ≤ 4398046511104) : VSpec Tryd.prog F.mul_fits c [nats t l] (fun r c' => Told c c' (val 18446744073709551616 l) r) := by
  refine spec_mk hm E.mul_fits B.mul_fits K.mul_fits Q.mul_fits (by rw [N.mul_fits]; simp) ?_
  unfold C.mul_fits R.mul_fits
  have hlen := digs_len_le two64 hl
  (repeat (first | refine v_reg ?_ | refine v_last ?_ | refine vwp_seq ?_ | refine vwp_block ?_ | refine vwp_skip ?_ | refine vwp_exit ?_ | refine vwp_ret ?_ | refine v_cond ?_ | simp only [vm, ite_true, ite_false, eq_self, reduceIte, Nat.reduceEqDiff, Option.map] | refine And.intro (by omega) ?_))
  refine s_call (norm_spec t l c hl hn) (by simp only [vm, ite_true, ite_false, eq_self, reduceIte, Nat.reduceEqDiff, Option.map, List.map]) ?_
  rintro v c2 hc2 ⟨t2, rfl, ht2⟩
  (repeat (first | refine v_reg ?_ | refine v_last ?_ | refine vwp_seq ?_ | refine vwp_block ?_ | refine vwp_skip ?_ | refine vwp_exit ?_ | refine vwp_ret ?_ | refine v_cond ?_ | simp only [vm, ite_true, ite_false, eq_self, reduceIte, Nat.reduceEqDiff, Option.map] | refine And.intro (by omega) ?_))
  refine s_call (length_spec t2 (digs 18446744073709551616 (val 18446744073709551616 l)) c2 (lim_digs two64 _) (by omega)) (by simp only [vm, ite_true, ite_false, eq_self, reduceIte, Nat.reduceEqDiff, Option.map, List.map]) ?_
  rintro v c3 hc3 rfl
  rw [val_digs two64]
  (repeat (first | refine v_reg ?_ | refine v_last ?_ | refine vwp_seq ?_ | refine vwp_block ?_ | refine vwp_skip ?_ | refine vwp_exit ?_ | refine vwp_ret ?_ | refine v_cond ?_ | simp only [vm, ite_true, ite_false, eq_self, reduceIte, Nat.reduceEqDiff, Option.map] | refine And.intro (by omega) ?_))
  refine ⟨fun g => ?_, fun g => ?_⟩
  · (repeat (first | refine v_reg ?_ | refine v_last ?_ | refine vwp_seq ?_ | refine vwp_block ?_ | refine vwp_skip ?_ | refine vwp_exit ?_ | refine vwp_ret ?_ | refine v_cond ?_ | simp only [vm, ite_true, ite_false, eq_self, reduceIte, Nat.reduceEqDiff, Option.map] | refine And.intro (by omega) ?_))
    exact .inr ⟨by omega, rfl⟩
  · (repeat (first | refine v_reg ?_ | refine v_last ?_ | refine vwp_seq ?_ | refine vwp_block ?_ | refine vwp_skip ?_ | refine vwp_exit ?_ | refine vwp_ret ?_ | refine v_cond ?_ | simp only [vm, ite_true, ite_false, eq_self, reduceIte, Nat.reduceEqDiff, Option.map] | refine And.intro (by omega) ?_))
    exact .inl ⟨by omega, t2, rfl, ht2.mono (Nat.le_refl _) hc3⟩

theorem great_spec (t u : Tok) (a b : List Nat) (c : Nat) (ha : Lim 18446744073709551616 a) (hb : Lim 18446744073709551616 b) (hna : a.length ≤ 1099511627776) (hnb : b.length ≤ 1099511627776) :
    VSpec Tryd.prog F.mul_great c [nats t a, nats u b] (fun r c' => ∃ g, r = bv g ∧ (g = true → 67108864 < bl (val 18446744073709551616 a * val 18446744073709551616 b)) ∧ (g = false → a.length + b.length ≤ 4398046511104)) := by
  refine spec_mk hm E.mul_great B.mul_great K.mul_great Q.mul_great (by rw [N.mul_great]; simp) ?_
  unfold C.mul_great R.mul_great
  have h1 : bl (val 18446744073709551616 a) ≤ 64 * a.length := by
    refine bl_le ?_
    have := val_lt ha
    rw [pow64] at this
    exact this
  have h2 : bl (val 18446744073709551616 b) ≤ 64 * b.length := by
    refine bl_le ?_
    have := val_lt hb
    rw [pow64] at this
    exact this
  (repeat (first | refine v_reg ?_ | refine v_last ?_ | refine vwp_seq ?_ | refine vwp_block ?_ | refine vwp_skip ?_ | refine vwp_exit ?_ | refine vwp_ret ?_ | refine v_cond ?_ | simp only [vm, ite_true, ite_false, eq_self, reduceIte, Nat.reduceEqDiff, Option.map] | refine And.intro (by omega) ?_))
  refine s_call (length_spec t a c ha (by omega)) (by simp only [vm, ite_true, ite_false, eq_self, reduceIte, Nat.reduceEqDiff, Option.map, List.map]) ?_
  rintro v c2 hc2 rfl
  (repeat (first | refine v_reg ?_ | refine v_last ?_ | refine vwp_seq ?_ | refine vwp_block ?_ | refine vwp_skip ?_ | refine vwp_exit ?_ | refine vwp_ret ?_ | refine v_cond ?_ | simp only [vm, ite_true, ite_false, eq_self, reduceIte, Nat.reduceEqDiff, Option.map] | refine And.intro (by omega) ?_))
  refine s_call (length_spec u b c2 hb (by omega)) (by simp only [vm, ite_true, ite_false, eq_self, reduceIte, Nat.reduceEqDiff, Option.map, List.map]) ?_
  rintro v c3 hc3 rfl
  by_cases g1 : (0 : Int) < bl (val 18446744073709551616 a)
  · by_cases g2 : (0 : Int) < bl (val 18446744073709551616 b)
    · (repeat (first | refine v_reg ?_ | refine v_last ?_ | refine vwp_seq ?_ | refine vwp_block ?_ | refine vwp_skip ?_ | refine vwp_exit ?_ | refine vwp_ret ?_ | refine v_cond ?_ | simp only [vm, ite_true, ite_false, eq_self, reduceIte, Nat.reduceEqDiff, Option.map, g1, g2] | refine And.intro (by omega) ?_))
      refine ⟨_, rfl, fun h => ?_, fun _ => by omega⟩
      have h := of_decide_eq_true h
      have p1 := le_of_bl (n := val 18446744073709551616 a) (by rcases Nat.eq_zero_or_pos (val 18446744073709551616 a) with e | e; rw [e] at g1; simp [bl] at g1; exact e)
      have p2 := le_of_bl (n := val 18446744073709551616 b) (by rcases Nat.eq_zero_or_pos (val 18446744073709551616 b) with e | e; rw [e] at g2; simp [bl] at g2; exact e)
      have p3 := Nat.mul_le_mul p1 p2
      rw [← Nat.pow_add] at p3
      have p4 : ¬ bl (val 18446744073709551616 a * val 18446744073709551616 b) ≤ bl (val 18446744073709551616 a) - 1 + (bl (val 18446744073709551616 b) - 1) := fun h => by
        have := lt_of_bl h
        omega
      omega
    · (repeat (first | refine v_reg ?_ | refine v_last ?_ | refine vwp_seq ?_ | refine vwp_block ?_ | refine vwp_skip ?_ | refine vwp_exit ?_ | refine vwp_ret ?_ | refine v_cond ?_ | simp only [vm, ite_true, ite_false, eq_self, reduceIte, Nat.reduceEqDiff, Option.map, g1, g2] | refine And.intro (by omega) ?_))
      exact ⟨_, rfl, (fun h => by cases h), fun _ => by omega⟩
  · (repeat (first | refine v_reg ?_ | refine v_last ?_ | refine vwp_seq ?_ | refine vwp_block ?_ | refine vwp_skip ?_ | refine vwp_exit ?_ | refine vwp_ret ?_ | refine v_cond ?_ | simp only [vm, ite_true, ite_false, eq_self, reduceIte, Nat.reduceEqDiff, Option.map, g1] | refine And.intro (by omega) ?_))
    exact ⟨_, rfl, (fun h => by cases h), fun _ => by omega⟩
end Go.Proofs.YtacodmnlnlbahabDoor
set_option linter.unusedSimpArgs false
set_option linter.unusedVariables false
set_option maxRecDepth 100000
set_option maxHeartbeats 4000000
namespace Go.Proofs.YtacodmnlnlbahabDoor
open Go.VM

theorem mul1_spec (t u : Tok) (a b : List Nat) (c : Nat) (ha : Lim 18446744073709551616 a) (hb : Lim 18446744073709551616 b) (hna : a.length ≤ 549755813888) (hnb : b.length ≤ 549755813888) :
    VSpec Tryd.prog F.mul_Mul_1 c [nats t a, nats u b] (fun r c' => RawR c c' (val 18446744073709551616 a * val 18446744073709551616 b) (a.length + b.length + 1) r) := by
  refine spec_mk hm E.mul_Mul_1 B.mul_Mul_1 K.mul_Mul_1 Q.mul_Mul_1 (by rw [N.mul_Mul_1]; simp) ?_
  unfold C.mul_Mul_1 R.mul_Mul_1
  (repeat (first | refine v_reg ?_ | refine v_last ?_ | refine vwp_seq ?_ | refine vwp_block ?_ | refine vwp_skip ?_ | refine vwp_exit ?_ | refine vwp_ret ?_ | refine v_cond ?_ | simp only [vm, ite_true, ite_false, eq_self, reduceIte, Nat.reduceEqDiff, Option.map] | refine And.intro (by omega) ?_))
  refine s_call (halved_spec _ t u a b c rfl ha hb hna hnb) (by simp only [vm, ite_true, ite_false, eq_self, reduceIte, Nat.reduceEqDiff, Option.map, List.map]) ?_
  rintro v c2 hc2 ⟨l, i, rfl, h1, h2, h3, h4, h5⟩
  (repeat (first | refine v_reg ?_ | refine v_last ?_ | refine vwp_seq ?_ | refine vwp_block ?_ | refine vwp_skip ?_ | refine vwp_exit ?_ | refine vwp_ret ?_ | refine v_cond ?_ | simp only [vm, ite_true, ite_false, eq_self, reduceIte, Nat.reduceEqDiff, Option.map] | refine And.intro (by omega) ?_))
  exact ⟨l, i, rfl, h1, h2, h3, h4, h5⟩

theorem product_spec (t u : Tok) (a b : List Nat) (c : Nat) (ha : Lim 18446744073709551616 a) (hb : Lim 18446744073709551616 b) (hna : a.length ≤ 549755813888) (hnb : b.length ≤ 549755813888) :
    VSpec Tryd.prog F.mul_product c [nats t a, nats u b, .lit (.func (.func F.mul_Mul_1) #[] #[])] (fun r c' => Told c c' (val 18446744073709551616 a * val 18446744073709551616 b) r) := by
  refine spec_mk hm E.mul_product B.mul_product K.mul_product Q.mul_product (by rw [N.mul_product]; simp) ?_
  unfold C.mul_product R.mul_product
  have hla := digs_len_le two64 ha
  have hlb := digs_len_le two64 hb
  (repeat (first | refine v_reg ?_ | refine v_last ?_ | refine vwp_seq ?_ | refine vwp_block ?_ | refine vwp_skip ?_ | refine vwp_exit ?_ | refine vwp_ret ?_ | refine v_cond ?_ | simp only [vm, ite_true, ite_false, eq_self, reduceIte, Nat.reduceEqDiff, Option.map] | refine And.intro (by omega) ?_))
  refine s_call (norm_spec t a c ha (by omega)) (by simp only [vm, ite_true, ite_false, eq_self, reduceIte, Nat.reduceEqDiff, Option.map, List.map]) ?_
  rintro v c2 hc2 ⟨t2, rfl, ht2⟩
  (repeat (first | refine v_reg ?_ | refine v_last ?_ | refine vwp_seq ?_ | refine vwp_block ?_ | refine vwp_skip ?_ | refine vwp_exit ?_ | refine vwp_ret ?_ | refine v_cond ?_ | simp only [vm, ite_true, ite_false, eq_self, reduceIte, Nat.reduceEqDiff, Option.map] | refine And.intro (by omega) ?_))
  refine s_call (norm_spec u b c2 hb (by omega)) (by simp only [vm, ite_true, ite_false, eq_self, reduceIte, Nat.reduceEqDiff, Option.map, List.map]) ?_
  rintro v c3 hc3 ⟨u2, rfl, hu2⟩
  have hx := lim_digs two64 (val 18446744073709551616 a)
  have hy := lim_digs two64 (val 18446744073709551616 b)
  have va := val_digs two64 (val 18446744073709551616 a)
  have vb := val_digs two64 (val 18446744073709551616 b)
  (repeat (first | refine v_reg ?_ | refine v_last ?_ | refine vwp_seq ?_ | refine vwp_block ?_ | refine vwp_skip ?_ | refine vwp_exit ?_ | refine vwp_ret ?_ | refine v_cond ?_ | simp only [vm, ite_true, ite_false, eq_self, reduceIte, Nat.reduceEqDiff, Option.map] | refine And.intro (by omega) ?_))
  refine s_call (great_spec t2 u2 _ _ c3 hx hy (by omega) (by omega)) (by simp only [vm, ite_true, ite_false, eq_self, reduceIte, Nat.reduceEqDiff, Option.map, List.map]) ?_
  rintro v c4 hc4 ⟨g, rfl, hg1, hg2⟩
  rw [va, vb] at hg1
  cases g with
  | true =>
    (repeat (first | refine v_reg ?_ | refine v_last ?_ | refine vwp_seq ?_ | refine vwp_block ?_ | refine vwp_skip ?_ | refine vwp_exit ?_ | refine vwp_ret ?_ | refine v_cond ?_ | simp only [vm, ite_true, ite_false, eq_self, reduceIte, Nat.reduceEqDiff, Option.map] | refine And.intro (by omega) ?_))
    exact .inr ⟨hg1 rfl, rfl⟩
  | false =>
    (repeat (first | refine v_reg ?_ | refine v_last ?_ | refine vwp_seq ?_ | refine vwp_block ?_ | refine vwp_skip ?_ | refine vwp_exit ?_ | refine vwp_ret ?_ | refine v_cond ?_ | simp only [vm, ite_true, ite_false, eq_self, reduceIte, Nat.reduceEqDiff, Option.map] | refine And.intro (by omega) ?_))
    refine s_callv (f := F.mul_Mul_1) (by simp only [vm, ite_true, ite_false, eq_self, reduceIte, Nat.reduceEqDiff, Option.map]) ⟨_, _, E.mul_Mul_1, by kernel_rfl, B.mul_Mul_1⟩ (mul1_spec t2 u2 _ _ c4 hx hy (by omega) (by omega)) (by simp only [vm, ite_true, ite_false, eq_self, reduceIte, Nat.reduceEqDiff, Option.map, List.map]) ?_
    rintro v c5 hc5 ⟨l, i, rfl, h1, h2, h3, h4, h5⟩
    rw [va, vb] at h5
    (repeat (first | refine v_reg ?_ | refine v_last ?_ | refine vwp_seq ?_ | refine vwp_block ?_ | refine vwp_skip ?_ | refine vwp_exit ?_ | refine vwp_ret ?_ | refine v_cond ?_ | simp only [vm, ite_true, ite_false, eq_self, reduceIte, Nat.reduceEqDiff, Option.map] | refine And.intro (by omega) ?_))
    refine s_call (mfits_spec (.id i) l c5 h3 (by omega)) (by simp only [vm, ite_true, ite_false, eq_self, reduceIte, Nat.reduceEqDiff, Option.map, List.map]) ?_
    rintro v c6 hc6 (⟨hb1, t6, rfl, ht6⟩ | ⟨hb1, rfl⟩)
    · rw [h5] at hb1 ⊢
      (repeat (first | refine v_reg ?_ | refine v_last ?_ | refine vwp_seq ?_ | refine vwp_block ?_ | refine vwp_skip ?_ | refine vwp_exit ?_ | refine vwp_ret ?_ | refine v_cond ?_ | simp only [vm, ite_true, ite_false, eq_self, reduceIte, Nat.reduceEqDiff, Option.map] | refine And.intro (by omega) ?_))
      exact .inl ⟨hb1, t6, rfl, ht6.mono (by omega) (Nat.le_refl _)⟩
    · rw [h5] at hb1
      (repeat (first | refine v_reg ?_ | refine v_last ?_ | refine vwp_seq ?_ | refine vwp_block ?_ | refine vwp_skip ?_ | refine vwp_exit ?_ | refine vwp_ret ?_ | refine v_cond ?_ | simp only [vm, ite_true, ite_false, eq_self, reduceIte, Nat.reduceEqDiff, Option.map] | refine And.intro (by omega) ?_))
      exact .inr ⟨hb1, rfl⟩

theorem mul_spec (t u : Tok) (a b : List Nat) (c : Nat) (ha : Lim 18446744073709551616 a) (hb : Lim 18446744073709551616 b) (hna : a.length ≤ 549755813888) (hnb : b.length ≤ 549755813888) :
    VSpec Tryd.prog F.mul_Mul c [nats t a, nats u b] (fun r c' => Told c c' (val 18446744073709551616 a * val 18446744073709551616 b) r) := by
  refine spec_mk hm E.mul_Mul B.mul_Mul K.mul_Mul Q.mul_Mul (by rw [N.mul_Mul]; simp) ?_
  unfold C.mul_Mul R.mul_Mul
  (repeat (first | refine v_reg ?_ | refine v_last ?_ | refine vwp_seq ?_ | refine vwp_block ?_ | refine vwp_skip ?_ | refine vwp_exit ?_ | refine vwp_ret ?_ | refine v_cond ?_ | simp only [vm, ite_true, ite_false, eq_self, reduceIte, Nat.reduceEqDiff, Option.map] | refine And.intro (by omega) ?_))
  refine s_call (product_spec t u a b c ha hb hna hnb) (by simp only [vm, ite_true, ite_false, eq_self, reduceIte, Nat.reduceEqDiff, Option.map, List.map]) ?_
  rintro v c2 hc2 (⟨hb1, t6, rfl, ht6⟩ | ⟨hb1, rfl⟩)
  · (repeat (first | refine v_reg ?_ | refine v_last ?_ | refine vwp_seq ?_ | refine vwp_block ?_ | refine vwp_skip ?_ | refine vwp_exit ?_ | refine vwp_ret ?_ | refine v_cond ?_ | simp only [vm, ite_true, ite_false, eq_self, reduceIte, Nat.reduceEqDiff, Option.map] | refine And.intro (by omega) ?_))
    exact .inl ⟨hb1, t6, rfl, ht6⟩
  · (repeat (first | refine v_reg ?_ | refine v_last ?_ | refine vwp_seq ?_ | refine vwp_block ?_ | refine vwp_skip ?_ | refine vwp_exit ?_ | refine vwp_ret ?_ | refine v_cond ?_ | simp only [vm, ite_true, ite_false, eq_self, reduceIte, Nat.reduceEqDiff, Option.map] | refine And.intro (by omega) ?_))
    exact .inr ⟨hb1, rfl⟩

theorem square_spec (t : Tok) (a : List Nat) (c : Nat) (ha : Lim 18446744073709551616 a) (hna : a.length ≤ 549755813888) :
    VSpec Tryd.prog F.mul_Square c [nats t a] (fun r c' => Told c c' (val 18446744073709551616 a * val 18446744073709551616 a) r) := by
  refine spec_mk hm E.mul_Square B.mul_Square K.mul_Square Q.mul_Square (by rw [N.mul_Square]; simp) ?_
  unfold C.mul_Square R.mul_Square
  (repeat (first | refine v_reg ?_ | refine v_last ?_ | refine vwp_seq ?_ | refine vwp_block ?_ | refine vwp_skip ?_ | refine vwp_exit ?_ | refine vwp_ret ?_ | refine v_cond ?_ | simp only [vm, ite_true, ite_false, eq_self, reduceIte, Nat.reduceEqDiff, Option.map] | refine And.intro (by omega) ?_))
  refine s_call (mul_spec t t a a c ha ha hna hna) (by simp only [vm, ite_true, ite_false, eq_self, reduceIte, Nat.reduceEqDiff, Option.map, List.map]) ?_
  rintro v c2 hc2 (⟨hb1, t6, rfl, ht6⟩ | ⟨hb1, rfl⟩)
  · (repeat (first | refine v_reg ?_ | refine v_last ?_ | refine vwp_seq ?_ | refine vwp_block ?_ | refine vwp_skip ?_ | refine vwp_exit ?_ | refine vwp_ret ?_ | refine v_cond ?_ | simp only [vm, ite_true, ite_false, eq_self, reduceIte, Nat.reduceEqDiff, Option.map] | refine And.intro (by omega) ?_))
    exact .inl ⟨hb1, t6, rfl, ht6⟩
  · (repeat (first | refine v_reg ?_ | refine v_last ?_ | refine vwp_seq ?_ | refine vwp_block ?_ | refine vwp_skip ?_ | refine vwp_exit ?_ | refine vwp_ret ?_ | refine v_cond ?_ | simp only [vm, ite_true, ite_false, eq_self, reduceIte, Nat.reduceEqDiff, Option.map] | refine And.intro (by omega) ?_))
    exact .inr ⟨hb1, rfl⟩
end Go.Proofs.YtacodmnlnlbahabDoor
set_option linter.unusedSimpArgs false
set_option linter.unusedVariables false
set_option maxRecDepth 100000
set_option maxHeartbeats 4000000
namespace Go.Proofs.YtacodmnlnlbahabDoor
open Go.VM

theorem pow_spec (t : Tok) (a : List Nat) (n c : Nat) (ha : Lim 18446744073709551616 a) (hna : a.length ≤ 1073741824) (hn : n < 9223372036854775808) :
    VSpec Tryd.prog F.mul_Pow c [nats t a, iv n] (fun r c' => Told c c' (val 18446744073709551616 a ^ n) r) := by
  refine spec_mk hm E.mul_Pow B.mul_Pow K.mul_Pow Q.mul_Pow (by rw [N.mul_Pow]; simp) ?_
  unfold C.mul_Pow R.mul_Pow
  have hla := digs_len_le two64 ha
  have hx := lim_digs two64 (val 18446744073709551616 a)
  have va := val_digs two64 (val 18446744073709551616 a)
  have g1 : ¬ (n : Int) < 0 := by omega
  (repeat (first | refine v_reg ?_ | refine v_last ?_ | refine vwp_seq ?_ | refine vwp_block ?_ | refine vwp_skip ?_ | refine vwp_exit ?_ | refine vwp_ret ?_ | refine v_cond ?_ | simp only [vm, ite_true, ite_false, eq_self, reduceIte, Nat.reduceEqDiff, Option.map, g1] | refine And.intro (by omega) ?_))
  refine s_call (norm_spec t a c ha (by omega)) (by simp only [vm, ite_true, ite_false, eq_self, reduceIte, Nat.reduceEqDiff, Option.map, List.map]) ?_
  rintro v c2 hc2 ⟨t2, rfl, ht2⟩
  by_cases g2 : (n : Int) = 0
  · (repeat (first | refine v_reg ?_ | refine v_last ?_ | refine vwp_seq ?_ | refine vwp_block ?_ | refine vwp_skip ?_ | refine vwp_exit ?_ | refine vwp_ret ?_ | refine v_cond ?_ | simp only [vm, ite_true, ite_false, eq_self, reduceIte, Nat.reduceEqDiff, Option.map, g2] | refine And.intro (by omega) ?_))
    refine s_call (from_spec 1 c2 (by decide)) (by simp only [vm, ite_true, ite_false, eq_self, reduceIte, Nat.reduceEqDiff, Option.map, List.map]) ?_
    rintro v c3 hc3 ⟨t3, rfl, ht3⟩
    (repeat (first | refine v_reg ?_ | refine v_last ?_ | refine vwp_seq ?_ | refine vwp_block ?_ | refine vwp_skip ?_ | refine vwp_exit ?_ | refine vwp_ret ?_ | refine v_cond ?_ | simp only [vm, ite_true, ite_false, eq_self, reduceIte, Nat.reduceEqDiff, Option.map, g2] | refine And.intro (by omega) ?_))
    have hn0 : n = 0 := by omega
    subst hn0
    rw [Nat.pow_zero]
    exact .inl ⟨by decide, t3, rfl, ht3.mono hc2 (Nat.le_refl _)⟩
  (repeat (first | refine v_reg ?_ | refine v_last ?_ | refine vwp_seq ?_ | refine vwp_block ?_ | refine vwp_skip ?_ | refine vwp_exit ?_ | refine vwp_ret ?_ | refine v_cond ?_ | simp only [vm, ite_true, ite_false, eq_self, reduceIte, Nat.reduceEqDiff, Option.map, g2] | refine And.intro (by omega) ?_))
  refine s_call (length_spec t2 _ c2 hx (by omega)) (by simp only [vm, ite_true, ite_false, eq_self, reduceIte, Nat.reduceEqDiff, Option.map, List.map]) ?_
  rintro v c3 hc3 rfl
  rw [va]
  by_cases g3 : (bl (val 18446744073709551616 a) : Int) ≤ 1
  · (repeat (first | refine v_reg ?_ | refine v_last ?_ | refine vwp_seq ?_ | refine vwp_block ?_ | refine vwp_skip ?_ | refine vwp_exit ?_ | refine vwp_ret ?_ | refine v_cond ?_ | simp only [vm, ite_true, ite_false, eq_self, reduceIte, Nat.reduceEqDiff, Option.map, g2, g3] | refine And.intro (by omega) ?_))
    have hA : val 18446744073709551616 a = 0 ∨ val 18446744073709551616 a = 1 := by
      have := lt_of_bl (show bl (val 18446744073709551616 a) ≤ 1 by omega)
      omega
    have : val 18446744073709551616 a ^ n = val 18446744073709551616 a := by
      rcases hA with e | e <;> rw [e]
      · exact Nat.zero_pow (by omega)
      · exact Nat.one_pow n
    rw [this]
    exact .inl ⟨by omega, t2, rfl, ht2.mono (Nat.le_refl _) hc3⟩
  have hA2 : 2 ≤ val 18446744073709551616 a := by
    rcases Nat.lt_or_ge (val 18446744073709551616 a) 2 with g | g
    · have := bl_le (k := 1) g; omega
    · exact g
  have hlow := bl_pow_low (A := val 18446744073709551616 a) (n := n) (by omega)
  have hblA : bl (val 18446744073709551616 a) ≤ 64 * a.length := by
    refine bl_le ?_
    have := val_lt ha
    rw [pow64] at this
    exact this
  by_cases g4 : (67108864 : Int) < n
  · (repeat (first | refine v_reg ?_ | refine v_last ?_ | refine vwp_seq ?_ | refine vwp_block ?_ | refine vwp_skip ?_ | refine vwp_exit ?_ | refine vwp_ret ?_ | refine v_cond ?_ | simp only [vm, ite_true, ite_false, eq_self, reduceIte, Nat.reduceEqDiff, Option.map, g2, g3, g4] | refine And.intro (by omega) ?_))
    refine .inr ⟨?_, rfl⟩
    have : 1 * n ≤ (bl (val 18446744073709551616 a) - 1) * n := Nat.mul_le_mul_right _ (by omega)
    omega
  have hprod : ((bl (val 18446744073709551616 a) : Int) - 1) * n = (((bl (val 18446744073709551616 a) - 1) * n : Nat) : Int) := by
    rw [Int.natCast_mul]; congr 1; omega
  have hprodle : (bl (val 18446744073709551616 a) - 1) * n ≤ 64 * 1073741824 * 67108864 := Nat.mul_le_mul (by omega) (by omega)
  obtain ⟨q, hq⟩ : ∃ q, q = (bl (val 18446744073709551616 a) - 1) * n := ⟨_, rfl⟩
  rw [← hq] at hprod hprodle hlow
  by_cases g5 : (67108864 : Int) < (q : Int) + 1
  · (repeat (first | refine v_reg ?_ | refine v_last ?_ | refine vwp_seq ?_ | refine vwp_block ?_ | refine vwp_skip ?_ | refine vwp_exit ?_ | refine vwp_ret ?_ | refine v_cond ?_ | simp only [vm, ite_true, ite_false, eq_self, reduceIte, Nat.reduceEqDiff, Option.map, g2, g3, g4, hprod, g5] | refine And.intro (by omega) ?_))
    exact .inr ⟨by omega, rfl⟩
  (repeat (first | refine v_reg ?_ | refine v_last ?_ | refine vwp_seq ?_ | refine vwp_block ?_ | refine vwp_skip ?_ | refine vwp_exit ?_ | refine vwp_ret ?_ | refine v_cond ?_ | simp only [vm, ite_true, ite_false, eq_self, reduceIte, Nat.reduceEqDiff, Option.map, g2, g3, g4, hprod, g5] | refine And.intro (by omega) ?_))
  refine s_call (from_spec 1 c3 (by decide)) (by simp only [vm, ite_true, ite_false, eq_self, reduceIte, Nat.reduceEqDiff, Option.map, List.map]) ?_
  rintro v c4 hc4 ⟨t3, rfl, ht3⟩
  (repeat (first | refine v_reg ?_ | refine v_last ?_ | refine vwp_seq ?_ | refine vwp_block ?_ | refine vwp_skip ?_ | refine vwp_exit ?_ | refine vwp_ret ?_ | refine v_cond ?_ | simp only [vm, ite_true, ite_false, eq_self, reduceIte, Nat.reduceEqDiff, Option.map] | refine And.intro (by omega) ?_))
  have ht30 : Tk c c4 t3 := ht3.mono (by omega) (Nat.le_refl _)
  refine v_loopR (fun S => ∃ t, bl (val 18446744073709551616 a ^ n) ≤ 67108864 ∧ Tk c S.c t ∧ S.ρ 7 = nats t (digs 18446744073709551616 (val 18446744073709551616 a ^ n)) ∧ S.σ = noBlk ∧ c3 ≤ S.c) ?_ ?_
  · refine vwp_loop (fun m S => ∃ k t, m = k ∧ k ≤ 63 ∧ bl (val 18446744073709551616 a ^ (n / 2 ^ k)) ≤ 67108864 ∧ Tk c S.c t ∧ S.ρ 0 = nats t2 (digs 18446744073709551616 (val 18446744073709551616 a)) ∧ S.ρ 1 = iv n ∧ S.ρ 7 = nats t (digs 18446744073709551616 (val 18446744073709551616 a ^ (n / 2 ^ k))) ∧ S.ρ 8 = iv ((k : Int) - 1) ∧ S.σ = noBlk ∧ c3 ≤ S.c) 63 ?_ ?_
    · have e0 : n / 2 ^ 63 = 0 := by omega
      refine ⟨63, t3, rfl, ?_⟩
      rw [e0, Nat.pow_zero]
      simp only [vm, ite_true, ite_false, eq_self, reduceIte, Nat.reduceEqDiff, Option.map]
      (repeat' apply And.intro) <;> first | rfl | omega | assumption | decide
    rintro m ⟨ρ2, σ, c5⟩ ⟨k, t4, hm', hk, hb4, ht4, h0, h1, h7, h8, hσ, hc5⟩
    dsimp only at ht4 h0 h1 h7 h8 hσ hc5
    subst hσ
    rcases Nat.eq_zero_or_pos k with rfl | hkp
    · have g : ¬ (0 : Int) ≤ ((0 : Nat) : Int) - 1 := by omega
      rw [Nat.pow_zero, Nat.div_one] at hb4 h7
      (repeat (first | refine v_reg ?_ | refine v_last ?_ | refine vwp_seq ?_ | refine vwp_block ?_ | refine vwp_skip ?_ | refine vwp_exit ?_ | refine vwp_ret ?_ | refine v_cond ?_ | simp only [vm, ite_true, ite_false, eq_self, reduceIte, Nat.reduceEqDiff, Option.map, h8, g] | refine And.intro (by omega) ?_))
      exact ⟨t4, hb4, ht4, h7, hc5⟩
    obtain ⟨i, rfl⟩ : ∃ i, k = i + 1 := ⟨k - 1, by omega⟩
    have e1 : (((i + 1 : Nat) : Int) - 1) = (i : Int) := by omega
    rw [e1] at h8
    have hi0 : (0 : Int) ≤ (i : Int) := by omega
    have emin : min i 64 = i := by omega
    have hpos : 0 < val 18446744073709551616 a ^ (n / 2 ^ (i + 1)) := Nat.pow_pos (by omega)
    have hlen : (digs 18446744073709551616 (val 18446744073709551616 a ^ (n / 2 ^ (i + 1)))).length ≤ 1048576 := digs_len_bl (by omega)
    have hg : (0 : Int) < (digs 18446744073709551616 (val 18446744073709551616 a ^ (n / 2 ^ (i + 1)))).length := by
      have : digs 18446744073709551616 (val 18446744073709551616 a ^ (n / 2 ^ (i + 1))) ≠ [] := fun e => by have := (digs_eq_nil two64).1 e; omega
      have := List.length_pos_iff.2 this
      omega
    have hld := lim_digs two64 (val 18446744073709551616 a ^ (n / 2 ^ (i + 1)))
    have hvd := val_digs two64 (val 18446744073709551616 a ^ (n / 2 ^ (i + 1)))
    have hhalf := pow_half (val 18446744073709551616 a) n i
    have hle : val 18446744073709551616 a ^ (n / 2 ^ i) ≤ val 18446744073709551616 a ^ n := Nat.pow_le_pow_right (by omega) (Nat.div_le_self _ _)
    generalize val 18446744073709551616 a ^ (n / 2 ^ (i + 1)) = o at *
    (repeat (first | refine v_reg ?_ | refine v_last ?_ | refine vwp_seq ?_ | refine vwp_block ?_ | refine vwp_skip ?_ | refine vwp_exit ?_ | refine vwp_ret ?_ | refine v_cond ?_ | simp only [vm, ite_true, ite_false, eq_self, reduceIte, Nat.reduceEqDiff, Option.map, h0, h1, h7, h8, hi0, hg] | refine And.intro (by omega) ?_))
    refine s_call (square_spec t4 _ c5 hld (by omega)) (by simp only [vm, ite_true, ite_false, eq_self, reduceIte, Nat.reduceEqDiff, Option.map, List.map, h7]) ?_
    rw [hvd]
    have g30 : ¬ (3 : Int) = 0 := by omega
    rintro v c6 hc6 (⟨hb6, t6, rfl, ht6⟩ | ⟨hb6, rfl⟩)
    · by_cases gb : n / 2 ^ i % 2 = 1
      · rw [if_pos gb] at hhalf
        have hlen2 : (digs 18446744073709551616 (o * o)).length ≤ 1048576 := digs_len_bl (by omega)
        have hld2 := lim_digs two64 (o * o)
        have hvd2 := val_digs two64 (o * o)
        generalize digs 18446744073709551616 (o * o) = oo at *
        have gbi : ((n / 2 ^ i % 2 : Nat) : Int) = 1 := by omega
        (repeat (first | refine v_reg ?_ | refine v_last ?_ | refine vwp_seq ?_ | refine vwp_block ?_ | refine vwp_skip ?_ | refine vwp_exit ?_ | refine vwp_ret ?_ | refine v_cond ?_ | simp only [vm, ite_true, ite_false, eq_self, reduceIte, Nat.reduceEqDiff, Option.map, h0, h1, h7, h8, emin, gbi] | refine And.intro (by omega) ?_))
        refine s_call (mul_spec t6 t2 oo (digs 18446744073709551616 (val 18446744073709551616 a)) c6 hld2 hx (by omega) (by omega)) (by simp only [vm, ite_true, ite_false, eq_self, reduceIte, Nat.reduceEqDiff, Option.map, List.map, h0]) ?_
        rw [hvd2, va]
        rintro v c7 hc7 (⟨hb7, t7, rfl, ht7⟩ | ⟨hb7, rfl⟩)
        · (repeat (first | refine v_reg ?_ | refine v_last ?_ | refine vwp_seq ?_ | refine vwp_block ?_ | refine vwp_skip ?_ | refine vwp_exit ?_ | refine vwp_ret ?_ | refine v_cond ?_ | simp only [vm, ite_true, ite_false, eq_self, reduceIte, Nat.reduceEqDiff, Option.map, h0, h1, h7, h8, g30] | refine And.intro (by omega) ?_))
          rw [← hhalf] at hb7 ⊢
          exact ⟨i, by omega, i, t7, rfl, by omega, hb7, ht7.mono (by omega) (Nat.le_refl _), rfl, rfl, by omega⟩
        · (repeat (first | refine v_reg ?_ | refine v_last ?_ | refine vwp_seq ?_ | refine vwp_block ?_ | refine vwp_skip ?_ | refine vwp_exit ?_ | refine vwp_ret ?_ | refine v_cond ?_ | simp only [vm, ite_true, ite_false, eq_self, reduceIte, Nat.reduceEqDiff, Option.map, h0, h1, h7, h8, g30] | refine And.intro (by omega) ?_))
          rw [← hhalf] at hb7
          exact .inr ⟨Nat.lt_of_lt_of_le hb7 (bl_mono hle), rfl⟩
      · rw [if_neg gb, Nat.mul_one] at hhalf
        have gbi : ¬ ((n / 2 ^ i % 2 : Nat) : Int) = 1 := by omega
        (repeat (first | refine v_reg ?_ | refine v_last ?_ | refine vwp_seq ?_ | refine vwp_block ?_ | refine vwp_skip ?_ | refine vwp_exit ?_ | refine vwp_ret ?_ | refine v_cond ?_ | simp only [vm, ite_true, ite_false, eq_self, reduceIte, Nat.reduceEqDiff, Option.map, h0, h1, h7, h8, emin, gbi] | refine And.intro (by omega) ?_))
        rw [← hhalf] at hb6 ⊢
        exact ⟨i, by omega, i, t6, rfl, by omega, hb6, ht6.mono (by omega) (Nat.le_refl _), rfl, rfl, by omega⟩
    · (repeat (first | refine v_reg ?_ | refine v_last ?_ | refine vwp_seq ?_ | refine vwp_block ?_ | refine vwp_skip ?_ | refine vwp_exit ?_ | refine vwp_ret ?_ | refine v_cond ?_ | simp only [vm, ite_true, ite_false, eq_self, reduceIte, Nat.reduceEqDiff, Option.map, h0, h1, h7, h8, g30] | refine And.intro (by omega) ?_))
      refine .inr ⟨?_, rfl⟩
      refine Nat.lt_of_lt_of_le hb6 (bl_mono (Nat.le_trans ?_ hle))
      rw [hhalf]
      refine Nat.le_mul_of_pos_right _ ?_
      split <;> omega
  rintro ⟨ρ3, σ, c5⟩ ⟨t5, hb5, ht5, h7, hσ, hc5⟩
  dsimp only at ht5 h7 hσ hc5
  subst hσ
  (repeat (first | refine v_reg ?_ | refine v_last ?_ | refine vwp_seq ?_ | refine vwp_block ?_ | refine vwp_skip ?_ | refine vwp_exit ?_ | refine vwp_ret ?_ | refine v_cond ?_ | simp only [vm, ite_true, ite_false, eq_self, reduceIte, Nat.reduceEqDiff, Option.map, h7] | refine And.intro (by omega) ?_))
  exact .inl ⟨hb5, t5, rfl, ht5⟩
end Go.Proofs.YtacodmnlnlbahabDoor
set_option linter.unusedVariables false
set_option linter.unusedSimpArgs false
namespace Go.VM

/-! ### a run of the abstract machine, by numbers -/
section
variable {α : Type}
def fN (n : Nat) (k : Nat → α) : α := match n with | 0 => k 0 | m + 1 => k (Nat.succ m)
theorem fN_eq (n : Nat) (k : Nat → α) : fN n k = k n := by cases n <;> rfl
def fI (n : Int) (k : Int → α) : α := match n with | .ofNat m => fN m fun m => k (.ofNat m) | .negSucc m => fN m fun m => k (.negSucc m)
theorem fI_eq (n : Int) (k : Int → α) : fI n k = k n := by cases n <;> simp only [fI, fN_eq]
def fU (v : Value) (k : Value → α) : α := match v with
  | .int t n => fI n fun n => k (.int t n)
  | .bool true => k (.bool true)
  | .bool false => k (.bool false)
  | v => k v
theorem fU_eq (v : Value) (k : Value → α) : fU v k = k v := by
  unfold fU
  split <;> simp only [fI_eq]
def fL {β : Type} (l : List β) (k : List β → α) : α := match l with | [] => k [] | x :: xs => fL xs fun xs => k (x :: xs)
theorem fL_eq {β : Type} (l : List β) (k : List β → α) : fL l k = k l := by
  induction l generalizing k with
  | nil => rfl
  | cons x xs ih => rw [fL, ih]
def fO (o : Option Nat) (k : Option Nat → α) : α := match o with | none => k none | some n => fN n fun n => k (some n)
theorem fO_eq (o : Option Nat) (k : Option Nat → α) : fO o k = k o := by cases o <;> simp only [fO, fN_eq]
def fT (t : Tok) (k : Tok → α) : α := match t with | .nil => k .nil | .unk => k .unk | .id n => fN n fun n => k (.id n) | .sub n => fN n fun n => k (.sub n)
theorem fT_eq (t : Tok) (k : Tok → α) : fT t k = k t := by cases t <;> simp only [fT, fN_eq]
def fV (v : V) (k : V → α) : α := match v with
  | .any => k .any
  | .lit v => fU v fun v => k (.lit v)
  | .sl t sz l => fT t fun t => fN sz fun sz => fL l fun l => k (.sl t sz l)
  | .buf t off n cap sz => fN t fun t => fN off fun off => fN n fun n => fO cap fun cap => fN sz fun sz => k (.buf t off n cap sz)
  | .ptr t off => fN t fun t => fN off fun off => k (.ptr t off)
  | .gptr t off => fN t fun t => fN off fun off => k (.gptr t off)
  | .eptr l i => fL l fun l => fN i fun i => k (.eptr l i)
  | .agg l => fL l fun l => k (.agg l)
  | .tup l => fL l fun l => k (.tup l)
theorem fV_eq (v : V) (k : V → α) : fV v k = k v := by cases v <;> simp only [fV, fU_eq, fT_eq, fN_eq, fL_eq, fO_eq]
end

def nth (l : List V) (i : Nat) : V := match l, i with | [], _ => .any | x :: _, 0 => x | _ :: xs, i + 1 => nth xs i
theorem nth_getD (l : List V) (i : Nat) : nth l i = l.getD i .any := by
  induction l generalizing i with
  | nil => rfl
  | cons x xs ih => cases i with
    | zero => rfl
    | succ i => rw [nth, ih]; rfl
theorem start_nth (l : List V) : start l = nth l := by funext i; rw [nth_getD]; rfl
theorem nth_append_any (l : List V) (n : Nat) : nth (l ++ List.replicate n .any) = nth l := by
  funext i
  rw [nth_getD, nth_getD, List.getD_eq_getElem?_getD, List.getD_eq_getElem?_getD, List.getElem?_append]
  split
  · rfl
  · rename_i h
    rw [List.getElem?_eq_none (Nat.le_of_not_lt h), List.getElem?_replicate]
    split <;> rfl
def setR {β : Type} (l : List V) (i : Nat) (v : V) (k : List V → Option β) : Option β := match l, i with
  | [], _ => none
  | _ :: xs, 0 => k (v :: xs)
  | x :: xs, i + 1 => setR xs i v fun xs => k (x :: xs)
theorem setR_some {β : Type} {l : List V} {i : Nat} {v : V} {k : List V → Option β} {b : β} (h : setR l i v k = some b) : ∃ l', k l' = some b ∧ nth l' = upd (nth l) i v := by
  induction l generalizing i k with
  | nil => cases h
  | cons x xs ih =>
    cases i with
    | zero =>
      refine ⟨_, h, ?_⟩
      funext j
      cases j with
      | zero => rfl
      | succ j => rfl
    | succ i =>
      obtain ⟨l', h1, h2⟩ := ih h
      refine ⟨x :: l', h1, ?_⟩
      funext j
      cases j with
      | zero => rfl
      | succ j =>
        rw [nth, h2]
        simp [upd, nth]

abbrev BL := List (Nat × Blk)
def lookB (l : BL) (t : Nat) : Option Blk := match l with | [] => none | p :: r => if p.1 = t then some p.2 else lookB r t
def putB (l : BL) (t : Nat) (b : Blk) : BL := match l with | [] => [(t, b)] | p :: r => if p.1 = t then (t, b) :: r else p :: putB r t b
theorem lookB_nil : lookB [] = noBlk := rfl
theorem lookB_put (l : BL) (t : Nat) (b : Blk) : lookB (putB l t b) = supd (lookB l) t (some b) := by
  funext u
  induction l with
  | nil => simp only [putB, lookB, supd]; by_cases e : t = u <;> simp [e, eq_comm]
  | cons p r ih =>
    obtain ⟨t', b'⟩ := p
    simp only [putB]
    by_cases e : t' = t
    · subst e
      simp only [if_true, lookB, supd]
      by_cases e : t' = u
      · simp [e]
      · simp [e, Ne.symm e]
    · simp only [e, if_false, lookB, ih, supd]
      by_cases e1 : t' = u
      · subst e1; simp [e]
      · simp [e1]
def keepB (p : Nat → Bool) (l : BL) : BL := match l with | [] => [] | q :: r => if p q.1 = true then q :: keepB p r else keepB p r
theorem lookB_keep (p : Nat → Bool) (l : BL) (t : Nat) : lookB (keepB p l) t = if p t = true then lookB l t else none := by
  induction l with
  | nil => simp [keepB, lookB]
  | cons q r ih =>
    simp only [keepB]
    by_cases h : p q.1 = true
    · simp only [h, if_true, lookB, ih]
      by_cases e : q.1 = t
      · subst e; simp [h]
      · simp [e]
    · simp only [h, lookB]
      by_cases e : q.1 = t
      · subst e; simp [ih, h]
      · simp [e, ih]
theorem lookB_append (l r : BL) (t : Nat) : lookB (l ++ r) t = match lookB l t with | some b => some b | none => lookB r t := by
  induction l with
  | nil => rfl
  | cons q l ih =>
    simp only [List.cons_append, lookB]
    by_cases e : q.1 = t
    · simp [e]
    · simp [e, ih]

/-- a block's cells, forced -/
def fB {α : Type} (cs : List V) (k : List V → α) : α := fL cs k

structure XS where
  r : List V
  s : BL
  c : Nat
def XS.vs (S : XS) : VS := ⟨nth S.r, lookB S.s, S.c⟩

structure XEff where
  v : V
  s : BL
  c : Nat
  k : KT

/-- no buffers in cells -/
def flatB (s : BL) : Bool := match s with | [] => true | p :: r => if p.2.cells.all V.flat = true then flatB r else false
theorem flat_kill {x : V} (t : Nat) (h : x.flat = true) : killV t x = x := by
  cases x <;> first | rfl | cases h
theorem flat_killL {l : List V} (t : Nat) (h : l.all V.flat = true) : l.map (killV t) = l := by
  refine (List.map_congr_left fun x hx => ?_).trans (List.map_id _)
  exact flat_kill t (List.all_eq_true.1 h x hx)
theorem flat_solid {l : List V} (h : l.all V.flat = true) : l.map V.solid = l := by
  refine (List.map_congr_left fun x hx => ?_).trans (List.map_id _)
  unfold V.solid
  rw [if_pos (List.all_eq_true.1 h x hx)]
  rfl
theorem flatB_look {s : BL} (h : flatB s = true) {t : Nat} {b : Blk} (hb : lookB s t = some b) : b.cells.all V.flat = true := by
  induction s with
  | nil => cases hb
  | cons p r ih =>
    simp only [flatB] at h
    split at h
    · rename_i hp
      simp only [lookB] at hb
      split at hb
      · cases hb; exact hp
      · exact ih h hb
    · cases h
theorem flatB_kill {s : BL} (h : flatB s = true) (t : Nat) : killσ t (lookB s) = lookB s := by
  funext u
  unfold killσ
  cases hb : lookB s u with
  | none => rfl
  | some b => simp only [Option.map]; rw [flat_killL t (flatB_look h hb)]
theorem all_take {l : List V} (n : Nat) (h : l.all V.flat = true) : (l.take n).all V.flat = true := List.all_eq_true.2 fun x hx => List.all_eq_true.1 h x (List.mem_of_mem_take hx)
theorem all_app {l r : List V} (h : l.all V.flat = true) (h2 : r.all V.flat = true) : (l ++ r).all V.flat = true := by rw [List.all_append, h, h2]; rfl
/-- the operations that are no calls -/
def xstore (s : BL) (n : Nat) (x v : V) : Option BL :=
  match x, v.cellsB with
  | .ptr t off, some cs => match lookB s t with
    | some b => if b.live = true ∧ cs.length = n ∧ off + n ≤ b.cells.length then fL (putCells b.cells off cs) fun cs => some (putB s t ⟨cs, true⟩) else none
    | none => none
  | _, _ => none
def xapp (c0 : Nat) (s : BL) (c sz bytes : Nat) (x y : V) : Option XEff :=
  match x with
  | .sl .nil sz0 [] => match vcells sz (lookB s) y with
    | some [] => some ⟨.sl .nil sz0 [], s, c, none⟩
    | some ys => let k := ys.length / sz; if ys.length = k * sz ∧ 0 < k ∧ k * bytes ≤ 281474976710656 ∧ k ≤ 4611686018427387904 then fL ys fun ys => some ⟨.buf c 0 k none sz, putB s c ⟨ys, true⟩, c + 1, none⟩ else none
    | none => none
  | .buf t 0 n cp sz' => match lookB s t, vcells sz (lookB s) y with
    | some b, some ys => let k := ys.length / sz; if sz' = sz ∧ b.live = true ∧ ys.length = k * sz then
        (match cp with
        | some cap => if n + k ≤ cap ∧ (n + k) * sz ≤ b.cells.length then fL (putCells b.cells (n * sz) ys) fun cs => some ⟨.buf t 0 (n + k) (some cap) sz, putB s t ⟨cs, true⟩, c, none⟩
          else if c0 ≤ t ∧ n * sz ≤ b.cells.length ∧ (2 * (n + k)) * bytes ≤ 281474976710656 ∧ n + k ≤ 4611686018427387904 ∧ flatB s = true ∧ ys.all V.flat = true then fL (b.cells.take (n * sz) ++ ys) fun cs => some ⟨.buf t 0 (n + k) none sz, putB s t ⟨cs, true⟩, c, some (.inl t)⟩ else none
        | none => if c0 ≤ t ∧ n * sz ≤ b.cells.length ∧ (2 * (n + k)) * bytes ≤ 281474976710656 ∧ n + k ≤ 4611686018427387904 ∧ flatB s = true ∧ ys.all V.flat = true then fL (b.cells.take (n * sz) ++ ys) fun cs => some ⟨.buf t 0 (n + k) none sz, putB s t ⟨cs, true⟩, c, some (.inl t)⟩ else none)
      else none
    | _, _ => none
  | _ => none
def xcpy (s : BL) (c sz : Nat) (x y : V) : Option XEff :=
  match x with
  | .buf t off n cap sz' => match lookB s t, vcells sz (lookB s) y with
    | some b, some ys => let m := ys.length / sz; if sz' = sz ∧ b.live = true ∧ ys.length = m * sz ∧ off + n * sz ≤ b.cells.length then
        fL (putCells b.cells off (ys.take (min m n * sz))) fun cs => some ⟨.int .i64 ((min m n : Nat) : Int), putB s t ⟨cs, true⟩, c, none⟩ else none
    | _, _ => none
  | _ => none
def xmk (s : BL) (c : Nat) (z : List Value) (bytes : Nat) (l q : V) : Option XEff :=
  match l, q with
  | .lit (.int _ (.ofNat n)), .lit (.int _ (.ofNat cap)) => if n ≤ cap ∧ cap * bytes ≤ 281474976710656 ∧ cap ≤ 9223372036854775807 then fL (rept z cap) fun cs => some ⟨.buf c 0 n (some cap) z.length, putB s c ⟨cs, true⟩, c + 1, none⟩ else none
  | _, _ => none

def offB : V → V → Bool
  | .ptr t _, .ptr u _ => !(Nat.beq t u)
  | .ptr _ _, .eptr _ _ => true
  | _, _ => false
theorem offB_off {p q : V} (h : offB p q = true) : V.offp p q := by
  unfold offB at h
  split at h
  · exact fun e => by subst e; simp at h
  · trivial
  · cases h
def xeff (c0 : Nat) (e : X → V) (s : BL) (c : Nat) (o : VOp) : Option XEff :=
  match o with
  | .load ag x => (vload (lookB s) ag (e x)).map fun v => ⟨v, s, c, none⟩
  | .store n x y => (xstore s n (e x) (e y)).map fun s => ⟨.any, s, c, none⟩
  | .storeA n x y ys => if (ys.all fun i => offB (e x) (e (.t i))) = true then (xstore s n (e x) (e y)).map fun s => ⟨.any, s, c, none⟩ else none
  | .boxA n x => match (e x).cells, lookB s c with | some cs, none => if cs.length = n then fL cs fun cs => some ⟨.ptr c 0, putB s c ⟨cs, true⟩, c + 1, none⟩ else none | _, _ => none
  | .mk z bytes l q => xmk s c z bytes (e l) (e q)
  | .box x => match (e x).cells with | some cs => fL cs fun cs => some ⟨.ptr c 0, putB s c ⟨cs, true⟩, c + 1, none⟩ | none => none
  | .alloc z => fL (vlits z) fun cs => some ⟨.ptr c 0, putB s c ⟨cs, true⟩, c + 1, none⟩
  | .bsl tok sz len z ps => match vfill (rept z len) (partsOf e ps) with
    | some cs => if tok = true then some ⟨.sl (.id c) sz cs, s, c + 1, none⟩ else some ⟨.sl .unk sz cs, s, c, none⟩
    | none => none
  | .app sz bytes z x y => xapp c0 s c sz bytes (e x) (e y)
  | .cpy sz x y => xcpy s c sz (e x) (e y)
  | .call _ _ => none
  | .callv _ _ => none
  | .bad => none
  | o => (vpure e o).map fun v => ⟨v, s, c, none⟩

theorem xstore_sound {s s' : BL} {n : Nat} {x y : V} (h1 : xstore s n x y = some s') : vstore (lookB s) n x y = some (lookB s') := by
  unfold xstore at h1
  unfold vstore
  split at h1
  · split at h1
    · split at h1
      · rename_i hb hc
        rw [fL_eq] at h1
        cases h1
        simp only [*, lookB_put]
        rw [if_pos (by first | exact hc | simp [hc])]
      · cases h1
    · cases h1
  · cases h1
theorem xeff_sound {P : Program} {dr : Bool} {c0 : Nat} {e : X → V} {s : BL} {c : Nat} {o : VOp} {r : XEff} (h : xeff c0 e s c o = some r) : VEff P dr c0 e (lookB s) c o r.v (lookB r.s) r.c r.k := by
  unfold xeff at h
  split at h
  · obtain ⟨v, h1, rfl⟩ := Option.map_eq_some_iff.1 h
    exact .load h1
  · obtain ⟨s', h1, rfl⟩ := Option.map_eq_some_iff.1 h
    exact .store (xstore_sound h1)
  · split at h
    · rename_i hy
      obtain ⟨s', h1, rfl⟩ := Option.map_eq_some_iff.1 h
      exact .storeA (fun i hi => offB_off (List.all_eq_true.1 hy i hi)) (xstore_sound h1)
    · cases h
  · split at h
    · rename_i hc hf
      split at h
      · rename_i hn
        rw [fL_eq] at h
        cases h
        rw [lookB_put]
        exact .boxA hf hc hn
      · cases h
    · cases h
  · unfold xmk at h
    split at h
    · rename_i hl hq
      split at h
      · rename_i hc
        rw [fL_eq] at h
        cases h
        rw [lookB_put]
        exact .mk hl hq hc.1 hc.2.1 hc.2.2
      · cases h
    · cases h
  · split at h
    · rename_i hc
      rw [fL_eq] at h
      cases h
      rw [lookB_put]
      exact .box hc
    · cases h
  · rw [fL_eq] at h
    cases h
    rw [lookB_put]
    exact .alloc
  · split at h
    · rename_i hc
      split at h
      · rename_i ht; subst ht; cases h; exact .bsl hc
      · rename_i ht
        simp at ht
        subst ht; cases h; exact .bsl0 hc
    · cases h
  · rename_i sz bytes z x y
    unfold xapp at h
    split at h
    · rename_i hx
      split at h
      · rename_i hy
        cases h
        exact .appNil0 hx hy
      · rename_i ys _ hy
        dsimp only at h
        split at h
        · rename_i hc
          rw [fL_eq] at h
          cases h
          rw [lookB_put]
          exact .appNil hx hy hc.1 hc.2.1 hc.2.2.1 hc.2.2.2
        · cases h
      · cases h
    · rename_i t n cp sz' hx
      split at h
      · rename_i b ys hb hy
        dsimp only at h
        split at h
        · rename_i hc
          obtain ⟨rfl, hl, hk⟩ := hc
          have hb' : lookB s t = some ⟨b.cells, true⟩ := by rw [hb, ← hl]
          split at h
          · rename_i cap
            split at h
            · rename_i hf
              rw [fL_eq] at h
              cases h
              rw [lookB_put]
              exact .appFit hx hb' hy hk hf.1 hf.2
            · split at h
              · rename_i hf
                rw [fL_eq] at h
                cases h
                rw [lookB_put]
                exact (by have q := VEff.appMove (P := P) (dr := dr) (c0 := c0) (e := e) (σ := lookB s) (c := c) (z := z) hx hb' hf.1 hy hk hf.2.1 hf.2.2.1 hf.2.2.2.1; rw [flatB_kill hf.2.2.2.2.1, flat_killL t (all_app (all_take _ (flatB_look hf.2.2.2.2.1 hb')) hf.2.2.2.2.2)] at q; exact q)
              · cases h
          · split at h
            · rename_i hf
              rw [fL_eq] at h
              cases h
              rw [lookB_put]
              exact (by have q := VEff.appMove (P := P) (dr := dr) (c0 := c0) (e := e) (σ := lookB s) (c := c) (z := z) hx hb' hf.1 hy hk hf.2.1 hf.2.2.1 hf.2.2.2.1; rw [flatB_kill hf.2.2.2.2.1, flat_killL t (all_app (all_take _ (flatB_look hf.2.2.2.2.1 hb')) hf.2.2.2.2.2)] at q; exact q)
            · cases h
        · cases h
      · cases h
    · cases h
  · unfold xcpy at h
    split at h
    · rename_i t off n cap sz' hx
      split at h
      · rename_i b ys hb hy
        dsimp only at h
        split at h
        · rename_i hc
          obtain ⟨rfl, hl, hk, hf⟩ := hc
          have hb' : lookB s t = some ⟨b.cells, true⟩ := by rw [hb, ← hl]
          rw [fL_eq] at h
          cases h
          rw [lookB_put]
          exact .cpy hx hb' hy hk hf
        · cases h
      · cases h
    · cases h
  · cases h
  · cases h
  · cases h
  · obtain ⟨v, h1, rfl⟩ := Option.map_eq_some_iff.1 h
    exact .pure h1

/-- a slot that holds a buffer of the call's own: written no more -/
def frz1 {β : Type} (c0 : Nat) (i : Nat) (S : XS) (k : XS → Option β) : Option β :=
  match nth S.r i with
  | .buf t off n cap sz => if c0 ≤ t then (match lookB S.s t with
      | some b => if off + n * sz ≤ b.cells.length ∧ ((b.cells.drop off).take (n * sz)).all V.flat = true then fL ((b.cells.drop off).take (n * sz)) fun l => setR S.r i (.sl (Tok.from off t) sz l) fun r => k ⟨r, putB S.s t ⟨b.cells, false⟩, S.c⟩ else none
      | none => none) else k S
  | _ => k S
theorem frz1_some {β : Type} {c0 i : Nat} {S : XS} {k : XS → Option β} {b : β} (h : frz1 c0 i S k = some b) : ∃ S1, k S1 = some b ∧ (S1 = S ∨ ∃ t off n sz cap cells lv, S.vs.ρ i = .buf t off n cap sz ∧ S.vs.σ t = some ⟨cells, lv⟩ ∧ c0 ≤ t ∧ off + n * sz ≤ cells.length ∧ S1.vs = frozen S.vs i t off sz cells (((cells.drop off).take (n * sz)).map V.solid)) := by
  unfold frz1 at h
  split at h
  · rename_i t off n cap sz hi
    split at h
    · rename_i h0
      split at h
      · rename_i bk hb
        split at h
        · rename_i hl
          rw [fL_eq] at h
          obtain ⟨r, h1, h2⟩ := setR_some h
          refine ⟨_, h1, .inr ⟨t, off, n, sz, cap, bk.cells, bk.live, hi, hb, h0, hl.1, ?_⟩⟩
          rw [flat_solid hl.2]
          simp only [XS.vs, frozen, h2, lookB_put]
        · cases h
      · cases h
    · exact ⟨S, h, .inl rfl⟩
  · exact ⟨S, h, .inl rfl⟩
def frzL {β : Type} (c0 : Nat) (l : List Nat) (S : XS) (k : XS → Option β) : Option β := match l with | [] => k S | i :: r => frz1 c0 i S fun S => frzL c0 r S k

theorem frzL_steps {β : Type} {P : Program} {c0 : Nat} {l : List Nat} {S : XS} {k : XS → Option β} {b : β} (h : frzL c0 l S k = some b) : ∃ S1 : XS, k S1 = some b ∧ ∀ ops S', VSteps P false c0 ops S1.vs S' → VSteps P false c0 ops S.vs S' := by
  induction l generalizing S with
  | nil => exact ⟨S, h, fun _ _ h => h⟩
  | cons i r ih =>
    obtain ⟨S1, h1, h2⟩ := frz1_some h
    obtain ⟨S2, h3, h4⟩ := ih h1
    refine ⟨S2, h3, fun ops S' hs => ?_⟩
    have h5 := h4 ops S' hs
    rcases h2 with rfl | ⟨t, off, n, sz, cap, cells, lv, g1, g2, g3, g4, g5⟩
    · exact h5
    · exact .frz rfl g1 g2 g3 g4 (by rw [← g5]; exact h5)
theorem frzL_exec {β : Type} {P : Program} {c0 : Nat} {l : List Nat} {S : XS} {k : XS → Option β} {b : β} (h : frzL c0 l S k = some b) : ∃ S1 : XS, k S1 = some b ∧ ∀ vc e S', VExec P c0 vc S1.vs e S' → VExec P c0 vc S.vs e S' := by
  induction l generalizing S with
  | nil => exact ⟨S, h, fun _ _ _ h => h⟩
  | cons i r ih =>
    obtain ⟨S1, h1, h2⟩ := frz1_some h
    obtain ⟨S2, h3, h4⟩ := ih h1
    refine ⟨S2, h3, fun vc e S' hs => ?_⟩
    have h5 := h4 vc e S' hs
    rcases h2 with rfl | ⟨t, off, n, sz, cap, cells, lv, g1, g2, g3, g4, g5⟩
    · exact h5
    · exact .freeze g1 g2 g3 g4 (by rw [← g5]; exact h5)

/-- the live blocks that a call's arguments lie in -/
def lentB (s : BL) (l : List V) : BL := match l with
  | [] => []
  | .buf t _ _ _ _ :: r => (match lookB s t with | some b => if b.live = true then putB (lentB s r) t b else lentB s r | none => lentB s r)
  | .ptr t _ :: r => (match lookB s t with | some b => if b.live = true then putB (lentB s r) t b else lentB s r | none => lentB s r)
  | _ :: r => lentB s r
theorem lentB_ok (s : BL) (l : List V) (t : Nat) (b : Blk) (h : lookB (lentB s l) t = some b) : lookB s t = some b ∧ b.live = true := by
  have key : ∀ (t : Nat) (b : Blk) (r : List V) (t' : Nat), (∀ t b, lookB (lentB s r) t = some b → lookB s t = some b ∧ b.live = true) →
      lookB (match lookB s t' with | some b => if b.live = true then putB (lentB s r) t' b else lentB s r | none => lentB s r) t = some b → lookB s t = some b ∧ b.live = true := by
    intro t b r t' ih h
    split at h
    · rename_i b' hb
      split at h
      · rename_i hl
        rw [lookB_put] at h
        simp only [supd] at h
        split at h
        · rename_i e; subst e; cases h; exact ⟨hb, hl⟩
        · exact ih _ _ h
      · exact ih _ _ h
    · exact ih _ _ h
  revert t b
  induction l with
  | nil => intro t b h; cases h
  | cons x r ih =>
    intro t b h
    cases x with
    | buf t' off n cap sz => exact key t b r t' (fun t b h => ih t b h) h
    | ptr t' off => exact key t b r t' (fun t b h => ih t b h) h
    | any => exact ih t b h
    | lit _ => exact ih t b h
    | sl _ _ _ => exact ih t b h
    | eptr _ _ => exact ih t b h
    | gptr _ _ => exact ih t b h
    | agg _ => exact ih t b h
    | tup _ => exact ih t b h

structure XRes where
  v : V
  s : BL
  c : Nat
abbrev XCall := FuncId → List V → BL → Nat → Option XRes
def CallOk (P : Program) (call : XCall) : Prop := ∀ f xs sl c r, call f xs sl c = some r → VCalls P f c (lookB sl) xs r.v (lookB r.s) r.c ∧ ∀ t, lookB sl t = none → lookB r.s t = none

def xput {β : Type} (d : Option Nat) (v : V) (r : List V) (k : List V → Option β) : Option β := match d with | none => k r | some i => fV v fun v => setR r i v k
theorem xput_some {β : Type} {d : Option Nat} {v : V} {r : List V} {k : List V → Option β} {b : β} (h : xput d v r k = some b) : ∃ r', k r' = some b ∧ nth r' = updo (nth r) d v := by
  cases d with
  | none => exact ⟨r, h, rfl⟩
  | some i =>
    simp only [xput, fV_eq] at h
    exact setR_some h

def killR (t : Nat) (l : List V) : List V := match l with | [] => [] | x :: xs => killV t x :: killR t xs
theorem nth_kill (t : Nat) (l : List V) : nth (killR t l) = kill (some (.inl t)) (nth l) := by
  funext i
  induction l generalizing i with
  | nil => rfl
  | cons x xs ih =>
    cases i with
    | zero => rfl
    | succ i => exact ih i

/-- a call in a region -/
def xcallop {β : Type} (call : XCall) (dr : Bool) (lend : FuncId → Bool) (c0 : Nat) (f : FuncId) (xs : List X) (d : Option Nat) (S : XS) (k : XS → Option β) : Option β :=
  (if dr = true ∨ lend f = true then fun k => k S else frzL c0 (xs.flatMap X.reads) S) fun S =>
    let ys := xs.map (X.ev (nth S.r))
    let sl := if dr = true then [] else lentB S.s ys
    match sl with
    | [] => (match call f ys [] S.c with
      | some ⟨v, _, c'⟩ => fN c' fun c' => xput d v S.r fun r => k ⟨r, S.s, c'⟩
      | none => none)
    | sl => (match call f ys sl S.c with
      | some ⟨v, s', c'⟩ => fN c' fun c' => fL (keepB (fun t => !((lookB sl t).isSome || decide (S.c ≤ t))) S.s ++ s') fun s => xput d v S.r fun r => k ⟨r, s, c'⟩
      | none => none)

def asFn (v : V) : Option FuncId := match v with | .lit (.func (.func f) a b) => if a.size = 0 ∧ b.size = 0 then some f else none | _ => none
theorem asFn_some {v : V} {f : FuncId} (h : asFn v = some f) : v = .lit (.func (.func f) #[] #[]) := by
  unfold asFn at h
  split at h
  · split at h
    · rename_i f' a b g
      cases h
      rw [Array.eq_empty_of_size_eq_zero g.1, Array.eq_empty_of_size_eq_zero g.2]
    · cases h
  · cases h
def xstep {β : Type} (call : XCall) (dr : Bool) (lend : FuncId → Bool) (c0 : Nat) (op : VOp) (d : Option Nat) (S : XS) (k : XS → Option β) : Option β :=
  match op with
  | .call f xs => xcallop call dr lend c0 f xs d S k
  | .callv x xs => (if dr = true then fun k => k S else frzL c0 (xs.flatMap X.reads) S) fun S =>
      (match asFn (x.ev (nth S.r)) with
      | some f => (match call f (xs.map (X.ev (nth S.r))) [] S.c with
        | some ⟨v, _, c'⟩ => fN c' fun c' => xput d v S.r fun r => k ⟨r, S.s, c'⟩
        | none => none)
      | none => none)
  | op => (if dr = true then fun k => k S else (match op with | .build .. | .bsl .. | .store .. | .box .. => frzL c0 op.reads S | _ => fun k => k S)) fun S =>
    (match xeff c0 (X.ev (nth S.r)) S.s S.c op with
    | some ⟨v, s, c, none⟩ => xput d v S.r fun r => k ⟨r, s, c⟩
    | some ⟨v, s, c, some (.inl t)⟩ => fL (killR t S.r) fun r => xput d v r fun r => k ⟨r, s, c⟩
    | _ => none)

def xops (call : XCall) (dr : Bool) (lend : FuncId → Bool) (c0 : Nat) (l : List VO) (S : XS) : Option XS :=
  match l with
  | [] => some S
  | ⟨d, op, none⟩ :: r => xstep call dr lend c0 op d S fun S => xops call dr lend c0 r S
  | ⟨d, op, some (t, b)⟩ :: r => match nth S.r t with
    | .lit (.bool b') => if b' = b then xstep call dr lend c0 op d S fun S => xops call dr lend c0 r S else xput d (.tup []) S.r fun rr => xops call dr lend c0 r ⟨rr, S.s, S.c⟩
    | .tup [] => xput d (.tup []) S.r fun rr => xops call dr lend c0 r ⟨rr, S.s, S.c⟩
    | _ => none

structure XOut where
  e : VEx
  S : XS
def frzOf (l : List VO) : List Nat := l.flatMap fun o => match o.op with | .call .. | .callv .. | .build .. | .bsl .. | .store .. | .box .. => o.op.reads | _ => []
def xrun (call : XCall) (lend : FuncId → Bool) (rsl : List Nat) (c0 : Nat) (n : Nat) (vc : VC) (S : XS) : Option XOut :=
  match n with
  | 0 => none
  | n + 1 => match vc with
    | .skip => some ⟨.normal, S⟩
    | .region dr ops => (if dr = true then frzL c0 (frzOf ops) S else fun k => k S) fun S =>
      (match xops call dr lend c0 ops S with | some S => some ⟨.normal, S⟩ | none => none)
    | .seq a b => match xrun call lend rsl c0 n a S with
      | some ⟨.normal, S⟩ => xrun call lend rsl c0 n b S
      | r => r
    | .cond x a b => match x.ev (nth S.r) with
      | .lit (.bool true) => xrun call lend rsl c0 n a S
      | .lit (.bool false) => xrun call lend rsl c0 n b S
      | _ => none
    | .block id b => match xrun call lend rsl c0 n b S with
      | some ⟨.exit j, S⟩ => if j = id then some ⟨.normal, S⟩ else some ⟨.exit j, S⟩
      | r => r
    | .loop b => match xrun call lend rsl c0 n b S with
      | some ⟨.normal, S⟩ => xrun call lend rsl c0 n (.loop b) S
      | r => r
    | .exit id => some ⟨.exit id, S⟩
    | .ret => frzL c0 rsl S fun S => some ⟨.ret, S⟩
    | .bad => none

structure XFun where
  f : FuncId
  vc : VC
  rs : List VRes
  n : Nat
def findF (l : List XFun) (f : FuncId) : Option XFun := match l with | [] => none | e :: r => if Nat.beq e.f f = true then some e else findF r f
def resSlots : List VRes → List Nat | [] => [] | .tmp t :: r => t :: resSlots r | _ :: r => resSlots r

/-- what is known of a call without running it: 'f xs' answers this, whoever calls -/
abbrev XOrc := FuncId → List V → Option V
def OrcOk (P : Program) (orc : XOrc) : Prop := ∀ f xs v, orc f xs = some v → ∀ c, VCallP P f c xs v c
def askO (orc : XOrc) (f : FuncId) (xs : List V) (sl : BL) : Option V := match sl with | [] => orc f xs | _ => none

def xcall (orc : XOrc) (T : List XFun) (lend : FuncId → Bool) (rounds : Nat) : Nat → XCall
  | 0 => fun _ _ _ _ => none
  | n + 1 => fun f xs sl c => match findF T f with
    | none => none
    | some ⟨_, vc, rs, m⟩ => match askO orc f xs sl with
    | some v => some ⟨v, [], c⟩
    | none => if xs.length ≤ m then
      (match fL (xs ++ List.replicate (m - xs.length) .any) fun r => xrun (xcall orc T lend rounds n) lend (resSlots rs) c rounds vc ⟨r, sl, c⟩ with
      | some ⟨.exit _, _⟩ => none
      | some ⟨e, S⟩ => (match vresult S.vs rs with | some v => some ⟨v, keepB (fun t => (lookB sl t).isSome) S.s, S.c⟩ | none => none)
      | none => none) else none

/-! ### it is right -/
def GoodF (P : Program) (e : XFun) : Prop := ∃ fn code, P.funcs[e.f]? = some fn ∧ fn.body = some code ∧ resCode P fn.ntmps code = e.vc ∧ resResults P fn.results.toList = some e.rs ∧ fn.ntmps = e.n ∧ (fn.name == "runtime.NumGoroutine") = false


def Fz (P : Program) (dr : Bool) (c0 : Nat) (S S0 : XS) : Prop := (∀ ops S', VSteps P dr c0 ops S0.vs S' → VSteps P dr c0 ops S.vs S') ∧ ∀ t v, nth S.r t = .lit v → nth S0.r t = .lit v
theorem Fz.refl {P : Program} {dr : Bool} {c0 : Nat} {S : XS} : Fz P dr c0 S S := ⟨fun _ _ h => h, fun _ _ h => h⟩
theorem frzL_fz {β : Type} {P : Program} {c0 : Nat} {l : List Nat} {S : XS} {k : XS → Option β} {b : β} (h : frzL c0 l S k = some b) : ∃ S1 : XS, k S1 = some b ∧ Fz P false c0 S S1 := by
  induction l generalizing S with
  | nil => exact ⟨S, h, Fz.refl⟩
  | cons i r ih =>
    obtain ⟨S1, h1, h2⟩ := frz1_some h
    obtain ⟨S2, h3, h4, h6⟩ := ih h1
    rcases h2 with rfl | ⟨t, off, n, sz, cap, cells, lv, g1, g2, g3, g4, g5⟩
    · exact ⟨S2, h3, h4, h6⟩
    · refine ⟨S2, h3, fun ops S' hs => .frz rfl g1 g2 g3 g4 (by rw [← g5]; exact h4 ops S' hs), fun u v hv => h6 u v ?_⟩
      have e : nth S1.r u = upd (nth S.r) i (.sl (Tok.from off t) sz (((cells.drop off).take (n * sz)).map V.solid)) u := congrFun (congrArg VS.ρ g5) u
      rw [e]
      simp only [upd]
      split
      · rename_i e; subst e
        have g1' : nth S.r u = _ := g1
        rw [hv] at g1'; cases g1'
      · exact hv
theorem fz_if {β : Type} {P : Program} {dr : Bool} {c0 : Nat} {p : Prop} [Decidable p] (hp : dr = true → p) {l : List Nat} {S : XS} {k : XS → Option β} {b : β} (h : (if p then fun k => k S else frzL c0 l S) k = some b) : ∃ S1 : XS, k S1 = some b ∧ Fz P dr c0 S S1 := by
  split at h
  · exact ⟨S, h, Fz.refl⟩
  · rename_i g
    cases dr with
    | true => exact absurd (hp rfl) g
    | false => exact frzL_fz h

theorem joinB (c : Nat) (s sl s' : BL) (h : ∀ t, lookB sl t = none → lookB s' t = none) : lookB (keepB (fun t => !((lookB sl t).isSome || decide (c ≤ t))) s ++ s') = joinσ c (lookB s) (lookB sl) (lookB s') := by
  funext t
  rw [lookB_append, lookB_keep]
  unfold joinσ
  by_cases e1 : (lookB sl t).isSome = true
  · simp [e1]
  · have e1' : lookB sl t = none := by simpa using e1
    by_cases e2 : c ≤ t
    · simp [e1, e2]
    · simp only [e1', Option.isSome_none, Bool.false_or, e2, decide_false, Bool.not_false, if_true, Bool.false_eq_true, or_self, if_false]
      rw [h t e1']
      cases lookB s t <;> rfl

theorem xcallop_sound {β : Type} {P : Program} {call : XCall} (hc : CallOk P call) {dr : Bool} {lend : FuncId → Bool} {c0 : Nat} {f : FuncId} {xs : List X} {d : Option Nat} {S : XS} {k : XS → Option β} {b : β} (h : xcallop call dr lend c0 f xs d S k = some b) :
    ∃ (S0 S1 : XS) (v : V) (σ' : Nat → Option Blk) (c' : Nat) (kt : KT), Fz P dr c0 S S0 ∧ VEff P dr c0 (X.ev S0.vs.ρ) S0.vs.σ S0.vs.c (.call f xs) v σ' c' kt ∧ S1.vs = ⟨updo (kill kt S0.vs.ρ) d v, σ', c'⟩ ∧ k S1 = some b := by
  unfold xcallop at h
  obtain ⟨S0, h, hz⟩ := fz_if (P := P) (dr := dr) (fun e => .inl e) h
  dsimp only at h
  split at h
  · split at h
    · rename_i v s' c' hcl
      rw [fN_eq] at h
      obtain ⟨r', h1, h2⟩ := xput_some h
      obtain ⟨g1, g2⟩ := hc _ _ _ _ _ hcl
      have e : lookB s' = noBlk := funext fun t => g2 t rfl
      rw [lookB_nil] at g1
      dsimp only at g1
      rw [e] at g1
      exact ⟨S0, _, v, _, c', none, hz, .callp g1, by simp only [XS.vs, h2]; rfl, h1⟩
    · cases h
  · rename_i sl hsl
    split at h
    · rename_i v s' c' hcl
      rw [fN_eq, fL_eq] at h
      obtain ⟨r', h1, h2⟩ := xput_some h
      obtain ⟨g1, g2⟩ := hc _ _ _ _ _ hcl
      have hdr : dr = false := by
        cases dr with
        | false => rfl
        | true => exact absurd (by simp) hsl
      subst hdr
      simp only [Bool.false_eq_true, if_false] at *
      refine ⟨S0, _, v, _, c', none, hz, .call rfl (fun t k hk => lentB_ok _ _ t k hk) g1, ?_, h1⟩
      simp only [XS.vs, h2]
      rw [joinB _ _ _ _ g2]
      rfl
    · cases h

theorem xeffop {β : Type} {P : Program} {dr : Bool} {c0 : Nat} {op : VOp} {d : Option Nat} {S : XS} {k : XS → Option β} {b : β}
    (h : (match xeff c0 (X.ev (nth S.r)) S.s S.c op with
    | some ⟨v, s, c, none⟩ => xput d v S.r fun r => k ⟨r, s, c⟩
    | some ⟨v, s, c, some (.inl t)⟩ => fL (killR t S.r) fun r => xput d v r fun r => k ⟨r, s, c⟩
    | _ => none) = some b) :
    ∃ (S1 : XS) (v : V) (σ' : Nat → Option Blk) (c' : Nat) (kt : KT), VEff P dr c0 (X.ev S.vs.ρ) S.vs.σ S.vs.c op v σ' c' kt ∧ S1.vs = ⟨updo (kill kt S.vs.ρ) d v, σ', c'⟩ ∧ k S1 = some b := by
  split at h
  · rename_i v s c hx
    obtain ⟨r', h1, h2⟩ := xput_some h
    exact ⟨_, v, _, c, none, xeff_sound hx, by simp only [XS.vs, h2]; rfl, h1⟩
  · rename_i v s c t hx
    rw [fL_eq] at h
    obtain ⟨r', h1, h2⟩ := xput_some h
    exact ⟨_, v, _, c, some (.inl t), xeff_sound hx, by simp only [XS.vs, h2, nth_kill], h1⟩
  · cases h

theorem xstep_sound {β : Type} {P : Program} {call : XCall} (hc : CallOk P call) {dr : Bool} {lend : FuncId → Bool} {c0 : Nat} {op : VOp} {d : Option Nat} {S : XS} {k : XS → Option β} {b : β}
    (hfn : ∀ x xs, op = .callv x xs → ∀ f r, call f (xs.map (X.ev (nth S.r))) [] S.c = some r → True)
    (hnm : ∀ f xs sl c r, call f xs sl c = some r → ∃ fn b, P.funcs[f]? = some fn ∧ (fn.name == "runtime.NumGoroutine") = false ∧ fn.body = some b) (h : xstep call dr lend c0 op d S k = some b) :
    ∃ (S0 S1 : XS) (v : V) (σ' : Nat → Option Blk) (c' : Nat) (kt : KT), Fz P dr c0 S S0 ∧ VEff P dr c0 (X.ev S0.vs.ρ) S0.vs.σ S0.vs.c op v σ' c' kt ∧ S1.vs = ⟨updo (kill kt S0.vs.ρ) d v, σ', c'⟩ ∧ k S1 = some b := by
  unfold xstep at h
  split at h
  · exact xcallop_sound hc h
  · rename_i x xs
    obtain ⟨S0, h, hz⟩ := fz_if (P := P) (dr := dr) (fun e => e) h
    split at h
    · rename_i f hx
      split at h
      · rename_i v s' c' hcl
        rw [fN_eq] at h
        obtain ⟨r', h1, h2⟩ := xput_some h
        obtain ⟨g1, g2⟩ := hc _ _ _ _ _ hcl
        have e : lookB s' = noBlk := funext fun t => g2 t rfl
        rw [lookB_nil] at g1
        dsimp only at g1
        rw [e] at g1
        exact ⟨S0, _, v, _, c', none, hz, .callv (asFn_some hx) (hnm _ _ _ _ _ hcl) g1, by simp only [XS.vs, h2]; rfl, h1⟩
      · cases h
    · cases h
  · obtain ⟨S0, h, hz⟩ : ∃ S1 : XS, (match xeff c0 (X.ev (nth S1.r)) S1.s S1.c op with
        | some ⟨v, s, c, none⟩ => xput d v S1.r fun r => k ⟨r, s, c⟩
        | some ⟨v, s, c, some (.inl t)⟩ => fL (killR t S1.r) fun r => xput d v r fun r => k ⟨r, s, c⟩
        | _ => none) = some b ∧ Fz P dr c0 S S1 := by
      cases dr with
      | true => exact ⟨S, by simpa using h, Fz.refl⟩
      | false =>
        simp only [Bool.false_eq_true, if_false] at h
        split at h
        all_goals first | exact frzL_fz h | exact ⟨S, h, Fz.refl⟩
    obtain ⟨S1, v, σ', c', kt, g1, g2, g3⟩ := xeffop (P := P) (dr := dr) h
    exact ⟨S0, S1, v, σ', c', kt, hz, g1, g2, g3⟩

theorem xops_sound {P : Program} {call : XCall} (hc : CallOk P call) (hnm : ∀ f xs sl c r, call f xs sl c = some r → ∃ fn b, P.funcs[f]? = some fn ∧ (fn.name == "runtime.NumGoroutine") = false ∧ fn.body = some b) {dr : Bool} {lend : FuncId → Bool} {c0 : Nat} {l : List VO} {S S' : XS} (h : xops call dr lend c0 l S = some S') :
    VSteps P dr c0 l S.vs S'.vs := by
  induction l generalizing S with
  | nil => cases h; exact .nil _
  | cons o r ih =>
    obtain ⟨d, op, g⟩ := o
    have run : ∀ g : Option (Nat × Bool), (∀ t b, g = some (t, b) → nth S.r t = .lit (.bool b)) → xstep call dr lend c0 op d S (fun S => xops call dr lend c0 r S) = some S' → VSteps P dr c0 (⟨d, op, g⟩ :: r) S.vs S'.vs := by
      intro g hg h
      obtain ⟨S0, S1, v, σ', c', kt, hz, h1, h2, h3⟩ := xstep_sound hc (fun _ _ _ _ _ _ => trivial) hnm h
      refine hz.1 _ _ (.cons (.run (fun t b e => hz.2 _ _ (hg t b e)) h1) ?_)
      rw [← h2]
      exact ih h3
    cases g with
    | none => exact run none (fun t b e => by cases e) h
    | some tb =>
      obtain ⟨t, b⟩ := tb
      have skip : skips (nth S.r t) b → (xput d (.tup []) S.r fun rr => xops call dr lend c0 r ⟨rr, S.s, S.c⟩) = some S' → VSteps P dr c0 (⟨d, op, some (t, b)⟩ :: r) S.vs S'.vs := by
        intro hs h
        obtain ⟨r', h1, h2⟩ := xput_some h
        refine .cons (.skip rfl hs) ?_
        have := ih h1
        simp only [XS.vs, h2] at this
        exact this
      simp only [xops] at h
      split at h
      · rename_i b' hb
        split at h
        · rename_i e
          subst e
          exact run _ (fun t' b'' e => by cases e; exact hb) h
        · rename_i e
          exact skip (.inl ⟨b', hb, e⟩) h
      · rename_i hb
        exact skip (.inr hb) h
      · cases h

theorem xrun_sound {P : Program} {call : XCall} (hc : CallOk P call) (hnm : ∀ f xs sl c r, call f xs sl c = some r → ∃ fn b, P.funcs[f]? = some fn ∧ (fn.name == "runtime.NumGoroutine") = false ∧ fn.body = some b) {lend : FuncId → Bool} {rsl : List Nat} {c0 : Nat} {n : Nat} {vc : VC} {S : XS} {o : XOut} (h : xrun call lend rsl c0 n vc S = some o) :
    VExec P c0 vc S.vs o.e o.S.vs := by
  induction n generalizing vc S o with
  | zero => cases h
  | succ n ih =>
    unfold xrun at h
    split at h
    · cases h; exact .skip _
    · rename_i dr ops
      have fin : ∀ S0 : XS, (match xops call dr lend c0 ops S0 with | some S => some (⟨.normal, S⟩ : XOut) | none => none) = some o → VExec P c0 (.region dr ops) S0.vs o.e o.S.vs := by
        intro S0 h
        split at h
        · rename_i S1 hS
          cases h
          exact .region (xops_sound hc hnm hS)
        · cases h
      split at h
      · obtain ⟨S0, h1, h2⟩ := frzL_exec (P := P) h
        exact h2 _ _ _ (fin S0 h1)
      · exact fin S h
    · rename_i a b
      split at h
      · rename_i S1 h1
        exact .seq (ih h1) (ih h)
      · rename_i hne
        refine .seqOut (ih h) ?_
        intro e
        obtain ⟨e0, S1⟩ := o
        simp only at e
        subst e
        exact hne S1 h
    · split at h
      · rename_i hx
        exact .cond (t := true) hx (ih h)
      · rename_i hx
        exact .cond (t := false) hx (ih h)
      · cases h
    · split at h
      · rename_i j S1 h1
        split at h
        · rename_i e; subst e; cases h; exact .blockExit (ih h1)
        · rename_i e; cases h; exact .block (ih h1) (fun e' => by cases e'; exact e rfl)
      · rename_i hne
        refine .block (ih h) ?_
        intro e
        obtain ⟨e0, S1⟩ := o
        simp only at e
        subst e
        exact hne _ S1 h
    · split at h
      · rename_i S1 h1
        exact .loop (ih h1) (ih h)
      · rename_i hne
        refine .loopOut (ih h) ?_
        intro e
        obtain ⟨e0, S1⟩ := o
        simp only at e
        subst e
        exact hne S1 h
    · cases h; exact .exit _ _
    · obtain ⟨S0, h1, h2⟩ := frzL_exec (P := P) h
      cases h1
      exact h2 _ _ _ (.ret _)
    · cases h

theorem findF_some {T : List XFun} {f : FuncId} {e : XFun} (h : findF T f = some e) : e ∈ T ∧ e.f = f := by
  induction T with
  | nil => cases h
  | cons a r ih =>
    simp only [findF] at h
    split at h
    · rename_i g
      cases h
      exact ⟨List.mem_cons_self, Nat.eq_of_beq_eq_true g⟩
    · obtain ⟨h1, h2⟩ := ih h
      exact ⟨List.mem_cons_of_mem _ h1, h2⟩

theorem xcall_sound {P : Program} (hm : P.follows .mixedOrders = true) {orc : XOrc} (ho : OrcOk P orc) {T : List XFun} (hT : ∀ e ∈ T, GoodF P e) {lend : FuncId → Bool} {rounds : Nat} (n : Nat) : CallOk P (xcall orc T lend rounds n) ∧ ∀ f xs sl c r, xcall orc T lend rounds n f xs sl c = some r → ∃ fn b, P.funcs[f]? = some fn ∧ (fn.name == "runtime.NumGoroutine") = false ∧ fn.body = some b := by
  induction n with
  | zero => exact ⟨fun f xs sl c r h => (by cases h), fun f xs sl c r h => (by cases h)⟩
  | succ n ih =>
    constructor
    · intro f xs sl c r h
      simp only [xcall] at h
      split at h
      · cases h
      · rename_i f' vc rs m hf
        obtain ⟨h1, h2⟩ := findF_some hf
        obtain ⟨fn, code, g1, g2, g3, g4, g5, _⟩ := hT _ h1
        dsimp only at h2 g1 g3 g4 g5
        subst h2 g5
        split at h
        · rename_i v hv
          cases h
          cases sl with
          | nil =>
            refine ⟨?_, fun t _ => rfl⟩
            rw [lookB_nil]
            exact ho _ _ _ hv c
          | cons _ _ => cases hv
        split at h
        · rename_i hlen
          split at h
          · cases h
          · rename_i e S hne hr
            rw [fL_eq] at hr
            have hex := xrun_sound ih.1 ih.2 hr
            dsimp only at hex
            have hst : (⟨xs ++ List.replicate (fn.ntmps - xs.length) .any, sl, c⟩ : XS).vs = ⟨start xs, lookB sl, c⟩ := by simp only [XS.vs, nth_append_any, start_nth]
            rw [hst] at hex
            split at h
            · rename_i v hv
              cases h
              have he : e = .ret ∨ e = .normal := by
                cases e with
                | normal => exact .inr rfl
                | ret => exact .inl rfl
                | exit id => exact (hne id rfl).elim
              refine ⟨vcalls_of_exec hm g1 g2 g3 g4 hlen hex he hv (fun t k hk => ?_) (fun t ht => ?_), fun t ht => ?_⟩
              · rw [lookB_keep] at hk
                split at hk
                · exact hk
                · cases hk
              · rw [lookB_keep, if_pos]
                · rfl
                · cases hq : lookB sl t with
                  | none => exact absurd hq ht
                  | some k => rfl
              · dsimp only
                rw [lookB_keep, ht]
                rfl
            · cases h
          · cases h
        · cases h
    · intro f xs sl c r h
      simp only [xcall] at h
      split at h
      · cases h
      · rename_i f' vc rs m hf
        obtain ⟨h1, h2⟩ := findF_some hf
        obtain ⟨fn, code, g1, g2, g3, g4, g5, g6⟩ := hT _ h1
        dsimp only at h2 g1
        subst h2
        exact ⟨fn, code, g1, g6, g2⟩
end Go.VM
namespace Go.VM
theorem xcall_p {P : Program} (hm : P.follows .mixedOrders = true) {orc : XOrc} (ho : OrcOk P orc) {T : List XFun} (hT : ∀ e ∈ T, GoodF P e) {lend : FuncId → Bool} {rounds n c : Nat} {f : FuncId} {xs : List V} {v : V}
    (h : ((xcall orc T lend rounds n f xs [] c).map fun r => r.v) = some v) : ∃ c', VCallP P f c xs v c' := by
  cases hr : xcall orc T lend rounds n f xs [] c with
  | none => rw [hr] at h; cases h
  | some r =>
    rw [hr] at h
    cases h
    obtain ⟨h1, h2⟩ := (xcall_sound hm ho hT (lend := lend) (rounds := rounds) n).1 f xs [] c r hr
    have e : lookB r.s = noBlk := funext fun t => h2 t rfl
    rw [lookB_nil, e] at h1
    exact ⟨_, h1⟩
end Go.VM
set_option linter.unusedVariables false
set_option linter.unusedSimpArgs false
namespace Go.VM

/-- the same value, its memory not told -/
inductive Loose : V → V → Prop
  | lit (v : Value) : Loose (.lit v) (.lit v)
  | sl (t : Tok) (sz : Nat) (l : List Value) : Loose (.sl t sz (l.map .lit)) (.sl .unk sz (l.map .lit))
  | tup (l l' : List V) (hn : l.length = l'.length) (h : ∀ (j : Nat) (x y : V), l[j]? = some x → l'[j]? = some y → Loose x y) : Loose (.tup l) (.tup l')

theorem Loose.nats (t : Tok) (l : List Nat) : Loose (nats t l) (nats .unk l) := by
  have := Loose.sl t 1 (l.map fun (n : Nat) => Value.int .u64 (n : Int))
  rw [List.map_map] at this
  exact this
theorem Loose.pair {x y x' y' : V} (h1 : Loose x x') (h2 : Loose y y') : Loose (.tup [x, y]) (.tup [x', y']) :=
  .tup _ _ rfl fun j a b ha hb => match j, ha, hb with
    | 0, ha, hb => by simp at ha hb; subst ha hb; exact h1
    | 1, ha, hb => by simp at ha hb; subst ha hb; exact h2
    | j + 2, ha, hb => by simp at ha
theorem Loose.triple {x y z x' y' z' : V} (h1 : Loose x x') (h2 : Loose y y') (h3 : Loose z z') : Loose (.tup [x, y, z]) (.tup [x', y', z']) :=
  .tup _ _ rfl fun j a b ha hb => match j, ha, hb with
    | 0, ha, hb => by simp at ha hb; subst ha hb; exact h1
    | 1, ha, hb => by simp at ha hb; subst ha hb; exact h2
    | 2, ha, hb => by simp at ha hb; subst ha hb; exact h3
    | j + 3, ha, hb => by simp at ha

theorem rep_lit {w : World} {M : Nat → Prop} {μ : Nat → Nat} {c : Nat} {v u : Value} (h : Rep w M μ c (.lit v) u) : u = v := by cases h; rfl
theorem Loose.rep {w : World} {M : Nat → Prop} {μ : Nat → Nat} {c d : Nat} {x y : V} {u : Value} (hl : Loose x y) (h : Rep w M μ c x u) : Rep w M μ d y u := by
  induction hl generalizing u with
  | lit v => rw [rep_lit h]; exact .lit v
  | sl t sz l =>
    generalize hx : V.sl t sz (l.map .lit) = x at h
    cases h with
    | any | lit | agg | tup => cases hx
    | nil tk sz' =>
      simp only [V.sl.injEq] at hx
      obtain ⟨rfl, rfl, e⟩ := hx
      rw [e]
      exact .nil .unk sz
    | sl tk sz' n cap a l' vs ht hn hc hs hM hcap h1 hl =>
      simp only [V.sl.injEq] at hx
      obtain ⟨rfl, rfl, rfl⟩ := hx
      refine .sl .unk sz n cap a _ vs trivial hn hc hs hM hcap h1 fun j x hx => ?_
      have := hl j x hx
      rw [List.getElem?_map] at hx
      obtain ⟨v, _, rfl⟩ := Option.map_eq_some_iff.1 hx
      rw [rep_lit this]
      exact .lit v
  | tup l l' hn hll ih =>
    cases h with
    | tup _ cs hcs hc =>
      refine .tup _ cs (by omega) fun j y v hy hv => ?_
      have hj : j < l.length := by rw [hn]; exact (List.getElem?_eq_some_iff.1 hy).1
      exact ih j _ y (List.getElem?_eq_getElem hj) hy (hc j _ v (List.getElem?_eq_getElem hj) hv)
theorem Loose.one {x y : V} (h : Loose x y) : x.one = true := by cases h <;> rfl

theorem VCallP.loose {P : Program} {f : FuncId} {c c' : Nat} {xs : List V} {r v : V} (h : VCallP P f c xs r c') (hl : Loose r v) : VCallP P f c xs v c := by
  intro w Φ μ vs hm hn ha
  refine Calls.mono (h w Φ μ vs hm hn ha) ?_
  rintro e W' ⟨u, μ', rfl, hm', hr⟩
  refine ⟨u, μ', rfl, ⟨hm'.good, hm'.moved, Nat.le_refl _, hm'.mu0, fun t h1 h2 => absurd h2 (Nat.not_lt.2 h1), fun t t' h1 h2 => absurd h2 (Nat.not_lt.2 h1), fun t k hk => (by cases hk), fun t ht => absurd rfl ht, fun t k hk => (by cases hk)⟩, RepE.of_one (hl.rep (hr.one hl.one))⟩
theorem VSpec.loose {P : Program} {f : FuncId} {c : Nat} {xs : List V} {v : V} {Q : V → Nat → Prop} (h : VSpec P f c xs Q) (hl : ∀ r c', Q r c' → Loose r v) : VCallP P f c xs v c := by
  obtain ⟨r, c', _, h1, h2⟩ := h
  exact h1.loose (hl r c' h2)
/-- a call without arguments that told or tell of memory: at any count -/
theorem VCallP.at {P : Program} {f : FuncId} {c' : Nat} {v : Value} (h : VCallP P f 0 [] (.lit v) c') (c : Nat) : VCallP P f c [] (.lit v) c := by
  intro w Φ μ vs hm hn ha
  have hm0 : Mem ⟨P, 0, w, Φ, 0, μ, noBlk, noGiv⟩ noBlk 0 w μ := ⟨⟨fun t ht => absurd rfl ht, fun t ht => absurd rfl ht, fun t t' ht => absurd rfl ht, fun t ht => absurd ht (Nat.not_lt_zero _), fun b hb => hb.elim, fun t ht => absurd rfl ht, fun b hb => hb.elim, hm.good.glob⟩, ⟨rfl, rfl, rfl, Nat.le_refl _, Grows.refl _, fun _ _ _ _ => rfl⟩, Nat.le_refl _, fun _ _ => rfl, fun t h1 h2 => absurd h2 (Nat.not_lt_zero _), fun t t' h1 h2 => absurd h2 (Nat.not_lt_zero _), fun t k hk => (by cases hk), fun t ht => absurd rfl ht, fun t k hk => (by cases hk)⟩
  refine Calls.mono (h w Φ μ vs hm0 hn (fun j x v hx => by simp at hx)) ?_
  rintro e W' ⟨u, μ', rfl, hm', hr⟩
  refine ⟨u, μ, rfl, ⟨hm.good, ⟨hm'.moved.os, hm'.moved.tape, hm'.moved.output, hm'.moved.size, hm'.moved.grows, fun b hb hg _ => hm'.moved.block b hb hg (fun t ht => absurd rfl ht)⟩, Nat.le_refl _, fun _ _ => rfl, fun t h1 h2 => absurd h2 (Nat.not_lt.2 h1), fun t t' h1 h2 => absurd h2 (Nat.not_lt.2 h1), fun t k hk => (by cases hk), fun t ht => absurd rfl ht, fun t k hk => (by cases hk)⟩, RepE.of_one ?_⟩
  have := hr.one rfl
  rw [rep_lit this]
  exact .lit v

/-! ### reading arguments -/
def dec1 (v : V) : Option Nat := match v with | .lit (.int .u64 (.ofNat n)) => if n < 18446744073709551616 then some n else none | _ => none
def decL (l : List V) : Option (List Nat) := match l with
  | [] => some []
  | x :: r => match dec1 x, decL r with | some n, some l => some (n :: l) | _, _ => none
theorem dec1_some {v : V} {n : Nat} (h : dec1 v = some n) : v = nv n ∧ n < 18446744073709551616 := by
  unfold dec1 at h
  split at h
  · split at h
    · cases h; exact ⟨rfl, by assumption⟩
    · cases h
  · cases h
theorem decL_some {l : List V} {r : List Nat} (h : decL l = some r) : l = r.map nv ∧ Lim 18446744073709551616 r := by
  induction l generalizing r with
  | nil => cases h; exact ⟨rfl, Lim.nil⟩
  | cons x l ih =>
    simp only [decL] at h
    split at h
    · rename_i n l' h1 h2
      cases h
      obtain ⟨rfl, hn⟩ := dec1_some h1
      obtain ⟨rfl, hl⟩ := ih h2
      exact ⟨rfl, hl.cons hn⟩
    · cases h
def shortL (l : List Nat) : Bool := Nat.ble l.length 1000000
/-- limbs, at most a million -/
def decN (v : V) : Option (Tok × List Nat) := match v with
  | .sl t 1 l => match decL l with | some r => if shortL r = true then some (t, r) else none | none => none
  | _ => none
theorem decN_some {v : V} {t : Tok} {l : List Nat} (h : decN v = some (t, l)) : v = nats t l ∧ Lim 18446744073709551616 l ∧ l.length ≤ 1000000 := by
  unfold decN at h
  split at h
  · split at h
    · rename_i r hr
      split at h
      · rename_i hs
        cases h
        obtain ⟨rfl, hl⟩ := decL_some hr
        exact ⟨rfl, hl, Nat.le_of_ble_eq_true hs⟩
      · cases h
    · cases h
  · cases h
def decI (v : V) : Option Nat := match v with | .lit (.int .i64 (.ofNat n)) => if n < 9223372036854775808 then some n else none | _ => none
theorem decI_some {v : V} {n : Nat} (h : decI v = some n) : v = iv n ∧ n < 9223372036854775808 := by
  unfold decI at h
  split at h
  · split at h
    · cases h; exact ⟨rfl, by assumption⟩
    · cases h
  · cases h
def fD {α : Type} (l : List Nat) (k : List Nat → α) : α := match l with | [] => k [] | x :: xs => fN x fun x => fD xs fun xs => k (x :: xs)
theorem fD_eq {α : Type} (l : List Nat) (k : List Nat → α) : fD l k = k l := by
  induction l generalizing k with
  | nil => rfl
  | cons x xs ih => rw [fD, fN_eq, ih]
def unkN (n : Nat) : V := fN n fun n => fD (digs 18446744073709551616 n) fun l => nats .unk l
theorem unkN_eq (n : Nat) : unkN n = nats .unk (digs 18446744073709551616 n) := by unfold unkN; rw [fN_eq, fD_eq]
def toldN (n : Nat) : V := fN n fun n => if Nat.ble (bl n) 67108864 = true then .tup [unkN n, iv 0] else .tup [.sl .unk 1 [], iv 3]

theorem iteO {p : Prop} [Decidable p] {a b : Option V} {v : V} (h : (if p then a else b) = some v) : (p ∧ a = some v) ∨ (¬ p ∧ b = some v) := by
  by_cases g : p
  · rw [if_pos g] at h; exact .inl ⟨g, h⟩
  · rw [if_neg g] at h; exact .inr ⟨g, h⟩
/-! ### answers out of numbers -/
def o1 (g : Nat → V) (xs : List V) : Option V := match xs with | [x] => (match decN x with | some p => some (g (val 18446744073709551616 p.2)) | none => none) | _ => none
def o2 (g : Nat → Nat → V) (xs : List V) : Option V := match xs with | [x, y] => (match decN x, decN y with | some p, some q => some (g (val 18446744073709551616 p.2) (val 18446744073709551616 q.2)) | _, _ => none) | _ => none
def o1n (g : Nat → Nat → V) (xs : List V) : Option V := match xs with | [x, y] => (match decN x, dec1 y with | some p, some q => some (g (val 18446744073709551616 p.2) q) | _, _ => none) | _ => none
def o1i (g : Nat → Nat → Option V) (xs : List V) : Option V := match xs with | [x, y] => (match decN x, decI y with | some p, some q => g (val 18446744073709551616 p.2) q | _, _ => none) | _ => none
def o0n (g : Nat → V) (xs : List V) : Option V := match xs with | [x] => (match dec1 x with | some q => some (g q) | none => none) | _ => none
section
variable {P : Program} {f : FuncId} {xs : List V} {v : V}
theorem o1_ok {g : Nat → V} (h : ∀ t a c, Lim 18446744073709551616 a → a.length ≤ 1000000 → VCallP P f c [nats t a] (g (val 18446744073709551616 a)) c) (e : o1 g xs = some v) (c : Nat) : VCallP P f c xs v c := by
  unfold o1 at e
  split at e
  · split at e
    · rename_i p hp
      cases e
      obtain ⟨rfl, h1, h2⟩ := decN_some hp
      exact h _ _ c h1 h2
    · cases e
  · cases e
theorem o2_ok {g : Nat → Nat → V} (h : ∀ t u a b c, Lim 18446744073709551616 a → Lim 18446744073709551616 b → a.length ≤ 1000000 → b.length ≤ 1000000 → VCallP P f c [nats t a, nats u b] (g (val 18446744073709551616 a) (val 18446744073709551616 b)) c) (e : o2 g xs = some v) (c : Nat) : VCallP P f c xs v c := by
  unfold o2 at e
  split at e
  · split at e
    · rename_i p q hp hq
      cases e
      obtain ⟨rfl, h1, h2⟩ := decN_some hp
      obtain ⟨rfl, h3, h4⟩ := decN_some hq
      exact h _ _ _ _ c h1 h3 h2 h4
    · cases e
  · cases e
theorem o1n_ok {g : Nat → Nat → V} (h : ∀ t a n c, Lim 18446744073709551616 a → n < 18446744073709551616 → a.length ≤ 1000000 → VCallP P f c [nats t a, nv n] (g (val 18446744073709551616 a) n) c) (e : o1n g xs = some v) (c : Nat) : VCallP P f c xs v c := by
  unfold o1n at e
  split at e
  · split at e
    · rename_i p q hp hq
      cases e
      obtain ⟨rfl, h1, h2⟩ := decN_some hp
      obtain ⟨rfl, h3⟩ := dec1_some hq
      exact h _ _ _ c h1 h3 h2
    · cases e
  · cases e
theorem o1i_ok {g : Nat → Nat → Option V} (h : ∀ t a n c v, Lim 18446744073709551616 a → n < 9223372036854775808 → a.length ≤ 1000000 → g (val 18446744073709551616 a) n = some v → VCallP P f c [nats t a, iv n] v c) (e : o1i g xs = some v) (c : Nat) : VCallP P f c xs v c := by
  unfold o1i at e
  split at e
  · split at e
    · rename_i p q hp hq
      obtain ⟨rfl, h1, h2⟩ := decN_some hp
      obtain ⟨rfl, h3⟩ := decI_some hq
      exact h _ _ _ c _ h1 h3 h2 e
    · cases e
  · cases e
theorem o0n_ok {g : Nat → V} (h : ∀ n c, n < 18446744073709551616 → VCallP P f c [nv n] (g n) c) (e : o0n g xs = some v) (c : Nat) : VCallP P f c xs v c := by
  unfold o0n at e
  split at e
  · split at e
    · rename_i q hq
      cases e
      obtain ⟨rfl, h3⟩ := dec1_some hq
      exact h _ c h3
    · cases e
  · cases e
end
end Go.VM
set_option linter.unusedSimpArgs false
set_option linter.unusedVariables false
set_option maxRecDepth 100000
namespace Go.Proofs.YtacodmnlnlbahabDoor
open Go.VM

theorem nil_loose : Loose nil1 (.sl .unk 1 []) := Loose.sl .nil 1 []
theorem blt_of {a b : Nat} : Nat.blt a b = true ↔ a < b := by rw [Nat.blt_eq]
theorem natR_loose {c c' n : Nat} {r : V} (h : NatR c c' n r) : Loose r (unkN n) := by
  obtain ⟨t, rfl, _⟩ := h
  rw [unkN_eq]; exact Loose.nats t _
theorem told_loose {c c' n : Nat} {r : V} (h : Told c c' n r) : Loose r (toldN n) := by
  unfold toldN
  rw [fN_eq]
  rcases h with ⟨h, t, rfl, _⟩ | ⟨h, rfl⟩
  · rw [if_pos (Nat.ble_eq_true_of_le h), unkN_eq]; exact .pair (Loose.nats t _) (.lit _)
  · rw [if_neg (fun e => absurd (Nat.le_of_ble_eq_true e) (by omega))]
    exact .pair nil_loose (.lit _)

def throughN (a d : Nat) : V := if Nat.beq d 0 = true then .tup [.sl .unk 1 [], nv 0, iv 1] else if Nat.ble (bl (a / d)) 67108864 = true then fN (a % d) fun m => .tup [unkN (a / d), nv m, iv 0] else .tup [.sl .unk 1 [], nv 0, iv 3]
def subN (a b : Nat) : V := if Nat.blt a b = true then .tup [.sl .unk 1 [], iv 10] else toldN (a - b)

def orcNat : XOrc := fun f xs =>
  if Nat.beq f F.nat_Length = true then o1 (fun a => fN (bl a) fun n => iv n) xs
  else if Nat.beq f F.nat_Compare = true then o2 (fun a b => if Nat.blt a b = true then iv (-1) else if Nat.beq a b = true then iv 0 else iv 1) xs
  else if Nat.beq f F.nat_From = true then o0n unkN xs
  else if Nat.beq f F.nat_Norm = true then o1 unkN xs
  else if Nat.beq f F.nat_Add = true then o2 (fun a b => toldN (a + b)) xs
  else if Nat.beq f F.nat_Sub = true then o2 subN xs
  else if Nat.beq f F.nat_Times = true then o1n (fun a n => toldN (a * n)) xs
  else if Nat.beq f F.nat_Left = true then o1i (fun a n => if Nat.ble n 1000000 = true then some (toldN (a * 2 ^ n)) else none) xs
  else if Nat.beq f F.mul_Mul = true then o2 (fun a b => toldN (a * b)) xs
  else if Nat.beq f F.mul_Square = true then o1 (fun a => toldN (a * a)) xs
  else if Nat.beq f F.mul_Pow = true then o1i (fun a n => if Nat.ble n 1000000 = true then some (toldN (a ^ n)) else none) xs
  else if Nat.beq f F.nat_Through = true then o1n throughN xs
  else none

theorem orcNat_ok : OrcOk Tryd.prog orcNat := by
  intro f xs v h c
  unfold orcNat at h
  rcases iteO h with ⟨e, h⟩ | ⟨_, h⟩
  · rw [Nat.eq_of_beq_eq_true e]
    refine o1_ok (fun t a c h1 h2 => (length_spec t a c h1 (by omega)).loose ?_) h c
    rintro r c' rfl
    rw [fN_eq]; exact .lit _
  rcases iteO h with ⟨e, h⟩ | ⟨_, h⟩
  · rw [Nat.eq_of_beq_eq_true e]
    refine o2_ok (fun t u a b c h1 h2 h3 h4 => (compare_spec t u a b c h1 h2 (by omega) (by omega)).loose ?_) h c
    rintro r c' rfl
    unfold cmpI
    by_cases g : val 18446744073709551616 a < val 18446744073709551616 b
    · rw [if_pos g, if_pos (blt_of.2 g)]; exact .lit _
    · rw [if_neg g, if_neg (fun e => g (blt_of.1 e))]
      by_cases g2 : val 18446744073709551616 a = val 18446744073709551616 b
      · rw [if_pos g2, if_pos (by rw [Nat.beq_eq]; exact g2)]; exact .lit _
      · rw [if_neg g2, if_neg (fun e => g2 (Nat.eq_of_beq_eq_true e))]; exact .lit _
  rcases iteO h with ⟨e, h⟩ | ⟨_, h⟩
  · rw [Nat.eq_of_beq_eq_true e]
    exact o0n_ok (fun n c h1 => (from_spec n c h1).loose fun r c' h => natR_loose h) h c
  rcases iteO h with ⟨e, h⟩ | ⟨_, h⟩
  · rw [Nat.eq_of_beq_eq_true e]
    exact o1_ok (fun t a c h1 h2 => (norm_spec t a c h1 (by omega)).loose fun r c' h => natR_loose h) h c
  rcases iteO h with ⟨e, h⟩ | ⟨_, h⟩
  · rw [Nat.eq_of_beq_eq_true e]
    exact o2_ok (fun t u a b c h1 h2 h3 h4 => (add_spec t u a b c h1 h2 (by omega) (by omega)).loose fun r c' h => told_loose h) h c
  rcases iteO h with ⟨e, h⟩ | ⟨_, h⟩
  · rw [Nat.eq_of_beq_eq_true e]
    refine o2_ok (fun t u a b c h1 h2 h3 h4 => (sub_spec t u a b c h1 h2 (by omega) (by omega)).loose ?_) h c
    intro r c' hr
    unfold subN
    split at hr
    · rename_i g
      rw [if_pos (blt_of.2 g), hr]
      exact .pair nil_loose (.lit _)
    · rename_i g
      rw [if_neg (fun e => g (blt_of.1 e))]
      exact told_loose hr
  rcases iteO h with ⟨e, h⟩ | ⟨_, h⟩
  · rw [Nat.eq_of_beq_eq_true e]
    exact o1n_ok (fun t a n c h1 h2 h3 => (times_spec t a n c h1 h2 (by omega)).loose fun r c' h => told_loose h) h c
  rcases iteO h with ⟨e, h⟩ | ⟨_, h⟩
  · rw [Nat.eq_of_beq_eq_true e]
    refine o1i_ok (fun t a n c v h1 h2 h3 he => ?_) h c
    rcases iteO he with ⟨g, he⟩ | ⟨_, he⟩
    · cases he
      exact (left_spec t a n c h1 (by have := Nat.le_of_ble_eq_true g; omega) (by omega)).loose fun r c' h => told_loose h
    · cases he
  rcases iteO h with ⟨e, h⟩ | ⟨_, h⟩
  · rw [Nat.eq_of_beq_eq_true e]
    exact o2_ok (fun t u a b c h1 h2 h3 h4 => (mul_spec t u a b c h1 h2 (by omega) (by omega)).loose fun r c' h => told_loose h) h c
  rcases iteO h with ⟨e, h⟩ | ⟨_, h⟩
  · rw [Nat.eq_of_beq_eq_true e]
    exact o1_ok (g := fun a => toldN (a * a)) (fun t a c h1 h2 => (square_spec t a c h1 (by omega)).loose fun r c' h => told_loose h) h c
  rcases iteO h with ⟨e, h⟩ | ⟨_, h⟩
  · rw [Nat.eq_of_beq_eq_true e]
    refine o1i_ok (fun t a n c v h1 h2 h3 he => ?_) h c
    rcases iteO he with ⟨g, he⟩ | ⟨_, he⟩
    · cases he
      exact (pow_spec t a n c h1 (by omega) h2).loose fun r c' h => told_loose h
    · cases he
  rcases iteO h with ⟨e, h⟩ | ⟨_, h⟩
  · rw [Nat.eq_of_beq_eq_true e]
    refine o1n_ok (g := throughN) (fun t a n c h1 h2 h3 => (through_spec t a n c h1 h2 (by omega)).loose ?_) h c
    rintro r c' ⟨q1, q2, q3⟩
    unfold throughN
    by_cases g : n = 0
    · rw [if_pos (by rw [Nat.beq_eq]; exact g), q1 g]
      exact .triple nil_loose (.lit _) (.lit _)
    · rw [if_neg (fun e => g (Nat.eq_of_beq_eq_true e))]
      by_cases g2 : bl (val 18446744073709551616 a / n) ≤ 67108864
      · obtain ⟨t', rfl, _⟩ := q2 (by omega) g2
        rw [if_pos (Nat.ble_eq_true_of_le g2), fN_eq, unkN_eq]
        exact .triple (Loose.nats _ _) (.lit _) (.lit _)
      · rw [if_neg (fun e => absurd (Nat.le_of_ble_eq_true e) g2), q3 (by omega) (by omega)]
        exact .triple nil_loose (.lit _) (.lit _)
  cases h
end Go.Proofs.YtacodmnlnlbahabDoor
set_option linter.unusedVariables false
set_option maxRecDepth 100000
namespace Go.Proofs.YtacodmnlnlbahabDoor
open Go.VM

theorem X.surdlaw09_RoundedNames : GoodF Tryd.prog ⟨F.surdlaw09_RoundedNames, C.surdlaw09_RoundedNames, R.surdlaw09_RoundedNames, 4⟩ := ⟨_, _, E.surdlaw09_RoundedNames, B.surdlaw09_RoundedNames, K.surdlaw09_RoundedNames, Q.surdlaw09_RoundedNames, N.surdlaw09_RoundedNames, by kernel_rfl⟩
theorem X.surdlaw09_lives : GoodF Tryd.prog ⟨F.surdlaw09_lives, C.surdlaw09_lives, R.surdlaw09_lives, 34⟩ := ⟨_, _, E.surdlaw09_lives, B.surdlaw09_lives, K.surdlaw09_lives, Q.surdlaw09_lives, N.surdlaw09_lives, by kernel_rfl⟩
theorem X.rounded_Quo : GoodF Tryd.prog ⟨F.rounded_Quo, C.rounded_Quo, R.rounded_Quo, 63⟩ := ⟨_, _, E.rounded_Quo, B.rounded_Quo, K.rounded_Quo, Q.rounded_Quo, N.rounded_Quo, by kernel_rfl⟩
theorem X.rounded_Sqrt : GoodF Tryd.prog ⟨F.rounded_Sqrt, C.rounded_Sqrt, R.rounded_Sqrt, 122⟩ := ⟨_, _, E.rounded_Sqrt, B.rounded_Sqrt, K.rounded_Sqrt, Q.rounded_Sqrt, N.rounded_Sqrt, by kernel_rfl⟩
theorem X.surdlaw09_same : GoodF Tryd.prog ⟨F.surdlaw09_same, C.surdlaw09_same, R.surdlaw09_same, 57⟩ := ⟨_, _, E.surdlaw09_same, B.surdlaw09_same, K.surdlaw09_same, Q.surdlaw09_same, N.surdlaw09_same, by kernel_rfl⟩
theorem X.surdref01_Int : GoodF Tryd.prog ⟨F.surdref01_Int, C.surdref01_Int, R.surdref01_Int, 7⟩ := ⟨_, _, E.surdref01_Int, B.surdref01_Int, K.surdref01_Int, Q.surdref01_Int, N.surdref01_Int, by kernel_rfl⟩
theorem X.surdref01_Of : GoodF Tryd.prog ⟨F.surdref01_Of, C.surdref01_Of, R.surdref01_Of, 26⟩ := ⟨_, _, E.surdref01_Of, B.surdref01_Of, K.surdref01_Of, Q.surdref01_Of, N.surdref01_Of, by kernel_rfl⟩
theorem X.rounded_read : GoodF Tryd.prog ⟨F.rounded_read, C.rounded_read, R.rounded_read, 36⟩ := ⟨_, _, E.rounded_read, B.rounded_read, K.rounded_read, Q.rounded_read, N.rounded_read, by kernel_rfl⟩
theorem X.rounded_asked : GoodF Tryd.prog ⟨F.rounded_asked, C.rounded_asked, R.rounded_asked, 19⟩ := ⟨_, _, E.rounded_asked, B.rounded_asked, K.rounded_asked, Q.rounded_asked, N.rounded_asked, by kernel_rfl⟩
theorem X.rounded_quotient : GoodF Tryd.prog ⟨F.rounded_quotient, C.rounded_quotient, R.rounded_quotient, 106⟩ := ⟨_, _, E.rounded_quotient, B.rounded_quotient, K.rounded_quotient, Q.rounded_quotient, N.rounded_quotient, by kernel_rfl⟩
theorem X.nat_Length : GoodF Tryd.prog ⟨F.nat_Length, C.nat_Length, R.nat_Length, 20⟩ := ⟨_, _, E.nat_Length, B.nat_Length, K.nat_Length, Q.nat_Length, N.nat_Length, by kernel_rfl⟩
theorem X.rounded_finish : GoodF Tryd.prog ⟨F.rounded_finish, C.rounded_finish, R.rounded_finish, 54⟩ := ⟨_, _, E.rounded_finish, B.rounded_finish, K.rounded_finish, Q.rounded_finish, N.rounded_finish, by kernel_rfl⟩
theorem X.rounded_left : GoodF Tryd.prog ⟨F.rounded_left, C.rounded_left, R.rounded_left, 59⟩ := ⟨_, _, E.rounded_left, B.rounded_left, K.rounded_left, Q.rounded_left, N.rounded_left, by kernel_rfl⟩
theorem X.nat_Tail : GoodF Tryd.prog ⟨F.nat_Tail, C.nat_Tail, R.nat_Tail, 20⟩ := ⟨_, _, E.nat_Tail, B.nat_Tail, K.nat_Tail, Q.nat_Tail, N.nat_Tail, by kernel_rfl⟩
theorem X.rounded_right : GoodF Tryd.prog ⟨F.rounded_right, C.rounded_right, R.rounded_right, 56⟩ := ⟨_, _, E.rounded_right, B.rounded_right, K.rounded_right, Q.rounded_right, N.rounded_right, by kernel_rfl⟩
theorem X.roots_Sqrt : GoodF Tryd.prog ⟨F.roots_Sqrt, C.roots_Sqrt, R.roots_Sqrt, 10⟩ := ⟨_, _, E.roots_Sqrt, B.roots_Sqrt, K.roots_Sqrt, Q.roots_Sqrt, N.roots_Sqrt, by kernel_rfl⟩
theorem X.nat_Bit : GoodF Tryd.prog ⟨F.nat_Bit, C.nat_Bit, R.nat_Bit, 25⟩ := ⟨_, _, E.nat_Bit, B.nat_Bit, K.nat_Bit, Q.nat_Bit, N.nat_Bit, by kernel_rfl⟩
theorem X.surdref01_Num_Is : GoodF Tryd.prog ⟨F.surdref01_Num_Is, C.surdref01_Num_Is, R.surdref01_Num_Is, 29⟩ := ⟨_, _, E.surdref01_Num_Is, B.surdref01_Num_Is, K.surdref01_Num_Is, Q.surdref01_Num_Is, N.surdref01_Num_Is, by kernel_rfl⟩
theorem X.surdref01_norm : GoodF Tryd.prog ⟨F.surdref01_norm, C.surdref01_norm, R.surdref01_norm, 22⟩ := ⟨_, _, E.surdref01_norm, B.surdref01_norm, K.surdref01_norm, Q.surdref01_norm, N.surdref01_norm, by kernel_rfl⟩
theorem X.nat_Norm : GoodF Tryd.prog ⟨F.nat_Norm, C.nat_Norm, R.nat_Norm, 6⟩ := ⟨_, _, E.nat_Norm, B.nat_Norm, K.nat_Norm, Q.nat_Norm, N.nat_Norm, by kernel_rfl⟩
theorem X.div_Quo : GoodF Tryd.prog ⟨F.div_Quo, C.div_Quo, R.div_Quo, 25⟩ := ⟨_, _, E.div_Quo, B.div_Quo, K.div_Quo, Q.div_Quo, N.div_Quo, by kernel_rfl⟩
theorem X.rounded_minus : GoodF Tryd.prog ⟨F.rounded_minus, C.rounded_minus, R.rounded_minus, 52⟩ := ⟨_, _, E.rounded_minus, B.rounded_minus, K.rounded_minus, Q.rounded_minus, N.rounded_minus, by kernel_rfl⟩
theorem X.rounded_times : GoodF Tryd.prog ⟨F.rounded_times, C.rounded_times, R.rounded_times, 43⟩ := ⟨_, _, E.rounded_times, B.rounded_times, K.rounded_times, Q.rounded_times, N.rounded_times, by kernel_rfl⟩
theorem X.nat_Compare : GoodF Tryd.prog ⟨F.nat_Compare, C.nat_Compare, R.nat_Compare, 45⟩ := ⟨_, _, E.nat_Compare, B.nat_Compare, K.nat_Compare, Q.nat_Compare, N.nat_Compare, by kernel_rfl⟩
theorem X.nat_trim : GoodF Tryd.prog ⟨F.nat_trim, C.nat_trim, R.nat_trim, 21⟩ := ⟨_, _, E.nat_trim, B.nat_trim, K.nat_trim, Q.nat_trim, N.nat_trim, by kernel_rfl⟩
theorem X.bits_Len64 : GoodF Tryd.prog ⟨F.bits_Len64, C.bits_Len64, R.bits_Len64, 25⟩ := ⟨_, _, E.bits_Len64, B.bits_Len64, K.bits_Len64, Q.bits_Len64, N.bits_Len64, by kernel_rfl⟩
theorem X.rounded_way : GoodF Tryd.prog ⟨F.rounded_way, C.rounded_way, R.rounded_way, 8⟩ := ⟨_, _, E.rounded_way, B.rounded_way, K.rounded_way, Q.rounded_way, N.rounded_way, by kernel_rfl⟩
theorem X.nat_Add : GoodF Tryd.prog ⟨F.nat_Add, C.nat_Add, R.nat_Add, 61⟩ := ⟨_, _, E.nat_Add, B.nat_Add, K.nat_Add, Q.nat_Add, N.nat_Add, by kernel_rfl⟩
theorem X.nat_From : GoodF Tryd.prog ⟨F.nat_From, C.nat_From, R.nat_From, 7⟩ := ⟨_, _, E.nat_From, B.nat_From, K.nat_From, Q.nat_From, N.nat_From, by kernel_rfl⟩
theorem X.bits_TrailingZeros64 : GoodF Tryd.prog ⟨F.bits_TrailingZeros64, C.bits_TrailingZeros64, R.bits_TrailingZeros64, 14⟩ := ⟨_, _, E.bits_TrailingZeros64, B.bits_TrailingZeros64, K.bits_TrailingZeros64, Q.bits_TrailingZeros64, N.bits_TrailingZeros64, by kernel_rfl⟩
theorem X.roots_Root : GoodF Tryd.prog ⟨F.roots_Root, C.roots_Root, R.roots_Root, 42⟩ := ⟨_, _, E.roots_Root, B.roots_Root, K.roots_Root, Q.roots_Root, N.roots_Root, by kernel_rfl⟩
theorem X.surdref01_Num_Limbs : GoodF Tryd.prog ⟨F.surdref01_Num_Limbs, C.surdref01_Num_Limbs, R.surdref01_Num_Limbs, 34⟩ := ⟨_, _, E.surdref01_Num_Limbs, B.surdref01_Num_Limbs, K.surdref01_Num_Limbs, Q.surdref01_Num_Limbs, N.surdref01_Num_Limbs, by kernel_rfl⟩
theorem X.div_divide : GoodF Tryd.prog ⟨F.div_divide, C.div_divide, R.div_divide, 104⟩ := ⟨_, _, E.div_divide, B.div_divide, K.div_divide, Q.div_divide, N.div_divide, by kernel_rfl⟩
theorem X.mul_Mul : GoodF Tryd.prog ⟨F.mul_Mul, C.mul_Mul, R.mul_Mul, 11⟩ := ⟨_, _, E.mul_Mul, B.mul_Mul, K.mul_Mul, Q.mul_Mul, N.mul_Mul, by kernel_rfl⟩
theorem X.rounded_plus : GoodF Tryd.prog ⟨F.rounded_plus, C.rounded_plus, R.rounded_plus, 51⟩ := ⟨_, _, E.rounded_plus, B.rounded_plus, K.rounded_plus, Q.rounded_plus, N.rounded_plus, by kernel_rfl⟩
theorem X.rounded_way_1 : GoodF Tryd.prog ⟨F.rounded_way_1, C.rounded_way_1, R.rounded_way_1, 12⟩ := ⟨_, _, E.rounded_way_1, B.rounded_way_1, K.rounded_way_1, Q.rounded_way_1, N.rounded_way_1, by kernel_rfl⟩
theorem X.rounded_way_2 : GoodF Tryd.prog ⟨F.rounded_way_2, C.rounded_way_2, R.rounded_way_2, 13⟩ := ⟨_, _, E.rounded_way_2, B.rounded_way_2, K.rounded_way_2, Q.rounded_way_2, N.rounded_way_2, by kernel_rfl⟩
theorem X.rounded_way_3 : GoodF Tryd.prog ⟨F.rounded_way_3, C.rounded_way_3, R.rounded_way_3, 18⟩ := ⟨_, _, E.rounded_way_3, B.rounded_way_3, K.rounded_way_3, Q.rounded_way_3, N.rounded_way_3, by kernel_rfl⟩
theorem X.nat_told : GoodF Tryd.prog ⟨F.nat_told, C.nat_told, R.nat_told, 10⟩ := ⟨_, _, E.nat_told, B.nat_told, K.nat_told, Q.nat_told, N.nat_told, by kernel_rfl⟩
theorem X.roots_fits : GoodF Tryd.prog ⟨F.roots_fits, C.roots_fits, R.roots_fits, 9⟩ := ⟨_, _, E.roots_fits, B.roots_fits, K.roots_fits, Q.roots_fits, N.roots_fits, by kernel_rfl⟩
theorem X.roots_newton : GoodF Tryd.prog ⟨F.roots_newton, C.roots_newton, R.roots_newton, 72⟩ := ⟨_, _, E.roots_newton, B.roots_newton, K.roots_newton, Q.roots_newton, N.roots_newton, by kernel_rfl⟩
theorem X.mul_Pow : GoodF Tryd.prog ⟨F.mul_Pow, C.mul_Pow, R.mul_Pow, 63⟩ := ⟨_, _, E.mul_Pow, B.mul_Pow, K.mul_Pow, Q.mul_Pow, N.mul_Pow, by kernel_rfl⟩
theorem X.roots_less : GoodF Tryd.prog ⟨F.roots_less, C.roots_less, R.roots_less, 14⟩ := ⟨_, _, E.roots_less, B.roots_less, K.roots_less, Q.roots_less, N.roots_less, by kernel_rfl⟩
theorem X.bits_Div64 : GoodF Tryd.prog ⟨F.bits_Div64, C.bits_Div64, R.bits_Div64, 135⟩ := ⟨_, _, E.bits_Div64, B.bits_Div64, K.bits_Div64, Q.bits_Div64, N.bits_Div64, by kernel_rfl⟩
theorem X.bits_LeadingZeros64 : GoodF Tryd.prog ⟨F.bits_LeadingZeros64, C.bits_LeadingZeros64, R.bits_LeadingZeros64, 6⟩ := ⟨_, _, E.bits_LeadingZeros64, B.bits_LeadingZeros64, K.bits_LeadingZeros64, Q.bits_LeadingZeros64, N.bits_LeadingZeros64, by kernel_rfl⟩
theorem X.div_up : GoodF Tryd.prog ⟨F.div_up, C.div_up, R.div_up, 39⟩ := ⟨_, _, E.div_up, B.div_up, K.div_up, Q.div_up, N.div_up, by kernel_rfl⟩
theorem X.div_guess : GoodF Tryd.prog ⟨F.div_guess, C.div_guess, R.div_guess, 195⟩ := ⟨_, _, E.div_guess, B.div_guess, K.div_guess, Q.div_guess, N.div_guess, by kernel_rfl⟩
theorem X.div_down : GoodF Tryd.prog ⟨F.div_down, C.div_down, R.div_down, 47⟩ := ⟨_, _, E.div_down, B.div_down, K.div_down, Q.div_down, N.div_down, by kernel_rfl⟩
theorem X.mul_product : GoodF Tryd.prog ⟨F.mul_product, C.mul_product, R.mul_product, 22⟩ := ⟨_, _, E.mul_product, B.mul_product, K.mul_product, Q.mul_product, N.mul_product, by kernel_rfl⟩
theorem X.mul_Mul_1 : GoodF Tryd.prog ⟨F.mul_Mul_1, C.mul_Mul_1, R.mul_Mul_1, 8⟩ := ⟨_, _, E.mul_Mul_1, B.mul_Mul_1, K.mul_Mul_1, Q.mul_Mul_1, N.mul_Mul_1, by kernel_rfl⟩
theorem X.mul_halved : GoodF Tryd.prog ⟨F.mul_halved, C.mul_halved, R.mul_halved, 124⟩ := ⟨_, _, E.mul_halved, B.mul_halved, K.mul_halved, Q.mul_halved, N.mul_halved, by kernel_rfl⟩
theorem X.roots_power : GoodF Tryd.prog ⟨F.roots_power, C.roots_power, R.roots_power, 12⟩ := ⟨_, _, E.roots_power, B.roots_power, K.roots_power, Q.roots_power, N.roots_power, by kernel_rfl⟩
theorem X.nat_Times : GoodF Tryd.prog ⟨F.nat_Times, C.nat_Times, R.nat_Times, 56⟩ := ⟨_, _, E.nat_Times, B.nat_Times, K.nat_Times, Q.nat_Times, N.nat_Times, by kernel_rfl⟩
theorem X.nat_Through : GoodF Tryd.prog ⟨F.nat_Through, C.nat_Through, R.nat_Through, 48⟩ := ⟨_, _, E.nat_Through, B.nat_Through, K.nat_Through, Q.nat_Through, N.nat_Through, by kernel_rfl⟩
theorem X.mul_Square : GoodF Tryd.prog ⟨F.mul_Square, C.mul_Square, R.mul_Square, 9⟩ := ⟨_, _, E.mul_Square, B.mul_Square, K.mul_Square, Q.mul_Square, N.mul_Square, by kernel_rfl⟩
theorem X.nat_Sub : GoodF Tryd.prog ⟨F.nat_Sub, C.nat_Sub, R.nat_Sub, 52⟩ := ⟨_, _, E.nat_Sub, B.nat_Sub, K.nat_Sub, Q.nat_Sub, N.nat_Sub, by kernel_rfl⟩
theorem X.bits_Mul64 : GoodF Tryd.prog ⟨F.bits_Mul64, C.bits_Mul64, R.bits_Mul64, 51⟩ := ⟨_, _, E.bits_Mul64, B.bits_Mul64, K.bits_Mul64, Q.bits_Mul64, N.bits_Mul64, by kernel_rfl⟩
theorem X.mul_great : GoodF Tryd.prog ⟨F.mul_great, C.mul_great, R.mul_great, 24⟩ := ⟨_, _, E.mul_great, B.mul_great, K.mul_great, Q.mul_great, N.mul_great, by kernel_rfl⟩
theorem X.mul_fits : GoodF Tryd.prog ⟨F.mul_fits, C.mul_fits, R.mul_fits, 10⟩ := ⟨_, _, E.mul_fits, B.mul_fits, K.mul_fits, Q.mul_fits, N.mul_fits, by kernel_rfl⟩
theorem X.mul_school : GoodF Tryd.prog ⟨F.mul_school, C.mul_school, R.mul_school, 78⟩ := ⟨_, _, E.mul_school, B.mul_school, K.mul_school, Q.mul_school, N.mul_school, by kernel_rfl⟩
theorem X.mul_addAt : GoodF Tryd.prog ⟨F.mul_addAt, C.mul_addAt, R.mul_addAt, 53⟩ := ⟨_, _, E.mul_addAt, B.mul_addAt, K.mul_addAt, Q.mul_addAt, N.mul_addAt, by kernel_rfl⟩
theorem X.mul_part : GoodF Tryd.prog ⟨F.mul_part, C.mul_part, R.mul_part, 32⟩ := ⟨_, _, E.mul_part, B.mul_part, K.mul_part, Q.mul_part, N.mul_part, by kernel_rfl⟩
theorem X.mul_less : GoodF Tryd.prog ⟨F.mul_less, C.mul_less, R.mul_less, 43⟩ := ⟨_, _, E.mul_less, B.mul_less, K.mul_less, Q.mul_less, N.mul_less, by kernel_rfl⟩
theorem X.mul_sum : GoodF Tryd.prog ⟨F.mul_sum, C.mul_sum, R.mul_sum, 20⟩ := ⟨_, _, E.mul_sum, B.mul_sum, K.mul_sum, Q.mul_sum, N.mul_sum, by kernel_rfl⟩
theorem X.nat_Left : GoodF Tryd.prog ⟨F.nat_Left, C.nat_Left, R.nat_Left, 73⟩ := ⟨_, _, E.nat_Left, B.nat_Left, K.nat_Left, Q.nat_Left, N.nat_Left, by kernel_rfl⟩
def XT : List XFun := [⟨F.surdlaw09_RoundedNames, C.surdlaw09_RoundedNames, R.surdlaw09_RoundedNames, 4⟩,
  ⟨F.surdlaw09_lives, C.surdlaw09_lives, R.surdlaw09_lives, 34⟩,
  ⟨F.rounded_Quo, C.rounded_Quo, R.rounded_Quo, 63⟩,
  ⟨F.rounded_Sqrt, C.rounded_Sqrt, R.rounded_Sqrt, 122⟩,
  ⟨F.surdlaw09_same, C.surdlaw09_same, R.surdlaw09_same, 57⟩,
  ⟨F.surdref01_Int, C.surdref01_Int, R.surdref01_Int, 7⟩,
  ⟨F.surdref01_Of, C.surdref01_Of, R.surdref01_Of, 26⟩,
  ⟨F.rounded_read, C.rounded_read, R.rounded_read, 36⟩,
  ⟨F.rounded_asked, C.rounded_asked, R.rounded_asked, 19⟩,
  ⟨F.rounded_quotient, C.rounded_quotient, R.rounded_quotient, 106⟩,
  ⟨F.nat_Length, C.nat_Length, R.nat_Length, 20⟩,
  ⟨F.rounded_finish, C.rounded_finish, R.rounded_finish, 54⟩,
  ⟨F.rounded_left, C.rounded_left, R.rounded_left, 59⟩,
  ⟨F.nat_Tail, C.nat_Tail, R.nat_Tail, 20⟩,
  ⟨F.rounded_right, C.rounded_right, R.rounded_right, 56⟩,
  ⟨F.roots_Sqrt, C.roots_Sqrt, R.roots_Sqrt, 10⟩,
  ⟨F.nat_Bit, C.nat_Bit, R.nat_Bit, 25⟩,
  ⟨F.surdref01_Num_Is, C.surdref01_Num_Is, R.surdref01_Num_Is, 29⟩,
  ⟨F.surdref01_norm, C.surdref01_norm, R.surdref01_norm, 22⟩,
  ⟨F.nat_Norm, C.nat_Norm, R.nat_Norm, 6⟩,
  ⟨F.div_Quo, C.div_Quo, R.div_Quo, 25⟩,
  ⟨F.rounded_minus, C.rounded_minus, R.rounded_minus, 52⟩,
  ⟨F.rounded_times, C.rounded_times, R.rounded_times, 43⟩,
  ⟨F.nat_Compare, C.nat_Compare, R.nat_Compare, 45⟩,
  ⟨F.nat_trim, C.nat_trim, R.nat_trim, 21⟩,
  ⟨F.bits_Len64, C.bits_Len64, R.bits_Len64, 25⟩,
  ⟨F.rounded_way, C.rounded_way, R.rounded_way, 8⟩,
  ⟨F.nat_Add, C.nat_Add, R.nat_Add, 61⟩,
  ⟨F.nat_From, C.nat_From, R.nat_From, 7⟩,
  ⟨F.bits_TrailingZeros64, C.bits_TrailingZeros64, R.bits_TrailingZeros64, 14⟩,
  ⟨F.roots_Root, C.roots_Root, R.roots_Root, 42⟩,
  ⟨F.surdref01_Num_Limbs, C.surdref01_Num_Limbs, R.surdref01_Num_Limbs, 34⟩,
  ⟨F.div_divide, C.div_divide, R.div_divide, 104⟩,
  ⟨F.mul_Mul, C.mul_Mul, R.mul_Mul, 11⟩,
  ⟨F.rounded_plus, C.rounded_plus, R.rounded_plus, 51⟩,
  ⟨F.rounded_way_1, C.rounded_way_1, R.rounded_way_1, 12⟩,
  ⟨F.rounded_way_2, C.rounded_way_2, R.rounded_way_2, 13⟩,
  ⟨F.rounded_way_3, C.rounded_way_3, R.rounded_way_3, 18⟩,
  ⟨F.nat_told, C.nat_told, R.nat_told, 10⟩,
  ⟨F.roots_fits, C.roots_fits, R.roots_fits, 9⟩,
  ⟨F.roots_newton, C.roots_newton, R.roots_newton, 72⟩,
  ⟨F.mul_Pow, C.mul_Pow, R.mul_Pow, 63⟩,
  ⟨F.roots_less, C.roots_less, R.roots_less, 14⟩,
  ⟨F.bits_Div64, C.bits_Div64, R.bits_Div64, 135⟩,
  ⟨F.bits_LeadingZeros64, C.bits_LeadingZeros64, R.bits_LeadingZeros64, 6⟩,
  ⟨F.div_up, C.div_up, R.div_up, 39⟩,
  ⟨F.div_guess, C.div_guess, R.div_guess, 195⟩,
  ⟨F.div_down, C.div_down, R.div_down, 47⟩,
  ⟨F.mul_product, C.mul_product, R.mul_product, 22⟩,
  ⟨F.mul_Mul_1, C.mul_Mul_1, R.mul_Mul_1, 8⟩,
  ⟨F.mul_halved, C.mul_halved, R.mul_halved, 124⟩,
  ⟨F.roots_power, C.roots_power, R.roots_power, 12⟩,
  ⟨F.nat_Times, C.nat_Times, R.nat_Times, 56⟩,
  ⟨F.nat_Through, C.nat_Through, R.nat_Through, 48⟩,
  ⟨F.mul_Square, C.mul_Square, R.mul_Square, 9⟩,
  ⟨F.nat_Sub, C.nat_Sub, R.nat_Sub, 52⟩,
  ⟨F.bits_Mul64, C.bits_Mul64, R.bits_Mul64, 51⟩,
  ⟨F.mul_great, C.mul_great, R.mul_great, 24⟩,
  ⟨F.mul_fits, C.mul_fits, R.mul_fits, 10⟩,
  ⟨F.mul_school, C.mul_school, R.mul_school, 78⟩,
  ⟨F.mul_addAt, C.mul_addAt, R.mul_addAt, 53⟩,
  ⟨F.mul_part, C.mul_part, R.mul_part, 32⟩,
  ⟨F.mul_less, C.mul_less, R.mul_less, 43⟩,
  ⟨F.mul_sum, C.mul_sum, R.mul_sum, 20⟩,
  ⟨F.nat_Left, C.nat_Left, R.nat_Left, 73⟩]
theorem XT_good : ∀ e ∈ XT, GoodF Tryd.prog e := by
  intro e h
  unfold XT at h
  simp only [List.mem_cons, List.not_mem_nil, or_false] at h
  rcases h with rfl | rfl | rfl | rfl | rfl | rfl | rfl | rfl | rfl | rfl | rfl | rfl | rfl | rfl | rfl | rfl | rfl | rfl | rfl | rfl | rfl | rfl | rfl | rfl | rfl | rfl | rfl | rfl | rfl | rfl | rfl | rfl | rfl | rfl | rfl | rfl | rfl | rfl | rfl | rfl | rfl | rfl | rfl | rfl | rfl | rfl | rfl | rfl | rfl | rfl | rfl | rfl | rfl | rfl | rfl | rfl | rfl | rfl | rfl | rfl | rfl | rfl | rfl | rfl | rfl
  · exact X.surdlaw09_RoundedNames
  · exact X.surdlaw09_lives
  · exact X.rounded_Quo
  · exact X.rounded_Sqrt
  · exact X.surdlaw09_same
  · exact X.surdref01_Int
  · exact X.surdref01_Of
  · exact X.rounded_read
  · exact X.rounded_asked
  · exact X.rounded_quotient
  · exact X.nat_Length
  · exact X.rounded_finish
  · exact X.rounded_left
  · exact X.nat_Tail
  · exact X.rounded_right
  · exact X.roots_Sqrt
  · exact X.nat_Bit
  · exact X.surdref01_Num_Is
  · exact X.surdref01_norm
  · exact X.nat_Norm
  · exact X.div_Quo
  · exact X.rounded_minus
  · exact X.rounded_times
  · exact X.nat_Compare
  · exact X.nat_trim
  · exact X.bits_Len64
  · exact X.rounded_way
  · exact X.nat_Add
  · exact X.nat_From
  · exact X.bits_TrailingZeros64
  · exact X.roots_Root
  · exact X.surdref01_Num_Limbs
  · exact X.div_divide
  · exact X.mul_Mul
  · exact X.rounded_plus
  · exact X.rounded_way_1
  · exact X.rounded_way_2
  · exact X.rounded_way_3
  · exact X.nat_told
  · exact X.roots_fits
  · exact X.roots_newton
  · exact X.mul_Pow
  · exact X.roots_less
  · exact X.bits_Div64
  · exact X.bits_LeadingZeros64
  · exact X.div_up
  · exact X.div_guess
  · exact X.div_down
  · exact X.mul_product
  · exact X.mul_Mul_1
  · exact X.mul_halved
  · exact X.roots_power
  · exact X.nat_Times
  · exact X.nat_Through
  · exact X.mul_Square
  · exact X.nat_Sub
  · exact X.bits_Mul64
  · exact X.mul_great
  · exact X.mul_fits
  · exact X.mul_school
  · exact X.mul_addAt
  · exact X.mul_part
  · exact X.mul_less
  · exact X.mul_sum
  · exact X.nat_Left
end Go.Proofs.YtacodmnlnlbahabDoor
set_option maxRecDepth 100000
namespace Go.Proofs.YtacodmnlnlbahabDoor
open Go.VM
theorem names_true : ∃ c', VCallP Tryd.prog 3 0 [] (bv true) c' :=
  xcall_p hm orcNat_ok XT_good (lend := fun _ => false) (rounds := 100000) (n := 60) (by kernel_rfl)
end Go.Proofs.YtacodmnlnlbahabDoor
