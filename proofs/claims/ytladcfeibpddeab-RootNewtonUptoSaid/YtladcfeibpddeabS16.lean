import Derived.Test.YtladcfeibpddeabS15
set_option linter.unusedSimpArgs false
set_option linter.unusedVariables false
set_option maxRecDepth 100000
set_option maxHeartbeats 4000000
namespace Go.Proofs.Ytladcfeibpddeab
open Go.VM

theorem pow_spec (t : Tok) (a : List Nat) (n c : Nat) (ha : Lim 18446744073709551616 a) (hna : a.length ≤ 1073741824) (hn : n < 9223372036854775808) :
    VSpec Try.prog F.mul_Pow c [nats t a, iv n] (fun r c' => Told c c' (val 18446744073709551616 a ^ n) r) := by
  refine spec_mk hm E.mul_Pow B.mul_Pow K.mul_Pow Q.mul_Pow (by rw [N.mul_Pow]; simp) ?_
  unfold C.mul_Pow R.mul_Pow
  have hla := digs_len_le two64 ha
  have hx := lim_digs two64 (val 18446744073709551616 a)
  have va := val_digs two64 (val 18446744073709551616 a)
  have g1 : ¬ (n : Int) < 0 := by omega
  (repeat (first | refine v_reg ?_ | refine v_last ?_ | refine vwp_seq ?_ | refine vwp_block ?_ | refine vwp_skip ?_ | refine vwp_exit ?_ | refine vwp_ret ?_ | refine v_cond ?_ | simp only [vm, ite_true, ite_false, reduceIte, Nat.reduceEqDiff, Option.map, decide_eq_true_eq, decide_eq_false_iff_not, Bool.not_eq_true, decide_true, decide_false, Bool.not_true, Bool.not_false, Bool.false_eq_true, not_true_eq_false, not_false_eq_true, eq_self, and_true, true_and, g1] | refine And.intro (by omega) ?_))
  refine s_call (norm_spec t a c ha (by omega)) (by simp only [vm, ite_true, ite_false, reduceIte, Nat.reduceEqDiff, Option.map, decide_eq_true_eq, decide_eq_false_iff_not, Bool.not_eq_true, decide_true, decide_false, Bool.not_true, Bool.not_false, Bool.false_eq_true, not_true_eq_false, not_false_eq_true, eq_self, and_true, true_and, List.map]) ?_
  rintro v c2 hc2 ⟨t2, rfl, ht2⟩
  by_cases g2 : (n : Int) = 0
  · (repeat (first | refine v_reg ?_ | refine v_last ?_ | refine vwp_seq ?_ | refine vwp_block ?_ | refine vwp_skip ?_ | refine vwp_exit ?_ | refine vwp_ret ?_ | refine v_cond ?_ | simp only [vm, ite_true, ite_false, reduceIte, Nat.reduceEqDiff, Option.map, decide_eq_true_eq, decide_eq_false_iff_not, Bool.not_eq_true, decide_true, decide_false, Bool.not_true, Bool.not_false, Bool.false_eq_true, not_true_eq_false, not_false_eq_true, eq_self, and_true, true_and, g2] | refine And.intro (by omega) ?_))
    refine s_call (from_spec 1 c2 (by decide)) (by simp only [vm, ite_true, ite_false, reduceIte, Nat.reduceEqDiff, Option.map, decide_eq_true_eq, decide_eq_false_iff_not, Bool.not_eq_true, decide_true, decide_false, Bool.not_true, Bool.not_false, Bool.false_eq_true, not_true_eq_false, not_false_eq_true, eq_self, and_true, true_and, List.map]) ?_
    rintro v c3 hc3 ⟨t3, rfl, ht3⟩
    (repeat (first | refine v_reg ?_ | refine v_last ?_ | refine vwp_seq ?_ | refine vwp_block ?_ | refine vwp_skip ?_ | refine vwp_exit ?_ | refine vwp_ret ?_ | refine v_cond ?_ | simp only [vm, ite_true, ite_false, reduceIte, Nat.reduceEqDiff, Option.map, decide_eq_true_eq, decide_eq_false_iff_not, Bool.not_eq_true, decide_true, decide_false, Bool.not_true, Bool.not_false, Bool.false_eq_true, not_true_eq_false, not_false_eq_true, eq_self, and_true, true_and, g2] | refine And.intro (by omega) ?_))
    have hn0 : n = 0 := by omega
    subst hn0
    rw [Nat.pow_zero]
    exact .inl ⟨by decide, t3, rfl, ht3.mono hc2 (Nat.le_refl _)⟩
  (repeat (first | refine v_reg ?_ | refine v_last ?_ | refine vwp_seq ?_ | refine vwp_block ?_ | refine vwp_skip ?_ | refine vwp_exit ?_ | refine vwp_ret ?_ | refine v_cond ?_ | simp only [vm, ite_true, ite_false, reduceIte, Nat.reduceEqDiff, Option.map, decide_eq_true_eq, decide_eq_false_iff_not, Bool.not_eq_true, decide_true, decide_false, Bool.not_true, Bool.not_false, Bool.false_eq_true, not_true_eq_false, not_false_eq_true, eq_self, and_true, true_and, g2] | refine And.intro (by omega) ?_))
  refine s_call (length_spec t2 _ c2 hx (by omega)) (by simp only [vm, ite_true, ite_false, reduceIte, Nat.reduceEqDiff, Option.map, decide_eq_true_eq, decide_eq_false_iff_not, Bool.not_eq_true, decide_true, decide_false, Bool.not_true, Bool.not_false, Bool.false_eq_true, not_true_eq_false, not_false_eq_true, eq_self, and_true, true_and, List.map]) ?_
  rintro v c3 hc3 rfl
  rw [va]
  by_cases g3 : (bl (val 18446744073709551616 a) : Int) ≤ 1
  · (repeat (first | refine v_reg ?_ | refine v_last ?_ | refine vwp_seq ?_ | refine vwp_block ?_ | refine vwp_skip ?_ | refine vwp_exit ?_ | refine vwp_ret ?_ | refine v_cond ?_ | simp only [vm, ite_true, ite_false, reduceIte, Nat.reduceEqDiff, Option.map, decide_eq_true_eq, decide_eq_false_iff_not, Bool.not_eq_true, decide_true, decide_false, Bool.not_true, Bool.not_false, Bool.false_eq_true, not_true_eq_false, not_false_eq_true, eq_self, and_true, true_and, g2, g3] | refine And.intro (by omega) ?_))
    have hA : val 18446744073709551616 a = 0 ∨ val 18446744073709551616 a = 1 := by
      have := lt_of_bl (show bl (val 18446744073709551616 a) ≤ 1 by omega)
      omega
    have : val 18446744073709551616 a ^ n = val 18446744073709551616 a := by
      rcases hA with e | e <;> rw [e]
      · exact Nat.zero_pow (by omega)
      · exact Nat.one_pow n
    rw [this]
    exact .inl ⟨by omega, t2, rfl, ht2.mono (Nat.le_refl _) hc3⟩
  have hA2 : 2 ≤ val 18446744073709551616 a := by
    rcases Nat.lt_or_ge (val 18446744073709551616 a) 2 with g | g
    · have := bl_le (k := 1) g; omega
    · exact g
  have hlow := bl_pow_low (A := val 18446744073709551616 a) (n := n) (by omega)
  have hblA : bl (val 18446744073709551616 a) ≤ 64 * a.length := by
    refine bl_le ?_
    have := val_lt ha
    rw [pow64] at this
    exact this
  by_cases g4 : (67108864 : Int) < n
  · (repeat (first | refine v_reg ?_ | refine v_last ?_ | refine vwp_seq ?_ | refine vwp_block ?_ | refine vwp_skip ?_ | refine vwp_exit ?_ | refine vwp_ret ?_ | refine v_cond ?_ | simp only [vm, ite_true, ite_false, reduceIte, Nat.reduceEqDiff, Option.map, decide_eq_true_eq, decide_eq_false_iff_not, Bool.not_eq_true, decide_true, decide_false, Bool.not_true, Bool.not_false, Bool.false_eq_true, not_true_eq_false, not_false_eq_true, eq_self, and_true, true_and, g2, g3, g4] | refine And.intro (by omega) ?_))
    refine .inr ⟨?_, rfl⟩
    have : 1 * n ≤ (bl (val 18446744073709551616 a) - 1) * n := Nat.mul_le_mul_right _ (by omega)
    omega
  have hprod : ((bl (val 18446744073709551616 a) : Int) - 1) * n = (((bl (val 18446744073709551616 a) - 1) * n : Nat) : Int) := by
    rw [Int.natCast_mul]; congr 1; omega
  have hprodle : (bl (val 18446744073709551616 a) - 1) * n ≤ 64 * 1073741824 * 67108864 := Nat.mul_le_mul (by omega) (by omega)
  obtain ⟨q, hq⟩ : ∃ q, q = (bl (val 18446744073709551616 a) - 1) * n := ⟨_, rfl⟩
  rw [← hq] at hprod hprodle hlow
  by_cases g5 : (67108864 : Int) < (q : Int) + 1
  · (repeat (first | refine v_reg ?_ | refine v_last ?_ | refine vwp_seq ?_ | refine vwp_block ?_ | refine vwp_skip ?_ | refine vwp_exit ?_ | refine vwp_ret ?_ | refine v_cond ?_ | simp only [vm, ite_true, ite_false, reduceIte, Nat.reduceEqDiff, Option.map, decide_eq_true_eq, decide_eq_false_iff_not, Bool.not_eq_true, decide_true, decide_false, Bool.not_true, Bool.not_false, Bool.false_eq_true, not_true_eq_false, not_false_eq_true, eq_self, and_true, true_and, g2, g3, g4, hprod, g5] | refine And.intro (by omega) ?_))
    exact .inr ⟨by omega, rfl⟩
  (repeat (first | refine v_reg ?_ | refine v_last ?_ | refine vwp_seq ?_ | refine vwp_block ?_ | refine vwp_skip ?_ | refine vwp_exit ?_ | refine vwp_ret ?_ | refine v_cond ?_ | simp only [vm, ite_true, ite_false, reduceIte, Nat.reduceEqDiff, Option.map, decide_eq_true_eq, decide_eq_false_iff_not, Bool.not_eq_true, decide_true, decide_false, Bool.not_true, Bool.not_false, Bool.false_eq_true, not_true_eq_false, not_false_eq_true, eq_self, and_true, true_and, g2, g3, g4, hprod, g5] | refine And.intro (by omega) ?_))
  refine s_call (from_spec 1 c3 (by decide)) (by simp only [vm, ite_true, ite_false, reduceIte, Nat.reduceEqDiff, Option.map, decide_eq_true_eq, decide_eq_false_iff_not, Bool.not_eq_true, decide_true, decide_false, Bool.not_true, Bool.not_false, Bool.false_eq_true, not_true_eq_false, not_false_eq_true, eq_self, and_true, true_and, List.map]) ?_
  rintro v c4 hc4 ⟨t3, rfl, ht3⟩
  (repeat (first | refine v_reg ?_ | refine v_last ?_ | refine vwp_seq ?_ | refine vwp_block ?_ | refine vwp_skip ?_ | refine vwp_exit ?_ | refine vwp_ret ?_ | refine v_cond ?_ | simp only [vm, ite_true, ite_false, reduceIte, Nat.reduceEqDiff, Option.map, decide_eq_true_eq, decide_eq_false_iff_not, Bool.not_eq_true, decide_true, decide_false, Bool.not_true, Bool.not_false, Bool.false_eq_true, not_true_eq_false, not_false_eq_true, eq_self, and_true, true_and] | refine And.intro (by omega) ?_))
  have ht30 : Tk c c4 t3 := ht3.mono (by omega) (Nat.le_refl _)
  refine v_loopR (fun S => ∃ t, bl (val 18446744073709551616 a ^ n) ≤ 67108864 ∧ Tk c S.c t ∧ S.ρ 7 = nats t (digs 18446744073709551616 (val 18446744073709551616 a ^ n)) ∧ S.σ = noBlk ∧ c3 ≤ S.c) ?_ ?_
  · refine vwp_loop (fun m S => ∃ k t, m = k ∧ k ≤ 63 ∧ bl (val 18446744073709551616 a ^ (n / 2 ^ k)) ≤ 67108864 ∧ Tk c S.c t ∧ S.ρ 0 = nats t2 (digs 18446744073709551616 (val 18446744073709551616 a)) ∧ S.ρ 1 = iv n ∧ S.ρ 7 = nats t (digs 18446744073709551616 (val 18446744073709551616 a ^ (n / 2 ^ k))) ∧ S.ρ 8 = iv ((k : Int) - 1) ∧ S.σ = noBlk ∧ c3 ≤ S.c) 63 ?_ ?_
    · have e0 : n / 2 ^ 63 = 0 := by omega
      refine ⟨63, t3, rfl, ?_⟩
      rw [e0, Nat.pow_zero]
      simp only [vm, ite_true, ite_false, reduceIte, Nat.reduceEqDiff, Option.map, decide_eq_true_eq, decide_eq_false_iff_not, Bool.not_eq_true, decide_true, decide_false, Bool.not_true, Bool.not_false, Bool.false_eq_true, not_true_eq_false, not_false_eq_true, eq_self, and_true, true_and]
      (repeat' apply And.intro) <;> first | rfl | omega | assumption | decide
    rintro m ⟨ρ2, σ, c5⟩ ⟨k, t4, hm', hk, hb4, ht4, h0, h1, h7, h8, hσ, hc5⟩
    dsimp only at ht4 h0 h1 h7 h8 hσ hc5
    subst hσ
    rcases Nat.eq_zero_or_pos k with rfl | hkp
    · have g : ¬ (0 : Int) ≤ ((0 : Nat) : Int) - 1 := by omega
      rw [Nat.pow_zero, Nat.div_one] at hb4 h7
      (repeat (first | refine v_reg ?_ | refine v_last ?_ | refine vwp_seq ?_ | refine vwp_block ?_ | refine vwp_skip ?_ | refine vwp_exit ?_ | refine vwp_ret ?_ | refine v_cond ?_ | simp only [vm, ite_true, ite_false, reduceIte, Nat.reduceEqDiff, Option.map, decide_eq_true_eq, decide_eq_false_iff_not, Bool.not_eq_true, decide_true, decide_false, Bool.not_true, Bool.not_false, Bool.false_eq_true, not_true_eq_false, not_false_eq_true, eq_self, and_true, true_and, h8, g] | refine And.intro (by omega) ?_))
      exact ⟨t4, hb4, ht4, h7, hc5⟩
    obtain ⟨i, rfl⟩ : ∃ i, k = i + 1 := ⟨k - 1, by omega⟩
    have e1 : (((i + 1 : Nat) : Int) - 1) = (i : Int) := by omega
    rw [e1] at h8
    have hi0 : (0 : Int) ≤ (i : Int) := by omega
    have emin : min i 64 = i := by omega
    have hpos : 0 < val 18446744073709551616 a ^ (n / 2 ^ (i + 1)) := Nat.pow_pos (by omega)
    have hlen : (digs 18446744073709551616 (val 18446744073709551616 a ^ (n / 2 ^ (i + 1)))).length ≤ 1048576 := digs_len_bl (by omega)
    have hg : (0 : Int) < (digs 18446744073709551616 (val 18446744073709551616 a ^ (n / 2 ^ (i + 1)))).length := by
      have : digs 18446744073709551616 (val 18446744073709551616 a ^ (n / 2 ^ (i + 1))) ≠ [] := fun e => by have := (digs_eq_nil two64).1 e; omega
      have := List.length_pos_iff.2 this
      omega
    have hld := lim_digs two64 (val 18446744073709551616 a ^ (n / 2 ^ (i + 1)))
    have hvd := val_digs two64 (val 18446744073709551616 a ^ (n / 2 ^ (i + 1)))
    have hhalf := pow_half (val 18446744073709551616 a) n i
    have hle : val 18446744073709551616 a ^ (n / 2 ^ i) ≤ val 18446744073709551616 a ^ n := Nat.pow_le_pow_right (by omega) (Nat.div_le_self _ _)
    generalize val 18446744073709551616 a ^ (n / 2 ^ (i + 1)) = o at *
    (repeat (first | refine v_reg ?_ | refine v_last ?_ | refine vwp_seq ?_ | refine vwp_block ?_ | refine vwp_skip ?_ | refine vwp_exit ?_ | refine vwp_ret ?_ | refine v_cond ?_ | simp only [vm, ite_true, ite_false, reduceIte, Nat.reduceEqDiff, Option.map, decide_eq_true_eq, decide_eq_false_iff_not, Bool.not_eq_true, decide_true, decide_false, Bool.not_true, Bool.not_false, Bool.false_eq_true, not_true_eq_false, not_false_eq_true, eq_self, and_true, true_and, h0, h1, h7, h8, hi0, hg] | refine And.intro (by omega) ?_))
    refine s_call (square_spec t4 _ c5 hld (by omega)) (by simp only [vm, ite_true, ite_false, reduceIte, Nat.reduceEqDiff, Option.map, decide_eq_true_eq, decide_eq_false_iff_not, Bool.not_eq_true, decide_true, decide_false, Bool.not_true, Bool.not_false, Bool.false_eq_true, not_true_eq_false, not_false_eq_true, eq_self, and_true, true_and, List.map, h7]) ?_
    rw [hvd]
    have g30 : ¬ (3 : Int) = 0 := by omega
    rintro v c6 hc6 (⟨hb6, t6, rfl, ht6⟩ | ⟨hb6, rfl⟩)
    · by_cases gb : n / 2 ^ i % 2 = 1
      · rw [if_pos gb] at hhalf
        have hlen2 : (digs 18446744073709551616 (o * o)).length ≤ 1048576 := digs_len_bl (by omega)
        have hld2 := lim_digs two64 (o * o)
        have hvd2 := val_digs two64 (o * o)
        generalize digs 18446744073709551616 (o * o) = oo at *
        have gbi : ((n / 2 ^ i % 2 : Nat) : Int) = 1 := by omega
        (repeat (first | refine v_reg ?_ | refine v_last ?_ | refine vwp_seq ?_ | refine vwp_block ?_ | refine vwp_skip ?_ | refine vwp_exit ?_ | refine vwp_ret ?_ | refine v_cond ?_ | simp only [vm, ite_true, ite_false, reduceIte, Nat.reduceEqDiff, Option.map, decide_eq_true_eq, decide_eq_false_iff_not, Bool.not_eq_true, decide_true, decide_false, Bool.not_true, Bool.not_false, Bool.false_eq_true, not_true_eq_false, not_false_eq_true, eq_self, and_true, true_and, h0, h1, h7, h8, emin, gbi] | refine And.intro (by omega) ?_))
        refine s_call (mul_spec t6 t2 oo (digs 18446744073709551616 (val 18446744073709551616 a)) c6 hld2 hx (by omega) (by omega)) (by simp only [vm, ite_true, ite_false, reduceIte, Nat.reduceEqDiff, Option.map, decide_eq_true_eq, decide_eq_false_iff_not, Bool.not_eq_true, decide_true, decide_false, Bool.not_true, Bool.not_false, Bool.false_eq_true, not_true_eq_false, not_false_eq_true, eq_self, and_true, true_and, List.map, h0]) ?_
        rw [hvd2, va]
        rintro v c7 hc7 (⟨hb7, t7, rfl, ht7⟩ | ⟨hb7, rfl⟩)
        · (repeat (first | refine v_reg ?_ | refine v_last ?_ | refine vwp_seq ?_ | refine vwp_block ?_ | refine vwp_skip ?_ | refine vwp_exit ?_ | refine vwp_ret ?_ | refine v_cond ?_ | simp only [vm, ite_true, ite_false, reduceIte, Nat.reduceEqDiff, Option.map, decide_eq_true_eq, decide_eq_false_iff_not, Bool.not_eq_true, decide_true, decide_false, Bool.not_true, Bool.not_false, Bool.false_eq_true, not_true_eq_false, not_false_eq_true, eq_self, and_true, true_and, h0, h1, h7, h8, g30] | refine And.intro (by omega) ?_))
          rw [← hhalf] at hb7 ⊢
          exact ⟨i, by omega, i, t7, rfl, by omega, hb7, ht7.mono (by omega) (Nat.le_refl _), rfl, rfl, by omega⟩
        · (repeat (first | refine v_reg ?_ | refine v_last ?_ | refine vwp_seq ?_ | refine vwp_block ?_ | refine vwp_skip ?_ | refine vwp_exit ?_ | refine vwp_ret ?_ | refine v_cond ?_ | simp only [vm, ite_true, ite_false, reduceIte, Nat.reduceEqDiff, Option.map, decide_eq_true_eq, decide_eq_false_iff_not, Bool.not_eq_true, decide_true, decide_false, Bool.not_true, Bool.not_false, Bool.false_eq_true, not_true_eq_false, not_false_eq_true, eq_self, and_true, true_and, h0, h1, h7, h8, g30] | refine And.intro (by omega) ?_))
          rw [← hhalf] at hb7
          exact .inr ⟨Nat.lt_of_lt_of_le hb7 (bl_mono hle), rfl⟩
      · rw [if_neg gb, Nat.mul_one] at hhalf
        have gbi : ¬ ((n / 2 ^ i % 2 : Nat) : Int) = 1 := by omega
        (repeat (first | refine v_reg ?_ | refine v_last ?_ | refine vwp_seq ?_ | refine vwp_block ?_ | refine vwp_skip ?_ | refine vwp_exit ?_ | refine vwp_ret ?_ | refine v_cond ?_ | simp only [vm, ite_true, ite_false, reduceIte, Nat.reduceEqDiff, Option.map, decide_eq_true_eq, decide_eq_false_iff_not, Bool.not_eq_true, decide_true, decide_false, Bool.not_true, Bool.not_false, Bool.false_eq_true, not_true_eq_false, not_false_eq_true, eq_self, and_true, true_and, h0, h1, h7, h8, emin, gbi] | refine And.intro (by omega) ?_))
        rw [← hhalf] at hb6 ⊢
        exact ⟨i, by omega, i, t6, rfl, by omega, hb6, ht6.mono (by omega) (Nat.le_refl _), rfl, rfl, by omega⟩
    · (repeat (first | refine v_reg ?_ | refine v_last ?_ | refine vwp_seq ?_ | refine vwp_block ?_ | refine vwp_skip ?_ | refine vwp_exit ?_ | refine vwp_ret ?_ | refine v_cond ?_ | simp only [vm, ite_true, ite_false, reduceIte, Nat.reduceEqDiff, Option.map, decide_eq_true_eq, decide_eq_false_iff_not, Bool.not_eq_true, decide_true, decide_false, Bool.not_true, Bool.not_false, Bool.false_eq_true, not_true_eq_false, not_false_eq_true, eq_self, and_true, true_and, h0, h1, h7, h8, g30] | refine And.intro (by omega) ?_))
      refine .inr ⟨?_, rfl⟩
      refine Nat.lt_of_lt_of_le hb6 (bl_mono (Nat.le_trans ?_ hle))
      rw [hhalf]
      refine Nat.le_mul_of_pos_right _ ?_
      split <;> omega
  rintro ⟨ρ3, σ, c5⟩ ⟨t5, hb5, ht5, h7, hσ, hc5⟩
  dsimp only at ht5 h7 hσ hc5
  subst hσ
  (repeat (first | refine v_reg ?_ | refine v_last ?_ | refine vwp_seq ?_ | refine vwp_block ?_ | refine vwp_skip ?_ | refine vwp_exit ?_ | refine vwp_ret ?_ | refine v_cond ?_ | simp only [vm, ite_true, ite_false, reduceIte, Nat.reduceEqDiff, Option.map, decide_eq_true_eq, decide_eq_false_iff_not, Bool.not_eq_true, decide_true, decide_false, Bool.not_true, Bool.not_false, Bool.false_eq_true, not_true_eq_false, not_false_eq_true, eq_self, and_true, true_and, h7] | refine And.intro (by omega) ?_))
  exact .inl ⟨hb5, t5, rfl, ht5⟩
end Go.Proofs.Ytladcfeibpddeab
