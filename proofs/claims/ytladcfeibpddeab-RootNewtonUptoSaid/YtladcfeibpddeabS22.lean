import Derived.Test.YtladcfeibpddeabS21
set_option linter.unusedSimpArgs false
set_option linter.unusedVariables false
set_option maxRecDepth 100000
set_option maxHeartbeats 8000000
namespace Go.Proofs.Ytladcfeibpddeab
open Go.VM

theorem bl_div2 {v : Nat} (h : 0 < v) : bl v = bl (v / 2) + 1 := by
  rcases Nat.lt_or_ge v 2 with g | g
  · have : v = 1 := by omega
    subst this
    rfl
  · have := bl_shift (x := v) (k := 1) (by simpa using g)
    rw [Nat.pow_one] at this
    omega

theorem len_spec (t : Tok) (n c : Nat) (hn : (digs 4294967296 n).length ≤ 4398046511104) : VSpec Try.prog F.surdref01_Num_Len c [nats t (digs 4294967296 n)] (fun r _ => r = iv (bl n)) := by
  refine spec_mk hm E.surdref01_Num_Len B.surdref01_Num_Len K.surdref01_Num_Len Q.surdref01_Num_Len (by rw [N.surdref01_Num_Len]; simp) ?_
  unfold C.surdref01_Num_Len R.surdref01_Num_Len
  by_cases g : digs 4294967296 n = []
  · have hz := (digs_eq_nil two32).1 g
    rw [g]
    have e : (([] : List Nat).length : Int) = 0 := rfl
    (repeat (first | refine v_reg ?_ | refine v_last ?_ | refine vwp_seq ?_ | refine vwp_block ?_ | refine vwp_skip ?_ | refine vwp_exit ?_ | refine vwp_ret ?_ | refine v_cond ?_ | simp only [vm, ite_true, ite_false, reduceIte, Nat.reduceEqDiff, Option.map, decide_eq_true_eq, decide_eq_false_iff_not, Bool.not_eq_true, decide_true, decide_false, Bool.not_true, Bool.not_false, Bool.false_eq_true, not_true_eq_false, not_false_eq_true, eq_self, and_true, true_and, e] | refine And.intro (by omega) ?_))
    rw [hz]; rfl
  obtain ⟨m, x, hmx⟩ := snoc_of_ne g
  obtain ⟨hx0, hx1, hbl⟩ := bl_digs32 hmx
  rw [hmx] at hn ⊢
  have hlen : (m ++ [x]).length = m.length + 1 := by simp
  rw [hlen] at hn
  have e0 : ¬ ((m.length + 1 : Nat) : Int) = 0 := by omega
  have e1 : ((m.length + 1 : Nat) : Int) - 1 = (m.length : Int) := by omega
  have hg : (m ++ [x]).getD m.length 0 = x := by simp
  rw [hbl]
  (repeat (first | refine v_reg ?_ | refine v_last ?_ | refine vwp_seq ?_ | refine vwp_block ?_ | refine vwp_skip ?_ | refine vwp_exit ?_ | refine vwp_ret ?_ | refine v_cond ?_ | simp only [vm, ite_true, ite_false, reduceIte, Nat.reduceEqDiff, Option.map, decide_eq_true_eq, decide_eq_false_iff_not, Bool.not_eq_true, decide_true, decide_false, Bool.not_true, Bool.not_false, Bool.false_eq_true, not_true_eq_false, not_false_eq_true, eq_self, and_true, true_and, hlen, e0, e1, hg] | refine And.intro (by omega) ?_))
  refine v_loop (fun S => S.ρ 3 = iv ((32 * m.length + bl x : Nat) : Int) ∧ S.σ = noBlk ∧ S.c = c) ?_ ?_
  · refine vwp_loop (fun v S => ∃ k, bl x = k + bl v ∧ v ≤ x ∧ S.ρ 3 = iv ((32 * m.length + k : Nat) : Int) ∧ S.ρ 4 = nv v ∧ S.σ = noBlk ∧ S.c = c) x ?_ ?_
    · refine ⟨0, by omega, Nat.le_refl _, ?_⟩
      simp only [vm, ite_true, ite_false, reduceIte, Nat.reduceEqDiff, Option.map, decide_eq_true_eq, decide_eq_false_iff_not, Bool.not_eq_true, decide_true, decide_false, Bool.not_true, Bool.not_false, Bool.false_eq_true, not_true_eq_false, not_false_eq_true, eq_self, and_true, true_and]
      (repeat' apply And.intro) <;> first | rfl | omega | assumption | (congr 1; omega)
    rintro v ⟨ρ, σ, c1⟩ ⟨k, hk, hvx, h3, h4, hσ, hc1⟩
    dsimp only at h3 h4 hσ hc1
    subst hσ hc1
    have hbx : bl x ≤ 32 := bl_le hx1
    rcases Nat.eq_zero_or_pos v with rfl | hv
    · have g1 : ¬ 0 < 0 := by omega
      (repeat (first | refine v_reg ?_ | refine v_last ?_ | refine vwp_seq ?_ | refine vwp_block ?_ | refine vwp_skip ?_ | refine vwp_exit ?_ | refine vwp_ret ?_ | refine v_cond ?_ | simp only [vm, ite_true, ite_false, reduceIte, Nat.reduceEqDiff, Option.map, decide_eq_true_eq, decide_eq_false_iff_not, Bool.not_eq_true, decide_true, decide_false, Bool.not_true, Bool.not_false, Bool.false_eq_true, not_true_eq_false, not_false_eq_true, eq_self, and_true, true_and, h3, h4, g1] | refine And.intro (by omega) ?_))
      rw [bl_zero] at hk
      rw [hk]; rfl
    · have hd := bl_div2 hv
      have e2 : ((32 * m.length + k : Nat) : Int) + 1 = ((32 * m.length + (k + 1) : Nat) : Int) := by omega
      have e3 : v / 2 % 18446744073709551616 = v / 2 := Nat.mod_eq_of_lt (by omega)
      (repeat (first | refine v_reg ?_ | refine v_last ?_ | refine vwp_seq ?_ | refine vwp_block ?_ | refine vwp_skip ?_ | refine vwp_exit ?_ | refine vwp_ret ?_ | refine v_cond ?_ | simp only [vm, ite_true, ite_false, reduceIte, Nat.reduceEqDiff, Option.map, decide_eq_true_eq, decide_eq_false_iff_not, Bool.not_eq_true, decide_true, decide_false, Bool.not_true, Bool.not_false, Bool.false_eq_true, not_true_eq_false, not_false_eq_true, eq_self, and_true, true_and, h3, h4, hv, e2, e3] | refine And.intro (by omega) ?_))
      refine ⟨v / 2, by omega, k + 1, by omega, by omega, ?_⟩
      (repeat' apply And.intro) <;> first | rfl | omega | assumption
  rintro ⟨ρ, σ, c1⟩ ⟨h3, hσ, hc1⟩
  dsimp only at h3 hσ hc1
  subst hσ hc1
  (repeat (first | refine v_reg ?_ | refine v_last ?_ | refine vwp_seq ?_ | refine vwp_block ?_ | refine vwp_skip ?_ | refine vwp_exit ?_ | refine vwp_ret ?_ | refine v_cond ?_ | simp only [vm, ite_true, ite_false, reduceIte, Nat.reduceEqDiff, Option.map, decide_eq_true_eq, decide_eq_false_iff_not, Bool.not_eq_true, decide_true, decide_false, Bool.not_true, Bool.not_false, Bool.false_eq_true, not_true_eq_false, not_false_eq_true, eq_self, and_true, true_and, h3] | refine And.intro (by omega) ?_))
  exact Nat.le_refl _

theorem cmp_spec (t u : Tok) (m n c : Nat) (hm1 : (digs 4294967296 m).length ≤ 4398046511104) (hn1 : (digs 4294967296 n).length ≤ 4398046511104) : VSpec Try.prog F.surdref01_Cmp c [nats t (digs 4294967296 m), nats u (digs 4294967296 n)] (fun r _ => r = iv (cmpI m n)) := by
  refine spec_mk hm E.surdref01_Cmp B.surdref01_Cmp K.surdref01_Cmp Q.surdref01_Cmp (by rw [N.surdref01_Cmp]; simp) ?_
  unfold C.surdref01_Cmp R.surdref01_Cmp
  have hda := lim_digs two32 m
  have hdb := lim_digs two32 n
  have va := val_digs two32 m
  have vb := val_digs two32 n
  have hlt := lt_of_len two32 (m := m) (n := n)
  have hgt := lt_of_len two32 (m := n) (n := m)
  generalize digs 4294967296 m = x at *
  generalize digs 4294967296 n = y at *
  by_cases g : (x.length : Int) = y.length
  rotate_left
  · by_cases g2 : (x.length : Int) < y.length
    · (repeat (first | refine v_reg ?_ | refine v_last ?_ | refine vwp_seq ?_ | refine vwp_block ?_ | refine vwp_skip ?_ | refine vwp_exit ?_ | refine vwp_ret ?_ | refine v_cond ?_ | simp only [vm, ite_true, ite_false, reduceIte, Nat.reduceEqDiff, Option.map, decide_eq_true_eq, decide_eq_false_iff_not, Bool.not_eq_true, decide_true, decide_false, Bool.not_true, Bool.not_false, Bool.false_eq_true, not_true_eq_false, not_false_eq_true, eq_self, and_true, true_and, g, g2] | refine And.intro (by omega) ?_))
      rw [cmpI, if_pos (hlt (by omega))]
    · (repeat (first | refine v_reg ?_ | refine v_last ?_ | refine vwp_seq ?_ | refine vwp_block ?_ | refine vwp_skip ?_ | refine vwp_exit ?_ | refine vwp_ret ?_ | refine v_cond ?_ | simp only [vm, ite_true, ite_false, reduceIte, Nat.reduceEqDiff, Option.map, decide_eq_true_eq, decide_eq_false_iff_not, Bool.not_eq_true, decide_true, decide_false, Bool.not_true, Bool.not_false, Bool.false_eq_true, not_true_eq_false, not_false_eq_true, eq_self, and_true, true_and, g, g2] | refine And.intro (by omega) ?_))
      have := hgt (by omega)
      rw [cmpI, if_neg (by omega), if_neg (by omega)]
  have hxy : x.length = y.length := by omega
  (repeat (first | refine v_reg ?_ | refine v_last ?_ | refine vwp_seq ?_ | refine vwp_block ?_ | refine vwp_skip ?_ | refine vwp_exit ?_ | refine vwp_ret ?_ | refine v_cond ?_ | simp only [vm, ite_true, ite_false, reduceIte, Nat.reduceEqDiff, Option.map, decide_eq_true_eq, decide_eq_false_iff_not, Bool.not_eq_true, decide_true, decide_false, Bool.not_true, Bool.not_false, Bool.false_eq_true, not_true_eq_false, not_false_eq_true, eq_self, and_true, true_and, g] | refine And.intro (by omega) ?_))
  refine v_loopR (fun S => val 4294967296 x = val 4294967296 y ∧ S.σ = noBlk ∧ S.c = c) ?_ ?_
  · refine vwp_loop (fun k S => S.ρ 0 = nats t x ∧ S.ρ 1 = nats u y ∧ S.ρ 5 = iv ((k : Int) - 1) ∧ k ≤ x.length ∧ val 4294967296 (x.drop k) = val 4294967296 (y.drop k) ∧ S.σ = noBlk ∧ S.c = c) x.length ?_ ?_
    · rw [List.drop_of_length_le (Nat.le_refl _), hxy, List.drop_of_length_le (Nat.le_refl _)]
      simp only [vm, ite_true, ite_false, reduceIte, Nat.reduceEqDiff, Option.map, decide_eq_true_eq, decide_eq_false_iff_not, Bool.not_eq_true, decide_true, decide_false, Bool.not_true, Bool.not_false, Bool.false_eq_true, not_true_eq_false, not_false_eq_true, eq_self, and_true, true_and, g]
      (repeat' apply And.intro) <;> first | rfl | omega | assumption
    rintro k ⟨ρ, σ, c3⟩ ⟨h0, h1, h5, hk, hv, hσ, hc3⟩
    dsimp only at h0 h1 h5 hσ hc3
    subst hσ hc3
    rcases Nat.eq_zero_or_pos k with rfl | hp
    · have g1 : ¬ (0 : Int) ≤ ((0 : Nat) : Int) - 1 := by omega
      (repeat (first | refine v_reg ?_ | refine v_last ?_ | refine vwp_seq ?_ | refine vwp_block ?_ | refine vwp_skip ?_ | refine vwp_exit ?_ | refine vwp_ret ?_ | refine v_cond ?_ | simp only [vm, ite_true, ite_false, reduceIte, Nat.reduceEqDiff, Option.map, decide_eq_true_eq, decide_eq_false_iff_not, Bool.not_eq_true, decide_true, decide_false, Bool.not_true, Bool.not_false, Bool.false_eq_true, not_true_eq_false, not_false_eq_true, eq_self, and_true, true_and, h0, h1, h5, g1] | refine And.intro (by omega) ?_))
      rw [List.drop_zero, List.drop_zero] at hv
      exact hv
    · obtain ⟨i, rfl⟩ : ∃ i, k = i + 1 := ⟨k - 1, by omega⟩
      have e1 : (((i + 1 : Nat) : Int) - 1) = (i : Int) := by omega
      rw [e1] at h5
      have g1 : (0 : Int) ≤ (i : Int) := by omega
      by_cases g4 : x.getD i 0 < y.getD i 0
      · have := val_lt_of_top two32 hda hdb (i := i) (by omega) (by omega) hxy hv g4
        (repeat (first | refine v_reg ?_ | refine v_last ?_ | refine vwp_seq ?_ | refine vwp_block ?_ | refine vwp_skip ?_ | refine vwp_exit ?_ | refine vwp_ret ?_ | refine v_cond ?_ | simp only [vm, ite_true, ite_false, reduceIte, Nat.reduceEqDiff, Option.map, decide_eq_true_eq, decide_eq_false_iff_not, Bool.not_eq_true, decide_true, decide_false, Bool.not_true, Bool.not_false, Bool.false_eq_true, not_true_eq_false, not_false_eq_true, eq_self, and_true, true_and, h0, h1, h5, g1, g4] | refine And.intro (by omega) ?_))
        rw [cmpI, if_pos (by omega)]
      by_cases g5 : y.getD i 0 < x.getD i 0
      · have := val_lt_of_top two32 hdb hda (i := i) (by omega) (by omega) hxy.symm hv.symm g5
        (repeat (first | refine v_reg ?_ | refine v_last ?_ | refine vwp_seq ?_ | refine vwp_block ?_ | refine vwp_skip ?_ | refine vwp_exit ?_ | refine vwp_ret ?_ | refine v_cond ?_ | simp only [vm, ite_true, ite_false, reduceIte, Nat.reduceEqDiff, Option.map, decide_eq_true_eq, decide_eq_false_iff_not, Bool.not_eq_true, decide_true, decide_false, Bool.not_true, Bool.not_false, Bool.false_eq_true, not_true_eq_false, not_false_eq_true, eq_self, and_true, true_and, h0, h1, h5, g1, g4, g5] | refine And.intro (by omega) ?_))
        rw [cmpI, if_neg (by omega), if_neg (by omega)]
      · have e2 := val_drop (b := 4294967296) (l := x) (i := i) (by omega)
        have e3 := val_drop (b := 4294967296) (l := y) (i := i) (by omega)
        have e4 : x.getD i 0 = y.getD i 0 := by omega
        have hv2 : val 4294967296 (x.drop i) = val 4294967296 (y.drop i) := by rw [e2, e3, e4, hv]
        (repeat (first | refine v_reg ?_ | refine v_last ?_ | refine vwp_seq ?_ | refine vwp_block ?_ | refine vwp_skip ?_ | refine vwp_exit ?_ | refine vwp_ret ?_ | refine v_cond ?_ | simp only [vm, ite_true, ite_false, reduceIte, Nat.reduceEqDiff, Option.map, decide_eq_true_eq, decide_eq_false_iff_not, Bool.not_eq_true, decide_true, decide_false, Bool.not_true, Bool.not_false, Bool.false_eq_true, not_true_eq_false, not_false_eq_true, eq_self, and_true, true_and, h0, h1, h5, g1, g4, g5] | refine And.intro (by omega) ?_))
        refine ⟨i, by omega, ?_⟩
        (repeat' apply And.intro) <;> first | rfl | omega | assumption | exact hv2
  rintro ⟨ρ, σ, c1⟩ ⟨hv, hσ, hc1⟩
  dsimp only at hσ hc1
  subst hσ hc1
  (repeat (first | refine v_reg ?_ | refine v_last ?_ | refine vwp_seq ?_ | refine vwp_block ?_ | refine vwp_skip ?_ | refine vwp_exit ?_ | refine vwp_ret ?_ | refine v_cond ?_ | simp only [vm, ite_true, ite_false, reduceIte, Nat.reduceEqDiff, Option.map, decide_eq_true_eq, decide_eq_false_iff_not, Bool.not_eq_true, decide_true, decide_false, Bool.not_true, Bool.not_false, Bool.false_eq_true, not_true_eq_false, not_false_eq_true, eq_self, and_true, true_and] | refine And.intro (by omega) ?_))
  have : m = n := by omega
  rw [cmpI, if_neg (by omega), if_pos this]
end Go.Proofs.Ytladcfeibpddeab
