import Derived.Test.YtladcfeibpddeabS10
set_option linter.unusedSimpArgs false
set_option linter.unusedVariables false
set_option maxRecDepth 100000
set_option maxHeartbeats 4000000
namespace Go.Proofs.Ytladcfeibpddeab
open Go.VM

theorem part_spec (t : Tok) (a : List Nat) (f e c : Nat) (ha : Lim 18446744073709551616 a) (hna : a.length ≤ 1099511627776) (hfe : f ≤ e) :
    VSpec Try.prog F.mul_part c [nats t a, iv f, iv e] (fun r c' => ∃ t' l, r = nats t' l ∧ Lim 18446744073709551616 l ∧ l.length ≤ e - f ∧ l.length ≤ a.length - f ∧ val 18446744073709551616 l = val 18446744073709551616 ((a.drop f).take (e - f))) := by
  refine spec_mk hm E.mul_part B.mul_part K.mul_part Q.mul_part (by rw [N.mul_part]; simp) ?_
  unfold C.mul_part R.mul_part
  have e1 : min (f : Int) (a.length : Int) = ((min f a.length : Nat) : Int) := by omega
  have e2 : min (e : Int) (a.length : Int) = ((min e a.length : Nat) : Int) := by omega
  have hval : (a.drop f).take (e - f) = (a.drop (min f a.length)).take (min e a.length - min f a.length) := by
    rcases Nat.lt_or_ge a.length f with g | g
    · rw [List.drop_of_length_le (by omega), show min f a.length = a.length by omega, List.drop_of_length_le (Nat.le_refl _)]; simp
    · rw [show min f a.length = f by omega]
      rcases Nat.lt_or_ge a.length e with g2 | g2
      · rw [show min e a.length = a.length by omega, List.take_of_length_le (by simp; omega), List.take_of_length_le (by simp)]
      · rw [show min e a.length = e by omega]
  rw [hval]
  have h1 : min f a.length ≤ min e a.length := by omega
  have h2 : min e a.length ≤ a.length := by omega
  have h3 : min e a.length - min f a.length ≤ e - f := by omega
  have h4 : min e a.length - min f a.length ≤ a.length - f := by omega
  (repeat (first | refine v_reg ?_ | refine v_last ?_ | refine vwp_seq ?_ | refine vwp_block ?_ | refine vwp_skip ?_ | refine vwp_exit ?_ | refine vwp_ret ?_ | refine v_cond ?_ | simp only [vm, ite_true, ite_false, reduceIte, Nat.reduceEqDiff, Option.map, decide_eq_true_eq, decide_eq_false_iff_not, Bool.not_eq_true, decide_true, decide_false, Bool.not_true, Bool.not_false, Bool.false_eq_true, not_true_eq_false, not_false_eq_true, eq_self, and_true, true_and, e1, e2] | refine And.intro (by omega) ?_))
  generalize min f a.length = f' at *
  generalize min e a.length = e' at *
  refine v_loop (fun S => ∃ k, f' ≤ k ∧ k ≤ e' ∧ val 18446744073709551616 ((a.drop f').take (k - f')) = val 18446744073709551616 ((a.drop f').take (e' - f')) ∧ S.ρ 0 = nats t a ∧ S.ρ 1 = iv f' ∧ S.ρ 2 = iv k ∧ S.σ = noBlk ∧ S.c = c) ?_ ?_
  · refine vwp_loop (fun m S => ∃ k, m = k ∧ f' ≤ k ∧ k ≤ e' ∧ val 18446744073709551616 ((a.drop f').take (k - f')) = val 18446744073709551616 ((a.drop f').take (e' - f')) ∧ S.ρ 0 = nats t a ∧ S.ρ 1 = iv f' ∧ S.ρ 2 = iv k ∧ S.σ = noBlk ∧ S.c = c) e' ?_ ?_
    · refine ⟨e', rfl, ?_⟩
      simp only [vm, ite_true, ite_false, reduceIte, Nat.reduceEqDiff, Option.map, decide_eq_true_eq, decide_eq_false_iff_not, Bool.not_eq_true, decide_true, decide_false, Bool.not_true, Bool.not_false, Bool.false_eq_true, not_true_eq_false, not_false_eq_true, eq_self, and_true, true_and]
      (repeat' apply And.intro) <;> first | rfl | omega | assumption
    rintro m ⟨ρ2, σ, c4⟩ ⟨k, hm', hk1, hk2, hv, g0, g1, g2, hσ, hc4⟩
    dsimp only at g0 g1 g2 hσ hc4
    subst hσ hc4
    by_cases g : (f' : Int) < k
    · obtain ⟨i, rfl⟩ : ∃ i, k = i + 1 := ⟨k - 1, by omega⟩
      have ei : (((i + 1 : Nat) : Int) - 1).toNat = i := by omega
      by_cases gz : a.getD i 0 = 0
      · (repeat (first | refine v_reg ?_ | refine v_last ?_ | refine vwp_seq ?_ | refine vwp_block ?_ | refine vwp_skip ?_ | refine vwp_exit ?_ | refine vwp_ret ?_ | refine v_cond ?_ | simp only [vm, ite_true, ite_false, reduceIte, Nat.reduceEqDiff, Option.map, decide_eq_true_eq, decide_eq_false_iff_not, Bool.not_eq_true, decide_true, decide_false, Bool.not_true, Bool.not_false, Bool.false_eq_true, not_true_eq_false, not_false_eq_true, eq_self, and_true, true_and, g0, g1, g2, g, ei, gz] | refine And.intro (by omega) ?_))
        refine ⟨i, by omega, i, ?_⟩
        have hs := slice_snoc (a := a) (f := f') (k := i) (by omega) (by omega)
        rw [hs, gz, val_snoc0] at hv
        (repeat' apply And.intro) <;> first | rfl | omega | assumption | exact congrArg iv (by omega)
      · (repeat (first | refine v_reg ?_ | refine v_last ?_ | refine vwp_seq ?_ | refine vwp_block ?_ | refine vwp_skip ?_ | refine vwp_exit ?_ | refine vwp_ret ?_ | refine v_cond ?_ | simp only [vm, ite_true, ite_false, reduceIte, Nat.reduceEqDiff, Option.map, decide_eq_true_eq, decide_eq_false_iff_not, Bool.not_eq_true, decide_true, decide_false, Bool.not_true, Bool.not_false, Bool.false_eq_true, not_true_eq_false, not_false_eq_true, eq_self, and_true, true_and, g0, g1, g2, g, ei, gz] | refine And.intro (by omega) ?_))
        exact ⟨i + 1, hk1, hk2, hv, rfl⟩
    · (repeat (first | refine v_reg ?_ | refine v_last ?_ | refine vwp_seq ?_ | refine vwp_block ?_ | refine vwp_skip ?_ | refine vwp_exit ?_ | refine vwp_ret ?_ | refine v_cond ?_ | simp only [vm, ite_true, ite_false, reduceIte, Nat.reduceEqDiff, Option.map, decide_eq_true_eq, decide_eq_false_iff_not, Bool.not_eq_true, decide_true, decide_false, Bool.not_true, Bool.not_false, Bool.false_eq_true, not_true_eq_false, not_false_eq_true, eq_self, and_true, true_and, g0, g1, g2, g] | refine And.intro (by omega) ?_))
      exact ⟨k, hk1, hk2, hv, rfl⟩
  rintro ⟨ρ3, σ, c5⟩ ⟨k, hk1, hk2, hv, g0, g1, g2, hσ, hc5⟩
  dsimp only at g0 g1 g2 hσ hc5
  subst hσ hc5
  (repeat (first | refine v_reg ?_ | refine v_last ?_ | refine vwp_seq ?_ | refine vwp_block ?_ | refine vwp_skip ?_ | refine vwp_exit ?_ | refine vwp_ret ?_ | refine v_cond ?_ | simp only [vm, ite_true, ite_false, reduceIte, Nat.reduceEqDiff, Option.map, decide_eq_true_eq, decide_eq_false_iff_not, Bool.not_eq_true, decide_true, decide_false, Bool.not_true, Bool.not_false, Bool.false_eq_true, not_true_eq_false, not_false_eq_true, eq_self, and_true, true_and, g0, g1, g2] | refine And.intro (by omega) ?_))
  refine ⟨_, _, rfl, ha.drop.take, ?_, ?_, hv⟩
  · simp; omega
  · simp; omega
end Go.Proofs.Ytladcfeibpddeab
