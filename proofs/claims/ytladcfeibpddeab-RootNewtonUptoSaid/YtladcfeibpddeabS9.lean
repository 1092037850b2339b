import Derived.Test.YtladcfeibpddeabS8
set_option linter.unusedSimpArgs false
set_option linter.unusedVariables false
set_option maxRecDepth 100000
set_option maxHeartbeats 4000000
namespace Go.Proofs.Ytladcfeibpddeab
open Go.VM

theorem addAt_spec (t : Nat) (u : Tok) (l y : List Nat) (k n c : Nat) (cap : Option Nat) (hl : Lim 18446744073709551616 l) (hy : Lim 18446744073709551616 y) (hn : l.length = n) (hnb : n ≤ 4398046511104) (hyb : y.length ≤ 4398046511104) (hkb : k ≤ 4398046511104) (hroom : val 18446744073709551616 l + 18446744073709551616 ^ k * val 18446744073709551616 y < 18446744073709551616 ^ n) :
    VSpecL Try.prog F.mul_addAt c (supd noBlk t (nblk l)) [.buf t 0 n cap 1, nats u y, iv k] (fun r σ' c' => r = .tup [] ∧ ∃ l', σ' t = nblk l' ∧ l'.length = n ∧ Lim 18446744073709551616 l' ∧ val 18446744073709551616 l' = val 18446744073709551616 l + 18446744073709551616 ^ k * val 18446744073709551616 y) := by
  refine specL_mk hm E.mul_addAt B.mul_addAt K.mul_addAt Q.mul_addAt (by rw [N.mul_addAt]; simp) ?_
  unfold C.mul_addAt R.mul_addAt
  (repeat (first | refine v_reg ?_ | refine v_last ?_ | refine vwp_seq ?_ | refine vwp_block ?_ | refine vwp_skip ?_ | refine vwp_exit ?_ | refine vwp_ret ?_ | refine v_cond ?_ | simp only [vm, ite_true, ite_false, reduceIte, Nat.reduceEqDiff, Option.map, decide_eq_true_eq, decide_eq_false_iff_not, Bool.not_eq_true, decide_true, decide_false, Bool.not_true, Bool.not_false, Bool.false_eq_true, not_true_eq_false, not_false_eq_true, eq_self, and_true, true_and] | refine And.intro (by omega) ?_))
  refine vwp_loop (fun m S => ∃ i w carry, m = n - i ∧ k ≤ i ∧ w.length = n ∧ Lim 18446744073709551616 w ∧ carry ≤ 1 ∧ val 18446744073709551616 w + 18446744073709551616 ^ i * carry = val 18446744073709551616 l + 18446744073709551616 ^ k * val 18446744073709551616 (y.take (i - k)) ∧ S.ρ 0 = .buf t 0 n cap 1 ∧ S.ρ 1 = nats u y ∧ S.ρ 2 = iv k ∧ S.ρ 6 = nv carry ∧ S.ρ 7 = iv i ∧ S.σ = supd noBlk t (nblk w) ∧ S.c = c) (n - k) ?_ ?_
  · refine ⟨k, l, 0, rfl, ?_⟩
    simp only [vm, ite_true, ite_false, reduceIte, Nat.reduceEqDiff, Option.map, decide_eq_true_eq, decide_eq_false_iff_not, Bool.not_eq_true, decide_true, decide_false, Bool.not_true, Bool.not_false, Bool.false_eq_true, not_true_eq_false, not_false_eq_true, eq_self, and_true, true_and, Nat.sub_self, List.take_zero]
    (repeat' apply And.intro) <;> first | rfl | omega | assumption | (simp [val]; done)
  rintro m ⟨ρ, σ, c3⟩ ⟨i, w, carry, hm', hki, hw, hlw, hca, hinv, h0, h1, h2, h6, h7, hσ, hc3⟩
  dsimp only at h0 h1 h2 h6 h7 hσ hc3
  subst hσ hc3
  have hfin : n ≤ i ∨ (y.length ≤ i - k ∧ carry = 0) → val 18446744073709551616 w = val 18446744073709551616 l + 18446744073709551616 ^ k * val 18446744073709551616 y := fun h => by
    rcases h with h | ⟨h, h'⟩
    · exact addAt_end (by decide) h hki hinv hroom
    · rw [List.take_of_length_le h, h', Nat.mul_zero, Nat.add_zero] at hinv
      exact hinv
  by_cases g1 : (i : Int) < n
  · have hw0 := hlw.getD (i := i) (by decide)
    have hy0 := hy.getD (i := i - k) (by decide)
    have hty := val_take' 18446744073709551616 y (i - k)
    have key := addAt_step (b := 18446744073709551616) (y := y.getD (i - k) 0) (by omega) hki hinv _ rfl
    rw [← hty, show i - k + 1 = i + 1 - k by omega] at key
    have eik : ((i : Int) - k).toNat = i - k := by omega
    have hc1 : (w.getD i 0 + y.getD (i - k) 0 + carry) / 18446744073709551616 ≤ 1 := by omega
    by_cases g2 : (i : Int) - k < y.length
    · (repeat (first | refine v_reg ?_ | refine v_last ?_ | refine vwp_seq ?_ | refine vwp_block ?_ | refine vwp_skip ?_ | refine vwp_exit ?_ | refine vwp_ret ?_ | refine v_cond ?_ | simp only [vm, ite_true, ite_false, reduceIte, Nat.reduceEqDiff, Option.map, decide_eq_true_eq, decide_eq_false_iff_not, Bool.not_eq_true, decide_true, decide_false, Bool.not_true, Bool.not_false, Bool.false_eq_true, not_true_eq_false, not_false_eq_true, eq_self, and_true, true_and, h0, h1, h2, h6, h7, g1, g2, eik] | refine And.intro (by omega) ?_))
      refine ⟨n - (i + 1), by omega, i + 1, w.set i ((w.getD i 0 + y.getD (i - k) 0 + carry) % 18446744073709551616), (w.getD i 0 + y.getD (i - k) 0 + carry) / 18446744073709551616, ?_⟩
      (repeat' apply And.intro) <;> first | rfl | omega | assumption | (rw [List.length_set]; exact hw) | exact hlw.set (Nat.mod_lt _ (by decide)) | exact key
    · have hyz : y.getD (i - k) 0 = 0 := getD_ge (by omega)
      by_cases g3 : 0 < carry
      · (repeat (first | refine v_reg ?_ | refine v_last ?_ | refine vwp_seq ?_ | refine vwp_block ?_ | refine vwp_skip ?_ | refine vwp_exit ?_ | refine vwp_ret ?_ | refine v_cond ?_ | simp only [vm, ite_true, ite_false, reduceIte, Nat.reduceEqDiff, Option.map, decide_eq_true_eq, decide_eq_false_iff_not, Bool.not_eq_true, decide_true, decide_false, Bool.not_true, Bool.not_false, Bool.false_eq_true, not_true_eq_false, not_false_eq_true, eq_self, and_true, true_and, h0, h1, h2, h6, h7, g1, g2, g3, eik] | refine And.intro (by omega) ?_))
        rw [hyz, Nat.add_zero] at key hc1
        refine ⟨n - (i + 1), by omega, i + 1, w.set i ((w.getD i 0 + carry) % 18446744073709551616), (w.getD i 0 + carry) / 18446744073709551616, ?_⟩
        (repeat' apply And.intro) <;> first | rfl | omega | assumption | (rw [List.length_set]; exact hw) | exact hlw.set (Nat.mod_lt _ (by decide)) | exact key
      · (repeat (first | refine v_reg ?_ | refine v_last ?_ | refine vwp_seq ?_ | refine vwp_block ?_ | refine vwp_skip ?_ | refine vwp_exit ?_ | refine vwp_ret ?_ | refine v_cond ?_ | simp only [vm, ite_true, ite_false, reduceIte, Nat.reduceEqDiff, Option.map, decide_eq_true_eq, decide_eq_false_iff_not, Bool.not_eq_true, decide_true, decide_false, Bool.not_true, Bool.not_false, Bool.false_eq_true, not_true_eq_false, not_false_eq_true, eq_self, and_true, true_and, h0, h1, h2, h6, h7, g1, g2, g3, eik] | refine And.intro (by omega) ?_))
        exact ⟨w, rfl, hw, hlw, hfin (.inr ⟨by omega, by omega⟩)⟩
  · (repeat (first | refine v_reg ?_ | refine v_last ?_ | refine vwp_seq ?_ | refine vwp_block ?_ | refine vwp_skip ?_ | refine vwp_exit ?_ | refine vwp_ret ?_ | refine v_cond ?_ | simp only [vm, ite_true, ite_false, reduceIte, Nat.reduceEqDiff, Option.map, decide_eq_true_eq, decide_eq_false_iff_not, Bool.not_eq_true, decide_true, decide_false, Bool.not_true, Bool.not_false, Bool.false_eq_true, not_true_eq_false, not_false_eq_true, eq_self, and_true, true_and, h0, h1, h2, h6, h7, g1] | refine And.intro (by omega) ?_))
    exact ⟨w, rfl, hw, hlw, hfin (.inl (by omega))⟩
end Go.Proofs.Ytladcfeibpddeab
