import Derived.Test.YtladcfeibpddeabS6
set_option linter.unusedSimpArgs false
set_option linter.unusedVariables false
set_option maxRecDepth 100000
set_option maxHeartbeats 4000000
namespace Go.Proofs.Ytladcfeibpddeab
open Go.VM

theorem through_spec (t : Tok) (a : List Nat) (d c : Nat) (ha : Lim 18446744073709551616 a) (hd : d < 18446744073709551616) (hna : a.length ≤ 1099511627776) :
    VSpec Try.prog F.nat_Through c [nats t a, nv d] (fun r c' => (d = 0 → r = .tup [nil1, nv 0, iv 1]) ∧ (0 < d → bl (val 18446744073709551616 a / d) ≤ 67108864 → ∃ t, r = .tup [nats t (digs 18446744073709551616 (val 18446744073709551616 a / d)), nv (val 18446744073709551616 a % d), iv 0] ∧ Tk c c' t) ∧ (0 < d → 67108864 < bl (val 18446744073709551616 a / d) → r = .tup [nil1, nv 0, iv 3])) := by
  refine spec_mk hm E.nat_Through B.nat_Through K.nat_Through Q.nat_Through (by rw [N.nat_Through]; simp) ?_
  unfold C.nat_Through R.nat_Through
  have hla := digs_len_le two64 ha
  by_cases hd0 : d = 0
  · (repeat (first | refine v_reg ?_ | refine v_last ?_ | refine vwp_seq ?_ | refine vwp_block ?_ | refine vwp_skip ?_ | refine vwp_exit ?_ | refine vwp_ret ?_ | refine v_cond ?_ | simp only [vm, ite_true, ite_false, reduceIte, Nat.reduceEqDiff, Option.map, decide_eq_true_eq, decide_eq_false_iff_not, Bool.not_eq_true, decide_true, decide_false, Bool.not_true, Bool.not_false, Bool.false_eq_true, not_true_eq_false, not_false_eq_true, eq_self, and_true, true_and, hd0] | refine And.intro (by omega) ?_))
    exact ⟨fun _ => trivial, fun h => absurd h (by omega), fun h => absurd h (by omega)⟩
  (repeat (first | refine v_reg ?_ | refine v_last ?_ | refine vwp_seq ?_ | refine vwp_block ?_ | refine vwp_skip ?_ | refine vwp_exit ?_ | refine vwp_ret ?_ | refine v_cond ?_ | simp only [vm, ite_true, ite_false, reduceIte, Nat.reduceEqDiff, Option.map, decide_eq_true_eq, decide_eq_false_iff_not, Bool.not_eq_true, decide_true, decide_false, Bool.not_true, Bool.not_false, Bool.false_eq_true, not_true_eq_false, not_false_eq_true, eq_self, and_true, true_and, hd0] | refine And.intro (by omega) ?_))
  refine s_call (trim_spec t a c ha (by omega)) (by simp only [vm, ite_true, ite_false, reduceIte, Nat.reduceEqDiff, Option.map, decide_eq_true_eq, decide_eq_false_iff_not, Bool.not_eq_true, decide_true, decide_false, Bool.not_true, Bool.not_false, Bool.false_eq_true, not_true_eq_false, not_false_eq_true, eq_self, and_true, true_and, List.map]) ?_
  rintro v c2 hc2 rfl
  have hx := lim_digs two64 (val 18446744073709551616 a)
  have va := val_digs two64 (val 18446744073709551616 a)
  generalize digs 18446744073709551616 (val 18446744073709551616 a) = x at *
  (repeat (first | refine v_reg ?_ | refine v_last ?_ | refine vwp_seq ?_ | refine vwp_block ?_ | refine vwp_skip ?_ | refine vwp_exit ?_ | refine vwp_ret ?_ | refine v_cond ?_ | simp only [vm, ite_true, ite_false, reduceIte, Nat.reduceEqDiff, Option.map, decide_eq_true_eq, decide_eq_false_iff_not, Bool.not_eq_true, decide_true, decide_false, Bool.not_true, Bool.not_false, Bool.false_eq_true, not_true_eq_false, not_false_eq_true, eq_self, and_true, true_and] | refine And.intro (by omega) ?_))
  refine s_mk (n := x.length) (m := x.length) (by simp only [vm, ite_true, ite_false, reduceIte, Nat.reduceEqDiff, Option.map, decide_eq_true_eq, decide_eq_false_iff_not, Bool.not_eq_true, decide_true, decide_false, Bool.not_true, Bool.not_false, Bool.false_eq_true, not_true_eq_false, not_false_eq_true, eq_self, and_true, true_and]) (by simp only [vm, ite_true, ite_false, reduceIte, Nat.reduceEqDiff, Option.map, decide_eq_true_eq, decide_eq_false_iff_not, Bool.not_eq_true, decide_true, decide_false, Bool.not_true, Bool.not_false, Bool.false_eq_true, not_true_eq_false, not_false_eq_true, eq_self, and_true, true_and]) (Nat.le_refl _) (by omega) ?_
  (repeat (first | refine v_reg ?_ | refine v_last ?_ | refine vwp_seq ?_ | refine vwp_block ?_ | refine vwp_skip ?_ | refine vwp_exit ?_ | refine vwp_ret ?_ | refine v_cond ?_ | simp only [vm, ite_true, ite_false, reduceIte, Nat.reduceEqDiff, Option.map, decide_eq_true_eq, decide_eq_false_iff_not, Bool.not_eq_true, decide_true, decide_false, Bool.not_true, Bool.not_false, Bool.false_eq_true, not_true_eq_false, not_false_eq_true, eq_self, and_true, true_and] | refine And.intro (by omega) ?_))
  refine v_loop (fun S => ∃ w, w.length = x.length ∧ Lim 18446744073709551616 w ∧ val 18446744073709551616 w = val 18446744073709551616 x / d ∧ S.ρ 7 = .buf c2 0 x.length (some x.length) 1 ∧ S.ρ 8 = nv (val 18446744073709551616 x % d) ∧ S.σ = supd noBlk c2 (nblk w) ∧ c2 + 1 ≤ S.c) ?_ ?_
  · refine vwp_loop (fun k S => ∃ w rest, k ≤ x.length ∧ w.length = x.length - k ∧ Lim 18446744073709551616 w ∧ val 18446744073709551616 w * d + rest = val 18446744073709551616 (x.drop k) ∧ rest < d ∧ S.ρ 0 = nats t x ∧ S.ρ 1 = nv d ∧ S.ρ 7 = .buf c2 0 x.length (some x.length) 1 ∧ S.ρ 8 = nv rest ∧ S.ρ 9 = iv ((k : Int) - 1) ∧ S.σ = supd noBlk c2 (nblk (List.replicate k 0 ++ w)) ∧ c2 + 1 ≤ S.c) x.length ?_ ?_
    · refine ⟨[], 0, Nat.le_refl _, ?_⟩
      simp only [vm, ite_true, ite_false, reduceIte, Nat.reduceEqDiff, Option.map, decide_eq_true_eq, decide_eq_false_iff_not, Bool.not_eq_true, decide_true, decide_false, Bool.not_true, Bool.not_false, Bool.false_eq_true, not_true_eq_false, not_false_eq_true, eq_self, and_true, true_and, List.drop_length]
      (repeat' apply And.intro) <;> first | rfl | omega | assumption | exact Lim.nil | (simp [val]; done)
    rintro k ⟨ρ2, σ, c4⟩ ⟨w, rest, hk, hw, hlw, hinv, hr, h0, h1, h7, h8, h9, hσ, hc4⟩
    dsimp only at h0 h1 h7 h8 h9 hσ hc4
    subst hσ
    rcases Nat.eq_zero_or_pos k with rfl | hkp
    · have g : ¬ (0 : Int) ≤ ((0 : Nat) : Int) - 1 := by omega
      (repeat (first | refine v_reg ?_ | refine v_last ?_ | refine vwp_seq ?_ | refine vwp_block ?_ | refine vwp_skip ?_ | refine vwp_exit ?_ | refine vwp_ret ?_ | refine v_cond ?_ | simp only [vm, ite_true, ite_false, reduceIte, Nat.reduceEqDiff, Option.map, decide_eq_true_eq, decide_eq_false_iff_not, Bool.not_eq_true, decide_true, decide_false, Bool.not_true, Bool.not_false, Bool.false_eq_true, not_true_eq_false, not_false_eq_true, eq_self, and_true, true_and, h9, g] | refine And.intro (by omega) ?_))
      obtain ⟨e1, e2⟩ := div_mod_of hinv hr
      rw [List.drop_zero] at e1 e2
      refine ⟨w, ?_⟩
      rw [e1, e2]
      (repeat' apply And.intro) <;> first | rfl | omega | assumption
    · obtain ⟨i, rfl⟩ : ∃ i, k = i + 1 := ⟨k - 1, by omega⟩
      have e1 : (((i + 1 : Nat) : Int) - 1).toNat = i := by omega
      have g : (0 : Int) ≤ ((i + 1 : Nat) : Int) - 1 := by omega
      have hset : ∀ v, (List.replicate (i + 1) 0 ++ w).set i v = List.replicate i 0 ++ (v :: w) := fun v => set_top w i v
      have hlen : (List.replicate (i + 1) 0 ++ w).length = x.length := by simp; omega
      have hxi := hx.getD (i := i) (by decide)
      have hq := dig_lt hr hxi
      have hdm := Nat.div_add_mod (rest * 18446744073709551616 + x.getD i 0) d
      have hrm := Nat.mod_lt (rest * 18446744073709551616 + x.getD i 0) (show 0 < d by omega)
      obtain ⟨q, hqd⟩ : ∃ q, q = (rest * 18446744073709551616 + x.getD i 0) / d := ⟨_, rfl⟩
      obtain ⟨r, hrd⟩ : ∃ r, r = (rest * 18446744073709551616 + x.getD i 0) % d := ⟨_, rfl⟩
      rw [← hqd, ← hrd, Nat.mul_comm] at hdm
      rw [← hqd] at hq
      rw [← hrd] at hrm
      have key := thr_step hinv hdm
      rw [← val_drop (l := x) (i := i) (by omega)] at key
      (repeat (first | refine v_reg ?_ | refine v_last ?_ | refine vwp_seq ?_ | refine vwp_block ?_ | refine vwp_skip ?_ | refine vwp_exit ?_ | refine vwp_ret ?_ | refine v_cond ?_ | simp only [vm, ite_true, ite_false, reduceIte, Nat.reduceEqDiff, Option.map, decide_eq_true_eq, decide_eq_false_iff_not, Bool.not_eq_true, decide_true, decide_false, Bool.not_true, Bool.not_false, Bool.false_eq_true, not_true_eq_false, not_false_eq_true, eq_self, and_true, true_and, h0, h1, h7, h8, h9, g, e1] | refine And.intro (by omega) ?_))
      refine s_call (div64_spec rest (x.getD i 0) d c4 hxi hd hr) (by simp only [vm, ite_true, ite_false, reduceIte, Nat.reduceEqDiff, Option.map, decide_eq_true_eq, decide_eq_false_iff_not, Bool.not_eq_true, decide_true, decide_false, Bool.not_true, Bool.not_false, Bool.false_eq_true, not_true_eq_false, not_false_eq_true, eq_self, and_true, true_and, List.map, h0, h1, h7, h8, h9]) ?_
      rintro v c5 hc5 rfl
      rw [← hqd, ← hrd]
      (repeat (first | refine v_reg ?_ | refine v_last ?_ | refine vwp_seq ?_ | refine vwp_block ?_ | refine vwp_skip ?_ | refine vwp_exit ?_ | refine vwp_ret ?_ | refine v_cond ?_ | simp only [vm, ite_true, ite_false, reduceIte, Nat.reduceEqDiff, Option.map, decide_eq_true_eq, decide_eq_false_iff_not, Bool.not_eq_true, decide_true, decide_false, Bool.not_true, Bool.not_false, Bool.false_eq_true, not_true_eq_false, not_false_eq_true, eq_self, and_true, true_and, h0, h1, h7, h8, h9, hset, hlen, e1] | refine And.intro (by omega) ?_))
      refine ⟨i, by omega, q :: w, r, ?_⟩
      simp only [vm, ite_true, ite_false, reduceIte, Nat.reduceEqDiff, Option.map, decide_eq_true_eq, decide_eq_false_iff_not, Bool.not_eq_true, decide_true, decide_false, Bool.not_true, Bool.not_false, Bool.false_eq_true, not_true_eq_false, not_false_eq_true, eq_self, and_true, true_and, hset, e1]
      (repeat' apply And.intro) <;> first | rfl | omega | assumption | (simp [hw]; omega) | (simp only [e1, hset]; done) | exact Lim.cons hq hlw | exact key | exact congrArg iv (by omega)
  rintro ⟨ρ3, σ, c5⟩ ⟨w, hw, hlw, hvw, h7, h8, hσ, hc5⟩
  dsimp only at h7 h8 hσ hc5
  subst hσ
  refine v_freeze 7 (t := c2) (off := 0) (n := x.length) (cap := some x.length) (l := w) (by simp only [vm, ite_true, ite_false, reduceIte, Nat.reduceEqDiff, Option.map, decide_eq_true_eq, decide_eq_false_iff_not, Bool.not_eq_true, decide_true, decide_false, Bool.not_true, Bool.not_false, Bool.false_eq_true, not_true_eq_false, not_false_eq_true, eq_self, and_true, true_and, h7]) (by simp only [vm, ite_true, ite_false, reduceIte, Nat.reduceEqDiff, Option.map, decide_eq_true_eq, decide_eq_false_iff_not, Bool.not_eq_true, decide_true, decide_false, Bool.not_true, Bool.not_false, Bool.false_eq_true, not_true_eq_false, not_false_eq_true, eq_self, and_true, true_and]) (by omega) (by omega) ?_
  rw [List.drop_zero, show w.take x.length = w from List.take_of_length_le (by omega)]
  (repeat (first | refine v_reg ?_ | refine v_last ?_ | refine vwp_seq ?_ | refine vwp_block ?_ | refine vwp_skip ?_ | refine vwp_exit ?_ | refine vwp_ret ?_ | refine v_cond ?_ | simp only [vm, ite_true, ite_false, reduceIte, Nat.reduceEqDiff, Option.map, decide_eq_true_eq, decide_eq_false_iff_not, Bool.not_eq_true, decide_true, decide_false, Bool.not_true, Bool.not_false, Bool.false_eq_true, not_true_eq_false, not_false_eq_true, eq_self, and_true, true_and, h8] | refine And.intro (by omega) ?_))
  refine s_call (told_spec (.id c2) w c5 hlw (by omega)) (by simp only [vm, ite_true, ite_false, reduceIte, Nat.reduceEqDiff, Option.map, decide_eq_true_eq, decide_eq_false_iff_not, Bool.not_eq_true, decide_true, decide_false, Bool.not_true, Bool.not_false, Bool.false_eq_true, not_true_eq_false, not_false_eq_true, eq_self, and_true, true_and, List.map]) ?_
  rintro v c6 hc6 rfl
  rw [hvw, va]
  rw [va] at h8
  by_cases gb : bl (val 18446744073709551616 a / d) ≤ 67108864
  · rw [if_pos gb]
    (repeat (first | refine v_reg ?_ | refine v_last ?_ | refine vwp_seq ?_ | refine vwp_block ?_ | refine vwp_skip ?_ | refine vwp_exit ?_ | refine vwp_ret ?_ | refine v_cond ?_ | simp only [vm, ite_true, ite_false, reduceIte, Nat.reduceEqDiff, Option.map, decide_eq_true_eq, decide_eq_false_iff_not, Bool.not_eq_true, decide_true, decide_false, Bool.not_true, Bool.not_false, Bool.false_eq_true, not_true_eq_false, not_false_eq_true, eq_self, and_true, true_and, h8] | refine And.intro (by omega) ?_))
    exact ⟨fun h => h.elim, fun _ _ => ⟨_, rfl, .inr ⟨c2, rfl, by omega, by omega⟩⟩, fun _ h => absurd h (by omega)⟩
  · have g3 : ¬ (3 : Int) = 0 := by omega
    rw [if_neg gb]
    (repeat (first | refine v_reg ?_ | refine v_last ?_ | refine vwp_seq ?_ | refine vwp_block ?_ | refine vwp_skip ?_ | refine vwp_exit ?_ | refine vwp_ret ?_ | refine v_cond ?_ | simp only [vm, ite_true, ite_false, reduceIte, Nat.reduceEqDiff, Option.map, decide_eq_true_eq, decide_eq_false_iff_not, Bool.not_eq_true, decide_true, decide_false, Bool.not_true, Bool.not_false, Bool.false_eq_true, not_true_eq_false, not_false_eq_true, eq_self, and_true, true_and, h8, g3] | refine And.intro (by omega) ?_))
    exact ⟨fun h => h.elim, fun _ h => absurd h gb, fun _ _ => trivial⟩
end Go.Proofs.Ytladcfeibpddeab
