import Derived.Test.YtladcfeibpddeabS22
set_option linter.unusedSimpArgs false
set_option linter.unusedVariables false
set_option maxRecDepth 100000
set_option maxHeartbeats 8000000
namespace Go.Proofs.Ytladcfeibpddeab
open Go.VM
theorem mul_lt32 {x y : Nat} (hx : x < 4294967296) (hy : y < 4294967296) : x * y ≤ 4294967295 * 4294967295 := Nat.mul_le_mul (by omega) (by omega)

theorem at_spec (t : Tok) (l : List Nat) (i c : Nat) (hn : l.length ≤ 4398046511104) : VSpec Try.prog F.surdref01_Num_at c [nats t l, iv i] (fun r c' => r = nv (l.getD i 0)) := by
  refine spec_mk hm E.surdref01_Num_at B.surdref01_Num_at K.surdref01_Num_at Q.surdref01_Num_at (by rw [N.surdref01_Num_at]; simp) ?_
  unfold C.surdref01_Num_at R.surdref01_Num_at
  by_cases g : (i : Int) < l.length
  · (repeat (first | refine v_reg ?_ | refine v_last ?_ | refine vwp_seq ?_ | refine vwp_block ?_ | refine vwp_skip ?_ | refine vwp_exit ?_ | refine vwp_ret ?_ | refine v_cond ?_ | simp only [vm, ite_true, ite_false, reduceIte, Nat.reduceEqDiff, Option.map, decide_eq_true_eq, decide_eq_false_iff_not, Bool.not_eq_true, decide_true, decide_false, Bool.not_true, Bool.not_false, Bool.false_eq_true, not_true_eq_false, not_false_eq_true, eq_self, and_true, true_and, g] | refine And.intro (by omega) ?_))
    exact Nat.le_refl _
  · (repeat (first | refine v_reg ?_ | refine v_last ?_ | refine vwp_seq ?_ | refine vwp_block ?_ | refine vwp_skip ?_ | refine vwp_exit ?_ | refine vwp_ret ?_ | refine v_cond ?_ | simp only [vm, ite_true, ite_false, reduceIte, Nat.reduceEqDiff, Option.map, decide_eq_true_eq, decide_eq_false_iff_not, Bool.not_eq_true, decide_true, decide_false, Bool.not_true, Bool.not_false, Bool.false_eq_true, not_true_eq_false, not_false_eq_true, eq_self, and_true, true_and, g] | refine And.intro (by omega) ?_))
    rw [getD_ge (by omega)]

theorem add32_spec (t u : Tok) (a b : List Nat) (c : Nat) (ha : Lim 4294967296 a) (hb : Lim 4294967296 b) (hna : a.length ≤ 1099511627776) (hnb : b.length ≤ 1099511627776) :
    VSpec Try.prog F.surdref01_Add c [nats t a, nats u b] (fun r c' => ∃ i, r = nats (.id i) (digs 4294967296 (val 4294967296 a + val 4294967296 b)) ∧ c ≤ i ∧ i < c') := by
  refine spec_mk hm E.surdref01_Add B.surdref01_Add K.surdref01_Add Q.surdref01_Add (by rw [N.surdref01_Add]; simp) ?_
  unfold C.surdref01_Add R.surdref01_Add
  (repeat (first | refine v_reg ?_ | refine v_last ?_ | refine vwp_seq ?_ | refine vwp_block ?_ | refine vwp_skip ?_ | refine vwp_exit ?_ | refine vwp_ret ?_ | refine v_cond ?_)); simp only [vm, ite_true, ite_false, reduceIte, Nat.reduceEqDiff, Option.map, decide_eq_true_eq, decide_eq_false_iff_not, Bool.not_eq_true, decide_true, decide_false, Bool.not_true, Bool.not_false, Bool.false_eq_true, not_true_eq_false, not_false_eq_true, eq_self, and_true, true_and]
  (repeat (first | refine v_reg ?_ | refine v_last ?_ | refine vwp_seq ?_ | refine vwp_block ?_ | refine vwp_skip ?_ | refine vwp_exit ?_ | refine vwp_ret ?_ | refine v_cond ?_)); simp only [vm, ite_true, ite_false, reduceIte, Nat.reduceEqDiff, Option.map, decide_eq_true_eq, decide_eq_false_iff_not, Bool.not_eq_true, decide_true, decide_false, Bool.not_true, Bool.not_false, Bool.false_eq_true, not_true_eq_false, not_false_eq_true, eq_self, and_true, true_and]
  refine v_cut (fun S => ∃ n, a.length ≤ n ∧ b.length ≤ n ∧ n ≤ 1099511627776 ∧ S.ρ 0 = nats t a ∧ S.ρ 1 = nats u b ∧ S.ρ 5 = iv (n : Int) ∧ S.σ = noBlk ∧ S.c = c) ?_ ?_
  · by_cases g : (a.length : Int) < b.length
    · (repeat (first | refine v_reg ?_ | refine v_last ?_ | refine vwp_seq ?_ | refine vwp_block ?_ | refine vwp_skip ?_ | refine vwp_exit ?_ | refine vwp_ret ?_ | refine v_cond ?_ | simp only [vm, ite_true, ite_false, reduceIte, Nat.reduceEqDiff, Option.map, decide_eq_true_eq, decide_eq_false_iff_not, Bool.not_eq_true, decide_true, decide_false, Bool.not_true, Bool.not_false, Bool.false_eq_true, not_true_eq_false, not_false_eq_true, eq_self, and_true, true_and, g] | refine And.intro (by omega) ?_))
      exact ⟨b.length, by omega, by omega, by omega, rfl⟩
    · (repeat (first | refine v_reg ?_ | refine v_last ?_ | refine vwp_seq ?_ | refine vwp_block ?_ | refine vwp_skip ?_ | refine vwp_exit ?_ | refine vwp_ret ?_ | refine v_cond ?_ | simp only [vm, ite_true, ite_false, reduceIte, Nat.reduceEqDiff, Option.map, decide_eq_true_eq, decide_eq_false_iff_not, Bool.not_eq_true, decide_true, decide_false, Bool.not_true, Bool.not_false, Bool.false_eq_true, not_true_eq_false, not_false_eq_true, eq_self, and_true, true_and, g] | refine And.intro (by omega) ?_))
      exact ⟨a.length, by omega, by omega, by omega, rfl⟩
  rintro ⟨ρ1, σ, c1⟩ ⟨n, hn1, hn2, hn3, h0, h1, h5, hσ, hc1⟩
  dsimp only at h0 h1 h5 hσ hc1
  subst hσ hc1
  (repeat (first | refine v_reg ?_ | refine v_last ?_ | refine vwp_seq ?_ | refine vwp_block ?_ | refine vwp_skip ?_ | refine vwp_exit ?_ | refine vwp_ret ?_ | refine v_cond ?_ | simp only [vm, ite_true, ite_false, reduceIte, Nat.reduceEqDiff, Option.map, decide_eq_true_eq, decide_eq_false_iff_not, Bool.not_eq_true, decide_true, decide_false, Bool.not_true, Bool.not_false, Bool.false_eq_true, not_true_eq_false, not_false_eq_true, eq_self, and_true, true_and, h5] | refine And.intro (by omega) ?_))
  refine s_mk (n := n + 1) (m := n + 1) (by simp only [vm, ite_true, ite_false, reduceIte, Nat.reduceEqDiff, Option.map, decide_eq_true_eq, decide_eq_false_iff_not, Bool.not_eq_true, decide_true, decide_false, Bool.not_true, Bool.not_false, Bool.false_eq_true, not_true_eq_false, not_false_eq_true, eq_self, and_true, true_and, h5]; rfl) (by simp only [vm, ite_true, ite_false, reduceIte, Nat.reduceEqDiff, Option.map, decide_eq_true_eq, decide_eq_false_iff_not, Bool.not_eq_true, decide_true, decide_false, Bool.not_true, Bool.not_false, Bool.false_eq_true, not_true_eq_false, not_false_eq_true, eq_self, and_true, true_and, h5]; rfl) (Nat.le_refl _) (by omega) ?_
  (repeat (first | refine v_reg ?_ | refine v_last ?_ | refine vwp_seq ?_ | refine vwp_block ?_ | refine vwp_skip ?_ | refine vwp_exit ?_ | refine vwp_ret ?_ | refine v_cond ?_ | simp only [vm, ite_true, ite_false, reduceIte, Nat.reduceEqDiff, Option.map, decide_eq_true_eq, decide_eq_false_iff_not, Bool.not_eq_true, decide_true, decide_false, Bool.not_true, Bool.not_false, Bool.false_eq_true, not_true_eq_false, not_false_eq_true, eq_self, and_true, true_and, h5] | refine And.intro (by omega) ?_))
  have htot : val 4294967296 a + val 4294967296 b < 4294967296 ^ (n + 1) := by
    have h1 : val 4294967296 a < 4294967296 ^ n := Nat.lt_of_lt_of_le (val_lt ha) (Nat.pow_le_pow_right (by decide) hn1)
    have h2 : val 4294967296 b < 4294967296 ^ n := Nat.lt_of_lt_of_le (val_lt hb) (Nat.pow_le_pow_right (by decide) hn2)
    rw [Nat.pow_succ]
    generalize 4294967296 ^ n = P at *
    omega
  refine v_loop (fun S => ∃ w, w.length = n + 1 ∧ Lim 4294967296 w ∧ val 4294967296 w = val 4294967296 a + val 4294967296 b ∧ S.ρ 6 = .buf c1 0 (n + 1) (some (n + 1)) 1 ∧ S.σ = supd noBlk c1 (nblk w) ∧ c1 + 1 ≤ S.c) ?_ ?_
  · refine vwp_loop (fun k S => ∃ i w carry, k = n + 1 - i ∧ i ≤ n + 1 ∧ w.length = i ∧ Lim 4294967296 w ∧ carry ≤ 1 ∧ val 4294967296 w + 4294967296 ^ i * carry = val 4294967296 (a.take i) + val 4294967296 (b.take i) ∧ S.ρ 0 = nats t a ∧ S.ρ 1 = nats u b ∧ S.ρ 5 = iv (n : Int) ∧ S.ρ 7 = nv carry ∧ S.ρ 8 = iv (i : Int) ∧ S.ρ 6 = .buf c1 0 (n + 1) (some (n + 1)) 1 ∧ S.σ = supd noBlk c1 (nblk (w ++ List.replicate (n + 1 - i) 0)) ∧ c1 + 1 ≤ S.c) (n + 1) ?_ ?_
    · refine ⟨0, [], 0, by omega, by omega, ?_⟩
      simp only [vm, ite_true, ite_false, reduceIte, Nat.reduceEqDiff, Option.map, decide_eq_true_eq, decide_eq_false_iff_not, Bool.not_eq_true, decide_true, decide_false, Bool.not_true, Bool.not_false, Bool.false_eq_true, not_true_eq_false, not_false_eq_true, eq_self, and_true, true_and, h0, h1, h5]
      (repeat' apply And.intro) <;> first | rfl | omega | assumption | exact Lim.nil | (simp [val]; done)
    rintro k ⟨ρ2, σ, c4⟩ ⟨i, w, carry, hk, hi, hw, hlw, hca, hinv, h0, h1, h5, h7, h8, h6, hσ, hc4⟩
    dsimp only at h0 h1 h5 h7 h8 h6 hσ hc4
    subst hσ
    by_cases g : (i : Int) ≤ n
    · have hxi := ha.getD (i := i) (by decide)
      have hyi := hb.getD (i := i) (by decide)
      have hax := val_take' 4294967296 a i
      have hbx := val_take' 4294967296 b i
      have hlen : (w ++ List.replicate (n + 1 - i) 0).length = n + 1 := by simp; omega
      have hset : ∀ v, (w ++ List.replicate (n + 1 - i) 0).set i v = (w ++ [v]) ++ List.replicate (n + 1 - (i + 1)) 0 := fun v => by
        have := set_fill w (n + 1 - (i + 1)) v
        rw [hw] at this
        rw [show n + 1 - i = n + 1 - (i + 1) + 1 by omega, this]
      (repeat (first | refine v_reg ?_ | refine v_last ?_ | refine vwp_seq ?_ | refine vwp_block ?_ | refine vwp_skip ?_ | refine vwp_exit ?_ | refine vwp_ret ?_ | refine v_cond ?_ | simp only [vm, ite_true, ite_false, reduceIte, Nat.reduceEqDiff, Option.map, decide_eq_true_eq, decide_eq_false_iff_not, Bool.not_eq_true, decide_true, decide_false, Bool.not_true, Bool.not_false, Bool.false_eq_true, not_true_eq_false, not_false_eq_true, eq_self, and_true, true_and, h0, h1, h5, h7, h8, h6, g] | refine And.intro (by omega) ?_))
      refine s_call (at_spec t a i c4 (by omega)) (by simp only [vm, ite_true, ite_false, reduceIte, Nat.reduceEqDiff, Option.map, decide_eq_true_eq, decide_eq_false_iff_not, Bool.not_eq_true, decide_true, decide_false, Bool.not_true, Bool.not_false, Bool.false_eq_true, not_true_eq_false, not_false_eq_true, eq_self, and_true, true_and, List.map, h0, h8]) ?_
      rintro v c5 hc5 rfl
      (repeat (first | refine v_reg ?_ | refine v_last ?_ | refine vwp_seq ?_ | refine vwp_block ?_ | refine vwp_skip ?_ | refine vwp_exit ?_ | refine vwp_ret ?_ | refine v_cond ?_ | simp only [vm, ite_true, ite_false, reduceIte, Nat.reduceEqDiff, Option.map, decide_eq_true_eq, decide_eq_false_iff_not, Bool.not_eq_true, decide_true, decide_false, Bool.not_true, Bool.not_false, Bool.false_eq_true, not_true_eq_false, not_false_eq_true, eq_self, and_true, true_and, h0, h1, h5, h7, h8, h6, g] | refine And.intro (by omega) ?_))
      refine s_call (at_spec u b i c5 (by omega)) (by simp only [vm, ite_true, ite_false, reduceIte, Nat.reduceEqDiff, Option.map, decide_eq_true_eq, decide_eq_false_iff_not, Bool.not_eq_true, decide_true, decide_false, Bool.not_true, Bool.not_false, Bool.false_eq_true, not_true_eq_false, not_false_eq_true, eq_self, and_true, true_and, List.map, h1, h8]) ?_
      rintro v c6 hc6 rfl
      generalize a.getD i 0 = x at *
      generalize b.getD i 0 = y at *
      have e1 : (x + y) % 18446744073709551616 = x + y := Nat.mod_eq_of_lt (by omega)
      have e2 : (x + y + carry) % 18446744073709551616 = x + y + carry := Nat.mod_eq_of_lt (by omega)
      have e3 : (x + y + carry) / 4294967296 % 18446744073709551616 = (x + y + carry) / 4294967296 := Nat.mod_eq_of_lt (by omega)
      have hd := Nat.mod_add_div (x + y + carry) 4294967296
      have hml := Nat.mod_lt (x + y + carry) (show 0 < 4294967296 by decide)
      have hdl : (x + y + carry) / 4294967296 ≤ 1 := by omega
      (repeat (first | refine v_reg ?_ | refine v_last ?_ | refine vwp_seq ?_ | refine vwp_block ?_ | refine vwp_skip ?_ | refine vwp_exit ?_ | refine vwp_ret ?_ | refine v_cond ?_ | simp only [vm, ite_true, ite_false, reduceIte, Nat.reduceEqDiff, Option.map, decide_eq_true_eq, decide_eq_false_iff_not, Bool.not_eq_true, decide_true, decide_false, Bool.not_true, Bool.not_false, Bool.false_eq_true, not_true_eq_false, not_false_eq_true, eq_self, and_true, true_and, h0, h1, h5, h7, h8, h6, e1, e2, e3, hlen, hset] | refine And.intro (by omega) ?_))
      generalize (x + y + carry) % 4294967296 = d at *
      generalize (x + y + carry) / 4294967296 = cc at *
      have key := addb_step (b := 4294967296) (x := y) (y := x) (c' := cc) (d := d) hw hinv (by omega)
      rw [← hax, ← hbx] at key
      refine ⟨n + 1 - (i + 1), by omega, i + 1, w ++ [d], cc, ?_⟩
      (repeat' apply And.intro) <;> first | rfl | exact key | exact lim_snoc hlw hml | (simp [hw]; done) | omega | assumption
    · have hi' : i = n + 1 := by omega
      subst hi'
      (repeat (first | refine v_reg ?_ | refine v_last ?_ | refine vwp_seq ?_ | refine vwp_block ?_ | refine vwp_skip ?_ | refine vwp_exit ?_ | refine vwp_ret ?_ | refine v_cond ?_ | simp only [vm, ite_true, ite_false, reduceIte, Nat.reduceEqDiff, Option.map, decide_eq_true_eq, decide_eq_false_iff_not, Bool.not_eq_true, decide_true, decide_false, Bool.not_true, Bool.not_false, Bool.false_eq_true, not_true_eq_false, not_false_eq_true, eq_self, and_true, true_and, h0, h1, h5, h7, h8, h6, g] | refine And.intro (by omega) ?_))
      rw [List.take_of_length_le (l := a) (by omega), List.take_of_length_le (l := b) (by omega)] at hinv
      refine ⟨w, ?_⟩
      have e0 : w ++ List.replicate (n + 1 - (n + 1)) 0 = w := by simp
      rw [e0]
      have hc0 : carry = 0 := by
        rcases Nat.eq_zero_or_pos carry with h | h
        · exact h
        · have : carry = 1 := by omega
          rw [this, Nat.mul_one] at hinv
          omega
      rw [hc0, Nat.mul_zero, Nat.add_zero] at hinv
      (repeat' apply And.intro) <;> first | rfl | omega | assumption
  rintro ⟨ρ3, σ, c5⟩ ⟨w, hw, hlw, hvw, h6, hσ, hc5⟩
  dsimp only at h6 hσ hc5
  subst hσ
  refine v_freeze 6 (t := c1) (off := 0) (n := n + 1) (cap := some (n + 1)) (l := w) (by simp only [vm, ite_true, ite_false, reduceIte, Nat.reduceEqDiff, Option.map, decide_eq_true_eq, decide_eq_false_iff_not, Bool.not_eq_true, decide_true, decide_false, Bool.not_true, Bool.not_false, Bool.false_eq_true, not_true_eq_false, not_false_eq_true, eq_self, and_true, true_and, h6]) (by simp only [vm, ite_true, ite_false, reduceIte, Nat.reduceEqDiff, Option.map, decide_eq_true_eq, decide_eq_false_iff_not, Bool.not_eq_true, decide_true, decide_false, Bool.not_true, Bool.not_false, Bool.false_eq_true, not_true_eq_false, not_false_eq_true, eq_self, and_true, true_and]) (by omega) (by omega) ?_
  rw [List.drop_zero, show w.take (n + 1) = w from List.take_of_length_le (by omega)]
  (repeat (first | refine v_reg ?_ | refine v_last ?_ | refine vwp_seq ?_ | refine vwp_block ?_ | refine vwp_skip ?_ | refine vwp_exit ?_ | refine vwp_ret ?_ | refine v_cond ?_ | simp only [vm, ite_true, ite_false, reduceIte, Nat.reduceEqDiff, Option.map, decide_eq_true_eq, decide_eq_false_iff_not, Bool.not_eq_true, decide_true, decide_false, Bool.not_true, Bool.not_false, Bool.false_eq_true, not_true_eq_false, not_false_eq_true, eq_self, and_true, true_and] | refine And.intro (by omega) ?_))
  refine s_call (norm32_spec (.id c1) w c5 hlw (by omega)) (by simp only [vm, ite_true, ite_false, reduceIte, Nat.reduceEqDiff, Option.map, decide_eq_true_eq, decide_eq_false_iff_not, Bool.not_eq_true, decide_true, decide_false, Bool.not_true, Bool.not_false, Bool.false_eq_true, not_true_eq_false, not_false_eq_true, eq_self, and_true, true_and, List.map]) ?_
  rintro v c6 hc6 rfl
  rw [hvw]
  (repeat (first | refine v_reg ?_ | refine v_last ?_ | refine vwp_seq ?_ | refine vwp_block ?_ | refine vwp_skip ?_ | refine vwp_exit ?_ | refine vwp_ret ?_ | refine v_cond ?_ | simp only [vm, ite_true, ite_false, reduceIte, Nat.reduceEqDiff, Option.map, decide_eq_true_eq, decide_eq_false_iff_not, Bool.not_eq_true, decide_true, decide_false, Bool.not_true, Bool.not_false, Bool.false_eq_true, not_true_eq_false, not_false_eq_true, eq_self, and_true, true_and] | refine And.intro (by omega) ?_))
  exact ⟨c1, rfl, by omega, by omega⟩

theorem mul32_spec (t u : Tok) (a b : List Nat) (c : Nat) (ha : Lim 4294967296 a) (hb : Lim 4294967296 b) (hna : a.length ≤ 1099511627776) (hnb : b.length ≤ 1099511627776) :
    VSpec Try.prog F.surdref01_Mul c [nats t a, nats u b] (fun r c' => ∃ i, r = nats (.id i) (digs 4294967296 (val 4294967296 a * val 4294967296 b)) ∧ c ≤ i ∧ i < c') := by
  refine spec_mk hm E.surdref01_Mul B.surdref01_Mul K.surdref01_Mul Q.surdref01_Mul (by rw [N.surdref01_Mul]; simp) ?_
  unfold C.surdref01_Mul R.surdref01_Mul
  (repeat (first | refine v_reg ?_ | refine v_last ?_ | refine vwp_seq ?_ | refine vwp_block ?_ | refine vwp_skip ?_ | refine vwp_exit ?_ | refine vwp_ret ?_ | refine v_cond ?_ | simp only [vm, ite_true, ite_false, reduceIte, Nat.reduceEqDiff, Option.map, decide_eq_true_eq, decide_eq_false_iff_not, Bool.not_eq_true, decide_true, decide_false, Bool.not_true, Bool.not_false, Bool.false_eq_true, not_true_eq_false, not_false_eq_true, eq_self, and_true, true_and] | refine And.intro (by omega) ?_))
  refine s_mk (n := a.length + b.length + 1) (m := a.length + b.length + 1) (by simp only [vm, ite_true, ite_false, reduceIte, Nat.reduceEqDiff, Option.map, decide_eq_true_eq, decide_eq_false_iff_not, Bool.not_eq_true, decide_true, decide_false, Bool.not_true, Bool.not_false, Bool.false_eq_true, not_true_eq_false, not_false_eq_true, eq_self, and_true, true_and]; rfl) (by simp only [vm, ite_true, ite_false, reduceIte, Nat.reduceEqDiff, Option.map, decide_eq_true_eq, decide_eq_false_iff_not, Bool.not_eq_true, decide_true, decide_false, Bool.not_true, Bool.not_false, Bool.false_eq_true, not_true_eq_false, not_false_eq_true, eq_self, and_true, true_and]; rfl) (Nat.le_refl _) (by omega) ?_
  (repeat (first | refine v_reg ?_ | refine v_last ?_ | refine vwp_seq ?_ | refine vwp_block ?_ | refine vwp_skip ?_ | refine vwp_exit ?_ | refine vwp_ret ?_ | refine v_cond ?_ | simp only [vm, ite_true, ite_false, reduceIte, Nat.reduceEqDiff, Option.map, decide_eq_true_eq, decide_eq_false_iff_not, Bool.not_eq_true, decide_true, decide_false, Bool.not_true, Bool.not_false, Bool.false_eq_true, not_true_eq_false, not_false_eq_true, eq_self, and_true, true_and] | refine And.intro (by omega) ?_))
  refine v_loop (fun S => ∃ w, w.length = a.length + b.length + 1 ∧ Lim 4294967296 w ∧ val 4294967296 w = val 4294967296 a * val 4294967296 b ∧ S.ρ 5 = .buf c 0 (a.length + b.length + 1) (some (a.length + b.length + 1)) 1 ∧ S.σ = supd noBlk c (nblk w) ∧ c + 1 ≤ S.c) ?_ ?_
  · refine vwp_loop (fun m S => ∃ i w, m = a.length - i ∧ i ≤ a.length ∧ w.length = i + b.length ∧ Lim 4294967296 w ∧ val 4294967296 w = val 4294967296 (a.take i) * val 4294967296 b ∧ S.ρ 1 = nats u b ∧ S.ρ 5 = .buf c 0 (a.length + b.length + 1) (some (a.length + b.length + 1)) 1 ∧ S.ρ 19 = nats t a ∧ S.ρ 20 = iv a.length ∧ S.ρ 21 = iv i ∧ S.σ = supd noBlk c (nblk (w ++ List.replicate (a.length + 1 - i) 0)) ∧ c + 1 ≤ S.c) a.length ?_ ?_
    · refine ⟨0, List.replicate b.length 0, by omega, by omega, ?_⟩
      simp only [vm, ite_true, ite_false, reduceIte, Nat.reduceEqDiff, Option.map, decide_eq_true_eq, decide_eq_false_iff_not, Bool.not_eq_true, decide_true, decide_false, Bool.not_true, Bool.not_false, Bool.false_eq_true, not_true_eq_false, not_false_eq_true, eq_self, and_true, true_and]
      have e0 : List.replicate b.length 0 ++ List.replicate (a.length + 1 - 0) 0 = List.replicate (a.length + b.length + 1) 0 := by
        rw [List.replicate_append_replicate]; congr 1; omega
      (repeat' apply And.intro) <;> first | rfl | omega | assumption | (simp; done) | exact Lim.replicate (by decide) | (rw [val_replicate]; simp [val]; done) | (rw [e0])
    rintro m ⟨ρ2, σ, c4⟩ ⟨i, w, hm', hi, hw, hlw, hinv, h1, h5, h20, h21, h22, hσ, hc4⟩
    dsimp only at h1 h5 h20 h21 h22 hσ hc4
    subst hσ
    by_cases g : (i : Int) < a.length
    · have hi' : i < a.length := by omega
      have hxi := ha.getD (i := i) (by decide)
      have hx' := val_take' 4294967296 a i
      (repeat (first | refine v_reg ?_ | refine v_last ?_ | refine vwp_seq ?_ | refine vwp_block ?_ | refine vwp_skip ?_ | refine vwp_exit ?_ | refine vwp_ret ?_ | refine v_cond ?_ | simp only [vm, ite_true, ite_false, reduceIte, Nat.reduceEqDiff, Option.map, decide_eq_true_eq, decide_eq_false_iff_not, Bool.not_eq_true, decide_true, decide_false, Bool.not_true, Bool.not_false, Bool.false_eq_true, not_true_eq_false, not_false_eq_true, eq_self, and_true, true_and, h1, h5, h20, h21, h22, g] | refine And.intro (by omega) ?_))
      generalize a.getD i 0 = x at *
      refine v_loop (fun S => ∃ w' carry, w'.length = i + b.length ∧ Lim 4294967296 w' ∧ carry < 4294967296 ∧ val 4294967296 w' + 4294967296 ^ (i + b.length) * carry = val 4294967296 w + 4294967296 ^ i * (x * val 4294967296 b) ∧ S.ρ 1 = nats u b ∧ S.ρ 5 = .buf c 0 (a.length + b.length + 1) (some (a.length + b.length + 1)) 1 ∧ S.ρ 6 = iv i ∧ S.ρ 8 = nv carry ∧ S.ρ 19 = nats t a ∧ S.ρ 20 = iv a.length ∧ S.ρ 21 = iv i ∧ S.σ = supd noBlk c (nblk (w' ++ List.replicate (a.length + 1 - i) 0)) ∧ c + 1 ≤ S.c) ?_ ?_
      · refine vwp_loop (fun m S => ∃ k w' carry, m = b.length - k ∧ k ≤ b.length ∧ w'.length = i + b.length ∧ Lim 4294967296 w' ∧ carry < 4294967296 ∧ val 4294967296 w' + 4294967296 ^ (i + k) * carry = val 4294967296 w + 4294967296 ^ i * (x * val 4294967296 (b.take k)) ∧ S.ρ 1 = nats u b ∧ S.ρ 5 = .buf c 0 (a.length + b.length + 1) (some (a.length + b.length + 1)) 1 ∧ S.ρ 6 = iv i ∧ S.ρ 7 = nv x ∧ S.ρ 8 = nv carry ∧ S.ρ 19 = nats t a ∧ S.ρ 20 = iv a.length ∧ S.ρ 21 = iv i ∧ S.ρ 26 = nats u b ∧ S.ρ 27 = iv b.length ∧ S.ρ 28 = iv k ∧ S.σ = supd noBlk c (nblk (w' ++ List.replicate (a.length + 1 - i) 0)) ∧ c + 1 ≤ S.c) b.length ?_ ?_
        · refine ⟨0, w, 0, by omega, by omega, ?_⟩
          simp only [vm, ite_true, ite_false, reduceIte, Nat.reduceEqDiff, Option.map, decide_eq_true_eq, decide_eq_false_iff_not, Bool.not_eq_true, decide_true, decide_false, Bool.not_true, Bool.not_false, Bool.false_eq_true, not_true_eq_false, not_false_eq_true, eq_self, and_true, true_and, h1, h5, h20, h21, h22]
          (repeat' apply And.intro) <;> first | rfl | omega | assumption | (simp [val]; done)
        rintro m ⟨ρ3, σ, c5⟩ ⟨k, w', carry, hm2, hk, hw', hlw', hca, hinv', q1, q5, q6, q7, q8, q20, q21, q22, q27, q28, q29, hσ, hc5⟩
        dsimp only at q1 q5 q6 q7 q8 q20 q21 q22 q27 q28 q29 hσ hc5
        subst hσ
        by_cases g2 : (k : Int) < b.length
        · have hk' : k < b.length := by omega
          have hyk := hb.getD (i := k) (by decide)
          have hy' := val_take' 4294967296 b k
          have hik : i + k < w'.length := by omega
          have hwk := hlw'.getD (i := i + k) (by decide)
          have key := addAt_step (b := 4294967296) (k := i) (Y := x * val 4294967296 (b.take k)) (y := x * b.getD k 0) (c := carry) hik (by omega) hinv' _ rfl
          rw [show i + k - i = k by omega, Nat.mul_left_comm, ← Nat.mul_add, ← hy'] at key
          have hp32 := mul_lt32 hxi hyk
          have hvlt : x * b.getD k 0 + w'.getD (i + k) 0 + carry < 18446744073709551616 := by omega
          have s0 : x * b.getD k 0 % 18446744073709551616 = x * b.getD k 0 := Nat.mod_eq_of_lt (by omega)
          have s1 : (x * b.getD k 0 + w'.getD (i + k) 0) % 18446744073709551616 = x * b.getD k 0 + w'.getD (i + k) 0 := Nat.mod_eq_of_lt (by omega)
          have s2 : (x * b.getD k 0 + w'.getD (i + k) 0 + carry) % 18446744073709551616 = x * b.getD k 0 + w'.getD (i + k) 0 + carry := Nat.mod_eq_of_lt hvlt
          have s3 : (x * b.getD k 0 + w'.getD (i + k) 0 + carry) / 4294967296 < 4294967296 := by omega
          have s4 : (x * b.getD k 0 + w'.getD (i + k) 0 + carry) / 4294967296 % 18446744073709551616 = (x * b.getD k 0 + w'.getD (i + k) 0 + carry) / 4294967296 := Nat.mod_eq_of_lt (by omega)
          have s5 : w'.getD (i + k) 0 + x * b.getD k 0 + carry = x * b.getD k 0 + w'.getD (i + k) 0 + carry := by omega
          rw [s5] at key
          have eik : ((i : Int) + (k : Int)).toNat = i + k := by omega
          have hget : (w' ++ List.replicate (a.length + 1 - i) 0).getD (i + k) 0 = w'.getD (i + k) 0 := getD_append_left hik
          have hset : ∀ v, (w' ++ List.replicate (a.length + 1 - i) 0).set (i + k) v = w'.set (i + k) v ++ List.replicate (a.length + 1 - i) 0 := fun v => List.set_append_left _ _ hik
          have hlen : (w' ++ List.replicate (a.length + 1 - i) 0).length = a.length + b.length + 1 := by simp; omega
          (repeat (first | refine v_reg ?_ | refine v_last ?_ | refine vwp_seq ?_ | refine vwp_block ?_ | refine vwp_skip ?_ | refine vwp_exit ?_ | refine vwp_ret ?_ | refine v_cond ?_ | simp only [vm, ite_true, ite_false, reduceIte, Nat.reduceEqDiff, Option.map, decide_eq_true_eq, decide_eq_false_iff_not, Bool.not_eq_true, decide_true, decide_false, Bool.not_true, Bool.not_false, Bool.false_eq_true, not_true_eq_false, not_false_eq_true, eq_self, and_true, true_and, q1, q5, q6, q7, q8, q20, q21, q22, q27, q28, q29, g2, eik, hget, hset, hlen, s0, s1, s2, s4] | refine And.intro (by omega) ?_))
          refine ⟨b.length - (k + 1), by omega, k + 1, w'.set (i + k) ((x * b.getD k 0 + w'.getD (i + k) 0 + carry) % 4294967296), (x * b.getD k 0 + w'.getD (i + k) 0 + carry) / 4294967296, ?_⟩
          (repeat' apply And.intro) <;> first | rfl | omega | assumption | (rw [List.length_set]; exact hw') | exact hlw'.set (Nat.mod_lt _ (by decide)) | exact key
        · have hk' : k = b.length := by omega
          subst hk'
          (repeat (first | refine v_reg ?_ | refine v_last ?_ | refine vwp_seq ?_ | refine vwp_block ?_ | refine vwp_skip ?_ | refine vwp_exit ?_ | refine vwp_ret ?_ | refine v_cond ?_ | simp only [vm, ite_true, ite_false, reduceIte, Nat.reduceEqDiff, Option.map, decide_eq_true_eq, decide_eq_false_iff_not, Bool.not_eq_true, decide_true, decide_false, Bool.not_true, Bool.not_false, Bool.false_eq_true, not_true_eq_false, not_false_eq_true, eq_self, and_true, true_and, q1, q5, q6, q7, q8, q20, q21, q22, q27, q28, q29, g2] | refine And.intro (by omega) ?_))
          rw [List.take_length] at hinv'
          refine ⟨w', carry, hw', hlw', hca, hinv', ?_⟩
          (repeat' apply And.intro) <;> first | rfl | omega | assumption
      rintro ⟨ρ3, σ, c5⟩ ⟨w', carry, hw', hlw', hca, hinv', q1, q5, q6, q8, q20, q21, q22, hσ, hc5⟩
      dsimp only at q1 q5 q6 q8 q20 q21 q22 hσ hc5
      subst hσ
      have eib : ((i : Int) + (b.length : Int)).toNat = i + b.length := by omega
      have hlen : (w' ++ List.replicate (a.length + 1 - i) 0).length = a.length + b.length + 1 := by simp; omega
      have hset : ∀ v, (w' ++ List.replicate (a.length + 1 - i) 0).set (i + b.length) v = (w' ++ [v]) ++ List.replicate (a.length + 1 - (i + 1)) 0 := fun v => by
        have := set_fill w' (a.length + 1 - (i + 1)) v
        rw [hw'] at this
        rw [show a.length + 1 - i = a.length + 1 - (i + 1) + 1 by omega, this]
      (repeat (first | refine v_reg ?_ | refine v_last ?_ | refine vwp_seq ?_ | refine vwp_block ?_ | refine vwp_skip ?_ | refine vwp_exit ?_ | refine vwp_ret ?_ | refine v_cond ?_ | simp only [vm, ite_true, ite_false, reduceIte, Nat.reduceEqDiff, Option.map, decide_eq_true_eq, decide_eq_false_iff_not, Bool.not_eq_true, decide_true, decide_false, Bool.not_true, Bool.not_false, Bool.false_eq_true, not_true_eq_false, not_false_eq_true, eq_self, and_true, true_and, q1, q5, q6, q8, q20, q21, q22, eib, hlen, hset] | refine And.intro (by omega) ?_))
      refine ⟨a.length - (i + 1), by omega, i + 1, w' ++ [carry], ?_⟩
      have hvv : val 4294967296 (w' ++ [carry]) = val 4294967296 (a.take (i + 1)) * val 4294967296 b := by
        rw [val_append, hw']
        simp only [val, Nat.mul_zero, Nat.add_zero]
        rw [hinv', hinv, hx', Nat.add_mul, Nat.mul_assoc]
      (repeat' apply And.intro) <;> first | rfl | omega | assumption | (simp; omega) | exact lim_snoc hlw' hca | exact hvv
    · have hi' : i = a.length := by omega
      subst hi'
      (repeat (first | refine v_reg ?_ | refine v_last ?_ | refine vwp_seq ?_ | refine vwp_block ?_ | refine vwp_skip ?_ | refine vwp_exit ?_ | refine vwp_ret ?_ | refine v_cond ?_ | simp only [vm, ite_true, ite_false, reduceIte, Nat.reduceEqDiff, Option.map, decide_eq_true_eq, decide_eq_false_iff_not, Bool.not_eq_true, decide_true, decide_false, Bool.not_true, Bool.not_false, Bool.false_eq_true, not_true_eq_false, not_false_eq_true, eq_self, and_true, true_and, h1, h5, h20, h21, h22, g] | refine And.intro (by omega) ?_))
      rw [List.take_length] at hinv
      refine ⟨w ++ [0], ?_⟩
      have e0 : w ++ List.replicate (a.length + 1 - a.length) 0 = w ++ [0] := by rw [show a.length + 1 - a.length = 0 + 1 by omega]; rfl
      rw [e0]
      (repeat' apply And.intro) <;> first | rfl | omega | assumption | (simp; omega) | exact lim_snoc hlw (by decide) | (rw [val_snoc0]; exact hinv)
  rintro ⟨ρ3, σ, c5⟩ ⟨w, hw, hlw, hvw, h5, hσ, hc5⟩
  dsimp only at h5 hσ hc5
  subst hσ
  refine v_freeze 5 (t := c) (off := 0) (n := a.length + b.length + 1) (cap := some (a.length + b.length + 1)) (l := w) (by simp only [vm, ite_true, ite_false, reduceIte, Nat.reduceEqDiff, Option.map, decide_eq_true_eq, decide_eq_false_iff_not, Bool.not_eq_true, decide_true, decide_false, Bool.not_true, Bool.not_false, Bool.false_eq_true, not_true_eq_false, not_false_eq_true, eq_self, and_true, true_and, h5]) (by simp only [vm, ite_true, ite_false, reduceIte, Nat.reduceEqDiff, Option.map, decide_eq_true_eq, decide_eq_false_iff_not, Bool.not_eq_true, decide_true, decide_false, Bool.not_true, Bool.not_false, Bool.false_eq_true, not_true_eq_false, not_false_eq_true, eq_self, and_true, true_and]) (by omega) (by omega) ?_
  rw [List.drop_zero, show w.take (a.length + b.length + 1) = w from List.take_of_length_le (by omega)]
  (repeat (first | refine v_reg ?_ | refine v_last ?_ | refine vwp_seq ?_ | refine vwp_block ?_ | refine vwp_skip ?_ | refine vwp_exit ?_ | refine vwp_ret ?_ | refine v_cond ?_ | simp only [vm, ite_true, ite_false, reduceIte, Nat.reduceEqDiff, Option.map, decide_eq_true_eq, decide_eq_false_iff_not, Bool.not_eq_true, decide_true, decide_false, Bool.not_true, Bool.not_false, Bool.false_eq_true, not_true_eq_false, not_false_eq_true, eq_self, and_true, true_and] | refine And.intro (by omega) ?_))
  refine s_call (norm32_spec (.id c) w c5 hlw (by omega)) (by simp only [vm, ite_true, ite_false, reduceIte, Nat.reduceEqDiff, Option.map, decide_eq_true_eq, decide_eq_false_iff_not, Bool.not_eq_true, decide_true, decide_false, Bool.not_true, Bool.not_false, Bool.false_eq_true, not_true_eq_false, not_false_eq_true, eq_self, and_true, true_and, List.map]) ?_
  rintro v c6 hc6 rfl
  rw [hvw]
  (repeat (first | refine v_reg ?_ | refine v_last ?_ | refine vwp_seq ?_ | refine vwp_block ?_ | refine vwp_skip ?_ | refine vwp_exit ?_ | refine vwp_ret ?_ | refine v_cond ?_ | simp only [vm, ite_true, ite_false, reduceIte, Nat.reduceEqDiff, Option.map, decide_eq_true_eq, decide_eq_false_iff_not, Bool.not_eq_true, decide_true, decide_false, Bool.not_true, Bool.not_false, Bool.false_eq_true, not_true_eq_false, not_false_eq_true, eq_self, and_true, true_and] | refine And.intro (by omega) ?_))
  exact ⟨c, rfl, by omega, by omega⟩

theorem len32_bl {n k : Nat} (h : bl n ≤ 32 * k) : (digs 4294967296 n).length ≤ k := by
  refine digs_len two32 ?_
  rw [pow32]
  exact lt_of_bl h
theorem bl_mul_le (m n : Nat) : bl (m * n) ≤ bl m + bl n := by
  refine bl_le ?_
  rw [Nat.pow_add]
  exact Nat.mul_lt_mul'' (lt_bl m) (lt_bl n)
theorem bl_add_le {m n k : Nat} (hm : bl m ≤ k) (hn : bl n ≤ k) : bl (m + n) ≤ k + 1 := bl_le (bl_sum (lt_of_bl hm) (lt_of_bl hn))
theorem bl_pow_le (a j : Nat) : bl (a ^ j) ≤ bl a * j + 1 := by
  refine bl_le ?_
  have h : a ^ j ≤ (2 ^ bl a) ^ j := Nat.pow_le_pow_left (Nat.le_of_lt (lt_bl a)) j
  rw [← Nat.pow_mul] at h
  rw [Nat.pow_succ]
  have := Nat.two_pow_pos (bl a * j)
  omega

/-- a number of the reference, in memory of its own -/
def RefR (c c' n : Nat) (r : V) : Prop := ∃ i, r = nats (.id i) (digs 4294967296 n) ∧ c ≤ i ∧ i < c'
theorem addR (t u : Tok) (m n c : Nat) (hm : bl m ≤ 68719476736) (hn : bl n ≤ 68719476736) : VSpec Try.prog F.surdref01_Add c [nats t (digs 4294967296 m), nats u (digs 4294967296 n)] (fun r c' => RefR c c' (m + n) r) := by
  have h := add32_spec t u (digs 4294967296 m) (digs 4294967296 n) c (lim_digs two32 m) (lim_digs two32 n) (Nat.le_trans (len32_bl (k := 2147483648) (by omega)) (by decide)) (Nat.le_trans (len32_bl (k := 2147483648) (by omega)) (by decide))
  rw [val_digs two32, val_digs two32] at h
  exact h
theorem mulR (t u : Tok) (m n c : Nat) (hm : bl m ≤ 68719476736) (hn : bl n ≤ 68719476736) : VSpec Try.prog F.surdref01_Mul c [nats t (digs 4294967296 m), nats u (digs 4294967296 n)] (fun r c' => RefR c c' (m * n) r) := by
  have h := mul32_spec t u (digs 4294967296 m) (digs 4294967296 n) c (lim_digs two32 m) (lim_digs two32 n) (Nat.le_trans (len32_bl (k := 2147483648) (by omega)) (by decide)) (Nat.le_trans (len32_bl (k := 2147483648) (by omega)) (by decide))
  rw [val_digs two32, val_digs two32] at h
  exact h
theorem cmpR (t u : Tok) (m n c : Nat) (hm : bl m ≤ 68719476736) (hn : bl n ≤ 68719476736) : VSpec Try.prog F.surdref01_Cmp c [nats t (digs 4294967296 m), nats u (digs 4294967296 n)] (fun r _ => r = iv (cmpI m n)) :=
  cmp_spec t u m n c (Nat.le_trans (len32_bl (k := 2147483648) (by omega)) (by decide)) (Nat.le_trans (len32_bl (k := 2147483648) (by omega)) (by decide))
theorem ofR (t : Tok) (n c : Nat) (hn : bl n ≤ 68719476736) : VSpec Try.prog F.surdlaw04_of c [nats t (digs 18446744073709551616 n)] (fun r c' => RefR c c' n r) := by
  have h := ofl_spec t (digs 18446744073709551616 n) c (lim_digs two64 n) (Nat.le_trans (digs_len_bl (k := 1073741824) (by omega)) (by decide))
  rw [val_digs two64] at h
  exact h

theorem powR (t : Tok) (A0 n c : Nat) (hn : n < 9223372036854775808) (hb : ∀ j, j ≤ n → bl (A0 ^ j) ≤ 68719476736) (hA : bl A0 ≤ 68719476736) :
    VSpec Try.prog F.surdref01_Pow c [nats t (digs 4294967296 A0), iv n] (fun r c' => RefR c c' (A0 ^ n) r) := by
  refine spec_mk hm E.surdref01_Pow B.surdref01_Pow K.surdref01_Pow Q.surdref01_Pow (by rw [N.surdref01_Pow]; simp) ?_
  unfold C.surdref01_Pow R.surdref01_Pow
  (repeat (first | refine v_reg ?_ | refine v_last ?_ | refine vwp_seq ?_ | refine vwp_block ?_ | refine vwp_skip ?_ | refine vwp_exit ?_ | refine vwp_ret ?_ | refine v_cond ?_ | simp only [vm, ite_true, ite_false, reduceIte, Nat.reduceEqDiff, Option.map, decide_eq_true_eq, decide_eq_false_iff_not, Bool.not_eq_true, decide_true, decide_false, Bool.not_true, Bool.not_false, Bool.false_eq_true, not_true_eq_false, not_false_eq_true, eq_self, and_true, true_and] | refine And.intro (by omega) ?_))
  refine s_call (int_spec 1 c (by decide)) (by simp only [vm, ite_true, ite_false, reduceIte, Nat.reduceEqDiff, Option.map, decide_eq_true_eq, decide_eq_false_iff_not, Bool.not_eq_true, decide_true, decide_false, Bool.not_true, Bool.not_false, Bool.false_eq_true, not_true_eq_false, not_false_eq_true, eq_self, and_true, true_and, List.map]; rfl) ?_
  rintro v c1 hc1 ⟨i0, rfl, hi1, hi2⟩
  (repeat (first | refine v_reg ?_ | refine v_last ?_ | refine vwp_seq ?_ | refine vwp_block ?_ | refine vwp_skip ?_ | refine vwp_exit ?_ | refine vwp_ret ?_ | refine v_cond ?_ | simp only [vm, ite_true, ite_false, reduceIte, Nat.reduceEqDiff, Option.map, decide_eq_true_eq, decide_eq_false_iff_not, Bool.not_eq_true, decide_true, decide_false, Bool.not_true, Bool.not_false, Bool.false_eq_true, not_true_eq_false, not_false_eq_true, eq_self, and_true, true_and] | refine And.intro (by omega) ?_))
  refine v_loop (fun S => ∃ i, S.ρ 5 = nats (.id i) (digs 4294967296 (A0 ^ n)) ∧ c ≤ i ∧ i < S.c ∧ S.σ = noBlk ∧ c1 ≤ S.c) ?_ ?_
  · refine vwp_loop (fun m S => ∃ k i, m = k ∧ k ≤ 63 ∧ S.ρ 0 = nats t (digs 4294967296 A0) ∧ S.ρ 1 = iv n ∧ S.ρ 5 = nats (.id i) (digs 4294967296 (A0 ^ (n / 2 ^ k))) ∧ c ≤ i ∧ i < S.c ∧ S.ρ 6 = iv ((k : Int) - 1) ∧ S.σ = noBlk ∧ c1 ≤ S.c) 63 ?_ ?_
    · have e0 : n / 2 ^ 63 = 0 := by omega
      refine ⟨63, i0, rfl, ?_⟩
      rw [e0, Nat.pow_zero]
      simp only [vm, ite_true, ite_false, reduceIte, Nat.reduceEqDiff, Option.map, decide_eq_true_eq, decide_eq_false_iff_not, Bool.not_eq_true, decide_true, decide_false, Bool.not_true, Bool.not_false, Bool.false_eq_true, not_true_eq_false, not_false_eq_true, eq_self, and_true, true_and]
      (repeat' apply And.intro) <;> first | rfl | omega | assumption
    rintro m ⟨ρ2, σ, c5⟩ ⟨k, i4, hm', hk, h0, h1, h5, hi3, hi4, h6, hσ, hc5⟩
    dsimp only at h0 h1 h5 h6 hσ hc5 hi4
    subst hσ
    rcases Nat.eq_zero_or_pos k with rfl | hkp
    · have g : ¬ (0 : Int) ≤ ((0 : Nat) : Int) - 1 := by omega
      rw [Nat.pow_zero, Nat.div_one] at h5
      (repeat (first | refine v_reg ?_ | refine v_last ?_ | refine vwp_seq ?_ | refine vwp_block ?_ | refine vwp_skip ?_ | refine vwp_exit ?_ | refine vwp_ret ?_ | refine v_cond ?_ | simp only [vm, ite_true, ite_false, reduceIte, Nat.reduceEqDiff, Option.map, decide_eq_true_eq, decide_eq_false_iff_not, Bool.not_eq_true, decide_true, decide_false, Bool.not_true, Bool.not_false, Bool.false_eq_true, not_true_eq_false, not_false_eq_true, eq_self, and_true, true_and, h6, g] | refine And.intro (by omega) ?_))
      exact ⟨i4, h5, hi3, hi4, hc5⟩
    obtain ⟨i, rfl⟩ : ∃ i, k = i + 1 := ⟨k - 1, by omega⟩
    have e1 : (((i + 1 : Nat) : Int) - 1) = (i : Int) := by omega
    rw [e1] at h6
    have hi0 : (0 : Int) ≤ (i : Int) := by omega
    have emin : min i 64 = i := by omega
    have hhalf := pow_half A0 n i
    have hbo := hb (n / 2 ^ (i + 1)) (Nat.div_le_self _ _)
    have hbo2 : bl (A0 ^ (n / 2 ^ (i + 1)) * A0 ^ (n / 2 ^ (i + 1))) ≤ 68719476736 := by
      rw [← Nat.pow_add]
      refine hb _ ?_
      have e : n / 2 ^ (i + 1) = n / 2 ^ i / 2 := by rw [Nat.pow_succ, Nat.div_div_eq_div_mul]
      have := Nat.div_le_self n (2 ^ i)
      omega
    generalize A0 ^ (n / 2 ^ (i + 1)) = o at *
    (repeat (first | refine v_reg ?_ | refine v_last ?_ | refine vwp_seq ?_ | refine vwp_block ?_ | refine vwp_skip ?_ | refine vwp_exit ?_ | refine vwp_ret ?_ | refine v_cond ?_ | simp only [vm, ite_true, ite_false, reduceIte, Nat.reduceEqDiff, Option.map, decide_eq_true_eq, decide_eq_false_iff_not, Bool.not_eq_true, decide_true, decide_false, Bool.not_true, Bool.not_false, Bool.false_eq_true, not_true_eq_false, not_false_eq_true, eq_self, and_true, true_and, h0, h1, h5, h6, hi0] | refine And.intro (by omega) ?_))
    refine s_call (mulR (.id i4) (.id i4) o o c5 hbo hbo) (by simp only [vm, ite_true, ite_false, reduceIte, Nat.reduceEqDiff, Option.map, decide_eq_true_eq, decide_eq_false_iff_not, Bool.not_eq_true, decide_true, decide_false, Bool.not_true, Bool.not_false, Bool.false_eq_true, not_true_eq_false, not_false_eq_true, eq_self, and_true, true_and, List.map, h5]) ?_
    rintro v c6 hc6 ⟨i6, rfl, hi6, hi7⟩
    by_cases gb : n / 2 ^ i % 2 = 1
    · rw [if_pos gb] at hhalf
      have gbi : ((n / 2 ^ i % 2 : Nat) : Int) = 1 := by omega
      (repeat (first | refine v_reg ?_ | refine v_last ?_ | refine vwp_seq ?_ | refine vwp_block ?_ | refine vwp_skip ?_ | refine vwp_exit ?_ | refine vwp_ret ?_ | refine v_cond ?_ | simp only [vm, ite_true, ite_false, reduceIte, Nat.reduceEqDiff, Option.map, decide_eq_true_eq, decide_eq_false_iff_not, Bool.not_eq_true, decide_true, decide_false, Bool.not_true, Bool.not_false, Bool.false_eq_true, not_true_eq_false, not_false_eq_true, eq_self, and_true, true_and, h0, h1, h5, h6, emin, gbi] | refine And.intro (by omega) ?_))
      refine s_call (mulR (.id i6) t (o * o) A0 c6 hbo2 hA) (by simp only [vm, ite_true, ite_false, reduceIte, Nat.reduceEqDiff, Option.map, decide_eq_true_eq, decide_eq_false_iff_not, Bool.not_eq_true, decide_true, decide_false, Bool.not_true, Bool.not_false, Bool.false_eq_true, not_true_eq_false, not_false_eq_true, eq_self, and_true, true_and, List.map, h0]) ?_
      rintro v c7 hc7 ⟨i8, rfl, hi8, hi9⟩
      rw [← hhalf]
      (repeat (first | refine v_reg ?_ | refine v_last ?_ | refine vwp_seq ?_ | refine vwp_block ?_ | refine vwp_skip ?_ | refine vwp_exit ?_ | refine vwp_ret ?_ | refine v_cond ?_ | simp only [vm, ite_true, ite_false, reduceIte, Nat.reduceEqDiff, Option.map, decide_eq_true_eq, decide_eq_false_iff_not, Bool.not_eq_true, decide_true, decide_false, Bool.not_true, Bool.not_false, Bool.false_eq_true, not_true_eq_false, not_false_eq_true, eq_self, and_true, true_and, h0, h1, h5, h6] | refine And.intro (by omega) ?_))
      refine ⟨i, by omega, i, i8, ?_⟩
      (repeat' apply And.intro) <;> first | rfl | omega | assumption
    · rw [if_neg gb, Nat.mul_one] at hhalf
      have gbi : ¬ ((n / 2 ^ i % 2 : Nat) : Int) = 1 := by omega
      rw [← hhalf]
      (repeat (first | refine v_reg ?_ | refine v_last ?_ | refine vwp_seq ?_ | refine vwp_block ?_ | refine vwp_skip ?_ | refine vwp_exit ?_ | refine vwp_ret ?_ | refine v_cond ?_ | simp only [vm, ite_true, ite_false, reduceIte, Nat.reduceEqDiff, Option.map, decide_eq_true_eq, decide_eq_false_iff_not, Bool.not_eq_true, decide_true, decide_false, Bool.not_true, Bool.not_false, Bool.false_eq_true, not_true_eq_false, not_false_eq_true, eq_self, and_true, true_and, h0, h1, h5, h6, emin, gbi] | refine And.intro (by omega) ?_))
      refine ⟨i, by omega, i, i6, ?_⟩
      (repeat' apply And.intro) <;> first | rfl | omega | assumption
  rintro ⟨ρ3, σ, c5⟩ ⟨i, h5, hi3, hi4, hσ, hc5⟩
  dsimp only at h5 hσ hc5 hi4
  subst hσ
  (repeat (first | refine v_reg ?_ | refine v_last ?_ | refine vwp_seq ?_ | refine vwp_block ?_ | refine vwp_skip ?_ | refine vwp_exit ?_ | refine vwp_ret ?_ | refine v_cond ?_ | simp only [vm, ite_true, ite_false, reduceIte, Nat.reduceEqDiff, Option.map, decide_eq_true_eq, decide_eq_false_iff_not, Bool.not_eq_true, decide_true, decide_false, Bool.not_true, Bool.not_false, Bool.false_eq_true, not_true_eq_false, not_false_eq_true, eq_self, and_true, true_and, h5] | refine And.intro (by omega) ?_))
  exact ⟨i, rfl, hi3, hi4⟩
end Go.Proofs.Ytladcfeibpddeab
