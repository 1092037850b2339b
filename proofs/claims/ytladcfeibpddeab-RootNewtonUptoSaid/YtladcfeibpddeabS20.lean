import Derived.Test.YtladcfeibpddeabS19
import Derived.Test.YtladcfeibpddeabRootL
set_option linter.unusedSimpArgs false
set_option linter.unusedVariables false
set_option maxRecDepth 100000
set_option maxHeartbeats 8000000
namespace Go.Proofs.Ytladcfeibpddeab
open Go.VM

theorem v_cut2 {P : Program} {c0 : Nat} {S : VS} {Q : VEx → VS → Prop} {a b y : VC} (M : VS → Prop) (h1 : VWP P c0 a (thenQ P c0 b fun e S => e = .normal ∧ M S) S) (h2 : ∀ S, M S → VWP P c0 y Q S) : VWP P c0 (.seq a (.seq b y)) Q S := by
  refine vwp_seq (vwp_mono h1 ?_)
  intro e S' h
  cases e with
  | normal =>
    rw [thenQ_normal] at h ⊢
    exact v_cut M h h2
  | exit j => rw [thenQ_exit] at h; cases h.1
  | ret => rw [thenQ_ret] at h; cases h.1

theorem fits_spec (t : Tok) (a : List Nat) (c : Nat) (ha : Lim 18446744073709551616 a) (hna : a.length ≤ 1099511627776) :
    VSpec Try.prog F.roots_fits c [nats t a] (fun r c' => Told c c' (val 18446744073709551616 a) r) := by
  refine spec_mk hm E.roots_fits B.roots_fits K.roots_fits Q.roots_fits (by rw [N.roots_fits]; simp) ?_
  unfold C.roots_fits R.roots_fits
  (repeat (first | refine v_reg ?_ | refine v_last ?_ | refine vwp_seq ?_ | refine vwp_block ?_ | refine vwp_skip ?_ | refine vwp_exit ?_ | refine vwp_ret ?_ | refine v_cond ?_ | simp only [vm, ite_true, ite_false, reduceIte, Nat.reduceEqDiff, Option.map, decide_eq_true_eq, decide_eq_false_iff_not, Bool.not_eq_true, decide_true, decide_false, Bool.not_true, Bool.not_false, Bool.false_eq_true, not_true_eq_false, not_false_eq_true, eq_self, and_true, true_and] | refine And.intro (by omega) ?_))
  refine s_call (length_spec t a c ha (by omega)) (by simp only [vm, ite_true, ite_false, reduceIte, Nat.reduceEqDiff, Option.map, decide_eq_true_eq, decide_eq_false_iff_not, Bool.not_eq_true, decide_true, decide_false, Bool.not_true, Bool.not_false, Bool.false_eq_true, not_true_eq_false, not_false_eq_true, eq_self, and_true, true_and, List.map]) ?_
  rintro v c1 hc1 rfl
  by_cases g : (67108864 : Int) < (bl (val 18446744073709551616 a) : Int)
  · (repeat (first | refine v_reg ?_ | refine v_last ?_ | refine vwp_seq ?_ | refine vwp_block ?_ | refine vwp_skip ?_ | refine vwp_exit ?_ | refine vwp_ret ?_ | refine v_cond ?_ | simp only [vm, ite_true, ite_false, reduceIte, Nat.reduceEqDiff, Option.map, decide_eq_true_eq, decide_eq_false_iff_not, Bool.not_eq_true, decide_true, decide_false, Bool.not_true, Bool.not_false, Bool.false_eq_true, not_true_eq_false, not_false_eq_true, eq_self, and_true, true_and, g] | refine And.intro (by omega) ?_))
    exact .inr ⟨by omega, rfl⟩
  (repeat (first | refine v_reg ?_ | refine v_last ?_ | refine vwp_seq ?_ | refine vwp_block ?_ | refine vwp_skip ?_ | refine vwp_exit ?_ | refine vwp_ret ?_ | refine v_cond ?_ | simp only [vm, ite_true, ite_false, reduceIte, Nat.reduceEqDiff, Option.map, decide_eq_true_eq, decide_eq_false_iff_not, Bool.not_eq_true, decide_true, decide_false, Bool.not_true, Bool.not_false, Bool.false_eq_true, not_true_eq_false, not_false_eq_true, eq_self, and_true, true_and, g] | refine And.intro (by omega) ?_))
  refine s_call (norm_spec t a c1 ha (by omega)) (by simp only [vm, ite_true, ite_false, reduceIte, Nat.reduceEqDiff, Option.map, decide_eq_true_eq, decide_eq_false_iff_not, Bool.not_eq_true, decide_true, decide_false, Bool.not_true, Bool.not_false, Bool.false_eq_true, not_true_eq_false, not_false_eq_true, eq_self, and_true, true_and, List.map]) ?_
  rintro v c2 hc2 ⟨t2, rfl, ht2⟩
  (repeat (first | refine v_reg ?_ | refine v_last ?_ | refine vwp_seq ?_ | refine vwp_block ?_ | refine vwp_skip ?_ | refine vwp_exit ?_ | refine vwp_ret ?_ | refine v_cond ?_ | simp only [vm, ite_true, ite_false, reduceIte, Nat.reduceEqDiff, Option.map, decide_eq_true_eq, decide_eq_false_iff_not, Bool.not_eq_true, decide_true, decide_false, Bool.not_true, Bool.not_false, Bool.false_eq_true, not_true_eq_false, not_false_eq_true, eq_self, and_true, true_and] | refine And.intro (by omega) ?_))
  exact .inl ⟨by omega, t2, rfl, ht2.mono (by omega) (by omega)⟩

theorem power_spec (n c : Nat) (hn : n < 67108864) : VSpec Try.prog F.roots_power c [iv n] (fun r c' => NatR c c' (2 ^ n) r) := by
  refine spec_mk hm E.roots_power B.roots_power K.roots_power Q.roots_power (by rw [N.roots_power]; simp) ?_
  unfold C.roots_power R.roots_power
  (repeat (first | refine v_reg ?_ | refine v_last ?_ | refine vwp_seq ?_ | refine vwp_block ?_ | refine vwp_skip ?_ | refine vwp_exit ?_ | refine vwp_ret ?_ | refine v_cond ?_ | simp only [vm, ite_true, ite_false, reduceIte, Nat.reduceEqDiff, Option.map, decide_eq_true_eq, decide_eq_false_iff_not, Bool.not_eq_true, decide_true, decide_false, Bool.not_true, Bool.not_false, Bool.false_eq_true, not_true_eq_false, not_false_eq_true, eq_self, and_true, true_and] | refine And.intro (by omega) ?_))
  refine s_call (from_spec 1 c (by decide)) (by simp only [vm, ite_true, ite_false, reduceIte, Nat.reduceEqDiff, Option.map, decide_eq_true_eq, decide_eq_false_iff_not, Bool.not_eq_true, decide_true, decide_false, Bool.not_true, Bool.not_false, Bool.false_eq_true, not_true_eq_false, not_false_eq_true, eq_self, and_true, true_and, List.map]) ?_
  rintro v c1 hc1 ⟨t1, rfl, ht1⟩
  have h1 := lim_digs two64 1
  have v1 := val_digs two64 1
  have l1 : (digs 18446744073709551616 1).length ≤ 1 := digs_len two64 (by decide)
  generalize digs 18446744073709551616 1 = one at *
  (repeat (first | refine v_reg ?_ | refine v_last ?_ | refine vwp_seq ?_ | refine vwp_block ?_ | refine vwp_skip ?_ | refine vwp_exit ?_ | refine vwp_ret ?_ | refine v_cond ?_ | simp only [vm, ite_true, ite_false, reduceIte, Nat.reduceEqDiff, Option.map, decide_eq_true_eq, decide_eq_false_iff_not, Bool.not_eq_true, decide_true, decide_false, Bool.not_true, Bool.not_false, Bool.false_eq_true, not_true_eq_false, not_false_eq_true, eq_self, and_true, true_and] | refine And.intro (by omega) ?_))
  refine s_call (left_spec t1 one n c1 h1 (by omega) (by omega)) (by simp only [vm, ite_true, ite_false, reduceIte, Nat.reduceEqDiff, Option.map, decide_eq_true_eq, decide_eq_false_iff_not, Bool.not_eq_true, decide_true, decide_false, Bool.not_true, Bool.not_false, Bool.false_eq_true, not_true_eq_false, not_false_eq_true, eq_self, and_true, true_and, List.map]) ?_
  rw [v1, Nat.one_mul]
  rintro v c2 hc2 (⟨hb, t2, rfl, ht2⟩ | ⟨hb, rfl⟩)
  · (repeat (first | refine v_reg ?_ | refine v_last ?_ | refine vwp_seq ?_ | refine vwp_block ?_ | refine vwp_skip ?_ | refine vwp_exit ?_ | refine vwp_ret ?_ | refine v_cond ?_ | simp only [vm, ite_true, ite_false, reduceIte, Nat.reduceEqDiff, Option.map, decide_eq_true_eq, decide_eq_false_iff_not, Bool.not_eq_true, decide_true, decide_false, Bool.not_true, Bool.not_false, Bool.false_eq_true, not_true_eq_false, not_false_eq_true, eq_self, and_true, true_and] | refine And.intro (by omega) ?_))
    exact ⟨t2, rfl, ht2.mono (by omega) (by omega)⟩
  · have : bl (2 ^ n) ≤ n + 1 := bl_le (Nat.pow_lt_pow_right (by decide) (by omega))
    omega

theorem less_root (t u : Tok) (a b : List Nat) (c : Nat) (ha : Lim 18446744073709551616 a) (hb : Lim 18446744073709551616 b) (hna : a.length ≤ 1099511627776) (hnb : b.length ≤ 1099511627776) (hle : val 18446744073709551616 b ≤ val 18446744073709551616 a) (hbl : bl (val 18446744073709551616 a) ≤ 67108864) :
    VSpec Try.prog F.roots_less c [nats t a, nats u b] (fun r c' => NatR c c' (val 18446744073709551616 a - val 18446744073709551616 b) r) := by
  refine spec_mk hm E.roots_less B.roots_less K.roots_less Q.roots_less (by rw [N.roots_less]; simp) ?_
  unfold C.roots_less R.roots_less
  (repeat (first | refine v_reg ?_ | refine v_last ?_ | refine vwp_seq ?_ | refine vwp_block ?_ | refine vwp_skip ?_ | refine vwp_exit ?_ | refine vwp_ret ?_ | refine v_cond ?_ | simp only [vm, ite_true, ite_false, reduceIte, Nat.reduceEqDiff, Option.map, decide_eq_true_eq, decide_eq_false_iff_not, Bool.not_eq_true, decide_true, decide_false, Bool.not_true, Bool.not_false, Bool.false_eq_true, not_true_eq_false, not_false_eq_true, eq_self, and_true, true_and] | refine And.intro (by omega) ?_))
  refine s_call (sub_spec t u a b c ha hb hna hnb) (by simp only [vm, ite_true, ite_false, reduceIte, Nat.reduceEqDiff, Option.map, decide_eq_true_eq, decide_eq_false_iff_not, Bool.not_eq_true, decide_true, decide_false, Bool.not_true, Bool.not_false, Bool.false_eq_true, not_true_eq_false, not_false_eq_true, eq_self, and_true, true_and, List.map]) ?_
  rintro v c1 hc1 h
  rw [if_neg (by omega)] at h
  rcases h with ⟨hb', t2, rfl, ht2⟩ | ⟨hb', rfl⟩
  · (repeat (first | refine v_reg ?_ | refine v_last ?_ | refine vwp_seq ?_ | refine vwp_block ?_ | refine vwp_skip ?_ | refine vwp_exit ?_ | refine vwp_ret ?_ | refine v_cond ?_ | simp only [vm, ite_true, ite_false, reduceIte, Nat.reduceEqDiff, Option.map, decide_eq_true_eq, decide_eq_false_iff_not, Bool.not_eq_true, decide_true, decide_false, Bool.not_true, Bool.not_false, Bool.false_eq_true, not_true_eq_false, not_false_eq_true, eq_self, and_true, true_and] | refine And.intro (by omega) ?_))
    exact ⟨t2, rfl, ht2.mono (by omega) (by omega)⟩
  · have := bl_mono (Nat.sub_le (val 18446744073709551616 a) (val 18446744073709551616 b))
    omega

theorem newton_spec (t : Tok) (A0 k c : Nat) (hA : 0 < A0) (hL : bl A0 ≤ 67108864) (hk : 2 ≤ k) (hk63 : k < 9223372036854775808) :
    VSpec Try.prog F.roots_newton c [nats t (digs 18446744073709551616 A0), iv k] (fun r c' => ∃ x, NatR c c' x r ∧ IsRoot A0 k x) := by
  refine spec_mk hm E.roots_newton B.roots_newton K.roots_newton Q.roots_newton (by rw [N.roots_newton]; simp) ?_
  unfold C.roots_newton R.roots_newton
  have hla := lim_digs two64 A0
  have va := val_digs two64 A0
  have hna : (digs 18446744073709551616 A0).length ≤ 1048576 := digs_len_bl (by omega)
  (repeat (first | refine v_reg ?_ | refine v_last ?_ | refine vwp_seq ?_ | refine vwp_block ?_ | refine vwp_skip ?_ | refine vwp_exit ?_ | refine vwp_ret ?_ | refine v_cond ?_ | simp only [vm, ite_true, ite_false, reduceIte, Nat.reduceEqDiff, Option.map, decide_eq_true_eq, decide_eq_false_iff_not, Bool.not_eq_true, decide_true, decide_false, Bool.not_true, Bool.not_false, Bool.false_eq_true, not_true_eq_false, not_false_eq_true, eq_self, and_true, true_and] | refine And.intro (by omega) ?_))
  refine s_call (length_spec t _ c hla (by omega)) (by simp only [vm, ite_true, ite_false, reduceIte, Nat.reduceEqDiff, Option.map, decide_eq_true_eq, decide_eq_false_iff_not, Bool.not_eq_true, decide_true, decide_false, Bool.not_true, Bool.not_false, Bool.false_eq_true, not_true_eq_false, not_false_eq_true, eq_self, and_true, true_and, List.map]) ?_
  rintro v c1 hc1 rfl
  rw [va]
  by_cases g1 : (bl A0 : Int) ≤ k
  · (repeat (first | refine v_reg ?_ | refine v_last ?_ | refine vwp_seq ?_ | refine vwp_block ?_ | refine vwp_skip ?_ | refine vwp_exit ?_ | refine vwp_ret ?_ | refine v_cond ?_ | simp only [vm, ite_true, ite_false, reduceIte, Nat.reduceEqDiff, Option.map, decide_eq_true_eq, decide_eq_false_iff_not, Bool.not_eq_true, decide_true, decide_false, Bool.not_true, Bool.not_false, Bool.false_eq_true, not_true_eq_false, not_false_eq_true, eq_self, and_true, true_and, g1] | refine And.intro (by omega) ?_))
    refine s_call (from_spec 1 c1 (by decide)) (by simp only [vm, ite_true, ite_false, reduceIte, Nat.reduceEqDiff, Option.map, decide_eq_true_eq, decide_eq_false_iff_not, Bool.not_eq_true, decide_true, decide_false, Bool.not_true, Bool.not_false, Bool.false_eq_true, not_true_eq_false, not_false_eq_true, eq_self, and_true, true_and, List.map]) ?_
    rintro v c2 hc2 ⟨t2, rfl, ht2⟩
    (repeat (first | refine v_reg ?_ | refine v_last ?_ | refine vwp_seq ?_ | refine vwp_block ?_ | refine vwp_skip ?_ | refine vwp_exit ?_ | refine vwp_ret ?_ | refine v_cond ?_ | simp only [vm, ite_true, ite_false, reduceIte, Nat.reduceEqDiff, Option.map, decide_eq_true_eq, decide_eq_false_iff_not, Bool.not_eq_true, decide_true, decide_false, Bool.not_true, Bool.not_false, Bool.false_eq_true, not_true_eq_false, not_false_eq_true, eq_self, and_true, true_and] | refine And.intro (by omega) ?_))
    refine ⟨1, ⟨t2, rfl, ht2.mono (by omega) (by omega)⟩, by rw [Nat.one_pow]; exact hA, ?_⟩
    exact Nat.lt_of_lt_of_le (lt_bl A0) (Nat.pow_le_pow_right (by decide) (by omega))
  have hbp := bl_pos hA
  have hAlow := le_of_bl hA
  have hAlt := lt_bl A0
  generalize hLd : bl A0 = L at *
  have hkL : k < L := by omega
  obtain ⟨r, hr⟩ := root_exists (A := A0) (k := k) (by omega)
  have hr2 : 2 ≤ r := by
    have h1 : 2 ^ k ≤ A0 := Nat.le_trans (Nat.pow_le_pow_right (by decide) (by omega)) hAlow
    have h2 : 2 ^ k < (r + 1) ^ k := Nat.lt_of_le_of_lt h1 hr.2
    have := lt_of_pow_lt h2
    omega
  obtain ⟨e, he⟩ : ∃ e, e = (L + k - 1) / k := ⟨_, rfl⟩
  have hstart := newton_start hAlt (by omega) he
  have hhalf := bl_half (L := L) hk
  rw [← he] at hhalf
  have hx0 : r < 2 ^ e := lt_of_pow_lt (Nat.lt_of_le_of_lt hr.1 hstart)
  have ei : ((L : Int) + k - 1) / k = (e : Int) := by
    rw [he, Int.natCast_ediv]
    congr 1
    omega
  (repeat (first | refine v_reg ?_ | refine v_last ?_ | refine vwp_seq ?_ | refine vwp_block ?_ | refine vwp_skip ?_ | refine vwp_exit ?_ | refine vwp_ret ?_ | refine v_cond ?_ | simp only [vm, ite_true, ite_false, reduceIte, Nat.reduceEqDiff, Option.map, decide_eq_true_eq, decide_eq_false_iff_not, Bool.not_eq_true, decide_true, decide_false, Bool.not_true, Bool.not_false, Bool.false_eq_true, not_true_eq_false, not_false_eq_true, eq_self, and_true, true_and, g1, ei] | refine And.intro (by omega) ?_))
  refine s_call (power_spec e c1 (by omega)) (by simp only [vm, ite_true, ite_false, reduceIte, Nat.reduceEqDiff, Option.map, decide_eq_true_eq, decide_eq_false_iff_not, Bool.not_eq_true, decide_true, decide_false, Bool.not_true, Bool.not_false, Bool.false_eq_true, not_true_eq_false, not_false_eq_true, eq_self, and_true, true_and, List.map]) ?_
  rintro v c2 hc2 ⟨t2, rfl, ht2⟩
  (repeat (first | refine v_reg ?_ | refine v_last ?_ | refine vwp_seq ?_ | refine vwp_block ?_ | refine vwp_skip ?_ | refine vwp_exit ?_ | refine vwp_ret ?_ | refine v_cond ?_ | simp only [vm, ite_true, ite_false, reduceIte, Nat.reduceEqDiff, Option.map, decide_eq_true_eq, decide_eq_false_iff_not, Bool.not_eq_true, decide_true, decide_false, Bool.not_true, Bool.not_false, Bool.false_eq_true, not_true_eq_false, not_false_eq_true, eq_self, and_true, true_and] | refine And.intro (by omega) ?_))
  obtain ⟨j, rfl⟩ : ∃ j, k = j + 1 := ⟨k - 1, by omega⟩
  have ej : (((j + 1 : Nat) : Int) - 1) = (j : Int) := by omega
  have hj26 : j < 2 ^ 26 := by
    have : (2 : Nat) ^ 26 = 67108864 := by decide
    omega
  refine vwp_loop (fun m S => ∃ x tx, m = x ∧ r ≤ x ∧ x ≤ 2 ^ e ∧ Tk c S.c tx ∧ S.ρ 0 = nats t (digs 18446744073709551616 A0) ∧ S.ρ 1 = iv ((j + 1 : Nat) : Int) ∧ S.ρ 6 = nats tx (digs 18446744073709551616 x) ∧ S.σ = noBlk ∧ c1 ≤ S.c) (2 ^ e) ?_ ?_
  · refine ⟨2 ^ e, t2, rfl, ?_⟩
    simp only [vm, ite_true, ite_false, reduceIte, Nat.reduceEqDiff, Option.map, decide_eq_true_eq, decide_eq_false_iff_not, Bool.not_eq_true, decide_true, decide_false, Bool.not_true, Bool.not_false, Bool.false_eq_true, not_true_eq_false, not_false_eq_true, eq_self, and_true, true_and]
    exact ⟨by omega, Nat.le_refl _, ht2.mono (by omega) (Nat.le_refl _), hc2⟩
  rintro m ⟨ρ2, σ, c3⟩ ⟨x, tx, hm', hrx, hxe, htx, h0, h1, h6, hσ, hc3⟩
  dsimp only at htx h0 h1 h6 hσ hc3
  subst hσ
  have hxl := lim_digs two64 x
  have vx := val_digs two64 x
  have hblx : bl x ≤ e + 1 := bl_le (Nat.lt_of_le_of_lt hxe (Nat.pow_lt_pow_right (by decide) (by omega)))
  have hnx : (digs 18446744073709551616 x).length ≤ 1048576 := digs_len_bl (by omega)
  have hqA : A0 / x ^ j ≤ A0 := Nat.div_le_self _ _
  have hqn : (digs 18446744073709551616 (A0 / x ^ j)).length ≤ 1048576 := Nat.le_trans (le_len two64 hqA) hna
  have hql := lim_digs two64 (A0 / x ^ j)
  have vq := val_digs two64 (A0 / x ^ j)
  refine vwp_block ?_
  refine v_cut2 (fun S => ∃ t9, S.ρ 0 = nats t (digs 18446744073709551616 A0) ∧ S.ρ 1 = iv ((j + 1 : Nat) : Int) ∧ S.ρ 6 = nats tx (digs 18446744073709551616 x) ∧ S.ρ 9 = nats t9 (digs 18446744073709551616 (A0 / x ^ j)) ∧ S.σ = noBlk ∧ c3 ≤ S.c) ?_ ?_
  · refine v_last ?_
    simp only [vm, ite_true, ite_false, reduceIte, Nat.reduceEqDiff, Option.map, decide_eq_true_eq, decide_eq_false_iff_not, Bool.not_eq_true, decide_true, decide_false, Bool.not_true, Bool.not_false, Bool.false_eq_true, not_true_eq_false, not_false_eq_true, eq_self, and_true, true_and, h6, h1, ej]
    refine ⟨by omega, ?_⟩
    refine s_call (pow_spec tx _ j c3 hxl (by omega) (by omega)) (by simp only [vm, ite_true, ite_false, reduceIte, Nat.reduceEqDiff, Option.map, decide_eq_true_eq, decide_eq_false_iff_not, Bool.not_eq_true, decide_true, decide_false, Bool.not_true, Bool.not_false, Bool.false_eq_true, not_true_eq_false, not_false_eq_true, eq_self, and_true, true_and, List.map, h6]) ?_
    rw [vx]
    rintro v c4 hc4 (⟨hb, t4, rfl, ht4⟩ | ⟨hb, rfl⟩)
    · have hpl := lim_digs two64 (x ^ j)
      have vp := val_digs two64 (x ^ j)
      have hpn : (digs 18446744073709551616 (x ^ j)).length ≤ 1048576 := digs_len_bl (by omega)
      have hp0 : 0 < x ^ j := Nat.pow_pos (by omega)
      (repeat (first | refine v_reg ?_ | refine v_last ?_ | refine vwp_seq ?_ | refine vwp_block ?_ | refine vwp_skip ?_ | refine vwp_exit ?_ | refine vwp_ret ?_ | refine v_cond ?_ | simp only [vm, ite_true, ite_false, reduceIte, Nat.reduceEqDiff, Option.map, decide_eq_true_eq, decide_eq_false_iff_not, Bool.not_eq_true, decide_true, decide_false, Bool.not_true, Bool.not_false, Bool.false_eq_true, not_true_eq_false, not_false_eq_true, eq_self, and_true, true_and, h0, h1, h6, ej] | refine And.intro (by omega) ?_))
      refine s_call (quo_spec t t4 _ _ c4 hla hpl (by omega) (by omega)) (by simp only [vm, ite_true, ite_false, reduceIte, Nat.reduceEqDiff, Option.map, decide_eq_true_eq, decide_eq_false_iff_not, Bool.not_eq_true, decide_true, decide_false, Bool.not_true, Bool.not_false, Bool.false_eq_true, not_true_eq_false, not_false_eq_true, eq_self, and_true, true_and, List.map, h0]) ?_
      rw [va, vp]
      rintro v c5 hc5 ⟨_, hq⟩
      rcases hq hp0 with ⟨_, t5, rfl, _⟩ | ⟨hbig, _⟩
      · (repeat (first | refine v_reg ?_ | refine v_last ?_ | refine vwp_seq ?_ | refine vwp_block ?_ | refine vwp_skip ?_ | refine vwp_exit ?_ | refine vwp_ret ?_ | refine v_cond ?_ | simp only [vm, ite_true, ite_false, reduceIte, Nat.reduceEqDiff, Option.map, decide_eq_true_eq, decide_eq_false_iff_not, Bool.not_eq_true, decide_true, decide_false, Bool.not_true, Bool.not_false, Bool.false_eq_true, not_true_eq_false, not_false_eq_true, eq_self, and_true, true_and, h0, h1, h6] | refine And.intro (by omega) ?_))
        exact ⟨t5, rfl, by omega⟩
      · have := bl_mono hqA
        omega
    · have hz : A0 / x ^ j = 0 := Nat.div_eq_of_lt (by
        have hp0 : 0 < x ^ j := Nat.pow_pos (by omega)
        rcases Nat.lt_or_ge A0 (x ^ j) with g | g
        · exact g
        · have := bl_mono g
          omega)
      rw [hz]
      (repeat (first | refine v_reg ?_ | refine v_last ?_ | refine vwp_seq ?_ | refine vwp_block ?_ | refine vwp_skip ?_ | refine vwp_exit ?_ | refine vwp_ret ?_ | refine v_cond ?_ | simp only [vm, ite_true, ite_false, reduceIte, Nat.reduceEqDiff, Option.map, decide_eq_true_eq, decide_eq_false_iff_not, Bool.not_eq_true, decide_true, decide_false, Bool.not_true, Bool.not_false, Bool.false_eq_true, not_true_eq_false, not_false_eq_true, eq_self, and_true, true_and, h0, h1, h6, ej] | refine And.intro (by omega) ?_))
      refine s_call (quo_spec t .nil _ [] c4 hla Lim.nil (by omega) (by simp)) (by simp only [vm, ite_true, ite_false, reduceIte, Nat.reduceEqDiff, Option.map, decide_eq_true_eq, decide_eq_false_iff_not, Bool.not_eq_true, decide_true, decide_false, Bool.not_true, Bool.not_false, Bool.false_eq_true, not_true_eq_false, not_false_eq_true, eq_self, and_true, true_and, List.map, h0]; rfl) ?_
      rintro v c5 hc5 ⟨hq, _⟩
      have := hq rfl
      subst this
      (repeat (first | refine v_reg ?_ | refine v_last ?_ | refine vwp_seq ?_ | refine vwp_block ?_ | refine vwp_skip ?_ | refine vwp_exit ?_ | refine vwp_ret ?_ | refine v_cond ?_ | simp only [vm, ite_true, ite_false, reduceIte, Nat.reduceEqDiff, Option.map, decide_eq_true_eq, decide_eq_false_iff_not, Bool.not_eq_true, decide_true, decide_false, Bool.not_true, Bool.not_false, Bool.false_eq_true, not_true_eq_false, not_false_eq_true, eq_self, and_true, true_and, h0, h1, h6] | refine And.intro (by omega) ?_))
      exact ⟨.nil, rfl, by omega⟩
  rintro ⟨ρ3, σ, c4⟩ ⟨t9, h0, h1, h6, h9, hσ, hc4⟩
  dsimp only at h0 h1 h6 h9 hσ hc4
  subst hσ
  have hx0 : 0 < x := by omega
  have hq2 : A0 / x ^ j < 2 ^ (L - 1) := by
    have h1 : 2 ≤ x ^ j := by
      have : x ^ 1 ≤ x ^ j := Nat.pow_le_pow_right hx0 (by omega)
      rw [Nat.pow_one] at this
      omega
    have h2 : A0 / x ^ j ≤ A0 / 2 := Nat.div_le_div_left h1 (by decide)
    have h3 : A0 / 2 < 2 ^ (L - 1) := by
      rw [Nat.div_lt_iff_lt_mul (by decide), ← Nat.pow_succ, show (L - 1).succ = L by omega]
      exact hAlt
    omega
  obtain ⟨em, hem1, hem2, hem3⟩ : ∃ em, em < 67108864 ∧ e + 26 ≤ em ∧ L - 1 ≤ em := by
    rcases Nat.le_total (e + 26) (L - 1) with h | h
    · exact ⟨L - 1, by omega, h, Nat.le_refl _⟩
    · exact ⟨e + 26, by omega, Nat.le_refl _, h⟩
  have hs1 : x * j < 2 ^ em := Nat.lt_of_lt_of_le (bl_prod hxe hj26) (Nat.pow_le_pow_right (by decide) hem2)
  have hs2 : A0 / x ^ j < 2 ^ em := Nat.lt_of_lt_of_le hq2 (Nat.pow_le_pow_right (by decide) hem3)
  have hs3 := bl_sum hs1 hs2
  have hb1 : bl (x * j) ≤ em := bl_le hs1
  have hb2 : bl (x * j + A0 / x ^ j) ≤ em + 1 := bl_le hs3
  have hb3 : bl ((x * j + A0 / x ^ j) / (j + 1)) ≤ em + 1 := Nat.le_trans (bl_mono (Nat.div_le_self _ _)) hb2
  have hge := newton_ge (j := j) hr.1 hx0
  have hstop := newton_stop (A := A0) (j := j) hx0
  have ejt : (j : Int).toNat = j := by omega
  have ekt : (((j + 1 : Nat) : Int)).toNat = j + 1 := by omega
  (repeat (first | refine v_reg ?_ | refine v_last ?_ | refine vwp_seq ?_ | refine vwp_block ?_ | refine vwp_skip ?_ | refine vwp_exit ?_ | refine vwp_ret ?_ | refine v_cond ?_ | simp only [vm, ite_true, ite_false, reduceIte, Nat.reduceEqDiff, Option.map, decide_eq_true_eq, decide_eq_false_iff_not, Bool.not_eq_true, decide_true, decide_false, Bool.not_true, Bool.not_false, Bool.false_eq_true, not_true_eq_false, not_false_eq_true, eq_self, and_true, true_and, h0, h1, h6, h9, ej, ejt] | refine And.intro (by omega) ?_))
  refine s_call (times_spec tx _ j c4 hxl (by omega) (by omega)) (by simp only [vm, ite_true, ite_false, reduceIte, Nat.reduceEqDiff, Option.map, decide_eq_true_eq, decide_eq_false_iff_not, Bool.not_eq_true, decide_true, decide_false, Bool.not_true, Bool.not_false, Bool.false_eq_true, not_true_eq_false, not_false_eq_true, eq_self, and_true, true_and, List.map, h6]) ?_
  rw [vx]
  rintro v c5 hc5 (⟨hb, t5, rfl, ht5⟩ | ⟨hb, rfl⟩)
  rotate_left
  · omega
  have hml := lim_digs two64 (x * j)
  have vmx := val_digs two64 (x * j)
  have hmn : (digs 18446744073709551616 (x * j)).length ≤ 1048576 := digs_len_bl (by omega)
  (repeat (first | refine v_reg ?_ | refine v_last ?_ | refine vwp_seq ?_ | refine vwp_block ?_ | refine vwp_skip ?_ | refine vwp_exit ?_ | refine vwp_ret ?_ | refine v_cond ?_ | simp only [vm, ite_true, ite_false, reduceIte, Nat.reduceEqDiff, Option.map, decide_eq_true_eq, decide_eq_false_iff_not, Bool.not_eq_true, decide_true, decide_false, Bool.not_true, Bool.not_false, Bool.false_eq_true, not_true_eq_false, not_false_eq_true, eq_self, and_true, true_and, h0, h1, h6, h9] | refine And.intro (by omega) ?_))
  refine s_call (add_spec t5 t9 _ _ c5 hml hql (by omega) (by omega)) (by simp only [vm, ite_true, ite_false, reduceIte, Nat.reduceEqDiff, Option.map, decide_eq_true_eq, decide_eq_false_iff_not, Bool.not_eq_true, decide_true, decide_false, Bool.not_true, Bool.not_false, Bool.false_eq_true, not_true_eq_false, not_false_eq_true, eq_self, and_true, true_and, List.map, h9]) ?_
  rw [vmx, vq]
  rintro v c6 hc6 (⟨hb, t6, rfl, ht6⟩ | ⟨hb, rfl⟩)
  rotate_left
  · omega
  have hsl := lim_digs two64 (x * j + A0 / x ^ j)
  have vs := val_digs two64 (x * j + A0 / x ^ j)
  have hsn : (digs 18446744073709551616 (x * j + A0 / x ^ j)).length ≤ 1048576 := digs_len_bl (by omega)
  (repeat (first | refine v_reg ?_ | refine v_last ?_ | refine vwp_seq ?_ | refine vwp_block ?_ | refine vwp_skip ?_ | refine vwp_exit ?_ | refine vwp_ret ?_ | refine v_cond ?_ | simp only [vm, ite_true, ite_false, reduceIte, Nat.reduceEqDiff, Option.map, decide_eq_true_eq, decide_eq_false_iff_not, Bool.not_eq_true, decide_true, decide_false, Bool.not_true, Bool.not_false, Bool.false_eq_true, not_true_eq_false, not_false_eq_true, eq_self, and_true, true_and, h0, h1, h6, h9, ekt] | refine And.intro (by omega) ?_))
  refine s_call (through_spec t6 _ (j + 1) c6 hsl (by omega) (by omega)) (by simp only [vm, ite_true, ite_false, reduceIte, Nat.reduceEqDiff, Option.map, decide_eq_true_eq, decide_eq_false_iff_not, Bool.not_eq_true, decide_true, decide_false, Bool.not_true, Bool.not_false, Bool.false_eq_true, not_true_eq_false, not_false_eq_true, eq_self, and_true, true_and, List.map, h1]) ?_
  rw [vs]
  rintro v c7 hc7 ⟨_, hth, _⟩
  obtain ⟨t7, rfl, ht7⟩ := hth (by omega) (by omega)
  obtain ⟨y, hy⟩ : ∃ y, y = (x * j + A0 / x ^ j) / (j + 1) := ⟨_, rfl⟩
  rw [← hy] at hge hstop hb3 ⊢
  have hyl := lim_digs two64 y
  have vy := val_digs two64 y
  have hyn : (digs 18446744073709551616 y).length ≤ 1048576 := digs_len_bl (by omega)
  (repeat (first | refine v_reg ?_ | refine v_last ?_ | refine vwp_seq ?_ | refine vwp_block ?_ | refine vwp_skip ?_ | refine vwp_exit ?_ | refine vwp_ret ?_ | refine v_cond ?_ | simp only [vm, ite_true, ite_false, reduceIte, Nat.reduceEqDiff, Option.map, decide_eq_true_eq, decide_eq_false_iff_not, Bool.not_eq_true, decide_true, decide_false, Bool.not_true, Bool.not_false, Bool.false_eq_true, not_true_eq_false, not_false_eq_true, eq_self, and_true, true_and, h0, h1, h6, h9] | refine And.intro (by omega) ?_))
  refine s_call (compare_spec t7 tx _ _ c7 hyl hxl (by omega) (by omega)) (by simp only [vm, ite_true, ite_false, reduceIte, Nat.reduceEqDiff, Option.map, decide_eq_true_eq, decide_eq_false_iff_not, Bool.not_eq_true, decide_true, decide_false, Bool.not_true, Bool.not_false, Bool.false_eq_true, not_true_eq_false, not_false_eq_true, eq_self, and_true, true_and, List.map, h6]) ?_
  rintro v c8 hc8 rfl
  rw [vy, vx]
  have hcmp : 0 ≤ cmpI y x ↔ x ≤ y := by unfold cmpI; split <;> (try split) <;> omega
  by_cases g : 0 ≤ cmpI y x
  · (repeat (first | refine v_reg ?_ | refine v_last ?_ | refine vwp_seq ?_ | refine vwp_block ?_ | refine vwp_skip ?_ | refine vwp_exit ?_ | refine vwp_ret ?_ | refine v_cond ?_ | simp only [vm, ite_true, ite_false, reduceIte, Nat.reduceEqDiff, Option.map, decide_eq_true_eq, decide_eq_false_iff_not, Bool.not_eq_true, decide_true, decide_false, Bool.not_true, Bool.not_false, Bool.false_eq_true, not_true_eq_false, not_false_eq_true, eq_self, and_true, true_and, h0, h1, h6, h9, g] | refine And.intro (by omega) ?_))
    rw [hcmp] at g
    refine ⟨x, ⟨tx, rfl, htx.mono (Nat.le_refl _) (by omega)⟩, hstop g, ?_⟩
    exact Nat.lt_of_lt_of_le hr.2 (Nat.pow_le_pow_left (by omega) _)
  · (repeat (first | refine v_reg ?_ | refine v_last ?_ | refine vwp_seq ?_ | refine vwp_block ?_ | refine vwp_skip ?_ | refine vwp_exit ?_ | refine vwp_ret ?_ | refine v_cond ?_ | simp only [vm, ite_true, ite_false, reduceIte, Nat.reduceEqDiff, Option.map, decide_eq_true_eq, decide_eq_false_iff_not, Bool.not_eq_true, decide_true, decide_false, Bool.not_true, Bool.not_false, Bool.false_eq_true, not_true_eq_false, not_false_eq_true, eq_self, and_true, true_and, h0, h1, h6, h9, g] | refine And.intro (by omega) ?_))
    rw [hcmp] at g
    refine ⟨y, by omega, y, t7, ?_⟩
    (repeat' apply And.intro) <;> first | rfl | omega | assumption | exact hge | exact ht7.mono (by omega) (by omega)

/-- the answers of 'Root': the root and what is left -/
def RootR (c c' A0 k : Nat) (r : V) : Prop := (bl A0 ≤ 67108864 ∧ ∃ x t1 t2, IsRoot A0 k x ∧ r = .tup [nats t1 (digs 18446744073709551616 x), nats t2 (digs 18446744073709551616 (A0 - x ^ k)), iv 0] ∧ Tk c c' t1 ∧ Tk c c' t2) ∨ (67108864 < bl A0 ∧ r = .tup [nil1, nil1, iv 3])

theorem root_spec (t : Tok) (a : List Nat) (k : Int) (c : Nat) (ha : Lim 18446744073709551616 a) (hna : a.length ≤ 1099511627776) (hk : k < 9223372036854775808) :
    VSpec Try.prog F.roots_Root c [nats t a, iv k] (fun r c' => (k < 1 → r = .tup [nil1, nil1, iv 40]) ∧ (1 ≤ k → RootR c c' (val 18446744073709551616 a) k.toNat r)) := by
  refine spec_mk hm E.roots_Root B.roots_Root K.roots_Root Q.roots_Root (by rw [N.roots_Root]; simp) ?_
  unfold C.roots_Root R.roots_Root
  by_cases g0 : k < 1
  · (repeat (first | refine v_reg ?_ | refine v_last ?_ | refine vwp_seq ?_ | refine vwp_block ?_ | refine vwp_skip ?_ | refine vwp_exit ?_ | refine vwp_ret ?_ | refine v_cond ?_ | simp only [vm, ite_true, ite_false, reduceIte, Nat.reduceEqDiff, Option.map, decide_eq_true_eq, decide_eq_false_iff_not, Bool.not_eq_true, decide_true, decide_false, Bool.not_true, Bool.not_false, Bool.false_eq_true, not_true_eq_false, not_false_eq_true, eq_self, and_true, true_and, g0] | refine And.intro (by omega) ?_))
    exact ⟨fun _ => trivial, fun h => absurd h (by omega)⟩
  obtain ⟨k, rfl⟩ : ∃ j : Nat, k = (j : Int) := ⟨k.toNat, by omega⟩
  have hk1 : 1 ≤ k := by omega
  have e1 : ((k : Int)).toNat = k := by omega
  rw [e1]
  suffices h : VWP Try.prog c C.roots_Root (retQ R.roots_Root fun r c' => c ≤ c' ∧ RootR c c' (val 18446744073709551616 a) k r) ⟨Go.VM.start [nats t a, iv (k : Int)], noBlk, c⟩ by
    refine vwp_mono h ?_
    intro e S h
    cases e with
    | exit j => unfold retQ at h; exact h.elim
    | normal => rw [retQ_normal] at h ⊢; obtain ⟨r, h1, h2, h3⟩ := h; exact ⟨r, h1, h2, fun h => absurd h (by omega), fun _ => h3⟩
    | ret => rw [retQ_ret] at h ⊢; obtain ⟨r, h1, h2, h3⟩ := h; exact ⟨r, h1, h2, fun h => absurd h (by omega), fun _ => h3⟩
  unfold C.roots_Root R.roots_Root
  (repeat (first | refine v_reg ?_ | refine v_last ?_ | refine vwp_seq ?_ | refine vwp_block ?_ | refine vwp_skip ?_ | refine vwp_exit ?_ | refine vwp_ret ?_ | refine v_cond ?_ | simp only [vm, ite_true, ite_false, reduceIte, Nat.reduceEqDiff, Option.map, decide_eq_true_eq, decide_eq_false_iff_not, Bool.not_eq_true, decide_true, decide_false, Bool.not_true, Bool.not_false, Bool.false_eq_true, not_true_eq_false, not_false_eq_true, eq_self, and_true, true_and, g0] | refine And.intro (by omega) ?_))
  refine s_call (fits_spec t a c ha hna) (by simp only [vm, ite_true, ite_false, reduceIte, Nat.reduceEqDiff, Option.map, decide_eq_true_eq, decide_eq_false_iff_not, Bool.not_eq_true, decide_true, decide_false, Bool.not_true, Bool.not_false, Bool.false_eq_true, not_true_eq_false, not_false_eq_true, eq_self, and_true, true_and, List.map]) ?_
  rintro v c1 hc1 (⟨hb, t1, rfl, ht1⟩ | ⟨hb, rfl⟩)
  rotate_left
  · have g3 : ¬ (3 : Int) = 0 := by omega
    (repeat (first | refine v_reg ?_ | refine v_last ?_ | refine vwp_seq ?_ | refine vwp_block ?_ | refine vwp_skip ?_ | refine vwp_exit ?_ | refine vwp_ret ?_ | refine v_cond ?_ | simp only [vm, ite_true, ite_false, reduceIte, Nat.reduceEqDiff, Option.map, decide_eq_true_eq, decide_eq_false_iff_not, Bool.not_eq_true, decide_true, decide_false, Bool.not_true, Bool.not_false, Bool.false_eq_true, not_true_eq_false, not_false_eq_true, eq_self, and_true, true_and, g3] | refine And.intro (by omega) ?_))
    exact .inr ⟨hb, rfl⟩
  obtain ⟨A0, hA0⟩ : ∃ A0, A0 = val 18446744073709551616 a := ⟨_, rfl⟩
  rw [← hA0] at hb ⊢
  have hla := lim_digs two64 A0
  have va := val_digs two64 A0
  have hnA : (digs 18446744073709551616 A0).length ≤ 1048576 := digs_len_bl (by omega)
  by_cases g1 : (k : Int) = 1
  · (repeat (first | refine v_reg ?_ | refine v_last ?_ | refine vwp_seq ?_ | refine vwp_block ?_ | refine vwp_skip ?_ | refine vwp_exit ?_ | refine vwp_ret ?_ | refine v_cond ?_ | simp only [vm, ite_true, ite_false, reduceIte, Nat.reduceEqDiff, Option.map, decide_eq_true_eq, decide_eq_false_iff_not, Bool.not_eq_true, decide_true, decide_false, Bool.not_true, Bool.not_false, Bool.false_eq_true, not_true_eq_false, not_false_eq_true, eq_self, and_true, true_and, g1] | refine And.intro (by omega) ?_))
    obtain rfl : k = 1 := by omega
    refine .inl ⟨hb, A0, t1, .nil, ⟨by rw [Nat.pow_one]; exact Nat.le_refl _, by rw [Nat.pow_one]; omega⟩, ?_, ht1.mono (by omega) (by omega), .inl rfl⟩
    rw [Nat.pow_one, Nat.sub_self]
    rfl
  (repeat (first | refine v_reg ?_ | refine v_last ?_ | refine vwp_seq ?_ | refine vwp_block ?_ | refine vwp_skip ?_ | refine vwp_exit ?_ | refine vwp_ret ?_ | refine v_cond ?_ | simp only [vm, ite_true, ite_false, reduceIte, Nat.reduceEqDiff, Option.map, decide_eq_true_eq, decide_eq_false_iff_not, Bool.not_eq_true, decide_true, decide_false, Bool.not_true, Bool.not_false, Bool.false_eq_true, not_true_eq_false, not_false_eq_true, eq_self, and_true, true_and, g1] | refine And.intro (by omega) ?_))
  refine s_call (length_spec t1 _ c1 hla (by omega)) (by simp only [vm, ite_true, ite_false, reduceIte, Nat.reduceEqDiff, Option.map, decide_eq_true_eq, decide_eq_false_iff_not, Bool.not_eq_true, decide_true, decide_false, Bool.not_true, Bool.not_false, Bool.false_eq_true, not_true_eq_false, not_false_eq_true, eq_self, and_true, true_and, List.map]) ?_
  rintro v c2 hc2 rfl
  rw [va]
  by_cases g2 : (bl A0 : Int) = 0
  · have hz : A0 = 0 := bl_eq_zero.1 (by omega)
    (repeat (first | refine v_reg ?_ | refine v_last ?_ | refine vwp_seq ?_ | refine vwp_block ?_ | refine vwp_skip ?_ | refine vwp_exit ?_ | refine vwp_ret ?_ | refine v_cond ?_ | simp only [vm, ite_true, ite_false, reduceIte, Nat.reduceEqDiff, Option.map, decide_eq_true_eq, decide_eq_false_iff_not, Bool.not_eq_true, decide_true, decide_false, Bool.not_true, Bool.not_false, Bool.false_eq_true, not_true_eq_false, not_false_eq_true, eq_self, and_true, true_and, g1, g2] | refine And.intro (by omega) ?_))
    refine .inl ⟨hb, 0, t1, .nil, ⟨by rw [Nat.zero_pow (by omega)]; exact Nat.zero_le _, by rw [hz, Nat.zero_add, Nat.one_pow]; decide⟩, ?_, ht1.mono (by omega) (by omega), .inl rfl⟩
    rw [hz, Nat.zero_sub]
    rfl
  have hpos : 0 < A0 := by
    rcases Nat.eq_zero_or_pos A0 with h | h
    · exact absurd (by rw [h]; rfl) g2
    · exact h
  (repeat (first | refine v_reg ?_ | refine v_last ?_ | refine vwp_seq ?_ | refine vwp_block ?_ | refine vwp_skip ?_ | refine vwp_exit ?_ | refine vwp_ret ?_ | refine v_cond ?_ | simp only [vm, ite_true, ite_false, reduceIte, Nat.reduceEqDiff, Option.map, decide_eq_true_eq, decide_eq_false_iff_not, Bool.not_eq_true, decide_true, decide_false, Bool.not_true, Bool.not_false, Bool.false_eq_true, not_true_eq_false, not_false_eq_true, eq_self, and_true, true_and, g1, g2] | refine And.intro (by omega) ?_))
  refine s_call (newton_spec t1 A0 k c2 hpos hb (by omega) (by omega)) (by simp only [vm, ite_true, ite_false, reduceIte, Nat.reduceEqDiff, Option.map, decide_eq_true_eq, decide_eq_false_iff_not, Bool.not_eq_true, decide_true, decide_false, Bool.not_true, Bool.not_false, Bool.false_eq_true, not_true_eq_false, not_false_eq_true, eq_self, and_true, true_and, List.map]) ?_
  rintro v c3 hc3 ⟨x, ⟨t3, rfl, ht3⟩, hx⟩
  have hxl := lim_digs two64 x
  have vx := val_digs two64 x
  have hxA : x ≤ A0 := by
    have h1 : x ^ 1 ≤ x ^ k ∨ x = 0 := by
      rcases Nat.eq_zero_or_pos x with h | h
      · exact .inr h
      · exact .inl (Nat.pow_le_pow_right h hk1)
    rw [Nat.pow_one] at h1
    have := hx.1
    omega
  have hnx : (digs 18446744073709551616 x).length ≤ 1048576 := Nat.le_trans (le_len two64 hxA) hnA
  (repeat (first | refine v_reg ?_ | refine v_last ?_ | refine vwp_seq ?_ | refine vwp_block ?_ | refine vwp_skip ?_ | refine vwp_exit ?_ | refine vwp_ret ?_ | refine v_cond ?_ | simp only [vm, ite_true, ite_false, reduceIte, Nat.reduceEqDiff, Option.map, decide_eq_true_eq, decide_eq_false_iff_not, Bool.not_eq_true, decide_true, decide_false, Bool.not_true, Bool.not_false, Bool.false_eq_true, not_true_eq_false, not_false_eq_true, eq_self, and_true, true_and, g1, g2] | refine And.intro (by omega) ?_))
  refine s_call (pow_spec t3 _ k c3 hxl (by omega) (by omega)) (by simp only [vm, ite_true, ite_false, reduceIte, Nat.reduceEqDiff, Option.map, decide_eq_true_eq, decide_eq_false_iff_not, Bool.not_eq_true, decide_true, decide_false, Bool.not_true, Bool.not_false, Bool.false_eq_true, not_true_eq_false, not_false_eq_true, eq_self, and_true, true_and, List.map]) ?_
  rw [vx]
  have hbp := bl_mono hx.1
  rintro v c4 hc4 (⟨hb4, t4, rfl, ht4⟩ | ⟨hb4, rfl⟩)
  rotate_left
  · omega
  have hpl := lim_digs two64 (x ^ k)
  have vp := val_digs two64 (x ^ k)
  have hnp : (digs 18446744073709551616 (x ^ k)).length ≤ 1048576 := digs_len_bl (by omega)
  (repeat (first | refine v_reg ?_ | refine v_last ?_ | refine vwp_seq ?_ | refine vwp_block ?_ | refine vwp_skip ?_ | refine vwp_exit ?_ | refine vwp_ret ?_ | refine v_cond ?_ | simp only [vm, ite_true, ite_false, reduceIte, Nat.reduceEqDiff, Option.map, decide_eq_true_eq, decide_eq_false_iff_not, Bool.not_eq_true, decide_true, decide_false, Bool.not_true, Bool.not_false, Bool.false_eq_true, not_true_eq_false, not_false_eq_true, eq_self, and_true, true_and, g1, g2] | refine And.intro (by omega) ?_))
  refine s_call (less_root t1 t4 _ _ c4 hla hpl (by omega) (by omega) (by rw [va, vp]; exact hx.1) (by rw [va]; exact hb)) (by simp only [vm, ite_true, ite_false, reduceIte, Nat.reduceEqDiff, Option.map, decide_eq_true_eq, decide_eq_false_iff_not, Bool.not_eq_true, decide_true, decide_false, Bool.not_true, Bool.not_false, Bool.false_eq_true, not_true_eq_false, not_false_eq_true, eq_self, and_true, true_and, List.map]) ?_
  rw [va, vp]
  rintro v c5 hc5 ⟨t5, rfl, ht5⟩
  (repeat (first | refine v_reg ?_ | refine v_last ?_ | refine vwp_seq ?_ | refine vwp_block ?_ | refine vwp_skip ?_ | refine vwp_exit ?_ | refine vwp_ret ?_ | refine v_cond ?_ | simp only [vm, ite_true, ite_false, reduceIte, Nat.reduceEqDiff, Option.map, decide_eq_true_eq, decide_eq_false_iff_not, Bool.not_eq_true, decide_true, decide_false, Bool.not_true, Bool.not_false, Bool.false_eq_true, not_true_eq_false, not_false_eq_true, eq_self, and_true, true_and] | refine And.intro (by omega) ?_))
  exact .inl ⟨hb, x, t3, t5, hx, rfl, ht3.mono (by omega) (by omega), ht5.mono (by omega) (by omega)⟩

theorem sqrt_spec (t : Tok) (a : List Nat) (c : Nat) (ha : Lim 18446744073709551616 a) (hna : a.length ≤ 1099511627776) :
    VSpec Try.prog F.roots_Sqrt c [nats t a] (fun r c' => RootR c c' (val 18446744073709551616 a) 2 r) := by
  refine spec_mk hm E.roots_Sqrt B.roots_Sqrt K.roots_Sqrt Q.roots_Sqrt (by rw [N.roots_Sqrt]; simp) ?_
  unfold C.roots_Sqrt R.roots_Sqrt
  (repeat (first | refine v_reg ?_ | refine v_last ?_ | refine vwp_seq ?_ | refine vwp_block ?_ | refine vwp_skip ?_ | refine vwp_exit ?_ | refine vwp_ret ?_ | refine v_cond ?_ | simp only [vm, ite_true, ite_false, reduceIte, Nat.reduceEqDiff, Option.map, decide_eq_true_eq, decide_eq_false_iff_not, Bool.not_eq_true, decide_true, decide_false, Bool.not_true, Bool.not_false, Bool.false_eq_true, not_true_eq_false, not_false_eq_true, eq_self, and_true, true_and] | refine And.intro (by omega) ?_))
  refine s_call (root_spec t a 2 c ha hna (by decide)) (by simp only [vm, ite_true, ite_false, reduceIte, Nat.reduceEqDiff, Option.map, decide_eq_true_eq, decide_eq_false_iff_not, Bool.not_eq_true, decide_true, decide_false, Bool.not_true, Bool.not_false, Bool.false_eq_true, not_true_eq_false, not_false_eq_true, eq_self, and_true, true_and, List.map]) ?_
  rintro v c1 hc1 ⟨_, h⟩
  rcases h (by decide) with ⟨hb, x, t1, t2, hx, rfl, ht1, ht2⟩ | ⟨hb, rfl⟩
  · (repeat (first | refine v_reg ?_ | refine v_last ?_ | refine vwp_seq ?_ | refine vwp_block ?_ | refine vwp_skip ?_ | refine vwp_exit ?_ | refine vwp_ret ?_ | refine v_cond ?_ | simp only [vm, ite_true, ite_false, reduceIte, Nat.reduceEqDiff, Option.map, decide_eq_true_eq, decide_eq_false_iff_not, Bool.not_eq_true, decide_true, decide_false, Bool.not_true, Bool.not_false, Bool.false_eq_true, not_true_eq_false, not_false_eq_true, eq_self, and_true, true_and] | refine And.intro (by omega) ?_))
    exact .inl ⟨hb, x, t1, t2, hx, rfl, ht1, ht2⟩
  · (repeat (first | refine v_reg ?_ | refine v_last ?_ | refine vwp_seq ?_ | refine vwp_block ?_ | refine vwp_skip ?_ | refine vwp_exit ?_ | refine vwp_ret ?_ | refine v_cond ?_ | simp only [vm, ite_true, ite_false, reduceIte, Nat.reduceEqDiff, Option.map, decide_eq_true_eq, decide_eq_false_iff_not, Bool.not_eq_true, decide_true, decide_false, Bool.not_true, Bool.not_false, Bool.false_eq_true, not_true_eq_false, not_false_eq_true, eq_self, and_true, true_and] | refine And.intro (by omega) ?_))
    exact .inr ⟨hb, rfl⟩
end Go.Proofs.Ytladcfeibpddeab
