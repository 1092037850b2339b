import Derived.Test.YtladcfeibpddeabS9
set_option linter.unusedSimpArgs false
set_option linter.unusedVariables false
set_option maxRecDepth 100000
set_option maxHeartbeats 4000000
namespace Go.Proofs.Ytladcfeibpddeab
open Go.VM

theorem sum_spec (t u : Tok) (a b : List Nat) (c : Nat) (ha : Lim 18446744073709551616 a) (hb : Lim 18446744073709551616 b) (hna : a.length ≤ 1099511627776) (hnb : b.length ≤ 1099511627776) :
    VSpec Try.prog F.mul_sum c [nats t a, nats u b] (fun r c' => ∃ l i, r = nats (.id i) l ∧ c ≤ i ∧ i < c' ∧ Lim 18446744073709551616 l ∧ l.length = max a.length b.length + 1 ∧ val 18446744073709551616 l = val 18446744073709551616 a + val 18446744073709551616 b) := by
  refine spec_mk hm E.mul_sum B.mul_sum K.mul_sum Q.mul_sum (by rw [N.mul_sum]; simp) ?_
  unfold C.mul_sum R.mul_sum
  have em : max (a.length : Int) (b.length : Int) = ((max a.length b.length : Nat) : Int) := by omega
  (repeat (first | refine v_reg ?_ | refine v_last ?_ | refine vwp_seq ?_ | refine vwp_block ?_ | refine vwp_skip ?_ | refine vwp_exit ?_ | refine vwp_ret ?_ | refine v_cond ?_ | simp only [vm, ite_true, ite_false, reduceIte, Nat.reduceEqDiff, Option.map, decide_eq_true_eq, decide_eq_false_iff_not, Bool.not_eq_true, decide_true, decide_false, Bool.not_true, Bool.not_false, Bool.false_eq_true, not_true_eq_false, not_false_eq_true, eq_self, and_true, true_and, em] | refine And.intro (by omega) ?_))
  refine s_mk (n := max a.length b.length + 1) (m := max a.length b.length + 1) (by simp only [vm, ite_true, ite_false, reduceIte, Nat.reduceEqDiff, Option.map, decide_eq_true_eq, decide_eq_false_iff_not, Bool.not_eq_true, decide_true, decide_false, Bool.not_true, Bool.not_false, Bool.false_eq_true, not_true_eq_false, not_false_eq_true, eq_self, and_true, true_and, em]; rfl) (by simp only [vm, ite_true, ite_false, reduceIte, Nat.reduceEqDiff, Option.map, decide_eq_true_eq, decide_eq_false_iff_not, Bool.not_eq_true, decide_true, decide_false, Bool.not_true, Bool.not_false, Bool.false_eq_true, not_true_eq_false, not_false_eq_true, eq_self, and_true, true_and, em]; rfl) (Nat.le_refl _) (by omega) ?_
  have h1 : a.length ≤ max a.length b.length := Nat.le_max_left _ _
  have h2 : b.length ≤ max a.length b.length := Nat.le_max_right _ _
  have h3 : max a.length b.length ≤ 1099511627776 := by omega
  generalize max a.length b.length = n at *
  (repeat (first | refine v_reg ?_ | refine v_last ?_ | refine vwp_seq ?_ | refine vwp_block ?_ | refine vwp_skip ?_ | refine vwp_exit ?_ | refine vwp_ret ?_ | refine v_cond ?_ | simp only [vm, ite_true, ite_false, reduceIte, Nat.reduceEqDiff, Option.map, decide_eq_true_eq, decide_eq_false_iff_not, Bool.not_eq_true, decide_true, decide_false, Bool.not_true, Bool.not_false, Bool.false_eq_true, not_true_eq_false, not_false_eq_true, eq_self, and_true, true_and] | refine And.intro (by omega) ?_))
  refine s_cpy (t := c) (n := n + 1) (cap := some (n + 1)) (l := List.replicate (n + 1) 0) (a := a) (u := t) (by simp only [vm, ite_true, ite_false, reduceIte, Nat.reduceEqDiff, Option.map, decide_eq_true_eq, decide_eq_false_iff_not, Bool.not_eq_true, decide_true, decide_false, Bool.not_true, Bool.not_false, Bool.false_eq_true, not_true_eq_false, not_false_eq_true, eq_self, and_true, true_and]) (by simp only [vm, ite_true, ite_false, reduceIte, Nat.reduceEqDiff, Option.map, decide_eq_true_eq, decide_eq_false_iff_not, Bool.not_eq_true, decide_true, decide_false, Bool.not_true, Bool.not_false, Bool.false_eq_true, not_true_eq_false, not_false_eq_true, eq_self, and_true, true_and]) (by simp only [vm, ite_true, ite_false, reduceIte, Nat.reduceEqDiff, Option.map, decide_eq_true_eq, decide_eq_false_iff_not, Bool.not_eq_true, decide_true, decide_false, Bool.not_true, Bool.not_false, Bool.false_eq_true, not_true_eq_false, not_false_eq_true, eq_self, and_true, true_and]) (by omega) (by simp) ?_
  have e0 : a ++ (List.replicate (n + 1) 0).drop a.length = a ++ List.replicate (n + 1 - a.length) 0 := by simp
  rw [e0]
  have hl0 : Lim 18446744073709551616 (a ++ List.replicate (n + 1 - a.length) 0) := ha.append (Lim.replicate (by decide))
  have hv0 : val 18446744073709551616 (a ++ List.replicate (n + 1 - a.length) 0) = val 18446744073709551616 a := by rw [val_append, val_replicate]; simp
  have hn0 : (a ++ List.replicate (n + 1 - a.length) 0).length = n + 1 := by simp; omega
  generalize a ++ List.replicate (n + 1 - a.length) 0 = l0 at *
  have hroom : val 18446744073709551616 l0 + 18446744073709551616 ^ 0 * val 18446744073709551616 b < 18446744073709551616 ^ (n + 1) := by
    rw [hv0, Nat.pow_zero, Nat.one_mul, Nat.pow_succ]
    have p1 := Nat.lt_of_lt_of_le (val_lt ha) (Nat.pow_le_pow_right (show 0 < 18446744073709551616 by decide) h1)
    have p2 := Nat.lt_of_lt_of_le (val_lt hb) (Nat.pow_le_pow_right (show 0 < 18446744073709551616 by decide) h2)
    generalize 18446744073709551616 ^ n = q at *
    omega
  (repeat (first | refine v_reg ?_ | refine v_last ?_ | refine vwp_seq ?_ | refine vwp_block ?_ | refine vwp_skip ?_ | refine vwp_exit ?_ | refine vwp_ret ?_ | refine v_cond ?_ | simp only [vm, ite_true, ite_false, reduceIte, Nat.reduceEqDiff, Option.map, decide_eq_true_eq, decide_eq_false_iff_not, Bool.not_eq_true, decide_true, decide_false, Bool.not_true, Bool.not_false, Bool.false_eq_true, not_true_eq_false, not_false_eq_true, eq_self, and_true, true_and] | refine And.intro (by omega) ?_))
  refine s_call1 c (l := l0) (by simp only [vm, ite_true, ite_false, reduceIte, Nat.reduceEqDiff, Option.map, decide_eq_true_eq, decide_eq_false_iff_not, Bool.not_eq_true, decide_true, decide_false, Bool.not_true, Bool.not_false, Bool.false_eq_true, not_true_eq_false, not_false_eq_true, eq_self, and_true, true_and]) (fun s hs => by simp only [vm, ite_true, ite_false, reduceIte, Nat.reduceEqDiff, Option.map, decide_eq_true_eq, decide_eq_false_iff_not, Bool.not_eq_true, decide_true, decide_false, Bool.not_true, Bool.not_false, Bool.false_eq_true, not_true_eq_false, not_false_eq_true, eq_self, and_true, true_and]; rw [if_neg (by omega)]; rfl) (addAt_spec c u l0 b 0 (n + 1) (c + 1) (some (n + 1)) hl0 hb hn0 (by omega) (by omega) (by omega) hroom) (by simp only [vm, ite_true, ite_false, reduceIte, Nat.reduceEqDiff, Option.map, decide_eq_true_eq, decide_eq_false_iff_not, Bool.not_eq_true, decide_true, decide_false, Bool.not_true, Bool.not_false, Bool.false_eq_true, not_true_eq_false, not_false_eq_true, eq_self, and_true, true_and, List.map]; rfl) ?_
  rintro v σ' c2 hc2 ⟨rfl, l', hσ', hn', hlim, hval⟩
  rw [hσ']
  rw [Nat.pow_zero, Nat.one_mul, hv0] at hval
  simp only [vm, ite_true, ite_false, reduceIte, Nat.reduceEqDiff, Option.map, decide_eq_true_eq, decide_eq_false_iff_not, Bool.not_eq_true, decide_true, decide_false, Bool.not_true, Bool.not_false, Bool.false_eq_true, not_true_eq_false, not_false_eq_true, eq_self, and_true, true_and]
  refine v_freeze 5 (t := c) (off := 0) (n := n + 1) (cap := some (n + 1)) (l := l') (by simp only [vm, ite_true, ite_false, reduceIte, Nat.reduceEqDiff, Option.map, decide_eq_true_eq, decide_eq_false_iff_not, Bool.not_eq_true, decide_true, decide_false, Bool.not_true, Bool.not_false, Bool.false_eq_true, not_true_eq_false, not_false_eq_true, eq_self, and_true, true_and]) (by simp only [vm, ite_true, ite_false, reduceIte, Nat.reduceEqDiff, Option.map, decide_eq_true_eq, decide_eq_false_iff_not, Bool.not_eq_true, decide_true, decide_false, Bool.not_true, Bool.not_false, Bool.false_eq_true, not_true_eq_false, not_false_eq_true, eq_self, and_true, true_and]) (by omega) (by omega) ?_
  rw [List.drop_zero, show l'.take (n + 1) = l' from List.take_of_length_le (by omega)]
  (repeat (first | refine v_reg ?_ | refine v_last ?_ | refine vwp_seq ?_ | refine vwp_block ?_ | refine vwp_skip ?_ | refine vwp_exit ?_ | refine vwp_ret ?_ | refine v_cond ?_ | simp only [vm, ite_true, ite_false, reduceIte, Nat.reduceEqDiff, Option.map, decide_eq_true_eq, decide_eq_false_iff_not, Bool.not_eq_true, decide_true, decide_false, Bool.not_true, Bool.not_false, Bool.false_eq_true, not_true_eq_false, not_false_eq_true, eq_self, and_true, true_and] | refine And.intro (by omega) ?_))
  exact ⟨l', c, rfl, by omega, by omega, hlim, hn', hval⟩

theorem less_spec (t u : Tok) (a b : List Nat) (c : Nat) (ha : Lim 18446744073709551616 a) (hb : Lim 18446744073709551616 b) (hna : a.length ≤ 1099511627776) (hnb : b.length ≤ 1099511627776) (hle : val 18446744073709551616 b ≤ val 18446744073709551616 a) :
    VSpec Try.prog F.mul_less c [nats t a, nats u b] (fun r c' => ∃ l i, r = nats (.id i) l ∧ c ≤ i ∧ i < c' ∧ Lim 18446744073709551616 l ∧ l.length = a.length ∧ val 18446744073709551616 l = val 18446744073709551616 a - val 18446744073709551616 b) := by
  refine spec_mk hm E.mul_less B.mul_less K.mul_less Q.mul_less (by rw [N.mul_less]; simp) ?_
  unfold C.mul_less R.mul_less
  (repeat (first | refine v_reg ?_ | refine v_last ?_ | refine vwp_seq ?_ | refine vwp_block ?_ | refine vwp_skip ?_ | refine vwp_exit ?_ | refine vwp_ret ?_ | refine v_cond ?_ | simp only [vm, ite_true, ite_false, reduceIte, Nat.reduceEqDiff, Option.map, decide_eq_true_eq, decide_eq_false_iff_not, Bool.not_eq_true, decide_true, decide_false, Bool.not_true, Bool.not_false, Bool.false_eq_true, not_true_eq_false, not_false_eq_true, eq_self, and_true, true_and] | refine And.intro (by omega) ?_))
  refine s_mk (n := a.length) (m := a.length) (by simp only [vm, ite_true, ite_false, reduceIte, Nat.reduceEqDiff, Option.map, decide_eq_true_eq, decide_eq_false_iff_not, Bool.not_eq_true, decide_true, decide_false, Bool.not_true, Bool.not_false, Bool.false_eq_true, not_true_eq_false, not_false_eq_true, eq_self, and_true, true_and]) (by simp only [vm, ite_true, ite_false, reduceIte, Nat.reduceEqDiff, Option.map, decide_eq_true_eq, decide_eq_false_iff_not, Bool.not_eq_true, decide_true, decide_false, Bool.not_true, Bool.not_false, Bool.false_eq_true, not_true_eq_false, not_false_eq_true, eq_self, and_true, true_and]) (Nat.le_refl _) (by omega) ?_
  (repeat (first | refine v_reg ?_ | refine v_last ?_ | refine vwp_seq ?_ | refine vwp_block ?_ | refine vwp_skip ?_ | refine vwp_exit ?_ | refine vwp_ret ?_ | refine v_cond ?_ | simp only [vm, ite_true, ite_false, reduceIte, Nat.reduceEqDiff, Option.map, decide_eq_true_eq, decide_eq_false_iff_not, Bool.not_eq_true, decide_true, decide_false, Bool.not_true, Bool.not_false, Bool.false_eq_true, not_true_eq_false, not_false_eq_true, eq_self, and_true, true_and] | refine And.intro (by omega) ?_))
  refine s_cpy (t := c) (n := a.length) (cap := some a.length) (l := List.replicate a.length 0) (a := a) (u := t) (by simp only [vm, ite_true, ite_false, reduceIte, Nat.reduceEqDiff, Option.map, decide_eq_true_eq, decide_eq_false_iff_not, Bool.not_eq_true, decide_true, decide_false, Bool.not_true, Bool.not_false, Bool.false_eq_true, not_true_eq_false, not_false_eq_true, eq_self, and_true, true_and]) (by simp only [vm, ite_true, ite_false, reduceIte, Nat.reduceEqDiff, Option.map, decide_eq_true_eq, decide_eq_false_iff_not, Bool.not_eq_true, decide_true, decide_false, Bool.not_true, Bool.not_false, Bool.false_eq_true, not_true_eq_false, not_false_eq_true, eq_self, and_true, true_and]) (by simp only [vm, ite_true, ite_false, reduceIte, Nat.reduceEqDiff, Option.map, decide_eq_true_eq, decide_eq_false_iff_not, Bool.not_eq_true, decide_true, decide_false, Bool.not_true, Bool.not_false, Bool.false_eq_true, not_true_eq_false, not_false_eq_true, eq_self, and_true, true_and]) (by omega) (by simp) ?_
  have e0 : a ++ (List.replicate a.length 0).drop a.length = a := by simp
  rw [e0]
  (repeat (first | refine v_reg ?_ | refine v_last ?_ | refine vwp_seq ?_ | refine vwp_block ?_ | refine vwp_skip ?_ | refine vwp_exit ?_ | refine vwp_ret ?_ | refine v_cond ?_ | simp only [vm, ite_true, ite_false, reduceIte, Nat.reduceEqDiff, Option.map, decide_eq_true_eq, decide_eq_false_iff_not, Bool.not_eq_true, decide_true, decide_false, Bool.not_true, Bool.not_false, Bool.false_eq_true, not_true_eq_false, not_false_eq_true, eq_self, and_true, true_and] | refine And.intro (by omega) ?_))
  refine v_loop (fun S => ∃ w, w.length = a.length ∧ Lim 18446744073709551616 w ∧ val 18446744073709551616 w = val 18446744073709551616 a - val 18446744073709551616 b ∧ S.ρ 5 = .buf c 0 a.length (some a.length) 1 ∧ S.σ = supd noBlk c (nblk w) ∧ S.c = c + 1) ?_ ?_
  · refine vwp_loop (fun k S => ∃ i w bo, k = a.length - i ∧ i ≤ a.length ∧ w.length = i ∧ Lim 18446744073709551616 w ∧ bo ≤ 1 ∧ val 18446744073709551616 w + val 18446744073709551616 (b.take i) = val 18446744073709551616 (a.take i) + 18446744073709551616 ^ i * bo ∧ S.ρ 1 = nats u b ∧ S.ρ 5 = .buf c 0 a.length (some a.length) 1 ∧ S.ρ 6 = nv bo ∧ S.ρ 16 = iv a.length ∧ S.ρ 17 = iv i ∧ S.σ = supd noBlk c (nblk (w ++ a.drop i)) ∧ S.c = c + 1) a.length ?_ ?_
    · refine ⟨0, [], 0, by omega, by omega, ?_⟩
      simp only [vm, ite_true, ite_false, reduceIte, Nat.reduceEqDiff, Option.map, decide_eq_true_eq, decide_eq_false_iff_not, Bool.not_eq_true, decide_true, decide_false, Bool.not_true, Bool.not_false, Bool.false_eq_true, not_true_eq_false, not_false_eq_true, eq_self, and_true, true_and]
      (repeat' apply And.intro) <;> first | rfl | omega | assumption | exact Lim.nil
    rintro k ⟨ρ2, σ, c4⟩ ⟨i, w, bo, hk, hi, hw, hlw, hbo, hinv, h1, h5, h6, h16, h17, hσ, hc4⟩
    dsimp only at h1 h5 h6 h16 h17 hσ hc4
    subst hσ hc4
    by_cases g : (i : Int) < a.length
    · have hi' : i < a.length := by omega
      have hxi := ha.getD (i := i) (by decide)
      have hyi := hb.getD (i := i) (by decide)
      have hx' := val_take' 18446744073709551616 a i
      have hy' := val_take' 18446744073709551616 b i
      have hlen : (w ++ a.drop i).length = a.length := by simp; omega
      have hget : (w ++ a.drop i).getD i 0 = a.getD i 0 := by
        rw [drop_cons hi', ← hw]; exact getD_at _ _ _
      have hset : ∀ v, (w ++ a.drop i).set i v = (w ++ [v]) ++ a.drop (i + 1) := fun v => by
        rw [drop_cons hi']
        conv => lhs; rw [← hw]
        rw [set_at, hw]; simp
      have key := sub_step (b := 18446744073709551616) (c' := if a.getD i 0 < b.getD i 0 + bo then 1 else 0) (x := a.getD i 0) (y := b.getD i 0) (d := (a.getD i 0 + 18446744073709551616 - b.getD i 0 - bo) % 18446744073709551616) hw hinv (by split <;> omega)
      have hb1 : (if a.getD i 0 < b.getD i 0 + bo then 1 else 0) ≤ 1 := by split <;> omega
      rw [← hx', ← hy'] at key
      by_cases g2 : (i : Int) < b.length
      · (repeat (first | refine v_reg ?_ | refine v_last ?_ | refine vwp_seq ?_ | refine vwp_block ?_ | refine vwp_skip ?_ | refine vwp_exit ?_ | refine vwp_ret ?_ | refine v_cond ?_ | simp only [vm, ite_true, ite_false, reduceIte, Nat.reduceEqDiff, Option.map, decide_eq_true_eq, decide_eq_false_iff_not, Bool.not_eq_true, decide_true, decide_false, Bool.not_true, Bool.not_false, Bool.false_eq_true, not_true_eq_false, not_false_eq_true, eq_self, and_true, true_and, h1, h5, h6, h16, h17, g, g2, hlen, hget, hset] | refine And.intro (by omega) ?_))
        refine ⟨a.length - (i + 1), by omega, i + 1, w ++ [(a.getD i 0 + 18446744073709551616 - b.getD i 0 - bo) % 18446744073709551616], if a.getD i 0 < b.getD i 0 + bo then 1 else 0, ?_⟩
        (repeat' apply And.intro) <;> first | rfl | omega | assumption | (simp [hw]; done) | exact lim_snoc hlw (Nat.mod_lt _ (by decide)) | exact key
      · have hy0 : b.getD i 0 = 0 := getD_ge (by omega)
        rw [hy0] at key hb1
        (repeat (first | refine v_reg ?_ | refine v_last ?_ | refine vwp_seq ?_ | refine vwp_block ?_ | refine vwp_skip ?_ | refine vwp_exit ?_ | refine vwp_ret ?_ | refine v_cond ?_ | simp only [vm, ite_true, ite_false, reduceIte, Nat.reduceEqDiff, Option.map, decide_eq_true_eq, decide_eq_false_iff_not, Bool.not_eq_true, decide_true, decide_false, Bool.not_true, Bool.not_false, Bool.false_eq_true, not_true_eq_false, not_false_eq_true, eq_self, and_true, true_and, h1, h5, h6, h16, h17, g, g2, hlen, hget, hset] | refine And.intro (by omega) ?_))
        refine ⟨a.length - (i + 1), by omega, i + 1, w ++ [(a.getD i 0 + 18446744073709551616 - 0 - bo) % 18446744073709551616], if a.getD i 0 < 0 + bo then 1 else 0, ?_⟩
        simp only [Nat.zero_add] at key hb1 ⊢
        (repeat' apply And.intro) <;> first | rfl | omega | assumption | (simp [hw]; done) | exact lim_snoc hlw (Nat.mod_lt _ (by decide)) | exact key
    · have hi' : i = a.length := by omega
      subst hi'
      (repeat (first | refine v_reg ?_ | refine v_last ?_ | refine vwp_seq ?_ | refine vwp_block ?_ | refine vwp_skip ?_ | refine vwp_exit ?_ | refine vwp_ret ?_ | refine v_cond ?_ | simp only [vm, ite_true, ite_false, reduceIte, Nat.reduceEqDiff, Option.map, decide_eq_true_eq, decide_eq_false_iff_not, Bool.not_eq_true, decide_true, decide_false, Bool.not_true, Bool.not_false, Bool.false_eq_true, not_true_eq_false, not_false_eq_true, eq_self, and_true, true_and, h1, h5, h6, h16, h17, g] | refine And.intro (by omega) ?_))
      have hwl := val_lt hlw
      rw [hw] at hwl
      have hbt : val 18446744073709551616 (b.take a.length) = val 18446744073709551616 b := by
        by_cases gl : a.length ≤ b.length
        · have p := val_take_drop 18446744073709551616 a.length b gl
          have p2 := val_lt ha
          have p3 : val 18446744073709551616 (b.drop a.length) = 0 := by
            rcases Nat.eq_zero_or_pos (val 18446744073709551616 (b.drop a.length)) with e | e
            · exact e
            · have := Nat.mul_le_mul_left (18446744073709551616 ^ a.length) e
              omega
          rw [p3] at p
          omega
        · rw [List.take_of_length_le (by omega)]
      rw [List.take_length, hbt] at hinv
      have hvz : val 18446744073709551616 w = val 18446744073709551616 a - val 18446744073709551616 b := by
        have hbb : bo = 0 ∨ bo = 1 := by omega
        rcases hbb with rfl | rfl <;> omega
      refine ⟨w, hw, hlw, hvz, ?_⟩
      rw [List.drop_length, List.append_nil]
  rintro ⟨ρ3, σ, c5⟩ ⟨w, hw, hlw, hvw, h5, hσ, hc5⟩
  dsimp only at h5 hσ hc5
  subst hσ hc5
  refine v_freeze 5 (t := c) (off := 0) (n := a.length) (cap := some a.length) (l := w) (by simp only [vm, ite_true, ite_false, reduceIte, Nat.reduceEqDiff, Option.map, decide_eq_true_eq, decide_eq_false_iff_not, Bool.not_eq_true, decide_true, decide_false, Bool.not_true, Bool.not_false, Bool.false_eq_true, not_true_eq_false, not_false_eq_true, eq_self, and_true, true_and, h5]) (by simp only [vm, ite_true, ite_false, reduceIte, Nat.reduceEqDiff, Option.map, decide_eq_true_eq, decide_eq_false_iff_not, Bool.not_eq_true, decide_true, decide_false, Bool.not_true, Bool.not_false, Bool.false_eq_true, not_true_eq_false, not_false_eq_true, eq_self, and_true, true_and]) (by omega) (by omega) ?_
  rw [List.drop_zero, show w.take a.length = w from List.take_of_length_le (by omega)]
  (repeat (first | refine v_reg ?_ | refine v_last ?_ | refine vwp_seq ?_ | refine vwp_block ?_ | refine vwp_skip ?_ | refine vwp_exit ?_ | refine vwp_ret ?_ | refine v_cond ?_ | simp only [vm, ite_true, ite_false, reduceIte, Nat.reduceEqDiff, Option.map, decide_eq_true_eq, decide_eq_false_iff_not, Bool.not_eq_true, decide_true, decide_false, Bool.not_true, Bool.not_false, Bool.false_eq_true, not_true_eq_false, not_false_eq_true, eq_self, and_true, true_and] | refine And.intro (by omega) ?_))
  exact ⟨w, c, rfl, by omega, by omega, hlw, hw, hvw⟩
end Go.Proofs.Ytladcfeibpddeab
