import Derived.Test.YtladcfeibpddeabS18
set_option linter.unusedSimpArgs false
set_option linter.unusedVariables false
set_option maxRecDepth 100000
set_option maxHeartbeats 8000000
namespace Go.Proofs.Ytladcfeibpddeab
open Go.VM

/-- whose memory an argument lies in is told, or it is the call's own -/
def Kn (c : Nat) (t : Tok) : Prop := t = .nil ∨ ∃ i, (t = .id i ∨ t = .sub i) ∧ i < c
theorem Kn.thaw {c t : Nat} {tk : Tok} (h : Kn c tk) (hc : c ≤ t) (l : List Nat) : V.thaw t (nats tk l) = nats tk l := by
  rcases h with rfl | ⟨i, rfl | rfl, hi⟩
  · exact thaw_nil t l
  · exact thaw_id (by omega) l
  · exact thaw_sub (by omega) l
theorem Kn.mono {c d : Nat} {t : Tok} (h : Kn c t) (hc : c ≤ d) : Kn d t := by
  rcases h with rfl | ⟨i, h, hi⟩
  · exact .inl rfl
  · exact .inr ⟨i, h, by omega⟩
theorem Tk.kn {c c' : Nat} {t : Tok} (h : Tk c c' t) : Kn c' t := by
  rcases h with rfl | ⟨i, rfl, _, hi⟩
  · exact .inl rfl
  · exact .inr ⟨i, .inl rfl, hi⟩

theorem divide_spec (t u : Tok) (x y c : Nat) (ht : Kn c t) (hy : 0 < y) (hnx : (digs 18446744073709551616 x).length ≤ 1099511627776) (hny : (digs 18446744073709551616 y).length ≤ 1099511627776) :
    VSpec Try.prog F.div_divide c [nats t (digs 18446744073709551616 x), nats u (digs 18446744073709551616 y)] (fun r c' => ∃ t1 t2, r = .tup [nats t1 (digs 18446744073709551616 (x / y)), nats t2 (digs 18446744073709551616 (x % y))] ∧ Tk c c' t1 ∧ (Tk c c' t2 ∨ t2 = t)) := by
  refine spec_mk hm E.div_divide B.div_divide K.div_divide Q.div_divide (by rw [N.div_divide]; simp) ?_
  unfold C.div_divide R.div_divide
  have hla := lim_digs two64 x
  have hlb := lim_digs two64 y
  have va := val_digs two64 x
  have vb := val_digs two64 y
  (repeat (first | refine v_reg ?_ | refine v_last ?_ | refine vwp_seq ?_ | refine vwp_block ?_ | refine vwp_skip ?_ | refine vwp_exit ?_ | refine vwp_ret ?_ | refine v_cond ?_ | simp only [vm, ite_true, ite_false, reduceIte, Nat.reduceEqDiff, Option.map, decide_eq_true_eq, decide_eq_false_iff_not, Bool.not_eq_true, decide_true, decide_false, Bool.not_true, Bool.not_false, Bool.false_eq_true, not_true_eq_false, not_false_eq_true, eq_self, and_true, true_and] | refine And.intro (by omega) ?_))
  refine s_call (compare_spec t u _ _ c hla hlb (by omega) (by omega)) (by simp only [vm, ite_true, ite_false, reduceIte, Nat.reduceEqDiff, Option.map, decide_eq_true_eq, decide_eq_false_iff_not, Bool.not_eq_true, decide_true, decide_false, Bool.not_true, Bool.not_false, Bool.false_eq_true, not_true_eq_false, not_false_eq_true, eq_self, and_true, true_and, List.map]) ?_
  rintro v c1 hc1 rfl
  rw [va, vb]
  have hcmp : cmpI x y < 0 ↔ x < y := by unfold cmpI; split <;> (try split) <;> omega
  by_cases gc : cmpI x y < 0
  · (repeat (first | refine v_reg ?_ | refine v_last ?_ | refine vwp_seq ?_ | refine vwp_block ?_ | refine vwp_skip ?_ | refine vwp_exit ?_ | refine vwp_ret ?_ | refine v_cond ?_ | simp only [vm, ite_true, ite_false, reduceIte, Nat.reduceEqDiff, Option.map, decide_eq_true_eq, decide_eq_false_iff_not, Bool.not_eq_true, decide_true, decide_false, Bool.not_true, Bool.not_false, Bool.false_eq_true, not_true_eq_false, not_false_eq_true, eq_self, and_true, true_and, gc] | refine And.intro (by omega) ?_))
    rw [hcmp] at gc
    rw [Nat.div_eq_of_lt gc, Nat.mod_eq_of_lt gc]
    exact ⟨.nil, t, rfl, .inl rfl, .inr rfl⟩
  have hxy : y ≤ x := by rw [hcmp] at gc; omega
  have hlen : (digs 18446744073709551616 y).length ≤ (digs 18446744073709551616 x).length := le_len two64 hxy
  have hy1 : 0 < (digs 18446744073709551616 y).length := by
    rcases Nat.eq_zero_or_pos (digs 18446744073709551616 y).length with h | h
    · have := (digs_eq_nil two64).1 (List.eq_nil_of_length_eq_zero h); omega
    · exact h
  by_cases g1 : ((digs 18446744073709551616 y).length : Int) = 1
  · have g1' : (digs 18446744073709551616 y).length = 0 + 1 := by omega
    obtain ⟨q1, q2⟩ := digs_top two64 g1'
    rw [List.take_zero, val, Nat.pow_zero, Nat.one_mul, Nat.zero_add] at q2
    have hyl := hlb.getD (i := 0) (by decide)
    rw [← q2] at hyl
    generalize digs 18446744073709551616 x = xs at *
    generalize digs 18446744073709551616 y = ys at *
    have g1n : (ys.length : Int) = 1 := g1
    (repeat (first | refine v_reg ?_ | refine v_last ?_ | refine vwp_seq ?_ | refine vwp_block ?_ | refine vwp_skip ?_ | refine vwp_exit ?_ | refine vwp_ret ?_ | refine v_cond ?_ | simp only [vm, ite_true, ite_false, reduceIte, Nat.reduceEqDiff, Option.map, decide_eq_true_eq, decide_eq_false_iff_not, Bool.not_eq_true, decide_true, decide_false, Bool.not_true, Bool.not_false, Bool.false_eq_true, not_true_eq_false, not_false_eq_true, eq_self, and_true, true_and, gc, g1] | refine And.intro (by omega) ?_))
    refine s_mk (n := xs.length) (m := xs.length) (by simp only [vm, ite_true, ite_false, reduceIte, Nat.reduceEqDiff, Option.map, decide_eq_true_eq, decide_eq_false_iff_not, Bool.not_eq_true, decide_true, decide_false, Bool.not_true, Bool.not_false, Bool.false_eq_true, not_true_eq_false, not_false_eq_true, eq_self, and_true, true_and]) (by simp only [vm, ite_true, ite_false, reduceIte, Nat.reduceEqDiff, Option.map, decide_eq_true_eq, decide_eq_false_iff_not, Bool.not_eq_true, decide_true, decide_false, Bool.not_true, Bool.not_false, Bool.false_eq_true, not_true_eq_false, not_false_eq_true, eq_self, and_true, true_and]) (Nat.le_refl _) (by omega) ?_
    (repeat (first | refine v_reg ?_ | refine v_last ?_ | refine vwp_seq ?_ | refine vwp_block ?_ | refine vwp_skip ?_ | refine vwp_exit ?_ | refine vwp_ret ?_ | refine v_cond ?_ | simp only [vm, ite_true, ite_false, reduceIte, Nat.reduceEqDiff, Option.map, decide_eq_true_eq, decide_eq_false_iff_not, Bool.not_eq_true, decide_true, decide_false, Bool.not_true, Bool.not_false, Bool.false_eq_true, not_true_eq_false, not_false_eq_true, eq_self, and_true, true_and] | refine And.intro (by omega) ?_))
    refine v_loop (fun S => ∃ w, w.length = xs.length ∧ Lim 18446744073709551616 w ∧ val 18446744073709551616 w = x / y ∧ S.ρ 6 = .buf c1 0 xs.length (some xs.length) 1 ∧ S.ρ 7 = nv (x % y) ∧ S.σ = supd noBlk c1 (nblk w) ∧ c1 + 1 ≤ S.c) ?_ ?_
    · refine vwp_loop (fun k S => ∃ w rest, k ≤ xs.length ∧ w.length = xs.length - k ∧ Lim 18446744073709551616 w ∧ val 18446744073709551616 w * y + rest = val 18446744073709551616 (xs.drop k) ∧ rest < y ∧ S.ρ 0 = nats t xs ∧ S.ρ 1 = nats u ys ∧ S.ρ 6 = .buf c1 0 xs.length (some xs.length) 1 ∧ S.ρ 7 = nv rest ∧ S.ρ 8 = iv ((k : Int) - 1) ∧ S.σ = supd noBlk c1 (nblk (List.replicate k 0 ++ w)) ∧ c1 + 1 ≤ S.c) xs.length ?_ ?_
      · refine ⟨[], 0, Nat.le_refl _, ?_⟩
        simp only [vm, ite_true, ite_false, reduceIte, Nat.reduceEqDiff, Option.map, decide_eq_true_eq, decide_eq_false_iff_not, Bool.not_eq_true, decide_true, decide_false, Bool.not_true, Bool.not_false, Bool.false_eq_true, not_true_eq_false, not_false_eq_true, eq_self, and_true, true_and, List.drop_length]
        (repeat' apply And.intro) <;> first | rfl | omega | assumption | exact Lim.nil | (simp [val]; done)
      rintro k ⟨ρ2, σ, c4⟩ ⟨w, rest, hk, hw, hlw, hinv, hr, h0, h1, h6, h7, h8, hσ, hc4⟩
      dsimp only at h0 h1 h6 h7 h8 hσ hc4
      subst hσ
      rcases Nat.eq_zero_or_pos k with rfl | hkp
      · have g : ¬ (0 : Int) ≤ ((0 : Nat) : Int) - 1 := by omega
        (repeat (first | refine v_reg ?_ | refine v_last ?_ | refine vwp_seq ?_ | refine vwp_block ?_ | refine vwp_skip ?_ | refine vwp_exit ?_ | refine vwp_ret ?_ | refine v_cond ?_ | simp only [vm, ite_true, ite_false, reduceIte, Nat.reduceEqDiff, Option.map, decide_eq_true_eq, decide_eq_false_iff_not, Bool.not_eq_true, decide_true, decide_false, Bool.not_true, Bool.not_false, Bool.false_eq_true, not_true_eq_false, not_false_eq_true, eq_self, and_true, true_and, h8, g] | refine And.intro (by omega) ?_))
        rw [List.drop_zero, va] at hinv
        obtain ⟨e1, e2⟩ := div_mod_of hinv hr
        refine ⟨w, ?_⟩
        rw [e1, e2]
        (repeat' apply And.intro) <;> first | rfl | omega | assumption
      · obtain ⟨i, rfl⟩ : ∃ i, k = i + 1 := ⟨k - 1, by omega⟩
        have e1 : (((i + 1 : Nat) : Int) - 1) = (i : Int) := by omega
        have g : (0 : Int) ≤ (i : Int) := by omega
        rw [e1] at h8
        have hset : ∀ v, (List.replicate (i + 1) 0 ++ w).set i v = List.replicate i 0 ++ (v :: w) := fun v => set_top w i v
        have hlen2 : (List.replicate (i + 1) 0 ++ w).length = xs.length := by simp; omega
        have hxi := hla.getD (i := i) (by decide)
        have hq := dig_lt hr hxi
        have hdm := Nat.div_add_mod (rest * 18446744073709551616 + xs.getD i 0) y
        have hrm := Nat.mod_lt (rest * 18446744073709551616 + xs.getD i 0) hy
        obtain ⟨q, hqd⟩ : ∃ q, q = (rest * 18446744073709551616 + xs.getD i 0) / y := ⟨_, rfl⟩
        obtain ⟨r, hrd⟩ : ∃ r, r = (rest * 18446744073709551616 + xs.getD i 0) % y := ⟨_, rfl⟩
        rw [← hqd, ← hrd, Nat.mul_comm] at hdm
        rw [← hqd] at hq
        rw [← hrd] at hrm
        have key := thr_step hinv hdm
        rw [← val_drop (l := xs) (i := i) (by omega)] at key
        have hz : (0 : Int).toNat = 0 := rfl
        (repeat (first | refine v_reg ?_ | refine v_last ?_ | refine vwp_seq ?_ | refine vwp_block ?_ | refine vwp_skip ?_ | refine vwp_exit ?_ | refine vwp_ret ?_ | refine v_cond ?_ | simp only [vm, ite_true, ite_false, reduceIte, Nat.reduceEqDiff, Option.map, decide_eq_true_eq, decide_eq_false_iff_not, Bool.not_eq_true, decide_true, decide_false, Bool.not_true, Bool.not_false, Bool.false_eq_true, not_true_eq_false, not_false_eq_true, eq_self, and_true, true_and, h0, h1, h6, h7, h8, g, g1', hz, ← q2] | refine And.intro (by omega) ?_))
        refine s_call (div64_spec rest (xs.getD i 0) y c4 hxi hyl hr) (by simp only [vm, ite_true, ite_false, reduceIte, Nat.reduceEqDiff, Option.map, decide_eq_true_eq, decide_eq_false_iff_not, Bool.not_eq_true, decide_true, decide_false, Bool.not_true, Bool.not_false, Bool.false_eq_true, not_true_eq_false, not_false_eq_true, eq_self, and_true, true_and, List.map, h0, h1, h6, h7, h8]) ?_
        rintro v c5 hc5 rfl
        rw [← hqd, ← hrd]
        (repeat (first | refine v_reg ?_ | refine v_last ?_ | refine vwp_seq ?_ | refine vwp_block ?_ | refine vwp_skip ?_ | refine vwp_exit ?_ | refine vwp_ret ?_ | refine v_cond ?_ | simp only [vm, ite_true, ite_false, reduceIte, Nat.reduceEqDiff, Option.map, decide_eq_true_eq, decide_eq_false_iff_not, Bool.not_eq_true, decide_true, decide_false, Bool.not_true, Bool.not_false, Bool.false_eq_true, not_true_eq_false, not_false_eq_true, eq_self, and_true, true_and, h0, h1, h6, h7, h8, hset, hlen2] | refine And.intro (by omega) ?_))
        refine ⟨i, by omega, q :: w, r, ?_⟩
        (repeat' apply And.intro) <;> first | rfl | omega | assumption | (simp [hw]; omega) | exact Lim.cons hq hlw | exact key
    rintro ⟨ρ3, σ, c5⟩ ⟨w, hw, hlw, hvw, h6, h7, hσ, hc5⟩
    dsimp only at h6 h7 hσ hc5
    subst hσ
    refine v_freeze 6 (t := c1) (off := 0) (n := xs.length) (cap := some xs.length) (l := w) (by simp only [vm, ite_true, ite_false, reduceIte, Nat.reduceEqDiff, Option.map, decide_eq_true_eq, decide_eq_false_iff_not, Bool.not_eq_true, decide_true, decide_false, Bool.not_true, Bool.not_false, Bool.false_eq_true, not_true_eq_false, not_false_eq_true, eq_self, and_true, true_and, h6]) (by simp only [vm, ite_true, ite_false, reduceIte, Nat.reduceEqDiff, Option.map, decide_eq_true_eq, decide_eq_false_iff_not, Bool.not_eq_true, decide_true, decide_false, Bool.not_true, Bool.not_false, Bool.false_eq_true, not_true_eq_false, not_false_eq_true, eq_self, and_true, true_and]) (by omega) (by omega) ?_
    rw [List.drop_zero, show w.take xs.length = w from List.take_of_length_le (by omega)]
    (repeat (first | refine v_reg ?_ | refine v_last ?_ | refine vwp_seq ?_ | refine vwp_block ?_ | refine vwp_skip ?_ | refine vwp_exit ?_ | refine vwp_ret ?_ | refine v_cond ?_ | simp only [vm, ite_true, ite_false, reduceIte, Nat.reduceEqDiff, Option.map, decide_eq_true_eq, decide_eq_false_iff_not, Bool.not_eq_true, decide_true, decide_false, Bool.not_true, Bool.not_false, Bool.false_eq_true, not_true_eq_false, not_false_eq_true, eq_self, and_true, true_and, h7] | refine And.intro (by omega) ?_))
    refine s_call (norm_spec (.id c1) w c5 hlw (by omega)) (by simp only [vm, ite_true, ite_false, reduceIte, Nat.reduceEqDiff, Option.map, decide_eq_true_eq, decide_eq_false_iff_not, Bool.not_eq_true, decide_true, decide_false, Bool.not_true, Bool.not_false, Bool.false_eq_true, not_true_eq_false, not_false_eq_true, eq_self, and_true, true_and, List.map]) ?_
    rintro v c6 hc6 ⟨t6, rfl, ht6⟩
    rw [hvw]
    (repeat (first | refine v_reg ?_ | refine v_last ?_ | refine vwp_seq ?_ | refine vwp_block ?_ | refine vwp_skip ?_ | refine vwp_exit ?_ | refine vwp_ret ?_ | refine v_cond ?_ | simp only [vm, ite_true, ite_false, reduceIte, Nat.reduceEqDiff, Option.map, decide_eq_true_eq, decide_eq_false_iff_not, Bool.not_eq_true, decide_true, decide_false, Bool.not_true, Bool.not_false, Bool.false_eq_true, not_true_eq_false, not_false_eq_true, eq_self, and_true, true_and, h7] | refine And.intro (by omega) ?_))
    refine s_call (from_spec (x % y) c6 (by have := Nat.mod_lt x hy; omega)) (by simp only [vm, ite_true, ite_false, reduceIte, Nat.reduceEqDiff, Option.map, decide_eq_true_eq, decide_eq_false_iff_not, Bool.not_eq_true, decide_true, decide_false, Bool.not_true, Bool.not_false, Bool.false_eq_true, not_true_eq_false, not_false_eq_true, eq_self, and_true, true_and, List.map, h7]) ?_
    rintro v c7 hc7 ⟨t7, rfl, ht7⟩
    (repeat (first | refine v_reg ?_ | refine v_last ?_ | refine vwp_seq ?_ | refine vwp_block ?_ | refine vwp_skip ?_ | refine vwp_exit ?_ | refine vwp_ret ?_ | refine v_cond ?_ | simp only [vm, ite_true, ite_false, reduceIte, Nat.reduceEqDiff, Option.map, decide_eq_true_eq, decide_eq_false_iff_not, Bool.not_eq_true, decide_true, decide_false, Bool.not_true, Bool.not_false, Bool.false_eq_true, not_true_eq_false, not_false_eq_true, eq_self, and_true, true_and] | refine And.intro (by omega) ?_))
    exact ⟨t6, t7, rfl, ht6.mono (by omega) (by omega), .inl (ht7.mono (by omega) (by omega))⟩
  -- more than one limb
  obtain ⟨m, hm2⟩ : ∃ m, (digs 18446744073709551616 y).length = m + 2 := ⟨(digs 18446744073709551616 y).length - 2, by omega⟩
  obtain ⟨s, hs⟩ : ∃ s, s = 64 - bl ((digs 18446744073709551616 y).getD (m + 1) 0) := ⟨_, rfl⟩
  obtain ⟨q1, q2, q3⟩ := norm_val (m := m + 1) hm2 hs
  have htl := hlb.getD (i := m + 1) (by decide)
  have hbtop := bl_le (n := (digs 18446744073709551616 y).getD (m + 1) 0) (k := 64) htl
  have hyv : 18446744073709551616 ^ (m + 1) ≤ y := by
    obtain ⟨p1, p2⟩ := digs_top (m := m + 1) two64 hm2
    have : 18446744073709551616 ^ (m + 1) * 1 ≤ 18446744073709551616 ^ (m + 1) * (digs 18446744073709551616 y).getD (m + 1) 0 := Nat.mul_le_mul_left _ (by omega)
    omega
  have hxv : x < 18446744073709551616 ^ (digs 18446744073709551616 x).length := by have := val_lt hla; rwa [va] at this
  generalize digs 18446744073709551616 x = xs at *
  generalize hys : digs 18446744073709551616 y = ys at *
  have i1 : ((m + 2 : Nat) : Int) - 1 = ((m + 1 : Nat) : Int) := by omega
  have gm : ¬ ((m + 2 : Nat) : Int) = 1 := by omega
  (repeat (first | refine v_reg ?_ | refine v_last ?_ | refine vwp_seq ?_ | refine vwp_block ?_ | refine vwp_skip ?_ | refine vwp_exit ?_ | refine vwp_ret ?_ | refine v_cond ?_ | simp only [vm, ite_true, ite_false, reduceIte, Nat.reduceEqDiff, Option.map, decide_eq_true_eq, decide_eq_false_iff_not, Bool.not_eq_true, decide_true, decide_false, Bool.not_true, Bool.not_false, Bool.false_eq_true, not_true_eq_false, not_false_eq_true, eq_self, and_true, true_and, gc, hm2, gm, i1] | refine And.intro (by omega) ?_))
  refine s_call (lz64_spec _ c1 htl) (by simp only [vm, ite_true, ite_false, reduceIte, Nat.reduceEqDiff, Option.map, decide_eq_true_eq, decide_eq_false_iff_not, Bool.not_eq_true, decide_true, decide_false, Bool.not_true, Bool.not_false, Bool.false_eq_true, not_true_eq_false, not_false_eq_true, eq_self, and_true, true_and, List.map]) ?_
  rintro v c2 hc2 rfl
  have es : ((64 : Int) - (bl (ys.getD (m + 1) 0) : Int)).toNat = s := by omega
  (repeat (first | refine v_reg ?_ | refine v_last ?_ | refine vwp_seq ?_ | refine vwp_block ?_ | refine vwp_skip ?_ | refine vwp_exit ?_ | refine vwp_ret ?_ | refine v_cond ?_ | simp only [vm, ite_true, ite_false, reduceIte, Nat.reduceEqDiff, Option.map, decide_eq_true_eq, decide_eq_false_iff_not, Bool.not_eq_true, decide_true, decide_false, Bool.not_true, Bool.not_false, Bool.false_eq_true, not_true_eq_false, not_false_eq_true, eq_self, and_true, true_and, es] | refine And.intro (by omega) ?_))
  refine s_call (up_spec t xs s c2 hla q1 (by omega)) (by simp only [vm, ite_true, ite_false, reduceIte, Nat.reduceEqDiff, Option.map, decide_eq_true_eq, decide_eq_false_iff_not, Bool.not_eq_true, decide_true, decide_false, Bool.not_true, Bool.not_false, Bool.false_eq_true, not_true_eq_false, not_false_eq_true, eq_self, and_true, true_and, List.map]) ?_
  rintro v c3 hc3 ⟨lu, iu, rfl, hu1, hu2, hlu, hun, hvu⟩
  (repeat (first | refine v_reg ?_ | refine v_last ?_ | refine vwp_seq ?_ | refine vwp_block ?_ | refine vwp_skip ?_ | refine vwp_exit ?_ | refine vwp_ret ?_ | refine v_cond ?_ | simp only [vm, ite_true, ite_false, reduceIte, Nat.reduceEqDiff, Option.map, decide_eq_true_eq, decide_eq_false_iff_not, Bool.not_eq_true, decide_true, decide_false, Bool.not_true, Bool.not_false, Bool.false_eq_true, not_true_eq_false, not_false_eq_true, eq_self, and_true, true_and, hm2] | refine And.intro (by omega) ?_))
  refine s_call (up_spec u ys s c3 hlb q1 (by omega)) (by simp only [vm, ite_true, ite_false, reduceIte, Nat.reduceEqDiff, Option.map, decide_eq_true_eq, decide_eq_false_iff_not, Bool.not_eq_true, decide_true, decide_false, Bool.not_true, Bool.not_false, Bool.false_eq_true, not_true_eq_false, not_false_eq_true, eq_self, and_true, true_and, List.map]) ?_
  rintro v c4 hc4 ⟨lv, iv2, rfl, hv1, hv2, hlv, hvn, hvv⟩
  rw [va] at hvu
  rw [vb] at hvv
  rw [hm2] at hvn
  have hcut := top_zero (b := 18446744073709551616) (n := m + 2) (by decide) hvn (by rw [hvv]; exact q2)
  have hvv2 : val 18446744073709551616 (lv.take (m + 2)) = y * 2 ^ s := by
    have : val 18446744073709551616 lv = val 18446744073709551616 (lv.take (m + 2)) := by conv => lhs; rw [hcut, val_snoc0]
    omega
  have hlvt : Lim 18446744073709551616 (lv.take (m + 2)) := hlv.take
  have hvtn : (lv.take (m + 2)).length = m + 2 := by simp; omega
  have htop := top_ge (n := m + 1) (k := 9223372036854775808) (by decide) hlvt hvtn (by rw [hvv2]; exact q3)
  have hmm : ((m + 2 : Nat) : Int).toNat = m + 2 := by omega
  simp only [vm, ite_true, ite_false, reduceIte, Nat.reduceEqDiff, Option.map, decide_eq_true_eq, decide_eq_false_iff_not, Bool.not_eq_true, decide_true, decide_false, Bool.not_true, Bool.not_false, Bool.false_eq_true, not_true_eq_false, not_false_eq_true, eq_self, and_true, true_and, hm2, hmm]
  refine ⟨by omega, ?_⟩
  generalize lv.take (m + 2) = vv at *
  have hlu0 : lu ≠ [] := by intro e; rw [e] at hun; simp at hun
  have hth0 : ∀ l, V.thaw iu (nats t l) = nats t l := ht.thaw (by omega)
  have hth1 : ∀ l, V.thaw iu (nats (.id iv2) l) = nats (.id iv2) l := thaw_id (by omega)
  refine v_thaw 10 (t := iu) (l := lu) (by simp only [vm, ite_true, ite_false, reduceIte, Nat.reduceEqDiff, Option.map, decide_eq_true_eq, decide_eq_false_iff_not, Bool.not_eq_true, decide_true, decide_false, Bool.not_true, Bool.not_false, Bool.false_eq_true, not_true_eq_false, not_false_eq_true, eq_self, and_true, true_and]) (by omega) hlu0 LitB.no ?_
  have eN : (xs.length : Int) - ((m + 2 : Nat) : Int) = ((xs.length - (m + 2) : Nat) : Int) := by omega
  (repeat (first | refine v_reg ?_ | refine v_last ?_ | refine vwp_seq ?_ | refine vwp_block ?_ | refine vwp_skip ?_ | refine vwp_exit ?_ | refine vwp_ret ?_ | refine v_cond ?_ | simp only [vm, ite_true, ite_false, reduceIte, Nat.reduceEqDiff, Option.map, decide_eq_true_eq, decide_eq_false_iff_not, Bool.not_eq_true, decide_true, decide_false, Bool.not_true, Bool.not_false, Bool.false_eq_true, not_true_eq_false, not_false_eq_true, eq_self, and_true, true_and, hth0, hth1, thaw_lit, hvtn, eN] | refine And.intro (by omega) ?_))
  refine s_mk (n := xs.length - (m + 2) + 1) (m := xs.length - (m + 2) + 1) (by simp only [vm, ite_true, ite_false, reduceIte, Nat.reduceEqDiff, Option.map, decide_eq_true_eq, decide_eq_false_iff_not, Bool.not_eq_true, decide_true, decide_false, Bool.not_true, Bool.not_false, Bool.false_eq_true, not_true_eq_false, not_false_eq_true, eq_self, and_true, true_and]; rfl) (by simp only [vm, ite_true, ite_false, reduceIte, Nat.reduceEqDiff, Option.map, decide_eq_true_eq, decide_eq_false_iff_not, Bool.not_eq_true, decide_true, decide_false, Bool.not_true, Bool.not_false, Bool.false_eq_true, not_true_eq_false, not_false_eq_true, eq_self, and_true, true_and]; rfl) (Nat.le_refl _) (by omega) ?_
  obtain ⟨N, hN⟩ : ∃ N, N = xs.length - (m + 2) := ⟨_, rfl⟩
  have hNx : xs.length = N + (m + 2) := by omega
  rw [← hN]
  (repeat (first | refine v_reg ?_ | refine v_last ?_ | refine vwp_seq ?_ | refine vwp_block ?_ | refine vwp_skip ?_ | refine vwp_exit ?_ | refine vwp_ret ?_ | refine v_cond ?_ | simp only [vm, ite_true, ite_false, reduceIte, Nat.reduceEqDiff, Option.map, decide_eq_true_eq, decide_eq_false_iff_not, Bool.not_eq_true, decide_true, decide_false, Bool.not_true, Bool.not_false, Bool.false_eq_true, not_true_eq_false, not_false_eq_true, eq_self, and_true, true_and, hth0, hth1, thaw_lit, hvtn, eN] | refine And.intro (by omega) ?_))
  have hne : iu ≠ c4 := by omega
  have hV0 : 0 < val 18446744073709551616 vv := by rw [hvv2]; exact Nat.mul_pos hy (Nat.two_pow_pos s)
  have hfirst := first_rest (n := m + 2) (s := s) hlu hun hvu hxv (by omega) (by omega) (y := y) (by rw [show m + 2 - 1 = m + 1 by omega]; exact hyv)
  rw [show xs.length - (m + 2) + 1 = N + 1 by omega, ← hvv2] at hfirst
  refine v_loop (fun S => ∃ qs rem, qs.length = N + 1 ∧ rem.length = m + 2 ∧ Lim 18446744073709551616 qs ∧ Lim 18446744073709551616 rem ∧ val 18446744073709551616 qs * val 18446744073709551616 vv + val 18446744073709551616 rem = x * 2 ^ s ∧ val 18446744073709551616 rem < val 18446744073709551616 vv ∧ S.ρ 9 = nv s ∧ S.ρ 12 = iv ((m + 2 : Nat) : Int) ∧ S.ρ 10 = .buf iu 0 lu.length none 1 ∧ S.ρ 13 = .buf c4 0 (N + 1) (some (N + 1)) 1 ∧
      S.σ = supd (supd noBlk iu (nblk (rem ++ List.replicate (N + 1) 0))) c4 (nblk qs) ∧ c4 + 1 ≤ S.c) ?_ ?_
  · refine vwp_loop (fun k S => ∃ qs rem, k ≤ N + 1 ∧ qs.length = N + 1 - k ∧ rem.length = m + 2 ∧ Lim 18446744073709551616 qs ∧ Lim 18446744073709551616 rem ∧ val 18446744073709551616 qs * val 18446744073709551616 vv + val 18446744073709551616 rem = val 18446744073709551616 (lu.drop k) ∧ val 18446744073709551616 rem < val 18446744073709551616 vv ∧ S.ρ 9 = nv s ∧ S.ρ 11 = nats (.id iv2) vv ∧ S.ρ 12 = iv ((m + 2 : Nat) : Int) ∧ S.ρ 14 = iv ((k : Int) - 1) ∧ S.ρ 10 = .buf iu 0 lu.length none 1 ∧ S.ρ 13 = .buf c4 0 (N + 1) (some (N + 1)) 1 ∧
      S.σ = supd (supd noBlk iu (nblk ((lu.take k ++ rem) ++ List.replicate (N + 1 - k) 0))) c4 (nblk (List.replicate k 0 ++ qs)) ∧ c4 + 1 ≤ S.c) (N + 1) ?_ ?_
    · refine ⟨[], lu.drop (N + 1), Nat.le_refl _, ?_⟩
      simp only [vm, ite_true, ite_false, reduceIte, Nat.reduceEqDiff, Option.map, decide_eq_true_eq, decide_eq_false_iff_not, Bool.not_eq_true, decide_true, decide_false, Bool.not_true, Bool.not_false, Bool.false_eq_true, not_true_eq_false, not_false_eq_true, eq_self, and_true, true_and, hth0, hth1, thaw_lit, Nat.sub_self, List.replicate_zero, List.append_nil, List.take_append_drop]
      (repeat' apply And.intro) <;> first | rfl | omega | assumption | (simp; done) | (simp; omega) | exact Lim.nil | exact hlu.drop | (simp [val]; done) | exact hfirst | (congr 1; omega)
    rintro k ⟨ρ2, σ, c5⟩ ⟨qs, rem, hk, hqs, hrem, hlq, hlr, hinv, hrv, h9, h11, h12, h14, h10, h13, hσ, hc5⟩
    dsimp only at h9 h11 h12 h14 h10 h13 hσ hc5
    subst hσ
    rcases Nat.eq_zero_or_pos k with rfl | hkp
    · have g : ¬ (0 : Int) ≤ ((0 : Nat) : Int) - 1 := by omega
      (repeat (first | refine v_reg ?_ | refine v_last ?_ | refine vwp_seq ?_ | refine vwp_block ?_ | refine vwp_skip ?_ | refine vwp_exit ?_ | refine vwp_ret ?_ | refine v_cond ?_ | simp only [vm, ite_true, ite_false, reduceIte, Nat.reduceEqDiff, Option.map, decide_eq_true_eq, decide_eq_false_iff_not, Bool.not_eq_true, decide_true, decide_false, Bool.not_true, Bool.not_false, Bool.false_eq_true, not_true_eq_false, not_false_eq_true, eq_self, and_true, true_and, h14, g] | refine And.intro (by omega) ?_))
      rw [List.drop_zero, hvu] at hinv
      refine ⟨qs, rem, ?_⟩
      (repeat' apply And.intro) <;> first | rfl | omega | assumption
    · obtain ⟨j, rfl⟩ : ∃ j, k = j + 1 := ⟨k - 1, by omega⟩
      have e1 : (((j + 1 : Nat) : Int) - 1) = (j : Int) := by omega
      have g : (0 : Int) ≤ (j : Int) := by omega
      rw [e1] at h14
      have e2 : ((j : Int) + ((m + 2 : Nat) : Int) + 1).toNat - j = m + 3 := by omega
      have hjl : j < lu.length := by omega
      have hwin : (lu.take (j + 1) ++ rem) ++ List.replicate (N + 1 - (j + 1)) 0 = (lu.take j ++ (lu.getD j 0 :: rem)) ++ List.replicate (N + 1 - (j + 1)) 0 := by rw [take_snoc hjl]; simp
      have hjt : (lu.take j).length = j := by simp; omega
      have hlj := hlu.getD (i := j) (by decide)
      have hwv : val 18446744073709551616 (lu.getD j 0 :: rem) < val 18446744073709551616 vv * 18446744073709551616 := by
        have : (val 18446744073709551616 rem + 1) * 18446744073709551616 ≤ val 18446744073709551616 vv * 18446744073709551616 := Nat.mul_le_mul_right _ hrv
        rw [Nat.add_mul, Nat.one_mul] at this
        rw [val, Nat.mul_comm]
        omega
      have hdm := Nat.div_add_mod (val 18446744073709551616 (lu.getD j 0 :: rem)) (val 18446744073709551616 vv)
      have hmod := Nat.mod_lt (val 18446744073709551616 (lu.getD j 0 :: rem)) hV0
      have hqlt : val 18446744073709551616 (lu.getD j 0 :: rem) / val 18446744073709551616 vv < 18446744073709551616 := by rw [Nat.div_lt_iff_lt_mul hV0, Nat.mul_comm]; exact hwv
      have hgs := guess_spec iu (.id iv2) (lu.take j) (lu.getD j 0 :: rem) (List.replicate (N + 1 - (j + 1)) 0) vv m c5 none (.cons hlj hlr) hlvt (by simp; omega) hvtn htop hwv (by simp; omega)
      rw [hjt, ← hwin] at hgs
      have hlen4 : (List.replicate (j + 1) 0 ++ qs).length = N + 1 := by simp; omega
      have hset4 : ∀ v, (List.replicate (j + 1) 0 ++ qs).set j v = List.replicate j 0 ++ (v :: qs) := fun v => set_top qs j v
      have hct : capTop none lu.length = (lu.length : Int) := rfl
      have hnc : ∀ k, newCap none none k = none := fun _ => rfl
      (repeat (first | refine v_reg ?_ | refine v_last ?_ | refine vwp_seq ?_ | refine vwp_block ?_ | refine vwp_skip ?_ | refine vwp_exit ?_ | refine vwp_ret ?_ | refine v_cond ?_ | simp only [vm, ite_true, ite_false, reduceIte, Nat.reduceEqDiff, Option.map, decide_eq_true_eq, decide_eq_false_iff_not, Bool.not_eq_true, decide_true, decide_false, Bool.not_true, Bool.not_false, Bool.false_eq_true, not_true_eq_false, not_false_eq_true, eq_self, and_true, true_and, h9, h10, h11, h12, h13, h14, g, e2, hct, hnc] | refine And.intro (by omega) ?_))
      refine s_call1 iu (l := (lu.take (j + 1) ++ rem) ++ List.replicate (N + 1 - (j + 1)) 0) (by simp only [vm, ite_true, ite_false, reduceIte, Nat.reduceEqDiff, Option.map, decide_eq_true_eq, decide_eq_false_iff_not, Bool.not_eq_true, decide_true, decide_false, Bool.not_true, Bool.not_false, Bool.false_eq_true, not_true_eq_false, not_false_eq_true, eq_self, and_true, true_and, hne]) (fun s hs => by simp only [supd]; rw [if_neg (by omega), if_neg (by omega)]; rfl) hgs (by simp only [vm, ite_true, ite_false, reduceIte, Nat.reduceEqDiff, Option.map, decide_eq_true_eq, decide_eq_false_iff_not, Bool.not_eq_true, decide_true, decide_false, Bool.not_true, Bool.not_false, Bool.false_eq_true, not_true_eq_false, not_false_eq_true, eq_self, and_true, true_and, List.map, h9, h10, h11, h12, h13, h14, e2]) ?_
      rintro v σ' c6 hc6 ⟨rfl, u', hσ', hun', hul', huv'⟩
      have hut := top_zero (b := 18446744073709551616) (n := m + 2) (by decide) hun' (by rw [huv']; have := val_lt hlvt; rw [hvtn] at this; omega)
      have hut2 : val 18446744073709551616 u' = val 18446744073709551616 (u'.take (m + 2)) := by conv => lhs; rw [hut, val_snoc0]
      rw [hσ']
      have hne2 : ¬ c4 = iu := by omega
      have hsw : ∀ a b e d, supd (supd (supd (supd noBlk iu a) c4 b) iu e) c4 d = supd (supd noBlk iu e) c4 d := fun a b e d => by
        funext s
        simp only [supd]
        by_cases k1 : s = c4
        · simp [k1]
        · by_cases k2 : s = iu
          · simp [k1, k2]
          · simp [k1, k2]
      (repeat (first | refine v_reg ?_ | refine v_last ?_ | refine vwp_seq ?_ | refine vwp_block ?_ | refine vwp_skip ?_ | refine vwp_exit ?_ | refine vwp_ret ?_ | refine v_cond ?_ | simp only [vm, ite_true, ite_false, reduceIte, Nat.reduceEqDiff, Option.map, decide_eq_true_eq, decide_eq_false_iff_not, Bool.not_eq_true, decide_true, decide_false, Bool.not_true, Bool.not_false, Bool.false_eq_true, not_true_eq_false, not_false_eq_true, eq_self, and_true, true_and, h9, h10, h11, h12, h13, h14, hlen4, hset4, hne2, hsw] | refine And.intro (by omega) ?_))
      have hzz : (lu.take j ++ u') ++ List.replicate (N + 1 - (j + 1)) 0 = (lu.take j ++ u'.take (m + 2)) ++ List.replicate (N + 1 - j) 0 := by
        rw [show N + 1 - j = (N + 1 - (j + 1)) + 1 by omega, List.replicate_succ]
        conv => lhs; rw [hut]
        simp
      rw [hzz]
      refine ⟨j, by omega, val 18446744073709551616 (lu.getD j 0 :: rem) / val 18446744073709551616 vv :: qs, u'.take (m + 2), ?_⟩
      have key : val 18446744073709551616 (val 18446744073709551616 (lu.getD j 0 :: rem) / val 18446744073709551616 vv :: qs) * val 18446744073709551616 vv + val 18446744073709551616 (u'.take (m + 2)) = val 18446744073709551616 (lu.drop j) := by
        rw [val_drop hjl, ← hinv, ← hut2, huv', val, val] at *
        rw [Nat.add_mul, Nat.mul_add, Nat.mul_assoc]
        rw [Nat.mul_comm (val 18446744073709551616 vv)] at hdm
        omega
      (repeat' apply And.intro) <;> first | rfl | omega | assumption | (simp; omega) | exact Lim.cons hqlt hlq | exact hul'.take | exact key
  rintro ⟨ρ3, σ, c5⟩ ⟨qs, rem, hqs, hrem, hlq, hlr, hinv, hrv, h9, h12, h10, h13, hσ, hc5⟩
  dsimp only at h9 h12 h10 h13 hσ hc5
  subst hσ
  refine v_freeze 13 (t := c4) (off := 0) (n := N + 1) (cap := some (N + 1)) (l := qs) (by simp only [vm, ite_true, ite_false, reduceIte, Nat.reduceEqDiff, Option.map, decide_eq_true_eq, decide_eq_false_iff_not, Bool.not_eq_true, decide_true, decide_false, Bool.not_true, Bool.not_false, Bool.false_eq_true, not_true_eq_false, not_false_eq_true, eq_self, and_true, true_and, h13]) (by simp only [vm, ite_true, ite_false, reduceIte, Nat.reduceEqDiff, Option.map, decide_eq_true_eq, decide_eq_false_iff_not, Bool.not_eq_true, decide_true, decide_false, Bool.not_true, Bool.not_false, Bool.false_eq_true, not_true_eq_false, not_false_eq_true, eq_self, and_true, true_and]) (by omega) (by omega) ?_
  rw [List.drop_zero, show qs.take (N + 1) = qs from List.take_of_length_le (by omega)]
  refine v_freeze 10 (t := iu) (off := 0) (n := lu.length) (cap := none) (l := rem ++ List.replicate (N + 1) 0) (by simp only [vm, ite_true, ite_false, reduceIte, Nat.reduceEqDiff, Option.map, decide_eq_true_eq, decide_eq_false_iff_not, Bool.not_eq_true, decide_true, decide_false, Bool.not_true, Bool.not_false, Bool.false_eq_true, not_true_eq_false, not_false_eq_true, eq_self, and_true, true_and, h10]) (by simp only [vm, ite_true, ite_false, reduceIte, Nat.reduceEqDiff, Option.map, decide_eq_true_eq, decide_eq_false_iff_not, Bool.not_eq_true, decide_true, decide_false, Bool.not_true, Bool.not_false, Bool.false_eq_true, not_true_eq_false, not_false_eq_true, eq_self, and_true, true_and, hne]) (by omega) (by simp; omega) ?_
  have hall : (rem ++ List.replicate (N + 1) 0).take lu.length = rem ++ List.replicate (N + 1) 0 := List.take_of_length_le (by simp; omega)
  rw [List.drop_zero, hall]
  obtain ⟨e1, e2⟩ := div_mod_of hinv hrv
  rw [hvv2] at e1 e2
  rw [(shift_div (x := x) (y := y) (s := s)).1] at e1
  rw [(shift_div (x := x) (y := y) (s := s)).2] at e2
  have htk : (rem ++ List.replicate (N + 1) 0).take (m + 2) = rem := by rw [List.take_append_of_le_length (by omega), List.take_of_length_le (by omega)]
  (repeat (first | refine v_reg ?_ | refine v_last ?_ | refine vwp_seq ?_ | refine vwp_block ?_ | refine vwp_skip ?_ | refine vwp_exit ?_ | refine vwp_ret ?_ | refine v_cond ?_ | simp only [vm, ite_true, ite_false, reduceIte, Nat.reduceEqDiff, Option.map, decide_eq_true_eq, decide_eq_false_iff_not, Bool.not_eq_true, decide_true, decide_false, Bool.not_true, Bool.not_false, Bool.false_eq_true, not_true_eq_false, not_false_eq_true, eq_self, and_true, true_and, h9, h12] | refine And.intro (by omega) ?_))
  refine s_call (norm_spec (.id c4) qs c5 hlq (by omega)) (by simp only [vm, ite_true, ite_false, reduceIte, Nat.reduceEqDiff, Option.map, decide_eq_true_eq, decide_eq_false_iff_not, Bool.not_eq_true, decide_true, decide_false, Bool.not_true, Bool.not_false, Bool.false_eq_true, not_true_eq_false, not_false_eq_true, eq_self, and_true, true_and, List.map]) ?_
  rintro v c6 hc6 ⟨t6, rfl, ht6⟩
  rw [← e1]
  have hrl : (rem ++ List.replicate (N + 1) 0).length = m + 2 + (N + 1) := by simp; omega
  (repeat (first | refine v_reg ?_ | refine v_last ?_ | refine vwp_seq ?_ | refine vwp_block ?_ | refine vwp_skip ?_ | refine vwp_exit ?_ | refine vwp_ret ?_ | refine v_cond ?_ | simp only [vm, ite_true, ite_false, reduceIte, Nat.reduceEqDiff, Option.map, decide_eq_true_eq, decide_eq_false_iff_not, Bool.not_eq_true, decide_true, decide_false, Bool.not_true, Bool.not_false, Bool.false_eq_true, not_true_eq_false, not_false_eq_true, eq_self, and_true, true_and, h9, h12, hmm, htk, hrl] | refine And.intro (by omega) ?_))
  refine s_call (down_spec (.id iu) rem s c6 hlr q1 (by omega)) (by simp only [vm, ite_true, ite_false, reduceIte, Nat.reduceEqDiff, Option.map, decide_eq_true_eq, decide_eq_false_iff_not, Bool.not_eq_true, decide_true, decide_false, Bool.not_true, Bool.not_false, Bool.false_eq_true, not_true_eq_false, not_false_eq_true, eq_self, and_true, true_and, List.map]) ?_
  rintro v c7 hc7 ⟨t7, rfl, ht7⟩
  rw [← e2, Nat.mul_div_cancel _ (Nat.two_pow_pos s)]
  (repeat (first | refine v_reg ?_ | refine v_last ?_ | refine vwp_seq ?_ | refine vwp_block ?_ | refine vwp_skip ?_ | refine vwp_exit ?_ | refine vwp_ret ?_ | refine v_cond ?_ | simp only [vm, ite_true, ite_false, reduceIte, Nat.reduceEqDiff, Option.map, decide_eq_true_eq, decide_eq_false_iff_not, Bool.not_eq_true, decide_true, decide_false, Bool.not_true, Bool.not_false, Bool.false_eq_true, not_true_eq_false, not_false_eq_true, eq_self, and_true, true_and] | refine And.intro (by omega) ?_))
  exact ⟨t6, t7, rfl, ht6.mono (by omega) (by omega), .inl (ht7.mono (by omega) (by omega))⟩

theorem quo_spec (t u : Tok) (a b : List Nat) (c : Nat) (ha : Lim 18446744073709551616 a) (hb : Lim 18446744073709551616 b) (hna : a.length ≤ 1099511627776) (hnb : b.length ≤ 1099511627776) :
    VSpec Try.prog F.div_Quo c [nats t a, nats u b] (fun r c' => (val 18446744073709551616 b = 0 → r = .tup [nil1, iv 30]) ∧ (0 < val 18446744073709551616 b → Told c c' (val 18446744073709551616 a / val 18446744073709551616 b) r)) := by
  refine spec_mk hm E.div_Quo B.div_Quo K.div_Quo Q.div_Quo (by rw [N.div_Quo]; simp) ?_
  unfold C.div_Quo R.div_Quo
  (repeat (first | refine v_reg ?_ | refine v_last ?_ | refine vwp_seq ?_ | refine vwp_block ?_ | refine vwp_skip ?_ | refine vwp_exit ?_ | refine vwp_ret ?_ | refine v_cond ?_ | simp only [vm, ite_true, ite_false, reduceIte, Nat.reduceEqDiff, Option.map, decide_eq_true_eq, decide_eq_false_iff_not, Bool.not_eq_true, decide_true, decide_false, Bool.not_true, Bool.not_false, Bool.false_eq_true, not_true_eq_false, not_false_eq_true, eq_self, and_true, true_and] | refine And.intro (by omega) ?_))
  refine s_call (norm_spec t a c ha (by omega)) (by simp only [vm, ite_true, ite_false, reduceIte, Nat.reduceEqDiff, Option.map, decide_eq_true_eq, decide_eq_false_iff_not, Bool.not_eq_true, decide_true, decide_false, Bool.not_true, Bool.not_false, Bool.false_eq_true, not_true_eq_false, not_false_eq_true, eq_self, and_true, true_and, List.map]) ?_
  rintro v c1 hc1 ⟨t1, rfl, ht1⟩
  (repeat (first | refine v_reg ?_ | refine v_last ?_ | refine vwp_seq ?_ | refine vwp_block ?_ | refine vwp_skip ?_ | refine vwp_exit ?_ | refine vwp_ret ?_ | refine v_cond ?_ | simp only [vm, ite_true, ite_false, reduceIte, Nat.reduceEqDiff, Option.map, decide_eq_true_eq, decide_eq_false_iff_not, Bool.not_eq_true, decide_true, decide_false, Bool.not_true, Bool.not_false, Bool.false_eq_true, not_true_eq_false, not_false_eq_true, eq_self, and_true, true_and] | refine And.intro (by omega) ?_))
  refine s_call (norm_spec u b c1 hb (by omega)) (by simp only [vm, ite_true, ite_false, reduceIte, Nat.reduceEqDiff, Option.map, decide_eq_true_eq, decide_eq_false_iff_not, Bool.not_eq_true, decide_true, decide_false, Bool.not_true, Bool.not_false, Bool.false_eq_true, not_true_eq_false, not_false_eq_true, eq_self, and_true, true_and, List.map]) ?_
  rintro v c2 hc2 ⟨t2, rfl, ht2⟩
  have hla := digs_len_le two64 ha
  have hlb := digs_len_le two64 hb
  have hnil := digs_eq_nil two64 (n := val 18446744073709551616 b)
  by_cases g : val 18446744073709551616 b = 0
  · have g1 : ((digs 18446744073709551616 (val 18446744073709551616 b)).length : Int) = 0 := by rw [hnil.2 g]; rfl
    (repeat (first | refine v_reg ?_ | refine v_last ?_ | refine vwp_seq ?_ | refine vwp_block ?_ | refine vwp_skip ?_ | refine vwp_exit ?_ | refine vwp_ret ?_ | refine v_cond ?_ | simp only [vm, ite_true, ite_false, reduceIte, Nat.reduceEqDiff, Option.map, decide_eq_true_eq, decide_eq_false_iff_not, Bool.not_eq_true, decide_true, decide_false, Bool.not_true, Bool.not_false, Bool.false_eq_true, not_true_eq_false, not_false_eq_true, eq_self, and_true, true_and, g1] | refine And.intro (by omega) ?_))
    exact ⟨fun _ => trivial, fun h => absurd h (by omega)⟩
  have g1 : ¬ ((digs 18446744073709551616 (val 18446744073709551616 b)).length : Int) = 0 := by
    intro e
    have := List.eq_nil_of_length_eq_zero (show (digs 18446744073709551616 (val 18446744073709551616 b)).length = 0 by omega)
    exact g (hnil.1 this)
  (repeat (first | refine v_reg ?_ | refine v_last ?_ | refine vwp_seq ?_ | refine vwp_block ?_ | refine vwp_skip ?_ | refine vwp_exit ?_ | refine vwp_ret ?_ | refine v_cond ?_ | simp only [vm, ite_true, ite_false, reduceIte, Nat.reduceEqDiff, Option.map, decide_eq_true_eq, decide_eq_false_iff_not, Bool.not_eq_true, decide_true, decide_false, Bool.not_true, Bool.not_false, Bool.false_eq_true, not_true_eq_false, not_false_eq_true, eq_self, and_true, true_and, g1] | refine And.intro (by omega) ?_))
  refine s_call (divide_spec t1 t2 (val 18446744073709551616 a) (val 18446744073709551616 b) c2 (ht1.kn.mono hc2) (by omega) (by omega) (by omega)) (by simp only [vm, ite_true, ite_false, reduceIte, Nat.reduceEqDiff, Option.map, decide_eq_true_eq, decide_eq_false_iff_not, Bool.not_eq_true, decide_true, decide_false, Bool.not_true, Bool.not_false, Bool.false_eq_true, not_true_eq_false, not_false_eq_true, eq_self, and_true, true_and, List.map]) ?_
  rintro v c3 hc3 ⟨t3, t4, rfl, ht3, _⟩
  have hq := lim_digs two64 (val 18446744073709551616 a / val 18446744073709551616 b)
  have hqn : (digs 18446744073709551616 (val 18446744073709551616 a / val 18446744073709551616 b)).length ≤ 1099511627776 := Nat.le_trans (le_len two64 (Nat.div_le_self _ _)) (by omega)
  have hqv := val_digs two64 (val 18446744073709551616 a / val 18446744073709551616 b)
  (repeat (first | refine v_reg ?_ | refine v_last ?_ | refine vwp_seq ?_ | refine vwp_block ?_ | refine vwp_skip ?_ | refine vwp_exit ?_ | refine vwp_ret ?_ | refine v_cond ?_ | simp only [vm, ite_true, ite_false, reduceIte, Nat.reduceEqDiff, Option.map, decide_eq_true_eq, decide_eq_false_iff_not, Bool.not_eq_true, decide_true, decide_false, Bool.not_true, Bool.not_false, Bool.false_eq_true, not_true_eq_false, not_false_eq_true, eq_self, and_true, true_and, g1] | refine And.intro (by omega) ?_))
  refine s_call (length_spec t3 _ c3 hq (by omega)) (by simp only [vm, ite_true, ite_false, reduceIte, Nat.reduceEqDiff, Option.map, decide_eq_true_eq, decide_eq_false_iff_not, Bool.not_eq_true, decide_true, decide_false, Bool.not_true, Bool.not_false, Bool.false_eq_true, not_true_eq_false, not_false_eq_true, eq_self, and_true, true_and, List.map]) ?_
  rintro v c4 hc4 rfl
  rw [hqv]
  by_cases gb : (67108864 : Int) < (bl (val 18446744073709551616 a / val 18446744073709551616 b) : Int)
  · (repeat (first | refine v_reg ?_ | refine v_last ?_ | refine vwp_seq ?_ | refine vwp_block ?_ | refine vwp_skip ?_ | refine vwp_exit ?_ | refine vwp_ret ?_ | refine v_cond ?_ | simp only [vm, ite_true, ite_false, reduceIte, Nat.reduceEqDiff, Option.map, decide_eq_true_eq, decide_eq_false_iff_not, Bool.not_eq_true, decide_true, decide_false, Bool.not_true, Bool.not_false, Bool.false_eq_true, not_true_eq_false, not_false_eq_true, eq_self, and_true, true_and, gb] | refine And.intro (by omega) ?_))
    exact fun _ => .inr ⟨by omega, rfl⟩
  · (repeat (first | refine v_reg ?_ | refine v_last ?_ | refine vwp_seq ?_ | refine vwp_block ?_ | refine vwp_skip ?_ | refine vwp_exit ?_ | refine vwp_ret ?_ | refine v_cond ?_ | simp only [vm, ite_true, ite_false, reduceIte, Nat.reduceEqDiff, Option.map, decide_eq_true_eq, decide_eq_false_iff_not, Bool.not_eq_true, decide_true, decide_false, Bool.not_true, Bool.not_false, Bool.false_eq_true, not_true_eq_false, not_false_eq_true, eq_self, and_true, true_and, gb] | refine And.intro (by omega) ?_))
    exact fun _ => .inl ⟨by omega, t3, rfl, ht3.mono (by omega) (by omega)⟩
end Go.Proofs.Ytladcfeibpddeab
