/- The claim of RootChains (the chain's numbers and Pell's solution are the document's, in memory of their own) of the program holds: whatever number comes in, the law answers true, with no condition beyond the statement's own, and memory that was there is as it was. -/
import Derived.Test.YtladcfeibpddeabChaM5
set_option linter.unusedSimpArgs false
set_option linter.unusedVariables false
set_option maxRecDepth 100000
set_option maxHeartbeats 8000000
namespace Go.Proofs.Ytladcfeibpddeab
open Go.VM Go.RowKit

/-! ### Pell's equation -/
theorem cv_lt {n f : Nat} (h : Sq n f) (hf : f ≤ 255) : ∀ i, (cv n f i).1.1 < 2 ^ (9 * (i + 1)) ∧ (cv n f i).1.2 < 2 ^ (9 * (i + 1)) ∧ (cv n f i).2.1 < 2 ^ (9 * (i + 1)) ∧ (cv n f i).2.2 < 2 ^ (9 * (i + 1))
  | 0 => by
    refine ⟨?_, ?_, ?_, ?_⟩
    · show f < 2 ^ 9; omega
    · show 1 < 2 ^ 9; decide
    · show 1 < 2 ^ 9; decide
    · show 0 < 2 ^ 9; decide
  | i + 1 => by
    obtain ⟨h1, h2, h3, h4⟩ := cv_lt h hf i
    have pb := (pq_bound h (i + 1)).2
    have e : 2 ^ (9 * (i + 1 + 1)) = 512 * 2 ^ (9 * (i + 1)) := by
      rw [Nat.mul_succ 9 (i + 1), Nat.pow_add, Nat.mul_comm]
    rw [e]
    generalize 2 ^ (9 * (i + 1)) = X at *
    have key : ∀ P P' : Nat, P < X → P' < X → pq n f (i + 1) * P + P' < 512 * X := fun P P' g1 g2 => by
      have : pq n f (i + 1) * P ≤ 510 * P := Nat.mul_le_mul_right P (by omega)
      omega
    refine ⟨key _ _ h1 h2, ?_, key _ _ h3 h4, ?_⟩
    · show (cv n f i).1.1 < 512 * X; omega
    · show (cv n f i).2.1 < 512 * X; omega
theorem cv_bl {n f : Nat} (h : Sq n f) (hf : f ≤ 255) {i : Nat} (hi : i ≤ 262144) : bl (cv n f i).1.1 ≤ 2359305 ∧ bl (cv n f i).1.2 ≤ 2359305 ∧ bl (cv n f i).2.1 ≤ 2359305 ∧ bl (cv n f i).2.2 ≤ 2359305 := by
  obtain ⟨h1, h2, h3, h4⟩ := cv_lt h hf i
  exact ⟨Nat.le_trans (bl_le h1) (by omega), Nat.le_trans (bl_le h2) (by omega), Nat.le_trans (bl_le h3) (by omega), Nat.le_trans (bl_le h4) (by omega)⟩

theorem next_spec (t u : Tok) (m x y c : Nat) (hml : m ≤ 65536) (hx : bl x ≤ 2359305) (hy : bl y ≤ 2359305) :
    VSpec Try.prog F.roots_next c [nv m, nats t (digs 18446744073709551616 x), nats u (digs 18446744073709551616 y)] (fun r c' => NatR c c' (m * x + y) r) := by
  have hbm : bl m ≤ 17 := bl_le (by omega)
  have hb1 : bl (x * m) ≤ 2359400 := Nat.le_trans (bl_mul_le x m) (by omega)
  have hb2 : bl (x * m + y) ≤ 2359401 := bl_add_le hb1 (by omega)
  refine spec_mk hm E.roots_next B.roots_next K.roots_next Q.roots_next (by rw [N.roots_next]; simp) ?_
  unfold C.roots_next R.roots_next
  (repeat (first | refine v_reg ?_ | refine v_last ?_ | refine vwp_seq ?_ | refine vwp_block ?_ | refine vwp_skip ?_ | refine vwp_exit ?_ | refine vwp_ret ?_ | refine v_cond ?_ | simp only [vm, ite_true, ite_false, eq_self, reduceIte, Nat.reduceEqDiff, Option.map] | refine And.intro (by omega) ?_))
  refine s_call (times_spec t (digs 18446744073709551616 x) m c (lim_digs two64 x) (by omega) (Nat.le_trans (digs_len_bl (k := 1048576) (by omega)) (by decide))) (by simp only [vm, ite_true, ite_false, eq_self, reduceIte, Nat.reduceEqDiff, Option.map, List.map]) ?_
  rw [val_digs two64]
  rintro v c1 hc1 (⟨_, t1, rfl, ht1⟩ | ⟨h, _⟩)
  rotate_left
  · omega
  (repeat (first | refine v_reg ?_ | refine v_last ?_ | refine vwp_seq ?_ | refine vwp_block ?_ | refine vwp_skip ?_ | refine vwp_exit ?_ | refine vwp_ret ?_ | refine v_cond ?_ | simp only [vm, ite_true, ite_false, eq_self, reduceIte, Nat.reduceEqDiff, Option.map] | refine And.intro (by omega) ?_))
  refine s_call (add_spec t1 u (digs 18446744073709551616 (x * m)) (digs 18446744073709551616 y) c1 (lim_digs two64 _) (lim_digs two64 _) (Nat.le_trans (digs_len_bl (k := 1048576) (by omega)) (by decide)) (Nat.le_trans (digs_len_bl (k := 1048576) (by omega)) (by decide))) (by simp only [vm, ite_true, ite_false, eq_self, reduceIte, Nat.reduceEqDiff, Option.map, List.map]) ?_
  rw [val_digs two64, val_digs two64]
  rintro v c2 hc2 (⟨_, t2, rfl, ht2⟩ | ⟨h, _⟩)
  rotate_left
  · omega
  (repeat (first | refine v_reg ?_ | refine v_last ?_ | refine vwp_seq ?_ | refine vwp_block ?_ | refine vwp_skip ?_ | refine vwp_exit ?_ | refine vwp_ret ?_ | refine v_cond ?_ | simp only [vm, ite_true, ite_false, eq_self, reduceIte, Nat.reduceEqDiff, Option.map] | refine And.intro (by omega) ?_))
  exact ⟨t2, by rw [Nat.mul_comm m x], ht2.mono (by omega) (by omega)⟩

theorem pq_mod {n f l : Nat} (h : Sq n f) (p : Per n f l) (i : Nat) : pq n f (i % l + 1) = pq n f (i + 1) := by
  unfold pq
  rw [← per_mod h p i]

/-- the answer of 'Pell' -/
def PellR (c c' n : Nat) (r : V) : Prop := (∃ f, f * f = n ∧ r = .tup [nil1, nil1, iv 1]) ∨ ∃ f l c1 tp tq, Sq n f ∧ f ≤ 255 ∧ Per n f l ∧ l ≤ 131072 ∧ r = .tup [nats tp (digs 18446744073709551616 (cv n f (terms l)).1.1), nats tq (digs 18446744073709551616 (cv n f (terms l)).2.1), iv 0] ∧ Tk c c1 tp ∧ Tk c1 c' tq
theorem sq255 {n f : Nat} (hn : n ≤ 65536) (h : f * f < n) : f ≤ 255 := by
  rcases Nat.lt_or_ge f 256 with g | g
  · omega
  · have := sq_le_of g; omega
theorem cl_vget {n f l i : Nat} (h : i < l) : (ivs (cl n f l))[i]? = some (iv (pq n f (i + 1) : Int)) := by
  rw [ivs_get (by rw [cl_len]; exact h), cl_get h]

theorem pell_spec (n : Int) (c : Nat) : VSpec Try.prog F.roots_Pell c [iv n] (fun r c' => ((n < 0 ∨ 65536 < n) → r = .tup [nil1, nil1, iv 1]) ∧ (0 ≤ n → n ≤ 65536 → PellR c c' n.toNat r)) := by
  refine spec_mk hm E.roots_Pell B.roots_Pell K.roots_Pell Q.roots_Pell (by rw [N.roots_Pell]; simp) ?_
  unfold C.roots_Pell R.roots_Pell
  (repeat (first | refine v_reg ?_ | refine v_last ?_ | refine vwp_seq ?_ | refine vwp_block ?_ | refine vwp_skip ?_ | refine vwp_exit ?_ | refine vwp_ret ?_ | refine v_cond ?_ | simp only [vm, ite_true, ite_false, eq_self, reduceIte, Nat.reduceEqDiff, Option.map] | refine And.intro (by omega) ?_))
  refine s_call (chain_spec n c) (by simp only [vm, ite_true, ite_false, eq_self, reduceIte, Nat.reduceEqDiff, Option.map, List.map]) ?_
  rintro v c1 hc1 ⟨w1, w2⟩
  by_cases g : n < 0 ∨ 65536 < n
  · obtain rfl := w1 g
    have z1 : ¬ (1 : Int) = 0 := by decide
    (repeat (first | refine v_reg ?_ | refine v_last ?_ | refine vwp_seq ?_ | refine vwp_block ?_ | refine vwp_skip ?_ | refine vwp_exit ?_ | refine vwp_ret ?_ | refine v_cond ?_ | simp only [vm, ite_true, ite_false, eq_self, reduceIte, Nat.reduceEqDiff, Option.map, z1] | refine And.intro (by omega) ?_))
    exact ⟨fun _ => trivial, fun h => by omega⟩
  obtain ⟨n, rfl⟩ : ∃ k : Nat, n = (k : Int) := ⟨n.toNat, by omega⟩
  have e0 : ((n : Int)).toNat = n := by omega
  have hn : n ≤ 65536 := by omega
  rw [e0] at w2 ⊢
  obtain ⟨f, hf1, hf2, h | ⟨hsq, l, tb, hp, hlb, rfl, htb, htb2⟩⟩ := w2 (by omega) (by omega)
  · obtain ⟨hfe, rfl⟩ := h
    by_cases g1 : (n : Int) < 1
    · (repeat (first | refine v_reg ?_ | refine v_last ?_ | refine vwp_seq ?_ | refine vwp_block ?_ | refine vwp_skip ?_ | refine vwp_exit ?_ | refine vwp_ret ?_ | refine v_cond ?_ | simp only [vm, ite_true, ite_false, eq_self, reduceIte, Nat.reduceEqDiff, Option.map, g1] | refine And.intro (by omega) ?_))
      exact fun _ _ => .inl ⟨f, hfe, rfl⟩
    · (repeat (first | refine v_reg ?_ | refine v_last ?_ | refine vwp_seq ?_ | refine vwp_block ?_ | refine vwp_skip ?_ | refine vwp_exit ?_ | refine vwp_ret ?_ | refine v_cond ?_ | simp only [vm, ite_true, ite_false, eq_self, reduceIte, Nat.reduceEqDiff, Option.map, g1, l_nil] | refine And.intro (by omega) ?_))
      exact fun _ _ => .inl ⟨f, hfe, rfl⟩
  have hf255 := sq255 hn hsq.f1
  have hl1 := hp.one
  have g1 : ¬ (n : Int) < 1 := by have := hsq.f1; omega
  have hlen : ((cl n f l).length : Int) = (l : Int) := by rw [cl_len]
  have g2 : ¬ (l : Int) = 0 := by omega
  have hT : terms l ≤ 262144 := by unfold terms; split <;> omega
  by_cases g3 : (l : Int) % 2 = 1
  · have g4 : 2 * (l : Int) - 1 = ((terms l : Nat) : Int) := by unfold terms; rw [if_pos (by omega)]; omega
    (repeat (first | refine v_reg ?_ | refine v_last ?_ | refine vwp_seq ?_ | refine vwp_block ?_ | refine vwp_skip ?_ | refine vwp_exit ?_ | refine vwp_ret ?_ | refine v_cond ?_ | simp only [vm, ite_true, ite_false, eq_self, reduceIte, Nat.reduceEqDiff, Option.map, g1, l_ints, hlen, g2, g3, g4] | refine And.intro (by omega) ?_))
    refine s_call (from_spec f c1 (by omega)) (by simp only [vm, ite_true, ite_false, eq_self, reduceIte, Nat.reduceEqDiff, Option.map, List.map]) ?_
    rintro v c2 hc2 ⟨t2, rfl, ht2⟩
    (repeat (first | refine v_reg ?_ | refine v_last ?_ | refine vwp_seq ?_ | refine vwp_block ?_ | refine vwp_skip ?_ | refine vwp_exit ?_ | refine vwp_ret ?_ | refine v_cond ?_ | simp only [vm, ite_true, ite_false, eq_self, reduceIte, Nat.reduceEqDiff, Option.map] | refine And.intro (by omega) ?_))
    refine s_call (from_spec 1 c2 (by decide)) (by simp only [vm, ite_true, ite_false, eq_self, reduceIte, Nat.reduceEqDiff, Option.map, List.map]) ?_
    rintro v c3 hc3 ⟨t3, rfl, ht3⟩
    (repeat (first | refine v_reg ?_ | refine v_last ?_ | refine vwp_seq ?_ | refine vwp_block ?_ | refine vwp_skip ?_ | refine vwp_exit ?_ | refine vwp_ret ?_ | refine v_cond ?_ | simp only [vm, ite_true, ite_false, eq_self, reduceIte, Nat.reduceEqDiff, Option.map] | refine And.intro (by omega) ?_))
    refine s_call (from_spec 1 c3 (by decide)) (by simp only [vm, ite_true, ite_false, eq_self, reduceIte, Nat.reduceEqDiff, Option.map, List.map]) ?_
    rintro v c4 hc4 ⟨t4, rfl, ht4⟩
    (repeat (first | refine v_reg ?_ | refine v_last ?_ | refine vwp_seq ?_ | refine vwp_block ?_ | refine vwp_skip ?_ | refine vwp_exit ?_ | refine vwp_ret ?_ | refine v_cond ?_ | simp only [vm, ite_true, ite_false, eq_self, reduceIte, Nat.reduceEqDiff, Option.map] | refine And.intro (by omega) ?_))
    refine v_loop (fun S => ∃ c5 tp tq, S.ρ 9 = nats tp (digs 18446744073709551616 (cv n f (terms l)).1.1) ∧ S.ρ 10 = nats tq (digs 18446744073709551616 (cv n f (terms l)).2.1) ∧ Tk c c5 tp ∧ Tk c5 S.c tq ∧ c ≤ S.c) ?_ ?_
    · refine vwp_loop (fun q S => ∃ i c5 tp tq t0 u0, q = terms l - i ∧ i ≤ terms l ∧ S.ρ 6 = ints (.id tb) (cl n f l) ∧ S.ρ 9 = nats tp (digs 18446744073709551616 (cv n f i).1.1) ∧ S.ρ 11 = nats t0 (digs 18446744073709551616 (cv n f i).1.2) ∧ S.ρ 10 = nats tq (digs 18446744073709551616 (cv n f i).2.1) ∧ S.ρ 12 = nats u0 (digs 18446744073709551616 (cv n f i).2.2) ∧ S.ρ 48 = iv (terms l : Int) ∧ S.ρ 49 = iv (i : Int) ∧ S.σ = noBlk ∧ Tk c c5 tp ∧ Tk c5 S.c tq ∧ c ≤ S.c) (terms l) ?_ ?_
      · exact ⟨0, c2, t2, t3, t4, .nil, by omega, by omega, rfl, rfl, rfl, rfl, rfl, rfl, rfl, rfl, ht2.mono (by omega) (by omega), ht3.mono (by omega) hc4, (by omega : c ≤ c4)⟩
      rintro q ⟨ρ2, σ, c6⟩ ⟨i, c5, tp, tq, t0, u0, hq, hi, h6, h9, h11, h10, h12, h48, h49, hσ, htp, htq, hc6⟩
      dsimp only at h6 h9 h10 h11 h12 h48 h49 hσ htq hc6
      subst hσ
      by_cases gi : (i : Int) < (terms l : Int)
      · have e1 : (i : Int) % (l : Int) = ((i % l : Nat) : Int) := (Int.natCast_emod _ _).symm
        have hil : i % l < l := Nat.mod_lt _ hl1
        have hl2 : i % l < (ivs (cl n f l)).length := by rw [List.length_map, cl_len]; exact hil
        have hg : (ivs (cl n f l))[i % l]? = some (iv (pq n f (i + 1) : Int)) := by rw [cl_vget hil, pq_mod hsq hp]
        obtain ⟨b1, b2, b3, b4⟩ := cv_bl hsq hf255 (i := i) (by omega)
        have pb := (pq_bound hsq (i + 1)).2
        have e3 : (i : Int) + 1 = ((i + 1 : Nat) : Int) := by omega
        (repeat (first | refine v_reg ?_ | refine v_last ?_ | refine vwp_seq ?_ | refine vwp_block ?_ | refine vwp_skip ?_ | refine vwp_exit ?_ | refine vwp_ret ?_ | refine v_cond ?_ | simp only [vm, ite_true, ite_false, eq_self, reduceIte, Nat.reduceEqDiff, Option.map, h6, h9, h10, h11, h12, h48, h49, gi, l_ints, hlen, e1, a_rows, d_rows, hl2, hg] | refine And.intro (by omega) ?_))
        refine s_call (next_spec tp t0 (pq n f (i + 1)) (cv n f i).1.1 (cv n f i).1.2 c6 (by omega) b1 b2) (by simp only [vm, ite_true, ite_false, eq_self, reduceIte, Nat.reduceEqDiff, Option.map, List.map, h9, h11]) ?_
        rintro v c7 hc7 ⟨tp2, rfl, htp2⟩
        (repeat (first | refine v_reg ?_ | refine v_last ?_ | refine vwp_seq ?_ | refine vwp_block ?_ | refine vwp_skip ?_ | refine vwp_exit ?_ | refine vwp_ret ?_ | refine v_cond ?_ | simp only [vm, ite_true, ite_false, eq_self, reduceIte, Nat.reduceEqDiff, Option.map, h9, h10, h12] | refine And.intro (by omega) ?_))
        refine s_call (next_spec tq u0 (pq n f (i + 1)) (cv n f i).2.1 (cv n f i).2.2 c7 (by omega) b3 b4) (by simp only [vm, ite_true, ite_false, eq_self, reduceIte, Nat.reduceEqDiff, Option.map, List.map, h10, h12]) ?_
        rintro v c8 hc8 ⟨tq2, rfl, htq2⟩
        (repeat (first | refine v_reg ?_ | refine v_last ?_ | refine vwp_seq ?_ | refine vwp_block ?_ | refine vwp_skip ?_ | refine vwp_exit ?_ | refine vwp_ret ?_ | refine v_cond ?_ | simp only [vm, ite_true, ite_false, eq_self, reduceIte, Nat.reduceEqDiff, Option.map, h6, h9, h10, h48, h49, e3] | refine And.intro (by omega) ?_))
        exact ⟨terms l - (i + 1), by omega, i + 1, c7, tp2, tq2, tp, tq, rfl, by omega, rfl, rfl, rfl, rfl, rfl, htp2.mono (by omega) (by omega), htq2, by omega⟩
      · have : i = terms l := by omega
        subst this
        (repeat (first | refine v_reg ?_ | refine v_last ?_ | refine vwp_seq ?_ | refine vwp_block ?_ | refine vwp_skip ?_ | refine vwp_exit ?_ | refine vwp_ret ?_ | refine v_cond ?_ | simp only [vm, ite_true, ite_false, eq_self, reduceIte, Nat.reduceEqDiff, Option.map, h48, h49, gi] | refine And.intro (by omega) ?_))
        exact ⟨c5, tp, tq, h9, h10, htp, htq, hc6⟩
    rintro ⟨ρ4, σ, c9⟩ ⟨c5, tp, tq, h9, h10, htp, htq, hc9⟩
    dsimp only at h9 h10 htq hc9
    (repeat (first | refine v_reg ?_ | refine v_last ?_ | refine vwp_seq ?_ | refine vwp_block ?_ | refine vwp_skip ?_ | refine vwp_exit ?_ | refine vwp_ret ?_ | refine v_cond ?_ | simp only [vm, ite_true, ite_false, eq_self, reduceIte, Nat.reduceEqDiff, Option.map, h9, h10] | refine And.intro (by omega) ?_))
    exact fun _ _ => .inr ⟨f, l, c5, tp, tq, hsq, hf255, hp, hlb, rfl, htp, htq⟩
  · have g4 : (l : Int) - 1 = ((terms l : Nat) : Int) := by unfold terms; rw [if_neg (by omega)]; omega
    (repeat (first | refine v_reg ?_ | refine v_last ?_ | refine vwp_seq ?_ | refine vwp_block ?_ | refine vwp_skip ?_ | refine vwp_exit ?_ | refine vwp_ret ?_ | refine v_cond ?_ | simp only [vm, ite_true, ite_false, eq_self, reduceIte, Nat.reduceEqDiff, Option.map, g1, l_ints, hlen, g2, g3, g4] | refine And.intro (by omega) ?_))
    refine s_call (from_spec f c1 (by omega)) (by simp only [vm, ite_true, ite_false, eq_self, reduceIte, Nat.reduceEqDiff, Option.map, List.map]) ?_
    rintro v c2 hc2 ⟨t2, rfl, ht2⟩
    (repeat (first | refine v_reg ?_ | refine v_last ?_ | refine vwp_seq ?_ | refine vwp_block ?_ | refine vwp_skip ?_ | refine vwp_exit ?_ | refine vwp_ret ?_ | refine v_cond ?_ | simp only [vm, ite_true, ite_false, eq_self, reduceIte, Nat.reduceEqDiff, Option.map] | refine And.intro (by omega) ?_))
    refine s_call (from_spec 1 c2 (by decide)) (by simp only [vm, ite_true, ite_false, eq_self, reduceIte, Nat.reduceEqDiff, Option.map, List.map]) ?_
    rintro v c3 hc3 ⟨t3, rfl, ht3⟩
    (repeat (first | refine v_reg ?_ | refine v_last ?_ | refine vwp_seq ?_ | refine vwp_block ?_ | refine vwp_skip ?_ | refine vwp_exit ?_ | refine vwp_ret ?_ | refine v_cond ?_ | simp only [vm, ite_true, ite_false, eq_self, reduceIte, Nat.reduceEqDiff, Option.map] | refine And.intro (by omega) ?_))
    refine s_call (from_spec 1 c3 (by decide)) (by simp only [vm, ite_true, ite_false, eq_self, reduceIte, Nat.reduceEqDiff, Option.map, List.map]) ?_
    rintro v c4 hc4 ⟨t4, rfl, ht4⟩
    (repeat (first | refine v_reg ?_ | refine v_last ?_ | refine vwp_seq ?_ | refine vwp_block ?_ | refine vwp_skip ?_ | refine vwp_exit ?_ | refine vwp_ret ?_ | refine v_cond ?_ | simp only [vm, ite_true, ite_false, eq_self, reduceIte, Nat.reduceEqDiff, Option.map] | refine And.intro (by omega) ?_))
    refine v_loop (fun S => ∃ c5 tp tq, S.ρ 9 = nats tp (digs 18446744073709551616 (cv n f (terms l)).1.1) ∧ S.ρ 10 = nats tq (digs 18446744073709551616 (cv n f (terms l)).2.1) ∧ Tk c c5 tp ∧ Tk c5 S.c tq ∧ c ≤ S.c) ?_ ?_
    · refine vwp_loop (fun q S => ∃ i c5 tp tq t0 u0, q = terms l - i ∧ i ≤ terms l ∧ S.ρ 6 = ints (.id tb) (cl n f l) ∧ S.ρ 9 = nats tp (digs 18446744073709551616 (cv n f i).1.1) ∧ S.ρ 11 = nats t0 (digs 18446744073709551616 (cv n f i).1.2) ∧ S.ρ 10 = nats tq (digs 18446744073709551616 (cv n f i).2.1) ∧ S.ρ 12 = nats u0 (digs 18446744073709551616 (cv n f i).2.2) ∧ S.ρ 48 = iv (terms l : Int) ∧ S.ρ 49 = iv (i : Int) ∧ S.σ = noBlk ∧ Tk c c5 tp ∧ Tk c5 S.c tq ∧ c ≤ S.c) (terms l) ?_ ?_
      · exact ⟨0, c2, t2, t3, t4, .nil, by omega, by omega, rfl, rfl, rfl, rfl, rfl, rfl, rfl, rfl, ht2.mono (by omega) (by omega), ht3.mono (by omega) hc4, (by omega : c ≤ c4)⟩
      rintro q ⟨ρ2, σ, c6⟩ ⟨i, c5, tp, tq, t0, u0, hq, hi, h6, h9, h11, h10, h12, h48, h49, hσ, htp, htq, hc6⟩
      dsimp only at h6 h9 h10 h11 h12 h48 h49 hσ htq hc6
      subst hσ
      by_cases gi : (i : Int) < (terms l : Int)
      · have e1 : (i : Int) % (l : Int) = ((i % l : Nat) : Int) := (Int.natCast_emod _ _).symm
        have hil : i % l < l := Nat.mod_lt _ hl1
        have hl2 : i % l < (ivs (cl n f l)).length := by rw [List.length_map, cl_len]; exact hil
        have hg : (ivs (cl n f l))[i % l]? = some (iv (pq n f (i + 1) : Int)) := by rw [cl_vget hil, pq_mod hsq hp]
        obtain ⟨b1, b2, b3, b4⟩ := cv_bl hsq hf255 (i := i) (by omega)
        have pb := (pq_bound hsq (i + 1)).2
        have e3 : (i : Int) + 1 = ((i + 1 : Nat) : Int) := by omega
        (repeat (first | refine v_reg ?_ | refine v_last ?_ | refine vwp_seq ?_ | refine vwp_block ?_ | refine vwp_skip ?_ | refine vwp_exit ?_ | refine vwp_ret ?_ | refine v_cond ?_ | simp only [vm, ite_true, ite_false, eq_self, reduceIte, Nat.reduceEqDiff, Option.map, h6, h9, h10, h11, h12, h48, h49, gi, l_ints, hlen, e1, a_rows, d_rows, hl2, hg] | refine And.intro (by omega) ?_))
        refine s_call (next_spec tp t0 (pq n f (i + 1)) (cv n f i).1.1 (cv n f i).1.2 c6 (by omega) b1 b2) (by simp only [vm, ite_true, ite_false, eq_self, reduceIte, Nat.reduceEqDiff, Option.map, List.map, h9, h11]) ?_
        rintro v c7 hc7 ⟨tp2, rfl, htp2⟩
        (repeat (first | refine v_reg ?_ | refine v_last ?_ | refine vwp_seq ?_ | refine vwp_block ?_ | refine vwp_skip ?_ | refine vwp_exit ?_ | refine vwp_ret ?_ | refine v_cond ?_ | simp only [vm, ite_true, ite_false, eq_self, reduceIte, Nat.reduceEqDiff, Option.map, h9, h10, h12] | refine And.intro (by omega) ?_))
        refine s_call (next_spec tq u0 (pq n f (i + 1)) (cv n f i).2.1 (cv n f i).2.2 c7 (by omega) b3 b4) (by simp only [vm, ite_true, ite_false, eq_self, reduceIte, Nat.reduceEqDiff, Option.map, List.map, h10, h12]) ?_
        rintro v c8 hc8 ⟨tq2, rfl, htq2⟩
        (repeat (first | refine v_reg ?_ | refine v_last ?_ | refine vwp_seq ?_ | refine vwp_block ?_ | refine vwp_skip ?_ | refine vwp_exit ?_ | refine vwp_ret ?_ | refine v_cond ?_ | simp only [vm, ite_true, ite_false, eq_self, reduceIte, Nat.reduceEqDiff, Option.map, h6, h9, h10, h48, h49, e3] | refine And.intro (by omega) ?_))
        exact ⟨terms l - (i + 1), by omega, i + 1, c7, tp2, tq2, tp, tq, rfl, by omega, rfl, rfl, rfl, rfl, rfl, htp2.mono (by omega) (by omega), htq2, by omega⟩
      · have : i = terms l := by omega
        subst this
        (repeat (first | refine v_reg ?_ | refine v_last ?_ | refine vwp_seq ?_ | refine vwp_block ?_ | refine vwp_skip ?_ | refine vwp_exit ?_ | refine vwp_ret ?_ | refine v_cond ?_ | simp only [vm, ite_true, ite_false, eq_self, reduceIte, Nat.reduceEqDiff, Option.map, h48, h49, gi] | refine And.intro (by omega) ?_))
        exact ⟨c5, tp, tq, h9, h10, htp, htq, hc6⟩
    rintro ⟨ρ4, σ, c9⟩ ⟨c5, tp, tq, h9, h10, htp, htq, hc9⟩
    dsimp only at h9 h10 htq hc9
    (repeat (first | refine v_reg ?_ | refine v_last ?_ | refine vwp_seq ?_ | refine vwp_block ?_ | refine vwp_skip ?_ | refine vwp_exit ?_ | refine vwp_ret ?_ | refine v_cond ?_ | simp only [vm, ite_true, ite_false, eq_self, reduceIte, Nat.reduceEqDiff, Option.map, h9, h10] | refine And.intro (by omega) ?_))
    exact fun _ _ => .inr ⟨f, l, c5, tp, tq, hsq, hf255, hp, hlb, rfl, htp, htq⟩

/-- the answer of the document's 'Pell' -/
def Pell04R (n : Nat) (r : V) : Prop := (∃ f, f * f = n ∧ r = .tup [nil1, nil1, iv 1]) ∨ ∃ f l tp tq, Sq n f ∧ Per n f l ∧ r = .tup [nats tp (digs 4294967296 (cv n f (terms l)).1.1), nats tq (digs 4294967296 (cv n f (terms l)).2.1), iv 0]
theorem pell04_spec (n : Int) (c : Nat) : VSpec Try.prog F.surdref04_Pell c [iv n] (fun r c' => ((n < 0 ∨ 65536 < n) → r = .tup [nil1, nil1, iv 1]) ∧ (0 ≤ n → n ≤ 65536 → Pell04R n.toNat r)) := by
  refine spec_mk hm E.surdref04_Pell B.surdref04_Pell K.surdref04_Pell Q.surdref04_Pell (by rw [N.surdref04_Pell]; simp) ?_
  unfold C.surdref04_Pell R.surdref04_Pell
  (repeat (first | refine v_reg ?_ | refine v_last ?_ | refine vwp_seq ?_ | refine vwp_block ?_ | refine vwp_skip ?_ | refine vwp_exit ?_ | refine vwp_ret ?_ | refine v_cond ?_ | simp only [vm, ite_true, ite_false, eq_self, reduceIte, Nat.reduceEqDiff, Option.map] | refine And.intro (by omega) ?_))
  refine s_call (chain04_spec n c) (by simp only [vm, ite_true, ite_false, eq_self, reduceIte, Nat.reduceEqDiff, Option.map, List.map]) ?_
  rintro v c1 hc1 ⟨w1, w2⟩
  by_cases g : n < 0 ∨ 65536 < n
  · obtain rfl := w1 g
    have z1 : ¬ (1 : Int) = 0 := by decide
    (repeat (first | refine v_reg ?_ | refine v_last ?_ | refine vwp_seq ?_ | refine vwp_block ?_ | refine vwp_skip ?_ | refine vwp_exit ?_ | refine vwp_ret ?_ | refine v_cond ?_ | simp only [vm, ite_true, ite_false, eq_self, reduceIte, Nat.reduceEqDiff, Option.map, z1] | refine And.intro (by omega) ?_))
    exact ⟨fun _ => trivial, fun h => by omega⟩
  obtain ⟨n, rfl⟩ : ∃ k : Nat, n = (k : Int) := ⟨n.toNat, by omega⟩
  have e0 : ((n : Int)).toNat = n := by omega
  have hn : n ≤ 65536 := by omega
  rw [e0] at w2 ⊢
  obtain ⟨f, hf1, hf2, h | ⟨hsq, l, tb, hp, hlb, rfl, htb, htb2⟩⟩ := w2 (by omega) (by omega)
  · obtain ⟨hfe, rfl⟩ := h
    (repeat (first | refine v_reg ?_ | refine v_last ?_ | refine vwp_seq ?_ | refine vwp_block ?_ | refine vwp_skip ?_ | refine vwp_exit ?_ | refine vwp_ret ?_ | refine v_cond ?_ | simp only [vm, ite_true, ite_false, eq_self, reduceIte, Nat.reduceEqDiff, Option.map, l_nil] | refine And.intro (by omega) ?_))
    exact fun _ _ => .inl ⟨f, hfe, rfl⟩
  have hf255 := sq255 hn hsq.f1
  have hl1 := hp.one
  have hlen : ((cl n f l).length : Int) = (l : Int) := by rw [cl_len]
  have g2 : ¬ (l : Int) = 0 := by omega
  have hT : terms l ≤ 262144 := by unfold terms; split <;> omega
  have hbn : bl n ≤ 17 := bl_le (by omega)
  have hb1 : bl 1 = 1 := by decide
  (repeat (first | refine v_reg ?_ | refine v_last ?_ | refine vwp_seq ?_ | refine vwp_block ?_ | refine vwp_skip ?_ | refine vwp_exit ?_ | refine vwp_ret ?_ | refine v_cond ?_ | simp only [vm, ite_true, ite_false, eq_self, reduceIte, Nat.reduceEqDiff, Option.map, l_ints, hlen, g2] | refine And.intro (by omega) ?_))
  refine s_call (intR 1 c1 (by decide)) (by simp only [vm, ite_true, ite_false, eq_self, reduceIte, Nat.reduceEqDiff, Option.map, List.map]; rfl) ?_
  rintro v c2 hc2 ⟨j2, rfl, _, _⟩
  (repeat (first | refine v_reg ?_ | refine v_last ?_ | refine vwp_seq ?_ | refine vwp_block ?_ | refine vwp_skip ?_ | refine vwp_exit ?_ | refine vwp_ret ?_ | refine v_cond ?_ | simp only [vm, ite_true, ite_false, eq_self, reduceIte, Nat.reduceEqDiff, Option.map] | refine And.intro (by omega) ?_))
  refine s_call (intR f c2 (by omega)) (by simp only [vm, ite_true, ite_false, eq_self, reduceIte, Nat.reduceEqDiff, Option.map, List.map]) ?_
  rintro v c3 hc3 ⟨j3, rfl, _, _⟩
  (repeat (first | refine v_reg ?_ | refine v_last ?_ | refine vwp_seq ?_ | refine vwp_block ?_ | refine vwp_skip ?_ | refine vwp_exit ?_ | refine vwp_ret ?_ | refine v_cond ?_ | simp only [vm, ite_true, ite_false, eq_self, reduceIte, Nat.reduceEqDiff, Option.map] | refine And.intro (by omega) ?_))
  refine vwp_loop (fun q S => ∃ i tp tq t0 u0, q = terms l - i ∧ i ≤ terms l ∧ S.ρ 0 = iv (n : Int) ∧ S.ρ 6 = ints (.id tb) (cl n f l) ∧ S.ρ 8 = nats (.id j2) (digs 4294967296 1) ∧ S.ρ 9 = nats t0 (digs 4294967296 (cv n f i).1.2) ∧ S.ρ 10 = nats u0 (digs 4294967296 (cv n f i).2.2) ∧ S.ρ 11 = nats tp (digs 4294967296 (cv n f i).1.1) ∧ S.ρ 12 = nats tq (digs 4294967296 (cv n f i).2.1) ∧ S.ρ 13 = iv (i : Int) ∧ S.σ = noBlk ∧ c ≤ S.c) (terms l) ?_ ?_
  · exact ⟨0, .id j3, .id j2, .id j2, .nil, by omega, by omega, rfl, rfl, rfl, rfl, rfl, rfl, rfl, rfl, rfl, (by omega : c ≤ c3)⟩
  rintro q ⟨ρ2, σ, d0⟩ ⟨i, tp, tq, t0, u0, hq, hi, h0, h6, h8, h9, h10, h11, h12, h13, hσ, hd0⟩
  dsimp only at h0 h6 h8 h9 h10 h11 h12 h13 hσ hd0
  subst hσ
  obtain ⟨b1, b2, b3, b4⟩ := cv_bl hsq hf255 (i := i) (by omega)
  have hb5 := bl_mul_le (cv n f i).1.1 (cv n f i).1.1
  have hb6 := bl_mul_le (cv n f i).2.1 (cv n f i).2.1
  have hb7 := bl_mul_le n ((cv n f i).2.1 * (cv n f i).2.1)
  have hb8 : bl (n * ((cv n f i).2.1 * (cv n f i).2.1) + 1) ≤ 10000000 + 1 := bl_add_le (by omega) (by omega)
  have hpi := pell_iff hsq i
  (repeat (first | refine v_reg ?_ | refine v_last ?_ | refine vwp_seq ?_ | refine vwp_block ?_ | refine vwp_skip ?_ | refine vwp_exit ?_ | refine vwp_ret ?_ | refine v_cond ?_ | simp only [vm, ite_true, ite_false, eq_self, reduceIte, Nat.reduceEqDiff, Option.map, h0, h6, h8, h9, h10, h11, h12, h13] | refine And.intro (by omega) ?_))
  refine s_call (mulR tp tp (cv n f i).1.1 (cv n f i).1.1 d0 (by omega) (by omega)) (by simp only [vm, ite_true, ite_false, eq_self, reduceIte, Nat.reduceEqDiff, Option.map, List.map, h11]) ?_
  rintro v d1 hd1 ⟨k1, rfl, _, _⟩
  (repeat (first | refine v_reg ?_ | refine v_last ?_ | refine vwp_seq ?_ | refine vwp_block ?_ | refine vwp_skip ?_ | refine vwp_exit ?_ | refine vwp_ret ?_ | refine v_cond ?_ | simp only [vm, ite_true, ite_false, eq_self, reduceIte, Nat.reduceEqDiff, Option.map, h0, h12, h8] | refine And.intro (by omega) ?_))
  refine s_call (intR n d1 (by omega)) (by simp only [vm, ite_true, ite_false, eq_self, reduceIte, Nat.reduceEqDiff, Option.map, List.map, h0]) ?_
  rintro v d2 hd2 ⟨k2, rfl, _, _⟩
  (repeat (first | refine v_reg ?_ | refine v_last ?_ | refine vwp_seq ?_ | refine vwp_block ?_ | refine vwp_skip ?_ | refine vwp_exit ?_ | refine vwp_ret ?_ | refine v_cond ?_ | simp only [vm, ite_true, ite_false, eq_self, reduceIte, Nat.reduceEqDiff, Option.map, h0, h12, h8] | refine And.intro (by omega) ?_))
  refine s_call (mulR tq tq (cv n f i).2.1 (cv n f i).2.1 d2 (by omega) (by omega)) (by simp only [vm, ite_true, ite_false, eq_self, reduceIte, Nat.reduceEqDiff, Option.map, List.map, h12]) ?_
  rintro v d3 hd3 ⟨k3, rfl, _, _⟩
  (repeat (first | refine v_reg ?_ | refine v_last ?_ | refine vwp_seq ?_ | refine vwp_block ?_ | refine vwp_skip ?_ | refine vwp_exit ?_ | refine vwp_ret ?_ | refine v_cond ?_ | simp only [vm, ite_true, ite_false, eq_self, reduceIte, Nat.reduceEqDiff, Option.map, h0, h12, h8] | refine And.intro (by omega) ?_))
  refine s_call (mulR (.id k2) (.id k3) n ((cv n f i).2.1 * (cv n f i).2.1) d3 (by omega) (by omega)) (by simp only [vm, ite_true, ite_false, eq_self, reduceIte, Nat.reduceEqDiff, Option.map, List.map]) ?_
  rintro v d4 hd4 ⟨k4, rfl, _, _⟩
  (repeat (first | refine v_reg ?_ | refine v_last ?_ | refine vwp_seq ?_ | refine vwp_block ?_ | refine vwp_skip ?_ | refine vwp_exit ?_ | refine vwp_ret ?_ | refine v_cond ?_ | simp only [vm, ite_true, ite_false, eq_self, reduceIte, Nat.reduceEqDiff, Option.map, h8] | refine And.intro (by omega) ?_))
  refine s_call (addR (.id k4) (.id j2) (n * ((cv n f i).2.1 * (cv n f i).2.1)) 1 d4 (by omega) (by omega)) (by simp only [vm, ite_true, ite_false, eq_self, reduceIte, Nat.reduceEqDiff, Option.map, List.map, h8]) ?_
  rintro v d5 hd5 ⟨k5, rfl, _, _⟩
  (repeat (first | refine v_reg ?_ | refine v_last ?_ | refine vwp_seq ?_ | refine vwp_block ?_ | refine vwp_skip ?_ | refine vwp_exit ?_ | refine vwp_ret ?_ | refine v_cond ?_ | simp only [vm, ite_true, ite_false, eq_self, reduceIte, Nat.reduceEqDiff, Option.map] | refine And.intro (by omega) ?_))
  refine s_call (cmpR (.id k1) (.id k5) ((cv n f i).1.1 * (cv n f i).1.1) (n * ((cv n f i).2.1 * (cv n f i).2.1) + 1) d5 (by omega) (by omega)) (by simp only [vm, ite_true, ite_false, eq_self, reduceIte, Nat.reduceEqDiff, Option.map, List.map]) ?_
  rintro v d6 hd6 rfl
  by_cases gi : i = terms l
  · subst gi
    obtain ⟨q1, q2⟩ := terms_end hsq hp
    have gc := cmpI_zero.2 (hpi.2 ⟨q1, q2⟩)
    (repeat (first | refine v_reg ?_ | refine v_last ?_ | refine vwp_seq ?_ | refine vwp_block ?_ | refine vwp_skip ?_ | refine vwp_exit ?_ | refine vwp_ret ?_ | refine v_cond ?_ | simp only [vm, ite_true, ite_false, eq_self, reduceIte, Nat.reduceEqDiff, Option.map, h11, h12, gc] | refine And.intro (by omega) ?_))
    exact fun _ _ => .inr ⟨f, l, tp, tq, hsq, hp, rfl⟩
  have gc : ¬ cmpI ((cv n f i).1.1 * (cv n f i).1.1) (n * ((cv n f i).2.1 * (cv n f i).2.1) + 1) = 0 := fun h => by
    obtain ⟨q1, q2⟩ := hpi.1 (cmpI_zero.1 h)
    exact terms_first hsq hp (by omega) q1 q2
  have e1 : (i : Int) % (l : Int) = ((i % l : Nat) : Int) := (Int.natCast_emod _ _).symm
  have hil : i % l < l := Nat.mod_lt _ hl1
  have hl2 : i % l < (ivs (cl n f l)).length := by rw [List.length_map, cl_len]; exact hil
  have hg : (ivs (cl n f l))[i % l]? = some (iv (pq n f (i + 1) : Int)) := by rw [cl_vget hil, pq_mod hsq hp]
  have pb := (pq_bound hsq (i + 1)).2
  have hbp : bl (pq n f (i + 1)) ≤ 17 := bl_le (by omega)
  have hb9 := bl_mul_le (pq n f (i + 1)) (cv n f i).1.1
  have hb10 := bl_mul_le (pq n f (i + 1)) (cv n f i).2.1
  have e3 : (i : Int) + 1 = ((i + 1 : Nat) : Int) := by omega
  (repeat (first | refine v_reg ?_ | refine v_last ?_ | refine vwp_seq ?_ | refine vwp_block ?_ | refine vwp_skip ?_ | refine vwp_exit ?_ | refine vwp_ret ?_ | refine v_cond ?_ | simp only [vm, ite_true, ite_false, eq_self, reduceIte, Nat.reduceEqDiff, Option.map, h6, h13, l_ints, hlen, e1, a_rows, d_rows, hl2, hg, gc] | refine And.intro (by omega) ?_))
  refine s_call (intR (pq n f (i + 1)) d6 (by omega)) (by simp only [vm, ite_true, ite_false, eq_self, reduceIte, Nat.reduceEqDiff, Option.map, List.map]) ?_
  rintro v d7 hd7 ⟨k7, rfl, _, _⟩
  (repeat (first | refine v_reg ?_ | refine v_last ?_ | refine vwp_seq ?_ | refine vwp_block ?_ | refine vwp_skip ?_ | refine vwp_exit ?_ | refine vwp_ret ?_ | refine v_cond ?_ | simp only [vm, ite_true, ite_false, eq_self, reduceIte, Nat.reduceEqDiff, Option.map, h11, h9] | refine And.intro (by omega) ?_))
  refine s_call (mulR (.id k7) tp (pq n f (i + 1)) (cv n f i).1.1 d7 (by omega) (by omega)) (by simp only [vm, ite_true, ite_false, eq_self, reduceIte, Nat.reduceEqDiff, Option.map, List.map, h11]) ?_
  rintro v d8 hd8 ⟨k8, rfl, _, _⟩
  (repeat (first | refine v_reg ?_ | refine v_last ?_ | refine vwp_seq ?_ | refine vwp_block ?_ | refine vwp_skip ?_ | refine vwp_exit ?_ | refine vwp_ret ?_ | refine v_cond ?_ | simp only [vm, ite_true, ite_false, eq_self, reduceIte, Nat.reduceEqDiff, Option.map, h11, h9] | refine And.intro (by omega) ?_))
  refine s_call (addR (.id k8) t0 (pq n f (i + 1) * (cv n f i).1.1) (cv n f i).1.2 d8 (by omega) (by omega)) (by simp only [vm, ite_true, ite_false, eq_self, reduceIte, Nat.reduceEqDiff, Option.map, List.map, h9]) ?_
  rintro v d9 hd9 ⟨k9, rfl, _, _⟩
  (repeat (first | refine v_reg ?_ | refine v_last ?_ | refine vwp_seq ?_ | refine vwp_block ?_ | refine vwp_skip ?_ | refine vwp_exit ?_ | refine vwp_ret ?_ | refine v_cond ?_ | simp only [vm, ite_true, ite_false, eq_self, reduceIte, Nat.reduceEqDiff, Option.map, h11, h12, h10] | refine And.intro (by omega) ?_))
  refine s_call (mulR (.id k7) tq (pq n f (i + 1)) (cv n f i).2.1 d9 (by omega) (by omega)) (by simp only [vm, ite_true, ite_false, eq_self, reduceIte, Nat.reduceEqDiff, Option.map, List.map, h12]) ?_
  rintro v d10 hd10 ⟨k10, rfl, _, _⟩
  (repeat (first | refine v_reg ?_ | refine v_last ?_ | refine vwp_seq ?_ | refine vwp_block ?_ | refine vwp_skip ?_ | refine vwp_exit ?_ | refine vwp_ret ?_ | refine v_cond ?_ | simp only [vm, ite_true, ite_false, eq_self, reduceIte, Nat.reduceEqDiff, Option.map, h12, h10] | refine And.intro (by omega) ?_))
  refine s_call (addR (.id k10) u0 (pq n f (i + 1) * (cv n f i).2.1) (cv n f i).2.2 d10 (by omega) (by omega)) (by simp only [vm, ite_true, ite_false, eq_self, reduceIte, Nat.reduceEqDiff, Option.map, List.map, h10]) ?_
  rintro v d11 hd11 ⟨k11, rfl, _, _⟩
  (repeat (first | refine v_reg ?_ | refine v_last ?_ | refine vwp_seq ?_ | refine vwp_block ?_ | refine vwp_skip ?_ | refine vwp_exit ?_ | refine vwp_ret ?_ | refine v_cond ?_ | simp only [vm, ite_true, ite_false, eq_self, reduceIte, Nat.reduceEqDiff, Option.map, h0, h6, h8, h11, h12, h13, e3] | refine And.intro (by omega) ?_))
  exact ⟨terms l - (i + 1), by omega, i + 1, .id k9, .id k11, tp, tq, rfl, by omega, rfl, rfl, rfl, rfl, rfl, by omega⟩
end Go.Proofs.Ytladcfeibpddeab
set_option linter.unusedSimpArgs false
set_option linter.unusedVariables false
set_option maxRecDepth 100000
set_option maxHeartbeats 8000000
namespace Go.Proofs.Ytladcfeibpddeab
open Go.VM Go.RowKit

theorem cv_pos {n f : Nat} (h : Sq n f) : ∀ i, 0 < (cv n f i).1.1 ∧ 0 < (cv n f i).2.1
  | 0 => ⟨h.f0, Nat.one_pos⟩
  | i + 1 => by
    obtain ⟨h1, h3⟩ := cv_pos h i
    have h2 := (pq_bound h (i + 1)).1
    have h4 : 1 * (cv n f i).1.1 ≤ pq n f (i + 1) * (cv n f i).1.1 := Nat.mul_le_mul_right _ h2
    have h5 : 1 * (cv n f i).2.1 ≤ pq n f (i + 1) * (cv n f i).2.1 := Nat.mul_le_mul_right _ h2
    refine ⟨?_, ?_⟩
    · show 0 < pq n f (i + 1) * (cv n f i).1.1 + (cv n f i).1.2
      omega
    · show 0 < pq n f (i + 1) * (cv n f i).2.1 + (cv n f i).2.2
      omega
theorem digs_ne {x : Nat} (h : 0 < x) : digs 18446744073709551616 x ≠ [] := fun e => by
  have := val_digs two64 x
  rw [e] at this
  have h2 : (0 : Nat) = x := this
  omega
def PellO (c c' n : Nat) (r : V) : Prop := (∃ f, f * f = n ∧ r = .tup [nil1, nil1, iv 1]) ∨ ∃ f l ip iq, Sq n f ∧ f ≤ 255 ∧ Per n f l ∧ l ≤ 131072 ∧ r = .tup [nats (.id ip) (digs 18446744073709551616 (cv n f (terms l)).1.1), nats (.id iq) (digs 18446744073709551616 (cv n f (terms l)).2.1), iv 0] ∧ c ≤ ip ∧ ip < iq ∧ iq < c'
theorem pell_own (n : Int) (c : Nat) : VSpec Try.prog F.roots_Pell c [iv n] (fun r c' => ((n < 0 ∨ 65536 < n) → r = .tup [nil1, nil1, iv 1]) ∧ (0 ≤ n → n ≤ 65536 → PellO c c' n.toNat r)) := by
  refine VSpec.clean (pell_spec n c) fun r c' hc ⟨h1, h2⟩ => ?_
  by_cases g : 0 ≤ n ∧ n ≤ 65536
  · rcases h2 g.1 g.2 with h | ⟨f, l, c1, tp, tq, hsq, hf, hp, hl, rfl, htp, htq⟩
    · exact .inl ⟨h1, fun _ _ => .inl h⟩
    · obtain ⟨px, py⟩ := cv_pos hsq (terms l)
      have bad : Void (.tup [nats tp (digs 18446744073709551616 (cv n.toNat f (terms l)).1.1), nats tq (digs 18446744073709551616 (cv n.toNat f (terms l)).2.1), iv 0]) → Void (.tup [nats tp (digs 18446744073709551616 (cv n.toNat f (terms l)).1.1), nats tq (digs 18446744073709551616 (cv n.toNat f (terms l)).2.1), iv 0]) ∧ ∃ r2 c2, c ≤ c2 ∧ (((n < 0 ∨ 65536 < n) → r2 = .tup [nil1, nil1, iv 1]) ∧ (0 ≤ n → n ≤ 65536 → PellO c c2 n.toNat r2)) := fun hv =>
        ⟨hv, _, c + 2, by omega, fun h => by omega, fun _ _ => .inr ⟨f, l, c, c + 1, hsq, hf, hp, hl, rfl, by omega, by omega, by omega⟩⟩
      rcases htp with rfl | ⟨ip, rfl, i1, i2⟩
      · exact .inr (bad (void_tup (by simp) (digs_ne px)))
      · rcases htq with rfl | ⟨iq, rfl, i3, i4⟩
        · exact .inr (bad (void_tup (by simp) (digs_ne py)))
        · exact .inl ⟨h1, fun _ _ => .inr ⟨f, l, ip, iq, hsq, hf, hp, hl, rfl, i1, by omega, i4⟩⟩
  · exact .inl ⟨h1, fun h3 h4 => absurd ⟨h3, h4⟩ g⟩
theorem per_uniq {n f l l2 : Nat} (p : Per n f l) (p2 : Per n f l2) : l = l2 := by
  rcases Nat.lt_trichotomy l l2 with g | g | g
  · exact absurd p.fin (p2.no l p.one g)
  · exact g
  · exact absurd p2.fin (p.no l2 p2.one g)
theorem sq_no {n f g : Nat} (h : Sq n f) (e : g * g = n) : False := by
  have h1 := h.f1
  have h2 := sq_inj (f := f) (f2 := g) (n := n) (Nat.le_of_lt h1) h.f2 (Nat.le_of_eq e) (by rw [← e]; exact Nat.mul_lt_mul'' (by omega) (by omega))
  subst h2
  omega
theorem chain_sq {c c' n f : Nat} {r : V} (e : f * f = n) (h : ChainR c c' n r) : r = .tup [iv (f : Int), nil1, iv 0] := by
  obtain ⟨f2, h1, h2, ⟨h3, h4⟩ | ⟨h3, _⟩⟩ := h
  · have := sq_inj (f := f) (f2 := f2) (n := n) (Nat.le_of_eq e) (by rw [← e]; exact Nat.mul_lt_mul'' (by omega) (by omega)) h1 h2
    rw [h4, this]
  · exact (sq_no h3 e).elim
theorem chain_per {c c' n f l : Nat} {r : V} (hs : Sq n f) (hp : Per n f l) (h : ChainR c c' n r) : ∃ tb, r = .tup [iv (f : Int), ints (.id tb) (cl n f l), iv 0] ∧ c ≤ tb ∧ tb < c' := by
  obtain ⟨f2, h1, h2, ⟨h3, h4⟩ | ⟨h3, l2, tb, hp2, _, h4, h5, h6⟩⟩ := h
  · exact (sq_no hs h3).elim
  · have e := sq_inj (Nat.le_of_lt hs.f1) hs.f2 h1 h2
    subst e
    have e := per_uniq hp hp2
    subst e
    exact ⟨tb, h4, h5, h6⟩
theorem pell_per {c c' n f l : Nat} {r : V} (hs : Sq n f) (hp : Per n f l) (h : PellO c c' n r) : ∃ ip iq, r = .tup [nats (.id ip) (digs 18446744073709551616 (cv n f (terms l)).1.1), nats (.id iq) (digs 18446744073709551616 (cv n f (terms l)).2.1), iv 0] ∧ c ≤ ip ∧ ip < iq ∧ iq < c' := by
  rcases h with ⟨g, h3, _⟩ | ⟨f2, l2, ip, iq, h3, _, hp2, _, h4, h5, h6, h7⟩
  · exact (sq_no hs h3).elim
  · have e := sq_inj (Nat.le_of_lt hs.f1) hs.f2 (Nat.le_of_lt h3.f1) h3.f2
    subst e
    have e := per_uniq hp hp2
    subst e
    exact ⟨ip, iq, h4, h5, h6, h7⟩
theorem pell_sq {c c' n f : Nat} {r : V} (e : f * f = n) (h : PellO c c' n r) : r = .tup [nil1, nil1, iv 1] := by
  rcases h with ⟨g, h3, h4⟩ | ⟨f2, l2, ip, iq, h3, _⟩
  · exact h4
  · exact (sq_no h3 e).elim
theorem pell04_per {n f l : Nat} {r : V} (hs : Sq n f) (hp : Per n f l) (h : Pell04R n r) : ∃ tp tq, r = .tup [nats tp (digs 4294967296 (cv n f (terms l)).1.1), nats tq (digs 4294967296 (cv n f (terms l)).2.1), iv 0] := by
  rcases h with ⟨g, h3, _⟩ | ⟨f2, l2, tp, tq, h3, hp2, h4⟩
  · exact (sq_no hs h3).elim
  · have e := sq_inj (Nat.le_of_lt hs.f1) hs.f2 (Nat.le_of_lt h3.f1) h3.f2
    subst e
    have e := per_uniq hp hp2
    subst e
    exact ⟨tp, tq, h4⟩
theorem pell04_sq {n f : Nat} {r : V} (e : f * f = n) (h : Pell04R n r) : r = .tup [nil1, nil1, iv 1] := by
  rcases h with ⟨g, h3, h4⟩ | ⟨f2, l2, tp, tq, h3, _⟩
  · exact h4
  · exact (sq_no h3 e).elim
theorem thaw_ints {q : Nat} {t : Tok} {l : List Nat} (h : t.apart q = true) : V.thaw q (ints t l) = ints t l := by
  unfold V.thaw
  rw [if_pos]
  simp only [V.still, Bool.and_eq_true, List.all_eq_true, List.mem_map]
  refine ⟨h, ?_⟩
  rintro x ⟨n, _, rfl⟩
  rfl
theorem apart_row {lo hi q : Nat} {t : Tok} {l : List Nat} (h : Row1 lo hi t l) (hq : q < lo) : t.apart q = true := by
  rcases h with ⟨rfl, _⟩ | ⟨j, rfl, h, _⟩
  · rfl
  · exact beq_no (by omega)
theorem apart_tk {lo hi q : Nat} {t : Tok} (h : Tk lo hi t) (hq : q < lo) : t.apart q = true := by
  rcases h with rfl | ⟨j, rfl, h, _⟩
  · rfl
  · exact beq_no (by omega)
theorem thawed_noI (ρ : Nat → V) (c i t n sz : Nat) (l : List V) : Go.VM.thawed ⟨ρ, noBlk, c⟩ i t n sz l = ⟨upd (fun j => (ρ j).thaw t) i (.buf t 0 n none sz), supd noBlk t (some ⟨l, true⟩), c⟩ := by
  simp only [Go.VM.thawed]
  congr 1
/-- the list, written over up to i -/
def overC (l : List Nat) (i : Nat) : List V := List.replicate i (iv (-7)) ++ (ivs l).drop i
theorem overC_len {l : List Nat} {i : Nat} (h : i ≤ l.length) : (overC l i).length = l.length := by simp [overC]; omega
theorem overC_get {l : List Nat} {i : Nat} (h : i < l.length) : (overC l i)[i]? = some (iv ((l.getD i 0 : Nat) : Int)) := by
  unfold overC
  rw [List.getElem?_append_right (by simp), List.length_replicate, Nat.sub_self, List.getElem?_drop, Nat.add_zero]
  exact ivs_get h
theorem overC_set {l : List Nat} {i : Nat} (h : i < l.length) : (overC l i).set i (iv (-7)) = overC l (i + 1) := by
  refine List.ext_getElem? fun j => ?_
  rw [List.getElem?_set, overC_len (Nat.le_of_lt h)]
  unfold overC
  by_cases e : i = j
  · subst e
    rw [if_pos rfl, if_pos h, List.getElem?_append_left (by simp), List.getElem?_replicate, if_pos (by omega)]
  · rw [if_neg e]
    rcases Nat.lt_or_ge j i with g | g
    · rw [List.getElem?_append_left (by simp; omega), List.getElem?_append_left (by simp; omega), List.getElem?_replicate, List.getElem?_replicate, if_pos g, if_pos (by omega)]
    · rw [List.getElem?_append_right (by simp; omega), List.getElem?_append_right (by simp; omega), List.length_replicate, List.length_replicate, List.getElem?_drop, List.getElem?_drop]
      congr 1
      omega

theorem s_ownG {P : Program} {c0 : Nat} {ρ : Nat → V} {c i : Nat} {r : List VO} {K : VS → Prop} {σ : Nat → Option Blk} {f : FuncId} {x : X} {tL lo : Nat} {ps : List (Tok × List Nat)} (hf : OwnSpec P f) (hx : x.ev ρ = .sl (.id tL) 1 (rowsV ps)) (hc : c0 ≤ lo) (h0 : 0 < ps.length) (h1 : ps.length ≤ 1000000) (hp : ∀ p ∈ ps, Row1 lo tL p.1 p.2 ∧ p.2.length ≤ 4398046511104) (hl : lo ≤ tL) (ha : ps.Pairwise (fun p q => Apt p.1 q.1))
    (hk : ∀ σ', wps P false c0 r ⟨upd (kill (some (.inr (tL :: ids (rowsV ps)))) ρ) i (bv true), σ', c⟩ K) : wps P false c0 (⟨some i, .call f [x], none⟩ :: r) ⟨ρ, σ, c⟩ K := by
  show opS P false c0 (.call f [x]) (some i) _ _
  exact ⟨_, _, _, _, .own rfl hf hx (ownable_of hc h0 h1 hp hl ha), hk _⟩

theorem chains_law (n : Int) (c : Nat) (hn1 : -9223372036854775808 ≤ n) (hn2 : n < 9223372036854775808) :
    VSpec Try.prog F.surdlaw04_RootChains c [iv n] (fun r _ => r = bv true) := by
  refine spec_mk hm E.surdlaw04_RootChains B.surdlaw04_RootChains K.surdlaw04_RootChains Q.surdlaw04_RootChains (by rw [N.surdlaw04_RootChains]; simp) ?_
  unfold C.surdlaw04_RootChains R.surdlaw04_RootChains
  have z1 : ¬ (1 : Int) = 0 := by decide
  have z0 : ¬ (0 : Int) < 0 := by decide
  (repeat (first | refine v_reg ?_ | refine v_last ?_ | refine vwp_seq ?_ | refine vwp_block ?_ | refine vwp_skip ?_ | refine vwp_exit ?_ | refine vwp_ret ?_ | refine v_cond ?_ | simp only [vm, ite_true, ite_false, eq_self, reduceIte, Nat.reduceEqDiff, Option.map] | refine And.intro (by omega) ?_))
  refine s_call (chain_spec n c) (by simp only [vm, ite_true, ite_false, eq_self, reduceIte, Nat.reduceEqDiff, Option.map, List.map]) ?_
  rintro v c1 hc1 ⟨w1, w2⟩
  by_cases g : n < 0 ∨ 65536 < n
  · obtain rfl := w1 g
    (repeat (first | refine v_reg ?_ | refine v_last ?_ | refine vwp_seq ?_ | refine vwp_block ?_ | refine vwp_skip ?_ | refine vwp_exit ?_ | refine vwp_ret ?_ | refine v_cond ?_ | simp only [vm, ite_true, ite_false, eq_self, reduceIte, Nat.reduceEqDiff, Option.map] | refine And.intro (by omega) ?_))
    refine s_call (chain_spec n c1) (by simp only [vm, ite_true, ite_false, eq_self, reduceIte, Nat.reduceEqDiff, Option.map, List.map]) ?_
    rintro v c2 hc2 ⟨p1, _⟩
    obtain rfl := p1 g
    (repeat (first | refine v_reg ?_ | refine v_last ?_ | refine vwp_seq ?_ | refine vwp_block ?_ | refine vwp_skip ?_ | refine vwp_exit ?_ | refine vwp_ret ?_ | refine v_cond ?_ | simp only [vm, ite_true, ite_false, eq_self, reduceIte, Nat.reduceEqDiff, Option.map] | refine And.intro (by omega) ?_))
    refine s_call (chain04_spec n c2) (by simp only [vm, ite_true, ite_false, eq_self, reduceIte, Nat.reduceEqDiff, Option.map, List.map]) ?_
    rintro v c3 hc3 ⟨p1, _⟩
    obtain rfl := p1 g
    (repeat (first | refine v_reg ?_ | refine v_last ?_ | refine vwp_seq ?_ | refine vwp_block ?_ | refine vwp_skip ?_ | refine vwp_exit ?_ | refine vwp_ret ?_ | refine v_cond ?_ | simp only [vm, ite_true, ite_false, eq_self, reduceIte, Nat.reduceEqDiff, Option.map] | refine And.intro (by omega) ?_))
    refine s_call (pell_own n c3) (by simp only [vm, ite_true, ite_false, eq_self, reduceIte, Nat.reduceEqDiff, Option.map, List.map]) ?_
    rintro v c4 hc4 ⟨p1, _⟩
    obtain rfl := p1 g
    (repeat (first | refine v_reg ?_ | refine v_last ?_ | refine vwp_seq ?_ | refine vwp_block ?_ | refine vwp_skip ?_ | refine vwp_exit ?_ | refine vwp_ret ?_ | refine v_cond ?_ | simp only [vm, ite_true, ite_false, eq_self, reduceIte, Nat.reduceEqDiff, Option.map] | refine And.intro (by omega) ?_))
    refine s_call (pell04_spec n c4) (by simp only [vm, ite_true, ite_false, eq_self, reduceIte, Nat.reduceEqDiff, Option.map, List.map]) ?_
    rintro v c5 hc5 ⟨p1, _⟩
    obtain rfl := p1 g
    (repeat (first | refine v_reg ?_ | refine v_last ?_ | refine vwp_seq ?_ | refine vwp_block ?_ | refine vwp_skip ?_ | refine vwp_exit ?_ | refine vwp_ret ?_ | refine v_cond ?_ | simp only [vm, ite_true, ite_false, eq_self, reduceIte, Nat.reduceEqDiff, Option.map, z0, z1] | refine And.intro (by omega) ?_))
    refine s_call (num_spec 1 c5) (by simp only [vm, ite_true, ite_false, eq_self, reduceIte, Nat.reduceEqDiff, Option.map, List.map]) ?_
    rintro v c6 hc6 rfl
    (repeat (first | refine v_reg ?_ | refine v_last ?_ | refine vwp_seq ?_ | refine vwp_block ?_ | refine vwp_skip ?_ | refine vwp_exit ?_ | refine vwp_ret ?_ | refine v_cond ?_ | simp only [vm, ite_true, ite_false, eq_self, reduceIte, Nat.reduceEqDiff, Option.map, z0, z1] | refine And.intro (by omega) ?_))
    refine s_call (num_spec 1 c6) (by simp only [vm, ite_true, ite_false, eq_self, reduceIte, Nat.reduceEqDiff, Option.map, List.map]) ?_
    rintro v c7 hc7 rfl
    (repeat (first | refine v_reg ?_ | refine v_last ?_ | refine vwp_seq ?_ | refine vwp_block ?_ | refine vwp_skip ?_ | refine vwp_exit ?_ | refine vwp_ret ?_ | refine v_cond ?_ | simp only [vm, ite_true, ite_false, eq_self, reduceIte, Nat.reduceEqDiff, Option.map, l_nil] | refine And.intro (by omega) ?_))
    refine s_call (alike_err 1 .nil [] c7 (by decide)) (by simp only [vm, ite_true, ite_false, eq_self, reduceIte, Nat.reduceEqDiff, Option.map, List.map]; rfl) ?_
    rintro v c8 hc8 rfl
    (repeat (first | refine v_reg ?_ | refine v_last ?_ | refine vwp_seq ?_ | refine vwp_block ?_ | refine vwp_skip ?_ | refine vwp_exit ?_ | refine vwp_ret ?_ | refine v_cond ?_ | simp only [vm, ite_true, ite_false, eq_self, reduceIte, Nat.reduceEqDiff, Option.map] | refine And.intro (by omega) ?_))
    refine s_call (alike_err 1 .nil [] c8 (by decide)) (by simp only [vm, ite_true, ite_false, eq_self, reduceIte, Nat.reduceEqDiff, Option.map, List.map]; rfl) ?_
    rintro v c9 hc9 rfl
    (repeat (first | refine v_reg ?_ | refine v_last ?_ | refine vwp_seq ?_ | refine vwp_block ?_ | refine vwp_skip ?_ | refine vwp_exit ?_ | refine vwp_ret ?_ | refine v_cond ?_ | simp only [vm, ite_true, ite_false, eq_self, reduceIte, Nat.reduceEqDiff, Option.map, l_nil] | refine And.intro (by omega) ?_))
    refine v_once ?_
    (repeat (first | refine v_reg ?_ | refine v_last ?_ | refine vwp_seq ?_ | refine vwp_block ?_ | refine vwp_skip ?_ | refine vwp_exit ?_ | refine vwp_ret ?_ | refine v_cond ?_ | simp only [vm, ite_true, ite_false, eq_self, reduceIte, Nat.reduceEqDiff, Option.map, z0, l_nil] | refine And.intro (by omega) ?_))
    refine v_once ?_
    (repeat (first | refine v_reg ?_ | refine v_last ?_ | refine vwp_seq ?_ | refine vwp_block ?_ | refine vwp_skip ?_ | refine vwp_exit ?_ | refine vwp_ret ?_ | refine v_cond ?_ | simp only [vm, ite_true, ite_false, eq_self, reduceIte, Nat.reduceEqDiff, Option.map, z0, l_nil] | refine And.intro (by omega) ?_))
    have hp : ∀ p ∈ ([(Tok.nil, []), (Tok.nil, [])] : List (Tok × List Nat)), Row1 c9 c9 p.1 p.2 ∧ p.2.length ≤ 4398046511104 := fun p hp => by simp at hp; subst hp; exact ⟨.inl ⟨rfl, rfl⟩, by decide⟩
    refine s_rows2 (p := (.nil, [])) (q := (.nil, [])) (by simp only [vm, ite_true, ite_false, eq_self, reduceIte, Nat.reduceEqDiff, Option.map]; rfl) (by simp only [vm, ite_true, ite_false, eq_self, reduceIte, Nat.reduceEqDiff, Option.map]; rfl) ?_
    refine s_ownG (lo := c9) (tL := c9) (ps := [(.nil, []), (.nil, [])]) own_spec (by simp only [vm, ite_true, ite_false, eq_self, reduceIte, Nat.reduceEqDiff, Option.map]) (by omega) (by decide) (by decide) hp (Nat.le_refl _) (by simp [Apt.nil]) ?_
    intro σ9
    (repeat (first | refine v_reg ?_ | refine v_last ?_ | refine vwp_seq ?_ | refine vwp_block ?_ | refine vwp_skip ?_ | refine vwp_exit ?_ | refine vwp_ret ?_ | refine v_cond ?_ | simp only [vm, ite_true, ite_false, eq_self, reduceIte, Nat.reduceEqDiff, Option.map, killed_own, thawL_lit] | refine And.intro (by omega) ?_))
    refine s_call (awake_spec (c9 + 1)) (by simp only [vm, ite_true, ite_false, eq_self, reduceIte, Nat.reduceEqDiff, Option.map, List.map]) ?_
    rintro v d20 hd20 rfl
    (repeat (first | refine v_reg ?_ | refine v_last ?_ | refine vwp_seq ?_ | refine vwp_block ?_ | refine vwp_skip ?_ | refine vwp_exit ?_ | refine vwp_ret ?_ | refine v_cond ?_ | simp only [vm, ite_true, ite_false, eq_self, reduceIte, Nat.reduceEqDiff, Option.map] | refine And.intro (by omega) ?_))
    omega
  obtain ⟨n, rfl⟩ : ∃ k : Nat, n = (k : Int) := ⟨n.toNat, by omega⟩
  have e0 : ((n : Int)).toNat = n := by omega
  have hn : n ≤ 65536 := by omega
  have m0 : (0 : Int) ≤ (n : Int) := by omega
  have m1 : (n : Int) ≤ 65536 := by omega
  rw [e0] at w2
  have cr := w2 m0 m1
  clear w1 w2
  obtain ⟨f, hf1, hf2, h | ⟨hsq, l, jl, hp, hlb, rfl, hjl, hjl2⟩⟩ := cr
  · obtain ⟨hfe, rfl⟩ := h
    (repeat (first | refine v_reg ?_ | refine v_last ?_ | refine vwp_seq ?_ | refine vwp_block ?_ | refine vwp_skip ?_ | refine vwp_exit ?_ | refine vwp_ret ?_ | refine v_cond ?_ | simp only [vm, ite_true, ite_false, eq_self, reduceIte, Nat.reduceEqDiff, Option.map] | refine And.intro (by omega) ?_))
    refine s_call (chain_spec n c1) (by simp only [vm, ite_true, ite_false, eq_self, reduceIte, Nat.reduceEqDiff, Option.map, List.map]) ?_
    rintro v c2 hc2 ⟨_, p1⟩
    rw [e0] at p1
    obtain rfl := chain_sq hfe (p1 m0 m1)
    clear p1
    (repeat (first | refine v_reg ?_ | refine v_last ?_ | refine vwp_seq ?_ | refine vwp_block ?_ | refine vwp_skip ?_ | refine vwp_exit ?_ | refine vwp_ret ?_ | refine v_cond ?_ | simp only [vm, ite_true, ite_false, eq_self, reduceIte, Nat.reduceEqDiff, Option.map] | refine And.intro (by omega) ?_))
    refine s_call (chain04_spec n c2) (by simp only [vm, ite_true, ite_false, eq_self, reduceIte, Nat.reduceEqDiff, Option.map, List.map]) ?_
    rintro v c3 hc3 ⟨_, p1⟩
    rw [e0] at p1
    obtain rfl := chain_sq hfe (p1 m0 m1)
    clear p1
    (repeat (first | refine v_reg ?_ | refine v_last ?_ | refine vwp_seq ?_ | refine vwp_block ?_ | refine vwp_skip ?_ | refine vwp_exit ?_ | refine vwp_ret ?_ | refine v_cond ?_ | simp only [vm, ite_true, ite_false, eq_self, reduceIte, Nat.reduceEqDiff, Option.map] | refine And.intro (by omega) ?_))
    refine s_call (pell_own n c3) (by simp only [vm, ite_true, ite_false, eq_self, reduceIte, Nat.reduceEqDiff, Option.map, List.map]) ?_
    rintro v c4 hc4 ⟨_, p1⟩
    rw [e0] at p1
    obtain rfl := pell_sq hfe (p1 m0 m1)
    clear p1
    (repeat (first | refine v_reg ?_ | refine v_last ?_ | refine vwp_seq ?_ | refine vwp_block ?_ | refine vwp_skip ?_ | refine vwp_exit ?_ | refine vwp_ret ?_ | refine v_cond ?_ | simp only [vm, ite_true, ite_false, eq_self, reduceIte, Nat.reduceEqDiff, Option.map] | refine And.intro (by omega) ?_))
    refine s_call (pell04_spec n c4) (by simp only [vm, ite_true, ite_false, eq_self, reduceIte, Nat.reduceEqDiff, Option.map, List.map]) ?_
    rintro v c5 hc5 ⟨_, p1⟩
    rw [e0] at p1
    obtain rfl := pell04_sq hfe (p1 m0 m1)
    clear p1
    (repeat (first | refine v_reg ?_ | refine v_last ?_ | refine vwp_seq ?_ | refine vwp_block ?_ | refine vwp_skip ?_ | refine vwp_exit ?_ | refine vwp_ret ?_ | refine v_cond ?_ | simp only [vm, ite_true, ite_false, eq_self, reduceIte, Nat.reduceEqDiff, Option.map, z0, z1] | refine And.intro (by omega) ?_))
    refine s_call (num_spec 0 c5) (by simp only [vm, ite_true, ite_false, eq_self, reduceIte, Nat.reduceEqDiff, Option.map, List.map]) ?_
    rintro v c6 hc6 rfl
    (repeat (first | refine v_reg ?_ | refine v_last ?_ | refine vwp_seq ?_ | refine vwp_block ?_ | refine vwp_skip ?_ | refine vwp_exit ?_ | refine vwp_ret ?_ | refine v_cond ?_ | simp only [vm, ite_true, ite_false, eq_self, reduceIte, Nat.reduceEqDiff, Option.map, z0, z1] | refine And.intro (by omega) ?_))
    refine s_call (num_spec 0 c6) (by simp only [vm, ite_true, ite_false, eq_self, reduceIte, Nat.reduceEqDiff, Option.map, List.map]) ?_
    rintro v c7 hc7 rfl
    (repeat (first | refine v_reg ?_ | refine v_last ?_ | refine vwp_seq ?_ | refine vwp_block ?_ | refine vwp_skip ?_ | refine vwp_exit ?_ | refine vwp_ret ?_ | refine v_cond ?_ | simp only [vm, ite_true, ite_false, eq_self, reduceIte, Nat.reduceEqDiff, Option.map, l_nil] | refine And.intro (by omega) ?_))
    refine s_call (alike_err 1 .nil [] c7 (by decide)) (by simp only [vm, ite_true, ite_false, eq_self, reduceIte, Nat.reduceEqDiff, Option.map, List.map]; rfl) ?_
    rintro v c8 hc8 rfl
    (repeat (first | refine v_reg ?_ | refine v_last ?_ | refine vwp_seq ?_ | refine vwp_block ?_ | refine vwp_skip ?_ | refine vwp_exit ?_ | refine vwp_ret ?_ | refine v_cond ?_ | simp only [vm, ite_true, ite_false, eq_self, reduceIte, Nat.reduceEqDiff, Option.map] | refine And.intro (by omega) ?_))
    refine s_call (alike_err 1 .nil [] c8 (by decide)) (by simp only [vm, ite_true, ite_false, eq_self, reduceIte, Nat.reduceEqDiff, Option.map, List.map]; rfl) ?_
    rintro v c9 hc9 rfl
    (repeat (first | refine v_reg ?_ | refine v_last ?_ | refine vwp_seq ?_ | refine vwp_block ?_ | refine vwp_skip ?_ | refine vwp_exit ?_ | refine vwp_ret ?_ | refine v_cond ?_ | simp only [vm, ite_true, ite_false, eq_self, reduceIte, Nat.reduceEqDiff, Option.map, l_nil] | refine And.intro (by omega) ?_))
    refine v_once ?_
    (repeat (first | refine v_reg ?_ | refine v_last ?_ | refine vwp_seq ?_ | refine vwp_block ?_ | refine vwp_skip ?_ | refine vwp_exit ?_ | refine vwp_ret ?_ | refine v_cond ?_ | simp only [vm, ite_true, ite_false, eq_self, reduceIte, Nat.reduceEqDiff, Option.map, z0, l_nil] | refine And.intro (by omega) ?_))
    refine v_once ?_
    (repeat (first | refine v_reg ?_ | refine v_last ?_ | refine vwp_seq ?_ | refine vwp_block ?_ | refine vwp_skip ?_ | refine vwp_exit ?_ | refine vwp_ret ?_ | refine v_cond ?_ | simp only [vm, ite_true, ite_false, eq_self, reduceIte, Nat.reduceEqDiff, Option.map, z0, l_nil] | refine And.intro (by omega) ?_))
    have hp : ∀ p ∈ ([(Tok.nil, []), (Tok.nil, [])] : List (Tok × List Nat)), Row1 c9 c9 p.1 p.2 ∧ p.2.length ≤ 4398046511104 := fun p hp => by simp at hp; subst hp; exact ⟨.inl ⟨rfl, rfl⟩, by decide⟩
    refine s_rows2 (p := (.nil, [])) (q := (.nil, [])) (by simp only [vm, ite_true, ite_false, eq_self, reduceIte, Nat.reduceEqDiff, Option.map]; rfl) (by simp only [vm, ite_true, ite_false, eq_self, reduceIte, Nat.reduceEqDiff, Option.map]; rfl) ?_
    refine s_ownG (lo := c9) (tL := c9) (ps := [(.nil, []), (.nil, [])]) own_spec (by simp only [vm, ite_true, ite_false, eq_self, reduceIte, Nat.reduceEqDiff, Option.map]) (by omega) (by decide) (by decide) hp (Nat.le_refl _) (by simp [Apt.nil]) ?_
    intro σ9
    (repeat (first | refine v_reg ?_ | refine v_last ?_ | refine vwp_seq ?_ | refine vwp_block ?_ | refine vwp_skip ?_ | refine vwp_exit ?_ | refine vwp_ret ?_ | refine v_cond ?_ | simp only [vm, ite_true, ite_false, eq_self, reduceIte, Nat.reduceEqDiff, Option.map, killed_own, thawL_lit] | refine And.intro (by omega) ?_))
    refine s_call (awake_spec (c9 + 1)) (by simp only [vm, ite_true, ite_false, eq_self, reduceIte, Nat.reduceEqDiff, Option.map, List.map]) ?_
    rintro v d20 hd20 rfl
    (repeat (first | refine v_reg ?_ | refine v_last ?_ | refine vwp_seq ?_ | refine vwp_block ?_ | refine vwp_skip ?_ | refine vwp_exit ?_ | refine vwp_ret ?_ | refine v_cond ?_ | simp only [vm, ite_true, ite_false, eq_self, reduceIte, Nat.reduceEqDiff, Option.map] | refine And.intro (by omega) ?_))
    omega
  (repeat (first | refine v_reg ?_ | refine v_last ?_ | refine vwp_seq ?_ | refine vwp_block ?_ | refine vwp_skip ?_ | refine vwp_exit ?_ | refine vwp_ret ?_ | refine v_cond ?_ | simp only [vm, ite_true, ite_false, eq_self, reduceIte, Nat.reduceEqDiff, Option.map] | refine And.intro (by omega) ?_))
  refine s_call (chain_spec n c1) (by simp only [vm, ite_true, ite_false, eq_self, reduceIte, Nat.reduceEqDiff, Option.map, List.map]) ?_
  rintro v c2 hc2 ⟨_, p1⟩
  rw [e0] at p1
  obtain ⟨jk, rfl, hjk, hjk2⟩ := chain_per hsq hp (p1 m0 m1)
  clear p1
  (repeat (first | refine v_reg ?_ | refine v_last ?_ | refine vwp_seq ?_ | refine vwp_block ?_ | refine vwp_skip ?_ | refine vwp_exit ?_ | refine vwp_ret ?_ | refine v_cond ?_ | simp only [vm, ite_true, ite_false, eq_self, reduceIte, Nat.reduceEqDiff, Option.map] | refine And.intro (by omega) ?_))
  refine s_call (chain04_spec n c2) (by simp only [vm, ite_true, ite_false, eq_self, reduceIte, Nat.reduceEqDiff, Option.map, List.map]) ?_
  rintro v c3 hc3 ⟨_, p1⟩
  rw [e0] at p1
  obtain ⟨jp, rfl, hjp, hjp2⟩ := chain_per hsq hp (p1 m0 m1)
  clear p1
  (repeat (first | refine v_reg ?_ | refine v_last ?_ | refine vwp_seq ?_ | refine vwp_block ?_ | refine vwp_skip ?_ | refine vwp_exit ?_ | refine vwp_ret ?_ | refine v_cond ?_ | simp only [vm, ite_true, ite_false, eq_self, reduceIte, Nat.reduceEqDiff, Option.map] | refine And.intro (by omega) ?_))
  refine s_call (pell_own n c3) (by simp only [vm, ite_true, ite_false, eq_self, reduceIte, Nat.reduceEqDiff, Option.map, List.map]) ?_
  rintro v c4 hc4 ⟨_, p1⟩
  rw [e0] at p1
  obtain ⟨ix, iy, rfl, hix, hixy, hiy⟩ := pell_per hsq hp (p1 m0 m1)
  clear p1
  (repeat (first | refine v_reg ?_ | refine v_last ?_ | refine vwp_seq ?_ | refine vwp_block ?_ | refine vwp_skip ?_ | refine vwp_exit ?_ | refine vwp_ret ?_ | refine v_cond ?_ | simp only [vm, ite_true, ite_false, eq_self, reduceIte, Nat.reduceEqDiff, Option.map] | refine And.intro (by omega) ?_))
  refine s_call (pell04_spec n c4) (by simp only [vm, ite_true, ite_false, eq_self, reduceIte, Nat.reduceEqDiff, Option.map, List.map]) ?_
  rintro v c5 hc5 ⟨_, p1⟩
  rw [e0] at p1
  obtain ⟨tx, ty, rfl⟩ := pell04_per hsq hp (p1 m0 m1)
  clear p1
  have hf255 := sq255 hn hsq.f1
  have hT : terms l ≤ 262144 := by unfold terms; split <;> omega
  obtain ⟨b1, b2, b3, b4⟩ := cv_bl hsq hf255 (i := terms l) hT
  obtain ⟨X, hX⟩ : ∃ X, X = (cv n f (terms l)).1.1 := ⟨_, rfl⟩
  obtain ⟨Y, hY⟩ : ∃ Y, Y = (cv n f (terms l)).2.1 := ⟨_, rfl⟩
  rw [← hX] at b1 ⊢
  rw [← hY] at b3 ⊢
  have hlL := cl_len n f l
  have hl1 := hp.one
  obtain ⟨L, hL⟩ : ∃ L, L = cl n f l := ⟨_, rfl⟩
  rw [← hL] at hlL ⊢
  have hLne : L ≠ [] := fun e => by rw [e, List.length_nil] at hlL; omega
  (repeat (first | refine v_reg ?_ | refine v_last ?_ | refine vwp_seq ?_ | refine vwp_block ?_ | refine vwp_skip ?_ | refine vwp_exit ?_ | refine vwp_ret ?_ | refine v_cond ?_ | simp only [vm, ite_true, ite_false, eq_self, reduceIte, Nat.reduceEqDiff, Option.map, z0, z1] | refine And.intro (by omega) ?_))
  refine s_call (num_spec 0 c5) (by simp only [vm, ite_true, ite_false, eq_self, reduceIte, Nat.reduceEqDiff, Option.map, List.map]) ?_
  rintro v c6 hc6 rfl
  (repeat (first | refine v_reg ?_ | refine v_last ?_ | refine vwp_seq ?_ | refine vwp_block ?_ | refine vwp_skip ?_ | refine vwp_exit ?_ | refine vwp_ret ?_ | refine v_cond ?_ | simp only [vm, ite_true, ite_false, eq_self, reduceIte, Nat.reduceEqDiff, Option.map, z0, z1] | refine And.intro (by omega) ?_))
  refine s_call (num_spec 0 c6) (by simp only [vm, ite_true, ite_false, eq_self, reduceIte, Nat.reduceEqDiff, Option.map, List.map]) ?_
  rintro v c7 hc7 rfl
  (repeat (first | refine v_reg ?_ | refine v_last ?_ | refine vwp_seq ?_ | refine vwp_block ?_ | refine vwp_skip ?_ | refine vwp_exit ?_ | refine vwp_ret ?_ | refine v_cond ?_ | simp only [vm, ite_true, ite_false, eq_self, reduceIte, Nat.reduceEqDiff, Option.map, l_ints] | refine And.intro (by omega) ?_))
  refine s_call (alike_ok (.id ix) tx X c7 (by omega)) (by simp only [vm, ite_true, ite_false, eq_self, reduceIte, Nat.reduceEqDiff, Option.map, List.map]) ?_
  rintro v c8 hc8 rfl
  (repeat (first | refine v_reg ?_ | refine v_last ?_ | refine vwp_seq ?_ | refine vwp_block ?_ | refine vwp_skip ?_ | refine vwp_exit ?_ | refine vwp_ret ?_ | refine v_cond ?_ | simp only [vm, ite_true, ite_false, eq_self, reduceIte, Nat.reduceEqDiff, Option.map] | refine And.intro (by omega) ?_))
  refine s_call (alike_ok (.id iy) ty Y c8 (by omega)) (by simp only [vm, ite_true, ite_false, eq_self, reduceIte, Nat.reduceEqDiff, Option.map, List.map]) ?_
  rintro v c9 hc9 rfl
  (repeat (first | refine v_reg ?_ | refine v_last ?_ | refine vwp_seq ?_ | refine vwp_block ?_ | refine vwp_skip ?_ | refine vwp_exit ?_ | refine vwp_ret ?_ | refine v_cond ?_ | simp only [vm, ite_true, ite_false, eq_self, reduceIte, Nat.reduceEqDiff, Option.map, l_ints] | refine And.intro (by omega) ?_))
  have th7 : V.thaw jl (ints (.id jk) L) = ints (.id jk) L := thaw_ints (apart_tk (lo := c1) (hi := c2) (.inr ⟨jk, rfl, hjk, hjk2⟩) hjl2)
  have th10 : V.thaw jl (ints (.id jp) L) = ints (.id jp) L := thaw_ints (apart_tk (lo := c1) (hi := c3) (.inr ⟨jp, rfl, by omega, hjp2⟩) hjl2)
  have th12 : V.thaw jl (nats (.id ix) (digs 18446744073709551616 X)) = nats (.id ix) (digs 18446744073709551616 X) := thaw_id (by omega) _
  have th13 : V.thaw jl (nats (.id iy) (digs 18446744073709551616 Y)) = nats (.id iy) (digs 18446744073709551616 Y) := thaw_id (by omega) _
  refine vwp_thaw 4 jl L.length 1 (ivs L) (by simp only [vm, ite_true, ite_false, eq_self, reduceIte, Nat.reduceEqDiff, Option.map]) (by omega) (by simp) (by simpa using hLne) (fun x hx => ?_) ?_
  · obtain ⟨n, _, rfl⟩ := List.mem_map.1 hx
    rfl
  rw [thawed_noI]
  refine v_loop (fun S => S.ρ 7 = ints (.id jk) L ∧ S.ρ 10 = ints (.id jp) L ∧ S.ρ 12 = nats (.id ix) (digs 18446744073709551616 X) ∧ S.ρ 13 = nats (.id iy) (digs 18446744073709551616 Y) ∧ c9 ≤ S.c) ?_ ?_
  · refine vwp_loop (fun q S => ∃ i, q = L.length - i ∧ i ≤ L.length ∧ S.ρ 4 = .buf jl 0 L.length none 1 ∧ S.ρ 7 = ints (.id jk) L ∧ S.ρ 10 = ints (.id jp) L ∧ S.ρ 12 = nats (.id ix) (digs 18446744073709551616 X) ∧ S.ρ 13 = nats (.id iy) (digs 18446744073709551616 Y) ∧ S.ρ 101 = iv (L.length : Int) ∧ S.ρ 102 = iv (i : Int) ∧ S.σ = supd noBlk jl (some ⟨overC L i, true⟩) ∧ c9 ≤ S.c) L.length ?_ ?_
    · refine ⟨0, by omega, by omega, ?_⟩
      simp only [vm, ite_true, ite_false, eq_self, reduceIte, Nat.reduceEqDiff, Option.map, th7, th10, th12, th13, thaw_lit]
      (repeat' apply And.intro) <;> first | rfl | omega | assumption | exact True.intro
    rintro q ⟨ρ5, σ5, e11⟩ ⟨i, hq, hi, h4, h7, h10, h12, h13, h101, h102, hσ, he11⟩
    dsimp only at h4 h7 h10 h12 h13 h101 h102 hσ he11
    subst hσ
    by_cases gi : (i : Int) < L.length
    · have hi' : i < L.length := by omega
      have e3 : (i : Int) + 1 = ((i + 1 : Nat) : Int) := by omega
      have hog := overC_get hi'
      have hos := overC_set hi'
      have hol := overC_len (l := L) (i := i) (by omega)
      have hil : (ivs L).length = L.length := by simp
      have hig := ivs_get hi'
      (repeat (first | refine v_reg ?_ | refine v_last ?_ | refine vwp_seq ?_ | refine vwp_block ?_ | refine vwp_skip ?_ | refine vwp_exit ?_ | refine vwp_ret ?_ | refine v_cond ?_ | simp only [vm, ite_true, ite_false, eq_self, reduceIte, Nat.reduceEqDiff, Option.map, h4, h7, h10, h12, h13, h101, h102, gi, d_cells, hog, a_rows, d_rows, hil, hig, t_cellI, hol, hos, e3] | refine And.intro (by omega) ?_))
      exact ⟨L.length - (i + 1), by omega, i + 1, rfl, by omega, rfl, rfl, he11⟩
    · have hi' : i = L.length := by omega
      subst hi'
      (repeat (first | refine v_reg ?_ | refine v_last ?_ | refine vwp_seq ?_ | refine vwp_block ?_ | refine vwp_skip ?_ | refine vwp_exit ?_ | refine vwp_ret ?_ | refine v_cond ?_ | simp only [vm, ite_true, ite_false, eq_self, reduceIte, Nat.reduceEqDiff, Option.map, h4, h7, h10, h12, h13, h101, h102, gi] | refine And.intro (by omega) ?_))
      (repeat' apply And.intro) <;> first | rfl | omega | assumption | exact True.intro
  rintro ⟨ρ6, σ6, c12⟩ ⟨h7, h10, h12, h13, hc12⟩
  dsimp only at h7 h10 h12 h13 hc12
  (repeat (first | refine v_reg ?_ | refine v_last ?_ | refine vwp_seq ?_ | refine vwp_block ?_ | refine vwp_skip ?_ | refine vwp_exit ?_ | refine vwp_ret ?_ | refine v_cond ?_ | simp only [vm, ite_true, ite_false, eq_self, reduceIte, Nat.reduceEqDiff, Option.map, h10, l_ints] | refine And.intro (by omega) ?_))
  refine v_loop (fun S => S.ρ 12 = nats (.id ix) (digs 18446744073709551616 X) ∧ S.ρ 13 = nats (.id iy) (digs 18446744073709551616 Y) ∧ c9 ≤ S.c) ?_ ?_
  · refine vwp_loop (fun q S => ∃ i, q = L.length - i ∧ i ≤ L.length ∧ S.ρ 7 = ints (.id jk) L ∧ S.ρ 10 = ints (.id jp) L ∧ S.ρ 12 = nats (.id ix) (digs 18446744073709551616 X) ∧ S.ρ 13 = nats (.id iy) (digs 18446744073709551616 Y) ∧ S.ρ 119 = iv (L.length : Int) ∧ S.ρ 120 = iv (i : Int) ∧ c9 ≤ S.c) L.length ?_ ?_
    · refine ⟨0, by omega, by omega, ?_⟩
      simp only [vm, ite_true, ite_false, eq_self, reduceIte, Nat.reduceEqDiff, Option.map, h7, h10, h12, h13]
      (repeat' apply And.intro) <;> first | rfl | omega | assumption | exact True.intro
    rintro q ⟨ρ5, σ5, e11⟩ ⟨i, hq, hi, h7, h10, h12, h13, h119, h120, he11⟩
    dsimp only at h7 h10 h12 h13 h119 h120 he11
    by_cases gi : (i : Int) < L.length
    · have hi' : i < L.length := by omega
      have e3 : (i : Int) + 1 = ((i + 1 : Nat) : Int) := by omega
      have hil : (ivs L).length = L.length := by simp
      have hig := ivs_get hi'
      (repeat (first | refine v_reg ?_ | refine v_last ?_ | refine vwp_seq ?_ | refine vwp_block ?_ | refine vwp_skip ?_ | refine vwp_exit ?_ | refine vwp_ret ?_ | refine v_cond ?_ | simp only [vm, ite_true, ite_false, eq_self, reduceIte, Nat.reduceEqDiff, Option.map, h7, h10, h12, h13, h119, h120, gi, a_rows, d_rows, hil, hig, e3] | refine And.intro (by omega) ?_))
      refine ⟨L.length - (i + 1), by omega, i + 1, ?_⟩
      (repeat' apply And.intro) <;> first | rfl | omega | assumption | exact True.intro
    · have hi' : i = L.length := by omega
      subst hi'
      (repeat (first | refine v_reg ?_ | refine v_last ?_ | refine vwp_seq ?_ | refine vwp_block ?_ | refine vwp_skip ?_ | refine vwp_exit ?_ | refine vwp_ret ?_ | refine v_cond ?_ | simp only [vm, ite_true, ite_false, eq_self, reduceIte, Nat.reduceEqDiff, Option.map, h7, h10, h12, h13, h119, h120, gi] | refine And.intro (by omega) ?_))
      (repeat' apply And.intro) <;> first | rfl | omega | assumption | exact True.intro
  rintro ⟨ρ7, σ7, c13⟩ ⟨h12, h13, hc13⟩
  dsimp only at h12 h13 hc13
  have lx : (digs 18446744073709551616 X).length ≤ 1048576 := digs_len_bl (by omega)
  have ly : (digs 18446744073709551616 Y).length ≤ 1048576 := digs_len_bl (by omega)
  have hrp : ∀ p ∈ ([(.id ix, digs 18446744073709551616 X), (.id iy, digs 18446744073709551616 Y)] : List (Tok × List Nat)), Row1 c3 c13 p.1 p.2 ∧ p.2.length ≤ 4398046511104 := fun p hp => by
    simp only [List.mem_cons, List.not_mem_nil, or_false] at hp
    rcases hp with rfl | rfl
    · exact ⟨.inr ⟨ix, rfl, by omega, by omega⟩, by simp only; omega⟩
    · exact ⟨.inr ⟨iy, rfl, by omega, by omega⟩, by simp only; omega⟩
  have hapt : Apt (.id ix) (.id iy) := fun i h1 h2 => by cases h1; cases h2; omega
  (repeat (first | refine v_reg ?_ | refine v_last ?_ | refine vwp_seq ?_ | refine vwp_block ?_ | refine vwp_skip ?_ | refine vwp_exit ?_ | refine vwp_ret ?_ | refine v_cond ?_ | simp only [vm, ite_true, ite_false, eq_self, reduceIte, Nat.reduceEqDiff, Option.map, h12, h13] | refine And.intro (by omega) ?_))
  refine s_rows2 (p := (.id ix, digs 18446744073709551616 X)) (q := (.id iy, digs 18446744073709551616 Y)) (by simp only [vm, ite_true, ite_false, eq_self, reduceIte, Nat.reduceEqDiff, Option.map, h12]) (by simp only [vm, ite_true, ite_false, eq_self, reduceIte, Nat.reduceEqDiff, Option.map, h13]) ?_
  refine s_ownG (lo := c3) (tL := c13) (ps := [(.id ix, digs 18446744073709551616 X), (.id iy, digs 18446744073709551616 Y)]) own_spec (by simp only [vm, ite_true, ite_false, eq_self, reduceIte, Nat.reduceEqDiff, Option.map]) (by omega) (by simp) (by simp) hrp (by omega) (by simp [hapt]) ?_
  intro σ9
  (repeat (first | refine v_reg ?_ | refine v_last ?_ | refine vwp_seq ?_ | refine vwp_block ?_ | refine vwp_skip ?_ | refine vwp_exit ?_ | refine vwp_ret ?_ | refine v_cond ?_ | simp only [vm, ite_true, ite_false, eq_self, reduceIte, Nat.reduceEqDiff, Option.map, killed_own, thawL_lit] | refine And.intro (by omega) ?_))
  refine s_call (awake_spec (c13 + 1)) (by simp only [vm, ite_true, ite_false, eq_self, reduceIte, Nat.reduceEqDiff, Option.map, List.map]) ?_
  rintro v d20 hd20 rfl
  (repeat (first | refine v_reg ?_ | refine v_last ?_ | refine vwp_seq ?_ | refine vwp_block ?_ | refine vwp_skip ?_ | refine vwp_exit ?_ | refine vwp_ret ?_ | refine v_cond ?_ | simp only [vm, ite_true, ite_false, eq_self, reduceIte, Nat.reduceEqDiff, Option.map] | refine And.intro (by omega) ?_))
  omega
end Go.Proofs.Ytladcfeibpddeab
set_option linter.unusedVariables false
set_option maxRecDepth 100000
namespace Go.Proofs.Ytladcfeibpddeab
open Go.VM Go.ChangeShapes Go.WideShapes Go.ChangeAt Go.RowKit

theorem own : ownKnob Try.prog.godebug = none := by kernel_rfl
theorem rep_ints {W : World} {xs : List V} {vs : Array Value} {l : List (V × Value)} (hx : xs = l.map Prod.fst) (hv : vs = (l.map Prod.snd).toArray) (h : ∀ p ∈ l, Rep W (fun b => b < W.heap.size) (fun _ => 0) 0 p.1 p.2) :
    ∀ (j : Nat) (x : V) (v : Value), xs[j]? = some x → vs[j]? = some v → Rep W (fun b => b < W.heap.size) (fun _ => 0) 0 x v := by
  intro j x v h1 h2
  subst hx hv
  rw [List.getElem?_map] at h1
  obtain ⟨p, hp, rfl⟩ := Option.map_eq_some_iff.1 h1
  have h2' : (l.map Prod.snd)[j]? = some v := by simpa using h2
  rw [List.getElem?_map, hp] at h2'
  cases h2'
  exact h p (List.mem_of_getElem? hp)
theorem wf_i64 {n : Int} (h : (Lit.int .i64 n).wf = true) : -9223372036854775808 ≤ n ∧ n < 9223372036854775808 := by
  simp [Lit.wf, IntKind.min, IntKind.max, IntKind.signed, IntKind.bits] at h
  omega

theorem row_contract (H : Type) (enc : TypeId × Value → H) (W : World) (base : Nat) (args : Array Value) (ds gs : List (DataW H)) (before : List MemPlace)
    (hval : ∀ (j : Nat) t v, Try.f9.params[j]? = some t → args[j]? = some v → Value.okWide Try.prog W .any base t v)
    (hW : DataW.Whole enc Try.prog Try.f9.params.toList Rows.rootChainsSpec.vars false W args.toList ds gs before) :
    Calls Try.prog 9 args W fun e W' => ∃ v, e = .returned v ∧ Rows.rootChainsSpec.post enc Try.prog Try.f9 false true false false W args v W' := by
  have hW' := hW
  obtain ⟨p, q, hA0, hV, rfl, hfz, hnd⟩ := hW
  have hA : DataW.TrodAll enc Try.prog W 0 (fun _ => true) true Try.f9.params.toList args.toList ds p := hA0
  rw [Try.params9] at hA hval
  obtain ⟨v1, vs1, d1, ds1, p1, q1, hargs1, rfl, rfl, h1, r1⟩ := trodAll_cons hA
  obtain ⟨rfl, rfl, rfl⟩ := trodAll_nil r1
  obtain rfl : args = #[v1] := by cases args; simp_all
  obtain ⟨rfl, rfl⟩ := trodVars_none hV
  clear hA0
  obtain ⟨n1, rfl, rfl, rfl, w1⟩ := open_int Try.underlying3 (hval 0 3 v1 rfl rfl) h1
  simp only [List.append_nil] at hW'
  obtain ⟨b1, b1'⟩ := wf_i64 w1
  obtain ⟨r, c9, _, hc9, hr9⟩ := chains_law n1 0 b1 b1'
  subst hr9
  refine (calls_same hc9 W #[.int .i64 n1] rfl (rep_ints (l := [(iv n1, .int .i64 n1)]) rfl rfl (fun p hp => ?_)) ⟨_, rfl⟩).mono fun e W' ⟨v, he, hv, hs⟩ => ?_
  · simp only [List.mem_cons, List.not_mem_nil, or_false] at hp
    subst hp
    exact .lit _
  subst he
  cases hv
  exact ⟨_, rfl, post_kept (pa := []) (pv := []) hW' hs (fun _ _ _ => trodAll_cons_mk (shut_bool Try.underlying4 _) trodAll_mk0)
    (fun sp hsp => by
      rw [Try.params9]
      exact trodAll_cons_mk (shut_int Try.underlying3 w1) trodAll_mk0) (fun _ _ => rfl) (by simp)
    (ok_one (by kernel_rfl) rfl (okWide_bool_mk Try.underlying4 _))⟩

theorem row_lifted (os : Os) (started : os.Started) (H : Type) (enc : TypeId × Value → H) :
    ReturnsInHanded {} Try.checked os 9 .any (Rows.rootChainsSpec.pre6 enc Try.prog Try.f9 Rows.rootChainsRow.domain false) (Rows.rootChainsSpec.post enc Try.prog Try.f9 false true false false) := by
  refine returnsInHanded_of_change (C := Try.checked) own started (by kernel_rfl) Try.func9
    (ChangeSpec.witness6 (enc := enc) (C := Try.checked) false ⟨#[], #[.int .i64 0], []⟩ 8 (by kernel_rfl) (by kernel_rfl) (by kernel_rfl) (by kernel_rfl) (by kernel_rfl)) ?_
  intro W base args ds gs before hval hW _ _
  exact row_contract H enc W base args ds gs before hval hW

theorem row_holds : Rows.RootChainsSaid :=
  OpenClaim.holds_of_wide 9 Try.f9 rfl rfl rfl rfl rfl rfl rfl ⟨rfl, rfl, rfl, rfl, rfl⟩ rfl rfl rfl rfl rfl (by kernel_rfl) Try.func9 (by kernel_rfl)
    (of_decide_eq_true (by kernel_rfl)) (by unfold Func.isWrapper; first | (rw [if_pos (by decide +kernel)]; kernel_rfl) | (rw [if_neg (by decide +kernel)]; exact ⟨rfl, rfl⟩))
    (fun os started H enc _ => row_lifted os started H enc)
#print axioms row_holds
end Go.Proofs.Ytladcfeibpddeab
