/- The claim of RootPell (a period reads the same from both ends, but for its last number, twice the first; Pell's equation is fulfilled) of the program holds: whatever number comes in, the law answers true, with no condition beyond the statement's own, and memory that was there is as it was. -/
import Derived.Test.YtladcfeibpddeabPelM5
set_option linter.unusedSimpArgs false
set_option linter.unusedVariables false
set_option maxRecDepth 100000
set_option maxHeartbeats 8000000
namespace Go.Proofs.Ytladcfeibpddeab
open Go.VM Go.RowKit

/-! ### Pell's equation -/
theorem cv_lt {n f : Nat} (h : Sq n f) (hf : f ≤ 255) : ∀ i, (cv n f i).1.1 < 2 ^ (9 * (i + 1)) ∧ (cv n f i).1.2 < 2 ^ (9 * (i + 1)) ∧ (cv n f i).2.1 < 2 ^ (9 * (i + 1)) ∧ (cv n f i).2.2 < 2 ^ (9 * (i + 1))
  | 0 => by
    refine ⟨?_, ?_, ?_, ?_⟩
    · show f < 2 ^ 9; omega
    · show 1 < 2 ^ 9; decide
    · show 1 < 2 ^ 9; decide
    · show 0 < 2 ^ 9; decide
  | i + 1 => by
    obtain ⟨h1, h2, h3, h4⟩ := cv_lt h hf i
    have pb := (pq_bound h (i + 1)).2
    have e : 2 ^ (9 * (i + 1 + 1)) = 512 * 2 ^ (9 * (i + 1)) := by
      rw [Nat.mul_succ 9 (i + 1), Nat.pow_add, Nat.mul_comm]
    rw [e]
    generalize 2 ^ (9 * (i + 1)) = X at *
    have key : ∀ P P' : Nat, P < X → P' < X → pq n f (i + 1) * P + P' < 512 * X := fun P P' g1 g2 => by
      have : pq n f (i + 1) * P ≤ 510 * P := Nat.mul_le_mul_right P (by omega)
      omega
    refine ⟨key _ _ h1 h2, ?_, key _ _ h3 h4, ?_⟩
    · show (cv n f i).1.1 < 512 * X; omega
    · show (cv n f i).2.1 < 512 * X; omega
theorem cv_bl {n f : Nat} (h : Sq n f) (hf : f ≤ 255) {i : Nat} (hi : i ≤ 262144) : bl (cv n f i).1.1 ≤ 2359305 ∧ bl (cv n f i).1.2 ≤ 2359305 ∧ bl (cv n f i).2.1 ≤ 2359305 ∧ bl (cv n f i).2.2 ≤ 2359305 := by
  obtain ⟨h1, h2, h3, h4⟩ := cv_lt h hf i
  exact ⟨Nat.le_trans (bl_le h1) (by omega), Nat.le_trans (bl_le h2) (by omega), Nat.le_trans (bl_le h3) (by omega), Nat.le_trans (bl_le h4) (by omega)⟩

theorem next_spec (t u : Tok) (m x y c : Nat) (hml : m ≤ 65536) (hx : bl x ≤ 2359305) (hy : bl y ≤ 2359305) :
    VSpec Try.prog F.roots_next c [nv m, nats t (digs 18446744073709551616 x), nats u (digs 18446744073709551616 y)] (fun r c' => NatR c c' (m * x + y) r) := by
  have hbm : bl m ≤ 17 := bl_le (by omega)
  have hb1 : bl (x * m) ≤ 2359400 := Nat.le_trans (bl_mul_le x m) (by omega)
  have hb2 : bl (x * m + y) ≤ 2359401 := bl_add_le hb1 (by omega)
  refine spec_mk hm E.roots_next B.roots_next K.roots_next Q.roots_next (by rw [N.roots_next]; simp) ?_
  unfold C.roots_next R.roots_next
  (repeat (first | refine v_reg ?_ | refine v_last ?_ | refine vwp_seq ?_ | refine vwp_block ?_ | refine vwp_skip ?_ | refine vwp_exit ?_ | refine vwp_ret ?_ | refine v_cond ?_ | simp only [vm, ite_true, ite_false, eq_self, reduceIte, Nat.reduceEqDiff, Option.map] | refine And.intro (by omega) ?_))
  refine s_call (times_spec t (digs 18446744073709551616 x) m c (lim_digs two64 x) (by omega) (Nat.le_trans (digs_len_bl (k := 1048576) (by omega)) (by decide))) (by simp only [vm, ite_true, ite_false, eq_self, reduceIte, Nat.reduceEqDiff, Option.map, List.map]) ?_
  rw [val_digs two64]
  rintro v c1 hc1 (⟨_, t1, rfl, ht1⟩ | ⟨h, _⟩)
  rotate_left
  · omega
  (repeat (first | refine v_reg ?_ | refine v_last ?_ | refine vwp_seq ?_ | refine vwp_block ?_ | refine vwp_skip ?_ | refine vwp_exit ?_ | refine vwp_ret ?_ | refine v_cond ?_ | simp only [vm, ite_true, ite_false, eq_self, reduceIte, Nat.reduceEqDiff, Option.map] | refine And.intro (by omega) ?_))
  refine s_call (add_spec t1 u (digs 18446744073709551616 (x * m)) (digs 18446744073709551616 y) c1 (lim_digs two64 _) (lim_digs two64 _) (Nat.le_trans (digs_len_bl (k := 1048576) (by omega)) (by decide)) (Nat.le_trans (digs_len_bl (k := 1048576) (by omega)) (by decide))) (by simp only [vm, ite_true, ite_false, eq_self, reduceIte, Nat.reduceEqDiff, Option.map, List.map]) ?_
  rw [val_digs two64, val_digs two64]
  rintro v c2 hc2 (⟨_, t2, rfl, ht2⟩ | ⟨h, _⟩)
  rotate_left
  · omega
  (repeat (first | refine v_reg ?_ | refine v_last ?_ | refine vwp_seq ?_ | refine vwp_block ?_ | refine vwp_skip ?_ | refine vwp_exit ?_ | refine vwp_ret ?_ | refine v_cond ?_ | simp only [vm, ite_true, ite_false, eq_self, reduceIte, Nat.reduceEqDiff, Option.map] | refine And.intro (by omega) ?_))
  exact ⟨t2, by rw [Nat.mul_comm m x], ht2.mono (by omega) (by omega)⟩

theorem pq_mod {n f l : Nat} (h : Sq n f) (p : Per n f l) (i : Nat) : pq n f (i % l + 1) = pq n f (i + 1) := by
  unfold pq
  rw [← per_mod h p i]

/-- the answer of 'Pell' -/
def PellR (c c' n : Nat) (r : V) : Prop := (∃ f, f * f = n ∧ r = .tup [nil1, nil1, iv 1]) ∨ ∃ f l c1 tp tq, Sq n f ∧ f ≤ 255 ∧ Per n f l ∧ l ≤ 131072 ∧ r = .tup [nats tp (digs 18446744073709551616 (cv n f (terms l)).1.1), nats tq (digs 18446744073709551616 (cv n f (terms l)).2.1), iv 0] ∧ Tk c c1 tp ∧ Tk c1 c' tq
theorem sq255 {n f : Nat} (hn : n ≤ 65536) (h : f * f < n) : f ≤ 255 := by
  rcases Nat.lt_or_ge f 256 with g | g
  · omega
  · have := sq_le_of g; omega
theorem cl_vget {n f l i : Nat} (h : i < l) : (ivs (cl n f l))[i]? = some (iv (pq n f (i + 1) : Int)) := by
  rw [ivs_get (by rw [cl_len]; exact h), cl_get h]

theorem pell_spec (n : Int) (c : Nat) : VSpec Try.prog F.roots_Pell c [iv n] (fun r c' => ((n < 0 ∨ 65536 < n) → r = .tup [nil1, nil1, iv 1]) ∧ (0 ≤ n → n ≤ 65536 → PellR c c' n.toNat r)) := by
  refine spec_mk hm E.roots_Pell B.roots_Pell K.roots_Pell Q.roots_Pell (by rw [N.roots_Pell]; simp) ?_
  unfold C.roots_Pell R.roots_Pell
  (repeat (first | refine v_reg ?_ | refine v_last ?_ | refine vwp_seq ?_ | refine vwp_block ?_ | refine vwp_skip ?_ | refine vwp_exit ?_ | refine vwp_ret ?_ | refine v_cond ?_ | simp only [vm, ite_true, ite_false, eq_self, reduceIte, Nat.reduceEqDiff, Option.map] | refine And.intro (by omega) ?_))
  refine s_call (chain_spec n c) (by simp only [vm, ite_true, ite_false, eq_self, reduceIte, Nat.reduceEqDiff, Option.map, List.map]) ?_
  rintro v c1 hc1 ⟨w1, w2⟩
  by_cases g : n < 0 ∨ 65536 < n
  · obtain rfl := w1 g
    have z1 : ¬ (1 : Int) = 0 := by decide
    (repeat (first | refine v_reg ?_ | refine v_last ?_ | refine vwp_seq ?_ | refine vwp_block ?_ | refine vwp_skip ?_ | refine vwp_exit ?_ | refine vwp_ret ?_ | refine v_cond ?_ | simp only [vm, ite_true, ite_false, eq_self, reduceIte, Nat.reduceEqDiff, Option.map, z1] | refine And.intro (by omega) ?_))
    exact ⟨fun _ => trivial, fun h => by omega⟩
  obtain ⟨n, rfl⟩ : ∃ k : Nat, n = (k : Int) := ⟨n.toNat, by omega⟩
  have e0 : ((n : Int)).toNat = n := by omega
  have hn : n ≤ 65536 := by omega
  rw [e0] at w2 ⊢
  obtain ⟨f, hf1, hf2, h | ⟨hsq, l, tb, hp, hlb, rfl, htb, htb2⟩⟩ := w2 (by omega) (by omega)
  · obtain ⟨hfe, rfl⟩ := h
    by_cases g1 : (n : Int) < 1
    · (repeat (first | refine v_reg ?_ | refine v_last ?_ | refine vwp_seq ?_ | refine vwp_block ?_ | refine vwp_skip ?_ | refine vwp_exit ?_ | refine vwp_ret ?_ | refine v_cond ?_ | simp only [vm, ite_true, ite_false, eq_self, reduceIte, Nat.reduceEqDiff, Option.map, g1] | refine And.intro (by omega) ?_))
      exact fun _ _ => .inl ⟨f, hfe, rfl⟩
    · (repeat (first | refine v_reg ?_ | refine v_last ?_ | refine vwp_seq ?_ | refine vwp_block ?_ | refine vwp_skip ?_ | refine vwp_exit ?_ | refine vwp_ret ?_ | refine v_cond ?_ | simp only [vm, ite_true, ite_false, eq_self, reduceIte, Nat.reduceEqDiff, Option.map, g1, l_nil] | refine And.intro (by omega) ?_))
      exact fun _ _ => .inl ⟨f, hfe, rfl⟩
  have hf255 := sq255 hn hsq.f1
  have hl1 := hp.one
  have g1 : ¬ (n : Int) < 1 := by have := hsq.f1; omega
  have hlen : ((cl n f l).length : Int) = (l : Int) := by rw [cl_len]
  have g2 : ¬ (l : Int) = 0 := by omega
  have hT : terms l ≤ 262144 := by unfold terms; split <;> omega
  by_cases g3 : (l : Int) % 2 = 1
  · have g4 : 2 * (l : Int) - 1 = ((terms l : Nat) : Int) := by unfold terms; rw [if_pos (by omega)]; omega
    (repeat (first | refine v_reg ?_ | refine v_last ?_ | refine vwp_seq ?_ | refine vwp_block ?_ | refine vwp_skip ?_ | refine vwp_exit ?_ | refine vwp_ret ?_ | refine v_cond ?_ | simp only [vm, ite_true, ite_false, eq_self, reduceIte, Nat.reduceEqDiff, Option.map, g1, l_ints, hlen, g2, g3, g4] | refine And.intro (by omega) ?_))
    refine s_call (from_spec f c1 (by omega)) (by simp only [vm, ite_true, ite_false, eq_self, reduceIte, Nat.reduceEqDiff, Option.map, List.map]) ?_
    rintro v c2 hc2 ⟨t2, rfl, ht2⟩
    (repeat (first | refine v_reg ?_ | refine v_last ?_ | refine vwp_seq ?_ | refine vwp_block ?_ | refine vwp_skip ?_ | refine vwp_exit ?_ | refine vwp_ret ?_ | refine v_cond ?_ | simp only [vm, ite_true, ite_false, eq_self, reduceIte, Nat.reduceEqDiff, Option.map] | refine And.intro (by omega) ?_))
    refine s_call (from_spec 1 c2 (by decide)) (by simp only [vm, ite_true, ite_false, eq_self, reduceIte, Nat.reduceEqDiff, Option.map, List.map]) ?_
    rintro v c3 hc3 ⟨t3, rfl, ht3⟩
    (repeat (first | refine v_reg ?_ | refine v_last ?_ | refine vwp_seq ?_ | refine vwp_block ?_ | refine vwp_skip ?_ | refine vwp_exit ?_ | refine vwp_ret ?_ | refine v_cond ?_ | simp only [vm, ite_true, ite_false, eq_self, reduceIte, Nat.reduceEqDiff, Option.map] | refine And.intro (by omega) ?_))
    refine s_call (from_spec 1 c3 (by decide)) (by simp only [vm, ite_true, ite_false, eq_self, reduceIte, Nat.reduceEqDiff, Option.map, List.map]) ?_
    rintro v c4 hc4 ⟨t4, rfl, ht4⟩
    (repeat (first | refine v_reg ?_ | refine v_last ?_ | refine vwp_seq ?_ | refine vwp_block ?_ | refine vwp_skip ?_ | refine vwp_exit ?_ | refine vwp_ret ?_ | refine v_cond ?_ | simp only [vm, ite_true, ite_false, eq_self, reduceIte, Nat.reduceEqDiff, Option.map] | refine And.intro (by omega) ?_))
    refine v_loop (fun S => ∃ c5 tp tq, S.ρ 9 = nats tp (digs 18446744073709551616 (cv n f (terms l)).1.1) ∧ S.ρ 10 = nats tq (digs 18446744073709551616 (cv n f (terms l)).2.1) ∧ Tk c c5 tp ∧ Tk c5 S.c tq ∧ c ≤ S.c) ?_ ?_
    · refine vwp_loop (fun q S => ∃ i c5 tp tq t0 u0, q = terms l - i ∧ i ≤ terms l ∧ S.ρ 6 = ints (.id tb) (cl n f l) ∧ S.ρ 9 = nats tp (digs 18446744073709551616 (cv n f i).1.1) ∧ S.ρ 11 = nats t0 (digs 18446744073709551616 (cv n f i).1.2) ∧ S.ρ 10 = nats tq (digs 18446744073709551616 (cv n f i).2.1) ∧ S.ρ 12 = nats u0 (digs 18446744073709551616 (cv n f i).2.2) ∧ S.ρ 48 = iv (terms l : Int) ∧ S.ρ 49 = iv (i : Int) ∧ S.σ = noBlk ∧ Tk c c5 tp ∧ Tk c5 S.c tq ∧ c ≤ S.c) (terms l) ?_ ?_
      · exact ⟨0, c2, t2, t3, t4, .nil, by omega, by omega, rfl, rfl, rfl, rfl, rfl, rfl, rfl, rfl, ht2.mono (by omega) (by omega), ht3.mono (by omega) hc4, (by omega : c ≤ c4)⟩
      rintro q ⟨ρ2, σ, c6⟩ ⟨i, c5, tp, tq, t0, u0, hq, hi, h6, h9, h11, h10, h12, h48, h49, hσ, htp, htq, hc6⟩
      dsimp only at h6 h9 h10 h11 h12 h48 h49 hσ htq hc6
      subst hσ
      by_cases gi : (i : Int) < (terms l : Int)
      · have e1 : (i : Int) % (l : Int) = ((i % l : Nat) : Int) := (Int.natCast_emod _ _).symm
        have hil : i % l < l := Nat.mod_lt _ hl1
        have hl2 : i % l < (ivs (cl n f l)).length := by rw [List.length_map, cl_len]; exact hil
        have hg : (ivs (cl n f l))[i % l]? = some (iv (pq n f (i + 1) : Int)) := by rw [cl_vget hil, pq_mod hsq hp]
        obtain ⟨b1, b2, b3, b4⟩ := cv_bl hsq hf255 (i := i) (by omega)
        have pb := (pq_bound hsq (i + 1)).2
        have e3 : (i : Int) + 1 = ((i + 1 : Nat) : Int) := by omega
        (repeat (first | refine v_reg ?_ | refine v_last ?_ | refine vwp_seq ?_ | refine vwp_block ?_ | refine vwp_skip ?_ | refine vwp_exit ?_ | refine vwp_ret ?_ | refine v_cond ?_ | simp only [vm, ite_true, ite_false, eq_self, reduceIte, Nat.reduceEqDiff, Option.map, h6, h9, h10, h11, h12, h48, h49, gi, l_ints, hlen, e1, a_rows, d_rows, hl2, hg] | refine And.intro (by omega) ?_))
        refine s_call (next_spec tp t0 (pq n f (i + 1)) (cv n f i).1.1 (cv n f i).1.2 c6 (by omega) b1 b2) (by simp only [vm, ite_true, ite_false, eq_self, reduceIte, Nat.reduceEqDiff, Option.map, List.map, h9, h11]) ?_
        rintro v c7 hc7 ⟨tp2, rfl, htp2⟩
        (repeat (first | refine v_reg ?_ | refine v_last ?_ | refine vwp_seq ?_ | refine vwp_block ?_ | refine vwp_skip ?_ | refine vwp_exit ?_ | refine vwp_ret ?_ | refine v_cond ?_ | simp only [vm, ite_true, ite_false, eq_self, reduceIte, Nat.reduceEqDiff, Option.map, h9, h10, h12] | refine And.intro (by omega) ?_))
        refine s_call (next_spec tq u0 (pq n f (i + 1)) (cv n f i).2.1 (cv n f i).2.2 c7 (by omega) b3 b4) (by simp only [vm, ite_true, ite_false, eq_self, reduceIte, Nat.reduceEqDiff, Option.map, List.map, h10, h12]) ?_
        rintro v c8 hc8 ⟨tq2, rfl, htq2⟩
        (repeat (first | refine v_reg ?_ | refine v_last ?_ | refine vwp_seq ?_ | refine vwp_block ?_ | refine vwp_skip ?_ | refine vwp_exit ?_ | refine vwp_ret ?_ | refine v_cond ?_ | simp only [vm, ite_true, ite_false, eq_self, reduceIte, Nat.reduceEqDiff, Option.map, h6, h9, h10, h48, h49, e3] | refine And.intro (by omega) ?_))
        exact ⟨terms l - (i + 1), by omega, i + 1, c7, tp2, tq2, tp, tq, rfl, by omega, rfl, rfl, rfl, rfl, rfl, htp2.mono (by omega) (by omega), htq2, by omega⟩
      · have : i = terms l := by omega
        subst this
        (repeat (first | refine v_reg ?_ | refine v_last ?_ | refine vwp_seq ?_ | refine vwp_block ?_ | refine vwp_skip ?_ | refine vwp_exit ?_ | refine vwp_ret ?_ | refine v_cond ?_ | simp only [vm, ite_true, ite_false, eq_self, reduceIte, Nat.reduceEqDiff, Option.map, h48, h49, gi] | refine And.intro (by omega) ?_))
        exact ⟨c5, tp, tq, h9, h10, htp, htq, hc6⟩
    rintro ⟨ρ4, σ, c9⟩ ⟨c5, tp, tq, h9, h10, htp, htq, hc9⟩
    dsimp only at h9 h10 htq hc9
    (repeat (first | refine v_reg ?_ | refine v_last ?_ | refine vwp_seq ?_ | refine vwp_block ?_ | refine vwp_skip ?_ | refine vwp_exit ?_ | refine vwp_ret ?_ | refine v_cond ?_ | simp only [vm, ite_true, ite_false, eq_self, reduceIte, Nat.reduceEqDiff, Option.map, h9, h10] | refine And.intro (by omega) ?_))
    exact fun _ _ => .inr ⟨f, l, c5, tp, tq, hsq, hf255, hp, hlb, rfl, htp, htq⟩
  · have g4 : (l : Int) - 1 = ((terms l : Nat) : Int) := by unfold terms; rw [if_neg (by omega)]; omega
    (repeat (first | refine v_reg ?_ | refine v_last ?_ | refine vwp_seq ?_ | refine vwp_block ?_ | refine vwp_skip ?_ | refine vwp_exit ?_ | refine vwp_ret ?_ | refine v_cond ?_ | simp only [vm, ite_true, ite_false, eq_self, reduceIte, Nat.reduceEqDiff, Option.map, g1, l_ints, hlen, g2, g3, g4] | refine And.intro (by omega) ?_))
    refine s_call (from_spec f c1 (by omega)) (by simp only [vm, ite_true, ite_false, eq_self, reduceIte, Nat.reduceEqDiff, Option.map, List.map]) ?_
    rintro v c2 hc2 ⟨t2, rfl, ht2⟩
    (repeat (first | refine v_reg ?_ | refine v_last ?_ | refine vwp_seq ?_ | refine vwp_block ?_ | refine vwp_skip ?_ | refine vwp_exit ?_ | refine vwp_ret ?_ | refine v_cond ?_ | simp only [vm, ite_true, ite_false, eq_self, reduceIte, Nat.reduceEqDiff, Option.map] | refine And.intro (by omega) ?_))
    refine s_call (from_spec 1 c2 (by decide)) (by simp only [vm, ite_true, ite_false, eq_self, reduceIte, Nat.reduceEqDiff, Option.map, List.map]) ?_
    rintro v c3 hc3 ⟨t3, rfl, ht3⟩
    (repeat (first | refine v_reg ?_ | refine v_last ?_ | refine vwp_seq ?_ | refine vwp_block ?_ | refine vwp_skip ?_ | refine vwp_exit ?_ | refine vwp_ret ?_ | refine v_cond ?_ | simp only [vm, ite_true, ite_false, eq_self, reduceIte, Nat.reduceEqDiff, Option.map] | refine And.intro (by omega) ?_))
    refine s_call (from_spec 1 c3 (by decide)) (by simp only [vm, ite_true, ite_false, eq_self, reduceIte, Nat.reduceEqDiff, Option.map, List.map]) ?_
    rintro v c4 hc4 ⟨t4, rfl, ht4⟩
    (repeat (first | refine v_reg ?_ | refine v_last ?_ | refine vwp_seq ?_ | refine vwp_block ?_ | refine vwp_skip ?_ | refine vwp_exit ?_ | refine vwp_ret ?_ | refine v_cond ?_ | simp only [vm, ite_true, ite_false, eq_self, reduceIte, Nat.reduceEqDiff, Option.map] | refine And.intro (by omega) ?_))
    refine v_loop (fun S => ∃ c5 tp tq, S.ρ 9 = nats tp (digs 18446744073709551616 (cv n f (terms l)).1.1) ∧ S.ρ 10 = nats tq (digs 18446744073709551616 (cv n f (terms l)).2.1) ∧ Tk c c5 tp ∧ Tk c5 S.c tq ∧ c ≤ S.c) ?_ ?_
    · refine vwp_loop (fun q S => ∃ i c5 tp tq t0 u0, q = terms l - i ∧ i ≤ terms l ∧ S.ρ 6 = ints (.id tb) (cl n f l) ∧ S.ρ 9 = nats tp (digs 18446744073709551616 (cv n f i).1.1) ∧ S.ρ 11 = nats t0 (digs 18446744073709551616 (cv n f i).1.2) ∧ S.ρ 10 = nats tq (digs 18446744073709551616 (cv n f i).2.1) ∧ S.ρ 12 = nats u0 (digs 18446744073709551616 (cv n f i).2.2) ∧ S.ρ 48 = iv (terms l : Int) ∧ S.ρ 49 = iv (i : Int) ∧ S.σ = noBlk ∧ Tk c c5 tp ∧ Tk c5 S.c tq ∧ c ≤ S.c) (terms l) ?_ ?_
      · exact ⟨0, c2, t2, t3, t4, .nil, by omega, by omega, rfl, rfl, rfl, rfl, rfl, rfl, rfl, rfl, ht2.mono (by omega) (by omega), ht3.mono (by omega) hc4, (by omega : c ≤ c4)⟩
      rintro q ⟨ρ2, σ, c6⟩ ⟨i, c5, tp, tq, t0, u0, hq, hi, h6, h9, h11, h10, h12, h48, h49, hσ, htp, htq, hc6⟩
      dsimp only at h6 h9 h10 h11 h12 h48 h49 hσ htq hc6
      subst hσ
      by_cases gi : (i : Int) < (terms l : Int)
      · have e1 : (i : Int) % (l : Int) = ((i % l : Nat) : Int) := (Int.natCast_emod _ _).symm
        have hil : i % l < l := Nat.mod_lt _ hl1
        have hl2 : i % l < (ivs (cl n f l)).length := by rw [List.length_map, cl_len]; exact hil
        have hg : (ivs (cl n f l))[i % l]? = some (iv (pq n f (i + 1) : Int)) := by rw [cl_vget hil, pq_mod hsq hp]
        obtain ⟨b1, b2, b3, b4⟩ := cv_bl hsq hf255 (i := i) (by omega)
        have pb := (pq_bound hsq (i + 1)).2
        have e3 : (i : Int) + 1 = ((i + 1 : Nat) : Int) := by omega
        (repeat (first | refine v_reg ?_ | refine v_last ?_ | refine vwp_seq ?_ | refine vwp_block ?_ | refine vwp_skip ?_ | refine vwp_exit ?_ | refine vwp_ret ?_ | refine v_cond ?_ | simp only [vm, ite_true, ite_false, eq_self, reduceIte, Nat.reduceEqDiff, Option.map, h6, h9, h10, h11, h12, h48, h49, gi, l_ints, hlen, e1, a_rows, d_rows, hl2, hg] | refine And.intro (by omega) ?_))
        refine s_call (next_spec tp t0 (pq n f (i + 1)) (cv n f i).1.1 (cv n f i).1.2 c6 (by omega) b1 b2) (by simp only [vm, ite_true, ite_false, eq_self, reduceIte, Nat.reduceEqDiff, Option.map, List.map, h9, h11]) ?_
        rintro v c7 hc7 ⟨tp2, rfl, htp2⟩
        (repeat (first | refine v_reg ?_ | refine v_last ?_ | refine vwp_seq ?_ | refine vwp_block ?_ | refine vwp_skip ?_ | refine vwp_exit ?_ | refine vwp_ret ?_ | refine v_cond ?_ | simp only [vm, ite_true, ite_false, eq_self, reduceIte, Nat.reduceEqDiff, Option.map, h9, h10, h12] | refine And.intro (by omega) ?_))
        refine s_call (next_spec tq u0 (pq n f (i + 1)) (cv n f i).2.1 (cv n f i).2.2 c7 (by omega) b3 b4) (by simp only [vm, ite_true, ite_false, eq_self, reduceIte, Nat.reduceEqDiff, Option.map, List.map, h10, h12]) ?_
        rintro v c8 hc8 ⟨tq2, rfl, htq2⟩
        (repeat (first | refine v_reg ?_ | refine v_last ?_ | refine vwp_seq ?_ | refine vwp_block ?_ | refine vwp_skip ?_ | refine vwp_exit ?_ | refine vwp_ret ?_ | refine v_cond ?_ | simp only [vm, ite_true, ite_false, eq_self, reduceIte, Nat.reduceEqDiff, Option.map, h6, h9, h10, h48, h49, e3] | refine And.intro (by omega) ?_))
        exact ⟨terms l - (i + 1), by omega, i + 1, c7, tp2, tq2, tp, tq, rfl, by omega, rfl, rfl, rfl, rfl, rfl, htp2.mono (by omega) (by omega), htq2, by omega⟩
      · have : i = terms l := by omega
        subst this
        (repeat (first | refine v_reg ?_ | refine v_last ?_ | refine vwp_seq ?_ | refine vwp_block ?_ | refine vwp_skip ?_ | refine vwp_exit ?_ | refine vwp_ret ?_ | refine v_cond ?_ | simp only [vm, ite_true, ite_false, eq_self, reduceIte, Nat.reduceEqDiff, Option.map, h48, h49, gi] | refine And.intro (by omega) ?_))
        exact ⟨c5, tp, tq, h9, h10, htp, htq, hc6⟩
    rintro ⟨ρ4, σ, c9⟩ ⟨c5, tp, tq, h9, h10, htp, htq, hc9⟩
    dsimp only at h9 h10 htq hc9
    (repeat (first | refine v_reg ?_ | refine v_last ?_ | refine vwp_seq ?_ | refine vwp_block ?_ | refine vwp_skip ?_ | refine vwp_exit ?_ | refine vwp_ret ?_ | refine v_cond ?_ | simp only [vm, ite_true, ite_false, eq_self, reduceIte, Nat.reduceEqDiff, Option.map, h9, h10] | refine And.intro (by omega) ?_))
    exact fun _ _ => .inr ⟨f, l, c5, tp, tq, hsq, hf255, hp, hlb, rfl, htp, htq⟩

/-- the answer of the document's 'Pell' -/
def Pell04R (n : Nat) (r : V) : Prop := (∃ f, f * f = n ∧ r = .tup [nil1, nil1, iv 1]) ∨ ∃ f l tp tq, Sq n f ∧ Per n f l ∧ r = .tup [nats tp (digs 4294967296 (cv n f (terms l)).1.1), nats tq (digs 4294967296 (cv n f (terms l)).2.1), iv 0]
theorem pell04_spec (n : Int) (c : Nat) : VSpec Try.prog F.surdref04_Pell c [iv n] (fun r c' => ((n < 0 ∨ 65536 < n) → r = .tup [nil1, nil1, iv 1]) ∧ (0 ≤ n → n ≤ 65536 → Pell04R n.toNat r)) := by
  refine spec_mk hm E.surdref04_Pell B.surdref04_Pell K.surdref04_Pell Q.surdref04_Pell (by rw [N.surdref04_Pell]; simp) ?_
  unfold C.surdref04_Pell R.surdref04_Pell
  (repeat (first | refine v_reg ?_ | refine v_last ?_ | refine vwp_seq ?_ | refine vwp_block ?_ | refine vwp_skip ?_ | refine vwp_exit ?_ | refine vwp_ret ?_ | refine v_cond ?_ | simp only [vm, ite_true, ite_false, eq_self, reduceIte, Nat.reduceEqDiff, Option.map] | refine And.intro (by omega) ?_))
  refine s_call (chain04_spec n c) (by simp only [vm, ite_true, ite_false, eq_self, reduceIte, Nat.reduceEqDiff, Option.map, List.map]) ?_
  rintro v c1 hc1 ⟨w1, w2⟩
  by_cases g : n < 0 ∨ 65536 < n
  · obtain rfl := w1 g
    have z1 : ¬ (1 : Int) = 0 := by decide
    (repeat (first | refine v_reg ?_ | refine v_last ?_ | refine vwp_seq ?_ | refine vwp_block ?_ | refine vwp_skip ?_ | refine vwp_exit ?_ | refine vwp_ret ?_ | refine v_cond ?_ | simp only [vm, ite_true, ite_false, eq_self, reduceIte, Nat.reduceEqDiff, Option.map, z1] | refine And.intro (by omega) ?_))
    exact ⟨fun _ => trivial, fun h => by omega⟩
  obtain ⟨n, rfl⟩ : ∃ k : Nat, n = (k : Int) := ⟨n.toNat, by omega⟩
  have e0 : ((n : Int)).toNat = n := by omega
  have hn : n ≤ 65536 := by omega
  rw [e0] at w2 ⊢
  obtain ⟨f, hf1, hf2, h | ⟨hsq, l, tb, hp, hlb, rfl, htb, htb2⟩⟩ := w2 (by omega) (by omega)
  · obtain ⟨hfe, rfl⟩ := h
    (repeat (first | refine v_reg ?_ | refine v_last ?_ | refine vwp_seq ?_ | refine vwp_block ?_ | refine vwp_skip ?_ | refine vwp_exit ?_ | refine vwp_ret ?_ | refine v_cond ?_ | simp only [vm, ite_true, ite_false, eq_self, reduceIte, Nat.reduceEqDiff, Option.map, l_nil] | refine And.intro (by omega) ?_))
    exact fun _ _ => .inl ⟨f, hfe, rfl⟩
  have hf255 := sq255 hn hsq.f1
  have hl1 := hp.one
  have hlen : ((cl n f l).length : Int) = (l : Int) := by rw [cl_len]
  have g2 : ¬ (l : Int) = 0 := by omega
  have hT : terms l ≤ 262144 := by unfold terms; split <;> omega
  have hbn : bl n ≤ 17 := bl_le (by omega)
  have hb1 : bl 1 = 1 := by decide
  (repeat (first | refine v_reg ?_ | refine v_last ?_ | refine vwp_seq ?_ | refine vwp_block ?_ | refine vwp_skip ?_ | refine vwp_exit ?_ | refine vwp_ret ?_ | refine v_cond ?_ | simp only [vm, ite_true, ite_false, eq_self, reduceIte, Nat.reduceEqDiff, Option.map, l_ints, hlen, g2] | refine And.intro (by omega) ?_))
  refine s_call (intR 1 c1 (by decide)) (by simp only [vm, ite_true, ite_false, eq_self, reduceIte, Nat.reduceEqDiff, Option.map, List.map]; rfl) ?_
  rintro v c2 hc2 ⟨j2, rfl, _, _⟩
  (repeat (first | refine v_reg ?_ | refine v_last ?_ | refine vwp_seq ?_ | refine vwp_block ?_ | refine vwp_skip ?_ | refine vwp_exit ?_ | refine vwp_ret ?_ | refine v_cond ?_ | simp only [vm, ite_true, ite_false, eq_self, reduceIte, Nat.reduceEqDiff, Option.map] | refine And.intro (by omega) ?_))
  refine s_call (intR f c2 (by omega)) (by simp only [vm, ite_true, ite_false, eq_self, reduceIte, Nat.reduceEqDiff, Option.map, List.map]) ?_
  rintro v c3 hc3 ⟨j3, rfl, _, _⟩
  (repeat (first | refine v_reg ?_ | refine v_last ?_ | refine vwp_seq ?_ | refine vwp_block ?_ | refine vwp_skip ?_ | refine vwp_exit ?_ | refine vwp_ret ?_ | refine v_cond ?_ | simp only [vm, ite_true, ite_false, eq_self, reduceIte, Nat.reduceEqDiff, Option.map] | refine And.intro (by omega) ?_))
  refine vwp_loop (fun q S => ∃ i tp tq t0 u0, q = terms l - i ∧ i ≤ terms l ∧ S.ρ 0 = iv (n : Int) ∧ S.ρ 6 = ints (.id tb) (cl n f l) ∧ S.ρ 8 = nats (.id j2) (digs 4294967296 1) ∧ S.ρ 9 = nats t0 (digs 4294967296 (cv n f i).1.2) ∧ S.ρ 10 = nats u0 (digs 4294967296 (cv n f i).2.2) ∧ S.ρ 11 = nats tp (digs 4294967296 (cv n f i).1.1) ∧ S.ρ 12 = nats tq (digs 4294967296 (cv n f i).2.1) ∧ S.ρ 13 = iv (i : Int) ∧ S.σ = noBlk ∧ c ≤ S.c) (terms l) ?_ ?_
  · exact ⟨0, .id j3, .id j2, .id j2, .nil, by omega, by omega, rfl, rfl, rfl, rfl, rfl, rfl, rfl, rfl, rfl, (by omega : c ≤ c3)⟩
  rintro q ⟨ρ2, σ, d0⟩ ⟨i, tp, tq, t0, u0, hq, hi, h0, h6, h8, h9, h10, h11, h12, h13, hσ, hd0⟩
  dsimp only at h0 h6 h8 h9 h10 h11 h12 h13 hσ hd0
  subst hσ
  obtain ⟨b1, b2, b3, b4⟩ := cv_bl hsq hf255 (i := i) (by omega)
  have hb5 := bl_mul_le (cv n f i).1.1 (cv n f i).1.1
  have hb6 := bl_mul_le (cv n f i).2.1 (cv n f i).2.1
  have hb7 := bl_mul_le n ((cv n f i).2.1 * (cv n f i).2.1)
  have hb8 : bl (n * ((cv n f i).2.1 * (cv n f i).2.1) + 1) ≤ 10000000 + 1 := bl_add_le (by omega) (by omega)
  have hpi := pell_iff hsq i
  (repeat (first | refine v_reg ?_ | refine v_last ?_ | refine vwp_seq ?_ | refine vwp_block ?_ | refine vwp_skip ?_ | refine vwp_exit ?_ | refine vwp_ret ?_ | refine v_cond ?_ | simp only [vm, ite_true, ite_false, eq_self, reduceIte, Nat.reduceEqDiff, Option.map, h0, h6, h8, h9, h10, h11, h12, h13] | refine And.intro (by omega) ?_))
  refine s_call (mulR tp tp (cv n f i).1.1 (cv n f i).1.1 d0 (by omega) (by omega)) (by simp only [vm, ite_true, ite_false, eq_self, reduceIte, Nat.reduceEqDiff, Option.map, List.map, h11]) ?_
  rintro v d1 hd1 ⟨k1, rfl, _, _⟩
  (repeat (first | refine v_reg ?_ | refine v_last ?_ | refine vwp_seq ?_ | refine vwp_block ?_ | refine vwp_skip ?_ | refine vwp_exit ?_ | refine vwp_ret ?_ | refine v_cond ?_ | simp only [vm, ite_true, ite_false, eq_self, reduceIte, Nat.reduceEqDiff, Option.map, h0, h12, h8] | refine And.intro (by omega) ?_))
  refine s_call (intR n d1 (by omega)) (by simp only [vm, ite_true, ite_false, eq_self, reduceIte, Nat.reduceEqDiff, Option.map, List.map, h0]) ?_
  rintro v d2 hd2 ⟨k2, rfl, _, _⟩
  (repeat (first | refine v_reg ?_ | refine v_last ?_ | refine vwp_seq ?_ | refine vwp_block ?_ | refine vwp_skip ?_ | refine vwp_exit ?_ | refine vwp_ret ?_ | refine v_cond ?_ | simp only [vm, ite_true, ite_false, eq_self, reduceIte, Nat.reduceEqDiff, Option.map, h0, h12, h8] | refine And.intro (by omega) ?_))
  refine s_call (mulR tq tq (cv n f i).2.1 (cv n f i).2.1 d2 (by omega) (by omega)) (by simp only [vm, ite_true, ite_false, eq_self, reduceIte, Nat.reduceEqDiff, Option.map, List.map, h12]) ?_
  rintro v d3 hd3 ⟨k3, rfl, _, _⟩
  (repeat (first | refine v_reg ?_ | refine v_last ?_ | refine vwp_seq ?_ | refine vwp_block ?_ | refine vwp_skip ?_ | refine vwp_exit ?_ | refine vwp_ret ?_ | refine v_cond ?_ | simp only [vm, ite_true, ite_false, eq_self, reduceIte, Nat.reduceEqDiff, Option.map, h0, h12, h8] | refine And.intro (by omega) ?_))
  refine s_call (mulR (.id k2) (.id k3) n ((cv n f i).2.1 * (cv n f i).2.1) d3 (by omega) (by omega)) (by simp only [vm, ite_true, ite_false, eq_self, reduceIte, Nat.reduceEqDiff, Option.map, List.map]) ?_
  rintro v d4 hd4 ⟨k4, rfl, _, _⟩
  (repeat (first | refine v_reg ?_ | refine v_last ?_ | refine vwp_seq ?_ | refine vwp_block ?_ | refine vwp_skip ?_ | refine vwp_exit ?_ | refine vwp_ret ?_ | refine v_cond ?_ | simp only [vm, ite_true, ite_false, eq_self, reduceIte, Nat.reduceEqDiff, Option.map, h8] | refine And.intro (by omega) ?_))
  refine s_call (addR (.id k4) (.id j2) (n * ((cv n f i).2.1 * (cv n f i).2.1)) 1 d4 (by omega) (by omega)) (by simp only [vm, ite_true, ite_false, eq_self, reduceIte, Nat.reduceEqDiff, Option.map, List.map, h8]) ?_
  rintro v d5 hd5 ⟨k5, rfl, _, _⟩
  (repeat (first | refine v_reg ?_ | refine v_last ?_ | refine vwp_seq ?_ | refine vwp_block ?_ | refine vwp_skip ?_ | refine vwp_exit ?_ | refine vwp_ret ?_ | refine v_cond ?_ | simp only [vm, ite_true, ite_false, eq_self, reduceIte, Nat.reduceEqDiff, Option.map] | refine And.intro (by omega) ?_))
  refine s_call (cmpR (.id k1) (.id k5) ((cv n f i).1.1 * (cv n f i).1.1) (n * ((cv n f i).2.1 * (cv n f i).2.1) + 1) d5 (by omega) (by omega)) (by simp only [vm, ite_true, ite_false, eq_self, reduceIte, Nat.reduceEqDiff, Option.map, List.map]) ?_
  rintro v d6 hd6 rfl
  by_cases gi : i = terms l
  · subst gi
    obtain ⟨q1, q2⟩ := terms_end hsq hp
    have gc := cmpI_zero.2 (hpi.2 ⟨q1, q2⟩)
    (repeat (first | refine v_reg ?_ | refine v_last ?_ | refine vwp_seq ?_ | refine vwp_block ?_ | refine vwp_skip ?_ | refine vwp_exit ?_ | refine vwp_ret ?_ | refine v_cond ?_ | simp only [vm, ite_true, ite_false, eq_self, reduceIte, Nat.reduceEqDiff, Option.map, h11, h12, gc] | refine And.intro (by omega) ?_))
    exact fun _ _ => .inr ⟨f, l, tp, tq, hsq, hp, rfl⟩
  have gc : ¬ cmpI ((cv n f i).1.1 * (cv n f i).1.1) (n * ((cv n f i).2.1 * (cv n f i).2.1) + 1) = 0 := fun h => by
    obtain ⟨q1, q2⟩ := hpi.1 (cmpI_zero.1 h)
    exact terms_first hsq hp (by omega) q1 q2
  have e1 : (i : Int) % (l : Int) = ((i % l : Nat) : Int) := (Int.natCast_emod _ _).symm
  have hil : i % l < l := Nat.mod_lt _ hl1
  have hl2 : i % l < (ivs (cl n f l)).length := by rw [List.length_map, cl_len]; exact hil
  have hg : (ivs (cl n f l))[i % l]? = some (iv (pq n f (i + 1) : Int)) := by rw [cl_vget hil, pq_mod hsq hp]
  have pb := (pq_bound hsq (i + 1)).2
  have hbp : bl (pq n f (i + 1)) ≤ 17 := bl_le (by omega)
  have hb9 := bl_mul_le (pq n f (i + 1)) (cv n f i).1.1
  have hb10 := bl_mul_le (pq n f (i + 1)) (cv n f i).2.1
  have e3 : (i : Int) + 1 = ((i + 1 : Nat) : Int) := by omega
  (repeat (first | refine v_reg ?_ | refine v_last ?_ | refine vwp_seq ?_ | refine vwp_block ?_ | refine vwp_skip ?_ | refine vwp_exit ?_ | refine vwp_ret ?_ | refine v_cond ?_ | simp only [vm, ite_true, ite_false, eq_self, reduceIte, Nat.reduceEqDiff, Option.map, h6, h13, l_ints, hlen, e1, a_rows, d_rows, hl2, hg, gc] | refine And.intro (by omega) ?_))
  refine s_call (intR (pq n f (i + 1)) d6 (by omega)) (by simp only [vm, ite_true, ite_false, eq_self, reduceIte, Nat.reduceEqDiff, Option.map, List.map]) ?_
  rintro v d7 hd7 ⟨k7, rfl, _, _⟩
  (repeat (first | refine v_reg ?_ | refine v_last ?_ | refine vwp_seq ?_ | refine vwp_block ?_ | refine vwp_skip ?_ | refine vwp_exit ?_ | refine vwp_ret ?_ | refine v_cond ?_ | simp only [vm, ite_true, ite_false, eq_self, reduceIte, Nat.reduceEqDiff, Option.map, h11, h9] | refine And.intro (by omega) ?_))
  refine s_call (mulR (.id k7) tp (pq n f (i + 1)) (cv n f i).1.1 d7 (by omega) (by omega)) (by simp only [vm, ite_true, ite_false, eq_self, reduceIte, Nat.reduceEqDiff, Option.map, List.map, h11]) ?_
  rintro v d8 hd8 ⟨k8, rfl, _, _⟩
  (repeat (first | refine v_reg ?_ | refine v_last ?_ | refine vwp_seq ?_ | refine vwp_block ?_ | refine vwp_skip ?_ | refine vwp_exit ?_ | refine vwp_ret ?_ | refine v_cond ?_ | simp only [vm, ite_true, ite_false, eq_self, reduceIte, Nat.reduceEqDiff, Option.map, h11, h9] | refine And.intro (by omega) ?_))
  refine s_call (addR (.id k8) t0 (pq n f (i + 1) * (cv n f i).1.1) (cv n f i).1.2 d8 (by omega) (by omega)) (by simp only [vm, ite_true, ite_false, eq_self, reduceIte, Nat.reduceEqDiff, Option.map, List.map, h9]) ?_
  rintro v d9 hd9 ⟨k9, rfl, _, _⟩
  (repeat (first | refine v_reg ?_ | refine v_last ?_ | refine vwp_seq ?_ | refine vwp_block ?_ | refine vwp_skip ?_ | refine vwp_exit ?_ | refine vwp_ret ?_ | refine v_cond ?_ | simp only [vm, ite_true, ite_false, eq_self, reduceIte, Nat.reduceEqDiff, Option.map, h11, h12, h10] | refine And.intro (by omega) ?_))
  refine s_call (mulR (.id k7) tq (pq n f (i + 1)) (cv n f i).2.1 d9 (by omega) (by omega)) (by simp only [vm, ite_true, ite_false, eq_self, reduceIte, Nat.reduceEqDiff, Option.map, List.map, h12]) ?_
  rintro v d10 hd10 ⟨k10, rfl, _, _⟩
  (repeat (first | refine v_reg ?_ | refine v_last ?_ | refine vwp_seq ?_ | refine vwp_block ?_ | refine vwp_skip ?_ | refine vwp_exit ?_ | refine vwp_ret ?_ | refine v_cond ?_ | simp only [vm, ite_true, ite_false, eq_self, reduceIte, Nat.reduceEqDiff, Option.map, h12, h10] | refine And.intro (by omega) ?_))
  refine s_call (addR (.id k10) u0 (pq n f (i + 1) * (cv n f i).2.1) (cv n f i).2.2 d10 (by omega) (by omega)) (by simp only [vm, ite_true, ite_false, eq_self, reduceIte, Nat.reduceEqDiff, Option.map, List.map, h10]) ?_
  rintro v d11 hd11 ⟨k11, rfl, _, _⟩
  (repeat (first | refine v_reg ?_ | refine v_last ?_ | refine vwp_seq ?_ | refine vwp_block ?_ | refine vwp_skip ?_ | refine vwp_exit ?_ | refine vwp_ret ?_ | refine v_cond ?_ | simp only [vm, ite_true, ite_false, eq_self, reduceIte, Nat.reduceEqDiff, Option.map, h0, h6, h8, h11, h12, h13, e3] | refine And.intro (by omega) ?_))
  exact ⟨terms l - (i + 1), by omega, i + 1, .id k9, .id k11, tp, tq, rfl, by omega, rfl, rfl, rfl, rfl, rfl, by omega⟩
end Go.Proofs.Ytladcfeibpddeab
set_option linter.unusedSimpArgs false
set_option linter.unusedVariables false
set_option maxRecDepth 100000
set_option maxHeartbeats 8000000
namespace Go.VM
theorem step_ge {A p x : Nat} (hp : IsRoot A 2 p) (hx : 0 < x) : p ≤ (x + A / x) / 2 := by
  have h := newton_ge (A := A) (j := 1) (r := p) (x := x) hp.1 hx
  rw [Nat.mul_one, Nat.pow_one] at h
  exact h
theorem step_lt {A p x : Nat} (hp : IsRoot A 2 p) (h : p < x) : (x + A / x) / 2 < x := by
  have h1 : A / x < x := by
    rw [Nat.div_lt_iff_lt_mul (by omega)]
    have h2 := hp.2
    rw [Nat.pow_two] at h2
    exact Nat.lt_of_lt_of_le h2 (Nat.mul_le_mul h h)
  omega
theorem step_eq {A p : Nat} (hp : IsRoot A 2 p) (h : 0 < p) : (p + A / p) / 2 ≤ p + 1 := by
  have h1 : A / p < p + 3 := by
    rw [Nat.div_lt_iff_lt_mul h]
    have h2 := hp.2
    rw [Nat.pow_two, Nat.add_mul, Nat.mul_add, Nat.mul_one, Nat.one_mul] at h2
    rw [Nat.add_mul]
    omega
  omega
theorem step_half (x q : Nat) : x / 2 + q / 2 + (if x % 2 + q % 2 = 2 then 1 else 0) = (x + q) / 2 := by split <;> omega
end Go.VM
namespace Go.Proofs.Ytladcfeibpddeab
open Go.VM

theorem u_and1 {b : Bool} {x : Nat} : sbin .and b (nv x) (nv 1) = some (nv (x % 2)) := by
  have e : (BitVec.ofInt 64 (x : Int) &&& BitVec.ofInt 64 1).toNat = x % 2 := by
    simp only [BitVec.ofInt_natCast, BitVec.toNat_and, BitVec.toNat_ofNat]
    have h := Nat.and_two_pow_sub_one_eq_mod (x % 2 ^ 64) 1
    show (x % 2 ^ 64) &&& (2 ^ 1 - 1) = _
    rw [h]
    omega
  show some (V.lit (.int .u64 (IntKind.u64.wrap ((BitVec.ofInt 64 (x : Int) &&& BitVec.ofInt 64 1).toNat : Int)))) = _
  rw [e, wrap_u64 (by omega) (by omega)]

theorem bit0_spec (t : Tok) (a : List Nat) (c : Nat) (ha : Lim 18446744073709551616 a) (hna : a.length ≤ 1099511627776) : VSpec Try.prog F.nat_Bit c [nats t a, iv 0] (fun r _ => r = iv ((val 18446744073709551616 a % 2 : Nat) : Int)) := by
  refine spec_mk hm E.nat_Bit B.nat_Bit K.nat_Bit Q.nat_Bit (by rw [N.nat_Bit]; simp) ?_
  unfold C.nat_Bit R.nat_Bit
  have g1 : ¬ (0 : Int) < 0 := by decide
  have e1 : (0 : Int) / 64 = 0 := by decide
  have e2 : (0 : Int) % 64 = 0 := by decide
  have e3 : (0 : Int).toNat = 0 := rfl
  cases a with
  | nil =>
    have g2 : (([] : List Nat).length : Int) ≤ 0 := by decide
    (repeat (first | refine v_reg ?_ | refine v_last ?_ | refine vwp_seq ?_ | refine vwp_block ?_ | refine vwp_skip ?_ | refine vwp_exit ?_ | refine vwp_ret ?_ | refine v_cond ?_ | simp only [vm, ite_true, ite_false, eq_self, reduceIte, Nat.reduceEqDiff, Option.map, g1, e1, g2] | refine And.intro (by omega) ?_))
    rfl
  | cons x l =>
    have g2 : ¬ ((x :: l).length : Int) ≤ 0 := by simp only [List.length_cons]; omega
    have e4 : min 0 64 = 0 := by decide
    have e5 : (x :: l).getD 0 0 = x := rfl
    have e6 : x / 2 ^ 0 = x := by rw [Nat.pow_zero, Nat.div_one]
    (repeat (first | refine v_reg ?_ | refine v_last ?_ | refine vwp_seq ?_ | refine vwp_block ?_ | refine vwp_skip ?_ | refine vwp_exit ?_ | refine vwp_ret ?_ | refine v_cond ?_ | simp only [vm, ite_true, ite_false, eq_self, reduceIte, Nat.reduceEqDiff, Option.map, g1, e1, e2, e3, e4, e5, e6, g2, u_and1] | refine And.intro (by omega) ?_))
    rw [val]
    congr 2
    omega

theorem right1_spec (t : Tok) (a : List Nat) (c : Nat) (ha : Lim 18446744073709551616 a) (hna : a.length ≤ 1099511627776) : VSpec Try.prog F.nat_Right c [nats t a, iv 1] (fun r c' => Told c c' (val 18446744073709551616 a / 2) r) := by
  refine spec_mk hm E.nat_Right B.nat_Right K.nat_Right Q.nat_Right (by rw [N.nat_Right]; simp) ?_
  unfold C.nat_Right R.nat_Right
  have hla := digs_len_le two64 ha
  have g1 : ¬ (1 : Int) < 0 := by decide
  have g2 : ¬ (1099511627776 : Int) < 1 := by decide
  have d1 : (1 : Int) / 64 = 0 := by decide
  have d2 : (1 : Int) % 64 = 1 := by decide
  have d3 : (1 : Int).toNat = 1 := rfl
  (repeat (first | refine v_reg ?_ | refine v_last ?_ | refine vwp_seq ?_ | refine vwp_block ?_ | refine vwp_skip ?_ | refine vwp_exit ?_ | refine vwp_ret ?_ | refine v_cond ?_ | simp only [vm, ite_true, ite_false, eq_self, reduceIte, Nat.reduceEqDiff, Option.map, g1, g2] | refine And.intro (by omega) ?_))
  refine s_call (trim_spec t a c ha (by omega)) (by simp only [vm, ite_true, ite_false, eq_self, reduceIte, Nat.reduceEqDiff, Option.map, List.map]) ?_
  rintro v c2 hc2 rfl
  have hx := lim_digs two64 (val 18446744073709551616 a)
  have va := val_digs two64 (val 18446744073709551616 a)
  have hz := digs_eq_nil two64 (n := val 18446744073709551616 a)
  generalize digs 18446744073709551616 (val 18446744073709551616 a) = x at *
  by_cases g3 : (x.length : Int) ≤ 0
  · have hx0 : x = [] := List.eq_nil_of_length_eq_zero (by omega)
    have := hz.1 hx0
    (repeat (first | refine v_reg ?_ | refine v_last ?_ | refine vwp_seq ?_ | refine vwp_block ?_ | refine vwp_skip ?_ | refine vwp_exit ?_ | refine vwp_ret ?_ | refine v_cond ?_ | simp only [vm, ite_true, ite_false, eq_self, reduceIte, Nat.reduceEqDiff, Option.map, g1, g2, d1, d2, d3, g3] | refine And.intro (by omega) ?_))
    rw [this]
    exact .inl ⟨by decide, .nil, rfl, .inl rfl⟩
  (repeat (first | refine v_reg ?_ | refine v_last ?_ | refine vwp_seq ?_ | refine vwp_block ?_ | refine vwp_skip ?_ | refine vwp_exit ?_ | refine vwp_ret ?_ | refine v_cond ?_ | simp only [vm, ite_true, ite_false, eq_self, reduceIte, Nat.reduceEqDiff, Option.map, g1, g2, d1, d2, d3, g3] | refine And.intro (by omega) ?_))
  refine s_mk (n := x.length) (m := x.length) (by simp only [vm, ite_true, ite_false, eq_self, reduceIte, Nat.reduceEqDiff, Option.map]; simp) (by simp only [vm, ite_true, ite_false, eq_self, reduceIte, Nat.reduceEqDiff, Option.map]; simp) (Nat.le_refl _) (by omega) ?_
  obtain ⟨s, hs⟩ : ∃ s, s = 1 := ⟨_, rfl⟩
  have hs64 : s < 64 := by omega
  have hp : (18446744073709551616 : Nat) = 2 ^ s * 2 ^ (64 - s) := by rw [← Nat.pow_add, show s + (64 - s) = 64 by omega]
  (repeat (first | refine v_reg ?_ | refine v_last ?_ | refine vwp_seq ?_ | refine vwp_block ?_ | refine vwp_skip ?_ | refine vwp_exit ?_ | refine vwp_ret ?_ | refine v_cond ?_ | simp only [vm, ite_true, ite_false, eq_self, reduceIte, Nat.reduceEqDiff, Option.map] | refine And.intro (by omega) ?_))
  refine v_loop (fun S => ∃ w, w.length = x.length ∧ Lim 18446744073709551616 w ∧ val 18446744073709551616 w = val 18446744073709551616 x / 2 ^ s ∧ S.ρ 8 = .buf c2 0 x.length (some x.length) 1 ∧ S.σ = supd noBlk c2 (nblk w) ∧ c2 + 1 ≤ S.c) ?_ ?_
  · refine vwp_loop (fun k S => ∃ i w, k = x.length - i ∧ i ≤ x.length ∧ w.length = i ∧ Lim 18446744073709551616 w ∧ val 18446744073709551616 w * 2 ^ s + x.getD 0 0 % 2 ^ s = val 18446744073709551616 (x.take i) + 18446744073709551616 ^ i * (x.getD i 0 % 2 ^ s) ∧ S.ρ 0 = nats t x ∧ S.ρ 6 = iv 0 ∧ S.ρ 7 = nv s ∧ S.ρ 33 = iv x.length ∧ S.ρ 34 = iv i ∧ S.ρ 8 = .buf c2 0 x.length (some x.length) 1 ∧ S.σ = supd noBlk c2 (nblk (w ++ List.replicate (x.length - i) 0)) ∧ c2 + 1 ≤ S.c) x.length ?_ ?_
    · refine ⟨0, [], by omega, by omega, ?_⟩
      simp only [vm, ite_true, ite_false, eq_self, reduceIte, Nat.reduceEqDiff, Option.map]
      (repeat' apply And.intro) <;> first | rfl | omega | assumption | exact Lim.nil | (subst hs; rfl) | (rw [hs]; rfl) | (rw [hs]; decide) | (simp [hs]; done) | (simp [val]; done)
    rintro k ⟨ρ2, σ, c4⟩ ⟨i, w, hk, hi, hw, hlw, hinv, h0, h6, h7, h33, h34, h8, hσ, hc4⟩
    dsimp only at h0 h6 h7 h33 h34 h8 hσ hc4
    subst hσ
    by_cases g : (i : Int) < x.length
    · have hi' : i < x.length := by omega
      have hxi := hx.getD (i := i) (by decide)
      obtain ⟨o1, o2⟩ := down_limb (y := x.getD (i + 1) 0) hs64 hxi
      have e2 : ((i : Int) + 1).toNat = i + 1 := by omega
      have e3 : min s 64 = s := by omega
      have e4 : (63 + (18446744073709551616 - s % 18446744073709551616)) % 18446744073709551616 = 63 - s := by omega
      have e5 : min (63 - s) 64 = 63 - s := by omega
      have e6 : x.getD i 0 / 2 ^ s < 18446744073709551616 := Nat.lt_of_le_of_lt (Nat.div_le_self _ _) hxi
      have e7 : x.getD i 0 / 2 ^ s % 18446744073709551616 = x.getD i 0 / 2 ^ s := Nat.mod_eq_of_lt e6
      have hlen1 : (w ++ List.replicate (x.length - i) 0).length = x.length := by simp; omega
      have hset1 : ∀ v, (w ++ List.replicate (x.length - i) 0).set i v = w ++ v :: List.replicate (x.length - (i + 1)) 0 := fun v => by
        conv => lhs; rw [← hw]
        rw [show x.length - w.length = x.length - (i + 1) + 1 by omega, List.replicate_succ, set_at]
      have hlen2 : ∀ v, (w ++ v :: List.replicate (x.length - (i + 1)) 0).length = x.length := fun v => by simp; omega
      have hget2 : ∀ v, (w ++ v :: List.replicate (x.length - (i + 1)) 0).getD i 0 = v := fun v => by rw [← hw]; exact getD_at _ _ _
      have hset2 : ∀ v u, (w ++ v :: List.replicate (x.length - (i + 1)) 0).set i u = w ++ u :: List.replicate (x.length - (i + 1)) 0 := fun v u => by
        conv => lhs; rw [← hw]
        rw [set_at, hw]
      have key := down_step (y := x.getD (i + 1) 0) hw hinv hp rfl
      rw [← val_take (l := x) (i := i) hi'] at key
      have eapp : ∀ v, w ++ v :: List.replicate (x.length - (i + 1)) 0 = (w ++ [v]) ++ List.replicate (x.length - (i + 1)) 0 := fun v => by simp
      by_cases g5 : (i : Int) + 1 < x.length
      · (repeat (first | refine v_reg ?_ | refine v_last ?_ | refine vwp_seq ?_ | refine vwp_block ?_ | refine vwp_skip ?_ | refine vwp_exit ?_ | refine vwp_ret ?_ | refine v_cond ?_ | simp only [vm, ite_true, ite_false, eq_self, reduceIte, Nat.reduceEqDiff, Option.map, h0, h6, h7, h33, h34, h8, g, g5, Int.zero_add, e2, e3, e4, e5, e7, hlen1, hset1, hlen2, hget2, hset2, u_or, Nat.mod_mod, o1] | refine And.intro (by omega) ?_))
        refine ⟨x.length - (i + 1), by omega, i + 1, w ++ [x.getD i 0 / 2 ^ s + (x.getD (i + 1) 0 % 2 ^ s) * 2 ^ (64 - s)], ?_⟩
        rw [eapp]
        (repeat' apply And.intro) <;> first | rfl | exact key | exact lim_snoc hlw o2 | (simp [hw]; done) | omega | assumption
      · have hy : x.getD (i + 1) 0 = 0 := getD_ge (by omega)
        rw [hy, Nat.zero_mod, Nat.zero_mul, Nat.add_zero] at key
        (repeat (first | refine v_reg ?_ | refine v_last ?_ | refine vwp_seq ?_ | refine vwp_block ?_ | refine vwp_skip ?_ | refine vwp_exit ?_ | refine vwp_ret ?_ | refine v_cond ?_ | simp only [vm, ite_true, ite_false, eq_self, reduceIte, Nat.reduceEqDiff, Option.map, h0, h6, h7, h33, h34, h8, g, g5, Int.zero_add, e2, e3, e4, e5, e7, hlen1, hset1] | refine And.intro (by omega) ?_))
        refine ⟨x.length - (i + 1), by omega, i + 1, w ++ [x.getD i 0 / 2 ^ s], ?_⟩
        rw [eapp, hy, Nat.zero_mod]
        (repeat' apply And.intro) <;> first | rfl | exact key | exact lim_snoc hlw e6 | (simp [hw]; done) | omega | assumption
    · have hi' : i = x.length := by omega
      subst hi'
      (repeat (first | refine v_reg ?_ | refine v_last ?_ | refine vwp_seq ?_ | refine vwp_block ?_ | refine vwp_skip ?_ | refine vwp_exit ?_ | refine vwp_ret ?_ | refine v_cond ?_ | simp only [vm, ite_true, ite_false, eq_self, reduceIte, Nat.reduceEqDiff, Option.map, h0, h6, h7, h33, h34, h8, g] | refine And.intro (by omega) ?_))
      rw [List.take_length, getD_ge (Nat.le_refl _), Nat.zero_mod, Nat.mul_zero, Nat.add_zero] at hinv
      refine ⟨w, ?_⟩
      have e0 : w ++ List.replicate (x.length - x.length) 0 = w := by simp
      rw [e0]
      have hv : val 18446744073709551616 w = val 18446744073709551616 x / 2 ^ s := (div_mod_of hinv (Nat.mod_lt _ (Nat.two_pow_pos s))).1.symm
      (repeat' apply And.intro) <;> first | rfl | omega | assumption | exact hv
  rintro ⟨ρ3, σ, c5⟩ ⟨w, hw, hlw, hvw, h8, hσ, hc5⟩
  dsimp only at h8 hσ hc5
  subst hσ
  refine v_freeze 8 (t := c2) (off := 0) (n := x.length) (cap := some x.length) (l := w) (by simp only [vm, ite_true, ite_false, eq_self, reduceIte, Nat.reduceEqDiff, Option.map, h8]) (by simp only [vm, ite_true, ite_false, eq_self, reduceIte, Nat.reduceEqDiff, Option.map]) (by omega) (by omega) ?_
  rw [List.drop_zero, show w.take x.length = w from List.take_of_length_le (by omega)]
  (repeat (first | refine v_reg ?_ | refine v_last ?_ | refine vwp_seq ?_ | refine vwp_block ?_ | refine vwp_skip ?_ | refine vwp_exit ?_ | refine vwp_ret ?_ | refine v_cond ?_ | simp only [vm, ite_true, ite_false, eq_self, reduceIte, Nat.reduceEqDiff, Option.map] | refine And.intro (by omega) ?_))
  refine s_call (told_spec (.id c2) w c5 hlw (by omega)) (by simp only [vm, ite_true, ite_false, eq_self, reduceIte, Nat.reduceEqDiff, Option.map, List.map]) ?_
  rintro v c6 hc6 rfl
  rw [hvw, va, hs, Nat.pow_one]
  by_cases gb : bl (val 18446744073709551616 a / 2) ≤ 67108864
  · rw [if_pos gb]
    (repeat (first | refine v_reg ?_ | refine v_last ?_ | refine vwp_seq ?_ | refine vwp_block ?_ | refine vwp_skip ?_ | refine vwp_exit ?_ | refine vwp_ret ?_ | refine v_cond ?_ | simp only [vm, ite_true, ite_false, eq_self, reduceIte, Nat.reduceEqDiff, Option.map] | refine And.intro (by omega) ?_))
    exact .inl ⟨gb, .id c2, rfl, .inr ⟨c2, rfl, by omega, by omega⟩⟩
  · rw [if_neg gb]
    (repeat (first | refine v_reg ?_ | refine v_last ?_ | refine vwp_seq ?_ | refine vwp_block ?_ | refine vwp_skip ?_ | refine vwp_exit ?_ | refine vwp_ret ?_ | refine v_cond ?_ | simp only [vm, ite_true, ite_false, eq_self, reduceIte, Nat.reduceEqDiff, Option.map] | refine And.intro (by omega) ?_))
    exact .inr ⟨by omega, rfl⟩
end Go.Proofs.Ytladcfeibpddeab
namespace Go.Proofs.Ytladcfeibpddeab
open Go.VM

/-- Newton's next, for numbers that are not too great -/
theorem step_spec (t u : Tok) (a b : List Nat) (c : Nat) (ha : Lim 18446744073709551616 a) (hb : Lim 18446744073709551616 b) (hna : a.length ≤ 1099511627776) (hnb : b.length ≤ 1099511627776) (hA : bl (val 18446744073709551616 a) ≤ 67108862) (hX : bl (val 18446744073709551616 b) ≤ 67108862) (hpos : 0 < val 18446744073709551616 b) :
    VSpec Try.prog F.roots_Step c [nats t a, nats u b] (fun r c' => ∃ tk, r = .tup [nats tk (digs 18446744073709551616 ((val 18446744073709551616 b + val 18446744073709551616 a / val 18446744073709551616 b) / 2)), iv 0] ∧ Tk c c' tk) := by
  refine spec_mk hm E.roots_Step B.roots_Step K.roots_Step Q.roots_Step (by rw [N.roots_Step]; simp) ?_
  unfold C.roots_Step R.roots_Step
  (repeat (first | refine v_reg ?_ | refine v_last ?_ | refine vwp_seq ?_ | refine vwp_block ?_ | refine vwp_skip ?_ | refine vwp_exit ?_ | refine vwp_ret ?_ | refine v_cond ?_ | simp only [vm, ite_true, ite_false, eq_self, reduceIte, Nat.reduceEqDiff, Option.map] | refine And.intro (by omega) ?_))
  refine s_call (quo_spec t u a b c ha hb hna hnb) (by simp only [vm, ite_true, ite_false, eq_self, reduceIte, Nat.reduceEqDiff, Option.map, List.map]) ?_
  rintro v c1 hc1 ⟨_, h⟩
  obtain ⟨A0, hA0⟩ : ∃ A0, A0 = val 18446744073709551616 a := ⟨_, rfl⟩
  obtain ⟨x, hx⟩ : ∃ x, x = val 18446744073709551616 b := ⟨_, rfl⟩
  rw [← hA0] at hA h ⊢
  rw [← hx] at hX hpos h ⊢
  have hqA : A0 / x ≤ A0 := Nat.div_le_self _ _
  have hqb := bl_mono hqA
  rcases h hpos with ⟨_, t1, rfl, ht1⟩ | ⟨hbad, _⟩
  rotate_left
  · omega
  have hql := lim_digs two64 (A0 / x)
  have vq := val_digs two64 (A0 / x)
  have hqn : (digs 18446744073709551616 (A0 / x)).length ≤ 1048576 := digs_len_bl (by omega)
  obtain ⟨q, hq⟩ : ∃ q, q = A0 / x := ⟨_, rfl⟩
  rw [← hq] at hqb hql vq hqn ⊢
  have g1 : ¬ (0 : Int) = 30 := by decide
  (repeat (first | refine v_reg ?_ | refine v_last ?_ | refine vwp_seq ?_ | refine vwp_block ?_ | refine vwp_skip ?_ | refine vwp_exit ?_ | refine vwp_ret ?_ | refine v_cond ?_ | simp only [vm, ite_true, ite_false, eq_self, reduceIte, Nat.reduceEqDiff, Option.map, g1] | refine And.intro (by omega) ?_))
  refine s_call (right1_spec u b c1 hb hnb) (by simp only [vm, ite_true, ite_false, eq_self, reduceIte, Nat.reduceEqDiff, Option.map, List.map]) ?_
  rw [← hx]
  have hxh : bl (x / 2) ≤ 67108862 := Nat.le_trans (bl_mono (Nat.div_le_self _ _)) hX
  have hqh : bl (q / 2) ≤ 67108862 := Nat.le_trans (bl_mono (Nat.div_le_self _ _)) (by omega)
  rintro v c2 hc2 (⟨_, t2, rfl, ht2⟩ | ⟨hbad, _⟩)
  rotate_left
  · omega
  (repeat (first | refine v_reg ?_ | refine v_last ?_ | refine vwp_seq ?_ | refine vwp_block ?_ | refine vwp_skip ?_ | refine vwp_exit ?_ | refine vwp_ret ?_ | refine v_cond ?_ | simp only [vm, ite_true, ite_false, eq_self, reduceIte, Nat.reduceEqDiff, Option.map] | refine And.intro (by omega) ?_))
  refine s_call (right1_spec t1 (digs 18446744073709551616 q) c2 hql (by omega)) (by simp only [vm, ite_true, ite_false, eq_self, reduceIte, Nat.reduceEqDiff, Option.map, List.map]) ?_
  rw [vq]
  rintro v c3 hc3 (⟨_, t3, rfl, ht3⟩ | ⟨hbad, _⟩)
  rotate_left
  · omega
  have h2l := lim_digs two64 (x / 2)
  have v2 := val_digs two64 (x / 2)
  have h2n : (digs 18446744073709551616 (x / 2)).length ≤ 1048576 := digs_len_bl (by omega)
  have h3l := lim_digs two64 (q / 2)
  have v3 := val_digs two64 (q / 2)
  have h3n : (digs 18446744073709551616 (q / 2)).length ≤ 1048576 := digs_len_bl (by omega)
  have hsb : bl (x / 2 + q / 2) ≤ 67108863 := bl_add_le hxh hqh
  (repeat (first | refine v_reg ?_ | refine v_last ?_ | refine vwp_seq ?_ | refine vwp_block ?_ | refine vwp_skip ?_ | refine vwp_exit ?_ | refine vwp_ret ?_ | refine v_cond ?_ | simp only [vm, ite_true, ite_false, eq_self, reduceIte, Nat.reduceEqDiff, Option.map] | refine And.intro (by omega) ?_))
  refine s_call (add_spec t2 t3 _ _ c3 h2l h3l (by omega) (by omega)) (by simp only [vm, ite_true, ite_false, eq_self, reduceIte, Nat.reduceEqDiff, Option.map, List.map]) ?_
  rw [v2, v3]
  rintro v c4 hc4 (⟨_, t4, rfl, ht4⟩ | ⟨hbad, _⟩)
  rotate_left
  · omega
  have h4l := lim_digs two64 (x / 2 + q / 2)
  have v4 := val_digs two64 (x / 2 + q / 2)
  have h4n : (digs 18446744073709551616 (x / 2 + q / 2)).length ≤ 1048576 := digs_len_bl (by omega)
  (repeat (first | refine v_reg ?_ | refine v_last ?_ | refine vwp_seq ?_ | refine vwp_block ?_ | refine vwp_skip ?_ | refine vwp_exit ?_ | refine vwp_ret ?_ | refine v_cond ?_ | simp only [vm, ite_true, ite_false, eq_self, reduceIte, Nat.reduceEqDiff, Option.map] | refine And.intro (by omega) ?_))
  refine s_call (bit0_spec u b c4 hb hnb) (by simp only [vm, ite_true, ite_false, eq_self, reduceIte, Nat.reduceEqDiff, Option.map, List.map]) ?_
  rintro v c5 hc5 rfl
  rw [← hx]
  (repeat (first | refine v_reg ?_ | refine v_last ?_ | refine vwp_seq ?_ | refine vwp_block ?_ | refine vwp_skip ?_ | refine vwp_exit ?_ | refine vwp_ret ?_ | refine v_cond ?_ | simp only [vm, ite_true, ite_false, eq_self, reduceIte, Nat.reduceEqDiff, Option.map] | refine And.intro (by omega) ?_))
  refine s_call (bit0_spec t1 (digs 18446744073709551616 q) c5 hql (by omega)) (by simp only [vm, ite_true, ite_false, eq_self, reduceIte, Nat.reduceEqDiff, Option.map, List.map]) ?_
  rintro v c6 hc6 rfl
  rw [vq]
  have hstep := step_half x q
  by_cases g : ((x % 2 : Nat) : Int) + ((q % 2 : Nat) : Int) = 2
  · rw [if_pos (by omega)] at hstep
    (repeat (first | refine v_reg ?_ | refine v_last ?_ | refine vwp_seq ?_ | refine vwp_block ?_ | refine vwp_skip ?_ | refine vwp_exit ?_ | refine vwp_ret ?_ | refine v_cond ?_ | simp only [vm, ite_true, ite_false, eq_self, reduceIte, Nat.reduceEqDiff, Option.map, g] | refine And.intro (by omega) ?_))
    refine s_call (from_spec 1 c6 (by decide)) (by simp only [vm, ite_true, ite_false, eq_self, reduceIte, Nat.reduceEqDiff, Option.map, List.map]) ?_
    rintro v c7 hc7 ⟨t7, rfl, ht7⟩
    have h1l := lim_digs two64 1
    have v1 := val_digs two64 1
    have h1n : (digs 18446744073709551616 1).length ≤ 1 := digs_len two64 (by decide)
    generalize digs 18446744073709551616 1 = one at *
    (repeat (first | refine v_reg ?_ | refine v_last ?_ | refine vwp_seq ?_ | refine vwp_block ?_ | refine vwp_skip ?_ | refine vwp_exit ?_ | refine vwp_ret ?_ | refine v_cond ?_ | simp only [vm, ite_true, ite_false, eq_self, reduceIte, Nat.reduceEqDiff, Option.map] | refine And.intro (by omega) ?_))
    refine s_call (add_spec t4 t7 _ one c7 h4l h1l (by omega) (by omega)) (by simp only [vm, ite_true, ite_false, eq_self, reduceIte, Nat.reduceEqDiff, Option.map, List.map]) ?_
    rw [v4, v1, hstep]
    have hone : bl 1 = 1 := by decide
    have hsb2 : bl (x / 2 + q / 2 + 1) ≤ 67108864 := bl_add_le hsb (by omega)
    rw [hstep] at hsb2
    rintro v c8 hc8 (⟨_, t8, rfl, ht8⟩ | ⟨hbad, _⟩)
    rotate_left
    · omega
    (repeat (first | refine v_reg ?_ | refine v_last ?_ | refine vwp_seq ?_ | refine vwp_block ?_ | refine vwp_skip ?_ | refine vwp_exit ?_ | refine vwp_ret ?_ | refine v_cond ?_ | simp only [vm, ite_true, ite_false, eq_self, reduceIte, Nat.reduceEqDiff, Option.map] | refine And.intro (by omega) ?_))
    exact ⟨t8, rfl, ht8.mono (by omega) (by omega)⟩
  · rw [if_neg (by omega), Nat.add_zero] at hstep
    rw [hstep]
    (repeat (first | refine v_reg ?_ | refine v_last ?_ | refine vwp_seq ?_ | refine vwp_block ?_ | refine vwp_skip ?_ | refine vwp_exit ?_ | refine vwp_ret ?_ | refine v_cond ?_ | simp only [vm, ite_true, ite_false, eq_self, reduceIte, Nat.reduceEqDiff, Option.map, g] | refine And.intro (by omega) ?_))
    exact ⟨t4, rfl, ht4.mono (by omega) (by omega)⟩

theorem zero_spec (t : Tok) (n c : Nat) (hn : (digs 4294967296 n).length ≤ 4398046511104) : VSpec Try.prog F.surdref01_Num_Zero c [nats t (digs 4294967296 n)] (fun r _ => r = bv (decide (n = 0))) := by
  refine spec_mk hm E.surdref01_Num_Zero B.surdref01_Num_Zero K.surdref01_Num_Zero Q.surdref01_Num_Zero (by rw [N.surdref01_Num_Zero]; simp) ?_
  unfold C.surdref01_Num_Zero R.surdref01_Num_Zero
  have hz := digs_eq_nil two32 (n := n)
  (repeat (first | refine v_reg ?_ | refine v_last ?_ | refine vwp_seq ?_ | refine vwp_block ?_ | refine vwp_skip ?_ | refine vwp_exit ?_ | refine vwp_ret ?_ | refine v_cond ?_ | simp only [vm, ite_true, ite_false, eq_self, reduceIte, Nat.reduceEqDiff, Option.map] | refine And.intro (by omega) ?_))
  by_cases g : n = 0
  · rw [hz.2 g, g]; rfl
  · have h1 : ¬ digs 4294967296 n = [] := fun e => g (hz.1 e)
    have h2 : 0 < (digs 4294967296 n).length := List.length_pos_iff.2 h1
    have h3 : decide (((digs 4294967296 n).length : Int) = 0) = decide (n = 0) := by rw [decide_eq_false (show ¬ ((digs 4294967296 n).length : Int) = 0 by omega), decide_eq_false g]
    rw [h3]
end Go.Proofs.Ytladcfeibpddeab
set_option linter.unusedSimpArgs false
set_option linter.unusedVariables false
set_option maxRecDepth 100000
set_option maxHeartbeats 8000000
namespace Go.Proofs.Ytladcfeibpddeab
open Go.VM Go.RowKit

theorem cv_pos {n f : Nat} (h : Sq n f) : ∀ i, 0 < (cv n f i).2.1
  | 0 => Nat.one_pos
  | i + 1 => by
    have h1 := cv_pos h i
    have h2 := (pq_bound h (i + 1)).1
    have h3 : 1 * (cv n f i).2.1 ≤ pq n f (i + 1) * (cv n f i).2.1 := Nat.mul_le_mul_right _ h2
    show 0 < pq n f (i + 1) * (cv n f i).2.1 + (cv n f i).2.2
    omega

theorem pell_law (n : Int) (c : Nat) (hn1 : -9223372036854775808 ≤ n) (hn2 : n < 9223372036854775808) :
    VSpec Try.prog F.surdlaw04_RootPell c [iv n] (fun r _ => r = bv true) := by
  refine spec_mk hm E.surdlaw04_RootPell B.surdlaw04_RootPell K.surdlaw04_RootPell Q.surdlaw04_RootPell (by rw [N.surdlaw04_RootPell]; simp) ?_
  unfold C.surdlaw04_RootPell R.surdlaw04_RootPell
  have z1 : ¬ (1 : Int) = 0 := by decide
  (repeat (first | refine v_reg ?_ | refine v_last ?_ | refine vwp_seq ?_ | refine vwp_block ?_ | refine vwp_skip ?_ | refine vwp_exit ?_ | refine vwp_ret ?_ | refine v_cond ?_ | simp only [vm, ite_true, ite_false, eq_self, reduceIte, Nat.reduceEqDiff, Option.map] | refine And.intro (by omega) ?_))
  refine s_call (chain_spec n c) (by simp only [vm, ite_true, ite_false, eq_self, reduceIte, Nat.reduceEqDiff, Option.map, List.map]) ?_
  rintro v c1 hc1 ⟨w1, w2⟩
  by_cases g : n < 0 ∨ 65536 < n
  · obtain rfl := w1 g
    (repeat (first | refine v_reg ?_ | refine v_last ?_ | refine vwp_seq ?_ | refine vwp_block ?_ | refine vwp_skip ?_ | refine vwp_exit ?_ | refine vwp_ret ?_ | refine v_cond ?_ | simp only [vm, ite_true, ite_false, eq_self, reduceIte, Nat.reduceEqDiff, Option.map] | refine And.intro (by omega) ?_))
    refine s_call (pell_spec n c1) (by simp only [vm, ite_true, ite_false, eq_self, reduceIte, Nat.reduceEqDiff, Option.map, List.map]) ?_
    rintro v c2 hc2 ⟨p1, _⟩
    obtain rfl := p1 g
    by_cases g1 : n < 0
    · (repeat (first | refine v_reg ?_ | refine v_last ?_ | refine vwp_seq ?_ | refine vwp_block ?_ | refine vwp_skip ?_ | refine vwp_exit ?_ | refine vwp_ret ?_ | refine v_cond ?_ | simp only [vm, ite_true, ite_false, eq_self, reduceIte, Nat.reduceEqDiff, Option.map, g1] | refine And.intro (by omega) ?_))
      refine s_call (num_spec 1 c2) (by simp only [vm, ite_true, ite_false, eq_self, reduceIte, Nat.reduceEqDiff, Option.map, List.map]) ?_
      rintro v c3 hc3 rfl
      (repeat (first | refine v_reg ?_ | refine v_last ?_ | refine vwp_seq ?_ | refine vwp_block ?_ | refine vwp_skip ?_ | refine vwp_exit ?_ | refine vwp_ret ?_ | refine v_cond ?_ | simp only [vm, ite_true, ite_false, eq_self, reduceIte, Nat.reduceEqDiff, Option.map, z1] | refine And.intro (by omega) ?_))
      refine s_call (num_spec 1 c3) (by simp only [vm, ite_true, ite_false, eq_self, reduceIte, Nat.reduceEqDiff, Option.map, List.map]) ?_
      rintro v c4 hc4 rfl
      (repeat (first | refine v_reg ?_ | refine v_last ?_ | refine vwp_seq ?_ | refine vwp_block ?_ | refine vwp_skip ?_ | refine vwp_exit ?_ | refine vwp_ret ?_ | refine v_cond ?_ | simp only [vm, ite_true, ite_false, eq_self, reduceIte, Nat.reduceEqDiff, Option.map, z1] | refine And.intro (by omega) ?_))
      refine s_call (awake_spec c4) (by simp only [vm, ite_true, ite_false, eq_self, reduceIte, Nat.reduceEqDiff, Option.map, List.map]) ?_
      rintro v c5 hc5 rfl
      (repeat (first | refine v_reg ?_ | refine v_last ?_ | refine vwp_seq ?_ | refine vwp_block ?_ | refine vwp_skip ?_ | refine vwp_exit ?_ | refine vwp_ret ?_ | refine v_cond ?_ | simp only [vm, ite_true, ite_false, eq_self, reduceIte, Nat.reduceEqDiff, Option.map] | refine And.intro (by omega) ?_))
      omega
    · have g2 : (65536 : Int) < n := by omega
      (repeat (first | refine v_reg ?_ | refine v_last ?_ | refine vwp_seq ?_ | refine vwp_block ?_ | refine vwp_skip ?_ | refine vwp_exit ?_ | refine vwp_ret ?_ | refine v_cond ?_ | simp only [vm, ite_true, ite_false, eq_self, reduceIte, Nat.reduceEqDiff, Option.map, g1, g2] | refine And.intro (by omega) ?_))
      refine s_call (num_spec 1 c2) (by simp only [vm, ite_true, ite_false, eq_self, reduceIte, Nat.reduceEqDiff, Option.map, List.map]) ?_
      rintro v c3 hc3 rfl
      (repeat (first | refine v_reg ?_ | refine v_last ?_ | refine vwp_seq ?_ | refine vwp_block ?_ | refine vwp_skip ?_ | refine vwp_exit ?_ | refine vwp_ret ?_ | refine v_cond ?_ | simp only [vm, ite_true, ite_false, eq_self, reduceIte, Nat.reduceEqDiff, Option.map, z1] | refine And.intro (by omega) ?_))
      refine s_call (num_spec 1 c3) (by simp only [vm, ite_true, ite_false, eq_self, reduceIte, Nat.reduceEqDiff, Option.map, List.map]) ?_
      rintro v c4 hc4 rfl
      (repeat (first | refine v_reg ?_ | refine v_last ?_ | refine vwp_seq ?_ | refine vwp_block ?_ | refine vwp_skip ?_ | refine vwp_exit ?_ | refine vwp_ret ?_ | refine v_cond ?_ | simp only [vm, ite_true, ite_false, eq_self, reduceIte, Nat.reduceEqDiff, Option.map, z1] | refine And.intro (by omega) ?_))
      refine s_call (awake_spec c4) (by simp only [vm, ite_true, ite_false, eq_self, reduceIte, Nat.reduceEqDiff, Option.map, List.map]) ?_
      rintro v c5 hc5 rfl
      (repeat (first | refine v_reg ?_ | refine v_last ?_ | refine vwp_seq ?_ | refine vwp_block ?_ | refine vwp_skip ?_ | refine vwp_exit ?_ | refine vwp_ret ?_ | refine v_cond ?_ | simp only [vm, ite_true, ite_false, eq_self, reduceIte, Nat.reduceEqDiff, Option.map] | refine And.intro (by omega) ?_))
      omega
  obtain ⟨n, rfl⟩ : ∃ k : Nat, n = (k : Int) := ⟨n.toNat, by omega⟩
  have e0 : ((n : Int)).toNat = n := by omega
  have hn : n ≤ 65536 := by omega
  rw [e0] at w2
  have g1 : ¬ (n : Int) < 0 := by omega
  have g2 : ¬ (65536 : Int) < (n : Int) := by omega
  have cr := w2 (by omega) (by omega)
  clear w1 w2
  obtain ⟨f, hf1, hf2, h | ⟨hsq, l, tb, hp, hlb, rfl, htb, htb2⟩⟩ := cr
  all_goals
    have hfn := Nat.le_trans (sq_self_le f) hf1
    have q1 : ¬ (f : Int) < 0 := by omega
    have q2 : (f : Int) * (f : Int) = ((f * f : Nat) : Int) := (Int.natCast_mul _ _).symm
    have q3 : (f : Int) + 1 = ((f + 1 : Nat) : Int) := by omega
    have q4 : ((f + 1 : Nat) : Int) * ((f + 1 : Nat) : Int) = (((f + 1) * (f + 1) : Nat) : Int) := (Int.natCast_mul _ _).symm
    have hb := sq_le_of (show f + 1 ≤ 65537 by omega)
    obtain ⟨s, hs⟩ : ∃ s, s = f * f := ⟨_, rfl⟩
    obtain ⟨s2, hs2⟩ : ∃ s, s = (f + 1) * (f + 1) := ⟨_, rfl⟩
    rw [← hs] at q2 hf1
    rw [← hs2] at q4 hf2 hb
    have q5 : ¬ (n : Int) < (s : Int) := by omega
    have q6 : ¬ (s2 : Int) ≤ (n : Int) := by omega
  · obtain ⟨hfe, rfl⟩ := h
    (repeat (first | refine v_reg ?_ | refine v_last ?_ | refine vwp_seq ?_ | refine vwp_block ?_ | refine vwp_skip ?_ | refine vwp_exit ?_ | refine vwp_ret ?_ | refine v_cond ?_ | simp only [vm, ite_true, ite_false, eq_self, reduceIte, Nat.reduceEqDiff, Option.map] | refine And.intro (by omega) ?_))
    refine s_call (pell_spec n c1) (by simp only [vm, ite_true, ite_false, eq_self, reduceIte, Nat.reduceEqDiff, Option.map, List.map]) ?_
    rintro v c2 hc2 ⟨_, p2⟩
    rw [e0] at p2
    have hr : v = .tup [nil1, nil1, iv 1] := by
      rcases p2 (by omega) (by omega) with ⟨_, _, h⟩ | ⟨f2, _, _, _, _, hsq2, _⟩
      · exact h
      · exfalso
        have h1 := hsq2.f1
        have := sq_inj (f := f) (f2 := f2) (n := n) (by omega) (by omega) (by omega) hsq2.f2
        subst this
        omega
    subst hr
    obtain rfl : s = n := by omega
    (repeat (first | refine v_reg ?_ | refine v_last ?_ | refine vwp_seq ?_ | refine vwp_block ?_ | refine vwp_skip ?_ | refine vwp_exit ?_ | refine vwp_ret ?_ | refine v_cond ?_ | simp only [vm, ite_true, ite_false, eq_self, reduceIte, Nat.reduceEqDiff, Option.map, g1, g2] | refine And.intro (by omega) ?_))
    refine s_call (num_spec 0 c2) (by simp only [vm, ite_true, ite_false, eq_self, reduceIte, Nat.reduceEqDiff, Option.map, List.map]) ?_
    rintro v c3 hc3 rfl
    (repeat (first | refine v_reg ?_ | refine v_last ?_ | refine vwp_seq ?_ | refine vwp_block ?_ | refine vwp_skip ?_ | refine vwp_exit ?_ | refine vwp_ret ?_ | refine v_cond ?_ | simp only [vm, ite_true, ite_false, eq_self, reduceIte, Nat.reduceEqDiff, Option.map, q1, q2, q3, q4, q5, q6, l_nil] | refine And.intro (by omega) ?_))
    refine s_call (num_spec 1 c3) (by simp only [vm, ite_true, ite_false, eq_self, reduceIte, Nat.reduceEqDiff, Option.map, List.map]) ?_
    rintro v c4 hc4 rfl
    (repeat (first | refine v_reg ?_ | refine v_last ?_ | refine vwp_seq ?_ | refine vwp_block ?_ | refine vwp_skip ?_ | refine vwp_exit ?_ | refine vwp_ret ?_ | refine v_cond ?_ | simp only [vm, ite_true, ite_false, eq_self, reduceIte, Nat.reduceEqDiff, Option.map, z1] | refine And.intro (by omega) ?_))
    refine s_call (awake_spec c4) (by simp only [vm, ite_true, ite_false, eq_self, reduceIte, Nat.reduceEqDiff, Option.map, List.map]) ?_
    rintro v c5 hc5 rfl
    (repeat (first | refine v_reg ?_ | refine v_last ?_ | refine vwp_seq ?_ | refine vwp_block ?_ | refine vwp_skip ?_ | refine vwp_exit ?_ | refine vwp_ret ?_ | refine v_cond ?_ | simp only [vm, ite_true, ite_false, eq_self, reduceIte, Nat.reduceEqDiff, Option.map] | refine And.intro (by omega) ?_))
    omega
  have q7 : ¬ (s : Int) = (n : Int) := by have := hsq.f1; omega
  have hl1 := hp.one
  have hlen : ((cl n f l).length : Int) = (l : Int) := by rw [cl_len]
  have hlenN : (ivs (cl n f l)).length = l := by rw [List.length_map, cl_len]
  have gl0 : ¬ (l : Int) = 0 := by omega
  (repeat (first | refine v_reg ?_ | refine v_last ?_ | refine vwp_seq ?_ | refine vwp_block ?_ | refine vwp_skip ?_ | refine vwp_exit ?_ | refine vwp_ret ?_ | refine v_cond ?_ | simp only [vm, ite_true, ite_false, eq_self, reduceIte, Nat.reduceEqDiff, Option.map] | refine And.intro (by omega) ?_))
  refine s_call (pell_spec n c1) (by simp only [vm, ite_true, ite_false, eq_self, reduceIte, Nat.reduceEqDiff, Option.map, List.map]) ?_
  rintro v c2 hc2 ⟨_, p2⟩
  rw [e0] at p2
  have pr := p2 (by omega) (by omega)
  clear p2
  rcases pr with ⟨f2, h, _⟩ | ⟨f2, l2, c9, tp, tq, hsq2, hf255, hp2, hlb2, rfl, htp, htq⟩
  · exfalso
    have h1 := hsq.f1
    have := sq_inj (f := f) (f2 := f2) (n := n) (by omega) (by omega) (by omega) (by rw [← h]; exact Nat.mul_lt_mul'' (by omega) (by omega))
    subst this
    omega
  have hff := sq_inj (f := f) (f2 := f2) (n := n) (by omega) (by omega) (Nat.le_of_lt hsq2.f1) hsq2.f2
  subst hff
  have hT : terms l2 ≤ 262144 := by unfold terms; split <;> omega
  obtain ⟨b1, b2, b3, b4⟩ := cv_bl hsq hf255 (i := terms l2) hT
  obtain ⟨t1, t2⟩ := terms_end hsq hp2
  have hpell := (pell_iff hsq (terms l2)).2 ⟨t1, t2⟩
  have hqp := cv_pos hsq (terms l2)
  obtain ⟨X, hX⟩ : ∃ X, X = (cv n f (terms l2)).1.1 := ⟨_, rfl⟩
  obtain ⟨Y, hY⟩ : ∃ Y, Y = (cv n f (terms l2)).2.1 := ⟨_, rfl⟩
  rw [← hX] at b1 hpell ⊢
  rw [← hY] at b3 hpell hqp ⊢
  have q8 : (l : Int) - 1 = ((l - 1 : Nat) : Int) := by omega
  have q9 : (ivs (cl n f l))[l - 1]? = some (iv (2 * (f : Int))) := by
    rw [cl_vget (by omega), show l - 1 + 1 = l by omega, pq_end hsq hp]
    rfl
  have q10 : l - 1 < l := by omega
  (repeat (first | refine v_reg ?_ | refine v_last ?_ | refine vwp_seq ?_ | refine vwp_block ?_ | refine vwp_skip ?_ | refine vwp_exit ?_ | refine vwp_ret ?_ | refine v_cond ?_ | simp only [vm, ite_true, ite_false, eq_self, reduceIte, Nat.reduceEqDiff, Option.map, g1, g2] | refine And.intro (by omega) ?_))
  refine s_call (num_spec 0 c2) (by simp only [vm, ite_true, ite_false, eq_self, reduceIte, Nat.reduceEqDiff, Option.map, List.map]) ?_
  rintro v c3 hc3 rfl
  (repeat (first | refine v_reg ?_ | refine v_last ?_ | refine vwp_seq ?_ | refine vwp_block ?_ | refine vwp_skip ?_ | refine vwp_exit ?_ | refine vwp_ret ?_ | refine v_cond ?_ | simp only [vm, ite_true, ite_false, eq_self, reduceIte, Nat.reduceEqDiff, Option.map, q1, q2, q3, q4, q5, q6, q7, l_ints, hlen, gl0, q8, a_rows, d_rows, hlenN, q9, q10] | refine And.intro (by omega) ?_))
  refine v_loop (fun S => S.ρ 0 = iv (n : Int) ∧ S.ρ 6 = nats tp (digs 18446744073709551616 X) ∧ S.ρ 7 = nats tq (digs 18446744073709551616 Y) ∧ S.ρ 8 = iv 0 ∧ c3 ≤ S.c) ?_ ?_
  · refine vwp_loop (fun q S => ∃ i, q = l - i ∧ i < l ∧ S.ρ 0 = iv (n : Int) ∧ S.ρ 3 = iv (f : Int) ∧ S.ρ 4 = ints (.id tb) (cl n f l) ∧ S.ρ 6 = nats tp (digs 18446744073709551616 X) ∧ S.ρ 7 = nats tq (digs 18446744073709551616 Y) ∧ S.ρ 8 = iv 0 ∧ S.ρ 9 = iv (i : Int) ∧ c3 ≤ S.c) l ?_ ?_
    · refine ⟨0, by omega, by omega, ?_⟩
      simp only [vm, ite_true, ite_false, eq_self, reduceIte, Nat.reduceEqDiff, Option.map]
      (repeat' apply And.intro) <;> first | rfl | omega | assumption | exact True.intro
    rintro q ⟨ρ5, σ5, e11⟩ ⟨i, hq, hi, h0, h3, h4, h6, h7, h8, h9, he11⟩
    dsimp only at h0 h3 h4 h6 h7 h8 h9 he11
    by_cases gi : (i : Int) < ((l - 1 : Nat) : Int)
    · have e3 : (i : Int) + 1 = ((i + 1 : Nat) : Int) := by omega
      have hig := cl_vget (n := n) (f := f) hi
      have hjg : (ivs (cl n f l))[l - 2 - i]? = some (iv (pq n f (i + 1) : Int)) := by
        rw [cl_vget (by omega), ← pal hsq hp (j := i + 1) (by omega) (by omega), show l - 2 - i + 1 = l - (i + 1) by omega]
      obtain ⟨pb1, pb2⟩ := pq_bound hsq (i + 1)
      have r1 : (l : Int) - 2 = ((l - 2 : Nat) : Int) := by omega
      have r2 : ((l - 2 : Nat) : Int) - (i : Int) = ((l - 2 - i : Nat) : Int) := by omega
      have r3 : l - 2 - i < l := by omega
      have r4 : ¬ (pq n f (i + 1) : Int) < 1 := by omega
      have r5 : ¬ 2 * (f : Int) < (pq n f (i + 1) : Int) := by omega
      have r6 : i < l := hi
      (repeat (first | refine v_reg ?_ | refine v_last ?_ | refine vwp_seq ?_ | refine vwp_block ?_ | refine vwp_skip ?_ | refine vwp_exit ?_ | refine vwp_ret ?_ | refine v_cond ?_ | simp only [vm, ite_true, ite_false, eq_self, reduceIte, Nat.reduceEqDiff, Option.map, h0, h3, h4, h6, h7, h8, h9, l_ints, hlen, q8, gi, a_rows, d_rows, hlenN, hig, hjg, r1, r2, r3, r4, r5, r6, e3] | refine And.intro (by omega) ?_))
      refine ⟨l - (i + 1), by omega, i + 1, ?_⟩
      (repeat' apply And.intro) <;> first | rfl | omega | assumption | exact True.intro
    · (repeat (first | refine v_reg ?_ | refine v_last ?_ | refine vwp_seq ?_ | refine vwp_block ?_ | refine vwp_skip ?_ | refine vwp_exit ?_ | refine vwp_ret ?_ | refine v_cond ?_ | simp only [vm, ite_true, ite_false, eq_self, reduceIte, Nat.reduceEqDiff, Option.map, h0, h3, h4, h6, h7, h8, h9, l_ints, hlen, q8, gi] | refine And.intro (by omega) ?_))
      (repeat' apply And.intro) <;> first | rfl | omega | assumption | exact True.intro
  rintro ⟨ρ6, σ6, c4⟩ ⟨h0, h6, h7, h8, hc4⟩
  dsimp only at h0 h6 h7 h8 hc4
  have hbn : bl n ≤ 17 := bl_le (by omega)
  have hbYY := bl_mul_le Y Y
  have hbXX := bl_mul_le X X
  have hbn2 := bl_mul_le n (Y * Y)
  have hb1 : bl 1 = 1 := by decide
  have hb8 : bl (n * (Y * Y) + 1) ≤ 10000000 + 1 := bl_add_le (by omega) (by omega)
  (repeat (first | refine v_reg ?_ | refine v_last ?_ | refine vwp_seq ?_ | refine vwp_block ?_ | refine vwp_skip ?_ | refine vwp_exit ?_ | refine vwp_ret ?_ | refine v_cond ?_ | simp only [vm, ite_true, ite_false, eq_self, reduceIte, Nat.reduceEqDiff, Option.map, h0, h6, h7, h8] | refine And.intro (by omega) ?_))
  refine s_call (intR n c4 (by omega)) (by simp only [vm, ite_true, ite_false, eq_self, reduceIte, Nat.reduceEqDiff, Option.map, List.map, h0]) ?_
  rintro v d1 hd1 ⟨k1, rfl, _, _⟩
  (repeat (first | refine v_reg ?_ | refine v_last ?_ | refine vwp_seq ?_ | refine vwp_block ?_ | refine vwp_skip ?_ | refine vwp_exit ?_ | refine vwp_ret ?_ | refine v_cond ?_ | simp only [vm, ite_true, ite_false, eq_self, reduceIte, Nat.reduceEqDiff, Option.map, h0, h6, h7, h8] | refine And.intro (by omega) ?_))
  refine s_call (ofR tq Y d1 (by omega)) (by simp only [vm, ite_true, ite_false, eq_self, reduceIte, Nat.reduceEqDiff, Option.map, List.map, h7]) ?_
  rintro v d2 hd2 ⟨k2, rfl, _, _⟩
  (repeat (first | refine v_reg ?_ | refine v_last ?_ | refine vwp_seq ?_ | refine vwp_block ?_ | refine vwp_skip ?_ | refine vwp_exit ?_ | refine vwp_ret ?_ | refine v_cond ?_ | simp only [vm, ite_true, ite_false, eq_self, reduceIte, Nat.reduceEqDiff, Option.map, h0, h6, h7, h8] | refine And.intro (by omega) ?_))
  refine s_call (ofR tq Y d2 (by omega)) (by simp only [vm, ite_true, ite_false, eq_self, reduceIte, Nat.reduceEqDiff, Option.map, List.map, h7]) ?_
  rintro v d3 hd3 ⟨k3, rfl, _, _⟩
  (repeat (first | refine v_reg ?_ | refine v_last ?_ | refine vwp_seq ?_ | refine vwp_block ?_ | refine vwp_skip ?_ | refine vwp_exit ?_ | refine vwp_ret ?_ | refine v_cond ?_ | simp only [vm, ite_true, ite_false, eq_self, reduceIte, Nat.reduceEqDiff, Option.map, h0, h6, h7, h8] | refine And.intro (by omega) ?_))
  refine s_call (mulR (.id k2) (.id k3) Y Y d3 (by omega) (by omega)) (by simp only [vm, ite_true, ite_false, eq_self, reduceIte, Nat.reduceEqDiff, Option.map, List.map]) ?_
  rintro v d4 hd4 ⟨k4, rfl, _, _⟩
  (repeat (first | refine v_reg ?_ | refine v_last ?_ | refine vwp_seq ?_ | refine vwp_block ?_ | refine vwp_skip ?_ | refine vwp_exit ?_ | refine vwp_ret ?_ | refine v_cond ?_ | simp only [vm, ite_true, ite_false, eq_self, reduceIte, Nat.reduceEqDiff, Option.map] | refine And.intro (by omega) ?_))
  refine s_call (mulR (.id k1) (.id k4) n (Y * Y) d4 (by omega) (by omega)) (by simp only [vm, ite_true, ite_false, eq_self, reduceIte, Nat.reduceEqDiff, Option.map, List.map]) ?_
  rintro v d5 hd5 ⟨k5, rfl, _, _⟩
  (repeat (first | refine v_reg ?_ | refine v_last ?_ | refine vwp_seq ?_ | refine vwp_block ?_ | refine vwp_skip ?_ | refine vwp_exit ?_ | refine vwp_ret ?_ | refine v_cond ?_ | simp only [vm, ite_true, ite_false, eq_self, reduceIte, Nat.reduceEqDiff, Option.map] | refine And.intro (by omega) ?_))
  refine s_call (one_spec d5) (by simp only [vm, ite_true, ite_false, eq_self, reduceIte, Nat.reduceEqDiff, Option.map, List.map]) ?_
  rintro v d6 hd6 ⟨k6, rfl, _, _⟩
  (repeat (first | refine v_reg ?_ | refine v_last ?_ | refine vwp_seq ?_ | refine vwp_block ?_ | refine vwp_skip ?_ | refine vwp_exit ?_ | refine vwp_ret ?_ | refine v_cond ?_ | simp only [vm, ite_true, ite_false, eq_self, reduceIte, Nat.reduceEqDiff, Option.map] | refine And.intro (by omega) ?_))
  refine s_call (addR (.id k5) (.id k6) (n * (Y * Y)) 1 d6 (by omega) (by omega)) (by simp only [vm, ite_true, ite_false, eq_self, reduceIte, Nat.reduceEqDiff, Option.map, List.map]) ?_
  rintro v d7 hd7 ⟨k7, rfl, _, _⟩
  (repeat (first | refine v_reg ?_ | refine v_last ?_ | refine vwp_seq ?_ | refine vwp_block ?_ | refine vwp_skip ?_ | refine vwp_exit ?_ | refine vwp_ret ?_ | refine v_cond ?_ | simp only [vm, ite_true, ite_false, eq_self, reduceIte, Nat.reduceEqDiff, Option.map, h6, h7, h8] | refine And.intro (by omega) ?_))
  refine s_call (num_spec 0 d7) (by simp only [vm, ite_true, ite_false, eq_self, reduceIte, Nat.reduceEqDiff, Option.map, List.map, h8]) ?_
  rintro v d8 hd8 rfl
  (repeat (first | refine v_reg ?_ | refine v_last ?_ | refine vwp_seq ?_ | refine vwp_block ?_ | refine vwp_skip ?_ | refine vwp_exit ?_ | refine vwp_ret ?_ | refine v_cond ?_ | simp only [vm, ite_true, ite_false, eq_self, reduceIte, Nat.reduceEqDiff, Option.map, h6, h7, h8] | refine And.intro (by omega) ?_))
  refine s_call (ofR tq Y d8 (by omega)) (by simp only [vm, ite_true, ite_false, eq_self, reduceIte, Nat.reduceEqDiff, Option.map, List.map, h7]) ?_
  rintro v d9 hd9 ⟨k9, rfl, _, _⟩
  (repeat (first | refine v_reg ?_ | refine v_last ?_ | refine vwp_seq ?_ | refine vwp_block ?_ | refine vwp_skip ?_ | refine vwp_exit ?_ | refine vwp_ret ?_ | refine v_cond ?_ | simp only [vm, ite_true, ite_false, eq_self, reduceIte, Nat.reduceEqDiff, Option.map, h6, h7, h8] | refine And.intro (by omega) ?_))
  refine s_call (zero_spec (.id k9) Y d9 (Nat.le_trans (len32_bl (k := 2097152) (by omega)) (by decide))) (by simp only [vm, ite_true, ite_false, eq_self, reduceIte, Nat.reduceEqDiff, Option.map, List.map]) ?_
  rintro v d10 hd10 rfl
  have gY : decide (Y = 0) = false := decide_eq_false (by omega)
  (repeat (first | refine v_reg ?_ | refine v_last ?_ | refine vwp_seq ?_ | refine vwp_block ?_ | refine vwp_skip ?_ | refine vwp_exit ?_ | refine vwp_ret ?_ | refine v_cond ?_ | simp only [vm, ite_true, ite_false, eq_self, reduceIte, Nat.reduceEqDiff, Option.map, h6, h7, h8, gY] | refine And.intro (by omega) ?_))
  refine s_call (ofR tp X d10 (by omega)) (by simp only [vm, ite_true, ite_false, eq_self, reduceIte, Nat.reduceEqDiff, Option.map, List.map, h6]) ?_
  rintro v d11 hd11 ⟨k11, rfl, _, _⟩
  (repeat (first | refine v_reg ?_ | refine v_last ?_ | refine vwp_seq ?_ | refine vwp_block ?_ | refine vwp_skip ?_ | refine vwp_exit ?_ | refine vwp_ret ?_ | refine v_cond ?_ | simp only [vm, ite_true, ite_false, eq_self, reduceIte, Nat.reduceEqDiff, Option.map, h6, h7, h8] | refine And.intro (by omega) ?_))
  refine s_call (ofR tp X d11 (by omega)) (by simp only [vm, ite_true, ite_false, eq_self, reduceIte, Nat.reduceEqDiff, Option.map, List.map, h6]) ?_
  rintro v d12 hd12 ⟨k12, rfl, _, _⟩
  (repeat (first | refine v_reg ?_ | refine v_last ?_ | refine vwp_seq ?_ | refine vwp_block ?_ | refine vwp_skip ?_ | refine vwp_exit ?_ | refine vwp_ret ?_ | refine v_cond ?_ | simp only [vm, ite_true, ite_false, eq_self, reduceIte, Nat.reduceEqDiff, Option.map, h6, h7, h8] | refine And.intro (by omega) ?_))
  refine s_call (mulR (.id k11) (.id k12) X X d12 (by omega) (by omega)) (by simp only [vm, ite_true, ite_false, eq_self, reduceIte, Nat.reduceEqDiff, Option.map, List.map]) ?_
  rintro v d13 hd13 ⟨k13, rfl, _, _⟩
  (repeat (first | refine v_reg ?_ | refine v_last ?_ | refine vwp_seq ?_ | refine vwp_block ?_ | refine vwp_skip ?_ | refine vwp_exit ?_ | refine vwp_ret ?_ | refine v_cond ?_ | simp only [vm, ite_true, ite_false, eq_self, reduceIte, Nat.reduceEqDiff, Option.map] | refine And.intro (by omega) ?_))
  refine s_call (cmpR (.id k13) (.id k7) (X * X) (n * (Y * Y) + 1) d13 (by omega) (by omega)) (by simp only [vm, ite_true, ite_false, eq_self, reduceIte, Nat.reduceEqDiff, Option.map, List.map]) ?_
  rintro v d14 hd14 rfl
  have gc := cmpI_zero.2 hpell
  (repeat (first | refine v_reg ?_ | refine v_last ?_ | refine vwp_seq ?_ | refine vwp_block ?_ | refine vwp_skip ?_ | refine vwp_exit ?_ | refine vwp_ret ?_ | refine v_cond ?_ | simp only [vm, ite_true, ite_false, eq_self, reduceIte, Nat.reduceEqDiff, Option.map, gc] | refine And.intro (by omega) ?_))
  refine s_call (awake_spec d14) (by simp only [vm, ite_true, ite_false, eq_self, reduceIte, Nat.reduceEqDiff, Option.map, List.map]) ?_
  rintro v d15 hd15 rfl
  (repeat (first | refine v_reg ?_ | refine v_last ?_ | refine vwp_seq ?_ | refine vwp_block ?_ | refine vwp_skip ?_ | refine vwp_exit ?_ | refine vwp_ret ?_ | refine v_cond ?_ | simp only [vm, ite_true, ite_false, eq_self, reduceIte, Nat.reduceEqDiff, Option.map] | refine And.intro (by omega) ?_))
  omega
end Go.Proofs.Ytladcfeibpddeab
set_option linter.unusedVariables false
set_option maxRecDepth 100000
namespace Go.Proofs.Ytladcfeibpddeab
open Go.VM Go.ChangeShapes Go.WideShapes Go.ChangeAt Go.RowKit

theorem own : ownKnob Try.prog.godebug = none := by kernel_rfl
theorem rep_ints {W : World} {xs : List V} {vs : Array Value} {l : List (V × Value)} (hx : xs = l.map Prod.fst) (hv : vs = (l.map Prod.snd).toArray) (h : ∀ p ∈ l, Rep W (fun b => b < W.heap.size) (fun _ => 0) 0 p.1 p.2) :
    ∀ (j : Nat) (x : V) (v : Value), xs[j]? = some x → vs[j]? = some v → Rep W (fun b => b < W.heap.size) (fun _ => 0) 0 x v := by
  intro j x v h1 h2
  subst hx hv
  rw [List.getElem?_map] at h1
  obtain ⟨p, hp, rfl⟩ := Option.map_eq_some_iff.1 h1
  have h2' : (l.map Prod.snd)[j]? = some v := by simpa using h2
  rw [List.getElem?_map, hp] at h2'
  cases h2'
  exact h p (List.mem_of_getElem? hp)
theorem wf_i64 {n : Int} (h : (Lit.int .i64 n).wf = true) : -9223372036854775808 ≤ n ∧ n < 9223372036854775808 := by
  simp [Lit.wf, IntKind.min, IntKind.max, IntKind.signed, IntKind.bits] at h
  omega

theorem row_contract (H : Type) (enc : TypeId × Value → H) (W : World) (base : Nat) (args : Array Value) (ds gs : List (DataW H)) (before : List MemPlace)
    (hval : ∀ (j : Nat) t v, Try.f10.params[j]? = some t → args[j]? = some v → Value.okWide Try.prog W .any base t v)
    (hW : DataW.Whole enc Try.prog Try.f10.params.toList Rows.rootPellSpec.vars false W args.toList ds gs before) :
    Calls Try.prog 10 args W fun e W' => ∃ v, e = .returned v ∧ Rows.rootPellSpec.post enc Try.prog Try.f10 false true false false W args v W' := by
  have hW' := hW
  obtain ⟨p, q, hA0, hV, rfl, hfz, hnd⟩ := hW
  have hA : DataW.TrodAll enc Try.prog W 0 (fun _ => true) true Try.f10.params.toList args.toList ds p := hA0
  rw [Try.params10] at hA hval
  obtain ⟨v1, vs1, d1, ds1, p1, q1, hargs1, rfl, rfl, h1, r1⟩ := trodAll_cons hA
  obtain ⟨rfl, rfl, rfl⟩ := trodAll_nil r1
  obtain rfl : args = #[v1] := by cases args; simp_all
  obtain ⟨rfl, rfl⟩ := trodVars_none hV
  clear hA0
  obtain ⟨n1, rfl, rfl, rfl, w1⟩ := open_int Try.underlying3 (hval 0 3 v1 rfl rfl) h1
  simp only [List.append_nil] at hW'
  obtain ⟨b1, b1'⟩ := wf_i64 w1
  obtain ⟨r, c9, _, hc9, hr9⟩ := pell_law n1 0 b1 b1'
  subst hr9
  refine (calls_same hc9 W #[.int .i64 n1] rfl (rep_ints (l := [(iv n1, .int .i64 n1)]) rfl rfl (fun p hp => ?_)) ⟨_, rfl⟩).mono fun e W' ⟨v, he, hv, hs⟩ => ?_
  · simp only [List.mem_cons, List.not_mem_nil, or_false] at hp
    subst hp
    exact .lit _
  subst he
  cases hv
  exact ⟨_, rfl, post_kept (pa := []) (pv := []) hW' hs (fun _ _ _ => trodAll_cons_mk (shut_bool Try.underlying4 _) trodAll_mk0)
    (fun sp hsp => by
      rw [Try.params10]
      exact trodAll_cons_mk (shut_int Try.underlying3 w1) trodAll_mk0) (fun _ _ => rfl) (by simp)
    (ok_one (by kernel_rfl) rfl (okWide_bool_mk Try.underlying4 _))⟩

theorem row_lifted (os : Os) (started : os.Started) (H : Type) (enc : TypeId × Value → H) :
    ReturnsInHanded {} Try.checked os 10 .any (Rows.rootPellSpec.pre6 enc Try.prog Try.f10 Rows.rootPellRow.domain false) (Rows.rootPellSpec.post enc Try.prog Try.f10 false true false false) := by
  refine returnsInHanded_of_change (C := Try.checked) own started (by kernel_rfl) Try.func10
    (ChangeSpec.witness6 (enc := enc) (C := Try.checked) false ⟨#[], #[.int .i64 0], []⟩ 8 (by kernel_rfl) (by kernel_rfl) (by kernel_rfl) (by kernel_rfl) (by kernel_rfl)) ?_
  intro W base args ds gs before hval hW _ _
  exact row_contract H enc W base args ds gs before hval hW

theorem row_holds : Rows.RootPellSaid :=
  OpenClaim.holds_of_wide 10 Try.f10 rfl rfl rfl rfl rfl rfl rfl ⟨rfl, rfl, rfl, rfl, rfl⟩ rfl rfl rfl rfl rfl (by kernel_rfl) Try.func10 (by kernel_rfl)
    (of_decide_eq_true (by kernel_rfl)) (by unfold Func.isWrapper; first | (rw [if_pos (by decide +kernel)]; kernel_rfl) | (rw [if_neg (by decide +kernel)]; exact ⟨rfl, rfl⟩))
    (fun os started H enc _ => row_lifted os started H enc)
#print axioms row_holds
end Go.Proofs.Ytladcfeibpddeab
