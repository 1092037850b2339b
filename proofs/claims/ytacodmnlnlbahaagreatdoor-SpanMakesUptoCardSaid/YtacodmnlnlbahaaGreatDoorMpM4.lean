/- Texts of a claim, merged: what they prove is told at the last one's head. -/
import Derived.Test.YtacodmnlnlbahaaGreatDoorMpM3
set_option linter.unusedSimpArgs false
set_option linter.unusedVariables false
set_option maxRecDepth 100000
set_option maxHeartbeats 8000000
namespace Go.Proofs.YtacodmnlnlbahaaGreatDoor
open Go.VM

theorem shl32_low {x s : Nat} (hs : s ≤ 31) (hx : x < 4294967296) : x * 2 ^ s % 18446744073709551616 = x * 2 ^ s ∧ x * 2 ^ s % 4294967296 + 2 ^ s ≤ 4294967296 ∧ x * 2 ^ s / 4294967296 < 2 ^ s ∧ x * 2 ^ s / 4294967296 % 18446744073709551616 = x * 2 ^ s / 4294967296 ∧ 2 ^ s ≤ 2147483648 := by
  have h31 : 2 ^ s ≤ 2 ^ 31 := Nat.pow_le_pow_right (by decide) hs
  have hp : 0 < 2 ^ s := Nat.two_pow_pos s
  have hlt : x * 2 ^ s < 4294967296 * 2 ^ s := Nat.mul_lt_mul_of_pos_right hx hp
  have h32 : 4294967296 = 2 ^ (32 - s) * 2 ^ s := by rw [← Nat.pow_add, show 32 - s + s = 32 by omega]
  have hlow : x * 2 ^ s % 4294967296 + 2 ^ s ≤ 4294967296 := by
    have e : x * 2 ^ s % 4294967296 = (x % 2 ^ (32 - s)) * 2 ^ s := by rw [h32, Nat.mul_mod_mul_right]
    rw [e, ← Nat.succ_mul, h32]
    exact Nat.mul_le_mul_right _ (Nat.mod_lt _ (Nat.two_pow_pos _))
  have hdiv : x * 2 ^ s / 4294967296 < 2 ^ s := Nat.div_lt_of_lt_mul hlt
  have h1 : x * 2 ^ s < 18446744073709551616 := by
    have : 4294967296 * 2 ^ s ≤ 4294967296 * 2 ^ 31 := Nat.mul_le_mul_left _ h31
    omega
  exact ⟨Nat.mod_eq_of_lt h1, hlow, hdiv, Nat.mod_eq_of_lt (by omega), by omega⟩

theorem shl32_spec (t : Tok) (a : List Nat) (n c : Nat) (ha : Lim 4294967296 a) (hna : a.length ≤ 1099511627776) (hn : n ≤ 1099511627776) :
    VSpec Tryz.prog F.surdref01_Shl c [nats t a, iv n] (fun r c' => (a = [] ∧ r = nil1) ∨ ∃ i, r = nats (.id i) (digs 4294967296 (val 4294967296 a * 2 ^ n)) ∧ c ≤ i ∧ i < c') := by
  refine spec_mk hm E.surdref01_Shl B.surdref01_Shl K.surdref01_Shl Q.surdref01_Shl (by rw [N.surdref01_Shl]; simp) ?_
  unfold C.surdref01_Shl R.surdref01_Shl
  by_cases g0 : (a.length : Int) = 0
  · (repeat (first | refine v_reg ?_ | refine v_last ?_ | refine vwp_seq ?_ | refine vwp_block ?_ | refine vwp_skip ?_ | refine vwp_exit ?_ | refine vwp_ret ?_ | refine v_cond ?_ | simp only [vm, ite_true, ite_false, eq_self, reduceIte, Nat.reduceEqDiff, Option.map, g0] | refine And.intro (by omega) ?_))
    exact .inl (List.eq_nil_of_length_eq_zero (by omega))
  obtain ⟨q, hq⟩ : ∃ q, q = n / 32 := ⟨_, rfl⟩
  obtain ⟨s, hs⟩ : ∃ s, s = n % 32 := ⟨_, rfl⟩
  have hs31 : s ≤ 31 := by omega
  have eq1 : (n : Int) / 32 = (q : Int) := by omega
  have es1 : (n : Int) % 32 = (s : Int) := by omega
  have el : (a.length : Int) + (q : Int) + 1 = ((q + a.length + 1 : Nat) : Int) := by omega
  (repeat (first | refine v_reg ?_ | refine v_last ?_ | refine vwp_seq ?_ | refine vwp_block ?_ | refine vwp_skip ?_ | refine vwp_exit ?_ | refine vwp_ret ?_ | refine v_cond ?_ | simp only [vm, ite_true, ite_false, eq_self, reduceIte, Nat.reduceEqDiff, Option.map, g0, eq1, el] | refine And.intro (by omega) ?_))
  refine s_mk (n := q + a.length + 1) (m := q + a.length + 1) (by simp only [vm, ite_true, ite_false, eq_self, reduceIte, Nat.reduceEqDiff, Option.map]) (by simp only [vm, ite_true, ite_false, eq_self, reduceIte, Nat.reduceEqDiff, Option.map]) (Nat.le_refl _) (by omega) ?_
  (repeat (first | refine v_reg ?_ | refine v_last ?_ | refine vwp_seq ?_ | refine vwp_block ?_ | refine vwp_skip ?_ | refine vwp_exit ?_ | refine vwp_ret ?_ | refine v_cond ?_ | simp only [vm, ite_true, ite_false, eq_self, reduceIte, Nat.reduceEqDiff, Option.map, es1] | refine And.intro (by omega) ?_))
  refine v_loop (fun S => ∃ w, w.length = q + a.length + 1 ∧ Lim 4294967296 w ∧ val 4294967296 w = val 4294967296 a * 2 ^ n ∧ S.ρ 5 = .buf c 0 (q + a.length + 1) (some (q + a.length + 1)) 1 ∧ S.σ = supd noBlk c (nblk w) ∧ c + 1 ≤ S.c) ?_ ?_
  · refine vwp_loop (fun k S => ∃ i w o, k = a.length - i ∧ i ≤ a.length ∧ w.length = i ∧ Lim 4294967296 w ∧ o < 2 ^ s ∧ val 4294967296 (w ++ [o]) = val 4294967296 (a.take i) * 2 ^ s ∧ S.ρ 1 = iv (n : Int) ∧ S.ρ 6 = iv (s : Int) ∧ S.ρ 21 = nats t a ∧ S.ρ 22 = iv (a.length : Int) ∧ S.ρ 23 = iv (i : Int) ∧ S.ρ 5 = .buf c 0 (q + a.length + 1) (some (q + a.length + 1)) 1 ∧ S.σ = supd noBlk c (nblk ((List.replicate q 0 ++ w) ++ o :: List.replicate (a.length - i) 0)) ∧ c + 1 ≤ S.c) a.length ?_ ?_
    · refine ⟨0, [], 0, by omega, by omega, ?_⟩
      simp only [vm, ite_true, ite_false, eq_self, reduceIte, Nat.reduceEqDiff, Option.map]
      have e0 : List.replicate (q + a.length + 1) 0 = (List.replicate q 0 ++ []) ++ 0 :: List.replicate (a.length - 0) 0 := by
        rw [List.append_nil, ← List.replicate_succ, List.replicate_append_replicate]; rfl
      rw [e0]
      (repeat' apply And.intro) <;> first | rfl | omega | assumption | exact Lim.nil | exact Nat.two_pow_pos s | (simp [val]; done)
    rintro k ⟨ρ2, σ, c4⟩ ⟨i, w, o, hk, hi, hw, hlw, ho, hinv, h1, h6, h21, h22, h23, h5, hσ, hc4⟩
    dsimp only at h1 h6 h21 h22 h23 h5 hσ hc4
    subst hσ
    by_cases g : (i : Int) < a.length
    · have hi' : i < a.length := by omega
      have hxi := ha.getD (i := i) (by decide)
      have hax := val_take' 4294967296 a i
      obtain ⟨m1, m2, m3, m4, m5⟩ := shl32_low hs31 hxi
      have hql : (List.replicate q 0 ++ w).length = i + q := by simp [hw]; omega
      have eiq : ((i : Int) + (q : Int)).toNat = i + q := by omega
      have eiq1 : ((i : Int) + (q : Int) + 1).toNat = i + q + 1 := by omega
      have hlen : ((List.replicate q 0 ++ w) ++ o :: List.replicate (a.length - i) 0).length = q + a.length + 1 := by simp [hw]; omega
      have hget : ((List.replicate q 0 ++ w) ++ o :: List.replicate (a.length - i) 0).getD (i + q) 0 = o := by rw [← hql]; exact getD_at _ _ _
      have hset1 : ∀ v, ((List.replicate q 0 ++ w) ++ o :: List.replicate (a.length - i) 0).set (i + q) v = (List.replicate q 0 ++ w) ++ v :: List.replicate (a.length - i) 0 := fun v => by rw [← hql]; exact set_at _ _ _ _
      have hset2 : ∀ v v', ((List.replicate q 0 ++ w) ++ v :: List.replicate (a.length - i) 0).set (i + q + 1) v' = (List.replicate q 0 ++ (w ++ [v])) ++ v' :: List.replicate (a.length - (i + 1)) 0 := fun v v' => by
        have e : (List.replicate q 0 ++ w) ++ v :: List.replicate (a.length - i) 0 = (List.replicate q 0 ++ (w ++ [v])) ++ 0 :: List.replicate (a.length - (i + 1)) 0 := by
          rw [show a.length - i = a.length - (i + 1) + 1 by omega, List.replicate_succ]; simp
        rw [e, show i + q + 1 = (List.replicate q 0 ++ (w ++ [v])).length by simp [hw]; omega]
        exact set_at _ _ _ _
      have hlen2 : ∀ v, ((List.replicate q 0 ++ w) ++ v :: List.replicate (a.length - i) 0).length = q + a.length + 1 := fun v => by simp [hw]; omega
      have emin : min s 64 = s := by omega
      have hod : (o + a.getD i 0 * 2 ^ s % 4294967296) % 18446744073709551616 = o + a.getD i 0 * 2 ^ s % 4294967296 := Nat.mod_eq_of_lt (by omega)
      have hstep := shl_step (b := 4294967296) (lo := a.getD i 0 * 2 ^ s % 4294967296) (hi := a.getD i 0 * 2 ^ s / 4294967296) (x := a.getD i 0) (P := 2 ^ s) hw hinv (by omega)
      (repeat (first | refine v_reg ?_ | refine v_last ?_ | refine vwp_seq ?_ | refine vwp_block ?_ | refine vwp_skip ?_ | refine vwp_exit ?_ | refine vwp_ret ?_ | refine v_cond ?_ | simp only [vm, ite_true, ite_false, eq_self, reduceIte, Nat.reduceEqDiff, Option.map, h1, h6, h21, h22, h23, h5, g, eq1, eiq, eiq1, hlen, hlen2, hget, hset1, hset2, emin, m1, m4, hod] | refine And.intro (by omega) ?_))
      refine ⟨a.length - (i + 1), by omega, i + 1, w ++ [o + a.getD i 0 * 2 ^ s % 4294967296], a.getD i 0 * 2 ^ s / 4294967296, ?_⟩
      have key : val 4294967296 ((w ++ [o + a.getD i 0 * 2 ^ s % 4294967296]) ++ [a.getD i 0 * 2 ^ s / 4294967296]) = val 4294967296 (a.take (i + 1)) * 2 ^ s := by
        rw [hstep, hax, Nat.add_mul, Nat.mul_assoc]
      have hlw2 := lim_snoc (v := o + a.getD i 0 * 2 ^ s % 4294967296) hlw (by omega)
      (repeat' apply And.intro) <;> first | rfl | exact key | exact hlw2 | exact m3 | (simp [hw]; done) | omega | assumption
    · have hi' : i = a.length := by omega
      subst hi'
      (repeat (first | refine v_reg ?_ | refine v_last ?_ | refine vwp_seq ?_ | refine vwp_block ?_ | refine vwp_skip ?_ | refine vwp_exit ?_ | refine vwp_ret ?_ | refine v_cond ?_ | simp only [vm, ite_true, ite_false, eq_self, reduceIte, Nat.reduceEqDiff, Option.map, h1, h6, h21, h22, h23, h5, g] | refine And.intro (by omega) ?_))
      rw [List.take_length] at hinv
      refine ⟨List.replicate q 0 ++ (w ++ [o]), ?_⟩
      have hwl : Lim 4294967296 (w ++ [o]) := lim_snoc hlw (by have := Nat.pow_le_pow_right (n := 2) (by decide) hs31; omega)
      have key : val 4294967296 (List.replicate q 0 ++ (w ++ [o])) = val 4294967296 a * 2 ^ n := by
        rw [val_zeros, hinv, pow32, Nat.mul_left_comm, ← Nat.pow_add, show 32 * q + s = n by omega]
      have e0 : (List.replicate q 0 ++ w) ++ o :: List.replicate (a.length - a.length) 0 = List.replicate q 0 ++ (w ++ [o]) := by simp
      rw [e0]
      (repeat' apply And.intro) <;> first | rfl | omega | assumption | exact key | exact (Lim.replicate (by decide)).append hwl | (simp [hw]; omega)
  rintro ⟨ρ3, σ, c5⟩ ⟨w, hw, hlw, hvw, h5, hσ, hc5⟩
  dsimp only at h5 hσ hc5
  subst hσ
  refine v_freeze 5 (t := c) (off := 0) (n := q + a.length + 1) (cap := some (q + a.length + 1)) (l := w) (by simp only [vm, ite_true, ite_false, eq_self, reduceIte, Nat.reduceEqDiff, Option.map, h5]) (by simp only [vm, ite_true, ite_false, eq_self, reduceIte, Nat.reduceEqDiff, Option.map]) (by omega) (by omega) ?_
  rw [List.drop_zero, show w.take (q + a.length + 1) = w from List.take_of_length_le (by omega)]
  (repeat (first | refine v_reg ?_ | refine v_last ?_ | refine vwp_seq ?_ | refine vwp_block ?_ | refine vwp_skip ?_ | refine vwp_exit ?_ | refine vwp_ret ?_ | refine v_cond ?_ | simp only [vm, ite_true, ite_false, eq_self, reduceIte, Nat.reduceEqDiff, Option.map] | refine And.intro (by omega) ?_))
  refine s_call (norm32_spec (.id c) w c5 hlw (by omega)) (by simp only [vm, ite_true, ite_false, eq_self, reduceIte, Nat.reduceEqDiff, Option.map, List.map]) ?_
  rintro v c6 hc6 rfl
  rw [hvw]
  (repeat (first | refine v_reg ?_ | refine v_last ?_ | refine vwp_seq ?_ | refine vwp_block ?_ | refine vwp_skip ?_ | refine vwp_exit ?_ | refine vwp_ret ?_ | refine v_cond ?_ | simp only [vm, ite_true, ite_false, eq_self, reduceIte, Nat.reduceEqDiff, Option.map] | refine And.intro (by omega) ?_))
  exact .inr ⟨c, rfl, by omega, by omega⟩
end Go.Proofs.YtacodmnlnlbahaaGreatDoor
set_option linter.unusedSimpArgs false
set_option linter.unusedVariables false
set_option maxRecDepth 100000
set_option maxHeartbeats 8000000
namespace Go.Proofs.YtacodmnlnlbahaaGreatDoor
open Go.VM

theorem shlR (t : Tok) (m n c : Nat) (hm : bl m ≤ 68719476736) (hm0 : 0 < m) (hn : n ≤ 1099511627776) : VSpec Tryz.prog F.surdref01_Shl c [nats t (digs 4294967296 m), iv n] (fun r c' => RefR c c' (m * 2 ^ n) r) := by
  have h := shl32_spec t (digs 4294967296 m) n c (lim_digs two32 m) (Nat.le_trans (len32_bl (k := 2147483648) (by omega)) (by decide)) hn
  rw [val_digs two32] at h
  refine h.mono ?_
  rintro r c' (⟨h1, _⟩ | h1)
  · exact absurd ((digs_eq_nil two32).1 h1) (by omega)
  · exact h1

end Go.Proofs.YtacodmnlnlbahaaGreatDoor
set_option linter.unusedSimpArgs false
set_option linter.unusedVariables false
set_option maxRecDepth 100000
set_option maxHeartbeats 8000000
namespace Go.VM
end Go.VM
namespace Go.Proofs.YtacodmnlnlbahaaGreatDoor
open Go.VM

theorem u_and1 {b : Bool} {x : Nat} : sbin .and b (nv x) (nv 1) = some (nv (x % 2)) := by
  have e : (BitVec.ofInt 64 (x : Int) &&& BitVec.ofInt 64 1).toNat = x % 2 := by
    simp only [BitVec.ofInt_natCast, BitVec.toNat_and, BitVec.toNat_ofNat]
    have h := Nat.and_two_pow_sub_one_eq_mod (x % 2 ^ 64) 1
    show (x % 2 ^ 64) &&& (2 ^ 1 - 1) = _
    rw [h]
    omega
  show some (V.lit (.int .u64 (IntKind.u64.wrap ((BitVec.ofInt 64 (x : Int) &&& BitVec.ofInt 64 1).toNat : Int)))) = _
  rw [e, wrap_u64 (by omega) (by omega)]

end Go.Proofs.YtacodmnlnlbahaaGreatDoor
namespace Go.Proofs.YtacodmnlnlbahaaGreatDoor
open Go.VM

theorem zero_spec (t : Tok) (n c : Nat) (hn : (digs 4294967296 n).length ≤ 4398046511104) : VSpec Tryz.prog F.surdref01_Num_Zero c [nats t (digs 4294967296 n)] (fun r _ => r = bv (decide (n = 0))) := by
  refine spec_mk hm E.surdref01_Num_Zero B.surdref01_Num_Zero K.surdref01_Num_Zero Q.surdref01_Num_Zero (by rw [N.surdref01_Num_Zero]; simp) ?_
  unfold C.surdref01_Num_Zero R.surdref01_Num_Zero
  have hz := digs_eq_nil two32 (n := n)
  (repeat (first | refine v_reg ?_ | refine v_last ?_ | refine vwp_seq ?_ | refine vwp_block ?_ | refine vwp_skip ?_ | refine vwp_exit ?_ | refine vwp_ret ?_ | refine v_cond ?_ | simp only [vm, ite_true, ite_false, eq_self, reduceIte, Nat.reduceEqDiff, Option.map] | refine And.intro (by omega) ?_))
  by_cases g : n = 0
  · rw [hz.2 g, g]; rfl
  · have h1 : ¬ digs 4294967296 n = [] := fun e => g (hz.1 e)
    have h2 : 0 < (digs 4294967296 n).length := List.length_pos_iff.2 h1
    have h3 : decide (((digs 4294967296 n).length : Int) = 0) = decide (n = 0) := by rw [decide_eq_false (show ¬ ((digs 4294967296 n).length : Int) = 0 by omega), decide_eq_false g]
    rw [h3]
end Go.Proofs.YtacodmnlnlbahaaGreatDoor
set_option linter.unusedVariables false
namespace Go.VM
def tz (n : Nat) : Nat := if h : n = 0 then 0 else if n % 2 = 1 then 0 else tz (n / 2) + 1
termination_by n
decreasing_by omega
theorem tz_zero : tz 0 = 0 := by rw [tz]; rfl
theorem tz_odd {n : Nat} (h : n % 2 = 1) : tz n = 0 := by
  rw [tz, dif_neg (by omega), if_pos h]
theorem tz_even {n : Nat} (h0 : n ≠ 0) (h : n % 2 = 0) : tz n = tz (n / 2) + 1 := by
  rw [tz, dif_neg h0, if_neg (by omega)]
theorem tz_two (n : Nat) (h : n ≠ 0) : tz (2 * n) = tz n + 1 := by
  rw [tz_even (by omega) (by omega), Nat.mul_div_cancel_left _ (by decide)]
theorem tz_pow {n : Nat} (h : n ≠ 0) : ∀ k, tz (2 ^ k * n) = k + tz n
  | 0 => by simp
  | k + 1 => by
    have hp : 0 < 2 ^ k := Nat.two_pow_pos k
    have e : 2 ^ (k + 1) * n = 2 * (2 ^ k * n) := by rw [Nat.pow_succ, Nat.mul_comm (2 ^ k) 2, Nat.mul_assoc]
    rw [e, tz_two _ (Nat.mul_ne_zero (by omega) h), tz_pow h k]
    omega
def od (n : Nat) : Nat := n / 2 ^ tz n
theorem tz_od {n : Nat} (h : n ≠ 0) : n = 2 ^ tz n * od n ∧ od n % 2 = 1 := by
  induction n using Nat.strongRecOn with
  | _ n ih =>
    rcases Nat.mod_two_eq_zero_or_one n with g | g
    · obtain ⟨m, rfl⟩ : ∃ m, n = 2 * m := ⟨n / 2, by omega⟩
      have hm : m ≠ 0 := by omega
      obtain ⟨h1, h2⟩ := ih m (by omega) hm
      have e := tz_two m hm
      have e2 : od (2 * m) = od m := by
        unfold od
        rw [e, Nat.pow_succ, Nat.mul_comm (2 ^ tz m) 2, Nat.mul_div_mul_left _ _ (by decide)]
      rw [e2, e]
      refine ⟨?_, h2⟩
      rw [Nat.pow_succ, Nat.mul_comm (2 ^ tz m) 2, Nat.mul_assoc, ← h1]
    · have e := tz_odd g
      unfold od
      rw [e]
      simp [g]
theorem tz_uniq {n k m : Nat} (h : n = 2 ^ k * m) (hm : m % 2 = 1) : tz n = k ∧ od n = m := by
  have e : tz n = k := by rw [h, tz_pow (by omega), tz_odd hm]; rfl
  refine ⟨e, ?_⟩
  unfold od
  rw [e, h, Nat.mul_div_cancel_left _ (Nat.two_pow_pos k)]
theorem od_pos {n : Nat} (h : n ≠ 0) : 0 < od n := by have := (tz_od h).2; omega
theorem tz_lt {n k : Nat} (h0 : n ≠ 0) (h : n < 2 ^ k) : tz n < k := by
  obtain ⟨h1, h2⟩ := tz_od h0
  have h3 : 2 ^ tz n ≤ n := by
    have := Nat.mul_le_mul_left (2 ^ tz n) (od_pos h0)
    omega
  exact (Nat.pow_lt_pow_iff_right (by decide : 1 < 2)).1 (Nat.lt_of_le_of_lt h3 h)
theorem tz_low {x r k : Nat} (hx0 : x ≠ 0) (hx : x < 2 ^ k) : tz (x + 2 ^ k * r) = tz x := by
  obtain ⟨h1, h2⟩ := tz_od hx0
  have hk := tz_lt hx0 hx
  obtain ⟨j, hj⟩ : ∃ j, k = tz x + 1 + j := ⟨k - tz x - 1, by omega⟩
  refine (tz_uniq (n := x + 2 ^ k * r) (k := tz x) (m := od x + 2 * (2 ^ j * r)) ?_ (by omega)).1
  have e : 2 ^ k * r = 2 ^ tz x * (2 * (2 ^ j * r)) := by
    rw [hj, Nat.pow_add, Nat.pow_succ]; ac_rfl
  rw [Nat.mul_add, ← h1, e]
theorem low_bit {x k : Nat} (h0 : 0 < x) (hk : x < 2 ^ k) : x &&& (2 ^ k - x) = 2 ^ tz x := by
  obtain ⟨h1, h2⟩ := tz_od (n := x) (by omega)
  obtain ⟨y, rfl⟩ : ∃ y, x = y + 1 := ⟨x - 1, by omega⟩
  obtain ⟨j, hj⟩ : ∃ j, od (y + 1) = 2 * j + 1 := ⟨od (y + 1) / 2, by omega⟩
  have ht := tz_lt (n := y + 1) (by omega) hk
  generalize tz (y + 1) = t at *
  generalize od (y + 1) = o at *
  subst hj
  have hp : 0 < 2 ^ t := Nat.two_pow_pos t
  have ey : y = 2 ^ t * (2 * j) + (2 ^ t - 1) := by
    have : 2 ^ t * (2 * j + 1) = 2 ^ t * (2 * j) + 2 ^ t := by rw [Nat.mul_add, Nat.mul_one]
    omega
  have ex : y + 1 = 2 ^ t * (2 * j + 1) + 0 := by omega
  refine Nat.eq_of_testBit_eq fun i => ?_
  rw [Nat.testBit_and, Nat.testBit_two_pow_sub_succ (by omega), Nat.testBit_two_pow]
  rw [show (y + 1).testBit i = (2 ^ t * (2 * j + 1) + 0).testBit i by rw [← ex], show y.testBit i = (2 ^ t * (2 * j) + (2 ^ t - 1)).testBit i by rw [← ey]]
  rw [Nat.testBit_two_pow_mul_add _ (by omega), Nat.testBit_two_pow_mul_add _ (by omega)]
  by_cases g : i < t
  · rw [if_pos g, if_pos g]
    have : ¬ t = i := by omega
    simp [this]
  · rw [if_neg g, if_neg g]
    rcases Nat.lt_or_ge t i with g2 | g2
    · obtain ⟨d, hd⟩ : ∃ d, i - t = d + 1 := ⟨i - t - 1, by omega⟩
      have e1 : (2 * j + 1).testBit (d + 1) = j.testBit d := by rw [Nat.testBit_succ, show (2 * j + 1) / 2 = j by omega]
      have e2 : (2 * j).testBit (d + 1) = j.testBit d := by rw [Nat.testBit_succ, show (2 * j) / 2 = j by omega]
      have : ¬ t = i := by omega
      rw [hd, e1, e2]
      cases j.testBit d <;> simp [this]
    · have : t = i := by omega
      subst this
      have hk2 : t < k := ht
      simp [hk2, Nat.testBit_zero]
end Go.VM
namespace Go.VM
def dbTab : List Nat := [0, 1, 56, 2, 57, 49, 28, 3, 61, 58, 42, 50, 38, 29, 17, 4, 62, 47, 59, 36, 45, 43, 51, 22, 53, 39, 33, 30, 24, 18, 12, 5, 63, 55, 48, 27, 60, 41, 37, 16, 46, 35, 44, 21, 52, 32, 23, 11, 54, 26, 40, 15, 34, 20, 31, 10, 25, 14, 19, 9, 13, 8, 7, 6]
theorem db_ok : ∀ k, k < 64 → (2 ^ k * 285870213051353865 % 18446744073709551616) / 288230376151711744 < 64 ∧ dbTab[(2 ^ k * 285870213051353865 % 18446744073709551616) / 288230376151711744]? = some k := by decide
theorem db_tz {x : Nat} (h0 : 0 < x) (hx : x < 18446744073709551616) : ((x &&& (18446744073709551616 - x)) * 285870213051353865 % 18446744073709551616) / 288230376151711744 < 64 ∧ dbTab[((x &&& (18446744073709551616 - x)) * 285870213051353865 % 18446744073709551616) / 288230376151711744]? = some (tz x) := by
  have h := low_bit (k := 64) h0 hx
  have h2 : x &&& (18446744073709551616 - x) = 2 ^ tz x := h
  rw [h2]
  exact db_ok (tz x) (tz_lt (k := 64) (by omega) hx)
end Go.VM
set_option linter.unusedVariables false
set_option linter.unusedSimpArgs false
namespace Go.VM

def boxS (P : Program) (dr : Bool) (c0 : Nat) (a : Option (List V)) (i : Nat) (ρ : Nat → V) (σ : Nat → Option Blk) (c : Nat) (r : List VO) (K : VS → Prop) : Prop := ∃ l, a = some l ∧ wps P dr c0 r ⟨upd ρ i (.ptr c 0), supd σ c (some ⟨l, true⟩), c + 1⟩ K
def boxAS (P : Program) (dr : Bool) (c0 n : Nat) (b : Option Blk) (a : Option (List V)) (i : Nat) (ρ : Nat → V) (σ : Nat → Option Blk) (c : Nat) (r : List VO) (K : VS → Prop) : Prop := b = none ∧ ∃ l, a = some l ∧ l.length = n ∧ wps P dr c0 r ⟨upd ρ i (.ptr c 0), supd σ c (some ⟨l, true⟩), c + 1⟩ K
section
variable {P : Program} {dr : Bool} {c0 : Nat} {S : VS} {r : List VO} {K : VS → Prop} {d : Option Nat} {i c : Nat} {ρ : Nat → V} {σ : Nat → Option Blk}
theorem q_alloc {z : List Value} : wps P dr c0 (⟨some i, .alloc z, none⟩ :: r) ⟨ρ, σ, c⟩ K = wps P dr c0 r ⟨upd ρ i (.ptr c 0), supd σ c (some ⟨vlits z, true⟩), c + 1⟩ K := by
  refine propext ⟨fun h => ?_, fun h => s_alloc h⟩
  obtain ⟨v, σ', c', kt, h, hk⟩ := opS_eff h
  cases h with
  | pure h => simp [vpure] at h
  | alloc => exact hk
theorem q_box {x : X} : wps P dr c0 (⟨some i, .box x, none⟩ :: r) ⟨ρ, σ, c⟩ K = boxS P dr c0 (x.ev ρ).cells i ρ σ c r K := by
  refine propext ⟨fun h => ?_, fun ⟨l, h1, h2⟩ => s_box h1 h2⟩
  obtain ⟨v, σ', c', kt, h, hk⟩ := opS_eff h
  cases h with
  | pure h => simp [vpure] at h
  | box h => exact ⟨_, h, hk⟩
theorem q_boxA {n : Nat} {x : X} : wps P dr c0 (⟨some i, .boxA n x, none⟩ :: r) ⟨ρ, σ, c⟩ K = boxAS P dr c0 n (σ c) (x.ev ρ).cells i ρ σ c r K := by
  refine propext ⟨fun h => ?_, fun ⟨h0, l, h1, hn, h2⟩ => s_boxA h1 hn h0 h2⟩
  obtain ⟨v, σ', c', kt, h, hk⟩ := opS_eff h
  cases h with
  | pure h => simp [vpure] at h
  | boxA hf h hn => exact ⟨hf, _, h, hn, hk⟩
theorem all_offL {p : V} {e : Nat → V} : ∀ {ys : List Nat}, (∀ i ∈ ys, V.offp p (e i)) → offL p (ys.map e)
  | [], _ => trivial
  | y :: ys, h => ⟨h y List.mem_cons_self, all_offL fun i hi => h i (List.mem_cons_of_mem _ hi)⟩
theorem q_storeA {n : Nat} {x y : X} {ys : List Nat} : wps P dr c0 (⟨none, .storeA n x y ys, none⟩ :: r) ⟨ρ, σ, c⟩ K = offS P dr c0 (x.ev ρ) (ys.map ρ) (vstore σ n (x.ev ρ) (y.ev ρ)) ρ c r K := by
  refine propext ⟨fun h => ?_, fun h => s_storeA h⟩
  obtain ⟨v, σ', c', kt, h, hk⟩ := opS_eff h
  cases h with
  | pure h => simp [vpure] at h
  | storeA ha h => exact ⟨all_offL ha, _, h, hk⟩
theorem offS_eq {p : V} {l : List V} {a : Option (Nat → Option Blk)} : offS P dr c0 p l a ρ c r K = (offL p l ∧ putS P dr c0 a ρ c r K) := Eq.trans rfl rfl
theorem boxS_some {l : List V} : boxS P dr c0 (some l) i ρ σ c r K = wps P dr c0 r ⟨upd ρ i (.ptr c 0), supd σ c (some ⟨l, true⟩), c + 1⟩ K := by simp [boxS]
theorem boxAS_some {n : Nat} {l : List V} : boxAS P dr c0 n none (some l) i ρ σ c r K = (l.length = n ∧ wps P dr c0 r ⟨upd ρ i (.ptr c 0), supd σ c (some ⟨l, true⟩), c + 1⟩ K) := by simp [boxAS]
theorem boxS_congr {a b : Option (List V)} (h : a = b) : boxS P dr c0 a i ρ σ c r K = boxS P dr c0 b i ρ σ c r K := by rw [h]
theorem boxAS_congr {n : Nat} {a b : Option (List V)} {p q : Option Blk} (h : a = b) (g : p = q) : boxAS P dr c0 n p a i ρ σ c r K = boxAS P dr c0 n q b i ρ σ c r K := by rw [h, g]
theorem offS_congr {p q : V} {l m : List V} {a b : Option (Nat → Option Blk)} (h : p = q) (g : l = m) (e : a = b) : offS P dr c0 p l a ρ c r K = offS P dr c0 q m b ρ c r K := by rw [h, g, e]
end
attribute [congr] boxS_congr boxAS_congr offS_congr

theorem cells_agg {l : List V} : V.cells (.agg l) = some l := Eq.trans rfl rfl
theorem cells_sl {t : Tok} {n : Nat} {l : List V} : V.cells (.sl t n l) = some [.sl t n l] := Eq.trans rfl rfl
theorem cells_int {k : IntKind} {n : Int} : V.cells (.lit (.int k n)) = some [.lit (.int k n)] := Eq.trans rfl rfl
theorem cells_bool {b : Bool} : V.cells (.lit (.bool b)) = some [.lit (.bool b)] := Eq.trans rfl rfl
theorem cellsB_agg {l : List V} : V.cellsB (.agg l) = some l := Eq.trans rfl rfl
theorem cellsB_sl {t : Tok} {n : Nat} {l : List V} : V.cellsB (.sl t n l) = some [.sl t n l] := Eq.trans rfl rfl
theorem cellsB_int {k : IntKind} {n : Int} : V.cellsB (.lit (.int k n)) = some [.lit (.int k n)] := Eq.trans rfl rfl
theorem cellsB_bool {b : Bool} : V.cellsB (.lit (.bool b)) = some [.lit (.bool b)] := Eq.trans rfl rfl
theorem cellsB_buf {t off n sz : Nat} {cap : Option Nat} : V.cellsB (.buf t off n cap sz) = some [.buf t off n cap sz] := Eq.trans rfl rfl

def takeF : Nat → List V → Option (List V)
  | 0, _ => some []
  | n + 1, [] => none
  | n + 1, x :: l => if x.flat = true then (takeF n l).map (x :: ·) else none
theorem takeF_zero {l : List V} : takeF 0 l = some [] := by cases l <;> rfl
theorem takeF_succ {n : Nat} {x : V} {l : List V} : takeF (n + 1) (x :: l) = if x.flat = true then (takeF n l).map (x :: ·) else none := Eq.trans rfl rfl
theorem takeF_eq : ∀ (n : Nat) (l : List V), takeF n l = if n ≤ l.length ∧ (l.take n).all V.flat = true then some (l.take n) else none
  | 0, l => by simp [takeF_zero]
  | n + 1, [] => by simp [takeF]
  | n + 1, x :: l => by
    rw [takeF_succ, takeF_eq n l]
    by_cases h : x.flat = true
    · by_cases g : n ≤ l.length ∧ (l.take n).all V.flat = true
      · rw [if_pos h, if_pos g, if_pos ⟨by simp; exact g.1, by simp [h]; simpa using g.2⟩]; rfl
      · rw [if_pos h, if_neg g, if_neg]; · rfl
        intro q
        exact g ⟨by simpa using q.1, by have := q.2; simp [h] at this; simpa using this⟩
    · rw [if_neg h, if_neg]
      intro q
      have := q.2
      simp at this
      exact h this.1
theorem vp_succ {x : V} {l : List V} {i : Nat} {ag : Option Nat} : vpart (x :: l) (i + 1) ag = vpart l i ag := by
  cases ag with
  | none => simp [vpart]
  | some n =>
    simp only [vpart, List.length_cons, List.drop_succ_cons]
    by_cases h : i + n ≤ l.length ∧ ((l.drop i).take n).all V.flat = true
    · rw [if_pos h, if_pos ⟨by omega, h.2⟩]
    · rw [if_neg h, if_neg fun q => h ⟨by omega, q.2⟩]
theorem vp_none {x : V} {l : List V} : vpart (x :: l) 0 none = some x := Eq.trans rfl rfl
theorem vp_some {l : List V} {n : Nat} : vpart l 0 (some n) = (takeF n l).map .agg := by
  rw [takeF_eq]
  simp only [vpart, Nat.zero_add, List.drop_zero]
  split <;> rfl
theorem dl_some {l : List V} {b : Bool} {ag : Option Nat} {i : Nat} : dload (some ⟨l, b⟩) ag i = vpart l i ag := Eq.trans rfl rfl
theorem flat_sl {t : Tok} {n : Nat} {l : List V} : V.flat (.sl t n l) = true := Eq.trans rfl rfl
theorem flat_lit {v : Value} : V.flat (.lit v) = true := Eq.trans rfl rfl
theorem flat_agg {l : List V} : V.flat (.agg l) = true := Eq.trans rfl rfl
theorem ld_eptr {σ : Nat → Option Blk} {ag : Option Nat} {l : List V} {i : Nat} : vload σ ag (.eptr l i) = vpart l i ag := Eq.trans rfl rfl
theorem fd_agg {off : Nat} {ag : Option Nat} {l : List V} : vfld off ag (.agg l) = vpart l off ag := Eq.trans rfl rfl
theorem fa_ptr {off t o : Nat} : vfa off (.ptr t o) = some (.ptr t (o + off)) := Eq.trans rfl rfl
theorem fa_eptr {off i : Nat} {l : List V} : vfa off (.eptr l i) = some (.eptr l (i + off)) := Eq.trans rfl rfl
theorem ds_agg {l cs : List V} {σ : Nat → Option Blk} {t n off : Nat} : dstore (some ⟨l, true⟩) σ t n off (.agg cs) = if cs.length = n ∧ off + n ≤ l.length then some (supd σ t (some ⟨putCells l off cs, true⟩)) else none := by
  simp [dstore, V.cellsB, V.cells]
theorem ds_one {l : List V} {σ : Nat → Option Blk} {t off : Nat} {v : V} (h : v.cellsB = some [v]) : dstore (some ⟨l, true⟩) σ t 1 off v = if off < l.length then some (supd σ t (some ⟨l.set off v, true⟩)) else none := by
  simp only [dstore, h]
  by_cases g : off < l.length
  · rw [if_pos g, if_pos ⟨trivial, rfl, by omega⟩]; rfl
  · rw [if_neg g, if_neg (by omega)]
theorem ds_sl {l : List V} {σ : Nat → Option Blk} {t off n : Nat} {tk : Tok} {m : List V} : dstore (some ⟨l, true⟩) σ t 1 off (.sl tk n m) = if off < l.length then some (supd σ t (some ⟨l.set off (.sl tk n m), true⟩)) else none := ds_one rfl
theorem ds_int {l : List V} {σ : Nat → Option Blk} {t off : Nat} {k : IntKind} {n : Int} : dstore (some ⟨l, true⟩) σ t 1 off (.lit (.int k n)) = if off < l.length then some (supd σ t (some ⟨l.set off (.lit (.int k n)), true⟩)) else none := ds_one rfl
theorem ds_bool {l : List V} {σ : Nat → Option Blk} {t off : Nat} {b : Bool} : dstore (some ⟨l, true⟩) σ t 1 off (.lit (.bool b)) = if off < l.length then some (supd σ t (some ⟨l.set off (.lit (.bool b)), true⟩)) else none := ds_one rfl
theorem ds_buf {l : List V} {σ : Nat → Option Blk} {t off t' o' n' sz : Nat} {cap : Option Nat} : dstore (some ⟨l, true⟩) σ t 1 off (.buf t' o' n' cap sz) = if off < l.length then some (supd σ t (some ⟨l.set off (.buf t' o' n' cap sz), true⟩)) else none := ds_one rfl
theorem pc_nil {l : List V} {i : Nat} : putCells l i [] = l := Eq.trans rfl rfl
theorem pc_cons {l xs : List V} {x : V} {i : Nat} : putCells l i (x :: xs) = putCells (l.set i x) (i + 1) xs := Eq.trans rfl rfl
theorem vl_nil : vlits [] = [] := Eq.trans rfl rfl
theorem vl_cons {v : Value} {z : List Value} : vlits (v :: z) = ofCell v :: vlits z := Eq.trans rfl rfl
theorem oc_bool {b : Bool} : ofCell (.bool b) = .lit (.bool b) := Eq.trans rfl rfl
theorem oc_int {k : IntKind} {n : Int} : ofCell (.int k n) = .lit (.int k n) := Eq.trans rfl rfl
theorem oc_nil : ofCell (.slice none 0 0) = .sl .nil 1 [] := Eq.trans rfl rfl
theorem po_nil {e : X → V} : partsOf e [] = [] := Eq.trans rfl rfl
theorem po_cons {e : X → V} {a n : Nat} {x : X} {ps : List (Nat × Nat × X)} : partsOf e ((a, n, x) :: ps) = (a, n, e x) :: partsOf e ps := Eq.trans rfl rfl
theorem vb_eq {z : List Value} {ps : List (Nat × Nat × V)} : vbuild z ps = (vfill (vlits z) ps).map .agg := Eq.trans rfl rfl
theorem vf_nil {cs : List V} : vfill cs [] = some cs := Eq.trans rfl rfl
theorem vf_agg {cs l : List V} {off n : Nat} {r : List (Nat × Nat × V)} : vfill cs ((off, n, .agg l) :: r) = if l.length = n ∧ off + n ≤ cs.length then vfill (putCells cs off l) r else none := Eq.trans rfl rfl
theorem vf_one {cs : List V} {v : V} (h : v.cells = some [v]) {off : Nat} {r : List (Nat × Nat × V)} : vfill cs ((off, 1, v) :: r) = if off < cs.length then vfill (cs.set off v) r else none := by
  simp only [vfill, h]
  by_cases g : off < cs.length
  · rw [if_pos g, if_pos ⟨rfl, by omega⟩]; rfl
  · rw [if_neg g, if_neg (by omega)]
theorem vf_sl {cs : List V} {t : Tok} {n : Nat} {l : List V} {off : Nat} {r : List (Nat × Nat × V)} : vfill cs ((off, 1, .sl t n l) :: r) = if off < cs.length then vfill (cs.set off (.sl t n l)) r else none := vf_one rfl
theorem vf_int {cs : List V} {k : IntKind} {n : Int} {off : Nat} {r : List (Nat × Nat × V)} : vfill cs ((off, 1, .lit (.int k n)) :: r) = if off < cs.length then vfill (cs.set off (.lit (.int k n))) r else none := vf_one rfl
theorem vf_bool {cs : List V} {b : Bool} {off : Nat} {r : List (Nat × Nat × V)} : vfill cs ((off, 1, .lit (.bool b)) :: r) = if off < cs.length then vfill (cs.set off (.lit (.bool b))) r else none := vf_one rfl
def oneQ (v : V) : Option V := if v.one = true then some v else none
theorem oneQ_agg {l : List V} : oneQ (.agg l) = some (.agg l) := Eq.trans rfl rfl
theorem oneQ_sl {t : Tok} {n : Nat} {l : List V} : oneQ (.sl t n l) = some (.sl t n l) := Eq.trans rfl rfl
theorem oneQ_lit {v : Value} : oneQ (.lit v) = some (.lit v) := Eq.trans rfl rfl
theorem oneQ_tup {l : List V} : oneQ (.tup l) = some (.tup l) := Eq.trans rfl rfl
def getS (a : Option V) (K : V → Prop) : Prop := ∃ r, a = some r ∧ K r
theorem getS_some {v : V} {K : V → Prop} : getS (some v) K = K v := by simp [getS]
theorem getS_congr {a b : Option V} {K : V → Prop} (h : a = b) : getS a K = getS b K := by rw [h]
attribute [congr] getS_congr
theorem vr_tmp {ρ : Nat → V} {σ : Nat → Option Blk} {c t : Nat} : vres ⟨ρ, σ, c⟩ (.tmp t) = oneQ (ρ t) := Eq.trans rfl rfl
theorem vr_cell {ρ : Nat → V} {σ : Nat → Option Blk} {c t : Nat} {ag : Option Nat} : vres ⟨ρ, σ, c⟩ (.cell t ag) = (vload σ ag (ρ t)).bind oneQ := by
  unfold vres
  simp only
  cases vload σ ag (ρ t) <;> rfl
theorem vr_nil {S : VS} : vresL S [] = some [] := Eq.trans rfl rfl
theorem vr_cons {S : VS} {r : VRes} {l : List VRes} : vresL S (r :: l) = (vres S r).bind fun v => (vresL S l).map (v :: ·) := by
  simp only [vresL]
  cases vres S r <;> cases vresL S l <;> rfl
def resV : Option (List V) → Option V | some [v] => some v | some vs => some (.tup vs) | none => none
theorem resV_1 {v : V} : resV (some [v]) = some v := Eq.trans rfl rfl
theorem resV_2 {a b : V} {l : List V} : resV (some (a :: b :: l)) = some (.tup (a :: b :: l)) := Eq.trans rfl rfl
theorem rt_any {rs : List VRes} {Q : V → Nat → Prop} {ρ : Nat → V} {σ : Nat → Option Blk} {c : Nat} : retQ rs Q .ret ⟨ρ, σ, c⟩ = getS (resV (vresL ⟨ρ, σ, c⟩ rs)) fun r => Q r c := by
  rw [retQ_ret]
  unfold getS resV vresult
  rfl
def bslS (P : Program) (dr : Bool) (c0 : Nat) (a : Option (List V)) (sz i : Nat) (ρ : Nat → V) (σ : Nat → Option Blk) (c : Nat) (r : List VO) (K : VS → Prop) : Prop := ∃ l, a = some l ∧ wps P dr c0 r ⟨upd ρ i (.sl (.id c) sz l), σ, c + 1⟩ K
def bslS0 (P : Program) (dr : Bool) (c0 : Nat) (a : Option (List V)) (sz i : Nat) (ρ : Nat → V) (σ : Nat → Option Blk) (c : Nat) (r : List VO) (K : VS → Prop) : Prop := ∃ l, a = some l ∧ wps P dr c0 r ⟨upd ρ i (.sl .unk sz l), σ, c⟩ K
section
variable {P : Program} {dr : Bool} {c0 : Nat} {S : VS} {r : List VO} {K : VS → Prop} {d : Option Nat} {i c : Nat} {ρ : Nat → V} {σ : Nat → Option Blk}
theorem q_bsl {sz len : Nat} {z : List Value} {ps : List (Nat × Nat × X)} : wps P dr c0 (⟨some i, .bsl true sz len z ps, none⟩ :: r) ⟨ρ, σ, c⟩ K = bslS P dr c0 (vfill (rept z len) (partsOf (X.ev ρ) ps)) sz i ρ σ c r K := by
  refine propext ⟨fun h => ?_, fun ⟨l, h1, h2⟩ => s_eff rfl (by intros; exact fun h => by cases h) (by intros; exact fun h => by cases h) ⟨_, _, _, none, .bsl h1, h2⟩⟩
  obtain ⟨v, σ', c', kt, h, hk⟩ := opS_eff h
  cases h with
  | pure h => simp [vpure] at h
  | bsl h => exact ⟨_, h, hk⟩
theorem q_bsl0 {sz len : Nat} {z : List Value} {ps : List (Nat × Nat × X)} : wps P dr c0 (⟨some i, .bsl false sz len z ps, none⟩ :: r) ⟨ρ, σ, c⟩ K = bslS0 P dr c0 (vfill (rept z len) (partsOf (X.ev ρ) ps)) sz i ρ σ c r K := by
  refine propext ⟨fun h => ?_, fun ⟨l, h1, h2⟩ => s_eff rfl (by intros; exact fun h => by cases h) (by intros; exact fun h => by cases h) ⟨_, _, _, none, .bsl0 h1, h2⟩⟩
  obtain ⟨v, σ', c', kt, h, hk⟩ := opS_eff h
  cases h with
  | pure h => simp [vpure] at h
  | bsl0 h => exact ⟨_, h, hk⟩
theorem bslS_some {l : List V} {sz : Nat} : bslS P dr c0 (some l) sz i ρ σ c r K = wps P dr c0 r ⟨upd ρ i (.sl (.id c) sz l), σ, c + 1⟩ K := by simp [bslS]
theorem bslS0_some {l : List V} {sz : Nat} : bslS0 P dr c0 (some l) sz i ρ σ c r K = wps P dr c0 r ⟨upd ρ i (.sl .unk sz l), σ, c⟩ K := by simp [bslS0]
theorem bslS_congr {a b : Option (List V)} {sz : Nat} (h : a = b) : bslS P dr c0 a sz i ρ σ c r K = bslS P dr c0 b sz i ρ σ c r K := by rw [h]
theorem bslS0_congr {a b : Option (List V)} {sz : Nat} (h : a = b) : bslS0 P dr c0 a sz i ρ σ c r K = bslS0 P dr c0 b sz i ρ σ c r K := by rw [h]
end
attribute [congr] bslS_congr bslS0_congr
theorem rp_zero {z : List Value} : rept z 0 = [] := Eq.trans rfl rfl
theorem rp_succ {z : List Value} {n : Nat} : rept z (n + 1) = vlits z ++ rept z n := Eq.trans rfl rfl
theorem ix_sl {sz : Nat} {t : Tok} {l : List V} {n : Int} : vixa sz (.sl t sz l) (iv n) = if 0 ≤ n ∧ n.toNat < l.length / sz then some (.eptr l (n.toNat * sz)) else none := by simp [vixa]
theorem ln_sl {sz : Nat} {t : Tok} {l : List V} : vlen (.sl t sz l) = some (iv ((l.length / sz : Nat) : Int)) := Eq.trans rfl rfl
def nextQ (P : Program) (c0 : Nat) (b : VC) (Q : VEx → VS → Prop) : VEx → VS → Prop
  | .normal, S => VWP P c0 (.loop b) Q S
  | e, S => Q e S
theorem nextQ_normal {P : Program} {c0 : Nat} {b : VC} {Q : VEx → VS → Prop} {S : VS} : nextQ P c0 b Q .normal S = VWP P c0 (.loop b) Q S := Eq.trans rfl rfl
theorem nextQ_exit {P : Program} {c0 : Nat} {b : VC} {Q : VEx → VS → Prop} {S : VS} {j : Nat} : nextQ P c0 b Q (.exit j) S = Q (.exit j) S := Eq.trans rfl rfl
theorem nextQ_ret {P : Program} {c0 : Nat} {b : VC} {Q : VEx → VS → Prop} {S : VS} : nextQ P c0 b Q .ret S = Q .ret S := Eq.trans rfl rfl
attribute [irreducible] nextQ
theorem b_neS {a : Bool} : sbin .neq true (bv a) (bv a) = some (bv false) := by cases a <;> rfl
theorem b_ne1 : sbin .neq true (bv false) (bv true) = some (bv true) := Eq.trans rfl rfl
theorem b_ne2 : sbin .neq true (bv true) (bv false) = some (bv true) := Eq.trans rfl rfl
theorem b_eqS {a : Bool} : sbin .eql true (bv a) (bv a) = some (bv true) := by cases a <;> rfl
theorem b_eq1 : sbin .eql true (bv false) (bv true) = some (bv false) := Eq.trans rfl rfl
theorem b_eq2 : sbin .eql true (bv true) (bv false) = some (bv false) := Eq.trans rfl rfl
theorem k_ne {α : Sort _} {a b : Nat} {x y : α} (h : a ≠ b) : (if a = b then x else y) = y := if_neg h
theorem vst : type_of% (And.intro @b_neS (And.intro @b_ne1 (And.intro @b_ne2 (And.intro @b_eqS (And.intro @b_eq1 (And.intro @b_eq2 (And.intro @q_bsl (And.intro @q_bsl0 (And.intro @bslS_some (And.intro @bslS0_some (And.intro @rp_zero (And.intro @rp_succ (And.intro @ix_sl (And.intro @ln_sl (And.intro @nextQ_normal (And.intro @nextQ_exit (And.intro @nextQ_ret (And.intro @q_alloc (And.intro @q_box (And.intro @q_boxA (And.intro @q_storeA (And.intro @offS_eq (And.intro @boxS_some (And.intro @boxAS_some (And.intro @offL_nil (And.intro @offL_cons (And.intro @offp_ptr (And.intro @cells_agg (And.intro @cells_sl (And.intro @cells_int (And.intro @cells_bool (And.intro @cellsB_agg (And.intro @cellsB_sl (And.intro @cellsB_int (And.intro @cellsB_bool (And.intro @cellsB_buf (And.intro @takeF_zero (And.intro @takeF_succ (And.intro @vp_succ (And.intro @vp_none (And.intro @vp_some (And.intro @dl_some (And.intro @flat_sl (And.intro @flat_lit (And.intro @flat_agg (And.intro @ld_eptr (And.intro @fd_agg (And.intro @fa_ptr (And.intro @fa_eptr (And.intro @ds_agg (And.intro @ds_sl (And.intro @ds_int (And.intro @ds_bool (And.intro @ds_buf (And.intro @pc_nil (And.intro @pc_cons (And.intro @vl_nil (And.intro @vl_cons (And.intro @oc_bool (And.intro @oc_int (And.intro @oc_nil (And.intro @po_nil (And.intro @po_cons (And.intro @vb_eq (And.intro @vf_nil (And.intro @vf_agg (And.intro @vf_sl (And.intro @vf_int (And.intro @vf_bool (And.intro @oneQ_agg (And.intro @oneQ_sl (And.intro @oneQ_lit (And.intro @oneQ_tup (And.intro @getS_some (And.intro @vr_tmp (And.intro @vr_cell (And.intro @vr_nil (And.intro @vr_cons (And.intro @resV_1 (And.intro @resV_2 (And.intro @rt_any @s_build))))))))))))))))))))))))))))))))))))))))))))))))))))))))))))))))))))))))))))))))) :=
  (And.intro @b_neS (And.intro @b_ne1 (And.intro @b_ne2 (And.intro @b_eqS (And.intro @b_eq1 (And.intro @b_eq2 (And.intro @q_bsl (And.intro @q_bsl0 (And.intro @bslS_some (And.intro @bslS0_some (And.intro @rp_zero (And.intro @rp_succ (And.intro @ix_sl (And.intro @ln_sl (And.intro @nextQ_normal (And.intro @nextQ_exit (And.intro @nextQ_ret (And.intro @q_alloc (And.intro @q_box (And.intro @q_boxA (And.intro @q_storeA (And.intro @offS_eq (And.intro @boxS_some (And.intro @boxAS_some (And.intro @offL_nil (And.intro @offL_cons (And.intro @offp_ptr (And.intro @cells_agg (And.intro @cells_sl (And.intro @cells_int (And.intro @cells_bool (And.intro @cellsB_agg (And.intro @cellsB_sl (And.intro @cellsB_int (And.intro @cellsB_bool (And.intro @cellsB_buf (And.intro @takeF_zero (And.intro @takeF_succ (And.intro @vp_succ (And.intro @vp_none (And.intro @vp_some (And.intro @dl_some (And.intro @flat_sl (And.intro @flat_lit (And.intro @flat_agg (And.intro @ld_eptr (And.intro @fd_agg (And.intro @fa_ptr (And.intro @fa_eptr (And.intro @ds_agg (And.intro @ds_sl (And.intro @ds_int (And.intro @ds_bool (And.intro @ds_buf (And.intro @pc_nil (And.intro @pc_cons (And.intro @vl_nil (And.intro @vl_cons (And.intro @oc_bool (And.intro @oc_int (And.intro @oc_nil (And.intro @po_nil (And.intro @po_cons (And.intro @vb_eq (And.intro @vf_nil (And.intro @vf_agg (And.intro @vf_sl (And.intro @vf_int (And.intro @vf_bool (And.intro @oneQ_agg (And.intro @oneQ_sl (And.intro @oneQ_lit (And.intro @oneQ_tup (And.intro @getS_some (And.intro @vr_tmp (And.intro @vr_cell (And.intro @vr_nil (And.intro @vr_cons (And.intro @resV_1 (And.intro @resV_2 (And.intro @rt_any @s_build)))))))))))))))))))))))))))))))))))))))))))))))))))))))))))))))))))))))))))))))))
end Go.VM
set_option linter.unusedSimpArgs false
set_option linter.unusedVariables false
set_option maxRecDepth 100000
set_option maxHeartbeats 8000000
namespace Go.Proofs.YtacodmnlnlbahaaGreatDoor
open Go.VM

theorem u_neg {x : Nat} : vun .neg (nv x) = some (nv ((18446744073709551616 - x % 18446744073709551616) % 18446744073709551616)) := by
  simp only [vun]
  have : IntKind.u64.wrap (0 - (x : Int)) = (((18446744073709551616 - x % 18446744073709551616) % 18446744073709551616 : Nat) : Int) := by
    simp only [IntKind.wrap, IntKind.signed, IntKind.bits]
    simp
    omega
  rw [this]
theorem ax_g {n sz g off x : Nat} : vaxa n sz (.gptr g off) (nv x) = if x < n then some (.gptr g (off + x * sz)) else none := by
  simp [vaxa]
theorem ld_tab {σ : Nat → Option Blk} {i k : Nat} (h : dbTab[i]? = some k) : vload σ none (.gptr 0 i) = some (.lit (.int .u8 (k : Int))) := by
  have e : ∀ (l : List Nat) (j : Nat) (k : Nat), l[j]? = some k → ((l.map fun z : Nat => Value.int .u8 (z : Int)).map ofCell)[j]? = some (.lit (.int .u8 (k : Int))) := by
    intro l j k h
    rw [List.getElem?_map, List.getElem?_map, h]
    rfl
  have e2 : GT 0 = some (dbTab.map fun z : Nat => Value.int .u8 (z : Int)) := rfl
  simp only [vload, e2, vpart]
  exact e _ _ _ h

theorem tz64_spec (x c : Nat) (h0 : 0 < x) (hx : x < 18446744073709551616) : VSpec Tryz.prog F.bits_TrailingZeros64 c [nv x] (fun r _ => r = iv (tz x)) := by
  refine spec_mk hm E.bits_TrailingZeros64 B.bits_TrailingZeros64 K.bits_TrailingZeros64 Q.bits_TrailingZeros64 (by rw [N.bits_TrailingZeros64]; simp) ?_
  unfold C.bits_TrailingZeros64 R.bits_TrailingZeros64
  obtain ⟨h1, h2⟩ := db_tz h0 hx
  have h3 : (18446744073709551616 - x % 18446744073709551616) % 18446744073709551616 = 18446744073709551616 - x := by omega
  have h4 : x &&& (18446744073709551616 - x) = 2 ^ tz x := low_bit (k := 64) h0 hx
  have h5 : x % 18446744073709551616 &&& (18446744073709551616 - x) % 18446744073709551616 = x &&& (18446744073709551616 - x) := by rw [Nat.mod_eq_of_lt hx, Nat.mod_eq_of_lt (by omega)]
  have hne : ¬ x = 0 := by omega
  have hp : 2 ^ min 58 64 = 288230376151711744 := by decide
  (repeat (first | refine v_reg ?_ | refine v_last ?_ | refine vwp_seq ?_ | refine vwp_block ?_ | refine vwp_skip ?_ | refine vwp_exit ?_ | refine vwp_ret ?_ | refine v_cond ?_ | simp only [vm, ite_true, ite_false, eq_self, reduceIte, Nat.reduceEqDiff, Option.map, hne] | refine And.intro (by omega) ?_))
  simp only [u_neg, u_and, h3, h5, vm, ite_true, ite_false, eq_self, reduceIte, Nat.reduceEqDiff, Option.map, hp, ax_g, h1]
  simp only [Nat.mul_one, ld_tab h2, vm, ite_true, ite_false, eq_self, reduceIte, Nat.reduceEqDiff, Option.map]
  have ht := tz_lt (k := 64) (by omega) hx
  rw [c_8i (by omega)]
  (repeat (first | refine v_reg ?_ | refine v_last ?_ | refine vwp_seq ?_ | refine vwp_block ?_ | refine vwp_skip ?_ | refine vwp_exit ?_ | refine vwp_ret ?_ | refine v_cond ?_ | simp only [vm, ite_true, ite_false, eq_self, reduceIte, Nat.reduceEqDiff, Option.map] | refine And.intro (by omega) ?_))
  exact Nat.le_refl _
end Go.Proofs.YtacodmnlnlbahaaGreatDoor
set_option linter.unusedSimpArgs false
set_option linter.unusedVariables false
set_option maxRecDepth 100000
set_option maxHeartbeats 8000000
namespace Go.Proofs.YtacodmnlnlbahaaGreatDoor
open Go.VM

theorem tz_limb {x R : Nat} (i : Nat) (h0 : 0 < x) (hx : x < 18446744073709551616) : tz (2 ^ (64 * i) * (x + 18446744073709551616 * R)) = 64 * i + tz x := by
  rw [tz_pow (by omega)]
  have := tz_low (k := 64) (r := R) (by omega : x ≠ 0) hx
  rw [show (2 : Nat) ^ 64 = 18446744073709551616 by decide] at this
  rw [this]

theorem tail_spec (t : Tok) (l : List Nat) (c : Nat) (hl : Lim 18446744073709551616 l) (hn : l.length ≤ 4398046511104) : VSpec Tryz.prog F.nat_Tail c [nats t l] (fun r _ => r = iv (tz (val 18446744073709551616 l) : Nat)) := by
  refine spec_mk hm E.nat_Tail B.nat_Tail K.nat_Tail Q.nat_Tail (by rw [N.nat_Tail]; simp) ?_
  unfold C.nat_Tail R.nat_Tail
  (repeat (first | refine v_reg ?_ | refine v_last ?_ | refine vwp_seq ?_ | refine vwp_block ?_ | refine vwp_skip ?_ | refine vwp_exit ?_ | refine vwp_ret ?_ | refine v_cond ?_ | simp only [vm, ite_true, ite_false, eq_self, reduceIte, Nat.reduceEqDiff, Option.map] | refine And.intro (by omega) ?_))
  refine v_loopR (fun S => S.σ = noBlk ∧ c ≤ S.c ∧ val 18446744073709551616 l = 0) ?_ ?_
  · refine vwp_loop (fun k S => ∃ i, k = l.length - i ∧ i ≤ l.length ∧ S.ρ 5 = nats t l ∧ S.ρ 6 = iv l.length ∧ S.ρ 7 = iv i ∧ val 18446744073709551616 l = 2 ^ (64 * i) * val 18446744073709551616 (l.drop i) ∧ S.σ = noBlk ∧ c ≤ S.c) l.length ?_ ?_
    · refine ⟨0, by omega, by omega, ?_⟩
      simp only [vm, ite_true, ite_false, eq_self, reduceIte, Nat.reduceEqDiff, Option.map]
      (repeat' apply And.intro) <;> first | rfl | omega | assumption | simp
    rintro k ⟨ρ, σ, c3⟩ ⟨i, hk, hi, h5, h6, h7, hv, hσ, hc3⟩
    dsimp only at h5 h6 h7 hσ hc3
    subst hσ
    by_cases g : (i : Int) < l.length
    · have hi' : i < l.length := by omega
      have hd := val_drop (b := 18446744073709551616) hi'
      have hx := hl.getD (i := i) (by decide)
      by_cases g2 : l.getD i 0 = 0
      · (repeat (first | refine v_reg ?_ | refine v_last ?_ | refine vwp_seq ?_ | refine vwp_block ?_ | refine vwp_skip ?_ | refine vwp_exit ?_ | refine vwp_ret ?_ | refine v_cond ?_ | simp only [vm, ite_true, ite_false, eq_self, reduceIte, Nat.reduceEqDiff, Option.map, h5, h6, h7, g, g2] | refine And.intro (by omega) ?_))
        refine ⟨l.length - (i + 1), by omega, i + 1, ?_⟩
        have hv2 : val 18446744073709551616 l = 2 ^ (64 * (i + 1)) * val 18446744073709551616 (l.drop (i + 1)) := by
          rw [hv, hd, g2, Nat.zero_add, Nat.mul_add, Nat.pow_add, Nat.mul_assoc]
        (repeat' apply And.intro) <;> first | rfl | omega | assumption
      · (repeat (first | refine v_reg ?_ | refine v_last ?_ | refine vwp_seq ?_ | refine vwp_block ?_ | refine vwp_skip ?_ | refine vwp_exit ?_ | refine vwp_ret ?_ | refine v_cond ?_ | simp only [vm, ite_true, ite_false, eq_self, reduceIte, Nat.reduceEqDiff, Option.map, h5, h6, h7, g, g2] | refine And.intro (by omega) ?_))
        refine s_call (tz64_spec _ c3 (by omega) hx) (by simp only [vm, ite_true, ite_false, eq_self, reduceIte, Nat.reduceEqDiff, Option.map, List.map]) ?_
        rintro v c4 hc4 rfl
        have ht := tz_lt (k := 64) g2 hx
        (repeat (first | refine v_reg ?_ | refine v_last ?_ | refine vwp_seq ?_ | refine vwp_block ?_ | refine vwp_skip ?_ | refine vwp_exit ?_ | refine vwp_ret ?_ | refine v_cond ?_ | simp only [vm, ite_true, ite_false, eq_self, reduceIte, Nat.reduceEqDiff, Option.map] | refine And.intro (by omega) ?_))
        have hv2 : tz (val 18446744073709551616 l) = 64 * i + tz (l.getD i 0) := by rw [hv, hd]; exact tz_limb i (by omega) hx
        rw [hv2]
        (repeat' apply And.intro) <;> first | rfl | omega | assumption | (push_cast; rfl)
    · have : i = l.length := by omega
      subst this
      rw [List.drop_length] at hv
      (repeat (first | refine v_reg ?_ | refine v_last ?_ | refine vwp_seq ?_ | refine vwp_block ?_ | refine vwp_skip ?_ | refine vwp_exit ?_ | refine vwp_ret ?_ | refine v_cond ?_ | simp only [vm, ite_true, ite_false, eq_self, reduceIte, Nat.reduceEqDiff, Option.map, h5, h6, h7, g] | refine And.intro (by omega) ?_))
      (repeat' apply And.intro) <;> first | rfl | omega | assumption | (rw [hv]; rfl)
  rintro ⟨ρ3, σ, c5⟩ ⟨hσ, hc5, hv⟩
  dsimp only at hσ hc5
  subst hσ
  (repeat (first | refine v_reg ?_ | refine v_last ?_ | refine vwp_seq ?_ | refine vwp_block ?_ | refine vwp_skip ?_ | refine vwp_exit ?_ | refine vwp_ret ?_ | refine v_cond ?_ | simp only [vm, ite_true, ite_false, eq_self, reduceIte, Nat.reduceEqDiff, Option.map] | refine And.intro (by omega) ?_))
  rw [hv, tz_zero]
  (repeat' apply And.intro) <;> first | rfl | omega | assumption
end Go.Proofs.YtacodmnlnlbahaaGreatDoor
set_option linter.unusedSimpArgs false
set_option linter.unusedVariables false
set_option maxRecDepth 100000
set_option maxHeartbeats 8000000
namespace Go.Proofs.YtacodmnlnlbahaaGreatDoor
open Go.VM

theorem val_right (x : List Nat) (n : Nat) (hx : Lim 18446744073709551616 x) : val 18446744073709551616 x / 2 ^ n = val 18446744073709551616 (x.drop (n / 64)) / 2 ^ (n % 64) := by
  have e : 2 ^ n = 18446744073709551616 ^ (n / 64) * 2 ^ (n % 64) := by rw [pow64, ← Nat.pow_add, Nat.div_add_mod]
  rw [e, ← Nat.div_div_eq_div_mul]
  congr 1
  rcases Nat.lt_or_ge x.length (n / 64) with g | g
  · rw [List.drop_eq_nil_of_le (Nat.le_of_lt g)]
    exact Nat.div_eq_of_lt (Nat.lt_of_lt_of_le (val_lt hx) (Nat.pow_le_pow_right (by decide) (Nat.le_of_lt g)))
  · have h := val_take_drop 18446744073709551616 (n / 64) x g
    have h2 : val 18446744073709551616 (x.take (n / 64)) < 18446744073709551616 ^ (n / 64) := by
      have := val_lt (hx.take (k := n / 64))
      rwa [List.length_take, Nat.min_eq_left g] at this
    rw [h, Nat.add_mul_div_left _ _ (Nat.pow_pos (by decide)), Nat.div_eq_of_lt h2, Nat.zero_add]

theorem right_spec (t : Tok) (a : List Nat) (n c : Nat) (ha : Lim 18446744073709551616 a) (hna : a.length ≤ 1099511627776) (hn : n ≤ 1099511627776) : VSpec Tryz.prog F.nat_Right c [nats t a, iv (n : Int)] (fun r c' => Told c c' (val 18446744073709551616 a / 2 ^ n) r) := by
  refine spec_mk hm E.nat_Right B.nat_Right K.nat_Right Q.nat_Right (by rw [N.nat_Right]; simp) ?_
  unfold C.nat_Right R.nat_Right
  have hla := digs_len_le two64 ha
  have g1 : ¬ (n : Int) < 0 := by omega
  have g2 : ¬ (1099511627776 : Int) < n := by omega
  have d1 : (n : Int) / 64 = ((n / 64 : Nat) : Int) := by omega
  have d2 : (n : Int) % 64 = ((n % 64 : Nat) : Int) := by omega
  have d3 : ((n % 64 : Nat) : Int).toNat = n % 64 := by omega
  (repeat (first | refine v_reg ?_ | refine v_last ?_ | refine vwp_seq ?_ | refine vwp_block ?_ | refine vwp_skip ?_ | refine vwp_exit ?_ | refine vwp_ret ?_ | refine v_cond ?_ | simp only [vm, ite_true, ite_false, eq_self, reduceIte, Nat.reduceEqDiff, Option.map, g1, g2] | refine And.intro (by omega) ?_))
  refine s_call (trim_spec t a c ha (by omega)) (by simp only [vm, ite_true, ite_false, eq_self, reduceIte, Nat.reduceEqDiff, Option.map, List.map]) ?_
  rintro v c2 hc2 rfl
  have hx := lim_digs two64 (val 18446744073709551616 a)
  have va := val_digs two64 (val 18446744073709551616 a)
  generalize digs 18446744073709551616 (val 18446744073709551616 a) = x at *
  have hvr := val_right x n hx
  rw [va] at hvr
  obtain ⟨q, hq⟩ : ∃ q, q = n / 64 := ⟨_, rfl⟩
  obtain ⟨s, hs⟩ : ∃ s, s = n % 64 := ⟨_, rfl⟩
  rw [← hq, ← hs] at hvr
  rw [← hq] at d1
  rw [← hs] at d2 d3
  by_cases g3 : (x.length : Int) ≤ (q : Int)
  · have hx0 : x.drop q = [] := List.drop_eq_nil_of_le (by omega)
    (repeat (first | refine v_reg ?_ | refine v_last ?_ | refine vwp_seq ?_ | refine vwp_block ?_ | refine vwp_skip ?_ | refine vwp_exit ?_ | refine vwp_ret ?_ | refine v_cond ?_ | simp only [vm, ite_true, ite_false, eq_self, reduceIte, Nat.reduceEqDiff, Option.map, g1, g2, d1, d2, d3, g3] | refine And.intro (by omega) ?_))
    rw [hvr, hx0]
    refine .inl ⟨?_, .nil, ?_, .inl rfl⟩
    · rw [val_nil, Nat.zero_div]; decide
    · rw [val_nil, Nat.zero_div]; rfl
  have hlX : (x.drop q).length = x.length - q := List.length_drop
  have hg : ∀ j, x.getD (q + j) 0 = (x.drop q).getD j 0 := fun j => by
    rw [List.getD_eq_getElem?_getD, List.getD_eq_getElem?_getD, List.getElem?_drop]
  have hX := hx.drop (k := q)
  obtain ⟨m, hm⟩ : ∃ m, m = x.length - q := ⟨_, rfl⟩
  have hm2 : (x.length : Int) - (q : Int) = (m : Int) := by omega
  (repeat (first | refine v_reg ?_ | refine v_last ?_ | refine vwp_seq ?_ | refine vwp_block ?_ | refine vwp_skip ?_ | refine vwp_exit ?_ | refine vwp_ret ?_ | refine v_cond ?_ | simp only [vm, ite_true, ite_false, eq_self, reduceIte, Nat.reduceEqDiff, Option.map, g1, g2, d1, d2, d3, g3, hm2] | refine And.intro (by omega) ?_))
  refine s_mk (n := m) (m := m) (by simp only [vm, ite_true, ite_false, eq_self, reduceIte, Nat.reduceEqDiff, Option.map]) (by simp only [vm, ite_true, ite_false, eq_self, reduceIte, Nat.reduceEqDiff, Option.map]) (Nat.le_refl _) (by omega) ?_
  have hs64 : s < 64 := by omega
  have hp : (18446744073709551616 : Nat) = 2 ^ s * 2 ^ (64 - s) := by rw [← Nat.pow_add, show s + (64 - s) = 64 by omega]
  (repeat (first | refine v_reg ?_ | refine v_last ?_ | refine vwp_seq ?_ | refine vwp_block ?_ | refine vwp_skip ?_ | refine vwp_exit ?_ | refine vwp_ret ?_ | refine v_cond ?_ | simp only [vm, ite_true, ite_false, eq_self, reduceIte, Nat.reduceEqDiff, Option.map] | refine And.intro (by omega) ?_))
  refine v_loop (fun S => ∃ w, w.length = m ∧ Lim 18446744073709551616 w ∧ val 18446744073709551616 w = val 18446744073709551616 (x.drop q) / 2 ^ s ∧ S.ρ 8 = .buf c2 0 m (some m) 1 ∧ S.σ = supd noBlk c2 (nblk w) ∧ c2 + 1 ≤ S.c) ?_ ?_
  · refine vwp_loop (fun k S => ∃ i w, k = m - i ∧ i ≤ m ∧ w.length = i ∧ Lim 18446744073709551616 w ∧ val 18446744073709551616 w * 2 ^ s + (x.drop q).getD 0 0 % 2 ^ s = val 18446744073709551616 ((x.drop q).take i) + 18446744073709551616 ^ i * ((x.drop q).getD i 0 % 2 ^ s) ∧ S.ρ 0 = nats t x ∧ S.ρ 6 = iv q ∧ S.ρ 7 = nv s ∧ S.ρ 33 = iv m ∧ S.ρ 34 = iv i ∧ S.ρ 8 = .buf c2 0 m (some m) 1 ∧ S.σ = supd noBlk c2 (nblk (w ++ List.replicate (m - i) 0)) ∧ c2 + 1 ≤ S.c) m ?_ ?_
    · refine ⟨0, [], by omega, by omega, ?_⟩
      simp only [vm, ite_true, ite_false, eq_self, reduceIte, Nat.reduceEqDiff, Option.map]
      (repeat' apply And.intro) <;> first | rfl | omega | assumption | exact Lim.nil | (rw [d3]) | (simp [val]; done)
    rintro k ⟨ρ2, σ, c4⟩ ⟨i, w, hk, hi, hw, hlw, hinv, h0, h6, h7, h33, h34, h8, hσ, hc4⟩
    dsimp only at h0 h6 h7 h33 h34 h8 hσ hc4
    subst hσ
    by_cases g : (i : Int) < m
    · have hi' : i < m := by omega
      have hxi := hX.getD (i := i) (by decide)
      obtain ⟨o1, o2⟩ := down_limb (y := (x.drop q).getD (i + 1) 0) hs64 hxi
      have e1 : ((q : Int) + (i : Int)).toNat = q + i := by omega
      have e1b : q + i < x.length := by omega
      have e2 : ((q : Int) + (i : Int) + 1).toNat = q + (i + 1) := by omega
      have e3 : min s 64 = s := by omega
      have e4 : (63 + (18446744073709551616 - s % 18446744073709551616)) % 18446744073709551616 = 63 - s := by omega
      have e5 : min (63 - s) 64 = 63 - s := by omega
      have e6 : (x.drop q).getD i 0 / 2 ^ s < 18446744073709551616 := Nat.lt_of_le_of_lt (Nat.div_le_self _ _) hxi
      have e7 : (x.drop q).getD i 0 / 2 ^ s % 18446744073709551616 = (x.drop q).getD i 0 / 2 ^ s := Nat.mod_eq_of_lt e6
      have hlen1 : (w ++ List.replicate (m - i) 0).length = m := by simp; omega
      have hset1 : ∀ v, (w ++ List.replicate (m - i) 0).set i v = w ++ v :: List.replicate (m - (i + 1)) 0 := fun v => by
        conv => lhs; rw [← hw]
        rw [show m - w.length = m - (i + 1) + 1 by omega, List.replicate_succ, set_at]
      have hlen2 : ∀ v, (w ++ v :: List.replicate (m - (i + 1)) 0).length = m := fun v => by simp; omega
      have hget2 : ∀ v, (w ++ v :: List.replicate (m - (i + 1)) 0).getD i 0 = v := fun v => by rw [← hw]; exact getD_at _ _ _
      have hset2 : ∀ v u, (w ++ v :: List.replicate (m - (i + 1)) 0).set i u = w ++ u :: List.replicate (m - (i + 1)) 0 := fun v u => by
        conv => lhs; rw [← hw]
        rw [set_at, hw]
      have key := down_step (y := (x.drop q).getD (i + 1) 0) hw hinv hp rfl
      rw [← val_take (l := x.drop q) (i := i) (by omega)] at key
      have eapp : ∀ v, w ++ v :: List.replicate (m - (i + 1)) 0 = (w ++ [v]) ++ List.replicate (m - (i + 1)) 0 := fun v => by simp
      by_cases g5 : (q : Int) + (i : Int) + 1 < x.length
      · have e2b : q + (i + 1) < x.length := by omega
        (repeat (first | refine v_reg ?_ | refine v_last ?_ | refine vwp_seq ?_ | refine vwp_block ?_ | refine vwp_skip ?_ | refine vwp_exit ?_ | refine vwp_ret ?_ | refine v_cond ?_ | simp only [vm, ite_true, ite_false, eq_self, reduceIte, Nat.reduceEqDiff, Option.map, h0, h6, h7, h33, h34, h8, g, g5, e1, e1b, e2, e2b, hg, e3, e4, e5, e7, hlen1, hset1, hlen2, hget2, hset2, u_or, Nat.mod_mod, o1] | refine And.intro (by omega) ?_))
        refine ⟨m - (i + 1), by omega, i + 1, w ++ [(x.drop q).getD i 0 / 2 ^ s + ((x.drop q).getD (i + 1) 0 % 2 ^ s) * 2 ^ (64 - s)], ?_⟩
        rw [eapp]
        (repeat' apply And.intro) <;> first | rfl | exact key | exact lim_snoc hlw o2 | (simp [hw]; done) | omega | assumption
      · have hy : (x.drop q).getD (i + 1) 0 = 0 := getD_ge (by omega)
        rw [hy, Nat.zero_mod, Nat.zero_mul, Nat.add_zero] at key
        (repeat (first | refine v_reg ?_ | refine v_last ?_ | refine vwp_seq ?_ | refine vwp_block ?_ | refine vwp_skip ?_ | refine vwp_exit ?_ | refine vwp_ret ?_ | refine v_cond ?_ | simp only [vm, ite_true, ite_false, eq_self, reduceIte, Nat.reduceEqDiff, Option.map, h0, h6, h7, h33, h34, h8, g, g5, e1, e1b, e2, hg, e3, e4, e5, e7, hlen1, hset1] | refine And.intro (by omega) ?_))
        refine ⟨m - (i + 1), by omega, i + 1, w ++ [(x.drop q).getD i 0 / 2 ^ s], ?_⟩
        rw [eapp, hy, Nat.zero_mod]
        (repeat' apply And.intro) <;> first | rfl | exact key | exact lim_snoc hlw e6 | (simp [hw]; done) | omega | assumption
    · have hi' : i = m := by omega
      have e8 : (x.drop q).length = m := by rw [hlX, hm]
      subst hi'
      (repeat (first | refine v_reg ?_ | refine v_last ?_ | refine vwp_seq ?_ | refine vwp_block ?_ | refine vwp_skip ?_ | refine vwp_exit ?_ | refine vwp_ret ?_ | refine v_cond ?_ | simp only [vm, ite_true, ite_false, eq_self, reduceIte, Nat.reduceEqDiff, Option.map, h0, h6, h7, h33, h34, h8, g] | refine And.intro (by omega) ?_))
      have e9 : (x.drop q).take i = x.drop q := List.take_of_length_le (Nat.le_of_eq e8)
      rw [e9, getD_ge (l := x.drop q) (Nat.le_of_eq e8), Nat.zero_mod, Nat.mul_zero, Nat.add_zero] at hinv
      refine ⟨w, ?_⟩
      have e0 : w ++ List.replicate (i - i) 0 = w := by simp
      rw [e0]
      have hv : val 18446744073709551616 w = val 18446744073709551616 (x.drop q) / 2 ^ s := (div_mod_of hinv (Nat.mod_lt _ (Nat.two_pow_pos s))).1.symm
      (repeat' apply And.intro) <;> first | rfl | omega | assumption | exact hv
  rintro ⟨ρ3, σ, c5⟩ ⟨w, hw, hlw, hvw, h8, hσ, hc5⟩
  dsimp only at h8 hσ hc5
  subst hσ
  refine v_freeze 8 (t := c2) (off := 0) (n := m) (cap := some m) (l := w) (by simp only [vm, ite_true, ite_false, eq_self, reduceIte, Nat.reduceEqDiff, Option.map, h8]) (by simp only [vm, ite_true, ite_false, eq_self, reduceIte, Nat.reduceEqDiff, Option.map]) (by omega) (by omega) ?_
  rw [List.drop_zero, show w.take m = w from List.take_of_length_le (by omega)]
  (repeat (first | refine v_reg ?_ | refine v_last ?_ | refine vwp_seq ?_ | refine vwp_block ?_ | refine vwp_skip ?_ | refine vwp_exit ?_ | refine vwp_ret ?_ | refine v_cond ?_ | simp only [vm, ite_true, ite_false, eq_self, reduceIte, Nat.reduceEqDiff, Option.map] | refine And.intro (by omega) ?_))
  refine s_call (told_spec (.id c2) w c5 hlw (by omega)) (by simp only [vm, ite_true, ite_false, eq_self, reduceIte, Nat.reduceEqDiff, Option.map, List.map]) ?_
  rintro v c6 hc6 rfl
  rw [hvw, ← hvr]
  by_cases gb : bl (val 18446744073709551616 a / 2 ^ n) ≤ 67108864
  · rw [if_pos gb]
    (repeat (first | refine v_reg ?_ | refine v_last ?_ | refine vwp_seq ?_ | refine vwp_block ?_ | refine vwp_skip ?_ | refine vwp_exit ?_ | refine vwp_ret ?_ | refine v_cond ?_ | simp only [vm, ite_true, ite_false, eq_self, reduceIte, Nat.reduceEqDiff, Option.map] | refine And.intro (by omega) ?_))
    exact .inl ⟨gb, .id c2, rfl, .inr ⟨c2, rfl, by omega, by omega⟩⟩
  · rw [if_neg gb]
    (repeat (first | refine v_reg ?_ | refine v_last ?_ | refine vwp_seq ?_ | refine vwp_block ?_ | refine vwp_skip ?_ | refine vwp_exit ?_ | refine vwp_ret ?_ | refine v_cond ?_ | simp only [vm, ite_true, ite_false, eq_self, reduceIte, Nat.reduceEqDiff, Option.map] | refine And.intro (by omega) ?_))
    exact .inr ⟨by omega, rfl⟩
end Go.Proofs.YtacodmnlnlbahaaGreatDoor
set_option linter.unusedVariables false
namespace Go.Proofs.YtacodmnlnlbahaaGreatDoor
open Go.VM

structure Dy where
  neg : Bool
  m : Nat
  e : Int
def dy0 : Dy := ⟨false, 0, 0⟩
def dyOf (neg : Bool) (n : Nat) (e : Int) : Dy := if n = 0 then dy0 else ⟨neg, od n, e + (tz n : Int)⟩
structure Dy.Ok (d : Dy) : Prop where
  odd : d.m = 0 ∨ d.m % 2 = 1
  zero : d.m = 0 → d = dy0
theorem dyOf_ok (neg : Bool) (n : Nat) (e : Int) : (dyOf neg n e).Ok := by
  unfold dyOf
  split
  · exact ⟨.inl rfl, fun _ => rfl⟩
  · rename_i h
    exact ⟨.inr (tz_od h).2, fun h2 => absurd h2 (Nat.ne_of_gt (od_pos h))⟩
theorem dyOf_self {d : Dy} (h : d.Ok) (k : Int) : dyOf d.neg d.m (d.e + k) = if d.m = 0 then dy0 else ⟨d.neg, d.m, d.e + k⟩ := by
  unfold dyOf
  by_cases g : d.m = 0
  · rw [if_pos g, if_pos g]
  · rw [if_neg g, if_neg g]
    have h1 := h.odd.resolve_left g
    obtain ⟨h2, h3⟩ := tz_uniq (n := d.m) (k := 0) (m := d.m) (by simp) h1
    rw [h2, h3]
    simp
theorem od_le (n : Nat) : od n ≤ n := Nat.div_le_self _ _
theorem dyOf_le (neg : Bool) (n : Nat) (e : Int) : (dyOf neg n e).m ≤ n := by
  unfold dyOf
  split
  · exact Nat.zero_le _
  · exact od_le n
theorem tz_le_bl (n : Nat) : tz n ≤ bl n := by
  by_cases h : n = 0
  · rw [h, tz_zero]; exact Nat.zero_le _
  · exact Nat.le_of_lt (tz_lt h (lt_bl n))
def Dy.sg (d : Dy) : Int := if d.m = 0 then 0 else if d.neg = true then -1 else 1
def Dy.top (d : Dy) : Int := d.e + (bl d.m : Int) - 1
def cmpD (x y : Dy) : Int :=
  if x.sg < y.sg then -1 else if y.sg < x.sg then 1 else if x.sg = 0 then 0 else
  if x.top < y.top then - x.sg else if y.top < x.top then x.sg else
  x.sg * cmpI (x.m * 2 ^ (x.e - y.e).toNat) (y.m * 2 ^ (y.e - x.e).toNat)
theorem sg_cases (d : Dy) : (d.m = 0 ∧ d.sg = 0) ∨ (d.m ≠ 0 ∧ d.neg = true ∧ d.sg = -1) ∨ (d.m ≠ 0 ∧ d.neg = false ∧ d.sg = 1) := by
  unfold Dy.sg
  by_cases g : d.m = 0
  · exact .inl ⟨g, if_pos g⟩
  · rw [if_neg g]
    cases h : d.neg
    · exact .inr (.inr ⟨g, rfl, by simp⟩)
    · exact .inr (.inl ⟨g, rfl, by simp⟩)
theorem bl_shl {x k : Nat} (h : x ≠ 0) : bl (x * 2 ^ k) = bl x + k := by
  have h1 : 2 ^ (bl x - 1) ≤ x := by
    rcases Nat.lt_or_ge x (2 ^ (bl x - 1)) with g | g
    · have := bl_le g
      have := bl_pos (Nat.pos_of_ne_zero h)
      omega
    · exact g
  have h2 := lt_bl x
  have hp : 0 < 2 ^ k := Nat.two_pow_pos k
  have h3 := bl_pos (Nat.pos_of_ne_zero h)
  have e := bl_eq (n := x * 2 ^ k) (k := bl x + k - 1) (by
    rw [show bl x + k - 1 = (bl x - 1) + k by omega, Nat.pow_add]
    exact Nat.mul_le_mul_right _ h1) (by
    rw [show bl x + k - 1 + 1 = bl x + k by omega, Nat.pow_add]
    exact (Nat.mul_lt_mul_right hp).2 h2)
  omega
end Go.Proofs.YtacodmnlnlbahaaGreatDoor
set_option linter.unusedVariables false
namespace Go.Proofs.YtacodmnlnlbahaaGreatDoor
open Go.VM

theorem mag_lt {m n a b : Nat} (hn : n ≠ 0) (h : a + bl m < b + bl n) : m * 2 ^ a < n * 2 ^ b := by
  have h1 : m * 2 ^ a < 2 ^ bl m * 2 ^ a := (Nat.mul_lt_mul_right (Nat.two_pow_pos a)).2 (lt_bl m)
  have h2 : 2 ^ (bl n - 1) * 2 ^ b ≤ n * 2 ^ b := Nat.mul_le_mul_right _ (le_of_bl (Nat.pos_of_ne_zero hn))
  have h3 : 2 ^ bl m * 2 ^ a ≤ 2 ^ (bl n - 1) * 2 ^ b := by
    rw [← Nat.pow_add, ← Nat.pow_add]
    exact Nat.pow_le_pow_right (by decide) (by omega)
  omega
theorem mag_cut {m n a b : Nat} : m * 2 ^ a < n * 2 ^ b ↔ m * 2 ^ (a - b) < n * 2 ^ (b - a) := by
  rcases Nat.le_total a b with h | h
  · obtain ⟨k, rfl⟩ := Nat.exists_eq_add_of_le h
    rw [Nat.sub_eq_zero_of_le h, Nat.add_sub_cancel_left, Nat.pow_add, Nat.pow_zero, Nat.mul_one, Nat.mul_comm (2 ^ a), ← Nat.mul_assoc]
    exact Nat.mul_lt_mul_right (Nat.two_pow_pos a)
  · obtain ⟨k, rfl⟩ := Nat.exists_eq_add_of_le h
    rw [Nat.sub_eq_zero_of_le h, Nat.add_sub_cancel_left, Nat.pow_add, Nat.pow_zero, Nat.mul_one, Nat.mul_comm (2 ^ b), ← Nat.mul_assoc]
    exact Nat.mul_lt_mul_right (Nat.two_pow_pos b)
theorem cmpI_cases (a b : Nat) : (a < b ∧ cmpI a b = -1) ∨ (a = b ∧ cmpI a b = 0) ∨ (b < a ∧ cmpI a b = 1) := by
  unfold cmpI
  rcases Nat.lt_trichotomy a b with h | h | h
  · exact .inl ⟨h, if_pos h⟩
  · exact .inr (.inl ⟨h, by rw [if_neg (by omega), if_pos h]⟩)
  · exact .inr (.inr ⟨h, by rw [if_neg (by omega), if_neg (by omega)]⟩)
theorem mag_cmp (m n a b : Nat) : cmpI (m * 2 ^ (a - b)) (n * 2 ^ (b - a)) = cmpI (m * 2 ^ a) (n * 2 ^ b) := by
  have h1 := mag_cut (m := m) (n := n) (a := a) (b := b)
  have h2 := mag_cut (m := n) (n := m) (a := b) (b := a)
  rcases cmpI_cases (m * 2 ^ (a - b)) (n * 2 ^ (b - a)) with ⟨h, e⟩ | ⟨h, e⟩ | ⟨h, e⟩ <;> rw [e] <;>
    rcases cmpI_cases (m * 2 ^ a) (n * 2 ^ b) with ⟨h', e'⟩ | ⟨h', e'⟩ | ⟨h', e'⟩ <;> rw [e'] <;> first | rfl | (exfalso; omega)
def cmpM (x y : Dy) : Int := if x.top < y.top then -1 else if y.top < x.top then 1 else cmpI (x.m * 2 ^ (x.e - y.e).toNat) (y.m * 2 ^ (y.e - x.e).toNat)
theorem cmpM_eq {x y : Dy} {E : Int} (hx : x.m ≠ 0) (hy : y.m ≠ 0) (ex : E ≤ x.e) (ey : E ≤ y.e) : cmpM x y = cmpI (x.m * 2 ^ (x.e - E).toNat) (y.m * 2 ^ (y.e - E).toNat) := by
  unfold cmpM Dy.top
  have bx := bl_pos (Nat.pos_of_ne_zero hx)
  have by' := bl_pos (Nat.pos_of_ne_zero hy)
  split
  · rename_i h
    have := mag_lt (m := x.m) (a := (x.e - E).toNat) (b := (y.e - E).toNat) hy (by omega)
    unfold cmpI
    rw [if_pos this]
  · split
    · rename_i h
      have := mag_lt (m := y.m) (a := (y.e - E).toNat) (b := (x.e - E).toNat) hx (by omega)
      unfold cmpI
      rw [if_neg (by omega), if_neg (by omega)]
    · have e1 : (x.e - y.e).toNat = (x.e - E).toNat - (y.e - E).toNat := by omega
      have e2 : (y.e - x.e).toNat = (y.e - E).toNat - (x.e - E).toNat := by omega
      rw [e1, e2, mag_cmp]
theorem cmpD_eq (x y : Dy) : cmpD x y = if x.sg < y.sg then -1 else if y.sg < x.sg then 1 else if x.sg = 0 then 0 else x.sg * cmpM x y := by
  unfold cmpD cmpM
  repeat' split
  all_goals first | rfl | omega
def zv (E : Int) (d : Dy) : Int := d.sg * ((d.m * 2 ^ (d.e - E).toNat : Nat) : Int)
def sgn (z : Int) : Int := if z < 0 then -1 else if z = 0 then 0 else 1
theorem sgn_cases (z : Int) : (z < 0 ∧ sgn z = -1) ∨ (z = 0 ∧ sgn z = 0) ∨ (0 < z ∧ sgn z = 1) := by
  unfold sgn
  rcases Int.lt_trichotomy z 0 with h | h | h
  · exact .inl ⟨h, if_pos h⟩
  · exact .inr (.inl ⟨h, by rw [if_neg (by omega), if_pos h]⟩)
  · exact .inr (.inr ⟨h, by rw [if_neg (by omega), if_neg (by omega)]⟩)
theorem cmpD_zv {x y : Dy} {E : Int} (ex : E ≤ x.e) (ey : E ≤ y.e) : cmpD x y = sgn (zv E x - zv E y) := by
  have px : x.m ≠ 0 → 0 < x.m * 2 ^ (x.e - E).toNat := fun h => Nat.mul_pos (Nat.pos_of_ne_zero h) (Nat.two_pow_pos _)
  have py : y.m ≠ 0 → 0 < y.m * 2 ^ (y.e - E).toNat := fun h => Nat.mul_pos (Nat.pos_of_ne_zero h) (Nat.two_pow_pos _)
  rw [cmpD_eq]
  unfold zv
  have hm : x.m ≠ 0 → y.m ≠ 0 → _ := fun h1 h2 => cmpM_eq h1 h2 ex ey
  generalize hX : x.m * 2 ^ (x.e - E).toNat = X at *
  generalize hY : y.m * 2 ^ (y.e - E).toNat = Y at *
  rcases sg_cases x with ⟨h1, h2⟩ | ⟨h1, _, h2⟩ | ⟨h1, _, h2⟩ <;> rcases sg_cases y with ⟨g1, g2⟩ | ⟨g1, _, g2⟩ | ⟨g1, _, g2⟩ <;> rw [h2, g2]
  · simp [sgn]
  · have := py g1
    rcases sgn_cases (0 * (X : Int) - -1 * (Y : Int)) with ⟨a, b⟩ | ⟨a, b⟩ | ⟨a, b⟩ <;> rw [b] <;> first | rfl | (exfalso; omega)
  · have := py g1
    rcases sgn_cases (0 * (X : Int) - 1 * (Y : Int)) with ⟨a, b⟩ | ⟨a, b⟩ | ⟨a, b⟩ <;> rw [b] <;> first | rfl | (exfalso; omega)
  · have := px h1
    rcases sgn_cases (-1 * (X : Int) - 0 * (Y : Int)) with ⟨a, b⟩ | ⟨a, b⟩ | ⟨a, b⟩ <;> rw [b] <;> first | rfl | (exfalso; omega)
  · rw [hm h1 g1]
    rcases cmpI_cases X Y with ⟨p, q⟩ | ⟨p, q⟩ | ⟨p, q⟩ <;> rw [q] <;>
      rcases sgn_cases (-1 * (X : Int) - -1 * (Y : Int)) with ⟨a, b⟩ | ⟨a, b⟩ | ⟨a, b⟩ <;> rw [b] <;> first | rfl | (exfalso; omega)
  · have := px h1
    have := py g1
    rcases sgn_cases (-1 * (X : Int) - 1 * (Y : Int)) with ⟨a, b⟩ | ⟨a, b⟩ | ⟨a, b⟩ <;> rw [b] <;> first | rfl | (exfalso; omega)
  · have := px h1
    rcases sgn_cases (1 * (X : Int) - 0 * (Y : Int)) with ⟨a, b⟩ | ⟨a, b⟩ | ⟨a, b⟩ <;> rw [b] <;> first | rfl | (exfalso; omega)
  · have := px h1
    have := py g1
    rcases sgn_cases (1 * (X : Int) - -1 * (Y : Int)) with ⟨a, b⟩ | ⟨a, b⟩ | ⟨a, b⟩ <;> rw [b] <;> first | rfl | (exfalso; omega)
  · rw [hm h1 g1]
    rcases cmpI_cases X Y with ⟨p, q⟩ | ⟨p, q⟩ | ⟨p, q⟩ <;> rw [q] <;>
      rcases sgn_cases (1 * (X : Int) - 1 * (Y : Int)) with ⟨a, b⟩ | ⟨a, b⟩ | ⟨a, b⟩ <;> rw [b] <;> first | rfl | (exfalso; omega)
theorem cmpD_flip (x y : Dy) : cmpD y x = - cmpD x y := by
  obtain ⟨E, h1, h2⟩ : ∃ E : Int, E ≤ x.e ∧ E ≤ y.e := ⟨min x.e y.e, by omega, by omega⟩
  rw [cmpD_zv h1 h2, cmpD_zv h2 h1]
  rcases sgn_cases (zv E x - zv E y) with ⟨a, b⟩ | ⟨a, b⟩ | ⟨a, b⟩ <;> rw [b] <;>
    rcases sgn_cases (zv E y - zv E x) with ⟨p, q⟩ | ⟨p, q⟩ | ⟨p, q⟩ <;> rw [q] <;> first | rfl | (exfalso; omega)
theorem cmpD_self (x : Dy) : cmpD x x = 0 := by have := cmpD_flip x x; omega
def leD (x y : Dy) : Prop := cmpD x y ≤ 0
end Go.Proofs.YtacodmnlnlbahaaGreatDoor
set_option linter.unusedVariables false
set_option linter.unusedSimpArgs false
namespace Go.Proofs.YtacodmnlnlbahaaGreatDoor
open Go.VM

theorem dyOf_id {d : Dy} (h : d.Ok) : dyOf d.neg d.m d.e = d := by
  have := dyOf_self h 0
  rw [Int.add_zero] at this
  rw [this]
  split
  · rename_i g; exact (h.zero g).symm
  · rfl
theorem sg_sign {d : Dy} (h : d.m ≠ 0) : d.sg = if d.neg = true then -1 else 1 := by unfold Dy.sg; rw [if_neg h]
def fitE (e : Int) : Prop := -1099511627776 ≤ e ∧ e ≤ 1099511627776
instance (e : Int) : Decidable (fitE e) := by unfold fitE; infer_instance
def tE (d : Dy) : Int := if 67108864 < bl d.m then 3 else if fitE d.e then 0 else 80
def worstE (e f : Int) : Int := if e = 3 ∨ f = 3 then 3 else if e ≠ 0 then e else f
theorem tE_cases (d : Dy) : (67108864 < bl d.m ∧ tE d = 3) ∨ (bl d.m ≤ 67108864 ∧ fitE d.e ∧ tE d = 0) ∨ (bl d.m ≤ 67108864 ∧ ¬ fitE d.e ∧ tE d = 80) := by
  unfold tE
  by_cases h : 67108864 < bl d.m
  · exact .inl ⟨h, if_pos h⟩
  · rw [if_neg h]
    by_cases g : fitE d.e
    · exact .inr (.inl ⟨by omega, g, if_pos g⟩)
    · exact .inr (.inr ⟨by omega, g, if_neg g⟩)
end Go.Proofs.YtacodmnlnlbahaaGreatDoor
set_option linter.unusedSimpArgs false
set_option linter.unusedVariables false
set_option maxRecDepth 100000
set_option maxHeartbeats 8000000
namespace Go.Proofs.YtacodmnlnlbahaaGreatDoor
open Go.VM

abbrev whV (neg : Bool) (t : Tok) (l : List Nat) : V := .agg [bv neg, nats t l]
abbrev raV (neg : Bool) (t : Tok) (l : List Nat) (e : Int) : V := .agg [bv neg, nats t l, iv e]
abbrev dyV (t : Tok) (d : Dy) : V := raV d.neg t (digs 18446744073709551616 d.m) d.e
def sgW (neg : Bool) (n : Nat) : Int := if n = 0 then 0 else if neg = true then -1 else 1
theorem sgW_dy (d : Dy) : sgW d.neg d.m = d.sg := rfl

theorem within_spec (e : Int) (c : Nat) : VSpec Tryz.prog F.dyadic_within c [iv e] (fun r _ => r = bv (decide (fitE e))) := by
  refine spec_mk hm E.dyadic_within B.dyadic_within K.dyadic_within Q.dyadic_within (by rw [N.dyadic_within]; simp) ?_
  unfold C.dyadic_within R.dyadic_within
  by_cases g1 : -1099511627776 ≤ e
  · by_cases g2 : e ≤ 1099511627776
    · have g : fitE e := ⟨g1, g2⟩
      (repeat (first | refine v_reg ?_ | refine v_last ?_ | refine vwp_seq ?_ | refine vwp_block ?_ | refine vwp_skip ?_ | refine vwp_exit ?_ | refine vwp_ret ?_ | refine v_cond ?_ | simp only [vm, ite_true, ite_false, eq_self, reduceIte, Nat.reduceEqDiff, Option.map, g1, g2, g] | refine And.intro (by omega) ?_))
      omega
    · have g : ¬ fitE e := fun h => g2 h.2
      (repeat (first | refine v_reg ?_ | refine v_last ?_ | refine vwp_seq ?_ | refine vwp_block ?_ | refine vwp_skip ?_ | refine vwp_exit ?_ | refine vwp_ret ?_ | refine v_cond ?_ | simp only [vm, ite_true, ite_false, eq_self, reduceIte, Nat.reduceEqDiff, Option.map, g1, g2, g] | refine And.intro (by omega) ?_))
      omega
  · have g : ¬ fitE e := fun h => g1 h.1
    (repeat (first | refine v_reg ?_ | refine v_last ?_ | refine vwp_seq ?_ | refine vwp_block ?_ | refine vwp_skip ?_ | refine vwp_exit ?_ | refine vwp_ret ?_ | refine v_cond ?_ | simp only [vm, ite_true, ite_false, eq_self, reduceIte, Nat.reduceEqDiff, Option.map, g1, g] | refine And.intro (by omega) ?_))
    omega

theorem sign_spec (neg : Bool) (t : Tok) (l : List Nat) (c : Nat) (hl : Lim 18446744073709551616 l) (hn : l.length ≤ 4398046511104) : VSpec Tryz.prog F.whole_Sign c [whV neg t l] (fun r _ => r = iv (sgW neg (val 18446744073709551616 l))) := by
  refine spec_mk hm E.whole_Sign B.whole_Sign K.whole_Sign Q.whole_Sign (by rw [N.whole_Sign]; simp) ?_
  unfold C.whole_Sign R.whole_Sign
  (repeat (first | refine v_reg ?_ | refine v_last ?_ | refine vwp_seq ?_ | refine vwp_block ?_ | refine vwp_skip ?_ | refine vwp_exit ?_ | refine vwp_ret ?_ | refine v_cond ?_ | simp (disch := omega) only [vm, ite_true, ite_false, eq_self, reduceIte, Nat.reduceEqDiff, Option.map, vst, List.length_cons, List.length_nil, List.set_cons_zero, List.set_cons_succ, List.map_cons, List.map_nil, Option.map_some, Option.bind_some, Nat.reduceAdd, Nat.reduceLT, Nat.reduceLeDiff, Nat.add_zero, and_self, k_ne, Nat.add_left_cancel_iff, ne_eq, Int.reduceEq, Int.reduceLT, Int.reduceLE, List.cons_append, List.nil_append, Nat.reduceDiv, Nat.reduceMul, Int.reduceToNat, Int.reduceAdd, Int.cast_ofNat_Int] | refine And.intro (by omega) ?_))
  refine s_call (length_spec t l (c + 1) hl hn) (by simp (disch := omega) only [vm, ite_true, ite_false, eq_self, reduceIte, Nat.reduceEqDiff, Option.map, vst, List.length_cons, List.length_nil, List.set_cons_zero, List.set_cons_succ, List.map_cons, List.map_nil, Option.map_some, Option.bind_some, Nat.reduceAdd, Nat.reduceLT, Nat.reduceLeDiff, Nat.add_zero, and_self, k_ne, Nat.add_left_cancel_iff, ne_eq, Int.reduceEq, Int.reduceLT, Int.reduceLE, List.cons_append, List.nil_append, Nat.reduceDiv, Nat.reduceMul, Int.reduceToNat, Int.reduceAdd, Int.cast_ofNat_Int]) ?_
  rintro v c1 hc1 rfl
  by_cases g : val 18446744073709551616 l = 0
  · have e : (bl (val 18446744073709551616 l) : Int) = 0 := by rw [g]; rfl
    (repeat (first | refine v_reg ?_ | refine v_last ?_ | refine vwp_seq ?_ | refine vwp_block ?_ | refine vwp_skip ?_ | refine vwp_exit ?_ | refine vwp_ret ?_ | refine v_cond ?_ | simp (disch := omega) only [vm, ite_true, ite_false, eq_self, reduceIte, Nat.reduceEqDiff, Option.map, vst, List.length_cons, List.length_nil, List.set_cons_zero, List.set_cons_succ, List.map_cons, List.map_nil, Option.map_some, Option.bind_some, Nat.reduceAdd, Nat.reduceLT, Nat.reduceLeDiff, Nat.add_zero, and_self, k_ne, Nat.add_left_cancel_iff, ne_eq, Int.reduceEq, Int.reduceLT, Int.reduceLE, List.cons_append, List.nil_append, Nat.reduceDiv, Nat.reduceMul, Int.reduceToNat, Int.reduceAdd, Int.cast_ofNat_Int, e] | refine And.intro (by omega) ?_))
    unfold sgW; rw [if_pos g]
  · have e : ¬ (bl (val 18446744073709551616 l) : Int) = 0 := by have := bl_pos (Nat.pos_of_ne_zero g); omega
    cases neg
    · (repeat (first | refine v_reg ?_ | refine v_last ?_ | refine vwp_seq ?_ | refine vwp_block ?_ | refine vwp_skip ?_ | refine vwp_exit ?_ | refine vwp_ret ?_ | refine v_cond ?_ | simp (disch := omega) only [vm, ite_true, ite_false, eq_self, reduceIte, Nat.reduceEqDiff, Option.map, vst, List.length_cons, List.length_nil, List.set_cons_zero, List.set_cons_succ, List.map_cons, List.map_nil, Option.map_some, Option.bind_some, Nat.reduceAdd, Nat.reduceLT, Nat.reduceLeDiff, Nat.add_zero, and_self, k_ne, Nat.add_left_cancel_iff, ne_eq, Int.reduceEq, Int.reduceLT, Int.reduceLE, List.cons_append, List.nil_append, Nat.reduceDiv, Nat.reduceMul, Int.reduceToNat, Int.reduceAdd, Int.cast_ofNat_Int, e] | refine And.intro (by omega) ?_))
      unfold sgW; rw [if_neg g]; rfl
    · (repeat (first | refine v_reg ?_ | refine v_last ?_ | refine vwp_seq ?_ | refine vwp_block ?_ | refine vwp_skip ?_ | refine vwp_exit ?_ | refine vwp_ret ?_ | refine v_cond ?_ | simp (disch := omega) only [vm, ite_true, ite_false, eq_self, reduceIte, Nat.reduceEqDiff, Option.map, vst, List.length_cons, List.length_nil, List.set_cons_zero, List.set_cons_succ, List.map_cons, List.map_nil, Option.map_some, Option.bind_some, Nat.reduceAdd, Nat.reduceLT, Nat.reduceLeDiff, Nat.add_zero, and_self, k_ne, Nat.add_left_cancel_iff, ne_eq, Int.reduceEq, Int.reduceLT, Int.reduceLE, List.cons_append, List.nil_append, Nat.reduceDiv, Nat.reduceMul, Int.reduceToNat, Int.reduceAdd, Int.cast_ofNat_Int, e] | refine And.intro (by omega) ?_))
      unfold sgW; rw [if_neg g]; rfl

theorem psign_spec (neg : Bool) (t : Tok) (l : List Nat) (c : Nat) (hl : Lim 18446744073709551616 l) (hn : l.length ≤ 4398046511104) : VSpec Tryz.prog F.dyadic_part_sign c [whV neg t l] (fun r _ => r = iv (sgW neg (val 18446744073709551616 l))) := by
  refine spec_mk hm E.dyadic_part_sign B.dyadic_part_sign K.dyadic_part_sign Q.dyadic_part_sign (by rw [N.dyadic_part_sign]; simp) ?_
  unfold C.dyadic_part_sign R.dyadic_part_sign
  (repeat (first | refine v_reg ?_ | refine v_last ?_ | refine vwp_seq ?_ | refine vwp_block ?_ | refine vwp_skip ?_ | refine vwp_exit ?_ | refine vwp_ret ?_ | refine v_cond ?_ | simp (disch := omega) only [vm, ite_true, ite_false, eq_self, reduceIte, Nat.reduceEqDiff, Option.map, vst, List.length_cons, List.length_nil, List.set_cons_zero, List.set_cons_succ, List.map_cons, List.map_nil, Option.map_some, Option.bind_some, Nat.reduceAdd, Nat.reduceLT, Nat.reduceLeDiff, Nat.add_zero, and_self, k_ne, Nat.add_left_cancel_iff, ne_eq, Int.reduceEq, Int.reduceLT, Int.reduceLE, List.cons_append, List.nil_append, Nat.reduceDiv, Nat.reduceMul, Int.reduceToNat, Int.reduceAdd, Int.cast_ofNat_Int] | refine And.intro (by omega) ?_))
  refine s_call (sign_spec neg t l (c + 1) hl hn) (by simp (disch := omega) only [vm, ite_true, ite_false, eq_self, reduceIte, Nat.reduceEqDiff, Option.map, vst, List.length_cons, List.length_nil, List.set_cons_zero, List.set_cons_succ, List.map_cons, List.map_nil, Option.map_some, Option.bind_some, Nat.reduceAdd, Nat.reduceLT, Nat.reduceLeDiff, Nat.add_zero, and_self, k_ne, Nat.add_left_cancel_iff, ne_eq, Int.reduceEq, Int.reduceLT, Int.reduceLE, List.cons_append, List.nil_append, Nat.reduceDiv, Nat.reduceMul, Int.reduceToNat, Int.reduceAdd, Int.cast_ofNat_Int]) ?_
  rintro v c1 hc1 rfl
  (repeat (first | refine v_reg ?_ | refine v_last ?_ | refine vwp_seq ?_ | refine vwp_block ?_ | refine vwp_skip ?_ | refine vwp_exit ?_ | refine vwp_ret ?_ | refine v_cond ?_ | simp (disch := omega) only [vm, ite_true, ite_false, eq_self, reduceIte, Nat.reduceEqDiff, Option.map, vst, List.length_cons, List.length_nil, List.set_cons_zero, List.set_cons_succ, List.map_cons, List.map_nil, Option.map_some, Option.bind_some, Nat.reduceAdd, Nat.reduceLT, Nat.reduceLeDiff, Nat.add_zero, and_self, k_ne, Nat.add_left_cancel_iff, ne_eq, Int.reduceEq, Int.reduceLT, Int.reduceLE, List.cons_append, List.nil_append, Nat.reduceDiv, Nat.reduceMul, Int.reduceToNat, Int.reduceAdd, Int.cast_ofNat_Int] | refine And.intro (by omega) ?_))
  (first | omega | rfl | ((repeat' apply And.intro) <;> first | rfl | omega | assumption))
theorem plen_spec (neg : Bool) (t : Tok) (l : List Nat) (c : Nat) (hl : Lim 18446744073709551616 l) (hn : l.length ≤ 4398046511104) : VSpec Tryz.prog F.dyadic_part_length c [whV neg t l] (fun r _ => r = iv (bl (val 18446744073709551616 l))) := by
  refine spec_mk hm E.dyadic_part_length B.dyadic_part_length K.dyadic_part_length Q.dyadic_part_length (by rw [N.dyadic_part_length]; simp) ?_
  unfold C.dyadic_part_length R.dyadic_part_length
  (repeat (first | refine v_reg ?_ | refine v_last ?_ | refine vwp_seq ?_ | refine vwp_block ?_ | refine vwp_skip ?_ | refine vwp_exit ?_ | refine vwp_ret ?_ | refine v_cond ?_ | simp (disch := omega) only [vm, ite_true, ite_false, eq_self, reduceIte, Nat.reduceEqDiff, Option.map, vst, List.length_cons, List.length_nil, List.set_cons_zero, List.set_cons_succ, List.map_cons, List.map_nil, Option.map_some, Option.bind_some, Nat.reduceAdd, Nat.reduceLT, Nat.reduceLeDiff, Nat.add_zero, and_self, k_ne, Nat.add_left_cancel_iff, ne_eq, Int.reduceEq, Int.reduceLT, Int.reduceLE, List.cons_append, List.nil_append, Nat.reduceDiv, Nat.reduceMul, Int.reduceToNat, Int.reduceAdd, Int.cast_ofNat_Int] | refine And.intro (by omega) ?_))
  refine s_call (length_spec t l (c + 1) hl hn) (by simp (disch := omega) only [vm, ite_true, ite_false, eq_self, reduceIte, Nat.reduceEqDiff, Option.map, vst, List.length_cons, List.length_nil, List.set_cons_zero, List.set_cons_succ, List.map_cons, List.map_nil, Option.map_some, Option.bind_some, Nat.reduceAdd, Nat.reduceLT, Nat.reduceLeDiff, Nat.add_zero, and_self, k_ne, Nat.add_left_cancel_iff, ne_eq, Int.reduceEq, Int.reduceLT, Int.reduceLE, List.cons_append, List.nil_append, Nat.reduceDiv, Nat.reduceMul, Int.reduceToNat, Int.reduceAdd, Int.cast_ofNat_Int]) ?_
  rintro v c1 hc1 rfl
  (repeat (first | refine v_reg ?_ | refine v_last ?_ | refine vwp_seq ?_ | refine vwp_block ?_ | refine vwp_skip ?_ | refine vwp_exit ?_ | refine vwp_ret ?_ | refine v_cond ?_ | simp (disch := omega) only [vm, ite_true, ite_false, eq_self, reduceIte, Nat.reduceEqDiff, Option.map, vst, List.length_cons, List.length_nil, List.set_cons_zero, List.set_cons_succ, List.map_cons, List.map_nil, Option.map_some, Option.bind_some, Nat.reduceAdd, Nat.reduceLT, Nat.reduceLeDiff, Nat.add_zero, and_self, k_ne, Nat.add_left_cancel_iff, ne_eq, Int.reduceEq, Int.reduceLT, Int.reduceLE, List.cons_append, List.nil_append, Nat.reduceDiv, Nat.reduceMul, Int.reduceToNat, Int.reduceAdd, Int.cast_ofNat_Int] | refine And.intro (by omega) ?_))
  (first | omega | rfl | ((repeat' apply And.intro) <;> first | rfl | omega | assumption))

theorem shifted_spec (t : Tok) (l : List Nat) (k c : Nat) (hl : Lim 18446744073709551616 l) (hn : l.length ≤ 17179869184) (hk : k ≤ 1099511627776) (hb : bl (val 18446744073709551616 l / 2 ^ k) ≤ 67108864) : VSpec Tryz.prog F.dyadic_shifted c [nats t l, iv (k : Int)] (fun r c' => NatR c c' (val 18446744073709551616 l / 2 ^ k) r) := by
  refine spec_mk hm E.dyadic_shifted B.dyadic_shifted K.dyadic_shifted Q.dyadic_shifted (by rw [N.dyadic_shifted]; simp) ?_
  unfold C.dyadic_shifted R.dyadic_shifted
  (repeat (first | refine v_reg ?_ | refine v_last ?_ | refine vwp_seq ?_ | refine vwp_block ?_ | refine vwp_skip ?_ | refine vwp_exit ?_ | refine vwp_ret ?_ | refine v_cond ?_ | simp (disch := omega) only [vm, ite_true, ite_false, eq_self, reduceIte, Nat.reduceEqDiff, Option.map, vst, List.length_cons, List.length_nil, List.set_cons_zero, List.set_cons_succ, List.map_cons, List.map_nil, Option.map_some, Option.bind_some, Nat.reduceAdd, Nat.reduceLT, Nat.reduceLeDiff, Nat.add_zero, and_self, k_ne, Nat.add_left_cancel_iff, ne_eq, Int.reduceEq, Int.reduceLT, Int.reduceLE, List.cons_append, List.nil_append, Nat.reduceDiv, Nat.reduceMul, Int.reduceToNat, Int.reduceAdd, Int.cast_ofNat_Int] | refine And.intro (by omega) ?_))
  refine s_call (right_spec t l k c hl (by omega) hk) (by simp (disch := omega) only [vm, ite_true, ite_false, eq_self, reduceIte, Nat.reduceEqDiff, Option.map, vst, List.length_cons, List.length_nil, List.set_cons_zero, List.set_cons_succ, List.map_cons, List.map_nil, Option.map_some, Option.bind_some, Nat.reduceAdd, Nat.reduceLT, Nat.reduceLeDiff, Nat.add_zero, and_self, k_ne, Nat.add_left_cancel_iff, ne_eq, Int.reduceEq, Int.reduceLT, Int.reduceLE, List.cons_append, List.nil_append, Nat.reduceDiv, Nat.reduceMul, Int.reduceToNat, Int.reduceAdd, Int.cast_ofNat_Int]) ?_
  rintro v c1 hc1 (⟨_, tk, rfl, htk⟩ | ⟨h, _⟩)
  · (repeat (first | refine v_reg ?_ | refine v_last ?_ | refine vwp_seq ?_ | refine vwp_block ?_ | refine vwp_skip ?_ | refine vwp_exit ?_ | refine vwp_ret ?_ | refine v_cond ?_ | simp (disch := omega) only [vm, ite_true, ite_false, eq_self, reduceIte, Nat.reduceEqDiff, Option.map, vst, List.length_cons, List.length_nil, List.set_cons_zero, List.set_cons_succ, List.map_cons, List.map_nil, Option.map_some, Option.bind_some, Nat.reduceAdd, Nat.reduceLT, Nat.reduceLeDiff, Nat.add_zero, and_self, k_ne, Nat.add_left_cancel_iff, ne_eq, Int.reduceEq, Int.reduceLT, Int.reduceLE, List.cons_append, List.nil_append, Nat.reduceDiv, Nat.reduceMul, Int.reduceToNat, Int.reduceAdd, Int.cast_ofNat_Int] | refine And.intro (by omega) ?_))
    exact ⟨tk, rfl, htk⟩
  · omega
theorem left_fast (t : Tok) (l : List Nat) (k c : Nat) (hl : Lim 18446744073709551616 l) (hn : l.length ≤ 17179869184) (hk : k ≤ 1099511627776) (hb : bl (val 18446744073709551616 l * 2 ^ k) ≤ 67108864) : VSpec Tryz.prog F.dyadic_left c [nats t l, iv (k : Int)] (fun r c' => NatR c c' (val 18446744073709551616 l * 2 ^ k) r) := by
  refine spec_mk hm E.dyadic_left B.dyadic_left K.dyadic_left Q.dyadic_left (by rw [N.dyadic_left]; simp) ?_
  unfold C.dyadic_left R.dyadic_left
  (repeat (first | refine v_reg ?_ | refine v_last ?_ | refine vwp_seq ?_ | refine vwp_block ?_ | refine vwp_skip ?_ | refine vwp_exit ?_ | refine vwp_ret ?_ | refine v_cond ?_ | simp (disch := omega) only [vm, ite_true, ite_false, eq_self, reduceIte, Nat.reduceEqDiff, Option.map, vst, List.length_cons, List.length_nil, List.set_cons_zero, List.set_cons_succ, List.map_cons, List.map_nil, Option.map_some, Option.bind_some, Nat.reduceAdd, Nat.reduceLT, Nat.reduceLeDiff, Nat.add_zero, and_self, k_ne, Nat.add_left_cancel_iff, ne_eq, Int.reduceEq, Int.reduceLT, Int.reduceLE, List.cons_append, List.nil_append, Nat.reduceDiv, Nat.reduceMul, Int.reduceToNat, Int.reduceAdd, Int.cast_ofNat_Int] | refine And.intro (by omega) ?_))
  refine s_call (left_spec t l k c hl (by omega) (by omega)) (by simp (disch := omega) only [vm, ite_true, ite_false, eq_self, reduceIte, Nat.reduceEqDiff, Option.map, vst, List.length_cons, List.length_nil, List.set_cons_zero, List.set_cons_succ, List.map_cons, List.map_nil, Option.map_some, Option.bind_some, Nat.reduceAdd, Nat.reduceLT, Nat.reduceLeDiff, Nat.add_zero, and_self, k_ne, Nat.add_left_cancel_iff, ne_eq, Int.reduceEq, Int.reduceLT, Int.reduceLE, List.cons_append, List.nil_append, Nat.reduceDiv, Nat.reduceMul, Int.reduceToNat, Int.reduceAdd, Int.cast_ofNat_Int]) ?_
  rintro v c1 hc1 (⟨_, tk, rfl, htk⟩ | ⟨h, _⟩)
  · (repeat (first | refine v_reg ?_ | refine v_last ?_ | refine vwp_seq ?_ | refine vwp_block ?_ | refine vwp_skip ?_ | refine vwp_exit ?_ | refine vwp_ret ?_ | refine v_cond ?_ | simp (disch := omega) only [vm, ite_true, ite_false, eq_self, reduceIte, Nat.reduceEqDiff, Option.map, vst, List.length_cons, List.length_nil, List.set_cons_zero, List.set_cons_succ, List.map_cons, List.map_nil, Option.map_some, Option.bind_some, Nat.reduceAdd, Nat.reduceLT, Nat.reduceLeDiff, Nat.add_zero, and_self, k_ne, Nat.add_left_cancel_iff, ne_eq, Int.reduceEq, Int.reduceLT, Int.reduceLE, List.cons_append, List.nil_append, Nat.reduceDiv, Nat.reduceMul, Int.reduceToNat, Int.reduceAdd, Int.cast_ofNat_Int] | refine And.intro (by omega) ?_))
    exact ⟨tk, rfl, htk⟩
  · omega

theorem odd_spec (neg : Bool) (t : Tok) (l : List Nat) (e : Int) (c : Nat) (hl : Lim 18446744073709551616 l) (hn : l.length ≤ 17179869184) (he1 : -4611686018427387904 ≤ e) (he2 : e ≤ 4611686018427387904) (hb : tz (val 18446744073709551616 l) = 0 ∨ bl (od (val 18446744073709551616 l)) ≤ 67108864) :
    VSpec Tryz.prog F.dyadic_odd c [whV neg t l, iv e] (fun r c' => ∃ tk, r = dyV tk (dyOf neg (val 18446744073709551616 l) e) ∧ Tk c c' tk) := by
  refine spec_mk hm E.dyadic_odd B.dyadic_odd K.dyadic_odd Q.dyadic_odd (by rw [N.dyadic_odd]; simp) ?_
  unfold C.dyadic_odd R.dyadic_odd
  (repeat (first | refine v_reg ?_ | refine v_last ?_ | refine vwp_seq ?_ | refine vwp_block ?_ | refine vwp_skip ?_ | refine vwp_exit ?_ | refine vwp_ret ?_ | refine v_cond ?_ | simp (disch := omega) only [vm, ite_true, ite_false, eq_self, reduceIte, Nat.reduceEqDiff, Option.map, vst, List.length_cons, List.length_nil, List.set_cons_zero, List.set_cons_succ, List.map_cons, List.map_nil, Option.map_some, Option.bind_some, Nat.reduceAdd, Nat.reduceLT, Nat.reduceLeDiff, Nat.add_zero, and_self, k_ne, Nat.add_left_cancel_iff, ne_eq, Int.reduceEq, Int.reduceLT, Int.reduceLE, List.cons_append, List.nil_append, Nat.reduceDiv, Nat.reduceMul, Int.reduceToNat, Int.reduceAdd, Int.cast_ofNat_Int] | refine And.intro (by omega) ?_))
  refine s_call (sign_spec neg t l (c + 2) hl (by omega)) (by simp (disch := omega) only [vm, ite_true, ite_false, eq_self, reduceIte, Nat.reduceEqDiff, Option.map, vst, List.length_cons, List.length_nil, List.set_cons_zero, List.set_cons_succ, List.map_cons, List.map_nil, Option.map_some, Option.bind_some, Nat.reduceAdd, Nat.reduceLT, Nat.reduceLeDiff, Nat.add_zero, and_self, k_ne, Nat.add_left_cancel_iff, ne_eq, Int.reduceEq, Int.reduceLT, Int.reduceLE, List.cons_append, List.nil_append, Nat.reduceDiv, Nat.reduceMul, Int.reduceToNat, Int.reduceAdd, Int.cast_ofNat_Int]) ?_
  rintro v c1 hc1 rfl
  by_cases g : val 18446744073709551616 l = 0
  · have e0 : sgW neg (val 18446744073709551616 l) = 0 := by unfold sgW; rw [if_pos g]
    (repeat (first | refine v_reg ?_ | refine v_last ?_ | refine vwp_seq ?_ | refine vwp_block ?_ | refine vwp_skip ?_ | refine vwp_exit ?_ | refine vwp_ret ?_ | refine v_cond ?_ | simp (disch := omega) only [vm, ite_true, ite_false, eq_self, reduceIte, Nat.reduceEqDiff, Option.map, vst, List.length_cons, List.length_nil, List.set_cons_zero, List.set_cons_succ, List.map_cons, List.map_nil, Option.map_some, Option.bind_some, Nat.reduceAdd, Nat.reduceLT, Nat.reduceLeDiff, Nat.add_zero, and_self, k_ne, Nat.add_left_cancel_iff, ne_eq, Int.reduceEq, Int.reduceLT, Int.reduceLE, List.cons_append, List.nil_append, Nat.reduceDiv, Nat.reduceMul, Int.reduceToNat, Int.reduceAdd, Int.cast_ofNat_Int, e0] | refine And.intro (by omega) ?_))
    refine ⟨.nil, ?_, .inl rfl⟩
    rw [g]
    rfl
  · have e0 : ¬ sgW neg (val 18446744073709551616 l) = 0 := by unfold sgW; rw [if_neg g]; split <;> decide
    have hlen := digs_len_le two64 hl
    have hld := lim_digs two64 (val 18446744073709551616 l)
    have vd := val_digs two64 (val 18446744073709551616 l)
    have htz : tz (val 18446744073709551616 l) ≤ 64 * l.length := by
      have h1 := val_lt hl
      rw [pow64] at h1
      have := tz_lt g h1
      omega
    (repeat (first | refine v_reg ?_ | refine v_last ?_ | refine vwp_seq ?_ | refine vwp_block ?_ | refine vwp_skip ?_ | refine vwp_exit ?_ | refine vwp_ret ?_ | refine v_cond ?_ | simp (disch := omega) only [vm, ite_true, ite_false, eq_self, reduceIte, Nat.reduceEqDiff, Option.map, vst, List.length_cons, List.length_nil, List.set_cons_zero, List.set_cons_succ, List.map_cons, List.map_nil, Option.map_some, Option.bind_some, Nat.reduceAdd, Nat.reduceLT, Nat.reduceLeDiff, Nat.add_zero, and_self, k_ne, Nat.add_left_cancel_iff, ne_eq, Int.reduceEq, Int.reduceLT, Int.reduceLE, List.cons_append, List.nil_append, Nat.reduceDiv, Nat.reduceMul, Int.reduceToNat, Int.reduceAdd, Int.cast_ofNat_Int, e0] | refine And.intro (by omega) ?_))
    refine s_call (norm_spec t l c1 hl (by omega)) (by simp (disch := omega) only [vm, ite_true, ite_false, eq_self, reduceIte, Nat.reduceEqDiff, Option.map, vst, List.length_cons, List.length_nil, List.set_cons_zero, List.set_cons_succ, List.map_cons, List.map_nil, Option.map_some, Option.bind_some, Nat.reduceAdd, Nat.reduceLT, Nat.reduceLeDiff, Nat.add_zero, and_self, k_ne, Nat.add_left_cancel_iff, ne_eq, Int.reduceEq, Int.reduceLT, Int.reduceLE, List.cons_append, List.nil_append, Nat.reduceDiv, Nat.reduceMul, Int.reduceToNat, Int.reduceAdd, Int.cast_ofNat_Int]) ?_
    rintro v c2 hc2 ⟨tk, rfl, htk⟩
    (repeat (first | refine v_reg ?_ | refine v_last ?_ | refine vwp_seq ?_ | refine vwp_block ?_ | refine vwp_skip ?_ | refine vwp_exit ?_ | refine vwp_ret ?_ | refine v_cond ?_ | simp (disch := omega) only [vm, ite_true, ite_false, eq_self, reduceIte, Nat.reduceEqDiff, Option.map, vst, List.length_cons, List.length_nil, List.set_cons_zero, List.set_cons_succ, List.map_cons, List.map_nil, Option.map_some, Option.bind_some, Nat.reduceAdd, Nat.reduceLT, Nat.reduceLeDiff, Nat.add_zero, and_self, k_ne, Nat.add_left_cancel_iff, ne_eq, Int.reduceEq, Int.reduceLT, Int.reduceLE, List.cons_append, List.nil_append, Nat.reduceDiv, Nat.reduceMul, Int.reduceToNat, Int.reduceAdd, Int.cast_ofNat_Int] | refine And.intro (by omega) ?_))
    refine s_call (tail_spec tk (digs 18446744073709551616 (val 18446744073709551616 l)) c2 hld (by omega)) (by simp (disch := omega) only [vm, ite_true, ite_false, eq_self, reduceIte, Nat.reduceEqDiff, Option.map, vst, List.length_cons, List.length_nil, List.set_cons_zero, List.set_cons_succ, List.map_cons, List.map_nil, Option.map_some, Option.bind_some, Nat.reduceAdd, Nat.reduceLT, Nat.reduceLeDiff, Nat.add_zero, and_self, k_ne, Nat.add_left_cancel_iff, ne_eq, Int.reduceEq, Int.reduceLT, Int.reduceLE, List.cons_append, List.nil_append, Nat.reduceDiv, Nat.reduceMul, Int.reduceToNat, Int.reduceAdd, Int.cast_ofNat_Int]) ?_
    rintro v c3 hc3 rfl
    rw [vd]
    have ed : dyOf neg (val 18446744073709551616 l) e = ⟨neg, od (val 18446744073709551616 l), e + (tz (val 18446744073709551616 l) : Int)⟩ := by unfold dyOf; rw [if_neg g]
    by_cases g2 : (0 : Int) < (tz (val 18446744073709551616 l) : Nat)
    · (repeat (first | refine v_reg ?_ | refine v_last ?_ | refine vwp_seq ?_ | refine vwp_block ?_ | refine vwp_skip ?_ | refine vwp_exit ?_ | refine vwp_ret ?_ | refine v_cond ?_ | simp (disch := omega) only [vm, ite_true, ite_false, eq_self, reduceIte, Nat.reduceEqDiff, Option.map, vst, List.length_cons, List.length_nil, List.set_cons_zero, List.set_cons_succ, List.map_cons, List.map_nil, Option.map_some, Option.bind_some, Nat.reduceAdd, Nat.reduceLT, Nat.reduceLeDiff, Nat.add_zero, and_self, k_ne, Nat.add_left_cancel_iff, ne_eq, Int.reduceEq, Int.reduceLT, Int.reduceLE, List.cons_append, List.nil_append, Nat.reduceDiv, Nat.reduceMul, Int.reduceToNat, Int.reduceAdd, Int.cast_ofNat_Int, e0, g2] | refine And.intro (by omega) ?_))
      refine s_call (shifted_spec tk (digs 18446744073709551616 (val 18446744073709551616 l)) (tz (val 18446744073709551616 l)) c3 hld (by omega) (by omega) (by rw [vd]; exact hb.resolve_left (by omega))) (by simp (disch := omega) only [vm, ite_true, ite_false, eq_self, reduceIte, Nat.reduceEqDiff, Option.map, vst, List.length_cons, List.length_nil, List.set_cons_zero, List.set_cons_succ, List.map_cons, List.map_nil, Option.map_some, Option.bind_some, Nat.reduceAdd, Nat.reduceLT, Nat.reduceLeDiff, Nat.add_zero, and_self, k_ne, Nat.add_left_cancel_iff, ne_eq, Int.reduceEq, Int.reduceLT, Int.reduceLE, List.cons_append, List.nil_append, Nat.reduceDiv, Nat.reduceMul, Int.reduceToNat, Int.reduceAdd, Int.cast_ofNat_Int]) ?_
      rintro v c4 hc4 ⟨tk2, rfl, htk2⟩
      rw [vd]
      (repeat (first | refine v_reg ?_ | refine v_last ?_ | refine vwp_seq ?_ | refine vwp_block ?_ | refine vwp_skip ?_ | refine vwp_exit ?_ | refine vwp_ret ?_ | refine v_cond ?_ | simp (disch := omega) only [vm, ite_true, ite_false, eq_self, reduceIte, Nat.reduceEqDiff, Option.map, vst, List.length_cons, List.length_nil, List.set_cons_zero, List.set_cons_succ, List.map_cons, List.map_nil, Option.map_some, Option.bind_some, Nat.reduceAdd, Nat.reduceLT, Nat.reduceLeDiff, Nat.add_zero, and_self, k_ne, Nat.add_left_cancel_iff, ne_eq, Int.reduceEq, Int.reduceLT, Int.reduceLE, List.cons_append, List.nil_append, Nat.reduceDiv, Nat.reduceMul, Int.reduceToNat, Int.reduceAdd, Int.cast_ofNat_Int] | refine And.intro (by omega) ?_))
      exact ⟨tk2, by rw [ed]; rfl, htk2.mono (by omega) (by omega)⟩
    · have e1 : tz (val 18446744073709551616 l) = 0 := by omega
      (repeat (first | refine v_reg ?_ | refine v_last ?_ | refine vwp_seq ?_ | refine vwp_block ?_ | refine vwp_skip ?_ | refine vwp_exit ?_ | refine vwp_ret ?_ | refine v_cond ?_ | simp (disch := omega) only [vm, ite_true, ite_false, eq_self, reduceIte, Nat.reduceEqDiff, Option.map, vst, List.length_cons, List.length_nil, List.set_cons_zero, List.set_cons_succ, List.map_cons, List.map_nil, Option.map_some, Option.bind_some, Nat.reduceAdd, Nat.reduceLT, Nat.reduceLeDiff, Nat.add_zero, and_self, k_ne, Nat.add_left_cancel_iff, ne_eq, Int.reduceEq, Int.reduceLT, Int.reduceLE, List.cons_append, List.nil_append, Nat.reduceDiv, Nat.reduceMul, Int.reduceToNat, Int.reduceAdd, Int.cast_ofNat_Int, e0, g2] | refine And.intro (by omega) ?_))
      refine ⟨tk, ?_, htk.mono (by omega) (by omega)⟩
      rw [ed, e1]
      unfold od
      rw [e1, Nat.pow_zero, Nat.div_one]
end Go.Proofs.YtacodmnlnlbahaaGreatDoor
set_option linter.unusedVariables false
set_option linter.unusedSimpArgs false
namespace Go.VM
open Go.RowKit

def VoidR (r : V) : Prop := ∀ w M μ c v, ¬ Rep w M μ c r v
theorem voidR_nil {n : Nat} {l : List V} (hl : l ≠ []) : VoidR (.sl .nil n l) := by
  intro w M μ c v h
  cases h with
  | nil tk sz => exact hl rfl
  | sl _ _ m cap a _ vs ht hn hc hs hMb hcap h1 h2 =>
    have h0 : cap * n = 0 := ht
    have hc0 : cap = 0 := (Nat.mul_eq_zero.1 h0).resolve_right (by omega)
    subst hc0
    have hm0 : m = 0 := by omega
    have : l.length = 0 := by rw [hn, hm0, Nat.zero_mul]
    exact hl (List.eq_nil_of_length_eq_zero this)
theorem voidR_agg {l : List V} {x : V} (hm : x ∈ l) (hx : VoidR x) : VoidR (.agg l) := by
  intro w M μ c v h
  cases h with
  | agg _ cs hn h1 hl =>
    obtain ⟨j, hj⟩ := List.getElem?_of_mem hm
    have hjl := (List.getElem?_eq_some_iff.1 hj).1
    exact hx _ _ _ _ _ (hl j _ _ hj (Array.getElem?_eq_getElem (by omega)))
theorem VSpec.cleanR {P : Program} {f : FuncId} {c : Nat} {xs : List V} {Q1 Q2 : V → Nat → Prop} (h : VSpec P f c xs Q1) (hq : ∀ r c', c ≤ c' → Q1 r c' → Q2 r c' ∨ (r.one = true ∧ VoidR r ∧ ∃ r2 c2, c ≤ c2 ∧ Q2 r2 c2)) : VSpec P f c xs Q2 := by
  obtain ⟨r, c', h0, h1, h2⟩ := h
  rcases hq r c' h0 h2 with h | ⟨ho, hv, r2, c2, h3, h4⟩
  · exact ⟨r, c', h0, h1, h⟩
  · refine ⟨r2, c2, h3, fun w Φ μ vs hm0 hn ha => (h1 w Φ μ vs hm0 hn ha).mono ?_, h4⟩
    rintro e w' ⟨v, μ', _, _, hr⟩
    exact absurd (hr.one ho) (hv _ _ _ _ _)
theorem nb_app {t : Nat} : noBlk t = none := rfl
def Own1 (lo hi : Nat) (t : Tok) (l : List Nat) : Prop := (t = .nil ∧ l = []) ∨ ∃ i, t = .id i ∧ lo ≤ i ∧ i < hi
theorem Own1.mono {a b c d : Nat} {t : Tok} {l : List Nat} (h : Own1 a b t l) (h1 : c ≤ a) (h2 : b ≤ d) : Own1 c d t l := by
  rcases h with h | ⟨i, h, h3, h4⟩
  · exact .inl h
  · exact .inr ⟨i, h, by omega, by omega⟩
end Go.VM
set_option linter.unusedSimpArgs false
set_option linter.unusedVariables false
set_option maxRecDepth 100000
set_option maxHeartbeats 8000000
namespace Go.Proofs.YtacodmnlnlbahaaGreatDoor
open Go.VM

theorem odd_own (neg : Bool) (t : Tok) (l : List Nat) (e : Int) (c : Nat) (hl : Lim 18446744073709551616 l) (hn : l.length ≤ 17179869184) (he1 : -4611686018427387904 ≤ e) (he2 : e ≤ 4611686018427387904) (hb : tz (val 18446744073709551616 l) = 0 ∨ bl (od (val 18446744073709551616 l)) ≤ 67108864) :
    VSpec Tryz.prog F.dyadic_odd c [whV neg t l, iv e] (fun r c' => ∃ tk, r = dyV tk (dyOf neg (val 18446744073709551616 l) e) ∧ Own1 c c' tk (digs 18446744073709551616 (dyOf neg (val 18446744073709551616 l) e).m)) := by
  refine VSpec.cleanR (odd_spec neg t l e c hl hn he1 he2 hb) fun r c' hc ⟨tk, hr, htk⟩ => ?_
  subst hr
  rcases htk with rfl | ⟨i, rfl, h1, h2⟩
  · by_cases g : digs 18446744073709551616 (dyOf neg (val 18446744073709551616 l) e).m = []
    · exact .inl ⟨_, rfl, .inl ⟨rfl, g⟩⟩
    · exact .inr ⟨rfl, voidR_agg (x := nats .nil (digs 18446744073709551616 (dyOf neg (val 18446744073709551616 l) e).m)) (by simp) (voidR_nil (by simpa using g)), _, c + 1, by omega, .id c, rfl, .inr ⟨c, rfl, by omega, by omega⟩⟩
  · exact .inl ⟨_, rfl, .inr ⟨i, rfl, h1, h2⟩⟩

def ansD (d : Dy) : Dy := if tE d = 0 then d else dy0
theorem ansD_ok {d : Dy} (h : tE d = 0) : ansD d = d := if_pos h
theorem ansD_bad {d : Dy} (h : tE d ≠ 0) : ansD d = dy0 := if_neg h
def AnsD (c c' : Nat) (d : Dy) (r : V) : Prop := ∃ t, r = .tup [dyV t (ansD d), iv (tE d)] ∧ Own1 c c' t (digs 18446744073709551616 (ansD d).m)
theorem AnsD.mono {a b c d : Nat} {x : Dy} {r : V} (h : AnsD a b x r) (h1 : c ≤ a) (h2 : b ≤ d) : AnsD c d x r := by
  obtain ⟨t, h, ht⟩ := h
  exact ⟨t, h, ht.mono h1 h2⟩
theorem tz_len {l : List Nat} (hl : Lim 18446744073709551616 l) : tz (val 18446744073709551616 l) ≤ 64 * l.length := by
  by_cases g : val 18446744073709551616 l = 0
  · rw [g, tz_zero]; exact Nat.zero_le _
  · have h1 := val_lt hl
    rw [pow64] at h1
    exact Nat.le_of_lt (tz_lt g h1)
theorem dyOf_e {neg : Bool} {n : Nat} {e : Int} : (dyOf neg n e).e = if n = 0 then 0 else e + (tz n : Int) := by
  unfold dyOf; split <;> rfl
theorem dlen {d : Nat} {l : List Nat} (hl : Lim 18446744073709551616 l) (h : d ≤ val 18446744073709551616 l) : (digs 18446744073709551616 d).length ≤ l.length := Nat.le_trans (le_len two64 h) (digs_len_le two64 hl)

theorem dtold_spec (neg : Bool) (t : Tok) (l : List Nat) (e : Int) (c : Nat) (hl : Lim 18446744073709551616 l) (hn : l.length ≤ 17179869184) (he1 : -2305843009213693952 ≤ e) (he2 : e ≤ 2305843009213693952) (hb : tz (val 18446744073709551616 l) = 0 ∨ bl (od (val 18446744073709551616 l)) ≤ 67108864) :
    VSpec Tryz.prog F.dyadic_told c [whV neg t l, iv e] (fun r c' => AnsD c c' (dyOf neg (val 18446744073709551616 l) e) r) := by
  refine spec_mk hm E.dyadic_told B.dyadic_told K.dyadic_told Q.dyadic_told (by rw [N.dyadic_told]; simp) ?_
  unfold C.dyadic_told R.dyadic_told
  (repeat (first | refine v_reg ?_ | refine v_last ?_ | refine vwp_seq ?_ | refine vwp_block ?_ | refine vwp_skip ?_ | refine vwp_exit ?_ | refine vwp_ret ?_ | refine v_cond ?_ | simp (disch := omega) only [vm, ite_true, ite_false, eq_self, reduceIte, Nat.reduceEqDiff, Option.map, vst, List.length_cons, List.length_nil, List.set_cons_zero, List.set_cons_succ, List.map_cons, List.map_nil, Option.map_some, Option.bind_some, Nat.reduceAdd, Nat.reduceLT, Nat.reduceLeDiff, Nat.add_zero, and_self, k_ne, Nat.add_left_cancel_iff, ne_eq, Int.reduceEq, Int.reduceLT, Int.reduceLE, List.cons_append, List.nil_append, Nat.reduceDiv, Nat.reduceMul, Int.reduceToNat, Int.reduceAdd, Int.cast_ofNat_Int] | refine And.intro (by omega) ?_))
  refine s_call (odd_own neg t l e (c + 2) hl (by omega) (by omega) (by omega) hb) (by simp (disch := omega) only [vm, ite_true, ite_false, eq_self, reduceIte, Nat.reduceEqDiff, Option.map, vst, List.length_cons, List.length_nil, List.set_cons_zero, List.set_cons_succ, List.map_cons, List.map_nil, Option.map_some, Option.bind_some, Nat.reduceAdd, Nat.reduceLT, Nat.reduceLeDiff, Nat.add_zero, and_self, k_ne, Nat.add_left_cancel_iff, ne_eq, Int.reduceEq, Int.reduceLT, Int.reduceLE, List.cons_append, List.nil_append, Nat.reduceDiv, Nat.reduceMul, Int.reduceToNat, Int.reduceAdd, Int.cast_ofNat_Int]) ?_
  rintro v c1 hc1 ⟨tk, rfl, htk⟩
  have hm := dyOf_le neg (val 18446744073709551616 l) e
  have hdl := dlen hl hm
  have hee := dyOf_e (neg := neg) (n := val 18446744073709551616 l) (e := e)
  have htz := tz_len hl
  have hok := dyOf_ok neg (val 18446744073709551616 l) e
  generalize dyOf neg (val 18446744073709551616 l) e = d at *
  have hld := lim_digs two64 d.m
  have vd := val_digs two64 d.m
  (repeat (first | refine v_reg ?_ | refine v_last ?_ | refine vwp_seq ?_ | refine vwp_block ?_ | refine vwp_skip ?_ | refine vwp_exit ?_ | refine vwp_ret ?_ | refine v_cond ?_ | simp (disch := omega) only [vm, ite_true, ite_false, eq_self, reduceIte, Nat.reduceEqDiff, Option.map, vst, List.length_cons, List.length_nil, List.set_cons_zero, List.set_cons_succ, List.map_cons, List.map_nil, Option.map_some, Option.bind_some, Nat.reduceAdd, Nat.reduceLT, Nat.reduceLeDiff, Nat.add_zero, and_self, k_ne, Nat.add_left_cancel_iff, ne_eq, Int.reduceEq, Int.reduceLT, Int.reduceLE, List.cons_append, List.nil_append, Nat.reduceDiv, Nat.reduceMul, Int.reduceToNat, Int.reduceAdd, Int.cast_ofNat_Int] | refine And.intro (by omega) ?_))
  refine s_call (psign_spec d.neg tk (digs 18446744073709551616 d.m) (c1 + 1) hld (by omega)) (by simp (disch := omega) only [vm, ite_true, ite_false, eq_self, reduceIte, Nat.reduceEqDiff, Option.map, vst, List.length_cons, List.length_nil, List.set_cons_zero, List.set_cons_succ, List.map_cons, List.map_nil, Option.map_some, Option.bind_some, Nat.reduceAdd, Nat.reduceLT, Nat.reduceLeDiff, Nat.add_zero, and_self, k_ne, Nat.add_left_cancel_iff, ne_eq, Int.reduceEq, Int.reduceLT, Int.reduceLE, List.cons_append, List.nil_append, Nat.reduceDiv, Nat.reduceMul, Int.reduceToNat, Int.reduceAdd, Int.cast_ofNat_Int]) ?_
  rintro v c2 hc2 rfl
  rw [vd]
  by_cases g : d.m = 0
  · have e0 : sgW d.neg d.m = 0 := by unfold sgW; rw [if_pos g]
    (repeat (first | refine v_reg ?_ | refine v_last ?_ | refine vwp_seq ?_ | refine vwp_block ?_ | refine vwp_skip ?_ | refine vwp_exit ?_ | refine vwp_ret ?_ | refine v_cond ?_ | simp (disch := omega) only [vm, ite_true, ite_false, eq_self, reduceIte, Nat.reduceEqDiff, Option.map, vst, List.length_cons, List.length_nil, List.set_cons_zero, List.set_cons_succ, List.map_cons, List.map_nil, Option.map_some, Option.bind_some, Nat.reduceAdd, Nat.reduceLT, Nat.reduceLeDiff, Nat.add_zero, and_self, k_ne, Nat.add_left_cancel_iff, ne_eq, Int.reduceEq, Int.reduceLT, Int.reduceLE, List.cons_append, List.nil_append, Nat.reduceDiv, Nat.reduceMul, Int.reduceToNat, Int.reduceAdd, Int.cast_ofNat_Int, e0] | refine And.intro (by omega) ?_))
    rw [hok.zero g]
    exact ⟨.nil, rfl, .inl ⟨rfl, rfl⟩⟩
  · have e0 : ¬ sgW d.neg d.m = 0 := by unfold sgW; rw [if_neg g]; split <;> decide
    (repeat (first | refine v_reg ?_ | refine v_last ?_ | refine vwp_seq ?_ | refine vwp_block ?_ | refine vwp_skip ?_ | refine vwp_exit ?_ | refine vwp_ret ?_ | refine v_cond ?_ | simp (disch := omega) only [vm, ite_true, ite_false, eq_self, reduceIte, Nat.reduceEqDiff, Option.map, vst, List.length_cons, List.length_nil, List.set_cons_zero, List.set_cons_succ, List.map_cons, List.map_nil, Option.map_some, Option.bind_some, Nat.reduceAdd, Nat.reduceLT, Nat.reduceLeDiff, Nat.add_zero, and_self, k_ne, Nat.add_left_cancel_iff, ne_eq, Int.reduceEq, Int.reduceLT, Int.reduceLE, List.cons_append, List.nil_append, Nat.reduceDiv, Nat.reduceMul, Int.reduceToNat, Int.reduceAdd, Int.cast_ofNat_Int, e0] | refine And.intro (by omega) ?_))
    refine s_call (plen_spec d.neg tk (digs 18446744073709551616 d.m) c2 hld (by omega)) (by simp (disch := omega) only [vm, ite_true, ite_false, eq_self, reduceIte, Nat.reduceEqDiff, Option.map, vst, List.length_cons, List.length_nil, List.set_cons_zero, List.set_cons_succ, List.map_cons, List.map_nil, Option.map_some, Option.bind_some, Nat.reduceAdd, Nat.reduceLT, Nat.reduceLeDiff, Nat.add_zero, and_self, k_ne, Nat.add_left_cancel_iff, ne_eq, Int.reduceEq, Int.reduceLT, Int.reduceLE, List.cons_append, List.nil_append, Nat.reduceDiv, Nat.reduceMul, Int.reduceToNat, Int.reduceAdd, Int.cast_ofNat_Int]) ?_
    rintro v c3 hc3 rfl
    rw [vd]
    rcases tE_cases d with ⟨h1, h2⟩ | ⟨h1, h2, h3⟩ | ⟨h1, h2, h3⟩
    · have g1 : (67108864 : Int) < (bl d.m : Int) := by omega
      (repeat (first | refine v_reg ?_ | refine v_last ?_ | refine vwp_seq ?_ | refine vwp_block ?_ | refine vwp_skip ?_ | refine vwp_exit ?_ | refine vwp_ret ?_ | refine v_cond ?_ | simp (disch := omega) only [vm, ite_true, ite_false, eq_self, reduceIte, Nat.reduceEqDiff, Option.map, vst, List.length_cons, List.length_nil, List.set_cons_zero, List.set_cons_succ, List.map_cons, List.map_nil, Option.map_some, Option.bind_some, Nat.reduceAdd, Nat.reduceLT, Nat.reduceLeDiff, Nat.add_zero, and_self, k_ne, Nat.add_left_cancel_iff, ne_eq, Int.reduceEq, Int.reduceLT, Int.reduceLE, List.cons_append, List.nil_append, Nat.reduceDiv, Nat.reduceMul, Int.reduceToNat, Int.reduceAdd, Int.cast_ofNat_Int, e0, g1] | refine And.intro (by omega) ?_))
      refine ⟨.nil, ?_, .inl ⟨rfl, ?_⟩⟩
      · rw [ansD_bad (by rw [h2]; decide), h2]; rfl
      · rw [ansD_bad (by rw [h2]; decide)]; rfl
    · have g1 : ¬ (67108864 : Int) < (bl d.m : Int) := by omega
      (repeat (first | refine v_reg ?_ | refine v_last ?_ | refine vwp_seq ?_ | refine vwp_block ?_ | refine vwp_skip ?_ | refine vwp_exit ?_ | refine vwp_ret ?_ | refine v_cond ?_ | simp (disch := omega) only [vm, ite_true, ite_false, eq_self, reduceIte, Nat.reduceEqDiff, Option.map, vst, List.length_cons, List.length_nil, List.set_cons_zero, List.set_cons_succ, List.map_cons, List.map_nil, Option.map_some, Option.bind_some, Nat.reduceAdd, Nat.reduceLT, Nat.reduceLeDiff, Nat.add_zero, and_self, k_ne, Nat.add_left_cancel_iff, ne_eq, Int.reduceEq, Int.reduceLT, Int.reduceLE, List.cons_append, List.nil_append, Nat.reduceDiv, Nat.reduceMul, Int.reduceToNat, Int.reduceAdd, Int.cast_ofNat_Int, e0, g1] | refine And.intro (by omega) ?_))
      refine s_call (within_spec d.e c3) (by simp (disch := omega) only [vm, ite_true, ite_false, eq_self, reduceIte, Nat.reduceEqDiff, Option.map, vst, List.length_cons, List.length_nil, List.set_cons_zero, List.set_cons_succ, List.map_cons, List.map_nil, Option.map_some, Option.bind_some, Nat.reduceAdd, Nat.reduceLT, Nat.reduceLeDiff, Nat.add_zero, and_self, k_ne, Nat.add_left_cancel_iff, ne_eq, Int.reduceEq, Int.reduceLT, Int.reduceLE, List.cons_append, List.nil_append, Nat.reduceDiv, Nat.reduceMul, Int.reduceToNat, Int.reduceAdd, Int.cast_ofNat_Int]) ?_
      rintro v c4 hc4 rfl
      (repeat (first | refine v_reg ?_ | refine v_last ?_ | refine vwp_seq ?_ | refine vwp_block ?_ | refine vwp_skip ?_ | refine vwp_exit ?_ | refine vwp_ret ?_ | refine v_cond ?_ | simp (disch := omega) only [vm, ite_true, ite_false, eq_self, reduceIte, Nat.reduceEqDiff, Option.map, vst, List.length_cons, List.length_nil, List.set_cons_zero, List.set_cons_succ, List.map_cons, List.map_nil, Option.map_some, Option.bind_some, Nat.reduceAdd, Nat.reduceLT, Nat.reduceLeDiff, Nat.add_zero, and_self, k_ne, Nat.add_left_cancel_iff, ne_eq, Int.reduceEq, Int.reduceLT, Int.reduceLE, List.cons_append, List.nil_append, Nat.reduceDiv, Nat.reduceMul, Int.reduceToNat, Int.reduceAdd, Int.cast_ofNat_Int, e0, g1, h2] | refine And.intro (by omega) ?_))
      refine ⟨tk, ?_, ?_⟩
      · rw [ansD_ok h3, h3]
      · rw [ansD_ok h3]; exact htk.mono (by omega) (by omega)
    · have g1 : ¬ (67108864 : Int) < (bl d.m : Int) := by omega
      (repeat (first | refine v_reg ?_ | refine v_last ?_ | refine vwp_seq ?_ | refine vwp_block ?_ | refine vwp_skip ?_ | refine vwp_exit ?_ | refine vwp_ret ?_ | refine v_cond ?_ | simp (disch := omega) only [vm, ite_true, ite_false, eq_self, reduceIte, Nat.reduceEqDiff, Option.map, vst, List.length_cons, List.length_nil, List.set_cons_zero, List.set_cons_succ, List.map_cons, List.map_nil, Option.map_some, Option.bind_some, Nat.reduceAdd, Nat.reduceLT, Nat.reduceLeDiff, Nat.add_zero, and_self, k_ne, Nat.add_left_cancel_iff, ne_eq, Int.reduceEq, Int.reduceLT, Int.reduceLE, List.cons_append, List.nil_append, Nat.reduceDiv, Nat.reduceMul, Int.reduceToNat, Int.reduceAdd, Int.cast_ofNat_Int, e0, g1] | refine And.intro (by omega) ?_))
      refine s_call (within_spec d.e c3) (by simp (disch := omega) only [vm, ite_true, ite_false, eq_self, reduceIte, Nat.reduceEqDiff, Option.map, vst, List.length_cons, List.length_nil, List.set_cons_zero, List.set_cons_succ, List.map_cons, List.map_nil, Option.map_some, Option.bind_some, Nat.reduceAdd, Nat.reduceLT, Nat.reduceLeDiff, Nat.add_zero, and_self, k_ne, Nat.add_left_cancel_iff, ne_eq, Int.reduceEq, Int.reduceLT, Int.reduceLE, List.cons_append, List.nil_append, Nat.reduceDiv, Nat.reduceMul, Int.reduceToNat, Int.reduceAdd, Int.cast_ofNat_Int]) ?_
      rintro v c4 hc4 rfl
      (repeat (first | refine v_reg ?_ | refine v_last ?_ | refine vwp_seq ?_ | refine vwp_block ?_ | refine vwp_skip ?_ | refine vwp_exit ?_ | refine vwp_ret ?_ | refine v_cond ?_ | simp (disch := omega) only [vm, ite_true, ite_false, eq_self, reduceIte, Nat.reduceEqDiff, Option.map, vst, List.length_cons, List.length_nil, List.set_cons_zero, List.set_cons_succ, List.map_cons, List.map_nil, Option.map_some, Option.bind_some, Nat.reduceAdd, Nat.reduceLT, Nat.reduceLeDiff, Nat.add_zero, and_self, k_ne, Nat.add_left_cancel_iff, ne_eq, Int.reduceEq, Int.reduceLT, Int.reduceLE, List.cons_append, List.nil_append, Nat.reduceDiv, Nat.reduceMul, Int.reduceToNat, Int.reduceAdd, Int.cast_ofNat_Int, e0, g1, h2] | refine And.intro (by omega) ?_))
      refine ⟨.nil, ?_, .inl ⟨rfl, ?_⟩⟩
      · rw [ansD_bad (by rw [h3]; decide), h3]; rfl
      · rw [ansD_bad (by rw [h3]; decide)]; rfl
end Go.Proofs.YtacodmnlnlbahaaGreatDoor
set_option linter.unusedSimpArgs false
set_option linter.unusedVariables false
set_option maxRecDepth 100000
set_option maxHeartbeats 8000000
namespace Go.Proofs.YtacodmnlnlbahaaGreatDoor
open Go.VM

theorem n_neg' {x : Int} (h1 : -9223372036854775807 ≤ x) (h2 : x ≤ 9223372036854775807) : vun .neg (iv x) = some (iv (-x)) := by
  rw [n_neg, wrap_i64 (by omega) (by omega), Int.zero_sub]

structure Arg (l : List Nat) : Prop where
  lim : Lim 18446744073709551616 l
  len : l.length ≤ 1048576
theorem Arg.bl {l : List Nat} (h : Arg l) : Go.VM.bl (val 18446744073709551616 l) ≤ 67108864 := by
  have h1 := val_lt h.lim
  rw [pow64] at h1
  have := bl_le h1
  have := h.len
  omega
theorem arg_digs {n : Nat} (h : bl n ≤ 67108864) : Arg (digs 18446744073709551616 n) := ⟨lim_digs two64 n, digs_len_bl (by omega)⟩
theorem bl_od (n : Nat) : bl (od n) ≤ bl n := bl_mono (od_le n)
theorem dyOf_bl {neg : Bool} {n : Nat} {e : Int} : bl (dyOf neg n e).m ≤ bl n := bl_mono (dyOf_le neg n e)
theorem Arg.tz {l : List Nat} (h : Arg l) : Go.VM.tz (val 18446744073709551616 l) ≤ 67108864 := Nat.le_trans (tz_len h.lim) (by have := h.len; omega)

theorem read_spec (neg : Bool) (t : Tok) (l : List Nat) (e : Int) (c : Nat) (hl : Arg l) (he : fitE e) :
    VSpec Tryz.prog F.dyadic_read c [raV neg t l e] (fun r c' => ∃ tk, r = .tup [dyV tk (dyOf neg (val 18446744073709551616 l) e), iv 0] ∧ Own1 c c' tk (digs 18446744073709551616 (dyOf neg (val 18446744073709551616 l) e).m)) := by
  refine spec_mk hm E.dyadic_read B.dyadic_read K.dyadic_read Q.dyadic_read (by rw [N.dyadic_read]; simp) ?_
  unfold C.dyadic_read R.dyadic_read
  have hlen := hl.len
  have hb := hl.bl
  have hob := bl_od (val 18446744073709551616 l)
  have he' := he
  unfold fitE at he'
  (repeat (first | refine v_reg ?_ | refine v_last ?_ | refine vwp_seq ?_ | refine vwp_block ?_ | refine vwp_skip ?_ | refine vwp_exit ?_ | refine vwp_ret ?_ | refine v_cond ?_ | simp (disch := omega) only [vm, ite_true, ite_false, eq_self, reduceIte, Nat.reduceEqDiff, Option.map, vst, List.length_cons, List.length_nil, List.set_cons_zero, List.set_cons_succ, List.map_cons, List.map_nil, Option.map_some, Option.bind_some, Nat.reduceAdd, Nat.reduceLT, Nat.reduceLeDiff, Nat.add_zero, and_self, k_ne, Nat.add_left_cancel_iff, ne_eq, Int.reduceEq, Int.reduceLT, Int.reduceLE, List.cons_append, List.nil_append, Nat.reduceDiv, Nat.reduceMul, Int.reduceToNat, Int.reduceAdd, Int.cast_ofNat_Int] | refine And.intro (by omega) ?_))
  refine s_call (within_spec e (c + 2)) (by simp (disch := omega) only [vm, ite_true, ite_false, eq_self, reduceIte, Nat.reduceEqDiff, Option.map, vst, List.length_cons, List.length_nil, List.set_cons_zero, List.set_cons_succ, List.map_cons, List.map_nil, Option.map_some, Option.bind_some, Nat.reduceAdd, Nat.reduceLT, Nat.reduceLeDiff, Nat.add_zero, and_self, k_ne, Nat.add_left_cancel_iff, ne_eq, Int.reduceEq, Int.reduceLT, Int.reduceLE, List.cons_append, List.nil_append, Nat.reduceDiv, Nat.reduceMul, Int.reduceToNat, Int.reduceAdd, Int.cast_ofNat_Int]) ?_
  rintro v c1 hc1 rfl
  (repeat (first | refine v_reg ?_ | refine v_last ?_ | refine vwp_seq ?_ | refine vwp_block ?_ | refine vwp_skip ?_ | refine vwp_exit ?_ | refine vwp_ret ?_ | refine v_cond ?_ | simp (disch := omega) only [vm, ite_true, ite_false, eq_self, reduceIte, Nat.reduceEqDiff, Option.map, vst, List.length_cons, List.length_nil, List.set_cons_zero, List.set_cons_succ, List.map_cons, List.map_nil, Option.map_some, Option.bind_some, Nat.reduceAdd, Nat.reduceLT, Nat.reduceLeDiff, Nat.add_zero, and_self, k_ne, Nat.add_left_cancel_iff, ne_eq, Int.reduceEq, Int.reduceLT, Int.reduceLE, List.cons_append, List.nil_append, Nat.reduceDiv, Nat.reduceMul, Int.reduceToNat, Int.reduceAdd, Int.cast_ofNat_Int, he] | refine And.intro (by omega) ?_))
  refine s_call (odd_own neg t l e c1 hl.lim (by omega) (by omega) (by omega) (.inr (by omega))) (by simp (disch := omega) only [vm, ite_true, ite_false, eq_self, reduceIte, Nat.reduceEqDiff, Option.map, vst, List.length_cons, List.length_nil, List.set_cons_zero, List.set_cons_succ, List.map_cons, List.map_nil, Option.map_some, Option.bind_some, Nat.reduceAdd, Nat.reduceLT, Nat.reduceLeDiff, Nat.add_zero, and_self, k_ne, Nat.add_left_cancel_iff, ne_eq, Int.reduceEq, Int.reduceLT, Int.reduceLE, List.cons_append, List.nil_append, Nat.reduceDiv, Nat.reduceMul, Int.reduceToNat, Int.reduceAdd, Int.cast_ofNat_Int]) ?_
  rintro v c2 hc2 ⟨tk, rfl, htk⟩
  (repeat (first | refine v_reg ?_ | refine v_last ?_ | refine vwp_seq ?_ | refine vwp_block ?_ | refine vwp_skip ?_ | refine vwp_exit ?_ | refine vwp_ret ?_ | refine v_cond ?_ | simp (disch := omega) only [vm, ite_true, ite_false, eq_self, reduceIte, Nat.reduceEqDiff, Option.map, vst, List.length_cons, List.length_nil, List.set_cons_zero, List.set_cons_succ, List.map_cons, List.map_nil, Option.map_some, Option.bind_some, Nat.reduceAdd, Nat.reduceLT, Nat.reduceLeDiff, Nat.add_zero, and_self, k_ne, Nat.add_left_cancel_iff, ne_eq, Int.reduceEq, Int.reduceLT, Int.reduceLE, List.cons_append, List.nil_append, Nat.reduceDiv, Nat.reduceMul, Int.reduceToNat, Int.reduceAdd, Int.cast_ofNat_Int] | refine And.intro (by omega) ?_))
  exact ⟨tk, rfl, htk.mono (by omega) (by omega)⟩
theorem read_bad (neg : Bool) (t : Tok) (l : List Nat) (e : Int) (c : Nat) (he : ¬ fitE e) :
    VSpec Tryz.prog F.dyadic_read c [raV neg t l e] (fun r _ => r = .tup [dyV .nil dy0, iv 80]) := by
  refine spec_mk hm E.dyadic_read B.dyadic_read K.dyadic_read Q.dyadic_read (by rw [N.dyadic_read]; simp) ?_
  unfold C.dyadic_read R.dyadic_read
  (repeat (first | refine v_reg ?_ | refine v_last ?_ | refine vwp_seq ?_ | refine vwp_block ?_ | refine vwp_skip ?_ | refine vwp_exit ?_ | refine vwp_ret ?_ | refine v_cond ?_ | simp (disch := omega) only [vm, ite_true, ite_false, eq_self, reduceIte, Nat.reduceEqDiff, Option.map, vst, List.length_cons, List.length_nil, List.set_cons_zero, List.set_cons_succ, List.map_cons, List.map_nil, Option.map_some, Option.bind_some, Nat.reduceAdd, Nat.reduceLT, Nat.reduceLeDiff, Nat.add_zero, and_self, k_ne, Nat.add_left_cancel_iff, ne_eq, Int.reduceEq, Int.reduceLT, Int.reduceLE, List.cons_append, List.nil_append, Nat.reduceDiv, Nat.reduceMul, Int.reduceToNat, Int.reduceAdd, Int.cast_ofNat_Int] | refine And.intro (by omega) ?_))
  refine s_call (within_spec e (c + 2)) (by simp (disch := omega) only [vm, ite_true, ite_false, eq_self, reduceIte, Nat.reduceEqDiff, Option.map, vst, List.length_cons, List.length_nil, List.set_cons_zero, List.set_cons_succ, List.map_cons, List.map_nil, Option.map_some, Option.bind_some, Nat.reduceAdd, Nat.reduceLT, Nat.reduceLeDiff, Nat.add_zero, and_self, k_ne, Nat.add_left_cancel_iff, ne_eq, Int.reduceEq, Int.reduceLT, Int.reduceLE, List.cons_append, List.nil_append, Nat.reduceDiv, Nat.reduceMul, Int.reduceToNat, Int.reduceAdd, Int.cast_ofNat_Int]) ?_
  rintro v c1 hc1 rfl
  (repeat (first | refine v_reg ?_ | refine v_last ?_ | refine vwp_seq ?_ | refine vwp_block ?_ | refine vwp_skip ?_ | refine vwp_exit ?_ | refine vwp_ret ?_ | refine v_cond ?_ | simp (disch := omega) only [vm, ite_true, ite_false, eq_self, reduceIte, Nat.reduceEqDiff, Option.map, vst, List.length_cons, List.length_nil, List.set_cons_zero, List.set_cons_succ, List.map_cons, List.map_nil, Option.map_some, Option.bind_some, Nat.reduceAdd, Nat.reduceLT, Nat.reduceLeDiff, Nat.add_zero, and_self, k_ne, Nat.add_left_cancel_iff, ne_eq, Int.reduceEq, Int.reduceLT, Int.reduceLE, List.cons_append, List.nil_append, Nat.reduceDiv, Nat.reduceMul, Int.reduceToNat, Int.reduceAdd, Int.cast_ofNat_Int, he] | refine And.intro (by omega) ?_))
  (first | omega | rfl | ((repeat' apply And.intro) <;> first | rfl | omega | assumption))

theorem two_spec (na nb : Bool) (ta tb : Tok) (a b : List Nat) (ea eb : Int) (c : Nat) (ha : Arg a) (hb : Arg b) (hea : fitE ea) (heb : fitE eb) :
    VSpec Tryz.prog F.dyadic_two c [raV na ta a ea, raV nb tb b eb] (fun r c' => ∃ tx ty cm, c ≤ cm ∧ cm ≤ c' ∧ r = .tup [dyV tx (dyOf na (val 18446744073709551616 a) ea), dyV ty (dyOf nb (val 18446744073709551616 b) eb), iv 0] ∧ Own1 c cm tx (digs 18446744073709551616 (dyOf na (val 18446744073709551616 a) ea).m) ∧ Own1 cm c' ty (digs 18446744073709551616 (dyOf nb (val 18446744073709551616 b) eb).m)) := by
  refine spec_mk hm E.dyadic_two B.dyadic_two K.dyadic_two Q.dyadic_two (by rw [N.dyadic_two]; simp) ?_
  unfold C.dyadic_two R.dyadic_two
  (repeat (first | refine v_reg ?_ | refine v_last ?_ | refine vwp_seq ?_ | refine vwp_block ?_ | refine vwp_skip ?_ | refine vwp_exit ?_ | refine vwp_ret ?_ | refine v_cond ?_ | simp (disch := omega) only [vm, ite_true, ite_false, eq_self, reduceIte, Nat.reduceEqDiff, Option.map, vst, List.length_cons, List.length_nil, List.set_cons_zero, List.set_cons_succ, List.map_cons, List.map_nil, Option.map_some, Option.bind_some, Nat.reduceAdd, Nat.reduceLT, Nat.reduceLeDiff, Nat.add_zero, and_self, k_ne, Nat.add_left_cancel_iff, ne_eq, Int.reduceEq, Int.reduceLT, Int.reduceLE, List.cons_append, List.nil_append, Nat.reduceDiv, Nat.reduceMul, Int.reduceToNat, Int.reduceAdd, Int.cast_ofNat_Int] | refine And.intro (by omega) ?_))
  refine s_call (read_spec na ta a ea (c + 4) ha hea) (by simp (disch := omega) only [vm, ite_true, ite_false, eq_self, reduceIte, Nat.reduceEqDiff, Option.map, vst, List.length_cons, List.length_nil, List.set_cons_zero, List.set_cons_succ, List.map_cons, List.map_nil, Option.map_some, Option.bind_some, Nat.reduceAdd, Nat.reduceLT, Nat.reduceLeDiff, Nat.add_zero, and_self, k_ne, Nat.add_left_cancel_iff, ne_eq, Int.reduceEq, Int.reduceLT, Int.reduceLE, List.cons_append, List.nil_append, Nat.reduceDiv, Nat.reduceMul, Int.reduceToNat, Int.reduceAdd, Int.cast_ofNat_Int]) ?_
  rintro v c1 hc1 ⟨tx, rfl, htx⟩
  (repeat (first | refine v_reg ?_ | refine v_last ?_ | refine vwp_seq ?_ | refine vwp_block ?_ | refine vwp_skip ?_ | refine vwp_exit ?_ | refine vwp_ret ?_ | refine v_cond ?_ | simp (disch := omega) only [vm, ite_true, ite_false, eq_self, reduceIte, Nat.reduceEqDiff, Option.map, vst, List.length_cons, List.length_nil, List.set_cons_zero, List.set_cons_succ, List.map_cons, List.map_nil, Option.map_some, Option.bind_some, Nat.reduceAdd, Nat.reduceLT, Nat.reduceLeDiff, Nat.add_zero, and_self, k_ne, Nat.add_left_cancel_iff, ne_eq, Int.reduceEq, Int.reduceLT, Int.reduceLE, List.cons_append, List.nil_append, Nat.reduceDiv, Nat.reduceMul, Int.reduceToNat, Int.reduceAdd, Int.cast_ofNat_Int] | refine And.intro (by omega) ?_))
  refine s_call (read_spec nb tb b eb (c1 + 1) hb heb) (by simp (disch := omega) only [vm, ite_true, ite_false, eq_self, reduceIte, Nat.reduceEqDiff, Option.map, vst, List.length_cons, List.length_nil, List.set_cons_zero, List.set_cons_succ, List.map_cons, List.map_nil, Option.map_some, Option.bind_some, Nat.reduceAdd, Nat.reduceLT, Nat.reduceLeDiff, Nat.add_zero, and_self, k_ne, Nat.add_left_cancel_iff, ne_eq, Int.reduceEq, Int.reduceLT, Int.reduceLE, List.cons_append, List.nil_append, Nat.reduceDiv, Nat.reduceMul, Int.reduceToNat, Int.reduceAdd, Int.cast_ofNat_Int]) ?_
  rintro v c2 hc2 ⟨ty, rfl, hty⟩
  (repeat (first | refine v_reg ?_ | refine v_last ?_ | refine vwp_seq ?_ | refine vwp_block ?_ | refine vwp_skip ?_ | refine vwp_exit ?_ | refine vwp_ret ?_ | refine v_cond ?_ | simp (disch := omega) only [vm, ite_true, ite_false, eq_self, reduceIte, Nat.reduceEqDiff, Option.map, vst, List.length_cons, List.length_nil, List.set_cons_zero, List.set_cons_succ, List.map_cons, List.map_nil, Option.map_some, Option.bind_some, Nat.reduceAdd, Nat.reduceLT, Nat.reduceLeDiff, Nat.add_zero, and_self, k_ne, Nat.add_left_cancel_iff, ne_eq, Int.reduceEq, Int.reduceLT, Int.reduceLE, List.cons_append, List.nil_append, Nat.reduceDiv, Nat.reduceMul, Int.reduceToNat, Int.reduceAdd, Int.cast_ofNat_Int] | refine And.intro (by omega) ?_))
  exact ⟨tx, ty, c1, by omega, by omega, rfl, htx.mono (by omega) (by omega), hty.mono (by omega) (by omega)⟩
theorem two_bad (na nb : Bool) (ta tb : Tok) (a b : List Nat) (ea eb : Int) (c : Nat) (ha : Arg a) (h : ¬ fitE ea ∨ ¬ fitE eb) :
    VSpec Tryz.prog F.dyadic_two c [raV na ta a ea, raV nb tb b eb] (fun r _ => ∃ x y, r = .tup [x, y, iv 80] ∧ (∃ n t l e, x = raV n t l e) ∧ (∃ n t l e, y = raV n t l e)) := by
  refine spec_mk hm E.dyadic_two B.dyadic_two K.dyadic_two Q.dyadic_two (by rw [N.dyadic_two]; simp) ?_
  unfold C.dyadic_two R.dyadic_two
  by_cases hea : fitE ea
  · have heb := h.resolve_left (fun q => q hea)
    (repeat (first | refine v_reg ?_ | refine v_last ?_ | refine vwp_seq ?_ | refine vwp_block ?_ | refine vwp_skip ?_ | refine vwp_exit ?_ | refine vwp_ret ?_ | refine v_cond ?_ | simp (disch := omega) only [vm, ite_true, ite_false, eq_self, reduceIte, Nat.reduceEqDiff, Option.map, vst, List.length_cons, List.length_nil, List.set_cons_zero, List.set_cons_succ, List.map_cons, List.map_nil, Option.map_some, Option.bind_some, Nat.reduceAdd, Nat.reduceLT, Nat.reduceLeDiff, Nat.add_zero, and_self, k_ne, Nat.add_left_cancel_iff, ne_eq, Int.reduceEq, Int.reduceLT, Int.reduceLE, List.cons_append, List.nil_append, Nat.reduceDiv, Nat.reduceMul, Int.reduceToNat, Int.reduceAdd, Int.cast_ofNat_Int] | refine And.intro (by omega) ?_))
    refine s_call (read_spec na ta a ea (c + 4) ha hea) (by simp (disch := omega) only [vm, ite_true, ite_false, eq_self, reduceIte, Nat.reduceEqDiff, Option.map, vst, List.length_cons, List.length_nil, List.set_cons_zero, List.set_cons_succ, List.map_cons, List.map_nil, Option.map_some, Option.bind_some, Nat.reduceAdd, Nat.reduceLT, Nat.reduceLeDiff, Nat.add_zero, and_self, k_ne, Nat.add_left_cancel_iff, ne_eq, Int.reduceEq, Int.reduceLT, Int.reduceLE, List.cons_append, List.nil_append, Nat.reduceDiv, Nat.reduceMul, Int.reduceToNat, Int.reduceAdd, Int.cast_ofNat_Int]) ?_
    rintro v c1 hc1 ⟨tx, rfl, htx⟩
    (repeat (first | refine v_reg ?_ | refine v_last ?_ | refine vwp_seq ?_ | refine vwp_block ?_ | refine vwp_skip ?_ | refine vwp_exit ?_ | refine vwp_ret ?_ | refine v_cond ?_ | simp (disch := omega) only [vm, ite_true, ite_false, eq_self, reduceIte, Nat.reduceEqDiff, Option.map, vst, List.length_cons, List.length_nil, List.set_cons_zero, List.set_cons_succ, List.map_cons, List.map_nil, Option.map_some, Option.bind_some, Nat.reduceAdd, Nat.reduceLT, Nat.reduceLeDiff, Nat.add_zero, and_self, k_ne, Nat.add_left_cancel_iff, ne_eq, Int.reduceEq, Int.reduceLT, Int.reduceLE, List.cons_append, List.nil_append, Nat.reduceDiv, Nat.reduceMul, Int.reduceToNat, Int.reduceAdd, Int.cast_ofNat_Int] | refine And.intro (by omega) ?_))
    refine s_call (read_bad nb tb b eb (c1 + 1) heb) (by simp (disch := omega) only [vm, ite_true, ite_false, eq_self, reduceIte, Nat.reduceEqDiff, Option.map, vst, List.length_cons, List.length_nil, List.set_cons_zero, List.set_cons_succ, List.map_cons, List.map_nil, Option.map_some, Option.bind_some, Nat.reduceAdd, Nat.reduceLT, Nat.reduceLeDiff, Nat.add_zero, and_self, k_ne, Nat.add_left_cancel_iff, ne_eq, Int.reduceEq, Int.reduceLT, Int.reduceLE, List.cons_append, List.nil_append, Nat.reduceDiv, Nat.reduceMul, Int.reduceToNat, Int.reduceAdd, Int.cast_ofNat_Int]) ?_
    rintro v c2 hc2 rfl
    (repeat (first | refine v_reg ?_ | refine v_last ?_ | refine vwp_seq ?_ | refine vwp_block ?_ | refine vwp_skip ?_ | refine vwp_exit ?_ | refine vwp_ret ?_ | refine v_cond ?_ | simp (disch := omega) only [vm, ite_true, ite_false, eq_self, reduceIte, Nat.reduceEqDiff, Option.map, vst, List.length_cons, List.length_nil, List.set_cons_zero, List.set_cons_succ, List.map_cons, List.map_nil, Option.map_some, Option.bind_some, Nat.reduceAdd, Nat.reduceLT, Nat.reduceLeDiff, Nat.add_zero, and_self, k_ne, Nat.add_left_cancel_iff, ne_eq, Int.reduceEq, Int.reduceLT, Int.reduceLE, List.cons_append, List.nil_append, Nat.reduceDiv, Nat.reduceMul, Int.reduceToNat, Int.reduceAdd, Int.cast_ofNat_Int] | refine And.intro (by omega) ?_))
    exact ⟨_, _, rfl, ⟨_, _, _, _, rfl⟩, ⟨_, _, _, _, rfl⟩⟩
  · (repeat (first | refine v_reg ?_ | refine v_last ?_ | refine vwp_seq ?_ | refine vwp_block ?_ | refine vwp_skip ?_ | refine vwp_exit ?_ | refine vwp_ret ?_ | refine v_cond ?_ | simp (disch := omega) only [vm, ite_true, ite_false, eq_self, reduceIte, Nat.reduceEqDiff, Option.map, vst, List.length_cons, List.length_nil, List.set_cons_zero, List.set_cons_succ, List.map_cons, List.map_nil, Option.map_some, Option.bind_some, Nat.reduceAdd, Nat.reduceLT, Nat.reduceLeDiff, Nat.add_zero, and_self, k_ne, Nat.add_left_cancel_iff, ne_eq, Int.reduceEq, Int.reduceLT, Int.reduceLE, List.cons_append, List.nil_append, Nat.reduceDiv, Nat.reduceMul, Int.reduceToNat, Int.reduceAdd, Int.cast_ofNat_Int] | refine And.intro (by omega) ?_))
    refine s_call (read_bad na ta a ea (c + 4) hea) (by simp (disch := omega) only [vm, ite_true, ite_false, eq_self, reduceIte, Nat.reduceEqDiff, Option.map, vst, List.length_cons, List.length_nil, List.set_cons_zero, List.set_cons_succ, List.map_cons, List.map_nil, Option.map_some, Option.bind_some, Nat.reduceAdd, Nat.reduceLT, Nat.reduceLeDiff, Nat.add_zero, and_self, k_ne, Nat.add_left_cancel_iff, ne_eq, Int.reduceEq, Int.reduceLT, Int.reduceLE, List.cons_append, List.nil_append, Nat.reduceDiv, Nat.reduceMul, Int.reduceToNat, Int.reduceAdd, Int.cast_ofNat_Int]) ?_
    rintro v c1 hc1 rfl
    (repeat (first | refine v_reg ?_ | refine v_last ?_ | refine vwp_seq ?_ | refine vwp_block ?_ | refine vwp_skip ?_ | refine vwp_exit ?_ | refine vwp_ret ?_ | refine v_cond ?_ | simp (disch := omega) only [vm, ite_true, ite_false, eq_self, reduceIte, Nat.reduceEqDiff, Option.map, vst, List.length_cons, List.length_nil, List.set_cons_zero, List.set_cons_succ, List.map_cons, List.map_nil, Option.map_some, Option.bind_some, Nat.reduceAdd, Nat.reduceLT, Nat.reduceLeDiff, Nat.add_zero, and_self, k_ne, Nat.add_left_cancel_iff, ne_eq, Int.reduceEq, Int.reduceLT, Int.reduceLE, List.cons_append, List.nil_append, Nat.reduceDiv, Nat.reduceMul, Int.reduceToNat, Int.reduceAdd, Int.cast_ofNat_Int] | refine And.intro (by omega) ?_))
    exact ⟨_, _, rfl, ⟨_, _, _, _, rfl⟩, ⟨_, _, _, _, rfl⟩⟩

structure Num (d : Dy) : Prop where
  ok : d.Ok
  bits : bl d.m ≤ 67108864
  lo : -2199023255552 ≤ d.e
  hi : d.e ≤ 2199023255552
theorem Num.arg {d : Dy} (h : Num d) : Arg (digs 18446744073709551616 d.m) := arg_digs h.bits
theorem num_of {neg : Bool} {l : List Nat} {e : Int} (hl : Arg l) (he : fitE e) : Num (dyOf neg (val 18446744073709551616 l) e) := by
  have h1 := dyOf_e (neg := neg) (n := val 18446744073709551616 l) (e := e)
  have h2 := hl.tz
  unfold fitE at he
  refine ⟨dyOf_ok _ _ _, Nat.le_trans dyOf_bl hl.bl, ?_, ?_⟩ <;> (rw [h1]; split <;> omega)

theorem top_spec (t : Tok) (x : Dy) (c : Nat) (hx : Num x) : VSpec Tryz.prog F.dyadic_number_top c [dyV t x] (fun r _ => r = iv x.top) := by
  refine spec_mk hm E.dyadic_number_top B.dyadic_number_top K.dyadic_number_top Q.dyadic_number_top (by rw [N.dyadic_number_top]; simp) ?_
  unfold C.dyadic_number_top R.dyadic_number_top
  have h1 := hx.lo
  have h2 := hx.hi
  have h3 := hx.bits
  have ha := hx.arg
  have hlen := ha.len
  (repeat (first | refine v_reg ?_ | refine v_last ?_ | refine vwp_seq ?_ | refine vwp_block ?_ | refine vwp_skip ?_ | refine vwp_exit ?_ | refine vwp_ret ?_ | refine v_cond ?_ | simp (disch := omega) only [vm, ite_true, ite_false, eq_self, reduceIte, Nat.reduceEqDiff, Option.map, vst, List.length_cons, List.length_nil, List.set_cons_zero, List.set_cons_succ, List.map_cons, List.map_nil, Option.map_some, Option.bind_some, Nat.reduceAdd, Nat.reduceLT, Nat.reduceLeDiff, Nat.add_zero, and_self, k_ne, Nat.add_left_cancel_iff, ne_eq, Int.reduceEq, Int.reduceLT, Int.reduceLE, List.cons_append, List.nil_append, Nat.reduceDiv, Nat.reduceMul, Int.reduceToNat, Int.reduceAdd, Int.cast_ofNat_Int] | refine And.intro (by omega) ?_))
  refine s_call (plen_spec x.neg t (digs 18446744073709551616 x.m) (c + 1) ha.lim (by omega)) (by simp (disch := omega) only [vm, ite_true, ite_false, eq_self, reduceIte, Nat.reduceEqDiff, Option.map, vst, List.length_cons, List.length_nil, List.set_cons_zero, List.set_cons_succ, List.map_cons, List.map_nil, Option.map_some, Option.bind_some, Nat.reduceAdd, Nat.reduceLT, Nat.reduceLeDiff, Nat.add_zero, and_self, k_ne, Nat.add_left_cancel_iff, ne_eq, Int.reduceEq, Int.reduceLT, Int.reduceLE, List.cons_append, List.nil_append, Nat.reduceDiv, Nat.reduceMul, Int.reduceToNat, Int.reduceAdd, Int.cast_ofNat_Int]) ?_
  rintro v c1 hc1 rfl
  rw [val_digs two64]
  (repeat (first | refine v_reg ?_ | refine v_last ?_ | refine vwp_seq ?_ | refine vwp_block ?_ | refine vwp_skip ?_ | refine vwp_exit ?_ | refine vwp_ret ?_ | refine v_cond ?_ | simp (disch := omega) only [vm, ite_true, ite_false, eq_self, reduceIte, Nat.reduceEqDiff, Option.map, vst, List.length_cons, List.length_nil, List.set_cons_zero, List.set_cons_succ, List.map_cons, List.map_nil, Option.map_some, Option.bind_some, Nat.reduceAdd, Nat.reduceLT, Nat.reduceLeDiff, Nat.add_zero, and_self, k_ne, Nat.add_left_cancel_iff, ne_eq, Int.reduceEq, Int.reduceLT, Int.reduceLE, List.cons_append, List.nil_append, Nat.reduceDiv, Nat.reduceMul, Int.reduceToNat, Int.reduceAdd, Int.cast_ofNat_Int] | refine And.intro (by omega) ?_))
  (first | omega | rfl | ((repeat' apply And.intro) <;> first | rfl | omega | assumption))

theorem compare_spec' (tx ty : Tok) (x y : Dy) (c : Nat) (hx : Num x) (hy : Num y) : VSpec Tryz.prog F.dyadic_compare c [dyV tx x, dyV ty y] (fun r _ => r = iv (cmpD x y)) := by
  refine spec_mk hm E.dyadic_compare B.dyadic_compare K.dyadic_compare Q.dyadic_compare (by rw [N.dyadic_compare]; simp) ?_
  unfold C.dyadic_compare R.dyadic_compare
  have hxa := hx.arg
  have hya := hy.arg
  have hxl := hxa.len
  have hyl := hya.len
  have x1 := hx.lo
  have x2 := hx.hi
  have y1 := hy.lo
  have y2 := hy.hi
  (repeat (first | refine v_reg ?_ | refine v_last ?_ | refine vwp_seq ?_ | refine vwp_block ?_ | refine vwp_skip ?_ | refine vwp_exit ?_ | refine vwp_ret ?_ | refine v_cond ?_ | simp (disch := omega) only [vm, ite_true, ite_false, eq_self, reduceIte, Nat.reduceEqDiff, Option.map, vst, List.length_cons, List.length_nil, List.set_cons_zero, List.set_cons_succ, List.map_cons, List.map_nil, Option.map_some, Option.bind_some, Nat.reduceAdd, Nat.reduceLT, Nat.reduceLeDiff, Nat.add_zero, and_self, k_ne, Nat.add_left_cancel_iff, ne_eq, Int.reduceEq, Int.reduceLT, Int.reduceLE, List.cons_append, List.nil_append, Nat.reduceDiv, Nat.reduceMul, Int.reduceToNat, Int.reduceAdd, Int.cast_ofNat_Int] | refine And.intro (by omega) ?_))
  refine s_call (psign_spec x.neg tx (digs 18446744073709551616 x.m) (c + 2) hxa.lim (by omega)) (by simp (disch := omega) only [vm, ite_true, ite_false, eq_self, reduceIte, Nat.reduceEqDiff, Option.map, vst, List.length_cons, List.length_nil, List.set_cons_zero, List.set_cons_succ, List.map_cons, List.map_nil, Option.map_some, Option.bind_some, Nat.reduceAdd, Nat.reduceLT, Nat.reduceLeDiff, Nat.add_zero, and_self, k_ne, Nat.add_left_cancel_iff, ne_eq, Int.reduceEq, Int.reduceLT, Int.reduceLE, List.cons_append, List.nil_append, Nat.reduceDiv, Nat.reduceMul, Int.reduceToNat, Int.reduceAdd, Int.cast_ofNat_Int]) ?_
  rintro v c1 hc1 rfl
  (repeat (first | refine v_reg ?_ | refine v_last ?_ | refine vwp_seq ?_ | refine vwp_block ?_ | refine vwp_skip ?_ | refine vwp_exit ?_ | refine vwp_ret ?_ | refine v_cond ?_ | simp (disch := omega) only [vm, ite_true, ite_false, eq_self, reduceIte, Nat.reduceEqDiff, Option.map, vst, List.length_cons, List.length_nil, List.set_cons_zero, List.set_cons_succ, List.map_cons, List.map_nil, Option.map_some, Option.bind_some, Nat.reduceAdd, Nat.reduceLT, Nat.reduceLeDiff, Nat.add_zero, and_self, k_ne, Nat.add_left_cancel_iff, ne_eq, Int.reduceEq, Int.reduceLT, Int.reduceLE, List.cons_append, List.nil_append, Nat.reduceDiv, Nat.reduceMul, Int.reduceToNat, Int.reduceAdd, Int.cast_ofNat_Int] | refine And.intro (by omega) ?_))
  refine s_call (psign_spec y.neg ty (digs 18446744073709551616 y.m) c1 hya.lim (by omega)) (by simp (disch := omega) only [vm, ite_true, ite_false, eq_self, reduceIte, Nat.reduceEqDiff, Option.map, vst, List.length_cons, List.length_nil, List.set_cons_zero, List.set_cons_succ, List.map_cons, List.map_nil, Option.map_some, Option.bind_some, Nat.reduceAdd, Nat.reduceLT, Nat.reduceLeDiff, Nat.add_zero, and_self, k_ne, Nat.add_left_cancel_iff, ne_eq, Int.reduceEq, Int.reduceLT, Int.reduceLE, List.cons_append, List.nil_append, Nat.reduceDiv, Nat.reduceMul, Int.reduceToNat, Int.reduceAdd, Int.cast_ofNat_Int]) ?_
  rintro v c2 hc2 rfl
  rw [val_digs two64, val_digs two64, sgW_dy, sgW_dy]
  by_cases g1 : x.sg < y.sg
  · have ec : cmpD x y = -1 := by unfold cmpD; rw [if_pos g1]
    (repeat (first | refine v_reg ?_ | refine v_last ?_ | refine vwp_seq ?_ | refine vwp_block ?_ | refine vwp_skip ?_ | refine vwp_exit ?_ | refine vwp_ret ?_ | refine v_cond ?_ | simp (disch := omega) only [vm, ite_true, ite_false, eq_self, reduceIte, Nat.reduceEqDiff, Option.map, vst, List.length_cons, List.length_nil, List.set_cons_zero, List.set_cons_succ, List.map_cons, List.map_nil, Option.map_some, Option.bind_some, Nat.reduceAdd, Nat.reduceLT, Nat.reduceLeDiff, Nat.add_zero, and_self, k_ne, Nat.add_left_cancel_iff, ne_eq, Int.reduceEq, Int.reduceLT, Int.reduceLE, List.cons_append, List.nil_append, Nat.reduceDiv, Nat.reduceMul, Int.reduceToNat, Int.reduceAdd, Int.cast_ofNat_Int, g1] | refine And.intro (by omega) ?_))
    rw [ec]
  by_cases g2 : y.sg < x.sg
  · have ec : cmpD x y = 1 := by unfold cmpD; rw [if_neg g1, if_pos g2]
    (repeat (first | refine v_reg ?_ | refine v_last ?_ | refine vwp_seq ?_ | refine vwp_block ?_ | refine vwp_skip ?_ | refine vwp_exit ?_ | refine vwp_ret ?_ | refine v_cond ?_ | simp (disch := omega) only [vm, ite_true, ite_false, eq_self, reduceIte, Nat.reduceEqDiff, Option.map, vst, List.length_cons, List.length_nil, List.set_cons_zero, List.set_cons_succ, List.map_cons, List.map_nil, Option.map_some, Option.bind_some, Nat.reduceAdd, Nat.reduceLT, Nat.reduceLeDiff, Nat.add_zero, and_self, k_ne, Nat.add_left_cancel_iff, ne_eq, Int.reduceEq, Int.reduceLT, Int.reduceLE, List.cons_append, List.nil_append, Nat.reduceDiv, Nat.reduceMul, Int.reduceToNat, Int.reduceAdd, Int.cast_ofNat_Int, g1, g2] | refine And.intro (by omega) ?_))
    rw [ec]
  by_cases g3 : x.sg = 0
  · have ec : cmpD x y = 0 := by unfold cmpD; rw [if_neg g1, if_neg g2, if_pos g3]
    rw [g3] at g1 g2
    (repeat (first | refine v_reg ?_ | refine v_last ?_ | refine vwp_seq ?_ | refine vwp_block ?_ | refine vwp_skip ?_ | refine vwp_exit ?_ | refine vwp_ret ?_ | refine v_cond ?_ | simp (disch := omega) only [vm, ite_true, ite_false, eq_self, reduceIte, Nat.reduceEqDiff, Option.map, vst, List.length_cons, List.length_nil, List.set_cons_zero, List.set_cons_succ, List.map_cons, List.map_nil, Option.map_some, Option.bind_some, Nat.reduceAdd, Nat.reduceLT, Nat.reduceLeDiff, Nat.add_zero, and_self, k_ne, Nat.add_left_cancel_iff, ne_eq, Int.reduceEq, Int.reduceLT, Int.reduceLE, List.cons_append, List.nil_append, Nat.reduceDiv, Nat.reduceMul, Int.reduceToNat, Int.reduceAdd, Int.cast_ofNat_Int, g1, g2, g3] | refine And.intro (by omega) ?_))
    rw [ec]
  have ec : cmpD x y = if x.top < y.top then -x.sg else if y.top < x.top then x.sg else x.sg * cmpI (x.m * 2 ^ (x.e - y.e).toNat) (y.m * 2 ^ (y.e - x.e).toNat) := by
    unfold cmpD; rw [if_neg g1, if_neg g2, if_neg g3]
  have hs : x.sg = 1 ∨ x.sg = -1 := by rcases sg_cases x with ⟨_, h⟩ | ⟨_, _, h⟩ | ⟨_, _, h⟩ <;> omega
  have hxm : x.m ≠ 0 := fun e => g3 (by unfold Dy.sg; rw [if_pos e])
  have hym : y.m ≠ 0 := fun e => by
    have : y.sg = 0 := by unfold Dy.sg; rw [if_pos e]
    omega
  have bx := bl_pos (Nat.pos_of_ne_zero hxm)
  have by' := bl_pos (Nat.pos_of_ne_zero hym)
  have bx2 := hx.bits
  have by2 := hy.bits
  generalize cmpD x y = R at *
  generalize x.sg = s at *
  (repeat (first | refine v_reg ?_ | refine v_last ?_ | refine vwp_seq ?_ | refine vwp_block ?_ | refine vwp_skip ?_ | refine vwp_exit ?_ | refine vwp_ret ?_ | refine v_cond ?_ | simp (disch := omega) only [vm, ite_true, ite_false, eq_self, reduceIte, Nat.reduceEqDiff, Option.map, vst, List.length_cons, List.length_nil, List.set_cons_zero, List.set_cons_succ, List.map_cons, List.map_nil, Option.map_some, Option.bind_some, Nat.reduceAdd, Nat.reduceLT, Nat.reduceLeDiff, Nat.add_zero, and_self, k_ne, Nat.add_left_cancel_iff, ne_eq, Int.reduceEq, Int.reduceLT, Int.reduceLE, List.cons_append, List.nil_append, Nat.reduceDiv, Nat.reduceMul, Int.reduceToNat, Int.reduceAdd, Int.cast_ofNat_Int, g1, g2, g3] | refine And.intro (by omega) ?_))
  refine s_call (top_spec tx x c2 hx) (by simp (disch := omega) only [vm, ite_true, ite_false, eq_self, reduceIte, Nat.reduceEqDiff, Option.map, vst, List.length_cons, List.length_nil, List.set_cons_zero, List.set_cons_succ, List.map_cons, List.map_nil, Option.map_some, Option.bind_some, Nat.reduceAdd, Nat.reduceLT, Nat.reduceLeDiff, Nat.add_zero, and_self, k_ne, Nat.add_left_cancel_iff, ne_eq, Int.reduceEq, Int.reduceLT, Int.reduceLE, List.cons_append, List.nil_append, Nat.reduceDiv, Nat.reduceMul, Int.reduceToNat, Int.reduceAdd, Int.cast_ofNat_Int]) ?_
  rintro v c3 hc3 rfl
  (repeat (first | refine v_reg ?_ | refine v_last ?_ | refine vwp_seq ?_ | refine vwp_block ?_ | refine vwp_skip ?_ | refine vwp_exit ?_ | refine vwp_ret ?_ | refine v_cond ?_ | simp (disch := omega) only [vm, ite_true, ite_false, eq_self, reduceIte, Nat.reduceEqDiff, Option.map, vst, List.length_cons, List.length_nil, List.set_cons_zero, List.set_cons_succ, List.map_cons, List.map_nil, Option.map_some, Option.bind_some, Nat.reduceAdd, Nat.reduceLT, Nat.reduceLeDiff, Nat.add_zero, and_self, k_ne, Nat.add_left_cancel_iff, ne_eq, Int.reduceEq, Int.reduceLT, Int.reduceLE, List.cons_append, List.nil_append, Nat.reduceDiv, Nat.reduceMul, Int.reduceToNat, Int.reduceAdd, Int.cast_ofNat_Int] | refine And.intro (by omega) ?_))
  refine s_call (top_spec ty y c3 hy) (by simp (disch := omega) only [vm, ite_true, ite_false, eq_self, reduceIte, Nat.reduceEqDiff, Option.map, vst, List.length_cons, List.length_nil, List.set_cons_zero, List.set_cons_succ, List.map_cons, List.map_nil, Option.map_some, Option.bind_some, Nat.reduceAdd, Nat.reduceLT, Nat.reduceLeDiff, Nat.add_zero, and_self, k_ne, Nat.add_left_cancel_iff, ne_eq, Int.reduceEq, Int.reduceLT, Int.reduceLE, List.cons_append, List.nil_append, Nat.reduceDiv, Nat.reduceMul, Int.reduceToNat, Int.reduceAdd, Int.cast_ofNat_Int]) ?_
  rintro v c4 hc4 rfl
  by_cases g4 : x.top = y.top
  · have e4 : x.e + (bl x.m : Int) = y.e + (bl y.m : Int) := by unfold Dy.top at g4; omega
    rw [if_neg (by omega), if_neg (by omega)] at ec
    by_cases g5 : y.e < x.e
    · obtain ⟨k, hk⟩ : ∃ k : Nat, x.e - y.e = (k : Int) := ⟨(x.e - y.e).toNat, by omega⟩
      rw [show (x.e - y.e).toNat = k by omega, show (y.e - x.e).toNat = 0 by omega, Nat.pow_zero, Nat.mul_one] at ec
      (repeat (first | refine v_reg ?_ | refine v_last ?_ | refine vwp_seq ?_ | refine vwp_block ?_ | refine vwp_skip ?_ | refine vwp_exit ?_ | refine vwp_ret ?_ | refine v_cond ?_ | simp (disch := omega) only [vm, ite_true, ite_false, eq_self, reduceIte, Nat.reduceEqDiff, Option.map, vst, List.length_cons, List.length_nil, List.set_cons_zero, List.set_cons_succ, List.map_cons, List.map_nil, Option.map_some, Option.bind_some, Nat.reduceAdd, Nat.reduceLT, Nat.reduceLeDiff, Nat.add_zero, and_self, k_ne, Nat.add_left_cancel_iff, ne_eq, Int.reduceEq, Int.reduceLT, Int.reduceLE, List.cons_append, List.nil_append, Nat.reduceDiv, Nat.reduceMul, Int.reduceToNat, Int.reduceAdd, Int.cast_ofNat_Int, g4, g5, hk] | refine And.intro (by omega) ?_))
      refine s_call (left_fast tx (digs 18446744073709551616 x.m) k c4 hxa.lim (by omega) (by omega) (by rw [val_digs two64, bl_shl hxm]; omega)) (by simp (disch := omega) only [vm, ite_true, ite_false, eq_self, reduceIte, Nat.reduceEqDiff, Option.map, vst, List.length_cons, List.length_nil, List.set_cons_zero, List.set_cons_succ, List.map_cons, List.map_nil, Option.map_some, Option.bind_some, Nat.reduceAdd, Nat.reduceLT, Nat.reduceLeDiff, Nat.add_zero, and_self, k_ne, Nat.add_left_cancel_iff, ne_eq, Int.reduceEq, Int.reduceLT, Int.reduceLE, List.cons_append, List.nil_append, Nat.reduceDiv, Nat.reduceMul, Int.reduceToNat, Int.reduceAdd, Int.cast_ofNat_Int]) ?_
      rintro v c5 hc5 ⟨t5, rfl, _⟩
      rw [val_digs two64]
      have hlb := digs_len_bl (m := x.m * 2 ^ k) (k := 1048576) (by rw [bl_shl hxm]; omega)
      (repeat (first | refine v_reg ?_ | refine v_last ?_ | refine vwp_seq ?_ | refine vwp_block ?_ | refine vwp_skip ?_ | refine vwp_exit ?_ | refine vwp_ret ?_ | refine v_cond ?_ | simp (disch := omega) only [vm, ite_true, ite_false, eq_self, reduceIte, Nat.reduceEqDiff, Option.map, vst, List.length_cons, List.length_nil, List.set_cons_zero, List.set_cons_succ, List.map_cons, List.map_nil, Option.map_some, Option.bind_some, Nat.reduceAdd, Nat.reduceLT, Nat.reduceLeDiff, Nat.add_zero, and_self, k_ne, Nat.add_left_cancel_iff, ne_eq, Int.reduceEq, Int.reduceLT, Int.reduceLE, List.cons_append, List.nil_append, Nat.reduceDiv, Nat.reduceMul, Int.reduceToNat, Int.reduceAdd, Int.cast_ofNat_Int] | refine And.intro (by omega) ?_))
      refine s_call (compare_spec t5 ty (digs 18446744073709551616 (x.m * 2 ^ k)) (digs 18446744073709551616 y.m) c5 (lim_digs two64 _) hya.lim (by omega) (by omega)) (by simp (disch := omega) only [vm, ite_true, ite_false, eq_self, reduceIte, Nat.reduceEqDiff, Option.map, vst, List.length_cons, List.length_nil, List.set_cons_zero, List.set_cons_succ, List.map_cons, List.map_nil, Option.map_some, Option.bind_some, Nat.reduceAdd, Nat.reduceLT, Nat.reduceLeDiff, Nat.add_zero, and_self, k_ne, Nat.add_left_cancel_iff, ne_eq, Int.reduceEq, Int.reduceLT, Int.reduceLE, List.cons_append, List.nil_append, Nat.reduceDiv, Nat.reduceMul, Int.reduceToNat, Int.reduceAdd, Int.cast_ofNat_Int]) ?_
      rintro v c6 hc6 rfl
      rw [val_digs two64, val_digs two64]
      have hm3 := cmpI_cases (x.m * 2 ^ k) y.m
      generalize cmpI (x.m * 2 ^ k) y.m = q at *
      have hsq : -1 ≤ s * q ∧ s * q ≤ 1 := by
        rcases hs with rfl | rfl <;> omega
      (repeat (first | refine v_reg ?_ | refine v_last ?_ | refine vwp_seq ?_ | refine vwp_block ?_ | refine vwp_skip ?_ | refine vwp_exit ?_ | refine vwp_ret ?_ | refine v_cond ?_ | simp (disch := omega) only [vm, ite_true, ite_false, eq_self, reduceIte, Nat.reduceEqDiff, Option.map, vst, List.length_cons, List.length_nil, List.set_cons_zero, List.set_cons_succ, List.map_cons, List.map_nil, Option.map_some, Option.bind_some, Nat.reduceAdd, Nat.reduceLT, Nat.reduceLeDiff, Nat.add_zero, and_self, k_ne, Nat.add_left_cancel_iff, ne_eq, Int.reduceEq, Int.reduceLT, Int.reduceLE, List.cons_append, List.nil_append, Nat.reduceDiv, Nat.reduceMul, Int.reduceToNat, Int.reduceAdd, Int.cast_ofNat_Int] | refine And.intro (by omega) ?_))
      rw [ec]
    · obtain ⟨k, hk⟩ : ∃ k : Nat, y.e - x.e = (k : Int) := ⟨(y.e - x.e).toNat, by omega⟩
      rw [show (x.e - y.e).toNat = 0 by omega, show (y.e - x.e).toNat = k by omega, Nat.pow_zero, Nat.mul_one] at ec
      (repeat (first | refine v_reg ?_ | refine v_last ?_ | refine vwp_seq ?_ | refine vwp_block ?_ | refine vwp_skip ?_ | refine vwp_exit ?_ | refine vwp_ret ?_ | refine v_cond ?_ | simp (disch := omega) only [vm, ite_true, ite_false, eq_self, reduceIte, Nat.reduceEqDiff, Option.map, vst, List.length_cons, List.length_nil, List.set_cons_zero, List.set_cons_succ, List.map_cons, List.map_nil, Option.map_some, Option.bind_some, Nat.reduceAdd, Nat.reduceLT, Nat.reduceLeDiff, Nat.add_zero, and_self, k_ne, Nat.add_left_cancel_iff, ne_eq, Int.reduceEq, Int.reduceLT, Int.reduceLE, List.cons_append, List.nil_append, Nat.reduceDiv, Nat.reduceMul, Int.reduceToNat, Int.reduceAdd, Int.cast_ofNat_Int, g4, g5, hk] | refine And.intro (by omega) ?_))
      refine s_call (left_fast ty (digs 18446744073709551616 y.m) k c4 hya.lim (by omega) (by omega) (by rw [val_digs two64, bl_shl hym]; omega)) (by simp (disch := omega) only [vm, ite_true, ite_false, eq_self, reduceIte, Nat.reduceEqDiff, Option.map, vst, List.length_cons, List.length_nil, List.set_cons_zero, List.set_cons_succ, List.map_cons, List.map_nil, Option.map_some, Option.bind_some, Nat.reduceAdd, Nat.reduceLT, Nat.reduceLeDiff, Nat.add_zero, and_self, k_ne, Nat.add_left_cancel_iff, ne_eq, Int.reduceEq, Int.reduceLT, Int.reduceLE, List.cons_append, List.nil_append, Nat.reduceDiv, Nat.reduceMul, Int.reduceToNat, Int.reduceAdd, Int.cast_ofNat_Int]) ?_
      rintro v c5 hc5 ⟨t5, rfl, _⟩
      rw [val_digs two64]
      have hlb := digs_len_bl (m := y.m * 2 ^ k) (k := 1048576) (by rw [bl_shl hym]; omega)
      (repeat (first | refine v_reg ?_ | refine v_last ?_ | refine vwp_seq ?_ | refine vwp_block ?_ | refine vwp_skip ?_ | refine vwp_exit ?_ | refine vwp_ret ?_ | refine v_cond ?_ | simp (disch := omega) only [vm, ite_true, ite_false, eq_self, reduceIte, Nat.reduceEqDiff, Option.map, vst, List.length_cons, List.length_nil, List.set_cons_zero, List.set_cons_succ, List.map_cons, List.map_nil, Option.map_some, Option.bind_some, Nat.reduceAdd, Nat.reduceLT, Nat.reduceLeDiff, Nat.add_zero, and_self, k_ne, Nat.add_left_cancel_iff, ne_eq, Int.reduceEq, Int.reduceLT, Int.reduceLE, List.cons_append, List.nil_append, Nat.reduceDiv, Nat.reduceMul, Int.reduceToNat, Int.reduceAdd, Int.cast_ofNat_Int] | refine And.intro (by omega) ?_))
      refine s_call (compare_spec tx t5 (digs 18446744073709551616 x.m) (digs 18446744073709551616 (y.m * 2 ^ k)) c5 hxa.lim (lim_digs two64 _) (by omega) (by omega)) (by simp (disch := omega) only [vm, ite_true, ite_false, eq_self, reduceIte, Nat.reduceEqDiff, Option.map, vst, List.length_cons, List.length_nil, List.set_cons_zero, List.set_cons_succ, List.map_cons, List.map_nil, Option.map_some, Option.bind_some, Nat.reduceAdd, Nat.reduceLT, Nat.reduceLeDiff, Nat.add_zero, and_self, k_ne, Nat.add_left_cancel_iff, ne_eq, Int.reduceEq, Int.reduceLT, Int.reduceLE, List.cons_append, List.nil_append, Nat.reduceDiv, Nat.reduceMul, Int.reduceToNat, Int.reduceAdd, Int.cast_ofNat_Int]) ?_
      rintro v c6 hc6 rfl
      rw [val_digs two64, val_digs two64]
      have hm3 := cmpI_cases x.m (y.m * 2 ^ k)
      generalize cmpI x.m (y.m * 2 ^ k) = q at *
      have hsq : -1 ≤ s * q ∧ s * q ≤ 1 := by
        rcases hs with rfl | rfl <;> omega
      (repeat (first | refine v_reg ?_ | refine v_last ?_ | refine vwp_seq ?_ | refine vwp_block ?_ | refine vwp_skip ?_ | refine vwp_exit ?_ | refine vwp_ret ?_ | refine v_cond ?_ | simp (disch := omega) only [vm, ite_true, ite_false, eq_self, reduceIte, Nat.reduceEqDiff, Option.map, vst, List.length_cons, List.length_nil, List.set_cons_zero, List.set_cons_succ, List.map_cons, List.map_nil, Option.map_some, Option.bind_some, Nat.reduceAdd, Nat.reduceLT, Nat.reduceLeDiff, Nat.add_zero, and_self, k_ne, Nat.add_left_cancel_iff, ne_eq, Int.reduceEq, Int.reduceLT, Int.reduceLE, List.cons_append, List.nil_append, Nat.reduceDiv, Nat.reduceMul, Int.reduceToNat, Int.reduceAdd, Int.cast_ofNat_Int] | refine And.intro (by omega) ?_))
      rw [ec]
  · (repeat (first | refine v_reg ?_ | refine v_last ?_ | refine vwp_seq ?_ | refine vwp_block ?_ | refine vwp_skip ?_ | refine vwp_exit ?_ | refine vwp_ret ?_ | refine v_cond ?_ | simp (disch := omega) only [vm, ite_true, ite_false, eq_self, reduceIte, Nat.reduceEqDiff, Option.map, vst, List.length_cons, List.length_nil, List.set_cons_zero, List.set_cons_succ, List.map_cons, List.map_nil, Option.map_some, Option.bind_some, Nat.reduceAdd, Nat.reduceLT, Nat.reduceLeDiff, Nat.add_zero, and_self, k_ne, Nat.add_left_cancel_iff, ne_eq, Int.reduceEq, Int.reduceLT, Int.reduceLE, List.cons_append, List.nil_append, Nat.reduceDiv, Nat.reduceMul, Int.reduceToNat, Int.reduceAdd, Int.cast_ofNat_Int, g4] | refine And.intro (by omega) ?_))
    refine s_call (top_spec tx x c4 hx) (by simp (disch := omega) only [vm, ite_true, ite_false, eq_self, reduceIte, Nat.reduceEqDiff, Option.map, vst, List.length_cons, List.length_nil, List.set_cons_zero, List.set_cons_succ, List.map_cons, List.map_nil, Option.map_some, Option.bind_some, Nat.reduceAdd, Nat.reduceLT, Nat.reduceLeDiff, Nat.add_zero, and_self, k_ne, Nat.add_left_cancel_iff, ne_eq, Int.reduceEq, Int.reduceLT, Int.reduceLE, List.cons_append, List.nil_append, Nat.reduceDiv, Nat.reduceMul, Int.reduceToNat, Int.reduceAdd, Int.cast_ofNat_Int]) ?_
    rintro v c5 hc5 rfl
    (repeat (first | refine v_reg ?_ | refine v_last ?_ | refine vwp_seq ?_ | refine vwp_block ?_ | refine vwp_skip ?_ | refine vwp_exit ?_ | refine vwp_ret ?_ | refine v_cond ?_ | simp (disch := omega) only [vm, ite_true, ite_false, eq_self, reduceIte, Nat.reduceEqDiff, Option.map, vst, List.length_cons, List.length_nil, List.set_cons_zero, List.set_cons_succ, List.map_cons, List.map_nil, Option.map_some, Option.bind_some, Nat.reduceAdd, Nat.reduceLT, Nat.reduceLeDiff, Nat.add_zero, and_self, k_ne, Nat.add_left_cancel_iff, ne_eq, Int.reduceEq, Int.reduceLT, Int.reduceLE, List.cons_append, List.nil_append, Nat.reduceDiv, Nat.reduceMul, Int.reduceToNat, Int.reduceAdd, Int.cast_ofNat_Int] | refine And.intro (by omega) ?_))
    refine s_call (top_spec ty y c5 hy) (by simp (disch := omega) only [vm, ite_true, ite_false, eq_self, reduceIte, Nat.reduceEqDiff, Option.map, vst, List.length_cons, List.length_nil, List.set_cons_zero, List.set_cons_succ, List.map_cons, List.map_nil, Option.map_some, Option.bind_some, Nat.reduceAdd, Nat.reduceLT, Nat.reduceLeDiff, Nat.add_zero, and_self, k_ne, Nat.add_left_cancel_iff, ne_eq, Int.reduceEq, Int.reduceLT, Int.reduceLE, List.cons_append, List.nil_append, Nat.reduceDiv, Nat.reduceMul, Int.reduceToNat, Int.reduceAdd, Int.cast_ofNat_Int]) ?_
    rintro v c6 hc6 rfl
    by_cases g5 : x.top < y.top
    · rw [if_pos g5] at ec
      (repeat (first | refine v_reg ?_ | refine v_last ?_ | refine vwp_seq ?_ | refine vwp_block ?_ | refine vwp_skip ?_ | refine vwp_exit ?_ | refine vwp_ret ?_ | refine v_cond ?_ | simp (disch := omega) only [vm, ite_true, ite_false, eq_self, reduceIte, Nat.reduceEqDiff, Option.map, vst, List.length_cons, List.length_nil, List.set_cons_zero, List.set_cons_succ, List.map_cons, List.map_nil, Option.map_some, Option.bind_some, Nat.reduceAdd, Nat.reduceLT, Nat.reduceLeDiff, Nat.add_zero, and_self, k_ne, Nat.add_left_cancel_iff, ne_eq, Int.reduceEq, Int.reduceLT, Int.reduceLE, List.cons_append, List.nil_append, Nat.reduceDiv, Nat.reduceMul, Int.reduceToNat, Int.reduceAdd, Int.cast_ofNat_Int, g4, g5, n_neg'] | refine And.intro (by omega) ?_))
      rw [ec]
    · rw [if_neg g5, if_pos (by omega)] at ec
      (repeat (first | refine v_reg ?_ | refine v_last ?_ | refine vwp_seq ?_ | refine vwp_block ?_ | refine vwp_skip ?_ | refine vwp_exit ?_ | refine vwp_ret ?_ | refine v_cond ?_ | simp (disch := omega) only [vm, ite_true, ite_false, eq_self, reduceIte, Nat.reduceEqDiff, Option.map, vst, List.length_cons, List.length_nil, List.set_cons_zero, List.set_cons_succ, List.map_cons, List.map_nil, Option.map_some, Option.bind_some, Nat.reduceAdd, Nat.reduceLT, Nat.reduceLeDiff, Nat.add_zero, and_self, k_ne, Nat.add_left_cancel_iff, ne_eq, Int.reduceEq, Int.reduceLT, Int.reduceLE, List.cons_append, List.nil_append, Nat.reduceDiv, Nat.reduceMul, Int.reduceToNat, Int.reduceAdd, Int.cast_ofNat_Int, g4, g5] | refine And.intro (by omega) ?_))
      rw [ec]
end Go.Proofs.YtacodmnlnlbahaaGreatDoor
set_option linter.unusedSimpArgs false
set_option linter.unusedVariables false
set_option maxRecDepth 100000
set_option maxHeartbeats 8000000
namespace Go.Proofs.YtacodmnlnlbahaaGreatDoor
open Go.VM

structure RD where
  neg : Bool
  l : List Nat
  e : Int
def RD.d (a : RD) : Dy := dyOf a.neg (val 18446744073709551616 a.l) a.e
def RD.of (d : Dy) : RD := ⟨d.neg, digs 18446744073709551616 d.m, d.e⟩
abbrev rdV (t : Tok) (a : RD) : V := raV a.neg t a.l a.e
abbrev rsV (t u : Tok) (a b : RD) : V := .agg [bv a.neg, nats t a.l, iv a.e, bv b.neg, nats u b.l, iv b.e]
structure RD.Ok (a : RD) : Prop where
  arg : Arg a.l
  fit : fitE a.e
theorem RD.Ok.num {a : RD} (h : a.Ok) : Num a.d := num_of h.arg h.fit

theorem Compare_spec (ta tb : Tok) (a b : RD) (c : Nat) (ha : a.Ok) (hb : b.Ok) : VSpec Tryz.prog F.dyadic_Compare c [rdV ta a, rdV tb b] (fun r _ => r = .tup [iv (cmpD a.d b.d), iv 0]) := by
  refine spec_mk hm E.dyadic_Compare B.dyadic_Compare K.dyadic_Compare Q.dyadic_Compare (by rw [N.dyadic_Compare]; simp) ?_
  unfold C.dyadic_Compare R.dyadic_Compare
  (repeat (first | refine v_reg ?_ | refine v_last ?_ | refine vwp_seq ?_ | refine vwp_block ?_ | refine vwp_skip ?_ | refine vwp_exit ?_ | refine vwp_ret ?_ | refine v_cond ?_ | simp (disch := omega) only [vm, ite_true, ite_false, eq_self, reduceIte, Nat.reduceEqDiff, Option.map, vst, List.length_cons, List.length_nil, List.set_cons_zero, List.set_cons_succ, List.map_cons, List.map_nil, Option.map_some, Option.bind_some, Nat.reduceAdd, Nat.reduceLT, Nat.reduceLeDiff, Nat.add_zero, and_self, k_ne, Nat.add_left_cancel_iff, ne_eq, Int.reduceEq, Int.reduceLT, Int.reduceLE, List.cons_append, List.nil_append, Nat.reduceDiv, Nat.reduceMul, Int.reduceToNat, Int.reduceAdd, Int.cast_ofNat_Int] | refine And.intro (by omega) ?_))
  refine s_call (two_spec a.neg b.neg ta tb a.l b.l a.e b.e (c + 2) ha.arg hb.arg ha.fit hb.fit) (by simp (disch := omega) only [vm, ite_true, ite_false, eq_self, reduceIte, Nat.reduceEqDiff, Option.map, vst, List.length_cons, List.length_nil, List.set_cons_zero, List.set_cons_succ, List.map_cons, List.map_nil, Option.map_some, Option.bind_some, Nat.reduceAdd, Nat.reduceLT, Nat.reduceLeDiff, Nat.add_zero, and_self, k_ne, Nat.add_left_cancel_iff, ne_eq, Int.reduceEq, Int.reduceLT, Int.reduceLE, List.cons_append, List.nil_append, Nat.reduceDiv, Nat.reduceMul, Int.reduceToNat, Int.reduceAdd, Int.cast_ofNat_Int]) ?_
  rintro v c1 hc1 ⟨tx, ty, cm, h1, h2, rfl, _, _⟩
  (repeat (first | refine v_reg ?_ | refine v_last ?_ | refine vwp_seq ?_ | refine vwp_block ?_ | refine vwp_skip ?_ | refine vwp_exit ?_ | refine vwp_ret ?_ | refine v_cond ?_ | simp (disch := omega) only [vm, ite_true, ite_false, eq_self, reduceIte, Nat.reduceEqDiff, Option.map, vst, List.length_cons, List.length_nil, List.set_cons_zero, List.set_cons_succ, List.map_cons, List.map_nil, Option.map_some, Option.bind_some, Nat.reduceAdd, Nat.reduceLT, Nat.reduceLeDiff, Nat.add_zero, and_self, k_ne, Nat.add_left_cancel_iff, ne_eq, Int.reduceEq, Int.reduceLT, Int.reduceLE, List.cons_append, List.nil_append, Nat.reduceDiv, Nat.reduceMul, Int.reduceToNat, Int.reduceAdd, Int.cast_ofNat_Int] | refine And.intro (by omega) ?_))
  refine s_call (compare_spec' tx ty a.d b.d (c1 + 2) ha.num hb.num) (by simp (disch := omega) only [vm, ite_true, ite_false, eq_self, reduceIte, Nat.reduceEqDiff, Option.map, vst, List.length_cons, List.length_nil, List.set_cons_zero, List.set_cons_succ, List.map_cons, List.map_nil, Option.map_some, Option.bind_some, Nat.reduceAdd, Nat.reduceLT, Nat.reduceLeDiff, Nat.add_zero, and_self, k_ne, Nat.add_left_cancel_iff, ne_eq, Int.reduceEq, Int.reduceLT, Int.reduceLE, List.cons_append, List.nil_append, Nat.reduceDiv, Nat.reduceMul, Int.reduceToNat, Int.reduceAdd, Int.cast_ofNat_Int]; rfl) ?_
  rintro v c2 hc2 rfl
  (repeat (first | refine v_reg ?_ | refine v_last ?_ | refine vwp_seq ?_ | refine vwp_block ?_ | refine vwp_skip ?_ | refine vwp_exit ?_ | refine vwp_ret ?_ | refine v_cond ?_ | simp (disch := omega) only [vm, ite_true, ite_false, eq_self, reduceIte, Nat.reduceEqDiff, Option.map, vst, List.length_cons, List.length_nil, List.set_cons_zero, List.set_cons_succ, List.map_cons, List.map_nil, Option.map_some, Option.bind_some, Nat.reduceAdd, Nat.reduceLT, Nat.reduceLeDiff, Nat.add_zero, and_self, k_ne, Nat.add_left_cancel_iff, ne_eq, Int.reduceEq, Int.reduceLT, Int.reduceLE, List.cons_append, List.nil_append, Nat.reduceDiv, Nat.reduceMul, Int.reduceToNat, Int.reduceAdd, Int.cast_ofNat_Int] | refine And.intro (by omega) ?_))
  (first | omega | rfl | ((repeat' apply And.intro) <;> first | rfl | omega | assumption))
theorem Compare_bad (ta tb : Tok) (a b : RD) (c : Nat) (ha : Arg a.l) (h : ¬ fitE a.e ∨ ¬ fitE b.e) : VSpec Tryz.prog F.dyadic_Compare c [rdV ta a, rdV tb b] (fun r _ => r = .tup [iv 0, iv 80]) := by
  refine spec_mk hm E.dyadic_Compare B.dyadic_Compare K.dyadic_Compare Q.dyadic_Compare (by rw [N.dyadic_Compare]; simp) ?_
  unfold C.dyadic_Compare R.dyadic_Compare
  (repeat (first | refine v_reg ?_ | refine v_last ?_ | refine vwp_seq ?_ | refine vwp_block ?_ | refine vwp_skip ?_ | refine vwp_exit ?_ | refine vwp_ret ?_ | refine v_cond ?_ | simp (disch := omega) only [vm, ite_true, ite_false, eq_self, reduceIte, Nat.reduceEqDiff, Option.map, vst, List.length_cons, List.length_nil, List.set_cons_zero, List.set_cons_succ, List.map_cons, List.map_nil, Option.map_some, Option.bind_some, Nat.reduceAdd, Nat.reduceLT, Nat.reduceLeDiff, Nat.add_zero, and_self, k_ne, Nat.add_left_cancel_iff, ne_eq, Int.reduceEq, Int.reduceLT, Int.reduceLE, List.cons_append, List.nil_append, Nat.reduceDiv, Nat.reduceMul, Int.reduceToNat, Int.reduceAdd, Int.cast_ofNat_Int] | refine And.intro (by omega) ?_))
  refine s_call (two_bad a.neg b.neg ta tb a.l b.l a.e b.e (c + 2) ha h) (by simp (disch := omega) only [vm, ite_true, ite_false, eq_self, reduceIte, Nat.reduceEqDiff, Option.map, vst, List.length_cons, List.length_nil, List.set_cons_zero, List.set_cons_succ, List.map_cons, List.map_nil, Option.map_some, Option.bind_some, Nat.reduceAdd, Nat.reduceLT, Nat.reduceLeDiff, Nat.add_zero, and_self, k_ne, Nat.add_left_cancel_iff, ne_eq, Int.reduceEq, Int.reduceLT, Int.reduceLE, List.cons_append, List.nil_append, Nat.reduceDiv, Nat.reduceMul, Int.reduceToNat, Int.reduceAdd, Int.cast_ofNat_Int]) ?_
  rintro v c1 hc1 ⟨x, y, rfl, ⟨n1, t1, l1, e1, rfl⟩, ⟨n2, t2, l2, e2, rfl⟩⟩
  (repeat (first | refine v_reg ?_ | refine v_last ?_ | refine vwp_seq ?_ | refine vwp_block ?_ | refine vwp_skip ?_ | refine vwp_exit ?_ | refine vwp_ret ?_ | refine v_cond ?_ | simp (disch := omega) only [vm, ite_true, ite_false, eq_self, reduceIte, Nat.reduceEqDiff, Option.map, vst, List.length_cons, List.length_nil, List.set_cons_zero, List.set_cons_succ, List.map_cons, List.map_nil, Option.map_some, Option.bind_some, Nat.reduceAdd, Nat.reduceLT, Nat.reduceLeDiff, Nat.add_zero, and_self, k_ne, Nat.add_left_cancel_iff, ne_eq, Int.reduceEq, Int.reduceLT, Int.reduceLE, List.cons_append, List.nil_append, Nat.reduceDiv, Nat.reduceMul, Int.reduceToNat, Int.reduceAdd, Int.cast_ofNat_Int] | refine And.intro (by omega) ?_))
  (first | omega | rfl | ((repeat' apply And.intro) <;> first | rfl | omega | assumption))

def chkE (a b : RD) : Int := if fitE a.e ∧ fitE b.e then (if 0 < cmpD a.d b.d then 100 else 0) else 80
theorem check_spec (ta tb : Tok) (a b : RD) (c : Nat) (ha : Arg a.l) (hb : Arg b.l) : VSpec Tryz.prog F.span_check c [rsV ta tb a b] (fun r _ => r = iv (chkE a b)) := by
  refine spec_mk hm E.span_check B.span_check K.span_check Q.span_check (by rw [N.span_check]; simp) ?_
  unfold C.span_check R.span_check
  unfold chkE
  (repeat (first | refine v_reg ?_ | refine v_last ?_ | refine vwp_seq ?_ | refine vwp_block ?_ | refine vwp_skip ?_ | refine vwp_exit ?_ | refine vwp_ret ?_ | refine v_cond ?_ | simp (disch := omega) only [vm, ite_true, ite_false, eq_self, reduceIte, Nat.reduceEqDiff, Option.map, vst, List.length_cons, List.length_nil, List.set_cons_zero, List.set_cons_succ, List.map_cons, List.map_nil, Option.map_some, Option.bind_some, Nat.reduceAdd, Nat.reduceLT, Nat.reduceLeDiff, Nat.add_zero, and_self, k_ne, Nat.add_left_cancel_iff, ne_eq, Int.reduceEq, Int.reduceLT, Int.reduceLE, List.cons_append, List.nil_append, Nat.reduceDiv, Nat.reduceMul, Int.reduceToNat, Int.reduceAdd, Int.cast_ofNat_Int] | refine And.intro (by omega) ?_))
  by_cases h : fitE a.e ∧ fitE b.e
  · refine s_call (Compare_spec ta tb a b (c + 1) ⟨ha, h.1⟩ ⟨hb, h.2⟩) (by simp (disch := omega) only [vm, ite_true, ite_false, eq_self, reduceIte, Nat.reduceEqDiff, Option.map, vst, List.length_cons, List.length_nil, List.set_cons_zero, List.set_cons_succ, List.map_cons, List.map_nil, Option.map_some, Option.bind_some, Nat.reduceAdd, Nat.reduceLT, Nat.reduceLeDiff, Nat.add_zero, and_self, k_ne, Nat.add_left_cancel_iff, ne_eq, Int.reduceEq, Int.reduceLT, Int.reduceLE, List.cons_append, List.nil_append, Nat.reduceDiv, Nat.reduceMul, Int.reduceToNat, Int.reduceAdd, Int.cast_ofNat_Int]) ?_
    rintro v c1 hc1 rfl
    by_cases g : 0 < cmpD a.d b.d
    · (repeat (first | refine v_reg ?_ | refine v_last ?_ | refine vwp_seq ?_ | refine vwp_block ?_ | refine vwp_skip ?_ | refine vwp_exit ?_ | refine vwp_ret ?_ | refine v_cond ?_ | simp (disch := omega) only [vm, ite_true, ite_false, eq_self, reduceIte, Nat.reduceEqDiff, Option.map, vst, List.length_cons, List.length_nil, List.set_cons_zero, List.set_cons_succ, List.map_cons, List.map_nil, Option.map_some, Option.bind_some, Nat.reduceAdd, Nat.reduceLT, Nat.reduceLeDiff, Nat.add_zero, and_self, k_ne, Nat.add_left_cancel_iff, ne_eq, Int.reduceEq, Int.reduceLT, Int.reduceLE, List.cons_append, List.nil_append, Nat.reduceDiv, Nat.reduceMul, Int.reduceToNat, Int.reduceAdd, Int.cast_ofNat_Int, g, h] | refine And.intro (by omega) ?_))
      (first | omega | rfl | ((repeat' apply And.intro) <;> first | rfl | omega | assumption))
    · (repeat (first | refine v_reg ?_ | refine v_last ?_ | refine vwp_seq ?_ | refine vwp_block ?_ | refine vwp_skip ?_ | refine vwp_exit ?_ | refine vwp_ret ?_ | refine v_cond ?_ | simp (disch := omega) only [vm, ite_true, ite_false, eq_self, reduceIte, Nat.reduceEqDiff, Option.map, vst, List.length_cons, List.length_nil, List.set_cons_zero, List.set_cons_succ, List.map_cons, List.map_nil, Option.map_some, Option.bind_some, Nat.reduceAdd, Nat.reduceLT, Nat.reduceLeDiff, Nat.add_zero, and_self, k_ne, Nat.add_left_cancel_iff, ne_eq, Int.reduceEq, Int.reduceLT, Int.reduceLE, List.cons_append, List.nil_append, Nat.reduceDiv, Nat.reduceMul, Int.reduceToNat, Int.reduceAdd, Int.cast_ofNat_Int, g, h] | refine And.intro (by omega) ?_))
      (first | omega | rfl | ((repeat' apply And.intro) <;> first | rfl | omega | assumption))
  · refine s_call (Compare_bad ta tb a b (c + 1) ha (Classical.or_iff_not_imp_left.2 fun g q => h ⟨Classical.not_not.1 g, q⟩)) (by simp (disch := omega) only [vm, ite_true, ite_false, eq_self, reduceIte, Nat.reduceEqDiff, Option.map, vst, List.length_cons, List.length_nil, List.set_cons_zero, List.set_cons_succ, List.map_cons, List.map_nil, Option.map_some, Option.bind_some, Nat.reduceAdd, Nat.reduceLT, Nat.reduceLeDiff, Nat.add_zero, and_self, k_ne, Nat.add_left_cancel_iff, ne_eq, Int.reduceEq, Int.reduceLT, Int.reduceLE, List.cons_append, List.nil_append, Nat.reduceDiv, Nat.reduceMul, Int.reduceToNat, Int.reduceAdd, Int.cast_ofNat_Int]) ?_
    rintro v c1 hc1 rfl
    (repeat (first | refine v_reg ?_ | refine v_last ?_ | refine vwp_seq ?_ | refine vwp_block ?_ | refine vwp_skip ?_ | refine vwp_exit ?_ | refine vwp_ret ?_ | refine v_cond ?_ | simp (disch := omega) only [vm, ite_true, ite_false, eq_self, reduceIte, Nat.reduceEqDiff, Option.map, vst, List.length_cons, List.length_nil, List.set_cons_zero, List.set_cons_succ, List.map_cons, List.map_nil, Option.map_some, Option.bind_some, Nat.reduceAdd, Nat.reduceLT, Nat.reduceLeDiff, Nat.add_zero, and_self, k_ne, Nat.add_left_cancel_iff, ne_eq, Int.reduceEq, Int.reduceLT, Int.reduceLE, List.cons_append, List.nil_append, Nat.reduceDiv, Nat.reduceMul, Int.reduceToNat, Int.reduceAdd, Int.cast_ofNat_Int, h] | refine And.intro (by omega) ?_))
    (first | omega | rfl | ((repeat' apply And.intro) <;> first | rfl | omega | assumption))

theorem worst_spec (e f : Int) (c : Nat) : VSpec Tryz.prog F.span_worst c [iv e, iv f] (fun r _ => r = iv (worstE e f)) := by
  refine spec_mk hm E.span_worst B.span_worst K.span_worst Q.span_worst (by rw [N.span_worst]; simp) ?_
  unfold C.span_worst R.span_worst
  by_cases g1 : e = 3
  · have ew : worstE e f = 3 := by unfold worstE; rw [if_pos (.inl g1)]
    rw [ew]
    (repeat (first | refine v_reg ?_ | refine v_last ?_ | refine vwp_seq ?_ | refine vwp_block ?_ | refine vwp_skip ?_ | refine vwp_exit ?_ | refine vwp_ret ?_ | refine v_cond ?_ | simp only [vm, ite_true, ite_false, eq_self, reduceIte, Nat.reduceEqDiff, Option.map, g1] | refine And.intro (by omega) ?_))
    (first | omega | rfl | ((repeat' apply And.intro) <;> first | rfl | omega | assumption))
  by_cases g2 : f = 3
  · have ew : worstE e f = 3 := by unfold worstE; rw [if_pos (.inr g2)]
    rw [ew]
    (repeat (first | refine v_reg ?_ | refine v_last ?_ | refine vwp_seq ?_ | refine vwp_block ?_ | refine vwp_skip ?_ | refine vwp_exit ?_ | refine vwp_ret ?_ | refine v_cond ?_ | simp only [vm, ite_true, ite_false, eq_self, reduceIte, Nat.reduceEqDiff, Option.map, g1, g2] | refine And.intro (by omega) ?_))
    (first | omega | rfl | ((repeat' apply And.intro) <;> first | rfl | omega | assumption))
  by_cases g3 : e = 0
  · have ew : worstE e f = f := by unfold worstE; rw [if_neg (by omega), if_neg (by omega)]
    rw [ew]
    subst g3
    (repeat (first | refine v_reg ?_ | refine v_last ?_ | refine vwp_seq ?_ | refine vwp_block ?_ | refine vwp_skip ?_ | refine vwp_exit ?_ | refine vwp_ret ?_ | refine v_cond ?_ | simp (disch := omega) only [vm, ite_true, ite_false, eq_self, reduceIte, Nat.reduceEqDiff, Option.map, vst, List.length_cons, List.length_nil, List.set_cons_zero, List.set_cons_succ, List.map_cons, List.map_nil, Option.map_some, Option.bind_some, Nat.reduceAdd, Nat.reduceLT, Nat.reduceLeDiff, Nat.add_zero, and_self, k_ne, Nat.add_left_cancel_iff, ne_eq, Int.reduceEq, Int.reduceLT, Int.reduceLE, List.cons_append, List.nil_append, Nat.reduceDiv, Nat.reduceMul, Int.reduceToNat, Int.reduceAdd, Int.cast_ofNat_Int, g2] | refine And.intro (by omega) ?_))
    (first | omega | rfl | ((repeat' apply And.intro) <;> first | rfl | omega | assumption))
  · have ew : worstE e f = e := by unfold worstE; rw [if_neg (by omega), if_pos g3]
    rw [ew]
    (repeat (first | refine v_reg ?_ | refine v_last ?_ | refine vwp_seq ?_ | refine vwp_block ?_ | refine vwp_skip ?_ | refine vwp_exit ?_ | refine vwp_ret ?_ | refine v_cond ?_ | simp only [vm, ite_true, ite_false, eq_self, reduceIte, Nat.reduceEqDiff, Option.map, g1, g2, g3] | refine And.intro (by omega) ?_))
    (first | omega | rfl | ((repeat' apply And.intro) <;> first | rfl | omega | assumption))
def rd0 : RD := ⟨false, [], 0⟩
theorem ends_spec (tx ty : Tok) (x y : RD) (e f : Int) (c : Nat) : VSpec Tryz.prog F.span_ends c [rdV tx x, iv e, rdV ty y, iv f] (fun r _ => r = if worstE e f = 0 then .tup [rsV tx ty x y, iv 0] else .tup [rsV .nil .nil rd0 rd0, iv (worstE e f)]) := by
  refine spec_mk hm E.span_ends B.span_ends K.span_ends Q.span_ends (by rw [N.span_ends]; simp) ?_
  unfold C.span_ends R.span_ends
  (repeat (first | refine v_reg ?_ | refine v_last ?_ | refine vwp_seq ?_ | refine vwp_block ?_ | refine vwp_skip ?_ | refine vwp_exit ?_ | refine vwp_ret ?_ | refine v_cond ?_ | simp (disch := omega) only [vm, ite_true, ite_false, eq_self, reduceIte, Nat.reduceEqDiff, Option.map, vst, List.length_cons, List.length_nil, List.set_cons_zero, List.set_cons_succ, List.map_cons, List.map_nil, Option.map_some, Option.bind_some, Nat.reduceAdd, Nat.reduceLT, Nat.reduceLeDiff, Nat.add_zero, and_self, k_ne, Nat.add_left_cancel_iff, ne_eq, Int.reduceEq, Int.reduceLT, Int.reduceLE, List.cons_append, List.nil_append, Nat.reduceDiv, Nat.reduceMul, Int.reduceToNat, Int.reduceAdd, Int.cast_ofNat_Int] | refine And.intro (by omega) ?_))
  refine s_call (worst_spec e f (c + 3)) (by simp (disch := omega) only [vm, ite_true, ite_false, eq_self, reduceIte, Nat.reduceEqDiff, Option.map, vst, List.length_cons, List.length_nil, List.set_cons_zero, List.set_cons_succ, List.map_cons, List.map_nil, Option.map_some, Option.bind_some, Nat.reduceAdd, Nat.reduceLT, Nat.reduceLeDiff, Nat.add_zero, and_self, k_ne, Nat.add_left_cancel_iff, ne_eq, Int.reduceEq, Int.reduceLT, Int.reduceLE, List.cons_append, List.nil_append, Nat.reduceDiv, Nat.reduceMul, Int.reduceToNat, Int.reduceAdd, Int.cast_ofNat_Int]) ?_
  rintro v c1 hc1 rfl
  by_cases g : worstE e f = 0
  · (repeat (first | refine v_reg ?_ | refine v_last ?_ | refine vwp_seq ?_ | refine vwp_block ?_ | refine vwp_skip ?_ | refine vwp_exit ?_ | refine vwp_ret ?_ | refine v_cond ?_ | simp (disch := omega) only [vm, ite_true, ite_false, eq_self, reduceIte, Nat.reduceEqDiff, Option.map, vst, List.length_cons, List.length_nil, List.set_cons_zero, List.set_cons_succ, List.map_cons, List.map_nil, Option.map_some, Option.bind_some, Nat.reduceAdd, Nat.reduceLT, Nat.reduceLeDiff, Nat.add_zero, and_self, k_ne, Nat.add_left_cancel_iff, ne_eq, Int.reduceEq, Int.reduceLT, Int.reduceLE, List.cons_append, List.nil_append, Nat.reduceDiv, Nat.reduceMul, Int.reduceToNat, Int.reduceAdd, Int.cast_ofNat_Int, g] | refine And.intro (by omega) ?_))
    (first | omega | rfl | ((repeat' apply And.intro) <;> first | rfl | omega | assumption))
  · (repeat (first | refine v_reg ?_ | refine v_last ?_ | refine vwp_seq ?_ | refine vwp_block ?_ | refine vwp_skip ?_ | refine vwp_exit ?_ | refine vwp_ret ?_ | refine v_cond ?_ | simp (disch := omega) only [vm, ite_true, ite_false, eq_self, reduceIte, Nat.reduceEqDiff, Option.map, vst, List.length_cons, List.length_nil, List.set_cons_zero, List.set_cons_succ, List.map_cons, List.map_nil, Option.map_some, Option.bind_some, Nat.reduceAdd, Nat.reduceLT, Nat.reduceLeDiff, Nat.add_zero, and_self, k_ne, Nat.add_left_cancel_iff, ne_eq, Int.reduceEq, Int.reduceLT, Int.reduceLE, List.cons_append, List.nil_append, Nat.reduceDiv, Nat.reduceMul, Int.reduceToNat, Int.reduceAdd, Int.cast_ofNat_Int, g] | refine And.intro (by omega) ?_))
    (first | omega | rfl | ((repeat' apply And.intro) <;> first | rfl | omega | assumption))

def ansE (lo hi : Dy) : Int := worstE (tE lo) (tE hi)
def ansL (lo hi : Dy) : Dy := if ansE lo hi = 0 then lo else dy0
def ansH (lo hi : Dy) : Dy := if ansE lo hi = 0 then hi else dy0
def AnsS (c c' : Nat) (lo hi : Dy) (r : V) : Prop := ∃ t u cm, c ≤ cm ∧ cm ≤ c' ∧ r = .tup [rsV t u (RD.of (ansL lo hi)) (RD.of (ansH lo hi)), iv (ansE lo hi)] ∧ Own1 c cm t (digs 18446744073709551616 (ansL lo hi).m) ∧ Own1 cm c' u (digs 18446744073709551616 (ansH lo hi).m)
theorem AnsS.mono {a b c d : Nat} {x y : Dy} {r : V} (h : AnsS a b x y r) (h1 : c ≤ a) (h2 : b ≤ d) : AnsS c d x y r := by
  obtain ⟨t, u, cm, g1, g2, h, ht, hu⟩ := h
  exact ⟨t, u, cm, by omega, by omega, h, ht.mono h1 (Nat.le_refl _), hu.mono (Nat.le_refl _) h2⟩
theorem worst_zero {e f : Int} : worstE e f = 0 ↔ e = 0 ∧ f = 0 := by
  unfold worstE
  split
  · constructor
    · intro h; omega
    · omega
  · split
    · constructor
      · intro h; omega
      · intro h; omega
    · constructor
      · intro h; omega
      · intro h; omega
theorem ansE_zero {lo hi : Dy} : ansE lo hi = 0 ↔ tE lo = 0 ∧ tE hi = 0 := worst_zero
theorem ansS_of {c c1 c2 c3 : Nat} {lo hi : Dy} {t u : Tok} {r : V} (h1 : c ≤ c1) (h2 : c1 ≤ c2) (h3 : c2 ≤ c3) (ht : Own1 c c1 t (digs 18446744073709551616 (ansD lo).m)) (hu : Own1 c1 c2 u (digs 18446744073709551616 (ansD hi).m))
    (hr : r = if worstE (tE lo) (tE hi) = 0 then .tup [rsV t u (RD.of (ansD lo)) (RD.of (ansD hi)), iv 0] else .tup [rsV .nil .nil rd0 rd0, iv (worstE (tE lo) (tE hi))]) : AnsS c c3 lo hi r := by
  by_cases g : ansE lo hi = 0
  · obtain ⟨g1, g2⟩ := ansE_zero.1 g
    have e1 : ansL lo hi = lo := if_pos g
    have e2 : ansH lo hi = hi := if_pos g
    rw [if_pos (by exact g), ansD_ok g1, ansD_ok g2] at hr
    rw [ansD_ok g1] at ht
    rw [ansD_ok g2] at hu
    refine ⟨t, u, c1, by omega, by omega, ?_, ?_, ?_⟩
    · rw [hr, e1, e2, g]
    · rw [e1]; exact ht
    · rw [e2]; exact hu.mono (Nat.le_refl _) h3
  · have e1 : ansL lo hi = dy0 := if_neg g
    have e2 : ansH lo hi = dy0 := if_neg g
    rw [if_neg (by exact g)] at hr
    refine ⟨.nil, .nil, c1, by omega, by omega, ?_, ?_, ?_⟩
    · rw [hr, e1, e2]; rfl
    · rw [e1]; exact .inl ⟨rfl, rfl⟩
    · rw [e2]; exact .inl ⟨rfl, rfl⟩

theorem Scale_spec (t : Tok) (a : RD) (k : Int) (c : Nat) (ha : a.Ok) (hk : fitE k) : VSpec Tryz.prog F.dyadic_Scale c [rdV t a, iv k] (fun r c' => AnsD c c' (dyOf a.d.neg a.d.m (a.d.e + k)) r) := by
  refine spec_mk hm E.dyadic_Scale B.dyadic_Scale K.dyadic_Scale Q.dyadic_Scale (by rw [N.dyadic_Scale]; simp) ?_
  unfold C.dyadic_Scale R.dyadic_Scale
  have hn := ha.num
  have hna := hn.arg
  have hlen := hna.len
  have n1 := hn.lo
  have n2 := hn.hi
  have hk' := hk
  unfold fitE at hk'
  (repeat (first | refine v_reg ?_ | refine v_last ?_ | refine vwp_seq ?_ | refine vwp_block ?_ | refine vwp_skip ?_ | refine vwp_exit ?_ | refine vwp_ret ?_ | refine v_cond ?_ | simp (disch := omega) only [vm, ite_true, ite_false, eq_self, reduceIte, Nat.reduceEqDiff, Option.map, vst, List.length_cons, List.length_nil, List.set_cons_zero, List.set_cons_succ, List.map_cons, List.map_nil, Option.map_some, Option.bind_some, Nat.reduceAdd, Nat.reduceLT, Nat.reduceLeDiff, Nat.add_zero, and_self, k_ne, Nat.add_left_cancel_iff, ne_eq, Int.reduceEq, Int.reduceLT, Int.reduceLE, List.cons_append, List.nil_append, Nat.reduceDiv, Nat.reduceMul, Int.reduceToNat, Int.reduceAdd, Int.cast_ofNat_Int] | refine And.intro (by omega) ?_))
  refine s_call (read_spec a.neg t a.l a.e (c + 2) ha.arg ha.fit) (by simp (disch := omega) only [vm, ite_true, ite_false, eq_self, reduceIte, Nat.reduceEqDiff, Option.map, vst, List.length_cons, List.length_nil, List.set_cons_zero, List.set_cons_succ, List.map_cons, List.map_nil, Option.map_some, Option.bind_some, Nat.reduceAdd, Nat.reduceLT, Nat.reduceLeDiff, Nat.add_zero, and_self, k_ne, Nat.add_left_cancel_iff, ne_eq, Int.reduceEq, Int.reduceLT, Int.reduceLE, List.cons_append, List.nil_append, Nat.reduceDiv, Nat.reduceMul, Int.reduceToNat, Int.reduceAdd, Int.cast_ofNat_Int]) ?_
  rintro v c1 hc1 ⟨tk, rfl, htk⟩
  have ed : dyOf a.neg (val 18446744073709551616 a.l) a.e = a.d := rfl
  rw [ed] at *
  (repeat (first | refine v_reg ?_ | refine v_last ?_ | refine vwp_seq ?_ | refine vwp_block ?_ | refine vwp_skip ?_ | refine vwp_exit ?_ | refine vwp_ret ?_ | refine v_cond ?_ | simp (disch := omega) only [vm, ite_true, ite_false, eq_self, reduceIte, Nat.reduceEqDiff, Option.map, vst, List.length_cons, List.length_nil, List.set_cons_zero, List.set_cons_succ, List.map_cons, List.map_nil, Option.map_some, Option.bind_some, Nat.reduceAdd, Nat.reduceLT, Nat.reduceLeDiff, Nat.add_zero, and_self, k_ne, Nat.add_left_cancel_iff, ne_eq, Int.reduceEq, Int.reduceLT, Int.reduceLE, List.cons_append, List.nil_append, Nat.reduceDiv, Nat.reduceMul, Int.reduceToNat, Int.reduceAdd, Int.cast_ofNat_Int] | refine And.intro (by omega) ?_))
  refine s_call (within_spec k (c1 + 1)) (by simp (disch := omega) only [vm, ite_true, ite_false, eq_self, reduceIte, Nat.reduceEqDiff, Option.map, vst, List.length_cons, List.length_nil, List.set_cons_zero, List.set_cons_succ, List.map_cons, List.map_nil, Option.map_some, Option.bind_some, Nat.reduceAdd, Nat.reduceLT, Nat.reduceLeDiff, Nat.add_zero, and_self, k_ne, Nat.add_left_cancel_iff, ne_eq, Int.reduceEq, Int.reduceLT, Int.reduceLE, List.cons_append, List.nil_append, Nat.reduceDiv, Nat.reduceMul, Int.reduceToNat, Int.reduceAdd, Int.cast_ofNat_Int]) ?_
  rintro v c2 hc2 rfl
  (repeat (first | refine v_reg ?_ | refine v_last ?_ | refine vwp_seq ?_ | refine vwp_block ?_ | refine vwp_skip ?_ | refine vwp_exit ?_ | refine vwp_ret ?_ | refine v_cond ?_ | simp (disch := omega) only [vm, ite_true, ite_false, eq_self, reduceIte, Nat.reduceEqDiff, Option.map, vst, List.length_cons, List.length_nil, List.set_cons_zero, List.set_cons_succ, List.map_cons, List.map_nil, Option.map_some, Option.bind_some, Nat.reduceAdd, Nat.reduceLT, Nat.reduceLeDiff, Nat.add_zero, and_self, k_ne, Nat.add_left_cancel_iff, ne_eq, Int.reduceEq, Int.reduceLT, Int.reduceLE, List.cons_append, List.nil_append, Nat.reduceDiv, Nat.reduceMul, Int.reduceToNat, Int.reduceAdd, Int.cast_ofNat_Int, hk] | refine And.intro (by omega) ?_))
  refine s_call (dtold_spec a.d.neg tk (digs 18446744073709551616 a.d.m) (a.d.e + k) c2 hna.lim (by omega) (by omega) (by omega) (.inr (by rw [val_digs two64]; exact Nat.le_trans (bl_od _) hn.bits))) (by simp (disch := omega) only [vm, ite_true, ite_false, eq_self, reduceIte, Nat.reduceEqDiff, Option.map, vst, List.length_cons, List.length_nil, List.set_cons_zero, List.set_cons_succ, List.map_cons, List.map_nil, Option.map_some, Option.bind_some, Nat.reduceAdd, Nat.reduceLT, Nat.reduceLeDiff, Nat.add_zero, and_self, k_ne, Nat.add_left_cancel_iff, ne_eq, Int.reduceEq, Int.reduceLT, Int.reduceLE, List.cons_append, List.nil_append, Nat.reduceDiv, Nat.reduceMul, Int.reduceToNat, Int.reduceAdd, Int.cast_ofNat_Int]) ?_
  rw [val_digs two64]
  rintro v c3 hc3 ⟨tr, rfl, htr⟩
  (repeat (first | refine v_reg ?_ | refine v_last ?_ | refine vwp_seq ?_ | refine vwp_block ?_ | refine vwp_skip ?_ | refine vwp_exit ?_ | refine vwp_ret ?_ | refine v_cond ?_ | simp (disch := omega) only [vm, ite_true, ite_false, eq_self, reduceIte, Nat.reduceEqDiff, Option.map, vst, List.length_cons, List.length_nil, List.set_cons_zero, List.set_cons_succ, List.map_cons, List.map_nil, Option.map_some, Option.bind_some, Nat.reduceAdd, Nat.reduceLT, Nat.reduceLeDiff, Nat.add_zero, and_self, k_ne, Nat.add_left_cancel_iff, ne_eq, Int.reduceEq, Int.reduceLT, Int.reduceLE, List.cons_append, List.nil_append, Nat.reduceDiv, Nat.reduceMul, Int.reduceToNat, Int.reduceAdd, Int.cast_ofNat_Int] | refine And.intro (by omega) ?_))
  exact ⟨tr, rfl, htr.mono (by omega) (by omega)⟩
theorem norm_spec' (t : Tok) (a : RD) (c : Nat) (ha : a.Ok) : VSpec Tryz.prog F.span_norm c [rdV t a] (fun r c' => AnsD c c' a.d r) := by
  refine spec_mk hm E.span_norm B.span_norm K.span_norm Q.span_norm (by rw [N.span_norm]; simp) ?_
  unfold C.span_norm R.span_norm
  (repeat (first | refine v_reg ?_ | refine v_last ?_ | refine vwp_seq ?_ | refine vwp_block ?_ | refine vwp_skip ?_ | refine vwp_exit ?_ | refine vwp_ret ?_ | refine v_cond ?_ | simp (disch := omega) only [vm, ite_true, ite_false, eq_self, reduceIte, Nat.reduceEqDiff, Option.map, vst, List.length_cons, List.length_nil, List.set_cons_zero, List.set_cons_succ, List.map_cons, List.map_nil, Option.map_some, Option.bind_some, Nat.reduceAdd, Nat.reduceLT, Nat.reduceLeDiff, Nat.add_zero, and_self, k_ne, Nat.add_left_cancel_iff, ne_eq, Int.reduceEq, Int.reduceLT, Int.reduceLE, List.cons_append, List.nil_append, Nat.reduceDiv, Nat.reduceMul, Int.reduceToNat, Int.reduceAdd, Int.cast_ofNat_Int] | refine And.intro (by omega) ?_))
  refine s_call (Scale_spec t a 0 (c + 2) ha ⟨by decide, by decide⟩) (by simp (disch := omega) only [vm, ite_true, ite_false, eq_self, reduceIte, Nat.reduceEqDiff, Option.map, vst, List.length_cons, List.length_nil, List.set_cons_zero, List.set_cons_succ, List.map_cons, List.map_nil, Option.map_some, Option.bind_some, Nat.reduceAdd, Nat.reduceLT, Nat.reduceLeDiff, Nat.add_zero, and_self, k_ne, Nat.add_left_cancel_iff, ne_eq, Int.reduceEq, Int.reduceLT, Int.reduceLE, List.cons_append, List.nil_append, Nat.reduceDiv, Nat.reduceMul, Int.reduceToNat, Int.reduceAdd, Int.cast_ofNat_Int]) ?_
  rw [Int.add_zero, dyOf_id ha.num.ok]
  rintro v c1 hc1 ⟨tr, rfl, htr⟩
  (repeat (first | refine v_reg ?_ | refine v_last ?_ | refine vwp_seq ?_ | refine vwp_block ?_ | refine vwp_skip ?_ | refine vwp_exit ?_ | refine vwp_ret ?_ | refine v_cond ?_ | simp (disch := omega) only [vm, ite_true, ite_false, eq_self, reduceIte, Nat.reduceEqDiff, Option.map, vst, List.length_cons, List.length_nil, List.set_cons_zero, List.set_cons_succ, List.map_cons, List.map_nil, Option.map_some, Option.bind_some, Nat.reduceAdd, Nat.reduceLT, Nat.reduceLeDiff, Nat.add_zero, and_self, k_ne, Nat.add_left_cancel_iff, ne_eq, Int.reduceEq, Int.reduceLT, Int.reduceLE, List.cons_append, List.nil_append, Nat.reduceDiv, Nat.reduceMul, Int.reduceToNat, Int.reduceAdd, Int.cast_ofNat_Int] | refine And.intro (by omega) ?_))
  exact ⟨tr, rfl, htr.mono (by omega) (by omega)⟩
theorem normal_spec (ta tb : Tok) (a b : RD) (c : Nat) (ha : a.Ok) (hb : b.Ok) : VSpec Tryz.prog F.span_normal c [rdV ta a, rdV tb b] (fun r c' => AnsS c c' a.d b.d r) := by
  refine spec_mk hm E.span_normal B.span_normal K.span_normal Q.span_normal (by rw [N.span_normal]; simp) ?_
  unfold C.span_normal R.span_normal
  (repeat (first | refine v_reg ?_ | refine v_last ?_ | refine vwp_seq ?_ | refine vwp_block ?_ | refine vwp_skip ?_ | refine vwp_exit ?_ | refine vwp_ret ?_ | refine v_cond ?_ | simp (disch := omega) only [vm, ite_true, ite_false, eq_self, reduceIte, Nat.reduceEqDiff, Option.map, vst, List.length_cons, List.length_nil, List.set_cons_zero, List.set_cons_succ, List.map_cons, List.map_nil, Option.map_some, Option.bind_some, Nat.reduceAdd, Nat.reduceLT, Nat.reduceLeDiff, Nat.add_zero, and_self, k_ne, Nat.add_left_cancel_iff, ne_eq, Int.reduceEq, Int.reduceLT, Int.reduceLE, List.cons_append, List.nil_append, Nat.reduceDiv, Nat.reduceMul, Int.reduceToNat, Int.reduceAdd, Int.cast_ofNat_Int] | refine And.intro (by omega) ?_))
  refine s_call (norm_spec' ta a (c + 3) ha) (by simp (disch := omega) only [vm, ite_true, ite_false, eq_self, reduceIte, Nat.reduceEqDiff, Option.map, vst, List.length_cons, List.length_nil, List.set_cons_zero, List.set_cons_succ, List.map_cons, List.map_nil, Option.map_some, Option.bind_some, Nat.reduceAdd, Nat.reduceLT, Nat.reduceLeDiff, Nat.add_zero, and_self, k_ne, Nat.add_left_cancel_iff, ne_eq, Int.reduceEq, Int.reduceLT, Int.reduceLE, List.cons_append, List.nil_append, Nat.reduceDiv, Nat.reduceMul, Int.reduceToNat, Int.reduceAdd, Int.cast_ofNat_Int]) ?_
  rintro v c1 hc1 ⟨t1, rfl, ht1⟩
  (repeat (first | refine v_reg ?_ | refine v_last ?_ | refine vwp_seq ?_ | refine vwp_block ?_ | refine vwp_skip ?_ | refine vwp_exit ?_ | refine vwp_ret ?_ | refine v_cond ?_ | simp (disch := omega) only [vm, ite_true, ite_false, eq_self, reduceIte, Nat.reduceEqDiff, Option.map, vst, List.length_cons, List.length_nil, List.set_cons_zero, List.set_cons_succ, List.map_cons, List.map_nil, Option.map_some, Option.bind_some, Nat.reduceAdd, Nat.reduceLT, Nat.reduceLeDiff, Nat.add_zero, and_self, k_ne, Nat.add_left_cancel_iff, ne_eq, Int.reduceEq, Int.reduceLT, Int.reduceLE, List.cons_append, List.nil_append, Nat.reduceDiv, Nat.reduceMul, Int.reduceToNat, Int.reduceAdd, Int.cast_ofNat_Int] | refine And.intro (by omega) ?_))
  refine s_call (norm_spec' tb b (c1 + 1) hb) (by simp (disch := omega) only [vm, ite_true, ite_false, eq_self, reduceIte, Nat.reduceEqDiff, Option.map, vst, List.length_cons, List.length_nil, List.set_cons_zero, List.set_cons_succ, List.map_cons, List.map_nil, Option.map_some, Option.bind_some, Nat.reduceAdd, Nat.reduceLT, Nat.reduceLeDiff, Nat.add_zero, and_self, k_ne, Nat.add_left_cancel_iff, ne_eq, Int.reduceEq, Int.reduceLT, Int.reduceLE, List.cons_append, List.nil_append, Nat.reduceDiv, Nat.reduceMul, Int.reduceToNat, Int.reduceAdd, Int.cast_ofNat_Int]) ?_
  rintro v c2 hc2 ⟨t2, rfl, ht2⟩
  (repeat (first | refine v_reg ?_ | refine v_last ?_ | refine vwp_seq ?_ | refine vwp_block ?_ | refine vwp_skip ?_ | refine vwp_exit ?_ | refine vwp_ret ?_ | refine v_cond ?_ | simp (disch := omega) only [vm, ite_true, ite_false, eq_self, reduceIte, Nat.reduceEqDiff, Option.map, vst, List.length_cons, List.length_nil, List.set_cons_zero, List.set_cons_succ, List.map_cons, List.map_nil, Option.map_some, Option.bind_some, Nat.reduceAdd, Nat.reduceLT, Nat.reduceLeDiff, Nat.add_zero, and_self, k_ne, Nat.add_left_cancel_iff, ne_eq, Int.reduceEq, Int.reduceLT, Int.reduceLE, List.cons_append, List.nil_append, Nat.reduceDiv, Nat.reduceMul, Int.reduceToNat, Int.reduceAdd, Int.cast_ofNat_Int] | refine And.intro (by omega) ?_))
  refine s_call (ends_spec t1 t2 (RD.of (ansD a.d)) (RD.of (ansD b.d)) (tE a.d) (tE b.d) (c2 + 1)) (by simp (disch := omega) only [vm, ite_true, ite_false, eq_self, reduceIte, Nat.reduceEqDiff, Option.map, vst, List.length_cons, List.length_nil, List.set_cons_zero, List.set_cons_succ, List.map_cons, List.map_nil, Option.map_some, Option.bind_some, Nat.reduceAdd, Nat.reduceLT, Nat.reduceLeDiff, Nat.add_zero, and_self, k_ne, Nat.add_left_cancel_iff, ne_eq, Int.reduceEq, Int.reduceLT, Int.reduceLE, List.cons_append, List.nil_append, Nat.reduceDiv, Nat.reduceMul, Int.reduceToNat, Int.reduceAdd, Int.cast_ofNat_Int]; rfl) ?_
  rintro v c3 hc3 hv
  have hA := ansS_of (c := c) (c1 := c1) (c2 := c2) (c3 := c3) (by omega) (by omega) (by omega) (ht1.mono (by omega) (by omega)) (ht2.mono (by omega) (by omega)) hv
  obtain ⟨t, u, cm, g1, g2, rfl, gt, gu⟩ := hA
  (repeat (first | refine v_reg ?_ | refine v_last ?_ | refine vwp_seq ?_ | refine vwp_block ?_ | refine vwp_skip ?_ | refine vwp_exit ?_ | refine vwp_ret ?_ | refine v_cond ?_ | simp (disch := omega) only [vm, ite_true, ite_false, eq_self, reduceIte, Nat.reduceEqDiff, Option.map, vst, List.length_cons, List.length_nil, List.set_cons_zero, List.set_cons_succ, List.map_cons, List.map_nil, Option.map_some, Option.bind_some, Nat.reduceAdd, Nat.reduceLT, Nat.reduceLeDiff, Nat.add_zero, and_self, k_ne, Nat.add_left_cancel_iff, ne_eq, Int.reduceEq, Int.reduceLT, Int.reduceLE, List.cons_append, List.nil_append, Nat.reduceDiv, Nat.reduceMul, Int.reduceToNat, Int.reduceAdd, Int.cast_ofNat_Int] | refine And.intro (by omega) ?_))
  exact ⟨t, u, cm, by omega, by omega, rfl, gt, gu⟩
end Go.Proofs.YtacodmnlnlbahaaGreatDoor
set_option linter.unusedSimpArgs false
set_option linter.unusedVariables false
set_option maxRecDepth 100000
set_option maxHeartbeats 8000000
namespace Go.Proofs.YtacodmnlnlbahaaGreatDoor
open Go.VM

structure AnsF (c c' : Nat) (f : Int) (lo hi : Dy) (r : V) : Prop where
  bad : f ≠ 0 → r = .tup [rsV .nil .nil rd0 rd0, iv f]
  ok : f = 0 → AnsS c c' lo hi r
theorem chk_ok {a b : RD} (h : chkE a b = 0) : fitE a.e ∧ fitE b.e ∧ leD a.d b.d := by
  unfold chkE at h
  split at h
  · rename_i g
    split at h
    · omega
    · exact ⟨g.1, g.2, by unfold leD; omega⟩
  · omega
theorem Make_spec (ta tb : Tok) (a b : RD) (c : Nat) (ha : Arg a.l) (hb : Arg b.l) : VSpec Tryz.prog F.span_Make c [rdV ta a, rdV tb b] (fun r c' => AnsF c c' (chkE a b) a.d b.d r) := by
  refine spec_mk hm E.span_Make B.span_Make K.span_Make Q.span_Make (by rw [N.span_Make]; simp) ?_
  unfold C.span_Make R.span_Make
  (repeat (first | refine v_reg ?_ | refine v_last ?_ | refine vwp_seq ?_ | refine vwp_block ?_ | refine vwp_skip ?_ | refine vwp_exit ?_ | refine vwp_ret ?_ | refine v_cond ?_ | simp (disch := omega) only [vm, ite_true, ite_false, eq_self, reduceIte, Nat.reduceEqDiff, Option.map, vst, List.length_cons, List.length_nil, List.set_cons_zero, List.set_cons_succ, List.map_cons, List.map_nil, Option.map_some, Option.bind_some, Nat.reduceAdd, Nat.reduceLT, Nat.reduceLeDiff, Nat.add_zero, and_self, k_ne, Nat.add_left_cancel_iff, ne_eq, Int.reduceEq, Int.reduceLT, Int.reduceLE, List.cons_append, List.nil_append, Nat.reduceDiv, Nat.reduceMul, Int.reduceToNat, Int.reduceAdd, Int.cast_ofNat_Int] | refine And.intro (by omega) ?_))
  refine s_call (check_spec ta tb a b (c + 3) ha hb) (by simp (disch := omega) only [vm, ite_true, ite_false, eq_self, reduceIte, Nat.reduceEqDiff, Option.map, vst, List.length_cons, List.length_nil, List.set_cons_zero, List.set_cons_succ, List.map_cons, List.map_nil, Option.map_some, Option.bind_some, Nat.reduceAdd, Nat.reduceLT, Nat.reduceLeDiff, Nat.add_zero, and_self, k_ne, Nat.add_left_cancel_iff, ne_eq, Int.reduceEq, Int.reduceLT, Int.reduceLE, List.cons_append, List.nil_append, Nat.reduceDiv, Nat.reduceMul, Int.reduceToNat, Int.reduceAdd, Int.cast_ofNat_Int]) ?_
  rintro v c1 hc1 rfl
  by_cases g : chkE a b = 0
  · obtain ⟨g1, g2, _⟩ := chk_ok g
    (repeat (first | refine v_reg ?_ | refine v_last ?_ | refine vwp_seq ?_ | refine vwp_block ?_ | refine vwp_skip ?_ | refine vwp_exit ?_ | refine vwp_ret ?_ | refine v_cond ?_ | simp (disch := omega) only [vm, ite_true, ite_false, eq_self, reduceIte, Nat.reduceEqDiff, Option.map, vst, List.length_cons, List.length_nil, List.set_cons_zero, List.set_cons_succ, List.map_cons, List.map_nil, Option.map_some, Option.bind_some, Nat.reduceAdd, Nat.reduceLT, Nat.reduceLeDiff, Nat.add_zero, and_self, k_ne, Nat.add_left_cancel_iff, ne_eq, Int.reduceEq, Int.reduceLT, Int.reduceLE, List.cons_append, List.nil_append, Nat.reduceDiv, Nat.reduceMul, Int.reduceToNat, Int.reduceAdd, Int.cast_ofNat_Int, g] | refine And.intro (by omega) ?_))
    refine s_call (normal_spec ta tb a b c1 ⟨ha, g1⟩ ⟨hb, g2⟩) (by simp (disch := omega) only [vm, ite_true, ite_false, eq_self, reduceIte, Nat.reduceEqDiff, Option.map, vst, List.length_cons, List.length_nil, List.set_cons_zero, List.set_cons_succ, List.map_cons, List.map_nil, Option.map_some, Option.bind_some, Nat.reduceAdd, Nat.reduceLT, Nat.reduceLeDiff, Nat.add_zero, and_self, k_ne, Nat.add_left_cancel_iff, ne_eq, Int.reduceEq, Int.reduceLT, Int.reduceLE, List.cons_append, List.nil_append, Nat.reduceDiv, Nat.reduceMul, Int.reduceToNat, Int.reduceAdd, Int.cast_ofNat_Int]) ?_
    rintro v c2 hc2 ⟨t, u, cm, h1, h2, rfl, ht, hu⟩
    (repeat (first | refine v_reg ?_ | refine v_last ?_ | refine vwp_seq ?_ | refine vwp_block ?_ | refine vwp_skip ?_ | refine vwp_exit ?_ | refine vwp_ret ?_ | refine v_cond ?_ | simp (disch := omega) only [vm, ite_true, ite_false, eq_self, reduceIte, Nat.reduceEqDiff, Option.map, vst, List.length_cons, List.length_nil, List.set_cons_zero, List.set_cons_succ, List.map_cons, List.map_nil, Option.map_some, Option.bind_some, Nat.reduceAdd, Nat.reduceLT, Nat.reduceLeDiff, Nat.add_zero, and_self, k_ne, Nat.add_left_cancel_iff, ne_eq, Int.reduceEq, Int.reduceLT, Int.reduceLE, List.cons_append, List.nil_append, Nat.reduceDiv, Nat.reduceMul, Int.reduceToNat, Int.reduceAdd, Int.cast_ofNat_Int] | refine And.intro (by omega) ?_))
    exact ⟨fun h => (by first | exact absurd rfl h | exact absurd g h), fun _ => ⟨t, u, cm, by omega, by omega, rfl, ht.mono (by omega) (Nat.le_refl _), hu.mono (Nat.le_refl _) (by omega)⟩⟩
  · (repeat (first | refine v_reg ?_ | refine v_last ?_ | refine vwp_seq ?_ | refine vwp_block ?_ | refine vwp_skip ?_ | refine vwp_exit ?_ | refine vwp_ret ?_ | refine v_cond ?_ | simp (disch := omega) only [vm, ite_true, ite_false, eq_self, reduceIte, Nat.reduceEqDiff, Option.map, vst, List.length_cons, List.length_nil, List.set_cons_zero, List.set_cons_succ, List.map_cons, List.map_nil, Option.map_some, Option.bind_some, Nat.reduceAdd, Nat.reduceLT, Nat.reduceLeDiff, Nat.add_zero, and_self, k_ne, Nat.add_left_cancel_iff, ne_eq, Int.reduceEq, Int.reduceLT, Int.reduceLE, List.cons_append, List.nil_append, Nat.reduceDiv, Nat.reduceMul, Int.reduceToNat, Int.reduceAdd, Int.cast_ofNat_Int, g] | refine And.intro (by omega) ?_))
    exact ⟨fun _ => rfl, fun h => absurd h g⟩
def ptE (a : RD) : Int := if fitE a.e then 0 else 80
theorem chk_self (a : RD) : chkE a a = ptE a := by
  unfold chkE ptE
  by_cases h : fitE a.e
  · rw [if_pos ⟨h, h⟩, if_pos h, cmpD_self, if_neg (by omega)]
  · rw [if_neg (fun q => h q.1), if_neg h]
theorem Point_spec (ta : Tok) (a : RD) (c : Nat) (ha : Arg a.l) : VSpec Tryz.prog F.span_Point c [rdV ta a] (fun r c' => AnsF c c' (ptE a) a.d a.d r) := by
  refine spec_mk hm E.span_Point B.span_Point K.span_Point Q.span_Point (by rw [N.span_Point]; simp) ?_
  unfold C.span_Point R.span_Point
  (repeat (first | refine v_reg ?_ | refine v_last ?_ | refine vwp_seq ?_ | refine vwp_block ?_ | refine vwp_skip ?_ | refine vwp_exit ?_ | refine vwp_ret ?_ | refine v_cond ?_ | simp (disch := omega) only [vm, ite_true, ite_false, eq_self, reduceIte, Nat.reduceEqDiff, Option.map, vst, List.length_cons, List.length_nil, List.set_cons_zero, List.set_cons_succ, List.map_cons, List.map_nil, Option.map_some, Option.bind_some, Nat.reduceAdd, Nat.reduceLT, Nat.reduceLeDiff, Nat.add_zero, and_self, k_ne, Nat.add_left_cancel_iff, ne_eq, Int.reduceEq, Int.reduceLT, Int.reduceLE, List.cons_append, List.nil_append, Nat.reduceDiv, Nat.reduceMul, Int.reduceToNat, Int.reduceAdd, Int.cast_ofNat_Int] | refine And.intro (by omega) ?_))
  refine s_call (Make_spec ta ta a a (c + 2) ha ha) (by simp (disch := omega) only [vm, ite_true, ite_false, eq_self, reduceIte, Nat.reduceEqDiff, Option.map, vst, List.length_cons, List.length_nil, List.set_cons_zero, List.set_cons_succ, List.map_cons, List.map_nil, Option.map_some, Option.bind_some, Nat.reduceAdd, Nat.reduceLT, Nat.reduceLeDiff, Nat.add_zero, and_self, k_ne, Nat.add_left_cancel_iff, ne_eq, Int.reduceEq, Int.reduceLT, Int.reduceLE, List.cons_append, List.nil_append, Nat.reduceDiv, Nat.reduceMul, Int.reduceToNat, Int.reduceAdd, Int.cast_ofNat_Int]) ?_
  rw [chk_self]
  rintro v c1 hc1 ⟨h1, h2⟩
  by_cases g : ptE a = 0
  · obtain ⟨t, u, cm, g1, g2, rfl, ht, hu⟩ := h2 g
    (repeat (first | refine v_reg ?_ | refine v_last ?_ | refine vwp_seq ?_ | refine vwp_block ?_ | refine vwp_skip ?_ | refine vwp_exit ?_ | refine vwp_ret ?_ | refine v_cond ?_ | simp (disch := omega) only [vm, ite_true, ite_false, eq_self, reduceIte, Nat.reduceEqDiff, Option.map, vst, List.length_cons, List.length_nil, List.set_cons_zero, List.set_cons_succ, List.map_cons, List.map_nil, Option.map_some, Option.bind_some, Nat.reduceAdd, Nat.reduceLT, Nat.reduceLeDiff, Nat.add_zero, and_self, k_ne, Nat.add_left_cancel_iff, ne_eq, Int.reduceEq, Int.reduceLT, Int.reduceLE, List.cons_append, List.nil_append, Nat.reduceDiv, Nat.reduceMul, Int.reduceToNat, Int.reduceAdd, Int.cast_ofNat_Int] | refine And.intro (by omega) ?_))
    exact ⟨fun h => (by first | exact absurd rfl h | exact absurd g h), fun _ => ⟨t, u, cm, by omega, by omega, rfl, ht.mono (by omega) (Nat.le_refl _), hu.mono (Nat.le_refl _) (by omega)⟩⟩
  · obtain rfl := h1 g
    (repeat (first | refine v_reg ?_ | refine v_last ?_ | refine vwp_seq ?_ | refine vwp_block ?_ | refine vwp_skip ?_ | refine vwp_exit ?_ | refine vwp_ret ?_ | refine v_cond ?_ | simp (disch := omega) only [vm, ite_true, ite_false, eq_self, reduceIte, Nat.reduceEqDiff, Option.map, vst, List.length_cons, List.length_nil, List.set_cons_zero, List.set_cons_succ, List.map_cons, List.map_nil, Option.map_some, Option.bind_some, Nat.reduceAdd, Nat.reduceLT, Nat.reduceLeDiff, Nat.add_zero, and_self, k_ne, Nat.add_left_cancel_iff, ne_eq, Int.reduceEq, Int.reduceLT, Int.reduceLE, List.cons_append, List.nil_append, Nat.reduceDiv, Nat.reduceMul, Int.reduceToNat, Int.reduceAdd, Int.cast_ofNat_Int] | refine And.intro (by omega) ?_))
    exact ⟨fun _ => rfl, fun h => absurd h g⟩
end Go.Proofs.YtacodmnlnlbahaaGreatDoor
set_option linter.unusedSimpArgs false
set_option linter.unusedVariables false
set_option maxRecDepth 100000
set_option maxHeartbeats 8000000
namespace Go.Proofs.YtacodmnlnlbahaaGreatDoor
open Go.VM

theorem digs32_len {n : Nat} (h : bl n ≤ 68719476736) : (digs 4294967296 n).length ≤ 2147483648 := by
  have h1 : ∀ k, bl n ≤ 32 * k → (digs 4294967296 n).length ≤ k := fun k hk => digs_len (by decide) (by rw [pow32]; exact lt_of_bl hk)
  exact h1 2147483648 (by omega)
theorem val_getD {b : Nat} (hb : 0 < b) : ∀ (l : List Nat) (i : Nat), Lim b l → l.getD i 0 = val b l / b ^ i % b
  | [], i, _ => by simp [val]
  | x :: l, 0, h => by
    have := h.head
    simp [val, Nat.add_mul_mod_self_left, Nat.mod_eq_of_lt this]
  | x :: l, i + 1, h => by
    have hx := h.head
    have ih := val_getD hb l i h.tail
    rw [List.getD_cons_succ, ih, val_cons, Nat.pow_succ, Nat.mul_comm (b ^ i) b, ← Nat.div_div_eq_div_mul, Nat.add_mul_div_left _ _ hb, Nat.div_eq_of_lt hx, Nat.zero_add]
theorem digs_getD {b : Nat} (hb : 2 ≤ b) (n i : Nat) : (digs b n).getD i 0 = n / b ^ i % b := by
  rw [val_getD (by omega) _ _ (lim_digs hb n), val_digs hb]
theorem bit_digit {n i : Nat} : n / 4294967296 ^ (i / 32) % 4294967296 / 2 ^ (i % 32) % 2 = n / 2 ^ i % 2 := by
  have e : n / 2 ^ i = n / 4294967296 ^ (i / 32) / 2 ^ (i % 32) := by
    rw [Nat.div_div_eq_div_mul, pow32, ← Nat.pow_add, Nat.div_add_mod]
  rw [e]
  generalize n / 4294967296 ^ (i / 32) = x
  have h1 := Nat.testBit_mod_two_pow x 32 (i % 32)
  rw [Nat.testBit_eq_decide_div_mod_eq, Nat.testBit_eq_decide_div_mod_eq] at h1
  have h2 : decide (i % 32 < 32) = true := decide_eq_true (by omega)
  rw [h2, Bool.true_and, decide_eq_decide] at h1
  have h3 : x % 2 ^ 32 = x % 4294967296 := by rfl
  rw [h3] at h1
  omega

theorem bitR (t : Tok) (n i c : Nat) (hn : (digs 4294967296 n).length ≤ 4398046511104) (hi : i ≤ 1099511627776) : VSpec Tryz.prog F.surdref01_Num_Bit c [nats t (digs 4294967296 n), iv (i : Int)] (fun r _ => r = iv ((n / 2 ^ i % 2 : Nat) : Int)) := by
  refine spec_mk hm E.surdref01_Num_Bit B.surdref01_Num_Bit K.surdref01_Num_Bit Q.surdref01_Num_Bit (by rw [N.surdref01_Num_Bit]; simp) ?_
  unfold C.surdref01_Num_Bit R.surdref01_Num_Bit
  have d1 : (i : Int) / 32 = ((i / 32 : Nat) : Int) := by omega
  have d2 : (i : Int) % 32 = ((i % 32 : Nat) : Int) := by omega
  have g1 : ¬ (i : Int) < 0 := by omega
  by_cases g2 : ((digs 4294967296 n).length : Int) ≤ ((i / 32 : Nat) : Int)
  · have e0 : n / 2 ^ i = 0 := by
      have h := val_lt (lim_digs (b := 4294967296) (by decide) n)
      rw [val_digs (by decide), pow32] at h
      exact Nat.div_eq_of_lt (Nat.lt_of_lt_of_le h (Nat.pow_le_pow_right (by decide) (by omega)))
    (repeat (first | refine v_reg ?_ | refine v_last ?_ | refine vwp_seq ?_ | refine vwp_block ?_ | refine vwp_skip ?_ | refine vwp_exit ?_ | refine vwp_ret ?_ | refine v_cond ?_ | simp only [vm, ite_true, ite_false, eq_self, reduceIte, Nat.reduceEqDiff, Option.map, g1, d1, g2] | refine And.intro (by omega) ?_))
    rw [e0]
    (first | omega | rfl | ((repeat' apply And.intro) <;> first | rfl | omega | assumption))
  · have e1 := digs_getD (b := 4294967296) (by decide) n (i / 32)
    have e2 := bit_digit (n := n) (i := i)
    have e3 : min (i % 32) 64 = i % 32 := by omega
    (repeat (first | refine v_reg ?_ | refine v_last ?_ | refine vwp_seq ?_ | refine vwp_block ?_ | refine vwp_skip ?_ | refine vwp_exit ?_ | refine vwp_ret ?_ | refine v_cond ?_ | simp only [vm, ite_true, ite_false, eq_self, reduceIte, Nat.reduceEqDiff, Option.map, g1, d1, d2, g2, e1, e3, u_and1, e2] | refine And.intro (by omega) ?_))
    (first | omega | rfl | ((repeat' apply And.intro) <;> first | rfl | omega | assumption))

theorem tz_bit {n i : Nat} (hn : n ≠ 0) (hi : i ≤ tz n) : n / 2 ^ i % 2 = 0 ↔ i < tz n := by
  obtain ⟨h1, h2⟩ := tz_od hn
  obtain ⟨k, hk⟩ := Nat.exists_eq_add_of_le hi
  have e : n / 2 ^ i = 2 ^ k * od n := by
    rw [hk, Nat.pow_add, Nat.mul_assoc] at h1
    conv => lhs; rw [h1]
    rw [Nat.mul_div_cancel_left _ (Nat.two_pow_pos i)]
  rw [e]
  cases k with
  | zero => simp; omega
  | succ k =>
    rw [Nat.pow_succ, Nat.mul_comm (2 ^ k) 2, Nat.mul_assoc, Nat.mul_mod_right]
    constructor
    · intro _; omega
    · intro _; rfl
theorem tailR (t : Tok) (n c : Nat) (hn : bl n ≤ 68719476736) : VSpec Tryz.prog F.surdref01_Num_Tail c [nats t (digs 4294967296 n)] (fun r _ => r = iv (tz n : Nat)) := by
  refine spec_mk hm E.surdref01_Num_Tail B.surdref01_Num_Tail K.surdref01_Num_Tail Q.surdref01_Num_Tail (by rw [N.surdref01_Num_Tail]; simp) ?_
  unfold C.surdref01_Num_Tail R.surdref01_Num_Tail
  have hl := digs32_len (n := n) hn
  by_cases g : n = 0
  · subst g
    have e0 : (((digs 4294967296 0).length : Nat) : Int) = 0 := rfl
    (repeat (first | refine v_reg ?_ | refine v_last ?_ | refine vwp_seq ?_ | refine vwp_block ?_ | refine vwp_skip ?_ | refine vwp_exit ?_ | refine vwp_ret ?_ | refine v_cond ?_ | simp only [vm, ite_true, ite_false, eq_self, reduceIte, Nat.reduceEqDiff, Option.map, e0] | refine And.intro (by omega) ?_))
    rw [tz_zero]
    (first | omega | rfl | ((repeat' apply And.intro) <;> first | rfl | omega | assumption))
  · have hne : ¬ (((digs 4294967296 n).length : Nat) : Int) = 0 := by
      intro h
      exact g ((digs_eq_nil (b := 4294967296) (by decide)).1 (List.eq_nil_of_length_eq_zero (by omega)))
    have htz : tz n ≤ 68719476736 := Nat.le_trans (tz_le_bl n) hn
    (repeat (first | refine v_reg ?_ | refine v_last ?_ | refine vwp_seq ?_ | refine vwp_block ?_ | refine vwp_skip ?_ | refine vwp_exit ?_ | refine vwp_ret ?_ | refine v_cond ?_ | simp only [vm, ite_true, ite_false, eq_self, reduceIte, Nat.reduceEqDiff, Option.map, hne] | refine And.intro (by omega) ?_))
    refine v_loop (fun S => S.ρ 3 = iv (tz n : Nat) ∧ S.σ = noBlk ∧ c ≤ S.c) ?_ ?_
    · refine vwp_loop (fun k S => ∃ i, k = tz n - i ∧ i ≤ tz n ∧ S.ρ 0 = nats t (digs 4294967296 n) ∧ S.ρ 3 = iv (i : Nat) ∧ S.σ = noBlk ∧ c ≤ S.c) (tz n) ?_ ?_
      · refine ⟨0, by omega, by omega, ?_⟩
        simp only [vm, ite_true, ite_false, eq_self, reduceIte, Nat.reduceEqDiff, Option.map]
        (repeat' apply And.intro) <;> first | rfl | omega | assumption
      rintro k ⟨ρ, σ, c3⟩ ⟨i, hk, hi, h0, h3, hσ, hc3⟩
      dsimp only at h0 h3 hσ hc3
      subst hσ
      have hb := tz_bit g hi
      (repeat (first | refine v_reg ?_ | refine v_last ?_ | refine vwp_seq ?_ | refine vwp_block ?_ | refine vwp_skip ?_ | refine vwp_exit ?_ | refine vwp_ret ?_ | refine v_cond ?_ | simp only [vm, ite_true, ite_false, eq_self, reduceIte, Nat.reduceEqDiff, Option.map, h0, h3] | refine And.intro (by omega) ?_))
      refine s_call (bitR t n i c3 (by omega) (by omega)) (by simp only [vm, ite_true, ite_false, eq_self, reduceIte, Nat.reduceEqDiff, Option.map, List.map, h0, h3]) ?_
      rintro v c4 hc4 rfl
      by_cases g2 : i < tz n
      · have e0 : ((n / 2 ^ i % 2 : Nat) : Int) = 0 := by rw [hb.2 g2]; rfl
        (repeat (first | refine v_reg ?_ | refine v_last ?_ | refine vwp_seq ?_ | refine vwp_block ?_ | refine vwp_skip ?_ | refine vwp_exit ?_ | refine vwp_ret ?_ | refine v_cond ?_ | simp only [vm, ite_true, ite_false, eq_self, reduceIte, Nat.reduceEqDiff, Option.map, h0, h3, e0] | refine And.intro (by omega) ?_))
        refine ⟨tz n - (i + 1), by omega, i + 1, ?_⟩
        (repeat' apply And.intro) <;> first | rfl | omega | assumption
      · have e0 : ¬ ((n / 2 ^ i % 2 : Nat) : Int) = 0 := by intro h; exact g2 (hb.1 (by omega))
        have ei : i = tz n := by omega
        (repeat (first | refine v_reg ?_ | refine v_last ?_ | refine vwp_seq ?_ | refine vwp_block ?_ | refine vwp_skip ?_ | refine vwp_exit ?_ | refine vwp_ret ?_ | refine v_cond ?_ | simp only [vm, ite_true, ite_false, eq_self, reduceIte, Nat.reduceEqDiff, Option.map, h0, h3, e0] | refine And.intro (by omega) ?_))
        rw [← ei]
        (repeat' apply And.intro) <;> first | rfl | omega | assumption
    rintro ⟨ρ3, σ, c5⟩ ⟨h3, hσ, hc5⟩
    dsimp only at h3 hσ hc5
    subst hσ
    (repeat (first | refine v_reg ?_ | refine v_last ?_ | refine vwp_seq ?_ | refine vwp_block ?_ | refine vwp_skip ?_ | refine vwp_exit ?_ | refine vwp_ret ?_ | refine v_cond ?_ | simp only [vm, ite_true, ite_false, eq_self, reduceIte, Nat.reduceEqDiff, Option.map, h3] | refine And.intro (by omega) ?_))
    (first | omega | rfl | ((repeat' apply And.intro) <;> first | rfl | omega | assumption))

theorem shr_digit {X s : Nat} (hs : s < 32) {u v : Nat} (hu : u = X % 4294967296) (hv : v = X / 4294967296 % 4294967296) : (u + v * 4294967296) / 2 ^ s % 4294967296 = X / 2 ^ s % 4294967296 := by
  have e : u + v * 4294967296 = X % 2 ^ 64 := by
    rw [hu, hv]
    have : (2 : Nat) ^ 64 = 4294967296 * 4294967296 := by decide
    rw [this, Nat.mod_mul]
    omega
  rw [e]
  have h1 : X % 2 ^ 64 / 2 ^ s % 2 ^ 32 = X / 2 ^ s % 2 ^ 32 := by
    apply Nat.eq_of_testBit_eq
    intro i
    simp only [Nat.testBit_mod_two_pow, Nat.testBit_div_two_pow]
    by_cases g : i < 32
    · have : i + s < 64 := by omega
      simp [g, this]
    · simp [g]
  exact h1
theorem shrR (t : Tok) (n k c : Nat) (hn : bl n ≤ 68719476736) (hk : k ≤ 1099511627776) : VSpec Tryz.prog F.surdref01_Shr c [nats t (digs 4294967296 n), iv (k : Int)] (fun r c' => ∃ tk, r = nats tk (digs 4294967296 (n / 2 ^ k))) := by
  refine spec_mk hm E.surdref01_Shr B.surdref01_Shr K.surdref01_Shr Q.surdref01_Shr (by rw [N.surdref01_Shr]; simp) ?_
  unfold C.surdref01_Shr R.surdref01_Shr
  have hl := digs32_len (n := n) hn
  have d1 : (k : Int) / 32 = ((k / 32 : Nat) : Int) := by omega
  have d2 : (k : Int) % 32 = ((k % 32 : Nat) : Int) := by omega
  have hdg := digs_getD (b := 4294967296) (by decide) n
  have hlt := val_lt (lim_digs (b := 4294967296) (by decide) n)
  rw [val_digs (by decide)] at hlt
  generalize digs 4294967296 n = x at *
  obtain ⟨q, hq⟩ : ∃ q, q = k / 32 := ⟨_, rfl⟩
  obtain ⟨s, hs⟩ : ∃ s, s = k % 32 := ⟨_, rfl⟩
  have eY : n / 2 ^ k = n / 4294967296 ^ q / 2 ^ s := by
    rw [Nat.div_div_eq_div_mul, pow32, ← Nat.pow_add, hq, hs, Nat.div_add_mod]
  rw [← hq] at d1
  rw [← hs] at d2
  by_cases g0 : (x.length : Int) ≤ (q : Int)
  · (repeat (first | refine v_reg ?_ | refine v_last ?_ | refine vwp_seq ?_ | refine vwp_block ?_ | refine vwp_skip ?_ | refine vwp_exit ?_ | refine vwp_ret ?_ | refine v_cond ?_ | simp only [vm, ite_true, ite_false, eq_self, reduceIte, Nat.reduceEqDiff, Option.map, d1, d2, g0] | refine And.intro (by omega) ?_))
    have e0 : n / 4294967296 ^ q = 0 := Nat.div_eq_of_lt (Nat.lt_of_lt_of_le hlt (Nat.pow_le_pow_right (by decide) (by omega)))
    rw [eY, e0, Nat.zero_div]
    exact ⟨.nil, rfl⟩
  obtain ⟨m, hm⟩ : ∃ m, m = x.length - q := ⟨_, rfl⟩
  have hm2 : (x.length : Int) - (q : Int) = (m : Int) := by omega
  obtain ⟨Y, hY⟩ : ∃ Y, Y = n / 2 ^ k := ⟨_, rfl⟩
  have hYlt : Y < 4294967296 ^ m := by
    rw [hY, eY]
    refine Nat.lt_of_le_of_lt (Nat.div_le_self _ _) ?_
    rw [Nat.div_lt_iff_lt_mul (Nat.pow_pos (by decide)), ← Nat.pow_add]
    rw [show m + q = x.length by omega]
    exact hlt
  (repeat (first | refine v_reg ?_ | refine v_last ?_ | refine vwp_seq ?_ | refine vwp_block ?_ | refine vwp_skip ?_ | refine vwp_exit ?_ | refine vwp_ret ?_ | refine v_cond ?_ | simp only [vm, ite_true, ite_false, eq_self, reduceIte, Nat.reduceEqDiff, Option.map, d1, d2, g0, hm2] | refine And.intro (by omega) ?_))
  refine s_mk (n := m) (m := m) (by simp only [vm, ite_true, ite_false, eq_self, reduceIte, Nat.reduceEqDiff, Option.map]) (by simp only [vm, ite_true, ite_false, eq_self, reduceIte, Nat.reduceEqDiff, Option.map]) (Nat.le_refl _) (by omega) ?_
  (repeat (first | refine v_reg ?_ | refine v_last ?_ | refine vwp_seq ?_ | refine vwp_block ?_ | refine vwp_skip ?_ | refine vwp_exit ?_ | refine vwp_ret ?_ | refine v_cond ?_ | simp only [vm, ite_true, ite_false, eq_self, reduceIte, Nat.reduceEqDiff, Option.map, d1, d2] | refine And.intro (by omega) ?_))
  refine v_loop (fun S => ∃ w, w.length = m ∧ Lim 4294967296 w ∧ val 4294967296 w = Y ∧ S.ρ 5 = .buf c 0 m (some m) 1 ∧ S.σ = supd noBlk c (nblk w) ∧ c + 1 ≤ S.c) ?_ ?_
  · refine vwp_loop (fun r S => ∃ i w, r = m - i ∧ i ≤ m ∧ w.length = i ∧ Lim 4294967296 w ∧ val 4294967296 w = Y % 4294967296 ^ i ∧ S.ρ 0 = nats t x ∧ S.ρ 1 = iv k ∧ S.ρ 6 = iv s ∧ S.ρ 23 = iv m ∧ S.ρ 24 = iv i ∧ S.ρ 5 = .buf c 0 m (some m) 1 ∧ S.σ = supd noBlk c (nblk (w ++ List.replicate (m - i) 0)) ∧ c + 1 ≤ S.c) m ?_ ?_
    · refine ⟨0, [], by omega, by omega, ?_⟩
      simp only [vm, ite_true, ite_false, eq_self, reduceIte, Nat.reduceEqDiff, Option.map]
      (repeat' apply And.intro) <;> first | rfl | omega | assumption | exact Lim.nil | (simp [val, Nat.mod_one]; done)
    rintro r ⟨ρ2, σ, c4⟩ ⟨i, w, hr, hi, hw, hlw, hinv, h0, h1, h6, h23, h24, h5, hσ, hc4⟩
    dsimp only at h0 h1 h6 h23 h24 h5 hσ hc4
    subst hσ
    by_cases g : (i : Int) < m
    · have e0 : (i : Int) + (q : Int) = ((i + q : Nat) : Int) := by omega
      have e1 : ((i + q : Nat) : Int).toNat = i + q := by omega
      have e1b : i + q < x.length := by omega
      have e2 : ((i + q : Nat) : Int) + 1 = ((i + q + 1 : Nat) : Int) := by omega
      have e3 : min s 64 = s := by omega
      have hxi : x.getD (i + q) 0 < 4294967296 := by rw [hdg]; exact Nat.mod_lt _ (by decide)
      have hxj : x.getD (i + q + 1) 0 < 4294967296 := by rw [hdg]; exact Nat.mod_lt _ (by decide)
      have m1 : x.getD (i + q + 1) 0 * 4294967296 % 18446744073709551616 = x.getD (i + q + 1) 0 * 4294967296 := by omega
      have m2 : (x.getD (i + q) 0 + x.getD (i + q + 1) 0 * 4294967296) % 18446744073709551616 = x.getD (i + q) 0 + x.getD (i + q + 1) 0 * 4294967296 := by omega
      have m3 : (x.getD (i + q) 0 + x.getD (i + q + 1) 0 * 4294967296) / 2 ^ s % 4294967296 = Y / 4294967296 ^ i % 4294967296 := by
        rw [shr_digit (X := n / 4294967296 ^ (i + q)) (by omega) (hdg _) (by rw [hdg, Nat.pow_succ, Nat.div_div_eq_div_mul])]
        congr 1
        rw [hY, eY, Nat.div_div_eq_div_mul, Nat.div_div_eq_div_mul, Nat.div_div_eq_div_mul]
        congr 1
        rw [Nat.pow_add, Nat.mul_assoc, Nat.mul_comm (4294967296 ^ i), Nat.mul_assoc]
      have hlen : (w ++ List.replicate (m - i) 0).length = m := by simp; omega
      have hset : ∀ v, (w ++ List.replicate (m - i) 0).set i v = (w ++ [v]) ++ List.replicate (m - (i + 1)) 0 := fun v => by
        have := set_fill w (m - (i + 1)) v
        rw [hw] at this
        rw [show m - i = m - (i + 1) + 1 by omega, this]
      have key : val 4294967296 (w ++ [Y / 4294967296 ^ i % 4294967296]) = Y % 4294967296 ^ (i + 1) := by
        rw [val_append, hw, hinv, val, val, Nat.mul_zero, Nat.add_zero, Nat.mod_pow_succ]
      (repeat (first | refine v_reg ?_ | refine v_last ?_ | refine vwp_seq ?_ | refine vwp_block ?_ | refine vwp_skip ?_ | refine vwp_exit ?_ | refine vwp_ret ?_ | refine v_cond ?_ | simp only [vm, ite_true, ite_false, eq_self, reduceIte, Nat.reduceEqDiff, Option.map, h0, h1, h6, h23, h24, h5, g, d1, d2, e0, e1, e1b, e2] | refine And.intro (by omega) ?_))
      refine s_call (at_spec t x (i + q + 1) c4 (by omega)) (by simp only [vm, ite_true, ite_false, eq_self, reduceIte, Nat.reduceEqDiff, Option.map, List.map, h0]) ?_
      rintro v c5 hc5 rfl
      (repeat (first | refine v_reg ?_ | refine v_last ?_ | refine vwp_seq ?_ | refine vwp_block ?_ | refine vwp_skip ?_ | refine vwp_exit ?_ | refine vwp_ret ?_ | refine v_cond ?_ | simp only [vm, ite_true, ite_false, eq_self, reduceIte, Nat.reduceEqDiff, Option.map, h0, h1, h6, h23, h24, h5, e2, e3, m1, m2, hlen, hset] | refine And.intro (by omega) ?_))
      rw [m3]
      refine ⟨m - (i + 1), by omega, i + 1, w ++ [Y / 4294967296 ^ i % 4294967296], ?_⟩
      (repeat' apply And.intro) <;> first | rfl | exact key | exact lim_snoc hlw (Nat.mod_lt _ (by decide)) | (simp [hw]; done) | omega | assumption
    · have hi' : i = m := by omega
      subst hi'
      (repeat (first | refine v_reg ?_ | refine v_last ?_ | refine vwp_seq ?_ | refine vwp_block ?_ | refine vwp_skip ?_ | refine vwp_exit ?_ | refine vwp_ret ?_ | refine v_cond ?_ | simp only [vm, ite_true, ite_false, eq_self, reduceIte, Nat.reduceEqDiff, Option.map, h0, h1, h6, h23, h24, h5, g] | refine And.intro (by omega) ?_))
      refine ⟨w, ?_⟩
      have e0 : w ++ List.replicate (i - i) 0 = w := by simp
      rw [e0]
      have hv : val 4294967296 w = Y := by rw [hinv, Nat.mod_eq_of_lt hYlt]
      (repeat' apply And.intro) <;> first | rfl | omega | assumption | exact hv
  rintro ⟨ρ3, σ, c5⟩ ⟨w, hw, hlw, hvw, h5, hσ, hc5⟩
  dsimp only at h5 hσ hc5
  subst hσ
  refine v_freeze 5 (t := c) (off := 0) (n := m) (cap := some m) (l := w) (by simp only [vm, ite_true, ite_false, eq_self, reduceIte, Nat.reduceEqDiff, Option.map, h5]) (by simp only [vm, ite_true, ite_false, eq_self, reduceIte, Nat.reduceEqDiff, Option.map]) (by omega) (by omega) ?_
  rw [List.drop_zero, show w.take m = w from List.take_of_length_le (by omega)]
  (repeat (first | refine v_reg ?_ | refine v_last ?_ | refine vwp_seq ?_ | refine vwp_block ?_ | refine vwp_skip ?_ | refine vwp_exit ?_ | refine vwp_ret ?_ | refine v_cond ?_ | simp only [vm, ite_true, ite_false, eq_self, reduceIte, Nat.reduceEqDiff, Option.map] | refine And.intro (by omega) ?_))
  refine s_call (norm32_spec (.id c) w c5 hlw (by omega)) (by simp only [vm, ite_true, ite_false, eq_self, reduceIte, Nat.reduceEqDiff, Option.map, List.map]) ?_
  rintro v c6 hc6 rfl
  rw [hvw]
  (repeat (first | refine v_reg ?_ | refine v_last ?_ | refine vwp_seq ?_ | refine vwp_block ?_ | refine vwp_skip ?_ | refine vwp_exit ?_ | refine vwp_ret ?_ | refine v_cond ?_ | simp only [vm, ite_true, ite_false, eq_self, reduceIte, Nat.reduceEqDiff, Option.map] | refine And.intro (by omega) ?_))
  rw [← hY]
  exact ⟨_, rfl⟩
end Go.Proofs.YtacodmnlnlbahaaGreatDoor
set_option linter.unusedSimpArgs false
set_option linter.unusedVariables false
set_option maxRecDepth 100000
set_option maxHeartbeats 8000000
namespace Go.Proofs.YtacodmnlnlbahaaGreatDoor
open Go.VM

abbrev zV (t : Tok) (neg : Bool) (n : Nat) : V := .agg [bv neg, nats t (digs 4294967296 n)]
abbrev fV (t : Tok) (d : Dy) : V := .agg [bv d.neg, nats t (digs 4294967296 d.m), iv d.e]
def zneg (neg : Bool) (n : Nat) : Bool := neg && !decide (n = 0)
theorem lenOk {n : Nat} (h : bl n ≤ 68719476736) : (digs 4294967296 n).length ≤ 4398046511104 := Nat.le_trans (digs32_len h) (by decide)

theorem make1_spec (neg : Bool) (t : Tok) (n c : Nat) (hn : bl n ≤ 68719476736) : VSpec Tryz.prog F.surdref06_make1 c [bv neg, nats t (digs 4294967296 n)] (fun r _ => r = zV t (zneg neg n) n) := by
  refine spec_mk hm E.surdref06_make1 B.surdref06_make1 K.surdref06_make1 Q.surdref06_make1 (by rw [N.surdref06_make1]; simp) ?_
  unfold C.surdref06_make1 R.surdref06_make1
  have hl := lenOk hn
  cases neg
  · (repeat (first | refine v_reg ?_ | refine v_last ?_ | refine vwp_seq ?_ | refine vwp_block ?_ | refine vwp_skip ?_ | refine vwp_exit ?_ | refine vwp_ret ?_ | refine v_cond ?_ | simp (disch := omega) only [vm, ite_true, ite_false, eq_self, reduceIte, Nat.reduceEqDiff, Option.map, vst, List.length_cons, List.length_nil, List.set_cons_zero, List.set_cons_succ, List.map_cons, List.map_nil, Option.map_some, Option.bind_some, Nat.reduceAdd, Nat.reduceLT, Nat.reduceLeDiff, Nat.add_zero, and_self, k_ne, Nat.add_left_cancel_iff, ne_eq, Int.reduceEq, Int.reduceLT, Int.reduceLE, List.cons_append, List.nil_append, Nat.reduceDiv, Nat.reduceMul, Int.reduceToNat, Int.reduceAdd, Int.cast_ofNat_Int] | refine And.intro (by omega) ?_))
    (first | omega | rfl | ((repeat' apply And.intro) <;> first | rfl | omega | assumption))
  · (repeat (first | refine v_reg ?_ | refine v_last ?_ | refine vwp_seq ?_ | refine vwp_block ?_ | refine vwp_skip ?_ | refine vwp_exit ?_ | refine vwp_ret ?_ | refine v_cond ?_ | simp (disch := omega) only [vm, ite_true, ite_false, eq_self, reduceIte, Nat.reduceEqDiff, Option.map, vst, List.length_cons, List.length_nil, List.set_cons_zero, List.set_cons_succ, List.map_cons, List.map_nil, Option.map_some, Option.bind_some, Nat.reduceAdd, Nat.reduceLT, Nat.reduceLeDiff, Nat.add_zero, and_self, k_ne, Nat.add_left_cancel_iff, ne_eq, Int.reduceEq, Int.reduceLT, Int.reduceLE, List.cons_append, List.nil_append, Nat.reduceDiv, Nat.reduceMul, Int.reduceToNat, Int.reduceAdd, Int.cast_ofNat_Int] | refine And.intro (by omega) ?_))
    refine s_call (zero_spec t n (c + 1) hl) (by simp (disch := omega) only [vm, ite_true, ite_false, eq_self, reduceIte, Nat.reduceEqDiff, Option.map, vst, List.length_cons, List.length_nil, List.set_cons_zero, List.set_cons_succ, List.map_cons, List.map_nil, Option.map_some, Option.bind_some, Nat.reduceAdd, Nat.reduceLT, Nat.reduceLeDiff, Nat.add_zero, and_self, k_ne, Nat.add_left_cancel_iff, ne_eq, Int.reduceEq, Int.reduceLT, Int.reduceLE, List.cons_append, List.nil_append, Nat.reduceDiv, Nat.reduceMul, Int.reduceToNat, Int.reduceAdd, Int.cast_ofNat_Int]) ?_
    rintro v c1 hc1 rfl
    (repeat (first | refine v_reg ?_ | refine v_last ?_ | refine vwp_seq ?_ | refine vwp_block ?_ | refine vwp_skip ?_ | refine vwp_exit ?_ | refine vwp_ret ?_ | refine v_cond ?_ | simp (disch := omega) only [vm, ite_true, ite_false, eq_self, reduceIte, Nat.reduceEqDiff, Option.map, vst, List.length_cons, List.length_nil, List.set_cons_zero, List.set_cons_succ, List.map_cons, List.map_nil, Option.map_some, Option.bind_some, Nat.reduceAdd, Nat.reduceLT, Nat.reduceLeDiff, Nat.add_zero, and_self, k_ne, Nat.add_left_cancel_iff, ne_eq, Int.reduceEq, Int.reduceLT, Int.reduceLE, List.cons_append, List.nil_append, Nat.reduceDiv, Nat.reduceMul, Int.reduceToNat, Int.reduceAdd, Int.cast_ofNat_Int] | refine And.intro (by omega) ?_))
    (first | omega | rfl | ((repeat' apply And.intro) <;> first | rfl | omega | assumption))
theorem of06_spec (neg : Bool) (t : Tok) (l : List Nat) (c : Nat) (hl : Arg l) : VSpec Tryz.prog F.surdref06_Of c [bv neg, nats t l] (fun r _ => ∃ tk, r = zV tk (zneg neg (val 18446744073709551616 l)) (val 18446744073709551616 l)) := by
  refine spec_mk hm E.surdref06_Of B.surdref06_Of K.surdref06_Of Q.surdref06_Of (by rw [N.surdref06_Of]; simp) ?_
  unfold C.surdref06_Of R.surdref06_Of
  have h1 := hl.len
  have h2 := hl.bl
  (repeat (first | refine v_reg ?_ | refine v_last ?_ | refine vwp_seq ?_ | refine vwp_block ?_ | refine vwp_skip ?_ | refine vwp_exit ?_ | refine vwp_ret ?_ | refine v_cond ?_ | simp (disch := omega) only [vm, ite_true, ite_false, eq_self, reduceIte, Nat.reduceEqDiff, Option.map, vst, List.length_cons, List.length_nil, List.set_cons_zero, List.set_cons_succ, List.map_cons, List.map_nil, Option.map_some, Option.bind_some, Nat.reduceAdd, Nat.reduceLT, Nat.reduceLeDiff, Nat.add_zero, and_self, k_ne, Nat.add_left_cancel_iff, ne_eq, Int.reduceEq, Int.reduceLT, Int.reduceLE, List.cons_append, List.nil_append, Nat.reduceDiv, Nat.reduceMul, Int.reduceToNat, Int.reduceAdd, Int.cast_ofNat_Int] | refine And.intro (by omega) ?_))
  refine s_call (of_spec t l (c + 1) hl.lim (by omega)) (by simp (disch := omega) only [vm, ite_true, ite_false, eq_self, reduceIte, Nat.reduceEqDiff, Option.map, vst, List.length_cons, List.length_nil, List.set_cons_zero, List.set_cons_succ, List.map_cons, List.map_nil, Option.map_some, Option.bind_some, Nat.reduceAdd, Nat.reduceLT, Nat.reduceLeDiff, Nat.add_zero, and_self, k_ne, Nat.add_left_cancel_iff, ne_eq, Int.reduceEq, Int.reduceLT, Int.reduceLE, List.cons_append, List.nil_append, Nat.reduceDiv, Nat.reduceMul, Int.reduceToNat, Int.reduceAdd, Int.cast_ofNat_Int]) ?_
  rintro v c1 hc1 ⟨i, rfl, _, _⟩
  (repeat (first | refine v_reg ?_ | refine v_last ?_ | refine vwp_seq ?_ | refine vwp_block ?_ | refine vwp_skip ?_ | refine vwp_exit ?_ | refine vwp_ret ?_ | refine v_cond ?_ | simp (disch := omega) only [vm, ite_true, ite_false, eq_self, reduceIte, Nat.reduceEqDiff, Option.map, vst, List.length_cons, List.length_nil, List.set_cons_zero, List.set_cons_succ, List.map_cons, List.map_nil, Option.map_some, Option.bind_some, Nat.reduceAdd, Nat.reduceLT, Nat.reduceLeDiff, Nat.add_zero, and_self, k_ne, Nat.add_left_cancel_iff, ne_eq, Int.reduceEq, Int.reduceLT, Int.reduceLE, List.cons_append, List.nil_append, Nat.reduceDiv, Nat.reduceMul, Int.reduceToNat, Int.reduceAdd, Int.cast_ofNat_Int] | refine And.intro (by omega) ?_))
  refine s_call (make1_spec neg (.id i) (val 18446744073709551616 l) c1 (by omega)) (by simp (disch := omega) only [vm, ite_true, ite_false, eq_self, reduceIte, Nat.reduceEqDiff, Option.map, vst, List.length_cons, List.length_nil, List.set_cons_zero, List.set_cons_succ, List.map_cons, List.map_nil, Option.map_some, Option.bind_some, Nat.reduceAdd, Nat.reduceLT, Nat.reduceLeDiff, Nat.add_zero, and_self, k_ne, Nat.add_left_cancel_iff, ne_eq, Int.reduceEq, Int.reduceLT, Int.reduceLE, List.cons_append, List.nil_append, Nat.reduceDiv, Nat.reduceMul, Int.reduceToNat, Int.reduceAdd, Int.cast_ofNat_Int]) ?_
  rintro v c2 hc2 rfl
  (repeat (first | refine v_reg ?_ | refine v_last ?_ | refine vwp_seq ?_ | refine vwp_block ?_ | refine vwp_skip ?_ | refine vwp_exit ?_ | refine vwp_ret ?_ | refine v_cond ?_ | simp (disch := omega) only [vm, ite_true, ite_false, eq_self, reduceIte, Nat.reduceEqDiff, Option.map, vst, List.length_cons, List.length_nil, List.set_cons_zero, List.set_cons_succ, List.map_cons, List.map_nil, Option.map_some, Option.bind_some, Nat.reduceAdd, Nat.reduceLT, Nat.reduceLeDiff, Nat.add_zero, and_self, k_ne, Nat.add_left_cancel_iff, ne_eq, Int.reduceEq, Int.reduceLT, Int.reduceLE, List.cons_append, List.nil_append, Nat.reduceDiv, Nat.reduceMul, Int.reduceToNat, Int.reduceAdd, Int.cast_ofNat_Int] | refine And.intro (by omega) ?_))
  exact ⟨_, rfl⟩
theorem zsign_spec (neg : Bool) (t : Tok) (n c : Nat) (hn : bl n ≤ 68719476736) (hz : n = 0 → neg = false) : VSpec Tryz.prog F.surdref06_Z_Sign c [zV t neg n] (fun r _ => r = iv (sgW neg n)) := by
  refine spec_mk hm E.surdref06_Z_Sign B.surdref06_Z_Sign K.surdref06_Z_Sign Q.surdref06_Z_Sign (by rw [N.surdref06_Z_Sign]; simp) ?_
  unfold C.surdref06_Z_Sign R.surdref06_Z_Sign
  have hl := lenOk hn
  cases neg
  · (repeat (first | refine v_reg ?_ | refine v_last ?_ | refine vwp_seq ?_ | refine vwp_block ?_ | refine vwp_skip ?_ | refine vwp_exit ?_ | refine vwp_ret ?_ | refine v_cond ?_ | simp (disch := omega) only [vm, ite_true, ite_false, eq_self, reduceIte, Nat.reduceEqDiff, Option.map, vst, List.length_cons, List.length_nil, List.set_cons_zero, List.set_cons_succ, List.map_cons, List.map_nil, Option.map_some, Option.bind_some, Nat.reduceAdd, Nat.reduceLT, Nat.reduceLeDiff, Nat.add_zero, and_self, k_ne, Nat.add_left_cancel_iff, ne_eq, Int.reduceEq, Int.reduceLT, Int.reduceLE, List.cons_append, List.nil_append, Nat.reduceDiv, Nat.reduceMul, Int.reduceToNat, Int.reduceAdd, Int.cast_ofNat_Int] | refine And.intro (by omega) ?_))
    refine s_call (zero_spec t n (c + 1) hl) (by simp (disch := omega) only [vm, ite_true, ite_false, eq_self, reduceIte, Nat.reduceEqDiff, Option.map, vst, List.length_cons, List.length_nil, List.set_cons_zero, List.set_cons_succ, List.map_cons, List.map_nil, Option.map_some, Option.bind_some, Nat.reduceAdd, Nat.reduceLT, Nat.reduceLeDiff, Nat.add_zero, and_self, k_ne, Nat.add_left_cancel_iff, ne_eq, Int.reduceEq, Int.reduceLT, Int.reduceLE, List.cons_append, List.nil_append, Nat.reduceDiv, Nat.reduceMul, Int.reduceToNat, Int.reduceAdd, Int.cast_ofNat_Int]) ?_
    rintro v c1 hc1 rfl
    by_cases g : n = 0
    · have e : sgW false n = 0 := if_pos g
      rw [e]
      (repeat (first | refine v_reg ?_ | refine v_last ?_ | refine vwp_seq ?_ | refine vwp_block ?_ | refine vwp_skip ?_ | refine vwp_exit ?_ | refine vwp_ret ?_ | refine v_cond ?_ | simp (disch := omega) only [vm, ite_true, ite_false, eq_self, reduceIte, Nat.reduceEqDiff, Option.map, vst, List.length_cons, List.length_nil, List.set_cons_zero, List.set_cons_succ, List.map_cons, List.map_nil, Option.map_some, Option.bind_some, Nat.reduceAdd, Nat.reduceLT, Nat.reduceLeDiff, Nat.add_zero, and_self, k_ne, Nat.add_left_cancel_iff, ne_eq, Int.reduceEq, Int.reduceLT, Int.reduceLE, List.cons_append, List.nil_append, Nat.reduceDiv, Nat.reduceMul, Int.reduceToNat, Int.reduceAdd, Int.cast_ofNat_Int, g] | refine And.intro (by omega) ?_))
      (first | omega | rfl | ((repeat' apply And.intro) <;> first | rfl | omega | assumption))
    · have e : sgW false n = 1 := by unfold sgW; rw [if_neg g]; rfl
      rw [e]
      (repeat (first | refine v_reg ?_ | refine v_last ?_ | refine vwp_seq ?_ | refine vwp_block ?_ | refine vwp_skip ?_ | refine vwp_exit ?_ | refine vwp_ret ?_ | refine v_cond ?_ | simp (disch := omega) only [vm, ite_true, ite_false, eq_self, reduceIte, Nat.reduceEqDiff, Option.map, vst, List.length_cons, List.length_nil, List.set_cons_zero, List.set_cons_succ, List.map_cons, List.map_nil, Option.map_some, Option.bind_some, Nat.reduceAdd, Nat.reduceLT, Nat.reduceLeDiff, Nat.add_zero, and_self, k_ne, Nat.add_left_cancel_iff, ne_eq, Int.reduceEq, Int.reduceLT, Int.reduceLE, List.cons_append, List.nil_append, Nat.reduceDiv, Nat.reduceMul, Int.reduceToNat, Int.reduceAdd, Int.cast_ofNat_Int, g] | refine And.intro (by omega) ?_))
      (first | omega | rfl | ((repeat' apply And.intro) <;> first | rfl | omega | assumption))
  · have g : n ≠ 0 := fun h => by cases hz h
    have e : sgW true n = -1 := by unfold sgW; rw [if_neg g]; rfl
    rw [e]
    (repeat (first | refine v_reg ?_ | refine v_last ?_ | refine vwp_seq ?_ | refine vwp_block ?_ | refine vwp_skip ?_ | refine vwp_exit ?_ | refine vwp_ret ?_ | refine v_cond ?_ | simp (disch := omega) only [vm, ite_true, ite_false, eq_self, reduceIte, Nat.reduceEqDiff, Option.map, vst, List.length_cons, List.length_nil, List.set_cons_zero, List.set_cons_succ, List.map_cons, List.map_nil, Option.map_some, Option.bind_some, Nat.reduceAdd, Nat.reduceLT, Nat.reduceLeDiff, Nat.add_zero, and_self, k_ne, Nat.add_left_cancel_iff, ne_eq, Int.reduceEq, Int.reduceLT, Int.reduceLE, List.cons_append, List.nil_append, Nat.reduceDiv, Nat.reduceMul, Int.reduceToNat, Int.reduceAdd, Int.cast_ofNat_Int] | refine And.intro (by omega) ?_))
    (first | omega | rfl | ((repeat' apply And.intro) <;> first | rfl | omega | assumption))
theorem of08_spec (neg : Bool) (t : Tok) (n : Nat) (e : Int) (c : Nat) (hn : bl n ≤ 68719476736) (hz : n = 0 → neg = false) (he1 : -4611686018427387904 ≤ e) (he2 : e ≤ 4611686018427387904) :
    VSpec Tryz.prog F.surdref08_Of c [zV t neg n, iv e] (fun r _ => ∃ tk, r = fV tk (dyOf neg n e)) := by
  refine spec_mk hm E.surdref08_Of B.surdref08_Of K.surdref08_Of Q.surdref08_Of (by rw [N.surdref08_Of]; simp) ?_
  unfold C.surdref08_Of R.surdref08_Of
  (repeat (first | refine v_reg ?_ | refine v_last ?_ | refine vwp_seq ?_ | refine vwp_block ?_ | refine vwp_skip ?_ | refine vwp_exit ?_ | refine vwp_ret ?_ | refine v_cond ?_ | simp (disch := omega) only [vm, ite_true, ite_false, eq_self, reduceIte, Nat.reduceEqDiff, Option.map, vst, List.length_cons, List.length_nil, List.set_cons_zero, List.set_cons_succ, List.map_cons, List.map_nil, Option.map_some, Option.bind_some, Nat.reduceAdd, Nat.reduceLT, Nat.reduceLeDiff, Nat.add_zero, and_self, k_ne, Nat.add_left_cancel_iff, ne_eq, Int.reduceEq, Int.reduceLT, Int.reduceLE, List.cons_append, List.nil_append, Nat.reduceDiv, Nat.reduceMul, Int.reduceToNat, Int.reduceAdd, Int.cast_ofNat_Int] | refine And.intro (by omega) ?_))
  refine s_call (zsign_spec neg t n (c + 2) hn hz) (by simp (disch := omega) only [vm, ite_true, ite_false, eq_self, reduceIte, Nat.reduceEqDiff, Option.map, vst, List.length_cons, List.length_nil, List.set_cons_zero, List.set_cons_succ, List.map_cons, List.map_nil, Option.map_some, Option.bind_some, Nat.reduceAdd, Nat.reduceLT, Nat.reduceLeDiff, Nat.add_zero, and_self, k_ne, Nat.add_left_cancel_iff, ne_eq, Int.reduceEq, Int.reduceLT, Int.reduceLE, List.cons_append, List.nil_append, Nat.reduceDiv, Nat.reduceMul, Int.reduceToNat, Int.reduceAdd, Int.cast_ofNat_Int]) ?_
  rintro v c1 hc1 rfl
  by_cases g : n = 0
  · have e0 : sgW neg n = 0 := by unfold sgW; rw [if_pos g]
    have ed : dyOf neg n e = dy0 := by unfold dyOf; rw [if_pos g]
    rw [ed]
    (repeat (first | refine v_reg ?_ | refine v_last ?_ | refine vwp_seq ?_ | refine vwp_block ?_ | refine vwp_skip ?_ | refine vwp_exit ?_ | refine vwp_ret ?_ | refine v_cond ?_ | simp (disch := omega) only [vm, ite_true, ite_false, eq_self, reduceIte, Nat.reduceEqDiff, Option.map, vst, List.length_cons, List.length_nil, List.set_cons_zero, List.set_cons_succ, List.map_cons, List.map_nil, Option.map_some, Option.bind_some, Nat.reduceAdd, Nat.reduceLT, Nat.reduceLeDiff, Nat.add_zero, and_self, k_ne, Nat.add_left_cancel_iff, ne_eq, Int.reduceEq, Int.reduceLT, Int.reduceLE, List.cons_append, List.nil_append, Nat.reduceDiv, Nat.reduceMul, Int.reduceToNat, Int.reduceAdd, Int.cast_ofNat_Int, e0] | refine And.intro (by omega) ?_))
    exact ⟨.nil, rfl⟩
  · have e0 : ¬ sgW neg n = 0 := by unfold sgW; rw [if_neg g]; split <;> decide
    have ed : dyOf neg n e = ⟨neg, od n, e + (tz n : Int)⟩ := by unfold dyOf; rw [if_neg g]
    have htz : tz n ≤ 68719476736 := Nat.le_trans (tz_le_bl n) hn
    rw [ed]
    (repeat (first | refine v_reg ?_ | refine v_last ?_ | refine vwp_seq ?_ | refine vwp_block ?_ | refine vwp_skip ?_ | refine vwp_exit ?_ | refine vwp_ret ?_ | refine v_cond ?_ | simp (disch := omega) only [vm, ite_true, ite_false, eq_self, reduceIte, Nat.reduceEqDiff, Option.map, vst, List.length_cons, List.length_nil, List.set_cons_zero, List.set_cons_succ, List.map_cons, List.map_nil, Option.map_some, Option.bind_some, Nat.reduceAdd, Nat.reduceLT, Nat.reduceLeDiff, Nat.add_zero, and_self, k_ne, Nat.add_left_cancel_iff, ne_eq, Int.reduceEq, Int.reduceLT, Int.reduceLE, List.cons_append, List.nil_append, Nat.reduceDiv, Nat.reduceMul, Int.reduceToNat, Int.reduceAdd, Int.cast_ofNat_Int, e0] | refine And.intro (by omega) ?_))
    refine s_call (tailR t n c1 hn) (by simp (disch := omega) only [vm, ite_true, ite_false, eq_self, reduceIte, Nat.reduceEqDiff, Option.map, vst, List.length_cons, List.length_nil, List.set_cons_zero, List.set_cons_succ, List.map_cons, List.map_nil, Option.map_some, Option.bind_some, Nat.reduceAdd, Nat.reduceLT, Nat.reduceLeDiff, Nat.add_zero, and_self, k_ne, Nat.add_left_cancel_iff, ne_eq, Int.reduceEq, Int.reduceLT, Int.reduceLE, List.cons_append, List.nil_append, Nat.reduceDiv, Nat.reduceMul, Int.reduceToNat, Int.reduceAdd, Int.cast_ofNat_Int]) ?_
    rintro v c2 hc2 rfl
    (repeat (first | refine v_reg ?_ | refine v_last ?_ | refine vwp_seq ?_ | refine vwp_block ?_ | refine vwp_skip ?_ | refine vwp_exit ?_ | refine vwp_ret ?_ | refine v_cond ?_ | simp (disch := omega) only [vm, ite_true, ite_false, eq_self, reduceIte, Nat.reduceEqDiff, Option.map, vst, List.length_cons, List.length_nil, List.set_cons_zero, List.set_cons_succ, List.map_cons, List.map_nil, Option.map_some, Option.bind_some, Nat.reduceAdd, Nat.reduceLT, Nat.reduceLeDiff, Nat.add_zero, and_self, k_ne, Nat.add_left_cancel_iff, ne_eq, Int.reduceEq, Int.reduceLT, Int.reduceLE, List.cons_append, List.nil_append, Nat.reduceDiv, Nat.reduceMul, Int.reduceToNat, Int.reduceAdd, Int.cast_ofNat_Int] | refine And.intro (by omega) ?_))
    refine s_call (shrR t n (tz n) c2 hn (by omega)) (by simp (disch := omega) only [vm, ite_true, ite_false, eq_self, reduceIte, Nat.reduceEqDiff, Option.map, vst, List.length_cons, List.length_nil, List.set_cons_zero, List.set_cons_succ, List.map_cons, List.map_nil, Option.map_some, Option.bind_some, Nat.reduceAdd, Nat.reduceLT, Nat.reduceLeDiff, Nat.add_zero, and_self, k_ne, Nat.add_left_cancel_iff, ne_eq, Int.reduceEq, Int.reduceLT, Int.reduceLE, List.cons_append, List.nil_append, Nat.reduceDiv, Nat.reduceMul, Int.reduceToNat, Int.reduceAdd, Int.cast_ofNat_Int]) ?_
    rintro v c3 hc3 ⟨tk, rfl⟩
    (repeat (first | refine v_reg ?_ | refine v_last ?_ | refine vwp_seq ?_ | refine vwp_block ?_ | refine vwp_skip ?_ | refine vwp_exit ?_ | refine vwp_ret ?_ | refine v_cond ?_ | simp (disch := omega) only [vm, ite_true, ite_false, eq_self, reduceIte, Nat.reduceEqDiff, Option.map, vst, List.length_cons, List.length_nil, List.set_cons_zero, List.set_cons_succ, List.map_cons, List.map_nil, Option.map_some, Option.bind_some, Nat.reduceAdd, Nat.reduceLT, Nat.reduceLeDiff, Nat.add_zero, and_self, k_ne, Nat.add_left_cancel_iff, ne_eq, Int.reduceEq, Int.reduceLT, Int.reduceLE, List.cons_append, List.nil_append, Nat.reduceDiv, Nat.reduceMul, Int.reduceToNat, Int.reduceAdd, Int.cast_ofNat_Int] | refine And.intro (by omega) ?_))
    exact ⟨tk, rfl⟩
theorem fits_spec' (e : Int) (c : Nat) : VSpec Tryz.prog F.surdref08_Fits c [iv e] (fun r _ => r = bv (decide (fitE e))) := by
  refine spec_mk hm E.surdref08_Fits B.surdref08_Fits K.surdref08_Fits Q.surdref08_Fits (by rw [N.surdref08_Fits]; simp) ?_
  unfold C.surdref08_Fits R.surdref08_Fits
  by_cases g1 : -1099511627776 ≤ e
  · by_cases g2 : e ≤ 1099511627776
    · have g : fitE e := ⟨g1, g2⟩
      (repeat (first | refine v_reg ?_ | refine v_last ?_ | refine vwp_seq ?_ | refine vwp_block ?_ | refine vwp_skip ?_ | refine vwp_exit ?_ | refine vwp_ret ?_ | refine v_cond ?_ | simp only [vm, ite_true, ite_false, eq_self, reduceIte, Nat.reduceEqDiff, Option.map, g1, g2, g] | refine And.intro (by omega) ?_))
      omega
    · have g : ¬ fitE e := fun h => g2 h.2
      (repeat (first | refine v_reg ?_ | refine v_last ?_ | refine vwp_seq ?_ | refine vwp_block ?_ | refine vwp_skip ?_ | refine vwp_exit ?_ | refine vwp_ret ?_ | refine v_cond ?_ | simp only [vm, ite_true, ite_false, eq_self, reduceIte, Nat.reduceEqDiff, Option.map, g1, g2, g] | refine And.intro (by omega) ?_))
      omega
  · have g : ¬ fitE e := fun h => g1 h.1
    (repeat (first | refine v_reg ?_ | refine v_last ?_ | refine vwp_seq ?_ | refine vwp_block ?_ | refine vwp_skip ?_ | refine vwp_exit ?_ | refine vwp_ret ?_ | refine v_cond ?_ | simp only [vm, ite_true, ite_false, eq_self, reduceIte, Nat.reduceEqDiff, Option.map, g1, g] | refine And.intro (by omega) ?_))
    omega

structure RNum (d : Dy) : Prop where
  ok : d.Ok
  bits : bl d.m ≤ 68719476736
  lo : -2305843009213693952 ≤ d.e
  hi : d.e ≤ 2305843009213693952
theorem Num.r {d : Dy} (h : Num d) : RNum d := ⟨h.ok, by have := h.bits; omega, by have := h.lo; omega, by have := h.hi; omega⟩
theorem RNum.nz {d : Dy} (h : RNum d) : d.m = 0 → d.neg = false := fun g => by rw [h.ok.zero g]; rfl

theorem rtop_spec (t : Tok) (x : Dy) (c : Nat) (hx : RNum x) : VSpec Tryz.prog F.surdref08_D_Top c [fV t x] (fun r _ => r = iv x.top) := by
  refine spec_mk hm E.surdref08_D_Top B.surdref08_D_Top K.surdref08_D_Top Q.surdref08_D_Top (by rw [N.surdref08_D_Top]; simp) ?_
  unfold C.surdref08_D_Top R.surdref08_D_Top
  have h1 := hx.lo
  have h2 := hx.hi
  have h3 := hx.bits
  (repeat (first | refine v_reg ?_ | refine v_last ?_ | refine vwp_seq ?_ | refine vwp_block ?_ | refine vwp_skip ?_ | refine vwp_exit ?_ | refine vwp_ret ?_ | refine v_cond ?_ | simp (disch := omega) only [vm, ite_true, ite_false, eq_self, reduceIte, Nat.reduceEqDiff, Option.map, vst, List.length_cons, List.length_nil, List.set_cons_zero, List.set_cons_succ, List.map_cons, List.map_nil, Option.map_some, Option.bind_some, Nat.reduceAdd, Nat.reduceLT, Nat.reduceLeDiff, Nat.add_zero, and_self, k_ne, Nat.add_left_cancel_iff, ne_eq, Int.reduceEq, Int.reduceLT, Int.reduceLE, List.cons_append, List.nil_append, Nat.reduceDiv, Nat.reduceMul, Int.reduceToNat, Int.reduceAdd, Int.cast_ofNat_Int] | refine And.intro (by omega) ?_))
  refine s_call (len_spec t x.m (c + 1) (lenOk h3)) (by simp (disch := omega) only [vm, ite_true, ite_false, eq_self, reduceIte, Nat.reduceEqDiff, Option.map, vst, List.length_cons, List.length_nil, List.set_cons_zero, List.set_cons_succ, List.map_cons, List.map_nil, Option.map_some, Option.bind_some, Nat.reduceAdd, Nat.reduceLT, Nat.reduceLeDiff, Nat.add_zero, and_self, k_ne, Nat.add_left_cancel_iff, ne_eq, Int.reduceEq, Int.reduceLT, Int.reduceLE, List.cons_append, List.nil_append, Nat.reduceDiv, Nat.reduceMul, Int.reduceToNat, Int.reduceAdd, Int.cast_ofNat_Int]) ?_
  rintro v c1 hc1 rfl
  have et : x.top = (bl x.m : Int) - 1 + x.e := by unfold Dy.top; omega
  rw [et]
  (repeat (first | refine v_reg ?_ | refine v_last ?_ | refine vwp_seq ?_ | refine vwp_block ?_ | refine vwp_skip ?_ | refine vwp_exit ?_ | refine vwp_ret ?_ | refine v_cond ?_ | simp (disch := omega) only [vm, ite_true, ite_false, eq_self, reduceIte, Nat.reduceEqDiff, Option.map, vst, List.length_cons, List.length_nil, List.set_cons_zero, List.set_cons_succ, List.map_cons, List.map_nil, Option.map_some, Option.bind_some, Nat.reduceAdd, Nat.reduceLT, Nat.reduceLeDiff, Nat.add_zero, and_self, k_ne, Nat.add_left_cancel_iff, ne_eq, Int.reduceEq, Int.reduceLT, Int.reduceLE, List.cons_append, List.nil_append, Nat.reduceDiv, Nat.reduceMul, Int.reduceToNat, Int.reduceAdd, Int.cast_ofNat_Int] | refine And.intro (by omega) ?_))
  (first | omega | rfl | ((repeat' apply And.intro) <;> first | rfl | omega | assumption))
theorem rtold_spec (t : Tok) (x : Dy) (c : Nat) (hx : RNum x) : VSpec Tryz.prog F.surdref08_Told c [fV t x] (fun r _ => ∃ tk, r = .tup [fV tk (ansD x), iv (tE x)]) := by
  refine spec_mk hm E.surdref08_Told B.surdref08_Told K.surdref08_Told Q.surdref08_Told (by rw [N.surdref08_Told]; simp) ?_
  unfold C.surdref08_Told R.surdref08_Told
  have h3 := hx.bits
  (repeat (first | refine v_reg ?_ | refine v_last ?_ | refine vwp_seq ?_ | refine vwp_block ?_ | refine vwp_skip ?_ | refine vwp_exit ?_ | refine vwp_ret ?_ | refine v_cond ?_ | simp (disch := omega) only [vm, ite_true, ite_false, eq_self, reduceIte, Nat.reduceEqDiff, Option.map, vst, List.length_cons, List.length_nil, List.set_cons_zero, List.set_cons_succ, List.map_cons, List.map_nil, Option.map_some, Option.bind_some, Nat.reduceAdd, Nat.reduceLT, Nat.reduceLeDiff, Nat.add_zero, and_self, k_ne, Nat.add_left_cancel_iff, ne_eq, Int.reduceEq, Int.reduceLT, Int.reduceLE, List.cons_append, List.nil_append, Nat.reduceDiv, Nat.reduceMul, Int.reduceToNat, Int.reduceAdd, Int.cast_ofNat_Int] | refine And.intro (by omega) ?_))
  refine s_call (len_spec t x.m (c + 2) (lenOk h3)) (by simp (disch := omega) only [vm, ite_true, ite_false, eq_self, reduceIte, Nat.reduceEqDiff, Option.map, vst, List.length_cons, List.length_nil, List.set_cons_zero, List.set_cons_succ, List.map_cons, List.map_nil, Option.map_some, Option.bind_some, Nat.reduceAdd, Nat.reduceLT, Nat.reduceLeDiff, Nat.add_zero, and_self, k_ne, Nat.add_left_cancel_iff, ne_eq, Int.reduceEq, Int.reduceLT, Int.reduceLE, List.cons_append, List.nil_append, Nat.reduceDiv, Nat.reduceMul, Int.reduceToNat, Int.reduceAdd, Int.cast_ofNat_Int]) ?_
  rintro v c1 hc1 rfl
  rcases tE_cases x with ⟨h1, h2⟩ | ⟨h1, h2, h3⟩ | ⟨h1, h2, h3⟩
  · have g1 : (67108864 : Int) < (bl x.m : Int) := by omega
    rw [ansD_bad (by rw [h2]; decide), h2]
    (repeat (first | refine v_reg ?_ | refine v_last ?_ | refine vwp_seq ?_ | refine vwp_block ?_ | refine vwp_skip ?_ | refine vwp_exit ?_ | refine vwp_ret ?_ | refine v_cond ?_ | simp (disch := omega) only [vm, ite_true, ite_false, eq_self, reduceIte, Nat.reduceEqDiff, Option.map, vst, List.length_cons, List.length_nil, List.set_cons_zero, List.set_cons_succ, List.map_cons, List.map_nil, Option.map_some, Option.bind_some, Nat.reduceAdd, Nat.reduceLT, Nat.reduceLeDiff, Nat.add_zero, and_self, k_ne, Nat.add_left_cancel_iff, ne_eq, Int.reduceEq, Int.reduceLT, Int.reduceLE, List.cons_append, List.nil_append, Nat.reduceDiv, Nat.reduceMul, Int.reduceToNat, Int.reduceAdd, Int.cast_ofNat_Int, g1] | refine And.intro (by omega) ?_))
    exact ⟨.nil, rfl⟩
  · have g1 : ¬ (67108864 : Int) < (bl x.m : Int) := by omega
    rw [ansD_ok h3, h3]
    (repeat (first | refine v_reg ?_ | refine v_last ?_ | refine vwp_seq ?_ | refine vwp_block ?_ | refine vwp_skip ?_ | refine vwp_exit ?_ | refine vwp_ret ?_ | refine v_cond ?_ | simp (disch := omega) only [vm, ite_true, ite_false, eq_self, reduceIte, Nat.reduceEqDiff, Option.map, vst, List.length_cons, List.length_nil, List.set_cons_zero, List.set_cons_succ, List.map_cons, List.map_nil, Option.map_some, Option.bind_some, Nat.reduceAdd, Nat.reduceLT, Nat.reduceLeDiff, Nat.add_zero, and_self, k_ne, Nat.add_left_cancel_iff, ne_eq, Int.reduceEq, Int.reduceLT, Int.reduceLE, List.cons_append, List.nil_append, Nat.reduceDiv, Nat.reduceMul, Int.reduceToNat, Int.reduceAdd, Int.cast_ofNat_Int, g1] | refine And.intro (by omega) ?_))
    refine s_call (fits_spec' x.e c1) (by simp (disch := omega) only [vm, ite_true, ite_false, eq_self, reduceIte, Nat.reduceEqDiff, Option.map, vst, List.length_cons, List.length_nil, List.set_cons_zero, List.set_cons_succ, List.map_cons, List.map_nil, Option.map_some, Option.bind_some, Nat.reduceAdd, Nat.reduceLT, Nat.reduceLeDiff, Nat.add_zero, and_self, k_ne, Nat.add_left_cancel_iff, ne_eq, Int.reduceEq, Int.reduceLT, Int.reduceLE, List.cons_append, List.nil_append, Nat.reduceDiv, Nat.reduceMul, Int.reduceToNat, Int.reduceAdd, Int.cast_ofNat_Int]) ?_
    rintro v c2 hc2 rfl
    (repeat (first | refine v_reg ?_ | refine v_last ?_ | refine vwp_seq ?_ | refine vwp_block ?_ | refine vwp_skip ?_ | refine vwp_exit ?_ | refine vwp_ret ?_ | refine v_cond ?_ | simp (disch := omega) only [vm, ite_true, ite_false, eq_self, reduceIte, Nat.reduceEqDiff, Option.map, vst, List.length_cons, List.length_nil, List.set_cons_zero, List.set_cons_succ, List.map_cons, List.map_nil, Option.map_some, Option.bind_some, Nat.reduceAdd, Nat.reduceLT, Nat.reduceLeDiff, Nat.add_zero, and_self, k_ne, Nat.add_left_cancel_iff, ne_eq, Int.reduceEq, Int.reduceLT, Int.reduceLE, List.cons_append, List.nil_append, Nat.reduceDiv, Nat.reduceMul, Int.reduceToNat, Int.reduceAdd, Int.cast_ofNat_Int, g1, h2] | refine And.intro (by omega) ?_))
    exact ⟨t, rfl⟩
  · have g1 : ¬ (67108864 : Int) < (bl x.m : Int) := by omega
    rw [ansD_bad (by rw [h3]; decide), h3]
    (repeat (first | refine v_reg ?_ | refine v_last ?_ | refine vwp_seq ?_ | refine vwp_block ?_ | refine vwp_skip ?_ | refine vwp_exit ?_ | refine vwp_ret ?_ | refine v_cond ?_ | simp (disch := omega) only [vm, ite_true, ite_false, eq_self, reduceIte, Nat.reduceEqDiff, Option.map, vst, List.length_cons, List.length_nil, List.set_cons_zero, List.set_cons_succ, List.map_cons, List.map_nil, Option.map_some, Option.bind_some, Nat.reduceAdd, Nat.reduceLT, Nat.reduceLeDiff, Nat.add_zero, and_self, k_ne, Nat.add_left_cancel_iff, ne_eq, Int.reduceEq, Int.reduceLT, Int.reduceLE, List.cons_append, List.nil_append, Nat.reduceDiv, Nat.reduceMul, Int.reduceToNat, Int.reduceAdd, Int.cast_ofNat_Int, g1] | refine And.intro (by omega) ?_))
    refine s_call (fits_spec' x.e c1) (by simp (disch := omega) only [vm, ite_true, ite_false, eq_self, reduceIte, Nat.reduceEqDiff, Option.map, vst, List.length_cons, List.length_nil, List.set_cons_zero, List.set_cons_succ, List.map_cons, List.map_nil, Option.map_some, Option.bind_some, Nat.reduceAdd, Nat.reduceLT, Nat.reduceLeDiff, Nat.add_zero, and_self, k_ne, Nat.add_left_cancel_iff, ne_eq, Int.reduceEq, Int.reduceLT, Int.reduceLE, List.cons_append, List.nil_append, Nat.reduceDiv, Nat.reduceMul, Int.reduceToNat, Int.reduceAdd, Int.cast_ofNat_Int]) ?_
    rintro v c2 hc2 rfl
    (repeat (first | refine v_reg ?_ | refine v_last ?_ | refine vwp_seq ?_ | refine vwp_block ?_ | refine vwp_skip ?_ | refine vwp_exit ?_ | refine vwp_ret ?_ | refine v_cond ?_ | simp (disch := omega) only [vm, ite_true, ite_false, eq_self, reduceIte, Nat.reduceEqDiff, Option.map, vst, List.length_cons, List.length_nil, List.set_cons_zero, List.set_cons_succ, List.map_cons, List.map_nil, Option.map_some, Option.bind_some, Nat.reduceAdd, Nat.reduceLT, Nat.reduceLeDiff, Nat.add_zero, and_self, k_ne, Nat.add_left_cancel_iff, ne_eq, Int.reduceEq, Int.reduceLT, Int.reduceLE, List.cons_append, List.nil_append, Nat.reduceDiv, Nat.reduceMul, Int.reduceToNat, Int.reduceAdd, Int.cast_ofNat_Int, g1, h2] | refine And.intro (by omega) ?_))
    exact ⟨.nil, rfl⟩
theorem rworst_spec (e f : Int) (c : Nat) : VSpec Tryz.prog F.surdref10_worst c [iv e, iv f] (fun r _ => r = iv (worstE e f)) := by
  refine spec_mk hm E.surdref10_worst B.surdref10_worst K.surdref10_worst Q.surdref10_worst (by rw [N.surdref10_worst]; simp) ?_
  unfold C.surdref10_worst R.surdref10_worst
  by_cases g1 : e = 3
  · have ew : worstE e f = 3 := by unfold worstE; rw [if_pos (.inl g1)]
    rw [ew]
    (repeat (first | refine v_reg ?_ | refine v_last ?_ | refine vwp_seq ?_ | refine vwp_block ?_ | refine vwp_skip ?_ | refine vwp_exit ?_ | refine vwp_ret ?_ | refine v_cond ?_ | simp (disch := omega) only [vm, ite_true, ite_false, eq_self, reduceIte, Nat.reduceEqDiff, Option.map, vst, List.length_cons, List.length_nil, List.set_cons_zero, List.set_cons_succ, List.map_cons, List.map_nil, Option.map_some, Option.bind_some, Nat.reduceAdd, Nat.reduceLT, Nat.reduceLeDiff, Nat.add_zero, and_self, k_ne, Nat.add_left_cancel_iff, ne_eq, Int.reduceEq, Int.reduceLT, Int.reduceLE, List.cons_append, List.nil_append, Nat.reduceDiv, Nat.reduceMul, Int.reduceToNat, Int.reduceAdd, Int.cast_ofNat_Int, g1] | refine And.intro (by omega) ?_))
    (first | omega | rfl | ((repeat' apply And.intro) <;> first | rfl | omega | assumption))
  by_cases g2 : f = 3
  · have ew : worstE e f = 3 := by unfold worstE; rw [if_pos (.inr g2)]
    rw [ew]
    (repeat (first | refine v_reg ?_ | refine v_last ?_ | refine vwp_seq ?_ | refine vwp_block ?_ | refine vwp_skip ?_ | refine vwp_exit ?_ | refine vwp_ret ?_ | refine v_cond ?_ | simp (disch := omega) only [vm, ite_true, ite_false, eq_self, reduceIte, Nat.reduceEqDiff, Option.map, vst, List.length_cons, List.length_nil, List.set_cons_zero, List.set_cons_succ, List.map_cons, List.map_nil, Option.map_some, Option.bind_some, Nat.reduceAdd, Nat.reduceLT, Nat.reduceLeDiff, Nat.add_zero, and_self, k_ne, Nat.add_left_cancel_iff, ne_eq, Int.reduceEq, Int.reduceLT, Int.reduceLE, List.cons_append, List.nil_append, Nat.reduceDiv, Nat.reduceMul, Int.reduceToNat, Int.reduceAdd, Int.cast_ofNat_Int, g1, g2] | refine And.intro (by omega) ?_))
    (first | omega | rfl | ((repeat' apply And.intro) <;> first | rfl | omega | assumption))
  by_cases g3 : e = 0
  · have ew : worstE e f = f := by unfold worstE; rw [if_neg (by omega), if_neg (by omega)]
    rw [ew]
    subst g3
    (repeat (first | refine v_reg ?_ | refine v_last ?_ | refine vwp_seq ?_ | refine vwp_block ?_ | refine vwp_skip ?_ | refine vwp_exit ?_ | refine vwp_ret ?_ | refine v_cond ?_ | simp (disch := omega) only [vm, ite_true, ite_false, eq_self, reduceIte, Nat.reduceEqDiff, Option.map, vst, List.length_cons, List.length_nil, List.set_cons_zero, List.set_cons_succ, List.map_cons, List.map_nil, Option.map_some, Option.bind_some, Nat.reduceAdd, Nat.reduceLT, Nat.reduceLeDiff, Nat.add_zero, and_self, k_ne, Nat.add_left_cancel_iff, ne_eq, Int.reduceEq, Int.reduceLT, Int.reduceLE, List.cons_append, List.nil_append, Nat.reduceDiv, Nat.reduceMul, Int.reduceToNat, Int.reduceAdd, Int.cast_ofNat_Int, g2] | refine And.intro (by omega) ?_))
    (first | omega | rfl | ((repeat' apply And.intro) <;> first | rfl | omega | assumption))
  · have ew : worstE e f = e := by unfold worstE; rw [if_neg (by omega), if_pos g3]
    rw [ew]
    (repeat (first | refine v_reg ?_ | refine v_last ?_ | refine vwp_seq ?_ | refine vwp_block ?_ | refine vwp_skip ?_ | refine vwp_exit ?_ | refine vwp_ret ?_ | refine v_cond ?_ | simp (disch := omega) only [vm, ite_true, ite_false, eq_self, reduceIte, Nat.reduceEqDiff, Option.map, vst, List.length_cons, List.length_nil, List.set_cons_zero, List.set_cons_succ, List.map_cons, List.map_nil, Option.map_some, Option.bind_some, Nat.reduceAdd, Nat.reduceLT, Nat.reduceLeDiff, Nat.add_zero, and_self, k_ne, Nat.add_left_cancel_iff, ne_eq, Int.reduceEq, Int.reduceLT, Int.reduceLE, List.cons_append, List.nil_append, Nat.reduceDiv, Nat.reduceMul, Int.reduceToNat, Int.reduceAdd, Int.cast_ofNat_Int, g1, g2, g3] | refine And.intro (by omega) ?_))
    (first | omega | rfl | ((repeat' apply And.intro) <;> first | rfl | omega | assumption))
abbrev fsV (t u : Tok) (a b : Dy) : V := .agg [bv a.neg, nats t (digs 4294967296 a.m), iv a.e, bv b.neg, nats u (digs 4294967296 b.m), iv b.e]
theorem rtold10_spec (t u : Tok) (x y : Dy) (c : Nat) (hx : RNum x) (hy : RNum y) : VSpec Tryz.prog F.surdref10_Told c [fsV t u x y] (fun r _ => ∃ tk uk, r = .tup [fsV tk uk (ansL x y) (ansH x y), iv (ansE x y)]) := by
  refine spec_mk hm E.surdref10_Told B.surdref10_Told K.surdref10_Told Q.surdref10_Told (by rw [N.surdref10_Told]; simp) ?_
  unfold C.surdref10_Told R.surdref10_Told
  (repeat (first | refine v_reg ?_ | refine v_last ?_ | refine vwp_seq ?_ | refine vwp_block ?_ | refine vwp_skip ?_ | refine vwp_exit ?_ | refine vwp_ret ?_ | refine v_cond ?_ | simp (disch := omega) only [vm, ite_true, ite_false, eq_self, reduceIte, Nat.reduceEqDiff, Option.map, vst, List.length_cons, List.length_nil, List.set_cons_zero, List.set_cons_succ, List.map_cons, List.map_nil, Option.map_some, Option.bind_some, Nat.reduceAdd, Nat.reduceLT, Nat.reduceLeDiff, Nat.add_zero, and_self, k_ne, Nat.add_left_cancel_iff, ne_eq, Int.reduceEq, Int.reduceLT, Int.reduceLE, List.cons_append, List.nil_append, Nat.reduceDiv, Nat.reduceMul, Int.reduceToNat, Int.reduceAdd, Int.cast_ofNat_Int] | refine And.intro (by omega) ?_))
  refine s_call (rtold_spec t x (c + 2) hx) (by simp (disch := omega) only [vm, ite_true, ite_false, eq_self, reduceIte, Nat.reduceEqDiff, Option.map, vst, List.length_cons, List.length_nil, List.set_cons_zero, List.set_cons_succ, List.map_cons, List.map_nil, Option.map_some, Option.bind_some, Nat.reduceAdd, Nat.reduceLT, Nat.reduceLeDiff, Nat.add_zero, and_self, k_ne, Nat.add_left_cancel_iff, ne_eq, Int.reduceEq, Int.reduceLT, Int.reduceLE, List.cons_append, List.nil_append, Nat.reduceDiv, Nat.reduceMul, Int.reduceToNat, Int.reduceAdd, Int.cast_ofNat_Int]) ?_
  rintro v c1 hc1 ⟨t1, rfl⟩
  (repeat (first | refine v_reg ?_ | refine v_last ?_ | refine vwp_seq ?_ | refine vwp_block ?_ | refine vwp_skip ?_ | refine vwp_exit ?_ | refine vwp_ret ?_ | refine v_cond ?_ | simp (disch := omega) only [vm, ite_true, ite_false, eq_self, reduceIte, Nat.reduceEqDiff, Option.map, vst, List.length_cons, List.length_nil, List.set_cons_zero, List.set_cons_succ, List.map_cons, List.map_nil, Option.map_some, Option.bind_some, Nat.reduceAdd, Nat.reduceLT, Nat.reduceLeDiff, Nat.add_zero, and_self, k_ne, Nat.add_left_cancel_iff, ne_eq, Int.reduceEq, Int.reduceLT, Int.reduceLE, List.cons_append, List.nil_append, Nat.reduceDiv, Nat.reduceMul, Int.reduceToNat, Int.reduceAdd, Int.cast_ofNat_Int] | refine And.intro (by omega) ?_))
  refine s_call (rtold_spec u y (c1 + 1) hy) (by simp (disch := omega) only [vm, ite_true, ite_false, eq_self, reduceIte, Nat.reduceEqDiff, Option.map, vst, List.length_cons, List.length_nil, List.set_cons_zero, List.set_cons_succ, List.map_cons, List.map_nil, Option.map_some, Option.bind_some, Nat.reduceAdd, Nat.reduceLT, Nat.reduceLeDiff, Nat.add_zero, and_self, k_ne, Nat.add_left_cancel_iff, ne_eq, Int.reduceEq, Int.reduceLT, Int.reduceLE, List.cons_append, List.nil_append, Nat.reduceDiv, Nat.reduceMul, Int.reduceToNat, Int.reduceAdd, Int.cast_ofNat_Int]) ?_
  rintro v c2 hc2 ⟨t2, rfl⟩
  (repeat (first | refine v_reg ?_ | refine v_last ?_ | refine vwp_seq ?_ | refine vwp_block ?_ | refine vwp_skip ?_ | refine vwp_exit ?_ | refine vwp_ret ?_ | refine v_cond ?_ | simp (disch := omega) only [vm, ite_true, ite_false, eq_self, reduceIte, Nat.reduceEqDiff, Option.map, vst, List.length_cons, List.length_nil, List.set_cons_zero, List.set_cons_succ, List.map_cons, List.map_nil, Option.map_some, Option.bind_some, Nat.reduceAdd, Nat.reduceLT, Nat.reduceLeDiff, Nat.add_zero, and_self, k_ne, Nat.add_left_cancel_iff, ne_eq, Int.reduceEq, Int.reduceLT, Int.reduceLE, List.cons_append, List.nil_append, Nat.reduceDiv, Nat.reduceMul, Int.reduceToNat, Int.reduceAdd, Int.cast_ofNat_Int] | refine And.intro (by omega) ?_))
  refine s_call (rworst_spec (tE x) (tE y) (c2 + 1)) (by simp (disch := omega) only [vm, ite_true, ite_false, eq_self, reduceIte, Nat.reduceEqDiff, Option.map, vst, List.length_cons, List.length_nil, List.set_cons_zero, List.set_cons_succ, List.map_cons, List.map_nil, Option.map_some, Option.bind_some, Nat.reduceAdd, Nat.reduceLT, Nat.reduceLeDiff, Nat.add_zero, and_self, k_ne, Nat.add_left_cancel_iff, ne_eq, Int.reduceEq, Int.reduceLT, Int.reduceLE, List.cons_append, List.nil_append, Nat.reduceDiv, Nat.reduceMul, Int.reduceToNat, Int.reduceAdd, Int.cast_ofNat_Int]) ?_
  rintro v c3 hc3 rfl
  have ee : worstE (tE x) (tE y) = ansE x y := rfl
  rw [ee]
  by_cases g : ansE x y = 0
  · have e1 : ansL x y = x := if_pos g
    have e2 : ansH x y = y := if_pos g
    rw [e1, e2]
    (repeat (first | refine v_reg ?_ | refine v_last ?_ | refine vwp_seq ?_ | refine vwp_block ?_ | refine vwp_skip ?_ | refine vwp_exit ?_ | refine vwp_ret ?_ | refine v_cond ?_ | simp (disch := omega) only [vm, ite_true, ite_false, eq_self, reduceIte, Nat.reduceEqDiff, Option.map, vst, List.length_cons, List.length_nil, List.set_cons_zero, List.set_cons_succ, List.map_cons, List.map_nil, Option.map_some, Option.bind_some, Nat.reduceAdd, Nat.reduceLT, Nat.reduceLeDiff, Nat.add_zero, and_self, k_ne, Nat.add_left_cancel_iff, ne_eq, Int.reduceEq, Int.reduceLT, Int.reduceLE, List.cons_append, List.nil_append, Nat.reduceDiv, Nat.reduceMul, Int.reduceToNat, Int.reduceAdd, Int.cast_ofNat_Int, g] | refine And.intro (by omega) ?_))
    exact ⟨t, u, rfl⟩
  · have e1 : ansL x y = dy0 := if_neg g
    have e2 : ansH x y = dy0 := if_neg g
    rw [e1, e2]
    (repeat (first | refine v_reg ?_ | refine v_last ?_ | refine vwp_seq ?_ | refine vwp_block ?_ | refine vwp_skip ?_ | refine vwp_exit ?_ | refine vwp_ret ?_ | refine v_cond ?_ | simp (disch := omega) only [vm, ite_true, ite_false, eq_self, reduceIte, Nat.reduceEqDiff, Option.map, vst, List.length_cons, List.length_nil, List.set_cons_zero, List.set_cons_succ, List.map_cons, List.map_nil, Option.map_some, Option.bind_some, Nat.reduceAdd, Nat.reduceLT, Nat.reduceLeDiff, Nat.add_zero, and_self, k_ne, Nat.add_left_cancel_iff, ne_eq, Int.reduceEq, Int.reduceLT, Int.reduceLE, List.cons_append, List.nil_append, Nat.reduceDiv, Nat.reduceMul, Int.reduceToNat, Int.reduceAdd, Int.cast_ofNat_Int, g] | refine And.intro (by omega) ?_))
    refine s_call (rworst_spec (tE x) (tE y) c3) (by simp (disch := omega) only [vm, ite_true, ite_false, eq_self, reduceIte, Nat.reduceEqDiff, Option.map, vst, List.length_cons, List.length_nil, List.set_cons_zero, List.set_cons_succ, List.map_cons, List.map_nil, Option.map_some, Option.bind_some, Nat.reduceAdd, Nat.reduceLT, Nat.reduceLeDiff, Nat.add_zero, and_self, k_ne, Nat.add_left_cancel_iff, ne_eq, Int.reduceEq, Int.reduceLT, Int.reduceLE, List.cons_append, List.nil_append, Nat.reduceDiv, Nat.reduceMul, Int.reduceToNat, Int.reduceAdd, Int.cast_ofNat_Int]) ?_
    rintro v c4 hc4 rfl
    rw [ee]
    (repeat (first | refine v_reg ?_ | refine v_last ?_ | refine vwp_seq ?_ | refine vwp_block ?_ | refine vwp_skip ?_ | refine vwp_exit ?_ | refine vwp_ret ?_ | refine v_cond ?_ | simp (disch := omega) only [vm, ite_true, ite_false, eq_self, reduceIte, Nat.reduceEqDiff, Option.map, vst, List.length_cons, List.length_nil, List.set_cons_zero, List.set_cons_succ, List.map_cons, List.map_nil, Option.map_some, Option.bind_some, Nat.reduceAdd, Nat.reduceLT, Nat.reduceLeDiff, Nat.add_zero, and_self, k_ne, Nat.add_left_cancel_iff, ne_eq, Int.reduceEq, Int.reduceLT, Int.reduceLE, List.cons_append, List.nil_append, Nat.reduceDiv, Nat.reduceMul, Int.reduceToNat, Int.reduceAdd, Int.cast_ofNat_Int] | refine And.intro (by omega) ?_))
    exact ⟨.nil, .nil, rfl⟩
end Go.Proofs.YtacodmnlnlbahaaGreatDoor
