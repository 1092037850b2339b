/- The claim of RootLogs (the greatest exponent, for any number and base) of the program holds: whatever list and numbers come in (of bulk at most 1048576 in all, as the statement says), the law answers true, and memory that was there is as it was. -/
import Derived.Test.YtladcfeibpddeabLogM5
set_option linter.unusedSimpArgs false
set_option linter.unusedVariables false
set_option maxRecDepth 100000
set_option maxHeartbeats 8000000
namespace Go.Proofs.Ytladcfeibpddeab
open Go.VM

def wholeL (a : List Nat) : List Nat := [10855845, 10855845] ++ a ++ [10855845, 10855845]
theorem wholeL_len (a : List Nat) : (wholeL a).length = a.length + 4 := by simp [wholeL]
theorem wholeL_at (a : List Nat) (i : Nat) (h : i < a.length + 4) : (wholeL a).getD i 0 = if 2 ≤ i ∧ i < a.length + 2 then a.getD (i - 2) 0 else 10855845 := by
  unfold wholeL
  rcases Nat.lt_or_ge i 2 with g | g
  · rw [if_neg (by omega)]
    match i, g with
    | 0, _ => rfl
    | 1, _ => rfl
  · obtain ⟨j, rfl⟩ : ∃ j, i = j + 2 := ⟨i - 2, by omega⟩
    show (a ++ [10855845, 10855845]).getD j 0 = _
    rcases Nat.lt_or_ge j a.length with g2 | g2
    · rw [if_pos (by omega), getD_append_left g2]; rfl
    · rw [if_neg (by omega)]
      obtain ⟨k, rfl⟩ : ∃ k, j = a.length + k := ⟨j - a.length, by omega⟩
      rw [List.getD_eq_getElem?_getD, List.getElem?_append_right (by omega)]
      have : k = 0 ∨ k = 1 := by omega
      rcases this with rfl | rfl
      · simp
      · simp

theorem kept_spec (t u : Tok) (a : List Nat) (c : Nat) (hna : a.length ≤ 1099511627776) : VSpec Try.prog F.surdref01_Kept c [nats t (wholeL a), nats u a] (fun r _ => r = bv true) := by
  refine spec_mk hm E.surdref01_Kept B.surdref01_Kept K.surdref01_Kept Q.surdref01_Kept (by rw [N.surdref01_Kept]; simp) ?_
  unfold C.surdref01_Kept R.surdref01_Kept
  have hl := wholeL_len a
  have g0 : ((a.length + 4 : Nat) : Int) = (a.length : Int) + 4 := by omega
  (repeat (first | refine v_reg ?_ | refine v_last ?_ | refine vwp_seq ?_ | refine vwp_block ?_ | refine vwp_skip ?_ | refine vwp_exit ?_ | refine vwp_ret ?_ | refine v_cond ?_ | simp only [vm, ite_true, ite_false, eq_self, reduceIte, Nat.reduceEqDiff, Option.map, hl, g0] | refine And.intro (by omega) ?_))
  refine v_loopR (fun S => S.σ = noBlk ∧ c ≤ S.c) ?_ ?_
  · refine vwp_loop (fun k S => ∃ i, k = a.length + 4 - i ∧ i ≤ a.length + 4 ∧ S.ρ 1 = nats u a ∧ S.ρ 13 = nats t (wholeL a) ∧ S.ρ 14 = iv ((a.length + 4 : Nat) : Int) ∧ S.ρ 15 = iv i ∧ S.σ = noBlk ∧ c ≤ S.c) (a.length + 4) ?_ ?_
    · refine ⟨0, by omega, by omega, ?_⟩
      simp only [vm, ite_true, ite_false, eq_self, reduceIte, Nat.reduceEqDiff, Option.map, hl, g0]
      (repeat' apply And.intro) <;> first | rfl | omega | assumption
    rintro k ⟨ρ, σ, c3⟩ ⟨i, hk, hi, h1, h13, h14, h15, hσ, hc3⟩
    dsimp only at h1 h13 h14 h15 hσ hc3
    subst hσ
    by_cases g2 : (i : Int) < ((a.length + 4 : Nat) : Int)
    · have hat := wholeL_at a i (by omega)
      by_cases g3 : (i : Int) < 2
      · rw [if_neg (by omega)] at hat
        (repeat (first | refine v_reg ?_ | refine v_last ?_ | refine vwp_seq ?_ | refine vwp_block ?_ | refine vwp_skip ?_ | refine vwp_exit ?_ | refine vwp_ret ?_ | refine v_cond ?_ | simp only [vm, ite_true, ite_false, eq_self, reduceIte, Nat.reduceEqDiff, Option.map, h1, h13, h14, h15, g2, g3, hl, hat] | refine And.intro (by omega) ?_))
        refine ⟨a.length + 4 - (i + 1), by omega, i + 1, ?_⟩
        (repeat' apply And.intro) <;> first | rfl | omega | assumption
      · by_cases g4 : (a.length : Int) + 2 ≤ (i : Int)
        · rw [if_neg (by omega)] at hat
          (repeat (first | refine v_reg ?_ | refine v_last ?_ | refine vwp_seq ?_ | refine vwp_block ?_ | refine vwp_skip ?_ | refine vwp_exit ?_ | refine vwp_ret ?_ | refine v_cond ?_ | simp only [vm, ite_true, ite_false, eq_self, reduceIte, Nat.reduceEqDiff, Option.map, h1, h13, h14, h15, g2, g3, g4, hl, hat] | refine And.intro (by omega) ?_))
          refine ⟨a.length + 4 - (i + 1), by omega, i + 1, ?_⟩
          (repeat' apply And.intro) <;> first | rfl | omega | assumption
        · rw [if_pos (by omega)] at hat
          have e1 : ((i : Int) - 2).toNat = i - 2 := by omega
          (repeat (first | refine v_reg ?_ | refine v_last ?_ | refine vwp_seq ?_ | refine vwp_block ?_ | refine vwp_skip ?_ | refine vwp_exit ?_ | refine vwp_ret ?_ | refine v_cond ?_ | simp only [vm, ite_true, ite_false, eq_self, reduceIte, Nat.reduceEqDiff, Option.map, h1, h13, h14, h15, g2, g3, g4, hl, hat, e1] | refine And.intro (by omega) ?_))
          refine ⟨a.length + 4 - (i + 1), by omega, i + 1, ?_⟩
          (repeat' apply And.intro) <;> first | rfl | omega | assumption
    · (repeat (first | refine v_reg ?_ | refine v_last ?_ | refine vwp_seq ?_ | refine vwp_block ?_ | refine vwp_skip ?_ | refine vwp_exit ?_ | refine vwp_ret ?_ | refine v_cond ?_ | simp only [vm, ite_true, ite_false, eq_self, reduceIte, Nat.reduceEqDiff, Option.map, h1, h13, h14, h15, g2] | refine And.intro (by omega) ?_))
      omega
  rintro ⟨ρ3, σ, c5⟩ ⟨hσ, hc5⟩
  dsimp only at hσ hc5
  subst hσ
  (repeat (first | refine v_reg ?_ | refine v_last ?_ | refine vwp_seq ?_ | refine vwp_block ?_ | refine vwp_skip ?_ | refine vwp_exit ?_ | refine vwp_ret ?_ | refine v_cond ?_ | simp only [vm, ite_true, ite_false, eq_self, reduceIte, Nat.reduceEqDiff, Option.map] | refine And.intro (by omega) ?_))
  omega

theorem lend_spec (t : Tok) (a : List Nat) (c : Nat) (ha : Lim 18446744073709551616 a) (hna : a.length ≤ 1099511627776) :
    VSpec Try.prog F.surdref01_Lend c [nats t a] (fun r c' => ∃ i, r = .tup [nats (.id i) (wholeL a), nats (.sub i) a] ∧ c ≤ i ∧ i < c') := by
  refine spec_mk hm E.surdref01_Lend B.surdref01_Lend K.surdref01_Lend Q.surdref01_Lend (by rw [N.surdref01_Lend]; simp) ?_
  unfold C.surdref01_Lend R.surdref01_Lend
  (repeat (first | refine v_reg ?_ | refine v_last ?_ | refine vwp_seq ?_ | refine vwp_block ?_ | refine vwp_skip ?_ | refine vwp_exit ?_ | refine vwp_ret ?_ | refine v_cond ?_ | simp only [vm, ite_true, ite_false, eq_self, reduceIte, Nat.reduceEqDiff, Option.map] | refine And.intro (by omega) ?_))
  refine s_mk (n := a.length + 4) (m := a.length + 4) (by simp only [vm, ite_true, ite_false, eq_self, reduceIte, Nat.reduceEqDiff, Option.map]; rfl) (by simp only [vm, ite_true, ite_false, eq_self, reduceIte, Nat.reduceEqDiff, Option.map]; rfl) (Nat.le_refl _) (by omega) ?_
  (repeat (first | refine v_reg ?_ | refine v_last ?_ | refine vwp_seq ?_ | refine vwp_block ?_ | refine vwp_skip ?_ | refine vwp_exit ?_ | refine vwp_ret ?_ | refine v_cond ?_ | simp only [vm, ite_true, ite_false, eq_self, reduceIte, Nat.reduceEqDiff, Option.map] | refine And.intro (by omega) ?_))
  refine v_loop (fun S => S.ρ 0 = nats t a ∧ S.ρ 4 = .buf c 0 (a.length + 4) (some (a.length + 4)) 1 ∧ S.σ = supd noBlk c (nblk (List.replicate (a.length + 4) 10855845)) ∧ c + 1 ≤ S.c) ?_ ?_
  · refine vwp_loop (fun k S => ∃ i, k = a.length + 4 - i ∧ i ≤ a.length + 4 ∧ S.ρ 0 = nats t a ∧ S.ρ 4 = .buf c 0 (a.length + 4) (some (a.length + 4)) 1 ∧ S.ρ 13 = iv ((a.length + 4 : Nat) : Int) ∧ S.ρ 14 = iv i ∧ S.σ = supd noBlk c (nblk (List.replicate i 10855845 ++ List.replicate (a.length + 4 - i) 0)) ∧ c + 1 ≤ S.c) (a.length + 4) ?_ ?_
    · refine ⟨0, by omega, by omega, ?_⟩
      simp only [vm, ite_true, ite_false, eq_self, reduceIte, Nat.reduceEqDiff, Option.map]
      (repeat' apply And.intro) <;> first | rfl | omega | assumption
    rintro k ⟨ρ, σ, c3⟩ ⟨i, hk, hi, h0, h4, h13, h14, hσ, hc3⟩
    dsimp only at h0 h4 h13 h14 hσ hc3
    subst hσ
    by_cases g : (i : Int) < ((a.length + 4 : Nat) : Int)
    · have hlen : (List.replicate i 10855845 ++ List.replicate (a.length + 4 - i) 0).length = a.length + 4 := by simp; omega
      have hset : (List.replicate i 10855845 ++ List.replicate (a.length + 4 - i) 0).set i 10855845 = List.replicate (i + 1) 10855845 ++ List.replicate (a.length + 4 - (i + 1)) 0 := by
        have := set_fill (List.replicate i 10855845) (a.length + 4 - (i + 1)) 10855845
        rw [List.length_replicate] at this
        rw [show a.length + 4 - i = a.length + 4 - (i + 1) + 1 by omega, this, List.replicate_succ']
      (repeat (first | refine v_reg ?_ | refine v_last ?_ | refine vwp_seq ?_ | refine vwp_block ?_ | refine vwp_skip ?_ | refine vwp_exit ?_ | refine vwp_ret ?_ | refine v_cond ?_ | simp only [vm, ite_true, ite_false, eq_self, reduceIte, Nat.reduceEqDiff, Option.map, h0, h4, h13, h14, g, hlen, hset] | refine And.intro (by omega) ?_))
      refine ⟨a.length + 4 - (i + 1), by omega, i + 1, ?_⟩
      (repeat' apply And.intro) <;> first | rfl | omega | assumption
    · have : i = a.length + 4 := by omega
      subst this
      (repeat (first | refine v_reg ?_ | refine v_last ?_ | refine vwp_seq ?_ | refine vwp_block ?_ | refine vwp_skip ?_ | refine vwp_exit ?_ | refine vwp_ret ?_ | refine v_cond ?_ | simp only [vm, ite_true, ite_false, eq_self, reduceIte, Nat.reduceEqDiff, Option.map, h0, h4, h13, h14, g] | refine And.intro (by omega) ?_))
      rw [Nat.sub_self, List.replicate_zero, List.append_nil]
      (repeat' apply And.intro) <;> first | rfl | omega | assumption
  rintro ⟨ρ3, σ, c5⟩ ⟨h0, h4, hσ, hc5⟩
  dsimp only at h0 h4 hσ hc5
  subst hσ
  (repeat (first | refine v_reg ?_ | refine v_last ?_ | refine vwp_seq ?_ | refine vwp_block ?_ | refine vwp_skip ?_ | refine vwp_exit ?_ | refine vwp_ret ?_ | refine v_cond ?_ | simp only [vm, ite_true, ite_false, eq_self, reduceIte, Nat.reduceEqDiff, Option.map, h0, h4] | refine And.intro (by omega) ?_))
  refine v_loop (fun S => S.ρ 0 = nats t a ∧ S.ρ 4 = .buf c 0 (a.length + 4) (some (a.length + 4)) 1 ∧ S.σ = supd noBlk c (nblk (wholeL a)) ∧ c + 1 ≤ S.c) ?_ ?_
  · refine vwp_loop (fun k S => ∃ i, k = a.length - i ∧ i ≤ a.length ∧ S.ρ 0 = nats t a ∧ S.ρ 4 = .buf c 0 (a.length + 4) (some (a.length + 4)) 1 ∧ S.ρ 21 = nats t a ∧ S.ρ 22 = iv a.length ∧ S.ρ 23 = iv i ∧ S.σ = supd noBlk c (nblk (([10855845, 10855845] ++ a.take i) ++ List.replicate (a.length - i + 2) 10855845)) ∧ c + 1 ≤ S.c) a.length ?_ ?_
    · refine ⟨0, by omega, by omega, ?_⟩
      have e0 : List.replicate (a.length + 4) 10855845 = ([10855845, 10855845] ++ a.take 0) ++ List.replicate (a.length - 0 + 2) 10855845 := by
        rw [show a.length + 4 = (a.length - 0 + 2) + 1 + 1 by omega, List.replicate_succ, List.replicate_succ]; simp
      simp only [vm, ite_true, ite_false, eq_self, reduceIte, Nat.reduceEqDiff, Option.map, h0, h4]
      (repeat' apply And.intro) <;> first | rfl | omega | assumption | (rw [e0])
    rintro k ⟨ρ, σ, c3⟩ ⟨i, hk, hi, h0, h4, h21, h22, h23, hσ, hc3⟩
    dsimp only at h0 h4 h21 h22 h23 hσ hc3
    subst hσ
    by_cases g : (i : Int) < a.length
    · have hti : (a.take i).length = i := by simp; omega
      have hlen : (([10855845, 10855845] ++ a.take i) ++ List.replicate (a.length - i + 2) 10855845).length = a.length + 4 := by simp; omega
      have hset : ∀ v, (([10855845, 10855845] ++ a.take i) ++ List.replicate (a.length - i + 2) 10855845).set (i + 2) v = (([10855845, 10855845] ++ a.take i) ++ [v]) ++ List.replicate (a.length - (i + 1) + 2) 10855845 := fun v => by
        have e : ([10855845, 10855845] ++ a.take i).length = i + 2 := by simp; omega
        rw [show a.length - i + 2 = (a.length - (i + 1) + 2) + 1 by omega, List.replicate_succ]
        conv => lhs; rw [← e]
        rw [set_at]; simp
      have e2 : ((i : Int) + 2).toNat = i + 2 := by omega
      have hts := take_snoc (l := a) (i := i) (by omega)
      (repeat (first | refine v_reg ?_ | refine v_last ?_ | refine vwp_seq ?_ | refine vwp_block ?_ | refine vwp_skip ?_ | refine vwp_exit ?_ | refine vwp_ret ?_ | refine v_cond ?_ | simp only [vm, ite_true, ite_false, eq_self, reduceIte, Nat.reduceEqDiff, Option.map, h0, h4, h21, h22, h23, g, e2, hlen, hset] | refine And.intro (by omega) ?_))
      refine ⟨a.length - (i + 1), by omega, i + 1, ?_⟩
      rw [hts, ← List.append_assoc [10855845, 10855845]]
      (repeat' apply And.intro) <;> first | rfl | omega | assumption
    · have : i = a.length := by omega
      subst this
      (repeat (first | refine v_reg ?_ | refine v_last ?_ | refine vwp_seq ?_ | refine vwp_block ?_ | refine vwp_skip ?_ | refine vwp_exit ?_ | refine vwp_ret ?_ | refine v_cond ?_ | simp only [vm, ite_true, ite_false, eq_self, reduceIte, Nat.reduceEqDiff, Option.map, h0, h4, h21, h22, h23, g] | refine And.intro (by omega) ?_))
      have e0 : ([10855845, 10855845] ++ a.take a.length) ++ List.replicate (a.length - a.length + 2) 10855845 = wholeL a := by rw [List.take_length, Nat.sub_self]; rfl
      rw [e0]
      (repeat' apply And.intro) <;> first | rfl | omega | assumption
  rintro ⟨ρ4, σ, c6⟩ ⟨h0, h4, hσ, hc6⟩
  dsimp only at h0 h4 hσ hc6
  subst hσ
  have hl := wholeL_len a
  refine v_freeze 4 (t := c) (off := 0) (n := a.length + 4) (cap := some (a.length + 4)) (l := wholeL a) (by simp only [vm, ite_true, ite_false, eq_self, reduceIte, Nat.reduceEqDiff, Option.map, h4]) (by simp only [vm, ite_true, ite_false, eq_self, reduceIte, Nat.reduceEqDiff, Option.map]) (by omega) (by omega) ?_
  rw [List.drop_zero, show (wholeL a).take (a.length + 4) = wholeL a from List.take_of_length_le (by omega)]
  have e1 : (2 : Int).toNat = 2 := rfl
  have e2 : ((a.length : Int) + 2).toNat = a.length + 2 := by omega
  have e3 : ((wholeL a).drop 2).take (a.length + 2 - 2) = a := by
    show (a ++ [10855845, 10855845]).take (a.length + 2 - 2) = a
    rw [Nat.add_sub_cancel, List.take_append_of_le_length (Nat.le_refl _), List.take_length]
  have e4 : Tok.cut 2 (.id c) = .sub c := rfl
  (repeat (first | refine v_reg ?_ | refine v_last ?_ | refine vwp_seq ?_ | refine vwp_block ?_ | refine vwp_skip ?_ | refine vwp_exit ?_ | refine vwp_ret ?_ | refine v_cond ?_ | simp only [vm, ite_true, ite_false, eq_self, reduceIte, Nat.reduceEqDiff, Option.map, h0, hl, e1, e2, e3, e4] | refine And.intro (by omega) ?_))
  exact ⟨c, rfl, by omega, by omega⟩
end Go.Proofs.Ytladcfeibpddeab
set_option linter.unusedSimpArgs false
set_option linter.unusedVariables false
set_option maxRecDepth 100000
set_option maxHeartbeats 8000000
namespace Go.Proofs.Ytladcfeibpddeab
open Go.VM

theorem sub_digit {x y o d : Nat} (hx : x < 4294967296) (hy : y < 4294967296) (ho : o ≤ 1) (hd : d = (x + 4294967296 - y - o) % 4294967296) : d + y + o = x + 4294967296 * (1 - (x + 4294967296 - y - o) / 4294967296) ∧ 1 - (x + 4294967296 - y - o) / 4294967296 ≤ 1 ∧ d < 4294967296 := by omega
theorem sub_m1 {x y o : Nat} (hx : x < 4294967296) (hy : y < 4294967296) (ho : o ≤ 1) : ((x + 4294967296) % 18446744073709551616 + (18446744073709551616 - y % 18446744073709551616)) % 18446744073709551616 = x + 4294967296 - y ∧ (x + 4294967296 - y + (18446744073709551616 - o % 18446744073709551616)) % 18446744073709551616 = x + 4294967296 - y - o ∧ (x + 4294967296 - y - o) / 4294967296 % 18446744073709551616 = (x + 4294967296 - y - o) / 4294967296 ∧ (1 + (18446744073709551616 - (x + 4294967296 - y - o) / 4294967296)) % 18446744073709551616 = 1 - (x + 4294967296 - y - o) / 4294967296 := by omega

theorem sub32_spec (t u : Tok) (a b : List Nat) (c : Nat) (ha : Lim 4294967296 a) (hb : Lim 4294967296 b) (hna : a.length ≤ 1099511627776) (hnb : b.length ≤ a.length) (hle : val 4294967296 b ≤ val 4294967296 a) :
    VSpec Try.prog F.surdref01_Sub c [nats t a, nats u b] (fun r c' => ∃ i, r = nats (.id i) (digs 4294967296 (val 4294967296 a - val 4294967296 b)) ∧ c ≤ i ∧ i < c') := by
  refine spec_mk hm E.surdref01_Sub B.surdref01_Sub K.surdref01_Sub Q.surdref01_Sub (by rw [N.surdref01_Sub]; simp) ?_
  unfold C.surdref01_Sub R.surdref01_Sub
  (repeat (first | refine v_reg ?_ | refine v_last ?_ | refine vwp_seq ?_ | refine vwp_block ?_ | refine vwp_skip ?_ | refine vwp_exit ?_ | refine vwp_ret ?_ | refine v_cond ?_ | simp only [vm, ite_true, ite_false, eq_self, reduceIte, Nat.reduceEqDiff, Option.map] | refine And.intro (by omega) ?_))
  refine s_mk (n := a.length) (m := a.length) (by simp only [vm, ite_true, ite_false, eq_self, reduceIte, Nat.reduceEqDiff, Option.map]) (by simp only [vm, ite_true, ite_false, eq_self, reduceIte, Nat.reduceEqDiff, Option.map]) (Nat.le_refl _) (by omega) ?_
  (repeat (first | refine v_reg ?_ | refine v_last ?_ | refine vwp_seq ?_ | refine vwp_block ?_ | refine vwp_skip ?_ | refine vwp_exit ?_ | refine vwp_ret ?_ | refine v_cond ?_ | simp only [vm, ite_true, ite_false, eq_self, reduceIte, Nat.reduceEqDiff, Option.map] | refine And.intro (by omega) ?_))
  refine v_loop (fun S => ∃ w, w.length = a.length ∧ Lim 4294967296 w ∧ val 4294967296 w = val 4294967296 a - val 4294967296 b ∧ S.ρ 5 = .buf c 0 a.length (some a.length) 1 ∧ S.σ = supd noBlk c (nblk w) ∧ c + 1 ≤ S.c) ?_ ?_
  · refine vwp_loop (fun k S => ∃ i w o, k = a.length - i ∧ i ≤ a.length ∧ w.length = i ∧ Lim 4294967296 w ∧ o ≤ 1 ∧ val 4294967296 w + val 4294967296 (b.take i) = val 4294967296 (a.take i) + 4294967296 ^ i * o ∧ S.ρ 0 = nats t a ∧ S.ρ 1 = nats u b ∧ S.ρ 13 = iv (a.length : Int) ∧ S.ρ 6 = nv o ∧ S.ρ 14 = iv (i : Int) ∧ S.ρ 5 = .buf c 0 a.length (some a.length) 1 ∧ S.σ = supd noBlk c (nblk (w ++ List.replicate (a.length - i) 0)) ∧ c + 1 ≤ S.c) a.length ?_ ?_
    · refine ⟨0, [], 0, by omega, by omega, ?_⟩
      simp only [vm, ite_true, ite_false, eq_self, reduceIte, Nat.reduceEqDiff, Option.map]
      (repeat' apply And.intro) <;> first | rfl | omega | assumption | exact Lim.nil | (simp [val]; done)
    rintro k ⟨ρ2, σ, c4⟩ ⟨i, w, o, hk, hi, hw, hlw, ho, hinv, h0, h1, h13, h6, h14, h5, hσ, hc4⟩
    dsimp only at h0 h1 h13 h6 h14 h5 hσ hc4
    subst hσ
    by_cases g : (i : Int) < a.length
    · have hi' : i < a.length := by omega
      have hxi := ha.getD (i := i) (by decide)
      have hyi := hb.getD (i := i) (by decide)
      have hax := val_take' 4294967296 a i
      have hbx := val_take' 4294967296 b i
      have hlen : (w ++ List.replicate (a.length - i) 0).length = a.length := by simp; omega
      have hset : ∀ v, (w ++ List.replicate (a.length - i) 0).set i v = (w ++ [v]) ++ List.replicate (a.length - (i + 1)) 0 := fun v => by
        have := set_fill w (a.length - (i + 1)) v
        rw [hw] at this
        rw [show a.length - i = a.length - (i + 1) + 1 by omega, this]
      (repeat (first | refine v_reg ?_ | refine v_last ?_ | refine vwp_seq ?_ | refine vwp_block ?_ | refine vwp_skip ?_ | refine vwp_exit ?_ | refine vwp_ret ?_ | refine v_cond ?_ | simp only [vm, ite_true, ite_false, eq_self, reduceIte, Nat.reduceEqDiff, Option.map, h0, h1, h13, h6, h14, h5, g] | refine And.intro (by omega) ?_))
      refine s_call (at_spec u b i c4 (by omega)) (by simp only [vm, ite_true, ite_false, eq_self, reduceIte, Nat.reduceEqDiff, Option.map, List.map, h1, h14]) ?_
      rintro v c5 hc5 rfl
      generalize a.getD i 0 = x at *
      generalize b.getD i 0 = y at *
      obtain ⟨m1, m2, m3, m4⟩ := sub_m1 hxi hyi ho
      obtain ⟨d1, d2, d3⟩ := sub_digit hxi hyi ho rfl
      (repeat (first | refine v_reg ?_ | refine v_last ?_ | refine vwp_seq ?_ | refine vwp_block ?_ | refine vwp_skip ?_ | refine vwp_exit ?_ | refine vwp_ret ?_ | refine v_cond ?_ | simp only [vm, ite_true, ite_false, eq_self, reduceIte, Nat.reduceEqDiff, Option.map, h0, h1, h13, h6, h14, h5, hlen, hset, m1, m2, m3, m4] | refine And.intro (by omega) ?_))
      have key := sub_step (b := 4294967296) hw hinv d1
      rw [← hax, ← hbx] at key
      generalize 1 - (x + 4294967296 - y - o) / 4294967296 = o' at *
      generalize (x + 4294967296 - y - o) % 4294967296 = d at *
      refine ⟨a.length - (i + 1), by omega, i + 1, w ++ [d], o', ?_⟩
      (repeat' apply And.intro) <;> first | rfl | exact key | exact lim_snoc hlw d3 | (simp [hw]; done) | omega | assumption
    · have hi' : i = a.length := by omega
      subst hi'
      (repeat (first | refine v_reg ?_ | refine v_last ?_ | refine vwp_seq ?_ | refine vwp_block ?_ | refine vwp_skip ?_ | refine vwp_exit ?_ | refine vwp_ret ?_ | refine v_cond ?_ | simp only [vm, ite_true, ite_false, eq_self, reduceIte, Nat.reduceEqDiff, Option.map, h0, h1, h13, h6, h14, h5, g] | refine And.intro (by omega) ?_))
      rw [List.take_of_length_le (l := a) (by omega), List.take_of_length_le (l := b) (by omega)] at hinv
      refine ⟨w, ?_⟩
      have e0 : w ++ List.replicate (a.length - a.length) 0 = w := by simp
      rw [e0]
      have hwl := val_lt hlw
      rw [hw] at hwl
      have hc0 : o = 0 := by
        rcases Nat.eq_zero_or_pos o with h | h
        · exact h
        · have : o = 1 := by omega
          rw [this, Nat.mul_one] at hinv
          omega
      rw [hc0, Nat.mul_zero, Nat.add_zero] at hinv
      (repeat' apply And.intro) <;> first | rfl | omega | assumption
  rintro ⟨ρ3, σ, c5⟩ ⟨w, hw, hlw, hvw, h5, hσ, hc5⟩
  dsimp only at h5 hσ hc5
  subst hσ
  refine v_freeze 5 (t := c) (off := 0) (n := a.length) (cap := some a.length) (l := w) (by simp only [vm, ite_true, ite_false, eq_self, reduceIte, Nat.reduceEqDiff, Option.map, h5]) (by simp only [vm, ite_true, ite_false, eq_self, reduceIte, Nat.reduceEqDiff, Option.map]) (by omega) (by omega) ?_
  rw [List.drop_zero, show w.take a.length = w from List.take_of_length_le (by omega)]
  (repeat (first | refine v_reg ?_ | refine v_last ?_ | refine vwp_seq ?_ | refine vwp_block ?_ | refine vwp_skip ?_ | refine vwp_exit ?_ | refine vwp_ret ?_ | refine v_cond ?_ | simp only [vm, ite_true, ite_false, eq_self, reduceIte, Nat.reduceEqDiff, Option.map] | refine And.intro (by omega) ?_))
  refine s_call (norm32_spec (.id c) w c5 hlw (by omega)) (by simp only [vm, ite_true, ite_false, eq_self, reduceIte, Nat.reduceEqDiff, Option.map, List.map]) ?_
  rintro v c6 hc6 rfl
  rw [hvw]
  (repeat (first | refine v_reg ?_ | refine v_last ?_ | refine vwp_seq ?_ | refine vwp_block ?_ | refine vwp_skip ?_ | refine vwp_exit ?_ | refine vwp_ret ?_ | refine v_cond ?_ | simp only [vm, ite_true, ite_false, eq_self, reduceIte, Nat.reduceEqDiff, Option.map] | refine And.intro (by omega) ?_))
  exact ⟨c, rfl, by omega, by omega⟩

theorem shl32_low {x s : Nat} (hs : s ≤ 31) (hx : x < 4294967296) : x * 2 ^ s % 18446744073709551616 = x * 2 ^ s ∧ x * 2 ^ s % 4294967296 + 2 ^ s ≤ 4294967296 ∧ x * 2 ^ s / 4294967296 < 2 ^ s ∧ x * 2 ^ s / 4294967296 % 18446744073709551616 = x * 2 ^ s / 4294967296 ∧ 2 ^ s ≤ 2147483648 := by
  have h31 : 2 ^ s ≤ 2 ^ 31 := Nat.pow_le_pow_right (by decide) hs
  have hp : 0 < 2 ^ s := Nat.two_pow_pos s
  have hlt : x * 2 ^ s < 4294967296 * 2 ^ s := Nat.mul_lt_mul_of_pos_right hx hp
  have h32 : 4294967296 = 2 ^ (32 - s) * 2 ^ s := by rw [← Nat.pow_add, show 32 - s + s = 32 by omega]
  have hlow : x * 2 ^ s % 4294967296 + 2 ^ s ≤ 4294967296 := by
    have e : x * 2 ^ s % 4294967296 = (x % 2 ^ (32 - s)) * 2 ^ s := by rw [h32, Nat.mul_mod_mul_right]
    rw [e, ← Nat.succ_mul, h32]
    exact Nat.mul_le_mul_right _ (Nat.mod_lt _ (Nat.two_pow_pos _))
  have hdiv : x * 2 ^ s / 4294967296 < 2 ^ s := Nat.div_lt_of_lt_mul hlt
  have h1 : x * 2 ^ s < 18446744073709551616 := by
    have : 4294967296 * 2 ^ s ≤ 4294967296 * 2 ^ 31 := Nat.mul_le_mul_left _ h31
    omega
  exact ⟨Nat.mod_eq_of_lt h1, hlow, hdiv, Nat.mod_eq_of_lt (by omega), by omega⟩

theorem shl32_spec (t : Tok) (a : List Nat) (n c : Nat) (ha : Lim 4294967296 a) (hna : a.length ≤ 1099511627776) (hn : n ≤ 1099511627776) :
    VSpec Try.prog F.surdref01_Shl c [nats t a, iv n] (fun r c' => (a = [] ∧ r = nil1) ∨ ∃ i, r = nats (.id i) (digs 4294967296 (val 4294967296 a * 2 ^ n)) ∧ c ≤ i ∧ i < c') := by
  refine spec_mk hm E.surdref01_Shl B.surdref01_Shl K.surdref01_Shl Q.surdref01_Shl (by rw [N.surdref01_Shl]; simp) ?_
  unfold C.surdref01_Shl R.surdref01_Shl
  by_cases g0 : (a.length : Int) = 0
  · (repeat (first | refine v_reg ?_ | refine v_last ?_ | refine vwp_seq ?_ | refine vwp_block ?_ | refine vwp_skip ?_ | refine vwp_exit ?_ | refine vwp_ret ?_ | refine v_cond ?_ | simp only [vm, ite_true, ite_false, eq_self, reduceIte, Nat.reduceEqDiff, Option.map, g0] | refine And.intro (by omega) ?_))
    exact .inl (List.eq_nil_of_length_eq_zero (by omega))
  obtain ⟨q, hq⟩ : ∃ q, q = n / 32 := ⟨_, rfl⟩
  obtain ⟨s, hs⟩ : ∃ s, s = n % 32 := ⟨_, rfl⟩
  have hs31 : s ≤ 31 := by omega
  have eq1 : (n : Int) / 32 = (q : Int) := by omega
  have es1 : (n : Int) % 32 = (s : Int) := by omega
  have el : (a.length : Int) + (q : Int) + 1 = ((q + a.length + 1 : Nat) : Int) := by omega
  (repeat (first | refine v_reg ?_ | refine v_last ?_ | refine vwp_seq ?_ | refine vwp_block ?_ | refine vwp_skip ?_ | refine vwp_exit ?_ | refine vwp_ret ?_ | refine v_cond ?_ | simp only [vm, ite_true, ite_false, eq_self, reduceIte, Nat.reduceEqDiff, Option.map, g0, eq1, el] | refine And.intro (by omega) ?_))
  refine s_mk (n := q + a.length + 1) (m := q + a.length + 1) (by simp only [vm, ite_true, ite_false, eq_self, reduceIte, Nat.reduceEqDiff, Option.map]) (by simp only [vm, ite_true, ite_false, eq_self, reduceIte, Nat.reduceEqDiff, Option.map]) (Nat.le_refl _) (by omega) ?_
  (repeat (first | refine v_reg ?_ | refine v_last ?_ | refine vwp_seq ?_ | refine vwp_block ?_ | refine vwp_skip ?_ | refine vwp_exit ?_ | refine vwp_ret ?_ | refine v_cond ?_ | simp only [vm, ite_true, ite_false, eq_self, reduceIte, Nat.reduceEqDiff, Option.map, es1] | refine And.intro (by omega) ?_))
  refine v_loop (fun S => ∃ w, w.length = q + a.length + 1 ∧ Lim 4294967296 w ∧ val 4294967296 w = val 4294967296 a * 2 ^ n ∧ S.ρ 5 = .buf c 0 (q + a.length + 1) (some (q + a.length + 1)) 1 ∧ S.σ = supd noBlk c (nblk w) ∧ c + 1 ≤ S.c) ?_ ?_
  · refine vwp_loop (fun k S => ∃ i w o, k = a.length - i ∧ i ≤ a.length ∧ w.length = i ∧ Lim 4294967296 w ∧ o < 2 ^ s ∧ val 4294967296 (w ++ [o]) = val 4294967296 (a.take i) * 2 ^ s ∧ S.ρ 1 = iv (n : Int) ∧ S.ρ 6 = iv (s : Int) ∧ S.ρ 21 = nats t a ∧ S.ρ 22 = iv (a.length : Int) ∧ S.ρ 23 = iv (i : Int) ∧ S.ρ 5 = .buf c 0 (q + a.length + 1) (some (q + a.length + 1)) 1 ∧ S.σ = supd noBlk c (nblk ((List.replicate q 0 ++ w) ++ o :: List.replicate (a.length - i) 0)) ∧ c + 1 ≤ S.c) a.length ?_ ?_
    · refine ⟨0, [], 0, by omega, by omega, ?_⟩
      simp only [vm, ite_true, ite_false, eq_self, reduceIte, Nat.reduceEqDiff, Option.map]
      have e0 : List.replicate (q + a.length + 1) 0 = (List.replicate q 0 ++ []) ++ 0 :: List.replicate (a.length - 0) 0 := by
        rw [List.append_nil, ← List.replicate_succ, List.replicate_append_replicate]; rfl
      rw [e0]
      (repeat' apply And.intro) <;> first | rfl | omega | assumption | exact Lim.nil | exact Nat.two_pow_pos s | (simp [val]; done)
    rintro k ⟨ρ2, σ, c4⟩ ⟨i, w, o, hk, hi, hw, hlw, ho, hinv, h1, h6, h21, h22, h23, h5, hσ, hc4⟩
    dsimp only at h1 h6 h21 h22 h23 h5 hσ hc4
    subst hσ
    by_cases g : (i : Int) < a.length
    · have hi' : i < a.length := by omega
      have hxi := ha.getD (i := i) (by decide)
      have hax := val_take' 4294967296 a i
      obtain ⟨m1, m2, m3, m4, m5⟩ := shl32_low hs31 hxi
      have hql : (List.replicate q 0 ++ w).length = i + q := by simp [hw]; omega
      have eiq : ((i : Int) + (q : Int)).toNat = i + q := by omega
      have eiq1 : ((i : Int) + (q : Int) + 1).toNat = i + q + 1 := by omega
      have hlen : ((List.replicate q 0 ++ w) ++ o :: List.replicate (a.length - i) 0).length = q + a.length + 1 := by simp [hw]; omega
      have hget : ((List.replicate q 0 ++ w) ++ o :: List.replicate (a.length - i) 0).getD (i + q) 0 = o := by rw [← hql]; exact getD_at _ _ _
      have hset1 : ∀ v, ((List.replicate q 0 ++ w) ++ o :: List.replicate (a.length - i) 0).set (i + q) v = (List.replicate q 0 ++ w) ++ v :: List.replicate (a.length - i) 0 := fun v => by rw [← hql]; exact set_at _ _ _ _
      have hset2 : ∀ v v', ((List.replicate q 0 ++ w) ++ v :: List.replicate (a.length - i) 0).set (i + q + 1) v' = (List.replicate q 0 ++ (w ++ [v])) ++ v' :: List.replicate (a.length - (i + 1)) 0 := fun v v' => by
        have e : (List.replicate q 0 ++ w) ++ v :: List.replicate (a.length - i) 0 = (List.replicate q 0 ++ (w ++ [v])) ++ 0 :: List.replicate (a.length - (i + 1)) 0 := by
          rw [show a.length - i = a.length - (i + 1) + 1 by omega, List.replicate_succ]; simp
        rw [e, show i + q + 1 = (List.replicate q 0 ++ (w ++ [v])).length by simp [hw]; omega]
        exact set_at _ _ _ _
      have hlen2 : ∀ v, ((List.replicate q 0 ++ w) ++ v :: List.replicate (a.length - i) 0).length = q + a.length + 1 := fun v => by simp [hw]; omega
      have emin : min s 64 = s := by omega
      have hod : (o + a.getD i 0 * 2 ^ s % 4294967296) % 18446744073709551616 = o + a.getD i 0 * 2 ^ s % 4294967296 := Nat.mod_eq_of_lt (by omega)
      have hstep := shl_step (b := 4294967296) (lo := a.getD i 0 * 2 ^ s % 4294967296) (hi := a.getD i 0 * 2 ^ s / 4294967296) (x := a.getD i 0) (P := 2 ^ s) hw hinv (by omega)
      (repeat (first | refine v_reg ?_ | refine v_last ?_ | refine vwp_seq ?_ | refine vwp_block ?_ | refine vwp_skip ?_ | refine vwp_exit ?_ | refine vwp_ret ?_ | refine v_cond ?_ | simp only [vm, ite_true, ite_false, eq_self, reduceIte, Nat.reduceEqDiff, Option.map, h1, h6, h21, h22, h23, h5, g, eq1, eiq, eiq1, hlen, hlen2, hget, hset1, hset2, emin, m1, m4, hod] | refine And.intro (by omega) ?_))
      refine ⟨a.length - (i + 1), by omega, i + 1, w ++ [o + a.getD i 0 * 2 ^ s % 4294967296], a.getD i 0 * 2 ^ s / 4294967296, ?_⟩
      have key : val 4294967296 ((w ++ [o + a.getD i 0 * 2 ^ s % 4294967296]) ++ [a.getD i 0 * 2 ^ s / 4294967296]) = val 4294967296 (a.take (i + 1)) * 2 ^ s := by
        rw [hstep, hax, Nat.add_mul, Nat.mul_assoc]
      have hlw2 := lim_snoc (v := o + a.getD i 0 * 2 ^ s % 4294967296) hlw (by omega)
      (repeat' apply And.intro) <;> first | rfl | exact key | exact hlw2 | exact m3 | (simp [hw]; done) | omega | assumption
    · have hi' : i = a.length := by omega
      subst hi'
      (repeat (first | refine v_reg ?_ | refine v_last ?_ | refine vwp_seq ?_ | refine vwp_block ?_ | refine vwp_skip ?_ | refine vwp_exit ?_ | refine vwp_ret ?_ | refine v_cond ?_ | simp only [vm, ite_true, ite_false, eq_self, reduceIte, Nat.reduceEqDiff, Option.map, h1, h6, h21, h22, h23, h5, g] | refine And.intro (by omega) ?_))
      rw [List.take_length] at hinv
      refine ⟨List.replicate q 0 ++ (w ++ [o]), ?_⟩
      have hwl : Lim 4294967296 (w ++ [o]) := lim_snoc hlw (by have := Nat.pow_le_pow_right (n := 2) (by decide) hs31; omega)
      have key : val 4294967296 (List.replicate q 0 ++ (w ++ [o])) = val 4294967296 a * 2 ^ n := by
        rw [val_zeros, hinv, pow32, Nat.mul_left_comm, ← Nat.pow_add, show 32 * q + s = n by omega]
      have e0 : (List.replicate q 0 ++ w) ++ o :: List.replicate (a.length - a.length) 0 = List.replicate q 0 ++ (w ++ [o]) := by simp
      rw [e0]
      (repeat' apply And.intro) <;> first | rfl | omega | assumption | exact key | exact (Lim.replicate (by decide)).append hwl | (simp [hw]; omega)
  rintro ⟨ρ3, σ, c5⟩ ⟨w, hw, hlw, hvw, h5, hσ, hc5⟩
  dsimp only at h5 hσ hc5
  subst hσ
  refine v_freeze 5 (t := c) (off := 0) (n := q + a.length + 1) (cap := some (q + a.length + 1)) (l := w) (by simp only [vm, ite_true, ite_false, eq_self, reduceIte, Nat.reduceEqDiff, Option.map, h5]) (by simp only [vm, ite_true, ite_false, eq_self, reduceIte, Nat.reduceEqDiff, Option.map]) (by omega) (by omega) ?_
  rw [List.drop_zero, show w.take (q + a.length + 1) = w from List.take_of_length_le (by omega)]
  (repeat (first | refine v_reg ?_ | refine v_last ?_ | refine vwp_seq ?_ | refine vwp_block ?_ | refine vwp_skip ?_ | refine vwp_exit ?_ | refine vwp_ret ?_ | refine v_cond ?_ | simp only [vm, ite_true, ite_false, eq_self, reduceIte, Nat.reduceEqDiff, Option.map] | refine And.intro (by omega) ?_))
  refine s_call (norm32_spec (.id c) w c5 hlw (by omega)) (by simp only [vm, ite_true, ite_false, eq_self, reduceIte, Nat.reduceEqDiff, Option.map, List.map]) ?_
  rintro v c6 hc6 rfl
  rw [hvw]
  (repeat (first | refine v_reg ?_ | refine v_last ?_ | refine vwp_seq ?_ | refine vwp_block ?_ | refine vwp_skip ?_ | refine vwp_exit ?_ | refine vwp_ret ?_ | refine v_cond ?_ | simp only [vm, ite_true, ite_false, eq_self, reduceIte, Nat.reduceEqDiff, Option.map] | refine And.intro (by omega) ?_))
  exact .inr ⟨c, rfl, by omega, by omega⟩
end Go.Proofs.Ytladcfeibpddeab
set_option linter.unusedSimpArgs false
set_option linter.unusedVariables false
set_option maxRecDepth 100000
set_option maxHeartbeats 8000000
namespace Go.Proofs.Ytladcfeibpddeab
open Go.VM

theorem cmpI_le {m n : Nat} : cmpI m n ≤ 0 ↔ m ≤ n := by
  unfold cmpI
  split
  · constructor <;> intros <;> omega
  · split
    · constructor <;> intros <;> omega
    · constructor <;> intros <;> omega
theorem cmpI_pos {m n : Nat} : 0 < cmpI m n ↔ n < m := by
  unfold cmpI
  split
  · constructor <;> intros <;> omega
  · split
    · constructor <;> intros <;> omega
    · constructor <;> intros <;> omega
theorem cmpI_lt {m n : Nat} : cmpI m n < 0 ↔ m < n := by
  unfold cmpI
  split
  · constructor <;> intros <;> omega
  · split
    · constructor <;> intros <;> omega
    · constructor <;> intros <;> omega
theorem cmpI_zero {m n : Nat} : cmpI m n = 0 ↔ m = n := by
  unfold cmpI
  split
  · constructor <;> intros <;> omega
  · split
    · constructor <;> intros <;> omega
    · constructor <;> intros <;> omega
theorem lenR (t : Tok) (n c : Nat) (hn : bl n ≤ 68719476736) : VSpec Try.prog F.surdref01_Num_Len c [nats t (digs 4294967296 n)] (fun r _ => r = iv (bl n)) :=
  len_spec t n c (Nat.le_trans (len32_bl (k := 2147483648) (by omega)) (by decide))
theorem subR (t u : Tok) (m n c : Nat) (hm : bl m ≤ 68719476736) (hle : n ≤ m) : VSpec Try.prog F.surdref01_Sub c [nats t (digs 4294967296 m), nats u (digs 4294967296 n)] (fun r c' => RefR c c' (m - n) r) := by
  have h := sub32_spec t u (digs 4294967296 m) (digs 4294967296 n) c (lim_digs two32 m) (lim_digs two32 n) (Nat.le_trans (len32_bl (k := 2147483648) (by omega)) (by decide)) (le_len two32 hle) (by rw [val_digs two32, val_digs two32]; exact hle)
  rw [val_digs two32, val_digs two32] at h
  exact h
theorem oneR (c : Nat) : VSpec Try.prog F.surdref01_Int c [iv 1] (fun r c' => RefR c c' 1 r) := int_spec 1 c (by decide)
theorem intR (n c : Nat) (hn : n < 9223372036854775808) : VSpec Try.prog F.surdref01_Int c [iv n] (fun r c' => RefR c c' n r) := int_spec n c hn
theorem shlR (t : Tok) (m n c : Nat) (hm : bl m ≤ 68719476736) (hm0 : 0 < m) (hn : n ≤ 1099511627776) : VSpec Try.prog F.surdref01_Shl c [nats t (digs 4294967296 m), iv n] (fun r c' => RefR c c' (m * 2 ^ n) r) := by
  have h := shl32_spec t (digs 4294967296 m) n c (lim_digs two32 m) (Nat.le_trans (len32_bl (k := 2147483648) (by omega)) (by decide)) hn
  rw [val_digs two32] at h
  refine h.mono ?_
  rintro r c' (⟨h1, _⟩ | h1)
  · exact absurd ((digs_eq_nil two32).1 h1) (by omega)
  · exact h1

theorem pow_small {A k : Nat} (hk : 1 ≤ k) (h : A ≤ 1) : A ^ k = A := by
  rcases Nat.eq_zero_or_pos A with e | e
  · rw [e]; exact Nat.zero_pow (by omega)
  · have : A = 1 := by omega
    rw [this, Nat.one_pow]
theorem pow_over {A k M : Nat} (hA : 2 ≤ A) (h : bl M < k) : M < A ^ k :=
  Nat.lt_of_lt_of_le (lt_of_bl (Nat.le_of_lt h)) (Nat.pow_le_pow_left hA k)

theorem told04_spec (t u : Tok) (m n c : Nat) (hm1 : bl m ≤ 67108864) (hn1 : bl n ≤ 67108864) :
    VSpec Try.prog F.surdref04_told c [nats t (digs 4294967296 m), nats u (digs 4294967296 n)] (fun r c' => r = .tup [nats t (digs 4294967296 m), nats u (digs 4294967296 n), iv 0]) := by
  refine spec_mk hm E.surdref04_told B.surdref04_told K.surdref04_told Q.surdref04_told (by rw [N.surdref04_told]; simp) ?_
  unfold C.surdref04_told R.surdref04_told
  (repeat (first | refine v_reg ?_ | refine v_last ?_ | refine vwp_seq ?_ | refine vwp_block ?_ | refine vwp_skip ?_ | refine vwp_exit ?_ | refine vwp_ret ?_ | refine v_cond ?_ | simp only [vm, ite_true, ite_false, eq_self, reduceIte, Nat.reduceEqDiff, Option.map] | refine And.intro (by omega) ?_))
  refine s_call (lenR t m c (by omega)) (by simp only [vm, ite_true, ite_false, eq_self, reduceIte, Nat.reduceEqDiff, Option.map, List.map]) ?_
  rintro v c1 hc1 rfl
  have g1 : ¬ (67108864 : Int) < (bl m : Int) := by omega
  (repeat (first | refine v_reg ?_ | refine v_last ?_ | refine vwp_seq ?_ | refine vwp_block ?_ | refine vwp_skip ?_ | refine vwp_exit ?_ | refine vwp_ret ?_ | refine v_cond ?_ | simp only [vm, ite_true, ite_false, eq_self, reduceIte, Nat.reduceEqDiff, Option.map, g1] | refine And.intro (by omega) ?_))
  refine s_call (lenR u n c1 (by omega)) (by simp only [vm, ite_true, ite_false, eq_self, reduceIte, Nat.reduceEqDiff, Option.map, List.map]) ?_
  rintro v c2 hc2 rfl
  have g2 : ¬ (67108864 : Int) < (bl n : Int) := by omega
  (repeat (first | refine v_reg ?_ | refine v_last ?_ | refine vwp_seq ?_ | refine vwp_block ?_ | refine vwp_skip ?_ | refine vwp_exit ?_ | refine vwp_ret ?_ | refine v_cond ?_ | simp only [vm, ite_true, ite_false, eq_self, reduceIte, Nat.reduceEqDiff, Option.map, g2] | refine And.intro (by omega) ?_))
  omega

end Go.Proofs.Ytladcfeibpddeab
set_option linter.unusedSimpArgs false
set_option linter.unusedVariables false
set_option maxRecDepth 100000
set_option maxHeartbeats 8000000
namespace Go.Proofs.Ytladcfeibpddeab
open Go.VM Go.RowKit

/-! ### answers that can't be -/
theorem rep_nil_len {w : World} {M : Nat → Prop} {μ : Nat → Nat} {c : Nat} {l : List Nat} {v : Value} (h : Rep w M μ c (nats .nil l) v) : l = [] := by
  generalize e : nats .nil l = x at h
  cases h with
  | nil tk sz =>
    simp only [nats, V.sl.injEq] at e
    exact List.map_eq_nil_iff.1 e.2.2
  | sl tk sz n cap a l' vs ht hn hc hs hMb hcap h1 hl =>
    simp only [nats, V.sl.injEq] at e
    obtain ⟨rfl, rfl, rfl⟩ := e
    have h0 : cap * 1 = 0 := ht
    have : (l.map nv).length = 0 := by omega
    exact List.map_eq_nil_iff.1 (List.eq_nil_of_length_eq_zero this)
  | any | lit | agg | tup => cases e
/-- no value is this one -/
def Void (r : V) : Prop := ∀ w M μ c v, ¬ RepE w M μ c r v
theorem void_tup {l : List V} {x : List Nat} (hm0 : nats .nil x ∈ l) (hx : x ≠ []) : Void (.tup l) := by
  intro w M μ c v h
  have h : Rep w M μ c (.tup l) v := h
  cases h with
  | tup _ cs hn hl =>
    obtain ⟨j, hj⟩ := List.getElem?_of_mem hm0
    have hjl := (List.getElem?_eq_some_iff.1 hj).1
    have := hl j _ _ hj (Array.getElem?_eq_getElem (by omega))
    exact hx (rep_nil_len this)
theorem void_one {x : List Nat} (hx : x ≠ []) : Void (nats .nil x) := fun w M μ c v h => hx (rep_nil_len h)
theorem VSpec.clean {P : Program} {f : FuncId} {c : Nat} {xs : List V} {Q1 Q2 : V → Nat → Prop} (h : VSpec P f c xs Q1) (hq : ∀ r c', c ≤ c' → Q1 r c' → Q2 r c' ∨ (Void r ∧ ∃ r2 c2, c ≤ c2 ∧ Q2 r2 c2)) : VSpec P f c xs Q2 := by
  obtain ⟨r, c', h0, h1, h2⟩ := h
  rcases hq r c' h0 h2 with h | ⟨hv, r2, c2, h3, h4⟩
  · exact ⟨r, c', h0, h1, h⟩
  · refine ⟨r2, c2, h3, fun w Φ μ vs hm0 hn ha => (h1 w Φ μ vs hm0 hn ha).mono ?_, h4⟩
    rintro e w' ⟨v, μ', _, _, hr⟩
    exact absurd hr (hv _ _ _ _ _)

/-- nothing, or a row in memory of its own -/
def Row1 (lo hi : Nat) (t : Tok) (l : List Nat) : Prop := (t = .nil ∧ l = []) ∨ ∃ i, t = .id i ∧ lo ≤ i ∧ i < hi
theorem Row1.mono {a b c d : Nat} {t : Tok} {l : List Nat} (h : Row1 a b t l) (h1 : c ≤ a) (h2 : b ≤ d) : Row1 c d t l := by
  rcases h with h | ⟨i, h, h3, h4⟩
  · exact .inl h
  · exact .inr ⟨i, h, by omega, by omega⟩
theorem Row1.of {a b : Nat} {t : Tok} {l : List Nat} (h : Tk a b t) (hl : t = .nil → l = []) : Row1 a b t l := by
  rcases h with rfl | ⟨i, rfl, h⟩
  · exact .inl ⟨rfl, hl rfl⟩
  · exact .inr ⟨i, rfl, h⟩
theorem tk_nil_or {a b : Nat} {t : Tok} (l : List Nat) (h : Tk a b t) : Row1 a b t l ∨ (t = .nil ∧ l ≠ []) := by
  by_cases e : t = .nil ∧ l ≠ []
  · exact .inr e
  · refine .inl (.of h fun e1 => ?_)
    cases l with
    | nil => rfl
    | cons x r => exact absurd ⟨e1, by simp⟩ e

theorem nodup_nodupB : ∀ {l : List Nat}, l.Nodup → nodupB l = true
  | [], _ => rfl
  | a :: r, h => by
    obtain ⟨h1, h2⟩ := List.nodup_cons.1 h
    simp only [nodupB, Bool.and_eq_true, Bool.not_eq_true', List.contains_eq_mem, decide_eq_false_iff_not]
    exact ⟨h1, nodup_nodupB h2⟩

abbrev rowsV (ps : List (Tok × List Nat)) : List V := ps.map fun p => nats p.1 p.2
theorem mem_ids {ps : List (Tok × List Nat)} {i : Nat} (h : i ∈ ids (rowsV ps)) : ∃ p ∈ ps, p.1 = .id i := by
  obtain ⟨x, hx, e⟩ := List.mem_filterMap.1 h
  obtain ⟨p, hp, rfl⟩ := List.mem_map.1 hx
  obtain ⟨t, l⟩ := p
  cases t with
  | id j => simp at e; subst e; exact ⟨_, hp, rfl⟩
  | _ => simp at e
theorem ids_nodup : ∀ {ps : List (Tok × List Nat)}, ps.Pairwise (fun p q => Apt p.1 q.1) → (ids (rowsV ps)).Nodup
  | [], _ => List.nodup_nil
  | (t, l) :: ps, h => by
    obtain ⟨h1, h2⟩ := List.pairwise_cons.1 h
    have ih := ids_nodup h2
    cases t with
    | id j =>
      refine List.nodup_cons.2 ⟨fun hm0 => ?_, ih⟩
      obtain ⟨q, hq, e⟩ := mem_ids hm0
      exact h1 q hq j rfl e
    | nil => exact ih
    | unk => exact ih
    | sub j => exact ih
theorem ownable_of {c0 lo tL : Nat} {ps : List (Tok × List Nat)} (hc : c0 ≤ lo) (h0 : 0 < ps.length) (h1 : ps.length ≤ 1000000) (hp : ∀ p ∈ ps, Row1 lo tL p.1 p.2 ∧ p.2.length ≤ 4398046511104) (hl : lo ≤ tL) (ha : ps.Pairwise (fun p q => Apt p.1 q.1)) : ownable c0 tL (rowsV ps) = true := by
  simp only [ownable, Bool.and_eq_true, decide_eq_true_eq, List.all_eq_true]
  have hid : ∀ i ∈ ids (rowsV ps), lo ≤ i ∧ i < tL := fun i hi => by
    obtain ⟨p, hpm, e⟩ := mem_ids hi
    rcases (hp p hpm).1 with ⟨e1, _⟩ | ⟨j, e1, h3, h4⟩
    · rw [e] at e1; cases e1
    · rw [e] at e1; cases e1; exact ⟨h3, h4⟩
  refine ⟨⟨⟨⟨by simpa using h0, by simpa using h1⟩, fun x hx => ?_⟩, fun t ht => ?_⟩, nodup_nodupB (List.nodup_cons.2 ⟨fun h => ?_, ids_nodup ha⟩)⟩
  · obtain ⟨p, hpm, rfl⟩ := List.mem_map.1 hx
    obtain ⟨t, l⟩ := p
    obtain ⟨h2, h3⟩ := hp _ hpm
    rcases h2 with ⟨e1, e2⟩ | ⟨i, e1, _⟩
    · simp only at e1 e2; subst e1 e2; rfl
    · simp only at e1 h3; subst e1
      simp [rowable, h3]
  · rcases List.mem_cons.1 ht with rfl | h
    · omega
    · have := hid t h; omega
  · have := hid tL h; omega

theorem thawL_lit (ts : List Nat) (v : Value) : V.thawL ts (.lit v) = .lit v := by
  unfold V.thawL
  rw [if_pos (List.all_eq_true.2 fun t _ => (show V.still t 4 (.lit v) = true from rfl))]
theorem thawL_nats {ts : List Nat} {t : Tok} {l : List Nat} (h : ∀ q ∈ ts, t.apart q = true) : V.thawL ts (nats t l) = nats t l := by
  unfold V.thawL
  rw [if_pos]
  refine List.all_eq_true.2 fun q hq => ?_
  simp only [V.still, Bool.and_eq_true, List.all_eq_true, List.mem_map]
  refine ⟨h q hq, ?_⟩
  rintro x ⟨n, _, rfl⟩
  rfl
theorem thawL_kn {lo tL : Nat} {ps : List (Tok × List Nat)} (hp : ∀ p ∈ ps, Row1 lo tL p.1 p.2 ∧ p.2.length ≤ 4398046511104) (hl : lo ≤ tL) {t : Tok} {l : List Nat} (h : Kn lo t) : V.thawL (tL :: ids (rowsV ps)) (nats t l) = nats t l := by
  refine thawL_nats fun q hq => ?_
  have hq : lo ≤ q := by
    rcases List.mem_cons.1 hq with rfl | h
    · exact hl
    · obtain ⟨p, hpm, e⟩ := mem_ids h
      rcases (hp p hpm).1 with ⟨e1, _⟩ | ⟨j, e1, h3, h4⟩
      · rw [e] at e1; cases e1
      · rw [e] at e1; cases e1; exact h3
  rcases h with rfl | ⟨i, rfl | rfl, hi⟩
  · rfl
  · exact beq_no (by omega)
  · exact beq_no (by omega)
theorem killed_own (ts : List Nat) (ρ : Nat → V) (j : Nat) : kill (some (.inr ts)) ρ j = (ρ j).thawL ts := rfl

section
variable {P : Program} {c0 : Nat} {ρ : Nat → V} {c i : Nat} {r : List VO} {K : VS → Prop}
/-- rows are given away (no buffer is live) -/
theorem s_own {f : FuncId} {x : X} {tL lo : Nat} {ps : List (Tok × List Nat)} (hf : OwnSpec P f) (hx : x.ev ρ = .sl (.id tL) 1 (rowsV ps)) (hc : c0 ≤ lo) (h0 : 0 < ps.length) (h1 : ps.length ≤ 1000000) (hp : ∀ p ∈ ps, Row1 lo tL p.1 p.2 ∧ p.2.length ≤ 4398046511104) (hl : lo ≤ tL) (ha : ps.Pairwise (fun p q => Apt p.1 q.1))
    (hk : wps P false c0 r ⟨upd (kill (some (.inr (tL :: ids (rowsV ps)))) ρ) i (bv true), noBlk, c⟩ K) : wps P false c0 (⟨some i, .call f [x], none⟩ :: r) ⟨ρ, noBlk, c⟩ K := by
  show opS P false c0 (.call f [x]) (some i) _ _
  refine ⟨_, _, _, _, .own rfl hf hx (ownable_of hc h0 h1 hp hl ha), ?_⟩
  have e : (fun t => if (tL :: ids (rowsV ps)).contains t = true then none else (noBlk t).map fun b => (⟨b.cells.map (V.thawL (tL :: ids (rowsV ps))), b.live⟩ : Blk)) = noBlk := by
    funext t
    split <;> rfl
  simp only [e]
  exact hk
variable {σ : Nat → Option Blk} {dr : Bool}
theorem s_rows1 {x : X} {p : Tok × List Nat} (h0 : x.ev ρ = nats p.1 p.2) (hk : wps P dr c0 r ⟨upd ρ i (.sl (.id c) 1 (rowsV [p])), σ, c + 1⟩ K) : wps P dr c0 (⟨some i, .bsl true 1 1 [.slice none 0 0] [(0, (1, x))], none⟩ :: r) ⟨ρ, σ, c⟩ K := by
  refine s_eff rfl (by intros; exact fun h => by cases h) (by intros; exact fun h => by cases h) ⟨_, _, _, none, .bsl (cs := rowsV [p]) ?_, hk⟩
  simp only [partsOf, List.map, h0]
  rfl
theorem s_rows2 {x y : X} {p q : Tok × List Nat} (h0 : x.ev ρ = nats p.1 p.2) (h1 : y.ev ρ = nats q.1 q.2) (hk : wps P dr c0 r ⟨upd ρ i (.sl (.id c) 1 (rowsV [p, q])), σ, c + 1⟩ K) : wps P dr c0 (⟨some i, .bsl true 1 2 [.slice none 0 0] [(0, (1, x)), (1, (1, y))], none⟩ :: r) ⟨ρ, σ, c⟩ K := by
  refine s_eff rfl (by intros; exact fun h => by cases h) (by intros; exact fun h => by cases h) ⟨_, _, _, none, .bsl (cs := rowsV [p, q]) ?_, hk⟩
  simp only [partsOf, List.map, h0, h1]
  rfl
theorem s_rows3 {x y z : X} {p q s : Tok × List Nat} (h0 : x.ev ρ = nats p.1 p.2) (h1 : y.ev ρ = nats q.1 q.2) (h2 : z.ev ρ = nats s.1 s.2) (hk : wps P dr c0 r ⟨upd ρ i (.sl (.id c) 1 (rowsV [p, q, s])), σ, c + 1⟩ K) : wps P dr c0 (⟨some i, .bsl true 1 3 [.slice none 0 0] [(0, (1, x)), (1, (1, y)), (2, (1, z))], none⟩ :: r) ⟨ρ, σ, c⟩ K := by
  refine s_eff rfl (by intros; exact fun h => by cases h) (by intros; exact fun h => by cases h) ⟨_, _, _, none, .bsl (cs := rowsV [p, q, s]) ?_, hk⟩
  simp only [partsOf, List.map, h0, h1, h2]
  rfl
end

/-- the answers of 'Root', in memory of their own -/
def RootO (c c' A0 k : Nat) (r : V) : Prop := (bl A0 ≤ 67108864 ∧ ∃ x t1 t2, IsRoot A0 k x ∧ r = .tup [nats t1 (digs 18446744073709551616 x), nats t2 (digs 18446744073709551616 (A0 - x ^ k)), iv 0] ∧ Row1 c c' t1 (digs 18446744073709551616 x) ∧ Row1 c c' t2 (digs 18446744073709551616 (A0 - x ^ k)) ∧ Apt t1 t2) ∨ (67108864 < bl A0 ∧ r = .tup [nil1, nil1, iv 3])
theorem apt_next (c : Nat) : Apt (.id c) (.id (c + 1)) := fun i h1 h2 => by cases h1; cases h2
theorem rootO_of {c c' A0 k : Nat} {r : V} (hc : c ≤ c') (h : RootS c c' A0 k r) : RootO c c' A0 k r ∨ (Void r ∧ ∃ r2 c2, c ≤ c2 ∧ RootO c c2 A0 k r2) := by
  rcases h with ⟨hb, x, t1, t2, hx, rfl, h1, h2, h3⟩ | h
  · have bad : Void (.tup [nats t1 (digs 18446744073709551616 x), nats t2 (digs 18446744073709551616 (A0 - x ^ k)), iv 0]) → Void (.tup [nats t1 (digs 18446744073709551616 x), nats t2 (digs 18446744073709551616 (A0 - x ^ k)), iv 0]) ∧ ∃ r2 c2, c ≤ c2 ∧ RootO c c2 A0 k r2 := fun hv =>
      ⟨hv, _, c + 2, by omega, .inl ⟨hb, x, .id c, .id (c + 1), hx, rfl, .inr ⟨c, rfl, by omega, by omega⟩, .inr ⟨c + 1, rfl, by omega, by omega⟩, apt_next c⟩⟩
    rcases tk_nil_or (digs 18446744073709551616 x) h1 with g1 | ⟨rfl, g1⟩
    · rcases tk_nil_or (digs 18446744073709551616 (A0 - x ^ k)) h2 with g2 | ⟨rfl, g2⟩
      · exact .inl (.inl ⟨hb, x, t1, t2, hx, rfl, g1, g2, h3⟩)
      · exact .inr (bad (void_tup (by simp) g2))
    · exact .inr (bad (void_tup (by simp) g1))
  · exact .inl (.inr h)
theorem root_specO (t : Tok) (a : List Nat) (k : Int) (c : Nat) (ha : Lim 18446744073709551616 a) (hna : a.length ≤ 1099511627776) (hk : k < 9223372036854775808) :
    VSpec Try.prog F.roots_Root c [nats t a, iv k] (fun r c' => (k < 1 → r = .tup [nil1, nil1, iv 40]) ∧ (1 ≤ k → RootO c c' (val 18446744073709551616 a) k.toNat r)) := by
  refine VSpec.clean (root_specS t a k c ha hna hk) fun r c' hc ⟨h1, h2⟩ => ?_
  by_cases g : k < 1
  · exact .inl ⟨h1, fun h => by omega⟩
  · rcases rootO_of hc (h2 (by omega)) with h | ⟨hv, r2, c2, h3, h4⟩
    · exact .inl ⟨h1, fun _ => h⟩
    · exact .inr ⟨hv, r2, c2, h3, fun h => by omega, fun _ => h4⟩
theorem sqrt_specO (t : Tok) (a : List Nat) (c : Nat) (ha : Lim 18446744073709551616 a) (hna : a.length ≤ 1099511627776) :
    VSpec Try.prog F.roots_Sqrt c [nats t a] (fun r c' => RootO c c' (val 18446744073709551616 a) 2 r) :=
  VSpec.clean (sqrt_specS t a c ha hna) fun r c' hc h => rootO_of hc h
end Go.Proofs.Ytladcfeibpddeab
set_option linter.unusedSimpArgs false
set_option linter.unusedVariables false
set_option maxRecDepth 100000
set_option maxHeartbeats 8000000
namespace Go.Proofs.Ytladcfeibpddeab
open Go.VM

theorem b_eql {x y : Bool} : sbin .eql true (bv x) (bv y) = some (bv (x == y)) := rfl
theorem isRoot_two {A x : Nat} (h1 : x * x ≤ A) (h2 : A < (x + 1) * (x + 1)) : IsRoot A 2 x := ⟨by rw [Nat.pow_two]; exact h1, by rw [Nat.pow_two]; exact h2⟩

theorem root01_specT (t : Tok) (A0 c : Nat) (hA : bl A0 ≤ 67108864) :
    VSpec Try.prog F.surdref01_Root c [nats t (digs 4294967296 A0)] (fun r c' => ∃ tk x, r = nats tk (digs 4294967296 x) ∧ IsRoot A0 2 x ∧ Tk c c' tk) := by
  refine spec_mk hm E.surdref01_Root B.surdref01_Root K.surdref01_Root Q.surdref01_Root (by rw [N.surdref01_Root]; simp) ?_
  unfold C.surdref01_Root R.surdref01_Root
  (repeat (first | refine v_reg ?_ | refine v_last ?_ | refine vwp_seq ?_ | refine vwp_block ?_ | refine vwp_skip ?_ | refine vwp_exit ?_ | refine vwp_ret ?_ | refine v_cond ?_ | simp only [vm, ite_true, ite_false, eq_self, reduceIte, Nat.reduceEqDiff, Option.map] | refine And.intro (by omega) ?_))
  refine s_call (lenR t A0 c (by omega)) (by simp only [vm, ite_true, ite_false, eq_self, reduceIte, Nat.reduceEqDiff, Option.map, List.map]) ?_
  rintro v c1 hc1 rfl
  have eq1 : (bl A0 : Int) / 2 = ((bl A0 / 2 : Nat) : Int) := by omega
  (repeat (first | refine v_reg ?_ | refine v_last ?_ | refine vwp_seq ?_ | refine vwp_block ?_ | refine vwp_skip ?_ | refine vwp_exit ?_ | refine vwp_ret ?_ | refine v_cond ?_ | simp only [vm, ite_true, ite_false, eq_self, reduceIte, Nat.reduceEqDiff, Option.map, eq1] | refine And.intro (by omega) ?_))
  refine v_loop (fun S => ∃ tk x, S.ρ 3 = nats tk (digs 4294967296 x) ∧ IsRoot A0 2 x ∧ Tk c S.c tk ∧ c ≤ S.c) ?_ ?_
  · refine vwp_loop (fun q S => ∃ i tk x, q = i ∧ i ≤ bl A0 / 2 + 1 ∧ S.ρ 0 = nats t (digs 4294967296 A0) ∧ S.ρ 3 = nats tk (digs 4294967296 x) ∧ S.ρ 4 = iv ((i : Int) - 1) ∧ x * x ≤ A0 ∧ A0 < (x + 2 ^ i) * (x + 2 ^ i) ∧ Tk c S.c tk ∧ S.σ = noBlk ∧ c ≤ S.c) (bl A0 / 2 + 1) ?_ ?_
    · have e0 : ((bl A0 / 2 + 1 : Nat) : Int) - 1 = ((bl A0 / 2 : Nat) : Int) := by omega
      have h1 : A0 < 2 ^ (bl A0 / 2 + 1) * 2 ^ (bl A0 / 2 + 1) := by
        rw [← Nat.pow_add]
        exact Nat.lt_of_lt_of_le (lt_bl A0) (Nat.pow_le_pow_right (by decide) (by omega))
      refine ⟨bl A0 / 2 + 1, .nil, 0, rfl, Nat.le_refl _, ?_⟩
      rw [e0]
      simp only [vm, ite_true, ite_false, eq_self, reduceIte, Nat.reduceEqDiff, Option.map]
      (repeat' apply And.intro) <;> first | rfl | omega | assumption | exact h1 | exact .inl rfl
    rintro q ⟨ρ2, σ, c4⟩ ⟨i, tk, x, hq, hi, h0, h3, h4, hx1, hx2, htk, hσ, hc4⟩
    dsimp only at h0 h3 h4 htk hσ hc4
    subst hσ
    rcases Nat.eq_zero_or_pos i with rfl | hip
    · have g2 : ¬ (0 : Int) ≤ ((0 : Nat) : Int) - 1 := by omega
      rw [Nat.pow_zero] at hx2
      (repeat (first | refine v_reg ?_ | refine v_last ?_ | refine vwp_seq ?_ | refine vwp_block ?_ | refine vwp_skip ?_ | refine vwp_exit ?_ | refine vwp_ret ?_ | refine v_cond ?_ | simp only [vm, ite_true, ite_false, eq_self, reduceIte, Nat.reduceEqDiff, Option.map, h3, h4, g2] | refine And.intro (by omega) ?_))
      exact ⟨tk, x, rfl, isRoot_two hx1 hx2, htk, hc4⟩
    obtain ⟨j, rfl⟩ : ∃ j, i = j + 1 := ⟨i - 1, by omega⟩
    have e1 : (((j + 1 : Nat) : Int) - 1) = (j : Int) := by omega
    rw [e1] at h4
    have g2 : (0 : Int) ≤ (j : Int) := by omega
    have hxA : x ≤ A0 := Nat.le_trans (Nat.le_mul_self x) hx1
    have hbx : bl x ≤ 67108864 := Nat.le_trans (bl_mono hxA) hA
    have hb2 : bl (2 ^ j) ≤ 67108865 := Nat.le_trans (bl_le (k := j + 1) (Nat.pow_lt_pow_right (by decide) (by omega))) (by omega)
    have hbs := bl_add_le (m := x) (n := 2 ^ j) (k := 67108865) (by omega) hb2
    have hbm := bl_mul_le (x + 2 ^ j) (x + 2 ^ j)
    have hsum : x + 2 ^ j + 2 ^ j = x + 2 ^ (j + 1) := by rw [Nat.pow_succ]; omega
    (repeat (first | refine v_reg ?_ | refine v_last ?_ | refine vwp_seq ?_ | refine vwp_block ?_ | refine vwp_skip ?_ | refine vwp_exit ?_ | refine vwp_ret ?_ | refine v_cond ?_ | simp only [vm, ite_true, ite_false, eq_self, reduceIte, Nat.reduceEqDiff, Option.map, h0, h3, h4, g2] | refine And.intro (by omega) ?_))
    refine s_call (oneR c4) (by simp only [vm, ite_true, ite_false, eq_self, reduceIte, Nat.reduceEqDiff, Option.map, List.map]) ?_
    rintro v c5 hc5 ⟨j1, rfl, _, _⟩
    (repeat (first | refine v_reg ?_ | refine v_last ?_ | refine vwp_seq ?_ | refine vwp_block ?_ | refine vwp_skip ?_ | refine vwp_exit ?_ | refine vwp_ret ?_ | refine v_cond ?_ | simp only [vm, ite_true, ite_false, eq_self, reduceIte, Nat.reduceEqDiff, Option.map, h0, h3, h4] | refine And.intro (by omega) ?_))
    refine s_call (shlR (.id j1) 1 j c5 (by decide) (by decide) (by omega)) (by simp only [vm, ite_true, ite_false, eq_self, reduceIte, Nat.reduceEqDiff, Option.map, List.map, h4]) ?_
    rintro v c6 hc6 ⟨j2, rfl, _, _⟩
    rw [Nat.one_mul]
    (repeat (first | refine v_reg ?_ | refine v_last ?_ | refine vwp_seq ?_ | refine vwp_block ?_ | refine vwp_skip ?_ | refine vwp_exit ?_ | refine vwp_ret ?_ | refine v_cond ?_ | simp only [vm, ite_true, ite_false, eq_self, reduceIte, Nat.reduceEqDiff, Option.map, h0, h3, h4] | refine And.intro (by omega) ?_))
    refine s_call (addR tk (.id j2) x (2 ^ j) c6 (by omega) (by omega)) (by simp only [vm, ite_true, ite_false, eq_self, reduceIte, Nat.reduceEqDiff, Option.map, List.map, h3]) ?_
    rintro v c7 hc7 ⟨j3, rfl, hj3, hj3'⟩
    (repeat (first | refine v_reg ?_ | refine v_last ?_ | refine vwp_seq ?_ | refine vwp_block ?_ | refine vwp_skip ?_ | refine vwp_exit ?_ | refine vwp_ret ?_ | refine v_cond ?_ | simp only [vm, ite_true, ite_false, eq_self, reduceIte, Nat.reduceEqDiff, Option.map, h0, h3, h4] | refine And.intro (by omega) ?_))
    refine s_call (mulR (.id j3) (.id j3) (x + 2 ^ j) (x + 2 ^ j) c7 (by omega) (by omega)) (by simp only [vm, ite_true, ite_false, eq_self, reduceIte, Nat.reduceEqDiff, Option.map, List.map]) ?_
    rintro v c8 hc8 ⟨j4, rfl, _, _⟩
    (repeat (first | refine v_reg ?_ | refine v_last ?_ | refine vwp_seq ?_ | refine vwp_block ?_ | refine vwp_skip ?_ | refine vwp_exit ?_ | refine vwp_ret ?_ | refine v_cond ?_ | simp only [vm, ite_true, ite_false, eq_self, reduceIte, Nat.reduceEqDiff, Option.map, h0, h3, h4] | refine And.intro (by omega) ?_))
    refine s_call (cmpR (.id j4) t ((x + 2 ^ j) * (x + 2 ^ j)) A0 c8 (by omega) (by omega)) (by simp only [vm, ite_true, ite_false, eq_self, reduceIte, Nat.reduceEqDiff, Option.map, List.map, h0]) ?_
    rintro v c9 hc9 rfl
    by_cases g : cmpI ((x + 2 ^ j) * (x + 2 ^ j)) A0 ≤ 0
    · have h := cmpI_le.1 g
      (repeat (first | refine v_reg ?_ | refine v_last ?_ | refine vwp_seq ?_ | refine vwp_block ?_ | refine vwp_skip ?_ | refine vwp_exit ?_ | refine vwp_ret ?_ | refine v_cond ?_ | simp only [vm, ite_true, ite_false, eq_self, reduceIte, Nat.reduceEqDiff, Option.map, h0, h3, h4, g] | refine And.intro (by omega) ?_))
      exact ⟨j, by omega, j, .id j3, x + 2 ^ j, rfl, by omega, rfl, rfl, h, by rw [hsum]; exact hx2, .inr ⟨j3, rfl, by omega, by omega⟩, by omega⟩
    · have h : ¬ (x + 2 ^ j) * (x + 2 ^ j) ≤ A0 := fun h => g (cmpI_le.2 h)
      (repeat (first | refine v_reg ?_ | refine v_last ?_ | refine vwp_seq ?_ | refine vwp_block ?_ | refine vwp_skip ?_ | refine vwp_exit ?_ | refine vwp_ret ?_ | refine v_cond ?_ | simp only [vm, ite_true, ite_false, eq_self, reduceIte, Nat.reduceEqDiff, Option.map, h0, h3, h4, g] | refine And.intro (by omega) ?_))
      exact ⟨j, by omega, j, tk, x, rfl, by omega, rfl, rfl, hx1, by omega, htk.mono (by omega) (by omega), by omega⟩
  rintro ⟨ρ3, σ3, c5⟩ ⟨tk, x, h3, hx, htk, hc5⟩
  dsimp only at h3 htk hc5
  (repeat (first | refine v_reg ?_ | refine v_last ?_ | refine vwp_seq ?_ | refine vwp_block ?_ | refine vwp_skip ?_ | refine vwp_exit ?_ | refine vwp_ret ?_ | refine v_cond ?_ | simp only [vm, ite_true, ite_false, eq_self, reduceIte, Nat.reduceEqDiff, Option.map, h3] | refine And.intro (by omega) ?_))
  exact ⟨tk, x, rfl, hx, htk⟩
theorem root01_spec (t : Tok) (A0 c : Nat) (hA : bl A0 ≤ 67108864) :
    VSpec Try.prog F.surdref01_Root c [nats t (digs 4294967296 A0)] (fun r c' => ∃ tk x, r = nats tk (digs 4294967296 x) ∧ IsRoot A0 2 x) :=
  (root01_specT t A0 c hA).mono fun r c' ⟨tk, x, h1, h2, _⟩ => ⟨tk, x, h1, h2⟩

theorem root2_facts {A x : Nat} (h : IsRoot A 2 x) (hA : bl A ≤ 67108864) : bl x ≤ 67108864 ∧ x * x = x ^ 2 ∧ bl (x * x) ≤ 67108864 ∧ x * x ≤ A := by
  have h1 := h.1
  rw [Nat.pow_two] at h1
  exact ⟨Nat.le_trans (bl_mono (Nat.le_trans (Nat.le_mul_self x) h1)) hA, (Nat.pow_two x).symm, Nat.le_trans (bl_mono h1) hA, h1⟩
/-- the least number whose square is at least this -/
def ceilN (A x : Nat) : Nat := if x * x < A then x + 1 else x

theorem ceil_spec (t : Tok) (a : List Nat) (c : Nat) (ha : Lim 18446744073709551616 a) (hna : a.length ≤ 1099511627776) (hb : bl (val 18446744073709551616 a) ≤ 67108864) :
    VSpec Try.prog F.roots_Ceil c [nats t a] (fun r c' => ∃ x t1, IsRoot (val 18446744073709551616 a) 2 x ∧ r = .tup [nats t1 (digs 18446744073709551616 (ceilN (val 18446744073709551616 a) x)), iv 0] ∧ Tk c c' t1) := by
  refine spec_mk hm E.roots_Ceil B.roots_Ceil K.roots_Ceil Q.roots_Ceil (by rw [N.roots_Ceil]; simp) ?_
  unfold C.roots_Ceil R.roots_Ceil
  (repeat (first | refine v_reg ?_ | refine v_last ?_ | refine vwp_seq ?_ | refine vwp_block ?_ | refine vwp_skip ?_ | refine vwp_exit ?_ | refine vwp_ret ?_ | refine v_cond ?_ | simp only [vm, ite_true, ite_false, eq_self, reduceIte, Nat.reduceEqDiff, Option.map] | refine And.intro (by omega) ?_))
  refine s_call (sqrt_spec t a c ha hna) (by simp only [vm, ite_true, ite_false, eq_self, reduceIte, Nat.reduceEqDiff, Option.map, List.map]) ?_
  rintro v c1 hc1 (⟨_, x, t1, t2, hx, rfl, ht1, ht2⟩ | ⟨hb2, _⟩)
  rotate_left
  · omega
  obtain ⟨f1, f2, f3, f4⟩ := root2_facts hx hb
  have hs := Nat.le_trans (bl_mono (Nat.sub_le (val 18446744073709551616 a) (x ^ 2))) hb
  have hln : (digs 18446744073709551616 (val 18446744073709551616 a - x ^ 2)).length ≤ 1048576 := digs_len_bl (by omega)
  have hlx : (digs 18446744073709551616 x).length ≤ 1048576 := digs_len_bl (by omega)
  (repeat (first | refine v_reg ?_ | refine v_last ?_ | refine vwp_seq ?_ | refine vwp_block ?_ | refine vwp_skip ?_ | refine vwp_exit ?_ | refine vwp_ret ?_ | refine v_cond ?_ | simp only [vm, ite_true, ite_false, eq_self, reduceIte, Nat.reduceEqDiff, Option.map] | refine And.intro (by omega) ?_))
  refine s_call (length_spec t2 (digs 18446744073709551616 (val 18446744073709551616 a - x ^ 2)) c1 (lim_digs two64 _) (by omega)) (by simp only [vm, ite_true, ite_false, eq_self, reduceIte, Nat.reduceEqDiff, Option.map, List.map]) ?_
  rw [val_digs two64]
  rintro v c2 hc2 rfl
  by_cases g : (bl (val 18446744073709551616 a - x ^ 2) : Int) = 0
  · have h2 : val 18446744073709551616 a - x ^ 2 = 0 := bl_eq_zero.1 (by omega)
    have hc : ceilN (val 18446744073709551616 a) x = x := if_neg (by omega)
    (repeat (first | refine v_reg ?_ | refine v_last ?_ | refine vwp_seq ?_ | refine vwp_block ?_ | refine vwp_skip ?_ | refine vwp_exit ?_ | refine vwp_ret ?_ | refine v_cond ?_ | simp only [vm, ite_true, ite_false, eq_self, reduceIte, Nat.reduceEqDiff, Option.map, g] | refine And.intro (by omega) ?_))
    exact ⟨x, t1, hx, by rw [hc], ht1.mono (by omega) (by omega)⟩
  · have h2 : ¬ val 18446744073709551616 a - x ^ 2 = 0 := fun h => g (by rw [h]; rfl)
    have hc : ceilN (val 18446744073709551616 a) x = x + 1 := if_pos (by omega)
    have hle : x + 1 ≤ val 18446744073709551616 a := Nat.lt_of_le_of_lt (Nat.le_mul_self x) (by omega)
    have hb1 : bl (x + 1) ≤ 67108864 := Nat.le_trans (bl_mono hle) hb
    (repeat (first | refine v_reg ?_ | refine v_last ?_ | refine vwp_seq ?_ | refine vwp_block ?_ | refine vwp_skip ?_ | refine vwp_exit ?_ | refine vwp_ret ?_ | refine v_cond ?_ | simp only [vm, ite_true, ite_false, eq_self, reduceIte, Nat.reduceEqDiff, Option.map, g] | refine And.intro (by omega) ?_))
    refine s_call (from_spec 1 c2 (by decide)) (by simp only [vm, ite_true, ite_false, eq_self, reduceIte, Nat.reduceEqDiff, Option.map, List.map]) ?_
    rintro v c3 hc3 ⟨t3, rfl, ht3⟩
    have l1 : (digs 18446744073709551616 1).length ≤ 1 := digs_len two64 (by decide)
    (repeat (first | refine v_reg ?_ | refine v_last ?_ | refine vwp_seq ?_ | refine vwp_block ?_ | refine vwp_skip ?_ | refine vwp_exit ?_ | refine vwp_ret ?_ | refine v_cond ?_ | simp only [vm, ite_true, ite_false, eq_self, reduceIte, Nat.reduceEqDiff, Option.map] | refine And.intro (by omega) ?_))
    refine s_call (add_spec t1 t3 (digs 18446744073709551616 x) (digs 18446744073709551616 1) c3 (lim_digs two64 _) (lim_digs two64 _) (by omega) (by omega)) (by simp only [vm, ite_true, ite_false, eq_self, reduceIte, Nat.reduceEqDiff, Option.map, List.map]) ?_
    rw [val_digs two64, val_digs two64]
    rintro v c4 hc4 (⟨_, t4, rfl, ht4⟩ | ⟨hb4, _⟩)
    · (repeat (first | refine v_reg ?_ | refine v_last ?_ | refine vwp_seq ?_ | refine vwp_block ?_ | refine vwp_skip ?_ | refine vwp_exit ?_ | refine vwp_ret ?_ | refine v_cond ?_ | simp only [vm, ite_true, ite_false, eq_self, reduceIte, Nat.reduceEqDiff, Option.map] | refine And.intro (by omega) ?_))
      exact ⟨x, t4, hx, by rw [hc], ht4.mono (by omega) (by omega)⟩
    · omega

theorem isSquare_spec (t : Tok) (a : List Nat) (c : Nat) (ha : Lim 18446744073709551616 a) (hna : a.length ≤ 1099511627776) (hb : bl (val 18446744073709551616 a) ≤ 67108864) :
    VSpec Try.prog F.roots_IsSquare c [nats t a] (fun r c' => ∃ x, IsRoot (val 18446744073709551616 a) 2 x ∧ r = .tup [bv (decide (val 18446744073709551616 a - x ^ 2 = 0)), iv 0]) := by
  refine spec_mk hm E.roots_IsSquare B.roots_IsSquare K.roots_IsSquare Q.roots_IsSquare (by rw [N.roots_IsSquare]; simp) ?_
  unfold C.roots_IsSquare R.roots_IsSquare
  (repeat (first | refine v_reg ?_ | refine v_last ?_ | refine vwp_seq ?_ | refine vwp_block ?_ | refine vwp_skip ?_ | refine vwp_exit ?_ | refine vwp_ret ?_ | refine v_cond ?_ | simp only [vm, ite_true, ite_false, eq_self, reduceIte, Nat.reduceEqDiff, Option.map] | refine And.intro (by omega) ?_))
  refine s_call (sqrt_spec t a c ha hna) (by simp only [vm, ite_true, ite_false, eq_self, reduceIte, Nat.reduceEqDiff, Option.map, List.map]) ?_
  rintro v c1 hc1 (⟨_, x, t1, t2, hx, rfl, ht1, ht2⟩ | ⟨hb2, _⟩)
  rotate_left
  · omega
  have hs := Nat.le_trans (bl_mono (Nat.sub_le (val 18446744073709551616 a) (x ^ 2))) hb
  have hln : (digs 18446744073709551616 (val 18446744073709551616 a - x ^ 2)).length ≤ 1048576 := digs_len_bl (by omega)
  (repeat (first | refine v_reg ?_ | refine v_last ?_ | refine vwp_seq ?_ | refine vwp_block ?_ | refine vwp_skip ?_ | refine vwp_exit ?_ | refine vwp_ret ?_ | refine v_cond ?_ | simp only [vm, ite_true, ite_false, eq_self, reduceIte, Nat.reduceEqDiff, Option.map] | refine And.intro (by omega) ?_))
  refine s_call (length_spec t2 (digs 18446744073709551616 (val 18446744073709551616 a - x ^ 2)) c1 (lim_digs two64 _) (by omega)) (by simp only [vm, ite_true, ite_false, eq_self, reduceIte, Nat.reduceEqDiff, Option.map, List.map]) ?_
  rw [val_digs two64]
  rintro v c2 hc2 rfl
  by_cases g : (bl (val 18446744073709551616 a - x ^ 2) : Int) = 0
  · have h2 : val 18446744073709551616 a - x ^ 2 = 0 := bl_eq_zero.1 (by omega)
    (repeat (first | refine v_reg ?_ | refine v_last ?_ | refine vwp_seq ?_ | refine vwp_block ?_ | refine vwp_skip ?_ | refine vwp_exit ?_ | refine vwp_ret ?_ | refine v_cond ?_ | simp only [vm, ite_true, ite_false, eq_self, reduceIte, Nat.reduceEqDiff, Option.map, g] | refine And.intro (by omega) ?_))
    exact ⟨x, hx, by rw [decide_eq_true h2]⟩
  · have h2 : ¬ val 18446744073709551616 a - x ^ 2 = 0 := fun h => g (by rw [h]; rfl)
    (repeat (first | refine v_reg ?_ | refine v_last ?_ | refine vwp_seq ?_ | refine vwp_block ?_ | refine vwp_skip ?_ | refine vwp_exit ?_ | refine vwp_ret ?_ | refine v_cond ?_ | simp only [vm, ite_true, ite_false, eq_self, reduceIte, Nat.reduceEqDiff, Option.map, g] | refine And.intro (by omega) ?_))
    exact ⟨x, hx, by rw [decide_eq_false h2]⟩
theorem ceil_own {c c' : Nat} {r : V} {A0 : Nat} (hc : c ≤ c') (h : ∃ x t1, IsRoot A0 2 x ∧ r = .tup [nats t1 (digs 18446744073709551616 (ceilN A0 x)), iv 0] ∧ Tk c c' t1) :
    (∃ x t1, IsRoot A0 2 x ∧ r = .tup [nats t1 (digs 18446744073709551616 (ceilN A0 x)), iv 0] ∧ Row1 c c' t1 (digs 18446744073709551616 (ceilN A0 x))) ∨ (Void r ∧ ∃ (r2 : V) (c2 : Nat), c ≤ c2 ∧ ∃ x t1, IsRoot A0 2 x ∧ r2 = .tup [nats t1 (digs 18446744073709551616 (ceilN A0 x)), iv 0] ∧ Row1 c c2 t1 (digs 18446744073709551616 (ceilN A0 x))) := by
  obtain ⟨x, t1, hx, rfl, h1⟩ := h
  rcases tk_nil_or (digs 18446744073709551616 (ceilN A0 x)) h1 with g | ⟨rfl, g⟩
  · exact .inl ⟨x, t1, hx, rfl, g⟩
  · exact .inr ⟨void_tup (by simp) g, _, c + 1, by omega, x, .id c, hx, rfl, .inr ⟨c, rfl, by omega, by omega⟩⟩
theorem apt_row {a b c d : Nat} {t u : Tok} {l m : List Nat} (h : Row1 a b t l) (h' : Row1 c d u m) (hbc : b ≤ c) : Apt t u := fun i e e' => by
  rcases h with ⟨rfl, _⟩ | ⟨j, rfl, _, h2⟩
  · cases e
  · rcases h' with ⟨rfl, _⟩ | ⟨k, rfl, h3, _⟩
    · cases e'
    · cases e; cases e'; omega

end Go.Proofs.Ytladcfeibpddeab
set_option linter.unusedSimpArgs false
set_option linter.unusedVariables false
set_option maxRecDepth 100000
set_option maxHeartbeats 8000000
namespace Go.Proofs.Ytladcfeibpddeab
open Go.VM

/-- 'Perfect', no more than that it answers a number in memory of its own -/
theorem perfect_any (t : Tok) (a : List Nat) (c : Nat) (ha : Lim 18446744073709551616 a) (hna : a.length ≤ 1099511627776) (hb : bl (val 18446744073709551616 a) ≤ 67108864) :
    VSpec Try.prog F.roots_Perfect c [nats t a] (fun r c' => ∃ (k : Int) (tk : Tok) (l : List Nat), r = .tup [nats tk l, iv k, iv 0] ∧ Tk c c' tk ∧ l.length ≤ 1048576) := by
  refine spec_mk hm E.roots_Perfect B.roots_Perfect K.roots_Perfect Q.roots_Perfect (by rw [N.roots_Perfect]; simp) ?_
  unfold C.roots_Perfect R.roots_Perfect
  (repeat (first | refine v_reg ?_ | refine v_last ?_ | refine vwp_seq ?_ | refine vwp_block ?_ | refine vwp_skip ?_ | refine vwp_exit ?_ | refine vwp_ret ?_ | refine v_cond ?_ | simp only [vm, ite_true, ite_false, eq_self, reduceIte, Nat.reduceEqDiff, Option.map] | refine And.intro (by omega) ?_))
  refine s_call (fits_spec t a c ha hna) (by simp only [vm, ite_true, ite_false, eq_self, reduceIte, Nat.reduceEqDiff, Option.map, List.map]) ?_
  rintro v c1 hc1 (⟨_, t1, rfl, ht1⟩ | ⟨hb2, _⟩)
  rotate_left
  · omega
  obtain ⟨A0, hA0⟩ : ∃ A0, A0 = val 18446744073709551616 a := ⟨_, rfl⟩
  rw [← hA0] at hb ⊢
  have hla := lim_digs two64 A0
  have va := val_digs two64 A0
  have hnA : (digs 18446744073709551616 A0).length ≤ 1048576 := digs_len_bl (by omega)
  generalize digs 18446744073709551616 A0 = x at *
  (repeat (first | refine v_reg ?_ | refine v_last ?_ | refine vwp_seq ?_ | refine vwp_block ?_ | refine vwp_skip ?_ | refine vwp_exit ?_ | refine vwp_ret ?_ | refine v_cond ?_ | simp only [vm, ite_true, ite_false, eq_self, reduceIte, Nat.reduceEqDiff, Option.map] | refine And.intro (by omega) ?_))
  refine s_call (length_spec t1 x c1 hla (by omega)) (by simp only [vm, ite_true, ite_false, eq_self, reduceIte, Nat.reduceEqDiff, Option.map, List.map]) ?_
  rw [va]
  rintro v c2 hc2 rfl
  by_cases g1 : (bl A0 : Int) ≤ 1
  · (repeat (first | refine v_reg ?_ | refine v_last ?_ | refine vwp_seq ?_ | refine vwp_block ?_ | refine vwp_skip ?_ | refine vwp_exit ?_ | refine vwp_ret ?_ | refine v_cond ?_ | simp only [vm, ite_true, ite_false, eq_self, reduceIte, Nat.reduceEqDiff, Option.map, g1] | refine And.intro (by omega) ?_))
    exact ⟨1, t1, x, rfl, ht1.mono (by omega) (by omega), by omega⟩
  (repeat (first | refine v_reg ?_ | refine v_last ?_ | refine vwp_seq ?_ | refine vwp_block ?_ | refine vwp_skip ?_ | refine vwp_exit ?_ | refine vwp_ret ?_ | refine v_cond ?_ | simp only [vm, ite_true, ite_false, eq_self, reduceIte, Nat.reduceEqDiff, Option.map, g1] | refine And.intro (by omega) ?_))
  refine v_loopR (fun S => S.ρ 0 = nats t1 x ∧ c2 ≤ S.c) ?_ ?_
  · refine vwp_loop (fun q S => ∃ i, q = bl A0 - i ∧ i ≤ bl A0 ∧ S.ρ 0 = nats t1 x ∧ S.ρ 6 = iv (bl A0 : Int) ∧ S.ρ 25 = iv (bl A0 : Int) ∧ S.ρ 26 = iv (i : Int) ∧ S.σ = noBlk ∧ c2 ≤ S.c) (bl A0) ?_ ?_
    · refine ⟨0, rfl, Nat.zero_le _, ?_⟩
      simp only [vm, ite_true, ite_false, eq_self, reduceIte, Nat.reduceEqDiff, Option.map]
      (repeat' apply And.intro) <;> first | rfl | omega | assumption
    rintro q ⟨ρ2, σ, c4⟩ ⟨i, hq, hi, h0, h6, h25, h26, hσ, hc4⟩
    dsimp only at h0 h6 h25 h26 hσ hc4
    subst hσ
    by_cases g2 : (i : Int) < bl A0
    · have e1 : (bl A0 : Int) - (i : Int) = ((bl A0 - i : Nat) : Int) := by omega
      have e2 : (i : Int) + 1 = ((i + 1 : Nat) : Int) := by omega
      (repeat (first | refine v_reg ?_ | refine v_last ?_ | refine vwp_seq ?_ | refine vwp_block ?_ | refine vwp_skip ?_ | refine vwp_exit ?_ | refine vwp_ret ?_ | refine v_cond ?_ | simp only [vm, ite_true, ite_false, eq_self, reduceIte, Nat.reduceEqDiff, Option.map, h0, h6, h25, h26, g2, e1] | refine And.intro (by omega) ?_))
      refine s_call (root_spec t1 x ((bl A0 - i : Nat) : Int) c4 hla (by omega) (by omega)) (by simp only [vm, ite_true, ite_false, eq_self, reduceIte, Nat.reduceEqDiff, Option.map, List.map, h0]) ?_
      rintro v c5 hc5 ⟨_, h⟩
      rw [va] at h
      rcases h (by omega) with ⟨_, y, t3, t4, hy, rfl, h3, h4⟩ | ⟨hb2, _⟩
      rotate_left
      · omega
      have hyA : y ≤ A0 := Nat.le_trans (Nat.le_self_pow (by omega) y) hy.1
      have hby := Nat.le_trans (bl_mono hyA) hb
      have hbs := Nat.le_trans (bl_mono (Nat.sub_le A0 (y ^ ((bl A0 - i : Nat) : Int).toNat))) hb
      have ly : (digs 18446744073709551616 y).length ≤ 1048576 := digs_len_bl (by omega)
      have ls : (digs 18446744073709551616 (A0 - y ^ ((bl A0 - i : Nat) : Int).toNat)).length ≤ 1048576 := digs_len_bl (by omega)
      generalize A0 - y ^ ((bl A0 - i : Nat) : Int).toNat = z at *
      (repeat (first | refine v_reg ?_ | refine v_last ?_ | refine vwp_seq ?_ | refine vwp_block ?_ | refine vwp_skip ?_ | refine vwp_exit ?_ | refine vwp_ret ?_ | refine v_cond ?_ | simp only [vm, ite_true, ite_false, eq_self, reduceIte, Nat.reduceEqDiff, Option.map, h0, h6, h25, h26] | refine And.intro (by omega) ?_))
      refine s_call (length_spec t4 (digs 18446744073709551616 z) c5 (lim_digs two64 _) (by omega)) (by simp only [vm, ite_true, ite_false, eq_self, reduceIte, Nat.reduceEqDiff, Option.map, List.map]) ?_
      rw [val_digs two64]
      rintro v c6 hc6 rfl
      by_cases g3 : (bl z : Int) = 0
      · (repeat (first | refine v_reg ?_ | refine v_last ?_ | refine vwp_seq ?_ | refine vwp_block ?_ | refine vwp_skip ?_ | refine vwp_exit ?_ | refine vwp_ret ?_ | refine v_cond ?_ | simp only [vm, ite_true, ite_false, eq_self, reduceIte, Nat.reduceEqDiff, Option.map, h0, h6, h25, h26, g3] | refine And.intro (by omega) ?_))
        refine s_call (length_spec t3 (digs 18446744073709551616 y) c6 (lim_digs two64 _) (by omega)) (by simp only [vm, ite_true, ite_false, eq_self, reduceIte, Nat.reduceEqDiff, Option.map, List.map]) ?_
        rw [val_digs two64]
        rintro v c7 hc7 rfl
        by_cases g4 : (1 : Int) < (bl y : Int)
        · (repeat (first | refine v_reg ?_ | refine v_last ?_ | refine vwp_seq ?_ | refine vwp_block ?_ | refine vwp_skip ?_ | refine vwp_exit ?_ | refine vwp_ret ?_ | refine v_cond ?_ | simp only [vm, ite_true, ite_false, eq_self, reduceIte, Nat.reduceEqDiff, Option.map, g4] | refine And.intro (by omega) ?_))
          exact ⟨_, t3, digs 18446744073709551616 y, rfl, h3.mono (by omega) (by omega), by omega⟩
        · (repeat (first | refine v_reg ?_ | refine v_last ?_ | refine vwp_seq ?_ | refine vwp_block ?_ | refine vwp_skip ?_ | refine vwp_exit ?_ | refine vwp_ret ?_ | refine v_cond ?_ | simp only [vm, ite_true, ite_false, eq_self, reduceIte, Nat.reduceEqDiff, Option.map, h0, h6, h25, h26, g4, e2] | refine And.intro (by omega) ?_))
          exact ⟨bl A0 - (i + 1), by omega, i + 1, rfl, by omega, rfl, by omega⟩
      · (repeat (first | refine v_reg ?_ | refine v_last ?_ | refine vwp_seq ?_ | refine vwp_block ?_ | refine vwp_skip ?_ | refine vwp_exit ?_ | refine vwp_ret ?_ | refine v_cond ?_ | simp only [vm, ite_true, ite_false, eq_self, reduceIte, Nat.reduceEqDiff, Option.map, h0, h6, h25, h26, g3, e2] | refine And.intro (by omega) ?_))
        exact ⟨bl A0 - (i + 1), by omega, i + 1, rfl, by omega, rfl, by omega⟩
    · (repeat (first | refine v_reg ?_ | refine v_last ?_ | refine vwp_seq ?_ | refine vwp_block ?_ | refine vwp_skip ?_ | refine vwp_exit ?_ | refine vwp_ret ?_ | refine v_cond ?_ | simp only [vm, ite_true, ite_false, eq_self, reduceIte, Nat.reduceEqDiff, Option.map, h0, h6, h25, h26, g2] | refine And.intro (by omega) ?_))
      exact hc4
  rintro ⟨ρ3, σ, c5⟩ ⟨h0, hc5⟩
  dsimp only at h0 hc5
  (repeat (first | refine v_reg ?_ | refine v_last ?_ | refine vwp_seq ?_ | refine vwp_block ?_ | refine vwp_skip ?_ | refine vwp_exit ?_ | refine vwp_ret ?_ | refine v_cond ?_ | simp only [vm, ite_true, ite_false, eq_self, reduceIte, Nat.reduceEqDiff, Option.map, h0] | refine And.intro (by omega) ?_))
  exact ⟨1, t1, x, rfl, ht1.mono (by omega) (by omega), by omega⟩
theorem perfect_own (t : Tok) (a : List Nat) (c : Nat) (ha : Lim 18446744073709551616 a) (hna : a.length ≤ 1099511627776) (hb : bl (val 18446744073709551616 a) ≤ 67108864) :
    VSpec Try.prog F.roots_Perfect c [nats t a] (fun r c' => ∃ (k : Int) (tk : Tok) (l : List Nat), r = .tup [nats tk l, iv k, iv 0] ∧ Row1 c c' tk l ∧ l.length ≤ 1048576) := by
  refine VSpec.clean (perfect_any t a c ha hna hb) ?_
  rintro r c' hc ⟨k, tk, l, rfl, h1, h2⟩
  rcases tk_nil_or l h1 with g | ⟨rfl, g⟩
  · exact .inl ⟨k, tk, l, rfl, g, h2⟩
  · exact .inr ⟨void_tup (by simp) g, _, c + 1, by omega, k, .id c, l, rfl, .inr ⟨c, rfl, by omega, by omega⟩, h2⟩

theorem copy_spec (t : Tok) (a : List Nat) (c : Nat) (hna : a.length ≤ 1099511627776) :
    VSpec Try.prog F.surdref01_Copy c [nats t a] (fun r c' => ∃ i, r = nats (.id i) a ∧ c ≤ i ∧ i < c') := by
  refine spec_mk hm E.surdref01_Copy B.surdref01_Copy K.surdref01_Copy Q.surdref01_Copy (by rw [N.surdref01_Copy]; simp) ?_
  unfold C.surdref01_Copy R.surdref01_Copy
  (repeat (first | refine v_reg ?_ | refine v_last ?_ | refine vwp_seq ?_ | refine vwp_block ?_ | refine vwp_skip ?_ | refine vwp_exit ?_ | refine vwp_ret ?_ | refine v_cond ?_ | simp only [vm, ite_true, ite_false, eq_self, reduceIte, Nat.reduceEqDiff, Option.map] | refine And.intro (by omega) ?_))
  refine s_mk (n := a.length) (m := a.length) (by simp only [vm, ite_true, ite_false, eq_self, reduceIte, Nat.reduceEqDiff, Option.map]) (by simp only [vm, ite_true, ite_false, eq_self, reduceIte, Nat.reduceEqDiff, Option.map]) (Nat.le_refl _) (by omega) ?_
  (repeat (first | refine v_reg ?_ | refine v_last ?_ | refine vwp_seq ?_ | refine vwp_block ?_ | refine vwp_skip ?_ | refine vwp_exit ?_ | refine vwp_ret ?_ | refine v_cond ?_ | simp only [vm, ite_true, ite_false, eq_self, reduceIte, Nat.reduceEqDiff, Option.map] | refine And.intro (by omega) ?_))
  refine v_loop (fun S => S.ρ 3 = .buf c 0 a.length (some a.length) 1 ∧ S.σ = supd noBlk c (nblk a) ∧ c + 1 ≤ S.c) ?_ ?_
  · refine vwp_loop (fun k S => ∃ i, k = a.length - i ∧ i ≤ a.length ∧ S.ρ 9 = nats t a ∧ S.ρ 10 = iv (a.length : Int) ∧ S.ρ 11 = iv (i : Int) ∧ S.ρ 3 = .buf c 0 a.length (some a.length) 1 ∧ S.σ = supd noBlk c (nblk (a.take i ++ List.replicate (a.length - i) 0)) ∧ c + 1 ≤ S.c) a.length ?_ ?_
    · refine ⟨0, by omega, by omega, ?_⟩
      simp only [vm, ite_true, ite_false, eq_self, reduceIte, Nat.reduceEqDiff, Option.map]
      (repeat' apply And.intro) <;> first | rfl | omega | assumption | (simp; done)
    rintro k ⟨ρ2, σ, c4⟩ ⟨i, hk, hi, h9, h10, h11, h3, hσ, hc4⟩
    dsimp only at h9 h10 h11 h3 hσ hc4
    subst hσ
    by_cases g : (i : Int) < a.length
    · have hi' : i < a.length := by omega
      have e1 : (i : Int) + 1 = ((i + 1 : Nat) : Int) := by omega
      have hlen : (a.take i ++ List.replicate (a.length - i) 0).length = a.length := by simp; omega
      have hset : (a.take i ++ List.replicate (a.length - i) 0).set i (a.getD i 0) = a.take (i + 1) ++ List.replicate (a.length - (i + 1)) 0 := by
        have := set_fill (a.take i) (a.length - (i + 1)) (a.getD i 0)
        rw [List.length_take, Nat.min_eq_left hi] at this
        rw [show a.length - i = a.length - (i + 1) + 1 by omega, this, take_snoc hi']
      (repeat (first | refine v_reg ?_ | refine v_last ?_ | refine vwp_seq ?_ | refine vwp_block ?_ | refine vwp_skip ?_ | refine vwp_exit ?_ | refine vwp_ret ?_ | refine v_cond ?_ | simp only [vm, ite_true, ite_false, eq_self, reduceIte, Nat.reduceEqDiff, Option.map, h9, h10, h11, h3, g, hlen, hset, e1] | refine And.intro (by omega) ?_))
      exact ⟨a.length - (i + 1), by omega, i + 1, rfl, by omega, rfl, rfl, hc4⟩
    · have hi' : i = a.length := by omega
      subst hi'
      (repeat (first | refine v_reg ?_ | refine v_last ?_ | refine vwp_seq ?_ | refine vwp_block ?_ | refine vwp_skip ?_ | refine vwp_exit ?_ | refine vwp_ret ?_ | refine v_cond ?_ | simp only [vm, ite_true, ite_false, eq_self, reduceIte, Nat.reduceEqDiff, Option.map, h9, h10, h11, h3, g] | refine And.intro (by omega) ?_))
      have e0 : a.take a.length ++ List.replicate (a.length - a.length) 0 = a := by simp
      rw [e0]
      (repeat' apply And.intro) <;> first | rfl | omega | assumption | exact True.intro
  rintro ⟨ρ3, σ, c5⟩ ⟨h3, hσ, hc5⟩
  dsimp only at h3 hσ hc5
  subst hσ
  refine v_freeze 3 (t := c) (off := 0) (n := a.length) (cap := some a.length) (l := a) (by simp only [vm, ite_true, ite_false, eq_self, reduceIte, Nat.reduceEqDiff, Option.map, h3]) (by simp only [vm, ite_true, ite_false, eq_self, reduceIte, Nat.reduceEqDiff, Option.map]) (by omega) (by omega) ?_
  rw [List.drop_zero, List.take_length]
  (repeat (first | refine v_reg ?_ | refine v_last ?_ | refine vwp_seq ?_ | refine vwp_block ?_ | refine vwp_skip ?_ | refine vwp_exit ?_ | refine vwp_ret ?_ | refine v_cond ?_ | simp only [vm, ite_true, ite_false, eq_self, reduceIte, Nat.reduceEqDiff, Option.map] | refine And.intro (by omega) ?_))
  exact ⟨c, rfl, by omega, by omega⟩

/-! ### rows that lie on both sides of their list -/
theorem ownable_of2 {c0 lo hi tL : Nat} {ps : List (Tok × List Nat)} (hc : c0 ≤ lo) (h0 : 0 < ps.length) (h1 : ps.length ≤ 1000000) (hp : ∀ p ∈ ps, Row1 lo hi p.1 p.2 ∧ p.2.length ≤ 4398046511104) (hl : lo ≤ tL) (hne : ∀ p ∈ ps, p.1 ≠ .id tL) (ha : ps.Pairwise (fun p q => Apt p.1 q.1)) : ownable c0 tL (rowsV ps) = true := by
  simp only [ownable, Bool.and_eq_true, decide_eq_true_eq, List.all_eq_true]
  have hid : ∀ i ∈ ids (rowsV ps), lo ≤ i ∧ i ≠ tL := fun i hi => by
    obtain ⟨p, hpm, e⟩ := mem_ids hi
    rcases (hp p hpm).1 with ⟨e1, _⟩ | ⟨j, e1, h3, h4⟩
    · rw [e] at e1; cases e1
    · rw [e] at e1; cases e1; exact ⟨h3, fun q => hne p hpm (by rw [e, q])⟩
  refine ⟨⟨⟨⟨by simpa using h0, by simpa using h1⟩, fun x hx => ?_⟩, fun t ht => ?_⟩, nodup_nodupB (List.nodup_cons.2 ⟨fun h => ?_, ids_nodup ha⟩)⟩
  · obtain ⟨p, hpm, rfl⟩ := List.mem_map.1 hx
    obtain ⟨t, l⟩ := p
    obtain ⟨h2, h3⟩ := hp _ hpm
    rcases h2 with ⟨e1, e2⟩ | ⟨i, e1, _⟩
    · simp only at e1 e2; subst e1 e2; rfl
    · simp only at e1 h3; subst e1
      simp [rowable, h3]
  · rcases List.mem_cons.1 ht with rfl | h
    · omega
    · have := hid t h; omega
  · exact (hid tL h).2 rfl
theorem thawL_kn2 {lo hi tL : Nat} {ps : List (Tok × List Nat)} (hp : ∀ p ∈ ps, Row1 lo hi p.1 p.2 ∧ p.2.length ≤ 4398046511104) (hl : lo ≤ tL) {t : Tok} {l : List Nat} (h : Kn lo t) : V.thawL (tL :: ids (rowsV ps)) (nats t l) = nats t l := by
  refine thawL_nats fun q hq => ?_
  have hq : lo ≤ q := by
    rcases List.mem_cons.1 hq with rfl | h
    · exact hl
    · obtain ⟨p, hpm, e⟩ := mem_ids h
      rcases (hp p hpm).1 with ⟨e1, _⟩ | ⟨j, e1, h3, h4⟩
      · rw [e] at e1; cases e1
      · rw [e] at e1; cases e1; exact h3
  rcases h with rfl | ⟨i, rfl | rfl, hi⟩
  · rfl
  · exact beq_no (by omega)
  · exact beq_no (by omega)
section
variable {P : Program} {c0 : Nat} {ρ : Nat → V} {c i : Nat} {r : List VO} {K : VS → Prop}
theorem s_own2 {f : FuncId} {x : X} {tL lo hi : Nat} {b : Blk} {ps : List (Tok × List Nat)} (hf : OwnSpec P f) (hx : x.ev ρ = .sl (.id tL) 1 (rowsV ps)) (hc : c0 ≤ lo) (h0 : 0 < ps.length) (h1 : ps.length ≤ 1000000) (hp : ∀ p ∈ ps, Row1 lo hi p.1 p.2 ∧ p.2.length ≤ 4398046511104) (hl : lo ≤ tL) (hne : ∀ p ∈ ps, p.1 ≠ .id tL) (ha : ps.Pairwise (fun p q => Apt p.1 q.1))
    (hk : wps P false c0 r ⟨upd (kill (some (.inr (tL :: ids (rowsV ps)))) ρ) i (bv true), noBlk, c⟩ K) : wps P false c0 (⟨some i, .call f [x], none⟩ :: r) ⟨ρ, supd noBlk tL (some b), c⟩ K := by
  show opS P false c0 (.call f [x]) (some i) _ _
  refine ⟨_, _, _, _, .own rfl hf hx (ownable_of2 hc h0 h1 hp hl hne ha), ?_⟩
  have e : (fun t => if (tL :: ids (rowsV ps)).contains t = true then none else ((supd noBlk tL (some b)) t).map fun b => (⟨b.cells.map (V.thawL (tL :: ids (rowsV ps))), b.live⟩ : Blk)) = noBlk := by
    funext t
    split
    · rfl
    · rename_i h
      have : t ≠ tL := by rintro rfl; simp at h
      rw [supd_ne _ _ _ _ this]
      rfl
  simp only [e]
  exact hk
variable {σ : Nat → Option Blk} {dr : Bool}
theorem s_rows6 {x0 x1 x2 x3 x4 x5 : X} {p0 p1 p2 p3 p4 p5 : Tok × List Nat} (h0 : x0.ev ρ = nats p0.1 p0.2) (h1 : x1.ev ρ = nats p1.1 p1.2) (h2 : x2.ev ρ = nats p2.1 p2.2) (h3 : x3.ev ρ = nats p3.1 p3.2) (h4 : x4.ev ρ = nats p4.1 p4.2) (h5 : x5.ev ρ = nats p5.1 p5.2)
    (hk : wps P dr c0 r ⟨upd ρ i (.sl (.id c) 1 (rowsV [p0, p1, p2, p3, p4, p5])), σ, c + 1⟩ K) : wps P dr c0 (⟨some i, .bsl true 1 6 [.slice none 0 0] [(0, (1, x0)), (1, (1, x1)), (2, (1, x2)), (3, (1, x3)), (4, (1, x4)), (5, (1, x5))], none⟩ :: r) ⟨ρ, σ, c⟩ K := by
  refine s_eff rfl (by intros; exact fun h => by cases h) (by intros; exact fun h => by cases h) ⟨_, _, _, none, .bsl (cs := rowsV [p0, p1, p2, p3, p4, p5]) ?_, hk⟩
  simp only [partsOf, List.map, h0, h1, h2, h3, h4, h5]
  rfl
theorem s_app0R {x y : X} {u : Tok} {qs : List (Tok × List Nat)} (hx : x.ev ρ = nil1) (hy : y.ev ρ = .sl u 1 (rowsV qs)) (hq : 0 < qs.length) (hb : qs.length ≤ 1000000)
    (hk : wps P dr c0 r ⟨upd ρ i (.buf c 0 qs.length none 1), supd σ c (some ⟨rowsV qs, true⟩), c + 1⟩ K) : wps P dr c0 (⟨some i, .app 1 24 [.slice none 0 0] x y, none⟩ :: r) ⟨ρ, σ, c⟩ K := by
  have hc : vcells 1 σ (y.ev ρ) = some (rowsV qs) := by rw [hy]; cases u <;> rfl
  exact s_eff rfl (by intros; exact fun h => by cases h) (by intros; exact fun h => by cases h) ⟨_, _, _, none, .appNil hx hc (k := qs.length) (by simp) hq (by omega) (by omega), hk⟩
theorem killσ_rows (t : Nat) (ps : List (Tok × List Nat)) (b : Bool) : killσ t (supd noBlk t (some ⟨rowsV ps, b⟩)) = supd noBlk t (some ⟨rowsV ps, b⟩) := by
  funext u
  unfold killσ
  by_cases e : u = t
  · subst e
    rw [supd_same]
    simp only [Option.map, List.map_map]
    rfl
  · rw [supd_ne _ _ _ _ e]; rfl
theorem s_appR {x y : X} {u : Tok} {t n : Nat} {cap : Option Nat} {ps qs : List (Tok × List Nat)} (hx : x.ev ρ = .buf t 0 n cap 1) (h0 : c0 ≤ t) (hn : n = ps.length) (hy : y.ev ρ = .sl u 1 (rowsV qs)) (hb : ps.length + qs.length ≤ 1000000)
    (hk : wps P dr c0 r ⟨upd (kill (some (.inl t)) ρ) i (.buf t 0 (n + qs.length) none 1), supd noBlk t (some ⟨rowsV (ps ++ qs), true⟩), c⟩ K) : wps P dr c0 (⟨some i, .app 1 24 [.slice none 0 0] x y, none⟩ :: r) ⟨ρ, supd noBlk t (some ⟨rowsV ps, true⟩), c⟩ K := by
  have hc : vcells 1 (supd noBlk t (some ⟨rowsV ps, true⟩)) (y.ev ρ) = some (rowsV qs) := by rw [hy]; cases u <;> rfl
  refine s_eff rfl (by intros; exact fun h => by cases h) (by intros; exact fun h => by cases h) ⟨_, _, _, some (.inl t), .appMove (k := qs.length) hx (supd_same _ _ _) h0 hc (by simp) (by simp [hn]) (by omega) (by omega), ?_⟩
  have e : ((rowsV ps).take (n * 1) ++ rowsV qs).map (killV t) = rowsV (ps ++ qs) := by
    rw [Nat.mul_one, hn, List.take_of_length_le (by simp), ← List.map_append, List.map_map]
    rfl
  rw [e, killσ_rows, supd_two]
  exact hk
end
theorem killR_at (t : Nat) (ρ : Nat → V) (j : Nat) : kill (some (.inl t)) ρ j = killV t (ρ j) := rfl
theorem killR_sl (t : Nat) (tk : Tok) (l : List Nat) : killV t (nats tk l) = nats tk l := rfl
theorem killR_lit (t : Nat) (v : Value) : killV t (.lit v) = .lit v := rfl
theorem a_rows {t : Tok} {l : List V} {i : Int} : vixa 1 (.sl t 1 l) (iv i) = if 0 ≤ i ∧ i.toNat < l.length then some (.eptr l i.toNat) else none := by
  simp [vixa]
theorem d_rows {σ : Nat → Option Blk} {l : List V} {i : Nat} : vload σ none (.eptr l i) = l[i]? := rfl
theorem rows_solid (ps : List (Tok × List Nat)) : (rowsV ps).map V.solid = rowsV ps := by
  rw [List.map_map]; rfl
end Go.Proofs.Ytladcfeibpddeab
set_option linter.unusedSimpArgs false
set_option linter.unusedVariables false
set_option maxRecDepth 100000
set_option maxHeartbeats 8000000
namespace Go.VM
theorem step_ge {A p x : Nat} (hp : IsRoot A 2 p) (hx : 0 < x) : p ≤ (x + A / x) / 2 := by
  have h := newton_ge (A := A) (j := 1) (r := p) (x := x) hp.1 hx
  rw [Nat.mul_one, Nat.pow_one] at h
  exact h
theorem step_lt {A p x : Nat} (hp : IsRoot A 2 p) (h : p < x) : (x + A / x) / 2 < x := by
  have h1 : A / x < x := by
    rw [Nat.div_lt_iff_lt_mul (by omega)]
    have h2 := hp.2
    rw [Nat.pow_two] at h2
    exact Nat.lt_of_lt_of_le h2 (Nat.mul_le_mul h h)
  omega
theorem step_eq {A p : Nat} (hp : IsRoot A 2 p) (h : 0 < p) : (p + A / p) / 2 ≤ p + 1 := by
  have h1 : A / p < p + 3 := by
    rw [Nat.div_lt_iff_lt_mul h]
    have h2 := hp.2
    rw [Nat.pow_two, Nat.add_mul, Nat.mul_add, Nat.mul_one, Nat.one_mul] at h2
    rw [Nat.add_mul]
    omega
  omega
theorem step_half (x q : Nat) : x / 2 + q / 2 + (if x % 2 + q % 2 = 2 then 1 else 0) = (x + q) / 2 := by split <;> omega
end Go.VM
namespace Go.Proofs.Ytladcfeibpddeab
open Go.VM

theorem u_and1 {b : Bool} {x : Nat} : sbin .and b (nv x) (nv 1) = some (nv (x % 2)) := by
  have e : (BitVec.ofInt 64 (x : Int) &&& BitVec.ofInt 64 1).toNat = x % 2 := by
    simp only [BitVec.ofInt_natCast, BitVec.toNat_and, BitVec.toNat_ofNat]
    have h := Nat.and_two_pow_sub_one_eq_mod (x % 2 ^ 64) 1
    show (x % 2 ^ 64) &&& (2 ^ 1 - 1) = _
    rw [h]
    omega
  show some (V.lit (.int .u64 (IntKind.u64.wrap ((BitVec.ofInt 64 (x : Int) &&& BitVec.ofInt 64 1).toNat : Int)))) = _
  rw [e, wrap_u64 (by omega) (by omega)]

theorem bit0_spec (t : Tok) (a : List Nat) (c : Nat) (ha : Lim 18446744073709551616 a) (hna : a.length ≤ 1099511627776) : VSpec Try.prog F.nat_Bit c [nats t a, iv 0] (fun r _ => r = iv ((val 18446744073709551616 a % 2 : Nat) : Int)) := by
  refine spec_mk hm E.nat_Bit B.nat_Bit K.nat_Bit Q.nat_Bit (by rw [N.nat_Bit]; simp) ?_
  unfold C.nat_Bit R.nat_Bit
  have g1 : ¬ (0 : Int) < 0 := by decide
  have e1 : (0 : Int) / 64 = 0 := by decide
  have e2 : (0 : Int) % 64 = 0 := by decide
  have e3 : (0 : Int).toNat = 0 := rfl
  cases a with
  | nil =>
    have g2 : (([] : List Nat).length : Int) ≤ 0 := by decide
    (repeat (first | refine v_reg ?_ | refine v_last ?_ | refine vwp_seq ?_ | refine vwp_block ?_ | refine vwp_skip ?_ | refine vwp_exit ?_ | refine vwp_ret ?_ | refine v_cond ?_ | simp only [vm, ite_true, ite_false, eq_self, reduceIte, Nat.reduceEqDiff, Option.map, g1, e1, g2] | refine And.intro (by omega) ?_))
    rfl
  | cons x l =>
    have g2 : ¬ ((x :: l).length : Int) ≤ 0 := by simp only [List.length_cons]; omega
    have e4 : min 0 64 = 0 := by decide
    have e5 : (x :: l).getD 0 0 = x := rfl
    have e6 : x / 2 ^ 0 = x := by rw [Nat.pow_zero, Nat.div_one]
    (repeat (first | refine v_reg ?_ | refine v_last ?_ | refine vwp_seq ?_ | refine vwp_block ?_ | refine vwp_skip ?_ | refine vwp_exit ?_ | refine vwp_ret ?_ | refine v_cond ?_ | simp only [vm, ite_true, ite_false, eq_self, reduceIte, Nat.reduceEqDiff, Option.map, g1, e1, e2, e3, e4, e5, e6, g2, u_and1] | refine And.intro (by omega) ?_))
    rw [val]
    congr 2
    omega

theorem right1_spec (t : Tok) (a : List Nat) (c : Nat) (ha : Lim 18446744073709551616 a) (hna : a.length ≤ 1099511627776) : VSpec Try.prog F.nat_Right c [nats t a, iv 1] (fun r c' => Told c c' (val 18446744073709551616 a / 2) r) := by
  refine spec_mk hm E.nat_Right B.nat_Right K.nat_Right Q.nat_Right (by rw [N.nat_Right]; simp) ?_
  unfold C.nat_Right R.nat_Right
  have hla := digs_len_le two64 ha
  have g1 : ¬ (1 : Int) < 0 := by decide
  have g2 : ¬ (1099511627776 : Int) < 1 := by decide
  have d1 : (1 : Int) / 64 = 0 := by decide
  have d2 : (1 : Int) % 64 = 1 := by decide
  have d3 : (1 : Int).toNat = 1 := rfl
  (repeat (first | refine v_reg ?_ | refine v_last ?_ | refine vwp_seq ?_ | refine vwp_block ?_ | refine vwp_skip ?_ | refine vwp_exit ?_ | refine vwp_ret ?_ | refine v_cond ?_ | simp only [vm, ite_true, ite_false, eq_self, reduceIte, Nat.reduceEqDiff, Option.map, g1, g2] | refine And.intro (by omega) ?_))
  refine s_call (trim_spec t a c ha (by omega)) (by simp only [vm, ite_true, ite_false, eq_self, reduceIte, Nat.reduceEqDiff, Option.map, List.map]) ?_
  rintro v c2 hc2 rfl
  have hx := lim_digs two64 (val 18446744073709551616 a)
  have va := val_digs two64 (val 18446744073709551616 a)
  have hz := digs_eq_nil two64 (n := val 18446744073709551616 a)
  generalize digs 18446744073709551616 (val 18446744073709551616 a) = x at *
  by_cases g3 : (x.length : Int) ≤ 0
  · have hx0 : x = [] := List.eq_nil_of_length_eq_zero (by omega)
    have := hz.1 hx0
    (repeat (first | refine v_reg ?_ | refine v_last ?_ | refine vwp_seq ?_ | refine vwp_block ?_ | refine vwp_skip ?_ | refine vwp_exit ?_ | refine vwp_ret ?_ | refine v_cond ?_ | simp only [vm, ite_true, ite_false, eq_self, reduceIte, Nat.reduceEqDiff, Option.map, g1, g2, d1, d2, d3, g3] | refine And.intro (by omega) ?_))
    rw [this]
    exact .inl ⟨by decide, .nil, rfl, .inl rfl⟩
  (repeat (first | refine v_reg ?_ | refine v_last ?_ | refine vwp_seq ?_ | refine vwp_block ?_ | refine vwp_skip ?_ | refine vwp_exit ?_ | refine vwp_ret ?_ | refine v_cond ?_ | simp only [vm, ite_true, ite_false, eq_self, reduceIte, Nat.reduceEqDiff, Option.map, g1, g2, d1, d2, d3, g3] | refine And.intro (by omega) ?_))
  refine s_mk (n := x.length) (m := x.length) (by simp only [vm, ite_true, ite_false, eq_self, reduceIte, Nat.reduceEqDiff, Option.map]; simp) (by simp only [vm, ite_true, ite_false, eq_self, reduceIte, Nat.reduceEqDiff, Option.map]; simp) (Nat.le_refl _) (by omega) ?_
  obtain ⟨s, hs⟩ : ∃ s, s = 1 := ⟨_, rfl⟩
  have hs64 : s < 64 := by omega
  have hp : (18446744073709551616 : Nat) = 2 ^ s * 2 ^ (64 - s) := by rw [← Nat.pow_add, show s + (64 - s) = 64 by omega]
  (repeat (first | refine v_reg ?_ | refine v_last ?_ | refine vwp_seq ?_ | refine vwp_block ?_ | refine vwp_skip ?_ | refine vwp_exit ?_ | refine vwp_ret ?_ | refine v_cond ?_ | simp only [vm, ite_true, ite_false, eq_self, reduceIte, Nat.reduceEqDiff, Option.map] | refine And.intro (by omega) ?_))
  refine v_loop (fun S => ∃ w, w.length = x.length ∧ Lim 18446744073709551616 w ∧ val 18446744073709551616 w = val 18446744073709551616 x / 2 ^ s ∧ S.ρ 8 = .buf c2 0 x.length (some x.length) 1 ∧ S.σ = supd noBlk c2 (nblk w) ∧ c2 + 1 ≤ S.c) ?_ ?_
  · refine vwp_loop (fun k S => ∃ i w, k = x.length - i ∧ i ≤ x.length ∧ w.length = i ∧ Lim 18446744073709551616 w ∧ val 18446744073709551616 w * 2 ^ s + x.getD 0 0 % 2 ^ s = val 18446744073709551616 (x.take i) + 18446744073709551616 ^ i * (x.getD i 0 % 2 ^ s) ∧ S.ρ 0 = nats t x ∧ S.ρ 6 = iv 0 ∧ S.ρ 7 = nv s ∧ S.ρ 33 = iv x.length ∧ S.ρ 34 = iv i ∧ S.ρ 8 = .buf c2 0 x.length (some x.length) 1 ∧ S.σ = supd noBlk c2 (nblk (w ++ List.replicate (x.length - i) 0)) ∧ c2 + 1 ≤ S.c) x.length ?_ ?_
    · refine ⟨0, [], by omega, by omega, ?_⟩
      simp only [vm, ite_true, ite_false, eq_self, reduceIte, Nat.reduceEqDiff, Option.map]
      (repeat' apply And.intro) <;> first | rfl | omega | assumption | exact Lim.nil | (subst hs; rfl) | (rw [hs]; rfl) | (rw [hs]; decide) | (simp [hs]; done) | (simp [val]; done)
    rintro k ⟨ρ2, σ, c4⟩ ⟨i, w, hk, hi, hw, hlw, hinv, h0, h6, h7, h33, h34, h8, hσ, hc4⟩
    dsimp only at h0 h6 h7 h33 h34 h8 hσ hc4
    subst hσ
    by_cases g : (i : Int) < x.length
    · have hi' : i < x.length := by omega
      have hxi := hx.getD (i := i) (by decide)
      obtain ⟨o1, o2⟩ := down_limb (y := x.getD (i + 1) 0) hs64 hxi
      have e2 : ((i : Int) + 1).toNat = i + 1 := by omega
      have e3 : min s 64 = s := by omega
      have e4 : (63 + (18446744073709551616 - s % 18446744073709551616)) % 18446744073709551616 = 63 - s := by omega
      have e5 : min (63 - s) 64 = 63 - s := by omega
      have e6 : x.getD i 0 / 2 ^ s < 18446744073709551616 := Nat.lt_of_le_of_lt (Nat.div_le_self _ _) hxi
      have e7 : x.getD i 0 / 2 ^ s % 18446744073709551616 = x.getD i 0 / 2 ^ s := Nat.mod_eq_of_lt e6
      have hlen1 : (w ++ List.replicate (x.length - i) 0).length = x.length := by simp; omega
      have hset1 : ∀ v, (w ++ List.replicate (x.length - i) 0).set i v = w ++ v :: List.replicate (x.length - (i + 1)) 0 := fun v => by
        conv => lhs; rw [← hw]
        rw [show x.length - w.length = x.length - (i + 1) + 1 by omega, List.replicate_succ, set_at]
      have hlen2 : ∀ v, (w ++ v :: List.replicate (x.length - (i + 1)) 0).length = x.length := fun v => by simp; omega
      have hget2 : ∀ v, (w ++ v :: List.replicate (x.length - (i + 1)) 0).getD i 0 = v := fun v => by rw [← hw]; exact getD_at _ _ _
      have hset2 : ∀ v u, (w ++ v :: List.replicate (x.length - (i + 1)) 0).set i u = w ++ u :: List.replicate (x.length - (i + 1)) 0 := fun v u => by
        conv => lhs; rw [← hw]
        rw [set_at, hw]
      have key := down_step (y := x.getD (i + 1) 0) hw hinv hp rfl
      rw [← val_take (l := x) (i := i) hi'] at key
      have eapp : ∀ v, w ++ v :: List.replicate (x.length - (i + 1)) 0 = (w ++ [v]) ++ List.replicate (x.length - (i + 1)) 0 := fun v => by simp
      by_cases g5 : (i : Int) + 1 < x.length
      · (repeat (first | refine v_reg ?_ | refine v_last ?_ | refine vwp_seq ?_ | refine vwp_block ?_ | refine vwp_skip ?_ | refine vwp_exit ?_ | refine vwp_ret ?_ | refine v_cond ?_ | simp only [vm, ite_true, ite_false, eq_self, reduceIte, Nat.reduceEqDiff, Option.map, h0, h6, h7, h33, h34, h8, g, g5, Int.zero_add, e2, e3, e4, e5, e7, hlen1, hset1, hlen2, hget2, hset2, u_or, Nat.mod_mod, o1] | refine And.intro (by omega) ?_))
        refine ⟨x.length - (i + 1), by omega, i + 1, w ++ [x.getD i 0 / 2 ^ s + (x.getD (i + 1) 0 % 2 ^ s) * 2 ^ (64 - s)], ?_⟩
        rw [eapp]
        (repeat' apply And.intro) <;> first | rfl | exact key | exact lim_snoc hlw o2 | (simp [hw]; done) | omega | assumption
      · have hy : x.getD (i + 1) 0 = 0 := getD_ge (by omega)
        rw [hy, Nat.zero_mod, Nat.zero_mul, Nat.add_zero] at key
        (repeat (first | refine v_reg ?_ | refine v_last ?_ | refine vwp_seq ?_ | refine vwp_block ?_ | refine vwp_skip ?_ | refine vwp_exit ?_ | refine vwp_ret ?_ | refine v_cond ?_ | simp only [vm, ite_true, ite_false, eq_self, reduceIte, Nat.reduceEqDiff, Option.map, h0, h6, h7, h33, h34, h8, g, g5, Int.zero_add, e2, e3, e4, e5, e7, hlen1, hset1] | refine And.intro (by omega) ?_))
        refine ⟨x.length - (i + 1), by omega, i + 1, w ++ [x.getD i 0 / 2 ^ s], ?_⟩
        rw [eapp, hy, Nat.zero_mod]
        (repeat' apply And.intro) <;> first | rfl | exact key | exact lim_snoc hlw e6 | (simp [hw]; done) | omega | assumption
    · have hi' : i = x.length := by omega
      subst hi'
      (repeat (first | refine v_reg ?_ | refine v_last ?_ | refine vwp_seq ?_ | refine vwp_block ?_ | refine vwp_skip ?_ | refine vwp_exit ?_ | refine vwp_ret ?_ | refine v_cond ?_ | simp only [vm, ite_true, ite_false, eq_self, reduceIte, Nat.reduceEqDiff, Option.map, h0, h6, h7, h33, h34, h8, g] | refine And.intro (by omega) ?_))
      rw [List.take_length, getD_ge (Nat.le_refl _), Nat.zero_mod, Nat.mul_zero, Nat.add_zero] at hinv
      refine ⟨w, ?_⟩
      have e0 : w ++ List.replicate (x.length - x.length) 0 = w := by simp
      rw [e0]
      have hv : val 18446744073709551616 w = val 18446744073709551616 x / 2 ^ s := (div_mod_of hinv (Nat.mod_lt _ (Nat.two_pow_pos s))).1.symm
      (repeat' apply And.intro) <;> first | rfl | omega | assumption | exact hv
  rintro ⟨ρ3, σ, c5⟩ ⟨w, hw, hlw, hvw, h8, hσ, hc5⟩
  dsimp only at h8 hσ hc5
  subst hσ
  refine v_freeze 8 (t := c2) (off := 0) (n := x.length) (cap := some x.length) (l := w) (by simp only [vm, ite_true, ite_false, eq_self, reduceIte, Nat.reduceEqDiff, Option.map, h8]) (by simp only [vm, ite_true, ite_false, eq_self, reduceIte, Nat.reduceEqDiff, Option.map]) (by omega) (by omega) ?_
  rw [List.drop_zero, show w.take x.length = w from List.take_of_length_le (by omega)]
  (repeat (first | refine v_reg ?_ | refine v_last ?_ | refine vwp_seq ?_ | refine vwp_block ?_ | refine vwp_skip ?_ | refine vwp_exit ?_ | refine vwp_ret ?_ | refine v_cond ?_ | simp only [vm, ite_true, ite_false, eq_self, reduceIte, Nat.reduceEqDiff, Option.map] | refine And.intro (by omega) ?_))
  refine s_call (told_spec (.id c2) w c5 hlw (by omega)) (by simp only [vm, ite_true, ite_false, eq_self, reduceIte, Nat.reduceEqDiff, Option.map, List.map]) ?_
  rintro v c6 hc6 rfl
  rw [hvw, va, hs, Nat.pow_one]
  by_cases gb : bl (val 18446744073709551616 a / 2) ≤ 67108864
  · rw [if_pos gb]
    (repeat (first | refine v_reg ?_ | refine v_last ?_ | refine vwp_seq ?_ | refine vwp_block ?_ | refine vwp_skip ?_ | refine vwp_exit ?_ | refine vwp_ret ?_ | refine v_cond ?_ | simp only [vm, ite_true, ite_false, eq_self, reduceIte, Nat.reduceEqDiff, Option.map] | refine And.intro (by omega) ?_))
    exact .inl ⟨gb, .id c2, rfl, .inr ⟨c2, rfl, by omega, by omega⟩⟩
  · rw [if_neg gb]
    (repeat (first | refine v_reg ?_ | refine v_last ?_ | refine vwp_seq ?_ | refine vwp_block ?_ | refine vwp_skip ?_ | refine vwp_exit ?_ | refine vwp_ret ?_ | refine v_cond ?_ | simp only [vm, ite_true, ite_false, eq_self, reduceIte, Nat.reduceEqDiff, Option.map] | refine And.intro (by omega) ?_))
    exact .inr ⟨by omega, rfl⟩
end Go.Proofs.Ytladcfeibpddeab
namespace Go.Proofs.Ytladcfeibpddeab
open Go.VM

/-- Newton's next, for numbers that are not too great -/
theorem step_spec (t u : Tok) (a b : List Nat) (c : Nat) (ha : Lim 18446744073709551616 a) (hb : Lim 18446744073709551616 b) (hna : a.length ≤ 1099511627776) (hnb : b.length ≤ 1099511627776) (hA : bl (val 18446744073709551616 a) ≤ 67108862) (hX : bl (val 18446744073709551616 b) ≤ 67108862) (hpos : 0 < val 18446744073709551616 b) :
    VSpec Try.prog F.roots_Step c [nats t a, nats u b] (fun r c' => ∃ tk, r = .tup [nats tk (digs 18446744073709551616 ((val 18446744073709551616 b + val 18446744073709551616 a / val 18446744073709551616 b) / 2)), iv 0] ∧ Tk c c' tk) := by
  refine spec_mk hm E.roots_Step B.roots_Step K.roots_Step Q.roots_Step (by rw [N.roots_Step]; simp) ?_
  unfold C.roots_Step R.roots_Step
  (repeat (first | refine v_reg ?_ | refine v_last ?_ | refine vwp_seq ?_ | refine vwp_block ?_ | refine vwp_skip ?_ | refine vwp_exit ?_ | refine vwp_ret ?_ | refine v_cond ?_ | simp only [vm, ite_true, ite_false, eq_self, reduceIte, Nat.reduceEqDiff, Option.map] | refine And.intro (by omega) ?_))
  refine s_call (quo_spec t u a b c ha hb hna hnb) (by simp only [vm, ite_true, ite_false, eq_self, reduceIte, Nat.reduceEqDiff, Option.map, List.map]) ?_
  rintro v c1 hc1 ⟨_, h⟩
  obtain ⟨A0, hA0⟩ : ∃ A0, A0 = val 18446744073709551616 a := ⟨_, rfl⟩
  obtain ⟨x, hx⟩ : ∃ x, x = val 18446744073709551616 b := ⟨_, rfl⟩
  rw [← hA0] at hA h ⊢
  rw [← hx] at hX hpos h ⊢
  have hqA : A0 / x ≤ A0 := Nat.div_le_self _ _
  have hqb := bl_mono hqA
  rcases h hpos with ⟨_, t1, rfl, ht1⟩ | ⟨hbad, _⟩
  rotate_left
  · omega
  have hql := lim_digs two64 (A0 / x)
  have vq := val_digs two64 (A0 / x)
  have hqn : (digs 18446744073709551616 (A0 / x)).length ≤ 1048576 := digs_len_bl (by omega)
  obtain ⟨q, hq⟩ : ∃ q, q = A0 / x := ⟨_, rfl⟩
  rw [← hq] at hqb hql vq hqn ⊢
  have g1 : ¬ (0 : Int) = 30 := by decide
  (repeat (first | refine v_reg ?_ | refine v_last ?_ | refine vwp_seq ?_ | refine vwp_block ?_ | refine vwp_skip ?_ | refine vwp_exit ?_ | refine vwp_ret ?_ | refine v_cond ?_ | simp only [vm, ite_true, ite_false, eq_self, reduceIte, Nat.reduceEqDiff, Option.map, g1] | refine And.intro (by omega) ?_))
  refine s_call (right1_spec u b c1 hb hnb) (by simp only [vm, ite_true, ite_false, eq_self, reduceIte, Nat.reduceEqDiff, Option.map, List.map]) ?_
  rw [← hx]
  have hxh : bl (x / 2) ≤ 67108862 := Nat.le_trans (bl_mono (Nat.div_le_self _ _)) hX
  have hqh : bl (q / 2) ≤ 67108862 := Nat.le_trans (bl_mono (Nat.div_le_self _ _)) (by omega)
  rintro v c2 hc2 (⟨_, t2, rfl, ht2⟩ | ⟨hbad, _⟩)
  rotate_left
  · omega
  (repeat (first | refine v_reg ?_ | refine v_last ?_ | refine vwp_seq ?_ | refine vwp_block ?_ | refine vwp_skip ?_ | refine vwp_exit ?_ | refine vwp_ret ?_ | refine v_cond ?_ | simp only [vm, ite_true, ite_false, eq_self, reduceIte, Nat.reduceEqDiff, Option.map] | refine And.intro (by omega) ?_))
  refine s_call (right1_spec t1 (digs 18446744073709551616 q) c2 hql (by omega)) (by simp only [vm, ite_true, ite_false, eq_self, reduceIte, Nat.reduceEqDiff, Option.map, List.map]) ?_
  rw [vq]
  rintro v c3 hc3 (⟨_, t3, rfl, ht3⟩ | ⟨hbad, _⟩)
  rotate_left
  · omega
  have h2l := lim_digs two64 (x / 2)
  have v2 := val_digs two64 (x / 2)
  have h2n : (digs 18446744073709551616 (x / 2)).length ≤ 1048576 := digs_len_bl (by omega)
  have h3l := lim_digs two64 (q / 2)
  have v3 := val_digs two64 (q / 2)
  have h3n : (digs 18446744073709551616 (q / 2)).length ≤ 1048576 := digs_len_bl (by omega)
  have hsb : bl (x / 2 + q / 2) ≤ 67108863 := bl_add_le hxh hqh
  (repeat (first | refine v_reg ?_ | refine v_last ?_ | refine vwp_seq ?_ | refine vwp_block ?_ | refine vwp_skip ?_ | refine vwp_exit ?_ | refine vwp_ret ?_ | refine v_cond ?_ | simp only [vm, ite_true, ite_false, eq_self, reduceIte, Nat.reduceEqDiff, Option.map] | refine And.intro (by omega) ?_))
  refine s_call (add_spec t2 t3 _ _ c3 h2l h3l (by omega) (by omega)) (by simp only [vm, ite_true, ite_false, eq_self, reduceIte, Nat.reduceEqDiff, Option.map, List.map]) ?_
  rw [v2, v3]
  rintro v c4 hc4 (⟨_, t4, rfl, ht4⟩ | ⟨hbad, _⟩)
  rotate_left
  · omega
  have h4l := lim_digs two64 (x / 2 + q / 2)
  have v4 := val_digs two64 (x / 2 + q / 2)
  have h4n : (digs 18446744073709551616 (x / 2 + q / 2)).length ≤ 1048576 := digs_len_bl (by omega)
  (repeat (first | refine v_reg ?_ | refine v_last ?_ | refine vwp_seq ?_ | refine vwp_block ?_ | refine vwp_skip ?_ | refine vwp_exit ?_ | refine vwp_ret ?_ | refine v_cond ?_ | simp only [vm, ite_true, ite_false, eq_self, reduceIte, Nat.reduceEqDiff, Option.map] | refine And.intro (by omega) ?_))
  refine s_call (bit0_spec u b c4 hb hnb) (by simp only [vm, ite_true, ite_false, eq_self, reduceIte, Nat.reduceEqDiff, Option.map, List.map]) ?_
  rintro v c5 hc5 rfl
  rw [← hx]
  (repeat (first | refine v_reg ?_ | refine v_last ?_ | refine vwp_seq ?_ | refine vwp_block ?_ | refine vwp_skip ?_ | refine vwp_exit ?_ | refine vwp_ret ?_ | refine v_cond ?_ | simp only [vm, ite_true, ite_false, eq_self, reduceIte, Nat.reduceEqDiff, Option.map] | refine And.intro (by omega) ?_))
  refine s_call (bit0_spec t1 (digs 18446744073709551616 q) c5 hql (by omega)) (by simp only [vm, ite_true, ite_false, eq_self, reduceIte, Nat.reduceEqDiff, Option.map, List.map]) ?_
  rintro v c6 hc6 rfl
  rw [vq]
  have hstep := step_half x q
  by_cases g : ((x % 2 : Nat) : Int) + ((q % 2 : Nat) : Int) = 2
  · rw [if_pos (by omega)] at hstep
    (repeat (first | refine v_reg ?_ | refine v_last ?_ | refine vwp_seq ?_ | refine vwp_block ?_ | refine vwp_skip ?_ | refine vwp_exit ?_ | refine vwp_ret ?_ | refine v_cond ?_ | simp only [vm, ite_true, ite_false, eq_self, reduceIte, Nat.reduceEqDiff, Option.map, g] | refine And.intro (by omega) ?_))
    refine s_call (from_spec 1 c6 (by decide)) (by simp only [vm, ite_true, ite_false, eq_self, reduceIte, Nat.reduceEqDiff, Option.map, List.map]) ?_
    rintro v c7 hc7 ⟨t7, rfl, ht7⟩
    have h1l := lim_digs two64 1
    have v1 := val_digs two64 1
    have h1n : (digs 18446744073709551616 1).length ≤ 1 := digs_len two64 (by decide)
    generalize digs 18446744073709551616 1 = one at *
    (repeat (first | refine v_reg ?_ | refine v_last ?_ | refine vwp_seq ?_ | refine vwp_block ?_ | refine vwp_skip ?_ | refine vwp_exit ?_ | refine vwp_ret ?_ | refine v_cond ?_ | simp only [vm, ite_true, ite_false, eq_self, reduceIte, Nat.reduceEqDiff, Option.map] | refine And.intro (by omega) ?_))
    refine s_call (add_spec t4 t7 _ one c7 h4l h1l (by omega) (by omega)) (by simp only [vm, ite_true, ite_false, eq_self, reduceIte, Nat.reduceEqDiff, Option.map, List.map]) ?_
    rw [v4, v1, hstep]
    have hone : bl 1 = 1 := by decide
    have hsb2 : bl (x / 2 + q / 2 + 1) ≤ 67108864 := bl_add_le hsb (by omega)
    rw [hstep] at hsb2
    rintro v c8 hc8 (⟨_, t8, rfl, ht8⟩ | ⟨hbad, _⟩)
    rotate_left
    · omega
    (repeat (first | refine v_reg ?_ | refine v_last ?_ | refine vwp_seq ?_ | refine vwp_block ?_ | refine vwp_skip ?_ | refine vwp_exit ?_ | refine vwp_ret ?_ | refine v_cond ?_ | simp only [vm, ite_true, ite_false, eq_self, reduceIte, Nat.reduceEqDiff, Option.map] | refine And.intro (by omega) ?_))
    exact ⟨t8, rfl, ht8.mono (by omega) (by omega)⟩
  · rw [if_neg (by omega), Nat.add_zero] at hstep
    rw [hstep]
    (repeat (first | refine v_reg ?_ | refine v_last ?_ | refine vwp_seq ?_ | refine vwp_block ?_ | refine vwp_skip ?_ | refine vwp_exit ?_ | refine vwp_ret ?_ | refine v_cond ?_ | simp only [vm, ite_true, ite_false, eq_self, reduceIte, Nat.reduceEqDiff, Option.map, g] | refine And.intro (by omega) ?_))
    exact ⟨t4, rfl, ht4.mono (by omega) (by omega)⟩

theorem zero_spec (t : Tok) (n c : Nat) (hn : (digs 4294967296 n).length ≤ 4398046511104) : VSpec Try.prog F.surdref01_Num_Zero c [nats t (digs 4294967296 n)] (fun r _ => r = bv (decide (n = 0))) := by
  refine spec_mk hm E.surdref01_Num_Zero B.surdref01_Num_Zero K.surdref01_Num_Zero Q.surdref01_Num_Zero (by rw [N.surdref01_Num_Zero]; simp) ?_
  unfold C.surdref01_Num_Zero R.surdref01_Num_Zero
  have hz := digs_eq_nil two32 (n := n)
  (repeat (first | refine v_reg ?_ | refine v_last ?_ | refine vwp_seq ?_ | refine vwp_block ?_ | refine vwp_skip ?_ | refine vwp_exit ?_ | refine vwp_ret ?_ | refine v_cond ?_ | simp only [vm, ite_true, ite_false, eq_self, reduceIte, Nat.reduceEqDiff, Option.map] | refine And.intro (by omega) ?_))
  by_cases g : n = 0
  · rw [hz.2 g, g]; rfl
  · have h1 : ¬ digs 4294967296 n = [] := fun e => g (hz.1 e)
    have h2 : 0 < (digs 4294967296 n).length := List.length_pos_iff.2 h1
    have h3 : decide (((digs 4294967296 n).length : Int) = 0) = decide (n = 0) := by rw [decide_eq_false (show ¬ ((digs 4294967296 n).length : Int) = 0 by omega), decide_eq_false g]
    rw [h3]
end Go.Proofs.Ytladcfeibpddeab
set_option linter.unusedSimpArgs false
set_option linter.unusedVariables false
set_option maxRecDepth 100000
set_option maxHeartbeats 8000000
namespace Go.Proofs.Ytladcfeibpddeab
open Go.VM

theorem i1_shl {b : Bool} {i : Nat} (h : i ≤ 62) : sbin .shl b (iv 1) (iv (i : Int)) = some (iv ((2 ^ i : Nat) : Int)) := by
  show vbin .shl b (iv 1) (iv (i : Int)) = _
  simp only [vbin, vshift, BinOp.isShift, if_true, Option.map]
  rw [if_neg (by omega)]
  simp only [IntKind.bits, Int.toNat_natCast]
  have h62 : 2 ^ i ≤ 2 ^ 62 := Nat.pow_le_pow_right (by decide) h
  have e : (1 : Int) * 2 ^ min i 64 = ((2 ^ i : Nat) : Int) := by
    rw [show min i 64 = i by omega, Int.one_mul]; push_cast; rfl
  rw [e]
  clear e
  generalize 2 ^ i = p at *
  rw [wrap_i64 (by omega) (by omega)]
theorem pow_lt_bl {A B0 k : Nat} (hB : 2 ≤ B0) (h : B0 ^ k ≤ A) : k < bl A := by
  have h1 : 2 ^ k ≤ B0 ^ k := Nat.pow_le_pow_left hB k
  have h2 := lt_bl A
  exact (Nat.pow_lt_pow_iff_right (by decide : 1 < 2)).1 (by omega)
theorem tower_lt {A B0 j : Nat} (hB : 2 ≤ B0) (h : B0 ^ 2 ^ j ≤ A) (hA : bl A ≤ 67108864) : j < 26 := by
  have h1 := pow_lt_bl hB h
  have : 2 ^ j < 2 ^ 26 := by omega
  exact (Nat.pow_lt_pow_iff_right (by decide : 1 < 2)).1 this
theorem tower_step (B0 n : Nat) (hn : 1 ≤ n) : B0 ^ 2 ^ (n - 1) * B0 ^ 2 ^ (n - 1) = B0 ^ 2 ^ n := by
  obtain ⟨m, rfl⟩ : ∃ m, n = m + 1 := ⟨n - 1, by omega⟩
  rw [← Nat.pow_add, Nat.pow_succ, Nat.mul_two]; rfl
theorem lt_sq_of_bl {A P : Nat} (hP : 0 < P) (h : bl A < 2 * bl P - 1) : A < P * P := by
  have h1 := le_of_bl hP
  have h2 := lt_bl A
  have h3 : 2 ^ (bl P - 1) * 2 ^ (bl P - 1) ≤ P * P := Nat.mul_le_mul h1 h1
  rw [← Nat.pow_add] at h3
  have h4 : 2 ^ bl A ≤ 2 ^ (bl P - 1 + (bl P - 1)) := Nat.pow_le_pow_right (by decide) (by omega)
  omega
theorem still_nats {q : Nat} {t : Tok} {l : List Nat} (h : t.apart q = true) : V.still q 4 (nats t l) = true := by
  simp only [V.still, Bool.and_eq_true, List.all_eq_true, List.mem_map]
  refine ⟨h, ?_⟩
  rintro x ⟨n, _, rfl⟩
  rfl
theorem log_unique {A B0 j k : Nat} (hB : 2 ≤ B0) (h1 : B0 ^ j ≤ A) (h2 : A < B0 ^ (j + 1)) (h3 : B0 ^ k ≤ A) (h4 : A < B0 ^ (k + 1)) : j = k := by
  have a1 := (Nat.pow_lt_pow_iff_right (a := B0) (by omega)).1 (Nat.lt_of_le_of_lt h1 h4)
  have a2 := (Nat.pow_lt_pow_iff_right (a := B0) (by omega)).1 (Nat.lt_of_le_of_lt h3 h2)
  omega

theorem thawed_no (ρ : Nat → V) (c i t n sz : Nat) (l : List V) : Go.VM.thawed ⟨ρ, noBlk, c⟩ i t n sz l = ⟨upd (fun j => (ρ j).thaw t) i (.buf t 0 n none sz), supd noBlk t (some ⟨l, true⟩), c⟩ := by
  simp only [Go.VM.thawed]
  congr 1
/-- the powers by squaring, in their list -/
def Tow (B0 n : Nat) (ps : List (Tok × List Nat)) : Prop := ps.length = n ∧ ∀ j, j < n → ∃ tk, ps[j]? = some (tk, digs 18446744073709551616 (B0 ^ 2 ^ j))
theorem Tow.get {B0 n j : Nat} {ps : List (Tok × List Nat)} (h : Tow B0 n ps) (hj : j < n) : ∃ tk, (rowsV ps)[j]? = some (nats tk (digs 18446744073709551616 (B0 ^ 2 ^ j))) := by
  obtain ⟨tk, e⟩ := h.2 j hj
  exact ⟨tk, by show (ps.map _)[j]? = _; rw [List.getElem?_map, e]; rfl⟩
theorem Tow.snoc {B0 n : Nat} {ps : List (Tok × List Nat)} (h : Tow B0 n ps) (tk : Tok) : Tow B0 (n + 1) (ps ++ [(tk, digs 18446744073709551616 (B0 ^ 2 ^ n))]) := by
  refine ⟨by simp [h.1], fun j hj => ?_⟩
  rcases Nat.lt_or_ge j n with g | g
  · obtain ⟨tk, e⟩ := h.2 j g
    exact ⟨tk, by rw [List.getElem?_append_left (by rw [h.1]; exact g)]; exact e⟩
  · have : j = n := by omega
    subst this
    exact ⟨tk, by rw [List.getElem?_append_right (by rw [h.1]; exact Nat.le_refl _), h.1, Nat.sub_self]; rfl⟩

theorem log_spec (t : Tok) (a : List Nat) (base : Int) (c : Nat) (ht : Kn c t) (ha : Lim 18446744073709551616 a) (hna : a.length ≤ 1099511627776) (hb : bl (val 18446744073709551616 a) ≤ 67108864) (hk2 : base < 9223372036854775808) :
    VSpec Try.prog F.roots_Log c [nats t a, iv base] (fun r c' => ((val 18446744073709551616 a = 0 ∨ base < 2) → r = .tup [iv 0, iv 1]) ∧ (0 < val 18446744073709551616 a → 2 ≤ base → ∃ k : Nat, r = .tup [iv k, iv 0] ∧ base.toNat ^ k ≤ val 18446744073709551616 a ∧ val 18446744073709551616 a < base.toNat ^ (k + 1))) := by
  refine spec_mk hm E.roots_Log B.roots_Log K.roots_Log Q.roots_Log (by rw [N.roots_Log]; simp) ?_
  unfold C.roots_Log R.roots_Log
  obtain ⟨A0, hA0⟩ : ∃ A0, A0 = val 18446744073709551616 a := ⟨_, rfl⟩
  (repeat (first | refine v_reg ?_ | refine v_last ?_ | refine vwp_seq ?_ | refine vwp_block ?_ | refine vwp_skip ?_ | refine vwp_exit ?_ | refine vwp_ret ?_ | refine v_cond ?_ | simp only [vm, ite_true, ite_false, eq_self, reduceIte, Nat.reduceEqDiff, Option.map] | refine And.intro (by omega) ?_))
  refine s_call (length_spec t a c ha (by omega)) (by simp only [vm, ite_true, ite_false, eq_self, reduceIte, Nat.reduceEqDiff, Option.map, List.map]) ?_
  rintro v c1 hc1 rfl
  rw [← hA0] at hb ⊢
  by_cases g1 : (bl A0 : Int) = 0
  · have hz := bl_eq_zero.1 (show bl A0 = 0 by omega)
    (repeat (first | refine v_reg ?_ | refine v_last ?_ | refine vwp_seq ?_ | refine vwp_block ?_ | refine vwp_skip ?_ | refine vwp_exit ?_ | refine vwp_ret ?_ | refine v_cond ?_ | simp only [vm, ite_true, ite_false, eq_self, reduceIte, Nat.reduceEqDiff, Option.map, g1] | refine And.intro (by omega) ?_))
    exact ⟨fun _ => trivial, fun h => by omega⟩
  have hpos : 0 < A0 := by
    rcases Nat.eq_zero_or_pos A0 with h | h
    · exact absurd (by rw [h]; rfl) g1
    · exact h
  by_cases g2 : base < 2
  · (repeat (first | refine v_reg ?_ | refine v_last ?_ | refine vwp_seq ?_ | refine vwp_block ?_ | refine vwp_skip ?_ | refine vwp_exit ?_ | refine vwp_ret ?_ | refine v_cond ?_ | simp only [vm, ite_true, ite_false, eq_self, reduceIte, Nat.reduceEqDiff, Option.map, g1, g2] | refine And.intro (by omega) ?_))
    exact ⟨fun _ => trivial, fun _ h => by omega⟩
  obtain ⟨B0, rfl⟩ : ∃ n : Nat, base = (n : Int) := ⟨base.toNat, by omega⟩
  have hB : 2 ≤ B0 := by omega
  have e0 : ((B0 : Int)).toNat = B0 := by omega
  have hbB : bl B0 ≤ 63 := bl_le (by omega)
  rw [e0]
  (repeat (first | refine v_reg ?_ | refine v_last ?_ | refine vwp_seq ?_ | refine vwp_block ?_ | refine vwp_skip ?_ | refine vwp_exit ?_ | refine vwp_ret ?_ | refine v_cond ?_ | simp only [vm, ite_true, ite_false, eq_self, reduceIte, Nat.reduceEqDiff, Option.map, g1, g2] | refine And.intro (by omega) ?_))
  refine s_call (from_spec B0 c1 (by omega)) (by simp only [vm, ite_true, ite_false, eq_self, reduceIte, Nat.reduceEqDiff, Option.map, List.map]) ?_
  rintro v c2 hc2 ⟨t1, rfl, ht1⟩
  (repeat (first | refine v_reg ?_ | refine v_last ?_ | refine vwp_seq ?_ | refine vwp_block ?_ | refine vwp_skip ?_ | refine vwp_exit ?_ | refine vwp_ret ?_ | refine v_cond ?_ | simp only [vm, ite_true, ite_false, eq_self, reduceIte, Nat.reduceEqDiff, Option.map] | refine And.intro (by omega) ?_))
  refine s_rows1 (p := (t1, digs 18446744073709551616 B0)) (by simp only [vm, ite_true, ite_false, eq_self, reduceIte, Nat.reduceEqDiff, Option.map]) ?_
  (repeat (first | refine v_reg ?_ | refine v_last ?_ | refine vwp_seq ?_ | refine vwp_block ?_ | refine vwp_skip ?_ | refine vwp_exit ?_ | refine vwp_ret ?_ | refine v_cond ?_ | simp only [vm, ite_true, ite_false, eq_self, reduceIte, Nat.reduceEqDiff, Option.map] | refine And.intro (by omega) ?_))
  refine vwp_thaw 7 c2 1 1 (rowsV [(t1, digs 18446744073709551616 B0)]) (by simp only [vm, ite_true, ite_false, eq_self, reduceIte, Nat.reduceEqDiff, Option.map]) (by omega) (by simp) (by simp) (fun x hx => ?_) ?_
  · simp only [List.map_cons, List.map_nil, List.mem_cons, List.not_mem_nil, or_false] at hx
    subst hx
    refine still_nats ?_
    rcases ht1 with rfl | ⟨j, rfl, h3, h4⟩
    · rfl
    · exact beq_no (by omega)
  rw [thawed_no]
  have th0 : V.thaw c2 (nats t a) = nats t a := ht.thaw (by omega) _
  refine v_loop (fun S => ∃ n ps tb, 1 ≤ n ∧ n ≤ 27 ∧ Tow B0 n ps ∧ (∀ j, j < n → bl (B0 ^ 2 ^ j) ≤ 67108864) ∧ A0 < B0 ^ 2 ^ n ∧ S.ρ 0 = nats t a ∧ S.ρ 7 = .buf tb 0 n none 1 ∧ S.σ = supd noBlk tb (some ⟨rowsV ps, true⟩) ∧ c2 ≤ tb ∧ c2 ≤ S.c) ?_ ?_
  · refine vwp_loop (fun q S => ∃ n ps tb, q = 28 - n ∧ 1 ≤ n ∧ n ≤ 27 ∧ Tow B0 n ps ∧ (∀ j, j < n → bl (B0 ^ 2 ^ j) ≤ 67108864) ∧ S.ρ 0 = nats t a ∧ S.ρ 7 = .buf tb 0 n none 1 ∧ S.σ = supd noBlk tb (some ⟨rowsV ps, true⟩) ∧ c2 ≤ tb ∧ c2 ≤ S.c) 27 ?_ ?_
    · refine ⟨1, [(t1, digs 18446744073709551616 B0)], c2, rfl, Nat.le_refl _, by omega, ⟨rfl, fun j hj => ?_⟩, fun j hj => ?_, ?_⟩
      · have : j = 0 := by omega
        subst this
        exact ⟨t1, by rw [Nat.pow_zero, Nat.pow_one]; rfl⟩
      · have : j = 0 := by omega
        subst this
        rw [Nat.pow_zero, Nat.pow_one]; omega
      · simp only [vm, ite_true, ite_false, eq_self, reduceIte, Nat.reduceEqDiff, Option.map, th0]
        (repeat' apply And.intro) <;> first | rfl | omega | assumption | exact True.intro
    rintro q ⟨ρ2, σ, c4⟩ ⟨n, ps, tb, hq, hn1, hn2, hps, hbits, h0, h7, hσ, htb, hc4⟩
    dsimp only at h0 h7 hσ hc4
    subst hσ
    have e1 : (n : Int) - 1 = ((n - 1 : Nat) : Int) := by omega
    have hn3 : n - 1 < n := by omega
    obtain ⟨tk, hget⟩ := hps.get hn3
    have hbP := hbits (n - 1) hn3
    have hstep := tower_step B0 n hn1
    have hPpos : 0 < B0 ^ 2 ^ (n - 1) := Nat.pow_pos (by omega)
    generalize B0 ^ 2 ^ (n - 1) = P0 at *
    have lP : (digs 18446744073709551616 P0).length ≤ 1048576 := digs_len_bl (by omega)
    (repeat (first | refine v_reg ?_ | refine v_last ?_ | refine vwp_seq ?_ | refine vwp_block ?_ | refine vwp_skip ?_ | refine vwp_exit ?_ | refine vwp_ret ?_ | refine v_cond ?_ | simp only [vm, ite_true, ite_false, eq_self, reduceIte, Nat.reduceEqDiff, Option.map, h0, h7, e1, hn3, d_cells, hget] | refine And.intro (by omega) ?_))
    refine s_call (length_spec tk (digs 18446744073709551616 P0) c4 (lim_digs two64 _) (by omega)) (by simp only [vm, ite_true, ite_false, eq_self, reduceIte, Nat.reduceEqDiff, Option.map, List.map]) ?_
    rw [val_digs two64]
    rintro v c5 hc5 rfl
    (repeat (first | refine v_reg ?_ | refine v_last ?_ | refine vwp_seq ?_ | refine vwp_block ?_ | refine vwp_skip ?_ | refine vwp_exit ?_ | refine vwp_ret ?_ | refine v_cond ?_ | simp only [vm, ite_true, ite_false, eq_self, reduceIte, Nat.reduceEqDiff, Option.map, h0, h7] | refine And.intro (by omega) ?_))
    refine s_call (length_spec t a c5 ha (by omega)) (by simp only [vm, ite_true, ite_false, eq_self, reduceIte, Nat.reduceEqDiff, Option.map, List.map, h0]) ?_
    rw [← hA0]
    rintro v c6 hc6 rfl
    by_cases g3 : (bl A0 : Int) < 2 * (bl P0 : Int) - 1
    · have hlt := lt_sq_of_bl hPpos (show bl A0 < 2 * bl P0 - 1 by omega)
      (repeat (first | refine v_reg ?_ | refine v_last ?_ | refine vwp_seq ?_ | refine vwp_block ?_ | refine vwp_skip ?_ | refine vwp_exit ?_ | refine vwp_ret ?_ | refine v_cond ?_ | simp only [vm, ite_true, ite_false, eq_self, reduceIte, Nat.reduceEqDiff, Option.map, h0, h7, g3] | refine And.intro (by omega) ?_))
      refine ⟨n, ps, tb, hn1, hn2, hps, hbits, by rw [← hstep]; exact hlt, ?_⟩
      (repeat' apply And.intro) <;> first | rfl | omega | assumption | exact True.intro
    (repeat (first | refine v_reg ?_ | refine v_last ?_ | refine vwp_seq ?_ | refine vwp_block ?_ | refine vwp_skip ?_ | refine vwp_exit ?_ | refine vwp_ret ?_ | refine v_cond ?_ | simp only [vm, ite_true, ite_false, eq_self, reduceIte, Nat.reduceEqDiff, Option.map, h0, h7, g3] | refine And.intro (by omega) ?_))
    refine s_call (square_spec tk (digs 18446744073709551616 P0) c6 (lim_digs two64 _) (by omega)) (by simp only [vm, ite_true, ite_false, eq_self, reduceIte, Nat.reduceEqDiff, Option.map, List.map]) ?_
    rw [val_digs two64]
    rintro v c7 hc7 (⟨hb7, t7, rfl, ht7⟩ | ⟨hb7, rfl⟩)
    rotate_left
    · have g4 : ¬ (3 : Int) = 0 := by decide
      have hlt : A0 < P0 * P0 := by
        rcases Nat.lt_or_ge A0 (P0 * P0) with h | h
        · exact h
        · have := bl_mono h; omega
      (repeat (first | refine v_reg ?_ | refine v_last ?_ | refine vwp_seq ?_ | refine vwp_block ?_ | refine vwp_skip ?_ | refine vwp_exit ?_ | refine vwp_ret ?_ | refine v_cond ?_ | simp only [vm, ite_true, ite_false, eq_self, reduceIte, Nat.reduceEqDiff, Option.map, h0, h7, g4] | refine And.intro (by omega) ?_))
      refine ⟨n, ps, tb, hn1, hn2, hps, hbits, by rw [← hstep]; exact hlt, ?_⟩
      (repeat' apply And.intro) <;> first | rfl | omega | assumption | exact True.intro
    have lPP : (digs 18446744073709551616 (P0 * P0)).length ≤ 1048576 := digs_len_bl (by omega)
    (repeat (first | refine v_reg ?_ | refine v_last ?_ | refine vwp_seq ?_ | refine vwp_block ?_ | refine vwp_skip ?_ | refine vwp_exit ?_ | refine vwp_ret ?_ | refine v_cond ?_ | simp only [vm, ite_true, ite_false, eq_self, reduceIte, Nat.reduceEqDiff, Option.map, h0, h7] | refine And.intro (by omega) ?_))
    refine s_call (compare_spec t7 t (digs 18446744073709551616 (P0 * P0)) a c7 (lim_digs two64 _) ha (by omega) hna) (by simp only [vm, ite_true, ite_false, eq_self, reduceIte, Nat.reduceEqDiff, Option.map, List.map, h0]) ?_
    rw [val_digs two64, ← hA0]
    rintro v c8 hc8 rfl
    by_cases g4 : 0 < cmpI (P0 * P0) A0
    · have hlt := cmpI_pos.1 g4
      (repeat (first | refine v_reg ?_ | refine v_last ?_ | refine vwp_seq ?_ | refine vwp_block ?_ | refine vwp_skip ?_ | refine vwp_exit ?_ | refine vwp_ret ?_ | refine v_cond ?_ | simp only [vm, ite_true, ite_false, eq_self, reduceIte, Nat.reduceEqDiff, Option.map, h0, h7, g4] | refine And.intro (by omega) ?_))
      refine ⟨n, ps, tb, hn1, hn2, hps, hbits, by rw [← hstep]; exact hlt, ?_⟩
      (repeat' apply And.intro) <;> first | rfl | omega | assumption | exact True.intro
    have hle : P0 * P0 ≤ A0 := by
      rcases Nat.lt_or_ge A0 (P0 * P0) with h | h
      · exact absurd (cmpI_pos.2 h) g4
      · exact h
    (repeat (first | refine v_reg ?_ | refine v_last ?_ | refine vwp_seq ?_ | refine vwp_block ?_ | refine vwp_skip ?_ | refine vwp_exit ?_ | refine vwp_ret ?_ | refine v_cond ?_ | simp only [vm, ite_true, ite_false, eq_self, reduceIte, Nat.reduceEqDiff, Option.map, h0, h7, g4] | refine And.intro (by omega) ?_))
    refine s_rows1 (p := (t7, digs 18446744073709551616 (P0 * P0))) (by simp only [vm, ite_true, ite_false, eq_self, reduceIte, Nat.reduceEqDiff, Option.map]) ?_
    refine s_appR (u := .id c8) (n := n) (cap := none) (ps := ps) (qs := [(t7, digs 18446744073709551616 (P0 * P0))]) (by simp only [vm, ite_true, ite_false, eq_self, reduceIte, Nat.reduceEqDiff, Option.map]) (by omega) hps.1.symm (by simp only [vm, ite_true, ite_false, eq_self, reduceIte, Nat.reduceEqDiff, Option.map]) (by rw [hps.1]; simp; omega) ?_
    rw [hstep] at hle hb7 ⊢
    have hn26 := tower_lt hB hle hb
    have hps2 := hps.snoc t7
    have hbits2 : ∀ j, j < n + 1 → bl (B0 ^ 2 ^ j) ≤ 67108864 := fun j hj => by
      rcases Nat.lt_or_ge j n with g | g
      · exact hbits j g
      · have : j = n := by omega
        subst this; exact hb7
    (repeat (first | refine v_reg ?_ | refine v_last ?_ | refine vwp_seq ?_ | refine vwp_block ?_ | refine vwp_skip ?_ | refine vwp_exit ?_ | refine vwp_ret ?_ | refine v_cond ?_ | simp only [vm, ite_true, ite_false, eq_self, reduceIte, Nat.reduceEqDiff, Option.map, killR_at, killR_sl, h0, h7] | refine And.intro (by omega) ?_))
    refine ⟨28 - (n + 1), by omega, n + 1, _, tb, rfl, by omega, by omega, hps2, hbits2, ?_⟩
    (repeat' apply And.intro) <;> first | rfl | omega | assumption | exact True.intro
  rintro ⟨ρ3, σ3, c5⟩ ⟨n, ps, tb, hn1, hn2, hps, hbits, hlt, h0, h7, hσ, htb, hc5⟩
  dsimp only at h0 h7 hσ hc5
  subst hσ
  (repeat (first | refine v_reg ?_ | refine v_last ?_ | refine vwp_seq ?_ | refine vwp_block ?_ | refine vwp_skip ?_ | refine vwp_exit ?_ | refine vwp_ret ?_ | refine v_cond ?_ | simp only [vm, ite_true, ite_false, eq_self, reduceIte, Nat.reduceEqDiff, Option.map, h0, h7] | refine And.intro (by omega) ?_))
  refine s_call (from_spec 1 c5 (by decide)) (by simp only [vm, ite_true, ite_false, eq_self, reduceIte, Nat.reduceEqDiff, Option.map, List.map]) ?_
  rintro v c6 hc6 ⟨t6, rfl, _⟩
  have e1 : (n : Int) - 1 = ((n - 1 : Nat) : Int) := by omega
  (repeat (first | refine v_reg ?_ | refine v_last ?_ | refine vwp_seq ?_ | refine vwp_block ?_ | refine vwp_skip ?_ | refine vwp_exit ?_ | refine vwp_ret ?_ | refine v_cond ?_ | simp only [vm, ite_true, ite_false, eq_self, reduceIte, Nat.reduceEqDiff, Option.map, h0, h7] | refine And.intro (by omega) ?_))
  refine v_loop (fun S => ∃ k : Nat, S.ρ 11 = iv (k : Int) ∧ B0 ^ k ≤ A0 ∧ A0 < B0 ^ (k + 1) ∧ c2 ≤ S.c) ?_ ?_
  · refine vwp_loop (fun q S => ∃ (k : Nat) (tk : Tok), q ≤ n ∧ S.ρ 0 = nats t a ∧ S.ρ 7 = .buf tb 0 n none 1 ∧ S.ρ 11 = iv (k : Int) ∧ S.ρ 12 = nats tk (digs 18446744073709551616 (B0 ^ k)) ∧ S.ρ 13 = iv ((q : Int) - 1) ∧ B0 ^ k ≤ A0 ∧ A0 < B0 ^ (k + 2 ^ q) ∧ S.σ = supd noBlk tb (some ⟨rowsV ps, true⟩) ∧ c2 ≤ S.c) n ?_ ?_
    · refine ⟨0, t6, Nat.le_refl _, ?_⟩
      rw [Nat.pow_zero, Nat.zero_add]
      simp only [vm, ite_true, ite_false, eq_self, reduceIte, Nat.reduceEqDiff, Option.map, h0, h7]
      (repeat' apply And.intro) <;> first | rfl | omega | assumption | exact hlt
    rintro q ⟨ρ2, σ, c7⟩ ⟨k, tk, hq, h0, h7, h11, h12, h13, hk1, hk3, hσ, hc7⟩
    dsimp only at h0 h7 h11 h12 h13 hσ hc7
    subst hσ
    rcases Nat.eq_zero_or_pos q with rfl | hqp
    · have g5 : ¬ (0 : Int) ≤ ((0 : Nat) : Int) - 1 := by omega
      (repeat (first | refine v_reg ?_ | refine v_last ?_ | refine vwp_seq ?_ | refine vwp_block ?_ | refine vwp_skip ?_ | refine vwp_exit ?_ | refine vwp_ret ?_ | refine v_cond ?_ | simp only [vm, ite_true, ite_false, eq_self, reduceIte, Nat.reduceEqDiff, Option.map, h0, h7, h11, h12, h13, g5] | refine And.intro (by omega) ?_))
      rw [Nat.pow_zero] at hk3
      exact ⟨k, rfl, hk1, hk3, hc7⟩
    obtain ⟨j, rfl⟩ : ∃ j, q = j + 1 := ⟨q - 1, by omega⟩
    have e2 : (((j + 1 : Nat) : Int) - 1) = (j : Int) := by omega
    rw [e2] at h13
    have g5 : (0 : Int) ≤ (j : Int) := by omega
    have hjn : j < n := by omega
    obtain ⟨tj, hget⟩ := hps.get hjn
    have hbj := hbits j hjn
    have hkl := pow_lt_bl hB hk1
    have hbk : bl (B0 ^ k) ≤ 67108864 := Nat.le_trans (bl_mono hk1) hb
    have hmul : B0 ^ k * B0 ^ 2 ^ j = B0 ^ (k + 2 ^ j) := (Nat.pow_add _ _ _).symm
    have lk : (digs 18446744073709551616 (B0 ^ k)).length ≤ 1048576 := digs_len_bl (by omega)
    have lj : (digs 18446744073709551616 (B0 ^ 2 ^ j)).length ≤ 1048576 := digs_len_bl (by omega)
    (repeat (first | refine v_reg ?_ | refine v_last ?_ | refine vwp_seq ?_ | refine vwp_block ?_ | refine vwp_skip ?_ | refine vwp_exit ?_ | refine vwp_ret ?_ | refine v_cond ?_ | simp only [vm, ite_true, ite_false, eq_self, reduceIte, Nat.reduceEqDiff, Option.map, h0, h7, h11, h12, h13, g5, hjn, d_cells, hget] | refine And.intro (by omega) ?_))
    refine s_call (mul_spec tk tj (digs 18446744073709551616 (B0 ^ k)) (digs 18446744073709551616 (B0 ^ 2 ^ j)) c7 (lim_digs two64 _) (lim_digs two64 _) (by omega) (by omega)) (by simp only [vm, ite_true, ite_false, eq_self, reduceIte, Nat.reduceEqDiff, Option.map, List.map, h12]) ?_
    rw [val_digs two64, val_digs two64, hmul]
    rintro v c8 hc8 (⟨hb8, t8, rfl, ht8⟩ | ⟨hb8, rfl⟩)
    rotate_left
    · have g6 : ¬ (3 : Int) = 0 := by decide
      have hlt2 : A0 < B0 ^ (k + 2 ^ j) := by
        rcases Nat.lt_or_ge A0 (B0 ^ (k + 2 ^ j)) with h | h
        · exact h
        · have := bl_mono h; omega
      (repeat (first | refine v_reg ?_ | refine v_last ?_ | refine vwp_seq ?_ | refine vwp_block ?_ | refine vwp_skip ?_ | refine vwp_exit ?_ | refine vwp_ret ?_ | refine v_cond ?_ | simp only [vm, ite_true, ite_false, eq_self, reduceIte, Nat.reduceEqDiff, Option.map, h0, h7, h11, h12, h13, g6] | refine And.intro (by omega) ?_))
      refine ⟨j, by omega, k, tk, by omega, ?_⟩
      (repeat' apply And.intro) <;> first | rfl | omega | assumption | exact hlt2
    have l8 : (digs 18446744073709551616 (B0 ^ (k + 2 ^ j))).length ≤ 1048576 := digs_len_bl (by omega)
    (repeat (first | refine v_reg ?_ | refine v_last ?_ | refine vwp_seq ?_ | refine vwp_block ?_ | refine vwp_skip ?_ | refine vwp_exit ?_ | refine vwp_ret ?_ | refine v_cond ?_ | simp only [vm, ite_true, ite_false, eq_self, reduceIte, Nat.reduceEqDiff, Option.map, h0, h7, h11, h12, h13] | refine And.intro (by omega) ?_))
    refine s_call (compare_spec t8 t (digs 18446744073709551616 (B0 ^ (k + 2 ^ j))) a c8 (lim_digs two64 _) ha (by omega) hna) (by simp only [vm, ite_true, ite_false, eq_self, reduceIte, Nat.reduceEqDiff, Option.map, List.map, h0]) ?_
    rw [val_digs two64, ← hA0]
    rintro v c9 hc9 rfl
    by_cases g6 : cmpI (B0 ^ (k + 2 ^ j)) A0 ≤ 0
    · have hle := cmpI_le.1 g6
      have hk2l := pow_lt_bl hB hle
      have hsh := i1_shl (b := false) (i := j) (by omega)
      have hk4 : A0 < B0 ^ (k + 2 ^ j + 2 ^ j) := by
        rw [Nat.add_assoc, ← Nat.two_mul, Nat.mul_comm, ← Nat.pow_succ]; exact hk3
      obtain ⟨kk, hkk⟩ : ∃ kk, kk = k + 2 ^ j := ⟨_, rfl⟩
      have e3 : (k : Int) + ((2 ^ j : Nat) : Int) = (kk : Int) := by rw [hkk]; push_cast; rfl
      rw [← hkk] at hk4 hle hk2l g6 ⊢
      (repeat (first | refine v_reg ?_ | refine v_last ?_ | refine vwp_seq ?_ | refine vwp_block ?_ | refine vwp_skip ?_ | refine vwp_exit ?_ | refine vwp_ret ?_ | refine v_cond ?_ | simp only [vm, ite_true, ite_false, eq_self, reduceIte, Nat.reduceEqDiff, Option.map, h0, h7, h11, h12, h13, g6, hsh, e3] | refine And.intro (by omega) ?_))
      refine ⟨j, by omega, kk, t8, by omega, ?_⟩
      (repeat' apply And.intro) <;> first | rfl | omega | assumption | exact hk4
    · have hlt2 : A0 < B0 ^ (k + 2 ^ j) := by
        rcases Nat.lt_or_ge A0 (B0 ^ (k + 2 ^ j)) with h | h
        · exact h
        · exact absurd (cmpI_le.2 h) g6
      (repeat (first | refine v_reg ?_ | refine v_last ?_ | refine vwp_seq ?_ | refine vwp_block ?_ | refine vwp_skip ?_ | refine vwp_exit ?_ | refine vwp_ret ?_ | refine v_cond ?_ | simp only [vm, ite_true, ite_false, eq_self, reduceIte, Nat.reduceEqDiff, Option.map, h0, h7, h11, h12, h13, g6] | refine And.intro (by omega) ?_))
      refine ⟨j, by omega, k, tk, by omega, ?_⟩
      (repeat' apply And.intro) <;> first | rfl | omega | assumption | exact hlt2
  rintro ⟨ρ4, σ4, c8⟩ ⟨k, h11, hk1, hk3, hc8⟩
  dsimp only at h11 hc8
  (repeat (first | refine v_reg ?_ | refine v_last ?_ | refine vwp_seq ?_ | refine vwp_block ?_ | refine vwp_skip ?_ | refine vwp_exit ?_ | refine vwp_ret ?_ | refine v_cond ?_ | simp only [vm, ite_true, ite_false, eq_self, reduceIte, Nat.reduceEqDiff, Option.map, h11] | refine And.intro (by omega) ?_))
  exact ⟨fun h => by rcases h with h | h <;> first | exact h.elim | omega, fun _ _ => ⟨k, rfl, hk1, hk3⟩⟩

theorem log04_spec (t : Tok) (A0 : Nat) (base : Int) (c : Nat) (hb : bl A0 ≤ 67108864) (hk2 : base < 9223372036854775808) :
    VSpec Try.prog F.surdref04_Log c [nats t (digs 4294967296 A0), iv base] (fun r c' => ((A0 = 0 ∨ base < 2) → r = .tup [iv 0, iv 1]) ∧ (0 < A0 → 2 ≤ base → ∃ k : Nat, r = .tup [iv k, iv 0] ∧ base.toNat ^ k ≤ A0 ∧ A0 < base.toNat ^ (k + 1))) := by
  refine spec_mk hm E.surdref04_Log B.surdref04_Log K.surdref04_Log Q.surdref04_Log (by rw [N.surdref04_Log]; simp) ?_
  unfold C.surdref04_Log R.surdref04_Log
  (repeat (first | refine v_reg ?_ | refine v_last ?_ | refine vwp_seq ?_ | refine vwp_block ?_ | refine vwp_skip ?_ | refine vwp_exit ?_ | refine vwp_ret ?_ | refine v_cond ?_ | simp only [vm, ite_true, ite_false, eq_self, reduceIte, Nat.reduceEqDiff, Option.map] | refine And.intro (by omega) ?_))
  refine s_call (zero_spec t A0 c (Nat.le_trans (len32_bl (k := 2097152) (by omega)) (by decide))) (by simp only [vm, ite_true, ite_false, eq_self, reduceIte, Nat.reduceEqDiff, Option.map, List.map]) ?_
  rintro v c1 hc1 rfl
  by_cases g1 : A0 = 0
  · (repeat (first | refine v_reg ?_ | refine v_last ?_ | refine vwp_seq ?_ | refine vwp_block ?_ | refine vwp_skip ?_ | refine vwp_exit ?_ | refine vwp_ret ?_ | refine v_cond ?_ | simp only [vm, ite_true, ite_false, eq_self, reduceIte, Nat.reduceEqDiff, Option.map, g1] | refine And.intro (by omega) ?_))
    exact ⟨fun _ => trivial, fun h => absurd h (by decide)⟩
  by_cases g2 : base < 2
  · (repeat (first | refine v_reg ?_ | refine v_last ?_ | refine vwp_seq ?_ | refine vwp_block ?_ | refine vwp_skip ?_ | refine vwp_exit ?_ | refine vwp_ret ?_ | refine v_cond ?_ | simp only [vm, ite_true, ite_false, eq_self, reduceIte, Nat.reduceEqDiff, Option.map, g1, g2] | refine And.intro (by omega) ?_))
    exact ⟨fun _ => trivial, fun _ h => by omega⟩
  obtain ⟨B0, rfl⟩ : ∃ n : Nat, base = (n : Int) := ⟨base.toNat, by omega⟩
  have hB : 2 ≤ B0 := by omega
  have e0 : ((B0 : Int)).toNat = B0 := by omega
  have hbB : bl B0 ≤ 63 := bl_le (by omega)
  rw [e0]
  (repeat (first | refine v_reg ?_ | refine v_last ?_ | refine vwp_seq ?_ | refine vwp_block ?_ | refine vwp_skip ?_ | refine vwp_exit ?_ | refine vwp_ret ?_ | refine v_cond ?_ | simp only [vm, ite_true, ite_false, eq_self, reduceIte, Nat.reduceEqDiff, Option.map, g1, g2] | refine And.intro (by omega) ?_))
  refine s_call (intR B0 c1 (by omega)) (by simp only [vm, ite_true, ite_false, eq_self, reduceIte, Nat.reduceEqDiff, Option.map, List.map]) ?_
  rintro v c2 hc2 ⟨j2, rfl, _, _⟩
  (repeat (first | refine v_reg ?_ | refine v_last ?_ | refine vwp_seq ?_ | refine vwp_block ?_ | refine vwp_skip ?_ | refine vwp_exit ?_ | refine vwp_ret ?_ | refine v_cond ?_ | simp only [vm, ite_true, ite_false, eq_self, reduceIte, Nat.reduceEqDiff, Option.map] | refine And.intro (by omega) ?_))
  refine v_loop (fun S => ∃ k : Nat, S.ρ 6 = iv (k : Int) ∧ B0 ^ k ≤ A0 ∧ A0 < B0 ^ (k + 1) ∧ c ≤ S.c) ?_ ?_
  · refine vwp_loop (fun q S => ∃ (k j : Nat), q = bl A0 - k ∧ S.ρ 0 = nats t (digs 4294967296 A0) ∧ S.ρ 1 = iv (B0 : Int) ∧ S.ρ 6 = iv (k : Int) ∧ S.ρ 7 = nats (.id j) (digs 4294967296 (B0 ^ (k + 1))) ∧ B0 ^ k ≤ A0 ∧ S.σ = noBlk ∧ c ≤ S.c) (bl A0) ?_ ?_
    · refine ⟨0, j2, rfl, ?_⟩
      rw [Nat.zero_add, Nat.pow_one, Nat.pow_zero]
      simp only [vm, ite_true, ite_false, eq_self, reduceIte, Nat.reduceEqDiff, Option.map]
      (repeat' apply And.intro) <;> first | rfl | omega | assumption
    rintro q ⟨ρ2, σ, c4⟩ ⟨k, j, hq, h0, h1, h6, h7, hk1, hσ, hc4⟩
    dsimp only at h0 h1 h6 h7 hσ hc4
    subst hσ
    have hkl := pow_lt_bl hB hk1
    have hbk : bl (B0 ^ k) ≤ 67108864 := Nat.le_trans (bl_mono hk1) hb
    have hbk1 : bl (B0 ^ (k + 1)) ≤ 67108927 := by
      rw [Nat.pow_succ]
      exact Nat.le_trans (bl_mul_le _ _) (by omega)
    have e3 : (k : Int) + 1 = ((k + 1 : Nat) : Int) := by omega
    (repeat (first | refine v_reg ?_ | refine v_last ?_ | refine vwp_seq ?_ | refine vwp_block ?_ | refine vwp_skip ?_ | refine vwp_exit ?_ | refine vwp_ret ?_ | refine v_cond ?_ | simp only [vm, ite_true, ite_false, eq_self, reduceIte, Nat.reduceEqDiff, Option.map, h0, h1, h6, h7] | refine And.intro (by omega) ?_))
    refine s_call (cmpR (.id j) t (B0 ^ (k + 1)) A0 c4 (by omega) (by omega)) (by simp only [vm, ite_true, ite_false, eq_self, reduceIte, Nat.reduceEqDiff, Option.map, List.map, h0, h7]) ?_
    rintro v c5 hc5 rfl
    by_cases g6 : cmpI (B0 ^ (k + 1)) A0 ≤ 0
    · have hle := cmpI_le.1 g6
      (repeat (first | refine v_reg ?_ | refine v_last ?_ | refine vwp_seq ?_ | refine vwp_block ?_ | refine vwp_skip ?_ | refine vwp_exit ?_ | refine vwp_ret ?_ | refine v_cond ?_ | simp only [vm, ite_true, ite_false, eq_self, reduceIte, Nat.reduceEqDiff, Option.map, h0, h1, h6, h7, g6, e3] | refine And.intro (by omega) ?_))
      refine s_call (intR B0 c5 (by omega)) (by simp only [vm, ite_true, ite_false, eq_self, reduceIte, Nat.reduceEqDiff, Option.map, List.map, h1]) ?_
      rintro v c6 hc6 ⟨j6, rfl, _, _⟩
      (repeat (first | refine v_reg ?_ | refine v_last ?_ | refine vwp_seq ?_ | refine vwp_block ?_ | refine vwp_skip ?_ | refine vwp_exit ?_ | refine vwp_ret ?_ | refine v_cond ?_ | simp only [vm, ite_true, ite_false, eq_self, reduceIte, Nat.reduceEqDiff, Option.map, h0, h1, h6, h7] | refine And.intro (by omega) ?_))
      refine s_call (mulR (.id j) (.id j6) (B0 ^ (k + 1)) B0 c6 (by omega) (by omega)) (by simp only [vm, ite_true, ite_false, eq_self, reduceIte, Nat.reduceEqDiff, Option.map, List.map, h7]) ?_
      rw [← Nat.pow_succ]
      rintro v c7 hc7 ⟨j7, rfl, _, _⟩
      (repeat (first | refine v_reg ?_ | refine v_last ?_ | refine vwp_seq ?_ | refine vwp_block ?_ | refine vwp_skip ?_ | refine vwp_exit ?_ | refine vwp_ret ?_ | refine v_cond ?_ | simp only [vm, ite_true, ite_false, eq_self, reduceIte, Nat.reduceEqDiff, Option.map, h0, h1, h6, h7, e3] | refine And.intro (by omega) ?_))
      exact ⟨bl A0 - (k + 1), by omega, k + 1, j7, rfl, rfl, rfl, hle, by omega⟩
    · have hlt2 : A0 < B0 ^ (k + 1) := by
        rcases Nat.lt_or_ge A0 (B0 ^ (k + 1)) with h | h
        · exact h
        · exact absurd (cmpI_le.2 h) g6
      (repeat (first | refine v_reg ?_ | refine v_last ?_ | refine vwp_seq ?_ | refine vwp_block ?_ | refine vwp_skip ?_ | refine vwp_exit ?_ | refine vwp_ret ?_ | refine v_cond ?_ | simp only [vm, ite_true, ite_false, eq_self, reduceIte, Nat.reduceEqDiff, Option.map, h0, h1, h6, h7, g6] | refine And.intro (by omega) ?_))
      exact ⟨k, rfl, hk1, hlt2, by omega⟩
  rintro ⟨ρ4, σ4, c8⟩ ⟨k, h6, hk1, hk3, hc8⟩
  dsimp only at h6 hc8
  (repeat (first | refine v_reg ?_ | refine v_last ?_ | refine vwp_seq ?_ | refine vwp_block ?_ | refine vwp_skip ?_ | refine vwp_exit ?_ | refine vwp_ret ?_ | refine v_cond ?_ | simp only [vm, ite_true, ite_false, eq_self, reduceIte, Nat.reduceEqDiff, Option.map, h6] | refine And.intro (by omega) ?_))
  exact ⟨fun h => by rcases h with h | h <;> first | exact h.elim | omega, fun _ _ => ⟨k, rfl, hk1, hk3⟩⟩
end Go.Proofs.Ytladcfeibpddeab
set_option linter.unusedSimpArgs false
set_option linter.unusedVariables false
set_option maxRecDepth 100000
set_option maxHeartbeats 8000000
namespace Go.Proofs.Ytladcfeibpddeab
open Go.VM

theorem logs_law (t : Tok) (a : List Nat) (m : Int) (c : Nat) (ha : Lim 18446744073709551616 a) (hna : a.length ≤ 1048576) (hk1 : -9223372036854775808 ≤ m) (hk2 : m < 9223372036854775808) :
    VSpec Try.prog F.surdlaw04_RootLogs c [nats t a, iv m] (fun r _ => r = bv true) := by
  refine spec_mk hm E.surdlaw04_RootLogs B.surdlaw04_RootLogs K.surdlaw04_RootLogs Q.surdlaw04_RootLogs (by rw [N.surdlaw04_RootLogs]; simp) ?_
  unfold C.surdlaw04_RootLogs R.surdlaw04_RootLogs
  have hbA : bl (val 18446744073709551616 a) ≤ 67108864 := by
    have h1 := val_lt ha
    rw [pow64] at h1
    exact Nat.le_trans (bl_le h1) (by omega)
  (repeat (first | refine v_reg ?_ | refine v_last ?_ | refine vwp_seq ?_ | refine vwp_block ?_ | refine vwp_skip ?_ | refine vwp_exit ?_ | refine vwp_ret ?_ | refine v_cond ?_ | simp only [vm, ite_true, ite_false, eq_self, reduceIte, Nat.reduceEqDiff, Option.map] | refine And.intro (by omega) ?_))
  refine s_call (lend_spec t a c ha (by omega)) (by simp only [vm, ite_true, ite_false, eq_self, reduceIte, Nat.reduceEqDiff, Option.map, List.map]) ?_
  rintro v c1 hc1 ⟨iw, rfl, hiw, hiw2⟩
  (repeat (first | refine v_reg ?_ | refine v_last ?_ | refine vwp_seq ?_ | refine vwp_block ?_ | refine vwp_skip ?_ | refine vwp_exit ?_ | refine vwp_ret ?_ | refine v_cond ?_ | simp only [vm, ite_true, ite_false, eq_self, reduceIte, Nat.reduceEqDiff, Option.map] | refine And.intro (by omega) ?_))
  refine s_call (of_spec t a c1 ha (by omega)) (by simp only [vm, ite_true, ite_false, eq_self, reduceIte, Nat.reduceEqDiff, Option.map, List.map]) ?_
  rintro v c2 hc2 ⟨i2, rfl, _, _⟩
  (repeat (first | refine v_reg ?_ | refine v_last ?_ | refine vwp_seq ?_ | refine vwp_block ?_ | refine vwp_skip ?_ | refine vwp_exit ?_ | refine vwp_ret ?_ | refine v_cond ?_ | simp only [vm, ite_true, ite_false, eq_self, reduceIte, Nat.reduceEqDiff, Option.map] | refine And.intro (by omega) ?_))
  refine s_call (log04_spec (.id i2) (val 18446744073709551616 a) m c2 hbA hk2) (by simp only [vm, ite_true, ite_false, eq_self, reduceIte, Nat.reduceEqDiff, Option.map, List.map]) ?_
  rintro v c3 hc3 ⟨w1, w2⟩
  have kw : Kn c3 (.sub iw) := .inr ⟨iw, .inr rfl, by omega⟩
  by_cases g : val 18446744073709551616 a = 0 ∨ m < 2
  · obtain rfl := w1 g
    (repeat (first | refine v_reg ?_ | refine v_last ?_ | refine vwp_seq ?_ | refine vwp_block ?_ | refine vwp_skip ?_ | refine vwp_exit ?_ | refine vwp_ret ?_ | refine v_cond ?_ | simp only [vm, ite_true, ite_false, eq_self, reduceIte, Nat.reduceEqDiff, Option.map] | refine And.intro (by omega) ?_))
    refine s_call (log_spec (.sub iw) a m c3 kw ha (by omega) hbA hk2) (by simp only [vm, ite_true, ite_false, eq_self, reduceIte, Nat.reduceEqDiff, Option.map, List.map]) ?_
    rintro v c4 hc4 ⟨v1, _⟩
    obtain rfl := v1 g
    (repeat (first | refine v_reg ?_ | refine v_last ?_ | refine vwp_seq ?_ | refine vwp_block ?_ | refine vwp_skip ?_ | refine vwp_exit ?_ | refine vwp_ret ?_ | refine v_cond ?_ | simp only [vm, ite_true, ite_false, eq_self, reduceIte, Nat.reduceEqDiff, Option.map] | refine And.intro (by omega) ?_))
    refine s_call (num_spec 1 c4) (by simp only [vm, ite_true, ite_false, eq_self, reduceIte, Nat.reduceEqDiff, Option.map, List.map]) ?_
    rintro v c5 hc5 rfl
    (repeat (first | refine v_reg ?_ | refine v_last ?_ | refine vwp_seq ?_ | refine vwp_block ?_ | refine vwp_skip ?_ | refine vwp_exit ?_ | refine vwp_ret ?_ | refine v_cond ?_ | simp only [vm, ite_true, ite_false, eq_self, reduceIte, Nat.reduceEqDiff, Option.map] | refine And.intro (by omega) ?_))
    refine s_call (kept_spec (.id iw) t a c5 (by omega)) (by simp only [vm, ite_true, ite_false, eq_self, reduceIte, Nat.reduceEqDiff, Option.map, List.map]) ?_
    rintro v c6 hc6 rfl
    (repeat (first | refine v_reg ?_ | refine v_last ?_ | refine vwp_seq ?_ | refine vwp_block ?_ | refine vwp_skip ?_ | refine vwp_exit ?_ | refine vwp_ret ?_ | refine v_cond ?_ | simp only [vm, ite_true, ite_false, eq_self, reduceIte, Nat.reduceEqDiff, Option.map] | refine And.intro (by omega) ?_))
    refine s_call (awake_spec c6) (by simp only [vm, ite_true, ite_false, eq_self, reduceIte, Nat.reduceEqDiff, Option.map, List.map]) ?_
    rintro v c7 hc7 rfl
    (repeat (first | refine v_reg ?_ | refine v_last ?_ | refine vwp_seq ?_ | refine vwp_block ?_ | refine vwp_skip ?_ | refine vwp_exit ?_ | refine vwp_ret ?_ | refine v_cond ?_ | simp only [vm, ite_true, ite_false, eq_self, reduceIte, Nat.reduceEqDiff, Option.map] | refine And.intro (by omega) ?_))
    omega
  · have gp : 0 < val 18446744073709551616 a := by omega
    have gm : 2 ≤ m := by omega
    have gn : 2 ≤ m.toNat := by omega
    obtain ⟨k, rfl, k1, k2⟩ := w2 gp gm
    (repeat (first | refine v_reg ?_ | refine v_last ?_ | refine vwp_seq ?_ | refine vwp_block ?_ | refine vwp_skip ?_ | refine vwp_exit ?_ | refine vwp_ret ?_ | refine v_cond ?_ | simp only [vm, ite_true, ite_false, eq_self, reduceIte, Nat.reduceEqDiff, Option.map] | refine And.intro (by omega) ?_))
    refine s_call (log_spec (.sub iw) a m c3 kw ha (by omega) hbA hk2) (by simp only [vm, ite_true, ite_false, eq_self, reduceIte, Nat.reduceEqDiff, Option.map, List.map]) ?_
    rintro v c4 hc4 ⟨_, v2⟩
    obtain ⟨j, rfl, j1, j2⟩ := v2 gp gm
    obtain rfl := log_unique gn j1 j2 k1 k2
    (repeat (first | refine v_reg ?_ | refine v_last ?_ | refine vwp_seq ?_ | refine vwp_block ?_ | refine vwp_skip ?_ | refine vwp_exit ?_ | refine vwp_ret ?_ | refine v_cond ?_ | simp only [vm, ite_true, ite_false, eq_self, reduceIte, Nat.reduceEqDiff, Option.map] | refine And.intro (by omega) ?_))
    refine s_call (num_spec 0 c4) (by simp only [vm, ite_true, ite_false, eq_self, reduceIte, Nat.reduceEqDiff, Option.map, List.map]) ?_
    rintro v c5 hc5 rfl
    (repeat (first | refine v_reg ?_ | refine v_last ?_ | refine vwp_seq ?_ | refine vwp_block ?_ | refine vwp_skip ?_ | refine vwp_exit ?_ | refine vwp_ret ?_ | refine v_cond ?_ | simp only [vm, ite_true, ite_false, eq_self, reduceIte, Nat.reduceEqDiff, Option.map] | refine And.intro (by omega) ?_))
    refine s_call (kept_spec (.id iw) t a c5 (by omega)) (by simp only [vm, ite_true, ite_false, eq_self, reduceIte, Nat.reduceEqDiff, Option.map, List.map]) ?_
    rintro v c6 hc6 rfl
    (repeat (first | refine v_reg ?_ | refine v_last ?_ | refine vwp_seq ?_ | refine vwp_block ?_ | refine vwp_skip ?_ | refine vwp_exit ?_ | refine vwp_ret ?_ | refine v_cond ?_ | simp only [vm, ite_true, ite_false, eq_self, reduceIte, Nat.reduceEqDiff, Option.map] | refine And.intro (by omega) ?_))
    refine s_call (awake_spec c6) (by simp only [vm, ite_true, ite_false, eq_self, reduceIte, Nat.reduceEqDiff, Option.map, List.map]) ?_
    rintro v c7 hc7 rfl
    (repeat (first | refine v_reg ?_ | refine v_last ?_ | refine vwp_seq ?_ | refine vwp_block ?_ | refine vwp_skip ?_ | refine vwp_exit ?_ | refine vwp_ret ?_ | refine v_cond ?_ | simp only [vm, ite_true, ite_false, eq_self, reduceIte, Nat.reduceEqDiff, Option.map] | refine And.intro (by omega) ?_))
    omega
end Go.Proofs.Ytladcfeibpddeab
set_option linter.unusedVariables false
set_option maxRecDepth 100000
namespace Go.Proofs.Ytladcfeibpddeab
open Go.VM Go.ChangeShapes Go.WideShapes Go.ChangeAt Go.RowKit

theorem own : ownKnob Try.prog.godebug = none := by kernel_rfl
theorem cellsOfE : Try.prog.cellsOf 54 = 1 := by kernel_rfl
theorem rep_ints {W : World} {xs : List V} {vs : Array Value} {l : List (V × Value)} (hx : xs = l.map Prod.fst) (hv : vs = (l.map Prod.snd).toArray) (h : ∀ p ∈ l, Rep W (fun b => b < W.heap.size) (fun _ => 0) 0 p.1 p.2) :
    ∀ (j : Nat) (x : V) (v : Value), xs[j]? = some x → vs[j]? = some v → Rep W (fun b => b < W.heap.size) (fun _ => 0) 0 x v := by
  intro j x v h1 h2
  subst hx hv
  rw [List.getElem?_map] at h1
  obtain ⟨p, hp, rfl⟩ := Option.map_eq_some_iff.1 h1
  have h2' : (l.map Prod.snd)[j]? = some v := by simpa using h2
  rw [List.getElem?_map, hp] at h2'
  cases h2'
  exact h p (List.mem_of_getElem? hp)
theorem wf_i64 {n : Int} (h : (Lit.int .i64 n).wf = true) : -9223372036854775808 ≤ n ∧ n < 9223372036854775808 := by
  simp [Lit.wf, IntKind.min, IntKind.max, IntKind.signed, IntKind.bits] at h
  omega

theorem row_contract (H : Type) (enc : TypeId × Value → H) (W : World) (base : Nat) (args : Array Value) (ds gs : List (DataW H)) (before : List MemPlace)
    (hval : ∀ (j : Nat) t v, Try.f5.params[j]? = some t → args[j]? = some v → Value.okWide Try.prog W .any base t v)
    (hW : DataW.Whole enc Try.prog Try.f5.params.toList Rows.rootLogsSpec.vars false W args.toList ds gs before) (hk : Rows.uptoSmall H (ds ++ gs) = true) :
    Calls Try.prog 5 args W fun e W' => ∃ v, e = .returned v ∧ Rows.rootLogsSpec.post enc Try.prog Try.f5 false true false false W args v W' := by
  have hW' := hW
  obtain ⟨p, q, hA0, hV, rfl, hfz, hnd⟩ := hW
  have hA : DataW.TrodAll enc Try.prog W 0 (fun _ => true) true Try.f5.params.toList args.toList ds p := hA0
  rw [Try.params5] at hA hval
  obtain ⟨v0, vs0, d0, ds0, p0, q0, hargs, rfl, rfl, h0, r0⟩ := trodAll_cons hA
  obtain ⟨v1, vs1, d1, ds1, p1, q1, hargs1, rfl, rfl, h1, r1⟩ := trodAll_cons r0
  obtain ⟨rfl, rfl, rfl⟩ := trodAll_nil r1
  obtain rfl : args = #[v0, v1] := by cases args; simp_all
  obtain ⟨rfl, rfl⟩ := trodVars_none hV
  clear hA0
  have hv0 := hval 0 22 v0 rfl rfl
  obtain ⟨n1, rfl, rfl, rfl, w1⟩ := open_int Try.underlying3 (hval 1 3 v1 rfl rfl) h1
  simp only [List.append_nil] at hW' hk
  obtain ⟨l, hl, hrep, hbulk, hshut⟩ := slice_arg Try.underlying22 Try.underlying54 cellsOfE hv0 h0 (fun p hp => hW'.lt p hp)
  have hb : Rows.uptoBulkAll [d0, .lit (.int .i64 n1)] ≤ 1048576 := of_decide_eq_true hk
  simp only [Rows.uptoBulkAll, Rows.uptoBulk] at hb
  obtain ⟨b1, b1'⟩ := wf_i64 w1
  obtain ⟨r, c9, _, hc9, hr9⟩ := logs_law .unk l n1 0 hl (by omega) b1 b1'
  subst hr9
  refine (calls_same hc9 W #[v0, .int .i64 n1] rfl (rep_ints (l := [(nats .unk l, v0), (iv n1, .int .i64 n1)]) rfl rfl (fun p hp => ?_)) ⟨_, rfl⟩).mono fun e W' ⟨v, he, hv, hs⟩ => ?_
  · simp only [List.mem_cons, List.not_mem_nil, or_false] at hp
    rcases hp with rfl | rfl
    · exact hrep
    · exact .lit _
  subst he
  cases hv
  exact ⟨_, rfl, post_kept (pa := p0) (pv := []) hW' hs (fun _ _ _ => trodAll_cons_mk (shut_bool Try.underlying4 _) trodAll_mk0)
    (fun sp hsp => by
      have t0 := trodAll_cons_mk (hshut W' hs sp hsp) (trodAll_cons_mk (shut_int Try.underlying3 w1) trodAll_mk0)
      simp only [List.append_nil] at t0
      rw [Try.params5]
      exact t0) (fun _ _ => rfl) (by simp)
    (ok_one (by kernel_rfl) rfl (okWide_bool_mk Try.underlying4 _))⟩

theorem row_lifted (os : Os) (started : os.Started) (H : Type) (enc : TypeId × Value → H) (F : Stop.Interp) :
    ReturnsInHanded {} Try.checked os 5 .any ((Rows.OpenSpec.upto Rows.rootLogsSpec).pre6 enc Try.prog Try.f5 Rows.rootLogsUptoRow.domain false) (((Rows.OpenSpec.upto Rows.rootLogsSpec).at F).post enc Try.prog Try.f5 false true false false) := by
  refine returnsInHanded_of_cond (C := Try.checked) (s := Rows.OpenSpec.upto Rows.rootLogsSpec) (k := Rows.uptoSmall) rfl own started (by kernel_rfl) Try.func5
    (OpenSpec.witness (enc := enc) (C := Try.checked) (s := Rows.OpenSpec.upto Rows.rootLogsSpec) (k := Rows.uptoSmall) rfl false ⟨#[], #[.slice none 0 0, .int .i64 0], []⟩ 8 (by kernel_rfl) (by kernel_rfl) (by kernel_rfl)
      (x := ([.nil, .lit (.int .i64 0)], [], [])) (by kernel_rfl) rfl (by kernel_rfl)) ?_
  intro W base args ds gs before hval hW _ hk _
  exact row_contract H enc W base args ds gs before hval hW hk

theorem row_holds : Rows.RootLogsUptoSaid :=
  OpenClaim.holds_of_cond 5 Try.f5 rfl rfl rfl rfl rfl rfl rfl ⟨rfl, rfl, rfl, rfl, rfl⟩ rfl rfl rfl rfl rfl (by kernel_rfl) Try.func5 (by kernel_rfl)
    (of_decide_eq_true (by kernel_rfl)) (by unfold Func.isWrapper; first | (rw [if_pos (by decide +kernel)]; kernel_rfl) | (rw [if_neg (by decide +kernel)]; exact ⟨rfl, rfl⟩))
    (fun os started H enc _ F => row_lifted os started H enc F)
#print axioms row_holds
end Go.Proofs.Ytladcfeibpddeab
