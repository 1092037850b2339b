/- The claim of RootOwn (answers are new memory; asked again over a list that was written over between, they are what it says then) of the program holds: whatever list and numbers come in (of bulk at most 1048576 in all, as the statement says), the law answers true, and memory that was there is as it was. -/
import Derived.Test.YtladcfeibpddeabOwnM5
set_option linter.unusedSimpArgs false
set_option linter.unusedVariables false
set_option maxRecDepth 100000
set_option maxHeartbeats 8000000
namespace Go.Proofs.Ytladcfeibpddeab
open Go.VM

def wholeL (a : List Nat) : List Nat := [10855845, 10855845] ++ a ++ [10855845, 10855845]
theorem wholeL_len (a : List Nat) : (wholeL a).length = a.length + 4 := by simp [wholeL]
theorem wholeL_at (a : List Nat) (i : Nat) (h : i < a.length + 4) : (wholeL a).getD i 0 = if 2 ≤ i ∧ i < a.length + 2 then a.getD (i - 2) 0 else 10855845 := by
  unfold wholeL
  rcases Nat.lt_or_ge i 2 with g | g
  · rw [if_neg (by omega)]
    match i, g with
    | 0, _ => rfl
    | 1, _ => rfl
  · obtain ⟨j, rfl⟩ : ∃ j, i = j + 2 := ⟨i - 2, by omega⟩
    show (a ++ [10855845, 10855845]).getD j 0 = _
    rcases Nat.lt_or_ge j a.length with g2 | g2
    · rw [if_pos (by omega), getD_append_left g2]; rfl
    · rw [if_neg (by omega)]
      obtain ⟨k, rfl⟩ : ∃ k, j = a.length + k := ⟨j - a.length, by omega⟩
      rw [List.getD_eq_getElem?_getD, List.getElem?_append_right (by omega)]
      have : k = 0 ∨ k = 1 := by omega
      rcases this with rfl | rfl
      · simp
      · simp

theorem kept_spec (t u : Tok) (a : List Nat) (c : Nat) (hna : a.length ≤ 1099511627776) : VSpec Try.prog F.surdref01_Kept c [nats t (wholeL a), nats u a] (fun r _ => r = bv true) := by
  refine spec_mk hm E.surdref01_Kept B.surdref01_Kept K.surdref01_Kept Q.surdref01_Kept (by rw [N.surdref01_Kept]; simp) ?_
  unfold C.surdref01_Kept R.surdref01_Kept
  have hl := wholeL_len a
  have g0 : ((a.length + 4 : Nat) : Int) = (a.length : Int) + 4 := by omega
  (repeat (first | refine v_reg ?_ | refine v_last ?_ | refine vwp_seq ?_ | refine vwp_block ?_ | refine vwp_skip ?_ | refine vwp_exit ?_ | refine vwp_ret ?_ | refine v_cond ?_ | simp only [vm, ite_true, ite_false, eq_self, reduceIte, Nat.reduceEqDiff, Option.map, hl, g0] | refine And.intro (by omega) ?_))
  refine v_loopR (fun S => S.σ = noBlk ∧ c ≤ S.c) ?_ ?_
  · refine vwp_loop (fun k S => ∃ i, k = a.length + 4 - i ∧ i ≤ a.length + 4 ∧ S.ρ 1 = nats u a ∧ S.ρ 13 = nats t (wholeL a) ∧ S.ρ 14 = iv ((a.length + 4 : Nat) : Int) ∧ S.ρ 15 = iv i ∧ S.σ = noBlk ∧ c ≤ S.c) (a.length + 4) ?_ ?_
    · refine ⟨0, by omega, by omega, ?_⟩
      simp only [vm, ite_true, ite_false, eq_self, reduceIte, Nat.reduceEqDiff, Option.map, hl, g0]
      (repeat' apply And.intro) <;> first | rfl | omega | assumption
    rintro k ⟨ρ, σ, c3⟩ ⟨i, hk, hi, h1, h13, h14, h15, hσ, hc3⟩
    dsimp only at h1 h13 h14 h15 hσ hc3
    subst hσ
    by_cases g2 : (i : Int) < ((a.length + 4 : Nat) : Int)
    · have hat := wholeL_at a i (by omega)
      by_cases g3 : (i : Int) < 2
      · rw [if_neg (by omega)] at hat
        (repeat (first | refine v_reg ?_ | refine v_last ?_ | refine vwp_seq ?_ | refine vwp_block ?_ | refine vwp_skip ?_ | refine vwp_exit ?_ | refine vwp_ret ?_ | refine v_cond ?_ | simp only [vm, ite_true, ite_false, eq_self, reduceIte, Nat.reduceEqDiff, Option.map, h1, h13, h14, h15, g2, g3, hl, hat] | refine And.intro (by omega) ?_))
        refine ⟨a.length + 4 - (i + 1), by omega, i + 1, ?_⟩
        (repeat' apply And.intro) <;> first | rfl | omega | assumption
      · by_cases g4 : (a.length : Int) + 2 ≤ (i : Int)
        · rw [if_neg (by omega)] at hat
          (repeat (first | refine v_reg ?_ | refine v_last ?_ | refine vwp_seq ?_ | refine vwp_block ?_ | refine vwp_skip ?_ | refine vwp_exit ?_ | refine vwp_ret ?_ | refine v_cond ?_ | simp only [vm, ite_true, ite_false, eq_self, reduceIte, Nat.reduceEqDiff, Option.map, h1, h13, h14, h15, g2, g3, g4, hl, hat] | refine And.intro (by omega) ?_))
          refine ⟨a.length + 4 - (i + 1), by omega, i + 1, ?_⟩
          (repeat' apply And.intro) <;> first | rfl | omega | assumption
        · rw [if_pos (by omega)] at hat
          have e1 : ((i : Int) - 2).toNat = i - 2 := by omega
          (repeat (first | refine v_reg ?_ | refine v_last ?_ | refine vwp_seq ?_ | refine vwp_block ?_ | refine vwp_skip ?_ | refine vwp_exit ?_ | refine vwp_ret ?_ | refine v_cond ?_ | simp only [vm, ite_true, ite_false, eq_self, reduceIte, Nat.reduceEqDiff, Option.map, h1, h13, h14, h15, g2, g3, g4, hl, hat, e1] | refine And.intro (by omega) ?_))
          refine ⟨a.length + 4 - (i + 1), by omega, i + 1, ?_⟩
          (repeat' apply And.intro) <;> first | rfl | omega | assumption
    · (repeat (first | refine v_reg ?_ | refine v_last ?_ | refine vwp_seq ?_ | refine vwp_block ?_ | refine vwp_skip ?_ | refine vwp_exit ?_ | refine vwp_ret ?_ | refine v_cond ?_ | simp only [vm, ite_true, ite_false, eq_self, reduceIte, Nat.reduceEqDiff, Option.map, h1, h13, h14, h15, g2] | refine And.intro (by omega) ?_))
      omega
  rintro ⟨ρ3, σ, c5⟩ ⟨hσ, hc5⟩
  dsimp only at hσ hc5
  subst hσ
  (repeat (first | refine v_reg ?_ | refine v_last ?_ | refine vwp_seq ?_ | refine vwp_block ?_ | refine vwp_skip ?_ | refine vwp_exit ?_ | refine vwp_ret ?_ | refine v_cond ?_ | simp only [vm, ite_true, ite_false, eq_self, reduceIte, Nat.reduceEqDiff, Option.map] | refine And.intro (by omega) ?_))
  omega

theorem lend_spec (t : Tok) (a : List Nat) (c : Nat) (ha : Lim 18446744073709551616 a) (hna : a.length ≤ 1099511627776) :
    VSpec Try.prog F.surdref01_Lend c [nats t a] (fun r c' => ∃ i, r = .tup [nats (.id i) (wholeL a), nats (.sub i) a] ∧ c ≤ i ∧ i < c') := by
  refine spec_mk hm E.surdref01_Lend B.surdref01_Lend K.surdref01_Lend Q.surdref01_Lend (by rw [N.surdref01_Lend]; simp) ?_
  unfold C.surdref01_Lend R.surdref01_Lend
  (repeat (first | refine v_reg ?_ | refine v_last ?_ | refine vwp_seq ?_ | refine vwp_block ?_ | refine vwp_skip ?_ | refine vwp_exit ?_ | refine vwp_ret ?_ | refine v_cond ?_ | simp only [vm, ite_true, ite_false, eq_self, reduceIte, Nat.reduceEqDiff, Option.map] | refine And.intro (by omega) ?_))
  refine s_mk (n := a.length + 4) (m := a.length + 4) (by simp only [vm, ite_true, ite_false, eq_self, reduceIte, Nat.reduceEqDiff, Option.map]; rfl) (by simp only [vm, ite_true, ite_false, eq_self, reduceIte, Nat.reduceEqDiff, Option.map]; rfl) (Nat.le_refl _) (by omega) ?_
  (repeat (first | refine v_reg ?_ | refine v_last ?_ | refine vwp_seq ?_ | refine vwp_block ?_ | refine vwp_skip ?_ | refine vwp_exit ?_ | refine vwp_ret ?_ | refine v_cond ?_ | simp only [vm, ite_true, ite_false, eq_self, reduceIte, Nat.reduceEqDiff, Option.map] | refine And.intro (by omega) ?_))
  refine v_loop (fun S => S.ρ 0 = nats t a ∧ S.ρ 4 = .buf c 0 (a.length + 4) (some (a.length + 4)) 1 ∧ S.σ = supd noBlk c (nblk (List.replicate (a.length + 4) 10855845)) ∧ c + 1 ≤ S.c) ?_ ?_
  · refine vwp_loop (fun k S => ∃ i, k = a.length + 4 - i ∧ i ≤ a.length + 4 ∧ S.ρ 0 = nats t a ∧ S.ρ 4 = .buf c 0 (a.length + 4) (some (a.length + 4)) 1 ∧ S.ρ 13 = iv ((a.length + 4 : Nat) : Int) ∧ S.ρ 14 = iv i ∧ S.σ = supd noBlk c (nblk (List.replicate i 10855845 ++ List.replicate (a.length + 4 - i) 0)) ∧ c + 1 ≤ S.c) (a.length + 4) ?_ ?_
    · refine ⟨0, by omega, by omega, ?_⟩
      simp only [vm, ite_true, ite_false, eq_self, reduceIte, Nat.reduceEqDiff, Option.map]
      (repeat' apply And.intro) <;> first | rfl | omega | assumption
    rintro k ⟨ρ, σ, c3⟩ ⟨i, hk, hi, h0, h4, h13, h14, hσ, hc3⟩
    dsimp only at h0 h4 h13 h14 hσ hc3
    subst hσ
    by_cases g : (i : Int) < ((a.length + 4 : Nat) : Int)
    · have hlen : (List.replicate i 10855845 ++ List.replicate (a.length + 4 - i) 0).length = a.length + 4 := by simp; omega
      have hset : (List.replicate i 10855845 ++ List.replicate (a.length + 4 - i) 0).set i 10855845 = List.replicate (i + 1) 10855845 ++ List.replicate (a.length + 4 - (i + 1)) 0 := by
        have := set_fill (List.replicate i 10855845) (a.length + 4 - (i + 1)) 10855845
        rw [List.length_replicate] at this
        rw [show a.length + 4 - i = a.length + 4 - (i + 1) + 1 by omega, this, List.replicate_succ']
      (repeat (first | refine v_reg ?_ | refine v_last ?_ | refine vwp_seq ?_ | refine vwp_block ?_ | refine vwp_skip ?_ | refine vwp_exit ?_ | refine vwp_ret ?_ | refine v_cond ?_ | simp only [vm, ite_true, ite_false, eq_self, reduceIte, Nat.reduceEqDiff, Option.map, h0, h4, h13, h14, g, hlen, hset] | refine And.intro (by omega) ?_))
      refine ⟨a.length + 4 - (i + 1), by omega, i + 1, ?_⟩
      (repeat' apply And.intro) <;> first | rfl | omega | assumption
    · have : i = a.length + 4 := by omega
      subst this
      (repeat (first | refine v_reg ?_ | refine v_last ?_ | refine vwp_seq ?_ | refine vwp_block ?_ | refine vwp_skip ?_ | refine vwp_exit ?_ | refine vwp_ret ?_ | refine v_cond ?_ | simp only [vm, ite_true, ite_false, eq_self, reduceIte, Nat.reduceEqDiff, Option.map, h0, h4, h13, h14, g] | refine And.intro (by omega) ?_))
      rw [Nat.sub_self, List.replicate_zero, List.append_nil]
      (repeat' apply And.intro) <;> first | rfl | omega | assumption
  rintro ⟨ρ3, σ, c5⟩ ⟨h0, h4, hσ, hc5⟩
  dsimp only at h0 h4 hσ hc5
  subst hσ
  (repeat (first | refine v_reg ?_ | refine v_last ?_ | refine vwp_seq ?_ | refine vwp_block ?_ | refine vwp_skip ?_ | refine vwp_exit ?_ | refine vwp_ret ?_ | refine v_cond ?_ | simp only [vm, ite_true, ite_false, eq_self, reduceIte, Nat.reduceEqDiff, Option.map, h0, h4] | refine And.intro (by omega) ?_))
  refine v_loop (fun S => S.ρ 0 = nats t a ∧ S.ρ 4 = .buf c 0 (a.length + 4) (some (a.length + 4)) 1 ∧ S.σ = supd noBlk c (nblk (wholeL a)) ∧ c + 1 ≤ S.c) ?_ ?_
  · refine vwp_loop (fun k S => ∃ i, k = a.length - i ∧ i ≤ a.length ∧ S.ρ 0 = nats t a ∧ S.ρ 4 = .buf c 0 (a.length + 4) (some (a.length + 4)) 1 ∧ S.ρ 21 = nats t a ∧ S.ρ 22 = iv a.length ∧ S.ρ 23 = iv i ∧ S.σ = supd noBlk c (nblk (([10855845, 10855845] ++ a.take i) ++ List.replicate (a.length - i + 2) 10855845)) ∧ c + 1 ≤ S.c) a.length ?_ ?_
    · refine ⟨0, by omega, by omega, ?_⟩
      have e0 : List.replicate (a.length + 4) 10855845 = ([10855845, 10855845] ++ a.take 0) ++ List.replicate (a.length - 0 + 2) 10855845 := by
        rw [show a.length + 4 = (a.length - 0 + 2) + 1 + 1 by omega, List.replicate_succ, List.replicate_succ]; simp
      simp only [vm, ite_true, ite_false, eq_self, reduceIte, Nat.reduceEqDiff, Option.map, h0, h4]
      (repeat' apply And.intro) <;> first | rfl | omega | assumption | (rw [e0])
    rintro k ⟨ρ, σ, c3⟩ ⟨i, hk, hi, h0, h4, h21, h22, h23, hσ, hc3⟩
    dsimp only at h0 h4 h21 h22 h23 hσ hc3
    subst hσ
    by_cases g : (i : Int) < a.length
    · have hti : (a.take i).length = i := by simp; omega
      have hlen : (([10855845, 10855845] ++ a.take i) ++ List.replicate (a.length - i + 2) 10855845).length = a.length + 4 := by simp; omega
      have hset : ∀ v, (([10855845, 10855845] ++ a.take i) ++ List.replicate (a.length - i + 2) 10855845).set (i + 2) v = (([10855845, 10855845] ++ a.take i) ++ [v]) ++ List.replicate (a.length - (i + 1) + 2) 10855845 := fun v => by
        have e : ([10855845, 10855845] ++ a.take i).length = i + 2 := by simp; omega
        rw [show a.length - i + 2 = (a.length - (i + 1) + 2) + 1 by omega, List.replicate_succ]
        conv => lhs; rw [← e]
        rw [set_at]; simp
      have e2 : ((i : Int) + 2).toNat = i + 2 := by omega
      have hts := take_snoc (l := a) (i := i) (by omega)
      (repeat (first | refine v_reg ?_ | refine v_last ?_ | refine vwp_seq ?_ | refine vwp_block ?_ | refine vwp_skip ?_ | refine vwp_exit ?_ | refine vwp_ret ?_ | refine v_cond ?_ | simp only [vm, ite_true, ite_false, eq_self, reduceIte, Nat.reduceEqDiff, Option.map, h0, h4, h21, h22, h23, g, e2, hlen, hset] | refine And.intro (by omega) ?_))
      refine ⟨a.length - (i + 1), by omega, i + 1, ?_⟩
      rw [hts, ← List.append_assoc [10855845, 10855845]]
      (repeat' apply And.intro) <;> first | rfl | omega | assumption
    · have : i = a.length := by omega
      subst this
      (repeat (first | refine v_reg ?_ | refine v_last ?_ | refine vwp_seq ?_ | refine vwp_block ?_ | refine vwp_skip ?_ | refine vwp_exit ?_ | refine vwp_ret ?_ | refine v_cond ?_ | simp only [vm, ite_true, ite_false, eq_self, reduceIte, Nat.reduceEqDiff, Option.map, h0, h4, h21, h22, h23, g] | refine And.intro (by omega) ?_))
      have e0 : ([10855845, 10855845] ++ a.take a.length) ++ List.replicate (a.length - a.length + 2) 10855845 = wholeL a := by rw [List.take_length, Nat.sub_self]; rfl
      rw [e0]
      (repeat' apply And.intro) <;> first | rfl | omega | assumption
  rintro ⟨ρ4, σ, c6⟩ ⟨h0, h4, hσ, hc6⟩
  dsimp only at h0 h4 hσ hc6
  subst hσ
  have hl := wholeL_len a
  refine v_freeze 4 (t := c) (off := 0) (n := a.length + 4) (cap := some (a.length + 4)) (l := wholeL a) (by simp only [vm, ite_true, ite_false, eq_self, reduceIte, Nat.reduceEqDiff, Option.map, h4]) (by simp only [vm, ite_true, ite_false, eq_self, reduceIte, Nat.reduceEqDiff, Option.map]) (by omega) (by omega) ?_
  rw [List.drop_zero, show (wholeL a).take (a.length + 4) = wholeL a from List.take_of_length_le (by omega)]
  have e1 : (2 : Int).toNat = 2 := rfl
  have e2 : ((a.length : Int) + 2).toNat = a.length + 2 := by omega
  have e3 : ((wholeL a).drop 2).take (a.length + 2 - 2) = a := by
    show (a ++ [10855845, 10855845]).take (a.length + 2 - 2) = a
    rw [Nat.add_sub_cancel, List.take_append_of_le_length (Nat.le_refl _), List.take_length]
  have e4 : Tok.cut 2 (.id c) = .sub c := rfl
  (repeat (first | refine v_reg ?_ | refine v_last ?_ | refine vwp_seq ?_ | refine vwp_block ?_ | refine vwp_skip ?_ | refine vwp_exit ?_ | refine vwp_ret ?_ | refine v_cond ?_ | simp only [vm, ite_true, ite_false, eq_self, reduceIte, Nat.reduceEqDiff, Option.map, h0, hl, e1, e2, e3, e4] | refine And.intro (by omega) ?_))
  exact ⟨c, rfl, by omega, by omega⟩
end Go.Proofs.Ytladcfeibpddeab
set_option linter.unusedSimpArgs false
set_option linter.unusedVariables false
set_option maxRecDepth 100000
set_option maxHeartbeats 8000000
namespace Go.Proofs.Ytladcfeibpddeab
open Go.VM

theorem sub_digit {x y o d : Nat} (hx : x < 4294967296) (hy : y < 4294967296) (ho : o ≤ 1) (hd : d = (x + 4294967296 - y - o) % 4294967296) : d + y + o = x + 4294967296 * (1 - (x + 4294967296 - y - o) / 4294967296) ∧ 1 - (x + 4294967296 - y - o) / 4294967296 ≤ 1 ∧ d < 4294967296 := by omega
theorem sub_m1 {x y o : Nat} (hx : x < 4294967296) (hy : y < 4294967296) (ho : o ≤ 1) : ((x + 4294967296) % 18446744073709551616 + (18446744073709551616 - y % 18446744073709551616)) % 18446744073709551616 = x + 4294967296 - y ∧ (x + 4294967296 - y + (18446744073709551616 - o % 18446744073709551616)) % 18446744073709551616 = x + 4294967296 - y - o ∧ (x + 4294967296 - y - o) / 4294967296 % 18446744073709551616 = (x + 4294967296 - y - o) / 4294967296 ∧ (1 + (18446744073709551616 - (x + 4294967296 - y - o) / 4294967296)) % 18446744073709551616 = 1 - (x + 4294967296 - y - o) / 4294967296 := by omega

theorem sub32_spec (t u : Tok) (a b : List Nat) (c : Nat) (ha : Lim 4294967296 a) (hb : Lim 4294967296 b) (hna : a.length ≤ 1099511627776) (hnb : b.length ≤ a.length) (hle : val 4294967296 b ≤ val 4294967296 a) :
    VSpec Try.prog F.surdref01_Sub c [nats t a, nats u b] (fun r c' => ∃ i, r = nats (.id i) (digs 4294967296 (val 4294967296 a - val 4294967296 b)) ∧ c ≤ i ∧ i < c') := by
  refine spec_mk hm E.surdref01_Sub B.surdref01_Sub K.surdref01_Sub Q.surdref01_Sub (by rw [N.surdref01_Sub]; simp) ?_
  unfold C.surdref01_Sub R.surdref01_Sub
  (repeat (first | refine v_reg ?_ | refine v_last ?_ | refine vwp_seq ?_ | refine vwp_block ?_ | refine vwp_skip ?_ | refine vwp_exit ?_ | refine vwp_ret ?_ | refine v_cond ?_ | simp only [vm, ite_true, ite_false, eq_self, reduceIte, Nat.reduceEqDiff, Option.map] | refine And.intro (by omega) ?_))
  refine s_mk (n := a.length) (m := a.length) (by simp only [vm, ite_true, ite_false, eq_self, reduceIte, Nat.reduceEqDiff, Option.map]) (by simp only [vm, ite_true, ite_false, eq_self, reduceIte, Nat.reduceEqDiff, Option.map]) (Nat.le_refl _) (by omega) ?_
  (repeat (first | refine v_reg ?_ | refine v_last ?_ | refine vwp_seq ?_ | refine vwp_block ?_ | refine vwp_skip ?_ | refine vwp_exit ?_ | refine vwp_ret ?_ | refine v_cond ?_ | simp only [vm, ite_true, ite_false, eq_self, reduceIte, Nat.reduceEqDiff, Option.map] | refine And.intro (by omega) ?_))
  refine v_loop (fun S => ∃ w, w.length = a.length ∧ Lim 4294967296 w ∧ val 4294967296 w = val 4294967296 a - val 4294967296 b ∧ S.ρ 5 = .buf c 0 a.length (some a.length) 1 ∧ S.σ = supd noBlk c (nblk w) ∧ c + 1 ≤ S.c) ?_ ?_
  · refine vwp_loop (fun k S => ∃ i w o, k = a.length - i ∧ i ≤ a.length ∧ w.length = i ∧ Lim 4294967296 w ∧ o ≤ 1 ∧ val 4294967296 w + val 4294967296 (b.take i) = val 4294967296 (a.take i) + 4294967296 ^ i * o ∧ S.ρ 0 = nats t a ∧ S.ρ 1 = nats u b ∧ S.ρ 13 = iv (a.length : Int) ∧ S.ρ 6 = nv o ∧ S.ρ 14 = iv (i : Int) ∧ S.ρ 5 = .buf c 0 a.length (some a.length) 1 ∧ S.σ = supd noBlk c (nblk (w ++ List.replicate (a.length - i) 0)) ∧ c + 1 ≤ S.c) a.length ?_ ?_
    · refine ⟨0, [], 0, by omega, by omega, ?_⟩
      simp only [vm, ite_true, ite_false, eq_self, reduceIte, Nat.reduceEqDiff, Option.map]
      (repeat' apply And.intro) <;> first | rfl | omega | assumption | exact Lim.nil | (simp [val]; done)
    rintro k ⟨ρ2, σ, c4⟩ ⟨i, w, o, hk, hi, hw, hlw, ho, hinv, h0, h1, h13, h6, h14, h5, hσ, hc4⟩
    dsimp only at h0 h1 h13 h6 h14 h5 hσ hc4
    subst hσ
    by_cases g : (i : Int) < a.length
    · have hi' : i < a.length := by omega
      have hxi := ha.getD (i := i) (by decide)
      have hyi := hb.getD (i := i) (by decide)
      have hax := val_take' 4294967296 a i
      have hbx := val_take' 4294967296 b i
      have hlen : (w ++ List.replicate (a.length - i) 0).length = a.length := by simp; omega
      have hset : ∀ v, (w ++ List.replicate (a.length - i) 0).set i v = (w ++ [v]) ++ List.replicate (a.length - (i + 1)) 0 := fun v => by
        have := set_fill w (a.length - (i + 1)) v
        rw [hw] at this
        rw [show a.length - i = a.length - (i + 1) + 1 by omega, this]
      (repeat (first | refine v_reg ?_ | refine v_last ?_ | refine vwp_seq ?_ | refine vwp_block ?_ | refine vwp_skip ?_ | refine vwp_exit ?_ | refine vwp_ret ?_ | refine v_cond ?_ | simp only [vm, ite_true, ite_false, eq_self, reduceIte, Nat.reduceEqDiff, Option.map, h0, h1, h13, h6, h14, h5, g] | refine And.intro (by omega) ?_))
      refine s_call (at_spec u b i c4 (by omega)) (by simp only [vm, ite_true, ite_false, eq_self, reduceIte, Nat.reduceEqDiff, Option.map, List.map, h1, h14]) ?_
      rintro v c5 hc5 rfl
      generalize a.getD i 0 = x at *
      generalize b.getD i 0 = y at *
      obtain ⟨m1, m2, m3, m4⟩ := sub_m1 hxi hyi ho
      obtain ⟨d1, d2, d3⟩ := sub_digit hxi hyi ho rfl
      (repeat (first | refine v_reg ?_ | refine v_last ?_ | refine vwp_seq ?_ | refine vwp_block ?_ | refine vwp_skip ?_ | refine vwp_exit ?_ | refine vwp_ret ?_ | refine v_cond ?_ | simp only [vm, ite_true, ite_false, eq_self, reduceIte, Nat.reduceEqDiff, Option.map, h0, h1, h13, h6, h14, h5, hlen, hset, m1, m2, m3, m4] | refine And.intro (by omega) ?_))
      have key := sub_step (b := 4294967296) hw hinv d1
      rw [← hax, ← hbx] at key
      generalize 1 - (x + 4294967296 - y - o) / 4294967296 = o' at *
      generalize (x + 4294967296 - y - o) % 4294967296 = d at *
      refine ⟨a.length - (i + 1), by omega, i + 1, w ++ [d], o', ?_⟩
      (repeat' apply And.intro) <;> first | rfl | exact key | exact lim_snoc hlw d3 | (simp [hw]; done) | omega | assumption
    · have hi' : i = a.length := by omega
      subst hi'
      (repeat (first | refine v_reg ?_ | refine v_last ?_ | refine vwp_seq ?_ | refine vwp_block ?_ | refine vwp_skip ?_ | refine vwp_exit ?_ | refine vwp_ret ?_ | refine v_cond ?_ | simp only [vm, ite_true, ite_false, eq_self, reduceIte, Nat.reduceEqDiff, Option.map, h0, h1, h13, h6, h14, h5, g] | refine And.intro (by omega) ?_))
      rw [List.take_of_length_le (l := a) (by omega), List.take_of_length_le (l := b) (by omega)] at hinv
      refine ⟨w, ?_⟩
      have e0 : w ++ List.replicate (a.length - a.length) 0 = w := by simp
      rw [e0]
      have hwl := val_lt hlw
      rw [hw] at hwl
      have hc0 : o = 0 := by
        rcases Nat.eq_zero_or_pos o with h | h
        · exact h
        · have : o = 1 := by omega
          rw [this, Nat.mul_one] at hinv
          omega
      rw [hc0, Nat.mul_zero, Nat.add_zero] at hinv
      (repeat' apply And.intro) <;> first | rfl | omega | assumption
  rintro ⟨ρ3, σ, c5⟩ ⟨w, hw, hlw, hvw, h5, hσ, hc5⟩
  dsimp only at h5 hσ hc5
  subst hσ
  refine v_freeze 5 (t := c) (off := 0) (n := a.length) (cap := some a.length) (l := w) (by simp only [vm, ite_true, ite_false, eq_self, reduceIte, Nat.reduceEqDiff, Option.map, h5]) (by simp only [vm, ite_true, ite_false, eq_self, reduceIte, Nat.reduceEqDiff, Option.map]) (by omega) (by omega) ?_
  rw [List.drop_zero, show w.take a.length = w from List.take_of_length_le (by omega)]
  (repeat (first | refine v_reg ?_ | refine v_last ?_ | refine vwp_seq ?_ | refine vwp_block ?_ | refine vwp_skip ?_ | refine vwp_exit ?_ | refine vwp_ret ?_ | refine v_cond ?_ | simp only [vm, ite_true, ite_false, eq_self, reduceIte, Nat.reduceEqDiff, Option.map] | refine And.intro (by omega) ?_))
  refine s_call (norm32_spec (.id c) w c5 hlw (by omega)) (by simp only [vm, ite_true, ite_false, eq_self, reduceIte, Nat.reduceEqDiff, Option.map, List.map]) ?_
  rintro v c6 hc6 rfl
  rw [hvw]
  (repeat (first | refine v_reg ?_ | refine v_last ?_ | refine vwp_seq ?_ | refine vwp_block ?_ | refine vwp_skip ?_ | refine vwp_exit ?_ | refine vwp_ret ?_ | refine v_cond ?_ | simp only [vm, ite_true, ite_false, eq_self, reduceIte, Nat.reduceEqDiff, Option.map] | refine And.intro (by omega) ?_))
  exact ⟨c, rfl, by omega, by omega⟩

theorem shl32_low {x s : Nat} (hs : s ≤ 31) (hx : x < 4294967296) : x * 2 ^ s % 18446744073709551616 = x * 2 ^ s ∧ x * 2 ^ s % 4294967296 + 2 ^ s ≤ 4294967296 ∧ x * 2 ^ s / 4294967296 < 2 ^ s ∧ x * 2 ^ s / 4294967296 % 18446744073709551616 = x * 2 ^ s / 4294967296 ∧ 2 ^ s ≤ 2147483648 := by
  have h31 : 2 ^ s ≤ 2 ^ 31 := Nat.pow_le_pow_right (by decide) hs
  have hp : 0 < 2 ^ s := Nat.two_pow_pos s
  have hlt : x * 2 ^ s < 4294967296 * 2 ^ s := Nat.mul_lt_mul_of_pos_right hx hp
  have h32 : 4294967296 = 2 ^ (32 - s) * 2 ^ s := by rw [← Nat.pow_add, show 32 - s + s = 32 by omega]
  have hlow : x * 2 ^ s % 4294967296 + 2 ^ s ≤ 4294967296 := by
    have e : x * 2 ^ s % 4294967296 = (x % 2 ^ (32 - s)) * 2 ^ s := by rw [h32, Nat.mul_mod_mul_right]
    rw [e, ← Nat.succ_mul, h32]
    exact Nat.mul_le_mul_right _ (Nat.mod_lt _ (Nat.two_pow_pos _))
  have hdiv : x * 2 ^ s / 4294967296 < 2 ^ s := Nat.div_lt_of_lt_mul hlt
  have h1 : x * 2 ^ s < 18446744073709551616 := by
    have : 4294967296 * 2 ^ s ≤ 4294967296 * 2 ^ 31 := Nat.mul_le_mul_left _ h31
    omega
  exact ⟨Nat.mod_eq_of_lt h1, hlow, hdiv, Nat.mod_eq_of_lt (by omega), by omega⟩

theorem shl32_spec (t : Tok) (a : List Nat) (n c : Nat) (ha : Lim 4294967296 a) (hna : a.length ≤ 1099511627776) (hn : n ≤ 1099511627776) :
    VSpec Try.prog F.surdref01_Shl c [nats t a, iv n] (fun r c' => (a = [] ∧ r = nil1) ∨ ∃ i, r = nats (.id i) (digs 4294967296 (val 4294967296 a * 2 ^ n)) ∧ c ≤ i ∧ i < c') := by
  refine spec_mk hm E.surdref01_Shl B.surdref01_Shl K.surdref01_Shl Q.surdref01_Shl (by rw [N.surdref01_Shl]; simp) ?_
  unfold C.surdref01_Shl R.surdref01_Shl
  by_cases g0 : (a.length : Int) = 0
  · (repeat (first | refine v_reg ?_ | refine v_last ?_ | refine vwp_seq ?_ | refine vwp_block ?_ | refine vwp_skip ?_ | refine vwp_exit ?_ | refine vwp_ret ?_ | refine v_cond ?_ | simp only [vm, ite_true, ite_false, eq_self, reduceIte, Nat.reduceEqDiff, Option.map, g0] | refine And.intro (by omega) ?_))
    exact .inl (List.eq_nil_of_length_eq_zero (by omega))
  obtain ⟨q, hq⟩ : ∃ q, q = n / 32 := ⟨_, rfl⟩
  obtain ⟨s, hs⟩ : ∃ s, s = n % 32 := ⟨_, rfl⟩
  have hs31 : s ≤ 31 := by omega
  have eq1 : (n : Int) / 32 = (q : Int) := by omega
  have es1 : (n : Int) % 32 = (s : Int) := by omega
  have el : (a.length : Int) + (q : Int) + 1 = ((q + a.length + 1 : Nat) : Int) := by omega
  (repeat (first | refine v_reg ?_ | refine v_last ?_ | refine vwp_seq ?_ | refine vwp_block ?_ | refine vwp_skip ?_ | refine vwp_exit ?_ | refine vwp_ret ?_ | refine v_cond ?_ | simp only [vm, ite_true, ite_false, eq_self, reduceIte, Nat.reduceEqDiff, Option.map, g0, eq1, el] | refine And.intro (by omega) ?_))
  refine s_mk (n := q + a.length + 1) (m := q + a.length + 1) (by simp only [vm, ite_true, ite_false, eq_self, reduceIte, Nat.reduceEqDiff, Option.map]) (by simp only [vm, ite_true, ite_false, eq_self, reduceIte, Nat.reduceEqDiff, Option.map]) (Nat.le_refl _) (by omega) ?_
  (repeat (first | refine v_reg ?_ | refine v_last ?_ | refine vwp_seq ?_ | refine vwp_block ?_ | refine vwp_skip ?_ | refine vwp_exit ?_ | refine vwp_ret ?_ | refine v_cond ?_ | simp only [vm, ite_true, ite_false, eq_self, reduceIte, Nat.reduceEqDiff, Option.map, es1] | refine And.intro (by omega) ?_))
  refine v_loop (fun S => ∃ w, w.length = q + a.length + 1 ∧ Lim 4294967296 w ∧ val 4294967296 w = val 4294967296 a * 2 ^ n ∧ S.ρ 5 = .buf c 0 (q + a.length + 1) (some (q + a.length + 1)) 1 ∧ S.σ = supd noBlk c (nblk w) ∧ c + 1 ≤ S.c) ?_ ?_
  · refine vwp_loop (fun k S => ∃ i w o, k = a.length - i ∧ i ≤ a.length ∧ w.length = i ∧ Lim 4294967296 w ∧ o < 2 ^ s ∧ val 4294967296 (w ++ [o]) = val 4294967296 (a.take i) * 2 ^ s ∧ S.ρ 1 = iv (n : Int) ∧ S.ρ 6 = iv (s : Int) ∧ S.ρ 21 = nats t a ∧ S.ρ 22 = iv (a.length : Int) ∧ S.ρ 23 = iv (i : Int) ∧ S.ρ 5 = .buf c 0 (q + a.length + 1) (some (q + a.length + 1)) 1 ∧ S.σ = supd noBlk c (nblk ((List.replicate q 0 ++ w) ++ o :: List.replicate (a.length - i) 0)) ∧ c + 1 ≤ S.c) a.length ?_ ?_
    · refine ⟨0, [], 0, by omega, by omega, ?_⟩
      simp only [vm, ite_true, ite_false, eq_self, reduceIte, Nat.reduceEqDiff, Option.map]
      have e0 : List.replicate (q + a.length + 1) 0 = (List.replicate q 0 ++ []) ++ 0 :: List.replicate (a.length - 0) 0 := by
        rw [List.append_nil, ← List.replicate_succ, List.replicate_append_replicate]; rfl
      rw [e0]
      (repeat' apply And.intro) <;> first | rfl | omega | assumption | exact Lim.nil | exact Nat.two_pow_pos s | (simp [val]; done)
    rintro k ⟨ρ2, σ, c4⟩ ⟨i, w, o, hk, hi, hw, hlw, ho, hinv, h1, h6, h21, h22, h23, h5, hσ, hc4⟩
    dsimp only at h1 h6 h21 h22 h23 h5 hσ hc4
    subst hσ
    by_cases g : (i : Int) < a.length
    · have hi' : i < a.length := by omega
      have hxi := ha.getD (i := i) (by decide)
      have hax := val_take' 4294967296 a i
      obtain ⟨m1, m2, m3, m4, m5⟩ := shl32_low hs31 hxi
      have hql : (List.replicate q 0 ++ w).length = i + q := by simp [hw]; omega
      have eiq : ((i : Int) + (q : Int)).toNat = i + q := by omega
      have eiq1 : ((i : Int) + (q : Int) + 1).toNat = i + q + 1 := by omega
      have hlen : ((List.replicate q 0 ++ w) ++ o :: List.replicate (a.length - i) 0).length = q + a.length + 1 := by simp [hw]; omega
      have hget : ((List.replicate q 0 ++ w) ++ o :: List.replicate (a.length - i) 0).getD (i + q) 0 = o := by rw [← hql]; exact getD_at _ _ _
      have hset1 : ∀ v, ((List.replicate q 0 ++ w) ++ o :: List.replicate (a.length - i) 0).set (i + q) v = (List.replicate q 0 ++ w) ++ v :: List.replicate (a.length - i) 0 := fun v => by rw [← hql]; exact set_at _ _ _ _
      have hset2 : ∀ v v', ((List.replicate q 0 ++ w) ++ v :: List.replicate (a.length - i) 0).set (i + q + 1) v' = (List.replicate q 0 ++ (w ++ [v])) ++ v' :: List.replicate (a.length - (i + 1)) 0 := fun v v' => by
        have e : (List.replicate q 0 ++ w) ++ v :: List.replicate (a.length - i) 0 = (List.replicate q 0 ++ (w ++ [v])) ++ 0 :: List.replicate (a.length - (i + 1)) 0 := by
          rw [show a.length - i = a.length - (i + 1) + 1 by omega, List.replicate_succ]; simp
        rw [e, show i + q + 1 = (List.replicate q 0 ++ (w ++ [v])).length by simp [hw]; omega]
        exact set_at _ _ _ _
      have hlen2 : ∀ v, ((List.replicate q 0 ++ w) ++ v :: List.replicate (a.length - i) 0).length = q + a.length + 1 := fun v => by simp [hw]; omega
      have emin : min s 64 = s := by omega
      have hod : (o + a.getD i 0 * 2 ^ s % 4294967296) % 18446744073709551616 = o + a.getD i 0 * 2 ^ s % 4294967296 := Nat.mod_eq_of_lt (by omega)
      have hstep := shl_step (b := 4294967296) (lo := a.getD i 0 * 2 ^ s % 4294967296) (hi := a.getD i 0 * 2 ^ s / 4294967296) (x := a.getD i 0) (P := 2 ^ s) hw hinv (by omega)
      (repeat (first | refine v_reg ?_ | refine v_last ?_ | refine vwp_seq ?_ | refine vwp_block ?_ | refine vwp_skip ?_ | refine vwp_exit ?_ | refine vwp_ret ?_ | refine v_cond ?_ | simp only [vm, ite_true, ite_false, eq_self, reduceIte, Nat.reduceEqDiff, Option.map, h1, h6, h21, h22, h23, h5, g, eq1, eiq, eiq1, hlen, hlen2, hget, hset1, hset2, emin, m1, m4, hod] | refine And.intro (by omega) ?_))
      refine ⟨a.length - (i + 1), by omega, i + 1, w ++ [o + a.getD i 0 * 2 ^ s % 4294967296], a.getD i 0 * 2 ^ s / 4294967296, ?_⟩
      have key : val 4294967296 ((w ++ [o + a.getD i 0 * 2 ^ s % 4294967296]) ++ [a.getD i 0 * 2 ^ s / 4294967296]) = val 4294967296 (a.take (i + 1)) * 2 ^ s := by
        rw [hstep, hax, Nat.add_mul, Nat.mul_assoc]
      have hlw2 := lim_snoc (v := o + a.getD i 0 * 2 ^ s % 4294967296) hlw (by omega)
      (repeat' apply And.intro) <;> first | rfl | exact key | exact hlw2 | exact m3 | (simp [hw]; done) | omega | assumption
    · have hi' : i = a.length := by omega
      subst hi'
      (repeat (first | refine v_reg ?_ | refine v_last ?_ | refine vwp_seq ?_ | refine vwp_block ?_ | refine vwp_skip ?_ | refine vwp_exit ?_ | refine vwp_ret ?_ | refine v_cond ?_ | simp only [vm, ite_true, ite_false, eq_self, reduceIte, Nat.reduceEqDiff, Option.map, h1, h6, h21, h22, h23, h5, g] | refine And.intro (by omega) ?_))
      rw [List.take_length] at hinv
      refine ⟨List.replicate q 0 ++ (w ++ [o]), ?_⟩
      have hwl : Lim 4294967296 (w ++ [o]) := lim_snoc hlw (by have := Nat.pow_le_pow_right (n := 2) (by decide) hs31; omega)
      have key : val 4294967296 (List.replicate q 0 ++ (w ++ [o])) = val 4294967296 a * 2 ^ n := by
        rw [val_zeros, hinv, pow32, Nat.mul_left_comm, ← Nat.pow_add, show 32 * q + s = n by omega]
      have e0 : (List.replicate q 0 ++ w) ++ o :: List.replicate (a.length - a.length) 0 = List.replicate q 0 ++ (w ++ [o]) := by simp
      rw [e0]
      (repeat' apply And.intro) <;> first | rfl | omega | assumption | exact key | exact (Lim.replicate (by decide)).append hwl | (simp [hw]; omega)
  rintro ⟨ρ3, σ, c5⟩ ⟨w, hw, hlw, hvw, h5, hσ, hc5⟩
  dsimp only at h5 hσ hc5
  subst hσ
  refine v_freeze 5 (t := c) (off := 0) (n := q + a.length + 1) (cap := some (q + a.length + 1)) (l := w) (by simp only [vm, ite_true, ite_false, eq_self, reduceIte, Nat.reduceEqDiff, Option.map, h5]) (by simp only [vm, ite_true, ite_false, eq_self, reduceIte, Nat.reduceEqDiff, Option.map]) (by omega) (by omega) ?_
  rw [List.drop_zero, show w.take (q + a.length + 1) = w from List.take_of_length_le (by omega)]
  (repeat (first | refine v_reg ?_ | refine v_last ?_ | refine vwp_seq ?_ | refine vwp_block ?_ | refine vwp_skip ?_ | refine vwp_exit ?_ | refine vwp_ret ?_ | refine v_cond ?_ | simp only [vm, ite_true, ite_false, eq_self, reduceIte, Nat.reduceEqDiff, Option.map] | refine And.intro (by omega) ?_))
  refine s_call (norm32_spec (.id c) w c5 hlw (by omega)) (by simp only [vm, ite_true, ite_false, eq_self, reduceIte, Nat.reduceEqDiff, Option.map, List.map]) ?_
  rintro v c6 hc6 rfl
  rw [hvw]
  (repeat (first | refine v_reg ?_ | refine v_last ?_ | refine vwp_seq ?_ | refine vwp_block ?_ | refine vwp_skip ?_ | refine vwp_exit ?_ | refine vwp_ret ?_ | refine v_cond ?_ | simp only [vm, ite_true, ite_false, eq_self, reduceIte, Nat.reduceEqDiff, Option.map] | refine And.intro (by omega) ?_))
  exact .inr ⟨c, rfl, by omega, by omega⟩
end Go.Proofs.Ytladcfeibpddeab
set_option linter.unusedSimpArgs false
set_option linter.unusedVariables false
set_option maxRecDepth 100000
set_option maxHeartbeats 8000000
namespace Go.Proofs.Ytladcfeibpddeab
open Go.VM

theorem cmpI_le {m n : Nat} : cmpI m n ≤ 0 ↔ m ≤ n := by
  unfold cmpI
  split
  · constructor <;> intros <;> omega
  · split
    · constructor <;> intros <;> omega
    · constructor <;> intros <;> omega
theorem cmpI_pos {m n : Nat} : 0 < cmpI m n ↔ n < m := by
  unfold cmpI
  split
  · constructor <;> intros <;> omega
  · split
    · constructor <;> intros <;> omega
    · constructor <;> intros <;> omega
theorem cmpI_lt {m n : Nat} : cmpI m n < 0 ↔ m < n := by
  unfold cmpI
  split
  · constructor <;> intros <;> omega
  · split
    · constructor <;> intros <;> omega
    · constructor <;> intros <;> omega
theorem cmpI_zero {m n : Nat} : cmpI m n = 0 ↔ m = n := by
  unfold cmpI
  split
  · constructor <;> intros <;> omega
  · split
    · constructor <;> intros <;> omega
    · constructor <;> intros <;> omega
theorem lenR (t : Tok) (n c : Nat) (hn : bl n ≤ 68719476736) : VSpec Try.prog F.surdref01_Num_Len c [nats t (digs 4294967296 n)] (fun r _ => r = iv (bl n)) :=
  len_spec t n c (Nat.le_trans (len32_bl (k := 2147483648) (by omega)) (by decide))
theorem subR (t u : Tok) (m n c : Nat) (hm : bl m ≤ 68719476736) (hle : n ≤ m) : VSpec Try.prog F.surdref01_Sub c [nats t (digs 4294967296 m), nats u (digs 4294967296 n)] (fun r c' => RefR c c' (m - n) r) := by
  have h := sub32_spec t u (digs 4294967296 m) (digs 4294967296 n) c (lim_digs two32 m) (lim_digs two32 n) (Nat.le_trans (len32_bl (k := 2147483648) (by omega)) (by decide)) (le_len two32 hle) (by rw [val_digs two32, val_digs two32]; exact hle)
  rw [val_digs two32, val_digs two32] at h
  exact h
theorem oneR (c : Nat) : VSpec Try.prog F.surdref01_Int c [iv 1] (fun r c' => RefR c c' 1 r) := int_spec 1 c (by decide)
theorem intR (n c : Nat) (hn : n < 9223372036854775808) : VSpec Try.prog F.surdref01_Int c [iv n] (fun r c' => RefR c c' n r) := int_spec n c hn
theorem shlR (t : Tok) (m n c : Nat) (hm : bl m ≤ 68719476736) (hm0 : 0 < m) (hn : n ≤ 1099511627776) : VSpec Try.prog F.surdref01_Shl c [nats t (digs 4294967296 m), iv n] (fun r c' => RefR c c' (m * 2 ^ n) r) := by
  have h := shl32_spec t (digs 4294967296 m) n c (lim_digs two32 m) (Nat.le_trans (len32_bl (k := 2147483648) (by omega)) (by decide)) hn
  rw [val_digs two32] at h
  refine h.mono ?_
  rintro r c' (⟨h1, _⟩ | h1)
  · exact absurd ((digs_eq_nil two32).1 h1) (by omega)
  · exact h1

theorem pow_small {A k : Nat} (hk : 1 ≤ k) (h : A ≤ 1) : A ^ k = A := by
  rcases Nat.eq_zero_or_pos A with e | e
  · rw [e]; exact Nat.zero_pow (by omega)
  · have : A = 1 := by omega
    rw [this, Nat.one_pow]
theorem pow_over {A k M : Nat} (hA : 2 ≤ A) (h : bl M < k) : M < A ^ k :=
  Nat.lt_of_lt_of_le (lt_of_bl (Nat.le_of_lt h)) (Nat.pow_le_pow_left hA k)

theorem told04_spec (t u : Tok) (m n c : Nat) (hm1 : bl m ≤ 67108864) (hn1 : bl n ≤ 67108864) :
    VSpec Try.prog F.surdref04_told c [nats t (digs 4294967296 m), nats u (digs 4294967296 n)] (fun r c' => r = .tup [nats t (digs 4294967296 m), nats u (digs 4294967296 n), iv 0]) := by
  refine spec_mk hm E.surdref04_told B.surdref04_told K.surdref04_told Q.surdref04_told (by rw [N.surdref04_told]; simp) ?_
  unfold C.surdref04_told R.surdref04_told
  (repeat (first | refine v_reg ?_ | refine v_last ?_ | refine vwp_seq ?_ | refine vwp_block ?_ | refine vwp_skip ?_ | refine vwp_exit ?_ | refine vwp_ret ?_ | refine v_cond ?_ | simp only [vm, ite_true, ite_false, eq_self, reduceIte, Nat.reduceEqDiff, Option.map] | refine And.intro (by omega) ?_))
  refine s_call (lenR t m c (by omega)) (by simp only [vm, ite_true, ite_false, eq_self, reduceIte, Nat.reduceEqDiff, Option.map, List.map]) ?_
  rintro v c1 hc1 rfl
  have g1 : ¬ (67108864 : Int) < (bl m : Int) := by omega
  (repeat (first | refine v_reg ?_ | refine v_last ?_ | refine vwp_seq ?_ | refine vwp_block ?_ | refine vwp_skip ?_ | refine vwp_exit ?_ | refine vwp_ret ?_ | refine v_cond ?_ | simp only [vm, ite_true, ite_false, eq_self, reduceIte, Nat.reduceEqDiff, Option.map, g1] | refine And.intro (by omega) ?_))
  refine s_call (lenR u n c1 (by omega)) (by simp only [vm, ite_true, ite_false, eq_self, reduceIte, Nat.reduceEqDiff, Option.map, List.map]) ?_
  rintro v c2 hc2 rfl
  have g2 : ¬ (67108864 : Int) < (bl n : Int) := by omega
  (repeat (first | refine v_reg ?_ | refine v_last ?_ | refine vwp_seq ?_ | refine vwp_block ?_ | refine vwp_skip ?_ | refine vwp_exit ?_ | refine vwp_ret ?_ | refine v_cond ?_ | simp only [vm, ite_true, ite_false, eq_self, reduceIte, Nat.reduceEqDiff, Option.map, g2] | refine And.intro (by omega) ?_))
  omega

end Go.Proofs.Ytladcfeibpddeab
set_option linter.unusedSimpArgs false
set_option linter.unusedVariables false
set_option maxRecDepth 100000
set_option maxHeartbeats 8000000
namespace Go.Proofs.Ytladcfeibpddeab
open Go.VM Go.RowKit

/-! ### answers that can't be -/
theorem rep_nil_len {w : World} {M : Nat → Prop} {μ : Nat → Nat} {c : Nat} {l : List Nat} {v : Value} (h : Rep w M μ c (nats .nil l) v) : l = [] := by
  generalize e : nats .nil l = x at h
  cases h with
  | nil tk sz =>
    simp only [nats, V.sl.injEq] at e
    exact List.map_eq_nil_iff.1 e.2.2
  | sl tk sz n cap a l' vs ht hn hc hs hMb hcap h1 hl =>
    simp only [nats, V.sl.injEq] at e
    obtain ⟨rfl, rfl, rfl⟩ := e
    have h0 : cap * 1 = 0 := ht
    have : (l.map nv).length = 0 := by omega
    exact List.map_eq_nil_iff.1 (List.eq_nil_of_length_eq_zero this)
  | any | lit | agg | tup => cases e
/-- no value is this one -/
def Void (r : V) : Prop := ∀ w M μ c v, ¬ RepE w M μ c r v
theorem void_tup {l : List V} {x : List Nat} (hm0 : nats .nil x ∈ l) (hx : x ≠ []) : Void (.tup l) := by
  intro w M μ c v h
  have h : Rep w M μ c (.tup l) v := h
  cases h with
  | tup _ cs hn hl =>
    obtain ⟨j, hj⟩ := List.getElem?_of_mem hm0
    have hjl := (List.getElem?_eq_some_iff.1 hj).1
    have := hl j _ _ hj (Array.getElem?_eq_getElem (by omega))
    exact hx (rep_nil_len this)
theorem void_one {x : List Nat} (hx : x ≠ []) : Void (nats .nil x) := fun w M μ c v h => hx (rep_nil_len h)
theorem VSpec.clean {P : Program} {f : FuncId} {c : Nat} {xs : List V} {Q1 Q2 : V → Nat → Prop} (h : VSpec P f c xs Q1) (hq : ∀ r c', c ≤ c' → Q1 r c' → Q2 r c' ∨ (Void r ∧ ∃ r2 c2, c ≤ c2 ∧ Q2 r2 c2)) : VSpec P f c xs Q2 := by
  obtain ⟨r, c', h0, h1, h2⟩ := h
  rcases hq r c' h0 h2 with h | ⟨hv, r2, c2, h3, h4⟩
  · exact ⟨r, c', h0, h1, h⟩
  · refine ⟨r2, c2, h3, fun w Φ μ vs hm0 hn ha => (h1 w Φ μ vs hm0 hn ha).mono ?_, h4⟩
    rintro e w' ⟨v, μ', _, _, hr⟩
    exact absurd hr (hv _ _ _ _ _)

/-- nothing, or a row in memory of its own -/
def Row1 (lo hi : Nat) (t : Tok) (l : List Nat) : Prop := (t = .nil ∧ l = []) ∨ ∃ i, t = .id i ∧ lo ≤ i ∧ i < hi
theorem Row1.mono {a b c d : Nat} {t : Tok} {l : List Nat} (h : Row1 a b t l) (h1 : c ≤ a) (h2 : b ≤ d) : Row1 c d t l := by
  rcases h with h | ⟨i, h, h3, h4⟩
  · exact .inl h
  · exact .inr ⟨i, h, by omega, by omega⟩
theorem Row1.of {a b : Nat} {t : Tok} {l : List Nat} (h : Tk a b t) (hl : t = .nil → l = []) : Row1 a b t l := by
  rcases h with rfl | ⟨i, rfl, h⟩
  · exact .inl ⟨rfl, hl rfl⟩
  · exact .inr ⟨i, rfl, h⟩
theorem tk_nil_or {a b : Nat} {t : Tok} (l : List Nat) (h : Tk a b t) : Row1 a b t l ∨ (t = .nil ∧ l ≠ []) := by
  by_cases e : t = .nil ∧ l ≠ []
  · exact .inr e
  · refine .inl (.of h fun e1 => ?_)
    cases l with
    | nil => rfl
    | cons x r => exact absurd ⟨e1, by simp⟩ e

theorem nodup_nodupB : ∀ {l : List Nat}, l.Nodup → nodupB l = true
  | [], _ => rfl
  | a :: r, h => by
    obtain ⟨h1, h2⟩ := List.nodup_cons.1 h
    simp only [nodupB, Bool.and_eq_true, Bool.not_eq_true', List.contains_eq_mem, decide_eq_false_iff_not]
    exact ⟨h1, nodup_nodupB h2⟩

abbrev rowsV (ps : List (Tok × List Nat)) : List V := ps.map fun p => nats p.1 p.2
theorem mem_ids {ps : List (Tok × List Nat)} {i : Nat} (h : i ∈ ids (rowsV ps)) : ∃ p ∈ ps, p.1 = .id i := by
  obtain ⟨x, hx, e⟩ := List.mem_filterMap.1 h
  obtain ⟨p, hp, rfl⟩ := List.mem_map.1 hx
  obtain ⟨t, l⟩ := p
  cases t with
  | id j => simp at e; subst e; exact ⟨_, hp, rfl⟩
  | _ => simp at e
theorem ids_nodup : ∀ {ps : List (Tok × List Nat)}, ps.Pairwise (fun p q => Apt p.1 q.1) → (ids (rowsV ps)).Nodup
  | [], _ => List.nodup_nil
  | (t, l) :: ps, h => by
    obtain ⟨h1, h2⟩ := List.pairwise_cons.1 h
    have ih := ids_nodup h2
    cases t with
    | id j =>
      refine List.nodup_cons.2 ⟨fun hm0 => ?_, ih⟩
      obtain ⟨q, hq, e⟩ := mem_ids hm0
      exact h1 q hq j rfl e
    | nil => exact ih
    | unk => exact ih
    | sub j => exact ih
theorem ownable_of {c0 lo tL : Nat} {ps : List (Tok × List Nat)} (hc : c0 ≤ lo) (h0 : 0 < ps.length) (h1 : ps.length ≤ 1000000) (hp : ∀ p ∈ ps, Row1 lo tL p.1 p.2 ∧ p.2.length ≤ 4398046511104) (hl : lo ≤ tL) (ha : ps.Pairwise (fun p q => Apt p.1 q.1)) : ownable c0 tL (rowsV ps) = true := by
  simp only [ownable, Bool.and_eq_true, decide_eq_true_eq, List.all_eq_true]
  have hid : ∀ i ∈ ids (rowsV ps), lo ≤ i ∧ i < tL := fun i hi => by
    obtain ⟨p, hpm, e⟩ := mem_ids hi
    rcases (hp p hpm).1 with ⟨e1, _⟩ | ⟨j, e1, h3, h4⟩
    · rw [e] at e1; cases e1
    · rw [e] at e1; cases e1; exact ⟨h3, h4⟩
  refine ⟨⟨⟨⟨by simpa using h0, by simpa using h1⟩, fun x hx => ?_⟩, fun t ht => ?_⟩, nodup_nodupB (List.nodup_cons.2 ⟨fun h => ?_, ids_nodup ha⟩)⟩
  · obtain ⟨p, hpm, rfl⟩ := List.mem_map.1 hx
    obtain ⟨t, l⟩ := p
    obtain ⟨h2, h3⟩ := hp _ hpm
    rcases h2 with ⟨e1, e2⟩ | ⟨i, e1, _⟩
    · simp only at e1 e2; subst e1 e2; rfl
    · simp only at e1 h3; subst e1
      simp [rowable, h3]
  · rcases List.mem_cons.1 ht with rfl | h
    · omega
    · have := hid t h; omega
  · have := hid tL h; omega

theorem thawL_lit (ts : List Nat) (v : Value) : V.thawL ts (.lit v) = .lit v := by
  unfold V.thawL
  rw [if_pos (List.all_eq_true.2 fun t _ => (show V.still t 4 (.lit v) = true from rfl))]
theorem thawL_nats {ts : List Nat} {t : Tok} {l : List Nat} (h : ∀ q ∈ ts, t.apart q = true) : V.thawL ts (nats t l) = nats t l := by
  unfold V.thawL
  rw [if_pos]
  refine List.all_eq_true.2 fun q hq => ?_
  simp only [V.still, Bool.and_eq_true, List.all_eq_true, List.mem_map]
  refine ⟨h q hq, ?_⟩
  rintro x ⟨n, _, rfl⟩
  rfl
theorem thawL_kn {lo tL : Nat} {ps : List (Tok × List Nat)} (hp : ∀ p ∈ ps, Row1 lo tL p.1 p.2 ∧ p.2.length ≤ 4398046511104) (hl : lo ≤ tL) {t : Tok} {l : List Nat} (h : Kn lo t) : V.thawL (tL :: ids (rowsV ps)) (nats t l) = nats t l := by
  refine thawL_nats fun q hq => ?_
  have hq : lo ≤ q := by
    rcases List.mem_cons.1 hq with rfl | h
    · exact hl
    · obtain ⟨p, hpm, e⟩ := mem_ids h
      rcases (hp p hpm).1 with ⟨e1, _⟩ | ⟨j, e1, h3, h4⟩
      · rw [e] at e1; cases e1
      · rw [e] at e1; cases e1; exact h3
  rcases h with rfl | ⟨i, rfl | rfl, hi⟩
  · rfl
  · exact beq_no (by omega)
  · exact beq_no (by omega)
theorem killed_own (ts : List Nat) (ρ : Nat → V) (j : Nat) : kill (some (.inr ts)) ρ j = (ρ j).thawL ts := rfl

section
variable {P : Program} {c0 : Nat} {ρ : Nat → V} {c i : Nat} {r : List VO} {K : VS → Prop}
/-- rows are given away (no buffer is live) -/
theorem s_own {f : FuncId} {x : X} {tL lo : Nat} {ps : List (Tok × List Nat)} (hf : OwnSpec P f) (hx : x.ev ρ = .sl (.id tL) 1 (rowsV ps)) (hc : c0 ≤ lo) (h0 : 0 < ps.length) (h1 : ps.length ≤ 1000000) (hp : ∀ p ∈ ps, Row1 lo tL p.1 p.2 ∧ p.2.length ≤ 4398046511104) (hl : lo ≤ tL) (ha : ps.Pairwise (fun p q => Apt p.1 q.1))
    (hk : wps P false c0 r ⟨upd (kill (some (.inr (tL :: ids (rowsV ps)))) ρ) i (bv true), noBlk, c⟩ K) : wps P false c0 (⟨some i, .call f [x], none⟩ :: r) ⟨ρ, noBlk, c⟩ K := by
  show opS P false c0 (.call f [x]) (some i) _ _
  refine ⟨_, _, _, _, .own rfl hf hx (ownable_of hc h0 h1 hp hl ha), ?_⟩
  have e : (fun t => if (tL :: ids (rowsV ps)).contains t = true then none else (noBlk t).map fun b => (⟨b.cells.map (V.thawL (tL :: ids (rowsV ps))), b.live⟩ : Blk)) = noBlk := by
    funext t
    split <;> rfl
  simp only [e]
  exact hk
variable {σ : Nat → Option Blk} {dr : Bool}
theorem s_rows1 {x : X} {p : Tok × List Nat} (h0 : x.ev ρ = nats p.1 p.2) (hk : wps P dr c0 r ⟨upd ρ i (.sl (.id c) 1 (rowsV [p])), σ, c + 1⟩ K) : wps P dr c0 (⟨some i, .bsl true 1 1 [.slice none 0 0] [(0, (1, x))], none⟩ :: r) ⟨ρ, σ, c⟩ K := by
  refine s_eff rfl (by intros; exact fun h => by cases h) (by intros; exact fun h => by cases h) ⟨_, _, _, none, .bsl (cs := rowsV [p]) ?_, hk⟩
  simp only [partsOf, List.map, h0]
  rfl
theorem s_rows2 {x y : X} {p q : Tok × List Nat} (h0 : x.ev ρ = nats p.1 p.2) (h1 : y.ev ρ = nats q.1 q.2) (hk : wps P dr c0 r ⟨upd ρ i (.sl (.id c) 1 (rowsV [p, q])), σ, c + 1⟩ K) : wps P dr c0 (⟨some i, .bsl true 1 2 [.slice none 0 0] [(0, (1, x)), (1, (1, y))], none⟩ :: r) ⟨ρ, σ, c⟩ K := by
  refine s_eff rfl (by intros; exact fun h => by cases h) (by intros; exact fun h => by cases h) ⟨_, _, _, none, .bsl (cs := rowsV [p, q]) ?_, hk⟩
  simp only [partsOf, List.map, h0, h1]
  rfl
theorem s_rows3 {x y z : X} {p q s : Tok × List Nat} (h0 : x.ev ρ = nats p.1 p.2) (h1 : y.ev ρ = nats q.1 q.2) (h2 : z.ev ρ = nats s.1 s.2) (hk : wps P dr c0 r ⟨upd ρ i (.sl (.id c) 1 (rowsV [p, q, s])), σ, c + 1⟩ K) : wps P dr c0 (⟨some i, .bsl true 1 3 [.slice none 0 0] [(0, (1, x)), (1, (1, y)), (2, (1, z))], none⟩ :: r) ⟨ρ, σ, c⟩ K := by
  refine s_eff rfl (by intros; exact fun h => by cases h) (by intros; exact fun h => by cases h) ⟨_, _, _, none, .bsl (cs := rowsV [p, q, s]) ?_, hk⟩
  simp only [partsOf, List.map, h0, h1, h2]
  rfl
end

/-- the answers of 'Root', in memory of their own -/
def RootO (c c' A0 k : Nat) (r : V) : Prop := (bl A0 ≤ 67108864 ∧ ∃ x t1 t2, IsRoot A0 k x ∧ r = .tup [nats t1 (digs 18446744073709551616 x), nats t2 (digs 18446744073709551616 (A0 - x ^ k)), iv 0] ∧ Row1 c c' t1 (digs 18446744073709551616 x) ∧ Row1 c c' t2 (digs 18446744073709551616 (A0 - x ^ k)) ∧ Apt t1 t2) ∨ (67108864 < bl A0 ∧ r = .tup [nil1, nil1, iv 3])
theorem apt_next (c : Nat) : Apt (.id c) (.id (c + 1)) := fun i h1 h2 => by cases h1; cases h2
theorem rootO_of {c c' A0 k : Nat} {r : V} (hc : c ≤ c') (h : RootS c c' A0 k r) : RootO c c' A0 k r ∨ (Void r ∧ ∃ r2 c2, c ≤ c2 ∧ RootO c c2 A0 k r2) := by
  rcases h with ⟨hb, x, t1, t2, hx, rfl, h1, h2, h3⟩ | h
  · have bad : Void (.tup [nats t1 (digs 18446744073709551616 x), nats t2 (digs 18446744073709551616 (A0 - x ^ k)), iv 0]) → Void (.tup [nats t1 (digs 18446744073709551616 x), nats t2 (digs 18446744073709551616 (A0 - x ^ k)), iv 0]) ∧ ∃ r2 c2, c ≤ c2 ∧ RootO c c2 A0 k r2 := fun hv =>
      ⟨hv, _, c + 2, by omega, .inl ⟨hb, x, .id c, .id (c + 1), hx, rfl, .inr ⟨c, rfl, by omega, by omega⟩, .inr ⟨c + 1, rfl, by omega, by omega⟩, apt_next c⟩⟩
    rcases tk_nil_or (digs 18446744073709551616 x) h1 with g1 | ⟨rfl, g1⟩
    · rcases tk_nil_or (digs 18446744073709551616 (A0 - x ^ k)) h2 with g2 | ⟨rfl, g2⟩
      · exact .inl (.inl ⟨hb, x, t1, t2, hx, rfl, g1, g2, h3⟩)
      · exact .inr (bad (void_tup (by simp) g2))
    · exact .inr (bad (void_tup (by simp) g1))
  · exact .inl (.inr h)
theorem root_specO (t : Tok) (a : List Nat) (k : Int) (c : Nat) (ha : Lim 18446744073709551616 a) (hna : a.length ≤ 1099511627776) (hk : k < 9223372036854775808) :
    VSpec Try.prog F.roots_Root c [nats t a, iv k] (fun r c' => (k < 1 → r = .tup [nil1, nil1, iv 40]) ∧ (1 ≤ k → RootO c c' (val 18446744073709551616 a) k.toNat r)) := by
  refine VSpec.clean (root_specS t a k c ha hna hk) fun r c' hc ⟨h1, h2⟩ => ?_
  by_cases g : k < 1
  · exact .inl ⟨h1, fun h => by omega⟩
  · rcases rootO_of hc (h2 (by omega)) with h | ⟨hv, r2, c2, h3, h4⟩
    · exact .inl ⟨h1, fun _ => h⟩
    · exact .inr ⟨hv, r2, c2, h3, fun h => by omega, fun _ => h4⟩
theorem sqrt_specO (t : Tok) (a : List Nat) (c : Nat) (ha : Lim 18446744073709551616 a) (hna : a.length ≤ 1099511627776) :
    VSpec Try.prog F.roots_Sqrt c [nats t a] (fun r c' => RootO c c' (val 18446744073709551616 a) 2 r) :=
  VSpec.clean (sqrt_specS t a c ha hna) fun r c' hc h => rootO_of hc h
end Go.Proofs.Ytladcfeibpddeab
set_option linter.unusedSimpArgs false
set_option linter.unusedVariables false
set_option maxRecDepth 100000
set_option maxHeartbeats 8000000
namespace Go.Proofs.Ytladcfeibpddeab
open Go.VM

theorem b_eql {x y : Bool} : sbin .eql true (bv x) (bv y) = some (bv (x == y)) := rfl
theorem isRoot_two {A x : Nat} (h1 : x * x ≤ A) (h2 : A < (x + 1) * (x + 1)) : IsRoot A 2 x := ⟨by rw [Nat.pow_two]; exact h1, by rw [Nat.pow_two]; exact h2⟩

theorem root01_specT (t : Tok) (A0 c : Nat) (hA : bl A0 ≤ 67108864) :
    VSpec Try.prog F.surdref01_Root c [nats t (digs 4294967296 A0)] (fun r c' => ∃ tk x, r = nats tk (digs 4294967296 x) ∧ IsRoot A0 2 x ∧ Tk c c' tk) := by
  refine spec_mk hm E.surdref01_Root B.surdref01_Root K.surdref01_Root Q.surdref01_Root (by rw [N.surdref01_Root]; simp) ?_
  unfold C.surdref01_Root R.surdref01_Root
  (repeat (first | refine v_reg ?_ | refine v_last ?_ | refine vwp_seq ?_ | refine vwp_block ?_ | refine vwp_skip ?_ | refine vwp_exit ?_ | refine vwp_ret ?_ | refine v_cond ?_ | simp only [vm, ite_true, ite_false, eq_self, reduceIte, Nat.reduceEqDiff, Option.map] | refine And.intro (by omega) ?_))
  refine s_call (lenR t A0 c (by omega)) (by simp only [vm, ite_true, ite_false, eq_self, reduceIte, Nat.reduceEqDiff, Option.map, List.map]) ?_
  rintro v c1 hc1 rfl
  have eq1 : (bl A0 : Int) / 2 = ((bl A0 / 2 : Nat) : Int) := by omega
  (repeat (first | refine v_reg ?_ | refine v_last ?_ | refine vwp_seq ?_ | refine vwp_block ?_ | refine vwp_skip ?_ | refine vwp_exit ?_ | refine vwp_ret ?_ | refine v_cond ?_ | simp only [vm, ite_true, ite_false, eq_self, reduceIte, Nat.reduceEqDiff, Option.map, eq1] | refine And.intro (by omega) ?_))
  refine v_loop (fun S => ∃ tk x, S.ρ 3 = nats tk (digs 4294967296 x) ∧ IsRoot A0 2 x ∧ Tk c S.c tk ∧ c ≤ S.c) ?_ ?_
  · refine vwp_loop (fun q S => ∃ i tk x, q = i ∧ i ≤ bl A0 / 2 + 1 ∧ S.ρ 0 = nats t (digs 4294967296 A0) ∧ S.ρ 3 = nats tk (digs 4294967296 x) ∧ S.ρ 4 = iv ((i : Int) - 1) ∧ x * x ≤ A0 ∧ A0 < (x + 2 ^ i) * (x + 2 ^ i) ∧ Tk c S.c tk ∧ S.σ = noBlk ∧ c ≤ S.c) (bl A0 / 2 + 1) ?_ ?_
    · have e0 : ((bl A0 / 2 + 1 : Nat) : Int) - 1 = ((bl A0 / 2 : Nat) : Int) := by omega
      have h1 : A0 < 2 ^ (bl A0 / 2 + 1) * 2 ^ (bl A0 / 2 + 1) := by
        rw [← Nat.pow_add]
        exact Nat.lt_of_lt_of_le (lt_bl A0) (Nat.pow_le_pow_right (by decide) (by omega))
      refine ⟨bl A0 / 2 + 1, .nil, 0, rfl, Nat.le_refl _, ?_⟩
      rw [e0]
      simp only [vm, ite_true, ite_false, eq_self, reduceIte, Nat.reduceEqDiff, Option.map]
      (repeat' apply And.intro) <;> first | rfl | omega | assumption | exact h1 | exact .inl rfl
    rintro q ⟨ρ2, σ, c4⟩ ⟨i, tk, x, hq, hi, h0, h3, h4, hx1, hx2, htk, hσ, hc4⟩
    dsimp only at h0 h3 h4 htk hσ hc4
    subst hσ
    rcases Nat.eq_zero_or_pos i with rfl | hip
    · have g2 : ¬ (0 : Int) ≤ ((0 : Nat) : Int) - 1 := by omega
      rw [Nat.pow_zero] at hx2
      (repeat (first | refine v_reg ?_ | refine v_last ?_ | refine vwp_seq ?_ | refine vwp_block ?_ | refine vwp_skip ?_ | refine vwp_exit ?_ | refine vwp_ret ?_ | refine v_cond ?_ | simp only [vm, ite_true, ite_false, eq_self, reduceIte, Nat.reduceEqDiff, Option.map, h3, h4, g2] | refine And.intro (by omega) ?_))
      exact ⟨tk, x, rfl, isRoot_two hx1 hx2, htk, hc4⟩
    obtain ⟨j, rfl⟩ : ∃ j, i = j + 1 := ⟨i - 1, by omega⟩
    have e1 : (((j + 1 : Nat) : Int) - 1) = (j : Int) := by omega
    rw [e1] at h4
    have g2 : (0 : Int) ≤ (j : Int) := by omega
    have hxA : x ≤ A0 := Nat.le_trans (Nat.le_mul_self x) hx1
    have hbx : bl x ≤ 67108864 := Nat.le_trans (bl_mono hxA) hA
    have hb2 : bl (2 ^ j) ≤ 67108865 := Nat.le_trans (bl_le (k := j + 1) (Nat.pow_lt_pow_right (by decide) (by omega))) (by omega)
    have hbs := bl_add_le (m := x) (n := 2 ^ j) (k := 67108865) (by omega) hb2
    have hbm := bl_mul_le (x + 2 ^ j) (x + 2 ^ j)
    have hsum : x + 2 ^ j + 2 ^ j = x + 2 ^ (j + 1) := by rw [Nat.pow_succ]; omega
    (repeat (first | refine v_reg ?_ | refine v_last ?_ | refine vwp_seq ?_ | refine vwp_block ?_ | refine vwp_skip ?_ | refine vwp_exit ?_ | refine vwp_ret ?_ | refine v_cond ?_ | simp only [vm, ite_true, ite_false, eq_self, reduceIte, Nat.reduceEqDiff, Option.map, h0, h3, h4, g2] | refine And.intro (by omega) ?_))
    refine s_call (oneR c4) (by simp only [vm, ite_true, ite_false, eq_self, reduceIte, Nat.reduceEqDiff, Option.map, List.map]) ?_
    rintro v c5 hc5 ⟨j1, rfl, _, _⟩
    (repeat (first | refine v_reg ?_ | refine v_last ?_ | refine vwp_seq ?_ | refine vwp_block ?_ | refine vwp_skip ?_ | refine vwp_exit ?_ | refine vwp_ret ?_ | refine v_cond ?_ | simp only [vm, ite_true, ite_false, eq_self, reduceIte, Nat.reduceEqDiff, Option.map, h0, h3, h4] | refine And.intro (by omega) ?_))
    refine s_call (shlR (.id j1) 1 j c5 (by decide) (by decide) (by omega)) (by simp only [vm, ite_true, ite_false, eq_self, reduceIte, Nat.reduceEqDiff, Option.map, List.map, h4]) ?_
    rintro v c6 hc6 ⟨j2, rfl, _, _⟩
    rw [Nat.one_mul]
    (repeat (first | refine v_reg ?_ | refine v_last ?_ | refine vwp_seq ?_ | refine vwp_block ?_ | refine vwp_skip ?_ | refine vwp_exit ?_ | refine vwp_ret ?_ | refine v_cond ?_ | simp only [vm, ite_true, ite_false, eq_self, reduceIte, Nat.reduceEqDiff, Option.map, h0, h3, h4] | refine And.intro (by omega) ?_))
    refine s_call (addR tk (.id j2) x (2 ^ j) c6 (by omega) (by omega)) (by simp only [vm, ite_true, ite_false, eq_self, reduceIte, Nat.reduceEqDiff, Option.map, List.map, h3]) ?_
    rintro v c7 hc7 ⟨j3, rfl, hj3, hj3'⟩
    (repeat (first | refine v_reg ?_ | refine v_last ?_ | refine vwp_seq ?_ | refine vwp_block ?_ | refine vwp_skip ?_ | refine vwp_exit ?_ | refine vwp_ret ?_ | refine v_cond ?_ | simp only [vm, ite_true, ite_false, eq_self, reduceIte, Nat.reduceEqDiff, Option.map, h0, h3, h4] | refine And.intro (by omega) ?_))
    refine s_call (mulR (.id j3) (.id j3) (x + 2 ^ j) (x + 2 ^ j) c7 (by omega) (by omega)) (by simp only [vm, ite_true, ite_false, eq_self, reduceIte, Nat.reduceEqDiff, Option.map, List.map]) ?_
    rintro v c8 hc8 ⟨j4, rfl, _, _⟩
    (repeat (first | refine v_reg ?_ | refine v_last ?_ | refine vwp_seq ?_ | refine vwp_block ?_ | refine vwp_skip ?_ | refine vwp_exit ?_ | refine vwp_ret ?_ | refine v_cond ?_ | simp only [vm, ite_true, ite_false, eq_self, reduceIte, Nat.reduceEqDiff, Option.map, h0, h3, h4] | refine And.intro (by omega) ?_))
    refine s_call (cmpR (.id j4) t ((x + 2 ^ j) * (x + 2 ^ j)) A0 c8 (by omega) (by omega)) (by simp only [vm, ite_true, ite_false, eq_self, reduceIte, Nat.reduceEqDiff, Option.map, List.map, h0]) ?_
    rintro v c9 hc9 rfl
    by_cases g : cmpI ((x + 2 ^ j) * (x + 2 ^ j)) A0 ≤ 0
    · have h := cmpI_le.1 g
      (repeat (first | refine v_reg ?_ | refine v_last ?_ | refine vwp_seq ?_ | refine vwp_block ?_ | refine vwp_skip ?_ | refine vwp_exit ?_ | refine vwp_ret ?_ | refine v_cond ?_ | simp only [vm, ite_true, ite_false, eq_self, reduceIte, Nat.reduceEqDiff, Option.map, h0, h3, h4, g] | refine And.intro (by omega) ?_))
      exact ⟨j, by omega, j, .id j3, x + 2 ^ j, rfl, by omega, rfl, rfl, h, by rw [hsum]; exact hx2, .inr ⟨j3, rfl, by omega, by omega⟩, by omega⟩
    · have h : ¬ (x + 2 ^ j) * (x + 2 ^ j) ≤ A0 := fun h => g (cmpI_le.2 h)
      (repeat (first | refine v_reg ?_ | refine v_last ?_ | refine vwp_seq ?_ | refine vwp_block ?_ | refine vwp_skip ?_ | refine vwp_exit ?_ | refine vwp_ret ?_ | refine v_cond ?_ | simp only [vm, ite_true, ite_false, eq_self, reduceIte, Nat.reduceEqDiff, Option.map, h0, h3, h4, g] | refine And.intro (by omega) ?_))
      exact ⟨j, by omega, j, tk, x, rfl, by omega, rfl, rfl, hx1, by omega, htk.mono (by omega) (by omega), by omega⟩
  rintro ⟨ρ3, σ3, c5⟩ ⟨tk, x, h3, hx, htk, hc5⟩
  dsimp only at h3 htk hc5
  (repeat (first | refine v_reg ?_ | refine v_last ?_ | refine vwp_seq ?_ | refine vwp_block ?_ | refine vwp_skip ?_ | refine vwp_exit ?_ | refine vwp_ret ?_ | refine v_cond ?_ | simp only [vm, ite_true, ite_false, eq_self, reduceIte, Nat.reduceEqDiff, Option.map, h3] | refine And.intro (by omega) ?_))
  exact ⟨tk, x, rfl, hx, htk⟩
theorem root01_spec (t : Tok) (A0 c : Nat) (hA : bl A0 ≤ 67108864) :
    VSpec Try.prog F.surdref01_Root c [nats t (digs 4294967296 A0)] (fun r c' => ∃ tk x, r = nats tk (digs 4294967296 x) ∧ IsRoot A0 2 x) :=
  (root01_specT t A0 c hA).mono fun r c' ⟨tk, x, h1, h2, _⟩ => ⟨tk, x, h1, h2⟩

theorem root2_facts {A x : Nat} (h : IsRoot A 2 x) (hA : bl A ≤ 67108864) : bl x ≤ 67108864 ∧ x * x = x ^ 2 ∧ bl (x * x) ≤ 67108864 ∧ x * x ≤ A := by
  have h1 := h.1
  rw [Nat.pow_two] at h1
  exact ⟨Nat.le_trans (bl_mono (Nat.le_trans (Nat.le_mul_self x) h1)) hA, (Nat.pow_two x).symm, Nat.le_trans (bl_mono h1) hA, h1⟩
/-- the least number whose square is at least this -/
def ceilN (A x : Nat) : Nat := if x * x < A then x + 1 else x

theorem ceil_spec (t : Tok) (a : List Nat) (c : Nat) (ha : Lim 18446744073709551616 a) (hna : a.length ≤ 1099511627776) (hb : bl (val 18446744073709551616 a) ≤ 67108864) :
    VSpec Try.prog F.roots_Ceil c [nats t a] (fun r c' => ∃ x t1, IsRoot (val 18446744073709551616 a) 2 x ∧ r = .tup [nats t1 (digs 18446744073709551616 (ceilN (val 18446744073709551616 a) x)), iv 0] ∧ Tk c c' t1) := by
  refine spec_mk hm E.roots_Ceil B.roots_Ceil K.roots_Ceil Q.roots_Ceil (by rw [N.roots_Ceil]; simp) ?_
  unfold C.roots_Ceil R.roots_Ceil
  (repeat (first | refine v_reg ?_ | refine v_last ?_ | refine vwp_seq ?_ | refine vwp_block ?_ | refine vwp_skip ?_ | refine vwp_exit ?_ | refine vwp_ret ?_ | refine v_cond ?_ | simp only [vm, ite_true, ite_false, eq_self, reduceIte, Nat.reduceEqDiff, Option.map] | refine And.intro (by omega) ?_))
  refine s_call (sqrt_spec t a c ha hna) (by simp only [vm, ite_true, ite_false, eq_self, reduceIte, Nat.reduceEqDiff, Option.map, List.map]) ?_
  rintro v c1 hc1 (⟨_, x, t1, t2, hx, rfl, ht1, ht2⟩ | ⟨hb2, _⟩)
  rotate_left
  · omega
  obtain ⟨f1, f2, f3, f4⟩ := root2_facts hx hb
  have hs := Nat.le_trans (bl_mono (Nat.sub_le (val 18446744073709551616 a) (x ^ 2))) hb
  have hln : (digs 18446744073709551616 (val 18446744073709551616 a - x ^ 2)).length ≤ 1048576 := digs_len_bl (by omega)
  have hlx : (digs 18446744073709551616 x).length ≤ 1048576 := digs_len_bl (by omega)
  (repeat (first | refine v_reg ?_ | refine v_last ?_ | refine vwp_seq ?_ | refine vwp_block ?_ | refine vwp_skip ?_ | refine vwp_exit ?_ | refine vwp_ret ?_ | refine v_cond ?_ | simp only [vm, ite_true, ite_false, eq_self, reduceIte, Nat.reduceEqDiff, Option.map] | refine And.intro (by omega) ?_))
  refine s_call (length_spec t2 (digs 18446744073709551616 (val 18446744073709551616 a - x ^ 2)) c1 (lim_digs two64 _) (by omega)) (by simp only [vm, ite_true, ite_false, eq_self, reduceIte, Nat.reduceEqDiff, Option.map, List.map]) ?_
  rw [val_digs two64]
  rintro v c2 hc2 rfl
  by_cases g : (bl (val 18446744073709551616 a - x ^ 2) : Int) = 0
  · have h2 : val 18446744073709551616 a - x ^ 2 = 0 := bl_eq_zero.1 (by omega)
    have hc : ceilN (val 18446744073709551616 a) x = x := if_neg (by omega)
    (repeat (first | refine v_reg ?_ | refine v_last ?_ | refine vwp_seq ?_ | refine vwp_block ?_ | refine vwp_skip ?_ | refine vwp_exit ?_ | refine vwp_ret ?_ | refine v_cond ?_ | simp only [vm, ite_true, ite_false, eq_self, reduceIte, Nat.reduceEqDiff, Option.map, g] | refine And.intro (by omega) ?_))
    exact ⟨x, t1, hx, by rw [hc], ht1.mono (by omega) (by omega)⟩
  · have h2 : ¬ val 18446744073709551616 a - x ^ 2 = 0 := fun h => g (by rw [h]; rfl)
    have hc : ceilN (val 18446744073709551616 a) x = x + 1 := if_pos (by omega)
    have hle : x + 1 ≤ val 18446744073709551616 a := Nat.lt_of_le_of_lt (Nat.le_mul_self x) (by omega)
    have hb1 : bl (x + 1) ≤ 67108864 := Nat.le_trans (bl_mono hle) hb
    (repeat (first | refine v_reg ?_ | refine v_last ?_ | refine vwp_seq ?_ | refine vwp_block ?_ | refine vwp_skip ?_ | refine vwp_exit ?_ | refine vwp_ret ?_ | refine v_cond ?_ | simp only [vm, ite_true, ite_false, eq_self, reduceIte, Nat.reduceEqDiff, Option.map, g] | refine And.intro (by omega) ?_))
    refine s_call (from_spec 1 c2 (by decide)) (by simp only [vm, ite_true, ite_false, eq_self, reduceIte, Nat.reduceEqDiff, Option.map, List.map]) ?_
    rintro v c3 hc3 ⟨t3, rfl, ht3⟩
    have l1 : (digs 18446744073709551616 1).length ≤ 1 := digs_len two64 (by decide)
    (repeat (first | refine v_reg ?_ | refine v_last ?_ | refine vwp_seq ?_ | refine vwp_block ?_ | refine vwp_skip ?_ | refine vwp_exit ?_ | refine vwp_ret ?_ | refine v_cond ?_ | simp only [vm, ite_true, ite_false, eq_self, reduceIte, Nat.reduceEqDiff, Option.map] | refine And.intro (by omega) ?_))
    refine s_call (add_spec t1 t3 (digs 18446744073709551616 x) (digs 18446744073709551616 1) c3 (lim_digs two64 _) (lim_digs two64 _) (by omega) (by omega)) (by simp only [vm, ite_true, ite_false, eq_self, reduceIte, Nat.reduceEqDiff, Option.map, List.map]) ?_
    rw [val_digs two64, val_digs two64]
    rintro v c4 hc4 (⟨_, t4, rfl, ht4⟩ | ⟨hb4, _⟩)
    · (repeat (first | refine v_reg ?_ | refine v_last ?_ | refine vwp_seq ?_ | refine vwp_block ?_ | refine vwp_skip ?_ | refine vwp_exit ?_ | refine vwp_ret ?_ | refine v_cond ?_ | simp only [vm, ite_true, ite_false, eq_self, reduceIte, Nat.reduceEqDiff, Option.map] | refine And.intro (by omega) ?_))
      exact ⟨x, t4, hx, by rw [hc], ht4.mono (by omega) (by omega)⟩
    · omega

theorem isSquare_spec (t : Tok) (a : List Nat) (c : Nat) (ha : Lim 18446744073709551616 a) (hna : a.length ≤ 1099511627776) (hb : bl (val 18446744073709551616 a) ≤ 67108864) :
    VSpec Try.prog F.roots_IsSquare c [nats t a] (fun r c' => ∃ x, IsRoot (val 18446744073709551616 a) 2 x ∧ r = .tup [bv (decide (val 18446744073709551616 a - x ^ 2 = 0)), iv 0]) := by
  refine spec_mk hm E.roots_IsSquare B.roots_IsSquare K.roots_IsSquare Q.roots_IsSquare (by rw [N.roots_IsSquare]; simp) ?_
  unfold C.roots_IsSquare R.roots_IsSquare
  (repeat (first | refine v_reg ?_ | refine v_last ?_ | refine vwp_seq ?_ | refine vwp_block ?_ | refine vwp_skip ?_ | refine vwp_exit ?_ | refine vwp_ret ?_ | refine v_cond ?_ | simp only [vm, ite_true, ite_false, eq_self, reduceIte, Nat.reduceEqDiff, Option.map] | refine And.intro (by omega) ?_))
  refine s_call (sqrt_spec t a c ha hna) (by simp only [vm, ite_true, ite_false, eq_self, reduceIte, Nat.reduceEqDiff, Option.map, List.map]) ?_
  rintro v c1 hc1 (⟨_, x, t1, t2, hx, rfl, ht1, ht2⟩ | ⟨hb2, _⟩)
  rotate_left
  · omega
  have hs := Nat.le_trans (bl_mono (Nat.sub_le (val 18446744073709551616 a) (x ^ 2))) hb
  have hln : (digs 18446744073709551616 (val 18446744073709551616 a - x ^ 2)).length ≤ 1048576 := digs_len_bl (by omega)
  (repeat (first | refine v_reg ?_ | refine v_last ?_ | refine vwp_seq ?_ | refine vwp_block ?_ | refine vwp_skip ?_ | refine vwp_exit ?_ | refine vwp_ret ?_ | refine v_cond ?_ | simp only [vm, ite_true, ite_false, eq_self, reduceIte, Nat.reduceEqDiff, Option.map] | refine And.intro (by omega) ?_))
  refine s_call (length_spec t2 (digs 18446744073709551616 (val 18446744073709551616 a - x ^ 2)) c1 (lim_digs two64 _) (by omega)) (by simp only [vm, ite_true, ite_false, eq_self, reduceIte, Nat.reduceEqDiff, Option.map, List.map]) ?_
  rw [val_digs two64]
  rintro v c2 hc2 rfl
  by_cases g : (bl (val 18446744073709551616 a - x ^ 2) : Int) = 0
  · have h2 : val 18446744073709551616 a - x ^ 2 = 0 := bl_eq_zero.1 (by omega)
    (repeat (first | refine v_reg ?_ | refine v_last ?_ | refine vwp_seq ?_ | refine vwp_block ?_ | refine vwp_skip ?_ | refine vwp_exit ?_ | refine vwp_ret ?_ | refine v_cond ?_ | simp only [vm, ite_true, ite_false, eq_self, reduceIte, Nat.reduceEqDiff, Option.map, g] | refine And.intro (by omega) ?_))
    exact ⟨x, hx, by rw [decide_eq_true h2]⟩
  · have h2 : ¬ val 18446744073709551616 a - x ^ 2 = 0 := fun h => g (by rw [h]; rfl)
    (repeat (first | refine v_reg ?_ | refine v_last ?_ | refine vwp_seq ?_ | refine vwp_block ?_ | refine vwp_skip ?_ | refine vwp_exit ?_ | refine vwp_ret ?_ | refine v_cond ?_ | simp only [vm, ite_true, ite_false, eq_self, reduceIte, Nat.reduceEqDiff, Option.map, g] | refine And.intro (by omega) ?_))
    exact ⟨x, hx, by rw [decide_eq_false h2]⟩
theorem ceil_own {c c' : Nat} {r : V} {A0 : Nat} (hc : c ≤ c') (h : ∃ x t1, IsRoot A0 2 x ∧ r = .tup [nats t1 (digs 18446744073709551616 (ceilN A0 x)), iv 0] ∧ Tk c c' t1) :
    (∃ x t1, IsRoot A0 2 x ∧ r = .tup [nats t1 (digs 18446744073709551616 (ceilN A0 x)), iv 0] ∧ Row1 c c' t1 (digs 18446744073709551616 (ceilN A0 x))) ∨ (Void r ∧ ∃ (r2 : V) (c2 : Nat), c ≤ c2 ∧ ∃ x t1, IsRoot A0 2 x ∧ r2 = .tup [nats t1 (digs 18446744073709551616 (ceilN A0 x)), iv 0] ∧ Row1 c c2 t1 (digs 18446744073709551616 (ceilN A0 x))) := by
  obtain ⟨x, t1, hx, rfl, h1⟩ := h
  rcases tk_nil_or (digs 18446744073709551616 (ceilN A0 x)) h1 with g | ⟨rfl, g⟩
  · exact .inl ⟨x, t1, hx, rfl, g⟩
  · exact .inr ⟨void_tup (by simp) g, _, c + 1, by omega, x, .id c, hx, rfl, .inr ⟨c, rfl, by omega, by omega⟩⟩
theorem apt_row {a b c d : Nat} {t u : Tok} {l m : List Nat} (h : Row1 a b t l) (h' : Row1 c d u m) (hbc : b ≤ c) : Apt t u := fun i e e' => by
  rcases h with ⟨rfl, _⟩ | ⟨j, rfl, _, h2⟩
  · cases e
  · rcases h' with ⟨rfl, _⟩ | ⟨k, rfl, h3, _⟩
    · cases e'
    · cases e; cases e'; omega

end Go.Proofs.Ytladcfeibpddeab
set_option linter.unusedSimpArgs false
set_option linter.unusedVariables false
set_option maxRecDepth 100000
set_option maxHeartbeats 8000000
namespace Go.Proofs.Ytladcfeibpddeab
open Go.VM

/-- 'Perfect', no more than that it answers a number in memory of its own -/
theorem perfect_any (t : Tok) (a : List Nat) (c : Nat) (ha : Lim 18446744073709551616 a) (hna : a.length ≤ 1099511627776) (hb : bl (val 18446744073709551616 a) ≤ 67108864) :
    VSpec Try.prog F.roots_Perfect c [nats t a] (fun r c' => ∃ (k : Int) (tk : Tok) (l : List Nat), r = .tup [nats tk l, iv k, iv 0] ∧ Tk c c' tk ∧ l.length ≤ 1048576) := by
  refine spec_mk hm E.roots_Perfect B.roots_Perfect K.roots_Perfect Q.roots_Perfect (by rw [N.roots_Perfect]; simp) ?_
  unfold C.roots_Perfect R.roots_Perfect
  (repeat (first | refine v_reg ?_ | refine v_last ?_ | refine vwp_seq ?_ | refine vwp_block ?_ | refine vwp_skip ?_ | refine vwp_exit ?_ | refine vwp_ret ?_ | refine v_cond ?_ | simp only [vm, ite_true, ite_false, eq_self, reduceIte, Nat.reduceEqDiff, Option.map] | refine And.intro (by omega) ?_))
  refine s_call (fits_spec t a c ha hna) (by simp only [vm, ite_true, ite_false, eq_self, reduceIte, Nat.reduceEqDiff, Option.map, List.map]) ?_
  rintro v c1 hc1 (⟨_, t1, rfl, ht1⟩ | ⟨hb2, _⟩)
  rotate_left
  · omega
  obtain ⟨A0, hA0⟩ : ∃ A0, A0 = val 18446744073709551616 a := ⟨_, rfl⟩
  rw [← hA0] at hb ⊢
  have hla := lim_digs two64 A0
  have va := val_digs two64 A0
  have hnA : (digs 18446744073709551616 A0).length ≤ 1048576 := digs_len_bl (by omega)
  generalize digs 18446744073709551616 A0 = x at *
  (repeat (first | refine v_reg ?_ | refine v_last ?_ | refine vwp_seq ?_ | refine vwp_block ?_ | refine vwp_skip ?_ | refine vwp_exit ?_ | refine vwp_ret ?_ | refine v_cond ?_ | simp only [vm, ite_true, ite_false, eq_self, reduceIte, Nat.reduceEqDiff, Option.map] | refine And.intro (by omega) ?_))
  refine s_call (length_spec t1 x c1 hla (by omega)) (by simp only [vm, ite_true, ite_false, eq_self, reduceIte, Nat.reduceEqDiff, Option.map, List.map]) ?_
  rw [va]
  rintro v c2 hc2 rfl
  by_cases g1 : (bl A0 : Int) ≤ 1
  · (repeat (first | refine v_reg ?_ | refine v_last ?_ | refine vwp_seq ?_ | refine vwp_block ?_ | refine vwp_skip ?_ | refine vwp_exit ?_ | refine vwp_ret ?_ | refine v_cond ?_ | simp only [vm, ite_true, ite_false, eq_self, reduceIte, Nat.reduceEqDiff, Option.map, g1] | refine And.intro (by omega) ?_))
    exact ⟨1, t1, x, rfl, ht1.mono (by omega) (by omega), by omega⟩
  (repeat (first | refine v_reg ?_ | refine v_last ?_ | refine vwp_seq ?_ | refine vwp_block ?_ | refine vwp_skip ?_ | refine vwp_exit ?_ | refine vwp_ret ?_ | refine v_cond ?_ | simp only [vm, ite_true, ite_false, eq_self, reduceIte, Nat.reduceEqDiff, Option.map, g1] | refine And.intro (by omega) ?_))
  refine v_loopR (fun S => S.ρ 0 = nats t1 x ∧ c2 ≤ S.c) ?_ ?_
  · refine vwp_loop (fun q S => ∃ i, q = bl A0 - i ∧ i ≤ bl A0 ∧ S.ρ 0 = nats t1 x ∧ S.ρ 6 = iv (bl A0 : Int) ∧ S.ρ 25 = iv (bl A0 : Int) ∧ S.ρ 26 = iv (i : Int) ∧ S.σ = noBlk ∧ c2 ≤ S.c) (bl A0) ?_ ?_
    · refine ⟨0, rfl, Nat.zero_le _, ?_⟩
      simp only [vm, ite_true, ite_false, eq_self, reduceIte, Nat.reduceEqDiff, Option.map]
      (repeat' apply And.intro) <;> first | rfl | omega | assumption
    rintro q ⟨ρ2, σ, c4⟩ ⟨i, hq, hi, h0, h6, h25, h26, hσ, hc4⟩
    dsimp only at h0 h6 h25 h26 hσ hc4
    subst hσ
    by_cases g2 : (i : Int) < bl A0
    · have e1 : (bl A0 : Int) - (i : Int) = ((bl A0 - i : Nat) : Int) := by omega
      have e2 : (i : Int) + 1 = ((i + 1 : Nat) : Int) := by omega
      (repeat (first | refine v_reg ?_ | refine v_last ?_ | refine vwp_seq ?_ | refine vwp_block ?_ | refine vwp_skip ?_ | refine vwp_exit ?_ | refine vwp_ret ?_ | refine v_cond ?_ | simp only [vm, ite_true, ite_false, eq_self, reduceIte, Nat.reduceEqDiff, Option.map, h0, h6, h25, h26, g2, e1] | refine And.intro (by omega) ?_))
      refine s_call (root_spec t1 x ((bl A0 - i : Nat) : Int) c4 hla (by omega) (by omega)) (by simp only [vm, ite_true, ite_false, eq_self, reduceIte, Nat.reduceEqDiff, Option.map, List.map, h0]) ?_
      rintro v c5 hc5 ⟨_, h⟩
      rw [va] at h
      rcases h (by omega) with ⟨_, y, t3, t4, hy, rfl, h3, h4⟩ | ⟨hb2, _⟩
      rotate_left
      · omega
      have hyA : y ≤ A0 := Nat.le_trans (Nat.le_self_pow (by omega) y) hy.1
      have hby := Nat.le_trans (bl_mono hyA) hb
      have hbs := Nat.le_trans (bl_mono (Nat.sub_le A0 (y ^ ((bl A0 - i : Nat) : Int).toNat))) hb
      have ly : (digs 18446744073709551616 y).length ≤ 1048576 := digs_len_bl (by omega)
      have ls : (digs 18446744073709551616 (A0 - y ^ ((bl A0 - i : Nat) : Int).toNat)).length ≤ 1048576 := digs_len_bl (by omega)
      generalize A0 - y ^ ((bl A0 - i : Nat) : Int).toNat = z at *
      (repeat (first | refine v_reg ?_ | refine v_last ?_ | refine vwp_seq ?_ | refine vwp_block ?_ | refine vwp_skip ?_ | refine vwp_exit ?_ | refine vwp_ret ?_ | refine v_cond ?_ | simp only [vm, ite_true, ite_false, eq_self, reduceIte, Nat.reduceEqDiff, Option.map, h0, h6, h25, h26] | refine And.intro (by omega) ?_))
      refine s_call (length_spec t4 (digs 18446744073709551616 z) c5 (lim_digs two64 _) (by omega)) (by simp only [vm, ite_true, ite_false, eq_self, reduceIte, Nat.reduceEqDiff, Option.map, List.map]) ?_
      rw [val_digs two64]
      rintro v c6 hc6 rfl
      by_cases g3 : (bl z : Int) = 0
      · (repeat (first | refine v_reg ?_ | refine v_last ?_ | refine vwp_seq ?_ | refine vwp_block ?_ | refine vwp_skip ?_ | refine vwp_exit ?_ | refine vwp_ret ?_ | refine v_cond ?_ | simp only [vm, ite_true, ite_false, eq_self, reduceIte, Nat.reduceEqDiff, Option.map, h0, h6, h25, h26, g3] | refine And.intro (by omega) ?_))
        refine s_call (length_spec t3 (digs 18446744073709551616 y) c6 (lim_digs two64 _) (by omega)) (by simp only [vm, ite_true, ite_false, eq_self, reduceIte, Nat.reduceEqDiff, Option.map, List.map]) ?_
        rw [val_digs two64]
        rintro v c7 hc7 rfl
        by_cases g4 : (1 : Int) < (bl y : Int)
        · (repeat (first | refine v_reg ?_ | refine v_last ?_ | refine vwp_seq ?_ | refine vwp_block ?_ | refine vwp_skip ?_ | refine vwp_exit ?_ | refine vwp_ret ?_ | refine v_cond ?_ | simp only [vm, ite_true, ite_false, eq_self, reduceIte, Nat.reduceEqDiff, Option.map, g4] | refine And.intro (by omega) ?_))
          exact ⟨_, t3, digs 18446744073709551616 y, rfl, h3.mono (by omega) (by omega), by omega⟩
        · (repeat (first | refine v_reg ?_ | refine v_last ?_ | refine vwp_seq ?_ | refine vwp_block ?_ | refine vwp_skip ?_ | refine vwp_exit ?_ | refine vwp_ret ?_ | refine v_cond ?_ | simp only [vm, ite_true, ite_false, eq_self, reduceIte, Nat.reduceEqDiff, Option.map, h0, h6, h25, h26, g4, e2] | refine And.intro (by omega) ?_))
          exact ⟨bl A0 - (i + 1), by omega, i + 1, rfl, by omega, rfl, by omega⟩
      · (repeat (first | refine v_reg ?_ | refine v_last ?_ | refine vwp_seq ?_ | refine vwp_block ?_ | refine vwp_skip ?_ | refine vwp_exit ?_ | refine vwp_ret ?_ | refine v_cond ?_ | simp only [vm, ite_true, ite_false, eq_self, reduceIte, Nat.reduceEqDiff, Option.map, h0, h6, h25, h26, g3, e2] | refine And.intro (by omega) ?_))
        exact ⟨bl A0 - (i + 1), by omega, i + 1, rfl, by omega, rfl, by omega⟩
    · (repeat (first | refine v_reg ?_ | refine v_last ?_ | refine vwp_seq ?_ | refine vwp_block ?_ | refine vwp_skip ?_ | refine vwp_exit ?_ | refine vwp_ret ?_ | refine v_cond ?_ | simp only [vm, ite_true, ite_false, eq_self, reduceIte, Nat.reduceEqDiff, Option.map, h0, h6, h25, h26, g2] | refine And.intro (by omega) ?_))
      exact hc4
  rintro ⟨ρ3, σ, c5⟩ ⟨h0, hc5⟩
  dsimp only at h0 hc5
  (repeat (first | refine v_reg ?_ | refine v_last ?_ | refine vwp_seq ?_ | refine vwp_block ?_ | refine vwp_skip ?_ | refine vwp_exit ?_ | refine vwp_ret ?_ | refine v_cond ?_ | simp only [vm, ite_true, ite_false, eq_self, reduceIte, Nat.reduceEqDiff, Option.map, h0] | refine And.intro (by omega) ?_))
  exact ⟨1, t1, x, rfl, ht1.mono (by omega) (by omega), by omega⟩
theorem perfect_own (t : Tok) (a : List Nat) (c : Nat) (ha : Lim 18446744073709551616 a) (hna : a.length ≤ 1099511627776) (hb : bl (val 18446744073709551616 a) ≤ 67108864) :
    VSpec Try.prog F.roots_Perfect c [nats t a] (fun r c' => ∃ (k : Int) (tk : Tok) (l : List Nat), r = .tup [nats tk l, iv k, iv 0] ∧ Row1 c c' tk l ∧ l.length ≤ 1048576) := by
  refine VSpec.clean (perfect_any t a c ha hna hb) ?_
  rintro r c' hc ⟨k, tk, l, rfl, h1, h2⟩
  rcases tk_nil_or l h1 with g | ⟨rfl, g⟩
  · exact .inl ⟨k, tk, l, rfl, g, h2⟩
  · exact .inr ⟨void_tup (by simp) g, _, c + 1, by omega, k, .id c, l, rfl, .inr ⟨c, rfl, by omega, by omega⟩, h2⟩

theorem copy_spec (t : Tok) (a : List Nat) (c : Nat) (hna : a.length ≤ 1099511627776) :
    VSpec Try.prog F.surdref01_Copy c [nats t a] (fun r c' => ∃ i, r = nats (.id i) a ∧ c ≤ i ∧ i < c') := by
  refine spec_mk hm E.surdref01_Copy B.surdref01_Copy K.surdref01_Copy Q.surdref01_Copy (by rw [N.surdref01_Copy]; simp) ?_
  unfold C.surdref01_Copy R.surdref01_Copy
  (repeat (first | refine v_reg ?_ | refine v_last ?_ | refine vwp_seq ?_ | refine vwp_block ?_ | refine vwp_skip ?_ | refine vwp_exit ?_ | refine vwp_ret ?_ | refine v_cond ?_ | simp only [vm, ite_true, ite_false, eq_self, reduceIte, Nat.reduceEqDiff, Option.map] | refine And.intro (by omega) ?_))
  refine s_mk (n := a.length) (m := a.length) (by simp only [vm, ite_true, ite_false, eq_self, reduceIte, Nat.reduceEqDiff, Option.map]) (by simp only [vm, ite_true, ite_false, eq_self, reduceIte, Nat.reduceEqDiff, Option.map]) (Nat.le_refl _) (by omega) ?_
  (repeat (first | refine v_reg ?_ | refine v_last ?_ | refine vwp_seq ?_ | refine vwp_block ?_ | refine vwp_skip ?_ | refine vwp_exit ?_ | refine vwp_ret ?_ | refine v_cond ?_ | simp only [vm, ite_true, ite_false, eq_self, reduceIte, Nat.reduceEqDiff, Option.map] | refine And.intro (by omega) ?_))
  refine v_loop (fun S => S.ρ 3 = .buf c 0 a.length (some a.length) 1 ∧ S.σ = supd noBlk c (nblk a) ∧ c + 1 ≤ S.c) ?_ ?_
  · refine vwp_loop (fun k S => ∃ i, k = a.length - i ∧ i ≤ a.length ∧ S.ρ 9 = nats t a ∧ S.ρ 10 = iv (a.length : Int) ∧ S.ρ 11 = iv (i : Int) ∧ S.ρ 3 = .buf c 0 a.length (some a.length) 1 ∧ S.σ = supd noBlk c (nblk (a.take i ++ List.replicate (a.length - i) 0)) ∧ c + 1 ≤ S.c) a.length ?_ ?_
    · refine ⟨0, by omega, by omega, ?_⟩
      simp only [vm, ite_true, ite_false, eq_self, reduceIte, Nat.reduceEqDiff, Option.map]
      (repeat' apply And.intro) <;> first | rfl | omega | assumption | (simp; done)
    rintro k ⟨ρ2, σ, c4⟩ ⟨i, hk, hi, h9, h10, h11, h3, hσ, hc4⟩
    dsimp only at h9 h10 h11 h3 hσ hc4
    subst hσ
    by_cases g : (i : Int) < a.length
    · have hi' : i < a.length := by omega
      have e1 : (i : Int) + 1 = ((i + 1 : Nat) : Int) := by omega
      have hlen : (a.take i ++ List.replicate (a.length - i) 0).length = a.length := by simp; omega
      have hset : (a.take i ++ List.replicate (a.length - i) 0).set i (a.getD i 0) = a.take (i + 1) ++ List.replicate (a.length - (i + 1)) 0 := by
        have := set_fill (a.take i) (a.length - (i + 1)) (a.getD i 0)
        rw [List.length_take, Nat.min_eq_left hi] at this
        rw [show a.length - i = a.length - (i + 1) + 1 by omega, this, take_snoc hi']
      (repeat (first | refine v_reg ?_ | refine v_last ?_ | refine vwp_seq ?_ | refine vwp_block ?_ | refine vwp_skip ?_ | refine vwp_exit ?_ | refine vwp_ret ?_ | refine v_cond ?_ | simp only [vm, ite_true, ite_false, eq_self, reduceIte, Nat.reduceEqDiff, Option.map, h9, h10, h11, h3, g, hlen, hset, e1] | refine And.intro (by omega) ?_))
      exact ⟨a.length - (i + 1), by omega, i + 1, rfl, by omega, rfl, rfl, hc4⟩
    · have hi' : i = a.length := by omega
      subst hi'
      (repeat (first | refine v_reg ?_ | refine v_last ?_ | refine vwp_seq ?_ | refine vwp_block ?_ | refine vwp_skip ?_ | refine vwp_exit ?_ | refine vwp_ret ?_ | refine v_cond ?_ | simp only [vm, ite_true, ite_false, eq_self, reduceIte, Nat.reduceEqDiff, Option.map, h9, h10, h11, h3, g] | refine And.intro (by omega) ?_))
      have e0 : a.take a.length ++ List.replicate (a.length - a.length) 0 = a := by simp
      rw [e0]
      (repeat' apply And.intro) <;> first | rfl | omega | assumption | exact True.intro
  rintro ⟨ρ3, σ, c5⟩ ⟨h3, hσ, hc5⟩
  dsimp only at h3 hσ hc5
  subst hσ
  refine v_freeze 3 (t := c) (off := 0) (n := a.length) (cap := some a.length) (l := a) (by simp only [vm, ite_true, ite_false, eq_self, reduceIte, Nat.reduceEqDiff, Option.map, h3]) (by simp only [vm, ite_true, ite_false, eq_self, reduceIte, Nat.reduceEqDiff, Option.map]) (by omega) (by omega) ?_
  rw [List.drop_zero, List.take_length]
  (repeat (first | refine v_reg ?_ | refine v_last ?_ | refine vwp_seq ?_ | refine vwp_block ?_ | refine vwp_skip ?_ | refine vwp_exit ?_ | refine vwp_ret ?_ | refine v_cond ?_ | simp only [vm, ite_true, ite_false, eq_self, reduceIte, Nat.reduceEqDiff, Option.map] | refine And.intro (by omega) ?_))
  exact ⟨c, rfl, by omega, by omega⟩

/-! ### rows that lie on both sides of their list -/
theorem ownable_of2 {c0 lo hi tL : Nat} {ps : List (Tok × List Nat)} (hc : c0 ≤ lo) (h0 : 0 < ps.length) (h1 : ps.length ≤ 1000000) (hp : ∀ p ∈ ps, Row1 lo hi p.1 p.2 ∧ p.2.length ≤ 4398046511104) (hl : lo ≤ tL) (hne : ∀ p ∈ ps, p.1 ≠ .id tL) (ha : ps.Pairwise (fun p q => Apt p.1 q.1)) : ownable c0 tL (rowsV ps) = true := by
  simp only [ownable, Bool.and_eq_true, decide_eq_true_eq, List.all_eq_true]
  have hid : ∀ i ∈ ids (rowsV ps), lo ≤ i ∧ i ≠ tL := fun i hi => by
    obtain ⟨p, hpm, e⟩ := mem_ids hi
    rcases (hp p hpm).1 with ⟨e1, _⟩ | ⟨j, e1, h3, h4⟩
    · rw [e] at e1; cases e1
    · rw [e] at e1; cases e1; exact ⟨h3, fun q => hne p hpm (by rw [e, q])⟩
  refine ⟨⟨⟨⟨by simpa using h0, by simpa using h1⟩, fun x hx => ?_⟩, fun t ht => ?_⟩, nodup_nodupB (List.nodup_cons.2 ⟨fun h => ?_, ids_nodup ha⟩)⟩
  · obtain ⟨p, hpm, rfl⟩ := List.mem_map.1 hx
    obtain ⟨t, l⟩ := p
    obtain ⟨h2, h3⟩ := hp _ hpm
    rcases h2 with ⟨e1, e2⟩ | ⟨i, e1, _⟩
    · simp only at e1 e2; subst e1 e2; rfl
    · simp only at e1 h3; subst e1
      simp [rowable, h3]
  · rcases List.mem_cons.1 ht with rfl | h
    · omega
    · have := hid t h; omega
  · exact (hid tL h).2 rfl
theorem thawL_kn2 {lo hi tL : Nat} {ps : List (Tok × List Nat)} (hp : ∀ p ∈ ps, Row1 lo hi p.1 p.2 ∧ p.2.length ≤ 4398046511104) (hl : lo ≤ tL) {t : Tok} {l : List Nat} (h : Kn lo t) : V.thawL (tL :: ids (rowsV ps)) (nats t l) = nats t l := by
  refine thawL_nats fun q hq => ?_
  have hq : lo ≤ q := by
    rcases List.mem_cons.1 hq with rfl | h
    · exact hl
    · obtain ⟨p, hpm, e⟩ := mem_ids h
      rcases (hp p hpm).1 with ⟨e1, _⟩ | ⟨j, e1, h3, h4⟩
      · rw [e] at e1; cases e1
      · rw [e] at e1; cases e1; exact h3
  rcases h with rfl | ⟨i, rfl | rfl, hi⟩
  · rfl
  · exact beq_no (by omega)
  · exact beq_no (by omega)
section
variable {P : Program} {c0 : Nat} {ρ : Nat → V} {c i : Nat} {r : List VO} {K : VS → Prop}
theorem s_own2 {f : FuncId} {x : X} {tL lo hi : Nat} {b : Blk} {ps : List (Tok × List Nat)} (hf : OwnSpec P f) (hx : x.ev ρ = .sl (.id tL) 1 (rowsV ps)) (hc : c0 ≤ lo) (h0 : 0 < ps.length) (h1 : ps.length ≤ 1000000) (hp : ∀ p ∈ ps, Row1 lo hi p.1 p.2 ∧ p.2.length ≤ 4398046511104) (hl : lo ≤ tL) (hne : ∀ p ∈ ps, p.1 ≠ .id tL) (ha : ps.Pairwise (fun p q => Apt p.1 q.1))
    (hk : wps P false c0 r ⟨upd (kill (some (.inr (tL :: ids (rowsV ps)))) ρ) i (bv true), noBlk, c⟩ K) : wps P false c0 (⟨some i, .call f [x], none⟩ :: r) ⟨ρ, supd noBlk tL (some b), c⟩ K := by
  show opS P false c0 (.call f [x]) (some i) _ _
  refine ⟨_, _, _, _, .own rfl hf hx (ownable_of2 hc h0 h1 hp hl hne ha), ?_⟩
  have e : (fun t => if (tL :: ids (rowsV ps)).contains t = true then none else ((supd noBlk tL (some b)) t).map fun b => (⟨b.cells.map (V.thawL (tL :: ids (rowsV ps))), b.live⟩ : Blk)) = noBlk := by
    funext t
    split
    · rfl
    · rename_i h
      have : t ≠ tL := by rintro rfl; simp at h
      rw [supd_ne _ _ _ _ this]
      rfl
  simp only [e]
  exact hk
variable {σ : Nat → Option Blk} {dr : Bool}
theorem s_rows6 {x0 x1 x2 x3 x4 x5 : X} {p0 p1 p2 p3 p4 p5 : Tok × List Nat} (h0 : x0.ev ρ = nats p0.1 p0.2) (h1 : x1.ev ρ = nats p1.1 p1.2) (h2 : x2.ev ρ = nats p2.1 p2.2) (h3 : x3.ev ρ = nats p3.1 p3.2) (h4 : x4.ev ρ = nats p4.1 p4.2) (h5 : x5.ev ρ = nats p5.1 p5.2)
    (hk : wps P dr c0 r ⟨upd ρ i (.sl (.id c) 1 (rowsV [p0, p1, p2, p3, p4, p5])), σ, c + 1⟩ K) : wps P dr c0 (⟨some i, .bsl true 1 6 [.slice none 0 0] [(0, (1, x0)), (1, (1, x1)), (2, (1, x2)), (3, (1, x3)), (4, (1, x4)), (5, (1, x5))], none⟩ :: r) ⟨ρ, σ, c⟩ K := by
  refine s_eff rfl (by intros; exact fun h => by cases h) (by intros; exact fun h => by cases h) ⟨_, _, _, none, .bsl (cs := rowsV [p0, p1, p2, p3, p4, p5]) ?_, hk⟩
  simp only [partsOf, List.map, h0, h1, h2, h3, h4, h5]
  rfl
theorem s_app0R {x y : X} {u : Tok} {qs : List (Tok × List Nat)} (hx : x.ev ρ = nil1) (hy : y.ev ρ = .sl u 1 (rowsV qs)) (hq : 0 < qs.length) (hb : qs.length ≤ 1000000)
    (hk : wps P dr c0 r ⟨upd ρ i (.buf c 0 qs.length none 1), supd σ c (some ⟨rowsV qs, true⟩), c + 1⟩ K) : wps P dr c0 (⟨some i, .app 1 24 [.slice none 0 0] x y, none⟩ :: r) ⟨ρ, σ, c⟩ K := by
  have hc : vcells 1 σ (y.ev ρ) = some (rowsV qs) := by rw [hy]; cases u <;> rfl
  exact s_eff rfl (by intros; exact fun h => by cases h) (by intros; exact fun h => by cases h) ⟨_, _, _, none, .appNil hx hc (k := qs.length) (by simp) hq (by omega) (by omega), hk⟩
theorem killσ_rows (t : Nat) (ps : List (Tok × List Nat)) (b : Bool) : killσ t (supd noBlk t (some ⟨rowsV ps, b⟩)) = supd noBlk t (some ⟨rowsV ps, b⟩) := by
  funext u
  unfold killσ
  by_cases e : u = t
  · subst e
    rw [supd_same]
    simp only [Option.map, List.map_map]
    rfl
  · rw [supd_ne _ _ _ _ e]; rfl
theorem s_appR {x y : X} {u : Tok} {t n : Nat} {cap : Option Nat} {ps qs : List (Tok × List Nat)} (hx : x.ev ρ = .buf t 0 n cap 1) (h0 : c0 ≤ t) (hn : n = ps.length) (hy : y.ev ρ = .sl u 1 (rowsV qs)) (hb : ps.length + qs.length ≤ 1000000)
    (hk : wps P dr c0 r ⟨upd (kill (some (.inl t)) ρ) i (.buf t 0 (n + qs.length) none 1), supd noBlk t (some ⟨rowsV (ps ++ qs), true⟩), c⟩ K) : wps P dr c0 (⟨some i, .app 1 24 [.slice none 0 0] x y, none⟩ :: r) ⟨ρ, supd noBlk t (some ⟨rowsV ps, true⟩), c⟩ K := by
  have hc : vcells 1 (supd noBlk t (some ⟨rowsV ps, true⟩)) (y.ev ρ) = some (rowsV qs) := by rw [hy]; cases u <;> rfl
  refine s_eff rfl (by intros; exact fun h => by cases h) (by intros; exact fun h => by cases h) ⟨_, _, _, some (.inl t), .appMove (k := qs.length) hx (supd_same _ _ _) h0 hc (by simp) (by simp [hn]) (by omega) (by omega), ?_⟩
  have e : ((rowsV ps).take (n * 1) ++ rowsV qs).map (killV t) = rowsV (ps ++ qs) := by
    rw [Nat.mul_one, hn, List.take_of_length_le (by simp), ← List.map_append, List.map_map]
    rfl
  rw [e, killσ_rows, supd_two]
  exact hk
end
theorem killR_at (t : Nat) (ρ : Nat → V) (j : Nat) : kill (some (.inl t)) ρ j = killV t (ρ j) := rfl
theorem killR_sl (t : Nat) (tk : Tok) (l : List Nat) : killV t (nats tk l) = nats tk l := rfl
theorem killR_lit (t : Nat) (v : Value) : killV t (.lit v) = .lit v := rfl
theorem a_rows {t : Tok} {l : List V} {i : Int} : vixa 1 (.sl t 1 l) (iv i) = if 0 ≤ i ∧ i.toNat < l.length then some (.eptr l i.toNat) else none := by
  simp [vixa]
theorem d_rows {σ : Nat → Option Blk} {l : List V} {i : Nat} : vload σ none (.eptr l i) = l[i]? := rfl
theorem rows_solid (ps : List (Tok × List Nat)) : (rowsV ps).map V.solid = rowsV ps := by
  rw [List.map_map]; rfl
end Go.Proofs.Ytladcfeibpddeab
set_option linter.unusedSimpArgs false
set_option linter.unusedVariables false
set_option maxRecDepth 100000
set_option maxHeartbeats 8000000
namespace Go.Proofs.Ytladcfeibpddeab
open Go.VM

theorem tmod6 (k : Int) : -6 < k.tmod 6 ∧ k.tmod 6 < 6 := by
  rcases Int.le_total 0 k with h | h
  · rw [Int.tmod_eq_emod_of_nonneg h]; omega
  · have e : k.tmod 6 = -((-k) % 6) := by
      rw [← Int.tmod_eq_emod_of_nonneg (by omega), Int.neg_tmod, Int.neg_neg]
    rw [e]; omega

/-- rows in memory of their own, none of them the list's -/
structure PS (lo hi tb : Nat) (ps : List (Tok × List Nat)) : Prop where
  row : ∀ p ∈ ps, Row1 lo hi p.1 p.2 ∧ p.2.length ≤ 4398046511104
  ne : ∀ p ∈ ps, p.1 ≠ .id tb
  apt : ps.Pairwise (fun p q => Apt p.1 q.1)
theorem PS.app {lo hi hi' tb : Nat} {ps qs : List (Tok × List Nat)} (h : PS lo hi tb ps) (hh : hi ≤ hi') (htb : tb < hi) (hlo : lo ≤ hi) (h1 : ∀ p ∈ qs, Row1 hi hi' p.1 p.2 ∧ p.2.length ≤ 4398046511104) (h2 : qs.Pairwise (fun p q => Apt p.1 q.1)) : PS lo hi' tb (ps ++ qs) := by
  refine ⟨fun p hp => ?_, fun p hp => ?_, List.pairwise_append.2 ⟨h.apt, h2, fun p hp q hq => apt_row (h.row p hp).1 (h1 q hq).1 (Nat.le_refl _)⟩⟩
  · rcases List.mem_append.1 hp with hp | hp
    · exact ⟨(h.row p hp).1.mono (Nat.le_refl _) hh, (h.row p hp).2⟩
    · exact ⟨(h1 p hp).1.mono hlo (Nat.le_refl _), (h1 p hp).2⟩
  · rcases List.mem_append.1 hp with hp | hp
    · exact h.ne p hp
    · intro e
      rcases (h1 p hp).1 with ⟨e1, _⟩ | ⟨i, e1, h3, _⟩
      · rw [e] at e1; cases e1
      · rw [e] at e1; cases e1; omega
theorem PS.first {lo hi hi' tb : Nat} {qs : List (Tok × List Nat)} (hh : hi ≤ tb) (htb : tb < hi') (h1 : ∀ p ∈ qs, Row1 lo hi p.1 p.2 ∧ p.2.length ≤ 4398046511104) (h2 : qs.Pairwise (fun p q => Apt p.1 q.1)) : PS lo hi' tb qs := by
  refine ⟨fun p hp => ⟨(h1 p hp).1.mono (Nat.le_refl _) (by omega), (h1 p hp).2⟩, fun p hp e => ?_, h2⟩
  rcases (h1 p hp).1 with ⟨e1, _⟩ | ⟨i, e1, h3, _⟩
  · rw [e] at e1; cases e1
  · rw [e] at e1; cases e1; omega
theorem lim_third {a : List Nat} (ha : Lim 18446744073709551616 a) : Lim 18446744073709551616 (a.map (· / 3)) := fun x hx => by
  obtain ⟨y, hy, rfl⟩ := List.mem_map.1 hx
  exact Nat.lt_of_le_of_lt (Nat.div_le_self _ _) (ha y hy)
theorem third_set {a : List Nat} {i : Nat} (h : i < a.length) : ((a.take i).map (· / 3) ++ a.drop i).set i (a.getD i 0 / 3) = (a.take (i + 1)).map (· / 3) ++ a.drop (i + 1) := by
  have hl : ((a.take i).map (· / 3)).length = i := by simp; omega
  have e1 : (a.take i).map (· / 3) ++ a.drop i = (a.take i).map (· / 3) ++ a.getD i 0 :: a.drop (i + 1) := by rw [drop_cons h]
  have e2 := set_at ((a.take i).map (· / 3)) (a.drop (i + 1)) (a.getD i 0) (a.getD i 0 / 3)
  rw [hl] at e2
  rw [e1, e2, take_snoc h, List.map_append, List.append_assoc]
  rfl
theorem third_get {a : List Nat} {i : Nat} (h : i < a.length) : ((a.take i).map (· / 3) ++ a.drop i).getD i 0 = a.getD i 0 := by
  have hl : ((a.take i).map (· / 3)).length = i := by simp; omega
  have e1 : (a.take i).map (· / 3) ++ a.drop i = (a.take i).map (· / 3) ++ a.getD i 0 :: a.drop (i + 1) := by rw [drop_cons h]
  have e2 := getD_at ((a.take i).map (· / 3)) (a.drop (i + 1)) (a.getD i 0)
  rw [hl] at e2
  rw [e1, e2]
theorem bl_len {a : List Nat} (ha : Lim 18446744073709551616 a) (hna : a.length ≤ 1048576) : bl (val 18446744073709551616 a) ≤ 67108864 := by
  have h1 := val_lt ha
  rw [pow64] at h1
  exact Nat.le_trans (bl_le h1) (by omega)

theorem own_law (t u : Tok) (a b : List Nat) (k : Int) (c : Nat) (ht : Kn c t) (hu : Kn c u) (ha : Lim 18446744073709551616 a) (hb : Lim 18446744073709551616 b) (hna : a.length ≤ 1048576) (hnb : b.length ≤ 1048576) (hk1 : -9223372036854775808 ≤ k) (hk2 : k < 9223372036854775808) :
    VSpec Try.prog F.surdlaw04_RootOwn c [nats t a, nats u b, iv k] (fun r _ => r = bv true) := by
  refine spec_mk hm E.surdlaw04_RootOwn B.surdlaw04_RootOwn K.surdlaw04_RootOwn Q.surdlaw04_RootOwn (by rw [N.surdlaw04_RootOwn]; simp) ?_
  unfold C.surdlaw04_RootOwn R.surdlaw04_RootOwn
  have hbA := bl_len ha hna
  have hbB := bl_len hb hnb
  refine v_reg ?_
  simp only [vm, ite_true, ite_false, eq_self, reduceIte, Nat.reduceEqDiff, Option.map]
  refine vwp_seq (vwp_region ?_)
  refine wpr_pure ⟨iv k, rfl, ?_⟩
  refine wpr_pure ⟨iv (k.tmod 6), rfl, ?_⟩
  refine wps_wpr ?_
  have hm6 := tmod6 k
  (repeat (first | refine v_reg ?_ | refine v_last ?_ | refine vwp_seq ?_ | refine vwp_block ?_ | refine vwp_skip ?_ | refine vwp_exit ?_ | refine vwp_ret ?_ | refine v_cond ?_ | simp only [vm, ite_true, ite_false, eq_self, reduceIte, Nat.reduceEqDiff, Option.map] | refine And.intro (by omega) ?_))
  obtain ⟨kk, hkk⟩ : ∃ kk, kk = (k.tmod 6 + 6) % 6 + 1 := ⟨_, rfl⟩
  have hkb : 1 ≤ kk ∧ kk ≤ 6 := by omega
  rw [← hkk]
  refine s_call (of_spec t a c ha (by omega)) (by simp only [vm, ite_true, ite_false, eq_self, reduceIte, Nat.reduceEqDiff, Option.map, List.map]) ?_
  rintro v c1 hc1 ⟨i1, rfl, _, _⟩
  (repeat (first | refine v_reg ?_ | refine v_last ?_ | refine vwp_seq ?_ | refine vwp_block ?_ | refine vwp_skip ?_ | refine vwp_exit ?_ | refine vwp_ret ?_ | refine v_cond ?_ | simp only [vm, ite_true, ite_false, eq_self, reduceIte, Nat.reduceEqDiff, Option.map] | refine And.intro (by omega) ?_))
  refine s_call (lenR (.id i1) (val 18446744073709551616 a) c1 (by omega)) (by simp only [vm, ite_true, ite_false, eq_self, reduceIte, Nat.reduceEqDiff, Option.map, List.map]) ?_
  rintro v c2 hc2 rfl
  have g1 : ¬ (67108864 : Int) < (bl (val 18446744073709551616 a) : Int) := by omega
  have g2 : ¬ (67108864 : Int) < (bl (val 18446744073709551616 b) : Int) := by omega
  (repeat (first | refine v_reg ?_ | refine v_last ?_ | refine vwp_seq ?_ | refine vwp_block ?_ | refine vwp_skip ?_ | refine vwp_exit ?_ | refine vwp_ret ?_ | refine v_cond ?_ | simp only [vm, ite_true, ite_false, eq_self, reduceIte, Nat.reduceEqDiff, Option.map, g1] | refine And.intro (by omega) ?_))
  refine s_call (of_spec u b c2 hb (by omega)) (by simp only [vm, ite_true, ite_false, eq_self, reduceIte, Nat.reduceEqDiff, Option.map, List.map]) ?_
  rintro v c3 hc3 ⟨i3, rfl, _, _⟩
  (repeat (first | refine v_reg ?_ | refine v_last ?_ | refine vwp_seq ?_ | refine vwp_block ?_ | refine vwp_skip ?_ | refine vwp_exit ?_ | refine vwp_ret ?_ | refine v_cond ?_ | simp only [vm, ite_true, ite_false, eq_self, reduceIte, Nat.reduceEqDiff, Option.map] | refine And.intro (by omega) ?_))
  refine s_call (lenR (.id i3) (val 18446744073709551616 b) c3 (by omega)) (by simp only [vm, ite_true, ite_false, eq_self, reduceIte, Nat.reduceEqDiff, Option.map, List.map]) ?_
  rintro v c4 hc4 rfl
  (repeat (first | refine v_reg ?_ | refine v_last ?_ | refine vwp_seq ?_ | refine vwp_block ?_ | refine vwp_skip ?_ | refine vwp_exit ?_ | refine vwp_ret ?_ | refine v_cond ?_ | simp only [vm, ite_true, ite_false, eq_self, reduceIte, Nat.reduceEqDiff, Option.map, g1, g2] | refine And.intro (by omega) ?_))
  refine s_call (of_spec t a c4 ha (by omega)) (by simp only [vm, ite_true, ite_false, eq_self, reduceIte, Nat.reduceEqDiff, Option.map, List.map]) ?_
  rintro v c5 hc5 ⟨i5, rfl, _, _⟩
  (repeat (first | refine v_reg ?_ | refine v_last ?_ | refine vwp_seq ?_ | refine vwp_block ?_ | refine vwp_skip ?_ | refine vwp_exit ?_ | refine vwp_ret ?_ | refine v_cond ?_ | simp only [vm, ite_true, ite_false, eq_self, reduceIte, Nat.reduceEqDiff, Option.map] | refine And.intro (by omega) ?_))
  refine s_call (root01_specT (.id i5) (val 18446744073709551616 a) c5 hbA) (by simp only [vm, ite_true, ite_false, eq_self, reduceIte, Nat.reduceEqDiff, Option.map, List.map]) ?_
  rintro v c6 hc6 ⟨tw, W, rfl, hW, htw⟩
  obtain ⟨hWb, _, _, _⟩ := root2_facts hW hbA
  have w32 : (digs 4294967296 W).length ≤ 1099511627776 := Nat.le_trans (len32_bl (k := 2097152) (by omega)) (by decide)
  have w64 : (digs 18446744073709551616 W).length ≤ 1099511627776 := Nat.le_trans (digs_len_bl (k := 1048576) (by omega)) (by decide)
  have ktw : Kn c6 tw := by
    rcases htw with rfl | ⟨j, rfl, _, h⟩
    · exact .inl rfl
    · exact .inr ⟨j, .inl rfl, h⟩
  (repeat (first | refine v_reg ?_ | refine v_last ?_ | refine vwp_seq ?_ | refine vwp_block ?_ | refine vwp_skip ?_ | refine vwp_exit ?_ | refine vwp_ret ?_ | refine v_cond ?_ | simp only [vm, ite_true, ite_false, eq_self, reduceIte, Nat.reduceEqDiff, Option.map] | refine And.intro (by omega) ?_))
  refine v_loop (fun S => ∃ ps tb, S.ρ 0 = nats t a ∧ S.ρ 7 = nats tw (digs 4294967296 W) ∧ S.ρ 8 = .buf tb 0 18 none 1 ∧ ps.length = 18 ∧ PS c6 S.c tb ps ∧ (∃ tk, ps[2]? = some (tk, digs 18446744073709551616 W)) ∧ (∃ tk, ps[14]? = some (tk, digs 18446744073709551616 W)) ∧ S.σ = supd noBlk tb (some ⟨rowsV ps, true⟩) ∧ c6 ≤ tb ∧ tb < S.c) ?_ ?_
  · refine vwp_loop (fun q S => ∃ (i : Nat) (ps : List (Tok × List Nat)), q = 3 - i ∧ i ≤ 3 ∧ S.ρ 0 = nats t a ∧ S.ρ 1 = nats u b ∧ S.ρ 2 = iv kk ∧ S.ρ 7 = nats tw (digs 4294967296 W) ∧ S.ρ 9 = iv (i : Int) ∧ ps.length = 6 * i ∧ (1 ≤ i → ∃ tk, ps[2]? = some (tk, digs 18446744073709551616 W)) ∧ (3 ≤ i → ∃ tk, ps[14]? = some (tk, digs 18446744073709551616 W)) ∧ c6 ≤ S.c ∧
      ((i = 0 ∧ S.ρ 8 = nil1 ∧ S.σ = noBlk) ∨ (1 ≤ i ∧ ∃ tb, S.ρ 8 = .buf tb 0 (6 * i) none 1 ∧ S.σ = supd noBlk tb (some ⟨rowsV ps, true⟩) ∧ c6 ≤ tb ∧ tb < S.c ∧ PS c6 S.c tb ps))) 3 ?_ ?_
    · refine ⟨0, [], rfl, by omega, ?_⟩
      simp only [vm, ite_true, ite_false, eq_self, reduceIte, Nat.reduceEqDiff, Option.map]
      (repeat' apply And.intro) <;> first | rfl | (intro h; omega) | exact .inl trivial | omega
    rintro q ⟨ρ2, σ, e4⟩ ⟨i, ps, hq, hi, h0, h1, h2, h7, h9, hlen, hg2, hg14, hc4', hcase⟩
    dsimp only at h0 h1 h2 h7 h9 hc4' hcase
    have e1 : (i : Int) + 1 = ((i + 1 : Nat) : Int) := by omega
    by_cases g : (i : Int) < 3
    rotate_left
    · have hi3 : i = 3 := by omega
      subst hi3
      rcases hcase with ⟨h, _⟩ | ⟨_, tb, h8, hσ, htb, htb2, hps⟩
      · omega
      · subst hσ
        (repeat (first | refine v_reg ?_ | refine v_last ?_ | refine vwp_seq ?_ | refine vwp_block ?_ | refine vwp_skip ?_ | refine vwp_exit ?_ | refine vwp_ret ?_ | refine v_cond ?_ | simp only [vm, ite_true, ite_false, eq_self, reduceIte, Nat.reduceEqDiff, Option.map, h0, h7, h8, h9, g] | refine And.intro (by omega) ?_))
        exact ⟨ps, tb, rfl, hlen, hps, hg2 (by omega), hg14 (by omega), rfl, htb, htb2⟩
    refine vwp_seq (vwp_seq ?_)
    refine v_last ?_
    simp only [vm, ite_true, ite_false, eq_self, reduceIte, Nat.reduceEqDiff, Option.map, h9, g]
    refine v_cond ?_
    simp only [vm, ite_true, ite_false, eq_self, reduceIte, Nat.reduceEqDiff, Option.map]
    refine vwp_skip ?_
    simp only [vm, ite_true, ite_false, eq_self, reduceIte, Nat.reduceEqDiff, Option.map]
    refine vwp_seq (vwp_block (v_reg ?_))
    simp only [vm, ite_true, ite_false, eq_self, reduceIte, Nat.reduceEqDiff, Option.map, h0]
    refine v_cut (fun S => ∃ tx X, S.ρ 10 = nats tx X ∧ (i ≠ 1 → X = a) ∧ Lim 18446744073709551616 X ∧ X.length ≤ 1048576 ∧ S.ρ 0 = nats t a ∧ S.ρ 1 = nats u b ∧ S.ρ 2 = iv kk ∧ S.ρ 7 = nats tw (digs 4294967296 W) ∧ S.ρ 8 = ρ2 8 ∧ S.ρ 9 = iv (i : Int) ∧ S.σ = σ ∧ S.c = e4) ?_ ?_
    · by_cases gi : (i : Int) = 1
      · (repeat (first | refine v_reg ?_ | refine v_last ?_ | refine vwp_seq ?_ | refine vwp_block ?_ | refine vwp_skip ?_ | refine vwp_exit ?_ | refine vwp_ret ?_ | refine v_cond ?_ | simp only [vm, ite_true, ite_false, eq_self, reduceIte, Nat.reduceEqDiff, Option.map, h0, h1, h2, h7, h9, gi] | refine And.intro (by omega) ?_))
        exact ⟨u, b, rfl, fun h => absurd (by omega) h, hb, hnb⟩
      · (repeat (first | refine v_reg ?_ | refine v_last ?_ | refine vwp_seq ?_ | refine vwp_block ?_ | refine vwp_skip ?_ | refine vwp_exit ?_ | refine vwp_ret ?_ | refine v_cond ?_ | simp only [vm, ite_true, ite_false, eq_self, reduceIte, Nat.reduceEqDiff, Option.map, h0, h1, h2, h7, h9, gi] | refine And.intro (by omega) ?_))
        exact ⟨t, a, rfl, fun _ => rfl, ha, hna⟩
    rintro ⟨ρ3, σ3, e5⟩ ⟨tx, X, h10, hX, hlX, hnX, h0, h1, h2, h7, h8, h9, hσ3, he5⟩
    dsimp only at h10 h0 h1 h2 h7 h8 h9 hσ3 he5
    subst hσ3 he5
    have hbX := bl_len hlX hnX
    (repeat (first | refine v_reg ?_ | refine v_last ?_ | refine vwp_seq ?_ | refine vwp_block ?_ | refine vwp_skip ?_ | refine vwp_exit ?_ | refine vwp_ret ?_ | refine v_cond ?_ | simp only [vm, ite_true, ite_false, eq_self, reduceIte, Nat.reduceEqDiff, Option.map, h10, h2] | refine And.intro (by omega) ?_))
    refine s_call (root_specO tx X kk e5 hlX (by omega) (by omega)) (by simp only [vm, ite_true, ite_false, eq_self, reduceIte, Nat.reduceEqDiff, Option.map, List.map]) ?_
    rintro v f1 hf1 ⟨_, r1⟩
    rcases r1 (by omega) with ⟨_, y, t1, t2, hy, rfl, ry, rs, ryz⟩ | ⟨hbad, _⟩
    rotate_left
    · omega
    (repeat (first | refine v_reg ?_ | refine v_last ?_ | refine vwp_seq ?_ | refine vwp_block ?_ | refine vwp_skip ?_ | refine vwp_exit ?_ | refine vwp_ret ?_ | refine v_cond ?_ | simp only [vm, ite_true, ite_false, eq_self, reduceIte, Nat.reduceEqDiff, Option.map, h10] | refine And.intro (by omega) ?_))
    refine s_call (sqrt_specO tx X f1 hlX (by omega)) (by simp only [vm, ite_true, ite_false, eq_self, reduceIte, Nat.reduceEqDiff, Option.map, List.map]) ?_
    rintro v f2 hf2 (⟨_, p, t3, t4, hp, rfl, rp, rq, rpq⟩ | ⟨hbad, _⟩)
    rotate_left
    · omega
    (repeat (first | refine v_reg ?_ | refine v_last ?_ | refine vwp_seq ?_ | refine vwp_block ?_ | refine vwp_skip ?_ | refine vwp_exit ?_ | refine vwp_ret ?_ | refine v_cond ?_ | simp only [vm, ite_true, ite_false, eq_self, reduceIte, Nat.reduceEqDiff, Option.map, h10] | refine And.intro (by omega) ?_))
    refine s_call (VSpec.clean (ceil_spec tx X f2 hlX (by omega) hbX) fun r c' hc h => ceil_own hc h) (by simp only [vm, ite_true, ite_false, eq_self, reduceIte, Nat.reduceEqDiff, Option.map, List.map]) ?_
    rintro v f3 hf3 ⟨p2, t5, hp2, rfl, rc⟩
    obtain rfl := root_unique hp hp2
    (repeat (first | refine v_reg ?_ | refine v_last ?_ | refine vwp_seq ?_ | refine vwp_block ?_ | refine vwp_skip ?_ | refine vwp_exit ?_ | refine vwp_ret ?_ | refine v_cond ?_ | simp only [vm, ite_true, ite_false, eq_self, reduceIte, Nat.reduceEqDiff, Option.map, h10] | refine And.intro (by omega) ?_))
    refine s_call (perfect_own tx X f3 hlX (by omega) hbX) (by simp only [vm, ite_true, ite_false, eq_self, reduceIte, Nat.reduceEqDiff, Option.map, List.map]) ?_
    rintro v f4 hf4 ⟨kp, t6, lp, rfl, rt, hlp⟩
    have hya : bl y ≤ 67108864 := Nat.le_trans (bl_mono (Nat.le_trans (Nat.le_self_pow (by omega) y) hy.1)) hbX
    have hpa := (root2_facts hp hbX).1
    have hs1 : bl (val 18446744073709551616 X - y ^ kk.toNat) ≤ 67108864 := Nat.le_trans (bl_mono (Nat.sub_le _ _)) hbX
    have hs2 : bl (val 18446744073709551616 X - p ^ 2) ≤ 67108864 := Nat.le_trans (bl_mono (Nat.sub_le _ _)) hbX
    have hs3 : bl (ceilN (val 18446744073709551616 X) p) ≤ 67108865 := by
      unfold ceilN
      split
      · exact bl_add_le (k := 67108864) hpa (by decide)
      · omega
    have l1 : (digs 18446744073709551616 y).length ≤ 4398046511104 := Nat.le_trans (digs_len_bl (k := 1048577) (by omega)) (by decide)
    have l2 : (digs 18446744073709551616 (val 18446744073709551616 X - y ^ kk.toNat)).length ≤ 4398046511104 := Nat.le_trans (digs_len_bl (k := 1048577) (by omega)) (by decide)
    have l3 : (digs 18446744073709551616 p).length ≤ 4398046511104 := Nat.le_trans (digs_len_bl (k := 1048577) (by omega)) (by decide)
    have l4 : (digs 18446744073709551616 (val 18446744073709551616 X - p ^ 2)).length ≤ 4398046511104 := Nat.le_trans (digs_len_bl (k := 1048577) (by omega)) (by decide)
    have l5 : (digs 18446744073709551616 (ceilN (val 18446744073709551616 X) p)).length ≤ 4398046511104 := Nat.le_trans (digs_len_bl (k := 1048577) (by omega)) (by decide)
    have l6 : lp.length ≤ 4398046511104 := by omega
    have hpW : i ≠ 1 → p = W := fun h => by
      have := hX h
      subst this
      exact root_unique hp hW
    obtain ⟨qs, hqs⟩ : ∃ qs, qs = [(t1, digs 18446744073709551616 y), (t2, digs 18446744073709551616 (val 18446744073709551616 X - y ^ kk.toNat)), (t3, digs 18446744073709551616 p), (t4, digs 18446744073709551616 (val 18446744073709551616 X - p ^ 2)), (t5, digs 18446744073709551616 (ceilN (val 18446744073709551616 X) p)), (t6, lp)] := ⟨_, rfl⟩
    have hrow : ∀ p ∈ qs, Row1 e5 f4 p.1 p.2 ∧ p.2.length ≤ 4398046511104 := fun p hp => by
      rw [hqs] at hp
      simp only [List.mem_cons, List.not_mem_nil, or_false] at hp
      rcases hp with rfl | rfl | rfl | rfl | rfl | rfl
      · exact ⟨ry.mono (by omega) (by omega), l1⟩
      · exact ⟨rs.mono (by omega) (by omega), l2⟩
      · exact ⟨rp.mono (by omega) (by omega), l3⟩
      · exact ⟨rq.mono (by omega) (by omega), l4⟩
      · exact ⟨rc.mono (by omega) (by omega), l5⟩
      · exact ⟨rt.mono (by omega) (by omega), l6⟩
    have hapt : qs.Pairwise (fun p q => Apt p.1 q.1) := by
      rw [hqs]
      have a1 := apt_row ry rp (Nat.le_refl _)
      have a2 := apt_row ry rq (Nat.le_refl _)
      have a3 := apt_row ry rc (by omega)
      have a4 := apt_row ry rt (by omega)
      have b1 := apt_row rs rp (Nat.le_refl _)
      have b2 := apt_row rs rq (Nat.le_refl _)
      have b3 := apt_row rs rc (by omega)
      have b4 := apt_row rs rt (by omega)
      have d3 := apt_row rp rc (Nat.le_refl _)
      have d4 := apt_row rp rt (by omega)
      have d5 := apt_row rq rc (Nat.le_refl _)
      have d6 := apt_row rq rt (by omega)
      have d7 := apt_row rc rt (Nat.le_refl _)
      simp [ryz, a1, a2, a3, a4, b1, b2, b3, b4, rpq, d3, d4, d5, d6, d7]
    have hql : qs.length = 6 := by rw [hqs]; rfl
    have hq2 : i ≠ 1 → qs[2]? = some (t3, digs 18446744073709551616 W) := fun h => by rw [hqs, ← hpW h]; rfl
    simp only [vm, ite_true, ite_false, eq_self, reduceIte, Nat.reduceEqDiff, Option.map]
    refine v_cut (fun S => S.ρ 0 = nats t a ∧ S.ρ 1 = nats u b ∧ S.ρ 2 = iv kk ∧ S.ρ 7 = nats tw (digs 4294967296 W) ∧ S.ρ 8 = ρ2 8 ∧ S.ρ 9 = iv (i : Int) ∧ S.ρ 11 = nats t1 (digs 18446744073709551616 y) ∧ S.ρ 12 = nats t2 (digs 18446744073709551616 (val 18446744073709551616 X - y ^ kk.toNat)) ∧ S.ρ 14 = nats t3 (digs 18446744073709551616 p) ∧ S.ρ 15 = nats t4 (digs 18446744073709551616 (val 18446744073709551616 X - p ^ 2)) ∧ S.ρ 17 = nats t5 (digs 18446744073709551616 (ceilN (val 18446744073709551616 X) p)) ∧ S.ρ 19 = nats t6 lp ∧ S.σ = σ3 ∧ f4 ≤ S.c) ?_ ?_
    · (repeat (first | refine v_reg ?_ | refine v_last ?_ | refine vwp_seq ?_ | refine vwp_block ?_ | refine vwp_skip ?_ | refine vwp_exit ?_ | refine vwp_ret ?_ | refine v_cond ?_ | simp only [vm, ite_true, ite_false, eq_self, reduceIte, Nat.reduceEqDiff, Option.map, h0, h1, h2, h7, h8, h9] | refine And.intro (by omega) ?_))
      refine s_call (num_spec 0 f4) (by simp only [vm, ite_true, ite_false, eq_self, reduceIte, Nat.reduceEqDiff, Option.map, List.map]) ?_
      rintro v f5 hf5 rfl
      (repeat (first | refine v_reg ?_ | refine v_last ?_ | refine vwp_seq ?_ | refine vwp_block ?_ | refine vwp_skip ?_ | refine vwp_exit ?_ | refine vwp_ret ?_ | refine v_cond ?_ | simp only [vm, ite_true, ite_false, eq_self, reduceIte, Nat.reduceEqDiff, Option.map, h0, h1, h2, h7, h8, h9] | refine And.intro (by omega) ?_))
      refine s_call (num_spec 0 f5) (by simp only [vm, ite_true, ite_false, eq_self, reduceIte, Nat.reduceEqDiff, Option.map, List.map]) ?_
      rintro v f6 hf6 rfl
      (repeat (first | refine v_reg ?_ | refine v_last ?_ | refine vwp_seq ?_ | refine vwp_block ?_ | refine vwp_skip ?_ | refine vwp_exit ?_ | refine vwp_ret ?_ | refine v_cond ?_ | simp only [vm, ite_true, ite_false, eq_self, reduceIte, Nat.reduceEqDiff, Option.map, h0, h1, h2, h7, h8, h9] | refine And.intro (by omega) ?_))
      refine s_call (num_spec 0 f6) (by simp only [vm, ite_true, ite_false, eq_self, reduceIte, Nat.reduceEqDiff, Option.map, List.map]) ?_
      rintro v f7 hf7 rfl
      (repeat (first | refine v_reg ?_ | refine v_last ?_ | refine vwp_seq ?_ | refine vwp_block ?_ | refine vwp_skip ?_ | refine vwp_exit ?_ | refine vwp_ret ?_ | refine v_cond ?_ | simp only [vm, ite_true, ite_false, eq_self, reduceIte, Nat.reduceEqDiff, Option.map, h0, h1, h2, h7, h8, h9] | refine And.intro (by omega) ?_))
      refine s_call (num_spec 0 f7) (by simp only [vm, ite_true, ite_false, eq_self, reduceIte, Nat.reduceEqDiff, Option.map, List.map]) ?_
      rintro v f8 hf8 rfl
      by_cases gi : (i : Int) = 1
      · (repeat (first | refine v_reg ?_ | refine v_last ?_ | refine vwp_seq ?_ | refine vwp_block ?_ | refine vwp_skip ?_ | refine vwp_exit ?_ | refine vwp_ret ?_ | refine v_cond ?_ | simp only [vm, ite_true, ite_false, eq_self, reduceIte, Nat.reduceEqDiff, Option.map, h0, h1, h2, h7, h8, h9, gi] | refine And.intro (by omega) ?_))
        (repeat' apply And.intro) <;> first | rfl | omega | assumption | exact True.intro
      · have hpe := hpW (by omega)
        subst hpe
        (repeat (first | refine v_reg ?_ | refine v_last ?_ | refine vwp_seq ?_ | refine vwp_block ?_ | refine vwp_skip ?_ | refine vwp_exit ?_ | refine vwp_ret ?_ | refine v_cond ?_ | simp only [vm, ite_true, ite_false, eq_self, reduceIte, Nat.reduceEqDiff, Option.map, h0, h1, h2, h7, h8, h9, gi] | refine And.intro (by omega) ?_))
        refine s_call (is_spec tw t3 p (digs 18446744073709551616 p) f8 w32 w64) (by simp only [vm, ite_true, ite_false, eq_self, reduceIte, Nat.reduceEqDiff, Option.map, List.map, h7]) ?_
        rintro v f9 hf9 rfl
        (repeat (first | refine v_reg ?_ | refine v_last ?_ | refine vwp_seq ?_ | refine vwp_block ?_ | refine vwp_skip ?_ | refine vwp_exit ?_ | refine vwp_ret ?_ | refine v_cond ?_ | simp only [vm, ite_true, ite_false, eq_self, reduceIte, Nat.reduceEqDiff, Option.map, h0, h1, h2, h7, h8, h9, gi] | refine And.intro (by omega) ?_))
        (repeat' apply And.intro) <;> first | rfl | omega | assumption | exact True.intro
    rintro ⟨ρ4, σ4, f9⟩ ⟨h0, h1, h2, h7, h8', h9, h11, h12, h14, h15, h17, h19, hσ4, hf9⟩
    dsimp only at h0 h1 h2 h7 h8' h9 h11 h12 h14 h15 h17 h19 hσ4 hf9
    subst hσ4
    rcases hcase with ⟨hi0, h8, hσ⟩ | ⟨hi1, tb, h8, hσ, htb, htb2, hps⟩
    · rw [h8] at h8'
      subst hσ hi0
      obtain rfl : ps = [] := List.eq_nil_of_length_eq_zero (by omega)
      (repeat (first | refine v_reg ?_ | refine v_last ?_ | refine vwp_seq ?_ | refine vwp_block ?_ | refine vwp_skip ?_ | refine vwp_exit ?_ | refine vwp_ret ?_ | refine v_cond ?_ | simp only [vm, ite_true, ite_false, eq_self, reduceIte, Nat.reduceEqDiff, Option.map, h8', h11, h12, h14, h15, h17, h19] | refine And.intro (by omega) ?_))
      refine s_rows6 (p0 := (t1, digs 18446744073709551616 y)) (p1 := (t2, digs 18446744073709551616 (val 18446744073709551616 X - y ^ kk.toNat))) (p2 := (t3, digs 18446744073709551616 p)) (p3 := (t4, digs 18446744073709551616 (val 18446744073709551616 X - p ^ 2))) (p4 := (t5, digs 18446744073709551616 (ceilN (val 18446744073709551616 X) p))) (p5 := (t6, lp)) (by simp only [vm, ite_true, ite_false, eq_self, reduceIte, Nat.reduceEqDiff, Option.map]) (by simp only [vm, ite_true, ite_false, eq_self, reduceIte, Nat.reduceEqDiff, Option.map]) (by simp only [vm, ite_true, ite_false, eq_self, reduceIte, Nat.reduceEqDiff, Option.map]) (by simp only [vm, ite_true, ite_false, eq_self, reduceIte, Nat.reduceEqDiff, Option.map]) (by simp only [vm, ite_true, ite_false, eq_self, reduceIte, Nat.reduceEqDiff, Option.map]) (by simp only [vm, ite_true, ite_false, eq_self, reduceIte, Nat.reduceEqDiff, Option.map]) ?_
      rw [← hqs]
      refine s_app0R (u := .id f9) (qs := qs) (by simp only [vm, ite_true, ite_false, eq_self, reduceIte, Nat.reduceEqDiff, Option.map, h8']) (by simp only [vm, ite_true, ite_false, eq_self, reduceIte, Nat.reduceEqDiff, Option.map]) (by omega) (by omega) ?_
      (repeat (first | refine v_reg ?_ | refine v_last ?_ | refine vwp_seq ?_ | refine vwp_block ?_ | refine vwp_skip ?_ | refine vwp_exit ?_ | refine vwp_ret ?_ | refine v_cond ?_ | simp only [vm, ite_true, ite_false, eq_self, reduceIte, Nat.reduceEqDiff, Option.map, h0, h1, h2, h7, h9, e1, hql] | refine And.intro (by omega) ?_))
      have hps := PS.first (lo := c6) (hi := f4) (hi' := f9 + 1 + 1) (tb := f9 + 1) (by omega) (by omega) (fun p hp => ⟨(hrow p hp).1.mono (by omega) (Nat.le_refl _), (hrow p hp).2⟩) hapt
      exact ⟨2, by omega, 1, qs, rfl, by omega, rfl, by omega, fun _ => ⟨t3, hq2 (by omega)⟩, fun h => by omega, by omega, .inr ⟨by omega, f9 + 1, rfl, rfl, by omega, by omega, hps⟩⟩
    · rw [h8] at h8'
      subst hσ
      (repeat (first | refine v_reg ?_ | refine v_last ?_ | refine vwp_seq ?_ | refine vwp_block ?_ | refine vwp_skip ?_ | refine vwp_exit ?_ | refine vwp_ret ?_ | refine v_cond ?_ | simp only [vm, ite_true, ite_false, eq_self, reduceIte, Nat.reduceEqDiff, Option.map, h8', h11, h12, h14, h15, h17, h19] | refine And.intro (by omega) ?_))
      refine s_rows6 (p0 := (t1, digs 18446744073709551616 y)) (p1 := (t2, digs 18446744073709551616 (val 18446744073709551616 X - y ^ kk.toNat))) (p2 := (t3, digs 18446744073709551616 p)) (p3 := (t4, digs 18446744073709551616 (val 18446744073709551616 X - p ^ 2))) (p4 := (t5, digs 18446744073709551616 (ceilN (val 18446744073709551616 X) p))) (p5 := (t6, lp)) (by simp only [vm, ite_true, ite_false, eq_self, reduceIte, Nat.reduceEqDiff, Option.map]) (by simp only [vm, ite_true, ite_false, eq_self, reduceIte, Nat.reduceEqDiff, Option.map]) (by simp only [vm, ite_true, ite_false, eq_self, reduceIte, Nat.reduceEqDiff, Option.map]) (by simp only [vm, ite_true, ite_false, eq_self, reduceIte, Nat.reduceEqDiff, Option.map]) (by simp only [vm, ite_true, ite_false, eq_self, reduceIte, Nat.reduceEqDiff, Option.map]) (by simp only [vm, ite_true, ite_false, eq_self, reduceIte, Nat.reduceEqDiff, Option.map]) ?_
      rw [← hqs]
      refine s_appR (u := .id f9) (n := 6 * i) (cap := none) (ps := ps) (qs := qs) (by simp only [vm, ite_true, ite_false, eq_self, reduceIte, Nat.reduceEqDiff, Option.map, h8']) (by omega) (by omega) (by simp only [vm, ite_true, ite_false, eq_self, reduceIte, Nat.reduceEqDiff, Option.map]) (by omega) ?_
      (repeat (first | refine v_reg ?_ | refine v_last ?_ | refine vwp_seq ?_ | refine vwp_block ?_ | refine vwp_skip ?_ | refine vwp_exit ?_ | refine vwp_ret ?_ | refine v_cond ?_ | simp only [vm, ite_true, ite_false, eq_self, reduceIte, Nat.reduceEqDiff, Option.map, killR_at, killR_sl, killR_lit, h0, h1, h2, h7, h9, e1, hql] | refine And.intro (by omega) ?_))
      have hps2 := hps.app (hi' := f9 + 1) (qs := qs) (by omega) htb2 hc4' (fun p hp => ⟨(hrow p hp).1.mono (by omega) (by omega), (hrow p hp).2⟩) hapt
      have k2 : 1 ≤ i + 1 → ∃ tk, (ps ++ qs)[2]? = some (tk, digs 18446744073709551616 W) := fun _ => by
        obtain ⟨tk, h⟩ := hg2 hi1
        exact ⟨tk, by rw [List.getElem?_append_left (by omega)]; exact h⟩
      have k14 : 3 ≤ i + 1 → ∃ tk, (ps ++ qs)[14]? = some (tk, digs 18446744073709551616 W) := fun h => by
        have hi2 : i = 2 := by omega
        subst hi2
        exact ⟨t3, by rw [List.getElem?_append_right (by omega), hlen]; exact hq2 (by omega)⟩
      exact ⟨3 - (i + 1), by omega, i + 1, ps ++ qs, rfl, by omega, rfl, by simp [hlen, hql]; omega, k2, k14, by omega, .inr ⟨by omega, tb, by rw [Nat.mul_add], rfl, htb, by omega, hps2⟩⟩
  rintro ⟨ρ3, σ3, e5⟩ ⟨ps, tb, h0, h7, h8, hlen, hps, ⟨tk2, hg2⟩, ⟨tk14, hg14⟩, hσ, htb, htb2⟩
  dsimp only at h0 h7 h8 hps hσ htb2
  subst hσ
  refine vwp_freeze 8 tb 0 18 1 none (rowsV ps) h8 (supd_same _ _ _) (by omega) (by simp [hlen]) ?_
  have efz : Go.VM.frozen ⟨ρ3, supd noBlk tb (some ⟨rowsV ps, true⟩), e5⟩ 8 tb 0 1 (rowsV ps) ((((rowsV ps).drop 0).take (18 * 1)).map V.solid) = ⟨upd ρ3 8 (.sl (.id tb) 1 (rowsV ps)), supd noBlk tb (some ⟨rowsV ps, false⟩), e5⟩ := by
    rw [List.drop_zero, List.take_of_length_le (by simp [hlen]), rows_solid]
    simp only [Go.VM.frozen, supd_two]
    rfl
  rw [efz]
  have hrl : (rowsV ps).length = 18 := by simp [hlen]
  have hv2 : (rowsV ps)[(2 : Int).toNat]? = some (nats tk2 (digs 18446744073709551616 W)) := by
    show (ps.map _)[2]? = _
    rw [List.getElem?_map, hg2]; rfl
  have hv14 : (rowsV ps)[(14 : Int).toNat]? = some (nats tk14 (digs 18446744073709551616 W)) := by
    show (ps.map _)[14]? = _
    rw [List.getElem?_map, hg14]; rfl
  (repeat (first | refine v_reg ?_ | refine v_last ?_ | refine vwp_seq ?_ | refine vwp_block ?_ | refine vwp_skip ?_ | refine vwp_exit ?_ | refine vwp_ret ?_ | refine v_cond ?_ | simp only [vm, ite_true, ite_false, eq_self, reduceIte, Nat.reduceEqDiff, Option.map, h0, h7, a_rows, d_rows, hrl, hv2, hv14] | refine And.intro (by omega) ?_))
  refine s_call (is_spec tw tk2 W (digs 18446744073709551616 W) e5 w32 w64) (by simp only [vm, ite_true, ite_false, eq_self, reduceIte, Nat.reduceEqDiff, Option.map, List.map]) ?_
  rintro v e6 he6 rfl
  (repeat (first | refine v_reg ?_ | refine v_last ?_ | refine vwp_seq ?_ | refine vwp_block ?_ | refine vwp_skip ?_ | refine vwp_exit ?_ | refine vwp_ret ?_ | refine v_cond ?_ | simp only [vm, ite_true, ite_false, eq_self, reduceIte, Nat.reduceEqDiff, Option.map, h0, h7, a_rows, d_rows, hrl, hv2, hv14] | refine And.intro (by omega) ?_))
  refine s_call (is_spec tw tk14 W (digs 18446744073709551616 W) e6 w32 w64) (by simp only [vm, ite_true, ite_false, eq_self, reduceIte, Nat.reduceEqDiff, Option.map, List.map]) ?_
  rintro v e7 he7 rfl
  (repeat (first | refine v_reg ?_ | refine v_last ?_ | refine vwp_seq ?_ | refine vwp_block ?_ | refine vwp_skip ?_ | refine vwp_exit ?_ | refine vwp_ret ?_ | refine v_cond ?_ | simp only [vm, ite_true, ite_false, eq_self, reduceIte, Nat.reduceEqDiff, Option.map, h0, h7, a_rows, d_rows, hrl, hv2, hv14] | refine And.intro (by omega) ?_))
  refine s_own2 (lo := c6) (hi := e5) (tL := tb) (ps := ps) own_spec (by simp only [vm, ite_true, ite_false, eq_self, reduceIte, Nat.reduceEqDiff, Option.map]) (by omega) (by omega) (by omega) hps.row htb hps.ne hps.apt ?_
  have kt : Kn c6 t := ht.mono (by omega)
  (repeat (first | refine v_reg ?_ | refine v_last ?_ | refine vwp_seq ?_ | refine vwp_block ?_ | refine vwp_skip ?_ | refine vwp_exit ?_ | refine vwp_ret ?_ | refine v_cond ?_ | simp only [vm, ite_true, ite_false, eq_self, reduceIte, Nat.reduceEqDiff, Option.map, killed_own, thawL_lit, h0, h7, thawL_kn2 hps.row htb kt, thawL_kn2 hps.row htb ktw] | refine And.intro (by omega) ?_))
  refine s_call (copy_spec t a e7 (by omega)) (by simp only [vm, ite_true, ite_false, eq_self, reduceIte, Nat.reduceEqDiff, Option.map, List.map]) ?_
  rintro v e8 he8 ⟨ix, rfl, hix, hix2⟩
  (repeat (first | refine v_reg ?_ | refine v_last ?_ | refine vwp_seq ?_ | refine vwp_block ?_ | refine vwp_skip ?_ | refine vwp_exit ?_ | refine vwp_ret ?_ | refine v_cond ?_ | simp only [vm, ite_true, ite_false, eq_self, reduceIte, Nat.reduceEqDiff, Option.map, killed_own, thawL_lit, h7, thawL_kn2 hps.row htb ktw] | refine And.intro (by omega) ?_))
  refine s_call (sqrt_specO (.id ix) a e8 ha (by omega)) (by simp only [vm, ite_true, ite_false, eq_self, reduceIte, Nat.reduceEqDiff, Option.map, List.map]) ?_
  rintro v e9 he9 (⟨_, p, t23, t24, hp, rfl, r23, _, _⟩ | ⟨hbad, _⟩)
  rotate_left
  · omega
  obtain rfl := root_unique hW hp
  (repeat (first | refine v_reg ?_ | refine v_last ?_ | refine vwp_seq ?_ | refine vwp_block ?_ | refine vwp_skip ?_ | refine vwp_exit ?_ | refine vwp_ret ?_ | refine v_cond ?_ | simp only [vm, ite_true, ite_false, eq_self, reduceIte, Nat.reduceEqDiff, Option.map, killed_own, thawL_lit, h7, thawL_kn2 hps.row htb ktw] | refine And.intro (by omega) ?_))
  refine s_call (sqrt_specO (.id ix) a e9 ha (by omega)) (by simp only [vm, ite_true, ite_false, eq_self, reduceIte, Nat.reduceEqDiff, Option.map, List.map]) ?_
  rintro v e10 he10 (⟨_, p, t26, t27, hp, rfl, r26, _, _⟩ | ⟨hbad, _⟩)
  rotate_left
  · omega
  obtain rfl := root_unique hW hp
  have z0 : ¬ (0 : Int) < 0 := by decide
  by_cases han : a = []
  · have hal : (a.length : Int) = 0 := by rw [han]; rfl
    (repeat (first | refine v_reg ?_ | refine v_last ?_ | refine vwp_seq ?_ | refine vwp_block ?_ | refine vwp_skip ?_ | refine vwp_exit ?_ | refine vwp_ret ?_ | refine v_cond ?_ | simp only [vm, ite_true, ite_false, eq_self, reduceIte, Nat.reduceEqDiff, Option.map, killed_own, thawL_lit, h7, thawL_kn2 hps.row htb ktw, hal] | refine And.intro (by omega) ?_))
    refine v_once ?_
    (repeat (first | refine v_reg ?_ | refine v_last ?_ | refine vwp_seq ?_ | refine vwp_block ?_ | refine vwp_skip ?_ | refine vwp_exit ?_ | refine vwp_ret ?_ | refine v_cond ?_ | simp only [vm, ite_true, ite_false, eq_self, reduceIte, Nat.reduceEqDiff, Option.map, z0, killed_own, thawL_lit, h7, thawL_kn2 hps.row htb ktw, hal] | refine And.intro (by omega) ?_))
    refine s_call (sqrt_spec (.id ix) a e10 ha (by omega)) (by simp only [vm, ite_true, ite_false, eq_self, reduceIte, Nat.reduceEqDiff, Option.map, List.map]) ?_
    rintro v d1 hd1 (⟨_, z, tz, tz2, hz, rfl, _, _⟩ | ⟨hbad, _⟩)
    rotate_left
    · omega
    have hzb := (root2_facts hz hbA).1
    (repeat (first | refine v_reg ?_ | refine v_last ?_ | refine vwp_seq ?_ | refine vwp_block ?_ | refine vwp_skip ?_ | refine vwp_exit ?_ | refine vwp_ret ?_ | refine v_cond ?_ | simp only [vm, ite_true, ite_false, eq_self, reduceIte, Nat.reduceEqDiff, Option.map, z0, killed_own, thawL_lit, h7, thawL_kn2 hps.row htb ktw, hal] | refine And.intro (by omega) ?_))
    refine s_call (num_spec 0 d1) (by simp only [vm, ite_true, ite_false, eq_self, reduceIte, Nat.reduceEqDiff, Option.map, List.map]) ?_
    rintro v d2 hd2 rfl
    (repeat (first | refine v_reg ?_ | refine v_last ?_ | refine vwp_seq ?_ | refine vwp_block ?_ | refine vwp_skip ?_ | refine vwp_exit ?_ | refine vwp_ret ?_ | refine v_cond ?_ | simp only [vm, ite_true, ite_false, eq_self, reduceIte, Nat.reduceEqDiff, Option.map, z0, killed_own, thawL_lit, h7, thawL_kn2 hps.row htb ktw, hal] | refine And.intro (by omega) ?_))
    refine s_call (num_spec 0 d2) (by simp only [vm, ite_true, ite_false, eq_self, reduceIte, Nat.reduceEqDiff, Option.map, List.map]) ?_
    rintro v d3 hd3 rfl
    (repeat (first | refine v_reg ?_ | refine v_last ?_ | refine vwp_seq ?_ | refine vwp_block ?_ | refine vwp_skip ?_ | refine vwp_exit ?_ | refine vwp_ret ?_ | refine v_cond ?_ | simp only [vm, ite_true, ite_false, eq_self, reduceIte, Nat.reduceEqDiff, Option.map, z0, killed_own, thawL_lit, h7, thawL_kn2 hps.row htb ktw, hal] | refine And.intro (by omega) ?_))
    refine s_call (num_spec 0 d3) (by simp only [vm, ite_true, ite_false, eq_self, reduceIte, Nat.reduceEqDiff, Option.map, List.map]) ?_
    rintro v d4 hd4 rfl
    (repeat (first | refine v_reg ?_ | refine v_last ?_ | refine vwp_seq ?_ | refine vwp_block ?_ | refine vwp_skip ?_ | refine vwp_exit ?_ | refine vwp_ret ?_ | refine v_cond ?_ | simp only [vm, ite_true, ite_false, eq_self, reduceIte, Nat.reduceEqDiff, Option.map, z0, killed_own, thawL_lit, h7, thawL_kn2 hps.row htb ktw, hal] | refine And.intro (by omega) ?_))
    refine s_call (is_spec tw t23 W (digs 18446744073709551616 W) d4 w32 w64) (by simp only [vm, ite_true, ite_false, eq_self, reduceIte, Nat.reduceEqDiff, Option.map, List.map, z0, killed_own, thawL_lit, h7, thawL_kn2 hps.row htb ktw, hal]) ?_
    rintro v d5 hd5 rfl
    (repeat (first | refine v_reg ?_ | refine v_last ?_ | refine vwp_seq ?_ | refine vwp_block ?_ | refine vwp_skip ?_ | refine vwp_exit ?_ | refine vwp_ret ?_ | refine v_cond ?_ | simp only [vm, ite_true, ite_false, eq_self, reduceIte, Nat.reduceEqDiff, Option.map, z0, killed_own, thawL_lit, h7, thawL_kn2 hps.row htb ktw, hal] | refine And.intro (by omega) ?_))
    refine s_call (is_spec tw t26 W (digs 18446744073709551616 W) d5 w32 w64) (by simp only [vm, ite_true, ite_false, eq_self, reduceIte, Nat.reduceEqDiff, Option.map, List.map, z0, killed_own, thawL_lit, h7, thawL_kn2 hps.row htb ktw, hal]) ?_
    rintro v d6 hd6 rfl
    (repeat (first | refine v_reg ?_ | refine v_last ?_ | refine vwp_seq ?_ | refine vwp_block ?_ | refine vwp_skip ?_ | refine vwp_exit ?_ | refine vwp_ret ?_ | refine v_cond ?_ | simp only [vm, ite_true, ite_false, eq_self, reduceIte, Nat.reduceEqDiff, Option.map, z0, killed_own, thawL_lit, h7, thawL_kn2 hps.row htb ktw, hal] | refine And.intro (by omega) ?_))
    refine s_call (of_spec (.id ix) a d6 ha (by omega)) (by simp only [vm, ite_true, ite_false, eq_self, reduceIte, Nat.reduceEqDiff, Option.map, List.map]) ?_
    rintro v d7 hd7 ⟨i7, rfl, _, _⟩
    (repeat (first | refine v_reg ?_ | refine v_last ?_ | refine vwp_seq ?_ | refine vwp_block ?_ | refine vwp_skip ?_ | refine vwp_exit ?_ | refine vwp_ret ?_ | refine v_cond ?_ | simp only [vm, ite_true, ite_false, eq_self, reduceIte, Nat.reduceEqDiff, Option.map, z0, killed_own, thawL_lit, h7, thawL_kn2 hps.row htb ktw, hal] | refine And.intro (by omega) ?_))
    refine s_call (root01_spec (.id i7) (val 18446744073709551616 a) d7 hbA) (by simp only [vm, ite_true, ite_false, eq_self, reduceIte, Nat.reduceEqDiff, Option.map, List.map]) ?_
    rintro v d8 hd8 ⟨t8, z2, rfl, hz2⟩
    obtain rfl := root_unique hz hz2
    (repeat (first | refine v_reg ?_ | refine v_last ?_ | refine vwp_seq ?_ | refine vwp_block ?_ | refine vwp_skip ?_ | refine vwp_exit ?_ | refine vwp_ret ?_ | refine v_cond ?_ | simp only [vm, ite_true, ite_false, eq_self, reduceIte, Nat.reduceEqDiff, Option.map, z0, killed_own, thawL_lit, h7, thawL_kn2 hps.row htb ktw, hal] | refine And.intro (by omega) ?_))
    refine s_call (is_spec t8 tz z (digs 18446744073709551616 z) d8 (Nat.le_trans (len32_bl (k := 2097152) (by omega)) (by decide)) (Nat.le_trans (digs_len_bl (k := 1048576) (by omega)) (by decide))) (by simp only [vm, ite_true, ite_false, eq_self, reduceIte, Nat.reduceEqDiff, Option.map, List.map]) ?_
    rintro v d9 hd9 rfl
    (repeat (first | refine v_reg ?_ | refine v_last ?_ | refine vwp_seq ?_ | refine vwp_block ?_ | refine vwp_skip ?_ | refine vwp_exit ?_ | refine vwp_ret ?_ | refine v_cond ?_ | simp only [vm, ite_true, ite_false, eq_self, reduceIte, Nat.reduceEqDiff, Option.map, z0, killed_own, thawL_lit, h7, thawL_kn2 hps.row htb ktw, hal] | refine And.intro (by omega) ?_))
    refine s_call (awake_spec d9) (by simp only [vm, ite_true, ite_false, eq_self, reduceIte, Nat.reduceEqDiff, Option.map, List.map]) ?_
    rintro v d10 hd10 rfl
    (repeat (first | refine v_reg ?_ | refine v_last ?_ | refine vwp_seq ?_ | refine vwp_block ?_ | refine vwp_skip ?_ | refine vwp_exit ?_ | refine vwp_ret ?_ | refine v_cond ?_ | simp only [vm, ite_true, ite_false, eq_self, reduceIte, Nat.reduceEqDiff, Option.map] | refine And.intro (by omega) ?_))
    omega
  have hal0 : 0 < a.length := List.length_pos_iff.2 han
  simp only [vm, ite_true, ite_false, eq_self, reduceIte, Nat.reduceEqDiff, Option.map, killed_own, thawL_lit, h7, thawL_kn2 hps.row htb ktw]
  refine v_thaw 22 (t := ix) (l := a) (by simp only [vm, ite_true, ite_false, eq_self, reduceIte, Nat.reduceEqDiff, Option.map]) (by omega) han LitB.no ?_
  have th7 : V.thaw ix (nats tw (digs 4294967296 W)) = nats tw (digs 4294967296 W) := ktw.thaw (by omega) _
  have thr : ∀ {lo hi : Nat} {tk : Tok} {l : List Nat}, Row1 lo hi tk l → ix < lo → V.thaw ix (nats tk l) = nats tk l := fun {lo hi tk l} h hl => by
    rcases h with ⟨rfl, _⟩ | ⟨j, rfl, h, _⟩
    · exact thaw_nil ix l
    · exact thaw_id (by omega) l
  have th23 := thr r23 (by omega)
  have th26 := thr r26 (by omega)
  (repeat (first | refine v_reg ?_ | refine v_last ?_ | refine vwp_seq ?_ | refine vwp_block ?_ | refine vwp_skip ?_ | refine vwp_exit ?_ | refine vwp_ret ?_ | refine v_cond ?_ | simp only [vm, ite_true, ite_false, eq_self, reduceIte, Nat.reduceEqDiff, Option.map, killed_own, thawL_lit, h7, thawL_kn2 hps.row htb ktw, th7, th23, th26, thaw_lit] | refine And.intro (by omega) ?_))
  refine v_loop (fun S => S.ρ 7 = nats tw (digs 4294967296 W) ∧ S.ρ 22 = .buf ix 0 a.length none 1 ∧ S.ρ 23 = nats t23 (digs 18446744073709551616 W) ∧ S.ρ 25 = iv 0 ∧ S.ρ 26 = nats t26 (digs 18446744073709551616 W) ∧ S.ρ 28 = iv 0 ∧ S.σ = supd noBlk ix (nblk (a.map (· / 3))) ∧ e10 ≤ S.c) ?_ ?_
  · refine vwp_loop (fun q S => ∃ i, q = a.length - i ∧ i ≤ a.length ∧ S.ρ 7 = nats tw (digs 4294967296 W) ∧ S.ρ 22 = .buf ix 0 a.length none 1 ∧ S.ρ 23 = nats t23 (digs 18446744073709551616 W) ∧ S.ρ 25 = iv 0 ∧ S.ρ 26 = nats t26 (digs 18446744073709551616 W) ∧ S.ρ 28 = iv 0 ∧ S.ρ 155 = iv (a.length : Int) ∧ S.ρ 156 = iv (i : Int) ∧ S.σ = supd noBlk ix (nblk ((a.take i).map (· / 3) ++ a.drop i)) ∧ e10 ≤ S.c) a.length ?_ ?_
    · refine ⟨0, by omega, by omega, ?_⟩
      simp only [vm, ite_true, ite_false, eq_self, reduceIte, Nat.reduceEqDiff, Option.map, killed_own, thawL_lit, h7, thawL_kn2 hps.row htb ktw, th7, th23, th26, thaw_lit]
      (repeat' apply And.intro) <;> first | rfl | omega | assumption | (simp; done) | exact True.intro
    rintro q ⟨ρ5, σ5, e11⟩ ⟨i, hq, hi, h7, h22, h23, h25, h26, h28, h155, h156, hσ, he11⟩
    dsimp only at h7 h22 h23 h25 h26 h28 h155 h156 hσ he11
    subst hσ
    by_cases g : (i : Int) < a.length
    · have hi' : i < a.length := by omega
      have e1 : (i : Int) + 1 = ((i + 1 : Nat) : Int) := by omega
      have hl1 : ((a.take i).map (· / 3) ++ a.drop i).length = a.length := by simp; omega
      have hgt := third_get hi'
      have hst := third_set hi'
      have hai := ha.getD (i := i) (by decide)
      have hmd : a.getD i 0 / 3 % 18446744073709551616 = a.getD i 0 / 3 := Nat.mod_eq_of_lt (by omega)
      (repeat (first | refine v_reg ?_ | refine v_last ?_ | refine vwp_seq ?_ | refine vwp_block ?_ | refine vwp_skip ?_ | refine vwp_exit ?_ | refine vwp_ret ?_ | refine v_cond ?_ | simp only [vm, ite_true, ite_false, eq_self, reduceIte, Nat.reduceEqDiff, Option.map, h7, h22, h23, h25, h26, h28, h155, h156, g, hl1, hgt, hmd, hst, e1] | refine And.intro (by omega) ?_))
      exact ⟨a.length - (i + 1), by omega, i + 1, rfl, by omega, rfl, rfl, he11⟩
    · have hi' : i = a.length := by omega
      subst hi'
      (repeat (first | refine v_reg ?_ | refine v_last ?_ | refine vwp_seq ?_ | refine vwp_block ?_ | refine vwp_skip ?_ | refine vwp_exit ?_ | refine vwp_ret ?_ | refine v_cond ?_ | simp only [vm, ite_true, ite_false, eq_self, reduceIte, Nat.reduceEqDiff, Option.map, h7, h22, h23, h25, h26, h28, h155, h156, g] | refine And.intro (by omega) ?_))
      have e0 : (a.take a.length).map (· / 3) ++ a.drop a.length = a.map (· / 3) := by simp
      rw [e0]
      (repeat' apply And.intro) <;> first | rfl | omega | assumption | exact True.intro
  rintro ⟨ρ5, σ5, e11⟩ ⟨h7, h22, h23, h25, h26, h28, hσ, he11⟩
  dsimp only at h7 h22 h23 h25 h26 h28 hσ he11
  subst hσ
  have hl3 := lim_third ha
  have hn3 : (a.map (· / 3)).length = a.length := by simp
  have hb3 := bl_len hl3 (by omega)
  generalize a.map (· / 3) = a3 at *
  refine v_freeze 22 (t := ix) (off := 0) (n := a.length) (cap := none) (l := a3) (by simp only [vm, ite_true, ite_false, eq_self, reduceIte, Nat.reduceEqDiff, Option.map, h22]) (by simp only [vm, ite_true, ite_false, eq_self, reduceIte, Nat.reduceEqDiff, Option.map]) (by omega) (by omega) ?_
  rw [List.drop_zero, show a3.take a.length = a3 from List.take_of_length_le (by omega)]
  (repeat (first | refine v_reg ?_ | refine v_last ?_ | refine vwp_seq ?_ | refine vwp_block ?_ | refine vwp_skip ?_ | refine vwp_exit ?_ | refine vwp_ret ?_ | refine v_cond ?_ | simp only [vm, ite_true, ite_false, eq_self, reduceIte, Nat.reduceEqDiff, Option.map, h7, h23, h25, h26, h28] | refine And.intro (by omega) ?_))
  refine s_call (sqrt_spec (.id ix) a3 e11 hl3 (by omega)) (by simp only [vm, ite_true, ite_false, eq_self, reduceIte, Nat.reduceEqDiff, Option.map, List.map]) ?_
  rintro v d1 hd1 (⟨_, z, tz, tz2, hz, rfl, _, _⟩ | ⟨hbad, _⟩)
  rotate_left
  · omega
  have hzb := (root2_facts hz hb3).1
  (repeat (first | refine v_reg ?_ | refine v_last ?_ | refine vwp_seq ?_ | refine vwp_block ?_ | refine vwp_skip ?_ | refine vwp_exit ?_ | refine vwp_ret ?_ | refine v_cond ?_ | simp only [vm, ite_true, ite_false, eq_self, reduceIte, Nat.reduceEqDiff, Option.map, h7, h23, h25, h26, h28] | refine And.intro (by omega) ?_))
  refine s_call (num_spec 0 d1) (by simp only [vm, ite_true, ite_false, eq_self, reduceIte, Nat.reduceEqDiff, Option.map, List.map]) ?_
  rintro v d2 hd2 rfl
  (repeat (first | refine v_reg ?_ | refine v_last ?_ | refine vwp_seq ?_ | refine vwp_block ?_ | refine vwp_skip ?_ | refine vwp_exit ?_ | refine vwp_ret ?_ | refine v_cond ?_ | simp only [vm, ite_true, ite_false, eq_self, reduceIte, Nat.reduceEqDiff, Option.map, h7, h23, h25, h26, h28] | refine And.intro (by omega) ?_))
  refine s_call (num_spec 0 d2) (by simp only [vm, ite_true, ite_false, eq_self, reduceIte, Nat.reduceEqDiff, Option.map, List.map]) ?_
  rintro v d3 hd3 rfl
  (repeat (first | refine v_reg ?_ | refine v_last ?_ | refine vwp_seq ?_ | refine vwp_block ?_ | refine vwp_skip ?_ | refine vwp_exit ?_ | refine vwp_ret ?_ | refine v_cond ?_ | simp only [vm, ite_true, ite_false, eq_self, reduceIte, Nat.reduceEqDiff, Option.map, h7, h23, h25, h26, h28] | refine And.intro (by omega) ?_))
  refine s_call (num_spec 0 d3) (by simp only [vm, ite_true, ite_false, eq_self, reduceIte, Nat.reduceEqDiff, Option.map, List.map]) ?_
  rintro v d4 hd4 rfl
  (repeat (first | refine v_reg ?_ | refine v_last ?_ | refine vwp_seq ?_ | refine vwp_block ?_ | refine vwp_skip ?_ | refine vwp_exit ?_ | refine vwp_ret ?_ | refine v_cond ?_ | simp only [vm, ite_true, ite_false, eq_self, reduceIte, Nat.reduceEqDiff, Option.map, h7, h23, h25, h26, h28] | refine And.intro (by omega) ?_))
  refine s_call (is_spec tw t23 W (digs 18446744073709551616 W) d4 w32 w64) (by simp only [vm, ite_true, ite_false, eq_self, reduceIte, Nat.reduceEqDiff, Option.map, List.map, h7, h23, h25, h26, h28]) ?_
  rintro v d5 hd5 rfl
  (repeat (first | refine v_reg ?_ | refine v_last ?_ | refine vwp_seq ?_ | refine vwp_block ?_ | refine vwp_skip ?_ | refine vwp_exit ?_ | refine vwp_ret ?_ | refine v_cond ?_ | simp only [vm, ite_true, ite_false, eq_self, reduceIte, Nat.reduceEqDiff, Option.map, h7, h23, h25, h26, h28] | refine And.intro (by omega) ?_))
  refine s_call (is_spec tw t26 W (digs 18446744073709551616 W) d5 w32 w64) (by simp only [vm, ite_true, ite_false, eq_self, reduceIte, Nat.reduceEqDiff, Option.map, List.map, h7, h23, h25, h26, h28]) ?_
  rintro v d6 hd6 rfl
  (repeat (first | refine v_reg ?_ | refine v_last ?_ | refine vwp_seq ?_ | refine vwp_block ?_ | refine vwp_skip ?_ | refine vwp_exit ?_ | refine vwp_ret ?_ | refine v_cond ?_ | simp only [vm, ite_true, ite_false, eq_self, reduceIte, Nat.reduceEqDiff, Option.map, h7, h23, h25, h26, h28] | refine And.intro (by omega) ?_))
  refine s_call (of_spec (.id ix) a3 d6 hl3 (by omega)) (by simp only [vm, ite_true, ite_false, eq_self, reduceIte, Nat.reduceEqDiff, Option.map, List.map]) ?_
  rintro v d7 hd7 ⟨i7, rfl, _, _⟩
  (repeat (first | refine v_reg ?_ | refine v_last ?_ | refine vwp_seq ?_ | refine vwp_block ?_ | refine vwp_skip ?_ | refine vwp_exit ?_ | refine vwp_ret ?_ | refine v_cond ?_ | simp only [vm, ite_true, ite_false, eq_self, reduceIte, Nat.reduceEqDiff, Option.map, h7, h23, h25, h26, h28] | refine And.intro (by omega) ?_))
  refine s_call (root01_spec (.id i7) (val 18446744073709551616 a3) d7 hb3) (by simp only [vm, ite_true, ite_false, eq_self, reduceIte, Nat.reduceEqDiff, Option.map, List.map]) ?_
  rintro v d8 hd8 ⟨t8, z2, rfl, hz2⟩
  obtain rfl := root_unique hz hz2
  (repeat (first | refine v_reg ?_ | refine v_last ?_ | refine vwp_seq ?_ | refine vwp_block ?_ | refine vwp_skip ?_ | refine vwp_exit ?_ | refine vwp_ret ?_ | refine v_cond ?_ | simp only [vm, ite_true, ite_false, eq_self, reduceIte, Nat.reduceEqDiff, Option.map, h7, h23, h25, h26, h28] | refine And.intro (by omega) ?_))
  refine s_call (is_spec t8 tz z (digs 18446744073709551616 z) d8 (Nat.le_trans (len32_bl (k := 2097152) (by omega)) (by decide)) (Nat.le_trans (digs_len_bl (k := 1048576) (by omega)) (by decide))) (by simp only [vm, ite_true, ite_false, eq_self, reduceIte, Nat.reduceEqDiff, Option.map, List.map]) ?_
  rintro v d9 hd9 rfl
  (repeat (first | refine v_reg ?_ | refine v_last ?_ | refine vwp_seq ?_ | refine vwp_block ?_ | refine vwp_skip ?_ | refine vwp_exit ?_ | refine vwp_ret ?_ | refine v_cond ?_ | simp only [vm, ite_true, ite_false, eq_self, reduceIte, Nat.reduceEqDiff, Option.map, h7, h23, h25, h26, h28] | refine And.intro (by omega) ?_))
  refine s_call (awake_spec d9) (by simp only [vm, ite_true, ite_false, eq_self, reduceIte, Nat.reduceEqDiff, Option.map, List.map]) ?_
  rintro v d10 hd10 rfl
  (repeat (first | refine v_reg ?_ | refine v_last ?_ | refine vwp_seq ?_ | refine vwp_block ?_ | refine vwp_skip ?_ | refine vwp_exit ?_ | refine vwp_ret ?_ | refine v_cond ?_ | simp only [vm, ite_true, ite_false, eq_self, reduceIte, Nat.reduceEqDiff, Option.map] | refine And.intro (by omega) ?_))
  omega
end Go.Proofs.Ytladcfeibpddeab
set_option linter.unusedVariables false
set_option maxRecDepth 100000
namespace Go.Proofs.Ytladcfeibpddeab
open Go.VM Go.ChangeShapes Go.WideShapes Go.ChangeAt Go.RowKit

theorem own : ownKnob Try.prog.godebug = none := by kernel_rfl
theorem cellsOfE : Try.prog.cellsOf 54 = 1 := by kernel_rfl
theorem rep_ints {W : World} {xs : List V} {vs : Array Value} {l : List (V × Value)} {μ : Nat → Nat} {n : Nat} (hx : xs = l.map Prod.fst) (hv : vs = (l.map Prod.snd).toArray) (h : ∀ p ∈ l, Rep W (fun b => b < W.heap.size) μ n p.1 p.2) :
    ∀ (j : Nat) (x : V) (v : Value), xs[j]? = some x → vs[j]? = some v → Rep W (fun b => b < W.heap.size) μ n x v := by
  intro j x v h1 h2
  subst hx hv
  rw [List.getElem?_map] at h1
  obtain ⟨p, hp, rfl⟩ := Option.map_eq_some_iff.1 h1
  have h2' : (l.map Prod.snd)[j]? = some v := by simpa using h2
  rw [List.getElem?_map, hp] at h2'
  cases h2'
  exact h p (List.mem_of_getElem? hp)
theorem wf_i64 {n : Int} (h : (Lit.int .i64 n).wf = true) : -9223372036854775808 ≤ n ∧ n < 9223372036854775808 := by
  simp [Lit.wf, IntKind.min, IntKind.max, IntKind.signed, IntKind.bits] at h
  omega

theorem row_contract (H : Type) (enc : TypeId × Value → H) (W : World) (base : Nat) (args : Array Value) (ds gs : List (DataW H)) (before : List MemPlace)
    (hval : ∀ (j : Nat) t v, Try.f4.params[j]? = some t → args[j]? = some v → Value.okWide Try.prog W .any base t v)
    (hW : DataW.Whole enc Try.prog Try.f4.params.toList Rows.rootOwnSpec.vars false W args.toList ds gs before) (hk : Rows.uptoSmall H (ds ++ gs) = true) :
    Calls Try.prog 4 args W fun e W' => ∃ v, e = .returned v ∧ Rows.rootOwnSpec.post enc Try.prog Try.f4 false true false false W args v W' := by
  have hW' := hW
  obtain ⟨p, q, hA0, hV, rfl, hfz, hnd⟩ := hW
  have hA : DataW.TrodAll enc Try.prog W 0 (fun _ => true) true Try.f4.params.toList args.toList ds p := hA0
  rw [Try.params4] at hA hval
  obtain ⟨v0, vs0, d0, ds0, p0, q0, hargs, rfl, rfl, h0, r0⟩ := trodAll_cons hA
  obtain ⟨v1, vs1, d1, ds1, p1, q1, hargs1, rfl, rfl, h1, r1⟩ := trodAll_cons r0
  obtain ⟨v2, vs2, d2, ds2, p2, q2, hargs2, rfl, rfl, h2, r2⟩ := trodAll_cons r1
  obtain ⟨rfl, rfl, rfl⟩ := trodAll_nil r2
  obtain rfl : args = #[v0, v1, v2] := by cases args; simp_all
  obtain ⟨rfl, rfl⟩ := trodVars_none hV
  clear hA0
  have hv0 := hval 0 22 v0 rfl rfl
  have hv1 := hval 1 22 v1 rfl rfl
  obtain ⟨n2, rfl, rfl, rfl, w2⟩ := open_int Try.underlying3 (hval 2 3 v2 rfl rfl) h2
  simp only [List.append_nil] at hW' hk
  obtain ⟨l, hl, hrep, hbulk, hshut⟩ := slice_arg Try.underlying22 Try.underlying54 cellsOfE hv0 h0 (fun p hp => hW'.lt p (List.mem_append_left _ hp))
  obtain ⟨l2, hl2, hrep2, hbulk2, hshut2⟩ := slice_arg Try.underlying22 Try.underlying54 cellsOfE hv1 h1 (fun p hp => hW'.lt p (List.mem_append_right _ hp))
  have hb : Rows.uptoBulkAll [d0, d1, .lit (.int .i64 n2)] ≤ 1048576 := of_decide_eq_true hk
  simp only [Rows.uptoBulkAll, Rows.uptoBulk] at hb
  obtain ⟨b2, b2'⟩ := wf_i64 w2
  obtain ⟨n9, μ9, t9, u9, ht9, hu9, hμ9, hrep, hrep2⟩ := told_two hrep hrep2
  obtain ⟨r, c9, _, hc9, hr9⟩ := own_law t9 u9 l l2 n2 n9 ht9 hu9 hl hl2 (by omega) (by omega) b2 b2'
  subst hr9
  refine (calls_sameT hc9 W μ9 hμ9 #[v0, v1, .int .i64 n2] rfl (rep_ints (l := [(nats t9 l, v0), (nats u9 l2, v1), (iv n2, .int .i64 n2)]) rfl rfl (fun p hp => ?_)) ⟨_, rfl⟩).mono fun e W' ⟨v, he, hv, hs⟩ => ?_
  · simp only [List.mem_cons, List.not_mem_nil, or_false] at hp
    rcases hp with rfl | rfl | rfl
    · exact hrep
    · exact hrep2
    · exact .lit _
  subst he
  cases hv
  exact ⟨_, rfl, post_kept (pa := p0 ++ p1) (pv := []) hW' hs (fun _ _ _ => trodAll_cons_mk (shut_bool Try.underlying4 _) trodAll_mk0)
    (fun sp hsp => by
      have t0 := trodAll_cons_mk (hshut W' hs sp (fun p hp => hsp p (List.mem_append_left _ hp))) (trodAll_cons_mk (hshut2 W' hs sp (fun p hp => hsp p (List.mem_append_right _ hp))) (trodAll_cons_mk (shut_int Try.underlying3 w2) trodAll_mk0))
      simp only [List.append_nil] at t0
      rw [Try.params4]
      exact t0) (fun _ _ => rfl) (by simp)
    (ok_one (by kernel_rfl) rfl (okWide_bool_mk Try.underlying4 _))⟩

theorem row_lifted (os : Os) (started : os.Started) (H : Type) (enc : TypeId × Value → H) (F : Stop.Interp) :
    ReturnsInHanded {} Try.checked os 4 .any ((Rows.OpenSpec.upto Rows.rootOwnSpec).pre6 enc Try.prog Try.f4 Rows.rootOwnUptoRow.domain false) (((Rows.OpenSpec.upto Rows.rootOwnSpec).at F).post enc Try.prog Try.f4 false true false false) := by
  refine returnsInHanded_of_cond (C := Try.checked) (s := Rows.OpenSpec.upto Rows.rootOwnSpec) (k := Rows.uptoSmall) rfl own started (by kernel_rfl) Try.func4
    (OpenSpec.witness (enc := enc) (C := Try.checked) (s := Rows.OpenSpec.upto Rows.rootOwnSpec) (k := Rows.uptoSmall) rfl false ⟨#[], #[.slice none 0 0, .slice none 0 0, .int .i64 0], []⟩ 8 (by kernel_rfl) (by kernel_rfl) (by kernel_rfl)
      (x := ([.nil, .nil, .lit (.int .i64 0)], [], [])) (by kernel_rfl) rfl (by kernel_rfl)) ?_
  intro W base args ds gs before hval hW _ hk _
  exact row_contract H enc W base args ds gs before hval hW hk

theorem row_holds : Rows.RootOwnUptoSaid :=
  OpenClaim.holds_of_cond 4 Try.f4 rfl rfl rfl rfl rfl rfl rfl ⟨rfl, rfl, rfl, rfl, rfl⟩ rfl rfl rfl rfl rfl (by kernel_rfl) Try.func4 (by kernel_rfl)
    (of_decide_eq_true (by kernel_rfl)) (by unfold Func.isWrapper; first | (rw [if_pos (by decide +kernel)]; kernel_rfl) | (rw [if_neg (by decide +kernel)]; exact ⟨rfl, rfl⟩))
    (fun os started H enc _ F => row_lifted os started H enc F)
#print axioms row_holds
end Go.Proofs.Ytladcfeibpddeab
