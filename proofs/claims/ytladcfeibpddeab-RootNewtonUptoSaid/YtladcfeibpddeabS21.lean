import Derived.Test.YtladcfeibpddeabS20
set_option linter.unusedSimpArgs false
set_option linter.unusedVariables false
set_option maxRecDepth 100000
set_option maxHeartbeats 8000000
namespace Go.Proofs.Ytladcfeibpddeab
open Go.VM
theorem two32 : 2 ≤ 4294967296 := by decide

section
variable {P : Program} {dr : Bool} {c0 : Nat} {ρ : Nat → V} {σ : Nat → Option Blk} {c i : Nat} {r : List VO} {K : VS → Prop}
theorem s_bsl2 {x y : X} {n m : Nat} (h : x.ev ρ = nv n) (h' : y.ev ρ = nv m) (hk : wps P dr c0 r ⟨upd ρ i (nats (.id c) [n, m]), σ, c + 1⟩ K) : wps P dr c0 (⟨some i, .bsl true 1 2 [.int .u64 0] [(0, (1, x)), (1, (1, y))], none⟩ :: r) ⟨ρ, σ, c⟩ K := by
  refine s_eff rfl (by intros; exact fun h => by cases h) (by intros; exact fun h => by cases h) ⟨_, _, _, none, .bsl (cs := [nv n, nv m]) ?_, hk⟩
  simp only [partsOf, List.map, h, h']
  rfl
theorem s_appfit {x y : X} {t n cap : Nat} {w rest ys : List Nat} {u : Tok} (hx : x.ev ρ = .buf t 0 n (some cap) 1) (ht : σ t = nblk (w ++ rest)) (hw : w.length = n) (hy : y.ev ρ = nats u ys) (h1 : n + ys.length ≤ cap) (h2 : ys.length ≤ rest.length)
    (hk : wps P dr c0 r ⟨upd ρ i (.buf t 0 (n + ys.length) (some cap) 1), supd σ t (nblk ((w ++ ys) ++ rest.drop ys.length)), c⟩ K) : wps P dr c0 (⟨some i, .app 1 8 [.int .u64 0] x y, none⟩ :: r) ⟨ρ, σ, c⟩ K := by
  have hc : vcells 1 σ (y.ev ρ) = some (ys.map nv) := by rw [hy]; cases u <;> rfl
  refine s_eff rfl (by intros; exact fun h => by cases h) (by intros; exact fun h => by cases h) ⟨_, _, _, none, .appFit (k := ys.length) hx ht hc (by simp) h1 (by simp; omega), ?_⟩
  have e : putCells ((w ++ rest).map nv) (n * 1) (ys.map nv) = ((w ++ ys) ++ rest.drop ys.length).map nv := by
    rw [Nat.mul_one, putCells_all _ _ _ (by simp; omega)]
    rw [← hw]
    simp [List.map_drop, List.drop_append]
  rw [e]
  exact hk
end

theorem norm32_spec (t : Tok) (l : List Nat) (c : Nat) (hl : Lim 4294967296 l) (hn : l.length ≤ 4398046511104) : VSpec Try.prog F.surdref01_norm c [nats t l] (fun r _ => r = nats t (digs 4294967296 (val 4294967296 l))) := by
  rw [← trim_digs two32 hl]
  refine spec_mk hm E.surdref01_norm B.surdref01_norm K.surdref01_norm Q.surdref01_norm (by rw [N.surdref01_norm]; simp) ?_
  unfold C.surdref01_norm R.surdref01_norm
  (repeat (first | refine v_reg ?_ | refine v_last ?_ | refine vwp_seq ?_ | refine vwp_block ?_ | refine vwp_skip ?_ | refine vwp_exit ?_ | refine vwp_ret ?_ | refine v_cond ?_ | simp only [vm, ite_true, ite_false, reduceIte, Nat.reduceEqDiff, Option.map, decide_eq_true_eq, decide_eq_false_iff_not, Bool.not_eq_true, decide_true, decide_false, Bool.not_true, Bool.not_false, Bool.false_eq_true, not_true_eq_false, not_false_eq_true, eq_self, and_true, true_and] | refine And.intro (by omega) ?_))
  refine v_loop (fun S => ∃ n : Nat, S.ρ 0 = nats t l ∧ S.ρ 3 = iv (n : Int) ∧ n ≤ l.length ∧ l.take n = trimL l ∧ S.σ = noBlk ∧ S.c = c) ?_ ?_
  · refine vwp_loop (fun n S => S.ρ 0 = nats t l ∧ S.ρ 3 = iv (n : Int) ∧ n ≤ l.length ∧ trimL (l.take n) = trimL l ∧ S.σ = noBlk ∧ S.c = c) l.length ?_ ?_
    · refine ⟨?_, ?_⟩
      · simp only [vm, ite_true, ite_false, reduceIte, Nat.reduceEqDiff, Option.map, decide_eq_true_eq, decide_eq_false_iff_not, Bool.not_eq_true, decide_true, decide_false, Bool.not_true, Bool.not_false, Bool.false_eq_true, not_true_eq_false, not_false_eq_true, eq_self, and_true, true_and]
      · simp only [vm, ite_true, ite_false, reduceIte, Nat.reduceEqDiff, Option.map, decide_eq_true_eq, decide_eq_false_iff_not, Bool.not_eq_true, decide_true, decide_false, Bool.not_true, Bool.not_false, Bool.false_eq_true, not_true_eq_false, not_false_eq_true, eq_self, and_true, true_and, List.take_length]
        (repeat' apply And.intro) <;> first | rfl | omega | assumption
    rintro n ⟨ρ, σ, k⟩ ⟨h0, h3, hn2, ht, hσ, hk⟩
    dsimp only at h0 h3 hσ hk
    subst hσ hk
    rcases Nat.eq_zero_or_pos n with rfl | hp
    · have g : ¬ (0 : Int) < ((0 : Nat) : Int) := by omega
      (repeat (first | refine v_reg ?_ | refine v_last ?_ | refine vwp_seq ?_ | refine vwp_block ?_ | refine vwp_skip ?_ | refine vwp_exit ?_ | refine vwp_ret ?_ | refine v_cond ?_ | simp only [vm, ite_true, ite_false, reduceIte, Nat.reduceEqDiff, Option.map, decide_eq_true_eq, decide_eq_false_iff_not, Bool.not_eq_true, decide_true, decide_false, Bool.not_true, Bool.not_false, Bool.false_eq_true, not_true_eq_false, not_false_eq_true, eq_self, and_true, true_and, h0, h3, g] | refine And.intro (by omega) ?_))
      exact ⟨0, rfl, by omega, by rw [← ht]; rfl⟩
    · obtain ⟨i, rfl⟩ : ∃ i, n = i + 1 := ⟨n - 1, by omega⟩
      have g : (0 : Int) < ((i + 1 : Nat) : Int) := by omega
      have e1 : (((i + 1 : Nat) : Int) - 1) = (i : Int) := by omega
      have hts := take_snoc (l := l) (i := i) (by omega)
      rw [hts] at ht
      by_cases gz : l.getD i 0 = 0
      · rw [gz, trimL_zero] at ht
        (repeat (first | refine v_reg ?_ | refine v_last ?_ | refine vwp_seq ?_ | refine vwp_block ?_ | refine vwp_skip ?_ | refine vwp_exit ?_ | refine vwp_ret ?_ | refine v_cond ?_ | simp only [vm, ite_true, ite_false, reduceIte, Nat.reduceEqDiff, Option.map, decide_eq_true_eq, decide_eq_false_iff_not, Bool.not_eq_true, decide_true, decide_false, Bool.not_true, Bool.not_false, Bool.false_eq_true, not_true_eq_false, not_false_eq_true, eq_self, and_true, true_and, h0, h3, g, e1, gz] | refine And.intro (by omega) ?_))
        exact ⟨i, by omega, rfl, by omega, ht⟩
      · rw [trimL_pos _ _ gz] at ht
        (repeat (first | refine v_reg ?_ | refine v_last ?_ | refine vwp_seq ?_ | refine vwp_block ?_ | refine vwp_skip ?_ | refine vwp_exit ?_ | refine vwp_ret ?_ | refine v_cond ?_ | simp only [vm, ite_true, ite_false, reduceIte, Nat.reduceEqDiff, Option.map, decide_eq_true_eq, decide_eq_false_iff_not, Bool.not_eq_true, decide_true, decide_false, Bool.not_true, Bool.not_false, Bool.false_eq_true, not_true_eq_false, not_false_eq_true, eq_self, and_true, true_and, h0, h3, g, e1, gz] | refine And.intro (by omega) ?_))
        exact ⟨i + 1, rfl, by omega, by rw [hts]; exact ht⟩
  rintro ⟨ρ, σ, k⟩ ⟨n, h0, h3, hn2, ht, hσ, hk⟩
  dsimp only at h0 h3 hσ hk
  subst hσ hk
  (repeat (first | refine v_reg ?_ | refine v_last ?_ | refine vwp_seq ?_ | refine vwp_block ?_ | refine vwp_skip ?_ | refine vwp_exit ?_ | refine vwp_ret ?_ | refine v_cond ?_ | simp only [vm, ite_true, ite_false, reduceIte, Nat.reduceEqDiff, Option.map, decide_eq_true_eq, decide_eq_false_iff_not, Bool.not_eq_true, decide_true, decide_false, Bool.not_true, Bool.not_false, Bool.false_eq_true, not_true_eq_false, not_false_eq_true, eq_self, and_true, true_and, h0, h3] | refine And.intro (by omega) ?_))
  rw [ht]

theorem of_spec (t : Tok) (a : List Nat) (c : Nat) (ha : Lim 18446744073709551616 a) (hna : a.length ≤ 1099511627776) :
    VSpec Try.prog F.surdref01_Of c [nats t a] (fun r c' => ∃ i, r = nats (.id i) (digs 4294967296 (val 18446744073709551616 a)) ∧ c ≤ i ∧ i < c') := by
  refine spec_mk hm E.surdref01_Of B.surdref01_Of K.surdref01_Of Q.surdref01_Of (by rw [N.surdref01_Of]; simp) ?_
  unfold C.surdref01_Of R.surdref01_Of
  (repeat (first | refine v_reg ?_ | refine v_last ?_ | refine vwp_seq ?_ | refine vwp_block ?_ | refine vwp_skip ?_ | refine vwp_exit ?_ | refine vwp_ret ?_ | refine v_cond ?_ | simp only [vm, ite_true, ite_false, reduceIte, Nat.reduceEqDiff, Option.map, decide_eq_true_eq, decide_eq_false_iff_not, Bool.not_eq_true, decide_true, decide_false, Bool.not_true, Bool.not_false, Bool.false_eq_true, not_true_eq_false, not_false_eq_true, eq_self, and_true, true_and] | refine And.intro (by omega) ?_))
  refine s_mk (n := 0) (m := 2 * a.length) (by simp only [vm, ite_true, ite_false, reduceIte, Nat.reduceEqDiff, Option.map, decide_eq_true_eq, decide_eq_false_iff_not, Bool.not_eq_true, decide_true, decide_false, Bool.not_true, Bool.not_false, Bool.false_eq_true, not_true_eq_false, not_false_eq_true, eq_self, and_true, true_and]; rfl) (by simp only [vm, ite_true, ite_false, reduceIte, Nat.reduceEqDiff, Option.map, decide_eq_true_eq, decide_eq_false_iff_not, Bool.not_eq_true, decide_true, decide_false, Bool.not_true, Bool.not_false, Bool.false_eq_true, not_true_eq_false, not_false_eq_true, eq_self, and_true, true_and]; rfl) (by omega) (by omega) ?_
  (repeat (first | refine v_reg ?_ | refine v_last ?_ | refine vwp_seq ?_ | refine vwp_block ?_ | refine vwp_skip ?_ | refine vwp_exit ?_ | refine vwp_ret ?_ | refine v_cond ?_ | simp only [vm, ite_true, ite_false, reduceIte, Nat.reduceEqDiff, Option.map, decide_eq_true_eq, decide_eq_false_iff_not, Bool.not_eq_true, decide_true, decide_false, Bool.not_true, Bool.not_false, Bool.false_eq_true, not_true_eq_false, not_false_eq_true, eq_self, and_true, true_and] | refine And.intro (by omega) ?_))
  refine v_loop (fun S => ∃ w, w.length = 2 * a.length ∧ Lim 4294967296 w ∧ val 4294967296 w = val 18446744073709551616 a ∧ S.ρ 3 = .buf c 0 (2 * a.length) (some (2 * a.length)) 1 ∧ S.σ = supd noBlk c (nblk w) ∧ c + 1 ≤ S.c) ?_ ?_
  · refine vwp_loop (fun k S => ∃ i w, k = a.length - i ∧ i ≤ a.length ∧ w.length = 2 * i ∧ Lim 4294967296 w ∧ val 4294967296 w = val 18446744073709551616 (a.take i) ∧ S.ρ 10 = nats t a ∧ S.ρ 11 = iv a.length ∧ S.ρ 12 = iv i ∧ S.ρ 3 = .buf c 0 (2 * i) (some (2 * a.length)) 1 ∧ S.σ = supd noBlk c (nblk (w ++ List.replicate (2 * a.length - 2 * i) 0)) ∧ c + 1 ≤ S.c) a.length ?_ ?_
    · refine ⟨0, [], by omega, by omega, ?_⟩
      simp only [vm, ite_true, ite_false, reduceIte, Nat.reduceEqDiff, Option.map, decide_eq_true_eq, decide_eq_false_iff_not, Bool.not_eq_true, decide_true, decide_false, Bool.not_true, Bool.not_false, Bool.false_eq_true, not_true_eq_false, not_false_eq_true, eq_self, and_true, true_and]
      (repeat' apply And.intro) <;> first | rfl | omega | assumption | exact Lim.nil | (simp [val]; done)
    rintro k ⟨ρ2, σ, c4⟩ ⟨i, w, hk, hi, hw, hlw, hinv, h10, h11, h12, h3, hσ, hc4⟩
    dsimp only at h10 h11 h12 h3 hσ hc4
    subst hσ
    by_cases g : (i : Int) < a.length
    · have hi' : i < a.length := by omega
      have hxi := ha.getD (i := i) (by decide)
      have hval := val_take (b := 18446744073709551616) hi'
      (repeat (first | refine v_reg ?_ | refine v_last ?_ | refine vwp_seq ?_ | refine vwp_block ?_ | refine vwp_skip ?_ | refine vwp_exit ?_ | refine vwp_ret ?_ | refine v_cond ?_ | simp only [vm, ite_true, ite_false, reduceIte, Nat.reduceEqDiff, Option.map, decide_eq_true_eq, decide_eq_false_iff_not, Bool.not_eq_true, decide_true, decide_false, Bool.not_true, Bool.not_false, Bool.false_eq_true, not_true_eq_false, not_false_eq_true, eq_self, and_true, true_and, h10, h11, h12, h3, g] | refine And.intro (by omega) ?_))
      have hq : a.getD i 0 / 4294967296 % 18446744073709551616 = a.getD i 0 / 4294967296 := Nat.mod_eq_of_lt (by omega)
      refine s_bsl2 (n := a.getD i 0 % 4294967296) (m := a.getD i 0 / 4294967296) (by simp only [vm, ite_true, ite_false, reduceIte, Nat.reduceEqDiff, Option.map, decide_eq_true_eq, decide_eq_false_iff_not, Bool.not_eq_true, decide_true, decide_false, Bool.not_true, Bool.not_false, Bool.false_eq_true, not_true_eq_false, not_false_eq_true, eq_self, and_true, true_and]) (by simp only [vm, ite_true, ite_false, reduceIte, Nat.reduceEqDiff, Option.map, decide_eq_true_eq, decide_eq_false_iff_not, Bool.not_eq_true, decide_true, decide_false, Bool.not_true, Bool.not_false, Bool.false_eq_true, not_true_eq_false, not_false_eq_true, eq_self, and_true, true_and, hq]) ?_
      refine s_appfit (t := c) (n := 2 * i) (cap := 2 * a.length) (w := w) (rest := List.replicate (2 * a.length - 2 * i) 0) (u := .id c4) (ys := [a.getD i 0 % 4294967296, a.getD i 0 / 4294967296]) (by simp only [vm, ite_true, ite_false, reduceIte, Nat.reduceEqDiff, Option.map, decide_eq_true_eq, decide_eq_false_iff_not, Bool.not_eq_true, decide_true, decide_false, Bool.not_true, Bool.not_false, Bool.false_eq_true, not_true_eq_false, not_false_eq_true, eq_self, and_true, true_and]) (by simp only [vm, ite_true, ite_false, reduceIte, Nat.reduceEqDiff, Option.map, decide_eq_true_eq, decide_eq_false_iff_not, Bool.not_eq_true, decide_true, decide_false, Bool.not_true, Bool.not_false, Bool.false_eq_true, not_true_eq_false, not_false_eq_true, eq_self, and_true, true_and]) hw (by simp only [vm, ite_true, ite_false, reduceIte, Nat.reduceEqDiff, Option.map, decide_eq_true_eq, decide_eq_false_iff_not, Bool.not_eq_true, decide_true, decide_false, Bool.not_true, Bool.not_false, Bool.false_eq_true, not_true_eq_false, not_false_eq_true, eq_self, and_true, true_and]) (by simp; omega) (by simp; omega) ?_
      have hdrop : (List.replicate (2 * a.length - 2 * i) 0).drop [a.getD i 0 % 4294967296, a.getD i 0 / 4294967296].length = List.replicate (2 * a.length - 2 * (i + 1)) 0 := by
        rw [List.drop_replicate]; congr 1 <;> first | omega | (simp; done) | (simp; omega)
      have hlen2 : 2 * i + [a.getD i 0 % 4294967296, a.getD i 0 / 4294967296].length = 2 * (i + 1) := by simp; omega
      rw [hdrop, hlen2]
      (repeat (first | refine v_reg ?_ | refine v_last ?_ | refine vwp_seq ?_ | refine vwp_block ?_ | refine vwp_skip ?_ | refine vwp_exit ?_ | refine vwp_ret ?_ | refine v_cond ?_ | simp only [vm, ite_true, ite_false, reduceIte, Nat.reduceEqDiff, Option.map, decide_eq_true_eq, decide_eq_false_iff_not, Bool.not_eq_true, decide_true, decide_false, Bool.not_true, Bool.not_false, Bool.false_eq_true, not_true_eq_false, not_false_eq_true, eq_self, and_true, true_and, h10, h11, h12, h3] | refine And.intro (by omega) ?_))
      have hv : val 4294967296 (w ++ [a.getD i 0 % 4294967296, a.getD i 0 / 4294967296]) = val 18446744073709551616 (a.take (i + 1)) := by
        rw [val_append, hw, hinv, hval, pow32, pow64, show 32 * (2 * i) = 64 * i by omega]
        congr 1
        congr 1
        simp only [val]
        omega
      refine ⟨a.length - (i + 1), by omega, i + 1, w ++ [a.getD i 0 % 4294967296, a.getD i 0 / 4294967296], ?_⟩
      (repeat' apply And.intro) <;> first | rfl | omega | assumption | (simp [hw]; done) | (simp [hw]; omega) | exact hlw.append (.cons (Nat.mod_lt _ (by decide)) (.cons (by omega) .nil)) | exact hv
    · have hi' : i = a.length := by omega
      subst hi'
      (repeat (first | refine v_reg ?_ | refine v_last ?_ | refine vwp_seq ?_ | refine vwp_block ?_ | refine vwp_skip ?_ | refine vwp_exit ?_ | refine vwp_ret ?_ | refine v_cond ?_ | simp only [vm, ite_true, ite_false, reduceIte, Nat.reduceEqDiff, Option.map, decide_eq_true_eq, decide_eq_false_iff_not, Bool.not_eq_true, decide_true, decide_false, Bool.not_true, Bool.not_false, Bool.false_eq_true, not_true_eq_false, not_false_eq_true, eq_self, and_true, true_and, h10, h11, h12, h3, g] | refine And.intro (by omega) ?_))
      rw [List.take_length] at hinv
      refine ⟨w, ?_⟩
      have e0 : w ++ List.replicate (2 * a.length - 2 * a.length) 0 = w := by simp
      rw [e0]
      (repeat' apply And.intro) <;> first | rfl | omega | assumption
  rintro ⟨ρ3, σ, c5⟩ ⟨w, hw, hlw, hvw, h3, hσ, hc5⟩
  dsimp only at h3 hσ hc5
  subst hσ
  refine v_freeze 3 (t := c) (off := 0) (n := 2 * a.length) (cap := some (2 * a.length)) (l := w) (by simp only [vm, ite_true, ite_false, reduceIte, Nat.reduceEqDiff, Option.map, decide_eq_true_eq, decide_eq_false_iff_not, Bool.not_eq_true, decide_true, decide_false, Bool.not_true, Bool.not_false, Bool.false_eq_true, not_true_eq_false, not_false_eq_true, eq_self, and_true, true_and, h3]) (by simp only [vm, ite_true, ite_false, reduceIte, Nat.reduceEqDiff, Option.map, decide_eq_true_eq, decide_eq_false_iff_not, Bool.not_eq_true, decide_true, decide_false, Bool.not_true, Bool.not_false, Bool.false_eq_true, not_true_eq_false, not_false_eq_true, eq_self, and_true, true_and]) (by omega) (by omega) ?_
  rw [List.drop_zero, show w.take (2 * a.length) = w from List.take_of_length_le (by omega)]
  (repeat (first | refine v_reg ?_ | refine v_last ?_ | refine vwp_seq ?_ | refine vwp_block ?_ | refine vwp_skip ?_ | refine vwp_exit ?_ | refine vwp_ret ?_ | refine v_cond ?_ | simp only [vm, ite_true, ite_false, reduceIte, Nat.reduceEqDiff, Option.map, decide_eq_true_eq, decide_eq_false_iff_not, Bool.not_eq_true, decide_true, decide_false, Bool.not_true, Bool.not_false, Bool.false_eq_true, not_true_eq_false, not_false_eq_true, eq_self, and_true, true_and] | refine And.intro (by omega) ?_))
  refine s_call (norm32_spec (.id c) w c5 hlw (by omega)) (by simp only [vm, ite_true, ite_false, reduceIte, Nat.reduceEqDiff, Option.map, decide_eq_true_eq, decide_eq_false_iff_not, Bool.not_eq_true, decide_true, decide_false, Bool.not_true, Bool.not_false, Bool.false_eq_true, not_true_eq_false, not_false_eq_true, eq_self, and_true, true_and, List.map]) ?_
  rintro v c6 hc6 rfl
  rw [hvw]
  (repeat (first | refine v_reg ?_ | refine v_last ?_ | refine vwp_seq ?_ | refine vwp_block ?_ | refine vwp_skip ?_ | refine vwp_exit ?_ | refine vwp_ret ?_ | refine v_cond ?_ | simp only [vm, ite_true, ite_false, reduceIte, Nat.reduceEqDiff, Option.map, decide_eq_true_eq, decide_eq_false_iff_not, Bool.not_eq_true, decide_true, decide_false, Bool.not_true, Bool.not_false, Bool.false_eq_true, not_true_eq_false, not_false_eq_true, eq_self, and_true, true_and] | refine And.intro (by omega) ?_))
  exact ⟨c, rfl, by omega, by omega⟩

theorem int_spec (n c : Nat) (hn : n < 9223372036854775808) : VSpec Try.prog F.surdref01_Int c [iv n] (fun r c' => ∃ i, r = nats (.id i) (digs 4294967296 n) ∧ c ≤ i ∧ i < c') := by
  refine spec_mk hm E.surdref01_Int B.surdref01_Int K.surdref01_Int Q.surdref01_Int (by rw [N.surdref01_Int]; simp) ?_
  unfold C.surdref01_Int R.surdref01_Int
  (repeat (first | refine v_reg ?_ | refine v_last ?_ | refine vwp_seq ?_ | refine vwp_block ?_ | refine vwp_skip ?_ | refine vwp_exit ?_ | refine vwp_ret ?_ | refine v_cond ?_ | simp only [vm, ite_true, ite_false, reduceIte, Nat.reduceEqDiff, Option.map, decide_eq_true_eq, decide_eq_false_iff_not, Bool.not_eq_true, decide_true, decide_false, Bool.not_true, Bool.not_false, Bool.false_eq_true, not_true_eq_false, not_false_eq_true, eq_self, and_true, true_and] | refine And.intro (by omega) ?_))
  refine s_bsl1 (n := n) (by simp only [vm, ite_true, ite_false, reduceIte, Nat.reduceEqDiff, Option.map, decide_eq_true_eq, decide_eq_false_iff_not, Bool.not_eq_true, decide_true, decide_false, Bool.not_true, Bool.not_false, Bool.false_eq_true, not_true_eq_false, not_false_eq_true, eq_self, and_true, true_and]) ?_
  have hl : Lim 18446744073709551616 [n] := .cons (by omega) .nil
  refine s_call (of_spec (.id c) [n] (c + 1) hl (by simp)) (by simp only [vm, ite_true, ite_false, reduceIte, Nat.reduceEqDiff, Option.map, decide_eq_true_eq, decide_eq_false_iff_not, Bool.not_eq_true, decide_true, decide_false, Bool.not_true, Bool.not_false, Bool.false_eq_true, not_true_eq_false, not_false_eq_true, eq_self, and_true, true_and, List.map]) ?_
  rintro v c1 hc1 ⟨i, rfl, hi1, hi2⟩
  have e : val 18446744073709551616 [n] = n := by simp [val]
  rw [e]
  (repeat (first | refine v_reg ?_ | refine v_last ?_ | refine vwp_seq ?_ | refine vwp_block ?_ | refine vwp_skip ?_ | refine vwp_exit ?_ | refine vwp_ret ?_ | refine v_cond ?_ | simp only [vm, ite_true, ite_false, reduceIte, Nat.reduceEqDiff, Option.map, decide_eq_true_eq, decide_eq_false_iff_not, Bool.not_eq_true, decide_true, decide_false, Bool.not_true, Bool.not_false, Bool.false_eq_true, not_true_eq_false, not_false_eq_true, eq_self, and_true, true_and] | refine And.intro (by omega) ?_))
  exact ⟨i, rfl, by omega, by omega⟩
theorem num_spec (n : Int) (c : Nat) : VSpec Try.prog F.surdlaw04_num c [iv n] (fun r _ => r = iv n) := by
  refine spec_mk hm E.surdlaw04_num B.surdlaw04_num K.surdlaw04_num Q.surdlaw04_num (by rw [N.surdlaw04_num]; simp) ?_
  unfold C.surdlaw04_num R.surdlaw04_num
  (repeat (first | refine v_reg ?_ | refine v_last ?_ | refine vwp_seq ?_ | refine vwp_block ?_ | refine vwp_skip ?_ | refine vwp_exit ?_ | refine vwp_ret ?_ | refine v_cond ?_ | simp only [vm, ite_true, ite_false, reduceIte, Nat.reduceEqDiff, Option.map, decide_eq_true_eq, decide_eq_false_iff_not, Bool.not_eq_true, decide_true, decide_false, Bool.not_true, Bool.not_false, Bool.false_eq_true, not_true_eq_false, not_false_eq_true, eq_self, and_true, true_and] | refine And.intro (by omega) ?_))
  exact Nat.le_refl _
theorem ofl_spec (t : Tok) (a : List Nat) (c : Nat) (ha : Lim 18446744073709551616 a) (hna : a.length ≤ 1099511627776) :
    VSpec Try.prog F.surdlaw04_of c [nats t a] (fun r c' => ∃ i, r = nats (.id i) (digs 4294967296 (val 18446744073709551616 a)) ∧ c ≤ i ∧ i < c') := by
  refine spec_mk hm E.surdlaw04_of B.surdlaw04_of K.surdlaw04_of Q.surdlaw04_of (by rw [N.surdlaw04_of]; simp) ?_
  unfold C.surdlaw04_of R.surdlaw04_of
  (repeat (first | refine v_reg ?_ | refine v_last ?_ | refine vwp_seq ?_ | refine vwp_block ?_ | refine vwp_skip ?_ | refine vwp_exit ?_ | refine vwp_ret ?_ | refine v_cond ?_ | simp only [vm, ite_true, ite_false, reduceIte, Nat.reduceEqDiff, Option.map, decide_eq_true_eq, decide_eq_false_iff_not, Bool.not_eq_true, decide_true, decide_false, Bool.not_true, Bool.not_false, Bool.false_eq_true, not_true_eq_false, not_false_eq_true, eq_self, and_true, true_and] | refine And.intro (by omega) ?_))
  refine s_call (of_spec t a c ha hna) (by simp only [vm, ite_true, ite_false, reduceIte, Nat.reduceEqDiff, Option.map, decide_eq_true_eq, decide_eq_false_iff_not, Bool.not_eq_true, decide_true, decide_false, Bool.not_true, Bool.not_false, Bool.false_eq_true, not_true_eq_false, not_false_eq_true, eq_self, and_true, true_and, List.map]) ?_
  rintro v c1 hc1 ⟨i, rfl, hi1, hi2⟩
  (repeat (first | refine v_reg ?_ | refine v_last ?_ | refine vwp_seq ?_ | refine vwp_block ?_ | refine vwp_skip ?_ | refine vwp_exit ?_ | refine vwp_ret ?_ | refine v_cond ?_ | simp only [vm, ite_true, ite_false, reduceIte, Nat.reduceEqDiff, Option.map, decide_eq_true_eq, decide_eq_false_iff_not, Bool.not_eq_true, decide_true, decide_false, Bool.not_true, Bool.not_false, Bool.false_eq_true, not_true_eq_false, not_false_eq_true, eq_self, and_true, true_and] | refine And.intro (by omega) ?_))
  exact ⟨i, rfl, hi1, hi2⟩
theorem one_spec (c : Nat) : VSpec Try.prog F.surdlaw04_one c [] (fun r c' => ∃ i, r = nats (.id i) (digs 4294967296 1) ∧ c ≤ i ∧ i < c') := by
  refine spec_mk hm E.surdlaw04_one B.surdlaw04_one K.surdlaw04_one Q.surdlaw04_one (by rw [N.surdlaw04_one]; simp) ?_
  unfold C.surdlaw04_one R.surdlaw04_one
  (repeat (first | refine v_reg ?_ | refine v_last ?_ | refine vwp_seq ?_ | refine vwp_block ?_ | refine vwp_skip ?_ | refine vwp_exit ?_ | refine vwp_ret ?_ | refine v_cond ?_ | simp only [vm, ite_true, ite_false, reduceIte, Nat.reduceEqDiff, Option.map, decide_eq_true_eq, decide_eq_false_iff_not, Bool.not_eq_true, decide_true, decide_false, Bool.not_true, Bool.not_false, Bool.false_eq_true, not_true_eq_false, not_false_eq_true, eq_self, and_true, true_and] | refine And.intro (by omega) ?_))
  refine s_call (int_spec 1 c (by decide)) (by simp only [vm, ite_true, ite_false, reduceIte, Nat.reduceEqDiff, Option.map, decide_eq_true_eq, decide_eq_false_iff_not, Bool.not_eq_true, decide_true, decide_false, Bool.not_true, Bool.not_false, Bool.false_eq_true, not_true_eq_false, not_false_eq_true, eq_self, and_true, true_and, List.map]; rfl) ?_
  rintro v c1 hc1 ⟨i, rfl, hi1, hi2⟩
  (repeat (first | refine v_reg ?_ | refine v_last ?_ | refine vwp_seq ?_ | refine vwp_block ?_ | refine vwp_skip ?_ | refine vwp_exit ?_ | refine vwp_ret ?_ | refine v_cond ?_ | simp only [vm, ite_true, ite_false, reduceIte, Nat.reduceEqDiff, Option.map, decide_eq_true_eq, decide_eq_false_iff_not, Bool.not_eq_true, decide_true, decide_false, Bool.not_true, Bool.not_false, Bool.false_eq_true, not_true_eq_false, not_false_eq_true, eq_self, and_true, true_and] | refine And.intro (by omega) ?_))
  exact ⟨i, rfl, hi1, hi2⟩
end Go.Proofs.Ytladcfeibpddeab
