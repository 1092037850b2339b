import Derived.Test.YtladcfeibpddeaaS23
set_option linter.unusedSimpArgs false
set_option linter.unusedVariables false
set_option maxRecDepth 100000
set_option maxHeartbeats 8000000
namespace Go.Proofs.Ytladcfeibpddeaa
open Go.VM
section
variable {P : Program} {dr : Bool} {c0 : Nat} {ρ : Nat → V} {σ : Nat → Option Blk} {c i : Nat} {r : List VO} {K : VS → Prop}
theorem s_appmove {x y : X} {t n : Nat} {cap : Option Nat} {w ys : List Nat} {u : Tok} (hx : x.ev ρ = .buf t 0 n cap 1) (ht : σ t = nblk w) (hw : w.length = n) (h0 : c0 ≤ t) (hy : y.ev ρ = nats u ys) (hb : n + ys.length ≤ 17592186044416)
    (hk : wps P dr c0 r ⟨upd (kill (some t) ρ) i (.buf t 0 (n + ys.length) none 1), supd σ t (nblk (w ++ ys)), c⟩ K) : wps P dr c0 (⟨some i, .app 1 8 [.int .u64 0] x y, none⟩ :: r) ⟨ρ, σ, c⟩ K := by
  have hc : vcells 1 σ (y.ev ρ) = some (ys.map nv) := by rw [hy]; cases u <;> rfl
  refine s_eff rfl (by intros; exact fun h => by cases h) (by intros; exact fun h => by cases h) ⟨_, _, _, some t, .appMove (k := ys.length) hx ht h0 hc (by simp) (by simp; omega) (by omega) (by omega), ?_⟩
  have e : ((w.map nv).take (n * 1)) ++ ys.map nv = (w ++ ys).map nv := by
    rw [Nat.mul_one, ← hw, List.take_of_length_le (by simp)]; simp
  rw [e]
  exact hk
end
theorem kill_at (t : Nat) (ρ : Nat → V) (j : Nat) : kill (some t) ρ j = killV t (ρ j) := rfl
theorem killV_sl (t : Nat) (tk : Tok) (l : List Nat) : killV t (nats tk l) = nats tk l := rfl
theorem killV_lit (t : Nat) (v : Value) : killV t (.lit v) = .lit v := rfl

theorem limbs_spec (t : Tok) (x : List Nat) (c : Nat) (hx : Lim 4294967296 x) (hnx : x.length ≤ 1099511627776) :
    VSpec Try.prog F.surdref01_Num_Limbs c [nats t x] (fun r c' => ∃ tk l, r = nats tk l ∧ Tk c c' tk ∧ Lim 18446744073709551616 l ∧ l.length ≤ x.length ∧ val 18446744073709551616 l = val 4294967296 x) := by
  refine spec_mk hm E.surdref01_Num_Limbs B.surdref01_Num_Limbs K.surdref01_Num_Limbs Q.surdref01_Num_Limbs (by rw [N.surdref01_Num_Limbs]; simp) ?_
  unfold C.surdref01_Num_Limbs R.surdref01_Num_Limbs
  (repeat (first | refine v_reg ?_ | refine v_last ?_ | refine vwp_seq ?_ | refine vwp_block ?_ | refine vwp_skip ?_ | refine vwp_exit ?_ | refine vwp_ret ?_ | refine v_cond ?_ | simp only [vm, ite_true, ite_false, reduceIte, Nat.reduceEqDiff, Option.map, decide_eq_true_eq, decide_eq_false_iff_not, Bool.not_eq_true, decide_true, decide_false, Bool.not_true, Bool.not_false, Bool.false_eq_true, not_true_eq_false, not_false_eq_true, eq_self, and_true, true_and] | refine And.intro (by omega) ?_))
  refine v_loop (fun S => ∃ w, Lim 18446744073709551616 w ∧ w.length ≤ x.length ∧ val 18446744073709551616 w = val 4294967296 x ∧ ((w = [] ∧ S.ρ 3 = nil1 ∧ S.σ = noBlk) ∨ ∃ tb, S.ρ 3 = .buf tb 0 w.length none 1 ∧ S.σ = supd noBlk tb (nblk w) ∧ c ≤ tb ∧ tb < S.c) ∧ c ≤ S.c) ?_ ?_
  · refine vwp_loop (fun k S => ∃ j w, k = x.length + 1 - 2 * j ∧ 2 * j ≤ x.length + 1 ∧ w.length = j ∧ Lim 18446744073709551616 w ∧ val 18446744073709551616 w = val 4294967296 (x.take (2 * j)) ∧ S.ρ 0 = nats t x ∧ S.ρ 4 = iv ((2 * j : Nat) : Int) ∧ ((w = [] ∧ S.ρ 3 = nil1 ∧ S.σ = noBlk) ∨ ∃ tb, S.ρ 3 = .buf tb 0 w.length none 1 ∧ S.σ = supd noBlk tb (nblk w) ∧ c ≤ tb ∧ tb < S.c) ∧ c ≤ S.c) (x.length + 1) ?_ ?_
    · refine ⟨0, [], by omega, by omega, rfl, Lim.nil, by simp [val], ?_⟩
      simp only [vm, ite_true, ite_false, reduceIte, Nat.reduceEqDiff, Option.map, decide_eq_true_eq, decide_eq_false_iff_not, Bool.not_eq_true, decide_true, decide_false, Bool.not_true, Bool.not_false, Bool.false_eq_true, not_true_eq_false, not_false_eq_true, eq_self, and_true, true_and]
      (repeat' apply And.intro) <;> first | rfl | exact Nat.le_refl _ | exact .inl trivial | exact .inl rfl | exact .inl ⟨rfl, rfl⟩
    rintro k ⟨ρ2, σ, c4⟩ ⟨j, w, hk, hj, hw, hlw, hinv, h0, h4, hcase, hc4⟩
    dsimp only at h0 h4 hcase hc4
    by_cases g : ((2 * j : Nat) : Int) < x.length
    · have hj' : 2 * j < x.length := by omega
      have hxi := hx.getD (i := 2 * j) (by decide)
      have hyi := hx.getD (i := 2 * j + 1) (by decide)
      have hv1 := val_take' 4294967296 x (2 * j)
      have hv2 := val_take' 4294967296 x (2 * j + 1)
      have e1 : ((2 * j : Nat) : Int) + 1 = ((2 * j + 1 : Nat) : Int) := by omega
      have e2 : ((2 * j : Nat) : Int) + 2 = ((2 * (j + 1) : Nat) : Int) := by omega
      obtain ⟨vv, hvv⟩ : ∃ vv, vv = x.getD (2 * j) 0 + x.getD (2 * j + 1) 0 * 4294967296 := ⟨_, rfl⟩
      have hvl : vv < 18446744073709551616 := by omega
      have key : val 18446744073709551616 (w ++ [vv]) = val 4294967296 (x.take (2 * (j + 1))) := by
        rw [val_append, hw, hinv, show 2 * (j + 1) = 2 * j + 1 + 1 by omega, hv2, hv1, val, val, Nat.mul_zero, Nat.add_zero, pow64, show 64 * j = 32 * (2 * j) by omega, ← pow32, hvv, Nat.pow_succ, Nat.mul_add, Nat.mul_assoc, Nat.mul_comm 4294967296]
        omega
      have ew : (w ++ [vv]).length = j + 1 := by simp [hw]
      rcases hcase with ⟨hw0, h3, hσ⟩ | ⟨tb, h3, hσ, htb, htb2⟩
      · subst hσ hw0
        obtain rfl : j = 0 := by simpa using hw.symm
        by_cases g2 : ((2 * 0 + 1 : Nat) : Int) < x.length
        · have m1 : x.getD (2 * 0 + 1) 0 * 4294967296 % 18446744073709551616 = x.getD (2 * 0 + 1) 0 * 4294967296 := Nat.mod_eq_of_lt (by omega)
          have m2 : (x.getD (2 * 0) 0 + x.getD (2 * 0 + 1) 0 * 4294967296) % 18446744073709551616 = vv := by rw [← hvv]; exact Nat.mod_eq_of_lt hvl
          (repeat (first | refine v_reg ?_ | refine v_last ?_ | refine vwp_seq ?_ | refine vwp_block ?_ | refine vwp_skip ?_ | refine vwp_exit ?_ | refine vwp_ret ?_ | refine v_cond ?_ | simp only [vm, ite_true, ite_false, reduceIte, Nat.reduceEqDiff, Option.map, decide_eq_true_eq, decide_eq_false_iff_not, Bool.not_eq_true, decide_true, decide_false, Bool.not_true, Bool.not_false, Bool.false_eq_true, not_true_eq_false, not_false_eq_true, eq_self, and_true, true_and, h0, h3, h4, g, e1, g2, m1, m2] | refine And.intro (by omega) ?_))
          refine s_bsl1 (n := vv) (by simp only [vm, ite_true, ite_false, reduceIte, Nat.reduceEqDiff, Option.map, decide_eq_true_eq, decide_eq_false_iff_not, Bool.not_eq_true, decide_true, decide_false, Bool.not_true, Bool.not_false, Bool.false_eq_true, not_true_eq_false, not_false_eq_true, eq_self, and_true, true_and]) ?_
          refine s_app0 (t := .id c4) (l := [vv]) (by simp only [vm, ite_true, ite_false, reduceIte, Nat.reduceEqDiff, Option.map, decide_eq_true_eq, decide_eq_false_iff_not, Bool.not_eq_true, decide_true, decide_false, Bool.not_true, Bool.not_false, Bool.false_eq_true, not_true_eq_false, not_false_eq_true, eq_self, and_true, true_and]) (by simp only [vm, ite_true, ite_false, reduceIte, Nat.reduceEqDiff, Option.map, decide_eq_true_eq, decide_eq_false_iff_not, Bool.not_eq_true, decide_true, decide_false, Bool.not_true, Bool.not_false, Bool.false_eq_true, not_true_eq_false, not_false_eq_true, eq_self, and_true, true_and]) (by simp) (fun e => by cases e) (fun _ => ?_)
          (repeat (first | refine v_reg ?_ | refine v_last ?_ | refine vwp_seq ?_ | refine vwp_block ?_ | refine vwp_skip ?_ | refine vwp_exit ?_ | refine vwp_ret ?_ | refine v_cond ?_ | simp only [vm, ite_true, ite_false, reduceIte, Nat.reduceEqDiff, Option.map, decide_eq_true_eq, decide_eq_false_iff_not, Bool.not_eq_true, decide_true, decide_false, Bool.not_true, Bool.not_false, Bool.false_eq_true, not_true_eq_false, not_false_eq_true, eq_self, and_true, true_and, h0, h3, h4, e2] | refine And.intro (by omega) ?_))
          refine ⟨x.length + 1 - 2 * (0 + 1), by omega, 0 + 1, [] ++ [vv], ?_⟩
          (repeat' apply And.intro) <;> first | rfl | omega | assumption | exact key | exact lim_snoc hlw hvl | exact .inr ⟨c4 + 1, rfl, rfl, by omega, by omega⟩
        · have hy0 : x.getD (2 * 0 + 1) 0 = 0 := getD_ge (by omega)
          have m2 : x.getD (2 * 0) 0 = vv := by rw [hvv, hy0, Nat.zero_mul, Nat.add_zero]
          (repeat (first | refine v_reg ?_ | refine v_last ?_ | refine vwp_seq ?_ | refine vwp_block ?_ | refine vwp_skip ?_ | refine vwp_exit ?_ | refine vwp_ret ?_ | refine v_cond ?_ | simp only [vm, ite_true, ite_false, reduceIte, Nat.reduceEqDiff, Option.map, decide_eq_true_eq, decide_eq_false_iff_not, Bool.not_eq_true, decide_true, decide_false, Bool.not_true, Bool.not_false, Bool.false_eq_true, not_true_eq_false, not_false_eq_true, eq_self, and_true, true_and, h0, h3, h4, g, e1, g2, m2] | refine And.intro (by omega) ?_))
          refine s_bsl1 (n := vv) (by simp only [vm, ite_true, ite_false, reduceIte, Nat.reduceEqDiff, Option.map, decide_eq_true_eq, decide_eq_false_iff_not, Bool.not_eq_true, decide_true, decide_false, Bool.not_true, Bool.not_false, Bool.false_eq_true, not_true_eq_false, not_false_eq_true, eq_self, and_true, true_and]) ?_
          refine s_app0 (t := .id c4) (l := [vv]) (by simp only [vm, ite_true, ite_false, reduceIte, Nat.reduceEqDiff, Option.map, decide_eq_true_eq, decide_eq_false_iff_not, Bool.not_eq_true, decide_true, decide_false, Bool.not_true, Bool.not_false, Bool.false_eq_true, not_true_eq_false, not_false_eq_true, eq_self, and_true, true_and]) (by simp only [vm, ite_true, ite_false, reduceIte, Nat.reduceEqDiff, Option.map, decide_eq_true_eq, decide_eq_false_iff_not, Bool.not_eq_true, decide_true, decide_false, Bool.not_true, Bool.not_false, Bool.false_eq_true, not_true_eq_false, not_false_eq_true, eq_self, and_true, true_and]) (by simp) (fun e => by cases e) (fun _ => ?_)
          (repeat (first | refine v_reg ?_ | refine v_last ?_ | refine vwp_seq ?_ | refine vwp_block ?_ | refine vwp_skip ?_ | refine vwp_exit ?_ | refine vwp_ret ?_ | refine v_cond ?_ | simp only [vm, ite_true, ite_false, reduceIte, Nat.reduceEqDiff, Option.map, decide_eq_true_eq, decide_eq_false_iff_not, Bool.not_eq_true, decide_true, decide_false, Bool.not_true, Bool.not_false, Bool.false_eq_true, not_true_eq_false, not_false_eq_true, eq_self, and_true, true_and, h0, h3, h4, e2] | refine And.intro (by omega) ?_))
          refine ⟨x.length + 1 - 2 * (0 + 1), by omega, 0 + 1, [] ++ [vv], ?_⟩
          (repeat' apply And.intro) <;> first | rfl | omega | assumption | exact key | exact lim_snoc hlw hvl | exact .inr ⟨c4 + 1, rfl, rfl, by omega, by omega⟩
      · subst hσ
        by_cases g2 : ((2 * j + 1 : Nat) : Int) < x.length
        · have m1 : x.getD (2 * j + 1) 0 * 4294967296 % 18446744073709551616 = x.getD (2 * j + 1) 0 * 4294967296 := Nat.mod_eq_of_lt (by omega)
          have m2 : (x.getD (2 * j) 0 + x.getD (2 * j + 1) 0 * 4294967296) % 18446744073709551616 = vv := by rw [← hvv]; exact Nat.mod_eq_of_lt hvl
          (repeat (first | refine v_reg ?_ | refine v_last ?_ | refine vwp_seq ?_ | refine vwp_block ?_ | refine vwp_skip ?_ | refine vwp_exit ?_ | refine vwp_ret ?_ | refine v_cond ?_ | simp only [vm, ite_true, ite_false, reduceIte, Nat.reduceEqDiff, Option.map, decide_eq_true_eq, decide_eq_false_iff_not, Bool.not_eq_true, decide_true, decide_false, Bool.not_true, Bool.not_false, Bool.false_eq_true, not_true_eq_false, not_false_eq_true, eq_self, and_true, true_and, h0, h3, h4, g, e1, g2, m1, m2] | refine And.intro (by omega) ?_))
          refine s_bsl1 (n := vv) (by simp only [vm, ite_true, ite_false, reduceIte, Nat.reduceEqDiff, Option.map, decide_eq_true_eq, decide_eq_false_iff_not, Bool.not_eq_true, decide_true, decide_false, Bool.not_true, Bool.not_false, Bool.false_eq_true, not_true_eq_false, not_false_eq_true, eq_self, and_true, true_and]) ?_
          refine s_appmove (t := tb) (n := w.length) (cap := none) (w := w) (u := .id c4) (ys := [vv]) (by simp only [vm, ite_true, ite_false, reduceIte, Nat.reduceEqDiff, Option.map, decide_eq_true_eq, decide_eq_false_iff_not, Bool.not_eq_true, decide_true, decide_false, Bool.not_true, Bool.not_false, Bool.false_eq_true, not_true_eq_false, not_false_eq_true, eq_self, and_true, true_and]) (by simp only [vm, ite_true, ite_false, reduceIte, Nat.reduceEqDiff, Option.map, decide_eq_true_eq, decide_eq_false_iff_not, Bool.not_eq_true, decide_true, decide_false, Bool.not_true, Bool.not_false, Bool.false_eq_true, not_true_eq_false, not_false_eq_true, eq_self, and_true, true_and]) rfl htb (by simp only [vm, ite_true, ite_false, reduceIte, Nat.reduceEqDiff, Option.map, decide_eq_true_eq, decide_eq_false_iff_not, Bool.not_eq_true, decide_true, decide_false, Bool.not_true, Bool.not_false, Bool.false_eq_true, not_true_eq_false, not_false_eq_true, eq_self, and_true, true_and]) (by simp; omega) ?_
          (repeat (first | refine v_reg ?_ | refine v_last ?_ | refine vwp_seq ?_ | refine vwp_block ?_ | refine vwp_skip ?_ | refine vwp_exit ?_ | refine vwp_ret ?_ | refine v_cond ?_ | simp only [vm, ite_true, ite_false, reduceIte, Nat.reduceEqDiff, Option.map, decide_eq_true_eq, decide_eq_false_iff_not, Bool.not_eq_true, decide_true, decide_false, Bool.not_true, Bool.not_false, Bool.false_eq_true, not_true_eq_false, not_false_eq_true, eq_self, and_true, true_and, kill_at, killV_sl, killV_lit, h0, h3, h4, e2] | refine And.intro (by omega) ?_))
          refine ⟨x.length + 1 - 2 * (j + 1), by omega, j + 1, w ++ [vv], ?_⟩
          (repeat' apply And.intro) <;> first | rfl | omega | assumption | exact key | exact lim_snoc hlw hvl | exact .inr ⟨tb, by simp, rfl, by omega, by omega⟩
        · have hy0 : x.getD (2 * j + 1) 0 = 0 := getD_ge (by omega)
          have m2 : x.getD (2 * j) 0 = vv := by rw [hvv, hy0, Nat.zero_mul, Nat.add_zero]
          (repeat (first | refine v_reg ?_ | refine v_last ?_ | refine vwp_seq ?_ | refine vwp_block ?_ | refine vwp_skip ?_ | refine vwp_exit ?_ | refine vwp_ret ?_ | refine v_cond ?_ | simp only [vm, ite_true, ite_false, reduceIte, Nat.reduceEqDiff, Option.map, decide_eq_true_eq, decide_eq_false_iff_not, Bool.not_eq_true, decide_true, decide_false, Bool.not_true, Bool.not_false, Bool.false_eq_true, not_true_eq_false, not_false_eq_true, eq_self, and_true, true_and, h0, h3, h4, g, e1, g2, m2] | refine And.intro (by omega) ?_))
          refine s_bsl1 (n := vv) (by simp only [vm, ite_true, ite_false, reduceIte, Nat.reduceEqDiff, Option.map, decide_eq_true_eq, decide_eq_false_iff_not, Bool.not_eq_true, decide_true, decide_false, Bool.not_true, Bool.not_false, Bool.false_eq_true, not_true_eq_false, not_false_eq_true, eq_self, and_true, true_and]) ?_
          refine s_appmove (t := tb) (n := w.length) (cap := none) (w := w) (u := .id c4) (ys := [vv]) (by simp only [vm, ite_true, ite_false, reduceIte, Nat.reduceEqDiff, Option.map, decide_eq_true_eq, decide_eq_false_iff_not, Bool.not_eq_true, decide_true, decide_false, Bool.not_true, Bool.not_false, Bool.false_eq_true, not_true_eq_false, not_false_eq_true, eq_self, and_true, true_and]) (by simp only [vm, ite_true, ite_false, reduceIte, Nat.reduceEqDiff, Option.map, decide_eq_true_eq, decide_eq_false_iff_not, Bool.not_eq_true, decide_true, decide_false, Bool.not_true, Bool.not_false, Bool.false_eq_true, not_true_eq_false, not_false_eq_true, eq_self, and_true, true_and]) rfl htb (by simp only [vm, ite_true, ite_false, reduceIte, Nat.reduceEqDiff, Option.map, decide_eq_true_eq, decide_eq_false_iff_not, Bool.not_eq_true, decide_true, decide_false, Bool.not_true, Bool.not_false, Bool.false_eq_true, not_true_eq_false, not_false_eq_true, eq_self, and_true, true_and]) (by simp; omega) ?_
          (repeat (first | refine v_reg ?_ | refine v_last ?_ | refine vwp_seq ?_ | refine vwp_block ?_ | refine vwp_skip ?_ | refine vwp_exit ?_ | refine vwp_ret ?_ | refine v_cond ?_ | simp only [vm, ite_true, ite_false, reduceIte, Nat.reduceEqDiff, Option.map, decide_eq_true_eq, decide_eq_false_iff_not, Bool.not_eq_true, decide_true, decide_false, Bool.not_true, Bool.not_false, Bool.false_eq_true, not_true_eq_false, not_false_eq_true, eq_self, and_true, true_and, kill_at, killV_sl, killV_lit, h0, h3, h4, e2] | refine And.intro (by omega) ?_))
          refine ⟨x.length + 1 - 2 * (j + 1), by omega, j + 1, w ++ [vv], ?_⟩
          (repeat' apply And.intro) <;> first | rfl | omega | assumption | exact key | exact lim_snoc hlw hvl | exact .inr ⟨tb, by simp, rfl, by omega, by omega⟩
    · have hall : val 4294967296 (x.take (2 * j)) = val 4294967296 x := by rw [List.take_of_length_le (by omega)]
      rw [hall] at hinv
      rcases hcase with ⟨hw0, h3, hσ⟩ | ⟨tb, h3, hσ, htb, htb2⟩
      · subst hσ
        (repeat (first | refine v_reg ?_ | refine v_last ?_ | refine vwp_seq ?_ | refine vwp_block ?_ | refine vwp_skip ?_ | refine vwp_exit ?_ | refine vwp_ret ?_ | refine v_cond ?_ | simp only [vm, ite_true, ite_false, reduceIte, Nat.reduceEqDiff, Option.map, decide_eq_true_eq, decide_eq_false_iff_not, Bool.not_eq_true, decide_true, decide_false, Bool.not_true, Bool.not_false, Bool.false_eq_true, not_true_eq_false, not_false_eq_true, eq_self, and_true, true_and, h0, h3, h4, g] | refine And.intro (by omega) ?_))
        exact ⟨w, hlw, by omega, hinv, .inl hw0, hc4⟩
      · subst hσ
        (repeat (first | refine v_reg ?_ | refine v_last ?_ | refine vwp_seq ?_ | refine vwp_block ?_ | refine vwp_skip ?_ | refine vwp_exit ?_ | refine vwp_ret ?_ | refine v_cond ?_ | simp only [vm, ite_true, ite_false, reduceIte, Nat.reduceEqDiff, Option.map, decide_eq_true_eq, decide_eq_false_iff_not, Bool.not_eq_true, decide_true, decide_false, Bool.not_true, Bool.not_false, Bool.false_eq_true, not_true_eq_false, not_false_eq_true, eq_self, and_true, true_and, h0, h3, h4, g] | refine And.intro (by omega) ?_))
        refine ⟨w, hlw, by omega, hinv, .inr ⟨tb, ?_⟩, hc4⟩
        first | exact ⟨rfl, rfl, htb, htb2⟩ | exact ⟨h3, rfl, htb, htb2⟩
  rintro ⟨ρ3, σ, c5⟩ ⟨w, hlw, hwn, hvw, hcase, hc5⟩
  dsimp only at hcase hc5
  rcases hcase with ⟨hw0, h3, hσ⟩ | ⟨tb, h3, hσ, htb, htb2⟩
  · subst hσ hw0
    (repeat (first | refine v_reg ?_ | refine v_last ?_ | refine vwp_seq ?_ | refine vwp_block ?_ | refine vwp_skip ?_ | refine vwp_exit ?_ | refine vwp_ret ?_ | refine v_cond ?_ | simp only [vm, ite_true, ite_false, reduceIte, Nat.reduceEqDiff, Option.map, decide_eq_true_eq, decide_eq_false_iff_not, Bool.not_eq_true, decide_true, decide_false, Bool.not_true, Bool.not_false, Bool.false_eq_true, not_true_eq_false, not_false_eq_true, eq_self, and_true, true_and, h3] | refine And.intro (by omega) ?_))
    exact ⟨.nil, [], rfl, .inl rfl, Lim.nil, Nat.zero_le _, hvw⟩
  · subst hσ
    refine v_freeze 3 (t := tb) (off := 0) (n := w.length) (cap := none) (l := w) (by simp only [vm, ite_true, ite_false, reduceIte, Nat.reduceEqDiff, Option.map, decide_eq_true_eq, decide_eq_false_iff_not, Bool.not_eq_true, decide_true, decide_false, Bool.not_true, Bool.not_false, Bool.false_eq_true, not_true_eq_false, not_false_eq_true, eq_self, and_true, true_and, h3]) (by simp only [vm, ite_true, ite_false, reduceIte, Nat.reduceEqDiff, Option.map, decide_eq_true_eq, decide_eq_false_iff_not, Bool.not_eq_true, decide_true, decide_false, Bool.not_true, Bool.not_false, Bool.false_eq_true, not_true_eq_false, not_false_eq_true, eq_self, and_true, true_and]) (by omega) (by omega) ?_
    rw [List.drop_zero, List.take_length]
    (repeat (first | refine v_reg ?_ | refine v_last ?_ | refine vwp_seq ?_ | refine vwp_block ?_ | refine vwp_skip ?_ | refine vwp_exit ?_ | refine vwp_ret ?_ | refine v_cond ?_ | simp only [vm, ite_true, ite_false, reduceIte, Nat.reduceEqDiff, Option.map, decide_eq_true_eq, decide_eq_false_iff_not, Bool.not_eq_true, decide_true, decide_false, Bool.not_true, Bool.not_false, Bool.false_eq_true, not_true_eq_false, not_false_eq_true, eq_self, and_true, true_and] | refine And.intro (by omega) ?_))
    exact ⟨.id tb, w, rfl, .inr ⟨tb, rfl, by omega, by omega⟩, hlw, hwn, hvw⟩
end Go.Proofs.Ytladcfeibpddeaa
