import Derived.Test.YtladcfeibpddeabVSem
import Derived.Test.YtladcfeibpddeabNatL
import Derived.Test.YtladcfeibpddeabCode0
import Derived.Test.YtladcfeibpddeabChecked
set_option linter.unusedSimpArgs false
set_option linter.unusedVariables false
set_option maxRecDepth 100000
set_option maxHeartbeats 4000000
namespace Go.Proofs.Ytladcfeibpddeab
open Go.VM
theorem hm : Try.prog.follows .mixedOrders = true := Try.checked.mixed
theorem two64 : 2 ≤ 18446744073709551616 := by decide

theorem getD_snoc (m : List Nat) (x : Nat) : (m ++ [x]).getD m.length 0 = x := by simp
theorem take_snoc' (m : List Nat) (x : Nat) : (m ++ [x]).take m.length = m := by simp

theorem trim_spec (t : Tok) (l : List Nat) (c : Nat) (hl : Lim 18446744073709551616 l) (hn : l.length ≤ 4398046511104) : VSpec Try.prog F.nat_trim c [nats t l] (fun r _ => r = nats t (digs 18446744073709551616 (val 18446744073709551616 l))) := by
  rw [← trim_digs two64 hl]
  refine spec_mk hm E.nat_trim B.nat_trim K.nat_trim Q.nat_trim (by rw [N.nat_trim]; simp) ?_
  unfold C.nat_trim R.nat_trim
  refine v_reg ?_
  simp only [vm, ite_true, ite_false, reduceIte, Nat.reduceEqDiff, Option.map, decide_eq_true_eq, decide_eq_false_iff_not, Bool.not_eq_true, decide_true, decide_false, Bool.not_true, Bool.not_false, Bool.false_eq_true, not_true_eq_false, not_false_eq_true, eq_self, and_true, true_and]
  refine vwp_seq (vwp_block (vwp_loop (fun n S => ∃ l', S.ρ 0 = nats t l' ∧ trimL l' = trimL l ∧ l'.length = n ∧ n ≤ l.length ∧ S.σ = noBlk ∧ S.c = c) l.length ⟨l, rfl, rfl, rfl, Nat.le_refl _, rfl, rfl⟩ ?_))
  rintro n ⟨ρ, σ, k⟩ ⟨l', h0, h1, h2, h3, rfl, rfl⟩
  dsimp only at h0
  refine vwp_seq (v_reg ?_)
  rcases snoc_cases l' with rfl | ⟨m, x, rfl⟩
  · have e : ¬ (0 : Int) < ([] : List Nat).length := by simp
    simp only [vm, ite_true, ite_false, reduceIte, Nat.reduceEqDiff, Option.map, decide_eq_true_eq, decide_eq_false_iff_not, Bool.not_eq_true, decide_true, decide_false, Bool.not_true, Bool.not_false, Bool.false_eq_true, not_true_eq_false, not_false_eq_true, eq_self, and_true, true_and, h0, e]
    refine v_cond ?_
    simp only [vm, ite_true, ite_false, reduceIte, Nat.reduceEqDiff, Option.map, decide_eq_true_eq, decide_eq_false_iff_not, Bool.not_eq_true, decide_true, decide_false, Bool.not_true, Bool.not_false, Bool.false_eq_true, not_true_eq_false, not_false_eq_true, eq_self, and_true, true_and]
    refine vwp_exit ?_
    simp only [vm, ite_true, ite_false, reduceIte, Nat.reduceEqDiff, Option.map, decide_eq_true_eq, decide_eq_false_iff_not, Bool.not_eq_true, decide_true, decide_false, Bool.not_true, Bool.not_false, Bool.false_eq_true, not_true_eq_false, not_false_eq_true, eq_self, and_true, true_and]
    refine v_reg ?_
    simp only [vm, ite_true, ite_false, reduceIte, Nat.reduceEqDiff, Option.map, decide_eq_true_eq, decide_eq_false_iff_not, Bool.not_eq_true, decide_true, decide_false, Bool.not_true, Bool.not_false, Bool.false_eq_true, not_true_eq_false, not_false_eq_true, eq_self, and_true, true_and, h0]
    refine vwp_ret ?_
    simp only [vm, ite_true, ite_false, reduceIte, Nat.reduceEqDiff, Option.map, decide_eq_true_eq, decide_eq_false_iff_not, Bool.not_eq_true, decide_true, decide_false, Bool.not_true, Bool.not_false, Bool.false_eq_true, not_true_eq_false, not_false_eq_true, eq_self, and_true, true_and]
    exact ⟨Nat.le_refl _, by rw [← h1]; rfl⟩
  · have e : (0 : Int) < (m ++ [x]).length := by simp
    have e1 : ((m ++ [x]).length - 1 : Int).toNat = m.length := by simp
    have e2 : (m ++ [x]).length = m.length + 1 := by simp
    simp only [vm, ite_true, ite_false, reduceIte, Nat.reduceEqDiff, Option.map, decide_eq_true_eq, decide_eq_false_iff_not, Bool.not_eq_true, decide_true, decide_false, Bool.not_true, Bool.not_false, Bool.false_eq_true, not_true_eq_false, not_false_eq_true, eq_self, and_true, true_and, h0, e, e1, getD_snoc]
    refine ⟨⟨by omega, by omega⟩, ⟨by omega, by omega⟩, by omega, v_cond ?_⟩
    simp only [vm, ite_true, ite_false, reduceIte, Nat.reduceEqDiff, Option.map, decide_eq_true_eq, decide_eq_false_iff_not, Bool.not_eq_true, decide_true, decide_false, Bool.not_true, Bool.not_false, Bool.false_eq_true, not_true_eq_false, not_false_eq_true, eq_self, and_true, true_and]
    refine ⟨fun g => vwp_skip ?_, fun g => vwp_exit ?_⟩
    · simp only [vm, ite_true, ite_false, reduceIte, Nat.reduceEqDiff, Option.map, decide_eq_true_eq, decide_eq_false_iff_not, Bool.not_eq_true, decide_true, decide_false, Bool.not_true, Bool.not_false, Bool.false_eq_true, not_true_eq_false, not_false_eq_true, eq_self, and_true, true_and]
      refine vwp_block (v_last ?_)
      simp only [vm, ite_true, ite_false, reduceIte, Nat.reduceEqDiff, Option.map, decide_eq_true_eq, decide_eq_false_iff_not, Bool.not_eq_true, decide_true, decide_false, Bool.not_true, Bool.not_false, Bool.false_eq_true, not_true_eq_false, not_false_eq_true, eq_self, and_true, true_and, h0, e1, take_snoc']
      refine ⟨by omega, by omega, m.length, by omega, m, rfl, ?_, rfl, by omega⟩
      rw [← h1, g, trimL_zero]
    · simp only [vm, ite_true, ite_false, reduceIte, Nat.reduceEqDiff, Option.map, decide_eq_true_eq, decide_eq_false_iff_not, Bool.not_eq_true, decide_true, decide_false, Bool.not_true, Bool.not_false, Bool.false_eq_true, not_true_eq_false, not_false_eq_true, eq_self, and_true, true_and]
      refine v_reg ?_
      simp only [vm, ite_true, ite_false, reduceIte, Nat.reduceEqDiff, Option.map, decide_eq_true_eq, decide_eq_false_iff_not, Bool.not_eq_true, decide_true, decide_false, Bool.not_true, Bool.not_false, Bool.false_eq_true, not_true_eq_false, not_false_eq_true, eq_self, and_true, true_and, h0]
      refine vwp_ret ?_
      simp only [vm, ite_true, ite_false, reduceIte, Nat.reduceEqDiff, Option.map, decide_eq_true_eq, decide_eq_false_iff_not, Bool.not_eq_true, decide_true, decide_false, Bool.not_true, Bool.not_false, Bool.false_eq_true, not_true_eq_false, not_false_eq_true, eq_self, and_true, true_and]
      exact ⟨Nat.le_refl _, by rw [← h1, trimL_pos _ _ g]⟩

/-- whose memory an answer lies in: none, or its own -/
def Tk (c c' : Nat) (t : Tok) : Prop := t = .nil ∨ ∃ i, t = .id i ∧ c ≤ i ∧ i < c'
theorem Tk.mono {c c' d d' : Nat} {t : Tok} (h : Tk c c' t) (h1 : d ≤ c) (h2 : c' ≤ d') : Tk d d' t := by
  rcases h with rfl | ⟨i, rfl, h3, h4⟩
  · exact .inl rfl
  · exact .inr ⟨i, rfl, by omega, by omega⟩
/-- a number's normal limbs in memory of its own -/
def NatR (c c' n : Nat) (v : V) : Prop := ∃ t, v = nats t (digs 18446744073709551616 n) ∧ Tk c c' t

theorem norm_spec (t : Tok) (l : List Nat) (c : Nat) (hl : Lim 18446744073709551616 l) (hn : l.length ≤ 4398046511104) : VSpec Try.prog F.nat_Norm c [nats t l] (fun r c' => NatR c c' (val 18446744073709551616 l) r) := by
  refine spec_mk hm E.nat_Norm B.nat_Norm K.nat_Norm Q.nat_Norm (by rw [N.nat_Norm]; simp) ?_
  unfold C.nat_Norm R.nat_Norm
  refine v_reg ?_
  simp only [vm, ite_true, ite_false, reduceIte, Nat.reduceEqDiff, Option.map, decide_eq_true_eq, decide_eq_false_iff_not, Bool.not_eq_true, decide_true, decide_false, Bool.not_true, Bool.not_false, Bool.false_eq_true, not_true_eq_false, not_false_eq_true, eq_self, and_true, true_and]
  refine v_reg ?_
  simp only [vm, ite_true, ite_false, reduceIte, Nat.reduceEqDiff, Option.map, decide_eq_true_eq, decide_eq_false_iff_not, Bool.not_eq_true, decide_true, decide_false, Bool.not_true, Bool.not_false, Bool.false_eq_true, not_true_eq_false, not_false_eq_true, eq_self, and_true, true_and]
  refine s_call (trim_spec t l c hl hn) (by simp only [vm, ite_true, ite_false, reduceIte, Nat.reduceEqDiff, Option.map, decide_eq_true_eq, decide_eq_false_iff_not, Bool.not_eq_true, decide_true, decide_false, Bool.not_true, Bool.not_false, Bool.false_eq_true, not_true_eq_false, not_false_eq_true, eq_self, and_true, true_and, List.map]) ?_
  rintro v c' hc rfl
  have hlen := digs_len_le two64 hl
  refine s_app0 (t := t) (l := digs 18446744073709551616 (val 18446744073709551616 l)) (by simp only [vm, ite_true, ite_false, reduceIte, Nat.reduceEqDiff, Option.map, decide_eq_true_eq, decide_eq_false_iff_not, Bool.not_eq_true, decide_true, decide_false, Bool.not_true, Bool.not_false, Bool.false_eq_true, not_true_eq_false, not_false_eq_true, eq_self, and_true, true_and]) (by simp only [vm, ite_true, ite_false, reduceIte, Nat.reduceEqDiff, Option.map, decide_eq_true_eq, decide_eq_false_iff_not, Bool.not_eq_true, decide_true, decide_false, Bool.not_true, Bool.not_false, Bool.false_eq_true, not_true_eq_false, not_false_eq_true, eq_self, and_true, true_and]) (by omega) (fun e => ?_) (fun e => ?_)
  · simp only [vm, ite_true, ite_false, reduceIte, Nat.reduceEqDiff, Option.map, decide_eq_true_eq, decide_eq_false_iff_not, Bool.not_eq_true, decide_true, decide_false, Bool.not_true, Bool.not_false, Bool.false_eq_true, not_true_eq_false, not_false_eq_true, eq_self, and_true, true_and]
    refine vwp_ret ?_
    simp only [vm, ite_true, ite_false, reduceIte, Nat.reduceEqDiff, Option.map, decide_eq_true_eq, decide_eq_false_iff_not, Bool.not_eq_true, decide_true, decide_false, Bool.not_true, Bool.not_false, Bool.false_eq_true, not_true_eq_false, not_false_eq_true, eq_self, and_true, true_and]
    exact ⟨hc, .nil, by rw [e]; rfl, .inl rfl⟩
  · simp only [vm, ite_true, ite_false, reduceIte, Nat.reduceEqDiff, Option.map, decide_eq_true_eq, decide_eq_false_iff_not, Bool.not_eq_true, decide_true, decide_false, Bool.not_true, Bool.not_false, Bool.false_eq_true, not_true_eq_false, not_false_eq_true, eq_self, and_true, true_and]
    refine v_freeze 2 (l := digs 18446744073709551616 (val 18446744073709551616 l)) rfl (by simp only [vm, ite_true, ite_false, reduceIte, Nat.reduceEqDiff, Option.map, decide_eq_true_eq, decide_eq_false_iff_not, Bool.not_eq_true, decide_true, decide_false, Bool.not_true, Bool.not_false, Bool.false_eq_true, not_true_eq_false, not_false_eq_true, eq_self, and_true, true_and]) hc (by omega) ?_
    refine vwp_ret ?_
    simp only [vm, ite_true, ite_false, reduceIte, Nat.reduceEqDiff, Option.map, decide_eq_true_eq, decide_eq_false_iff_not, Bool.not_eq_true, decide_true, decide_false, Bool.not_true, Bool.not_false, Bool.false_eq_true, not_true_eq_false, not_false_eq_true, eq_self, and_true, true_and, List.drop_zero, List.take_length]
    exact ⟨by omega, .id c', rfl, .inr ⟨c', rfl, hc, by omega⟩⟩

theorem from_spec (n c : Nat) (hn : n < 18446744073709551616) : VSpec Try.prog F.nat_From c [nv n] (fun r c' => NatR c c' n r) := by
  refine spec_mk hm E.nat_From B.nat_From K.nat_From Q.nat_From (by rw [N.nat_From]; simp) ?_
  unfold C.nat_From R.nat_From
  refine v_reg ?_
  simp only [vm, ite_true, ite_false, reduceIte, Nat.reduceEqDiff, Option.map, decide_eq_true_eq, decide_eq_false_iff_not, Bool.not_eq_true, decide_true, decide_false, Bool.not_true, Bool.not_false, Bool.false_eq_true, not_true_eq_false, not_false_eq_true, eq_self, and_true, true_and]
  refine vwp_seq (v_reg ?_)
  simp only [vm, ite_true, ite_false, reduceIte, Nat.reduceEqDiff, Option.map, decide_eq_true_eq, decide_eq_false_iff_not, Bool.not_eq_true, decide_true, decide_false, Bool.not_true, Bool.not_false, Bool.false_eq_true, not_true_eq_false, not_false_eq_true, eq_self, and_true, true_and]
  refine v_cond ?_
  simp only [vm, ite_true, ite_false, reduceIte, Nat.reduceEqDiff, Option.map, decide_eq_true_eq, decide_eq_false_iff_not, Bool.not_eq_true, decide_true, decide_false, Bool.not_true, Bool.not_false, Bool.false_eq_true, not_true_eq_false, not_false_eq_true, eq_self, and_true, true_and]
  refine ⟨fun g => v_reg ?_, fun g => vwp_skip ?_⟩
  · simp only [vm, ite_true, ite_false, reduceIte, Nat.reduceEqDiff, Option.map, decide_eq_true_eq, decide_eq_false_iff_not, Bool.not_eq_true, decide_true, decide_false, Bool.not_true, Bool.not_false, Bool.false_eq_true, not_true_eq_false, not_false_eq_true, eq_self, and_true, true_and]
    refine vwp_ret ?_
    simp only [vm, ite_true, ite_false, reduceIte, Nat.reduceEqDiff, Option.map, decide_eq_true_eq, decide_eq_false_iff_not, Bool.not_eq_true, decide_true, decide_false, Bool.not_true, Bool.not_false, Bool.false_eq_true, not_true_eq_false, not_false_eq_true, eq_self, and_true, true_and]
    exact ⟨Nat.le_refl _, .nil, by subst g; rfl, .inl rfl⟩
  · simp only [vm, ite_true, ite_false, reduceIte, Nat.reduceEqDiff, Option.map, decide_eq_true_eq, decide_eq_false_iff_not, Bool.not_eq_true, decide_true, decide_false, Bool.not_true, Bool.not_false, Bool.false_eq_true, not_true_eq_false, not_false_eq_true, eq_self, and_true, true_and]
    refine v_reg ?_
    simp only [vm, ite_true, ite_false, reduceIte, Nat.reduceEqDiff, Option.map, decide_eq_true_eq, decide_eq_false_iff_not, Bool.not_eq_true, decide_true, decide_false, Bool.not_true, Bool.not_false, Bool.false_eq_true, not_true_eq_false, not_false_eq_true, eq_self, and_true, true_and]
    refine s_bsl1 (n := n) (by simp only [vm, ite_true, ite_false, reduceIte, Nat.reduceEqDiff, Option.map, decide_eq_true_eq, decide_eq_false_iff_not, Bool.not_eq_true, decide_true, decide_false, Bool.not_true, Bool.not_false, Bool.false_eq_true, not_true_eq_false, not_false_eq_true, eq_self, and_true, true_and]) ?_
    simp only [vm, ite_true, ite_false, reduceIte, Nat.reduceEqDiff, Option.map, decide_eq_true_eq, decide_eq_false_iff_not, Bool.not_eq_true, decide_true, decide_false, Bool.not_true, Bool.not_false, Bool.false_eq_true, not_true_eq_false, not_false_eq_true, eq_self, and_true, true_and]
    refine vwp_ret ?_
    simp only [vm, ite_true, ite_false, reduceIte, Nat.reduceEqDiff, Option.map, decide_eq_true_eq, decide_eq_false_iff_not, Bool.not_eq_true, decide_true, decide_false, Bool.not_true, Bool.not_false, Bool.false_eq_true, not_true_eq_false, not_false_eq_true, eq_self, and_true, true_and]
    refine ⟨by omega, .id c, ?_, .inr ⟨c, rfl, by omega, by omega⟩⟩
    rw [digs_pos two64 (by omega), Nat.mod_eq_of_lt hn, Nat.div_eq_of_lt hn]; rfl
end Go.Proofs.Ytladcfeibpddeab
