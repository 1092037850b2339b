import Derived.Test.YtladcfeibpddeabS16
import Derived.Test.YtladcfeibpddeabVOrc
set_option linter.unusedSimpArgs false
set_option linter.unusedVariables false
set_option maxRecDepth 100000
namespace Go.Proofs.Ytladcfeibpddeab
open Go.VM

theorem nil_loose : Loose nil1 (.sl .unk 1 []) := Loose.sl .nil 1 []
theorem blt_of {a b : Nat} : Nat.blt a b = true ↔ a < b := by rw [Nat.blt_eq]
theorem natR_loose {c c' n : Nat} {r : V} (h : NatR c c' n r) : Loose r (unkN n) := by
  obtain ⟨t, rfl, _⟩ := h
  rw [unkN_eq]; exact Loose.nats t _
theorem told_loose {c c' n : Nat} {r : V} (h : Told c c' n r) : Loose r (toldN n) := by
  unfold toldN
  rw [fN_eq]
  rcases h with ⟨h, t, rfl, _⟩ | ⟨h, rfl⟩
  · rw [if_pos (Nat.ble_eq_true_of_le h), unkN_eq]; exact .pair (Loose.nats t _) (.lit _)
  · rw [if_neg (fun e => absurd (Nat.le_of_ble_eq_true e) (by omega))]
    exact .pair nil_loose (.lit _)

def throughN (a d : Nat) : V := if Nat.beq d 0 = true then .tup [.sl .unk 1 [], nv 0, iv 1] else if Nat.ble (bl (a / d)) 67108864 = true then fN (a % d) fun m => .tup [unkN (a / d), nv m, iv 0] else .tup [.sl .unk 1 [], nv 0, iv 3]
def subN (a b : Nat) : V := if Nat.blt a b = true then .tup [.sl .unk 1 [], iv 10] else toldN (a - b)

def orcNat : XOrc := fun f xs =>
  if Nat.beq f F.nat_Length = true then o1 (fun a => fN (bl a) fun n => iv n) xs
  else if Nat.beq f F.nat_Compare = true then o2 (fun a b => if Nat.blt a b = true then iv (-1) else if Nat.beq a b = true then iv 0 else iv 1) xs
  else if Nat.beq f F.nat_From = true then o0n unkN xs
  else if Nat.beq f F.nat_Norm = true then o1 unkN xs
  else if Nat.beq f F.nat_Add = true then o2 (fun a b => toldN (a + b)) xs
  else if Nat.beq f F.nat_Sub = true then o2 subN xs
  else if Nat.beq f F.nat_Times = true then o1n (fun a n => toldN (a * n)) xs
  else if Nat.beq f F.nat_Left = true then o1i (fun a n => if Nat.ble n 1000000 = true then some (toldN (a * 2 ^ n)) else none) xs
  else if Nat.beq f F.mul_Mul = true then o2 (fun a b => toldN (a * b)) xs
  else if Nat.beq f F.mul_Square = true then o1 (fun a => toldN (a * a)) xs
  else if Nat.beq f F.mul_Pow = true then o1i (fun a n => if Nat.ble n 1000000 = true then some (toldN (a ^ n)) else none) xs
  else if Nat.beq f F.nat_Through = true then o1n throughN xs
  else none

theorem orcNat_ok : OrcOk Try.prog orcNat := by
  intro f xs v h c
  unfold orcNat at h
  rcases iteO h with ⟨e, h⟩ | ⟨_, h⟩
  · rw [Nat.eq_of_beq_eq_true e]
    refine o1_ok (fun t a c h1 h2 => (length_spec t a c h1 (by omega)).loose ?_) h c
    rintro r c' rfl
    rw [fN_eq]; exact .lit _
  rcases iteO h with ⟨e, h⟩ | ⟨_, h⟩
  · rw [Nat.eq_of_beq_eq_true e]
    refine o2_ok (fun t u a b c h1 h2 h3 h4 => (compare_spec t u a b c h1 h2 (by omega) (by omega)).loose ?_) h c
    rintro r c' rfl
    unfold cmpI
    by_cases g : val 18446744073709551616 a < val 18446744073709551616 b
    · rw [if_pos g, if_pos (blt_of.2 g)]; exact .lit _
    · rw [if_neg g, if_neg (fun e => g (blt_of.1 e))]
      by_cases g2 : val 18446744073709551616 a = val 18446744073709551616 b
      · rw [if_pos g2, if_pos (by rw [Nat.beq_eq]; exact g2)]; exact .lit _
      · rw [if_neg g2, if_neg (fun e => g2 (Nat.eq_of_beq_eq_true e))]; exact .lit _
  rcases iteO h with ⟨e, h⟩ | ⟨_, h⟩
  · rw [Nat.eq_of_beq_eq_true e]
    exact o0n_ok (fun n c h1 => (from_spec n c h1).loose fun r c' h => natR_loose h) h c
  rcases iteO h with ⟨e, h⟩ | ⟨_, h⟩
  · rw [Nat.eq_of_beq_eq_true e]
    exact o1_ok (fun t a c h1 h2 => (norm_spec t a c h1 (by omega)).loose fun r c' h => natR_loose h) h c
  rcases iteO h with ⟨e, h⟩ | ⟨_, h⟩
  · rw [Nat.eq_of_beq_eq_true e]
    exact o2_ok (fun t u a b c h1 h2 h3 h4 => (add_spec t u a b c h1 h2 (by omega) (by omega)).loose fun r c' h => told_loose h) h c
  rcases iteO h with ⟨e, h⟩ | ⟨_, h⟩
  · rw [Nat.eq_of_beq_eq_true e]
    refine o2_ok (fun t u a b c h1 h2 h3 h4 => (sub_spec t u a b c h1 h2 (by omega) (by omega)).loose ?_) h c
    intro r c' hr
    unfold subN
    split at hr
    · rename_i g
      rw [if_pos (blt_of.2 g), hr]
      exact .pair nil_loose (.lit _)
    · rename_i g
      rw [if_neg (fun e => g (blt_of.1 e))]
      exact told_loose hr
  rcases iteO h with ⟨e, h⟩ | ⟨_, h⟩
  · rw [Nat.eq_of_beq_eq_true e]
    exact o1n_ok (fun t a n c h1 h2 h3 => (times_spec t a n c h1 h2 (by omega)).loose fun r c' h => told_loose h) h c
  rcases iteO h with ⟨e, h⟩ | ⟨_, h⟩
  · rw [Nat.eq_of_beq_eq_true e]
    refine o1i_ok (fun t a n c v h1 h2 h3 he => ?_) h c
    rcases iteO he with ⟨g, he⟩ | ⟨_, he⟩
    · cases he
      exact (left_spec t a n c h1 (by have := Nat.le_of_ble_eq_true g; omega) (by omega)).loose fun r c' h => told_loose h
    · cases he
  rcases iteO h with ⟨e, h⟩ | ⟨_, h⟩
  · rw [Nat.eq_of_beq_eq_true e]
    exact o2_ok (fun t u a b c h1 h2 h3 h4 => (mul_spec t u a b c h1 h2 (by omega) (by omega)).loose fun r c' h => told_loose h) h c
  rcases iteO h with ⟨e, h⟩ | ⟨_, h⟩
  · rw [Nat.eq_of_beq_eq_true e]
    exact o1_ok (g := fun a => toldN (a * a)) (fun t a c h1 h2 => (square_spec t a c h1 (by omega)).loose fun r c' h => told_loose h) h c
  rcases iteO h with ⟨e, h⟩ | ⟨_, h⟩
  · rw [Nat.eq_of_beq_eq_true e]
    refine o1i_ok (fun t a n c v h1 h2 h3 he => ?_) h c
    rcases iteO he with ⟨g, he⟩ | ⟨_, he⟩
    · cases he
      exact (pow_spec t a n c h1 (by omega) h2).loose fun r c' h => told_loose h
    · cases he
  rcases iteO h with ⟨e, h⟩ | ⟨_, h⟩
  · rw [Nat.eq_of_beq_eq_true e]
    refine o1n_ok (g := throughN) (fun t a n c h1 h2 h3 => (through_spec t a n c h1 h2 (by omega)).loose ?_) h c
    rintro r c' ⟨q1, q2, q3⟩
    unfold throughN
    by_cases g : n = 0
    · rw [if_pos (by rw [Nat.beq_eq]; exact g), q1 g]
      exact .triple nil_loose (.lit _) (.lit _)
    · rw [if_neg (fun e => g (Nat.eq_of_beq_eq_true e))]
      by_cases g2 : bl (val 18446744073709551616 a / n) ≤ 67108864
      · obtain ⟨t', rfl, _⟩ := q2 (by omega) g2
        rw [if_pos (Nat.ble_eq_true_of_le g2), fN_eq, unkN_eq]
        exact .triple (Loose.nats _ _) (.lit _) (.lit _)
      · rw [if_neg (fun e => absurd (Nat.le_of_ble_eq_true e) g2), q3 (by omega) (by omega)]
        exact .triple nil_loose (.lit _) (.lit _)
  cases h
end Go.Proofs.Ytladcfeibpddeab
