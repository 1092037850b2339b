/- Texts of a claim, merged: what they prove is told at the last one's head. -/
import Derived.Test.YthjnmfieicniaaaPerM3
import Derived.KernelRfl
set_option linter.unusedVariables false
set_option linter.unusedSimpArgs false
set_option maxRecDepth 100000
set_option maxHeartbeats 8000000
namespace Go.VM

inductive Loose : V → V → Prop
  | lit (v : Value) : Loose (.lit v) (.lit v)
  | sl (t : Tok) (sz : Nat) (l : List Value) : Loose (.sl t sz (l.map .lit)) (.sl .unk sz (l.map .lit))
  | tup (l l' : List V) (hn : l.length = l'.length) (h : ∀ (j : Nat) (x y : V), l[j]? = some x → l'[j]? = some y → Loose x y) : Loose (.tup l) (.tup l')

theorem Loose.nats (t : Tok) (l : List Nat) : Loose (nats t l) (nats .unk l) := by
  have := Loose.sl t 1 (l.map fun (n : Nat) => Value.int .u64 (n : Int))
  rw [List.map_map] at this
  exact this
theorem Loose.pair {x y x' y' : V} (h1 : Loose x x') (h2 : Loose y y') : Loose (.tup [x, y]) (.tup [x', y']) :=
  .tup _ _ rfl fun j a b ha hb => match j, ha, hb with
    | 0, ha, hb => by simp at ha hb; subst ha hb; exact h1
    | 1, ha, hb => by simp at ha hb; subst ha hb; exact h2
    | j + 2, ha, hb => by simp at ha
theorem Loose.triple {x y z x' y' z' : V} (h1 : Loose x x') (h2 : Loose y y') (h3 : Loose z z') : Loose (.tup [x, y, z]) (.tup [x', y', z']) :=
  .tup _ _ rfl fun j a b ha hb => match j, ha, hb with
    | 0, ha, hb => by simp at ha hb; subst ha hb; exact h1
    | 1, ha, hb => by simp at ha hb; subst ha hb; exact h2
    | 2, ha, hb => by simp at ha hb; subst ha hb; exact h3
    | j + 3, ha, hb => by simp at ha

theorem rep_lit {w : World} {M : Nat → Prop} {μ : Nat → Nat} {c : Nat} {v u : Value} (h : Rep w M μ c (.lit v) u) : u = v := by cases h; rfl
theorem Loose.rep {w : World} {M : Nat → Prop} {μ : Nat → Nat} {c d : Nat} {x y : V} {u : Value} (hl : Loose x y) (h : Rep w M μ c x u) : Rep w M μ d y u := by
  induction hl generalizing u with
  | lit v => rw [rep_lit h]; exact .lit v
  | sl t sz l =>
    generalize hx : V.sl t sz (l.map .lit) = x at h
    cases h with
    | any | lit | agg | tup => cases hx
    | nil tk sz' =>
      simp only [V.sl.injEq] at hx
      obtain ⟨rfl, rfl, e⟩ := hx
      rw [e]
      exact .nil .unk sz
    | sl tk sz' n cap a l' vs ht hn hc hs hM hcap h1 hl =>
      simp only [V.sl.injEq] at hx
      obtain ⟨rfl, rfl, rfl⟩ := hx
      refine .sl .unk sz n cap a _ vs trivial hn hc hs hM hcap h1 fun j x hx => ?_
      have := hl j x hx
      rw [List.getElem?_map] at hx
      obtain ⟨v, _, rfl⟩ := Option.map_eq_some_iff.1 hx
      rw [rep_lit this]
      exact .lit v
  | tup l l' hn hll ih =>
    cases h with
    | tup _ cs hcs hc =>
      refine .tup _ cs (by omega) fun j y v hy hv => ?_
      have hj : j < l.length := by rw [hn]; exact (List.getElem?_eq_some_iff.1 hy).1
      exact ih j _ y (List.getElem?_eq_getElem hj) hy (hc j _ v (List.getElem?_eq_getElem hj) hv)
theorem Loose.one {x y : V} (h : Loose x y) : x.one = true := by cases h <;> rfl

theorem VCallP.loose {P : Program} {f : FuncId} {c c' : Nat} {xs : List V} {r v : V} (h : VCallP P f c xs r c') (hl : Loose r v) : VCallP P f c xs v c := by
  intro w Φ μ vs hm hn ha
  refine Calls.mono (h w Φ μ vs hm hn ha) ?_
  rintro e W' ⟨u, μ', rfl, hm', hr⟩
  refine ⟨u, μ', rfl, ⟨hm'.good, hm'.moved, Nat.le_refl _, hm'.mu0, fun t h1 h2 => absurd h2 (Nat.not_lt.2 h1), fun t t' h1 h2 => absurd h2 (Nat.not_lt.2 h1), fun t k hk => (by cases hk), fun t ht => absurd rfl ht, fun t k hk => (by cases hk)⟩, RepE.of_one (hl.rep (hr.one hl.one))⟩
theorem VSpec.loose {P : Program} {f : FuncId} {c : Nat} {xs : List V} {v : V} {Q : V → Nat → Prop} (h : VSpec P f c xs Q) (hl : ∀ r c', Q r c' → Loose r v) : VCallP P f c xs v c := by
  obtain ⟨r, c', _, h1, h2⟩ := h
  exact h1.loose (hl r c' h2)
theorem VCallP.at {P : Program} {f : FuncId} {c' : Nat} {v : Value} (h : VCallP P f 0 [] (.lit v) c') (c : Nat) : VCallP P f c [] (.lit v) c := by
  intro w Φ μ vs hm hn ha
  have hm0 : Mem ⟨P, 0, w, Φ, 0, μ, noBlk, noGiv, noGv⟩ noBlk 0 w μ := ⟨⟨fun t ht => absurd rfl ht, fun t ht => absurd rfl ht, fun t t' ht => absurd rfl ht, fun t ht => absurd ht (Nat.not_lt_zero _), fun b hb => hb.elim, fun t ht => absurd rfl ht, fun b hb => hb.elim, hm.good.glob⟩, ⟨rfl, rfl, rfl, Nat.le_refl _, Grows.refl _, fun _ _ _ _ => rfl⟩, Nat.le_refl _, fun _ _ => rfl, fun t h1 h2 => absurd h2 (Nat.not_lt_zero _), fun t t' h1 h2 => absurd h2 (Nat.not_lt_zero _), fun t k hk => (by cases hk), fun t ht => absurd rfl ht, fun t k hk => (by cases hk)⟩
  refine Calls.mono (h w Φ μ vs hm0 hn (fun j x v hx => by simp at hx)) ?_
  rintro e W' ⟨u, μ', rfl, hm', hr⟩
  refine ⟨u, μ, rfl, ⟨hm.good, ⟨hm'.moved.os, hm'.moved.tape, hm'.moved.output, hm'.moved.size, hm'.moved.grows, fun b hb hg _ => hm'.moved.block b hb hg (fun t ht => absurd rfl ht)⟩, Nat.le_refl _, fun _ _ => rfl, fun t h1 h2 => absurd h2 (Nat.not_lt.2 h1), fun t t' h1 h2 => absurd h2 (Nat.not_lt.2 h1), fun t k hk => (by cases hk), fun t ht => absurd rfl ht, fun t k hk => (by cases hk)⟩, RepE.of_one ?_⟩
  have := hr.one rfl
  rw [rep_lit this]
  exact .lit v

def dec1 (v : V) : Option Nat := match v with | .lit (.int .u64 (.ofNat n)) => if n < 18446744073709551616 then some n else none | _ => none
def decL (l : List V) : Option (List Nat) := match l with
  | [] => some []
  | x :: r => match dec1 x, decL r with | some n, some l => some (n :: l) | _, _ => none
theorem dec1_some {v : V} {n : Nat} (h : dec1 v = some n) : v = nv n ∧ n < 18446744073709551616 := by
  unfold dec1 at h
  split at h
  · split at h
    · cases h; exact ⟨rfl, by assumption⟩
    · cases h
  · cases h
theorem decL_some {l : List V} {r : List Nat} (h : decL l = some r) : l = r.map nv ∧ Lim 18446744073709551616 r := by
  induction l generalizing r with
  | nil => cases h; exact ⟨rfl, Lim.nil⟩
  | cons x l ih =>
    simp only [decL] at h
    split at h
    · rename_i n l' h1 h2
      cases h
      obtain ⟨rfl, hn⟩ := dec1_some h1
      obtain ⟨rfl, hl⟩ := ih h2
      exact ⟨rfl, hl.cons hn⟩
    · cases h
def shortL (l : List Nat) : Bool := Nat.ble l.length 1000000
def decN (v : V) : Option (Tok × List Nat) := match v with
  | .sl t 1 l => match decL l with | some r => if shortL r = true then some (t, r) else none | none => none
  | _ => none
theorem decN_some {v : V} {t : Tok} {l : List Nat} (h : decN v = some (t, l)) : v = nats t l ∧ Lim 18446744073709551616 l ∧ l.length ≤ 1000000 := by
  unfold decN at h
  split at h
  · split at h
    · rename_i r hr
      split at h
      · rename_i hs
        cases h
        obtain ⟨rfl, hl⟩ := decL_some hr
        exact ⟨rfl, hl, Nat.le_of_ble_eq_true hs⟩
      · cases h
    · cases h
  · cases h
def decI (v : V) : Option Nat := match v with | .lit (.int .i64 (.ofNat n)) => if n < 9223372036854775808 then some n else none | _ => none
theorem decI_some {v : V} {n : Nat} (h : decI v = some n) : v = iv n ∧ n < 9223372036854775808 := by
  unfold decI at h
  split at h
  · split at h
    · cases h; exact ⟨rfl, by assumption⟩
    · cases h
  · cases h
def fD {α : Type} (l : List Nat) (k : List Nat → α) : α := match l with | [] => k [] | x :: xs => fN x fun x => fD xs fun xs => k (x :: xs)
theorem fD_eq {α : Type} (l : List Nat) (k : List Nat → α) : fD l k = k l := by
  induction l generalizing k with
  | nil => rfl
  | cons x xs ih => rw [fD, fN_eq, ih]
def unkN (n : Nat) : V := fN n fun n => fD (digs 18446744073709551616 n) fun l => nats .unk l
theorem unkN_eq (n : Nat) : unkN n = nats .unk (digs 18446744073709551616 n) := by unfold unkN; rw [fN_eq, fD_eq]
def toldN (n : Nat) : V := fN n fun n => if Nat.ble (bl n) 67108864 = true then .tup [unkN n, iv 0] else .tup [.sl .unk 1 [], iv 3]

theorem iteO {p : Prop} [Decidable p] {a b : Option V} {v : V} (h : (if p then a else b) = some v) : (p ∧ a = some v) ∨ (¬ p ∧ b = some v) := by
  by_cases g : p
  · rw [if_pos g] at h; exact .inl ⟨g, h⟩
  · rw [if_neg g] at h; exact .inr ⟨g, h⟩
def o1 (g : Nat → V) (xs : List V) : Option V := match xs with | [x] => (match decN x with | some p => some (g (val 18446744073709551616 p.2)) | none => none) | _ => none
def o2 (g : Nat → Nat → V) (xs : List V) : Option V := match xs with | [x, y] => (match decN x, decN y with | some p, some q => some (g (val 18446744073709551616 p.2) (val 18446744073709551616 q.2)) | _, _ => none) | _ => none
def o1n (g : Nat → Nat → V) (xs : List V) : Option V := match xs with | [x, y] => (match decN x, dec1 y with | some p, some q => some (g (val 18446744073709551616 p.2) q) | _, _ => none) | _ => none
def o1i (g : Nat → Nat → Option V) (xs : List V) : Option V := match xs with | [x, y] => (match decN x, decI y with | some p, some q => g (val 18446744073709551616 p.2) q | _, _ => none) | _ => none
def o0n (g : Nat → V) (xs : List V) : Option V := match xs with | [x] => (match dec1 x with | some q => some (g q) | none => none) | _ => none
section
variable {P : Program} {f : FuncId} {xs : List V} {v : V}
theorem o1_ok {g : Nat → V} (h : ∀ t a c, Lim 18446744073709551616 a → a.length ≤ 1000000 → VCallP P f c [nats t a] (g (val 18446744073709551616 a)) c) (e : o1 g xs = some v) (c : Nat) : VCallP P f c xs v c := by
  unfold o1 at e
  split at e
  · split at e
    · rename_i p hp
      cases e
      obtain ⟨rfl, h1, h2⟩ := decN_some hp
      exact h _ _ c h1 h2
    · cases e
  · cases e
theorem o2_ok {g : Nat → Nat → V} (h : ∀ t u a b c, Lim 18446744073709551616 a → Lim 18446744073709551616 b → a.length ≤ 1000000 → b.length ≤ 1000000 → VCallP P f c [nats t a, nats u b] (g (val 18446744073709551616 a) (val 18446744073709551616 b)) c) (e : o2 g xs = some v) (c : Nat) : VCallP P f c xs v c := by
  unfold o2 at e
  split at e
  · split at e
    · rename_i p q hp hq
      cases e
      obtain ⟨rfl, h1, h2⟩ := decN_some hp
      obtain ⟨rfl, h3, h4⟩ := decN_some hq
      exact h _ _ _ _ c h1 h3 h2 h4
    · cases e
  · cases e
theorem o1n_ok {g : Nat → Nat → V} (h : ∀ t a n c, Lim 18446744073709551616 a → n < 18446744073709551616 → a.length ≤ 1000000 → VCallP P f c [nats t a, nv n] (g (val 18446744073709551616 a) n) c) (e : o1n g xs = some v) (c : Nat) : VCallP P f c xs v c := by
  unfold o1n at e
  split at e
  · split at e
    · rename_i p q hp hq
      cases e
      obtain ⟨rfl, h1, h2⟩ := decN_some hp
      obtain ⟨rfl, h3⟩ := dec1_some hq
      exact h _ _ _ c h1 h3 h2
    · cases e
  · cases e
theorem o1i_ok {g : Nat → Nat → Option V} (h : ∀ t a n c v, Lim 18446744073709551616 a → n < 9223372036854775808 → a.length ≤ 1000000 → g (val 18446744073709551616 a) n = some v → VCallP P f c [nats t a, iv n] v c) (e : o1i g xs = some v) (c : Nat) : VCallP P f c xs v c := by
  unfold o1i at e
  split at e
  · split at e
    · rename_i p q hp hq
      obtain ⟨rfl, h1, h2⟩ := decN_some hp
      obtain ⟨rfl, h3⟩ := decI_some hq
      exact h _ _ _ c _ h1 h3 h2 e
    · cases e
  · cases e
theorem o0n_ok {g : Nat → V} (h : ∀ n c, n < 18446744073709551616 → VCallP P f c [nv n] (g n) c) (e : o0n g xs = some v) (c : Nat) : VCallP P f c xs v c := by
  unfold o0n at e
  split at e
  · split at e
    · rename_i q hq
      cases e
      obtain ⟨rfl, h3⟩ := dec1_some hq
      exact h _ c h3
    · cases e
  · cases e
end
end Go.VM
namespace Go.Proofs.Ythjnmfieicniaaa
open Go.VM

theorem nil_loose : Loose nil1 (.sl .unk 1 []) := Loose.sl .nil 1 []
theorem blt_of {a b : Nat} : Nat.blt a b = true ↔ a < b := by rw [Nat.blt_eq]
theorem natR_loose {c c' n : Nat} {r : V} (h : NatR c c' n r) : Loose r (unkN n) := by
  obtain ⟨t, rfl, _⟩ := h
  rw [unkN_eq]; exact Loose.nats t _
theorem told_loose {c c' n : Nat} {r : V} (h : Told c c' n r) : Loose r (toldN n) := by
  unfold toldN
  rw [fN_eq]
  rcases h with ⟨h, t, rfl, _⟩ | ⟨h, rfl⟩
  · rw [if_pos (Nat.ble_eq_true_of_le h), unkN_eq]; exact .pair (Loose.nats t _) (.lit _)
  · rw [if_neg (fun e => absurd (Nat.le_of_ble_eq_true e) (by omega))]
    exact .pair nil_loose (.lit _)

def throughN (a d : Nat) : V := if Nat.beq d 0 = true then .tup [.sl .unk 1 [], nv 0, iv 1] else if Nat.ble (bl (a / d)) 67108864 = true then fN (a % d) fun m => .tup [unkN (a / d), nv m, iv 0] else .tup [.sl .unk 1 [], nv 0, iv 3]
def subN (a b : Nat) : V := if Nat.blt a b = true then .tup [.sl .unk 1 [], iv 10] else toldN (a - b)

def orcNat : XOrc := fun f xs =>
  if Nat.beq f F.nat_Length = true then o1 (fun a => fN (bl a) fun n => iv n) xs
  else if Nat.beq f F.nat_Compare = true then o2 (fun a b => if Nat.blt a b = true then iv (-1) else if Nat.beq a b = true then iv 0 else iv 1) xs
  else if Nat.beq f F.nat_From = true then o0n unkN xs
  else if Nat.beq f F.nat_Norm = true then o1 unkN xs
  else if Nat.beq f F.nat_Add = true then o2 (fun a b => toldN (a + b)) xs
  else if Nat.beq f F.nat_Sub = true then o2 subN xs
  else if Nat.beq f F.nat_Times = true then o1n (fun a n => toldN (a * n)) xs
  else if Nat.beq f F.nat_Left = true then o1i (fun a n => if Nat.ble n 1000000 = true then some (toldN (a * 2 ^ n)) else none) xs
  else if Nat.beq f F.mul_Mul = true then o2 (fun a b => toldN (a * b)) xs
  else if Nat.beq f F.mul_Square = true then o1 (fun a => toldN (a * a)) xs
  else if Nat.beq f F.mul_Pow = true then o1i (fun a n => if Nat.ble n 1000000 = true then some (toldN (a ^ n)) else none) xs
  else if Nat.beq f F.nat_Through = true then o1n throughN xs
  else none

theorem orcNat_ok : OrcOk Try.prog orcNat := by
  intro f xs v h c
  unfold orcNat at h
  rcases iteO h with ⟨e, h⟩ | ⟨_, h⟩
  · rw [Nat.eq_of_beq_eq_true e]
    refine o1_ok (fun t a c h1 h2 => (length_spec t a c h1 (by omega)).loose ?_) h c
    rintro r c' rfl
    rw [fN_eq]; exact .lit _
  rcases iteO h with ⟨e, h⟩ | ⟨_, h⟩
  · rw [Nat.eq_of_beq_eq_true e]
    refine o2_ok (fun t u a b c h1 h2 h3 h4 => (compare_spec t u a b c h1 h2 (by omega) (by omega)).loose ?_) h c
    rintro r c' rfl
    unfold cmpI
    by_cases g : val 18446744073709551616 a < val 18446744073709551616 b
    · rw [if_pos g, if_pos (blt_of.2 g)]; exact .lit _
    · rw [if_neg g, if_neg (fun e => g (blt_of.1 e))]
      by_cases g2 : val 18446744073709551616 a = val 18446744073709551616 b
      · rw [if_pos g2, if_pos (by rw [Nat.beq_eq]; exact g2)]; exact .lit _
      · rw [if_neg g2, if_neg (fun e => g2 (Nat.eq_of_beq_eq_true e))]; exact .lit _
  rcases iteO h with ⟨e, h⟩ | ⟨_, h⟩
  · rw [Nat.eq_of_beq_eq_true e]
    exact o0n_ok (fun n c h1 => (from_spec n c h1).loose fun r c' h => natR_loose h) h c
  rcases iteO h with ⟨e, h⟩ | ⟨_, h⟩
  · rw [Nat.eq_of_beq_eq_true e]
    exact o1_ok (fun t a c h1 h2 => (norm_spec t a c h1 (by omega)).loose fun r c' h => natR_loose h) h c
  rcases iteO h with ⟨e, h⟩ | ⟨_, h⟩
  · rw [Nat.eq_of_beq_eq_true e]
    exact o2_ok (fun t u a b c h1 h2 h3 h4 => (add_spec t u a b c h1 h2 (by omega) (by omega)).loose fun r c' h => told_loose h) h c
  rcases iteO h with ⟨e, h⟩ | ⟨_, h⟩
  · rw [Nat.eq_of_beq_eq_true e]
    refine o2_ok (fun t u a b c h1 h2 h3 h4 => (sub_spec t u a b c h1 h2 (by omega) (by omega)).loose ?_) h c
    intro r c' hr
    unfold subN
    split at hr
    · rename_i g
      rw [if_pos (blt_of.2 g), hr]
      exact .pair nil_loose (.lit _)
    · rename_i g
      rw [if_neg (fun e => g (blt_of.1 e))]
      exact told_loose hr
  rcases iteO h with ⟨e, h⟩ | ⟨_, h⟩
  · rw [Nat.eq_of_beq_eq_true e]
    exact o1n_ok (fun t a n c h1 h2 h3 => (times_spec t a n c h1 h2 (by omega)).loose fun r c' h => told_loose h) h c
  rcases iteO h with ⟨e, h⟩ | ⟨_, h⟩
  · rw [Nat.eq_of_beq_eq_true e]
    refine o1i_ok (fun t a n c v h1 h2 h3 he => ?_) h c
    rcases iteO he with ⟨g, he⟩ | ⟨_, he⟩
    · cases he
      exact (left_spec t a n c h1 (by have := Nat.le_of_ble_eq_true g; omega) (by omega)).loose fun r c' h => told_loose h
    · cases he
  rcases iteO h with ⟨e, h⟩ | ⟨_, h⟩
  · rw [Nat.eq_of_beq_eq_true e]
    exact o2_ok (fun t u a b c h1 h2 h3 h4 => (mul_spec t u a b c h1 h2 (by omega) (by omega)).loose fun r c' h => told_loose h) h c
  rcases iteO h with ⟨e, h⟩ | ⟨_, h⟩
  · rw [Nat.eq_of_beq_eq_true e]
    exact o1_ok (g := fun a => toldN (a * a)) (fun t a c h1 h2 => (square_spec t a c h1 (by omega)).loose fun r c' h => told_loose h) h c
  rcases iteO h with ⟨e, h⟩ | ⟨_, h⟩
  · rw [Nat.eq_of_beq_eq_true e]
    refine o1i_ok (fun t a n c v h1 h2 h3 he => ?_) h c
    rcases iteO he with ⟨g, he⟩ | ⟨_, he⟩
    · cases he
      exact (pow_spec t a n c h1 (by omega) h2).loose fun r c' h => told_loose h
    · cases he
  rcases iteO h with ⟨e, h⟩ | ⟨_, h⟩
  · rw [Nat.eq_of_beq_eq_true e]
    refine o1n_ok (g := throughN) (fun t a n c h1 h2 h3 => (through_spec t a n c h1 h2 (by omega)).loose ?_) h c
    rintro r c' ⟨q1, q2, q3⟩
    unfold throughN
    by_cases g : n = 0
    · rw [if_pos (by rw [Nat.beq_eq]; exact g), q1 g]
      exact .triple nil_loose (.lit _) (.lit _)
    · rw [if_neg (fun e => g (Nat.eq_of_beq_eq_true e))]
      by_cases g2 : bl (val 18446744073709551616 a / n) ≤ 67108864
      · obtain ⟨t', rfl, _⟩ := q2 (by omega) g2
        rw [if_pos (Nat.ble_eq_true_of_le g2), fN_eq, unkN_eq]
        exact .triple (Loose.nats _ _) (.lit _) (.lit _)
      · rw [if_neg (fun e => absurd (Nat.le_of_ble_eq_true e) g2), q3 (by omega) (by omega)]
        exact .triple nil_loose (.lit _) (.lit _)
  cases h

theorem gX {f : FuncId} {fn : Func} {C : VC} {R : List VRes} {n : Nat} (g : Gok f fn C R n) (h : (fn.name == "runtime.NumGoroutine") = false := by kernel_rfl) : GoodF Try.prog ⟨f, C, R, n⟩ := ⟨_, _, g.e, g.b, g.k, g.q, g.n, h⟩

theorem X.surdref01_Of : GoodF Try.prog ⟨F.surdref01_Of, C.surdref01_Of, R.surdref01_Of, 26⟩ := gX G.surdref01_Of
theorem X.surdlaw04_awake : GoodF Try.prog ⟨F.surdlaw04_awake, C.surdlaw04_awake, R.surdlaw04_awake, 23⟩ := gX G.surdlaw04_awake
theorem X.surdref01_norm : GoodF Try.prog ⟨F.surdref01_norm, C.surdref01_norm, R.surdref01_norm, 22⟩ := gX G.surdref01_norm
theorem X.roots_fits : GoodF Try.prog ⟨F.roots_fits, C.roots_fits, R.roots_fits, 9⟩ := gX G.roots_fits
theorem X.nat_Length : GoodF Try.prog ⟨F.nat_Length, C.nat_Length, R.nat_Length, 20⟩ := gX G.nat_Length
theorem X.roots_Root : GoodF Try.prog ⟨F.roots_Root, C.roots_Root, R.roots_Root, 42⟩ := gX G.roots_Root
theorem X.surdlaw04_num : GoodF Try.prog ⟨F.surdlaw04_num, C.surdlaw04_num, R.surdlaw04_num, 4⟩ := gX G.surdlaw04_num
theorem X.surdref01_Num_Is : GoodF Try.prog ⟨F.surdref01_Num_Is, C.surdref01_Num_Is, R.surdref01_Num_Is, 29⟩ := gX G.surdref01_Num_Is
theorem X.roots_Sqrt : GoodF Try.prog ⟨F.roots_Sqrt, C.roots_Sqrt, R.roots_Sqrt, 10⟩ := gX G.roots_Sqrt
theorem X.surdref01_Int : GoodF Try.prog ⟨F.surdref01_Int, C.surdref01_Int, R.surdref01_Int, 7⟩ := gX G.surdref01_Int
theorem X.nat_Norm : GoodF Try.prog ⟨F.nat_Norm, C.nat_Norm, R.nat_Norm, 6⟩ := gX G.nat_Norm
theorem X.nat_trim : GoodF Try.prog ⟨F.nat_trim, C.nat_trim, R.nat_trim, 21⟩ := gX G.nat_trim
theorem X.bits_Len64 : GoodF Try.prog ⟨F.bits_Len64, C.bits_Len64, R.bits_Len64, 25⟩ := gX G.bits_Len64
theorem X.roots_newton : GoodF Try.prog ⟨F.roots_newton, C.roots_newton, R.roots_newton, 72⟩ := gX G.roots_newton
theorem X.mul_Pow : GoodF Try.prog ⟨F.mul_Pow, C.mul_Pow, R.mul_Pow, 63⟩ := gX G.mul_Pow
theorem X.roots_less : GoodF Try.prog ⟨F.roots_less, C.roots_less, R.roots_less, 14⟩ := gX G.roots_less
theorem X.surdref01_Num_Limbs : GoodF Try.prog ⟨F.surdref01_Num_Limbs, C.surdref01_Num_Limbs, R.surdref01_Num_Limbs, 34⟩ := gX G.surdref01_Num_Limbs
theorem X.nat_From : GoodF Try.prog ⟨F.nat_From, C.nat_From, R.nat_From, 7⟩ := gX G.nat_From
theorem X.roots_power : GoodF Try.prog ⟨F.roots_power, C.roots_power, R.roots_power, 12⟩ := gX G.roots_power
theorem X.div_Quo : GoodF Try.prog ⟨F.div_Quo, C.div_Quo, R.div_Quo, 25⟩ := gX G.div_Quo
theorem X.nat_Times : GoodF Try.prog ⟨F.nat_Times, C.nat_Times, R.nat_Times, 56⟩ := gX G.nat_Times
theorem X.nat_Add : GoodF Try.prog ⟨F.nat_Add, C.nat_Add, R.nat_Add, 61⟩ := gX G.nat_Add
theorem X.nat_Through : GoodF Try.prog ⟨F.nat_Through, C.nat_Through, R.nat_Through, 48⟩ := gX G.nat_Through
theorem X.nat_Compare : GoodF Try.prog ⟨F.nat_Compare, C.nat_Compare, R.nat_Compare, 45⟩ := gX G.nat_Compare
theorem X.mul_Square : GoodF Try.prog ⟨F.mul_Square, C.mul_Square, R.mul_Square, 9⟩ := gX G.mul_Square
theorem X.mul_Mul : GoodF Try.prog ⟨F.mul_Mul, C.mul_Mul, R.mul_Mul, 11⟩ := gX G.mul_Mul
theorem X.nat_Sub : GoodF Try.prog ⟨F.nat_Sub, C.nat_Sub, R.nat_Sub, 52⟩ := gX G.nat_Sub
theorem X.nat_Left : GoodF Try.prog ⟨F.nat_Left, C.nat_Left, R.nat_Left, 73⟩ := gX G.nat_Left
theorem X.div_divide : GoodF Try.prog ⟨F.div_divide, C.div_divide, R.div_divide, 104⟩ := gX G.div_divide
theorem X.bits_Mul64 : GoodF Try.prog ⟨F.bits_Mul64, C.bits_Mul64, R.bits_Mul64, 51⟩ := gX G.bits_Mul64
theorem X.nat_told : GoodF Try.prog ⟨F.nat_told, C.nat_told, R.nat_told, 10⟩ := gX G.nat_told
theorem X.bits_Div64 : GoodF Try.prog ⟨F.bits_Div64, C.bits_Div64, R.bits_Div64, 135⟩ := gX G.bits_Div64
theorem X.mul_product : GoodF Try.prog ⟨F.mul_product, C.mul_product, R.mul_product, 22⟩ := gX G.mul_product
theorem X.mul_Mul_1 : GoodF Try.prog ⟨F.mul_Mul_1, C.mul_Mul_1, R.mul_Mul_1, 8⟩ := gX G.mul_Mul_1
theorem X.mul_halved : GoodF Try.prog ⟨F.mul_halved, C.mul_halved, R.mul_halved, 124⟩ := gX G.mul_halved
theorem X.bits_LeadingZeros64 : GoodF Try.prog ⟨F.bits_LeadingZeros64, C.bits_LeadingZeros64, R.bits_LeadingZeros64, 6⟩ := gX G.bits_LeadingZeros64
theorem X.div_up : GoodF Try.prog ⟨F.div_up, C.div_up, R.div_up, 39⟩ := gX G.div_up
theorem X.div_guess : GoodF Try.prog ⟨F.div_guess, C.div_guess, R.div_guess, 195⟩ := gX G.div_guess
theorem X.div_down : GoodF Try.prog ⟨F.div_down, C.div_down, R.div_down, 47⟩ := gX G.div_down
theorem X.mul_great : GoodF Try.prog ⟨F.mul_great, C.mul_great, R.mul_great, 24⟩ := gX G.mul_great
theorem X.mul_fits : GoodF Try.prog ⟨F.mul_fits, C.mul_fits, R.mul_fits, 10⟩ := gX G.mul_fits
theorem X.mul_school : GoodF Try.prog ⟨F.mul_school, C.mul_school, R.mul_school, 78⟩ := gX G.mul_school
theorem X.mul_addAt : GoodF Try.prog ⟨F.mul_addAt, C.mul_addAt, R.mul_addAt, 53⟩ := gX G.mul_addAt
theorem X.mul_part : GoodF Try.prog ⟨F.mul_part, C.mul_part, R.mul_part, 32⟩ := gX G.mul_part
theorem X.mul_less : GoodF Try.prog ⟨F.mul_less, C.mul_less, R.mul_less, 43⟩ := gX G.mul_less
theorem X.mul_sum : GoodF Try.prog ⟨F.mul_sum, C.mul_sum, R.mul_sum, 20⟩ := gX G.mul_sum
def XT : List XFun := [⟨F.surdref01_Of, C.surdref01_Of, R.surdref01_Of, 26⟩,
  ⟨F.surdlaw04_awake, C.surdlaw04_awake, R.surdlaw04_awake, 23⟩,
  ⟨F.surdref01_norm, C.surdref01_norm, R.surdref01_norm, 22⟩,
  ⟨F.roots_fits, C.roots_fits, R.roots_fits, 9⟩,
  ⟨F.nat_Length, C.nat_Length, R.nat_Length, 20⟩,
  ⟨F.roots_Root, C.roots_Root, R.roots_Root, 42⟩,
  ⟨F.surdlaw04_num, C.surdlaw04_num, R.surdlaw04_num, 4⟩,
  ⟨F.surdref01_Num_Is, C.surdref01_Num_Is, R.surdref01_Num_Is, 29⟩,
  ⟨F.roots_Sqrt, C.roots_Sqrt, R.roots_Sqrt, 10⟩,
  ⟨F.surdref01_Int, C.surdref01_Int, R.surdref01_Int, 7⟩,
  ⟨F.nat_Norm, C.nat_Norm, R.nat_Norm, 6⟩,
  ⟨F.nat_trim, C.nat_trim, R.nat_trim, 21⟩,
  ⟨F.bits_Len64, C.bits_Len64, R.bits_Len64, 25⟩,
  ⟨F.roots_newton, C.roots_newton, R.roots_newton, 72⟩,
  ⟨F.mul_Pow, C.mul_Pow, R.mul_Pow, 63⟩,
  ⟨F.roots_less, C.roots_less, R.roots_less, 14⟩,
  ⟨F.surdref01_Num_Limbs, C.surdref01_Num_Limbs, R.surdref01_Num_Limbs, 34⟩,
  ⟨F.nat_From, C.nat_From, R.nat_From, 7⟩,
  ⟨F.roots_power, C.roots_power, R.roots_power, 12⟩,
  ⟨F.div_Quo, C.div_Quo, R.div_Quo, 25⟩,
  ⟨F.nat_Times, C.nat_Times, R.nat_Times, 56⟩,
  ⟨F.nat_Add, C.nat_Add, R.nat_Add, 61⟩,
  ⟨F.nat_Through, C.nat_Through, R.nat_Through, 48⟩,
  ⟨F.nat_Compare, C.nat_Compare, R.nat_Compare, 45⟩,
  ⟨F.mul_Square, C.mul_Square, R.mul_Square, 9⟩,
  ⟨F.mul_Mul, C.mul_Mul, R.mul_Mul, 11⟩,
  ⟨F.nat_Sub, C.nat_Sub, R.nat_Sub, 52⟩,
  ⟨F.nat_Left, C.nat_Left, R.nat_Left, 73⟩,
  ⟨F.div_divide, C.div_divide, R.div_divide, 104⟩,
  ⟨F.bits_Mul64, C.bits_Mul64, R.bits_Mul64, 51⟩,
  ⟨F.nat_told, C.nat_told, R.nat_told, 10⟩,
  ⟨F.bits_Div64, C.bits_Div64, R.bits_Div64, 135⟩,
  ⟨F.mul_product, C.mul_product, R.mul_product, 22⟩,
  ⟨F.mul_Mul_1, C.mul_Mul_1, R.mul_Mul_1, 8⟩,
  ⟨F.mul_halved, C.mul_halved, R.mul_halved, 124⟩,
  ⟨F.bits_LeadingZeros64, C.bits_LeadingZeros64, R.bits_LeadingZeros64, 6⟩,
  ⟨F.div_up, C.div_up, R.div_up, 39⟩,
  ⟨F.div_guess, C.div_guess, R.div_guess, 195⟩,
  ⟨F.div_down, C.div_down, R.div_down, 47⟩,
  ⟨F.mul_great, C.mul_great, R.mul_great, 24⟩,
  ⟨F.mul_fits, C.mul_fits, R.mul_fits, 10⟩,
  ⟨F.mul_school, C.mul_school, R.mul_school, 78⟩,
  ⟨F.mul_addAt, C.mul_addAt, R.mul_addAt, 53⟩,
  ⟨F.mul_part, C.mul_part, R.mul_part, 32⟩,
  ⟨F.mul_less, C.mul_less, R.mul_less, 43⟩,
  ⟨F.mul_sum, C.mul_sum, R.mul_sum, 20⟩]
theorem XT_good : ∀ e ∈ XT, GoodF Try.prog e := by
  intro e h
  unfold XT at h
  simp only [List.mem_cons, List.not_mem_nil, or_false] at h
  rcases h with rfl | rfl | rfl | rfl | rfl | rfl | rfl | rfl | rfl | rfl | rfl | rfl | rfl | rfl | rfl | rfl | rfl | rfl | rfl | rfl | rfl | rfl | rfl | rfl | rfl | rfl | rfl | rfl | rfl | rfl | rfl | rfl | rfl | rfl | rfl | rfl | rfl | rfl | rfl | rfl | rfl | rfl | rfl | rfl | rfl | rfl
  · exact X.surdref01_Of
  · exact X.surdlaw04_awake
  · exact X.surdref01_norm
  · exact X.roots_fits
  · exact X.nat_Length
  · exact X.roots_Root
  · exact X.surdlaw04_num
  · exact X.surdref01_Num_Is
  · exact X.roots_Sqrt
  · exact X.surdref01_Int
  · exact X.nat_Norm
  · exact X.nat_trim
  · exact X.bits_Len64
  · exact X.roots_newton
  · exact X.mul_Pow
  · exact X.roots_less
  · exact X.surdref01_Num_Limbs
  · exact X.nat_From
  · exact X.roots_power
  · exact X.div_Quo
  · exact X.nat_Times
  · exact X.nat_Add
  · exact X.nat_Through
  · exact X.nat_Compare
  · exact X.mul_Square
  · exact X.mul_Mul
  · exact X.nat_Sub
  · exact X.nat_Left
  · exact X.div_divide
  · exact X.bits_Mul64
  · exact X.nat_told
  · exact X.bits_Div64
  · exact X.mul_product
  · exact X.mul_Mul_1
  · exact X.mul_halved
  · exact X.bits_LeadingZeros64
  · exact X.div_up
  · exact X.div_guess
  · exact X.div_down
  · exact X.mul_great
  · exact X.mul_fits
  · exact X.mul_school
  · exact X.mul_addAt
  · exact X.mul_part
  · exact X.mul_less
  · exact X.mul_sum
theorem awake_spec (c : Nat) : VSpec Try.prog F.surdlaw04_awake c [] (fun r _ => r = bv true) := by
  obtain ⟨c', h⟩ := xcall_p hm orcNat_ok XT_good (lend := fun _ => false) (rounds := 100000) (n := 60) (c := 0) (f := F.surdlaw04_awake) (xs := []) (v := bv true) (by kernel_rfl)
  exact ⟨_, c, Nat.le_refl _, h.at c, rfl⟩

theorem rows_inj : ∀ {ds : List (Option (Nat × Nat))}, (rowIds ds).Nodup → ∀ {i j t n m : Nat}, ds[i]? = some (some (t, n)) → ds[j]? = some (some (t, m)) → i = j
  | [], _, i, j, t, n, m, h, _ => by simp at h
  | d :: ds, hn, i, j, t, n, m, h, h' => by
    have mem : ∀ {k q : Nat}, ds[k]? = some (some (t, q)) → t ∈ rowIds ds := fun h => List.mem_filterMap.2 ⟨_, List.mem_of_getElem? h, rfl⟩
    have tl : (rowIds ds).Nodup := by
      cases d with
      | none => exact hn
      | some q => exact (List.nodup_cons.1 hn).2
    have hd : ∀ q, d = some (t, q) → t ∉ rowIds ds := by
      rintro q rfl
      exact (List.nodup_cons.1 hn).1
    cases i with
    | zero =>
      cases j with
      | zero => rfl
      | succ j =>
        simp only [List.getElem?_cons_zero, Option.some.injEq] at h
        simp only [List.getElem?_cons_succ] at h'
        exact absurd (mem h') (hd _ h)
    | succ i =>
      cases j with
      | zero =>
        simp only [List.getElem?_cons_zero, Option.some.injEq] at h'
        simp only [List.getElem?_cons_succ] at h
        exact absurd (mem h) (hd _ h')
      | succ j =>
        simp only [List.getElem?_cons_succ] at h h'
        exact congrArg Nat.succ (rows_inj tl h h')

structure RowS (σ : Nat → Option Blk) (tL : Nat) (ds : List (Option (Nat × Nat))) : Prop where
  hd : σ tL = some ⟨ds.map rowOf, true⟩
  row : ∀ (i t n : Nat), ds[i]? = some (some (t, n)) → t ≠ tL ∧ n ≤ 4398046511200 ∧ ∃ cells, σ t = some ⟨cells, true⟩ ∧ n ≤ cells.length
  inj : ∀ (i j t n m : Nat), ds[i]? = some (some (t, n)) → ds[j]? = some (some (t, m)) → i = j
def Holds (σ : Nat → Option Blk) (d : Option (Nat × Nat)) (f : Nat → Nat) : Prop := ∀ t n, d = some (t, n) → ∃ cells, σ t = some ⟨cells, true⟩ ∧ ∀ k, k < n → cells[k]? = some (nv (f k))
theorem Holds.none {σ : Nat → Option Blk} {f : Nat → Nat} : Holds σ none f := fun t n h => by cases h
theorem Holds.congr {σ : Nat → Option Blk} {d : Option (Nat × Nat)} {f g : Nat → Nat} (h : Holds σ d f) (e : ∀ t n, d = some (t, n) → ∀ k, k < n → f k = g k) : Holds σ d g := fun t n hd => by
  obtain ⟨cells, h1, h2⟩ := h t n hd
  exact ⟨cells, h1, fun k hk => by rw [h2 k hk, e t n hd k hk]⟩
theorem Holds.put {σ : Nat → Option Blk} {d : Option (Nat × Nat)} {f : Nat → Nat} (h : Holds σ d f) {t : Nat} {b : Option Blk} (ht : ∀ n, d ≠ some (t, n)) : Holds (supd σ t b) d f := fun u n hd => by
  obtain ⟨cells, h1, h2⟩ := h u n hd
  refine ⟨cells, ?_, h2⟩
  rw [supd_app, if_neg (fun e => ht n (by rw [← e]; exact hd))]
  exact h1
theorem RowS.put {σ : Nat → Option Blk} {tL : Nat} {ds : List (Option (Nat × Nat))} (h : RowS σ tL ds) {t : Nat} {cells : List V} (ht : t ≠ tL) (hn : ∀ (i n : Nat), ds[i]? = some (some (t, n)) → n ≤ cells.length) : RowS (supd σ t (some ⟨cells, true⟩)) tL ds := by
  refine ⟨?_, fun i u n hi => ?_, h.inj⟩
  · rw [supd_app, if_neg (Ne.symm ht)]; exact h.hd
  · obtain ⟨h1, h2, cs, h3, h4⟩ := h.row i u n hi
    refine ⟨h1, h2, ?_⟩
    by_cases e : u = t
    · subst e
      exact ⟨cells, supd_same _ _ _, hn i n hi⟩
    · exact ⟨cs, by rw [supd_app, if_neg e]; exact h3, h4⟩
theorem RowS.len {σ : Nat → Option Blk} {tL : Nat} {ds : List (Option (Nat × Nat))} (h : RowS σ tL ds) {i : Nat} {d : Option (Nat × Nat)} (hi : ds[i]? = some d) : (ds.map rowOf)[i]? = some (rowOf d) := by
  rw [List.getElem?_map, hi]; rfl

theorem d_cells {cs : List V} {b : Bool} {i : Nat} : dload (some ⟨cs, b⟩) none i = cs[i]? := rfl
theorem t_celln {σ : Nat → Option Blk} {cs : List V} {t i x : Nat} : dstore (some ⟨cs, true⟩) σ t 1 i (nv x) = if i < cs.length then some (supd σ t (some ⟨cs.set i (nv x), true⟩)) else none := by
  have h0 : dstore (some ⟨cs, true⟩) σ t 1 i (nv x) = if true = true ∧ [nv x].length = 1 ∧ i + 1 ≤ cs.length then some (supd σ t (some ⟨putCells cs i [nv x], true⟩)) else none := rfl
  rw [h0]
  by_cases h : i < cs.length
  · rw [if_pos h, if_pos ⟨rfl, rfl, by omega⟩]; rfl
  · rw [if_neg h, if_neg (by omega)]
theorem t_cellb {σ : Nat → Option Blk} {cs : List V} {t i u o m sz : Nat} {cp : Option Nat} : dstore (some ⟨cs, true⟩) σ t 1 i (.buf u o m cp sz) = if i < cs.length then some (supd σ t (some ⟨cs.set i (.buf u o m cp sz), true⟩)) else none := by
  have h0 : dstore (some ⟨cs, true⟩) σ t 1 i (.buf u o m cp sz) = if true = true ∧ [V.buf u o m cp sz].length = 1 ∧ i + 1 ≤ cs.length then some (supd σ t (some ⟨putCells cs i [.buf u o m cp sz], true⟩)) else none := rfl
  rw [h0]
  by_cases h : i < cs.length
  · rw [if_pos h, if_pos ⟨rfl, rfl, by omega⟩]; rfl
  · rw [if_neg h, if_neg (by omega)]

theorem own_mk {P : Program} (hmx : P.follows .mixedOrders = true) {f : FuncId} {fn : Func} {code : Code} {vc : VC} {rs : List VRes} (hf : P.funcs[f]? = some fn) (hb : fn.body = some code) (hvc : resCode P fn.ntmps code = vc) (hrs : resResults P fn.results.toList = some rs)
    (hn : 1 ≤ fn.ntmps) (h : ∀ (cg tL : Nat) (σg : Nat → Option Blk) (bs : List (Option (Nat × Nat))), RowS σg tL bs → bs.length ≤ 1000000 → (∀ (i t n : Nat), bs[i]? = some (some (t, n)) → n ≤ 4398046511104) → (∀ t k, σg t = some k → t < cg) →
      VWP P 0 vc (retQ rs fun r c' => r = .lit (.bool true)) ⟨Go.VM.start [.buf tL 0 bs.length none 1], σg, cg⟩) : OwnSpec P f := by
  intro cg tL σg bs h1 h2 h3 h4
  by_cases hd : ∀ t k, σg t = some k → t < cg
  · obtain ⟨e, S', he, hq⟩ := h cg tL σg bs ⟨h1, fun i t n hi => by
      obtain ⟨q1, q2, q3⟩ := h3 t n (List.mem_of_getElem? hi)
      exact ⟨q1, by omega, q3⟩, fun i j t n m => rows_inj h4⟩ h2 (fun i t n hi => (h3 t n (List.mem_of_getElem? hi)).2.1) hd
    have key : ∀ r, vresult S' rs = some r → (e = .ret ∨ e = .normal) → r = .lit (.bool true) → ∃ σ' c', VCallsG P f 0 cg noBlk σg [.buf tL 0 bs.length none 1] (.lit (.bool true)) σ' c' := fun r hr he' e1 => by
      subst e1
      exact ⟨noBlk, S'.c, vcallsG_of_exec hmx hf hb hvc hrs (by simpa using hn) he he' hr (fun t k h => by cases h) (fun t h => absurd rfl h)⟩
    cases e with
    | normal => rw [retQ_normal] at hq; obtain ⟨r, hr, h1⟩ := hq; exact key r hr (.inr rfl) h1
    | ret => rw [retQ_ret] at hq; obtain ⟨r, hr, h1⟩ := hq; exact key r hr (.inl rfl) h1
    | exit id => unfold retQ at hq; exact hq.elim
  · refine ⟨noBlk, 0, fun w Φ μ μg giv vs hmm => absurd (fun t k hk => ?_) hd⟩
    rcases hmm.dom t k hk with ⟨_, h⟩ | ⟨h, _⟩
    · exact h
    · exact absurd h (Nat.not_lt_zero _)

theorem v_once {P : Program} {c0 : Nat} {b : VC} {S : VS} {Q : VEx → VS → Prop} (h : VWP P c0 b (fun e S' => match e with | .normal => False | e => Q e S') S) : VWP P c0 (.loop b) Q S := by
  refine vwp_loop (fun _ S' => S' = S) 0 rfl ?_
  rintro n S' rfl
  refine vwp_mono h ?_
  intro e S2 h2
  cases e with
  | normal => exact h2.elim
  | exit j => exact h2
  | ret => exact h2

section
variable {P : Program} {dr : Bool} {c0 : Nat} {ρ : Nat → V} {σ : Nat → Option Blk} {c i : Nat} {r : List VO} {K : VS → Prop}
theorem s_bsl5 {x0 x1 x2 x3 x4 : X} {n0 n1 n2 n3 n4 : Nat} (h0 : x0.ev ρ = nv n0) (h1 : x1.ev ρ = nv n1) (h2 : x2.ev ρ = nv n2) (h3 : x3.ev ρ = nv n3) (h4 : x4.ev ρ = nv n4) (hk : wps P dr c0 r ⟨upd ρ i (nats (.id c) [n0, n1, n2, n3, n4]), σ, c + 1⟩ K) :
    wps P dr c0 (⟨some i, .bsl true 1 5 [.int .u64 0] [(0, (1, x0)), (1, (1, x1)), (2, (1, x2)), (3, (1, x3)), (4, (1, x4))], none⟩ :: r) ⟨ρ, σ, c⟩ K := by
  refine s_eff rfl (by intros; exact fun h => by cases h) (by intros; exact fun h => by cases h) ⟨_, _, _, none, .bsl (cs := [nv n0, nv n1, nv n2, nv n3, nv n4]) ?_, hk⟩
  simp only [partsOf, List.map, h0, h1, h2, h3, h4]
  rfl
theorem s_appmvG {x y : X} {t n : Nat} {cap : Option Nat} {cs : List V} {ys : List Nat} {u : Tok} (hx : x.ev ρ = .buf t 0 n cap 1) (ht : σ t = some ⟨cs, true⟩) (h0 : c0 ≤ t) (hy : y.ev ρ = nats u ys) (hn : n ≤ cs.length) (hb : n + ys.length ≤ 8796093022208)
    (hk : wps P dr c0 r ⟨upd (kill (some (.inl t)) ρ) i (.buf t 0 (n + ys.length) none 1), supd (killσ t σ) t (some ⟨(cs.take n).map (killV t) ++ ys.map nv, true⟩), c⟩ K) : wps P dr c0 (⟨some i, .app 1 8 [.int .u64 0] x y, none⟩ :: r) ⟨ρ, σ, c⟩ K := by
  have hc : vcells 1 σ (y.ev ρ) = some (ys.map nv) := by rw [hy]; cases u <;> rfl
  refine s_eff rfl (by intros; exact fun h => by cases h) (by intros; exact fun h => by cases h) ⟨_, _, _, some (.inl t), .appMove (k := ys.length) hx ht h0 hc (by simp) (by omega) (by omega) (by omega), ?_⟩
  have e : ((cs.take (n * 1)) ++ ys.map nv).map (killV t) = (cs.take n).map (killV t) ++ ys.map nv := by
    rw [Nat.mul_one, List.map_append]
    have : (ys.map nv).map (killV t) = ys.map nv := by rw [List.map_map]; rfl
    rw [this]
  rw [e]
  exact hk
end
theorem killed_at (t : Nat) (ρ : Nat → V) (j : Nat) : kill (some (.inl t)) ρ j = killV t (ρ j) := rfl
theorem killed_lit (t : Nat) (v : Value) : killV t (.lit v) = .lit v := rfl
theorem killed_buf {t u o n sz : Nat} {cp : Option Nat} (h : u ≠ t) : killV t (.buf u o n cp sz) = .buf u o n cp sz := by simp [killV, h]
theorem killσ_at {t : Nat} {σ : Nat → Option Blk} {u : Nat} {cs : List V} {b : Bool} (h : σ u = some ⟨cs, b⟩) : killσ t σ u = some ⟨cs.map (killV t), b⟩ := by simp [killσ, h]

def rowLen : Option (Nat × Nat) → Nat
  | none => 0
  | some q => q.2

theorem Holds.kill {σ : Nat → Option Blk} {d : Option (Nat × Nat)} {f : Nat → Nat} (h : Holds σ d f) (t : Nat) : Holds (killσ t σ) d f := fun u n hd => by
  obtain ⟨cells, h1, h2⟩ := h u n hd
  exact ⟨_, killσ_at h1, fun k hk => by rw [List.getElem?_map, h2 k hk]; rfl⟩

theorem set_get {ds : List (Option (Nat × Nat))} {i j : Nat} {d x : Option (Nat × Nat)} (h : (ds.set i x)[j]? = some d) : (j = i ∧ d = x) ∨ (j ≠ i ∧ ds[j]? = some d) := by
  rw [List.getElem?_set] at h
  split at h
  · rename_i e
    split at h
    · exact .inl ⟨e.symm, by cases h; rfl⟩
    · cases h
  · rename_i e; exact .inr ⟨fun q => e q.symm, h⟩

theorem RowS.grow {σ : Nat → Option Blk} {tL : Nat} {ds : List (Option (Nat × Nat))} (h : RowS σ tL ds) {i t m : Nat} (hi : ds[i]? = some (some (t, m))) {cs ys : List V} (hn : (m + 5 ≤ cs.length)) (hm2 : m + 5 ≤ 4398046511200) :
    RowS (supd (supd (killσ t σ) t (some ⟨cs, true⟩)) tL (some ⟨((ds.map rowOf).map (killV t)).set i (.buf t 0 (m + 5) none 1), true⟩)) tL (ds.set i (some (t, m + 5))) := by
  have hne := (h.row i t m hi).1
  have hil : i < ds.length := (List.getElem?_eq_some_iff.1 hi).1
  refine ⟨?_, fun j u n hj => ?_, fun j k u n n' hj hk => ?_⟩
  · rw [supd_same]
    refine congrArg some (congrArg (fun l => (⟨l, true⟩ : Blk)) ?_)
    refine List.ext_getElem? fun j => ?_
    rw [List.map_set, List.getElem?_set, List.getElem?_set]
    simp only [List.length_map]
    by_cases e : i = j
    · subst e; rw [if_pos rfl, if_pos rfl]; rfl
    · rw [if_neg e, if_neg e, List.getElem?_map, List.getElem?_map]
      cases hj : ds[j]? with
      | none => rfl
      | some d =>
        cases d with
        | none => rfl
        | some q =>
          obtain ⟨u, n⟩ := q
          have : u ≠ t := by rintro rfl; exact e (h.inj i j u m n hi hj)
          simp only [Option.map, rowOf, killed_buf this]
  · rcases set_get hj with ⟨rfl, e⟩ | ⟨e, hj2⟩
    · cases e
      exact ⟨hne, hm2, cs, by rw [supd_ne _ _ _ _ hne, supd_same], hn⟩
    · obtain ⟨q1, q2, cells, q3, q4⟩ := h.row j u n hj2
      have : u ≠ t := by rintro rfl; exact e (h.inj j i u n m hj2 hi)
      exact ⟨q1, q2, _, by rw [supd_ne _ _ _ _ q1, supd_ne _ _ _ _ this]; exact killσ_at q3, by simpa using q4⟩
  · rcases set_get hj with ⟨rfl, e⟩ | ⟨e, hj2⟩ <;> rcases set_get hk with ⟨rfl, e'⟩ | ⟨e', hk2⟩
    · rfl
    · cases e; exact absurd (h.inj _ _ _ _ _ hk2 hi) e'
    · cases e'; exact absurd (h.inj _ _ _ _ _ hj2 hi) e
    · exact h.inj _ _ _ _ _ hj2 hk2
theorem RowS.fresh {σ : Nat → Option Blk} {tL : Nat} {ds : List (Option (Nat × Nat))} (h : RowS σ tL ds) {i t : Nat} (hi : ds[i]? = some none) {cs : List V} (hn : (5 ≤ cs.length)) (hd : ∀ u k, σ u = some k → u < t) :
    RowS (supd (supd σ t (some ⟨cs, true⟩)) tL (some ⟨(ds.map rowOf).set i (.buf t 0 5 none 1), true⟩)) tL (ds.set i (some (t, 5))) := by
  have hne : t ≠ tL := fun e => by have := hd tL _ h.hd; omega
  have hil : i < ds.length := (List.getElem?_eq_some_iff.1 hi).1
  have hnew : ∀ (j u n : Nat), ds[j]? = some (some (u, n)) → u ≠ t := fun j u n hj e => by
    obtain ⟨_, _, cells, q, _⟩ := h.row j u n hj
    have := hd u _ q
    omega
  refine ⟨?_, fun j u n hj => ?_, fun j k u n n' hj hk => ?_⟩
  · rw [supd_same]
    refine congrArg some (congrArg (fun l => (⟨l, true⟩ : Blk)) ?_)
    rw [List.map_set]; rfl
  · rcases set_get hj with ⟨rfl, e⟩ | ⟨e, hj2⟩
    · cases e
      exact ⟨hne, by omega, cs, by rw [supd_ne _ _ _ _ hne, supd_same], hn⟩
    · obtain ⟨q1, q2, cells, q3, q4⟩ := h.row j u n hj2
      exact ⟨q1, q2, cells, by rw [supd_ne _ _ _ _ q1, supd_ne _ _ _ _ (hnew j u n hj2)]; exact q3, q4⟩
  · rcases set_get hj with ⟨rfl, e⟩ | ⟨e, hj2⟩ <;> rcases set_get hk with ⟨rfl, e'⟩ | ⟨e', hk2⟩
    · rfl
    · cases e; exact absurd rfl (hnew _ _ _ hk2)
    · cases e'; exact absurd rfl (hnew _ _ _ hj2)
    · exact h.inj _ _ _ _ _ hj2 hk2

def f1 (j : Nat) : Nat → Nat := fun _ => j % 251 + 1
def f2 (j m : Nat) : Nat → Nat := fun k => if k < m then j % 251 + 1 else 300 + 5 * j + (k - m)
def Dom (σ : Nat → Option Blk) (c : Nat) : Prop := ∀ t k, σ t = some k → t < c
theorem Dom.put {σ : Nat → Option Blk} {c : Nat} (h : Dom σ c) {t : Nat} {b : Option Blk} (ht : t < c) : Dom (supd σ t b) c := fun u k hk => by
  rw [supd_app] at hk
  split at hk
  · rename_i e; rw [e]; exact ht
  · exact h u k hk

theorem own_spec : OwnSpec Try.prog F.surdref01_Own := by
  refine own_mk hm G.surdref01_Own.e G.surdref01_Own.b G.surdref01_Own.k G.surdref01_Own.q (by rw [G.surdref01_Own.n]; decide) ?_
  unfold C.surdref01_Own R.surdref01_Own
  intro cg tL σg bs hR hlen hsz hcg
  refine xR ?_
  refine v_loop (fun S => S.ρ 0 = .buf tL 0 bs.length none 1 ∧ RowS S.σ tL bs ∧ (∀ (j : Nat) d, bs[j]? = some d → Holds S.σ d (f1 j)) ∧ Dom S.σ S.c) ?_ ?_
  · refine vwp_loop (fun k S => ∃ i, k = bs.length - i ∧ i ≤ bs.length ∧ S.ρ 0 = .buf tL 0 bs.length none 1 ∧ S.ρ 13 = .buf tL 0 bs.length none 1 ∧ S.ρ 14 = iv (bs.length : Int) ∧ S.ρ 15 = iv (i : Int) ∧ RowS S.σ tL bs ∧ (∀ (j : Nat) d, j < i → bs[j]? = some d → Holds S.σ d (f1 j)) ∧ Dom S.σ S.c) bs.length ?_ ?_
    · exact ⟨0, rfl, Nat.zero_le _, rfl, rfl, rfl, rfl, hR, fun j d h => absurd h (Nat.not_lt_zero _), hcg⟩
    rintro k ⟨ρ2, σ, c2⟩ ⟨i, hk, hin, h0, h13, h14, h15, hR, hH, hc⟩
    dsimp only at h0 h13 h14 h15 hR hH hc
    by_cases g : (i : Int) < bs.length
    · have hil : i < bs.length := by omega
      have hdi := List.getElem?_eq_getElem hil
      have hdr := hR.len hdi
      have hL := hR.hd
      cases hd : bs[i] with
      | none =>
        rw [hd] at hdi hdr
        simp only [rowOf] at hdr
        have z0 : ¬ (0 : Int) < 0 := by decide
        have e1 : (i : Int) + 1 = ((i + 1 : Nat) : Int) := by omega
        refine xRF (jn h0 (jn h13 (jn h14 (jn h15 (jn g (jn hL (jn @d_cells (jn hdr @l_nil)))))))) ?_
        refine v_once ?_
        refine xRF (jn z0 (jn h0 (jn h13 (jn h14 (jn h15 e1))))) ?_
        have a1 : ∀ (j : Nat) d, j < i + 1 → bs[j]? = some d → Holds σ d (f1 j) := fun j d hj hjd => by
          by_cases e : j = i
          · subst e; rw [hdi] at hjd; cases hjd; exact Holds.none
          · exact hH j d (by omega) hjd
        refine ⟨bs.length - (i + 1), by omega, i + 1, ?_⟩
        (repeat' apply And.intro) <;> first | rfl | omega | assumption | exact a1
      | some q =>
        obtain ⟨t, m⟩ := q
        rw [hd] at hdi hdr
        simp only [rowOf] at hdr
        have e1 : (i : Int) + 1 = ((i + 1 : Nat) : Int) := by omega
        have hm2 := hsz i t m hdi
        refine xRF (jn h0 (jn h13 (jn h14 (jn h15 (jn g (jn hL (jn @d_cells hdr))))))) ?_
        refine vwp_mono (Q := fun e S => e = .exit 2 ∧ S.ρ 0 = .buf tL 0 bs.length none 1 ∧ S.ρ 13 = .buf tL 0 bs.length none 1 ∧ S.ρ 14 = iv (bs.length : Int) ∧ S.ρ 15 = iv (i : Int) ∧ RowS S.σ tL bs ∧ (∀ (j : Nat) d, j < i + 1 → bs[j]? = some d → Holds S.σ d (f1 j)) ∧ Dom S.σ S.c) ?_ ?_
        · refine vwp_loop (fun k2 S => ∃ q, k2 = m - q ∧ q ≤ m ∧ S.ρ 0 = .buf tL 0 bs.length none 1 ∧ S.ρ 13 = .buf tL 0 bs.length none 1 ∧ S.ρ 14 = iv (bs.length : Int) ∧ S.ρ 15 = iv (i : Int) ∧ S.ρ 3 = iv (i : Int) ∧ S.ρ 4 = .buf t 0 m none 1 ∧ S.ρ 21 = iv (m : Int) ∧ S.ρ 22 = iv (q : Int) ∧ RowS S.σ tL bs ∧ (∀ (j : Nat) d, j < i → bs[j]? = some d → Holds S.σ d (f1 j)) ∧ Dom S.σ S.c ∧ Holds S.σ (some (t, q)) (f1 i)) m ?_ ?_
          · refine ⟨0, rfl, Nat.zero_le _, ?_⟩
            refine xSF (jn h0 (jn h13 (jn h14 h15))) ?_
            obtain ⟨_, _, cells, q3, q4⟩ := hR.row i t m hdi
            have a1 : Holds σ (some (t, 0)) (f1 i) := fun u n h => by cases h; exact ⟨cells, q3, fun k hk => absurd hk (Nat.not_lt_zero _)⟩
            (repeat' apply And.intro) <;> first | rfl | omega | assumption | exact hR | exact hH | exact hc | exact a1
          rintro k2 ⟨ρ3, σ3, c3⟩ ⟨q, hk2, hq, h0, h13, h14, h15, h3, h4, h21, h22, hR3, hH3, hc3, hq3⟩
          dsimp only at h0 h13 h14 h15 h3 h4 h21 h22 hR3 hH3 hc3 hq3
          by_cases g2 : (q : Int) < m
          · obtain ⟨htL, _, cells, q3, q4⟩ := hR3.row i t m hdi
            obtain ⟨cells', q3', q5⟩ := hq3 t q rfl
            obtain rfl : cells' = cells := by rw [q3] at q3'; cases q3'; rfl
            have hql : q < cells'.length := by omega
            have e2 : ((i : Int) % 251 + 1).toNat = i % 251 + 1 := by omega
            have e3 : (q : Int) + 1 = ((q + 1 : Nat) : Int) := by omega
            refine xRF (jn h0 (jn h13 (jn h14 (jn h15 (jn h3 (jn h4 (jn h21 (jn h22 (jn g2 (jn e2 (jn q3 (jn @t_celln (jn hql e3))))))))))))) ?_
            have a1 := hR3.put (cells := cells'.set q (nv (i % 251 + 1))) htL (fun j n hj => by rw [List.length_set]; have := hR3.inj i j t m n hdi hj; subst this; rw [hdi] at hj; cases hj; exact q4)
            have a2 : ∀ (j : Nat) d, j < i → bs[j]? = some d → Holds (supd σ3 t (some ⟨cells'.set q (nv (i % 251 + 1)), true⟩)) d (f1 j) := fun j d hj hjd => (hH3 j d hj hjd).put (fun n e => by subst e; have := hR3.inj i j t m n hdi hjd; omega)
            have a3 := hc3.put (b := some ⟨cells'.set q (nv (i % 251 + 1)), true⟩) (hc3 _ _ q3)
            have a4 : Holds (supd σ3 t (some ⟨cells'.set q (nv (i % 251 + 1)), true⟩)) (some (t, q + 1)) (f1 i) := fun u n h => by
              cases h
              refine ⟨_, supd_same _ _ _, fun k hk => ?_⟩
              rw [List.getElem?_set]
              by_cases e : q = k
              · subst e; rw [if_pos rfl, if_pos hql]; rfl
              · rw [if_neg e]; exact q5 k (by omega)
            refine ⟨m - (q + 1), by omega, q + 1, ?_⟩
            (repeat' apply And.intro) <;> first | rfl | omega | assumption | exact a4
          · have hqm : q = m := by omega
            refine xRF (jn h0 (jn h13 (jn h14 (jn h15 (jn h3 (jn h4 (jn h21 (jn h22 g2)))))))) ?_
            refine ⟨fun j d hj hjd => ?_, hc3⟩
            by_cases e : j = i
            · subst e; rw [hdi] at hjd; cases hjd; rw [← hqm]; exact hq3
            · exact hH3 j d (by omega) hjd
        · rintro _ ⟨ρ3, σ3, c3⟩ ⟨rfl, h0, h13, h14, h15, hR3, hH3, hc3⟩
          dsimp only at h0 h13 h14 h15 hR3 hH3 hc3
          refine xRF (jn h0 (jn h13 (jn h14 (jn h15 e1)))) ?_
          refine ⟨bs.length - (i + 1), by omega, i + 1, ?_⟩
          (repeat' apply And.intro) <;> first | rfl | omega | assumption | exact hc3
    · refine xRF (jn h0 (jn h13 (jn h14 (jn h15 g)))) ?_
      exact ⟨fun j d hj => hH j d (by have := (List.getElem?_eq_some_iff.1 hj).1; omega) hj, hc⟩
  rintro ⟨ρ2, σ2, c2⟩ ⟨h0, hR2, hH2, hc2⟩
  dsimp only at h0 hR2 hH2 hc2
  refine xRF h0 ?_
  refine v_loop (fun S => S.ρ 0 = .buf tL 0 bs.length none 1 ∧ ∃ ds, ds.length = bs.length ∧ RowS S.σ tL ds ∧ (∀ (j : Nat), j < bs.length → ∃ t, ds[j]? = some (some (t, rowLen (bs.getD j none) + 5)) ∧ Holds S.σ (some (t, rowLen (bs.getD j none) + 5)) (f2 j (rowLen (bs.getD j none)))) ∧ Dom S.σ S.c) ?_ ?_
  · refine vwp_loop (fun k S => ∃ i, k = bs.length - i ∧ i ≤ bs.length ∧ S.ρ 0 = .buf tL 0 bs.length none 1 ∧ S.ρ 34 = .buf tL 0 bs.length none 1 ∧ S.ρ 35 = iv (bs.length : Int) ∧ S.ρ 36 = iv (i : Int) ∧ ∃ ds, ds.length = bs.length ∧ RowS S.σ tL ds ∧
      (∀ (j : Nat), j < i → ∃ t, ds[j]? = some (some (t, rowLen (bs.getD j none) + 5)) ∧ Holds S.σ (some (t, rowLen (bs.getD j none) + 5)) (f2 j (rowLen (bs.getD j none)))) ∧
      (∀ (j : Nat) d, i ≤ j → bs[j]? = some d → ds[j]? = some d ∧ Holds S.σ d (f1 j)) ∧ Dom S.σ S.c) bs.length ?_ ?_
    · exact ⟨0, rfl, Nat.zero_le _, h0, rfl, rfl, rfl, bs, rfl, hR2, fun j h => absurd h (Nat.not_lt_zero _), fun j d _ h => ⟨h, hH2 j d h⟩, hc2⟩
    rintro k ⟨ρ3, σ, c3⟩ ⟨i, hk, hin, h0, h34, h35, h36, ds, hdl, hR, hA, hB, hc⟩
    dsimp only at h0 h34 h35 h36 hR hA hB hc
    by_cases g : (i : Int) < bs.length
    · have hil : i < bs.length := by omega
      have hbi := List.getElem?_eq_getElem hil
      obtain ⟨hdi, hHi⟩ := hB i _ (Nat.le_refl _) hbi
      have hdr := hR.len hdi
      have hL := hR.hd
      have e1 : (i : Int) + 1 = ((i + 1 : Nat) : Int) := by omega
      have e2 : (300 + 5 * (i : Int)).toNat = 300 + 5 * i := by omega
      have m1 : (300 + 5 * i + 1) % 18446744073709551616 = 300 + 5 * i + 1 := Nat.mod_eq_of_lt (by omega)
      have m2 : (300 + 5 * i + 2) % 18446744073709551616 = 300 + 5 * i + 2 := Nat.mod_eq_of_lt (by omega)
      have m3 : (300 + 5 * i + 3) % 18446744073709551616 = 300 + 5 * i + 3 := Nat.mod_eq_of_lt (by omega)
      have m4 : (300 + 5 * i + 4) % 18446744073709551616 = 300 + 5 * i + 4 := Nat.mod_eq_of_lt (by omega)
      obtain ⟨ys, hys⟩ : ∃ ys, ys = [300 + 5 * i, 300 + 5 * i + 1, 300 + 5 * i + 2, 300 + 5 * i + 3, 300 + 5 * i + 4] := ⟨_, rfl⟩
      have hyl : ys.length = 5 := by rw [hys]; rfl
      have hyk : ∀ k, k < 5 → (ys.map nv)[k]? = some (nv (300 + 5 * i + k)) := fun k hk => by
        rw [hys]
        match k, hk with
        | 0, _ => rfl
        | 1, _ => rfl
        | 2, _ => rfl
        | 3, _ => rfl
        | 4, _ => rfl
      cases hd : bs[i] with
      | none =>
        rw [hd] at hdi hdr hbi hHi
        simp only [rowOf] at hdr
        have hrl : rowLen (bs.getD i none) = 0 := by rw [List.getD_eq_getElem?_getD, hbi]; rfl
        refine xRF (jn h0 (jn h34 (jn h35 (jn h36 (jn g (jn hL (jn @d_cells (jn hdr (jn e2 (jn m1 (jn m2 (jn m3 m4)))))))))))) ?_
        refine s_bsl5 (n0 := 300 + 5 * i) (n1 := 300 + 5 * i + 1) (n2 := 300 + 5 * i + 2) (n3 := 300 + 5 * i + 3) (n4 := 300 + 5 * i + 4) yS yS yS yS yS ?_
        rw [← hys]
        refine s_app0 (t := .id c3) (l := ys) yS yS (by omega) (fun e => by rw [e] at hyl; cases hyl) (fun _ => ?_)
        have htL : tL ≠ c3 + 1 := fun e => by have := hc tL _ hL; omega
        have hil2 : i < (ds.map rowOf).length := by rw [List.length_map, hdl]; exact hil
        refine xRF (jn h0 (jn h34 (jn h35 (jn h36 (jn hL (jn htL (jn @t_cellb (jn hil2 (jn hyl e1))))))))) ?_
        have a1 := hR.fresh (t := c3 + 1) (cs := ys.map nv) hdi (by simp [hyl]) (fun u k hk => by have := hc u k hk; omega)
        have a3 : ∀ (j u n n' : Nat) (f : Nat → Nat), ds[j]? = some (some (u, n)) → Holds σ (some (u, n')) f → Holds (supd (supd σ (c3 + 1) (nblk ys)) tL (some ⟨(ds.map rowOf).set i (.buf (c3 + 1) 0 5 none 1), true⟩)) (some (u, n')) f := fun j u n n' f h hf => by
          obtain ⟨q1, _, cells, q3, _⟩ := hR.row j u n h
          have q4 : u ≠ c3 + 1 := fun e => by have := hc u _ q3; omega
          exact (hf.put (fun x e => q4 (by cases e; rfl))).put (fun x e => q1 (by cases e; rfl))
        have a4 : Holds (supd (supd σ (c3 + 1) (nblk ys)) tL (some ⟨(ds.map rowOf).set i (.buf (c3 + 1) 0 5 none 1), true⟩)) (some (c3 + 1, 0 + 5)) (f2 i 0) := fun u n e => by
          cases e
          refine ⟨_, by rw [supd_ne _ _ _ _ (Ne.symm htL), supd_same], fun k hk => ?_⟩
          rw [hyk k (by omega)]
          rfl
        refine ⟨bs.length - (i + 1), by omega, i + 1, rfl, by omega, rfl, ds.set i (some (c3 + 1, 5)), by rw [List.length_set, hdl], a1, fun j hj => ?_, fun j d hj hjd => ?_, ?_⟩
        · by_cases e : j = i
          · subst e
            rw [hrl]
            exact ⟨c3 + 1, by rw [List.getElem?_set_self (by omega)], a4⟩
          · obtain ⟨u, q1, q2⟩ := hA j (by omega)
            exact ⟨u, by rw [List.getElem?_set_ne (Ne.symm e)]; exact q1, a3 j u _ _ _ q1 q2⟩
        · obtain ⟨q1, q2⟩ := hB j d (by omega) hjd
          refine ⟨by rw [List.getElem?_set_ne (by omega)]; exact q1, ?_⟩
          cases d with
          | none => exact Holds.none
          | some q => obtain ⟨u, n⟩ := q; exact a3 j u n n _ q1 q2
        · have hc' : Dom σ (c3 + 1 + 1) := fun u k hk => by have := hc u k hk; omega
          exact (hc'.put (by omega)).put (by have := hc tL _ hL; omega)
      | some q =>
        obtain ⟨t, m⟩ := q
        rw [hd] at hdi hdr hbi hHi
        simp only [rowOf] at hdr
        have hrl : rowLen (bs.getD i none) = m := by rw [List.getD_eq_getElem?_getD, hbi]; rfl
        have hm2 := hsz i t m hbi
        obtain ⟨htL, _, cells, q3, q4⟩ := hR.row i t m hdi
        refine xRF (jn h0 (jn h34 (jn h35 (jn h36 (jn g (jn hL (jn @d_cells (jn hdr (jn e2 (jn m1 (jn m2 (jn m3 m4)))))))))))) ?_
        refine s_bsl5 (n0 := 300 + 5 * i) (n1 := 300 + 5 * i + 1) (n2 := 300 + 5 * i + 2) (n3 := 300 + 5 * i + 3) (n4 := 300 + 5 * i + 4) yS yS yS yS yS ?_
        rw [← hys]
        refine s_appmvG (t := t) (n := m) (cap := none) (cs := cells) (u := .id c3) (ys := ys) yS q3 (Nat.zero_le _) yS q4 (by omega) ?_
        have hil2 : i < ((ds.map rowOf).map (killV t)).length := by rw [List.length_map, List.length_map, hdl]; exact hil
        have hL2 : killσ t σ tL = some ⟨(ds.map rowOf).map (killV t), true⟩ := killσ_at hL
        have hkb : killV t (.buf tL 0 bs.length none 1) = .buf tL 0 bs.length none 1 := killed_buf (Ne.symm htL)
        (repeat (first | refine v_reg ?_ | refine v_last ?_ | refine vwp_seq ?_ | refine vwp_block ?_ | refine vwp_skip ?_ | refine vwp_exit ?_ | refine vwp_ret ?_ | refine v_cond ?_ | simp only [vm, ite_true, ite_false, eq_self, reduceIte, Nat.reduceEqDiff, Option.map, h0, h34, h35, h36, hL2, htL, Ne.symm htL, t_cellb, hil2, hyl, e1, killed_at, killed_lit, hkb] | refine And.intro (by omega) ?_))
        obtain ⟨cs2, hcs2⟩ : ∃ x, x = List.map (killV t) (List.take m cells) ++ List.map nv ys := ⟨_, rfl⟩
        have hcl : m + 5 ≤ cs2.length := by rw [hcs2]; simp [hyl]; omega
        rw [← hcs2]
        have a1 := hR.grow hdi (cs := cs2) (ys := []) hcl (by omega)
        have a3 : ∀ (j u n n' : Nat) (f : Nat → Nat), j ≠ i → ds[j]? = some (some (u, n)) → Holds σ (some (u, n')) f → Holds (supd (supd (killσ t σ) t (some ⟨cs2, true⟩)) tL (some ⟨((ds.map rowOf).map (killV t)).set i (.buf t 0 (m + 5) none 1), true⟩)) (some (u, n')) f := fun j u n n' f hj h hf => by
          obtain ⟨q1, _, cells, q3, _⟩ := hR.row j u n h
          have q4 : u ≠ t := fun e => by subst e; exact hj (hR.inj _ _ _ _ _ h hdi)
          exact ((hf.kill t).put (fun x e => q4 (by cases e; rfl))).put (fun x e => q1 (by cases e; rfl))
        have a4 : Holds (supd (supd (killσ t σ) t (some ⟨cs2, true⟩)) tL (some ⟨((ds.map rowOf).map (killV t)).set i (.buf t 0 (m + 5) none 1), true⟩)) (some (t, m + 5)) (f2 i m) := fun u n e => by
          cases e
          refine ⟨_, by rw [supd_ne _ _ _ _ htL, supd_same], fun k hk => ?_⟩
          obtain ⟨cells', g3, g4⟩ := hHi t m rfl
          obtain rfl : cells' = cells := by rw [q3] at g3; cases g3; rfl
          rw [hcs2]
          by_cases g5 : k < m
          · rw [List.getElem?_append_left (by simp; omega), List.getElem?_map, List.getElem?_take, if_pos g5, g4 k g5]
            unfold f1 f2
            rw [if_pos g5]; rfl
          · rw [List.getElem?_append_right (by simp; omega)]
            have e5 : ((cells'.take m).map (killV t)).length = m := by simp; omega
            rw [e5, hyk (k - m) (by omega)]
            unfold f2
            rw [if_neg g5]
        refine ⟨bs.length - (i + 1), by omega, i + 1, rfl, by omega, rfl, ds.set i (some (t, m + 5)), by rw [List.length_set, hdl], a1, fun j hj => ?_, fun j d hj hjd => ?_, ?_⟩
        · by_cases e : j = i
          · subst e
            rw [hrl]
            exact ⟨t, by rw [List.getElem?_set_self (by omega)], a4⟩
          · obtain ⟨u, q1, q2⟩ := hA j (by omega)
            exact ⟨u, by rw [List.getElem?_set_ne (Ne.symm e)]; exact q1, a3 j u _ _ _ e q1 q2⟩
        · obtain ⟨q1, q2⟩ := hB j d (by omega) hjd
          refine ⟨by rw [List.getElem?_set_ne (by omega)]; exact q1, ?_⟩
          cases d with
          | none => exact Holds.none
          | some q => obtain ⟨u, n⟩ := q; exact a3 j u n n _ (by omega) q1 q2
        · have hc' : Dom (killσ t σ) (c3 + 1) := fun u k hk => by
            obtain ⟨k', hk', _⟩ := Option.map_eq_some_iff.1 hk
            have := hc u k' hk'
            omega
          exact (hc'.put (by have := hc t _ q3; omega)).put (by have := hc tL _ hL; omega)
    · have hin2 : i = bs.length := by omega
      subst hin2
      refine xRF (jn h0 (jn h34 (jn h35 (jn h36 g)))) ?_
      exact ⟨ds, hdl, hR, hA, hc⟩
  rintro ⟨ρ3, σ3, c3⟩ ⟨h0, ds, hdl, hR3, hH3, hc3⟩
  dsimp only at h0 hR3 hH3 hc3
  refine xRF h0 ?_
  refine v_loop (fun S => True) ?_ ?_
  · refine vwp_loop (fun k S => ∃ i, k = bs.length - i ∧ i ≤ bs.length ∧ S.ρ 62 = .buf tL 0 bs.length none 1 ∧ S.ρ 63 = iv (bs.length : Int) ∧ S.ρ 64 = iv (i : Int) ∧ S.σ = σ3) bs.length ?_ ?_
    · exact ⟨0, rfl, Nat.zero_le _, rfl, rfl, rfl, rfl⟩
    rintro k ⟨ρ4, σ, c4⟩ ⟨i, hk, hin, h62, h63, h64, hσ⟩
    dsimp only at h62 h63 h64 hσ
    subst hσ
    by_cases g : (i : Int) < bs.length
    · obtain ⟨t, hdi, hHi⟩ := hH3 i (by omega)
      obtain ⟨m, hm0⟩ : ∃ m, m = rowLen (bs.getD i none) := ⟨_, rfl⟩
      rw [← hm0] at hdi hHi
      obtain ⟨M5, hM5⟩ : ∃ x, x = m + 5 := ⟨_, rfl⟩
      rw [← hM5] at hdi hHi
      have hdr := hR3.len hdi
      simp only [rowOf] at hdr
      have hL := hR3.hd
      obtain ⟨htL, hmb, _⟩ := hR3.row i t M5 hdi
      obtain ⟨cells, q3, q4⟩ := hHi t M5 rfl
      have e1 : (i : Int) + 1 = ((i + 1 : Nat) : Int) := by omega
      refine xRF (jn h62 (jn h63 (jn h64 (jn g (jn hL (jn @d_cells hdr)))))) ?_
      refine vwp_mono (Q := fun e S => e = .exit 8 ∧ S.ρ 62 = .buf tL 0 bs.length none 1 ∧ S.ρ 63 = iv (bs.length : Int) ∧ S.ρ 64 = iv (i : Int) ∧ S.σ = σ) ?_ ?_
      · refine vwp_loop (fun k2 S => ∃ q, k2 = M5 - q ∧ q ≤ M5 ∧ S.ρ 62 = .buf tL 0 bs.length none 1 ∧ S.ρ 63 = iv (bs.length : Int) ∧ S.ρ 64 = iv (i : Int) ∧ S.ρ 9 = iv (i : Int) ∧ S.ρ 10 = .buf t 0 M5 none 1 ∧ S.ρ 69 = .buf t 0 M5 none 1 ∧ S.ρ 70 = iv (M5 : Int) ∧ S.ρ 71 = iv (q : Int) ∧ S.σ = σ) M5 ?_ ?_
        · refine ⟨0, rfl, Nat.zero_le _, ?_⟩
          refine xSF (jn h62 (jn h63 h64)) ?_
          (repeat' apply And.intro) <;> first | rfl | omega | assumption | exact True.intro
        rintro k2 ⟨ρ5, σ5, c5⟩ ⟨q, hk2, hq, h62, h63, h64, h9, h10, h69, h70, h71, hσ⟩
        dsimp only at h62 h63 h64 h9 h10 h69 h70 h71 hσ
        subst hσ
        have e3 : (q : Int) + 1 = ((q + 1 : Nat) : Int) := by omega
        by_cases g2 : (q : Int) < M5
        · have hv := q4 q (by omega)
          unfold f2 at hv
          by_cases g3 : (q : Int) < (M5 : Int) - 5
          · have g4 : ¬ ((M5 : Int) - 5 ≤ q) := by omega
            rw [if_pos (by omega)] at hv
            have e2 : ((i : Int) % 251 + 1).toNat = i % 251 + 1 := by omega
            refine xRF (jn h62 (jn h63 (jn h64 (jn h9 (jn h10 (jn h69 (jn h70 (jn h71 (jn g2 (jn g3 (jn g4 (jn e2 (jn q3 (jn @d_cells (jn hv e3))))))))))))))) ?_
            exact ⟨M5 - (q + 1), by omega, q + 1, rfl, by omega, rfl⟩
          · have g4 : (M5 : Int) - 5 ≤ q := by omega
            rw [if_neg (by omega)] at hv
            have e2 : (300 + 5 * (i : Int) + q - M5 + 5).toNat = 300 + 5 * i + (q - m) := by omega
            refine xRF (jn h62 (jn h63 (jn h64 (jn h9 (jn h10 (jn h69 (jn h70 (jn h71 (jn g2 (jn g3 (jn g4 (jn e2 (jn q3 (jn @d_cells (jn hv e3))))))))))))))) ?_
            exact ⟨M5 - (q + 1), by omega, q + 1, rfl, by omega, rfl⟩
        · (repeat (first | refine v_reg ?_ | refine v_last ?_ | refine vwp_seq ?_ | refine vwp_block ?_ | refine vwp_skip ?_ | refine vwp_exit ?_ | refine vwp_ret ?_ | refine v_cond ?_ | simp only [vm, ite_true, ite_false, eq_self, reduceIte, Nat.reduceEqDiff, Option.map, h62, h63, h64, h9, h10, h69, h70, h71, g2] | refine And.intro (by omega) ?_))
      · rintro _ ⟨ρ5, σ5, c5⟩ ⟨rfl, h62, h63, h64, hσ⟩
        dsimp only at h62 h63 h64 hσ
        subst hσ
        refine xRF (jn h62 (jn h63 (jn h64 e1))) ?_
        refine ⟨bs.length - (i + 1), by omega, i + 1, ?_⟩
        (repeat' apply And.intro) <;> first | rfl | omega | assumption | exact True.intro
    · (repeat (first | refine v_reg ?_ | refine v_last ?_ | refine vwp_seq ?_ | refine vwp_block ?_ | refine vwp_skip ?_ | refine vwp_exit ?_ | refine vwp_ret ?_ | refine v_cond ?_ | simp only [vm, ite_true, ite_false, eq_self, reduceIte, Nat.reduceEqDiff, Option.map, h62, h63, h64, g] | refine And.intro (by omega) ?_))
  rintro ⟨ρ4, σ4, c4⟩ _
  (repeat (first | refine v_reg ?_ | refine v_last ?_ | refine vwp_seq ?_ | refine vwp_block ?_ | refine vwp_skip ?_ | refine vwp_exit ?_ | refine vwp_ret ?_ | refine v_cond ?_ | simp only [vm, ite_true, ite_false, eq_self, reduceIte, Nat.reduceEqDiff, Option.map] | refine And.intro (by omega) ?_))
theorem mul_lt32 {x y : Nat} (hx : x < 4294967296) (hy : y < 4294967296) : x * y ≤ 4294967295 * 4294967295 := Nat.mul_le_mul (by omega) (by omega)

theorem at_spec (t : Tok) (l : List Nat) (i c : Nat) (hn : l.length ≤ 4398046511104) : VSpec Try.prog F.surdref01_Num_at c [nats t l, iv i] (fun r c' => r = nv (l.getD i 0)) := by
  refine sG hm G.surdref01_Num_at ?_
  unfold C.surdref01_Num_at R.surdref01_Num_at cD
  by_cases g : (i : Int) < l.length
  · refine xRF g ?_
    exact Nat.le_refl _
  · refine xRF g ?_
    rw [getD_ge (by omega)]

theorem add32_spec (t u : Tok) (a b : List Nat) (c : Nat) (ha : Lim 4294967296 a) (hb : Lim 4294967296 b) (hna : a.length ≤ 1099511627776) (hnb : b.length ≤ 1099511627776) :
    VSpec Try.prog F.surdref01_Add c [nats t a, nats u b] (fun r c' => ∃ i, r = nats (.id i) (digs 4294967296 (val 4294967296 a + val 4294967296 b)) ∧ c ≤ i ∧ i < c') := by
  refine sG hm G.surdref01_Add ?_
  unfold C.surdref01_Add R.surdref01_Add cD
  refine xG ?_
  refine xG ?_
  refine v_cut (fun S => ∃ n, a.length ≤ n ∧ b.length ≤ n ∧ n ≤ 1099511627776 ∧ S.ρ 0 = nats t a ∧ S.ρ 1 = nats u b ∧ S.ρ 5 = iv (n : Int) ∧ S.σ = noBlk ∧ S.c = c) ?_ ?_
  · by_cases g : (a.length : Int) < b.length
    · refine xRF g ?_
      exact ⟨b.length, by omega, by omega, by omega, rfl⟩
    · refine xRF g ?_
      exact ⟨a.length, by omega, by omega, by omega, rfl⟩
  rintro ⟨ρ1, σ, c1⟩ ⟨n, hn1, hn2, hn3, h0, h1, h5, hσ, hc1⟩
  dsimp only at h0 h1 h5 hσ hc1
  subst hσ hc1
  refine xRF h5 ?_
  refine s_mk (n := n + 1) (m := n + 1) (ySrF h5) (ySrF h5) (Nat.le_refl _) (by omega) ?_
  refine xRF h5 ?_
  have htot : val 4294967296 a + val 4294967296 b < 4294967296 ^ (n + 1) := by
    have h1 : val 4294967296 a < 4294967296 ^ n := Nat.lt_of_lt_of_le (val_lt ha) (Nat.pow_le_pow_right (by decide) hn1)
    have h2 : val 4294967296 b < 4294967296 ^ n := Nat.lt_of_lt_of_le (val_lt hb) (Nat.pow_le_pow_right (by decide) hn2)
    rw [Nat.pow_succ]
    generalize 4294967296 ^ n = P at *
    omega
  refine v_loop (fun S => ∃ w, w.length = n + 1 ∧ Lim 4294967296 w ∧ val 4294967296 w = val 4294967296 a + val 4294967296 b ∧ S.ρ 6 = .buf c1 0 (n + 1) (some (n + 1)) 1 ∧ S.σ = supd noBlk c1 (nblk w) ∧ c1 + 1 ≤ S.c) ?_ ?_
  · refine vwp_loop (fun k S => ∃ i w carry, k = n + 1 - i ∧ i ≤ n + 1 ∧ w.length = i ∧ Lim 4294967296 w ∧ carry ≤ 1 ∧ val 4294967296 w + 4294967296 ^ i * carry = val 4294967296 (a.take i) + val 4294967296 (b.take i) ∧ S.ρ 0 = nats t a ∧ S.ρ 1 = nats u b ∧ S.ρ 5 = iv (n : Int) ∧ S.ρ 7 = nv carry ∧ S.ρ 8 = iv (i : Int) ∧ S.ρ 6 = .buf c1 0 (n + 1) (some (n + 1)) 1 ∧ S.σ = supd noBlk c1 (nblk (w ++ List.replicate (n + 1 - i) 0)) ∧ c1 + 1 ≤ S.c) (n + 1) ?_ ?_
    · refine ⟨0, [], 0, by omega, by omega, ?_⟩
      refine xSF (jn h0 (jn h1 h5)) ?_
      (repeat' apply And.intro) <;> first | rfl | omega | assumption | exact Lim.nil | (simp [val]; done)
    rintro k ⟨ρ2, σ, c4⟩ ⟨i, w, carry, hk, hi, hw, hlw, hca, hinv, h0, h1, h5, h7, h8, h6, hσ, hc4⟩
    dsimp only at h0 h1 h5 h7 h8 h6 hσ hc4
    subst hσ
    by_cases g : (i : Int) ≤ n
    · have hxi := ha.getD (i := i) (by decide)
      have hyi := hb.getD (i := i) (by decide)
      have hax := val_take' 4294967296 a i
      have hbx := val_take' 4294967296 b i
      have hlen : (w ++ List.replicate (n + 1 - i) 0).length = n + 1 := by simp; omega
      have hset : ∀ v, (w ++ List.replicate (n + 1 - i) 0).set i v = (w ++ [v]) ++ List.replicate (n + 1 - (i + 1)) 0 := fun v => by
        have := set_fill w (n + 1 - (i + 1)) v
        rw [hw] at this
        rw [show n + 1 - i = n + 1 - (i + 1) + 1 by omega, this]
      refine xRF (jn h0 (jn h1 (jn h5 (jn h7 (jn h8 (jn h6 g)))))) ?_
      refine s_call (at_spec t a i c4 (by omega)) (yMF (jn h0 h8)) ?_
      rintro v c5 hc5 rfl
      refine xRF (jn h0 (jn h1 (jn h5 (jn h7 (jn h8 (jn h6 g)))))) ?_
      refine s_call (at_spec u b i c5 (by omega)) (yMF (jn h1 h8)) ?_
      rintro v c6 hc6 rfl
      generalize a.getD i 0 = x at *
      generalize b.getD i 0 = y at *
      have e1 : (x + y) % 18446744073709551616 = x + y := Nat.mod_eq_of_lt (by omega)
      have e2 : (x + y + carry) % 18446744073709551616 = x + y + carry := Nat.mod_eq_of_lt (by omega)
      have e3 : (x + y + carry) / 4294967296 % 18446744073709551616 = (x + y + carry) / 4294967296 := Nat.mod_eq_of_lt (by omega)
      have hd := Nat.mod_add_div (x + y + carry) 4294967296
      have hml := Nat.mod_lt (x + y + carry) (show 0 < 4294967296 by decide)
      have hdl : (x + y + carry) / 4294967296 ≤ 1 := by omega
      refine xRF (jn h0 (jn h1 (jn h5 (jn h7 (jn h8 (jn h6 (jn e1 (jn e2 (jn e3 (jn hlen hset)))))))))) ?_
      generalize (x + y + carry) % 4294967296 = d at *
      generalize (x + y + carry) / 4294967296 = cc at *
      have key := addb_step (b := 4294967296) (x := y) (y := x) (c' := cc) (d := d) hw hinv (by omega)
      rw [← hax, ← hbx] at key
      refine ⟨n + 1 - (i + 1), by omega, i + 1, w ++ [d], cc, ?_⟩
      (repeat' apply And.intro) <;> first | rfl | exact key | exact lim_snoc hlw hml | (simp [hw]; done) | omega | assumption
    · have hi' : i = n + 1 := by omega
      subst hi'
      refine xRF (jn h0 (jn h1 (jn h5 (jn h7 (jn h8 (jn h6 g)))))) ?_
      rw [List.take_of_length_le (l := a) (by omega), List.take_of_length_le (l := b) (by omega)] at hinv
      refine ⟨w, ?_⟩
      have e0 : w ++ List.replicate (n + 1 - (n + 1)) 0 = w := by simp
      rw [e0]
      have hc0 : carry = 0 := by
        rcases Nat.eq_zero_or_pos carry with h | h
        · exact h
        · have : carry = 1 := by omega
          rw [this, Nat.mul_one] at hinv
          omega
      rw [hc0, Nat.mul_zero, Nat.add_zero] at hinv
      exact yA
  rintro ⟨ρ3, σ, c5⟩ ⟨w, hw, hlw, hvw, h6, hσ, hc5⟩
  dsimp only at h6 hσ hc5
  subst hσ
  refine v_freeze 6 (t := c1) (off := 0) (n := n + 1) (cap := some (n + 1)) (l := w) (ySF h6) yS (by omega) (by omega) ?_
  rw [List.drop_zero, show w.take (n + 1) = w from List.take_of_length_le (by omega)]
  refine xR ?_
  refine s_call (norm32_spec (.id c1) w c5 hlw (by omega)) yM ?_
  rintro v c6 hc6 rfl
  rw [hvw]
  refine xR ?_
  exact ⟨c1, rfl, by omega, by omega⟩

theorem mul32_spec (t u : Tok) (a b : List Nat) (c : Nat) (ha : Lim 4294967296 a) (hb : Lim 4294967296 b) (hna : a.length ≤ 1099511627776) (hnb : b.length ≤ 1099511627776) :
    VSpec Try.prog F.surdref01_Mul c [nats t a, nats u b] (fun r c' => ∃ i, r = nats (.id i) (digs 4294967296 (val 4294967296 a * val 4294967296 b)) ∧ c ≤ i ∧ i < c') := by
  refine sG hm G.surdref01_Mul ?_
  unfold C.surdref01_Mul R.surdref01_Mul cD
  refine xR ?_
  refine s_mk (n := a.length + b.length + 1) (m := a.length + b.length + 1) ySr ySr (Nat.le_refl _) (by omega) ?_
  refine xR ?_
  refine v_loop (fun S => ∃ w, w.length = a.length + b.length + 1 ∧ Lim 4294967296 w ∧ val 4294967296 w = val 4294967296 a * val 4294967296 b ∧ S.ρ 5 = .buf c 0 (a.length + b.length + 1) (some (a.length + b.length + 1)) 1 ∧ S.σ = supd noBlk c (nblk w) ∧ c + 1 ≤ S.c) ?_ ?_
  · refine vwp_loop (fun m S => ∃ i w, m = a.length - i ∧ i ≤ a.length ∧ w.length = i + b.length ∧ Lim 4294967296 w ∧ val 4294967296 w = val 4294967296 (a.take i) * val 4294967296 b ∧ S.ρ 1 = nats u b ∧ S.ρ 5 = .buf c 0 (a.length + b.length + 1) (some (a.length + b.length + 1)) 1 ∧ S.ρ 19 = nats t a ∧ S.ρ 20 = iv a.length ∧ S.ρ 21 = iv i ∧ S.σ = supd noBlk c (nblk (w ++ List.replicate (a.length + 1 - i) 0)) ∧ c + 1 ≤ S.c) a.length ?_ ?_
    · refine ⟨0, List.replicate b.length 0, by omega, by omega, ?_⟩
      refine xS ?_
      have e0 : List.replicate b.length 0 ++ List.replicate (a.length + 1 - 0) 0 = List.replicate (a.length + b.length + 1) 0 := by
        rw [List.replicate_append_replicate]; congr 1; omega
      (repeat' apply And.intro) <;> first | rfl | omega | assumption | (simp; done) | exact Lim.replicate (by decide) | (rw [val_replicate]; simp [val]; done) | (rw [e0])
    rintro m ⟨ρ2, σ, c4⟩ ⟨i, w, hm', hi, hw, hlw, hinv, h1, h5, h20, h21, h22, hσ, hc4⟩
    dsimp only at h1 h5 h20 h21 h22 hσ hc4
    subst hσ
    by_cases g : (i : Int) < a.length
    · have hi' : i < a.length := by omega
      have hxi := ha.getD (i := i) (by decide)
      have hx' := val_take' 4294967296 a i
      refine xRF (jn h1 (jn h5 (jn h20 (jn h21 (jn h22 g))))) ?_
      generalize a.getD i 0 = x at *
      refine v_loop (fun S => ∃ w' carry, w'.length = i + b.length ∧ Lim 4294967296 w' ∧ carry < 4294967296 ∧ val 4294967296 w' + 4294967296 ^ (i + b.length) * carry = val 4294967296 w + 4294967296 ^ i * (x * val 4294967296 b) ∧ S.ρ 1 = nats u b ∧ S.ρ 5 = .buf c 0 (a.length + b.length + 1) (some (a.length + b.length + 1)) 1 ∧ S.ρ 6 = iv i ∧ S.ρ 8 = nv carry ∧ S.ρ 19 = nats t a ∧ S.ρ 20 = iv a.length ∧ S.ρ 21 = iv i ∧ S.σ = supd noBlk c (nblk (w' ++ List.replicate (a.length + 1 - i) 0)) ∧ c + 1 ≤ S.c) ?_ ?_
      · refine vwp_loop (fun m S => ∃ k w' carry, m = b.length - k ∧ k ≤ b.length ∧ w'.length = i + b.length ∧ Lim 4294967296 w' ∧ carry < 4294967296 ∧ val 4294967296 w' + 4294967296 ^ (i + k) * carry = val 4294967296 w + 4294967296 ^ i * (x * val 4294967296 (b.take k)) ∧ S.ρ 1 = nats u b ∧ S.ρ 5 = .buf c 0 (a.length + b.length + 1) (some (a.length + b.length + 1)) 1 ∧ S.ρ 6 = iv i ∧ S.ρ 7 = nv x ∧ S.ρ 8 = nv carry ∧ S.ρ 19 = nats t a ∧ S.ρ 20 = iv a.length ∧ S.ρ 21 = iv i ∧ S.ρ 26 = nats u b ∧ S.ρ 27 = iv b.length ∧ S.ρ 28 = iv k ∧ S.σ = supd noBlk c (nblk (w' ++ List.replicate (a.length + 1 - i) 0)) ∧ c + 1 ≤ S.c) b.length ?_ ?_
        · refine ⟨0, w, 0, by omega, by omega, ?_⟩
          refine xSF (jn h1 (jn h5 (jn h20 (jn h21 h22)))) ?_
          (repeat' apply And.intro) <;> first | rfl | omega | assumption | (simp [val]; done)
        rintro m ⟨ρ3, σ, c5⟩ ⟨k, w', carry, hm2, hk, hw', hlw', hca, hinv', q1, q5, q6, q7, q8, q20, q21, q22, q27, q28, q29, hσ, hc5⟩
        dsimp only at q1 q5 q6 q7 q8 q20 q21 q22 q27 q28 q29 hσ hc5
        subst hσ
        by_cases g2 : (k : Int) < b.length
        · have hk' : k < b.length := by omega
          have hyk := hb.getD (i := k) (by decide)
          have hy' := val_take' 4294967296 b k
          have hik : i + k < w'.length := by omega
          have hwk := hlw'.getD (i := i + k) (by decide)
          have key := addAt_step (b := 4294967296) (k := i) (Y := x * val 4294967296 (b.take k)) (y := x * b.getD k 0) (c := carry) hik (by omega) hinv' _ rfl
          rw [show i + k - i = k by omega, Nat.mul_left_comm, ← Nat.mul_add, ← hy'] at key
          have hp32 := mul_lt32 hxi hyk
          have hvlt : x * b.getD k 0 + w'.getD (i + k) 0 + carry < 18446744073709551616 := by omega
          have s0 : x * b.getD k 0 % 18446744073709551616 = x * b.getD k 0 := Nat.mod_eq_of_lt (by omega)
          have s1 : (x * b.getD k 0 + w'.getD (i + k) 0) % 18446744073709551616 = x * b.getD k 0 + w'.getD (i + k) 0 := Nat.mod_eq_of_lt (by omega)
          have s2 : (x * b.getD k 0 + w'.getD (i + k) 0 + carry) % 18446744073709551616 = x * b.getD k 0 + w'.getD (i + k) 0 + carry := Nat.mod_eq_of_lt hvlt
          have s3 : (x * b.getD k 0 + w'.getD (i + k) 0 + carry) / 4294967296 < 4294967296 := by omega
          have s4 : (x * b.getD k 0 + w'.getD (i + k) 0 + carry) / 4294967296 % 18446744073709551616 = (x * b.getD k 0 + w'.getD (i + k) 0 + carry) / 4294967296 := Nat.mod_eq_of_lt (by omega)
          have s5 : w'.getD (i + k) 0 + x * b.getD k 0 + carry = x * b.getD k 0 + w'.getD (i + k) 0 + carry := by omega
          rw [s5] at key
          have eik : ((i : Int) + (k : Int)).toNat = i + k := by omega
          have hget : (w' ++ List.replicate (a.length + 1 - i) 0).getD (i + k) 0 = w'.getD (i + k) 0 := getD_append_left hik
          have hset : ∀ v, (w' ++ List.replicate (a.length + 1 - i) 0).set (i + k) v = w'.set (i + k) v ++ List.replicate (a.length + 1 - i) 0 := fun v => List.set_append_left _ _ hik
          have hlen : (w' ++ List.replicate (a.length + 1 - i) 0).length = a.length + b.length + 1 := by simp; omega
          refine xRF (jn q1 (jn q5 (jn q6 (jn q7 (jn q8 (jn q20 (jn q21 (jn q22 (jn q27 (jn q28 (jn q29 (jn g2 (jn eik (jn hget (jn hset (jn hlen (jn s0 (jn s1 (jn s2 s4))))))))))))))))))) ?_
          refine ⟨b.length - (k + 1), by omega, k + 1, w'.set (i + k) ((x * b.getD k 0 + w'.getD (i + k) 0 + carry) % 4294967296), (x * b.getD k 0 + w'.getD (i + k) 0 + carry) / 4294967296, ?_⟩
          (repeat' apply And.intro) <;> first | rfl | omega | assumption | (rw [List.length_set]; exact hw') | exact hlw'.set (Nat.mod_lt _ (by decide)) | exact key
        · have hk' : k = b.length := by omega
          subst hk'
          refine xRF (jn q1 (jn q5 (jn q6 (jn q7 (jn q8 (jn q20 (jn q21 (jn q22 (jn q27 (jn q28 (jn q29 g2))))))))))) ?_
          rw [List.take_length] at hinv'
          refine ⟨w', carry, hw', hlw', hca, hinv', ?_⟩
          exact yA
      rintro ⟨ρ3, σ, c5⟩ ⟨w', carry, hw', hlw', hca, hinv', q1, q5, q6, q8, q20, q21, q22, hσ, hc5⟩
      dsimp only at q1 q5 q6 q8 q20 q21 q22 hσ hc5
      subst hσ
      have eib : ((i : Int) + (b.length : Int)).toNat = i + b.length := by omega
      have hlen : (w' ++ List.replicate (a.length + 1 - i) 0).length = a.length + b.length + 1 := by simp; omega
      have hset : ∀ v, (w' ++ List.replicate (a.length + 1 - i) 0).set (i + b.length) v = (w' ++ [v]) ++ List.replicate (a.length + 1 - (i + 1)) 0 := fun v => by
        have := set_fill w' (a.length + 1 - (i + 1)) v
        rw [hw'] at this
        rw [show a.length + 1 - i = a.length + 1 - (i + 1) + 1 by omega, this]
      refine xRF (jn q1 (jn q5 (jn q6 (jn q8 (jn q20 (jn q21 (jn q22 (jn eib (jn hlen hset))))))))) ?_
      refine ⟨a.length - (i + 1), by omega, i + 1, w' ++ [carry], ?_⟩
      have hvv : val 4294967296 (w' ++ [carry]) = val 4294967296 (a.take (i + 1)) * val 4294967296 b := by
        rw [val_append, hw']
        simp only [val, Nat.mul_zero, Nat.add_zero]
        rw [hinv', hinv, hx', Nat.add_mul, Nat.mul_assoc]
      (repeat' apply And.intro) <;> first | rfl | omega | assumption | (simp; omega) | exact lim_snoc hlw' hca | exact hvv
    · have hi' : i = a.length := by omega
      subst hi'
      refine xRF (jn h1 (jn h5 (jn h20 (jn h21 (jn h22 g))))) ?_
      rw [List.take_length] at hinv
      refine ⟨w ++ [0], ?_⟩
      have e0 : w ++ List.replicate (a.length + 1 - a.length) 0 = w ++ [0] := by rw [show a.length + 1 - a.length = 0 + 1 by omega]; rfl
      rw [e0]
      (repeat' apply And.intro) <;> first | rfl | omega | assumption | (simp; omega) | exact lim_snoc hlw (by decide) | (rw [val_snoc0]; exact hinv)
  rintro ⟨ρ3, σ, c5⟩ ⟨w, hw, hlw, hvw, h5, hσ, hc5⟩
  dsimp only at h5 hσ hc5
  subst hσ
  refine v_freeze 5 (t := c) (off := 0) (n := a.length + b.length + 1) (cap := some (a.length + b.length + 1)) (l := w) (ySF h5) yS (by omega) (by omega) ?_
  rw [List.drop_zero, show w.take (a.length + b.length + 1) = w from List.take_of_length_le (by omega)]
  refine xR ?_
  refine s_call (norm32_spec (.id c) w c5 hlw (by omega)) yM ?_
  rintro v c6 hc6 rfl
  rw [hvw]
  refine xR ?_
  exact ⟨c, rfl, by omega, by omega⟩

theorem len32_bl {n k : Nat} (h : bl n ≤ 32 * k) : (digs 4294967296 n).length ≤ k := by
  refine digs_len two32 ?_
  rw [pow32]
  exact lt_of_bl h
theorem bl_mul_le (m n : Nat) : bl (m * n) ≤ bl m + bl n := by
  refine bl_le ?_
  rw [Nat.pow_add]
  exact Nat.mul_lt_mul'' (lt_bl m) (lt_bl n)
theorem bl_add_le {m n k : Nat} (hm : bl m ≤ k) (hn : bl n ≤ k) : bl (m + n) ≤ k + 1 := bl_le (bl_sum (lt_of_bl hm) (lt_of_bl hn))
def RefR (c c' n : Nat) (r : V) : Prop := ∃ i, r = nats (.id i) (digs 4294967296 n) ∧ c ≤ i ∧ i < c'
theorem addR (t u : Tok) (m n c : Nat) (hm : bl m ≤ 68719476736) (hn : bl n ≤ 68719476736) : VSpec Try.prog F.surdref01_Add c [nats t (digs 4294967296 m), nats u (digs 4294967296 n)] (fun r c' => RefR c c' (m + n) r) := by
  have h := add32_spec t u (digs 4294967296 m) (digs 4294967296 n) c (lim_digs two32 m) (lim_digs two32 n) (Nat.le_trans (len32_bl (k := 2147483648) (by omega)) (by decide)) (Nat.le_trans (len32_bl (k := 2147483648) (by omega)) (by decide))
  rw [val_digs two32, val_digs two32] at h
  exact h
theorem mulR (t u : Tok) (m n c : Nat) (hm : bl m ≤ 68719476736) (hn : bl n ≤ 68719476736) : VSpec Try.prog F.surdref01_Mul c [nats t (digs 4294967296 m), nats u (digs 4294967296 n)] (fun r c' => RefR c c' (m * n) r) := by
  have h := mul32_spec t u (digs 4294967296 m) (digs 4294967296 n) c (lim_digs two32 m) (lim_digs two32 n) (Nat.le_trans (len32_bl (k := 2147483648) (by omega)) (by decide)) (Nat.le_trans (len32_bl (k := 2147483648) (by omega)) (by decide))
  rw [val_digs two32, val_digs two32] at h
  exact h
theorem cmpR (t u : Tok) (m n c : Nat) (hm : bl m ≤ 68719476736) (hn : bl n ≤ 68719476736) : VSpec Try.prog F.surdref01_Cmp c [nats t (digs 4294967296 m), nats u (digs 4294967296 n)] (fun r _ => r = iv (cmpI m n)) :=
  cmp_spec t u m n c (Nat.le_trans (len32_bl (k := 2147483648) (by omega)) (by decide)) (Nat.le_trans (len32_bl (k := 2147483648) (by omega)) (by decide))
theorem killσ_lit (t : Nat) {σ : Nat → Option Blk} (h : LitB σ) : killσ t σ = σ := by
  funext u
  unfold killσ
  cases hk : σ u with
  | none => rfl
  | some k =>
    simp only [Option.map]
    have : k.cells.map (killV t) = k.cells := by
      refine (List.map_congr_left fun x hx => ?_).trans (List.map_id _)
      obtain ⟨v, rfl⟩ := h u k hk x hx
      rfl
    rw [this]
section
variable {P : Program} {dr : Bool} {c0 : Nat} {ρ : Nat → V} {σ : Nat → Option Blk} {c i : Nat} {r : List VO} {K : VS → Prop}
theorem s_appmove {x y : X} {t n : Nat} {cap : Option Nat} {w ys : List Nat} {u : Tok} (hx : x.ev ρ = .buf t 0 n cap 1) (ht : σ t = nblk w) (hw : w.length = n) (h0 : c0 ≤ t) (hy : y.ev ρ = nats u ys) (hb : n + ys.length ≤ 17592186044416) (hσ : LitB σ)
    (hk : wps P dr c0 r ⟨upd (kill (some (.inl t)) ρ) i (.buf t 0 (n + ys.length) none 1), supd σ t (nblk (w ++ ys)), c⟩ K) : wps P dr c0 (⟨some i, .app 1 8 [.int .u64 0] x y, none⟩ :: r) ⟨ρ, σ, c⟩ K := by
  have hc : vcells 1 σ (y.ev ρ) = some (ys.map nv) := by rw [hy]; cases u <;> rfl
  refine s_eff rfl (by intros; exact fun h => by cases h) (by intros; exact fun h => by cases h) ⟨_, _, _, some (.inl t), .appMove (k := ys.length) hx ht h0 hc (by simp) (by simp; omega) (by omega) (by omega), ?_⟩
  have e : (((w.map nv).take (n * 1)) ++ ys.map nv).map (killV t) = (w ++ ys).map nv := by
    rw [Nat.mul_one, ← hw, List.take_of_length_le (by simp), ← List.map_append, List.map_map]; rfl
  rw [e, killσ_lit t hσ]
  exact hk
end
theorem kill_at (t : Nat) (ρ : Nat → V) (j : Nat) : kill (some (.inl t)) ρ j = killV t (ρ j) := rfl
theorem killV_sl (t : Nat) (tk : Tok) (l : List Nat) : killV t (nats tk l) = nats tk l := rfl
theorem killV_lit (t : Nat) (v : Value) : killV t (.lit v) = .lit v := rfl

theorem limbs_spec (t : Tok) (x : List Nat) (c : Nat) (hx : Lim 4294967296 x) (hnx : x.length ≤ 1099511627776) :
    VSpec Try.prog F.surdref01_Num_Limbs c [nats t x] (fun r c' => ∃ tk l, r = nats tk l ∧ Tk c c' tk ∧ Lim 18446744073709551616 l ∧ l.length = (x.length + 1) / 2 ∧ val 18446744073709551616 l = val 4294967296 x) := by
  refine sG hm G.surdref01_Num_Limbs ?_
  unfold C.surdref01_Num_Limbs R.surdref01_Num_Limbs cD
  refine xR ?_
  refine v_loop (fun S => ∃ w, Lim 18446744073709551616 w ∧ w.length = (x.length + 1) / 2 ∧ val 18446744073709551616 w = val 4294967296 x ∧ ((w = [] ∧ S.ρ 3 = nil1 ∧ S.σ = noBlk) ∨ ∃ tb, S.ρ 3 = .buf tb 0 w.length none 1 ∧ S.σ = supd noBlk tb (nblk w) ∧ c ≤ tb ∧ tb < S.c) ∧ c ≤ S.c) ?_ ?_
  · refine vwp_loop (fun k S => ∃ j w, k = x.length + 1 - 2 * j ∧ 2 * j ≤ x.length + 1 ∧ w.length = j ∧ Lim 18446744073709551616 w ∧ val 18446744073709551616 w = val 4294967296 (x.take (2 * j)) ∧ S.ρ 0 = nats t x ∧ S.ρ 4 = iv ((2 * j : Nat) : Int) ∧ ((w = [] ∧ S.ρ 3 = nil1 ∧ S.σ = noBlk) ∨ ∃ tb, S.ρ 3 = .buf tb 0 w.length none 1 ∧ S.σ = supd noBlk tb (nblk w) ∧ c ≤ tb ∧ tb < S.c) ∧ c ≤ S.c) (x.length + 1) ?_ ?_
    · refine ⟨0, [], by omega, by omega, rfl, Lim.nil, by simp [val], ?_⟩
      refine xS ?_
      (repeat' apply And.intro) <;> first | rfl | exact Nat.le_refl _ | exact .inl trivial | exact .inl rfl | exact .inl ⟨rfl, rfl⟩
    rintro k ⟨ρ2, σ, c4⟩ ⟨j, w, hk, hj, hw, hlw, hinv, h0, h4, hcase, hc4⟩
    dsimp only at h0 h4 hcase hc4
    by_cases g : ((2 * j : Nat) : Int) < x.length
    · have hj' : 2 * j < x.length := by omega
      have hxi := hx.getD (i := 2 * j) (by decide)
      have hyi := hx.getD (i := 2 * j + 1) (by decide)
      have hv1 := val_take' 4294967296 x (2 * j)
      have hv2 := val_take' 4294967296 x (2 * j + 1)
      have e1 : ((2 * j : Nat) : Int) + 1 = ((2 * j + 1 : Nat) : Int) := by omega
      have e2 : ((2 * j : Nat) : Int) + 2 = ((2 * (j + 1) : Nat) : Int) := by omega
      obtain ⟨vv, hvv⟩ : ∃ vv, vv = x.getD (2 * j) 0 + x.getD (2 * j + 1) 0 * 4294967296 := ⟨_, rfl⟩
      have hvl : vv < 18446744073709551616 := by omega
      have key : val 18446744073709551616 (w ++ [vv]) = val 4294967296 (x.take (2 * (j + 1))) := by
        rw [val_append, hw, hinv, show 2 * (j + 1) = 2 * j + 1 + 1 by omega, hv2, hv1, val, val, Nat.mul_zero, Nat.add_zero, pow64, show 64 * j = 32 * (2 * j) by omega, ← pow32, hvv, Nat.pow_succ, Nat.mul_add, Nat.mul_assoc, Nat.mul_comm 4294967296]
        omega
      have ew : (w ++ [vv]).length = j + 1 := by simp [hw]
      rcases hcase with ⟨hw0, h3, hσ⟩ | ⟨tb, h3, hσ, htb, htb2⟩
      · subst hσ hw0
        obtain rfl : j = 0 := by simpa using hw.symm
        by_cases g2 : ((2 * 0 + 1 : Nat) : Int) < x.length
        · have m1 : x.getD (2 * 0 + 1) 0 * 4294967296 % 18446744073709551616 = x.getD (2 * 0 + 1) 0 * 4294967296 := Nat.mod_eq_of_lt (by omega)
          have m2 : (x.getD (2 * 0) 0 + x.getD (2 * 0 + 1) 0 * 4294967296) % 18446744073709551616 = vv := by rw [← hvv]; exact Nat.mod_eq_of_lt hvl
          refine xRF (jn h0 (jn h3 (jn h4 (jn g (jn e1 (jn g2 (jn m1 m2))))))) ?_
          refine s_bsl1 (n := vv) yS ?_
          refine s_app0 (t := .id c4) (l := [vv]) yS yS (by simp) (fun e => by cases e) (fun _ => ?_)
          refine xRF (jn h0 (jn h3 (jn h4 e2))) ?_
          refine ⟨x.length + 1 - 2 * (0 + 1), by omega, 0 + 1, [] ++ [vv], ?_⟩
          (repeat' apply And.intro) <;> first | rfl | omega | assumption | exact key | exact lim_snoc hlw hvl | exact .inr ⟨c4 + 1, rfl, rfl, by omega, by omega⟩
        · have hy0 : x.getD (2 * 0 + 1) 0 = 0 := getD_ge (by omega)
          have m2 : x.getD (2 * 0) 0 = vv := by rw [hvv, hy0, Nat.zero_mul, Nat.add_zero]
          refine xRF (jn h0 (jn h3 (jn h4 (jn g (jn e1 (jn g2 m2)))))) ?_
          refine s_bsl1 (n := vv) yS ?_
          refine s_app0 (t := .id c4) (l := [vv]) yS yS (by simp) (fun e => by cases e) (fun _ => ?_)
          refine xRF (jn h0 (jn h3 (jn h4 e2))) ?_
          refine ⟨x.length + 1 - 2 * (0 + 1), by omega, 0 + 1, [] ++ [vv], ?_⟩
          (repeat' apply And.intro) <;> first | rfl | omega | assumption | exact key | exact lim_snoc hlw hvl | exact .inr ⟨c4 + 1, rfl, rfl, by omega, by omega⟩
      · subst hσ
        by_cases g2 : ((2 * j + 1 : Nat) : Int) < x.length
        · have m1 : x.getD (2 * j + 1) 0 * 4294967296 % 18446744073709551616 = x.getD (2 * j + 1) 0 * 4294967296 := Nat.mod_eq_of_lt (by omega)
          have m2 : (x.getD (2 * j) 0 + x.getD (2 * j + 1) 0 * 4294967296) % 18446744073709551616 = vv := by rw [← hvv]; exact Nat.mod_eq_of_lt hvl
          refine xRF (jn h0 (jn h3 (jn h4 (jn g (jn e1 (jn g2 (jn m1 m2))))))) ?_
          refine s_bsl1 (n := vv) yS ?_
          refine s_appmove (t := tb) (n := w.length) (cap := none) (w := w) (u := .id c4) (ys := [vv]) yS yS rfl htb yS (by simp; omega) (LitB.no.put _ _ _) ?_
          refine xRF (jn @kill_at (jn @killV_sl (jn @killV_lit (jn h0 (jn h3 (jn h4 e2)))))) ?_
          refine ⟨x.length + 1 - 2 * (j + 1), by omega, j + 1, w ++ [vv], ?_⟩
          (repeat' apply And.intro) <;> first | rfl | omega | assumption | exact key | exact lim_snoc hlw hvl | exact .inr ⟨tb, by simp, rfl, by omega, by omega⟩
        · have hy0 : x.getD (2 * j + 1) 0 = 0 := getD_ge (by omega)
          have m2 : x.getD (2 * j) 0 = vv := by rw [hvv, hy0, Nat.zero_mul, Nat.add_zero]
          refine xRF (jn h0 (jn h3 (jn h4 (jn g (jn e1 (jn g2 m2)))))) ?_
          refine s_bsl1 (n := vv) yS ?_
          refine s_appmove (t := tb) (n := w.length) (cap := none) (w := w) (u := .id c4) (ys := [vv]) yS yS rfl htb yS (by simp; omega) (LitB.no.put _ _ _) ?_
          refine xRF (jn @kill_at (jn @killV_sl (jn @killV_lit (jn h0 (jn h3 (jn h4 e2)))))) ?_
          refine ⟨x.length + 1 - 2 * (j + 1), by omega, j + 1, w ++ [vv], ?_⟩
          (repeat' apply And.intro) <;> first | rfl | omega | assumption | exact key | exact lim_snoc hlw hvl | exact .inr ⟨tb, by simp, rfl, by omega, by omega⟩
    · have hall : val 4294967296 (x.take (2 * j)) = val 4294967296 x := by rw [List.take_of_length_le (by omega)]
      rw [hall] at hinv
      rcases hcase with ⟨hw0, h3, hσ⟩ | ⟨tb, h3, hσ, htb, htb2⟩
      · subst hσ
        refine xRF (jn h0 (jn h3 (jn h4 g))) ?_
        exact ⟨w, hlw, by omega, hinv, .inl hw0, hc4⟩
      · subst hσ
        refine xRF (jn h0 (jn h3 (jn h4 g))) ?_
        refine ⟨w, hlw, by omega, hinv, .inr ⟨tb, ?_⟩, hc4⟩
        first | exact ⟨rfl, rfl, htb, htb2⟩ | exact ⟨h3, rfl, htb, htb2⟩
  rintro ⟨ρ3, σ, c5⟩ ⟨w, hlw, hwn, hvw, hcase, hc5⟩
  dsimp only at hcase hc5
  rcases hcase with ⟨hw0, h3, hσ⟩ | ⟨tb, h3, hσ, htb, htb2⟩
  · subst hσ hw0
    refine xRF h3 ?_
    exact ⟨.nil, [], rfl, .inl rfl, Lim.nil, hwn, hvw⟩
  · subst hσ
    refine v_freeze 3 (t := tb) (off := 0) (n := w.length) (cap := none) (l := w) (ySF h3) yS (by omega) (by omega) ?_
    rw [List.drop_zero, List.take_length]
    refine xR ?_
    exact ⟨.id tb, w, rfl, .inr ⟨tb, rfl, by omega, by omega⟩, hlw, hwn, hvw⟩

theorem limbs_norm {n : Nat} {l : List Nat} (hl : Lim 18446744073709551616 l) (hn : l.length = ((digs 4294967296 n).length + 1) / 2) (hv : val 18446744073709551616 l = n) : l = digs 18446744073709551616 n := by
  rcases Nat.eq_zero_or_pos n with h | h
  · subst h
    have e : (digs 4294967296 0).length = 0 := rfl
    rw [e] at hn
    have e2 : l = [] := List.eq_nil_of_length_eq_zero (by omega)
    rw [e2]
    rfl
  · refine val_inj two64 hl (lim_digs two64 n) ?_ (by rw [hv, val_digs two64])
    have h1 := digs_len_pos two32 h
    have h2 : 0 < (digs 4294967296 n).length := by
      rcases Nat.eq_zero_or_pos (digs 4294967296 n).length with g | g
      · have := (digs_eq_nil two32).1 (List.eq_nil_of_length_eq_zero g); omega
      · exact g
    have h3 : l.length - 1 < (digs 18446744073709551616 n).length := by
      refine digs_len_lt two64 (Nat.le_trans ?_ h1)
      rw [pow64, pow32]
      exact Nat.pow_le_pow_right (by decide) (by omega)
    have h4 : (digs 18446744073709551616 n).length ≤ l.length := by
      refine digs_len two64 ?_
      rw [← hv]
      exact val_lt hl
    omega

theorem limbs_num (t : Tok) (n c : Nat) (hn : (digs 4294967296 n).length ≤ 1099511627776) :
    VSpec Try.prog F.surdref01_Num_Limbs c [nats t (digs 4294967296 n)] (fun r c' => NatR c c' n r) := by
  refine (limbs_spec t (digs 4294967296 n) c (lim_digs two32 n) hn).mono ?_
  rintro r c' ⟨tk, l, rfl, ht, hl, hln, hlv⟩
  rw [val_digs two32] at hlv
  exact ⟨tk, by rw [limbs_norm hl hln hlv], ht⟩

theorem is_spec (t u : Tok) (n : Nat) (l : List Nat) (c : Nat) (hn : (digs 4294967296 n).length ≤ 1099511627776) (hl : l.length ≤ 1099511627776) :
    VSpec Try.prog F.surdref01_Num_Is c [nats t (digs 4294967296 n), nats u l] (fun r _ => r = bv (decide (l = digs 18446744073709551616 n))) := by
  refine sG hm G.surdref01_Num_Is ?_
  unfold C.surdref01_Num_Is R.surdref01_Num_Is cD
  refine xR ?_
  refine s_call (limbs_num t n c hn) yM ?_
  rintro v c1 hc1 ⟨tk, rfl, _⟩
  have hwl : (digs 18446744073709551616 n).length ≤ 1099511627776 := by
    refine Nat.le_trans (digs_len two64 (k := (digs 4294967296 n).length) ?_) hn
    have := val_lt (lim_digs two32 n)
    rw [val_digs two32] at this
    exact Nat.lt_of_lt_of_le this (Nat.pow_le_pow_left (by decide) _)
  generalize digs 18446744073709551616 n = w at *
  by_cases g : (w.length : Int) = l.length
  rotate_left
  · refine xRF g ?_
    rw [decide_eq_false]
    intro e
    rw [e] at g
    exact g rfl
  have hwl2 : w.length = l.length := by omega
  refine xRF g ?_
  refine v_loopR (fun S => l = w ∧ S.σ = noBlk ∧ c ≤ S.c) ?_ ?_
  · refine vwp_loop (fun k S => ∃ i, k = w.length - i ∧ i ≤ w.length ∧ l.take i = w.take i ∧ S.ρ 5 = nats tk w ∧ S.ρ 1 = nats u l ∧ S.ρ 15 = iv l.length ∧ S.ρ 16 = iv i ∧ S.σ = noBlk ∧ c ≤ S.c) w.length ?_ ?_
    · refine ⟨0, by omega, by omega, ?_⟩
      refine xSF g ?_
      exact yA
    rintro k ⟨ρ, σ, c3⟩ ⟨i, hk, hi, ht, h5, h1, h15, h16, hσ, hc3⟩
    dsimp only at h5 h1 h15 h16 hσ hc3
    subst hσ
    by_cases g2 : (i : Int) < l.length
    · have t1 := take_snoc (l := l) (i := i) (by omega)
      have t2 := take_snoc (l := w) (i := i) (by omega)
      by_cases g3 : w.getD i 0 = l.getD i 0
      · refine xRF (jn h5 (jn h1 (jn h15 (jn h16 (jn g2 g3))))) ?_
        refine ⟨w.length - (i + 1), by omega, i + 1, ?_⟩
        have : l.take (i + 1) = w.take (i + 1) := by rw [t1, t2, ht, g3]
        (repeat' apply And.intro) <;> first | rfl | omega | assumption | exact this
      · refine xRF (jn h5 (jn h1 (jn h15 (jn h16 (jn g2 g3))))) ?_
        rw [decide_eq_false]
        intro e
        rw [e] at g3
        exact g3 rfl
    · refine xRF (jn h5 (jn h1 (jn h15 (jn h16 g2)))) ?_
      have : i = w.length := by omega
      subst this
      rw [List.take_length, hwl2, List.take_length] at ht
      exact ⟨ht, hc3⟩
  rintro ⟨ρ3, σ, c5⟩ ⟨he, hσ, hc5⟩
  dsimp only at hσ hc5
  subst hσ
  refine xR ?_
  rw [decide_eq_true he]

theorem alike_ok (t u : Tok) (n c : Nat) (hn : bl n ≤ 67108864) : VSpec Try.prog F.surdlaw04_alike c [nats t (digs 18446744073709551616 n), iv 0, nats u (digs 4294967296 n), iv 0] (fun r _ => r = bv true) := by
  refine sG hm G.surdlaw04_alike ?_
  unfold C.surdlaw04_alike R.surdlaw04_alike cD
  refine xR ?_
  refine s_call (num_spec 0 c) yM ?_
  rintro v c1 hc1 rfl
  refine xR ?_
  refine s_call (is_spec u t n (digs 18446744073709551616 n) c1 (Nat.le_trans (len32_bl (k := 2097152) (by omega)) (by decide)) (Nat.le_trans (digs_len_bl (k := 1048576) (by omega)) (by decide))) yM ?_
  rintro v c2 hc2 rfl
  refine xR ?_
  first | omega | exact ⟨by omega, by rw [decide_eq_true rfl]⟩

def wholeL (a : List Nat) : List Nat := [10855845, 10855845] ++ a ++ [10855845, 10855845]
theorem wholeL_len (a : List Nat) : (wholeL a).length = a.length + 4 := by simp [wholeL]
theorem wholeL_at (a : List Nat) (i : Nat) (h : i < a.length + 4) : (wholeL a).getD i 0 = if 2 ≤ i ∧ i < a.length + 2 then a.getD (i - 2) 0 else 10855845 := by
  unfold wholeL
  rcases Nat.lt_or_ge i 2 with g | g
  · rw [if_neg (by omega)]
    match i, g with
    | 0, _ => rfl
    | 1, _ => rfl
  · obtain ⟨j, rfl⟩ : ∃ j, i = j + 2 := ⟨i - 2, by omega⟩
    show (a ++ [10855845, 10855845]).getD j 0 = _
    rcases Nat.lt_or_ge j a.length with g2 | g2
    · rw [if_pos (by omega), getD_append_left g2]; rfl
    · rw [if_neg (by omega)]
      obtain ⟨k, rfl⟩ : ∃ k, j = a.length + k := ⟨j - a.length, by omega⟩
      rw [List.getD_eq_getElem?_getD, List.getElem?_append_right (by omega)]
      have : k = 0 ∨ k = 1 := by omega
      rcases this with rfl | rfl
      · simp
      · simp

theorem kept_spec (t u : Tok) (a : List Nat) (c : Nat) (hna : a.length ≤ 1099511627776) : VSpec Try.prog F.surdref01_Kept c [nats t (wholeL a), nats u a] (fun r _ => r = bv true) := by
  refine sG hm G.surdref01_Kept ?_
  unfold C.surdref01_Kept R.surdref01_Kept cD
  have hl := wholeL_len a
  have g0 : ((a.length + 4 : Nat) : Int) = (a.length : Int) + 4 := by omega
  refine xRF (jn hl g0) ?_
  refine v_loopR (fun S => S.σ = noBlk ∧ c ≤ S.c) ?_ ?_
  · refine vwp_loop (fun k S => ∃ i, k = a.length + 4 - i ∧ i ≤ a.length + 4 ∧ S.ρ 1 = nats u a ∧ S.ρ 13 = nats t (wholeL a) ∧ S.ρ 14 = iv ((a.length + 4 : Nat) : Int) ∧ S.ρ 15 = iv i ∧ S.σ = noBlk ∧ c ≤ S.c) (a.length + 4) ?_ ?_
    · refine ⟨0, by omega, by omega, ?_⟩
      refine xSF (jn hl g0) ?_
      exact yA
    rintro k ⟨ρ, σ, c3⟩ ⟨i, hk, hi, h1, h13, h14, h15, hσ, hc3⟩
    dsimp only at h1 h13 h14 h15 hσ hc3
    subst hσ
    by_cases g2 : (i : Int) < ((a.length + 4 : Nat) : Int)
    · have hat := wholeL_at a i (by omega)
      by_cases g3 : (i : Int) < 2
      · rw [if_neg (by omega)] at hat
        refine xRF (jn h1 (jn h13 (jn h14 (jn h15 (jn g2 (jn g3 (jn hl hat))))))) ?_
        refine ⟨a.length + 4 - (i + 1), by omega, i + 1, ?_⟩
        exact yA
      · by_cases g4 : (a.length : Int) + 2 ≤ (i : Int)
        · rw [if_neg (by omega)] at hat
          refine xRF (jn h1 (jn h13 (jn h14 (jn h15 (jn g2 (jn g3 (jn g4 (jn hl hat)))))))) ?_
          refine ⟨a.length + 4 - (i + 1), by omega, i + 1, ?_⟩
          exact yA
        · rw [if_pos (by omega)] at hat
          have e1 : ((i : Int) - 2).toNat = i - 2 := by omega
          refine xRF (jn h1 (jn h13 (jn h14 (jn h15 (jn g2 (jn g3 (jn g4 (jn hl (jn hat e1))))))))) ?_
          refine ⟨a.length + 4 - (i + 1), by omega, i + 1, ?_⟩
          exact yA
    · refine xRF (jn h1 (jn h13 (jn h14 (jn h15 g2)))) ?_
      omega
  rintro ⟨ρ3, σ, c5⟩ ⟨hσ, hc5⟩
  dsimp only at hσ hc5
  subst hσ
  refine xR ?_
  omega

theorem lend_spec (t : Tok) (a : List Nat) (c : Nat) (ha : Lim 18446744073709551616 a) (hna : a.length ≤ 1099511627776) :
    VSpec Try.prog F.surdref01_Lend c [nats t a] (fun r c' => ∃ i, r = .tup [nats (.id i) (wholeL a), nats (.sub i) a] ∧ c ≤ i ∧ i < c') := by
  refine sG hm G.surdref01_Lend ?_
  unfold C.surdref01_Lend R.surdref01_Lend cD
  refine xR ?_
  refine s_mk (n := a.length + 4) (m := a.length + 4) ySr ySr (Nat.le_refl _) (by omega) ?_
  refine xR ?_
  refine v_loop (fun S => S.ρ 0 = nats t a ∧ S.ρ 4 = .buf c 0 (a.length + 4) (some (a.length + 4)) 1 ∧ S.σ = supd noBlk c (nblk (List.replicate (a.length + 4) 10855845)) ∧ c + 1 ≤ S.c) ?_ ?_
  · refine vwp_loop (fun k S => ∃ i, k = a.length + 4 - i ∧ i ≤ a.length + 4 ∧ S.ρ 0 = nats t a ∧ S.ρ 4 = .buf c 0 (a.length + 4) (some (a.length + 4)) 1 ∧ S.ρ 13 = iv ((a.length + 4 : Nat) : Int) ∧ S.ρ 14 = iv i ∧ S.σ = supd noBlk c (nblk (List.replicate i 10855845 ++ List.replicate (a.length + 4 - i) 0)) ∧ c + 1 ≤ S.c) (a.length + 4) ?_ ?_
    · refine ⟨0, by omega, by omega, ?_⟩
      refine xS ?_
      exact yA
    rintro k ⟨ρ, σ, c3⟩ ⟨i, hk, hi, h0, h4, h13, h14, hσ, hc3⟩
    dsimp only at h0 h4 h13 h14 hσ hc3
    subst hσ
    by_cases g : (i : Int) < ((a.length + 4 : Nat) : Int)
    · have hlen : (List.replicate i 10855845 ++ List.replicate (a.length + 4 - i) 0).length = a.length + 4 := by simp; omega
      have hset : (List.replicate i 10855845 ++ List.replicate (a.length + 4 - i) 0).set i 10855845 = List.replicate (i + 1) 10855845 ++ List.replicate (a.length + 4 - (i + 1)) 0 := by
        have := set_fill (List.replicate i 10855845) (a.length + 4 - (i + 1)) 10855845
        rw [List.length_replicate] at this
        rw [show a.length + 4 - i = a.length + 4 - (i + 1) + 1 by omega, this, List.replicate_succ']
      refine xRF (jn h0 (jn h4 (jn h13 (jn h14 (jn g (jn hlen hset)))))) ?_
      refine ⟨a.length + 4 - (i + 1), by omega, i + 1, ?_⟩
      exact yA
    · have : i = a.length + 4 := by omega
      subst this
      refine xRF (jn h0 (jn h4 (jn h13 (jn h14 g)))) ?_
      rw [Nat.sub_self, List.replicate_zero, List.append_nil]
      exact yA
  rintro ⟨ρ3, σ, c5⟩ ⟨h0, h4, hσ, hc5⟩
  dsimp only at h0 h4 hσ hc5
  subst hσ
  refine xRF (jn h0 h4) ?_
  refine v_loop (fun S => S.ρ 0 = nats t a ∧ S.ρ 4 = .buf c 0 (a.length + 4) (some (a.length + 4)) 1 ∧ S.σ = supd noBlk c (nblk (wholeL a)) ∧ c + 1 ≤ S.c) ?_ ?_
  · refine vwp_loop (fun k S => ∃ i, k = a.length - i ∧ i ≤ a.length ∧ S.ρ 0 = nats t a ∧ S.ρ 4 = .buf c 0 (a.length + 4) (some (a.length + 4)) 1 ∧ S.ρ 21 = nats t a ∧ S.ρ 22 = iv a.length ∧ S.ρ 23 = iv i ∧ S.σ = supd noBlk c (nblk (([10855845, 10855845] ++ a.take i) ++ List.replicate (a.length - i + 2) 10855845)) ∧ c + 1 ≤ S.c) a.length ?_ ?_
    · refine ⟨0, by omega, by omega, ?_⟩
      have e0 : List.replicate (a.length + 4) 10855845 = ([10855845, 10855845] ++ a.take 0) ++ List.replicate (a.length - 0 + 2) 10855845 := by
        rw [show a.length + 4 = (a.length - 0 + 2) + 1 + 1 by omega, List.replicate_succ, List.replicate_succ]; simp
      refine xSF (jn h0 h4) ?_
      (repeat' apply And.intro) <;> first | rfl | omega | assumption | (rw [e0])
    rintro k ⟨ρ, σ, c3⟩ ⟨i, hk, hi, h0, h4, h21, h22, h23, hσ, hc3⟩
    dsimp only at h0 h4 h21 h22 h23 hσ hc3
    subst hσ
    by_cases g : (i : Int) < a.length
    · have hti : (a.take i).length = i := by simp; omega
      have hlen : (([10855845, 10855845] ++ a.take i) ++ List.replicate (a.length - i + 2) 10855845).length = a.length + 4 := by simp; omega
      have hset : ∀ v, (([10855845, 10855845] ++ a.take i) ++ List.replicate (a.length - i + 2) 10855845).set (i + 2) v = (([10855845, 10855845] ++ a.take i) ++ [v]) ++ List.replicate (a.length - (i + 1) + 2) 10855845 := fun v => by
        have e : ([10855845, 10855845] ++ a.take i).length = i + 2 := by simp; omega
        rw [show a.length - i + 2 = (a.length - (i + 1) + 2) + 1 by omega, List.replicate_succ]
        conv => lhs; rw [← e]
        rw [set_at]; simp
      have e2 : ((i : Int) + 2).toNat = i + 2 := by omega
      have hts := take_snoc (l := a) (i := i) (by omega)
      refine xRF (jn h0 (jn h4 (jn h21 (jn h22 (jn h23 (jn g (jn e2 (jn hlen hset)))))))) ?_
      refine ⟨a.length - (i + 1), by omega, i + 1, ?_⟩
      rw [hts, ← List.append_assoc [10855845, 10855845]]
      exact yA
    · have : i = a.length := by omega
      subst this
      refine xRF (jn h0 (jn h4 (jn h21 (jn h22 (jn h23 g))))) ?_
      have e0 : ([10855845, 10855845] ++ a.take a.length) ++ List.replicate (a.length - a.length + 2) 10855845 = wholeL a := by rw [List.take_length, Nat.sub_self]; rfl
      rw [e0]
      exact yA
  rintro ⟨ρ4, σ, c6⟩ ⟨h0, h4, hσ, hc6⟩
  dsimp only at h0 h4 hσ hc6
  subst hσ
  have hl := wholeL_len a
  refine v_freeze 4 (t := c) (off := 0) (n := a.length + 4) (cap := some (a.length + 4)) (l := wholeL a) (ySF h4) yS (by omega) (by omega) ?_
  rw [List.drop_zero, show (wholeL a).take (a.length + 4) = wholeL a from List.take_of_length_le (by omega)]
  have e1 : (2 : Int).toNat = 2 := rfl
  have e2 : ((a.length : Int) + 2).toNat = a.length + 2 := by omega
  have e3 : ((wholeL a).drop 2).take (a.length + 2 - 2) = a := by
    show (a ++ [10855845, 10855845]).take (a.length + 2 - 2) = a
    rw [Nat.add_sub_cancel, List.take_append_of_le_length (Nat.le_refl _), List.take_length]
  have e4 : Tok.cut 2 (.id c) = .sub c := rfl
  refine xRF (jn h0 (jn hl (jn e1 (jn e2 (jn e3 e4))))) ?_
  exact ⟨c, rfl, by omega, by omega⟩

theorem shl32_low {x s : Nat} (hs : s ≤ 31) (hx : x < 4294967296) : x * 2 ^ s % 18446744073709551616 = x * 2 ^ s ∧ x * 2 ^ s % 4294967296 + 2 ^ s ≤ 4294967296 ∧ x * 2 ^ s / 4294967296 < 2 ^ s ∧ x * 2 ^ s / 4294967296 % 18446744073709551616 = x * 2 ^ s / 4294967296 ∧ 2 ^ s ≤ 2147483648 := by
  have h31 : 2 ^ s ≤ 2 ^ 31 := Nat.pow_le_pow_right (by decide) hs
  have hp : 0 < 2 ^ s := Nat.two_pow_pos s
  have hlt : x * 2 ^ s < 4294967296 * 2 ^ s := Nat.mul_lt_mul_of_pos_right hx hp
  have h32 : 4294967296 = 2 ^ (32 - s) * 2 ^ s := by rw [← Nat.pow_add, show 32 - s + s = 32 by omega]
  have hlow : x * 2 ^ s % 4294967296 + 2 ^ s ≤ 4294967296 := by
    have e : x * 2 ^ s % 4294967296 = (x % 2 ^ (32 - s)) * 2 ^ s := by rw [h32, Nat.mul_mod_mul_right]
    rw [e, ← Nat.succ_mul, h32]
    exact Nat.mul_le_mul_right _ (Nat.mod_lt _ (Nat.two_pow_pos _))
  have hdiv : x * 2 ^ s / 4294967296 < 2 ^ s := Nat.div_lt_of_lt_mul hlt
  have h1 : x * 2 ^ s < 18446744073709551616 := by
    have : 4294967296 * 2 ^ s ≤ 4294967296 * 2 ^ 31 := Nat.mul_le_mul_left _ h31
    omega
  exact ⟨Nat.mod_eq_of_lt h1, hlow, hdiv, Nat.mod_eq_of_lt (by omega), by omega⟩

theorem shl32_spec (t : Tok) (a : List Nat) (n c : Nat) (ha : Lim 4294967296 a) (hna : a.length ≤ 1099511627776) (hn : n ≤ 1099511627776) :
    VSpec Try.prog F.surdref01_Shl c [nats t a, iv n] (fun r c' => (a = [] ∧ r = nil1) ∨ ∃ i, r = nats (.id i) (digs 4294967296 (val 4294967296 a * 2 ^ n)) ∧ c ≤ i ∧ i < c') := by
  refine sG hm G.surdref01_Shl ?_
  unfold C.surdref01_Shl R.surdref01_Shl cD
  by_cases g0 : (a.length : Int) = 0
  · refine xRF g0 ?_
    exact .inl (List.eq_nil_of_length_eq_zero (by omega))
  obtain ⟨q, hq⟩ : ∃ q, q = n / 32 := ⟨_, rfl⟩
  obtain ⟨s, hs⟩ : ∃ s, s = n % 32 := ⟨_, rfl⟩
  have hs31 : s ≤ 31 := by omega
  have eq1 : (n : Int) / 32 = (q : Int) := by omega
  have es1 : (n : Int) % 32 = (s : Int) := by omega
  have el : (a.length : Int) + (q : Int) + 1 = ((q + a.length + 1 : Nat) : Int) := by omega
  refine xRF (jn g0 (jn eq1 el)) ?_
  refine s_mk (n := q + a.length + 1) (m := q + a.length + 1) yS yS (Nat.le_refl _) (by omega) ?_
  refine xRF es1 ?_
  refine v_loop (fun S => ∃ w, w.length = q + a.length + 1 ∧ Lim 4294967296 w ∧ val 4294967296 w = val 4294967296 a * 2 ^ n ∧ S.ρ 5 = .buf c 0 (q + a.length + 1) (some (q + a.length + 1)) 1 ∧ S.σ = supd noBlk c (nblk w) ∧ c + 1 ≤ S.c) ?_ ?_
  · refine vwp_loop (fun k S => ∃ i w o, k = a.length - i ∧ i ≤ a.length ∧ w.length = i ∧ Lim 4294967296 w ∧ o < 2 ^ s ∧ val 4294967296 (w ++ [o]) = val 4294967296 (a.take i) * 2 ^ s ∧ S.ρ 1 = iv (n : Int) ∧ S.ρ 6 = iv (s : Int) ∧ S.ρ 21 = nats t a ∧ S.ρ 22 = iv (a.length : Int) ∧ S.ρ 23 = iv (i : Int) ∧ S.ρ 5 = .buf c 0 (q + a.length + 1) (some (q + a.length + 1)) 1 ∧ S.σ = supd noBlk c (nblk ((List.replicate q 0 ++ w) ++ o :: List.replicate (a.length - i) 0)) ∧ c + 1 ≤ S.c) a.length ?_ ?_
    · refine ⟨0, [], 0, by omega, by omega, ?_⟩
      refine xS ?_
      have e0 : List.replicate (q + a.length + 1) 0 = (List.replicate q 0 ++ []) ++ 0 :: List.replicate (a.length - 0) 0 := by
        rw [List.append_nil, ← List.replicate_succ, List.replicate_append_replicate]; rfl
      rw [e0]
      (repeat' apply And.intro) <;> first | rfl | omega | assumption | exact Lim.nil | exact Nat.two_pow_pos s | (simp [val]; done)
    rintro k ⟨ρ2, σ, c4⟩ ⟨i, w, o, hk, hi, hw, hlw, ho, hinv, h1, h6, h21, h22, h23, h5, hσ, hc4⟩
    dsimp only at h1 h6 h21 h22 h23 h5 hσ hc4
    subst hσ
    by_cases g : (i : Int) < a.length
    · have hi' : i < a.length := by omega
      have hxi := ha.getD (i := i) (by decide)
      have hax := val_take' 4294967296 a i
      obtain ⟨m1, m2, m3, m4, m5⟩ := shl32_low hs31 hxi
      have hql : (List.replicate q 0 ++ w).length = i + q := by simp [hw]; omega
      have eiq : ((i : Int) + (q : Int)).toNat = i + q := by omega
      have eiq1 : ((i : Int) + (q : Int) + 1).toNat = i + q + 1 := by omega
      have hlen : ((List.replicate q 0 ++ w) ++ o :: List.replicate (a.length - i) 0).length = q + a.length + 1 := by simp [hw]; omega
      have hget : ((List.replicate q 0 ++ w) ++ o :: List.replicate (a.length - i) 0).getD (i + q) 0 = o := by rw [← hql]; exact getD_at _ _ _
      have hset1 : ∀ v, ((List.replicate q 0 ++ w) ++ o :: List.replicate (a.length - i) 0).set (i + q) v = (List.replicate q 0 ++ w) ++ v :: List.replicate (a.length - i) 0 := fun v => by rw [← hql]; exact set_at _ _ _ _
      have hset2 : ∀ v v', ((List.replicate q 0 ++ w) ++ v :: List.replicate (a.length - i) 0).set (i + q + 1) v' = (List.replicate q 0 ++ (w ++ [v])) ++ v' :: List.replicate (a.length - (i + 1)) 0 := fun v v' => by
        have e : (List.replicate q 0 ++ w) ++ v :: List.replicate (a.length - i) 0 = (List.replicate q 0 ++ (w ++ [v])) ++ 0 :: List.replicate (a.length - (i + 1)) 0 := by
          rw [show a.length - i = a.length - (i + 1) + 1 by omega, List.replicate_succ]; simp
        rw [e, show i + q + 1 = (List.replicate q 0 ++ (w ++ [v])).length by simp [hw]; omega]
        exact set_at _ _ _ _
      have hlen2 : ∀ v, ((List.replicate q 0 ++ w) ++ v :: List.replicate (a.length - i) 0).length = q + a.length + 1 := fun v => by simp [hw]; omega
      have emin : min s 64 = s := by omega
      have hod : (o + a.getD i 0 * 2 ^ s % 4294967296) % 18446744073709551616 = o + a.getD i 0 * 2 ^ s % 4294967296 := Nat.mod_eq_of_lt (by omega)
      have hstep := shl_step (b := 4294967296) (lo := a.getD i 0 * 2 ^ s % 4294967296) (hi := a.getD i 0 * 2 ^ s / 4294967296) (x := a.getD i 0) (P := 2 ^ s) hw hinv (by omega)
      refine xRF (jn h1 (jn h6 (jn h21 (jn h22 (jn h23 (jn h5 (jn g (jn eq1 (jn eiq (jn eiq1 (jn hlen (jn hlen2 (jn hget (jn hset1 (jn hset2 (jn emin (jn m1 (jn m4 hod)))))))))))))))))) ?_
      refine ⟨a.length - (i + 1), by omega, i + 1, w ++ [o + a.getD i 0 * 2 ^ s % 4294967296], a.getD i 0 * 2 ^ s / 4294967296, ?_⟩
      have key : val 4294967296 ((w ++ [o + a.getD i 0 * 2 ^ s % 4294967296]) ++ [a.getD i 0 * 2 ^ s / 4294967296]) = val 4294967296 (a.take (i + 1)) * 2 ^ s := by
        rw [hstep, hax, Nat.add_mul, Nat.mul_assoc]
      have hlw2 := lim_snoc (v := o + a.getD i 0 * 2 ^ s % 4294967296) hlw (by omega)
      (repeat' apply And.intro) <;> first | rfl | exact key | exact hlw2 | exact m3 | (simp [hw]; done) | omega | assumption
    · have hi' : i = a.length := by omega
      subst hi'
      refine xRF (jn h1 (jn h6 (jn h21 (jn h22 (jn h23 (jn h5 g)))))) ?_
      rw [List.take_length] at hinv
      refine ⟨List.replicate q 0 ++ (w ++ [o]), ?_⟩
      have hwl : Lim 4294967296 (w ++ [o]) := lim_snoc hlw (by have := Nat.pow_le_pow_right (n := 2) (by decide) hs31; omega)
      have key : val 4294967296 (List.replicate q 0 ++ (w ++ [o])) = val 4294967296 a * 2 ^ n := by
        rw [val_zeros, hinv, pow32, Nat.mul_left_comm, ← Nat.pow_add, show 32 * q + s = n by omega]
      have e0 : (List.replicate q 0 ++ w) ++ o :: List.replicate (a.length - a.length) 0 = List.replicate q 0 ++ (w ++ [o]) := by simp
      rw [e0]
      (repeat' apply And.intro) <;> first | rfl | omega | assumption | exact key | exact (Lim.replicate (by decide)).append hwl | (simp [hw]; omega)
  rintro ⟨ρ3, σ, c5⟩ ⟨w, hw, hlw, hvw, h5, hσ, hc5⟩
  dsimp only at h5 hσ hc5
  subst hσ
  refine v_freeze 5 (t := c) (off := 0) (n := q + a.length + 1) (cap := some (q + a.length + 1)) (l := w) (ySF h5) yS (by omega) (by omega) ?_
  rw [List.drop_zero, show w.take (q + a.length + 1) = w from List.take_of_length_le (by omega)]
  refine xR ?_
  refine s_call (norm32_spec (.id c) w c5 hlw (by omega)) yM ?_
  rintro v c6 hc6 rfl
  rw [hvw]
  refine xR ?_
  exact .inr ⟨c, rfl, by omega, by omega⟩

theorem cmpI_le {m n : Nat} : cmpI m n ≤ 0 ↔ m ≤ n := by
  unfold cmpI
  split
  · constructor <;> intros <;> omega
  · split
    · constructor <;> intros <;> omega
    · constructor <;> intros <;> omega
theorem cmpI_pos {m n : Nat} : 0 < cmpI m n ↔ n < m := by
  unfold cmpI
  split
  · constructor <;> intros <;> omega
  · split
    · constructor <;> intros <;> omega
    · constructor <;> intros <;> omega
theorem lenR (t : Tok) (n c : Nat) (hn : bl n ≤ 68719476736) : VSpec Try.prog F.surdref01_Num_Len c [nats t (digs 4294967296 n)] (fun r _ => r = iv (bl n)) :=
  len_spec t n c (Nat.le_trans (len32_bl (k := 2147483648) (by omega)) (by decide))
theorem oneR (c : Nat) : VSpec Try.prog F.surdref01_Int c [iv 1] (fun r c' => RefR c c' 1 r) := int_spec 1 c (by decide)
theorem shlR (t : Tok) (m n c : Nat) (hm : bl m ≤ 68719476736) (hm0 : 0 < m) (hn : n ≤ 1099511627776) : VSpec Try.prog F.surdref01_Shl c [nats t (digs 4294967296 m), iv n] (fun r c' => RefR c c' (m * 2 ^ n) r) := by
  have h := shl32_spec t (digs 4294967296 m) n c (lim_digs two32 m) (Nat.le_trans (len32_bl (k := 2147483648) (by omega)) (by decide)) hn
  rw [val_digs two32] at h
  refine h.mono ?_
  rintro r c' (⟨h1, _⟩ | h1)
  · exact absurd ((digs_eq_nil two32).1 h1) (by omega)
  · exact h1

theorem pow_small {A k : Nat} (hk : 1 ≤ k) (h : A ≤ 1) : A ^ k = A := by
  rcases Nat.eq_zero_or_pos A with e | e
  · rw [e]; exact Nat.zero_pow (by omega)
  · have : A = 1 := by omega
    rw [this, Nat.one_pow]
theorem pow_over {A k M : Nat} (hA : 2 ≤ A) (h : bl M < k) : M < A ^ k :=
  Nat.lt_of_lt_of_le (lt_of_bl (Nat.le_of_lt h)) (Nat.pow_le_pow_left hA k)

theorem told04_spec (t u : Tok) (m n c : Nat) (hm1 : bl m ≤ 67108864) (hn1 : bl n ≤ 67108864) :
    VSpec Try.prog F.surdref04_told c [nats t (digs 4294967296 m), nats u (digs 4294967296 n)] (fun r c' => r = .tup [nats t (digs 4294967296 m), nats u (digs 4294967296 n), iv 0]) := by
  refine sG hm G.surdref04_told ?_
  unfold C.surdref04_told R.surdref04_told cD
  refine xR ?_
  refine s_call (lenR t m c (by omega)) yM ?_
  rintro v c1 hc1 rfl
  have g1 : ¬ (67108864 : Int) < (bl m : Int) := by omega
  refine xRF g1 ?_
  refine s_call (lenR u n c1 (by omega)) yM ?_
  rintro v c2 hc2 rfl
  have g2 : ¬ (67108864 : Int) < (bl n : Int) := by omega
  refine xRF g2 ?_
  omega

end Go.Proofs.Ythjnmfieicniaaa
namespace Go.Proofs.Ythjnmfieicniaaa
open Go.VM Go.RowKit

theorem rep_nil_len {w : World} {M : Nat → Prop} {μ : Nat → Nat} {c : Nat} {l : List Nat} {v : Value} (h : Rep w M μ c (nats .nil l) v) : l = [] := by
  generalize e : nats .nil l = x at h
  cases h with
  | nil tk sz =>
    simp only [nats, V.sl.injEq] at e
    exact List.map_eq_nil_iff.1 e.2.2
  | sl tk sz n cap a l' vs ht hn hc hs hMb hcap h1 hl =>
    simp only [nats, V.sl.injEq] at e
    obtain ⟨rfl, rfl, rfl⟩ := e
    have h0 : cap * 1 = 0 := ht
    have : (l.map nv).length = 0 := by omega
    exact List.map_eq_nil_iff.1 (List.eq_nil_of_length_eq_zero this)
  | any | lit | agg | tup => cases e
def Void (r : V) : Prop := ∀ w M μ c v, ¬ RepE w M μ c r v
theorem void_tup {l : List V} {x : List Nat} (hm0 : nats .nil x ∈ l) (hx : x ≠ []) : Void (.tup l) := by
  intro w M μ c v h
  have h : Rep w M μ c (.tup l) v := h
  cases h with
  | tup _ cs hn hl =>
    obtain ⟨j, hj⟩ := List.getElem?_of_mem hm0
    have hjl := (List.getElem?_eq_some_iff.1 hj).1
    have := hl j _ _ hj (Array.getElem?_eq_getElem (by omega))
    exact hx (rep_nil_len this)
theorem VSpec.clean {P : Program} {f : FuncId} {c : Nat} {xs : List V} {Q1 Q2 : V → Nat → Prop} (h : VSpec P f c xs Q1) (hq : ∀ r c', c ≤ c' → Q1 r c' → Q2 r c' ∨ (Void r ∧ ∃ r2 c2, c ≤ c2 ∧ Q2 r2 c2)) : VSpec P f c xs Q2 := by
  obtain ⟨r, c', h0, h1, h2⟩ := h
  rcases hq r c' h0 h2 with h | ⟨hv, r2, c2, h3, h4⟩
  · exact ⟨r, c', h0, h1, h⟩
  · refine ⟨r2, c2, h3, fun w Φ μ vs hm0 hn ha => (h1 w Φ μ vs hm0 hn ha).mono ?_, h4⟩
    rintro e w' ⟨v, μ', _, _, hr⟩
    exact absurd hr (hv _ _ _ _ _)

def Row1 (lo hi : Nat) (t : Tok) (l : List Nat) : Prop := (t = .nil ∧ l = []) ∨ ∃ i, t = .id i ∧ lo ≤ i ∧ i < hi
theorem Row1.mono {a b c d : Nat} {t : Tok} {l : List Nat} (h : Row1 a b t l) (h1 : c ≤ a) (h2 : b ≤ d) : Row1 c d t l := by
  rcases h with h | ⟨i, h, h3, h4⟩
  · exact .inl h
  · exact .inr ⟨i, h, by omega, by omega⟩
theorem Row1.of {a b : Nat} {t : Tok} {l : List Nat} (h : Tk a b t) (hl : t = .nil → l = []) : Row1 a b t l := by
  rcases h with rfl | ⟨i, rfl, h⟩
  · exact .inl ⟨rfl, hl rfl⟩
  · exact .inr ⟨i, rfl, h⟩
theorem tk_nil_or {a b : Nat} {t : Tok} (l : List Nat) (h : Tk a b t) : Row1 a b t l ∨ (t = .nil ∧ l ≠ []) := by
  by_cases e : t = .nil ∧ l ≠ []
  · exact .inr e
  · refine .inl (.of h fun e1 => ?_)
    cases l with
    | nil => rfl
    | cons x r => exact absurd ⟨e1, by simp⟩ e

theorem nodup_nodupB : ∀ {l : List Nat}, l.Nodup → nodupB l = true
  | [], _ => rfl
  | a :: r, h => by
    obtain ⟨h1, h2⟩ := List.nodup_cons.1 h
    simp only [nodupB, Bool.and_eq_true, Bool.not_eq_true', List.contains_eq_mem, decide_eq_false_iff_not]
    exact ⟨h1, nodup_nodupB h2⟩

abbrev rowsV (ps : List (Tok × List Nat)) : List V := ps.map fun p => nats p.1 p.2
theorem mem_ids {ps : List (Tok × List Nat)} {i : Nat} (h : i ∈ ids (rowsV ps)) : ∃ p ∈ ps, p.1 = .id i := by
  obtain ⟨x, hx, e⟩ := List.mem_filterMap.1 h
  obtain ⟨p, hp, rfl⟩ := List.mem_map.1 hx
  obtain ⟨t, l⟩ := p
  cases t with
  | id j => simp at e; subst e; exact ⟨_, hp, rfl⟩
  | _ => simp at e
theorem ids_nodup : ∀ {ps : List (Tok × List Nat)}, ps.Pairwise (fun p q => Apt p.1 q.1) → (ids (rowsV ps)).Nodup
  | [], _ => List.nodup_nil
  | (t, l) :: ps, h => by
    obtain ⟨h1, h2⟩ := List.pairwise_cons.1 h
    have ih := ids_nodup h2
    cases t with
    | id j =>
      refine List.nodup_cons.2 ⟨fun hm0 => ?_, ih⟩
      obtain ⟨q, hq, e⟩ := mem_ids hm0
      exact h1 q hq j rfl e
    | nil => exact ih
    | unk => exact ih
    | sub j => exact ih
theorem ownable_of {c0 lo tL : Nat} {ps : List (Tok × List Nat)} (hc : c0 ≤ lo) (h0 : 0 < ps.length) (h1 : ps.length ≤ 1000000) (hp : ∀ p ∈ ps, Row1 lo tL p.1 p.2 ∧ p.2.length ≤ 4398046511104) (hl : lo ≤ tL) (ha : ps.Pairwise (fun p q => Apt p.1 q.1)) : ownable c0 tL (rowsV ps) = true := by
  simp only [ownable, Bool.and_eq_true, decide_eq_true_eq, List.all_eq_true]
  have hid : ∀ i ∈ ids (rowsV ps), lo ≤ i ∧ i < tL := fun i hi => by
    obtain ⟨p, hpm, e⟩ := mem_ids hi
    rcases (hp p hpm).1 with ⟨e1, _⟩ | ⟨j, e1, h3, h4⟩
    · rw [e] at e1; cases e1
    · rw [e] at e1; cases e1; exact ⟨h3, h4⟩
  refine ⟨⟨⟨⟨by simpa using h0, by simpa using h1⟩, fun x hx => ?_⟩, fun t ht => ?_⟩, nodup_nodupB (List.nodup_cons.2 ⟨fun h => ?_, ids_nodup ha⟩)⟩
  · obtain ⟨p, hpm, rfl⟩ := List.mem_map.1 hx
    obtain ⟨t, l⟩ := p
    obtain ⟨h2, h3⟩ := hp _ hpm
    rcases h2 with ⟨e1, e2⟩ | ⟨i, e1, _⟩
    · simp only at e1 e2; subst e1 e2; rfl
    · simp only at e1 h3; subst e1
      simp [rowable, h3]
  · rcases List.mem_cons.1 ht with rfl | h
    · omega
    · have := hid t h; omega
  · have := hid tL h; omega

theorem thawL_lit (ts : List Nat) (v : Value) : V.thawL ts (.lit v) = .lit v := by
  unfold V.thawL
  rw [if_pos (List.all_eq_true.2 fun t _ => (show V.still t 4 (.lit v) = true from rfl))]
theorem thawL_nats {ts : List Nat} {t : Tok} {l : List Nat} (h : ∀ q ∈ ts, t.apart q = true) : V.thawL ts (nats t l) = nats t l := by
  unfold V.thawL
  rw [if_pos]
  refine List.all_eq_true.2 fun q hq => ?_
  simp only [V.still, Bool.and_eq_true, List.all_eq_true, List.mem_map]
  refine ⟨h q hq, ?_⟩
  rintro x ⟨n, _, rfl⟩
  rfl
theorem thawL_kn {lo tL : Nat} {ps : List (Tok × List Nat)} (hp : ∀ p ∈ ps, Row1 lo tL p.1 p.2 ∧ p.2.length ≤ 4398046511104) (hl : lo ≤ tL) {t : Tok} {l : List Nat} (h : Kn lo t) : V.thawL (tL :: ids (rowsV ps)) (nats t l) = nats t l := by
  refine thawL_nats fun q hq => ?_
  have hq : lo ≤ q := by
    rcases List.mem_cons.1 hq with rfl | h
    · exact hl
    · obtain ⟨p, hpm, e⟩ := mem_ids h
      rcases (hp p hpm).1 with ⟨e1, _⟩ | ⟨j, e1, h3, h4⟩
      · rw [e] at e1; cases e1
      · rw [e] at e1; cases e1; exact h3
  rcases h with rfl | ⟨i, rfl | rfl, hi⟩
  · rfl
  · exact beq_no (by omega)
  · exact beq_no (by omega)
theorem killed_own (ts : List Nat) (ρ : Nat → V) (j : Nat) : kill (some (.inr ts)) ρ j = (ρ j).thawL ts := rfl

section
variable {P : Program} {c0 : Nat} {ρ : Nat → V} {c i : Nat} {r : List VO} {K : VS → Prop}
theorem s_own {f : FuncId} {x : X} {tL lo : Nat} {ps : List (Tok × List Nat)} (hf : OwnSpec P f) (hx : x.ev ρ = .sl (.id tL) 1 (rowsV ps)) (hc : c0 ≤ lo) (h0 : 0 < ps.length) (h1 : ps.length ≤ 1000000) (hp : ∀ p ∈ ps, Row1 lo tL p.1 p.2 ∧ p.2.length ≤ 4398046511104) (hl : lo ≤ tL) (ha : ps.Pairwise (fun p q => Apt p.1 q.1))
    (hk : wps P false c0 r ⟨upd (kill (some (.inr (tL :: ids (rowsV ps)))) ρ) i (bv true), noBlk, c⟩ K) : wps P false c0 (⟨some i, .call f [x], none⟩ :: r) ⟨ρ, noBlk, c⟩ K := by
  show opS P false c0 (.call f [x]) (some i) _ _
  refine ⟨_, _, _, _, .own rfl hf hx (ownable_of hc h0 h1 hp hl ha), ?_⟩
  have e : (fun t => if (tL :: ids (rowsV ps)).contains t = true then none else (noBlk t).map fun b => (⟨b.cells.map (V.thawL (tL :: ids (rowsV ps))), b.live⟩ : Blk)) = noBlk := by
    funext t
    split <;> rfl
  simp only [e]
  exact hk
variable {σ : Nat → Option Blk} {dr : Bool}
theorem s_rows1 {x : X} {p : Tok × List Nat} (h0 : x.ev ρ = nats p.1 p.2) (hk : wps P dr c0 r ⟨upd ρ i (.sl (.id c) 1 (rowsV [p])), σ, c + 1⟩ K) : wps P dr c0 (⟨some i, .bsl true 1 1 [.slice none 0 0] [(0, (1, x))], none⟩ :: r) ⟨ρ, σ, c⟩ K := by
  refine s_eff rfl (by intros; exact fun h => by cases h) (by intros; exact fun h => by cases h) ⟨_, _, _, none, .bsl (cs := rowsV [p]) ?_, hk⟩
  simp only [partsOf, List.map, h0]
  rfl
end


abbrev ivs (l : List Nat) : List V := l.map fun (n : Nat) => iv (n : Int)
section
variable {P : Program} {c0 : Nat} {ρ : Nat → V} {c i : Nat} {r : List VO} {K : VS → Prop} {σ : Nat → Option Blk} {dr : Bool}
end
def Grown (S9 : V) (σ : Nat → Option Blk) (lo c : Nat) (w : List Nat) : Prop := (w = [] ∧ S9 = nil1 ∧ σ = noBlk) ∨ ∃ tb, S9 = .buf tb 0 w.length none 1 ∧ σ = supd noBlk tb (some ⟨ivs w, true⟩) ∧ lo ≤ tb ∧ tb < c
theorem Grown.mono {S9 : V} {σ : Nat → Option Blk} {lo c c' : Nat} {w : List Nat} (h : Grown S9 σ lo c w) (hc : c ≤ c') : Grown S9 σ lo c' w := by
  rcases h with h | ⟨tb, h1, h2, h3, h4⟩
  · exact .inl h
  · exact .inr ⟨tb, h1, h2, h3, by omega⟩
end Go.Proofs.Ythjnmfieicniaaa
namespace Go.Proofs.Ythjnmfieicniaaa
open Go.VM


section
variable {P : Program} {c0 : Nat} {ρ : Nat → V} {c i : Nat} {r : List VO} {K : VS → Prop}
variable {σ : Nat → Option Blk} {dr : Bool}
end

structure MaxPow (A b k : Nat) : Prop where
  eq : b ^ k = A
  two : 2 ≤ b
  one : 1 ≤ k
  max : ∀ j y, k < j → 2 ≤ y → y ^ j ≠ A

theorem pow04_spec (t u : Tok) (A0 k M c : Nat) (hk : 1 ≤ k) (hk2 : k < 9223372036854775808) (hA : bl A0 ≤ 67108866) (hM : bl M ≤ 67108864) :
    VSpec Try.prog F.surdref04_Power c [nats t (digs 4294967296 A0), iv k, nats u (digs 4294967296 M)] (fun r c' => (A0 ^ k ≤ M → ∃ tk, r = .tup [nats tk (digs 4294967296 (A0 ^ k)), bv true]) ∧ (M < A0 ^ k → ∃ x, r = .tup [x, bv false])) := by
  refine sG hm G.surdref04_Power ?_
  unfold C.surdref04_Power R.surdref04_Power cD
  refine xR ?_
  refine s_call (lenR t A0 c (by omega)) yM ?_
  rintro v c1 hc1 rfl
  by_cases gA : (bl A0 : Int) < 2
  · have hA1 : A0 ≤ 1 := by
      have h2 : bl A0 ≤ 1 := by omega
      have := lt_of_bl h2
      omega
    have e := pow_small hk hA1
    rw [e]
    refine xRF gA ?_
    refine s_call (cmpR t u A0 M c1 (by omega) (by omega)) yM ?_
    rintro v c2 hc2 rfl
    by_cases g : cmpI A0 M ≤ 0
    · refine xRF g ?_
      have := cmpI_le.1 g
      exact ⟨fun _ => ⟨t, rfl⟩, fun h => by omega⟩
    · refine xRF g ?_
      have : ¬ A0 ≤ M := fun h => g (cmpI_le.2 h)
      exact ⟨fun h => by omega, fun _ => ⟨_, rfl⟩⟩
  have hA2 : 2 ≤ A0 := by
    rcases Nat.lt_or_ge A0 2 with h | h
    · have : bl A0 ≤ 1 := bl_le (by omega)
      omega
    · exact h
  refine xRF gA ?_
  refine s_call (lenR u M c1 (by omega)) yM ?_
  rintro v c2 hc2 rfl
  by_cases g2 : (bl M : Int) < k
  · have := pow_over (M := M) (k := k) hA2 (by omega)
    refine xRF g2 ?_
    exact fun _ => ⟨_, rfl⟩
  refine xRF g2 ?_
  refine s_call (oneR c2) yM ?_
  rintro v c3 hc3 ⟨j0, rfl, hj0, hj1⟩
  refine xR ?_
  refine v_loopR (fun S => ∃ j, S.ρ 8 = nats (.id j) (digs 4294967296 (A0 ^ k)) ∧ A0 ^ k ≤ M ∧ c ≤ S.c) ?_ ?_
  · refine vwp_loop (fun q S => ∃ i j, q = k - i ∧ i ≤ k ∧ (i = 0 ∨ A0 ^ i ≤ M) ∧ S.ρ 0 = nats t (digs 4294967296 A0) ∧ S.ρ 1 = iv (k : Int) ∧ S.ρ 2 = nats u (digs 4294967296 M) ∧ S.ρ 8 = nats (.id j) (digs 4294967296 (A0 ^ i)) ∧ S.ρ 9 = iv (i : Int) ∧ S.σ = noBlk ∧ c ≤ S.c) k ?_ ?_
    · refine ⟨0, j0, rfl, by omega, .inl rfl, ?_⟩
      rw [Nat.pow_zero]
      refine xS ?_
      exact yA
    rintro q ⟨ρ2, σ, c4⟩ ⟨i, j, hq, hi, hle, h0, h1, h2, h8, h9, hσ, hc4⟩
    dsimp only at h0 h1 h2 h8 h9 hσ hc4
    subst hσ
    by_cases g3 : (i : Int) < k
    · have hbi : bl (A0 ^ i) ≤ 67108864 := by
        rcases hle with rfl | h
        · exact Nat.le_trans (bl_le (k := 1) (by rw [Nat.pow_zero]; decide)) (by decide)
        · exact Nat.le_trans (bl_mono h) hM
      have hps : A0 ^ i * A0 = A0 ^ (i + 1) := (Nat.pow_succ A0 i).symm
      have hbm := bl_mul_le (A0 ^ i) A0
      have e1 : (i : Int) + 1 = ((i + 1 : Nat) : Int) := by omega
      refine xRF (jn h0 (jn h1 (jn h2 (jn h8 (jn h9 g3))))) ?_
      refine s_call (mulR (.id j) t (A0 ^ i) A0 c4 (by omega) (by omega)) (yMF (jn h0 h8)) ?_
      rintro v c5 hc5 ⟨j2, rfl, hj2, hj3⟩
      rw [hps] at hbm ⊢
      refine xRF (jn h0 (jn h1 (jn h2 h9))) ?_
      refine s_call (cmpR (.id j2) u (A0 ^ (i + 1)) M c5 (by omega) (by omega)) (yMF h2) ?_
      rintro v c6 hc6 rfl
      by_cases g4 : 0 < cmpI (A0 ^ (i + 1)) M
      · refine xRF g4 ?_
        have h5 := cmpI_pos.1 g4
        have h6 : A0 ^ (i + 1) ≤ A0 ^ k := Nat.pow_le_pow_right (by omega) (by omega)
        exact ⟨fun h => by omega, fun _ => ⟨_, rfl⟩⟩
      · refine xRF (jn h0 (jn h1 (jn h2 (jn h9 (jn g4 e1))))) ?_
        have h5 : ¬ M < A0 ^ (i + 1) := fun h => g4 (cmpI_pos.2 h)
        exact ⟨k - (i + 1), by omega, i + 1, j2, rfl, by omega, .inr (by omega), rfl, rfl, by omega⟩
    · have hik : i = k := by omega
      subst hik
      refine xRF (jn h0 (jn h1 (jn h2 (jn h8 (jn h9 g3))))) ?_
      exact ⟨j, rfl, by rcases hle with h | h; omega; exact h, hc4⟩
  rintro ⟨ρ3, σ3, c5⟩ ⟨j, h8, hle, hc5⟩
  dsimp only at h8 hc5
  refine xRF h8 ?_
  exact ⟨fun _ => ⟨_, rfl⟩, fun h => by omega⟩

theorem kth04_spec (t : Tok) (A0 k c : Nat) (hk : 1 ≤ k) (hk2 : k < 9223372036854775808) (hA : bl A0 ≤ 67108864) :
    VSpec Try.prog F.surdref04_Kth c [nats t (digs 4294967296 A0), iv k] (fun r c' => ∃ tk x, r = nats tk (digs 4294967296 x) ∧ IsRoot A0 k x) := by
  refine sG hm G.surdref04_Kth ?_
  unfold C.surdref04_Kth R.surdref04_Kth cD
  by_cases g1 : (k : Int) = 1
  · refine xRF g1 ?_
    have : k = 1 := by omega
    exact ⟨t, A0, rfl, by rw [this]; unfold IsRoot; rw [Nat.pow_one, Nat.pow_one]; omega⟩
  refine xRF g1 ?_
  refine s_call (lenR t A0 c (by omega)) yM ?_
  rintro v c1 hc1 rfl
  have eq1 : (bl A0 : Int) / (k : Int) = ((bl A0 / k : Nat) : Int) := (Int.natCast_ediv _ _).symm
  refine xRF eq1 ?_
  refine v_loop (fun S => ∃ tk x, S.ρ 5 = nats tk (digs 4294967296 x) ∧ IsRoot A0 k x ∧ c ≤ S.c) ?_ ?_
  · refine vwp_loop (fun q S => ∃ i tk x, q = i ∧ i ≤ bl A0 / k + 1 ∧ S.ρ 0 = nats t (digs 4294967296 A0) ∧ S.ρ 1 = iv (k : Int) ∧ S.ρ 5 = nats tk (digs 4294967296 x) ∧ S.ρ 6 = iv ((i : Int) - 1) ∧ x ^ k ≤ A0 ∧ A0 < (x + 2 ^ i) ^ k ∧ S.σ = noBlk ∧ c ≤ S.c) (bl A0 / k + 1) ?_ ?_
    · have e0 : ((bl A0 / k + 1 : Nat) : Int) - 1 = ((bl A0 / k : Nat) : Int) := by omega
      have h1 : A0 < (2 ^ (bl A0 / k + 1)) ^ k := by
        rw [← Nat.pow_mul]
        refine Nat.lt_of_lt_of_le (lt_bl A0) (Nat.pow_le_pow_right (by decide) ?_)
        have := Nat.div_add_mod (bl A0) k
        have := Nat.mod_lt (bl A0) (show 0 < k by omega)
        rw [Nat.add_mul, Nat.mul_comm]
        omega
      refine ⟨bl A0 / k + 1, .nil, 0, rfl, Nat.le_refl _, ?_⟩
      rw [e0, Nat.zero_pow (by omega)]
      refine xS ?_
      (repeat' apply And.intro) <;> first | rfl | omega | assumption | exact h1
    rintro q ⟨ρ2, σ, c4⟩ ⟨i, tk, x, hq, hi, h0, h1, h5, h6, hx1, hx2, hσ, hc4⟩
    dsimp only at h0 h1 h5 h6 hσ hc4
    subst hσ
    rcases Nat.eq_zero_or_pos i with rfl | hip
    · have g2 : ¬ (0 : Int) ≤ ((0 : Nat) : Int) - 1 := by omega
      rw [Nat.pow_zero] at hx2
      refine xRF (jn h5 (jn h6 g2)) ?_
      exact ⟨tk, x, rfl, ⟨hx1, hx2⟩, hc4⟩
    obtain ⟨j, rfl⟩ : ∃ j, i = j + 1 := ⟨i - 1, by omega⟩
    have e1 : (((j + 1 : Nat) : Int) - 1) = (j : Int) := by omega
    rw [e1] at h6
    have g2 : (0 : Int) ≤ (j : Int) := by omega
    have hdiv := Nat.div_le_self (bl A0) k
    have hxA : x ≤ A0 := Nat.le_trans (Nat.le_self_pow (by omega) x) hx1
    have hbx : bl x ≤ 67108864 := Nat.le_trans (bl_mono hxA) hA
    have hb2 : bl (2 ^ j) ≤ 67108865 := Nat.le_trans (bl_le (k := j + 1) (Nat.pow_lt_pow_right (by decide) (by omega))) (by omega)
    have hbs := bl_add_le (m := x) (n := 2 ^ j) (k := 67108865) (by omega) hb2
    have hsum : x + 2 ^ j + 2 ^ j = x + 2 ^ (j + 1) := by rw [Nat.pow_succ]; omega
    refine xRF (jn h0 (jn h1 (jn h5 (jn h6 g2)))) ?_
    refine s_call (oneR c4) yM ?_
    rintro v c5 hc5 ⟨j1, rfl, _, _⟩
    refine xRF (jn h0 (jn h1 (jn h5 h6))) ?_
    refine s_call (shlR (.id j1) 1 j c5 (by decide) (by decide) (by omega)) (yMF h6) ?_
    rintro v c6 hc6 ⟨j2, rfl, _, _⟩
    rw [Nat.one_mul]
    refine xRF (jn h0 (jn h1 (jn h5 h6))) ?_
    refine s_call (addR tk (.id j2) x (2 ^ j) c6 (by omega) (by omega)) (yMF h5) ?_
    rintro v c7 hc7 ⟨j3, rfl, _, _⟩
    refine xRF (jn h0 (jn h1 (jn h5 h6))) ?_
    refine s_call (pow04_spec (.id j3) t (x + 2 ^ j) k A0 c7 hk hk2 (by omega) hA) (yMF (jn h0 h1)) ?_
    rintro v c8 hc8 ⟨hv1, hv2⟩
    rcases Nat.lt_or_ge A0 ((x + 2 ^ j) ^ k) with h | h
    · obtain ⟨y, rfl⟩ := hv2 h
      refine xRF (jn h0 (jn h1 (jn h5 h6))) ?_
      exact ⟨j, by omega, j, tk, x, rfl, by omega, rfl, rfl, hx1, h, by omega⟩
    · obtain ⟨tk2, rfl⟩ := hv1 h
      refine xRF (jn h0 (jn h1 (jn h5 h6))) ?_
      exact ⟨j, by omega, j, .id j3, x + 2 ^ j, rfl, by omega, rfl, rfl, h, by rw [hsum]; exact hx2, by omega⟩
  rintro ⟨ρ3, σ3, c5⟩ ⟨tk, x, h5, hx, hc5⟩
  dsimp only at h5 hc5
  refine xRF h5 ?_
  exact ⟨tk, x, rfl, hx⟩


def PerfA (A b k : Nat) : Prop := (A ≤ 1 ∧ k = 1 ∧ b = A) ∨ MaxPow A b k
theorem perfA_unique {A b k b' k' : Nat} (h : PerfA A b k) (h' : PerfA A b' k') : k = k' ∧ b = b' := by
  rcases h with ⟨h1, h2, h3⟩ | h
  · rcases h' with ⟨g1, g2, g3⟩ | h'
    · exact ⟨by omega, by omega⟩
    · have := h'.eq
      have h2 := h'.two
      have h3 := Nat.le_self_pow (n := k') (by have := h'.one; omega) b'
      omega
  · rcases h' with ⟨g1, g2, g3⟩ | h'
    · have := h.eq
      have h2 := h.two
      have h3 := Nat.le_self_pow (n := k) (by have := h.one; omega) b
      omega
    · have e : k = k' := by
        rcases Nat.lt_trichotomy k k' with g | g | g
        · exact absurd h'.eq (h.max _ _ g h'.two)
        · exact g
        · exact absurd h.eq (h'.max _ _ g h.two)
      subst e
      refine ⟨rfl, ?_⟩
      have e2 : b ^ k = b' ^ k := by rw [h.eq, h'.eq]
      rcases Nat.lt_trichotomy b b' with g | g | g
      · exact absurd e2 (Nat.ne_of_lt (Nat.pow_lt_pow_left g (by have := h.one; omega)))
      · exact g
      · exact absurd e2.symm (Nat.ne_of_lt (Nat.pow_lt_pow_left g (by have := h.one; omega)))
theorem perfect_tk (t : Tok) (a : List Nat) (c : Nat) (ha : Lim 18446744073709551616 a) (hna : a.length ≤ 1099511627776) (hb : bl (val 18446744073709551616 a) ≤ 67108864) :
    VSpec Try.prog F.roots_Perfect c [nats t a] (fun r c' => ∃ (k : Nat) (tk : Tok) (y : Nat), r = .tup [nats tk (digs 18446744073709551616 y), iv (k : Int), iv 0] ∧ PerfA (val 18446744073709551616 a) y k ∧ Tk c c' tk) := by
  refine sG hm G.roots_Perfect ?_
  unfold C.roots_Perfect R.roots_Perfect cD
  refine xR ?_
  refine s_call (fits_spec t a c ha hna) yM ?_
  rintro v c1 hc1 (⟨_, t1, rfl, ht1⟩ | ⟨hb2, _⟩)
  rotate_left
  · omega
  obtain ⟨A0, hA0⟩ : ∃ A0, A0 = val 18446744073709551616 a := ⟨_, rfl⟩
  rw [← hA0] at hb ⊢
  have hla := lim_digs two64 A0
  have va := val_digs two64 A0
  have hnA : (digs 18446744073709551616 A0).length ≤ 1048576 := digs_len_bl (by omega)
  obtain ⟨x, hx⟩ : ∃ x, x = digs 18446744073709551616 A0 := ⟨_, rfl⟩
  rw [← hx] at hla va hnA ⊢
  refine xR ?_
  refine s_call (length_spec t1 x c1 hla (by omega)) yM ?_
  rw [va]
  rintro v c2 hc2 rfl
  by_cases g1 : (bl A0 : Int) ≤ 1
  · refine xRF g1 ?_
    have h2 := lt_of_bl (n := A0) (k := 1) (by omega)
    exact ⟨1, t1, A0, by rw [hx]; rfl, .inl ⟨by omega, rfl, rfl⟩, ht1.mono (by omega) (by omega)⟩
  have hA2 : 2 ≤ A0 := by
    rcases Nat.lt_or_ge A0 2 with h | h
    · have : bl A0 ≤ 1 := bl_le (by omega)
      omega
    · exact h
  refine xRF g1 ?_
  refine v_loopR (fun S => False) ?_ ?_
  · refine vwp_loop (fun q S => ∃ i, q = bl A0 - i ∧ i < bl A0 ∧ (∀ j y, bl A0 - i < j → 2 ≤ y → y ^ j ≠ A0) ∧ S.ρ 0 = nats t1 x ∧ S.ρ 6 = iv (bl A0 : Int) ∧ S.ρ 25 = iv (bl A0 : Int) ∧ S.ρ 26 = iv (i : Int) ∧ S.σ = noBlk ∧ c2 ≤ S.c) (bl A0) ?_ ?_
    · refine ⟨0, rfl, by omega, fun j y hj hy e => ?_, ?_⟩
      · have h1 : 2 ^ j ≤ y ^ j := Nat.pow_le_pow_left hy j
        have h2 := lt_bl A0
        have h3 : 2 ^ bl A0 ≤ 2 ^ j := Nat.pow_le_pow_right (by decide) (by omega)
        omega
      · simp only [vm, ite_true, ite_false, eq_self, reduceIte, Nat.reduceEqDiff, Option.map]
        exact yA
    rintro q ⟨ρ2, σ, c4⟩ ⟨i, hq, hi, hmax, h0, h6, h25, h26, hσ, hc4⟩
    dsimp only at h0 h6 h25 h26 hσ hc4
    subst hσ
    have g2 : (i : Int) < bl A0 := by omega
    · have e1 : (bl A0 : Int) - (i : Int) = ((bl A0 - i : Nat) : Int) := by omega
      have e2 : (i : Int) + 1 = ((i + 1 : Nat) : Int) := by omega
      refine xRF (jn h0 (jn h6 (jn h25 (jn h26 (jn g2 e1))))) ?_
      refine s_call (root_spec t1 x ((bl A0 - i : Nat) : Int) c4 hla (by omega) (by omega)) (yMF h0) ?_
      rintro v c5 hc5 ⟨_, h⟩
      rw [va] at h
      rcases h (by omega) with ⟨_, y, t3, t4, hy, rfl, h3, h4⟩ | ⟨hb2, _⟩
      rotate_left
      · omega
      have hyA : y ≤ A0 := Nat.le_trans (Nat.le_self_pow (by omega) y) hy.1
      have hby := Nat.le_trans (bl_mono hyA) hb
      have hbs := Nat.le_trans (bl_mono (Nat.sub_le A0 (y ^ ((bl A0 - i : Nat) : Int).toNat))) hb
      have ly : (digs 18446744073709551616 y).length ≤ 1048576 := digs_len_bl (by omega)
      have ls : (digs 18446744073709551616 (A0 - y ^ ((bl A0 - i : Nat) : Int).toNat)).length ≤ 1048576 := digs_len_bl (by omega)
      have ek : ((bl A0 - i : Nat) : Int).toNat = bl A0 - i := by omega
      rw [ek] at hy hbs ls ⊢
      obtain ⟨k, hk⟩ : ∃ k, k = bl A0 - i := ⟨_, rfl⟩
      rw [← hk] at hy hbs ls hmax ⊢
      have hzy : A0 - y ^ k = 0 → y ^ k = A0 := fun h => by have := hy.1; omega
      have huniq : ∀ z, z ^ k = A0 → z = y := fun z h => root_unique ⟨Nat.le_of_eq h, by rw [← h]; exact Nat.pow_lt_pow_left (by omega) (by omega)⟩ hy
      obtain ⟨z, hz⟩ : ∃ z, z = A0 - y ^ k := ⟨_, rfl⟩
      rw [← hz] at hbs ls hzy ⊢
      have more : (¬ (bl z : Int) = 0 ∨ ¬ (1 : Int) < (bl y : Int)) → ∀ j w, bl A0 - (i + 1) < j → 2 ≤ w → w ^ j ≠ A0 := fun hno j w hj hw e => by
        rcases Nat.lt_or_ge k j with h | h
        · exact hmax j w h hw e
        · have : j = k := by omega
          subst this
          have := huniq w e
          subst this
          rcases hno with h | h
          · exact h (by rw [hz, e, Nat.sub_self]; rfl)
          · have h2 : bl w ≤ 1 := by omega
            have := lt_of_bl h2
            omega
      have last : i + 1 = bl A0 → (¬ (bl z : Int) = 0 ∨ ¬ (1 : Int) < (bl y : Int)) → False := fun hl hno => by
        exact more hno 1 A0 (by omega) hA2 (Nat.pow_one A0)
      refine xRF (jn h0 (jn h6 (jn h25 h26))) ?_
      refine s_call (length_spec t4 (digs 18446744073709551616 z) c5 (lim_digs two64 _) (by omega)) yM ?_
      rw [val_digs two64]
      rintro v c6 hc6 rfl
      by_cases g3 : (bl z : Int) = 0
      · refine xRF (jn h0 (jn h6 (jn h25 (jn h26 g3)))) ?_
        refine s_call (length_spec t3 (digs 18446744073709551616 y) c6 (lim_digs two64 _) (by omega)) yM ?_
        rw [val_digs two64]
        rintro v c7 hc7 rfl
        by_cases g4 : (1 : Int) < (bl y : Int)
        · refine xRF g4 ?_
          have hz0 : z = 0 := bl_eq_zero.1 (by omega)
          have hy2 : 2 ≤ y := by
            rcases Nat.lt_or_ge y 2 with g | g
            · have := bl_le (n := y) (k := 1) (by omega)
              omega
            · exact g
          exact ⟨k, t3, y, rfl, .inr ⟨hzy hz0, hy2, by omega, hmax⟩, h3.mono (by omega) (by omega)⟩
        · refine xRF (jn h0 (jn h6 (jn h25 (jn h26 (jn g4 e2))))) ?_
          have hl : i + 1 ≠ bl A0 := fun h => last h (.inr g4)
          exact ⟨bl A0 - (i + 1), by omega, i + 1, rfl, by omega, more (.inr g4), rfl, by omega⟩
      · refine xRF (jn h0 (jn h6 (jn h25 (jn h26 (jn g3 e2))))) ?_
        have hl : i + 1 ≠ bl A0 := fun h => last h (.inl g3)
        exact ⟨bl A0 - (i + 1), by omega, i + 1, rfl, by omega, more (.inl g3), rfl, by omega⟩
  intro S h
  exact h.elim
theorem perfect_row (t : Tok) (a : List Nat) (c : Nat) (ha : Lim 18446744073709551616 a) (hna : a.length ≤ 1099511627776) (hb : bl (val 18446744073709551616 a) ≤ 67108864) :
    VSpec Try.prog F.roots_Perfect c [nats t a] (fun r c' => ∃ (k : Nat) (tk : Tok) (y : Nat), r = .tup [nats tk (digs 18446744073709551616 y), iv (k : Int), iv 0] ∧ PerfA (val 18446744073709551616 a) y k ∧ Row1 c c' tk (digs 18446744073709551616 y)) := by
  refine VSpec.clean (perfect_tk t a c ha hna hb) ?_
  rintro r c' hc ⟨k, tk, y, rfl, h1, h2⟩
  rcases tk_nil_or (digs 18446744073709551616 y) h2 with g | ⟨rfl, g⟩
  · exact .inl ⟨k, tk, y, rfl, h1, g⟩
  · exact .inr ⟨void_tup (by simp) g, _, c + 1, by omega, k, .id c, y, rfl, h1, .inr ⟨c, rfl, by omega, by omega⟩⟩
theorem cmpI_z (m n : Nat) : (m = n ∧ cmpI m n = 0) ∨ (m ≠ n ∧ ¬ cmpI m n = 0) := by
  unfold cmpI
  split
  · exact .inr ⟨by omega, by decide⟩
  · split
    · exact .inl ⟨by assumption, rfl⟩
    · exact .inr ⟨by assumption, by decide⟩
theorem rperfect_spec (t : Tok) (A0 c : Nat) (hA : bl A0 ≤ 67108864) :
    VSpec Try.prog F.surdref04_Perfect c [nats t (digs 4294967296 A0)] (fun r _ => ∃ (k : Nat) (tk : Tok) (y : Nat), r = .tup [nats tk (digs 4294967296 y), iv (k : Int), iv 0] ∧ PerfA A0 y k) := by
  refine sG hm G.surdref04_Perfect ?_
  unfold C.surdref04_Perfect R.surdref04_Perfect cD
  refine xR ?_
  refine s_call (lenR t A0 c (by omega)) yM ?_
  rintro v c1 hc1 rfl
  by_cases g1 : (1 : Int) < (bl A0 : Int)
  rotate_left
  · refine xRF g1 ?_
    refine s_call (told04_spec t .nil A0 0 c1 hA (by decide)) yMr ?_
    rintro v c2 hc2 rfl
    refine xR ?_
    have h2 := lt_of_bl (n := A0) (k := 1) (by omega)
    exact ⟨1, t, A0, rfl, .inl ⟨by omega, rfl, rfl⟩⟩
  have hA2 : 2 ≤ A0 := by
    rcases Nat.lt_or_ge A0 2 with h | h
    · have : bl A0 ≤ 1 := bl_le (by omega)
      omega
    · exact h
  refine xRF g1 ?_
  refine s_call (lenR t A0 c1 (by omega)) yM ?_
  rintro v c2 hc2 rfl
  refine xR ?_
  refine v_loop (fun S => ∃ (k0 : Nat) (tk : Tok) (y : Nat), MaxPow A0 y k0 ∧ S.ρ 5 = nats tk (digs 4294967296 y) ∧ S.ρ 6 = iv (k0 : Int) ∧ c ≤ S.c) ?_ ?_
  · refine vwp_loop (fun q S => ∃ k : Nat, q = k ∧ S.ρ 7 = iv (k : Int) ∧ S.ρ 0 = nats t (digs 4294967296 A0) ∧ ((1 ≤ k ∧ k ≤ bl A0 ∧ (∀ j y, k < j → 2 ≤ y → y ^ j ≠ A0) ∧ S.ρ 5 = nats t (digs 4294967296 A0) ∧ S.ρ 6 = iv 1) ∨ ∃ (k0 : Nat) (tk : Tok) (y : Nat), 2 ≤ k0 ∧ MaxPow A0 y k0 ∧ S.ρ 5 = nats tk (digs 4294967296 y) ∧ S.ρ 6 = iv (k0 : Int)) ∧ S.σ = noBlk ∧ c ≤ S.c) (bl A0) ?_ ?_
    · refine ⟨bl A0, rfl, ?_⟩
      refine xS ?_
      refine ⟨.inl ⟨by omega, Nat.le_refl _, fun j y hj hy e => ?_⟩, by omega⟩
      have h1 : 2 ^ j ≤ y ^ j := Nat.pow_le_pow_left hy j
      have h2 := lt_bl A0
      have h3 : 2 ^ bl A0 ≤ 2 ^ j := Nat.pow_le_pow_right (by decide) (by omega)
      omega
    rintro q ⟨ρ2, σ, c4⟩ ⟨k, hq, h7, h0, hst, hσ, hc4⟩
    dsimp only at h7 h0 hst hσ hc4
    subst hσ
    rcases hst with ⟨hk1, hk2, hmax, h5, h6⟩ | ⟨k0, tk, y, hk0, hmp, h5, h6⟩
    rotate_left
    · have n0 : ¬ (k0 : Int) = 1 := by omega
      by_cases g : (1 : Int) < (k : Int)
      · refine xRF (jn h5 (jn h6 (jn h7 (jn g n0)))) ?_
        exact ⟨k0, tk, y, hmp, rfl, rfl, hc4⟩
      · refine xRF (jn h5 (jn h6 (jn h7 g))) ?_
        exact ⟨k0, tk, y, hmp, rfl, rfl, hc4⟩
    by_cases g : (1 : Int) < (k : Int)
    rotate_left
    · have hk : k = 1 := by omega
      refine xRF (jn h5 (jn h6 (jn h7 g))) ?_
      exact ⟨1, t, A0, ⟨Nat.pow_one A0, hA2, Nat.le_refl 1, fun j y hj hy => hmax j y (by omega) hy⟩, rfl, rfl, hc4⟩
    have e1 : (k : Int) - 1 = ((k - 1 : Nat) : Int) := by omega
    refine xRF (jn h0 (jn h5 (jn h6 (jn h7 g)))) ?_
    refine s_call (kth04_spec t A0 k c4 hk1 (by omega) hA) (yMF (jn h0 h7)) ?_
    rintro v c5 hc5 ⟨t5, x, rfl, hx⟩
    have hxA : x ≤ A0 := Nat.le_trans (Nat.le_self_pow (by omega) x) hx.1
    have hbx : bl x ≤ 67108864 := Nat.le_trans (bl_mono hxA) hA
    have hbp : bl (x ^ k) ≤ 67108864 := Nat.le_trans (bl_mono hx.1) hA
    refine xRF (jn h0 (jn h5 (jn h6 h7))) ?_
    refine s_call (pow04_spec t5 t x k A0 c5 hk1 (by omega) (by omega) hA) (yMF (jn h0 h7)) ?_
    rintro v c6 hc6 ⟨hv1, _⟩
    obtain ⟨t6, rfl⟩ := hv1 hx.1
    refine xRF (jn h0 (jn h5 (jn h6 h7))) ?_
    refine s_call (cmpR t6 t (x ^ k) A0 c6 (by omega) (by omega)) (yMF h0) ?_
    rintro v c7 hc7 rfl
    rcases cmpI_z (x ^ k) A0 with ⟨hc, he⟩ | ⟨hc, he⟩
    · have hx2 : 2 ≤ x := by
        rcases Nat.lt_or_ge x 2 with g' | g'
        · have : x ^ k ≤ 1 := Nat.le_trans (Nat.pow_le_pow_left (show x ≤ 1 by omega) k) (by rw [Nat.one_pow]; exact Nat.le_refl 1)
          omega
        · exact g'
      refine xRF (jn h0 (jn h5 (jn h6 (jn h7 (jn he e1))))) ?_
      exact ⟨k - 1, by omega, k - 1, rfl, rfl, .inr ⟨k, t5, x, by omega, ⟨hc, hx2, hk1, hmax⟩, rfl, rfl⟩, by omega⟩
    · refine xRF (jn h0 (jn h5 (jn h6 (jn h7 (jn he e1))))) ?_
      refine ⟨k - 1, by omega, k - 1, rfl, rfl, .inl ⟨by omega, by omega, fun j y hj hy e => ?_⟩, by omega⟩
      rcases Nat.lt_or_ge k j with h | h
      · exact hmax j y h hy e
      · have hjk : j = k := by omega
        subst hjk
        have hyx := root_unique (⟨Nat.le_of_eq e, by rw [← e]; exact Nat.pow_lt_pow_left (by omega) (by omega)⟩ : IsRoot A0 j y) hx
        rw [hyx] at e
        exact hc e
  rintro ⟨ρ3, σ3, c5⟩ ⟨k0, tk, y, hmp, h5, h6, hc5⟩
  dsimp only at h5 h6 hc5
  have hyA : y ≤ A0 := by
    have := Nat.le_self_pow (n := k0) (by have := hmp.one; omega) y
    rw [hmp.eq] at this
    exact this
  have hby : bl y ≤ 67108864 := Nat.le_trans (bl_mono hyA) hA
  refine xRF (jn h5 h6) ?_
  refine s_call (told04_spec tk .nil y 0 c5 hby (by decide)) (yMrF h5) ?_
  rintro v c6 hc6 rfl
  refine xRF h6 ?_
  exact ⟨k0, tk, y, rfl, .inr hmp⟩

theorem perfects_law (t : Tok) (a : List Nat) (c : Nat) (ht : Kn c t) (ha : Lim 18446744073709551616 a) (hna : a.length ≤ 1048576) :
    VSpec Try.prog F.surdlaw04_RootPerfects c [nats t a] (fun r _ => r = bv true) := by
  refine sG hm G.surdlaw04_RootPerfects ?_
  unfold C.surdlaw04_RootPerfects R.surdlaw04_RootPerfects cD
  refine xR ?_
  refine s_call (lend_spec t a c ha (by omega)) yM ?_
  rintro v c1 hc1 ⟨iw, rfl, hiw, hiw2⟩
  refine xR ?_
  refine s_call (of_spec t a c1 ha (by omega)) yM ?_
  rintro v c2 hc2 ⟨i2, rfl, _, _⟩
  obtain ⟨A0, hA0⟩ : ∃ A0, A0 = val 18446744073709551616 a := ⟨_, rfl⟩
  have hbA : bl A0 ≤ 67108864 := by
    have h1 := val_lt ha
    rw [pow64, ← hA0] at h1
    exact Nat.le_trans (bl_le h1) (by omega)
  have hbv : bl (val 18446744073709551616 a) ≤ 67108864 := hA0 ▸ hbA
  rw [← hA0]
  refine xR ?_
  refine s_call (rperfect_spec (.id i2) A0 c2 hbA) yM ?_
  rintro v c3 hc3 ⟨k, t3, y, rfl, hy⟩
  refine xR ?_
  refine s_call (perfect_row (.sub iw) a c3 ha (by omega) hbv) yM ?_
  rw [← hA0]
  rintro v c4 hc4 ⟨k', t4, y', rfl, hy', h4⟩
  obtain ⟨rfl, rfl⟩ := perfA_unique hy hy'
  have hyA : y ≤ A0 := by
    rcases hy with ⟨_, _, h⟩ | h
    · omega
    · have := Nat.le_self_pow (n := k) (by have := h.one; omega) y
      rw [h.eq] at this
      exact this
  have hby : bl y ≤ 67108864 := Nat.le_trans (bl_mono hyA) hbA
  refine xR ?_
  refine s_call (alike_ok t4 t3 y c4 hby) yM ?_
  rintro v c5 hc5 rfl
  refine xR ?_
  refine s_call (kept_spec (.id iw) t a c5 (by omega)) yM ?_
  rintro v c6 hc6 rfl
  refine xR ?_
  have l1 : (digs 18446744073709551616 y).length ≤ 4398046511104 := Nat.le_trans (digs_len_bl (k := 1048576) (by omega)) (by decide)
  have hp : ∀ p ∈ [(t4, digs 18446744073709551616 y)], Row1 c3 c6 p.1 p.2 ∧ p.2.length ≤ 4398046511104 := fun p hp => by
    simp only [List.mem_cons, List.not_mem_nil, or_false] at hp
    subst hp
    exact ⟨h4.mono (by omega) (by omega), l1⟩
  have kw : Kn c3 (.id iw) := .inr ⟨iw, .inl rfl, by omega⟩
  have kt : Kn c3 t := ht.mono (by omega)
  refine s_rows1 (p := (t4, digs 18446744073709551616 y)) yS ?_
  refine xS ?_
  refine s_own (lo := c3) (tL := c6) (ps := [(t4, digs 18446744073709551616 y)]) own_spec yS (by omega) (by simp) (by simp) hp (by omega) (by simp) ?_
  (repeat (first | refine v_reg ?_ | refine v_last ?_ | refine vwp_seq ?_ | refine vwp_block ?_ | refine vwp_skip ?_ | refine vwp_exit ?_ | refine vwp_ret ?_ | refine v_cond ?_ | simp only [vm, ite_true, ite_false, eq_self, reduceIte, Nat.reduceEqDiff, Option.map, killed_own, thawL_lit, thawL_kn hp (show c3 ≤ c6 by omega) kw, thawL_kn hp (show c3 ≤ c6 by omega) kt] | refine And.intro (by omega) ?_))
  refine s_call (kept_spec (.id iw) t a (c6 + 1) (by omega)) yM ?_
  rintro v c7 hc7 rfl
  refine xR ?_
  refine s_call (awake_spec c7) yM ?_
  rintro v c8 hc8 rfl
  refine xR ?_
  omega
end Go.Proofs.Ythjnmfieicniaaa
