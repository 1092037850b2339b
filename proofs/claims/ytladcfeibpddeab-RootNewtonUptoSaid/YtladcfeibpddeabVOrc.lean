import Derived.Test.YtladcfeibpddeabVX
import Derived.Test.YtladcfeibpddeabVSem
import Derived.Test.YtladcfeibpddeabDivL
set_option linter.unusedVariables false
set_option linter.unusedSimpArgs false
namespace Go.VM

/-- the same value, its memory not told -/
inductive Loose : V → V → Prop
  | lit (v : Value) : Loose (.lit v) (.lit v)
  | sl (t : Tok) (sz : Nat) (l : List Value) : Loose (.sl t sz (l.map .lit)) (.sl .unk sz (l.map .lit))
  | tup (l l' : List V) (hn : l.length = l'.length) (h : ∀ (j : Nat) (x y : V), l[j]? = some x → l'[j]? = some y → Loose x y) : Loose (.tup l) (.tup l')

theorem Loose.nats (t : Tok) (l : List Nat) : Loose (nats t l) (nats .unk l) := by
  have := Loose.sl t 1 (l.map fun (n : Nat) => Value.int .u64 (n : Int))
  rw [List.map_map] at this
  exact this
theorem Loose.pair {x y x' y' : V} (h1 : Loose x x') (h2 : Loose y y') : Loose (.tup [x, y]) (.tup [x', y']) :=
  .tup _ _ rfl fun j a b ha hb => match j, ha, hb with
    | 0, ha, hb => by simp at ha hb; subst ha hb; exact h1
    | 1, ha, hb => by simp at ha hb; subst ha hb; exact h2
    | j + 2, ha, hb => by simp at ha
theorem Loose.triple {x y z x' y' z' : V} (h1 : Loose x x') (h2 : Loose y y') (h3 : Loose z z') : Loose (.tup [x, y, z]) (.tup [x', y', z']) :=
  .tup _ _ rfl fun j a b ha hb => match j, ha, hb with
    | 0, ha, hb => by simp at ha hb; subst ha hb; exact h1
    | 1, ha, hb => by simp at ha hb; subst ha hb; exact h2
    | 2, ha, hb => by simp at ha hb; subst ha hb; exact h3
    | j + 3, ha, hb => by simp at ha

theorem rep_lit {w : World} {M : Nat → Prop} {μ : Nat → Nat} {c : Nat} {v u : Value} (h : Rep w M μ c (.lit v) u) : u = v := by cases h; rfl
theorem Loose.rep {w : World} {M : Nat → Prop} {μ : Nat → Nat} {c d : Nat} {x y : V} {u : Value} (hl : Loose x y) (h : Rep w M μ c x u) : Rep w M μ d y u := by
  induction hl generalizing u with
  | lit v => rw [rep_lit h]; exact .lit v
  | sl t sz l =>
    generalize hx : V.sl t sz (l.map .lit) = x at h
    cases h with
    | any | lit | agg | tup => cases hx
    | nil tk sz' =>
      simp only [V.sl.injEq] at hx
      obtain ⟨rfl, rfl, e⟩ := hx
      rw [e]
      exact .nil .unk sz
    | sl tk sz' n cap a l' vs ht hn hc hs hM hcap h1 hl =>
      simp only [V.sl.injEq] at hx
      obtain ⟨rfl, rfl, rfl⟩ := hx
      refine .sl .unk sz n cap a _ vs trivial hn hc hs hM hcap h1 fun j x hx => ?_
      have := hl j x hx
      rw [List.getElem?_map] at hx
      obtain ⟨v, _, rfl⟩ := Option.map_eq_some_iff.1 hx
      rw [rep_lit this]
      exact .lit v
  | tup l l' hn hll ih =>
    cases h with
    | tup _ cs hcs hc =>
      refine .tup _ cs (by omega) fun j y v hy hv => ?_
      have hj : j < l.length := by rw [hn]; exact (List.getElem?_eq_some_iff.1 hy).1
      exact ih j _ y (List.getElem?_eq_getElem hj) hy (hc j _ v (List.getElem?_eq_getElem hj) hv)
theorem Loose.one {x y : V} (h : Loose x y) : x.one = true := by cases h <;> rfl

theorem VCallP.loose {P : Program} {f : FuncId} {c c' : Nat} {xs : List V} {r v : V} (h : VCallP P f c xs r c') (hl : Loose r v) : VCallP P f c xs v c := by
  intro w Φ μ vs hm hn ha
  refine Calls.mono (h w Φ μ vs hm hn ha) ?_
  rintro e W' ⟨u, μ', rfl, hm', hr⟩
  refine ⟨u, μ', rfl, ⟨hm'.good, hm'.moved, Nat.le_refl _, hm'.mu0, fun t h1 h2 => absurd h2 (Nat.not_lt.2 h1), fun t t' h1 h2 => absurd h2 (Nat.not_lt.2 h1), fun t k hk => (by cases hk), fun t ht => absurd rfl ht, fun t k hk => (by cases hk)⟩, RepE.of_one (hl.rep (hr.one hl.one))⟩
theorem VSpec.loose {P : Program} {f : FuncId} {c : Nat} {xs : List V} {v : V} {Q : V → Nat → Prop} (h : VSpec P f c xs Q) (hl : ∀ r c', Q r c' → Loose r v) : VCallP P f c xs v c := by
  obtain ⟨r, c', _, h1, h2⟩ := h
  exact h1.loose (hl r c' h2)
/-- a call without arguments that told or tell of memory: at any count -/
theorem VCallP.at {P : Program} {f : FuncId} {c' : Nat} {v : Value} (h : VCallP P f 0 [] (.lit v) c') (c : Nat) : VCallP P f c [] (.lit v) c := by
  intro w Φ μ vs hm hn ha
  have hm0 : Mem ⟨P, 0, w, Φ, 0, μ, noBlk⟩ noBlk 0 w μ := ⟨⟨fun t ht => absurd rfl ht, fun t ht => absurd rfl ht, fun t t' ht => absurd rfl ht, fun t ht => absurd ht (Nat.not_lt_zero _)⟩, ⟨rfl, rfl, rfl, Nat.le_refl _, Grows.refl _, fun _ _ _ => rfl⟩, Nat.le_refl _, fun _ _ => rfl, fun t h1 h2 => absurd h2 (Nat.not_lt_zero _), fun t t' h1 h2 => absurd h2 (Nat.not_lt_zero _), fun t k hk => (by cases hk), fun t ht => absurd rfl ht, fun t k hk => (by cases hk)⟩
  refine Calls.mono (h w Φ μ vs hm0 hn (fun j x v hx => by simp at hx)) ?_
  rintro e W' ⟨u, μ', rfl, hm', hr⟩
  refine ⟨u, μ, rfl, ⟨hm.good, ⟨hm'.moved.os, hm'.moved.tape, hm'.moved.output, hm'.moved.size, hm'.moved.grows, fun b hb _ => hm'.moved.block b hb (fun t ht => absurd rfl ht)⟩, Nat.le_refl _, fun _ _ => rfl, fun t h1 h2 => absurd h2 (Nat.not_lt.2 h1), fun t t' h1 h2 => absurd h2 (Nat.not_lt.2 h1), fun t k hk => (by cases hk), fun t ht => absurd rfl ht, fun t k hk => (by cases hk)⟩, RepE.of_one ?_⟩
  have := hr.one rfl
  rw [rep_lit this]
  exact .lit v

/-! ### reading arguments -/
def dec1 (v : V) : Option Nat := match v with | .lit (.int .u64 (.ofNat n)) => if n < 18446744073709551616 then some n else none | _ => none
def decL (l : List V) : Option (List Nat) := match l with
  | [] => some []
  | x :: r => match dec1 x, decL r with | some n, some l => some (n :: l) | _, _ => none
theorem dec1_some {v : V} {n : Nat} (h : dec1 v = some n) : v = nv n ∧ n < 18446744073709551616 := by
  unfold dec1 at h
  split at h
  · split at h
    · cases h; exact ⟨rfl, by assumption⟩
    · cases h
  · cases h
theorem decL_some {l : List V} {r : List Nat} (h : decL l = some r) : l = r.map nv ∧ Lim 18446744073709551616 r := by
  induction l generalizing r with
  | nil => cases h; exact ⟨rfl, Lim.nil⟩
  | cons x l ih =>
    simp only [decL] at h
    split at h
    · rename_i n l' h1 h2
      cases h
      obtain ⟨rfl, hn⟩ := dec1_some h1
      obtain ⟨rfl, hl⟩ := ih h2
      exact ⟨rfl, hl.cons hn⟩
    · cases h
def shortL (l : List Nat) : Bool := Nat.ble l.length 1000000
/-- limbs, at most a million -/
def decN (v : V) : Option (Tok × List Nat) := match v with
  | .sl t 1 l => match decL l with | some r => if shortL r = true then some (t, r) else none | none => none
  | _ => none
theorem decN_some {v : V} {t : Tok} {l : List Nat} (h : decN v = some (t, l)) : v = nats t l ∧ Lim 18446744073709551616 l ∧ l.length ≤ 1000000 := by
  unfold decN at h
  split at h
  · split at h
    · rename_i r hr
      split at h
      · rename_i hs
        cases h
        obtain ⟨rfl, hl⟩ := decL_some hr
        exact ⟨rfl, hl, Nat.le_of_ble_eq_true hs⟩
      · cases h
    · cases h
  · cases h
def decI (v : V) : Option Nat := match v with | .lit (.int .i64 (.ofNat n)) => if n < 9223372036854775808 then some n else none | _ => none
theorem decI_some {v : V} {n : Nat} (h : decI v = some n) : v = iv n ∧ n < 9223372036854775808 := by
  unfold decI at h
  split at h
  · split at h
    · cases h; exact ⟨rfl, by assumption⟩
    · cases h
  · cases h
def fD {α : Type} (l : List Nat) (k : List Nat → α) : α := match l with | [] => k [] | x :: xs => fN x fun x => fD xs fun xs => k (x :: xs)
theorem fD_eq {α : Type} (l : List Nat) (k : List Nat → α) : fD l k = k l := by
  induction l generalizing k with
  | nil => rfl
  | cons x xs ih => rw [fD, fN_eq, ih]
def unkN (n : Nat) : V := fN n fun n => fD (digs 18446744073709551616 n) fun l => nats .unk l
theorem unkN_eq (n : Nat) : unkN n = nats .unk (digs 18446744073709551616 n) := by unfold unkN; rw [fN_eq, fD_eq]
def toldN (n : Nat) : V := fN n fun n => if Nat.ble (bl n) 67108864 = true then .tup [unkN n, iv 0] else .tup [.sl .unk 1 [], iv 3]

theorem iteO {p : Prop} [Decidable p] {a b : Option V} {v : V} (h : (if p then a else b) = some v) : (p ∧ a = some v) ∨ (¬ p ∧ b = some v) := by
  by_cases g : p
  · rw [if_pos g] at h; exact .inl ⟨g, h⟩
  · rw [if_neg g] at h; exact .inr ⟨g, h⟩
/-! ### answers out of numbers -/
def o1 (g : Nat → V) (xs : List V) : Option V := match xs with | [x] => (match decN x with | some p => some (g (val 18446744073709551616 p.2)) | none => none) | _ => none
def o2 (g : Nat → Nat → V) (xs : List V) : Option V := match xs with | [x, y] => (match decN x, decN y with | some p, some q => some (g (val 18446744073709551616 p.2) (val 18446744073709551616 q.2)) | _, _ => none) | _ => none
def o1n (g : Nat → Nat → V) (xs : List V) : Option V := match xs with | [x, y] => (match decN x, dec1 y with | some p, some q => some (g (val 18446744073709551616 p.2) q) | _, _ => none) | _ => none
def o1i (g : Nat → Nat → Option V) (xs : List V) : Option V := match xs with | [x, y] => (match decN x, decI y with | some p, some q => g (val 18446744073709551616 p.2) q | _, _ => none) | _ => none
def o0n (g : Nat → V) (xs : List V) : Option V := match xs with | [x] => (match dec1 x with | some q => some (g q) | none => none) | _ => none
section
variable {P : Program} {f : FuncId} {xs : List V} {v : V}
theorem o1_ok {g : Nat → V} (h : ∀ t a c, Lim 18446744073709551616 a → a.length ≤ 1000000 → VCallP P f c [nats t a] (g (val 18446744073709551616 a)) c) (e : o1 g xs = some v) (c : Nat) : VCallP P f c xs v c := by
  unfold o1 at e
  split at e
  · split at e
    · rename_i p hp
      cases e
      obtain ⟨rfl, h1, h2⟩ := decN_some hp
      exact h _ _ c h1 h2
    · cases e
  · cases e
theorem o2_ok {g : Nat → Nat → V} (h : ∀ t u a b c, Lim 18446744073709551616 a → Lim 18446744073709551616 b → a.length ≤ 1000000 → b.length ≤ 1000000 → VCallP P f c [nats t a, nats u b] (g (val 18446744073709551616 a) (val 18446744073709551616 b)) c) (e : o2 g xs = some v) (c : Nat) : VCallP P f c xs v c := by
  unfold o2 at e
  split at e
  · split at e
    · rename_i p q hp hq
      cases e
      obtain ⟨rfl, h1, h2⟩ := decN_some hp
      obtain ⟨rfl, h3, h4⟩ := decN_some hq
      exact h _ _ _ _ c h1 h3 h2 h4
    · cases e
  · cases e
theorem o1n_ok {g : Nat → Nat → V} (h : ∀ t a n c, Lim 18446744073709551616 a → n < 18446744073709551616 → a.length ≤ 1000000 → VCallP P f c [nats t a, nv n] (g (val 18446744073709551616 a) n) c) (e : o1n g xs = some v) (c : Nat) : VCallP P f c xs v c := by
  unfold o1n at e
  split at e
  · split at e
    · rename_i p q hp hq
      cases e
      obtain ⟨rfl, h1, h2⟩ := decN_some hp
      obtain ⟨rfl, h3⟩ := dec1_some hq
      exact h _ _ _ c h1 h3 h2
    · cases e
  · cases e
theorem o1i_ok {g : Nat → Nat → Option V} (h : ∀ t a n c v, Lim 18446744073709551616 a → n < 9223372036854775808 → a.length ≤ 1000000 → g (val 18446744073709551616 a) n = some v → VCallP P f c [nats t a, iv n] v c) (e : o1i g xs = some v) (c : Nat) : VCallP P f c xs v c := by
  unfold o1i at e
  split at e
  · split at e
    · rename_i p q hp hq
      obtain ⟨rfl, h1, h2⟩ := decN_some hp
      obtain ⟨rfl, h3⟩ := decI_some hq
      exact h _ _ _ c _ h1 h3 h2 e
    · cases e
  · cases e
theorem o0n_ok {g : Nat → V} (h : ∀ n c, n < 18446744073709551616 → VCallP P f c [nv n] (g n) c) (e : o0n g xs = some v) (c : Nat) : VCallP P f c xs v c := by
  unfold o0n at e
  split at e
  · split at e
    · rename_i q hq
      cases e
      obtain ⟨rfl, h3⟩ := dec1_some hq
      exact h _ c h3
    · cases e
  · cases e
end
end Go.VM
