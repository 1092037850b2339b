import Derived.Test.YtladcfeibpddeabVWp
set_option linter.unusedVariables false
set_option linter.unusedSimpArgs false
namespace Go.VM

/-! ### limbs -/
abbrev nv (n : Nat) : V := .lit (.int .u64 (n : Int))
abbrev iv (n : Int) : V := .lit (.int .i64 n)
abbrev bv (b : Bool) : V := .lit (.bool b)
abbrev nats (t : Tok) (l : List Nat) : V := .sl t 1 (l.map nv)
abbrev nblk (l : List Nat) : Option Blk := some ⟨l.map nv, true⟩
abbrev nil1 : V := .sl .nil 1 []

/-! ### strict operations: an int that would go around is refused; a natural u64 stays one -/
def sbin (op : BinOp) (isb : Bool) : V → V → Option V
  | .lit (.int .i64 a), .lit (.int .i64 b) => match op with
    | .add => if -9223372036854775808 ≤ a + b ∧ a + b < 9223372036854775808 then some (iv (a + b)) else none
    | .sub => if -9223372036854775808 ≤ a - b ∧ a - b < 9223372036854775808 then some (iv (a - b)) else none
    | .mul => if -9223372036854775808 ≤ a * b ∧ a * b < 9223372036854775808 then some (iv (a * b)) else none
    | .quo => if 0 ≤ a ∧ 0 < b ∧ a < 9223372036854775808 then some (iv (a / b)) else none
    | .rem => if 0 ≤ a ∧ 0 < b then some (iv (a % b)) else none
    | .eql => some (bv (decide (a = b)))
    | .neq => some (bv (!decide (a = b)))
    | .lss => some (bv (decide (a < b)))
    | .leq => some (bv (decide (a ≤ b)))
    | .gtr => some (bv (decide (b < a)))
    | .geq => some (bv (decide (b ≤ a)))
    | op => vbin op isb (iv a) (iv b)
  | x, y => vbin op isb x y

theorem wrap_i64 {x : Int} (h1 : -9223372036854775808 ≤ x) (h2 : x < 9223372036854775808) : IntKind.i64.wrap x = x := by
  simp only [IntKind.wrap, IntKind.signed, IntKind.bits]
  simp
  omega
theorem wrap_u64 {x : Int} (h1 : 0 ≤ x) (h2 : x < 18446744073709551616) : IntKind.u64.wrap x = x := by
  simp only [IntKind.wrap, IntKind.signed, IntKind.bits]
  simp
  omega
theorem wrap_u64_mod (n : Nat) : IntKind.u64.wrap (n : Int) = ((n % 18446744073709551616 : Nat) : Int) := by
  simp only [IntKind.wrap, IntKind.signed, IntKind.bits]
  simp
theorem sbin_vbin {op : BinOp} {b : Bool} {x y v : V} (h : sbin op b x y = some v) : vbin op b x y = some v := by
  unfold sbin at h
  split at h
  · rename_i a c
    cases op
    case add | sub | mul =>
      simp only at h
      split at h
      · rename_i g
        cases h
        simp only [vbin, vint, BinOp.isShift, Bool.false_eq_true, if_false, if_true, Option.map, wrap_i64 g.1 g.2]
      · cases h
    case quo =>
      simp only at h
      split at h
      · rename_i g
        cases h
        have : ¬ c = 0 := by omega
        have e : a.tdiv c = a / c := Int.tdiv_eq_ediv_of_nonneg g.1
        simp only [vbin, vint, BinOp.isShift, Bool.false_eq_true, if_false, if_true, if_neg this, Option.map, e]
        have h1 : 0 ≤ a / c := Int.ediv_nonneg g.1 (by omega)
        have h2 : a / c ≤ a := Int.ediv_le_self _ g.1
        rw [wrap_i64 (by omega) (by omega)]
      · cases h
    case rem =>
      simp only at h
      split at h
      · rename_i g
        cases h
        have : ¬ c = 0 := by omega
        have e : a.tmod c = a % c := Int.tmod_eq_emod_of_nonneg g.1
        simp only [vbin, vint, BinOp.isShift, Bool.false_eq_true, if_false, if_true, if_neg this, Option.map, e]
      · cases h
    case eql | neq | lss | leq | gtr | geq => cases h; rfl
    all_goals exact h
  · exact h

def sconv (k : IntKind) : V → Option V
  | .lit (.int .i64 n) => match k with
    | .u64 => if 0 ≤ n ∧ n < 18446744073709551616 then some (nv n.toNat) else none
    | .i64 => if -9223372036854775808 ≤ n ∧ n < 9223372036854775808 then some (iv n) else none
    | k => some (.int k (k.wrap n))
  | .lit (.int .u64 n) => match k with
    | .i64 => if -9223372036854775808 ≤ n ∧ n < 9223372036854775808 then some (iv n) else none
    | k => some (.int k (k.wrap n))
  | .lit (.int _ n) => some (.int k (k.wrap n))
  | _ => none

/-! ### the rest of a region, by recursion -/
def stepS (a : Option V) (d : Option Nat) (S : VS) (k : VS → Prop) : Prop := ∃ v, a = some v ∧ k ⟨updo S.ρ d v, S.σ, S.c⟩
def storeS (a : Option (Nat → Option Blk)) (S : VS) (k : VS → Prop) : Prop := ∃ σ', a = some σ' ∧ k ⟨S.ρ, σ', S.c⟩
def effS (P : Program) (dr : Bool) (c0 : Nat) (op : VOp) (d : Option Nat) (S : VS) (k : VS → Prop) : Prop :=
  ∃ v σ' c' kt, VEff P dr c0 (X.ev S.ρ) S.σ S.c op v σ' c' kt ∧ k ⟨updo (kill kt S.ρ) d v, σ', c'⟩

def opS (P : Program) (dr : Bool) (c0 : Nat) (op : VOp) (d : Option Nat) (S : VS) (k : VS → Prop) : Prop :=
  match op with
  | .bin op b x y => stepS (sbin op b (x.ev S.ρ) (y.ev S.ρ)) d S k
  | .conv t x => stepS (sconv t (x.ev S.ρ)) d S k
  | .load ag x => stepS (vload S.σ ag (x.ev S.ρ)) d S k
  | .store n x y => match d with
    | none => storeS (vstore S.σ n (x.ev S.ρ) (y.ev S.ρ)) S k
    | some _ => False
  | op => if op.isPure then stepS (vpure (X.ev S.ρ) op) d S k else effS P dr c0 op d S k

def guardS (g : V) (b : Bool) (yes no : Prop) : Prop := (g = .tup [] ∧ no) ∨ ∃ b', g = .lit (.bool b') ∧ if b' = b then yes else no

def wps (P : Program) (dr : Bool) (c0 : Nat) : List VO → VS → (VS → Prop) → Prop
  | [], S, K => K S
  | ⟨d, op, none⟩ :: r, S, K => opS P dr c0 op d S (fun S => wps P dr c0 r S K)
  | ⟨d, op, some (t, b)⟩ :: r, S, K => guardS (S.ρ t) b (opS P dr c0 op d S (fun S => wps P dr c0 r S K)) (wps P dr c0 r ⟨updo S.ρ d (.tup []), S.σ, S.c⟩ K)

theorem opS_eff {P : Program} {dr : Bool} {c0 : Nat} {op : VOp} {d : Option Nat} {S : VS} {k : VS → Prop} (h : opS P dr c0 op d S k) : effS P dr c0 op d S k := by
  unfold opS at h
  split at h
  · obtain ⟨v, h, hk⟩ := h; exact ⟨v, _, _, none, .pure (sbin_vbin h), hk⟩
  · obtain ⟨v, h, hk⟩ := h
    refine ⟨v, _, _, none, .pure ?_, hk⟩
    rename_i t x
    have : ∀ y : V, sconv t y = some v → (match y with | .lit (.int _ n) => some (V.int t (t.wrap n)) | _ => none) = some v := by
      intro y hy
      unfold sconv at hy
      split at hy
      · split at hy
        · split at hy <;> cases hy
          rename_i g
          have e : ((Int.toNat _ : Nat) : Int) = _ := Int.toNat_of_nonneg g.1
          simp only [e]
          rw [wrap_u64 g.1 g.2]
          exact congrArg some (congrArg V.lit (congrArg (Value.int .u64) e.symm))
        · split at hy <;> cases hy
          rename_i g
          simp only
          rw [wrap_i64 g.1 g.2]
        · exact hy
      · split at hy
        · split at hy <;> cases hy
          rename_i g
          simp only
          rw [wrap_i64 g.1 g.2]
        · exact hy
      · exact hy
      · cases hy
    exact this _ h
  · obtain ⟨v, h, hk⟩ := h; exact ⟨v, _, _, none, .load h, hk⟩
  · split at h
    · obtain ⟨σ', h, hk⟩ := h; exact ⟨_, _, _, none, .store h, hk⟩
    · cases h
  · split at h
    · obtain ⟨v, h, hk⟩ := h; exact ⟨v, _, _, none, .pure h, hk⟩
    · exact h

theorem wps_wpr {P : Program} {dr : Bool} {c0 : Nat} {l : List VO} {S : VS} {K : VS → Prop} (h : wps P dr c0 l S K) : wpr P dr c0 l S K := by
  induction l generalizing S with
  | nil => exact wpr_nil h
  | cons o r ih =>
    obtain ⟨d, op, g⟩ := o
    cases g with
    | none =>
      obtain ⟨v, σ', c', kt, h, hk⟩ := opS_eff h
      exact wpr_eff ⟨v, σ', c', kt, h, ih hk⟩
    | some g =>
      obtain ⟨t, b⟩ := g
      rcases h with ⟨hg, h⟩ | ⟨b', hg, h⟩
      · exact wpr_guard (.inl ⟨hg, ih h⟩)
      refine wpr_guard (.inr ⟨b', hg, fun e => ?_, fun e => ?_⟩)
      · rw [if_pos e] at h
        obtain ⟨v, σ', c', kt, h, hk⟩ := opS_eff h
        exact ⟨v, σ', c', kt, h, ih hk⟩
      · rw [if_neg e] at h
        exact ih h

/-! ### the equations -/
def letS (P : Program) (dr : Bool) (c0 : Nat) (a : Option V) (i : Nat) (ρ : Nat → V) (σ : Nat → Option Blk) (c : Nat) (r : List VO) (K : VS → Prop) : Prop := ∃ v, a = some v ∧ wps P dr c0 r ⟨upd ρ i v, σ, c⟩ K
def movS (P : Program) (dr : Bool) (c0 : Nat) (v : V) (i : Nat) (ρ : Nat → V) (σ : Nat → Option Blk) (c : Nat) (r : List VO) (K : VS → Prop) : Prop := wps P dr c0 r ⟨upd ρ i v, σ, c⟩ K
def putS (P : Program) (dr : Bool) (c0 : Nat) (a : Option (Nat → Option Blk)) (ρ : Nat → V) (c : Nat) (r : List VO) (K : VS → Prop) : Prop := ∃ σ, a = some σ ∧ wps P dr c0 r ⟨ρ, σ, c⟩ K
def whenS (P : Program) (dr : Bool) (c0 : Nat) (g : V) (b : Bool) (i : Nat) (op : VOp) (ρ : Nat → V) (σ : Nat → Option Blk) (c : Nat) (r : List VO) (K : VS → Prop) : Prop := guardS g b (wps P dr c0 (⟨some i, op, none⟩ :: r) ⟨ρ, σ, c⟩ K) (wps P dr c0 r ⟨upd ρ i (.tup []), σ, c⟩ K)
def vpick (c a b : V) : Option V := match c with | .lit (.bool t) => some (if t then a else b) | _ => none
def vext (i : Nat) : V → Option V | .tup l => l[i]? | _ => none
section
variable {P : Program} {dr : Bool} {c0 : Nat} {S : VS} {r : List VO} {K : VS → Prop} {d : Option Nat} {i c : Nat} {ρ : Nat → V} {σ : Nat → Option Blk}
theorem s_nil : wps P dr c0 [] S K = K S := Eq.trans rfl rfl
theorem s_guard {op : VOp} {t : Nat} {b : Bool} : wps P dr c0 (⟨some i, op, some (t, b)⟩ :: r) ⟨ρ, σ, c⟩ K = whenS P dr c0 (ρ t) b i op ρ σ c r K := Eq.trans rfl rfl
theorem guardS_bool {b b' : Bool} {p q : Prop} : guardS (.lit (.bool b)) b' p q = if b = b' then p else q := by
  refine propext ⟨?_, fun h => .inr ⟨b, rfl, h⟩⟩
  rintro (⟨e, _⟩ | ⟨b1, e, h⟩)
  · cases e
  · cases e
    exact h
theorem guardS_none {b' : Bool} {p q : Prop} : guardS (.tup []) b' p q = q := by
  refine propext ⟨?_, fun h => .inl ⟨rfl, h⟩⟩
  rintro (⟨_, h⟩ | ⟨b1, e, _⟩)
  · exact h
  · cases e
theorem g_tt {op : VOp} : whenS P dr c0 (.lit (.bool true)) true i op ρ σ c r K = wps P dr c0 (⟨some i, op, none⟩ :: r) ⟨ρ, σ, c⟩ K := guardS_bool.trans (if_pos rfl)
theorem g_tf {op : VOp} : whenS P dr c0 (.lit (.bool true)) false i op ρ σ c r K = wps P dr c0 r ⟨upd ρ i (.tup []), σ, c⟩ K := guardS_bool.trans (if_neg (by decide))
theorem g_ft {op : VOp} : whenS P dr c0 (.lit (.bool false)) true i op ρ σ c r K = wps P dr c0 r ⟨upd ρ i (.tup []), σ, c⟩ K := guardS_bool.trans (if_neg (by decide))
theorem g_ff {op : VOp} : whenS P dr c0 (.lit (.bool false)) false i op ρ σ c r K = wps P dr c0 (⟨some i, op, none⟩ :: r) ⟨ρ, σ, c⟩ K := guardS_bool.trans (if_pos rfl)
theorem g_no {b : Bool} {op : VOp} : whenS P dr c0 (.tup []) b i op ρ σ c r K = wps P dr c0 r ⟨upd ρ i (.tup []), σ, c⟩ K := guardS_none
theorem whenS_congr {a a' : V} {b : Bool} {op : VOp} (h : a = a') : whenS P dr c0 a b i op ρ σ c r K = whenS P dr c0 a' b i op ρ σ c r K := by rw [h]
theorem s_mov {x : X} : wps P dr c0 (⟨some i, .mov x, none⟩ :: r) ⟨ρ, σ, c⟩ K = movS P dr c0 (x.ev ρ) i ρ σ c r K := by
  simp [wps, opS, VOp.isPure, stepS, vpure, movS, updo]
theorem s_pick {x y z : X} : wps P dr c0 (⟨some i, .pick x y z, none⟩ :: r) ⟨ρ, σ, c⟩ K = letS P dr c0 (vpick (x.ev ρ) (y.ev ρ) (z.ev ρ)) i ρ σ c r K := Eq.trans rfl rfl
theorem s_bin {op : BinOp} {b : Bool} {x y : X} : wps P dr c0 (⟨some i, .bin op b x y, none⟩ :: r) ⟨ρ, σ, c⟩ K = letS P dr c0 (sbin op b (x.ev ρ) (y.ev ρ)) i ρ σ c r K := Eq.trans rfl rfl
theorem s_conv {t : IntKind} {x : X} : wps P dr c0 (⟨some i, .conv t x, none⟩ :: r) ⟨ρ, σ, c⟩ K = letS P dr c0 (sconv t (x.ev ρ)) i ρ σ c r K := Eq.trans rfl rfl
theorem s_un {op : UnOp} {x : X} : wps P dr c0 (⟨some i, .un op x, none⟩ :: r) ⟨ρ, σ, c⟩ K = letS P dr c0 (vun op (x.ev ρ)) i ρ σ c r K := Eq.trans rfl rfl
theorem s_len {x : X} : wps P dr c0 (⟨some i, .len x, none⟩ :: r) ⟨ρ, σ, c⟩ K = letS P dr c0 (vlen (x.ev ρ)) i ρ σ c r K := Eq.trans rfl rfl
theorem s_ixa {sz : Nat} {x y : X} : wps P dr c0 (⟨some i, .ixa sz x y, none⟩ :: r) ⟨ρ, σ, c⟩ K = letS P dr c0 (vixa sz (x.ev ρ) (y.ev ρ)) i ρ σ c r K := Eq.trans rfl rfl
theorem s_axa {n sz : Nat} {x y : X} : wps P dr c0 (⟨some i, .axa n sz x y, none⟩ :: r) ⟨ρ, σ, c⟩ K = letS P dr c0 (vaxa n sz (x.ev ρ) (y.ev ρ)) i ρ σ c r K := Eq.trans rfl rfl
theorem s_aix {n sz : Nat} {ag : Option Nat} {x y : X} : wps P dr c0 (⟨some i, .aix n sz ag x y, none⟩ :: r) ⟨ρ, σ, c⟩ K = letS P dr c0 (vaix n sz ag (x.ev ρ) (y.ev ρ)) i ρ σ c r K := Eq.trans rfl rfl
theorem s_six {x y : X} : wps P dr c0 (⟨some i, .six x y, none⟩ :: r) ⟨ρ, σ, c⟩ K = letS P dr c0 (vsix (x.ev ρ) (y.ev ρ)) i ρ σ c r K := Eq.trans rfl rfl
theorem s_slc {sz : Nat} {x : X} {lo hi mx : Option X} : wps P dr c0 (⟨some i, .slc sz x lo hi mx, none⟩ :: r) ⟨ρ, σ, c⟩ K = letS P dr c0 (vslc sz (x.ev ρ) (lo.map (X.ev ρ)) (hi.map (X.ev ρ)) (mx.map (X.ev ρ))) i ρ σ c r K := Eq.trans rfl rfl
theorem s_fa {off : Nat} {x : X} : wps P dr c0 (⟨some i, .fa off x, none⟩ :: r) ⟨ρ, σ, c⟩ K = letS P dr c0 (vfa off (x.ev ρ)) i ρ σ c r K := Eq.trans rfl rfl
theorem s_fld {off : Nat} {ag : Option Nat} {x : X} : wps P dr c0 (⟨some i, .fld off ag x, none⟩ :: r) ⟨ρ, σ, c⟩ K = letS P dr c0 (vfld off ag (x.ev ρ)) i ρ σ c r K := Eq.trans rfl rfl
theorem s_build {z : List Value} {ps : List (Nat × Nat × X)} : wps P dr c0 (⟨some i, .build z ps, none⟩ :: r) ⟨ρ, σ, c⟩ K = letS P dr c0 (vbuild z (partsOf (X.ev ρ) ps)) i ρ σ c r K := Eq.trans rfl rfl
theorem s_ext {x : X} {j : Nat} : wps P dr c0 (⟨some i, .ext x j, none⟩ :: r) ⟨ρ, σ, c⟩ K = letS P dr c0 (vext j (x.ev ρ)) i ρ σ c r K := Eq.trans rfl rfl
theorem s_ext64 {sub : Bool} {x y z : X} : wps P dr c0 (⟨some i, .ext64 sub x y z, none⟩ :: r) ⟨ρ, σ, c⟩ K = letS P dr c0 (vext64 sub (x.ev ρ) (y.ev ρ) (z.ev ρ)) i ρ σ c r K := Eq.trans rfl rfl
theorem s_mm {m : Bool} {x y : X} : wps P dr c0 (⟨some i, .mm m x y, none⟩ :: r) ⟨ρ, σ, c⟩ K = letS P dr c0 (vmm m (x.ev ρ) (y.ev ρ)) i ρ σ c r K := Eq.trans rfl rfl
theorem s_load {ag : Option Nat} {x : X} : wps P dr c0 (⟨some i, .load ag x, none⟩ :: r) ⟨ρ, σ, c⟩ K = letS P dr c0 (vload σ ag (x.ev ρ)) i ρ σ c r K := Eq.trans rfl rfl
theorem s_mkf {f : FuncId} : wps P dr c0 (⟨some i, .mkf f, none⟩ :: r) ⟨ρ, σ, c⟩ K = wps P dr c0 r ⟨upd ρ i (.lit (.func (.func f) #[] #[])), σ, c⟩ K := by
  simp [wps, opS, VOp.isPure, stepS, vpure, updo]
theorem s_store {n : Nat} {x y : X} : wps P dr c0 (⟨none, .store n x y, none⟩ :: r) ⟨ρ, σ, c⟩ K = putS P dr c0 (vstore σ n (x.ev ρ) (y.ev ρ)) ρ c r K := Eq.trans rfl rfl
theorem letS_some {v : V} : letS P dr c0 (some v) i ρ σ c r K = wps P dr c0 r ⟨upd ρ i v, σ, c⟩ K := by simp [letS]
theorem letS_if {p : Prop} [Decidable p] {v : V} : letS P dr c0 (if p then some v else none) i ρ σ c r K = (p ∧ wps P dr c0 r ⟨upd ρ i v, σ, c⟩ K) := by
  by_cases h : p <;> simp [h, letS]
theorem letS_congr {a b : Option V} (h : a = b) : letS P dr c0 a i ρ σ c r K = letS P dr c0 b i ρ σ c r K := by rw [h]
theorem movS_eq {v : V} : movS P dr c0 v i ρ σ c r K = wps P dr c0 r ⟨upd ρ i v, σ, c⟩ K := Eq.trans rfl rfl
theorem movS_congr {a b : V} (h : a = b) : movS P dr c0 a i ρ σ c r K = movS P dr c0 b i ρ σ c r K := by rw [h]
theorem putS_some {v : Nat → Option Blk} : putS P dr c0 (some v) ρ c r K = wps P dr c0 r ⟨ρ, v, c⟩ K := by simp [putS]
theorem putS_if {p : Prop} [Decidable p] {v : Nat → Option Blk} : putS P dr c0 (if p then some v else none) ρ c r K = (p ∧ wps P dr c0 r ⟨ρ, v, c⟩ K) := by
  by_cases h : p <;> simp [h, putS]
theorem putS_congr {a b : Option (Nat → Option Blk)} (h : a = b) : putS P dr c0 a ρ c r K = putS P dr c0 b ρ c r K := by rw [h]

/-- a call by its contract -/
theorem s_call {f : FuncId} {xs : List X} {ys : List V} {Q : V → Nat → Prop} (h : VSpec P f c ys Q) (he : xs.map (X.ev ρ) = ys)
    (hk : ∀ v c', c ≤ c' → Q v c' → wps P dr c0 r ⟨updo ρ d v, σ, c'⟩ K) : wps P dr c0 (⟨d, .call f xs, none⟩ :: r) ⟨ρ, σ, c⟩ K := by
  obtain ⟨v, c', h0, h1, h2⟩ := h
  subst he
  show opS P dr c0 (.call f xs) d _ _
  exact ⟨v, _, _, none, .callp h1, hk v c' h0 h2⟩
theorem s_callv {x : X} {f : FuncId} {xs : List X} {ys : List V} {Q : V → Nat → Prop} (hx : x.ev ρ = .lit (.func (.func f) #[] #[])) (hb : ∃ fn b, P.funcs[f]? = some fn ∧ (fn.name == "runtime.NumGoroutine") = false ∧ fn.body = some b)
    (h : VSpec P f c ys Q) (he : xs.map (X.ev ρ) = ys)
    (hk : ∀ v c', c ≤ c' → Q v c' → wps P dr c0 r ⟨updo ρ d v, σ, c'⟩ K) : wps P dr c0 (⟨d, .callv x xs, none⟩ :: r) ⟨ρ, σ, c⟩ K := by
  obtain ⟨v, c', h0, h1, h2⟩ := h
  subst he
  show opS P dr c0 (.callv x xs) d _ _
  exact ⟨v, _, _, none, .callv hx hb h1, hk v c' h0 h2⟩
theorem s_eff {op : VOp} (hp : op.isPure = false) (h1 : ∀ ag x, op ≠ .load ag x) (h2 : ∀ n x y, op ≠ .store n x y) (h : effS P dr c0 op d S fun S => wps P dr c0 r S K) : wps P dr c0 (⟨d, op, none⟩ :: r) S K := by
  show opS P dr c0 op d S _
  unfold opS
  split
  · cases hp
  · cases hp
  · exact absurd rfl (h1 _ _)
  · exact absurd rfl (h2 _ _ _)
  · rw [if_neg (by rw [hp]; decide)]; exact h
end

theorem updo_some (ρ : Nat → V) (i : Nat) (v : V) : updo ρ (some i) v = upd ρ i v := Eq.trans rfl rfl
theorem updo_none (ρ : Nat → V) (v : V) : updo ρ none v = ρ := Eq.trans rfl rfl
theorem ev_t (ρ : Nat → V) (i : Nat) : (X.t i).ev ρ = ρ i := Eq.trans rfl rfl
theorem ev_c (ρ : Nat → V) (v : V) : (X.c v).ev ρ = v := Eq.trans rfl rfl
theorem upd_app (ρ : Nat → V) (i j : Nat) (v : V) : upd ρ i v j = if j = i then v else ρ j := Eq.trans rfl rfl
theorem supd_app (σ : Nat → Option Blk) (i j : Nat) (v : Option Blk) : supd σ i v j = if j = i then v else σ j := Eq.trans rfl rfl
theorem supd_two (σ : Nat → Option Blk) (i : Nat) (v u : Option Blk) : supd (supd σ i v) i u = supd σ i u := by
  funext j; simp only [supd]; split <;> rfl
theorem start_nil (i : Nat) : start [] i = .any := by simp [start]
theorem start_zero (x : V) (l : List V) : start (x :: l) 0 = x := Eq.trans rfl rfl
theorem start_succ (x : V) (l : List V) (i : Nat) : start (x :: l) (i + 1) = start l i := Eq.trans rfl rfl
theorem start_one (x y : V) (l : List V) : start (x :: y :: l) 1 = y := Eq.trans rfl rfl
theorem start_two (x y z : V) (l : List V) : start (x :: y :: z :: l) 2 = z := Eq.trans rfl rfl
theorem start_three (x y z u : V) (l : List V) : start (x :: y :: z :: u :: l) 3 = u := Eq.trans rfl rfl

/-! ### ints and limbs -/
theorem i_add {b : Bool} {x y : Int} : sbin .add b (iv x) (iv y) = if -9223372036854775808 ≤ x + y ∧ x + y < 9223372036854775808 then some (iv (x + y)) else none := Eq.trans rfl rfl
theorem i_sub {b : Bool} {x y : Int} : sbin .sub b (iv x) (iv y) = if -9223372036854775808 ≤ x - y ∧ x - y < 9223372036854775808 then some (iv (x - y)) else none := Eq.trans rfl rfl
theorem i_mul {b : Bool} {x y : Int} : sbin .mul b (iv x) (iv y) = if -9223372036854775808 ≤ x * y ∧ x * y < 9223372036854775808 then some (iv (x * y)) else none := Eq.trans rfl rfl
theorem i_quo {b : Bool} {x y : Int} : sbin .quo b (iv x) (iv y) = if 0 ≤ x ∧ 0 < y ∧ x < 9223372036854775808 then some (iv (x / y)) else none := Eq.trans rfl rfl
theorem i_rem {b : Bool} {x y : Int} : sbin .rem b (iv x) (iv y) = if 0 ≤ x ∧ 0 < y then some (iv (x % y)) else none := Eq.trans rfl rfl
theorem i_eql {b : Bool} {x y : Int} : sbin .eql b (iv x) (iv y) = some (bv (decide (x = y))) := Eq.trans rfl rfl
theorem i_neq {b : Bool} {x y : Int} : sbin .neq b (iv x) (iv y) = some (bv (!decide (x = y))) := Eq.trans rfl rfl
theorem i_lss {b : Bool} {x y : Int} : sbin .lss b (iv x) (iv y) = some (bv (decide (x < y))) := Eq.trans rfl rfl
theorem i_leq {b : Bool} {x y : Int} : sbin .leq b (iv x) (iv y) = some (bv (decide (x ≤ y))) := Eq.trans rfl rfl
theorem i_gtr {b : Bool} {x y : Int} : sbin .gtr b (iv x) (iv y) = some (bv (decide (y < x))) := Eq.trans rfl rfl
theorem i_geq {b : Bool} {x y : Int} : sbin .geq b (iv x) (iv y) = some (bv (decide (y ≤ x))) := Eq.trans rfl rfl

theorem u_add {b : Bool} {x y : Nat} : sbin .add b (nv x) (nv y) = some (nv ((x + y) % 18446744073709551616)) := by
  simp only [sbin, vbin, vint, BinOp.isShift, Bool.false_eq_true, if_false, if_true, Option.map]
  rw [show (x : Int) + (y : Int) = ((x + y : Nat) : Int) by omega, wrap_u64_mod]
theorem u_sub {b : Bool} {x y : Nat} : sbin .sub b (nv x) (nv y) = some (nv ((x + (18446744073709551616 - y % 18446744073709551616)) % 18446744073709551616)) := by
  simp only [sbin, vbin, vint, BinOp.isShift, Bool.false_eq_true, if_false, if_true, Option.map]
  have : IntKind.u64.wrap ((x : Int) - (y : Int)) = (((x + (18446744073709551616 - y % 18446744073709551616)) % 18446744073709551616 : Nat) : Int) := by
    simp only [IntKind.wrap, IntKind.signed, IntKind.bits]
    simp
    omega
  rw [this]
theorem u_mul {b : Bool} {x y : Nat} : sbin .mul b (nv x) (nv y) = some (nv ((x * y) % 18446744073709551616)) := by
  simp only [sbin, vbin, vint, BinOp.isShift, Bool.false_eq_true, if_false, if_true, Option.map]
  rw [← Int.natCast_mul, wrap_u64_mod]
theorem u_quo {b : Bool} {x y : Nat} : sbin .quo b (nv x) (nv y) = if y ≠ 0 then some (nv ((x / y) % 18446744073709551616)) else none := by
  simp only [sbin, vbin, vint, BinOp.isShift, Bool.false_eq_true, if_false, if_true, Option.map]
  by_cases h : y = 0
  · subst h; rfl
  · rw [if_neg (by omega : ¬ (y : Int) = 0), if_pos h, Int.tdiv_eq_ediv_of_nonneg (by omega), ← Int.natCast_ediv, wrap_u64_mod]
theorem u_rem {b : Bool} {x y : Nat} : sbin .rem b (nv x) (nv y) = if y ≠ 0 then some (nv (x % y)) else none := by
  simp only [sbin, vbin, vint, BinOp.isShift, Bool.false_eq_true, if_false, if_true, Option.map]
  by_cases h : y = 0
  · subst h; rfl
  · rw [if_neg (by omega : ¬ (y : Int) = 0), if_pos h, Int.tmod_eq_emod_of_nonneg (by omega), ← Int.natCast_emod]
theorem u_eql {b : Bool} {x y : Nat} : sbin .eql b (nv x) (nv y) = some (bv (decide (x = y))) := by
  simp [sbin, vbin, vint, BinOp.isShift]
  rw [Bool.eq_iff_iff]; simp; omega
theorem u_neq {b : Bool} {x y : Nat} : sbin .neq b (nv x) (nv y) = some (bv (!decide (x = y))) := by
  simp [sbin, vbin, vint, BinOp.isShift]
  rw [Bool.eq_iff_iff]; simp; omega
theorem u_lss {b : Bool} {x y : Nat} : sbin .lss b (nv x) (nv y) = some (bv (decide (x < y))) := by simp [sbin, vbin, vint, BinOp.isShift]
theorem u_leq {b : Bool} {x y : Nat} : sbin .leq b (nv x) (nv y) = some (bv (decide (x ≤ y))) := by simp [sbin, vbin, vint, BinOp.isShift]
theorem u_gtr {b : Bool} {x y : Nat} : sbin .gtr b (nv x) (nv y) = some (bv (decide (y < x))) := by simp [sbin, vbin, vint, BinOp.isShift]
theorem u_geq {b : Bool} {x y : Nat} : sbin .geq b (nv x) (nv y) = some (bv (decide (y ≤ x))) := by simp [sbin, vbin, vint, BinOp.isShift]
theorem u_shl {b : Bool} {x y : Nat} : sbin .shl b (nv x) (nv y) = some (nv ((x * 2 ^ min y 64) % 18446744073709551616)) := by
  simp only [sbin, vbin, vshift, BinOp.isShift, if_true, Option.map]
  rw [if_neg (by omega)]
  simp only [IntKind.bits, Int.toNat_natCast]
  rw [show (x : Int) * 2 ^ min y 64 = ((x * 2 ^ min y 64 : Nat) : Int) by push_cast; rfl, wrap_u64_mod]
theorem u_shr {b : Bool} {x y : Nat} : sbin .shr b (nv x) (nv y) = some (nv (x / 2 ^ min y 64)) := by
  simp only [sbin, vbin, vshift, BinOp.isShift, if_true, Option.map]
  rw [if_neg (by omega)]
  simp only [IntKind.bits, Int.toNat_natCast]
  rw [show Int.fdiv (x : Int) (2 ^ min y 64) = ((x / 2 ^ min y 64 : Nat) : Int) by rw [Int.fdiv_eq_ediv_of_nonneg _ (by apply Int.le_of_lt; apply Int.pow_pos; decide)]; push_cast; rfl]
theorem ui_shl {b : Bool} {x : Nat} {y : Int} : sbin .shl b (nv x) (iv y) = if 0 ≤ y then some (nv ((x * 2 ^ min y.toNat 64) % 18446744073709551616)) else none := by
  by_cases h : 0 ≤ y
  · obtain ⟨n, rfl⟩ := Int.eq_ofNat_of_zero_le h
    rw [if_pos h, Int.toNat_natCast]
    exact u_shl (b := b) (x := x) (y := n)
  · simp only [sbin, vbin, vshift, BinOp.isShift, if_true, Option.map]
    rw [if_neg h, if_pos (by omega)]
theorem ui_shr {b : Bool} {x : Nat} {y : Int} : sbin .shr b (nv x) (iv y) = if 0 ≤ y then some (nv (x / 2 ^ min y.toNat 64)) else none := by
  by_cases h : 0 ≤ y
  · obtain ⟨n, rfl⟩ := Int.eq_ofNat_of_zero_le h
    rw [if_pos h, Int.toNat_natCast]
    exact u_shr (b := b) (x := x) (y := n)
  · simp only [sbin, vbin, vshift, BinOp.isShift, if_true, Option.map]
    rw [if_neg h, if_pos (by omega)]

theorem u_or {b : Bool} {x y : Nat} : sbin .or b (nv x) (nv y) = some (nv ((x % 18446744073709551616) ||| (y % 18446744073709551616))) := by
  have e : (BitVec.ofInt 64 (x : Int) ||| BitVec.ofInt 64 (y : Int)).toNat = (x % 18446744073709551616) ||| (y % 18446744073709551616) := by
    simp only [BitVec.ofInt_natCast, BitVec.toNat_or, BitVec.toNat_ofNat]
  have h : (x % 18446744073709551616) ||| (y % 18446744073709551616) < 18446744073709551616 := Nat.or_lt_two_pow (n := 64) (Nat.mod_lt _ (by decide)) (Nat.mod_lt _ (by decide))
  show some (V.lit (.int .u64 (IntKind.u64.wrap ((BitVec.ofInt 64 (x : Int) ||| BitVec.ofInt 64 (y : Int)).toNat : Int)))) = _
  rw [e, wrap_u64_mod, Nat.mod_eq_of_lt h]
theorem u_and {b : Bool} {x y : Nat} : sbin .and b (nv x) (nv y) = some (nv ((x % 18446744073709551616) &&& (y % 18446744073709551616))) := by
  have e : (BitVec.ofInt 64 (x : Int) &&& BitVec.ofInt 64 (y : Int)).toNat = (x % 18446744073709551616) &&& (y % 18446744073709551616) := by
    simp only [BitVec.ofInt_natCast, BitVec.toNat_and, BitVec.toNat_ofNat]
  have h : (x % 18446744073709551616) &&& (y % 18446744073709551616) < 18446744073709551616 := Nat.and_lt_two_pow (n := 64) _ (Nat.mod_lt _ (by decide))
  show some (V.lit (.int .u64 (IntKind.u64.wrap ((BitVec.ofInt 64 (x : Int) &&& BitVec.ofInt 64 (y : Int)).toNat : Int)))) = _
  rw [e, wrap_u64_mod, Nat.mod_eq_of_lt h]
theorem u_and32 {b : Bool} {x : Nat} : sbin .and b (nv x) (nv 4294967295) = some (nv (x % 4294967296)) := by
  rw [u_and]
  have h := Nat.and_two_pow_sub_one_eq_mod (x % 18446744073709551616) 32
  have e : (x % 18446744073709551616) &&& (4294967295 % 18446744073709551616) = x % 4294967296 := by
    rw [show (4294967295 % 18446744073709551616 : Nat) = 2 ^ 32 - 1 by decide, h]
    omega
  rw [e]
theorem pw32 : 2 ^ min 32 64 = 4294967296 := by decide
theorem pw16 : 2 ^ min 16 64 = 65536 := by decide
theorem pw8 : 2 ^ min 8 64 = 256 := by decide
theorem pw1 : 2 ^ min 1 64 = 2 := by decide
theorem c_iu {n : Int} : sconv .u64 (iv n) = if 0 ≤ n ∧ n < 18446744073709551616 then some (nv n.toNat) else none := Eq.trans rfl rfl
theorem c_ii {n : Int} : sconv .i64 (iv n) = if -9223372036854775808 ≤ n ∧ n < 9223372036854775808 then some (iv n) else none := Eq.trans rfl rfl
theorem c_ui {n : Nat} : sconv .i64 (nv n) = if n < 9223372036854775808 then some (iv n) else none := by
  simp only [sconv]
  by_cases h : n < 9223372036854775808
  · rw [if_pos h, if_pos (by omega)]
  · rw [if_neg h, if_neg (by omega)]
theorem c_uu {n : Nat} : sconv .u64 (nv n) = some (nv (n % 18446744073709551616)) := by simp only [sconv, wrap_u64_mod]

theorem c_u8 {n : Nat} : sconv .u8 (nv n) = some (.lit (.int .u8 ((n % 256 : Nat) : Int))) := by
  simp only [sconv]
  have : IntKind.u8.wrap (n : Int) = ((n % 256 : Nat) : Int) := by
    simp only [IntKind.wrap, IntKind.signed, IntKind.bits]
    simp
  rw [this]
theorem c_8i {n : Nat} (h : n < 256) : sconv .i64 (.lit (.int .u8 (n : Int))) = some (iv n) := by
  simp only [sconv]
  rw [wrap_i64 (by omega) (by omega)]
theorem six_tab {s : ByteArray} {x y : Nat} (h : (s[x]?).map UInt8.toNat = some y) : vsix (.lit (.string s)) (.lit (.int .u8 (x : Int))) = some (.lit (.int .u8 (y : Int))) := by
  simp only [vsix]
  rw [if_pos (by omega), Int.toNat_natCast]
  cases e : s[x]? with
  | none => rw [e] at h; cases h
  | some b =>
    rw [e] at h
    simp only [Option.map] at h ⊢
    cases h
    rfl
theorem e_add {x y z : Nat} : vext64 false (nv x) (nv y) (nv z) = if z ≤ 1 then some (.tup [nv ((x + y + z) % 18446744073709551616), nv ((x + y + z) / 18446744073709551616)]) else none := by
  simp only [vext64]
  by_cases h : z ≤ 1
  · rw [if_pos h, if_pos (by omega)]; simp only [Int.toNat_natCast, Bool.false_eq_true, if_false]
  · rw [if_neg h, if_neg (by omega)]
theorem e_sub {x y z : Nat} : vext64 true (nv x) (nv y) (nv z) = if z ≤ 1 then some (.tup [nv ((x + 18446744073709551616 - y - z) % 18446744073709551616), nv (if x < y + z then 1 else 0)]) else none := by
  simp only [vext64]
  by_cases h : z ≤ 1
  · rw [if_pos h, if_pos (by omega)]; simp only [Int.toNat_natCast, if_true]
  · rw [if_neg h, if_neg (by omega)]
theorem x_0 {a : V} {l : List V} : vext 0 (.tup (a :: l)) = some a := Eq.trans rfl rfl
theorem x_1 {a b : V} {l : List V} : vext 1 (.tup (a :: b :: l)) = some b := Eq.trans rfl rfl
theorem x_2 {a b c : V} {l : List V} : vext 2 (.tup (a :: b :: c :: l)) = some c := Eq.trans rfl rfl
theorem x_3 {a b c e : V} {l : List V} : vext 3 (.tup (a :: b :: c :: e :: l)) = some e := Eq.trans rfl rfl
theorem m_max {x y : Int} : vmm true (iv x) (iv y) = some (iv (max x y)) := by
  simp only [vmm, if_true]
  rw [show (if y > x then y else x) = max x y by omega]
theorem m_min {x y : Int} : vmm false (iv x) (iv y) = some (iv (min x y)) := by
  simp only [vmm, Bool.false_eq_true, if_false]
  rw [show (if y < x then y else x) = min x y by omega]
theorem p_pick {b : Bool} {x y : V} : vpick (bv b) x y = some (if b = true then x else y) := by cases b <;> rfl
theorem n_not {b : Bool} : vun .not (bv b) = some (bv (!b)) := Eq.trans rfl rfl
theorem n_neg {x : Int} : vun .neg (iv x) = some (iv (IntKind.i64.wrap (0 - x))) := Eq.trans rfl rfl

theorem l_nats {t : Tok} {l : List Nat} : vlen (nats t l) = some (iv (l.length : Int)) := by simp [vlen]
theorem l_nil {t : Tok} : vlen (.sl t 1 []) = some (iv 0) := by simp [vlen]
theorem l_buf {t off n sz : Nat} {cap : Option Nat} : vlen (.buf t off n cap sz) = some (iv (n : Int)) := Eq.trans rfl rfl
theorem a_nats {t : Tok} {l : List Nat} {i : Int} : vixa 1 (nats t l) (iv i) = if 0 ≤ i ∧ i.toNat < l.length then some (.eptr (l.map nv) i.toNat) else none := by
  simp [vixa]
theorem a_buf {t off n : Nat} {cap : Option Nat} {i : Int} : vixa 1 (.buf t off n cap 1) (iv i) = if 0 ≤ i ∧ i.toNat < n then some (.ptr t (off + i.toNat)) else none := by
  simp [vixa]
theorem d_nats {σ : Nat → Option Blk} {l : List Nat} {i : Nat} : vload σ none (.eptr (l.map nv) i) = if i < l.length then some (nv (l.getD i 0)) else none := by
  by_cases h : i < l.length <;> simp [vload, vpart, h]
def dload (b : Option Blk) (ag : Option Nat) (off : Nat) : Option V := match b with | some b => vpart b.cells off ag | none => none
theorem d_ptr {σ : Nat → Option Blk} {ag : Option Nat} {t off : Nat} : vload σ ag (.ptr t off) = dload (σ t) ag off := Eq.trans rfl rfl
theorem d_blk {l : List Nat} {i : Nat} : dload (nblk l) none i = if i < l.length then some (nv (l.getD i 0)) else none := by
  by_cases h : i < l.length <;> simp [dload, vpart, h]
def dstore (b : Option Blk) (σ : Nat → Option Blk) (t n off : Nat) (v : V) : Option (Nat → Option Blk) := match v.cells with
  | some cs => match b with | some b => if b.live = true ∧ cs.length = n ∧ off + n ≤ b.cells.length then some (supd σ t (some ⟨putCells b.cells off cs, true⟩)) else none | none => none
  | none => none
theorem t_ptr {σ : Nat → Option Blk} {t off n : Nat} {v : V} : vstore σ n (.ptr t off) v = dstore (σ t) σ t n off v := by
  unfold vstore dstore
  cases v.cells <;> rfl
theorem t_blk {σ : Nat → Option Blk} {l : List Nat} {t i x : Nat} : dstore (nblk l) σ t 1 i (nv x) = if i < l.length then some (supd σ t (nblk (l.set i x))) else none := by
  have e : putCells (l.map nv) i [nv x] = (l.set i x).map nv := by simp [putCells, List.map_set]
  have h0 : dstore (nblk l) σ t 1 i (nv x) = if true = true ∧ [nv x].length = 1 ∧ i + 1 ≤ (l.map nv).length then some (supd σ t (some ⟨putCells (l.map nv) i [nv x], true⟩)) else none := rfl
  rw [h0, e]
  by_cases h : i < l.length
  · rw [if_pos h, if_pos ⟨rfl, rfl, by simp; omega⟩]
  · rw [if_neg h, if_neg (by simp; omega)]

theorem cut0 (t : Tok) : t.cut 0 = t := by cases t <;> rfl
theorem z_h {t : Tok} {l : List Nat} {h : Int} : vslc 1 (nats t l) none (some (iv h)) none = if 0 ≤ h ∧ h ≤ l.length then some (nats t (l.take h.toNat)) else none := by
  simp [vslc, vnum, cut0]
  by_cases g : 0 ≤ h ∧ h ≤ l.length <;> simp [g, List.map_take]
theorem z_l {t : Tok} {l : List Nat} {a : Int} : vslc 1 (nats t l) (some (iv a)) none none = if 0 ≤ a ∧ a ≤ l.length then some (nats (t.cut a) (l.drop a.toNat)) else none := by
  simp [vslc, vnum]
  by_cases g : 0 ≤ a ∧ a ≤ l.length
  · simp only [g, if_true, and_self, List.map_drop]
    show some (V.sl (t.cut a) 1 _) = some (V.sl (t.cut a) 1 (List.map nv (List.drop a.toNat l)))
    rw [List.map_drop, List.take_of_length_le (by simp)]
  · simp only [g, if_false]
theorem z_lh {t : Tok} {l : List Nat} {a h : Int} : vslc 1 (nats t l) (some (iv a)) (some (iv h)) none = if 0 ≤ a ∧ a ≤ h ∧ h ≤ l.length then some (nats (t.cut a) ((l.drop a.toNat).take (h.toNat - a.toNat))) else none := by
  simp [vslc, vnum]
  by_cases g : 0 ≤ a ∧ a ≤ h ∧ h ≤ l.length <;> simp [g, List.map_take, List.map_drop]
theorem z_hm {t : Tok} {l : List Nat} {h m : Int} : vslc 1 (nats t l) none (some (iv h)) (some (iv m)) = if 0 ≤ h ∧ h ≤ m ∧ m ≤ l.length then some (nats t (l.take h.toNat)) else none := by
  simp [vslc, vnum, cut0]
  by_cases g : 0 ≤ h ∧ h ≤ m ∧ m ≤ l.length <;> simp [g, List.map_take]
theorem zb_h {t off n : Nat} {cap : Option Nat} {h : Int} : vslc 1 (.buf t off n cap 1) none (some (iv h)) none = if 0 ≤ h ∧ h ≤ capTop cap n then some (.buf t off h.toNat (newCap none cap ((capTop cap n).toNat)) 1) else none := by
  simp [vslc, vnum]
theorem zb_l {t off n : Nat} {cap : Option Nat} {a : Int} : vslc 1 (.buf t off n cap 1) (some (iv a)) none none = if 0 ≤ a ∧ a ≤ n ∧ (n : Int) ≤ capTop cap n then some (.buf t (off + a.toNat) (n - a.toNat) (newCap none cap ((capTop cap n).toNat - a.toNat)) 1) else none := by
  simp [vslc, vnum]
theorem zb_lh {t off n : Nat} {cap : Option Nat} {a h : Int} : vslc 1 (.buf t off n cap 1) (some (iv a)) (some (iv h)) none = if 0 ≤ a ∧ a ≤ h ∧ h ≤ capTop cap n then some (.buf t (off + a.toNat) (h.toNat - a.toNat) (newCap none cap ((capTop cap n).toNat - a.toNat)) 1) else none := by
  simp [vslc, vnum]

def condS (a : V) (p q : Prop) : Prop := ∃ b, a = bv b ∧ (b = true → p) ∧ (b = false → q)
theorem condS_bool {b : Bool} {p q : Prop} : condS (.lit (.bool b)) p q = ((b = true → p) ∧ (b = false → q)) := by
  cases b <;> simp [condS]
theorem condS_tt {p q : Prop} : condS (.lit (.bool true)) p q = p := by simp [condS]
theorem condS_ff {p q : Prop} : condS (.lit (.bool false)) p q = q := by simp [condS]
theorem condS_dec {t : Prop} [Decidable t] {p q : Prop} : condS (.lit (.bool (decide t))) p q = ((t → p) ∧ (¬ t → q)) := by
  rw [condS_bool]; simp
theorem condS_ndec {t : Prop} [Decidable t] {p q : Prop} : condS (.lit (.bool (!decide t))) p q = ((¬ t → p) ∧ (t → q)) := by
  rw [condS_bool]; simp
theorem condS_congr {a a' : V} {p q : Prop} (h : a = a') : condS a p q = condS a' p q := by rw [h]
attribute [congr] letS_congr movS_congr putS_congr whenS_congr condS_congr

/-! ### make and append -/
section
variable {P : Program} {dr : Bool} {c0 : Nat} {ρ : Nat → V} {σ : Nat → Option Blk} {c i : Nat} {r : List VO} {K : VS → Prop}
theorem rept_nv (n : Nat) : rept [.int .u64 0] n = (List.replicate n 0).map nv := by
  induction n with
  | zero => rfl
  | succ n ih => simp only [rept, ih, List.replicate_succ, List.map_cons]; rfl
theorem s_mk {l q : X} {n m : Nat} (hl : l.ev ρ = iv n) (hq : q.ev ρ = iv m) (h1 : n ≤ m) (h2 : m ≤ 35184372088832)
    (hk : wps P dr c0 r ⟨upd ρ i (.buf c 0 n (some m) 1), supd σ c (nblk (List.replicate m 0)), c + 1⟩ K) : wps P dr c0 (⟨some i, .mk [.int .u64 0] 8 l q, none⟩ :: r) ⟨ρ, σ, c⟩ K := by
  refine s_eff rfl (by intros; exact fun h => by cases h) (by intros; exact fun h => by cases h) ⟨_, _, _, none, .mk hl hq h1 (by omega) (by omega), ?_⟩
  rw [show rept [.int .u64 0] m = (List.replicate m 0).map nv from rept_nv m]
  exact hk
theorem s_app0 {x : X} {t : Tok} {y : X} (h : x.ev ρ = nil1) {l : List Nat} (hy : y.ev ρ = nats t l) (hl : l.length ≤ 17592186044416)
    (h1 : l = [] → wps P dr c0 r ⟨upd ρ i nil1, σ, c⟩ K) (h2 : l ≠ [] → wps P dr c0 r ⟨upd ρ i (.buf c 0 l.length none 1), supd σ c (nblk l), c + 1⟩ K) :
    wps P dr c0 (⟨some i, .app 1 8 [.int .u64 0] x y, none⟩ :: r) ⟨ρ, σ, c⟩ K := by
  have hc : vcells 1 σ (y.ev ρ) = some (l.map nv) := by rw [hy]; cases t <;> rfl
  refine s_eff rfl (by intros; exact fun h => by cases h) (by intros; exact fun h => by cases h) ?_
  by_cases e : l = []
  · subst e
    exact ⟨_, _, _, none, .appNil0 h hc, h1 rfl⟩
  · have : 0 < l.length := List.length_pos_iff.2 e
    exact ⟨_, _, _, none, .appNil h hc (k := l.length) (by simp) this (by omega) (by omega), h2 e⟩
theorem s_bsl1 {x : X} {n : Nat} (h : x.ev ρ = nv n) (hk : wps P dr c0 r ⟨upd ρ i (nats (.id c) [n]), σ, c + 1⟩ K) : wps P dr c0 (⟨some i, .bsl true 1 1 [.int .u64 0] [(0, (1, x))], none⟩ :: r) ⟨ρ, σ, c⟩ K := by
  refine s_eff rfl (by intros; exact fun h => by cases h) (by intros; exact fun h => by cases h) ⟨_, _, _, none, .bsl (cs := [nv n]) ?_, hk⟩
  simp only [partsOf, List.map, h]
  rfl
end

/-! ### code -/
section
variable {P : Program} {c0 : Nat} {S : VS} {Q : VEx → VS → Prop} {x y : VC}
theorem v_reg {dr : Bool} {ops : List VO} (h : wps P dr c0 ops S (thenQ P c0 y Q .normal)) : VWP P c0 (.seq (.region dr ops) y) Q S := vwp_seq (vwp_region (wps_wpr h))
theorem v_last {dr : Bool} {ops : List VO} (h : wps P dr c0 ops S (Q .normal)) : VWP P c0 (.region dr ops) Q S := vwp_region (wps_wpr h)
theorem v_cond {a : X} {p q : VC} (h : condS (a.ev S.ρ) (VWP P c0 p Q S) (VWP P c0 q Q S)) : VWP P c0 (.cond a p q) Q S := by
  obtain ⟨b, e, h1, h2⟩ := h
  exact vwp_cond e h1 h2
theorem v_cut (M : VS → Prop) (h1 : VWP P c0 x (fun e S => e = .normal ∧ M S) S) (h2 : ∀ S, M S → VWP P c0 y Q S) : VWP P c0 (.seq x y) Q S := by
  refine vwp_seq (vwp_mono h1 ?_)
  rintro e S' ⟨rfl, h⟩
  rw [thenQ_normal]
  exact h2 S' h
/-- a loop that ends by its own exit, to what holds there -/
theorem v_loop {id : Nat} {b : VC} (M : VS → Prop) (h1 : VWP P c0 (.loop b) (fun e S => e = .exit id ∧ M S) S) (h2 : ∀ S, M S → VWP P c0 y Q S) : VWP P c0 (.loop b) (blockQ id (thenQ P c0 y Q)) S := by
  refine vwp_mono h1 ?_
  rintro e S' ⟨rfl, h⟩
  rw [blockQ_exit, if_pos rfl, thenQ_normal]
  exact h2 S' h
def loopQ (id : Nat) (M : VS → Prop) (Q : VEx → VS → Prop) : VEx → VS → Prop
  | .exit j, S => j = id ∧ M S
  | .ret, S => Q .ret S
  | .normal, _ => False
theorem loopQ_exit {id j : Nat} {M : VS → Prop} {Q : VEx → VS → Prop} {S : VS} : loopQ id M Q (.exit j) S = (j = id ∧ M S) := Eq.trans rfl rfl
theorem loopQ_ret {id : Nat} {M : VS → Prop} {Q : VEx → VS → Prop} {S : VS} : loopQ id M Q .ret S = Q .ret S := Eq.trans rfl rfl
/-- a loop that ends by its own exit or by a return -/
theorem v_loopR {id : Nat} {b : VC} (M : VS → Prop) (h1 : VWP P c0 (.loop b) (loopQ id M Q) S) (h2 : ∀ S, M S → VWP P c0 y Q S) : VWP P c0 (.loop b) (blockQ id (thenQ P c0 y Q)) S := by
  refine vwp_mono h1 ?_
  intro e S' h
  cases e with
  | normal => exact h.elim
  | exit j =>
    obtain ⟨rfl, h⟩ := h
    rw [blockQ_exit, if_pos rfl, thenQ_normal]
    exact h2 S' h
  | ret => rw [blockQ_ret, thenQ_ret]; exact h
theorem v_cutQ (M : VS → Prop) (h1 : VWP P c0 x (fun e S => e = .normal ∧ M S) S) (h2 : ∀ S, M S → VWP P c0 y Q S) : VWP P c0 x (thenQ P c0 y Q) S := by
  refine vwp_mono h1 ?_
  rintro e S' ⟨rfl, h⟩
  rw [thenQ_normal]
  exact h2 S' h
end

theorem one_sl {t : Tok} {n : Nat} {l : List V} : (V.sl t n l).one = true := rfl
theorem one_lit {v : Value} : (V.lit v).one = true := rfl
section
variable {t a b d : Nat} {Q : V → Nat → Prop} {ρ : Nat → V} {σ : Nat → Option Blk} {c : Nat}
theorem ret_1 : retQ [.tmp t] Q .ret ⟨ρ, σ, c⟩ = ((ρ t).one = true ∧ Q (ρ t) c) := by
  rw [retQ_ret]
  refine propext ⟨?_, fun ⟨h, hq⟩ => ⟨ρ t, by simp [vresult, vresL, vres, h], hq⟩⟩
  rintro ⟨r, h, hq⟩
  by_cases g : (ρ t).one = true
  · simp [vresult, vresL, vres, g] at h; subst h; exact ⟨g, hq⟩
  · simp [vresult, vresL, vres, g] at h
theorem ret_2 : retQ [.tmp t, .tmp a] Q .ret ⟨ρ, σ, c⟩ = (((ρ t).one = true ∧ (ρ a).one = true) ∧ Q (.tup [ρ t, ρ a]) c) := by
  rw [retQ_ret]
  refine propext ⟨?_, fun ⟨⟨h, g⟩, hq⟩ => ⟨_, by simp [vresult, vresL, vres, h, g], hq⟩⟩
  rintro ⟨r, h, hq⟩
  by_cases g : (ρ t).one = true <;> by_cases g' : (ρ a).one = true
  · simp [vresult, vresL, vres, g, g'] at h; subst h; exact ⟨⟨g, g'⟩, hq⟩
  all_goals simp [vresult, vresL, vres, g, g'] at h
theorem ret_3 : retQ [.tmp t, .tmp a, .tmp b] Q .ret ⟨ρ, σ, c⟩ = (((ρ t).one = true ∧ (ρ a).one = true ∧ (ρ b).one = true) ∧ Q (.tup [ρ t, ρ a, ρ b]) c) := by
  rw [retQ_ret]
  refine propext ⟨?_, fun ⟨⟨h, g, g2⟩, hq⟩ => ⟨_, by simp [vresult, vresL, vres, h, g, g2], hq⟩⟩
  rintro ⟨r, h, hq⟩
  by_cases g : (ρ t).one = true <;> by_cases g' : (ρ a).one = true <;> by_cases g2 : (ρ b).one = true
  · simp [vresult, vresL, vres, g, g', g2] at h; subst h; exact ⟨⟨g, g', g2⟩, hq⟩
  all_goals simp [vresult, vresL, vres, g, g', g2] at h
theorem ret_0 : retQ [] Q .ret ⟨ρ, σ, c⟩ = Q (.tup []) c := by
  rw [retQ_ret]
  refine propext ⟨?_, fun hq => ⟨_, by simp [vresult, vresL], hq⟩⟩
  rintro ⟨r, h, hq⟩
  simp [vresult, vresL] at h; subst h; exact hq
theorem ret_n {rs : List VRes} {S : VS} : retQ rs Q .normal S = retQ rs Q .ret S := by rw [retQ_normal, retQ_ret]
end
theorem v_freeze {P : Program} {c0 : Nat} {Q : VEx → VS → Prop} {vc : VC} {ρ : Nat → V} {σ : Nat → Option Blk} {c : Nat} (i : Nat) {t off n : Nat} {cap : Option Nat} {l : List Nat} (hi : ρ i = .buf t off n cap 1) (ht : σ t = nblk l) (h0 : c0 ≤ t) (hb : off + n ≤ l.length)
    (h : VWP P c0 vc Q ⟨upd ρ i (nats (.id t) ((l.drop off).take n)), supd σ t (some ⟨l.map nv, false⟩), c⟩) (hoff : off = 0 := by rfl) : VWP P c0 vc Q ⟨ρ, σ, c⟩ := by
  subst hoff
  refine vwp_freeze i t 0 n 1 cap (l.map nv) hi ht h0 (by simpa using hb) ?_
  have e : ((l.map nv).drop 0).take (n * 1) = ((l.drop 0).take n).map nv := by rw [Nat.mul_one, List.map_take, List.map_drop]
  rw [e]
  exact h
/-- blocks of plain cells -/
def LitB (σ : Nat → Option Blk) : Prop := ∀ u k, σ u = some k → ∀ x ∈ k.cells, ∃ v, x = .lit v
theorem LitB.no : LitB noBlk := fun u k h => by cases h
theorem LitB.put {σ : Nat → Option Blk} (h : LitB σ) (t : Nat) (l : List Nat) (b : Bool) : LitB (supd σ t (some ⟨l.map nv, b⟩)) := by
  intro u k hk x hx
  simp only [supd] at hk
  split at hk
  · cases hk
    obtain ⟨n, _, rfl⟩ := List.mem_map.1 hx
    exact ⟨_, rfl⟩
  · exact h u k hk x hx
theorem thaw_lit (t : Nat) (v : Value) : V.thaw t (.lit v) = .lit v := rfl
theorem thaw_any (t : Nat) : V.thaw t .any = .any := rfl
theorem thaw_nil (t : Nat) (l : List Nat) : V.thaw t (nats .nil l) = nats .nil l := by
  have : V.still t 4 (nats .nil l) = true := by
    simp only [V.still, Tok.apart, Bool.true_and, List.all_eq_true, List.mem_map]
    rintro x ⟨n, _, rfl⟩
    rfl
  simp [V.thaw, this]
theorem beq_no {t u : Nat} (h : u ≠ t) : (!Nat.beq u t) = true := by
  cases e : Nat.beq u t with
  | false => rfl
  | true => exact absurd (Nat.eq_of_beq_eq_true e) h
theorem thaw_sub {t u : Nat} (h : u ≠ t) (l : List Nat) : V.thaw t (nats (.sub u) l) = nats (.sub u) l := by
  have : V.still t 4 (nats (.sub u) l) = true := by
    simp only [V.still, Tok.apart, Bool.and_eq_true, List.all_eq_true, List.mem_map]
    refine ⟨beq_no h, ?_⟩
    rintro x ⟨n, _, rfl⟩
    rfl
  simp [V.thaw, this]
theorem thaw_id {t u : Nat} (h : u ≠ t) (l : List Nat) : V.thaw t (nats (.id u) l) = nats (.id u) l := by
  have : V.still t 4 (nats (.id u) l) = true := by
    simp only [V.still, Tok.apart, Bool.and_eq_true, List.all_eq_true, List.mem_map]
    refine ⟨beq_no h, ?_⟩
    rintro x ⟨n, _, rfl⟩
    rfl
  simp [V.thaw, this]
theorem thaw_buf {t u off n sz : Nat} {cap : Option Nat} : V.thaw t (.buf u off n cap sz) = .buf u off n cap sz := rfl
theorem v_thaw {P : Program} {c0 : Nat} {Q : VEx → VS → Prop} {vc : VC} {ρ : Nat → V} {σ : Nat → Option Blk} {c : Nat} (i : Nat) {t : Nat} {l : List Nat} (hi : ρ i = nats (.id t) l) (h0 : c0 ≤ t) (hl : l ≠ []) (hσ : LitB σ)
    (h : VWP P c0 vc Q ⟨upd (fun j => (ρ j).thaw t) i (.buf t 0 l.length none 1), supd σ t (nblk l), c⟩) : VWP P c0 vc Q ⟨ρ, σ, c⟩ := by
  refine vwp_thaw i t l.length 1 (l.map nv) hi h0 (by simp) (by simpa using hl) (fun x hx => ?_) ?_
  · obtain ⟨n, _, rfl⟩ := List.mem_map.1 hx
    rfl
  · have e : (thawed ⟨ρ, σ, c⟩ i t l.length 1 (l.map nv)) = ⟨upd (fun j => (ρ j).thaw t) i (.buf t 0 l.length none 1), supd σ t (nblk l), c⟩ := by
      simp only [thawed, nblk]
      congr 1
      funext u
      simp only [supd]
      split
      · rfl
      · cases hk : σ u with
        | none => rfl
        | some k =>
          simp only [Option.map]
          have : k.cells.map (V.thaw t) = k.cells := by
            refine (List.map_congr_left fun x hx => ?_).trans (List.map_id _)
            obtain ⟨v, rfl⟩ := hσ u k hk x hx
            rfl
          rw [this]
    rw [e]
    exact h

/-! ### calls that write into buffers of the caller's -/
def VSpecL (P : Program) (f : FuncId) (c : Nat) (σl : Nat → Option Blk) (xs : List V) (Q : V → (Nat → Option Blk) → Nat → Prop) : Prop :=
  ∃ r σ' c', c ≤ c' ∧ VCalls P f c σl xs r σ' c' ∧ (∀ s, σl s = none → σ' s = none) ∧ Q r σ' c'
def retL (rs : List VRes) (Q : V → (Nat → Option Blk) → Nat → Prop) : VEx → VS → Prop
  | .exit _, _ => False
  | _, S => ∃ r, vresult S rs = some r ∧ Q r S.σ S.c
def lentσ (σl σ : Nat → Option Blk) : Nat → Option Blk := fun t => match σl t with | some _ => σ t | none => none
theorem specL_mk {P : Program} (hm : P.follows .mixedOrders = true) {f : FuncId} {fn : Func} {code : Code} {vc : VC} {rs : List VRes} (hf : P.funcs[f]? = some fn) (hb : fn.body = some code) (hvc : resCode P fn.ntmps code = vc) (hrs : resResults P fn.results.toList = some rs)
    {c : Nat} {σl : Nat → Option Blk} {xs : List V} (hn : xs.length ≤ fn.ntmps) {Q : V → (Nat → Option Blk) → Nat → Prop} (h : VWP P c vc (retL rs fun r σ' c' => c ≤ c' ∧ Q r (lentσ σl σ') c') ⟨start xs, σl, c⟩) : VSpecL P f c σl xs Q := by
  obtain ⟨e, S', he, hq⟩ := h
  have key : ∀ r, vresult S' rs = some r → (e = .ret ∨ e = .normal) → VCalls P f c σl xs r (lentσ σl S'.σ) S'.c := fun r hr he' =>
    vcalls_of_exec hm hf hb hvc hrs hn he he' hr (fun t k h => by unfold lentσ at h; split at h; exact h; cases h) (fun t h => by
      unfold lentσ
      cases h' : σl t with
      | none => exact absurd h' h
      | some k => rfl)
  have hno : ∀ s, σl s = none → lentσ σl S'.σ s = none := fun s hs => by unfold lentσ; rw [hs]
  cases e with
  | normal => obtain ⟨r, hr, h1, h2⟩ := hq; exact ⟨r, _, S'.c, h1, key r hr (.inr rfl), hno, h2⟩
  | ret => obtain ⟨r, hr, h1, h2⟩ := hq; exact ⟨r, _, S'.c, h1, key r hr (.inl rfl), hno, h2⟩
  | exit id => exact hq.elim
section
variable {rs : List VRes} {Q : V → (Nat → Option Blk) → Nat → Prop} {ρ : Nat → V} {σ : Nat → Option Blk} {c : Nat} {t : Nat}
theorem retL_n {S : VS} : retL rs Q .normal S = retL rs Q .ret S := Eq.trans rfl rfl
theorem retL_0 : retL [] Q .ret ⟨ρ, σ, c⟩ = Q (.tup []) σ c := by
  refine propext ⟨?_, fun hq => ⟨_, by simp [vresult, vresL], hq⟩⟩
  rintro ⟨r, h, hq⟩
  simp [vresult, vresL] at h; subst h; exact hq
theorem retL_1 : retL [.tmp t] Q .ret ⟨ρ, σ, c⟩ = ((ρ t).one = true ∧ Q (ρ t) σ c) := by
  refine propext ⟨?_, fun ⟨h, hq⟩ => ⟨ρ t, by simp [vresult, vresL, vres, h], hq⟩⟩
  rintro ⟨r, h, hq⟩
  by_cases g : (ρ t).one = true
  · simp [vresult, vresL, vres, g] at h; subst h; exact ⟨g, hq⟩
  · simp [vresult, vresL, vres, g] at h
end
theorem lent_one (t : Nat) (b : Blk) (σ : Nat → Option Blk) : lentσ (supd noBlk t (some b)) σ t = σ t := by simp [lentσ, supd]

section
variable {P : Program} {c0 : Nat} {ρ : Nat → V} {σ : Nat → Option Blk} {c : Nat} {r : List VO} {K : VS → Prop} {d : Option Nat}
/-- a call that is lent one buffer -/
theorem s_call1 {f : FuncId} {xs : List X} {ys : List V} {Q : V → (Nat → Option Blk) → Nat → Prop} (t : Nat) {l : List Nat} (ht : σ t = nblk l) (hfree : ∀ s, c ≤ s → σ s = none)
    (h : VSpecL P f c (supd noBlk t (nblk l)) ys Q) (he : xs.map (X.ev ρ) = ys)
    (hk : ∀ v σ' c', c ≤ c' → Q v σ' c' → wps P false c0 r ⟨updo ρ d v, supd σ t (σ' t), c'⟩ K) : wps P false c0 (⟨d, .call f xs, none⟩ :: r) ⟨ρ, σ, c⟩ K := by
  obtain ⟨v, σ', c', h0, h1, h3, h2⟩ := h
  subst he
  show opS P false c0 (.call f xs) d _ _
  refine ⟨v, _, _, none, .call rfl ?_ h1, ?_⟩
  · intro s k hk'
    simp only [supd] at hk'
    split at hk'
    · rename_i e; subst e; cases hk'; exact ⟨ht, rfl⟩
    · cases hk'
  · have e : joinσ c σ (supd noBlk t (nblk l)) σ' = supd σ t (σ' t) := by
      funext s
      simp only [joinσ, supd]
      by_cases e : s = t
      · subst e; simp
      · simp only [e, if_false]
        by_cases g : c ≤ s
        · have : σ' s = none := h3 s (by simp [supd, e, noBlk])
          simp [g, this, hfree s g]
        · simp [g, noBlk]
    rw [e]
    exact hk v σ' c' h0 h2
theorem putCells_all : ∀ (xs l : List V) (i : Nat), i + xs.length ≤ l.length → putCells l i xs = l.take i ++ xs ++ l.drop (i + xs.length)
  | [], l, i, h => by simp [putCells]
  | x :: xs, l, i, h => by
    simp only [List.length_cons] at h
    rw [putCells, putCells_all xs (l.set i x) (i + 1) (by simp; omega)]
    rw [List.take_succ_eq_append_getElem (by simp; omega), List.take_set_of_le (Nat.le_refl i), List.drop_set_of_lt (by omega)]
    simp
    congr 1
    omega
theorem s_cpy {dr : Bool} {i : Nat} {x y : X} {t n : Nat} {cap : Option Nat} {l a : List Nat} {u : Tok} (hx : x.ev ρ = .buf t 0 n cap 1) (ht : σ t = nblk l) (hy : y.ev ρ = nats u a) (ha : a.length ≤ n) (hn : n ≤ l.length)
    (hk : wps P dr c0 r ⟨upd ρ i (iv a.length), supd σ t (nblk (a ++ l.drop a.length)), c⟩ K) : wps P dr c0 (⟨some i, .cpy 1 x y, none⟩ :: r) ⟨ρ, σ, c⟩ K := by
  have hc : vcells 1 σ (y.ev ρ) = some (a.map nv) := by rw [hy]; cases u <;> rfl
  refine s_eff rfl (by intros; exact fun h => by cases h) (by intros; exact fun h => by cases h) ⟨_, _, _, none, .cpy hx ht hc (m := a.length) (by simp) (by simp; omega), ?_⟩
  have e1 : min a.length n = a.length := Nat.min_eq_left ha
  have e2 : putCells (l.map nv) 0 ((a.map nv).take (min a.length n * 1)) = (a ++ l.drop a.length).map nv := by
    rw [e1, Nat.mul_one, List.take_of_length_le (by simp), putCells_all _ _ _ (by simp; omega)]
    simp [List.map_drop]
  rw [e2, e1]
  exact hk
end
theorem i_shr {b : Bool} {x : Nat} {y : Nat} : sbin .shr b (iv x) (iv y) = some (iv ((x / 2 ^ min y 64 : Nat) : Int)) := by
  show vbin .shr b (iv x) (iv y) = _
  simp only [vbin, vshift, BinOp.isShift, if_true, Option.map]
  rw [if_neg (by omega)]
  simp only [IntKind.bits, Int.toNat_natCast]
  rw [show Int.fdiv (x : Int) (2 ^ min y 64) = ((x / 2 ^ min y 64 : Nat) : Int) by rw [Int.fdiv_eq_ediv_of_nonneg _ (by apply Int.le_of_lt; apply Int.pow_pos; decide)]; push_cast; rfl]
theorem i_and1 {b : Bool} {x : Nat} : sbin .and b (iv x) (iv 1) = some (iv ((x % 2 : Nat) : Int)) := by
  have e : (BitVec.ofInt 64 (x : Int) &&& BitVec.ofInt 64 1).toNat = x % 2 := by
    simp only [BitVec.ofInt_natCast, BitVec.toNat_and, BitVec.toNat_ofNat]
    have h := Nat.and_two_pow_sub_one_eq_mod (x % 2 ^ 64) 1
    show (x % 2 ^ 64) &&& (2 ^ 1 - 1) = _
    rw [h]
    omega
  show some (V.lit (.int .i64 (IntKind.i64.wrap ((BitVec.ofInt 64 (x : Int) &&& BitVec.ofInt 64 1).toNat : Int)))) = _
  rw [e, wrap_i64 (by omega) (by omega)]
/-- the stepping equations, in one -/
theorem vm : type_of% (And.intro @s_nil (And.intro @s_mov (And.intro @s_pick (And.intro @s_bin (And.intro @s_un (And.intro @s_conv (And.intro @s_len (And.intro @s_ixa (And.intro @s_axa (And.intro @s_aix (And.intro @s_six (And.intro @s_slc (And.intro @s_fa (And.intro @s_fld (And.intro @s_ext (And.intro @s_ext64 (And.intro @s_mm (And.intro @s_mkf (And.intro @s_load (And.intro @s_store (And.intro @s_guard (And.intro @g_tt (And.intro @g_tf (And.intro @g_ft (And.intro @g_ff (And.intro @g_no (And.intro @updo_some (And.intro @updo_none (And.intro @ev_t (And.intro @ev_c (And.intro @upd_app (And.intro @supd_app (And.intro @supd_two (And.intro @Int.toNat_natCast (And.intro @Nat.zero_add (And.intro @letS_some (And.intro @letS_if (And.intro @movS_eq (And.intro @putS_some (And.intro @putS_if (And.intro @condS_tt (And.intro @condS_ff (And.intro @condS_dec (And.intro @condS_ndec (And.intro @i_add (And.intro @i_sub (And.intro @i_mul (And.intro @i_quo (And.intro @i_rem (And.intro @i_eql (And.intro @i_neq (And.intro @i_lss (And.intro @i_leq (And.intro @i_gtr (And.intro @i_geq (And.intro @u_add (And.intro @u_sub (And.intro @u_mul (And.intro @u_quo (And.intro @u_rem (And.intro @u_eql (And.intro @u_neq (And.intro @u_lss (And.intro @u_leq (And.intro @u_gtr (And.intro @u_geq (And.intro @u_shl (And.intro @u_shr (And.intro @u_and32 (And.intro @pw32 (And.intro @pw16 (And.intro @pw8 (And.intro @pw1 (And.intro @ui_shl (And.intro @ui_shr (And.intro @c_iu (And.intro @c_ii (And.intro @c_ui (And.intro @c_uu (And.intro @c_u8 (And.intro @e_add (And.intro @e_sub (And.intro @x_0 (And.intro @x_1 (And.intro @x_2 (And.intro @x_3 (And.intro @m_max (And.intro @m_min (And.intro @p_pick (And.intro @n_not (And.intro @l_nats (And.intro @l_nil (And.intro @l_buf (And.intro @a_nats (And.intro @a_buf (And.intro @d_nats (And.intro @d_ptr (And.intro @d_blk (And.intro @t_ptr (And.intro @t_blk (And.intro @z_h (And.intro @z_l (And.intro @z_lh (And.intro @z_hm (And.intro @zb_h (And.intro @zb_l (And.intro @zb_lh (And.intro @start_nil (And.intro @start_zero (And.intro @start_one (And.intro @start_two (And.intro @start_three (And.intro @thenQ_normal (And.intro @thenQ_exit (And.intro @thenQ_ret (And.intro @blockQ_normal (And.intro @blockQ_exit (And.intro @blockQ_ret (And.intro @loopQ_exit (And.intro @loopQ_ret (And.intro @ret_0 (And.intro @ret_1 (And.intro @ret_2 (And.intro @ret_3 (And.intro @ret_n (And.intro @retL_n (And.intro @retL_0 (And.intro @retL_1 (And.intro @lent_one (And.intro @i_shr (And.intro @i_and1 (And.intro @one_sl @one_lit)))))))))))))))))))))))))))))))))))))))))))))))))))))))))))))))))))))))))))))))))))))))))))))))))))))))))))))))))))))))))))))))))))) :=
  (And.intro @s_nil (And.intro @s_mov (And.intro @s_pick (And.intro @s_bin (And.intro @s_un (And.intro @s_conv (And.intro @s_len (And.intro @s_ixa (And.intro @s_axa (And.intro @s_aix (And.intro @s_six (And.intro @s_slc (And.intro @s_fa (And.intro @s_fld (And.intro @s_ext (And.intro @s_ext64 (And.intro @s_mm (And.intro @s_mkf (And.intro @s_load (And.intro @s_store (And.intro @s_guard (And.intro @g_tt (And.intro @g_tf (And.intro @g_ft (And.intro @g_ff (And.intro @g_no (And.intro @updo_some (And.intro @updo_none (And.intro @ev_t (And.intro @ev_c (And.intro @upd_app (And.intro @supd_app (And.intro @supd_two (And.intro @Int.toNat_natCast (And.intro @Nat.zero_add (And.intro @letS_some (And.intro @letS_if (And.intro @movS_eq (And.intro @putS_some (And.intro @putS_if (And.intro @condS_tt (And.intro @condS_ff (And.intro @condS_dec (And.intro @condS_ndec (And.intro @i_add (And.intro @i_sub (And.intro @i_mul (And.intro @i_quo (And.intro @i_rem (And.intro @i_eql (And.intro @i_neq (And.intro @i_lss (And.intro @i_leq (And.intro @i_gtr (And.intro @i_geq (And.intro @u_add (And.intro @u_sub (And.intro @u_mul (And.intro @u_quo (And.intro @u_rem (And.intro @u_eql (And.intro @u_neq (And.intro @u_lss (And.intro @u_leq (And.intro @u_gtr (And.intro @u_geq (And.intro @u_shl (And.intro @u_shr (And.intro @u_and32 (And.intro @pw32 (And.intro @pw16 (And.intro @pw8 (And.intro @pw1 (And.intro @ui_shl (And.intro @ui_shr (And.intro @c_iu (And.intro @c_ii (And.intro @c_ui (And.intro @c_uu (And.intro @c_u8 (And.intro @e_add (And.intro @e_sub (And.intro @x_0 (And.intro @x_1 (And.intro @x_2 (And.intro @x_3 (And.intro @m_max (And.intro @m_min (And.intro @p_pick (And.intro @n_not (And.intro @l_nats (And.intro @l_nil (And.intro @l_buf (And.intro @a_nats (And.intro @a_buf (And.intro @d_nats (And.intro @d_ptr (And.intro @d_blk (And.intro @t_ptr (And.intro @t_blk (And.intro @z_h (And.intro @z_l (And.intro @z_lh (And.intro @z_hm (And.intro @zb_h (And.intro @zb_l (And.intro @zb_lh (And.intro @start_nil (And.intro @start_zero (And.intro @start_one (And.intro @start_two (And.intro @start_three (And.intro @thenQ_normal (And.intro @thenQ_exit (And.intro @thenQ_ret (And.intro @blockQ_normal (And.intro @blockQ_exit (And.intro @blockQ_ret (And.intro @loopQ_exit (And.intro @loopQ_ret (And.intro @ret_0 (And.intro @ret_1 (And.intro @ret_2 (And.intro @ret_3 (And.intro @ret_n (And.intro @retL_n (And.intro @retL_0 (And.intro @retL_1 (And.intro @lent_one (And.intro @i_shr (And.intro @i_and1 (And.intro @one_sl @one_lit))))))))))))))))))))))))))))))))))))))))))))))))))))))))))))))))))))))))))))))))))))))))))))))))))))))))))))))))))))))))))))))))))))
end Go.VM
