import Derived.Test.YtladcfeibpddeabVBase
set_option linter.unusedVariables false
namespace Go.VM
open Go.RowKit

theorem add_add' (a : Addr) (m n : Nat) : (a.add m).add n = a.add (m + n) := by
  unfold Addr.add
  by_cases hm : m = 0 <;> by_cases hn : n = 0 <;> simp [hm, hn, Nat.add_assoc]
theorem add_zero' (a : Addr) : a.add 0 = a := by simp [Addr.add]
theorem add_mk (b o n : Nat) : (⟨b, o, none⟩ : Addr).add n = ⟨b, o + n, none⟩ := by unfold Addr.add; split <;> simp_all
theorem add_block (a : Addr) (n : Nat) : (a.add n).block = a.block := by unfold Addr.add; split <;> rfl

def tokOk (μ : Nat → Nat) (c : Nat) (a : Addr) (room : Nat) : Tok → Prop
  | .nil => False
  | .unk => True
  | .id t => 0 < room → (t < c ∧ μ t = a.block) ∧ a.off = 0 ∧ a.spot = none
  | .sub t => 0 < room → t < c ∧ μ t = a.block

/-- an abstract value that is not written any more, as it lies in memory -/
inductive Rep (w : World) (M : Nat → Prop) (μ : Nat → Nat) (c : Nat) : V → Value → Prop
  | any (u : Value) : Rep w M μ c .any u
  | lit (v : Value) : Rep w M μ c (.lit v) v
  | nil (tk : Tok) (sz : Nat) : Rep w M μ c (.sl tk sz []) (.slice none 0 0)
  | sl (tk : Tok) (sz n cap : Nat) (a : Addr) (l : List V) (vs : Nat → Value) (ht : tokOk μ c a (cap * sz) tk) (hn : l.length = n * sz) (hc : n ≤ cap) (hs : 0 < sz)
      (hM : 0 < cap * sz → M a.block) (hcap : ∀ j, j < cap * sz → w.cell? (a.add j) = some (vs j)) (h1 : ∀ j, j < cap * sz → (vs j).oneCell' = true) (hl : ∀ (j : Nat) (x : V), l[j]? = some x → Rep w M μ c x (vs j)) : Rep w M μ c (.sl tk sz l) (.slice (some a) n cap)
  | agg (l : List V) (cs : Array Value) (hn : cs.size = l.length) (h1 : ∀ (j : Nat) (v : Value), cs[j]? = some v → v.oneCell' = true) (hl : ∀ (j : Nat) (x : V) (v : Value), l[j]? = some x → cs[j]? = some v → Rep w M μ c x v) : Rep w M μ c (.agg l) (.agg cs)
  | tup (l : List V) (cs : Array Value) (hn : cs.size = l.length) (hl : ∀ (j : Nat) (x : V) (v : Value), l[j]? = some x → cs[j]? = some v → Rep w M μ c x v) : Rep w M μ c (.tup l) (.tuple cs)

theorem cell_same {w w' : World} {a : Addr} (h : w'.heap[a.block]? = w.heap[a.block]?) (j : Nat) : w'.cell? (a.add j) = w.cell? (a.add j) := by
  refine World.cell?_of_block ?_
  rw [add_block]; exact h

theorem Rep.mono {w w' : World} {M M' : Nat → Prop} {μ μ' : Nat → Nat} {c c' : Nat} {x : V} {v : Value} (h : Rep w M μ c x v)
    (hw : ∀ b, M b → w'.heap[b]? = w.heap[b]?) (hM : ∀ b, M b → M' b) (hμ : ∀ t, t < c → M (μ t) → μ' t = μ t) (hc : c ≤ c') : Rep w' M' μ' c' x v := by
  induction h with
  | any u => exact .any u
  | lit v => exact .lit v
  | nil tk sz => exact .nil tk sz
  | sl tk sz n cap a l vs ht hn hcp hs hMb hcap h1 hl ih =>
    refine .sl tk sz n cap a l vs ?_ hn hcp hs (fun h => hM _ (hMb h)) (fun j hj => ?_) h1 ih
    · cases tk with
      | nil => exact ht
      | unk => trivial
      | id t => exact fun hr => ⟨⟨Nat.lt_of_lt_of_le (ht hr).1.1 hc, (hμ t (ht hr).1.1 ((ht hr).1.2 ▸ hMb hr)).trans (ht hr).1.2⟩, (ht hr).2⟩
      | sub t => exact fun hr => ⟨Nat.lt_of_lt_of_le (ht hr).1 hc, (hμ t (ht hr).1 ((ht hr).2 ▸ hMb hr)).trans (ht hr).2⟩
    · rw [cell_same (hw _ (hMb (by omega)))]; exact hcap j hj
  | agg l cs hn h1 hl ih => exact .agg l cs hn h1 ih
  | tup l cs hn hl ih => exact .tup l cs hn ih

/-- rows of cells stay, and get no shorter -/
def Grows (w w' : World) : Prop := ∀ (b : Nat) (arr : Array Value) (T : TypeId), w.heap[b]? = some (.cells arr T (0, 0)) → ∃ (arr' : Array Value) (T' : TypeId), w'.heap[b]? = some (.cells arr' T' (0, 0)) ∧ arr.size ≤ arr'.size
theorem Grows.refl (w : World) : Grows w w := fun b arr T h => ⟨arr, T, h, Nat.le_refl _⟩
theorem Grows.trans {a b c : World} (h : Grows a b) (k : Grows b c) : Grows a c := fun i arr T e => by
  obtain ⟨arr', T', e', h1⟩ := h i arr T e
  obtain ⟨arr'', T'', e'', h2⟩ := k i arr' T' e'
  exact ⟨arr'', T'', e'', Nat.le_trans h1 h2⟩

/-- a value in a slot -/
def RepE (w : World) (M : Nat → Prop) (μ : Nat → Nat) (c : Nat) : V → Value → Prop
  | .buf t off n cap sz, u => ∃ cp of', u = .slice (some ⟨μ t, of', none⟩) n cp ∧ (0 < cp → of' = off) ∧ n ≤ cp ∧ t < c ∧ 0 < sz ∧ (match cap with | some k => cp = k | none => True) ∧ ∃ (arr : Array Value) (T : TypeId), w.heap[μ t]? = some (.cells arr T (0, 0)) ∧ of' + cp * sz ≤ arr.size
  | .ptr t off, u => u = .pointer (some ⟨μ t, off, none⟩) ∧ t < c
  | .eptr l i, u => ∃ (a : Addr) (vs : Nat → Value), u = .pointer (some a) ∧ (i < l.length → M a.block) ∧ (∀ j, i + j < l.length → w.cell? (a.add j) = some (vs j) ∧ (vs j).oneCell' = true) ∧ (∀ (j : Nat) (x : V), l[i + j]? = some x → Rep w M μ c x (vs j))
  | x, u => Rep w M μ c x u

theorem RepE.of_one {w : World} {M : Nat → Prop} {μ : Nat → Nat} {c : Nat} {x : V} {u : Value} (h : Rep w M μ c x u) : RepE w M μ c x u := by
  cases h <;> (unfold RepE; first | exact .any _ | exact .lit _ | exact .nil _ _ | (apply Rep.sl <;> assumption) | (apply Rep.agg <;> assumption) | (apply Rep.tup <;> assumption))
theorem RepE.one {w : World} {M : Nat → Prop} {μ : Nat → Nat} {c : Nat} {x : V} {u : Value} (hx : x.one = true) (h : RepE w M μ c x u) : Rep w M μ c x u := by
  cases x <;> first | exact h | cases hx

theorem RepE.mono {w w' : World} {M M' : Nat → Prop} {μ μ' : Nat → Nat} {c c' : Nat} {x : V} {v : Value} (h : RepE w M μ c x v) (hG : Grows w w')
    (hw : ∀ b, M b → w'.heap[b]? = w.heap[b]?) (hM : ∀ b, M b → M' b) (hμ : ∀ t, t < c → μ' t = μ t) (hc : c ≤ c') : RepE w' M' μ' c' x v := by
  cases x with
  | buf t off n cap sz =>
    obtain ⟨cp, of', rfl, h0, h1, h2, h3, h4, arr, T, h5, h6⟩ := h
    obtain ⟨arr', T', h7, h8⟩ := hG _ arr T h5
    exact ⟨cp, of', by rw [hμ t h2], h0, h1, Nat.lt_of_lt_of_le h2 hc, h3, h4, arr', T', by rw [hμ t h2]; exact h7, Nat.le_trans h6 h8⟩
  | ptr t off => obtain ⟨rfl, h2⟩ := h; exact ⟨by rw [hμ t h2], Nat.lt_of_lt_of_le h2 hc⟩
  | eptr l i =>
    obtain ⟨a, vs, rfl, h1, h2, h3⟩ := h
    refine ⟨a, vs, rfl, fun h => hM _ (h1 h), fun j hj => ?_, fun j x hx => (h3 j x hx).mono hw hM (fun t ht _ => hμ t ht) hc⟩
    rw [cell_same (hw _ (h1 (by omega)))]; exact h2 j hj
  | any => exact Rep.mono h hw hM (fun t ht _ => hμ t ht) hc
  | lit _ => exact Rep.mono h hw hM (fun t ht _ => hμ t ht) hc
  | sl _ _ _ => exact Rep.mono h hw hM (fun t ht _ => hμ t ht) hc
  | agg _ => exact Rep.mono h hw hM (fun t ht _ => hμ t ht) hc
  | tup _ => exact Rep.mono h hw hM (fun t ht _ => hμ t ht) hc

/-- what a call stands in -/
structure Ctx where
  P : Program
  nt : Nat
  w0 : World
  Φ : Nat → Prop
  c0 : Nat
  μ0 : Nat → Nat
  σ0 : Nat → Option Blk

def Ctx.base (F : Ctx) : Nat := F.w0.heap.size

def Live (σ : Nat → Option Blk) (μ : Nat → Nat) (b : Nat) : Prop := ∃ t k, σ t = some k ∧ k.live = true ∧ μ t = b

/-- the blocks that do not turn any more -/
def Ctx.M (F : Ctx) (σ : Nat → Option Blk) (w : World) (μ : Nat → Nat) (b : Nat) : Prop :=
  (b < F.base ∧ F.Φ b) ∨ (F.base ≤ b ∧ b < w.heap.size ∧ ¬ Live σ μ b)

structure Moved (F : Ctx) (w : World) : Prop where
  os : w.os = F.w0.os
  tape : w.tape = F.w0.tape
  output : w.output = F.w0.output
  size : F.base ≤ w.heap.size
  grows : Grows F.w0 w
  block : ∀ b, b < F.base → (∀ t, F.σ0 t ≠ none → F.μ0 t ≠ b) → w.heap[b]? = F.w0.heap[b]?

/-- a block that is as 'make' lays it, its first cells known -/
def HasBlk (w : World) (M : Nat → Prop) (μ : Nat → Nat) (c : Nat) (b : Nat) (cells : List V) : Prop :=
  ∃ arr T, w.heap[b]? = some (.cells arr T (0, 0)) ∧ cells.length ≤ arr.size ∧ (∀ (i : Nat) (v : Value), arr[i]? = some v → v.oneCell' = true) ∧ ∀ (i : Nat) (x : V) (v : Value), cells[i]? = some x → arr[i]? = some v → Rep w M μ c x v

structure Good (F : Ctx) : Prop where
  apart : ∀ t, F.σ0 t ≠ none → ¬ F.Φ (F.μ0 t)
  lt : ∀ t, F.σ0 t ≠ none → t < F.c0 ∧ F.μ0 t < F.base
  inj : ∀ t t', F.σ0 t ≠ none → F.σ0 t' ≠ none → F.μ0 t = F.μ0 t' → t = t'
  low : ∀ t, t < F.c0 → F.μ0 t < F.base

/-- memory as the abstract state tells it -/
structure Mem (F : Ctx) (σ : Nat → Option Blk) (c : Nat) (w : World) (μ : Nat → Nat) : Prop where
  good : Good F
  moved : Moved F w
  c0 : F.c0 ≤ c
  mu0 : ∀ t, t < F.c0 → μ t = F.μ0 t
  tok : ∀ t, F.c0 ≤ t → t < c → F.base ≤ μ t ∧ μ t < w.heap.size ∧ ∃ arr T, w.heap[μ t]? = some (.cells arr T (0, 0)) ∧ ∀ (i : Nat) (v : Value), arr[i]? = some v → v.oneCell' = true
  inj : ∀ t t', F.c0 ≤ t → t < c → F.c0 ≤ t' → t' < c → μ t = μ t' → t = t'
  dom : ∀ t k, σ t = some k → (F.c0 ≤ t ∧ t < c) ∨ (t < F.c0 ∧ F.σ0 t ≠ none ∧ k.live = true)
  lent : ∀ t, F.σ0 t ≠ none → ∃ k, σ t = some k
  blk : ∀ t k, σ t = some k → HasBlk w (F.M σ w μ) μ c (μ t) k.cells

structure Inv (F : Ctx) (S : VS) (a : Act) (w : World) (μ : Nat → Nat) : Prop where
  size : a.tmps.size = F.nt
  defers : a.defers = []
  mem : Mem F S.σ S.c w μ
  env : ∀ i, RepE w (F.M S.σ w μ) μ S.c (S.ρ i) (a.tmps.getD i undef)

theorem Mem.muinj {F : Ctx} {σ : Nat → Option Blk} {c : Nat} {w : World} {μ : Nat → Nat} (h : Mem F σ c w μ) {t t' : Nat} {k k' : Blk} (ht : σ t = some k) (ht' : σ t' = some k') (e : μ t = μ t') : t = t' := by
  rcases h.dom t k ht with ⟨h1, h2⟩ | ⟨h1, h2, _⟩ <;> rcases h.dom t' k' ht' with ⟨h1', h2'⟩ | ⟨h1', h2', _⟩
  · exact h.inj t t' h1 h2 h1' h2' e
  · have := (h.tok t h1 h2).1; have := (h.good.lt t' h2').2; have := h.mu0 t' h1'; omega
  · have := (h.tok t' h1' h2').1; have := (h.good.lt t h2).2; have := h.mu0 t h1; omega
  · rw [h.mu0 t h1, h.mu0 t' h1'] at e; exact h.good.inj t t' h2 h2' e

theorem Mem.lt {F : Ctx} {σ : Nat → Option Blk} {c : Nat} {w : World} {μ : Nat → Nat} (h : Mem F σ c w μ) {t : Nat} {k : Blk} (ht : σ t = some k) : t < c ∧ μ t < w.heap.size := by
  rcases h.dom t k ht with ⟨h1, h2⟩ | ⟨h1, h2, _⟩
  · exact ⟨h2, (h.tok t h1 h2).2.1⟩
  · have := (h.good.lt t h2).2; have := h.mu0 t h1; have := h.moved.size; have := h.c0; exact ⟨by omega, by omega⟩

theorem Mem.notM {F : Ctx} {σ : Nat → Option Blk} {c : Nat} {w : World} {μ : Nat → Nat} (h : Mem F σ c w μ) {t : Nat} {k : Blk} (ht : σ t = some k) (hl : k.live = true) : ¬ F.M σ w μ (μ t) := by
  rintro (⟨h1, h2⟩ | ⟨_, _, h3⟩)
  · rcases h.dom t k ht with ⟨h4, h5⟩ | ⟨h4, h5, _⟩
    · have := (h.tok t h4 h5).1; omega
    · rw [h.mu0 t h4] at h2; exact h.good.apart t h5 h2
  · exact h3 ⟨t, k, ht, hl, rfl⟩

theorem Mem.isM {F : Ctx} {σ : Nat → Option Blk} {c : Nat} {w : World} {μ : Nat → Nat} (h : Mem F σ c w μ) {t : Nat} {k : Blk} (ht : σ t = some k) (hl : k.live = false) : F.M σ w μ (μ t) := by
  rcases h.dom t k ht with ⟨h1, h2⟩ | ⟨_, _, h3⟩
  · refine .inr ⟨(h.tok t h1 h2).1, (h.tok t h1 h2).2.1, ?_⟩
    rintro ⟨t', k', ht', hl', e⟩
    have := h.muinj ht ht' e.symm
    subst this
    rw [ht] at ht'; cases ht'; rw [hl] at hl'; cases hl'
  · rw [hl] at h3; cases h3

theorem Mem.M_lt {F : Ctx} {σ : Nat → Option Blk} {c : Nat} {w : World} {μ : Nat → Nat} (h : Mem F σ c w μ) {b : Nat} (hb : F.M σ w μ b) : b < w.heap.size := by
  rcases hb with ⟨h1, _⟩ | ⟨_, h2, _⟩
  · have := h.moved.size; omega
  · exact h2

/-- a slot is written -/
theorem Inv.put {F : Ctx} {S : VS} {a : Act} {w : World} {μ : Nat → Nat} (h : Inv F S a w μ) (d : Option Nat) (hd : ∀ i, d = some i → i < F.nt) {v : V} {u : Value} (hv : RepE w (F.M S.σ w μ) μ S.c v u) :
    Inv F ⟨updo S.ρ d v, S.σ, S.c⟩ (a.put d u) w μ := by
  cases d with
  | none => exact ⟨h.size, h.defers, h.mem, h.env⟩
  | some i =>
    have hi := hd i rfl
    refine ⟨by simp [Act.put, h.size], h.defers, h.mem, fun j => ?_⟩
    simp only [updo, Act.put, upd]
    by_cases e : j = i
    · subst e
      rw [if_pos rfl]
      have : (a.tmps.setIfInBounds j u).getD j undef = u := by simp [Array.getD_eq_getD_getElem?, h.size, hi]
      rw [this]; exact hv
    · rw [if_neg e]
      have : (a.tmps.setIfInBounds i u).getD j undef = a.tmps.getD j undef := by
        simp [Array.getD_eq_getD_getElem?, Array.getElem?_setIfInBounds_ne (Ne.symm e)]
      rw [this]; exact h.env j

/-- everything goes over into a later memory -/
theorem Inv.later {F : Ctx} {S : VS} {a : Act} {w w' : World} {μ μ' : Nat → Nat} {σ' : Nat → Option Blk} {c' : Nat} (h : Inv F S a w μ) (hm : Mem F σ' c' w' μ') (hG : Grows w w')
    (hw : ∀ b, F.M S.σ w μ b → w'.heap[b]? = w.heap[b]?) (hM : ∀ b, F.M S.σ w μ b → F.M σ' w' μ' b) (hμ : ∀ t, t < S.c → μ' t = μ t) (hc : S.c ≤ c') :
    Inv F ⟨S.ρ, σ', c'⟩ a w' μ' :=
  ⟨h.size, h.defers, hm, fun i => (h.env i).mono hG hw hM hμ hc⟩

end Go.VM
