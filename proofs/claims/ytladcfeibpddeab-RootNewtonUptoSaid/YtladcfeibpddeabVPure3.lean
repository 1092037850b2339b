import Derived.Test.YtladcfeibpddeabVPure2
import Derived.Great.BuildSlice
set_option linter.unusedVariables false
set_option linter.unusedSimpArgs false
namespace Go.VM
open Go.RowKit

variable {w : World} {M : Nat → Prop} {μ : Nat → Nat} {c : Nat}

def RepL (w : World) (M : Nat → Prop) (μ : Nat → Nat) (c : Nat) (l : List V) (arr : Array Value) : Prop :=
  arr.size = l.length ∧ (∀ (j : Nat) (v : Value), arr[j]? = some v → v.oneCell' = true) ∧ ∀ (j : Nat) (x : V) (v : Value), l[j]? = some x → arr[j]? = some v → Rep w M μ c x v

theorem RepL.set {l : List V} {arr : Array Value} (h : RepL w M μ c l arr) (i : Nat) {x : V} {v : Value} (hx : Rep w M μ c x v) (hv : v.oneCell' = true) : RepL w M μ c (l.set i x) (arr.setIfInBounds i v) := by
  refine ⟨by simp [h.1], fun j u hu => ?_, fun j y u hy hu => ?_⟩
  · rw [Array.getElem?_setIfInBounds] at hu
    split at hu
    · split at hu
      · cases hu; exact hv
      · cases hu
    · exact h.2.1 j u hu
  rw [List.getElem?_set] at hy
  rw [Array.getElem?_setIfInBounds] at hu
  split at hy
  · rename_i e; subst e
    rw [if_pos rfl] at hu
    split at hy
    · split at hu
      · cases hy; cases hu; exact hx
      · cases hu
    · cases hy
  · rename_i e
    rw [if_neg e] at hu
    exact h.2.2 j y u hy hu

theorem vcells_rep {x : V} {xs : List V} (h : x.cells = some xs) {u : Value} (hx : RepE w M μ c x u) : RepL w M μ c xs u.cells := by
  have one : ∀ {x : V} {u : Value}, RepE w M μ c x u → x.one = true → u.cells = #[u] → u.oneCell' = true → RepL w M μ c [x] u.cells := by
    intro x u hx h1 hu h1c
    rw [hu]
    refine ⟨rfl, fun j v hv => ?_, fun j y v hy hv => ?_⟩
    · cases j with
      | zero => simp at hv; subst hv; exact h1c
      | succ j => simp at hv
    cases j with
    | zero => simp at hy hv; subst hy hv; exact hx.one h1
    | succ j => simp at hy
  cases x with
  | lit v =>
    have e := repE_lit hx
    subst e
    cases u <;> simp [V.cells] at h <;> subst h <;> exact one hx rfl rfl rfl
  | sl t sz l =>
    simp [V.cells] at h; subst h
    have hx' : Rep w M μ c (.sl t sz l) u := hx
    refine one hx rfl ?_ ?_ <;> cases hx' <;> rfl
  | agg l =>
    simp [V.cells] at h; subst h
    obtain ⟨cs, rfl, hn, h1c, hl⟩ := repE_agg hx
    exact ⟨hn, h1c, hl⟩
  | _ => simp [V.cells] at h

theorem putCells_length (xs : List V) : ∀ (l : List V) (i : Nat), (putCells l i xs).length = l.length := by
  induction xs with
  | nil => intro l i; rfl
  | cons x xs ih => intro l i; simp [putCells, ih]

theorem foldSet (off : Nat) : ∀ (vs : List Value) (k : Nat) (xs : List V) (l : List V) (arr : Array Value), RepL w M μ c l arr → vs.length = xs.length → (∀ v ∈ vs, v.oneCell' = true) → (∀ (j : Nat) (x : V) (v : Value), xs[j]? = some x → vs[j]? = some v → Rep w M μ c x v) →
    RepL w M μ c (putCells l (off + k) xs) ((vs.zipIdx k).foldl (fun cs (p : Value × Nat) => cs.setIfInBounds (off + p.2) p.1) arr)
  | [], k, xs, l, arr, h, hn, _, _ => by
    have : xs = [] := List.eq_nil_of_length_eq_zero (by simpa using hn.symm)
    subst this; simpa [putCells] using h
  | v :: vs, k, [], l, arr, h, hn, _, _ => by simp at hn
  | v :: vs, k, x :: xs, l, arr, h, hn, h1, hx => by
    simp only [List.zipIdx_cons, List.foldl_cons, putCells]
    exact foldSet off vs (k + 1) xs _ _ (h.set _ (hx 0 x v rfl rfl) (h1 v (by simp))) (by simpa using hn) (fun v hv => h1 v (by simp [hv])) fun j y u hy hu => hx (j + 1) y u hy hu

def partsOf (e : X → V) (ps : List (Nat × Nat × X)) : List (Nat × Nat × V) := ps.map fun p => (p.1, p.2.1, e p.2.2)

theorem run_fill {place : Nat → Option (Nat × Nat)} {e : X → V} {ev : Operand → Value} (he : ∀ o x, resX o = some x → RepE w M μ c (e x) (ev o)) : ∀ (ps : List (Nat × Operand)) (rs : List (Nat × Nat × X)) (l l' : List V) (arr : Array Value), resP place ps = some rs →
    vfill l (partsOf e rs) = some l' → RepL w M μ c l arr → ∃ arr', Instr.fill place arr (ps.map fun p => (p.1, ev p.2)) = some arr' ∧ RepL w M μ c l' arr'
  | [], rs, l, l', arr, hr, hv, h => by
    simp [resP] at hr; subst hr
    simp [partsOf, vfill] at hv; subst hv
    exact ⟨arr, rfl, h⟩
  | (i, o) :: ps, rs, l, l', arr, hr, hv, h => by
    simp only [resP] at hr
    split at hr
    · rename_i off n x r hp hx hrest
      cases hr
      simp only [partsOf, List.map_cons, vfill] at hv
      split at hv
      · rename_i xs hxs
        split at hv
        · rename_i hb
          obtain ⟨hb1, hb2⟩ := hb
          have hc := vcells_rep hxs (he o x hx)
          have hl := hc.1
          have key := foldSet (w := w) (M := M) (μ := μ) (c := c) off (ev o).cells.toList 0 xs l arr h (by simpa using hl) (fun v hv => by obtain ⟨j, hj⟩ := List.getElem?_of_mem hv; exact hc.2.1 j v (by simpa using hj)) (fun j y u hy hu => hc.2.2 j y u hy (by simpa using hu))
          obtain ⟨arr', h1, h2⟩ := run_fill he ps r _ l' _ hrest hv key
          refine ⟨arr', ?_, h2⟩
          simp only [List.map_cons, Instr.fill, hp]
          rw [if_neg]
          · rw [← h1]
            congr 1
            rw [← Array.foldl_toList]
            simp [Array.toList_zipIdx]
          · have := h.1
            simp; omega
        · cases hv
      · cases hv
    · cases hr

theorem repL_lits (z : List Value) (h1 : ∀ v ∈ z, v.oneCell' = true) : RepL w M μ c (vlits z) z.toArray := by
  refine ⟨by simp [vlits], fun j v hv => h1 v (by simp at hv; exact List.mem_of_getElem? hv), fun j x v hx hv => ?_⟩
  simp [vlits] at hx hv
  obtain ⟨u, hu, rfl⟩ := hx
  rw [hv] at hu; cases hu
  exact rep_cell v

theorem rept_length (z : List Value) (n : Nat) : (rept z n).length = n * z.length := by
  induction n with
  | zero => simp [rept]
  | succ n ih => simp [rept, ih, vlits, Nat.succ_mul]; omega

theorem rept_get (z : List Value) (hz : 0 < z.length) : ∀ (n j : Nat) (x : V), (rept z n)[j]? = some x → ∃ v, z[j % z.length]? = some v ∧ x = ofCell v := by
  intro n
  induction n with
  | zero => intro j x h; simp [rept] at h
  | succ n ih =>
    intro j x h
    simp only [rept] at h
    rw [List.getElem?_append] at h
    split at h
    · rename_i hj
      simp [vlits] at hj h
      obtain ⟨v, hv, rfl⟩ := h
      exact ⟨v, by rw [Nat.mod_eq_of_lt hj]; exact hv, rfl⟩
    · rename_i hj
      simp [vlits] at hj h
      obtain ⟨v, hv, rfl⟩ := ih _ x h
      refine ⟨v, ?_, rfl⟩
      rw [← hv]
      congr 1
      rw [← Nat.mod_eq_sub_mod hj]

theorem repL_rept (z : Array Value) (hz : 0 < z.size) (h1 : z.all (·.oneCell') = true) (n : Nat) : RepL w M μ c (rept z.toList n) (madeCells z (n * z.size)) := by
  refine ⟨by simp [size_madeCells, rept_length], fun j v hv => ?_, fun j x v hx hv => ?_⟩
  · have hj : j < n * z.size := by
      have := (Array.getElem?_eq_some_iff.1 hv).1; simpa [size_madeCells] using this
    simp [madeCells, hj] at hv
    have hm : j % z.size < z.size := Nat.mod_lt _ hz
    rw [getElem!_pos z _ hm] at hv
    rw [← hv]
    exact Array.all_eq_true_iff_forall_mem.1 h1 _ (Array.getElem_mem hm)
  obtain ⟨u, hu, rfl⟩ := rept_get z.toList (by simpa using hz) n j x hx
  have : v = u := by
    have hj : j < n * z.size := by
      have := (List.getElem?_eq_some_iff.1 hx).1; rw [rept_length] at this; simpa using this
    simp [madeCells, hj] at hv
    simp at hu
    rw [← hv]
    have hm : j % z.size < z.size := Nat.mod_lt _ hz
    rw [getElem!_pos z _ hm]
    rw [Array.getElem?_eq_getElem hm] at hu
    exact Option.some.inj hu
  subst this
  exact rep_cell v
end Go.VM
