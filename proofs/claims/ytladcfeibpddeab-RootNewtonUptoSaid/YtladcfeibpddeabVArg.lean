import Derived.Test.YtladcfeibpddeabVLaw
import Derived.Test.YtladcfeibpddeabDivL
import Derived.ChangeSlices
set_option linter.unusedVariables false
set_option linter.unusedSimpArgs false
set_option maxRecDepth 20000
namespace Go.VM
open Go.RowKit Go.ChangeShapes Go.WideShapes Go.ChangeAt
open Go.Proofs.Ytladcfeibpddeab (Rows.uptoBulk Rows.uptoBulkAll)

theorem bulk_pos {H : Type} (d : DataW H) : 1 ≤ Rows.uptoBulk d := by
  cases d with
  | lit l => cases l <;> simp [Rows.uptoBulk]
  | nil => simp [Rows.uptoBulk]
  | ptr d => simp [Rows.uptoBulk]
  | slice elems spare => simp [Rows.uptoBulk]
  | agg parts => simp [Rows.uptoBulk]
  | iface t d => simp [Rows.uptoBulk]
  | map entries => simp [Rows.uptoBulk]
  | held h => simp [Rows.uptoBulk]
theorem bulk_len {H : Type} (l : List (DataW H)) : l.length ≤ Rows.uptoBulkAll l := by
  induction l with
  | nil => simp [Rows.uptoBulkAll]
  | cons x r ih => have := bulk_pos x; simp only [Rows.uptoBulkAll, List.length_cons]; omega

/-- a list of limbs that came in: as it lies, and that it lies so later too -/
theorem slice_arg {H : Type} {enc : TypeId × Value → H} {P : Program} {t e : TypeId} (ht : P.underlying t = some (.slice e)) (he : P.underlying e = some (.int .u64)) (hc : P.cellsOf e = 1) {W : World} {v : Value} {d : DataW H} {ps : List MemPlace} {r : Reach} {b0 : Nat} (hval : Value.okWide P W r b0 t v)
    (h : DataW.Trod enc P W 0 (fun _ => true) true t v d ps) (hold : ∀ p ∈ ps, p.block < W.heap.size) :
    ∃ l : List Nat, Lim 18446744073709551616 l ∧ Rep W (fun b => b < W.heap.size) (fun _ => 0) 0 (nats .unk l) v ∧ l.length ≤ Rows.uptoBulk d ∧
      ∀ W', Same W W' → ∀ sp : Nat → Bool, (∀ p ∈ ps, sp p.block = true) → DataW.Trod enc P W' 0 sp true t v d ps := by
  obtain ⟨a0, len, cap, rfl⟩ := okWide_slice ht hval
  obtain ⟨fuel, hf⟩ := h
  rcases open_ints ht he hc hf with ⟨e1, e2⟩ | ⟨a, len2, cap2, zs, e1, _, hl, hm, hz, e2, hcell, hw⟩
  · simp [Value.cells] at e1
    obtain ⟨rfl, rfl, rfl⟩ := e1
    simp only [Prod.mk.injEq] at e2
    obtain ⟨rfl, rfl⟩ := e2
    refine ⟨[], Lim.nil, .nil .unk 1, Nat.zero_le _, fun W' _ sp _ => ⟨2, ?_⟩⟩
    simp [DataW.trod, Value.cells, ht]
  · simp [Value.cells] at e1
    obtain ⟨rfl, rfl, rfl⟩ := e1
    simp only [Prod.mk.injEq] at e2
    obtain ⟨rfl, rfl⟩ := e2
    simp only [if_true] at hz
    have hbl : 0 < cap → a.block < W.heap.size := fun h0 => hold (.cell a.block a.off) (MemPlace.mem_row.2 ⟨0, by omega, by simp⟩)
    have hnn : ∀ n ∈ zs, 0 ≤ n ∧ n < 18446744073709551616 := fun n hn => by
      have := hw n hn
      simp [Lit.wf, IntKind.min, IntKind.max, IntKind.signed, IntKind.bits] at this
      omega
    refine ⟨(zs.take len).map Int.toNat, ?_, ?_, ?_, ?_⟩
    · intro x hx
      obtain ⟨n, hn, rfl⟩ := List.mem_map.1 hx
      have := hnn n (List.mem_of_mem_take hn)
      omega
    · refine .sl .unk 1 len cap a _ (fun j => .int .u64 (zs.getD j 0)) trivial (by simp; omega) hl (by decide) (fun h0 => hbl (by omega)) (fun j hj => hcell j (by omega)) (fun j hj => rfl) fun j x hx => ?_
      rw [List.getElem?_map] at hx
      obtain ⟨y, hy, rfl⟩ := Option.map_eq_some_iff.1 hx
      rw [List.getElem?_map] at hy
      obtain ⟨z, hz', rfl⟩ := Option.map_eq_some_iff.1 hy
      have hzm : z ∈ zs := List.mem_of_mem_take (List.mem_of_getElem? hz')
      have hzj : zs.getD j 0 = z := by
        rw [List.getElem?_take] at hz'
        split at hz'
        · simp [List.getD, hz']
        · cases hz'
      have h0 := hnn z hzm
      have e0 : ((Int.toNat z : Nat) : Int) = z := Int.toNat_of_nonneg h0.1
      rw [hzj]
      show Rep _ _ _ _ (.lit (.int .u64 ((Int.toNat z : Nat) : Int))) _
      rw [e0]
      exact .lit _
    · have h1 := bulk_len (H := H) (lits .u64 (zs.take len))
      simp only [Rows.uptoBulk]
      have h2 : (lits (H := H) .u64 (zs.take len)).length = (zs.take len).length := by simp [lits]
      simp only [List.length_map]
      omega
    · intro W' hs sp hsp
      have hcell' : ∀ i, i < zs.length → W'.cell? (a.add i) = some (.int .u64 (zs.getD i 0)) := fun i hi => by
        rw [hs.cell (by rw [add_block]; exact hbl (by omega))]
        exact hcell i hi
      by_cases hz0 : zs.length = 0
      · have hc0 : cap = 0 := by omega
        have hl0 : len = 0 := by omega
        subst hc0; subst hl0
        have t0 := shut_ints (enc := enc) (w := W') (base := 0) (spare := sp) (held := true) (a := a) (len := 0) (cap := 0) (zs := zs) 0 ht he hc (Nat.zero_le _) (Nat.le_refl _) hm (by simp [hz0]) hcell' hw
        exact ⟨2, by simpa [Value.cells] using t0⟩
      · have hspb : sp a.block = true := hsp (.cell a.block a.off) (MemPlace.mem_row.2 ⟨0, by omega, by simp⟩)
        have t0 := shut_ints (enc := enc) (w := W') (base := 0) (spare := sp) (held := true) (a := a) (len := len) (cap := cap) (zs := zs) 0 ht he hc (Nat.zero_le _) hl hm (by simp [hspb, hz]) hcell' hw
        exact ⟨2, by simpa [Value.cells] using t0⟩
end Go.VM
