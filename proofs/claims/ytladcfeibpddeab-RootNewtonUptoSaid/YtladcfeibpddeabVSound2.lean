import Derived.Test.YtladcfeibpddeabVSound
set_option linter.unusedVariables false
set_option linter.unusedSimpArgs false
namespace Go.VM
open Go.RowKit

variable {F : Ctx} {S : VS} {a : Act} {w : World} {μ : Nat → Nat} {M : Nat → Prop} {c : Nat}

theorem updo_kill_none (ρ : Nat → V) : kill none ρ = ρ := rfl

theorem did_new (hI : Inv F S a w μ) {o : Oper} (hd : ∀ i, o.dst = some i → i < F.nt) (own : Option Blk) {arr : Array Value} {T : TypeId} {w' : World} (ho : w'.os = w.os) (ht : w'.tape = w.tape) (hp : w'.output = w.output) (hw : w'.heap = w.heap.push (.cells arr T (0, 0)))
    (hb : ∀ k, own = some k → k.cells.length ≤ arr.size ∧ (∀ (i : Nat) (v : Value), arr[i]? = some v → v.oneCell' = true) ∧ ∀ (i : Nat) (x : V) (v : Value), k.cells[i]? = some x → arr[i]? = some v → Rep w (F.M S.σ w μ) μ S.c x v)
    {u : Value} (hrun : (execOp a.eval o).run F.P w = .ok (.value u) w') {v : V} {c' : Nat} (hc' : c' = S.c + 1)
    (hv : ∀ μ', μ' S.c = w.heap.size → Back F S.σ (ownσ S.σ S.c own) S.c (S.c + 1) w w' μ μ' (fun b => F.M S.σ w μ b ∨ (own = none ∧ b = w.heap.size)) → RepE w' (F.M (ownσ S.σ S.c own) w' μ') μ' (S.c + 1) v u)
    (hs : own ≠ none := by intro h; cases h) : Did F S a w o v (ownσ S.σ S.c own) c' none := by
  subst hc'
  have hone : ∀ (i : Nat) (v : Value), arr[i]? = some v → v.oneCell' = true := by
    cases ho' : own with
    | none => exact absurd ho' hs
    | some k => exact (hb k ho').2.1
  have hB := mem_new hI.mem own ho ht hp hw hone hb
  exact ⟨.value u, u, w', _, hrun, .inl rfl, (hI.back hB).put o.dst hd (hv _ newμ_new hB)⟩

theorem did_mk (hI : Inv F S a w μ) {o : Oper} {draw : Bool} (hd : ∀ i, o.dst = some i → i < F.nt) {z : List Value} {bytes : Nat} {l q : X} (ho : resOp F.P draw o = .mk z bytes l q) {kl kq : IntKind} {n cap : Nat} (hl : l.ev S.ρ = .lit (.int kl n)) (hq : q.ev S.ρ = .lit (.int kq cap))
    (h1 : n ≤ cap) (h2 : cap * bytes ≤ 281474976710656) (h3 : cap ≤ 9223372036854775807) : Did F S a w o (.buf S.c 0 n (some cap) z.length) (supd S.σ S.c (some ⟨rept z cap, true⟩)) (S.c + 1) none := by
  obtain ⟨t, e, i, zv, lo, qo, hop, ht, hi, hz, hs0, hsz, hone, rfl, rfl, hlo, hqo⟩ := inv_mk ho
  have el := repE_lit (hl ▸ resX_rep hI.env hlo)
  have eq' := repE_lit (hq ▸ resX_rep hI.env hqo)
  have hr := run_make (P := F.P) w t e i zv ht hi hz kl kq n cap (by omega) (by omega) (by rw [← Int.natCast_mul, Nat.mul_comm]; omega) (by omega)
  simp only [Int.toNat_natCast, ← hsz] at hr
  refine did_new hI hd (some ⟨rept zv.cells.toList cap, true⟩) rfl rfl rfl (w' := w.alloc (.cells (madeCells zv.cells (cap * zv.cells.size)) e)) rfl (fun k hk => ?_) (u := .slice (some ⟨w.heap.size, 0, none⟩) n cap) ?_ rfl fun μ' hμ hB => ?_
  · cases hk
    have hR := repL_rept (w := w) (M := F.M S.σ w μ) (μ := μ) (c := S.c) zv.cells (by omega) hone cap
    exact ⟨by simp [hR.1], hR.2.1, hR.2.2⟩
  · simp [execOp, hop, el, eq', hr]
  · exact ⟨cap, 0, by rw [hμ], fun _ => rfl, h1, by omega, by simp; omega, rfl, _, _, by rw [hμ]; exact heap_push_new rfl, by simp [size_madeCells]⟩

theorem did_box (hI : Inv F S a w μ) {o : Oper} {draw : Bool} (hd : ∀ i, o.dst = some i → i < F.nt) {x : X} (ho : resOp F.P draw o = .box x) {cs : List V} (h : (x.ev S.ρ).cells = some cs) : Did F S a w o (.ptr S.c 0) (supd S.σ S.c (some ⟨cs, true⟩)) (S.c + 1) none := by
  obtain ⟨e, x0, hop, hx⟩ := inv_box ho
  have hc := vcells_rep h (resX_rep hI.env hx)
  refine did_new hI hd (some ⟨cs, true⟩) rfl rfl rfl (w' := w.alloc (.cells (a.eval x0).cells e)) rfl (fun k hk => ?_) (u := .pointer (some ⟨w.heap.size, 0, none⟩)) ?_ rfl fun μ' hμ hB => ?_
  · cases hk; exact ⟨by simp [hc.1], hc.2.1, hc.2.2⟩
  · simp [execOp, hop, Instr.box, newVar, newRow]
  · exact ⟨by rw [hμ], by omega⟩

theorem did_alloc (hI : Inv F S a w μ) {o : Oper} {draw : Bool} (hd : ∀ i, o.dst = some i → i < F.nt) {z : List Value} (ho : resOp F.P draw o = .alloc z) : Did F S a w o (.ptr S.c 0) (supd S.σ S.c (some ⟨vlits z, true⟩)) (S.c + 1) none := by
  obtain ⟨e, i, zv, hop, hi, hz, hone, rfl⟩ := inv_alloc ho
  have hR := repL_lits (w := w) (M := F.M S.σ w μ) (μ := μ) (c := S.c) zv.cells.toList fun v hv => Array.all_eq_true_iff_forall_mem.1 hone v (by simpa using hv)
  simp only [Array.toArray_toList] at hR
  refine did_new hI hd (some ⟨vlits zv.cells.toList, true⟩) rfl rfl rfl (w' := w.alloc (.cells zv.cells e)) rfl (fun k hk => ?_) (u := .pointer (some ⟨w.heap.size, 0, none⟩)) ?_ rfl fun μ' hμ hB => ?_
  · cases hk; exact ⟨by simp [hR.1], hR.2.1, hR.2.2⟩
  · simp [execOp, hop, Instr.alloc, zeroValue, typeInfo, hi, hz, newVar, newRow]
  · exact ⟨by rw [hμ], by omega⟩

theorem fill_length : ∀ (ps : List (Nat × Nat × V)) (l l' : List V), vfill l ps = some l' → l'.length = l.length := by
  intro ps
  induction ps with
  | nil => intro l l' h; simp [vfill] at h; subst h; rfl
  | cons p ps ih =>
    obtain ⟨off, n, v⟩ := p
    intro l l' h
    simp only [vfill] at h
    split at h
    · split at h
      · rw [ih _ _ h, putCells_length]
      · cases h
    · cases h

theorem did_bsl (hI : Inv F S a w μ) {o : Oper} {draw : Bool} (hd : ∀ i, o.dst = some i → i < F.nt) {tok : Bool} {sz len : Nat} {z : List Value} {ps : List (Nat × Nat × X)} (ho : resOp F.P draw o = .bsl tok sz len z ps) {cs : List V} (h : vfill (rept z len) (partsOf (X.ev S.ρ) ps) = some cs) :
    ∃ u w' μ', (execOp a.eval o).run F.P w = .ok (.value u) w' ∧ Back F S.σ S.σ S.c (S.c + 1) w w' μ μ' (fun b => F.M S.σ w μ b ∨ b = w.heap.size) ∧ (∀ tk, tokOk μ' (S.c + 1) ⟨w.heap.size, 0, none⟩ (len * sz) tk → RepE w' (F.M S.σ w' μ') μ' (S.c + 1) (.sl tk sz cs) u) ∧ μ' S.c = w.heap.size := by
  obtain ⟨t, ps0, e, i, zv, hop, ht, hi, hz, rfl, hs0, hsz, hone, hlen, hsmall, rfl, hps⟩ := inv_bsl ho
  have hR := repL_rept (w := w) (M := F.M S.σ w μ) (μ := μ) (c := S.c) zv.cells (by omega) hone len
  obtain ⟨arr', g1, g2⟩ := run_fill (w := w) (M := F.M S.σ w μ) (μ := μ) (c := S.c) (e := X.ev S.ρ) (ev := a.eval) (fun o x hx => resX_rep hI.env hx) ps0.toList ps _ cs _ hps h hR
  have hlen' : cs.length = len * i.size := by rw [fill_length _ _ _ h, rept_length]; simp [hsz]
  have hrun := run_buildSlice (P := F.P) w t e len (ps0.map fun p => (p.1, a.eval p.2)) arr' i zv ht hi hz (by omega) (by have := Nat.mul_pos hlen hs0; omega) (by
    have : ((Array.range (len * i.size)).map (zv.cells[· % zv.cells.size]!)) = madeCells zv.cells (len * zv.cells.size) := by unfold madeCells; rw [hsz]
    rw [this]; simpa using g1)
  have hB := mem_new hI.mem none (w' := w.alloc (.cells arr' e)) rfl rfl rfl rfl g2.2.1 (fun k hk => by cases hk)
  simp only [ownσ, true_and] at hB
  refine ⟨.slice (some ⟨w.heap.size, 0, none⟩) len len, w.alloc (.cells arr' e), newμ μ S.c w.heap.size, ?_, hB, fun tk htk => ?_, newμ_new⟩
  · unfold execOp
    rw [hop]
    simp only []
    rw [Sem.run_bind]
    simp only [hrun, Result.andThen]
    simp [pure, Sem.run]
  · have hsza : arr'.size = len * i.size := by rw [g2.1, hlen']
    refine RepE.of_one (.sl tk i.size len len _ cs (fun j => arr'.getD j undef) ?_ hlen' (Nat.le_refl _) hs0 (fun _ => hB.res _ (.inr rfl)) (fun j hj => ?_) (fun j hj => ?_) fun j x hx => ?_)
    · exact htk
    · have hj' : j < arr'.size := by omega
      rw [add_mk]
      have : (w.alloc (.cells arr' e)).heap[w.heap.size]? = some (.cells arr' e (0, 0)) := by show (w.heap.push _)[_]? = _; simp
      simp only [World.cell?, this]
      simp [Array.getD, hj']
    · have hj' : j < arr'.size := by omega
      exact g2.2.1 j _ (by simp [Array.getD, hj'])
    · have hj' : j < arr'.size := by have := (List.getElem?_eq_some_iff.1 hx).1; rw [g2.1]; exact this
      exact (g2.2.2 j x _ hx (by simp [Array.getD, hj'])).mono hB.same hB.sub (fun t ht _ => hB.mu t ht) hB.le

theorem did_bsl1 (hI : Inv F S a w μ) {o : Oper} {draw : Bool} (hd : ∀ i, o.dst = some i → i < F.nt) {sz len : Nat} {z : List Value} {ps : List (Nat × Nat × X)} (ho : resOp F.P draw o = .bsl true sz len z ps) {cs : List V} (h : vfill (rept z len) (partsOf (X.ev S.ρ) ps) = some cs) :
    Did F S a w o (.sl (.id S.c) sz cs) S.σ (S.c + 1) none := by
  obtain ⟨u, w', μ', h1, hB, h2, h3⟩ := did_bsl hI hd ho h
  exact ⟨.value u, u, w', μ', h1, .inl rfl, (hI.back hB).put o.dst hd (h2 (.id S.c) fun _ => ⟨⟨by omega, h3⟩, rfl, rfl⟩)⟩


/-- a new block without a number -/
theorem mem_anon {σ : Nat → Option Blk} (h : Mem F σ c w μ) {w' : World} {arr : Array Value} {T : TypeId} (ho : w'.os = w.os) (ht : w'.tape = w.tape) (hp : w'.output = w.output) (hw : w'.heap = w.heap.push (.cells arr T (0, 0))) :
    Back F σ σ c c w w' μ μ (fun b => F.M σ w μ b ∨ b = w.heap.size) := by
  have hsz : w'.heap.size = w.heap.size + 1 := by rw [hw]; simp
  have hbase : F.base ≤ w.heap.size := h.moved.size
  have hsame : ∀ b, F.M σ w μ b → w'.heap[b]? = w.heap[b]? := fun b hb => heap_push_old hw (h.M_lt hb)
  have hsub : ∀ b, F.M σ w μ b → F.M σ w' μ b := by
    rintro b (hb | ⟨h1, h2, h3⟩)
    · exact .inl hb
    · exact .inr ⟨h1, by omega, h3⟩
  refine ⟨⟨h.good, ⟨ho.trans h.moved.os, ht.trans h.moved.tape, hp.trans h.moved.output, by omega, h.moved.grows.trans (grows_push hw), fun b hb hne => ?_⟩, h.c0, h.mu0, fun t h1 h2 => ?_, h.inj, h.dom, h.lent, fun t k hk => ?_⟩, hsame, hsub, fun _ _ => rfl, Nat.le_refl _, grows_push hw, ?_⟩
  · rw [heap_push_old hw (by omega)]; exact h.moved.block b hb hne
  · obtain ⟨g1, g2, arr', T', g3, g3'⟩ := h.tok t h1 h2
    exact ⟨g1, by omega, arr', T', by rw [heap_push_old hw g2]; exact g3, g3'⟩
  · obtain ⟨arr', T', g1, g2, g3, g4⟩ := h.blk t k hk
    exact ⟨arr', T', by rw [heap_push_old hw (h.lt hk).2]; exact g1, g2, g3, fun i x v hx hv => (g4 i x v hx hv).mono hsame hsub (fun _ _ _ => rfl) (Nat.le_refl _)⟩
  · rintro b (hb | rfl)
    · exact hsub b hb
    · exact .inr ⟨hbase, by omega, fun ⟨t, k, hk, _, e⟩ => by have := (h.lt hk).2; omega⟩

/-- a world that parts from another one in its draws alone -/
theorem Inv.same {w' : World} (hI : Inv F S a w μ) (ho : w'.os = w.os) (ht : w'.tape = w.tape) (hp : w'.output = w.output) (hw : w'.heap = w.heap) : Inv F S a w' μ := by
  have hM : ∀ b, F.M S.σ w μ b → F.M S.σ w' μ b := by
    rintro b (hb | ⟨h1, h2, h3⟩)
    · exact .inl hb
    · exact .inr ⟨h1, by rw [hw]; exact h2, h3⟩
  have h := hI.mem
  have hsame : ∀ b, F.M S.σ w μ b → w'.heap[b]? = w.heap[b]? := fun b _ => by rw [hw]
  have hG : Grows w w' := fun b arr T h => ⟨arr, T, by rw [hw]; exact h, Nat.le_refl _⟩
  refine hI.later ⟨h.good, ⟨ho.trans h.moved.os, ht.trans h.moved.tape, hp.trans h.moved.output, by rw [hw]; exact h.moved.size, h.moved.grows.trans hG, fun b hb hne => by rw [hw]; exact h.moved.block b hb hne⟩, h.c0, h.mu0, fun t h1 h2 => by rw [hw]; exact h.tok t h1 h2, h.inj, h.dom, h.lent, fun t k hk => ?_⟩ hG hsame hM (fun _ _ => rfl) (Nat.le_refl _)
  obtain ⟨arr', T', g1, g2, g3, g4⟩ := h.blk t k hk
  exact ⟨arr', T', by rw [hw]; exact g1, g2, g3, fun i x v hx hv => (g4 i x v hx hv).mono hsame hM (fun _ _ _ => rfl) (Nat.le_refl _)⟩

theorem did_bsl0 (hI : Inv F S a w μ) {o : Oper} {draw : Bool} (hd : ∀ i, o.dst = some i → i < F.nt) {sz len : Nat} {z : List Value} {ps : List (Nat × Nat × X)} (ho : resOp F.P draw o = .bsl false sz len z ps) {cs : List V} (h : vfill (rept z len) (partsOf (X.ev S.ρ) ps) = some cs) :
    Did F S a w o (.sl .unk sz cs) S.σ S.c none := by
  obtain ⟨t, ps0, e, i, zv, hop, ht, hi, hz, rfl, hs0, hsz, hone, hlen, hsmall, rfl, hps⟩ := inv_bsl ho
  have hR := repL_rept (w := w) (M := F.M S.σ w μ) (μ := μ) (c := S.c) zv.cells (by omega) hone len
  obtain ⟨arr', g1, g2⟩ := run_fill (w := w) (M := F.M S.σ w μ) (μ := μ) (c := S.c) (e := X.ev S.ρ) (ev := a.eval) (fun o x hx => resX_rep hI.env hx) ps0.toList ps _ cs _ hps h hR
  have hlen' : cs.length = len * i.size := by rw [fill_length _ _ _ h, rept_length]; simp [hsz]
  have hrun := run_buildSlice (P := F.P) w t e len (ps0.map fun p => (p.1, a.eval p.2)) arr' i zv ht hi hz (by omega) (by have := Nat.mul_pos hlen hs0; omega) (by
    have : ((Array.range (len * i.size)).map (zv.cells[· % zv.cells.size]!)) = madeCells zv.cells (len * zv.cells.size) := by unfold madeCells; rw [hsz]
    rw [this]; simpa using g1)
  have hB := mem_anon hI.mem (w' := w.alloc (.cells arr' e)) rfl rfl rfl rfl
  refine ⟨.value (.slice (some ⟨w.heap.size, 0, none⟩) len len), .slice (some ⟨w.heap.size, 0, none⟩) len len, w.alloc (.cells arr' e), μ, ?_, .inl rfl, (hI.back hB).put o.dst hd ?_⟩
  · unfold execOp
    rw [hop]
    simp only []
    rw [Sem.run_bind]
    simp only [hrun, Result.andThen]
    simp [pure, Sem.run]
  · have hsza : arr'.size = len * i.size := by rw [g2.1, hlen']
    refine RepE.of_one (.sl .unk i.size len len _ cs (fun j => arr'.getD j undef) trivial hlen' (Nat.le_refl _) hs0 (fun _ => hB.res _ (.inr rfl)) (fun j hj => ?_) (fun j hj => ?_) fun j x hx => ?_)
    · have hj' : j < arr'.size := by omega
      rw [add_mk]
      have : (w.alloc (.cells arr' e)).heap[w.heap.size]? = some (.cells arr' e (0, 0)) := by show (w.heap.push _)[_]? = _; simp
      simp only [World.cell?, this]
      simp [Array.getD, hj']
    · have hj' : j < arr'.size := by omega
      exact g2.2.1 j _ (by simp [Array.getD, hj'])
    · have hj' : j < arr'.size := by have := (List.getElem?_eq_some_iff.1 hx).1; rw [g2.1]; exact this
      exact (g2.2.2 j x _ hx (by simp [Array.getD, hj'])).mono hB.same hB.sub (fun t ht _ => hB.mu t ht) hB.le

def Src (w : World) (M : Nat → Prop) (μ : Nat → Nat) (c : Nat) (sz : Nat) (ys : List V) (u : Value) : Prop :=
  (u = .slice none 0 0 ∧ ys = []) ∨ ∃ (ad : Addr) (m cp : Nat) (news : List Value), u = .slice (some ad) m cp ∧ 0 < sz ∧ ys.length = m * sz ∧ news.length = ys.length ∧ (∀ (j : Nat) (v : Value), news[j]? = some v → w.cell? (ad.add j) = some v) ∧ (∀ v ∈ news, v.oneCell' = true) ∧
    ∀ (j : Nat) (x : V) (v : Value), ys[j]? = some x → news[j]? = some v → Rep w M μ c x v

/-- what is appended or copied, as it lies in memory -/
theorem src_rep (hI : Inv F S a w μ) {sz : Nat} {y : V} {ys : List V} (hy : vcells sz S.σ y = some ys) {u : Value} (hr : RepE w (F.M S.σ w μ) μ S.c y u) :
    Src w (F.M S.σ w μ) μ S.c sz ys u := by
  have slc : ∀ {tk : Tok} {l : List V} {sz' : Nat}, Rep w (F.M S.σ w μ) μ S.c (.sl tk sz' l) u → (sz' = sz ∨ tk = .nil) → ys = l → Src w (F.M S.σ w μ) μ S.c sz ys u := by
    intro tk l sz' hr hs e
    subst e
    cases hr with
    | nil _ => exact .inl ⟨rfl, rfl⟩
    | sl _ _ m cp ad _ vs htk hn hcp hs0 hM hcap h1 hl =>
      rcases hs with rfl | rfl
      · have hmc : m * sz' ≤ cp * sz' := Nat.mul_le_mul_right _ hcp
        refine .inr ⟨ad, m, cp, (List.range ys.length).map vs, rfl, hs0, hn, by simp, fun j v hv => ?_, fun v hv => ?_, fun j x v hx hv => ?_⟩
        · simp at hv
          obtain ⟨q, hq, rfl⟩ := hv
          obtain ⟨hj, e⟩ := List.getElem?_eq_some_iff.1 hq
          simp at hj e; subst e
          exact hcap j (by omega)
        · simp at hv
          obtain ⟨q, hq, rfl⟩ := hv
          exact h1 q (by omega)
        · simp at hv
          obtain ⟨q, hq, rfl⟩ := hv
          obtain ⟨hj, e⟩ := List.getElem?_eq_some_iff.1 hq
          simp at hj e; subst e
          exact hl j x hx
      · exact htk.elim
  unfold vcells at hy
  split at hy
  · simp only [Option.some.injEq] at hy; exact slc hr (.inr rfl) hy.symm
  · split at hy
    · rename_i e; simp only [Option.some.injEq] at hy; exact slc hr (.inl e) hy.symm
    · cases hy
  · rename_i t off n cap sz'
    split at hy
    · rename_i b hb
      split at hy
      · rename_i hc
        obtain ⟨rfl, hc⟩ := hc
        simp only [Option.some.injEq] at hy; subst hy
        obtain ⟨cp, of', rfl, hof, hcp, htc, hs0, _, _⟩ := hr
        obtain ⟨arr, T, g1, g2, g3, g4⟩ := blk_cells hI.mem hb
        have hl : ((b.cells.drop off).take (n * sz')).length = n * sz' := by rw [List.length_take, List.length_drop]; omega
        refine .inr ⟨⟨μ t, of', none⟩, n, cp, (List.range (n * sz')).map (fun j => arr.getD (off + j) undef), rfl, hs0, hl, by rw [hl]; simp, fun j v hv => ?_, fun v hv => ?_, fun j x v hx hv => ?_⟩
        · simp at hv
          obtain ⟨q, hq, rfl⟩ := hv
          obtain ⟨hj, e⟩ := List.getElem?_eq_some_iff.1 hq
          simp at hj e; subst e
          have hn0 : 0 < n := by rcases Nat.eq_zero_or_pos n with h | h; · subst h; simp at hj
                                 · exact h
          rw [hof (by omega), add_mk]
          simpa using (g3 (off + j) (by omega)).1
        · simp at hv
          obtain ⟨q, hq, rfl⟩ := hv
          simpa using (g3 (off + q) (by omega)).2
        · simp at hv
          obtain ⟨q, hq, rfl⟩ := hv
          obtain ⟨hj, e⟩ := List.getElem?_eq_some_iff.1 hq
          simp at hj e; subst e
          rw [List.getElem?_take, if_pos hj, List.getElem?_drop] at hx
          simpa using g4 _ x hx
      · cases hy
    · cases hy
  · cases hy
end Go.VM
