import Derived.Test.YtladcfeibpddeabVMem
import Derived.Great.BuildSlice
set_option linter.unusedVariables false
set_option linter.unusedSimpArgs false
namespace Go.VM
open Go.RowKit

section inv
variable {P : Program} {o : Oper} {draw : Bool}

theorem inv_load {ag : Option Nat} {x' : X} (h : resOp P draw o = .load ag x') : ∃ t x, o.op = .load t x ∧ aggOf P t = some ag ∧ resX x = some x' := by
  unfold resOp at h
  cases hop : o.op <;> simp only [hop] at h <;> first
    | (exfalso; revert h; (try simp only [res1, res2]); (repeat' split) <;> (intro h; cases h); done)
    | skip
  rename_i t x
  split at h
  · rename_i g hg
    unfold res1 at h
    split at h
    · rename_i x'' hx; cases h; exact ⟨t, x, rfl, hg, hx⟩
    · cases h
  · cases h
theorem inv_store {n : Nat} {x' y' : X} (h : resOp P draw o = .store n x' y') : ∃ t x y i, o.op = .store t x y ∧ P.info? t = some i ∧ i.size = n ∧ resX x = some x' ∧ resX y = some y' := by
  unfold resOp at h
  cases hop : o.op <;> simp only [hop] at h <;> first
    | (exfalso; revert h; (try simp only [res1, res2]); (repeat' split) <;> (intro h; cases h); done)
    | skip
  rename_i t x y
  split at h
  · rename_i i hi
    unfold res2 at h
    split at h
    · rename_i x'' y'' hx hy; cases h; exact ⟨t, x, y, i, rfl, hi, rfl, hx, hy⟩
    · cases h
  · cases h
theorem inv_mk {z : List Value} {bytes : Nat} {l q : X} (h : resOp P draw o = .mk z bytes l q) : ∃ t e i zv lo qo, o.op = .makeSlice t lo qo ∧ P.underlying t = some (.slice e) ∧ P.info? e = some i ∧ i.zero = some zv ∧ 0 < i.size ∧ zv.cells.size = i.size ∧ zv.cells.all (·.oneCell') = true ∧ z = zv.cells.toList ∧ bytes = i.bytes ∧ resX lo = some l ∧ resX qo = some q := by
  unfold resOp at h
  cases hop : o.op <;> simp only [hop] at h <;> first
    | (exfalso; revert h; (try simp only [res1, res2]); (repeat' split) <;> (intro h; cases h); done)
    | skip
  rename_i t lo qo
  split at h
  · rename_i e ht
    split at h
    · rename_i i hi
      split at h
      · rename_i zv hz
        split at h
        · rename_i hc
          obtain ⟨h1, h2, h3⟩ := hc
          unfold res2 at h
          split at h
          · rename_i x'' y'' hx hy; cases h; exact ⟨t, e, i, zv, lo, qo, rfl, ht, hi, hz, h1, h2, h3, rfl, rfl, hx, hy⟩
          · cases h
        · cases h
      · cases h
    · cases h
  · cases h
theorem inv_box {x' : X} (h : resOp P draw o = .box x') : ∃ e x, o.op = .box e x ∧ resX x = some x' := by
  unfold resOp at h
  cases hop : o.op <;> simp only [hop] at h <;> first
    | (exfalso; revert h; (try simp only [res1, res2]); (repeat' split) <;> (intro h; cases h); done)
    | skip
  rename_i e x
  unfold res1 at h
  split at h
  · rename_i x'' hx; cases h; exact ⟨e, x, rfl, hx⟩
  · cases h
theorem inv_alloc {z : List Value} (h : resOp P draw o = .alloc z) : ∃ e i zv, o.op = .alloc e ∧ P.info? e = some i ∧ i.zero = some zv ∧ zv.cells.all (·.oneCell') = true ∧ z = zv.cells.toList := by
  unfold resOp at h
  cases hop : o.op <;> simp only [hop] at h <;> first
    | (exfalso; revert h; (try simp only [res1, res2]); (repeat' split) <;> (intro h; cases h); done)
    | skip
  rename_i e
  split at h
  · rename_i zv hz
    split at h
    · rename_i h1
      cases h
      cases hi : P.info? e with
      | none => simp [hi] at hz
      | some i => simp [hi] at hz; exact ⟨e, i, zv, rfl, hi, hz, h1, rfl⟩
    · cases h
  · cases h
theorem inv_bsl {tok : Bool} {sz len : Nat} {z : List Value} {rs : List (Nat × Nat × X)} (h : resOp P draw o = .bsl tok sz len z rs) : ∃ t ps e i zv, o.op = .buildSlice t len ps ∧ P.underlying t = some (.slice e) ∧ P.info? e = some i ∧ i.zero = some zv ∧ i.size = sz ∧
    0 < i.size ∧ zv.cells.size = i.size ∧ zv.cells.all (·.oneCell') = true ∧ 0 < len ∧ len * i.size ≤ 2 ^ 24 ∧ z = zv.cells.toList ∧ resP (fun j => some (j * i.size, i.size)) ps.toList = some rs := by
  unfold resOp at h
  cases hop : o.op <;> simp only [hop] at h <;> first
    | (exfalso; revert h; (try simp only [res1, res2]); (repeat' split) <;> (intro h; cases h); done)
    | skip
  rename_i t n ps
  split at h
  · rename_i e ht
    split at h
    · rename_i i hi
      split at h
      · rename_i zv hz
        split at h
        · rename_i hc
          obtain ⟨h1, h2, h3, h4, h5⟩ := hc
          split at h
          · rename_i rs' hrs; cases h; exact ⟨t, ps, e, i, zv, rfl, ht, hi, hz, rfl, h1, h2, h3, h4, h5, rfl, hrs⟩
          · cases h
        · cases h
      · cases h
    · cases h
  · cases h
theorem inv_app {sz bytes : Nat} {z : List Value} {x' y' : X} (h : resOp P draw o = .app sz bytes z x' y') : ∃ cl x y t u e e' i zv, o.op = .call cl ∧ cl.callee = .builtin .append ∧ cl.args = #[x, y] ∧ cl.argTypes = #[t, u] ∧ P.underlying t = some (.slice e) ∧ P.underlying u = some (.slice e') ∧ P.info? e = some i ∧ i.zero = some zv ∧ i.size = sz ∧ i.bytes = bytes ∧ t = u ∧
    0 < i.size ∧ 0 < i.bytes ∧ zv.cells.size = i.size ∧ zv.cells.all (·.oneCell') = true ∧ resX x = some x' ∧ resX y = some y' := by
  unfold resOp at h
  cases hop : o.op <;> simp only [hop] at h <;> first
    | (exfalso; revert h; (try simp only [res1, res2]); (repeat' split) <;> (intro h; cases h); done)
    | skip
  rename_i cl
  split at h
  all_goals first
    | (exfalso; revert h; (try simp only [res1, res2]); (repeat' split) <;> (intro h; cases h); done)
    | skip
  rename_i hcl
  split at h
  · rename_i x y t u hx ht
    split at h
    · rename_i e e' hte hue
      split at h
      · rename_i i hi
        split at h
        · rename_i zv hz
          split at h
          · rename_i hc
            obtain ⟨h0, h1, h2, h3, h4⟩ := hc
            unfold res2 at h
            split at h
            · rename_i x'' y'' hx' hy'
              cases h
              exact ⟨cl, x, y, t, u, e, e', i, zv, rfl, hcl, by apply Array.ext'; simpa using hx, by apply Array.ext'; simpa using ht, hte, hue, hi, hz, rfl, rfl, h0, h1, h2, h3, h4, hx', hy'⟩
            · cases h
          · cases h
        · cases h
      · cases h
    · cases h
  · cases h
theorem inv_cpy {sz : Nat} {x' y' : X} (h : resOp P draw o = .cpy sz x' y') : ∃ cl x y t u e i, o.op = .call cl ∧ cl.callee = .builtin .copy ∧ cl.args = #[x, y] ∧ cl.argTypes = #[t, u] ∧ P.underlying t = some (.slice e) ∧ P.info? e = some i ∧ i.size = 1 ∧ sz = 1 ∧ resX x = some x' ∧ resX y = some y' := by
  unfold resOp at h
  cases hop : o.op <;> simp only [hop] at h <;> first
    | (exfalso; revert h; (try simp only [res1, res2]); (repeat' split) <;> (intro h; cases h); done)
    | skip
  rename_i cl
  split at h
  all_goals first
    | (exfalso; revert h; (try simp only [res1, res2]); (repeat' split) <;> (intro h; cases h); done)
    | skip
  rename_i hcl
  split at h
  · rename_i x y t u hx ht
    split at h
    · rename_i e hte
      split at h
      · rename_i i hi
        split at h
        · rename_i hc
          unfold res2 at h
          split at h
          · rename_i x'' y'' hx' hy'
            cases h
            exact ⟨cl, x, y, t, u, e, i, rfl, hcl, by apply Array.ext'; simpa using hx, by apply Array.ext'; simpa using ht, hte, hi, hc, rfl, hx', hy'⟩
          · cases h
        · cases h
      · cases h
    · cases h
  · cases h
theorem inv_call {f : FuncId} {xs : List X} (h : resOp P draw o = .call f xs) : ∃ cl fn b, o.op = .call cl ∧ cl.callee = .value (.func f) ∧ P.funcs[f]? = some fn ∧ (fn.name == "runtime.NumGoroutine") = false ∧ fn.body = some b ∧ resL cl.args.toList = some xs := by
  unfold resOp at h
  cases hop : o.op <;> simp only [hop] at h <;> first
    | (exfalso; revert h; (try simp only [res1, res2]); (repeat' split) <;> (intro h; cases h); done)
    | skip
  rename_i cl
  split at h
  all_goals first
    | (exfalso; revert h; (try simp only [res1, res2]); (repeat' split) <;> (intro h; cases h); done)
    | skip
  rename_i g hcl
  split at h
  · rename_i fn hf
    split at h
    · cases h
    · rename_i hn
      split at h
      · rename_i b hb
        split at h
        · rename_i l hl; cases h; exact ⟨cl, fn, b, rfl, hcl, hf, by simpa using hn, hb, hl⟩
        · cases h
      · exfalso; revert h; (repeat' split) <;> (intro h; cases h)
  · cases h
theorem inv_callv {x : X} {xs : List X} (h : resOp P draw o = .callv x xs) : ∃ cl t, o.op = .call cl ∧ cl.callee = .value (.tmp t) ∧ x = .t t ∧ resL cl.args.toList = some xs := by
  unfold resOp at h
  cases hop : o.op <;> simp only [hop] at h <;> first
    | (exfalso; revert h; (try simp only [res1, res2]); (repeat' split) <;> (intro h; cases h); done)
    | skip
  rename_i cl
  split at h
  all_goals first
    | (exfalso; revert h; (try simp only [res1, res2]); (repeat' split) <;> (intro h; cases h); done)
    | skip
  rename_i t hcl
  split at h
  · rename_i l hl; cases h; exact ⟨cl, t, rfl, hcl, rfl, hl⟩
  · cases h
end inv

variable {F : Ctx} {S : VS} {a : Act} {w : World} {μ : Nat → Nat} {M : Nat → Prop} {c : Nat}

/-- the operation's outcome, and the state behind it -/
def Did (F : Ctx) (S : VS) (a : Act) (w : World) (o : Oper) (v : V) (σ' : Nat → Option Blk) (c' : Nat) (kt : Option Nat) : Prop :=
  ∃ r u w' μ', (execOp a.eval o).run F.P w = .ok r w' ∧ (r = .value u ∨ (r = .skip ∧ u = undef)) ∧ Inv F ⟨updo (kill kt S.ρ) o.dst v, σ', c'⟩ (a.put o.dst u) w' μ'

theorem vpart_len {l : List V} {i : Nat} {ag : Option Nat} {v : V} (h : vpart l i ag = some v) : i + (ag.getD 1) ≤ l.length := by
  cases ag with
  | none => simp only [vpart] at h; have := (List.getElem?_eq_some_iff.1 h).1; simp; omega
  | some n =>
    simp only [vpart] at h
    split at h
    · rename_i hb; exact hb
    · cases h

theorem run_loadVar_gen (P : Program) {l : List V} {i : Nat} {ag : Option Nat} {v : V} (h : vpart l i ag = some v) {ad : Addr} {vs : Nat → Value} (hc : ∀ j, i + j < l.length → w.cell? (ad.add j) = some (vs j) ∧ (vs j).oneCell' = true)
    (hl : ∀ (j : Nat) (x : V), l[i + j]? = some x → Rep w M μ c x (vs j)) {t : TypeId} (ha : aggOf P t = some ag) : ∃ u, (loadVar t ad).run P w = .ok u w ∧ Rep w M μ c v u := by
  have hlen := vpart_len h
  cases ag with
  | none =>
    simp only [vpart] at h
    have h0 := (hc 0 (by simp at hlen; omega)).1
    rw [add_zero'] at h0
    refine ⟨vs 0, ?_, hl 0 v h⟩
    simp only [loadVar, Sem.run_bind, run_isAgg_none P ha, Result.andThen]
    simp [h0]
  | some n =>
    simp only [vpart] at h
    split at h
    · rename_i hb
      simp only [Option.some.injEq] at h; subst h
      have hA := run_isAgg_some P ha w
      have hL := run_loadCells (P := P) w ad n vs (fun j hj => (hc j (by omega)).1)
      refine ⟨.agg ((List.range n).map vs).toArray, ?_, .agg _ _ ?_ (fun j u hu => ?_) fun j x u hx hu => ?_⟩
      · simp only [loadVar, Sem.run_bind, hA.1, Result.andThen, if_true, hA.2, hL]
        simp [hA.2, hL]
      · simp; omega
      · simp at hu
        obtain ⟨q, hq, rfl⟩ := hu
        obtain ⟨hj, rfl⟩ := List.getElem?_eq_some_iff.1 hq
        simp at hj ⊢
        exact (hc j (by omega)).2
      · rw [List.getElem?_take] at hx
        split at hx
        · rename_i hj
          rw [List.getElem?_drop] at hx
          simp [hj] at hu
          subst hu
          exact hl j x hx
        · cases hx
    · cases h

theorem blk_cells (hm : Mem F S.σ S.c w μ) {t : Nat} {k : Blk} (ht : S.σ t = some k) : ∃ arr T, w.heap[μ t]? = some (.cells arr T (0, 0)) ∧ k.cells.length ≤ arr.size ∧
    (∀ j, j < k.cells.length → w.cell? ⟨μ t, j, none⟩ = some (arr.getD j undef) ∧ (arr.getD j undef).oneCell' = true) ∧ (∀ (j : Nat) (x : V), k.cells[j]? = some x → Rep w (F.M S.σ w μ) μ S.c x (arr.getD j undef)) := by
  obtain ⟨arr, T, h1, h2, h3, h4⟩ := hm.blk t k ht
  refine ⟨arr, T, h1, h2, fun j hj => ?_, fun j x hx => ?_⟩
  · have hj' : j < arr.size := by omega
    have e : arr[j]? = some (arr.getD j undef) := by simp [Array.getD, hj']
    exact ⟨by simp only [World.cell?, h1]; simpa using e, h3 j _ e⟩
  · have hj' : j < arr.size := by have := (List.getElem?_eq_some_iff.1 hx).1; omega
    have e : arr[j]? = some (arr.getD j undef) := by simp [Array.getD, hj']
    exact h4 j x _ hx e

theorem did_load (hI : Inv F S a w μ) {o : Oper} {draw : Bool} (hd : ∀ i, o.dst = some i → i < F.nt) {ag : Option Nat} {x : X} (ho : resOp F.P draw o = .load ag x) {v : V} (h : vload S.σ ag (x.ev S.ρ) = some v) : Did F S a w o v S.σ S.c none := by
  obtain ⟨t, x0, hop, hag, hx⟩ := inv_load ho
  have hr := resX_rep hI.env hx
  have fin : ∀ u, (∃ ad, a.eval x0 = .pointer (some ad) ∧ (loadVar t ad).run F.P w = .ok u w) → Rep w (F.M S.σ w μ) μ S.c v u → Did F S a w o v S.σ S.c none := by
    rintro u ⟨ad, e, hu⟩ hr
    refine ⟨.value u, u, w, μ, ?_, .inl rfl, hI.put o.dst hd (RepE.of_one hr)⟩
    simp [execOp, hop, Instr.loadAt, e, Instr.sureAddr, hu]
  unfold vload at h
  split at h
  · rename_i tk off he
    split at h
    · rename_i b hb
      rw [he] at hr
      obtain ⟨e, _⟩ := hr
      obtain ⟨arr, T, h1, h2, h3, h4⟩ := blk_cells hI.mem hb
      obtain ⟨u, hu, hur⟩ := run_loadVar_gen F.P h (ad := ⟨μ tk, off, none⟩) (vs := fun j => arr.getD (off + j) undef) (fun j hj => by rw [add_mk]; exact h3 _ hj) (fun j x hx => h4 _ x hx) hag
      exact fin u ⟨_, e, hu⟩ hur
    · cases h
  · rename_i l i he
    rw [he] at hr
    obtain ⟨ad, vs, e, h1, h2, h3⟩ := hr
    obtain ⟨u, hu, hur⟩ := run_loadVar_gen F.P h h2 h3 hag
    exact fin u ⟨_, e, hu⟩ hur
  · cases h

theorem putCells_get (xs : List V) : ∀ (l : List V) (i j : Nat), (putCells l i xs)[j]? = if i ≤ j ∧ j < i + xs.length ∧ j < l.length then xs[j - i]? else l[j]? := by
  induction xs with
  | nil => intro l i j; simp [putCells]; intro h1 h2; omega
  | cons x xs ih =>
    intro l i j
    simp only [putCells]
    rw [ih]
    simp only [List.length_set, List.length_cons]
    by_cases h : i + 1 ≤ j ∧ j < i + 1 + xs.length ∧ j < l.length
    · rw [if_pos h, if_pos (by omega)]
      have : j - i = (j - (i + 1)) + 1 := by omega
      rw [this, List.getElem?_cons_succ]
    · rw [if_neg h, List.getElem?_set]
      by_cases e : i = j
      · subst e
        by_cases hl : i < l.length
        · rw [if_pos rfl, if_pos hl, if_pos (by omega)]; simp
        · rw [if_pos rfl, if_neg hl, if_neg (by omega)]; rw [List.getElem?_eq_none (by omega)]
      · rw [if_neg e, if_neg (by omega)]

/-- cells written into a row -/
theorem row_put {l xs : List V} {arr : Array Value} {vs : List Value} {off : Nat} (hl : l.length ≤ arr.size) (h1 : ∀ (i : Nat) (v : Value), arr[i]? = some v → v.oneCell' = true) (h2 : ∀ (i : Nat) (x : V) (v : Value), l[i]? = some x → arr[i]? = some v → Rep w M μ c x v)
    (hn : vs.length = xs.length) (hv1 : ∀ v ∈ vs, v.oneCell' = true) (hv2 : ∀ (i : Nat) (x : V) (v : Value), xs[i]? = some x → vs[i]? = some v → Rep w M μ c x v) (hb : off + xs.length ≤ l.length) :
    (putCells l off xs).length ≤ (arr.toList.take off ++ vs ++ arr.toList.drop (off + vs.length)).toArray.size ∧
    (∀ (i : Nat) (v : Value), (arr.toList.take off ++ vs ++ arr.toList.drop (off + vs.length)).toArray[i]? = some v → v.oneCell' = true) ∧
    ∀ (i : Nat) (x : V) (v : Value), (putCells l off xs)[i]? = some x → (arr.toList.take off ++ vs ++ arr.toList.drop (off + vs.length)).toArray[i]? = some v → Rep w M μ c x v := by
  have key : ∀ i : Nat, (arr.toList.take off ++ vs ++ arr.toList.drop (off + vs.length))[i]? = if off ≤ i ∧ i < off + vs.length then vs[i - off]? else arr[i]? := by
    intro i
    rw [List.append_assoc, List.getElem?_append]
    simp only [List.length_take, Array.length_toList]
    have ho : min off arr.size = off := by omega
    rw [ho]
    by_cases h : i < off
    · rw [if_pos h, if_neg (by omega), List.getElem?_take, if_pos h]; simp
    · rw [if_neg h, List.getElem?_append]
      by_cases h' : i - off < vs.length
      · rw [if_pos h', if_pos (by omega)]
      · rw [if_neg h', if_neg (by omega), List.getElem?_drop]
        have : off + vs.length + (i - off - vs.length) = i := by omega
        rw [this]; simp
  refine ⟨?_, fun i v hv => ?_, fun i x v hx hv => ?_⟩
  · rw [putCells_length]; simp; omega
  · rw [List.getElem?_toArray, key] at hv
    split at hv
    · exact hv1 v (List.mem_of_getElem? hv)
    · exact h1 i v hv
  · rw [List.getElem?_toArray, key] at hv
    rw [putCells_get] at hx
    split at hv
    · rw [if_pos (by omega)] at hx; exact hv2 _ x v hx hv
    · rw [if_neg (by omega)] at hx; exact h2 i x v hx hv

theorem did_store (hI : Inv F S a w μ) {o : Oper} {draw : Bool} (hd : ∀ i, o.dst = some i → i < F.nt) {n : Nat} {x y : X} (ho : resOp F.P draw o = .store n x y) {σ' : Nat → Option Blk} (h : vstore S.σ n (x.ev S.ρ) (y.ev S.ρ) = some σ') : Did F S a w o .any σ' S.c none := by
  obtain ⟨t, x0, y0, ti, hop, hti, hsz, hx, hy⟩ := inv_store ho
  have hr := resX_rep hI.env hx
  have hry := resX_rep hI.env hy
  unfold vstore at h
  split at h
  · rename_i tk off cs he hcs
    split at h
    · rename_i b hb
      split at h
      · rename_i hc
        obtain ⟨hl, hlen, hoff⟩ := hc
        simp only [Option.some.injEq] at h; subst h
        rw [he] at hr
        obtain ⟨e, _⟩ := hr
        obtain ⟨arr, T, g1, g2, g3, g4⟩ := hI.mem.blk tk b hb
        have hc := vcells_rep hcs hry
        have hone : ∀ v ∈ (a.eval y0).cells.toList, v.oneCell' = true := fun v hv => by obtain ⟨j, hj⟩ := List.getElem?_of_mem hv; exact hc.2.1 j v (by simpa using hj)
        have hnew := row_put (off := off) g2 g3 g4 (vs := (a.eval y0).cells.toList) (by simpa using hc.1) hone (fun j x v hx hv => hc.2.2 j x v hx (by simpa using hv)) (by omega)
        have hst := run_storeCells_at F.P (μ tk) off T (a.eval y0).cells.toList 0 arr w g1 (by have := hc.1; simp; omega) hone
        have hb' := mem_set hI.mem hb hl g1 (by have := hc.1; simp; omega) hnew
        have hI' := (hI.back hb').put o.dst hd (v := .any) (u := undef) (RepE.of_one (.any _))
        refine ⟨.skip, undef, _, μ, ?_, .inr ⟨rfl, rfl⟩, hI'⟩
        have hsz' : (a.eval y0).cells.size = ti.size := by have := hc.1; omega
        simp only [Nat.add_zero] at hst
        simp [execOp, hop, Instr.storeAt, e, Instr.sureAddr, storeVar, sizeOf, typeInfo, hti, hsz', hst]
      · cases h
    · cases h
  · cases h
end Go.VM
