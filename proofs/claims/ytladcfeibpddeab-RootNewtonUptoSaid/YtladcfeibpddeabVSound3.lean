import Derived.Test.YtladcfeibpddeabVSound2
set_option linter.unusedVariables false
set_option linter.unusedSimpArgs false
namespace Go.VM
open Go.RowKit

variable {F : Ctx} {S : VS} {a : Act} {w : World} {μ : Nat → Nat} {M : Nat → Prop} {c : Nat}

theorem run_append_in (P : Program) (t ty e : TypeId) (i : TypeInfo) (ht : P.underlying t = some (.slice e)) (hi : P.info? e = some i)
    (g sLen sCap : Nat) (cur : Array Value) (T : TypeId) (hg : w.heap[g]? = some (.cells cur T (0, 0)))
    (ad : Addr) (m q : Nat) (news : List Value) (hl : news.length = m * i.size) (hnews : ∀ (j : Nat) (u : Value), news[j]? = some u → w.cell? (ad.add j) = some u) (h1 : ∀ u ∈ news, u.oneCell' = true)
    (hroom : sLen + m ≤ sCap) (hfit : sLen * i.size + news.length ≤ cur.size) :
    (Builtin.append_ #[t, t] ty #[.slice (some ⟨g, 0, none⟩) sLen sCap, .slice (some ad) m q]).run P w =
      .ok (.slice (some ⟨g, 0, none⟩) (sLen + m) sCap) (w.setRow g (cur.toList.take (sLen * i.size) ++ news ++ cur.toList.drop (sLen * i.size + news.length)).toArray) := by
  have hf := run_firstCells_some (P := P) w i.size m ad m q news hl hnews
  have hst := run_storeCells_at P g (sLen * i.size) T news 0 cur w hg (by simpa using hfit) h1
  simp only [Nat.add_zero] at hst
  simp [Builtin.append_, run_underlying ht, sizeOf, typeInfo, hi, Builtin.lenOf, hroom, hf, add_mk, hst]

theorem run_append_none (P : Program) (t ty e : TypeId) (i : TypeInfo) (ht : P.underlying t = some (.slice e)) (hi : P.info? e = some i) (b : Option Addr) (n cp : Nat) (hn : n ≤ cp) :
    (Builtin.append_ #[t, t] ty #[.slice b n cp, .slice none 0 0]).run P w = .ok (.slice b n cp) w := by
  cases b <;> simp [Builtin.append_, run_underlying ht, sizeOf, typeInfo, hi, Builtin.lenOf, Builtin.firstCells, hn, storeCells]

theorem run_append_zero (P : Program) (t ty e : TypeId) (i : TypeInfo) (ht : P.underlying t = some (.slice e)) (hi : P.info? e = some i) (ad : Addr) (q : Nat) :
    (Builtin.append_ #[t, t] ty #[.slice none 0 0, .slice (some ad) 0 q]).run P w = .ok (.slice none 0 0) w := by
  simp [Builtin.append_, run_underlying ht, sizeOf, typeInfo, hi, Builtin.lenOf, Builtin.firstCells, loadCells, loadCellsFrom]

theorem zeroCells_one {z : Array Value} (h : z.all (·.oneCell') = true) (hz : 0 < z.size) (n : Nat) {i : Nat} {v : Value} (hv : (Builtin.zeroCells z n)[i]? = some v) : v.oneCell' = true := by
  unfold Builtin.zeroCells at hv
  simp at hv
  obtain ⟨q, _, rfl⟩ := hv
  have hm : q % z.size < z.size := Nat.mod_lt _ hz
  rw [getElem!_pos z _ hm]
  exact Array.all_eq_true_iff_forall_mem.1 h _ (Array.getElem_mem hm)

theorem run_callb (P : Program) {o : Oper} {cl : Call} {b : Builtin} (hop : o.op = .call cl) (hc : cl.callee = .builtin .append) {x y : Operand} (ha : cl.args = #[x, y]) {t : TypeId} (ht : cl.argTypes = #[t, t]) {u : Value} {w' : World}
    (h : (Builtin.append_ #[t, t] o.type #[a.eval x, a.eval y]).run P w = .ok u w') : (execOp a.eval o).run P w = .ok (.value u) w' := by
  simp [execOp, hop, resolve, hc, ha, ht, invoke, builtin, h]

theorem nil_rep {sz0 : Nat} {u : Value} (h : RepE w M μ c (.sl .nil sz0 []) u) : u = .slice none 0 0 := by
  have h' : Rep w M μ c (.sl .nil sz0 []) u := h
  cases h' with
  | nil _ => rfl
  | sl _ _ _ _ _ _ _ ht => exact ht.elim

theorem did_appNil (hI : Inv F S a w μ) {o : Oper} {draw : Bool} (hd : ∀ i, o.dst = some i → i < F.nt) {sz bytes : Nat} {z : List Value} {x y : X} (ho : resOp F.P draw o = .app sz bytes z x y) {k : Nat} {ys : List V} {sz0 : Nat} (hx : x.ev S.ρ = .sl .nil sz0 []) (hy : vcells sz S.σ (y.ev S.ρ) = some ys)
    (hk : ys.length = k * sz) (h0 : 0 < k) (h2 : k * bytes ≤ 281474976710656) (h3 : k ≤ 4611686018427387904) : Did F S a w o (.buf S.c 0 k none sz) (supd S.σ S.c (some ⟨ys, true⟩)) (S.c + 1) none := by
  obtain ⟨cl, x0, y0, t, t', e, e', i, zv, hop, hcl, hargs, hats, ht, hu, hi, hz, rfl, rfl, rfl, hs0, hb0, hsz, hone, hx0, hy0⟩ := inv_app ho
  have ex := nil_rep (hx ▸ resX_rep hI.env hx0)
  rcases src_rep hI hy (resX_rep hI.env hy0) with ⟨_, rfl⟩ | ⟨ad, m, cp, news, ey, _, hm, hnl, hcell, hn1, hrep⟩
  · have := Nat.mul_pos h0 hs0; simp at hk; omega
  · have hmk : m = k := Nat.eq_of_mul_eq_mul_right hs0 (hm.symm.trans hk)
    subst hmk
    have hr := run_append_nil (P := F.P) w t o.type e i zv ht hi hz ad m cp news (hnl.trans hm) hcell h0 (by omega) h2
    have hge := grownCap_ge w m 0 e
    refine did_new hI hd (some ⟨ys, true⟩) rfl rfl rfl (w' := w.drew.alloc (.cells (news.toArray ++ Builtin.zeroCells zv.cells (grownCap w m 0 e - m)) e)) rfl (fun k hk => ?_) (u := .slice (some ⟨w.heap.size, 0, none⟩) m (grownCap w m 0 e))
      (run_callb F.P (b := .append) hop hcl hargs hats (by rw [ex, ey]; exact hr)) rfl fun μ' hμ hB => ?_
    · cases hk
      refine ⟨by simp [hnl], fun j v hv => ?_, fun j x v hx hv => ?_⟩
      · rw [Array.getElem?_append] at hv
        split at hv
        · exact hn1 v (by simp at hv; exact List.mem_of_getElem? hv)
        · exact zeroCells_one hone (by omega) _ hv
      · have hj : j < ys.length := (List.getElem?_eq_some_iff.1 hx).1
        rw [Array.getElem?_append, if_pos (by simp; omega)] at hv
        exact hrep j x v hx (by simpa using hv)
    · refine ⟨_, 0, by rw [hμ], fun _ => rfl, hge, by omega, hs0, trivial, _, _, by rw [hμ]; exact heap_push_new rfl, ?_⟩
      simp [size_zeroCells, hsz, hnl, hm]
      rw [← Nat.add_mul]
      exact Nat.mul_le_mul_right _ (by omega)

theorem did_appNil0 (hI : Inv F S a w μ) {o : Oper} {draw : Bool} (hd : ∀ i, o.dst = some i → i < F.nt) {sz bytes : Nat} {z : List Value} {x y : X} (ho : resOp F.P draw o = .app sz bytes z x y) {sz0 : Nat} (hx : x.ev S.ρ = .sl .nil sz0 []) (hy : vcells sz S.σ (y.ev S.ρ) = some []) :
    Did F S a w o (.sl .nil sz0 []) S.σ S.c none := by
  obtain ⟨cl, x0, y0, t, t', e, e', i, zv, hop, hcl, hargs, hats, ht, hu, hi, hz, rfl, rfl, rfl, hs0, hb0, hsz, hone, hx0, hy0⟩ := inv_app ho
  have ex := nil_rep (hx ▸ resX_rep hI.env hx0)
  have fin : ∀ uy, a.eval y0 = uy → (Builtin.append_ #[t, t] o.type #[.slice none 0 0, uy]).run F.P w = .ok (.slice none 0 0) w → Did F S a w o (.sl .nil sz0 []) S.σ S.c none := fun uy e1 h =>
    ⟨.value (.slice none 0 0), .slice none 0 0, w, μ, run_callb F.P (b := .append) hop hcl hargs hats (by rw [ex, e1]; exact h), .inl rfl, hI.put o.dst hd (RepE.of_one (.nil _ _))⟩
  rcases src_rep hI hy (resX_rep hI.env hy0) with ⟨ey, _⟩ | ⟨ad, m, cp, news, ey, _, hm, hnl, hcell, hn1, hrep⟩
  · exact fin _ ey (run_append_none F.P t o.type e i ht hi none 0 0 (Nat.le_refl _))
  · have hm0 : m = 0 := by
      have : m * i.size = 0 := by simpa using hm.symm
      rcases Nat.mul_eq_zero.1 this with h | h
      · exact h
      · omega
    subst hm0
    exact fin _ ey (run_append_zero F.P t o.type e i ht hi ad cp)

theorem supd_self {σ : Nat → Option Blk} {t : Nat} {b : Option Blk} (h : σ t = b) : supd σ t b = σ := by
  funext j; unfold supd; split
  · rename_i e; subst e; exact h.symm
  · rfl

theorem did_appFit (hI : Inv F S a w μ) {o : Oper} {draw : Bool} (hd : ∀ i, o.dst = some i → i < F.nt) {sz bytes : Nat} {z : List Value} {x y : X} (ho : resOp F.P draw o = .app sz bytes z x y) {t n k cap : Nat} {cs ys : List V} (hx : x.ev S.ρ = .buf t 0 n (some cap) sz) (ht : S.σ t = some ⟨cs, true⟩)
    (hy : vcells sz S.σ (y.ev S.ρ) = some ys) (hk : ys.length = k * sz) (h1 : n + k ≤ cap) (h2 : (n + k) * sz ≤ cs.length) : Did F S a w o (.buf t 0 (n + k) (some cap) sz) (supd S.σ t (some ⟨putCells cs (n * sz) ys, true⟩)) S.c none := by
  obtain ⟨cl, x0, y0, tt, t', e, e', i, zv, hop, hcl, hargs, hats, htt, hu, hi, hz, rfl, rfl, rfl, hs0, hb0, hsz, hone, hx0, hy0⟩ := inv_app ho
  obtain ⟨cp, of', ex, hof, hcp, htc, _, hcap, arrb, Tb, hb1, hb2⟩ := hx ▸ resX_rep hI.env hx0
  simp only at hcap
  subst hcap
  obtain ⟨arr, T, g1, g2, g3, g4⟩ := hI.mem.blk t _ ht
  have g2 : cs.length ≤ arr.size := g2
  have harr : arrb = arr := by rw [hb1] at g1; cases g1; rfl
  subst harr
  rcases src_rep hI hy (resX_rep hI.env hy0) with ⟨ey, rfl⟩ | ⟨ad, m, cpy, news, ey, _, hm, hnl, hcell, hn1, hrep⟩
  · have hk0 : k = 0 := by
      rcases Nat.mul_eq_zero.1 (by simpa using hk.symm) with h | h
      · exact h
      · omega
    subst hk0
    simp only [putCells, supd_self ht]
    exact ⟨.value _, _, w, μ, run_callb F.P (b := .append) hop hcl hargs hats (by rw [ex, ey]; exact run_append_none F.P tt o.type e i htt hi _ n cp hcp), .inl rfl, hI.put o.dst hd ⟨cp, of', rfl, hof, hcp, htc, hs0, rfl, _, _, hb1, hb2⟩⟩
  · have hmk : m = k := Nat.eq_of_mul_eq_mul_right hs0 (hm.symm.trans hk)
    subst hmk
    have hofe : of' = 0 ∨ cp = 0 := by rcases Nat.eq_zero_or_pos cp with h | h; exact .inr h; exact .inl (hof h)
    by_cases hcp0 : cp = 0
    · have : n = 0 := by omega
      have hm0 : m = 0 := by omega
      subst this hm0 hcp0
      have hys : ys = [] := List.eq_nil_of_length_eq_zero (by simpa using hk)
      subst hys
      simp only [putCells, supd_self ht]
      have hr : (Builtin.append_ #[tt, tt] o.type #[.slice (some ⟨μ t, of', none⟩) 0 0, .slice (some ad) 0 cpy]).run F.P w = .ok (.slice (some ⟨μ t, of', none⟩) 0 0) w := by
        simp [Builtin.append_, run_underlying htt, sizeOf, typeInfo, hi, Builtin.lenOf, Builtin.firstCells, loadCells, loadCellsFrom, storeCells]
      exact ⟨.value _, _, w, μ, run_callb F.P (b := .append) hop hcl hargs hats (by rw [ex, ey]; exact hr), .inl rfl, hI.put o.dst hd ⟨0, of', rfl, hof, hcp, htc, hs0, rfl, _, _, hb1, hb2⟩⟩
    · have hof0 : of' = 0 := hof (by omega)
      subst hof0
      rw [Nat.add_mul] at h2
      have hr := run_append_in (w := w) F.P tt o.type e i htt hi (μ t) n cp arrb T g1 ad m cpy news (hnl.trans hm) hcell hn1 h1 (by rw [hnl, hm]; omega)
      have hput := row_put (off := n * i.size) g2 g3 g4 hnl hn1 hrep (by rw [hm]; omega)
      have hB := mem_set hI.mem ht rfl g1 (arr := (arrb.toList.take (n * i.size) ++ news ++ arrb.toList.drop (n * i.size + news.length)).toArray) (by simp; omega) hput
      refine ⟨.value _, _, _, μ, run_callb F.P (b := .append) hop hcl hargs hats (by rw [ex, ey]; exact hr), .inl rfl, (hI.back hB).put o.dst hd ⟨cp, 0, rfl, fun _ => rfl, h1, htc, hs0, rfl, _, _, setRow_heap w _ _ _ T (0, 0) g1, ?_⟩⟩
      simp; omega

theorem did_appMove (hI : Inv F S a w μ) {o : Oper} {draw : Bool} (hd : ∀ i, o.dst = some i → i < F.nt) {sz bytes : Nat} {z : List Value} {x y : X} (ho : resOp F.P draw o = .app sz bytes z x y) {t n k : Nat} {cap : Option Nat} {cs ys : List V} (hx : x.ev S.ρ = .buf t 0 n cap sz) (ht : S.σ t = some ⟨cs, true⟩) (ht0 : F.c0 ≤ t)
    (hy : vcells sz S.σ (y.ev S.ρ) = some ys) (hk : ys.length = k * sz) (h1 : n * sz ≤ cs.length) (h2 : (2 * (n + k)) * bytes ≤ 281474976710656) (h3 : n + k ≤ 4611686018427387904) : Did F S a w o (.buf t 0 (n + k) none sz) (supd S.σ t (some ⟨cs.take (n * sz) ++ ys, true⟩)) S.c (some t) := by
  obtain ⟨cl, x0, y0, tt, t', e, e', i, zv, hop, hcl, hargs, hats, htt, hu, hi, hz, rfl, rfl, rfl, hs0, hb0, hsz, hone, hx0, hy0⟩ := inv_app ho
  obtain ⟨cp, of', ex, hof, hcp, htc, _, _, arrb, Tb, hb1, hb2⟩ := hx ▸ resX_rep hI.env hx0
  obtain ⟨arr, T, g1, g2, g3, g4⟩ := hI.mem.blk t _ ht
  have g2 : cs.length ≤ arr.size := g2
  have harr : arrb = arr := by rw [hb1] at g1; cases g1; rfl
  subst harr
  -- the cells stay where they are
  have stay : ∀ (news : List Value) (w' : World), news.length = ys.length → (∀ v ∈ news, v.oneCell' = true) → (∀ (j : Nat) (x : V) (v : Value), ys[j]? = some x → news[j]? = some v → Rep w (F.M S.σ w μ) μ S.c x v) → n + k ≤ cp → (0 < cp → w' = w.setRow (μ t) (arrb.toList.take (n * i.size) ++ news ++ arrb.toList.drop (n * i.size + news.length)).toArray) → (cp = 0 → w' = w) →
      (Builtin.append_ #[tt, tt] o.type #[a.eval x0, a.eval y0]).run F.P w = .ok (.slice (some ⟨μ t, of', none⟩) (n + k) cp) w' → Did F S a w o (.buf t 0 (n + k) none i.size) (supd S.σ t (some ⟨cs.take (n * i.size) ++ ys, true⟩)) S.c (some t) := by
    intro news w' hnl hn1 hrep hroom hw1 hw0 hrun
    have hcpm := Nat.mul_le_mul_right i.size hroom
    rw [Nat.add_mul] at hcpm
    generalize harr' : (arrb.toList.take (n * i.size) ++ news ++ arrb.toList.drop (n * i.size + news.length)).toArray = arr'
    have hget : ∀ j : Nat, arr'[j]? = if j < n * i.size then arrb[j]? else if j - n * i.size < news.length then news[j - n * i.size]? else arrb[j]? := by
      intro j
      subst harr'
      rw [List.getElem?_toArray, List.append_assoc, List.getElem?_append]
      simp only [List.length_take, Array.length_toList]
      have ho : min (n * i.size) arrb.size = n * i.size := by omega
      rw [ho]
      by_cases h : j < n * i.size
      · rw [if_pos h, if_pos h, List.getElem?_take, if_pos h]; simp
      · rw [if_neg h, if_neg h, List.getElem?_append]
        by_cases h' : j - n * i.size < news.length
        · rw [if_pos h', if_pos h']
        · rw [if_neg h', if_neg h', List.getElem?_drop]
          have : n * i.size + news.length + (j - n * i.size - news.length) = j := by omega
          rw [this]; simp
    have hl' : (cs.take (n * i.size) ++ ys).length = n * i.size + ys.length := by simp; omega
    have hsize : arrb.size ≤ arr'.size := by subst harr'; simp; omega
    have hcells : (cs.take (n * i.size) ++ ys).length ≤ arr'.size ∧ (∀ (j : Nat) (v : Value), arr'[j]? = some v → v.oneCell' = true) ∧ ∀ (j : Nat) (x : V) (v : Value), (cs.take (n * i.size) ++ ys)[j]? = some x → arr'[j]? = some v → Rep w (F.M S.σ w μ) μ S.c x v := by
      refine ⟨?_, fun j v hv => ?_, fun j x v hx hv => ?_⟩
      · rw [hl']
        have : arr'.size = arrb.size ∨ n * i.size + news.length ≤ arr'.size := by subst harr'; right; simp; omega
        rcases this with h | h <;> omega
      · rw [hget] at hv
        split at hv
        · exact g3 j v hv
        · split at hv
          · exact hn1 v (List.mem_of_getElem? hv)
          · exact g3 j v hv
      · rw [hget] at hv
        rw [List.getElem?_append] at hx
        simp only [List.length_take] at hx
        have ho : min (n * i.size) cs.length = n * i.size := by omega
        rw [ho] at hx
        by_cases h : j < n * i.size
        · rw [if_pos h] at hv hx
          rw [List.getElem?_take, if_pos h] at hx
          exact g4 j x v hx hv
        · rw [if_neg h] at hv hx
          have hj := (List.getElem?_eq_some_iff.1 hx).1
          rw [if_pos (by omega)] at hv
          exact hrep _ x v hx hv
    have hB := mem_set hI.mem ht rfl g1 hsize hcells
    have key : Inv F ⟨S.ρ, supd S.σ t (some ⟨cs.take (n * i.size) ++ ys, true⟩), S.c⟩ a (w.setRow (μ t) arr') μ := hI.back hB
    have hw' : w' = w.setRow (μ t) arr' := by
      rcases Nat.eq_zero_or_pos cp with h | h
      · have e1 : n = 0 := by omega
        have e2 : k = 0 := by omega
        subst e1 e2
        have : ys = [] := List.eq_nil_of_length_eq_zero (by simpa using hk)
        subst this
        have : news = [] := List.eq_nil_of_length_eq_zero (by simpa using hnl)
        subst this
        rw [hw0 h, ← harr']
        simp
        exact (setRow_self w _ arrb T (0, 0) g1).symm
      · rw [hw1 h, harr']
    subst hw'
    have kill' : Inv F ⟨kill (some t) S.ρ, supd S.σ t (some ⟨cs.take (n * i.size) ++ ys, true⟩), S.c⟩ a (w.setRow (μ t) arr') μ :=
      ⟨key.size, key.defers, key.mem, fun j => killV_rep (key.env j) (Grows.refl _) (fun _ _ => rfl) (fun _ h => h) (fun _ _ _ => rfl) (fun _ _ _ => rfl)⟩
    refine ⟨.value _, _, _, μ, run_callb F.P (b := .append) hop hcl hargs hats hrun, .inl rfl, kill'.put o.dst hd ⟨cp, of', rfl, hof, hroom, htc, hs0, trivial, _, _, setRow_heap w _ _ _ T (0, 0) g1, ?_⟩⟩
    omega
  rcases src_rep hI hy (resX_rep hI.env hy0) with ⟨ey, rfl⟩ | ⟨ad, m, cpy, news, ey, _, hm, hnl, hcell, hn1, hrep⟩
  · have hk0 : k = 0 := by
      rcases Nat.mul_eq_zero.1 (by simpa using hk.symm) with h | h
      · exact h
      · omega
    subst hk0
    refine stay [] w rfl (fun v hv => by simp at hv) (fun j x v hx => by simp at hx) hcp (fun _ => ?_) (fun _ => rfl) (by rw [ex, ey]; exact run_append_none F.P tt o.type e i htt hi _ n cp hcp)
    simp
    exact (setRow_self w _ arrb T (0, 0) g1).symm
  · have hmk : m = k := Nat.eq_of_mul_eq_mul_right hs0 (hm.symm.trans hk)
    subst hmk
    by_cases hroom : n + m ≤ cp
    · by_cases hcp0 : cp = 0
      · have e1 : n = 0 := by omega
        have e2 : m = 0 := by omega
        subst e1 e2
        have hr : (Builtin.append_ #[tt, tt] o.type #[.slice (some ⟨μ t, of', none⟩) 0 cp, .slice (some ad) 0 cpy]).run F.P w = .ok (.slice (some ⟨μ t, of', none⟩) 0 cp) w := by
          simp [Builtin.append_, run_underlying htt, sizeOf, typeInfo, hi, Builtin.lenOf, Builtin.firstCells, loadCells, loadCellsFrom, storeCells]
        exact stay news w hnl hn1 hrep hroom (fun h => by omega) (fun _ => rfl) (by rw [ex, ey]; exact hr)
      · have hof0 : of' = 0 := hof (by omega)
        subst hof0
        have hcpm := Nat.mul_le_mul_right i.size hroom
        rw [Nat.add_mul] at hcpm
        have hr := run_append_in (w := w) F.P tt o.type e i htt hi (μ t) n cp arrb T g1 ad m cpy news (hnl.trans hm) hcell hn1 hroom (by rw [hnl, hm]; omega)
        exact stay news _ hnl hn1 hrep hroom (fun _ => rfl) (fun h => absurd h hcp0) (by rw [ex, ey]; exact hr)
    · have hlt : cp < n + m := by omega
      have hgr := run_append_grow (P := F.P) w tt o.type e i zv htt hi hz ⟨μ t, of', none⟩ n cp (arrb.toList.take (n * i.size)) (by simp; omega) (fun j v hv => by
          rw [List.getElem?_take] at hv
          split at hv
          · have hn0 : 0 < n := by
              rcases Nat.eq_zero_or_pos n with h | h
              · subst h; omega
              · exact h
            rw [hof (by omega), add_mk]
            simp only [World.cell?, g1]
            simpa using hv
          · cases hv) ad m cpy news (hnl.trans hm) hcell hlt (by omega) (Nat.le_trans (Nat.mul_le_mul_right _ (nextslicecap_le hlt)) h2)
      have hge := grownCap_ge w (n + m) cp e
      have hB := mem_move hI.mem ht rfl ht0 (w' := w.drew.alloc (.cells ((arrb.toList.take (n * i.size)).toArray ++ news.toArray ++ Builtin.zeroCells zv.cells (grownCap w (n + m) cp e - (n + m))) e)) (cells := cs.take (n * i.size) ++ ys) rfl rfl rfl rfl (by
        have hget : ∀ j : Nat, ((arrb.toList.take (n * i.size)).toArray ++ news.toArray ++ Builtin.zeroCells zv.cells (grownCap w (n + m) cp e - (n + m)))[j]? = if j < n * i.size then arrb[j]? else if j < n * i.size + news.length then news[j - n * i.size]? else (Builtin.zeroCells zv.cells (grownCap w (n + m) cp e - (n + m)))[j - (n * i.size + news.length)]? := by
          intro j
          rw [Array.append_assoc, Array.getElem?_append]
          have ho : min (n * i.size) arrb.size = n * i.size := by omega
          simp only [List.size_toArray, List.length_take, Array.length_toList, ho]
          by_cases h : j < n * i.size
          · rw [if_pos h, if_pos h, List.getElem?_toArray, List.getElem?_take, if_pos h]; simp
          · rw [if_neg h, if_neg h, Array.getElem?_append]
            simp only [List.size_toArray]
            by_cases h' : j < n * i.size + news.length
            · rw [if_pos h', if_pos (by omega)]; simp
            · rw [if_neg h', if_neg (by omega)]; congr 1; omega
        refine ⟨by simp; omega, fun j v hv => ?_, fun j x v hx hv => ?_⟩
        · rw [hget] at hv
          split at hv
          · exact g3 j v hv
          · split at hv
            · exact hn1 v (List.mem_of_getElem? hv)
            · exact zeroCells_one hone (by omega) _ hv
        · rw [hget] at hv
          rw [List.getElem?_append] at hx
          simp only [List.length_take] at hx
          have ho : min (n * i.size) cs.length = n * i.size := by omega
          rw [ho] at hx
          by_cases h : j < n * i.size
          · rw [if_pos h] at hv hx
            rw [List.getElem?_take, if_pos h] at hx
            exact g4 j x v hx hv
          · rw [if_neg h] at hv hx
            have hj := (List.getElem?_eq_some_iff.1 hx).1
            rw [if_pos (by omega)] at hv
            exact hrep _ x v hx hv)
      refine ⟨.value _, _, _, _, run_callb F.P (b := .append) hop hcl hargs hats (by rw [ex, ey]; exact hgr), .inl rfl, (hI.move ht rfl hB).put o.dst hd ⟨_, 0, by rw [newμ_new], fun _ => rfl, hge, htc, hs0, trivial, _, _, by rw [newμ_new]; exact heap_push_new rfl, ?_⟩⟩
      simp [size_zeroCells, hsz, hnl, hm]
      have ho : min (n * i.size) arrb.size = n * i.size := by omega
      rw [ho, ← Nat.add_mul, ← Nat.add_mul]
      exact Nat.mul_le_mul_right _ (by omega)
end Go.VM
