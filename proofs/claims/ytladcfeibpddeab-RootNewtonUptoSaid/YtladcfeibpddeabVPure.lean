import Derived.Test.YtladcfeibpddeabVInv
set_option linter.unusedVariables false
set_option linter.unusedSimpArgs false
namespace Go.VM
open Go.RowKit

variable {w : World} {M : Nat → Prop} {μ : Nat → Nat} {c : Nat}

theorem rep_cell (v : Value) : Rep w M μ c (ofCell v) v := by
  unfold ofCell
  split
  · exact .nil .nil 1
  · exact .lit _

theorem rep_value (v : Value) (h1 : ∀ cs, v = .agg cs → cs.all (·.oneCell') = true) : Rep w M μ c (ofValue v) v := by
  unfold ofValue
  split
  · rename_i cs
    refine .agg _ _ (by simp) (fun j v hv => ?_) fun j x v hx hv => ?_
    · exact Array.all_eq_true_iff_forall_mem.1 (h1 cs rfl) v (Array.mem_of_getElem? hv)
    simp at hx
    obtain ⟨u, hu, rfl⟩ := hx
    rw [hv] at hu
    cases hu
    exact rep_cell v
  · exact rep_cell v

theorem resX_rep {ρ : Nat → V} {a : Act} (henv : ∀ i, RepE w M μ c (ρ i) (a.tmps.getD i undef)) {o : Operand} {x : X} (h : resX o = some x) : RepE w M μ c (x.ev ρ) (a.eval o) := by
  cases o with
  | tmp t => simp [resX] at h; subst h; exact henv t
  | const v =>
    simp only [resX] at h
    split at h
    · rename_i cs
      split at h
      · rename_i hc
        simp only [Option.some.injEq] at h; subst h
        exact RepE.of_one (rep_value (.agg cs) fun cs' e => by cases e; exact hc)
      · cases h
    · rename_i hne
      simp only [Option.some.injEq] at h; subst h
      exact RepE.of_one (rep_value _ fun cs' e => (hne _ e).elim)
  | func f => simp [resX] at h; subst h; exact RepE.of_one (.lit _)
  | global g => simp [resX] at h

theorem repE_lit {u v : Value} (h : RepE w M μ c (.lit v) u) : u = v := by
  have h' : Rep w M μ c (.lit v) u := h
  cases h'; rfl
theorem repE_tup {l : List V} {u : Value} (h : RepE w M μ c (.tup l) u) : ∃ cs, u = .tuple cs ∧ cs.size = l.length ∧ ∀ (j : Nat) (x : V) (v : Value), l[j]? = some x → cs[j]? = some v → Rep w M μ c x v := by
  have h' : Rep w M μ c (.tup l) u := h
  cases h' with | tup _ cs hn hl => exact ⟨cs, rfl, hn, hl⟩
theorem repE_agg {l : List V} {u : Value} (h : RepE w M μ c (.agg l) u) : ∃ cs, u = .agg cs ∧ cs.size = l.length ∧ (∀ (j : Nat) (v : Value), cs[j]? = some v → v.oneCell' = true) ∧ ∀ (j : Nat) (x : V) (v : Value), l[j]? = some x → cs[j]? = some v → Rep w M μ c x v := by
  have h' : Rep w M μ c (.agg l) u := h
  cases h' with | agg _ cs hn h1 hl => exact ⟨cs, rfl, hn, h1, hl⟩

/-- the operation comes to a value and leaves the world alone -/
def Yields1 (P : Program) (a : Act) (o : Oper) (w : World) (u : Value) : Prop := (execOp a.eval o).run P w = .ok (.value u) w

theorem run_int (P : Program) {op : BinOp} {k : IntKind} {x y : Int} {v : Value} (h : vint op k x y = some v) (hs : BinOp.isShift op = false) (t : TypeId) : (binOp op t (.int k x) (.int k y)).run P w = .ok v w := by
  cases op <;> simp only [vint, BinOp.isShift] at h hs <;>
    first
      | (cases hs; done)
      | (simp at h; subst h; simp [binOp, Op.intArith, Op.intBits, Op.intCmp, pure, Sem.run])
      | (split at h
         · cases h
         · rename_i hy; simp at h; subst h; simp [binOp, Op.intDiv, hy, pure, Sem.run])

theorem run_shift (P : Program) {op : BinOp} {k k' : IntKind} {x y : Int} {v : Value} (h : vshift op k x y = some v) (t : TypeId) : (binOp op t (.int k x) (.int k' y)).run P w = .ok v w := by
  unfold vshift at h
  split at h
  · cases h
  · rename_i hy
    cases op <;> simp at h
    · subst h; simp [binOp, Op.shift, hy, pure, Sem.run]
    · subst h; simp [binOp, Op.shift, hy, pure, Sem.run]

theorem run_eqGuard_int (P : Program) (op : BinOp) (t : TypeId) (x y : Operand) (k k' : IntKind) (a b : Int) : (eqGuard op t x y (.int k a) (.int k' b)).run P w = .ok () w := by
  unfold eqGuard
  cases op <;> simp [pure, Sem.run]
theorem run_eqGuard_bool (P : Program) (op : BinOp) (t : TypeId) (x y : Operand) (a b : Bool) : (eqGuard op t x y (.bool a) (.bool b)).run P w = .ok () w := by
  unfold eqGuard
  cases op <;> simp [pure, Sem.run]

theorem run_bin (P : Program) {op : BinOp} {isb : Bool} {x y v : V} {t : TypeId} (hb : isb = true → P.underlying t = some .bool) (h : vbin op isb x y = some v) {ux uy : Value} (hx : RepE w M μ c x ux) (hy : RepE w M μ c y uy) (ox oy : Operand) :
    ∃ u, ((do eqGuard op t ox oy ux uy; binOp op t ux uy) : Sem Value).run P w = .ok u w ∧ RepE w M μ c v u := by
  unfold vbin at h
  split at h
  · rename_i k a k' b
    rw [repE_lit hx, repE_lit hy]
    split at h
    · rename_i hs
      cases hv : vshift op k a b with
      | none => simp [hv] at h
      | some u =>
        simp [hv] at h; subst h
        refine ⟨u, ?_, RepE.of_one (.lit u)⟩
        have := run_shift (w := w) (k' := k') P hv t
        simp [Sem.run_bind, run_eqGuard_int, this, Result.andThen]
    · rename_i hs
      split at h
      · rename_i hk
        subst hk
        cases hv : vint op k a b with
        | none => simp [hv] at h
        | some u =>
          simp [hv] at h; subst h
          refine ⟨u, ?_, RepE.of_one (.lit u)⟩
          have := run_int (w := w) P hv (by simpa using hs) t
          simp [Sem.run_bind, run_eqGuard_int, this, Result.andThen]
      · cases h
  · rename_i a b
    rw [repE_lit hx, repE_lit hy]
    split at h
    · rename_i hi
      have ht := hb hi
      split at h <;> simp at h <;> subst h <;> refine ⟨_, ?_, RepE.of_one (.lit _)⟩
      · simp only [Sem.run_bind, run_eqGuard_bool, Result.andThen]; exact run_eql_bool w t a b ht
      · simp only [Sem.run_bind, run_eqGuard_bool, Result.andThen]; exact run_neq_bool w t a b ht
    · cases h
  · cases h

theorem run_un (P : Program) {op : UnOp} {x v : V} (h : vun op x = some v) {ux : Value} (hx : RepE w M μ c x ux) : ∃ u, (Op.unary op ux).run P w = .ok u w ∧ RepE w M μ c v u := by
  unfold vun at h
  split at h
  · rw [repE_lit hx]
    split at h <;> simp at h <;> subst h <;> refine ⟨_, ?_, RepE.of_one (.lit _)⟩ <;> simp [Op.unary, Op.intArith, Op.intBits, pure, Sem.run]
  · rw [repE_lit hx]
    split at h <;> simp at h
    subst h
    exact ⟨_, by simp [Op.unary, pure, Sem.run], RepE.of_one (.lit _)⟩
  · cases h

theorem div_mul_sz {n sz : Nat} (h : 0 < sz) : n * sz / sz = n := Nat.mul_div_cancel n h

theorem run_len (P : Program) {x v : V} (h : vlen x = some v) {ux : Value} (hx : RepE w M μ c x ux) {t e ty : TypeId} (ht : P.underlying t = some (.slice e)) :
    ∃ u, (Builtin.len_ #[t] ty #[ux]).run P w = .ok u w ∧ RepE w M μ c v u := by
  cases x with
  | sl tk sz l =>
    simp [vlen] at h; subst h
    have hx' : Rep w M μ c (.sl tk sz l) ux := hx
    cases hx' with
    | nil _ => exact ⟨.int .i64 0, by simp [Builtin.len_, run_underlying ht, goInt], by simpa using RepE.of_one (.lit (.int .i64 0))⟩
    | sl _ _ n cap a _ vs _ hn _ hs _ _ _ _ =>
      refine ⟨.int .i64 n, by simp [Builtin.len_, run_underlying ht, goInt], ?_⟩
      have := div_mul_sz (n := n) hs
      rw [hn, ← Int.natCast_ediv, this]
      exact RepE.of_one (.lit _)
  | buf t off n cap sz =>
    simp [vlen] at h; subst h
    obtain ⟨cp, of', rfl, _⟩ := hx
    exact ⟨.int .i64 n, by simp [Builtin.len_, run_underlying ht, goInt], RepE.of_one (.lit _)⟩
  | _ => simp [vlen] at h

theorem run_ixa (P : Program) {sz : Nat} {x i v : V} (h : vixa sz x i = some v) {ux ui : Value} (hx : RepE w M μ c x ux) (hi : RepE w M μ c i ui) {t e : TypeId} {j : TypeInfo} (ht : P.underlying t = some (.slice e)) (hj : P.info? e = some j) (hz : j.size = sz) :
    ∃ u, (Instr.indexAt t ux ui).run P w = .ok u w ∧ RepE w M μ c v u := by
  unfold vixa at h
  split at h
  · rename_i tk sz' l k n
    split at h
    · rename_i hc
      obtain ⟨rfl, h0, h1⟩ := hc
      simp at h; subst h
      rw [repE_lit hi]
      have hx' : Rep w M μ c (.sl tk sz' l) ux := hx
      cases hx' with
      | nil _ => simp at h1
      | sl _ _ m cap a _ vs _ hn hcp hs hMb hcap h1c hl =>
        rw [hn, div_mul_sz hs] at h1
        have h2 : n < (m : Int) := by omega
        refine ⟨.pointer (some (a.add (n.toNat * sz'))), ?_, ?_⟩
        · simp [Instr.indexAt, asIntOf, run_underlying ht, h0, h2, sizeOf, typeInfo, hj, hz]
        · have hb : (n.toNat + 1) * sz' ≤ m * sz' := Nat.mul_le_mul_right _ (by omega)
          have hb2 : m * sz' ≤ cap * sz' := Nat.mul_le_mul_right _ hcp
          have hb3 : (n.toNat + 1) * sz' = n.toNat * sz' + sz' := Nat.succ_mul _ _
          refine ⟨_, fun q => vs (n.toNat * sz' + q), rfl, fun hq => ?_, fun q hq => ?_, fun q x hq => hl _ x hq⟩
          · rw [add_block]; exact hMb (by omega)
          · rw [add_add']; exact ⟨hcap _ (by omega), h1c _ (by omega)⟩
    · cases h
  · rename_i t' off len cap sz' k n
    split at h
    · rename_i hc
      obtain ⟨rfl, h0, h1⟩ := hc
      simp at h; subst h
      rw [repE_lit hi]
      obtain ⟨cp, of', rfl, hof, hcp, htc, hs, _, _⟩ := hx
      have h2 : n < (len : Int) := by omega
      rw [hof (by omega)]
      refine ⟨.pointer (some ⟨μ t', off + n.toNat * sz', none⟩), ?_, rfl, htc⟩
      simp [Instr.indexAt, asIntOf, run_underlying ht, h0, h2, sizeOf, typeInfo, hj, hz, add_mk]
    · cases h
  · cases h

theorem run_axa (P : Program) {m sz : Nat} {x i v : V} (h : vaxa m sz x i = some v) {ux ui : Value} (hx : RepE w M μ c x ux) (hi : RepE w M μ c i ui) {t e : TypeId} {j : TypeInfo} (ht : P.underlying t = some (.array m e)) (hj : P.info? e = some j) (hz : j.size = sz) :
    ∃ u, (Instr.indexAt t ux ui).run P w = .ok u w ∧ RepE w M μ c v u := by
  unfold vaxa at h
  split at h
  · rename_i t' off k n
    split at h
    · rename_i hc
      obtain ⟨h0, h1⟩ := hc
      simp at h; subst h
      rw [repE_lit hi]
      obtain ⟨rfl, h2⟩ := hx
      have h3 : n < (m : Int) := by omega
      refine ⟨.pointer (some ⟨μ t', off + n.toNat * sz, none⟩), ?_, rfl, h2⟩
      simp [Instr.indexAt, asIntOf, run_underlying ht, h0, h3, sizeOf, typeInfo, hj, hz, add_mk, Instr.sureAddr]
    · cases h
  · rename_i l i' k n
    split at h
    · rename_i hc
      obtain ⟨h0, h1⟩ := hc
      simp at h; subst h
      rw [repE_lit hi]
      obtain ⟨a, vs, rfl, h2, h3, h4⟩ := hx
      have h5 : n < (m : Int) := by omega
      refine ⟨.pointer (some (a.add (n.toNat * sz))), ?_, a.add (n.toNat * sz), fun q => vs (n.toNat * sz + q), rfl, fun hq => ?_, fun q hq => ?_, fun q x hq => ?_⟩
      · simp [Instr.indexAt, asIntOf, run_underlying ht, h0, h5, sizeOf, typeInfo, hj, hz, Instr.sureAddr]
      · rw [add_block]; exact h2 (by omega)
      · rw [add_add']; exact h3 _ (by omega)
      · rw [Nat.add_assoc] at hq; exact h4 _ x hq
    · cases h
  · cases h

theorem run_isAgg_none (P : Program) {t : TypeId} (ha : aggOf P t = some none) (w : World) : (isAgg t).run P w = .ok false w := by
  unfold aggOf at ha
  cases hd : P.underlying t with
  | none => simp [hd] at ha
  | some d =>
    cases d <;> first | (simp [hd] at ha; done) | (simp [isAgg, run_underlying hd]; done)
theorem run_isAgg_some (P : Program) {t : TypeId} {n : Nat} (ha : aggOf P t = some (some n)) (w : World) : (isAgg t).run P w = .ok true w ∧ (sizeOf t).run P w = .ok n w := by
  unfold aggOf at ha
  cases hd : P.underlying t with
  | none => simp [hd] at ha
  | some d =>
    cases d <;> first
      | (simp [hd] at ha; done)
      | (simp only [hd] at ha
         cases hi : P.info? t with
         | none => simp [hi] at ha
         | some i => simp [hi] at ha; subst ha; exact ⟨by simp [isAgg, run_underlying hd], by simp [sizeOf, typeInfo, hi]⟩)

theorem run_part (P : Program) {l : List V} {i : Nat} {ag : Option Nat} {v : V} (h : vpart l i ag = some v) {cs : Array Value} (hn : cs.size = l.length) (h1 : ∀ (j : Nat) (v : Value), cs[j]? = some v → v.oneCell' = true) (hl : ∀ (j : Nat) (x : V) (v : Value), l[j]? = some x → cs[j]? = some v → Rep w M μ c x v) {t : TypeId} (ha : aggOf P t = some ag) :
    ∃ u, (part t cs i).run P w = .ok u w ∧ Rep w M μ c v u := by
  cases ag with
  | none =>
    simp only [vpart] at h
    obtain ⟨hi, _⟩ := List.getElem?_eq_some_iff.1 h
    have hc : cs[i]? = some (cs[i]'(by omega)) := Array.getElem?_eq_getElem (by omega)
    refine ⟨_, ?_, hl i v _ h hc⟩
    simp only [part, Sem.run_bind, run_isAgg_none P ha, Result.andThen, hc]
    simp [pure, Sem.run]
  | some n =>
    simp only [vpart] at h
    split at h
    · rename_i hb
      simp at h; subst h
      have := run_isAgg_some P ha w
      refine ⟨.agg (cs.extract i (i + n)), ?_, .agg _ _ ?_ (fun j v hv => ?_) fun j x v hx hv => ?_⟩
      · simp only [part, Sem.run_bind, this.1, Result.andThen, if_true, this.2]
        simp [pure, Sem.run, this.2]
      · simp; omega
      · rw [Array.getElem?_extract] at hv
        split at hv
        · exact h1 _ v hv
        · cases hv
      · rw [List.getElem?_take] at hx
        split at hx
        · rename_i hj
          rw [List.getElem?_drop] at hx
          refine hl (i + j) x v hx ?_
          rw [Array.getElem?_extract] at hv
          split at hv
          · exact hv
          · cases hv
        · cases hx
    · cases h

theorem run_aix (P : Program) {m sz : Nat} {ag : Option Nat} {x i v : V} (h : vaix m sz ag x i = some v) {ux ui : Value} (hx : RepE w M μ c x ux) (hi : RepE w M μ c i ui) {t e : TypeId} {j : TypeInfo} (ht : P.underlying t = some (.array m e)) (hj : P.info? e = some j) (hz : j.size = sz) (ha : aggOf P e = some ag) :
    ∃ u, (Instr.index t ux ui).run P w = .ok u w ∧ RepE w M μ c v u := by
  unfold vaix at h
  split at h
  · rename_i l k n
    split at h
    · rename_i hc
      obtain ⟨h0, h1⟩ := hc
      rw [repE_lit hi]
      obtain ⟨cs, rfl, hn, h1c, hl⟩ := repE_agg hx
      obtain ⟨u, hu, hr⟩ := run_part P h hn h1c hl ha
      refine ⟨u, ?_, RepE.of_one hr⟩
      have h2 : n < (m : Int) := by omega
      simp [Instr.index, asIntOf, run_underlying ht, h0, h2, sizeOf, typeInfo, hj, hz, hu]
    · cases h
  · cases h

theorem run_six (P : Program) {x i v : V} (h : vsix x i = some v) {ux ui : Value} (hx : RepE w M μ c x ux) (hi : RepE w M μ c i ui) {t : TypeId} (ht : P.underlying t = some .string) :
    ∃ u, (Instr.index t ux ui).run P w = .ok u w ∧ RepE w M μ c v u := by
  unfold vsix at h
  split at h
  · rename_i s k n
    split at h
    · rename_i h0
      rw [repE_lit hx, repE_lit hi]
      cases hb : s[n.toNat]? with
      | none => rw [hb] at h; cases h
      | some b =>
        rw [hb] at h
        simp only [Option.map_some, Option.some.injEq] at h; subst h
        refine ⟨.int .u8 b.toNat, ?_, RepE.of_one (.lit _)⟩
        simp [Instr.index, asIntOf, run_underlying ht, h0, hb]
    · cases h
  · cases h

theorem run_fa (P : Program) {off : Nat} {x v : V} (h : vfa off x = some v) {ux : Value} (hx : RepE w M μ c x ux) {t : TypeId} {fs : Array Field} {f : Nat} {fl : Field} {j : TypeInfo} (ht : P.underlying t = some (.struct fs)) (hf : fs[f]? = some fl) (ho : fl.offset = off) (hj : P.info? fl.type = some j) (hz : j.size ≠ 0) :
    ∃ u, (Instr.fieldAt t ux f).run P w = .ok u w ∧ RepE w M μ c v u := by
  subst ho
  cases x with
  | ptr t' o =>
    simp [vfa] at h; subst h
    obtain ⟨rfl, h2⟩ := hx
    refine ⟨.pointer (some ⟨μ t', o + fl.offset, none⟩), ?_, rfl, h2⟩
    simp [Instr.fieldAt, run_underlying ht, hf, Instr.sureAddr, fieldPlace, sizeOf, typeInfo, hj, hz, add_mk]
  | eptr l i' =>
    simp [vfa] at h; subst h
    obtain ⟨a, vs, rfl, h2, h3, h4⟩ := hx
    refine ⟨.pointer (some (a.add fl.offset)), ?_, a.add fl.offset, fun q => vs (fl.offset + q), rfl, fun hq => ?_, fun q hq => ?_, fun q x hq => ?_⟩
    · simp [Instr.fieldAt, run_underlying ht, hf, Instr.sureAddr, fieldPlace, sizeOf, typeInfo, hj, hz]
    · rw [add_block]; exact h2 (by omega)
    · rw [add_add']; exact h3 _ (by omega)
    · rw [Nat.add_assoc] at hq; exact h4 _ x hq
  | _ => simp [vfa] at h

theorem run_fld (P : Program) {off : Nat} {ag : Option Nat} {x v : V} (h : vfld off ag x = some v) {ux : Value} (hx : RepE w M μ c x ux) {t : TypeId} {fs : Array Field} {f : Nat} {fl : Field} (ht : P.underlying t = some (.struct fs)) (hf : fs[f]? = some fl) (ho : fl.offset = off) (ha : aggOf P fl.type = some ag) :
    ∃ u, (Instr.field t ux f).run P w = .ok u w ∧ RepE w M μ c v u := by
  subst ho
  cases x with
  | agg l =>
    simp only [vfld] at h
    obtain ⟨cs, rfl, hn, h1c, hl⟩ := repE_agg hx
    obtain ⟨u, hu, hr⟩ := run_part P h hn h1c hl ha
    exact ⟨u, by simp [Instr.field, run_underlying ht, hf, asAgg, hu], RepE.of_one hr⟩
  | _ => simp [vfld] at h

theorem run_ext (P : Program) {i : Nat} {l : List V} {v : V} (h : l[i]? = some v) {ux : Value} (hx : RepE w M μ c (.tup l) ux) : ∃ u, (Instr.extract ux i).run P w = .ok u w ∧ RepE w M μ c v u := by
  obtain ⟨cs, rfl, hn, hl⟩ := repE_tup hx
  obtain ⟨hi, _⟩ := List.getElem?_eq_some_iff.1 h
  have hc : cs[i]? = some (cs[i]'(by omega)) := Array.getElem?_eq_getElem (by omega)
  exact ⟨_, by simp only [Instr.extract, hc]; simp [pure, Sem.run], RepE.of_one (hl i v _ h hc)⟩

theorem run_mm (P : Program) {m : Bool} {x y v : V} (h : vmm m x y = some v) {ux uy : Value} (hx : RepE w M μ c x ux) (hy : RepE w M μ c y uy) (ts : Array TypeId) (ty : TypeId) :
    ∃ u, ((if m then Builtin.max_ ts ty #[ux, uy] else Builtin.min_ ts ty #[ux, uy])).run P w = .ok u w ∧ RepE w M μ c v u := by
  unfold vmm at h
  split at h
  · simp at h; subst h
    rw [repE_lit hx, repE_lit hy]
    cases m
    · exact ⟨_, by simp [Builtin.min_, Builtin.min2, pure, Sem.run], RepE.of_one (.lit _)⟩
    · exact ⟨_, by simp [Builtin.max_, Builtin.max2, pure, Sem.run], RepE.of_one (.lit _)⟩
  · cases h
end Go.VM
