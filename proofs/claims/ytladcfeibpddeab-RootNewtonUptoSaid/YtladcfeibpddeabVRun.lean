import Derived.Test.YtladcfeibpddeabVEff
set_option linter.unusedVariables false
set_option linter.unusedSimpArgs false
namespace Go.VM
open Go.RowKit

variable {w : World} {M : Nat → Prop} {μ : Nat → Nat} {c : Nat}

section pure
variable {P : Program} {ρ : Nat → V} {a : Act}

theorem res1_pure (henv : ∀ i, RepE w M μ c (ρ i) (a.tmps.getD i undef)) {x : Operand} {k : X → VOp} {v : V} (h : vpure (X.ev ρ) (res1 x k) = some v) : ∃ x', resX x = some x' ∧ vpure (X.ev ρ) (k x') = some v ∧ RepE w M μ c (x'.ev ρ) (a.eval x) := by
  unfold res1 at h
  split at h
  · rename_i x' hx; exact ⟨x', hx, h, resX_rep henv hx⟩
  · simp [vpure] at h
theorem res2_pure (henv : ∀ i, RepE w M μ c (ρ i) (a.tmps.getD i undef)) {x y : Operand} {k : X → X → VOp} {v : V} (h : vpure (X.ev ρ) (res2 x y k) = some v) :
    ∃ x' y', vpure (X.ev ρ) (k x' y') = some v ∧ RepE w M μ c (x'.ev ρ) (a.eval x) ∧ RepE w M μ c (y'.ev ρ) (a.eval y) := by
  unfold res2 at h
  split at h
  · rename_i x' y' hx hy; exact ⟨x', y', h, resX_rep henv hx, resX_rep henv hy⟩
  · simp [vpure] at h

theorem res1_none {e : X → V} {x : Operand} {k : X → VOp} (hk : ∀ y, vpure e (k y) = none) : vpure e (res1 x k) = none := by
  unfold res1; split
  · exact hk _
  · rfl
theorem res2_none {e : X → V} {x y : Operand} {k : X → X → VOp} (hk : ∀ p q, vpure e (k p q) = none) : vpure e (res2 x y k) = none := by
  unfold res2; split
  · exact hk _ _
  · rfl

theorem resO_rep (henv : ∀ i, RepE w M μ c (ρ i) (a.tmps.getD i undef)) {x : Option Operand} {y : Option X} (h : resO x = some y) : OptRep w M μ c (y.map (X.ev ρ)) (x.map a.eval) := by
  cases x with
  | none => simp [resO] at h; subst h; trivial
  | some x =>
    simp only [resO] at h
    split at h
    · rename_i x' hx; simp at h; subst h; exact resX_rep henv hx
    · cases h

theorem run_ext64 {sub : Bool} {x y z v : V} (h : vext64 sub x y z = some v) {ux uy uz : Value} (hx : RepE w M μ c x ux) (hy : RepE w M μ c y uy) (hz : RepE w M μ c z uz) {f : FuncId} {fn : Func} (hf : P.funcs[f]? = some fn) (hb : fn.body = none)
    (ho : fn.origin = "") (hn : fn.name = if sub then "math/bits.Sub64" else "math/bits.Add64") : ∃ u, (callFunc f #[ux, uy, uz]).run P w = .ok (.value u) w ∧ RepE w M μ c v u := by
  unfold vext64 at h
  split at h
  · rename_i x y z
    split at h
    · rename_i hc
      obtain ⟨h1, h2, h3, h4⟩ := hc
      rw [repE_lit hx, repE_lit hy, repE_lit hz]
      obtain ⟨x, rfl⟩ := Int.eq_ofNat_of_zero_le h1
      obtain ⟨y, rfl⟩ := Int.eq_ofNat_of_zero_le h2
      obtain ⟨z, rfl⟩ := Int.eq_ofNat_of_zero_le h3
      have hz1 : z ≤ 1 := by omega
      have tup : ∀ p q : Int, RepE w M μ c (.tup [.int .u64 p, .int .u64 q]) (.tuple #[.int .u64 p, .int .u64 q]) := by
        intro p q
        refine RepE.of_one (.tup _ _ rfl fun j x v hx hv => ?_)
        match j, hx, hv with
        | 0, hx, hv => simp at hx hv; subst hx hv; exact .lit _
        | 1, hx, hv => simp at hx hv; subst hx hv; exact .lit _
        | j + 2, hx, _ => simp at hx
      simp only [Int.toNat_natCast] at h
      have nm : ∀ s : String, fn.name = s → (s == "runtime.NumGoroutine") = false → (fn.name == "runtime.NumGoroutine") = false := by intro s h1 h2; rw [h1]; exact h2
      cases sub
      · simp only [Bool.false_eq_true, if_false] at hn h
        simp only [Option.some.injEq] at h; subst h
        have e1 : Extern.findNext fn = none := by unfold Extern.findNext; rw [hn, ho]; kernel_rfl
        have e2 : Extern.find fn = some add64Entry := by unfold Extern.find; rw [hn, ho]; kernel_rfl
        refine ⟨_, ?_, tup _ _⟩
        rw [run_callFunc_extern hf (nm _ hn (by decide)) (by rw [hb]; rfl) e1 e2, run_add64 x y z (by omega) (by omega) (by omega) (by omega)]
        simp only [Result.andThen]
        congr 5 <;> omega
      · simp only [if_true] at hn h
        simp only [Option.some.injEq] at h; subst h
        have e1 : Extern.findNext fn = none := by unfold Extern.findNext; rw [hn, ho]; kernel_rfl
        have e2 : Extern.find fn = some (fun args => do
            let (x, y, b) ← Extern.MathBitsCarry.three "Sub64" args
            pure (Extern.MathBitsCarry.pair ((x + Extern.MathBitsCarry.m64 - y - b) % Extern.MathBitsCarry.m64) (if x < y + b then 1 else 0))) := by unfold Extern.find; rw [hn, ho]; kernel_rfl
        refine ⟨_, ?_, tup _ _⟩
        rw [run_callFunc_extern hf (nm _ hn (by decide)) (by rw [hb]; rfl) e1 e2]
        have : z = 0 ∨ z = 1 := by omega
        rcases this with rfl | rfl <;> rfl
    · cases h
  · cases h

theorem bool_matches (d : Option TypeDesc) : True := trivial

theorem pure_run (henv : ∀ i, RepE w M μ c (ρ i) (a.tmps.getD i undef)) {o : Oper} {draw : Bool} {v : V} (h : vpure (X.ev ρ) (resOp P draw o) = some v) :
    ∃ u, (execOp a.eval o).run P w = .ok (.value u) w ∧ RepE w M μ c v u := by
  unfold resOp at h
  cases hop : o.op with
  | move x =>
    simp only [hop] at h
    obtain ⟨x', hx, h, hr⟩ := res1_pure henv h
    simp [vpure] at h; subst h
    exact ⟨_, by simp [execOp, hop, pure, Sem.run], hr⟩
  | assign x =>
    simp only [hop] at h
    obtain ⟨x', hx, h, hr⟩ := res1_pure henv h
    simp [vpure] at h; subst h
    exact ⟨_, by simp [execOp, hop, pure, Sem.run], hr⟩
  | pick x y z =>
    simp only [hop] at h
    split at h
    · rename_i x' y' z' hx hy hz
      simp only [vpure] at h
      split at h
      · rename_i t ht
        simp only [Option.some.injEq] at h; subst h
        have hxr := resX_rep henv hx
        rw [ht] at hxr
        have e := repE_lit hxr
        refine ⟨if t then a.eval y else a.eval z, ?_, ?_⟩
        · simp [execOp, hop, e, asBool]
        · cases t
          · exact resX_rep henv hz
          · exact resX_rep henv hy
      · cases h
    · simp [vpure] at h
  | binOp op t x y yt =>
    simp only [hop] at h
    have key : ∀ isb : Bool, (isb = true → P.underlying t = some .bool) → vpure (X.ev ρ) (res2 x y (.bin op isb)) = some v → ∃ u, (execOp a.eval o).run P w = .ok (.value u) w ∧ RepE w M μ c v u := by
      intro isb hb h
      obtain ⟨x', y', h, hx, hy⟩ := res2_pure henv h
      simp only [vpure] at h
      obtain ⟨u, hu, hr⟩ := run_bin P hb h hx hy x y
      refine ⟨u, ?_, hr⟩
      unfold execOp
      rw [hop]
      simp only []
      rw [Sem.run_bind, hu]
      simp [pure, Sem.run]
    split at h
    · rename_i hb; exact key true (fun _ => hb) h
    · exact key false (fun h => by cases h) h
  | unOp op t x =>
    simp only [hop] at h
    obtain ⟨x', hx, h, hr⟩ := res1_pure henv h
    simp only [vpure] at h
    obtain ⟨u, hu, hr'⟩ := run_un (w := w) P h hr
    exact ⟨u, by simp [execOp, hop, hu], hr'⟩
  | convert s d x =>
    simp only [hop] at h
    split at h
    · rename_i ks k hs hd
      obtain ⟨x', hx, h, hr⟩ := res1_pure henv h
      simp only [vpure] at h
      split at h
      · rename_i k' n hn
        simp only [Option.some.injEq] at h; subst h
        rw [hn] at hr
        have e := repE_lit hr
        refine ⟨.int k (k.wrap n), ?_, RepE.of_one (.lit _)⟩
        simp [execOp, hop, e, convert, run_underlying hs, run_underlying hd, Conv.intToInt]
      · cases h
    · simp [vpure] at h
  | nilCheck x =>
    simp only [hop] at h
    obtain ⟨x', hx, h, hr⟩ := res1_pure henv h
    simp only [vpure] at h
    split at h
    · rename_i t off ht
      simp only [Option.some.injEq] at h; subst h
      rw [ht] at hr
      obtain ⟨e, h2⟩ := hr
      exact ⟨_, by simp [execOp, hop, e], e, h2⟩
    · rename_i l i ht
      simp only [Option.some.injEq] at h; subst h
      rw [ht] at hr
      have hr' := hr
      obtain ⟨q, vs, e, h2⟩ := hr
      exact ⟨a.eval x, by simp [execOp, hop, e], hr'⟩
    · cases h
  | fieldAddr t x f =>
    simp only [hop] at h
    split at h
    · rename_i fs ht
      split at h
      · rename_i fl hf
        split at h
        · rename_i i hi
          split at h
          · simp [vpure] at h
          · rename_i hz
            obtain ⟨x', hx, h, hr⟩ := res1_pure henv h
            simp only [vpure] at h
            obtain ⟨u, hu, hr'⟩ := run_fa P h hr ht hf rfl hi hz
            exact ⟨u, by simp [execOp, hop, hu], hr'⟩
        · simp [vpure] at h
      · simp [vpure] at h
    · simp [vpure] at h
  | field t x f =>
    simp only [hop] at h
    split at h
    · rename_i fs ht
      split at h
      · rename_i fl hf
        split at h
        · rename_i g hg
          obtain ⟨x', hx, h, hr⟩ := res1_pure henv h
          simp only [vpure] at h
          obtain ⟨u, hu, hr'⟩ := run_fld P h hr ht hf rfl hg
          exact ⟨u, by simp [execOp, hop, hu], hr'⟩
        · simp [vpure] at h
      · simp [vpure] at h
    · simp [vpure] at h
  | indexAddr t x i =>
    simp only [hop] at h
    split at h
    · rename_i e ht
      split at h
      · rename_i j hj
        obtain ⟨x', y', h, hx, hy⟩ := res2_pure henv h
        simp only [vpure] at h
        obtain ⟨u, hu, hr'⟩ := run_ixa P h hx hy ht hj rfl
        exact ⟨u, by simp [execOp, hop, hu], hr'⟩
      · simp [vpure] at h
    · rename_i n e ht
      split at h
      · rename_i j hj
        split at h
        · obtain ⟨x', y', h, hx, hy⟩ := res2_pure henv h
          simp only [vpure] at h
          obtain ⟨u, hu, hr'⟩ := run_axa P h hx hy ht hj rfl
          exact ⟨u, by simp [execOp, hop, hu], hr'⟩
        · simp [vpure] at h
      · simp [vpure] at h
    · simp [vpure] at h
  | index t x i =>
    simp only [hop] at h
    split at h
    · rename_i n e ht
      split at h
      · rename_i j g hj hg
        obtain ⟨x', y', h, hx, hy⟩ := res2_pure henv h
        simp only [vpure] at h
        obtain ⟨u, hu, hr'⟩ := run_aix P h hx hy ht hj rfl hg
        exact ⟨u, by simp [execOp, hop, hu], hr'⟩
      · simp [vpure] at h
    · rename_i ht
      obtain ⟨x', y', h, hx, hy⟩ := res2_pure henv h
      simp only [vpure] at h
      obtain ⟨u, hu, hr'⟩ := run_six P h hx hy ht
      exact ⟨u, by simp [execOp, hop, hu], hr'⟩
    · simp [vpure] at h
  | slice t x lo hi mx =>
    simp only [hop] at h
    split at h
    · rename_i e ht
      split at h
      · rename_i i x' lo' hi' mx' hi1 hx hlo hhi hmx
        simp only [vpure] at h
        obtain ⟨u, hu, hr'⟩ := run_slc P h (resX_rep henv hx) (resO_rep henv hlo) (resO_rep henv hhi) (resO_rep henv hmx) ht hi1 rfl
        exact ⟨u, by simp [execOp, hop, hu], hr'⟩
      · simp [vpure] at h
    · simp [vpure] at h
  | extract x i =>
    simp only [hop] at h
    obtain ⟨x', hx, h, hr⟩ := res1_pure henv h
    simp only [vpure] at h
    split at h
    · rename_i l hl
      rw [hl] at hr
      obtain ⟨u, hu, hr'⟩ := run_ext P h hr
      exact ⟨u, by simp [execOp, hop, hu], hr'⟩
    · cases h
  | makeFunc fn first captured =>
    cases fn with
    | func f =>
      simp only [hop] at h
      split at h
      · rename_i hs
        simp only [vpure, Option.some.injEq] at h; subst h
        refine ⟨.func (.func f) #[] #[], ?_, RepE.of_one (.lit _)⟩
        obtain ⟨h1, h2⟩ := hs
        have e1 : first = #[] := Array.eq_empty_of_size_eq_zero h1
        have e2 : captured = #[] := Array.eq_empty_of_size_eq_zero h2
        simp [execOp, hop, e1, e2, Instr.makeFunc, pure, Sem.run]
      · simp [vpure] at h
    | _ => simp [hop, vpure] at h
  | build t ps =>
    simp only [hop] at h
    split at h
    · simp [vpure] at h
    rename_i hz1
    have key : ∀ (place : Nat → Option (Nat × Nat)) (z : Value) (rs : List (Nat × Nat × X)), resP place ps.toList = some rs → (P.info? t).bind (·.zero) = some z → (∀ parts, P.built t parts = Instr.fill place z.cells parts) → vpure (X.ev ρ) (.build z.cells.toList rs) = some v →
        ∃ u, (execOp a.eval o).run P w = .ok (.value u) w ∧ RepE w M μ c v u := by
      intro place z rs hrs hz0 hb h
      have hz2 : z.cells.all (·.oneCell') = true := by simpa [hz0] using hz1
      simp only [vpure, vbuild] at h
      cases hf : vfill (vlits z.cells.toList) (rs.map fun p => (p.1, p.2.1, X.ev ρ p.2.2)) with
      | none => simp [hf] at h
      | some l' =>
        simp [hf] at h; subst h
        obtain ⟨arr', h1, h2⟩ := run_fill (w := w) (M := M) (μ := μ) (c := c) (e := X.ev ρ) (ev := a.eval) (fun o x hx => resX_rep henv hx) ps.toList rs _ l' z.cells hrs hf (by simpa using repL_lits z.cells.toList fun v hv => Array.all_eq_true_iff_forall_mem.1 hz2 v (by simpa using hv))
        have := run_build (P := P) w t (ps.map fun p => (p.1, a.eval p.2)) arr' (by rw [hb]; simpa using h1)
        refine ⟨.agg arr', ?_, RepE.of_one (.agg _ _ h2.1 h2.2.1 h2.2.2)⟩
        unfold execOp
        rw [hop]
        simp only []
        rw [Sem.run_bind, this]
        simp [pure, Sem.run]
    split at h
    · rename_i fs z ht hz
      obtain ⟨it, hit, hzz⟩ : ∃ it, P.info? t = some it ∧ it.zero = some z := by
        cases hi : P.info? t with
        | none => simp [hi] at hz
        | some it => simp [hi] at hz; exact ⟨it, rfl, hz⟩
      split at h
      · rename_i places hp
        split at h
        · rename_i rs hrs
          exact key _ z rs hrs hz (fun parts => by simp [Program.built, hit, ht, hzz, hp]) h
        · simp [vpure] at h
      · simp [vpure] at h
    · rename_i n e z ht hz
      obtain ⟨it, hit, hzz⟩ : ∃ it, P.info? t = some it ∧ it.zero = some z := by
        cases hi : P.info? t with
        | none => simp [hi] at hz
        | some it => simp [hi] at hz; exact ⟨it, rfl, hz⟩
      split at h
      · rename_i j hj
        split at h
        · rename_i rs hrs
          exact key _ z rs hrs hz (fun parts => by simp [Program.built, hit, ht, hzz, hj]) h
        · simp [vpure] at h
      · simp [vpure] at h
    · simp [vpure] at h
  | call cl =>
    simp only [hop] at h
    split at h
    · -- len
      rename_i hc
      split at h
      · rename_i x t hx ht
        split at h
        · rename_i e he
          obtain ⟨x', hx', h, hr⟩ := res1_pure henv h
          simp only [vpure] at h
          obtain ⟨u, hu, hr'⟩ := run_len (ty := o.type) P h hr he
          refine ⟨u, ?_, hr'⟩
          have e1 : cl.args = #[x] := by apply Array.ext'; simpa using hx
          have e2 : cl.argTypes = #[t] := by apply Array.ext'; simpa using ht
          simp [execOp, hop, resolve, hc, e1, e2, invoke, builtin, hu]
        · simp [vpure] at h
      · simp [vpure] at h
    · rename_i hc
      split at h
      · rename_i x y hx
        obtain ⟨x', y', h, hx', hy'⟩ := res2_pure henv h
        simp only [vpure] at h
        have e1 : cl.args = #[x, y] := by apply Array.ext'; simpa using hx
        obtain ⟨u, hu, hr'⟩ := run_mm P h hx' hy' cl.argTypes o.type
        refine ⟨u, ?_, hr'⟩
        simp only [if_true] at hu
        simp [execOp, hop, resolve, hc, e1, invoke, builtin, hu]
      · simp [vpure] at h
    · rename_i hc
      split at h
      · rename_i x y hx
        obtain ⟨x', y', h, hx', hy'⟩ := res2_pure henv h
        simp only [vpure] at h
        have e1 : cl.args = #[x, y] := by apply Array.ext'; simpa using hx
        obtain ⟨u, hu, hr'⟩ := run_mm P h hx' hy' cl.argTypes o.type
        refine ⟨u, ?_, hr'⟩
        simp only [Bool.false_eq_true, if_false] at hu
        simp [execOp, hop, resolve, hc, e1, invoke, builtin, hu]
      · simp [vpure] at h
    · -- append
      exfalso; revert h; (repeat' split) <;> first | (simp [vpure]; done) | (rw [res1_none (fun _ => rfl)]; simp; done) | (rw [res2_none (fun _ _ => rfl)]; simp; done)
    · exfalso; revert h; (repeat' split) <;> first | (simp [vpure]; done) | (rw [res1_none (fun _ => rfl)]; simp; done) | (rw [res2_none (fun _ _ => rfl)]; simp; done)
    · rename_i f hc
      split at h
      · rename_i fn hf
        split at h
        · simp [vpure] at h
        · rename_i hnm
          split at h
          · exfalso; revert h; split <;> simp [vpure]
          · rename_i hb
            split at h
            · rename_i x y z hx
              split at h
              · rename_i x' y' z' hx' hy' hz'
                have e1 : cl.args = #[x, y, z] := by apply Array.ext'; simpa using hx
                split at h
                · rename_i ho
                  split at h
                  · rename_i hn
                    simp only [vpure] at h
                    obtain ⟨u, hu, hr⟩ := run_ext64 (P := P) (sub := false) h (resX_rep henv hx') (resX_rep henv hy') (resX_rep henv hz') hf hb ho (by simpa using hn)
                    refine ⟨u, ?_, hr⟩
                    simp [execOp, hop, resolve, hc, e1, invoke, Act.eval, Deferred.ofValue] at hu ⊢
                    exact hu
                  · split at h
                    · rename_i hn
                      simp only [vpure] at h
                      obtain ⟨u, hu, hr⟩ := run_ext64 (P := P) (sub := true) h (resX_rep henv hx') (resX_rep henv hy') (resX_rep henv hz') hf hb ho (by simpa using hn)
                      refine ⟨u, ?_, hr⟩
                      simp [execOp, hop, resolve, hc, e1, invoke, Act.eval, Deferred.ofValue] at hu ⊢
                      exact hu
                    · simp [vpure] at h
                · simp [vpure] at h
              · simp [vpure] at h
            · simp [vpure] at h
      · simp [vpure] at h
    · exfalso; revert h; split <;> simp [vpure]
    · simp [vpure] at h
  | load t x => exfalso; revert h; simp only [hop]; split <;> first | (simp [vpure]; done) | (rw [res1_none (fun _ => rfl)]; simp; done) | (rw [res2_none (fun _ _ => rfl)]; simp; done)
  | store t x y => exfalso; revert h; simp only [hop]; split <;> first | (simp [vpure]; done) | (rw [res1_none (fun _ => rfl)]; simp; done) | (rw [res2_none (fun _ _ => rfl)]; simp; done)
  | box t x => exfalso; revert h; simp only [hop]; first | (simp [vpure]; done) | (rw [res1_none (fun _ => rfl)]; simp; done) | (rw [res2_none (fun _ _ => rfl)]; simp; done)
  | alloc t => exfalso; revert h; simp only [hop]; (repeat' split) <;> simp [vpure]
  | makeSlice t l q => exfalso; revert h; simp only [hop]; (repeat' split) <;> first | (simp [vpure]; done) | (rw [res1_none (fun _ => rfl)]; simp; done) | (rw [res2_none (fun _ _ => rfl)]; simp; done)
  | buildSlice t n ps => exfalso; revert h; simp only [hop]; (repeat' split) <;> simp [vpure]
  | _ => simp [hop, vpure] at h
end pure
end Go.VM
