import Derived.Test.YtladcfeibpddeabVPure
set_option linter.unusedVariables false
set_option linter.unusedSimpArgs false
namespace Go.VM
open Go.RowKit

variable {w : World} {M : Nat → Prop} {μ : Nat → Nat} {c : Nat}

def OptRep (w : World) (M : Nat → Prop) (μ : Nat → Nat) (c : Nat) : Option V → Option Value → Prop
  | none, none => True
  | some x, some u => RepE w M μ c x u
  | _, _ => False

/-- a bound of a slice expression, and how it lies -/
theorem vnum_rep {x : Option V} {l : Option Int} (h : vnum x = some l) {u : Option Value} (hu : OptRep w M μ c x u) :
    (l = none ∧ u = none) ∨ (∃ k n, l = some n ∧ u = some (.int k n)) := by
  cases x with
  | none => cases u <;> simp [vnum, OptRep] at h hu ⊢; exact h.symm
  | some x =>
    cases u with
    | none => simp [OptRep] at hu
    | some u =>
      simp only [OptRep] at hu
      cases x with
      | lit v =>
        rw [repE_lit hu]
        cases v <;> simp [vnum] at h
        rename_i k n
        exact .inr ⟨k, n, h.symm, rfl⟩
      | _ => simp [vnum] at h

theorem run_bounds (P : Program) (n cap : Nat) {lo hi mx : Option Int} {ul uh um : Option Value} (hl : (lo = none ∧ ul = none) ∨ (∃ k q, lo = some q ∧ ul = some (.int k q))) (hh : (hi = none ∧ uh = none) ∨ (∃ k q, hi = some q ∧ uh = some (.int k q)))
    (hm : (mx = none ∧ um = none) ∨ (∃ k q, mx = some q ∧ um = some (.int k q))) (h0 : 0 ≤ lo.getD 0) (h1 : lo.getD 0 ≤ hi.getD n) (h2 : hi.getD n ≤ mx.getD cap) (h3 : mx.getD (cap : Int) ≤ cap) (h4 : mx.isSome = true → hi.isSome = true) (hb : Bool) :
    (Instr.sliceBounds hb n cap ul uh um).run P w = .ok ((lo.getD 0).toNat, (hi.getD n).toNat, (mx.getD cap).toNat) w := by
  rcases hl with ⟨rfl, rfl⟩ | ⟨kl, ql, rfl, rfl⟩ <;> rcases hh with ⟨rfl, rfl⟩ | ⟨kh, qh, rfl, rfl⟩ <;> rcases hm with ⟨rfl, rfl⟩ | ⟨km, qm, rfl, rfl⟩ <;> simp at h0 h1 h2 h3 h4 ⊢ <;>
    simp [Instr.sliceBounds, Instr.sliceBound, asIntOf, *, pure, Sem.run] <;> (try (repeat' split)) <;> first | rfl | omega | (simp [Sem.run]; omega) | skip

theorem getD_mono (mx : Option Int) {n cap : Int} (h : n ≤ cap) : mx.getD n ≤ mx.getD cap := by cases mx <;> simp [h]

theorem run_slc (P : Program) {sz : Nat} {x v : V} {lo hi mx : Option V} (h : vslc sz x lo hi mx = some v) {ux : Value} {ul uh um : Option Value} (hx : RepE w M μ c x ux)
    (hl : OptRep w M μ c lo ul) (hh : OptRep w M μ c hi uh)
    (hm : OptRep w M μ c mx um)
    {t e : TypeId} {j : TypeInfo} (ht : P.underlying t = some (.slice e)) (hj : P.info? e = some j) (hz : j.size = sz) :
    ∃ u, (Instr.sliceAt t ux ul uh um).run P w = .ok u w ∧ RepE w M μ c v u := by
  unfold vslc at h
  split at h
  · rename_i l q m hnl hnh hnm
    have hl' := vnum_rep hnl hl
    have hh' := vnum_rep hnh hh
    have hm' := vnum_rep hnm hm
    split at h
    · rename_i tk sz' cs
      simp only at h
      split at h
      · rename_i hc
        obtain ⟨rfl, h0, h1, h2, h3, h4⟩ := hc
        simp only [Option.some.injEq] at h; subst h
        have hx' : Rep w M μ c (.sl tk sz' cs) ux := hx
        cases hx' with
        | nil _ =>
          simp at h1 h2 h3
          have hb := run_bounds (w := w) P 0 0 hl' hh' hm' h0 (by simpa using h1) (by simpa using h2) (by simpa using h3) h4 true
          have e1 : (l.getD 0).toNat = 0 := by omega
          have e2 : (q.getD 0).toNat = 0 := by omega
          have e3 : (m.getD 0).toNat = 0 := by omega
          simp only [Int.ofNat_zero, Int.natCast_zero, e1, e2, e3] at hb
          refine ⟨.slice none 0 0, ?_, ?_⟩
          · simp [Instr.sliceAt, Instr.slice, run_underlying ht, hb, sizeOf, typeInfo, hj]
          · simp; exact RepE.of_one (.nil _ _)
        | sl _ _ n cap a _ vs htk hn hcp hs hMb hcap h1c hcl =>
          have hd : cs.length / sz' = n := by rw [hn, div_mul_sz hs]
          rw [hd] at h1 h2 h3
          rw [hd]
          have hcp' : (n : Int) ≤ cap := by omega
          have hb := run_bounds (w := w) P n cap hl' hh' hm' h0 h1 (Int.le_trans h2 (getD_mono m hcp')) (by
            rcases m with _ | m <;> simp at h3 ⊢; omega) h4 true
          have hmc : m.getD (cap : Int) ≤ cap := by rcases m with _ | m <;> simp at h3 ⊢; omega
          have hqm : q.getD (n : Int) ≤ m.getD (cap : Int) := Int.le_trans h2 (getD_mono m hcp')
          have hqn : q.getD (n : Int) ≤ n := by omega
          generalize l.getD 0 = L at *
          generalize q.getD (n : Int) = Q at *
          generalize m.getD (cap : Int) = Mx at *
          obtain ⟨L, rfl⟩ := Int.eq_ofNat_of_zero_le h0
          obtain ⟨Q, rfl⟩ := Int.eq_ofNat_of_zero_le (Int.le_trans h0 h1)
          obtain ⟨Mx, rfl⟩ := Int.eq_ofNat_of_zero_le (Int.le_trans (Int.le_trans h0 h1) hqm)
          simp only [Int.toNat_natCast] at hb ⊢
          have g1 : L ≤ Q := by omega
          have g2 : Q ≤ Mx := by omega
          have g3 : Mx ≤ cap := by omega
          have g4 : Q ≤ n := by omega
          refine ⟨.slice (some (if Mx = L then a else a.add (L * sz'))) (Q - L) (Mx - L), ?_, ?_⟩
          · simp [Instr.sliceAt, Instr.slice, run_underlying ht, hb, sizeOf, typeInfo, hj, hz]
            split <;> simp [pure, Sem.run, *]
          · refine RepE.of_one (.sl (tk.cut L) sz' (Q - L) (Mx - L) _ _ (fun i => vs (L * sz' + i)) ?_ ?_ (by omega) hs ?_ ?_ ?_ ?_)
            · have eb : (if Mx = L then a else a.add (L * sz')).block = a.block := by split <;> simp [add_block]
              have room : 0 < (Mx - L) * sz' → 0 < cap * sz' := fun hr => by have := Nat.mul_le_mul_right sz' (show Mx - L ≤ cap by omega); omega
              cases tk with
              | nil => exact htk
              | unk => trivial
              | id t =>
                simp only [Tok.cut]
                by_cases e0 : (L : Int) = 0
                · rw [if_pos e0]
                  obtain rfl : L = 0 := by omega
                  intro hr
                  have hne : ¬ Mx = 0 := fun e => by subst e; simp at hr
                  rw [if_neg hne, Nat.zero_mul, add_zero']
                  exact htk (room hr)
                · rw [if_neg e0]
                  intro hr
                  exact ⟨(htk (room hr)).1.1, by rw [eb]; exact (htk (room hr)).1.2⟩
              | sub t =>
                intro hr
                exact ⟨(htk (room hr)).1, by rw [eb]; exact (htk (room hr)).2⟩
            · rw [List.length_take, List.length_drop, hn, Nat.sub_mul]
              have := Nat.mul_le_mul_right sz' g4
              omega
            · intro hpos
              have : (if Mx = L then a else a.add (L * sz')).block = a.block := by split <;> simp [add_block]
              rw [this]
              refine hMb ?_
              have := Nat.mul_le_mul_right sz' (show Mx - L ≤ cap by omega)
              omega
            · intro i hi
              have hne : ¬ Mx = L := by intro e; subst e; simp at hi
              rw [if_neg hne, add_add']
              refine hcap _ ?_
              have := Nat.mul_le_mul_right sz' g3
              rw [Nat.sub_mul] at hi
              omega
            · intro i hi
              refine h1c _ ?_
              have := Nat.mul_le_mul_right sz' g3
              rw [Nat.sub_mul] at hi
              omega
            · intro i x hi
              rw [List.getElem?_take] at hi
              split at hi
              · rw [List.getElem?_drop] at hi; exact hcl _ x hi
              · cases hi
      · cases h
    · rename_i t' off n cap sz'
      simp only at h
      split at h
      · rename_i hc
        obtain ⟨rfl, h0, h1, h2, h3, h4⟩ := hc
        simp only [Option.some.injEq] at h; subst h
        obtain ⟨cp, of', rfl, hof, hcp, htc, hs, hcap, arrb, Tb, hb1, hb2⟩ := hx
        generalize htop : capTop cap n = top at *
        have hcp' : (n : Int) ≤ cp := by omega
        have htop' : top ≤ cp := by
          cases cap with
          | none => simp [capTop] at htop; omega
          | some k => simp [capTop] at htop hcap; omega
        have hb := run_bounds (w := w) P n cp hl' hh' hm' h0 h1 (Int.le_trans h2 (getD_mono m htop')) (by
            rcases m with _ | m <;> simp at h3 ⊢; omega) h4 true
        have hmc : m.getD (cp : Int) ≤ cp := by rcases m with _ | m <;> simp at h3 ⊢; omega
        have hqm : q.getD (n : Int) ≤ m.getD (cp : Int) := Int.le_trans h2 (getD_mono m htop')
        have hcapeq : ∀ k, newCap m cap ((m.getD top).toNat - (l.getD 0).toNat) = some k → (m.getD (cp : Int)).toNat - (l.getD 0).toNat = k := by
          intro k hk
          cases m with
          | none =>
            cases cap with
            | none => simp [newCap] at hk
            | some k' => simp [newCap, capTop] at hk hcap htop; subst hcap; subst htop; simpa using hk
          | some m' => simpa [newCap] using hk
        generalize newCap m cap ((m.getD top).toNat - (l.getD 0).toNat) = newcap at *
        generalize l.getD 0 = L at *
        generalize q.getD (n : Int) = Q at *
        generalize m.getD (cp : Int) = Mx at *
        obtain ⟨L, rfl⟩ := Int.eq_ofNat_of_zero_le h0
        obtain ⟨Q, rfl⟩ := Int.eq_ofNat_of_zero_le (Int.le_trans h0 h1)
        obtain ⟨Mx, rfl⟩ := Int.eq_ofNat_of_zero_le (Int.le_trans (Int.le_trans h0 h1) hqm)
        simp only [Int.toNat_natCast] at hb hcapeq ⊢
        refine ⟨.slice (some ⟨μ t', if Mx = L then of' else of' + L * sz', none⟩) (Q - L) (Mx - L), ?_, Mx - L, _, rfl, fun hpos => ?_, by omega, htc, hs, ?_, arrb, Tb, hb1, ?_⟩
        · simp [Instr.sliceAt, Instr.slice, run_underlying ht, hb, sizeOf, typeInfo, hj, hz]
          split <;> simp [pure, Sem.run, add_mk, *]
        · rw [if_neg (by omega), hof (by omega)]
        · cases newcap with
          | none => trivial
          | some k => exact hcapeq k rfl
        · have g3 := Nat.mul_le_mul_right sz' (show Mx ≤ cp by omega)
          rw [Nat.sub_mul]
          split
          · rename_i e; subst e; omega
          · have := Nat.mul_le_mul_right sz' (show L ≤ Mx by omega); omega
      · cases h
    · cases h
  · cases h
end Go.VM
