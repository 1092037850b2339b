/- Texts of a claim, merged: what they prove is told at the last one's head. -/
import Derived.Test.YthjnmfieicniaaaPerM1
import Derived.Test.YthjnmfieicniaaaRows
import Derived.WalkKit
import Derived.ProofKit
import Derived.OpenShut
import Derived.JoinedCond
import Derived.ChangeSlices
import Derived.Test.YthjnmfieicniaaaProg
set_option linter.unusedVariables false
set_option linter.unusedSimpArgs false
set_option maxRecDepth 20000
namespace Go.VM
open Go.RowKit

variable {F G G2 : Ctx} {S S' : VS} {a a' : Act} {w w' : World} {μ μ' : Nat → Nat} {X : Nat → Prop}

def Ctx.away (F : Ctx) (w : World) (X : Nat → Prop) : Ctx := ⟨F.P, F.nt, w, fun b => b < F.base ∧ F.Φ b, F.c0, F.μ0, F.σ0, fun b => F.own b ∧ b < w.heap.size ∧ ¬ X b, F.gv⟩

theorem away_good (hg : Good F) (hm : Moved F w) : Good (F.away w X) := by
  refine ⟨fun t ht h => hg.apart t ht h.2, fun t ht => ⟨(hg.lt t ht).1, Nat.lt_of_lt_of_le (hg.lt t ht).2 hm.size⟩, hg.inj, fun t ht h => ?_, fun b hb h => hg.own_Φ hb.1 h.1 h.2, fun t ht h => hg.own_lent h.1 ht rfl, fun b hb => hb.2.1, fun g l h => ?_⟩
  · rcases h with h | h
    · exact absurd h (Nat.not_le.2 (Nat.lt_of_lt_of_le (hg.low_lt ht) hm.size))
    · exact hg.low t ht h.1
  · obtain ⟨h1, h2, arr, T, h3, h4, h5⟩ := hg.glob g l h
    refine ⟨Nat.lt_of_lt_of_le h1 hm.size, ⟨h1, h2⟩, arr, T, ?_, h4, h5⟩
    show w.heap[g]? = _
    rw [hm.block g h1 (fun q => hg.givΦ g q h2) (fun t ht e => hg.apart t ht (e ▸ h2))]
    exact h3

theorem away_M (hm : Moved F w) (hX : ∀ b, X b → F.base ≤ b ∧ b < w.heap.size) (hw : w.heap.size ≤ w'.heap.size) {σ : Nat → Option Blk} {b : Nat} : (F.away w X).M σ w' μ b ↔ F.M σ w' μ b ∧ ¬ X b := by
  have hs := hm.size
  constructor
  · rintro (⟨h1, h2, h3⟩ | ⟨h1, h2, h3⟩)
    · exact ⟨.inl ⟨h2, h3⟩, fun h => by have := (hX b h).1; omega⟩
    · rcases h1 with h1 | ⟨h1, h4, h5⟩
      · have h1 : w.heap.size ≤ b := h1
        exact ⟨.inr ⟨.inl (Nat.le_trans hs h1), h2, h3⟩, fun h => by have := (hX b h).2; omega⟩
      · exact ⟨.inr ⟨h1, h2, h3⟩, h5⟩
  · rintro ⟨⟨h1, h2⟩ | ⟨h1, h2, h3⟩, hx⟩
    · exact .inl ⟨Nat.lt_of_lt_of_le h1 hs, h1, h2⟩
    · by_cases g : b < w.heap.size
      · exact .inr ⟨.inr ⟨h1, g, hx⟩, h2, h3⟩
      · exact .inr ⟨.inl (Nat.le_of_not_lt g), h2, h3⟩

theorem moved_refl (F : Ctx) (w : World) (X : Nat → Prop) : Moved (F.away w X) w := ⟨rfl, rfl, rfl, Nat.le_refl _, Grows.refl _, fun _ _ _ _ => rfl⟩
theorem moved_away (hm : Moved F w) (h : Moved (F.away w X) w') : Moved F w' := by
  refine ⟨h.os.trans hm.os, h.tape.trans hm.tape, h.output.trans hm.output, Nat.le_trans hm.size h.size, hm.grows.trans h.grows, fun b hb hgv hne => ?_⟩
  rw [← hm.block b hb hgv hne]
  refine h.block b (Nat.lt_of_lt_of_le hb hm.size) (fun q => ?_) hne
  rcases q.1 with q | q
  · omega
  · exact hgv q

theorem Inv.recon (h : Inv G S a w μ) (e1 : G2.nt = G.nt) (e2 : G2.c0 = G.c0) (e3 : G2.μ0 = G.μ0) (e4 : G2.σ0 = G.σ0) (e5 : G2.gv = G.gv) (hg : Good G2) (hm : Moved G2 w) (ho : ∀ b, b < w.heap.size → G.own b → G2.own b) (hM : ∀ b, G.M S.σ w μ b → G2.M S.σ w μ b) : Inv G2 S a w μ := by
  have m := h.mem
  refine ⟨by rw [e1]; exact h.size, h.defers, ⟨hg, hm, by rw [e2]; exact m.c0, fun t ht => by rw [e3]; exact m.mu0 t (e2 ▸ ht), fun t h1 h2 => ?_, fun t t' h1 h2 h1' h2' => m.inj t t' (e2 ▸ h1) h2 (e2 ▸ h1') h2', fun t k hk => ?_, fun t ht => m.lent t (e4 ▸ ht), fun t k hk => ?_⟩, fun i => ?_⟩
  rotate_right
  · have hv : G2.val a i = G.val a i := by unfold Ctx.val; rw [e5]
    rw [hv]
    exact (h.env i).mono (Grows.refl _) (fun _ _ => rfl) hM (fun _ _ => rfl) (Nat.le_refl _)
  · obtain ⟨q1, q2, q3⟩ := m.tok t (e2 ▸ h1) h2
    exact ⟨ho _ q2 q1, q2, q3⟩
  · rcases m.dom t k hk with ⟨h1, h2⟩ | ⟨h1, h2, h3⟩
    · exact .inl ⟨by rw [e2]; exact h1, h2⟩
    · exact .inr ⟨by rw [e2]; exact h1, by rw [e4]; exact h2, h3⟩
  · obtain ⟨arr, T, g1, g2, g3, g4⟩ := m.blk t k hk
    exact ⟨arr, T, g1, g2, g3, fun i x v hx hv => (g4 i x v hx hv).mono (Grows.refl _) (fun _ _ => rfl) hM (fun _ _ => rfl) (Nat.le_refl _)⟩

structure InvX (F : Ctx) (X : Nat → Prop) (S : VS) (a : Act) (w : World) (μ : Nat → Nat) : Prop where
  good : Good F
  moved : Moved F w
  hX : ∀ b, X b → F.base ≤ b ∧ b < w.heap.size
  inv : Inv (F.away w X) S a w μ

theorem invX_of (h : Inv F S a w μ) (hX : ∀ b, ¬ X b) : InvX F X S a w μ := by
  have hm := h.mem.moved
  have hX' : ∀ b, X b → F.base ≤ b ∧ b < w.heap.size := fun b hb => (hX b hb).elim
  refine ⟨h.mem.good, hm, hX', h.recon rfl rfl rfl rfl rfl (away_good h.mem.good hm) (moved_refl F w X) (fun b hb ho => .inr ⟨ho, hb, hX b⟩) fun b hb => (away_M hm hX' (Nat.le_refl _)).2 ⟨hb, hX b⟩⟩
theorem InvX.toInv (h : InvX F X S a w μ) : Inv F S a w μ := by
  refine h.inv.recon (G := F.away w X) rfl rfl rfl rfl rfl h.good h.moved (fun b hb ho => ?_) fun b hb => ((away_M h.moved h.hX (Nat.le_refl _)).1 hb).1
  rcases ho with ho | ho
  · exact .inl (Nat.le_trans h.moved.size ho)
  · exact ho.1
theorem InvX.step (h : InvX F X S a w μ) (h' : Inv (F.away w X) S' a' w' μ') : InvX F X S' a' w' μ' ∧ ∀ b, X b → w'.heap[b]? = w.heap[b]? := by
  have m := h'.mem.moved
  have hmv := moved_away h.moved m
  have hX' : ∀ b, X b → F.base ≤ b ∧ b < w'.heap.size := fun b hb => ⟨(h.hX b hb).1, Nat.lt_of_lt_of_le (h.hX b hb).2 m.size⟩
  refine ⟨⟨h.good, hmv, hX', h'.recon (G := F.away w X) rfl rfl rfl rfl rfl (away_good h.good hmv) (moved_refl F w' X) (fun b hb ho => ?_) fun b hb => ?_⟩, fun b hb => m.block b (h.hX b hb).2 (fun q => q.2.2 hb) fun t ht e => ?_⟩
  · rcases ho with ho | ho
    · have ho : w.heap.size ≤ b := ho
      exact .inr ⟨.inl (Nat.le_trans h.moved.size ho), hb, fun hx => by have := (h.hX b hx).2; omega⟩
    · exact .inr ⟨ho.1, hb, ho.2.2⟩
  · exact (away_M hmv hX' (Nat.le_refl _)).2 ((away_M h.moved h.hX m.size).1 hb)
  · have h1 := (h.good.lt t ht).2
    have h2 := (h.hX b hb).1
    have e : F.μ0 t = b := e
    omega

theorem invX_alloc {o : Obj} (h : InvX F X S a w μ) (ho : w'.os = w.os) (ht : w'.tape = w.tape) (hp : w'.output = w.output) (hw : w'.heap = w.heap.push o) : InvX F (fun b => X b ∨ b = w.heap.size) S a w' μ := by
  have hm := h.inv.mem
  have hsz : w'.heap.size = w.heap.size + 1 := by rw [hw]; simp
  have hs := h.moved.size
  have hmv : Moved F w' := ⟨ho.trans h.moved.os, ht.trans h.moved.tape, hp.trans h.moved.output, by omega, h.moved.grows.trans (grows_push hw), fun b hb hgv hne => by rw [heap_push_old hw (by omega)]; exact h.moved.block b hb hgv hne⟩
  have hX' : ∀ b, X b ∨ b = w.heap.size → F.base ≤ b ∧ b < w'.heap.size := fun b hb => by
    rcases hb with hb | hb
    · have := h.hX b hb; omega
    · omega
  have hsub : ∀ b, (F.away w X).M S.σ w μ b → (F.away w' (fun b => X b ∨ b = w.heap.size)).M S.σ w' μ b := fun b hb => by
    have hlt := hm.M_lt hb
    obtain ⟨h1, h2⟩ := (away_M h.moved h.hX (Nat.le_refl _)).1 hb
    refine (away_M hmv hX' (Nat.le_refl _)).2 ⟨?_, fun q => ?_⟩
    · rcases h1 with h1 | ⟨g1, g2, g3⟩
      · exact .inl h1
      · exact .inr ⟨g1, by omega, g3⟩
    · rcases q with q | q
      · exact h2 q
      · omega
  have hw0 : ∀ b, (F.away w X).M S.σ w μ b → w'.heap[b]? = w.heap[b]? := fun b hb => heap_push_old hw (hm.M_lt hb)
  refine ⟨h.good, hmv, hX', ⟨h.inv.size, h.inv.defers, ⟨away_good h.good hmv, moved_refl F w' _, hm.c0, hm.mu0, fun t h1 h2 => ?_, hm.inj, hm.dom, hm.lent, fun t k hk => ?_⟩, fun i => (h.inv.env i).mono (grows_push hw) hw0 hsub (fun _ _ => rfl) (Nat.le_refl _)⟩⟩
  · obtain ⟨q1, q2, arr1, T1, q3, q4⟩ := hm.tok t h1 h2
    refine ⟨?_, by omega, arr1, T1, by rw [heap_push_old hw q2]; exact q3, q4⟩
    rcases q1 with q1 | q1
    · have q1 : w.heap.size ≤ μ t := q1
      omega
    · exact .inr ⟨q1.1, by omega, fun e => e.elim q1.2.2 (fun e => by omega)⟩
  · obtain ⟨arr, T, g1, g2, g3, g4⟩ := hm.blk t k hk
    exact ⟨arr, T, by rw [heap_push_old hw (hm.lt hk).2]; exact g1, g2, g3, fun i x v hx hv => (g4 i x v hx hv).mono (grows_push hw) hw0 hsub (fun _ _ => rfl) (Nat.le_refl _)⟩

theorem invX_promote (h : InvX F X S a w μ) {b d : Nat} (hb : X b) (hd : S.ρ d = .lit (.pointer (some ⟨b, 0, none⟩))) {z : List Value} {T : TypeId} (harr : w.heap[b]? = some (.cells z.toArray T (0, 0))) (h1 : ∀ v ∈ z, v.oneCell' = true) :
    InvX F (fun b' => X b' ∧ b' ≠ b) ⟨upd S.ρ d (.ptr S.c 0), supd S.σ S.c (some ⟨vlits z, true⟩), S.c + 1⟩ a w (newμ μ S.c b) := by
  have hm := h.inv.mem
  have hfree : S.σ S.c = none := by
    cases hk : S.σ S.c with
    | none => rfl
    | some k => have := (hm.lt hk).1; omega
  have hX' : ∀ b', X b' ∧ b' ≠ b → F.base ≤ b' ∧ b' < w.heap.size := fun b' hb' => h.hX b' hb'.1
  have hold : ∀ t, t < S.c → newμ μ S.c b t = μ t := fun t ht => newμ_old ht
  have hlive : ∀ b', Live (supd S.σ S.c (some ⟨vlits z, true⟩)) (newμ μ S.c b) b' → Live S.σ μ b' ∨ b' = b := by
    rintro b' ⟨t, k, hk, hl, e⟩
    by_cases g : t = S.c
    · subst g; rw [newμ_new] at e; exact .inr e.symm
    · rw [supd_ne _ _ _ _ g] at hk
      refine .inl ⟨t, k, hk, hl, ?_⟩
      rw [← hold t (hm.lt hk).1]; exact e
  have hsub : ∀ b', (F.away w X).M S.σ w μ b' → (F.away w (fun b' => X b' ∧ b' ≠ b)).M (supd S.σ S.c (some ⟨vlits z, true⟩)) w (newμ μ S.c b) b' := fun b' hb' => by
    obtain ⟨g1, g2⟩ := (away_M h.moved h.hX (Nat.le_refl _)).1 hb'
    refine (away_M h.moved hX' (Nat.le_refl _)).2 ⟨?_, fun q => g2 q.1⟩
    rcases g1 with g1 | ⟨g1, g3, g4⟩
    · exact .inl g1
    · refine .inr ⟨g1, g3, fun q => ?_⟩
      rcases hlive b' q with q | q
      · exact g4 q
      · exact g2 (q ▸ hb)
  have hbt : ∀ t, F.c0 ≤ t → t < S.c → μ t ≠ b := fun t h1 h2 e => by
    obtain ⟨q1, q2, _⟩ := hm.tok t h1 h2
    rcases q1 with q1 | q1
    · have q1 : w.heap.size ≤ μ t := q1
      omega
    · exact q1.2.2 (e ▸ hb)
  refine ⟨h.good, h.moved, hX', ⟨h.inv.size, h.inv.defers, ⟨away_good h.good h.moved, moved_refl F w _, Nat.le_succ_of_le hm.c0, fun t ht => ?_, fun t h1' h2 => ?_, fun t t' h1' h2 h3 h4 e => ?_, fun t k hk => ?_, fun t ht => ?_, fun t k hk => ?_⟩, fun i => ?_⟩⟩
  · have hc : (F.away w X).c0 ≤ S.c := hm.c0
    rw [hold t (Nat.lt_of_lt_of_le ht hc)]
    exact hm.mu0 t ht
  · by_cases g : t = S.c
    · subst g
      rw [newμ_new]
      refine ⟨.inr ⟨.inl (h.hX b hb).1, (h.hX b hb).2, fun q => q.2 rfl⟩, (h.hX b hb).2, _, T, harr, fun i v hv => h1 v ?_⟩
      have hv : z[i]? = some v := by simpa using hv
      exact List.mem_of_getElem? hv
    · have h2 : t < S.c + 1 := h2
      have hlt : t < S.c := by omega
      rw [hold t hlt]
      obtain ⟨q1, q2, q3⟩ := hm.tok t h1' hlt
      refine ⟨?_, q2, q3⟩
      rcases q1 with q1 | q1
      · exact .inl q1
      · exact .inr ⟨q1.1, q1.2.1, fun q => q1.2.2 q.1⟩
  · have h2 : t < S.c + 1 := h2
    have h4 : t' < S.c + 1 := h4
    by_cases g : t = S.c <;> by_cases g' : t' = S.c
    · omega
    · subst g; rw [newμ_new, hold t' (by omega)] at e; exact absurd e.symm (hbt t' h3 (by omega))
    · subst g'; rw [newμ_new, hold t (by omega)] at e; exact absurd e (hbt t h1' (by omega))
    · rw [hold t (by omega), hold t' (by omega)] at e; exact hm.inj t t' h1' (by omega) h3 (by omega) e
  · by_cases g : t = S.c
    · subst g
      exact .inl ⟨hm.c0, Nat.lt_succ_self _⟩
    · have hk : S.σ t = some k := by rw [← hk]; exact (supd_ne _ _ _ _ g).symm
      rcases hm.dom t k hk with ⟨q1, q2⟩ | q
      · exact .inl ⟨q1, Nat.lt_succ_of_lt q2⟩
      · exact .inr q
  · obtain ⟨k, hk⟩ := hm.lent t ht
    have : t ≠ S.c := by intro e; subst e; rw [hfree] at hk; cases hk
    exact ⟨k, by rw [← hk]; exact supd_ne _ _ _ _ this⟩
  · by_cases g : t = S.c
    · subst g
      have hk : some (Blk.mk (vlits z) true) = some k := by rw [← hk]; exact (supd_same _ _ _).symm
      cases hk
      rw [newμ_new]
      have hR := repL_lits (w := w) (M := (F.away w (fun b' => X b' ∧ b' ≠ b)).M (supd S.σ S.c (some ⟨vlits z, true⟩)) w (newμ μ S.c b)) (μ := newμ μ S.c b) (c := S.c + 1) z h1
      exact ⟨z.toArray, T, harr, by simp [hR.1], hR.2.1, fun j x v hx hv => RepE.of_one (hR.2.2 j x v hx hv)⟩
    · have hk : S.σ t = some k := by rw [← hk]; exact (supd_ne _ _ _ _ g).symm
      obtain ⟨arr, T', g1, g2, g3, g4⟩ := hm.blk t k hk
      rw [hold t (hm.lt hk).1]
      exact ⟨arr, T', g1, g2, g3, fun i x v hx hv => (g4 i x v hx hv).mono (Grows.refl _) (fun _ _ => rfl) hsub hold (Nat.le_succ _)⟩
  · by_cases g : i = d
    · subst g
      have e := h.inv.env i
      rw [hd] at e
      have e := repE_lit e
      have e : (F.away w fun b' => X b' ∧ b' ≠ b).val a i = _ := e
      show RepE _ _ _ _ (upd S.ρ i (.ptr S.c 0) i) _
      rw [upd_same, e]
      exact ⟨by rw [newμ_new], Nat.lt_succ_self _⟩
    · show RepE _ _ _ _ (upd S.ρ d (.ptr S.c 0) i) _
      rw [upd_ne _ _ _ _ g]
      exact (h.inv.env i).mono (Grows.refl _) (fun _ _ => rfl) hsub hold (Nat.le_succ _)

theorem alloc_wp {P : Program} {o : Oper} {draw : Bool} {z : List Value} (ho : resOp P draw o = .alloc z) {K : Act → World → Prop} {Q : Exit → Act → World → Prop}
    (h : ∀ (w' : World) (T : TypeId), w'.os = w.os → w'.tape = w.tape → w'.output = w.output → w'.heap = w.heap.push (.cells z.toArray T (0, 0)) → (∀ v ∈ z, v.oneCell' = true) → K (a.put o.dst (.pointer (some ⟨w.heap.size, 0, none⟩))) w') : o.wp P a w K Q := by
  obtain ⟨e, i, zv, hop, hi, hz, hone, rfl⟩ := inv_alloc ho
  have hr : (execOp a.eval o).run P w = .ok (.value (.pointer (some ⟨w.heap.size, 0, none⟩))) (w.alloc (.cells zv.cells e)) := by simp [execOp, hop, Instr.alloc, zeroValue, typeInfo, hi, hz, newVar, newRow]
  unfold Oper.wp
  rw [hr]
  refine h _ e rfl rfl rfl ?_ fun v hv => Array.all_eq_true_iff_forall_mem.1 hone v (by simpa using hv)
  rw [Array.toArray_toList]; rfl
end Go.VM
namespace Go.VM
open Go.RowKit

variable {F : Ctx} {S S' : VS} {a : Act} {w : World} {μ : Nat → Nat} {ops : Array Oper} {Q : Exit → Act → World → Prop}

def ClosedL (ops : Array Oper) (listed : Array Bool) : Prop := ∀ (j : Nat) (o : Oper), listed.getD j false = true → ops[j]? = some o → ∀ e ∈ o.after, Region.binds .any e = true → listed.getD e.on false = true

theorem VSteps.append {P : Program} {c0 : Nat} : ∀ {l r : List VO} {S S' : VS}, VSteps P true c0 (l ++ r) S S' ↔ ∃ S1, VSteps P true c0 l S S1 ∧ VSteps P true c0 r S1 S'
  | [], r, S, S' => ⟨fun h => ⟨S, .nil S, h⟩, fun ⟨S1, h1, h2⟩ => by
      cases h1 with
      | nil => exact h2
      | frz hdr => cases hdr⟩
  | o :: l, r, S, S' => by
    constructor
    · intro h
      cases h with
      | cons h t =>
        obtain ⟨S1, h1, h2⟩ := VSteps.append.1 t
        exact ⟨S1, .cons h h1, h2⟩
      | frz hdr => cases hdr
    · rintro ⟨S1, h1, h2⟩
      cases h1 with
      | cons h t => exact .cons h (VSteps.append.2 ⟨S1, t, h2⟩)
      | frz hdr => cases hdr

theorem pull_first {P : Program} {c0 : Nat} {y : VO} {r : List VO} {S' : VS} : ∀ {l : List VO} {S : VS}, (∀ x ∈ l, x.swaps y = true) → VSteps P true c0 (l ++ y :: r) S S' → ∃ S1, VStep P true c0 y S S1 ∧ VSteps P true c0 (l ++ r) S1 S'
  | [], S, _, h => by cases h with | cons h t => exact ⟨_, h, t⟩ | frz hdr => cases hdr
  | x :: l, S, hs, h => by
    cases h with
    | cons hx t =>
      obtain ⟨S1, h1, h2⟩ := pull_first (fun z hz => hs z (List.mem_cons_of_mem _ hz)) t
      obtain ⟨S1', h3, h4⟩ := swap_step (hs x List.mem_cons_self) hx h1
      exact ⟨S1', h3, .cons h4 h2⟩
    | frz hdr => cases hdr

theorem getD_bool {listed : Array Bool} {j : Nat} (h : listed.getD j true = false) : listed.getD j false = false := by
  rw [Array.getD_eq_getD_getElem?] at *
  cases hq : listed[j]? with
  | none => rw [hq] at h; simp at h
  | some b => rw [hq] at h; simpa using h

theorem mask_bit {ps : List Nat} {i : Nat} : ∀ (l : List Edge) (m : Nat), (l.foldl (fun m e => if Region.binds .any e then (m ||| (1 <<< e.on)) ||| ps.getD e.on 0 else m) m).testBit i = true →
    m.testBit i = true ∨ ∃ e ∈ l, Region.binds .any e = true ∧ (e.on = i ∨ (ps.getD e.on 0).testBit i = true)
  | [], m, h => .inl h
  | e :: l, m, h => by
    rw [List.foldl_cons] at h
    rcases mask_bit l _ h with h | ⟨e', he', hb, h⟩
    · split at h
      · rename_i hb
        rw [Nat.testBit_or, Nat.testBit_or, Bool.or_eq_true, Bool.or_eq_true] at h
        rcases h with (h | h) | h
        · exact .inl h
        · refine .inr ⟨e, List.mem_cons_self, hb, .inl ?_⟩
          rw [Nat.one_shiftLeft, Nat.testBit_two_pow] at h
          simpa using h
        · exact .inr ⟨e, List.mem_cons_self, hb, .inr h⟩
      · exact .inl h
    · exact .inr ⟨e', List.mem_cons_of_mem _ he', hb, h⟩
def Reaches (ops : Array Oper) (i : Nat) (o : Oper) : Prop := ∀ listed : Array Bool, ClosedL ops listed → (∀ e ∈ o.after, Region.binds .any e = true → listed.getD e.on false = true) → listed.getD i false = true
theorem mask_reaches {ps : List Nat} (hps : ∀ (j m : Nat), ps[j]? = some m → ∃ o, ops[j]? = some o ∧ ∀ i, m.testBit i = true → Reaches ops i o) {o : Oper} {i : Nat} (h : orderedP ps i o = true) : Reaches ops i o := by
  intro listed hcl hp
  unfold orderedP predMask at h
  rcases mask_bit _ _ h with h | ⟨e, he, hb, h⟩
  · simp at h
  · have he' : e ∈ o.after := by simpa using he
    have hl := hp e he' hb
    rcases h with rfl | h
    · exact hl
    · cases hq : ps[e.on]? with
      | none => rw [List.getD_eq_getElem?_getD, hq] at h; simp at h
      | some m =>
        rw [List.getD_eq_getElem?_getD, hq] at h
        obtain ⟨o', ho', h2⟩ := hps e.on m hq
        exact h2 i h listed hcl fun e' he'' hb' => hcl e.on o' hl ho' e' he'' hb'
theorem preds_ok : ∀ (l : List Oper) (ps : List Nat), (∀ (j : Nat) (o : Oper), l[j]? = some o → ops[ps.length + j]? = some o) → (∀ (j m : Nat), ps[j]? = some m → ∃ o, ops[j]? = some o ∧ ∀ i, m.testBit i = true → Reaches ops i o) →
    ∀ (j m : Nat), (l.foldl (fun ps o => ps ++ [predMask ps o]) ps)[j]? = some m → ∃ o, ops[j]? = some o ∧ ∀ i, m.testBit i = true → Reaches ops i o
  | [], ps, _, h, j, m, hj => h j m hj
  | o :: l, ps, hl, h, j, m, hj => by
    rw [List.foldl_cons] at hj
    refine preds_ok l (ps ++ [predMask ps o]) (fun k o' hk => ?_) (fun k m' hk => ?_) j m hj
    · have := hl (k + 1) o' (by simpa using hk)
      rw [List.length_append, List.length_singleton]
      rw [← this]; congr 1; omega
    · rw [List.getElem?_append] at hk
      split at hk
      · exact h k m' hk
      · rename_i hkl
        have hk0 : k - ps.length = 0 := by
          have := (List.getElem?_eq_some_iff.1 hk).1
          simp at this; exact this
        rw [hk0] at hk
        simp at hk
        subst hk
        refine ⟨o, ?_, fun i hi => mask_reaches h hi⟩
        have := hl 0 o rfl
        rw [← this]; congr 1; omega
theorem ordered_listed {listed : Array Bool} (hcl : ClosedL ops listed) {i : Nat} (o : Oper) (hp : ∀ e ∈ o.after, Region.binds .any e = true → listed.getD e.on false = true) (h : ordered ops i o = true) : listed.getD i false = true :=
  mask_reaches (preds_ok ops.toList [] (fun j o h => by simpa using h) (fun j m h => by simp at h)) h listed hcl hp

abbrev stV (n d : Nat) (x : X) : VO := ⟨none, .store n (.t d) x, none⟩
abbrev alV (d : Nat) (z : List Value) : VO := ⟨some d, .alloc z, none⟩
theorem countB_pos {α : Type} {f : α → Bool} : ∀ {l : List α} {i : Nat} {x : α}, l[i]? = some x → f x = true → 0 < countB f l
  | [], i, x, h, _ => by simp at h
  | y :: l, 0, x, h, hf => by
    simp at h; subst h
    simp [countB, hf]
  | y :: l, i + 1, x, h, hf => by
    have := countB_pos (l := l) (i := i) (by simpa using h) hf
    unfold countB
    split <;> omega
theorem countB_one {α : Type} {f : α → Bool} : ∀ {l : List α} {i j : Nat} {x y : α}, countB f l = 1 → l[i]? = some x → l[j]? = some y → f x = true → f y = true → i = j
  | [], i, j, x, y, _, h, _, _, _ => by simp at h
  | q :: l, 0, 0, x, y, h, hx, hy, fx, fy => rfl
  | q :: l, 0, j + 1, x, y, h, hx, hy, fx, fy => by
    simp at hx; subst hx
    have := countB_pos (l := l) (i := j) (by simpa using hy) fy
    simp [countB, fx] at h
    omega
  | q :: l, i + 1, 0, x, y, h, hx, hy, fx, fy => by
    simp at hy; subst hy
    have := countB_pos (l := l) (i := i) (by simpa using hx) fx
    simp [countB, fy] at h
    omega
  | q :: l, i + 1, j + 1, x, y, h, hx, hy, fx, fy => by
    have h1 := countB_pos (l := l) (i := i) (by simpa using hx) fx
    unfold countB at h
    split at h
    · omega
    · rw [countB_one h (i := i) (j := j) (by simpa using hx) (by simpa using hy) fx fy]

structure Lonely (L : List VO) (d : Nat) : Prop where
  dst : ∀ (i j : Nat) (x y : VO), L[i]? = some x → L[j]? = some y → x.dst = some d → y.dst = some d → i = j
  rd : ∀ (i j : Nat) (x y : VO), L[i]? = some x → L[j]? = some y → d ∈ x.reads → d ∈ y.reads → i = j
  noapp : ∀ x ∈ L, x.op.hasApp = false
theorem lonely_of {L : List VO} {d : Nat} (h : lonely L d = true) : Lonely L d := by
  unfold lonely at h
  simp only [Bool.and_eq_true, beq_iff_eq, List.all_eq_true, Bool.not_eq_true'] at h
  obtain ⟨⟨h1, h2⟩, h3⟩ := h
  exact ⟨fun i j x y hx hy dx dy => countB_one h1 hx hy (by simp [dx]) (by simp [dy]), fun i j x y hx hy dx dy => countB_one h2 hx hy (by simpa using dx) (by simpa using dy), h3⟩

theorem pendA_is {L : List VO} {o : VO} (h : isPendA L o = true) : ∃ d z, o = ⟨some d, .alloc z, none⟩ := by
  unfold isPendA at h
  split at h
  · exact ⟨_, _, rfl⟩
  · cases h
theorem pendS_is {L : List VO} {o : VO} (h : isPendS L o = true) : ∃ n d x, o = ⟨none, .store n (.t d) x, none⟩ := by
  unfold isPendS at h
  split at h
  · exact ⟨_, _, _, rfl⟩
  · cases h
theorem pendA_facts {L : List VO} {d : Nat} {z : List Value} (h : isPendA L ⟨some d, .alloc z, none⟩ = true) : lonely L d = true ∧ ∃ (k : Nat) (x : X), L[k]? = some (stV z.length d x) ∧ d ∉ x.reads := by
  unfold isPendA at h
  simp only [Bool.and_eq_true] at h
  refine ⟨h.1, ?_⟩
  obtain ⟨q, hq, h2⟩ := List.any_eq_true.1 h.2
  split at h2
  · simp only [Bool.and_eq_true, beq_iff_eq, Bool.not_eq_true'] at h2
    obtain ⟨⟨rfl, rfl⟩, h3⟩ := h2
    obtain ⟨k, hk⟩ := List.getElem?_of_mem hq
    exact ⟨k, _, hk, by simpa using h3⟩
  · cases h2
theorem pendS_facts {L : List VO} {n d : Nat} {x : X} (h : isPendS L ⟨none, .store n (.t d) x, none⟩ = true) : lonely L d = true ∧ d ∉ x.reads ∧ ∃ (j : Nat) (z : List Value), L[j]? = some (alV d z) ∧ z.length = n := by
  unfold isPendS at h
  simp only [Bool.and_eq_true, Bool.not_eq_true'] at h
  refine ⟨h.1.1, by simpa using h.1.2, ?_⟩
  obtain ⟨q, hq, h2⟩ := List.any_eq_true.1 h.2
  split at h2
  · simp only [Bool.and_eq_true, beq_iff_eq] at h2
    obtain ⟨rfl, rfl⟩ := h2
    obtain ⟨k, hk⟩ := List.getElem?_of_mem hq
    exact ⟨k, _, hk, rfl⟩
  · cases h2
theorem pendA_mk {L : List VO} {j k d : Nat} {z : List Value} {x : X} (hl : lonely L d = true) (hk : L[k]? = some (stV z.length d x)) (hx : d ∉ x.reads) : isPendA L ⟨some d, .alloc z, none⟩ = true := by
  unfold isPendA
  simp only [Bool.and_eq_true]
  refine ⟨hl, List.any_eq_true.2 ⟨_, List.mem_of_getElem? hk, ?_⟩⟩
  simp [hx]
theorem pendS_mk {L : List VO} {j d : Nat} {z : List Value} {x : X} (hl : lonely L d = true) (hj : L[j]? = some (alV d z)) (hx : d ∉ x.reads) : isPendS L ⟨none, .store z.length (.t d) x, none⟩ = true := by
  unfold isPendS
  simp only [Bool.and_eq_true]
  refine ⟨⟨hl, by simp [hx]⟩, List.any_eq_true.2 ⟨_, List.mem_of_getElem? hj, ?_⟩⟩
  simp

theorem resL0_at {P : Program} {i : Nat} {o : Oper} (h : ops[i]? = some o) : (resL0 P ops)[i]? = some (resVO P true ops o) := by
  unfold resL0
  rw [List.getElem?_map, Array.getElem?_toList, h]
  rfl
theorem resL0_of {P : Program} {i : Nat} {q : VO} (h : (resL0 P ops)[i]? = some q) : ∃ o, ops[i]? = some o ∧ q = resVO P true ops o := by
  unfold resL0 at h
  rw [List.getElem?_map, Array.getElem?_toList] at h
  obtain ⟨o, h1, rfl⟩ := Option.map_eq_some_iff.1 h
  exact ⟨o, h1, rfl⟩

def patch (p : Nat → Option Nat) (ρ : Nat → V) : Nat → V := fun i => match p i with | some b => .lit (.pointer (some ⟨b, 0, none⟩)) | none => ρ i
def pset (p : Nat → Option Nat) (d : Nat) (o : Option Nat) : Nat → Option Nat := fun t => if t = d then o else p t
theorem pset_same {p : Nat → Option Nat} {d : Nat} {o : Option Nat} : pset p d o d = o := if_pos rfl
theorem pset_ne {p : Nat → Option Nat} {d t : Nat} {o : Option Nat} (h : t ≠ d) : pset p d o t = p t := if_neg h
def pcS (p : Nat → Option Nat) (S : VS) : VS := ⟨patch p S.ρ, S.σ, S.c⟩
def Xof (p : Nat → Option Nat) (b : Nat) : Prop := ∃ d, p d = some b
theorem patch_none {p : Nat → Option Nat} (h : ∀ d, p d = none) (ρ : Nat → V) : patch p ρ = ρ := by
  funext i; simp [patch, h]
theorem patch_upd {p : Nat → Option Nat} {d : Nat} (h : p d = none) (ρ : Nat → V) (v : V) : upd (patch p ρ) d v = patch p (upd ρ d v) := by
  funext i
  by_cases g : i = d
  · subst g; simp [patch, upd, h]
  · simp [patch, upd, g]
theorem patch_updo {p : Nat → Option Nat} {d : Option Nat} (h : ∀ i, d = some i → p i = none) (ρ : Nat → V) (v : V) : updo (patch p ρ) d v = patch p (updo ρ d v) := by
  cases d with
  | none => rfl
  | some i => exact patch_upd (h i rfl) ρ v

structure Pends (P : Program) (ops : Array Oper) (U : List Nat) (p : Nat → Option Nat) (w : World) : Prop where
  inj : ∀ d d' b, p d = some b → p d' = some b → d = d'
  alone : ∀ d b, p d = some b → ∀ j ∈ U, ∀ q, (resL0 P ops)[j]? = some q → q.dst ≠ some d
  here : ∀ d b, p d = some b → ∃ k ∈ U, ∃ n x, (resL0 P ops)[k]? = some (stV n d x) ∧ isPendS (resL0 P ops) ⟨none, .store n (.t d) x, none⟩ = true ∧
    ∃ z T, w.heap[b]? = some (.cells (List.toArray z) T (0, 0)) ∧ z.length = n ∧ ∀ v ∈ z, v.oneCell' = true
  wait : ∀ k ∈ U, ∀ n d x, (resL0 P ops)[k]? = some (stV n d x) → isPendS (resL0 P ops) ⟨none, .store n (.t d) x, none⟩ = true → (∃ j ∈ U, ∃ q, (resL0 P ops)[j]? = some q ∧ q.dst = some d) ∨ ∃ b, p d = some b

theorem putCells_whole : ∀ (xs l : List V), xs.length = l.length → putCells l 0 xs = xs := by
  intro xs l h
  apply List.ext_getElem?
  intro j
  rw [putCells_get]
  by_cases g : j < xs.length
  · rw [if_pos ⟨Nat.zero_le _, by omega, by omega⟩]; simp
  · rw [if_neg (by omega), List.getElem?_eq_none (by omega), List.getElem?_eq_none (by omega)]
theorem cellsB_of {v : V} {cs : List V} (h : v.cells = some cs) : v.cellsB = some cs := by
  cases v <;> first | exact h | cases h
theorem store_of_storeA {P : Program} {c0 : Nat} {d : Option Nat} {n : Nat} {x y : X} {ys : List Nat} {g : Option (Nat × Bool)} {S S1 : VS} (h : VStep P true c0 ⟨d, .storeA n x y ys, g⟩ S S1) : VStep P true c0 ⟨d, .store n x y, g⟩ S S1 := by
  cases h with
  | skip hg ht => exact .skip (o := ⟨d, .store n x y, g⟩) hg ht
  | run hg h =>
    cases h with
    | pure h => simp [vpure] at h
    | storeA ha h => exact .run (o := ⟨d, .store n x y, g⟩) hg (.store h)
  | inl hdr => cases hdr

theorem call_of_callO {P : Program} {dr : Bool} {c0 : Nat} {d : Option Nat} {f : FuncId} {x : X} {g : Option (Nat × Bool)} {S S1 : VS} (h : VStep P dr c0 ⟨d, .callO f x, g⟩ S S1) : VStep P false c0 ⟨d, .call f [x], g⟩ S S1 := by
  cases h with
  | skip hg ht => exact .skip (o := ⟨d, .call f [x], g⟩) hg ht
  | run hg h =>
    cases h with
    | pure h => simp [vpure] at h
    | ownVO hf hx hre hn h0 => exact .run (o := ⟨d, .call f [x], g⟩) hg (.ownV rfl hf hx hre hn h0)
  | inl _ _ ho => cases ho
theorem noPend_all {L : List VO} (h : noPend L = true) : ∀ q ∈ L, isPendA L q = false ∧ isPendS L q = false := by
  intro q hq
  unfold noPend at h
  have := List.all_eq_true.1 h q hq
  simpa [Bool.and_eq_true] using this
theorem ownO_step {P : Program} {L : List VO} {c0 : Nat} {v : VO} {S S1 : VS} (h : VStep P true c0 (ownO P L v) S S1) : VStep P true c0 v S S1 ∨ ((VStep P false c0 v S S1 ∨ ∃ d sz len z ps g, v = ⟨d, .bsl false sz len z ps, g⟩ ∧ VStep P true c0 ⟨d, .bsl true sz len z ps, g⟩ S S1) ∧ ∀ q ∈ L, isPendA L q = false ∧ isPendS L q = false) := by
  unfold ownO at h
  split at h
  · split at h
    · rename_i hc
      simp only [Bool.and_eq_true] at hc
      exact .inr ⟨.inl (call_of_callO h), noPend_all hc.2⟩
    · exact .inl h
  · split at h
    · rename_i hc
      simp only [Bool.and_eq_true] at hc
      exact .inr ⟨.inr ⟨_, _, _, _, _, _, rfl, h⟩, noPend_all hc.2⟩
    · exact .inl h
  · exact .inl h
theorem resOp_bsl {P : Program} {o : Oper} {sz len : Nat} {z : List Value} {ps : List (Nat × Nat × X)} (h : resOp P true o = .bsl false sz len z ps) : resOp P false o = .bsl true sz len z ps := by
  unfold resOp at h ⊢
  cases hop : o.op <;> simp only [hop] at h ⊢ <;> (revert h; (try simp only [res1, res2]); (repeat' split) <;> (intro h; first | (cases h; done) | (cases h; rfl) | simp_all))
theorem resVO_bsl {P : Program} {o : Oper} {d : Option Nat} {g : Option (Nat × Bool)} {sz len : Nat} {z : List Value} {ps : List (Nat × Nat × X)} (h : resVO P true ops o = ⟨d, .bsl false sz len z ps, g⟩) : resVO P false ops o = ⟨d, .bsl true sz len z ps, g⟩ := by
  unfold resVO at h ⊢
  split at h
  · cases g' : resOp P true o with
    | bsl tok a b e f =>
      rw [g'] at h
      simp only [VO.mk.injEq, VOp.bsl.injEq] at h
      obtain ⟨rfl, ⟨rfl, rfl, rfl, rfl, rfl⟩, rfl⟩ := h
      rw [resOp_bsl g']
    | _ => rw [g'] at h; simp at h
  · simp at h

theorem okDraw_facts {P : Program} (hok : okDraw P ops = true) {j : Nat} {o : Oper} (ho : ops[j]? = some o) :
    allocAhead (resL0 P ops) j (resVO P true ops o) = true ∧ (∀ e ∈ o.after, Region.binds .any e = true → e.on < j) ∧ ∀ i, i < j → ordered ops i o = true ∨ (opAt P ops i).swaps (opAt P ops j) = true := by
  have hj : j < ops.size := (Array.getElem?_eq_some_iff.1 ho).1
  unfold okDraw at hok
  rw [frcL_eq] at hok
  unfold okPairs at hok
  have := List.all_eq_true.1 hok j (List.mem_range.2 hj)
  rw [ho] at this
  simp only [Bool.and_eq_true] at this
  refine ⟨this.1.1, fun e he hb => ?_, fun i hi => ?_⟩
  · have h2 := Array.all_eq_true_iff_forall_mem.1 this.1.2 e he
    rw [hb] at h2
    simpa using h2
  · have h2 := List.all_eq_true.1 this.2 i (List.mem_range.2 hi)
    simp only [Bool.or_eq_true] at h2
    exact h2

theorem opAt_of {P : Program} {i : Nat} {o : Oper} (h : ops[i]? = some o) : opAt P ops i = ownO P (resL0 P ops) (drawOp ops (predsL ops) (resL0 P ops) i o (resVO P true ops o)) := by unfold opAt opAtP; rw [h]
theorem opAt_A {P : Program} {i d : Nat} {z : List Value} {o : Oper} (h : ops[i]? = some o) (e : resVO P true ops o = alV d z) (hp : isPendA (resL0 P ops) (alV d z) = true) : opAt P ops i = ⟨some d, .mov (.c .any), none⟩ := by
  rw [opAt_of h, e]; unfold drawOp; rw [if_pos hp]; rfl
theorem opAt_S {P : Program} {i n d : Nat} {x : X} {o : Oper} (h : ops[i]? = some o) (e : resVO P true ops o = stV n d x) (hp : isPendS (resL0 P ops) (stV n d x) = true) : opAt P ops i = ⟨some d, .boxA n x, none⟩ := by
  rw [opAt_of h, e]; unfold drawOp
  have : isPendA (resL0 P ops) (stV n d x) = false := by
    cases hq : isPendA (resL0 P ops) (stV n d x) with
    | false => rfl
    | true => obtain ⟨_, _, h⟩ := pendA_is hq; cases h
  rw [this, if_neg (by decide), if_pos hp]; rfl
theorem noswap {x y : VO} {d : Nat} (hx : x.dst = some d) (hy : y.dst = some d) : x.swaps y = false := by
  cases h : x.swaps y with
  | false => rfl
  | true =>
    unfold VO.swaps at h
    simp only [Bool.and_eq_true] at h
    exact absurd rfl ((apart_facts h.1).2.2 d d hx hy)
theorem alloc_first {P : Program} (hok : okDraw P ops = true) {k n d : Nat} {x : X} {o : Oper} (ho : ops[k]? = some o) (e : resVO P true ops o = stV n d x) (hp : isPendS (resL0 P ops) (stV n d x) = true) :
    ∃ j z o', j < k ∧ ops[j]? = some o' ∧ resVO P true ops o' = alV d z ∧ (resL0 P ops)[j]? = some (alV d z) ∧ z.length = n ∧ isPendA (resL0 P ops) (alV d z) = true ∧ ordered ops j o = true := by
  obtain ⟨hl, hx, j, z, hj, hz⟩ := pendS_facts hp
  have hL := lonely_of hl
  obtain ⟨h1, _, h3⟩ := okDraw_facts hok ho
  rw [e] at h1
  unfold allocAhead at h1
  simp only [hp, Bool.not_true, Bool.false_or] at h1
  obtain ⟨j', hj', h2⟩ := List.any_eq_true.1 h1
  have hlt : j' < k := List.mem_range.1 hj'
  cases hq : (resL0 P ops)[j']? with
  | none => rw [hq] at h2; cases h2
  | some q =>
    rw [hq] at h2
    have hqd : q.dst = some d := by simpa using h2
    have ej : j' = j := hL.dst j' j q _ hq hj hqd rfl
    subst ej
    obtain ⟨o', ho', eo'⟩ := resL0_of hj
    have hkL : (resL0 P ops)[k]? = some (stV n d x) := by rw [resL0_at ho, e]
    have hA : isPendA (resL0 P ops) (alV d z) = true := pendA_mk (k := k) (j := j') (x := x) hl (by rw [hz]; exact hkL) hx
    refine ⟨j', z, o', hlt, ho', eo'.symm, hj, hz, hA, ?_⟩
    rcases h3 j' hlt with h | h
    · exact h
    · rw [noswap (d := d) (by rw [opAt_A ho' eo'.symm hA]) (by rw [opAt_S ho e hp])] at h
      cases h

theorem any_sound (hok : okDraw F.P ops = true) (hds : ∀ (i : Nat) (o : Oper) d, ops[i]? = some o → o.dst = some d → d < F.nt ∧ d < GH) {K : VS → Prop} (hQ : ∀ S' a' w' μ', K S' → Inv F S' a' w' μ' → Q .normal a' w') :
    ∀ (n : Nat) (listed : Array Bool) (U : List Nat) (S : VS) (a : Act) (w : World) (μ : Nat → Nat) (p : Nat → Option Nat), U.length = n → listed.size = ops.size → U.Pairwise (· < ·) → (∀ i, i ∈ U ↔ i < ops.size ∧ listed.getD i true = false) → ClosedL ops listed →
      InvX F (Xof p) (pcS p S) a w μ → Pends F.P ops U p w →
      (∃ S', VSteps F.P true F.c0 (U.map (opAt F.P ops)) S S' ∧ K S') → wpAny F.P .any ops Q n listed a w := by
  intro n
  induction n with
  | zero =>
    intro listed U S a w μ p hn hls _ hU _ hI hP ⟨S', hs, hk⟩
    have hU0 : U = [] := List.eq_nil_of_length_eq_zero hn
    subst hU0
    have hp0 : ∀ d, p d = none := fun d => by
      cases hd : p d with
      | none => rfl
      | some b => obtain ⟨k, hk, _⟩ := hP.here d b hd; simp at hk
    refine ⟨?_, ?_⟩
    · rw [List.eq_nil_iff_forall_not_mem]
      intro j hj
      obtain ⟨h0, o, ho, _⟩ := mem_ready.1 hj
      have : j ∈ ([] : List Nat) := (hU j).2 ⟨(Array.getElem?_eq_some_iff.1 ho).1, h0⟩
      simp at this
    · have hI' := hI.toInv
      have e : pcS p S = S := by unfold pcS; rw [patch_none hp0]
      rw [e] at hI'
      cases hs with
      | nil => exact hQ _ _ _ _ hk hI'
      | frz hdr => cases hdr
  | succ n ih =>
    intro listed U S a w μ p hn hls hp hU hcl hI hP ⟨S', hs, hk⟩
    have hUn : ∀ j, j ∈ U → listed.getD j false = false := fun j hj => getD_bool ((hU j).1 hj).2
    have hUy : ∀ j o, ops[j]? = some o → listed.getD j false = false → listed.getD j true = false → j ∈ U := fun j o ho _ h => (hU j).2 ⟨(Array.getElem?_eq_some_iff.1 ho).1, h⟩
    refine ⟨fun hr => ?_, fun i hi => ?_⟩
    · -- the first one is ready
      exfalso
      cases U with
      | nil => simp at hn
      | cons x U' =>
        have hx := (hU x).1 List.mem_cons_self
        obtain ⟨o, ho⟩ : ∃ o, ops[x]? = some o := ⟨_, Array.getElem?_eq_getElem hx.1⟩
        have : x ∈ Region.ready .any ops listed := by
          refine mem_ready.2 ⟨hx.2, o, ho, fun e he hb => ?_⟩
          have hlt := (okDraw_facts hok ho).2.1 e he hb
          cases hl : listed.getD e.on false with
          | true => rfl
          | false =>
            exfalso
            have hlt2 : e.on < ops.size := by omega
            by_cases ht : listed.getD e.on true = false
            · have hm := (hU e.on).2 ⟨hlt2, ht⟩
              rcases List.mem_cons.1 hm with h | h
              · omega
              · have := (List.pairwise_cons.1 hp).1 _ h; omega
            · have ht' : listed.getD e.on true = true := by simpa using ht
              rw [Array.getD_eq_getD_getElem?] at ht' hl
              -- beyond the array: not an index at all
              cases hq : listed[e.on]? with
              | some b => rw [hq] at ht' hl; simp at ht' hl; rw [hl] at ht'; cases ht'
              | none =>
                -- the size of 'listed' is at least that of the operations below x
                have hxl : listed.getD x true = false := hx.2
                rw [Array.getD_eq_getD_getElem?] at hxl
                cases hqx : listed[x]? with
                | none => rw [hqx] at hxl; simp at hxl
                | some b =>
                  have := (Array.getElem?_eq_some_iff.1 hqx).1
                  have := Array.getElem?_eq_none_iff.1 hq
                  omega
        rw [hr] at this
        simp at this
    · obtain ⟨h0, o, ho, hpre⟩ := mem_ready.1 hi
      have hiU : i ∈ U := (hU i).2 ⟨(Array.getElem?_eq_some_iff.1 ho).1, h0⟩
      have hrd : ∀ j, ordered ops j o = true → listed.getD j false = true := fun j h => ordered_listed hcl o hpre h
      obtain ⟨L1, L2, rfl⟩ := List.append_of_mem hiU
      rw [List.pairwise_append] at hp
      obtain ⟨p1, p2, p3⟩ := hp
      have p2' := List.pairwise_cons.1 p2
      have hiL : (resL0 F.P ops)[i]? = some (resVO F.P true ops o) := resL0_at ho
      have hsw : ∀ x ∈ L1.map (opAt F.P ops), x.swaps (opAt F.P ops i) = true := by
        intro x hx
        obtain ⟨j, hj, rfl⟩ := List.mem_map.1 hx
        have hunl := hUn j (List.mem_append_left _ hj)
        have hlt := p3 j hj i List.mem_cons_self
        rcases (okDraw_facts hok ho).2.2 j hlt with h | h
        · rw [hrd j h] at hunl; cases hunl
        · exact h
      rw [List.map_append, List.map_cons] at hs
      obtain ⟨S1, h1, h2⟩ := pull_first hsw hs
      have hsub : ∀ j, j ∈ L1 ++ L2 → j ∈ L1 ++ i :: L2 ∧ j ≠ i := fun j hj => by
        rcases List.mem_append.1 hj with h | h
        · exact ⟨List.mem_append_left _ h, fun e => by have := p3 j h i List.mem_cons_self; omega⟩
        · exact ⟨List.mem_append_right _ (List.mem_cons_of_mem _ h), fun e => by have := p2'.1 j h; omega⟩
      have hsup : ∀ j, j ∈ L1 ++ i :: L2 → j ≠ i → j ∈ L1 ++ L2 := fun j hj hne => by
        rcases List.mem_append.1 hj with h | h
        · exact List.mem_append_left _ h
        · rcases List.mem_cons.1 h with h | h
          · exact absurd h hne
          · exact List.mem_append_right _ h
      -- on with the rest
      have go : ∀ (a' : Act) (w' : World) (μ' : Nat → Nat) (p' : Nat → Option Nat), InvX F (Xof p') (pcS p' S1) a' w' μ' → Pends F.P ops (L1 ++ L2) p' w' → wpAny F.P .any ops Q n (listed.setIfInBounds i true) a' w' := by
        intro a' w' μ' p' hI' hP'
        refine ih (listed.setIfInBounds i true) (L1 ++ L2) S1 a' w' μ' p' (by simp at hn ⊢; omega) (by simpa using hls) ?_ (fun j => ?_) ?_ hI' hP' ⟨S', by rw [List.map_append]; exact h2, hk⟩
        · rw [List.pairwise_append]
          exact ⟨p1, p2'.2, fun x hx y hy => p3 x hx y (List.mem_cons_of_mem _ hy)⟩
        · by_cases e : j = i
          · subst e
            constructor
            · intro hm; exact absurd rfl (hsub j hm).2
            · rintro ⟨_, h⟩
              exfalso
              rw [Array.getD_eq_getD_getElem?, Array.getElem?_setIfInBounds] at h
              rw [if_pos rfl] at h
              split at h <;> simp at h
          · rw [getD_set_ne true (Ne.symm e), ← hU j]
            exact ⟨fun h => (hsub j h).1, fun h => hsup j h e⟩
        · intro j o' hj ho' e he hb
          by_cases ej : j = i
          · subst ej
            rw [ho] at ho'; cases ho'
            exact getD_set_true (hpre e he hb)
          · rw [getD_set_ne false (Ne.symm ej)] at hj
            exact getD_set_true (hcl j o' hj ho' e he hb)
      by_cases hA : isPendA (resL0 F.P ops) (resVO F.P true ops o) = true
      · -- an alloc that is not told yet
        obtain ⟨d, z, ev⟩ := pendA_is hA
        rw [ev] at hA hiL
        have eop := opAt_A ho ev hA
        rw [eop] at h1
        obtain ⟨hl, k0, x0, hk0, hx0⟩ := pendA_facts hA
        have hL := lonely_of hl
        have eS1 : S1 = ⟨upd S.ρ d .any, S.σ, S.c⟩ := by
          cases h1 with
          | skip hg => cases hg
          | run hg h =>
            cases h with
            | pure h => simp [vpure, X.ev] at h; subst h; rfl
          | inl hdr => cases hdr
        have hpd : p d = none := by
          cases hq : p d with
          | none => rfl
          | some b => exact absurd rfl (hP.alone d b hq i hiU _ hiL)
        have ed : o.dst = some d := by
          have := congrArg VO.dst ev
          unfold resVO at this
          split at this <;> exact this
        have eop2 : resOp F.P true o = .alloc z := by
          have := congrArg VO.op ev
          unfold resVO at this
          split at this
          · exact this
          · cases this
        have eg : resGuard ops o.guard = some none := by
          unfold resVO at ev
          split at ev
          · rename_i g hg
            have := congrArg VO.guard ev
            simp only at this
            rw [hg, this]
          · have := congrArg VO.op ev
            cases this
        have hgn : o.guard = none := by
          cases hg : o.guard with
          | none => rfl
          | some jb =>
            rw [hg] at eg
            obtain ⟨j, b⟩ := jb
            simp only [resGuard] at eg
            split at eg
            · split at eg <;> cases eg
            · cases eg
        unfold wpOp
        simp only [ho]
        have hw : Region.wanted o (yielded ops a.tmps) = true := by unfold Region.wanted; rw [hgn]
        rw [if_pos hw]
        refine .inl (alloc_wp eop2 fun w' T e1 e2 e3 e4 hone => ?_)
        have hIa := invX_alloc hI e1 e2 e3 e4
        have hsz : ∀ t b, p t = some b → b < w.heap.size := fun t b h => (hI.hX b ⟨t, h⟩).2
        refine go _ _ μ (pset p d (some w.heap.size)) ?_ ⟨fun t t' b ht ht' => ?_, fun t b ht j hj q hq hqd => ?_, fun t b ht => ?_, fun k hk n' d' x' hkL hkp => ?_⟩
        · have eX : Xof (pset p d (some w.heap.size)) = fun b => Xof p b ∨ b = w.heap.size := by
            funext b
            refine propext ⟨?_, ?_⟩
            · rintro ⟨t, ht⟩
              by_cases g : t = d
              · rw [g, pset_same] at ht; exact .inr (Option.some.inj ht).symm
              · rw [pset_ne g] at ht; exact .inl ⟨t, ht⟩
            · rintro (⟨t, ht⟩ | rfl)
              · have g : t ≠ d := by intro e; subst e; rw [hpd] at ht; cases ht
                exact ⟨t, by rw [pset_ne g]; exact ht⟩
              · exact ⟨d, pset_same⟩
          have eS : pcS (pset p d (some w.heap.size)) S1 = ⟨updo (pcS p S).ρ (some d) (.lit (.pointer (some ⟨w.heap.size, 0, none⟩))), (pcS p S).σ, (pcS p S).c⟩ := by
            subst eS1
            unfold pcS
            congr 1
            funext t
            by_cases g : t = d
            · subst g; simp [patch, updo, upd, pset]
            · simp [patch, updo, upd, pset, g]
          rw [eX, eS, ed]
          exact ⟨hIa.good, hIa.moved, hIa.hX, hIa.inv.put (some d) (fun t ht => by cases ht; exact hds i o d ho ed) (RepE.of_one (.lit _))⟩
        · by_cases g : t = d <;> by_cases g' : t' = d
          · omega
          · rw [g, pset_same] at ht; rw [pset_ne g'] at ht'
            have := hsz t' b ht'; cases ht; omega
          · rw [pset_ne g] at ht; rw [g', pset_same] at ht'
            have := hsz t b ht; cases ht'; omega
          · rw [pset_ne g] at ht; rw [pset_ne g'] at ht'
            exact hP.inj t t' b ht ht'
        · obtain ⟨hj1, hj2⟩ := hsub j hj
          by_cases g : t = d
          · subst g
            exact hj2 (hL.dst j i q _ hq hiL hqd rfl)
          · rw [pset_ne g] at ht
            exact hP.alone t b ht j hj1 q hq hqd
        · by_cases g : t = d
          · subst g
            rw [pset_same] at ht
            cases ht
            have hS : isPendS (resL0 F.P ops) (stV z.length t x0) = true := pendS_mk (j := i) hl hiL hx0
            obtain ⟨ok, hok0, ek⟩ := resL0_of hk0
            have hkU : k0 ∈ L1 ++ i :: L2 := by
              refine (hU k0).2 ⟨(Array.getElem?_eq_some_iff.1 hok0).1, ?_⟩
              cases hlk : listed.getD k0 true with
              | false => rfl
              | true =>
                exfalso
                obtain ⟨j', z', o', hjk, ho', _, hj'L, _, _, hord⟩ := alloc_first hok hok0 ek.symm hS
                have ej : j' = i := hL.dst j' i _ _ hj'L hiL rfl rfl
                subst ej
                have hlk' : listed.getD k0 false = true := by
                  rw [Array.getD_eq_getD_getElem?] at hlk ⊢
                  cases hq : listed[k0]? with
                  | some b => rw [hq] at hlk; simpa using hlk
                  | none =>
                    exfalso
                    have hkn := Array.getElem?_eq_none_iff.1 hq
                    have := (Array.getElem?_eq_some_iff.1 hok0).1
                    omega
                have := ordered_listed hcl ok (fun e he hb => hcl k0 ok hlk' hok0 e he hb) hord
                rw [hUn j' hiU] at this
                cases this
            refine ⟨k0, hsup k0 hkU (fun e => ?_), z.length, x0, hk0, hS, z, T, by rw [e4]; simp, rfl, hone⟩
            subst e
            rw [hiL] at hk0
            cases hk0
          · rw [pset_ne g] at ht
            obtain ⟨k, hk, n', x', g1, g2, z', T', g3, g4, g5⟩ := hP.here t b ht
            refine ⟨k, hsup k hk (fun e => ?_), n', x', g1, g2, z', T', by rw [heap_push_old e4 (hsz t b ht)]; exact g3, g4, g5⟩
            subst e
            rw [hiL] at g1
            cases g1
        · obtain ⟨hk1, hk2⟩ := hsub k hk
          rcases hP.wait k hk1 n' d' x' hkL hkp with ⟨j, hj, q, hq, hqd⟩ | ⟨b, hb⟩
          · by_cases e : j = i
            · subst e
              rw [hiL] at hq
              cases hq
              cases hqd
              exact .inr ⟨_, pset_same⟩
            · exact .inl ⟨j, hsup j hj e, q, hq, hqd⟩
          · by_cases g : d' = d
            · exact .inr ⟨_, by rw [g]; exact pset_same⟩
            · exact .inr ⟨b, by rw [pset_ne g]; exact hb⟩
      · by_cases hS : isPendS (resL0 F.P ops) (resVO F.P true ops o) = true
        · -- the store that tells it
          obtain ⟨n0, d, x, ev⟩ := pendS_is hS
          rw [ev] at hS
          have hiL' : (resL0 F.P ops)[i]? = some (stV n0 d x) := by rw [hiL, ev]
          have eop := opAt_S ho ev hS
          rw [eop] at h1
          obtain ⟨hl, hx, _⟩ := pendS_facts hS
          have hL := lonely_of hl
          obtain ⟨j, z0, o', hji, ho', eo', hjL, hz0, _, hord⟩ := alloc_first hok ho ev hS
          have hjl := hrd j hord
          obtain ⟨b, hb⟩ : ∃ b, p d = some b := by
            rcases hP.wait i hiU n0 d x hiL' hS with ⟨j', hj', q, hq, hqd⟩ | h
            · exfalso
              have ej : j' = j := hL.dst j' j q _ hq hjL hqd rfl
              subst ej
              rw [hUn j' hj'] at hjl; cases hjl
            · exact h
          obtain ⟨k, hk1, n1, x1, hkL, hkS, z, T, hz1, hz2, hz3⟩ := hP.here d b hb
          have eki : k = i := hL.rd k i _ _ hkL hiL' (by simp [VO.reads, VOp.reads, X.reads]) (by simp [VO.reads, VOp.reads, X.reads])
          subst eki
          rw [hiL'] at hkL
          cases hkL
          obtain ⟨cs, eS1, hcs, hcn⟩ : ∃ cs, S1 = ⟨upd S.ρ d (.ptr S.c 0), supd S.σ S.c (some ⟨cs, true⟩), S.c + 1⟩ ∧ (x.ev S.ρ).cells = some cs ∧ cs.length = n0 := by
            cases h1 with
            | skip hg => cases hg
            | run hg h =>
              cases h with
              | pure h => simp [vpure] at h
              | boxA hf h hn => exact ⟨_, rfl, h, hn⟩
            | inl hdr => cases hdr
          have hI2 := invX_promote hI (b := b) (d := d) ⟨d, hb⟩ (by simp [pcS, patch, hb]) hz1 hz3
          have hxev : x.ev (upd (patch p S.ρ) d (.ptr S.c 0)) = x.ev S.ρ := by
            refine ev_agree fun t ht => ?_
            have htd : t ≠ d := fun e => hx (e ▸ ht)
            rw [upd_ne _ _ _ _ htd]
            unfold patch
            cases hpt : p t with
            | none => rfl
            | some b' =>
              exfalso
              obtain ⟨k2, hk2, n2, x2, hk2L, hk2S, _⟩ := hP.here t b' hpt
              have hL2 := lonely_of (pendS_facts hk2S).1
              have e := hL2.rd k2 k _ _ hk2L hiL' (by simp [VO.reads, VOp.reads, X.reads]) (by simp [VO.reads, VOp.reads, ht])
              subst e
              rw [hiL'] at hk2L
              cases hk2L
              exact htd rfl
          have hst : VStep F.P true F.c0 (resVO F.P true ops o) ⟨upd (pcS p S).ρ d (.ptr (pcS p S).c 0), supd (pcS p S).σ (pcS p S).c (some ⟨vlits z, true⟩), (pcS p S).c + 1⟩ ⟨upd (patch p S.ρ) d (.ptr S.c 0), supd S.σ S.c (some ⟨cs, true⟩), S.c + 1⟩ := by
            rw [ev]
            refine .run (o := stV n0 d x) (σ' := supd S.σ S.c (some ⟨cs, true⟩)) (v := .any) (kt := none) (fun t b hg => by cases hg) (.store ?_)
            show vstore _ n0 (upd (patch p S.ρ) d (.ptr S.c 0) d) (x.ev (upd (patch p S.ρ) d (.ptr S.c 0))) = _
            rw [upd_same, hxev]
            unfold vstore
            rw [cellsB_of hcs]
            show (match supd S.σ S.c (some ⟨vlits z, true⟩) S.c with | some b => _ | none => none) = _
            rw [supd_same]
            simp only
            rw [if_pos ⟨trivial, hcn, by simp [vlits, hz2]⟩, putCells_whole _ _ (by simp [vlits, hcn, hz2])]
            congr 1
            funext u
            by_cases g : u = S.c
            · simp [supd, pcS, g]
            · simp [supd, pcS, g]
          refine step_wp (F := F.away w fun b' => Xof p b' ∧ b' ≠ b) hI2.inv ho (fun d hd => hds k o d ho hd) hst fun a' w' μ' hI' => ?_
          obtain ⟨hI3, hsame⟩ := hI2.step hI'
          have eX : Xof (pset p d none) = fun b' => Xof p b' ∧ b' ≠ b := by
            funext b'
            refine propext ⟨?_, ?_⟩
            · rintro ⟨t, ht⟩
              by_cases g : t = d
              · rw [g, pset_same] at ht; cases ht
              · rw [pset_ne g] at ht
                exact ⟨⟨t, ht⟩, fun e => g (hP.inj t d b' ht (e ▸ hb))⟩
            · rintro ⟨⟨t, ht⟩, hne⟩
              have g : t ≠ d := by intro e; subst e; rw [hb] at ht; cases ht; exact hne rfl
              exact ⟨t, by rw [pset_ne g]; exact ht⟩
          refine go a' w' μ' (pset p d none) ?_ ⟨fun t t' b' ht ht' => ?_, fun t b' ht j' hj' q hq hqd => ?_, fun t b' ht => ?_, fun k' hk' n' d' x' hkL' hkp => ?_⟩
          · rw [eX]
            have eS : pcS (pset p d none) S1 = ⟨upd (patch p S.ρ) d (.ptr S.c 0), supd S.σ S.c (some ⟨cs, true⟩), S.c + 1⟩ := by
              subst eS1
              unfold pcS
              congr 1
              funext t
              by_cases g : t = d
              · subst g; simp [patch, upd, pset]
              · simp [patch, upd, pset, g]
            rw [eS]
            exact hI3
          · by_cases g : t = d
            · rw [g, pset_same] at ht; cases ht
            by_cases g' : t' = d
            · rw [g', pset_same] at ht'; cases ht'
            rw [pset_ne g] at ht; rw [pset_ne g'] at ht'
            exact hP.inj t t' b' ht ht'
          · by_cases g : t = d
            · rw [g, pset_same] at ht; cases ht
            rw [pset_ne g] at ht
            exact hP.alone t b' ht j' (hsub j' hj').1 q hq hqd
          · by_cases g : t = d
            · rw [g, pset_same] at ht; cases ht
            rw [pset_ne g] at ht
            obtain ⟨k2, hk2, n', x', g1, g2, z', T', g3, g4, g5⟩ := hP.here t b' ht
            refine ⟨k2, hsup k2 hk2 (fun e => ?_), n', x', g1, g2, z', T', ?_, g4, g5⟩
            · subst e
              rw [hiL'] at g1
              cases g1
              exact g rfl
            · rw [hsame b' ⟨⟨t, ht⟩, fun e => g (hP.inj t d b' ht (e ▸ hb))⟩]
              exact g3
          · obtain ⟨hk1', hk2'⟩ := hsub k' hk'
            rcases hP.wait k' hk1' n' d' x' hkL' hkp with ⟨j', hj', q, hq, hqd⟩ | ⟨b', hb'⟩
            · refine .inl ⟨j', hsup j' hj' (fun e => ?_), q, hq, hqd⟩
              subst e
              rw [hiL'] at hq
              cases hq
              cases hqd
            · refine .inr ⟨b', ?_⟩
              rw [pset_ne]
              · exact hb'
              · intro e
                subst e
                exact hk2' (hL.rd k' k _ _ hkL' hiL' (by simp [VO.reads, VOp.reads, X.reads]) (by simp [VO.reads, VOp.reads, X.reads]))
        · -- any other
          have h1' : VStep F.P true F.c0 (resVO F.P true ops o) S S1 ∨ ((VStep F.P false F.c0 (resVO F.P true ops o) S S1 ∨ ∃ d sz len z ps g, resVO F.P true ops o = ⟨d, .bsl false sz len z ps, g⟩ ∧ VStep F.P true F.c0 ⟨d, .bsl true sz len z ps, g⟩ S S1) ∧ ∀ q ∈ resL0 F.P ops, isPendA (resL0 F.P ops) q = false ∧ isPendS (resL0 F.P ops) q = false) := by
            have eop : opAt F.P ops i = ownO F.P (resL0 F.P ops) (drawOp ops (predsL ops) (resL0 F.P ops) i o (resVO F.P true ops o)) := opAt_of ho
            rw [eop] at h1
            unfold drawOp at h1
            rw [if_neg hA, if_neg hS] at h1
            revert h1
            generalize resVO F.P true ops o = v
            intro h1
            split at h1
            · split at h1
              · exact .inl h1
              · exact .inl (store_of_storeA h1)
            · exact ownO_step h1
          have hrp : ∀ t ∈ (resVO F.P true ops o).reads, p t = none := fun t ht => by
            cases hpt : p t with
            | none => rfl
            | some b =>
              exfalso
              obtain ⟨k2, hk2, n2, x2, hk2L, hk2S, _⟩ := hP.here t b hpt
              have hL2 := lonely_of (pendS_facts hk2S).1
              have e := hL2.rd k2 i _ _ hk2L hiL (by simp [VO.reads, VOp.reads, X.reads]) ht
              subst e
              rw [hiL] at hk2L
              exact hS (by rw [Option.some.inj hk2L]; exact hk2S)
          have hdp : ∀ t, (resVO F.P true ops o).dst = some t → p t = none := fun t ht => by
            cases hpt : p t with
            | none => rfl
            | some b => exact absurd ht (hP.alone t b hpt i hiU _ hiL)
          obtain ⟨dr', draw', hst⟩ : ∃ dr' draw', VStep F.P dr' F.c0 (resVO F.P draw' ops o) (pcS p S) (pcS p S1) := by
            by_cases hp0 : ∀ d, p d = none
            · have e : ∀ T : VS, pcS p T = T := fun T => by unfold pcS; rw [patch_none hp0]
              rw [e, e]
              rcases h1' with h1' | ⟨h1' | ⟨_, _, _, _, _, _, ev, h1'⟩, _⟩
              · exact ⟨_, _, h1'⟩
              · exact ⟨_, _, h1'⟩
              · exact ⟨_, false, by rw [resVO_bsl ev]; exact h1'⟩
            · refine ⟨true, true, ?_⟩
              obtain ⟨d, hd⟩ := Classical.not_forall.1 hp0
              obtain ⟨b, hb⟩ : ∃ b, p d = some b := by
                cases hq : p d with
                | none => exact absurd hq hd
                | some b => exact ⟨b, rfl⟩
              obtain ⟨k2, hk2, n2, x2, hk2L, hk2S, _⟩ := hP.here d b hb
              have hna := (lonely_of (pendS_facts hk2S).1).noapp _ (List.mem_of_getElem? hiL)
              have h1' := h1'.resolve_right fun q => by rw [(q.2 _ (List.mem_of_getElem? hk2L)).2] at hk2S; cases hk2S
              obtain ⟨vv, σ', c', hsh, rfl⟩ := (step_shape hna).1 h1'
              refine (step_shape hna).2 ⟨vv, σ', c', shape_agree (fun t ht => by simp [pcS, patch, hrp t ht]) hsh, ?_⟩
              unfold pcS
              rw [patch_updo (fun t ht => hdp t ht)]
          refine step_wp (F := F.away w (Xof p)) hI.inv ho (fun d hd => hds i o d ho hd) hst fun a' w' μ' hI' => ?_
          obtain ⟨hI3, hsame⟩ := hI.step hI'
          refine go a' w' μ' p hI3 ⟨hP.inj, fun t b ht j hj q hq hqd => hP.alone t b ht j (hsub j hj).1 q hq hqd, fun t b ht => ?_, fun k hk n' d' x' hkL hkp => ?_⟩
          · obtain ⟨k2, hk2, n', x', g1, g2, z', T', g3, g4, g5⟩ := hP.here t b ht
            refine ⟨k2, hsup k2 hk2 (fun e => ?_), n', x', g1, g2, z', T', by rw [hsame b ⟨t, ht⟩]; exact g3, g4, g5⟩
            subst e
            rw [hiL] at g1
            exact hS (by rw [Option.some.inj g1]; exact g2)
          · obtain ⟨hk1, hk2⟩ := hsub k hk
            rcases hP.wait k hk1 n' d' x' hkL hkp with ⟨j, hj, q, hq, hqd⟩ | h
            · refine .inl ⟨j, hsup j hj (fun e => ?_), q, hq, hqd⟩
              subst e
              obtain ⟨hl, hx, j', z, hj'L, hz⟩ := pendS_facts hkp
              have ej : j = j' := (lonely_of hl).dst j j' q _ hq hj'L hqd rfl
              subst ej
              rw [hiL] at hj'L
              refine hA ?_
              rw [Option.some.inj hj'L]
              exact pendA_mk (j := j) (k := k) (x := x') hl (by rw [hz]; exact hkL) hx
            · exact .inr h

theorem region_wp (hm : F.P.follows .mixedOrders = true) {id : Nat} {draw : Bool} (hd : okDst F.nt ops = true) (hok : (!draw || okDraw F.P ops) = true) (hI : Inv F S a w μ) {K : VS → Prop} (hQ : ∀ S' a' w' μ', K S' → Inv F S' a' w' μ' → Q .normal a' w')
    (h : ∃ S', VSteps F.P draw F.c0 (if draw then resDraw F.P ops else ops.toList.map (resVO F.P false ops)) S S' ∧ K S') : (Code.region id ops draw).wp F.P Q a w := by
  have hds : ∀ (i : Nat) (o : Oper) d, ops[i]? = some o → o.dst = some d → d < F.nt ∧ d < GH := by
    intro i o d ho hod
    unfold okDst at hd
    have := Array.all_eq_true_iff_forall_mem.1 hd o (Array.mem_of_getElem? ho)
    rw [hod] at this
    simpa using this
  cases draw with
  | false =>
    refine wp_region ?_
    have := steps_wp (ops := ops) hds hQ ops.toList 0 S a w μ (fun j => by simp) hI (by simpa using h)
    rw [List.range_eq_range']
    simpa using this
  | true =>
    refine wp_region_any hm ?_
    have hI' : Inv F S a { w with drawn := w.drawn + 1 } μ := hI.same rfl rfl rfl rfl
    have e0 : pcS (fun _ => none) S = S := by unfold pcS; rw [patch_none fun _ => rfl]
    refine any_sound (by simpa using hok) hds hQ ops.size _ (List.range ops.size) S a _ μ (fun _ => none) (by simp) (by simp) List.pairwise_lt_range (fun i => ?_) (fun j o hj => ?_) (invX_of (e0.symm ▸ hI') fun b ⟨d, h⟩ => (by cases h)) ⟨fun d d' b h => (by cases h), fun d b h => (by cases h), fun d b h => (by cases h), fun k hk n d x hkL hkp => ?_⟩ ?_
    · rw [List.mem_range]
      constructor
      · intro h; exact ⟨h, by simp [Array.getD, h]⟩
      · exact fun h => h.1
    · rw [Array.getD_eq_getD_getElem?, Array.getElem?_replicate] at hj
      split at hj <;> simp at hj
    · obtain ⟨_, _, j, z, hj, _⟩ := pendS_facts hkp
      obtain ⟨o', ho', _⟩ := resL0_of hj
      exact .inl ⟨j, List.mem_range.2 (Array.getElem?_eq_some_iff.1 ho').1, _, hj, rfl⟩
    · obtain ⟨S', h1, h2⟩ := h
      exact ⟨S', by simpa [resDraw_eq] using h1, h2⟩
end Go.VM
namespace Go.VM
open Go.RowKit

def ThawA (t n sz : Nat) (l : List V) (x y : V) : Prop := y = x.thaw t ∨ (x = .sl (.id t) sz l ∧ y = .buf t 0 n none sz)
def FrzA (t sz : Nat) (cells : List V) (x y : V) : Prop := y = x ∨ ∃ n cap, x = .buf t 0 n cap sz ∧ n * sz ≤ cells.length ∧ y = .sl (.id t) sz ((cells.take (n * sz)).map V.solid)
def BlkR (R : V → V → Prop) (a b : Option Blk) : Prop := match a, b with
  | none, none => True
  | some k, some k' => k.live = k'.live ∧ k.cells.length = k'.cells.length ∧ ∀ (j : Nat) (x y : V), k.cells[j]? = some x → k'.cells[j]? = some y → R x y
  | _, _ => False

variable {F : Ctx} {S S' : VS} {a : Act} {w : World} {μ : Nat → Nat}

theorem inv_freezeA (hI : Inv F S a w μ) {t sz : Nat} {cells : List V} {lv : Bool} {ρ' : Nat → V} {σ' : Nat → Option Blk} (ht : S.σ t = some ⟨cells, lv⟩) (h0 : F.c0 ≤ t)
    (hρ : ∀ j, FrzA t sz cells (S.ρ j) (ρ' j)) (hσt : σ' t = some ⟨cells, false⟩) (hσ : ∀ u, u ≠ t → BlkR (FrzA t sz cells) (S.σ u) (σ' u)) : Inv F ⟨ρ', σ', S.c⟩ a w μ := by
  have hm := hI.mem
  have hj : ∀ t' k', σ' t' = some k' → (t' ≠ t ∧ ∃ k, S.σ t' = some k ∧ k.live = k'.live ∧ k.cells.length = k'.cells.length ∧ ∀ (j : Nat) (x y : V), k.cells[j]? = some x → k'.cells[j]? = some y → FrzA t sz cells x y) ∨ (t' = t ∧ k' = ⟨cells, false⟩) := by
    intro t' k' hk
    by_cases e : t' = t
    · subst e; rw [hσt] at hk; cases hk; exact .inr ⟨rfl, rfl⟩
    · have h := hσ t' e
      rw [hk] at h
      unfold BlkR at h
      cases hs : S.σ t' with
      | none => rw [hs] at h; exact h.elim
      | some k => rw [hs] at h; exact .inl ⟨e, k, rfl, h⟩
  have hlive : ∀ b, Live σ' μ b → Live S.σ μ b := by
    rintro b ⟨t', k', hk, hl', e⟩
    rcases hj t' k' hk with ⟨_, k, g, g2, _⟩ | ⟨_, g⟩
    · exact ⟨t', k, g, by rw [g2]; exact hl', e⟩
    · subst g; cases hl'
  have hsub : ∀ b, F.M S.σ w μ b → F.M σ' w μ b := by
    rintro b (hb | ⟨h1, h2, h3⟩)
    · exact .inl hb
    · exact .inr ⟨h1, h2, fun g => h3 (hlive b g)⟩
  obtain ⟨arr, T, g1, g2, g3, g4⟩ := blk_cells hm ht
  have g5 : ∀ (i : Nat) (v : Value), arr[i]? = some v → v.oneCell' = true := by
    obtain ⟨arr2, T2, q1, _, q3, _⟩ := hm.blk t _ ht
    rw [g1] at q1; cases q1; exact q3
  have htc := (hm.lt ht).1
  have hMt : F.M σ' w μ (μ t) := by
    refine .inr ⟨(hm.tok t h0 htc).1, (hm.tok t h0 htc).2.1, ?_⟩
    rintro ⟨t', k', hk, hl', e⟩
    rcases hj t' k' hk with ⟨hne, k, g, _⟩ | ⟨_, g⟩
    · exact hne (hm.muinj ht g e.symm).symm
    · subst g; cases hl'
  have key : ∀ {x y : V} {u : Value}, FrzA t sz cells x y → RepE w (F.M S.σ w μ) μ S.c x u → RepE w (F.M σ' w μ) μ S.c y u := by
    intro x y u h hr
    rcases h with rfl | ⟨n, cap, rfl, hn, rfl⟩
    · exact hr.mono (Grows.refl _) (fun _ _ => rfl) hsub (fun _ _ => rfl) (Nat.le_refl _)
    · obtain ⟨cp, of', eu, hof, hcp, htc, hs0, _, arrb, Tb, hb1, hb2⟩ := hr
      rw [eu]
      have harr : arrb = arr := by rw [hb1] at g1; cases g1; rfl
      subst harr
      have g2 : cells.length ≤ arrb.size := g2
      refine RepE.of_one (.sl (.id t) sz n cp ⟨μ t, of', none⟩ _ (fun q => arrb.getD (of' + q) undef) ?_ ?_ hcp hs0 (fun _ => hMt) (fun q hq => ?_) (fun q hq => ?_) fun q x hx => ?_)
      · exact fun hr => ⟨⟨htc, rfl⟩, hof (Nat.pos_of_mul_pos_right hr), rfl⟩
      · rw [List.length_map, List.length_take]; omega
      · rw [add_mk]
        have : of' + q < arrb.size := by omega
        simp only [World.cell?, hb1]
        simp [Array.getD, this]
      · have : of' + q < arrb.size := by omega
        exact g5 (of' + q) _ (by simp [Array.getD, this])
      · rw [List.getElem?_map, List.getElem?_take] at hx
        split at hx
        · rename_i hq
          obtain ⟨y, hy, rfl⟩ := Option.map_eq_some_iff.1 hx
          have hn0 : 0 < n := by
            rcases Nat.eq_zero_or_pos n with h | h
            · subst h; simp at hq
            · exact h
          rw [hof (by omega), Nat.zero_add]
          exact (g4 q y hy).solid.mono (fun _ _ => rfl) hsub (fun _ _ _ => rfl) (Nat.le_refl _)
        · cases hx
  have hmem : Mem F σ' S.c w μ := by
    refine ⟨hm.good, hm.moved, hm.c0, hm.mu0, hm.tok, hm.inj, fun t' k' hk => ?_, fun t' ht' => ?_, fun t' k' hk => ?_⟩
    · rcases hj t' k' hk with ⟨_, k, g, gl, _⟩ | ⟨g, g'⟩
      · rw [← gl]; exact hm.dom t' k g
      · subst g; exact .inl ⟨h0, htc⟩
    · obtain ⟨k', hk⟩ := hm.lent t' ht'
      by_cases e : t' = t
      · subst e; exact ⟨_, hσt⟩
      · have h := hσ t' e
        rw [hk] at h
        unfold BlkR at h
        cases hs : σ' t' with
        | none => rw [hs] at h; exact h.elim
        | some k => exact ⟨k, rfl⟩
    · rcases hj t' k' hk with ⟨_, k, g, _, glen, gc⟩ | ⟨g, g'⟩
      · obtain ⟨arr', T', f1, f2, f3, f4⟩ := hm.blk t' k g
        refine ⟨arr', T', f1, by omega, f3, fun i x v hx hv => ?_⟩
        have hi : i < k.cells.length := by have := (List.getElem?_eq_some_iff.1 hx).1; omega
        obtain ⟨x0, hx0⟩ : ∃ x0, k.cells[i]? = some x0 := ⟨_, List.getElem?_eq_getElem hi⟩
        exact key (gc i x0 x hx0 hx) (f4 i x0 v hx0 hv)
      · subst g; subst g'
        exact ⟨arr, T, g1, g2, g5, fun i x v hx hv => (by
          obtain ⟨arr2, T2, q1, q2, q3, q4⟩ := hm.blk t' _ ht
          rw [g1] at q1; cases q1
          exact (q4 i x v hx hv).mono (Grows.refl _) (fun _ _ => rfl) hsub (fun _ _ => rfl) (Nat.le_refl _))⟩
  exact ⟨hI.size, hI.defers, hmem, fun j => key (hρ j) (hI.env j)⟩

theorem inv_thawA (hI : Inv F S a w μ) {i t n sz : Nat} {l : List V} {ρ' : Nat → V} {σ' : Nat → Option Blk} (hi : S.ρ i = .sl (.id t) sz l) (h0 : F.c0 ≤ t) (hn : l.length = n * sz) (hl : l ≠ []) (hs : ∀ x ∈ l, x.still t 4 = true)
    (hρ : ∀ j, ThawA t n sz l (S.ρ j) (ρ' j)) (hσt : σ' t = some ⟨l, true⟩) (hσ : ∀ u, u ≠ t → BlkR (ThawA t n sz l) (S.σ u) (σ' u)) : Inv F ⟨ρ', σ', S.c⟩ a w μ := by
  have hm := hI.mem
  have hr := hI.env i
  rw [hi] at hr
  have hr := hr.one rfl
  generalize hu : F.val a i = u at hr
  cases hr with
  | nil => exact absurd rfl hl
  | sl _ _ n' cap ad _ vs ht hn' hc hsz hMb hcap h1 hcl =>
    have hln : 0 < l.length := List.length_pos_iff.2 hl
    have hnn : n' = n := by
      have : n' * sz = n * sz := by omega
      exact Nat.eq_of_mul_eq_mul_right hsz this
    subst hnn
    have hcs := Nat.mul_le_mul_right sz hc
    have hroom : 0 < cap * sz := by omega
    obtain ⟨⟨htc, hta⟩, hoff, hspot⟩ := ht hroom
    have hMt : F.M S.σ w μ (μ t) := by rw [hta]; exact hMb hroom
    obtain ⟨q1, q2, arr, T, q3, q4⟩ := hm.tok t h0 htc
    have had : ad = ⟨μ t, 0, none⟩ := by cases ad; simp only at hta hoff hspot; subst hta hoff hspot; rfl
    subst had
    have hinj : ∀ u, u < S.c → u ≠ t → μ u ≠ μ t := hm.apart h0 htc
    have hj : ∀ t' k', σ' t' = some k' → (t' ≠ t ∧ ∃ k, S.σ t' = some k ∧ k.live = k'.live ∧ k.cells.length = k'.cells.length ∧ ∀ (j : Nat) (x y : V), k.cells[j]? = some x → k'.cells[j]? = some y → ThawA t n' sz l x y) ∨ (t' = t ∧ k' = ⟨l, true⟩) := by
      intro t' k' hk
      by_cases e : t' = t
      · subst e; rw [hσt] at hk; cases hk; exact .inr ⟨rfl, rfl⟩
      · have h := hσ t' e
        rw [hk] at h
        unfold BlkR at h
        cases hs : S.σ t' with
        | none => rw [hs] at h; exact h.elim
        | some k => rw [hs] at h; exact .inl ⟨e, k, rfl, h⟩
    have hlive : ∀ b, Live σ' μ b → b ≠ μ t → Live S.σ μ b := by
      rintro b ⟨t', k', hk, hlv, e⟩ hb
      rcases hj t' k' hk with ⟨_, k, g, g2, _⟩ | ⟨g, _⟩
      · exact ⟨t', k, g, by rw [g2]; exact hlv, e⟩
      · subst g; exact absurd e.symm hb
    have hsub : ∀ b, F.M S.σ w μ b → b ≠ μ t → F.M σ' w μ b := by
      rintro b (hb | ⟨g1, g2, g3⟩) hne
      · exact .inl hb
      · exact .inr ⟨g1, g2, fun g => g3 (hlive b g hne)⟩
    have hcell : ∀ j, j < cap * sz → arr[j]? = some (vs j) := by
      intro j hj
      have := hcap j hj
      rw [add_mk] at this
      simp only [World.cell?, q3] at this
      simpa using this
    have hlen : l.length ≤ arr.size := by
      have hj := hcell (l.length - 1) (by omega)
      have := (Array.getElem?_eq_some_iff.1 hj).1
      omega
    have key : ∀ {x y : V} {v : Value}, ThawA t n' sz l x y → RepE w (F.M S.σ w μ) μ S.c x v → RepE w (F.M σ' w μ) μ S.c y v := by
      intro x y v h hr
      rcases h with rfl | ⟨rfl, rfl⟩
      · exact thaw_repE hsub hinj hr
      · have hr := hr.one rfl
        cases hr with
        | nil => exact absurd rfl hl
        | sl _ _ n2 cap2 ad2 _ vs2 ht2 hn2 hc2 hsz2 hMb2 hcap2 h12 hcl2 =>
          have hnn2 : n2 = n' := by
            have : n2 * sz = n' * sz := by omega
            exact Nat.eq_of_mul_eq_mul_right hsz this
          subst hnn2
          have hcs2 := Nat.mul_le_mul_right sz hc2
          have hroom2 : 0 < cap2 * sz := by omega
          obtain ⟨⟨htc2, hta2⟩, hoff2, hspot2⟩ := ht2 hroom2
          have had2 : ad2 = ⟨μ t, 0, none⟩ := by cases ad2; simp only at hta2 hoff2 hspot2; subst hta2 hoff2 hspot2; rfl
          subst had2
          refine ⟨cap2, 0, rfl, fun _ => rfl, hc2, htc, hsz, trivial, arr, T, q3, ?_⟩
          have := hcap2 (cap2 * sz - 1) (by omega)
          rw [add_mk] at this
          simp only [World.cell?, q3] at this
          have h3 : arr[0 + (cap2 * sz - 1)]? = some (vs2 (cap2 * sz - 1)) := by simpa using this
          have := (Array.getElem?_eq_some_iff.1 h3).1
          omega
    have hmem : Mem F σ' S.c w μ := by
      refine ⟨hm.good, hm.moved, hm.c0, hm.mu0, hm.tok, hm.inj, fun t' k' hk => ?_, fun t' ht' => ?_, fun t' k' hk => ?_⟩
      · rcases hj t' k' hk with ⟨_, k, g, gl, _⟩ | ⟨g, _⟩
        · rw [← gl]; exact hm.dom t' k g
        · subst g; exact .inl ⟨h0, htc⟩
      · obtain ⟨k, hk⟩ := hm.lent t' ht'
        by_cases e : t' = t
        · subst e; exact ⟨_, hσt⟩
        · have h := hσ t' e
          rw [hk] at h
          unfold BlkR at h
          cases hs : σ' t' with
          | none => rw [hs] at h; exact h.elim
          | some k => exact ⟨k, rfl⟩
      · rcases hj t' k' hk with ⟨_, k, g, _, glen, gc⟩ | ⟨g, g'⟩
        · obtain ⟨arr', T', f1, f2, f3, f4⟩ := hm.blk t' k g
          refine ⟨arr', T', f1, by omega, f3, fun i x v hx hv => ?_⟩
          have hi : i < k.cells.length := by have := (List.getElem?_eq_some_iff.1 hx).1; omega
          obtain ⟨x0, hx0⟩ : ∃ x0, k.cells[i]? = some x0 := ⟨_, List.getElem?_eq_getElem hi⟩
          exact key (gc i x0 x hx0 hx) (f4 i x0 v hx0 hv)
        · subst g; subst g'
          refine ⟨arr, T, q3, hlen, q4, fun j x v hx hv => ?_⟩
          have hj : j < l.length := (List.getElem?_eq_some_iff.1 hx).1
          have := hcell j (by omega)
          rw [this] at hv
          cases hv
          exact RepE.of_one (still_rep hsub hinj 4 x _ (hs x (List.mem_of_getElem? hx)) (hcl j x hx))
    exact ⟨hI.size, hI.defers, hmem, fun j => key (hρ j) (hI.env j)⟩
end Go.VM
namespace Go.VM
open Go.RowKit

inductive VEx where
  | normal
  | exit (id : Nat)
  | ret

inductive VExec (P : Program) (c0 : Nat) : VC → VS → VEx → VS → Prop
  | skip (S : VS) : VExec P c0 .skip S .normal S
  | region {d : Bool} {ops : List VO} {S S' : VS} (h : VSteps P d c0 ops S S') : VExec P c0 (.region d ops) S .normal S'
  | seq {x y : VC} {S S1 S' : VS} {e : VEx} (h : VExec P c0 x S .normal S1) (k : VExec P c0 y S1 e S') : VExec P c0 (.seq x y) S e S'
  | seqOut {x y : VC} {S S' : VS} {e : VEx} (h : VExec P c0 x S e S') (he : e ≠ .normal) : VExec P c0 (.seq x y) S e S'
  | cond {x : X} {t : Bool} {p q : VC} {S S' : VS} {e : VEx} (hx : x.ev S.ρ = .lit (.bool t)) (h : VExec P c0 (if t then p else q) S e S') : VExec P c0 (.cond x p q) S e S'
  | block {id : Nat} {b : VC} {S S' : VS} {e : VEx} (h : VExec P c0 b S e S') (he : e ≠ .exit id) : VExec P c0 (.block id b) S e S'
  | blockExit {id : Nat} {b : VC} {S S' : VS} (h : VExec P c0 b S (.exit id) S') : VExec P c0 (.block id b) S .normal S'
  | loopOut {b : VC} {S S' : VS} {e : VEx} (h : VExec P c0 b S e S') (he : e ≠ .normal) : VExec P c0 (.loop b) S e S'
  | loop {b : VC} {S S1 S' : VS} {e : VEx} (h : VExec P c0 b S .normal S1) (k : VExec P c0 (.loop b) S1 e S') : VExec P c0 (.loop b) S e S'
  | exit (id : Nat) (S : VS) : VExec P c0 (.exit id) S (.exit id) S
  | ret (S : VS) : VExec P c0 .ret S .ret S
  | freeze {vc : VC} {S S' : VS} {e : VEx} {i t off n sz : Nat} {cap : Option Nat} {cells : List V} {lv : Bool} (hi : S.ρ i = .buf t off n cap sz) (ht : S.σ t = some ⟨cells, lv⟩) (h0 : c0 ≤ t) (hb : off + n * sz ≤ cells.length)
      (h : VExec P c0 vc (frozen S i t off sz cells (((cells.drop off).take (n * sz)).map V.solid)) e S') : VExec P c0 vc S e S'
  | thaw {vc : VC} {S S' : VS} {e : VEx} {i t n sz : Nat} {l : List V} (hi : S.ρ i = .sl (.id t) sz l) (h0 : c0 ≤ t) (hn : l.length = n * sz) (hl : l ≠ []) (hs : ∀ x ∈ l, x.still t 4 = true)
      (h : VExec P c0 vc (thawed S i t n sz l) e S') : VExec P c0 vc S e S'
  | thawA {vc : VC} {S S' : VS} {e : VEx} {i t n sz : Nat} {l : List V} {ρ' : Nat → V} {σ' : Nat → Option Blk} (hi : S.ρ i = .sl (.id t) sz l) (h0 : c0 ≤ t) (hn : l.length = n * sz) (hl : l ≠ []) (hs : ∀ x ∈ l, x.still t 4 = true)
      (hρ : ∀ j, ThawA t n sz l (S.ρ j) (ρ' j)) (hσt : σ' t = some ⟨l, true⟩) (hσ : ∀ u, u ≠ t → BlkR (ThawA t n sz l) (S.σ u) (σ' u)) (h : VExec P c0 vc ⟨ρ', σ', S.c⟩ e S') : VExec P c0 vc S e S'
  | frzA {vc : VC} {S S' : VS} {e : VEx} {t sz : Nat} {cells : List V} {lv : Bool} {ρ' : Nat → V} {σ' : Nat → Option Blk} (ht : S.σ t = some ⟨cells, lv⟩) (h0 : c0 ≤ t)
      (hρ : ∀ j, FrzA t sz cells (S.ρ j) (ρ' j)) (hσt : σ' t = some ⟨cells, false⟩) (hσ : ∀ u, u ≠ t → BlkR (FrzA t sz cells) (S.σ u) (σ' u)) (h : VExec P c0 vc ⟨ρ', σ', S.c⟩ e S') : VExec P c0 vc S e S'

variable {F : Ctx} {S S' : VS} {a : Act} {w : World} {μ : Nat → Nat}

def VEx.to : VEx → Exit | .normal => .normal | .exit id => .exit id | .ret => .ret

def Post (F : Ctx) (e : VEx) (S' : VS) (e1 : Exit) (a : Act) (w : World) : Prop := e1 = e.to ∧ ∃ μ, Inv F S' a w μ

def LoopWp (P : Program) (c : Code) (Q : Exit → Act → World → Prop) (a : Act) (w : World) : Prop :=
  ∀ (b : Frame) (k : List Item) (cs : List Frame), ∃ e a' w', Q e a' w' ∧ Arrives P (lone (b.at a (.code c :: .inLoop c :: k)) cs w) b k cs e a' w'

theorem loopWp_wp {P : Program} {c : Code} {Q : Exit → Act → World → Prop} {a : Act} {w : World} (h : LoopWp P c Q a w) : (Code.loop c).wp P Q a w := by
  intro b k cs
  obtain ⟨e, a', w', hq, harr⟩ := h b k cs
  exact ⟨e, a', w', hq, .of_steps (.one step_loop) harr⟩

theorem loopWp_next {P : Program} {c : Code} {Q : Exit → Act → World → Prop} {a : Act} {w : World} (h : c.wp P (fun e a' w' => match e with | .normal => LoopWp P c Q a' w' | e => Q e a' w') a w) : LoopWp P c Q a w := by
  intro b k cs
  obtain ⟨e, a₁, w₁, hq, harr⟩ := h b (.inLoop c :: k) cs
  cases e with
  | normal =>
    obtain ⟨e₂, a₂, w₂, hq₂, harr₂⟩ := hq b k cs
    exact ⟨e₂, a₂, w₂, hq₂, .of_steps (Steps.trans harr (.one step_inLoop)) harr₂⟩
  | exit id => exact ⟨_, a₁, w₁, hq, .pass (x := .inLoop c) rfl (fun _ _ => .inl (by simp)) harr⟩
  | goto l => exact ⟨_, a₁, w₁, hq, .pass (x := .inLoop c) rfl (fun _ _ => .inl (by simp)) harr⟩
  | ret => exact ⟨_, a₁, w₁, hq, .pass (x := .inLoop c) rfl (fun _ _ => .inl (by simp)) harr⟩
  | panic ch => exact ⟨_, a₁, w₁, hq, .pass (x := .inLoop c) rfl (fun _ _ => .inl (by simp)) harr⟩
  | outgrown => exact ⟨_, a₁, w₁, hq, .pass (x := .inLoop c) rfl (fun _ _ => .inl (by simp)) harr⟩

def Sound (F : Ctx) (vc : VC) (S : VS) (e : VEx) (S' : VS) : Prop :=
  ∀ (code : Code), resCode F.P F.nt code = vc → ∀ (a : Act) (w : World) (μ : Nat → Nat), Inv F S a w μ → code.wp F.P (Post F e S') a w ∧ ∀ c, code = .loop c → LoopWp F.P c (Post F e S') a w

theorem exec_sound (hm : F.P.follows .mixedOrders = true) {vc : VC} {e : VEx} (h : VExec F.P F.c0 vc S e S') : Sound F vc S e S' := by
  induction h with
  | skip S =>
    intro code hc a w μ hI
    cases code <;> simp only [resCode] at hc <;> first | (revert hc; (repeat' split) <;> (intro hc; cases hc); done) | skip
    exact ⟨wp_skip ⟨rfl, μ, hI⟩, fun c h => by cases h⟩
  | region h =>
    intro code hc a w μ hI
    cases code <;> simp only [resCode] at hc <;> first | (revert hc; (repeat' split) <;> (intro hc; cases hc); done) | skip
    rename_i id ops draw
    split at hc
    · rename_i hok
      cases hc
      simp only [Bool.and_eq_true] at hok
      exact ⟨region_wp hm hok.1 hok.2 hI (K := fun S1 => S1 = _) (fun S1 a' w' μ' hk hI' => by subst hk; exact ⟨rfl, μ', hI'⟩) ⟨_, h, rfl⟩, fun c h => by cases h⟩
    · cases hc
  | seq h k ih1 ih2 =>
    intro code hc a w μ hI
    cases code <;> simp only [resCode] at hc <;> first | (revert hc; (repeat' split) <;> (intro hc; cases hc); done) | skip
    rename_i p q
    cases hc
    refine ⟨wp_seq (wp_mono (ih1 p rfl a w μ hI).1 ?_), fun c h => by cases h⟩
    rintro e a' w' ⟨rfl, μ', hI'⟩
    exact (ih2 q rfl a' w' μ' hI').1
  | seqOut h he ih =>
    intro code hc a w μ hI
    cases code <;> simp only [resCode] at hc <;> first | (revert hc; (repeat' split) <;> (intro hc; cases hc); done) | skip
    rename_i p q
    cases hc
    refine ⟨wp_seq (wp_mono (ih p rfl a w μ hI).1 ?_), fun c h => by cases h⟩
    rintro e a' w' ⟨rfl, μ', hI'⟩
    rename_i e0
    cases e0 with
    | normal => exact absurd rfl he
    | exit id => exact ⟨rfl, μ', hI'⟩
    | ret => exact ⟨rfl, μ', hI'⟩
  | cond hx h ih =>
    intro code hc a w μ hI
    cases code <;> simp only [resCode] at hc <;> first | (revert hc; (repeat' split) <;> (intro hc; cases hc); done) | skip
    rename_i o p q
    split at hc
    · rename_i x' hx'
      cases hc
      have hr := resX_rep hI.envT hx'
      rw [hx] at hr
      have hb := repE_lit hr
      refine ⟨wp_cond hb ?_, fun c h => by cases h⟩
      refine (ih _ ?_ a w μ hI).1
      split <;> rfl
    · cases hc
  | block h he ih =>
    intro code hc a w μ hI
    cases code <;> simp only [resCode] at hc <;> first | (revert hc; (repeat' split) <;> (intro hc; cases hc); done) | skip
    rename_i id b
    cases hc
    refine ⟨wp_block (wp_mono (ih b rfl a w μ hI).1 ?_), fun c h => by cases h⟩
    rintro e a' w' ⟨rfl, μ', hI'⟩
    rename_i e0
    cases e0 with
    | normal => exact ⟨rfl, μ', hI'⟩
    | exit id' =>
      simp only [VEx.to, Exit.inBlock]
      rw [if_neg (fun e => he (by rw [e]))]
      exact ⟨rfl, μ', hI'⟩
    | ret => exact ⟨rfl, μ', hI'⟩
  | blockExit h ih =>
    intro code hc a w μ hI
    cases code <;> simp only [resCode] at hc <;> first | (revert hc; (repeat' split) <;> (intro hc; cases hc); done) | skip
    rename_i id b
    cases hc
    refine ⟨wp_block (wp_mono (ih b rfl a w μ hI).1 ?_), fun c h => by cases h⟩
    rintro e a' w' ⟨rfl, μ', hI'⟩
    simp only [VEx.to, Exit.inBlock, if_true]
    exact ⟨rfl, μ', hI'⟩
  | @loopOut b0 S0 S1 e0 h he ih =>
    intro code hc a w μ hI
    cases code <;> simp only [resCode] at hc <;> first | (revert hc; (repeat' split) <;> (intro hc; cases hc); done) | skip
    rename_i b
    cases hc
    have key : LoopWp F.P b (Post F e0 S1) a w := by
      refine loopWp_next (wp_mono (ih b rfl a w μ hI).1 ?_)
      rintro e a' w' ⟨rfl, μ', hI'⟩
      cases e0 with
      | normal => exact absurd rfl he
      | exit id => exact ⟨rfl, μ', hI'⟩
      | ret => exact ⟨rfl, μ', hI'⟩
    exact ⟨loopWp_wp key, fun c h => by cases h; exact key⟩
  | @loop b0 S0 Sm S1 e0 h k ih1 ih2 =>
    intro code hc a w μ hI
    cases code <;> simp only [resCode] at hc <;> first | (revert hc; (repeat' split) <;> (intro hc; cases hc); done) | skip
    rename_i b
    cases hc
    have key : LoopWp F.P b (Post F e0 S1) a w := by
      refine loopWp_next (wp_mono (ih1 b rfl a w μ hI).1 ?_)
      rintro e a' w' ⟨rfl, μ', hI'⟩
      exact (ih2 (.loop b) rfl a' w' μ' hI').2 b rfl
    exact ⟨loopWp_wp key, fun c h => by cases h; exact key⟩
  | exit id S =>
    intro code hc a w μ hI
    cases code <;> simp only [resCode] at hc <;> first | (revert hc; (repeat' split) <;> (intro hc; cases hc); done) | skip
    cases hc
    exact ⟨wp_exit ⟨rfl, μ, hI⟩, fun c h => by cases h⟩
  | ret S =>
    intro code hc a w μ hI
    cases code <;> simp only [resCode] at hc <;> first | (revert hc; (repeat' split) <;> (intro hc; cases hc); done) | skip
    exact ⟨wp_ret ⟨rfl, μ, hI⟩, fun c h => by cases h⟩
  | freeze hi ht h0 hb h ih =>
    intro code hc a w μ hI
    exact ih code hc a w μ (inv_freeze hI hi ht h0 hb)
  | thaw hi h0 hn hl hs h ih =>
    intro code hc a w μ hI
    exact ih code hc a w μ (inv_thaw hI hi h0 hn hl hs)
  | thawA hi h0 hn hl hs hρ hσt hσ h ih =>
    intro code hc a w μ hI
    exact ih code hc a w μ (inv_thawA hI hi h0 hn hl hs hρ hσt hσ)
  | frzA ht h0 hρ hσt hσ h ih =>
    intro code hc a w μ hI
    exact ih code hc a w μ (inv_freezeA hI ht h0 hρ hσt hσ)

def vres (S : VS) : VRes → Option V
  | .tmp t => if (S.ρ t).one then some (S.ρ t) else none
  | .cell t ag => match vload S.σ ag (S.ρ t) with | some v => if v.one then some v else none | none => none
def vresL (S : VS) : List VRes → Option (List V)
  | [] => some []
  | r :: l => match vres S r, vresL S l with | some v, some vs => some (v :: vs) | _, _ => none
def vresult (S : VS) (l : List VRes) : Option V := match vresL S l with | some [v] => some v | some vs => some (.tup vs) | none => none

theorem mem_drop {σ σ2 : Nat → Option Blk} {c : Nat} (h : Mem F σ c w μ) (h2 : ∀ t k, σ2 t = some k → σ t = some k) (h3 : ∀ t, F.σ0 t ≠ none → σ2 t = σ t) : Mem F σ2 c w μ ∧ ∀ b, F.M σ w μ b → F.M σ2 w μ b := by
  have hsub : ∀ b, F.M σ w μ b → F.M σ2 w μ b := by
    rintro b (hb | ⟨g1, g2, g3⟩)
    · exact .inl hb
    · exact .inr ⟨g1, g2, fun ⟨t, k, hk, hl, e⟩ => g3 ⟨t, k, h2 t k hk, hl, e⟩⟩
  refine ⟨⟨h.good, h.moved, h.c0, h.mu0, h.tok, h.inj, fun t k hk => h.dom t k (h2 t k hk), fun t ht => by rw [h3 t ht]; exact h.lent t ht, fun t k hk => ?_⟩, hsub⟩
  obtain ⟨arr, T, g1, g2, g3, g4⟩ := h.blk t k (h2 t k hk)
  exact ⟨arr, T, g1, g2, g3, fun i x v hx hv => (g4 i x v hx hv).mono (Grows.refl _) (fun _ _ => rfl) hsub (fun _ _ => rfl) (Nat.le_refl _)⟩

def resF (tmps : Array Value) : ResultVar → Sem Value
  | .tmp t => pure (tmps.getD t undef)
  | .cell a t => do loadVar t (← asAddr (tmps.getD a undef))
theorem results_eq (fn : Func) (tmps : Array Value) : results fn tmps = (fn.results.mapM (resF tmps) >>= fun vs => pure (if h : vs.size = 1 then vs[0] else .tuple vs)) := by
  have : resF tmps = fun r => (match r with | .tmp t => pure (tmps.getD t undef) | .cell a t => do loadVar t (← asAddr (tmps.getD a undef)) : Sem Value) := by
    funext r; cases r <;> rfl
  unfold results
  rw [this]
  rfl

theorem run_res (hI : Inv F S a w μ) {r : ResultVar} {x : VRes} (hr : resResult F.P r = some x) {v : V} (hv : vres S x = some v) :
    ∃ u, (resF a.tmps r).run F.P w = .ok u w ∧ Rep w (F.M S.σ w μ) μ S.c v u := by
  cases r with
  | tmp t =>
    simp [resResult] at hr; obtain ⟨hlt, hr⟩ := hr; subst hr
    simp only [vres] at hv
    split at hv
    · rename_i h1; cases hv
      exact ⟨_, by simp [resF, pure, Sem.run], (hI.envT t hlt).one h1⟩
    · cases hv
  | cell ad t =>
    simp only [resResult] at hr
    cases hag : aggOf F.P t with
    | none => simp [hag] at hr
    | some ag =>
      simp [hag] at hr; obtain ⟨hlt, hr⟩ := hr; subst hr
      simp only [vres] at hv
      split at hv
      · rename_i v' hl
        split at hv
        · rename_i h1
          cases hv
          obtain ⟨u, ad', e, hu, hur⟩ := vload_run hI hl (hI.envT ad hlt) hag
          exact ⟨u, by simp only [resF]; rw [e]; simp [asAddr, hu], hur.one h1⟩
        · cases hv
      · cases hv

theorem run_resL (hI : Inv F S a w μ) : ∀ (rs : List ResultVar) (xs : List VRes), resResults F.P rs = some xs → ∀ vs, vresL S xs = some vs →
    ∃ us, (rs.mapM (resF a.tmps)).run F.P w = .ok us w ∧ us.length = vs.length ∧ ∀ (j : Nat) (x : V) (u : Value), vs[j]? = some x → us[j]? = some u → Rep w (F.M S.σ w μ) μ S.c x u
  | [], xs, hr, vs, hv => by
    simp [resResults] at hr; subst hr
    simp [vresL] at hv; subst hv
    exact ⟨[], by simp [pure, Sem.run], rfl, fun j x u hx => by simp at hx⟩
  | r :: rs, xs, hr, vs, hv => by
    simp only [resResults] at hr
    split at hr
    · rename_i x l hx hl
      cases hr
      simp only [vresL] at hv
      split at hv
      · rename_i v vs' hv1 hv2
        cases hv
        obtain ⟨u, hu, hur⟩ := run_res hI hx hv1
        obtain ⟨us, hus, hlen, hrep⟩ := run_resL hI rs l hl vs' hv2
        refine ⟨u :: us, ?_, by simp [hlen], fun j y w' hy hw => ?_⟩
        · rw [List.mapM_cons, Sem.run_bind, hu]
          simp only [Result.andThen]
          rw [Sem.run_bind, hus]
          simp [pure, Sem.run]
        · cases j with
          | zero => simp at hy hw; subst hy hw; exact hur
          | succ j => simp at hy hw; exact hrep j y w' hy hw
      · cases hv
    · cases hr

def start (xs : List V) : Nat → V := fun i => xs.getD i .any

theorem vcallsG_of_exec {P : Program} (hm : P.follows .mixedOrders = true) {f : FuncId} {fn : Func} {code : Code} {vc : VC} {rs : List VRes} (hf : P.funcs[f]? = some fn) (hb : fn.body = some code) (hvc : resCode P fn.ntmps code = vc) (hrs : resResults P fn.results.toList = some rs)
    {c cg : Nat} {σ σg : Nat → Option Blk} {xs : List V} (hn : xs.length ≤ fn.ntmps) {e : VEx} {S' : VS} (h : VExec P c vc ⟨start xs, σg, cg⟩ e S') (he : e = .ret ∨ e = .normal) {r : V} (hr : vresult S' rs = some r)
    {σ' : Nat → Option Blk} (h2 : ∀ t k, σ' t = some k → S'.σ t = some k) (h3 : ∀ t, σ t ≠ none → σ' t = S'.σ t) : VCallsG P f c cg σ σg xs r σ' S'.c := by
  intro w Φ μ μg giv vs hmem hlen hargs
  have hlen0 : vs.size ≤ fn.ntmps := by omega
  let F : Ctx := ⟨P, fn.ntmps, w, Φ, c, μ, σ, giv, fun i => vs.getD (i + GH) undef⟩
  have hmemF : Mem F σg cg w μg := ⟨⟨hmem.good.apart, hmem.good.lt, hmem.good.inj, hmem.good.low, hmem.good.givΦ, hmem.good.givσ, hmem.good.givlt, hmem.good.glob⟩, ⟨hmem.moved.os, hmem.moved.tape, hmem.moved.output, hmem.moved.size, hmem.moved.grows, hmem.moved.block⟩, hmem.c0, hmem.mu0, hmem.tok, hmem.inj, hmem.dom, hmem.lent, hmem.blk⟩
  have hI : Inv F ⟨start xs, σg, cg⟩ { tmps := vs ++ Array.replicate (fn.ntmps - vs.size) undef, defers := [] } w μg := by
    refine ⟨by simp [F]; omega, rfl, hmemF, fun i => ?_⟩
    show RepE w _ μg cg (xs.getD i .any) _
    by_cases hi : i < xs.length
    · have e1 : xs.getD i .any = xs[i] := by simp [List.getD, hi]
      have e2 : (vs ++ Array.replicate (fn.ntmps - vs.size) undef).getD i undef = vs[i]'(by omega) := by
        have : i < vs.size := by omega
        rw [Array.getD_eq_getD_getElem?, Array.getElem?_append, if_pos this]; simp [this]
      have e3 : F.val { tmps := vs ++ Array.replicate (fn.ntmps - vs.size) undef, defers := [] } i = vs[i]'(by omega) := by
        unfold Ctx.val
        split
        · exact e2
        · rename_i hge
          show vs.getD (i - GH + GH) undef = _
          have : i < vs.size := by omega
          rw [Nat.sub_add_cancel (Nat.le_of_not_lt hge), Array.getD_eq_getD_getElem?]; simp [this]
      rw [e1, e3]
      exact hargs i _ _ (by simp [hi]) (by have : i < vs.size := by omega
                                           simp [this])
    · have e1 : xs.getD i .any = .any := by simp [List.getD, List.getElem?_eq_none (Nat.le_of_not_lt hi)]
      rw [e1]
      exact .any _
  have hs := (exec_sound (F := F) hm h code hvc _ w μg hI).1
  refine calls_of_wp hf hb (wp_mono hs ?_)
  rintro e1 a' w' ⟨he1, μ', hI'⟩
  have fin : ∃ v, (results fn a'.tmps).run P w' = .ok v w' ∧ ∃ v0 μ', Ending.returned v = .returned v0 ∧ Mem ⟨P, 0, w, Φ, c, μ, σ, giv, noGv⟩ σ' S'.c w' μ' ∧ RepE w' (Ctx.M ⟨P, 0, w, Φ, c, μ, σ, giv, noGv⟩ σ' w' μ') μ' S'.c r v0 := by
    unfold vresult at hr
    cases hl : vresL S' rs with
    | none => rw [hl] at hr; cases hr
    | some ws =>
      obtain ⟨us, hus, hlen, hrep⟩ := run_resL hI' fn.results.toList rs hrs ws hl
      obtain ⟨hd1, hd2⟩ := mem_drop hI'.mem h2 h3
      have hmem' : Mem ⟨P, 0, w, Φ, c, μ, σ, giv, noGv⟩ σ' S'.c w' μ' := ⟨⟨hd1.good.apart, hd1.good.lt, hd1.good.inj, hd1.good.low, hd1.good.givΦ, hd1.good.givσ, hd1.good.givlt, hd1.good.glob⟩, ⟨hd1.moved.os, hd1.moved.tape, hd1.moved.output, hd1.moved.size, hd1.moved.grows, hd1.moved.block⟩, hd1.c0, hd1.mu0, hd1.tok, hd1.inj, hd1.dom, hd1.lent, hd1.blk⟩
      have hmap : (fn.results.mapM (resF a'.tmps)).run P w' = .ok us.toArray w' := by
        rw [Array.mapM_eq_mapM_toList]
        have hus' : (fn.results.toList.mapM (resF a'.tmps)).run P w' = .ok us w' := hus
        rw [Sem.run_map, hus']
        rfl
      have hrepM : ∀ (j : Nat) (x : V) (u : Value), ws[j]? = some x → us[j]? = some u → Rep w' (Ctx.M ⟨P, 0, w, Φ, c, μ, σ, giv, noGv⟩ σ' w' μ') μ' S'.c x u := fun j x u hx hu => (hrep j x u hx hu).mono (fun _ _ => rfl) hd2 (fun _ _ _ => rfl) (Nat.le_refl _)
      rw [hl] at hr
      by_cases h1 : ∃ v, ws = [v]
      · obtain ⟨v, rfl⟩ := h1
        simp at hr; subst hr
        obtain ⟨u, rfl⟩ : ∃ u, us = [u] := by
          cases us with
          | nil => simp at hlen
          | cons u us => cases us with
            | nil => exact ⟨u, rfl⟩
            | cons _ _ => simp at hlen
        refine ⟨u, ?_, u, μ', rfl, hmem', RepE.of_one (hrepM 0 v u rfl rfl)⟩
        rw [results_eq, Sem.run_bind, hmap]
        simp [Result.andThen, pure, Sem.run]
      · have hr' : r = .tup ws := by
          split at hr
          · rename_i v hv; cases hv; exact absurd ⟨_, rfl⟩ h1
          · rename_i vs' hne hv; cases hv; cases hr; rfl
          · rename_i hv; cases hv
        subst hr'
        have hus1 : us.length ≠ 1 := by
          intro h
          rw [hlen] at h
          cases ws with
          | nil => simp at h
          | cons v ws => cases ws with
            | nil => exact h1 ⟨v, rfl⟩
            | cons _ _ => simp at h
        refine ⟨.tuple us.toArray, ?_, .tuple us.toArray, μ', rfl, hmem', RepE.of_one (.tup ws us.toArray (by simp [hlen]) fun j x u hx hu => hrepM j x u hx (by simpa using hu))⟩
        rw [results_eq, Sem.run_bind, hmap]
        simp [Result.andThen, pure, Sem.run, hus1]
  subst he1
  obtain ⟨v, hv1, hv2⟩ := fin
  rcases he with rfl | rfl
  · exact ⟨hI'.defers, v, hv1, hv2⟩
  · exact ⟨hI'.defers, v, hv1, hv2⟩

theorem vcalls_of_exec {P : Program} (hm : P.follows .mixedOrders = true) {f : FuncId} {fn : Func} {code : Code} {vc : VC} {rs : List VRes} (hf : P.funcs[f]? = some fn) (hb : fn.body = some code) (hvc : resCode P fn.ntmps code = vc) (hrs : resResults P fn.results.toList = some rs)
    {c : Nat} {σ : Nat → Option Blk} {xs : List V} (hn : xs.length ≤ fn.ntmps) {e : VEx} {S' : VS} (h : VExec P c vc ⟨start xs, σ, c⟩ e S') (he : e = .ret ∨ e = .normal) {r : V} (hr : vresult S' rs = some r)
    {σ' : Nat → Option Blk} (h2 : ∀ t k, σ' t = some k → S'.σ t = some k) (h3 : ∀ t, σ t ≠ none → σ' t = S'.σ t) : VCalls P f c σ xs r σ' S'.c :=
  fun w Φ μ vs hmem hlen hargs => vcallsG_of_exec hm hf hb hvc hrs hn h he hr h2 h3 w Φ μ μ noGiv vs hmem hlen hargs

end Go.VM
namespace Go.VM

def VWP (P : Program) (c0 : Nat) (vc : VC) (Q : VEx → VS → Prop) (S : VS) : Prop := ∃ e S', VExec P c0 vc S e S' ∧ Q e S'
def VRun (P : Program) (dr : Bool) (c0 : Nat) (l : List VO) (S : VS) (K : VS → Prop) : Prop := ∃ S', VSteps P dr c0 l S S' ∧ K S'

def wpr (P : Program) (dr : Bool) (c0 : Nat) (l : List VO) (S : VS) (K : VS → Prop) : Prop := VRun P dr c0 l S K
def guardK (P : Program) (dr : Bool) (c0 : Nat) (g : V) (b : Bool) (d : Option Nat) (op : VOp) (S : VS) (r : List VO) (K : VS → Prop) : Prop :=
  (g = .tup [] ∧ wpr P dr c0 r ⟨updo S.ρ d (.tup []), S.σ, S.c⟩ K) ∨ ∃ b', g = .lit (.bool b') ∧ (b' = b → ∃ v σ' c' kt, VEff P dr c0 (X.ev S.ρ) S.σ S.c op v σ' c' kt ∧ wpr P dr c0 r ⟨updo (kill kt S.ρ) d v, σ', c'⟩ K) ∧ (b' ≠ b → wpr P dr c0 r ⟨updo S.ρ d (.tup []), S.σ, S.c⟩ K)
def effK (P : Program) (dr : Bool) (c0 : Nat) (op : VOp) (d : Option Nat) (S : VS) (r : List VO) (K : VS → Prop) : Prop :=
  ∃ v σ' c' kt, VEff P dr c0 (X.ev S.ρ) S.σ S.c op v σ' c' kt ∧ wpr P dr c0 r ⟨updo (kill kt S.ρ) d v, σ', c'⟩ K

section
variable {P : Program} {dr : Bool} {c0 : Nat} {S : VS} {r : List VO} {K : VS → Prop} {d : Option Nat}

theorem wpr_eff {op : VOp} (h : effK P dr c0 op d S r K) : wpr P dr c0 (⟨d, op, none⟩ :: r) S K := by
  obtain ⟨v, σ', c', kt, h, S', hs, hk⟩ := h
  exact ⟨S', .cons (.run (fun t b hg => by cases hg) h) hs, hk⟩
theorem wpr_guard {op : VOp} {t : Nat} {b : Bool} (h : guardK P dr c0 (S.ρ t) b d op S r K) : wpr P dr c0 (⟨d, op, some (t, b)⟩ :: r) S K := by
  rcases h with ⟨hg, S', hs, hk⟩ | ⟨b', hg, h1, h2⟩
  · exact ⟨S', .cons (.skip rfl (.inr hg)) hs, hk⟩
  by_cases e : b' = b
  · obtain ⟨v, σ', c', kt, h, S', hs, hk⟩ := h1 e
    exact ⟨S', .cons (.run (fun t' b'' hg' => by cases hg'; rw [hg, e]) h) hs, hk⟩
  · obtain ⟨S', hs, hk⟩ := h2 e
    exact ⟨S', .cons (.skip rfl (.inl ⟨b', hg, e⟩)) hs, hk⟩
theorem wpr_nil (h : K S) : wpr P dr c0 [] S K := ⟨S, .nil S, h⟩
end

section
variable {P : Program} {c0 : Nat} {S : VS} {Q : VEx → VS → Prop}

def thenQ (P : Program) (c0 : Nat) (y : VC) (Q : VEx → VS → Prop) : VEx → VS → Prop
  | .normal, S => VWP P c0 y Q S
  | e, S => Q e S
def blockQ (id : Nat) (Q : VEx → VS → Prop) : VEx → VS → Prop
  | .exit j, S => if j = id then Q .normal S else Q (.exit j) S
  | e, S => Q e S

theorem vwp_skip (h : Q .normal S) : VWP P c0 .skip Q S := ⟨_, _, .skip S, h⟩
theorem vwp_region {dr : Bool} {ops : List VO} (h : wpr P dr c0 ops S (Q .normal)) : VWP P c0 (.region dr ops) Q S := by
  obtain ⟨S', hs, hk⟩ := h
  exact ⟨_, _, .region hs, hk⟩
theorem vwp_seq {x y : VC} (h : VWP P c0 x (thenQ P c0 y Q) S) : VWP P c0 (.seq x y) Q S := by
  obtain ⟨e, S1, hx, hq⟩ := h
  cases e with
  | normal => obtain ⟨e, S', hy, hq⟩ := hq; exact ⟨e, S', .seq hx hy, hq⟩
  | exit id => exact ⟨_, S1, .seqOut hx (by intro h; cases h), hq⟩
  | ret => exact ⟨_, S1, .seqOut hx (by intro h; cases h), hq⟩
theorem vwp_cond {x : X} {t : Bool} {p q : VC} (hx : x.ev S.ρ = .lit (.bool t)) (h1 : t = true → VWP P c0 p Q S) (h2 : t = false → VWP P c0 q Q S) : VWP P c0 (.cond x p q) Q S := by
  cases t with
  | true => obtain ⟨e, S', h, hq⟩ := h1 rfl; exact ⟨e, S', .cond hx h, hq⟩
  | false => obtain ⟨e, S', h, hq⟩ := h2 rfl; exact ⟨e, S', .cond hx h, hq⟩
theorem vwp_block {id : Nat} {b : VC} (h : VWP P c0 b (blockQ id Q) S) : VWP P c0 (.block id b) Q S := by
  obtain ⟨e, S1, hx, hq⟩ := h
  cases e with
  | normal => exact ⟨_, S1, .block hx (by intro h; cases h), hq⟩
  | exit j =>
    by_cases e : j = id
    · subst e; simp only [blockQ, if_true] at hq; exact ⟨_, S1, .blockExit hx, hq⟩
    · simp only [blockQ, if_neg e] at hq; exact ⟨_, S1, .block hx (by intro h; cases h; exact e rfl), hq⟩
  | ret => exact ⟨_, S1, .block hx (by intro h; cases h), hq⟩
theorem vwp_exit {id : Nat} (h : Q (.exit id) S) : VWP P c0 (.exit id) Q S := ⟨_, _, .exit id S, h⟩
theorem vwp_ret (h : Q .ret S) : VWP P c0 .ret Q S := ⟨_, _, .ret S, h⟩
theorem vwp_mono {vc : VC} {Q' : VEx → VS → Prop} (h : VWP P c0 vc Q S) (hq : ∀ e S, Q e S → Q' e S) : VWP P c0 vc Q' S := by
  obtain ⟨e, S', h, q⟩ := h; exact ⟨e, S', h, hq _ _ q⟩
theorem vwp_freeze {vc : VC} (i t off n sz : Nat) (cap : Option Nat) (cells : List V) {lv : Bool} (hi : S.ρ i = .buf t off n cap sz) (ht : S.σ t = some ⟨cells, lv⟩) (h0 : c0 ≤ t) (hb : off + n * sz ≤ cells.length)
    (h : VWP P c0 vc Q (frozen S i t off sz cells (((cells.drop off).take (n * sz)).map V.solid))) : VWP P c0 vc Q S := by
  obtain ⟨e, S', h, hq⟩ := h
  exact ⟨e, S', .freeze hi ht h0 hb h, hq⟩

theorem vwp_thaw {vc : VC} (i t n sz : Nat) (l : List V) (hi : S.ρ i = .sl (.id t) sz l) (h0 : c0 ≤ t) (hn : l.length = n * sz) (hl : l ≠ []) (hs : ∀ x ∈ l, x.still t 4 = true)
    (h : VWP P c0 vc Q (thawed S i t n sz l)) : VWP P c0 vc Q S := by
  obtain ⟨e, S', h, hq⟩ := h
  exact ⟨e, S', .thaw hi h0 hn hl hs h, hq⟩
theorem vwp_loop {b : VC} (I : Nat → VS → Prop) (n : Nat) (h0 : I n S) (round : ∀ n S, I n S → VWP P c0 b (fun e S' => match e with | .normal => ∃ m, m < n ∧ I m S' | e => Q e S') S) : VWP P c0 (.loop b) Q S := by
  induction n using Nat.strongRecOn generalizing S with
  | _ n ih =>
    obtain ⟨e, S1, h, hq⟩ := round n S h0
    cases e with
    | normal =>
      obtain ⟨m, hm, hI⟩ := hq
      obtain ⟨e, S', h', hq'⟩ := ih m hm hI
      exact ⟨e, S', .loop h h', hq'⟩
    | exit id => exact ⟨_, S1, .loopOut h (by intro h; cases h), hq⟩
    | ret => exact ⟨_, S1, .loopOut h (by intro h; cases h), hq⟩
end

def VSpec (P : Program) (f : FuncId) (c : Nat) (xs : List V) (Q : V → Nat → Prop) : Prop := ∃ r c', c ≤ c' ∧ VCallP P f c xs r c' ∧ Q r c'

def retQ (rs : List VRes) (Q : V → Nat → Prop) : VEx → VS → Prop
  | .exit _, _ => False
  | _, S => ∃ r, vresult S rs = some r ∧ Q r S.c

theorem spec_mk {P : Program} (hm : P.follows .mixedOrders = true) {f : FuncId} {fn : Func} {code : Code} {vc : VC} {rs : List VRes} (hf : P.funcs[f]? = some fn) (hb : fn.body = some code) (hvc : resCode P fn.ntmps code = vc) (hrs : resResults P fn.results.toList = some rs)
    {c : Nat} {xs : List V} (hn : xs.length ≤ fn.ntmps) {Q : V → Nat → Prop} (h : VWP P c vc (retQ rs fun r c' => c ≤ c' ∧ Q r c') ⟨start xs, noBlk, c⟩) : VSpec P f c xs Q := by
  obtain ⟨e, S', he, hq⟩ := h
  have key : ∀ r, vresult S' rs = some r → (e = .ret ∨ e = .normal) → VCallP P f c xs r S'.c := fun r hr he' =>
    vcalls_of_exec hm hf hb hvc hrs hn he he' hr (fun t k h => by cases h) (fun t h => absurd rfl h)
  cases e with
  | normal => obtain ⟨r, hr, h1, h2⟩ := hq; exact ⟨r, S'.c, h1, key r hr (.inr rfl), h2⟩
  | ret => obtain ⟨r, hr, h1, h2⟩ := hq; exact ⟨r, S'.c, h1, key r hr (.inl rfl), h2⟩
  | exit id => exact hq.elim

theorem VSpec.mono {P : Program} {f : FuncId} {c : Nat} {xs : List V} {Q Q' : V → Nat → Prop} (h : VSpec P f c xs Q) (hq : ∀ r c', Q r c' → Q' r c') : VSpec P f c xs Q' := by
  obtain ⟨r, c', h0, h1, h2⟩ := h; exact ⟨r, c', h0, h1, hq _ _ h2⟩

theorem thenQ_normal {P : Program} {c0 : Nat} {y : VC} {Q : VEx → VS → Prop} {S : VS} : thenQ P c0 y Q .normal S = VWP P c0 y Q S := Eq.trans rfl rfl
theorem thenQ_exit {P : Program} {c0 : Nat} {y : VC} {Q : VEx → VS → Prop} {S : VS} {j : Nat} : thenQ P c0 y Q (.exit j) S = Q (.exit j) S := Eq.trans rfl rfl
theorem thenQ_ret {P : Program} {c0 : Nat} {y : VC} {Q : VEx → VS → Prop} {S : VS} : thenQ P c0 y Q .ret S = Q .ret S := Eq.trans rfl rfl
theorem blockQ_normal {id : Nat} {Q : VEx → VS → Prop} {S : VS} : blockQ id Q .normal S = Q .normal S := Eq.trans rfl rfl
theorem blockQ_exit {id j : Nat} {Q : VEx → VS → Prop} {S : VS} : blockQ id Q (.exit j) S = if j = id then Q .normal S else Q (.exit j) S := Eq.trans rfl rfl
theorem blockQ_ret {id : Nat} {Q : VEx → VS → Prop} {S : VS} : blockQ id Q .ret S = Q .ret S := Eq.trans rfl rfl
theorem retQ_ret {rs : List VRes} {Q : V → Nat → Prop} {S : VS} : retQ rs Q .ret S = ∃ r, vresult S rs = some r ∧ Q r S.c := Eq.trans rfl rfl
theorem retQ_normal {rs : List VRes} {Q : V → Nat → Prop} {S : VS} : retQ rs Q .normal S = ∃ r, vresult S rs = some r ∧ Q r S.c := Eq.trans rfl rfl
attribute [irreducible] thenQ blockQ retQ
end Go.VM
namespace Go.VM

abbrev nv (n : Nat) : V := .lit (.int .u64 (n : Int))
abbrev iv (n : Int) : V := .lit (.int .i64 n)
abbrev bv (b : Bool) : V := .lit (.bool b)
abbrev nats (t : Tok) (l : List Nat) : V := .sl t 1 (l.map nv)
abbrev nblk (l : List Nat) : Option Blk := some ⟨l.map nv, true⟩
abbrev nil1 : V := .sl .nil 1 []

def sbin (op : BinOp) (isb : Bool) : V → V → Option V
  | .lit (.int .i64 a), .lit (.int .i64 b) => match op with
    | .add => if -9223372036854775808 ≤ a + b ∧ a + b < 9223372036854775808 then some (iv (a + b)) else none
    | .sub => if -9223372036854775808 ≤ a - b ∧ a - b < 9223372036854775808 then some (iv (a - b)) else none
    | .mul => if -9223372036854775808 ≤ a * b ∧ a * b < 9223372036854775808 then some (iv (a * b)) else none
    | .quo => if 0 ≤ a ∧ 0 < b ∧ a < 9223372036854775808 then some (iv (a / b)) else none
    | .rem => if 0 ≤ a ∧ 0 < b then some (iv (a % b)) else none
    | .eql => some (bv (decide (a = b)))
    | .neq => some (bv (!decide (a = b)))
    | .lss => some (bv (decide (a < b)))
    | .leq => some (bv (decide (a ≤ b)))
    | .gtr => some (bv (decide (b < a)))
    | .geq => some (bv (decide (b ≤ a)))
    | op => vbin op isb (iv a) (iv b)
  | x, y => vbin op isb x y

theorem wrap_i64 {x : Int} (h1 : -9223372036854775808 ≤ x) (h2 : x < 9223372036854775808) : IntKind.i64.wrap x = x := by
  simp only [IntKind.wrap, IntKind.signed, IntKind.bits]
  simp
  omega
theorem wrap_u64 {x : Int} (h1 : 0 ≤ x) (h2 : x < 18446744073709551616) : IntKind.u64.wrap x = x := by
  simp only [IntKind.wrap, IntKind.signed, IntKind.bits]
  simp
  omega
theorem wrap_u64_mod (n : Nat) : IntKind.u64.wrap (n : Int) = ((n % 18446744073709551616 : Nat) : Int) := by
  simp only [IntKind.wrap, IntKind.signed, IntKind.bits]
  simp
theorem sbin_vbin {op : BinOp} {b : Bool} {x y v : V} (h : sbin op b x y = some v) : vbin op b x y = some v := by
  unfold sbin at h
  split at h
  · rename_i a c
    cases op
    case add | sub | mul =>
      simp only at h
      split at h
      · rename_i g
        cases h
        simp only [vbin, vint, BinOp.isShift, Bool.false_eq_true, if_false, if_true, Option.map, wrap_i64 g.1 g.2]
      · cases h
    case quo =>
      simp only at h
      split at h
      · rename_i g
        cases h
        have : ¬ c = 0 := by omega
        have e : a.tdiv c = a / c := Int.tdiv_eq_ediv_of_nonneg g.1
        simp only [vbin, vint, BinOp.isShift, Bool.false_eq_true, if_false, if_true, if_neg this, Option.map, e]
        have h1 : 0 ≤ a / c := Int.ediv_nonneg g.1 (by omega)
        have h2 : a / c ≤ a := Int.ediv_le_self _ g.1
        rw [wrap_i64 (by omega) (by omega)]
      · cases h
    case rem =>
      simp only at h
      split at h
      · rename_i g
        cases h
        have : ¬ c = 0 := by omega
        have e : a.tmod c = a % c := Int.tmod_eq_emod_of_nonneg g.1
        simp only [vbin, vint, BinOp.isShift, Bool.false_eq_true, if_false, if_true, if_neg this, Option.map, e]
      · cases h
    case eql | neq | lss | leq | gtr | geq => cases h; rfl
    all_goals exact h
  · exact h

def sconv (k : IntKind) : V → Option V
  | .lit (.int .i64 n) => match k with
    | .u64 => if 0 ≤ n ∧ n < 18446744073709551616 then some (nv n.toNat) else none
    | .i64 => if -9223372036854775808 ≤ n ∧ n < 9223372036854775808 then some (iv n) else none
    | k => some (.int k (k.wrap n))
  | .lit (.int .u64 n) => match k with
    | .i64 => if -9223372036854775808 ≤ n ∧ n < 9223372036854775808 then some (iv n) else none
    | k => some (.int k (k.wrap n))
  | .lit (.int _ n) => some (.int k (k.wrap n))
  | _ => none

def stepS (a : Option V) (d : Option Nat) (S : VS) (k : VS → Prop) : Prop := ∃ v, a = some v ∧ k ⟨updo S.ρ d v, S.σ, S.c⟩
def storeS (a : Option (Nat → Option Blk)) (S : VS) (k : VS → Prop) : Prop := ∃ σ', a = some σ' ∧ k ⟨S.ρ, σ', S.c⟩
def effS (P : Program) (dr : Bool) (c0 : Nat) (op : VOp) (d : Option Nat) (S : VS) (k : VS → Prop) : Prop :=
  ∃ v σ' c' kt, VEff P dr c0 (X.ev S.ρ) S.σ S.c op v σ' c' kt ∧ k ⟨updo (kill kt S.ρ) d v, σ', c'⟩

def opS (P : Program) (dr : Bool) (c0 : Nat) (op : VOp) (d : Option Nat) (S : VS) (k : VS → Prop) : Prop :=
  match op with
  | .bin op b x y => stepS (sbin op b (x.ev S.ρ) (y.ev S.ρ)) d S k
  | .conv t x => stepS (sconv t (x.ev S.ρ)) d S k
  | .load ag x => stepS (vload S.σ ag (x.ev S.ρ)) d S k
  | .store n x y => match d with
    | none => storeS (vstore S.σ n (x.ev S.ρ) (y.ev S.ρ)) S k
    | some _ => False
  | op => if op.isPure then stepS (vpure (X.ev S.ρ) op) d S k else effS P dr c0 op d S k

def guardS (g : V) (b : Bool) (yes no : Prop) : Prop := (g = .tup [] ∧ no) ∨ ∃ b', g = .lit (.bool b') ∧ if b' = b then yes else no

def wps (P : Program) (dr : Bool) (c0 : Nat) : List VO → VS → (VS → Prop) → Prop
  | [], S, K => K S
  | ⟨d, op, none⟩ :: r, S, K => opS P dr c0 op d S (fun S => wps P dr c0 r S K)
  | ⟨d, op, some (t, b)⟩ :: r, S, K => guardS (S.ρ t) b (opS P dr c0 op d S (fun S => wps P dr c0 r S K)) (wps P dr c0 r ⟨updo S.ρ d (.tup []), S.σ, S.c⟩ K)

theorem opS_eff {P : Program} {dr : Bool} {c0 : Nat} {op : VOp} {d : Option Nat} {S : VS} {k : VS → Prop} (h : opS P dr c0 op d S k) : effS P dr c0 op d S k := by
  unfold opS at h
  split at h
  · obtain ⟨v, h, hk⟩ := h; exact ⟨v, _, _, none, .pure (sbin_vbin h), hk⟩
  · obtain ⟨v, h, hk⟩ := h
    refine ⟨v, _, _, none, .pure ?_, hk⟩
    rename_i t x
    have : ∀ y : V, sconv t y = some v → (match y with | .lit (.int _ n) => some (V.int t (t.wrap n)) | _ => none) = some v := by
      intro y hy
      unfold sconv at hy
      split at hy
      · split at hy
        · split at hy <;> cases hy
          rename_i g
          have e : ((Int.toNat _ : Nat) : Int) = _ := Int.toNat_of_nonneg g.1
          simp only [e]
          rw [wrap_u64 g.1 g.2]
          exact congrArg some (congrArg V.lit (congrArg (Value.int .u64) e.symm))
        · split at hy <;> cases hy
          rename_i g
          simp only
          rw [wrap_i64 g.1 g.2]
        · exact hy
      · split at hy
        · split at hy <;> cases hy
          rename_i g
          simp only
          rw [wrap_i64 g.1 g.2]
        · exact hy
      · exact hy
      · cases hy
    exact this _ h
  · obtain ⟨v, h, hk⟩ := h; exact ⟨v, _, _, none, .load h, hk⟩
  · split at h
    · obtain ⟨σ', h, hk⟩ := h; exact ⟨_, _, _, none, .store h, hk⟩
    · cases h
  · split at h
    · obtain ⟨v, h, hk⟩ := h; exact ⟨v, _, _, none, .pure h, hk⟩
    · exact h

theorem wps_wpr {P : Program} {dr : Bool} {c0 : Nat} {l : List VO} {S : VS} {K : VS → Prop} (h : wps P dr c0 l S K) : wpr P dr c0 l S K := by
  induction l generalizing S with
  | nil => exact wpr_nil h
  | cons o r ih =>
    obtain ⟨d, op, g⟩ := o
    cases g with
    | none =>
      obtain ⟨v, σ', c', kt, h, hk⟩ := opS_eff h
      exact wpr_eff ⟨v, σ', c', kt, h, ih hk⟩
    | some g =>
      obtain ⟨t, b⟩ := g
      rcases h with ⟨hg, h⟩ | ⟨b', hg, h⟩
      · exact wpr_guard (.inl ⟨hg, ih h⟩)
      refine wpr_guard (.inr ⟨b', hg, fun e => ?_, fun e => ?_⟩)
      · rw [if_pos e] at h
        obtain ⟨v, σ', c', kt, h, hk⟩ := opS_eff h
        exact ⟨v, σ', c', kt, h, ih hk⟩
      · rw [if_neg e] at h
        exact ih h

def letS (P : Program) (dr : Bool) (c0 : Nat) (a : Option V) (i : Nat) (ρ : Nat → V) (σ : Nat → Option Blk) (c : Nat) (r : List VO) (K : VS → Prop) : Prop := ∃ v, a = some v ∧ wps P dr c0 r ⟨upd ρ i v, σ, c⟩ K
def movS (P : Program) (dr : Bool) (c0 : Nat) (v : V) (i : Nat) (ρ : Nat → V) (σ : Nat → Option Blk) (c : Nat) (r : List VO) (K : VS → Prop) : Prop := wps P dr c0 r ⟨upd ρ i v, σ, c⟩ K
def putS (P : Program) (dr : Bool) (c0 : Nat) (a : Option (Nat → Option Blk)) (ρ : Nat → V) (c : Nat) (r : List VO) (K : VS → Prop) : Prop := ∃ σ, a = some σ ∧ wps P dr c0 r ⟨ρ, σ, c⟩ K
def whenS (P : Program) (dr : Bool) (c0 : Nat) (g : V) (b : Bool) (i : Nat) (op : VOp) (ρ : Nat → V) (σ : Nat → Option Blk) (c : Nat) (r : List VO) (K : VS → Prop) : Prop := guardS g b (wps P dr c0 (⟨some i, op, none⟩ :: r) ⟨ρ, σ, c⟩ K) (wps P dr c0 r ⟨upd ρ i (.tup []), σ, c⟩ K)
def vpick (c a b : V) : Option V := match c with | .lit (.bool t) => some (if t then a else b) | _ => none
def vext (i : Nat) : V → Option V | .tup l => l[i]? | _ => none
section
variable {P : Program} {dr : Bool} {c0 : Nat} {S : VS} {r : List VO} {K : VS → Prop} {d : Option Nat} {i c : Nat} {ρ : Nat → V} {σ : Nat → Option Blk}
theorem s_nil : wps P dr c0 [] S K = K S := Eq.trans rfl rfl
theorem s_guard {op : VOp} {t : Nat} {b : Bool} : wps P dr c0 (⟨some i, op, some (t, b)⟩ :: r) ⟨ρ, σ, c⟩ K = whenS P dr c0 (ρ t) b i op ρ σ c r K := Eq.trans rfl rfl
theorem guardS_bool {b b' : Bool} {p q : Prop} : guardS (.lit (.bool b)) b' p q = if b = b' then p else q := by
  refine propext ⟨?_, fun h => .inr ⟨b, rfl, h⟩⟩
  rintro (⟨e, _⟩ | ⟨b1, e, h⟩)
  · cases e
  · cases e
    exact h
theorem guardS_none {b' : Bool} {p q : Prop} : guardS (.tup []) b' p q = q := by
  refine propext ⟨?_, fun h => .inl ⟨rfl, h⟩⟩
  rintro (⟨_, h⟩ | ⟨b1, e, _⟩)
  · exact h
  · cases e
theorem g_tt {op : VOp} : whenS P dr c0 (.lit (.bool true)) true i op ρ σ c r K = wps P dr c0 (⟨some i, op, none⟩ :: r) ⟨ρ, σ, c⟩ K := guardS_bool.trans (if_pos rfl)
theorem g_tf {op : VOp} : whenS P dr c0 (.lit (.bool true)) false i op ρ σ c r K = wps P dr c0 r ⟨upd ρ i (.tup []), σ, c⟩ K := guardS_bool.trans (if_neg (by decide))
theorem g_ft {op : VOp} : whenS P dr c0 (.lit (.bool false)) true i op ρ σ c r K = wps P dr c0 r ⟨upd ρ i (.tup []), σ, c⟩ K := guardS_bool.trans (if_neg (by decide))
theorem g_ff {op : VOp} : whenS P dr c0 (.lit (.bool false)) false i op ρ σ c r K = wps P dr c0 (⟨some i, op, none⟩ :: r) ⟨ρ, σ, c⟩ K := guardS_bool.trans (if_pos rfl)
theorem g_no {b : Bool} {op : VOp} : whenS P dr c0 (.tup []) b i op ρ σ c r K = wps P dr c0 r ⟨upd ρ i (.tup []), σ, c⟩ K := guardS_none
theorem whenS_congr {a a' : V} {b : Bool} {op : VOp} (h : a = a') : whenS P dr c0 a b i op ρ σ c r K = whenS P dr c0 a' b i op ρ σ c r K := by rw [h]
theorem s_mov {x : X} : wps P dr c0 (⟨some i, .mov x, none⟩ :: r) ⟨ρ, σ, c⟩ K = movS P dr c0 (x.ev ρ) i ρ σ c r K := by
  simp [wps, opS, VOp.isPure, stepS, vpure, movS, updo]
theorem s_pick {x y z : X} : wps P dr c0 (⟨some i, .pick x y z, none⟩ :: r) ⟨ρ, σ, c⟩ K = letS P dr c0 (vpick (x.ev ρ) (y.ev ρ) (z.ev ρ)) i ρ σ c r K := Eq.trans rfl rfl
theorem s_bin {op : BinOp} {b : Bool} {x y : X} : wps P dr c0 (⟨some i, .bin op b x y, none⟩ :: r) ⟨ρ, σ, c⟩ K = letS P dr c0 (sbin op b (x.ev ρ) (y.ev ρ)) i ρ σ c r K := Eq.trans rfl rfl
theorem s_conv {t : IntKind} {x : X} : wps P dr c0 (⟨some i, .conv t x, none⟩ :: r) ⟨ρ, σ, c⟩ K = letS P dr c0 (sconv t (x.ev ρ)) i ρ σ c r K := Eq.trans rfl rfl
theorem s_un {op : UnOp} {x : X} : wps P dr c0 (⟨some i, .un op x, none⟩ :: r) ⟨ρ, σ, c⟩ K = letS P dr c0 (vun op (x.ev ρ)) i ρ σ c r K := Eq.trans rfl rfl
theorem s_len {x : X} : wps P dr c0 (⟨some i, .len x, none⟩ :: r) ⟨ρ, σ, c⟩ K = letS P dr c0 (vlen (x.ev ρ)) i ρ σ c r K := Eq.trans rfl rfl
theorem s_ixa {sz : Nat} {x y : X} : wps P dr c0 (⟨some i, .ixa sz x y, none⟩ :: r) ⟨ρ, σ, c⟩ K = letS P dr c0 (vixa sz (x.ev ρ) (y.ev ρ)) i ρ σ c r K := Eq.trans rfl rfl
theorem s_axa {n sz : Nat} {x y : X} : wps P dr c0 (⟨some i, .axa n sz x y, none⟩ :: r) ⟨ρ, σ, c⟩ K = letS P dr c0 (vaxa n sz (x.ev ρ) (y.ev ρ)) i ρ σ c r K := Eq.trans rfl rfl
theorem s_aix {n sz : Nat} {ag : Option Nat} {x y : X} : wps P dr c0 (⟨some i, .aix n sz ag x y, none⟩ :: r) ⟨ρ, σ, c⟩ K = letS P dr c0 (vaix n sz ag (x.ev ρ) (y.ev ρ)) i ρ σ c r K := Eq.trans rfl rfl
theorem s_six {x y : X} : wps P dr c0 (⟨some i, .six x y, none⟩ :: r) ⟨ρ, σ, c⟩ K = letS P dr c0 (vsix (x.ev ρ) (y.ev ρ)) i ρ σ c r K := Eq.trans rfl rfl
theorem s_slc {sz : Nat} {x : X} {lo hi mx : Option X} : wps P dr c0 (⟨some i, .slc sz x lo hi mx, none⟩ :: r) ⟨ρ, σ, c⟩ K = letS P dr c0 (vslc sz (x.ev ρ) (lo.map (X.ev ρ)) (hi.map (X.ev ρ)) (mx.map (X.ev ρ))) i ρ σ c r K := Eq.trans rfl rfl
theorem s_fa {off : Nat} {x : X} : wps P dr c0 (⟨some i, .fa off x, none⟩ :: r) ⟨ρ, σ, c⟩ K = letS P dr c0 (vfa off (x.ev ρ)) i ρ σ c r K := Eq.trans rfl rfl
theorem s_fld {off : Nat} {ag : Option Nat} {x : X} : wps P dr c0 (⟨some i, .fld off ag x, none⟩ :: r) ⟨ρ, σ, c⟩ K = letS P dr c0 (vfld off ag (x.ev ρ)) i ρ σ c r K := Eq.trans rfl rfl
theorem s_ext {x : X} {j : Nat} : wps P dr c0 (⟨some i, .ext x j, none⟩ :: r) ⟨ρ, σ, c⟩ K = letS P dr c0 (vext j (x.ev ρ)) i ρ σ c r K := Eq.trans rfl rfl
theorem s_ext64 {sub : Bool} {x y z : X} : wps P dr c0 (⟨some i, .ext64 sub x y z, none⟩ :: r) ⟨ρ, σ, c⟩ K = letS P dr c0 (vext64 sub (x.ev ρ) (y.ev ρ) (z.ev ρ)) i ρ σ c r K := Eq.trans rfl rfl
theorem s_mm {m : Bool} {x y : X} : wps P dr c0 (⟨some i, .mm m x y, none⟩ :: r) ⟨ρ, σ, c⟩ K = letS P dr c0 (vmm m (x.ev ρ) (y.ev ρ)) i ρ σ c r K := Eq.trans rfl rfl
theorem s_load {ag : Option Nat} {x : X} : wps P dr c0 (⟨some i, .load ag x, none⟩ :: r) ⟨ρ, σ, c⟩ K = letS P dr c0 (vload σ ag (x.ev ρ)) i ρ σ c r K := Eq.trans rfl rfl
theorem s_mkf {f : FuncId} : wps P dr c0 (⟨some i, .mkf f, none⟩ :: r) ⟨ρ, σ, c⟩ K = wps P dr c0 r ⟨upd ρ i (.lit (.func (.func f) #[] #[])), σ, c⟩ K := by
  simp [wps, opS, VOp.isPure, stepS, vpure, updo]
theorem s_store {n : Nat} {x y : X} : wps P dr c0 (⟨none, .store n x y, none⟩ :: r) ⟨ρ, σ, c⟩ K = putS P dr c0 (vstore σ n (x.ev ρ) (y.ev ρ)) ρ c r K := Eq.trans rfl rfl
theorem letS_some {v : V} : letS P dr c0 (some v) i ρ σ c r K = wps P dr c0 r ⟨upd ρ i v, σ, c⟩ K := by simp [letS]
theorem letS_if {p : Prop} [Decidable p] {v : V} : letS P dr c0 (if p then some v else none) i ρ σ c r K = (p ∧ wps P dr c0 r ⟨upd ρ i v, σ, c⟩ K) := by
  by_cases h : p <;> simp [h, letS]
theorem letS_congr {a b : Option V} (h : a = b) : letS P dr c0 a i ρ σ c r K = letS P dr c0 b i ρ σ c r K := by rw [h]
theorem movS_eq {v : V} : movS P dr c0 v i ρ σ c r K = wps P dr c0 r ⟨upd ρ i v, σ, c⟩ K := Eq.trans rfl rfl
theorem movS_congr {a b : V} (h : a = b) : movS P dr c0 a i ρ σ c r K = movS P dr c0 b i ρ σ c r K := by rw [h]
theorem putS_some {v : Nat → Option Blk} : putS P dr c0 (some v) ρ c r K = wps P dr c0 r ⟨ρ, v, c⟩ K := by simp [putS]
theorem putS_if {p : Prop} [Decidable p] {v : Nat → Option Blk} : putS P dr c0 (if p then some v else none) ρ c r K = (p ∧ wps P dr c0 r ⟨ρ, v, c⟩ K) := by
  by_cases h : p <;> simp [h, putS]
theorem putS_congr {a b : Option (Nat → Option Blk)} (h : a = b) : putS P dr c0 a ρ c r K = putS P dr c0 b ρ c r K := by rw [h]

theorem s_call {f : FuncId} {xs : List X} {ys : List V} {Q : V → Nat → Prop} (h : VSpec P f c ys Q) (he : xs.map (X.ev ρ) = ys)
    (hk : ∀ v c', c ≤ c' → Q v c' → wps P dr c0 r ⟨updo ρ d v, σ, c'⟩ K) : wps P dr c0 (⟨d, .call f xs, none⟩ :: r) ⟨ρ, σ, c⟩ K := by
  obtain ⟨v, c', h0, h1, h2⟩ := h
  subst he
  show opS P dr c0 (.call f xs) d _ _
  exact ⟨v, _, _, none, .callp h1, hk v c' h0 h2⟩
theorem s_callv {x : X} {f : FuncId} {xs : List X} {ys : List V} {Q : V → Nat → Prop} (hx : x.ev ρ = .lit (.func (.func f) #[] #[])) (hb : ∃ fn b, P.funcs[f]? = some fn ∧ (fn.name == "runtime.NumGoroutine") = false ∧ fn.body = some b)
    (h : VSpec P f c ys Q) (he : xs.map (X.ev ρ) = ys)
    (hk : ∀ v c', c ≤ c' → Q v c' → wps P dr c0 r ⟨updo ρ d v, σ, c'⟩ K) : wps P dr c0 (⟨d, .callv x xs, none⟩ :: r) ⟨ρ, σ, c⟩ K := by
  obtain ⟨v, c', h0, h1, h2⟩ := h
  subst he
  show opS P dr c0 (.callv x xs) d _ _
  exact ⟨v, _, _, none, .callv hx hb h1, hk v c' h0 h2⟩
theorem s_eff {op : VOp} (hp : op.isPure = false) (h1 : ∀ ag x, op ≠ .load ag x) (h2 : ∀ n x y, op ≠ .store n x y) (h : effS P dr c0 op d S fun S => wps P dr c0 r S K) : wps P dr c0 (⟨d, op, none⟩ :: r) S K := by
  show opS P dr c0 op d S _
  unfold opS
  split
  · cases hp
  · cases hp
  · exact absurd rfl (h1 _ _)
  · exact absurd rfl (h2 _ _ _)
  · rw [if_neg (by rw [hp]; decide)]; exact h
end

theorem updo_some (ρ : Nat → V) (i : Nat) (v : V) : updo ρ (some i) v = upd ρ i v := Eq.trans rfl rfl
theorem updo_none (ρ : Nat → V) (v : V) : updo ρ none v = ρ := Eq.trans rfl rfl
theorem ev_t (ρ : Nat → V) (i : Nat) : (X.t i).ev ρ = ρ i := Eq.trans rfl rfl
theorem ev_c (ρ : Nat → V) (v : V) : (X.c v).ev ρ = v := Eq.trans rfl rfl
theorem upd_app (ρ : Nat → V) (i j : Nat) (v : V) : upd ρ i v j = if j = i then v else ρ j := Eq.trans rfl rfl
theorem supd_app (σ : Nat → Option Blk) (i j : Nat) (v : Option Blk) : supd σ i v j = if j = i then v else σ j := Eq.trans rfl rfl
theorem supd_two (σ : Nat → Option Blk) (i : Nat) (v u : Option Blk) : supd (supd σ i v) i u = supd σ i u := by
  funext j; simp only [supd]; split <;> rfl
theorem start_nil (i : Nat) : start [] i = .any := by simp [start]
theorem start_zero (x : V) (l : List V) : start (x :: l) 0 = x := Eq.trans rfl rfl
theorem start_one (x y : V) (l : List V) : start (x :: y :: l) 1 = y := Eq.trans rfl rfl
theorem start_two (x y z : V) (l : List V) : start (x :: y :: z :: l) 2 = z := Eq.trans rfl rfl
theorem start_three (x y z u : V) (l : List V) : start (x :: y :: z :: u :: l) 3 = u := Eq.trans rfl rfl

theorem i_add {b : Bool} {x y : Int} : sbin .add b (iv x) (iv y) = if -9223372036854775808 ≤ x + y ∧ x + y < 9223372036854775808 then some (iv (x + y)) else none := Eq.trans rfl rfl
theorem i_sub {b : Bool} {x y : Int} : sbin .sub b (iv x) (iv y) = if -9223372036854775808 ≤ x - y ∧ x - y < 9223372036854775808 then some (iv (x - y)) else none := Eq.trans rfl rfl
theorem i_mul {b : Bool} {x y : Int} : sbin .mul b (iv x) (iv y) = if -9223372036854775808 ≤ x * y ∧ x * y < 9223372036854775808 then some (iv (x * y)) else none := Eq.trans rfl rfl
theorem i_quo {b : Bool} {x y : Int} : sbin .quo b (iv x) (iv y) = if 0 ≤ x ∧ 0 < y ∧ x < 9223372036854775808 then some (iv (x / y)) else none := Eq.trans rfl rfl
theorem i_rem {b : Bool} {x y : Int} : sbin .rem b (iv x) (iv y) = if 0 ≤ x ∧ 0 < y then some (iv (x % y)) else none := Eq.trans rfl rfl
theorem i_eql {b : Bool} {x y : Int} : sbin .eql b (iv x) (iv y) = some (bv (decide (x = y))) := Eq.trans rfl rfl
theorem i_neq {b : Bool} {x y : Int} : sbin .neq b (iv x) (iv y) = some (bv (!decide (x = y))) := Eq.trans rfl rfl
theorem i_lss {b : Bool} {x y : Int} : sbin .lss b (iv x) (iv y) = some (bv (decide (x < y))) := Eq.trans rfl rfl
theorem i_leq {b : Bool} {x y : Int} : sbin .leq b (iv x) (iv y) = some (bv (decide (x ≤ y))) := Eq.trans rfl rfl
theorem i_gtr {b : Bool} {x y : Int} : sbin .gtr b (iv x) (iv y) = some (bv (decide (y < x))) := Eq.trans rfl rfl
theorem i_geq {b : Bool} {x y : Int} : sbin .geq b (iv x) (iv y) = some (bv (decide (y ≤ x))) := Eq.trans rfl rfl

theorem u_add {b : Bool} {x y : Nat} : sbin .add b (nv x) (nv y) = some (nv ((x + y) % 18446744073709551616)) := by
  simp only [sbin, vbin, vint, BinOp.isShift, Bool.false_eq_true, if_false, if_true, Option.map]
  rw [show (x : Int) + (y : Int) = ((x + y : Nat) : Int) by omega, wrap_u64_mod]
theorem u_sub {b : Bool} {x y : Nat} : sbin .sub b (nv x) (nv y) = some (nv ((x + (18446744073709551616 - y % 18446744073709551616)) % 18446744073709551616)) := by
  simp only [sbin, vbin, vint, BinOp.isShift, Bool.false_eq_true, if_false, if_true, Option.map]
  have : IntKind.u64.wrap ((x : Int) - (y : Int)) = (((x + (18446744073709551616 - y % 18446744073709551616)) % 18446744073709551616 : Nat) : Int) := by
    simp only [IntKind.wrap, IntKind.signed, IntKind.bits]
    simp
    omega
  rw [this]
theorem u_mul {b : Bool} {x y : Nat} : sbin .mul b (nv x) (nv y) = some (nv ((x * y) % 18446744073709551616)) := by
  simp only [sbin, vbin, vint, BinOp.isShift, Bool.false_eq_true, if_false, if_true, Option.map]
  rw [← Int.natCast_mul, wrap_u64_mod]
theorem u_quo {b : Bool} {x y : Nat} : sbin .quo b (nv x) (nv y) = if y ≠ 0 then some (nv ((x / y) % 18446744073709551616)) else none := by
  simp only [sbin, vbin, vint, BinOp.isShift, Bool.false_eq_true, if_false, if_true, Option.map]
  by_cases h : y = 0
  · subst h; rfl
  · rw [if_neg (by omega : ¬ (y : Int) = 0), if_pos h, Int.tdiv_eq_ediv_of_nonneg (by omega), ← Int.natCast_ediv, wrap_u64_mod]
theorem u_rem {b : Bool} {x y : Nat} : sbin .rem b (nv x) (nv y) = if y ≠ 0 then some (nv (x % y)) else none := by
  simp only [sbin, vbin, vint, BinOp.isShift, Bool.false_eq_true, if_false, if_true, Option.map]
  by_cases h : y = 0
  · subst h; rfl
  · rw [if_neg (by omega : ¬ (y : Int) = 0), if_pos h, Int.tmod_eq_emod_of_nonneg (by omega), ← Int.natCast_emod]
theorem u_eql {b : Bool} {x y : Nat} : sbin .eql b (nv x) (nv y) = some (bv (decide (x = y))) := by
  simp [sbin, vbin, vint, BinOp.isShift]
  rw [Bool.eq_iff_iff]; simp; omega
theorem u_neq {b : Bool} {x y : Nat} : sbin .neq b (nv x) (nv y) = some (bv (!decide (x = y))) := by
  simp [sbin, vbin, vint, BinOp.isShift]
  rw [Bool.eq_iff_iff]; simp; omega
theorem u_lss {b : Bool} {x y : Nat} : sbin .lss b (nv x) (nv y) = some (bv (decide (x < y))) := by simp [sbin, vbin, vint, BinOp.isShift]
theorem u_leq {b : Bool} {x y : Nat} : sbin .leq b (nv x) (nv y) = some (bv (decide (x ≤ y))) := by simp [sbin, vbin, vint, BinOp.isShift]
theorem u_gtr {b : Bool} {x y : Nat} : sbin .gtr b (nv x) (nv y) = some (bv (decide (y < x))) := by simp [sbin, vbin, vint, BinOp.isShift]
theorem u_geq {b : Bool} {x y : Nat} : sbin .geq b (nv x) (nv y) = some (bv (decide (y ≤ x))) := by simp [sbin, vbin, vint, BinOp.isShift]
theorem u_shl {b : Bool} {x y : Nat} : sbin .shl b (nv x) (nv y) = some (nv ((x * 2 ^ min y 64) % 18446744073709551616)) := by
  simp only [sbin, vbin, vshift, BinOp.isShift, if_true, Option.map]
  rw [if_neg (by omega)]
  simp only [IntKind.bits, Int.toNat_natCast]
  rw [show (x : Int) * 2 ^ min y 64 = ((x * 2 ^ min y 64 : Nat) : Int) by push_cast; rfl, wrap_u64_mod]
theorem u_shr {b : Bool} {x y : Nat} : sbin .shr b (nv x) (nv y) = some (nv (x / 2 ^ min y 64)) := by
  simp only [sbin, vbin, vshift, BinOp.isShift, if_true, Option.map]
  rw [if_neg (by omega)]
  simp only [IntKind.bits, Int.toNat_natCast]
  rw [show Int.fdiv (x : Int) (2 ^ min y 64) = ((x / 2 ^ min y 64 : Nat) : Int) by rw [Int.fdiv_eq_ediv_of_nonneg _ (by apply Int.le_of_lt; apply Int.pow_pos; decide)]; push_cast; rfl]
theorem ui_shl {b : Bool} {x : Nat} {y : Int} : sbin .shl b (nv x) (iv y) = if 0 ≤ y then some (nv ((x * 2 ^ min y.toNat 64) % 18446744073709551616)) else none := by
  by_cases h : 0 ≤ y
  · obtain ⟨n, rfl⟩ := Int.eq_ofNat_of_zero_le h
    rw [if_pos h, Int.toNat_natCast]
    exact u_shl (b := b) (x := x) (y := n)
  · simp only [sbin, vbin, vshift, BinOp.isShift, if_true, Option.map]
    rw [if_neg h, if_pos (by omega)]
theorem ui_shr {b : Bool} {x : Nat} {y : Int} : sbin .shr b (nv x) (iv y) = if 0 ≤ y then some (nv (x / 2 ^ min y.toNat 64)) else none := by
  by_cases h : 0 ≤ y
  · obtain ⟨n, rfl⟩ := Int.eq_ofNat_of_zero_le h
    rw [if_pos h, Int.toNat_natCast]
    exact u_shr (b := b) (x := x) (y := n)
  · simp only [sbin, vbin, vshift, BinOp.isShift, if_true, Option.map]
    rw [if_neg h, if_pos (by omega)]

theorem u_or {b : Bool} {x y : Nat} : sbin .or b (nv x) (nv y) = some (nv ((x % 18446744073709551616) ||| (y % 18446744073709551616))) := by
  have e : (BitVec.ofInt 64 (x : Int) ||| BitVec.ofInt 64 (y : Int)).toNat = (x % 18446744073709551616) ||| (y % 18446744073709551616) := by
    simp only [BitVec.ofInt_natCast, BitVec.toNat_or, BitVec.toNat_ofNat]
  have h : (x % 18446744073709551616) ||| (y % 18446744073709551616) < 18446744073709551616 := Nat.or_lt_two_pow (n := 64) (Nat.mod_lt _ (by decide)) (Nat.mod_lt _ (by decide))
  show some (V.lit (.int .u64 (IntKind.u64.wrap ((BitVec.ofInt 64 (x : Int) ||| BitVec.ofInt 64 (y : Int)).toNat : Int)))) = _
  rw [e, wrap_u64_mod, Nat.mod_eq_of_lt h]
theorem u_and {b : Bool} {x y : Nat} : sbin .and b (nv x) (nv y) = some (nv ((x % 18446744073709551616) &&& (y % 18446744073709551616))) := by
  have e : (BitVec.ofInt 64 (x : Int) &&& BitVec.ofInt 64 (y : Int)).toNat = (x % 18446744073709551616) &&& (y % 18446744073709551616) := by
    simp only [BitVec.ofInt_natCast, BitVec.toNat_and, BitVec.toNat_ofNat]
  have h : (x % 18446744073709551616) &&& (y % 18446744073709551616) < 18446744073709551616 := Nat.and_lt_two_pow (n := 64) _ (Nat.mod_lt _ (by decide))
  show some (V.lit (.int .u64 (IntKind.u64.wrap ((BitVec.ofInt 64 (x : Int) &&& BitVec.ofInt 64 (y : Int)).toNat : Int)))) = _
  rw [e, wrap_u64_mod, Nat.mod_eq_of_lt h]
theorem u_and32 {b : Bool} {x : Nat} : sbin .and b (nv x) (nv 4294967295) = some (nv (x % 4294967296)) := by
  rw [u_and]
  have h := Nat.and_two_pow_sub_one_eq_mod (x % 18446744073709551616) 32
  have e : (x % 18446744073709551616) &&& (4294967295 % 18446744073709551616) = x % 4294967296 := by
    rw [show (4294967295 % 18446744073709551616 : Nat) = 2 ^ 32 - 1 by decide, h]
    omega
  rw [e]
theorem pw32 : 2 ^ min 32 64 = 4294967296 := by decide
theorem pw16 : 2 ^ min 16 64 = 65536 := by decide
theorem pw8 : 2 ^ min 8 64 = 256 := by decide
theorem pw1 : 2 ^ min 1 64 = 2 := by decide
theorem c_iu {n : Int} : sconv .u64 (iv n) = if 0 ≤ n ∧ n < 18446744073709551616 then some (nv n.toNat) else none := Eq.trans rfl rfl
theorem c_ii {n : Int} : sconv .i64 (iv n) = if -9223372036854775808 ≤ n ∧ n < 9223372036854775808 then some (iv n) else none := Eq.trans rfl rfl
theorem c_ui {n : Nat} : sconv .i64 (nv n) = if n < 9223372036854775808 then some (iv n) else none := by
  simp only [sconv]
  by_cases h : n < 9223372036854775808
  · rw [if_pos h, if_pos (by omega)]
  · rw [if_neg h, if_neg (by omega)]
theorem c_uu {n : Nat} : sconv .u64 (nv n) = some (nv (n % 18446744073709551616)) := by simp only [sconv, wrap_u64_mod]

theorem c_u8 {n : Nat} : sconv .u8 (nv n) = some (.lit (.int .u8 ((n % 256 : Nat) : Int))) := by
  simp only [sconv]
  have : IntKind.u8.wrap (n : Int) = ((n % 256 : Nat) : Int) := by
    simp only [IntKind.wrap, IntKind.signed, IntKind.bits]
    simp
  rw [this]
theorem c_8i {n : Nat} (h : n < 256) : sconv .i64 (.lit (.int .u8 (n : Int))) = some (iv n) := by
  simp only [sconv]
  rw [wrap_i64 (by omega) (by omega)]
theorem six_tab {s : ByteArray} {x y : Nat} (h : (s[x]?).map UInt8.toNat = some y) : vsix (.lit (.string s)) (.lit (.int .u8 (x : Int))) = some (.lit (.int .u8 (y : Int))) := by
  simp only [vsix]
  rw [if_pos (by omega), Int.toNat_natCast]
  cases e : s[x]? with
  | none => rw [e] at h; cases h
  | some b =>
    rw [e] at h
    simp only [Option.map] at h ⊢
    cases h
    rfl
theorem e_add {x y z : Nat} : vext64 false (nv x) (nv y) (nv z) = if z ≤ 1 then some (.tup [nv ((x + y + z) % 18446744073709551616), nv ((x + y + z) / 18446744073709551616)]) else none := by
  simp only [vext64]
  by_cases h : z ≤ 1
  · rw [if_pos h, if_pos (by omega)]; simp only [Int.toNat_natCast, Bool.false_eq_true, if_false]
  · rw [if_neg h, if_neg (by omega)]
theorem e_sub {x y z : Nat} : vext64 true (nv x) (nv y) (nv z) = if z ≤ 1 then some (.tup [nv ((x + 18446744073709551616 - y - z) % 18446744073709551616), nv (if x < y + z then 1 else 0)]) else none := by
  simp only [vext64]
  by_cases h : z ≤ 1
  · rw [if_pos h, if_pos (by omega)]; simp only [Int.toNat_natCast, if_true]
  · rw [if_neg h, if_neg (by omega)]
theorem x_0 {a : V} {l : List V} : vext 0 (.tup (a :: l)) = some a := Eq.trans rfl rfl
theorem x_1 {a b : V} {l : List V} : vext 1 (.tup (a :: b :: l)) = some b := Eq.trans rfl rfl
theorem x_2 {a b c : V} {l : List V} : vext 2 (.tup (a :: b :: c :: l)) = some c := Eq.trans rfl rfl
theorem x_3 {a b c e : V} {l : List V} : vext 3 (.tup (a :: b :: c :: e :: l)) = some e := Eq.trans rfl rfl
theorem m_max {x y : Int} : vmm true (iv x) (iv y) = some (iv (max x y)) := by
  simp only [vmm, if_true]
  rw [show (if y > x then y else x) = max x y by omega]
theorem m_min {x y : Int} : vmm false (iv x) (iv y) = some (iv (min x y)) := by
  simp only [vmm, Bool.false_eq_true, if_false]
  rw [show (if y < x then y else x) = min x y by omega]
theorem p_pick {b : Bool} {x y : V} : vpick (bv b) x y = some (if b = true then x else y) := by cases b <;> rfl
theorem n_not {b : Bool} : vun .not (bv b) = some (bv (!b)) := Eq.trans rfl rfl
theorem l_nats {t : Tok} {l : List Nat} : vlen (nats t l) = some (iv (l.length : Int)) := by simp [vlen]
theorem l_nil {t : Tok} : vlen (.sl t 1 []) = some (iv 0) := by simp [vlen]
theorem l_buf {t off n sz : Nat} {cap : Option Nat} : vlen (.buf t off n cap sz) = some (iv (n : Int)) := Eq.trans rfl rfl
theorem a_nats {t : Tok} {l : List Nat} {i : Int} : vixa 1 (nats t l) (iv i) = if 0 ≤ i ∧ i.toNat < l.length then some (.eptr (l.map nv) i.toNat) else none := by
  simp [vixa]
theorem a_buf {t off n : Nat} {cap : Option Nat} {i : Int} : vixa 1 (.buf t off n cap 1) (iv i) = if 0 ≤ i ∧ i.toNat < n then some (.ptr t (off + i.toNat)) else none := by
  simp [vixa]
theorem d_nats {σ : Nat → Option Blk} {l : List Nat} {i : Nat} : vload σ none (.eptr (l.map nv) i) = if i < l.length then some (nv (l.getD i 0)) else none := by
  by_cases h : i < l.length <;> simp [vload, vpart, h]
def dload (b : Option Blk) (ag : Option Nat) (off : Nat) : Option V := match b with | some b => vpart b.cells off ag | none => none
theorem d_ptr {σ : Nat → Option Blk} {ag : Option Nat} {t off : Nat} : vload σ ag (.ptr t off) = dload (σ t) ag off := Eq.trans rfl rfl
theorem d_blk {l : List Nat} {i : Nat} : dload (nblk l) none i = if i < l.length then some (nv (l.getD i 0)) else none := by
  by_cases h : i < l.length <;> simp [dload, vpart, h]
def dstore (b : Option Blk) (σ : Nat → Option Blk) (t n off : Nat) (v : V) : Option (Nat → Option Blk) := match v.cellsB with
  | some cs => match b with | some b => if b.live = true ∧ cs.length = n ∧ off + n ≤ b.cells.length then some (supd σ t (some ⟨putCells b.cells off cs, true⟩)) else none | none => none
  | none => none
theorem t_ptr {σ : Nat → Option Blk} {t off n : Nat} {v : V} : vstore σ n (.ptr t off) v = dstore (σ t) σ t n off v := by
  unfold vstore dstore
  cases v.cellsB <;> rfl
theorem t_blk {σ : Nat → Option Blk} {l : List Nat} {t i x : Nat} : dstore (nblk l) σ t 1 i (nv x) = if i < l.length then some (supd σ t (nblk (l.set i x))) else none := by
  have e : putCells (l.map nv) i [nv x] = (l.set i x).map nv := by simp [putCells, List.map_set]
  have h0 : dstore (nblk l) σ t 1 i (nv x) = if true = true ∧ [nv x].length = 1 ∧ i + 1 ≤ (l.map nv).length then some (supd σ t (some ⟨putCells (l.map nv) i [nv x], true⟩)) else none := rfl
  rw [h0, e]
  by_cases h : i < l.length
  · rw [if_pos h, if_pos ⟨rfl, rfl, by simp; omega⟩]
  · rw [if_neg h, if_neg (by simp; omega)]

theorem cut0 (t : Tok) : t.cut 0 = t := by cases t <;> rfl
theorem z_h {t : Tok} {l : List Nat} {h : Int} : vslc 1 (nats t l) none (some (iv h)) none = if 0 ≤ h ∧ h ≤ l.length then some (nats t (l.take h.toNat)) else none := by
  simp [vslc, vnum, cut0]
  by_cases g : 0 ≤ h ∧ h ≤ l.length <;> simp [g, List.map_take]
theorem z_l {t : Tok} {l : List Nat} {a : Int} : vslc 1 (nats t l) (some (iv a)) none none = if 0 ≤ a ∧ a ≤ l.length then some (nats (t.cut a) (l.drop a.toNat)) else none := by
  simp [vslc, vnum]
  by_cases g : 0 ≤ a ∧ a ≤ l.length
  · simp only [g, if_true, and_self, List.map_drop]
    show some (V.sl (t.cut a) 1 _) = some (V.sl (t.cut a) 1 (List.map nv (List.drop a.toNat l)))
    rw [List.map_drop, List.take_of_length_le (by simp)]
  · simp only [g, if_false]
theorem z_lh {t : Tok} {l : List Nat} {a h : Int} : vslc 1 (nats t l) (some (iv a)) (some (iv h)) none = if 0 ≤ a ∧ a ≤ h ∧ h ≤ l.length then some (nats (t.cut a) ((l.drop a.toNat).take (h.toNat - a.toNat))) else none := by
  simp [vslc, vnum]
  by_cases g : 0 ≤ a ∧ a ≤ h ∧ h ≤ l.length <;> simp [g, List.map_take, List.map_drop]
theorem z_hm {t : Tok} {l : List Nat} {h m : Int} : vslc 1 (nats t l) none (some (iv h)) (some (iv m)) = if 0 ≤ h ∧ h ≤ m ∧ m ≤ l.length then some (nats t (l.take h.toNat)) else none := by
  simp [vslc, vnum, cut0]
  by_cases g : 0 ≤ h ∧ h ≤ m ∧ m ≤ l.length <;> simp [g, List.map_take]
theorem zb_h {t off n : Nat} {cap : Option Nat} {h : Int} : vslc 1 (.buf t off n cap 1) none (some (iv h)) none = if 0 ≤ h ∧ h ≤ capTop cap n then some (.buf t off h.toNat (newCap none cap ((capTop cap n).toNat)) 1) else none := by
  simp [vslc, vnum]
theorem zb_l {t off n : Nat} {cap : Option Nat} {a : Int} : vslc 1 (.buf t off n cap 1) (some (iv a)) none none = if 0 ≤ a ∧ a ≤ n ∧ (n : Int) ≤ capTop cap n then some (.buf t (off + a.toNat) (n - a.toNat) (newCap none cap ((capTop cap n).toNat - a.toNat)) 1) else none := by
  simp [vslc, vnum]
theorem zb_lh {t off n : Nat} {cap : Option Nat} {a h : Int} : vslc 1 (.buf t off n cap 1) (some (iv a)) (some (iv h)) none = if 0 ≤ a ∧ a ≤ h ∧ h ≤ capTop cap n then some (.buf t (off + a.toNat) (h.toNat - a.toNat) (newCap none cap ((capTop cap n).toNat - a.toNat)) 1) else none := by
  simp [vslc, vnum]

def condS (a : V) (p q : Prop) : Prop := ∃ b, a = bv b ∧ (b = true → p) ∧ (b = false → q)
theorem condS_bool {b : Bool} {p q : Prop} : condS (.lit (.bool b)) p q = ((b = true → p) ∧ (b = false → q)) := by
  cases b <;> simp [condS]
theorem condS_tt {p q : Prop} : condS (.lit (.bool true)) p q = p := by simp [condS]
theorem condS_ff {p q : Prop} : condS (.lit (.bool false)) p q = q := by simp [condS]
theorem condS_dec {t : Prop} [Decidable t] {p q : Prop} : condS (.lit (.bool (decide t))) p q = ((t → p) ∧ (¬ t → q)) := by
  rw [condS_bool]; simp
theorem condS_ndec {t : Prop} [Decidable t] {p q : Prop} : condS (.lit (.bool (!decide t))) p q = ((¬ t → p) ∧ (t → q)) := by
  rw [condS_bool]; simp
theorem condS_congr {a a' : V} {p q : Prop} (h : a = a') : condS a p q = condS a' p q := by rw [h]
attribute [congr] letS_congr movS_congr putS_congr whenS_congr condS_congr

section
variable {P : Program} {dr : Bool} {c0 : Nat} {ρ : Nat → V} {σ : Nat → Option Blk} {c i : Nat} {r : List VO} {K : VS → Prop}
theorem rept_nv (n : Nat) : rept [.int .u64 0] n = (List.replicate n 0).map nv := by
  induction n with
  | zero => rfl
  | succ n ih => simp only [rept, ih, List.replicate_succ, List.map_cons]; rfl
theorem s_mk {l q : X} {n m : Nat} (hl : l.ev ρ = iv n) (hq : q.ev ρ = iv m) (h1 : n ≤ m) (h2 : m ≤ 35184372088832)
    (hk : wps P dr c0 r ⟨upd ρ i (.buf c 0 n (some m) 1), supd σ c (nblk (List.replicate m 0)), c + 1⟩ K) : wps P dr c0 (⟨some i, .mk [.int .u64 0] 8 l q, none⟩ :: r) ⟨ρ, σ, c⟩ K := by
  refine s_eff rfl (by intros; exact fun h => by cases h) (by intros; exact fun h => by cases h) ⟨_, _, _, none, .mk hl hq h1 (by omega) (by omega), ?_⟩
  rw [show rept [.int .u64 0] m = (List.replicate m 0).map nv from rept_nv m]
  exact hk
theorem s_app0 {x : X} {t : Tok} {y : X} (h : x.ev ρ = nil1) {l : List Nat} (hy : y.ev ρ = nats t l) (hl : l.length ≤ 17592186044416)
    (h1 : l = [] → wps P dr c0 r ⟨upd ρ i nil1, σ, c⟩ K) (h2 : l ≠ [] → wps P dr c0 r ⟨upd ρ i (.buf c 0 l.length none 1), supd σ c (nblk l), c + 1⟩ K) :
    wps P dr c0 (⟨some i, .app 1 8 [.int .u64 0] x y, none⟩ :: r) ⟨ρ, σ, c⟩ K := by
  have hc : vcells 1 σ (y.ev ρ) = some (l.map nv) := by rw [hy]; cases t <;> rfl
  refine s_eff rfl (by intros; exact fun h => by cases h) (by intros; exact fun h => by cases h) ?_
  by_cases e : l = []
  · subst e
    exact ⟨_, _, _, none, .appNil0 h hc, h1 rfl⟩
  · have : 0 < l.length := List.length_pos_iff.2 e
    exact ⟨_, _, _, none, .appNil h hc (k := l.length) (by simp) this (by omega) (by omega), h2 e⟩
theorem s_bsl1 {x : X} {n : Nat} (h : x.ev ρ = nv n) (hk : wps P dr c0 r ⟨upd ρ i (nats (.id c) [n]), σ, c + 1⟩ K) : wps P dr c0 (⟨some i, .bsl true 1 1 [.int .u64 0] [(0, (1, x))], none⟩ :: r) ⟨ρ, σ, c⟩ K := by
  refine s_eff rfl (by intros; exact fun h => by cases h) (by intros; exact fun h => by cases h) ⟨_, _, _, none, .bsl (cs := [nv n]) ?_, hk⟩
  simp only [partsOf, List.map, h]
  rfl
end

section
variable {P : Program} {dr : Bool} {c0 : Nat} {S : VS} {r : List VO} {K : VS → Prop} {d : Option Nat} {i c : Nat} {ρ : Nat → V} {σ : Nat → Option Blk}
end

section
variable {P : Program} {c0 : Nat} {S : VS} {Q : VEx → VS → Prop} {x y : VC}
theorem v_reg {dr : Bool} {ops : List VO} (h : wps P dr c0 ops S (thenQ P c0 y Q .normal)) : VWP P c0 (.seq (.region dr ops) y) Q S := vwp_seq (vwp_region (wps_wpr h))
theorem v_last {dr : Bool} {ops : List VO} (h : wps P dr c0 ops S (Q .normal)) : VWP P c0 (.region dr ops) Q S := vwp_region (wps_wpr h)
theorem v_cond {a : X} {p q : VC} (h : condS (a.ev S.ρ) (VWP P c0 p Q S) (VWP P c0 q Q S)) : VWP P c0 (.cond a p q) Q S := by
  obtain ⟨b, e, h1, h2⟩ := h
  exact vwp_cond e h1 h2
theorem v_cut (M : VS → Prop) (h1 : VWP P c0 x (fun e S => e = .normal ∧ M S) S) (h2 : ∀ S, M S → VWP P c0 y Q S) : VWP P c0 (.seq x y) Q S := by
  refine vwp_seq (vwp_mono h1 ?_)
  rintro e S' ⟨rfl, h⟩
  rw [thenQ_normal]
  exact h2 S' h
theorem v_loop {id : Nat} {b : VC} (M : VS → Prop) (h1 : VWP P c0 (.loop b) (fun e S => e = .exit id ∧ M S) S) (h2 : ∀ S, M S → VWP P c0 y Q S) : VWP P c0 (.loop b) (blockQ id (thenQ P c0 y Q)) S := by
  refine vwp_mono h1 ?_
  rintro e S' ⟨rfl, h⟩
  rw [blockQ_exit, if_pos rfl, thenQ_normal]
  exact h2 S' h
def loopQ (id : Nat) (M : VS → Prop) (Q : VEx → VS → Prop) : VEx → VS → Prop
  | .exit j, S => j = id ∧ M S
  | .ret, S => Q .ret S
  | .normal, _ => False
theorem loopQ_exit {id j : Nat} {M : VS → Prop} {Q : VEx → VS → Prop} {S : VS} : loopQ id M Q (.exit j) S = (j = id ∧ M S) := Eq.trans rfl rfl
theorem loopQ_ret {id : Nat} {M : VS → Prop} {Q : VEx → VS → Prop} {S : VS} : loopQ id M Q .ret S = Q .ret S := Eq.trans rfl rfl
theorem v_loopR {id : Nat} {b : VC} (M : VS → Prop) (h1 : VWP P c0 (.loop b) (loopQ id M Q) S) (h2 : ∀ S, M S → VWP P c0 y Q S) : VWP P c0 (.loop b) (blockQ id (thenQ P c0 y Q)) S := by
  refine vwp_mono h1 ?_
  intro e S' h
  cases e with
  | normal => exact h.elim
  | exit j =>
    obtain ⟨rfl, h⟩ := h
    rw [blockQ_exit, if_pos rfl, thenQ_normal]
    exact h2 S' h
  | ret => rw [blockQ_ret, thenQ_ret]; exact h
end

theorem one_sl {t : Tok} {n : Nat} {l : List V} : (V.sl t n l).one = true := rfl
theorem one_lit {v : Value} : (V.lit v).one = true := rfl
section
variable {t a b d : Nat} {Q : V → Nat → Prop} {ρ : Nat → V} {σ : Nat → Option Blk} {c : Nat}
theorem ret_1 : retQ [.tmp t] Q .ret ⟨ρ, σ, c⟩ = ((ρ t).one = true ∧ Q (ρ t) c) := by
  rw [retQ_ret]
  refine propext ⟨?_, fun ⟨h, hq⟩ => ⟨ρ t, by simp [vresult, vresL, vres, h], hq⟩⟩
  rintro ⟨r, h, hq⟩
  by_cases g : (ρ t).one = true
  · simp [vresult, vresL, vres, g] at h; subst h; exact ⟨g, hq⟩
  · simp [vresult, vresL, vres, g] at h
theorem ret_2 : retQ [.tmp t, .tmp a] Q .ret ⟨ρ, σ, c⟩ = (((ρ t).one = true ∧ (ρ a).one = true) ∧ Q (.tup [ρ t, ρ a]) c) := by
  rw [retQ_ret]
  refine propext ⟨?_, fun ⟨⟨h, g⟩, hq⟩ => ⟨_, by simp [vresult, vresL, vres, h, g], hq⟩⟩
  rintro ⟨r, h, hq⟩
  by_cases g : (ρ t).one = true <;> by_cases g' : (ρ a).one = true
  · simp [vresult, vresL, vres, g, g'] at h; subst h; exact ⟨⟨g, g'⟩, hq⟩
  all_goals simp [vresult, vresL, vres, g, g'] at h
theorem ret_3 : retQ [.tmp t, .tmp a, .tmp b] Q .ret ⟨ρ, σ, c⟩ = (((ρ t).one = true ∧ (ρ a).one = true ∧ (ρ b).one = true) ∧ Q (.tup [ρ t, ρ a, ρ b]) c) := by
  rw [retQ_ret]
  refine propext ⟨?_, fun ⟨⟨h, g, g2⟩, hq⟩ => ⟨_, by simp [vresult, vresL, vres, h, g, g2], hq⟩⟩
  rintro ⟨r, h, hq⟩
  by_cases g : (ρ t).one = true <;> by_cases g' : (ρ a).one = true <;> by_cases g2 : (ρ b).one = true
  · simp [vresult, vresL, vres, g, g', g2] at h; subst h; exact ⟨⟨g, g', g2⟩, hq⟩
  all_goals simp [vresult, vresL, vres, g, g', g2] at h
theorem ret_0 : retQ [] Q .ret ⟨ρ, σ, c⟩ = Q (.tup []) c := by
  rw [retQ_ret]
  refine propext ⟨?_, fun hq => ⟨_, by simp [vresult, vresL], hq⟩⟩
  rintro ⟨r, h, hq⟩
  simp [vresult, vresL] at h; subst h; exact hq
theorem ret_n {rs : List VRes} {S : VS} : retQ rs Q .normal S = retQ rs Q .ret S := by rw [retQ_normal, retQ_ret]
end
theorem v_freeze {P : Program} {c0 : Nat} {Q : VEx → VS → Prop} {vc : VC} {ρ : Nat → V} {σ : Nat → Option Blk} {c : Nat} (i : Nat) {t off n : Nat} {cap : Option Nat} {l : List Nat} (hi : ρ i = .buf t off n cap 1) (ht : σ t = nblk l) (h0 : c0 ≤ t) (hb : off + n ≤ l.length)
    (h : VWP P c0 vc Q ⟨upd ρ i (nats (.id t) ((l.drop off).take n)), supd σ t (some ⟨l.map nv, false⟩), c⟩) (hoff : off = 0 := by rfl) : VWP P c0 vc Q ⟨ρ, σ, c⟩ := by
  subst hoff
  refine vwp_freeze i t 0 n 1 cap (l.map nv) hi ht h0 (by simpa using hb) ?_
  have e : (((l.map nv).drop 0).take (n * 1)).map V.solid = ((l.drop 0).take n).map nv := by
    have e1 : ∀ k : List Nat, (k.map nv).map V.solid = k.map nv := fun k => by rw [List.map_map]; rfl
    rw [Nat.mul_one, ← List.map_drop, ← List.map_take, e1]
  rw [e]
  exact h
def LitB (σ : Nat → Option Blk) : Prop := ∀ u k, σ u = some k → ∀ x ∈ k.cells, ∃ v, x = .lit v
theorem LitB.no : LitB noBlk := fun u k h => by cases h
theorem LitB.put {σ : Nat → Option Blk} (h : LitB σ) (t : Nat) (l : List Nat) (b : Bool) : LitB (supd σ t (some ⟨l.map nv, b⟩)) := by
  intro u k hk x hx
  simp only [supd] at hk
  split at hk
  · cases hk
    obtain ⟨n, _, rfl⟩ := List.mem_map.1 hx
    exact ⟨_, rfl⟩
  · exact h u k hk x hx
theorem thaw_lit (t : Nat) (v : Value) : V.thaw t (.lit v) = .lit v := rfl
theorem thaw_nil (t : Nat) (l : List Nat) : V.thaw t (nats .nil l) = nats .nil l := by
  have : V.still t 4 (nats .nil l) = true := by
    simp only [V.still, Tok.apart, Bool.true_and, List.all_eq_true, List.mem_map]
    rintro x ⟨n, _, rfl⟩
    rfl
  simp [V.thaw, this]
theorem beq_no {t u : Nat} (h : u ≠ t) : (!Nat.beq u t) = true := by
  cases e : Nat.beq u t with
  | false => rfl
  | true => exact absurd (Nat.eq_of_beq_eq_true e) h
theorem thaw_sub {t u : Nat} (h : u ≠ t) (l : List Nat) : V.thaw t (nats (.sub u) l) = nats (.sub u) l := by
  have : V.still t 4 (nats (.sub u) l) = true := by
    simp only [V.still, Tok.apart, Bool.and_eq_true, List.all_eq_true, List.mem_map]
    refine ⟨beq_no h, ?_⟩
    rintro x ⟨n, _, rfl⟩
    rfl
  simp [V.thaw, this]
theorem thaw_id {t u : Nat} (h : u ≠ t) (l : List Nat) : V.thaw t (nats (.id u) l) = nats (.id u) l := by
  have : V.still t 4 (nats (.id u) l) = true := by
    simp only [V.still, Tok.apart, Bool.and_eq_true, List.all_eq_true, List.mem_map]
    refine ⟨beq_no h, ?_⟩
    rintro x ⟨n, _, rfl⟩
    rfl
  simp [V.thaw, this]
theorem v_thaw {P : Program} {c0 : Nat} {Q : VEx → VS → Prop} {vc : VC} {ρ : Nat → V} {σ : Nat → Option Blk} {c : Nat} (i : Nat) {t : Nat} {l : List Nat} (hi : ρ i = nats (.id t) l) (h0 : c0 ≤ t) (hl : l ≠ []) (hσ : LitB σ)
    (h : VWP P c0 vc Q ⟨upd (fun j => (ρ j).thaw t) i (.buf t 0 l.length none 1), supd σ t (nblk l), c⟩) : VWP P c0 vc Q ⟨ρ, σ, c⟩ := by
  refine vwp_thaw i t l.length 1 (l.map nv) hi h0 (by simp) (by simpa using hl) (fun x hx => ?_) ?_
  · obtain ⟨n, _, rfl⟩ := List.mem_map.1 hx
    rfl
  · have e : (thawed ⟨ρ, σ, c⟩ i t l.length 1 (l.map nv)) = ⟨upd (fun j => (ρ j).thaw t) i (.buf t 0 l.length none 1), supd σ t (nblk l), c⟩ := by
      simp only [thawed, nblk]
      congr 1
      funext u
      simp only [supd]
      split
      · rfl
      · cases hk : σ u with
        | none => rfl
        | some k =>
          simp only [Option.map]
          have : k.cells.map (V.thaw t) = k.cells := by
            refine (List.map_congr_left fun x hx => ?_).trans (List.map_id _)
            obtain ⟨v, rfl⟩ := hσ u k hk x hx
            rfl
          rw [this]
    rw [e]
    exact h

def VSpecL (P : Program) (f : FuncId) (c : Nat) (σl : Nat → Option Blk) (xs : List V) (Q : V → (Nat → Option Blk) → Nat → Prop) : Prop :=
  ∃ r σ' c', c ≤ c' ∧ VCalls P f c σl xs r σ' c' ∧ (∀ s, σl s = none → σ' s = none) ∧ Q r σ' c'
def retL (rs : List VRes) (Q : V → (Nat → Option Blk) → Nat → Prop) : VEx → VS → Prop
  | .exit _, _ => False
  | _, S => ∃ r, vresult S rs = some r ∧ Q r S.σ S.c
def lentσ (σl σ : Nat → Option Blk) : Nat → Option Blk := fun t => match σl t with | some _ => σ t | none => none
theorem specL_mk {P : Program} (hm : P.follows .mixedOrders = true) {f : FuncId} {fn : Func} {code : Code} {vc : VC} {rs : List VRes} (hf : P.funcs[f]? = some fn) (hb : fn.body = some code) (hvc : resCode P fn.ntmps code = vc) (hrs : resResults P fn.results.toList = some rs)
    {c : Nat} {σl : Nat → Option Blk} {xs : List V} (hn : xs.length ≤ fn.ntmps) {Q : V → (Nat → Option Blk) → Nat → Prop} (h : VWP P c vc (retL rs fun r σ' c' => c ≤ c' ∧ Q r (lentσ σl σ') c') ⟨start xs, σl, c⟩) : VSpecL P f c σl xs Q := by
  obtain ⟨e, S', he, hq⟩ := h
  have key : ∀ r, vresult S' rs = some r → (e = .ret ∨ e = .normal) → VCalls P f c σl xs r (lentσ σl S'.σ) S'.c := fun r hr he' =>
    vcalls_of_exec hm hf hb hvc hrs hn he he' hr (fun t k h => by unfold lentσ at h; split at h; exact h; cases h) (fun t h => by
      unfold lentσ
      cases h' : σl t with
      | none => exact absurd h' h
      | some k => rfl)
  have hno : ∀ s, σl s = none → lentσ σl S'.σ s = none := fun s hs => by unfold lentσ; rw [hs]
  cases e with
  | normal => obtain ⟨r, hr, h1, h2⟩ := hq; exact ⟨r, _, S'.c, h1, key r hr (.inr rfl), hno, h2⟩
  | ret => obtain ⟨r, hr, h1, h2⟩ := hq; exact ⟨r, _, S'.c, h1, key r hr (.inl rfl), hno, h2⟩
  | exit id => exact hq.elim
section
variable {rs : List VRes} {Q : V → (Nat → Option Blk) → Nat → Prop} {ρ : Nat → V} {σ : Nat → Option Blk} {c : Nat} {t : Nat}
theorem retL_n {S : VS} : retL rs Q .normal S = retL rs Q .ret S := Eq.trans rfl rfl
theorem retL_0 : retL [] Q .ret ⟨ρ, σ, c⟩ = Q (.tup []) σ c := by
  refine propext ⟨?_, fun hq => ⟨_, by simp [vresult, vresL], hq⟩⟩
  rintro ⟨r, h, hq⟩
  simp [vresult, vresL] at h; subst h; exact hq
theorem retL_1 : retL [.tmp t] Q .ret ⟨ρ, σ, c⟩ = ((ρ t).one = true ∧ Q (ρ t) σ c) := by
  refine propext ⟨?_, fun ⟨h, hq⟩ => ⟨ρ t, by simp [vresult, vresL, vres, h], hq⟩⟩
  rintro ⟨r, h, hq⟩
  by_cases g : (ρ t).one = true
  · simp [vresult, vresL, vres, g] at h; subst h; exact ⟨g, hq⟩
  · simp [vresult, vresL, vres, g] at h
end
theorem lent_one (t : Nat) (b : Blk) (σ : Nat → Option Blk) : lentσ (supd noBlk t (some b)) σ t = σ t := by simp [lentσ, supd]

section
variable {P : Program} {c0 : Nat} {ρ : Nat → V} {σ : Nat → Option Blk} {c : Nat} {r : List VO} {K : VS → Prop} {d : Option Nat}
theorem s_call1 {f : FuncId} {xs : List X} {ys : List V} {Q : V → (Nat → Option Blk) → Nat → Prop} (t : Nat) {l : List Nat} (ht : σ t = nblk l) (hfree : ∀ s, c ≤ s → σ s = none)
    (h : VSpecL P f c (supd noBlk t (nblk l)) ys Q) (he : xs.map (X.ev ρ) = ys)
    (hk : ∀ v σ' c', c ≤ c' → Q v σ' c' → wps P false c0 r ⟨updo ρ d v, supd σ t (σ' t), c'⟩ K) : wps P false c0 (⟨d, .call f xs, none⟩ :: r) ⟨ρ, σ, c⟩ K := by
  obtain ⟨v, σ', c', h0, h1, h3, h2⟩ := h
  subst he
  show opS P false c0 (.call f xs) d _ _
  refine ⟨v, _, _, none, .call rfl ?_ h1, ?_⟩
  · intro s k hk'
    simp only [supd] at hk'
    split at hk'
    · rename_i e; subst e; cases hk'; exact ⟨ht, rfl⟩
    · cases hk'
  · have e : joinσ c σ (supd noBlk t (nblk l)) σ' = supd σ t (σ' t) := by
      funext s
      simp only [joinσ, supd]
      by_cases e : s = t
      · subst e; simp
      · simp only [e, if_false]
        by_cases g : c ≤ s
        · have : σ' s = none := h3 s (by simp [supd, e, noBlk])
          simp [g, this, hfree s g]
        · simp [g, noBlk]
    rw [e]
    exact hk v σ' c' h0 h2
theorem putCells_all : ∀ (xs l : List V) (i : Nat), i + xs.length ≤ l.length → putCells l i xs = l.take i ++ xs ++ l.drop (i + xs.length)
  | [], l, i, h => by simp [putCells]
  | x :: xs, l, i, h => by
    simp only [List.length_cons] at h
    rw [putCells, putCells_all xs (l.set i x) (i + 1) (by simp; omega)]
    rw [List.take_succ_eq_append_getElem (by simp; omega), List.take_set_of_le (Nat.le_refl i), List.drop_set_of_lt (by omega)]
    simp
    congr 1
    omega
theorem s_cpy {dr : Bool} {i : Nat} {x y : X} {t n : Nat} {cap : Option Nat} {l a : List Nat} {u : Tok} (hx : x.ev ρ = .buf t 0 n cap 1) (ht : σ t = nblk l) (hy : y.ev ρ = nats u a) (ha : a.length ≤ n) (hn : n ≤ l.length)
    (hk : wps P dr c0 r ⟨upd ρ i (iv a.length), supd σ t (nblk (a ++ l.drop a.length)), c⟩ K) : wps P dr c0 (⟨some i, .cpy 1 x y, none⟩ :: r) ⟨ρ, σ, c⟩ K := by
  have hc : vcells 1 σ (y.ev ρ) = some (a.map nv) := by rw [hy]; cases u <;> rfl
  refine s_eff rfl (by intros; exact fun h => by cases h) (by intros; exact fun h => by cases h) ⟨_, _, _, none, .cpy hx ht hc (m := a.length) (by simp) (by simp; omega), ?_⟩
  have e1 : min a.length n = a.length := Nat.min_eq_left ha
  have e2 : putCells (l.map nv) 0 ((a.map nv).take (min a.length n * 1)) = (a ++ l.drop a.length).map nv := by
    rw [e1, Nat.mul_one, List.take_of_length_le (by simp), putCells_all _ _ _ (by simp; omega)]
    simp [List.map_drop]
  rw [e2, e1]
  exact hk
end
theorem i_shr {b : Bool} {x : Nat} {y : Nat} : sbin .shr b (iv x) (iv y) = some (iv ((x / 2 ^ min y 64 : Nat) : Int)) := by
  show vbin .shr b (iv x) (iv y) = _
  simp only [vbin, vshift, BinOp.isShift, if_true, Option.map]
  rw [if_neg (by omega)]
  simp only [IntKind.bits, Int.toNat_natCast]
  rw [show Int.fdiv (x : Int) (2 ^ min y 64) = ((x / 2 ^ min y 64 : Nat) : Int) by rw [Int.fdiv_eq_ediv_of_nonneg _ (by apply Int.le_of_lt; apply Int.pow_pos; decide)]; push_cast; rfl]
theorem i_and1 {b : Bool} {x : Nat} : sbin .and b (iv x) (iv 1) = some (iv ((x % 2 : Nat) : Int)) := by
  have e : (BitVec.ofInt 64 (x : Int) &&& BitVec.ofInt 64 1).toNat = x % 2 := by
    simp only [BitVec.ofInt_natCast, BitVec.toNat_and, BitVec.toNat_ofNat]
    have h := Nat.and_two_pow_sub_one_eq_mod (x % 2 ^ 64) 1
    show (x % 2 ^ 64) &&& (2 ^ 1 - 1) = _
    rw [h]
    omega
  show some (V.lit (.int .i64 (IntKind.i64.wrap ((BitVec.ofInt 64 (x : Int) &&& BitVec.ofInt 64 1).toNat : Int)))) = _
  rw [e, wrap_i64 (by omega) (by omega)]
theorem vm : type_of% (And.intro @s_nil (And.intro @s_mov (And.intro @s_pick (And.intro @s_bin (And.intro @s_un (And.intro @s_conv (And.intro @s_len (And.intro @s_ixa (And.intro @s_axa (And.intro @s_aix (And.intro @s_six (And.intro @s_slc (And.intro @s_fa (And.intro @s_fld (And.intro @s_ext (And.intro @s_ext64 (And.intro @s_mm (And.intro @s_mkf (And.intro @s_load (And.intro @s_store (And.intro @s_guard (And.intro @g_tt (And.intro @g_tf (And.intro @g_ft (And.intro @g_ff (And.intro @g_no (And.intro @updo_some (And.intro @updo_none (And.intro @ev_t (And.intro @ev_c (And.intro @upd_app (And.intro @supd_app (And.intro @supd_two (And.intro @Int.toNat_natCast (And.intro @Nat.zero_add (And.intro @letS_some (And.intro @letS_if (And.intro @movS_eq (And.intro @putS_some (And.intro @putS_if (And.intro @condS_tt (And.intro @condS_ff (And.intro @condS_dec (And.intro @condS_ndec (And.intro @i_add (And.intro @i_sub (And.intro @i_mul (And.intro @i_quo (And.intro @i_rem (And.intro @i_eql (And.intro @i_neq (And.intro @i_lss (And.intro @i_leq (And.intro @i_gtr (And.intro @i_geq (And.intro @u_add (And.intro @u_sub (And.intro @u_mul (And.intro @u_quo (And.intro @u_rem (And.intro @u_eql (And.intro @u_neq (And.intro @u_lss (And.intro @u_leq (And.intro @u_gtr (And.intro @u_geq (And.intro @u_shl (And.intro @u_shr (And.intro @u_and32 (And.intro @pw32 (And.intro @pw16 (And.intro @pw8 (And.intro @pw1 (And.intro @ui_shl (And.intro @ui_shr (And.intro @c_iu (And.intro @c_ii (And.intro @c_ui (And.intro @c_uu (And.intro @c_u8 (And.intro @e_add (And.intro @e_sub (And.intro @x_0 (And.intro @x_1 (And.intro @x_2 (And.intro @x_3 (And.intro @m_max (And.intro @m_min (And.intro @p_pick (And.intro @n_not (And.intro @l_nats (And.intro @l_nil (And.intro @l_buf (And.intro @a_nats (And.intro @a_buf (And.intro @d_nats (And.intro @d_ptr (And.intro @d_blk (And.intro @t_ptr (And.intro @t_blk (And.intro @z_h (And.intro @z_l (And.intro @z_lh (And.intro @z_hm (And.intro @zb_h (And.intro @zb_l (And.intro @zb_lh (And.intro @start_nil (And.intro @start_zero (And.intro @start_one (And.intro @start_two (And.intro @start_three (And.intro @thenQ_normal (And.intro @thenQ_exit (And.intro @thenQ_ret (And.intro @blockQ_normal (And.intro @blockQ_exit (And.intro @blockQ_ret (And.intro @loopQ_exit (And.intro @loopQ_ret (And.intro @ret_0 (And.intro @ret_1 (And.intro @ret_2 (And.intro @ret_3 (And.intro @ret_n (And.intro @retL_n (And.intro @retL_0 (And.intro @retL_1 (And.intro @lent_one (And.intro @i_shr (And.intro @i_and1 (And.intro @one_sl (And.intro @one_lit (And.intro @decide_eq_true_eq (And.intro @decide_eq_false_iff_not (And.intro @Bool.not_eq_true (And.intro @decide_true (And.intro @decide_false (And.intro @Bool.not_true (And.intro @Bool.not_false (And.intro @Bool.false_eq_true (And.intro @not_true_eq_false (And.intro @not_false_eq_true (And.intro @and_true @true_and)))))))))))))))))))))))))))))))))))))))))))))))))))))))))))))))))))))))))))))))))))))))))))))))))))))))))))))))))))))))))))))))))))))))))))))))) :=
  (And.intro @s_nil (And.intro @s_mov (And.intro @s_pick (And.intro @s_bin (And.intro @s_un (And.intro @s_conv (And.intro @s_len (And.intro @s_ixa (And.intro @s_axa (And.intro @s_aix (And.intro @s_six (And.intro @s_slc (And.intro @s_fa (And.intro @s_fld (And.intro @s_ext (And.intro @s_ext64 (And.intro @s_mm (And.intro @s_mkf (And.intro @s_load (And.intro @s_store (And.intro @s_guard (And.intro @g_tt (And.intro @g_tf (And.intro @g_ft (And.intro @g_ff (And.intro @g_no (And.intro @updo_some (And.intro @updo_none (And.intro @ev_t (And.intro @ev_c (And.intro @upd_app (And.intro @supd_app (And.intro @supd_two (And.intro @Int.toNat_natCast (And.intro @Nat.zero_add (And.intro @letS_some (And.intro @letS_if (And.intro @movS_eq (And.intro @putS_some (And.intro @putS_if (And.intro @condS_tt (And.intro @condS_ff (And.intro @condS_dec (And.intro @condS_ndec (And.intro @i_add (And.intro @i_sub (And.intro @i_mul (And.intro @i_quo (And.intro @i_rem (And.intro @i_eql (And.intro @i_neq (And.intro @i_lss (And.intro @i_leq (And.intro @i_gtr (And.intro @i_geq (And.intro @u_add (And.intro @u_sub (And.intro @u_mul (And.intro @u_quo (And.intro @u_rem (And.intro @u_eql (And.intro @u_neq (And.intro @u_lss (And.intro @u_leq (And.intro @u_gtr (And.intro @u_geq (And.intro @u_shl (And.intro @u_shr (And.intro @u_and32 (And.intro @pw32 (And.intro @pw16 (And.intro @pw8 (And.intro @pw1 (And.intro @ui_shl (And.intro @ui_shr (And.intro @c_iu (And.intro @c_ii (And.intro @c_ui (And.intro @c_uu (And.intro @c_u8 (And.intro @e_add (And.intro @e_sub (And.intro @x_0 (And.intro @x_1 (And.intro @x_2 (And.intro @x_3 (And.intro @m_max (And.intro @m_min (And.intro @p_pick (And.intro @n_not (And.intro @l_nats (And.intro @l_nil (And.intro @l_buf (And.intro @a_nats (And.intro @a_buf (And.intro @d_nats (And.intro @d_ptr (And.intro @d_blk (And.intro @t_ptr (And.intro @t_blk (And.intro @z_h (And.intro @z_l (And.intro @z_lh (And.intro @z_hm (And.intro @zb_h (And.intro @zb_l (And.intro @zb_lh (And.intro @start_nil (And.intro @start_zero (And.intro @start_one (And.intro @start_two (And.intro @start_three (And.intro @thenQ_normal (And.intro @thenQ_exit (And.intro @thenQ_ret (And.intro @blockQ_normal (And.intro @blockQ_exit (And.intro @blockQ_ret (And.intro @loopQ_exit (And.intro @loopQ_ret (And.intro @ret_0 (And.intro @ret_1 (And.intro @ret_2 (And.intro @ret_3 (And.intro @ret_n (And.intro @retL_n (And.intro @retL_0 (And.intro @retL_1 (And.intro @lent_one (And.intro @i_shr (And.intro @i_and1 (And.intro @one_sl (And.intro @one_lit (And.intro @decide_eq_true_eq (And.intro @decide_eq_false_iff_not (And.intro @Bool.not_eq_true (And.intro @decide_true (And.intro @decide_false (And.intro @Bool.not_true (And.intro @Bool.not_false (And.intro @Bool.false_eq_true (And.intro @not_true_eq_false (And.intro @not_false_eq_true (And.intro @and_true @true_and))))))))))))))))))))))))))))))))))))))))))))))))))))))))))))))))))))))))))))))))))))))))))))))))))))))))))))))))))))))))))))))))))))))))))))))))
structure Hid (q : Prop) : Prop where
  out : q
theorem jn {p q : Prop} (h : p) (g : q) : p ∧ q := ⟨h, g⟩
theorem xS {p q : Prop} (h : q) (e : Hid q → p := by intro h0; simp only [vm, ite_true, ite_false, eq_self, reduceIte, Nat.reduceEqDiff, Option.map]; exact h0.out) : p := e ⟨h⟩
theorem xSF {f p q : Prop} (hf : f) (h : q) (e : f → Hid q → p := by intro f0 h0; simp only [vm, ite_true, ite_false, eq_self, reduceIte, Nat.reduceEqDiff, Option.map, f0]; exact h0.out) : p := e hf ⟨h⟩
theorem xR {p q : Prop} (h : q) (e : Hid q → p := by intro h0; (repeat (first | refine v_reg ?_ | refine v_last ?_ | refine vwp_seq ?_ | refine vwp_block ?_ | refine vwp_skip ?_ | refine vwp_exit ?_ | refine vwp_ret ?_ | refine v_cond ?_ | simp only [vm, ite_true, ite_false, eq_self, reduceIte, Nat.reduceEqDiff, Option.map] | refine And.intro (by omega) ?_)); exact h0.out) : p := e ⟨h⟩
theorem xRF {f p q : Prop} (hf : f) (h : q) (e : f → Hid q → p := by intro f0 h0; (repeat (first | refine v_reg ?_ | refine v_last ?_ | refine vwp_seq ?_ | refine vwp_block ?_ | refine vwp_skip ?_ | refine vwp_exit ?_ | refine vwp_ret ?_ | refine v_cond ?_ | simp only [vm, ite_true, ite_false, eq_self, reduceIte, Nat.reduceEqDiff, Option.map, f0] | refine And.intro (by omega) ?_)); exact h0.out) : p := e hf ⟨h⟩
theorem xG {p q : Prop} (h : q) (e : Hid q → p := by intro h0; (repeat (first | refine v_reg ?_ | refine v_last ?_ | refine vwp_seq ?_ | refine vwp_block ?_ | refine vwp_skip ?_ | refine vwp_exit ?_ | refine vwp_ret ?_ | refine v_cond ?_)); simp only [vm, ite_true, ite_false, eq_self, reduceIte, Nat.reduceEqDiff, Option.map]; exact h0.out) : p := e ⟨h⟩
theorem xGF {f p q : Prop} (hf : f) (h : q) (e : f → Hid q → p := by intro f0 h0; (repeat (first | refine v_reg ?_ | refine v_last ?_ | refine vwp_seq ?_ | refine vwp_block ?_ | refine vwp_skip ?_ | refine vwp_exit ?_ | refine vwp_ret ?_ | refine v_cond ?_)); simp only [vm, ite_true, ite_false, eq_self, reduceIte, Nat.reduceEqDiff, Option.map, f0]; exact h0.out) : p := e hf ⟨h⟩
theorem yS {p : Prop} (e : p := by simp only [vm, ite_true, ite_false, eq_self, reduceIte, Nat.reduceEqDiff, Option.map]) : p := e
theorem ySr {p : Prop} (e : p := by simp only [vm, ite_true, ite_false, eq_self, reduceIte, Nat.reduceEqDiff, Option.map]; rfl) : p := e
theorem ySF {f p : Prop} (hf : f) (e : f → p := by intro f0; simp only [vm, ite_true, ite_false, eq_self, reduceIte, Nat.reduceEqDiff, Option.map, f0]) : p := e hf
theorem ySrF {f p : Prop} (hf : f) (e : f → p := by intro f0; simp only [vm, ite_true, ite_false, eq_self, reduceIte, Nat.reduceEqDiff, Option.map, f0]; rfl) : p := e hf
theorem yM {p : Prop} (e : p := by simp only [vm, ite_true, ite_false, eq_self, reduceIte, Nat.reduceEqDiff, Option.map, List.map]) : p := e
theorem yMr {p : Prop} (e : p := by simp only [vm, ite_true, ite_false, eq_self, reduceIte, Nat.reduceEqDiff, Option.map, List.map]; rfl) : p := e
theorem yMF {f p : Prop} (hf : f) (e : f → p := by intro f0; simp only [vm, ite_true, ite_false, eq_self, reduceIte, Nat.reduceEqDiff, Option.map, List.map, f0]) : p := e hf
theorem yMrF {f p : Prop} (hf : f) (e : f → p := by intro f0; simp only [vm, ite_true, ite_false, eq_self, reduceIte, Nat.reduceEqDiff, Option.map, List.map, f0]; rfl) : p := e hf
end Go.VM
namespace Go.VM
open Go.RowKit Go.ChangeShapes Go.WideShapes Go.ChangeAt

structure Same (W W' : World) : Prop where
  os : W'.os = W.os
  output : W'.output = W.output
  size : W.heap.size ≤ W'.heap.size
  block : ∀ b, b < W.heap.size → W'.heap[b]? = W.heap[b]?

theorem Same.cell {W W' : World} (h : Same W W') {a : Addr} (ha : a.block < W.heap.size) : W'.cell? a = W.cell? a := World.cell?_of_block (h.block _ ha)
theorem Same.keptBut {W W' : World} (h : Same W W') (may : MemPlace → Prop) : W.keptBut W' may := by
  refine ⟨h.os, h.output, fun i hi => ?_⟩
  have := h.block i hi
  rw [this]
  cases e : W.heap[i]? with
  | none => rfl
  | some o => cases o <;> simp
theorem Same.frozen {W W' : World} (h : Same W W') (a : Addr) (ha : a.block < W.heap.size) : W'.frozen? a = W.frozen? a := by
  unfold World.frozen?
  rw [h.block _ ha]

theorem post_kept {H : Type} {enc : TypeId × Value → H} {P : Program} {f : Func} {s : ChangeSpec} {apart fresh handsOn again : Bool} {W W' : World} {args : Array Value} {v : Value} {ds gs : List (DataW H)} {before pa pv : List MemPlace}
    (hW : DataW.Whole enc P f.params.toList s.vars apart W args.toList ds gs before) (hs : Same W W')
    (hres : ∀ (b : Nat) (sp : Nat → Bool) (hd : Bool), DataW.TrodAll enc P W' b sp hd f.resultTypes.toList (v.resultList f.resultTypes.size) (s.fn H (ds ++ gs)).results [])
    (hargs : ∀ sp : Nat → Bool, (∀ p ∈ before, sp p.block = true) → DataW.TrodAll enc P W' 0 sp true f.params.toList args.toList (s.fn H (ds ++ gs)).args pa)
    (hvars : ∀ sp : Nat → Bool, (∀ p ∈ before, sp p.block = true) → DataW.TrodVars enc P W' sp s.vars (s.fn H (ds ++ gs)).vars pv)
    (hps : before = pa ++ pv)
    (hok : ∀ (j : Nat) (t : TypeId) (r : Value), f.resultTypes[j]? = some t → (v.resultList f.resultTypes.size)[j]? = some r → Value.okWide P W' .any 0 t r) :
    s.post enc P f apart fresh handsOn again W args v W' := by
  have old : ∀ p ∈ before, decide (p.block < W.heap.size) = true := fun p hp => by simpa using hW.lt p hp
  have inn : ∀ p ∈ before, p ∈ pa ∨ p ∈ pv := fun p hp => by rw [hps] at hp; exact List.mem_append.1 hp
  refine ⟨ds, gs, before, [], pa, pv, hW, hres _ _ _, hargs _ old, hvars _ old, World.keptBut_mono (fun p hp => ⟨hp, .inr (inn p hp)⟩) (hs.keptBut (· ∈ before)), fun _ => ⟨hok, ?_⟩⟩
  have hW2 := hW
  obtain ⟨_, _, _, _, _, hz, hn⟩ := hW2
  refine ⟨_, _, pa ++ pv, ⟨[] ++ pa, pv, trodAll_append (hargs _ (fun _ _ => rfl)) (hres _ _ _), hvars _ (fun _ _ => rfl), by simp, ?_, ?_⟩, ?_⟩
  · intro b off hp
    rw [← hps] at hp
    rw [hs.frozen _ (hW.lt _ hp)]
    exact hz b off hp
  · intro ha
    rw [← hps]
    exact hn ha
  · intro p hp _
    rw [hps]; exact hp

theorem calls_sameT {P : Program} {f : FuncId} {xs : List V} {r : V} {c' : Nat} {n : Nat} (h : VCallP P f n xs r c') (W : World) (μ : Nat → Nat) (hμ : ∀ t, t < n → μ t < W.heap.size) (vs : Array Value) (hnn : vs.size = xs.length)
    (ha : ∀ (j : Nat) (x : V) (v : Value), xs[j]? = some x → vs[j]? = some v → Rep W (fun b => b < W.heap.size) μ n x v) (hr : ∃ v0, r = .lit v0) (hg : ∀ g l, GT g = some l → g < W.heap.size ∧ ∃ arr T, W.heap[g]? = some (.cells arr T (0, 0)) ∧ Ones arr ∧ ∀ (j : Nat) (v : Value), l[j]? = some v → arr[j]? = some v := by intro g l h; cases h) :
    Calls P f vs W fun e W' => ∃ v, e = .returned v ∧ r = .lit v ∧ Same W W' := by
  have hM : ∀ b, b < W.heap.size → Ctx.M ⟨P, 0, W, fun _ => True, n, μ, noBlk, noGiv, noGv⟩ noBlk W μ b := fun b hb => .inl ⟨hb, trivial⟩
  refine Calls.mono (h W (fun _ => True) μ vs ?_ hnn fun j x v hx hv => ?_) ?_
  · refine ⟨⟨fun t ht => absurd rfl ht, fun t ht => absurd rfl ht, fun t t' ht => absurd rfl ht, fun t ht q => q.elim (fun q => absurd (hμ t ht) (Nat.not_lt.2 q)) (fun q => q.elim), fun b hb => hb.elim, fun t ht => absurd rfl ht, fun b hb => hb.elim, fun g l h => by obtain ⟨g1, g2⟩ := hg g l h; exact ⟨g1, trivial, g2⟩⟩, ⟨rfl, rfl, rfl, Nat.le_refl _, Grows.refl _, fun _ _ _ _ => rfl⟩, Nat.le_refl _, fun _ _ => rfl, fun t h1 h2 => absurd h2 (Nat.not_lt.2 h1), fun t t' h1 h2 => absurd h2 (Nat.not_lt.2 h1), fun t k hk => (by cases hk), fun t ht => absurd rfl ht, fun t k hk => (by cases hk)⟩
  · exact RepE.of_one ((ha j x v hx hv).mono (fun _ _ => rfl) hM (fun _ _ _ => rfl) (Nat.le_refl _))
  · rintro e W' ⟨v, μ', rfl, hm, hv⟩
    obtain ⟨v0, rfl⟩ := hr
    refine ⟨v, rfl, congrArg V.lit ?_, hm.moved.os, hm.moved.output, hm.moved.size, fun b hb => hm.moved.block b hb (fun q => q) (fun t ht => absurd rfl ht)⟩
    have := hv.one rfl
    cases this
    rfl

theorem rep_told {W : World} {l : List Nat} {v : Value} (h : Rep W (fun b => b < W.heap.size) (fun _ => 0) 0 (nats .unk l) v) :
    (∀ (μ : Nat → Nat) (n : Nat), Rep W (fun b => b < W.heap.size) μ n (nats .nil l) v) ∨ ∃ b, b < W.heap.size ∧ ∀ (μ : Nat → Nat) (n j : Nat), j < n → μ j = b → Rep W (fun b => b < W.heap.size) μ n (nats (.sub j) l) v := by
  generalize e : nats .unk l = x at h
  cases h with
  | any | lit | agg | tup => cases e
  | nil tk sz =>
    simp only [nats, V.sl.injEq] at e
    obtain ⟨_, rfl, e⟩ := e
    refine .inl fun μ n => ?_
    unfold nats
    rw [e]
    exact .nil .nil 1
  | sl tk sz m cap a l' vs ht hn hc hs hMb hcap h1 hl =>
    simp only [nats, V.sl.injEq] at e
    obtain ⟨rfl, rfl, rfl⟩ := e
    have hlit : ∀ (μ : Nat → Nat) (n j : Nat) (x : V), (l.map nv)[j]? = some x → Rep W (fun b => b < W.heap.size) μ n x (vs j) := fun μ n j x hx => by
      have := hl j x hx
      rw [List.getElem?_map] at hx
      obtain ⟨y, _, rfl⟩ := Option.map_eq_some_iff.1 hx
      generalize vs j = z at this ⊢
      cases this
      exact .lit _
    rcases Nat.eq_zero_or_pos (cap * 1) with h0 | h0
    · exact .inl fun μ n => .sl .nil 1 m cap a _ vs h0 hn hc hs hMb hcap h1 (hlit μ n)
    · exact .inr ⟨a.block, hMb h0, fun μ n j hj e => .sl (.sub j) 1 m cap a _ vs (fun _ => ⟨hj, e⟩) hn hc hs hMb hcap h1 (hlit μ n)⟩
def Told1 (n : Nat) (t : Tok) : Prop := t = .nil ∨ ∃ i, (t = .id i ∨ t = .sub i) ∧ i < n
theorem told_one {W : World} {l : List Nat} {v : Value} (h : Rep W (fun b => b < W.heap.size) (fun _ => 0) 0 (nats .unk l) v) :
    ∃ (n : Nat) (μ : Nat → Nat) (t : Tok), Told1 n t ∧ (∀ q, q < n → μ q < W.heap.size) ∧ Rep W (fun b => b < W.heap.size) μ n (nats t l) v := by
  rcases rep_told h with h | ⟨b, hb, h⟩
  · exact ⟨0, fun _ => 0, .nil, .inl rfl, fun q hq => absurd hq (Nat.not_lt_zero _), h _ _⟩
  · exact ⟨1, fun _ => b, .sub 0, .inr ⟨0, .inr rfl, by decide⟩, fun _ _ => hb, h _ _ 0 (by decide) rfl⟩
end Go.VM
namespace Go.VM

def val (b : Nat) : List Nat → Nat
  | [] => 0
  | x :: l => x + b * val b l
def Lim (b : Nat) (l : List Nat) : Prop := ∀ x, x ∈ l → x < b
def digsF (b : Nat) : Nat → Nat → List Nat
  | 0, _ => []
  | f + 1, n => if n = 0 then [] else n % b :: digsF b f (n / b)
def digs (b n : Nat) : List Nat := digsF b n n

theorem Lim.nil {b : Nat} : Lim b [] := fun _ h => by cases h
theorem Lim.cons {b x : Nat} {l : List Nat} (h : x < b) (hl : Lim b l) : Lim b (x :: l) := fun y hy => by
  rcases List.mem_cons.1 hy with rfl | hy
  · exact h
  · exact hl y hy
theorem Lim.head {b x : Nat} {l : List Nat} (h : Lim b (x :: l)) : x < b := h x (by simp)
theorem Lim.tail {b x : Nat} {l : List Nat} (h : Lim b (x :: l)) : Lim b l := fun y hy => h y (by simp [hy])
theorem Lim.append {b : Nat} {l m : List Nat} (h : Lim b l) (h' : Lim b m) : Lim b (l ++ m) := fun y hy => by
  rcases List.mem_append.1 hy with hy | hy
  · exact h y hy
  · exact h' y hy
theorem Lim.left {b : Nat} {l m : List Nat} (h : Lim b (l ++ m)) : Lim b l := fun y hy => h y (by simp [hy])
theorem Lim.right {b : Nat} {l m : List Nat} (h : Lim b (l ++ m)) : Lim b m := fun y hy => h y (by simp [hy])
theorem Lim.take {b k : Nat} {l : List Nat} (h : Lim b l) : Lim b (l.take k) := fun y hy => h y (List.mem_of_mem_take hy)
theorem Lim.drop {b k : Nat} {l : List Nat} (h : Lim b l) : Lim b (l.drop k) := fun y hy => h y (List.mem_of_mem_drop hy)
theorem Lim.set {b i x : Nat} {l : List Nat} (h : Lim b l) (hx : x < b) : Lim b (l.set i x) := fun y hy => by
  rcases List.mem_or_eq_of_mem_set hy with hy | rfl
  · exact h y hy
  · exact hx
theorem Lim.replicate {b k : Nat} (hb : 0 < b) : Lim b (List.replicate k 0) := fun y hy => by
  rw [List.eq_of_mem_replicate hy]; exact hb
theorem Lim.getD {b i : Nat} {l : List Nat} (h : Lim b l) (hb : 0 < b) : l.getD i 0 < b := by
  by_cases hi : i < l.length
  · rw [List.getD_eq_getElem?_getD, List.getElem?_eq_getElem hi]; exact h _ (List.getElem_mem hi)
  · rw [List.getD_eq_getElem?_getD, List.getElem?_eq_none (by omega)]; exact hb

theorem val_append (b : Nat) (l m : List Nat) : val b (l ++ m) = val b l + b ^ l.length * val b m := by
  induction l with
  | nil => simp [val]
  | cons x l ih =>
    simp only [List.cons_append, val, ih, List.length_cons, Nat.pow_succ]
    rw [Nat.mul_add, Nat.add_assoc, ← Nat.mul_assoc, Nat.mul_comm b (b ^ l.length)]
theorem val_lt {b : Nat} {l : List Nat} (h : Lim b l) : val b l < b ^ l.length := by
  induction l with
  | nil => simp [val]
  | cons x l ih =>
    have h1 := ih h.tail
    have h2 := h.head
    simp only [val, List.length_cons, Nat.pow_succ]
    calc x + b * val b l < b + b * val b l := by omega
      _ = b * (val b l + 1) := by rw [Nat.mul_add, Nat.mul_one, Nat.add_comm]
      _ ≤ b * b ^ l.length := Nat.mul_le_mul_left _ h1
      _ = b ^ l.length * b := Nat.mul_comm _ _
theorem val_replicate (b k : Nat) : val b (List.replicate k 0) = 0 := by
  induction k with
  | zero => rfl
  | succ k ih => simp [List.replicate_succ, val, ih]
theorem val_take_drop (b k : Nat) (l : List Nat) (h : k ≤ l.length) : val b l = val b (l.take k) + b ^ k * val b (l.drop k) := by
  have := val_append b (l.take k) (l.drop k)
  rw [List.take_append_drop, List.length_take, Nat.min_eq_left h] at this
  exact this
theorem val_set (b i x : Nat) (l : List Nat) (h : i < l.length) : val b (l.set i x) + b ^ i * l.getD i 0 = val b l + b ^ i * x := by
  induction l generalizing i with
  | nil => simp at h
  | cons y l ih =>
    cases i with
    | zero => simp [val]; omega
    | succ i =>
      have := ih i (by simpa using h)
      simp only [List.set_cons_succ, val, List.getD_cons_succ, Nat.pow_succ]
      have e : ∀ z : Nat, b ^ i * b * z = b * (b ^ i * z) := fun z => by rw [Nat.mul_comm (b ^ i) b, Nat.mul_assoc]
      rw [e, e, Nat.add_assoc, Nat.add_assoc, ← Nat.mul_add, ← Nat.mul_add, this]

theorem digsF_stable {b : Nat} (hb : 2 ≤ b) : ∀ (f g n : Nat), n ≤ f → n ≤ g → digsF b f n = digsF b g n
  | 0, 0, n, _, _ => rfl
  | 0, g + 1, n, h, _ => by
    have : n = 0 := by omega
    subst this; simp [digsF]
  | f + 1, 0, n, _, h => by
    have : n = 0 := by omega
    subst this; simp [digsF]
  | f + 1, g + 1, n, h1, h2 => by
    simp only [digsF]
    by_cases h : n = 0
    · simp [h]
    · have : n / b < n := Nat.div_lt_self (by omega) hb
      simp only [h, if_false]
      rw [digsF_stable hb f g (n / b) (by omega) (by omega)]
theorem digs_zero (b : Nat) : digs b 0 = [] := rfl
theorem digs_pos {b n : Nat} (hb : 2 ≤ b) (h : 0 < n) : digs b n = n % b :: digs b (n / b) := by
  unfold digs
  obtain ⟨m, rfl⟩ : ∃ m, n = m + 1 := ⟨n - 1, by omega⟩
  have h2 : (m + 1) / b < m + 1 := Nat.div_lt_self h hb
  conv => lhs; unfold digsF
  rw [if_neg (by omega), digsF_stable hb m ((m + 1) / b) _ (by omega) (by omega)]
theorem val_digs {b : Nat} (hb : 2 ≤ b) (n : Nat) : val b (digs b n) = n := by
  induction n using Nat.strongRecOn with
  | _ n ih =>
    by_cases h : n = 0
    · subst h; rfl
    · rw [digs_pos hb (by omega)]
      simp only [val]
      rw [ih (n / b) (Nat.div_lt_self (by omega) hb), Nat.mod_add_div]
theorem lim_digs {b : Nat} (hb : 2 ≤ b) (n : Nat) : Lim b (digs b n) := by
  induction n using Nat.strongRecOn with
  | _ n ih =>
    by_cases h : n = 0
    · subst h; exact .nil
    · rw [digs_pos hb (by omega)]
      exact .cons (Nat.mod_lt _ (by omega)) (ih _ (Nat.div_lt_self (by omega) hb))
def Norm (l : List Nat) : Prop := ∀ m x, l = m ++ [x] → x ≠ 0
theorem norm_nil : Norm [] := fun m x h => by simp at h
theorem norm_cons {x : Nat} {l : List Nat} (h : Norm l) (hx : l = [] → x ≠ 0) : Norm (x :: l) := by
  intro m y e
  cases m with
  | nil => simp at e; obtain ⟨rfl, rfl⟩ := e; exact hx rfl
  | cons z m => simp at e; exact h m y e.2
theorem norm_tail {x : Nat} {l : List Nat} (h : Norm (x :: l)) : Norm l := fun m y e => h (x :: m) y (by rw [e]; rfl)
theorem digs_norm {b : Nat} (hb : 2 ≤ b) (n : Nat) : Norm (digs b n) := by
  induction n using Nat.strongRecOn with
  | _ n ih =>
    by_cases h : n = 0
    · subst h; exact norm_nil
    · rw [digs_pos hb (by omega)]
      refine norm_cons (ih _ (Nat.div_lt_self (by omega) hb)) fun e h1 => ?_
      have h2 : n / b = 0 := by have := val_digs hb (n / b); rw [e] at this; exact this.symm
      have h3 := Nat.mod_add_div n b
      rw [h1, h2] at h3
      simp at h3
      omega
theorem norm_val_pos {b : Nat} (hb : 2 ≤ b) : ∀ {l : List Nat}, Norm l → l ≠ [] → 0 < val b l
  | [], _, h => absurd rfl h
  | [x], h, _ => by have := h [] x rfl; simp [val]; omega
  | x :: y :: l, h, _ => by
    have := norm_val_pos hb (norm_tail h) (by simp)
    rw [val]
    have : 0 < b * val b (y :: l) := Nat.mul_pos (by omega) this
    omega
theorem digs_val {b : Nat} (hb : 2 ≤ b) : ∀ {l : List Nat}, Lim b l → Norm l → digs b (val b l) = l
  | [], _, _ => rfl
  | x :: l, hl, hn => by
    have h1 : 0 < val b (x :: l) := norm_val_pos hb hn (by simp)
    rw [digs_pos hb h1]
    have hx := hl.head
    have e1 : val b (x :: l) % b = x := by rw [val, Nat.add_mul_mod_self_left, Nat.mod_eq_of_lt hx]
    have e2 : val b (x :: l) / b = val b l := by rw [val, Nat.add_mul_div_left _ _ (by omega), Nat.div_eq_of_lt hx, Nat.zero_add]
    rw [e1, e2, digs_val hb hl.tail (norm_tail hn)]

def trimL (l : List Nat) : List Nat := (l.reverse.dropWhile (· == 0)).reverse
theorem trimL_zero (l : List Nat) : trimL (l ++ [0]) = trimL l := by simp [trimL]
theorem trimL_pos (l : List Nat) (x : Nat) (h : x ≠ 0) : trimL (l ++ [x]) = l ++ [x] := by simp [trimL, h]
theorem snoc_cases (l : List Nat) : l = [] ∨ ∃ m x, l = m ++ [x] := by
  rcases List.eq_nil_or_concat l with h | ⟨m, x, h⟩
  · exact .inl h
  · exact .inr ⟨m, x, by simpa using h⟩
theorem val_snoc0 (b : Nat) (l : List Nat) : val b (l ++ [0]) = val b l := by rw [val_append]; simp [val]
theorem norm_snoc {l : List Nat} {x : Nat} (h : x ≠ 0) : Norm (l ++ [x]) := by
  intro m y e
  have := List.append_inj_right' e rfl
  simp at this
  rw [← this]; exact h
theorem trim_digs {b : Nat} (hb : 2 ≤ b) {l : List Nat} (h : Lim b l) : trimL l = digs b (val b l) := by
  generalize hn : l.length = n
  induction n generalizing l with
  | zero =>
    have : l = [] := List.eq_nil_of_length_eq_zero hn
    subst this; rfl
  | succ n ih =>
    rcases snoc_cases l with rfl | ⟨m, x, rfl⟩
    · rfl
    · by_cases hx : x = 0
      · subst hx
        rw [trimL_zero, val_snoc0]
        exact ih h.left (by simpa using hn)
      · rw [trimL_pos _ _ hx, digs_val hb h (norm_snoc hx)]
theorem trimL_len (l : List Nat) : (trimL l).length ≤ l.length := by
  unfold trimL
  rw [List.length_reverse]
  refine Nat.le_trans ((List.dropWhile_sublist _).length_le) ?_
  simp
theorem digs_len_le {b : Nat} (hb : 2 ≤ b) {l : List Nat} (h : Lim b l) : (digs b (val b l)).length ≤ l.length := by
  rw [← trim_digs hb h]; exact trimL_len l
theorem digs_len {b : Nat} (hb : 2 ≤ b) {n k : Nat} (h : n < b ^ k) : (digs b n).length ≤ k := by
  induction k generalizing n with
  | zero =>
    have : n = 0 := by simp at h; exact h
    subst this; simp [digs_zero]
  | succ k ih =>
    by_cases h0 : n = 0
    · subst h0; simp [digs_zero]
    · rw [digs_pos hb (by omega)]
      have : n / b < b ^ k := by rw [Nat.div_lt_iff_lt_mul (by omega)]; rw [Nat.pow_succ] at h; exact h
      have := ih this
      simp; exact this
theorem digs_len_lt {b : Nat} (hb : 2 ≤ b) {n k : Nat} (h : b ^ k ≤ n) : k < (digs b n).length := by
  by_cases g : k < (digs b n).length
  · exact g
  · have h1 := val_lt (lim_digs hb n)
    rw [val_digs hb] at h1
    have h2 : b ^ (digs b n).length ≤ b ^ k := Nat.pow_le_pow_right (by omega) (by omega)
    omega
theorem digs_eq_nil {b : Nat} (hb : 2 ≤ b) {n : Nat} : digs b n = [] ↔ n = 0 := by
  constructor
  · intro h; have := val_digs hb n; rw [h] at this; exact this.symm
  · rintro rfl; rfl
theorem digs_len_pos {b : Nat} (hb : 2 ≤ b) {n : Nat} (h : 0 < n) : b ^ ((digs b n).length - 1) ≤ n := by
  have hn : digs b n ≠ [] := fun e => by have := (digs_eq_nil hb).1 e; omega
  rcases Nat.lt_or_ge n (b ^ ((digs b n).length - 1)) with g | g
  · have := digs_len hb g
    have : 0 < (digs b n).length := List.length_pos_iff.2 hn
    omega
  · exact g
theorem val_inj {b : Nat} (hb : 2 ≤ b) {l m : List Nat} (h1 : Lim b l) (h2 : Lim b m) (he : l.length = m.length) (h : val b l = val b m) : l = m := by
  induction l generalizing m with
  | nil => exact (List.eq_nil_of_length_eq_zero (by simpa using he.symm)).symm
  | cons x l ih =>
    cases m with
    | nil => simp at he
    | cons y m =>
      simp only [val] at h
      have hx := h1.head
      have hy := h2.head
      have e1 : x = y := by
        have := congrArg (· % b) h
        simp only [Nat.add_mul_mod_self_left, Nat.mod_eq_of_lt hx, Nat.mod_eq_of_lt hy] at this
        exact this
      subst e1
      have : val b l = val b m := by
        have := Nat.add_left_cancel h
        exact Nat.eq_of_mul_eq_mul_left (by omega) this
      rw [ih h1.tail h2.tail (by simpa using he) this]

theorem getD_lt {l : List Nat} {i : Nat} (h : i < l.length) : l.getD i 0 = l[i] := by simp [List.getD, h]
theorem drop_cons {l : List Nat} {i : Nat} (h : i < l.length) : l.drop i = l.getD i 0 :: l.drop (i + 1) := by
  rw [getD_lt h]; exact List.drop_eq_getElem_cons h
theorem take_snoc {l : List Nat} {i : Nat} (h : i < l.length) : l.take (i + 1) = l.take i ++ [l.getD i 0] := by
  rw [getD_lt h, List.take_succ_eq_append_getElem h]
theorem val_drop {b : Nat} {l : List Nat} {i : Nat} (h : i < l.length) : val b (l.drop i) = l.getD i 0 + b * val b (l.drop (i + 1)) := by rw [drop_cons h, val]
theorem val_take {b : Nat} {l : List Nat} {i : Nat} (h : i < l.length) : val b (l.take (i + 1)) = val b (l.take i) + b ^ i * l.getD i 0 := by
  rw [take_snoc h, val_append]
  simp [val, List.length_take, Nat.min_eq_left (Nat.le_of_lt h)]
theorem val_lt_of_top {b : Nat} {l m : List Nat} {i : Nat} (hb : 2 ≤ b) (hl : Lim b l) (hm : Lim b m) (h1 : i < l.length) (h2 : i < m.length) (hle : l.length = m.length) (he : val b (l.drop (i + 1)) = val b (m.drop (i + 1))) (hlt : l.getD i 0 < m.getD i 0) : val b l < val b m := by
  have a1 := val_take_drop b i l (by omega)
  have a2 := val_take_drop b i m (by omega)
  rw [val_drop h1] at a1
  rw [val_drop h2, ← he] at a2
  have b1 := val_lt (hl.take (k := i))
  rw [List.length_take, Nat.min_eq_left (by omega)] at b1
  rw [a1, a2]
  have : b ^ i * (l.getD i 0 + 1 + b * val b (l.drop (i + 1))) ≤ b ^ i * (m.getD i 0 + b * val b (l.drop (i + 1))) := Nat.mul_le_mul_left _ (by omega)
  have e : b ^ i * (l.getD i 0 + 1 + b * val b (l.drop (i + 1))) = b ^ i * (l.getD i 0 + b * val b (l.drop (i + 1))) + b ^ i := by
    rw [show l.getD i 0 + 1 + b * val b (l.drop (i + 1)) = (l.getD i 0 + b * val b (l.drop (i + 1))) + 1 by omega, Nat.mul_add, Nat.mul_one]
  omega

def bl (n : Nat) : Nat := if n = 0 then 0 else n.log2 + 1
theorem bl_zero : bl 0 = 0 := rfl
theorem lt_bl (n : Nat) : n < 2 ^ bl n := by
  unfold bl
  split
  · rename_i h; subst h; decide
  · exact Nat.lt_log2_self
theorem bl_le {n k : Nat} (h : n < 2 ^ k) : bl n ≤ k := by
  unfold bl
  split
  · omega
  · rename_i h0; have := (Nat.log2_lt h0).2 h; omega
theorem lt_of_bl {n k : Nat} (h : bl n ≤ k) : n < 2 ^ k := Nat.lt_of_lt_of_le (lt_bl n) (Nat.pow_le_pow_right (by decide) h)
theorem bl_pos {n : Nat} (h : 0 < n) : 0 < bl n := by
  unfold bl; rw [if_neg (by omega)]; omega
theorem le_of_bl {n : Nat} (h : 0 < n) : 2 ^ (bl n - 1) ≤ n := by
  rcases Nat.lt_or_ge n (2 ^ (bl n - 1)) with g | g
  · have := bl_le g; have := bl_pos h; omega
  · exact g
theorem bl_mono {n m : Nat} (h : n ≤ m) : bl n ≤ bl m := bl_le (Nat.lt_of_le_of_lt h (lt_bl m))
theorem bl_eq_zero {n : Nat} : bl n = 0 ↔ n = 0 := by
  constructor
  · intro h
    rcases Nat.eq_zero_or_pos n with g | g
    · exact g
    · have := bl_pos g; omega
  · rintro rfl; rfl
theorem bl_eq {n k : Nat} (h1 : 2 ^ k ≤ n) (h2 : n < 2 ^ (k + 1)) : bl n = k + 1 := by
  have h3 := bl_le h2
  have h4 : ¬ bl n ≤ k := fun h => by have := lt_of_bl h; omega
  omega
theorem bl_top {k x r : Nat} (hx : 0 < x) (hr : r < 2 ^ k) : bl (r + 2 ^ k * x) = k + bl x := by
  have h1 := le_of_bl hx
  have h2 := lt_bl x
  have h3 := bl_pos hx
  have e : k + bl x = (k + (bl x - 1)) + 1 := by omega
  rw [e]
  refine bl_eq ?_ ?_
  · rw [Nat.pow_add]
    exact Nat.le_trans (Nat.mul_le_mul_left _ h1) (Nat.le_add_left _ _)
  · rw [show k + (bl x - 1) + 1 = k + bl x by omega, Nat.pow_add]
    have : 2 ^ k * (x + 1) ≤ 2 ^ k * 2 ^ bl x := Nat.mul_le_mul_left _ h2
    rw [Nat.mul_add, Nat.mul_one] at this
    omega
end Go.VM
namespace Go.VM
theorem bl_shift {x k : Nat} (h : 2 ^ k ≤ x) : bl x = k + bl (x / 2 ^ k) := by
  have h1 : 0 < x / 2 ^ k := Nat.div_pos h (Nat.two_pow_pos k)
  have h2 := bl_top h1 (Nat.mod_lt x (Nat.two_pow_pos k))
  rw [Nat.mod_add_div] at h2
  exact h2
def blTab (s : ByteArray) : Bool := (List.range 256).all fun x => (s[x]?).map UInt8.toNat == some (bl x)
theorem blTab_at {s : ByteArray} (h : blTab s = true) {x : Nat} (hx : x < 256) : (s[x]?).map UInt8.toNat = some (bl x) := by
  unfold blTab at h
  rw [List.all_eq_true] at h
  have := h x (List.mem_range.2 hx)
  simpa using this
theorem snoc_of_ne {l : List Nat} (h : l ≠ []) : ∃ m x, l = m ++ [x] := by
  rcases snoc_cases l with e | e
  · exact absurd e h
  · exact e
theorem pow64 (k : Nat) : (18446744073709551616 : Nat) ^ k = 2 ^ (64 * k) := by rw [Nat.pow_mul]
theorem pow32 (k : Nat) : (4294967296 : Nat) ^ k = 2 ^ (32 * k) := by rw [Nat.pow_mul]
theorem bl_digs64 {n : Nat} {m : List Nat} {x : Nat} (h : digs 18446744073709551616 n = m ++ [x]) : x ≠ 0 ∧ x < 18446744073709551616 ∧ bl n = 64 * m.length + bl x := by
  have two : 2 ≤ 18446744073709551616 := by decide
  have h1 := digs_norm two n m x h
  have h2 := lim_digs two n
  rw [h] at h2
  have h3 := val_digs two n
  rw [h, val_append, pow64] at h3
  simp only [val, Nat.mul_zero, Nat.add_zero] at h3
  have h4 := val_lt h2.left
  rw [pow64] at h4
  refine ⟨h1, h2.right x (by simp), ?_⟩
  rw [← h3, bl_top (by omega) h4]
theorem bl_digs32 {n : Nat} {m : List Nat} {x : Nat} (h : digs 4294967296 n = m ++ [x]) : x ≠ 0 ∧ x < 4294967296 ∧ bl n = 32 * m.length + bl x := by
  have two : 2 ≤ 4294967296 := by decide
  have h1 := digs_norm two n m x h
  have h2 := lim_digs two n
  rw [h] at h2
  have h3 := val_digs two n
  rw [h, val_append, pow32] at h3
  simp only [val, Nat.mul_zero, Nat.add_zero] at h3
  have h4 := val_lt h2.left
  rw [pow32] at h4
  refine ⟨h1, h2.right x (by simp), ?_⟩
  rw [← h3, bl_top (by omega) h4]
end Go.VM
namespace Go.VM
theorem lt_of_len {b m n : Nat} (hb : 2 ≤ b) (h : (digs b m).length < (digs b n).length) : m < n := by
  rcases Nat.lt_or_ge m n with g | g
  · exact g
  · rcases Nat.eq_zero_or_pos n with e | e
    · subst e; simp [digs_zero] at h
    · have h1 := digs_len_pos hb e
      have h2 := digs_len_lt hb (Nat.le_trans h1 g)
      omega
end Go.VM
namespace Go.VM
theorem set_fill (w : List Nat) (m v : Nat) : (w ++ List.replicate (m + 1) 0).set w.length v = (w ++ [v]) ++ List.replicate m 0 := by
  rw [List.set_append_right _ _ (Nat.le_refl _), Nat.sub_self, List.replicate_succ, List.set_cons_zero, List.append_assoc]; rfl
theorem val_take' (b : Nat) (l : List Nat) (i : Nat) : val b (l.take (i + 1)) = val b (l.take i) + b ^ i * l.getD i 0 := by
  by_cases h : i < l.length
  · exact val_take h
  · rw [List.take_of_length_le (by omega), List.take_of_length_le (by omega), List.getD_eq_getElem?_getD, List.getElem?_eq_none (by omega)]; simp
theorem val_take_all (b : Nat) (l : List Nat) (i : Nat) (h : l.length ≤ i) : val b (l.take i) = val b l := by rw [List.take_of_length_le h]
theorem getD_ge {l : List Nat} {i : Nat} (h : l.length ≤ i) : l.getD i 0 = 0 := by rw [List.getD_eq_getElem?_getD, List.getElem?_eq_none h]; rfl
theorem add_step {b i c m : Nat} {w : List Nat} {A : Nat} (hw : w.length = i) (h : val b w + b ^ i * c = A) :
    val b (w ++ [(m + c) % b]) + b ^ (i + 1) * ((m + c) / b) = A + b ^ i * m := by
  rw [val_append, hw, Nat.pow_succ, Nat.mul_assoc, Nat.add_assoc]
  simp only [val, Nat.mul_zero, Nat.add_zero]
  rw [← Nat.mul_add, Nat.mod_add_div, Nat.mul_add, ← h]
  omega
theorem lim_snoc {b v : Nat} {w : List Nat} (h : Lim b w) (hv : v < b) : Lim b (w ++ [v]) := h.append (.cons hv .nil)
end Go.VM
namespace Go.VM
theorem sub_step {b i c c' x y d A B : Nat} {w : List Nat} (hw : w.length = i) (h : val b w + B = A + b ^ i * c) (hd : d + y + c = x + b * c') :
    val b (w ++ [d]) + (B + b ^ i * y) = A + b ^ i * x + b ^ (i + 1) * c' := by
  rw [val_append, hw, Nat.pow_succ, Nat.mul_assoc]
  simp only [val, Nat.mul_zero, Nat.add_zero]
  have e1 : b ^ i * (d + y + c) = b ^ i * (x + b * c') := by rw [hd]
  simp only [Nat.mul_add] at e1
  omega
end Go.VM
namespace Go.VM
theorem le_len {b m n : Nat} (hb : 2 ≤ b) (h : m ≤ n) : (digs b m).length ≤ (digs b n).length := by
  rcases Nat.lt_or_ge (digs b n).length (digs b m).length with g | g
  · have := lt_of_len hb g; omega
  · exact g
theorem mul_step (x m c : Nat) : (x * m % 18446744073709551616 + c) % 18446744073709551616 = (x * m + c) % 18446744073709551616 ∧ x * m / 18446744073709551616 + (x * m % 18446744073709551616 + c) / 18446744073709551616 = (x * m + c) / 18446744073709551616 := by
  generalize x * m = p
  constructor <;> omega
theorem mul_step_lt {x m c : Nat} (hx : x < 18446744073709551616) (hm : m < 18446744073709551616) (hc : c < 18446744073709551616) : (x * m + c) / 18446744073709551616 < 18446744073709551616 := by
  have : x * m ≤ 18446744073709551615 * 18446744073709551615 := Nat.mul_le_mul (by omega) (by omega)
  omega
end Go.VM
namespace Go.VM
theorem addAt_step {b i k y c L Y : Nat} {w : List Nat} (hi : i < w.length) (hk : k ≤ i) (h : val b w + b ^ i * c = L + b ^ k * Y) (x : Nat) (hx : w.getD i 0 = x) :
    val b (w.set i ((x + y + c) % b)) + b ^ (i + 1) * ((x + y + c) / b) = L + b ^ k * (Y + b ^ (i - k) * y) := by
  have h1 := val_set b i ((x + y + c) % b) w hi
  rw [hx] at h1
  have h2 := Nat.mod_add_div (x + y + c) b
  have e1 : b ^ (i + 1) * ((x + y + c) / b) = b ^ i * (b * ((x + y + c) / b)) := by rw [Nat.pow_succ, Nat.mul_assoc]
  have e2 : b ^ k * (Y + b ^ (i - k) * y) = b ^ k * Y + b ^ i * y := by
    rw [Nat.mul_add, ← Nat.mul_assoc, ← Nat.pow_add, show k + (i - k) = i by omega]
  have e3 : b ^ i * ((x + y + c) % b) + b ^ i * (b * ((x + y + c) / b)) = b ^ i * x + b ^ i * y + b ^ i * c := by
    rw [← Nat.mul_add, h2, Nat.mul_add, Nat.mul_add]
  rw [e1, e2]
  generalize b ^ i * ((x + y + c) % b) = p1 at *
  generalize b ^ i * (b * ((x + y + c) / b)) = p2 at *
  generalize b ^ i * x = p3 at *
  generalize b ^ i * y = p4 at *
  generalize b ^ i * c = p5 at *
  generalize b ^ k * Y = p6 at *
  omega
theorem addAt_end {b i k c n L : Nat} {w y : List Nat} (hb : 2 ≤ b) (hn : n ≤ i) (hk : k ≤ i) (h : val b w + b ^ i * c = L + b ^ k * val b (y.take (i - k))) (hroom : L + b ^ k * val b y < b ^ n) :
    val b w = L + b ^ k * val b y := by
  have hpow : b ^ n ≤ b ^ i := Nat.pow_le_pow_right (by omega) hn
  have hpos : 0 < b ^ i := Nat.pow_pos (by omega)
  have hy : val b (y.take (i - k)) ≤ val b y ∧ (val b (y.take (i - k)) ≠ val b y → b ^ i ≤ b ^ k * val b y) := by
    by_cases g : i - k ≤ y.length
    · have h1 := val_take_drop b (i - k) y g
      refine ⟨by rw [h1]; exact Nat.le_add_right _ _, fun hne => ?_⟩
      have h2 : 0 < val b (y.drop (i - k)) := by
        rcases Nat.eq_zero_or_pos (val b (y.drop (i - k))) with e | e
        · rw [e, Nat.mul_zero, Nat.add_zero] at h1; exact absurd h1.symm hne
        · exact e
      have h3 : b ^ (i - k) * 1 ≤ b ^ (i - k) * val b (y.drop (i - k)) := Nat.mul_le_mul_left _ h2
      have h4 : b ^ (i - k) ≤ val b y := by omega
      have h5 := Nat.mul_le_mul_left (b ^ k) h4
      rw [← Nat.pow_add, show k + (i - k) = i by omega] at h5
      exact h5
    · rw [List.take_of_length_le (by omega)]
      exact ⟨Nat.le_refl _, fun h => absurd rfl h⟩
  have heq : val b (y.take (i - k)) = val b y := by
    by_cases e : val b (y.take (i - k)) = val b y
    · exact e
    · have := hy.2 e
      omega
  rw [heq] at h
  have hc : c = 0 := by
    rcases Nat.eq_zero_or_pos c with e | e
    · exact e
    · have := Nat.mul_le_mul_left (b ^ i) (show 1 ≤ c from e)
      omega
  subst hc
  omega
end Go.VM
namespace Go.VM
theorem slice_snoc {a : List Nat} {f k : Nat} (h1 : f ≤ k) (h2 : k < a.length) : (a.drop f).take (k + 1 - f) = (a.drop f).take (k - f) ++ [a.getD k 0] := by
  have hi : k - f < (a.drop f).length := by simp; omega
  rw [show k + 1 - f = k - f + 1 by omega, take_snoc hi]
  congr 2
  rw [getD_lt hi, getD_lt h2, List.getElem_drop]
  congr 1
  omega
end Go.VM
namespace Go.VM
theorem school_step {p c o : Nat} (hp : p ≤ 18446744073709551615 * 18446744073709551615) (hc : c < 18446744073709551616) (ho : o < 18446744073709551616) :
    (o + (p % 18446744073709551616 + c) % 18446744073709551616) % 18446744073709551616 = (o + p + c) % 18446744073709551616 ∧
    ((p / 18446744073709551616 + (p % 18446744073709551616 + c) / 18446744073709551616) % 18446744073709551616 + (o + (p % 18446744073709551616 + c) % 18446744073709551616) / 18446744073709551616) % 18446744073709551616 = (o + p + c) / 18446744073709551616 ∧ (o + p + c) / 18446744073709551616 < 18446744073709551616 := by
  refine ⟨?_, ?_, ?_⟩ <;> omega
theorem mul_le_max {x y : Nat} (hx : x < 18446744073709551616) (hy : y < 18446744073709551616) : x * y ≤ 18446744073709551615 * 18446744073709551615 := Nat.mul_le_mul (by omega) (by omega)
theorem getD_append_left {l m : List Nat} {i : Nat} (h : i < l.length) : (l ++ m).getD i 0 = l.getD i 0 := by
  simp [List.getD, List.getElem?_append_left h]
end Go.VM
namespace Go.VM
section
variable {b n u v v1 v0 q r : Nat}
theorem kd_up (hb : 0 < b) (hu : u < b) (hv : v = v1 * b + v0) (h1 : 0 < v1) : (n * b + u) / v ≤ n / v1 := by
  rw [Nat.le_div_iff_mul_le h1]
  have hvp : 0 < v := by rw [hv]; have := Nat.mul_pos h1 hb; omega
  have h2 : (n * b + u) / v * v ≤ n * b + u := Nat.div_mul_le_self _ _
  generalize (n * b + u) / v = Q at *
  rw [hv, Nat.mul_add, ← Nat.mul_assoc] at h2
  have h3 : Q * v1 * b < (n + 1) * b := by rw [Nat.add_mul, Nat.one_mul]; omega
  have := Nat.lt_of_mul_lt_mul_right h3
  omega
theorem kd_lt (hb : 0 < b) (hu : u < b) (hn : n < v) : (n * b + u) / v < b := by
  rw [Nat.div_lt_iff_lt_mul (by omega)]
  have : (n + 1) * b ≤ v * b := Nat.mul_le_mul_right _ hn
  rw [Nat.add_mul, Nat.one_mul] at this
  rw [Nat.mul_comm b v]
  omega
theorem kd_dec (hb : 0 < b) (hu : u < b) (hv : v = v1 * b + v0) (h1 : 0 < v1) (hn : n < v) (he : q * v1 + r = n) (hc : b ≤ q ∨ b * r + u < q * v0) : (n * b + u) / v < q := by
  rcases hc with hc | hc
  · exact Nat.lt_of_lt_of_le (kd_lt hb hu hn) hc
  · have hvp : 0 < v := by rw [hv]; have := Nat.mul_pos h1 hb; omega
    rw [Nat.div_lt_iff_lt_mul hvp, hv, Nat.mul_add, ← he, Nat.add_mul, ← Nat.mul_assoc, Nat.mul_comm r b]
    omega
theorem kd_le (hb : 0 < b) (hv : v = v1 * b + v0) (h1 : 0 < v1) (he : q * v1 + r = n) (hc : q * v0 ≤ b * r + u) : q ≤ (n * b + u) / v := by
  have hvp : 0 < v := by rw [hv]; have := Nat.mul_pos h1 hb; omega
  rw [Nat.le_div_iff_mul_le hvp, hv, Nat.mul_add, ← he, Nat.add_mul, ← Nat.mul_assoc, Nat.mul_comm r b]
  omega
theorem kd_big (hb : 0 < b) (hv : v = v1 * b + v0) (h1 : 0 < v1) (h0 : v0 < b) (he : q * v1 + r = n) (hq : q ≤ b) (hr : b ≤ r) : q ≤ (n * b + u) / v := by
  refine kd_le hb hv h1 he ?_
  have h2 : q * v0 ≤ b * v0 := Nat.mul_le_mul_right _ hq
  have h3 : b * v0 ≤ b * r := Nat.mul_le_mul_left _ (by omega)
  omega
end
theorem kd_first {n v v1 v0 : Nat} (hv : v = v1 * 4294967296 + v0) (h1 : 2147483648 ≤ v1) (h0 : v0 < 4294967296) (hn : n < v) : n / v1 ≤ 4294967297 := by
  have h : n / v1 < 4294967298 := by
    rw [Nat.div_lt_iff_lt_mul (by omega)]
    omega
  omega
theorem kd_rest0 {N u p r : Nat} (h : p + r = N + u) (hr : r < 18446744073709551616) :
    ((N % 18446744073709551616 + u) % 18446744073709551616 + (18446744073709551616 - p % 18446744073709551616 % 18446744073709551616)) % 18446744073709551616 = r := by omega
theorem kd_rest {n u v q : Nat} (hq : q = (n * 4294967296 + u) / v) (hv : v < 18446744073709551616) (hv0 : 0 < v) :
    ((n * 4294967296 % 18446744073709551616 + u) % 18446744073709551616 + (18446744073709551616 - q * v % 18446744073709551616 % 18446744073709551616)) % 18446744073709551616 = (n * 4294967296 + u) % v := by
  refine kd_rest0 ?_ (Nat.lt_trans (Nat.mod_lt (n * 4294967296 + u) hv0) hv)
  have := Nat.div_add_mod (n * 4294967296 + u) v
  rw [← hq] at this
  rw [Nat.mul_comm q v]
  exact this
theorem kd_two0 {h l v q1 r1 q0 r0 : Nat} (hv : 0 < v) (e1 : v * q1 + r1 = h * 4294967296 + l / 4294967296) (e2 : v * q0 + r0 = r1 * 4294967296 + l % 4294967296) (e4 : r0 < v) :
    q1 * 4294967296 + q0 = (h * 18446744073709551616 + l) / v ∧ r0 = (h * 18446744073709551616 + l) % v := by
  have e3 : h * 18446744073709551616 + l = v * (q1 * 4294967296 + q0) + r0 := by
    rw [Nat.mul_add, ← Nat.mul_assoc]
    generalize v * q1 = p at *
    generalize v * q0 = p' at *
    omega
  rw [e3]
  refine ⟨?_, ?_⟩
  · rw [Nat.mul_add_div hv, Nat.div_eq_of_lt e4, Nat.add_zero]
  · rw [Nat.mul_add_mod, Nat.mod_eq_of_lt e4]
theorem kd_two {h l v : Nat} (hv : 0 < v) (hl : l < 18446744073709551616) :
    ((h * 4294967296 + l / 4294967296) / v) * 4294967296 + (((h * 4294967296 + l / 4294967296) % v) * 4294967296 + l % 4294967296) / v = (h * 18446744073709551616 + l) / v ∧
    (((h * 4294967296 + l / 4294967296) % v) * 4294967296 + l % 4294967296) % v = (h * 18446744073709551616 + l) % v := by
  have e1 := Nat.div_add_mod (h * 4294967296 + l / 4294967296) v
  have e2 := Nat.div_add_mod ((h * 4294967296 + l / 4294967296) % v * 4294967296 + l % 4294967296) v
  have e4 := Nat.mod_lt ((h * 4294967296 + l / 4294967296) % v * 4294967296 + l % 4294967296) hv
  exact kd_two0 hv e1 e2 e4
end Go.VM
namespace Go.VM
theorem norm_shift {y : Nat} (h0 : 0 < y) (h : y < 18446744073709551616) : y * 2 ^ (64 - bl y) < 18446744073709551616 ∧ 9223372036854775808 ≤ y * 2 ^ (64 - bl y) := by
  have h1 := lt_bl y
  have h2 := le_of_bl h0
  have h3 : bl y ≤ 64 := bl_le h
  have h4 := bl_pos h0
  constructor
  · have : y * 2 ^ (64 - bl y) < 2 ^ bl y * 2 ^ (64 - bl y) := Nat.mul_lt_mul_of_pos_right h1 (Nat.two_pow_pos _)
    rw [← Nat.pow_add, show bl y + (64 - bl y) = 64 by omega] at this
    exact this
  · have : 2 ^ (bl y - 1) * 2 ^ (64 - bl y) ≤ y * 2 ^ (64 - bl y) := Nat.mul_le_mul_right _ h2
    rw [← Nat.pow_add, show bl y - 1 + (64 - bl y) = 63 by omega] at this
    exact this
theorem shift_two {hi lo s : Nat} (hs : s ≤ 64) (hlo : lo < 18446744073709551616) :
    lo / 2 ^ (64 - s) < 2 ^ s ∧ (hi * 18446744073709551616 + lo) * 2 ^ s = (hi * 2 ^ s + lo / 2 ^ (64 - s)) * 18446744073709551616 + lo * 2 ^ s % 18446744073709551616 := by
  have e : (18446744073709551616 : Nat) = 2 ^ (64 - s) * 2 ^ s := by rw [← Nat.pow_add, show 64 - s + s = 64 by omega]
  have h1 : lo / 2 ^ (64 - s) < 2 ^ s := by
    rw [Nat.div_lt_iff_lt_mul (Nat.two_pow_pos _), Nat.mul_comm, ← e]; exact hlo
  refine ⟨h1, ?_⟩
  have h2 : lo * 2 ^ s / 18446744073709551616 = lo / 2 ^ (64 - s) := by
    conv => lhs; rw [e]
    exact Nat.mul_div_mul_right _ _ (Nat.two_pow_pos _)
  have h3 := Nat.div_add_mod (lo * 2 ^ s) 18446744073709551616
  rw [h2] at h3
  rw [Nat.add_mul, Nat.add_mul, Nat.mul_right_comm]
  generalize lo * 2 ^ s = p at *
  omega
theorem or_shift {hi x s : Nat} (h : x < 2 ^ s) : (hi * 2 ^ s) ||| x = hi * 2 ^ s + x := by
  rw [Nat.mul_comm, ← Nat.two_pow_add_eq_or_of_lt h]
theorem shift_lt {N H L y s : Nat} (hN : N < y * 18446744073709551616) (e : N * 2 ^ s = H * 18446744073709551616 + L) : H < y * 2 ^ s := by
  have h1 : N * 2 ^ s < y * 18446744073709551616 * 2 ^ s := Nat.mul_lt_mul_of_pos_right hN (Nat.two_pow_pos _)
  rw [e, Nat.mul_right_comm] at h1
  generalize y * 2 ^ s = p at *
  omega
end Go.VM
namespace Go.VM
theorem sub_mod64 {p n : Nat} (h : p ≤ n) (hn : n < 18446744073709551616) : (n + (18446744073709551616 - p % 18446744073709551616 % 18446744073709551616)) % 18446744073709551616 = n - p := by omega
theorem dec_mod64 {q : Nat} (h : 0 < q) (hq : q < 18446744073709551616) : (q + (18446744073709551616 - 1 % 18446744073709551616)) % 18446744073709551616 = q - 1 := by omega
theorem kd_fit {q v0 : Nat} (hq : q ≤ 4294967297) (h0 : v0 < 4294967296) : q * v0 < 18446744073709551616 := by
  have : q * v0 ≤ 4294967297 * 4294967295 := Nat.mul_le_mul hq (by omega)
  omega
theorem kd_next {q v1 r n : Nat} (hq : 0 < q) (he : q * v1 + r = n) : (q - 1) * v1 + (r + v1) = n := by
  obtain ⟨k, rfl⟩ : ∃ k, q = k + 1 := ⟨q - 1, by omega⟩
  rw [Nat.add_sub_cancel]
  rw [Nat.add_mul, Nat.one_mul] at he
  omega
end Go.VM
namespace Go.VM
theorem two_lt {Q T : Nat} (h : Q < 4294967296) (h' : T < 4294967296) : Q * 4294967296 + T < 18446744073709551616 ∧ Q * 4294967296 < 18446744073709551616 := by omega
end Go.VM
namespace Go.VM
theorem set_top (w : List Nat) (k v : Nat) : (List.replicate (k + 1) 0 ++ w).set k v = List.replicate k 0 ++ (v :: w) := by
  rw [List.set_append_left _ _ (by simp), List.replicate_succ', List.set_append_right _ _ (by simp)]
  simp
theorem thr_step {b q r x d Y W rest : Nat} (h : W * d + rest = Y) (hq : q * d + r = rest * b + x) : (q + b * W) * d + r = x + b * Y := by
  rw [Nat.add_mul, Nat.mul_assoc, ← h, Nat.mul_add, Nat.mul_comm b rest]
  omega
theorem dig_lt {b r x d : Nat} (hr : r < d) (hx : x < b) : (r * b + x) / d < b := by
  rw [Nat.div_lt_iff_lt_mul (by omega)]
  have : (r + 1) * b ≤ d * b := Nat.mul_le_mul_right _ hr
  rw [Nat.add_mul, Nat.one_mul] at this
  rw [Nat.mul_comm b d]
  omega
theorem div_mod_of {W d rest Y : Nat} (h : W * d + rest = Y) (hr : rest < d) : Y / d = W ∧ Y % d = rest := by
  rw [← h, Nat.mul_comm]
  refine ⟨?_, ?_⟩
  · rw [Nat.mul_add_div (by omega), Nat.div_eq_of_lt hr, Nat.add_zero]
  · rw [Nat.mul_add_mod, Nat.mod_eq_of_lt hr]
theorem shl_parts {x s : Nat} (hs : s < 64) (hx : x < 18446744073709551616) : x * 2 ^ s = x * 2 ^ s % 18446744073709551616 + 18446744073709551616 * (x / 2 / 2 ^ (63 - s)) ∧ x / 2 / 2 ^ (63 - s) < 2 ^ s ∧ x * 2 ^ s % 18446744073709551616 = x % 2 ^ (64 - s) * 2 ^ s := by
  have e : (18446744073709551616 : Nat) = 2 ^ (64 - s) * 2 ^ s := by rw [← Nat.pow_add, show 64 - s + s = 64 by omega]
  have e2 : x / 2 / 2 ^ (63 - s) = x / 2 ^ (64 - s) := by
    rw [Nat.div_div_eq_div_mul, show 64 - s = (63 - s) + 1 by omega, Nat.pow_succ, Nat.mul_comm]
  have e3 : x * 2 ^ s % 18446744073709551616 = x % 2 ^ (64 - s) * 2 ^ s := by
    conv => lhs; rw [e]
    exact Nat.mul_mod_mul_right _ _ _
  refine ⟨?_, ?_, e3⟩
  · rw [e3, e2]
    have h := Nat.mod_add_div x (2 ^ (64 - s))
    have h2 : (x % 2 ^ (64 - s) + 2 ^ (64 - s) * (x / 2 ^ (64 - s))) * 2 ^ s = x * 2 ^ s := by rw [h]
    rw [Nat.add_mul, Nat.mul_right_comm, ← e] at h2
    exact h2.symm
  · rw [e2, Nat.div_lt_iff_lt_mul (Nat.two_pow_pos _), Nat.mul_comm, ← e]; exact hx
theorem or_top {x s top : Nat} (hs : s < 64) (hx : x < 18446744073709551616) (ht : top < 2 ^ s) : top ||| (x * 2 ^ s % 18446744073709551616) = top + x * 2 ^ s % 18446744073709551616 ∧ top + x * 2 ^ s % 18446744073709551616 < 18446744073709551616 := by
  obtain ⟨_, _, e3⟩ := shl_parts hs hx
  rw [e3, Nat.or_comm, or_shift ht, Nat.add_comm]
  refine ⟨rfl, ?_⟩
  have e : (18446744073709551616 : Nat) = 2 ^ (64 - s) * 2 ^ s := by rw [← Nat.pow_add, show 64 - s + s = 64 by omega]
  rw [e]
  have h : x % 2 ^ (64 - s) + 1 ≤ 2 ^ (64 - s) := Nat.mod_lt _ (Nat.two_pow_pos _)
  have h2 := Nat.mul_le_mul_right (2 ^ s) h
  rw [Nat.add_mul, Nat.one_mul] at h2
  omega
theorem shl_step {b i x top lo hi A P : Nat} {w : List Nat} (hw : w.length = i) (h : val b (w ++ [top]) = A) (hx : x * P = lo + b * hi) :
    val b ((w ++ [top + lo]) ++ [hi]) = A + b ^ i * (x * P) := by
  rw [← h, hx, val_append, val_append, val_append]
  simp only [val, List.length_append, List.length_cons, List.length_nil, hw, Nat.mul_zero, Nat.add_zero, Nat.zero_add]
  rw [Nat.mul_add, Nat.mul_add, Nat.pow_succ, Nat.mul_assoc]
  omega
end Go.VM
namespace Go.VM
theorem bl_mul_pow {x n : Nat} (h : 0 < x) : bl (x * 2 ^ n) = bl x + n := by
  have := bl_top (k := n) (r := 0) h (Nat.two_pow_pos n)
  rw [Nat.zero_add, Nat.mul_comm] at this
  omega
theorem set_at (l m : List Nat) (x v : Nat) : (l ++ x :: m).set l.length v = l ++ v :: m := by
  rw [List.set_append_right _ _ (Nat.le_refl _), Nat.sub_self, List.set_cons_zero]
theorem getD_at (l m : List Nat) (x : Nat) : (l ++ x :: m).getD l.length 0 = x := by simp
theorem val_zeros (b k : Nat) (l : List Nat) : val b (List.replicate k 0 ++ l) = b ^ k * val b l := by
  rw [val_append, val_replicate, List.length_replicate, Nat.zero_add]
end Go.VM
namespace Go.VM
theorem digs_len_bl {m k : Nat} (h : bl m ≤ 64 * k) : (digs 18446744073709551616 m).length ≤ k := by
  refine digs_len (by decide) ?_
  rw [pow64]
  exact lt_of_bl h
theorem pow_half (A n i : Nat) : A ^ (n / 2 ^ i) = A ^ (n / 2 ^ (i + 1)) * A ^ (n / 2 ^ (i + 1)) * (if n / 2 ^ i % 2 = 1 then A else 1) := by
  have e : n / 2 ^ i = n / 2 ^ (i + 1) + n / 2 ^ (i + 1) + n / 2 ^ i % 2 := by
    rw [Nat.pow_succ, ← Nat.div_div_eq_div_mul]; omega
  conv => lhs; rw [e]
  rw [Nat.pow_add, Nat.pow_add]
  have : n / 2 ^ i % 2 = 0 ∨ n / 2 ^ i % 2 = 1 := by omega
  rcases this with h | h <;> rw [h] <;> simp
theorem bl_pow_low {A n : Nat} (hA : 0 < A) : (bl A - 1) * n + 1 ≤ bl (A ^ n) := by
  have h1 := Nat.pow_le_pow_left (le_of_bl hA) n
  rw [← Nat.pow_mul] at h1
  rcases Nat.lt_or_ge (bl (A ^ n)) ((bl A - 1) * n + 1) with g | g
  · have := lt_of_bl (show bl (A ^ n) ≤ (bl A - 1) * n by omega)
    omega
  · exact g
theorem down_limb {x y s : Nat} (hs : s < 64) (hx : x < 18446744073709551616) : (x / 2 ^ s) ||| (y * 2 % 18446744073709551616 * 2 ^ (63 - s) % 18446744073709551616) = x / 2 ^ s + (y % 2 ^ s) * 2 ^ (64 - s) ∧ x / 2 ^ s + (y % 2 ^ s) * 2 ^ (64 - s) < 18446744073709551616 := by
  have hp : (18446744073709551616 : Nat) = 2 ^ s * 2 ^ (64 - s) := by rw [← Nat.pow_add, show s + (64 - s) = 64 by omega]
  have h1 : x / 2 ^ s < 2 ^ (64 - s) := by
    rw [Nat.div_lt_iff_lt_mul (Nat.two_pow_pos s), Nat.mul_comm, ← hp]; exact hx
  have h2 : y * 2 % 18446744073709551616 * 2 ^ (63 - s) % 18446744073709551616 = (y % 2 ^ s) * 2 ^ (64 - s) := by
    rw [Nat.mod_mul_mod, Nat.mul_assoc, Nat.mul_comm 2, show 2 ^ (63 - s) * 2 = 2 ^ (64 - s) by rw [← Nat.pow_succ, show (63 - s).succ = 64 - s by omega]]
    conv => lhs; rw [hp]
    rw [Nat.mul_mod_mul_right]
  have h3 : y % 2 ^ s < 2 ^ s := Nat.mod_lt _ (Nat.two_pow_pos s)
  rw [h2, Nat.or_comm, or_shift h1]
  have h4 : (y % 2 ^ s + 1) * 2 ^ (64 - s) ≤ 2 ^ s * 2 ^ (64 - s) := Nat.mul_le_mul_right _ h3
  rw [← hp, Nat.add_mul, Nat.one_mul] at h4
  omega
theorem down_step {b i s x y W A P : Nat} {w : List Nat} {r0 : Nat} (hw : w.length = i) (h : val b w * 2 ^ s + r0 = A + b ^ i * (x % 2 ^ s)) (hb : b = 2 ^ s * P) (hW : W = x / 2 ^ s + (y % 2 ^ s) * P) :
    val b (w ++ [W]) * 2 ^ s + r0 = (A + b ^ i * x) + b ^ (i + 1) * (y % 2 ^ s) := by
  have e1 : 2 ^ s * (x / 2 ^ s) + x % 2 ^ s = x := Nat.div_add_mod x (2 ^ s)
  have e2 : b ^ (i + 1) * (y % 2 ^ s) = b ^ i * (2 ^ s * ((y % 2 ^ s) * P)) := by
    rw [Nat.pow_succ, Nat.mul_assoc]; congr 1; rw [hb]; ac_rfl
  have e3 : val b (w ++ [W]) * 2 ^ s = val b w * 2 ^ s + b ^ i * (2 ^ s * (x / 2 ^ s)) + b ^ i * (2 ^ s * ((y % 2 ^ s) * P)) := by
    rw [val_append, hw, val, val, Nat.mul_zero, Nat.add_zero, hW, Nat.add_mul, Nat.mul_add, Nat.add_mul]
    rw [Nat.add_assoc]
    congr 1
    congr 1
    · ac_rfl
    · ac_rfl
  rw [e3, e2]
  have e4 : b ^ i * x = b ^ i * (2 ^ s * (x / 2 ^ s)) + b ^ i * (x % 2 ^ s) := by rw [← Nat.mul_add, e1]
  rw [e4]
  omega
end Go.VM
namespace Go.VM
open Go.RowKit Go.ChangeShapes Go.WideShapes Go.ChangeAt
open Go.Proofs.Ythjnmfieicniaaa (Rows.uptoBulk Rows.uptoBulkAll)

theorem bulk_pos {H : Type} (d : DataW H) : 1 ≤ Rows.uptoBulk d := by
  cases d with
  | lit l => cases l <;> simp [Rows.uptoBulk]
  | nil => simp [Rows.uptoBulk]
  | ptr d => simp [Rows.uptoBulk]
  | slice elems spare => simp [Rows.uptoBulk]
  | agg parts => simp [Rows.uptoBulk]
  | iface t d => simp [Rows.uptoBulk]
  | map entries => simp [Rows.uptoBulk]
  | held h => simp [Rows.uptoBulk]
theorem bulk_len {H : Type} (l : List (DataW H)) : l.length ≤ Rows.uptoBulkAll l := by
  induction l with
  | nil => simp [Rows.uptoBulkAll]
  | cons x r ih => have := bulk_pos x; simp only [Rows.uptoBulkAll, List.length_cons]; omega

theorem slice_arg {H : Type} {enc : TypeId × Value → H} {P : Program} {t e : TypeId} (ht : P.underlying t = some (.slice e)) (he : P.underlying e = some (.int .u64)) (hc : P.cellsOf e = 1) {W : World} {v : Value} {d : DataW H} {ps : List MemPlace} {r : Reach} {b0 : Nat} (hval : Value.okWide P W r b0 t v)
    (h : DataW.Trod enc P W 0 (fun _ => true) true t v d ps) (hold : ∀ p ∈ ps, p.block < W.heap.size) :
    ∃ l : List Nat, Lim 18446744073709551616 l ∧ Rep W (fun b => b < W.heap.size) (fun _ => 0) 0 (nats .unk l) v ∧ l.length ≤ Rows.uptoBulk d ∧
      ∀ W', Same W W' → ∀ sp : Nat → Bool, (∀ p ∈ ps, sp p.block = true) → DataW.Trod enc P W' 0 sp true t v d ps := by
  obtain ⟨a0, len, cap, rfl⟩ := okWide_slice ht hval
  obtain ⟨fuel, hf⟩ := h
  rcases open_ints ht he hc hf with ⟨e1, e2⟩ | ⟨a, len2, cap2, zs, e1, _, hl, hm, hz, e2, hcell, hw⟩
  · simp [Value.cells] at e1
    obtain ⟨rfl, rfl, rfl⟩ := e1
    simp only [Prod.mk.injEq] at e2
    obtain ⟨rfl, rfl⟩ := e2
    refine ⟨[], Lim.nil, .nil .unk 1, Nat.zero_le _, fun W' _ sp _ => ⟨2, ?_⟩⟩
    simp [DataW.trod, Value.cells, ht]
  · simp [Value.cells] at e1
    obtain ⟨rfl, rfl, rfl⟩ := e1
    simp only [Prod.mk.injEq] at e2
    obtain ⟨rfl, rfl⟩ := e2
    simp only [if_true] at hz
    have hbl : 0 < cap → a.block < W.heap.size := fun h0 => hold (.cell a.block a.off) (MemPlace.mem_row.2 ⟨0, by omega, by simp⟩)
    have hnn : ∀ n ∈ zs, 0 ≤ n ∧ n < 18446744073709551616 := fun n hn => by
      have := hw n hn
      simp [Lit.wf, IntKind.min, IntKind.max, IntKind.signed, IntKind.bits] at this
      omega
    refine ⟨(zs.take len).map Int.toNat, ?_, ?_, ?_, ?_⟩
    · intro x hx
      obtain ⟨n, hn, rfl⟩ := List.mem_map.1 hx
      have := hnn n (List.mem_of_mem_take hn)
      omega
    · refine .sl .unk 1 len cap a _ (fun j => .int .u64 (zs.getD j 0)) trivial (by simp; omega) hl (by decide) (fun h0 => hbl (by omega)) (fun j hj => hcell j (by omega)) (fun j hj => rfl) fun j x hx => ?_
      rw [List.getElem?_map] at hx
      obtain ⟨y, hy, rfl⟩ := Option.map_eq_some_iff.1 hx
      rw [List.getElem?_map] at hy
      obtain ⟨z, hz', rfl⟩ := Option.map_eq_some_iff.1 hy
      have hzm : z ∈ zs := List.mem_of_mem_take (List.mem_of_getElem? hz')
      have hzj : zs.getD j 0 = z := by
        rw [List.getElem?_take] at hz'
        split at hz'
        · simp [List.getD, hz']
        · cases hz'
      have h0 := hnn z hzm
      have e0 : ((Int.toNat z : Nat) : Int) = z := Int.toNat_of_nonneg h0.1
      rw [hzj]
      show Rep _ _ _ _ (.lit (.int .u64 ((Int.toNat z : Nat) : Int))) _
      rw [e0]
      exact .lit _
    · have h1 := bulk_len (H := H) (lits .u64 (zs.take len))
      simp only [Rows.uptoBulk]
      have h2 : (lits (H := H) .u64 (zs.take len)).length = (zs.take len).length := by simp [lits]
      simp only [List.length_map]
      omega
    · intro W' hs sp hsp
      have hcell' : ∀ i, i < zs.length → W'.cell? (a.add i) = some (.int .u64 (zs.getD i 0)) := fun i hi => by
        rw [hs.cell (by rw [add_block]; exact hbl (by omega))]
        exact hcell i hi
      by_cases hz0 : zs.length = 0
      · have hc0 : cap = 0 := by omega
        have hl0 : len = 0 := by omega
        subst hc0; subst hl0
        have t0 := shut_ints (enc := enc) (w := W') (base := 0) (spare := sp) (held := true) (a := a) (len := 0) (cap := 0) (zs := zs) 0 ht he hc (Nat.zero_le _) (Nat.le_refl _) hm (by simp [hz0]) hcell' hw
        exact ⟨2, by simpa [Value.cells] using t0⟩
      · have hspb : sp a.block = true := hsp (.cell a.block a.off) (MemPlace.mem_row.2 ⟨0, by omega, by simp⟩)
        have t0 := shut_ints (enc := enc) (w := W') (base := 0) (spare := sp) (held := true) (a := a) (len := len) (cap := cap) (zs := zs) 0 ht he hc (Nat.zero_le _) hl hm (by simp [hspb, hz]) hcell' hw
        exact ⟨2, by simpa [Value.cells] using t0⟩
end Go.VM
namespace Go.Proofs.Ythjnmfieicniaaa
open Go.VM

def oM (a b : Nat) : VO := ⟨some a, .mov (.t b), none⟩
def oI (a : Nat) (i : Int) : VO := ⟨some a, .mov (.c (iv i)), none⟩
def oN (a i : Nat) : VO := ⟨some a, .mov (.c (nv i)), none⟩
def oX (a b k : Nat) : VO := ⟨some a, .ext (.t b) k, none⟩
def oF (a k b : Nat) : VO := ⟨some a, .fa k (.t b), none⟩
def oG (a n b : Nat) : VO := ⟨some a, .load (some n) (.t b), none⟩
def oL (a b : Nat) : VO := ⟨some a, .load none (.t b), none⟩
def oS (n a b : Nat) : VO := ⟨none, .store n (.t a) (.t b), none⟩
def oC (a f b : Nat) : VO := ⟨some a, .call f [.t b], none⟩
def oD (a f b c : Nat) : VO := ⟨some a, .call f [.t b, .t c], none⟩
def oE (a f b c d : Nat) : VO := ⟨some a, .call f [.t b, .t c, .t d], none⟩
def oH (a b : Nat) : VO := ⟨some a, .len (.t b), none⟩
def oJ (a n b c : Nat) : VO := ⟨some a, .ixa n (.t b) (.t c), none⟩
def oB (a b : Nat) : VO := ⟨some a, .box (.t b), none⟩
def oA (a : Nat) (z : List Value) : VO := ⟨some a, .alloc z, none⟩
def oK (a : Nat) (o : BinOp) (b : Nat) (i : Int) : VO := ⟨some a, .bin o false (.t b) (.c (iv i)), none⟩
def oO (a : Nat) (o : BinOp) (b c : Nat) : VO := ⟨some a, .bin o false (.t b) (.t c), none⟩
def oQ (a : Nat) (o : VOp) : VO := ⟨some a, o, none⟩
def oY (a b k : Nat) (g : Bool) : VO := ⟨some a, .mov (.t b), some (k, g)⟩
def oP (l : List VO) : VC := .region false l
def oR (l : List VO) : VC := .region true l
def oT : List Value := [.bool false, .slice none 0 0, .int .i64 0]
def oU : List Value := [.bool false, .slice none 0 0, .int .i64 0, .bool false, .slice none 0 0, .int .i64 0]
def oV : List Value := [.bool false, .slice none 0 0]
def cD (x : VC) {y : VC} (_ : ∀ p : VC → Prop, p y → p x := by intro p h; (try dsimp only [oM, oI, oN, oX, oF, oG, oL, oS, oC, oD, oE, oH, oJ, oB, oA, oK, oO, oQ, oY, oP, oR, oT, oU, oV]); exact h) : VC := y
structure Gok (f : FuncId) (fn : Func) (C : VC) (R : List VRes) (n : Nat) : Prop where
  e : Try.prog.funcs[f]? = some fn
  n : fn.ntmps = n
  b : fn.body = some (fn.body.getD .skip)
  k : resCode Try.prog fn.ntmps (fn.body.getD .skip) = C
  q : resResults Try.prog fn.results.toList = some R
theorem gk {f : FuncId} {fn : Func} {C : VC} {R : List VRes} {n : Nat} (e : Try.prog.funcs[f]? = some fn) (h : fn.ntmps = n) (b : fn.body = some (fn.body.getD .skip) := by kernel_rfl) (k : resCode Try.prog fn.ntmps (fn.body.getD .skip) = C := by kernel_rfl) (q : resResults Try.prog fn.results.toList = some R := by kernel_rfl) : Gok f fn C R n := ⟨e, h, b, k, q⟩
theorem sG (hm : Try.prog.follows .mixedOrders = true) {f : FuncId} {fn : Func} {C : VC} {R : List VRes} {n c : Nat} {xs : List V} {Q : V → Nat → Prop} (g : Gok f fn C R n) (h : VWP Try.prog c C (retQ R fun r c' => c ≤ c' ∧ Q r c') ⟨Go.VM.start xs, noBlk, c⟩) (hn : xs.length ≤ n := by simp) : VSpec Try.prog f c xs Q := spec_mk hm g.e g.b g.k g.q (by rw [g.n]; exact hn) h
theorem sL (hm : Try.prog.follows .mixedOrders = true) {f : FuncId} {fn : Func} {C : VC} {R : List VRes} {n c : Nat} {σl : Nat → Option Blk} {xs : List V} {Q : V → (Nat → Option Blk) → Nat → Prop} (g : Gok f fn C R n) (h : VWP Try.prog c C (retL R fun r σ' c' => c ≤ c' ∧ Q r (lentσ σl σ') c') ⟨Go.VM.start xs, σl, c⟩) (hn : xs.length ≤ n := by simp) : VSpecL Try.prog f c σl xs Q := specL_mk hm g.e g.b g.k g.q (by rw [g.n]; exact hn) h
theorem yE {p : Prop} (e : p := by first | omega | rfl | ((repeat' apply And.intro) <;> first | rfl | omega | assumption)) : p := e
theorem yA {p : Prop} (e : p := by (repeat' apply And.intro) <;> first | rfl | omega | assumption) : p := e

abbrev F.surdlaw04_RootPerfects : FuncId := 3
abbrev F.surdref01_Lend : FuncId := 4
abbrev F.surdref04_Perfect : FuncId := 5
abbrev F.surdref01_Of : FuncId := 6
abbrev F.roots_Perfect : FuncId := 7
abbrev F.surdlaw04_alike : FuncId := 8
abbrev F.surdref01_Kept : FuncId := 9
abbrev F.surdref01_Own : FuncId := 10
abbrev F.surdlaw04_awake : FuncId := 11
abbrev F.surdref01_Num_Len : FuncId := 12
abbrev F.surdref04_Kth : FuncId := 13
abbrev F.surdref04_Power : FuncId := 14
abbrev F.surdref01_Cmp : FuncId := 15
abbrev F.surdref04_told : FuncId := 16
abbrev F.surdref01_norm : FuncId := 17
abbrev F.roots_fits : FuncId := 18
abbrev F.nat_Length : FuncId := 19
abbrev F.roots_Root : FuncId := 20
abbrev F.surdlaw04_num : FuncId := 21
abbrev F.surdref01_Num_Is : FuncId := 22
abbrev F.roots_Sqrt : FuncId := 23
abbrev F.surdref01_Int : FuncId := 24
abbrev F.surdref01_Add : FuncId := 25
abbrev F.surdref01_Shl : FuncId := 26
abbrev F.surdref01_Mul : FuncId := 27
abbrev F.nat_Norm : FuncId := 28
abbrev F.nat_trim : FuncId := 29
abbrev F.bits_Len64 : FuncId := 30
abbrev F.roots_newton : FuncId := 31
abbrev F.mul_Pow : FuncId := 32
abbrev F.roots_less : FuncId := 33
abbrev F.surdref01_Num_Limbs : FuncId := 34
abbrev F.surdref01_Num_at : FuncId := 35
abbrev F.nat_From : FuncId := 36
abbrev F.roots_power : FuncId := 37
abbrev F.div_Quo : FuncId := 38
abbrev F.nat_Times : FuncId := 39
abbrev F.nat_Add : FuncId := 40
abbrev F.nat_Through : FuncId := 41
abbrev F.nat_Compare : FuncId := 42
abbrev F.mul_Square : FuncId := 43
abbrev F.mul_Mul : FuncId := 44
abbrev F.nat_Sub : FuncId := 45
abbrev F.nat_Left : FuncId := 46
abbrev F.div_divide : FuncId := 47
abbrev F.bits_Mul64 : FuncId := 48
abbrev F.nat_told : FuncId := 50
abbrev F.bits_Div64 : FuncId := 51
abbrev F.mul_product : FuncId := 52
abbrev F.mul_Mul_1 : FuncId := 53
abbrev F.mul_halved : FuncId := 54
abbrev F.bits_LeadingZeros64 : FuncId := 56
abbrev F.div_up : FuncId := 57
abbrev F.div_guess : FuncId := 58
abbrev F.div_down : FuncId := 59
abbrev F.mul_great : FuncId := 60
abbrev F.mul_fits : FuncId := 61
abbrev F.mul_school : FuncId := 62
abbrev F.mul_addAt : FuncId := 63
abbrev F.mul_part : FuncId := 64
abbrev F.mul_less : FuncId := 65
abbrev F.mul_sum : FuncId := 66
def C.surdlaw04_RootPerfects := cD (.seq (oP [oQ 2 (.mov (.c (bv false)))]) (.seq (oP [oM 12 0,oC 13 F.surdref01_Lend 12,oM 11 13,oX 14 11 0,oX 15 11 1,oM 3 14,oM 4 15]) (.seq (oP [oM 17 0,oC 18 F.surdref01_Of 17,oC 19 F.surdref04_Perfect 18,oM 16 19,oX 20 16 0,oX 21 16 1,oX 22 16 2,oM 5 20,oM 6 21,oM 7 22]) (.seq (oP [oM 24 4,oC 25 F.roots_Perfect 24,oM 23 25,oX 26 23 0,oX 27 23 1,oX 28 23 2,oM 8 26,oM 9 27,oM 10 28]) (.seq (oP [oM 29 8,oM 30 10,oM 31 5,oM 32 7,oQ 33 (.call F.surdlaw04_alike [.t 29, .t 30, .t 31, .t 32]),oM 34 33,oY 35 9 34 true,oY 36 6 34 true,⟨some 37, .bin .eql false (.t 35) (.t 36), some (34, true)⟩,oQ 38 (.pick (.t 34) (.t 37) (.c (bv false))),oM 39 38,oY 40 3 39 true,oY 41 0 39 true,⟨some 42, .call F.surdref01_Kept [.t 40, .t 41], some (39, true)⟩,oQ 43 (.pick (.t 39) (.t 42) (.c (bv false))),oM 44 43,oY 45 8 44 true,⟨some 46, .bsl true 1 1 [.slice none 0 0] [(0, (1, .t 45))], some (44, true)⟩,⟨some 47, .call F.surdref01_Own [.t 46], some (44, true)⟩,oQ 48 (.pick (.t 44) (.t 47) (.c (bv false))),oM 49 48,oY 50 3 49 true,oY 51 0 49 true,⟨some 52, .call F.surdref01_Kept [.t 50, .t 51], some (49, true)⟩,oQ 53 (.pick (.t 49) (.t 52) (.c (bv false))),oM 54 53,⟨some 55, .call F.surdlaw04_awake [], some (54, true)⟩,oQ 56 (.pick (.t 54) (.t 55) (.c (bv false))),oM 2 56]) .ret)))))
def R.surdlaw04_RootPerfects : List VRes := [.tmp 2]
theorem G.surdlaw04_RootPerfects : Gok F.surdlaw04_RootPerfects Try.f3 C.surdlaw04_RootPerfects R.surdlaw04_RootPerfects 57 := gk (Try.func3) Try.ntmps3
def C.surdref01_Lend := cD (.seq (oP [oQ 2 (.mov (.c nil1)),oQ 3 (.mov (.c nil1))]) (.seq (oP [oM 8 0,oH 9 8,oK 10 .add 9 4,oQ 11 (.mk [.int .u64 0] 8 (.t 10) (.t 10)),oM 4 11]) (.seq (.seq (oP [oM 12 4,oH 13 12,oI 14 0]) (.block 0 (.loop (.seq (oP [oO 15 .lss 14 13]) (.seq (.cond (.t 15) .skip (.exit 0)) (.seq (.block 1 (.seq (oP [oM 16 14,oM 5 16]) (oP [oM 17 4,oM 18 5,oJ 19 1 17 18,⟨none, .store 1 (.t 19) (.c (nv 10855845)), none⟩]))) (oP [oK 20 .add 14 1,oM 14 20]))))))) (.seq (.seq (oP [oM 21 0,oH 22 21,oI 23 0]) (.block 2 (.loop (.seq (oP [oO 24 .lss 23 22]) (.seq (.cond (.t 24) .skip (.exit 2)) (.seq (.block 3 (.seq (oP [oM 25 23,oJ 26 1 21 23,oL 27 26,oM 6 25,oM 7 27]) (oP [oM 28 4,oM 29 6,oK 30 .add 29 2,oM 31 7,oJ 32 1 28 30,oS 1 32 31]))) (oP [oK 33 .add 23 1,oM 23 33]))))))) (.seq (oR [oM 34 4,oM 35 4,oM 36 0,oH 37 36,oK 38 .add 37 2,oQ 39 (.slc 1 (.t 35) (some (.c (iv 2))) (some (.t 38)) none),oM 2 34,oM 3 39]) .ret)))))
def R.surdref01_Lend : List VRes := [.tmp 2, .tmp 3]
theorem G.surdref01_Lend : Gok F.surdref01_Lend Try.f4 C.surdref01_Lend R.surdref01_Lend 40 := gk (Try.func4) Try.ntmps4
def C.surdref04_Perfect := cD (.seq (oP [oQ 2 (.mov (.c nil1)),oI 3 0,oI 4 0]) (.seq (oP [oM 14 0,oM 5 14,oI 6 1]) (.seq (.seq (oP [oM 15 0,oC 16 F.surdref01_Num_Len 15,oK 17 .gtr 16 1]) (.cond (.t 17) (.seq (oP [oM 18 0,oC 19 F.surdref01_Num_Len 18,oM 7 19]) (.block 0 (.loop (.seq (.seq (oP [oM 20 7,oK 21 .gtr 20 1,oM 22 21,oY 23 6 22 true,⟨some 24, .bin .eql false (.t 23) (.c (iv 1)), some (22, true)⟩,oQ 25 (.pick (.t 22) (.t 24) (.c (bv false)))]) (.cond (.t 25) .skip (.exit 0))) (.seq (.block 1 (.seq (oP [oM 28 0,oM 29 7,oD 30 F.surdref04_Kth 28 29,oM 8 30]) (.seq (oP [oM 32 8,oM 33 7,oM 34 0,oE 35 F.surdref04_Power 32 33 34,oM 31 35,oX 36 31 0,oX 37 31 1,oM 9 36,oM 10 37]) (.seq (oP [oM 38 10,oM 39 38,oY 40 9 39 true,oY 41 0 39 true,⟨some 42, .call F.surdref01_Cmp [.t 40, .t 41], some (39, true)⟩,⟨some 43, .bin .eql false (.t 42) (.c (iv 0)), some (39, true)⟩,oQ 44 (.pick (.t 39) (.t 43) (.c (bv false)))]) (.cond (.t 44) (oP [oM 45 8,oM 46 7,oM 5 45,oM 6 46]) .skip))))) (oP [oM 26 7,oK 27 .sub 26 1,oM 7 27])))))) .skip)) (.seq (oP [oM 48 5,oQ 49 (.call F.surdref04_told [.t 48, .c nil1]),oM 47 49,oX 50 47 0,oX 51 47 1,oX 52 47 2,oM 11 50,oM 12 51,oM 13 52]) (.seq (.seq (oP [oM 53 13,oK 54 .neq 53 0]) (.cond (.t 54) (.seq (oP [oM 55 13,oQ 2 (.mov (.c nil1)),oI 3 0,oM 4 55]) .ret) .skip)) (.seq (oP [oM 56 11,oM 57 6,oM 2 56,oM 3 57,oI 4 0]) .ret))))))
def R.surdref04_Perfect : List VRes := [.tmp 2, .tmp 3, .tmp 4]
theorem G.surdref04_Perfect : Gok F.surdref04_Perfect Try.f5 C.surdref04_Perfect R.surdref04_Perfect 58 := gk (Try.func5) Try.ntmps5
def C.surdref01_Of := cD (.seq (oP [oQ 2 (.mov (.c nil1))]) (.seq (oP [oM 6 0,oH 7 6,oQ 8 (.bin .mul false (.c (iv 2)) (.t 7)),oQ 9 (.mk [.int .u64 0] 8 (.c (iv 0)) (.t 8)),oM 3 9]) (.seq (.seq (oP [oM 10 0,oH 11 10,oI 12 0]) (.block 0 (.loop (.seq (oP [oO 13 .lss 12 11]) (.seq (.cond (.t 13) .skip (.exit 0)) (.seq (.block 1 (.seq (oP [oJ 14 1 10 12,oL 15 14,oM 5 15]) (oP [oM 16 3,oM 17 5,oQ 18 (.bin .rem false (.t 17) (.c (nv 4294967296))),oM 19 5,oQ 20 (.bin .quo false (.t 19) (.c (nv 4294967296))),oQ 21 (.bsl true 1 2 [.int .u64 0] [(0, (1, .t 18)), (1, (1, .t 20))]),oQ 22 (.app 1 8 [.int .u64 0] (.t 16) (.t 21)),oM 3 22]))) (oP [oK 23 .add 12 1,oM 12 23]))))))) (.seq (oP [oM 24 3,oC 25 F.surdref01_norm 24,oM 2 25]) .ret))))
def R.surdref01_Of : List VRes := [.tmp 2]
theorem G.surdref01_Of : Gok F.surdref01_Of Try.f6 C.surdref01_Of R.surdref01_Of 26 := gk (Try.func6) Try.ntmps6
def C.roots_Perfect := cD (.seq (oP [oQ 2 (.mov (.c nil1)),oI 3 0,oI 4 0]) (.seq (oP [oM 13 0,oC 14 F.roots_fits 13,oM 12 14,oX 15 12 0,oX 16 12 1,oM 0 15,oM 5 16]) (.seq (.seq (oP [oM 17 5,oK 18 .neq 17 0]) (.cond (.t 18) (.seq (oP [oM 19 5,oQ 2 (.mov (.c nil1)),oI 3 0,oM 4 19]) .ret) .skip)) (.seq (oP [oM 20 0,oC 21 F.nat_Length 20,oM 6 21]) (.seq (.seq (oP [oM 22 6,oK 23 .leq 22 1]) (.cond (.t 23) (.seq (oP [oM 24 0,oM 2 24,oI 3 1,oI 4 0]) .ret) .skip)) (.seq (.seq (oP [oM 25 6,oI 26 0]) (.block 0 (.loop (.seq (oP [oO 27 .lss 26 25]) (.seq (.cond (.t 27) .skip (.exit 0)) (.seq (.block 1 (.seq (oP [oM 28 26,oM 7 28]) (.seq (oP [oM 29 6,oM 30 7,oO 31 .sub 29 30,oM 8 31]) (.seq (oP [oM 33 0,oM 34 8,oD 35 F.roots_Root 33 34,oM 32 35,oX 36 32 0,oX 37 32 1,oX 38 32 2,oM 9 36,oM 10 37,oM 11 38]) (.seq (oP [oM 39 10,oC 40 F.nat_Length 39,oK 41 .eql 40 0,oM 42 41,oY 43 9 42 true,⟨some 44, .call F.nat_Length [.t 43], some (42, true)⟩,⟨some 45, .bin .gtr false (.t 44) (.c (iv 1)), some (42, true)⟩,oQ 46 (.pick (.t 42) (.t 45) (.c (bv false)))]) (.cond (.t 46) (.seq (oP [oM 47 9,oM 48 8,oM 2 47,oM 3 48,oI 4 0]) .ret) .skip)))))) (oP [oK 49 .add 26 1,oM 26 49]))))))) (.seq (oP [oM 50 0,oM 2 50,oI 3 1,oI 4 0]) .ret)))))))
def R.roots_Perfect : List VRes := [.tmp 2, .tmp 3, .tmp 4]
theorem G.roots_Perfect : Gok F.roots_Perfect Try.f7 C.roots_Perfect R.roots_Perfect 51 := gk (Try.func7) Try.ntmps7
def C.surdlaw04_alike := cD (.seq (oP [oQ 8 (.mov (.c (bv false)))]) (.seq (.seq (oP [oM 9 1,oC 10 F.surdlaw04_num 9,oM 11 3,oO 12 .neq 10 11]) (.cond (.t 12) (.seq (oP [oQ 8 (.mov (.c (bv false)))]) .ret) .skip)) (.seq (.seq (oP [oM 13 3,oK 14 .neq 13 0]) (.cond (.t 14) (.seq (oP [oM 15 0,oH 16 15,oK 17 .eql 16 0,oM 8 17]) .ret) .skip)) (.seq (oP [oM 18 2,oM 19 0,oD 20 F.surdref01_Num_Is 18 19,oM 8 20]) .ret))))
def R.surdlaw04_alike : List VRes := [.tmp 8]
theorem G.surdlaw04_alike : Gok F.surdlaw04_alike Try.f8 C.surdlaw04_alike R.surdlaw04_alike 21 := gk (Try.func8) Try.ntmps8
def C.surdref01_Kept := cD (.seq (oP [oQ 4 (.mov (.c (bv false)))]) (.seq (.seq (oP [oM 7 0,oH 8 7,oM 9 1,oH 10 9,oK 11 .add 10 4,oO 12 .neq 8 11]) (.cond (.t 12) (.seq (oP [oQ 4 (.mov (.c (bv false)))]) .ret) .skip)) (.seq (.seq (oP [oM 13 0,oH 14 13,oI 15 0]) (.block 0 (.loop (.seq (oP [oO 16 .lss 15 14]) (.seq (.cond (.t 16) .skip (.exit 0)) (.seq (.block 1 (.seq (oP [oM 17 15,oJ 18 1 13 15,oL 19 18,oM 5 17,oM 6 19]) (.seq (oP [oM 20 5,oK 21 .lss 20 2,oM 22 21,oY 23 5 22 false,oY 24 1 22 false,⟨some 25, .len (.t 24), some (22, false)⟩,⟨some 26, .bin .add false (.t 25) (.c (iv 2)), some (22, false)⟩,⟨some 27, .bin .geq false (.t 23) (.t 26), some (22, false)⟩,oQ 28 (.pick (.t 22) (.c (bv true)) (.t 27))]) (.cond (.t 28) (.seq (oP [oM 29 6,oQ 30 (.bin .neq false (.t 29) (.c (nv 10855845)))]) (.cond (.t 30) (.seq (oP [oQ 4 (.mov (.c (bv false)))]) .ret) .skip)) (.seq (oP [oM 31 6,oM 32 1,oM 33 5,oK 34 .sub 33 2,oJ 35 1 32 34,oL 36 35,oO 37 .neq 31 36]) (.cond (.t 37) (.seq (oP [oQ 4 (.mov (.c (bv false)))]) .ret) .skip)))))) (oP [oK 38 .add 15 1,oM 15 38]))))))) (.seq (oP [oQ 4 (.mov (.c (bv true)))]) .ret))))
def R.surdref01_Kept : List VRes := [.tmp 4]
theorem G.surdref01_Kept : Gok F.surdref01_Kept Try.f9 C.surdref01_Kept R.surdref01_Kept 39 := gk (Try.func9) Try.ntmps9
def C.surdref01_Own := cD (.seq (oP [oQ 2 (.mov (.c (bv false)))]) (.seq (.seq (oP [oM 13 0,oH 14 13,oI 15 0]) (.block 0 (.loop (.seq (oP [oO 16 .lss 15 14]) (.seq (.cond (.t 16) .skip (.exit 0)) (.seq (.block 1 (.seq (oP [oM 17 15,oJ 18 1 13 15,oL 19 18,oM 3 17,oM 4 19]) (.seq (oP [oM 20 4,oH 21 20,oI 22 0]) (.block 2 (.loop (.seq (oP [oO 23 .lss 22 21]) (.seq (.cond (.t 23) .skip (.exit 2)) (.seq (.block 3 (.seq (oP [oM 24 22,oM 5 24]) (oP [oM 25 4,oM 26 5,oM 27 3,oK 28 .rem 27 251,oK 29 .add 28 1,oQ 30 (.conv .u64 (.t 29)),oJ 31 1 25 26,oS 1 31 30]))) (oP [oK 32 .add 22 1,oM 22 32]))))))))) (oP [oK 33 .add 15 1,oM 15 33]))))))) (.seq (.seq (oP [oM 34 0,oH 35 34,oI 36 0]) (.block 4 (.loop (.seq (oP [oO 37 .lss 36 35]) (.seq (.cond (.t 37) .skip (.exit 4)) (.seq (.block 5 (.seq (oP [oM 38 36,oJ 39 1 34 36,oL 40 39,oM 6 38,oM 7 40]) (.seq (oP [oM 41 6,oQ 42 (.bin .mul false (.c (iv 5)) (.t 41)),oQ 43 (.bin .add false (.c (iv 300)) (.t 42)),oQ 44 (.conv .u64 (.t 43)),oM 8 44]) (.seq (oP [oM 45 7,oM 46 8,oM 47 8,oQ 48 (.bin .add false (.t 47) (.c (nv 1))),oM 49 8,oQ 50 (.bin .add false (.t 49) (.c (nv 2))),oM 51 8,oQ 52 (.bin .add false (.t 51) (.c (nv 3))),oM 53 8,oQ 54 (.bin .add false (.t 53) (.c (nv 4))),oQ 55 (.bsl true 1 5 [.int .u64 0] [(0, (1, .t 46)), (1, (1, .t 48)), (2, (1, .t 50)), (3, (1, .t 52)), (4, (1, .t 54))]),oQ 56 (.app 1 8 [.int .u64 0] (.t 45) (.t 55)),oM 7 56]) (oP [oM 57 0,oM 58 6,oM 59 7,oJ 60 1 57 58,oS 1 60 59]))))) (oP [oK 61 .add 36 1,oM 36 61]))))))) (.seq (.seq (oP [oM 62 0,oH 63 62,oI 64 0]) (.block 6 (.loop (.seq (oP [oO 65 .lss 64 63]) (.seq (.cond (.t 65) .skip (.exit 6)) (.seq (.block 7 (.seq (oP [oM 66 64,oJ 67 1 62 64,oL 68 67,oM 9 66,oM 10 68]) (.seq (oP [oM 69 10,oH 70 69,oI 71 0]) (.block 8 (.loop (.seq (oP [oO 72 .lss 71 70]) (.seq (.cond (.t 72) .skip (.exit 8)) (.seq (.block 9 (.seq (oP [oM 73 71,oJ 74 1 69 71,oL 75 74,oM 11 73,oM 12 75]) (.seq (oP [oM 76 11,oM 77 10,oH 78 77,oK 79 .sub 78 5,oO 80 .lss 76 79,oM 81 80,oY 82 12 81 true,oY 83 9 81 true,⟨some 84, .bin .rem false (.t 83) (.c (iv 251)), some (81, true)⟩,⟨some 85, .bin .add false (.t 84) (.c (iv 1)), some (81, true)⟩,⟨some 86, .conv .u64 (.t 85), some (81, true)⟩,⟨some 87, .bin .neq false (.t 82) (.t 86), some (81, true)⟩,oQ 88 (.pick (.t 81) (.t 87) (.c (bv false))),oM 89 88,oY 90 11 89 false,oY 91 10 89 false,⟨some 92, .len (.t 91), some (89, false)⟩,⟨some 93, .bin .sub false (.t 92) (.c (iv 5)), some (89, false)⟩,⟨some 94, .bin .geq false (.t 90) (.t 93), some (89, false)⟩,oY 95 94 89 false,oY 96 12 95 true,oY 97 9 95 true,⟨some 98, .bin .mul false (.c (iv 5)) (.t 97), some (95, true)⟩,⟨some 99, .bin .add false (.c (iv 300)) (.t 98), some (95, true)⟩,oY 100 11 95 true,⟨some 101, .bin .add false (.t 99) (.t 100), some (95, true)⟩,oY 102 10 95 true,⟨some 103, .len (.t 102), some (95, true)⟩,⟨some 104, .bin .sub false (.t 101) (.t 103), some (95, true)⟩,⟨some 105, .bin .add false (.t 104) (.c (iv 5)), some (95, true)⟩,⟨some 106, .conv .u64 (.t 105), some (95, true)⟩,⟨some 107, .bin .neq false (.t 96) (.t 106), some (95, true)⟩,⟨some 108, .pick (.t 95) (.t 107) (.c (bv false)), some (89, false)⟩,oQ 109 (.pick (.t 89) (.c (bv true)) (.t 108))]) (.cond (.t 109) (.seq (oP [oQ 2 (.mov (.c (bv false)))]) .ret) .skip)))) (oP [oK 110 .add 71 1,oM 71 110]))))))))) (oP [oK 111 .add 64 1,oM 64 111]))))))) (.seq (oP [oQ 2 (.mov (.c (bv true)))]) .ret)))))
def R.surdref01_Own : List VRes := [.tmp 2]
theorem G.surdref01_Own : Gok F.surdref01_Own Try.f10 C.surdref01_Own R.surdref01_Own 112 := gk (Try.func10) Try.ntmps10
def C.surdlaw04_awake := cD (.seq (oP [oQ 0 (.mov (.c (bv false)))]) (.seq (oP [oQ 5 (.bsl true 1 1 [.int .u64 0] [(0, (1, .c (nv 15)))]),oC 6 F.roots_Sqrt 5,oM 4 6,oX 7 4 0,oX 8 4 1,oX 9 4 2,oM 1 7,oM 2 8,oM 3 9]) (.seq (oP [oM 10 3,oC 11 F.surdlaw04_num 10,oK 12 .eql 11 0,oM 13 12,⟨some 14, .call F.surdref01_Int [.c (iv 3)], some (13, true)⟩,oY 15 1 13 true,⟨some 16, .call F.surdref01_Num_Is [.t 14, .t 15], some (13, true)⟩,oQ 17 (.pick (.t 13) (.t 16) (.c (bv false))),oM 18 17,⟨some 19, .call F.surdref01_Int [.c (iv 6)], some (18, true)⟩,oY 20 2 18 true,⟨some 21, .call F.surdref01_Num_Is [.t 19, .t 20], some (18, true)⟩,oQ 22 (.pick (.t 18) (.t 21) (.c (bv false))),oM 0 22]) .ret)))
def R.surdlaw04_awake : List VRes := [.tmp 0]
theorem G.surdlaw04_awake : Gok F.surdlaw04_awake Try.f11 C.surdlaw04_awake R.surdlaw04_awake 23 := gk (Try.func11) Try.ntmps11
def C.surdref01_Num_Len := cD (.seq (oP [oI 2 0]) (.seq (.seq (oP [oM 5 0,oH 6 5,oK 7 .eql 6 0]) (.cond (.t 7) (.seq (oP [oI 2 0]) .ret) .skip)) (.seq (oP [oM 8 0,oH 9 8,oK 10 .sub 9 1,oQ 11 (.bin .mul false (.c (iv 32)) (.t 10)),oM 3 11]) (.seq (.seq (oP [oM 12 0,oM 13 0,oH 14 13,oK 15 .sub 14 1,oJ 16 1 12 15,oL 17 16,oM 4 17]) (.block 0 (.loop (.seq (.seq (oP [oM 18 4,oQ 19 (.bin .gtr false (.t 18) (.c (nv 0)))]) (.cond (.t 19) .skip (.exit 0))) (.seq (.block 1 (oP [oM 22 3,oK 23 .add 22 1,oM 3 23])) (oP [oM 20 4,oQ 21 (.bin .quo false (.t 20) (.c (nv 2))),oM 4 21])))))) (.seq (oP [oM 24 3,oM 2 24]) .ret)))))
def R.surdref01_Num_Len : List VRes := [.tmp 2]
theorem G.surdref01_Num_Len : Gok F.surdref01_Num_Len Try.f12 C.surdref01_Num_Len R.surdref01_Num_Len 25 := gk (Try.func12) Try.ntmps12
def C.surdref04_Kth := cD (.seq (oP [oQ 4 (.mov (.c nil1))]) (.seq (.seq (oP [oM 10 1,oK 11 .eql 10 1]) (.cond (.t 11) (.seq (oP [oM 12 0,oM 4 12]) .ret) .skip)) (.seq (oP [oQ 5 (.mov (.c nil1))]) (.seq (.seq (oP [oM 13 0,oC 14 F.surdref01_Num_Len 13,oM 15 1,oO 16 .quo 14 15,oM 6 16]) (.block 0 (.loop (.seq (.seq (oP [oM 17 6,oK 18 .geq 17 0]) (.cond (.t 18) .skip (.exit 0))) (.seq (.block 1 (.seq (oP [oM 21 5,oQ 22 (.call F.surdref01_Int [.c (iv 1)]),oM 23 6,oD 24 F.surdref01_Shl 22 23,oD 25 F.surdref01_Add 21 24,oM 7 25]) (.seq (oP [oM 27 7,oM 28 1,oM 29 0,oE 30 F.surdref04_Power 27 28 29,oM 26 30,oX 31 26 0,oX 32 26 1,oM 8 31,oM 9 32]) (.seq (oP [oM 33 9]) (.cond (.t 33) (oP [oM 34 7,oM 5 34]) .skip))))) (oP [oM 19 6,oK 20 .sub 19 1,oM 6 20])))))) (.seq (oP [oM 35 5,oM 4 35]) .ret)))))
def R.surdref04_Kth : List VRes := [.tmp 4]
theorem G.surdref04_Kth : Gok F.surdref04_Kth Try.f13 C.surdref04_Kth R.surdref04_Kth 36 := gk (Try.func13) Try.ntmps13
def C.surdref04_Power := cD (.seq (oP [oQ 6 (.mov (.c nil1)),oQ 7 (.mov (.c (bv false)))]) (.seq (.seq (oP [oM 10 0,oC 11 F.surdref01_Num_Len 10,oK 12 .lss 11 2]) (.cond (.t 12) (.seq (oP [oM 13 0,oM 14 0,oM 15 2,oD 16 F.surdref01_Cmp 14 15,oK 17 .leq 16 0,oM 6 13,oM 7 17]) .ret) .skip)) (.seq (.seq (oP [oM 18 1,oM 19 2,oC 20 F.surdref01_Num_Len 19,oO 21 .gtr 18 20]) (.cond (.t 21) (.seq (oP [oQ 6 (.mov (.c nil1)),oQ 7 (.mov (.c (bv false)))]) .ret) .skip)) (.seq (oP [oQ 22 (.call F.surdref01_Int [.c (iv 1)]),oM 8 22]) (.seq (.seq (oP [oI 9 0]) (.block 0 (.loop (.seq (.seq (oP [oM 23 9,oM 24 1,oO 25 .lss 23 24]) (.cond (.t 25) .skip (.exit 0))) (.seq (.block 1 (.seq (oP [oM 28 8,oM 29 0,oD 30 F.surdref01_Mul 28 29,oM 8 30]) (.seq (oP [oM 31 8,oM 32 2,oD 33 F.surdref01_Cmp 31 32,oK 34 .gtr 33 0]) (.cond (.t 34) (.seq (oP [oQ 6 (.mov (.c nil1)),oQ 7 (.mov (.c (bv false)))]) .ret) .skip)))) (oP [oM 26 9,oK 27 .add 26 1,oM 9 27])))))) (.seq (oP [oM 35 8,oM 6 35,oQ 7 (.mov (.c (bv true)))]) .ret))))))
def R.surdref04_Power : List VRes := [.tmp 6, .tmp 7]
theorem G.surdref04_Power : Gok F.surdref04_Power Try.f14 C.surdref04_Power R.surdref04_Power 36 := gk (Try.func14) Try.ntmps14
def C.surdref01_Cmp := cD (.seq (oP [oI 4 0]) (.seq (.seq (oP [oM 6 0,oH 7 6,oM 8 1,oH 9 8,oO 10 .neq 7 9]) (.cond (.t 10) (.seq (.seq (oP [oM 11 0,oH 12 11,oM 13 1,oH 14 13,oO 15 .lss 12 14]) (.cond (.t 15) (.seq (oP [oI 4 (-1)]) .ret) .skip)) (.seq (oP [oI 4 1]) .ret)) .skip)) (.seq (.seq (oP [oM 16 0,oH 17 16,oK 18 .sub 17 1,oM 5 18]) (.block 0 (.loop (.seq (.seq (oP [oM 19 5,oK 20 .geq 19 0]) (.cond (.t 20) .skip (.exit 0))) (.seq (.block 1 (.seq (.seq (oR [oM 23 0,oM 24 5,oJ 25 1 23 24,oL 26 25,oM 27 1,oM 28 5,oJ 29 1 27 28,oL 30 29,oO 31 .lss 26 30]) (.cond (.t 31) (.seq (oP [oI 4 (-1)]) .ret) .skip)) (.seq (oR [oM 32 0,oM 33 5,oJ 34 1 32 33,oL 35 34,oM 36 1,oM 37 5,oJ 38 1 36 37,oL 39 38,oO 40 .gtr 35 39]) (.cond (.t 40) (.seq (oP [oI 4 1]) .ret) .skip)))) (oP [oM 21 5,oK 22 .sub 21 1,oM 5 22])))))) (.seq (oP [oI 4 0]) .ret))))
def R.surdref01_Cmp : List VRes := [.tmp 4]
theorem G.surdref01_Cmp : Gok F.surdref01_Cmp Try.f15 C.surdref01_Cmp R.surdref01_Cmp 41 := gk (Try.func15) Try.ntmps15
def C.surdref04_told := cD (.seq (oP [oQ 4 (.mov (.c nil1)),oQ 5 (.mov (.c nil1)),oI 6 0]) (.seq (.seq (oP [oM 7 0,oC 8 F.surdref01_Num_Len 7,oK 9 .gtr 8 67108864,oM 10 9,oY 11 1 10 false,⟨some 12, .call F.surdref01_Num_Len [.t 11], some (10, false)⟩,⟨some 13, .bin .gtr false (.t 12) (.c (iv 67108864)), some (10, false)⟩,oQ 14 (.pick (.t 10) (.c (bv true)) (.t 13))]) (.cond (.t 14) (.seq (oP [oQ 4 (.mov (.c nil1)),oQ 5 (.mov (.c nil1)),oI 6 3]) .ret) .skip)) (.seq (oP [oM 15 0,oM 16 1,oM 4 15,oM 5 16,oI 6 0]) .ret)))
def R.surdref04_told : List VRes := [.tmp 4, .tmp 5, .tmp 6]
theorem G.surdref04_told : Gok F.surdref04_told Try.f16 C.surdref04_told R.surdref04_told 17 := gk (Try.func16) Try.ntmps16
def C.surdref01_norm := cD (.seq (oP [oQ 2 (.mov (.c nil1))]) (.seq (oP [oM 4 0,oH 5 4,oM 3 5]) (.seq (.block 0 (.loop (.seq (.seq (oP [oM 6 3,oK 7 .gtr 6 0,oM 8 7,oY 9 0 8 true,oY 10 3 8 true,⟨some 11, .bin .sub false (.t 10) (.c (iv 1)), some (8, true)⟩,⟨some 12, .ixa 1 (.t 9) (.t 11), some (8, true)⟩,⟨some 13, .load none (.t 12), some (8, true)⟩,⟨some 14, .bin .eql false (.t 13) (.c (nv 0)), some (8, true)⟩,oQ 15 (.pick (.t 8) (.t 14) (.c (bv false)))]) (.cond (.t 15) .skip (.exit 0))) (.block 1 (oP [oM 16 3,oK 17 .sub 16 1,oM 3 17]))))) (.seq (oP [oM 18 0,oM 19 3,oM 20 3,oQ 21 (.slc 1 (.t 18) none (some (.t 19)) (some (.t 20))),oM 2 21]) .ret))))
def R.surdref01_norm : List VRes := [.tmp 2]
theorem G.surdref01_norm : Gok F.surdref01_norm Try.f17 C.surdref01_norm R.surdref01_norm 22 := gk (Try.func17) Try.ntmps17
def C.roots_fits := cD (.seq (oP [oQ 2 (.mov (.c nil1)),oI 3 0]) (.seq (.seq (oP [oM 4 0,oC 5 F.nat_Length 4,oK 6 .gtr 5 67108864]) (.cond (.t 6) (.seq (oP [oQ 2 (.mov (.c nil1)),oI 3 3]) .ret) .skip)) (.seq (oP [oM 7 0,oC 8 F.nat_Norm 7,oM 2 8,oI 3 0]) .ret)))
def R.roots_fits : List VRes := [.tmp 2, .tmp 3]
theorem G.roots_fits : Gok F.roots_fits Try.f18 C.roots_fits R.roots_fits 9 := gk (Try.func18) Try.ntmps18
def C.nat_Length := cD (.seq (oP [oI 2 0]) (.seq (oP [oM 3 0,oC 4 F.nat_trim 3,oM 0 4]) (.seq (.seq (oP [oM 5 0,oH 6 5,oK 7 .eql 6 0]) (.cond (.t 7) (.seq (oP [oI 2 0]) .ret) .skip)) (.seq (oP [oM 8 0,oH 9 8,oK 10 .sub 9 1,oQ 11 (.bin .mul false (.c (iv 64)) (.t 10)),oM 12 0,oM 13 0,oH 14 13,oK 15 .sub 14 1,oJ 16 1 12 15,oL 17 16,oC 18 F.bits_Len64 17,oO 19 .add 11 18,oM 2 19]) .ret))))
def R.nat_Length : List VRes := [.tmp 2]
theorem G.nat_Length : Gok F.nat_Length Try.f19 C.nat_Length R.nat_Length 20 := gk (Try.func19) Try.ntmps19
def C.roots_Root := cD (.seq (oP [oQ 4 (.mov (.c nil1)),oQ 5 (.mov (.c nil1)),oI 6 0]) (.seq (.seq (oP [oM 11 1,oK 12 .lss 11 1]) (.cond (.t 12) (.seq (oP [oQ 4 (.mov (.c nil1)),oQ 5 (.mov (.c nil1)),oI 6 40]) .ret) .skip)) (.seq (oP [oM 14 0,oC 15 F.roots_fits 14,oM 13 15,oX 16 13 0,oX 17 13 1,oM 0 16,oM 7 17]) (.seq (.seq (oP [oM 18 7,oK 19 .neq 18 0]) (.cond (.t 19) (.seq (oP [oM 20 7,oQ 4 (.mov (.c nil1)),oQ 5 (.mov (.c nil1)),oM 6 20]) .ret) .skip)) (.seq (.seq (oP [oM 21 1,oK 22 .eql 21 1,oM 23 22,oY 24 0 23 false,⟨some 25, .call F.nat_Length [.t 24], some (23, false)⟩,⟨some 26, .bin .eql false (.t 25) (.c (iv 0)), some (23, false)⟩,oQ 27 (.pick (.t 23) (.c (bv true)) (.t 26))]) (.cond (.t 27) (.seq (oP [oM 28 0,oM 4 28,oQ 5 (.mov (.c nil1)),oI 6 0]) .ret) .skip)) (.seq (oP [oM 29 0,oM 30 1,oD 31 F.roots_newton 29 30,oM 8 31]) (.seq (oP [oM 33 8,oM 34 1,oD 35 F.mul_Pow 33 34,oM 32 35,oX 36 32 0,oX 37 32 1,oM 9 36,oM 10 37]) (.seq (oP [oM 38 8,oM 39 0,oM 40 9,oD 41 F.roots_less 39 40,oM 4 38,oM 5 41,oI 6 0]) .ret))))))))
def R.roots_Root : List VRes := [.tmp 4, .tmp 5, .tmp 6]
theorem G.roots_Root : Gok F.roots_Root Try.f20 C.roots_Root R.roots_Root 42 := gk (Try.func20) Try.ntmps20
def C.surdlaw04_num := cD (.seq (oP [oI 2 0]) (.seq (oP [oM 3 0,oM 2 3]) .ret))
def R.surdlaw04_num : List VRes := [.tmp 2]
theorem G.surdlaw04_num : Gok F.surdlaw04_num Try.f21 C.surdlaw04_num R.surdlaw04_num 4 := gk (Try.func21) Try.ntmps21
def C.surdref01_Num_Is := cD (.seq (oP [oQ 4 (.mov (.c (bv false)))]) (.seq (oP [oM 7 0,oC 8 F.surdref01_Num_Limbs 7,oM 5 8]) (.seq (.seq (oP [oM 9 5,oH 10 9,oM 11 1,oH 12 11,oO 13 .neq 10 12]) (.cond (.t 13) (.seq (oP [oQ 4 (.mov (.c (bv false)))]) .ret) .skip)) (.seq (.seq (oP [oM 14 5,oH 15 14,oI 16 0]) (.block 0 (.loop (.seq (oP [oO 17 .lss 16 15]) (.seq (.cond (.t 17) .skip (.exit 0)) (.seq (.block 1 (.seq (oP [oM 18 16,oM 6 18]) (.seq (oR [oM 19 5,oM 20 6,oJ 21 1 19 20,oL 22 21,oM 23 1,oM 24 6,oJ 25 1 23 24,oL 26 25,oO 27 .neq 22 26]) (.cond (.t 27) (.seq (oP [oQ 4 (.mov (.c (bv false)))]) .ret) .skip)))) (oP [oK 28 .add 16 1,oM 16 28]))))))) (.seq (oP [oQ 4 (.mov (.c (bv true)))]) .ret)))))
def R.surdref01_Num_Is : List VRes := [.tmp 4]
theorem G.surdref01_Num_Is : Gok F.surdref01_Num_Is Try.f22 C.surdref01_Num_Is R.surdref01_Num_Is 29 := gk (Try.func22) Try.ntmps22
def C.roots_Sqrt := cD (.seq (oP [oQ 2 (.mov (.c nil1)),oQ 3 (.mov (.c nil1)),oI 4 0]) (.seq (oP [oM 5 0,oQ 6 (.call F.roots_Root [.t 5, .c (iv 2)]),oX 7 6 0,oX 8 6 1,oX 9 6 2,oM 2 7,oM 3 8,oM 4 9]) .ret))
def R.roots_Sqrt : List VRes := [.tmp 2, .tmp 3, .tmp 4]
theorem G.roots_Sqrt : Gok F.roots_Sqrt Try.f23 C.roots_Sqrt R.roots_Sqrt 10 := gk (Try.func23) Try.ntmps23
def C.surdref01_Int := cD (.seq (oP [oQ 2 (.mov (.c nil1))]) (.seq (oP [oM 3 0,oQ 4 (.conv .u64 (.t 3)),oQ 5 (.bsl true 1 1 [.int .u64 0] [(0, (1, .t 4))]),oC 6 F.surdref01_Of 5,oM 2 6]) .ret))
def R.surdref01_Int : List VRes := [.tmp 2]
theorem G.surdref01_Int : Gok F.surdref01_Int Try.f24 C.surdref01_Int R.surdref01_Int 7 := gk (Try.func24) Try.ntmps24
def C.surdref01_Add := cD (.seq (oP [oQ 4 (.mov (.c nil1))]) (.seq (oP [oM 10 0,oH 11 10,oM 5 11]) (.seq (.seq (oP [oM 12 1,oH 13 12,oM 14 5,oO 15 .gtr 13 14]) (.cond (.t 15) (oP [oM 16 1,oH 17 16,oM 5 17]) .skip)) (.seq (oP [oM 18 5,oK 19 .add 18 1,oQ 20 (.mk [.int .u64 0] 8 (.t 19) (.t 19)),oM 6 20]) (.seq (oP [oN 7 0]) (.seq (.seq (oP [oI 8 0]) (.block 0 (.loop (.seq (.seq (oP [oM 21 8,oM 22 5,oO 23 .leq 21 22]) (.cond (.t 23) .skip (.exit 0))) (.seq (.block 1 (.seq (oP [oM 26 0,oM 27 8,oD 28 F.surdref01_Num_at 26 27,oM 29 1,oM 30 8,oD 31 F.surdref01_Num_at 29 30,oO 32 .add 28 31,oM 33 7,oO 34 .add 32 33,oM 9 34]) (.seq (oP [oM 35 6,oM 36 8,oM 37 9,oQ 38 (.bin .rem false (.t 37) (.c (nv 4294967296))),oJ 39 1 35 36,oS 1 39 38]) (oP [oM 40 9,oQ 41 (.bin .quo false (.t 40) (.c (nv 4294967296))),oM 7 41])))) (oP [oM 24 8,oK 25 .add 24 1,oM 8 25])))))) (.seq (oP [oM 42 6,oC 43 F.surdref01_norm 42,oM 4 43]) .ret)))))))
def R.surdref01_Add : List VRes := [.tmp 4]
theorem G.surdref01_Add : Gok F.surdref01_Add Try.f25 C.surdref01_Add R.surdref01_Add 44 := gk (Try.func25) Try.ntmps25
def C.surdref01_Shl := cD (.seq (oP [oQ 4 (.mov (.c nil1))]) (.seq (.seq (oP [oM 9 0,oH 10 9,oK 11 .eql 10 0]) (.cond (.t 11) (.seq (oP [oQ 4 (.mov (.c nil1))]) .ret) .skip)) (.seq (oP [oM 12 0,oH 13 12,oM 14 1,oK 15 .quo 14 32,oO 16 .add 13 15,oK 17 .add 16 1,oQ 18 (.mk [.int .u64 0] 8 (.t 17) (.t 17)),oM 5 18]) (.seq (oP [oM 19 1,oK 20 .rem 19 32,oM 6 20]) (.seq (.seq (oP [oM 21 0,oH 22 21,oI 23 0]) (.block 0 (.loop (.seq (oP [oO 24 .lss 23 22]) (.seq (.cond (.t 24) .skip (.exit 0)) (.seq (.block 1 (.seq (oP [oM 25 23,oJ 26 1 21 23,oL 27 26,oM 7 25,oM 8 27]) (.seq (oR [oM 28 5,oM 29 7,oM 30 1,oK 31 .quo 30 32,oO 32 .add 29 31,oJ 33 1 28 32,oL 34 33,oM 35 8,oM 36 6,oO 37 .shl 35 36,oQ 38 (.bin .rem false (.t 37) (.c (nv 4294967296))),oO 39 .add 34 38,oJ 40 1 28 32,oS 1 40 39]) (oP [oM 41 5,oM 42 7,oM 43 1,oK 44 .quo 43 32,oO 45 .add 42 44,oK 46 .add 45 1,oM 47 8,oM 48 6,oO 49 .shl 47 48,oQ 50 (.bin .quo false (.t 49) (.c (nv 4294967296))),oJ 51 1 41 46,oS 1 51 50])))) (oP [oK 52 .add 23 1,oM 23 52]))))))) (.seq (oP [oM 53 5,oC 54 F.surdref01_norm 53,oM 4 54]) .ret))))))
def R.surdref01_Shl : List VRes := [.tmp 4]
theorem G.surdref01_Shl : Gok F.surdref01_Shl Try.f26 C.surdref01_Shl R.surdref01_Shl 55 := gk (Try.func26) Try.ntmps26
def C.surdref01_Mul := cD (.seq (oP [oQ 4 (.mov (.c nil1))]) (.seq (oP [oM 12 0,oH 13 12,oM 14 1,oH 15 14,oO 16 .add 13 15,oK 17 .add 16 1,oQ 18 (.mk [.int .u64 0] 8 (.t 17) (.t 17)),oM 5 18]) (.seq (.seq (oP [oM 19 0,oH 20 19,oI 21 0]) (.block 0 (.loop (.seq (oP [oO 22 .lss 21 20]) (.seq (.cond (.t 22) .skip (.exit 0)) (.seq (.block 1 (.seq (oP [oM 23 21,oJ 24 1 19 21,oL 25 24,oM 6 23,oM 7 25]) (.seq (oP [oN 8 0]) (.seq (.seq (oP [oM 26 1,oH 27 26,oI 28 0]) (.block 2 (.loop (.seq (oP [oO 29 .lss 28 27]) (.seq (.cond (.t 29) .skip (.exit 2)) (.seq (.block 3 (.seq (oP [oM 30 28,oJ 31 1 26 28,oL 32 31,oM 9 30,oM 10 32]) (.seq (oP [oM 33 7,oM 34 10,oO 35 .mul 33 34,oM 36 5,oM 37 6,oM 38 9,oO 39 .add 37 38,oJ 40 1 36 39,oL 41 40,oO 42 .add 35 41,oM 43 8,oO 44 .add 42 43,oM 11 44]) (.seq (oP [oM 45 5,oM 46 6,oM 47 9,oO 48 .add 46 47,oM 49 11,oQ 50 (.bin .rem false (.t 49) (.c (nv 4294967296))),oJ 51 1 45 48,oS 1 51 50]) (oP [oM 52 11,oQ 53 (.bin .quo false (.t 52) (.c (nv 4294967296))),oM 8 53]))))) (oP [oK 54 .add 28 1,oM 28 54]))))))) (oP [oM 55 5,oM 56 6,oM 57 1,oH 58 57,oO 59 .add 56 58,oM 60 8,oJ 61 1 55 59,oS 1 61 60]))))) (oP [oK 62 .add 21 1,oM 21 62]))))))) (.seq (oP [oM 63 5,oC 64 F.surdref01_norm 63,oM 4 64]) .ret))))
def R.surdref01_Mul : List VRes := [.tmp 4]
theorem G.surdref01_Mul : Gok F.surdref01_Mul Try.f27 C.surdref01_Mul R.surdref01_Mul 65 := gk (Try.func27) Try.ntmps27
def C.nat_Norm := cD (.seq (oP [oQ 2 (.mov (.c nil1))]) (.seq (oP [oM 3 0,oC 4 F.nat_trim 3,oQ 5 (.app 1 8 [.int .u64 0] (.c nil1) (.t 4)),oM 2 5]) .ret))
def R.nat_Norm : List VRes := [.tmp 2]
theorem G.nat_Norm : Gok F.nat_Norm Try.f28 C.nat_Norm R.nat_Norm 6 := gk (Try.func28) Try.ntmps28
def C.nat_trim := cD (.seq (oP [oQ 2 (.mov (.c nil1))]) (.seq (.block 0 (.loop (.seq (.seq (oP [oM 3 0,oH 4 3,oK 5 .gtr 4 0,oM 6 5,oY 7 0 6 true,oY 8 0 6 true,⟨some 9, .len (.t 8), some (6, true)⟩,⟨some 10, .bin .sub false (.t 9) (.c (iv 1)), some (6, true)⟩,⟨some 11, .ixa 1 (.t 7) (.t 10), some (6, true)⟩,⟨some 12, .load none (.t 11), some (6, true)⟩,⟨some 13, .bin .eql false (.t 12) (.c (nv 0)), some (6, true)⟩,oQ 14 (.pick (.t 6) (.t 13) (.c (bv false)))]) (.cond (.t 14) .skip (.exit 0))) (.block 1 (oP [oM 15 0,oM 16 0,oH 17 16,oK 18 .sub 17 1,oQ 19 (.slc 1 (.t 15) none (some (.t 18)) none),oM 0 19]))))) (.seq (oP [oM 20 0,oM 2 20]) .ret)))
def R.nat_trim : List VRes := [.tmp 2]
theorem G.nat_trim : Gok F.nat_trim Try.f29 C.nat_trim R.nat_trim 21 := gk (Try.func29) Try.ntmps29
def C.bits_Len64 := cD (.seq (oP [oI 2 0]) (.seq (.seq (oP [oM 3 0,oQ 4 (.bin .geq false (.t 3) (.c (nv 4294967296)))]) (.cond (.t 4) (.seq (oP [oM 5 0,oQ 6 (.bin .shr false (.t 5) (.c (nv 32))),oM 0 6]) (oP [oI 2 32])) .skip)) (.seq (.seq (oP [oM 7 0,oQ 8 (.bin .geq false (.t 7) (.c (nv 65536)))]) (.cond (.t 8) (.seq (oP [oM 9 0,oQ 10 (.bin .shr false (.t 9) (.c (nv 16))),oM 0 10]) (oP [oM 11 2,oK 12 .add 11 16,oM 2 12])) .skip)) (.seq (.seq (oP [oM 13 0,oQ 14 (.bin .geq false (.t 13) (.c (nv 256)))]) (.cond (.t 14) (.seq (oP [oM 15 0,oQ 16 (.bin .shr false (.t 15) (.c (nv 8))),oM 0 16]) (oP [oM 17 2,oK 18 .add 17 8,oM 2 18])) .skip)) (.seq (oP [oM 19 2,oM 20 0,oQ 21 (.conv .u8 (.t 20)),⟨some 22, .six (.c (.lit (.string ⟨#[0, 1, 2, 2, 3, 3, 3, 3, 4, 4, 4, 4, 4, 4, 4, 4, 5, 5, 5, 5, 5, 5, 5, 5, 5, 5, 5, 5, 5, 5, 5, 5, 6, 6, 6, 6, 6, 6, 6, 6, 6, 6, 6, 6, 6, 6, 6, 6, 6, 6, 6, 6, 6, 6, 6, 6, 6, 6, 6, 6, 6, 6, 6, 6, 7, 7, 7, 7, 7, 7, 7, 7, 7, 7, 7, 7, 7, 7, 7, 7, 7, 7, 7, 7, 7, 7, 7, 7, 7, 7, 7, 7, 7, 7, 7, 7, 7, 7, 7, 7, 7, 7, 7, 7, 7, 7, 7, 7, 7, 7, 7, 7, 7, 7, 7, 7, 7, 7, 7, 7, 7, 7, 7, 7, 7, 7, 7, 7, 8, 8, 8, 8, 8, 8, 8, 8, 8, 8, 8, 8, 8, 8, 8, 8, 8, 8, 8, 8, 8, 8, 8, 8, 8, 8, 8, 8, 8, 8, 8, 8, 8, 8, 8, 8, 8, 8, 8, 8, 8, 8, 8, 8, 8, 8, 8, 8, 8, 8, 8, 8, 8, 8, 8, 8, 8, 8, 8, 8, 8, 8, 8, 8, 8, 8, 8, 8, 8, 8, 8, 8, 8, 8, 8, 8, 8, 8, 8, 8, 8, 8, 8, 8, 8, 8, 8, 8, 8, 8, 8, 8, 8, 8, 8, 8, 8, 8, 8, 8, 8, 8, 8, 8, 8, 8, 8, 8, 8, 8, 8, 8, 8, 8, 8, 8, 8, 8, 8, 8, 8, 8, 8, 8, 8, 8, 8, 8]⟩))) (.t 21), none⟩,oQ 23 (.conv .i64 (.t 22)),oO 24 .add 19 23,oM 2 24]) .ret)))))
def R.bits_Len64 : List VRes := [.tmp 2]
theorem G.bits_Len64 : Gok F.bits_Len64 Try.f30 C.bits_Len64 R.bits_Len64 25 := gk (Try.func30) Try.ntmps30
def C.roots_newton := cD (.seq (oP [oQ 4 (.mov (.c nil1))]) (.seq (oP [oM 18 0,oC 19 F.nat_Length 18,oM 5 19]) (.seq (.seq (oP [oM 20 1,oM 21 5,oO 22 .geq 20 21]) (.cond (.t 22) (.seq (oP [oQ 23 (.call F.nat_From [.c (nv 1)]),oM 4 23]) .ret) .skip)) (.seq (oP [oM 24 5,oM 25 1,oO 26 .add 24 25,oK 27 .sub 26 1,oM 28 1,oO 29 .quo 27 28,oC 30 F.roots_power 29,oM 6 30]) (.block 0 (.loop (.block 1 (.seq (oP [oM 32 6,oM 33 1,oK 34 .sub 33 1,oD 35 F.mul_Pow 32 34,oM 31 35,oX 36 31 0,oX 37 31 1,oM 7 36,oM 8 37]) (.seq (oP [oM 39 0,oM 40 7,oD 41 F.div_Quo 39 40,oM 38 41,oX 42 38 0,oX 43 38 1,oM 9 42,oM 10 43]) (.seq (oP [oM 45 6,oM 46 1,oK 47 .sub 46 1,oQ 48 (.conv .u64 (.t 47)),oD 49 F.nat_Times 45 48,oM 44 49,oX 50 44 0,oX 51 44 1,oM 11 50,oM 12 51]) (.seq (oP [oM 53 11,oM 54 9,oD 55 F.nat_Add 53 54,oM 52 55,oX 56 52 0,oX 57 52 1,oM 13 56,oM 14 57]) (.seq (oP [oM 59 13,oM 60 1,oQ 61 (.conv .u64 (.t 60)),oD 62 F.nat_Through 59 61,oM 58 62,oX 63 58 0,oX 64 58 1,oX 65 58 2,oM 15 63,oM 16 64,oM 17 65]) (.seq (.seq (oP [oM 66 15,oM 67 6,oD 68 F.nat_Compare 66 67,oK 69 .geq 68 0]) (.cond (.t 69) (.seq (oP [oM 70 6,oM 4 70]) .ret) .skip)) (oP [oM 71 15,oM 6 71]))))))))))))))
def R.roots_newton : List VRes := [.tmp 4]
theorem G.roots_newton : Gok F.roots_newton Try.f31 C.roots_newton R.roots_newton 72 := gk (Try.func31) Try.ntmps31
def C.mul_Pow := cD (.seq (oP [oQ 4 (.mov (.c nil1)),oI 5 0]) (.seq (.seq (oP [oM 10 1,oK 11 .lss 10 0]) (.cond (.t 11) (.seq (oP [oQ 4 (.mov (.c nil1)),oI 5 1]) .ret) .skip)) (.seq (oP [oM 12 0,oC 13 F.nat_Norm 12,oM 0 13]) (.seq (.seq (oP [oM 14 1,oK 15 .eql 14 0]) (.cond (.t 15) (.seq (oP [oQ 16 (.call F.nat_From [.c (nv 1)]),oM 4 16,oI 5 0]) .ret) .skip)) (.seq (oP [oM 17 0,oC 18 F.nat_Length 17,oM 6 18]) (.seq (.seq (oP [oM 19 6,oK 20 .leq 19 1]) (.cond (.t 20) (.seq (oP [oM 21 0,oM 4 21,oI 5 0]) .ret) .skip)) (.seq (.seq (oP [oM 22 1,oK 23 .gtr 22 67108864,oM 24 23,oY 25 6 24 false,⟨some 26, .bin .sub false (.t 25) (.c (iv 1)), some (24, false)⟩,oY 27 1 24 false,⟨some 28, .bin .mul false (.t 26) (.t 27), some (24, false)⟩,⟨some 29, .bin .add false (.t 28) (.c (iv 1)), some (24, false)⟩,⟨some 30, .bin .gtr false (.t 29) (.c (iv 67108864)), some (24, false)⟩,oQ 31 (.pick (.t 24) (.c (bv true)) (.t 30))]) (.cond (.t 31) (.seq (oP [oQ 4 (.mov (.c nil1)),oI 5 3]) .ret) .skip)) (.seq (oP [oQ 32 (.call F.nat_From [.c (nv 1)]),oM 7 32]) (.seq (.seq (oP [oI 8 62]) (.block 0 (.loop (.seq (.seq (oP [oM 33 8,oK 34 .geq 33 0]) (.cond (.t 34) .skip (.exit 0))) (.seq (.block 1 (.seq (oP [oI 9 0]) (.seq (.seq (oP [oM 37 7,oH 38 37,oK 39 .gtr 38 0]) (.cond (.t 39) (.seq (oP [oM 41 7,oC 42 F.mul_Square 41,oM 40 42,oX 43 40 0,oX 44 40 1,oM 7 43,oM 9 44]) (.seq (oP [oM 45 9,oK 46 .neq 45 0]) (.cond (.t 46) (.seq (oP [oM 47 9,oQ 4 (.mov (.c nil1)),oM 5 47]) .ret) .skip))) .skip)) (.seq (oP [oM 48 1,oM 49 8,oO 50 .shr 48 49,oK 51 .and 50 1,oK 52 .eql 51 1]) (.cond (.t 52) (.seq (oP [oM 54 7,oM 55 0,oD 56 F.mul_Mul 54 55,oM 53 56,oX 57 53 0,oX 58 53 1,oM 7 57,oM 9 58]) (.seq (oP [oM 59 9,oK 60 .neq 59 0]) (.cond (.t 60) (.seq (oP [oM 61 9,oQ 4 (.mov (.c nil1)),oM 5 61]) .ret) .skip))) .skip))))) (oP [oM 35 8,oK 36 .sub 35 1,oM 8 36])))))) (.seq (oP [oM 62 7,oM 4 62,oI 5 0]) .ret))))))))))
def R.mul_Pow : List VRes := [.tmp 4, .tmp 5]
theorem G.mul_Pow : Gok F.mul_Pow Try.f32 C.mul_Pow R.mul_Pow 63 := gk (Try.func32) Try.ntmps32
def C.roots_less := cD (.seq (oP [oQ 4 (.mov (.c nil1))]) (.seq (oP [oM 8 0,oM 9 1,oD 10 F.nat_Sub 8 9,oM 7 10,oX 11 7 0,oX 12 7 1,oM 5 11,oM 6 12]) (.seq (oP [oM 13 5,oM 4 13]) .ret)))
def R.roots_less : List VRes := [.tmp 4]
theorem G.roots_less : Gok F.roots_less Try.f33 C.roots_less R.roots_less 14 := gk (Try.func33) Try.ntmps33
def C.surdref01_Num_Limbs := cD (.seq (oP [oQ 2 (.mov (.c nil1))]) (.seq (oP [oQ 3 (.mov (.c nil1))]) (.seq (.seq (oP [oI 4 0]) (.block 0 (.loop (.seq (.seq (oP [oM 6 4,oM 7 0,oH 8 7,oO 9 .lss 6 8]) (.cond (.t 9) .skip (.exit 0))) (.seq (.block 1 (.seq (oP [oM 12 0,oM 13 4,oJ 14 1 12 13,oL 15 14,oM 5 15]) (.seq (.seq (oP [oM 16 4,oK 17 .add 16 1,oM 18 0,oH 19 18,oO 20 .lss 17 19]) (.cond (.t 20) (oP [oM 21 5,oM 22 0,oM 23 4,oK 24 .add 23 1,oJ 25 1 22 24,oL 26 25,oQ 27 (.bin .mul false (.t 26) (.c (nv 4294967296))),oO 28 .add 21 27,oM 5 28]) .skip)) (oP [oM 29 3,oM 30 5,oQ 31 (.bsl true 1 1 [.int .u64 0] [(0, (1, .t 30))]),oQ 32 (.app 1 8 [.int .u64 0] (.t 29) (.t 31)),oM 3 32])))) (oP [oM 10 4,oK 11 .add 10 2,oM 4 11])))))) (.seq (oP [oM 33 3,oM 2 33]) .ret))))
def R.surdref01_Num_Limbs : List VRes := [.tmp 2]
theorem G.surdref01_Num_Limbs : Gok F.surdref01_Num_Limbs Try.f34 C.surdref01_Num_Limbs R.surdref01_Num_Limbs 34 := gk (Try.func34) Try.ntmps34
def C.surdref01_Num_at := cD (.seq (oP [oN 4 0]) (.seq (.seq (oP [oM 5 1,oM 6 0,oH 7 6,oO 8 .lss 5 7]) (.cond (.t 8) (.seq (oP [oM 9 0,oM 10 1,oJ 11 1 9 10,oL 12 11,oM 4 12]) .ret) .skip)) (.seq (oP [oN 4 0]) .ret)))
def R.surdref01_Num_at : List VRes := [.tmp 4]
theorem G.surdref01_Num_at : Gok F.surdref01_Num_at Try.f35 C.surdref01_Num_at R.surdref01_Num_at 13 := gk (Try.func35) Try.ntmps35
def C.nat_From := cD (.seq (oP [oQ 2 (.mov (.c nil1))]) (.seq (.seq (oP [oM 3 0,oQ 4 (.bin .eql false (.t 3) (.c (nv 0)))]) (.cond (.t 4) (.seq (oP [oQ 2 (.mov (.c nil1))]) .ret) .skip)) (.seq (oP [oM 5 0,oQ 6 (.bsl true 1 1 [.int .u64 0] [(0, (1, .t 5))]),oM 2 6]) .ret)))
def R.nat_From : List VRes := [.tmp 2]
theorem G.nat_From : Gok F.nat_From Try.f36 C.nat_From R.nat_From 7 := gk (Try.func36) Try.ntmps36
def C.roots_power := cD (.seq (oP [oQ 2 (.mov (.c nil1))]) (.seq (oP [oQ 6 (.call F.nat_From [.c (nv 1)]),oM 7 0,oD 8 F.nat_Left 6 7,oM 5 8,oX 9 5 0,oX 10 5 1,oM 3 9,oM 4 10]) (.seq (oP [oM 11 3,oM 2 11]) .ret)))
def R.roots_power : List VRes := [.tmp 2]
theorem G.roots_power : Gok F.roots_power Try.f37 C.roots_power R.roots_power 12 := gk (Try.func37) Try.ntmps37
def C.div_Quo := cD (.seq (oP [oQ 4 (.mov (.c nil1)),oI 5 0]) (.seq (oP [oM 8 0,oC 9 F.nat_Norm 8,oM 10 1,oC 11 F.nat_Norm 10,oM 0 9,oM 1 11]) (.seq (.seq (oP [oM 12 1,oH 13 12,oK 14 .eql 13 0]) (.cond (.t 14) (.seq (oP [oQ 4 (.mov (.c nil1)),oI 5 30]) .ret) .skip)) (.seq (oP [oM 16 0,oM 17 1,oD 18 F.div_divide 16 17,oM 15 18,oX 19 15 0,oX 20 15 1,oM 6 19,oM 7 20]) (.seq (.seq (oP [oM 21 6,oC 22 F.nat_Length 21,oK 23 .gtr 22 67108864]) (.cond (.t 23) (.seq (oP [oQ 4 (.mov (.c nil1)),oI 5 3]) .ret) .skip)) (.seq (oP [oM 24 6,oM 4 24,oI 5 0]) .ret))))))
def R.div_Quo : List VRes := [.tmp 4, .tmp 5]
theorem G.div_Quo : Gok F.div_Quo Try.f38 C.div_Quo R.div_Quo 25 := gk (Try.func38) Try.ntmps38
def C.nat_Times := cD (.seq (oP [oQ 4 (.mov (.c nil1)),oI 5 0]) (.seq (oP [oM 14 0,oC 15 F.nat_trim 14,oM 0 15]) (.seq (oP [oM 16 0,oH 17 16,oK 18 .add 17 1,oQ 19 (.mk [.int .u64 0] 8 (.t 18) (.t 18)),oM 6 19]) (.seq (oP [oN 7 0]) (.seq (.seq (oP [oM 20 0,oH 21 20,oI 22 0]) (.block 0 (.loop (.seq (oP [oO 23 .lss 22 21]) (.seq (.cond (.t 23) .skip (.exit 0)) (.seq (.block 1 (.seq (oP [oM 24 22,oJ 25 1 20 22,oL 26 25,oM 8 24,oM 9 26]) (.seq (oP [oM 28 9,oM 29 1,oD 30 F.bits_Mul64 28 29,oM 27 30,oX 31 27 0,oX 32 27 1,oM 10 31,oM 11 32]) (.seq (oP [oM 34 11,oM 35 7,oQ 36 (.ext64 false (.t 34) (.t 35) (.c (nv 0))),oM 33 36,oX 37 33 0,oX 38 33 1,oM 12 37,oM 13 38]) (.seq (oP [oM 39 6,oM 40 8,oM 41 12,oJ 42 1 39 40,oS 1 42 41]) (oP [oM 43 10,oM 44 13,oO 45 .add 43 44,oM 7 45])))))) (oP [oK 46 .add 22 1,oM 22 46]))))))) (.seq (oP [oM 47 6,oM 48 0,oH 49 48,oM 50 7,oJ 51 1 47 49,oS 1 51 50]) (.seq (oP [oM 52 6,oC 53 F.nat_told 52,oX 54 53 0,oX 55 53 1,oM 4 54,oM 5 55]) .ret)))))))
def R.nat_Times : List VRes := [.tmp 4, .tmp 5]
theorem G.nat_Times : Gok F.nat_Times Try.f39 C.nat_Times R.nat_Times 56 := gk (Try.func39) Try.ntmps39
def C.nat_Add := cD (.seq (oP [oQ 4 (.mov (.c nil1)),oI 5 0]) (.seq (oP [oM 10 0,oC 11 F.nat_trim 10,oM 12 1,oC 13 F.nat_trim 12,oM 0 11,oM 1 13]) (.seq (.seq (oP [oM 14 0,oH 15 14,oM 16 1,oH 17 16,oO 18 .lss 15 17]) (.cond (.t 18) (oP [oM 19 1,oM 20 0,oM 0 19,oM 1 20]) .skip)) (.seq (oP [oM 21 0,oH 22 21,oK 23 .add 22 1,oQ 24 (.mk [.int .u64 0] 8 (.t 23) (.t 23)),oM 6 24]) (.seq (oP [oN 7 0]) (.seq (.seq (oP [oM 25 0,oH 26 25,oI 27 0]) (.block 0 (.loop (.seq (oP [oO 28 .lss 27 26]) (.seq (.cond (.t 28) .skip (.exit 0)) (.seq (.block 1 (.seq (oP [oM 29 27,oM 8 29]) (.seq (oP [oN 9 0]) (.seq (.seq (oP [oM 30 8,oM 31 1,oH 32 31,oO 33 .lss 30 32]) (.cond (.t 33) (oP [oM 34 1,oM 35 8,oJ 36 1 34 35,oL 37 36,oM 9 37]) .skip)) (oP [oM 39 6,oM 40 8,oM 41 0,oM 42 8,oJ 43 1 41 42,oL 44 43,oM 45 9,oM 46 7,oQ 47 (.ext64 false (.t 44) (.t 45) (.t 46)),oM 38 47,oX 48 38 0,oX 49 38 1,oJ 50 1 39 40,oS 1 50 48,oM 7 49]))))) (oP [oK 51 .add 27 1,oM 27 51]))))))) (.seq (oP [oM 52 6,oM 53 0,oH 54 53,oM 55 7,oJ 56 1 52 54,oS 1 56 55]) (.seq (oP [oM 57 6,oC 58 F.nat_told 57,oX 59 58 0,oX 60 58 1,oM 4 59,oM 5 60]) .ret))))))))
def R.nat_Add : List VRes := [.tmp 4, .tmp 5]
theorem G.nat_Add : Gok F.nat_Add Try.f40 C.nat_Add R.nat_Add 61 := gk (Try.func40) Try.ntmps40
def C.nat_Through := cD (.seq (oP [oQ 4 (.mov (.c nil1)),oN 5 0,oI 6 0]) (.seq (.seq (oP [oM 11 1,oQ 12 (.bin .eql false (.t 11) (.c (nv 0)))]) (.cond (.t 12) (.seq (oP [oQ 4 (.mov (.c nil1)),oN 5 0,oI 6 1]) .ret) .skip)) (.seq (oP [oM 13 0,oC 14 F.nat_trim 13,oM 0 14]) (.seq (oP [oM 15 0,oH 16 15,oQ 17 (.mk [.int .u64 0] 8 (.t 16) (.t 16)),oM 7 17]) (.seq (oP [oN 8 0]) (.seq (.seq (oP [oM 18 0,oH 19 18,oK 20 .sub 19 1,oM 9 20]) (.block 0 (.loop (.seq (.seq (oP [oM 21 9,oK 22 .geq 21 0]) (.cond (.t 22) .skip (.exit 0))) (.seq (.block 1 (oP [oM 26 7,oM 27 9,oM 28 8,oM 29 0,oM 30 9,oJ 31 1 29 30,oL 32 31,oM 33 1,oE 34 F.bits_Div64 28 32 33,oM 25 34,oX 35 25 0,oX 36 25 1,oJ 37 1 26 27,oS 1 37 35,oM 8 36])) (oP [oM 23 9,oK 24 .sub 23 1,oM 9 24])))))) (.seq (oP [oM 39 7,oC 40 F.nat_told 39,oM 38 40,oX 41 38 0,oX 42 38 1,oM 7 41,oM 10 42]) (.seq (.seq (oP [oM 43 10,oK 44 .neq 43 0]) (.cond (.t 44) (.seq (oP [oM 45 10,oQ 4 (.mov (.c nil1)),oN 5 0,oM 6 45]) .ret) .skip)) (.seq (oP [oM 46 7,oM 47 8,oM 4 46,oM 5 47,oI 6 0]) .ret)))))))))
def R.nat_Through : List VRes := [.tmp 4, .tmp 5, .tmp 6]
theorem G.nat_Through : Gok F.nat_Through Try.f41 C.nat_Through R.nat_Through 48 := gk (Try.func41) Try.ntmps41
def C.nat_Compare := cD (.seq (oP [oI 4 0]) (.seq (oP [oM 6 0,oC 7 F.nat_trim 6,oM 8 1,oC 9 F.nat_trim 8,oM 0 7,oM 1 9]) (.seq (.seq (oP [oM 10 0,oH 11 10,oM 12 1,oH 13 12,oO 14 .neq 11 13]) (.cond (.t 14) (.seq (.seq (oP [oM 15 0,oH 16 15,oM 17 1,oH 18 17,oO 19 .lss 16 18]) (.cond (.t 19) (.seq (oP [oI 4 (-1)]) .ret) .skip)) (.seq (oP [oI 4 1]) .ret)) .skip)) (.seq (.seq (oP [oM 20 0,oH 21 20,oK 22 .sub 21 1,oM 5 22]) (.block 0 (.loop (.seq (.seq (oP [oM 23 5,oK 24 .geq 23 0]) (.cond (.t 24) .skip (.exit 0))) (.seq (.block 1 (.seq (.seq (oR [oM 27 0,oM 28 5,oJ 29 1 27 28,oL 30 29,oM 31 1,oM 32 5,oJ 33 1 31 32,oL 34 33,oO 35 .lss 30 34]) (.cond (.t 35) (.seq (oP [oI 4 (-1)]) .ret) .skip)) (.seq (oR [oM 36 0,oM 37 5,oJ 38 1 36 37,oL 39 38,oM 40 1,oM 41 5,oJ 42 1 40 41,oL 43 42,oO 44 .gtr 39 43]) (.cond (.t 44) (.seq (oP [oI 4 1]) .ret) .skip)))) (oP [oM 25 5,oK 26 .sub 25 1,oM 5 26])))))) (.seq (oP [oI 4 0]) .ret)))))
def R.nat_Compare : List VRes := [.tmp 4]
theorem G.nat_Compare : Gok F.nat_Compare Try.f42 C.nat_Compare R.nat_Compare 45 := gk (Try.func42) Try.ntmps42
def C.mul_Square := cD (.seq (oP [oQ 2 (.mov (.c nil1)),oI 3 0]) (.seq (oP [oM 4 0,oM 5 0,oD 6 F.mul_Mul 4 5,oX 7 6 0,oX 8 6 1,oM 2 7,oM 3 8]) .ret))
def R.mul_Square : List VRes := [.tmp 2, .tmp 3]
theorem G.mul_Square : Gok F.mul_Square Try.f43 C.mul_Square R.mul_Square 9 := gk (Try.func43) Try.ntmps43
def C.mul_Mul := cD (.seq (oP [oQ 4 (.mov (.c nil1)),oI 5 0]) (.seq (oP [oM 6 0,oM 7 1,oQ 8 (.call F.mul_product [.t 6, .t 7, .c (.lit (.func (.func F.mul_Mul_1) #[] #[]))]),oX 9 8 0,oX 10 8 1,oM 4 9,oM 5 10]) .ret))
def R.mul_Mul : List VRes := [.tmp 4, .tmp 5]
theorem G.mul_Mul : Gok F.mul_Mul Try.f44 C.mul_Mul R.mul_Mul 11 := gk (Try.func44) Try.ntmps44
def C.nat_Sub := cD (.seq (oP [oQ 4 (.mov (.c nil1)),oI 5 0]) (.seq (.seq (oP [oM 10 0,oM 11 1,oD 12 F.nat_Compare 10 11,oK 13 .lss 12 0]) (.cond (.t 13) (.seq (oP [oQ 4 (.mov (.c nil1)),oI 5 10]) .ret) .skip)) (.seq (oP [oM 14 0,oC 15 F.nat_trim 14,oM 16 1,oC 17 F.nat_trim 16,oM 0 15,oM 1 17]) (.seq (oP [oM 18 0,oH 19 18,oQ 20 (.mk [.int .u64 0] 8 (.t 19) (.t 19)),oM 6 20]) (.seq (oP [oN 7 0]) (.seq (.seq (oP [oM 21 0,oH 22 21,oI 23 0]) (.block 0 (.loop (.seq (oP [oO 24 .lss 23 22]) (.seq (.cond (.t 24) .skip (.exit 0)) (.seq (.block 1 (.seq (oP [oM 25 23,oM 8 25]) (.seq (oP [oN 9 0]) (.seq (.seq (oP [oM 26 8,oM 27 1,oH 28 27,oO 29 .lss 26 28]) (.cond (.t 29) (oP [oM 30 1,oM 31 8,oJ 32 1 30 31,oL 33 32,oM 9 33]) .skip)) (oP [oM 35 6,oM 36 8,oM 37 0,oM 38 8,oJ 39 1 37 38,oL 40 39,oM 41 9,oM 42 7,oQ 43 (.ext64 true (.t 40) (.t 41) (.t 42)),oM 34 43,oX 44 34 0,oX 45 34 1,oJ 46 1 35 36,oS 1 46 44,oM 7 45]))))) (oP [oK 47 .add 23 1,oM 23 47]))))))) (.seq (oP [oM 48 6,oC 49 F.nat_told 48,oX 50 49 0,oX 51 49 1,oM 4 50,oM 5 51]) .ret)))))))
def R.nat_Sub : List VRes := [.tmp 4, .tmp 5]
theorem G.nat_Sub : Gok F.nat_Sub Try.f45 C.nat_Sub R.nat_Sub 52 := gk (Try.func45) Try.ntmps45
def C.nat_Left := cD (.seq (oP [oQ 4 (.mov (.c nil1)),oI 5 0]) (.seq (.seq (oP [oM 11 1,oK 12 .lss 11 0,oM 13 12,oY 14 1 13 false,⟨some 15, .bin .gtr false (.t 14) (.c (iv 1099511627776)), some (13, false)⟩,oQ 16 (.pick (.t 13) (.c (bv true)) (.t 15))]) (.cond (.t 16) (.seq (oP [oQ 4 (.mov (.c nil1)),oI 5 1]) .ret) .skip)) (.seq (oP [oM 17 0,oC 18 F.nat_trim 17,oM 0 18]) (.seq (.seq (oP [oM 19 0,oH 20 19,oK 21 .eql 20 0]) (.cond (.t 21) (.seq (oP [oQ 4 (.mov (.c nil1)),oI 5 0]) .ret) .skip)) (.seq (.seq (oP [oM 22 0,oC 23 F.nat_Length 22,oM 24 1,oO 25 .add 23 24,oK 26 .gtr 25 67108864]) (.cond (.t 26) (.seq (oP [oQ 4 (.mov (.c nil1)),oI 5 3]) .ret) .skip)) (.seq (oP [oM 27 1,oK 28 .quo 27 64,oM 29 1,oK 30 .rem 29 64,oQ 31 (.conv .u64 (.t 30)),oM 6 28,oM 7 31]) (.seq (oP [oM 32 6,oM 33 0,oH 34 33,oO 35 .add 32 34,oK 36 .add 35 1,oQ 37 (.mk [.int .u64 0] 8 (.t 36) (.t 36)),oM 8 37]) (.seq (.seq (oP [oM 38 0,oH 39 38,oI 40 0]) (.block 0 (.loop (.seq (oP [oO 41 .lss 40 39]) (.seq (.cond (.t 41) .skip (.exit 0)) (.seq (.block 1 (.seq (oP [oM 42 40,oJ 43 1 38 40,oL 44 43,oM 9 42,oM 10 44]) (.seq (oP [oM 45 8,oM 46 6,oM 47 9,oO 48 .add 46 47,oJ 49 1 45 48,oL 50 49,oM 51 10,oM 52 7,oO 53 .shl 51 52,oO 54 .or 50 53,oJ 55 1 45 48,oS 1 55 54]) (oP [oM 56 8,oM 57 6,oM 58 9,oO 59 .add 57 58,oK 60 .add 59 1,oJ 61 1 56 60,oL 62 61,oM 63 10,oQ 64 (.bin .shr false (.t 63) (.c (nv 1))),oM 65 7,oQ 66 (.bin .sub false (.c (nv 63)) (.t 65)),oO 67 .shr 64 66,oO 68 .or 62 67,oJ 69 1 56 60,oS 1 69 68])))) (oP [oK 70 .add 40 1,oM 40 70]))))))) (.seq (oP [oM 71 8,oC 72 F.nat_trim 71,oM 4 72,oI 5 0]) .ret)))))))))
def R.nat_Left : List VRes := [.tmp 4, .tmp 5]
theorem G.nat_Left : Gok F.nat_Left Try.f46 C.nat_Left R.nat_Left 73 := gk (Try.func46) Try.ntmps46
def C.div_divide := cD (.seq (oP [oQ 4 (.mov (.c nil1)),oQ 5 (.mov (.c nil1))]) (.seq (.seq (oP [oM 15 0,oM 16 1,oD 17 F.nat_Compare 15 16,oK 18 .lss 17 0]) (.cond (.t 18) (.seq (oP [oM 19 0,oQ 4 (.mov (.c nil1)),oM 5 19]) .ret) .skip)) (.seq (.seq (oP [oM 20 1,oH 21 20,oK 22 .eql 21 1]) (.cond (.t 22) (.seq (oP [oM 23 0,oH 24 23,oQ 25 (.mk [.int .u64 0] 8 (.t 24) (.t 24)),oM 6 25,oN 7 0]) (.seq (.seq (oP [oM 26 0,oH 27 26,oK 28 .sub 27 1,oM 8 28]) (.block 0 (.loop (.seq (.seq (oP [oM 29 8,oK 30 .geq 29 0]) (.cond (.t 30) .skip (.exit 0))) (.seq (.block 1 (oR [oM 34 6,oM 35 8,oM 36 7,oM 37 0,oM 38 8,oJ 39 1 37 38,oL 40 39,oM 41 1,oQ 42 (.ixa 1 (.t 41) (.c (iv 0))),oL 43 42,oE 44 F.bits_Div64 36 40 43,oM 33 44,oX 45 33 0,oX 46 33 1,oJ 47 1 34 35,oS 1 47 45,oM 7 46])) (oP [oM 31 8,oK 32 .sub 31 1,oM 8 32])))))) (.seq (oP [oM 48 6,oC 49 F.nat_Norm 48,oM 50 7,oC 51 F.nat_From 50,oM 4 49,oM 5 51]) .ret))) .skip)) (.seq (oP [oM 52 1,oM 53 1,oH 54 53,oK 55 .sub 54 1,oJ 56 1 52 55,oL 57 56,oC 58 F.bits_LeadingZeros64 57,oQ 59 (.conv .u64 (.t 58)),oM 9 59]) (.seq (oR [oM 60 0,oM 61 9,oD 62 F.div_up 60 61,oM 63 1,oM 64 9,oD 65 F.div_up 63 64,oM 66 1,oH 67 66,oQ 68 (.slc 1 (.t 65) none (some (.t 67)) none),oM 10 62,oM 11 68]) (.seq (oP [oM 69 11,oH 70 69,oM 12 70]) (.seq (oP [oM 71 0,oH 72 71,oM 73 12,oO 74 .sub 72 73,oK 75 .add 74 1,oQ 76 (.mk [.int .u64 0] 8 (.t 75) (.t 75)),oM 13 76]) (.seq (.seq (oP [oM 77 0,oH 78 77,oM 79 12,oO 80 .sub 78 79,oM 14 80]) (.block 2 (.loop (.seq (.seq (oP [oM 81 14,oK 82 .geq 81 0]) (.cond (.t 82) .skip (.exit 2))) (.seq (.block 3 (oP [oM 85 13,oM 86 14,oM 87 10,oM 88 14,oM 89 14,oM 90 12,oO 91 .add 89 90,oK 92 .add 91 1,oQ 93 (.slc 1 (.t 87) (some (.t 88)) (some (.t 92)) none),oM 94 11,oD 95 F.div_guess 93 94,oJ 96 1 85 86,oS 1 96 95])) (oP [oM 83 14,oK 84 .sub 83 1,oM 14 84])))))) (.seq (oR [oM 97 13,oC 98 F.nat_Norm 97,oM 99 10,oM 100 12,oQ 101 (.slc 1 (.t 99) none (some (.t 100)) none),oM 102 9,oD 103 F.div_down 101 102,oM 4 98,oM 5 103]) .ret)))))))))
def R.div_divide : List VRes := [.tmp 4, .tmp 5]
theorem G.div_divide : Gok F.div_divide Try.f47 C.div_divide R.div_divide 104 := gk (Try.func47) Try.ntmps47
def C.bits_Mul64 := cD (.seq (oP [oN 4 0,oN 5 0]) (.seq (oP [oM 14 0,oQ 15 (.bin .and false (.t 14) (.c (nv 4294967295))),oM 6 15]) (.seq (oP [oM 16 0,oQ 17 (.bin .shr false (.t 16) (.c (nv 32))),oM 7 17]) (.seq (oP [oM 18 1,oQ 19 (.bin .and false (.t 18) (.c (nv 4294967295))),oM 8 19]) (.seq (oP [oM 20 1,oQ 21 (.bin .shr false (.t 20) (.c (nv 32))),oM 9 21]) (.seq (oP [oM 22 6,oM 23 8,oO 24 .mul 22 23,oM 10 24]) (.seq (oP [oM 25 7,oM 26 8,oO 27 .mul 25 26,oM 28 10,oQ 29 (.bin .shr false (.t 28) (.c (nv 32))),oO 30 .add 27 29,oM 11 30]) (.seq (oP [oM 31 11,oQ 32 (.bin .and false (.t 31) (.c (nv 4294967295))),oM 12 32]) (.seq (oP [oM 33 11,oQ 34 (.bin .shr false (.t 33) (.c (nv 32))),oM 13 34]) (.seq (oP [oM 35 12,oM 36 6,oM 37 9,oO 38 .mul 36 37,oO 39 .add 35 38,oM 12 39]) (.seq (oP [oM 40 7,oM 41 9,oO 42 .mul 40 41,oM 43 13,oO 44 .add 42 43,oM 45 12,oQ 46 (.bin .shr false (.t 45) (.c (nv 32))),oO 47 .add 44 46,oM 4 47]) (.seq (oP [oM 48 0,oM 49 1,oO 50 .mul 48 49,oM 5 50]) .ret))))))))))))
def R.bits_Mul64 : List VRes := [.tmp 4, .tmp 5]
theorem G.bits_Mul64 : Gok F.bits_Mul64 Try.f48 C.bits_Mul64 R.bits_Mul64 51 := gk (Try.func48) Try.ntmps48
def C.nat_told := cD (.seq (oP [oQ 2 (.mov (.c nil1)),oI 3 0]) (.seq (oP [oM 4 0,oC 5 F.nat_trim 4,oM 0 5]) (.seq (.seq (oP [oM 6 0,oC 7 F.nat_Length 6,oK 8 .gtr 7 67108864]) (.cond (.t 8) (.seq (oP [oQ 2 (.mov (.c nil1)),oI 3 3]) .ret) .skip)) (.seq (oP [oM 9 0,oM 2 9,oI 3 0]) .ret))))
def R.nat_told : List VRes := [.tmp 2, .tmp 3]
theorem G.nat_told : Gok F.nat_told Try.f50 C.nat_told R.nat_told 10 := gk (Try.func50) Try.ntmps50
def C.bits_Div64 := cD (.seq (oP [oN 6 0,oN 7 0]) (.seq (.seq (oP [oM 19 2,oQ 20 (.bin .eql false (.t 19) (.c (nv 0)))]) (.cond (.t 20) (oP [oQ 21 (.load none (.c (.gptr 0 0))),⟨none, .bad, none⟩]) .skip)) (.seq (.seq (oP [oM 22 2,oM 23 0,oO 24 .leq 22 23]) (.cond (.t 24) (oP [oQ 25 (.load none (.c (.gptr 1 0))),⟨none, .bad, none⟩]) .skip)) (.seq (.seq (oP [oM 26 0,oQ 27 (.bin .eql false (.t 26) (.c (nv 0)))]) (.cond (.t 27) (.seq (oR [oM 28 1,oM 29 2,oO 30 .quo 28 29,oM 31 1,oM 32 2,oO 33 .rem 31 32,oM 6 30,oM 7 33]) .ret) .skip)) (.seq (oP [oM 34 2,oC 35 F.bits_LeadingZeros64 34,oQ 36 (.conv .u64 (.t 35)),oM 8 36]) (.seq (oP [oM 37 2,oM 38 8,oO 39 .shl 37 38,oM 2 39]) (.seq (oP [oM 40 2,oQ 41 (.bin .shr false (.t 40) (.c (nv 32))),oM 9 41]) (.seq (oP [oM 42 2,oQ 43 (.bin .and false (.t 42) (.c (nv 4294967295))),oM 10 43]) (.seq (oP [oM 44 0,oM 45 8,oO 46 .shl 44 45,oM 47 1,oM 48 8,oQ 49 (.bin .sub false (.c (nv 64)) (.t 48)),oO 50 .shr 47 49,oO 51 .or 46 50,oM 11 51]) (.seq (oP [oM 52 1,oM 53 8,oO 54 .shl 52 53,oM 12 54]) (.seq (oP [oM 55 12,oQ 56 (.bin .shr false (.t 55) (.c (nv 32))),oM 13 56]) (.seq (oP [oM 57 12,oQ 58 (.bin .and false (.t 57) (.c (nv 4294967295))),oM 14 58]) (.seq (oP [oM 59 11,oM 60 9,oO 61 .quo 59 60,oM 15 61]) (.seq (oP [oM 62 11,oM 63 15,oM 64 9,oO 65 .mul 63 64,oO 66 .sub 62 65,oM 16 66]) (.seq (.block 0 (.loop (.seq (.seq (oP [oM 67 15,oQ 68 (.bin .geq false (.t 67) (.c (nv 4294967296))),oM 69 68,oY 70 15 69 false,oY 71 10 69 false,⟨some 72, .bin .mul false (.t 70) (.t 71), some (69, false)⟩,oY 73 16 69 false,⟨some 74, .bin .mul false (.c (nv 4294967296)) (.t 73), some (69, false)⟩,oY 75 13 69 false,⟨some 76, .bin .add false (.t 74) (.t 75), some (69, false)⟩,⟨some 77, .bin .gtr false (.t 72) (.t 76), some (69, false)⟩,oQ 78 (.pick (.t 69) (.c (bv true)) (.t 77))]) (.cond (.t 78) .skip (.exit 0))) (.block 1 (.seq (oP [oM 79 15,oQ 80 (.bin .sub false (.t 79) (.c (nv 1))),oM 15 80]) (.seq (oP [oM 81 16,oM 82 9,oO 83 .add 81 82,oM 16 83]) (.seq (oP [oM 84 16,oQ 85 (.bin .geq false (.t 84) (.c (nv 4294967296)))]) (.cond (.t 85) (.exit 0) .skip)))))))) (.seq (oP [oM 86 11,oQ 87 (.bin .mul false (.t 86) (.c (nv 4294967296))),oM 88 13,oO 89 .add 87 88,oM 90 15,oM 91 2,oO 92 .mul 90 91,oO 93 .sub 89 92,oM 17 93]) (.seq (oP [oM 94 17,oM 95 9,oO 96 .quo 94 95,oM 18 96]) (.seq (oP [oM 97 17,oM 98 18,oM 99 9,oO 100 .mul 98 99,oO 101 .sub 97 100,oM 16 101]) (.seq (.block 2 (.loop (.seq (.seq (oP [oM 102 18,oQ 103 (.bin .geq false (.t 102) (.c (nv 4294967296))),oM 104 103,oY 105 18 104 false,oY 106 10 104 false,⟨some 107, .bin .mul false (.t 105) (.t 106), some (104, false)⟩,oY 108 16 104 false,⟨some 109, .bin .mul false (.c (nv 4294967296)) (.t 108), some (104, false)⟩,oY 110 14 104 false,⟨some 111, .bin .add false (.t 109) (.t 110), some (104, false)⟩,⟨some 112, .bin .gtr false (.t 107) (.t 111), some (104, false)⟩,oQ 113 (.pick (.t 104) (.c (bv true)) (.t 112))]) (.cond (.t 113) .skip (.exit 2))) (.block 3 (.seq (oP [oM 114 18,oQ 115 (.bin .sub false (.t 114) (.c (nv 1))),oM 18 115]) (.seq (oP [oM 116 16,oM 117 9,oO 118 .add 116 117,oM 16 118]) (.seq (oP [oM 119 16,oQ 120 (.bin .geq false (.t 119) (.c (nv 4294967296)))]) (.cond (.t 120) (.exit 2) .skip)))))))) (.seq (oP [oM 121 15,oQ 122 (.bin .mul false (.t 121) (.c (nv 4294967296))),oM 123 18,oO 124 .add 122 123,oM 125 17,oQ 126 (.bin .mul false (.t 125) (.c (nv 4294967296))),oM 127 14,oO 128 .add 126 127,oM 129 18,oM 130 2,oO 131 .mul 129 130,oO 132 .sub 128 131,oM 133 8,oO 134 .shr 132 133,oM 6 124,oM 7 134]) .ret))))))))))))))))))))
def R.bits_Div64 : List VRes := [.tmp 6, .tmp 7]
theorem G.bits_Div64 : Gok F.bits_Div64 Try.f51 C.bits_Div64 R.bits_Div64 135 := gk (Try.func51) Try.ntmps51
def C.mul_product := cD (.seq (oP [oQ 6 (.mov (.c nil1)),oI 7 0]) (.seq (oP [oM 8 0,oC 9 F.nat_Norm 8,oM 10 1,oC 11 F.nat_Norm 10,oM 0 9,oM 1 11]) (.seq (.seq (oP [oM 12 0,oM 13 1,oD 14 F.mul_great 12 13]) (.cond (.t 14) (.seq (oP [oQ 6 (.mov (.c nil1)),oI 7 3]) .ret) .skip)) (.seq (oP [oM 15 2,oM 16 0,oM 17 1,oQ 18 (.callv (.t 15) [.t 16, .t 17]),oC 19 F.mul_fits 18,oX 20 19 0,oX 21 19 1,oM 6 20,oM 7 21]) .ret))))
def R.mul_product : List VRes := [.tmp 6, .tmp 7]
theorem G.mul_product : Gok F.mul_product Try.f52 C.mul_product R.mul_product 22 := gk (Try.func52) Try.ntmps52
def C.mul_Mul_1 := cD (.seq (oP [oQ 4 (.mov (.c nil1))]) (.seq (oP [oM 5 0,oM 6 1,oQ 7 (.call F.mul_halved [.t 5, .t 6, .c (iv 40)]),oM 4 7]) .ret))
def R.mul_Mul_1 : List VRes := [.tmp 4]
theorem G.mul_Mul_1 : Gok F.mul_Mul_1 Try.f53 C.mul_Mul_1 R.mul_Mul_1 8 := gk (Try.func53) Try.ntmps53
def C.mul_halved := cD (.seq (oP [oQ 6 (.mov (.c nil1))]) (.seq (.seq (oP [oM 17 0,oH 18 17,oM 19 1,oH 20 19,oO 21 .lss 18 20]) (.cond (.t 21) (oP [oM 22 1,oM 23 0,oM 0 22,oM 1 23]) .skip)) (.seq (.seq (oP [oM 24 1,oH 25 24,oM 26 2,oO 27 .lss 25 26]) (.cond (.t 27) (.seq (oP [oM 28 0,oM 29 1,oD 30 F.mul_school 28 29,oM 6 30]) .ret) .skip)) (.seq (oP [oM 31 0,oH 32 31,oK 33 .add 32 1,oK 34 .quo 33 2,oM 7 34]) (.seq (.seq (oP [oM 35 1,oH 36 35,oM 37 7,oO 38 .leq 36 37]) (.cond (.t 38) (.seq (oP [oM 39 0,oH 40 39,oM 41 1,oH 42 41,oO 43 .add 40 42,oK 44 .add 43 1,oQ 45 (.mk [.int .u64 0] 8 (.t 44) (.t 44)),oM 8 45]) (.seq (oP [oM 46 8,oM 47 0,oM 48 7,oQ 49 (.call F.mul_part [.t 47, .c (iv 0), .t 48]),oM 50 1,oM 51 2,oE 52 F.mul_halved 49 50 51,oQ 53 (.call F.mul_addAt [.t 46, .t 52, .c (iv 0)])]) (.seq (oP [oM 54 8,oM 55 0,oM 56 7,oM 57 0,oH 58 57,oE 59 F.mul_part 55 56 58,oM 60 1,oM 61 2,oE 62 F.mul_halved 59 60 61,oM 63 7,oE 64 F.mul_addAt 54 62 63]) (.seq (oP [oM 65 8,oM 6 65]) .ret)))) .skip)) (.seq (oP [oM 66 0,oM 67 7,oQ 68 (.call F.mul_part [.t 66, .c (iv 0), .t 67]),oM 69 0,oM 70 7,oM 71 0,oH 72 71,oE 73 F.mul_part 69 70 72,oM 74 1,oM 75 7,oQ 76 (.call F.mul_part [.t 74, .c (iv 0), .t 75]),oM 77 1,oM 78 7,oM 79 1,oH 80 79,oE 81 F.mul_part 77 78 80,oM 9 68,oM 10 73,oM 11 76,oM 12 81]) (.seq (oP [oM 82 9,oM 83 11,oM 84 2,oE 85 F.mul_halved 82 83 84,oM 86 10,oM 87 12,oM 88 2,oE 89 F.mul_halved 86 87 88,oM 13 85,oM 14 89]) (.seq (oP [oM 90 9,oM 91 10,oD 92 F.mul_sum 90 91,oC 93 F.nat_Norm 92,oM 94 11,oM 95 12,oD 96 F.mul_sum 94 95,oC 97 F.nat_Norm 96,oM 98 2,oE 99 F.mul_halved 93 97 98,oM 100 13,oD 101 F.mul_less 99 100,oM 102 14,oD 103 F.mul_less 101 102,oM 15 103]) (.seq (oP [oM 104 0,oH 105 104,oM 106 1,oH 107 106,oO 108 .add 105 107,oK 109 .add 108 1,oQ 110 (.mk [.int .u64 0] 8 (.t 109) (.t 109)),oM 16 110]) (.seq (oP [oM 111 16,oM 112 13,oQ 113 (.call F.mul_addAt [.t 111, .t 112, .c (iv 0)])]) (.seq (oP [oM 114 16,oM 115 15,oM 116 7,oE 117 F.mul_addAt 114 115 116]) (.seq (oP [oM 118 16,oM 119 14,oM 120 7,oQ 121 (.bin .mul false (.c (iv 2)) (.t 120)),oE 122 F.mul_addAt 118 119 121]) (.seq (oP [oM 123 16,oM 6 123]) .ret)))))))))))))
def R.mul_halved : List VRes := [.tmp 6]
theorem G.mul_halved : Gok F.mul_halved Try.f54 C.mul_halved R.mul_halved 124 := gk (Try.func54) Try.ntmps54
def C.bits_LeadingZeros64 := cD (.seq (oP [oI 2 0]) (.seq (oP [oM 3 0,oC 4 F.bits_Len64 3,oQ 5 (.bin .sub false (.c (iv 64)) (.t 4)),oM 2 5]) .ret))
def R.bits_LeadingZeros64 : List VRes := [.tmp 2]
theorem G.bits_LeadingZeros64 : Gok F.bits_LeadingZeros64 Try.f56 C.bits_LeadingZeros64 R.bits_LeadingZeros64 6 := gk (Try.func56) Try.ntmps56
def C.div_up := cD (.seq (oP [oQ 4 (.mov (.c nil1))]) (.seq (oP [oM 8 0,oH 9 8,oK 10 .add 9 1,oQ 11 (.mk [.int .u64 0] 8 (.t 10) (.t 10)),oM 5 11]) (.seq (.seq (oP [oM 12 0,oH 13 12,oI 14 0]) (.block 0 (.loop (.seq (oP [oO 15 .lss 14 13]) (.seq (.cond (.t 15) .skip (.exit 0)) (.seq (.block 1 (.seq (oP [oM 16 14,oJ 17 1 12 14,oL 18 17,oM 6 16,oM 7 18]) (.seq (oP [oM 19 5,oM 20 6,oJ 21 1 19 20,oL 22 21,oM 23 7,oM 24 1,oO 25 .shl 23 24,oO 26 .or 22 25,oJ 27 1 19 20,oS 1 27 26]) (oP [oM 28 5,oM 29 6,oK 30 .add 29 1,oM 31 7,oQ 32 (.bin .shr false (.t 31) (.c (nv 1))),oM 33 1,oQ 34 (.bin .sub false (.c (nv 63)) (.t 33)),oO 35 .shr 32 34,oJ 36 1 28 30,oS 1 36 35])))) (oP [oK 37 .add 14 1,oM 14 37]))))))) (.seq (oP [oM 38 5,oM 4 38]) .ret))))
def R.div_up : List VRes := [.tmp 4]
theorem G.div_up : Gok F.div_up Try.f57 C.div_up R.div_up 39 := gk (Try.func57) Try.ntmps57
def C.div_guess := cD (.seq (oP [oN 4 0]) (.seq (oP [oM 24 1,oH 25 24,oM 5 25]) (.seq (oP [oN 6 0,oN 7 0]) (.seq (oP [oQ 8 (.mov (.c (bv false)))]) (.seq (.seq (oR [oM 26 0,oM 27 5,oJ 28 1 26 27,oL 29 28,oM 30 1,oM 31 5,oK 32 .sub 31 1,oJ 33 1 30 32,oL 34 33,oO 35 .geq 29 34]) (.cond (.t 35) (.seq (oP [oN 6 18446744073709551615]) (.seq (oP [oN 9 0]) (.seq (oR [oM 37 0,oM 38 5,oK 39 .sub 38 1,oJ 40 1 37 39,oL 41 40,oM 42 1,oM 43 5,oK 44 .sub 43 1,oJ 45 1 42 44,oL 46 45,oQ 47 (.ext64 false (.t 41) (.t 46) (.c (nv 0))),oM 36 47,oX 48 36 0,oX 49 36 1,oM 7 48,oM 9 49]) (oP [oM 50 9,oQ 51 (.bin .neq false (.t 50) (.c (nv 0))),oM 8 51])))) (oR [oM 53 0,oM 54 5,oJ 55 1 53 54,oL 56 55,oM 57 0,oM 58 5,oK 59 .sub 58 1,oJ 60 1 57 59,oL 61 60,oM 62 1,oM 63 5,oK 64 .sub 63 1,oJ 65 1 62 64,oL 66 65,oE 67 F.bits_Div64 56 61 66,oM 52 67,oX 68 52 0,oX 69 52 1,oM 6 68,oM 7 69]))) (.seq (.block 0 (.loop (.seq (.seq (oP [oM 70 8,oQ 71 (.un .not (.t 70))]) (.cond (.t 71) .skip (.exit 0))) (.block 1 (.seq (oP [oM 73 6,oM 74 1,oM 75 5,oK 76 .sub 75 2,oJ 77 1 74 76,oL 78 77,oD 79 F.bits_Mul64 73 78,oM 72 79,oX 80 72 0,oX 81 72 1,oM 10 80,oM 11 81]) (.seq (.seq (oP [oM 82 10,oM 83 7,oO 84 .lss 82 83,oM 85 84,oY 86 10 85 false,oY 87 7 85 false,⟨some 88, .bin .eql false (.t 86) (.t 87), some (85, false)⟩,oY 89 88 85 false,oY 90 11 89 true,oY 91 0 89 true,oY 92 5 89 true,⟨some 93, .bin .sub false (.t 92) (.c (iv 2)), some (89, true)⟩,⟨some 94, .ixa 1 (.t 91) (.t 93), some (89, true)⟩,⟨some 95, .load none (.t 94), some (89, true)⟩,⟨some 96, .bin .leq false (.t 90) (.t 95), some (89, true)⟩,⟨some 97, .pick (.t 89) (.t 96) (.c (bv false)), some (85, false)⟩,oQ 98 (.pick (.t 85) (.c (bv true)) (.t 97))]) (.cond (.t 98) (.exit 0) .skip)) (.seq (oP [oM 99 6,oQ 100 (.bin .sub false (.t 99) (.c (nv 1))),oM 6 100]) (.seq (oP [oN 12 0]) (.seq (oP [oM 102 7,oM 103 1,oM 104 5,oK 105 .sub 104 1,oJ 106 1 103 105,oL 107 106,oQ 108 (.ext64 false (.t 102) (.t 107) (.c (nv 0))),oM 101 108,oX 109 101 0,oX 110 101 1,oM 7 109,oM 12 110]) (.seq (oP [oM 111 12,oQ 112 (.bin .neq false (.t 111) (.c (nv 0)))]) (.cond (.t 112) (.exit 0) .skip))))))))))) (.seq (oP [oN 13 0,oN 14 0]) (.seq (.seq (oP [oM 113 1,oH 114 113,oI 115 0]) (.block 2 (.loop (.seq (oP [oO 116 .lss 115 114]) (.seq (.cond (.t 116) .skip (.exit 2)) (.seq (.block 3 (.seq (oP [oM 117 115,oJ 118 1 113 115,oL 119 118,oM 15 117,oM 16 119]) (.seq (oP [oM 121 16,oM 122 6,oD 123 F.bits_Mul64 121 122,oM 120 123,oX 124 120 0,oX 125 120 1,oM 17 124,oM 18 125]) (.seq (oP [oM 127 18,oM 128 13,oQ 129 (.ext64 false (.t 127) (.t 128) (.c (nv 0))),oM 126 129,oX 130 126 0,oX 131 126 1,oM 19 130,oM 20 131]) (.seq (oP [oM 132 17,oM 133 20,oO 134 .add 132 133,oM 13 134]) (oP [oM 136 0,oM 137 15,oM 138 0,oM 139 15,oJ 140 1 138 139,oL 141 140,oM 142 19,oM 143 14,oQ 144 (.ext64 true (.t 141) (.t 142) (.t 143)),oM 135 144,oX 145 135 0,oX 146 135 1,oJ 147 1 136 137,oS 1 147 145,oM 14 146])))))) (oP [oK 148 .add 115 1,oM 115 148]))))))) (.seq (oP [oM 150 0,oM 151 5,oM 152 0,oM 153 5,oJ 154 1 152 153,oL 155 154,oM 156 13,oM 157 14,oQ 158 (.ext64 true (.t 155) (.t 156) (.t 157)),oM 149 158,oX 159 149 0,oX 160 149 1,oJ 161 1 150 151,oS 1 161 159,oM 14 160]) (.seq (.seq (oP [oM 162 14,oQ 163 (.bin .neq false (.t 162) (.c (nv 0)))]) (.cond (.t 163) (.seq (oP [oM 164 6,oQ 165 (.bin .sub false (.t 164) (.c (nv 1))),oM 6 165]) (.seq (oP [oN 21 0]) (.seq (.seq (oP [oM 166 1,oH 167 166,oI 168 0]) (.block 4 (.loop (.seq (oP [oO 169 .lss 168 167]) (.seq (.cond (.t 169) .skip (.exit 4)) (.seq (.block 5 (.seq (oP [oM 170 168,oJ 171 1 166 168,oL 172 171,oM 22 170,oM 23 172]) (oP [oM 174 0,oM 175 22,oM 176 0,oM 177 22,oJ 178 1 176 177,oL 179 178,oM 180 23,oM 181 21,oQ 182 (.ext64 false (.t 179) (.t 180) (.t 181)),oM 173 182,oX 183 173 0,oX 184 173 1,oJ 185 1 174 175,oS 1 185 183,oM 21 184]))) (oP [oK 186 .add 168 1,oM 168 186]))))))) (oP [oM 187 0,oM 188 5,oJ 189 1 187 188,oL 190 189,oM 191 21,oO 192 .add 190 191,oJ 193 1 187 188,oS 1 193 192])))) .skip)) (.seq (oP [oM 194 6,
 oM 4 194]) .ret)))))))))))
def R.div_guess : List VRes := [.tmp 4]
theorem G.div_guess : Gok F.div_guess Try.f58 C.div_guess R.div_guess 195 := gk (Try.func58) Try.ntmps58
def C.div_down := cD (.seq (oP [oQ 4 (.mov (.c nil1))]) (.seq (oP [oM 8 0,oH 9 8,oQ 10 (.mk [.int .u64 0] 8 (.t 9) (.t 9)),oM 5 10]) (.seq (.seq (oP [oM 11 0,oH 12 11,oI 13 0]) (.block 0 (.loop (.seq (oP [oO 14 .lss 13 12]) (.seq (.cond (.t 14) .skip (.exit 0)) (.seq (.block 1 (.seq (oP [oM 15 13,oJ 16 1 11 13,oL 17 16,oM 6 15,oM 7 17]) (.seq (oP [oM 18 5,oM 19 6,oM 20 7,oM 21 1,oO 22 .shr 20 21,oJ 23 1 18 19,oS 1 23 22]) (.seq (oP [oM 24 6,oK 25 .add 24 1,oM 26 0,oH 27 26,oO 28 .lss 25 27]) (.cond (.t 28) (oR [oM 29 5,oM 30 6,oJ 31 1 29 30,oL 32 31,oM 33 0,oM 34 6,oK 35 .add 34 1,oJ 36 1 33 35,oL 37 36,oQ 38 (.bin .shl false (.t 37) (.c (nv 1))),oM 39 1,oQ 40 (.bin .sub false (.c (nv 63)) (.t 39)),oO 41 .shl 38 40,oO 42 .or 32 41,oJ 43 1 29 30,oS 1 43 42]) .skip))))) (oP [oK 44 .add 13 1,oM 13 44]))))))) (.seq (oP [oM 45 5,oC 46 F.nat_Norm 45,oM 4 46]) .ret))))
def R.div_down : List VRes := [.tmp 4]
theorem G.div_down : Gok F.div_down Try.f59 C.div_down R.div_down 47 := gk (Try.func59) Try.ntmps59
def C.mul_great := cD (.seq (oP [oQ 4 (.mov (.c (bv false)))]) (.seq (oP [oM 7 0,oC 8 F.nat_Length 7,oM 9 1,oC 10 F.nat_Length 9,oM 5 8,oM 6 10]) (.seq (oP [oM 11 5,oK 12 .gtr 11 0,oM 13 12,oY 14 6 13 true,⟨some 15, .bin .gtr false (.t 14) (.c (iv 0)), some (13, true)⟩,oQ 16 (.pick (.t 13) (.t 15) (.c (bv false))),oM 17 16,oY 18 5 17 true,oY 19 6 17 true,⟨some 20, .bin .add false (.t 18) (.t 19), some (17, true)⟩,⟨some 21, .bin .sub false (.t 20) (.c (iv 1)), some (17, true)⟩,⟨some 22, .bin .gtr false (.t 21) (.c (iv 67108864)), some (17, true)⟩,oQ 23 (.pick (.t 17) (.t 22) (.c (bv false))),oM 4 23]) .ret)))
def R.mul_great : List VRes := [.tmp 4]
theorem G.mul_great : Gok F.mul_great Try.f60 C.mul_great R.mul_great 24 := gk (Try.func60) Try.ntmps60
def C.mul_fits := cD (.seq (oP [oQ 2 (.mov (.c nil1)),oI 3 0]) (.seq (oP [oM 4 0,oC 5 F.nat_Norm 4,oM 0 5]) (.seq (.seq (oP [oM 6 0,oC 7 F.nat_Length 6,oK 8 .gtr 7 67108864]) (.cond (.t 8) (.seq (oP [oQ 2 (.mov (.c nil1)),oI 3 3]) .ret) .skip)) (.seq (oP [oM 9 0,oM 2 9,oI 3 0]) .ret))))
def R.mul_fits : List VRes := [.tmp 2, .tmp 3]
theorem G.mul_fits : Gok F.mul_fits Try.f61 C.mul_fits R.mul_fits 10 := gk (Try.func61) Try.ntmps61
def C.mul_school := cD (.seq (oP [oQ 4 (.mov (.c nil1))]) (.seq (oP [oM 14 0,oH 15 14,oM 16 1,oH 17 16,oO 18 .add 15 17,oQ 19 (.mk [.int .u64 0] 8 (.t 18) (.t 18)),oM 5 19]) (.seq (.seq (oP [oM 20 0,oH 21 20,oI 22 0]) (.block 0 (.loop (.seq (oP [oO 23 .lss 22 21]) (.seq (.cond (.t 23) .skip (.exit 0)) (.seq (.block 1 (.seq (oP [oM 24 22,oJ 25 1 20 22,oL 26 25,oM 6 24,oM 7 26]) (.seq (oP [oN 8 0]) (.seq (.seq (oP [oM 27 1,oH 28 27,oI 29 0]) (.block 2 (.loop (.seq (oP [oO 30 .lss 29 28]) (.seq (.cond (.t 30) .skip (.exit 2)) (.seq (.block 3 (.seq (oP [oM 31 29,oJ 32 1 27 29,oL 33 32,oM 9 31,oM 10 33]) (.seq (oP [oM 35 7,oM 36 10,oD 37 F.bits_Mul64 35 36,oM 34 37,oX 38 34 0,oX 39 34 1,oM 11 38,oM 12 39]) (.seq (oP [oN 13 0]) (.seq (oP [oM 41 12,oM 42 8,oQ 43 (.ext64 false (.t 41) (.t 42) (.c (nv 0))),oM 40 43,oX 44 40 0,oX 45 40 1,oM 12 44,oM 13 45]) (.seq (oP [oM 46 11,oM 47 13,oO 48 .add 46 47,oM 11 48]) (.seq (oP [oM 50 5,oM 51 6,oM 52 9,oO 53 .add 51 52,oM 54 5,oM 55 6,oM 56 9,oO 57 .add 55 56,oJ 58 1 54 57,oL 59 58,oM 60 12,oQ 61 (.ext64 false (.t 59) (.t 60) (.c (nv 0))),oM 49 61,oX 62 49 0,oX 63 49 1,oJ 64 1 50 53,oS 1 64 62,oM 13 63]) (oP [oM 65 11,oM 66 13,oO 67 .add 65 66,oM 8 67])))))))) (oP [oK 68 .add 29 1,oM 29 68]))))))) (oP [oM 69 5,oM 70 6,oM 71 1,oH 72 71,oO 73 .add 70 72,oM 74 8,oJ 75 1 69 73,oS 1 75 74]))))) (oP [oK 76 .add 22 1,oM 22 76]))))))) (.seq (oP [oM 77 5,oM 4 77]) .ret))))
def R.mul_school : List VRes := [.tmp 4]
theorem G.mul_school : Gok F.mul_school Try.f62 C.mul_school R.mul_school 78 := gk (Try.func62) Try.ntmps62
def C.mul_addAt := cD (.seq (oP [oN 6 0]) (.seq (oP [oM 9 2,oM 7 9]) (.block 0 (.loop (.seq (.seq (oP [oM 10 7,oM 11 0,oH 12 11,oO 13 .lss 10 12,oM 14 13,oY 15 7 14 true,oY 16 2 14 true,⟨some 17, .bin .sub false (.t 15) (.t 16), some (14, true)⟩,oY 18 1 14 true,⟨some 19, .len (.t 18), some (14, true)⟩,⟨some 20, .bin .lss false (.t 17) (.t 19), some (14, true)⟩,oY 21 20 14 true,oY 22 6 21 false,⟨some 23, .bin .gtr false (.t 22) (.c (nv 0)), some (21, false)⟩,⟨some 24, .pick (.t 21) (.c (bv true)) (.t 23), some (14, true)⟩,oQ 25 (.pick (.t 14) (.t 24) (.c (bv false)))]) (.cond (.t 25) .skip (.exit 0))) (.seq (.block 1 (.seq (oP [oN 8 0]) (.seq (.seq (oP [oM 28 7,oM 29 2,oO 30 .sub 28 29,oM 31 1,oH 32 31,oO 33 .lss 30 32]) (.cond (.t 33) (oP [oM 34 1,oM 35 7,oM 36 2,oO 37 .sub 35 36,oJ 38 1 34 37,oL 39 38,oM 8 39]) .skip)) (oP [oM 41 0,oM 42 7,oM 43 0,oM 44 7,oJ 45 1 43 44,oL 46 45,oM 47 8,oM 48 6,oQ 49 (.ext64 false (.t 46) (.t 47) (.t 48)),oM 40 49,oX 50 40 0,oX 51 40 1,oJ 52 1 41 42,oS 1 52 50,oM 6 51])))) (oP [oM 26 7,oK 27 .add 26 1,oM 7 27])))))))
def R.mul_addAt : List VRes := []
theorem G.mul_addAt : Gok F.mul_addAt Try.f63 C.mul_addAt R.mul_addAt 53 := gk (Try.func63) Try.ntmps63
def C.mul_part := cD (.seq (oP [oQ 6 (.mov (.c nil1))]) (.seq (oP [oM 7 1,oM 8 0,oH 9 8,oQ 10 (.mm false (.t 7) (.t 9)),oM 11 2,oM 12 0,oH 13 12,oQ 14 (.mm false (.t 11) (.t 13)),oM 1 10,oM 2 14]) (.seq (.block 0 (.loop (.seq (.seq (oP [oM 15 2,oM 16 1,oO 17 .gtr 15 16,oM 18 17,oY 19 0 18 true,oY 20 2 18 true,⟨some 21, .bin .sub false (.t 20) (.c (iv 1)), some (18, true)⟩,⟨some 22, .ixa 1 (.t 19) (.t 21), some (18, true)⟩,⟨some 23, .load none (.t 22), some (18, true)⟩,⟨some 24, .bin .eql false (.t 23) (.c (nv 0)), some (18, true)⟩,oQ 25 (.pick (.t 18) (.t 24) (.c (bv false)))]) (.cond (.t 25) .skip (.exit 0))) (.block 1 (oP [oM 26 2,oK 27 .sub 26 1,oM 2 27]))))) (.seq (oP [oM 28 0,oM 29 1,oM 30 2,oQ 31 (.slc 1 (.t 28) (some (.t 29)) (some (.t 30)) none),oM 6 31]) .ret))))
def R.mul_part : List VRes := [.tmp 6]
theorem G.mul_part : Gok F.mul_part Try.f64 C.mul_part R.mul_part 32 := gk (Try.func64) Try.ntmps64
def C.mul_less := cD (.seq (oP [oQ 4 (.mov (.c nil1))]) (.seq (oP [oM 9 0,oH 10 9,oQ 11 (.mk [.int .u64 0] 8 (.t 10) (.t 10)),oM 5 11]) (.seq (oP [oM 12 5,oM 13 0,oQ 14 (.cpy 1 (.t 12) (.t 13))]) (.seq (oP [oN 6 0]) (.seq (.seq (oP [oM 15 5,oH 16 15,oI 17 0]) (.block 0 (.loop (.seq (oP [oO 18 .lss 17 16]) (.seq (.cond (.t 18) .skip (.exit 0)) (.seq (.block 1 (.seq (oP [oM 19 17,oM 7 19]) (.seq (oP [oN 8 0]) (.seq (.seq (oP [oM 20 7,oM 21 1,oH 22 21,oO 23 .lss 20 22]) (.cond (.t 23) (oP [oM 24 1,oM 25 7,oJ 26 1 24 25,oL 27 26,oM 8 27]) .skip)) (oP [oM 29 5,oM 30 7,oM 31 5,oM 32 7,oJ 33 1 31 32,oL 34 33,oM 35 8,oM 36 6,oQ 37 (.ext64 true (.t 34) (.t 35) (.t 36)),oM 28 37,oX 38 28 0,oX 39 28 1,oJ 40 1 29 30,oS 1 40 38,oM 6 39]))))) (oP [oK 41 .add 17 1,oM 17 41]))))))) (.seq (oP [oM 42 5,oM 4 42]) .ret))))))
def R.mul_less : List VRes := [.tmp 4]
theorem G.mul_less : Gok F.mul_less Try.f65 C.mul_less R.mul_less 43 := gk (Try.func65) Try.ntmps65
def C.mul_sum := cD (.seq (oP [oQ 4 (.mov (.c nil1))]) (.seq (oP [oM 6 0,oH 7 6,oM 8 1,oH 9 8,oQ 10 (.mm true (.t 7) (.t 9)),oK 11 .add 10 1,oQ 12 (.mk [.int .u64 0] 8 (.t 11) (.t 11)),oM 5 12]) (.seq (oP [oM 13 5,oM 14 0,oQ 15 (.cpy 1 (.t 13) (.t 14))]) (.seq (oP [oM 16 5,oM 17 1,oQ 18 (.call F.mul_addAt [.t 16, .t 17, .c (iv 0)])]) (.seq (oP [oM 19 5,oM 4 19]) .ret)))))
def R.mul_sum : List VRes := [.tmp 4]
theorem G.mul_sum : Gok F.mul_sum Try.f66 C.mul_sum R.mul_sum 20 := gk (Try.func66) Try.ntmps66
end Go.Proofs.Ythjnmfieicniaaa
