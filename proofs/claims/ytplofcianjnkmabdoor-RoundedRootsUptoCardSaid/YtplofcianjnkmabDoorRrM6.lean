/- RoundedRoots of the program holds: whatever spans and numbers come in (of bulk at most 1048576 in all, as the statement says), the law answers true, and memory that was there is as it was. -/
import Derived.Test.YtplofcianjnkmabDoorRrM5
import Derived.Test.YtplofcianjnkmabDoorCards
import Derived.Test.YtplofcianjnkmabDoorTie
import Derived.WalkKit
import Derived.ProofKit
import Derived.OpenShut
import Derived.Deep.DeepHandedRow
import Derived.Lib.LaidTab
set_option linter.unusedVariables false
set_option maxRecDepth 100000
namespace Go.Proofs.YtplofcianjnkmabDoor
open Go.VM Go.ChangeShapes Go.WideShapes Go.ChangeAt Go.RowKit

theorem own : ownKnob Tryd.prog.godebug = none := by kernel_rfl
theorem gTab : Tryd.prog.globalNamed "math/bits.deBruijn64tab" = some 0 := by kernel_rfl
theorem gTabType : (Tryd.prog.globals[0]?).map (·.type) = some 92 := by kernel_rfl
theorem cellsT : Tryd.prog.cellsOf 92 = 64 := by kernel_rfl
theorem cellsB : Tryd.prog.cellsOf 5 = 1 := by kernel_rfl
def tabZ : List Int := [0, 1, 56, 2, 57, 49, 28, 3, 61, 58, 42, 50, 38, 29, 17, 4, 62, 47, 59, 36, 45, 43, 51, 22, 53, 39, 33, 30, 24, 18, 12, 5, 63, 55, 48, 27, 60, 41, 37, 16, 46, 35, 44, 21, 52, 32, 23, 11, 54, 26, 40, 15, 34, 20, 31, 10, 25, 14, 19, 9, 13, 8, 7, 6]
theorem table {W : World} (h : laidMetH Tryd.prog Rows.roundedRootsRow.laid W) : ∀ g l, Go.VM.GT g = some l → g < W.heap.size ∧ ∃ arr T, W.heap[g]? = some (.cells arr T (0, 0)) ∧ Ones arr ∧ ∀ (j : Nat) (v : Value), l[j]? = some v → arr[j]? = some v := by
  intro g l hgl
  unfold Go.VM.GT at hgl
  split at hgl
  · rename_i e
    subst e
    cases hgl
    have hT : Lib.TabIs Tryd.prog W "math/bits.deBruijn64tab" .u8 tabZ := Lib.tabIs_of_head (rest := []) gTab gTabType Tryd.underlying92 Tryd.underlying5 cellsB cellsT h
    exact glob_of_laid (rest := []) gTab hT (by decide) h
  · cases hgl
theorem lim_bulk (n : Nat) (h : n ≤ 1048576) : n ≤ 1048576 := h
theorem laidOut : laidOutB Tryd.prog = true := by kernel_rfl
theorem nTy : NTy Tryd.prog 28 := ⟨_, _, _, _, _, Tryd.underlying28, by kernel_rfl, rfl, by kernel_rfl, Tryd.underlying26, Tryd.underlying4, rfl, by kernel_rfl, Tryd.underlying24, rfl, by kernel_rfl, Tryd.underlying46, by kernel_rfl, Tryd.underlying3, rfl, by kernel_rfl⟩
theorem recN : Tryd.prog.readableRec 28 = true := by kernel_rfl
theorem sizN : 28 < Tryd.prog.types.size := of_decide_eq_true (by kernel_rfl)

theorem row_contract (H : Type) (enc : TypeId × Value → H) (W : World) (base : Nat) (args : Array Value) (ds gs : List (DataW H)) (before : List MemPlace)
    (hval : ∀ (j : Nat) t v, Tryd.f5.params[j]? = some t → args[j]? = some v → Value.okWide Tryd.prog W .any base t v)
    (hW : DataW.Whole enc Tryd.prog Tryd.f5.params.toList Rows.roundedRootsSpec.vars false W args.toList ds gs before) (hL : laidMetH Tryd.prog Rows.roundedRootsRow.laid W) (hk : Rows.uptoSmall H (ds ++ gs) = true) :
    Calls Tryd.prog 5 args W fun e W' => ∃ v, e = .returned v ∧ Rows.roundedRootsSpec.post enc Tryd.prog Tryd.f5 false true false false W args v W' := by
  have hW' := hW
  obtain ⟨p, q, hA0, hV, rfl, hfz, hnd⟩ := hW
  have hA : DataW.TrodAll enc Tryd.prog W 0 (fun _ => true) true Tryd.f5.params.toList args.toList ds p := hA0
  rw [Tryd.params5] at hA hval
  obtain ⟨v0, vs0, d0, ds0, p0, q0, hargs0, rfl, rfl, h0, r0⟩ := trodAll_cons hA
  obtain ⟨v1, vs1, d1, ds1, p1, q1, hargs1, rfl, rfl, h1, r1⟩ := trodAll_cons r0
  obtain ⟨v2, vs2, d2, ds2, p2, q2, hargs2, rfl, rfl, h2, r2⟩ := trodAll_cons r1
  obtain ⟨rfl, rfl, rfl⟩ := trodAll_nil r2
  obtain rfl : args = #[v0, v1, v2] := by cases args; simp_all
  obtain ⟨rfl, rfl⟩ := trodVars_none hV
  clear hA0
  simp only [List.append_nil] at hW' hk
  have hb : Rows.uptoBulkAll [d0, d1, d2] ≤ 1048576 := of_decide_eq_true hk
  have hold := fun x hx => hW'.lt x hx
  obtain ⟨na0, sa0, ka0, la0, rfl, oa0, ma0, ra0, bu0, wa0⟩ := numb_cs nTy h0 (fun x hx => hold x (List.mem_append_left _ hx))
  obtain ⟨na1, sa1, ka1, la1, rfl, oa1, ma1, ra1, bu1, wa1⟩ := numb_cs nTy h1 (fun x hx => hold x (List.mem_append_right _ (List.mem_append_left _ hx)))
  have hs2 := h2
  obtain ⟨k2, rfl, rfl, rfl, w2⟩ := open_int Tryd.underlying3 (hval 2 3 v2 rfl rfl) h2
  obtain ⟨kl2, ku2⟩ := wf_i64S w2
  simp only [Rows.uptoBulkAll, Rows.uptoBulk] at hb
  have lla0 : la0.length ≤ 1048576 := by omega
  have lla1 : la1.length ≤ 1048576 := by omega
  obtain ⟨ca0, μa0, ta0, lea0, eqa0, kna0, hμa0, Ra0⟩ := told_more ra0 0 (fun _ => 0) (fun q hq => absurd hq (Nat.not_lt_zero _))
  obtain ⟨ca1, μa1, ta1, lea1, eqa1, kna1, hμa1, Ra1⟩ := told_more ra1 ca0 μa0 hμa0
  replace Ra0 := rep_more Ra0 lea1 eqa1
  replace kna0 := Told1.mono kna0 lea1
  obtain ⟨r, c9, _, hc9, hr9⟩ := rroots_row ta0 ta1 ⟨na0, la0, ka0⟩ ⟨na1, la1, ka1⟩ k2 ca1 ⟨ma0, lla0⟩ ⟨ma1, lla1⟩ kna0 kna1 kl2 ku2
  subst hr9
  refine (calls_sameT hc9 W μa1 hμa1 #[.agg #[.bool na0, sa0, .int .i64 ka0], .agg #[.bool na1, sa1, .int .i64 ka1], .int .i64 k2] rfl (rep_intsS (l := [(rdV ta0 ⟨na0, la0, ka0⟩, .agg #[.bool na0, sa0, .int .i64 ka0]), (rdV ta1 ⟨na1, la1, ka1⟩, .agg #[.bool na1, sa1, .int .i64 ka1]), (iv k2, .int .i64 k2)]) rfl rfl (fun p hp => ?_)) ⟨_, rfl⟩ (hg := table hL)).mono fun e W' ⟨v, he, hv, hs⟩ => ?_
  · simp only [List.mem_cons, List.not_mem_nil, or_false] at hp
    rcases hp with rfl | rfl | rfl
    · exact rep_dyad oa0 Ra0
    · exact rep_dyad oa1 Ra1
    · exact .lit _
  subst he
  cases hv
  exact ⟨_, rfl, post_kept (pa := p0 ++ (p1 ++ ([]))) (pv := []) hW' hs (fun _ _ _ => trodAll_cons_mk (shut_bool Tryd.underlying4 _) trodAll_mk0)
    (fun sp hsp => by
      have t0 := (trodAll_cons_mk (WideElems.Trod_stays laidOut recN sizN h0 (fun x hx => hs.sameAt (hold x (List.mem_append_left _ hx))) (fun x hx => hsp x (List.mem_append_left _ hx))) (trodAll_cons_mk (WideElems.Trod_stays laidOut recN sizN h1 (fun x hx => hs.sameAt (hold x (List.mem_append_right _ (List.mem_append_left _ hx)))) (fun x hx => hsp x (List.mem_append_right _ (List.mem_append_left _ hx)))) (trodAll_cons_mk (shut_int Tryd.underlying3 w2) trodAll_mk0)))
      simp only [List.append_nil] at t0 ⊢
      rw [Tryd.params5]
      exact t0) (fun _ _ => rfl) (by simp)
    (ok_one (by kernel_rfl) rfl (okWide_bool_mk Tryd.underlying4 _))⟩

noncomputable def laidWorld (os : Os) : World :=
  { World.holding Tryd.prog os ⟨#[], #[], []⟩ with heap := (World.holding Tryd.prog os ⟨#[], #[], []⟩).heap.modify 0 fun
      | .cells _ t frozen => .cells (tabZ.map fun z => Value.int .u8 z).toArray t frozen
      | o => o }
theorem laid_met (os : Os) : laidMet Tryd.prog Rows.roundedRootsRow.laid ((laidWorld os).forCall (fun _ _ => 0) ⟨#[], #[.agg #[.bool false, .slice none 0 0, .int .i64 0], .agg #[.bool false, .slice none 0 0, .int .i64 0], .int .i64 0], []⟩).memory :=
  laidMet_of_run' 8 (by kernel_rfl) (by kernel_rfl)
theorem reads (os : Os) {H : Type} (enc : TypeId × Value → H) : ∃ places, DataW.whole enc Tryd.prog ((laidWorld os).forCall (fun _ _ => 0) ⟨#[], #[.agg #[.bool false, .slice none 0 0, .int .i64 0], .agg #[.bool false, .slice none 0 0, .int .i64 0], .int .i64 0], []⟩).memory Tryd.f5.params.toList Rows.roundedRootsSpec.vars false (#[.agg #[.bool false, .slice none 0 0, .int .i64 0], .agg #[.bool false, .slice none 0 0, .int .i64 0], .int .i64 0] : Array Value).toList 8 = some ([.agg [.agg [.lit (.bool false), .nil], .lit (.int .i64 0)], .agg [.agg [.lit (.bool false), .nil], .lit (.int .i64 0)], .lit (.int .i64 0)], [], places) :=
  ⟨[], by kernel_rfl⟩

theorem row_lifted (os : Os) (started : os.Started) (H : Type) (enc : TypeId × Value → H) (F : Stop.Interp) :
    ReturnsInHanded {} Tryd.checked os 5 .any ((Rows.OpenSpec.upto Rows.roundedRootsSpec).preRow enc Tryd.prog Tryd.f5 Rows.roundedRootsUptoRow.domain false Rows.roundedRootsUptoRow.laid) (((Rows.OpenSpec.upto Rows.roundedRootsSpec).at F).post enc Tryd.prog Tryd.f5 false true false false) := by
  obtain ⟨places, hx⟩ := reads os enc
  refine returnsInHanded_of_row (C := Tryd.checked) (s := Rows.OpenSpec.upto Rows.roundedRootsSpec) own started (by kernel_rfl) Tryd.func5
    (witness_row_at (enc := enc) (C := Tryd.checked) false (laidWorld os) #[.agg #[.bool false, .slice none 0 0, .int .i64 0], .agg #[.bool false, .slice none 0 0, .int .i64 0], .int .i64 0] rfl (by kernel_rfl) (by kernel_rfl) (by kernel_rfl)
      (OpenSpec.preRow_of_cond 8 hx (by kernel_rfl) (fun k hk => by cases hk; kernel_rfl) (by kernel_rfl) (laid_met os))) ?_
  intro W base args ds gs before hval hW _ hk _ hL _ _
  exact row_contract H enc W base args ds gs before hval hW hL (hk _ rfl)

theorem said : Rows.RoundedRootsUptoSaid :=
  OpenClaim.holds_of_cond 5 Tryd.f5 rfl rfl rfl rfl rfl rfl rfl ⟨rfl, rfl, rfl, rfl, rfl⟩ rfl rfl rfl rfl rfl (by kernel_rfl) Tryd.func5 (by kernel_rfl)
    (of_decide_eq_true (by kernel_rfl)) (by unfold Func.isWrapper; first | (rw [if_pos (by decide +kernel)]; kernel_rfl) | (rw [if_neg (by decide +kernel)]; exact ⟨rfl, rfl⟩))
    (fun os started H enc _ F => by rw [OpenClaim.pre_eq_preRow]; exact row_lifted os started H enc F)

theorem plain (f : FuncId) (fn : Func) (hf : Tryd.pinned.checked.prog.funcNamed "surd/surdlaw09.RoundedRoots" = some f) (hfn : Tryd.pinned.checked.prog.funcs[f]? = some fn) :
    false = Tryd.pinned.checked.prog.looks [] ∧ ∀ (j : Nat) t, fn.params[j]? = some t → Tryd.pinned.checked.prog.wantsStandIn t = false := by
  obtain rfl : f = 5 := Option.some.inj ((show Tryd.prog.funcNamed "surd/surdlaw09.RoundedRoots" = some 5 by kernel_rfl).symm.trans hf) |>.symm
  obtain rfl : fn = Tryd.f5 := (Option.some.inj (Tryd.func5.symm.trans hfn)).symm
  refine ⟨by kernel_rfl, fun j t ht => ?_⟩
  rw [Tryd.params5] at ht
  have ht := Array.mem_of_getElem? ht
  simp only [List.mem_toArray, List.mem_cons, List.not_mem_nil, or_false] at ht
  rcases ht with rfl | rfl | rfl
  · exact (show Tryd.prog.wantsStandIn 28 = false by kernel_rfl)
  · exact (show Tryd.prog.wantsStandIn 28 = false by kernel_rfl)
  · exact (show Tryd.prog.wantsStandIn 3 = false by kernel_rfl)
theorem row_holds : Rows.RoundedRootsUptoCardSaid :=
  Claim7.holds_tied_plain_at .later [] _ _ _ _ said (fun _ h => by cases h) (by kernel_rfl) (fun _ h => by cases h) roundedRootsUpto_row_tie rfl ⟨rfl, rfl⟩ (by kernel_rfl) rfl plain (by kernel_rfl)
#print axioms row_holds
end Go.Proofs.YtplofcianjnkmabDoor
