/- Texts of a claim, merged: what they prove is told at the last one's head. -/
import Derived.Test.YtacodmnlnlbahaaGreatDoorTiM5
import Derived.KernelRfl
set_option linter.unusedSimpArgs false
set_option linter.unusedVariables false
set_option maxRecDepth 100000
set_option maxHeartbeats 8000000
namespace Go.Proofs.YtacodmnlnlbahaaGreatDoor
open Go.VM

def WAns (w : Bool × Nat) (r : V) : Prop := (bl w.2 ≤ 67108864 ∧ ∃ tk, r = .tup [whV (zneg w.1 w.2) tk (digs 18446744073709551616 w.2), iv 0]) ∨ (67108864 < bl w.2 ∧ r = .tup [whV false .nil [], iv 3])
theorem zneg_nz {neg : Bool} {n : Nat} (h : n ≠ 0) : zneg neg n = neg := by unfold zneg; rw [decide_eq_false h]; simp
theorem b_eqt : ∀ x : Bool, sbin .eql true (bv x) (bv x) = some (bv true) := fun x => by cases x <;> rfl
theorem b_eqf : ∀ x y : Bool, x ≠ y → sbin .eql true (bv x) (bv y) = some (bv false) := fun x y h => by cases x <;> cases y <;> first | rfl | exact absurd rfl h
theorem b_net : ∀ x : Bool, sbin .neq true (bv x) (bv x) = some (bv false) := fun x => by cases x <;> rfl
theorem b_nef : ∀ x y : Bool, x ≠ y → sbin .neq true (bv x) (bv y) = some (bv true) := fun x y h => by cases x <;> cases y <;> first | rfl | exact absurd rfl h
theorem wnorm_spec (neg : Bool) (t : Tok) (l : List Nat) (c : Nat) (hl : Lim 18446744073709551616 l) (hn : l.length ≤ 4398046511104) :
    VSpec Tryz.prog F.whole_norm c [whV neg t l] (fun r _ => ∃ tk, r = whV (zneg neg (val 18446744073709551616 l)) tk (digs 18446744073709551616 (val 18446744073709551616 l))) := by
  refine spec_mk hm E.whole_norm B.whole_norm K.whole_norm Q.whole_norm (by rw [N.whole_norm]; simp) ?_
  unfold C.whole_norm R.whole_norm
  refine zR ?_
  refine s_call (norm_spec t l (c + 2) hl hn) wS ?_
  rintro v c1 hc1 ⟨tk, rfl, htk⟩
  have hz := digs_eq_nil two64 (n := val 18446744073709551616 l)
  cases neg
  · have e : zneg false (val 18446744073709551616 l) = false := rfl
    rw [e]
    refine zR ?_
    exact ⟨tk, rfl⟩
  · by_cases g : val 18446744073709551616 l = 0
    · have e : zneg true (val 18446744073709551616 l) = false := by unfold zneg; rw [decide_eq_true g]; rfl
      have g1 : ¬ (0 : Int) < ((digs 18446744073709551616 (val 18446744073709551616 l)).length : Int) := by rw [hz.2 g]; decide
      rw [e]
      refine zRF g1 ?_
      refine ⟨tk, ?_⟩
      rw [List.length_map, Nat.div_one, decide_eq_false g1]
    · have e : zneg true (val 18446744073709551616 l) = true := zneg_nz g
      have g1 : (0 : Int) < ((digs 18446744073709551616 (val 18446744073709551616 l)).length : Int) := by
        have : (digs 18446744073709551616 (val 18446744073709551616 l)).length ≠ 0 := fun h => g (hz.1 (List.length_eq_zero_iff.1 h))
        omega
      rw [e]
      refine zRF g1 ?_
      refine ⟨tk, ?_⟩
      rw [List.length_map, Nat.div_one, decide_eq_true g1]
theorem wfits_spec (neg : Bool) (t : Tok) (l : List Nat) (c : Nat) (hl : Lim 18446744073709551616 l) (hn : l.length ≤ 4398046511104) :
    VSpec Tryz.prog F.whole_fits c [whV neg t l] (fun r _ => WAns (neg, val 18446744073709551616 l) r) := by
  refine spec_mk hm E.whole_fits B.whole_fits K.whole_fits Q.whole_fits (by rw [N.whole_fits]; simp) ?_
  unfold C.whole_fits R.whole_fits
  refine zR ?_
  refine s_call (length_spec t l (c + 2) hl hn) wS ?_
  rintro v c1 hc1 rfl
  by_cases g : (67108864 : Int) < (bl (val 18446744073709551616 l) : Int)
  · refine zRF g ?_
    exact .inr ⟨by show 67108864 < bl (val 18446744073709551616 l); omega, rfl⟩
  · refine zRF g ?_
    refine s_call (wnorm_spec neg t l c1 hl hn) wS ?_
    rintro v c2 hc2 ⟨tk, rfl⟩
    refine zR ?_
    exact .inl ⟨by show bl (val 18446744073709551616 l) ≤ 67108864; omega, tk, rfl⟩
theorem wmake_spec (neg : Bool) (t : Tok) (l : List Nat) (c : Nat) (hl : Lim 18446744073709551616 l) (hn : l.length ≤ 4398046511104) :
    VSpec Tryz.prog F.whole_Make c [bv neg, nats t l] (fun r _ => WAns (neg, val 18446744073709551616 l) r) := by
  refine spec_mk hm E.whole_Make B.whole_Make K.whole_Make Q.whole_Make (by rw [N.whole_Make]; simp) ?_
  unfold C.whole_Make R.whole_Make
  refine zR ?_
  refine s_call (wfits_spec neg t l (c + 1) hl hn) wS ?_
  rintro v c1 hc1 (⟨h, tk, rfl⟩ | ⟨h, rfl⟩)
  · refine zR ?_
    exact .inl ⟨h, tk, rfl⟩
  · refine zR ?_
    exact .inr ⟨h, rfl⟩
theorem wres_spec (neg : Bool) (t : Tok) (l : List Nat) (c : Nat) (hl : Lim 18446744073709551616 l) (hn : l.length ≤ 4398046511104) :
    VSpec Tryz.prog F.whole_result c [bv neg, nats t l, iv 0] (fun r _ => WAns (neg, val 18446744073709551616 l) r) := by
  refine spec_mk hm E.whole_result B.whole_result K.whole_result Q.whole_result (by rw [N.whole_result]; simp) ?_
  unfold C.whole_result R.whole_result
  refine zR ?_
  refine s_call (wfits_spec neg t l (c + 1) hl hn) wS ?_
  rintro v c1 hc1 (⟨h, tk, rfl⟩ | ⟨h, rfl⟩)
  · refine zR ?_
    exact .inl ⟨h, tk, rfl⟩
  · refine zR ?_
    exact .inr ⟨h, rfl⟩
theorem wres_bad (neg : Bool) (t : Tok) (l : List Nat) (c : Nat) :
    VSpec Tryz.prog F.whole_result c [bv neg, nats t l, iv 3] (fun r _ => r = .tup [whV false .nil [], iv 3]) := by
  refine spec_mk hm E.whole_result B.whole_result K.whole_result Q.whole_result (by rw [N.whole_result]; simp) ?_
  unfold C.whole_result R.whole_result
  refine zR ?_
  (first | omega | rfl | ((repeat' apply And.intro) <;> first | rfl | omega | assumption))
theorem wres_told (neg : Bool) (n c : Nat) {r0 : V} {c0 c1 : Nat} (h : Told c0 c1 n r0) : ∃ t l e, r0 = .tup [nats t l, iv e] ∧ ∀ c, VSpec Tryz.prog F.whole_result c [bv neg, nats t l, iv e] (fun r _ => WAns (neg, n) r) := by
  rcases h with ⟨hb, tk, rfl, _⟩ | ⟨hb, rfl⟩
  · refine ⟨tk, digs 18446744073709551616 n, 0, rfl, fun c => ?_⟩
    have hln : (digs 18446744073709551616 n).length ≤ 1048576 := digs_len_bl (by omega)
    have h := wres_spec neg tk (digs 18446744073709551616 n) c (lim_digs two64 n) (by omega)
    rw [val_digs two64] at h
    exact h
  · exact ⟨.nil, [], 3, rfl, fun c => (wres_bad neg .nil [] c).mono fun r c' e => .inr ⟨hb, e⟩⟩

theorem wadd_spec (an bn : Bool) (ta tb : Tok) (a b : List Nat) (c : Nat) (ha : Lim 18446744073709551616 a) (hb : Lim 18446744073709551616 b) (hna : a.length ≤ 1099511627776) (hnb : b.length ≤ 1099511627776) (a0 : val 18446744073709551616 a ≠ 0) (b0 : val 18446744073709551616 b ≠ 0) :
    VSpec Tryz.prog F.whole_Add c [whV an ta a, whV bn tb b] (fun r _ => WAns (addW an (val 18446744073709551616 a) bn (val 18446744073709551616 b)) r) := by
  refine spec_mk hm E.whole_Add B.whole_Add K.whole_Add Q.whole_Add (by rw [N.whole_Add]; simp) ?_
  unfold C.whole_Add R.whole_Add
  have hla := digs_len_le two64 ha
  have hlb := digs_len_le two64 hb
  refine zR ?_
  refine s_call (wnorm_spec an ta a (c + 3) ha (by omega)) wS ?_
  rintro v c1 hc1 ⟨t1, rfl⟩
  refine zR ?_
  refine s_call (wnorm_spec bn tb b c1 hb (by omega)) wS ?_
  rintro v c2 hc2 ⟨t2, rfl⟩
  rw [zneg_nz a0, zneg_nz b0]
  have hx := lim_digs two64 (val 18446744073709551616 a)
  have hy := lim_digs two64 (val 18446744073709551616 b)
  have vx := val_digs two64 (val 18446744073709551616 a)
  have vy := val_digs two64 (val 18446744073709551616 b)
  generalize val 18446744073709551616 a = A0 at *
  generalize val 18446744073709551616 b = B0 at *
  by_cases g : an = bn
  · subst g
    have e : addW an A0 an B0 = (an, A0 + B0) := if_pos rfl
    rw [e]
    refine zRF @b_eqt ?_
    refine s_call (add_spec t1 t2 (digs 18446744073709551616 A0) (digs 18446744073709551616 B0) c2 hx hy (by omega) (by omega)) wS ?_
    rintro v c3 hc3 ht
    rw [vx, vy] at ht
    obtain ⟨t3, l3, e3, rfl, hr⟩ := wres_told an (A0 + B0) c3 ht
    refine zR ?_
    refine s_call (hr c3) wS ?_
    rintro v c4 hc4 (⟨h, tk, rfl⟩ | ⟨h, rfl⟩)
    · refine zR ?_
      exact .inl ⟨h, tk, rfl⟩
    · refine zR ?_
      exact .inr ⟨h, rfl⟩
  · have en := b_eqf an bn g
    refine zRF en ?_
    refine s_call (compare_spec t1 t2 (digs 18446744073709551616 A0) (digs 18446744073709551616 B0) c2 hx hy (by omega) (by omega)) wS ?_
    rintro v c3 hc3 rfl
    rw [vx, vy]
    have hcc := cmpI_cases A0 B0
    by_cases h : A0 < B0
    · have g1 : cmpI A0 B0 < 0 := by omega
      have e : addW an A0 bn B0 = (bn, B0 - A0) := by unfold addW; rw [if_neg g, if_pos h]
      rw [e]
      refine zRF g1 ?_
      refine s_call (sub_spec t2 t1 (digs 18446744073709551616 B0) (digs 18446744073709551616 A0) c3 hy hx (by omega) (by omega)) wS ?_
      rintro v c4 hc4 ht
      rw [vx, vy, if_neg (by omega)] at ht
      obtain ⟨t3, l3, e3, rfl, hr⟩ := wres_told bn (B0 - A0) c4 ht
      refine zR ?_
      refine s_call (hr c4) wS ?_
      rintro v c5 hc5 (⟨h, tk, rfl⟩ | ⟨h, rfl⟩)
      · refine zR ?_
        exact .inl ⟨h, tk, rfl⟩
      · refine zR ?_
        exact .inr ⟨h, rfl⟩
    · have g1 : ¬ cmpI A0 B0 < 0 := by omega
      have e : addW an A0 bn B0 = (an, A0 - B0) := by unfold addW; rw [if_neg g, if_neg h]
      rw [e]
      refine zRF g1 ?_
      refine s_call (sub_spec t1 t2 (digs 18446744073709551616 A0) (digs 18446744073709551616 B0) c3 hx hy (by omega) (by omega)) wS ?_
      rintro v c4 hc4 ht
      rw [vx, vy, if_neg (by omega)] at ht
      obtain ⟨t3, l3, e3, rfl, hr⟩ := wres_told an (A0 - B0) c4 ht
      refine zR ?_
      refine s_call (hr c4) wS ?_
      rintro v c5 hc5 (⟨h, tk, rfl⟩ | ⟨h, rfl⟩)
      · refine zR ?_
        exact .inl ⟨h, tk, rfl⟩
      · refine zR ?_
        exact .inr ⟨h, rfl⟩
end Go.Proofs.YtacodmnlnlbahaaGreatDoor
set_option linter.unusedSimpArgs false
set_option linter.unusedVariables false
set_option maxRecDepth 100000
set_option maxHeartbeats 8000000
namespace Go.Proofs.YtacodmnlnlbahaaGreatDoor
open Go.VM

theorem len_bl {n : Nat} (h : bl n ≤ 1099511627776) : (digs 18446744073709551616 n).length ≤ 17179869184 := digs_len_bl (by omega)
theorem long_spec (tx ty : Tok) (x y : Dy) (k c : Nat) (hk : x.e - y.e = (k : Int)) (hx : x.m % 2 = 1) (hy : y.m % 2 = 1) (hxb : bl x.m ≤ 67108864) (hyb : bl y.m ≤ 67108864) (hX : bl (x.m * 2 ^ k) ≤ 67108900) (hk2 : k ≤ 67108900)
    (he1 : -2305843009213693952 ≤ y.e) (he2 : y.e ≤ 2305843009213693952) :
    VSpec Tryz.prog F.dyadic_long c [dyV tx x, dyV ty y] (fun r c' => AnsD c c' (addD x y) r) := by
  refine spec_mk hm E.dyadic_long B.dyadic_long K.dyadic_long Q.dyadic_long (by rw [N.dyadic_long]; simp) ?_
  unfold C.dyadic_long R.dyadic_long
  have hkn : (x.e - y.e).toNat = k := by omega
  have hfit := sum_fit (x := x) (y := y) (by omega) hx hy hxb hyb
  have had := addD_sumW (x := x) (y := y) (by omega)
  have hsb := sum_bl (x := x) (y := y) (k := 67108900) (by omega) (by rw [hkn]; exact hX) (by omega)
  unfold sumW at hfit had hsb
  rw [hkn] at hfit had hsb
  have lx := lim_digs two64 x.m
  have ly := lim_digs two64 y.m
  have vx := val_digs two64 x.m
  have vy := val_digs two64 y.m
  have nx : (digs 18446744073709551616 x.m).length ≤ 1048576 := digs_len_bl (by omega)
  have ny : (digs 18446744073709551616 y.m).length ≤ 1048576 := digs_len_bl (by omega)
  have hkB : -9223372036854775808 ≤ x.e - y.e := by omega
  refine zRF hk ?_
  refine s_call (left_all tx (digs 18446744073709551616 x.m) k (c + 3) lx (by omega) (by omega)) (wSF hk) ?_
  rintro v c1 hc1 ⟨tl, rfl, htl⟩
  rw [vx]
  have lX := lim_digs two64 (x.m * 2 ^ k)
  have vX := val_digs two64 (x.m * 2 ^ k)
  have nX : (digs 18446744073709551616 (x.m * 2 ^ k)).length ≤ 1048600 := digs_len_bl (by omega)
  generalize x.m * 2 ^ k = X at *
  by_cases g : x.neg = y.neg
  · have e : addW x.neg X y.neg y.m = (x.neg, X + y.m) := if_pos g
    rw [e] at had hfit hsb
    have en : sbin .neq true (bv x.neg) (bv y.neg) = some (bv false) := by rw [g]; exact b_net _
    refine zRF en ?_
    refine s_call (plus_spec tl ty (digs 18446744073709551616 X) (digs 18446744073709551616 y.m) c1 lX ly (by omega) (by omega)) wS ?_
    rintro v c2 hc2 ⟨ts, rfl, hts⟩
    rw [vX, vy]
    refine zR ?_
    refine s_call (dtold_spec x.neg ts (digs 18446744073709551616 (X + y.m)) y.e c2 (lim_digs two64 _) (len_bl (by show bl (X + y.m) ≤ _; have : bl (X + y.m) ≤ 67108900 + 1 := hsb; omega)) he1 he2 (by rw [val_digs two64]; exact hfit)) wS ?_
    rintro v c3 hc3 ⟨tk, rfl, htk⟩
    rw [val_digs two64] at htk
    rw [val_digs two64]
    refine zR ?_
    exact ⟨tk, by rw [had], by rw [had]; exact htk.mono (by omega) (by omega)⟩
  · have en := b_nef x.neg y.neg g
    refine zRF en ?_
    refine s_call (compare_spec tl ty (digs 18446744073709551616 X) (digs 18446744073709551616 y.m) c1 lX ly (by omega) (by omega)) wS ?_
    rintro v c2 hc2 rfl
    rw [vX, vy]
    have hcc := cmpI_cases X y.m
    by_cases h : X < y.m
    · have g1 : cmpI X y.m < 0 := by omega
      have e : addW x.neg X y.neg y.m = (y.neg, y.m - X) := by unfold addW; rw [if_neg g, if_pos h]
      have eb : (!x.neg) = y.neg := by cases hxn : x.neg <;> cases hyn : y.neg <;> first | rfl | exact absurd (hxn.trans hyn.symm) g
      rw [e] at had hfit hsb
      refine zRF (jn g1 eb) ?_
      refine s_call (minus_spec ty tl (digs 18446744073709551616 y.m) (digs 18446744073709551616 X) c2 ly lX (by omega) (le_len two64 (by omega)) (by rw [vX, vy]; omega)) wS ?_
      rintro v c3 hc3 ⟨ts, rfl, hts⟩
      rw [vX, vy]
      refine zR ?_
      refine s_call (dtold_spec y.neg ts (digs 18446744073709551616 (y.m - X)) y.e c3 (lim_digs two64 _) (len_bl (by have : bl (y.m - X) ≤ 67108900 + 1 := hsb; omega)) he1 he2 (by rw [val_digs two64]; exact hfit)) wS ?_
      rintro v c4 hc4 ⟨tk, rfl, htk⟩
      rw [val_digs two64] at htk
      rw [val_digs two64]
      refine zR ?_
      exact ⟨tk, by rw [had], by rw [had]; exact htk.mono (by omega) (by omega)⟩
    · have g1 : ¬ cmpI X y.m < 0 := by omega
      have e : addW x.neg X y.neg y.m = (x.neg, X - y.m) := by unfold addW; rw [if_neg g, if_neg h]
      rw [e] at had hfit hsb
      refine zRF g1 ?_
      refine s_call (minus_spec tl ty (digs 18446744073709551616 X) (digs 18446744073709551616 y.m) c2 lX ly (by omega) (le_len two64 (by omega)) (by rw [vX, vy]; omega)) wS ?_
      rintro v c3 hc3 ⟨ts, rfl, hts⟩
      rw [vX, vy]
      refine zR ?_
      refine s_call (dtold_spec x.neg ts (digs 18446744073709551616 (X - y.m)) y.e c3 (lim_digs two64 _) (len_bl (by have : bl (X - y.m) ≤ 67108900 + 1 := hsb; omega)) he1 he2 (by rw [val_digs two64]; exact hfit)) wS ?_
      rintro v c4 hc4 ⟨tk, rfl, htk⟩
      rw [val_digs two64] at htk
      rw [val_digs two64]
      refine zR ?_
      exact ⟨tk, by rw [had], by rw [had]; exact htk.mono (by omega) (by omega)⟩
end Go.Proofs.YtacodmnlnlbahaaGreatDoor
set_option linter.unusedSimpArgs false
set_option linter.unusedVariables false
set_option maxRecDepth 100000
set_option maxHeartbeats 8000000
namespace Go.Proofs.YtacodmnlnlbahaaGreatDoor
open Go.VM

structure NumR (d : Dy) : Prop where
  sh : d.m = 0 ∨ d.m % 2 = 1
  bits : bl d.m ≤ 67108864
  lo : -2199023255552 ≤ d.e
  hi : d.e ≤ 2199023255552
def cl (d : Dy) : Dy := if d.m = 0 then dy0 else d
theorem cl_dyOf {d : Dy} (h : NumR d) : dyOf d.neg d.m d.e = cl d := by
  unfold cl
  by_cases g : d.m = 0
  · unfold dyOf; rw [if_pos g, if_pos g]
  · rw [if_neg g, dyOf_odd (by have := h.sh; omega)]
theorem cl_ok {d : Dy} (h : NumR d) : (cl d).Ok := by rw [← cl_dyOf h]; exact dyOf_ok _ _ _
theorem Num.R {d : Dy} (h : Num d) : NumR d := ⟨h.ok.odd, h.bits, h.lo, h.hi⟩
theorem cl_num {d : Dy} (h : Num d) : cl d = d := by
  unfold cl
  split
  · rename_i g; exact (h.ok.zero g).symm
  · rfl
theorem told_r (t : Tok) (x : Dy) (c : Nat) (hx : NumR x) : VSpec Tryz.prog F.dyadic_told c [whV x.neg t (digs 18446744073709551616 x.m), iv x.e] (fun r c' => AnsD c c' (cl x) r) := by
  have nx : (digs 18446744073709551616 x.m).length ≤ 1048576 := digs_len_bl (by have := hx.bits; omega)
  have h := dtold_spec x.neg t (digs 18446744073709551616 x.m) x.e c (lim_digs two64 x.m) (by omega) (by have := hx.lo; omega) (by have := hx.hi; omega) (by
    rw [val_digs two64]
    exact .inr (Nat.le_trans (bl_od _) hx.bits))
  rw [val_digs two64, cl_dyOf hx] at h
  exact h
theorem dsum_spec (tx ty : Tok) (x y : Dy) (c : Nat) (hx : NumR x) (hy : NumR y) :
    VSpec Tryz.prog F.dyadic_sum c [dyV tx x, dyV ty y] (fun r c' => AnsD c c' (addD (cl x) (cl y)) r) := by
  refine spec_mk hm E.dyadic_sum B.dyadic_sum K.dyadic_sum Q.dyadic_sum (by rw [N.dyadic_sum]; simp) ?_
  unfold C.dyadic_sum R.dyadic_sum
  have lx := lim_digs two64 x.m
  have ly := lim_digs two64 y.m
  have vx := val_digs two64 x.m
  have vy := val_digs two64 y.m
  have bx := hx.bits
  have by' := hy.bits
  have nx : (digs 18446744073709551616 x.m).length ≤ 1048576 := digs_len_bl (by omega)
  have ny : (digs 18446744073709551616 y.m).length ≤ 1048576 := digs_len_bl (by omega)
  refine zR ?_
  refine s_call (psign_spec x.neg tx (digs 18446744073709551616 x.m) (c + 3) lx (by omega)) wS ?_
  rintro v c1 hc1 rfl
  rw [vx]
  by_cases gx : x.m = 0
  · have e0 : sgW x.neg x.m = 0 := by unfold sgW; rw [if_pos gx]
    have ea : addD (cl x) (cl y) = cl y := addD_zero (cl_ok hy) (by unfold cl; rw [if_pos gx])
    rw [ea]
    refine zRF e0 ?_
    refine s_call (psign_spec x.neg tx (digs 18446744073709551616 x.m) c1 lx (by omega)) wS ?_
    rintro v c2 hc2 rfl
    rw [vx]
    refine zRF e0 ?_
    refine s_call (told_r ty y c2 hy) wS ?_
    rintro v c3 hc3 ⟨tk, rfl, htk⟩
    refine zR ?_
    exact ⟨tk, rfl, htk.mono (by omega) (by omega)⟩
  have e0 : ¬ sgW x.neg x.m = 0 := by unfold sgW; rw [if_neg gx]; split <;> decide
  refine zRF e0 ?_
  refine s_call (psign_spec y.neg ty (digs 18446744073709551616 y.m) c1 ly (by omega)) wS ?_
  rintro v c2 hc2 rfl
  rw [vy]
  by_cases gy : y.m = 0
  · have e1 : sgW y.neg y.m = 0 := by unfold sgW; rw [if_pos gy]
    have ea : addD (cl x) (cl y) = cl x := addD_comm0 (cl_ok hx) (by unfold cl; rw [if_pos gy]; rfl) (cl_ok hy)
    rw [ea]
    refine zRF e1 ?_
    refine s_call (told_r tx x c2 hx) wS ?_
    rintro v c3 hc3 ⟨tk, rfl, htk⟩
    refine zR ?_
    exact ⟨tk, rfl, htk.mono (by omega) (by omega)⟩
  have e1 : ¬ sgW y.neg y.m = 0 := by unfold sgW; rw [if_neg gy]; split <;> decide
  have ex : cl x = x := if_neg gx
  have ey : cl y = y := if_neg gy
  have ox : x.m % 2 = 1 := hx.sh.resolve_left gx
  have oy : y.m % 2 = 1 := hy.sh.resolve_left gy
  have hlx := hx.lo
  have hhx := hx.hi
  have hly := hy.lo
  have hhy := hy.hi
  rw [ex, ey]
  refine zSF e1 ?_
  refine v_cond ?_
  refine zSF e1 ?_
  refine vwp_skip ?_
  refine zS ?_
  refine v_cut (fun S => ∃ x' y' : Dy, ∃ tx' ty' : Tok, x'.m % 2 = 1 ∧ y'.m % 2 = 1 ∧ bl x'.m ≤ 67108864 ∧ bl y'.m ≤ 67108864 ∧ -2199023255552 ≤ x'.e ∧ x'.e ≤ 2199023255552 ∧ -2199023255552 ≤ y'.e ∧ y'.e ≤ 2199023255552 ∧ y'.e ≤ x'.e ∧ addD x' y' = addD x y ∧ S.ρ 2 = .ptr c 0 ∧ S.ρ 3 = .ptr (c + 1) 0 ∧ S.ρ 4 = .ptr (c + 2) 0 ∧ S.σ c = some ⟨[bv x'.neg, nats tx' (digs 18446744073709551616 x'.m), iv x'.e], true⟩ ∧ S.σ (c + 1) = some ⟨[bv y'.neg, nats ty' (digs 18446744073709551616 y'.m), iv y'.e], true⟩ ∧ S.σ (c + 2) = some ⟨[bv false, .sl .nil 1 [], iv 0], true⟩ ∧ (∀ q, S.c ≤ q → S.σ q = none) ∧ c2 ≤ S.c) ?_ ?_
  · by_cases g : x.e < y.e
    · refine zRF g ?_
      refine ⟨y, x, ty, tx, oy, ox, by', bx, hly, hhy, hlx, hhx, by omega, addD_comm y x, ?_⟩
      (repeat' apply And.intro) <;> first | rfl | omega | assumption | (intro q hq; rw [if_neg (by omega), if_neg (by omega), if_neg (by omega)]; rfl)
    · refine zRF g ?_
      refine ⟨x, y, tx, ty, ox, oy, bx, by', hlx, hhx, hly, hhy, by omega, rfl, ?_⟩
      (repeat' apply And.intro) <;> first | rfl | omega | assumption | (intro q hq; rw [if_neg (by omega), if_neg (by omega), if_neg (by omega)]; rfl)
  rintro ⟨ρ, σ, c3⟩ ⟨x', y', tx', ty', ox', oy', bx', by2, l1, l2, l3, l4, hee, had, r2, r3, r4, s0, s1, s2, hfr, hc3⟩
  dsimp only at r2 r3 r4 s0 s1 s2 hfr hc3
  rw [← had]
  clear had ex ey e0 e1 lx ly vx vy bx by' nx ny ox oy hlx hhx hly hhy hx hy gx gy
  obtain ⟨k, hk⟩ : ∃ k : Nat, x'.e - y'.e = (k : Int) := ⟨(x'.e - y'.e).toNat, by omega⟩
  have hkn : (x'.e - y'.e).toNat = k := by omega
  have lx := lim_digs two64 x'.m
  have ly := lim_digs two64 y'.m
  have vx := val_digs two64 x'.m
  have vy := val_digs two64 y'.m
  have nx : (digs 18446744073709551616 x'.m).length ≤ 1048576 := digs_len_bl (by omega)
  have ny : (digs 18446744073709551616 y'.m).length ≤ 1048576 := digs_len_bl (by omega)
  have Nx : Num x' := ⟨⟨.inr ox', fun h => by omega⟩, bx', l1, l2⟩
  have Ny : Num y' := ⟨⟨.inr oy', fun h => by omega⟩, by2, l3, l4⟩
  have hbk := bl_shl (x := x'.m) (k := k) (by omega)
  have etx : x'.top = x'.e + (bl x'.m : Int) - 1 := rfl
  have ety : y'.top = y'.e + (bl y'.m : Int) - 1 := rfl
  have hbx0 : 0 < bl x'.m := bl_pos (by omega)
  by_cases k0 : (0 : Int) < (k : Int)
  · obtain ⟨m, hmx, hmv⟩ : ∃ m : Int, max x'.top (y'.top + 1) = m ∧ (m = x'.top ∨ m = y'.top + 1) ∧ x'.top ≤ m ∧ y'.top + 1 ≤ m := by
      by_cases g : x'.top < y'.top + 1
      · exact ⟨y'.top + 1, by omega, .inr rfl, by omega, by omega⟩
      · exact ⟨x'.top, by omega, .inl rfl, by omega, by omega⟩
    refine zRF (jn r2 (jn r3 (jn r4 (jn s0 (jn s1 (jn s2 (jn hk k0))))))) ?_
    refine s_call (top_spec tx' x' c3 Nx) (wSF (jn r2 (jn r3 (jn r4 (jn s0 (jn s1 s2)))))) ?_
    rintro v c4 hc4 rfl
    refine zRF (jn r2 (jn r3 (jn r4 (jn s0 (jn s1 (jn s2 (jn hk k0))))))) ?_
    refine s_call (top_spec ty' y' c4 Ny) (wSF (jn r2 (jn r3 (jn r4 (jn s0 (jn s1 s2)))))) ?_
    rintro v c5 hc5 rfl
    by_cases gb : (67108866 : Int) < m - y'.e
    · refine zRF (jn r2 (jn r3 (jn r4 (jn s0 (jn s1 (jn s2 (jn hk (jn k0 (jn hmx gb))))))))) ?_
      have hf := sum_far (x := x') (y := y') (k := 67108864) (by omega) oy' by2 (by rw [hkn, hbk]; omega)
      have ht : tE (addD x' y') = 3 := if_pos hf
      refine ⟨.nil, ?_, .inl ⟨rfl, ?_⟩⟩
      · rw [ansD_bad (by rw [ht]; decide), ht]; rfl
      · rw [ansD_bad (by rw [ht]; decide)]; rfl
    have hX : bl (x'.m * 2 ^ k) ≤ 67108900 := by rw [hbk]; omega
    have hk2 : k ≤ 67108900 := by omega
    refine zRF (jn r2 (jn r3 (jn r4 (jn s0 (jn s1 (jn s2 (jn hk (jn k0 (jn hmx gb))))))))) ?_
    refine s_call (left_all tx' (digs 18446744073709551616 x'.m) k c5 lx (by omega) (by omega)) (wSF (jn r2 (jn r3 (jn r4 (jn s0 (jn s1 (jn s2 hk))))))) ?_
    rintro v c6 hc6 ⟨tl, rfl, htl⟩
    rw [vx]
    have lX := lim_digs two64 (x'.m * 2 ^ k)
    have vX := val_digs two64 (x'.m * 2 ^ k)
    have nX : (digs 18446744073709551616 (x'.m * 2 ^ k)).length ≤ 1048600 := digs_len_bl (by omega)
    have X0 : x'.m * 2 ^ k ≠ 0 := Nat.mul_ne_zero (by omega) (Nat.ne_of_gt (Nat.two_pow_pos k))
    have hlong := fun c => long_spec tx' ty' x' y' k c hk ox' oy' bx' by2 hX hk2 (by omega) (by omega)
    have hfit := sum_fit (x := x') (y := y') hee ox' oy' bx' by2
    have hsum := addD_sumW (x := x') (y := y') hee
    unfold sumW at hfit hsum
    rw [hkn] at hfit hsum
    generalize x'.m * 2 ^ k = X at *
    refine zRF (jn r2 (jn r3 (jn r4 (jn s0 (jn s1 s2))))) ?_
    refine s_call (wmake_spec x'.neg tl (digs 18446744073709551616 X) c6 lX (by omega)) (wSF (jn r2 (jn r3 (jn r4 (jn s0 (jn s1 s2)))))) ?_
    rintro v c7 hc7 hw7
    have f7 : σ c7 = none := hfr c7 (by omega)
    rcases hw7 with ⟨hb, tk, rfl⟩ | ⟨hb, rfl⟩
    · simp only [vX] at hb ⊢
      have ez : zneg x'.neg X = x'.neg := zneg_nz X0
      refine zRF (jn r2 (jn r3 (jn r4 (jn s0 (jn s1 (jn s2 (jn ez f7))))))) ?_
      refine s_call (wadd_spec x'.neg y'.neg tk ty' (digs 18446744073709551616 X) (digs 18446744073709551616 y'.m) (c7 + 1) lX ly (by omega) (by omega) (by rw [vX]; exact X0) (by rw [vy]; omega)) (wSF (jn r2 (jn r3 (jn r4 (jn s0 (jn s1 (jn s2 ez))))))) ?_
      rintro v c8 hc8 (⟨hb2, tk2, rfl⟩ | ⟨hb2, rfl⟩)
      · simp only [vX, vy] at hb2 ⊢
        refine zRF (jn r2 (jn r3 (jn r4 (jn s0 (jn s1 s2))))) ?_
        refine s_call (dtold_spec (zneg (addW x'.neg X y'.neg y'.m).1 (addW x'.neg X y'.neg y'.m).2) tk2 (digs 18446744073709551616 (addW x'.neg X y'.neg y'.m).2) y'.e (c8 + 1) (lim_digs two64 _) (len_bl (by omega)) (by omega) (by omega) (by rw [val_digs two64]; exact hfit)) (wSF (jn r2 (jn r3 (jn r4 (jn s0 (jn s1 s2)))))) ?_
        rintro v c9 hc9 ⟨tq, rfl, htq⟩
        rw [val_digs two64, dyOf_zneg, ← hsum] at htq
        rw [val_digs two64, dyOf_zneg, ← hsum]
        refine zRF (jn r2 (jn r3 (jn r4 (jn s0 (jn s1 s2))))) ?_
        exact ⟨tq, rfl, htq.mono (by omega) (by omega)⟩
      · refine zRF (jn r2 (jn r3 (jn r4 (jn s0 (jn s1 s2))))) ?_
        refine s_call (hlong (c8 + 1)) (wSF (jn r2 (jn r3 (jn r4 (jn s0 (jn s1 s2)))))) ?_
        rintro v c9 hc9 ⟨tq, rfl, htq⟩
        refine zRF (jn r2 (jn r3 (jn r4 (jn s0 (jn s1 s2))))) ?_
        exact ⟨tq, rfl, htq.mono (by omega) (by omega)⟩
    · refine zRF (jn r2 (jn r3 (jn r4 (jn s0 (jn s1 (jn s2 f7)))))) ?_
      refine s_call (hlong (c7 + 1)) (wSF (jn r2 (jn r3 (jn r4 (jn s0 (jn s1 s2)))))) ?_
      rintro v c8 hc8 ⟨tq, rfl, htq⟩
      refine zRF (jn r2 (jn r3 (jn r4 (jn s0 (jn s1 s2))))) ?_
      exact ⟨tq, rfl, htq.mono (by omega) (by omega)⟩
  · have hk00 : k = 0 := by omega
    have hX : bl (x'.m * 2 ^ k) ≤ 67108900 := by rw [hbk]; omega
    have hk2 : k ≤ 67108900 := by omega
    refine zRF (jn r2 (jn r3 (jn r4 (jn s0 (jn s1 (jn s2 (jn hk k0))))))) ?_
    refine s_call (left_all tx' (digs 18446744073709551616 x'.m) k c3 lx (by omega) (by omega)) (wSF (jn r2 (jn r3 (jn r4 (jn s0 (jn s1 (jn s2 hk))))))) ?_
    rintro v c6 hc6 ⟨tl, rfl, htl⟩
    rw [vx]
    have lX := lim_digs two64 (x'.m * 2 ^ k)
    have vX := val_digs two64 (x'.m * 2 ^ k)
    have nX : (digs 18446744073709551616 (x'.m * 2 ^ k)).length ≤ 1048600 := digs_len_bl (by omega)
    have X0 : x'.m * 2 ^ k ≠ 0 := Nat.mul_ne_zero (by omega) (Nat.ne_of_gt (Nat.two_pow_pos k))
    have hlong := fun c => long_spec tx' ty' x' y' k c hk ox' oy' bx' by2 hX hk2 (by omega) (by omega)
    have hfit := sum_fit (x := x') (y := y') hee ox' oy' bx' by2
    have hsum := addD_sumW (x := x') (y := y') hee
    unfold sumW at hfit hsum
    rw [hkn] at hfit hsum
    generalize x'.m * 2 ^ k = X at *
    refine zRF (jn r2 (jn r3 (jn r4 (jn s0 (jn s1 s2))))) ?_
    refine s_call (wmake_spec x'.neg tl (digs 18446744073709551616 X) c6 lX (by omega)) (wSF (jn r2 (jn r3 (jn r4 (jn s0 (jn s1 s2)))))) ?_
    rintro v c7 hc7 hw7
    have f7 : σ c7 = none := hfr c7 (by omega)
    rcases hw7 with ⟨hb, tk, rfl⟩ | ⟨hb, rfl⟩
    · simp only [vX] at hb ⊢
      have ez : zneg x'.neg X = x'.neg := zneg_nz X0
      refine zRF (jn r2 (jn r3 (jn r4 (jn s0 (jn s1 (jn s2 (jn ez f7))))))) ?_
      refine s_call (wadd_spec x'.neg y'.neg tk ty' (digs 18446744073709551616 X) (digs 18446744073709551616 y'.m) (c7 + 1) lX ly (by omega) (by omega) (by rw [vX]; exact X0) (by rw [vy]; omega)) (wSF (jn r2 (jn r3 (jn r4 (jn s0 (jn s1 (jn s2 ez))))))) ?_
      rintro v c8 hc8 (⟨hb2, tk2, rfl⟩ | ⟨hb2, rfl⟩)
      · simp only [vX, vy] at hb2 ⊢
        refine zRF (jn r2 (jn r3 (jn r4 (jn s0 (jn s1 s2))))) ?_
        refine s_call (dtold_spec (zneg (addW x'.neg X y'.neg y'.m).1 (addW x'.neg X y'.neg y'.m).2) tk2 (digs 18446744073709551616 (addW x'.neg X y'.neg y'.m).2) y'.e (c8 + 1) (lim_digs two64 _) (len_bl (by omega)) (by omega) (by omega) (by rw [val_digs two64]; exact hfit)) (wSF (jn r2 (jn r3 (jn r4 (jn s0 (jn s1 s2)))))) ?_
        rintro v c9 hc9 ⟨tq, rfl, htq⟩
        rw [val_digs two64, dyOf_zneg, ← hsum] at htq
        rw [val_digs two64, dyOf_zneg, ← hsum]
        refine zRF (jn r2 (jn r3 (jn r4 (jn s0 (jn s1 s2))))) ?_
        exact ⟨tq, rfl, htq.mono (by omega) (by omega)⟩
      · refine zRF (jn r2 (jn r3 (jn r4 (jn s0 (jn s1 s2))))) ?_
        refine s_call (hlong (c8 + 1)) (wSF (jn r2 (jn r3 (jn r4 (jn s0 (jn s1 s2)))))) ?_
        rintro v c9 hc9 ⟨tq, rfl, htq⟩
        refine zRF (jn r2 (jn r3 (jn r4 (jn s0 (jn s1 s2))))) ?_
        exact ⟨tq, rfl, htq.mono (by omega) (by omega)⟩
    · refine zRF (jn r2 (jn r3 (jn r4 (jn s0 (jn s1 (jn s2 f7)))))) ?_
      refine s_call (hlong (c7 + 1)) (wSF (jn r2 (jn r3 (jn r4 (jn s0 (jn s1 s2)))))) ?_
      rintro v c8 hc8 ⟨tq, rfl, htq⟩
      refine zRF (jn r2 (jn r3 (jn r4 (jn s0 (jn s1 s2))))) ?_
      exact ⟨tq, rfl, htq.mono (by omega) (by omega)⟩
end Go.Proofs.YtacodmnlnlbahaaGreatDoor
set_option linter.unusedSimpArgs false
set_option linter.unusedVariables false
set_option maxRecDepth 100000
set_option maxHeartbeats 8000000
namespace Go.Proofs.YtacodmnlnlbahaaGreatDoor
open Go.VM

theorem DAdd_spec (ta tb : Tok) (a b : RD) (c : Nat) (ha : a.Ok) (hb : b.Ok) : VSpec Tryz.prog F.dyadic_Add c [rdV ta a, rdV tb b] (fun r c' => AnsD c c' (addD a.d b.d) r) := by
  refine spec_mk hm E.dyadic_Add B.dyadic_Add K.dyadic_Add Q.dyadic_Add (by rw [N.dyadic_Add]; simp) ?_
  unfold C.dyadic_Add R.dyadic_Add
  refine zR ?_
  refine s_call (two_spec a.neg b.neg ta tb a.l b.l a.e b.e (c + 3) ha.arg hb.arg ha.fit hb.fit) wS ?_
  rintro v c1 hc1 ⟨tx, ty, cm, h1, h2, rfl, _, _⟩
  refine zR ?_
  refine s_call (dsum_spec tx ty a.d b.d (c1 + 2) ha.num.R hb.num.R) wSr ?_
  rw [cl_num ha.num, cl_num hb.num]
  rintro v c2 hc2 ⟨tk, rfl, htk⟩
  refine zR ?_
  exact ⟨tk, rfl, htk.mono (by omega) (by omega)⟩
def rQ (x : Dy) (k : Nat) (up : Bool) : Nat := x.m / 2 ^ k + (if up = x.neg then 0 else 1)
theorem div_small {m k : Nat} (h : bl m ≤ k) : m / 2 ^ k = 0 := Nat.div_eq_of_lt (lt_of_bl h)
theorem rQ_bl {x : Dy} {k K : Nat} {up : Bool} (hk : 0 < k) (hK : 0 < K) (hb : bl x.m ≤ K + 1) : bl (rQ x k up) ≤ K + 1 := by
  unfold rQ
  obtain ⟨j, rfl⟩ : ∃ j, k = j + 1 := ⟨k - 1, by omega⟩
  have h1 : bl (x.m / 2 ^ (j + 1)) ≤ K := by
    rw [Nat.pow_succ, Nat.mul_comm, ← Nat.div_div_eq_div_mul]
    exact Nat.le_trans (bl_mono (Nat.div_le_self _ _)) (bl_halfK hb)
  have h2 : bl (if up = x.neg then 0 else 1) ≤ K := by
    split
    · rw [bl_zero]; omega
    · exact Nat.le_trans (bl_le (k := 1) (by decide)) (by omega)
  exact bl_addK h1 h2
theorem steps_spec (tx : Tok) (x : Dy) (pos mode : Int) (up : Bool) (k c : Nat) (hx : Num x) (h0 : x.m ≠ 0) (hk : pos - x.e = (k : Int)) (hk0 : 0 < k) (hk2 : k ≤ 4398046511104) (hmo : (mode = 0 ∧ up = false) ∨ (mode = 1 ∧ up = true)) :
    VSpec Tryz.prog F.dyadic_steps c [dyV tx x, iv pos, iv mode] (fun r _ => ∃ tk, r = whV x.neg tk (digs 18446744073709551616 (rQ x k up))) := by
  refine spec_mk hm E.dyadic_steps B.dyadic_steps K.dyadic_steps Q.dyadic_steps (by rw [N.dyadic_steps]; simp) ?_
  unfold C.dyadic_steps R.dyadic_steps
  have bx := hx.bits
  have lx := hx.arg.lim
  have nx := hx.arg.len
  have vx := val_digs two64 x.m
  have hlo := hx.lo
  have hhi := hx.hi
  have e0 : ¬ sgW x.neg x.m = 0 := by unfold sgW; rw [if_neg h0]; split <;> decide
  have g1 : ¬ pos ≤ x.e := by omega
  refine zR ?_
  refine s_call (psign_spec x.neg tx (digs 18446744073709551616 x.m) (c + 2) lx (by omega)) wS ?_
  rintro v c1 hc1 rfl
  rw [vx]
  refine zRF (jn e0 (jn g1 hk)) ?_
  refine s_call (plen_spec x.neg tx (digs 18446744073709551616 x.m) c1 lx (by omega)) wS ?_
  rintro v c2 hc2 rfl
  rw [vx]
  have hq : bl (x.m / 2 ^ k) ≤ 67108864 := Nat.le_trans (bl_mono (Nat.div_le_self _ _)) bx
  refine zS ?_
  refine v_cutQ (fun S => ∃ tq, S.ρ 8 = nats tq (digs 18446744073709551616 (x.m / 2 ^ k)) ∧ S.ρ 2 = iv mode ∧ S.ρ 3 = .ptr c 0 ∧ S.ρ 6 = .ptr (c + 1) 0 ∧ S.σ c = some ⟨[bv x.neg, nats tx (digs 18446744073709551616 x.m), iv x.e], true⟩ ∧ S.σ (c + 1) = some ⟨[bv false, .sl .nil 1 []], true⟩ ∧ c2 ≤ S.c) ?_ ?_
  · by_cases g : (k : Int) < (bl x.m : Int)
    · refine zRF g ?_
      refine s_call (shifted_spec tx (digs 18446744073709551616 x.m) k c2 lx (by omega) (by omega) (by rw [vx]; exact hq)) wS ?_
      rintro v c3 hc3 ⟨tq, rfl, _⟩
      rw [vx]
      refine zR ?_
      refine ⟨tq, ?_⟩
      (repeat' apply And.intro) <;> first | rfl | omega | assumption | exact True.intro
    · refine zRF g ?_
      refine ⟨.nil, ?_⟩
      rw [div_small (by omega)]
      (repeat' apply And.intro) <;> first | rfl | omega | assumption | exact True.intro
  rintro ⟨ρ, σ, c3⟩ ⟨tq, r8, r2, r3, r6, s0, s1, hc3⟩
  dsimp only at r8 r2 r3 r6 s0 s1 hc3
  have lq := lim_digs two64 (x.m / 2 ^ k)
  have vq := val_digs two64 (x.m / 2 ^ k)
  have nq : (digs 18446744073709551616 (x.m / 2 ^ k)).length ≤ 1048576 := digs_len_bl (by omega)
  have eq0 : up = x.neg → rQ x k up = x.m / 2 ^ k := fun h => by unfold rQ; rw [if_pos h, Nat.add_zero]
  have eq1 : ¬ up = x.neg → rQ x k up = x.m / 2 ^ k + 1 := fun h => by unfold rQ; rw [if_neg h]
  generalize x.m / 2 ^ k = q at *
  have n20 : ¬ (0 : Int) = 2 := by decide
  have n21 : ¬ (1 : Int) = 2 := by decide
  have n10 : ¬ (1 : Int) = 0 := by decide
  rcases hmo with ⟨rfl, rfl⟩ | ⟨rfl, rfl⟩
  · cases hn : x.neg with
    | false =>
      rw [eq0 hn.symm]
      refine zRF (jn r8 (jn r2 (jn r3 (jn r6 (jn s0 (jn s1 (jn n20 hn))))))) ?_
      exact ⟨tq, rfl⟩
    | true =>
      rw [eq1 (by rw [hn]; decide)]
      refine zRF (jn r8 (jn r2 (jn r3 (jn r6 (jn s0 (jn s1 (jn n20 hn))))))) ?_
      refine s_call (from_spec 1 c3 (by decide)) wS ?_
      rintro v c4 hc4 ⟨t1, rfl, _⟩
      refine zRF (jn r8 (jn r2 (jn r3 (jn r6 (jn s0 (jn s1 (jn n20 hn))))))) ?_
      refine s_call (plus_spec tq t1 (digs 18446744073709551616 q) (digs 18446744073709551616 1) c4 lq (lim_digs two64 1) (by omega) (by decide)) (wSF r8) ?_
      rw [vq, val_digs two64]
      rintro v c5 hc5 ⟨t2, rfl, _⟩
      refine zRF (jn r8 (jn r2 (jn r3 (jn r6 (jn s0 (jn s1 (jn n20 hn))))))) ?_
      exact ⟨t2, rfl⟩
  · cases hn : x.neg with
    | true =>
      rw [eq0 hn.symm]
      refine zRF (jn r8 (jn r2 (jn r3 (jn r6 (jn s0 (jn s1 (jn n21 (jn n10 hn)))))))) ?_
      exact ⟨tq, rfl⟩
    | false =>
      rw [eq1 (by rw [hn]; decide)]
      refine zRF (jn r8 (jn r2 (jn r3 (jn r6 (jn s0 (jn s1 (jn n21 (jn n10 hn)))))))) ?_
      refine s_call (from_spec 1 c3 (by decide)) wS ?_
      rintro v c4 hc4 ⟨t1, rfl, _⟩
      refine zRF (jn r8 (jn r2 (jn r3 (jn r6 (jn s0 (jn s1 (jn n21 (jn n10 hn)))))))) ?_
      refine s_call (plus_spec tq t1 (digs 18446744073709551616 q) (digs 18446744073709551616 1) c4 lq (lim_digs two64 1) (by omega) (by decide)) (wSF r8) ?_
      rw [vq, val_digs two64]
      rintro v c5 hc5 ⟨t2, rfl, _⟩
      refine zRF (jn r8 (jn r2 (jn r3 (jn r6 (jn s0 (jn s1 (jn n21 (jn n10 hn)))))))) ?_
      exact ⟨t2, rfl⟩
end Go.Proofs.YtacodmnlnlbahaaGreatDoor
set_option linter.unusedSimpArgs false
set_option linter.unusedVariables false
set_option maxRecDepth 100000
set_option maxHeartbeats 8000000
namespace Go.Proofs.YtacodmnlnlbahaaGreatDoor
open Go.VM

theorem int06_one (c : Nat) : VSpec Tryz.prog F.surdref06_Int c [iv 1] (fun r _ => ∃ tk, r = zV tk false 1) := by
  refine spec_mk hm E.surdref06_Int B.surdref06_Int K.surdref06_Int Q.surdref06_Int (by rw [N.surdref06_Int]; simp) ?_
  unfold C.surdref06_Int R.surdref06_Int
  refine zR ?_
  refine s_call (oneR (c + 1)) wS ?_
  rintro v c1 hc1 ⟨i, rfl, _, _⟩
  refine zR ?_
  refine s_call (make1_spec false (.id i) 1 c1 (by decide)) wS ?_
  rintro v c2 hc2 rfl
  refine zR ?_
  exact ⟨_, rfl⟩
theorem int06_neg (c : Nat) : VSpec Tryz.prog F.surdref06_Int c [iv (-1)] (fun r _ => ∃ tk, r = zV tk true 1) := by
  refine spec_mk hm E.surdref06_Int B.surdref06_Int K.surdref06_Int Q.surdref06_Int (by rw [N.surdref06_Int]; simp) ?_
  unfold C.surdref06_Int R.surdref06_Int
  refine zRF @n_neg' ?_
  refine s_call (of_spec (.id (c + 1)) [1] (c + 2) (.cons (by decide) .nil) (by decide)) wSr ?_
  rintro v c1 hc1 ⟨i, rfl, _, _⟩
  have e : val 18446744073709551616 [1] = 1 := rfl
  rw [e]
  refine zR ?_
  refine s_call (make1_spec true (.id i) 1 c1 (by decide)) wS ?_
  rintro v c2 hc2 rfl
  refine zR ?_
  exact ⟨_, rfl⟩
theorem sub06_spec (t u : Tok) (an bn : Bool) (a b c : Nat) (ha : bl a ≤ 34359738368) (hb : bl b ≤ 34359738368) :
    VSpec Tryz.prog F.surdref06_Sub c [zV t an a, zV u bn b] (fun r _ => ∃ tk, r = zV tk (zneg (addW an a (zneg (!bn) b) b).1 (addW an a (zneg (!bn) b) b).2) (addW an a (zneg (!bn) b) b).2) := by
  refine spec_mk hm E.surdref06_Sub B.surdref06_Sub K.surdref06_Sub Q.surdref06_Sub (by rw [N.surdref06_Sub]; simp) ?_
  unfold C.surdref06_Sub R.surdref06_Sub
  refine zR ?_
  refine s_call (rneg06_spec u bn b (c + 3) (by omega)) wS ?_
  rintro v c1 hc1 rfl
  refine zR ?_
  refine s_call (radd06_spec t u an (zneg (!bn) b) a b c1 ha hb) wS ?_
  rintro v c2 hc2 ⟨tk, rfl⟩
  refine zR ?_
  exact ⟨tk, rfl⟩
theorem mul06_spec (t u : Tok) (an bn : Bool) (a b c : Nat) (ha : bl a ≤ 8589934592) (hb : bl b ≤ 8589934592) :
    VSpec Tryz.prog F.surdref06_Mul c [zV t an a, zV u bn b] (fun r _ => ∃ tk, r = zV tk (zneg (an != bn) (a * b)) (a * b)) := by
  refine spec_mk hm E.surdref06_Mul B.surdref06_Mul K.surdref06_Mul Q.surdref06_Mul (by rw [N.surdref06_Mul]; simp) ?_
  unfold C.surdref06_Mul R.surdref06_Mul
  have hb' := bl_mul_le a b
  have en : sbin .neq true (bv an) (bv bn) = some (bv (an != bn)) := by cases an <;> cases bn <;> rfl
  refine zRF en ?_
  refine s_call (mulR t u a b (c + 3) (by omega) (by omega)) wS ?_
  rintro v c1 hc1 ⟨i, rfl, _, _⟩
  refine zR ?_
  refine s_call (make1_spec (an != bn) (.id i) (a * b) c1 (by omega)) wS ?_
  rintro v c2 hc2 rfl
  refine zR ?_
  exact ⟨_, rfl⟩
theorem floor_rest {m s : Nat} (hs : 0 < s) (hm : m % 2 = 1) : 0 < m % 2 ^ s ∧ m % 2 ^ s < 2 ^ s := by
  have h2 : m % 2 ^ s % 2 = 1 := by
    obtain ⟨j, rfl⟩ : ∃ j, s = j + 1 := ⟨s - 1, by omega⟩
    rw [Nat.mod_mod_of_dvd m (by rw [Nat.pow_succ]; exact Nat.dvd_mul_left 2 _), hm]
  exact ⟨by omega, Nat.mod_lt _ (Nat.two_pow_pos s)⟩
theorem addW_sub {m Y : Nat} (h : Y ≤ m) : addW false m (zneg true Y) Y = (false, m - Y) := by
  by_cases g : Y = 0
  · subst g
    rfl
  · rw [zn_nz g]
    unfold addW
    rw [if_neg (by decide), if_neg (by omega)]
theorem addW_one (q : Nat) : addW (zneg true q) q true 1 = (true, q + 1) := by
  by_cases g : q = 0
  · subst g
    rfl
  · rw [zn_nz g]
    exact if_pos rfl
theorem floor06_spec (t u : Tok) (neg : Bool) (m s c : Nat) (hs : 0 < s) (ho : m % 2 = 1) (hb : bl m ≤ 134217728) (hs2 : s ≤ 134217740) :
    VSpec Tryz.prog F.surdref06_Floor c [zV t neg m, zV u false (2 ^ s)] (fun r _ => ∃ t1 t2 R0, r = .tup [zV t1 neg (m / 2 ^ s + (if false = neg then 0 else 1)), zV t2 false R0] ∧ R0 ≠ 0 ∧ bl R0 ≤ 600000000) := by
  refine spec_mk hm E.surdref06_Floor B.surdref06_Floor K.surdref06_Floor Q.surdref06_Floor (by rw [N.surdref06_Floor]; simp) ?_
  unfold C.surdref06_Floor R.surdref06_Floor
  obtain ⟨r1, r2⟩ := floor_rest hs ho
  have hda := Nat.div_add_mod m (2 ^ s)
  have hp := Nat.two_pow_pos s
  have hbs : bl (2 ^ s) ≤ 134217741 := Nat.le_trans (bl_le (k := s + 1) (Nat.pow_lt_pow_right (by decide) (by omega))) (by omega)
  have hq : bl (m / 2 ^ s) ≤ 134217728 := Nat.le_trans (bl_mono (Nat.div_le_self _ _)) hb
  have hr : bl (m % 2 ^ s) ≤ 134217728 := Nat.le_trans (bl_mono (Nat.mod_le _ _)) hb
  refine zR ?_
  refine s_call (div32_spec t u m (2 ^ s) (c + 4) hb (by omega) hp) wS ?_
  generalize 2 ^ s = B0 at *
  generalize m / B0 = q at *
  generalize m % B0 = r0 at *
  rintro v c1 hc1 ⟨tq, tr, rfl⟩
  have hqb := bl_mul_le q B0
  have hq1 := bl_addK (a := q) (b := 1) (k := 134217728) hq (by decide)
  have hqb1 := bl_mul_le (q + 1) B0
  have hr0 : ¬ r0 = 0 := by omega
  cases neg
  · refine zR ?_
    refine s_call (make1_spec false tq q c1 (by omega)) wS ?_
    rintro v c2 hc2 rfl
    refine zR ?_
    refine s_call (zero_spec tr r0 (c2 + 1) (lenOk (by omega))) wS ?_
    rintro v c3 hc3 rfl
    refine zRF hr0 ?_
    refine s_call (mul06_spec tq u (zneg false q) false q B0 c3 (by omega) (by omega)) wS ?_
    rintro v c4 hc4 ⟨tm, rfl⟩
    refine zR ?_
    refine s_call (sub06_spec t tm false (zneg (zneg false q != false) (q * B0)) m (q * B0) c4 (by omega) (by omega)) wS ?_
    rintro v c5 hc5 ⟨ts, rfl⟩
    refine zR ?_
    have ez : zneg (!zneg (zneg false q != false) (q * B0)) (q * B0) = zneg true (q * B0) := rfl
    rw [ez, addW_sub (by rw [Nat.mul_comm]; omega)]
    refine ⟨tq, ts, m - q * B0, rfl, by rw [Nat.mul_comm]; omega, Nat.le_trans (bl_mono (Nat.sub_le _ _)) (by omega)⟩
  · refine zR ?_
    refine s_call (make1_spec true tq q c1 (by omega)) wS ?_
    rintro v c2 hc2 rfl
    refine zR ?_
    refine s_call (zero_spec tr r0 (c2 + 1) (lenOk (by omega))) wS ?_
    rintro v c3 hc3 rfl
    refine zRF hr0 ?_
    refine s_call (int06_one c3) wS ?_
    rintro v c4 hc4 ⟨t1, rfl⟩
    refine zR ?_
    refine s_call (sub06_spec tq t1 (zneg true q) false q 1 c4 (by omega) (by decide)) wS ?_
    have ez : zneg (!false) 1 = true := rfl
    rw [ez, addW_one]
    rintro v c5 hc5 ⟨tx, rfl⟩
    have ez2 : zneg true (q + 1) = true := zn_nz (by omega)
    have hYm : m < (q + 1) * B0 := by rw [Nat.add_mul, Nat.mul_comm q]; omega
    have hY0 : (q + 1) * B0 ≠ 0 := by omega
    refine zR ?_
    refine s_call (mul06_spec tx u (zneg (true, q + 1).1 (true, q + 1).2) false (true, q + 1).2 B0 c5 (by show bl (q + 1) ≤ _; omega) (by omega)) wS ?_
    show ∀ v c', _ → (∃ tk, v = zV tk (zneg (zneg true (q + 1) != false) ((q + 1) * B0)) ((q + 1) * B0)) → _
    rw [ez2, show (true != false) = true from rfl, zn_nz hY0]
    generalize (q + 1) * B0 = Y at *
    rintro v c6 hc6 ⟨tm, rfl⟩
    refine zR ?_
    refine s_call (sub06_spec t tm true true m Y c6 (by omega) (by omega)) wS ?_
    have ez3 : zneg (!true) Y = false := rfl
    have ea : addW true m false Y = (false, Y - m) := by unfold addW; rw [if_neg (by decide), if_pos hYm]
    rw [ez3, ea]
    rintro v c7 hc7 ⟨ts, rfl⟩
    refine zR ?_
    refine ⟨tx, ts, Y - m, ?_, by omega, Nat.le_trans (bl_mono (Nat.sub_le _ _)) (by omega)⟩
    show V.tup [zV tx (zneg true (q + 1)) (q + 1), zV ts false (Y - m)] = _
    rw [ez2]
end Go.Proofs.YtacodmnlnlbahaaGreatDoor
set_option linter.unusedSimpArgs false
set_option linter.unusedVariables false
set_option maxRecDepth 100000
set_option maxHeartbeats 8000000
namespace Go.Proofs.YtacodmnlnlbahaaGreatDoor
open Go.VM

theorem ceil_sum (neg : Bool) (q : Nat) : addW neg (q + (if false = neg then 0 else 1)) false 1 = (neg, q + (if true = neg then 0 else 1)) := by
  cases neg
  · exact if_pos rfl
  · show addW true (q + 1) false 1 = (true, q + 0)
    unfold addW
    rw [if_neg (by decide), if_neg (by omega)]
    rfl
theorem ceil06_spec (t u : Tok) (neg : Bool) (m s c : Nat) (hs : 0 < s) (ho : m % 2 = 1) (hb : bl m ≤ 134217728) (hs2 : s ≤ 134217740) :
    VSpec Tryz.prog F.surdref06_Ceil c [zV t neg m, zV u false (2 ^ s)] (fun r _ => ∃ t1 y, r = .tup [zV t1 (zneg neg (m / 2 ^ s + (if true = neg then 0 else 1))) (m / 2 ^ s + (if true = neg then 0 else 1)), y]) := by
  refine spec_mk hm E.surdref06_Ceil B.surdref06_Ceil K.surdref06_Ceil Q.surdref06_Ceil (by rw [N.surdref06_Ceil]; simp) ?_
  unfold C.surdref06_Ceil R.surdref06_Ceil
  have hbs : bl (2 ^ s) ≤ 134217741 := Nat.le_trans (bl_le (k := s + 1) (Nat.pow_lt_pow_right (by decide) (by omega))) (by omega)
  have hq : bl (m / 2 ^ s) ≤ 134217728 := Nat.le_trans (bl_mono (Nat.div_le_self _ _)) hb
  refine zR ?_
  refine s_call (floor06_spec t u neg m s (c + 4) hs ho hb hs2) wS ?_
  rintro v c1 hc1 ⟨t1, t2, R0, rfl, h0, hR⟩
  have hcs := ceil_sum neg (m / 2 ^ s)
  generalize 2 ^ s = B0 at *
  generalize m / B0 = q at *
  have hx1 : bl (q + (if false = neg then 0 else 1)) ≤ 134217729 := by
    refine bl_addK hq ?_
    split
    · rw [bl_zero]; omega
    · decide
  generalize q + (if false = neg then 0 else 1) = x at *
  have hx2 : bl (q + (if true = neg then 0 else 1)) ≤ 134217729 := by
    refine bl_addK hq ?_
    split
    · rw [bl_zero]; omega
    · decide
  generalize q + (if true = neg then 0 else 1) = y at *
  have e0 : ¬ sgW false R0 = 0 := by unfold sgW; rw [if_neg h0]; decide
  have hym := bl_mul_le y B0
  refine zR ?_
  refine s_call (zsign_spec false t2 R0 (c1 + 2) (by omega) (fun _ => rfl)) wS ?_
  rintro v c2 hc2 rfl
  refine zRF e0 ?_
  refine s_call (int06_one c2) wS ?_
  rintro v c3 hc3 ⟨t3, rfl⟩
  refine zR ?_
  refine s_call (radd06_spec t1 t3 neg false x 1 c3 (by omega) (by decide)) wS ?_
  rw [hcs]
  rintro v c4 hc4 ⟨t4, rfl⟩
  refine zR ?_
  refine s_call (mul06_spec t4 u (zneg neg y) false y B0 c4 (by omega) (by omega)) wS ?_
  rintro v c5 hc5 ⟨t5, rfl⟩
  refine zR ?_
  refine s_call (sub06_spec t t5 neg (zneg (zneg neg y != false) (y * B0)) m (y * B0) c5 (by omega) (by omega)) wS ?_
  rintro v c6 hc6 ⟨t6, rfl⟩
  refine zR ?_
  exact ⟨_, _, rfl⟩
theorem one_shl (s : Nat) : 1 * 2 ^ s = 2 ^ s := Nat.one_mul _
theorem int08_spec (neg : Bool) (z pos : Int) (c : Nat) (hz : (neg = true ∧ z = -1) ∨ (neg = false ∧ z = 1)) (hp : fitE pos) : VSpec Tryz.prog F.surdref08_Int c [iv z, iv pos] (fun r _ => ∃ tk, r = fV tk (dyOf neg 1 pos)) := by
  refine spec_mk hm E.surdref08_Int B.surdref08_Int K.surdref08_Int Q.surdref08_Int (by rw [N.surdref08_Int]; simp) ?_
  unfold C.surdref08_Int R.surdref08_Int
  unfold fitE at hp
  refine zR ?_
  rcases hz with ⟨rfl, rfl⟩ | ⟨rfl, rfl⟩
  · refine s_call (int06_neg (c + 1)) wS ?_
    rintro v c1 hc1 ⟨t1, rfl⟩
    refine zR ?_
    refine s_call (of08_spec true t1 1 pos c1 (by decide) (fun h => by cases h) (by omega) (by omega)) wS ?_
    rintro v c2 hc2 ⟨t2, rfl⟩
    refine zR ?_
    exact ⟨_, rfl⟩
  · refine s_call (int06_one (c + 1)) wS ?_
    rintro v c1 hc1 ⟨t1, rfl⟩
    refine zR ?_
    refine s_call (of08_spec false t1 1 pos c1 (by decide) (fun h => by cases h) (by omega) (by omega)) wS ?_
    rintro v c2 hc2 ⟨t2, rfl⟩
    refine zR ?_
    exact ⟨_, rfl⟩
theorem rD_pos {x : Dy} {pos : Int} {up : Bool} (h0 : x.m ≠ 0) (g : ¬ pos ≤ x.e) : rD x pos up = dyOf x.neg (rQ x (pos - x.e).toNat up) pos := by
  unfold rD
  rw [if_neg (fun h => h.elim h0 g)]
  rfl
theorem rround_spec (t : Tok) (x : Dy) (pos mode : Int) (up : Bool) (c : Nat) (hx : RNum x) (hb : bl x.m ≤ 134217728) (hp : fitE pos) (hmo : (mode = 0 ∧ up = false) ∨ (mode = 1 ∧ up = true)) :
    VSpec Tryz.prog F.surdref08_Round c [fV t x, iv pos, iv mode] (fun r _ => ∃ tk, r = fV tk (rD x pos up)) := by
  refine spec_mk hm E.surdref08_Round B.surdref08_Round K.surdref08_Round Q.surdref08_Round (by rw [N.surdref08_Round]; simp) ?_
  unfold C.surdref08_Round R.surdref08_Round
  have hlo := hx.lo
  have hhi := hx.hi
  have hp' := hp
  unfold fitE at hp'
  refine zR ?_
  refine s_call (zsign_spec x.neg t x.m (c + 2) hx.bits hx.nz) wS ?_
  rintro v c1 hc1 rfl
  by_cases h0 : x.m = 0
  · have e0 : sgW x.neg x.m = 0 := by unfold sgW; rw [if_pos h0]
    have er : rD x pos up = x := if_pos (.inl h0)
    rw [er]
    refine zRF e0 ?_
    exact ⟨t, rfl⟩
  have e0 : ¬ sgW x.neg x.m = 0 := by unfold sgW; rw [if_neg h0]; split <;> decide
  by_cases g : pos ≤ x.e
  · have er : rD x pos up = x := if_pos (.inr g)
    rw [er]
    refine zRF (jn e0 g) ?_
    exact ⟨t, rfl⟩
  obtain ⟨k, hk⟩ : ∃ k : Nat, pos - x.e = (k : Int) := ⟨(pos - x.e).toNat, by omega⟩
  have hkn : (pos - x.e).toNat = k := by omega
  rw [rD_pos h0 g, hkn]
  have ho : x.m % 2 = 1 := hx.ok.odd.resolve_left h0
  refine zRF (jn e0 (jn g hk)) ?_
  refine s_call (lenR t x.m c1 hx.bits) wS ?_
  rintro v c2 hc2 rfl
  have n10 : ¬ (1 : Int) = 0 := by decide
  have n01 : ¬ (0 : Int) = 1 := by decide
  by_cases gf : (bl x.m : Int) + 2 < (k : Int)
  · have hz := div_small (m := x.m) (k := k) (by omega)
    unfold rQ
    rw [hz, Nat.zero_add]
    rcases hmo with ⟨rfl, rfl⟩ | ⟨rfl, rfl⟩
    · cases hn : x.neg with
      | true =>
        refine zRF (jn gf hn) ?_
        refine s_call (int08_spec true (-1) pos c2 (.inl ⟨rfl, rfl⟩) hp) wS ?_
        rintro v c3 hc3 ⟨tk, rfl⟩
        refine zR ?_
        exact ⟨tk, rfl⟩
      | false =>
        refine zRF (jn gf (jn hn n01)) ?_
        exact ⟨.nil, rfl⟩
    · cases hn : x.neg with
      | true =>
        refine zRF (jn gf (jn hn n10)) ?_
        exact ⟨.nil, rfl⟩
      | false =>
        refine zRF (jn gf (jn hn n10)) ?_
        refine s_call (int08_spec false 1 pos c2 (.inr ⟨rfl, rfl⟩) hp) wS ?_
        rintro v c3 hc3 ⟨tk, rfl⟩
        refine zR ?_
        exact ⟨tk, rfl⟩
  · have hqb := rQ_bl (x := x) (k := k) (K := 134217727) (up := up) (by omega) (by decide) hb
    refine zRF gf ?_
    refine s_call (oneR c2) wS ?_
    rintro v c3 hc3 ⟨i, rfl, _, _⟩
    refine zR ?_
    refine s_call (shlR (.id i) 1 k c3 (by decide) (by decide) (by omega)) wS ?_
    rw [one_shl]
    rintro v c4 hc4 ⟨j, rfl, _, _⟩
    rcases hmo with ⟨rfl, rfl⟩ | ⟨rfl, rfl⟩
    · refine zR ?_
      refine s_call (floor06_spec t (.id j) x.neg x.m k (c4 + 2) (by omega) ho hb (by omega)) wS ?_
      rintro v c5 hc5 ⟨t1, t2, R0, rfl, _, _⟩
      refine zR ?_
      refine s_call (of08_spec x.neg t1 (rQ x k false) pos c5 (by omega) (fun h => by unfold rQ at h; cases hn : x.neg with | false => rfl | true => rw [hn] at h; exact absurd h (by simp)) (by omega) (by omega)) wSr ?_
      rintro v c6 hc6 ⟨tk, rfl⟩
      refine zR ?_
      exact ⟨tk, rfl⟩
    · refine zRF n10 ?_
      refine s_call (ceil06_spec t (.id j) x.neg x.m k (c4 + 2) (by omega) ho hb (by omega)) wS ?_
      rintro v c5 hc5 ⟨t1, y, rfl⟩
      refine zR ?_
      refine s_call (of08_spec (zneg x.neg (rQ x k true)) t1 (rQ x k true) pos c5 (by omega) (fun h => by unfold zneg; rw [h]; simp) (by omega) (by omega)) wSr ?_
      rw [dyOf_zneg]
      rintro v c6 hc6 ⟨tk, rfl⟩
      refine zR ?_
      exact ⟨tk, rfl⟩
end Go.Proofs.YtacodmnlnlbahaaGreatDoor
set_option linter.unusedSimpArgs false
set_option linter.unusedVariables false
set_option maxRecDepth 100000
set_option maxHeartbeats 8000000
namespace Go.Proofs.YtacodmnlnlbahaaGreatDoor
open Go.VM

theorem rounded_spec (tx : Tok) (x : Dy) (pos mode : Int) (up : Bool) (c : Nat) (hx : Num x) (hp : fitE pos) (hmo : (mode = 0 ∧ up = false) ∨ (mode = 1 ∧ up = true)) :
    VSpec Tryz.prog F.dyadic_rounded c [dyV tx x, iv pos, iv mode] (fun r c' => AnsD c c' (rD x pos up) r) := by
  refine spec_mk hm E.dyadic_rounded B.dyadic_rounded K.dyadic_rounded Q.dyadic_rounded (by rw [N.dyadic_rounded]; simp) ?_
  unfold C.dyadic_rounded R.dyadic_rounded
  have bx := hx.bits
  have lx := hx.arg.lim
  have nx := hx.arg.len
  have vx := val_digs two64 x.m
  have hlo := hx.lo
  have hhi := hx.hi
  have hp' := hp
  unfold fitE at hp'
  refine zR ?_
  refine s_call (psign_spec x.neg tx (digs 18446744073709551616 x.m) (c + 2) lx (by omega)) wS ?_
  rintro v c1 hc1 rfl
  rw [vx]
  by_cases h0 : x.m = 0
  · have e0 : sgW x.neg x.m = 0 := by unfold sgW; rw [if_pos h0]
    have er : rD x pos up = x := if_pos (.inl h0)
    rw [er]
    refine zRF e0 ?_
    refine s_call (told_r tx x c1 hx.R) wS ?_
    rw [cl_num hx]
    rintro v c2 hc2 ⟨tk, rfl, htk⟩
    refine zR ?_
    exact ⟨tk, rfl, htk.mono (by omega) (by omega)⟩
  have e0 : ¬ sgW x.neg x.m = 0 := by unfold sgW; rw [if_neg h0]; split <;> decide
  by_cases g : pos ≤ x.e
  · have er : rD x pos up = x := if_pos (.inr g)
    rw [er]
    refine zRF (jn e0 g) ?_
    refine s_call (told_r tx x c1 hx.R) wS ?_
    rw [cl_num hx]
    rintro v c2 hc2 ⟨tk, rfl, htk⟩
    refine zR ?_
    exact ⟨tk, rfl, htk.mono (by omega) (by omega)⟩
  obtain ⟨k, hk⟩ : ∃ k : Nat, pos - x.e = (k : Int) := ⟨(pos - x.e).toNat, by omega⟩
  have hkn : (pos - x.e).toNat = k := by omega
  have er : rD x pos up = dyOf x.neg (rQ x k up) pos := by
    unfold rD
    rw [if_neg (fun h => h.elim h0 g), hkn]
    rfl
  rw [er]
  refine zRF (jn e0 g) ?_
  refine s_call (steps_spec tx x pos mode up k c1 hx h0 hk (by omega) (by omega) hmo) wS ?_
  rintro v c2 hc2 ⟨tq, rfl⟩
  have hqb := rQ_bl (x := x) (k := k) (K := 67108863) (up := up) (by omega) (by decide) bx
  generalize rQ x k up = q at *
  refine zR ?_
  refine s_call (dtold_spec x.neg tq (digs 18446744073709551616 q) pos c2 (lim_digs two64 q) (len_bl (by omega)) (by omega) (by omega) (.inr (by rw [val_digs two64]; exact Nat.le_trans (bl_od _) hqb))) wS ?_
  rw [val_digs two64]
  rintro v c3 hc3 ⟨tk, rfl, htk⟩
  refine zR ?_
  exact ⟨tk, rfl, htk.mono (by omega) (by omega)⟩
theorem dir0_spec (mode : Int) (c : Nat) (hmo : mode = 0 ∨ mode = 1) : VSpec Tryz.prog F.dyadic_direction c [iv mode] (fun r _ => r = bv true) := by
  refine spec_mk hm E.dyadic_direction B.dyadic_direction K.dyadic_direction Q.dyadic_direction (by rw [N.dyadic_direction]; simp) ?_
  unfold C.dyadic_direction R.dyadic_direction
  have n10 : ¬ (1 : Int) = 0 := by decide
  rcases hmo with rfl | rfl
  · refine zR ?_
    (first | omega | rfl | ((repeat' apply And.intro) <;> first | rfl | omega | assumption))
  · refine zRF n10 ?_
    (first | omega | rfl | ((repeat' apply And.intro) <;> first | rfl | omega | assumption))
theorem DRound_spec (t : Tok) (a : RD) (pos mode : Int) (up : Bool) (c : Nat) (ha : a.Ok) (hp : fitE pos) (hmo : (mode = 0 ∧ up = false) ∨ (mode = 1 ∧ up = true)) :
    VSpec Tryz.prog F.dyadic_Round c [rdV t a, iv pos, iv mode] (fun r c' => AnsD c c' (rD a.d pos up) r) := by
  refine spec_mk hm E.dyadic_Round B.dyadic_Round K.dyadic_Round Q.dyadic_Round (by rw [N.dyadic_Round]; simp) ?_
  unfold C.dyadic_Round R.dyadic_Round
  refine zR ?_
  refine s_call (read_spec a.neg t a.l a.e (c + 2) ha.arg ha.fit) wS ?_
  rintro v c1 hc1 ⟨tk, rfl, htk⟩
  refine zR ?_
  refine s_call (within_spec pos (c1 + 1)) wS ?_
  rintro v c2 hc2 rfl
  refine zRF hp ?_
  refine s_call (dir0_spec mode c2 (by rcases hmo with ⟨h, _⟩ | ⟨h, _⟩ <;> omega)) wS ?_
  rintro v c3 hc3 rfl
  refine zR ?_
  refine s_call (rounded_spec tk a.d pos mode up c3 ha.num hp hmo) wSr ?_
  rintro v c4 hc4 ⟨tq, rfl, htq⟩
  refine zR ?_
  exact ⟨tq, rfl, htq.mono (by omega) (by omega)⟩
theorem outward_spec (tx ty : Tok) (x y : RD) (pos : Int) (c : Nat) (hx : x.Ok) (hy : y.Ok) (hp : fitE pos) :
    VSpec Tryz.prog F.span_outward c [rdV tx x, rdV ty y, iv pos] (fun r c' => AnsS c c' (rD x.d pos false) (rD y.d pos true) r) := by
  refine spec_mk hm E.span_outward B.span_outward K.span_outward Q.span_outward (by rw [N.span_outward]; simp) ?_
  unfold C.span_outward R.span_outward
  refine zR ?_
  refine s_call (DRound_spec tx x pos 0 false (c + 3) hx hp (.inl ⟨rfl, rfl⟩)) wS ?_
  rintro v c1 hc1 ⟨t1, rfl, ht1⟩
  refine zR ?_
  refine s_call (DRound_spec ty y pos 1 true (c1 + 1) hy hp (.inr ⟨rfl, rfl⟩)) wS ?_
  rintro v c2 hc2 ⟨t2, rfl, ht2⟩
  generalize rD x.d pos false = lo at *
  generalize rD y.d pos true = hi at *
  refine zR ?_
  refine s_call (ends_spec t1 t2 (RD.of (ansD lo)) (RD.of (ansD hi)) (tE lo) (tE hi) (c2 + 1)) wSr ?_
  rintro v c3 hc3 hv
  have hA := ansS_of (c := c) (c1 := c1 + 1) (c2 := c2) (c3 := c3) (by omega) (by omega) (by omega) (ht1.mono (by omega) (by omega)) (ht2.mono (by omega) (by omega)) hv
  obtain ⟨t, u, cm, g1, g2, rfl, gt, gu⟩ := hA
  refine zR ?_
  exact ⟨t, u, cm, by omega, by omega, rfl, gt, gu⟩
theorem told_ok {d : Dy} (hd : d.Ok) (h : tE d = 0) : (RD.of d).Ok ∧ (RD.of d).d = d := by
  rcases tE_cases d with ⟨_, h2⟩ | ⟨h1, h2, _⟩ | ⟨_, _, h2⟩
  · rw [h2] at h; exact absurd h (by decide)
  · exact ⟨⟨arg_digs h1, h2⟩, RD.of_d hd⟩
  · rw [h2] at h; exact absurd h (by decide)
theorem sums_spec (ta tb tc td : Tok) (a b p q : RD) (pos : Int) (c : Nat) (ha : a.Ok) (hb : b.Ok) (hp : p.Ok) (hq : q.Ok) (hf : fitE pos) :
    VSpec Tryz.prog F.span_sums c [rsV ta tb a b, rsV tc td p q, iv pos] (fun r c' => AnsF c c' (worstE (tE (addD a.d p.d)) (tE (addD b.d q.d))) (rD (addD a.d p.d) pos false) (rD (addD b.d q.d) pos true) r) := by
  refine spec_mk hm E.span_sums B.span_sums K.span_sums Q.span_sums (by rw [N.span_sums]; simp) ?_
  unfold C.span_sums R.span_sums
  refine zR ?_
  refine s_call (DAdd_spec ta tc a p (c + 3) ha hp) wS ?_
  rintro v c1 hc1 ⟨t1, rfl, ht1⟩
  refine zR ?_
  refine s_call (DAdd_spec tb td b q (c1 + 1) hb hq) wS ?_
  rintro v c2 hc2 ⟨t2, rfl, ht2⟩
  have ok1 := addD_ok a.d p.d
  have ok2 := addD_ok b.d q.d
  generalize addD a.d p.d = lo at *
  generalize addD b.d q.d = hi at *
  refine zR ?_
  refine s_call (worst_spec (tE lo) (tE hi) (c2 + 1)) wS ?_
  rintro v c3 hc3 rfl
  by_cases g : worstE (tE lo) (tE hi) = 0
  · obtain ⟨g1, g2⟩ := worst_zero.1 g
    obtain ⟨k1, e1⟩ := told_ok ok1 g1
    obtain ⟨k2, e2⟩ := told_ok ok2 g2
    refine zRF g ?_
    refine s_call (outward_spec t1 t2 (RD.of lo) (RD.of hi) pos c3 k1 k2 hf) (by rw [ansD_ok g1, ansD_ok g2]; refine zS ?_; rfl) ?_
    rw [e1, e2]
    rintro v c4 hc4 hA
    obtain ⟨t, u, cm, g3, g4, rfl, gt, gu⟩ := hA
    refine zR ?_
    exact ⟨fun h => absurd rfl h, fun _ => ⟨t, u, cm, by omega, by omega, rfl, gt.mono (by omega) (Nat.le_refl _), gu⟩⟩
  · refine zRF g ?_
    exact ⟨fun _ => rfl, fun h => absurd h g⟩
end Go.Proofs.YtacodmnlnlbahaaGreatDoor
set_option linter.unusedSimpArgs false
set_option linter.unusedVariables false
set_option maxRecDepth 100000
set_option maxHeartbeats 8000000
namespace Go.Proofs.YtacodmnlnlbahaaGreatDoor
open Go.VM

theorem chks2_eq (pos : Int) (ta tb tc td : Tok) (a b p q : RD) : chksE pos [⟨ta, tb, a, b⟩, ⟨tc, td, p, q⟩] = w2 pos (chkE a b) (chkE p q) := by
  have e : chkL [⟨ta, tb, a, b⟩, ⟨tc, td, p, q⟩] = chk2 a b p q := by
    show (if chkE a b = 0 then (if chkE p q = 0 then 0 else chkE p q) else chkE a b) = if chkE a b = 0 then chkE p q else chkE a b
    by_cases g2 : chkE p q = 0
    · rw [if_pos g2, g2]
    · rw [if_neg g2]
  unfold chksE w2
  rw [e]
  unfold chk2
  by_cases g : chkE a b = 0
  · rw [if_pos g, if_pos g]
  · rw [if_neg g, if_neg g, if_neg g]
theorem checksP (pos : Int) (ta tb tc td : Tok) (a b p q : RD) (tk : Tok) (c : Nat) (ha : Arg a.l) (hb : Arg b.l) (hp : Arg p.l) (hq : Arg q.l) :
    VSpec Tryz.prog F.span_checks c [iv pos, .sl tk 6 (cellsL [⟨ta, tb, a, b⟩, ⟨tc, td, p, q⟩])] (fun r _ => r = iv (w2 pos (chkE a b) (chkE p q))) := by
  rw [← chks2_eq pos ta tb tc td]
  exact checks_spec pos tk _ c (by simp) (args2 ha hb hp hq)
theorem w2_ok {pos f g : Int} (h : w2 pos f g = 0) : f = 0 ∧ g = 0 ∧ fitE pos := by
  unfold w2 at h
  split at h
  · split at h
    · split at h
      · exact ⟨by assumption, by assumption, by assumption⟩
      · cases h
    · rename_i g; exact absurd h g
  · rename_i g; exact absurd h g
def addF (pos : Int) (a b p q : RD) : Int := if w2 pos (chkE a b) (chkE p q) = 0 then worstE (tE (addD a.d p.d)) (tE (addD b.d q.d)) else w2 pos (chkE a b) (chkE p q)
theorem addS_spec (ta tb tc td : Tok) (a b p q : RD) (pos : Int) (c : Nat) (ha : Arg a.l) (hb : Arg b.l) (hp : Arg p.l) (hq : Arg q.l) :
    VSpec Tryz.prog F.span_Add c [rsV ta tb a b, rsV tc td p q, iv pos] (fun r c' => AnsF c c' (addF pos a b p q) (rD (addD a.d p.d) pos false) (rD (addD b.d q.d) pos true) r) := by
  refine spec_mk hm E.span_Add B.span_Add K.span_Add Q.span_Add (by rw [N.span_Add]; simp) ?_
  unfold C.span_Add R.span_Add
  refine zR ?_
  refine s_call (checksP pos ta tb tc td a b p q (.id (c + 3)) (c + 4) ha hb hp hq) wSr ?_
  rintro v c1 hc1 rfl
  unfold addF
  by_cases h : w2 pos (chkE a b) (chkE p q) = 0
  · obtain ⟨k1, k2, k3⟩ := w2_ok h
    obtain ⟨fa, fb, _⟩ := chk_ok k1
    obtain ⟨fp, fq, _⟩ := chk_ok k2
    rw [if_pos h]
    refine zRF h ?_
    refine s_call (sums_spec ta tb tc td a b p q pos c1 ⟨ha, fa⟩ ⟨hb, fb⟩ ⟨hp, fp⟩ ⟨hq, fq⟩ k3) wS ?_
    rintro v c2 hc2 hv
    generalize worstE (tE (addD a.d p.d)) (tE (addD b.d q.d)) = f at *
    by_cases g : f = 0
    · obtain ⟨t, u, cm, g3, g4, rfl, gt, gu⟩ := hv.ok g
      refine zR ?_
      exact ⟨fun h => absurd g h, fun _ => ⟨t, u, cm, by omega, by omega, rfl, gt.mono (by omega) (Nat.le_refl _), gu⟩⟩
    · have hb := hv.bad g
      subst hb
      refine zR ?_
      exact ⟨fun _ => rfl, fun h => absurd h g⟩
  · rw [if_neg h]
    refine zRF h ?_
    exact ⟨fun _ => rfl, fun e => absurd e h⟩
theorem b_nexor : ∀ x y : Bool, sbin .neq true (bv x) (bv y) = some (bv (x != y)) := fun x y => by cases x <;> cases y <;> rfl
theorem wmul_spec (an bn : Bool) (ta tb : Tok) (a b : List Nat) (c : Nat) (ha : Lim 18446744073709551616 a) (hb : Lim 18446744073709551616 b) (hna : a.length ≤ 549755813888) (hnb : b.length ≤ 549755813888) :
    VSpec Tryz.prog F.whole_Mul c [whV an ta a, whV bn tb b] (fun r _ => WAns (an != bn, val 18446744073709551616 a * val 18446744073709551616 b) r) := by
  refine spec_mk hm E.whole_Mul B.whole_Mul K.whole_Mul Q.whole_Mul (by rw [N.whole_Mul]; simp) ?_
  unfold C.whole_Mul R.whole_Mul
  refine zR ?_
  refine s_call (mul_spec ta tb a b (c + 3) ha hb hna hnb) wS ?_
  rintro v c1 hc1 ht
  generalize val 18446744073709551616 a * val 18446744073709551616 b = n at *
  obtain ⟨t3, l3, e3, rfl, hr⟩ := wres_told (an != bn) n c1 ht
  refine zRF @b_nexor ?_
  refine s_call (hr c1) wS ?_
  rintro v c2 hc2 (⟨h, tk, rfl⟩ | ⟨h, rfl⟩)
  · refine zR ?_
    exact .inl ⟨h, tk, rfl⟩
  · refine zR ?_
    exact .inr ⟨h, rfl⟩
theorem mul_oddD {x y : Dy} (hx : x.Ok) (hy : y.Ok) : x.m * y.m = 0 ∨ x.m * y.m % 2 = 1 := by
  rcases hx.odd with h | h
  · exact .inl (by rw [h, Nat.zero_mul])
  · rcases hy.odd with g | g
    · exact .inl (by rw [g, Nat.mul_zero])
    · exact .inr (by rw [Nat.mul_mod, h, g])
theorem DMul_spec (ta tb : Tok) (a b : RD) (c : Nat) (ha : a.Ok) (hb : b.Ok) : VSpec Tryz.prog F.dyadic_Mul c [rdV ta a, rdV tb b] (fun r c' => AnsD c c' (mulD a.d b.d) r) := by
  refine spec_mk hm E.dyadic_Mul B.dyadic_Mul K.dyadic_Mul Q.dyadic_Mul (by rw [N.dyadic_Mul]; simp) ?_
  unfold C.dyadic_Mul R.dyadic_Mul
  have na := ha.num
  have nb := hb.num
  have a1 := na.lo
  have a2 := na.hi
  have b1 := nb.lo
  have b2 := nb.hi
  have la := na.arg.len
  have lb := nb.arg.len
  have g3 : ¬ (3 : Int) = 0 := by decide
  refine zR ?_
  refine s_call (two_spec a.neg b.neg ta tb a.l b.l a.e b.e (c + 3) ha.arg hb.arg ha.fit hb.fit) wS ?_
  rintro v c1 hc1 ⟨tx, ty, cm, h1, h2, rfl, _, _⟩
  have e1 : dyOf a.neg (val 18446744073709551616 a.l) a.e = a.d := rfl
  have e2 : dyOf b.neg (val 18446744073709551616 b.l) b.e = b.d := rfl
  rw [e1, e2]
  have ho := mul_oddD na.ok nb.ok
  refine zR ?_
  refine s_call (wmul_spec a.d.neg b.d.neg tx ty (digs 18446744073709551616 a.d.m) (digs 18446744073709551616 b.d.m) (c1 + 2) na.arg.lim nb.arg.lim (by omega) (by omega)) wS ?_
  rw [val_digs two64, val_digs two64]
  unfold mulD
  generalize a.d.m * b.d.m = M at *
  rintro v c2 hc2 (⟨h, tk, rfl⟩ | ⟨h, rfl⟩)
  · replace h : bl M ≤ 67108864 := h
    refine zR ?_
    refine s_call (dtold_spec (zneg (a.d.neg != b.d.neg) M) tk (digs 18446744073709551616 M) (a.d.e + b.d.e) (c2 + 1) (lim_digs two64 M) (len_bl (by omega)) (by omega) (by omega) (.inr (by rw [val_digs two64]; exact Nat.le_trans (bl_od _) h))) wS ?_
    rw [val_digs two64, dyOf_zneg]
    rintro v c3 hc3 ⟨tq, rfl, htq⟩
    refine zR ?_
    exact ⟨tq, rfl, htq.mono (by omega) (by omega)⟩
  · have hM : M % 2 = 1 := ho.resolve_left (fun h0 => by rw [h0, bl_zero] at h; omega)
    have ed := dyOf_odd (neg := a.d.neg != b.d.neg) (e := a.d.e + b.d.e) hM
    have ht : tE (dyOf (a.d.neg != b.d.neg) M (a.d.e + b.d.e)) = 3 := by rw [ed]; exact if_pos h
    refine zRF g3 ?_
    refine ⟨.nil, ?_, .inl ⟨rfl, ?_⟩⟩
    · rw [ansD_bad (by rw [ht]; decide), ht]; rfl
    · rw [ansD_bad (by rw [ht]; decide)]; rfl
end Go.Proofs.YtacodmnlnlbahaaGreatDoor
set_option linter.unusedSimpArgs false
set_option linter.unusedVariables false
set_option maxRecDepth 100000
set_option maxHeartbeats 8000000
namespace Go.Proofs.YtacodmnlnlbahaaGreatDoor
open Go.VM

def mnN (x1 x2 x3 x4 : Dy) : Nat → Dy
  | 0 => x1
  | 1 => minD x1 x2
  | 2 => minD (minD x1 x2) x3
  | _ => minD (minD (minD x1 x2) x3) x4
def mxN (x1 x2 x3 x4 : Dy) : Nat → Dy
  | 0 => x1
  | 1 => maxD x1 x2
  | 2 => maxD (maxD x1 x2) x3
  | _ => maxD (maxD (maxD x1 x2) x3) x4
theorem min_flip {x y : Dy} : minD x y = if cmpD y x < 0 then y else x := by
  unfold minD
  rw [cmpD_flip x y]
  by_cases g : cmpD x y ≤ 0
  · rw [if_pos g, if_neg (by omega)]
  · rw [if_neg g, if_pos (by omega)]
theorem max_flip {x y : Dy} : maxD x y = if 0 < cmpD y x then y else x := by
  unfold maxD
  rw [cmpD_flip x y]
  by_cases g : 0 ≤ cmpD x y
  · rw [if_pos g, if_neg (by omega)]
  · rw [if_neg g, if_pos (by omega)]
theorem min_step {lo d : RD} {m : Dy} (h : lo.d = m) : (if cmpD d.d lo.d < 0 then d else lo).d = minD m d.d := by
  subst h
  rw [min_flip]
  split <;> rfl
theorem max_step {hi d : RD} {m : Dy} (h : hi.d = m) : (if 0 < cmpD d.d hi.d then d else hi).d = maxD m d.d := by
  subst h
  rw [max_flip]
  split <;> rfl
theorem hull4_spec (t t1 t2 t3 t4 : Tok) (x1 x2 x3 x4 : RD) (pos : Int) (c : Nat) (h1 : x1.Ok) (h2 : x2.Ok) (h3 : x3.Ok) (h4 : x4.Ok) (hp : fitE pos) :
    VSpec Tryz.prog F.span_hull c [iv pos, .sl t 3 [bv x1.neg, nats t1 x1.l, iv x1.e, bv x2.neg, nats t2 x2.l, iv x2.e, bv x3.neg, nats t3 x3.l, iv x3.e, bv x4.neg, nats t4 x4.l, iv x4.e]] (fun r c' => AnsS c c' (rD (mnN x1.d x2.d x3.d x4.d 3) pos false) (rD (mxN x1.d x2.d x3.d x4.d 3) pos true) r) := by
  refine spec_mk hm E.span_hull B.span_hull K.span_hull Q.span_hull (by rw [N.span_hull]; simp) ?_
  unfold C.span_hull R.span_hull
  have hs : vslc 3 (.sl t 3 [bv x1.neg, nats t1 x1.l, iv x1.e, bv x2.neg, nats t2 x2.l, iv x2.e, bv x3.neg, nats t3 x3.l, iv x3.e, bv x4.neg, nats t4 x4.l, iv x4.e]) (some (iv 1)) none none = some (.sl (t.cut 1) 3 [bv x2.neg, nats t2 x2.l, iv x2.e, bv x3.neg, nats t3 x3.l, iv x3.e, bv x4.neg, nats t4 x4.l, iv x4.e]) := by simp [vslc, vnum]
  refine zRF (jn @nb_app hs) ?_
  refine v_loopR (fun S => ∃ lo hi : RD, ∃ tl th : Tok, lo.Ok ∧ hi.Ok ∧ lo.d = mnN x1.d x2.d x3.d x4.d 3 ∧ hi.d = mxN x1.d x2.d x3.d x4.d 3 ∧ S.ρ 0 = iv pos ∧ S.ρ 4 = .ptr c 0 ∧ S.ρ 6 = .ptr (c + 1) 0 ∧ S.ρ 7 = .ptr (c + 2) 0 ∧ S.σ c = some ⟨[bv false, .sl .nil 1 [], iv 0, bv false, .sl .nil 1 [], iv 0], true⟩ ∧ S.σ (c + 1) = some ⟨[bv lo.neg, nats tl lo.l, iv lo.e], true⟩ ∧ S.σ (c + 2) = some ⟨[bv hi.neg, nats th hi.l, iv hi.e], true⟩ ∧ c + 3 ≤ S.c) ?_ ?_
  · refine vwp_loop (fun k S => ∃ i, ∃ lo hi : RD, ∃ tl th tt : Tok, k = 3 - i ∧ i ≤ 3 ∧ lo.Ok ∧ hi.Ok ∧ lo.d = mnN x1.d x2.d x3.d x4.d i ∧ hi.d = mxN x1.d x2.d x3.d x4.d i ∧ S.ρ 21 = .sl tt 3 [bv x2.neg, nats t2 x2.l, iv x2.e, bv x3.neg, nats t3 x3.l, iv x3.e, bv x4.neg, nats t4 x4.l, iv x4.e] ∧ S.ρ 22 = iv 3 ∧ S.ρ 23 = iv (i : Int) ∧ S.ρ 0 = iv pos ∧ S.ρ 4 = .ptr c 0 ∧ S.ρ 6 = .ptr (c + 1) 0 ∧ S.ρ 7 = .ptr (c + 2) 0 ∧ S.σ c = some ⟨[bv false, .sl .nil 1 [], iv 0, bv false, .sl .nil 1 [], iv 0], true⟩ ∧ S.σ (c + 1) = some ⟨[bv lo.neg, nats tl lo.l, iv lo.e], true⟩ ∧ S.σ (c + 2) = some ⟨[bv hi.neg, nats th hi.l, iv hi.e], true⟩ ∧ c + 3 ≤ S.c) 3 ?_ ?_
    · refine ⟨0, x1, x1, t1, t1, t.cut 1, by omega, by omega, h1, h1, rfl, rfl, ?_⟩
      refine zS ?_
      (repeat' apply And.intro) <;> first | rfl | omega | assumption
    rintro k ⟨ρ, σ, c1⟩ ⟨i, lo, hi, tl, th, tt, hk, hi3, ol, oh, el, eh, r21, r22, r23, r0, r4, r6, r7, s0, s1, s2, hc1⟩
    dsimp only at r21 r22 r23 r0 r4 r6 r7 s0 s1 s2 hc1
    obtain rfl | rfl | rfl | rfl : i = 0 ∨ i = 1 ∨ i = 2 ∨ i = 3 := by omega
    · refine zRF (jn r0 (jn r4 (jn r6 (jn r7 (jn s0 (jn s1 (jn s2 (jn r21 (jn r22 r23))))))))) ?_
      refine s_call (Compare_spec t2 tl x2 lo (c1 + 1) h2 ol) (wSF (jn r0 (jn r4 (jn r6 (jn r7 (jn s0 (jn s1 (jn s2 (jn r21 (jn r22 r23)))))))))) ?_
      rintro v c2 hc2 rfl
      have el' := min_step (lo := lo) (d := x2) el
      have eh' := max_step (hi := hi) (d := x2) eh
      by_cases g : cmpD x2.d lo.d < 0
      · rw [if_pos g] at el'
        refine zRF (jn r0 (jn r4 (jn r6 (jn r7 (jn s0 (jn s1 (jn s2 (jn r21 (jn r22 (jn r23 g)))))))))) ?_
        refine s_call (Compare_spec t2 th x2 hi c2 h2 oh) (wSF (jn r0 (jn r4 (jn r6 (jn r7 (jn s0 (jn s1 (jn s2 (jn r21 (jn r22 r23)))))))))) ?_
        rintro v c3 hc3 rfl
        by_cases g2 : 0 < cmpD x2.d hi.d
        · rw [if_pos g2] at eh'
          refine zRF (jn r0 (jn r4 (jn r6 (jn r7 (jn s0 (jn s1 (jn s2 (jn r21 (jn r22 (jn r23 g2)))))))))) ?_
          refine ⟨2, by omega, 1, x2, x2, t2, t2, tt, by omega, by omega, h2, h2, el', eh', ?_⟩
          (repeat' apply And.intro) <;> first | rfl | omega | assumption
        · rw [if_neg g2] at eh'
          refine zRF (jn r0 (jn r4 (jn r6 (jn r7 (jn s0 (jn s1 (jn s2 (jn r21 (jn r22 (jn r23 g2)))))))))) ?_
          refine ⟨2, by omega, 1, x2, hi, t2, th, tt, by omega, by omega, h2, oh, el', eh', ?_⟩
          (repeat' apply And.intro) <;> first | rfl | omega | assumption
      · rw [if_neg g] at el'
        refine zRF (jn r0 (jn r4 (jn r6 (jn r7 (jn s0 (jn s1 (jn s2 (jn r21 (jn r22 (jn r23 g)))))))))) ?_
        refine s_call (Compare_spec t2 th x2 hi c2 h2 oh) (wSF (jn r0 (jn r4 (jn r6 (jn r7 (jn s0 (jn s1 (jn s2 (jn r21 (jn r22 r23)))))))))) ?_
        rintro v c3 hc3 rfl
        by_cases g2 : 0 < cmpD x2.d hi.d
        · rw [if_pos g2] at eh'
          refine zRF (jn r0 (jn r4 (jn r6 (jn r7 (jn s0 (jn s1 (jn s2 (jn r21 (jn r22 (jn r23 g2)))))))))) ?_
          refine ⟨2, by omega, 1, lo, x2, tl, t2, tt, by omega, by omega, ol, h2, el', eh', ?_⟩
          (repeat' apply And.intro) <;> first | rfl | omega | assumption
        · rw [if_neg g2] at eh'
          refine zRF (jn r0 (jn r4 (jn r6 (jn r7 (jn s0 (jn s1 (jn s2 (jn r21 (jn r22 (jn r23 g2)))))))))) ?_
          refine ⟨2, by omega, 1, lo, hi, tl, th, tt, by omega, by omega, ol, oh, el', eh', ?_⟩
          (repeat' apply And.intro) <;> first | rfl | omega | assumption
    · refine zRF (jn r0 (jn r4 (jn r6 (jn r7 (jn s0 (jn s1 (jn s2 (jn r21 (jn r22 r23))))))))) ?_
      refine s_call (Compare_spec t3 tl x3 lo (c1 + 1) h3 ol) (wSF (jn r0 (jn r4 (jn r6 (jn r7 (jn s0 (jn s1 (jn s2 (jn r21 (jn r22 r23)))))))))) ?_
      rintro v c2 hc2 rfl
      have el' := min_step (lo := lo) (d := x3) el
      have eh' := max_step (hi := hi) (d := x3) eh
      by_cases g : cmpD x3.d lo.d < 0
      · rw [if_pos g] at el'
        refine zRF (jn r0 (jn r4 (jn r6 (jn r7 (jn s0 (jn s1 (jn s2 (jn r21 (jn r22 (jn r23 g)))))))))) ?_
        refine s_call (Compare_spec t3 th x3 hi c2 h3 oh) (wSF (jn r0 (jn r4 (jn r6 (jn r7 (jn s0 (jn s1 (jn s2 (jn r21 (jn r22 r23)))))))))) ?_
        rintro v c3 hc3 rfl
        by_cases g2 : 0 < cmpD x3.d hi.d
        · rw [if_pos g2] at eh'
          refine zRF (jn r0 (jn r4 (jn r6 (jn r7 (jn s0 (jn s1 (jn s2 (jn r21 (jn r22 (jn r23 g2)))))))))) ?_
          refine ⟨1, by omega, 2, x3, x3, t3, t3, tt, by omega, by omega, h3, h3, el', eh', ?_⟩
          (repeat' apply And.intro) <;> first | rfl | omega | assumption
        · rw [if_neg g2] at eh'
          refine zRF (jn r0 (jn r4 (jn r6 (jn r7 (jn s0 (jn s1 (jn s2 (jn r21 (jn r22 (jn r23 g2)))))))))) ?_
          refine ⟨1, by omega, 2, x3, hi, t3, th, tt, by omega, by omega, h3, oh, el', eh', ?_⟩
          (repeat' apply And.intro) <;> first | rfl | omega | assumption
      · rw [if_neg g] at el'
        refine zRF (jn r0 (jn r4 (jn r6 (jn r7 (jn s0 (jn s1 (jn s2 (jn r21 (jn r22 (jn r23 g)))))))))) ?_
        refine s_call (Compare_spec t3 th x3 hi c2 h3 oh) (wSF (jn r0 (jn r4 (jn r6 (jn r7 (jn s0 (jn s1 (jn s2 (jn r21 (jn r22 r23)))))))))) ?_
        rintro v c3 hc3 rfl
        by_cases g2 : 0 < cmpD x3.d hi.d
        · rw [if_pos g2] at eh'
          refine zRF (jn r0 (jn r4 (jn r6 (jn r7 (jn s0 (jn s1 (jn s2 (jn r21 (jn r22 (jn r23 g2)))))))))) ?_
          refine ⟨1, by omega, 2, lo, x3, tl, t3, tt, by omega, by omega, ol, h3, el', eh', ?_⟩
          (repeat' apply And.intro) <;> first | rfl | omega | assumption
        · rw [if_neg g2] at eh'
          refine zRF (jn r0 (jn r4 (jn r6 (jn r7 (jn s0 (jn s1 (jn s2 (jn r21 (jn r22 (jn r23 g2)))))))))) ?_
          refine ⟨1, by omega, 2, lo, hi, tl, th, tt, by omega, by omega, ol, oh, el', eh', ?_⟩
          (repeat' apply And.intro) <;> first | rfl | omega | assumption
    · refine zRF (jn r0 (jn r4 (jn r6 (jn r7 (jn s0 (jn s1 (jn s2 (jn r21 (jn r22 r23))))))))) ?_
      refine s_call (Compare_spec t4 tl x4 lo (c1 + 1) h4 ol) (wSF (jn r0 (jn r4 (jn r6 (jn r7 (jn s0 (jn s1 (jn s2 (jn r21 (jn r22 r23)))))))))) ?_
      rintro v c2 hc2 rfl
      have el' := min_step (lo := lo) (d := x4) el
      have eh' := max_step (hi := hi) (d := x4) eh
      by_cases g : cmpD x4.d lo.d < 0
      · rw [if_pos g] at el'
        refine zRF (jn r0 (jn r4 (jn r6 (jn r7 (jn s0 (jn s1 (jn s2 (jn r21 (jn r22 (jn r23 g)))))))))) ?_
        refine s_call (Compare_spec t4 th x4 hi c2 h4 oh) (wSF (jn r0 (jn r4 (jn r6 (jn r7 (jn s0 (jn s1 (jn s2 (jn r21 (jn r22 r23)))))))))) ?_
        rintro v c3 hc3 rfl
        by_cases g2 : 0 < cmpD x4.d hi.d
        · rw [if_pos g2] at eh'
          refine zRF (jn r0 (jn r4 (jn r6 (jn r7 (jn s0 (jn s1 (jn s2 (jn r21 (jn r22 (jn r23 g2)))))))))) ?_
          refine ⟨0, by omega, 3, x4, x4, t4, t4, tt, by omega, by omega, h4, h4, el', eh', ?_⟩
          (repeat' apply And.intro) <;> first | rfl | omega | assumption
        · rw [if_neg g2] at eh'
          refine zRF (jn r0 (jn r4 (jn r6 (jn r7 (jn s0 (jn s1 (jn s2 (jn r21 (jn r22 (jn r23 g2)))))))))) ?_
          refine ⟨0, by omega, 3, x4, hi, t4, th, tt, by omega, by omega, h4, oh, el', eh', ?_⟩
          (repeat' apply And.intro) <;> first | rfl | omega | assumption
      · rw [if_neg g] at el'
        refine zRF (jn r0 (jn r4 (jn r6 (jn r7 (jn s0 (jn s1 (jn s2 (jn r21 (jn r22 (jn r23 g)))))))))) ?_
        refine s_call (Compare_spec t4 th x4 hi c2 h4 oh) (wSF (jn r0 (jn r4 (jn r6 (jn r7 (jn s0 (jn s1 (jn s2 (jn r21 (jn r22 r23)))))))))) ?_
        rintro v c3 hc3 rfl
        by_cases g2 : 0 < cmpD x4.d hi.d
        · rw [if_pos g2] at eh'
          refine zRF (jn r0 (jn r4 (jn r6 (jn r7 (jn s0 (jn s1 (jn s2 (jn r21 (jn r22 (jn r23 g2)))))))))) ?_
          refine ⟨0, by omega, 3, lo, x4, tl, t4, tt, by omega, by omega, ol, h4, el', eh', ?_⟩
          (repeat' apply And.intro) <;> first | rfl | omega | assumption
        · rw [if_neg g2] at eh'
          refine zRF (jn r0 (jn r4 (jn r6 (jn r7 (jn s0 (jn s1 (jn s2 (jn r21 (jn r22 (jn r23 g2)))))))))) ?_
          refine ⟨0, by omega, 3, lo, hi, tl, th, tt, by omega, by omega, ol, oh, el', eh', ?_⟩
          (repeat' apply And.intro) <;> first | rfl | omega | assumption
    · refine zRF (jn r0 (jn r4 (jn r6 (jn r7 (jn s0 (jn s1 (jn s2 (jn r21 (jn r22 r23))))))))) ?_
      refine ⟨lo, hi, tl, th, ol, oh, el, eh, ?_⟩
      (repeat' apply And.intro) <;> first | rfl | omega | assumption
  rintro ⟨ρ, σ, c1⟩ ⟨lo, hi, tl, th, ol, oh, el, eh, r0, r4, r6, r7, s0, s1, s2, hc1⟩
  dsimp only at r0 r4 r6 r7 s0 s1 s2 hc1
  refine zRF (jn r0 (jn r4 (jn r6 (jn r7 (jn s0 (jn s1 s2)))))) ?_
  refine s_call (outward_spec tl th lo hi pos c1 ol oh hp) (wSF (jn r0 (jn r4 (jn r6 (jn r7 (jn s0 (jn s1 s2))))))) ?_
  rw [el, eh]
  rintro v c2 hc2 ⟨t, u, cm, g1, g2, rfl, gt, gu⟩
  refine zRF (jn r0 (jn r4 (jn r6 (jn r7 (jn s0 (jn s1 s2)))))) ?_
  exact ⟨t, u, cm, by omega, by omega, rfl, gt.mono (by omega) (Nat.le_refl _), gu⟩
end Go.Proofs.YtacodmnlnlbahaaGreatDoor
set_option linter.unusedSimpArgs false
set_option linter.unusedVariables false
set_option maxRecDepth 100000
set_option maxHeartbeats 8000000
namespace Go.Proofs.YtacodmnlnlbahaaGreatDoor
open Go.VM

section
variable {P : Program} {dr : Bool} {c0 : Nat} {ρ : Nat → V} {c i : Nat} {r : List VO} {K : VS → Prop} {σ : Nat → Option Blk}
theorem s_appS0 {x y : X} {sz sz0 bytes : Nat} {z : List Value} {u : Tok} {ys : List V} (hx : x.ev ρ = .sl .nil sz0 []) (hy : y.ev ρ = .sl u sz ys) (hk : ys.length = 1 * sz) (hb : bytes ≤ 281474976710656)
    (h : wps P dr c0 r ⟨upd ρ i (.buf c 0 1 none sz), supd σ c (some ⟨ys, true⟩), c + 1⟩ K) : wps P dr c0 (⟨some i, .app sz bytes z x y, none⟩ :: r) ⟨ρ, σ, c⟩ K := by
  have hc : vcells sz σ (y.ev ρ) = some ys := by rw [hy]; cases u <;> simp [vcells]
  exact s_eff rfl (by intros; exact fun h => by cases h) (by intros; exact fun h => by cases h) ⟨_, _, _, none, .appNil (k := 1) hx hc hk (by omega) (by omega) (by omega), h⟩
theorem s_appS {x y : X} {t n sz bytes : Nat} {z : List Value} {cap : Option Nat} {cs ys : List V} {u : Tok} (hx : x.ev ρ = .buf t 0 n cap sz) (ht : σ t = some ⟨cs, true⟩) (hcs : cs.length = n * sz) (h0 : c0 ≤ t) (hy : y.ev ρ = .sl u sz ys) (hk : ys.length = 1 * sz)
    (hb : (2 * (n + 1)) * bytes ≤ 281474976710656) (hn : n + 1 ≤ 4611686018427387904)
    (h : wps P dr c0 r ⟨upd (kill (some (.inl t)) ρ) i (.buf t 0 (n + 1) none sz), supd (killσ t σ) t (some ⟨(cs ++ ys).map (killV t), true⟩), c⟩ K) : wps P dr c0 (⟨some i, .app sz bytes z x y, none⟩ :: r) ⟨ρ, σ, c⟩ K := by
  have hc : vcells sz σ (y.ev ρ) = some ys := by rw [hy]; cases u <;> simp [vcells]
  refine s_eff rfl (by intros; exact fun h => by cases h) (by intros; exact fun h => by cases h) ⟨_, _, _, some (.inl t), .appMove (k := 1) hx ht h0 hc hk (by omega) hb hn, ?_⟩
  rw [← hcs, List.take_length]
  exact h
end
theorem kl_at (t : Nat) (ρ : Nat → V) (j : Nat) : kill (some (.inl t)) ρ j = killV t (ρ j) := rfl
theorem kl_lit (t : Nat) (v : Value) : killV t (.lit v) = .lit v := rfl
theorem kl_agg (t : Nat) (l : List V) : killV t (.agg l) = .agg l := rfl
theorem kl_sl (t sz : Nat) (tk : Tok) (l : List V) : killV t (.sl tk sz l) = .sl tk sz l := rfl
theorem kl_ptr {t u o : Nat} (h : u ≠ t) : killV t (.ptr u o) = .ptr u o := if_neg h
theorem kl_blk {t u : Nat} {σ : Nat → Option Blk} {l : List V} {b : Bool} (h : σ u = some ⟨l, b⟩) : killσ t σ u = some ⟨l.map (killV t), b⟩ := by unfold killσ; rw [h]; rfl

theorem aix_0 {sz : Nat} {ag : Option Nat} {l : List V} : vaix 4 sz ag (.agg l) (iv 0) = vpart l 0 ag := by simp [vaix]
theorem aix_1 {ag : Option Nat} {l : List V} : vaix 4 6 ag (.agg l) (iv 1) = vpart l 6 ag := by simp [vaix]
theorem aix_2 {ag : Option Nat} {l : List V} : vaix 4 6 ag (.agg l) (iv 2) = vpart l 12 ag := by simp [vaix]
theorem aix_3 {ag : Option Nat} {l : List V} : vaix 4 6 ag (.agg l) (iv 3) = vpart l 18 ag := by simp [vaix]
theorem axp_0 {t : Nat} : vaxa 2 3 (.ptr t 0) (iv 0) = some (.ptr t 0) := by simp [vaxa]
theorem axp_1 {t : Nat} : vaxa 2 3 (.ptr t 0) (iv 1) = some (.ptr t 3) := by simp [vaxa]
theorem fr_0 {t : Nat} : Tok.from 0 t = .id t := if_pos rfl

def mulW (e1 e2 e3 e4 : Dy) : Int := (worstE (worstE (worstE (worstE 0 (tE e1)) (tE e2)) (tE e3)) (tE e4))
def mulF (pos : Int) (a b p q : RD) : Int := if w2 pos (chkE a b) (chkE p q) = 0 then mulW (mulD a.d p.d) (mulD a.d q.d) (mulD b.d p.d) (mulD b.d q.d) else w2 pos (chkE a b) (chkE p q)
theorem mulW_zero {e1 e2 e3 e4 : Dy} (h : mulW e1 e2 e3 e4 = 0) : tE e1 = 0 ∧ tE e2 = 0 ∧ tE e3 = 0 ∧ tE e4 = 0 := by
  unfold mulW at h
  obtain ⟨h, h4⟩ := worst_zero.1 h
  obtain ⟨h, h3⟩ := worst_zero.1 h
  obtain ⟨h, h2⟩ := worst_zero.1 h
  obtain ⟨h, h1⟩ := worst_zero.1 h
  exact ⟨h1, h2, h3, h4⟩
abbrev mnP (a b p q : Dy) : Dy := mnN (mulD a p) (mulD a q) (mulD b p) (mulD b q) 3
abbrev mxP (a b p q : Dy) : Dy := mxN (mulD a p) (mulD a q) (mulD b p) (mulD b q) 3
theorem mulS_spec (ta tb tc td : Tok) (a b p q : RD) (pos : Int) (c : Nat) (ha : Arg a.l) (hb : Arg b.l) (hp : Arg p.l) (hq : Arg q.l) :
    VSpec Tryz.prog F.span_Mul c [rsV ta tb a b, rsV tc td p q, iv pos] (fun r c' => AnsF c c' (mulF pos a b p q) (rD (mnP a.d b.d p.d q.d) pos false) (rD (mxP a.d b.d p.d q.d) pos true) r) := by
  refine spec_mk hm E.span_Mul B.span_Mul K.span_Mul Q.span_Mul (by rw [N.span_Mul]; simp) ?_
  unfold C.span_Mul R.span_Mul
  refine zR ?_
  refine s_call (checksP pos ta tb tc td a b p q (.id (c + 3)) (c + 4) ha hb hp hq) wSr ?_
  rintro v c1 hc1 rfl
  unfold mulF
  by_cases h : w2 pos (chkE a b) (chkE p q) = 0
  rotate_left
  · rw [if_neg h]
    refine zRF h ?_
    exact ⟨fun _ => rfl, fun e => absurd e h⟩
  obtain ⟨k1, k2, k3⟩ := w2_ok h
  obtain ⟨fa, fb, _⟩ := chk_ok k1
  obtain ⟨fp, fq, _⟩ := chk_ok k2
  have oa : a.Ok := ⟨ha, fa⟩
  have ob : b.Ok := ⟨hb, fb⟩
  have op : p.Ok := ⟨hp, fp⟩
  have oq : q.Ok := ⟨hq, fq⟩
  rw [if_pos h]
  obtain ⟨e1, he1⟩ : ∃ e1, e1 = mulD a.d p.d := ⟨_, rfl⟩
  obtain ⟨e2, he2⟩ : ∃ e2, e2 = mulD a.d q.d := ⟨_, rfl⟩
  obtain ⟨e3, he3⟩ : ∃ e3, e3 = mulD b.d p.d := ⟨_, rfl⟩
  obtain ⟨e4, he4⟩ : ∃ e4, e4 = mulD b.d q.d := ⟨_, rfl⟩
  have m1 : e1.Ok := by rw [he1]; exact mulD_ok _ _
  have m2 : e2.Ok := by rw [he2]; exact mulD_ok _ _
  have m3 : e3.Ok := by rw [he3]; exact mulD_ok _ _
  have m4 : e4.Ok := by rw [he4]; exact mulD_ok _ _
  rw [← he1, ← he2, ← he3, ← he4]
  unfold mnP mxP
  rw [← he1, ← he2, ← he3, ← he4]
  refine zRF h ?_
  refine v_loopR (fun S => ∃ tk t1 t2 t3 t4, S.ρ 2 = iv pos ∧ S.ρ 6 = .ptr (c + 2) 0 ∧ S.ρ 9 = .buf tk 0 4 none 3 ∧ S.ρ 10 = iv (worstE (worstE (worstE (worstE 0 (tE e1)) (tE e2)) (tE e3)) (tE e4)) ∧ S.σ (c + 2) = some ⟨[bv false, .sl .nil 1 [], iv 0, bv false, .sl .nil 1 [], iv 0], true⟩ ∧ S.σ tk = some ⟨[bv (ansD e1).neg, nats t1 (digs 18446744073709551616 (ansD e1).m), iv (ansD e1).e, bv (ansD e2).neg, nats t2 (digs 18446744073709551616 (ansD e2).m), iv (ansD e2).e, bv (ansD e3).neg, nats t3 (digs 18446744073709551616 (ansD e3).m), iv (ansD e3).e, bv (ansD e4).neg, nats t4 (digs 18446744073709551616 (ansD e4).m), iv (ansD e4).e], true⟩ ∧ c + 3 ≤ tk ∧ tk < S.c ∧ c1 ≤ S.c) ?_ ?_
  · refine vwp_loop (fun k S => k ≤ 4 ∧ S.ρ 2 = iv pos ∧ S.ρ 6 = .ptr (c + 2) 0 ∧ S.ρ 44 = .agg [bv a.neg, nats ta a.l, iv a.e, bv p.neg, nats tc p.l, iv p.e, bv a.neg, nats ta a.l, iv a.e, bv q.neg, nats td q.l, iv q.e, bv b.neg, nats tb b.l, iv b.e, bv p.neg, nats tc p.l, iv p.e, bv b.neg, nats tb b.l, iv b.e, bv q.neg, nats td q.l, iv q.e] ∧ S.ρ 45 = iv ((4 - k : Nat) : Int) ∧ S.σ (c + 2) = some ⟨[bv false, .sl .nil 1 [], iv 0, bv false, .sl .nil 1 [], iv 0], true⟩ ∧ c1 ≤ S.c ∧
        match k with
        | 4 => S.ρ 9 = .sl .nil 1 [] ∧ S.ρ 10 = iv 0
        | 3 => ∃ tk t1, S.ρ 9 = .buf tk 0 1 none 3 ∧ S.ρ 10 = iv (worstE 0 (tE e1)) ∧ S.σ tk = some ⟨[bv (ansD e1).neg, nats t1 (digs 18446744073709551616 (ansD e1).m), iv (ansD e1).e], true⟩ ∧ c + 3 ≤ tk ∧ tk < S.c
        | 2 => ∃ tk t1 t2, S.ρ 9 = .buf tk 0 2 none 3 ∧ S.ρ 10 = iv (worstE (worstE 0 (tE e1)) (tE e2)) ∧ S.σ tk = some ⟨[bv (ansD e1).neg, nats t1 (digs 18446744073709551616 (ansD e1).m), iv (ansD e1).e, bv (ansD e2).neg, nats t2 (digs 18446744073709551616 (ansD e2).m), iv (ansD e2).e], true⟩ ∧ c + 3 ≤ tk ∧ tk < S.c
        | 1 => ∃ tk t1 t2 t3, S.ρ 9 = .buf tk 0 3 none 3 ∧ S.ρ 10 = iv (worstE (worstE (worstE 0 (tE e1)) (tE e2)) (tE e3)) ∧ S.σ tk = some ⟨[bv (ansD e1).neg, nats t1 (digs 18446744073709551616 (ansD e1).m), iv (ansD e1).e, bv (ansD e2).neg, nats t2 (digs 18446744073709551616 (ansD e2).m), iv (ansD e2).e, bv (ansD e3).neg, nats t3 (digs 18446744073709551616 (ansD e3).m), iv (ansD e3).e], true⟩ ∧ c + 3 ≤ tk ∧ tk < S.c
        | _ => ∃ tk t1 t2 t3 t4, S.ρ 9 = .buf tk 0 4 none 3 ∧ S.ρ 10 = iv (worstE (worstE (worstE (worstE 0 (tE e1)) (tE e2)) (tE e3)) (tE e4)) ∧ S.σ tk = some ⟨[bv (ansD e1).neg, nats t1 (digs 18446744073709551616 (ansD e1).m), iv (ansD e1).e, bv (ansD e2).neg, nats t2 (digs 18446744073709551616 (ansD e2).m), iv (ansD e2).e, bv (ansD e3).neg, nats t3 (digs 18446744073709551616 (ansD e3).m), iv (ansD e3).e, bv (ansD e4).neg, nats t4 (digs 18446744073709551616 (ansD e4).m), iv (ansD e4).e], true⟩ ∧ c + 3 ≤ tk ∧ tk < S.c) 4 ?_ ?_
    · refine zS ?_
      (repeat' apply And.intro) <;> first | rfl | omega | assumption
    rintro k ⟨ρ, σ, c2⟩ ⟨hk, r2, r6, r44, r45, s2, hc2, hm4⟩
    dsimp only at r2 r6 r44 r45 s2 hc2 hm4
    obtain rfl | rfl | rfl | rfl | rfl : k = 4 ∨ k = 3 ∨ k = 2 ∨ k = 1 ∨ k = 0 := by omega
    · obtain ⟨r9, r10⟩ := hm4
      have f45 : ((4 - 4 : Nat) : Int) = 0 := rfl
      rw [f45] at r45
      refine zRF (jn r2 (jn r6 (jn r9 (jn r10 (jn r44 (jn r45 (jn s2 (jn @aix_0 (jn @axp_0 @axp_1))))))))) ?_
      refine s_call (DMul_spec ta tc a p (c2 + 1) oa op) (wSF (jn r44 r45)) ?_
      rw [← he1]
      rintro v c3 hc3 ⟨t1, rfl, _⟩
      refine zRF (jn r2 (jn r6 (jn r9 (jn r10 (jn r44 (jn r45 s2)))))) ?_
      refine s_call (worst_spec 0 (tE e1) (c3 + 1)) (wSF r10) ?_
      rintro v c4 hc4 rfl
      refine zRF (jn r2 (jn r6 (jn r9 (jn r10 (jn r44 (jn r45 s2)))))) ?_
      refine s_appS0 (sz := 3) (sz0 := 1) (u := .id c4) (ys := [bv (ansD e1).neg, nats t1 (digs 18446744073709551616 (ansD e1).m), iv (ansD e1).e]) (wSF r9) wS rfl (by decide) ?_
      refine zRF (jn r2 (jn r6 (jn r9 (jn r10 (jn r44 (jn r45 s2)))))) ?_
      refine ⟨3, by omega, by omega, ?_⟩
      (repeat' apply And.intro) <;> first | rfl | omega | assumption | (refine ⟨c4 + 1, t1, ?_⟩; (repeat' apply And.intro) <;> first | rfl | exact if_pos rfl | omega)
    · obtain ⟨tk, t1, r9, r10, st, ht1, ht2⟩ := hm4
      have f45 : ((4 - 3 : Nat) : Int) = 1 := rfl
      rw [f45] at r45
      refine zRF (jn r2 (jn r6 (jn r9 (jn r10 (jn r44 (jn r45 (jn s2 (jn @aix_1 (jn @axp_0 @axp_1))))))))) ?_
      refine s_call (DMul_spec ta td a q (c2 + 1) oa oq) (wSF (jn r44 r45)) ?_
      rw [← he2]
      rintro v c3 hc3 ⟨t2, rfl, _⟩
      refine zRF (jn r2 (jn r6 (jn r9 (jn r10 (jn r44 (jn r45 s2)))))) ?_
      refine s_call (worst_spec (worstE 0 (tE e1)) (tE e2) (c3 + 1)) (wSF r10) ?_
      rintro v c4 hc4 rfl
      refine zRF (jn r2 (jn r6 (jn r9 (jn r10 (jn r44 (jn r45 s2)))))) ?_
      have hne : c + 2 ≠ tk := by omega
      have kb := kl_blk (t := tk) s2
      simp only [List.map_cons, List.map_nil, kl_lit, kl_sl] at kb
      refine s_appS (t := tk) (n := 1) (sz := 3) (cap := none) (u := .id c4) (cs := [bv (ansD e1).neg, nats t1 (digs 18446744073709551616 (ansD e1).m), iv (ansD e1).e]) (ys := [bv (ansD e2).neg, nats t2 (digs 18446744073709551616 (ansD e2).m), iv (ansD e2).e]) (wSF r9) (wSF st) rfl (by omega) wS rfl (by decide) (by decide) ?_
      (repeat (first | refine v_reg ?_ | refine v_last ?_ | refine vwp_seq ?_ | refine vwp_block ?_ | refine vwp_skip ?_ | refine vwp_exit ?_ | refine vwp_ret ?_ | refine v_cond ?_ | simp (maxSteps := 4000000) (disch := omega) only [vm, ite_true, ite_false, eq_self, reduceIte, Nat.reduceEqDiff, Option.map, vst, List.length_cons, List.length_nil, List.set_cons_zero, List.set_cons_succ, List.map_cons, List.map_nil, Option.map_some, Option.bind_some, Nat.reduceAdd, Nat.reduceLT, Nat.reduceLeDiff, Nat.add_zero, and_self, k_ne, Nat.add_left_cancel_iff, ne_eq, Int.reduceEq, Int.reduceLT, Int.reduceLE, List.cons_append, List.nil_append, Nat.reduceDiv, Nat.reduceMul, Int.reduceToNat, Int.reduceAdd, Int.cast_ofNat_Int, r2, r6, r9, r10, r44, r45, s2, kl_at, kl_lit, kl_agg, kl_sl, kl_ptr hne, kb] | refine And.intro (by omega) ?_))
      refine ⟨2, by omega, by omega, ?_⟩
      (repeat' apply And.intro) <;> first | rfl | omega | assumption | (refine ⟨tk, t1, t2, ?_⟩; (repeat' apply And.intro) <;> first | rfl | exact if_pos rfl | omega) | (unfold killσ; simp (disch := omega) only [supd_ne]; rw [s2]; rfl)
    · obtain ⟨tk, t1, t2, r9, r10, st, ht1, ht2⟩ := hm4
      have f45 : ((4 - 2 : Nat) : Int) = 2 := rfl
      rw [f45] at r45
      refine zRF (jn r2 (jn r6 (jn r9 (jn r10 (jn r44 (jn r45 (jn s2 (jn @aix_2 (jn @axp_0 @axp_1))))))))) ?_
      refine s_call (DMul_spec tb tc b p (c2 + 1) ob op) (wSF (jn r44 r45)) ?_
      rw [← he3]
      rintro v c3 hc3 ⟨t3, rfl, _⟩
      refine zRF (jn r2 (jn r6 (jn r9 (jn r10 (jn r44 (jn r45 s2)))))) ?_
      refine s_call (worst_spec (worstE (worstE 0 (tE e1)) (tE e2)) (tE e3) (c3 + 1)) (wSF r10) ?_
      rintro v c4 hc4 rfl
      refine zRF (jn r2 (jn r6 (jn r9 (jn r10 (jn r44 (jn r45 s2)))))) ?_
      have hne : c + 2 ≠ tk := by omega
      have kb := kl_blk (t := tk) s2
      simp only [List.map_cons, List.map_nil, kl_lit, kl_sl] at kb
      refine s_appS (t := tk) (n := 2) (sz := 3) (cap := none) (u := .id c4) (cs := [bv (ansD e1).neg, nats t1 (digs 18446744073709551616 (ansD e1).m), iv (ansD e1).e, bv (ansD e2).neg, nats t2 (digs 18446744073709551616 (ansD e2).m), iv (ansD e2).e]) (ys := [bv (ansD e3).neg, nats t3 (digs 18446744073709551616 (ansD e3).m), iv (ansD e3).e]) (wSF r9) (wSF st) rfl (by omega) wS rfl (by decide) (by decide) ?_
      (repeat (first | refine v_reg ?_ | refine v_last ?_ | refine vwp_seq ?_ | refine vwp_block ?_ | refine vwp_skip ?_ | refine vwp_exit ?_ | refine vwp_ret ?_ | refine v_cond ?_ | simp (maxSteps := 4000000) (disch := omega) only [vm, ite_true, ite_false, eq_self, reduceIte, Nat.reduceEqDiff, Option.map, vst, List.length_cons, List.length_nil, List.set_cons_zero, List.set_cons_succ, List.map_cons, List.map_nil, Option.map_some, Option.bind_some, Nat.reduceAdd, Nat.reduceLT, Nat.reduceLeDiff, Nat.add_zero, and_self, k_ne, Nat.add_left_cancel_iff, ne_eq, Int.reduceEq, Int.reduceLT, Int.reduceLE, List.cons_append, List.nil_append, Nat.reduceDiv, Nat.reduceMul, Int.reduceToNat, Int.reduceAdd, Int.cast_ofNat_Int, r2, r6, r9, r10, r44, r45, s2, kl_at, kl_lit, kl_agg, kl_sl, kl_ptr hne, kb] | refine And.intro (by omega) ?_))
      refine ⟨1, by omega, by omega, ?_⟩
      (repeat' apply And.intro) <;> first | rfl | omega | assumption | (refine ⟨tk, t1, t2, t3, ?_⟩; (repeat' apply And.intro) <;> first | rfl | exact if_pos rfl | omega) | (unfold killσ; simp (disch := omega) only [supd_ne]; rw [s2]; rfl)
    · obtain ⟨tk, t1, t2, t3, r9, r10, st, ht1, ht2⟩ := hm4
      have f45 : ((4 - 1 : Nat) : Int) = 3 := rfl
      rw [f45] at r45
      refine zRF (jn r2 (jn r6 (jn r9 (jn r10 (jn r44 (jn r45 (jn s2 (jn @aix_3 (jn @axp_0 @axp_1))))))))) ?_
      refine s_call (DMul_spec tb td b q (c2 + 1) ob oq) (wSF (jn r44 r45)) ?_
      rw [← he4]
      rintro v c3 hc3 ⟨t4, rfl, _⟩
      refine zRF (jn r2 (jn r6 (jn r9 (jn r10 (jn r44 (jn r45 s2)))))) ?_
      refine s_call (worst_spec (worstE (worstE (worstE 0 (tE e1)) (tE e2)) (tE e3)) (tE e4) (c3 + 1)) (wSF r10) ?_
      rintro v c4 hc4 rfl
      refine zRF (jn r2 (jn r6 (jn r9 (jn r10 (jn r44 (jn r45 s2)))))) ?_
      have hne : c + 2 ≠ tk := by omega
      have kb := kl_blk (t := tk) s2
      simp only [List.map_cons, List.map_nil, kl_lit, kl_sl] at kb
      refine s_appS (t := tk) (n := 3) (sz := 3) (cap := none) (u := .id c4) (cs := [bv (ansD e1).neg, nats t1 (digs 18446744073709551616 (ansD e1).m), iv (ansD e1).e, bv (ansD e2).neg, nats t2 (digs 18446744073709551616 (ansD e2).m), iv (ansD e2).e, bv (ansD e3).neg, nats t3 (digs 18446744073709551616 (ansD e3).m), iv (ansD e3).e]) (ys := [bv (ansD e4).neg, nats t4 (digs 18446744073709551616 (ansD e4).m), iv (ansD e4).e]) (wSF r9) (wSF st) rfl (by omega) wS rfl (by decide) (by decide) ?_
      (repeat (first | refine v_reg ?_ | refine v_last ?_ | refine vwp_seq ?_ | refine vwp_block ?_ | refine vwp_skip ?_ | refine vwp_exit ?_ | refine vwp_ret ?_ | refine v_cond ?_ | simp (maxSteps := 4000000) (disch := omega) only [vm, ite_true, ite_false, eq_self, reduceIte, Nat.reduceEqDiff, Option.map, vst, List.length_cons, List.length_nil, List.set_cons_zero, List.set_cons_succ, List.map_cons, List.map_nil, Option.map_some, Option.bind_some, Nat.reduceAdd, Nat.reduceLT, Nat.reduceLeDiff, Nat.add_zero, and_self, k_ne, Nat.add_left_cancel_iff, ne_eq, Int.reduceEq, Int.reduceLT, Int.reduceLE, List.cons_append, List.nil_append, Nat.reduceDiv, Nat.reduceMul, Int.reduceToNat, Int.reduceAdd, Int.cast_ofNat_Int, r2, r6, r9, r10, r44, r45, s2, kl_at, kl_lit, kl_agg, kl_sl, kl_ptr hne, kb] | refine And.intro (by omega) ?_))
      refine ⟨0, by omega, by omega, ?_⟩
      (repeat' apply And.intro) <;> first | rfl | omega | assumption | (refine ⟨tk, t1, t2, t3, t4, ?_⟩; (repeat' apply And.intro) <;> first | rfl | exact if_pos rfl | omega) | (unfold killσ; simp (disch := omega) only [supd_ne]; rw [s2]; rfl)
    · obtain ⟨tk, t1, t2, t3, t4, r9, r10, st, ht1, ht2⟩ := hm4
      have f45 : ((4 - 0 : Nat) : Int) = 4 := rfl
      rw [f45] at r45
      refine zRF (jn r2 (jn r6 (jn r9 (jn r10 (jn r44 (jn r45 s2)))))) ?_
      refine ⟨tk, t1, t2, t3, t4, ?_⟩
      (repeat' apply And.intro) <;> first | rfl | omega | assumption
  rintro ⟨ρ, σ, c2⟩ ⟨tk, t1, t2, t3, t4, r2, r6, r9, r10, s2, st, ht1, ht2, hc2⟩
  dsimp only at r2 r6 r9 r10 s2 st ht2 hc2
  show VWP _ _ _ (retQ _ fun r c' => c ≤ c' ∧ AnsF c c' (mulW e1 e2 e3 e4) _ _ r) _
  by_cases g : mulW e1 e2 e3 e4 = 0
  rotate_left
  · unfold mulW at g
    refine zRF (jn r2 (jn r6 (jn r9 (jn r10 (jn s2 g))))) ?_
    exact ⟨fun _ => rfl, fun e => absurd e g⟩
  obtain ⟨z1, z2, z3, z4⟩ := mulW_zero g
  obtain ⟨o1, d1⟩ := told_ok m1 z1
  obtain ⟨o2, d2⟩ := told_ok m2 z2
  obtain ⟨o3, d3⟩ := told_ok m3 z3
  obtain ⟨o4, d4⟩ := told_ok m4 z4
  have g' : (worstE (worstE (worstE (worstE 0 (tE e1)) (tE e2)) (tE e3)) (tE e4)) = 0 := g
  rw [ansD_ok z1, ansD_ok z2, ansD_ok z3, ansD_ok z4] at st
  refine vwp_freeze 9 tk 0 4 3 none _ r9 st (by omega) (by simp) ?_
  have hso : List.map V.solid (List.take (4 * 3) (List.drop 0 [bv e1.neg, nats t1 (digs 18446744073709551616 e1.m), iv e1.e, bv e2.neg, nats t2 (digs 18446744073709551616 e2.m), iv e2.e, bv e3.neg, nats t3 (digs 18446744073709551616 e3.m), iv e3.e, bv e4.neg, nats t4 (digs 18446744073709551616 e4.m), iv e4.e])) = [bv e1.neg, nats t1 (digs 18446744073709551616 e1.m), iv e1.e, bv e2.neg, nats t2 (digs 18446744073709551616 e2.m), iv e2.e, bv e3.neg, nats t3 (digs 18446744073709551616 e3.m), iv e3.e, bv e4.neg, nats t4 (digs 18446744073709551616 e4.m), iv e4.e] := rfl
  unfold VM.frozen
  rw [hso, fr_0]
  have hne : c + 2 ≠ tk := by omega
  refine zRF (jn r2 (jn r6 (jn r9 (jn r10 (jn s2 g'))))) ?_
  refine s_call (hull4_spec (.id tk) t1 t2 t3 t4 (RD.of e1) (RD.of e2) (RD.of e3) (RD.of e4) pos c2 o1 o2 o3 o4 k3) wSr ?_
  rw [d1, d2, d3, d4]
  rintro v c3 hc3 ⟨t, u, cm, g3, g4, rfl, gt, gu⟩
  refine zRF (jn r2 (jn r6 (jn r9 (jn r10 (jn s2 (jn g' hne)))))) ?_
  exact ⟨fun h => absurd g h, fun _ => ⟨t, u, cm, by omega, by omega, by rfl, gt.mono (by omega) (Nat.le_refl _), gu⟩⟩
end Go.Proofs.YtacodmnlnlbahaaGreatDoor
set_option linter.unusedSimpArgs false
set_option linter.unusedVariables false
set_option maxRecDepth 100000
set_option maxHeartbeats 8000000
namespace Go.Proofs.YtacodmnlnlbahaaGreatDoor
open Go.VM

theorem rmul_spec (t u : Tok) (x y : Dy) (c : Nat) (hx : RNum x) (hy : RNum y) (bx : bl x.m ≤ 536870912) (by0 : bl y.m ≤ 536870912) :
    VSpec Tryz.prog F.surdref08_Mul c [fV t x, fV u y] (fun r _ => ∃ tk, r = fV tk (mulD x y)) := by
  refine spec_mk hm E.surdref08_Mul B.surdref08_Mul K.surdref08_Mul Q.surdref08_Mul (by rw [N.surdref08_Mul]; simp) ?_
  unfold C.surdref08_Mul R.surdref08_Mul
  have h1 := hx.lo
  have h2 := hx.hi
  have h3 := hy.lo
  have h4 := hy.hi
  have hb := bl_mul_le x.m y.m
  refine zR ?_
  refine s_call (mul06_spec t u x.neg y.neg x.m y.m (c + 3) (by omega) (by omega)) wS ?_
  rintro v c1 hc1 ⟨tk, rfl⟩
  refine zR ?_
  refine s_call (of08_spec (zneg (x.neg != y.neg) (x.m * y.m)) tk (x.m * y.m) (x.e + y.e) c1 (by omega) (fun h => by unfold zneg; rw [h]; simp) (by omega) (by omega)) wS ?_
  rw [dyOf_zneg]
  rintro v c2 hc2 ⟨tq, rfl⟩
  refine zR ?_
  exact ⟨tq, rfl⟩
end Go.Proofs.YtacodmnlnlbahaaGreatDoor
set_option linter.unusedSimpArgs false
set_option linter.unusedVariables false
set_option maxRecDepth 100000
set_option maxHeartbeats 8000000
namespace Go.Proofs.YtacodmnlnlbahaaGreatDoor
open Go.VM

theorem addD_e {x y : Dy} (hx : Num x) (hy : Num y) : -2305843009213693952 ≤ (addD x y).e ∧ (addD x y).e ≤ 2305843009213693952 := by
  have key : ∀ {x y : Dy}, Num x → Num y → y.e ≤ x.e → -2305843009213693952 ≤ (addD x y).e ∧ (addD x y).e ≤ 2305843009213693952 := fun {x y} hx hy h => by
    have h1 := hx.lo
    have h2 := hx.hi
    have h3 := hy.lo
    have h4 := hy.hi
    by_cases gy : y.m = 0
    · rw [addD_comm0 hx.ok gy hy.ok]; omega
    rw [addD_sumW h, dyOf_e]
    split
    · omega
    · rename_i g0
      have ht : tz (sumW x y).2 ≤ 67108865 := by
        by_cases g : y.e < x.e
        · rw [tz_odd (sumW_odd g (hy.ok.odd.resolve_left gy))]; omega
        · refine Nat.le_trans (tz_le_bl _) (sum_bl h ?_ hy.bits)
          rw [show (x.e - y.e).toNat = 0 by omega, Nat.pow_zero, Nat.mul_one]
          exact hx.bits
      omega
  rcases Int.le_total y.e x.e with h | h
  · exact key hx hy h
  · rw [addD_comm]; exact key hy hx h
theorem addD_r {x y : Dy} (hx : Num x) (hy : Num y) (h : bl (addD x y).m ≤ 2000000001) : RNum (addD x y) := ⟨addD_ok _ _, by omega, (addD_e hx hy).1, (addD_e hx hy).2⟩
theorem mulD_r {x y : Dy} (hx : Num x) (hy : Num y) : RNum (mulD x y) := by
  have h1 := hx.lo
  have h2 := hx.hi
  have h3 := hy.lo
  have h4 := hy.hi
  have hb := bl_mul_le x.m y.m
  have h5 := hx.bits
  have h6 := hy.bits
  have ho := mul_oddD hx.ok hy.ok
  refine ⟨mulD_ok x y, Nat.le_trans (dyOf_bl (e := x.e + y.e) (neg := x.neg != y.neg)) (by omega), ?_, ?_⟩
  · unfold mulD
    rw [dyOf_e]
    split
    · omega
    · rename_i g; rw [tz_odd (ho.resolve_left g)]; omega
  · unfold mulD
    rw [dyOf_e]
    split
    · omega
    · rename_i g; rw [tz_odd (ho.resolve_left g)]; omega
end Go.Proofs.YtacodmnlnlbahaaGreatDoor
set_option linter.unusedSimpArgs false
set_option linter.unusedVariables false
set_option maxRecDepth 100000
set_option maxHeartbeats 8000000
namespace Go.Proofs.YtacodmnlnlbahaaGreatDoor
open Go.VM

theorem wpow2_spec (an : Bool) (ta : Tok) (a : List Nat) (c : Nat) (ha : Lim 18446744073709551616 a) (hna : a.length ≤ 1073741824) :
    VSpec Tryz.prog F.whole_Pow c [whV an ta a, iv 2] (fun r _ => WAns (false, val 18446744073709551616 a * val 18446744073709551616 a) r) := by
  refine spec_mk hm E.whole_Pow B.whole_Pow K.whole_Pow Q.whole_Pow (by rw [N.whole_Pow]; simp) ?_
  unfold C.whole_Pow R.whole_Pow
  have hsq : val 18446744073709551616 a ^ 2 = val 18446744073709551616 a * val 18446744073709551616 a := Nat.pow_two _
  have hp := fun c => pow_spec ta a 2 c ha hna (by decide)
  rw [hsq] at hp
  have h01 : ¬ (0 : Int) = 1 := by decide
  have h22 : decide ((2 : Int) % 2 = 1) = false := by decide
  cases an
  · refine zR ?_
    refine s_call (hp (c + 2)) wS ?_
    rintro v c1 hc1 ht
    generalize val 18446744073709551616 a * val 18446744073709551616 a = n at *
    obtain ⟨t3, l3, e3, rfl, hr⟩ := wres_told false n c1 ht
    refine zR ?_
    refine s_call (hr c1) wS ?_
    rintro v c2 hc2 (⟨h, tk, rfl⟩ | ⟨h, rfl⟩)
    · refine zR ?_
      exact .inl ⟨h, tk, rfl⟩
    · refine zR ?_
      exact .inr ⟨h, rfl⟩
  · refine zR ?_
    refine s_call (hp (c + 2)) wS ?_
    rintro v c1 hc1 ht
    generalize val 18446744073709551616 a * val 18446744073709551616 a = n at *
    obtain ⟨t3, l3, e3, rfl, hr⟩ := wres_told false n c1 ht
    refine zRF (jn h01 h22) ?_
    refine s_call (hr c1) (wSF h22) ?_
    rintro v c2 hc2 (⟨h, tk, rfl⟩ | ⟨h, rfl⟩)
    · refine zR ?_
      exact .inl ⟨h, tk, rfl⟩
    · refine zR ?_
      exact .inr ⟨h, rfl⟩
theorem DPow2_spec (t : Tok) (a : RD) (c : Nat) (ha : a.Ok) : VSpec Tryz.prog F.dyadic_Pow c [rdV t a, iv 2] (fun r c' => AnsD c c' (mulD a.d a.d) r) := by
  refine spec_mk hm E.dyadic_Pow B.dyadic_Pow K.dyadic_Pow Q.dyadic_Pow (by rw [N.dyadic_Pow]; simp) ?_
  unfold C.dyadic_Pow R.dyadic_Pow
  have na := ha.num
  have a1 := na.lo
  have a2 := na.hi
  have la := na.arg.len
  have g3 : ¬ (3 : Int) = 0 := by decide
  have g4 : ¬ (1099511627776 : Int) < 2 := by decide
  have g5 : (0 : Int) < 2 := by decide
  refine zR ?_
  refine s_call (read_spec a.neg t a.l a.e (c + 2) ha.arg ha.fit) wS ?_
  rintro v c1 hc1 ⟨tx, rfl, _⟩
  have e1 : dyOf a.neg (val 18446744073709551616 a.l) a.e = a.d := rfl
  rw [e1]
  have ho := mul_oddD na.ok na.ok
  refine zR ?_
  refine s_call (wpow2_spec a.d.neg tx (digs 18446744073709551616 a.d.m) (c1 + 1) na.arg.lim (by omega)) wS ?_
  rw [val_digs two64]
  have em : mulD a.d a.d = dyOf false (a.d.m * a.d.m) (a.d.e + a.d.e) := by unfold mulD; rw [show (a.d.neg != a.d.neg) = false by cases a.d.neg <;> rfl]
  rw [em]
  have hz : a.d.m * a.d.m = 0 → a.d.e = 0 := fun h => by
    have : a.d.m = 0 := by rcases Nat.mul_eq_zero.1 h with h | h <;> exact h
    rw [na.ok.zero this]; rfl
  generalize a.d.m * a.d.m = M at *
  generalize a.d.e = e at *
  rintro v c2 hc2 (⟨h, tk, rfl⟩ | ⟨h, rfl⟩)
  · replace h : bl M ≤ 67108864 := h
    have e2 : e * 2 = e + e := by omega
    have hd : (1099511627776 : Int) / 2 = 549755813888 := by decide
    have hfin : ∀ cc, c2 ≤ cc → VSpec Tryz.prog F.dyadic_told cc [whV (zneg false M) tk (digs 18446744073709551616 M), iv (e * 2)] (fun r c' => AnsD c c' (dyOf false M (e + e)) r) := fun cc hcc => by
      have h := dtold_spec (zneg false M) tk (digs 18446744073709551616 M) (e * 2) cc (lim_digs two64 M) (len_bl (by omega)) (by omega) (by omega) (.inr (by rw [val_digs two64]; exact Nat.le_trans (bl_od _) h))
      rw [val_digs two64, dyOf_zneg, e2] at h
      rw [e2]
      exact h.mono fun r c' hr => hr.mono (by omega) (Nat.le_refl _)
    have hez : zneg false M = false := rfl
    rw [hez] at hfin
    by_cases g0 : e = 0
    · subst g0
      refine zRF hez ?_
      refine s_call (hfin (c2 + 1) (by omega)) (wSF hez) ?_
      rintro v c3 hc3 ⟨tq, rfl, htq⟩
      refine zR ?_
      exact ⟨tq, rfl, htq.mono (by omega) (by omega)⟩
    · have hM : M % 2 = 1 := ho.resolve_left (fun h0 => g0 (hz h0))
      have ed := dyOf_odd (neg := false) (e := e + e) hM
      have hbad : ¬ fitE (e + e) → tE (dyOf false M (e + e)) = 80 := fun hf => by
        rw [ed]
        unfold tE
        rw [if_neg (by show ¬ 67108864 < bl M; omega), if_neg hf]
      by_cases g1 : (549755813888 : Int) < e
      · have ht := hbad (fun hf => by unfold fitE at hf; omega)
        refine zRF (jn hez (jn g0 (jn g4 (jn g5 (jn hd g1))))) ?_
        refine ⟨.nil, ?_, .inl ⟨rfl, ?_⟩⟩
        · rw [ansD_bad (by rw [ht]; decide), ht]; rfl
        · rw [ansD_bad (by rw [ht]; decide)]; rfl
      · by_cases g2 : e < -549755813888
        · have ht := hbad (fun hf => by unfold fitE at hf; omega)
          refine zRF (jn hez (jn g0 (jn g4 (jn g5 (jn hd (jn g1 (jn g2 @n_neg'))))))) ?_
          refine ⟨.nil, ?_, .inl ⟨rfl, ?_⟩⟩
          · rw [ansD_bad (by rw [ht]; decide), ht]; rfl
          · rw [ansD_bad (by rw [ht]; decide)]; rfl
        · refine zRF (jn hez (jn g0 (jn g4 (jn g5 (jn hd (jn g1 (jn g2 @n_neg'))))))) ?_
          refine s_call (hfin (c2 + 1) (by omega)) (wSF hez) ?_
          rintro v c3 hc3 ⟨tq, rfl, htq⟩
          refine zR ?_
          exact ⟨tq, rfl, htq.mono (by omega) (by omega)⟩
  · have hM : M % 2 = 1 := ho.resolve_left (fun h0 => by replace h : 67108864 < bl M := h; rw [h0, bl_zero] at h; omega)
    have ed := dyOf_odd (neg := false) (e := e + e) hM
    have ht : tE (dyOf false M (e + e)) = 3 := by rw [ed]; exact if_pos h
    refine zRF g3 ?_
    refine ⟨.nil, ?_, .inl ⟨rfl, ?_⟩⟩
    · rw [ansD_bad (by rw [ht]; decide), ht]; rfl
    · rw [ansD_bad (by rw [ht]; decide)]; rfl
end Go.Proofs.YtacodmnlnlbahaaGreatDoor
set_option linter.unusedSimpArgs false
set_option linter.unusedVariables false
set_option maxRecDepth 100000
set_option maxHeartbeats 8000000
namespace Go.Proofs.YtacodmnlnlbahaaGreatDoor
open Go.VM

def RD.sz (a : RD) : RD := ⟨false, a.l, a.e⟩
theorem RD.Ok.sz {a : RD} (h : a.Ok) : a.sz.Ok := ⟨h.arg, h.fit⟩
theorem rd0_ok : rd0.Ok := ⟨⟨.nil, by decide⟩, by decide, by decide⟩
theorem rd0_d : rd0.d = dy0 := by unfold RD.d dyOf; exact if_pos rfl
theorem sq_sz (a : RD) : mulD a.sz.d a.sz.d = mulD a.d a.d := by
  unfold mulD
  have h1 : a.sz.d.m = a.d.m := by unfold RD.d RD.sz dyOf; split <;> rfl
  have h2 : a.sz.d.e = a.d.e := by unfold RD.d RD.sz dyOf; split <;> rfl
  rw [h1, h2, show (a.sz.d.neg != a.sz.d.neg) = false by cases a.sz.d.neg <;> rfl, show (a.d.neg != a.d.neg) = false by cases a.d.neg <;> rfl]
theorem size_spec (t : Tok) (a : RD) (c : Nat) : VSpec Tryz.prog F.span_size c [rdV t a] (fun r _ => r = rdV t a.sz) := by
  refine spec_mk hm E.span_size B.span_size K.span_size Q.span_size (by rw [N.span_size]; simp) ?_
  unfold C.span_size R.span_size
  refine zR ?_
  (first | omega | rfl | ((repeat' apply And.intro) <;> first | rfl | omega | assumption))
def nzB (x y : Dy) : Bool := decide (x.sg ≤ 0) && decide (0 ≤ y.sg)
theorem nought_spec (ta tb : Tok) (a b : RD) (c : Nat) (ha : Arg a.l) (hb : Arg b.l) : VSpec Tryz.prog F.span_nought c [rsV ta tb a b] (fun r _ => r = bv (nzB a.d b.d)) := by
  refine spec_mk hm E.span_nought B.span_nought K.span_nought Q.span_nought (by rw [N.span_nought]; simp) ?_
  unfold C.span_nought R.span_nought
  unfold nzB
  refine zR ?_
  refine s_call (dsign_spec ta a (c + 1) ha) wS ?_
  rintro v c1 hc1 rfl
  by_cases g : a.d.sg ≤ 0
  · rw [decide_eq_true g]
    refine zRF g ?_
    refine s_call (dsign_spec tb b c1 hb) wS ?_
    rintro v c2 hc2 rfl
    refine zRF g ?_
    (first | omega | rfl | ((repeat' apply And.intro) <;> first | rfl | omega | assumption))
  · rw [decide_eq_false g]
    refine zRF g ?_
    (first | omega | rfl | ((repeat' apply And.intro) <;> first | rfl | omega | assumption))
def sqL (x y : Dy) : Dy := if nzB x y = true then dy0 else if 0 < cmpD (dyOf false x.m x.e) (dyOf false y.m y.e) then mulD y y else mulD x x
def sqH (x y : Dy) : Dy := if 0 < cmpD (dyOf false x.m x.e) (dyOf false y.m y.e) then mulD x x else mulD y y
theorem sz_d (a : RD) : a.sz.d = dyOf false a.d.m a.d.e := by
  unfold RD.d RD.sz
  show dyOf false (val 18446744073709551616 a.l) a.e = _
  have h := dyOf_id (dyOf_ok false (val 18446744073709551616 a.l) a.e)
  rw [← h]
  unfold dyOf
  by_cases g : val 18446744073709551616 a.l = 0
  · rw [if_pos g, if_pos g]; rfl
  · rw [if_neg g, if_neg g]
theorem mul_0 : mulD dy0 dy0 = dy0 := by unfold mulD dyOf; exact if_pos rfl
theorem sizes_spec (ta tb : Tok) (a b : RD) (c : Nat) (ha : a.Ok) (hb : b.Ok) :
    VSpec Tryz.prog F.span_sizes c [rsV ta tb a b] (fun r _ => ∃ tl th, ∃ lo hi : RD, r = rsV tl th lo hi ∧ lo.Ok ∧ hi.Ok ∧ mulD lo.d lo.d = sqL a.d b.d ∧ mulD hi.d hi.d = sqH a.d b.d) := by
  refine spec_mk hm E.span_sizes B.span_sizes K.span_sizes Q.span_sizes (by rw [N.span_sizes]; simp) ?_
  unfold C.span_sizes R.span_sizes
  unfold sqL sqH
  rw [← sz_d, ← sz_d]
  refine zRF @nb_app ?_
  refine s_call (size_spec ta a (c + 2)) wS ?_
  rintro v c1 hc1 rfl
  refine zRF @nb_app ?_
  refine s_call (size_spec tb b c1) wS ?_
  rintro v c2 hc2 rfl
  refine zRF @nb_app ?_
  refine s_call (Compare_spec ta tb a.sz b.sz (c2 + 2) ha.sz hb.sz) wS ?_
  rintro v c3 hc3 rfl
  by_cases g : 0 < cmpD a.sz.d b.sz.d
  · rw [if_pos g, if_pos g]
    refine zRF g ?_
    refine s_call (nought_spec ta tb a b c3 ha.arg hb.arg) wS ?_
    rintro v c4 hc4 rfl
    cases hn : nzB a.d b.d with
    | true =>
      refine zR ?_
      exact ⟨_, _, rd0, a.sz, rfl, rd0_ok, ha.sz, by rw [rd0_d, mul_0], sq_sz a⟩
    | false =>
      refine zR ?_
      exact ⟨_, _, b.sz, a.sz, rfl, hb.sz, ha.sz, sq_sz b, sq_sz a⟩
  · rw [if_neg g, if_neg g]
    refine zRF g ?_
    refine s_call (nought_spec ta tb a b c3 ha.arg hb.arg) wS ?_
    rintro v c4 hc4 rfl
    cases hn : nzB a.d b.d with
    | true =>
      refine zR ?_
      exact ⟨_, _, rd0, b.sz, rfl, rd0_ok, hb.sz, by rw [rd0_d, mul_0], sq_sz b⟩
    | false =>
      refine zR ?_
      exact ⟨_, _, a.sz, b.sz, rfl, ha.sz, hb.sz, sq_sz a, sq_sz b⟩
theorem sPow2_spec (ta tb : Tok) (a b : RD) (pos : Int) (c : Nat) (ha : a.Ok) (hb : b.Ok) (hk : chkE a b = 0) (hp : fitE pos) :
    VSpec Tryz.prog F.span_Pow c [rsV ta tb a b, iv 2, iv pos] (fun r c' => AnsF c c' (worstE (tE (sqL a.d b.d)) (tE (sqH a.d b.d))) (rD (sqL a.d b.d) pos false) (rD (sqH a.d b.d) pos true) r) := by
  refine spec_mk hm E.span_Pow B.span_Pow K.span_Pow Q.span_Pow (by rw [N.span_Pow]; simp) ?_
  unfold C.span_Pow R.span_Pow
  have hp' := hp
  unfold fitE at hp'
  have l1 : ¬ (2 : Int) < 0 := by decide
  have l2 : ¬ (1000 : Int) < 2 := by decide
  have l3 : ¬ pos < -1099511627776 := by omega
  have l4 : ¬ 1099511627776 < pos := by omega
  have l5 : (2 : Int) % 2 = 0 := by decide
  refine zR ?_
  refine s_call (check_spec ta tb a b (c + 2) ha.arg hb.arg) wS ?_
  rw [hk]
  rintro v c1 hc1 rfl
  refine zRF (jn l1 (jn l2 (jn l3 (jn l4 l5)))) ?_
  refine s_call (sizes_spec ta tb a b c1 ha hb) wS ?_
  rintro v c2 hc2 ⟨tl, th, lo, hi, rfl, ol, oh, el, eh⟩
  refine zR ?_
  refine s_call (DPow2_spec tl lo c2 ol) wS ?_
  rw [el]
  rintro v c3 hc3 ⟨t1, rfl, ht1⟩
  refine zR ?_
  refine s_call (DPow2_spec th hi (c3 + 1) oh) wS ?_
  rw [eh]
  rintro v c4 hc4 ⟨t2, rfl, ht2⟩
  have ok1 : (sqL a.d b.d).Ok := by rw [← el]; exact mulD_ok _ _
  have ok2 : (sqH a.d b.d).Ok := by rw [← eh]; exact mulD_ok _ _
  generalize sqL a.d b.d = x at *
  generalize sqH a.d b.d = y at *
  refine zR ?_
  refine s_call (worst_spec (tE x) (tE y) (c4 + 1)) wS ?_
  rintro v c5 hc5 rfl
  by_cases g : worstE (tE x) (tE y) = 0
  · obtain ⟨g1, g2⟩ := worst_zero.1 g
    obtain ⟨k1, e1⟩ := told_ok ok1 g1
    obtain ⟨k2, e2⟩ := told_ok ok2 g2
    refine zRF g ?_
    refine s_call (outward_spec t1 t2 (RD.of x) (RD.of y) pos c5 k1 k2 hp) (by rw [ansD_ok g1, ansD_ok g2]; refine zS ?_; rfl) ?_
    rw [e1, e2]
    rintro v c6 hc6 ⟨t, u, cm, g3, g4, rfl, gt, gu⟩
    refine zR ?_
    exact ⟨fun h => absurd rfl h, fun _ => ⟨t, u, cm, by omega, by omega, rfl, gt.mono (by omega) (Nat.le_refl _), gu⟩⟩
  · refine zRF g ?_
    exact ⟨fun _ => rfl, fun h => absurd h g⟩
theorem ssq_spec (ta tb : Tok) (a b : RD) (pos : Int) (c : Nat) (ha : a.Ok) (hb : b.Ok) (hk : chkE a b = 0) (hp : fitE pos) :
    VSpec Tryz.prog F.span_Square c [rsV ta tb a b, iv pos] (fun r c' => AnsF c c' (worstE (tE (sqL a.d b.d)) (tE (sqH a.d b.d))) (rD (sqL a.d b.d) pos false) (rD (sqH a.d b.d) pos true) r) := by
  refine spec_mk hm E.span_Square B.span_Square K.span_Square Q.span_Square (by rw [N.span_Square]; simp) ?_
  unfold C.span_Square R.span_Square
  refine zR ?_
  refine s_call (sPow2_spec ta tb a b pos (c + 2) ha hb hk hp) wS ?_
  rintro v c2 hc2 hv
  generalize worstE (tE (sqL a.d b.d)) (tE (sqH a.d b.d)) = f at *
  by_cases g : f = 0
  · obtain ⟨t, u, cm, g3, g4, rfl, gt, gu⟩ := hv.ok g
    refine zR ?_
    exact ⟨fun h => absurd g h, fun _ => ⟨t, u, cm, by omega, by omega, rfl, gt.mono (by omega) (Nat.le_refl _), gu⟩⟩
  · have hb := hv.bad g
    subst hb
    refine zR ?_
    exact ⟨fun _ => rfl, fun h => absurd h g⟩
end Go.Proofs.YtacodmnlnlbahaaGreatDoor
set_option linter.unusedSimpArgs false
set_option linter.unusedVariables false
set_option maxRecDepth 100000
set_option maxHeartbeats 8000000
namespace Go.Proofs.YtacodmnlnlbahaaGreatDoor
open Go.VM

theorem dy10_spec (t : Tok) (a : RD) (c : Nat) : VSpec Tryz.prog F.surdlaw10_dy c [rdV t a] (fun r _ => r = rdV t a) := by
  refine spec_mk hm E.surdlaw10_dy B.surdlaw10_dy K.surdlaw10_dy Q.surdlaw10_dy (by rw [N.surdlaw10_dy]; simp) ?_
  unfold C.surdlaw10_dy R.surdlaw10_dy
  refine zR ?_
  (first | omega | rfl | ((repeat' apply And.intro) <;> first | rfl | omega | assumption))
theorem in10_spec (t u : Tok) (a b : RD) (c : Nat) : VSpec Tryz.prog F.surdlaw10_in c [rsV t u a b] (fun r _ => r = rsV t u a b) := by
  refine spec_mk hm E.surdlaw10_in B.surdlaw10_in K.surdlaw10_in Q.surdlaw10_in (by rw [N.surdlaw10_in]; simp) ?_
  unfold C.surdlaw10_in R.surdlaw10_in
  refine zR ?_
  refine s_call (dy10_spec t a (c + 2)) wS ?_
  rintro v c1 hc1 rfl
  refine zR ?_
  refine s_call (dy10_spec u b c1) wS ?_
  rintro v c2 hc2 rfl
  refine zR ?_
  (first | omega | rfl | ((repeat' apply And.intro) <;> first | rfl | omega | assumption))
theorem rd10_spec (t : Tok) (a : RD) (c : Nat) (ha : a.Ok) : VSpec Tryz.prog F.surdlaw10_read c [rdV t a] (fun r _ => ∃ tk, r = fV tk a.d) := by
  refine spec_mk hm E.surdlaw10_read B.surdlaw10_read K.surdlaw10_read Q.surdlaw10_read (by rw [N.surdlaw10_read]; simp) ?_
  unfold C.surdlaw10_read R.surdlaw10_read
  have hf := ha.fit
  unfold fitE at hf
  have hb := ha.arg.bl
  refine zR ?_
  refine s_call (of06_spec a.neg t a.l (c + 2) ha.arg) wS ?_
  rintro v c1 hc1 ⟨tk, rfl⟩
  refine zR ?_
  refine s_call (of08_spec (zneg a.neg (val 18446744073709551616 a.l)) tk (val 18446744073709551616 a.l) a.e c1 (by omega) (fun h => by unfold zneg; rw [h]; simp) (by omega) (by omega)) wS ?_
  rw [dyOf_zneg]
  rintro v c2 hc2 ⟨tq, rfl⟩
  refine zR ?_
  exact ⟨tq, rfl⟩
theorem rds10_spec (t u : Tok) (a b : RD) (c : Nat) (ha : a.Ok) (hb : b.Ok) : VSpec Tryz.prog F.surdlaw10_reads c [rsV t u a b] (fun r _ => ∃ tk uk, r = fsV tk uk a.d b.d) := by
  refine spec_mk hm E.surdlaw10_reads B.surdlaw10_reads K.surdlaw10_reads Q.surdlaw10_reads (by rw [N.surdlaw10_reads]; simp) ?_
  unfold C.surdlaw10_reads R.surdlaw10_reads
  refine zR ?_
  refine s_call (rd10_spec t a (c + 2) ha) wS ?_
  rintro v c1 hc1 ⟨tk, rfl⟩
  refine zR ?_
  refine s_call (rd10_spec u b c1 hb) wS ?_
  rintro v c2 hc2 ⟨uk, rfl⟩
  refine zR ?_
  exact ⟨tk, uk, rfl⟩
def cellsF : List (Tok × Dy) → List V
  | [] => []
  | p :: L => bv p.2.neg :: nats p.1 (digs 4294967296 p.2.m) :: iv p.2.e :: cellsF L
theorem cellsF_len : ∀ L : List (Tok × Dy), (cellsF L).length = 3 * L.length
  | [] => rfl
  | p :: L => by simp only [cellsF, List.length_cons, cellsF_len L]; omega
theorem cellsF_at : ∀ (L : List (Tok × Dy)) (i : Nat) (p : Tok × Dy), L[i]? = some p → vpart (cellsF L) (i * 3) (some 3) = some (.agg [bv p.2.neg, nats p.1 (digs 4294967296 p.2.m), iv p.2.e])
  | [], i, p, h => by simp at h
  | q :: L, 0, p, h => by
    simp at h; subst h
    simp [cellsF, vpart]
    exact ⟨rfl, rfl, rfl⟩
  | q :: L, i + 1, p, h => by
    have ih := cellsF_at L i p (by simpa using h)
    have e : cellsF (q :: L) = bv q.2.neg :: nats q.1 (digs 4294967296 q.2.m) :: iv q.2.e :: cellsF L := rfl
    rw [e, show (i + 1) * 3 = i * 3 + 1 + 1 + 1 by omega, vp_succ, vp_succ, vp_succ]
    exact ih
theorem rD_e2 {x : Dy} {pos : Int} {up : Bool} (hx : RNum x) (hb : bl x.m ≤ 134217728) (hp : fitE pos) : RNum (rD x pos up) := by
  unfold rD
  split
  · exact hx
  · rename_i g
    have hp' := hp
    unfold fitE at hp'
    obtain ⟨k, hk⟩ : ∃ k : Nat, (pos - x.e).toNat = k + 1 := ⟨(pos - x.e).toNat - 1, by have : ¬ pos ≤ x.e := fun h => g (.inr h); omega⟩
    have hq : bl (x.m / 2 ^ (pos - x.e).toNat + (if up = x.neg then 0 else 1)) ≤ 134217728 := rQ_bl (x := x) (k := (pos - x.e).toNat) (K := 134217727) (up := up) (by omega) (by decide) hb
    have ht := Nat.le_trans (tz_le_bl (x.m / 2 ^ (pos - x.e).toNat + (if up = x.neg then 0 else 1))) hq
    generalize x.m / 2 ^ (pos - x.e).toNat + (if up = x.neg then 0 else 1) = q at *
    refine ⟨dyOf_ok _ _ _, Nat.le_trans dyOf_bl (by omega), ?_, ?_⟩ <;> (rw [dyOf_e]; split <;> omega)
theorem rD_at (x : Dy) (pos : Int) (up : Bool) : (rD x pos up).m = 0 ∨ pos ≤ (rD x pos up).e := by
  unfold rD
  split
  · rename_i g; exact g
  · generalize x.m / 2 ^ (pos - x.e).toNat + (if up = x.neg then 0 else 1) = n
    unfold dyOf
    split
    · exact .inl rfl
    · exact .inr (by show pos ≤ pos + _; omega)
theorem close_spec (te t : Tok) (e : Dy) (pos : Int) (L : List (Tok × Dy)) (c : Nat) (hL : ∀ p ∈ L, RNum p.2 ∧ bl p.2.m ≤ 134217728) (he : RNum e) (hp : fitE pos) (h1 : e.m = 0 ∨ pos ≤ e.e) (h2 : ∃ p ∈ L, ∃ up, e = rD p.2 pos up) (hl : L.length ≤ 1000) :
    VSpec Tryz.prog F.surdlaw10_close c [fV te e, iv pos, .sl t 3 (cellsF L)] (fun r _ => r = bv true) := by
  refine spec_mk hm E.surdlaw10_close B.surdlaw10_close K.surdlaw10_close Q.surdlaw10_close (by rw [N.surdlaw10_close]; simp) ?_
  unfold C.surdlaw10_close R.surdlaw10_close
  have hcl := cellsF_len L
  have hd : (cellsF L).length / 3 = L.length := by omega
  refine zR ?_
  refine s_call (zsign_spec e.neg te e.m (c + 1) he.bits he.nz) wS ?_
  rintro v c1 hc1 rfl
  by_cases hz : e.m = 0
  · have e0 : sgW e.neg e.m = 0 := by unfold sgW; rw [if_pos hz]
    refine zRF (jn e0 hd) ?_
    refine v_loopR (fun S => False) ?_ ?_
    · refine vwp_loop (fun k S => ∃ i, k = L.length - i ∧ i ≤ L.length ∧ (∃ p ∈ L.drop i, ∃ up, e = rD p.2 pos up) ∧ S.ρ 1 = iv pos ∧ S.ρ 3 = .ptr c 0 ∧ S.ρ 19 = .sl t 3 (cellsF L) ∧ S.ρ 20 = iv L.length ∧ S.ρ 21 = iv i ∧ S.σ c = some ⟨[bv e.neg, nats te (digs 4294967296 e.m), iv e.e], true⟩ ∧ c1 ≤ S.c) L.length ?_ ?_
      · refine ⟨0, by omega, by omega, h2, ?_⟩
        refine zS ?_
        (repeat' apply And.intro) <;> first | rfl | omega | assumption
      rintro k ⟨ρ', σ', c3⟩ ⟨i, hk, hi, ⟨p0, hp0, up0, he0⟩, q1, q3, q19, q20, q21, t0, hc3⟩
      dsimp only at q1 q3 q19 q20 q21 t0 hc3
      by_cases g : (i : Int) < L.length
      · have hi' : i < L.length := by omega
        obtain ⟨s, hs⟩ : ∃ s, L[i]? = some s := ⟨_, List.getElem?_eq_getElem hi'⟩
        have hat := cellsF_at L i s hs
        obtain ⟨n1, n2⟩ := hL s (List.mem_of_getElem? hs)
        have e1 : (i : Int) + 1 = ((i + 1 : Nat) : Int) := by omega
        have hdr : L.drop i = s :: L.drop (i + 1) := by
          rw [List.drop_eq_getElem_cons hi', (List.getElem?_eq_some_iff.1 hs).2]
        have k1 := rD_e2 (pos := pos) (up := false) n1 n2 hp
        have k2 := rD_e2 (pos := pos) (up := true) n1 n2 hp
        refine zRF (jn q1 (jn q3 (jn q19 (jn q20 (jn q21 (jn t0 (jn g (jn hd (jn hi' hat))))))))) ?_
        refine s_call (rround_spec s.1 s.2 pos 0 false (c3 + 1) n1 n2 hp (.inl ⟨rfl, rfl⟩)) (wSF (jn q1 (jn q3 (jn q19 (jn q20 (jn q21 t0)))))) ?_
        rintro v c4 hc4 ⟨t4, rfl⟩
        refine zRF (jn q1 (jn q3 (jn q19 (jn q20 (jn q21 t0))))) ?_
        refine s_call (rcmp_spec te t4 e (rD s.2 pos false) c4 he k1) (wSF (jn q1 (jn q3 (jn q19 (jn q20 (jn q21 t0)))))) ?_
        rintro v c5 hc5 rfl
        by_cases g1 : cmpD e (rD s.2 pos false) = 0
        · refine zRF (jn q1 (jn q3 (jn q19 (jn q20 (jn q21 (jn t0 g1)))))) ?_
          (first | omega | rfl | ((repeat' apply And.intro) <;> first | rfl | omega | assumption))
        · refine zRF (jn q1 (jn q3 (jn q19 (jn q20 (jn q21 (jn t0 g1)))))) ?_
          refine s_call (rround_spec s.1 s.2 pos 1 true c5 n1 n2 hp (.inr ⟨rfl, rfl⟩)) (wSF (jn q1 (jn q3 (jn q19 (jn q20 (jn q21 t0)))))) ?_
          rintro v c6 hc6 ⟨t6, rfl⟩
          refine zRF (jn q1 (jn q3 (jn q19 (jn q20 (jn q21 t0))))) ?_
          refine s_call (rcmp_spec te t6 e (rD s.2 pos true) c6 he k2) (wSF (jn q1 (jn q3 (jn q19 (jn q20 (jn q21 t0)))))) ?_
          rintro v c7 hc7 rfl
          by_cases g2 : cmpD e (rD s.2 pos true) = 0
          · refine zRF (jn q1 (jn q3 (jn q19 (jn q20 (jn q21 (jn t0 g2)))))) ?_
            (first | omega | rfl | ((repeat' apply And.intro) <;> first | rfl | omega | assumption))
          · have hnext : ∃ p ∈ L.drop (i + 1), ∃ up, e = rD p.2 pos up := by
              rw [hdr] at hp0
              rcases List.mem_cons.1 hp0 with rfl | h
              · cases up0
                · exact absurd (by rw [← he0, cmpD_self]) g1
                · exact absurd (by rw [← he0, cmpD_self]) g2
              · exact ⟨p0, h, up0, he0⟩
            refine zRF (jn q1 (jn q3 (jn q19 (jn q20 (jn q21 (jn t0 (jn g2 e1))))))) ?_
            refine ⟨L.length - (i + 1), by omega, i + 1, rfl, by omega, hnext, ?_⟩
            (repeat' apply And.intro) <;> first | rfl | omega | assumption
      · have hi' : i = L.length := by omega
        subst hi'
        rw [List.drop_length] at hp0
        cases hp0
    intro S h
    cases h
  · have e0 : ¬ sgW e.neg e.m = 0 := by unfold sgW; rw [if_neg hz]; split <;> decide
    have g0 : ¬ e.e < pos := by have := h1.resolve_left hz; omega
    refine zRF (jn e0 (jn g0 hd)) ?_
    refine v_loopR (fun S => False) ?_ ?_
    · refine vwp_loop (fun k S => ∃ i, k = L.length - i ∧ i ≤ L.length ∧ (∃ p ∈ L.drop i, ∃ up, e = rD p.2 pos up) ∧ S.ρ 1 = iv pos ∧ S.ρ 3 = .ptr c 0 ∧ S.ρ 19 = .sl t 3 (cellsF L) ∧ S.ρ 20 = iv L.length ∧ S.ρ 21 = iv i ∧ S.σ c = some ⟨[bv e.neg, nats te (digs 4294967296 e.m), iv e.e], true⟩ ∧ c1 ≤ S.c) L.length ?_ ?_
      · refine ⟨0, by omega, by omega, h2, ?_⟩
        refine zS ?_
        (repeat' apply And.intro) <;> first | rfl | omega | assumption
      rintro k ⟨ρ', σ', c3⟩ ⟨i, hk, hi, ⟨p0, hp0, up0, he0⟩, q1, q3, q19, q20, q21, t0, hc3⟩
      dsimp only at q1 q3 q19 q20 q21 t0 hc3
      by_cases g : (i : Int) < L.length
      · have hi' : i < L.length := by omega
        obtain ⟨s, hs⟩ : ∃ s, L[i]? = some s := ⟨_, List.getElem?_eq_getElem hi'⟩
        have hat := cellsF_at L i s hs
        obtain ⟨n1, n2⟩ := hL s (List.mem_of_getElem? hs)
        have e1 : (i : Int) + 1 = ((i + 1 : Nat) : Int) := by omega
        have hdr : L.drop i = s :: L.drop (i + 1) := by
          rw [List.drop_eq_getElem_cons hi', (List.getElem?_eq_some_iff.1 hs).2]
        have k1 := rD_e2 (pos := pos) (up := false) n1 n2 hp
        have k2 := rD_e2 (pos := pos) (up := true) n1 n2 hp
        refine zRF (jn q1 (jn q3 (jn q19 (jn q20 (jn q21 (jn t0 (jn g (jn hd (jn hi' hat))))))))) ?_
        refine s_call (rround_spec s.1 s.2 pos 0 false (c3 + 1) n1 n2 hp (.inl ⟨rfl, rfl⟩)) (wSF (jn q1 (jn q3 (jn q19 (jn q20 (jn q21 t0)))))) ?_
        rintro v c4 hc4 ⟨t4, rfl⟩
        refine zRF (jn q1 (jn q3 (jn q19 (jn q20 (jn q21 t0))))) ?_
        refine s_call (rcmp_spec te t4 e (rD s.2 pos false) c4 he k1) (wSF (jn q1 (jn q3 (jn q19 (jn q20 (jn q21 t0)))))) ?_
        rintro v c5 hc5 rfl
        by_cases g1 : cmpD e (rD s.2 pos false) = 0
        · refine zRF (jn q1 (jn q3 (jn q19 (jn q20 (jn q21 (jn t0 g1)))))) ?_
          (first | omega | rfl | ((repeat' apply And.intro) <;> first | rfl | omega | assumption))
        · refine zRF (jn q1 (jn q3 (jn q19 (jn q20 (jn q21 (jn t0 g1)))))) ?_
          refine s_call (rround_spec s.1 s.2 pos 1 true c5 n1 n2 hp (.inr ⟨rfl, rfl⟩)) (wSF (jn q1 (jn q3 (jn q19 (jn q20 (jn q21 t0)))))) ?_
          rintro v c6 hc6 ⟨t6, rfl⟩
          refine zRF (jn q1 (jn q3 (jn q19 (jn q20 (jn q21 t0))))) ?_
          refine s_call (rcmp_spec te t6 e (rD s.2 pos true) c6 he k2) (wSF (jn q1 (jn q3 (jn q19 (jn q20 (jn q21 t0)))))) ?_
          rintro v c7 hc7 rfl
          by_cases g2 : cmpD e (rD s.2 pos true) = 0
          · refine zRF (jn q1 (jn q3 (jn q19 (jn q20 (jn q21 (jn t0 g2)))))) ?_
            (first | omega | rfl | ((repeat' apply And.intro) <;> first | rfl | omega | assumption))
          · have hnext : ∃ p ∈ L.drop (i + 1), ∃ up, e = rD p.2 pos up := by
              rw [hdr] at hp0
              rcases List.mem_cons.1 hp0 with rfl | h
              · cases up0
                · exact absurd (by rw [← he0, cmpD_self]) g1
                · exact absurd (by rw [← he0, cmpD_self]) g2
              · exact ⟨p0, h, up0, he0⟩
            refine zRF (jn q1 (jn q3 (jn q19 (jn q20 (jn q21 (jn t0 (jn g2 e1))))))) ?_
            refine ⟨L.length - (i + 1), by omega, i + 1, rfl, by omega, hnext, ?_⟩
            (repeat' apply And.intro) <;> first | rfl | omega | assumption
      · have hi' : i = L.length := by omega
        subst hi'
        rw [List.drop_length] at hp0
        cases hp0
    intro S h
    cases h
end Go.Proofs.YtacodmnlnlbahaaGreatDoor
set_option linter.unusedVariables false
set_option linter.unusedSimpArgs false
namespace Go.VM

section
variable {α : Type}
def fN (n : Nat) (k : Nat → α) : α := match n with | 0 => k 0 | m + 1 => k (Nat.succ m)
theorem fN_eq (n : Nat) (k : Nat → α) : fN n k = k n := by cases n <;> rfl
def fI (n : Int) (k : Int → α) : α := match n with | .ofNat m => fN m fun m => k (.ofNat m) | .negSucc m => fN m fun m => k (.negSucc m)
theorem fI_eq (n : Int) (k : Int → α) : fI n k = k n := by cases n <;> simp only [fI, fN_eq]
def fU (v : Value) (k : Value → α) : α := match v with
  | .int t n => fI n fun n => k (.int t n)
  | .bool true => k (.bool true)
  | .bool false => k (.bool false)
  | v => k v
theorem fU_eq (v : Value) (k : Value → α) : fU v k = k v := by
  unfold fU
  split <;> simp only [fI_eq]
def fL {β : Type} (l : List β) (k : List β → α) : α := match l with | [] => k [] | x :: xs => fL xs fun xs => k (x :: xs)
theorem fL_eq {β : Type} (l : List β) (k : List β → α) : fL l k = k l := by
  induction l generalizing k with
  | nil => rfl
  | cons x xs ih => rw [fL, ih]
def fO (o : Option Nat) (k : Option Nat → α) : α := match o with | none => k none | some n => fN n fun n => k (some n)
theorem fO_eq (o : Option Nat) (k : Option Nat → α) : fO o k = k o := by cases o <;> simp only [fO, fN_eq]
def fT (t : Tok) (k : Tok → α) : α := match t with | .nil => k .nil | .unk => k .unk | .id n => fN n fun n => k (.id n) | .sub n => fN n fun n => k (.sub n)
theorem fT_eq (t : Tok) (k : Tok → α) : fT t k = k t := by cases t <;> simp only [fT, fN_eq]
def fV (v : V) (k : V → α) : α := match v with
  | .any => k .any
  | .lit v => fU v fun v => k (.lit v)
  | .sl t sz l => fT t fun t => fN sz fun sz => fL l fun l => k (.sl t sz l)
  | .buf t off n cap sz => fN t fun t => fN off fun off => fN n fun n => fO cap fun cap => fN sz fun sz => k (.buf t off n cap sz)
  | .ptr t off => fN t fun t => fN off fun off => k (.ptr t off)
  | .gptr t off => fN t fun t => fN off fun off => k (.gptr t off)
  | .eptr l i => fL l fun l => fN i fun i => k (.eptr l i)
  | .agg l => fL l fun l => k (.agg l)
  | .tup l => fL l fun l => k (.tup l)
theorem fV_eq (v : V) (k : V → α) : fV v k = k v := by cases v <;> simp only [fV, fU_eq, fT_eq, fN_eq, fL_eq, fO_eq]
end

def nth (l : List V) (i : Nat) : V := match l, i with | [], _ => .any | x :: _, 0 => x | _ :: xs, i + 1 => nth xs i
theorem nth_getD (l : List V) (i : Nat) : nth l i = l.getD i .any := by
  induction l generalizing i with
  | nil => rfl
  | cons x xs ih => cases i with
    | zero => rfl
    | succ i => rw [nth, ih]; rfl
theorem start_nth (l : List V) : start l = nth l := by funext i; rw [nth_getD]; rfl
theorem nth_append_any (l : List V) (n : Nat) : nth (l ++ List.replicate n .any) = nth l := by
  funext i
  rw [nth_getD, nth_getD, List.getD_eq_getElem?_getD, List.getD_eq_getElem?_getD, List.getElem?_append]
  split
  · rfl
  · rename_i h
    rw [List.getElem?_eq_none (Nat.le_of_not_lt h), List.getElem?_replicate]
    split <;> rfl
def setR {β : Type} (l : List V) (i : Nat) (v : V) (k : List V → Option β) : Option β := match l, i with
  | [], _ => none
  | _ :: xs, 0 => k (v :: xs)
  | x :: xs, i + 1 => setR xs i v fun xs => k (x :: xs)
theorem setR_some {β : Type} {l : List V} {i : Nat} {v : V} {k : List V → Option β} {b : β} (h : setR l i v k = some b) : ∃ l', k l' = some b ∧ nth l' = upd (nth l) i v := by
  induction l generalizing i k with
  | nil => cases h
  | cons x xs ih =>
    cases i with
    | zero =>
      refine ⟨_, h, ?_⟩
      funext j
      cases j with
      | zero => rfl
      | succ j => rfl
    | succ i =>
      obtain ⟨l', h1, h2⟩ := ih h
      refine ⟨x :: l', h1, ?_⟩
      funext j
      cases j with
      | zero => rfl
      | succ j =>
        rw [nth, h2]
        simp [upd, nth]

abbrev BL := List (Nat × Blk)
def lookB (l : BL) (t : Nat) : Option Blk := match l with | [] => none | p :: r => if p.1 = t then some p.2 else lookB r t
def putB (l : BL) (t : Nat) (b : Blk) : BL := match l with | [] => [(t, b)] | p :: r => if p.1 = t then (t, b) :: r else p :: putB r t b
theorem lookB_nil : lookB [] = noBlk := rfl
theorem lookB_put (l : BL) (t : Nat) (b : Blk) : lookB (putB l t b) = supd (lookB l) t (some b) := by
  funext u
  induction l with
  | nil => simp only [putB, lookB, supd]; by_cases e : t = u <;> simp [e, eq_comm]
  | cons p r ih =>
    obtain ⟨t', b'⟩ := p
    simp only [putB]
    by_cases e : t' = t
    · subst e
      simp only [if_true, lookB, supd]
      by_cases e : t' = u
      · simp [e]
      · simp [e, Ne.symm e]
    · simp only [e, if_false, lookB, ih, supd]
      by_cases e1 : t' = u
      · subst e1; simp [e]
      · simp [e1]
def keepB (p : Nat → Bool) (l : BL) : BL := match l with | [] => [] | q :: r => if p q.1 = true then q :: keepB p r else keepB p r
theorem lookB_keep (p : Nat → Bool) (l : BL) (t : Nat) : lookB (keepB p l) t = if p t = true then lookB l t else none := by
  induction l with
  | nil => simp [keepB, lookB]
  | cons q r ih =>
    simp only [keepB]
    by_cases h : p q.1 = true
    · simp only [h, if_true, lookB, ih]
      by_cases e : q.1 = t
      · subst e; simp [h]
      · simp [e]
    · simp only [h, lookB]
      by_cases e : q.1 = t
      · subst e; simp [ih, h]
      · simp [e, ih]
theorem lookB_append (l r : BL) (t : Nat) : lookB (l ++ r) t = match lookB l t with | some b => some b | none => lookB r t := by
  induction l with
  | nil => rfl
  | cons q l ih =>
    simp only [List.cons_append, lookB]
    by_cases e : q.1 = t
    · simp [e]
    · simp [e, ih]

structure XS where
  r : List V
  s : BL
  c : Nat
def XS.vs (S : XS) : VS := ⟨nth S.r, lookB S.s, S.c⟩

structure XEff where
  v : V
  s : BL
  c : Nat
  k : KT

def flatB (s : BL) : Bool := match s with | [] => true | p :: r => if p.2.cells.all V.flat = true then flatB r else false
theorem flat_kill {x : V} (t : Nat) (h : x.flat = true) : killV t x = x := by
  cases x <;> first | rfl | cases h
theorem flat_killL {l : List V} (t : Nat) (h : l.all V.flat = true) : l.map (killV t) = l := by
  refine (List.map_congr_left fun x hx => ?_).trans (List.map_id _)
  exact flat_kill t (List.all_eq_true.1 h x hx)
theorem flat_solid {l : List V} (h : l.all V.flat = true) : l.map V.solid = l := by
  refine (List.map_congr_left fun x hx => ?_).trans (List.map_id _)
  unfold V.solid
  rw [if_pos (List.all_eq_true.1 h x hx)]
  rfl
theorem flatB_look {s : BL} (h : flatB s = true) {t : Nat} {b : Blk} (hb : lookB s t = some b) : b.cells.all V.flat = true := by
  induction s with
  | nil => cases hb
  | cons p r ih =>
    simp only [flatB] at h
    split at h
    · rename_i hp
      simp only [lookB] at hb
      split at hb
      · cases hb; exact hp
      · exact ih h hb
    · cases h
theorem flatB_kill {s : BL} (h : flatB s = true) (t : Nat) : killσ t (lookB s) = lookB s := by
  funext u
  unfold killσ
  cases hb : lookB s u with
  | none => rfl
  | some b => simp only [Option.map]; rw [flat_killL t (flatB_look h hb)]
theorem all_take {l : List V} (n : Nat) (h : l.all V.flat = true) : (l.take n).all V.flat = true := List.all_eq_true.2 fun x hx => List.all_eq_true.1 h x (List.mem_of_mem_take hx)
theorem all_app {l r : List V} (h : l.all V.flat = true) (h2 : r.all V.flat = true) : (l ++ r).all V.flat = true := by rw [List.all_append, h, h2]; rfl
def xstore (s : BL) (n : Nat) (x v : V) : Option BL :=
  match x, v.cellsB with
  | .ptr t off, some cs => match lookB s t with
    | some b => if b.live = true ∧ cs.length = n ∧ off + n ≤ b.cells.length then fL (putCells b.cells off cs) fun cs => some (putB s t ⟨cs, true⟩) else none
    | none => none
  | _, _ => none
def xapp (c0 : Nat) (s : BL) (c sz bytes : Nat) (x y : V) : Option XEff :=
  match x with
  | .sl .nil sz0 [] => match vcells sz (lookB s) y with
    | some [] => some ⟨.sl .nil sz0 [], s, c, none⟩
    | some ys => let k := ys.length / sz; if ys.length = k * sz ∧ 0 < k ∧ k * bytes ≤ 281474976710656 ∧ k ≤ 4611686018427387904 then fL ys fun ys => some ⟨.buf c 0 k none sz, putB s c ⟨ys, true⟩, c + 1, none⟩ else none
    | none => none
  | .buf t 0 n cp sz' => match lookB s t, vcells sz (lookB s) y with
    | some b, some ys => let k := ys.length / sz; if sz' = sz ∧ b.live = true ∧ ys.length = k * sz then
        (match cp with
        | some cap => if n + k ≤ cap ∧ (n + k) * sz ≤ b.cells.length then fL (putCells b.cells (n * sz) ys) fun cs => some ⟨.buf t 0 (n + k) (some cap) sz, putB s t ⟨cs, true⟩, c, none⟩
          else if c0 ≤ t ∧ n * sz ≤ b.cells.length ∧ (2 * (n + k)) * bytes ≤ 281474976710656 ∧ n + k ≤ 4611686018427387904 ∧ flatB s = true ∧ ys.all V.flat = true then fL (b.cells.take (n * sz) ++ ys) fun cs => some ⟨.buf t 0 (n + k) none sz, putB s t ⟨cs, true⟩, c, some (.inl t)⟩ else none
        | none => if c0 ≤ t ∧ n * sz ≤ b.cells.length ∧ (2 * (n + k)) * bytes ≤ 281474976710656 ∧ n + k ≤ 4611686018427387904 ∧ flatB s = true ∧ ys.all V.flat = true then fL (b.cells.take (n * sz) ++ ys) fun cs => some ⟨.buf t 0 (n + k) none sz, putB s t ⟨cs, true⟩, c, some (.inl t)⟩ else none)
      else none
    | _, _ => none
  | _ => none
def xcpy (s : BL) (c sz : Nat) (x y : V) : Option XEff :=
  match x with
  | .buf t off n cap sz' => match lookB s t, vcells sz (lookB s) y with
    | some b, some ys => let m := ys.length / sz; if sz' = sz ∧ b.live = true ∧ ys.length = m * sz ∧ off + n * sz ≤ b.cells.length then
        fL (putCells b.cells off (ys.take (min m n * sz))) fun cs => some ⟨.int .i64 ((min m n : Nat) : Int), putB s t ⟨cs, true⟩, c, none⟩ else none
    | _, _ => none
  | _ => none
def xmk (s : BL) (c : Nat) (z : List Value) (bytes : Nat) (l q : V) : Option XEff :=
  match l, q with
  | .lit (.int _ (.ofNat n)), .lit (.int _ (.ofNat cap)) => if n ≤ cap ∧ cap * bytes ≤ 281474976710656 ∧ cap ≤ 9223372036854775807 then fL (rept z cap) fun cs => some ⟨.buf c 0 n (some cap) z.length, putB s c ⟨cs, true⟩, c + 1, none⟩ else none
  | _, _ => none

def offB : V → V → Bool
  | .ptr t _, .ptr u _ => !(Nat.beq t u)
  | .ptr _ _, .eptr _ _ => true
  | _, _ => false
theorem offB_off {p q : V} (h : offB p q = true) : V.offp p q := by
  unfold offB at h
  split at h
  · exact fun e => by subst e; simp at h
  · trivial
  · cases h
def xeff (c0 : Nat) (e : X → V) (s : BL) (c : Nat) (o : VOp) : Option XEff :=
  match o with
  | .load ag x => (vload (lookB s) ag (e x)).map fun v => ⟨v, s, c, none⟩
  | .store n x y => (xstore s n (e x) (e y)).map fun s => ⟨.any, s, c, none⟩
  | .storeA n x y ys => if (ys.all fun i => offB (e x) (e (.t i))) = true then (xstore s n (e x) (e y)).map fun s => ⟨.any, s, c, none⟩ else none
  | .boxA n x => match (e x).cells, lookB s c with | some cs, none => if cs.length = n then fL cs fun cs => some ⟨.ptr c 0, putB s c ⟨cs, true⟩, c + 1, none⟩ else none | _, _ => none
  | .mk z bytes l q => xmk s c z bytes (e l) (e q)
  | .box x => match (e x).cells with | some cs => fL cs fun cs => some ⟨.ptr c 0, putB s c ⟨cs, true⟩, c + 1, none⟩ | none => none
  | .alloc z => fL (vlits z) fun cs => some ⟨.ptr c 0, putB s c ⟨cs, true⟩, c + 1, none⟩
  | .bsl tok sz len z ps => match vfill (rept z len) (partsOf e ps) with
    | some cs => if tok = true then some ⟨.sl (.id c) sz cs, s, c + 1, none⟩ else some ⟨.sl .unk sz cs, s, c, none⟩
    | none => none
  | .app sz bytes z x y => xapp c0 s c sz bytes (e x) (e y)
  | .cpy sz x y => xcpy s c sz (e x) (e y)
  | .call _ _ => none
  | .callv _ _ => none
  | .bad => none
  | o => (vpure e o).map fun v => ⟨v, s, c, none⟩

theorem xstore_sound {s s' : BL} {n : Nat} {x y : V} (h1 : xstore s n x y = some s') : vstore (lookB s) n x y = some (lookB s') := by
  unfold xstore at h1
  unfold vstore
  split at h1
  · split at h1
    · split at h1
      · rename_i hb hc
        rw [fL_eq] at h1
        cases h1
        simp only [*, lookB_put]
        rw [if_pos (by first | exact hc | simp [hc])]
      · cases h1
    · cases h1
  · cases h1
theorem xeff_sound {P : Program} {dr : Bool} {c0 : Nat} {e : X → V} {s : BL} {c : Nat} {o : VOp} {r : XEff} (h : xeff c0 e s c o = some r) : VEff P dr c0 e (lookB s) c o r.v (lookB r.s) r.c r.k := by
  unfold xeff at h
  split at h
  · obtain ⟨v, h1, rfl⟩ := Option.map_eq_some_iff.1 h
    exact .load h1
  · obtain ⟨s', h1, rfl⟩ := Option.map_eq_some_iff.1 h
    exact .store (xstore_sound h1)
  · split at h
    · rename_i hy
      obtain ⟨s', h1, rfl⟩ := Option.map_eq_some_iff.1 h
      exact .storeA (fun i hi => offB_off (List.all_eq_true.1 hy i hi)) (xstore_sound h1)
    · cases h
  · split at h
    · rename_i hc hf
      split at h
      · rename_i hn
        rw [fL_eq] at h
        cases h
        rw [lookB_put]
        exact .boxA hf hc hn
      · cases h
    · cases h
  · unfold xmk at h
    split at h
    · rename_i hl hq
      split at h
      · rename_i hc
        rw [fL_eq] at h
        cases h
        rw [lookB_put]
        exact .mk hl hq hc.1 hc.2.1 hc.2.2
      · cases h
    · cases h
  · split at h
    · rename_i hc
      rw [fL_eq] at h
      cases h
      rw [lookB_put]
      exact .box hc
    · cases h
  · rw [fL_eq] at h
    cases h
    rw [lookB_put]
    exact .alloc
  · split at h
    · rename_i hc
      split at h
      · rename_i ht; subst ht; cases h; exact .bsl hc
      · rename_i ht
        simp at ht
        subst ht; cases h; exact .bsl0 hc
    · cases h
  · rename_i sz bytes z x y
    unfold xapp at h
    split at h
    · rename_i hx
      split at h
      · rename_i hy
        cases h
        exact .appNil0 hx hy
      · rename_i ys _ hy
        dsimp only at h
        split at h
        · rename_i hc
          rw [fL_eq] at h
          cases h
          rw [lookB_put]
          exact .appNil hx hy hc.1 hc.2.1 hc.2.2.1 hc.2.2.2
        · cases h
      · cases h
    · rename_i t n cp sz' hx
      split at h
      · rename_i b ys hb hy
        dsimp only at h
        split at h
        · rename_i hc
          obtain ⟨rfl, hl, hk⟩ := hc
          have hb' : lookB s t = some ⟨b.cells, true⟩ := by rw [hb, ← hl]
          split at h
          · rename_i cap
            split at h
            · rename_i hf
              rw [fL_eq] at h
              cases h
              rw [lookB_put]
              exact .appFit hx hb' hy hk hf.1 hf.2
            · split at h
              · rename_i hf
                rw [fL_eq] at h
                cases h
                rw [lookB_put]
                exact (by have q := VEff.appMove (P := P) (dr := dr) (c0 := c0) (e := e) (σ := lookB s) (c := c) (z := z) hx hb' hf.1 hy hk hf.2.1 hf.2.2.1 hf.2.2.2.1; rw [flatB_kill hf.2.2.2.2.1, flat_killL t (all_app (all_take _ (flatB_look hf.2.2.2.2.1 hb')) hf.2.2.2.2.2)] at q; exact q)
              · cases h
          · split at h
            · rename_i hf
              rw [fL_eq] at h
              cases h
              rw [lookB_put]
              exact (by have q := VEff.appMove (P := P) (dr := dr) (c0 := c0) (e := e) (σ := lookB s) (c := c) (z := z) hx hb' hf.1 hy hk hf.2.1 hf.2.2.1 hf.2.2.2.1; rw [flatB_kill hf.2.2.2.2.1, flat_killL t (all_app (all_take _ (flatB_look hf.2.2.2.2.1 hb')) hf.2.2.2.2.2)] at q; exact q)
            · cases h
        · cases h
      · cases h
    · cases h
  · unfold xcpy at h
    split at h
    · rename_i t off n cap sz' hx
      split at h
      · rename_i b ys hb hy
        dsimp only at h
        split at h
        · rename_i hc
          obtain ⟨rfl, hl, hk, hf⟩ := hc
          have hb' : lookB s t = some ⟨b.cells, true⟩ := by rw [hb, ← hl]
          rw [fL_eq] at h
          cases h
          rw [lookB_put]
          exact .cpy hx hb' hy hk hf
        · cases h
      · cases h
    · cases h
  · cases h
  · cases h
  · cases h
  · obtain ⟨v, h1, rfl⟩ := Option.map_eq_some_iff.1 h
    exact .pure h1

def frz1 {β : Type} (c0 : Nat) (i : Nat) (S : XS) (k : XS → Option β) : Option β :=
  match nth S.r i with
  | .buf t off n cap sz => if c0 ≤ t then (match lookB S.s t with
      | some b => if off + n * sz ≤ b.cells.length ∧ ((b.cells.drop off).take (n * sz)).all V.flat = true then fL ((b.cells.drop off).take (n * sz)) fun l => setR S.r i (.sl (Tok.from off t) sz l) fun r => k ⟨r, putB S.s t ⟨b.cells, false⟩, S.c⟩ else none
      | none => none) else k S
  | _ => k S
theorem frz1_some {β : Type} {c0 i : Nat} {S : XS} {k : XS → Option β} {b : β} (h : frz1 c0 i S k = some b) : ∃ S1, k S1 = some b ∧ (S1 = S ∨ ∃ t off n sz cap cells lv, S.vs.ρ i = .buf t off n cap sz ∧ S.vs.σ t = some ⟨cells, lv⟩ ∧ c0 ≤ t ∧ off + n * sz ≤ cells.length ∧ S1.vs = frozen S.vs i t off sz cells (((cells.drop off).take (n * sz)).map V.solid)) := by
  unfold frz1 at h
  split at h
  · rename_i t off n cap sz hi
    split at h
    · rename_i h0
      split at h
      · rename_i bk hb
        split at h
        · rename_i hl
          rw [fL_eq] at h
          obtain ⟨r, h1, h2⟩ := setR_some h
          refine ⟨_, h1, .inr ⟨t, off, n, sz, cap, bk.cells, bk.live, hi, hb, h0, hl.1, ?_⟩⟩
          rw [flat_solid hl.2]
          simp only [XS.vs, frozen, h2, lookB_put]
        · cases h
      · cases h
    · exact ⟨S, h, .inl rfl⟩
  · exact ⟨S, h, .inl rfl⟩
def frzL {β : Type} (c0 : Nat) (l : List Nat) (S : XS) (k : XS → Option β) : Option β := match l with | [] => k S | i :: r => frz1 c0 i S fun S => frzL c0 r S k

theorem frzL_exec {β : Type} {P : Program} {c0 : Nat} {l : List Nat} {S : XS} {k : XS → Option β} {b : β} (h : frzL c0 l S k = some b) : ∃ S1 : XS, k S1 = some b ∧ ∀ vc e S', VExec P c0 vc S1.vs e S' → VExec P c0 vc S.vs e S' := by
  induction l generalizing S with
  | nil => exact ⟨S, h, fun _ _ _ h => h⟩
  | cons i r ih =>
    obtain ⟨S1, h1, h2⟩ := frz1_some h
    obtain ⟨S2, h3, h4⟩ := ih h1
    refine ⟨S2, h3, fun vc e S' hs => ?_⟩
    have h5 := h4 vc e S' hs
    rcases h2 with rfl | ⟨t, off, n, sz, cap, cells, lv, g1, g2, g3, g4, g5⟩
    · exact h5
    · exact .freeze g1 g2 g3 g4 (by rw [← g5]; exact h5)

def lentB (s : BL) (l : List V) : BL := match l with
  | [] => []
  | .buf t _ _ _ _ :: r => (match lookB s t with | some b => if b.live = true then putB (lentB s r) t b else lentB s r | none => lentB s r)
  | .ptr t _ :: r => (match lookB s t with | some b => if b.live = true then putB (lentB s r) t b else lentB s r | none => lentB s r)
  | _ :: r => lentB s r
theorem lentB_ok (s : BL) (l : List V) (t : Nat) (b : Blk) (h : lookB (lentB s l) t = some b) : lookB s t = some b ∧ b.live = true := by
  have key : ∀ (t : Nat) (b : Blk) (r : List V) (t' : Nat), (∀ t b, lookB (lentB s r) t = some b → lookB s t = some b ∧ b.live = true) →
      lookB (match lookB s t' with | some b => if b.live = true then putB (lentB s r) t' b else lentB s r | none => lentB s r) t = some b → lookB s t = some b ∧ b.live = true := by
    intro t b r t' ih h
    split at h
    · rename_i b' hb
      split at h
      · rename_i hl
        rw [lookB_put] at h
        simp only [supd] at h
        split at h
        · rename_i e; subst e; cases h; exact ⟨hb, hl⟩
        · exact ih _ _ h
      · exact ih _ _ h
    · exact ih _ _ h
  revert t b
  induction l with
  | nil => intro t b h; cases h
  | cons x r ih =>
    intro t b h
    cases x with
    | buf t' off n cap sz => exact key t b r t' (fun t b h => ih t b h) h
    | ptr t' off => exact key t b r t' (fun t b h => ih t b h) h
    | any => exact ih t b h
    | lit _ => exact ih t b h
    | sl _ _ _ => exact ih t b h
    | eptr _ _ => exact ih t b h
    | gptr _ _ => exact ih t b h
    | agg _ => exact ih t b h
    | tup _ => exact ih t b h

structure XRes where
  v : V
  s : BL
  c : Nat
abbrev XCall := FuncId → List V → BL → Nat → Option XRes
def CallOk (P : Program) (call : XCall) : Prop := ∀ f xs sl c r, call f xs sl c = some r → VCalls P f c (lookB sl) xs r.v (lookB r.s) r.c ∧ ∀ t, lookB sl t = none → lookB r.s t = none

def xput {β : Type} (d : Option Nat) (v : V) (r : List V) (k : List V → Option β) : Option β := match d with | none => k r | some i => fV v fun v => setR r i v k
theorem xput_some {β : Type} {d : Option Nat} {v : V} {r : List V} {k : List V → Option β} {b : β} (h : xput d v r k = some b) : ∃ r', k r' = some b ∧ nth r' = updo (nth r) d v := by
  cases d with
  | none => exact ⟨r, h, rfl⟩
  | some i =>
    simp only [xput, fV_eq] at h
    exact setR_some h

def killR (t : Nat) (l : List V) : List V := match l with | [] => [] | x :: xs => killV t x :: killR t xs
theorem nth_kill (t : Nat) (l : List V) : nth (killR t l) = kill (some (.inl t)) (nth l) := by
  funext i
  induction l generalizing i with
  | nil => rfl
  | cons x xs ih =>
    cases i with
    | zero => rfl
    | succ i => exact ih i

def xcallop {β : Type} (call : XCall) (dr : Bool) (lend : FuncId → Bool) (c0 : Nat) (f : FuncId) (xs : List X) (d : Option Nat) (S : XS) (k : XS → Option β) : Option β :=
  (if dr = true ∨ lend f = true then fun k => k S else frzL c0 (xs.flatMap X.reads) S) fun S =>
    let ys := xs.map (X.ev (nth S.r))
    let sl := if dr = true then [] else lentB S.s ys
    match sl with
    | [] => (match call f ys [] S.c with
      | some ⟨v, _, c'⟩ => fN c' fun c' => xput d v S.r fun r => k ⟨r, S.s, c'⟩
      | none => none)
    | sl => (match call f ys sl S.c with
      | some ⟨v, s', c'⟩ => fN c' fun c' => fL (keepB (fun t => !((lookB sl t).isSome || decide (S.c ≤ t))) S.s ++ s') fun s => xput d v S.r fun r => k ⟨r, s, c'⟩
      | none => none)

def asFn (v : V) : Option FuncId := match v with | .lit (.func (.func f) a b) => if a.size = 0 ∧ b.size = 0 then some f else none | _ => none
theorem asFn_some {v : V} {f : FuncId} (h : asFn v = some f) : v = .lit (.func (.func f) #[] #[]) := by
  unfold asFn at h
  split at h
  · split at h
    · rename_i f' a b g
      cases h
      rw [Array.eq_empty_of_size_eq_zero g.1, Array.eq_empty_of_size_eq_zero g.2]
    · cases h
  · cases h
def xstep {β : Type} (call : XCall) (dr : Bool) (lend : FuncId → Bool) (c0 : Nat) (op : VOp) (d : Option Nat) (S : XS) (k : XS → Option β) : Option β :=
  match op with
  | .call f xs => xcallop call dr lend c0 f xs d S k
  | .callv x xs => (if dr = true then fun k => k S else frzL c0 (xs.flatMap X.reads) S) fun S =>
      (match asFn (x.ev (nth S.r)) with
      | some f => (match call f (xs.map (X.ev (nth S.r))) [] S.c with
        | some ⟨v, _, c'⟩ => fN c' fun c' => xput d v S.r fun r => k ⟨r, S.s, c'⟩
        | none => none)
      | none => none)
  | op => (if dr = true then fun k => k S else (match op with | .build .. | .bsl .. | .store .. | .box .. => frzL c0 op.reads S | _ => fun k => k S)) fun S =>
    (match xeff c0 (X.ev (nth S.r)) S.s S.c op with
    | some ⟨v, s, c, none⟩ => xput d v S.r fun r => k ⟨r, s, c⟩
    | some ⟨v, s, c, some (.inl t)⟩ => fL (killR t S.r) fun r => xput d v r fun r => k ⟨r, s, c⟩
    | _ => none)

def xops (call : XCall) (dr : Bool) (lend : FuncId → Bool) (c0 : Nat) (l : List VO) (S : XS) : Option XS :=
  match l with
  | [] => some S
  | ⟨d, op, none⟩ :: r => xstep call dr lend c0 op d S fun S => xops call dr lend c0 r S
  | ⟨d, op, some (t, b)⟩ :: r => match nth S.r t with
    | .lit (.bool b') => if b' = b then xstep call dr lend c0 op d S fun S => xops call dr lend c0 r S else xput d (.tup []) S.r fun rr => xops call dr lend c0 r ⟨rr, S.s, S.c⟩
    | .tup [] => xput d (.tup []) S.r fun rr => xops call dr lend c0 r ⟨rr, S.s, S.c⟩
    | _ => none

structure XOut where
  e : VEx
  S : XS
def frzOf (l : List VO) : List Nat := l.flatMap fun o => match o.op with | .call .. | .callv .. | .build .. | .bsl .. | .store .. | .box .. => o.op.reads | _ => []
def xrun (call : XCall) (lend : FuncId → Bool) (rsl : List Nat) (c0 : Nat) (n : Nat) (vc : VC) (S : XS) : Option XOut :=
  match n with
  | 0 => none
  | n + 1 => match vc with
    | .skip => some ⟨.normal, S⟩
    | .region dr ops => (if dr = true then frzL c0 (frzOf ops) S else fun k => k S) fun S =>
      (match xops call dr lend c0 ops S with | some S => some ⟨.normal, S⟩ | none => none)
    | .seq a b => match xrun call lend rsl c0 n a S with
      | some ⟨.normal, S⟩ => xrun call lend rsl c0 n b S
      | r => r
    | .cond x a b => match x.ev (nth S.r) with
      | .lit (.bool true) => xrun call lend rsl c0 n a S
      | .lit (.bool false) => xrun call lend rsl c0 n b S
      | _ => none
    | .block id b => match xrun call lend rsl c0 n b S with
      | some ⟨.exit j, S⟩ => if j = id then some ⟨.normal, S⟩ else some ⟨.exit j, S⟩
      | r => r
    | .loop b => match xrun call lend rsl c0 n b S with
      | some ⟨.normal, S⟩ => xrun call lend rsl c0 n (.loop b) S
      | r => r
    | .exit id => some ⟨.exit id, S⟩
    | .ret => frzL c0 rsl S fun S => some ⟨.ret, S⟩
    | .bad => none

structure XFun where
  f : FuncId
  vc : VC
  rs : List VRes
  n : Nat
def findF (l : List XFun) (f : FuncId) : Option XFun := match l with | [] => none | e :: r => if Nat.beq e.f f = true then some e else findF r f
def resSlots : List VRes → List Nat | [] => [] | .tmp t :: r => t :: resSlots r | _ :: r => resSlots r

abbrev XOrc := FuncId → List V → Option V
def OrcOk (P : Program) (orc : XOrc) : Prop := ∀ f xs v, orc f xs = some v → ∀ c, VCallP P f c xs v c
def askO (orc : XOrc) (f : FuncId) (xs : List V) (sl : BL) : Option V := match sl with | [] => orc f xs | _ => none

def xcall (orc : XOrc) (T : List XFun) (lend : FuncId → Bool) (rounds : Nat) : Nat → XCall
  | 0 => fun _ _ _ _ => none
  | n + 1 => fun f xs sl c => match findF T f with
    | none => none
    | some ⟨_, vc, rs, m⟩ => match askO orc f xs sl with
    | some v => some ⟨v, [], c⟩
    | none => if xs.length ≤ m then
      (match fL (xs ++ List.replicate (m - xs.length) .any) fun r => xrun (xcall orc T lend rounds n) lend (resSlots rs) c rounds vc ⟨r, sl, c⟩ with
      | some ⟨.exit _, _⟩ => none
      | some ⟨e, S⟩ => (match vresult S.vs rs with | some v => some ⟨v, keepB (fun t => (lookB sl t).isSome) S.s, S.c⟩ | none => none)
      | none => none) else none

def GoodF (P : Program) (e : XFun) : Prop := ∃ fn code, P.funcs[e.f]? = some fn ∧ fn.body = some code ∧ resCode P fn.ntmps code = e.vc ∧ resResults P fn.results.toList = some e.rs ∧ fn.ntmps = e.n ∧ (fn.name == "runtime.NumGoroutine") = false


def Fz (P : Program) (dr : Bool) (c0 : Nat) (S S0 : XS) : Prop := (∀ ops S', VSteps P dr c0 ops S0.vs S' → VSteps P dr c0 ops S.vs S') ∧ ∀ t v, nth S.r t = .lit v → nth S0.r t = .lit v
theorem Fz.refl {P : Program} {dr : Bool} {c0 : Nat} {S : XS} : Fz P dr c0 S S := ⟨fun _ _ h => h, fun _ _ h => h⟩
theorem frzL_fz {β : Type} {P : Program} {c0 : Nat} {l : List Nat} {S : XS} {k : XS → Option β} {b : β} (h : frzL c0 l S k = some b) : ∃ S1 : XS, k S1 = some b ∧ Fz P false c0 S S1 := by
  induction l generalizing S with
  | nil => exact ⟨S, h, Fz.refl⟩
  | cons i r ih =>
    obtain ⟨S1, h1, h2⟩ := frz1_some h
    obtain ⟨S2, h3, h4, h6⟩ := ih h1
    rcases h2 with rfl | ⟨t, off, n, sz, cap, cells, lv, g1, g2, g3, g4, g5⟩
    · exact ⟨S2, h3, h4, h6⟩
    · refine ⟨S2, h3, fun ops S' hs => .frz rfl g1 g2 g3 g4 (by rw [← g5]; exact h4 ops S' hs), fun u v hv => h6 u v ?_⟩
      have e : nth S1.r u = upd (nth S.r) i (.sl (Tok.from off t) sz (((cells.drop off).take (n * sz)).map V.solid)) u := congrFun (congrArg VS.ρ g5) u
      rw [e]
      simp only [upd]
      split
      · rename_i e; subst e
        have g1' : nth S.r u = _ := g1
        rw [hv] at g1'; cases g1'
      · exact hv
theorem fz_if {β : Type} {P : Program} {dr : Bool} {c0 : Nat} {p : Prop} [Decidable p] (hp : dr = true → p) {l : List Nat} {S : XS} {k : XS → Option β} {b : β} (h : (if p then fun k => k S else frzL c0 l S) k = some b) : ∃ S1 : XS, k S1 = some b ∧ Fz P dr c0 S S1 := by
  split at h
  · exact ⟨S, h, Fz.refl⟩
  · rename_i g
    cases dr with
    | true => exact absurd (hp rfl) g
    | false => exact frzL_fz h

theorem joinB (c : Nat) (s sl s' : BL) (h : ∀ t, lookB sl t = none → lookB s' t = none) : lookB (keepB (fun t => !((lookB sl t).isSome || decide (c ≤ t))) s ++ s') = joinσ c (lookB s) (lookB sl) (lookB s') := by
  funext t
  rw [lookB_append, lookB_keep]
  unfold joinσ
  by_cases e1 : (lookB sl t).isSome = true
  · simp [e1]
  · have e1' : lookB sl t = none := by simpa using e1
    by_cases e2 : c ≤ t
    · simp [e1, e2]
    · simp only [e1', Option.isSome_none, Bool.false_or, e2, decide_false, Bool.not_false, if_true, Bool.false_eq_true, or_self, if_false]
      rw [h t e1']
      cases lookB s t <;> rfl

theorem xcallop_sound {β : Type} {P : Program} {call : XCall} (hc : CallOk P call) {dr : Bool} {lend : FuncId → Bool} {c0 : Nat} {f : FuncId} {xs : List X} {d : Option Nat} {S : XS} {k : XS → Option β} {b : β} (h : xcallop call dr lend c0 f xs d S k = some b) :
    ∃ (S0 S1 : XS) (v : V) (σ' : Nat → Option Blk) (c' : Nat) (kt : KT), Fz P dr c0 S S0 ∧ VEff P dr c0 (X.ev S0.vs.ρ) S0.vs.σ S0.vs.c (.call f xs) v σ' c' kt ∧ S1.vs = ⟨updo (kill kt S0.vs.ρ) d v, σ', c'⟩ ∧ k S1 = some b := by
  unfold xcallop at h
  obtain ⟨S0, h, hz⟩ := fz_if (P := P) (dr := dr) (fun e => .inl e) h
  dsimp only at h
  split at h
  · split at h
    · rename_i v s' c' hcl
      rw [fN_eq] at h
      obtain ⟨r', h1, h2⟩ := xput_some h
      obtain ⟨g1, g2⟩ := hc _ _ _ _ _ hcl
      have e : lookB s' = noBlk := funext fun t => g2 t rfl
      rw [lookB_nil] at g1
      dsimp only at g1
      rw [e] at g1
      exact ⟨S0, _, v, _, c', none, hz, .callp g1, by simp only [XS.vs, h2]; rfl, h1⟩
    · cases h
  · rename_i sl hsl
    split at h
    · rename_i v s' c' hcl
      rw [fN_eq, fL_eq] at h
      obtain ⟨r', h1, h2⟩ := xput_some h
      obtain ⟨g1, g2⟩ := hc _ _ _ _ _ hcl
      have hdr : dr = false := by
        cases dr with
        | false => rfl
        | true => exact absurd (by simp) hsl
      subst hdr
      simp only [Bool.false_eq_true, if_false] at *
      refine ⟨S0, _, v, _, c', none, hz, .call rfl (fun t k hk => lentB_ok _ _ t k hk) g1, ?_, h1⟩
      simp only [XS.vs, h2]
      rw [joinB _ _ _ _ g2]
      rfl
    · cases h

theorem xeffop {β : Type} {P : Program} {dr : Bool} {c0 : Nat} {op : VOp} {d : Option Nat} {S : XS} {k : XS → Option β} {b : β}
    (h : (match xeff c0 (X.ev (nth S.r)) S.s S.c op with
    | some ⟨v, s, c, none⟩ => xput d v S.r fun r => k ⟨r, s, c⟩
    | some ⟨v, s, c, some (.inl t)⟩ => fL (killR t S.r) fun r => xput d v r fun r => k ⟨r, s, c⟩
    | _ => none) = some b) :
    ∃ (S1 : XS) (v : V) (σ' : Nat → Option Blk) (c' : Nat) (kt : KT), VEff P dr c0 (X.ev S.vs.ρ) S.vs.σ S.vs.c op v σ' c' kt ∧ S1.vs = ⟨updo (kill kt S.vs.ρ) d v, σ', c'⟩ ∧ k S1 = some b := by
  split at h
  · rename_i v s c hx
    obtain ⟨r', h1, h2⟩ := xput_some h
    exact ⟨_, v, _, c, none, xeff_sound hx, by simp only [XS.vs, h2]; rfl, h1⟩
  · rename_i v s c t hx
    rw [fL_eq] at h
    obtain ⟨r', h1, h2⟩ := xput_some h
    exact ⟨_, v, _, c, some (.inl t), xeff_sound hx, by simp only [XS.vs, h2, nth_kill], h1⟩
  · cases h

theorem xstep_sound {β : Type} {P : Program} {call : XCall} (hc : CallOk P call) {dr : Bool} {lend : FuncId → Bool} {c0 : Nat} {op : VOp} {d : Option Nat} {S : XS} {k : XS → Option β} {b : β}
    (hfn : ∀ x xs, op = .callv x xs → ∀ f r, call f (xs.map (X.ev (nth S.r))) [] S.c = some r → True)
    (hnm : ∀ f xs sl c r, call f xs sl c = some r → ∃ fn b, P.funcs[f]? = some fn ∧ (fn.name == "runtime.NumGoroutine") = false ∧ fn.body = some b) (h : xstep call dr lend c0 op d S k = some b) :
    ∃ (S0 S1 : XS) (v : V) (σ' : Nat → Option Blk) (c' : Nat) (kt : KT), Fz P dr c0 S S0 ∧ VEff P dr c0 (X.ev S0.vs.ρ) S0.vs.σ S0.vs.c op v σ' c' kt ∧ S1.vs = ⟨updo (kill kt S0.vs.ρ) d v, σ', c'⟩ ∧ k S1 = some b := by
  unfold xstep at h
  split at h
  · exact xcallop_sound hc h
  · rename_i x xs
    obtain ⟨S0, h, hz⟩ := fz_if (P := P) (dr := dr) (fun e => e) h
    split at h
    · rename_i f hx
      split at h
      · rename_i v s' c' hcl
        rw [fN_eq] at h
        obtain ⟨r', h1, h2⟩ := xput_some h
        obtain ⟨g1, g2⟩ := hc _ _ _ _ _ hcl
        have e : lookB s' = noBlk := funext fun t => g2 t rfl
        rw [lookB_nil] at g1
        dsimp only at g1
        rw [e] at g1
        exact ⟨S0, _, v, _, c', none, hz, .callv (asFn_some hx) (hnm _ _ _ _ _ hcl) g1, by simp only [XS.vs, h2]; rfl, h1⟩
      · cases h
    · cases h
  · obtain ⟨S0, h, hz⟩ : ∃ S1 : XS, (match xeff c0 (X.ev (nth S1.r)) S1.s S1.c op with
        | some ⟨v, s, c, none⟩ => xput d v S1.r fun r => k ⟨r, s, c⟩
        | some ⟨v, s, c, some (.inl t)⟩ => fL (killR t S1.r) fun r => xput d v r fun r => k ⟨r, s, c⟩
        | _ => none) = some b ∧ Fz P dr c0 S S1 := by
      cases dr with
      | true => exact ⟨S, by simpa using h, Fz.refl⟩
      | false =>
        simp only [Bool.false_eq_true, if_false] at h
        split at h
        all_goals first | exact frzL_fz h | exact ⟨S, h, Fz.refl⟩
    obtain ⟨S1, v, σ', c', kt, g1, g2, g3⟩ := xeffop (P := P) (dr := dr) h
    exact ⟨S0, S1, v, σ', c', kt, hz, g1, g2, g3⟩

theorem xops_sound {P : Program} {call : XCall} (hc : CallOk P call) (hnm : ∀ f xs sl c r, call f xs sl c = some r → ∃ fn b, P.funcs[f]? = some fn ∧ (fn.name == "runtime.NumGoroutine") = false ∧ fn.body = some b) {dr : Bool} {lend : FuncId → Bool} {c0 : Nat} {l : List VO} {S S' : XS} (h : xops call dr lend c0 l S = some S') :
    VSteps P dr c0 l S.vs S'.vs := by
  induction l generalizing S with
  | nil => cases h; exact .nil _
  | cons o r ih =>
    obtain ⟨d, op, g⟩ := o
    have run : ∀ g : Option (Nat × Bool), (∀ t b, g = some (t, b) → nth S.r t = .lit (.bool b)) → xstep call dr lend c0 op d S (fun S => xops call dr lend c0 r S) = some S' → VSteps P dr c0 (⟨d, op, g⟩ :: r) S.vs S'.vs := by
      intro g hg h
      obtain ⟨S0, S1, v, σ', c', kt, hz, h1, h2, h3⟩ := xstep_sound hc (fun _ _ _ _ _ _ => trivial) hnm h
      refine hz.1 _ _ (.cons (.run (fun t b e => hz.2 _ _ (hg t b e)) h1) ?_)
      rw [← h2]
      exact ih h3
    cases g with
    | none => exact run none (fun t b e => by cases e) h
    | some tb =>
      obtain ⟨t, b⟩ := tb
      have skip : skips (nth S.r t) b → (xput d (.tup []) S.r fun rr => xops call dr lend c0 r ⟨rr, S.s, S.c⟩) = some S' → VSteps P dr c0 (⟨d, op, some (t, b)⟩ :: r) S.vs S'.vs := by
        intro hs h
        obtain ⟨r', h1, h2⟩ := xput_some h
        refine .cons (.skip rfl hs) ?_
        have := ih h1
        simp only [XS.vs, h2] at this
        exact this
      simp only [xops] at h
      split at h
      · rename_i b' hb
        split at h
        · rename_i e
          subst e
          exact run _ (fun t' b'' e => by cases e; exact hb) h
        · rename_i e
          exact skip (.inl ⟨b', hb, e⟩) h
      · rename_i hb
        exact skip (.inr hb) h
      · cases h

theorem xrun_sound {P : Program} {call : XCall} (hc : CallOk P call) (hnm : ∀ f xs sl c r, call f xs sl c = some r → ∃ fn b, P.funcs[f]? = some fn ∧ (fn.name == "runtime.NumGoroutine") = false ∧ fn.body = some b) {lend : FuncId → Bool} {rsl : List Nat} {c0 : Nat} {n : Nat} {vc : VC} {S : XS} {o : XOut} (h : xrun call lend rsl c0 n vc S = some o) :
    VExec P c0 vc S.vs o.e o.S.vs := by
  induction n generalizing vc S o with
  | zero => cases h
  | succ n ih =>
    unfold xrun at h
    split at h
    · cases h; exact .skip _
    · rename_i dr ops
      have fin : ∀ S0 : XS, (match xops call dr lend c0 ops S0 with | some S => some (⟨.normal, S⟩ : XOut) | none => none) = some o → VExec P c0 (.region dr ops) S0.vs o.e o.S.vs := by
        intro S0 h
        split at h
        · rename_i S1 hS
          cases h
          exact .region (xops_sound hc hnm hS)
        · cases h
      split at h
      · obtain ⟨S0, h1, h2⟩ := frzL_exec (P := P) h
        exact h2 _ _ _ (fin S0 h1)
      · exact fin S h
    · rename_i a b
      split at h
      · rename_i S1 h1
        exact .seq (ih h1) (ih h)
      · rename_i hne
        refine .seqOut (ih h) ?_
        intro e
        obtain ⟨e0, S1⟩ := o
        simp only at e
        subst e
        exact hne S1 h
    · split at h
      · rename_i hx
        exact .cond (t := true) hx (ih h)
      · rename_i hx
        exact .cond (t := false) hx (ih h)
      · cases h
    · split at h
      · rename_i j S1 h1
        split at h
        · rename_i e; subst e; cases h; exact .blockExit (ih h1)
        · rename_i e; cases h; exact .block (ih h1) (fun e' => by cases e'; exact e rfl)
      · rename_i hne
        refine .block (ih h) ?_
        intro e
        obtain ⟨e0, S1⟩ := o
        simp only at e
        subst e
        exact hne _ S1 h
    · split at h
      · rename_i S1 h1
        exact .loop (ih h1) (ih h)
      · rename_i hne
        refine .loopOut (ih h) ?_
        intro e
        obtain ⟨e0, S1⟩ := o
        simp only at e
        subst e
        exact hne S1 h
    · cases h; exact .exit _ _
    · obtain ⟨S0, h1, h2⟩ := frzL_exec (P := P) h
      cases h1
      exact h2 _ _ _ (.ret _)
    · cases h

theorem findF_some {T : List XFun} {f : FuncId} {e : XFun} (h : findF T f = some e) : e ∈ T ∧ e.f = f := by
  induction T with
  | nil => cases h
  | cons a r ih =>
    simp only [findF] at h
    split at h
    · rename_i g
      cases h
      exact ⟨List.mem_cons_self, Nat.eq_of_beq_eq_true g⟩
    · obtain ⟨h1, h2⟩ := ih h
      exact ⟨List.mem_cons_of_mem _ h1, h2⟩

theorem xcall_sound {P : Program} (hm : P.follows .mixedOrders = true) {orc : XOrc} (ho : OrcOk P orc) {T : List XFun} (hT : ∀ e ∈ T, GoodF P e) {lend : FuncId → Bool} {rounds : Nat} (n : Nat) : CallOk P (xcall orc T lend rounds n) ∧ ∀ f xs sl c r, xcall orc T lend rounds n f xs sl c = some r → ∃ fn b, P.funcs[f]? = some fn ∧ (fn.name == "runtime.NumGoroutine") = false ∧ fn.body = some b := by
  induction n with
  | zero => exact ⟨fun f xs sl c r h => (by cases h), fun f xs sl c r h => (by cases h)⟩
  | succ n ih =>
    constructor
    · intro f xs sl c r h
      simp only [xcall] at h
      split at h
      · cases h
      · rename_i f' vc rs m hf
        obtain ⟨h1, h2⟩ := findF_some hf
        obtain ⟨fn, code, g1, g2, g3, g4, g5, _⟩ := hT _ h1
        dsimp only at h2 g1 g3 g4 g5
        subst h2 g5
        split at h
        · rename_i v hv
          cases h
          cases sl with
          | nil =>
            refine ⟨?_, fun t _ => rfl⟩
            rw [lookB_nil]
            exact ho _ _ _ hv c
          | cons _ _ => cases hv
        split at h
        · rename_i hlen
          split at h
          · cases h
          · rename_i e S hne hr
            rw [fL_eq] at hr
            have hex := xrun_sound ih.1 ih.2 hr
            dsimp only at hex
            have hst : (⟨xs ++ List.replicate (fn.ntmps - xs.length) .any, sl, c⟩ : XS).vs = ⟨start xs, lookB sl, c⟩ := by simp only [XS.vs, nth_append_any, start_nth]
            rw [hst] at hex
            split at h
            · rename_i v hv
              cases h
              have he : e = .ret ∨ e = .normal := by
                cases e with
                | normal => exact .inr rfl
                | ret => exact .inl rfl
                | exit id => exact (hne id rfl).elim
              refine ⟨vcalls_of_exec hm g1 g2 g3 g4 hlen hex he hv (fun t k hk => ?_) (fun t ht => ?_), fun t ht => ?_⟩
              · rw [lookB_keep] at hk
                split at hk
                · exact hk
                · cases hk
              · rw [lookB_keep, if_pos]
                · rfl
                · cases hq : lookB sl t with
                  | none => exact absurd hq ht
                  | some k => rfl
              · dsimp only
                rw [lookB_keep, ht]
                rfl
            · cases h
          · cases h
        · cases h
    · intro f xs sl c r h
      simp only [xcall] at h
      split at h
      · cases h
      · rename_i f' vc rs m hf
        obtain ⟨h1, h2⟩ := findF_some hf
        obtain ⟨fn, code, g1, g2, g3, g4, g5, g6⟩ := hT _ h1
        dsimp only at h2 g1
        subst h2
        exact ⟨fn, code, g1, g6, g2⟩
end Go.VM
namespace Go.VM
theorem xcall_p {P : Program} (hm : P.follows .mixedOrders = true) {orc : XOrc} (ho : OrcOk P orc) {T : List XFun} (hT : ∀ e ∈ T, GoodF P e) {lend : FuncId → Bool} {rounds n c : Nat} {f : FuncId} {xs : List V} {v : V}
    (h : ((xcall orc T lend rounds n f xs [] c).map fun r => r.v) = some v) : ∃ c', VCallP P f c xs v c' := by
  cases hr : xcall orc T lend rounds n f xs [] c with
  | none => rw [hr] at h; cases h
  | some r =>
    rw [hr] at h
    cases h
    obtain ⟨h1, h2⟩ := (xcall_sound hm ho hT (lend := lend) (rounds := rounds) n).1 f xs [] c r hr
    have e : lookB r.s = noBlk := funext fun t => h2 t rfl
    rw [lookB_nil, e] at h1
    exact ⟨_, h1⟩
end Go.VM
set_option linter.unusedVariables false
set_option linter.unusedSimpArgs false
namespace Go.VM

inductive Loose : V → V → Prop
  | lit (v : Value) : Loose (.lit v) (.lit v)
  | sl (t : Tok) (sz : Nat) (l : List Value) : Loose (.sl t sz (l.map .lit)) (.sl .unk sz (l.map .lit))
  | tup (l l' : List V) (hn : l.length = l'.length) (h : ∀ (j : Nat) (x y : V), l[j]? = some x → l'[j]? = some y → Loose x y) : Loose (.tup l) (.tup l')

theorem Loose.nats (t : Tok) (l : List Nat) : Loose (nats t l) (nats .unk l) := by
  have := Loose.sl t 1 (l.map fun (n : Nat) => Value.int .u64 (n : Int))
  rw [List.map_map] at this
  exact this
theorem Loose.pair {x y x' y' : V} (h1 : Loose x x') (h2 : Loose y y') : Loose (.tup [x, y]) (.tup [x', y']) :=
  .tup _ _ rfl fun j a b ha hb => match j, ha, hb with
    | 0, ha, hb => by simp at ha hb; subst ha hb; exact h1
    | 1, ha, hb => by simp at ha hb; subst ha hb; exact h2
    | j + 2, ha, hb => by simp at ha
theorem rep_lit {w : World} {M : Nat → Prop} {μ : Nat → Nat} {c : Nat} {v u : Value} (h : Rep w M μ c (.lit v) u) : u = v := by cases h; rfl
theorem Loose.one {x y : V} (h : Loose x y) : x.one = true := by cases h <;> rfl

theorem VCallP.at {P : Program} {f : FuncId} {c' : Nat} {v : Value} (h : VCallP P f 0 [] (.lit v) c') (c : Nat) : VCallP P f c [] (.lit v) c := by
  intro w Φ μ vs hm hn ha
  have hm0 : Mem ⟨P, 0, w, Φ, 0, μ, noBlk, noGiv⟩ noBlk 0 w μ := ⟨⟨fun t ht => absurd rfl ht, fun t ht => absurd rfl ht, fun t t' ht => absurd rfl ht, fun t ht => absurd ht (Nat.not_lt_zero _), fun b hb => hb.elim, fun t ht => absurd rfl ht, fun b hb => hb.elim, hm.good.glob⟩, ⟨rfl, rfl, rfl, Nat.le_refl _, Grows.refl _, fun _ _ _ _ => rfl⟩, Nat.le_refl _, fun _ _ => rfl, fun t h1 h2 => absurd h2 (Nat.not_lt_zero _), fun t t' h1 h2 => absurd h2 (Nat.not_lt_zero _), fun t k hk => (by cases hk), fun t ht => absurd rfl ht, fun t k hk => (by cases hk)⟩
  refine Calls.mono (h w Φ μ vs hm0 hn (fun j x v hx => by simp at hx)) ?_
  rintro e W' ⟨u, μ', rfl, hm', hr⟩
  refine ⟨u, μ, rfl, ⟨hm.good, ⟨hm'.moved.os, hm'.moved.tape, hm'.moved.output, hm'.moved.size, hm'.moved.grows, fun b hb hg _ => hm'.moved.block b hb hg (fun t ht => absurd rfl ht)⟩, Nat.le_refl _, fun _ _ => rfl, fun t h1 h2 => absurd h2 (Nat.not_lt.2 h1), fun t t' h1 h2 => absurd h2 (Nat.not_lt.2 h1), fun t k hk => (by cases hk), fun t ht => absurd rfl ht, fun t k hk => (by cases hk)⟩, RepE.of_one ?_⟩
  have := hr.one rfl
  rw [rep_lit this]
  exact .lit v

def dec1 (v : V) : Option Nat := match v with | .lit (.int .u64 (.ofNat n)) => if n < 18446744073709551616 then some n else none | _ => none
def decL (l : List V) : Option (List Nat) := match l with
  | [] => some []
  | x :: r => match dec1 x, decL r with | some n, some l => some (n :: l) | _, _ => none
def shortL (l : List Nat) : Bool := Nat.ble l.length 1000000
def decN (v : V) : Option (Tok × List Nat) := match v with
  | .sl t 1 l => match decL l with | some r => if shortL r = true then some (t, r) else none | none => none
  | _ => none
def o1 (g : Nat → V) (xs : List V) : Option V := match xs with | [x] => (match decN x with | some p => some (g (val 18446744073709551616 p.2)) | none => none) | _ => none
def o2 (g : Nat → Nat → V) (xs : List V) : Option V := match xs with | [x, y] => (match decN x, decN y with | some p, some q => some (g (val 18446744073709551616 p.2) (val 18446744073709551616 q.2)) | _, _ => none) | _ => none
section
variable {P : Program} {f : FuncId} {xs : List V} {v : V}
end
end Go.VM
set_option linter.unusedVariables false
set_option maxRecDepth 100000
namespace Go.Proofs.YtacodmnlnlbahaaGreatDoor
open Go.VM

theorem X.surdlaw10_awake : GoodF Tryz.prog ⟨F.surdlaw10_awake, C.surdlaw10_awake, R.surdlaw10_awake, 46⟩ := ⟨_, _, E.surdlaw10_awake, B.surdlaw10_awake, K.surdlaw10_awake, Q.surdlaw10_awake, N.surdlaw10_awake, by kernel_rfl⟩
theorem X.surdlaw10_num : GoodF Tryz.prog ⟨F.surdlaw10_num, C.surdlaw10_num, R.surdlaw10_num, 4⟩ := ⟨_, _, E.surdlaw10_num, B.surdlaw10_num, K.surdlaw10_num, Q.surdlaw10_num, N.surdlaw10_num, by kernel_rfl⟩
theorem X.span_Add : GoodF Tryz.prog ⟨F.span_Add, C.span_Add, R.span_Add, 24⟩ := ⟨_, _, E.span_Add, B.span_Add, K.span_Add, Q.span_Add, N.span_Add, by kernel_rfl⟩
theorem X.surdref06_Z_Sign : GoodF Tryz.prog ⟨F.surdref06_Z_Sign, C.surdref06_Z_Sign, R.surdref06_Z_Sign, 8⟩ := ⟨_, _, E.surdref06_Z_Sign, B.surdref06_Z_Sign, K.surdref06_Z_Sign, Q.surdref06_Z_Sign, N.surdref06_Z_Sign, by kernel_rfl⟩
theorem X.span_check : GoodF Tryz.prog ⟨F.span_check, C.span_check, R.span_check, 20⟩ := ⟨_, _, E.span_check, B.span_check, K.span_check, Q.span_check, N.span_check, by kernel_rfl⟩
theorem X.surdref08_Of : GoodF Tryz.prog ⟨F.surdref08_Of, C.surdref08_Of, R.surdref08_Of, 24⟩ := ⟨_, _, E.surdref08_Of, B.surdref08_Of, K.surdref08_Of, Q.surdref08_Of, N.surdref08_Of, by kernel_rfl⟩
theorem X.surdref08_D_Is : GoodF Tryz.prog ⟨F.surdref08_D_Is, C.surdref08_D_Is, R.surdref08_D_Is, 20⟩ := ⟨_, _, E.surdref08_D_Is, B.surdref08_D_Is, K.surdref08_D_Is, Q.surdref08_D_Is, N.surdref08_D_Is, by kernel_rfl⟩
theorem X.surdlaw10_small : GoodF Tryz.prog ⟨F.surdlaw10_small, C.surdlaw10_small, R.surdlaw10_small, 8⟩ := ⟨_, _, E.surdlaw10_small, B.surdlaw10_small, K.surdlaw10_small, Q.surdlaw10_small, N.surdlaw10_small, by kernel_rfl⟩
theorem X.surdref08_Int : GoodF Tryz.prog ⟨F.surdref08_Int, C.surdref08_Int, R.surdref08_Int, 9⟩ := ⟨_, _, E.surdref08_Int, B.surdref08_Int, K.surdref08_Int, Q.surdref08_Int, N.surdref08_Int, by kernel_rfl⟩
theorem X.span_checks : GoodF Tryz.prog ⟨F.span_checks, C.span_checks, R.span_checks, 26⟩ := ⟨_, _, E.span_checks, B.span_checks, K.span_checks, Q.span_checks, N.span_checks, by kernel_rfl⟩
theorem X.dyadic_Compare : GoodF Tryz.prog ⟨F.dyadic_Compare, C.dyadic_Compare, R.dyadic_Compare, 22⟩ := ⟨_, _, E.dyadic_Compare, B.dyadic_Compare, K.dyadic_Compare, Q.dyadic_Compare, N.dyadic_Compare, by kernel_rfl⟩
theorem X.dyadic_Round : GoodF Tryz.prog ⟨F.dyadic_Round, C.dyadic_Round, R.dyadic_Round, 36⟩ := ⟨_, _, E.dyadic_Round, B.dyadic_Round, K.dyadic_Round, Q.dyadic_Round, N.dyadic_Round, by kernel_rfl⟩
theorem X.span_worst : GoodF Tryz.prog ⟨F.span_worst, C.span_worst, R.span_worst, 15⟩ := ⟨_, _, E.span_worst, B.span_worst, K.span_worst, Q.span_worst, N.span_worst, by kernel_rfl⟩
theorem X.surdref01_Int : GoodF Tryz.prog ⟨F.surdref01_Int, C.surdref01_Int, R.surdref01_Int, 7⟩ := ⟨_, _, E.surdref01_Int, B.surdref01_Int, K.surdref01_Int, Q.surdref01_Int, N.surdref01_Int, by kernel_rfl⟩
theorem X.span_sums : GoodF Tryz.prog ⟨F.span_sums, C.span_sums, R.span_sums, 42⟩ := ⟨_, _, E.span_sums, B.span_sums, K.span_sums, Q.span_sums, N.span_sums, by kernel_rfl⟩
theorem X.surdref01_Num_Zero : GoodF Tryz.prog ⟨F.surdref01_Num_Zero, C.surdref01_Num_Zero, R.surdref01_Num_Zero, 6⟩ := ⟨_, _, E.surdref01_Num_Zero, B.surdref01_Num_Zero, K.surdref01_Num_Zero, Q.surdref01_Num_Zero, N.surdref01_Num_Zero, by kernel_rfl⟩
theorem X.span_ends : GoodF Tryz.prog ⟨F.span_ends, C.span_ends, R.span_ends, 21⟩ := ⟨_, _, E.span_ends, B.span_ends, K.span_ends, Q.span_ends, N.span_ends, by kernel_rfl⟩
theorem X.surdref01_Num_Tail : GoodF Tryz.prog ⟨F.surdref01_Num_Tail, C.surdref01_Num_Tail, R.surdref01_Num_Tail, 14⟩ := ⟨_, _, E.surdref01_Num_Tail, B.surdref01_Num_Tail, K.surdref01_Num_Tail, Q.surdref01_Num_Tail, N.surdref01_Num_Tail, by kernel_rfl⟩
theorem X.surdref01_Shr : GoodF Tryz.prog ⟨F.surdref01_Shr, C.surdref01_Shr, R.surdref01_Shr, 53⟩ := ⟨_, _, E.surdref01_Shr, B.surdref01_Shr, K.surdref01_Shr, Q.surdref01_Shr, N.surdref01_Shr, by kernel_rfl⟩
theorem X.surdref06_make1 : GoodF Tryz.prog ⟨F.surdref06_make1, C.surdref06_make1, R.surdref06_make1, 13⟩ := ⟨_, _, E.surdref06_make1, B.surdref06_make1, K.surdref06_make1, Q.surdref06_make1, N.surdref06_make1, by kernel_rfl⟩
theorem X.surdref01_Of : GoodF Tryz.prog ⟨F.surdref01_Of, C.surdref01_Of, R.surdref01_Of, 26⟩ := ⟨_, _, E.surdref01_Of, B.surdref01_Of, K.surdref01_Of, Q.surdref01_Of, N.surdref01_Of, by kernel_rfl⟩
theorem X.surdref06_Z_Is : GoodF Tryz.prog ⟨F.surdref06_Z_Is, C.surdref06_Z_Is, R.surdref06_Z_Is, 17⟩ := ⟨_, _, E.surdref06_Z_Is, B.surdref06_Z_Is, K.surdref06_Z_Is, Q.surdref06_Z_Is, N.surdref06_Z_Is, by kernel_rfl⟩
theorem X.surdref06_Int : GoodF Tryz.prog ⟨F.surdref06_Int, C.surdref06_Int, R.surdref06_Int, 16⟩ := ⟨_, _, E.surdref06_Int, B.surdref06_Int, K.surdref06_Int, Q.surdref06_Int, N.surdref06_Int, by kernel_rfl⟩
theorem X.dyadic_two : GoodF Tryz.prog ⟨F.dyadic_two, C.dyadic_two, R.dyadic_two, 28⟩ := ⟨_, _, E.dyadic_two, B.dyadic_two, K.dyadic_two, Q.dyadic_two, N.dyadic_two, by kernel_rfl⟩
theorem X.dyadic_compare : GoodF Tryz.prog ⟨F.dyadic_compare, C.dyadic_compare, R.dyadic_compare, 71⟩ := ⟨_, _, E.dyadic_compare, B.dyadic_compare, K.dyadic_compare, Q.dyadic_compare, N.dyadic_compare, by kernel_rfl⟩
theorem X.whole_Sign : GoodF Tryz.prog ⟨F.whole_Sign, C.whole_Sign, R.whole_Sign, 11⟩ := ⟨_, _, E.whole_Sign, B.whole_Sign, K.whole_Sign, Q.whole_Sign, N.whole_Sign, by kernel_rfl⟩
theorem X.dyadic_sum : GoodF Tryz.prog ⟨F.dyadic_sum, C.dyadic_sum, R.dyadic_sum, 97⟩ := ⟨_, _, E.dyadic_sum, B.dyadic_sum, K.dyadic_sum, Q.dyadic_sum, N.dyadic_sum, by kernel_rfl⟩
theorem X.dyadic_part_sign : GoodF Tryz.prog ⟨F.dyadic_part_sign, C.dyadic_part_sign, R.dyadic_part_sign, 6⟩ := ⟨_, _, E.dyadic_part_sign, B.dyadic_part_sign, K.dyadic_part_sign, Q.dyadic_part_sign, N.dyadic_part_sign, by kernel_rfl⟩
theorem X.dyadic_read : GoodF Tryz.prog ⟨F.dyadic_read, C.dyadic_read, R.dyadic_read, 14⟩ := ⟨_, _, E.dyadic_read, B.dyadic_read, K.dyadic_read, Q.dyadic_read, N.dyadic_read, by kernel_rfl⟩
theorem X.dyadic_within : GoodF Tryz.prog ⟨F.dyadic_within, C.dyadic_within, R.dyadic_within, 9⟩ := ⟨_, _, E.dyadic_within, B.dyadic_within, K.dyadic_within, Q.dyadic_within, N.dyadic_within, by kernel_rfl⟩
theorem X.dyadic_direction : GoodF Tryz.prog ⟨F.dyadic_direction, C.dyadic_direction, R.dyadic_direction, 13⟩ := ⟨_, _, E.dyadic_direction, B.dyadic_direction, K.dyadic_direction, Q.dyadic_direction, N.dyadic_direction, by kernel_rfl⟩
theorem X.dyadic_rounded : GoodF Tryz.prog ⟨F.dyadic_rounded, C.dyadic_rounded, R.dyadic_rounded, 34⟩ := ⟨_, _, E.dyadic_rounded, B.dyadic_rounded, K.dyadic_rounded, Q.dyadic_rounded, N.dyadic_rounded, by kernel_rfl⟩
theorem X.surdref01_norm : GoodF Tryz.prog ⟨F.surdref01_norm, C.surdref01_norm, R.surdref01_norm, 22⟩ := ⟨_, _, E.surdref01_norm, B.surdref01_norm, K.surdref01_norm, Q.surdref01_norm, N.surdref01_norm, by kernel_rfl⟩
theorem X.surdref01_Num_Bit : GoodF Tryz.prog ⟨F.surdref01_Num_Bit, C.surdref01_Num_Bit, R.surdref01_Num_Bit, 24⟩ := ⟨_, _, E.surdref01_Num_Bit, B.surdref01_Num_Bit, K.surdref01_Num_Bit, Q.surdref01_Num_Bit, N.surdref01_Num_Bit, by kernel_rfl⟩
theorem X.dyadic_Add : GoodF Tryz.prog ⟨F.dyadic_Add, C.dyadic_Add, R.dyadic_Add, 25⟩ := ⟨_, _, E.dyadic_Add, B.dyadic_Add, K.dyadic_Add, Q.dyadic_Add, N.dyadic_Add, by kernel_rfl⟩
theorem X.span_outward : GoodF Tryz.prog ⟨F.span_outward, C.span_outward, R.span_outward, 31⟩ := ⟨_, _, E.span_outward, B.span_outward, K.span_outward, Q.span_outward, N.span_outward, by kernel_rfl⟩
theorem X.dyadic_told : GoodF Tryz.prog ⟨F.dyadic_told, C.dyadic_told, R.dyadic_told, 34⟩ := ⟨_, _, E.dyadic_told, B.dyadic_told, K.dyadic_told, Q.dyadic_told, N.dyadic_told, by kernel_rfl⟩
theorem X.surdref01_Num_at : GoodF Tryz.prog ⟨F.surdref01_Num_at, C.surdref01_Num_at, R.surdref01_Num_at, 13⟩ := ⟨_, _, E.surdref01_Num_at, B.surdref01_Num_at, K.surdref01_Num_at, Q.surdref01_Num_at, N.surdref01_Num_at, by kernel_rfl⟩
theorem X.surdref01_Num_Is : GoodF Tryz.prog ⟨F.surdref01_Num_Is, C.surdref01_Num_Is, R.surdref01_Num_Is, 29⟩ := ⟨_, _, E.surdref01_Num_Is, B.surdref01_Num_Is, K.surdref01_Num_Is, Q.surdref01_Num_Is, N.surdref01_Num_Is, by kernel_rfl⟩
theorem X.dyadic_number_top : GoodF Tryz.prog ⟨F.dyadic_number_top, C.dyadic_number_top, R.dyadic_number_top, 10⟩ := ⟨_, _, E.dyadic_number_top, B.dyadic_number_top, K.dyadic_number_top, Q.dyadic_number_top, N.dyadic_number_top, by kernel_rfl⟩
theorem X.dyadic_left : GoodF Tryz.prog ⟨F.dyadic_left, C.dyadic_left, R.dyadic_left, 65⟩ := ⟨_, _, E.dyadic_left, B.dyadic_left, K.dyadic_left, Q.dyadic_left, N.dyadic_left, by kernel_rfl⟩
theorem X.nat_Compare : GoodF Tryz.prog ⟨F.nat_Compare, C.nat_Compare, R.nat_Compare, 45⟩ := ⟨_, _, E.nat_Compare, B.nat_Compare, K.nat_Compare, Q.nat_Compare, N.nat_Compare, by kernel_rfl⟩
theorem X.nat_Length : GoodF Tryz.prog ⟨F.nat_Length, C.nat_Length, R.nat_Length, 20⟩ := ⟨_, _, E.nat_Length, B.nat_Length, K.nat_Length, Q.nat_Length, N.nat_Length, by kernel_rfl⟩
theorem X.whole_Make : GoodF Tryz.prog ⟨F.whole_Make, C.whole_Make, R.whole_Make, 12⟩ := ⟨_, _, E.whole_Make, B.whole_Make, K.whole_Make, Q.whole_Make, N.whole_Make, by kernel_rfl⟩
theorem X.dyadic_long : GoodF Tryz.prog ⟨F.dyadic_long, C.dyadic_long, R.dyadic_long, 64⟩ := ⟨_, _, E.dyadic_long, B.dyadic_long, K.dyadic_long, Q.dyadic_long, N.dyadic_long, by kernel_rfl⟩
theorem X.whole_Add : GoodF Tryz.prog ⟨F.whole_Add, C.whole_Add, R.whole_Add, 57⟩ := ⟨_, _, E.whole_Add, B.whole_Add, K.whole_Add, Q.whole_Add, N.whole_Add, by kernel_rfl⟩
theorem X.dyadic_odd : GoodF Tryz.prog ⟨F.dyadic_odd, C.dyadic_odd, R.dyadic_odd, 30⟩ := ⟨_, _, E.dyadic_odd, B.dyadic_odd, K.dyadic_odd, Q.dyadic_odd, N.dyadic_odd, by kernel_rfl⟩
theorem X.dyadic_steps : GoodF Tryz.prog ⟨F.dyadic_steps, C.dyadic_steps, R.dyadic_steps, 98⟩ := ⟨_, _, E.dyadic_steps, B.dyadic_steps, K.dyadic_steps, Q.dyadic_steps, N.dyadic_steps, by kernel_rfl⟩
theorem X.whole_result : GoodF Tryz.prog ⟨F.whole_result, C.whole_result, R.whole_result, 18⟩ := ⟨_, _, E.whole_result, B.whole_result, K.whole_result, Q.whole_result, N.whole_result, by kernel_rfl⟩
theorem X.dyadic_part_length : GoodF Tryz.prog ⟨F.dyadic_part_length, C.dyadic_part_length, R.dyadic_part_length, 7⟩ := ⟨_, _, E.dyadic_part_length, B.dyadic_part_length, K.dyadic_part_length, Q.dyadic_part_length, N.dyadic_part_length, by kernel_rfl⟩
theorem X.surdref01_Num_Limbs : GoodF Tryz.prog ⟨F.surdref01_Num_Limbs, C.surdref01_Num_Limbs, R.surdref01_Num_Limbs, 34⟩ := ⟨_, _, E.surdref01_Num_Limbs, B.surdref01_Num_Limbs, K.surdref01_Num_Limbs, Q.surdref01_Num_Limbs, N.surdref01_Num_Limbs, by kernel_rfl⟩
theorem X.nat_Left : GoodF Tryz.prog ⟨F.nat_Left, C.nat_Left, R.nat_Left, 73⟩ := ⟨_, _, E.nat_Left, B.nat_Left, K.nat_Left, Q.nat_Left, N.nat_Left, by kernel_rfl⟩
theorem X.nat_Norm : GoodF Tryz.prog ⟨F.nat_Norm, C.nat_Norm, R.nat_Norm, 6⟩ := ⟨_, _, E.nat_Norm, B.nat_Norm, K.nat_Norm, Q.nat_Norm, N.nat_Norm, by kernel_rfl⟩
theorem X.nat_trim : GoodF Tryz.prog ⟨F.nat_trim, C.nat_trim, R.nat_trim, 21⟩ := ⟨_, _, E.nat_trim, B.nat_trim, K.nat_trim, Q.nat_trim, N.nat_trim, by kernel_rfl⟩
theorem X.bits_Len64 : GoodF Tryz.prog ⟨F.bits_Len64, C.bits_Len64, R.bits_Len64, 25⟩ := ⟨_, _, E.bits_Len64, B.bits_Len64, K.bits_Len64, Q.bits_Len64, N.bits_Len64, by kernel_rfl⟩
theorem X.whole_fits : GoodF Tryz.prog ⟨F.whole_fits, C.whole_fits, R.whole_fits, 11⟩ := ⟨_, _, E.whole_fits, B.whole_fits, K.whole_fits, Q.whole_fits, N.whole_fits, by kernel_rfl⟩
theorem X.dyadic_minus : GoodF Tryz.prog ⟨F.dyadic_minus, C.dyadic_minus, R.dyadic_minus, 49⟩ := ⟨_, _, E.dyadic_minus, B.dyadic_minus, K.dyadic_minus, Q.dyadic_minus, N.dyadic_minus, by kernel_rfl⟩
theorem X.dyadic_plus : GoodF Tryz.prog ⟨F.dyadic_plus, C.dyadic_plus, R.dyadic_plus, 51⟩ := ⟨_, _, E.dyadic_plus, B.dyadic_plus, K.dyadic_plus, Q.dyadic_plus, N.dyadic_plus, by kernel_rfl⟩
theorem X.whole_norm : GoodF Tryz.prog ⟨F.whole_norm, C.whole_norm, R.whole_norm, 16⟩ := ⟨_, _, E.whole_norm, B.whole_norm, K.whole_norm, Q.whole_norm, N.whole_norm, by kernel_rfl⟩
theorem X.nat_Add : GoodF Tryz.prog ⟨F.nat_Add, C.nat_Add, R.nat_Add, 61⟩ := ⟨_, _, E.nat_Add, B.nat_Add, K.nat_Add, Q.nat_Add, N.nat_Add, by kernel_rfl⟩
theorem X.nat_Sub : GoodF Tryz.prog ⟨F.nat_Sub, C.nat_Sub, R.nat_Sub, 52⟩ := ⟨_, _, E.nat_Sub, B.nat_Sub, K.nat_Sub, Q.nat_Sub, N.nat_Sub, by kernel_rfl⟩
theorem X.nat_Tail : GoodF Tryz.prog ⟨F.nat_Tail, C.nat_Tail, R.nat_Tail, 20⟩ := ⟨_, _, E.nat_Tail, B.nat_Tail, K.nat_Tail, Q.nat_Tail, N.nat_Tail, by kernel_rfl⟩
theorem X.dyadic_shifted : GoodF Tryz.prog ⟨F.dyadic_shifted, C.dyadic_shifted, R.dyadic_shifted, 76⟩ := ⟨_, _, E.dyadic_shifted, B.dyadic_shifted, K.dyadic_shifted, Q.dyadic_shifted, N.dyadic_shifted, by kernel_rfl⟩
theorem X.nat_Bit : GoodF Tryz.prog ⟨F.nat_Bit, C.nat_Bit, R.nat_Bit, 25⟩ := ⟨_, _, E.nat_Bit, B.nat_Bit, K.nat_Bit, Q.nat_Bit, N.nat_Bit, by kernel_rfl⟩
theorem X.nat_From : GoodF Tryz.prog ⟨F.nat_From, C.nat_From, R.nat_From, 7⟩ := ⟨_, _, E.nat_From, B.nat_From, K.nat_From, Q.nat_From, N.nat_From, by kernel_rfl⟩
theorem X.dyadic_limb : GoodF Tryz.prog ⟨F.dyadic_limb, C.dyadic_limb, R.dyadic_limb, 13⟩ := ⟨_, _, E.dyadic_limb, B.dyadic_limb, K.dyadic_limb, Q.dyadic_limb, N.dyadic_limb, by kernel_rfl⟩
theorem X.nat_told : GoodF Tryz.prog ⟨F.nat_told, C.nat_told, R.nat_told, 10⟩ := ⟨_, _, E.nat_told, B.nat_told, K.nat_told, Q.nat_told, N.nat_told, by kernel_rfl⟩
theorem X.bits_TrailingZeros64 : GoodF Tryz.prog ⟨F.bits_TrailingZeros64, C.bits_TrailingZeros64, R.bits_TrailingZeros64, 14⟩ := ⟨_, _, E.bits_TrailingZeros64, B.bits_TrailingZeros64, K.bits_TrailingZeros64, Q.bits_TrailingZeros64, N.bits_TrailingZeros64, by kernel_rfl⟩
theorem X.nat_Right : GoodF Tryz.prog ⟨F.nat_Right, C.nat_Right, R.nat_Right, 77⟩ := ⟨_, _, E.nat_Right, B.nat_Right, K.nat_Right, Q.nat_Right, N.nat_Right, by kernel_rfl⟩
def XT : List XFun := [⟨F.surdlaw10_awake, C.surdlaw10_awake, R.surdlaw10_awake, 46⟩,
  ⟨F.surdlaw10_num, C.surdlaw10_num, R.surdlaw10_num, 4⟩,
  ⟨F.span_Add, C.span_Add, R.span_Add, 24⟩,
  ⟨F.surdref06_Z_Sign, C.surdref06_Z_Sign, R.surdref06_Z_Sign, 8⟩,
  ⟨F.span_check, C.span_check, R.span_check, 20⟩,
  ⟨F.surdref08_Of, C.surdref08_Of, R.surdref08_Of, 24⟩,
  ⟨F.surdref08_D_Is, C.surdref08_D_Is, R.surdref08_D_Is, 20⟩,
  ⟨F.surdlaw10_small, C.surdlaw10_small, R.surdlaw10_small, 8⟩,
  ⟨F.surdref08_Int, C.surdref08_Int, R.surdref08_Int, 9⟩,
  ⟨F.span_checks, C.span_checks, R.span_checks, 26⟩,
  ⟨F.dyadic_Compare, C.dyadic_Compare, R.dyadic_Compare, 22⟩,
  ⟨F.dyadic_Round, C.dyadic_Round, R.dyadic_Round, 36⟩,
  ⟨F.span_worst, C.span_worst, R.span_worst, 15⟩,
  ⟨F.surdref01_Int, C.surdref01_Int, R.surdref01_Int, 7⟩,
  ⟨F.span_sums, C.span_sums, R.span_sums, 42⟩,
  ⟨F.surdref01_Num_Zero, C.surdref01_Num_Zero, R.surdref01_Num_Zero, 6⟩,
  ⟨F.span_ends, C.span_ends, R.span_ends, 21⟩,
  ⟨F.surdref01_Num_Tail, C.surdref01_Num_Tail, R.surdref01_Num_Tail, 14⟩,
  ⟨F.surdref01_Shr, C.surdref01_Shr, R.surdref01_Shr, 53⟩,
  ⟨F.surdref06_make1, C.surdref06_make1, R.surdref06_make1, 13⟩,
  ⟨F.surdref01_Of, C.surdref01_Of, R.surdref01_Of, 26⟩,
  ⟨F.surdref06_Z_Is, C.surdref06_Z_Is, R.surdref06_Z_Is, 17⟩,
  ⟨F.surdref06_Int, C.surdref06_Int, R.surdref06_Int, 16⟩,
  ⟨F.dyadic_two, C.dyadic_two, R.dyadic_two, 28⟩,
  ⟨F.dyadic_compare, C.dyadic_compare, R.dyadic_compare, 71⟩,
  ⟨F.whole_Sign, C.whole_Sign, R.whole_Sign, 11⟩,
  ⟨F.dyadic_sum, C.dyadic_sum, R.dyadic_sum, 97⟩,
  ⟨F.dyadic_part_sign, C.dyadic_part_sign, R.dyadic_part_sign, 6⟩,
  ⟨F.dyadic_read, C.dyadic_read, R.dyadic_read, 14⟩,
  ⟨F.dyadic_within, C.dyadic_within, R.dyadic_within, 9⟩,
  ⟨F.dyadic_direction, C.dyadic_direction, R.dyadic_direction, 13⟩,
  ⟨F.dyadic_rounded, C.dyadic_rounded, R.dyadic_rounded, 34⟩,
  ⟨F.surdref01_norm, C.surdref01_norm, R.surdref01_norm, 22⟩,
  ⟨F.surdref01_Num_Bit, C.surdref01_Num_Bit, R.surdref01_Num_Bit, 24⟩,
  ⟨F.dyadic_Add, C.dyadic_Add, R.dyadic_Add, 25⟩,
  ⟨F.span_outward, C.span_outward, R.span_outward, 31⟩,
  ⟨F.dyadic_told, C.dyadic_told, R.dyadic_told, 34⟩,
  ⟨F.surdref01_Num_at, C.surdref01_Num_at, R.surdref01_Num_at, 13⟩,
  ⟨F.surdref01_Num_Is, C.surdref01_Num_Is, R.surdref01_Num_Is, 29⟩,
  ⟨F.dyadic_number_top, C.dyadic_number_top, R.dyadic_number_top, 10⟩,
  ⟨F.dyadic_left, C.dyadic_left, R.dyadic_left, 65⟩,
  ⟨F.nat_Compare, C.nat_Compare, R.nat_Compare, 45⟩,
  ⟨F.nat_Length, C.nat_Length, R.nat_Length, 20⟩,
  ⟨F.whole_Make, C.whole_Make, R.whole_Make, 12⟩,
  ⟨F.dyadic_long, C.dyadic_long, R.dyadic_long, 64⟩,
  ⟨F.whole_Add, C.whole_Add, R.whole_Add, 57⟩,
  ⟨F.dyadic_odd, C.dyadic_odd, R.dyadic_odd, 30⟩,
  ⟨F.dyadic_steps, C.dyadic_steps, R.dyadic_steps, 98⟩,
  ⟨F.whole_result, C.whole_result, R.whole_result, 18⟩,
  ⟨F.dyadic_part_length, C.dyadic_part_length, R.dyadic_part_length, 7⟩,
  ⟨F.surdref01_Num_Limbs, C.surdref01_Num_Limbs, R.surdref01_Num_Limbs, 34⟩,
  ⟨F.nat_Left, C.nat_Left, R.nat_Left, 73⟩,
  ⟨F.nat_Norm, C.nat_Norm, R.nat_Norm, 6⟩,
  ⟨F.nat_trim, C.nat_trim, R.nat_trim, 21⟩,
  ⟨F.bits_Len64, C.bits_Len64, R.bits_Len64, 25⟩,
  ⟨F.whole_fits, C.whole_fits, R.whole_fits, 11⟩,
  ⟨F.dyadic_minus, C.dyadic_minus, R.dyadic_minus, 49⟩,
  ⟨F.dyadic_plus, C.dyadic_plus, R.dyadic_plus, 51⟩,
  ⟨F.whole_norm, C.whole_norm, R.whole_norm, 16⟩,
  ⟨F.nat_Add, C.nat_Add, R.nat_Add, 61⟩,
  ⟨F.nat_Sub, C.nat_Sub, R.nat_Sub, 52⟩,
  ⟨F.nat_Tail, C.nat_Tail, R.nat_Tail, 20⟩,
  ⟨F.dyadic_shifted, C.dyadic_shifted, R.dyadic_shifted, 76⟩,
  ⟨F.nat_Bit, C.nat_Bit, R.nat_Bit, 25⟩,
  ⟨F.nat_From, C.nat_From, R.nat_From, 7⟩,
  ⟨F.dyadic_limb, C.dyadic_limb, R.dyadic_limb, 13⟩,
  ⟨F.nat_told, C.nat_told, R.nat_told, 10⟩,
  ⟨F.bits_TrailingZeros64, C.bits_TrailingZeros64, R.bits_TrailingZeros64, 14⟩,
  ⟨F.nat_Right, C.nat_Right, R.nat_Right, 77⟩]
theorem XT_good : ∀ e ∈ XT, GoodF Tryz.prog e := by
  intro e h
  unfold XT at h
  simp only [List.mem_cons, List.not_mem_nil, or_false] at h
  rcases h with rfl | rfl | rfl | rfl | rfl | rfl | rfl | rfl | rfl | rfl | rfl | rfl | rfl | rfl | rfl | rfl | rfl | rfl | rfl | rfl | rfl | rfl | rfl | rfl | rfl | rfl | rfl | rfl | rfl | rfl | rfl | rfl | rfl | rfl | rfl | rfl | rfl | rfl | rfl | rfl | rfl | rfl | rfl | rfl | rfl | rfl | rfl | rfl | rfl | rfl | rfl | rfl | rfl | rfl | rfl | rfl | rfl | rfl | rfl | rfl | rfl | rfl | rfl | rfl | rfl | rfl | rfl | rfl | rfl
  · exact X.surdlaw10_awake
  · exact X.surdlaw10_num
  · exact X.span_Add
  · exact X.surdref06_Z_Sign
  · exact X.span_check
  · exact X.surdref08_Of
  · exact X.surdref08_D_Is
  · exact X.surdlaw10_small
  · exact X.surdref08_Int
  · exact X.span_checks
  · exact X.dyadic_Compare
  · exact X.dyadic_Round
  · exact X.span_worst
  · exact X.surdref01_Int
  · exact X.span_sums
  · exact X.surdref01_Num_Zero
  · exact X.span_ends
  · exact X.surdref01_Num_Tail
  · exact X.surdref01_Shr
  · exact X.surdref06_make1
  · exact X.surdref01_Of
  · exact X.surdref06_Z_Is
  · exact X.surdref06_Int
  · exact X.dyadic_two
  · exact X.dyadic_compare
  · exact X.whole_Sign
  · exact X.dyadic_sum
  · exact X.dyadic_part_sign
  · exact X.dyadic_read
  · exact X.dyadic_within
  · exact X.dyadic_direction
  · exact X.dyadic_rounded
  · exact X.surdref01_norm
  · exact X.surdref01_Num_Bit
  · exact X.dyadic_Add
  · exact X.span_outward
  · exact X.dyadic_told
  · exact X.surdref01_Num_at
  · exact X.surdref01_Num_Is
  · exact X.dyadic_number_top
  · exact X.dyadic_left
  · exact X.nat_Compare
  · exact X.nat_Length
  · exact X.whole_Make
  · exact X.dyadic_long
  · exact X.whole_Add
  · exact X.dyadic_odd
  · exact X.dyadic_steps
  · exact X.whole_result
  · exact X.dyadic_part_length
  · exact X.surdref01_Num_Limbs
  · exact X.nat_Left
  · exact X.nat_Norm
  · exact X.nat_trim
  · exact X.bits_Len64
  · exact X.whole_fits
  · exact X.dyadic_minus
  · exact X.dyadic_plus
  · exact X.whole_norm
  · exact X.nat_Add
  · exact X.nat_Sub
  · exact X.nat_Tail
  · exact X.dyadic_shifted
  · exact X.nat_Bit
  · exact X.nat_From
  · exact X.dyadic_limb
  · exact X.nat_told
  · exact X.bits_TrailingZeros64
  · exact X.nat_Right
end Go.Proofs.YtacodmnlnlbahaaGreatDoor
set_option maxRecDepth 100000
namespace Go.Proofs.YtacodmnlnlbahaaGreatDoor
open Go.VM
theorem hm9 : Tryz.prog.follows .mixedOrders = true := by kernel_rfl
def orcNo : XOrc := fun _ _ => none
theorem orcNo_ok : OrcOk Tryz.prog orcNo := fun f xs v h => by cases h
theorem awake_spec (c : Nat) : VSpec Tryz.prog F.surdlaw10_awake c [] (fun r _ => r = bv true) := by
  obtain ⟨c', h⟩ := xcall_p hm9 orcNo_ok XT_good (lend := fun _ => false) (rounds := 100000) (n := 60) (c := 0) (f := F.surdlaw10_awake) (xs := []) (v := bv true) (by kernel_rfl)
  exact ⟨_, c, Nat.le_refl _, h.at c, rfl⟩
end Go.Proofs.YtacodmnlnlbahaaGreatDoor
set_option linter.unusedSimpArgs false
set_option linter.unusedVariables false
set_option maxRecDepth 100000
set_option maxHeartbeats 60000000
namespace Go.Proofs.YtacodmnlnlbahaaGreatDoor
open Go.VM Go.RowKit

theorem tE_blT {d : Dy} (h : tE d = 0) : bl d.m ≤ 67108864 := by rcases tE_cases d with ⟨_, h⟩ | ⟨h, _⟩ | ⟨h, _⟩ <;> omega
theorem RSum.ex {x y : Dy} {v : V} (h : RSum x y v) : ∃ ok k, ∃ lo : Dy, v = .tup [fV k lo, bv ok] ∧ (ok = true → lo = addD x y ∧ bl lo.m ≤ 2000000001) := by
  rcases h with ⟨h, k, rfl⟩ | ⟨h, k, rfl⟩
  · exact ⟨true, k, _, rfl, fun _ => ⟨rfl, h⟩⟩
  · exact ⟨false, k, _, rfl, fun h => by cases h⟩
theorem anE_told {f : Int} {x y : Dy} (h : anE f x y = 0) : f = 0 ∧ tE x = 0 ∧ tE y = 0 ∧ anL f x y = x ∧ anH f x y = y := by
  unfold anE at h
  by_cases g : f = 0
  · rw [if_pos g] at h
    obtain ⟨h1, h2⟩ := ansE_zero.1 h
    subst g
    exact ⟨rfl, h1, h2, if_pos h, if_pos h⟩
  · rw [if_neg g] at h; exact absurd h g
theorem rds_of (t u : Tok) (x y : Dy) (c : Nat) (hx : x.Ok) (hy : y.Ok) (h1 : tE x = 0) (h2 : tE y = 0) : VSpec Tryz.prog F.surdlaw10_reads c [rsV t u (RD.of x) (RD.of y)] (fun r _ => ∃ tk uk, r = fsV tk uk x y) := by
  obtain ⟨k1, e1⟩ := told_ok hx h1
  obtain ⟨k2, e2⟩ := told_ok hy h2
  have h := rds10_spec t u (RD.of x) (RD.of y) c k1 k2
  rw [e1, e2] at h
  exact h
theorem told_r' {d : Dy} (hd : d.Ok) (h : tE d = 0) : RNum d := by
  obtain ⟨k, e⟩ := told_ok hd h
  have := k.num.r
  rw [e] at this
  exact this
theorem mn_in {e1 e2 e3 e4 : Dy} : mnN e1 e2 e3 e4 3 = e1 ∨ mnN e1 e2 e3 e4 3 = e2 ∨ mnN e1 e2 e3 e4 3 = e3 ∨ mnN e1 e2 e3 e4 3 = e4 := by
  show minD (minD (minD e1 e2) e3) e4 = e1 ∨ minD (minD (minD e1 e2) e3) e4 = e2 ∨ minD (minD (minD e1 e2) e3) e4 = e3 ∨ minD (minD (minD e1 e2) e3) e4 = e4
  have key : ∀ x y : Dy, minD x y = x ∨ minD x y = y := fun x y => by unfold minD; split <;> simp
  rcases key (minD (minD e1 e2) e3) e4 with h | h
  · rw [h]
    rcases key (minD e1 e2) e3 with h | h
    · rw [h]
      rcases key e1 e2 with h | h
      · exact .inl h
      · exact .inr (.inl h)
    · exact .inr (.inr (.inl h))
  · exact .inr (.inr (.inr h))
theorem mx_in {e1 e2 e3 e4 : Dy} : mxN e1 e2 e3 e4 3 = e1 ∨ mxN e1 e2 e3 e4 3 = e2 ∨ mxN e1 e2 e3 e4 3 = e3 ∨ mxN e1 e2 e3 e4 3 = e4 := by
  show maxD (maxD (maxD e1 e2) e3) e4 = e1 ∨ maxD (maxD (maxD e1 e2) e3) e4 = e2 ∨ maxD (maxD (maxD e1 e2) e3) e4 = e3 ∨ maxD (maxD (maxD e1 e2) e3) e4 = e4
  have key : ∀ x y : Dy, maxD x y = x ∨ maxD x y = y := fun x y => by unfold maxD; split <;> simp
  rcases key (maxD (maxD e1 e2) e3) e4 with h | h
  · rw [h]
    rcases key (maxD e1 e2) e3 with h | h
    · rw [h]
      rcases key e1 e2 with h | h
      · exact .inl h
      · exact .inr (.inl h)
    · exact .inr (.inr (.inl h))
  · exact .inr (.inr (.inr h))
theorem sqL_in {x y : Dy} : sqL x y = mulD x x ∨ sqL x y = mulD y y ∨ sqL x y = dy0 := by
  unfold sqL
  split
  · exact .inr (.inr rfl)
  · split
    · exact .inr (.inl rfl)
    · exact .inl rfl
theorem sqH_in {x y : Dy} : sqH x y = mulD x x ∨ sqH x y = mulD y y := by
  unfold sqH
  split
  · exact .inl rfl
  · exact .inr rfl
theorem sqL_ok (x y : Dy) : (sqL x y).Ok := by rcases sqL_in (x := x) (y := y) with h | h | h <;> rw [h] <;> first | exact mulD_ok _ _ | exact dy0_ok
theorem sqH_ok (x y : Dy) : (sqH x y).Ok := by rcases sqH_in (x := x) (y := y) with h | h <;> rw [h] <;> exact mulD_ok _ _
theorem dy0_r : RNum dy0 := ⟨dy0_ok, by decide, by decide, by decide⟩
theorem mn_ok {e1 e2 e3 e4 : Dy} (h1 : e1.Ok) (h2 : e2.Ok) (h3 : e3.Ok) (h4 : e4.Ok) : (mnN e1 e2 e3 e4 3).Ok := by rcases mn_in (e1 := e1) (e2 := e2) (e3 := e3) (e4 := e4) with h | h | h | h <;> rw [h] <;> assumption
theorem mx_ok {e1 e2 e3 e4 : Dy} (h1 : e1.Ok) (h2 : e2.Ok) (h3 : e3.Ok) (h4 : e4.Ok) : (mxN e1 e2 e3 e4 3).Ok := by rcases mx_in (e1 := e1) (e2 := e2) (e3 := e3) (e4 := e4) with h | h | h | h <;> rw [h] <;> assumption
theorem mulD_bl {x y : Dy} (hx : Num x) (hy : Num y) : bl (mulD x y).m ≤ 134217728 := by
  have h5 := hx.bits
  have h6 := hy.bits
  exact Nat.le_trans (dyOf_bl (e := x.e + y.e) (neg := x.neg != y.neg)) (Nat.le_trans (bl_mul_le _ _) (by omega))
theorem tight_law (t u t' u' : Tok) (a b p q : RD) (pos : Int) (c : Nat) (ha : Arg a.l) (hb : Arg b.l) (hp : Arg p.l) (hq : Arg q.l) (ht : Kn c t) (hu : Kn c u) (ht' : Kn c t') (hu' : Kn c u') (hk1 : -9223372036854775808 ≤ pos) (hk2 : pos < 9223372036854775808) :
    VSpec Tryz.prog F.surdlaw10_SpanTight c [rsV t u a b, rsV t' u' p q, iv pos] (fun r _ => r = bv true) := by
  refine spec_mk hm E.surdlaw10_SpanTight B.surdlaw10_SpanTight K.surdlaw10_SpanTight Q.surdlaw10_SpanTight (by rw [N.surdlaw10_SpanTight]; simp) ?_
  unfold C.surdlaw10_SpanTight R.surdlaw10_SpanTight
  refine zR ?_
  refine s_call (ofS_spec t u a b (c + 2) ha hb) wS ?_
  rintro v c1 hc1 ⟨w1, w2', rfl⟩
  refine zR ?_
  refine s_call (ofS_spec t' u' p q (c1 + 1) hp hq) wS ?_
  rintro v c2 hc2 ⟨w3, w4, rfl⟩
  by_cases kf : chkE a b = 0
  rotate_left
  · refine zRF kf ?_
    refine s_call (awake_spec (c2 + 1)) wS ?_
    rintro v c3 hc3 rfl
    refine zR ?_
    (first | omega | rfl | ((repeat' apply And.intro) <;> first | rfl | omega | assumption))
  by_cases kg : chkE p q = 0
  rotate_left
  · refine zRF (jn kf kg) ?_
    refine s_call (awake_spec (c2 + 1)) wS ?_
    rintro v c3 hc3 rfl
    refine zR ?_
    (first | omega | rfl | ((repeat' apply And.intro) <;> first | rfl | omega | assumption))
  refine zRF (jn kf kg) ?_
  refine s_call (fits_spec' pos (c2 + 1)) wS ?_
  rintro v c3 hc3 rfl
  by_cases kp : fitE pos
  rotate_left
  · refine zRF kp ?_
    refine s_call (awake_spec c3) wS ?_
    rintro v c4 hc4 rfl
    refine zR ?_
    (first | omega | rfl | ((repeat' apply And.intro) <;> first | rfl | omega | assumption))
  obtain ⟨fa, fb, _⟩ := chk_ok kf
  obtain ⟨fp, fq, _⟩ := chk_ok kg
  have na : Num a.d := RD.Ok.num ⟨ha, fa⟩
  have nb : Num b.d := RD.Ok.num ⟨hb, fb⟩
  have np : Num p.d := RD.Ok.num ⟨hp, fp⟩
  have nq : Num q.d := RD.Ok.num ⟨hq, fq⟩
  have hw : w2 pos (chkE a b) (chkE p q) = 0 := by unfold w2; rw [if_pos kf, if_pos kg, if_pos kp]
  have ea : addF pos a b p q = worstE (tE (addD a.d p.d)) (tE (addD b.d q.d)) := if_pos hw
  have em : mulF pos a b p q = mulW (mulD a.d p.d) (mulD a.d q.d) (mulD b.d p.d) (mulD b.d q.d) := if_pos hw
  have okz : ∀ d : Dy, okL 0 d = d := fun _ => rfl
  simp only [okz]
  refine zRF kp ?_
  refine s_call (in10_spec t u a b c3) wS ?_
  rintro v c4 hc4 rfl
  refine zR ?_
  refine s_call (in10_spec t' u' p q c4) wS ?_
  rintro v c5 hc5 rfl
  refine zR ?_
  refine s_call (addS_spec t u t' u' a b p q pos c5 ha hb hp hq) wS ?_
  rw [ea]
  rintro v c6 hc6 hv
  obtain ⟨p1, p2, m1, _, _, rfl, _, _⟩ := hv.an (by omega)
  refine zRF @nb_app ?_
  refine s_call (in10_spec t u a b (c6 + 1)) wS ?_
  rintro v c7 hc7 rfl
  refine zR ?_
  refine s_call (in10_spec t' u' p q c7) wS ?_
  rintro v c8 hc8 rfl
  refine zR ?_
  refine s_call (mulS_spec t u t' u' a b p q pos c8 ha hb hp hq) wS ?_
  rw [em]
  rintro v c9 hc9 hv
  obtain ⟨q1, q2, m2, _, _, rfl, _, _⟩ := hv.an (by omega)
  refine zRF @nb_app ?_
  refine s_call (in10_spec t u a b (c9 + 1)) wS ?_
  rintro v c10 hc10 rfl
  refine zR ?_
  refine s_call (ssq_spec t u a b pos c10 ⟨ha, fa⟩ ⟨hb, fb⟩ kf kp) wS ?_
  rintro v c11 hc11 hv
  obtain ⟨r1, r2, m3, _, _, rfl, _, _⟩ := hv.an (by omega)
  refine zR ?_
  refine s_call (radd_spec w1 w3 a.d p.d (c11 + 1) na.r np.r (by have := na.bits; omega) (by have := np.bits; omega)) wS ?_
  rintro v c12 hc12 hv
  obtain ⟨ok1, k1, lo, rfl, hok1⟩ := hv.ex
  have sp2 := fun cc => radd_spec w2' w4 b.d q.d cc nb.r nq.r (by have := nb.bits; omega) (by have := nq.bits; omega)
  have hF1 : worstE (tE (addD a.d p.d)) (tE (addD b.d q.d)) = 0 → tE (addD a.d p.d) = 0 ∧ tE (addD b.d q.d) = 0 := worst_zero.1
  have hF2 : mulW (mulD a.d p.d) (mulD a.d q.d) (mulD b.d p.d) (mulD b.d q.d) = 0 → tE (mulD a.d p.d) = 0 ∧ tE (mulD a.d q.d) = 0 ∧ tE (mulD b.d p.d) = 0 ∧ tE (mulD b.d q.d) = 0 := mulW_zero
  have hF3 : worstE (tE (sqL a.d b.d)) (tE (sqH a.d b.d)) = 0 → tE (sqL a.d b.d) = 0 ∧ tE (sqH a.d b.d) = 0 := worst_zero.1
  clear ea em hw hv
  obtain ⟨F1, dF1⟩ : ∃ F1, F1 = worstE (tE (addD a.d p.d)) (tE (addD b.d q.d)) := ⟨_, rfl⟩
  obtain ⟨F2, dF2⟩ : ∃ F2, F2 = mulW (mulD a.d p.d) (mulD a.d q.d) (mulD b.d p.d) (mulD b.d q.d) := ⟨_, rfl⟩
  obtain ⟨F3, dF3⟩ : ∃ F3, F3 = worstE (tE (sqL a.d b.d)) (tE (sqH a.d b.d)) := ⟨_, rfl⟩
  obtain ⟨L1, dL1⟩ : ∃ L1, L1 = rD (addD a.d p.d) pos false := ⟨_, rfl⟩
  obtain ⟨H1, dH1⟩ : ∃ H1, H1 = rD (addD b.d q.d) pos true := ⟨_, rfl⟩
  obtain ⟨L2, dL2⟩ : ∃ L2, L2 = rD (mnP a.d b.d p.d q.d) pos false := ⟨_, rfl⟩
  obtain ⟨H2, dH2⟩ : ∃ H2, H2 = rD (mxP a.d b.d p.d q.d) pos true := ⟨_, rfl⟩
  obtain ⟨L3, dL3⟩ : ∃ L3, L3 = rD (sqL a.d b.d) pos false := ⟨_, rfl⟩
  obtain ⟨H3, dH3⟩ : ∃ H3, H3 = rD (sqH a.d b.d) pos true := ⟨_, rfl⟩
  rw [← dF1, ← dF2, ← dF3, ← dL1, ← dH1, ← dL2, ← dH2, ← dL3, ← dH3]
  rw [← dF1] at hF1
  rw [← dF2] at hF2
  rw [← dF3] at hF3
  refine zS ?_
  refine v_cut (fun S => ∃ ok2 k2 ph, ∃ hi : Dy, (ok2 = true → hi = addD b.d q.d ∧ bl hi.m ≤ 2000000001) ∧ c12 < ph ∧ ph < S.c ∧ S.ρ 2 = iv pos ∧ S.ρ 7 = .ptr c1 0 ∧ S.ρ 9 = .ptr c2 0 ∧ S.ρ 11 = .ptr c6 0 ∧ S.ρ 12 = iv (anE F1 L1 H1) ∧ S.ρ 13 = .ptr c9 0 ∧ S.ρ 14 = iv (anE F2 L2 H2) ∧ S.ρ 15 = .ptr c11 0 ∧ S.ρ 16 = iv (anE F3 L3 H3) ∧ S.ρ 17 = .ptr c12 0 ∧ S.ρ 18 = bv ok1 ∧ S.ρ 19 = .ptr ph 0 ∧ S.ρ 20 = bv ok2 ∧ S.σ c1 = some ⟨[bv a.d.neg, nats w1 (digs 4294967296 a.d.m), iv a.d.e, bv b.d.neg, nats w2' (digs 4294967296 b.d.m), iv b.d.e], true⟩ ∧ S.σ c2 = some ⟨[bv p.d.neg, nats w3 (digs 4294967296 p.d.m), iv p.d.e, bv q.d.neg, nats w4 (digs 4294967296 q.d.m), iv q.d.e], true⟩ ∧ S.σ c6 = some ⟨[bv (RD.of (anL F1 L1 H1)).neg, nats p1 (RD.of (anL F1 L1 H1)).l, iv (RD.of (anL F1 L1 H1)).e, bv (RD.of (anH F1 L1 H1)).neg, nats p2 (RD.of (anH F1 L1 H1)).l, iv (RD.of (anH F1 L1 H1)).e], true⟩ ∧ S.σ c9 = some ⟨[bv (RD.of (anL F2 L2 H2)).neg, nats q1 (RD.of (anL F2 L2 H2)).l, iv (RD.of (anL F2 L2 H2)).e, bv (RD.of (anH F2 L2 H2)).neg, nats q2 (RD.of (anH F2 L2 H2)).l, iv (RD.of (anH F2 L2 H2)).e], true⟩ ∧ S.σ c11 = some ⟨[bv (RD.of (anL F3 L3 H3)).neg, nats r1 (RD.of (anL F3 L3 H3)).l, iv (RD.of (anL F3 L3 H3)).e, bv (RD.of (anH F3 L3 H3)).neg, nats r2 (RD.of (anH F3 L3 H3)).l, iv (RD.of (anH F3 L3 H3)).e], true⟩ ∧ S.σ c12 = some ⟨[bv lo.neg, nats k1 (digs 4294967296 lo.m), iv lo.e], true⟩ ∧ S.σ ph = some ⟨[bv hi.neg, nats k2 (digs 4294967296 hi.m), iv hi.e], true⟩ ∧ (∀ z, S.c ≤ z → S.σ z = none) ∧ (c12 + 1) ≤ S.c) ?_ ?_
  · refine zR ?_
    refine s_call (sp2 (c12 + 1)) wS ?_
    rintro v c13 hc13 hv
    obtain ⟨ok2, k2, hi, rfl, hok2⟩ := hv.ex
    refine zR ?_
    refine ⟨ok2, k2, c13, hi, hok2, by omega, by omega, ?_⟩
    (repeat' apply And.intro) <;> first | rfl | omega | assumption | exact if_pos rfl | (intro z hz; (repeat rw [if_neg (by omega)]); rfl)
  rintro ⟨ρ, σ, d0⟩ ⟨ok2, k2, ph, hi, hok2, hph, hph2, yr2, yr7, yr9, yr11, yr12, yr13, yr14, yr15, yr16, yr17, yr18, yr19, yr20, ysc1, ysc2, ysc6, ysc9, ysc11, ysc12, ysph, hfr, hd0⟩
  dsimp only at hph2 yr2 yr7 yr9 yr11 yr12 yr13 yr14 yr15 yr16 yr17 yr18 yr19 yr20 ysc1 ysc2 ysc6 ysc9 ysc11 ysc12 ysph hfr hd0
  clear sp2
  refine v_cut (fun S => S.ρ 2 = iv pos ∧ S.ρ 7 = .ptr c1 0 ∧ S.ρ 9 = .ptr c2 0 ∧ S.ρ 13 = .ptr c9 0 ∧ S.ρ 14 = iv (anE F2 L2 H2) ∧ S.ρ 15 = .ptr c11 0 ∧ S.ρ 16 = iv (anE F3 L3 H3) ∧ S.σ c1 = some ⟨[bv a.d.neg, nats w1 (digs 4294967296 a.d.m), iv a.d.e, bv b.d.neg, nats w2' (digs 4294967296 b.d.m), iv b.d.e], true⟩ ∧ S.σ c2 = some ⟨[bv p.d.neg, nats w3 (digs 4294967296 p.d.m), iv p.d.e, bv q.d.neg, nats w4 (digs 4294967296 q.d.m), iv q.d.e], true⟩ ∧ S.σ c9 = some ⟨[bv (RD.of (anL F2 L2 H2)).neg, nats q1 (RD.of (anL F2 L2 H2)).l, iv (RD.of (anL F2 L2 H2)).e, bv (RD.of (anH F2 L2 H2)).neg, nats q2 (RD.of (anH F2 L2 H2)).l, iv (RD.of (anH F2 L2 H2)).e], true⟩ ∧ S.σ c11 = some ⟨[bv (RD.of (anL F3 L3 H3)).neg, nats r1 (RD.of (anL F3 L3 H3)).l, iv (RD.of (anL F3 L3 H3)).e, bv (RD.of (anH F3 L3 H3)).neg, nats r2 (RD.of (anH F3 L3 H3)).l, iv (RD.of (anH F3 L3 H3)).e], true⟩ ∧ (∀ z, S.c ≤ z → S.σ z = none) ∧ (c12 + 1) ≤ S.c) ?_ ?_
  · by_cases g : anE F1 L1 H1 = 0
    rotate_left
    · refine zRF (jn yr2 (jn yr7 (jn yr9 (jn yr11 (jn yr12 (jn yr13 (jn yr14 (jn yr15 (jn yr16 (jn yr17 (jn yr18 (jn yr19 (jn yr20 (jn ysc1 (jn ysc2 (jn ysc6 (jn ysc9 (jn ysc11 (jn ysc12 ysph))))))))))))))))))) ?_
      refine s_call (num10_spec (anE F1 L1 H1) d0) (wSF (jn yr2 (jn yr7 (jn yr9 (jn yr11 (jn yr12 (jn yr13 (jn yr14 (jn yr15 (jn yr16 (jn yr17 (jn yr18 (jn yr19 (jn yr20 (jn ysc1 (jn ysc2 (jn ysc6 (jn ysc9 (jn ysc11 (jn ysc12 ysph)))))))))))))))))))) ?_
      rintro v d1 hd1 rfl
      refine zRF (jn yr2 (jn yr7 (jn yr9 (jn yr11 (jn yr12 (jn yr13 (jn yr14 (jn yr15 (jn yr16 (jn yr17 (jn yr18 (jn yr19 (jn yr20 (jn ysc1 (jn ysc2 (jn ysc6 (jn ysc9 (jn ysc11 (jn ysc12 (jn ysph g)))))))))))))))))))) ?_
      (repeat' apply And.intro) <;> first | rfl | omega | assumption | (intro z hz; (repeat rw [if_neg (by omega)]); first | rfl | exact hfr z (by omega))
    obtain ⟨g1, g2, g3, g4, g5⟩ := anE_told g
    rw [g] at yr12
    rw [g4, g5] at ysc6
    cases ok1 with
    | false =>
      refine zRF (jn yr2 (jn yr7 (jn yr9 (jn yr11 (jn yr12 (jn yr13 (jn yr14 (jn yr15 (jn yr16 (jn yr17 (jn yr18 (jn yr19 (jn yr20 (jn ysc1 (jn ysc2 (jn ysc6 (jn ysc9 (jn ysc11 (jn ysc12 ysph))))))))))))))))))) ?_
      refine s_call (num10_spec 0 d0) (wSF (jn yr2 (jn yr7 (jn yr9 (jn yr11 (jn yr12 (jn yr13 (jn yr14 (jn yr15 (jn yr16 (jn yr17 (jn yr18 (jn yr19 (jn yr20 (jn ysc1 (jn ysc2 (jn ysc6 (jn ysc9 (jn ysc11 (jn ysc12 ysph)))))))))))))))))))) ?_
      rintro v d1 hd1 rfl
      refine zRF (jn yr2 (jn yr7 (jn yr9 (jn yr11 (jn yr12 (jn yr13 (jn yr14 (jn yr15 (jn yr16 (jn yr17 (jn yr18 (jn yr19 (jn yr20 (jn ysc1 (jn ysc2 (jn ysc6 (jn ysc9 (jn ysc11 (jn ysc12 ysph))))))))))))))))))) ?_
      (repeat' apply And.intro) <;> first | rfl | omega | assumption | (intro z hz; (repeat rw [if_neg (by omega)]); first | rfl | exact hfr z (by omega))
    | true =>
      cases ok2 with
      | false =>
        refine zRF (jn yr2 (jn yr7 (jn yr9 (jn yr11 (jn yr12 (jn yr13 (jn yr14 (jn yr15 (jn yr16 (jn yr17 (jn yr18 (jn yr19 (jn yr20 (jn ysc1 (jn ysc2 (jn ysc6 (jn ysc9 (jn ysc11 (jn ysc12 ysph))))))))))))))))))) ?_
        refine s_call (num10_spec 0 d0) (wSF (jn yr2 (jn yr7 (jn yr9 (jn yr11 (jn yr12 (jn yr13 (jn yr14 (jn yr15 (jn yr16 (jn yr17 (jn yr18 (jn yr19 (jn yr20 (jn ysc1 (jn ysc2 (jn ysc6 (jn ysc9 (jn ysc11 (jn ysc12 ysph)))))))))))))))))))) ?_
        rintro v d1 hd1 rfl
        refine zRF (jn yr2 (jn yr7 (jn yr9 (jn yr11 (jn yr12 (jn yr13 (jn yr14 (jn yr15 (jn yr16 (jn yr17 (jn yr18 (jn yr19 (jn yr20 (jn ysc1 (jn ysc2 (jn ysc6 (jn ysc9 (jn ysc11 (jn ysc12 ysph))))))))))))))))))) ?_
        (repeat' apply And.intro) <;> first | rfl | omega | assumption | (intro z hz; (repeat rw [if_neg (by omega)]); first | rfl | exact hfr z (by omega))
      | true =>
        obtain ⟨e1, e2⟩ := hok1 rfl
        obtain ⟨e3, e4⟩ := hok2 rfl
        obtain ⟨e5, e6⟩ := hF1 g1
        have o1 : L1.Ok := by rw [dL1]; exact rD_ok (addD_ok _ _) _ _
        have o2 : H1.Ok := by rw [dH1]; exact rD_ok (addD_ok _ _) _ _
        have b1 : bl lo.m ≤ 134217728 := by have := tE_blT e5; rw [e1]; omega
        have b2 : bl hi.m ≤ 134217728 := by have := tE_blT e6; rw [e3]; omega
        have n1 : RNum lo := by rw [e1] at e2 ⊢; exact addD_r na np e2
        have n2 : RNum hi := by rw [e3] at e4 ⊢; exact addD_r nb nq e4
        refine zRF (jn yr2 (jn yr7 (jn yr9 (jn yr11 (jn yr12 (jn yr13 (jn yr14 (jn yr15 (jn yr16 (jn yr17 (jn yr18 (jn yr19 (jn yr20 (jn ysc1 (jn ysc2 (jn ysc6 (jn ysc9 (jn ysc11 (jn ysc12 ysph))))))))))))))))))) ?_
        refine s_call (num10_spec 0 d0) (wSF (jn yr2 (jn yr7 (jn yr9 (jn yr11 (jn yr12 (jn yr13 (jn yr14 (jn yr15 (jn yr16 (jn yr17 (jn yr18 (jn yr19 (jn yr20 (jn ysc1 (jn ysc2 (jn ysc6 (jn ysc9 (jn ysc11 (jn ysc12 ysph)))))))))))))))))))) ?_
        rintro v d1 hd1 rfl
        refine zRF (jn yr2 (jn yr7 (jn yr9 (jn yr11 (jn yr12 (jn yr13 (jn yr14 (jn yr15 (jn yr16 (jn yr17 (jn yr18 (jn yr19 (jn yr20 (jn ysc1 (jn ysc2 (jn ysc6 (jn ysc9 (jn ysc11 (jn ysc12 ysph))))))))))))))))))) ?_
        refine s_call (rds_of p1 p2 L1 H1 d1 o1 o2 g2 g3) (wSF (jn yr2 (jn yr7 (jn yr9 (jn yr11 (jn yr12 (jn yr13 (jn yr14 (jn yr15 (jn yr16 (jn yr17 (jn yr18 (jn yr19 (jn yr20 (jn ysc1 (jn ysc2 (jn ysc6 (jn ysc9 (jn ysc11 (jn ysc12 ysph)))))))))))))))))))) ?_
        rintro v d2 hd2 ⟨x1, x2, rfl⟩
        refine zRF (jn yr2 (jn yr7 (jn yr9 (jn yr11 (jn yr12 (jn yr13 (jn yr14 (jn yr15 (jn yr16 (jn yr17 (jn yr18 (jn yr19 (jn yr20 (jn ysc1 (jn ysc2 (jn ysc6 (jn ysc9 (jn ysc11 (jn ysc12 ysph))))))))))))))))))) ?_
        refine s_call (close_spec x1 .unk L1 pos [(k1, lo)] d2 (fun z hz => by simp only [List.mem_cons, List.not_mem_nil, or_false] at hz; subst hz; exact ⟨n1, b1⟩) (told_r' o1 g2) kp (by rw [dL1]; exact rD_at _ _ _) ⟨(k1, lo), by simp, false, by rw [dL1, e1]⟩ (by simp)) (wSrF (jn yr2 (jn yr7 (jn yr9 (jn yr11 (jn yr12 (jn yr13 (jn yr14 (jn yr15 (jn yr16 (jn yr17 (jn yr18 (jn yr19 (jn yr20 (jn ysc1 (jn ysc2 (jn ysc6 (jn ysc9 (jn ysc11 (jn ysc12 ysph)))))))))))))))))))) ?_
        rintro v d3 hd3 rfl
        refine zRF (jn yr2 (jn yr7 (jn yr9 (jn yr11 (jn yr12 (jn yr13 (jn yr14 (jn yr15 (jn yr16 (jn yr17 (jn yr18 (jn yr19 (jn yr20 (jn ysc1 (jn ysc2 (jn ysc6 (jn ysc9 (jn ysc11 (jn ysc12 ysph))))))))))))))))))) ?_
        refine s_call (rds_of p1 p2 L1 H1 d3 o1 o2 g2 g3) (wSF (jn yr2 (jn yr7 (jn yr9 (jn yr11 (jn yr12 (jn yr13 (jn yr14 (jn yr15 (jn yr16 (jn yr17 (jn yr18 (jn yr19 (jn yr20 (jn ysc1 (jn ysc2 (jn ysc6 (jn ysc9 (jn ysc11 (jn ysc12 ysph)))))))))))))))))))) ?_
        rintro v d4 hd4 ⟨x3, x4, rfl⟩
        refine zRF (jn yr2 (jn yr7 (jn yr9 (jn yr11 (jn yr12 (jn yr13 (jn yr14 (jn yr15 (jn yr16 (jn yr17 (jn yr18 (jn yr19 (jn yr20 (jn ysc1 (jn ysc2 (jn ysc6 (jn ysc9 (jn ysc11 (jn ysc12 ysph))))))))))))))))))) ?_
        refine s_call (close_spec x4 .unk H1 pos [(k2, hi)] d4 (fun z hz => by simp only [List.mem_cons, List.not_mem_nil, or_false] at hz; subst hz; exact ⟨n2, b2⟩) (told_r' o2 g3) kp (by rw [dH1]; exact rD_at _ _ _) ⟨(k2, hi), by simp, true, by rw [dH1, e3]⟩ (by simp)) (wSrF (jn yr2 (jn yr7 (jn yr9 (jn yr11 (jn yr12 (jn yr13 (jn yr14 (jn yr15 (jn yr16 (jn yr17 (jn yr18 (jn yr19 (jn yr20 (jn ysc1 (jn ysc2 (jn ysc6 (jn ysc9 (jn ysc11 (jn ysc12 ysph)))))))))))))))))))) ?_
        rintro v d5 hd5 rfl
        refine zRF (jn yr2 (jn yr7 (jn yr9 (jn yr11 (jn yr12 (jn yr13 (jn yr14 (jn yr15 (jn yr16 (jn yr17 (jn yr18 (jn yr19 (jn yr20 (jn ysc1 (jn ysc2 (jn ysc6 (jn ysc9 (jn ysc11 (jn ysc12 ysph))))))))))))))))))) ?_
        (repeat' apply And.intro) <;> first | rfl | omega | assumption | (intro z hz; (repeat rw [if_neg (by omega)]); first | rfl | exact hfr z (by omega))
  clear yr2 yr7 yr9 yr11 yr12 yr13 yr14 yr15 yr16 yr17 yr18 yr19 yr20 ysc1 ysc2 ysc6 ysc9 ysc11 ysc12 ysph hok1 hok2 hF1 dF1 dL1 dH1 hph hph2 hfr
  rintro ⟨ρ1, σ1, e0⟩ ⟨xr2, xr7, xr9, xr13, xr14, xr15, xr16, xsc1, xsc2, xsc9, xsc11, hfr, he0⟩
  dsimp only at xr2 xr7 xr9 xr13 xr14 xr15 xr16 xsc1 xsc2 xsc9 xsc11 hfr he0
  have m1' := mulD_r na np
  have m2' := mulD_r na nq
  have m3' := mulD_r nb np
  have m4' := mulD_r nb nq
  have l1' := mulD_bl na np
  have l2' := mulD_bl na nq
  have l3' := mulD_bl nb np
  have l4' := mulD_bl nb nq
  have na1 := na.bits
  have nb1 := nb.bits
  have np1 := np.bits
  have nq1 := nq.bits
  refine zRF (jn xr2 (jn xr7 (jn xr9 (jn xr13 (jn xr14 (jn xr15 (jn xr16 (jn xsc1 (jn xsc2 (jn xsc9 xsc11)))))))))) ?_
  refine s_call (rmul_spec w1 w3 a.d p.d e0 na.r np.r (by omega) (by omega)) (wSF (jn xr2 (jn xr7 (jn xr9 (jn xr13 (jn xr14 (jn xr15 (jn xr16 (jn xsc1 (jn xsc2 (jn xsc9 xsc11))))))))))) ?_
  rintro v e1 he1 ⟨k1, rfl⟩
  refine zRF (jn xr2 (jn xr7 (jn xr9 (jn xr13 (jn xr14 (jn xr15 (jn xr16 (jn xsc1 (jn xsc2 (jn xsc9 xsc11)))))))))) ?_
  refine s_call (rmul_spec w1 w4 a.d q.d e1 na.r nq.r (by omega) (by omega)) (wSF (jn xr2 (jn xr7 (jn xr9 (jn xr13 (jn xr14 (jn xr15 (jn xr16 (jn xsc1 (jn xsc2 (jn xsc9 xsc11))))))))))) ?_
  rintro v e2 he2 ⟨k2, rfl⟩
  refine zRF (jn xr2 (jn xr7 (jn xr9 (jn xr13 (jn xr14 (jn xr15 (jn xr16 (jn xsc1 (jn xsc2 (jn xsc9 xsc11)))))))))) ?_
  refine s_call (rmul_spec w2' w3 b.d p.d e2 nb.r np.r (by omega) (by omega)) (wSF (jn xr2 (jn xr7 (jn xr9 (jn xr13 (jn xr14 (jn xr15 (jn xr16 (jn xsc1 (jn xsc2 (jn xsc9 xsc11))))))))))) ?_
  rintro v e3 he3 ⟨k3, rfl⟩
  refine zRF (jn xr2 (jn xr7 (jn xr9 (jn xr13 (jn xr14 (jn xr15 (jn xr16 (jn xsc1 (jn xsc2 (jn xsc9 xsc11)))))))))) ?_
  refine s_call (rmul_spec w2' w4 b.d q.d e3 nb.r nq.r (by omega) (by omega)) (wSF (jn xr2 (jn xr7 (jn xr9 (jn xr13 (jn xr14 (jn xr15 (jn xr16 (jn xsc1 (jn xsc2 (jn xsc9 xsc11))))))))))) ?_
  rintro v e4 he4 ⟨k4, rfl⟩
  have f0 : σ1 e4 = none := hfr e4 (by omega)
  have f1 : σ1 (e4 + 1) = none := hfr (e4 + 1) (by omega)
  have f2 : σ1 (e4 + 1 + 1) = none := hfr (e4 + 1 + 1) (by omega)
  have f3 : σ1 (e4 + 1 + 1 + 1) = none := hfr (e4 + 1 + 1 + 1) (by omega)
  refine zSF (jn xr2 (jn xr7 (jn xr9 (jn xr13 (jn xr14 (jn xr15 (jn xr16 (jn xsc1 (jn xsc2 (jn xsc9 (jn xsc11 (jn f0 (jn f1 (jn f2 f3)))))))))))))) ?_
  refine v_cut (fun S => S.ρ 2 = iv pos ∧ S.ρ 7 = .ptr c1 0 ∧ S.ρ 15 = .ptr c11 0 ∧ S.ρ 16 = iv (anE F3 L3 H3) ∧ S.σ c1 = some ⟨[bv a.d.neg, nats w1 (digs 4294967296 a.d.m), iv a.d.e, bv b.d.neg, nats w2' (digs 4294967296 b.d.m), iv b.d.e], true⟩ ∧ S.σ c11 = some ⟨[bv (RD.of (anL F3 L3 H3)).neg, nats r1 (RD.of (anL F3 L3 H3)).l, iv (RD.of (anL F3 L3 H3)).e, bv (RD.of (anH F3 L3 H3)).neg, nats r2 (RD.of (anH F3 L3 H3)).l, iv (RD.of (anH F3 L3 H3)).e], true⟩ ∧ (∀ z, S.c ≤ z → S.σ z = none) ∧ (c12 + 1) ≤ S.c) ?_ ?_
  · by_cases g : anE F2 L2 H2 = 0
    rotate_left
    · refine zRF (jn xr2 (jn xr7 (jn xr9 (jn xr13 (jn xr14 (jn xr15 (jn xr16 (jn xsc1 (jn xsc2 (jn xsc9 xsc11)))))))))) ?_
      refine s_call (num10_spec (anE F2 L2 H2) (e4 + 1 + 1 + 1 + 1)) (wSF (jn xr2 (jn xr7 (jn xr9 (jn xr13 (jn xr14 (jn xr15 (jn xr16 (jn xsc1 (jn xsc2 (jn xsc9 xsc11))))))))))) ?_
      rintro v d1 hd1 rfl
      refine zRF (jn xr2 (jn xr7 (jn xr9 (jn xr13 (jn xr14 (jn xr15 (jn xr16 (jn xsc1 (jn xsc2 (jn xsc9 (jn xsc11 g))))))))))) ?_
      (repeat' apply And.intro) <;> first | rfl | omega | assumption | (intro z hz; (repeat rw [if_neg (by omega)]); first | rfl | exact hfr z (by omega))
    obtain ⟨g1, g2, g3, g4, g5⟩ := anE_told g
    rw [g] at xr14
    rw [g4, g5] at xsc9
    obtain ⟨z1, z2, z3, z4⟩ := hF2 g1
    have o1 : L2.Ok := by rw [dL2]; exact rD_ok (mn_ok (mulD_ok _ _) (mulD_ok _ _) (mulD_ok _ _) (mulD_ok _ _)) _ _
    have o2 : H2.Ok := by rw [dH2]; exact rD_ok (mx_ok (mulD_ok _ _) (mulD_ok _ _) (mulD_ok _ _) (mulD_ok _ _)) _ _
    have hall : ∀ z ∈ [(k1, mulD a.d p.d), (k2, mulD a.d q.d), (k3, mulD b.d p.d), (k4, mulD b.d q.d)], RNum z.2 ∧ bl z.2.m ≤ 134217728 := fun z hz => by
      simp only [List.mem_cons, List.not_mem_nil, or_false] at hz
      rcases hz with rfl | rfl | rfl | rfl
      · exact ⟨m1', l1'⟩
      · exact ⟨m2', l2'⟩
      · exact ⟨m3', l3'⟩
      · exact ⟨m4', l4'⟩
    have hexL : ∃ z ∈ [(k1, mulD a.d p.d), (k2, mulD a.d q.d), (k3, mulD b.d p.d), (k4, mulD b.d q.d)], ∃ up, L2 = rD z.2 pos up := by
      rcases mn_in (e1 := mulD a.d p.d) (e2 := mulD a.d q.d) (e3 := mulD b.d p.d) (e4 := mulD b.d q.d) with h | h | h | h
      · exact ⟨(k1, mulD a.d p.d), by simp, false, by rw [dL2]; unfold mnP; rw [h]⟩
      · exact ⟨(k2, mulD a.d q.d), by simp, false, by rw [dL2]; unfold mnP; rw [h]⟩
      · exact ⟨(k3, mulD b.d p.d), by simp, false, by rw [dL2]; unfold mnP; rw [h]⟩
      · exact ⟨(k4, mulD b.d q.d), by simp, false, by rw [dL2]; unfold mnP; rw [h]⟩
    have hexH : ∃ z ∈ [(k1, mulD a.d p.d), (k2, mulD a.d q.d), (k3, mulD b.d p.d), (k4, mulD b.d q.d)], ∃ up, H2 = rD z.2 pos up := by
      rcases mx_in (e1 := mulD a.d p.d) (e2 := mulD a.d q.d) (e3 := mulD b.d p.d) (e4 := mulD b.d q.d) with h | h | h | h
      · exact ⟨(k1, mulD a.d p.d), by simp, true, by rw [dH2]; unfold mxP; rw [h]⟩
      · exact ⟨(k2, mulD a.d q.d), by simp, true, by rw [dH2]; unfold mxP; rw [h]⟩
      · exact ⟨(k3, mulD b.d p.d), by simp, true, by rw [dH2]; unfold mxP; rw [h]⟩
      · exact ⟨(k4, mulD b.d q.d), by simp, true, by rw [dH2]; unfold mxP; rw [h]⟩
    refine zRF (jn xr2 (jn xr7 (jn xr9 (jn xr13 (jn xr14 (jn xr15 (jn xr16 (jn xsc1 (jn xsc2 (jn xsc9 xsc11)))))))))) ?_
    refine s_call (num10_spec 0 (e4 + 1 + 1 + 1 + 1)) (wSF (jn xr2 (jn xr7 (jn xr9 (jn xr13 (jn xr14 (jn xr15 (jn xr16 (jn xsc1 (jn xsc2 (jn xsc9 xsc11))))))))))) ?_
    rintro v d1 hd1 rfl
    refine zRF (jn xr2 (jn xr7 (jn xr9 (jn xr13 (jn xr14 (jn xr15 (jn xr16 (jn xsc1 (jn xsc2 (jn xsc9 xsc11)))))))))) ?_
    refine s_call (rds_of q1 q2 L2 H2 d1 o1 o2 g2 g3) (wSF (jn xr2 (jn xr7 (jn xr9 (jn xr13 (jn xr14 (jn xr15 (jn xr16 (jn xsc1 (jn xsc2 (jn xsc9 xsc11))))))))))) ?_
    rintro v d2 hd2 ⟨x1, x2, rfl⟩
    refine zRF (jn xr2 (jn xr7 (jn xr9 (jn xr13 (jn xr14 (jn xr15 (jn xr16 (jn xsc1 (jn xsc2 (jn xsc9 xsc11)))))))))) ?_
    refine s_call (close_spec x1 .unk L2 pos [(k1, mulD a.d p.d), (k2, mulD a.d q.d), (k3, mulD b.d p.d), (k4, mulD b.d q.d)] d2 hall (told_r' o1 g2) kp (by rw [dL2]; exact rD_at _ _ _) hexL (by simp)) (wSrF (jn xr2 (jn xr7 (jn xr9 (jn xr13 (jn xr14 (jn xr15 (jn xr16 (jn xsc1 (jn xsc2 (jn xsc9 xsc11))))))))))) ?_
    rintro v d3 hd3 rfl
    refine zRF (jn xr2 (jn xr7 (jn xr9 (jn xr13 (jn xr14 (jn xr15 (jn xr16 (jn xsc1 (jn xsc2 (jn xsc9 xsc11)))))))))) ?_
    refine s_call (rds_of q1 q2 L2 H2 d3 o1 o2 g2 g3) (wSF (jn xr2 (jn xr7 (jn xr9 (jn xr13 (jn xr14 (jn xr15 (jn xr16 (jn xsc1 (jn xsc2 (jn xsc9 xsc11))))))))))) ?_
    rintro v d4 hd4 ⟨x3, x4, rfl⟩
    refine zRF (jn xr2 (jn xr7 (jn xr9 (jn xr13 (jn xr14 (jn xr15 (jn xr16 (jn xsc1 (jn xsc2 (jn xsc9 xsc11)))))))))) ?_
    refine s_call (close_spec x4 .unk H2 pos [(k1, mulD a.d p.d), (k2, mulD a.d q.d), (k3, mulD b.d p.d), (k4, mulD b.d q.d)] d4 hall (told_r' o2 g3) kp (by rw [dH2]; exact rD_at _ _ _) hexH (by simp)) (wSrF (jn xr2 (jn xr7 (jn xr9 (jn xr13 (jn xr14 (jn xr15 (jn xr16 (jn xsc1 (jn xsc2 (jn xsc9 xsc11))))))))))) ?_
    rintro v d5 hd5 rfl
    refine zRF (jn xr2 (jn xr7 (jn xr9 (jn xr13 (jn xr14 (jn xr15 (jn xr16 (jn xsc1 (jn xsc2 (jn xsc9 xsc11)))))))))) ?_
    (repeat' apply And.intro) <;> first | rfl | omega | assumption | (intro z hz; (repeat rw [if_neg (by omega)]); first | rfl | exact hfr z (by omega))
  clear xr2 xr7 xr9 xr13 xr14 xr15 xr16 xsc1 xsc2 xsc9 xsc11 hF2 dF2 dL2 dH2 hfr f0 f1 f2 f3
  rintro ⟨ρ2, σ2, h0⟩ ⟨zr2, zr7, zr15, zr16, zsc1, zsc11, hfr, hh0⟩
  dsimp only at zr2 zr7 zr15 zr16 zsc1 zsc11 hfr hh0
  have s1' := mulD_r na na
  have s2' := mulD_r nb nb
  have t1' := mulD_bl na na
  have t2' := mulD_bl nb nb
  refine zRF (jn zr2 (jn zr7 (jn zr15 (jn zr16 (jn zsc1 zsc11))))) ?_
  refine s_call (rmul_spec w1 w1 a.d a.d h0 na.r na.r (by omega) (by omega)) (wSF (jn zr2 (jn zr7 (jn zr15 (jn zr16 (jn zsc1 zsc11)))))) ?_
  rintro v h1 hh1 ⟨k1, rfl⟩
  refine zRF (jn zr2 (jn zr7 (jn zr15 (jn zr16 (jn zsc1 zsc11))))) ?_
  refine s_call (rmul_spec w2' w2' b.d b.d h1 nb.r nb.r (by omega) (by omega)) (wSF (jn zr2 (jn zr7 (jn zr15 (jn zr16 (jn zsc1 zsc11)))))) ?_
  rintro v h2 hh2 ⟨k2, rfl⟩
  have f0 : σ2 h2 = none := hfr h2 (by omega)
  have f1 : σ2 (h2 + 1) = none := hfr (h2 + 1) (by omega)
  refine zSF (jn zr2 (jn zr7 (jn zr15 (jn zr16 (jn zsc1 (jn zsc11 (jn f0 f1))))))) ?_
  refine v_cut (fun S => c ≤ S.c) ?_ ?_
  · by_cases g : anE F3 L3 H3 = 0
    rotate_left
    · refine zRF (jn zr2 (jn zr7 (jn zr15 (jn zr16 (jn zsc1 zsc11))))) ?_
      refine s_call (num10_spec (anE F3 L3 H3) (h2 + 1 + 1)) (wSF (jn zr2 (jn zr7 (jn zr15 (jn zr16 (jn zsc1 zsc11)))))) ?_
      rintro v d1 hd1 rfl
      refine zRF (jn zr2 (jn zr7 (jn zr15 (jn zr16 (jn zsc1 (jn zsc11 g)))))) ?_
      (repeat' apply And.intro) <;> first | rfl | omega | assumption
    obtain ⟨g1, g2, g3, g4, g5⟩ := anE_told g
    rw [g] at zr16
    rw [g4, g5] at zsc11
    have o1 : L3.Ok := by rw [dL3]; exact rD_ok (sqL_ok _ _) _ _
    have o2 : H3.Ok := by rw [dH3]; exact rD_ok (sqH_ok _ _) _ _
    have hallL : ∀ z ∈ [(k1, mulD a.d a.d), (k2, mulD b.d b.d), (Tok.nil, dy0)], RNum z.2 ∧ bl z.2.m ≤ 134217728 := fun z hz => by
      simp only [List.mem_cons, List.not_mem_nil, or_false] at hz
      rcases hz with rfl | rfl | rfl
      · exact ⟨s1', t1'⟩
      · exact ⟨s2', t2'⟩
      · exact ⟨dy0_r, by decide⟩
    have hallH : ∀ z ∈ [(k1, mulD a.d a.d), (k2, mulD b.d b.d)], RNum z.2 ∧ bl z.2.m ≤ 134217728 := fun z hz => by
      simp only [List.mem_cons, List.not_mem_nil, or_false] at hz
      rcases hz with rfl | rfl
      · exact ⟨s1', t1'⟩
      · exact ⟨s2', t2'⟩
    have hexL : ∃ z ∈ [(k1, mulD a.d a.d), (k2, mulD b.d b.d), (Tok.nil, dy0)], ∃ up, L3 = rD z.2 pos up := by
      rcases sqL_in (x := a.d) (y := b.d) with h | h | h
      · exact ⟨(k1, mulD a.d a.d), by simp, false, by rw [dL3, h]⟩
      · exact ⟨(k2, mulD b.d b.d), by simp, false, by rw [dL3, h]⟩
      · exact ⟨(Tok.nil, dy0), by simp, false, by rw [dL3, h]⟩
    have hexH : ∃ z ∈ [(k1, mulD a.d a.d), (k2, mulD b.d b.d)], ∃ up, H3 = rD z.2 pos up := by
      rcases sqH_in (x := a.d) (y := b.d) with h | h
      · exact ⟨(k1, mulD a.d a.d), by simp, true, by rw [dH3, h]⟩
      · exact ⟨(k2, mulD b.d b.d), by simp, true, by rw [dH3, h]⟩
    refine zRF (jn zr2 (jn zr7 (jn zr15 (jn zr16 (jn zsc1 zsc11))))) ?_
    refine s_call (num10_spec 0 (h2 + 1 + 1)) (wSF (jn zr2 (jn zr7 (jn zr15 (jn zr16 (jn zsc1 zsc11)))))) ?_
    rintro v d1 hd1 rfl
    refine zRF (jn zr2 (jn zr7 (jn zr15 (jn zr16 (jn zsc1 zsc11))))) ?_
    refine s_call (rds_of r1 r2 L3 H3 d1 o1 o2 g2 g3) (wSF (jn zr2 (jn zr7 (jn zr15 (jn zr16 (jn zsc1 zsc11)))))) ?_
    rintro v d2 hd2 ⟨x1, x2, rfl⟩
    refine zRF (jn zr2 (jn zr7 (jn zr15 (jn zr16 (jn zsc1 zsc11))))) ?_
    refine s_call (close_spec x1 .unk L3 pos [(k1, mulD a.d a.d), (k2, mulD b.d b.d), (Tok.nil, dy0)] d2 hallL (told_r' o1 g2) kp (by rw [dL3]; exact rD_at _ _ _) hexL (by simp)) (wSrF (jn zr2 (jn zr7 (jn zr15 (jn zr16 (jn zsc1 zsc11)))))) ?_
    rintro v d3 hd3 rfl
    refine zRF (jn zr2 (jn zr7 (jn zr15 (jn zr16 (jn zsc1 zsc11))))) ?_
    refine s_call (rds_of r1 r2 L3 H3 d3 o1 o2 g2 g3) (wSF (jn zr2 (jn zr7 (jn zr15 (jn zr16 (jn zsc1 zsc11)))))) ?_
    rintro v d4 hd4 ⟨x3, x4, rfl⟩
    refine zRF (jn zr2 (jn zr7 (jn zr15 (jn zr16 (jn zsc1 zsc11))))) ?_
    refine s_call (close_spec x4 .unk H3 pos [(k1, mulD a.d a.d), (k2, mulD b.d b.d)] d4 hallH (told_r' o2 g3) kp (by rw [dH3]; exact rD_at _ _ _) hexH (by simp)) (wSrF (jn zr2 (jn zr7 (jn zr15 (jn zr16 (jn zsc1 zsc11)))))) ?_
    rintro v d5 hd5 rfl
    refine zRF (jn zr2 (jn zr7 (jn zr15 (jn zr16 (jn zsc1 zsc11))))) ?_
    (repeat' apply And.intro) <;> first | rfl | omega | assumption
  rintro ⟨ρ3, σ3, i0⟩ hi0
  dsimp only at hi0
  refine zR ?_
  refine s_call (awake_spec i0) rfl ?_
  rintro v i1 hi1 rfl
  refine zR ?_
  (first | omega | rfl | ((repeat' apply And.intro) <;> first | rfl | omega | assumption))
end Go.Proofs.YtacodmnlnlbahaaGreatDoor
