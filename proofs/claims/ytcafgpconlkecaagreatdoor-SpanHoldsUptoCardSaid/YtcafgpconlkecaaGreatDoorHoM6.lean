/- Texts of a claim, merged: what they prove is told at the last one's head. -/
import Derived.Test.YtcafgpconlkecaaGreatDoorHoM5
import Derived.KernelRfl
set_option linter.unusedSimpArgs false
set_option linter.unusedVariables false
set_option maxRecDepth 100000
set_option maxHeartbeats 60000000
namespace Go.Proofs.YtcafgpconlkecaaGreatDoor
open Go.VM

def SpE (A : Dy → Dy → Prop) (r : V) : Prop := (∃ e : Int, e ≠ 0 ∧ r = .tup [rsV .nil .nil rd0 rd0, iv e]) ∨ ∃ lo hi t u, A lo hi ∧ lo.Ok ∧ hi.Ok ∧ tE lo = 0 ∧ tE hi = 0 ∧ r = .tup [rsV t u (RD.of lo) (RD.of hi), iv 0]
theorem SpE.bad {A : Dy → Dy → Prop} {e : Int} (h : e ≠ 0) : SpE A (.tup [rsV .nil .nil rd0 rd0, iv e]) := .inl ⟨e, h, rfl⟩
def EndE (A : Dy → Prop) (x : RD) (e : Int) : Prop := e ≠ 0 ∨ (e = 0 ∧ ∃ d, x = RD.of d ∧ A d ∧ d.Ok ∧ tE d = 0)
theorem AnsE.shape {A : Dy → Prop} {r : V} (h : AnsE A r) : ∃ t x e, r = .tup [rdV t x, iv e] ∧ EndE A x e := by
 rcases h with ⟨e, he, rfl⟩ | ⟨d, t, a1, a2, a3, rfl⟩
 ·exact ⟨.nil, RD.of dy0, e, rfl, .inl he⟩
 ·exact ⟨t, RD.of d, 0, rfl, .inr ⟨rfl, d, rfl, a1, a2, a3⟩⟩
theorem ends_any {A B : Dy → Prop} {x y : RD} {e f : Int} (t u : Tok) (c : Nat) (h1 : EndE A x e) (h2 : EndE B y f) : VSpec Tryz.prog F.span_ends c [rdV t x, iv e, rdV u y, iv f] (fun r _ => SpE (fun lo hi => A lo ∧ B hi) r) :=
 (ends_spec t u x y e f c).mono fun r c' hr => by
  by_cases g : worstE e f = 0
  ·rw [if_pos g] at hr
   obtain ⟨g1, g2⟩ := worst_zero.1 g
   obtain ⟨_, d, rfl, a1, a2, a3⟩ := h1.resolve_left (fun h => h g1)
   obtain ⟨_, d', rfl, b1, b2, b3⟩ := h2.resolve_left (fun h => h g2)
   exact .inr ⟨d, d', t, u, ⟨a1, b1⟩, a2, b2, a3, b3, hr⟩
  ·rw [if_neg g] at hr
   exact .inl ⟨_, g, hr⟩
theorem SpE.mono {A B : Dy → Dy → Prop} {r : V} (h : SpE A r) (hab : ∀ x y, x.Ok → y.Ok → A x y → B x y) : SpE B r := by
 rcases h with h | ⟨lo, hi, t, u, h1, h2, h3, h4, h5, h6⟩
 ·exact .inl h
 ·exact .inr ⟨lo, hi, t, u, hab _ _ h2 h3 h1, h2, h3, h4, h5, h6⟩
theorem SpE.shape {A : Dy → Dy → Prop} {r : V} (h : SpE A r) : ∃ t u x y e, r = .tup [rsV t u x y, iv e] ∧ (e ≠ 0 ∧ x = rd0 ∧ y = rd0 ∧ t = .nil ∧ u = .nil ∨ (e = 0 ∧ ∃ lo hi, x = RD.of lo ∧ y = RD.of hi ∧ A lo hi ∧ lo.Ok ∧ hi.Ok ∧ tE lo = 0 ∧ tE hi = 0)) := by
 rcases h with ⟨e, he, rfl⟩ | ⟨lo, hi, t, u, h1, h2, h3, h4, h5, rfl⟩
 ·exact ⟨.nil, .nil, rd0, rd0, e, rfl, .inl ⟨he, rfl, rfl, rfl, rfl⟩⟩
 ·exact ⟨t, u, _, _, 0, rfl, .inr ⟨rfl, lo, hi, rfl, rfl, h1, h2, h3, h4, h5⟩⟩
def w1 (pos f : Int) : Int := if f = 0 then (if fitE pos then 0 else 1) else f
theorem checks1 (pos : Int) (ta tb : Tok) (a b : RD) (tk : Tok) (c : Nat) (ha : Arg a.l) (hb : Arg b.l) :
  VSpec Tryz.prog F.span_checks c [iv pos, .sl tk 6 (cellsL [⟨ta, tb, a, b⟩])] (fun r _ => r = iv (w1 pos (chkE a b))) := by
 have e : chksE pos [⟨ta, tb, a, b⟩] = w1 pos (chkE a b) := by
  have e1 : chkL [⟨ta, tb, a, b⟩] = chkE a b := by
   show (if chkE a b = 0 then 0 else chkE a b) = chkE a b
   by_cases g : chkE a b = 0
   ·rw [if_pos g, g]
   ·rw [if_neg g]
  unfold chksE w1
  rw [e1]
 rw [← e]
 refine checks_spec pos tk _ c (by simp) fun s hs => ?_
 rw [List.mem_singleton] at hs
 subst hs
 exact ⟨ha, hb⟩
theorem dy_neg0 {d : Dy} (h : d.Ok) (h0 : ¬ d.sg < 0) : d.neg = false := by
 rcases sg_cases d with ⟨h1, h2⟩ | ⟨h1, h3, h2⟩ | ⟨h1, h3, h2⟩
 ·rw [h.zero h1]; rfl
 ·omega
 ·exact h3
theorem dyF_nn (n : Nat) (e : Int) : leD dy0 (dyOf false n e) := by
 rw [nn_iff]
 unfold Dy.sg
 split
 ·exact Int.le_refl _
 ·have e : (dyOf false n e).neg = false := by unfold dyOf; split <;> rfl
  rw [e]; decide
theorem ssqrt_spec (ta tb : Tok) (a b : RD) (pos : Int) (c : Nat) (ha : Arg a.l) (hb : Arg b.l) (hk : chkE a b = 0) (hp : fitE pos) :
  VSpec Tryz.prog F.span_Sqrt c [rsV ta tb a b, iv pos] (fun r _ => SpE (fun lo hi => leD dy0 a.d ∧ leD dy0 lo ∧ leD dy0 hi ∧ leD (mulD lo lo) a.d ∧ leD b.d (mulD hi hi)) r) := by
 refine sG hm G.span_Sqrt ?_
 unfold C.span_Sqrt R.span_Sqrt cD
 obtain ⟨fa, fb, hab⟩ := chk_ok hk
 have oa : a.Ok := ⟨ha, fa⟩
 have ob : b.Ok := ⟨hb, fb⟩
 have h1 : w1 pos (chkE a b) = 0 := by unfold w1; rw [if_pos hk, if_pos hp]
 refine zR ?_
 refine s_call (checks1 pos ta tb a b (.id (c + 2)) (c + 3) ha hb) wSr ?_
 rintro v c1 hc1 rfl
 rw [h1]
 refine zR ?_
 refine s_call (dsign_spec ta a c1 ha) wS ?_
 rintro v c2 hc2 rfl
 by_cases gs : a.d.sg < 0
 ·refine zRF gs ?_
  exact SpE.bad (by decide)
 have na := dy_neg0 oa.num.ok gs
 have a0 : leD dy0 a.d := nn_iff.2 (by omega)
 have b0 := leD_trans a0 hab
 have nb := dy_neg0 ob.num.ok (by have := nn_iff.1 b0; omega)
 refine zRF gs ?_
 refine s_call (rsqrt_any ta a pos 0 c2 (.inl rfl) oa na hp) wS ?_
 rintro v c3 hc3 hv
 obtain ⟨t3, x3, e3, rfl, hx3⟩ := hv.shape
 clear hv
 refine zR ?_
 refine s_call (rsqrt_any tb b pos 1 (c3 + 1) (.inr rfl) ob nb hp) wS ?_
 rintro v c4 hc4 hv
 obtain ⟨t4, x4, e4, rfl, hx4⟩ := hv.shape
 clear hv
 refine zR ?_
 refine s_call (ends_any t3 t4 (c4 + 1) hx3 hx4) wS ?_
 rintro v c5 hc5 hv
 have hv2 := hv.mono (B := fun lo hi => leD dy0 a.d ∧ leD dy0 lo ∧ leD dy0 hi ∧ leD (mulD lo lo) a.d ∧ leD b.d (mulD hi hi)) (fun x y _ _ h => by
  obtain ⟨⟨n, hn, rfl⟩, ⟨m, hm, rfl⟩⟩ := h
  exact ⟨a0, dyF_nn _ _, dyF_nn _ _, (sq_le na rfl rfl).1 (hn.lo rfl).1, (sq_le nb rfl rfl).2 (hm.hi rfl)⟩)
 obtain ⟨t5, u5, x5, y5, e5, rfl, _⟩ := hv.shape
 refine zR ?_
 exact hv2

theorem xor_f (a : Bool) : (a != false) = a := by cases a <;> rfl
theorem quo_dn {x y : Dy} {n : Nat} {pos : Int} (ox : x.Ok) (hy : y.neg = false) (h : QuoB 0 (x.neg != y.neg) n (quoP x y pos) (quoR x y pos)) : leD (mulD (dyOf (x.neg != y.neg) n pos) y) x := by
 rw [hy, xor_f] at h ⊢
 exact (mul_le hy (fun _ => rfl) (fun h0 => .inr (by rw [ox.zero h0]; rfl)) rfl rfl).1 (fun e => h.tow (.inl ⟨rfl, e⟩)) (fun e => h.aw (.inl ⟨rfl, e⟩))
theorem quo_up {x y : Dy} {n : Nat} {pos : Int} (ox : x.Ok) (hy : y.neg = false) (h : QuoB 1 (x.neg != y.neg) n (quoP x y pos) (quoR x y pos)) : leD x (mulD (dyOf (x.neg != y.neg) n pos) y) := by
 rw [hy, xor_f] at h ⊢
 exact (mul_le hy (fun _ => rfl) (fun h0 => .inr (by rw [ox.zero h0]; rfl)) rfl rfl).2 (fun e => h.aw (.inr ⟨rfl, e⟩)) (fun e => h.tow (.inr ⟨rfl, e⟩))
theorem dyS_nn {neg : Bool} (n : Nat) (e : Int) (h : neg = false) : leD dy0 (dyOf neg n e) := by
 subst h
 rw [nn_iff]
 unfold Dy.sg
 split
 ·exact Int.le_refl _
 ·have e : (dyOf false n e).neg = false := by unfold dyOf; split <;> rfl
  rw [e]; decide
theorem dyS_np {neg : Bool} (n : Nat) (e : Int) (h : neg = true) : leD (dyOf neg n e) dy0 := by
 subst h
 rw [np_iff]
 unfold Dy.sg
 split
 ·exact Int.le_refl _
 ·rename_i g
  have e : (dyOf true n e).neg = true := by
   unfold dyOf at g ⊢
   split
   ·rename_i h; rw [if_pos h] at g; exact absurd rfl g
   ·rfl
  rw [e]; decide
structure QuoC (a b p q lo hi : Dy) : Prop where
 l1 : 0 ≤ a.sg → leD dy0 lo ∧ leD (mulD lo q) a
 l2 : a.sg < 0 → leD lo dy0 ∧ leD (mulD lo p) a
 h1 : 0 ≤ b.sg → leD dy0 hi ∧ leD b (mulD hi p)
 h2 : b.sg < 0 → leD hi dy0 ∧ leD b (mulD hi q)
def QuoF (a b p q lo hi : Dy) : Prop := (0 < p.sg ∧ QuoC a b p q lo hi) ∨ (p.sg < 0 ∧ q.sg < 0 ∧ QuoC (negD b) (negD a) (negD q) (negD p) lo hi)
theorem sg_neg (x : Dy) : (negD x).sg = -x.sg := by
 unfold negD
 rcases sg_cases x with ⟨h1, h2⟩ | ⟨h1, h3, h2⟩ | ⟨h1, h3, h2⟩
 ·rw [if_pos h1, h2]; rfl
 ·rw [if_neg h1, h2]; unfold Dy.sg; rw [if_neg h1, h3]; rfl
 ·rw [if_neg h1, h2]; unfold Dy.sg; rw [if_neg h1, h3]; rfl
def dy1 : Dy := ⟨false, 1, 0⟩
theorem sg_zv {x : Dy} {E : Int} (h : Low E x) : (x.sg < 0 ↔ zv E x < 0) ∧ (0 < x.sg ↔ 0 < zv E x) := by
 have h1 := nn_iff (x := x)
 have h2 := np_iff (x := x)
 rw [leD_iff (low_dy0 h.le0).le h.le, zv_dy0] at h1
 rw [leD_iff h.le (low_dy0 h.le0).le, zv_dy0] at h2
 omega
theorem quoC_holds {a b p q lo hi x y : Dy} (c : QuoC a b p q lo hi) (h1 : leD a x) (h2 : leD x b) (h3 : leD p y) (h4 : leD y q) (hp : 0 < p.sg) : leD (mulD lo y) x ∧ leD x (mulD hi y) := by
 obtain ⟨E, hE⟩ : ∃ E, E = min (min (min a.e b.e) (min p.e q.e)) (min (min (min x.e y.e) (min lo.e hi.e)) 0) := ⟨_, rfl⟩
 have la : Low E a := ⟨by omega, by omega⟩
 have lb : Low E b := ⟨by omega, by omega⟩
 have lp : Low E p := ⟨by omega, by omega⟩
 have lq : Low E q := ⟨by omega, by omega⟩
 have lx : Low (E + E) x := ⟨by omega, by omega⟩
 have la2 : Low (E + E) a := ⟨by omega, by omega⟩
 have lb2 : Low (E + E) b := ⟨by omega, by omega⟩
 have ly : Low E y := ⟨by omega, by omega⟩
 have ll : Low E lo := ⟨by omega, by omega⟩
 have lh : Low E hi := ⟨by omega, by omega⟩
 have p0 := (sg_zv lp).2.1 hp
 have hle : ∀ {u w z : Dy}, Low E u → Low E w → Low (E + E) z → (leD (mulD u w) z ↔ zv E u * zv E w ≤ zv (E + E) z) ∧ (leD z (mulD u w) ↔ zv (E + E) z ≤ zv E u * zv E w) := fun hu hw hz => by
  obtain ⟨m1, m2⟩ := mul_zv hu hw
  rw [leD_iff m2.le hz.le, leD_iff hz.le m2.le, m1]
  exact ⟨Iff.rfl, Iff.rfl⟩
 have h0l : ∀ {z : Dy}, Low E z → (leD dy0 z ↔ 0 ≤ zv E z) ∧ (leD z dy0 ↔ zv E z ≤ 0) := fun hz => by
  rw [leD_iff (low_dy0 hz.le0).le hz.le, leD_iff hz.le (low_dy0 hz.le0).le, zv_dy0]
  exact ⟨Iff.rfl, Iff.rfl⟩
 rw [leD_iff la2.le lx.le] at h1
 rw [leD_iff lx.le lb2.le] at h2
 rw [leD_iff lp.le ly.le] at h3
 rw [leD_iff ly.le lq.le] at h4
 rw [(hle ll ly lx).1, (hle lh ly lx).2]
 constructor
 ·rcases Int.lt_or_le a.sg 0 with g | g
  ·obtain ⟨k1, k2⟩ := c.l2 g
   have k3 := (hle ll lp la2).1.1 k2
   have k4 := Int.mul_le_mul_of_nonpos_left ((h0l ll).2.1 k1) h3
   omega
  ·obtain ⟨k1, k2⟩ := c.l1 g
   have k3 := (hle ll lq la2).1.1 k2
   have k4 := Int.mul_le_mul_of_nonneg_left h4 ((h0l ll).1.1 k1)
   omega
 ·rcases Int.lt_or_le b.sg 0 with g | g
  ·obtain ⟨k1, k2⟩ := c.h2 g
   have k3 := (hle lh lq lb2).2.1 k2
   have k4 := Int.mul_le_mul_of_nonpos_left ((h0l lh).2.1 k1) h4
   omega
  ·obtain ⟨k1, k2⟩ := c.h1 g
   have k3 := (hle lh lp lb2).2.1 k2
   have k4 := Int.mul_le_mul_of_nonneg_left h3 ((h0l lh).1.1 k1)
   omega
theorem pos_neg {d : Dy} (h : 0 < d.sg) : d.neg = false ∧ d.m ≠ 0 := by
 rcases sg_cases d with ⟨h1, h2⟩ | ⟨h1, h3, h2⟩ | ⟨h1, h3, h2⟩
 ·omega
 ·omega
 ·exact ⟨h3, h1⟩
theorem sg_negb {d : Dy} (ok : d.Ok) : (d.sg < 0 → d.neg = true) ∧ (¬ d.sg < 0 → d.neg = false) := by
 rcases sg_cases d with ⟨h1, h2⟩ | ⟨h1, h3, h2⟩ | ⟨h1, h3, h2⟩
 ·exact ⟨fun h => by omega, fun _ => by rw [ok.zero h1]; rfl⟩
 ·exact ⟨fun _ => h3, fun h => by omega⟩
 ·exact ⟨fun h => by omega, fun _ => h3⟩
theorem quoC_mk {a b p q low high x y : Dy} {pos : Int} (oa : a.Ok) (ob : b.Ok) (hp : 0 < p.sg) (hq : 0 < q.sg) (hl1 : a.sg < 0 → low = p) (hl2 : ¬ a.sg < 0 → low = q) (hh1 : b.sg < 0 → high = q) (hh2 : ¬ b.sg < 0 → high = p)
  (hx : ∃ n, QuoB 0 (a.neg != low.neg) n (quoP a low pos) (quoR a low pos) ∧ x = dyOf (a.neg != low.neg) n pos) (hy : ∃ n, QuoB 1 (b.neg != high.neg) n (quoP b high pos) (quoR b high pos) ∧ y = dyOf (b.neg != high.neg) n pos) : QuoC a b p q x y := by
 obtain ⟨n, hn, rfl⟩ := hx
 obtain ⟨m, hm, rfl⟩ := hy
 have nl : low.neg = false := by
  by_cases g : a.sg < 0
  ·rw [hl1 g]; exact (pos_neg hp).1
  ·rw [hl2 g]; exact (pos_neg hq).1
 have nh : high.neg = false := by
  by_cases g : b.sg < 0
  ·rw [hh1 g]; exact (pos_neg hq).1
  ·rw [hh2 g]; exact (pos_neg hp).1
 have d1 := quo_dn oa nl hn
 have d2 := quo_up ob nh hm
 have ea : (a.neg != low.neg) = a.neg := by rw [nl]; exact xor_f _
 have eb : (b.neg != high.neg) = b.neg := by rw [nh]; exact xor_f _
 rw [ea] at d1 ⊢
 rw [eb] at d2 ⊢
 obtain ⟨a1, a2⟩ := sg_negb oa
 obtain ⟨b1, b2⟩ := sg_negb ob
 refine ⟨fun g => ⟨dyS_nn _ _ (a2 (by omega)), ?_⟩, fun g => ⟨dyS_np _ _ (a1 g), ?_⟩, fun g => ⟨dyS_nn _ _ (b2 (by omega)), ?_⟩, fun g => ⟨dyS_np _ _ (b1 g), ?_⟩⟩
 ·rw [← hl2 (by omega)]; exact d1
 ·rw [← hl1 g]; exact d1
 ·rw [← hh2 (by omega)]; exact d2
 ·rw [← hh1 g]; exact d2

theorem tn_ok {a : RD} (h : a.Ok) : a.tn.Ok := ⟨h.arg, h.fit⟩
theorem quotients_spec (ta tb tc td : Tok) (a b p q : RD) (pos : Int) (c : Nat) (ha : a.Ok) (hb : b.Ok) (hp : p.Ok) (hq : q.Ok) (hpq : leD p.d q.d) (hf : fitE pos) :
  VSpec Tryz.prog F.span_quotients c [rsV ta tb a b, rsV tc td p q, iv pos] (fun r _ => SpE (fun lo hi => QuoF a.d b.d p.d q.d lo hi) r) := by
 refine sG hm G.span_quotients ?_
 unfold C.span_quotients R.span_quotients cD
 refine zRF @nb_app ?_
 refine s_call (nought_spec tc td p q (c + 3) hp.arg hq.arg) wS ?_
 rintro v c1 hc1 rfl
 cases hn : nzB p.d q.d with
 | true =>
  refine zR ?_
  exact SpE.bad (by decide)
 | false =>
 have hs : 0 < p.d.sg ∨ q.d.sg < 0 := by
  unfold nzB at hn
  rcases Int.lt_or_le 0 p.d.sg with g | g
  ·exact .inl g
  ·rcases Int.lt_or_le q.d.sg 0 with w | w
   ·exact .inr w
   ·rw [decide_eq_true g, decide_eq_true w] at hn; cases hn
 refine zR ?_
 refine s_call (dsign_spec tc p c1 hp.arg) wS ?_
 rintro v c2 hc2 rfl
 by_cases gp : p.d.sg < 0
 ·have gq : q.d.sg < 0 := hs.resolve_left (by omega)
  have sp : 0 < p.tn.d.sg := by rw [RD.tn_d, sg_neg]; omega
  have sq : 0 < q.tn.d.sg := by rw [RD.tn_d, sg_neg]; omega
  have oa := (tn_ok ha).num.ok
  have ob := (tn_ok hb).num.ok
  have hF : ∀ low high x y : Dy, (b.tn.d.sg < 0 → low = q.tn.d) → (¬ b.tn.d.sg < 0 → low = p.tn.d) → (a.tn.d.sg < 0 → high = p.tn.d) → (¬ a.tn.d.sg < 0 → high = q.tn.d) → (∃ n, QuoB 0 (b.tn.d.neg != low.neg) n (quoP b.tn.d low pos) (quoR b.tn.d low pos) ∧ x = dyOf (b.tn.d.neg != low.neg) n pos) → (∃ n, QuoB 1 (a.tn.d.neg != high.neg) n (quoP a.tn.d high pos) (quoR a.tn.d high pos) ∧ y = dyOf (a.tn.d.neg != high.neg) n pos) → QuoF a.d b.d p.d q.d x y := fun low high x y g1 g2 g3 g4 h1 h2 => by
   refine .inr ⟨gp, gq, ?_⟩
   have h := quoC_mk ob oa sq sp g1 g2 g3 g4 h1 h2
   rwa [RD.tn_d, RD.tn_d, RD.tn_d, RD.tn_d] at h
  refine zRF (jn gp @nb_app) ?_
  refine s_call (turned_spec tb b c2) wS ?_
  rintro v c3 hc3 rfl
  refine zRF @nb_app ?_
  refine s_call (turned_spec ta a c3) wS ?_
  rintro v c4 hc4 rfl
  refine zRF @nb_app ?_
  refine s_call (turned_spec td q c4) wS ?_
  rintro v c5 hc5 rfl
  refine zRF @nb_app ?_
  refine s_call (turned_spec tc p c5) wS ?_
  rintro v c6 hc6 rfl
  refine zRF @nb_app ?_
  refine s_call (dsign_spec tb b.tn (c6 + 2) hb.arg) wS ?_
  rintro v c7 hc7 rfl
  by_cases ga : b.tn.d.sg < 0
  ·refine zRF (jn ga @nb_app) ?_
   refine s_call (dsign_spec ta a.tn c7 ha.arg) wS ?_
   rintro v c8 hc8 rfl
   by_cases gb : a.tn.d.sg < 0
   ·refine zRF (jn gb @nb_app) ?_
    refine s_call (rquo_any tb td b.tn q.tn pos 0 c8 (.inl rfl) (tn_ok hb) (tn_ok hq) (pos_neg sq).2 hf) wS ?_
    rintro v c9 hc9 hv
    obtain ⟨t1, x1, e1, rfl, hx1⟩ := hv.shape
    clear hv
    refine zR ?_
    refine s_call (rquo_any ta tc a.tn p.tn pos 1 (c9 + 1) (.inr rfl) (tn_ok ha) (tn_ok hp) (pos_neg sp).2 hf) wS ?_
    rintro v c10 hc10 hv
    obtain ⟨t2, x2, e2, rfl, hx2⟩ := hv.shape
    clear hv
    refine zR ?_
    refine s_call (ends_any t1 t2 (c10 + 1) hx1 hx2) wS ?_
    rintro v c11 hc11 hv
    have hv2 := hv.mono (B := fun lo hi => QuoF a.d b.d p.d q.d lo hi) (fun x y _ _ h => hF q.tn.d p.tn.d x y (fun _ => rfl) (fun g => absurd ga g) (fun _ => rfl) (fun g => absurd gb g) h.1 h.2)
    obtain ⟨t5, u5, x5, y5, e5, rfl, _⟩ := hv.shape
    refine zR ?_
    exact hv2
   ·refine zRF (jn gb @nb_app) ?_
    refine s_call (rquo_any tb td b.tn q.tn pos 0 c8 (.inl rfl) (tn_ok hb) (tn_ok hq) (pos_neg sq).2 hf) wS ?_
    rintro v c9 hc9 hv
    obtain ⟨t1, x1, e1, rfl, hx1⟩ := hv.shape
    clear hv
    refine zR ?_
    refine s_call (rquo_any ta td a.tn q.tn pos 1 (c9 + 1) (.inr rfl) (tn_ok ha) (tn_ok hq) (pos_neg sq).2 hf) wS ?_
    rintro v c10 hc10 hv
    obtain ⟨t2, x2, e2, rfl, hx2⟩ := hv.shape
    clear hv
    refine zR ?_
    refine s_call (ends_any t1 t2 (c10 + 1) hx1 hx2) wS ?_
    rintro v c11 hc11 hv
    have hv2 := hv.mono (B := fun lo hi => QuoF a.d b.d p.d q.d lo hi) (fun x y _ _ h => hF q.tn.d q.tn.d x y (fun _ => rfl) (fun g => absurd ga g) (fun g => absurd g gb) (fun _ => rfl) h.1 h.2)
    obtain ⟨t5, u5, x5, y5, e5, rfl, _⟩ := hv.shape
    refine zR ?_
    exact hv2
  ·refine zRF (jn ga @nb_app) ?_
   refine s_call (dsign_spec ta a.tn c7 ha.arg) wS ?_
   rintro v c8 hc8 rfl
   by_cases gb : a.tn.d.sg < 0
   ·refine zRF (jn gb @nb_app) ?_
    refine s_call (rquo_any tb tc b.tn p.tn pos 0 c8 (.inl rfl) (tn_ok hb) (tn_ok hp) (pos_neg sp).2 hf) wS ?_
    rintro v c9 hc9 hv
    obtain ⟨t1, x1, e1, rfl, hx1⟩ := hv.shape
    clear hv
    refine zR ?_
    refine s_call (rquo_any ta tc a.tn p.tn pos 1 (c9 + 1) (.inr rfl) (tn_ok ha) (tn_ok hp) (pos_neg sp).2 hf) wS ?_
    rintro v c10 hc10 hv
    obtain ⟨t2, x2, e2, rfl, hx2⟩ := hv.shape
    clear hv
    refine zR ?_
    refine s_call (ends_any t1 t2 (c10 + 1) hx1 hx2) wS ?_
    rintro v c11 hc11 hv
    have hv2 := hv.mono (B := fun lo hi => QuoF a.d b.d p.d q.d lo hi) (fun x y _ _ h => hF p.tn.d p.tn.d x y (fun g => absurd g ga) (fun _ => rfl) (fun _ => rfl) (fun g => absurd gb g) h.1 h.2)
    obtain ⟨t5, u5, x5, y5, e5, rfl, _⟩ := hv.shape
    refine zR ?_
    exact hv2
   ·refine zRF (jn gb @nb_app) ?_
    refine s_call (rquo_any tb tc b.tn p.tn pos 0 c8 (.inl rfl) (tn_ok hb) (tn_ok hp) (pos_neg sp).2 hf) wS ?_
    rintro v c9 hc9 hv
    obtain ⟨t1, x1, e1, rfl, hx1⟩ := hv.shape
    clear hv
    refine zR ?_
    refine s_call (rquo_any ta td a.tn q.tn pos 1 (c9 + 1) (.inr rfl) (tn_ok ha) (tn_ok hq) (pos_neg sq).2 hf) wS ?_
    rintro v c10 hc10 hv
    obtain ⟨t2, x2, e2, rfl, hx2⟩ := hv.shape
    clear hv
    refine zR ?_
    refine s_call (ends_any t1 t2 (c10 + 1) hx1 hx2) wS ?_
    rintro v c11 hc11 hv
    have hv2 := hv.mono (B := fun lo hi => QuoF a.d b.d p.d q.d lo hi) (fun x y _ _ h => hF p.tn.d q.tn.d x y (fun g => absurd g ga) (fun _ => rfl) (fun g => absurd g gb) (fun _ => rfl) h.1 h.2)
    obtain ⟨t5, u5, x5, y5, e5, rfl, _⟩ := hv.shape
    refine zR ?_
    exact hv2
 ·have sp : 0 < p.d.sg := by
   rcases hs with h | h
   ·exact h
   ·have h1 : leD p.d dy0 := leD_trans hpq (np_iff.2 (by omega))
    have h2 := np_iff.1 h1
    have h3 : leD q.d dy0 := np_iff.2 (by omega)
    have h4 : leD dy0 p.d := nn_iff.2 (by omega)
    have h5 := nn_iff.1 (leD_trans h4 hpq)
    omega
  have sq : 0 < q.d.sg := by
   have h4 : ¬ leD p.d dy0 := fun h => by have := np_iff.1 h; omega
   have h5 : ¬ leD q.d dy0 := fun h => h4 (leD_trans hpq h)
   rcases Int.lt_or_le 0 q.d.sg with g | g
   ·exact g
   ·exact absurd (np_iff.2 g) h5
  have oa := ha.num.ok
  have ob := hb.num.ok
  have hF : ∀ low high x y : Dy, (a.d.sg < 0 → low = p.d) → (¬ a.d.sg < 0 → low = q.d) → (b.d.sg < 0 → high = q.d) → (¬ b.d.sg < 0 → high = p.d) → (∃ n, QuoB 0 (a.d.neg != low.neg) n (quoP a.d low pos) (quoR a.d low pos) ∧ x = dyOf (a.d.neg != low.neg) n pos) → (∃ n, QuoB 1 (b.d.neg != high.neg) n (quoP b.d high pos) (quoR b.d high pos) ∧ y = dyOf (b.d.neg != high.neg) n pos) → QuoF a.d b.d p.d q.d x y := fun low high x y g1 g2 g3 g4 h1 h2 => .inl ⟨sp, quoC_mk oa ob sp sq g1 g2 g3 g4 h1 h2⟩
  refine zRF (jn gp @nb_app) ?_
  refine s_call (dsign_spec ta a (c2 + 2) ha.arg) wS ?_
  rintro v c3 hc3 rfl
  by_cases ga : a.d.sg < 0
  ·refine zRF (jn ga @nb_app) ?_
   refine s_call (dsign_spec tb b c3 hb.arg) wS ?_
   rintro v c4 hc4 rfl
   by_cases gb : b.d.sg < 0
   ·refine zRF (jn gb @nb_app) ?_
    refine s_call (rquo_any ta tc a p pos 0 c4 (.inl rfl) ha hp (pos_neg sp).2 hf) wS ?_
    rintro v c5 hc5 hv
    obtain ⟨t1, x1, e1, rfl, hx1⟩ := hv.shape
    clear hv
    refine zR ?_
    refine s_call (rquo_any tb td b q pos 1 (c5 + 1) (.inr rfl) hb hq (pos_neg sq).2 hf) wS ?_
    rintro v c6 hc6 hv
    obtain ⟨t2, x2, e2, rfl, hx2⟩ := hv.shape
    clear hv
    refine zR ?_
    refine s_call (ends_any t1 t2 (c6 + 1) hx1 hx2) wS ?_
    rintro v c7 hc7 hv
    have hv2 := hv.mono (B := fun lo hi => QuoF a.d b.d p.d q.d lo hi) (fun x y _ _ h => hF p.d q.d x y (fun _ => rfl) (fun g => absurd ga g) (fun _ => rfl) (fun g => absurd gb g) h.1 h.2)
    obtain ⟨t5, u5, x5, y5, e5, rfl, _⟩ := hv.shape
    refine zR ?_
    exact hv2
   ·refine zRF (jn gb @nb_app) ?_
    refine s_call (rquo_any ta tc a p pos 0 c4 (.inl rfl) ha hp (pos_neg sp).2 hf) wS ?_
    rintro v c5 hc5 hv
    obtain ⟨t1, x1, e1, rfl, hx1⟩ := hv.shape
    clear hv
    refine zR ?_
    refine s_call (rquo_any tb tc b p pos 1 (c5 + 1) (.inr rfl) hb hp (pos_neg sp).2 hf) wS ?_
    rintro v c6 hc6 hv
    obtain ⟨t2, x2, e2, rfl, hx2⟩ := hv.shape
    clear hv
    refine zR ?_
    refine s_call (ends_any t1 t2 (c6 + 1) hx1 hx2) wS ?_
    rintro v c7 hc7 hv
    have hv2 := hv.mono (B := fun lo hi => QuoF a.d b.d p.d q.d lo hi) (fun x y _ _ h => hF p.d p.d x y (fun _ => rfl) (fun g => absurd ga g) (fun g => absurd g gb) (fun _ => rfl) h.1 h.2)
    obtain ⟨t5, u5, x5, y5, e5, rfl, _⟩ := hv.shape
    refine zR ?_
    exact hv2
  ·refine zRF (jn ga @nb_app) ?_
   refine s_call (dsign_spec tb b c3 hb.arg) wS ?_
   rintro v c4 hc4 rfl
   by_cases gb : b.d.sg < 0
   ·refine zRF (jn gb @nb_app) ?_
    refine s_call (rquo_any ta td a q pos 0 c4 (.inl rfl) ha hq (pos_neg sq).2 hf) wS ?_
    rintro v c5 hc5 hv
    obtain ⟨t1, x1, e1, rfl, hx1⟩ := hv.shape
    clear hv
    refine zR ?_
    refine s_call (rquo_any tb td b q pos 1 (c5 + 1) (.inr rfl) hb hq (pos_neg sq).2 hf) wS ?_
    rintro v c6 hc6 hv
    obtain ⟨t2, x2, e2, rfl, hx2⟩ := hv.shape
    clear hv
    refine zR ?_
    refine s_call (ends_any t1 t2 (c6 + 1) hx1 hx2) wS ?_
    rintro v c7 hc7 hv
    have hv2 := hv.mono (B := fun lo hi => QuoF a.d b.d p.d q.d lo hi) (fun x y _ _ h => hF q.d q.d x y (fun g => absurd g ga) (fun _ => rfl) (fun _ => rfl) (fun g => absurd gb g) h.1 h.2)
    obtain ⟨t5, u5, x5, y5, e5, rfl, _⟩ := hv.shape
    refine zR ?_
    exact hv2
   ·refine zRF (jn gb @nb_app) ?_
    refine s_call (rquo_any ta td a q pos 0 c4 (.inl rfl) ha hq (pos_neg sq).2 hf) wS ?_
    rintro v c5 hc5 hv
    obtain ⟨t1, x1, e1, rfl, hx1⟩ := hv.shape
    clear hv
    refine zR ?_
    refine s_call (rquo_any tb tc b p pos 1 (c5 + 1) (.inr rfl) hb hp (pos_neg sp).2 hf) wS ?_
    rintro v c6 hc6 hv
    obtain ⟨t2, x2, e2, rfl, hx2⟩ := hv.shape
    clear hv
    refine zR ?_
    refine s_call (ends_any t1 t2 (c6 + 1) hx1 hx2) wS ?_
    rintro v c7 hc7 hv
    have hv2 := hv.mono (B := fun lo hi => QuoF a.d b.d p.d q.d lo hi) (fun x y _ _ h => hF q.d p.d x y (fun g => absurd g ga) (fun _ => rfl) (fun g => absurd g gb) (fun _ => rfl) h.1 h.2)
    obtain ⟨t5, u5, x5, y5, e5, rfl, _⟩ := hv.shape
    refine zR ?_
    exact hv2

theorem dy1_ok : dy1.Ok := ⟨.inr rfl, fun h => by cases h⟩
theorem wof1_spec (c : Nat) : VSpec Tryz.prog F.whole_Of c [iv 1] (fun r _ => ∃ tk, r = whV false tk (digs 18446744073709551616 1)) := by
 refine sG hm G.whole_Of ?_
 unfold C.whole_Of R.whole_Of cD
 refine zR ?_
 refine s_call (from_spec 1 (c + 1) (by decide)) wS ?_
 rintro v c1 hc1 ⟨t1, rfl, _⟩
 refine zR ?_
 exact ⟨t1, rfl⟩
theorem dof1_spec (c : Nat) : VSpec Tryz.prog F.dyadic_Of c [iv 1] (fun r _ => ∃ tk, r = dyV tk dy1) := by
 refine sG hm G.dyadic_Of ?_
 unfold C.dyadic_Of R.dyadic_Of cD
 have e1 : dyOf false 1 0 = dy1 := dyOf_odd rfl
 have e2 : tE dy1 = 0 := by decide
 refine zR ?_
 refine s_call (wof1_spec (c + 1)) wS ?_
 rintro v c1 hc1 ⟨t1, rfl⟩
 refine zR ?_
 refine s_call (dtold_spec false t1 (digs 18446744073709551616 1) 0 c1 (lim_digs two64 1) (by decide) (by decide) (by decide) (.inr (by rw [val_digs two64]; exact Nat.le_trans (bl_od 1) (Nat.le_trans (show bl 1 ≤ 1 from bl_le (by decide)) (by decide))))) wS ?_
 rw [val_digs two64, e1]
 rintro v c2 hc2 ⟨t2, rfl, _⟩
 rw [ansD_ok e2, e2]
 refine zR ?_
 exact ⟨t2, rfl⟩
theorem sinv_spec (ta tb : Tok) (a b : RD) (pos : Int) (c : Nat) (ha : Arg a.l) (hb : Arg b.l) (hf : fitE pos) :
  VSpec Tryz.prog F.span_Inverse c [rsV ta tb a b, iv pos] (fun r _ => SpE (fun lo hi => leD a.d b.d ∧ QuoF dy1 dy1 a.d b.d lo hi) r) := by
 refine sG hm G.span_Inverse ?_
 unfold C.span_Inverse R.span_Inverse cD
 obtain ⟨k1, e1⟩ := told_ok dy1_ok (show tE dy1 = 0 by decide)
 refine zRF @nb_app ?_
 refine s_call (checks1 pos ta tb a b (.id (c + 2)) (c + 3) ha hb) wSr ?_
 rintro v c1 hc1 rfl
 by_cases g : chkE a b = 0
 rotate_left
 ·have h1 : w1 pos (chkE a b) = chkE a b := by unfold w1; rw [if_neg g]
  rw [h1]
  refine zRF g ?_
  exact SpE.bad g
 obtain ⟨fa, fb, hab⟩ := chk_ok g
 have h1 : w1 pos (chkE a b) = 0 := by unfold w1; rw [if_pos g, if_pos hf]
 rw [h1]
 refine zR ?_
 refine s_call (dof1_spec c1) wS ?_
 rintro v c2 hc2 ⟨t2, rfl⟩
 refine zR ?_
 refine s_call (quotients_spec t2 t2 ta tb (RD.of dy1) (RD.of dy1) a b pos (c2 + 1) k1 k1 ⟨ha, fa⟩ ⟨hb, fb⟩ hab hf) wSr ?_
 rw [e1]
 rintro v c3 hc3 hv
 have hv2 := hv.mono (B := fun lo hi => leD a.d b.d ∧ QuoF dy1 dy1 a.d b.d lo hi) (fun x y _ _ h => ⟨hab, h⟩)
 obtain ⟨t5, u5, x5, y5, e5, rfl, _⟩ := hv.shape
 refine zR ?_
 exact hv2

def EndV (A : Dy → Prop) (r : V) : Prop := ∃ t x e, r = .tup [rdV t x, iv e] ∧ EndE A x e
theorem AnsD.endv {c c' : Nat} {d : Dy} {r : V} (h : AnsD c c' d r) (ok : d.Ok) : EndV (fun x => x = d) r := by
 obtain ⟨t, hr, _⟩ := h
 refine ⟨t, RD.of (ansD d), tE d, hr, ?_⟩
 by_cases g : tE d = 0
 ·exact .inr ⟨g, d, by rw [ansD_ok g], rfl, ok, g⟩
 ·exact .inl g
theorem EndV.bad {A : Dy → Prop} {e : Int} (h : e ≠ 0) : EndV A (.tup [dyV .nil dy0, iv e]) := ⟨.nil, RD.of dy0, e, rfl, .inl h⟩
theorem wpow3_spec (an : Bool) (ta : Tok) (a : List Nat) (c : Nat) (ha : Lim 18446744073709551616 a) (hna : a.length ≤ 1073741824) :
  VSpec Tryz.prog F.whole_Pow c [whV an ta a, iv 3] (fun r _ => WAns (an, val 18446744073709551616 a ^ 3) r) := by
 refine sG hm G.whole_Pow ?_
 unfold C.whole_Pow R.whole_Pow cD
 have hp := fun c => pow_spec ta a 3 c ha hna (by decide)
 have h01 : ¬ (0 : Int) = 1 := by decide
 have h22 : decide ((3 : Int) % 2 = 1) = true := by decide
 cases an
 ·refine zR ?_
  refine s_call (hp (c + 2)) wS ?_
  rintro v c1 hc1 ht
  generalize val 18446744073709551616 a ^ 3 = n at *
  obtain ⟨t3, l3, e3, rfl, hr⟩ := wres_told false n c1 ht
  refine zR ?_
  refine s_call (hr c1) wS ?_
  rintro v c2 hc2 (⟨h, tk, rfl⟩ | ⟨h, rfl⟩)
  ·refine zR ?_
   exact .inl ⟨h, tk, rfl⟩
  ·refine zR ?_
   exact .inr ⟨h, rfl⟩
 ·refine zR ?_
  refine s_call (hp (c + 2)) wS ?_
  rintro v c1 hc1 ht
  generalize val 18446744073709551616 a ^ 3 = n at *
  obtain ⟨t3, l3, e3, rfl, hr⟩ := wres_told true n c1 ht
  refine zRF (jn h01 h22) ?_
  refine s_call (hr c1) (wSF h22) ?_
  rintro v c2 hc2 (⟨h, tk, rfl⟩ | ⟨h, rfl⟩)
  ·refine zR ?_
   exact .inl ⟨h, tk, rfl⟩
  ·refine zR ?_
   exact .inr ⟨h, rfl⟩
theorem DPow3_any (t : Tok) (a : RD) (c : Nat) (ha : a.Ok) : VSpec Tryz.prog F.dyadic_Pow c [rdV t a, iv 3] (fun r _ => EndV (fun d => d = cubD a.d) r) := by
 refine sG hm G.dyadic_Pow ?_
 unfold C.dyadic_Pow R.dyadic_Pow cD
 have na := ha.num
 have a1 := na.lo
 have a2 := na.hi
 have la := na.arg.len
 have g3 : ¬ (3 : Int) = 0 := by decide
 have g4 : ¬ (1099511627776 : Int) < 3 := by decide
 have g5 : (0 : Int) < 3 := by decide
 refine zR ?_
 refine s_call (read_spec a.neg t a.l a.e (c + 2) ha.arg ha.fit) wS ?_
 rintro v c1 hc1 ⟨tx, rfl, _⟩
 have e1 : dyOf a.neg (val 18446744073709551616 a.l) a.e = a.d := rfl
 rw [e1]
 have ho : a.d.m ^ 3 = 0 ∨ a.d.m ^ 3 % 2 = 1 := by
  rcases na.ok.odd with h | h
  ·exact .inl (by rw [h])
  ·exact .inr (by rw [Nat.pow_mod, h])
 refine zR ?_
 refine s_call (wpow3_spec a.d.neg tx (digs 18446744073709551616 a.d.m) (c1 + 1) na.arg.lim (by omega)) wS ?_
 rw [val_digs two64]
 unfold cubD
 have hz : a.d.m ^ 3 = 0 → a.d.e = 0 := fun h => by
  have : a.d.m = 0 := by
   rcases Nat.eq_zero_or_pos a.d.m with g | g
   ·exact g
   ·have := Nat.pow_pos (n := 3) g; omega
  rw [na.ok.zero this]; rfl
 generalize a.d.m ^ 3 = M at *
 generalize a.d.e = e at *
 generalize a.d.neg = ng at *
 rintro v c2 hc2 (⟨h, tk, rfl⟩ | ⟨h, rfl⟩)
 ·replace h : bl M ≤ 67108864 := h
  have hd : (1099511627776 : Int) / 3 = 366503875925 := by decide
  have hfin : ∀ cc, VSpec Tryz.prog F.dyadic_told cc [whV (zneg ng M) tk (digs 18446744073709551616 M), iv (e * 3)] (fun r _ => EndV (fun d => d = dyOf ng M (e * 3)) r) := fun cc => by
   have h := dtold_spec (zneg ng M) tk (digs 18446744073709551616 M) (e * 3) cc (lim_digs two64 M) (len_bl (by omega)) (by omega) (by omega) (.inr (by rw [val_digs two64]; exact Nat.le_trans (bl_od _) h))
   rw [val_digs two64, dyOf_zneg] at h
   exact h.mono fun r c' hr => hr.endv (dyOf_ok _ _ _)
  by_cases g0 : e = 0
  ·subst g0
   have e3 : (0 : Int) * 3 = 0 := by decide
   rw [e3] at hfin ⊢
   refine zR ?_
   refine s_call (hfin (c2 + 1)) (wSF e3) ?_
   rintro v c3 hc3 ⟨tq, x, f, rfl, hx⟩
   refine zR ?_
   exact ⟨tq, x, f, rfl, hx⟩
  ·by_cases g1 : (366503875925 : Int) < e
   ·refine zRF (jn g0 (jn g4 (jn g5 (jn hd g1)))) ?_
    exact EndV.bad (by decide)
   ·by_cases g2 : e < -366503875925
    ·refine zRF (jn g0 (jn g4 (jn g5 (jn hd (jn g1 (jn g2 @n_neg')))))) ?_
     exact EndV.bad (by decide)
    ·refine zRF (jn g0 (jn g4 (jn g5 (jn hd (jn g1 (jn g2 @n_neg')))))) ?_
     refine s_call (hfin (c2 + 1)) wS ?_
     rintro v c3 hc3 ⟨tq, x, f, rfl, hx⟩
     refine zR ?_
     exact ⟨tq, x, f, rfl, hx⟩
 ·refine zRF g3 ?_
  exact EndV.bad (by decide)
end Go.Proofs.YtcafgpconlkecaaGreatDoor
namespace Go.VM

section
variable {α : Type}
def fN (n : Nat) (k : Nat → α) : α := match n with | 0 => k 0 | m + 1 => k (Nat.succ m)
theorem fN_eq (n : Nat) (k : Nat → α) : fN n k = k n := by cases n <;> rfl
def fI (n : Int) (k : Int → α) : α := match n with | .ofNat m => fN m fun m => k (.ofNat m) | .negSucc m => fN m fun m => k (.negSucc m)
theorem fI_eq (n : Int) (k : Int → α) : fI n k = k n := by cases n <;> simp only [fI, fN_eq]
def fU (v : Value) (k : Value → α) : α := match v with
 | .int t n => fI n fun n => k (.int t n)
 | .bool true => k (.bool true)
 | .bool false => k (.bool false)
 | v => k v
theorem fU_eq (v : Value) (k : Value → α) : fU v k = k v := by
 unfold fU
 split <;> simp only [fI_eq]
def fL {β : Type} (l : List β) (k : List β → α) : α := match l with | [] => k [] | x :: xs => fL xs fun xs => k (x :: xs)
theorem fL_eq {β : Type} (l : List β) (k : List β → α) : fL l k = k l := by
 induction l generalizing k with
 | nil => rfl
 | cons x xs ih => rw [fL, ih]
def fO (o : Option Nat) (k : Option Nat → α) : α := match o with | none => k none | some n => fN n fun n => k (some n)
theorem fO_eq (o : Option Nat) (k : Option Nat → α) : fO o k = k o := by cases o <;> simp only [fO, fN_eq]
def fT (t : Tok) (k : Tok → α) : α := match t with | .nil => k .nil | .unk => k .unk | .id n => fN n fun n => k (.id n) | .sub n => fN n fun n => k (.sub n)
theorem fT_eq (t : Tok) (k : Tok → α) : fT t k = k t := by cases t <;> simp only [fT, fN_eq]
def fV (v : V) (k : V → α) : α := match v with
 | .any => k .any
 | .lit v => fU v fun v => k (.lit v)
 | .sl t sz l => fT t fun t => fN sz fun sz => fL l fun l => k (.sl t sz l)
 | .buf t off n cap sz => fN t fun t => fN off fun off => fN n fun n => fO cap fun cap => fN sz fun sz => k (.buf t off n cap sz)
 | .ptr t off => fN t fun t => fN off fun off => k (.ptr t off)
 | .gptr t off => fN t fun t => fN off fun off => k (.gptr t off)
 | .eptr l i => fL l fun l => fN i fun i => k (.eptr l i)
 | .agg l => fL l fun l => k (.agg l)
 | .tup l => fL l fun l => k (.tup l)
theorem fV_eq (v : V) (k : V → α) : fV v k = k v := by cases v <;> simp only [fV, fU_eq, fT_eq, fN_eq, fL_eq, fO_eq]
end

def nth (l : List V) (i : Nat) : V := match l, i with | [], _ => .any | x :: _, 0 => x | _ :: xs, i + 1 => nth xs i
theorem nth_getD (l : List V) (i : Nat) : nth l i = l.getD i .any := by
 induction l generalizing i with
 | nil => rfl
 | cons x xs ih => cases i with
  | zero => rfl
  | succ i => rw [nth, ih]; rfl
theorem start_nth (l : List V) : start l = nth l := by funext i; rw [nth_getD]; rfl
theorem nth_append_any (l : List V) (n : Nat) : nth (l ++ List.replicate n .any) = nth l := by
 funext i
 rw [nth_getD, nth_getD, List.getD_eq_getElem?_getD, List.getD_eq_getElem?_getD, List.getElem?_append]
 split
 ·rfl
 ·rename_i h
  rw [List.getElem?_eq_none (Nat.le_of_not_lt h), List.getElem?_replicate]
  split <;> rfl
def setR {β : Type} (l : List V) (i : Nat) (v : V) (k : List V → Option β) : Option β := match l, i with
 | [], _ => none
 | _ :: xs, 0 => k (v :: xs)
 | x :: xs, i + 1 => setR xs i v fun xs => k (x :: xs)
theorem setR_some {β : Type} {l : List V} {i : Nat} {v : V} {k : List V → Option β} {b : β} (h : setR l i v k = some b) : ∃ l', k l' = some b ∧ nth l' = upd (nth l) i v := by
 induction l generalizing i k with
 | nil => cases h
 | cons x xs ih =>
  cases i with
  | zero =>
   refine ⟨_, h, ?_⟩
   funext j
   cases j with
   | zero => rfl
   | succ j => rfl
  | succ i =>
   obtain ⟨l', h1, h2⟩ := ih h
   refine ⟨x :: l', h1, ?_⟩
   funext j
   cases j with
   | zero => rfl
   | succ j =>
    rw [nth, h2]
    simp [upd, nth]

abbrev BL := List (Nat × Blk)
def lookB (l : BL) (t : Nat) : Option Blk := match l with | [] => none | p :: r => if p.1 = t then some p.2 else lookB r t
def putB (l : BL) (t : Nat) (b : Blk) : BL := match l with | [] => [(t, b)] | p :: r => if p.1 = t then (t, b) :: r else p :: putB r t b
theorem lookB_nil : lookB [] = noBlk := rfl
theorem lookB_put (l : BL) (t : Nat) (b : Blk) : lookB (putB l t b) = supd (lookB l) t (some b) := by
 funext u
 induction l with
 | nil => simp only [putB, lookB, supd]; by_cases e : t = u <;> simp [e, eq_comm]
 | cons p r ih =>
  obtain ⟨t', b'⟩ := p
  simp only [putB]
  by_cases e : t' = t
  ·subst e
   simp only [if_true, lookB, supd]
   by_cases e : t' = u
   ·simp [e]
   ·simp [e, Ne.symm e]
  ·simp only [e, if_false, lookB, ih, supd]
   by_cases e1 : t' = u
   ·subst e1; simp [e]
   ·simp [e1]
def keepB (p : Nat → Bool) (l : BL) : BL := match l with | [] => [] | q :: r => if p q.1 = true then q :: keepB p r else keepB p r
theorem lookB_keep (p : Nat → Bool) (l : BL) (t : Nat) : lookB (keepB p l) t = if p t = true then lookB l t else none := by
 induction l with
 | nil => simp [keepB, lookB]
 | cons q r ih =>
  simp only [keepB]
  by_cases h : p q.1 = true
  ·simp only [h, if_true, lookB, ih]
   by_cases e : q.1 = t
   ·subst e; simp [h]
   ·simp [e]
  ·simp only [h, lookB]
   by_cases e : q.1 = t
   ·subst e; simp [ih, h]
   ·simp [e, ih]
theorem lookB_append (l r : BL) (t : Nat) : lookB (l ++ r) t = match lookB l t with | some b => some b | none => lookB r t := by
 induction l with
 | nil => rfl
 | cons q l ih =>
  simp only [List.cons_append, lookB]
  by_cases e : q.1 = t
  ·simp [e]
  ·simp [e, ih]

structure XS where
 r : List V
 s : BL
 c : Nat
def XS.vs (S : XS) : VS := ⟨nth S.r, lookB S.s, S.c⟩

structure XEff where
 v : V
 s : BL
 c : Nat
 k : KT

def flatB (s : BL) : Bool := match s with | [] => true | p :: r => if p.2.cells.all V.flat = true then flatB r else false
theorem flat_kill {x : V} (t : Nat) (h : x.flat = true) : killV t x = x := by
 cases x <;> first | rfl | cases h
theorem flat_killL {l : List V} (t : Nat) (h : l.all V.flat = true) : l.map (killV t) = l := by
 refine (List.map_congr_left fun x hx => ?_).trans (List.map_id _)
 exact flat_kill t (List.all_eq_true.1 h x hx)
theorem flat_solid {l : List V} (h : l.all V.flat = true) : l.map V.solid = l := by
 refine (List.map_congr_left fun x hx => ?_).trans (List.map_id _)
 unfold V.solid
 rw [if_pos (List.all_eq_true.1 h x hx)]
 rfl
theorem flatB_look {s : BL} (h : flatB s = true) {t : Nat} {b : Blk} (hb : lookB s t = some b) : b.cells.all V.flat = true := by
 induction s with
 | nil => cases hb
 | cons p r ih =>
  simp only [flatB] at h
  split at h
  ·rename_i hp
   simp only [lookB] at hb
   split at hb
   ·cases hb; exact hp
   ·exact ih h hb
  ·cases h
theorem flatB_kill {s : BL} (h : flatB s = true) (t : Nat) : killσ t (lookB s) = lookB s := by
 funext u
 unfold killσ
 cases hb : lookB s u with
 | none => rfl
 | some b => simp only [Option.map]; rw [flat_killL t (flatB_look h hb)]
theorem all_take {l : List V} (n : Nat) (h : l.all V.flat = true) : (l.take n).all V.flat = true := List.all_eq_true.2 fun x hx => List.all_eq_true.1 h x (List.mem_of_mem_take hx)
theorem all_app {l r : List V} (h : l.all V.flat = true) (h2 : r.all V.flat = true) : (l ++ r).all V.flat = true := by rw [List.all_append, h, h2]; rfl
def xstore (s : BL) (n : Nat) (x v : V) : Option BL :=
 match x, v.cellsB with
 | .ptr t off, some cs => match lookB s t with
  | some b => if b.live = true ∧ cs.length = n ∧ off + n ≤ b.cells.length then fL (putCells b.cells off cs) fun cs => some (putB s t ⟨cs, true⟩) else none
  | none => none
 | _, _ => none
def xapp (c0 : Nat) (s : BL) (c sz bytes : Nat) (x y : V) : Option XEff :=
 match x with
 | .sl .nil sz0 [] => match vcells sz (lookB s) y with
  | some [] => some ⟨.sl .nil sz0 [], s, c, none⟩
  | some ys => let k := ys.length / sz; if ys.length = k * sz ∧ 0 < k ∧ k * bytes ≤ 281474976710656 ∧ k ≤ 4611686018427387904 then fL ys fun ys => some ⟨.buf c 0 k none sz, putB s c ⟨ys, true⟩, c + 1, none⟩ else none
  | none => none
 | .buf t 0 n cp sz' => match lookB s t, vcells sz (lookB s) y with
  | some b, some ys => let k := ys.length / sz; if sz' = sz ∧ b.live = true ∧ ys.length = k * sz then
    (match cp with
    | some cap => if n + k ≤ cap ∧ (n + k) * sz ≤ b.cells.length then fL (putCells b.cells (n * sz) ys) fun cs => some ⟨.buf t 0 (n + k) (some cap) sz, putB s t ⟨cs, true⟩, c, none⟩
     else if c0 ≤ t ∧ n * sz ≤ b.cells.length ∧ (2 * (n + k)) * bytes ≤ 281474976710656 ∧ n + k ≤ 4611686018427387904 ∧ flatB s = true ∧ ys.all V.flat = true then fL (b.cells.take (n * sz) ++ ys) fun cs => some ⟨.buf t 0 (n + k) none sz, putB s t ⟨cs, true⟩, c, some (.inl t)⟩ else none
    | none => if c0 ≤ t ∧ n * sz ≤ b.cells.length ∧ (2 * (n + k)) * bytes ≤ 281474976710656 ∧ n + k ≤ 4611686018427387904 ∧ flatB s = true ∧ ys.all V.flat = true then fL (b.cells.take (n * sz) ++ ys) fun cs => some ⟨.buf t 0 (n + k) none sz, putB s t ⟨cs, true⟩, c, some (.inl t)⟩ else none)
   else none
  | _, _ => none
 | _ => none
def xcpy (s : BL) (c sz : Nat) (x y : V) : Option XEff :=
 match x with
 | .buf t off n cap sz' => match lookB s t, vcells sz (lookB s) y with
  | some b, some ys => let m := ys.length / sz; if sz' = sz ∧ b.live = true ∧ ys.length = m * sz ∧ off + n * sz ≤ b.cells.length then
    fL (putCells b.cells off (ys.take (min m n * sz))) fun cs => some ⟨.int .i64 ((min m n : Nat) : Int), putB s t ⟨cs, true⟩, c, none⟩ else none
  | _, _ => none
 | _ => none
def xmk (s : BL) (c : Nat) (z : List Value) (bytes : Nat) (l q : V) : Option XEff :=
 match l, q with
 | .lit (.int _ (.ofNat n)), .lit (.int _ (.ofNat cap)) => if n ≤ cap ∧ cap * bytes ≤ 281474976710656 ∧ cap ≤ 9223372036854775807 then fL (rept z cap) fun cs => some ⟨.buf c 0 n (some cap) z.length, putB s c ⟨cs, true⟩, c + 1, none⟩ else none
 | _, _ => none

def offB : V → V → Bool
 | .ptr t _, .ptr u _ => !(Nat.beq t u)
 | .ptr _ _, .eptr _ _ => true
 | _, _ => false
theorem offB_off {p q : V} (h : offB p q = true) : V.offp p q := by
 unfold offB at h
 split at h
 ·exact fun e => by subst e; simp at h
 ·trivial
 ·cases h
def xeff (c0 : Nat) (e : X → V) (s : BL) (c : Nat) (o : VOp) : Option XEff :=
 match o with
 | .load ag x => (vload (lookB s) ag (e x)).map fun v => ⟨v, s, c, none⟩
 | .store n x y => (xstore s n (e x) (e y)).map fun s => ⟨.any, s, c, none⟩
 | .storeA n x y ys => if (ys.all fun i => offB (e x) (e (.t i))) = true then (xstore s n (e x) (e y)).map fun s => ⟨.any, s, c, none⟩ else none
 | .boxA n x => match (e x).cells, lookB s c with | some cs, none => if cs.length = n then fL cs fun cs => some ⟨.ptr c 0, putB s c ⟨cs, true⟩, c + 1, none⟩ else none | _, _ => none
 | .mk z bytes l q => xmk s c z bytes (e l) (e q)
 | .box x => match (e x).cells with | some cs => fL cs fun cs => some ⟨.ptr c 0, putB s c ⟨cs, true⟩, c + 1, none⟩ | none => none
 | .alloc z => fL (vlits z) fun cs => some ⟨.ptr c 0, putB s c ⟨cs, true⟩, c + 1, none⟩
 | .bsl tok sz len z ps => match vfill (rept z len) (partsOf e ps) with
  | some cs => if tok = true then some ⟨.sl (.id c) sz cs, s, c + 1, none⟩ else some ⟨.sl .unk sz cs, s, c, none⟩
  | none => none
 | .app sz bytes z x y => xapp c0 s c sz bytes (e x) (e y)
 | .cpy sz x y => xcpy s c sz (e x) (e y)
 | .call _ _ => none
 | .callv _ _ => none
 | .bad => none
 | o => (vpure e o).map fun v => ⟨v, s, c, none⟩

theorem xstore_sound {s s' : BL} {n : Nat} {x y : V} (h1 : xstore s n x y = some s') : vstore (lookB s) n x y = some (lookB s') := by
 unfold xstore at h1
 unfold vstore
 split at h1
 ·split at h1
  ·split at h1
   ·rename_i hb hc
    rw [fL_eq] at h1
    cases h1
    simp only [*, lookB_put]
    rw [if_pos (by first | exact hc | simp [hc])]
   ·cases h1
  ·cases h1
 ·cases h1
theorem xeff_sound {P : Program} {dr : Bool} {c0 : Nat} {e : X → V} {s : BL} {c : Nat} {o : VOp} {r : XEff} (h : xeff c0 e s c o = some r) : VEff P dr c0 e (lookB s) c o r.v (lookB r.s) r.c r.k := by
 unfold xeff at h
 split at h
 ·obtain ⟨v, h1, rfl⟩ := Option.map_eq_some_iff.1 h
  exact .load h1
 ·obtain ⟨s', h1, rfl⟩ := Option.map_eq_some_iff.1 h
  exact .store (xstore_sound h1)
 ·split at h
  ·rename_i hy
   obtain ⟨s', h1, rfl⟩ := Option.map_eq_some_iff.1 h
   exact .storeA (fun i hi => offB_off (List.all_eq_true.1 hy i hi)) (xstore_sound h1)
  ·cases h
 ·split at h
  ·rename_i hc hf
   split at h
   ·rename_i hn
    rw [fL_eq] at h
    cases h
    rw [lookB_put]
    exact .boxA hf hc hn
   ·cases h
  ·cases h
 ·unfold xmk at h
  split at h
  ·rename_i hl hq
   split at h
   ·rename_i hc
    rw [fL_eq] at h
    cases h
    rw [lookB_put]
    exact .mk hl hq hc.1 hc.2.1 hc.2.2
   ·cases h
  ·cases h
 ·split at h
  ·rename_i hc
   rw [fL_eq] at h
   cases h
   rw [lookB_put]
   exact .box hc
  ·cases h
 ·rw [fL_eq] at h
  cases h
  rw [lookB_put]
  exact .alloc
 ·split at h
  ·rename_i hc
   split at h
   ·rename_i ht; subst ht; cases h; exact .bsl hc
   ·rename_i ht
    simp at ht
    subst ht; cases h; exact .bsl0 hc
  ·cases h
 ·rename_i sz bytes z x y
  unfold xapp at h
  split at h
  ·rename_i hx
   split at h
   ·rename_i hy
    cases h
    exact .appNil0 hx hy
   ·rename_i ys _ hy
    dsimp only at h
    split at h
    ·rename_i hc
     rw [fL_eq] at h
     cases h
     rw [lookB_put]
     exact .appNil hx hy hc.1 hc.2.1 hc.2.2.1 hc.2.2.2
    ·cases h
   ·cases h
  ·rename_i t n cp sz' hx
   split at h
   ·rename_i b ys hb hy
    dsimp only at h
    split at h
    ·rename_i hc
     obtain ⟨rfl, hl, hk⟩ := hc
     have hb' : lookB s t = some ⟨b.cells, true⟩ := by rw [hb, ← hl]
     split at h
     ·rename_i cap
      split at h
      ·rename_i hf
       rw [fL_eq] at h
       cases h
       rw [lookB_put]
       exact .appFit hx hb' hy hk hf.1 hf.2
      ·split at h
       ·rename_i hf
        rw [fL_eq] at h
        cases h
        rw [lookB_put]
        exact (by have q := VEff.appMove (P := P) (dr := dr) (c0 := c0) (e := e) (σ := lookB s) (c := c) (z := z) hx hb' hf.1 hy hk hf.2.1 hf.2.2.1 hf.2.2.2.1; rw [flatB_kill hf.2.2.2.2.1, flat_killL t (all_app (all_take _ (flatB_look hf.2.2.2.2.1 hb')) hf.2.2.2.2.2)] at q; exact q)
       ·cases h
     ·split at h
      ·rename_i hf
       rw [fL_eq] at h
       cases h
       rw [lookB_put]
       exact (by have q := VEff.appMove (P := P) (dr := dr) (c0 := c0) (e := e) (σ := lookB s) (c := c) (z := z) hx hb' hf.1 hy hk hf.2.1 hf.2.2.1 hf.2.2.2.1; rw [flatB_kill hf.2.2.2.2.1, flat_killL t (all_app (all_take _ (flatB_look hf.2.2.2.2.1 hb')) hf.2.2.2.2.2)] at q; exact q)
      ·cases h
    ·cases h
   ·cases h
  ·cases h
 ·unfold xcpy at h
  split at h
  ·rename_i t off n cap sz' hx
   split at h
   ·rename_i b ys hb hy
    dsimp only at h
    split at h
    ·rename_i hc
     obtain ⟨rfl, hl, hk, hf⟩ := hc
     have hb' : lookB s t = some ⟨b.cells, true⟩ := by rw [hb, ← hl]
     rw [fL_eq] at h
     cases h
     rw [lookB_put]
     exact .cpy hx hb' hy hk hf
    ·cases h
   ·cases h
  ·cases h
 ·cases h
 ·cases h
 ·cases h
 ·obtain ⟨v, h1, rfl⟩ := Option.map_eq_some_iff.1 h
  exact .pure h1

def frz1 {β : Type} (c0 : Nat) (i : Nat) (S : XS) (k : XS → Option β) : Option β :=
 match nth S.r i with
 | .buf t off n cap sz => if c0 ≤ t then (match lookB S.s t with
   | some b => if off + n * sz ≤ b.cells.length ∧ ((b.cells.drop off).take (n * sz)).all V.flat = true then fL ((b.cells.drop off).take (n * sz)) fun l => setR S.r i (.sl (Tok.from off t) sz l) fun r => k ⟨r, putB S.s t ⟨b.cells, false⟩, S.c⟩ else none
   | none => none) else k S
 | _ => k S
theorem frz1_some {β : Type} {c0 i : Nat} {S : XS} {k : XS → Option β} {b : β} (h : frz1 c0 i S k = some b) : ∃ S1, k S1 = some b ∧ (S1 = S ∨ ∃ t off n sz cap cells lv, S.vs.ρ i = .buf t off n cap sz ∧ S.vs.σ t = some ⟨cells, lv⟩ ∧ c0 ≤ t ∧ off + n * sz ≤ cells.length ∧ S1.vs = frozen S.vs i t off sz cells (((cells.drop off).take (n * sz)).map V.solid)) := by
 unfold frz1 at h
 split at h
 ·rename_i t off n cap sz hi
  split at h
  ·rename_i h0
   split at h
   ·rename_i bk hb
    split at h
    ·rename_i hl
     rw [fL_eq] at h
     obtain ⟨r, h1, h2⟩ := setR_some h
     refine ⟨_, h1, .inr ⟨t, off, n, sz, cap, bk.cells, bk.live, hi, hb, h0, hl.1, ?_⟩⟩
     rw [flat_solid hl.2]
     simp only [XS.vs, frozen, h2, lookB_put]
    ·cases h
   ·cases h
  ·exact ⟨S, h, .inl rfl⟩
 ·exact ⟨S, h, .inl rfl⟩
def frzL {β : Type} (c0 : Nat) (l : List Nat) (S : XS) (k : XS → Option β) : Option β := match l with | [] => k S | i :: r => frz1 c0 i S fun S => frzL c0 r S k

theorem frzL_exec {β : Type} {P : Program} {c0 : Nat} {l : List Nat} {S : XS} {k : XS → Option β} {b : β} (h : frzL c0 l S k = some b) : ∃ S1 : XS, k S1 = some b ∧ ∀ vc e S', VExec P c0 vc S1.vs e S' → VExec P c0 vc S.vs e S' := by
 induction l generalizing S with
 | nil => exact ⟨S, h, fun _ _ _ h => h⟩
 | cons i r ih =>
  obtain ⟨S1, h1, h2⟩ := frz1_some h
  obtain ⟨S2, h3, h4⟩ := ih h1
  refine ⟨S2, h3, fun vc e S' hs => ?_⟩
  have h5 := h4 vc e S' hs
  rcases h2 with rfl | ⟨t, off, n, sz, cap, cells, lv, g1, g2, g3, g4, g5⟩
  ·exact h5
  ·exact .freeze g1 g2 g3 g4 (by rw [← g5]; exact h5)

def lentB (s : BL) (l : List V) : BL := match l with
 | [] => []
 | .buf t _ _ _ _ :: r => (match lookB s t with | some b => if b.live = true then putB (lentB s r) t b else lentB s r | none => lentB s r)
 | .ptr t _ :: r => (match lookB s t with | some b => if b.live = true then putB (lentB s r) t b else lentB s r | none => lentB s r)
 | _ :: r => lentB s r
theorem lentB_ok (s : BL) (l : List V) (t : Nat) (b : Blk) (h : lookB (lentB s l) t = some b) : lookB s t = some b ∧ b.live = true := by
 have key : ∀ (t : Nat) (b : Blk) (r : List V) (t' : Nat), (∀ t b, lookB (lentB s r) t = some b → lookB s t = some b ∧ b.live = true) →
   lookB (match lookB s t' with | some b => if b.live = true then putB (lentB s r) t' b else lentB s r | none => lentB s r) t = some b → lookB s t = some b ∧ b.live = true := by
  intro t b r t' ih h
  split at h
  ·rename_i b' hb
   split at h
   ·rename_i hl
    rw [lookB_put] at h
    simp only [supd] at h
    split at h
    ·rename_i e; subst e; cases h; exact ⟨hb, hl⟩
    ·exact ih _ _ h
   ·exact ih _ _ h
  ·exact ih _ _ h
 revert t b
 induction l with
 | nil => intro t b h; cases h
 | cons x r ih =>
  intro t b h
  cases x with
  | buf t' off n cap sz => exact key t b r t' (fun t b h => ih t b h) h
  | ptr t' off => exact key t b r t' (fun t b h => ih t b h) h
  | any => exact ih t b h
  | lit _ => exact ih t b h
  | sl _ _ _ => exact ih t b h
  | eptr _ _ => exact ih t b h
  | gptr _ _ => exact ih t b h
  | agg _ => exact ih t b h
  | tup _ => exact ih t b h

structure XRes where
 v : V
 s : BL
 c : Nat
abbrev XCall := FuncId → List V → BL → Nat → Option XRes
def CallOk (P : Program) (call : XCall) : Prop := ∀ f xs sl c r, call f xs sl c = some r → VCalls P f c (lookB sl) xs r.v (lookB r.s) r.c ∧ ∀ t, lookB sl t = none → lookB r.s t = none

def xput {β : Type} (d : Option Nat) (v : V) (r : List V) (k : List V → Option β) : Option β := match d with | none => k r | some i => fV v fun v => setR r i v k
theorem xput_some {β : Type} {d : Option Nat} {v : V} {r : List V} {k : List V → Option β} {b : β} (h : xput d v r k = some b) : ∃ r', k r' = some b ∧ nth r' = updo (nth r) d v := by
 cases d with
 | none => exact ⟨r, h, rfl⟩
 | some i =>
  simp only [xput, fV_eq] at h
  exact setR_some h

def killR (t : Nat) (l : List V) : List V := match l with | [] => [] | x :: xs => killV t x :: killR t xs
theorem nth_kill (t : Nat) (l : List V) : nth (killR t l) = kill (some (.inl t)) (nth l) := by
 funext i
 induction l generalizing i with
 | nil => rfl
 | cons x xs ih =>
  cases i with
  | zero => rfl
  | succ i => exact ih i

def xcallop {β : Type} (call : XCall) (dr : Bool) (lend : FuncId → Bool) (c0 : Nat) (f : FuncId) (xs : List X) (d : Option Nat) (S : XS) (k : XS → Option β) : Option β :=
 (if dr = true ∨ lend f = true then fun k => k S else frzL c0 (xs.flatMap X.reads) S) fun S =>
  let ys := xs.map (X.ev (nth S.r))
  let sl := if dr = true then [] else lentB S.s ys
  match sl with
  | [] => (match call f ys [] S.c with
   | some ⟨v, _, c'⟩ => fN c' fun c' => xput d v S.r fun r => k ⟨r, S.s, c'⟩
   | none => none)
  | sl => (match call f ys sl S.c with
   | some ⟨v, s', c'⟩ => fN c' fun c' => fL (keepB (fun t => !((lookB sl t).isSome || decide (S.c ≤ t))) S.s ++ s') fun s => xput d v S.r fun r => k ⟨r, s, c'⟩
   | none => none)

def asFn (v : V) : Option FuncId := match v with | .lit (.func (.func f) a b) => if a.size = 0 ∧ b.size = 0 then some f else none | _ => none
theorem asFn_some {v : V} {f : FuncId} (h : asFn v = some f) : v = .lit (.func (.func f) #[] #[]) := by
 unfold asFn at h
 split at h
 ·split at h
  ·rename_i f' a b g
   cases h
   rw [Array.eq_empty_of_size_eq_zero g.1, Array.eq_empty_of_size_eq_zero g.2]
  ·cases h
 ·cases h
def xstep {β : Type} (call : XCall) (dr : Bool) (lend : FuncId → Bool) (c0 : Nat) (op : VOp) (d : Option Nat) (S : XS) (k : XS → Option β) : Option β :=
 match op with
 | .call f xs => xcallop call dr lend c0 f xs d S k
 | .callv x xs => (if dr = true then fun k => k S else frzL c0 (xs.flatMap X.reads) S) fun S =>
   (match asFn (x.ev (nth S.r)) with
   | some f => (match call f (xs.map (X.ev (nth S.r))) [] S.c with
    | some ⟨v, _, c'⟩ => fN c' fun c' => xput d v S.r fun r => k ⟨r, S.s, c'⟩
    | none => none)
   | none => none)
 | op => (if dr = true then fun k => k S else (match op with | .build .. | .bsl .. | .store .. | .box .. => frzL c0 op.reads S | _ => fun k => k S)) fun S =>
  (match xeff c0 (X.ev (nth S.r)) S.s S.c op with
  | some ⟨v, s, c, none⟩ => xput d v S.r fun r => k ⟨r, s, c⟩
  | some ⟨v, s, c, some (.inl t)⟩ => fL (killR t S.r) fun r => xput d v r fun r => k ⟨r, s, c⟩
  | _ => none)

def xops (call : XCall) (dr : Bool) (lend : FuncId → Bool) (c0 : Nat) (l : List VO) (S : XS) : Option XS :=
 match l with
 | [] => some S
 | ⟨d, op, none⟩ :: r => xstep call dr lend c0 op d S fun S => xops call dr lend c0 r S
 | ⟨d, op, some (t, b)⟩ :: r => match nth S.r t with
  | .lit (.bool b') => if b' = b then xstep call dr lend c0 op d S fun S => xops call dr lend c0 r S else xput d (.tup []) S.r fun rr => xops call dr lend c0 r ⟨rr, S.s, S.c⟩
  | .tup [] => xput d (.tup []) S.r fun rr => xops call dr lend c0 r ⟨rr, S.s, S.c⟩
  | _ => none

structure XOut where
 e : VEx
 S : XS
def frzOf (l : List VO) : List Nat := l.flatMap fun o => match o.op with | .call .. | .callv .. | .build .. | .bsl .. | .store .. | .box .. => o.op.reads | _ => []
def xrun (call : XCall) (lend : FuncId → Bool) (rsl : List Nat) (c0 : Nat) (n : Nat) (vc : VC) (S : XS) : Option XOut :=
 match n with
 | 0 => none
 | n + 1 => match vc with
  | .skip => some ⟨.normal, S⟩
  | .region dr ops => (if dr = true then frzL c0 (frzOf ops) S else fun k => k S) fun S =>
   (match xops call dr lend c0 ops S with | some S => some ⟨.normal, S⟩ | none => none)
  | .seq a b => match xrun call lend rsl c0 n a S with
   | some ⟨.normal, S⟩ => xrun call lend rsl c0 n b S
   | r => r
  | .cond x a b => match x.ev (nth S.r) with
   | .lit (.bool true) => xrun call lend rsl c0 n a S
   | .lit (.bool false) => xrun call lend rsl c0 n b S
   | _ => none
  | .block id b => match xrun call lend rsl c0 n b S with
   | some ⟨.exit j, S⟩ => if j = id then some ⟨.normal, S⟩ else some ⟨.exit j, S⟩
   | r => r
  | .loop b => match xrun call lend rsl c0 n b S with
   | some ⟨.normal, S⟩ => xrun call lend rsl c0 n (.loop b) S
   | r => r
  | .exit id => some ⟨.exit id, S⟩
  | .ret => frzL c0 rsl S fun S => some ⟨.ret, S⟩
  | .bad => none

structure XFun where
 f : FuncId
 vc : VC
 rs : List VRes
 n : Nat
def findF (l : List XFun) (f : FuncId) : Option XFun := match l with | [] => none | e :: r => if Nat.beq e.f f = true then some e else findF r f
def resSlots : List VRes → List Nat | [] => [] | .tmp t :: r => t :: resSlots r | _ :: r => resSlots r

abbrev XOrc := FuncId → List V → Option V
def OrcOk (P : Program) (orc : XOrc) : Prop := ∀ f xs v, orc f xs = some v → ∀ c, VCallP P f c xs v c
def askO (orc : XOrc) (f : FuncId) (xs : List V) (sl : BL) : Option V := match sl with | [] => orc f xs | _ => none

def xcall (orc : XOrc) (T : List XFun) (lend : FuncId → Bool) (rounds : Nat) : Nat → XCall
 | 0 => fun _ _ _ _ => none
 | n + 1 => fun f xs sl c => match findF T f with
  | none => none
  | some ⟨_, vc, rs, m⟩ => match askO orc f xs sl with
  | some v => some ⟨v, [], c⟩
  | none => if xs.length ≤ m then
   (match fL (xs ++ List.replicate (m - xs.length) .any) fun r => xrun (xcall orc T lend rounds n) lend (resSlots rs) c rounds vc ⟨r, sl, c⟩ with
   | some ⟨.exit _, _⟩ => none
   | some ⟨e, S⟩ => (match vresult S.vs rs with | some v => some ⟨v, keepB (fun t => (lookB sl t).isSome) S.s, S.c⟩ | none => none)
   | none => none) else none

def GoodF (P : Program) (e : XFun) : Prop := ∃ fn code, P.funcs[e.f]? = some fn ∧ fn.body = some code ∧ resCode P fn.ntmps code = e.vc ∧ resResults P fn.results.toList = some e.rs ∧ fn.ntmps = e.n ∧ (fn.name == "runtime.NumGoroutine") = false


def Fz (P : Program) (dr : Bool) (c0 : Nat) (S S0 : XS) : Prop := (∀ ops S', VSteps P dr c0 ops S0.vs S' → VSteps P dr c0 ops S.vs S') ∧ ∀ t v, nth S.r t = .lit v → nth S0.r t = .lit v
theorem Fz.refl {P : Program} {dr : Bool} {c0 : Nat} {S : XS} : Fz P dr c0 S S := ⟨fun _ _ h => h, fun _ _ h => h⟩
theorem frzL_fz {β : Type} {P : Program} {c0 : Nat} {l : List Nat} {S : XS} {k : XS → Option β} {b : β} (h : frzL c0 l S k = some b) : ∃ S1 : XS, k S1 = some b ∧ Fz P false c0 S S1 := by
 induction l generalizing S with
 | nil => exact ⟨S, h, Fz.refl⟩
 | cons i r ih =>
  obtain ⟨S1, h1, h2⟩ := frz1_some h
  obtain ⟨S2, h3, h4, h6⟩ := ih h1
  rcases h2 with rfl | ⟨t, off, n, sz, cap, cells, lv, g1, g2, g3, g4, g5⟩
  ·exact ⟨S2, h3, h4, h6⟩
  ·refine ⟨S2, h3, fun ops S' hs => .frz rfl g1 g2 g3 g4 (by rw [← g5]; exact h4 ops S' hs), fun u v hv => h6 u v ?_⟩
   have e : nth S1.r u = upd (nth S.r) i (.sl (Tok.from off t) sz (((cells.drop off).take (n * sz)).map V.solid)) u := congrFun (congrArg VS.ρ g5) u
   rw [e]
   simp only [upd]
   split
   ·rename_i e; subst e
    have g1' : nth S.r u = _ := g1
    rw [hv] at g1'; cases g1'
   ·exact hv
theorem fz_if {β : Type} {P : Program} {dr : Bool} {c0 : Nat} {p : Prop} [Decidable p] (hp : dr = true → p) {l : List Nat} {S : XS} {k : XS → Option β} {b : β} (h : (if p then fun k => k S else frzL c0 l S) k = some b) : ∃ S1 : XS, k S1 = some b ∧ Fz P dr c0 S S1 := by
 split at h
 ·exact ⟨S, h, Fz.refl⟩
 ·rename_i g
  cases dr with
  | true => exact absurd (hp rfl) g
  | false => exact frzL_fz h

theorem joinB (c : Nat) (s sl s' : BL) (h : ∀ t, lookB sl t = none → lookB s' t = none) : lookB (keepB (fun t => !((lookB sl t).isSome || decide (c ≤ t))) s ++ s') = joinσ c (lookB s) (lookB sl) (lookB s') := by
 funext t
 rw [lookB_append, lookB_keep]
 unfold joinσ
 by_cases e1 : (lookB sl t).isSome = true
 ·simp [e1]
 ·have e1' : lookB sl t = none := by simpa using e1
  by_cases e2 : c ≤ t
  ·simp [e1, e2]
  ·simp only [e1', Option.isSome_none, Bool.false_or, e2, decide_false, Bool.not_false, if_true, Bool.false_eq_true, or_self, if_false]
   rw [h t e1']
   cases lookB s t <;> rfl

theorem xcallop_sound {β : Type} {P : Program} {call : XCall} (hc : CallOk P call) {dr : Bool} {lend : FuncId → Bool} {c0 : Nat} {f : FuncId} {xs : List X} {d : Option Nat} {S : XS} {k : XS → Option β} {b : β} (h : xcallop call dr lend c0 f xs d S k = some b) :
  ∃ (S0 S1 : XS) (v : V) (σ' : Nat → Option Blk) (c' : Nat) (kt : KT), Fz P dr c0 S S0 ∧ VEff P dr c0 (X.ev S0.vs.ρ) S0.vs.σ S0.vs.c (.call f xs) v σ' c' kt ∧ S1.vs = ⟨updo (kill kt S0.vs.ρ) d v, σ', c'⟩ ∧ k S1 = some b := by
 unfold xcallop at h
 obtain ⟨S0, h, hz⟩ := fz_if (P := P) (dr := dr) (fun e => .inl e) h
 dsimp only at h
 split at h
 ·split at h
  ·rename_i v s' c' hcl
   rw [fN_eq] at h
   obtain ⟨r', h1, h2⟩ := xput_some h
   obtain ⟨g1, g2⟩ := hc _ _ _ _ _ hcl
   have e : lookB s' = noBlk := funext fun t => g2 t rfl
   rw [lookB_nil] at g1
   dsimp only at g1
   rw [e] at g1
   exact ⟨S0, _, v, _, c', none, hz, .callp g1, by simp only [XS.vs, h2]; rfl, h1⟩
  ·cases h
 ·rename_i sl hsl
  split at h
  ·rename_i v s' c' hcl
   rw [fN_eq, fL_eq] at h
   obtain ⟨r', h1, h2⟩ := xput_some h
   obtain ⟨g1, g2⟩ := hc _ _ _ _ _ hcl
   have hdr : dr = false := by
    cases dr with
    | false => rfl
    | true => exact absurd (by simp) hsl
   subst hdr
   simp only [Bool.false_eq_true, if_false] at *
   refine ⟨S0, _, v, _, c', none, hz, .call rfl (fun t k hk => lentB_ok _ _ t k hk) g1, ?_, h1⟩
   simp only [XS.vs, h2]
   rw [joinB _ _ _ _ g2]
   rfl
  ·cases h

theorem xeffop {β : Type} {P : Program} {dr : Bool} {c0 : Nat} {op : VOp} {d : Option Nat} {S : XS} {k : XS → Option β} {b : β}
  (h : (match xeff c0 (X.ev (nth S.r)) S.s S.c op with
  | some ⟨v, s, c, none⟩ => xput d v S.r fun r => k ⟨r, s, c⟩
  | some ⟨v, s, c, some (.inl t)⟩ => fL (killR t S.r) fun r => xput d v r fun r => k ⟨r, s, c⟩
  | _ => none) = some b) :
  ∃ (S1 : XS) (v : V) (σ' : Nat → Option Blk) (c' : Nat) (kt : KT), VEff P dr c0 (X.ev S.vs.ρ) S.vs.σ S.vs.c op v σ' c' kt ∧ S1.vs = ⟨updo (kill kt S.vs.ρ) d v, σ', c'⟩ ∧ k S1 = some b := by
 split at h
 ·rename_i v s c hx
  obtain ⟨r', h1, h2⟩ := xput_some h
  exact ⟨_, v, _, c, none, xeff_sound hx, by simp only [XS.vs, h2]; rfl, h1⟩
 ·rename_i v s c t hx
  rw [fL_eq] at h
  obtain ⟨r', h1, h2⟩ := xput_some h
  exact ⟨_, v, _, c, some (.inl t), xeff_sound hx, by simp only [XS.vs, h2, nth_kill], h1⟩
 ·cases h

theorem xstep_sound {β : Type} {P : Program} {call : XCall} (hc : CallOk P call) {dr : Bool} {lend : FuncId → Bool} {c0 : Nat} {op : VOp} {d : Option Nat} {S : XS} {k : XS → Option β} {b : β}
  (hfn : ∀ x xs, op = .callv x xs → ∀ f r, call f (xs.map (X.ev (nth S.r))) [] S.c = some r → True)
  (hnm : ∀ f xs sl c r, call f xs sl c = some r → ∃ fn b, P.funcs[f]? = some fn ∧ (fn.name == "runtime.NumGoroutine") = false ∧ fn.body = some b) (h : xstep call dr lend c0 op d S k = some b) :
  ∃ (S0 S1 : XS) (v : V) (σ' : Nat → Option Blk) (c' : Nat) (kt : KT), Fz P dr c0 S S0 ∧ VEff P dr c0 (X.ev S0.vs.ρ) S0.vs.σ S0.vs.c op v σ' c' kt ∧ S1.vs = ⟨updo (kill kt S0.vs.ρ) d v, σ', c'⟩ ∧ k S1 = some b := by
 unfold xstep at h
 split at h
 ·exact xcallop_sound hc h
 ·rename_i x xs
  obtain ⟨S0, h, hz⟩ := fz_if (P := P) (dr := dr) (fun e => e) h
  split at h
  ·rename_i f hx
   split at h
   ·rename_i v s' c' hcl
    rw [fN_eq] at h
    obtain ⟨r', h1, h2⟩ := xput_some h
    obtain ⟨g1, g2⟩ := hc _ _ _ _ _ hcl
    have e : lookB s' = noBlk := funext fun t => g2 t rfl
    rw [lookB_nil] at g1
    dsimp only at g1
    rw [e] at g1
    exact ⟨S0, _, v, _, c', none, hz, .callv (asFn_some hx) (hnm _ _ _ _ _ hcl) g1, by simp only [XS.vs, h2]; rfl, h1⟩
   ·cases h
  ·cases h
 ·obtain ⟨S0, h, hz⟩ : ∃ S1 : XS, (match xeff c0 (X.ev (nth S1.r)) S1.s S1.c op with
    | some ⟨v, s, c, none⟩ => xput d v S1.r fun r => k ⟨r, s, c⟩
    | some ⟨v, s, c, some (.inl t)⟩ => fL (killR t S1.r) fun r => xput d v r fun r => k ⟨r, s, c⟩
    | _ => none) = some b ∧ Fz P dr c0 S S1 := by
   cases dr with
   | true => exact ⟨S, by simpa using h, Fz.refl⟩
   | false =>
    simp only [Bool.false_eq_true, if_false] at h
    split at h
    all_goals first | exact frzL_fz h | exact ⟨S, h, Fz.refl⟩
  obtain ⟨S1, v, σ', c', kt, g1, g2, g3⟩ := xeffop (P := P) (dr := dr) h
  exact ⟨S0, S1, v, σ', c', kt, hz, g1, g2, g3⟩

theorem xops_sound {P : Program} {call : XCall} (hc : CallOk P call) (hnm : ∀ f xs sl c r, call f xs sl c = some r → ∃ fn b, P.funcs[f]? = some fn ∧ (fn.name == "runtime.NumGoroutine") = false ∧ fn.body = some b) {dr : Bool} {lend : FuncId → Bool} {c0 : Nat} {l : List VO} {S S' : XS} (h : xops call dr lend c0 l S = some S') :
  VSteps P dr c0 l S.vs S'.vs := by
 induction l generalizing S with
 | nil => cases h; exact .nil _
 | cons o r ih =>
  obtain ⟨d, op, g⟩ := o
  have run : ∀ g : Option (Nat × Bool), (∀ t b, g = some (t, b) → nth S.r t = .lit (.bool b)) → xstep call dr lend c0 op d S (fun S => xops call dr lend c0 r S) = some S' → VSteps P dr c0 (⟨d, op, g⟩ :: r) S.vs S'.vs := by
   intro g hg h
   obtain ⟨S0, S1, v, σ', c', kt, hz, h1, h2, h3⟩ := xstep_sound hc (fun _ _ _ _ _ _ => trivial) hnm h
   refine hz.1 _ _ (.cons (.run (fun t b e => hz.2 _ _ (hg t b e)) h1) ?_)
   rw [← h2]
   exact ih h3
  cases g with
  | none => exact run none (fun t b e => by cases e) h
  | some tb =>
   obtain ⟨t, b⟩ := tb
   have skip : skips (nth S.r t) b → (xput d (.tup []) S.r fun rr => xops call dr lend c0 r ⟨rr, S.s, S.c⟩) = some S' → VSteps P dr c0 (⟨d, op, some (t, b)⟩ :: r) S.vs S'.vs := by
    intro hs h
    obtain ⟨r', h1, h2⟩ := xput_some h
    refine .cons (.skip rfl hs) ?_
    have := ih h1
    simp only [XS.vs, h2] at this
    exact this
   simp only [xops] at h
   split at h
   ·rename_i b' hb
    split at h
    ·rename_i e
     subst e
     exact run _ (fun t' b'' e => by cases e; exact hb) h
    ·rename_i e
     exact skip (.inl ⟨b', hb, e⟩) h
   ·rename_i hb
    exact skip (.inr hb) h
   ·cases h

theorem xrun_sound {P : Program} {call : XCall} (hc : CallOk P call) (hnm : ∀ f xs sl c r, call f xs sl c = some r → ∃ fn b, P.funcs[f]? = some fn ∧ (fn.name == "runtime.NumGoroutine") = false ∧ fn.body = some b) {lend : FuncId → Bool} {rsl : List Nat} {c0 : Nat} {n : Nat} {vc : VC} {S : XS} {o : XOut} (h : xrun call lend rsl c0 n vc S = some o) :
  VExec P c0 vc S.vs o.e o.S.vs := by
 induction n generalizing vc S o with
 | zero => cases h
 | succ n ih =>
  unfold xrun at h
  split at h
  ·cases h; exact .skip _
  ·rename_i dr ops
   have fin : ∀ S0 : XS, (match xops call dr lend c0 ops S0 with | some S => some (⟨.normal, S⟩ : XOut) | none => none) = some o → VExec P c0 (.region dr ops) S0.vs o.e o.S.vs := by
    intro S0 h
    split at h
    ·rename_i S1 hS
     cases h
     exact .region (xops_sound hc hnm hS)
    ·cases h
   split at h
   ·obtain ⟨S0, h1, h2⟩ := frzL_exec (P := P) h
    exact h2 _ _ _ (fin S0 h1)
   ·exact fin S h
  ·rename_i a b
   split at h
   ·rename_i S1 h1
    exact .seq (ih h1) (ih h)
   ·rename_i hne
    refine .seqOut (ih h) ?_
    intro e
    obtain ⟨e0, S1⟩ := o
    simp only at e
    subst e
    exact hne S1 h
  ·split at h
   ·rename_i hx
    exact .cond (t := true) hx (ih h)
   ·rename_i hx
    exact .cond (t := false) hx (ih h)
   ·cases h
  ·split at h
   ·rename_i j S1 h1
    split at h
    ·rename_i e; subst e; cases h; exact .blockExit (ih h1)
    ·rename_i e; cases h; exact .block (ih h1) (fun e' => by cases e'; exact e rfl)
   ·rename_i hne
    refine .block (ih h) ?_
    intro e
    obtain ⟨e0, S1⟩ := o
    simp only at e
    subst e
    exact hne _ S1 h
  ·split at h
   ·rename_i S1 h1
    exact .loop (ih h1) (ih h)
   ·rename_i hne
    refine .loopOut (ih h) ?_
    intro e
    obtain ⟨e0, S1⟩ := o
    simp only at e
    subst e
    exact hne S1 h
  ·cases h; exact .exit _ _
  ·obtain ⟨S0, h1, h2⟩ := frzL_exec (P := P) h
   cases h1
   exact h2 _ _ _ (.ret _)
  ·cases h

theorem findF_some {T : List XFun} {f : FuncId} {e : XFun} (h : findF T f = some e) : e ∈ T ∧ e.f = f := by
 induction T with
 | nil => cases h
 | cons a r ih =>
  simp only [findF] at h
  split at h
  ·rename_i g
   cases h
   exact ⟨List.mem_cons_self, Nat.eq_of_beq_eq_true g⟩
  ·obtain ⟨h1, h2⟩ := ih h
   exact ⟨List.mem_cons_of_mem _ h1, h2⟩

theorem xcall_sound {P : Program} (hm : P.follows .mixedOrders = true) {orc : XOrc} (ho : OrcOk P orc) {T : List XFun} (hT : ∀ e ∈ T, GoodF P e) {lend : FuncId → Bool} {rounds : Nat} (n : Nat) : CallOk P (xcall orc T lend rounds n) ∧ ∀ f xs sl c r, xcall orc T lend rounds n f xs sl c = some r → ∃ fn b, P.funcs[f]? = some fn ∧ (fn.name == "runtime.NumGoroutine") = false ∧ fn.body = some b := by
 induction n with
 | zero => exact ⟨fun f xs sl c r h => (by cases h), fun f xs sl c r h => (by cases h)⟩
 | succ n ih =>
  constructor
  ·intro f xs sl c r h
   simp only [xcall] at h
   split at h
   ·cases h
   ·rename_i f' vc rs m hf
    obtain ⟨h1, h2⟩ := findF_some hf
    obtain ⟨fn, code, g1, g2, g3, g4, g5, _⟩ := hT _ h1
    dsimp only at h2 g1 g3 g4 g5
    subst h2 g5
    split at h
    ·rename_i v hv
     cases h
     cases sl with
     | nil =>
      refine ⟨?_, fun t _ => rfl⟩
      rw [lookB_nil]
      exact ho _ _ _ hv c
     | cons _ _ => cases hv
    split at h
    ·rename_i hlen
     split at h
     ·cases h
     ·rename_i e S hne hr
      rw [fL_eq] at hr
      have hex := xrun_sound ih.1 ih.2 hr
      dsimp only at hex
      have hst : (⟨xs ++ List.replicate (fn.ntmps - xs.length) .any, sl, c⟩ : XS).vs = ⟨start xs, lookB sl, c⟩ := by simp only [XS.vs, nth_append_any, start_nth]
      rw [hst] at hex
      split at h
      ·rename_i v hv
       cases h
       have he : e = .ret ∨ e = .normal := by
        cases e with
        | normal => exact .inr rfl
        | ret => exact .inl rfl
        | exit id => exact (hne id rfl).elim
       refine ⟨vcalls_of_exec hm g1 g2 g3 g4 hlen hex he hv (fun t k hk => ?_) (fun t ht => ?_), fun t ht => ?_⟩
       ·rw [lookB_keep] at hk
        split at hk
        ·exact hk
        ·cases hk
       ·rw [lookB_keep, if_pos]
        ·rfl
        ·cases hq : lookB sl t with
         | none => exact absurd hq ht
         | some k => rfl
       ·dsimp only
        rw [lookB_keep, ht]
        rfl
      ·cases h
     ·cases h
    ·cases h
  ·intro f xs sl c r h
   simp only [xcall] at h
   split at h
   ·cases h
   ·rename_i f' vc rs m hf
    obtain ⟨h1, h2⟩ := findF_some hf
    obtain ⟨fn, code, g1, g2, g3, g4, g5, g6⟩ := hT _ h1
    dsimp only at h2 g1
    subst h2
    exact ⟨fn, code, g1, g6, g2⟩
end Go.VM
namespace Go.VM
theorem xcall_p {P : Program} (hm : P.follows .mixedOrders = true) {orc : XOrc} (ho : OrcOk P orc) {T : List XFun} (hT : ∀ e ∈ T, GoodF P e) {lend : FuncId → Bool} {rounds n c : Nat} {f : FuncId} {xs : List V} {v : V}
  (h : ((xcall orc T lend rounds n f xs [] c).map fun r => r.v) = some v) : ∃ c', VCallP P f c xs v c' := by
 cases hr : xcall orc T lend rounds n f xs [] c with
 | none => rw [hr] at h; cases h
 | some r =>
  rw [hr] at h
  cases h
  obtain ⟨h1, h2⟩ := (xcall_sound hm ho hT (lend := lend) (rounds := rounds) n).1 f xs [] c r hr
  have e : lookB r.s = noBlk := funext fun t => h2 t rfl
  rw [lookB_nil, e] at h1
  exact ⟨_, h1⟩
end Go.VM
namespace Go.VM

inductive Loose : V → V → Prop
 | lit (v : Value) : Loose (.lit v) (.lit v)
 | sl (t : Tok) (sz : Nat) (l : List Value) : Loose (.sl t sz (l.map .lit)) (.sl .unk sz (l.map .lit))
 | tup (l l' : List V) (hn : l.length = l'.length) (h : ∀ (j : Nat) (x y : V), l[j]? = some x → l'[j]? = some y → Loose x y) : Loose (.tup l) (.tup l')

theorem Loose.nats (t : Tok) (l : List Nat) : Loose (nats t l) (nats .unk l) := by
 have := Loose.sl t 1 (l.map fun (n : Nat) => Value.int .u64 (n : Int))
 rw [List.map_map] at this
 exact this
theorem Loose.pair {x y x' y' : V} (h1 : Loose x x') (h2 : Loose y y') : Loose (.tup [x, y]) (.tup [x', y']) :=
 .tup _ _ rfl fun j a b ha hb => match j, ha, hb with
  | 0, ha, hb => by simp at ha hb; subst ha hb; exact h1
  | 1, ha, hb => by simp at ha hb; subst ha hb; exact h2
  | j + 2, ha, hb => by simp at ha
theorem rep_lit {w : World} {M : Nat → Prop} {μ : Nat → Nat} {c : Nat} {v u : Value} (h : Rep w M μ c (.lit v) u) : u = v := by cases h; rfl
theorem Loose.one {x y : V} (h : Loose x y) : x.one = true := by cases h <;> rfl

theorem VCallP.at {P : Program} {f : FuncId} {c' : Nat} {v : Value} (h : VCallP P f 0 [] (.lit v) c') (c : Nat) : VCallP P f c [] (.lit v) c := by
 intro w Φ μ vs hm hn ha
 have hm0 : Mem ⟨P, 0, w, Φ, 0, μ, noBlk, noGiv⟩ noBlk 0 w μ := ⟨⟨fun t ht => absurd rfl ht, fun t ht => absurd rfl ht, fun t t' ht => absurd rfl ht, fun t ht => absurd ht (Nat.not_lt_zero _), fun b hb => hb.elim, fun t ht => absurd rfl ht, fun b hb => hb.elim, hm.good.glob⟩, ⟨rfl, rfl, rfl, Nat.le_refl _, Grows.refl _, fun _ _ _ _ => rfl⟩, Nat.le_refl _, fun _ _ => rfl, fun t h1 h2 => absurd h2 (Nat.not_lt_zero _), fun t t' h1 h2 => absurd h2 (Nat.not_lt_zero _), fun t k hk => (by cases hk), fun t ht => absurd rfl ht, fun t k hk => (by cases hk)⟩
 refine Calls.mono (h w Φ μ vs hm0 hn (fun j x v hx => by simp at hx)) ?_
 rintro e W' ⟨u, μ', rfl, hm', hr⟩
 refine ⟨u, μ, rfl, ⟨hm.good, ⟨hm'.moved.os, hm'.moved.tape, hm'.moved.output, hm'.moved.size, hm'.moved.grows, fun b hb hg _ => hm'.moved.block b hb hg (fun t ht => absurd rfl ht)⟩, Nat.le_refl _, fun _ _ => rfl, fun t h1 h2 => absurd h2 (Nat.not_lt.2 h1), fun t t' h1 h2 => absurd h2 (Nat.not_lt.2 h1), fun t k hk => (by cases hk), fun t ht => absurd rfl ht, fun t k hk => (by cases hk)⟩, RepE.of_one ?_⟩
 have := hr.one rfl
 rw [rep_lit this]
 exact .lit v

def dec1 (v : V) : Option Nat := match v with | .lit (.int .u64 (.ofNat n)) => if n < 18446744073709551616 then some n else none | _ => none
def decL (l : List V) : Option (List Nat) := match l with
 | [] => some []
 | x :: r => match dec1 x, decL r with | some n, some l => some (n :: l) | _, _ => none
def shortL (l : List Nat) : Bool := Nat.ble l.length 1000000
def decN (v : V) : Option (Tok × List Nat) := match v with
 | .sl t 1 l => match decL l with | some r => if shortL r = true then some (t, r) else none | none => none
 | _ => none
def o1 (g : Nat → V) (xs : List V) : Option V := match xs with | [x] => (match decN x with | some p => some (g (val 18446744073709551616 p.2)) | none => none) | _ => none
def o2 (g : Nat → Nat → V) (xs : List V) : Option V := match xs with | [x, y] => (match decN x, decN y with | some p, some q => some (g (val 18446744073709551616 p.2) (val 18446744073709551616 q.2)) | _, _ => none) | _ => none
section
variable {P : Program} {f : FuncId} {xs : List V} {v : V}
end
end Go.VM
namespace Go.Proofs.YtcafgpconlkecaaGreatDoor
open Go.VM

theorem gX {f : FuncId} {fn : Func} {C : VC} {R : List VRes} {n : Nat} (g : Gok f fn C R n) (h : (fn.name == "runtime.NumGoroutine") = false := by kernel_rfl) : GoodF Tryz.prog ⟨f, C, R, n⟩ := ⟨_, _, g.e, g.b, g.k, g.q, g.n, h⟩

theorem X.surdlaw10_awake : GoodF Tryz.prog ⟨F.l10awake, C.l10awake, R.l10awake, 46⟩ := gX G.l10awake
theorem X.surdlaw10_num : GoodF Tryz.prog ⟨F.l10num, C.l10num, R.l10num, 4⟩ := gX G.l10num
theorem X.surdref01_Num_Limbs : GoodF Tryz.prog ⟨F.r01Num_Limbs, C.r01Num_Limbs, R.r01Num_Limbs, 34⟩ := gX G.r01Num_Limbs
theorem X.span_Add : GoodF Tryz.prog ⟨F.span_Add, C.span_Add, R.span_Add, 24⟩ := gX G.span_Add
theorem X.surdref08_Int : GoodF Tryz.prog ⟨F.r08Int, C.r08Int, R.r08Int, 9⟩ := gX G.r08Int
theorem X.surdref06_Z_Sign : GoodF Tryz.prog ⟨F.r06Z_Sign, C.r06Z_Sign, R.r06Z_Sign, 8⟩ := gX G.r06Z_Sign
theorem X.surdref08_D_Is : GoodF Tryz.prog ⟨F.r08D_Is, C.r08D_Is, R.r08D_Is, 20⟩ := gX G.r08D_Is
theorem X.surdlaw10_small : GoodF Tryz.prog ⟨F.l10small, C.l10small, R.l10small, 8⟩ := gX G.l10small
theorem X.surdref08_Of : GoodF Tryz.prog ⟨F.r08Of, C.r08Of, R.r08Of, 24⟩ := gX G.r08Of
theorem X.span_checks : GoodF Tryz.prog ⟨F.span_checks, C.span_checks, R.span_checks, 26⟩ := gX G.span_checks
theorem X.span_sums : GoodF Tryz.prog ⟨F.span_sums, C.span_sums, R.span_sums, 42⟩ := gX G.span_sums
theorem X.span_worst : GoodF Tryz.prog ⟨F.span_worst, C.span_worst, R.span_worst, 15⟩ := gX G.span_worst
theorem X.surdref06_Int : GoodF Tryz.prog ⟨F.r06Int, C.r06Int, R.r06Int, 16⟩ := gX G.r06Int
theorem X.span_ends : GoodF Tryz.prog ⟨F.span_ends, C.span_ends, R.span_ends, 21⟩ := gX G.span_ends
theorem X.surdref01_Num_Zero : GoodF Tryz.prog ⟨F.r01Num_Zero, C.r01Num_Zero, R.r01Num_Zero, 6⟩ := gX G.r01Num_Zero
theorem X.span_check : GoodF Tryz.prog ⟨F.span_check, C.span_check, R.span_check, 20⟩ := gX G.span_check
theorem X.span_outward : GoodF Tryz.prog ⟨F.span_outward, C.span_outward, R.span_outward, 31⟩ := gX G.span_outward
theorem X.dyadic_Compare : GoodF Tryz.prog ⟨F.dyadic_Compare, C.dyadic_Compare, R.dyadic_Compare, 22⟩ := gX G.dyadic_Compare
theorem X.surdref06_Z_Is : GoodF Tryz.prog ⟨F.r06Z_Is, C.r06Z_Is, R.r06Z_Is, 17⟩ := gX G.r06Z_Is
theorem X.surdref01_Int : GoodF Tryz.prog ⟨F.r01Int, C.r01Int, R.r01Int, 7⟩ := gX G.r01Int
theorem X.surdref01_Num_Tail : GoodF Tryz.prog ⟨F.r01Num_Tail, C.r01Num_Tail, R.r01Num_Tail, 14⟩ := gX G.r01Num_Tail
theorem X.surdref01_Shr : GoodF Tryz.prog ⟨F.r01Shr, C.r01Shr, R.r01Shr, 53⟩ := gX G.r01Shr
theorem X.surdref06_make1 : GoodF Tryz.prog ⟨F.r06make1, C.r06make1, R.r06make1, 13⟩ := gX G.r06make1
theorem X.dyadic_Add : GoodF Tryz.prog ⟨F.dyadic_Add, C.dyadic_Add, R.dyadic_Add, 25⟩ := gX G.dyadic_Add
theorem X.dyadic_two : GoodF Tryz.prog ⟨F.dyadic_two, C.dyadic_two, R.dyadic_two, 28⟩ := gX G.dyadic_two
theorem X.dyadic_told : GoodF Tryz.prog ⟨F.dyadic_told, C.dyadic_told, R.dyadic_told, 34⟩ := gX G.dyadic_told
theorem X.surdref01_Of : GoodF Tryz.prog ⟨F.r01Of, C.r01Of, R.r01Of, 26⟩ := gX G.r01Of
theorem X.whole_Sign : GoodF Tryz.prog ⟨F.whole_Sign, C.whole_Sign, R.whole_Sign, 11⟩ := gX G.whole_Sign
theorem X.nat_Length : GoodF Tryz.prog ⟨F.nat_Length, C.nat_Length, R.nat_Length, 20⟩ := gX G.nat_Length
theorem X.nat_Tail : GoodF Tryz.prog ⟨F.nat_Tail, C.nat_Tail, R.nat_Tail, 20⟩ := gX G.nat_Tail
theorem X.nat_Bit : GoodF Tryz.prog ⟨F.nat_Bit, C.nat_Bit, R.nat_Bit, 25⟩ := gX G.nat_Bit
theorem X.dyadic_read : GoodF Tryz.prog ⟨F.dyadic_read, C.dyadic_read, R.dyadic_read, 14⟩ := gX G.dyadic_read
theorem X.dyadic_Round : GoodF Tryz.prog ⟨F.dyadic_Round, C.dyadic_Round, R.dyadic_Round, 36⟩ := gX G.dyadic_Round
theorem X.dyadic_compare : GoodF Tryz.prog ⟨F.dyadic_compare, C.dyadic_compare, R.dyadic_compare, 71⟩ := gX G.dyadic_compare
theorem X.surdref01_Num_Is : GoodF Tryz.prog ⟨F.r01Num_Is, C.r01Num_Is, R.r01Num_Is, 29⟩ := gX G.r01Num_Is
theorem X.surdref01_norm : GoodF Tryz.prog ⟨F.r01norm, C.r01norm, R.r01norm, 22⟩ := gX G.r01norm
theorem X.surdref01_Num_Bit : GoodF Tryz.prog ⟨F.r01Num_Bit, C.r01Num_Bit, R.r01Num_Bit, 24⟩ := gX G.r01Num_Bit
theorem X.surdref01_Num_at : GoodF Tryz.prog ⟨F.r01Num_at, C.r01Num_at, R.r01Num_at, 13⟩ := gX G.r01Num_at
theorem X.dyadic_sum : GoodF Tryz.prog ⟨F.dyadic_sum, C.dyadic_sum, R.dyadic_sum, 97⟩ := gX G.dyadic_sum
theorem X.whole_result : GoodF Tryz.prog ⟨F.whole_result, C.whole_result, R.whole_result, 18⟩ := gX G.whole_result
theorem X.dyadic_odd : GoodF Tryz.prog ⟨F.dyadic_odd, C.dyadic_odd, R.dyadic_odd, 30⟩ := gX G.dyadic_odd
theorem X.dyadic_part_sign : GoodF Tryz.prog ⟨F.dyadic_part_sign, C.dyadic_part_sign, R.dyadic_part_sign, 6⟩ := gX G.dyadic_part_sign
theorem X.dyadic_part_length : GoodF Tryz.prog ⟨F.dyadic_part_length, C.dyadic_part_length, R.dyadic_part_length, 7⟩ := gX G.dyadic_part_length
theorem X.dyadic_within : GoodF Tryz.prog ⟨F.dyadic_within, C.dyadic_within, R.dyadic_within, 9⟩ := gX G.dyadic_within
theorem X.nat_From : GoodF Tryz.prog ⟨F.nat_From, C.nat_From, R.nat_From, 7⟩ := gX G.nat_From
theorem X.nat_Norm : GoodF Tryz.prog ⟨F.nat_Norm, C.nat_Norm, R.nat_Norm, 6⟩ := gX G.nat_Norm
theorem X.nat_trim : GoodF Tryz.prog ⟨F.nat_trim, C.nat_trim, R.nat_trim, 21⟩ := gX G.nat_trim
theorem X.bits_Len64 : GoodF Tryz.prog ⟨F.bits_Len64, C.bits_Len64, R.bits_Len64, 25⟩ := gX G.bits_Len64
theorem X.nat_Add : GoodF Tryz.prog ⟨F.nat_Add, C.nat_Add, R.nat_Add, 61⟩ := gX G.nat_Add
theorem X.bits_TrailingZeros64 : GoodF Tryz.prog ⟨F.bits_TrailingZeros64, C.bits_TrailingZeros64, R.bits_TrailingZeros64, 14⟩ := gX G.bits_TrailingZeros64
theorem X.dyadic_direction : GoodF Tryz.prog ⟨F.dyadic_direction, C.dyadic_direction, R.dyadic_direction, 13⟩ := gX G.dyadic_direction
theorem X.dyadic_rounded : GoodF Tryz.prog ⟨F.dyadic_rounded, C.dyadic_rounded, R.dyadic_rounded, 34⟩ := gX G.dyadic_rounded
theorem X.dyadic_number_top : GoodF Tryz.prog ⟨F.dyadic_number_top, C.dyadic_number_top, R.dyadic_number_top, 10⟩ := gX G.dyadic_number_top
theorem X.dyadic_left : GoodF Tryz.prog ⟨F.dyadic_left, C.dyadic_left, R.dyadic_left, 65⟩ := gX G.dyadic_left
theorem X.nat_Compare : GoodF Tryz.prog ⟨F.nat_Compare, C.nat_Compare, R.nat_Compare, 45⟩ := gX G.nat_Compare
theorem X.whole_Make : GoodF Tryz.prog ⟨F.whole_Make, C.whole_Make, R.whole_Make, 12⟩ := gX G.whole_Make
theorem X.dyadic_long : GoodF Tryz.prog ⟨F.dyadic_long, C.dyadic_long, R.dyadic_long, 64⟩ := gX G.dyadic_long
theorem X.whole_Add : GoodF Tryz.prog ⟨F.whole_Add, C.whole_Add, R.whole_Add, 57⟩ := gX G.whole_Add
theorem X.whole_fits : GoodF Tryz.prog ⟨F.whole_fits, C.whole_fits, R.whole_fits, 11⟩ := gX G.whole_fits
theorem X.dyadic_shifted : GoodF Tryz.prog ⟨F.dyadic_shifted, C.dyadic_shifted, R.dyadic_shifted, 76⟩ := gX G.dyadic_shifted
theorem X.nat_told : GoodF Tryz.prog ⟨F.nat_told, C.nat_told, R.nat_told, 10⟩ := gX G.nat_told
theorem X.dyadic_steps : GoodF Tryz.prog ⟨F.dyadic_steps, C.dyadic_steps, R.dyadic_steps, 98⟩ := gX G.dyadic_steps
theorem X.nat_Left : GoodF Tryz.prog ⟨F.nat_Left, C.nat_Left, R.nat_Left, 73⟩ := gX G.nat_Left
theorem X.dyadic_minus : GoodF Tryz.prog ⟨F.dyadic_minus, C.dyadic_minus, R.dyadic_minus, 49⟩ := gX G.dyadic_minus
theorem X.dyadic_plus : GoodF Tryz.prog ⟨F.dyadic_plus, C.dyadic_plus, R.dyadic_plus, 51⟩ := gX G.dyadic_plus
theorem X.whole_norm : GoodF Tryz.prog ⟨F.whole_norm, C.whole_norm, R.whole_norm, 16⟩ := gX G.whole_norm
theorem X.nat_Sub : GoodF Tryz.prog ⟨F.nat_Sub, C.nat_Sub, R.nat_Sub, 52⟩ := gX G.nat_Sub
theorem X.nat_Right : GoodF Tryz.prog ⟨F.nat_Right, C.nat_Right, R.nat_Right, 77⟩ := gX G.nat_Right
theorem X.dyadic_limb : GoodF Tryz.prog ⟨F.dyadic_limb, C.dyadic_limb, R.dyadic_limb, 13⟩ := gX G.dyadic_limb
def XT : List XFun := [⟨F.l10awake, C.l10awake, R.l10awake, 46⟩,
 ⟨F.l10num, C.l10num, R.l10num, 4⟩,
 ⟨F.r01Num_Limbs, C.r01Num_Limbs, R.r01Num_Limbs, 34⟩,
 ⟨F.span_Add, C.span_Add, R.span_Add, 24⟩,
 ⟨F.r08Int, C.r08Int, R.r08Int, 9⟩,
 ⟨F.r06Z_Sign, C.r06Z_Sign, R.r06Z_Sign, 8⟩,
 ⟨F.r08D_Is, C.r08D_Is, R.r08D_Is, 20⟩,
 ⟨F.l10small, C.l10small, R.l10small, 8⟩,
 ⟨F.r08Of, C.r08Of, R.r08Of, 24⟩,
 ⟨F.span_checks, C.span_checks, R.span_checks, 26⟩,
 ⟨F.span_sums, C.span_sums, R.span_sums, 42⟩,
 ⟨F.span_worst, C.span_worst, R.span_worst, 15⟩,
 ⟨F.r06Int, C.r06Int, R.r06Int, 16⟩,
 ⟨F.span_ends, C.span_ends, R.span_ends, 21⟩,
 ⟨F.r01Num_Zero, C.r01Num_Zero, R.r01Num_Zero, 6⟩,
 ⟨F.span_check, C.span_check, R.span_check, 20⟩,
 ⟨F.span_outward, C.span_outward, R.span_outward, 31⟩,
 ⟨F.dyadic_Compare, C.dyadic_Compare, R.dyadic_Compare, 22⟩,
 ⟨F.r06Z_Is, C.r06Z_Is, R.r06Z_Is, 17⟩,
 ⟨F.r01Int, C.r01Int, R.r01Int, 7⟩,
 ⟨F.r01Num_Tail, C.r01Num_Tail, R.r01Num_Tail, 14⟩,
 ⟨F.r01Shr, C.r01Shr, R.r01Shr, 53⟩,
 ⟨F.r06make1, C.r06make1, R.r06make1, 13⟩,
 ⟨F.dyadic_Add, C.dyadic_Add, R.dyadic_Add, 25⟩,
 ⟨F.dyadic_two, C.dyadic_two, R.dyadic_two, 28⟩,
 ⟨F.dyadic_told, C.dyadic_told, R.dyadic_told, 34⟩,
 ⟨F.r01Of, C.r01Of, R.r01Of, 26⟩,
 ⟨F.whole_Sign, C.whole_Sign, R.whole_Sign, 11⟩,
 ⟨F.nat_Length, C.nat_Length, R.nat_Length, 20⟩,
 ⟨F.nat_Tail, C.nat_Tail, R.nat_Tail, 20⟩,
 ⟨F.nat_Bit, C.nat_Bit, R.nat_Bit, 25⟩,
 ⟨F.dyadic_read, C.dyadic_read, R.dyadic_read, 14⟩,
 ⟨F.dyadic_Round, C.dyadic_Round, R.dyadic_Round, 36⟩,
 ⟨F.dyadic_compare, C.dyadic_compare, R.dyadic_compare, 71⟩,
 ⟨F.r01Num_Is, C.r01Num_Is, R.r01Num_Is, 29⟩,
 ⟨F.r01norm, C.r01norm, R.r01norm, 22⟩,
 ⟨F.r01Num_Bit, C.r01Num_Bit, R.r01Num_Bit, 24⟩,
 ⟨F.r01Num_at, C.r01Num_at, R.r01Num_at, 13⟩,
 ⟨F.dyadic_sum, C.dyadic_sum, R.dyadic_sum, 97⟩,
 ⟨F.whole_result, C.whole_result, R.whole_result, 18⟩,
 ⟨F.dyadic_odd, C.dyadic_odd, R.dyadic_odd, 30⟩,
 ⟨F.dyadic_part_sign, C.dyadic_part_sign, R.dyadic_part_sign, 6⟩,
 ⟨F.dyadic_part_length, C.dyadic_part_length, R.dyadic_part_length, 7⟩,
 ⟨F.dyadic_within, C.dyadic_within, R.dyadic_within, 9⟩,
 ⟨F.nat_From, C.nat_From, R.nat_From, 7⟩,
 ⟨F.nat_Norm, C.nat_Norm, R.nat_Norm, 6⟩,
 ⟨F.nat_trim, C.nat_trim, R.nat_trim, 21⟩,
 ⟨F.bits_Len64, C.bits_Len64, R.bits_Len64, 25⟩,
 ⟨F.nat_Add, C.nat_Add, R.nat_Add, 61⟩,
 ⟨F.bits_TrailingZeros64, C.bits_TrailingZeros64, R.bits_TrailingZeros64, 14⟩,
 ⟨F.dyadic_direction, C.dyadic_direction, R.dyadic_direction, 13⟩,
 ⟨F.dyadic_rounded, C.dyadic_rounded, R.dyadic_rounded, 34⟩,
 ⟨F.dyadic_number_top, C.dyadic_number_top, R.dyadic_number_top, 10⟩,
 ⟨F.dyadic_left, C.dyadic_left, R.dyadic_left, 65⟩,
 ⟨F.nat_Compare, C.nat_Compare, R.nat_Compare, 45⟩,
 ⟨F.whole_Make, C.whole_Make, R.whole_Make, 12⟩,
 ⟨F.dyadic_long, C.dyadic_long, R.dyadic_long, 64⟩,
 ⟨F.whole_Add, C.whole_Add, R.whole_Add, 57⟩,
 ⟨F.whole_fits, C.whole_fits, R.whole_fits, 11⟩,
 ⟨F.dyadic_shifted, C.dyadic_shifted, R.dyadic_shifted, 76⟩,
 ⟨F.nat_told, C.nat_told, R.nat_told, 10⟩,
 ⟨F.dyadic_steps, C.dyadic_steps, R.dyadic_steps, 98⟩,
 ⟨F.nat_Left, C.nat_Left, R.nat_Left, 73⟩,
 ⟨F.dyadic_minus, C.dyadic_minus, R.dyadic_minus, 49⟩,
 ⟨F.dyadic_plus, C.dyadic_plus, R.dyadic_plus, 51⟩,
 ⟨F.whole_norm, C.whole_norm, R.whole_norm, 16⟩,
 ⟨F.nat_Sub, C.nat_Sub, R.nat_Sub, 52⟩,
 ⟨F.nat_Right, C.nat_Right, R.nat_Right, 77⟩,
 ⟨F.dyadic_limb, C.dyadic_limb, R.dyadic_limb, 13⟩]
theorem XT_good : ∀ e ∈ XT, GoodF Tryz.prog e := by
 intro e h
 unfold XT at h
 simp only [List.mem_cons, List.not_mem_nil, or_false] at h
 rcases h with rfl | rfl | rfl | rfl | rfl | rfl | rfl | rfl | rfl | rfl | rfl | rfl | rfl | rfl | rfl | rfl | rfl | rfl | rfl | rfl | rfl | rfl | rfl | rfl | rfl | rfl | rfl | rfl | rfl | rfl | rfl | rfl | rfl | rfl | rfl | rfl | rfl | rfl | rfl | rfl | rfl | rfl | rfl | rfl | rfl | rfl | rfl | rfl | rfl | rfl | rfl | rfl | rfl | rfl | rfl | rfl | rfl | rfl | rfl | rfl | rfl | rfl | rfl | rfl | rfl | rfl | rfl | rfl | rfl
 ·exact X.surdlaw10_awake
 ·exact X.surdlaw10_num
 ·exact X.surdref01_Num_Limbs
 ·exact X.span_Add
 ·exact X.surdref08_Int
 ·exact X.surdref06_Z_Sign
 ·exact X.surdref08_D_Is
 ·exact X.surdlaw10_small
 ·exact X.surdref08_Of
 ·exact X.span_checks
 ·exact X.span_sums
 ·exact X.span_worst
 ·exact X.surdref06_Int
 ·exact X.span_ends
 ·exact X.surdref01_Num_Zero
 ·exact X.span_check
 ·exact X.span_outward
 ·exact X.dyadic_Compare
 ·exact X.surdref06_Z_Is
 ·exact X.surdref01_Int
 ·exact X.surdref01_Num_Tail
 ·exact X.surdref01_Shr
 ·exact X.surdref06_make1
 ·exact X.dyadic_Add
 ·exact X.dyadic_two
 ·exact X.dyadic_told
 ·exact X.surdref01_Of
 ·exact X.whole_Sign
 ·exact X.nat_Length
 ·exact X.nat_Tail
 ·exact X.nat_Bit
 ·exact X.dyadic_read
 ·exact X.dyadic_Round
 ·exact X.dyadic_compare
 ·exact X.surdref01_Num_Is
 ·exact X.surdref01_norm
 ·exact X.surdref01_Num_Bit
 ·exact X.surdref01_Num_at
 ·exact X.dyadic_sum
 ·exact X.whole_result
 ·exact X.dyadic_odd
 ·exact X.dyadic_part_sign
 ·exact X.dyadic_part_length
 ·exact X.dyadic_within
 ·exact X.nat_From
 ·exact X.nat_Norm
 ·exact X.nat_trim
 ·exact X.bits_Len64
 ·exact X.nat_Add
 ·exact X.bits_TrailingZeros64
 ·exact X.dyadic_direction
 ·exact X.dyadic_rounded
 ·exact X.dyadic_number_top
 ·exact X.dyadic_left
 ·exact X.nat_Compare
 ·exact X.whole_Make
 ·exact X.dyadic_long
 ·exact X.whole_Add
 ·exact X.whole_fits
 ·exact X.dyadic_shifted
 ·exact X.nat_told
 ·exact X.dyadic_steps
 ·exact X.nat_Left
 ·exact X.dyadic_minus
 ·exact X.dyadic_plus
 ·exact X.whole_norm
 ·exact X.nat_Sub
 ·exact X.nat_Right
 ·exact X.dyadic_limb
theorem hm9 : Tryz.prog.follows .mixedOrders = true := by kernel_rfl
def orcNo : XOrc := fun _ _ => none
theorem orcNo_ok : OrcOk Tryz.prog orcNo := fun f xs v h => by cases h
theorem awake_spec (c : Nat) : VSpec Tryz.prog F.l10awake c [] (fun r _ => r = bv true) := by
 obtain ⟨c', h⟩ := xcall_p hm9 orcNo_ok XT_good (lend := fun _ => false) (rounds := 100000) (n := 60) (c := 0) (f := F.l10awake) (xs := []) (v := bv true) (by kernel_rfl)
 exact ⟨_, c, Nat.le_refl _, h.at c, rfl⟩
end Go.Proofs.YtcafgpconlkecaaGreatDoor
namespace Go.Proofs.YtcafgpconlkecaaGreatDoor
open Go.VM Go.RowKit

theorem RSum.ex {x y : Dy} {v : V} (h : RSum x y v) : ∃ ok k, ∃ lo : Dy, v = .tup [fV k lo, bv ok] ∧ (ok = true → lo = addD x y ∧ bl lo.m ≤ 2000000001) := by
 rcases h with ⟨h, k, rfl⟩ | ⟨h, k, rfl⟩
 ·exact ⟨true, k, _, rfl, fun _ => ⟨rfl, h⟩⟩
 ·exact ⟨false, k, _, rfl, fun h => by cases h⟩
theorem anE_told {f : Int} {x y : Dy} (h : anE f x y = 0) : f = 0 ∧ tE x = 0 ∧ tE y = 0 ∧ anL f x y = x ∧ anH f x y = y := by
 unfold anE at h
 by_cases g : f = 0
 ·rw [if_pos g] at h
  obtain ⟨h1, h2⟩ := ansE_zero.1 h
  subst g
  exact ⟨rfl, h1, h2, if_pos h, if_pos h⟩
 ·rw [if_neg g] at h; exact absurd h g
theorem rds_of (t u : Tok) (x y : Dy) (c : Nat) (hx : x.Ok) (hy : y.Ok) (h1 : tE x = 0) (h2 : tE y = 0) : VSpec Tryz.prog F.l10reads c [rsV t u (RD.of x) (RD.of y)] (fun r _ => ∃ tk uk, r = fsV tk uk x y) := by
 obtain ⟨k1, e1⟩ := told_ok hx h1
 obtain ⟨k2, e2⟩ := told_ok hy h2
 have h := rds10_spec t u (RD.of x) (RD.of y) c k1 k2
 rw [e1, e2] at h
 exact h
theorem told_r' {d : Dy} (hd : d.Ok) (h : tE d = 0) : RNum d := by
 obtain ⟨k, e⟩ := told_ok hd h
 have := k.num.r
 rw [e] at this
 exact this
theorem mn_in {e1 e2 e3 e4 : Dy} : mnN e1 e2 e3 e4 3 = e1 ∨ mnN e1 e2 e3 e4 3 = e2 ∨ mnN e1 e2 e3 e4 3 = e3 ∨ mnN e1 e2 e3 e4 3 = e4 := by
 show minD (minD (minD e1 e2) e3) e4 = e1 ∨ minD (minD (minD e1 e2) e3) e4 = e2 ∨ minD (minD (minD e1 e2) e3) e4 = e3 ∨ minD (minD (minD e1 e2) e3) e4 = e4
 have key : ∀ x y : Dy, minD x y = x ∨ minD x y = y := fun x y => by unfold minD; split <;> simp
 rcases key (minD (minD e1 e2) e3) e4 with h | h
 ·rw [h]
  rcases key (minD e1 e2) e3 with h | h
  ·rw [h]
   rcases key e1 e2 with h | h
   ·exact .inl h
   ·exact .inr (.inl h)
  ·exact .inr (.inr (.inl h))
 ·exact .inr (.inr (.inr h))
theorem mx_in {e1 e2 e3 e4 : Dy} : mxN e1 e2 e3 e4 3 = e1 ∨ mxN e1 e2 e3 e4 3 = e2 ∨ mxN e1 e2 e3 e4 3 = e3 ∨ mxN e1 e2 e3 e4 3 = e4 := by
 show maxD (maxD (maxD e1 e2) e3) e4 = e1 ∨ maxD (maxD (maxD e1 e2) e3) e4 = e2 ∨ maxD (maxD (maxD e1 e2) e3) e4 = e3 ∨ maxD (maxD (maxD e1 e2) e3) e4 = e4
 have key : ∀ x y : Dy, maxD x y = x ∨ maxD x y = y := fun x y => by unfold maxD; split <;> simp
 rcases key (maxD (maxD e1 e2) e3) e4 with h | h
 ·rw [h]
  rcases key (maxD e1 e2) e3 with h | h
  ·rw [h]
   rcases key e1 e2 with h | h
   ·exact .inl h
   ·exact .inr (.inl h)
  ·exact .inr (.inr (.inl h))
 ·exact .inr (.inr (.inr h))
theorem sqL_in {x y : Dy} : sqL x y = mulD x x ∨ sqL x y = mulD y y ∨ sqL x y = dy0 := by
 unfold sqL
 split
 ·exact .inr (.inr rfl)
 ·split
  ·exact .inr (.inl rfl)
  ·exact .inl rfl
theorem sqH_in {x y : Dy} : sqH x y = mulD x x ∨ sqH x y = mulD y y := by
 unfold sqH
 split
 ·exact .inl rfl
 ·exact .inr rfl
theorem sqL_ok (x y : Dy) : (sqL x y).Ok := by rcases sqL_in (x := x) (y := y) with h | h | h <;> rw [h] <;> first | exact mulD_ok _ _ | exact dy0_ok
theorem sqH_ok (x y : Dy) : (sqH x y).Ok := by rcases sqH_in (x := x) (y := y) with h | h <;> rw [h] <;> exact mulD_ok _ _
theorem mn_ok {e1 e2 e3 e4 : Dy} (h1 : e1.Ok) (h2 : e2.Ok) (h3 : e3.Ok) (h4 : e4.Ok) : (mnN e1 e2 e3 e4 3).Ok := by rcases mn_in (e1 := e1) (e2 := e2) (e3 := e3) (e4 := e4) with h | h | h | h <;> rw [h] <;> assumption
theorem mx_ok {e1 e2 e3 e4 : Dy} (h1 : e1.Ok) (h2 : e2.Ok) (h3 : e3.Ok) (h4 : e4.Ok) : (mxN e1 e2 e3 e4 3).Ok := by rcases mx_in (e1 := e1) (e2 := e2) (e3 := e3) (e4 := e4) with h | h | h | h <;> rw [h] <;> assumption
end Go.Proofs.YtcafgpconlkecaaGreatDoor
namespace Go.Proofs.YtcafgpconlkecaaGreatDoor
open Go.VM

def SpW (A : Dy → Dy → Prop) (r : V) : Prop := ∃ t u x y e, r = .tup [rsV t u x y, iv e] ∧ (e = 0 → ∃ lo hi, x = RD.of lo ∧ y = RD.of hi ∧ A lo hi ∧ lo.Ok ∧ hi.Ok ∧ tE lo = 0 ∧ tE hi = 0)
theorem SpE.w {A B : Dy → Dy → Prop} {r : V} (h : SpE A r) (hab : ∀ x y, x.Ok → y.Ok → A x y → B x y) : SpW B r := by
 rcases h with ⟨e, he, rfl⟩ | ⟨lo, hi, t, u, h1, h2, h3, h4, h5, rfl⟩
 ·exact ⟨_, _, _, _, e, rfl, fun h => absurd h he⟩
 ·exact ⟨t, u, _, _, 0, rfl, fun _ => ⟨lo, hi, rfl, rfl, hab _ _ h2 h3 h1, h2, h3, h4, h5⟩⟩
theorem AnsF.w {A : Dy → Dy → Prop} {c c' : Nat} {f : Int} {lo hi : Dy} {r : V} (h : AnsF c c' f lo hi r) (hc : c ≤ c') (o1 : lo.Ok) (o2 : hi.Ok) (ha : f = 0 → A lo hi) : SpW A r := by
 obtain ⟨t, u, _, _, _, hr, _, _⟩ := h.an hc
 refine ⟨t, u, _, _, _, hr, fun he => ?_⟩
 obtain ⟨h0, h1, h2, h3, h4⟩ := anE_told he
 exact ⟨lo, hi, by rw [h3], by rw [h4], ha h0, o1, o2, h1, h2⟩
theorem squo_spec (ta tb tc td : Tok) (a b p q : RD) (pos : Int) (c : Nat) (ha : Arg a.l) (hb : Arg b.l) (hp : Arg p.l) (hq : Arg q.l) (k1 : chkE a b = 0) (k2 : chkE p q = 0) (hf : fitE pos) :
  VSpec Tryz.prog F.span_Quo c [rsV ta tb a b, rsV tc td p q, iv pos] (fun r _ => SpE (fun lo hi => QuoF a.d b.d p.d q.d lo hi) r) := by
 refine sG hm G.span_Quo ?_
 unfold C.span_Quo R.span_Quo cD
 obtain ⟨fa, fb, hab⟩ := chk_ok k1
 obtain ⟨fp, fq, hpq⟩ := chk_ok k2
 have h1 : w2 pos (chkE a b) (chkE p q) = 0 := by unfold w2; rw [if_pos k1, if_pos k2, if_pos hf]
 refine zR ?_
 refine s_call (checksP pos ta tb tc td a b p q (.id (c + 3)) (c + 4) ha hb hp hq) wSr ?_
 rintro v c1 hc1 rfl
 rw [h1]
 refine zR ?_
 refine s_call (quotients_spec ta tb tc td a b p q pos c1 ⟨ha, fa⟩ ⟨hb, fb⟩ ⟨hp, fp⟩ ⟨hq, fq⟩ hpq hf) wS ?_
 rintro v c3 hc3 hv
 have hv2 := hv
 obtain ⟨t5, u5, x5, y5, e5, rfl, _⟩ := hv.shape
 refine zR ?_
 exact hv2
theorem sOutward_spec (ta tb : Tok) (a b : RD) (pos : Int) (c : Nat) (ha : Arg a.l) (hb : Arg b.l) (k1 : chkE a b = 0) (hf : fitE pos) :
  VSpec Tryz.prog F.span_Outward c [rsV ta tb a b, iv pos] (fun r _ => SpW (fun lo hi => leD lo a.d ∧ leD b.d hi) r) := by
 refine sG hm G.span_Outward ?_
 unfold C.span_Outward R.span_Outward cD
 obtain ⟨fa, fb, hab⟩ := chk_ok k1
 have oa : a.Ok := ⟨ha, fa⟩
 have ob : b.Ok := ⟨hb, fb⟩
 have h1 : w1 pos (chkE a b) = 0 := by unfold w1; rw [if_pos k1, if_pos hf]
 refine zR ?_
 refine s_call (checks1 pos ta tb a b (.id (c + 2)) (c + 3) ha hb) wSr ?_
 rintro v c1 hc1 rfl
 rw [h1]
 refine zR ?_
 refine s_call (outward_spec ta tb a b pos c1 oa ob hf) wS ?_
 rintro v c2 hc2 hv
 have l1 : leD (rD a.d pos false) a.d := rD_lo oa.num.ok
 have l2 : leD b.d (rD b.d pos true) := rD_hi ob.num.ok
 have r1 := rD_ok oa.num.ok pos false
 have r2 := rD_ok ob.num.ok pos true
 generalize rD a.d pos false = lo at *
 generalize rD b.d pos true = hi at *
 have hw : AnsF c1 c2 0 lo hi v := ⟨fun h => absurd rfl h, fun _ => hv⟩
 obtain ⟨t, u, cm, g3, g4, rfl, gt, gu⟩ := hv
 refine zR ?_
 exact hw.w (A := fun lo hi => leD lo a.d ∧ leD b.d hi) hc2 r1 r2 (fun _ => ⟨l1, l2⟩)
theorem sPow3_spec (ta tb : Tok) (a b : RD) (pos : Int) (c : Nat) (ha : a.Ok) (hb : b.Ok) (hk : chkE a b = 0) (hp : fitE pos) :
  VSpec Tryz.prog F.span_Pow c [rsV ta tb a b, iv 3, iv pos] (fun r _ => SpW (fun lo hi => leD lo (cubD a.d) ∧ leD (cubD b.d) hi) r) := by
 refine sG hm G.span_Pow ?_
 unfold C.span_Pow R.span_Pow cD
 have hp' := hp
 unfold fitE at hp'
 have l1 : ¬ (3 : Int) < 0 := by decide
 have l2 : ¬ (1000 : Int) < 3 := by decide
 have l3 : ¬ pos < -1099511627776 := by omega
 have l4 : ¬ 1099511627776 < pos := by omega
 have l5 : ¬ (3 : Int) % 2 = 0 := by decide
 have l6 : (3 : Int) % 2 = 1 := by decide
 refine zR ?_
 refine s_call (check_spec ta tb a b (c + 2) ha.arg hb.arg) wS ?_
 rw [hk]
 rintro v c1 hc1 rfl
 refine zRF (jn l1 (jn l2 (jn l3 (jn l4 (jn l5 l6))))) ?_
 refine s_call (DPow3_any ta a c1 ha) wS ?_
 rintro v c3 hc3 ⟨t1, x, e, rfl, hx⟩
 refine zR ?_
 refine s_call (DPow3_any tb b (c3 + 1) hb) wS ?_
 rintro v c4 hc4 ⟨t2, y, f, rfl, hy⟩
 refine zR ?_
 refine s_call (worst_spec e f (c4 + 1)) wS ?_
 rintro v c5 hc5 rfl
 by_cases g : worstE e f = 0
 ·obtain ⟨g1, g2⟩ := worst_zero.1 g
  obtain ⟨_, d, rfl, rfl, a2, a3⟩ := hx.resolve_left (fun h => h g1)
  obtain ⟨_, d', rfl, rfl, b2, b3⟩ := hy.resolve_left (fun h => h g2)
  obtain ⟨k1, e1⟩ := told_ok a2 a3
  obtain ⟨k2, e2⟩ := told_ok b2 b3
  refine zRF g ?_
  refine s_call (outward_spec t1 t2 (RD.of (cubD a.d)) (RD.of (cubD b.d)) pos c5 k1 k2 hp) wS ?_
  rw [e1, e2]
  rintro v c6 hc6 hv
  have r1 := rD_ok a2 pos false
  have r2 := rD_ok b2 pos true
  have l1 : leD (rD (cubD a.d) pos false) (cubD a.d) := rD_lo a2
  have l2 : leD (cubD b.d) (rD (cubD b.d) pos true) := rD_hi b2
  generalize rD (cubD a.d) pos false = lo at *
  generalize rD (cubD b.d) pos true = hi at *
  have hw : AnsF c5 c6 0 lo hi v := ⟨fun h => absurd rfl h, fun _ => hv⟩
  obtain ⟨t, u, cm, g3, g4, rfl, gt, gu⟩ := hv
  refine zR ?_
  exact hw.w (A := fun lo hi => leD lo (cubD a.d) ∧ leD (cubD b.d) hi) hc6 r1 r2 (fun _ => ⟨l1, l2⟩)
 ·refine zRF g ?_
  exact ⟨.nil, .nil, rd0, rd0, _, rfl, fun h => absurd h g⟩

theorem hasB_of {x y z : Dy} (h1 : leD x z) (h2 : leD z y) : hasB x y z = true := by
 unfold hasB
 unfold leD at h1 h2
 rw [decide_eq_true h1, decide_eq_true h2]; rfl
theorem sg_up {p y : Dy} (h : 0 < p.sg) (h3 : leD p y) : ¬ y.sg < 0 := fun g => by
 have := np_iff.1 (leD_trans h3 (np_iff.2 (Int.le_of_lt g)))
 omega
theorem sg_down {q y : Dy} (h : q.sg < 0) (h3 : leD y q) : y.sg < 0 := by
 rcases Int.lt_or_le y.sg 0 with g | g
 ·exact g
 ·have := nn_iff.1 (leD_trans (nn_iff.2 g) h3)
  omega
theorem neg_mul_l {l x y : Dy} (h : leD (mulD l (negD y)) (negD x)) : leD x (mulD l y) := by
 obtain ⟨E, hE⟩ : ∃ E, E = min (min l.e x.e) (min y.e 0) := ⟨_, rfl⟩
 have ll : Low E l := ⟨by omega, by omega⟩
 have lx : Low E x := ⟨by omega, by omega⟩
 have ly : Low E y := ⟨by omega, by omega⟩
 have e0 := ll.le0
 obtain ⟨m1, m2⟩ := mul_zv ll ly
 obtain ⟨n1, n2⟩ := mul_zv ll (neg_zv ly)
 have l2 : Low (E + E) x := ⟨by have := lx.le; omega, by omega⟩
 have l3 := neg_zv l2
 rw [leD_iff n2.le l3.le, n1, negD_zv, negD_zv, Int.mul_neg] at h
 rw [leD_iff l2.le m2.le, m1]
 omega
theorem neg_mul_r {l x y : Dy} (h : leD (negD x) (mulD l (negD y))) : leD (mulD l y) x := by
 obtain ⟨E, hE⟩ : ∃ E, E = min (min l.e x.e) (min y.e 0) := ⟨_, rfl⟩
 have ll : Low E l := ⟨by omega, by omega⟩
 have lx : Low E x := ⟨by omega, by omega⟩
 have ly : Low E y := ⟨by omega, by omega⟩
 have e0 := ll.le0
 obtain ⟨m1, m2⟩ := mul_zv ll ly
 obtain ⟨n1, n2⟩ := mul_zv ll (neg_zv ly)
 have l2 : Low (E + E) x := ⟨by have := lx.le; omega, by omega⟩
 have l3 := neg_zv l2
 rw [leD_iff l3.le n2.le, n1, negD_zv, negD_zv, Int.mul_neg] at h
 rw [leD_iff m2.le l2.le, m1]
 omega
theorem quoF_holds {a b p q lo hi x y : Dy} (c : QuoF a b p q lo hi) (h1 : leD a x) (h2 : leD x b) (h3 : leD p y) (h4 : leD y q) :
  (y.sg < 0 → leD (mulD hi y) x ∧ leD x (mulD lo y)) ∧ (¬ y.sg < 0 → leD (mulD lo y) x ∧ leD x (mulD hi y)) := by
 rcases c with ⟨hp, c⟩ | ⟨_, hq, c⟩
 ·have g := sg_up hp h3
  exact ⟨fun k => absurd k g, fun _ => quoC_holds c h1 h2 h3 h4 hp⟩
 ·have g := sg_down hq h4
  have hq2 : 0 < (negD q).sg := by rw [sg_neg]; omega
  obtain ⟨k1, k2⟩ := quoC_holds c (neg_anti h2) (neg_anti h1) (neg_anti h4) (neg_anti h3) hq2
  exact ⟨fun _ => ⟨neg_mul_r k2, neg_mul_l k1⟩, fun k => absurd g k⟩
end Go.Proofs.YtcafgpconlkecaaGreatDoor
namespace Go.Proofs.YtcafgpconlkecaaGreatDoor
open Go.VM Go.RowKit

theorem v_cut5 {P : Program} {c0 : Nat} {S : VS} {Q0 : VEx → VS → Prop} {a b d f x y : VC} (M : VS → Prop) (h1 : VWP P c0 a (thenQ P c0 b (thenQ P c0 d (thenQ P c0 f (thenQ P c0 x fun e S => e = .normal ∧ M S)))) S) (h2 : ∀ S, M S → VWP P c0 y Q0 S) : VWP P c0 (.seq a (.seq b (.seq d (.seq f (.seq x y))))) Q0 S := by
 refine vwp_seq (vwp_mono h1 ?_)
 intro e S' h
 cases e with
 | normal =>
  rw [thenQ_normal] at h ⊢
  exact v_cut4 M h h2
 | exit j => rw [thenQ_exit, thenQ_exit, thenQ_exit, thenQ_exit] at h; cases h.1
 | ret => rw [thenQ_ret, thenQ_ret, thenQ_ret, thenQ_ret] at h; cases h.1
theorem v_cut6 {P : Program} {c0 : Nat} {S : VS} {Q0 : VEx → VS → Prop} {a b d f g x y : VC} (M : VS → Prop) (h1 : VWP P c0 a (thenQ P c0 b (thenQ P c0 d (thenQ P c0 f (thenQ P c0 g (thenQ P c0 x fun e S => e = .normal ∧ M S))))) S) (h2 : ∀ S, M S → VWP P c0 y Q0 S) : VWP P c0 (.seq a (.seq b (.seq d (.seq f (.seq g (.seq x y)))))) Q0 S := by
 refine vwp_seq (vwp_mono h1 ?_)
 intro e S' h
 cases e with
 | normal =>
  rw [thenQ_normal] at h ⊢
  exact v_cut5 M h h2
 | exit j => rw [thenQ_exit, thenQ_exit, thenQ_exit, thenQ_exit, thenQ_exit] at h; cases h.1
 | ret => rw [thenQ_ret, thenQ_ret, thenQ_ret, thenQ_ret, thenQ_ret] at h; cases h.1
def BoxL (S : VS) (i : Nat) (l : List V) : Prop := ∃ k, k < S.c ∧ S.ρ i = .ptr k 0 ∧ S.σ k = some ⟨l, true⟩
abbrev spL (t u : Tok) (x y : RD) : List V := [bv x.neg, nats t x.l, iv x.e, bv y.neg, nats u y.l, iv y.e]
abbrev fL (t : Tok) (x : Dy) : List V := [bv x.neg, nats t (digs 4294967296 x.m), iv x.e]
def Hs (z lo hi : Dy) : Prop := leD lo z ∧ leD z hi
def SpI (A : Dy → Dy → Prop) (x y : RD) (e : Int) : Prop := e = 0 → ∃ lo hi, x = RD.of lo ∧ y = RD.of hi ∧ A lo hi ∧ lo.Ok ∧ hi.Ok ∧ tE lo = 0 ∧ tE hi = 0
theorem SpW.i {A : Dy → Dy → Prop} {r : V} (h : SpW A r) : ∃ t u x y e, r = .tup [rsV t u x y, iv e] ∧ SpI A x y e := h
theorem RSum2.ex {x y : Dy} {r : V} (h : RSum2 x y r) : ∃ ok k lo, r = .tup [fV k lo, bv ok] ∧ (ok = true → lo = addD x y ∧ bl lo.m ≤ 2000000001) := by
 rcases h with ⟨h1, _, k, rfl⟩ | ⟨_, k, rfl⟩
 ·exact ⟨true, k, _, rfl, fun _ => ⟨rfl, h1⟩⟩
 ·exact ⟨false, k, _, rfl, fun h => by cases h⟩
theorem SomeA.ex {lo hi : Dy} {r : V} (h : SomeA lo hi r) : ∃ ok k x, r = .tup [fV k x, bv ok] ∧ (ok = true → leD lo x ∧ leD x hi ∧ Rn 402653184 4398046511104 x) := by
 rcases h with ⟨k, x, rfl, h⟩ | ⟨k, rfl⟩
 ·exact ⟨true, k, x, rfl, fun _ => h⟩
 ·exact ⟨false, k, _, rfl, fun h => by cases h⟩
theorem hasT (t u w : Tok) {lo hi z : Dy} (c : Nat) (h : Hs z lo hi) (o1 : lo.Ok) (o2 : hi.Ok) (t1 : tE lo = 0) (t2 : tE hi = 0) (hz : RNum z) :
  VSpec Tryz.prog F.r10Has c [fsV t u lo hi, fV w z] (fun r _ => r = bv true) :=
 (rhas_spec t u w lo hi z c (told_r' o1 t1) (told_r' o2 t2) hz).mono fun r c' hr => by rw [hr, hasB_of h.1 h.2]
structure HC (S : VS) (c0 : Nat) (w x y s t : List V) : Prop where
 h5 : BoxL S 5 w
 h11 : BoxL S 11 x
 h13 : BoxL S 13 y
 h15 : BoxL S 15 s
 h16 : BoxL S 16 t
 fr : ∀ z, S.c ≤ z → S.σ z = none
 hc : c0 ≤ S.c
theorem HC.go {S S' : VS} {c0 : Nat} {w x y s t : List V} (h : HC S c0 w x y s t) (hc : S.c ≤ S'.c := by dsimp only; omega)
  (h5 : S'.ρ 5 = S.ρ 5 := by rfl) (h11 : S'.ρ 11 = S.ρ 11 := by rfl) (h13 : S'.ρ 13 = S.ρ 13 := by rfl) (h15 : S'.ρ 15 = S.ρ 15 := by rfl) (h16 : S'.ρ 16 = S.ρ 16 := by rfl)
  (lo : ∀ z, z < S.c → S'.σ z = S.σ z := by intro z hz; dsimp only at hz ⊢; (repeat rw [supd_ne _ _ _ _ (by omega)]))
  (hi : ∀ z, S'.c ≤ z → S'.σ z = S.σ z := by intro z hz; dsimp only at hz ⊢; (repeat rw [supd_ne _ _ _ _ (by omega)])) : HC S' c0 w x y s t := by
 obtain ⟨⟨k5, j5, p5, s5⟩, ⟨k11, j11, p11, s11⟩, ⟨k13, j13, p13, s13⟩, ⟨k15, j15, p15, s15⟩, ⟨k16, j16, p16, s16⟩, fr, h0⟩ := h
 exact ⟨⟨k5, by omega, by rw [h5, p5], by rw [lo _ j5, s5]⟩, ⟨k11, by omega, by rw [h11, p11], by rw [lo _ j11, s11]⟩, ⟨k13, by omega, by rw [h13, p13], by rw [lo _ j13, s13]⟩, ⟨k15, by omega, by rw [h15, p15], by rw [lo _ j15, s15]⟩, ⟨k16, by omega, by rw [h16, p16], by rw [lo _ j16, s16]⟩, fun z hz => by rw [hi z hz]; exact fr z (by omega), by omega⟩
theorem VSpec.w {P : Program} {f : FuncId} {c : Nat} {xs : List V} {F : Int} {lo hi : Dy} {A : Dy → Dy → Prop} (h : VSpec P f c xs (fun r c' => AnsF c c' F lo hi r)) (o1 : lo.Ok) (o2 : hi.Ok) (ha : F = 0 → A lo hi) : VSpec P f c xs (fun r _ => SpW A r) := by
 obtain ⟨r, c', h0, h1, h2⟩ := h
 exact ⟨r, c', h0, h1, h2.w h0 o1 o2 ha⟩
theorem SpW.mono {A B : Dy → Dy → Prop} {r : V} (h : SpW A r) (hab : ∀ x y, A x y → B x y) : SpW B r := by
 obtain ⟨t, u, x, y, e, hr, h⟩ := h
 refine ⟨t, u, x, y, e, hr, fun he => ?_⟩
 obtain ⟨lo, hi, h1, h2, h3, h4⟩ := h he
 exact ⟨lo, hi, h1, h2, hab _ _ h3, h4⟩
theorem told_n {d : Dy} (hd : d.Ok) (h : tE d = 0) : Num d := by
 obtain ⟨k, e⟩ := told_ok hd h
 have := k.num
 rw [e] at this
 exact this
theorem abs_rn {x : Dy} (h : RNum x) : RNum (dyOf false x.m x.e) := by
 have e : dyOf false x.m x.e = ⟨false, x.m, x.e⟩ := dyOf_id (d := ⟨false, x.m, x.e⟩) ⟨h.ok.odd, fun g => by have := h.ok.zero g; rw [this]; rfl⟩
 rw [e]
 exact ⟨⟨h.ok.odd, fun g => by have := h.ok.zero g; rw [this]; rfl⟩, h.bits, h.lo, h.hi⟩
theorem int08_1 (c : Nat) : VSpec Tryz.prog F.r08Int c [iv 1, iv 0] (fun r _ => ∃ tk, r = fV tk dy1) := by
 have e1 : dyOf false 1 0 = dy1 := dyOf_odd rfl
 have h := int08K 1 0 c (by decide) (by decide)
 rw [e1] at h
 exact h
theorem zs_n0 (t : Tok) {d : Dy} (c : Nat) (hd : RNum d) (h : leD dy0 d) : VSpec Tryz.prog F.r06Z_Sign c [zV t d.neg d.m] (fun r _ => ∃ s : Int, r = iv s ∧ ¬ s < 0) :=
 (zsign_spec d.neg t d.m c hd.bits (fun h0 => hd.nz h0)).mono fun r c' hr => ⟨_, hr, by have := nn_iff.1 h; unfold Dy.sg at this; unfold sgW; omega⟩
theorem minO {x y : Dy} (hx : x.Ok) (hy : y.Ok) : (minD x y).Ok := by unfold minD; split <;> assumption
theorem holds_law (t u t' u' : Tok) (a b p q : RD) (i j pos : Int) (c : Nat) (ha : Arg a.l) (hb : Arg b.l) (hp : Arg p.l) (hq : Arg q.l) (ht : Kn c t) (hu : Kn c u) (ht' : Kn c t') (hu' : Kn c u')
  (il : -9223372036854775808 ≤ i) (iu : i < 9223372036854775808) (jl : -9223372036854775808 ≤ j) (ju : j < 9223372036854775808) (kl : -9223372036854775808 ≤ pos) (ku : pos < 9223372036854775808) :
  VSpec Tryz.prog F.l10SpanHolds c [rsV t u a b, rsV t' u' p q, .agg [iv i, iv j, iv pos]] (fun r _ => r = bv true) := by
 refine sG hm G.l10SpanHolds ?_
 unfold C.l10SpanHolds R.l10SpanHolds cD
 refine zRF @nb_app ?_
 refine s_call (ofS_spec t u a b (c + 3) ha hb) wS ?_
 rintro v c1 hc1 ⟨w1, w2, rfl⟩
 refine zRF @nb_app ?_
 refine s_call (ofS_spec t' u' p q (c1 + 1) hp hq) wS ?_
 rintro v c2 hc2 ⟨w3, w4, rfl⟩
 by_cases kf : chkE a b = 0
 rotate_left
 ·refine zRF (jn kf @nb_app) ?_
  refine s_call (awake_spec (c2 + 1)) wS ?_
  rintro v c3 hc3 rfl
  refine zR ?_
  exact yE
 by_cases kg : chkE p q = 0
 rotate_left
 ·refine zRF (jn kf (jn kg @nb_app)) ?_
  refine s_call (awake_spec (c2 + 1)) wS ?_
  rintro v c3 hc3 rfl
  refine zR ?_
  exact yE
 refine zRF (jn kf (jn kg @nb_app)) ?_
 refine s_call (fits_spec' pos (c2 + 1)) wS ?_
 rintro v c3 hc3 rfl
 by_cases kp : fitE pos
 rotate_left
 ·refine zRF (jn kp @nb_app) ?_
  refine s_call (awake_spec c3) wS ?_
  rintro v c4 hc4 rfl
  refine zR ?_
  exact yE
 obtain ⟨fa, fb, hab⟩ := chk_ok kf
 obtain ⟨fp, fq, hpq⟩ := chk_ok kg
 have oa : a.Ok := ⟨ha, fa⟩
 have ob : b.Ok := ⟨hb, fb⟩
 have op : p.Ok := ⟨hp, fp⟩
 have oq : q.Ok := ⟨hq, fq⟩
 have okz : ∀ d : Dy, okL 0 d = d := fun _ => rfl
 simp only [okz]
 refine zRF (jn kp @nb_app) ?_
 refine s_call (some10_spec w1 w2 a.d b.d i c3 oa.num ob.num hab il iu) wS ?_
 rintro v c4 hc4 hv
 obtain ⟨g1, tx, x, rfl, hx⟩ := hv.ex
 clear hv
 refine zRF @nb_app ?_
 refine s_call (some10_spec w3 w4 p.d q.d j (c4 + 1) op.num oq.num hpq jl ju) wS ?_
 rintro v c5 hc5 hv
 obtain ⟨g2, ty, y, rfl, hy⟩ := hv.ex
 clear hv
 cases g1 with
 | false =>
  refine zRF @nb_app ?_
  refine s_call (awake_spec (c5 + 1)) wS ?_
  rintro v c6 hc6 rfl
  refine zR ?_
  exact yE
 | true =>
 cases g2 with
 | false =>
  refine zRF @nb_app ?_
  refine s_call (awake_spec (c5 + 1)) wS ?_
  rintro v c6 hc6 rfl
  refine zR ?_
  exact yE
 | true =>
 obtain ⟨hax, hxb, nx⟩ := hx rfl
 obtain ⟨hpy, hyq, ny⟩ := hy rfl
 clear hx hy
 have na := oa.num.ok
 have nb := ob.num.ok
 have np := op.num.ok
 have nq := oq.num.ok
 have rx : RNum x := nx.r (by decide) (by decide)
 have ry : RNum y := ny.r (by decide) (by decide)
 have rny : RNum (negD y) := ny.neg.r (by decide) (by decide)
 have bx := nx.bits
 have by0 := ny.bits
 have bny := ny.neg.bits
 have r1 : RNum dy1 := told_r' dy1_ok (by decide)
 have rsum : bl (addD x y).m ≤ 2000000001 → RNum (addD x y) := fun h => (nx.add ny h).r (by decide) (by decide)
 have rgap : bl (addD x (negD y)).m ≤ 2000000001 → RNum (addD x (negD y)) := fun h => (nx.add ny.neg h).r (by decide) (by decide)
 have rprod : RNum (mulD x y) := (nx.mul ny).r (by decide) (by decide)
 have rsq : RNum (mulD x x) := (nx.mul nx).r (by decide) (by decide)
 have bsq : bl (mulD x x).m ≤ 8589934592 := Nat.le_trans (nx.mul nx).bits (by decide)
 have rcub : RNum (mulD (mulD x x) x) := ((nx.mul nx).mul nx).r (by decide) (by decide)
 have rabs : RNum (dyOf false x.m x.e) := abs_rn rx
 have spAdd : ∀ cc, VSpec Tryz.prog F.span_Add cc [rsV t u a b, rsV t' u' p q, iv pos] (fun r _ => SpW (Hs (addD x y)) r) := fun cc =>
  VSpec.w (addS_spec t u t' u' a b p q pos cc ha hb hp hq) (rD_ok (addD_ok _ _) _ _) (rD_ok (addD_ok _ _) _ _) fun _ => ⟨leD_trans (rD_lo (addD_ok _ _)) (add_mono hax hpy), leD_trans (add_mono hxb hyq) (rD_hi (addD_ok _ _))⟩
 have spSub : ∀ cc, VSpec Tryz.prog F.span_Sub cc [rsV t u a b, rsV t' u' p q, iv pos] (fun r _ => SpW (Hs (addD x (negD y))) r) := fun cc =>
  VSpec.w (subS_spec t u t' u' a b p q pos cc ha hb hp hq) (rD_ok (addD_ok _ _) _ _) (rD_ok (addD_ok _ _) _ _) fun _ => ⟨leD_trans (rD_lo (addD_ok _ _)) (add_mono hax (neg_anti hyq)), leD_trans (add_mono hxb (neg_anti hpy)) (rD_hi (addD_ok _ _))⟩
 have okm := mn_ok (mulD_ok a.d p.d) (mulD_ok a.d q.d) (mulD_ok b.d p.d) (mulD_ok b.d q.d)
 have okx := mx_ok (mulD_ok a.d p.d) (mulD_ok a.d q.d) (mulD_ok b.d p.d) (mulD_ok b.d q.d)
 have spMul : ∀ cc, VSpec Tryz.prog F.span_Mul cc [rsV t u a b, rsV t' u' p q, iv pos] (fun r _ => SpW (Hs (mulD x y)) r) := fun cc =>
  VSpec.w (mulS_spec t u t' u' a b p q pos cc ha hb hp hq) (rD_ok okm _ _) (rD_ok okx _ _) fun _ => ⟨leD_trans (rD_lo okm) (mul_in hax hxb hpy hyq).1, leD_trans (mul_in hax hxb hpy hyq).2 (rD_hi okx)⟩
 have spQuo : ∀ cc, VSpec Tryz.prog F.span_Quo cc [rsV t u a b, rsV t' u' p q, iv pos] (fun r _ => SpW (fun lo hi => QuoF a.d b.d p.d q.d lo hi) r) := fun cc =>
  (squo_spec t u t' u' a b p q pos cc ha hb hp hq kf kg kp).mono fun r c' h => h.w fun _ _ _ _ h => h
 have spInv : ∀ cc, VSpec Tryz.prog F.span_Inverse cc [rsV t' u' p q, iv pos] (fun r _ => SpW (fun lo hi => QuoF dy1 dy1 p.d q.d lo hi) r) := fun cc =>
  (sinv_spec t' u' p q pos cc hp hq kp).mono fun r c' h => h.w fun _ _ _ _ h => h.2
 have spRoot : ∀ cc, VSpec Tryz.prog F.span_Sqrt cc [rsV t u a b, iv pos] (fun r _ => SpW (fun lo hi => leD dy0 lo ∧ leD (mulD lo lo) x ∧ leD x (mulD hi hi)) r) := fun cc =>
  (ssqrt_spec t u a b pos cc ha hb kf kp).mono fun r c' h => h.w fun _ _ _ _ h => ⟨h.2.1, leD_trans h.2.2.2.1 hax, leD_trans hxb h.2.2.2.2⟩
 have spSq : ∀ cc, VSpec Tryz.prog F.span_Square cc [rsV t u a b, iv pos] (fun r _ => SpW (Hs (mulD x x)) r) := fun cc =>
  VSpec.w (ssq_spec t u a b pos cc oa ob kf kp) (rD_ok (sqL_ok _ _) _ _) (rD_ok (sqH_ok _ _) _ _) fun _ => ⟨leD_trans (rD_lo (sqL_ok _ _)) (sq_in hax hxb).1, leD_trans (sq_in hax hxb).2 (rD_hi (sqH_ok _ _))⟩
 have spCub : ∀ cc, VSpec Tryz.prog F.span_Pow cc [rsV t u a b, iv 3, iv pos] (fun r _ => SpW (Hs (mulD (mulD x x) x)) r) := fun cc =>
  (sPow3_spec t u a b pos cc oa ob kf kp).mono fun r c' h => h.mono fun lo hi h => ⟨leD_trans h.1 (leD_trans (cub_mono hax) (cub_mul x).1), leD_trans (leD_trans (cub_mul x).2 (cub_mono hxb)) h.2⟩
 have spAbs : ∀ cc, VSpec Tryz.prog F.span_Abs cc [rsV t u a b] (fun r _ => SpW (Hs (dyOf false x.m x.e)) r) := fun cc => by
  obtain ⟨r, c', h0, h1, lo, hi, ol, oh, hl, h2⟩ := sabs_spec t u a b cc ha hb
  obtain ⟨z1, z2, z3, z4⟩ := hl kf
  exact ⟨r, c', h0, h1, h2.w h0 ol oh fun _ => abs_in hax hxb z3 z4 z1 z2⟩
 have spMin : ∀ cc, VSpec Tryz.prog F.span_Min cc [rsV t u a b, rsV t' u' p q] (fun r _ => SpW (fun lo hi => leD lo x ∧ leD lo y ∧ (leD x y → leD x hi) ∧ (leD y x → leD y hi)) r) := fun cc =>
  VSpec.w (smin_spec t u t' u' a b p q cc ha hb hp hq) (minO na np) (minO nb nq) fun _ => ⟨leD_trans (minD_le1 _ _) hax, leD_trans (minD_le2 _ _) hpy, fun h => minD_glb hxb (leD_trans h hyq), fun h => minD_glb (leD_trans h hxb) hyq⟩
 have spOut : ∀ cc, VSpec Tryz.prog F.span_Outward cc [rsV t u a b, iv pos] (fun r _ => SpW (Hs x) r) := fun cc =>
  (sOutward_spec t u a b pos cc ha hb kf kp).mono fun r c' h => h.mono fun lo hi h => ⟨leD_trans h.1 hax, leD_trans hxb h.2⟩
 clear okm okx
 refine zSF @nb_app ?_
 refine vwp_seq ?_
 refine v_reg ?_
 refine zS ?_
 refine v_cond ?_
 refine zS ?_
 refine vwp_skip ?_
 refine zS ?_
 refine v_cut (fun S => HC S c [iv i, iv j, iv pos] (fL tx x) (fL ty y) (spL t u a b) (spL t' u' p q)) ?_ ?_
 ·refine zRF @nb_app ?_
  refine s_call (in10_spec t u a b (c5 + 1)) wS ?_
  rintro v c6 hc6 rfl
  refine zRF @nb_app ?_
  refine s_call (in10_spec t' u' p q c6) wS ?_
  rintro v c7 hc7 rfl
  refine zRF @nb_app ?_
  refine ⟨⟨c + 1 + 1, by dsimp only; omega, ?_⟩, ⟨c4, by dsimp only; omega, ?_⟩, ⟨c5, by dsimp only; omega, ?_⟩, ⟨c7, by dsimp only; omega, ?_⟩, ⟨c7 + 1, by dsimp only; omega, ?_⟩, ?_, by dsimp only; omega⟩
  ·simp (maxSteps := 4000000) (disch := omega) only [vm, ite_true, ite_false, eq_self, reduceIte, Nat.reduceEqDiff, Option.map, vst, List.length_cons, List.length_nil, List.set_cons_zero, List.set_cons_succ, List.map_cons, List.map_nil, Option.map_some, Option.bind_some, Nat.reduceAdd, Nat.reduceLT, Nat.reduceLeDiff, Nat.add_zero, and_self, k_ne, Nat.add_left_cancel_iff, ne_eq, Int.reduceEq, Int.reduceLT, Int.reduceLE, List.cons_append, List.nil_append, Nat.reduceDiv, Nat.reduceMul, Int.reduceToNat, Int.reduceAdd, Int.cast_ofNat_Int]
  ·unfold fL; simp (maxSteps := 4000000) (disch := omega) only [vm, ite_true, ite_false, eq_self, reduceIte, Nat.reduceEqDiff, Option.map, vst, List.length_cons, List.length_nil, List.set_cons_zero, List.set_cons_succ, List.map_cons, List.map_nil, Option.map_some, Option.bind_some, Nat.reduceAdd, Nat.reduceLT, Nat.reduceLeDiff, Nat.add_zero, and_self, k_ne, Nat.add_left_cancel_iff, ne_eq, Int.reduceEq, Int.reduceLT, Int.reduceLE, List.cons_append, List.nil_append, Nat.reduceDiv, Nat.reduceMul, Int.reduceToNat, Int.reduceAdd, Int.cast_ofNat_Int]
  ·unfold fL; simp (maxSteps := 4000000) (disch := omega) only [vm, ite_true, ite_false, eq_self, reduceIte, Nat.reduceEqDiff, Option.map, vst, List.length_cons, List.length_nil, List.set_cons_zero, List.set_cons_succ, List.map_cons, List.map_nil, Option.map_some, Option.bind_some, Nat.reduceAdd, Nat.reduceLT, Nat.reduceLeDiff, Nat.add_zero, and_self, k_ne, Nat.add_left_cancel_iff, ne_eq, Int.reduceEq, Int.reduceLT, Int.reduceLE, List.cons_append, List.nil_append, Nat.reduceDiv, Nat.reduceMul, Int.reduceToNat, Int.reduceAdd, Int.cast_ofNat_Int]
  ·unfold spL; simp (maxSteps := 4000000) (disch := omega) only [vm, ite_true, ite_false, eq_self, reduceIte, Nat.reduceEqDiff, Option.map, vst, List.length_cons, List.length_nil, List.set_cons_zero, List.set_cons_succ, List.map_cons, List.map_nil, Option.map_some, Option.bind_some, Nat.reduceAdd, Nat.reduceLT, Nat.reduceLeDiff, Nat.add_zero, and_self, k_ne, Nat.add_left_cancel_iff, ne_eq, Int.reduceEq, Int.reduceLT, Int.reduceLE, List.cons_append, List.nil_append, Nat.reduceDiv, Nat.reduceMul, Int.reduceToNat, Int.reduceAdd, Int.cast_ofNat_Int]
  ·unfold spL; simp (maxSteps := 4000000) (disch := omega) only [vm, ite_true, ite_false, eq_self, reduceIte, Nat.reduceEqDiff, Option.map, vst, List.length_cons, List.length_nil, List.set_cons_zero, List.set_cons_succ, List.map_cons, List.map_nil, Option.map_some, Option.bind_some, Nat.reduceAdd, Nat.reduceLT, Nat.reduceLeDiff, Nat.add_zero, and_self, k_ne, Nat.add_left_cancel_iff, ne_eq, Int.reduceEq, Int.reduceLT, Int.reduceLE, List.cons_append, List.nil_append, Nat.reduceDiv, Nat.reduceMul, Int.reduceToNat, Int.reduceAdd, Int.cast_ofNat_Int]
  ·intro z hz; dsimp only at hz ⊢; (repeat rw [supd_ne _ _ _ _ (by omega)]); rfl
 clear hc1 hc2 hc3 hc4 hc5
 rintro ⟨ρ, σ, c6⟩ h0
 obtain ⟨⟨k5, j5, p5, s5⟩, ⟨k11, j11, p11, s11⟩, ⟨k13, j13, p13, s13⟩, ⟨k15, j15, p15, s15⟩, ⟨k16, j16, p16, s16⟩, hfr, hcc⟩ := id h0
 dsimp only at j5 p5 s5 j11 p11 s11 j13 p13 s13 j15 p15 s15 j16 p16 s16 hfr hcc
 unfold fL at s11 s13
 unfold spL at s15 s16
 have J := jn p5 (jn p11 (jn p13 (jn p15 (jn p16 (jn s5 (jn s11 (jn s13 (jn s15 s16))))))))
 clear p5 s5 p11 s11 p13 s13 p15 s15 p16 s16
 -- sums, differences, products
 refine v_cut6 (fun S => HC S c [iv i, iv j, iv pos] (fL tx x) (fL ty y) (spL t u a b) (spL t' u' p q) ∧ ∃ t3 u3 x3 y3 e3, S.ρ 22 = iv e3 ∧ BoxL S 21 (spL t3 u3 x3 y3) ∧ SpI (Hs (mulD x y)) x3 y3 e3) ?_ ?_
 ·skip
  refine zRF (jn @J @nb_app) ?_
  refine s_call (spAdd c6) (wSF @J) ?_
  rintro v d101 hd101 hv
  obtain ⟨t1, u1, x1, y1, e1, rfl, hE1⟩ := hv
  refine zRF (jn @J @nb_app) ?_
  refine s_call (spSub (d101 + 1)) (wSF @J) ?_
  rintro v d102 hd102 hv
  obtain ⟨t2, u2, x2, y2, e2, rfl, hE2⟩ := hv
  refine zRF (jn @J @nb_app) ?_
  refine s_call (spMul (d102 + 1)) (wSF @J) ?_
  rintro v d103 hd103 hv
  obtain ⟨t3, u3, x3, y3, e3, rfl, hE3⟩ := hv
  refine zRF (jn @J @nb_app) ?_
  refine s_call (radd2_spec tx ty x y (d103 + 1) rx ry (by omega) (by omega)) (wSF @J) ?_
  rintro v d104 hd104 hv
  obtain ⟨g1, k1, z1, rfl, hz1⟩ := hv.ex
  clear hv
  refine zRF (jn @J @nb_app) ?_
  refine s_call (rneg_spec ty y (d104 + 1) ry) (wSF @J) ?_
  rintro v d105 hd105 rfl
  refine zRF (jn @J @nb_app) ?_
  refine s_call (radd2_spec tx ty x (negD y) d105 rx rny (by omega) (by omega)) (wSF @J) ?_
  rintro v d106 hd106 hv
  obtain ⟨g2, k2, z2, rfl, hz2⟩ := hv.ex
  clear hv
  have fN : σ d106 = none := hfr d106 (by omega)
  refine zRF (jn fN (jn @J @nb_app)) ?_
  refine s_call (num10_spec e1 (d106 + 1)) wS ?_
  rintro v d107 hd107 rfl
  by_cases q1 : e1 = 0
  ·cases g1 with
   | false =>
    refine zRF (jn q1 (jn @J @nb_app)) ?_
    refine s_call (num10_spec e2 d107) wS ?_
    rintro v d108 hd108 rfl
    by_cases q2 : e2 = 0
    ·cases g2 with
     | false =>
      refine zRF (jn q2 (jn @J @nb_app)) ?_
      exact ⟨h0.go, t3, u3, x3, y3, e3, wS, ⟨d103, by dsimp only; omega, wS⟩, hE3⟩
     | true =>
      obtain ⟨hz, hzb⟩ := hz2 rfl
      subst hz
      have rs := rgap hzb
      obtain ⟨lo, hi, rfl, rfl, hh, o1, o2, l1, l2⟩ := hE2 q2
      refine zRF (jn q2 (jn @J @nb_app)) ?_
      refine s_call (rds_of t2 u2 lo hi d108 o1 o2 l1 l2) wS ?_
      rintro v d109 hd109 ⟨m1, m2, rfl⟩
      refine zRF (jn @J @nb_app) ?_
      refine s_call (hasT m1 m2 k2 d109 hh o1 o2 l1 l2 rs) (wSF @J) ?_
      rintro v d110 hd110 rfl
      refine zRF (jn @J @nb_app) ?_
      exact ⟨h0.go, t3, u3, x3, y3, e3, wS, ⟨d103, by dsimp only; omega, wS⟩, hE3⟩
    ·skip
     refine zRF (jn q2 (jn @J @nb_app)) ?_
     exact ⟨h0.go, t3, u3, x3, y3, e3, wS, ⟨d103, by dsimp only; omega, wS⟩, hE3⟩
   | true =>
    obtain ⟨hz, hzb⟩ := hz1 rfl
    subst hz
    have rs := rsum hzb
    obtain ⟨lo, hi, rfl, rfl, hh, o1, o2, l1, l2⟩ := hE1 q1
    refine zRF (jn q1 (jn @J @nb_app)) ?_
    refine s_call (rds_of t1 u1 lo hi d107 o1 o2 l1 l2) wS ?_
    rintro v d111 hd111 ⟨m1, m2, rfl⟩
    refine zRF (jn @J @nb_app) ?_
    refine s_call (hasT m1 m2 k1 d111 hh o1 o2 l1 l2 rs) (wSF @J) ?_
    rintro v d112 hd112 rfl
    refine zRF (jn @J @nb_app) ?_
    refine s_call (num10_spec e2 d112) wS ?_
    rintro v d113 hd113 rfl
    by_cases q2 : e2 = 0
    ·cases g2 with
     | false =>
      refine zRF (jn q2 (jn @J @nb_app)) ?_
      exact ⟨h0.go, t3, u3, x3, y3, e3, wS, ⟨d103, by dsimp only; omega, wS⟩, hE3⟩
     | true =>
      obtain ⟨hz, hzb⟩ := hz2 rfl
      subst hz
      have rs := rgap hzb
      obtain ⟨lo, hi, rfl, rfl, hh, o1, o2, l1, l2⟩ := hE2 q2
      refine zRF (jn q2 (jn @J @nb_app)) ?_
      refine s_call (rds_of t2 u2 lo hi d113 o1 o2 l1 l2) wS ?_
      rintro v d114 hd114 ⟨m1, m2, rfl⟩
      refine zRF (jn @J @nb_app) ?_
      refine s_call (hasT m1 m2 k2 d114 hh o1 o2 l1 l2 rs) (wSF @J) ?_
      rintro v d115 hd115 rfl
      refine zRF (jn @J @nb_app) ?_
      exact ⟨h0.go, t3, u3, x3, y3, e3, wS, ⟨d103, by dsimp only; omega, wS⟩, hE3⟩
    ·skip
     refine zRF (jn q2 (jn @J @nb_app)) ?_
     exact ⟨h0.go, t3, u3, x3, y3, e3, wS, ⟨d103, by dsimp only; omega, wS⟩, hE3⟩
  ·skip
   refine zRF (jn q1 (jn @J @nb_app)) ?_
   refine s_call (num10_spec e2 d107) wS ?_
   rintro v d116 hd116 rfl
   by_cases q2 : e2 = 0
   ·cases g2 with
    | false =>
     refine zRF (jn q2 (jn @J @nb_app)) ?_
     exact ⟨h0.go, t3, u3, x3, y3, e3, wS, ⟨d103, by dsimp only; omega, wS⟩, hE3⟩
    | true =>
     obtain ⟨hz, hzb⟩ := hz2 rfl
     subst hz
     have rs := rgap hzb
     obtain ⟨lo, hi, rfl, rfl, hh, o1, o2, l1, l2⟩ := hE2 q2
     refine zRF (jn q2 (jn @J @nb_app)) ?_
     refine s_call (rds_of t2 u2 lo hi d116 o1 o2 l1 l2) wS ?_
     rintro v d117 hd117 ⟨m1, m2, rfl⟩
     refine zRF (jn @J @nb_app) ?_
     refine s_call (hasT m1 m2 k2 d117 hh o1 o2 l1 l2 rs) (wSF @J) ?_
     rintro v d118 hd118 rfl
     refine zRF (jn @J @nb_app) ?_
     exact ⟨h0.go, t3, u3, x3, y3, e3, wS, ⟨d103, by dsimp only; omega, wS⟩, hE3⟩
   ·skip
    refine zRF (jn q2 (jn @J @nb_app)) ?_
    exact ⟨h0.go, t3, u3, x3, y3, e3, wS, ⟨d103, by dsimp only; omega, wS⟩, hE3⟩
 clear hcc J hfr h0 j5 j11 j13 j15 j16 spAdd spSub spMul
 rintro ⟨ρ, σ, c7⟩ ⟨h0, t3, u3, x3, y3, e3, r22, ⟨k21, j21, p21, s21⟩, hE3⟩
 obtain ⟨⟨k5, j5, p5, s5⟩, ⟨k11, j11, p11, s11⟩, ⟨k13, j13, p13, s13⟩, ⟨k15, j15, p15, s15⟩, ⟨k16, j16, p16, s16⟩, hfr, hcc⟩ := id h0
 dsimp only at j5 p5 s5 j11 p11 s11 j13 p13 s13 j15 p15 s15 j16 p16 s16 hfr hcc
 unfold fL at s11 s13
 unfold spL at s15 s16
 have J := jn p5 (jn p11 (jn p13 (jn p15 (jn p16 (jn s5 (jn s11 (jn s13 (jn s15 s16))))))))
 clear p5 s5 p11 s11 p13 s13 p15 s15 p16 s16
 dsimp only at r22 j21 p21 s21
 unfold spL at s21
 -- the product holds
 refine v_cut (fun S => HC S c [iv i, iv j, iv pos] (fL tx x) (fL ty y) (spL t u a b) (spL t' u' p q)) ?_ ?_
 ·skip
  refine zRF (jn r22 (jn p21 (jn s21 (jn @J @nb_app)))) ?_
  refine s_call (num10_spec e3 c7) wS ?_
  rintro v d119 hd119 rfl
  by_cases q3 : e3 = 0
  ·skip
   obtain ⟨lo, hi, rfl, rfl, hh, o1, o2, l1, l2⟩ := hE3 q3
   refine zRF (jn q3 (jn p21 (jn s21 (jn @J @nb_app)))) ?_
   refine s_call (rds_of t3 u3 lo hi d119 o1 o2 l1 l2) (wSF @J) ?_
   rintro v d120 hd120 ⟨m1, m2, rfl⟩
   refine zRF (jn @J @nb_app) ?_
   refine s_call (rmul_spec tx ty x y d120 rx ry (by omega) (by omega)) (wSF @J) ?_
   rintro v d121 hd121 ⟨k1, rfl⟩
   refine zRF (jn @J @nb_app) ?_
   refine s_call (hasT m1 m2 k1 d121 hh o1 o2 l1 l2 rprod) (wSF @J) ?_
   rintro v d122 hd122 rfl
   refine zRF (jn @J @nb_app) ?_
   exact h0.go
  ·skip
   refine zRF (jn q3 (jn @J @nb_app)) ?_
   exact h0.go
 clear hcc J hfr h0 j5 j11 j13 j15 j16 r22 j21 p21 s21 hE3
 rintro ⟨ρ, σ, c8⟩ h0
 obtain ⟨⟨k5, j5, p5, s5⟩, ⟨k11, j11, p11, s11⟩, ⟨k13, j13, p13, s13⟩, ⟨k15, j15, p15, s15⟩, ⟨k16, j16, p16, s16⟩, hfr, hcc⟩ := id h0
 dsimp only at j5 p5 s5 j11 p11 s11 j13 p13 s13 j15 p15 s15 j16 p16 s16 hfr hcc
 unfold fL at s11 s13
 unfold spL at s15 s16
 have J := jn p5 (jn p11 (jn p13 (jn p15 (jn p16 (jn s5 (jn s11 (jn s13 (jn s15 s16))))))))
 clear p5 s5 p11 s11 p13 s13 p15 s15 p16 s16
 -- quotients
 refine v_cut2 (fun S => HC S c [iv i, iv j, iv pos] (fL tx x) (fL ty y) (spL t u a b) (spL t' u' p q)) ?_ ?_
 ·skip
  refine zRF (jn @J @nb_app) ?_
  refine s_call (spQuo c8) (wSF @J) ?_
  rintro v d123 hd123 hv
  obtain ⟨t4, u4, x4, y4, e4, rfl, hE4⟩ := hv
  refine zRF (jn @J @nb_app) ?_
  refine s_call (num10_spec e4 (d123 + 1)) wS ?_
  rintro v d124 hd124 rfl
  by_cases q4 : e4 = 0
  ·skip
   obtain ⟨lo, hi, rfl, rfl, hh, o1, o2, l1, l2⟩ := hE4 q4
   obtain ⟨z1, z2⟩ := quoF_holds hh hax hxb hpy hyq
   have nl := (told_n o1 l1).rn
   have nh := (told_n o2 l2).rn
   refine zRF (jn q4 (jn @J @nb_app)) ?_
   refine s_call (rds_of t4 u4 lo hi d124 o1 o2 l1 l2) (wSF @J) ?_
   rintro v d125 hd125 ⟨m1, m2, rfl⟩
   refine zRF (jn @J @nb_app) ?_
   refine s_call (quot10_spec m1 m2 tx ty lo hi x y d125 (nl.r (by decide) (by decide)) (nh.r (by decide) (by decide)) rx ry nl nh ny z1 z2) (wSF @J) ?_
   rintro v d126 hd126 rfl
   refine zRF (jn @J @nb_app) ?_
   exact h0.go
  ·skip
   refine zRF (jn q4 (jn @J @nb_app)) ?_
   exact h0.go
 clear hcc J hfr h0 j5 j11 j13 j15 j16
 rintro ⟨ρ, σ, c9⟩ h0
 obtain ⟨⟨k5, j5, p5, s5⟩, ⟨k11, j11, p11, s11⟩, ⟨k13, j13, p13, s13⟩, ⟨k15, j15, p15, s15⟩, ⟨k16, j16, p16, s16⟩, hfr, hcc⟩ := id h0
 dsimp only at j5 p5 s5 j11 p11 s11 j13 p13 s13 j15 p15 s15 j16 p16 s16 hfr hcc
 unfold fL at s11 s13
 unfold spL at s15 s16
 have J := jn p5 (jn p11 (jn p13 (jn p15 (jn p16 (jn s5 (jn s11 (jn s13 (jn s15 s16))))))))
 clear p5 s5 p11 s11 p13 s13 p15 s15 p16 s16
 -- inverses
 refine v_cut2 (fun S => HC S c [iv i, iv j, iv pos] (fL tx x) (fL ty y) (spL t u a b) (spL t' u' p q)) ?_ ?_
 ·skip
  refine zRF (jn @J @nb_app) ?_
  refine s_call (spInv c9) (wSF @J) ?_
  rintro v d127 hd127 hv
  obtain ⟨t4, u4, x4, y4, e4, rfl, hE4⟩ := hv
  refine zRF (jn @J @nb_app) ?_
  refine s_call (num10_spec e4 (d127 + 1)) wS ?_
  rintro v d128 hd128 rfl
  by_cases q4 : e4 = 0
  ·skip
   obtain ⟨lo, hi, rfl, rfl, hh, o1, o2, l1, l2⟩ := hE4 q4
   obtain ⟨z1, z2⟩ := quoF_holds (x := dy1) hh (leD_refl _) (leD_refl _) hpy hyq
   have nl := (told_n o1 l1).rn
   have nh := (told_n o2 l2).rn
   refine zRF (jn q4 (jn @J @nb_app)) ?_
   refine s_call (rds_of t4 u4 lo hi d128 o1 o2 l1 l2) (wSF @J) ?_
   rintro v d129 hd129 ⟨m1, m2, rfl⟩
   refine zRF (jn @J @nb_app) ?_
   refine s_call (int08_1 d129) (wSF @J) ?_
   rintro v d130 hd130 ⟨k1, rfl⟩
   refine zRF (jn @J @nb_app) ?_
   refine s_call (quot10_spec m1 m2 k1 ty lo hi (dy1) y d130 (nl.r (by decide) (by decide)) (nh.r (by decide) (by decide)) r1 ry nl nh ny z1 z2) (wSF @J) ?_
   rintro v d131 hd131 rfl
   refine zRF (jn @J @nb_app) ?_
   exact h0.go
  ·skip
   refine zRF (jn q4 (jn @J @nb_app)) ?_
   exact h0.go
 clear hcc J hfr h0 j5 j11 j13 j15 j16
 rintro ⟨ρ, σ, c10⟩ h0
 obtain ⟨⟨k5, j5, p5, s5⟩, ⟨k11, j11, p11, s11⟩, ⟨k13, j13, p13, s13⟩, ⟨k15, j15, p15, s15⟩, ⟨k16, j16, p16, s16⟩, hfr, hcc⟩ := id h0
 dsimp only at j5 p5 s5 j11 p11 s11 j13 p13 s13 j15 p15 s15 j16 p16 s16 hfr hcc
 unfold fL at s11 s13
 unfold spL at s15 s16
 have J := jn p5 (jn p11 (jn p13 (jn p15 (jn p16 (jn s5 (jn s11 (jn s13 (jn s15 s16))))))))
 clear p5 s5 p11 s11 p13 s13 p15 s15 p16 s16
 -- roots
 refine v_cut2 (fun S => HC S c [iv i, iv j, iv pos] (fL tx x) (fL ty y) (spL t u a b) (spL t' u' p q)) ?_ ?_
 ·skip
  refine zRF (jn @J @nb_app) ?_
  refine s_call (spRoot c10) (wSF @J) ?_
  rintro v d132 hd132 hv
  obtain ⟨t4, u4, x4, y4, e4, rfl, hE4⟩ := hv
  refine zRF (jn @J @nb_app) ?_
  refine s_call (num10_spec e4 (d132 + 1)) wS ?_
  rintro v d133 hd133 rfl
  by_cases q4 : e4 = 0
  ·skip
   obtain ⟨lo, hi, rfl, rfl, ⟨z0, z1, z2⟩, o1, o2, l1, l2⟩ := hE4 q4
   have nl := (told_n o1 l1).rn
   have nh := (told_n o2 l2).rn
   have rl := nl.r (by decide) (by decide)
   have rh := nh.r (by decide) (by decide)
   have rll := (nl.mul nl).r (by decide) (by decide)
   have rhh := (nh.mul nh).r (by decide) (by decide)
   have bl1 := nl.bits
   have bh1 := nh.bits
   refine zRF (jn q4 (jn @J @nb_app)) ?_
   refine s_call (rds_of t4 u4 lo hi d133 o1 o2 l1 l2) (wSF @J) ?_
   rintro v d134 hd134 ⟨m1, m2, rfl⟩
   refine zRF (jn @J @nb_app) ?_
   refine s_call (zs_n0 m1 (d134 + 1) rl z0) (wSF @J) ?_
   rintro v d135 hd135 ⟨s, rfl, hs⟩
   refine zRF (jn hs (jn @J @nb_app)) ?_
   refine s_call (rmul_spec m1 m1 lo lo d135 rl rl (by omega) (by omega)) (wSF @J) ?_
   rintro v d136 hd136 ⟨k1, rfl⟩
   refine zRF (jn @J @nb_app) ?_
   have z1' : ¬ 0 < cmpD (mulD lo lo) x := by unfold leD at z1; omega
   have z2' : ¬ cmpD (mulD hi hi) x < 0 := by unfold leD at z2; have := cmpD_flip x (mulD hi hi); omega
   refine s_call (rcmp_spec k1 tx (mulD lo lo) x d136 rll rx) (wSF @J) ?_
   rintro v d137 hd137 rfl
   refine zRF (jn z1' (jn @J @nb_app)) ?_
   refine s_call (rmul_spec m2 m2 hi hi d137 rh rh (by omega) (by omega)) (wSF @J) ?_
   rintro v d138 hd138 ⟨k2, rfl⟩
   refine zRF (jn @J @nb_app) ?_
   refine s_call (rcmp_spec k2 tx (mulD hi hi) x d138 rhh rx) (wSF @J) ?_
   rintro v d139 hd139 rfl
   refine zRF (jn z2' (jn @J @nb_app)) ?_
   exact h0.go
  ·skip
   refine zRF (jn q4 (jn @J @nb_app)) ?_
   exact h0.go
 clear hcc J hfr h0 j5 j11 j13 j15 j16
 rintro ⟨ρ, σ, c11⟩ h0
 obtain ⟨⟨k5, j5, p5, s5⟩, ⟨k11, j11, p11, s11⟩, ⟨k13, j13, p13, s13⟩, ⟨k15, j15, p15, s15⟩, ⟨k16, j16, p16, s16⟩, hfr, hcc⟩ := id h0
 dsimp only at j5 p5 s5 j11 p11 s11 j13 p13 s13 j15 p15 s15 j16 p16 s16 hfr hcc
 unfold fL at s11 s13
 unfold spL at s15 s16
 have J := jn p5 (jn p11 (jn p13 (jn p15 (jn p16 (jn s5 (jn s11 (jn s13 (jn s15 s16))))))))
 clear p5 s5 p11 s11 p13 s13 p15 s15 p16 s16
 -- squares, cubes
 refine v_cut4 (fun S => HC S c [iv i, iv j, iv pos] (fL tx x) (fL ty y) (spL t u a b) (spL t' u' p q)) ?_ ?_
 ·skip
  refine zRF (jn @J @nb_app) ?_
  refine s_call (spSq c11) (wSF @J) ?_
  rintro v d140 hd140 hv
  obtain ⟨t1, u1, x1, y1, e1, rfl, hE1⟩ := hv
  refine zRF (jn @J @nb_app) ?_
  refine s_call (spCub (d140 + 1)) (wSF @J) ?_
  rintro v d141 hd141 hv
  obtain ⟨t2, u2, x2, y2, e2, rfl, hE2⟩ := hv
  refine zRF (jn @J @nb_app) ?_
  refine s_call (rmul_spec tx tx x x (d141 + 1) rx rx (by omega) (by omega)) (wSF @J) ?_
  rintro v d142 hd142 ⟨k1, rfl⟩
  refine zRF (jn @J @nb_app) ?_
  refine s_call (num10_spec e1 (d142 + 1)) wS ?_
  rintro v d143 hd143 rfl
  by_cases q1 : e1 = 0
  ·skip
   obtain ⟨lo, hi, rfl, rfl, hh, o1, o2, l1, l2⟩ := hE1 q1
   refine zRF (jn q1 (jn @J @nb_app)) ?_
   refine s_call (rds_of t1 u1 lo hi d143 o1 o2 l1 l2) (wSF @J) ?_
   rintro v d144 hd144 ⟨m1, m2, rfl⟩
   refine zRF (jn @J @nb_app) ?_
   refine s_call (hasT m1 m2 k1 d144 hh o1 o2 l1 l2 rsq) (wSF @J) ?_
   rintro v d145 hd145 rfl
   refine zRF (jn @J @nb_app) ?_
   clear hh o1 o2 l1 l2
   refine s_call (num10_spec e2 d145) wS ?_
   rintro v d146 hd146 rfl
   by_cases q2 : e2 = 0
   ·skip
    obtain ⟨lo, hi, rfl, rfl, hh, o1, o2, l1, l2⟩ := hE2 q2
    refine zRF (jn q2 (jn @J @nb_app)) ?_
    refine s_call (rds_of t2 u2 lo hi d146 o1 o2 l1 l2) (wSF @J) ?_
    rintro v d147 hd147 ⟨m1, m2, rfl⟩
    refine zRF (jn @J @nb_app) ?_
    refine s_call (rmulW_spec k1 tx (mulD x x) x d147 rsq rx bsq (by omega)) (wSF @J) ?_
    rintro v d148 hd148 ⟨k2, rfl⟩
    refine zRF (jn @J @nb_app) ?_
    refine s_call (hasT m1 m2 k2 d148 hh o1 o2 l1 l2 rcub) (wSF @J) ?_
    rintro v d149 hd149 rfl
    refine zRF (jn @J @nb_app) ?_
    exact h0.go
   ·skip
    refine zRF (jn q2 (jn @J @nb_app)) ?_
    exact h0.go
  ·skip
   refine zRF (jn q1 (jn @J @nb_app)) ?_
   refine s_call (num10_spec e2 d143) wS ?_
   rintro v d150 hd150 rfl
   by_cases q2 : e2 = 0
   ·skip
    obtain ⟨lo, hi, rfl, rfl, hh, o1, o2, l1, l2⟩ := hE2 q2
    refine zRF (jn q2 (jn @J @nb_app)) ?_
    refine s_call (rds_of t2 u2 lo hi d150 o1 o2 l1 l2) (wSF @J) ?_
    rintro v d151 hd151 ⟨m1, m2, rfl⟩
    refine zRF (jn @J @nb_app) ?_
    refine s_call (rmulW_spec k1 tx (mulD x x) x d151 rsq rx bsq (by omega)) (wSF @J) ?_
    rintro v d152 hd152 ⟨k2, rfl⟩
    refine zRF (jn @J @nb_app) ?_
    refine s_call (hasT m1 m2 k2 d152 hh o1 o2 l1 l2 rcub) (wSF @J) ?_
    rintro v d153 hd153 rfl
    refine zRF (jn @J @nb_app) ?_
    exact h0.go
   ·skip
    refine zRF (jn q2 (jn @J @nb_app)) ?_
    exact h0.go
 clear hcc J hfr h0 j5 j11 j13 j15 j16
 rintro ⟨ρ, σ, c12⟩ h0
 obtain ⟨⟨k5, j5, p5, s5⟩, ⟨k11, j11, p11, s11⟩, ⟨k13, j13, p13, s13⟩, ⟨k15, j15, p15, s15⟩, ⟨k16, j16, p16, s16⟩, hfr, hcc⟩ := id h0
 dsimp only at j5 p5 s5 j11 p11 s11 j13 p13 s13 j15 p15 s15 j16 p16 s16 hfr hcc
 unfold fL at s11 s13
 unfold spL at s15 s16
 have J := jn p5 (jn p11 (jn p13 (jn p15 (jn p16 (jn s5 (jn s11 (jn s13 (jn s15 s16))))))))
 clear p5 s5 p11 s11 p13 s13 p15 s15 p16 s16
 -- sizes; the lesser; at the position
 refine v_cut4 (fun S => HC S c [iv i, iv j, iv pos] (fL tx x) (fL ty y) (spL t u a b) (spL t' u' p q) ∧ ∃ t3 u3 x3 y3 e3, S.ρ 42 = iv e3 ∧ BoxL S 41 (spL t3 u3 x3 y3) ∧ SpI (fun lo hi => leD lo x ∧ leD lo y ∧ (leD x y → leD x hi) ∧ (leD y x → leD y hi)) x3 y3 e3) ?_ ?_
 ·skip
  refine zRF (jn @J @nb_app) ?_
  refine s_call (spAbs c12) (wSF @J) ?_
  rintro v d154 hd154 hv
  obtain ⟨t1, u1, x1, y1, e1, rfl, hE1⟩ := hv
  refine zRF (jn @J @nb_app) ?_
  refine s_call (spMin (d154 + 1)) (wSF @J) ?_
  rintro v d155 hd155 hv
  obtain ⟨t3, u3, x3, y3, e3, rfl, hE3⟩ := hv
  refine zRF (jn @J @nb_app) ?_
  refine s_call (spOut (d155 + 1)) (wSF @J) ?_
  rintro v d156 hd156 hv
  obtain ⟨t2, u2, x2, y2, e2, rfl, hE2⟩ := hv
  refine zRF (jn @J @nb_app) ?_
  refine s_call (num10_spec e1 (d156 + 1)) wS ?_
  rintro v d157 hd157 rfl
  by_cases q1 : e1 = 0
  ·skip
   obtain ⟨lo, hi, rfl, rfl, hh, o1, o2, l1, l2⟩ := hE1 q1
   refine zRF (jn q1 (jn @J @nb_app)) ?_
   refine s_call (rds_of t1 u1 lo hi d157 o1 o2 l1 l2) (wSF @J) ?_
   rintro v d158 hd158 ⟨m1, m2, rfl⟩
   refine zRF (jn @J @nb_app) ?_
   refine s_call (abs08_spec tx x d158 nx.ok) (wSF @J) ?_
   rintro v d159 hd159 rfl
   refine zRF (jn @J @nb_app) ?_
   refine s_call (hasT m1 m2 tx d159 hh o1 o2 l1 l2 rabs) (wSF @J) ?_
   rintro v d160 hd160 rfl
   refine zRF (jn @J @nb_app) ?_
   clear hh o1 o2 l1 l2
   refine s_call (num10_spec e2 d160) wS ?_
   rintro v d161 hd161 rfl
   by_cases q2 : e2 = 0
   ·skip
    obtain ⟨lo, hi, rfl, rfl, hh, o1, o2, l1, l2⟩ := hE2 q2
    refine zRF (jn q2 (jn @J @nb_app)) ?_
    refine s_call (rds_of t2 u2 lo hi d161 o1 o2 l1 l2) (wSF @J) ?_
    rintro v d162 hd162 ⟨m1, m2, rfl⟩
    refine zRF (jn @J @nb_app) ?_
    refine s_call (hasT m1 m2 tx d162 hh o1 o2 l1 l2 rx) (wSF @J) ?_
    rintro v d163 hd163 rfl
    refine zRF (jn @J @nb_app) ?_
    exact ⟨h0.go, t3, u3, x3, y3, e3, wS, ⟨d155, by dsimp only; omega, wS⟩, hE3⟩
   ·skip
    refine zRF (jn q2 (jn @J @nb_app)) ?_
    exact ⟨h0.go, t3, u3, x3, y3, e3, wS, ⟨d155, by dsimp only; omega, wS⟩, hE3⟩
  ·skip
   refine zRF (jn q1 (jn @J @nb_app)) ?_
   refine s_call (num10_spec e2 d157) wS ?_
   rintro v d164 hd164 rfl
   by_cases q2 : e2 = 0
   ·skip
    obtain ⟨lo, hi, rfl, rfl, hh, o1, o2, l1, l2⟩ := hE2 q2
    refine zRF (jn q2 (jn @J @nb_app)) ?_
    refine s_call (rds_of t2 u2 lo hi d164 o1 o2 l1 l2) (wSF @J) ?_
    rintro v d165 hd165 ⟨m1, m2, rfl⟩
    refine zRF (jn @J @nb_app) ?_
    refine s_call (hasT m1 m2 tx d165 hh o1 o2 l1 l2 rx) (wSF @J) ?_
    rintro v d166 hd166 rfl
    refine zRF (jn @J @nb_app) ?_
    exact ⟨h0.go, t3, u3, x3, y3, e3, wS, ⟨d155, by dsimp only; omega, wS⟩, hE3⟩
   ·skip
    refine zRF (jn q2 (jn @J @nb_app)) ?_
    exact ⟨h0.go, t3, u3, x3, y3, e3, wS, ⟨d155, by dsimp only; omega, wS⟩, hE3⟩
 clear hcc J hfr h0 j5 j11 j13 j15 j16
 rintro ⟨ρ, σ, c13⟩ ⟨h0, t3, u3, x3, y3, e3, r42, ⟨k41, j41, p41, s41⟩, hE3⟩
 obtain ⟨⟨k5, j5, p5, s5⟩, ⟨k11, j11, p11, s11⟩, ⟨k13, j13, p13, s13⟩, ⟨k15, j15, p15, s15⟩, ⟨k16, j16, p16, s16⟩, hfr, hcc⟩ := id h0
 dsimp only at j5 p5 s5 j11 p11 s11 j13 p13 s13 j15 p15 s15 j16 p16 s16 hfr hcc
 unfold fL at s11 s13
 unfold spL at s15 s16
 have J := jn p5 (jn p11 (jn p13 (jn p15 (jn p16 (jn s5 (jn s11 (jn s13 (jn s15 s16))))))))
 clear p5 s5 p11 s11 p13 s13 p15 s15 p16 s16
 dsimp only at r42 j41 p41 s41
 unfold spL at s41
 -- the end
 refine zRF (jn @J @nb_app) ?_
 refine s_call (rcmp_spec ty tx y x (c13 + 1) ry rx) (wSF @J) ?_
 rintro v d167 hd167 rfl
 by_cases gl : cmpD y x < 0
 ·skip
  have hl : leD y x := by unfold leD; omega
  refine zRF (jn gl (jn r42 (jn p41 (jn s41 (jn @J @nb_app))))) ?_
  refine s_call (num10_spec e3 d167) wS ?_
  rintro v d168 hd168 rfl
  by_cases q3 : e3 = 0
  ·skip
   obtain ⟨lo, hi, rfl, rfl, ⟨y1, y2, y3, y4⟩, o1, o2, l1, l2⟩ := hE3 q3
   refine zRF (jn q3 (jn r42 (jn p41 (jn s41 (jn @J @nb_app))))) ?_
   refine s_call (rds_of t3 u3 lo hi d168 o1 o2 l1 l2) (wSF @J) ?_
   rintro v d169 hd169 ⟨m1, m2, rfl⟩
   refine zRF (jn @J @nb_app) ?_
   refine s_call (hasT m1 m2 ty d169 ⟨y2, y4 hl⟩ o1 o2 l1 l2 ry) (wSF @J) ?_
   rintro v d170 hd170 rfl
   refine zRF (jn @J @nb_app) ?_
   refine s_call (awake_spec d170) (wSF @J) ?_
   rintro v d171 hd171 rfl
   refine zR ?_
   exact yE
  ·skip
   refine zRF (jn q3 (jn @J @nb_app)) ?_
   refine s_call (awake_spec d168) (wSF @J) ?_
   rintro v d172 hd172 rfl
   refine zR ?_
   exact yE
 ·skip
  have hl : leD x y := by unfold leD; have := cmpD_flip x y; omega
  refine zRF (jn gl (jn r42 (jn p41 (jn s41 (jn @J @nb_app))))) ?_
  refine s_call (num10_spec e3 d167) wS ?_
  rintro v d173 hd173 rfl
  by_cases q3 : e3 = 0
  ·skip
   obtain ⟨lo, hi, rfl, rfl, ⟨y1, y2, y3, y4⟩, o1, o2, l1, l2⟩ := hE3 q3
   refine zRF (jn q3 (jn r42 (jn p41 (jn s41 (jn @J @nb_app))))) ?_
   refine s_call (rds_of t3 u3 lo hi d173 o1 o2 l1 l2) (wSF @J) ?_
   rintro v d174 hd174 ⟨m1, m2, rfl⟩
   refine zRF (jn @J @nb_app) ?_
   refine s_call (hasT m1 m2 tx d174 ⟨y1, y3 hl⟩ o1 o2 l1 l2 rx) (wSF @J) ?_
   rintro v d175 hd175 rfl
   refine zRF (jn @J @nb_app) ?_
   refine s_call (awake_spec d175) (wSF @J) ?_
   rintro v d176 hd176 rfl
   refine zR ?_
   exact yE
  ·skip
   refine zRF (jn q3 (jn @J @nb_app)) ?_
   refine s_call (awake_spec d173) (wSF @J) ?_
   rintro v d177 hd177 rfl
   refine zR ?_
   exact yE
end Go.Proofs.YtcafgpconlkecaaGreatDoor
