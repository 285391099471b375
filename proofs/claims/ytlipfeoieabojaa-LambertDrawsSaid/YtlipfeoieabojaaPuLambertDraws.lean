/- The law LambertDraws over floats alone. -/
import Derived.Test.YtlipfeoieabojaaCm
namespace Go.Proofs.Ytlipfeoieabojaa
open Go.Ev

theorem awake14 : O7 R = true ∧ S7_0 R = true := ⟨by kernel_rfl, by kernel_rfl⟩

/-- How far a draw's direction above is within its sector. -/
theorem angleDisk (a b : Fl) {c : Rat} (hc : fv (S15_0 R a) c) (c0 : 0 < c) : ∃ F f g, fv F f ∧ 0 ≤ f ∧ f ≤ 1 ∧ S27_2 R b = R.fmul (R.fadd (R.fc 4607182418800017408) (R.fmul F F)) (R.fc 4593671619917905920) ∧ fv (S24_1 R (S13_0 R a b) (S13_1 R a b)) g ∧ 0 ≤ g ∧ g ≤ 1 ∧ (f - 1 / 17592186044416 ≤ g ∧ g ≤ f + 1 / 17592186044416) := by
  obtain ⟨_, _, _, _, F, f, C, S, hf, f0, f1, hp, hC, hS, hxy⟩ := sectorE b
  obtain ⟨q, d, k, s, hq, hd, hk, hs, q1, q2, _, d1, d2, cd, sd, k0, k1, s0, s1, ch, _⟩ := turnVal hf f0 f1
  have sk : s ≤ k := div_le hf fv_one hd f0 f1 (by grind) hs hk
  rw [← hC] at hk
  rw [← hS] at hs
  have nk' := negVal hk (by grind) (by grind)
  have ns := negVal hs (by grind) (by grind)
  obtain ⟨c', hc', ca, cb⟩ := cleanVal a
  have ec := fv_unique hc' hc
  subst ec
  obtain ⟨r, hr, sr⟩ := sqrt_val hc ca (by grind)
  have r1 : r ≤ 1 := sr.le 1 (fv_rep fv_one) (by decide) (by grind)
  have rn := sr.near
  have e50 : pw 50 = 1125899906842624 := by unfold pw; rw [show (2 : Nat) ^ 50 = 1125899906842624 by decide]; rfl
  rw [e50] at rn
  have r0' := sr.nonneg
  have t1 := fv_tiny hc c0
  have t0 := tiny_pos
  have hrr : tiny ≤ r * r := by grind
  have r0 : 0 < r := by
    rcases Rat.le_iff_lt_or_eq.1 r0' with h | h
    · exact h
    · rw [← h] at hrr; grind
  have tr : tiny ≤ r / 9007199254740992 := by
    by_cases h : r ≤ 1 / 9007199254740992
    · have := Rat.mul_le_mul_of_nonneg_left h r0'
      grind
    · have t2 := tiny_less
      grind
  -- what the parts become
  obtain ⟨a1, a2⟩ := mul_abs (u := k) (a := 1) (v := r) (b := r) (by grind) k1 (by grind) Rat.le_refl
  obtain ⟨b1, b2⟩ := mul_abs (u := s) (a := 1) (v := r) (b := r) (by grind) s1 (by grind) Rat.le_refl
  obtain ⟨u, hu, ru⟩ := mul_val hk hr (by grind) (by grind)
  obtain ⟨v, hv, rv⟩ := mul_val hs hr (by grind) (by grind)
  have un := ru.near r (by grind) (by grind)
  have vn := rv.near r (by grind) (by grind)
  rw [e52] at un vn
  have u0 : 0 ≤ u := ru.ge 0 (fv_rep fv_zero) (Rat.mul_nonneg k0 r0')
  have v0 : 0 ≤ v := rv.ge 0 (fv_rep fv_zero) (Rat.mul_nonneg s0 r0')
  have vu : v ≤ u := mul_le_val hs hk hr s0 sk r0 hv hu
  have u1 : u ≤ 1024 := by grind
  have v1 : v ≤ 1024 := by grind
  have nu := mul_neg_val hk nk' hr hu
  have nv := mul_neg_val hs ns hr hv
  have zu := absVal hu (by grind) u1
  have zv := absVal hv (by grind) v1
  have znu := absVal nu (by grind) (by grind)
  have znv := absVal nv (by grind) (by grind)
  rw [if_pos u0] at zu
  rw [if_pos v0] at zv
  have fold : ∀ {w : Rat}, 0 ≤ w → (if 0 ≤ -w then -w else - -w) = w := by
    intro w hw
    by_cases h : 0 ≤ -w
    · rw [if_pos h]; grind
    · rw [if_neg h]; grind
  rw [fold u0] at znu
  rw [fold v0] at znv
  have one : ∀ {X Y : Fl}, fv (S31_0 R X) u → fv (S31_0 R Y) v → ∃ g, fv (S24_1 R X Y) g ∧ 0 ≤ g ∧ g ≤ 1 ∧ (f - 1 / 17592186044416 ≤ g ∧ g ≤ f + 1 / 17592186044416) := fun hx hy =>
    angleOf (r := r) hx hy f0 f1 d1 d2 ch k1 s0 s1 sk cd sd r0 r1 (.inl ⟨by grind, by grind, by grind, by grind, v0, vu⟩)
  have two : ∀ {X Y : Fl}, fv (S31_0 R X) v → fv (S31_0 R Y) u → ∃ g, fv (S24_1 R X Y) g ∧ 0 ≤ g ∧ g ≤ 1 ∧ (f - 1 / 17592186044416 ≤ g ∧ g ≤ f + 1 / 17592186044416) := fun hx hy =>
    angleOf (r := r) hx hy f0 f1 d1 d2 ch k1 s0 s1 sk cd sd r0 r1 (.inr ⟨by grind, by grind, by grind, by grind, v0, vu⟩)
  have hsq : ∀ x : Fl, S14_0 R x = R.fsqrt x := fun _ => rfl
  have fin : ∃ g, fv (S24_1 R (S13_0 R a b) (S13_1 R a b)) g ∧ 0 ≤ g ∧ g ≤ 1 ∧ (f - 1 / 17592186044416 ≤ g ∧ g ≤ f + 1 / 17592186044416) := by
    unfold S13_0 S13_1
    rw [hsq]
    rcases hxy with ⟨e1, e2⟩ | ⟨e1, e2⟩ | ⟨e1, e2⟩ | ⟨e1, e2⟩ | ⟨e1, e2⟩ | ⟨e1, e2⟩ | ⟨e1, e2⟩ | ⟨e1, e2⟩ <;> rw [e1, e2]
    · exact one zu zv
    · exact two zv zu
    · exact two znv zu
    · exact one znu zv
    · exact one znu znv
    · exact two znv znu
    · exact two zv znu
    · exact one zu znv
  obtain ⟨g, hg⟩ := fin
  exact ⟨F, f, g, hf, f0, f1, hp, hg⟩

/-- The density of a draw's direction above is the draw's, nearly. -/
theorem densityDraw (o a b : Fl) {c : Rat} (hc : fv (S15_0 R a) c) (c0 : 0 < c) (ho : R.fgt o (R.fc 0) = true) (hz : R.fgt (R.fsqrt (R.fsub (R.fc 4607182418800017408) (S15_0 R a))) (R.fc 0) = true) :
    R.fle (R.fsub (S6_0 R o (S13_0 R a b) (S13_1 R a b) (R.fsqrt (R.fsub (R.fc 4607182418800017408) (S15_0 R a)))) (R.fmul (S13_2 R b) (R.fsqrt (R.fsub (R.fc 4607182418800017408) (S15_0 R a))))) (R.fc 4427038433705197568) = true ∧
    R.fge (R.fsub (S6_0 R o (S13_0 R a b) (S13_1 R a b) (R.fsqrt (R.fsub (R.fc 4607182418800017408) (S15_0 R a)))) (R.fmul (S13_2 R b) (R.fsqrt (R.fsub (R.fc 4607182418800017408) (S15_0 R a))))) (R.fc 13650410470559973376) = true := by
  obtain ⟨F, f, g, hf, f0, f1, hp, hg, g0, g1, gn⟩ := angleDisk a b hc c0
  obtain ⟨_, z, _, hzz, _, _, z0, z1, _⟩ := heightVal a
  obtain ⟨p, hpp, pa, pb, pn⟩ := densVal hf f0 f1
  obtain ⟨q, hq, qa, qb, qn⟩ := densVal hg g0 g1
  have e := sq_near (x := g) (y := f) (e := 1 / 17592186044416) (by grind) (by grind) (by grind) f1 (by grind) (by grind)
  rw [← hp] at hpp
  -- what is asked
  obtain ⟨m, hm, rm⟩ := mul_val hpp fv_two (by grind) (by grind)
  have mn := rm.near4 (by grind) (by grind)
  have m0 : 0 ≤ m := rm.ge 0 (fv_rep fv_zero) (by grind)
  have m1 : m ≤ 1 := rm.le 1 (fv_rep fv_one) (by grind)
  obtain ⟨k1, k2⟩ := mul_abs (show -1 ≤ m by grind) m1 (show -1 ≤ z by grind) z1
  obtain ⟨x, hx, rx⟩ := mul_val hm hzz (by grind) (by grind)
  have xn := rx.near4 (by grind) (by grind)
  -- what is told
  obtain ⟨n, hn, rn⟩ := mul_val fv_two hq (by grind) (by grind)
  have nn' := rn.near4 (by grind) (by grind)
  have n0 : 0 ≤ n := rn.ge 0 (fv_rep fv_zero) (by grind)
  have n1 : n ≤ 1 := rn.le 1 (fv_rep fv_one) (by grind)
  obtain ⟨j1, j2⟩ := mul_abs (show -1 ≤ n by grind) n1 (show -1 ≤ z by grind) z1
  obtain ⟨y, hy, ry⟩ := mul_val hn hzz (by grind) (by grind)
  have yn := ry.near4 (by grind) (by grind)
  have hD : S6_0 R o (S13_0 R a b) (S13_1 R a b) (R.fsqrt (R.fsub (R.fc 4607182418800017408) (S15_0 R a))) = R.fmul (R.fmul (R.fc 4611686018427387904) (R.fmul (R.fadd (R.fc 4607182418800017408) (R.fmul (S24_1 R (S13_0 R a b) (S13_1 R a b)) (S24_1 R (S13_0 R a b) (S13_1 R a b)))) (R.fc 4593671619917905920))) (R.fsqrt (R.fsub (R.fc 4607182418800017408) (S15_0 R a))) := by
    unfold S6_0 S18_0 S20_0
    rw [warpDensityE, ho, hz]
    obtain ⟨i, hi, _⟩ := id hy
    rw [vfinNum hi]
    rfl
  rw [hD]
  have hQ : S13_2 R b = R.fmul (S27_2 R b) (R.fc 4611686018427387904) := rfl
  rw [hQ]
  obtain ⟨w1, w2⟩ := mul_abs (u := n - m) (a := 1 / 8796093022208) (v := z) (b := 1) (by grind) (by grind) (by grind) z1
  obtain ⟨d, hd, rd⟩ := sub_val hy hx (by grind) (by grind)
  have eps : fv (R.fc 4427038433705197568) (1 / 1099511627776) := fvc 982 92 (1 / 1099511627776) (by decide +kernel : f64.read 4427038433705197568 = .number false 4503599627370496 (-92)) (by decide) (by decide) (by decide +kernel)
  have neps : fv (R.fc 13650410470559973376) (-(1 / 1099511627776)) := fvcn 982 92 (1 / 1099511627776) (by decide +kernel : f64.read 13650410470559973376 = .number true 4503599627370496 (-92)) (by decide) (by decide) (by decide +kernel)
  rw [fv_fle hd eps, fv_fge hd neps]
  exact ⟨decide_eq_true (rd.le _ (fv_rep eps) (by grind)), decide_eq_true (rd.ge _ (fv_rep neps) (by grind))⟩

theorem law_LambertDraws (_x0 _x1 x2 x3 x4 : Fl) : O4 R x2 x3 x4 = true ∧ S4_0 R x2 x3 x4 = true := by
  obtain ⟨h0, h1, h2, h3⟩ := hemiE x3 x4
  have hs : ∀ x : Fl, S14_0 R x = R.fsqrt x := fun _ => rfl
  obtain ⟨u, v, w, r, c, hu, hv, hw, hc, hr, c0, c1, _⟩ := diskVal x3 x4
  obtain ⟨_, z, _, hz, _⟩ := heightVal x3
  unfold O4 S4_0 O12 S12_0 S12_1 S12_2 S12_3
  rw [h0, h1, h2, h3, hs, awake14.1, awake14.2]
  have up : S18_0 R x2 (R.fsqrt (R.fsub (R.fc 4607182418800017408) (S15_0 R x3))) = R.bite (R.fgt x2 (R.fc 0)) (R.fgt (R.fsqrt (R.fsub (R.fc 4607182418800017408) (S15_0 R x3))) (R.fc 0)) (R.bc false) := rfl
  rw [up]
  have z0 : R.feq (R.fc 0) (R.fc 0) = true := by kernel_rfl
  cases p : R.fgt x2 (R.fc 0) with
  | false =>
    have e : R.fite (R.bnot (R.bite false (R.fgt (R.fsqrt (R.fsub (R.fc 4607182418800017408) (S15_0 R x3))) (R.fc 0)) (R.bc false))) (R.fc 0) = fun _ => R.fc 0 := rfl
    rw [e]
    show _ ∧ R.bite _ (R.bite _ (R.band (R.feq (R.fc 0) (R.fc 0)) (R.band (R.feq (R.fc 0) (R.fc 0)) (R.band (R.feq (R.fc 0) (R.fc 0)) (R.bc true)))) _) _ = true
    rw [z0]
    exact ⟨rfl, rfl⟩
  | true =>
    cases q : R.fgt (R.fsqrt (R.fsub (R.fc 4607182418800017408) (S15_0 R x3))) (R.fc 0) with
    | false =>
      show _ ∧ R.bite _ (R.bite _ (R.band (R.feq (R.fc 0) (R.fc 0)) (R.band (R.feq (R.fc 0) (R.fc 0)) (R.band (R.feq (R.fc 0) (R.fc 0)) (R.bc true)))) _) _ = true
      rw [z0]
      exact ⟨rfl, rfl⟩
    | true =>
      have e : ∀ x : Fl, R.fite (R.bnot (R.bite true true (R.bc false))) (R.fc 0) x = x := fun _ => rfl
      rw [e, e, e, fv_num hu, fv_num hv, fv_num hz]
      refine ⟨rfl, ?_⟩
      cases g : R.feq (S15_0 R x3) (R.fc 0) with
      | true => rfl
      | false =>
        have hc0 : 0 < c := by
          rw [fv_feq hc fv_zero] at g
          have := of_decide_eq_false g
          grind
        obtain ⟨d1, d2⟩ := densityDraw x2 x3 x4 hc hc0 p q
        rw [d1, d2]
        rfl
end Go.Proofs.Ytlipfeoieabojaa
