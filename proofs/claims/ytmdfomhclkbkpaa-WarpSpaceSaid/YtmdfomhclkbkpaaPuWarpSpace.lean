/- The law WarpSpace over floats alone. -/
import Derived.Test.YtmdfomhclkbkpaaCm
namespace Go.Proofs.Ytmdfomhclkbkpaa
open Go.Ev

theorem awake09 : O11 R = true ∧ S11_0 R = true := ⟨by kernel_rfl, by kernel_rfl⟩

theorem law_WarpSpace (x0 x1 : Fl) : O6 R x0 x1 = true ∧ S6_0 R x0 x1 = true := by
  obtain ⟨h0, h1, h2, h3⟩ := hemiE x0 x1
  obtain ⟨_, _, _, d3⟩ := diskE x0 x1
  obtain ⟨o0, s0, s1, s2, _⟩ := sectorE x1
  obtain ⟨u, v, w, r, c, hu, hv, hw, hc, hr, c0, c1, r0, r1, ua, ub, va, vb, wa, wb, m1, m2⟩ := diskVal x0 x1
  obtain ⟨c', z, hc', hz, _, _, z0, z1, n1, n2⟩ := heightVal x0
  have ec := fv_unique hc' hc
  subst ec
  have hs : ∀ x : Fl, S17_0 R x = R.fsqrt x := fun _ => rfl
  -- above
  obtain ⟨n, hn, na, nb⟩ := dotVal hu hv hz ua ub va vb (by grind) z1
  obtain ⟨a1, a2⟩ := mul_abs (u := w) (a := 1) (v := z) (b := 1) (by grind) (by grind) (by grind) z1
  obtain ⟨p, hp, _⟩ := mul_val hw hz (by grind) (by grind)
  -- all around
  obtain ⟨t, ht, rt⟩ := add_val hc hc (by grind) (by grind)
  have et : t = 2 * c' := by
    have := rt.exact (by rw [show c' + c' = 2 * c' by grind]; exact repQ_twice (fv_rep hc) ⟨by grind, by grind⟩)
    grind
  subst et
  obtain ⟨b, hb, rb⟩ := sub_val fv_one ht (by grind) (by grind)
  have b0 : -1 ≤ b := rb.ge (-1) (repQ_neg (fv_rep fv_one)) (by grind)
  have b1 : b ≤ 1 := rb.le 1 (fv_rep fv_one) (by grind)
  obtain ⟨q1, q2⟩ := mul_abs b0 b1 b0 b1
  obtain ⟨e, he, re⟩ := mul_val hb hb (by grind) (by grind)
  have en := re.near4 (by grind) (by grind)
  have e1 : e ≤ 1 := re.le 1 (fv_rep fv_one) (by grind)
  have bb0 : 0 ≤ b * b := by
    by_cases h : 0 ≤ b
    · exact Rat.mul_nonneg h h
    · have := Rat.mul_nonneg (a := -b) (b := -b) (by grind) (by grind)
      grind
  have e0 : 0 ≤ e := re.ge 0 (fv_rep fv_zero) bb0
  obtain ⟨l, hl, rl⟩ := sub_val fv_one he (by grind) (by grind)
  have l0 : 0 ≤ l := rl.ge 0 (fv_rep fv_zero) (by grind)
  have l1 : l ≤ 1 := rl.le 1 (fv_rep fv_one) (by grind)
  have ln := rl.near4 (by grind) (by grind)
  obtain ⟨k, hk, sk⟩ := sqrt_val hl l0 (by grind)
  have k1 : k ≤ 1 := sk.le 1 (fv_rep fv_one) (by decide) (by grind)
  have kn := sk.near
  have e50 : pw 50 = 1125899906842624 := by unfold pw; rw [show (2 : Nat) ^ 50 = 1125899906842624 by decide]; rfl
  rw [e50] at kn
  obtain ⟨i, j, hi, hj, i0, i1, j0, j1, ij⟩ := shortVal x1 hk sk.nonneg k1
  obtain ⟨m, hm, ma, mb⟩ := dotVal hi hj hb i0 i1 j0 j1 b0 b1
  obtain ⟨_, _, pp, _, _, hpp, _, _, _, _, pa, pb, _⟩ := sectorVal x1
  obtain ⟨f, hf, _⟩ := mul_val hpp fv_half (by grind) (by grind)
  have hflt : R.flt (R.fsqrt (R.fsub (R.fc 4607182418800017408) (S18_0 R x0))) (R.fc 0) = false := by
    rw [fv_flt hz fv_zero]
    exact decide_eq_false (by grind)
  have hlt : R.flt (R.fsub (R.fc 4607182418800017408) (R.fmul (R.fsub (R.fc 4607182418800017408) (R.fadd (S18_0 R x0) (S18_0 R x0))) (R.fsub (R.fc 4607182418800017408) (R.fadd (S18_0 R x0) (S18_0 R x0))))) (R.fc 0) = false := by
    rw [fv_flt hl fv_zero]
    exact decide_eq_false (by grind)
  have ball : O22 R x1 = true ∧ S22_0 R x0 x1 = S23_0 R x0 x1 ∧ S22_1 R x0 x1 = S23_1 R x0 x1 ∧ S22_2 R x0 = S23_2 R x0 ∧ S22_3 R x1 = S23_3 R x1 := by
    unfold O22 S22_0 S22_1 S22_2 S22_3 S23_0 S23_1 S23_2 S23_3 O26 S26_0 S26_1 S26_2
    rw [o0, s0, s1, s2, cleanE, max_left]
    exact ⟨rfl, rfl, rfl, rfl, rfl⟩
  obtain ⟨o22, w0, w1, w2, w3⟩ := ball
  have v0 : S23_0 R x0 x1 = R.fmul (S8_0 R x1) (R.fsqrt (R.fsub (R.fc 4607182418800017408) (R.fmul (R.fsub (R.fc 4607182418800017408) (R.fadd (S18_0 R x0) (S18_0 R x0))) (R.fsub (R.fc 4607182418800017408) (R.fadd (S18_0 R x0) (S18_0 R x0)))))) := by
    unfold S23_0
    rw [two_mul, hlt, hs]
    rfl
  have v1 : S23_1 R x0 x1 = R.fmul (S8_1 R x1) (R.fsqrt (R.fsub (R.fc 4607182418800017408) (R.fmul (R.fsub (R.fc 4607182418800017408) (R.fadd (S18_0 R x0) (S18_0 R x0))) (R.fsub (R.fc 4607182418800017408) (R.fadd (S18_0 R x0) (S18_0 R x0)))))) := by
    unfold S23_1
    rw [two_mul, hlt, hs]
    rfl
  have v2 : S23_2 R x0 = R.fsub (R.fc 4607182418800017408) (R.fadd (S18_0 R x0) (S18_0 R x0)) := by
    unfold S23_2
    rw [two_mul]
  have v3 : S23_3 R x1 = R.fmul (S8_2 R x1) (R.fc 4602678819172646912) := rfl
  have h4 : S21_3 R x0 x1 = R.fmul (S10_2 R x1) (R.fsqrt (R.fsub (R.fc 4607182418800017408) (S18_0 R x0))) := by
    unfold S21_3
    rw [d3, cleanE, hs]
  have dot : ∀ a b c : Fl, S24_0 R a b c a b c = R.fadd (R.fadd (R.fmul a a) (R.fmul b b)) (R.fmul c c) := fun _ _ _ => rfl
  unfold O6 S6_0
  rw [h0, h1, h2, h3, h4, hs, o22, w0, w1, w2, w3, v0, v1, v2, v3, awake09.1, awake09.2, dot, dot, fv_num hu, fv_num hv, fv_num hz, fv_num hp, hflt, fv_num hi, fv_num hj, fv_num hb, fv_num hf, nearOk hn (by grind) (by grind), nearOk hm (by grind) (by grind)]
  exact ⟨rfl, rfl⟩
end Go.Proofs.Ytmdfomhclkbkpaa
