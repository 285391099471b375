/- The law WarpLine over floats alone. -/
import Derived.Test.YtmdfomhclkbkpaaCm
namespace Go.Proofs.Ytmdfomhclkbkpaa
open Go.Ev

theorem awake09 : O11 R = true ∧ S11_0 R = true := ⟨by kernel_rfl, by kernel_rfl⟩

theorem law_WarpLine (x0 x1 : Fl) : O5 R = true ∧ S5_0 R x0 x1 = true := by
  refine ⟨awake09.1, ?_⟩
  have hs : ∀ x : Fl, S17_0 R x = R.fsqrt x := fun _ => rfl
  obtain ⟨c, hc, c0, c1⟩ := cleanVal x0
  obtain ⟨v, hv, v0, v1⟩ := cleanVal x1
  obtain ⟨r, hr, sr⟩ := sqrt_val hc c0 (by grind)
  have r1 : r ≤ 1 := sr.le 1 (fv_rep fv_one) (by decide) (by grind)
  have r0 := sr.nonneg
  obtain ⟨w, hw, rw'⟩ := sub_val fv_one hv (by grind) (by grind)
  have w0 : 0 ≤ w := rw'.ge 0 (fv_rep fv_zero) (by grind)
  have w1 : w ≤ 1 := rw'.le 1 (fv_rep fv_one) (by grind)
  have wn := rw'.near4 (by grind) (by grind)
  obtain ⟨p, hp, rp⟩ := sub_val fv_one hr (by grind) (by grind)
  have p0 : 0 ≤ p := rp.ge 0 (fv_rep fv_zero) (by grind)
  have p1 : p ≤ 1 := rp.le 1 (fv_rep fv_one) (by grind)
  have pn := rp.near4 (by grind) (by grind)
  obtain ⟨a1, a2⟩ := mul_abs (show -1 ≤ r by grind) r1 (show -1 ≤ w by grind) w1
  obtain ⟨b1, b2⟩ := mul_abs (show -1 ≤ r by grind) r1 (show -1 ≤ v by grind) (Rat.le_of_lt v1)
  obtain ⟨q, hq, rq⟩ := mul_val hr hw (by grind) (by grind)
  have q0 : 0 ≤ q := rq.ge 0 (fv_rep fv_zero) (Rat.mul_nonneg r0 w0)
  have q1 : q ≤ 1 := rq.le 1 (fv_rep fv_one) (by grind)
  have qn := rq.near4 (by grind) (by grind)
  obtain ⟨s, hs', rs⟩ := mul_val hr hv (by grind) (by grind)
  have s0 : 0 ≤ s := rs.ge 0 (fv_rep fv_zero) (Rat.mul_nonneg r0 v0)
  have s1 : s ≤ 1 := rs.le 1 (fv_rep fv_one) (by grind)
  have sn := rs.near4 (by grind) (by grind)
  obtain ⟨i, hi, ri⟩ := add_val hp hq (by grind) (by grind)
  have i_n := ri.near4 (by grind) (by grind)
  obtain ⟨j, hj, rj⟩ := add_val hi hs' (by grind) (by grind)
  have jn := rj.near4 (by grind) (by grind)
  obtain ⟨k1, k2⟩ := mul_abs (u := r) (a := 1) (v := w - (1 - v)) (b := 1 / 562949953421312) (by grind) r1 (by grind) (by grind)
  obtain ⟨t1, t, ht, t2, t3⟩ := tentVal x0
  have minus : fv (R.fc 13830554455654793216) (-1) := fvcn 1022 52 1 (by decide +kernel : f64.read 13830554455654793216 = .number true 4503599627370496 (-52)) (by decide) (by decide) (by decide +kernel)
  have e0 : S16_0 R x0 = R.fsub (R.fc 4607182418800017408) (R.fsqrt (S18_0 R x0)) := by unfold S16_0; rw [cleanE, hs]
  have e1 : S16_1 R x0 x1 = R.fmul (R.fsqrt (S18_0 R x0)) (R.fsub (R.fc 4607182418800017408) (S18_0 R x1)) := by unfold S16_1; rw [cleanE, cleanE, hs]
  have e2 : S16_2 R x0 x1 = R.fmul (R.fsqrt (S18_0 R x0)) (S18_0 R x1) := by unfold S16_2; rw [cleanE, cleanE, hs]
  unfold S5_0
  rw [e0, e1, e2, hs, t1, awake09.2, fv_num hp, fv_num hq, fv_num hs', fv_num ht, fv_fge hp fv_zero, fv_fge hq fv_zero, fv_fge hs' fv_zero, fv_fle hp fv_one, fv_fle hq fv_one, fv_fle hs' fv_one, fv_fge ht minus, fv_fle ht fv_one,
    nearOk hj (by grind) (by grind), decide_eq_true p0, decide_eq_true q0, decide_eq_true s0, decide_eq_true p1, decide_eq_true q1, decide_eq_true s1, decide_eq_true t2, decide_eq_true t3]
  rfl
end Go.Proofs.Ytmdfomhclkbkpaa
