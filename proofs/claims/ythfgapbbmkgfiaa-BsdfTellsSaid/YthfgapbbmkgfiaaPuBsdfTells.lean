/- The law BsdfTells over floats alone. -/
import Derived.Test.YthfgapbbmkgfiaaCm
namespace Go.Proofs.Ythfgapbbmkgfiaa
open Go.Ev

theorem awake16 : O8 R = true ∧ S8_0 R = true := ⟨by kernel_rfl, by kernel_rfl⟩

theorem const_uns {r : Nat} (h : r < f64.signWeight) : uns (R.fc r) := uns_word h

theorem ggxDensityNn (a0 a1 a2 a3 a4 a5 a6 : Fl) : nn (S42_0 R a0 a1 a2 a3 a4 a5 a6) := by
  have zero : nn (R.fc 0) := nn_zero
  have hsix : nn (R.fc 4618760256179416344) := by
    intro k h
    have h' : fkey (cls 4618760256179416344) = some k := h
    rw [cls_key] at h'
    exact key_unsigned (by decide +kernel) h'
  have hnorm : ∀ x z : Fl, nn (R.fmul (S75_0 R x z) z) := by
    intro x z
    unfold S75_0
    cases h : R.fgt z (R.fc 0) with
    | false => exact nn_zero_mul z
    | true => exact nn_mul (nn_div (nn_sq _) (uns_mul (const_uns (by decide +kernel)) (uns_sq _))) (gt_nn h)
  unfold S42_0
  have hn := hnorm a0 (S73_2 R a1 a2 a3 a4 a5 a6)
  have hd : nn (R.fmul (R.fc 4618760256179416344) (R.fmul (R.fadd (R.fc 4607182418800017408) (R.fmul (S78_1 R (S73_0 R a1 a2 a3 a4 a5 a6) (S73_1 R a1 a2 a3 a4 a5 a6)) (S78_1 R (S73_0 R a1 a2 a3 a4 a5 a6) (S73_1 R a1 a2 a3 a4 a5 a6)))) (R.fc 4593671619917905920))) :=
    nn_mul hsix (nn_mul (nn_add one_nn (sq_nn _)) eighth_nn)
  generalize R.fmul (R.fc 4618760256179416344) (R.fmul (R.fadd (R.fc 4607182418800017408) (R.fmul (S78_1 R (S73_0 R a1 a2 a3 a4 a5 a6) (S73_1 R a1 a2 a3 a4 a5 a6)) (S78_1 R (S73_0 R a1 a2 a3 a4 a5 a6) (S73_1 R a1 a2 a3 a4 a5 a6)))) (R.fc 4593671619917905920)) = w at *
  generalize R.fmul (S75_0 R a0 (S73_2 R a1 a2 a3 a4 a5 a6)) (S73_2 R a1 a2 a3 a4 a5 a6) = n at *
  generalize S52_0 R a1 a2 a3 (S73_0 R a1 a2 a3 a4 a5 a6) (S73_1 R a1 a2 a3 a4 a5 a6) (S73_2 R a1 a2 a3 a4 a5 a6) = c
  generalize S73_3 R a1 a2 a3 a4 a5 a6 = h3
  cases h3 with
  | false => exact zero
  | true =>
    cases hc : R.fgt c (R.fc 0) with
    | false => exact zero
    | true =>
      have hp : nn (R.fdiv (R.fmul n w) (R.fmul (R.fc 4616189618054758400) c)) := nn_div (nn_mul hn hd) (uns_mul (const_uns (by decide +kernel)) (uns_gt hc))
      generalize R.fdiv (R.fmul n w) (R.fmul (R.fc 4616189618054758400) c) = p at *
      cases S79_0 R p with
      | false => exact zero
      | true => exact hp

theorem lambertFin (a b c d : Fl) : ∃ k, fin (S41_0 R a b c d) k ∧ 0 ≤ k := by
  obtain ⟨k, hk, k0⟩ := lambertDensityOk a b c d
  refine ⟨k, nk_fin ⟨hk, k0⟩ ?_, k0⟩
  revert hk
  unfold S41_0
  generalize R.fmul (R.fmul (R.fc 4611686018427387904) _) d = p
  have tp := topKey_pos
  have hz : fkey (R.fc 0) = some k → k < topKey := by
    intro h
    have h' : fkey (cls 0) = some k := h
    rw [fkey_zero] at h'; cases h'; exact tp
  generalize R.fgt a (R.fc 0) = u
  generalize R.fgt d (R.fc 0) = v
  intro hk
  cases u with
  | false => cases v <;> exact hz hk
  | true =>
    cases v with
    | false => exact hz hk
    | true =>
      cases hn : S79_0 R p with
      | false => rw [hn] at hk; exact hz hk
      | true =>
        rw [hn] at hk
        obtain ⟨j, hj⟩ := numFin hn
        have e : fkey p = some k := hk
        rw [hj.1] at e; cases e
        exact hj.2.2

theorem law_BsdfTells (x0 x1 x2 x3 x4 x5 x6 x7 x8 x9 x10 x11 x12 : Fl) : O5 R x0 x1 x2 x3 x4 x5 x6 x7 x8 x9 x10 x11 x12 = true ∧ S5_0 R x0 x1 x2 x3 x4 x5 x6 x7 x8 x9 x10 x11 x12 = true := by
  obtain ⟨s1, s2, s3, q, hq, q0, q1⟩ := shareE x0 x1 x2 x3 x4 x5
  have od : O17 R x0 x1 x2 x3 x4 x5 = true := by unfold O17; exact s1
  have or' : O21 R x0 x1 x2 x3 x4 x5 = true := by unfold O21; exact s2
  have ed : S17_0 R x0 x1 x2 x3 x4 x5 x6 x7 x8 x9 x10 x11 x12 = S21_0 R x0 x1 x2 x3 x4 x5 x6 x7 x8 x9 x10 x11 x12 := by
    unfold S17_0 S21_0
    rw [s3, lambertDensityE, ggxDensityE]
  have e0 : S19_0 R x0 x3 x6 x7 x8 x9 x10 x11 x12 = S20_0 R x0 x3 x6 x7 x8 x9 x10 x11 x12 := by
    unfold S19_0 S20_0
    rw [(lambertEvalE x0 x9 x12).1, (ggxEvalE x3 x6 x7 x8 x9 x10 x11 x12).1]
    rfl
  have e1 : S19_1 R x1 x4 x6 x7 x8 x9 x10 x11 x12 = S20_1 R x1 x4 x6 x7 x8 x9 x10 x11 x12 := by
    unfold S19_1 S20_1
    rw [(lambertEvalE x1 x9 x12).2.1, (ggxEvalE x4 x6 x7 x8 x9 x10 x11 x12).2.1]
    rfl
  have e2 : S19_2 R x2 x5 x6 x7 x8 x9 x10 x11 x12 = S20_2 R x2 x5 x6 x7 x8 x9 x10 x11 x12 := by
    unfold S19_2 S20_2
    rw [(lambertEvalE x2 x9 x12).2.2, (ggxEvalE x5 x6 x7 x8 x9 x10 x11 x12).2.2]
    rfl
  -- not below nought
  have hp : R.fge (S21_0 R x0 x1 x2 x3 x4 x5 x6 x7 x8 x9 x10 x11 x12) (R.fc 0) = true := by
    unfold S21_0
    obtain ⟨i, hi, i0⟩ := lambertFin x9 x10 x11 x12
    obtain ⟨j, hj⟩ := numFin (ggxDensityOk x6 x7 x8 x9 x10 x11 x12)
    have j0 := ggxDensityNn x6 x7 x8 x9 x10 x11 x12 j hj.1
    obtain ⟨r, hr, rr⟩ := sub_val fv_one hq (by grind) (by grind)
    have r0 : 0 ≤ r := rr.ge 0 (fv_rep fv_zero) (by grind)
    have key : ∀ {x y : Fl} {p : Rat} {n : Int}, fv x p → 0 ≤ p → fin y n → 0 ≤ n → ∃ k, nk (R.fmul x y) k := by
      intro x y p n hx hp0 hy hn
      obtain ⟨k, ⟨hk1, hk0⟩, _⟩ := fv_nk hx hp0
      obtain ⟨k', hk', _⟩ := hx
      have : k' = k := Option.some.inj (hk'.1.symm.trans hk1)
      subst this
      exact ⟨_, key_mul hk' hy, rndL_nonneg _ (Int.mul_nonneg hk0 hn)⟩
    obtain ⟨a, ha⟩ := key hq q0 hi i0
    obtain ⟨b, hb⟩ := key hr r0 hj j0
    obtain ⟨c, hc, _⟩ := nk_add ha hb
    exact (fge_iff _ _).2 ⟨c, 0, hc.1, fkey_zero, hc.2⟩
  unfold O5 S5_0
  rw [od, or', ed, e0, e1, e2, awake16.1, awake16.2, rgbIsRefl, sameE, same_self, hp]
  exact ⟨rfl, rfl⟩
end Go.Proofs.Ythfgapbbmkgfiaa
