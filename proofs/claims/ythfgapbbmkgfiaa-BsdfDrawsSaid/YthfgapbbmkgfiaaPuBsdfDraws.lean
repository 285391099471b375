/- The law BsdfDraws over floats alone. -/
import Derived.Test.YthfgapbbmkgfiaaCm
namespace Go.Proofs.Ythfgapbbmkgfiaa
open Go.Ev

theorem awake16 : O8 R = true ∧ S8_0 R = true := ⟨by kernel_rfl, by kernel_rfl⟩

theorem law_BsdfDraws (x0 x1 x2 x3 x4 x5 x6 x7 x8 x9 x10 x11 x12 : Fl) : O3 R x0 x1 x2 x3 x4 x5 x10 x12 = true ∧ S3_0 R x0 x1 x2 x3 x4 x5 x6 x7 x8 x9 x10 x11 x12 = true := by
  obtain ⟨o, e0, e1, e2, e3, h⟩ := ggxSampleE x6 x7 x8 x9 x11 x12
  obtain ⟨s1, s2, s3, q, hq, q0, q1⟩ := shareE x0 x1 x2 x3 x4 x5
  obtain ⟨h0, h1, h2, h3⟩ := hemiE x11 x12
  obtain ⟨c, hc, c0, c1⟩ := cleanVal x10
  have hs : ∀ x : Fl, S28_0 R x = R.fsqrt x := fun _ => rfl
  have bs : ∀ b : Bool, R.beq b b = true := fun b => by cases b <;> rfl
  have ol : O23 R x12 = true := by unfold O23; rw [h0]
  have l0 : S23_0 R x9 x11 x12 = R.fite (R.bite (R.fgt x9 (R.fc 0)) (R.fgt (R.fsqrt (R.fsub (R.fc 4607182418800017408) (S25_0 R x11))) (R.fc 0)) (R.bc false)) (S27_0 R x11 x12) (R.fc 0) ∧
      S23_1 R x9 x11 x12 = R.fite (R.bite (R.fgt x9 (R.fc 0)) (R.fgt (R.fsqrt (R.fsub (R.fc 4607182418800017408) (S25_0 R x11))) (R.fc 0)) (R.bc false)) (S27_1 R x11 x12) (R.fc 0) ∧
      S23_2 R x9 x11 = R.fite (R.bite (R.fgt x9 (R.fc 0)) (R.fgt (R.fsqrt (R.fsub (R.fc 4607182418800017408) (S25_0 R x11))) (R.fc 0)) (R.bc false)) (R.fsqrt (R.fsub (R.fc 4607182418800017408) (S25_0 R x11))) (R.fc 0) ∧
      S23_3 R x9 x11 = R.bite (R.bite (R.fgt x9 (R.fc 0)) (R.fgt (R.fsqrt (R.fsub (R.fc 4607182418800017408) (S25_0 R x11))) (R.fc 0)) (R.bc false)) (R.bc true) (R.bc false) := by
    unfold S23_0 S23_1 S23_2 S23_3
    rw [h1, h2, h3, show S44_0 R x9 (R.fsqrt (R.fsub (R.fc 4607182418800017408) (S25_0 R x11))) = R.bite (R.fgt x9 (R.fc 0)) (R.fgt (R.fsqrt (R.fsub (R.fc 4607182418800017408) (S25_0 R x11))) (R.fc 0)) (R.bc false) from rfl]
    cases R.bite (R.fgt x9 (R.fc 0)) (R.fgt (R.fsqrt (R.fsub (R.fc 4607182418800017408) (S25_0 R x11))) (R.fc 0)) (R.bc false) <;> exact ⟨rfl, rfl, rfl, rfl⟩
  have lt : R.fge (S25_0 R x10) (S12_0 R x0 x1 x2 x3 x4 x5) = !(R.flt (S25_0 R x10) (S12_0 R x0 x1 x2 x3 x4 x5)) := by
    rw [fv_fge hc hq, fv_flt hc hq]
    by_cases g : c < q
    · rw [decide_eq_true g, decide_eq_false (Rat.not_le.2 g)]; rfl
    · rw [decide_eq_false g, decide_eq_true (Rat.not_lt.1 g)]; rfl
  unfold O3 S3_0 O6 O7 S6_0 S6_1 S6_2 S6_3 S7_0 S7_1 S7_2 S7_3
  rw [s1, s2, s3, cleanE, lt, ol, o, e0, e1, e2, e3, l0.1, l0.2.1, l0.2.2.1, l0.2.2.2, hs, awake16.1, awake16.2]
  generalize R.flt (S25_0 R x10) (S12_0 R x0 x1 x2 x3 x4 x5) = b
  cases b with
  | true =>
    refine ⟨rfl, ?_⟩
    cases p : R.fgt x9 (R.fc 0) with
    | false =>
      show R.bite (R.bite (R.bite true (S9_0 R (R.fc 0) (R.fc 0) (R.fc 0) (R.fc 0) (R.fc 0) (R.fc 0)) (R.bc false)) (R.beq false false) (R.bc false)) (R.bc true) (R.bc false) = true
      rw [isRefl]
      rfl
    | true =>
      cases r : R.fgt (R.fsqrt (R.fsub (R.fc 4607182418800017408) (S25_0 R x11))) (R.fc 0) with
      | false =>
        show R.bite (R.bite (R.bite true (S9_0 R (R.fc 0) (R.fc 0) (R.fc 0) (R.fc 0) (R.fc 0) (R.fc 0)) (R.bc false)) (R.beq false false) (R.bc false)) (R.bc true) (R.bc false) = true
        rw [isRefl]
        rfl
      | true =>
        show R.bite (R.bite (R.bite true (S9_0 R (S27_0 R x11 x12) (S27_1 R x11 x12) (R.fsqrt (R.fsub (R.fc 4607182418800017408) (S25_0 R x11))) (S27_0 R x11 x12) (S27_1 R x11 x12) (R.fsqrt (R.fsub (R.fc 4607182418800017408) (S25_0 R x11)))) (R.bc false)) (R.beq true true) (R.bc false)) (R.bite (R.fgt (R.fsqrt (R.fsub (R.fc 4607182418800017408) (S25_0 R x11))) (R.fc 0)) true (R.bc false)) (R.bc false) = true
        rw [isRefl, r]
        rfl
  | false =>
    refine ⟨rfl, ?_⟩
    show R.bite (R.bite (R.bite true (S9_0 R (S26_0 R x6 x7 x8 x9 x11 x12) (S26_1 R x6 x7 x8 x9 x11 x12) (S26_2 R x6 x7 x8 x9 x11 x12) (S26_0 R x6 x7 x8 x9 x11 x12) (S26_1 R x6 x7 x8 x9 x11 x12) (S26_2 R x6 x7 x8 x9 x11 x12)) (R.bc false)) (R.beq (S26_3 R x6 x7 x8 x9 x11 x12) (S26_3 R x6 x7 x8 x9 x11 x12)) (R.bc false)) (R.bite (R.bnot (S26_3 R x6 x7 x8 x9 x11 x12)) (R.bc true) (R.bite (R.fgt (S26_2 R x6 x7 x8 x9 x11 x12) (R.fc 0)) (R.fgt x9 (R.fc 0)) (R.bc false))) (R.bc false) = true
    rw [isRefl, bs]
    cases g : S26_3 R x6 x7 x8 x9 x11 x12 with
    | false => rfl
    | true =>
      rw [(h g).1, (h g).2]
      rfl
end Go.Proofs.Ythfgapbbmkgfiaa
