/- The law BsdfShares over floats alone. -/
import Derived.Test.YthfgapbbmkgfiaaCm
namespace Go.Proofs.Ythfgapbbmkgfiaa
open Go.Ev

theorem awake16 : O8 R = true ∧ S8_0 R = true := ⟨by kernel_rfl, by kernel_rfl⟩

theorem law_BsdfShares (x0 x1 x2 x3 x4 x5 _x6 : Fl) : O4 R x0 x1 x2 x3 x4 x5 = true ∧ S4_0 R x0 x1 x2 x3 x4 x5 = true := by
  obtain ⟨s1, s2, s3, q, hq, q0, q1⟩ := shareE x0 x1 x2 x3 x4 x5
  have bs : ∀ b : Bool, R.beq b b = true := fun b => by cases b <;> rfl
  have alb : S14_0 R x0 x1 x2 x3 x4 x5 = S15_0 R (S16_0 R x0 x3) (S16_1 R x1 x4) (S16_2 R x2 x5) := rfl
  have blk : S11_0 R x0 x1 x2 x3 x4 x5 = R.bite (R.bite (R.bite (R.bite (R.bite (R.feq x0 (R.fc 0)) (R.feq x1 (R.fc 0)) (R.bc false)) (R.feq x2 (R.fc 0)) (R.bc false)) (R.feq x3 (R.fc 0)) (R.bc false)) (R.feq x4 (R.fc 0)) (R.bc false)) (R.feq x5 (R.fc 0)) (R.bc false) := by
    unfold S11_0
    rw [show R.feq (R.fc 0) (R.fc 0) = true by kernel_rfl]
    generalize R.feq x0 (R.fc 0) = a
    generalize R.feq x1 (R.fc 0) = b
    generalize R.feq x2 (R.fc 0) = c
    generalize R.feq x3 (R.fc 0) = d
    generalize R.feq x4 (R.fc 0) = e
    generalize R.feq x5 (R.fc 0) = f
    cases a <;> cases b <;> cases c <;> cases d <;> cases e <;> cases f <;> rfl
  unfold O4 S4_0
  rw [s1, s2, s3, blk, alb, bs, awake16.1, awake16.2, fv_num hq, fv_fge hq fv_zero, fv_fle hq fv_one, decide_eq_true q0, decide_eq_true q1, sameE, same_self]
  exact ⟨rfl, rfl⟩
end Go.Proofs.Ythfgapbbmkgfiaa
