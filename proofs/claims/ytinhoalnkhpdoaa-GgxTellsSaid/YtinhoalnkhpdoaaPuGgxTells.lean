/- The law GgxTells over floats alone. -/
import Derived.Test.YtinhoalnkhpdoaaCm
namespace Go.Proofs.Ytinhoalnkhpdoaa
open Go.Ev

theorem awake15 : O6 R = true ∧ S6_0 R = true := ⟨by kernel_rfl, by kernel_rfl⟩

theorem rough_self (a : Fl) : R.feq (S8_0 R a) (S8_0 R a) = true := by
  unfold S8_0
  cases h : R.flt a (R.fc 4562146422526312448) with
  | true => kernel_rfl
  | false =>
    cases g : R.fgt a (R.fc 4607182418800017408) with
    | true => kernel_rfl
    | false =>
      cases e : R.feq a a with
      | false => kernel_rfl
      | true => exact e

theorem law_GgxTells (x0 x1 x2 x3 x4 : Fl) : O3 R = true ∧ S3_0 R x0 x1 x2 x3 x4 = true := by
  refine ⟨awake15.1, ?_⟩
  unfold S3_0
  rw [awake15.2, roughE, normalsE, shadowE, rough_self, (fresnelE x2 x1).1, (fresnelE x3 x1).2.1, (fresnelE x4 x1).2.2, rgbIsRefl, sameE, sameE, same_self, same_self]
  rfl
end Go.Proofs.Ytinhoalnkhpdoaa
