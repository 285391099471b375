/- The law LambertTells over floats alone. -/
import Derived.Test.YtlipfeoieabojaaCm
namespace Go.Proofs.Ytlipfeoieabojaa
open Go.Ev

theorem awake14 : O7 R = true ∧ S7_0 R = true := ⟨by kernel_rfl, by kernel_rfl⟩

theorem law_LambertTells (x0 x1 x2 _x3 _x4 x5 x6 x7 x8 : Fl) : O3 R = true ∧ S3_0 R x0 x1 x2 x5 x6 x7 x8 = true := by
  refine ⟨awake14.1, ?_⟩
  obtain ⟨k, h1, h2⟩ := lambertDensityOk x5 x6 x7 x8
  have e1 := (feq_iff (S11_0 R x5 x6 x7 x8) (S11_0 R x5 x6 x7 x8)).2 ⟨k, k, h1, h1, rfl⟩
  have e2 := (fge_iff (S11_0 R x5 x6 x7 x8) (cls 0)).2 ⟨k, 0, h1, fkey_zero, h2⟩
  simp only [S3_0, awake14, lambertEvalE, lambertDensityE, rgbIsRefl, e1, e2, if_true]
end Go.Proofs.Ytlipfeoieabojaa
