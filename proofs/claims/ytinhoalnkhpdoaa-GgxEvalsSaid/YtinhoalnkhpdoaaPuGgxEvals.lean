/- The law GgxEvals over floats alone. -/
import Derived.Test.YtinhoalnkhpdoaaCm
namespace Go.Proofs.Ytinhoalnkhpdoaa
open Go.Ev

theorem awake15 : O6 R = true ∧ S6_0 R = true := ⟨by kernel_rfl, by kernel_rfl⟩

theorem law_GgxEvals (x0 x1 x2 x3 x4 x5 x6 x7 x8 x9 : Fl) : O5 R = true ∧ S5_0 R x0 x1 x2 x3 x4 x5 x6 x7 x8 x9 = true := by
  refine ⟨awake15.1, ?_⟩
  have h := halfE x4 x5 x6 x7 x8 x9
  obtain ⟨k, hk⟩ := numKey (ggxDensityOk x3 x4 x5 x6 x7 x8 x9)
  have e := (feq_iff (S25_0 R x3 x4 x5 x6 x7 x8 x9) (S25_0 R x3 x4 x5 x6 x7 x8 x9)).2 ⟨k, k, hk, hk, rfl⟩
  have e' : R.feq (S25_0 R x3 x4 x5 x6 x7 x8 x9) (S25_0 R x3 x4 x5 x6 x7 x8 x9) = true := e
  unfold S5_0
  rw [awake15.2, h.1, h.2.1, h.2.2.1, h.2.2.2, isRefl, (ggxEvalE x0 x3 x4 x5 x6 x7 x8 x9).1, (ggxEvalE x1 x3 x4 x5 x6 x7 x8 x9).2.1, (ggxEvalE x2 x3 x4 x5 x6 x7 x8 x9).2.2, rgbIsRefl, ggxDensityE, e']
  cases S21_3 R x4 x5 x6 x7 x8 x9 <;> rfl
end Go.Proofs.Ytinhoalnkhpdoaa
