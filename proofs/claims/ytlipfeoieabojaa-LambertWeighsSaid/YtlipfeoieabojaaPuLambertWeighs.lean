/- The law LambertWeighs over floats alone. -/
import Derived.Test.YtlipfeoieabojaaCm
namespace Go.Proofs.Ytlipfeoieabojaa
open Go.Ev

theorem awake14 : O7 R = true ∧ S7_0 R = true := ⟨by kernel_rfl, by kernel_rfl⟩

theorem law_LambertWeighs (x0 x1 x2 _x3 _x4 x5 x6 x7 x8 : Fl) : O5 R x5 x6 x7 x8 = true ∧ S5_0 R x0 x1 x2 x5 x6 x7 x8 = true := by
  have hs : ∀ a b : Fl, S29_0 R a b = S17_0 R a b ∧ S29_1 R a b = S17_1 R a b ∧ S29_2 R a b = S17_2 R a b := fun _ _ => ⟨rfl, rfl, rfl⟩
  constructor
  · simp only [O5, awake14]
    cases (ford (S11_0 R x5 x6 x7 x8) (cls 0) == some .gt) <;> rfl
  · simp only [S5_0, S16_0, S16_1, S16_2, S20_0, awake14, lambertDensityE, lambertEvalE, hs]
    cases (ford (S11_0 R x5 x6 x7 x8) (cls 0) == some .gt) with
    | false => exact rgbIsRefl _ _ _
    | true => exact rgbIsRefl _ _ _
end Go.Proofs.Ytlipfeoieabojaa
