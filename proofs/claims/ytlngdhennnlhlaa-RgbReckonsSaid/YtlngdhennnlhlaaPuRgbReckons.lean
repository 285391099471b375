/- The law RgbReckons over floats alone: the program's sums and products of lights are the reference's. -/
import Derived.Test.YtlngdhennnlhlaaSp
namespace Go.Proofs.Ytlngdhennnlhlaa
open Go.Ev

theorem awake05 : O9 R = true ∧ S9_0 R = true := ⟨by kernel_rfl, by kernel_rfl⟩

theorem same10 (x y : Fl) : S10_0 R x y = same x y := rfl

theorem law_RgbReckons (x0 x1 x2 x3 x4 x5 x6 : Fl) : O7 R = true ∧ S7_0 R x0 x1 x2 x3 x4 x5 x6 = true := by
  refine ⟨awake05.1, ?_⟩
  have t : ∀ (a b : Fl), S20_0 R a b = S31_0 R a b ∧ S20_1 R a b = S31_1 R a b ∧ S20_2 R a b = S31_2 R a b ∧ S32_0 R a b = S33_0 R a b ∧ S32_1 R a b = S33_1 R a b ∧ S32_2 R a b = S33_2 R a b ∧
    S34_0 R a b = S35_0 R a b ∧ S34_1 R a b = S35_1 R a b ∧ S34_2 R a b = S35_2 R a b := fun _ _ => ⟨rfl, rfl, rfl, rfl, rfl, rfl, rfl, rfl, rfl⟩
  have u : ∀ (a : Fl), S36_0 R a = a ∧ S36_1 R a = a ∧ S36_2 R a = a := fun _ => ⟨rfl, rfl, rfl⟩
  simp only [S7_0, S30_0, same10, awake05.2, t, u, same_self, if_true]
end Go.Proofs.Ytlngdhennnlhlaa
