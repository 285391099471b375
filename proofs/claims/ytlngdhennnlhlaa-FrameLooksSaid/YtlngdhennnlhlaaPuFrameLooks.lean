/- The law FrameLooks over floats alone: how vectors stand to a frame's direction. -/
import Derived.Test.YtlngdhennnlhlaaSp
namespace Go.Proofs.Ytlngdhennnlhlaa
open Go.Ev

theorem awake03 : S21_0 R = true := by kernel_rfl

theorem same10 (x y : Fl) : S10_0 R x y = same x y := rfl

theorem law_FrameLooks (x0 x1 x2 _x3 _x4 x5 : Fl) : S8_0 R x0 x1 x2 x5 = true := by
  have t : S38_0 R x0 = R.fsub (R.fc 0) x0 ∧ S38_1 R x1 = R.fsub (R.fc 0) x1 ∧ S38_2 R x2 = x2 ∧ S37_0 R x2 = x2 := ⟨rfl, rfl, rfl, rfl⟩
  have u : S39_0 R x2 x5 = (R.fgt x2 (R.fc 0) && R.fgt x5 (R.fc 0)) := by
    show (if (R.fgt x2 (R.fc 0) : Bool) = true then (R.fgt x5 (R.fc 0) : Bool) else false) = _
    cases (R.fgt x2 (R.fc 0) : Bool) <;> rfl
  simp only [S8_0, S25_0, same10, awake03, t, u, same_self, if_true]
  by_cases h1 : ford x2 (cls 0) = some .gt <;> by_cases h2 : ford x5 (cls 0) = some .gt <;> simp [h1, h2]
end Go.Proofs.Ytlngdhennnlhlaa
