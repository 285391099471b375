/- The law EnvNone over floats alone. -/
import Derived.Test.YtjmanmdkdgnfmaaAw
namespace Go.Proofs.Ytjmanmdkdgnfmaa
open Go.Ev

theorem law_EnvNone (_x0 _x1 _x2 _x3 _x4 _x5 : Fl) : O6 R = true ∧ S6_0 R = true := by
  have ow := aw_O7
  have sw := aw_S7_0
  unfold O6 S6_0
  rw [ow, sw]
  exact ⟨by kernel_rfl, by kernel_rfl⟩

end Go.Proofs.Ytjmanmdkdgnfmaa
