/- The law GgxDraws over floats alone. -/
import Derived.Test.YtinhoalnkhpdoaaCm
namespace Go.Proofs.Ytinhoalnkhpdoaa
open Go.Ev

theorem awake15 : O6 R = true ∧ S6_0 R = true := ⟨by kernel_rfl, by kernel_rfl⟩

theorem law_GgxDraws (x0 x1 x2 x3 x4 x5 : Fl) : O4 R x5 = true ∧ S4_0 R x0 x1 x2 x3 x4 x5 = true := by
  obtain ⟨o, e0, e1, e2, e3, h⟩ := ggxSampleE x0 x1 x2 x3 x4 x5
  have bs : ∀ b : Bool, R.beq b b = true := fun b => by cases b <;> rfl
  unfold O4 S4_0
  rw [o, e0, e1, e2, e3, awake15.1, awake15.2, isRefl, bs]
  refine ⟨rfl, ?_⟩
  cases g : S18_3 R x0 x1 x2 x3 x4 x5 with
  | false => rfl
  | true =>
    rw [(h g).1]
    rfl
end Go.Proofs.Ytinhoalnkhpdoaa
