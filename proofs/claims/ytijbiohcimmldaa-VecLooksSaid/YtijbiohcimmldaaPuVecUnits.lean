/- The law VecUnits over floats alone: the program's lengths and directions are the reference's. -/
import Derived.Test.YtijbiohcimmldaaPuVecProducts
namespace Go.Proofs.Ytijbiohcimmldaa
open Go.Ev

theorem numbers (x : Fl) : S31_0 R x = S32_0 R x := number_iff x

theorem law_VecUnits (x0 x1 x2 : Fl) : S4_0 R x0 x1 x2 = true := by
  have l : S18_0 R x0 x1 x2 = S16_0 R (S10_0 R x0 x1 x2 x0 x1 x2) := rfl
  have l2 : S17_0 R x0 x1 x2 = S10_0 R x0 x1 x2 x0 x1 x2 := rfl
  simp only [S4_0, S14_0, S14_1, S14_2, S14_3, S15_0, S15_1, S15_2, S15_3, S11_0, same8, awake02, l, l2, numbers, same_self, if_true]
  generalize S16_0 R (S10_0 R x0 x1 x2 x0 x1 x2) = n
  cases (ford n (cls 0) == some .gt) <;> cases S32_0 R n <;> simp only [Bool.not_true, Bool.not_false, if_true, Bool.false_eq_true, if_false, same_self, beq_self_eq_true]
end Go.Proofs.Ytijbiohcimmldaa
