/- The law TriLooks over floats alone. -/
import Derived.Test.YtnkpmpghoblkjaaCm
namespace Go.Proofs.Ytnkpmpghoblkjaa
open Go.Ev

theorem law_TriLooks (x0 x1 x2 x3 x4 x5 x6 x7 x8 x9 x10 : Fl) : S5_0 R x0 x1 x2 x3 x4 x5 x6 x7 x8 x9 x10 = true := by
  simp only [S5_0, S23_0, awake10, triNormalE, triAreaE, edgesE, triAtE, isRefl, sameE, same_self, beq_self_eq_true, if_true]
end Go.Proofs.Ytnkpmpghoblkjaa
