/- The law BoxThrough over floats alone. -/
import Derived.Test.YtlafnmdefhpeeaaCm
namespace Go.Proofs.Ytlafnmdefhpeeaa
open Go.Ev

theorem law_BoxThrough (x0 x1 x2 x3 x4 x5 x6 x7 x8 x9 x10 x11 : Fl) : S3_0 R x0 x1 x2 x3 x4 x5 x6 x7 x8 x9 x10 x11 = true := by
  simp only [S3_0, awake04, throughE, sameE, same_self, beq_self_eq_true, if_true]
end Go.Proofs.Ytlafnmdefhpeeaa
