/- The law BoxGrows over floats alone. -/
import Derived.Test.YtlafnmdefhpeeaaCm
namespace Go.Proofs.Ytlafnmdefhpeeaa
open Go.Ev

theorem law_BoxGrows (x0 x1 x2 x3 x4 x5 x6 x7 x8 x9 x10 x11 x12 x13 x14 x15 x16 x17 x18 x19 x20 : Fl) : S4_0 R x0 x1 x2 x3 x4 x5 x6 x7 x8 x9 x10 x11 x12 x13 x14 x15 x16 x17 x18 x19 x20 = true := by
  simp only [S4_0, awake04, boxEmptyE, boxJoinE, boxGrowE, boxOfE, rboxRefl, if_true]
end Go.Proofs.Ytlafnmdefhpeeaa
