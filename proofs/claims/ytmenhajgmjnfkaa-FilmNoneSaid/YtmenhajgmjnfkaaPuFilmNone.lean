/- The law FilmNone over floats and numbers alone. -/
import Derived.Test.YtmenhajgmjnfkaaAw
namespace Go.Proofs.Ytmenhajgmjnfkaa
open Go.Ev

theorem law_FilmNone (x0 x1 : Int) (_x2 _x3 _x4 : Fl) (_k0 : okInt .i64 x0) (_k1 : okInt .i64 x1) : O5 R = true ∧ S5_0 R = true := by
  refine ⟨aw_O7, ?_⟩
  unfold S5_0
  rw [aw_S7_0]
  kernel_rfl

end Go.Proofs.Ytmenhajgmjnfkaa
