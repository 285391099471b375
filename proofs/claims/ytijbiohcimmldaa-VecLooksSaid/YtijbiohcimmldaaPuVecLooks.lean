/- The law VecLooks over floats and whole numbers alone: finite numbers, parts, and whether two are the same. -/
import Derived.Test.YtijbiohcimmldaaPuVecUnits
namespace Go.Proofs.Ytijbiohcimmldaa
open Go.Ev

theorem isit (a0 a1 a2 a3 a4 a5 : Fl) : S34_0 R a0 a1 a2 a3 a4 a5 = S11_0 R a0 a1 a2 a3 a4 a5 := by
  simp only [S34_0, S41_0, S11_0, S8_0]
  cases (ford a0 a3 == some .eq) <;> cases (ford a1 a4 == some .eq) <;> cases (ford a2 a5 == some .eq) <;> rfl

theorem finites (a0 a1 a2 : Fl) : S29_0 R a0 a1 a2 = S30_0 R a0 a1 a2 := by
  simp only [S29_0, S30_0, numbers]

theorem law_VecLooks (x0 x1 x2 x3 x4 x5 : Fl) (x6 : Int) (_k6 : okInt .i64 x6) : S6_0 R x0 x1 x2 x3 x4 x5 x6 = true := by
  simp only [S6_0, S33_0, isit, finites, numbers, awake02, same8]
  have h : S11_0 R x0 x1 x2 x0 x1 x2 = true := by simp only [S11_0, same8, same_self, if_true]
  rw [h]
  by_cases a : (x6 == 0) = true <;> by_cases b : (x6 == 1) = true <;> simp only [a, b, Bool.false_eq_true, if_true, if_false, same_self, beq_self_eq_true]
end Go.Proofs.Ytijbiohcimmldaa
