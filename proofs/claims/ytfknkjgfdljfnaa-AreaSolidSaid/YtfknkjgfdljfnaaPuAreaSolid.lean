/- The law AreaSolid over floats alone. -/
import Derived.Test.YtfknkjgfdljfnaaCm
namespace Go.Proofs.Ytfknkjgfdljfnaa
open Go.Ev

theorem awake11 : S11_0 R = true := by kernel_rfl

theorem law_AreaSolid (x0 x1 x2 x3 x4 x5 x6 x7 x8 x9 x10 x11 x12 x13 x14 : Fl) : S4_0 R x0 x1 x2 x3 x4 x5 x6 x7 x8 x9 x10 x11 x12 x13 x14 = true := by
  obtain ⟨g, n⟩ := solidOk x0 x1 x2 x3 x4 x5 x6 x7 x8 x9 x10 x11 x12 x13 x14
  have e : ford (S23_0 R x0 x1 x2 x3 x4 x5 x6 x7 x8 x9 x10 x11 x12 x13 x14) (S23_0 R x0 x1 x2 x3 x4 x5 x6 x7 x8 x9 x10 x11 x12 x13 x14) = some .eq := by rcases g with g | g <;> exact (ford_some g).1
  simp only [S4_0, awake11, lookE, isRefl, cosineE, solidE, sameE, same_self, e, n]
  rcases g with g | g <;> rw [g] <;> simp
end Go.Proofs.Ytfknkjgfdljfnaa
