/- The law VecProducts over floats alone: the program's products are the reference's. -/
import Derived.Test.YtijbiohcimmldaaSp
namespace Go.Proofs.Ytijbiohcimmldaa
open Go.Ev

theorem awake02 : S7_0 R = true := by kernel_rfl

theorem same8 (x y : Fl) : S8_0 R x y = same x y := rfl

theorem dot_comm (x0 x1 x2 x3 x4 x5 : Fl) : S9_0 R x0 x1 x2 x3 x4 x5 = S9_0 R x3 x4 x5 x0 x1 x2 := by
  have h : ∀ x y : Fl, S40_0 R x y = S40_0 R y x := fmul_comm
  simp only [S9_0, S23_0, S23_1, S23_2]
  rw [h x0, h x1, h x2]

theorem law_VecProducts (x0 x1 x2 x3 x4 x5 : Fl) : S3_0 R x0 x1 x2 x3 x4 x5 = true := by
  have h : S9_0 R x0 x1 x2 x3 x4 x5 = S10_0 R x0 x1 x2 x3 x4 x5 := rfl
  have t : S12_0 R x1 x2 x4 x5 = S13_0 R x1 x2 x4 x5 ∧ S12_1 R x0 x2 x3 x5 = S13_1 R x0 x2 x3 x5 ∧ S12_2 R x0 x1 x3 x4 = S13_2 R x0 x1 x3 x4 := ⟨rfl, rfl, rfl⟩
  simp only [S3_0, S11_0, same8, awake02, t]
  rw [dot_comm x3 x4 x5 x0 x1 x2, ← h]
  simp only [same_self, if_true]
end Go.Proofs.Ytijbiohcimmldaa
