/- The check that comes first in each statement comes to true, value by value. -/
import Derived.Test.YtmenhajgmjnfkaaSp
namespace Go.Proofs.Ytmenhajgmjnfkaa
open Go.Ev

theorem aw_WS7_0_0 : WS7_0_0 R = ([[.f (some 0), .f (some 0), .f (some 0), .z 0, .z 0], [.f (some 0), .f (some 0), .f (some 0), .z 0, .z 0]] : Row) := by
  unfold WS7_0_0
  kernel_rfl
theorem aw_WS7_0_1 : WS7_0_1 R = ((some 4607182418800017408) : Fl) := by
  unfold WS7_0_1
  simp only [aw_WS7_0_0]
  kernel_rfl
theorem aw_WS7_0_2 : WS7_0_2 R = ((some 0) : Fl) := by
  unfold WS7_0_2
  simp only [aw_WS7_0_0]
  kernel_rfl
theorem aw_WS7_0_3 : WS7_0_3 R = ((some 0) : Fl) := by
  unfold WS7_0_3
  simp only [aw_WS7_0_0]
  kernel_rfl
theorem aw_WS7_0_4 : WS7_0_4 R = ([[.f (some 0), .f (some 0), .f (some 0), .z 0, .z 0], [.f (some 4607182418800017408), .f (some 0), .f (some 0), .z 0, .z 0]] : Row) := by
  unfold WS7_0_4
  simp only [aw_WS7_0_0, aw_WS7_0_1, aw_WS7_0_2, aw_WS7_0_3]
  kernel_rfl
theorem aw_WS7_0_5 : WS7_0_5 R = ([[.f (some 0), .f (some 0), .f (some 0), .z 0, .z 0], [.f (some 4607182418800017408), .f (some 0), .f (some 0), .z 1, .z 0]] : Row) := by
  unfold WS7_0_5
  simp only [aw_WS7_0_1, aw_WS7_0_2, aw_WS7_0_3, aw_WS7_0_4, aw_WS7_0_0]
  kernel_rfl
theorem aw_WS7_0_6 : WS7_0_6 R = ((some 4616189618054758400) : Fl) := by
  unfold WS7_0_6
  simp only [aw_WS7_0_5]
  kernel_rfl
theorem aw_WS7_0_7 : WS7_0_7 R = ((some 0) : Fl) := by
  unfold WS7_0_7
  simp only [aw_WS7_0_5]
  kernel_rfl
theorem aw_WS7_0_8 : WS7_0_8 R = ((some 0) : Fl) := by
  unfold WS7_0_8
  simp only [aw_WS7_0_5]
  kernel_rfl
theorem aw_WS7_0_9 : WS7_0_9 R = ([[.f (some 0), .f (some 0), .f (some 0), .z 0, .z 0], [.f (some 4616189618054758400), .f (some 0), .f (some 0), .z 1, .z 0]] : Row) := by
  unfold WS7_0_9
  simp only [aw_WS7_0_5, aw_WS7_0_6, aw_WS7_0_7, aw_WS7_0_8]
  kernel_rfl
theorem aw_WS7_0_10 : WS7_0_10 R = ([[.f (some 0), .f (some 0), .f (some 0), .z 0, .z 0], [.f (some 4616189618054758400), .f (some 0), .f (some 0), .z 2, .z 0]] : Row) := by
  unfold WS7_0_10
  simp only [aw_WS7_0_6, aw_WS7_0_7, aw_WS7_0_8, aw_WS7_0_9, aw_WS7_0_5]
  kernel_rfl
theorem aw_WS7_0_11 : WS7_0_11 R = ((some 4613937818241073152) : Fl) := by
  unfold WS7_0_11
  simp only [aw_WS7_0_10]
  kernel_rfl
theorem aw_WS7_0_12 : WS7_0_12 R = ((some 0) : Fl) := by
  unfold WS7_0_12
  simp only [aw_WS7_0_10]
  kernel_rfl
theorem aw_WS7_0_13 : WS7_0_13 R = ((some 0) : Fl) := by
  unfold WS7_0_13
  simp only [aw_WS7_0_10]
  kernel_rfl
theorem aw_WS7_0_14 : WS7_0_14 R = ([[.f (some 0), .f (some 0), .f (some 0), .z 0, .z 0], [.f (some 4613937818241073152), .f (some 0), .f (some 0), .z 2, .z 0]] : Row) := by
  unfold WS7_0_14
  simp only [aw_WS7_0_10, aw_WS7_0_11, aw_WS7_0_12, aw_WS7_0_13]
  kernel_rfl
theorem aw_WS7_0_15 : WS7_0_15 R = ([[.f (some 0), .f (some 0), .f (some 0), .z 0, .z 0], [.f (some 4616189618054758400), .f (some 0), .f (some 0), .z 2, .z 1]] : Row) := by
  unfold WS7_0_15
  simp only [aw_WS7_0_11, aw_WS7_0_12, aw_WS7_0_13, aw_WS7_0_14, aw_WS7_0_10]
  kernel_rfl
theorem aw_WS7_0_16 : WS7_0_16 R = ([.l [[.f (some 0)], [.f (some 0)], [.f (some 0)], [.f (some 4608683618675807573)], [.f (some 0)], [.f (some 0)]], .z 2] : List (PD R)) := by
  unfold WS7_0_16
  simp only [aw_WS7_0_15]
  exact (runL_sound (n := 3000) (by kernel_rfl)).2
theorem aw_S7_0 : S7_0 R = (true : Bool) := by
  unfold S7_0
  simp only [aw_WS7_0_15, aw_WS7_0_16]
  kernel_rfl
theorem aw_WO7_0 : WO7_0 R = (true : Bool) := by
  unfold WO7_0
  kernel_rfl
theorem aw_WO7_1 : WO7_1 R = ([[.f (some 0), .f (some 0), .f (some 0), .z 0, .z 0], [.f (some 0), .f (some 0), .f (some 0), .z 0, .z 0]] : Row) := by
  unfold WO7_1
  kernel_rfl
theorem aw_WO7_2 : WO7_2 R = ((some 4607182418800017408) : Fl) := by
  unfold WO7_2
  simp only [aw_WO7_1]
  kernel_rfl
theorem aw_WO7_3 : WO7_3 R = ((some 0) : Fl) := by
  unfold WO7_3
  simp only [aw_WO7_1]
  kernel_rfl
theorem aw_WO7_4 : WO7_4 R = ((some 0) : Fl) := by
  unfold WO7_4
  simp only [aw_WO7_1]
  kernel_rfl
theorem aw_WO7_5 : WO7_5 R = ([[.f (some 0), .f (some 0), .f (some 0), .z 0, .z 0], [.f (some 4607182418800017408), .f (some 0), .f (some 0), .z 0, .z 0]] : Row) := by
  unfold WO7_5
  simp only [aw_WO7_1, aw_WO7_2, aw_WO7_3, aw_WO7_4]
  kernel_rfl
theorem aw_WO7_6 : WO7_6 R = ([[.f (some 0), .f (some 0), .f (some 0), .z 0, .z 0], [.f (some 4607182418800017408), .f (some 0), .f (some 0), .z 1, .z 0]] : Row) := by
  unfold WO7_6
  simp only [aw_WO7_2, aw_WO7_3, aw_WO7_4, aw_WO7_5, aw_WO7_1]
  kernel_rfl
theorem aw_WO7_7 : WO7_7 R = ((some 4616189618054758400) : Fl) := by
  unfold WO7_7
  simp only [aw_WO7_6]
  kernel_rfl
theorem aw_WO7_8 : WO7_8 R = ((some 0) : Fl) := by
  unfold WO7_8
  simp only [aw_WO7_6]
  kernel_rfl
theorem aw_WO7_9 : WO7_9 R = ((some 0) : Fl) := by
  unfold WO7_9
  simp only [aw_WO7_6]
  kernel_rfl
theorem aw_WO7_10 : WO7_10 R = ([[.f (some 0), .f (some 0), .f (some 0), .z 0, .z 0], [.f (some 4616189618054758400), .f (some 0), .f (some 0), .z 1, .z 0]] : Row) := by
  unfold WO7_10
  simp only [aw_WO7_6, aw_WO7_7, aw_WO7_8, aw_WO7_9]
  kernel_rfl
theorem aw_WO7_11 : WO7_11 R = ([[.f (some 0), .f (some 0), .f (some 0), .z 0, .z 0], [.f (some 4616189618054758400), .f (some 0), .f (some 0), .z 2, .z 0]] : Row) := by
  unfold WO7_11
  simp only [aw_WO7_7, aw_WO7_8, aw_WO7_9, aw_WO7_10, aw_WO7_6]
  kernel_rfl
theorem aw_WO7_12 : WO7_12 R = ((some 4613937818241073152) : Fl) := by
  unfold WO7_12
  simp only [aw_WO7_11]
  kernel_rfl
theorem aw_WO7_13 : WO7_13 R = ((some 0) : Fl) := by
  unfold WO7_13
  simp only [aw_WO7_11]
  kernel_rfl
theorem aw_WO7_14 : WO7_14 R = ((some 0) : Fl) := by
  unfold WO7_14
  simp only [aw_WO7_11]
  kernel_rfl
theorem aw_WO7_15 : WO7_15 R = ([[.f (some 0), .f (some 0), .f (some 0), .z 0, .z 0], [.f (some 4613937818241073152), .f (some 0), .f (some 0), .z 2, .z 0]] : Row) := by
  unfold WO7_15
  simp only [aw_WO7_11, aw_WO7_12, aw_WO7_13, aw_WO7_14]
  kernel_rfl
theorem aw_WO7_16 : WO7_16 R = ([[.f (some 0), .f (some 0), .f (some 0), .z 0, .z 0], [.f (some 4616189618054758400), .f (some 0), .f (some 0), .z 2, .z 1]] : Row) := by
  unfold WO7_16
  simp only [aw_WO7_12, aw_WO7_13, aw_WO7_14, aw_WO7_15, aw_WO7_11]
  kernel_rfl
theorem aw_WO7_17 : WO7_17 R = (true : Bool) := by
  unfold WO7_17
  simp only [aw_WO7_16]
  exact (runL_sound (n := 3000) (q := ([.l [[.f (some 0)], [.f (some 0)], [.f (some 0)], [.f (some 4608683618675807573)], [.f (some 0)], [.f (some 0)]], .z 2] : List (PD R))) (by kernel_rfl)).1
theorem aw_WO7_18 : WO7_18 R = (true : Bool) := by
  unfold WO7_18
  simp only [aw_WO7_16]
  kernel_rfl
theorem aw_WO7_19 : WO7_19 R = (true : Bool) := by
  unfold WO7_19
  simp only [aw_WO7_18, aw_WO7_16]
  kernel_rfl
theorem aw_WO7_20 : WO7_20 R = ([.l [[.f (some 0)], [.f (some 0)], [.f (some 0)], [.f (some 4608683618675807573)], [.f (some 0)], [.f (some 0)]], .z 2] : List (PD R)) := by
  unfold WO7_20
  simp only [aw_WO7_16]
  exact (runL_sound (n := 3000) (by kernel_rfl)).2
theorem aw_WO7_21 : WO7_21 R = (true : Bool) := by
  unfold WO7_21
  simp only [aw_WO7_19, aw_WO7_16, aw_WO7_20]
  kernel_rfl
theorem aw_WO7_22 : WO7_22 R = (true : Bool) := by
  unfold WO7_22
  simp only [aw_WO7_20]
  kernel_rfl
theorem aw_O7 : O7 R = (true : Bool) := by
  unfold O7
  simp only [aw_WO7_0, aw_WO7_17, aw_WO7_18, aw_WO7_19, aw_WO7_21, aw_WO7_22, aw_WO7_20]
  kernel_rfl

end Go.Proofs.Ytmenhajgmjnfkaa
