/- What awake computes. -/
import Derived.Test.YtpgjkadicdccnaaSp
namespace Go.Proofs.Ytpgjkadicdccnaa
open Go.Ev

theorem aw_WS7_0_0 : WS7_0_0 R = ([.z 0, .z 0, .z 4, .z 2] : List (PD R)) := by
  unfold WS7_0_0
  exact (runL_sound (n := 3000) (by kernel_rfl)).2
theorem aw_WS7_0_1 : WS7_0_1 R = ([[.z 1], [.z 3]] : Row) := by
  unfold WS7_0_1
  kernel_rfl
theorem aw_WS7_0_2 : WS7_0_2 R = (4 : Int) := by
  unfold WS7_0_2
  simp only [aw_WS7_0_0]
  kernel_rfl
theorem aw_WS7_0_3 : WS7_0_3 R = ([.l [[.z 0]], .l [[.z 1]], .z 2, .l [[.z 4, .z 0], [.z 4, .z 1]], .l [[.z 2], [.z 6]]] : List (PD R)) := by
  unfold WS7_0_3
  simp only [aw_WS7_0_2]
  exact (runL_sound (n := 3000) (by kernel_rfl)).2
theorem aw_WS7_0_4 : WS7_0_4 R = ([.l [], .l [[.z 1]], .l [[.z 2], [.z 4]], .l [[.z 2, .z 1], [.z 4, .z 1]]] : List (PD R)) := by
  unfold WS7_0_4
  simp only [aw_WS7_0_2, aw_WS7_0_3]
  exact (runL_sound (n := 3000) (by kernel_rfl)).2
theorem aw_WS7_0_5 : WS7_0_5 R = ([.z 2, .z 8] : List (PD R)) := by
  unfold WS7_0_5
  simp only [aw_WS7_0_1, aw_WS7_0_2, aw_WS7_0_4]
  exact (runL_sound (n := 3000) (by kernel_rfl)).2
theorem aw_WS7_0_6 : WS7_0_6 R = (8 : Int) := by
  unfold WS7_0_6
  simp only [aw_WS7_0_1, aw_WS7_0_2]
  kernel_rfl
theorem aw_WS7_0_7 : WS7_0_7 R = (7 : Int) := by
  unfold WS7_0_7
  simp only [aw_WS7_0_6]
  kernel_rfl
theorem aw_S7_0 : S7_0 R = (true : Bool) := by
  unfold S7_0
  simp only [aw_WS7_0_0, aw_WS7_0_5, aw_WS7_0_2, aw_WS7_0_6, aw_WS7_0_4, aw_WS7_0_7, aw_WS7_0_1]
  kernel_rfl
theorem aw_WO7_0 : WO7_0 R = (true : Bool) := by
  unfold WO7_0
  exact (runL_sound (n := 3000) (q := ([.z 0, .z 0, .z 4, .z 2] : List (PD R))) (by kernel_rfl)).1
theorem aw_WO7_1 : WO7_1 R = ([.z 0, .z 0, .z 4, .z 2] : List (PD R)) := by
  unfold WO7_1
  exact (runL_sound (n := 3000) (by kernel_rfl)).2
theorem aw_WO7_2 : WO7_2 R = (2 : Int) := by
  unfold WO7_2
  kernel_rfl
theorem aw_WO7_3 : WO7_3 R = (true : Bool) := by
  unfold WO7_3
  kernel_rfl
theorem aw_WO7_4 : WO7_4 R = (4 : Int) := by
  unfold WO7_4
  simp only [aw_WO7_1]
  kernel_rfl
theorem aw_WO7_5 : WO7_5 R = ([[.z 0, .z 0], [.z 0, .z 0]] : Row) := by
  unfold WO7_5
  kernel_rfl
theorem aw_WO7_6 : WO7_6 R = (true : Bool) := by
  unfold WO7_6
  simp only [aw_WO7_4, aw_WO7_5]
  exact (runL_sound (n := 3000) (q := ([.l [[.z 0]], .l [[.z 1]], .z 2, .l [[.z 4, .z 0], [.z 4, .z 1]], .l [[.z 2], [.z 6]]] : List (PD R))) (by kernel_rfl)).1
theorem aw_WO7_7 : WO7_7 R = ([.l [[.z 0]], .l [[.z 1]], .z 2, .l [[.z 4, .z 0], [.z 4, .z 1]], .l [[.z 2], [.z 6]]] : List (PD R)) := by
  unfold WO7_7
  simp only [aw_WO7_4, aw_WO7_5]
  exact (runL_sound (n := 3000) (by kernel_rfl)).2
theorem aw_WO7_8 : WO7_8 R = (true : Bool) := by
  unfold WO7_8
  simp only [aw_WO7_4, aw_WO7_7]
  exact (runL_sound (n := 3000) (q := ([.l [], .l [[.z 1]], .l [[.z 2], [.z 4]], .l [[.z 2, .z 1], [.z 4, .z 1]]] : List (PD R))) (by kernel_rfl)).1
theorem aw_WO7_9 : WO7_9 R = ([.l [], .l [[.z 1]], .l [[.z 2], [.z 4]], .l [[.z 2, .z 1], [.z 4, .z 1]]] : List (PD R)) := by
  unfold WO7_9
  simp only [aw_WO7_4, aw_WO7_7]
  exact (runL_sound (n := 3000) (by kernel_rfl)).2
theorem aw_WO7_10 : WO7_10 R = (true : Bool) := by
  unfold WO7_10
  simp only [aw_WO7_2, aw_WO7_4, aw_WO7_9]
  exact (runL_sound (n := 3000) (q := ([.z 2, .z 8] : List (PD R))) (by kernel_rfl)).1
theorem aw_WO7_11 : WO7_11 R = ([.z 2, .z 8] : List (PD R)) := by
  unfold WO7_11
  simp only [aw_WO7_2, aw_WO7_4, aw_WO7_9]
  exact (runL_sound (n := 3000) (by kernel_rfl)).2
theorem aw_WO7_12 : WO7_12 R = (true : Bool) := by
  unfold WO7_12
  simp only [aw_WO7_11, aw_WO7_4]
  kernel_rfl
theorem aw_WO7_13 : WO7_13 R = (true : Bool) := by
  unfold WO7_13
  simp only [aw_WO7_2, aw_WO7_4]
  kernel_rfl
theorem aw_WO7_14 : WO7_14 R = (false : Bool) := by
  unfold WO7_14
  simp only [aw_WO7_4]
  kernel_rfl
theorem aw_WO7_15 : WO7_15 R = (false : Bool) := by
  unfold WO7_15
  simp only [aw_WO7_4, aw_WO7_9]
  kernel_rfl
theorem aw_WO7_16 : WO7_16 R = (true : Bool) := by
  unfold WO7_16
  simp only [aw_WO7_12, aw_WO7_13, aw_WO7_15, aw_WO7_4, aw_WO7_9]
  kernel_rfl
theorem aw_WO7_17 : WO7_17 R = ((some 4620603145689581486) : Fl) := by
  unfold WO7_17
  simp only [aw_WO7_2, aw_WO7_4]
  kernel_rfl
theorem aw_WO7_18 : WO7_18 R = (7 : Int) := by
  unfold WO7_18
  simp only [aw_WO7_17, aw_WO7_2, aw_WO7_4]
  kernel_rfl
theorem aw_WO7_19 : WO7_19 R = (false : Bool) := by
  unfold WO7_19
  simp only [aw_WO7_18, aw_WO7_2, aw_WO7_4]
  kernel_rfl
theorem aw_WO7_20 : WO7_20 R = (true : Bool) := by
  unfold WO7_20
  simp only [aw_WO7_18, aw_WO7_4]
  kernel_rfl
theorem aw_WO7_21 : WO7_21 R = (true : Bool) := by
  unfold WO7_21
  simp only [aw_WO7_18, aw_WO7_4, aw_WO7_9]
  kernel_rfl
theorem aw_O7 : O7 R = (true : Bool) := by
  unfold O7
  simp only [aw_WO7_0, aw_WO7_1, aw_WO7_2, aw_WO7_3, aw_WO7_6, aw_WO7_8, aw_WO7_10, aw_WO7_12, aw_WO7_13, aw_WO7_4, aw_WO7_14, aw_WO7_15, aw_WO7_16, aw_WO7_17, aw_WO7_19, aw_WO7_20, aw_WO7_21, aw_WO7_18, aw_WO7_9]
  kernel_rfl

end Go.Proofs.Ytpgjkadicdccnaa
