/- What must come at any rate, value by value. PRINTED BY A PROGRAM OF THIS PROJECT (wip/ev2/aw.py). -/
import Derived.Test.YtjmanmdkdgnfmaaSp
namespace Go.Proofs.Ytjmanmdkdgnfmaa
open Go.Ev

def rowLit7_0 : Row := [[.f (some 4607182418800017408), .f (some 4607182418800017408), .f (some 4607182418800017408)], [.f (some 4607182418800017408), .f (some 4607182418800017408), .f (some 4607182418800017408)], [.f (some 4607182418800017408), .f (some 4607182418800017408), .f (some 4607182418800017408)], [.f (some 4607182418800017408), .f (some 4607182418800017408), .f (some 4607182418800017408)], [.f (some 4607182418800017408), .f (some 4607182418800017408), .f (some 4607182418800017408)], [.f (some 4607182418800017408), .f (some 4607182418800017408), .f (some 4607182418800017408)], [.f (some 4607182418800017408), .f (some 4607182418800017408), .f (some 4607182418800017408)], [.f (some 4607182418800017408), .f (some 4607182418800017408), .f (some 4607182418800017408)]]
theorem aw_WS7_0_0 : WS7_0_0 R = ([.l rowLit7_0, .z 8, .z 1] : List (PD R)) := by
  unfold WS7_0_0
  exact (runL_sound (n := 3000) (by kernel_rfl)).2
theorem aw_WS7_0_1 : WS7_0_1 R = ([.l [[.z 16], [.z 16], [.z 16], [.z 16], [.z 16], [.z 16], [.z 16], [.z 16]], .z 0, .z 8] : List (PD R)) := by
  unfold WS7_0_1
  rw [aw_WS7_0_0]
  exact (runL_sound (n := 3000) (by kernel_rfl)).2
theorem aw_WS7_0_2 : WS7_0_2 R = (false : Bool) := by
  unfold WS7_0_2
  rw [aw_WS7_0_1]
  kernel_rfl
theorem aw_WS7_0_3 : WS7_0_3 R = ([.z 0, .z 0, .z 128, .z 8] : List (PD R)) := by
  unfold WS7_0_3
  rw [aw_WS7_0_1]
  exact (runL_sound (n := 3000) (by kernel_rfl)).2
theorem aw_WS7_0_4 : WS7_0_4 R = (false : Bool) := by
  unfold WS7_0_4
  rw [aw_WS7_0_3, aw_WS7_0_1]
  kernel_rfl
theorem aw_WS7_0_5 : WS7_0_5 R = (false : Bool) := by
  unfold WS7_0_5
  rw [aw_WS7_0_1]
  kernel_rfl
theorem aw_WS7_0_6 : WS7_0_6 R = (false : Bool) := by
  unfold WS7_0_6
  rw [aw_WS7_0_5, aw_WS7_0_3]
  kernel_rfl
theorem aw_WS7_0_7 : WS7_0_7 R = ((some 4602678819172646912) : Fl) := by
  unfold WS7_0_7
  rw [aw_WS7_0_0]
  kernel_rfl
theorem aw_WS7_0_8 : WS7_0_8 R = (true : Bool) := by
  unfold WS7_0_8
  rw [aw_WS7_0_7]
  kernel_rfl
theorem aw_WS7_0_9 : WS7_0_9 R = (0 : Int) := by
  unfold WS7_0_9
  rw [aw_WS7_0_0]
  kernel_rfl
theorem aw_WS7_0_10 : WS7_0_10 R = (0 : Int) := by
  unfold WS7_0_10
  rw [aw_WS7_0_8, aw_WS7_0_7, aw_WS7_0_0, aw_WS7_0_9]
  kernel_rfl
theorem aw_WS7_0_11 : WS7_0_11 R = (128 : Int) := by
  unfold WS7_0_11
  rw [aw_WS7_0_2, aw_WS7_0_4, aw_WS7_0_6, aw_WS7_0_3]
  kernel_rfl
theorem aw_WS7_0_12 : WS7_0_12 R = (1024 : Int) := by
  unfold WS7_0_12
  rw [aw_WS7_0_1, aw_WS7_0_11]
  kernel_rfl
theorem aw_WS7_0_13 : WS7_0_13 R = (0 : Int) := by
  unfold WS7_0_13
  rw [aw_WS7_0_12]
  kernel_rfl
theorem aw_WS7_0_14 : WS7_0_14 R = ([.l [], .l [[.z 0], [.z 1], [.z 2], [.z 3], [.z 4], [.z 5], [.z 6], [.z 7]], .z 8, .l [[.z 128, .z 0], [.z 128, .z 1], [.z 128, .z 2], [.z 128, .z 3], [.z 128, .z 4], [.z 128, .z 5], [.z 128, .z 6], [.z 128, .z 7]], .l [[.z 128], [.z 128], [.z 128], [.z 128], [.z 128], [.z 128], [.z 128], [.z 128]]] : List (PD R)) := by
  unfold WS7_0_14
  rw [aw_WS7_0_1, aw_WS7_0_11]
  exact (runL_sound (n := 3000) (by kernel_rfl)).2
theorem aw_WS7_0_15 : WS7_0_15 R = ([.l [], .l [[.z 0], [.z 1], [.z 2], [.z 3], [.z 4], [.z 5], [.z 6], [.z 7]], .l [[.z 128], [.z 128], [.z 128], [.z 128], [.z 128], [.z 128], [.z 128], [.z 128]], .l [[.z 128, .z 0], [.z 128, .z 1], [.z 128, .z 2], [.z 128, .z 3], [.z 128, .z 4], [.z 128, .z 5], [.z 128, .z 6], [.z 128, .z 7]]] : List (PD R)) := by
  unfold WS7_0_15
  rw [aw_WS7_0_11, aw_WS7_0_1, aw_WS7_0_14]
  exact (runL_sound (n := 3000) (by kernel_rfl)).2
theorem aw_WS7_0_16 : WS7_0_16 R = (0 : Int) := by
  unfold WS7_0_16
  rw [aw_WS7_0_13, aw_WS7_0_12, aw_WS7_0_11, aw_WS7_0_15]
  kernel_rfl
theorem aw_WS7_0_17 : WS7_0_17 R = ((some 0) : Fl) := by
  unfold WS7_0_17
  rw [aw_WS7_0_16]
  kernel_rfl
theorem aw_WS7_0_18 : WS7_0_18 R = ((some 0) : Fl) := by
  unfold WS7_0_18
  rw [aw_WS7_0_17]
  kernel_rfl
theorem aw_WS7_0_19 : WS7_0_19 R = ((some 0) : Fl) := by
  unfold WS7_0_19
  rw [aw_WS7_0_16, aw_WS7_0_0]
  kernel_rfl
theorem aw_WS7_0_20 : WS7_0_20 R = ((some 4607182418800017408) : Fl) := by
  unfold WS7_0_20
  rw [aw_WS7_0_19]
  kernel_rfl
theorem aw_WS7_0_21 : WS7_0_21 R = ((some 4607182418800017408) : Fl) := by
  unfold WS7_0_21
  rw [aw_WS7_0_18, aw_WS7_0_20]
  kernel_rfl
theorem aw_WS7_0_22 : WS7_0_22 R = ((some 0) : Fl) := by
  unfold WS7_0_22
  rw [aw_WS7_0_18, aw_WS7_0_20]
  kernel_rfl
theorem aw_WS7_0_23 : WS7_0_23 R = ((some 4602678819172646912) : Fl) := by
  unfold WS7_0_23
  rw [aw_WS7_0_19, aw_WS7_0_0]
  kernel_rfl
theorem aw_WS7_0_24 : WS7_0_24 R = (true : Bool) := by
  unfold WS7_0_24
  rw [aw_WS7_0_23]
  kernel_rfl
theorem aw_WS7_0_25 : WS7_0_25 R = (0 : Int) := by
  unfold WS7_0_25
  rw [aw_WS7_0_21, aw_WS7_0_22, aw_WS7_0_19, aw_WS7_0_24, aw_WS7_0_23, aw_WS7_0_0, aw_WS7_0_9]
  kernel_rfl
theorem aw_WS7_0_26 : WS7_0_26 R = (0 : Int) := by
  unfold WS7_0_26
  rw [aw_WS7_0_10]
  kernel_rfl
theorem aw_WS7_0_27 : WS7_0_27 R = ((some 0) : Fl) := by
  unfold WS7_0_27
  kernel_rfl
theorem aw_S7_0 : S7_0 R = (true : Bool) := by
  unfold S7_0
  rw [aw_WS7_0_0, aw_WS7_0_1, aw_WS7_0_2, aw_WS7_0_4, aw_WS7_0_6, aw_WS7_0_5, aw_WS7_0_10, aw_WS7_0_25, aw_WS7_0_26, aw_WS7_0_11, aw_WS7_0_27, aw_WS7_0_21, aw_WS7_0_22, aw_WS7_0_19]
  kernel_rfl
theorem aw_WO7_0 : WO7_0 R = (true : Bool) := by
  unfold WO7_0
  exact (runL_sound (n := 3000) (q := ([.l rowLit7_0, .z 8, .z 1] : List (PD R))) (by kernel_rfl)).1
theorem aw_WO7_1 : WO7_1 R = ([.l rowLit7_0, .z 8, .z 1] : List (PD R)) := by
  unfold WO7_1
  exact (runL_sound (n := 3000) (by kernel_rfl)).2
theorem aw_WO7_2 : WO7_2 R = (true : Bool) := by
  unfold WO7_2
  rw [aw_WO7_1]
  exact (runL_sound (n := 3000) (q := ([.l [[.z 16], [.z 16], [.z 16], [.z 16], [.z 16], [.z 16], [.z 16], [.z 16]], .z 0, .z 8] : List (PD R))) (by kernel_rfl)).1
theorem aw_WO7_3 : WO7_3 R = ([.l [[.z 16], [.z 16], [.z 16], [.z 16], [.z 16], [.z 16], [.z 16], [.z 16]], .z 0, .z 8] : List (PD R)) := by
  unfold WO7_3
  rw [aw_WO7_1]
  exact (runL_sound (n := 3000) (by kernel_rfl)).2
theorem aw_WO7_4 : WO7_4 R = (false : Bool) := by
  unfold WO7_4
  rw [aw_WO7_3]
  kernel_rfl
theorem aw_WO7_5 : WO7_5 R = (true : Bool) := by
  unfold WO7_5
  rw [aw_WO7_3]
  exact (runL_sound (n := 3000) (q := ([.z 0, .z 0, .z 128, .z 8] : List (PD R))) (by kernel_rfl)).1
theorem aw_WO7_6 : WO7_6 R = ([.z 0, .z 0, .z 128, .z 8] : List (PD R)) := by
  unfold WO7_6
  rw [aw_WO7_3]
  exact (runL_sound (n := 3000) (by kernel_rfl)).2
theorem aw_WO7_7 : WO7_7 R = (false : Bool) := by
  unfold WO7_7
  rw [aw_WO7_6, aw_WO7_3]
  kernel_rfl
theorem aw_WO7_8 : WO7_8 R = (false : Bool) := by
  unfold WO7_8
  rw [aw_WO7_3]
  kernel_rfl
theorem aw_WO7_9 : WO7_9 R = (false : Bool) := by
  unfold WO7_9
  rw [aw_WO7_8, aw_WO7_6]
  kernel_rfl
theorem aw_WO7_10 : WO7_10 R = (false : Bool) := by
  unfold WO7_10
  kernel_rfl
theorem aw_WO7_11 : WO7_11 R = ((some 4602678819172646912) : Fl) := by
  unfold WO7_11
  rw [aw_WO7_1]
  kernel_rfl
theorem aw_WO7_12 : WO7_12 R = (true : Bool) := by
  unfold WO7_12
  rw [aw_WO7_11]
  kernel_rfl
theorem aw_WO7_13 : WO7_13 R = (true : Bool) := by
  unfold WO7_13
  rw [aw_WO7_12, aw_WO7_11, aw_WO7_1]
  kernel_rfl
theorem aw_WO7_14 : WO7_14 R = (true : Bool) := by
  unfold WO7_14
  rw [aw_WO7_13, aw_WO7_11]
  kernel_rfl
theorem aw_WO7_15 : WO7_15 R = (true : Bool) := by
  unfold WO7_15
  rw [aw_WO7_10, aw_WO7_14]
  kernel_rfl
theorem aw_WO7_16 : WO7_16 R = (0 : Int) := by
  unfold WO7_16
  rw [aw_WO7_1]
  kernel_rfl
theorem aw_WO7_17 : WO7_17 R = (0 : Int) := by
  unfold WO7_17
  rw [aw_WO7_13, aw_WO7_12, aw_WO7_16, aw_WO7_11]
  kernel_rfl
theorem aw_WO7_18 : WO7_18 R = (true : Bool) := by
  unfold WO7_18
  rw [aw_WO7_10, aw_WO7_17]
  kernel_rfl
theorem aw_WO7_19 : WO7_19 R = (false : Bool) := by
  unfold WO7_19
  kernel_rfl
theorem aw_WO7_20 : WO7_20 R = (0 : Int) := by
  unfold WO7_20
  rw [aw_WO7_19, aw_WO7_17]
  kernel_rfl
theorem aw_WO7_21 : WO7_21 R = (false : Bool) := by
  unfold WO7_21
  kernel_rfl
theorem aw_WO7_22 : WO7_22 R = (true : Bool) := by
  unfold WO7_22
  rw [aw_WO7_21, aw_WO7_14]
  kernel_rfl
theorem aw_WO7_23 : WO7_23 R = (true : Bool) := by
  unfold WO7_23
  rw [aw_WO7_3]
  kernel_rfl
theorem aw_WO7_24 : WO7_24 R = (true : Bool) := by
  unfold WO7_24
  rw [aw_WO7_3, aw_WO7_23]
  kernel_rfl
theorem aw_WO7_25 : WO7_25 R = (128 : Int) := by
  unfold WO7_25
  rw [aw_WO7_4, aw_WO7_7, aw_WO7_9, aw_WO7_6]
  kernel_rfl
theorem aw_WO7_26 : WO7_26 R = ([[.z 0, .z 0], [.z 0, .z 0], [.z 0, .z 0], [.z 0, .z 0], [.z 0, .z 0], [.z 0, .z 0], [.z 0, .z 0], [.z 0, .z 0]] : Row) := by
  unfold WO7_26
  rw [aw_WO7_3]
  kernel_rfl
theorem aw_WO7_27 : WO7_27 R = ([[.z 0], [.z 0], [.z 0], [.z 0], [.z 0], [.z 0], [.z 0], [.z 0]] : Row) := by
  unfold WO7_27
  rw [aw_WO7_3]
  kernel_rfl
theorem aw_WO7_28 : WO7_28 R = (true : Bool) := by
  unfold WO7_28
  rw [aw_WO7_3, aw_WO7_25, aw_WO7_26, aw_WO7_27]
  exact (runL_sound (n := 3000) (q := ([.l [], .l [[.z 0], [.z 1], [.z 2], [.z 3], [.z 4], [.z 5], [.z 6], [.z 7]], .z 8, .l [[.z 128, .z 0], [.z 128, .z 1], [.z 128, .z 2], [.z 128, .z 3], [.z 128, .z 4], [.z 128, .z 5], [.z 128, .z 6], [.z 128, .z 7]], .l [[.z 128], [.z 128], [.z 128], [.z 128], [.z 128], [.z 128], [.z 128], [.z 128]]] : List (PD R))) (by kernel_rfl)).1
theorem aw_WO7_29 : WO7_29 R = ([.l [], .l [[.z 0], [.z 1], [.z 2], [.z 3], [.z 4], [.z 5], [.z 6], [.z 7]], .z 8, .l [[.z 128, .z 0], [.z 128, .z 1], [.z 128, .z 2], [.z 128, .z 3], [.z 128, .z 4], [.z 128, .z 5], [.z 128, .z 6], [.z 128, .z 7]], .l [[.z 128], [.z 128], [.z 128], [.z 128], [.z 128], [.z 128], [.z 128], [.z 128]]] : List (PD R)) := by
  unfold WO7_29
  rw [aw_WO7_3, aw_WO7_25, aw_WO7_26, aw_WO7_27]
  exact (runL_sound (n := 3000) (by kernel_rfl)).2
theorem aw_WO7_30 : WO7_30 R = (true : Bool) := by
  unfold WO7_30
  rw [aw_WO7_25, aw_WO7_3, aw_WO7_29]
  exact (runL_sound (n := 3000) (q := ([.l [], .l [[.z 0], [.z 1], [.z 2], [.z 3], [.z 4], [.z 5], [.z 6], [.z 7]], .l [[.z 128], [.z 128], [.z 128], [.z 128], [.z 128], [.z 128], [.z 128], [.z 128]], .l [[.z 128, .z 0], [.z 128, .z 1], [.z 128, .z 2], [.z 128, .z 3], [.z 128, .z 4], [.z 128, .z 5], [.z 128, .z 6], [.z 128, .z 7]]] : List (PD R))) (by kernel_rfl)).1
theorem aw_WO7_31 : WO7_31 R = (1024 : Int) := by
  unfold WO7_31
  rw [aw_WO7_3, aw_WO7_25]
  kernel_rfl
theorem aw_WO7_32 : WO7_32 R = ((some 0) : Fl) := by
  unfold WO7_32
  rw [aw_WO7_31]
  kernel_rfl
theorem aw_WO7_33 : WO7_33 R = (0 : Int) := by
  unfold WO7_33
  rw [aw_WO7_32, aw_WO7_31]
  kernel_rfl
theorem aw_WO7_34 : WO7_34 R = (false : Bool) := by
  unfold WO7_34
  rw [aw_WO7_33, aw_WO7_31]
  kernel_rfl
theorem aw_WO7_35 : WO7_35 R = (true : Bool) := by
  unfold WO7_35
  rw [aw_WO7_33, aw_WO7_25, aw_WO7_3]
  kernel_rfl
theorem aw_WO7_36 : WO7_36 R = ([.l [], .l [[.z 0], [.z 1], [.z 2], [.z 3], [.z 4], [.z 5], [.z 6], [.z 7]], .l [[.z 128], [.z 128], [.z 128], [.z 128], [.z 128], [.z 128], [.z 128], [.z 128]], .l [[.z 128, .z 0], [.z 128, .z 1], [.z 128, .z 2], [.z 128, .z 3], [.z 128, .z 4], [.z 128, .z 5], [.z 128, .z 6], [.z 128, .z 7]]] : List (PD R)) := by
  unfold WO7_36
  rw [aw_WO7_25, aw_WO7_3, aw_WO7_29]
  exact (runL_sound (n := 3000) (by kernel_rfl)).2
theorem aw_WO7_37 : WO7_37 R = (true : Bool) := by
  unfold WO7_37
  rw [aw_WO7_33, aw_WO7_25, aw_WO7_36]
  kernel_rfl
theorem aw_WO7_38 : WO7_38 R = (0 : Int) := by
  unfold WO7_38
  rw [aw_WO7_34, aw_WO7_37, aw_WO7_33, aw_WO7_25, aw_WO7_36]
  kernel_rfl
theorem aw_WO7_39 : WO7_39 R = ((some 0) : Fl) := by
  unfold WO7_39
  rw [aw_WO7_38]
  kernel_rfl
theorem aw_WO7_40 : WO7_40 R = ((some 0) : Fl) := by
  unfold WO7_40
  rw [aw_WO7_39]
  kernel_rfl
theorem aw_WO7_41 : WO7_41 R = ((some 0) : Fl) := by
  unfold WO7_41
  rw [aw_WO7_38, aw_WO7_1]
  kernel_rfl
theorem aw_WO7_42 : WO7_42 R = ((some 4607182418800017408) : Fl) := by
  unfold WO7_42
  rw [aw_WO7_41]
  kernel_rfl
theorem aw_WO7_43 : WO7_43 R = (false : Bool) := by
  unfold WO7_43
  rw [aw_WO7_40, aw_WO7_42, aw_WO7_41]
  kernel_rfl
theorem aw_WO7_44 : WO7_44 R = ((some 4602678819172646912) : Fl) := by
  unfold WO7_44
  rw [aw_WO7_41, aw_WO7_1]
  kernel_rfl
theorem aw_WO7_45 : WO7_45 R = (true : Bool) := by
  unfold WO7_45
  rw [aw_WO7_44]
  kernel_rfl
theorem aw_WO7_46 : WO7_46 R = (true : Bool) := by
  unfold WO7_46
  rw [aw_WO7_45, aw_WO7_44, aw_WO7_1]
  kernel_rfl
theorem aw_WO7_47 : WO7_47 R = (0 : Int) := by
  unfold WO7_47
  rw [aw_WO7_43, aw_WO7_46, aw_WO7_45, aw_WO7_16, aw_WO7_44, aw_WO7_40, aw_WO7_42]
  kernel_rfl
theorem aw_WO7_48 : WO7_48 R = (0 : Int) := by
  unfold WO7_48
  rw [aw_WO7_21, aw_WO7_17]
  kernel_rfl
theorem aw_WO7_49 : WO7_49 R = (true : Bool) := by
  unfold WO7_49
  rw [aw_WO7_48, aw_WO7_3]
  kernel_rfl
theorem aw_WO7_50 : WO7_50 R = (true : Bool) := by
  unfold WO7_50
  rw [aw_WO7_4, aw_WO7_7, aw_WO7_9, aw_WO7_8, aw_WO7_15, aw_WO7_18, aw_WO7_19, aw_WO7_14, aw_WO7_20, aw_WO7_1, aw_WO7_22, aw_WO7_23, aw_WO7_24, aw_WO7_28, aw_WO7_30, aw_WO7_32, aw_WO7_34, aw_WO7_25, aw_WO7_35, aw_WO7_37, aw_WO7_40, aw_WO7_43, aw_WO7_46, aw_WO7_44, aw_WO7_47, aw_WO7_48, aw_WO7_49]
  kernel_rfl
theorem aw_O7 : O7 R = (true : Bool) := by
  unfold O7
  rw [aw_WO7_0, aw_WO7_1, aw_WO7_2, aw_WO7_3, aw_WO7_4, aw_WO7_5, aw_WO7_50]
  kernel_rfl

end Go.Proofs.Ytjmanmdkdgnfmaa
