/- What awake comes to, value by value. -/
import Derived.Test.YtachcmfgjjoimaaAl
namespace Go.Proofs.Ytachcmfgjjoimaa
open Go.Ev

set_option maxRecDepth 100000

theorem in0 : E0 R (R.zc 0) (R.zc 0) (R.zc 0) = true ∧ L0 R (R.zc 0) (R.zc 0) (R.zc 0) = [.z 0, .z 0] := runL_sound (n := 300) (q := ([.z 0, .z 0] : List (PD R))) (by kernel_rfl)
theorem in1 : E0 R (R.zc 1) (R.zc 0) (R.zc 0) = true ∧ L0 R (R.zc 1) (R.zc 0) (R.zc 0) = [.z 0, .z 1] := runL_sound (n := 300) (q := ([.z 0, .z 1] : List (PD R))) (by kernel_rfl)
theorem ofL1 : E1 R (R.fc 0) (R.fc 0) (R.fc 0) (R.fc 4607182418800017408) (R.fc 0) (R.fc 0) (R.fc 0) (R.fc 4611686018427387904) (R.fc 0) (R.fc 0) (R.fc 0) (R.fc 0) (R.fc 4607182418800017408) (R.fc 0) (R.fc 0) (R.fc 0) (R.fc 4611686018427387904) (R.fc 0) (R.fc 4607182418800017408) (R.fc 4607182418800017408) (R.fc 4607182418800017408) (R.fc 4613937818241073152) (R.fc 4613937818241073152) (R.fc 4613937818241073152) R.lnil (R.zc 0) (R.zc 0) = true ∧ L1 R (R.fc 0) (R.fc 0) (R.fc 0) (R.fc 4607182418800017408) (R.fc 0) (R.fc 0) (R.fc 0) (R.fc 4611686018427387904) (R.fc 0) (R.fc 0) (R.fc 0) (R.fc 0) (R.fc 4607182418800017408) (R.fc 0) (R.fc 0) (R.fc 0) (R.fc 4611686018427387904) (R.fc 0) (R.fc 4607182418800017408) (R.fc 4607182418800017408) (R.fc 4607182418800017408) (R.fc 4613937818241073152) (R.fc 4613937818241073152) (R.fc 4613937818241073152) R.lnil (R.zc 0) (R.zc 0) = [.l [[.z 16], [.z 48]], .z 0, .z 2] := by
  refine ends_path (step := G1 R (R.fc 0) (R.fc 0) (R.fc 0) (R.fc 4607182418800017408) (R.fc 0) (R.fc 0) (R.fc 0) (R.fc 4611686018427387904) (R.fc 0) (R.fc 0) (R.fc 0) (R.fc 0) (R.fc 4607182418800017408) (R.fc 0) (R.fc 0) (R.fc 0) (R.fc 4611686018427387904) (R.fc 0) (R.fc 4607182418800017408) (R.fc 4607182418800017408) (R.fc 4607182418800017408) (R.fc 4613937818241073152) (R.fc 4613937818241073152) (R.fc 4613937818241073152)) (p := [.l R.lnil, .z (R.zc 0), .z (R.zc 0)]) (fun j => match j with | 0 => [.l [], .z 0, .z 0] | 1 => [.l [[.z 16]], .z 0, .z 1] | _ => [.l [[.z 16], [.z 48]], .z 0, .z 2]) 2 rfl (fun j hj => ?_) rfl
  match j, hj with
  | 0, _ =>
    show (C1 R (R.fc 0) (R.fc 0) (R.fc 0) (R.fc 4607182418800017408) (R.fc 0) (R.fc 0) (R.fc 0) (R.fc 4611686018427387904) (R.fc 0) (R.fc 0) (R.fc 0) (R.fc 0) (R.fc 4607182418800017408) (R.fc 0) (R.fc 0) (R.fc 0) (R.fc 4611686018427387904) (R.fc 0) (R.fc 4607182418800017408) (R.fc 4607182418800017408) (R.fc 4607182418800017408) (R.fc 4613937818241073152) (R.fc 4613937818241073152) (R.fc 4613937818241073152) [] 0, O1_ R (R.fc 0) (R.fc 0) (R.fc 0) (R.fc 4607182418800017408) (R.fc 0) (R.fc 0) (R.fc 0) (R.fc 4611686018427387904) (R.fc 0) (R.fc 0) (R.fc 0) (R.fc 0) (R.fc 4607182418800017408) (R.fc 0) (R.fc 0) (R.fc 0) (R.fc 4611686018427387904) (R.fc 0) (R.fc 4607182418800017408) (R.fc 4607182418800017408) (R.fc 4607182418800017408) (R.fc 4613937818241073152) (R.fc 4613937818241073152) (R.fc 4613937818241073152) [] 0, [PV.l (N1_0 R (R.fc 0) (R.fc 0) (R.fc 0) (R.fc 4607182418800017408) (R.fc 0) (R.fc 0) (R.fc 0) (R.fc 4611686018427387904) (R.fc 0) (R.fc 0) (R.fc 0) (R.fc 0) (R.fc 4607182418800017408) (R.fc 0) (R.fc 0) (R.fc 0) (R.fc 4611686018427387904) (R.fc 0) (R.fc 4607182418800017408) (R.fc 4607182418800017408) (R.fc 4607182418800017408) (R.fc 4613937818241073152) (R.fc 4613937818241073152) (R.fc 4613937818241073152) [] 0), .z (N1_1 R (R.fc 4607182418800017408) (R.fc 4607182418800017408) (R.fc 4607182418800017408) (R.fc 4613937818241073152) (R.fc 4613937818241073152) (R.fc 4613937818241073152) 0 0), .z (N1_2 R (R.fc 4607182418800017408) (R.fc 4607182418800017408) (R.fc 4607182418800017408) (R.fc 4613937818241073152) (R.fc 4613937818241073152) (R.fc 4613937818241073152) 0)]) = (true, true, [PV.l [[.z 16]], .z 0, .z 1])
    unfold C1 O1_ N1_0 N1_1 N1_2 WC1_4 WC1_3 WC1_2 WC1_1 WC1_0 WO1__3 WO1__2 WO1__1 WO1__0
    rw [show R.zite (R.zeq (0 : Int) (R.zc 0)) (R.zc 0) (R.zc 1) = R.zc 0 from rfl, in0.1, in0.2]
    kernel_rfl
  | 1, _ =>
    show (C1 R (R.fc 0) (R.fc 0) (R.fc 0) (R.fc 4607182418800017408) (R.fc 0) (R.fc 0) (R.fc 0) (R.fc 4611686018427387904) (R.fc 0) (R.fc 0) (R.fc 0) (R.fc 0) (R.fc 4607182418800017408) (R.fc 0) (R.fc 0) (R.fc 0) (R.fc 4611686018427387904) (R.fc 0) (R.fc 4607182418800017408) (R.fc 4607182418800017408) (R.fc 4607182418800017408) (R.fc 4613937818241073152) (R.fc 4613937818241073152) (R.fc 4613937818241073152) [[.z 16]] 1, O1_ R (R.fc 0) (R.fc 0) (R.fc 0) (R.fc 4607182418800017408) (R.fc 0) (R.fc 0) (R.fc 0) (R.fc 4611686018427387904) (R.fc 0) (R.fc 0) (R.fc 0) (R.fc 0) (R.fc 4607182418800017408) (R.fc 0) (R.fc 0) (R.fc 0) (R.fc 4611686018427387904) (R.fc 0) (R.fc 4607182418800017408) (R.fc 4607182418800017408) (R.fc 4607182418800017408) (R.fc 4613937818241073152) (R.fc 4613937818241073152) (R.fc 4613937818241073152) [[.z 16]] 1, [PV.l (N1_0 R (R.fc 0) (R.fc 0) (R.fc 0) (R.fc 4607182418800017408) (R.fc 0) (R.fc 0) (R.fc 0) (R.fc 4611686018427387904) (R.fc 0) (R.fc 0) (R.fc 0) (R.fc 0) (R.fc 4607182418800017408) (R.fc 0) (R.fc 0) (R.fc 0) (R.fc 4611686018427387904) (R.fc 0) (R.fc 4607182418800017408) (R.fc 4607182418800017408) (R.fc 4607182418800017408) (R.fc 4613937818241073152) (R.fc 4613937818241073152) (R.fc 4613937818241073152) [[.z 16]] 1), .z (N1_1 R (R.fc 4607182418800017408) (R.fc 4607182418800017408) (R.fc 4607182418800017408) (R.fc 4613937818241073152) (R.fc 4613937818241073152) (R.fc 4613937818241073152) 0 1), .z (N1_2 R (R.fc 4607182418800017408) (R.fc 4607182418800017408) (R.fc 4607182418800017408) (R.fc 4613937818241073152) (R.fc 4613937818241073152) (R.fc 4613937818241073152) 1)]) = (true, true, [PV.l [[.z 16], [.z 48]], .z 0, .z 2])
    unfold C1 O1_ N1_0 N1_1 N1_2 WC1_4 WC1_3 WC1_2 WC1_1 WC1_0 WO1__3 WO1__2 WO1__1 WO1__0
    rw [show R.zite (R.zeq (1 : Int) (R.zc 0)) (R.zc 0) (R.zc 1) = R.zc 1 from rfl, in1.1, in1.2]
    kernel_rfl

theorem aw_WS6_0_0 : WS6_0_0 R = ([.l [[.z 16], [.z 48]], .z 0, .z 2] : List (PD R)) := by
  unfold WS6_0_0
  exact ofL1.2
theorem aw_WS6_0_1 : WS6_0_1 R = (false : Bool) := by
  unfold WS6_0_1
  rw [aw_WS6_0_0]
  kernel_rfl
theorem aw_WS6_0_2 : WS6_0_2 R = (false : Bool) := by
  unfold WS6_0_2
  rw [aw_WS6_0_0]
  kernel_rfl
theorem aw_WS6_0_3 : WS6_0_3 R = ([.z 0, .z 0, .z 64, .z 2] : List (PD R)) := by
  unfold WS6_0_3
  rw [aw_WS6_0_0]
  exact (runL_sound (n := 3000) (by kernel_rfl)).2
theorem aw_WS6_0_4 : WS6_0_4 R = (false : Bool) := by
  unfold WS6_0_4
  rw [aw_WS6_0_3, aw_WS6_0_0]
  kernel_rfl
theorem aw_WS6_0_5 : WS6_0_5 R = (false : Bool) := by
  unfold WS6_0_5
  rw [aw_WS6_0_0]
  kernel_rfl
theorem aw_WS6_0_6 : WS6_0_6 R = (false : Bool) := by
  unfold WS6_0_6
  rw [aw_WS6_0_5, aw_WS6_0_3]
  kernel_rfl
theorem aw_WS6_0_7 : WS6_0_7 R = (false : Bool) := by
  unfold WS6_0_7
  rw [aw_WS6_0_2, aw_WS6_0_4, aw_WS6_0_6, aw_WS6_0_5]
  kernel_rfl
theorem aw_WS6_0_8 : WS6_0_8 R = (2 : Int) := by
  unfold WS6_0_8
  rw [aw_WS6_0_7, aw_WS6_0_0]
  kernel_rfl
theorem aw_WS6_0_9 : WS6_0_9 R = (64 : Int) := by
  unfold WS6_0_9
  rw [aw_WS6_0_2, aw_WS6_0_4, aw_WS6_0_6, aw_WS6_0_3]
  kernel_rfl
theorem aw_WS6_0_10 : WS6_0_10 R = (128 : Int) := by
  unfold WS6_0_10
  rw [aw_WS6_0_8, aw_WS6_0_7, aw_WS6_0_9]
  kernel_rfl
theorem aw_WS6_0_11 : WS6_0_11 R = (126 : Int) := by
  unfold WS6_0_11
  rw [aw_WS6_0_10]
  kernel_rfl
theorem aw_WS6_0_12 : WS6_0_12 R = ([.l [[.z 0]], .l [[.z 1]], .z 2, .l [[.z 64, .z 0], [.z 64, .z 1]], .l [[.z 32], [.z 96]]] : List (PD R)) := by
  unfold WS6_0_12
  rw [aw_WS6_0_0, aw_WS6_0_9]
  exact (runL_sound (n := 3000) (by kernel_rfl)).2
theorem aw_WS6_0_13 : WS6_0_13 R = ([.l [], .l [[.z 1]], .l [[.z 32], [.z 64]], .l [[.z 32, .z 1], [.z 64, .z 1]]] : List (PD R)) := by
  unfold WS6_0_13
  rw [aw_WS6_0_9, aw_WS6_0_0, aw_WS6_0_12]
  exact (runL_sound (n := 3000) (by kernel_rfl)).2
theorem aw_WS6_0_14 : WS6_0_14 R = ([[.z 0, .f (some 4607182418800017408), .f (some 4607182418800017408), .f (some 4607182418800017408)], [.z 1, .f (some 4613937818241073152), .f (some 4613937818241073152), .f (some 4613937818241073152)]] : Row) := by
  unfold WS6_0_14
  kernel_rfl
theorem aw_WS6_0_15 : WS6_0_15 R = ([.z 0, .z 1] : List (PD R)) := by
  unfold WS6_0_15
  rw [aw_WS6_0_14, aw_WS6_0_0]
  exact (runL_sound (n := 3000) (by kernel_rfl)).2
theorem aw_WS6_0_16 : WS6_0_16 R = (false : Bool) := by
  unfold WS6_0_16
  rw [aw_WS6_0_1, aw_WS6_0_14]
  kernel_rfl
theorem aw_WS6_0_17 : WS6_0_17 R = (false : Bool) := by
  unfold WS6_0_17
  rw [aw_WS6_0_16]
  kernel_rfl
theorem aw_WS6_0_18 : WS6_0_18 R = ([[.f (some 0), .f (some 0), .f (some 0), .f (some 4607182418800017408), .f (some 0), .f (some 0), .f (some 0), .f (some 4611686018427387904), .f (some 0)], [.f (some 0), .f (some 0), .f (some 0), .f (some 4607182418800017408), .f (some 0), .f (some 0), .f (some 0), .f (some 4611686018427387904), .f (some 0)]] : Row) := by
  unfold WS6_0_18
  kernel_rfl
theorem aw_WS6_0_19 : WS6_0_19 R = (1 : Int) := by
  unfold WS6_0_19
  rw [aw_WS6_0_16, aw_WS6_0_14]
  kernel_rfl
theorem aw_WS6_0_20 : WS6_0_20 R = ((some 4613937818241073152) : Fl) := by
  unfold WS6_0_20
  rw [aw_WS6_0_16, aw_WS6_0_14]
  kernel_rfl
theorem aw_WS6_0_21 : WS6_0_21 R = (true : Bool) := by
  unfold WS6_0_21
  rw [aw_WS6_0_1, aw_WS6_0_8, aw_WS6_0_0, aw_WS6_0_9, aw_WS6_0_11, aw_WS6_0_10, aw_WS6_0_13, aw_WS6_0_15, aw_WS6_0_14, aw_WS6_0_17, aw_WS6_0_18, aw_WS6_0_19, aw_WS6_0_20]
  kernel_rfl
theorem aw_S6_0 : S6_0 R = (true : Bool) := by
  unfold S6_0
  rw [aw_WS6_0_0, aw_WS6_0_1, aw_WS6_0_21, aw_WS6_0_17, aw_WS6_0_18, aw_WS6_0_19, aw_WS6_0_20]
  kernel_rfl
theorem aw_WO6_0 : WO6_0 R = (true : Bool) := by
  unfold WO6_0
  exact ofL1.1
theorem aw_WO6_1 : WO6_1 R = ([.l [[.z 16], [.z 48]], .z 0, .z 2] : List (PD R)) := by
  unfold WO6_1
  exact ofL1.2
theorem aw_WO6_2 : WO6_2 R = ([[.f (some 0), .f (some 0), .f (some 0), .f (some 4607182418800017408), .f (some 0), .f (some 0), .f (some 0), .f (some 4611686018427387904), .f (some 0)], [.f (some 0), .f (some 0), .f (some 0), .f (some 4607182418800017408), .f (some 0), .f (some 0), .f (some 0), .f (some 4611686018427387904), .f (some 0)]] : Row) := by
  unfold WO6_2
  kernel_rfl
theorem aw_WO6_3 : WO6_3 R = ([[.z 0, .f (some 4607182418800017408), .f (some 4607182418800017408), .f (some 4607182418800017408)], [.z 1, .f (some 4613937818241073152), .f (some 4613937818241073152), .f (some 4613937818241073152)]] : Row) := by
  unfold WO6_3
  kernel_rfl
theorem aw_WO6_4 : WO6_4 R = (false : Bool) := by
  unfold WO6_4
  rw [aw_WO6_1]
  kernel_rfl
theorem aw_WO6_5 : WO6_5 R = (true : Bool) := by
  unfold WO6_5
  rw [aw_WO6_1]
  exact (runL_sound (n := 3000) (q := ([.z 0, .z 0, .z 64, .z 2] : List (PD R))) (by kernel_rfl)).1
theorem aw_WO6_6 : WO6_6 R = ([.z 0, .z 0, .z 64, .z 2] : List (PD R)) := by
  unfold WO6_6
  rw [aw_WO6_1]
  exact (runL_sound (n := 3000) (by kernel_rfl)).2
theorem aw_WO6_7 : WO6_7 R = (false : Bool) := by
  unfold WO6_7
  rw [aw_WO6_6, aw_WO6_1]
  kernel_rfl
theorem aw_WO6_8 : WO6_8 R = (false : Bool) := by
  unfold WO6_8
  rw [aw_WO6_1]
  kernel_rfl
theorem aw_WO6_9 : WO6_9 R = (false : Bool) := by
  unfold WO6_9
  rw [aw_WO6_8, aw_WO6_6]
  kernel_rfl
theorem aw_WO6_10 : WO6_10 R = (false : Bool) := by
  unfold WO6_10
  rw [aw_WO6_4, aw_WO6_7, aw_WO6_9, aw_WO6_8]
  kernel_rfl
theorem aw_WO6_11 : WO6_11 R = (true : Bool) := by
  unfold WO6_11
  rw [aw_WO6_1]
  kernel_rfl
theorem aw_WO6_12 : WO6_12 R = (true : Bool) := by
  unfold WO6_12
  rw [aw_WO6_1, aw_WO6_11]
  kernel_rfl
theorem aw_WO6_13 : WO6_13 R = (64 : Int) := by
  unfold WO6_13
  rw [aw_WO6_4, aw_WO6_7, aw_WO6_9, aw_WO6_6]
  kernel_rfl
theorem aw_WO6_14 : WO6_14 R = ([[.z 0, .z 0], [.z 0, .z 0]] : Row) := by
  unfold WO6_14
  rw [aw_WO6_1]
  kernel_rfl
theorem aw_WO6_15 : WO6_15 R = ([[.z 0], [.z 0]] : Row) := by
  unfold WO6_15
  rw [aw_WO6_1]
  kernel_rfl
theorem aw_WO6_16 : WO6_16 R = (true : Bool) := by
  unfold WO6_16
  rw [aw_WO6_1, aw_WO6_13, aw_WO6_14, aw_WO6_15]
  exact (runL_sound (n := 3000) (q := ([.l [[.z 0]], .l [[.z 1]], .z 2, .l [[.z 64, .z 0], [.z 64, .z 1]], .l [[.z 32], [.z 96]]] : List (PD R))) (by kernel_rfl)).1
theorem aw_WO6_17 : WO6_17 R = ([.l [[.z 0]], .l [[.z 1]], .z 2, .l [[.z 64, .z 0], [.z 64, .z 1]], .l [[.z 32], [.z 96]]] : List (PD R)) := by
  unfold WO6_17
  rw [aw_WO6_1, aw_WO6_13, aw_WO6_14, aw_WO6_15]
  exact (runL_sound (n := 3000) (by kernel_rfl)).2
theorem aw_WO6_18 : WO6_18 R = (true : Bool) := by
  unfold WO6_18
  rw [aw_WO6_13, aw_WO6_1, aw_WO6_17]
  exact (runL_sound (n := 3000) (q := ([.l [], .l [[.z 1]], .l [[.z 32], [.z 64]], .l [[.z 32, .z 1], [.z 64, .z 1]]] : List (PD R))) (by kernel_rfl)).1
theorem aw_WO6_19 : WO6_19 R = (true : Bool) := by
  unfold WO6_19
  rw [aw_WO6_1]
  kernel_rfl
theorem aw_WO6_20 : WO6_20 R = (true : Bool) := by
  unfold WO6_20
  rw [aw_WO6_1]
  kernel_rfl
theorem aw_WO6_21 : WO6_21 R = (true : Bool) := by
  unfold WO6_21
  rw [aw_WO6_1, aw_WO6_10]
  kernel_rfl
theorem aw_WO6_22 : WO6_22 R = (true : Bool) := by
  unfold WO6_22
  rw [aw_WO6_10, aw_WO6_21]
  kernel_rfl
theorem aw_WO6_23 : WO6_23 R = (2 : Int) := by
  unfold WO6_23
  rw [aw_WO6_10, aw_WO6_1]
  kernel_rfl
theorem aw_WO6_24 : WO6_24 R = (true : Bool) := by
  unfold WO6_24
  rw [aw_WO6_21, aw_WO6_10]
  kernel_rfl
theorem aw_WO6_25 : WO6_25 R = (true : Bool) := by
  unfold WO6_25
  rw [aw_WO6_19, aw_WO6_23, aw_WO6_1, aw_WO6_13]
  kernel_rfl
theorem aw_WO6_26 : WO6_26 R = (true : Bool) := by
  unfold WO6_26
  rw [aw_WO6_25, aw_WO6_19, aw_WO6_23, aw_WO6_1, aw_WO6_13]
  kernel_rfl
theorem aw_WO6_27 : WO6_27 R = (128 : Int) := by
  unfold WO6_27
  rw [aw_WO6_23, aw_WO6_10, aw_WO6_13]
  kernel_rfl
theorem aw_WO6_28 : WO6_28 R = ((some 4638617544199063470) : Fl) := by
  unfold WO6_28
  rw [aw_WO6_27]
  kernel_rfl
theorem aw_WO6_29 : WO6_29 R = (126 : Int) := by
  unfold WO6_29
  rw [aw_WO6_28, aw_WO6_27]
  kernel_rfl
theorem aw_WO6_30 : WO6_30 R = (false : Bool) := by
  unfold WO6_30
  rw [aw_WO6_29, aw_WO6_27]
  kernel_rfl
theorem aw_WO6_31 : WO6_31 R = (true : Bool) := by
  unfold WO6_31
  rw [aw_WO6_29, aw_WO6_13, aw_WO6_1]
  kernel_rfl
theorem aw_WO6_32 : WO6_32 R = ([.l [], .l [[.z 1]], .l [[.z 32], [.z 64]], .l [[.z 32, .z 1], [.z 64, .z 1]]] : List (PD R)) := by
  unfold WO6_32
  rw [aw_WO6_13, aw_WO6_1, aw_WO6_17]
  exact (runL_sound (n := 3000) (by kernel_rfl)).2
theorem aw_WO6_33 : WO6_33 R = (true : Bool) := by
  unfold WO6_33
  rw [aw_WO6_29, aw_WO6_13, aw_WO6_32]
  kernel_rfl
theorem aw_WO6_34 : WO6_34 R = (true : Bool) := by
  unfold WO6_34
  rw [aw_WO6_26, aw_WO6_19, aw_WO6_30, aw_WO6_33, aw_WO6_29, aw_WO6_13, aw_WO6_32]
  kernel_rfl
theorem aw_WO6_35 : WO6_35 R = (true : Bool) := by
  unfold WO6_35
  rw [aw_WO6_3, aw_WO6_20]
  exact (runL_sound (n := 3000) (q := ([.z 0, .z 1] : List (PD R))) (by kernel_rfl)).1
theorem aw_WO6_36 : WO6_36 R = ([.z 0, .z 1] : List (PD R)) := by
  unfold WO6_36
  rw [aw_WO6_3, aw_WO6_20]
  exact (runL_sound (n := 3000) (by kernel_rfl)).2
theorem aw_WO6_37 : WO6_37 R = (true : Bool) := by
  unfold WO6_37
  rw [aw_WO6_34, aw_WO6_19, aw_WO6_36, aw_WO6_3]
  kernel_rfl
theorem aw_WO6_38 : WO6_38 R = (true : Bool) := by
  unfold WO6_38
  rw [aw_WO6_19, aw_WO6_20]
  kernel_rfl
theorem aw_WO6_39 : WO6_39 R = (true : Bool) := by
  unfold WO6_39
  rw [aw_WO6_37, aw_WO6_19, aw_WO6_3]
  kernel_rfl
theorem aw_WO6_40 : WO6_40 R = (false : Bool) := by
  unfold WO6_40
  rw [aw_WO6_19]
  kernel_rfl
theorem aw_WO6_41 : WO6_41 R = (false : Bool) := by
  unfold WO6_41
  rw [aw_WO6_40, aw_WO6_3]
  kernel_rfl
theorem aw_WO6_42 : WO6_42 R = (false : Bool) := by
  unfold WO6_42
  rw [aw_WO6_41]
  kernel_rfl
theorem aw_WO6_43 : WO6_43 R = (1 : Int) := by
  unfold WO6_43
  rw [aw_WO6_41, aw_WO6_3]
  kernel_rfl
theorem aw_WO6_44 : WO6_44 R = (true : Bool) := by
  unfold WO6_44
  rw [aw_WO6_40, aw_WO6_19, aw_WO6_20, aw_WO6_41, aw_WO6_3, aw_WO6_42, aw_WO6_43, aw_WO6_2]
  kernel_rfl
theorem aw_WO6_45 : WO6_45 R = (true : Bool) := by
  unfold WO6_45
  rw [aw_WO6_26, aw_WO6_19, aw_WO6_20, aw_WO6_22, aw_WO6_28, aw_WO6_29, aw_WO6_30, aw_WO6_10, aw_WO6_21, aw_WO6_13, aw_WO6_31, aw_WO6_33, aw_WO6_34, aw_WO6_35, aw_WO6_37, aw_WO6_38, aw_WO6_39, aw_WO6_44, aw_WO6_42, aw_WO6_2, aw_WO6_43, aw_WO6_41, aw_WO6_3]
  kernel_rfl
theorem aw_O6 : O6 R = (true : Bool) := by
  unfold O6
  rw [aw_WO6_0, aw_WO6_1, aw_WO6_2, aw_WO6_3, aw_WO6_4, aw_WO6_5, aw_WO6_10, aw_WO6_11, aw_WO6_12, aw_WO6_16, aw_WO6_18, aw_WO6_19, aw_WO6_20, aw_WO6_22, aw_WO6_23, aw_WO6_21, aw_WO6_24, aw_WO6_25, aw_WO6_45]
  kernel_rfl

end Go.Proofs.Ytachcmfgjjoimaa
