/- The functions of this seat, each with what it comes to, by the evaluator. PRINTED BY A PROGRAM OF THIS PROJECT (wip/ev/Gen.lean). -/
import Derived.Test.YtlngdhennnlhlaaEv4
import Derived.Test.YtlngdhennnlhlaaChecked
namespace Go.Proofs.Ytlngdhennnlhlaa
open Go.Ev
set_option maxRecDepth 100000

theorem prg : Ev.Prog Try.prog := ⟨by kernel_rfl, by kernel_rfl⟩
def tl_0 : List (Nat × Ev.Spec) := []
def tbl_0 (D : Dom) : Tbl D := tblOf tl_0 D
theorem tok_0 : TblOK Try.prog (tbl_0 R) := (TblOK.nil _)

-- penumbra/rgb.Mean
def S13_0 (D : Dom) (a0 : D.F) (a1 : D.F) (a2 : D.F) : D.F := (D.fdiv (D.fadd (D.fadd a0 a1) a2) (D.fc 4613937818241073152))
theorem ev13 (D : Dom) (a0 : D.F) (a1 : D.F) (a2 : D.F) : joinT (evFn Try.prog (tbl_0 D) 60 13 [.agg [.fl a0, .fl a1, .fl a2]]) = .val none (.fl (S13_0 D a0 a1 a2)) := by kernel_rfl
def sp13 : Ev.Spec := fun D l => argA l fun c0 r0 => argF c0 fun a0 r1 => argF r1 fun a1 r2 => argF r2 fun a2 r3 => arg0 r3 (arg0 r0 (.ret (.fl (S13_0 D a0 a1 a2))))
theorem en13 : ∀ l r, (sp13 R l).run = some r → Entry Try.prog 13 l r := by
  intro l r h
  obtain ⟨_, _, h, L0⟩ := argA_inv h
  obtain ⟨x1, _, h, L1⟩ := argF_inv h
  obtain ⟨x2, _, h, L2⟩ := argF_inv h
  obtain ⟨x3, _, h, L3⟩ := argF_inv h
  obtain ⟨h, L4⟩ := arg0_inv h
  obtain ⟨h, L5⟩ := arg0_inv h
  cases h
  exact (entry_of prg tok_0 (ev13 R x1 x2 x3) (fun o ho => nomatch ho) rfl).le (L0 _ _ (L1 _ (L2 _ (L3 _ L4))) L5)
def tl_13 : List (Nat × Ev.Spec) := (13, sp13) :: tl_0
def tbl_13 (D : Dom) : Tbl D := tblOf tl_13 D
theorem tok_13 : TblOK Try.prog (tbl_13 R) := TblOK.cons tok_0 en13

-- penumbra/vec.Number
def S42_0 (D : Dom) (a0 : D.F) : D.B := (D.bite (D.fge a0 (D.fc 18442240474082181119)) (D.fle a0 (D.fc 9218868437227405311)) (D.bc false))
theorem ev42 (D : Dom) (a0 : D.F) : joinT (evFn Try.prog (tbl_13 D) 60 42 [.fl a0]) = .val none (.sb (S42_0 D a0)) := by kernel_rfl
def sp42 : Ev.Spec := fun D l => argF l fun a0 r0 => arg0 r0 (.ret (.sb (S42_0 D a0)))
theorem en42 : ∀ l r, (sp42 R l).run = some r → Entry Try.prog 42 l r := by
  intro l r h
  obtain ⟨x0, _, h, L0⟩ := argF_inv h
  obtain ⟨h, L1⟩ := arg0_inv h
  cases h
  exact (entry_of prg tok_13 (ev42 R x0) (fun o ho => nomatch ho) rfl).le (L0 _ L1)
def tl_42 : List (Nat × Ev.Spec) := (42, sp42) :: tl_13
def tbl_42 (D : Dom) : Tbl D := tblOf tl_42 D
theorem tok_42 : TblOK Try.prog (tbl_42 R) := TblOK.cons tok_13 en42

-- penumbra/rgb.Good$1
def S41_0 (D : Dom) (a0 : D.F) : D.B := (D.bite (D.fge a0 (D.fc 0)) (S42_0 D a0) (D.bc false))
theorem ev41 (D : Dom) (a0 : D.F) : joinT (evFn Try.prog (tbl_42 D) 60 41 [.fl a0]) = .val none (.sb (S41_0 D a0)) := by kernel_rfl
def sp41 : Ev.Spec := fun D l => argF l fun a0 r0 => arg0 r0 (.ret (.sb (S41_0 D a0)))
theorem en41 : ∀ l r, (sp41 R l).run = some r → Entry Try.prog 41 l r := by
  intro l r h
  obtain ⟨x0, _, h, L0⟩ := argF_inv h
  obtain ⟨h, L1⟩ := arg0_inv h
  cases h
  exact (entry_of prg tok_42 (ev41 R x0) (fun o ho => nomatch ho) rfl).le (L0 _ L1)
def tl_41 : List (Nat × Ev.Spec) := (41, sp41) :: tl_42
def tbl_41 (D : Dom) : Tbl D := tblOf tl_41 D
theorem tok_41 : TblOK Try.prog (tbl_41 R) := TblOK.cons tok_42 en41

-- penumbra/rgb.Good
def S15_0 (D : Dom) (a0 : D.F) (a1 : D.F) (a2 : D.F) : D.B := (D.bite (D.bite (S41_0 D a0) (S41_0 D a1) (D.bc false)) (S41_0 D a2) (D.bc false))
theorem ev15 (D : Dom) (a0 : D.F) (a1 : D.F) (a2 : D.F) : joinT (evFn Try.prog (tbl_41 D) 60 15 [.agg [.fl a0, .fl a1, .fl a2]]) = .val none (.sb (S15_0 D a0 a1 a2)) := by kernel_rfl
def sp15 : Ev.Spec := fun D l => argA l fun c0 r0 => argF c0 fun a0 r1 => argF r1 fun a1 r2 => argF r2 fun a2 r3 => arg0 r3 (arg0 r0 (.ret (.sb (S15_0 D a0 a1 a2))))
theorem en15 : ∀ l r, (sp15 R l).run = some r → Entry Try.prog 15 l r := by
  intro l r h
  obtain ⟨_, _, h, L0⟩ := argA_inv h
  obtain ⟨x1, _, h, L1⟩ := argF_inv h
  obtain ⟨x2, _, h, L2⟩ := argF_inv h
  obtain ⟨x3, _, h, L3⟩ := argF_inv h
  obtain ⟨h, L4⟩ := arg0_inv h
  obtain ⟨h, L5⟩ := arg0_inv h
  cases h
  exact (entry_of prg tok_41 (ev15 R x1 x2 x3) (fun o ho => nomatch ho) rfl).le (L0 _ _ (L1 _ (L2 _ (L3 _ L4))) L5)
def tl_15 : List (Nat × Ev.Spec) := (15, sp15) :: tl_41
def tbl_15 (D : Dom) : Tbl D := tblOf tl_15 D
theorem tok_15 : TblOK Try.prog (tbl_15 R) := TblOK.cons tok_41 en15

-- penumbra/rgb.Black
def S17_0 (D : Dom) (a0 : D.F) (a1 : D.F) (a2 : D.F) : D.B := (D.band (D.feq a0 (D.fc 0)) (D.band (D.feq a1 (D.fc 0)) (D.band (D.feq a2 (D.fc 0)) (D.bc true))))
theorem ev17 (D : Dom) (a0 : D.F) (a1 : D.F) (a2 : D.F) : joinT (evFn Try.prog (tbl_15 D) 60 17 [.agg [.fl a0, .fl a1, .fl a2]]) = .val none (.sb (S17_0 D a0 a1 a2)) := by kernel_rfl
def sp17 : Ev.Spec := fun D l => argA l fun c0 r0 => argF c0 fun a0 r1 => argF r1 fun a1 r2 => argF r2 fun a2 r3 => arg0 r3 (arg0 r0 (.ret (.sb (S17_0 D a0 a1 a2))))
theorem en17 : ∀ l r, (sp17 R l).run = some r → Entry Try.prog 17 l r := by
  intro l r h
  obtain ⟨_, _, h, L0⟩ := argA_inv h
  obtain ⟨x1, _, h, L1⟩ := argF_inv h
  obtain ⟨x2, _, h, L2⟩ := argF_inv h
  obtain ⟨x3, _, h, L3⟩ := argF_inv h
  obtain ⟨h, L4⟩ := arg0_inv h
  obtain ⟨h, L5⟩ := arg0_inv h
  cases h
  exact (entry_of prg tok_15 (ev17 R x1 x2 x3) (fun o ho => nomatch ho) rfl).le (L0 _ _ (L1 _ (L2 _ (L3 _ L4))) L5)
def tl_17 : List (Nat × Ev.Spec) := (17, sp17) :: tl_15
def tbl_17 (D : Dom) : Tbl D := tblOf tl_17 D
theorem tok_17 : TblOK Try.prog (tbl_17 R) := TblOK.cons tok_15 en17

-- penumbra/rgb.Weight
def S18_0 (D : Dom) (a0 : D.F) (a1 : D.F) (a2 : D.F) : D.Z := (D.zite (D.bite (D.bnot (S15_0 D a0 a1 a2)) (D.bc true) (S17_0 D a0 a1 a2)) (D.zc 0) (D.zite (D.fge (D.fmul (S13_0 D a0 a1 a2) (D.fc 4625196817309499392)) (D.fc 4697254411347427328)) (D.zc 1048576) (D.zmax (D.f2i .i64 (D.fmul (S13_0 D a0 a1 a2) (D.fc 4625196817309499392))) (D.zc 1))))
def O18 (D : Dom) (a0 : D.F) (a1 : D.F) (a2 : D.F) : D.B := (D.bite (D.bite (D.bnot (S15_0 D a0 a1 a2)) (D.bc true) (S17_0 D a0 a1 a2)) (D.bc true) (D.bite (D.fge (D.fmul (S13_0 D a0 a1 a2) (D.fc 4625196817309499392)) (D.fc 4697254411347427328)) (D.bc true) (D.f2iok .i64 (D.fmul (S13_0 D a0 a1 a2) (D.fc 4625196817309499392)))))
theorem ev18 (D : Dom) (a0 : D.F) (a1 : D.F) (a2 : D.F) : joinT (evFn Try.prog (tbl_17 D) 60 18 [.agg [.fl a0, .fl a1, .fl a2]]) = .val (some (O18 D a0 a1 a2)) (.si .i64 (S18_0 D a0 a1 a2)) := by kernel_rfl
def sp18 : Ev.Spec := fun D l => argA l fun c0 r0 => argF c0 fun a0 r1 => argF r1 fun a1 r2 => argF r2 fun a2 r3 => arg0 r3 (arg0 r0 (.node (O18 D a0 a1 a2) (.ret (.si .i64 (S18_0 D a0 a1 a2))) (.fail "pre")))
theorem en18 : ∀ l r, (sp18 R l).run = some r → Entry Try.prog 18 l r := by
  intro l r h
  obtain ⟨_, _, h, L0⟩ := argA_inv h
  obtain ⟨x1, _, h, L1⟩ := argF_inv h
  obtain ⟨x2, _, h, L2⟩ := argF_inv h
  obtain ⟨x3, _, h, L3⟩ := argF_inv h
  obtain ⟨h, L4⟩ := arg0_inv h
  obtain ⟨h, L5⟩ := arg0_inv h
  obtain ⟨hok, rfl⟩ := run_okay h
  exact (entry_of prg tok_17 (ev18 R x1 x2 x3) (fun o ho => (Option.some.inj ho) ▸ hok) rfl).le (L0 _ _ (L1 _ (L2 _ (L3 _ L4))) L5)
def tl_18 : List (Nat × Ev.Spec) := (18, sp18) :: tl_17
def tbl_18 (D : Dom) : Tbl D := tblOf tl_18 D
theorem tok_18 : TblOK Try.prog (tbl_18 R) := TblOK.cons tok_17 en18

-- penumbra/rgb.Most
def S11_0 (D : Dom) (a0 : D.F) (a1 : D.F) (a2 : D.F) : D.F := (D.fite (D.fgt a2 (D.fite (D.fgt a1 a0) a1 a0)) a2 (D.fite (D.fgt a1 a0) a1 a0))
theorem ev11 (D : Dom) (a0 : D.F) (a1 : D.F) (a2 : D.F) : joinT (evFn Try.prog (tbl_18 D) 60 11 [.agg [.fl a0, .fl a1, .fl a2]]) = .val none (.fl (S11_0 D a0 a1 a2)) := by kernel_rfl
def sp11 : Ev.Spec := fun D l => argA l fun c0 r0 => argF c0 fun a0 r1 => argF r1 fun a1 r2 => argF r2 fun a2 r3 => arg0 r3 (arg0 r0 (.ret (.fl (S11_0 D a0 a1 a2))))
theorem en11 : ∀ l r, (sp11 R l).run = some r → Entry Try.prog 11 l r := by
  intro l r h
  obtain ⟨_, _, h, L0⟩ := argA_inv h
  obtain ⟨x1, _, h, L1⟩ := argF_inv h
  obtain ⟨x2, _, h, L2⟩ := argF_inv h
  obtain ⟨x3, _, h, L3⟩ := argF_inv h
  obtain ⟨h, L4⟩ := arg0_inv h
  obtain ⟨h, L5⟩ := arg0_inv h
  cases h
  exact (entry_of prg tok_18 (ev11 R x1 x2 x3) (fun o ho => nomatch ho) rfl).le (L0 _ _ (L1 _ (L2 _ (L3 _ L4))) L5)
def tl_11 : List (Nat × Ev.Spec) := (11, sp11) :: tl_18
def tbl_11 (D : Dom) : Tbl D := tblOf tl_11 D
theorem tok_11 : TblOK Try.prog (tbl_11 R) := TblOK.cons tok_18 en11

-- penumbra/rgb.Gray
def S36_0 (D : Dom) (a0 : D.F) : D.F := a0
def S36_1 (D : Dom) (a0 : D.F) : D.F := a0
def S36_2 (D : Dom) (a0 : D.F) : D.F := a0
theorem ev36 (D : Dom) (a0 : D.F) : joinT (evFn Try.prog (tbl_11 D) 60 36 [.fl a0]) = .val none (.agg [.fl (S36_0 D a0), .fl (S36_1 D a0), .fl (S36_2 D a0)]) := by kernel_rfl
def sp36 : Ev.Spec := fun D l => argF l fun a0 r0 => arg0 r0 (.ret (.agg [.fl (S36_0 D a0), .fl (S36_1 D a0), .fl (S36_2 D a0)]))
theorem en36 : ∀ l r, (sp36 R l).run = some r → Entry Try.prog 36 l r := by
  intro l r h
  obtain ⟨x0, _, h, L0⟩ := argF_inv h
  obtain ⟨h, L1⟩ := arg0_inv h
  cases h
  exact (entry_of prg tok_11 (ev36 R x0) (fun o ho => nomatch ho) rfl).le (L0 _ L1)
def tl_36 : List (Nat × Ev.Spec) := (36, sp36) :: tl_11
def tbl_36 (D : Dom) : Tbl D := tblOf tl_36 D
theorem tok_36 : TblOK Try.prog (tbl_36 R) := TblOK.cons tok_11 en36

-- penumbra/rgb.Mul$1
def S54_0 (D : Dom) (a0 : D.F) (a1 : D.F) : D.F := (D.fmul a0 a1)
theorem ev54 (D : Dom) (a0 : D.F) (a1 : D.F) : joinT (evFn Try.prog (tbl_36 D) 60 54 [.fl a0, .fl a1]) = .val none (.fl (S54_0 D a0 a1)) := by kernel_rfl
def sp54 : Ev.Spec := fun D l => argF l fun a0 r0 => argF r0 fun a1 r1 => arg0 r1 (.ret (.fl (S54_0 D a0 a1)))
theorem en54 : ∀ l r, (sp54 R l).run = some r → Entry Try.prog 54 l r := by
  intro l r h
  obtain ⟨x0, _, h, L0⟩ := argF_inv h
  obtain ⟨x1, _, h, L1⟩ := argF_inv h
  obtain ⟨h, L2⟩ := arg0_inv h
  cases h
  exact (entry_of prg tok_36 (ev54 R x0 x1) (fun o ho => nomatch ho) rfl).le (L0 _ (L1 _ L2))
def tl_54 : List (Nat × Ev.Spec) := (54, sp54) :: tl_36
def tbl_54 (D : Dom) : Tbl D := tblOf tl_54 D
theorem tok_54 : TblOK Try.prog (tbl_54 R) := TblOK.cons tok_36 en54

-- penumbra/rgb.Mul
def S32_0 (D : Dom) (a0 : D.F) (a3 : D.F) : D.F := (S54_0 D a0 a3)
def S32_1 (D : Dom) (a1 : D.F) (a4 : D.F) : D.F := (S54_0 D a1 a4)
def S32_2 (D : Dom) (a2 : D.F) (a5 : D.F) : D.F := (S54_0 D a2 a5)
theorem ev32 (D : Dom) (a0 : D.F) (a1 : D.F) (a2 : D.F) (a3 : D.F) (a4 : D.F) (a5 : D.F) : joinT (evFn Try.prog (tbl_54 D) 60 32 [.agg [.fl a0, .fl a1, .fl a2], .agg [.fl a3, .fl a4, .fl a5]]) = .val none (.agg [.fl (S32_0 D a0 a3), .fl (S32_1 D a1 a4), .fl (S32_2 D a2 a5)]) := by kernel_rfl
def sp32 : Ev.Spec := fun D l => argA l fun c0 r0 => argF c0 fun a0 r1 => argF r1 fun a1 r2 => argF r2 fun a2 r3 => arg0 r3 (argA r0 fun c100 r100 => argF c100 fun a3 r101 => argF r101 fun a4 r102 => argF r102 fun a5 r103 => arg0 r103 (arg0 r100 (.ret (.agg [.fl (S32_0 D a0 a3), .fl (S32_1 D a1 a4), .fl (S32_2 D a2 a5)]))))
theorem en32 : ∀ l r, (sp32 R l).run = some r → Entry Try.prog 32 l r := by
  intro l r h
  obtain ⟨_, _, h, L0⟩ := argA_inv h
  obtain ⟨x1, _, h, L1⟩ := argF_inv h
  obtain ⟨x2, _, h, L2⟩ := argF_inv h
  obtain ⟨x3, _, h, L3⟩ := argF_inv h
  obtain ⟨h, L4⟩ := arg0_inv h
  obtain ⟨_, _, h, L5⟩ := argA_inv h
  obtain ⟨x6, _, h, L6⟩ := argF_inv h
  obtain ⟨x7, _, h, L7⟩ := argF_inv h
  obtain ⟨x8, _, h, L8⟩ := argF_inv h
  obtain ⟨h, L9⟩ := arg0_inv h
  obtain ⟨h, L10⟩ := arg0_inv h
  cases h
  exact (entry_of prg tok_54 (ev32 R x1 x2 x3 x6 x7 x8) (fun o ho => nomatch ho) rfl).le (L0 _ _ (L1 _ (L2 _ (L3 _ L4))) (L5 _ _ (L6 _ (L7 _ (L8 _ L9))) L10))
def tl_32 : List (Nat × Ev.Spec) := (32, sp32) :: tl_54
def tbl_32 (D : Dom) : Tbl D := tblOf tl_32 D
theorem tok_32 : TblOK Try.prog (tbl_32 R) := TblOK.cons tok_54 en32

-- penumbra/penumbralaw05.awake
def S9_0 (D : Dom)  : D.B := (D.bite (D.feq (S13_0 D (D.fc 4607182418800017408) (D.fc 4611686018427387904) (D.fc 4613937818241073152)) (D.fc 4611686018427387904)) (D.bite (D.zeq (S18_0 D (D.fc 4607182418800017408) (D.fc 4611686018427387904) (D.fc 4613937818241073152)) (D.zc 32)) (D.bite (D.feq (S11_0 D (D.fc 4607182418800017408) (D.fc 4611686018427387904) (D.fc 4613937818241073152)) (D.fc 4613937818241073152)) (D.bite (S15_0 D (D.fc 4607182418800017408) (D.fc 4611686018427387904) (D.fc 4613937818241073152)) (D.bite (D.bnot (S17_0 D (D.fc 4607182418800017408) (D.fc 4611686018427387904) (D.fc 4613937818241073152))) (D.feq (S32_2 D (D.fc 4613937818241073152) (S36_2 D (D.fc 4611686018427387904))) (D.fc 4618441417868443648)) (D.bc false)) (D.bc false)) (D.bc false)) (D.bc false)) (D.bc false))
def O9 (D : Dom)  : D.B := (D.bite (D.feq (S13_0 D (D.fc 4607182418800017408) (D.fc 4611686018427387904) (D.fc 4613937818241073152)) (D.fc 4611686018427387904)) (O18 D (D.fc 4607182418800017408) (D.fc 4611686018427387904) (D.fc 4613937818241073152)) (D.bc true))
theorem ev9 (D : Dom)  : joinT (evFn Try.prog (tbl_32 D) 60 9 []) = .val (some (O9 D)) (.sb (S9_0 D)) := by kernel_rfl
def sp9 : Ev.Spec := fun D l => arg0 l (.node (O9 D) (.ret (.sb (S9_0 D))) (.fail "pre"))
theorem en9 : ∀ l r, (sp9 R l).run = some r → Entry Try.prog 9 l r := by
  intro l r h
  obtain ⟨h, L0⟩ := arg0_inv h
  obtain ⟨hok, rfl⟩ := run_okay h
  exact (entry_of prg tok_32 (ev9 R ) (fun o ho => (Option.some.inj ho) ▸ hok) rfl).le L0
def tl_9 : List (Nat × Ev.Spec) := (9, sp9) :: tl_32
def tbl_9 (D : Dom) : Tbl D := tblOf tl_9 D
theorem tok_9 : TblOK Try.prog (tbl_9 R) := TblOK.cons tok_32 en9

-- penumbra/penumbraref04.High
def S40_0 (D : Dom) (a0 : D.F) (a1 : D.F) : D.F := (D.fite (D.fgt a1 a0) a1 a0)
theorem ev40 (D : Dom) (a0 : D.F) (a1 : D.F) : joinT (evFn Try.prog (tbl_9 D) 60 40 [.fl a0, .fl a1]) = .val none (.fl (S40_0 D a0 a1)) := by kernel_rfl
def sp40 : Ev.Spec := fun D l => argF l fun a0 r0 => argF r0 fun a1 r1 => arg0 r1 (.ret (.fl (S40_0 D a0 a1)))
theorem en40 : ∀ l r, (sp40 R l).run = some r → Entry Try.prog 40 l r := by
  intro l r h
  obtain ⟨x0, _, h, L0⟩ := argF_inv h
  obtain ⟨x1, _, h, L1⟩ := argF_inv h
  obtain ⟨h, L2⟩ := arg0_inv h
  cases h
  exact (entry_of prg tok_9 (ev40 R x0 x1) (fun o ho => nomatch ho) rfl).le (L0 _ (L1 _ L2))
def tl_40 : List (Nat × Ev.Spec) := (40, sp40) :: tl_9
def tbl_40 (D : Dom) : Tbl D := tblOf tl_40 D
theorem tok_40 : TblOK Try.prog (tbl_40 R) := TblOK.cons tok_9 en40

-- penumbra/penumbraref05.Most
def S12_0 (D : Dom) (a0 : D.F) (a1 : D.F) (a2 : D.F) : D.F := (S40_0 D (S40_0 D a0 a1) a2)
theorem ev12 (D : Dom) (a0 : D.F) (a1 : D.F) (a2 : D.F) : joinT (evFn Try.prog (tbl_40 D) 60 12 [.agg [.fl a0, .fl a1, .fl a2]]) = .val none (.fl (S12_0 D a0 a1 a2)) := by kernel_rfl
def sp12 : Ev.Spec := fun D l => argA l fun c0 r0 => argF c0 fun a0 r1 => argF r1 fun a1 r2 => argF r2 fun a2 r3 => arg0 r3 (arg0 r0 (.ret (.fl (S12_0 D a0 a1 a2))))
theorem en12 : ∀ l r, (sp12 R l).run = some r → Entry Try.prog 12 l r := by
  intro l r h
  obtain ⟨_, _, h, L0⟩ := argA_inv h
  obtain ⟨x1, _, h, L1⟩ := argF_inv h
  obtain ⟨x2, _, h, L2⟩ := argF_inv h
  obtain ⟨x3, _, h, L3⟩ := argF_inv h
  obtain ⟨h, L4⟩ := arg0_inv h
  obtain ⟨h, L5⟩ := arg0_inv h
  cases h
  exact (entry_of prg tok_40 (ev12 R x1 x2 x3) (fun o ho => nomatch ho) rfl).le (L0 _ _ (L1 _ (L2 _ (L3 _ L4))) L5)
def tl_12 : List (Nat × Ev.Spec) := (12, sp12) :: tl_40
def tbl_12 (D : Dom) : Tbl D := tblOf tl_12 D
theorem tok_12 : TblOK Try.prog (tbl_12 R) := TblOK.cons tok_40 en12

-- penumbra/penumbraref02.Same
def S10_0 (D : Dom) (a0 : D.F) (a1 : D.F) : D.B := (D.bite (D.feq a0 a1) (D.bc true) (D.bite (D.bnot (D.feq a0 a0)) (D.bnot (D.feq a1 a1)) (D.bc false)))
theorem ev10 (D : Dom) (a0 : D.F) (a1 : D.F) : joinT (evFn Try.prog (tbl_12 D) 60 10 [.fl a0, .fl a1]) = .val none (.sb (S10_0 D a0 a1)) := by kernel_rfl
def sp10 : Ev.Spec := fun D l => argF l fun a0 r0 => argF r0 fun a1 r1 => arg0 r1 (.ret (.sb (S10_0 D a0 a1)))
theorem en10 : ∀ l r, (sp10 R l).run = some r → Entry Try.prog 10 l r := by
  intro l r h
  obtain ⟨x0, _, h, L0⟩ := argF_inv h
  obtain ⟨x1, _, h, L1⟩ := argF_inv h
  obtain ⟨h, L2⟩ := arg0_inv h
  cases h
  exact (entry_of prg tok_12 (ev10 R x0 x1) (fun o ho => nomatch ho) rfl).le (L0 _ (L1 _ L2))
def tl_10 : List (Nat × Ev.Spec) := (10, sp10) :: tl_12
def tbl_10 (D : Dom) : Tbl D := tblOf tl_10 D
theorem tok_10 : TblOK Try.prog (tbl_10 R) := TblOK.cons tok_12 en10

-- penumbra/penumbraref05.Mean
def S14_0 (D : Dom) (a0 : D.F) (a1 : D.F) (a2 : D.F) : D.F := (D.fdiv (D.fadd (D.fadd a0 a1) a2) (D.fc 4613937818241073152))
theorem ev14 (D : Dom) (a0 : D.F) (a1 : D.F) (a2 : D.F) : joinT (evFn Try.prog (tbl_10 D) 60 14 [.agg [.fl a0, .fl a1, .fl a2]]) = .val none (.fl (S14_0 D a0 a1 a2)) := by kernel_rfl
def sp14 : Ev.Spec := fun D l => argA l fun c0 r0 => argF c0 fun a0 r1 => argF r1 fun a1 r2 => argF r2 fun a2 r3 => arg0 r3 (arg0 r0 (.ret (.fl (S14_0 D a0 a1 a2))))
theorem en14 : ∀ l r, (sp14 R l).run = some r → Entry Try.prog 14 l r := by
  intro l r h
  obtain ⟨_, _, h, L0⟩ := argA_inv h
  obtain ⟨x1, _, h, L1⟩ := argF_inv h
  obtain ⟨x2, _, h, L2⟩ := argF_inv h
  obtain ⟨x3, _, h, L3⟩ := argF_inv h
  obtain ⟨h, L4⟩ := arg0_inv h
  obtain ⟨h, L5⟩ := arg0_inv h
  cases h
  exact (entry_of prg tok_10 (ev14 R x1 x2 x3) (fun o ho => nomatch ho) rfl).le (L0 _ _ (L1 _ (L2 _ (L3 _ L4))) L5)
def tl_14 : List (Nat × Ev.Spec) := (14, sp14) :: tl_10
def tbl_14 (D : Dom) : Tbl D := tblOf tl_14 D
theorem tok_14 : TblOK Try.prog (tbl_14 R) := TblOK.cons tok_10 en14

-- penumbra/penumbraref02.Number
def S43_0 (D : Dom) (a0 : D.F) : D.B := (D.feq (D.fsub a0 a0) (D.fc 0))
theorem ev43 (D : Dom) (a0 : D.F) : joinT (evFn Try.prog (tbl_14 D) 60 43 [.fl a0]) = .val none (.sb (S43_0 D a0)) := by kernel_rfl
def sp43 : Ev.Spec := fun D l => argF l fun a0 r0 => arg0 r0 (.ret (.sb (S43_0 D a0)))
theorem en43 : ∀ l r, (sp43 R l).run = some r → Entry Try.prog 43 l r := by
  intro l r h
  obtain ⟨x0, _, h, L0⟩ := argF_inv h
  obtain ⟨h, L1⟩ := arg0_inv h
  cases h
  exact (entry_of prg tok_14 (ev43 R x0) (fun o ho => nomatch ho) rfl).le (L0 _ L1)
def tl_43 : List (Nat × Ev.Spec) := (43, sp43) :: tl_14
def tbl_43 (D : Dom) : Tbl D := tblOf tl_43 D
theorem tok_43 : TblOK Try.prog (tbl_43 R) := TblOK.cons tok_14 en43

-- penumbra/penumbraref05.Good
def S16_0 (D : Dom) (a0 : D.F) (a1 : D.F) (a2 : D.F) : D.B := (D.bite (D.bite (D.bite (D.bite (D.bite (S43_0 D a0) (S43_0 D a1) (D.bc false)) (S43_0 D a2) (D.bc false)) (D.fge a0 (D.fc 0)) (D.bc false)) (D.fge a1 (D.fc 0)) (D.bc false)) (D.fge a2 (D.fc 0)) (D.bc false))
theorem ev16 (D : Dom) (a0 : D.F) (a1 : D.F) (a2 : D.F) : joinT (evFn Try.prog (tbl_43 D) 60 16 [.agg [.fl a0, .fl a1, .fl a2]]) = .val none (.sb (S16_0 D a0 a1 a2)) := by kernel_rfl
def sp16 : Ev.Spec := fun D l => argA l fun c0 r0 => argF c0 fun a0 r1 => argF r1 fun a1 r2 => argF r2 fun a2 r3 => arg0 r3 (arg0 r0 (.ret (.sb (S16_0 D a0 a1 a2))))
theorem en16 : ∀ l r, (sp16 R l).run = some r → Entry Try.prog 16 l r := by
  intro l r h
  obtain ⟨_, _, h, L0⟩ := argA_inv h
  obtain ⟨x1, _, h, L1⟩ := argF_inv h
  obtain ⟨x2, _, h, L2⟩ := argF_inv h
  obtain ⟨x3, _, h, L3⟩ := argF_inv h
  obtain ⟨h, L4⟩ := arg0_inv h
  obtain ⟨h, L5⟩ := arg0_inv h
  cases h
  exact (entry_of prg tok_43 (ev16 R x1 x2 x3) (fun o ho => nomatch ho) rfl).le (L0 _ _ (L1 _ (L2 _ (L3 _ L4))) L5)
def tl_16 : List (Nat × Ev.Spec) := (16, sp16) :: tl_43
def tbl_16 (D : Dom) : Tbl D := tblOf tl_16 D
theorem tok_16 : TblOK Try.prog (tbl_16 R) := TblOK.cons tok_43 en16

-- penumbra/penumbraref05.Weight
def S19_0 (D : Dom) (a0 : D.F) (a1 : D.F) (a2 : D.F) : D.Z := (D.zite (D.bite (D.bnot (S16_0 D a0 a1 a2)) (D.bc true) (D.bite (D.feq a0 (D.fc 0)) (D.bite (D.feq a1 (D.fc 0)) (D.feq a2 (D.fc 0)) (D.bc false)) (D.bc false))) (D.zc 0) (D.zite (D.fge (D.fmul (S14_0 D a0 a1 a2) (D.fc 4625196817309499392)) (D.fc 4697254411347427328)) (D.zc 1048576) (D.zite (D.flt (D.fmul (S14_0 D a0 a1 a2) (D.fc 4625196817309499392)) (D.fc 4607182418800017408)) (D.zc 1) (D.f2i .i64 (D.fmul (S14_0 D a0 a1 a2) (D.fc 4625196817309499392))))))
def O19 (D : Dom) (a0 : D.F) (a1 : D.F) (a2 : D.F) : D.B := (D.bite (D.bite (D.bnot (S16_0 D a0 a1 a2)) (D.bc true) (D.bite (D.feq a0 (D.fc 0)) (D.bite (D.feq a1 (D.fc 0)) (D.feq a2 (D.fc 0)) (D.bc false)) (D.bc false))) (D.bc true) (D.bite (D.fge (D.fmul (S14_0 D a0 a1 a2) (D.fc 4625196817309499392)) (D.fc 4697254411347427328)) (D.bc true) (D.bite (D.flt (D.fmul (S14_0 D a0 a1 a2) (D.fc 4625196817309499392)) (D.fc 4607182418800017408)) (D.bc true) (D.f2iok .i64 (D.fmul (S14_0 D a0 a1 a2) (D.fc 4625196817309499392))))))
theorem ev19 (D : Dom) (a0 : D.F) (a1 : D.F) (a2 : D.F) : joinT (evFn Try.prog (tbl_16 D) 60 19 [.agg [.fl a0, .fl a1, .fl a2]]) = .val (some (O19 D a0 a1 a2)) (.si .i64 (S19_0 D a0 a1 a2)) := by kernel_rfl
def sp19 : Ev.Spec := fun D l => argA l fun c0 r0 => argF c0 fun a0 r1 => argF r1 fun a1 r2 => argF r2 fun a2 r3 => arg0 r3 (arg0 r0 (.node (O19 D a0 a1 a2) (.ret (.si .i64 (S19_0 D a0 a1 a2))) (.fail "pre")))
theorem en19 : ∀ l r, (sp19 R l).run = some r → Entry Try.prog 19 l r := by
  intro l r h
  obtain ⟨_, _, h, L0⟩ := argA_inv h
  obtain ⟨x1, _, h, L1⟩ := argF_inv h
  obtain ⟨x2, _, h, L2⟩ := argF_inv h
  obtain ⟨x3, _, h, L3⟩ := argF_inv h
  obtain ⟨h, L4⟩ := arg0_inv h
  obtain ⟨h, L5⟩ := arg0_inv h
  obtain ⟨hok, rfl⟩ := run_okay h
  exact (entry_of prg tok_16 (ev19 R x1 x2 x3) (fun o ho => (Option.some.inj ho) ▸ hok) rfl).le (L0 _ _ (L1 _ (L2 _ (L3 _ L4))) L5)
def tl_19 : List (Nat × Ev.Spec) := (19, sp19) :: tl_16
def tbl_19 (D : Dom) : Tbl D := tblOf tl_19 D
theorem tok_19 : TblOK Try.prog (tbl_19 R) := TblOK.cons tok_16 en19

-- penumbra/penumbralaw05.RgbLooks
def S3_0 (D : Dom) (a0 : D.F) (a1 : D.F) (a2 : D.F) : D.B := (D.bite (S9_0 D) (D.bite (S10_0 D (S11_0 D a0 a1 a2) (S12_0 D a0 a1 a2)) (D.bite (S10_0 D (S13_0 D a0 a1 a2) (S14_0 D a0 a1 a2)) (D.bite (D.beq (S15_0 D a0 a1 a2) (S16_0 D a0 a1 a2)) (D.bite (D.feq a0 (D.fc 0)) (D.bite (D.feq a1 (D.fc 0)) (D.bite (D.beq (S17_0 D a0 a1 a2) (D.feq a2 (D.fc 0))) (D.zeq (S18_0 D a0 a1 a2) (S19_0 D a0 a1 a2)) (D.bc false)) (D.bite (D.beq (S17_0 D a0 a1 a2) (D.bc false)) (D.zeq (S18_0 D a0 a1 a2) (S19_0 D a0 a1 a2)) (D.bc false))) (D.bite (D.beq (S17_0 D a0 a1 a2) (D.bc false)) (D.zeq (S18_0 D a0 a1 a2) (S19_0 D a0 a1 a2)) (D.bc false))) (D.bc false)) (D.bc false)) (D.bc false)) (D.bc false))
def O3 (D : Dom) (a0 : D.F) (a1 : D.F) (a2 : D.F) : D.B := (D.band (O9 D) (D.bite (S9_0 D) (D.bite (S10_0 D (S11_0 D a0 a1 a2) (S12_0 D a0 a1 a2)) (D.bite (S10_0 D (S13_0 D a0 a1 a2) (S14_0 D a0 a1 a2)) (D.bite (D.beq (S15_0 D a0 a1 a2) (S16_0 D a0 a1 a2)) (D.bite (D.feq a0 (D.fc 0)) (D.bite (D.feq a1 (D.fc 0)) (D.bite (D.beq (S17_0 D a0 a1 a2) (D.feq a2 (D.fc 0))) (D.band (O18 D a0 a1 a2) (O19 D a0 a1 a2)) (D.bc true)) (D.bite (D.beq (S17_0 D a0 a1 a2) (D.bc false)) (D.band (O18 D a0 a1 a2) (O19 D a0 a1 a2)) (D.bc true))) (D.bite (D.beq (S17_0 D a0 a1 a2) (D.bc false)) (D.band (O18 D a0 a1 a2) (O19 D a0 a1 a2)) (D.bc true))) (D.bc true)) (D.bc true)) (D.bc true)) (D.bc true)))
theorem ev3 (D : Dom) (a0 : D.F) (a1 : D.F) (a2 : D.F) : joinT (evFn Try.prog (tbl_19 D) 60 3 [.agg [.fl a0, .fl a1, .fl a2]]) = .val (some (O3 D a0 a1 a2)) (.sb (S3_0 D a0 a1 a2)) := by kernel_rfl
def sp3 : Ev.Spec := fun D l => argA l fun c0 r0 => argF c0 fun a0 r1 => argF r1 fun a1 r2 => argF r2 fun a2 r3 => arg0 r3 (arg0 r0 (.node (O3 D a0 a1 a2) (.ret (.sb (S3_0 D a0 a1 a2))) (.fail "pre")))
theorem en3 : ∀ l r, (sp3 R l).run = some r → Entry Try.prog 3 l r := by
  intro l r h
  obtain ⟨_, _, h, L0⟩ := argA_inv h
  obtain ⟨x1, _, h, L1⟩ := argF_inv h
  obtain ⟨x2, _, h, L2⟩ := argF_inv h
  obtain ⟨x3, _, h, L3⟩ := argF_inv h
  obtain ⟨h, L4⟩ := arg0_inv h
  obtain ⟨h, L5⟩ := arg0_inv h
  obtain ⟨hok, rfl⟩ := run_okay h
  exact (entry_of prg tok_19 (ev3 R x1 x2 x3) (fun o ho => (Option.some.inj ho) ▸ hok) rfl).le (L0 _ _ (L1 _ (L2 _ (L3 _ L4))) L5)
def tl_3 : List (Nat × Ev.Spec) := (3, sp3) :: tl_19
def tbl_3 (D : Dom) : Tbl D := tblOf tl_3 D
theorem tok_3 : TblOK Try.prog (tbl_3 R) := TblOK.cons tok_19 en3

-- penumbra/rgb.Add$1
def S45_0 (D : Dom) (a0 : D.F) (a1 : D.F) : D.F := (D.fadd a0 a1)
theorem ev45 (D : Dom) (a0 : D.F) (a1 : D.F) : joinT (evFn Try.prog (tbl_3 D) 60 45 [.fl a0, .fl a1]) = .val none (.fl (S45_0 D a0 a1)) := by kernel_rfl
def sp45 : Ev.Spec := fun D l => argF l fun a0 r0 => argF r0 fun a1 r1 => arg0 r1 (.ret (.fl (S45_0 D a0 a1)))
theorem en45 : ∀ l r, (sp45 R l).run = some r → Entry Try.prog 45 l r := by
  intro l r h
  obtain ⟨x0, _, h, L0⟩ := argF_inv h
  obtain ⟨x1, _, h, L1⟩ := argF_inv h
  obtain ⟨h, L2⟩ := arg0_inv h
  cases h
  exact (entry_of prg tok_3 (ev45 R x0 x1) (fun o ho => nomatch ho) rfl).le (L0 _ (L1 _ L2))
def tl_45 : List (Nat × Ev.Spec) := (45, sp45) :: tl_3
def tbl_45 (D : Dom) : Tbl D := tblOf tl_45 D
theorem tok_45 : TblOK Try.prog (tbl_45 R) := TblOK.cons tok_3 en45

-- penumbra/rgb.Add
def S20_0 (D : Dom) (a0 : D.F) (a3 : D.F) : D.F := (S45_0 D a0 a3)
def S20_1 (D : Dom) (a1 : D.F) (a4 : D.F) : D.F := (S45_0 D a1 a4)
def S20_2 (D : Dom) (a2 : D.F) (a5 : D.F) : D.F := (S45_0 D a2 a5)
theorem ev20 (D : Dom) (a0 : D.F) (a1 : D.F) (a2 : D.F) (a3 : D.F) (a4 : D.F) (a5 : D.F) : joinT (evFn Try.prog (tbl_45 D) 60 20 [.agg [.fl a0, .fl a1, .fl a2], .agg [.fl a3, .fl a4, .fl a5]]) = .val none (.agg [.fl (S20_0 D a0 a3), .fl (S20_1 D a1 a4), .fl (S20_2 D a2 a5)]) := by kernel_rfl
def sp20 : Ev.Spec := fun D l => argA l fun c0 r0 => argF c0 fun a0 r1 => argF r1 fun a1 r2 => argF r2 fun a2 r3 => arg0 r3 (argA r0 fun c100 r100 => argF c100 fun a3 r101 => argF r101 fun a4 r102 => argF r102 fun a5 r103 => arg0 r103 (arg0 r100 (.ret (.agg [.fl (S20_0 D a0 a3), .fl (S20_1 D a1 a4), .fl (S20_2 D a2 a5)]))))
theorem en20 : ∀ l r, (sp20 R l).run = some r → Entry Try.prog 20 l r := by
  intro l r h
  obtain ⟨_, _, h, L0⟩ := argA_inv h
  obtain ⟨x1, _, h, L1⟩ := argF_inv h
  obtain ⟨x2, _, h, L2⟩ := argF_inv h
  obtain ⟨x3, _, h, L3⟩ := argF_inv h
  obtain ⟨h, L4⟩ := arg0_inv h
  obtain ⟨_, _, h, L5⟩ := argA_inv h
  obtain ⟨x6, _, h, L6⟩ := argF_inv h
  obtain ⟨x7, _, h, L7⟩ := argF_inv h
  obtain ⟨x8, _, h, L8⟩ := argF_inv h
  obtain ⟨h, L9⟩ := arg0_inv h
  obtain ⟨h, L10⟩ := arg0_inv h
  cases h
  exact (entry_of prg tok_45 (ev20 R x1 x2 x3 x6 x7 x8) (fun o ho => nomatch ho) rfl).le (L0 _ _ (L1 _ (L2 _ (L3 _ L4))) (L5 _ _ (L6 _ (L7 _ (L8 _ L9))) L10))
def tl_20 : List (Nat × Ev.Spec) := (20, sp20) :: tl_45
def tbl_20 (D : Dom) : Tbl D := tblOf tl_20 D
theorem tok_20 : TblOK Try.prog (tbl_20 R) := TblOK.cons tok_45 en20

-- penumbra/penumbralaw05.RgbWeighs
def S4_0 (D : Dom) (a0 : D.F) (a1 : D.F) (a2 : D.F) (a3 : D.F) (a4 : D.F) (a5 : D.F) : D.B := (D.bite (D.band (D.bite (D.bnot (S16_0 D a0 a1 a2)) (D.bc true) (D.bnot (S16_0 D a3 a4 a5))) (O9 D)) (S9_0 D) (D.bite (D.bite (D.bite (S9_0 D) (D.beq (D.zlt (D.zc 0) (S18_0 D a0 a1 a2)) (D.bnot (S17_0 D a0 a1 a2))) (D.bc false)) (D.zle (S18_0 D a0 a1 a2) (D.zc 1048576)) (D.bc false)) (D.bite (D.bnot (S15_0 D (S20_0 D a0 a3) (S20_1 D a1 a4) (S20_2 D a2 a5))) (D.bc true) (D.zle (S18_0 D a0 a1 a2) (S18_0 D (S20_0 D a0 a3) (S20_1 D a1 a4) (S20_2 D a2 a5)))) (D.bc false)))
def O4 (D : Dom) (a0 : D.F) (a1 : D.F) (a2 : D.F) (a3 : D.F) (a4 : D.F) (a5 : D.F) : D.B := (D.bite (D.band (D.bite (D.bnot (S16_0 D a0 a1 a2)) (D.bc true) (D.bnot (S16_0 D a3 a4 a5))) (O9 D)) (D.bc true) (D.band (D.bnot (D.bite (D.bnot (S16_0 D a0 a1 a2)) (D.bc true) (D.bnot (S16_0 D a3 a4 a5)))) (D.band (O18 D a0 a1 a2) (D.band (O18 D (S20_0 D a0 a3) (S20_1 D a1 a4) (S20_2 D a2 a5)) (O9 D)))))
theorem ev4 (D : Dom) (a0 : D.F) (a1 : D.F) (a2 : D.F) (a3 : D.F) (a4 : D.F) (a5 : D.F) : joinT (evFn Try.prog (tbl_20 D) 60 4 [.agg [.fl a0, .fl a1, .fl a2], .agg [.fl a3, .fl a4, .fl a5]]) = .val (some (O4 D a0 a1 a2 a3 a4 a5)) (.sb (S4_0 D a0 a1 a2 a3 a4 a5)) := by kernel_rfl
def sp4 : Ev.Spec := fun D l => argA l fun c0 r0 => argF c0 fun a0 r1 => argF r1 fun a1 r2 => argF r2 fun a2 r3 => arg0 r3 (argA r0 fun c100 r100 => argF c100 fun a3 r101 => argF r101 fun a4 r102 => argF r102 fun a5 r103 => arg0 r103 (arg0 r100 (.node (O4 D a0 a1 a2 a3 a4 a5) (.ret (.sb (S4_0 D a0 a1 a2 a3 a4 a5))) (.fail "pre"))))
theorem en4 : ∀ l r, (sp4 R l).run = some r → Entry Try.prog 4 l r := by
  intro l r h
  obtain ⟨_, _, h, L0⟩ := argA_inv h
  obtain ⟨x1, _, h, L1⟩ := argF_inv h
  obtain ⟨x2, _, h, L2⟩ := argF_inv h
  obtain ⟨x3, _, h, L3⟩ := argF_inv h
  obtain ⟨h, L4⟩ := arg0_inv h
  obtain ⟨_, _, h, L5⟩ := argA_inv h
  obtain ⟨x6, _, h, L6⟩ := argF_inv h
  obtain ⟨x7, _, h, L7⟩ := argF_inv h
  obtain ⟨x8, _, h, L8⟩ := argF_inv h
  obtain ⟨h, L9⟩ := arg0_inv h
  obtain ⟨h, L10⟩ := arg0_inv h
  obtain ⟨hok, rfl⟩ := run_okay h
  exact (entry_of prg tok_20 (ev4 R x1 x2 x3 x6 x7 x8) (fun o ho => (Option.some.inj ho) ▸ hok) rfl).le (L0 _ _ (L1 _ (L2 _ (L3 _ L4))) (L5 _ _ (L6 _ (L7 _ (L8 _ L9))) L10))
def tl_4 : List (Nat × Ev.Spec) := (4, sp4) :: tl_20
def tbl_4 (D : Dom) : Tbl D := tblOf tl_4 D
theorem tok_4 : TblOK Try.prog (tbl_4 R) := TblOK.cons tok_20 en4

-- penumbra/frame.New
def S23_0 (D : Dom) (a0 : D.F) (a2 : D.F) : D.F := (D.fadd (D.fc 4607182418800017408) (D.fmul (D.fmul (D.fmul (D.fite (D.flt a2 (D.fc 0)) (D.fc 13830554455654793216) (D.fc 4607182418800017408)) a0) a0) (D.fdiv (D.fc 13830554455654793216) (D.fadd (D.fite (D.flt a2 (D.fc 0)) (D.fc 13830554455654793216) (D.fc 4607182418800017408)) a2))))
def S23_1 (D : Dom) (a0 : D.F) (a1 : D.F) (a2 : D.F) : D.F := (D.fmul (D.fite (D.flt a2 (D.fc 0)) (D.fc 13830554455654793216) (D.fc 4607182418800017408)) (D.fmul (D.fmul a0 a1) (D.fdiv (D.fc 13830554455654793216) (D.fadd (D.fite (D.flt a2 (D.fc 0)) (D.fc 13830554455654793216) (D.fc 4607182418800017408)) a2))))
def S23_2 (D : Dom) (a0 : D.F) (a2 : D.F) : D.F := (D.fsub (D.fc 0) (D.fmul (D.fite (D.flt a2 (D.fc 0)) (D.fc 13830554455654793216) (D.fc 4607182418800017408)) a0))
def S23_3 (D : Dom) (a0 : D.F) (a1 : D.F) (a2 : D.F) : D.F := (D.fmul (D.fmul a0 a1) (D.fdiv (D.fc 13830554455654793216) (D.fadd (D.fite (D.flt a2 (D.fc 0)) (D.fc 13830554455654793216) (D.fc 4607182418800017408)) a2)))
def S23_4 (D : Dom) (a1 : D.F) (a2 : D.F) : D.F := (D.fadd (D.fite (D.flt a2 (D.fc 0)) (D.fc 13830554455654793216) (D.fc 4607182418800017408)) (D.fmul (D.fmul a1 a1) (D.fdiv (D.fc 13830554455654793216) (D.fadd (D.fite (D.flt a2 (D.fc 0)) (D.fc 13830554455654793216) (D.fc 4607182418800017408)) a2))))
def S23_5 (D : Dom) (a1 : D.F) : D.F := (D.fsub (D.fc 0) a1)
def S23_6 (D : Dom) (a0 : D.F) : D.F := a0
def S23_7 (D : Dom) (a1 : D.F) : D.F := a1
def S23_8 (D : Dom) (a2 : D.F) : D.F := a2
theorem ev23 (D : Dom) (a0 : D.F) (a1 : D.F) (a2 : D.F) : joinT (evFn Try.prog (tbl_4 D) 60 23 [.agg [.fl a0, .fl a1, .fl a2]]) = .val none (.agg [.fl (S23_0 D a0 a2), .fl (S23_1 D a0 a1 a2), .fl (S23_2 D a0 a2), .fl (S23_3 D a0 a1 a2), .fl (S23_4 D a1 a2), .fl (S23_5 D a1), .fl (S23_6 D a0), .fl (S23_7 D a1), .fl (S23_8 D a2)]) := by kernel_rfl
def sp23 : Ev.Spec := fun D l => argA l fun c0 r0 => argF c0 fun a0 r1 => argF r1 fun a1 r2 => argF r2 fun a2 r3 => arg0 r3 (arg0 r0 (.ret (.agg [.fl (S23_0 D a0 a2), .fl (S23_1 D a0 a1 a2), .fl (S23_2 D a0 a2), .fl (S23_3 D a0 a1 a2), .fl (S23_4 D a1 a2), .fl (S23_5 D a1), .fl (S23_6 D a0), .fl (S23_7 D a1), .fl (S23_8 D a2)])))
theorem en23 : ∀ l r, (sp23 R l).run = some r → Entry Try.prog 23 l r := by
  intro l r h
  obtain ⟨_, _, h, L0⟩ := argA_inv h
  obtain ⟨x1, _, h, L1⟩ := argF_inv h
  obtain ⟨x2, _, h, L2⟩ := argF_inv h
  obtain ⟨x3, _, h, L3⟩ := argF_inv h
  obtain ⟨h, L4⟩ := arg0_inv h
  obtain ⟨h, L5⟩ := arg0_inv h
  cases h
  exact (entry_of prg tok_4 (ev23 R x1 x2 x3) (fun o ho => nomatch ho) rfl).le (L0 _ _ (L1 _ (L2 _ (L3 _ L4))) L5)
def tl_23 : List (Nat × Ev.Spec) := (23, sp23) :: tl_4
def tbl_23 (D : Dom) : Tbl D := tblOf tl_23 D
theorem tok_23 : TblOK Try.prog (tbl_23 R) := TblOK.cons tok_4 en23

-- penumbra/frame.axes
def S46_0 (D : Dom) (a0 : D.F) : D.F := a0
def S46_1 (D : Dom) (a1 : D.F) : D.F := a1
def S46_2 (D : Dom) (a2 : D.F) : D.F := a2
def S46_3 (D : Dom) (a3 : D.F) : D.F := a3
def S46_4 (D : Dom) (a4 : D.F) : D.F := a4
def S46_5 (D : Dom) (a5 : D.F) : D.F := a5
def S46_6 (D : Dom) (a6 : D.F) : D.F := a6
def S46_7 (D : Dom) (a7 : D.F) : D.F := a7
def S46_8 (D : Dom) (a8 : D.F) : D.F := a8
theorem ev46 (D : Dom) (a0 : D.F) (a1 : D.F) (a2 : D.F) (a3 : D.F) (a4 : D.F) (a5 : D.F) (a6 : D.F) (a7 : D.F) (a8 : D.F) : joinT (evFn Try.prog (tbl_23 D) 60 46 [.agg [.fl a0, .fl a1, .fl a2, .fl a3, .fl a4, .fl a5, .fl a6, .fl a7, .fl a8]]) = .val none (.agg [.fl (S46_0 D a0), .fl (S46_1 D a1), .fl (S46_2 D a2), .fl (S46_3 D a3), .fl (S46_4 D a4), .fl (S46_5 D a5), .fl (S46_6 D a6), .fl (S46_7 D a7), .fl (S46_8 D a8)]) := by kernel_rfl
def sp46 : Ev.Spec := fun D l => argA l fun c0 r0 => argF c0 fun a0 r1 => argF r1 fun a1 r2 => argF r2 fun a2 r3 => argF r3 fun a3 r4 => argF r4 fun a4 r5 => argF r5 fun a5 r6 => argF r6 fun a6 r7 => argF r7 fun a7 r8 => argF r8 fun a8 r9 => arg0 r9 (arg0 r0 (.ret (.agg [.fl (S46_0 D a0), .fl (S46_1 D a1), .fl (S46_2 D a2), .fl (S46_3 D a3), .fl (S46_4 D a4), .fl (S46_5 D a5), .fl (S46_6 D a6), .fl (S46_7 D a7), .fl (S46_8 D a8)])))
theorem en46 : ∀ l r, (sp46 R l).run = some r → Entry Try.prog 46 l r := by
  intro l r h
  obtain ⟨_, _, h, L0⟩ := argA_inv h
  obtain ⟨x1, _, h, L1⟩ := argF_inv h
  obtain ⟨x2, _, h, L2⟩ := argF_inv h
  obtain ⟨x3, _, h, L3⟩ := argF_inv h
  obtain ⟨x4, _, h, L4⟩ := argF_inv h
  obtain ⟨x5, _, h, L5⟩ := argF_inv h
  obtain ⟨x6, _, h, L6⟩ := argF_inv h
  obtain ⟨x7, _, h, L7⟩ := argF_inv h
  obtain ⟨x8, _, h, L8⟩ := argF_inv h
  obtain ⟨x9, _, h, L9⟩ := argF_inv h
  obtain ⟨h, L10⟩ := arg0_inv h
  obtain ⟨h, L11⟩ := arg0_inv h
  cases h
  exact (entry_of prg tok_23 (ev46 R x1 x2 x3 x4 x5 x6 x7 x8 x9) (fun o ho => nomatch ho) rfl).le (L0 _ _ (L1 _ (L2 _ (L3 _ (L4 _ (L5 _ (L6 _ (L7 _ (L8 _ (L9 _ L10))))))))) L11)
def tl_46 : List (Nat × Ev.Spec) := (46, sp46) :: tl_23
def tbl_46 (D : Dom) : Tbl D := tblOf tl_46 D
theorem tok_46 : TblOK Try.prog (tbl_46 R) := TblOK.cons tok_23 en46

-- penumbra/vec.Mul$1
def S58_0 (D : Dom) (a0 : D.F) (a1 : D.F) : D.F := (D.fmul a0 a1)
theorem ev58 (D : Dom) (a0 : D.F) (a1 : D.F) : joinT (evFn Try.prog (tbl_46 D) 60 58 [.fl a0, .fl a1]) = .val none (.fl (S58_0 D a0 a1)) := by kernel_rfl
def sp58 : Ev.Spec := fun D l => argF l fun a0 r0 => argF r0 fun a1 r1 => arg0 r1 (.ret (.fl (S58_0 D a0 a1)))
theorem en58 : ∀ l r, (sp58 R l).run = some r → Entry Try.prog 58 l r := by
  intro l r h
  obtain ⟨x0, _, h, L0⟩ := argF_inv h
  obtain ⟨x1, _, h, L1⟩ := argF_inv h
  obtain ⟨h, L2⟩ := arg0_inv h
  cases h
  exact (entry_of prg tok_46 (ev58 R x0 x1) (fun o ho => nomatch ho) rfl).le (L0 _ (L1 _ L2))
def tl_58 : List (Nat × Ev.Spec) := (58, sp58) :: tl_46
def tbl_58 (D : Dom) : Tbl D := tblOf tl_58 D
theorem tok_58 : TblOK Try.prog (tbl_58 R) := TblOK.cons tok_46 en58

-- penumbra/vec.Mul
def S55_0 (D : Dom) (a0 : D.F) (a3 : D.F) : D.F := (S58_0 D a0 a3)
def S55_1 (D : Dom) (a1 : D.F) (a4 : D.F) : D.F := (S58_0 D a1 a4)
def S55_2 (D : Dom) (a2 : D.F) (a5 : D.F) : D.F := (S58_0 D a2 a5)
theorem ev55 (D : Dom) (a0 : D.F) (a1 : D.F) (a2 : D.F) (a3 : D.F) (a4 : D.F) (a5 : D.F) : joinT (evFn Try.prog (tbl_58 D) 60 55 [.agg [.fl a0, .fl a1, .fl a2], .agg [.fl a3, .fl a4, .fl a5]]) = .val none (.agg [.fl (S55_0 D a0 a3), .fl (S55_1 D a1 a4), .fl (S55_2 D a2 a5)]) := by kernel_rfl
def sp55 : Ev.Spec := fun D l => argA l fun c0 r0 => argF c0 fun a0 r1 => argF r1 fun a1 r2 => argF r2 fun a2 r3 => arg0 r3 (argA r0 fun c100 r100 => argF c100 fun a3 r101 => argF r101 fun a4 r102 => argF r102 fun a5 r103 => arg0 r103 (arg0 r100 (.ret (.agg [.fl (S55_0 D a0 a3), .fl (S55_1 D a1 a4), .fl (S55_2 D a2 a5)]))))
theorem en55 : ∀ l r, (sp55 R l).run = some r → Entry Try.prog 55 l r := by
  intro l r h
  obtain ⟨_, _, h, L0⟩ := argA_inv h
  obtain ⟨x1, _, h, L1⟩ := argF_inv h
  obtain ⟨x2, _, h, L2⟩ := argF_inv h
  obtain ⟨x3, _, h, L3⟩ := argF_inv h
  obtain ⟨h, L4⟩ := arg0_inv h
  obtain ⟨_, _, h, L5⟩ := argA_inv h
  obtain ⟨x6, _, h, L6⟩ := argF_inv h
  obtain ⟨x7, _, h, L7⟩ := argF_inv h
  obtain ⟨x8, _, h, L8⟩ := argF_inv h
  obtain ⟨h, L9⟩ := arg0_inv h
  obtain ⟨h, L10⟩ := arg0_inv h
  cases h
  exact (entry_of prg tok_58 (ev55 R x1 x2 x3 x6 x7 x8) (fun o ho => nomatch ho) rfl).le (L0 _ _ (L1 _ (L2 _ (L3 _ L4))) (L5 _ _ (L6 _ (L7 _ (L8 _ L9))) L10))
def tl_55 : List (Nat × Ev.Spec) := (55, sp55) :: tl_58
def tbl_55 (D : Dom) : Tbl D := tblOf tl_55 D
theorem tok_55 : TblOK Try.prog (tbl_55 R) := TblOK.cons tok_58 en55

-- penumbra/vec.Dot
def S48_0 (D : Dom) (a0 : D.F) (a1 : D.F) (a2 : D.F) (a3 : D.F) (a4 : D.F) (a5 : D.F) : D.F := (D.fadd (D.fadd (S55_0 D a0 a3) (S55_1 D a1 a4)) (S55_2 D a2 a5))
theorem ev48 (D : Dom) (a0 : D.F) (a1 : D.F) (a2 : D.F) (a3 : D.F) (a4 : D.F) (a5 : D.F) : joinT (evFn Try.prog (tbl_55 D) 60 48 [.agg [.fl a0, .fl a1, .fl a2], .agg [.fl a3, .fl a4, .fl a5]]) = .val none (.fl (S48_0 D a0 a1 a2 a3 a4 a5)) := by kernel_rfl
def sp48 : Ev.Spec := fun D l => argA l fun c0 r0 => argF c0 fun a0 r1 => argF r1 fun a1 r2 => argF r2 fun a2 r3 => arg0 r3 (argA r0 fun c100 r100 => argF c100 fun a3 r101 => argF r101 fun a4 r102 => argF r102 fun a5 r103 => arg0 r103 (arg0 r100 (.ret (.fl (S48_0 D a0 a1 a2 a3 a4 a5)))))
theorem en48 : ∀ l r, (sp48 R l).run = some r → Entry Try.prog 48 l r := by
  intro l r h
  obtain ⟨_, _, h, L0⟩ := argA_inv h
  obtain ⟨x1, _, h, L1⟩ := argF_inv h
  obtain ⟨x2, _, h, L2⟩ := argF_inv h
  obtain ⟨x3, _, h, L3⟩ := argF_inv h
  obtain ⟨h, L4⟩ := arg0_inv h
  obtain ⟨_, _, h, L5⟩ := argA_inv h
  obtain ⟨x6, _, h, L6⟩ := argF_inv h
  obtain ⟨x7, _, h, L7⟩ := argF_inv h
  obtain ⟨x8, _, h, L8⟩ := argF_inv h
  obtain ⟨h, L9⟩ := arg0_inv h
  obtain ⟨h, L10⟩ := arg0_inv h
  cases h
  exact (entry_of prg tok_55 (ev48 R x1 x2 x3 x6 x7 x8) (fun o ho => nomatch ho) rfl).le (L0 _ _ (L1 _ (L2 _ (L3 _ L4))) (L5 _ _ (L6 _ (L7 _ (L8 _ L9))) L10))
def tl_48 : List (Nat × Ev.Spec) := (48, sp48) :: tl_55
def tbl_48 (D : Dom) : Tbl D := tblOf tl_48 D
theorem tok_48 : TblOK Try.prog (tbl_48 R) := TblOK.cons tok_55 en48

-- penumbra/frame.To
def S26_0 (D : Dom) (a0 : D.F) (a1 : D.F) (a2 : D.F) (a9 : D.F) (a10 : D.F) (a11 : D.F) : D.F := (S48_0 D a9 a10 a11 (S46_0 D a0) (S46_1 D a1) (S46_2 D a2))
def S26_1 (D : Dom) (a3 : D.F) (a4 : D.F) (a5 : D.F) (a9 : D.F) (a10 : D.F) (a11 : D.F) : D.F := (S48_0 D a9 a10 a11 (S46_3 D a3) (S46_4 D a4) (S46_5 D a5))
def S26_2 (D : Dom) (a6 : D.F) (a7 : D.F) (a8 : D.F) (a9 : D.F) (a10 : D.F) (a11 : D.F) : D.F := (S48_0 D a9 a10 a11 (S46_6 D a6) (S46_7 D a7) (S46_8 D a8))
theorem ev26 (D : Dom) (a0 : D.F) (a1 : D.F) (a2 : D.F) (a3 : D.F) (a4 : D.F) (a5 : D.F) (a6 : D.F) (a7 : D.F) (a8 : D.F) (a9 : D.F) (a10 : D.F) (a11 : D.F) : joinT (evFn Try.prog (tbl_48 D) 60 26 [.agg [.fl a0, .fl a1, .fl a2, .fl a3, .fl a4, .fl a5, .fl a6, .fl a7, .fl a8], .agg [.fl a9, .fl a10, .fl a11]]) = .val none (.agg [.fl (S26_0 D a0 a1 a2 a9 a10 a11), .fl (S26_1 D a3 a4 a5 a9 a10 a11), .fl (S26_2 D a6 a7 a8 a9 a10 a11)]) := by kernel_rfl
def sp26 : Ev.Spec := fun D l => argA l fun c0 r0 => argF c0 fun a0 r1 => argF r1 fun a1 r2 => argF r2 fun a2 r3 => argF r3 fun a3 r4 => argF r4 fun a4 r5 => argF r5 fun a5 r6 => argF r6 fun a6 r7 => argF r7 fun a7 r8 => argF r8 fun a8 r9 => arg0 r9 (argA r0 fun c100 r100 => argF c100 fun a9 r101 => argF r101 fun a10 r102 => argF r102 fun a11 r103 => arg0 r103 (arg0 r100 (.ret (.agg [.fl (S26_0 D a0 a1 a2 a9 a10 a11), .fl (S26_1 D a3 a4 a5 a9 a10 a11), .fl (S26_2 D a6 a7 a8 a9 a10 a11)]))))
theorem en26 : ∀ l r, (sp26 R l).run = some r → Entry Try.prog 26 l r := by
  intro l r h
  obtain ⟨_, _, h, L0⟩ := argA_inv h
  obtain ⟨x1, _, h, L1⟩ := argF_inv h
  obtain ⟨x2, _, h, L2⟩ := argF_inv h
  obtain ⟨x3, _, h, L3⟩ := argF_inv h
  obtain ⟨x4, _, h, L4⟩ := argF_inv h
  obtain ⟨x5, _, h, L5⟩ := argF_inv h
  obtain ⟨x6, _, h, L6⟩ := argF_inv h
  obtain ⟨x7, _, h, L7⟩ := argF_inv h
  obtain ⟨x8, _, h, L8⟩ := argF_inv h
  obtain ⟨x9, _, h, L9⟩ := argF_inv h
  obtain ⟨h, L10⟩ := arg0_inv h
  obtain ⟨_, _, h, L11⟩ := argA_inv h
  obtain ⟨x12, _, h, L12⟩ := argF_inv h
  obtain ⟨x13, _, h, L13⟩ := argF_inv h
  obtain ⟨x14, _, h, L14⟩ := argF_inv h
  obtain ⟨h, L15⟩ := arg0_inv h
  obtain ⟨h, L16⟩ := arg0_inv h
  cases h
  exact (entry_of prg tok_48 (ev26 R x1 x2 x3 x4 x5 x6 x7 x8 x9 x12 x13 x14) (fun o ho => nomatch ho) rfl).le (L0 _ _ (L1 _ (L2 _ (L3 _ (L4 _ (L5 _ (L6 _ (L7 _ (L8 _ (L9 _ L10))))))))) (L11 _ _ (L12 _ (L13 _ (L14 _ L15))) L16))
def tl_26 : List (Nat × Ev.Spec) := (26, sp26) :: tl_48
def tbl_26 (D : Dom) : Tbl D := tblOf tl_26 D
theorem tok_26 : TblOK Try.prog (tbl_26 R) := TblOK.cons tok_48 en26

-- penumbra/vec.Scale
def S51_0 (D : Dom) (a0 : D.F) (a3 : D.F) : D.F := (S55_0 D a0 a3)
def S51_1 (D : Dom) (a1 : D.F) (a3 : D.F) : D.F := (S55_1 D a1 a3)
def S51_2 (D : Dom) (a2 : D.F) (a3 : D.F) : D.F := (S55_2 D a2 a3)
theorem ev51 (D : Dom) (a0 : D.F) (a1 : D.F) (a2 : D.F) (a3 : D.F) : joinT (evFn Try.prog (tbl_26 D) 60 51 [.agg [.fl a0, .fl a1, .fl a2], .fl a3]) = .val none (.agg [.fl (S51_0 D a0 a3), .fl (S51_1 D a1 a3), .fl (S51_2 D a2 a3)]) := by kernel_rfl
def sp51 : Ev.Spec := fun D l => argA l fun c0 r0 => argF c0 fun a0 r1 => argF r1 fun a1 r2 => argF r2 fun a2 r3 => arg0 r3 (argF r0 fun a3 r100 => arg0 r100 (.ret (.agg [.fl (S51_0 D a0 a3), .fl (S51_1 D a1 a3), .fl (S51_2 D a2 a3)])))
theorem en51 : ∀ l r, (sp51 R l).run = some r → Entry Try.prog 51 l r := by
  intro l r h
  obtain ⟨_, _, h, L0⟩ := argA_inv h
  obtain ⟨x1, _, h, L1⟩ := argF_inv h
  obtain ⟨x2, _, h, L2⟩ := argF_inv h
  obtain ⟨x3, _, h, L3⟩ := argF_inv h
  obtain ⟨h, L4⟩ := arg0_inv h
  obtain ⟨x5, _, h, L5⟩ := argF_inv h
  obtain ⟨h, L6⟩ := arg0_inv h
  cases h
  exact (entry_of prg tok_26 (ev51 R x1 x2 x3 x5) (fun o ho => nomatch ho) rfl).le (L0 _ _ (L1 _ (L2 _ (L3 _ L4))) (L5 _ L6))
def tl_51 : List (Nat × Ev.Spec) := (51, sp51) :: tl_26
def tbl_51 (D : Dom) : Tbl D := tblOf tl_51 D
theorem tok_51 : TblOK Try.prog (tbl_51 R) := TblOK.cons tok_26 en51

-- penumbra/vec.Add$1
def S57_0 (D : Dom) (a0 : D.F) (a1 : D.F) : D.F := (D.fadd a0 a1)
theorem ev57 (D : Dom) (a0 : D.F) (a1 : D.F) : joinT (evFn Try.prog (tbl_51 D) 60 57 [.fl a0, .fl a1]) = .val none (.fl (S57_0 D a0 a1)) := by kernel_rfl
def sp57 : Ev.Spec := fun D l => argF l fun a0 r0 => argF r0 fun a1 r1 => arg0 r1 (.ret (.fl (S57_0 D a0 a1)))
theorem en57 : ∀ l r, (sp57 R l).run = some r → Entry Try.prog 57 l r := by
  intro l r h
  obtain ⟨x0, _, h, L0⟩ := argF_inv h
  obtain ⟨x1, _, h, L1⟩ := argF_inv h
  obtain ⟨h, L2⟩ := arg0_inv h
  cases h
  exact (entry_of prg tok_51 (ev57 R x0 x1) (fun o ho => nomatch ho) rfl).le (L0 _ (L1 _ L2))
def tl_57 : List (Nat × Ev.Spec) := (57, sp57) :: tl_51
def tbl_57 (D : Dom) : Tbl D := tblOf tl_57 D
theorem tok_57 : TblOK Try.prog (tbl_57 R) := TblOK.cons tok_51 en57

-- penumbra/vec.Add
def S50_0 (D : Dom) (a0 : D.F) (a3 : D.F) : D.F := (S57_0 D a0 a3)
def S50_1 (D : Dom) (a1 : D.F) (a4 : D.F) : D.F := (S57_0 D a1 a4)
def S50_2 (D : Dom) (a2 : D.F) (a5 : D.F) : D.F := (S57_0 D a2 a5)
theorem ev50 (D : Dom) (a0 : D.F) (a1 : D.F) (a2 : D.F) (a3 : D.F) (a4 : D.F) (a5 : D.F) : joinT (evFn Try.prog (tbl_57 D) 60 50 [.agg [.fl a0, .fl a1, .fl a2], .agg [.fl a3, .fl a4, .fl a5]]) = .val none (.agg [.fl (S50_0 D a0 a3), .fl (S50_1 D a1 a4), .fl (S50_2 D a2 a5)]) := by kernel_rfl
def sp50 : Ev.Spec := fun D l => argA l fun c0 r0 => argF c0 fun a0 r1 => argF r1 fun a1 r2 => argF r2 fun a2 r3 => arg0 r3 (argA r0 fun c100 r100 => argF c100 fun a3 r101 => argF r101 fun a4 r102 => argF r102 fun a5 r103 => arg0 r103 (arg0 r100 (.ret (.agg [.fl (S50_0 D a0 a3), .fl (S50_1 D a1 a4), .fl (S50_2 D a2 a5)]))))
theorem en50 : ∀ l r, (sp50 R l).run = some r → Entry Try.prog 50 l r := by
  intro l r h
  obtain ⟨_, _, h, L0⟩ := argA_inv h
  obtain ⟨x1, _, h, L1⟩ := argF_inv h
  obtain ⟨x2, _, h, L2⟩ := argF_inv h
  obtain ⟨x3, _, h, L3⟩ := argF_inv h
  obtain ⟨h, L4⟩ := arg0_inv h
  obtain ⟨_, _, h, L5⟩ := argA_inv h
  obtain ⟨x6, _, h, L6⟩ := argF_inv h
  obtain ⟨x7, _, h, L7⟩ := argF_inv h
  obtain ⟨x8, _, h, L8⟩ := argF_inv h
  obtain ⟨h, L9⟩ := arg0_inv h
  obtain ⟨h, L10⟩ := arg0_inv h
  cases h
  exact (entry_of prg tok_57 (ev50 R x1 x2 x3 x6 x7 x8) (fun o ho => nomatch ho) rfl).le (L0 _ _ (L1 _ (L2 _ (L3 _ L4))) (L5 _ _ (L6 _ (L7 _ (L8 _ L9))) L10))
def tl_50 : List (Nat × Ev.Spec) := (50, sp50) :: tl_57
def tbl_50 (D : Dom) : Tbl D := tblOf tl_50 D
theorem tok_50 : TblOK Try.prog (tbl_50 R) := TblOK.cons tok_57 en50

-- penumbra/frame.From
def S28_0 (D : Dom) (a0 : D.F) (a3 : D.F) (a6 : D.F) (a9 : D.F) (a10 : D.F) (a11 : D.F) : D.F := (S50_0 D (S50_0 D (S51_0 D (S46_0 D a0) a9) (S51_0 D (S46_3 D a3) a10)) (S51_0 D (S46_6 D a6) a11))
def S28_1 (D : Dom) (a1 : D.F) (a4 : D.F) (a7 : D.F) (a9 : D.F) (a10 : D.F) (a11 : D.F) : D.F := (S50_1 D (S50_1 D (S51_1 D (S46_1 D a1) a9) (S51_1 D (S46_4 D a4) a10)) (S51_1 D (S46_7 D a7) a11))
def S28_2 (D : Dom) (a2 : D.F) (a5 : D.F) (a8 : D.F) (a9 : D.F) (a10 : D.F) (a11 : D.F) : D.F := (S50_2 D (S50_2 D (S51_2 D (S46_2 D a2) a9) (S51_2 D (S46_5 D a5) a10)) (S51_2 D (S46_8 D a8) a11))
theorem ev28 (D : Dom) (a0 : D.F) (a1 : D.F) (a2 : D.F) (a3 : D.F) (a4 : D.F) (a5 : D.F) (a6 : D.F) (a7 : D.F) (a8 : D.F) (a9 : D.F) (a10 : D.F) (a11 : D.F) : joinT (evFn Try.prog (tbl_50 D) 60 28 [.agg [.fl a0, .fl a1, .fl a2, .fl a3, .fl a4, .fl a5, .fl a6, .fl a7, .fl a8], .agg [.fl a9, .fl a10, .fl a11]]) = .val none (.agg [.fl (S28_0 D a0 a3 a6 a9 a10 a11), .fl (S28_1 D a1 a4 a7 a9 a10 a11), .fl (S28_2 D a2 a5 a8 a9 a10 a11)]) := by kernel_rfl
def sp28 : Ev.Spec := fun D l => argA l fun c0 r0 => argF c0 fun a0 r1 => argF r1 fun a1 r2 => argF r2 fun a2 r3 => argF r3 fun a3 r4 => argF r4 fun a4 r5 => argF r5 fun a5 r6 => argF r6 fun a6 r7 => argF r7 fun a7 r8 => argF r8 fun a8 r9 => arg0 r9 (argA r0 fun c100 r100 => argF c100 fun a9 r101 => argF r101 fun a10 r102 => argF r102 fun a11 r103 => arg0 r103 (arg0 r100 (.ret (.agg [.fl (S28_0 D a0 a3 a6 a9 a10 a11), .fl (S28_1 D a1 a4 a7 a9 a10 a11), .fl (S28_2 D a2 a5 a8 a9 a10 a11)]))))
theorem en28 : ∀ l r, (sp28 R l).run = some r → Entry Try.prog 28 l r := by
  intro l r h
  obtain ⟨_, _, h, L0⟩ := argA_inv h
  obtain ⟨x1, _, h, L1⟩ := argF_inv h
  obtain ⟨x2, _, h, L2⟩ := argF_inv h
  obtain ⟨x3, _, h, L3⟩ := argF_inv h
  obtain ⟨x4, _, h, L4⟩ := argF_inv h
  obtain ⟨x5, _, h, L5⟩ := argF_inv h
  obtain ⟨x6, _, h, L6⟩ := argF_inv h
  obtain ⟨x7, _, h, L7⟩ := argF_inv h
  obtain ⟨x8, _, h, L8⟩ := argF_inv h
  obtain ⟨x9, _, h, L9⟩ := argF_inv h
  obtain ⟨h, L10⟩ := arg0_inv h
  obtain ⟨_, _, h, L11⟩ := argA_inv h
  obtain ⟨x12, _, h, L12⟩ := argF_inv h
  obtain ⟨x13, _, h, L13⟩ := argF_inv h
  obtain ⟨x14, _, h, L14⟩ := argF_inv h
  obtain ⟨h, L15⟩ := arg0_inv h
  obtain ⟨h, L16⟩ := arg0_inv h
  cases h
  exact (entry_of prg tok_50 (ev28 R x1 x2 x3 x4 x5 x6 x7 x8 x9 x12 x13 x14) (fun o ho => nomatch ho) rfl).le (L0 _ _ (L1 _ (L2 _ (L3 _ (L4 _ (L5 _ (L6 _ (L7 _ (L8 _ (L9 _ L10))))))))) (L11 _ _ (L12 _ (L13 _ (L14 _ L15))) L16))
def tl_28 : List (Nat × Ev.Spec) := (28, sp28) :: tl_50
def tbl_28 (D : Dom) : Tbl D := tblOf tl_28 D
theorem tok_28 : TblOK Try.prog (tbl_28 R) := TblOK.cons tok_50 en28

-- penumbra/penumbralaw03.awake
def S21_0 (D : Dom)  : D.B := (D.bite (D.band (D.feq (S23_0 D (D.fc 0) (D.fc 4607182418800017408)) (D.fc 4607182418800017408)) (D.band (D.feq (S23_1 D (D.fc 0) (D.fc 0) (D.fc 4607182418800017408)) (D.fc 0)) (D.band (D.feq (S23_2 D (D.fc 0) (D.fc 4607182418800017408)) (D.fc 0)) (D.bc true)))) (D.bite (D.band (D.feq (S23_3 D (D.fc 0) (D.fc 0) (D.fc 4607182418800017408)) (D.fc 0)) (D.band (D.feq (S23_4 D (D.fc 0) (D.fc 4607182418800017408)) (D.fc 4607182418800017408)) (D.band (D.feq (S23_5 D (D.fc 0)) (D.fc 0)) (D.bc true)))) (D.bite (D.band (D.feq (S23_0 D (D.fc 0) (D.fc 13830554455654793216)) (D.fc 4607182418800017408)) (D.band (D.feq (S23_1 D (D.fc 0) (D.fc 0) (D.fc 13830554455654793216)) (D.fc 0)) (D.band (D.feq (S23_2 D (D.fc 0) (D.fc 13830554455654793216)) (D.fc 0)) (D.bc true)))) (D.bite (D.band (D.feq (S23_3 D (D.fc 0) (D.fc 0) (D.fc 13830554455654793216)) (D.fc 0)) (D.band (D.feq (S23_4 D (D.fc 0) (D.fc 13830554455654793216)) (D.fc 13830554455654793216)) (D.band (D.feq (S23_5 D (D.fc 0)) (D.fc 0)) (D.bc true)))) (D.bite (D.band (D.feq (S26_0 D (S23_0 D (D.fc 0) (D.fc 4607182418800017408)) (S23_1 D (D.fc 0) (D.fc 0) (D.fc 4607182418800017408)) (S23_2 D (D.fc 0) (D.fc 4607182418800017408)) (D.fc 4607182418800017408) (D.fc 4611686018427387904) (D.fc 4613937818241073152)) (D.fc 4607182418800017408)) (D.band (D.feq (S26_1 D (S23_3 D (D.fc 0) (D.fc 0) (D.fc 4607182418800017408)) (S23_4 D (D.fc 0) (D.fc 4607182418800017408)) (S23_5 D (D.fc 0)) (D.fc 4607182418800017408) (D.fc 4611686018427387904) (D.fc 4613937818241073152)) (D.fc 4611686018427387904)) (D.band (D.feq (S26_2 D (S23_6 D (D.fc 0)) (S23_7 D (D.fc 0)) (S23_8 D (D.fc 4607182418800017408)) (D.fc 4607182418800017408) (D.fc 4611686018427387904) (D.fc 4613937818241073152)) (D.fc 4613937818241073152)) (D.bc true)))) (D.band (D.feq (S28_0 D (S23_0 D (D.fc 0) (D.fc 4607182418800017408)) (S23_3 D (D.fc 0) (D.fc 0) (D.fc 4607182418800017408)) (S23_6 D (D.fc 0)) (D.fc 4607182418800017408) (D.fc 4611686018427387904) (D.fc 4613937818241073152)) (D.fc 4607182418800017408)) (D.band (D.feq (S28_1 D (S23_1 D (D.fc 0) (D.fc 0) (D.fc 4607182418800017408)) (S23_4 D (D.fc 0) (D.fc 4607182418800017408)) (S23_7 D (D.fc 0)) (D.fc 4607182418800017408) (D.fc 4611686018427387904) (D.fc 4613937818241073152)) (D.fc 4611686018427387904)) (D.band (D.feq (S28_2 D (S23_2 D (D.fc 0) (D.fc 4607182418800017408)) (S23_5 D (D.fc 0)) (S23_8 D (D.fc 4607182418800017408)) (D.fc 4607182418800017408) (D.fc 4611686018427387904) (D.fc 4613937818241073152)) (D.fc 4613937818241073152)) (D.bc true)))) (D.bc false)) (D.bc false)) (D.bc false)) (D.bc false)) (D.bc false))
theorem ev21 (D : Dom)  : joinT (evFn Try.prog (tbl_28 D) 60 21 []) = .val none (.sb (S21_0 D)) := by kernel_rfl
def sp21 : Ev.Spec := fun D l => arg0 l (.ret (.sb (S21_0 D)))
theorem en21 : ∀ l r, (sp21 R l).run = some r → Entry Try.prog 21 l r := by
  intro l r h
  obtain ⟨h, L0⟩ := arg0_inv h
  cases h
  exact (entry_of prg tok_28 (ev21 R ) (fun o ho => nomatch ho) rfl).le L0
def tl_21 : List (Nat × Ev.Spec) := (21, sp21) :: tl_28
def tbl_21 (D : Dom) : Tbl D := tblOf tl_21 D
theorem tok_21 : TblOK Try.prog (tbl_21 R) := TblOK.cons tok_28 en21

-- penumbra/penumbraref03.New
def S24_0 (D : Dom) (a0 : D.F) (a2 : D.F) : D.F := (D.fadd (D.fc 4607182418800017408) (D.fmul (D.fmul (D.fmul (D.fite (D.bite (D.fge a2 (D.fc 0)) (D.bc true) (D.bnot (D.feq a2 a2))) (D.fc 4607182418800017408) (D.fc 13830554455654793216)) a0) a0) (D.fdiv (D.fc 13830554455654793216) (D.fadd (D.fite (D.bite (D.fge a2 (D.fc 0)) (D.bc true) (D.bnot (D.feq a2 a2))) (D.fc 4607182418800017408) (D.fc 13830554455654793216)) a2))))
def S24_1 (D : Dom) (a0 : D.F) (a1 : D.F) (a2 : D.F) : D.F := (D.fmul (D.fite (D.bite (D.fge a2 (D.fc 0)) (D.bc true) (D.bnot (D.feq a2 a2))) (D.fc 4607182418800017408) (D.fc 13830554455654793216)) (D.fmul (D.fmul a0 a1) (D.fdiv (D.fc 13830554455654793216) (D.fadd (D.fite (D.bite (D.fge a2 (D.fc 0)) (D.bc true) (D.bnot (D.feq a2 a2))) (D.fc 4607182418800017408) (D.fc 13830554455654793216)) a2))))
def S24_2 (D : Dom) (a0 : D.F) (a2 : D.F) : D.F := (D.fsub (D.fc 0) (D.fmul (D.fite (D.bite (D.fge a2 (D.fc 0)) (D.bc true) (D.bnot (D.feq a2 a2))) (D.fc 4607182418800017408) (D.fc 13830554455654793216)) a0))
def S24_3 (D : Dom) (a0 : D.F) (a1 : D.F) (a2 : D.F) : D.F := (D.fmul (D.fmul a0 a1) (D.fdiv (D.fc 13830554455654793216) (D.fadd (D.fite (D.bite (D.fge a2 (D.fc 0)) (D.bc true) (D.bnot (D.feq a2 a2))) (D.fc 4607182418800017408) (D.fc 13830554455654793216)) a2)))
def S24_4 (D : Dom) (a1 : D.F) (a2 : D.F) : D.F := (D.fadd (D.fite (D.bite (D.fge a2 (D.fc 0)) (D.bc true) (D.bnot (D.feq a2 a2))) (D.fc 4607182418800017408) (D.fc 13830554455654793216)) (D.fmul (D.fmul a1 a1) (D.fdiv (D.fc 13830554455654793216) (D.fadd (D.fite (D.bite (D.fge a2 (D.fc 0)) (D.bc true) (D.bnot (D.feq a2 a2))) (D.fc 4607182418800017408) (D.fc 13830554455654793216)) a2))))
def S24_5 (D : Dom) (a1 : D.F) : D.F := (D.fsub (D.fc 0) a1)
def S24_6 (D : Dom) (a0 : D.F) : D.F := a0
def S24_7 (D : Dom) (a1 : D.F) : D.F := a1
def S24_8 (D : Dom) (a2 : D.F) : D.F := a2
theorem ev24 (D : Dom) (a0 : D.F) (a1 : D.F) (a2 : D.F) : joinT (evFn Try.prog (tbl_21 D) 60 24 [.agg [.fl a0, .fl a1, .fl a2]]) = .val none (.agg [.fl (S24_0 D a0 a2), .fl (S24_1 D a0 a1 a2), .fl (S24_2 D a0 a2), .fl (S24_3 D a0 a1 a2), .fl (S24_4 D a1 a2), .fl (S24_5 D a1), .fl (S24_6 D a0), .fl (S24_7 D a1), .fl (S24_8 D a2)]) := by kernel_rfl
def sp24 : Ev.Spec := fun D l => argA l fun c0 r0 => argF c0 fun a0 r1 => argF r1 fun a1 r2 => argF r2 fun a2 r3 => arg0 r3 (arg0 r0 (.ret (.agg [.fl (S24_0 D a0 a2), .fl (S24_1 D a0 a1 a2), .fl (S24_2 D a0 a2), .fl (S24_3 D a0 a1 a2), .fl (S24_4 D a1 a2), .fl (S24_5 D a1), .fl (S24_6 D a0), .fl (S24_7 D a1), .fl (S24_8 D a2)])))
theorem en24 : ∀ l r, (sp24 R l).run = some r → Entry Try.prog 24 l r := by
  intro l r h
  obtain ⟨_, _, h, L0⟩ := argA_inv h
  obtain ⟨x1, _, h, L1⟩ := argF_inv h
  obtain ⟨x2, _, h, L2⟩ := argF_inv h
  obtain ⟨x3, _, h, L3⟩ := argF_inv h
  obtain ⟨h, L4⟩ := arg0_inv h
  obtain ⟨h, L5⟩ := arg0_inv h
  cases h
  exact (entry_of prg tok_21 (ev24 R x1 x2 x3) (fun o ho => nomatch ho) rfl).le (L0 _ _ (L1 _ (L2 _ (L3 _ L4))) L5)
def tl_24 : List (Nat × Ev.Spec) := (24, sp24) :: tl_21
def tbl_24 (D : Dom) : Tbl D := tblOf tl_24 D
theorem tok_24 : TblOK Try.prog (tbl_24 R) := TblOK.cons tok_21 en24

-- penumbra/penumbraref02.Is
def S25_0 (D : Dom) (a0 : D.F) (a1 : D.F) (a2 : D.F) (a3 : D.F) (a4 : D.F) (a5 : D.F) : D.B := (D.bite (D.bite (S10_0 D a0 a3) (S10_0 D a1 a4) (D.bc false)) (S10_0 D a2 a5) (D.bc false))
theorem ev25 (D : Dom) (a0 : D.F) (a1 : D.F) (a2 : D.F) (a3 : D.F) (a4 : D.F) (a5 : D.F) : joinT (evFn Try.prog (tbl_24 D) 60 25 [.agg [.fl a0, .fl a1, .fl a2], .agg [.fl a3, .fl a4, .fl a5]]) = .val none (.sb (S25_0 D a0 a1 a2 a3 a4 a5)) := by kernel_rfl
def sp25 : Ev.Spec := fun D l => argA l fun c0 r0 => argF c0 fun a0 r1 => argF r1 fun a1 r2 => argF r2 fun a2 r3 => arg0 r3 (argA r0 fun c100 r100 => argF c100 fun a3 r101 => argF r101 fun a4 r102 => argF r102 fun a5 r103 => arg0 r103 (arg0 r100 (.ret (.sb (S25_0 D a0 a1 a2 a3 a4 a5)))))
theorem en25 : ∀ l r, (sp25 R l).run = some r → Entry Try.prog 25 l r := by
  intro l r h
  obtain ⟨_, _, h, L0⟩ := argA_inv h
  obtain ⟨x1, _, h, L1⟩ := argF_inv h
  obtain ⟨x2, _, h, L2⟩ := argF_inv h
  obtain ⟨x3, _, h, L3⟩ := argF_inv h
  obtain ⟨h, L4⟩ := arg0_inv h
  obtain ⟨_, _, h, L5⟩ := argA_inv h
  obtain ⟨x6, _, h, L6⟩ := argF_inv h
  obtain ⟨x7, _, h, L7⟩ := argF_inv h
  obtain ⟨x8, _, h, L8⟩ := argF_inv h
  obtain ⟨h, L9⟩ := arg0_inv h
  obtain ⟨h, L10⟩ := arg0_inv h
  cases h
  exact (entry_of prg tok_24 (ev25 R x1 x2 x3 x6 x7 x8) (fun o ho => nomatch ho) rfl).le (L0 _ _ (L1 _ (L2 _ (L3 _ L4))) (L5 _ _ (L6 _ (L7 _ (L8 _ L9))) L10))
def tl_25 : List (Nat × Ev.Spec) := (25, sp25) :: tl_24
def tbl_25 (D : Dom) : Tbl D := tblOf tl_25 D
theorem tok_25 : TblOK Try.prog (tbl_25 R) := TblOK.cons tok_24 en25

-- penumbra/penumbraref03.Is
def S22_0 (D : Dom) (a0 : D.F) (a1 : D.F) (a2 : D.F) (a3 : D.F) (a4 : D.F) (a5 : D.F) (a6 : D.F) (a7 : D.F) (a8 : D.F) (a9 : D.F) (a10 : D.F) (a11 : D.F) (a12 : D.F) (a13 : D.F) (a14 : D.F) (a15 : D.F) (a16 : D.F) (a17 : D.F) : D.B := (D.bite (D.bite (S25_0 D a0 a1 a2 a9 a10 a11) (S25_0 D a3 a4 a5 a12 a13 a14) (D.bc false)) (S25_0 D a6 a7 a8 a15 a16 a17) (D.bc false))
theorem ev22 (D : Dom) (a0 : D.F) (a1 : D.F) (a2 : D.F) (a3 : D.F) (a4 : D.F) (a5 : D.F) (a6 : D.F) (a7 : D.F) (a8 : D.F) (a9 : D.F) (a10 : D.F) (a11 : D.F) (a12 : D.F) (a13 : D.F) (a14 : D.F) (a15 : D.F) (a16 : D.F) (a17 : D.F) : joinT (evFn Try.prog (tbl_25 D) 60 22 [.agg [.fl a0, .fl a1, .fl a2, .fl a3, .fl a4, .fl a5, .fl a6, .fl a7, .fl a8], .agg [.fl a9, .fl a10, .fl a11, .fl a12, .fl a13, .fl a14, .fl a15, .fl a16, .fl a17]]) = .val none (.sb (S22_0 D a0 a1 a2 a3 a4 a5 a6 a7 a8 a9 a10 a11 a12 a13 a14 a15 a16 a17)) := by kernel_rfl
def sp22 : Ev.Spec := fun D l => argA l fun c0 r0 => argF c0 fun a0 r1 => argF r1 fun a1 r2 => argF r2 fun a2 r3 => argF r3 fun a3 r4 => argF r4 fun a4 r5 => argF r5 fun a5 r6 => argF r6 fun a6 r7 => argF r7 fun a7 r8 => argF r8 fun a8 r9 => arg0 r9 (argA r0 fun c100 r100 => argF c100 fun a9 r101 => argF r101 fun a10 r102 => argF r102 fun a11 r103 => argF r103 fun a12 r104 => argF r104 fun a13 r105 => argF r105 fun a14 r106 => argF r106 fun a15 r107 => argF r107 fun a16 r108 => argF r108 fun a17 r109 => arg0 r109 (arg0 r100 (.ret (.sb (S22_0 D a0 a1 a2 a3 a4 a5 a6 a7 a8 a9 a10 a11 a12 a13 a14 a15 a16 a17)))))
theorem en22 : ∀ l r, (sp22 R l).run = some r → Entry Try.prog 22 l r := by
  intro l r h
  obtain ⟨_, _, h, L0⟩ := argA_inv h
  obtain ⟨x1, _, h, L1⟩ := argF_inv h
  obtain ⟨x2, _, h, L2⟩ := argF_inv h
  obtain ⟨x3, _, h, L3⟩ := argF_inv h
  obtain ⟨x4, _, h, L4⟩ := argF_inv h
  obtain ⟨x5, _, h, L5⟩ := argF_inv h
  obtain ⟨x6, _, h, L6⟩ := argF_inv h
  obtain ⟨x7, _, h, L7⟩ := argF_inv h
  obtain ⟨x8, _, h, L8⟩ := argF_inv h
  obtain ⟨x9, _, h, L9⟩ := argF_inv h
  obtain ⟨h, L10⟩ := arg0_inv h
  obtain ⟨_, _, h, L11⟩ := argA_inv h
  obtain ⟨x12, _, h, L12⟩ := argF_inv h
  obtain ⟨x13, _, h, L13⟩ := argF_inv h
  obtain ⟨x14, _, h, L14⟩ := argF_inv h
  obtain ⟨x15, _, h, L15⟩ := argF_inv h
  obtain ⟨x16, _, h, L16⟩ := argF_inv h
  obtain ⟨x17, _, h, L17⟩ := argF_inv h
  obtain ⟨x18, _, h, L18⟩ := argF_inv h
  obtain ⟨x19, _, h, L19⟩ := argF_inv h
  obtain ⟨x20, _, h, L20⟩ := argF_inv h
  obtain ⟨h, L21⟩ := arg0_inv h
  obtain ⟨h, L22⟩ := arg0_inv h
  cases h
  exact (entry_of prg tok_25 (ev22 R x1 x2 x3 x4 x5 x6 x7 x8 x9 x12 x13 x14 x15 x16 x17 x18 x19 x20) (fun o ho => nomatch ho) rfl).le (L0 _ _ (L1 _ (L2 _ (L3 _ (L4 _ (L5 _ (L6 _ (L7 _ (L8 _ (L9 _ L10))))))))) (L11 _ _ (L12 _ (L13 _ (L14 _ (L15 _ (L16 _ (L17 _ (L18 _ (L19 _ (L20 _ L21))))))))) L22))
def tl_22 : List (Nat × Ev.Spec) := (22, sp22) :: tl_25
def tbl_22 (D : Dom) : Tbl D := tblOf tl_22 D
theorem tok_22 : TblOK Try.prog (tbl_22 R) := TblOK.cons tok_25 en22

-- penumbra/penumbralaw03.FrameMakes
def S5_0 (D : Dom) (a0 : D.F) (a1 : D.F) (a2 : D.F) : D.B := (D.bite (S21_0 D) (S22_0 D (S23_0 D a0 a2) (S23_1 D a0 a1 a2) (S23_2 D a0 a2) (S23_3 D a0 a1 a2) (S23_4 D a1 a2) (S23_5 D a1) (S23_6 D a0) (S23_7 D a1) (S23_8 D a2) (S24_0 D a0 a2) (S24_1 D a0 a1 a2) (S24_2 D a0 a2) (S24_3 D a0 a1 a2) (S24_4 D a1 a2) (S24_5 D a1) (S24_6 D a0) (S24_7 D a1) (S24_8 D a2)) (D.bc false))
theorem ev5 (D : Dom) (a0 : D.F) (a1 : D.F) (a2 : D.F) : joinT (evFn Try.prog (tbl_22 D) 60 5 [.agg [.fl a0, .fl a1, .fl a2]]) = .val none (.sb (S5_0 D a0 a1 a2)) := by kernel_rfl
def sp5 : Ev.Spec := fun D l => argA l fun c0 r0 => argF c0 fun a0 r1 => argF r1 fun a1 r2 => argF r2 fun a2 r3 => arg0 r3 (arg0 r0 (.ret (.sb (S5_0 D a0 a1 a2))))
theorem en5 : ∀ l r, (sp5 R l).run = some r → Entry Try.prog 5 l r := by
  intro l r h
  obtain ⟨_, _, h, L0⟩ := argA_inv h
  obtain ⟨x1, _, h, L1⟩ := argF_inv h
  obtain ⟨x2, _, h, L2⟩ := argF_inv h
  obtain ⟨x3, _, h, L3⟩ := argF_inv h
  obtain ⟨h, L4⟩ := arg0_inv h
  obtain ⟨h, L5⟩ := arg0_inv h
  cases h
  exact (entry_of prg tok_22 (ev5 R x1 x2 x3) (fun o ho => nomatch ho) rfl).le (L0 _ _ (L1 _ (L2 _ (L3 _ L4))) L5)
def tl_5 : List (Nat × Ev.Spec) := (5, sp5) :: tl_22
def tbl_5 (D : Dom) : Tbl D := tblOf tl_5 D
theorem tok_5 : TblOK Try.prog (tbl_5 R) := TblOK.cons tok_22 en5

-- penumbra/penumbraref02.Dot
def S49_0 (D : Dom) (a0 : D.F) (a1 : D.F) (a2 : D.F) (a3 : D.F) (a4 : D.F) (a5 : D.F) : D.F := (D.fadd (D.fadd (D.fmul a0 a3) (D.fmul a1 a4)) (D.fmul a2 a5))
theorem ev49 (D : Dom) (a0 : D.F) (a1 : D.F) (a2 : D.F) (a3 : D.F) (a4 : D.F) (a5 : D.F) : joinT (evFn Try.prog (tbl_5 D) 60 49 [.agg [.fl a0, .fl a1, .fl a2], .agg [.fl a3, .fl a4, .fl a5]]) = .val none (.fl (S49_0 D a0 a1 a2 a3 a4 a5)) := by kernel_rfl
def sp49 : Ev.Spec := fun D l => argA l fun c0 r0 => argF c0 fun a0 r1 => argF r1 fun a1 r2 => argF r2 fun a2 r3 => arg0 r3 (argA r0 fun c100 r100 => argF c100 fun a3 r101 => argF r101 fun a4 r102 => argF r102 fun a5 r103 => arg0 r103 (arg0 r100 (.ret (.fl (S49_0 D a0 a1 a2 a3 a4 a5)))))
theorem en49 : ∀ l r, (sp49 R l).run = some r → Entry Try.prog 49 l r := by
  intro l r h
  obtain ⟨_, _, h, L0⟩ := argA_inv h
  obtain ⟨x1, _, h, L1⟩ := argF_inv h
  obtain ⟨x2, _, h, L2⟩ := argF_inv h
  obtain ⟨x3, _, h, L3⟩ := argF_inv h
  obtain ⟨h, L4⟩ := arg0_inv h
  obtain ⟨_, _, h, L5⟩ := argA_inv h
  obtain ⟨x6, _, h, L6⟩ := argF_inv h
  obtain ⟨x7, _, h, L7⟩ := argF_inv h
  obtain ⟨x8, _, h, L8⟩ := argF_inv h
  obtain ⟨h, L9⟩ := arg0_inv h
  obtain ⟨h, L10⟩ := arg0_inv h
  cases h
  exact (entry_of prg tok_5 (ev49 R x1 x2 x3 x6 x7 x8) (fun o ho => nomatch ho) rfl).le (L0 _ _ (L1 _ (L2 _ (L3 _ L4))) (L5 _ _ (L6 _ (L7 _ (L8 _ L9))) L10))
def tl_49 : List (Nat × Ev.Spec) := (49, sp49) :: tl_5
def tbl_49 (D : Dom) : Tbl D := tblOf tl_49 D
theorem tok_49 : TblOK Try.prog (tbl_49 R) := TblOK.cons tok_5 en49

-- penumbra/penumbraref03.To
def S27_0 (D : Dom) (a0 : D.F) (a1 : D.F) (a2 : D.F) (a9 : D.F) (a10 : D.F) (a11 : D.F) : D.F := (S49_0 D a9 a10 a11 a0 a1 a2)
def S27_1 (D : Dom) (a3 : D.F) (a4 : D.F) (a5 : D.F) (a9 : D.F) (a10 : D.F) (a11 : D.F) : D.F := (S49_0 D a9 a10 a11 a3 a4 a5)
def S27_2 (D : Dom) (a6 : D.F) (a7 : D.F) (a8 : D.F) (a9 : D.F) (a10 : D.F) (a11 : D.F) : D.F := (S49_0 D a9 a10 a11 a6 a7 a8)
theorem ev27 (D : Dom) (a0 : D.F) (a1 : D.F) (a2 : D.F) (a3 : D.F) (a4 : D.F) (a5 : D.F) (a6 : D.F) (a7 : D.F) (a8 : D.F) (a9 : D.F) (a10 : D.F) (a11 : D.F) : joinT (evFn Try.prog (tbl_49 D) 60 27 [.agg [.fl a0, .fl a1, .fl a2, .fl a3, .fl a4, .fl a5, .fl a6, .fl a7, .fl a8], .agg [.fl a9, .fl a10, .fl a11]]) = .val none (.agg [.fl (S27_0 D a0 a1 a2 a9 a10 a11), .fl (S27_1 D a3 a4 a5 a9 a10 a11), .fl (S27_2 D a6 a7 a8 a9 a10 a11)]) := by kernel_rfl
def sp27 : Ev.Spec := fun D l => argA l fun c0 r0 => argF c0 fun a0 r1 => argF r1 fun a1 r2 => argF r2 fun a2 r3 => argF r3 fun a3 r4 => argF r4 fun a4 r5 => argF r5 fun a5 r6 => argF r6 fun a6 r7 => argF r7 fun a7 r8 => argF r8 fun a8 r9 => arg0 r9 (argA r0 fun c100 r100 => argF c100 fun a9 r101 => argF r101 fun a10 r102 => argF r102 fun a11 r103 => arg0 r103 (arg0 r100 (.ret (.agg [.fl (S27_0 D a0 a1 a2 a9 a10 a11), .fl (S27_1 D a3 a4 a5 a9 a10 a11), .fl (S27_2 D a6 a7 a8 a9 a10 a11)]))))
theorem en27 : ∀ l r, (sp27 R l).run = some r → Entry Try.prog 27 l r := by
  intro l r h
  obtain ⟨_, _, h, L0⟩ := argA_inv h
  obtain ⟨x1, _, h, L1⟩ := argF_inv h
  obtain ⟨x2, _, h, L2⟩ := argF_inv h
  obtain ⟨x3, _, h, L3⟩ := argF_inv h
  obtain ⟨x4, _, h, L4⟩ := argF_inv h
  obtain ⟨x5, _, h, L5⟩ := argF_inv h
  obtain ⟨x6, _, h, L6⟩ := argF_inv h
  obtain ⟨x7, _, h, L7⟩ := argF_inv h
  obtain ⟨x8, _, h, L8⟩ := argF_inv h
  obtain ⟨x9, _, h, L9⟩ := argF_inv h
  obtain ⟨h, L10⟩ := arg0_inv h
  obtain ⟨_, _, h, L11⟩ := argA_inv h
  obtain ⟨x12, _, h, L12⟩ := argF_inv h
  obtain ⟨x13, _, h, L13⟩ := argF_inv h
  obtain ⟨x14, _, h, L14⟩ := argF_inv h
  obtain ⟨h, L15⟩ := arg0_inv h
  obtain ⟨h, L16⟩ := arg0_inv h
  cases h
  exact (entry_of prg tok_49 (ev27 R x1 x2 x3 x4 x5 x6 x7 x8 x9 x12 x13 x14) (fun o ho => nomatch ho) rfl).le (L0 _ _ (L1 _ (L2 _ (L3 _ (L4 _ (L5 _ (L6 _ (L7 _ (L8 _ (L9 _ L10))))))))) (L11 _ _ (L12 _ (L13 _ (L14 _ L15))) L16))
def tl_27 : List (Nat × Ev.Spec) := (27, sp27) :: tl_49
def tbl_27 (D : Dom) : Tbl D := tblOf tl_27 D
theorem tok_27 : TblOK Try.prog (tbl_27 R) := TblOK.cons tok_49 en27

-- penumbra/penumbraref02.Scale
def S53_0 (D : Dom) (a0 : D.F) (a3 : D.F) : D.F := (D.fmul a0 a3)
def S53_1 (D : Dom) (a1 : D.F) (a3 : D.F) : D.F := (D.fmul a1 a3)
def S53_2 (D : Dom) (a2 : D.F) (a3 : D.F) : D.F := (D.fmul a2 a3)
theorem ev53 (D : Dom) (a0 : D.F) (a1 : D.F) (a2 : D.F) (a3 : D.F) : joinT (evFn Try.prog (tbl_27 D) 60 53 [.agg [.fl a0, .fl a1, .fl a2], .fl a3]) = .val none (.agg [.fl (S53_0 D a0 a3), .fl (S53_1 D a1 a3), .fl (S53_2 D a2 a3)]) := by kernel_rfl
def sp53 : Ev.Spec := fun D l => argA l fun c0 r0 => argF c0 fun a0 r1 => argF r1 fun a1 r2 => argF r2 fun a2 r3 => arg0 r3 (argF r0 fun a3 r100 => arg0 r100 (.ret (.agg [.fl (S53_0 D a0 a3), .fl (S53_1 D a1 a3), .fl (S53_2 D a2 a3)])))
theorem en53 : ∀ l r, (sp53 R l).run = some r → Entry Try.prog 53 l r := by
  intro l r h
  obtain ⟨_, _, h, L0⟩ := argA_inv h
  obtain ⟨x1, _, h, L1⟩ := argF_inv h
  obtain ⟨x2, _, h, L2⟩ := argF_inv h
  obtain ⟨x3, _, h, L3⟩ := argF_inv h
  obtain ⟨h, L4⟩ := arg0_inv h
  obtain ⟨x5, _, h, L5⟩ := argF_inv h
  obtain ⟨h, L6⟩ := arg0_inv h
  cases h
  exact (entry_of prg tok_27 (ev53 R x1 x2 x3 x5) (fun o ho => nomatch ho) rfl).le (L0 _ _ (L1 _ (L2 _ (L3 _ L4))) (L5 _ L6))
def tl_53 : List (Nat × Ev.Spec) := (53, sp53) :: tl_27
def tbl_53 (D : Dom) : Tbl D := tblOf tl_53 D
theorem tok_53 : TblOK Try.prog (tbl_53 R) := TblOK.cons tok_27 en53

-- penumbra/penumbraref02.Add
def S52_0 (D : Dom) (a0 : D.F) (a3 : D.F) : D.F := (D.fadd a0 a3)
def S52_1 (D : Dom) (a1 : D.F) (a4 : D.F) : D.F := (D.fadd a1 a4)
def S52_2 (D : Dom) (a2 : D.F) (a5 : D.F) : D.F := (D.fadd a2 a5)
theorem ev52 (D : Dom) (a0 : D.F) (a1 : D.F) (a2 : D.F) (a3 : D.F) (a4 : D.F) (a5 : D.F) : joinT (evFn Try.prog (tbl_53 D) 60 52 [.agg [.fl a0, .fl a1, .fl a2], .agg [.fl a3, .fl a4, .fl a5]]) = .val none (.agg [.fl (S52_0 D a0 a3), .fl (S52_1 D a1 a4), .fl (S52_2 D a2 a5)]) := by kernel_rfl
def sp52 : Ev.Spec := fun D l => argA l fun c0 r0 => argF c0 fun a0 r1 => argF r1 fun a1 r2 => argF r2 fun a2 r3 => arg0 r3 (argA r0 fun c100 r100 => argF c100 fun a3 r101 => argF r101 fun a4 r102 => argF r102 fun a5 r103 => arg0 r103 (arg0 r100 (.ret (.agg [.fl (S52_0 D a0 a3), .fl (S52_1 D a1 a4), .fl (S52_2 D a2 a5)]))))
theorem en52 : ∀ l r, (sp52 R l).run = some r → Entry Try.prog 52 l r := by
  intro l r h
  obtain ⟨_, _, h, L0⟩ := argA_inv h
  obtain ⟨x1, _, h, L1⟩ := argF_inv h
  obtain ⟨x2, _, h, L2⟩ := argF_inv h
  obtain ⟨x3, _, h, L3⟩ := argF_inv h
  obtain ⟨h, L4⟩ := arg0_inv h
  obtain ⟨_, _, h, L5⟩ := argA_inv h
  obtain ⟨x6, _, h, L6⟩ := argF_inv h
  obtain ⟨x7, _, h, L7⟩ := argF_inv h
  obtain ⟨x8, _, h, L8⟩ := argF_inv h
  obtain ⟨h, L9⟩ := arg0_inv h
  obtain ⟨h, L10⟩ := arg0_inv h
  cases h
  exact (entry_of prg tok_53 (ev52 R x1 x2 x3 x6 x7 x8) (fun o ho => nomatch ho) rfl).le (L0 _ _ (L1 _ (L2 _ (L3 _ L4))) (L5 _ _ (L6 _ (L7 _ (L8 _ L9))) L10))
def tl_52 : List (Nat × Ev.Spec) := (52, sp52) :: tl_53
def tbl_52 (D : Dom) : Tbl D := tblOf tl_52 D
theorem tok_52 : TblOK Try.prog (tbl_52 R) := TblOK.cons tok_53 en52

-- penumbra/penumbraref03.From
def S29_0 (D : Dom) (a0 : D.F) (a3 : D.F) (a6 : D.F) (a9 : D.F) (a10 : D.F) (a11 : D.F) : D.F := (S52_0 D (S52_0 D (S53_0 D a0 a9) (S53_0 D a3 a10)) (S53_0 D a6 a11))
def S29_1 (D : Dom) (a1 : D.F) (a4 : D.F) (a7 : D.F) (a9 : D.F) (a10 : D.F) (a11 : D.F) : D.F := (S52_1 D (S52_1 D (S53_1 D a1 a9) (S53_1 D a4 a10)) (S53_1 D a7 a11))
def S29_2 (D : Dom) (a2 : D.F) (a5 : D.F) (a8 : D.F) (a9 : D.F) (a10 : D.F) (a11 : D.F) : D.F := (S52_2 D (S52_2 D (S53_2 D a2 a9) (S53_2 D a5 a10)) (S53_2 D a8 a11))
theorem ev29 (D : Dom) (a0 : D.F) (a1 : D.F) (a2 : D.F) (a3 : D.F) (a4 : D.F) (a5 : D.F) (a6 : D.F) (a7 : D.F) (a8 : D.F) (a9 : D.F) (a10 : D.F) (a11 : D.F) : joinT (evFn Try.prog (tbl_52 D) 60 29 [.agg [.fl a0, .fl a1, .fl a2, .fl a3, .fl a4, .fl a5, .fl a6, .fl a7, .fl a8], .agg [.fl a9, .fl a10, .fl a11]]) = .val none (.agg [.fl (S29_0 D a0 a3 a6 a9 a10 a11), .fl (S29_1 D a1 a4 a7 a9 a10 a11), .fl (S29_2 D a2 a5 a8 a9 a10 a11)]) := by kernel_rfl
def sp29 : Ev.Spec := fun D l => argA l fun c0 r0 => argF c0 fun a0 r1 => argF r1 fun a1 r2 => argF r2 fun a2 r3 => argF r3 fun a3 r4 => argF r4 fun a4 r5 => argF r5 fun a5 r6 => argF r6 fun a6 r7 => argF r7 fun a7 r8 => argF r8 fun a8 r9 => arg0 r9 (argA r0 fun c100 r100 => argF c100 fun a9 r101 => argF r101 fun a10 r102 => argF r102 fun a11 r103 => arg0 r103 (arg0 r100 (.ret (.agg [.fl (S29_0 D a0 a3 a6 a9 a10 a11), .fl (S29_1 D a1 a4 a7 a9 a10 a11), .fl (S29_2 D a2 a5 a8 a9 a10 a11)]))))
theorem en29 : ∀ l r, (sp29 R l).run = some r → Entry Try.prog 29 l r := by
  intro l r h
  obtain ⟨_, _, h, L0⟩ := argA_inv h
  obtain ⟨x1, _, h, L1⟩ := argF_inv h
  obtain ⟨x2, _, h, L2⟩ := argF_inv h
  obtain ⟨x3, _, h, L3⟩ := argF_inv h
  obtain ⟨x4, _, h, L4⟩ := argF_inv h
  obtain ⟨x5, _, h, L5⟩ := argF_inv h
  obtain ⟨x6, _, h, L6⟩ := argF_inv h
  obtain ⟨x7, _, h, L7⟩ := argF_inv h
  obtain ⟨x8, _, h, L8⟩ := argF_inv h
  obtain ⟨x9, _, h, L9⟩ := argF_inv h
  obtain ⟨h, L10⟩ := arg0_inv h
  obtain ⟨_, _, h, L11⟩ := argA_inv h
  obtain ⟨x12, _, h, L12⟩ := argF_inv h
  obtain ⟨x13, _, h, L13⟩ := argF_inv h
  obtain ⟨x14, _, h, L14⟩ := argF_inv h
  obtain ⟨h, L15⟩ := arg0_inv h
  obtain ⟨h, L16⟩ := arg0_inv h
  cases h
  exact (entry_of prg tok_52 (ev29 R x1 x2 x3 x4 x5 x6 x7 x8 x9 x12 x13 x14) (fun o ho => nomatch ho) rfl).le (L0 _ _ (L1 _ (L2 _ (L3 _ (L4 _ (L5 _ (L6 _ (L7 _ (L8 _ (L9 _ L10))))))))) (L11 _ _ (L12 _ (L13 _ (L14 _ L15))) L16))
def tl_29 : List (Nat × Ev.Spec) := (29, sp29) :: tl_52
def tbl_29 (D : Dom) : Tbl D := tblOf tl_29 D
theorem tok_29 : TblOK Try.prog (tbl_29 R) := TblOK.cons tok_52 en29

-- penumbra/penumbralaw03.FrameTells
def S6_0 (D : Dom) (a0 : D.F) (a1 : D.F) (a2 : D.F) (a3 : D.F) (a4 : D.F) (a5 : D.F) (a6 : D.F) (a7 : D.F) (a8 : D.F) (a9 : D.F) (a10 : D.F) (a11 : D.F) : D.B := (D.bite (S21_0 D) (D.bite (S25_0 D (S26_0 D a0 a1 a2 a9 a10 a11) (S26_1 D a3 a4 a5 a9 a10 a11) (S26_2 D a6 a7 a8 a9 a10 a11) (S27_0 D a0 a1 a2 a9 a10 a11) (S27_1 D a3 a4 a5 a9 a10 a11) (S27_2 D a6 a7 a8 a9 a10 a11)) (S25_0 D (S28_0 D a0 a3 a6 a9 a10 a11) (S28_1 D a1 a4 a7 a9 a10 a11) (S28_2 D a2 a5 a8 a9 a10 a11) (S29_0 D a0 a3 a6 a9 a10 a11) (S29_1 D a1 a4 a7 a9 a10 a11) (S29_2 D a2 a5 a8 a9 a10 a11)) (D.bc false)) (D.bc false))
theorem ev6 (D : Dom) (a0 : D.F) (a1 : D.F) (a2 : D.F) (a3 : D.F) (a4 : D.F) (a5 : D.F) (a6 : D.F) (a7 : D.F) (a8 : D.F) (a9 : D.F) (a10 : D.F) (a11 : D.F) : joinT (evFn Try.prog (tbl_29 D) 60 6 [.agg [.fl a0, .fl a1, .fl a2, .fl a3, .fl a4, .fl a5, .fl a6, .fl a7, .fl a8], .agg [.fl a9, .fl a10, .fl a11]]) = .val none (.sb (S6_0 D a0 a1 a2 a3 a4 a5 a6 a7 a8 a9 a10 a11)) := by kernel_rfl
def sp6 : Ev.Spec := fun D l => argA l fun c0 r0 => argF c0 fun a0 r1 => argF r1 fun a1 r2 => argF r2 fun a2 r3 => argF r3 fun a3 r4 => argF r4 fun a4 r5 => argF r5 fun a5 r6 => argF r6 fun a6 r7 => argF r7 fun a7 r8 => argF r8 fun a8 r9 => arg0 r9 (argA r0 fun c100 r100 => argF c100 fun a9 r101 => argF r101 fun a10 r102 => argF r102 fun a11 r103 => arg0 r103 (arg0 r100 (.ret (.sb (S6_0 D a0 a1 a2 a3 a4 a5 a6 a7 a8 a9 a10 a11)))))
theorem en6 : ∀ l r, (sp6 R l).run = some r → Entry Try.prog 6 l r := by
  intro l r h
  obtain ⟨_, _, h, L0⟩ := argA_inv h
  obtain ⟨x1, _, h, L1⟩ := argF_inv h
  obtain ⟨x2, _, h, L2⟩ := argF_inv h
  obtain ⟨x3, _, h, L3⟩ := argF_inv h
  obtain ⟨x4, _, h, L4⟩ := argF_inv h
  obtain ⟨x5, _, h, L5⟩ := argF_inv h
  obtain ⟨x6, _, h, L6⟩ := argF_inv h
  obtain ⟨x7, _, h, L7⟩ := argF_inv h
  obtain ⟨x8, _, h, L8⟩ := argF_inv h
  obtain ⟨x9, _, h, L9⟩ := argF_inv h
  obtain ⟨h, L10⟩ := arg0_inv h
  obtain ⟨_, _, h, L11⟩ := argA_inv h
  obtain ⟨x12, _, h, L12⟩ := argF_inv h
  obtain ⟨x13, _, h, L13⟩ := argF_inv h
  obtain ⟨x14, _, h, L14⟩ := argF_inv h
  obtain ⟨h, L15⟩ := arg0_inv h
  obtain ⟨h, L16⟩ := arg0_inv h
  cases h
  exact (entry_of prg tok_29 (ev6 R x1 x2 x3 x4 x5 x6 x7 x8 x9 x12 x13 x14) (fun o ho => nomatch ho) rfl).le (L0 _ _ (L1 _ (L2 _ (L3 _ (L4 _ (L5 _ (L6 _ (L7 _ (L8 _ (L9 _ L10))))))))) (L11 _ _ (L12 _ (L13 _ (L14 _ L15))) L16))
def tl_6 : List (Nat × Ev.Spec) := (6, sp6) :: tl_29
def tbl_6 (D : Dom) : Tbl D := tblOf tl_6 D
theorem tok_6 : TblOK Try.prog (tbl_6 R) := TblOK.cons tok_29 en6

-- penumbra/penumbraref05.Add
def S31_0 (D : Dom) (a0 : D.F) (a3 : D.F) : D.F := (D.fadd a0 a3)
def S31_1 (D : Dom) (a1 : D.F) (a4 : D.F) : D.F := (D.fadd a1 a4)
def S31_2 (D : Dom) (a2 : D.F) (a5 : D.F) : D.F := (D.fadd a2 a5)
theorem ev31 (D : Dom) (a0 : D.F) (a1 : D.F) (a2 : D.F) (a3 : D.F) (a4 : D.F) (a5 : D.F) : joinT (evFn Try.prog (tbl_6 D) 60 31 [.agg [.fl a0, .fl a1, .fl a2], .agg [.fl a3, .fl a4, .fl a5]]) = .val none (.agg [.fl (S31_0 D a0 a3), .fl (S31_1 D a1 a4), .fl (S31_2 D a2 a5)]) := by kernel_rfl
def sp31 : Ev.Spec := fun D l => argA l fun c0 r0 => argF c0 fun a0 r1 => argF r1 fun a1 r2 => argF r2 fun a2 r3 => arg0 r3 (argA r0 fun c100 r100 => argF c100 fun a3 r101 => argF r101 fun a4 r102 => argF r102 fun a5 r103 => arg0 r103 (arg0 r100 (.ret (.agg [.fl (S31_0 D a0 a3), .fl (S31_1 D a1 a4), .fl (S31_2 D a2 a5)]))))
theorem en31 : ∀ l r, (sp31 R l).run = some r → Entry Try.prog 31 l r := by
  intro l r h
  obtain ⟨_, _, h, L0⟩ := argA_inv h
  obtain ⟨x1, _, h, L1⟩ := argF_inv h
  obtain ⟨x2, _, h, L2⟩ := argF_inv h
  obtain ⟨x3, _, h, L3⟩ := argF_inv h
  obtain ⟨h, L4⟩ := arg0_inv h
  obtain ⟨_, _, h, L5⟩ := argA_inv h
  obtain ⟨x6, _, h, L6⟩ := argF_inv h
  obtain ⟨x7, _, h, L7⟩ := argF_inv h
  obtain ⟨x8, _, h, L8⟩ := argF_inv h
  obtain ⟨h, L9⟩ := arg0_inv h
  obtain ⟨h, L10⟩ := arg0_inv h
  cases h
  exact (entry_of prg tok_6 (ev31 R x1 x2 x3 x6 x7 x8) (fun o ho => nomatch ho) rfl).le (L0 _ _ (L1 _ (L2 _ (L3 _ L4))) (L5 _ _ (L6 _ (L7 _ (L8 _ L9))) L10))
def tl_31 : List (Nat × Ev.Spec) := (31, sp31) :: tl_6
def tbl_31 (D : Dom) : Tbl D := tblOf tl_31 D
theorem tok_31 : TblOK Try.prog (tbl_31 R) := TblOK.cons tok_6 en31

-- penumbra/penumbraref05.Is
def S30_0 (D : Dom) (a0 : D.F) (a1 : D.F) (a2 : D.F) (a3 : D.F) (a4 : D.F) (a5 : D.F) : D.B := (D.bite (D.bite (S10_0 D a0 a3) (S10_0 D a1 a4) (D.bc false)) (S10_0 D a2 a5) (D.bc false))
theorem ev30 (D : Dom) (a0 : D.F) (a1 : D.F) (a2 : D.F) (a3 : D.F) (a4 : D.F) (a5 : D.F) : joinT (evFn Try.prog (tbl_31 D) 60 30 [.agg [.fl a0, .fl a1, .fl a2], .agg [.fl a3, .fl a4, .fl a5]]) = .val none (.sb (S30_0 D a0 a1 a2 a3 a4 a5)) := by kernel_rfl
def sp30 : Ev.Spec := fun D l => argA l fun c0 r0 => argF c0 fun a0 r1 => argF r1 fun a1 r2 => argF r2 fun a2 r3 => arg0 r3 (argA r0 fun c100 r100 => argF c100 fun a3 r101 => argF r101 fun a4 r102 => argF r102 fun a5 r103 => arg0 r103 (arg0 r100 (.ret (.sb (S30_0 D a0 a1 a2 a3 a4 a5)))))
theorem en30 : ∀ l r, (sp30 R l).run = some r → Entry Try.prog 30 l r := by
  intro l r h
  obtain ⟨_, _, h, L0⟩ := argA_inv h
  obtain ⟨x1, _, h, L1⟩ := argF_inv h
  obtain ⟨x2, _, h, L2⟩ := argF_inv h
  obtain ⟨x3, _, h, L3⟩ := argF_inv h
  obtain ⟨h, L4⟩ := arg0_inv h
  obtain ⟨_, _, h, L5⟩ := argA_inv h
  obtain ⟨x6, _, h, L6⟩ := argF_inv h
  obtain ⟨x7, _, h, L7⟩ := argF_inv h
  obtain ⟨x8, _, h, L8⟩ := argF_inv h
  obtain ⟨h, L9⟩ := arg0_inv h
  obtain ⟨h, L10⟩ := arg0_inv h
  cases h
  exact (entry_of prg tok_31 (ev30 R x1 x2 x3 x6 x7 x8) (fun o ho => nomatch ho) rfl).le (L0 _ _ (L1 _ (L2 _ (L3 _ L4))) (L5 _ _ (L6 _ (L7 _ (L8 _ L9))) L10))
def tl_30 : List (Nat × Ev.Spec) := (30, sp30) :: tl_31
def tbl_30 (D : Dom) : Tbl D := tblOf tl_30 D
theorem tok_30 : TblOK Try.prog (tbl_30 R) := TblOK.cons tok_31 en30

-- penumbra/penumbraref05.Mul
def S33_0 (D : Dom) (a0 : D.F) (a3 : D.F) : D.F := (D.fmul a0 a3)
def S33_1 (D : Dom) (a1 : D.F) (a4 : D.F) : D.F := (D.fmul a1 a4)
def S33_2 (D : Dom) (a2 : D.F) (a5 : D.F) : D.F := (D.fmul a2 a5)
theorem ev33 (D : Dom) (a0 : D.F) (a1 : D.F) (a2 : D.F) (a3 : D.F) (a4 : D.F) (a5 : D.F) : joinT (evFn Try.prog (tbl_30 D) 60 33 [.agg [.fl a0, .fl a1, .fl a2], .agg [.fl a3, .fl a4, .fl a5]]) = .val none (.agg [.fl (S33_0 D a0 a3), .fl (S33_1 D a1 a4), .fl (S33_2 D a2 a5)]) := by kernel_rfl
def sp33 : Ev.Spec := fun D l => argA l fun c0 r0 => argF c0 fun a0 r1 => argF r1 fun a1 r2 => argF r2 fun a2 r3 => arg0 r3 (argA r0 fun c100 r100 => argF c100 fun a3 r101 => argF r101 fun a4 r102 => argF r102 fun a5 r103 => arg0 r103 (arg0 r100 (.ret (.agg [.fl (S33_0 D a0 a3), .fl (S33_1 D a1 a4), .fl (S33_2 D a2 a5)]))))
theorem en33 : ∀ l r, (sp33 R l).run = some r → Entry Try.prog 33 l r := by
  intro l r h
  obtain ⟨_, _, h, L0⟩ := argA_inv h
  obtain ⟨x1, _, h, L1⟩ := argF_inv h
  obtain ⟨x2, _, h, L2⟩ := argF_inv h
  obtain ⟨x3, _, h, L3⟩ := argF_inv h
  obtain ⟨h, L4⟩ := arg0_inv h
  obtain ⟨_, _, h, L5⟩ := argA_inv h
  obtain ⟨x6, _, h, L6⟩ := argF_inv h
  obtain ⟨x7, _, h, L7⟩ := argF_inv h
  obtain ⟨x8, _, h, L8⟩ := argF_inv h
  obtain ⟨h, L9⟩ := arg0_inv h
  obtain ⟨h, L10⟩ := arg0_inv h
  cases h
  exact (entry_of prg tok_30 (ev33 R x1 x2 x3 x6 x7 x8) (fun o ho => nomatch ho) rfl).le (L0 _ _ (L1 _ (L2 _ (L3 _ L4))) (L5 _ _ (L6 _ (L7 _ (L8 _ L9))) L10))
def tl_33 : List (Nat × Ev.Spec) := (33, sp33) :: tl_30
def tbl_33 (D : Dom) : Tbl D := tblOf tl_33 D
theorem tok_33 : TblOK Try.prog (tbl_33 R) := TblOK.cons tok_30 en33

-- penumbra/rgb.Scale
def S34_0 (D : Dom) (a0 : D.F) (a3 : D.F) : D.F := (S32_0 D a0 (S36_0 D a3))
def S34_1 (D : Dom) (a1 : D.F) (a3 : D.F) : D.F := (S32_1 D a1 (S36_1 D a3))
def S34_2 (D : Dom) (a2 : D.F) (a3 : D.F) : D.F := (S32_2 D a2 (S36_2 D a3))
theorem ev34 (D : Dom) (a0 : D.F) (a1 : D.F) (a2 : D.F) (a3 : D.F) : joinT (evFn Try.prog (tbl_33 D) 60 34 [.agg [.fl a0, .fl a1, .fl a2], .fl a3]) = .val none (.agg [.fl (S34_0 D a0 a3), .fl (S34_1 D a1 a3), .fl (S34_2 D a2 a3)]) := by kernel_rfl
def sp34 : Ev.Spec := fun D l => argA l fun c0 r0 => argF c0 fun a0 r1 => argF r1 fun a1 r2 => argF r2 fun a2 r3 => arg0 r3 (argF r0 fun a3 r100 => arg0 r100 (.ret (.agg [.fl (S34_0 D a0 a3), .fl (S34_1 D a1 a3), .fl (S34_2 D a2 a3)])))
theorem en34 : ∀ l r, (sp34 R l).run = some r → Entry Try.prog 34 l r := by
  intro l r h
  obtain ⟨_, _, h, L0⟩ := argA_inv h
  obtain ⟨x1, _, h, L1⟩ := argF_inv h
  obtain ⟨x2, _, h, L2⟩ := argF_inv h
  obtain ⟨x3, _, h, L3⟩ := argF_inv h
  obtain ⟨h, L4⟩ := arg0_inv h
  obtain ⟨x5, _, h, L5⟩ := argF_inv h
  obtain ⟨h, L6⟩ := arg0_inv h
  cases h
  exact (entry_of prg tok_33 (ev34 R x1 x2 x3 x5) (fun o ho => nomatch ho) rfl).le (L0 _ _ (L1 _ (L2 _ (L3 _ L4))) (L5 _ L6))
def tl_34 : List (Nat × Ev.Spec) := (34, sp34) :: tl_33
def tbl_34 (D : Dom) : Tbl D := tblOf tl_34 D
theorem tok_34 : TblOK Try.prog (tbl_34 R) := TblOK.cons tok_33 en34

-- penumbra/penumbraref05.Scale
def S35_0 (D : Dom) (a0 : D.F) (a3 : D.F) : D.F := (D.fmul a0 a3)
def S35_1 (D : Dom) (a1 : D.F) (a3 : D.F) : D.F := (D.fmul a1 a3)
def S35_2 (D : Dom) (a2 : D.F) (a3 : D.F) : D.F := (D.fmul a2 a3)
theorem ev35 (D : Dom) (a0 : D.F) (a1 : D.F) (a2 : D.F) (a3 : D.F) : joinT (evFn Try.prog (tbl_34 D) 60 35 [.agg [.fl a0, .fl a1, .fl a2], .fl a3]) = .val none (.agg [.fl (S35_0 D a0 a3), .fl (S35_1 D a1 a3), .fl (S35_2 D a2 a3)]) := by kernel_rfl
def sp35 : Ev.Spec := fun D l => argA l fun c0 r0 => argF c0 fun a0 r1 => argF r1 fun a1 r2 => argF r2 fun a2 r3 => arg0 r3 (argF r0 fun a3 r100 => arg0 r100 (.ret (.agg [.fl (S35_0 D a0 a3), .fl (S35_1 D a1 a3), .fl (S35_2 D a2 a3)])))
theorem en35 : ∀ l r, (sp35 R l).run = some r → Entry Try.prog 35 l r := by
  intro l r h
  obtain ⟨_, _, h, L0⟩ := argA_inv h
  obtain ⟨x1, _, h, L1⟩ := argF_inv h
  obtain ⟨x2, _, h, L2⟩ := argF_inv h
  obtain ⟨x3, _, h, L3⟩ := argF_inv h
  obtain ⟨h, L4⟩ := arg0_inv h
  obtain ⟨x5, _, h, L5⟩ := argF_inv h
  obtain ⟨h, L6⟩ := arg0_inv h
  cases h
  exact (entry_of prg tok_34 (ev35 R x1 x2 x3 x5) (fun o ho => nomatch ho) rfl).le (L0 _ _ (L1 _ (L2 _ (L3 _ L4))) (L5 _ L6))
def tl_35 : List (Nat × Ev.Spec) := (35, sp35) :: tl_34
def tbl_35 (D : Dom) : Tbl D := tblOf tl_35 D
theorem tok_35 : TblOK Try.prog (tbl_35 R) := TblOK.cons tok_34 en35

-- penumbra/penumbralaw05.RgbReckons
def S7_0 (D : Dom) (a0 : D.F) (a1 : D.F) (a2 : D.F) (a3 : D.F) (a4 : D.F) (a5 : D.F) (a6 : D.F) : D.B := (D.bite (S9_0 D) (D.bite (S30_0 D (S20_0 D a0 a3) (S20_1 D a1 a4) (S20_2 D a2 a5) (S31_0 D a0 a3) (S31_1 D a1 a4) (S31_2 D a2 a5)) (D.bite (S30_0 D (S32_0 D a0 a3) (S32_1 D a1 a4) (S32_2 D a2 a5) (S33_0 D a0 a3) (S33_1 D a1 a4) (S33_2 D a2 a5)) (D.bite (S30_0 D (S34_0 D a0 a6) (S34_1 D a1 a6) (S34_2 D a2 a6) (S35_0 D a0 a6) (S35_1 D a1 a6) (S35_2 D a2 a6)) (S30_0 D (S36_0 D a6) (S36_1 D a6) (S36_2 D a6) a6 a6 a6) (D.bc false)) (D.bc false)) (D.bc false)) (D.bc false))
def O7 (D : Dom)  : D.B := (O9 D)
theorem ev7 (D : Dom) (a0 : D.F) (a1 : D.F) (a2 : D.F) (a3 : D.F) (a4 : D.F) (a5 : D.F) (a6 : D.F) : joinT (evFn Try.prog (tbl_35 D) 60 7 [.agg [.fl a0, .fl a1, .fl a2], .agg [.fl a3, .fl a4, .fl a5], .fl a6]) = .val (some (O7 D)) (.sb (S7_0 D a0 a1 a2 a3 a4 a5 a6)) := by kernel_rfl
def sp7 : Ev.Spec := fun D l => argA l fun c0 r0 => argF c0 fun a0 r1 => argF r1 fun a1 r2 => argF r2 fun a2 r3 => arg0 r3 (argA r0 fun c100 r100 => argF c100 fun a3 r101 => argF r101 fun a4 r102 => argF r102 fun a5 r103 => arg0 r103 (argF r100 fun a6 r200 => arg0 r200 (.node (O7 D) (.ret (.sb (S7_0 D a0 a1 a2 a3 a4 a5 a6))) (.fail "pre"))))
theorem en7 : ∀ l r, (sp7 R l).run = some r → Entry Try.prog 7 l r := by
  intro l r h
  obtain ⟨_, _, h, L0⟩ := argA_inv h
  obtain ⟨x1, _, h, L1⟩ := argF_inv h
  obtain ⟨x2, _, h, L2⟩ := argF_inv h
  obtain ⟨x3, _, h, L3⟩ := argF_inv h
  obtain ⟨h, L4⟩ := arg0_inv h
  obtain ⟨_, _, h, L5⟩ := argA_inv h
  obtain ⟨x6, _, h, L6⟩ := argF_inv h
  obtain ⟨x7, _, h, L7⟩ := argF_inv h
  obtain ⟨x8, _, h, L8⟩ := argF_inv h
  obtain ⟨h, L9⟩ := arg0_inv h
  obtain ⟨x10, _, h, L10⟩ := argF_inv h
  obtain ⟨h, L11⟩ := arg0_inv h
  obtain ⟨hok, rfl⟩ := run_okay h
  exact (entry_of prg tok_35 (ev7 R x1 x2 x3 x6 x7 x8 x10) (fun o ho => (Option.some.inj ho) ▸ hok) rfl).le (L0 _ _ (L1 _ (L2 _ (L3 _ L4))) (L5 _ _ (L6 _ (L7 _ (L8 _ L9))) (L10 _ L11)))
def tl_7 : List (Nat × Ev.Spec) := (7, sp7) :: tl_35
def tbl_7 (D : Dom) : Tbl D := tblOf tl_7 D
theorem tok_7 : TblOK Try.prog (tbl_7 R) := TblOK.cons tok_35 en7

-- penumbra/frame.Cos
def S37_0 (D : Dom) (a2 : D.F) : D.F := a2
theorem ev37 (D : Dom) (a0 : D.F) (a1 : D.F) (a2 : D.F) : joinT (evFn Try.prog (tbl_7 D) 60 37 [.agg [.fl a0, .fl a1, .fl a2]]) = .val none (.fl (S37_0 D a2)) := by kernel_rfl
def sp37 : Ev.Spec := fun D l => argA l fun c0 r0 => argF c0 fun _a0 r1 => argF r1 fun _a1 r2 => argF r2 fun a2 r3 => arg0 r3 (arg0 r0 (.ret (.fl (S37_0 D a2))))
theorem en37 : ∀ l r, (sp37 R l).run = some r → Entry Try.prog 37 l r := by
  intro l r h
  obtain ⟨_, _, h, L0⟩ := argA_inv h
  obtain ⟨x1, _, h, L1⟩ := argF_inv h
  obtain ⟨x2, _, h, L2⟩ := argF_inv h
  obtain ⟨x3, _, h, L3⟩ := argF_inv h
  obtain ⟨h, L4⟩ := arg0_inv h
  obtain ⟨h, L5⟩ := arg0_inv h
  cases h
  exact (entry_of prg tok_7 (ev37 R x1 x2 x3) (fun o ho => nomatch ho) rfl).le (L0 _ _ (L1 _ (L2 _ (L3 _ L4))) L5)
def tl_37 : List (Nat × Ev.Spec) := (37, sp37) :: tl_7
def tbl_37 (D : Dom) : Tbl D := tblOf tl_37 D
theorem tok_37 : TblOK Try.prog (tbl_37 R) := TblOK.cons tok_7 en37

-- penumbra/frame.Mirror
def S38_0 (D : Dom) (a0 : D.F) : D.F := (D.fsub (D.fc 0) a0)
def S38_1 (D : Dom) (a1 : D.F) : D.F := (D.fsub (D.fc 0) a1)
def S38_2 (D : Dom) (a2 : D.F) : D.F := a2
theorem ev38 (D : Dom) (a0 : D.F) (a1 : D.F) (a2 : D.F) : joinT (evFn Try.prog (tbl_37 D) 60 38 [.agg [.fl a0, .fl a1, .fl a2]]) = .val none (.agg [.fl (S38_0 D a0), .fl (S38_1 D a1), .fl (S38_2 D a2)]) := by kernel_rfl
def sp38 : Ev.Spec := fun D l => argA l fun c0 r0 => argF c0 fun a0 r1 => argF r1 fun a1 r2 => argF r2 fun a2 r3 => arg0 r3 (arg0 r0 (.ret (.agg [.fl (S38_0 D a0), .fl (S38_1 D a1), .fl (S38_2 D a2)])))
theorem en38 : ∀ l r, (sp38 R l).run = some r → Entry Try.prog 38 l r := by
  intro l r h
  obtain ⟨_, _, h, L0⟩ := argA_inv h
  obtain ⟨x1, _, h, L1⟩ := argF_inv h
  obtain ⟨x2, _, h, L2⟩ := argF_inv h
  obtain ⟨x3, _, h, L3⟩ := argF_inv h
  obtain ⟨h, L4⟩ := arg0_inv h
  obtain ⟨h, L5⟩ := arg0_inv h
  cases h
  exact (entry_of prg tok_37 (ev38 R x1 x2 x3) (fun o ho => nomatch ho) rfl).le (L0 _ _ (L1 _ (L2 _ (L3 _ L4))) L5)
def tl_38 : List (Nat × Ev.Spec) := (38, sp38) :: tl_37
def tbl_38 (D : Dom) : Tbl D := tblOf tl_38 D
theorem tok_38 : TblOK Try.prog (tbl_38 R) := TblOK.cons tok_37 en38

-- penumbra/frame.Upper
def S39_0 (D : Dom) (a2 : D.F) (a5 : D.F) : D.B := (D.bite (D.fgt (S37_0 D a2) (D.fc 0)) (D.fgt (S37_0 D a5) (D.fc 0)) (D.bc false))
theorem ev39 (D : Dom) (a0 : D.F) (a1 : D.F) (a2 : D.F) (a3 : D.F) (a4 : D.F) (a5 : D.F) : joinT (evFn Try.prog (tbl_38 D) 60 39 [.agg [.fl a0, .fl a1, .fl a2], .agg [.fl a3, .fl a4, .fl a5]]) = .val none (.sb (S39_0 D a2 a5)) := by kernel_rfl
def sp39 : Ev.Spec := fun D l => argA l fun c0 r0 => argF c0 fun _a0 r1 => argF r1 fun _a1 r2 => argF r2 fun a2 r3 => arg0 r3 (argA r0 fun c100 r100 => argF c100 fun _a3 r101 => argF r101 fun _a4 r102 => argF r102 fun a5 r103 => arg0 r103 (arg0 r100 (.ret (.sb (S39_0 D a2 a5)))))
theorem en39 : ∀ l r, (sp39 R l).run = some r → Entry Try.prog 39 l r := by
  intro l r h
  obtain ⟨_, _, h, L0⟩ := argA_inv h
  obtain ⟨x1, _, h, L1⟩ := argF_inv h
  obtain ⟨x2, _, h, L2⟩ := argF_inv h
  obtain ⟨x3, _, h, L3⟩ := argF_inv h
  obtain ⟨h, L4⟩ := arg0_inv h
  obtain ⟨_, _, h, L5⟩ := argA_inv h
  obtain ⟨x6, _, h, L6⟩ := argF_inv h
  obtain ⟨x7, _, h, L7⟩ := argF_inv h
  obtain ⟨x8, _, h, L8⟩ := argF_inv h
  obtain ⟨h, L9⟩ := arg0_inv h
  obtain ⟨h, L10⟩ := arg0_inv h
  cases h
  exact (entry_of prg tok_38 (ev39 R x1 x2 x3 x6 x7 x8) (fun o ho => nomatch ho) rfl).le (L0 _ _ (L1 _ (L2 _ (L3 _ L4))) (L5 _ _ (L6 _ (L7 _ (L8 _ L9))) L10))
def tl_39 : List (Nat × Ev.Spec) := (39, sp39) :: tl_38
def tbl_39 (D : Dom) : Tbl D := tblOf tl_39 D
theorem tok_39 : TblOK Try.prog (tbl_39 R) := TblOK.cons tok_38 en39

-- penumbra/penumbralaw03.FrameLooks
def S8_0 (D : Dom) (a0 : D.F) (a1 : D.F) (a2 : D.F) (a5 : D.F) : D.B := (D.bite (S21_0 D) (D.bite (S10_0 D (S37_0 D a2) a2) (D.bite (S25_0 D (S38_0 D a0) (S38_1 D a1) (S38_2 D a2) (D.fsub (D.fc 0) a0) (D.fsub (D.fc 0) a1) a2) (D.bite (D.fgt a2 (D.fc 0)) (D.beq (S39_0 D a2 a5) (D.fgt a5 (D.fc 0))) (D.beq (S39_0 D a2 a5) (D.bc false))) (D.bc false)) (D.bc false)) (D.bc false))
theorem ev8 (D : Dom) (a0 : D.F) (a1 : D.F) (a2 : D.F) (a3 : D.F) (a4 : D.F) (a5 : D.F) : joinT (evFn Try.prog (tbl_39 D) 60 8 [.agg [.fl a0, .fl a1, .fl a2], .agg [.fl a3, .fl a4, .fl a5]]) = .val none (.sb (S8_0 D a0 a1 a2 a5)) := by kernel_rfl
def sp8 : Ev.Spec := fun D l => argA l fun c0 r0 => argF c0 fun a0 r1 => argF r1 fun a1 r2 => argF r2 fun a2 r3 => arg0 r3 (argA r0 fun c100 r100 => argF c100 fun _a3 r101 => argF r101 fun _a4 r102 => argF r102 fun a5 r103 => arg0 r103 (arg0 r100 (.ret (.sb (S8_0 D a0 a1 a2 a5)))))
theorem en8 : ∀ l r, (sp8 R l).run = some r → Entry Try.prog 8 l r := by
  intro l r h
  obtain ⟨_, _, h, L0⟩ := argA_inv h
  obtain ⟨x1, _, h, L1⟩ := argF_inv h
  obtain ⟨x2, _, h, L2⟩ := argF_inv h
  obtain ⟨x3, _, h, L3⟩ := argF_inv h
  obtain ⟨h, L4⟩ := arg0_inv h
  obtain ⟨_, _, h, L5⟩ := argA_inv h
  obtain ⟨x6, _, h, L6⟩ := argF_inv h
  obtain ⟨x7, _, h, L7⟩ := argF_inv h
  obtain ⟨x8, _, h, L8⟩ := argF_inv h
  obtain ⟨h, L9⟩ := arg0_inv h
  obtain ⟨h, L10⟩ := arg0_inv h
  cases h
  exact (entry_of prg tok_39 (ev8 R x1 x2 x3 x6 x7 x8) (fun o ho => nomatch ho) rfl).le (L0 _ _ (L1 _ (L2 _ (L3 _ L4))) (L5 _ _ (L6 _ (L7 _ (L8 _ L9))) L10))
def tl_8 : List (Nat × Ev.Spec) := (8, sp8) :: tl_39
def tbl_8 (D : Dom) : Tbl D := tblOf tl_8 D
theorem tok_8 : TblOK Try.prog (tbl_8 R) := TblOK.cons tok_39 en8

end Go.Proofs.Ytlngdhennnlhlaa
