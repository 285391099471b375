/- The functions of this seat, each with what it comes to, by the evaluator. PRINTED BY A PROGRAM OF THIS PROJECT (wip/ev/Gen.lean). -/
import Derived.Test.YtijbiohcimmldaaEv4
import Derived.Test.YtijbiohcimmldaaChecked
namespace Go.Proofs.Ytijbiohcimmldaa
open Go.Ev
set_option maxRecDepth 100000

theorem prg : Ev.Prog Try.prog := ⟨by kernel_rfl, by kernel_rfl⟩
def sp36 : Ev.Spec := fun D l => argF l fun a r => arg0 r (.ret (.fl (D.fsqrt a)))
theorem en36 : ∀ l r, (sp36 R l).run = some r → Entry Try.prog 36 l r := by
  intro l r h
  obtain ⟨x0, _, h, L0⟩ := argF_inv h
  obtain ⟨h, L1⟩ := arg0_inv h
  cases h
  exact (entry_sqrt (fn := Try.f36) (by kernel_rfl) (by kernel_rfl) (by kernel_rfl) (by kernel_rfl) (by kernel_rfl) x0).le (L0 _ L1)
def tl_0 : List (Nat × Ev.Spec) := ((36, sp36) :: [])
def tbl_0 (D : Dom) : Tbl D := tblOf tl_0 D
theorem tok_0 : TblOK Try.prog (tbl_0 R) := (TblOK.cons (TblOK.nil _) en36)

-- penumbra/vec.Mul$1
def S40_0 (D : Dom) (a0 : D.F) (a1 : D.F) : D.F := (D.fmul a0 a1)
theorem ev40 (D : Dom) (a0 : D.F) (a1 : D.F) : joinT (evFn Try.prog (tbl_0 D) 60 40 [.fl a0, .fl a1]) = .val none (.fl (S40_0 D a0 a1)) := by kernel_rfl
def sp40 : Ev.Spec := fun D l => argF l fun a0 r0 => argF r0 fun a1 r1 => arg0 r1 (.ret (.fl (S40_0 D a0 a1)))
theorem en40 : ∀ l r, (sp40 R l).run = some r → Entry Try.prog 40 l r := by
  intro l r h
  obtain ⟨x0, _, h, L0⟩ := argF_inv h
  obtain ⟨x1, _, h, L1⟩ := argF_inv h
  obtain ⟨h, L2⟩ := arg0_inv h
  cases h
  exact (entry_of prg tok_0 (ev40 R x0 x1) (fun o ho => nomatch ho) rfl).le (L0 _ (L1 _ L2))
def tl_40 : List (Nat × Ev.Spec) := (40, sp40) :: tl_0
def tbl_40 (D : Dom) : Tbl D := tblOf tl_40 D
theorem tok_40 : TblOK Try.prog (tbl_40 R) := TblOK.cons tok_0 en40

-- penumbra/vec.Mul
def S23_0 (D : Dom) (a0 : D.F) (a3 : D.F) : D.F := (S40_0 D a0 a3)
def S23_1 (D : Dom) (a1 : D.F) (a4 : D.F) : D.F := (S40_0 D a1 a4)
def S23_2 (D : Dom) (a2 : D.F) (a5 : D.F) : D.F := (S40_0 D a2 a5)
theorem ev23 (D : Dom) (a0 : D.F) (a1 : D.F) (a2 : D.F) (a3 : D.F) (a4 : D.F) (a5 : D.F) : joinT (evFn Try.prog (tbl_40 D) 60 23 [.agg [.fl a0, .fl a1, .fl a2], .agg [.fl a3, .fl a4, .fl a5]]) = .val none (.agg [.fl (S23_0 D a0 a3), .fl (S23_1 D a1 a4), .fl (S23_2 D a2 a5)]) := by kernel_rfl
def sp23 : Ev.Spec := fun D l => argA l fun c0 r0 => argF c0 fun a0 r1 => argF r1 fun a1 r2 => argF r2 fun a2 r3 => arg0 r3 (argA r0 fun c100 r100 => argF c100 fun a3 r101 => argF r101 fun a4 r102 => argF r102 fun a5 r103 => arg0 r103 (arg0 r100 (.ret (.agg [.fl (S23_0 D a0 a3), .fl (S23_1 D a1 a4), .fl (S23_2 D a2 a5)]))))
theorem en23 : ∀ l r, (sp23 R l).run = some r → Entry Try.prog 23 l r := by
  intro l r h
  obtain ⟨_, _, h, L0⟩ := argA_inv h
  obtain ⟨x1, _, h, L1⟩ := argF_inv h
  obtain ⟨x2, _, h, L2⟩ := argF_inv h
  obtain ⟨x3, _, h, L3⟩ := argF_inv h
  obtain ⟨h, L4⟩ := arg0_inv h
  obtain ⟨_, _, h, L5⟩ := argA_inv h
  obtain ⟨x6, _, h, L6⟩ := argF_inv h
  obtain ⟨x7, _, h, L7⟩ := argF_inv h
  obtain ⟨x8, _, h, L8⟩ := argF_inv h
  obtain ⟨h, L9⟩ := arg0_inv h
  obtain ⟨h, L10⟩ := arg0_inv h
  cases h
  exact (entry_of prg tok_40 (ev23 R x1 x2 x3 x6 x7 x8) (fun o ho => nomatch ho) rfl).le (L0 _ _ (L1 _ (L2 _ (L3 _ L4))) (L5 _ _ (L6 _ (L7 _ (L8 _ L9))) L10))
def tl_23 : List (Nat × Ev.Spec) := (23, sp23) :: tl_40
def tbl_23 (D : Dom) : Tbl D := tblOf tl_23 D
theorem tok_23 : TblOK Try.prog (tbl_23 R) := TblOK.cons tok_40 en23

-- penumbra/vec.Dot
def S9_0 (D : Dom) (a0 : D.F) (a1 : D.F) (a2 : D.F) (a3 : D.F) (a4 : D.F) (a5 : D.F) : D.F := (D.fadd (D.fadd (S23_0 D a0 a3) (S23_1 D a1 a4)) (S23_2 D a2 a5))
theorem ev9 (D : Dom) (a0 : D.F) (a1 : D.F) (a2 : D.F) (a3 : D.F) (a4 : D.F) (a5 : D.F) : joinT (evFn Try.prog (tbl_23 D) 60 9 [.agg [.fl a0, .fl a1, .fl a2], .agg [.fl a3, .fl a4, .fl a5]]) = .val none (.fl (S9_0 D a0 a1 a2 a3 a4 a5)) := by kernel_rfl
def sp9 : Ev.Spec := fun D l => argA l fun c0 r0 => argF c0 fun a0 r1 => argF r1 fun a1 r2 => argF r2 fun a2 r3 => arg0 r3 (argA r0 fun c100 r100 => argF c100 fun a3 r101 => argF r101 fun a4 r102 => argF r102 fun a5 r103 => arg0 r103 (arg0 r100 (.ret (.fl (S9_0 D a0 a1 a2 a3 a4 a5)))))
theorem en9 : ∀ l r, (sp9 R l).run = some r → Entry Try.prog 9 l r := by
  intro l r h
  obtain ⟨_, _, h, L0⟩ := argA_inv h
  obtain ⟨x1, _, h, L1⟩ := argF_inv h
  obtain ⟨x2, _, h, L2⟩ := argF_inv h
  obtain ⟨x3, _, h, L3⟩ := argF_inv h
  obtain ⟨h, L4⟩ := arg0_inv h
  obtain ⟨_, _, h, L5⟩ := argA_inv h
  obtain ⟨x6, _, h, L6⟩ := argF_inv h
  obtain ⟨x7, _, h, L7⟩ := argF_inv h
  obtain ⟨x8, _, h, L8⟩ := argF_inv h
  obtain ⟨h, L9⟩ := arg0_inv h
  obtain ⟨h, L10⟩ := arg0_inv h
  cases h
  exact (entry_of prg tok_23 (ev9 R x1 x2 x3 x6 x7 x8) (fun o ho => nomatch ho) rfl).le (L0 _ _ (L1 _ (L2 _ (L3 _ L4))) (L5 _ _ (L6 _ (L7 _ (L8 _ L9))) L10))
def tl_9 : List (Nat × Ev.Spec) := (9, sp9) :: tl_23
def tbl_9 (D : Dom) : Tbl D := tblOf tl_9 D
theorem tok_9 : TblOK Try.prog (tbl_9 R) := TblOK.cons tok_23 en9

-- penumbra/vec.Len2
def S17_0 (D : Dom) (a0 : D.F) (a1 : D.F) (a2 : D.F) : D.F := (S9_0 D a0 a1 a2 a0 a1 a2)
theorem ev17 (D : Dom) (a0 : D.F) (a1 : D.F) (a2 : D.F) : joinT (evFn Try.prog (tbl_9 D) 60 17 [.agg [.fl a0, .fl a1, .fl a2]]) = .val none (.fl (S17_0 D a0 a1 a2)) := by kernel_rfl
def sp17 : Ev.Spec := fun D l => argA l fun c0 r0 => argF c0 fun a0 r1 => argF r1 fun a1 r2 => argF r2 fun a2 r3 => arg0 r3 (arg0 r0 (.ret (.fl (S17_0 D a0 a1 a2))))
theorem en17 : ∀ l r, (sp17 R l).run = some r → Entry Try.prog 17 l r := by
  intro l r h
  obtain ⟨_, _, h, L0⟩ := argA_inv h
  obtain ⟨x1, _, h, L1⟩ := argF_inv h
  obtain ⟨x2, _, h, L2⟩ := argF_inv h
  obtain ⟨x3, _, h, L3⟩ := argF_inv h
  obtain ⟨h, L4⟩ := arg0_inv h
  obtain ⟨h, L5⟩ := arg0_inv h
  cases h
  exact (entry_of prg tok_9 (ev17 R x1 x2 x3) (fun o ho => nomatch ho) rfl).le (L0 _ _ (L1 _ (L2 _ (L3 _ L4))) L5)
def tl_17 : List (Nat × Ev.Spec) := (17, sp17) :: tl_9
def tbl_17 (D : Dom) : Tbl D := tblOf tl_17 D
theorem tok_17 : TblOK Try.prog (tbl_17 R) := TblOK.cons tok_9 en17

-- math.Sqrt
def S16_0 (D : Dom) (a0 : D.F) : D.F := (D.fsqrt a0)
theorem ev16 (D : Dom) (a0 : D.F) : joinT (evFn Try.prog (tbl_17 D) 60 16 [.fl a0]) = .val none (.fl (S16_0 D a0)) := by kernel_rfl
def sp16 : Ev.Spec := fun D l => argF l fun a0 r0 => arg0 r0 (.ret (.fl (S16_0 D a0)))
theorem en16 : ∀ l r, (sp16 R l).run = some r → Entry Try.prog 16 l r := by
  intro l r h
  obtain ⟨x0, _, h, L0⟩ := argF_inv h
  obtain ⟨h, L1⟩ := arg0_inv h
  cases h
  exact (entry_of prg tok_17 (ev16 R x0) (fun o ho => nomatch ho) rfl).le (L0 _ L1)
def tl_16 : List (Nat × Ev.Spec) := (16, sp16) :: tl_17
def tbl_16 (D : Dom) : Tbl D := tblOf tl_16 D
theorem tok_16 : TblOK Try.prog (tbl_16 R) := TblOK.cons tok_17 en16

-- penumbra/vec.Len
def S18_0 (D : Dom) (a0 : D.F) (a1 : D.F) (a2 : D.F) : D.F := (S16_0 D (S17_0 D a0 a1 a2))
theorem ev18 (D : Dom) (a0 : D.F) (a1 : D.F) (a2 : D.F) : joinT (evFn Try.prog (tbl_16 D) 60 18 [.agg [.fl a0, .fl a1, .fl a2]]) = .val none (.fl (S18_0 D a0 a1 a2)) := by kernel_rfl
def sp18 : Ev.Spec := fun D l => argA l fun c0 r0 => argF c0 fun a0 r1 => argF r1 fun a1 r2 => argF r2 fun a2 r3 => arg0 r3 (arg0 r0 (.ret (.fl (S18_0 D a0 a1 a2))))
theorem en18 : ∀ l r, (sp18 R l).run = some r → Entry Try.prog 18 l r := by
  intro l r h
  obtain ⟨_, _, h, L0⟩ := argA_inv h
  obtain ⟨x1, _, h, L1⟩ := argF_inv h
  obtain ⟨x2, _, h, L2⟩ := argF_inv h
  obtain ⟨x3, _, h, L3⟩ := argF_inv h
  obtain ⟨h, L4⟩ := arg0_inv h
  obtain ⟨h, L5⟩ := arg0_inv h
  cases h
  exact (entry_of prg tok_16 (ev18 R x1 x2 x3) (fun o ho => nomatch ho) rfl).le (L0 _ _ (L1 _ (L2 _ (L3 _ L4))) L5)
def tl_18 : List (Nat × Ev.Spec) := (18, sp18) :: tl_16
def tbl_18 (D : Dom) : Tbl D := tblOf tl_18 D
theorem tok_18 : TblOK Try.prog (tbl_18 R) := TblOK.cons tok_16 en18

-- penumbra/vec.Number
def S31_0 (D : Dom) (a0 : D.F) : D.B := (D.bite (D.fge a0 (D.fc 18442240474082181119)) (D.fle a0 (D.fc 9218868437227405311)) (D.bc false))
theorem ev31 (D : Dom) (a0 : D.F) : joinT (evFn Try.prog (tbl_18 D) 60 31 [.fl a0]) = .val none (.sb (S31_0 D a0)) := by kernel_rfl
def sp31 : Ev.Spec := fun D l => argF l fun a0 r0 => arg0 r0 (.ret (.sb (S31_0 D a0)))
theorem en31 : ∀ l r, (sp31 R l).run = some r → Entry Try.prog 31 l r := by
  intro l r h
  obtain ⟨x0, _, h, L0⟩ := argF_inv h
  obtain ⟨h, L1⟩ := arg0_inv h
  cases h
  exact (entry_of prg tok_18 (ev31 R x0) (fun o ho => nomatch ho) rfl).le (L0 _ L1)
def tl_31 : List (Nat × Ev.Spec) := (31, sp31) :: tl_18
def tbl_31 (D : Dom) : Tbl D := tblOf tl_31 D
theorem tok_31 : TblOK Try.prog (tbl_31 R) := TblOK.cons tok_18 en31

-- penumbra/vec.Unit
def S14_0 (D : Dom) (a0 : D.F) (a1 : D.F) (a2 : D.F) : D.F := (D.fite (D.bnot (D.fgt (S18_0 D a0 a1 a2) (D.fc 0))) (D.fc 0) (D.fite (D.bnot (S31_0 D (S18_0 D a0 a1 a2))) (D.fc 0) (D.fdiv a0 (S18_0 D a0 a1 a2))))
def S14_1 (D : Dom) (a0 : D.F) (a1 : D.F) (a2 : D.F) : D.F := (D.fite (D.bnot (D.fgt (S18_0 D a0 a1 a2) (D.fc 0))) (D.fc 0) (D.fite (D.bnot (S31_0 D (S18_0 D a0 a1 a2))) (D.fc 0) (D.fdiv a1 (S18_0 D a0 a1 a2))))
def S14_2 (D : Dom) (a0 : D.F) (a1 : D.F) (a2 : D.F) : D.F := (D.fite (D.bnot (D.fgt (S18_0 D a0 a1 a2) (D.fc 0))) (D.fc 0) (D.fite (D.bnot (S31_0 D (S18_0 D a0 a1 a2))) (D.fc 0) (D.fdiv a2 (S18_0 D a0 a1 a2))))
def S14_3 (D : Dom) (a0 : D.F) (a1 : D.F) (a2 : D.F) : D.B := (D.bite (D.bnot (D.fgt (S18_0 D a0 a1 a2) (D.fc 0))) (D.bc false) (D.bite (D.bnot (S31_0 D (S18_0 D a0 a1 a2))) (D.bc false) (D.bc true)))
theorem ev14 (D : Dom) (a0 : D.F) (a1 : D.F) (a2 : D.F) : joinT (evFn Try.prog (tbl_31 D) 60 14 [.agg [.fl a0, .fl a1, .fl a2]]) = .val none (.tup [.agg [.fl (S14_0 D a0 a1 a2), .fl (S14_1 D a0 a1 a2), .fl (S14_2 D a0 a1 a2)], .sb (S14_3 D a0 a1 a2)]) := by kernel_rfl
def sp14 : Ev.Spec := fun D l => argA l fun c0 r0 => argF c0 fun a0 r1 => argF r1 fun a1 r2 => argF r2 fun a2 r3 => arg0 r3 (arg0 r0 (.ret (.tup [.agg [.fl (S14_0 D a0 a1 a2), .fl (S14_1 D a0 a1 a2), .fl (S14_2 D a0 a1 a2)], .sb (S14_3 D a0 a1 a2)])))
theorem en14 : ∀ l r, (sp14 R l).run = some r → Entry Try.prog 14 l r := by
  intro l r h
  obtain ⟨_, _, h, L0⟩ := argA_inv h
  obtain ⟨x1, _, h, L1⟩ := argF_inv h
  obtain ⟨x2, _, h, L2⟩ := argF_inv h
  obtain ⟨x3, _, h, L3⟩ := argF_inv h
  obtain ⟨h, L4⟩ := arg0_inv h
  obtain ⟨h, L5⟩ := arg0_inv h
  cases h
  exact (entry_of prg tok_31 (ev14 R x1 x2 x3) (fun o ho => nomatch ho) rfl).le (L0 _ _ (L1 _ (L2 _ (L3 _ L4))) L5)
def tl_14 : List (Nat × Ev.Spec) := (14, sp14) :: tl_31
def tbl_14 (D : Dom) : Tbl D := tblOf tl_14 D
theorem tok_14 : TblOK Try.prog (tbl_14 R) := TblOK.cons tok_31 en14

-- penumbra/vec.Sub$1
def S39_0 (D : Dom) (a0 : D.F) (a1 : D.F) : D.F := (D.fsub a0 a1)
theorem ev39 (D : Dom) (a0 : D.F) (a1 : D.F) : joinT (evFn Try.prog (tbl_14 D) 60 39 [.fl a0, .fl a1]) = .val none (.fl (S39_0 D a0 a1)) := by kernel_rfl
def sp39 : Ev.Spec := fun D l => argF l fun a0 r0 => argF r0 fun a1 r1 => arg0 r1 (.ret (.fl (S39_0 D a0 a1)))
theorem en39 : ∀ l r, (sp39 R l).run = some r → Entry Try.prog 39 l r := by
  intro l r h
  obtain ⟨x0, _, h, L0⟩ := argF_inv h
  obtain ⟨x1, _, h, L1⟩ := argF_inv h
  obtain ⟨h, L2⟩ := arg0_inv h
  cases h
  exact (entry_of prg tok_14 (ev39 R x0 x1) (fun o ho => nomatch ho) rfl).le (L0 _ (L1 _ L2))
def tl_39 : List (Nat × Ev.Spec) := (39, sp39) :: tl_14
def tbl_39 (D : Dom) : Tbl D := tblOf tl_39 D
theorem tok_39 : TblOK Try.prog (tbl_39 R) := TblOK.cons tok_14 en39

-- penumbra/vec.Sub
def S21_0 (D : Dom) (a0 : D.F) (a3 : D.F) : D.F := (S39_0 D a0 a3)
def S21_1 (D : Dom) (a1 : D.F) (a4 : D.F) : D.F := (S39_0 D a1 a4)
def S21_2 (D : Dom) (a2 : D.F) (a5 : D.F) : D.F := (S39_0 D a2 a5)
theorem ev21 (D : Dom) (a0 : D.F) (a1 : D.F) (a2 : D.F) (a3 : D.F) (a4 : D.F) (a5 : D.F) : joinT (evFn Try.prog (tbl_39 D) 60 21 [.agg [.fl a0, .fl a1, .fl a2], .agg [.fl a3, .fl a4, .fl a5]]) = .val none (.agg [.fl (S21_0 D a0 a3), .fl (S21_1 D a1 a4), .fl (S21_2 D a2 a5)]) := by kernel_rfl
def sp21 : Ev.Spec := fun D l => argA l fun c0 r0 => argF c0 fun a0 r1 => argF r1 fun a1 r2 => argF r2 fun a2 r3 => arg0 r3 (argA r0 fun c100 r100 => argF c100 fun a3 r101 => argF r101 fun a4 r102 => argF r102 fun a5 r103 => arg0 r103 (arg0 r100 (.ret (.agg [.fl (S21_0 D a0 a3), .fl (S21_1 D a1 a4), .fl (S21_2 D a2 a5)]))))
theorem en21 : ∀ l r, (sp21 R l).run = some r → Entry Try.prog 21 l r := by
  intro l r h
  obtain ⟨_, _, h, L0⟩ := argA_inv h
  obtain ⟨x1, _, h, L1⟩ := argF_inv h
  obtain ⟨x2, _, h, L2⟩ := argF_inv h
  obtain ⟨x3, _, h, L3⟩ := argF_inv h
  obtain ⟨h, L4⟩ := arg0_inv h
  obtain ⟨_, _, h, L5⟩ := argA_inv h
  obtain ⟨x6, _, h, L6⟩ := argF_inv h
  obtain ⟨x7, _, h, L7⟩ := argF_inv h
  obtain ⟨x8, _, h, L8⟩ := argF_inv h
  obtain ⟨h, L9⟩ := arg0_inv h
  obtain ⟨h, L10⟩ := arg0_inv h
  cases h
  exact (entry_of prg tok_39 (ev21 R x1 x2 x3 x6 x7 x8) (fun o ho => nomatch ho) rfl).le (L0 _ _ (L1 _ (L2 _ (L3 _ L4))) (L5 _ _ (L6 _ (L7 _ (L8 _ L9))) L10))
def tl_21 : List (Nat × Ev.Spec) := (21, sp21) :: tl_39
def tbl_21 (D : Dom) : Tbl D := tblOf tl_21 D
theorem tok_21 : TblOK Try.prog (tbl_21 R) := TblOK.cons tok_39 en21

-- penumbra/vec.Cross
def S12_0 (D : Dom) (a1 : D.F) (a2 : D.F) (a4 : D.F) (a5 : D.F) : D.F := (S21_0 D (S23_0 D a1 a5) (S23_0 D a2 a4))
def S12_1 (D : Dom) (a0 : D.F) (a2 : D.F) (a3 : D.F) (a5 : D.F) : D.F := (S21_1 D (S23_1 D a2 a3) (S23_1 D a0 a5))
def S12_2 (D : Dom) (a0 : D.F) (a1 : D.F) (a3 : D.F) (a4 : D.F) : D.F := (S21_2 D (S23_2 D a0 a4) (S23_2 D a1 a3))
theorem ev12 (D : Dom) (a0 : D.F) (a1 : D.F) (a2 : D.F) (a3 : D.F) (a4 : D.F) (a5 : D.F) : joinT (evFn Try.prog (tbl_21 D) 60 12 [.agg [.fl a0, .fl a1, .fl a2], .agg [.fl a3, .fl a4, .fl a5]]) = .val none (.agg [.fl (S12_0 D a1 a2 a4 a5), .fl (S12_1 D a0 a2 a3 a5), .fl (S12_2 D a0 a1 a3 a4)]) := by kernel_rfl
def sp12 : Ev.Spec := fun D l => argA l fun c0 r0 => argF c0 fun a0 r1 => argF r1 fun a1 r2 => argF r2 fun a2 r3 => arg0 r3 (argA r0 fun c100 r100 => argF c100 fun a3 r101 => argF r101 fun a4 r102 => argF r102 fun a5 r103 => arg0 r103 (arg0 r100 (.ret (.agg [.fl (S12_0 D a1 a2 a4 a5), .fl (S12_1 D a0 a2 a3 a5), .fl (S12_2 D a0 a1 a3 a4)]))))
theorem en12 : ∀ l r, (sp12 R l).run = some r → Entry Try.prog 12 l r := by
  intro l r h
  obtain ⟨_, _, h, L0⟩ := argA_inv h
  obtain ⟨x1, _, h, L1⟩ := argF_inv h
  obtain ⟨x2, _, h, L2⟩ := argF_inv h
  obtain ⟨x3, _, h, L3⟩ := argF_inv h
  obtain ⟨h, L4⟩ := arg0_inv h
  obtain ⟨_, _, h, L5⟩ := argA_inv h
  obtain ⟨x6, _, h, L6⟩ := argF_inv h
  obtain ⟨x7, _, h, L7⟩ := argF_inv h
  obtain ⟨x8, _, h, L8⟩ := argF_inv h
  obtain ⟨h, L9⟩ := arg0_inv h
  obtain ⟨h, L10⟩ := arg0_inv h
  cases h
  exact (entry_of prg tok_21 (ev12 R x1 x2 x3 x6 x7 x8) (fun o ho => nomatch ho) rfl).le (L0 _ _ (L1 _ (L2 _ (L3 _ L4))) (L5 _ _ (L6 _ (L7 _ (L8 _ L9))) L10))
def tl_12 : List (Nat × Ev.Spec) := (12, sp12) :: tl_21
def tbl_12 (D : Dom) : Tbl D := tblOf tl_12 D
theorem tok_12 : TblOK Try.prog (tbl_12 R) := TblOK.cons tok_21 en12

-- penumbra/penumbralaw02.awake
def S7_0 (D : Dom)  : D.B := (D.bite (D.feq (S9_0 D (D.fc 4607182418800017408) (D.fc 4611686018427387904) (D.fc 4613937818241073152) (D.fc 4616189618054758400) (D.fc 4617315517961601024) (D.fc 4618441417868443648)) (D.fc 4629700416936869888)) (D.bite (D.band (D.feq (S12_0 D (D.fc 4611686018427387904) (D.fc 4613937818241073152) (D.fc 4617315517961601024) (D.fc 4618441417868443648)) (D.fc 13837309855095848960)) (D.band (D.feq (S12_1 D (D.fc 4607182418800017408) (D.fc 4613937818241073152) (D.fc 4616189618054758400) (D.fc 4618441417868443648)) (D.fc 4618441417868443648)) (D.band (D.feq (S12_2 D (D.fc 4607182418800017408) (D.fc 4611686018427387904) (D.fc 4616189618054758400) (D.fc 4617315517961601024)) (D.fc 13837309855095848960)) (D.bc true)))) (D.bite (D.feq (S18_0 D (D.fc 4613937818241073152) (D.fc 0) (D.fc 4616189618054758400)) (D.fc 4617315517961601024)) (D.bite (D.feq (S14_0 D (D.fc 4613937818241073152) (D.fc 0) (D.fc 4616189618054758400)) (D.fc 4603579539098121011)) (S14_3 D (D.fc 4613937818241073152) (D.fc 0) (D.fc 4616189618054758400)) (D.bc false)) (D.bc false)) (D.bc false)) (D.bc false))
theorem ev7 (D : Dom)  : joinT (evFn Try.prog (tbl_12 D) 60 7 []) = .val none (.sb (S7_0 D)) := by kernel_rfl
def sp7 : Ev.Spec := fun D l => arg0 l (.ret (.sb (S7_0 D)))
theorem en7 : ∀ l r, (sp7 R l).run = some r → Entry Try.prog 7 l r := by
  intro l r h
  obtain ⟨h, L0⟩ := arg0_inv h
  cases h
  exact (entry_of prg tok_12 (ev7 R ) (fun o ho => nomatch ho) rfl).le L0
def tl_7 : List (Nat × Ev.Spec) := (7, sp7) :: tl_12
def tbl_7 (D : Dom) : Tbl D := tblOf tl_7 D
theorem tok_7 : TblOK Try.prog (tbl_7 R) := TblOK.cons tok_12 en7

-- penumbra/penumbraref02.Dot
def S10_0 (D : Dom) (a0 : D.F) (a1 : D.F) (a2 : D.F) (a3 : D.F) (a4 : D.F) (a5 : D.F) : D.F := (D.fadd (D.fadd (D.fmul a0 a3) (D.fmul a1 a4)) (D.fmul a2 a5))
theorem ev10 (D : Dom) (a0 : D.F) (a1 : D.F) (a2 : D.F) (a3 : D.F) (a4 : D.F) (a5 : D.F) : joinT (evFn Try.prog (tbl_7 D) 60 10 [.agg [.fl a0, .fl a1, .fl a2], .agg [.fl a3, .fl a4, .fl a5]]) = .val none (.fl (S10_0 D a0 a1 a2 a3 a4 a5)) := by kernel_rfl
def sp10 : Ev.Spec := fun D l => argA l fun c0 r0 => argF c0 fun a0 r1 => argF r1 fun a1 r2 => argF r2 fun a2 r3 => arg0 r3 (argA r0 fun c100 r100 => argF c100 fun a3 r101 => argF r101 fun a4 r102 => argF r102 fun a5 r103 => arg0 r103 (arg0 r100 (.ret (.fl (S10_0 D a0 a1 a2 a3 a4 a5)))))
theorem en10 : ∀ l r, (sp10 R l).run = some r → Entry Try.prog 10 l r := by
  intro l r h
  obtain ⟨_, _, h, L0⟩ := argA_inv h
  obtain ⟨x1, _, h, L1⟩ := argF_inv h
  obtain ⟨x2, _, h, L2⟩ := argF_inv h
  obtain ⟨x3, _, h, L3⟩ := argF_inv h
  obtain ⟨h, L4⟩ := arg0_inv h
  obtain ⟨_, _, h, L5⟩ := argA_inv h
  obtain ⟨x6, _, h, L6⟩ := argF_inv h
  obtain ⟨x7, _, h, L7⟩ := argF_inv h
  obtain ⟨x8, _, h, L8⟩ := argF_inv h
  obtain ⟨h, L9⟩ := arg0_inv h
  obtain ⟨h, L10⟩ := arg0_inv h
  cases h
  exact (entry_of prg tok_7 (ev10 R x1 x2 x3 x6 x7 x8) (fun o ho => nomatch ho) rfl).le (L0 _ _ (L1 _ (L2 _ (L3 _ L4))) (L5 _ _ (L6 _ (L7 _ (L8 _ L9))) L10))
def tl_10 : List (Nat × Ev.Spec) := (10, sp10) :: tl_7
def tbl_10 (D : Dom) : Tbl D := tblOf tl_10 D
theorem tok_10 : TblOK Try.prog (tbl_10 R) := TblOK.cons tok_7 en10

-- penumbra/penumbraref02.Same
def S8_0 (D : Dom) (a0 : D.F) (a1 : D.F) : D.B := (D.bite (D.feq a0 a1) (D.bc true) (D.bite (D.bnot (D.feq a0 a0)) (D.bnot (D.feq a1 a1)) (D.bc false)))
theorem ev8 (D : Dom) (a0 : D.F) (a1 : D.F) : joinT (evFn Try.prog (tbl_10 D) 60 8 [.fl a0, .fl a1]) = .val none (.sb (S8_0 D a0 a1)) := by kernel_rfl
def sp8 : Ev.Spec := fun D l => argF l fun a0 r0 => argF r0 fun a1 r1 => arg0 r1 (.ret (.sb (S8_0 D a0 a1)))
theorem en8 : ∀ l r, (sp8 R l).run = some r → Entry Try.prog 8 l r := by
  intro l r h
  obtain ⟨x0, _, h, L0⟩ := argF_inv h
  obtain ⟨x1, _, h, L1⟩ := argF_inv h
  obtain ⟨h, L2⟩ := arg0_inv h
  cases h
  exact (entry_of prg tok_10 (ev8 R x0 x1) (fun o ho => nomatch ho) rfl).le (L0 _ (L1 _ L2))
def tl_8 : List (Nat × Ev.Spec) := (8, sp8) :: tl_10
def tbl_8 (D : Dom) : Tbl D := tblOf tl_8 D
theorem tok_8 : TblOK Try.prog (tbl_8 R) := TblOK.cons tok_10 en8

-- penumbra/penumbraref02.less
def S35_0 (D : Dom) (a0 : D.F) (a1 : D.F) (a2 : D.F) (a3 : D.F) : D.F := (D.fsub (D.fmul a0 a1) (D.fmul a2 a3))
theorem ev35 (D : Dom) (a0 : D.F) (a1 : D.F) (a2 : D.F) (a3 : D.F) : joinT (evFn Try.prog (tbl_8 D) 60 35 [.fl a0, .fl a1, .fl a2, .fl a3]) = .val none (.fl (S35_0 D a0 a1 a2 a3)) := by kernel_rfl
def sp35 : Ev.Spec := fun D l => argF l fun a0 r0 => argF r0 fun a1 r1 => argF r1 fun a2 r2 => argF r2 fun a3 r3 => arg0 r3 (.ret (.fl (S35_0 D a0 a1 a2 a3)))
theorem en35 : ∀ l r, (sp35 R l).run = some r → Entry Try.prog 35 l r := by
  intro l r h
  obtain ⟨x0, _, h, L0⟩ := argF_inv h
  obtain ⟨x1, _, h, L1⟩ := argF_inv h
  obtain ⟨x2, _, h, L2⟩ := argF_inv h
  obtain ⟨x3, _, h, L3⟩ := argF_inv h
  obtain ⟨h, L4⟩ := arg0_inv h
  cases h
  exact (entry_of prg tok_8 (ev35 R x0 x1 x2 x3) (fun o ho => nomatch ho) rfl).le (L0 _ (L1 _ (L2 _ (L3 _ L4))))
def tl_35 : List (Nat × Ev.Spec) := (35, sp35) :: tl_8
def tbl_35 (D : Dom) : Tbl D := tblOf tl_35 D
theorem tok_35 : TblOK Try.prog (tbl_35 R) := TblOK.cons tok_8 en35

-- penumbra/penumbraref02.Cross
def S13_0 (D : Dom) (a1 : D.F) (a2 : D.F) (a4 : D.F) (a5 : D.F) : D.F := (S35_0 D a1 a5 a2 a4)
def S13_1 (D : Dom) (a0 : D.F) (a2 : D.F) (a3 : D.F) (a5 : D.F) : D.F := (S35_0 D a2 a3 a0 a5)
def S13_2 (D : Dom) (a0 : D.F) (a1 : D.F) (a3 : D.F) (a4 : D.F) : D.F := (S35_0 D a0 a4 a1 a3)
theorem ev13 (D : Dom) (a0 : D.F) (a1 : D.F) (a2 : D.F) (a3 : D.F) (a4 : D.F) (a5 : D.F) : joinT (evFn Try.prog (tbl_35 D) 60 13 [.agg [.fl a0, .fl a1, .fl a2], .agg [.fl a3, .fl a4, .fl a5]]) = .val none (.agg [.fl (S13_0 D a1 a2 a4 a5), .fl (S13_1 D a0 a2 a3 a5), .fl (S13_2 D a0 a1 a3 a4)]) := by kernel_rfl
def sp13 : Ev.Spec := fun D l => argA l fun c0 r0 => argF c0 fun a0 r1 => argF r1 fun a1 r2 => argF r2 fun a2 r3 => arg0 r3 (argA r0 fun c100 r100 => argF c100 fun a3 r101 => argF r101 fun a4 r102 => argF r102 fun a5 r103 => arg0 r103 (arg0 r100 (.ret (.agg [.fl (S13_0 D a1 a2 a4 a5), .fl (S13_1 D a0 a2 a3 a5), .fl (S13_2 D a0 a1 a3 a4)]))))
theorem en13 : ∀ l r, (sp13 R l).run = some r → Entry Try.prog 13 l r := by
  intro l r h
  obtain ⟨_, _, h, L0⟩ := argA_inv h
  obtain ⟨x1, _, h, L1⟩ := argF_inv h
  obtain ⟨x2, _, h, L2⟩ := argF_inv h
  obtain ⟨x3, _, h, L3⟩ := argF_inv h
  obtain ⟨h, L4⟩ := arg0_inv h
  obtain ⟨_, _, h, L5⟩ := argA_inv h
  obtain ⟨x6, _, h, L6⟩ := argF_inv h
  obtain ⟨x7, _, h, L7⟩ := argF_inv h
  obtain ⟨x8, _, h, L8⟩ := argF_inv h
  obtain ⟨h, L9⟩ := arg0_inv h
  obtain ⟨h, L10⟩ := arg0_inv h
  cases h
  exact (entry_of prg tok_35 (ev13 R x1 x2 x3 x6 x7 x8) (fun o ho => nomatch ho) rfl).le (L0 _ _ (L1 _ (L2 _ (L3 _ L4))) (L5 _ _ (L6 _ (L7 _ (L8 _ L9))) L10))
def tl_13 : List (Nat × Ev.Spec) := (13, sp13) :: tl_35
def tbl_13 (D : Dom) : Tbl D := tblOf tl_13 D
theorem tok_13 : TblOK Try.prog (tbl_13 R) := TblOK.cons tok_35 en13

-- penumbra/penumbraref02.Is
def S11_0 (D : Dom) (a0 : D.F) (a1 : D.F) (a2 : D.F) (a3 : D.F) (a4 : D.F) (a5 : D.F) : D.B := (D.bite (S8_0 D a0 a3) (D.bite (S8_0 D a1 a4) (S8_0 D a2 a5) (D.bc false)) (D.bc false))
theorem ev11 (D : Dom) (a0 : D.F) (a1 : D.F) (a2 : D.F) (a3 : D.F) (a4 : D.F) (a5 : D.F) : joinT (evFn Try.prog (tbl_13 D) 60 11 [.agg [.fl a0, .fl a1, .fl a2], .agg [.fl a3, .fl a4, .fl a5]]) = .val none (.sb (S11_0 D a0 a1 a2 a3 a4 a5)) := by kernel_rfl
def sp11 : Ev.Spec := fun D l => argA l fun c0 r0 => argF c0 fun a0 r1 => argF r1 fun a1 r2 => argF r2 fun a2 r3 => arg0 r3 (argA r0 fun c100 r100 => argF c100 fun a3 r101 => argF r101 fun a4 r102 => argF r102 fun a5 r103 => arg0 r103 (arg0 r100 (.ret (.sb (S11_0 D a0 a1 a2 a3 a4 a5)))))
theorem en11 : ∀ l r, (sp11 R l).run = some r → Entry Try.prog 11 l r := by
  intro l r h
  obtain ⟨_, _, h, L0⟩ := argA_inv h
  obtain ⟨x1, _, h, L1⟩ := argF_inv h
  obtain ⟨x2, _, h, L2⟩ := argF_inv h
  obtain ⟨x3, _, h, L3⟩ := argF_inv h
  obtain ⟨h, L4⟩ := arg0_inv h
  obtain ⟨_, _, h, L5⟩ := argA_inv h
  obtain ⟨x6, _, h, L6⟩ := argF_inv h
  obtain ⟨x7, _, h, L7⟩ := argF_inv h
  obtain ⟨x8, _, h, L8⟩ := argF_inv h
  obtain ⟨h, L9⟩ := arg0_inv h
  obtain ⟨h, L10⟩ := arg0_inv h
  cases h
  exact (entry_of prg tok_13 (ev11 R x1 x2 x3 x6 x7 x8) (fun o ho => nomatch ho) rfl).le (L0 _ _ (L1 _ (L2 _ (L3 _ L4))) (L5 _ _ (L6 _ (L7 _ (L8 _ L9))) L10))
def tl_11 : List (Nat × Ev.Spec) := (11, sp11) :: tl_13
def tbl_11 (D : Dom) : Tbl D := tblOf tl_11 D
theorem tok_11 : TblOK Try.prog (tbl_11 R) := TblOK.cons tok_13 en11

-- penumbra/penumbralaw02.VecProducts
def S3_0 (D : Dom) (a0 : D.F) (a1 : D.F) (a2 : D.F) (a3 : D.F) (a4 : D.F) (a5 : D.F) : D.B := (D.bite (S7_0 D) (D.bite (S8_0 D (S9_0 D a0 a1 a2 a3 a4 a5) (S10_0 D a0 a1 a2 a3 a4 a5)) (D.bite (S11_0 D (S12_0 D a1 a2 a4 a5) (S12_1 D a0 a2 a3 a5) (S12_2 D a0 a1 a3 a4) (S13_0 D a1 a2 a4 a5) (S13_1 D a0 a2 a3 a5) (S13_2 D a0 a1 a3 a4)) (S8_0 D (S9_0 D a0 a1 a2 a3 a4 a5) (S9_0 D a3 a4 a5 a0 a1 a2)) (D.bc false)) (D.bc false)) (D.bc false))
theorem ev3 (D : Dom) (a0 : D.F) (a1 : D.F) (a2 : D.F) (a3 : D.F) (a4 : D.F) (a5 : D.F) : joinT (evFn Try.prog (tbl_11 D) 60 3 [.agg [.fl a0, .fl a1, .fl a2], .agg [.fl a3, .fl a4, .fl a5]]) = .val none (.sb (S3_0 D a0 a1 a2 a3 a4 a5)) := by kernel_rfl
def sp3 : Ev.Spec := fun D l => argA l fun c0 r0 => argF c0 fun a0 r1 => argF r1 fun a1 r2 => argF r2 fun a2 r3 => arg0 r3 (argA r0 fun c100 r100 => argF c100 fun a3 r101 => argF r101 fun a4 r102 => argF r102 fun a5 r103 => arg0 r103 (arg0 r100 (.ret (.sb (S3_0 D a0 a1 a2 a3 a4 a5)))))
theorem en3 : ∀ l r, (sp3 R l).run = some r → Entry Try.prog 3 l r := by
  intro l r h
  obtain ⟨_, _, h, L0⟩ := argA_inv h
  obtain ⟨x1, _, h, L1⟩ := argF_inv h
  obtain ⟨x2, _, h, L2⟩ := argF_inv h
  obtain ⟨x3, _, h, L3⟩ := argF_inv h
  obtain ⟨h, L4⟩ := arg0_inv h
  obtain ⟨_, _, h, L5⟩ := argA_inv h
  obtain ⟨x6, _, h, L6⟩ := argF_inv h
  obtain ⟨x7, _, h, L7⟩ := argF_inv h
  obtain ⟨x8, _, h, L8⟩ := argF_inv h
  obtain ⟨h, L9⟩ := arg0_inv h
  obtain ⟨h, L10⟩ := arg0_inv h
  cases h
  exact (entry_of prg tok_11 (ev3 R x1 x2 x3 x6 x7 x8) (fun o ho => nomatch ho) rfl).le (L0 _ _ (L1 _ (L2 _ (L3 _ L4))) (L5 _ _ (L6 _ (L7 _ (L8 _ L9))) L10))
def tl_3 : List (Nat × Ev.Spec) := (3, sp3) :: tl_11
def tbl_3 (D : Dom) : Tbl D := tblOf tl_3 D
theorem tok_3 : TblOK Try.prog (tbl_3 R) := TblOK.cons tok_11 en3

-- penumbra/penumbraref02.Number
def S32_0 (D : Dom) (a0 : D.F) : D.B := (D.feq (D.fsub a0 a0) (D.fc 0))
theorem ev32 (D : Dom) (a0 : D.F) : joinT (evFn Try.prog (tbl_3 D) 60 32 [.fl a0]) = .val none (.sb (S32_0 D a0)) := by kernel_rfl
def sp32 : Ev.Spec := fun D l => argF l fun a0 r0 => arg0 r0 (.ret (.sb (S32_0 D a0)))
theorem en32 : ∀ l r, (sp32 R l).run = some r → Entry Try.prog 32 l r := by
  intro l r h
  obtain ⟨x0, _, h, L0⟩ := argF_inv h
  obtain ⟨h, L1⟩ := arg0_inv h
  cases h
  exact (entry_of prg tok_3 (ev32 R x0) (fun o ho => nomatch ho) rfl).le (L0 _ L1)
def tl_32 : List (Nat × Ev.Spec) := (32, sp32) :: tl_3
def tbl_32 (D : Dom) : Tbl D := tblOf tl_32 D
theorem tok_32 : TblOK Try.prog (tbl_32 R) := TblOK.cons tok_3 en32

-- penumbra/penumbraref02.Unit
def S15_0 (D : Dom) (a0 : D.F) (a1 : D.F) (a2 : D.F) : D.F := (D.fite (D.fgt (S16_0 D (S10_0 D a0 a1 a2 a0 a1 a2)) (D.fc 0)) (D.fite (S32_0 D (S16_0 D (S10_0 D a0 a1 a2 a0 a1 a2))) (D.fdiv a0 (S16_0 D (S10_0 D a0 a1 a2 a0 a1 a2))) (D.fc 0)) (D.fc 0))
def S15_1 (D : Dom) (a0 : D.F) (a1 : D.F) (a2 : D.F) : D.F := (D.fite (D.fgt (S16_0 D (S10_0 D a0 a1 a2 a0 a1 a2)) (D.fc 0)) (D.fite (S32_0 D (S16_0 D (S10_0 D a0 a1 a2 a0 a1 a2))) (D.fdiv a1 (S16_0 D (S10_0 D a0 a1 a2 a0 a1 a2))) (D.fc 0)) (D.fc 0))
def S15_2 (D : Dom) (a0 : D.F) (a1 : D.F) (a2 : D.F) : D.F := (D.fite (D.fgt (S16_0 D (S10_0 D a0 a1 a2 a0 a1 a2)) (D.fc 0)) (D.fite (S32_0 D (S16_0 D (S10_0 D a0 a1 a2 a0 a1 a2))) (D.fdiv a2 (S16_0 D (S10_0 D a0 a1 a2 a0 a1 a2))) (D.fc 0)) (D.fc 0))
def S15_3 (D : Dom) (a0 : D.F) (a1 : D.F) (a2 : D.F) : D.B := (D.bite (D.fgt (S16_0 D (S10_0 D a0 a1 a2 a0 a1 a2)) (D.fc 0)) (D.bite (S32_0 D (S16_0 D (S10_0 D a0 a1 a2 a0 a1 a2))) (D.bc true) (D.bc false)) (D.bc false))
theorem ev15 (D : Dom) (a0 : D.F) (a1 : D.F) (a2 : D.F) : joinT (evFn Try.prog (tbl_32 D) 60 15 [.agg [.fl a0, .fl a1, .fl a2]]) = .val none (.tup [.agg [.fl (S15_0 D a0 a1 a2), .fl (S15_1 D a0 a1 a2), .fl (S15_2 D a0 a1 a2)], .sb (S15_3 D a0 a1 a2)]) := by kernel_rfl
def sp15 : Ev.Spec := fun D l => argA l fun c0 r0 => argF c0 fun a0 r1 => argF r1 fun a1 r2 => argF r2 fun a2 r3 => arg0 r3 (arg0 r0 (.ret (.tup [.agg [.fl (S15_0 D a0 a1 a2), .fl (S15_1 D a0 a1 a2), .fl (S15_2 D a0 a1 a2)], .sb (S15_3 D a0 a1 a2)])))
theorem en15 : ∀ l r, (sp15 R l).run = some r → Entry Try.prog 15 l r := by
  intro l r h
  obtain ⟨_, _, h, L0⟩ := argA_inv h
  obtain ⟨x1, _, h, L1⟩ := argF_inv h
  obtain ⟨x2, _, h, L2⟩ := argF_inv h
  obtain ⟨x3, _, h, L3⟩ := argF_inv h
  obtain ⟨h, L4⟩ := arg0_inv h
  obtain ⟨h, L5⟩ := arg0_inv h
  cases h
  exact (entry_of prg tok_32 (ev15 R x1 x2 x3) (fun o ho => nomatch ho) rfl).le (L0 _ _ (L1 _ (L2 _ (L3 _ L4))) L5)
def tl_15 : List (Nat × Ev.Spec) := (15, sp15) :: tl_32
def tbl_15 (D : Dom) : Tbl D := tblOf tl_15 D
theorem tok_15 : TblOK Try.prog (tbl_15 R) := TblOK.cons tok_32 en15

-- penumbra/penumbralaw02.VecUnits
def S4_0 (D : Dom) (a0 : D.F) (a1 : D.F) (a2 : D.F) : D.B := (D.bite (S7_0 D) (D.bite (S11_0 D (S14_0 D a0 a1 a2) (S14_1 D a0 a1 a2) (S14_2 D a0 a1 a2) (S15_0 D a0 a1 a2) (S15_1 D a0 a1 a2) (S15_2 D a0 a1 a2)) (D.bite (D.beq (S14_3 D a0 a1 a2) (S15_3 D a0 a1 a2)) (D.bite (S8_0 D (S17_0 D a0 a1 a2) (S10_0 D a0 a1 a2 a0 a1 a2)) (S8_0 D (S18_0 D a0 a1 a2) (S16_0 D (S10_0 D a0 a1 a2 a0 a1 a2))) (D.bc false)) (D.bc false)) (D.bc false)) (D.bc false))
theorem ev4 (D : Dom) (a0 : D.F) (a1 : D.F) (a2 : D.F) : joinT (evFn Try.prog (tbl_15 D) 60 4 [.agg [.fl a0, .fl a1, .fl a2]]) = .val none (.sb (S4_0 D a0 a1 a2)) := by kernel_rfl
def sp4 : Ev.Spec := fun D l => argA l fun c0 r0 => argF c0 fun a0 r1 => argF r1 fun a1 r2 => argF r2 fun a2 r3 => arg0 r3 (arg0 r0 (.ret (.sb (S4_0 D a0 a1 a2))))
theorem en4 : ∀ l r, (sp4 R l).run = some r → Entry Try.prog 4 l r := by
  intro l r h
  obtain ⟨_, _, h, L0⟩ := argA_inv h
  obtain ⟨x1, _, h, L1⟩ := argF_inv h
  obtain ⟨x2, _, h, L2⟩ := argF_inv h
  obtain ⟨x3, _, h, L3⟩ := argF_inv h
  obtain ⟨h, L4⟩ := arg0_inv h
  obtain ⟨h, L5⟩ := arg0_inv h
  cases h
  exact (entry_of prg tok_15 (ev4 R x1 x2 x3) (fun o ho => nomatch ho) rfl).le (L0 _ _ (L1 _ (L2 _ (L3 _ L4))) L5)
def tl_4 : List (Nat × Ev.Spec) := (4, sp4) :: tl_15
def tbl_4 (D : Dom) : Tbl D := tblOf tl_4 D
theorem tok_4 : TblOK Try.prog (tbl_4 R) := TblOK.cons tok_15 en4

-- penumbra/vec.Add$1
def S38_0 (D : Dom) (a0 : D.F) (a1 : D.F) : D.F := (D.fadd a0 a1)
theorem ev38 (D : Dom) (a0 : D.F) (a1 : D.F) : joinT (evFn Try.prog (tbl_4 D) 60 38 [.fl a0, .fl a1]) = .val none (.fl (S38_0 D a0 a1)) := by kernel_rfl
def sp38 : Ev.Spec := fun D l => argF l fun a0 r0 => argF r0 fun a1 r1 => arg0 r1 (.ret (.fl (S38_0 D a0 a1)))
theorem en38 : ∀ l r, (sp38 R l).run = some r → Entry Try.prog 38 l r := by
  intro l r h
  obtain ⟨x0, _, h, L0⟩ := argF_inv h
  obtain ⟨x1, _, h, L1⟩ := argF_inv h
  obtain ⟨h, L2⟩ := arg0_inv h
  cases h
  exact (entry_of prg tok_4 (ev38 R x0 x1) (fun o ho => nomatch ho) rfl).le (L0 _ (L1 _ L2))
def tl_38 : List (Nat × Ev.Spec) := (38, sp38) :: tl_4
def tbl_38 (D : Dom) : Tbl D := tblOf tl_38 D
theorem tok_38 : TblOK Try.prog (tbl_38 R) := TblOK.cons tok_4 en38

-- penumbra/vec.Add
def S19_0 (D : Dom) (a0 : D.F) (a3 : D.F) : D.F := (S38_0 D a0 a3)
def S19_1 (D : Dom) (a1 : D.F) (a4 : D.F) : D.F := (S38_0 D a1 a4)
def S19_2 (D : Dom) (a2 : D.F) (a5 : D.F) : D.F := (S38_0 D a2 a5)
theorem ev19 (D : Dom) (a0 : D.F) (a1 : D.F) (a2 : D.F) (a3 : D.F) (a4 : D.F) (a5 : D.F) : joinT (evFn Try.prog (tbl_38 D) 60 19 [.agg [.fl a0, .fl a1, .fl a2], .agg [.fl a3, .fl a4, .fl a5]]) = .val none (.agg [.fl (S19_0 D a0 a3), .fl (S19_1 D a1 a4), .fl (S19_2 D a2 a5)]) := by kernel_rfl
def sp19 : Ev.Spec := fun D l => argA l fun c0 r0 => argF c0 fun a0 r1 => argF r1 fun a1 r2 => argF r2 fun a2 r3 => arg0 r3 (argA r0 fun c100 r100 => argF c100 fun a3 r101 => argF r101 fun a4 r102 => argF r102 fun a5 r103 => arg0 r103 (arg0 r100 (.ret (.agg [.fl (S19_0 D a0 a3), .fl (S19_1 D a1 a4), .fl (S19_2 D a2 a5)]))))
theorem en19 : ∀ l r, (sp19 R l).run = some r → Entry Try.prog 19 l r := by
  intro l r h
  obtain ⟨_, _, h, L0⟩ := argA_inv h
  obtain ⟨x1, _, h, L1⟩ := argF_inv h
  obtain ⟨x2, _, h, L2⟩ := argF_inv h
  obtain ⟨x3, _, h, L3⟩ := argF_inv h
  obtain ⟨h, L4⟩ := arg0_inv h
  obtain ⟨_, _, h, L5⟩ := argA_inv h
  obtain ⟨x6, _, h, L6⟩ := argF_inv h
  obtain ⟨x7, _, h, L7⟩ := argF_inv h
  obtain ⟨x8, _, h, L8⟩ := argF_inv h
  obtain ⟨h, L9⟩ := arg0_inv h
  obtain ⟨h, L10⟩ := arg0_inv h
  cases h
  exact (entry_of prg tok_38 (ev19 R x1 x2 x3 x6 x7 x8) (fun o ho => nomatch ho) rfl).le (L0 _ _ (L1 _ (L2 _ (L3 _ L4))) (L5 _ _ (L6 _ (L7 _ (L8 _ L9))) L10))
def tl_19 : List (Nat × Ev.Spec) := (19, sp19) :: tl_38
def tbl_19 (D : Dom) : Tbl D := tblOf tl_19 D
theorem tok_19 : TblOK Try.prog (tbl_19 R) := TblOK.cons tok_38 en19

-- penumbra/penumbraref02.Add
def S20_0 (D : Dom) (a0 : D.F) (a3 : D.F) : D.F := (D.fadd a0 a3)
def S20_1 (D : Dom) (a1 : D.F) (a4 : D.F) : D.F := (D.fadd a1 a4)
def S20_2 (D : Dom) (a2 : D.F) (a5 : D.F) : D.F := (D.fadd a2 a5)
theorem ev20 (D : Dom) (a0 : D.F) (a1 : D.F) (a2 : D.F) (a3 : D.F) (a4 : D.F) (a5 : D.F) : joinT (evFn Try.prog (tbl_19 D) 60 20 [.agg [.fl a0, .fl a1, .fl a2], .agg [.fl a3, .fl a4, .fl a5]]) = .val none (.agg [.fl (S20_0 D a0 a3), .fl (S20_1 D a1 a4), .fl (S20_2 D a2 a5)]) := by kernel_rfl
def sp20 : Ev.Spec := fun D l => argA l fun c0 r0 => argF c0 fun a0 r1 => argF r1 fun a1 r2 => argF r2 fun a2 r3 => arg0 r3 (argA r0 fun c100 r100 => argF c100 fun a3 r101 => argF r101 fun a4 r102 => argF r102 fun a5 r103 => arg0 r103 (arg0 r100 (.ret (.agg [.fl (S20_0 D a0 a3), .fl (S20_1 D a1 a4), .fl (S20_2 D a2 a5)]))))
theorem en20 : ∀ l r, (sp20 R l).run = some r → Entry Try.prog 20 l r := by
  intro l r h
  obtain ⟨_, _, h, L0⟩ := argA_inv h
  obtain ⟨x1, _, h, L1⟩ := argF_inv h
  obtain ⟨x2, _, h, L2⟩ := argF_inv h
  obtain ⟨x3, _, h, L3⟩ := argF_inv h
  obtain ⟨h, L4⟩ := arg0_inv h
  obtain ⟨_, _, h, L5⟩ := argA_inv h
  obtain ⟨x6, _, h, L6⟩ := argF_inv h
  obtain ⟨x7, _, h, L7⟩ := argF_inv h
  obtain ⟨x8, _, h, L8⟩ := argF_inv h
  obtain ⟨h, L9⟩ := arg0_inv h
  obtain ⟨h, L10⟩ := arg0_inv h
  cases h
  exact (entry_of prg tok_19 (ev20 R x1 x2 x3 x6 x7 x8) (fun o ho => nomatch ho) rfl).le (L0 _ _ (L1 _ (L2 _ (L3 _ L4))) (L5 _ _ (L6 _ (L7 _ (L8 _ L9))) L10))
def tl_20 : List (Nat × Ev.Spec) := (20, sp20) :: tl_19
def tbl_20 (D : Dom) : Tbl D := tblOf tl_20 D
theorem tok_20 : TblOK Try.prog (tbl_20 R) := TblOK.cons tok_19 en20

-- penumbra/penumbraref02.Sub
def S22_0 (D : Dom) (a0 : D.F) (a3 : D.F) : D.F := (D.fsub a0 a3)
def S22_1 (D : Dom) (a1 : D.F) (a4 : D.F) : D.F := (D.fsub a1 a4)
def S22_2 (D : Dom) (a2 : D.F) (a5 : D.F) : D.F := (D.fsub a2 a5)
theorem ev22 (D : Dom) (a0 : D.F) (a1 : D.F) (a2 : D.F) (a3 : D.F) (a4 : D.F) (a5 : D.F) : joinT (evFn Try.prog (tbl_20 D) 60 22 [.agg [.fl a0, .fl a1, .fl a2], .agg [.fl a3, .fl a4, .fl a5]]) = .val none (.agg [.fl (S22_0 D a0 a3), .fl (S22_1 D a1 a4), .fl (S22_2 D a2 a5)]) := by kernel_rfl
def sp22 : Ev.Spec := fun D l => argA l fun c0 r0 => argF c0 fun a0 r1 => argF r1 fun a1 r2 => argF r2 fun a2 r3 => arg0 r3 (argA r0 fun c100 r100 => argF c100 fun a3 r101 => argF r101 fun a4 r102 => argF r102 fun a5 r103 => arg0 r103 (arg0 r100 (.ret (.agg [.fl (S22_0 D a0 a3), .fl (S22_1 D a1 a4), .fl (S22_2 D a2 a5)]))))
theorem en22 : ∀ l r, (sp22 R l).run = some r → Entry Try.prog 22 l r := by
  intro l r h
  obtain ⟨_, _, h, L0⟩ := argA_inv h
  obtain ⟨x1, _, h, L1⟩ := argF_inv h
  obtain ⟨x2, _, h, L2⟩ := argF_inv h
  obtain ⟨x3, _, h, L3⟩ := argF_inv h
  obtain ⟨h, L4⟩ := arg0_inv h
  obtain ⟨_, _, h, L5⟩ := argA_inv h
  obtain ⟨x6, _, h, L6⟩ := argF_inv h
  obtain ⟨x7, _, h, L7⟩ := argF_inv h
  obtain ⟨x8, _, h, L8⟩ := argF_inv h
  obtain ⟨h, L9⟩ := arg0_inv h
  obtain ⟨h, L10⟩ := arg0_inv h
  cases h
  exact (entry_of prg tok_20 (ev22 R x1 x2 x3 x6 x7 x8) (fun o ho => nomatch ho) rfl).le (L0 _ _ (L1 _ (L2 _ (L3 _ L4))) (L5 _ _ (L6 _ (L7 _ (L8 _ L9))) L10))
def tl_22 : List (Nat × Ev.Spec) := (22, sp22) :: tl_20
def tbl_22 (D : Dom) : Tbl D := tblOf tl_22 D
theorem tok_22 : TblOK Try.prog (tbl_22 R) := TblOK.cons tok_20 en22

-- penumbra/vec.Scale
def S24_0 (D : Dom) (a0 : D.F) (a3 : D.F) : D.F := (S23_0 D a0 a3)
def S24_1 (D : Dom) (a1 : D.F) (a3 : D.F) : D.F := (S23_1 D a1 a3)
def S24_2 (D : Dom) (a2 : D.F) (a3 : D.F) : D.F := (S23_2 D a2 a3)
theorem ev24 (D : Dom) (a0 : D.F) (a1 : D.F) (a2 : D.F) (a3 : D.F) : joinT (evFn Try.prog (tbl_22 D) 60 24 [.agg [.fl a0, .fl a1, .fl a2], .fl a3]) = .val none (.agg [.fl (S24_0 D a0 a3), .fl (S24_1 D a1 a3), .fl (S24_2 D a2 a3)]) := by kernel_rfl
def sp24 : Ev.Spec := fun D l => argA l fun c0 r0 => argF c0 fun a0 r1 => argF r1 fun a1 r2 => argF r2 fun a2 r3 => arg0 r3 (argF r0 fun a3 r100 => arg0 r100 (.ret (.agg [.fl (S24_0 D a0 a3), .fl (S24_1 D a1 a3), .fl (S24_2 D a2 a3)])))
theorem en24 : ∀ l r, (sp24 R l).run = some r → Entry Try.prog 24 l r := by
  intro l r h
  obtain ⟨_, _, h, L0⟩ := argA_inv h
  obtain ⟨x1, _, h, L1⟩ := argF_inv h
  obtain ⟨x2, _, h, L2⟩ := argF_inv h
  obtain ⟨x3, _, h, L3⟩ := argF_inv h
  obtain ⟨h, L4⟩ := arg0_inv h
  obtain ⟨x5, _, h, L5⟩ := argF_inv h
  obtain ⟨h, L6⟩ := arg0_inv h
  cases h
  exact (entry_of prg tok_22 (ev24 R x1 x2 x3 x5) (fun o ho => nomatch ho) rfl).le (L0 _ _ (L1 _ (L2 _ (L3 _ L4))) (L5 _ L6))
def tl_24 : List (Nat × Ev.Spec) := (24, sp24) :: tl_22
def tbl_24 (D : Dom) : Tbl D := tblOf tl_24 D
theorem tok_24 : TblOK Try.prog (tbl_24 R) := TblOK.cons tok_22 en24

-- penumbra/penumbraref02.Scale
def S25_0 (D : Dom) (a0 : D.F) (a3 : D.F) : D.F := (D.fmul a0 a3)
def S25_1 (D : Dom) (a1 : D.F) (a3 : D.F) : D.F := (D.fmul a1 a3)
def S25_2 (D : Dom) (a2 : D.F) (a3 : D.F) : D.F := (D.fmul a2 a3)
theorem ev25 (D : Dom) (a0 : D.F) (a1 : D.F) (a2 : D.F) (a3 : D.F) : joinT (evFn Try.prog (tbl_24 D) 60 25 [.agg [.fl a0, .fl a1, .fl a2], .fl a3]) = .val none (.agg [.fl (S25_0 D a0 a3), .fl (S25_1 D a1 a3), .fl (S25_2 D a2 a3)]) := by kernel_rfl
def sp25 : Ev.Spec := fun D l => argA l fun c0 r0 => argF c0 fun a0 r1 => argF r1 fun a1 r2 => argF r2 fun a2 r3 => arg0 r3 (argF r0 fun a3 r100 => arg0 r100 (.ret (.agg [.fl (S25_0 D a0 a3), .fl (S25_1 D a1 a3), .fl (S25_2 D a2 a3)])))
theorem en25 : ∀ l r, (sp25 R l).run = some r → Entry Try.prog 25 l r := by
  intro l r h
  obtain ⟨_, _, h, L0⟩ := argA_inv h
  obtain ⟨x1, _, h, L1⟩ := argF_inv h
  obtain ⟨x2, _, h, L2⟩ := argF_inv h
  obtain ⟨x3, _, h, L3⟩ := argF_inv h
  obtain ⟨h, L4⟩ := arg0_inv h
  obtain ⟨x5, _, h, L5⟩ := argF_inv h
  obtain ⟨h, L6⟩ := arg0_inv h
  cases h
  exact (entry_of prg tok_24 (ev25 R x1 x2 x3 x5) (fun o ho => nomatch ho) rfl).le (L0 _ _ (L1 _ (L2 _ (L3 _ L4))) (L5 _ L6))
def tl_25 : List (Nat × Ev.Spec) := (25, sp25) :: tl_24
def tbl_25 (D : Dom) : Tbl D := tblOf tl_25 D
theorem tok_25 : TblOK Try.prog (tbl_25 R) := TblOK.cons tok_24 en25

-- penumbra/vec.Neg
def S26_0 (D : Dom) (a0 : D.F) : D.F := (S21_0 D (D.fc 0) a0)
def S26_1 (D : Dom) (a1 : D.F) : D.F := (S21_1 D (D.fc 0) a1)
def S26_2 (D : Dom) (a2 : D.F) : D.F := (S21_2 D (D.fc 0) a2)
theorem ev26 (D : Dom) (a0 : D.F) (a1 : D.F) (a2 : D.F) : joinT (evFn Try.prog (tbl_25 D) 60 26 [.agg [.fl a0, .fl a1, .fl a2]]) = .val none (.agg [.fl (S26_0 D a0), .fl (S26_1 D a1), .fl (S26_2 D a2)]) := by kernel_rfl
def sp26 : Ev.Spec := fun D l => argA l fun c0 r0 => argF c0 fun a0 r1 => argF r1 fun a1 r2 => argF r2 fun a2 r3 => arg0 r3 (arg0 r0 (.ret (.agg [.fl (S26_0 D a0), .fl (S26_1 D a1), .fl (S26_2 D a2)])))
theorem en26 : ∀ l r, (sp26 R l).run = some r → Entry Try.prog 26 l r := by
  intro l r h
  obtain ⟨_, _, h, L0⟩ := argA_inv h
  obtain ⟨x1, _, h, L1⟩ := argF_inv h
  obtain ⟨x2, _, h, L2⟩ := argF_inv h
  obtain ⟨x3, _, h, L3⟩ := argF_inv h
  obtain ⟨h, L4⟩ := arg0_inv h
  obtain ⟨h, L5⟩ := arg0_inv h
  cases h
  exact (entry_of prg tok_25 (ev26 R x1 x2 x3) (fun o ho => nomatch ho) rfl).le (L0 _ _ (L1 _ (L2 _ (L3 _ L4))) L5)
def tl_26 : List (Nat × Ev.Spec) := (26, sp26) :: tl_25
def tbl_26 (D : Dom) : Tbl D := tblOf tl_26 D
theorem tok_26 : TblOK Try.prog (tbl_26 R) := TblOK.cons tok_25 en26

-- penumbra/vec.Along
def S27_0 (D : Dom) (a0 : D.F) (a3 : D.F) (a6 : D.F) : D.F := (S19_0 D a0 (S24_0 D a3 a6))
def S27_1 (D : Dom) (a1 : D.F) (a4 : D.F) (a6 : D.F) : D.F := (S19_1 D a1 (S24_1 D a4 a6))
def S27_2 (D : Dom) (a2 : D.F) (a5 : D.F) (a6 : D.F) : D.F := (S19_2 D a2 (S24_2 D a5 a6))
theorem ev27 (D : Dom) (a0 : D.F) (a1 : D.F) (a2 : D.F) (a3 : D.F) (a4 : D.F) (a5 : D.F) (a6 : D.F) : joinT (evFn Try.prog (tbl_26 D) 60 27 [.agg [.fl a0, .fl a1, .fl a2, .fl a3, .fl a4, .fl a5], .fl a6]) = .val none (.agg [.fl (S27_0 D a0 a3 a6), .fl (S27_1 D a1 a4 a6), .fl (S27_2 D a2 a5 a6)]) := by kernel_rfl
def sp27 : Ev.Spec := fun D l => argA l fun c0 r0 => argF c0 fun a0 r1 => argF r1 fun a1 r2 => argF r2 fun a2 r3 => argF r3 fun a3 r4 => argF r4 fun a4 r5 => argF r5 fun a5 r6 => arg0 r6 (argF r0 fun a6 r100 => arg0 r100 (.ret (.agg [.fl (S27_0 D a0 a3 a6), .fl (S27_1 D a1 a4 a6), .fl (S27_2 D a2 a5 a6)])))
theorem en27 : ∀ l r, (sp27 R l).run = some r → Entry Try.prog 27 l r := by
  intro l r h
  obtain ⟨_, _, h, L0⟩ := argA_inv h
  obtain ⟨x1, _, h, L1⟩ := argF_inv h
  obtain ⟨x2, _, h, L2⟩ := argF_inv h
  obtain ⟨x3, _, h, L3⟩ := argF_inv h
  obtain ⟨x4, _, h, L4⟩ := argF_inv h
  obtain ⟨x5, _, h, L5⟩ := argF_inv h
  obtain ⟨x6, _, h, L6⟩ := argF_inv h
  obtain ⟨h, L7⟩ := arg0_inv h
  obtain ⟨x8, _, h, L8⟩ := argF_inv h
  obtain ⟨h, L9⟩ := arg0_inv h
  cases h
  exact (entry_of prg tok_26 (ev27 R x1 x2 x3 x4 x5 x6 x8) (fun o ho => nomatch ho) rfl).le (L0 _ _ (L1 _ (L2 _ (L3 _ (L4 _ (L5 _ (L6 _ L7)))))) (L8 _ L9))
def tl_27 : List (Nat × Ev.Spec) := (27, sp27) :: tl_26
def tbl_27 (D : Dom) : Tbl D := tblOf tl_27 D
theorem tok_27 : TblOK Try.prog (tbl_27 R) := TblOK.cons tok_26 en27

-- penumbra/penumbraref02.Along
def S28_0 (D : Dom) (a0 : D.F) (a3 : D.F) (a6 : D.F) : D.F := (S20_0 D a0 (S25_0 D a3 a6))
def S28_1 (D : Dom) (a1 : D.F) (a4 : D.F) (a6 : D.F) : D.F := (S20_1 D a1 (S25_1 D a4 a6))
def S28_2 (D : Dom) (a2 : D.F) (a5 : D.F) (a6 : D.F) : D.F := (S20_2 D a2 (S25_2 D a5 a6))
theorem ev28 (D : Dom) (a0 : D.F) (a1 : D.F) (a2 : D.F) (a3 : D.F) (a4 : D.F) (a5 : D.F) (a6 : D.F) : joinT (evFn Try.prog (tbl_27 D) 60 28 [.agg [.fl a0, .fl a1, .fl a2, .fl a3, .fl a4, .fl a5], .fl a6]) = .val none (.agg [.fl (S28_0 D a0 a3 a6), .fl (S28_1 D a1 a4 a6), .fl (S28_2 D a2 a5 a6)]) := by kernel_rfl
def sp28 : Ev.Spec := fun D l => argA l fun c0 r0 => argF c0 fun a0 r1 => argF r1 fun a1 r2 => argF r2 fun a2 r3 => argF r3 fun a3 r4 => argF r4 fun a4 r5 => argF r5 fun a5 r6 => arg0 r6 (argF r0 fun a6 r100 => arg0 r100 (.ret (.agg [.fl (S28_0 D a0 a3 a6), .fl (S28_1 D a1 a4 a6), .fl (S28_2 D a2 a5 a6)])))
theorem en28 : ∀ l r, (sp28 R l).run = some r → Entry Try.prog 28 l r := by
  intro l r h
  obtain ⟨_, _, h, L0⟩ := argA_inv h
  obtain ⟨x1, _, h, L1⟩ := argF_inv h
  obtain ⟨x2, _, h, L2⟩ := argF_inv h
  obtain ⟨x3, _, h, L3⟩ := argF_inv h
  obtain ⟨x4, _, h, L4⟩ := argF_inv h
  obtain ⟨x5, _, h, L5⟩ := argF_inv h
  obtain ⟨x6, _, h, L6⟩ := argF_inv h
  obtain ⟨h, L7⟩ := arg0_inv h
  obtain ⟨x8, _, h, L8⟩ := argF_inv h
  obtain ⟨h, L9⟩ := arg0_inv h
  cases h
  exact (entry_of prg tok_27 (ev28 R x1 x2 x3 x4 x5 x6 x8) (fun o ho => nomatch ho) rfl).le (L0 _ _ (L1 _ (L2 _ (L3 _ (L4 _ (L5 _ (L6 _ L7)))))) (L8 _ L9))
def tl_28 : List (Nat × Ev.Spec) := (28, sp28) :: tl_27
def tbl_28 (D : Dom) : Tbl D := tblOf tl_28 D
theorem tok_28 : TblOK Try.prog (tbl_28 R) := TblOK.cons tok_27 en28

-- penumbra/penumbralaw02.VecParts
def S5_0 (D : Dom) (a0 : D.F) (a1 : D.F) (a2 : D.F) (a3 : D.F) (a4 : D.F) (a5 : D.F) (a6 : D.F) : D.B := (D.bite (S7_0 D) (D.bite (S11_0 D (S19_0 D a0 a3) (S19_1 D a1 a4) (S19_2 D a2 a5) (S20_0 D a0 a3) (S20_1 D a1 a4) (S20_2 D a2 a5)) (D.bite (S11_0 D (S21_0 D a0 a3) (S21_1 D a1 a4) (S21_2 D a2 a5) (S22_0 D a0 a3) (S22_1 D a1 a4) (S22_2 D a2 a5)) (D.bite (S11_0 D (S23_0 D a0 a3) (S23_1 D a1 a4) (S23_2 D a2 a5) (D.fmul a0 a3) (D.fmul a1 a4) (D.fmul a2 a5)) (D.bite (S11_0 D (S24_0 D a0 a6) (S24_1 D a1 a6) (S24_2 D a2 a6) (S25_0 D a0 a6) (S25_1 D a1 a6) (S25_2 D a2 a6)) (D.bite (S11_0 D (S26_0 D a0) (S26_1 D a1) (S26_2 D a2) (S22_0 D (D.fc 0) a0) (S22_1 D (D.fc 0) a1) (S22_2 D (D.fc 0) a2)) (S11_0 D (S27_0 D a0 a3 a6) (S27_1 D a1 a4 a6) (S27_2 D a2 a5 a6) (S28_0 D a0 a3 a6) (S28_1 D a1 a4 a6) (S28_2 D a2 a5 a6)) (D.bc false)) (D.bc false)) (D.bc false)) (D.bc false)) (D.bc false)) (D.bc false))
theorem ev5 (D : Dom) (a0 : D.F) (a1 : D.F) (a2 : D.F) (a3 : D.F) (a4 : D.F) (a5 : D.F) (a6 : D.F) : joinT (evFn Try.prog (tbl_28 D) 60 5 [.agg [.fl a0, .fl a1, .fl a2], .agg [.fl a3, .fl a4, .fl a5], .fl a6]) = .val none (.sb (S5_0 D a0 a1 a2 a3 a4 a5 a6)) := by kernel_rfl
def sp5 : Ev.Spec := fun D l => argA l fun c0 r0 => argF c0 fun a0 r1 => argF r1 fun a1 r2 => argF r2 fun a2 r3 => arg0 r3 (argA r0 fun c100 r100 => argF c100 fun a3 r101 => argF r101 fun a4 r102 => argF r102 fun a5 r103 => arg0 r103 (argF r100 fun a6 r200 => arg0 r200 (.ret (.sb (S5_0 D a0 a1 a2 a3 a4 a5 a6)))))
theorem en5 : ∀ l r, (sp5 R l).run = some r → Entry Try.prog 5 l r := by
  intro l r h
  obtain ⟨_, _, h, L0⟩ := argA_inv h
  obtain ⟨x1, _, h, L1⟩ := argF_inv h
  obtain ⟨x2, _, h, L2⟩ := argF_inv h
  obtain ⟨x3, _, h, L3⟩ := argF_inv h
  obtain ⟨h, L4⟩ := arg0_inv h
  obtain ⟨_, _, h, L5⟩ := argA_inv h
  obtain ⟨x6, _, h, L6⟩ := argF_inv h
  obtain ⟨x7, _, h, L7⟩ := argF_inv h
  obtain ⟨x8, _, h, L8⟩ := argF_inv h
  obtain ⟨h, L9⟩ := arg0_inv h
  obtain ⟨x10, _, h, L10⟩ := argF_inv h
  obtain ⟨h, L11⟩ := arg0_inv h
  cases h
  exact (entry_of prg tok_28 (ev5 R x1 x2 x3 x6 x7 x8 x10) (fun o ho => nomatch ho) rfl).le (L0 _ _ (L1 _ (L2 _ (L3 _ L4))) (L5 _ _ (L6 _ (L7 _ (L8 _ L9))) (L10 _ L11)))
def tl_5 : List (Nat × Ev.Spec) := (5, sp5) :: tl_28
def tbl_5 (D : Dom) : Tbl D := tblOf tl_5 D
theorem tok_5 : TblOK Try.prog (tbl_5 R) := TblOK.cons tok_28 en5

-- penumbra/vec.Finite
def S29_0 (D : Dom) (a0 : D.F) (a1 : D.F) (a2 : D.F) : D.B := (D.bite (S31_0 D a0) (D.bite (S31_0 D a1) (S31_0 D a2) (D.bc false)) (D.bc false))
theorem ev29 (D : Dom) (a0 : D.F) (a1 : D.F) (a2 : D.F) : joinT (evFn Try.prog (tbl_5 D) 60 29 [.agg [.fl a0, .fl a1, .fl a2]]) = .val none (.sb (S29_0 D a0 a1 a2)) := by kernel_rfl
def sp29 : Ev.Spec := fun D l => argA l fun c0 r0 => argF c0 fun a0 r1 => argF r1 fun a1 r2 => argF r2 fun a2 r3 => arg0 r3 (arg0 r0 (.ret (.sb (S29_0 D a0 a1 a2))))
theorem en29 : ∀ l r, (sp29 R l).run = some r → Entry Try.prog 29 l r := by
  intro l r h
  obtain ⟨_, _, h, L0⟩ := argA_inv h
  obtain ⟨x1, _, h, L1⟩ := argF_inv h
  obtain ⟨x2, _, h, L2⟩ := argF_inv h
  obtain ⟨x3, _, h, L3⟩ := argF_inv h
  obtain ⟨h, L4⟩ := arg0_inv h
  obtain ⟨h, L5⟩ := arg0_inv h
  cases h
  exact (entry_of prg tok_5 (ev29 R x1 x2 x3) (fun o ho => nomatch ho) rfl).le (L0 _ _ (L1 _ (L2 _ (L3 _ L4))) L5)
def tl_29 : List (Nat × Ev.Spec) := (29, sp29) :: tl_5
def tbl_29 (D : Dom) : Tbl D := tblOf tl_29 D
theorem tok_29 : TblOK Try.prog (tbl_29 R) := TblOK.cons tok_5 en29

-- penumbra/penumbraref02.Finite
def S30_0 (D : Dom) (a0 : D.F) (a1 : D.F) (a2 : D.F) : D.B := (D.bite (S32_0 D a0) (D.bite (S32_0 D a1) (S32_0 D a2) (D.bc false)) (D.bc false))
theorem ev30 (D : Dom) (a0 : D.F) (a1 : D.F) (a2 : D.F) : joinT (evFn Try.prog (tbl_29 D) 60 30 [.agg [.fl a0, .fl a1, .fl a2]]) = .val none (.sb (S30_0 D a0 a1 a2)) := by kernel_rfl
def sp30 : Ev.Spec := fun D l => argA l fun c0 r0 => argF c0 fun a0 r1 => argF r1 fun a1 r2 => argF r2 fun a2 r3 => arg0 r3 (arg0 r0 (.ret (.sb (S30_0 D a0 a1 a2))))
theorem en30 : ∀ l r, (sp30 R l).run = some r → Entry Try.prog 30 l r := by
  intro l r h
  obtain ⟨_, _, h, L0⟩ := argA_inv h
  obtain ⟨x1, _, h, L1⟩ := argF_inv h
  obtain ⟨x2, _, h, L2⟩ := argF_inv h
  obtain ⟨x3, _, h, L3⟩ := argF_inv h
  obtain ⟨h, L4⟩ := arg0_inv h
  obtain ⟨h, L5⟩ := arg0_inv h
  cases h
  exact (entry_of prg tok_29 (ev30 R x1 x2 x3) (fun o ho => nomatch ho) rfl).le (L0 _ _ (L1 _ (L2 _ (L3 _ L4))) L5)
def tl_30 : List (Nat × Ev.Spec) := (30, sp30) :: tl_29
def tbl_30 (D : Dom) : Tbl D := tblOf tl_30 D
theorem tok_30 : TblOK Try.prog (tbl_30 R) := TblOK.cons tok_29 en30

-- penumbra/vec.Part
def S33_0 (D : Dom) (a0 : D.F) (a1 : D.F) (a2 : D.F) (a3 : D.Z) : D.F := (D.fite (D.zeq a3 (D.zc 0)) a0 (D.fite (D.zeq a3 (D.zc 1)) a1 a2))
theorem ev33 (D : Dom) (a0 : D.F) (a1 : D.F) (a2 : D.F) (a3 : D.Z) : joinT (evFn Try.prog (tbl_30 D) 60 33 [.agg [.fl a0, .fl a1, .fl a2], .si .i64 a3]) = .val none (.fl (S33_0 D a0 a1 a2 a3)) := by kernel_rfl
def sp33 : Ev.Spec := fun D l => argA l fun c0 r0 => argF c0 fun a0 r1 => argF r1 fun a1 r2 => argF r2 fun a2 r3 => arg0 r3 (argZ .i64 r0 fun a3 r100 => arg0 r100 (.ret (.fl (S33_0 D a0 a1 a2 a3))))
theorem en33 : ∀ l r, (sp33 R l).run = some r → Entry Try.prog 33 l r := by
  intro l r h
  obtain ⟨_, _, h, L0⟩ := argA_inv h
  obtain ⟨x1, _, h, L1⟩ := argF_inv h
  obtain ⟨x2, _, h, L2⟩ := argF_inv h
  obtain ⟨x3, _, h, L3⟩ := argF_inv h
  obtain ⟨h, L4⟩ := arg0_inv h
  obtain ⟨x5, _, h, L5⟩ := argZ_inv h
  obtain ⟨h, L6⟩ := arg0_inv h
  cases h
  exact (entry_of prg tok_30 (ev33 R x1 x2 x3 x5) (fun o ho => nomatch ho) rfl).le (L0 _ _ (L1 _ (L2 _ (L3 _ L4))) (L5 _ L6))
def tl_33 : List (Nat × Ev.Spec) := (33, sp33) :: tl_30
def tbl_33 (D : Dom) : Tbl D := tblOf tl_33 D
theorem tok_33 : TblOK Try.prog (tbl_33 R) := TblOK.cons tok_30 en33

-- penumbra/vec.Same$1
def S41_0 (D : Dom) (a0 : D.F) (a1 : D.F) : D.B := (D.bite (D.feq a0 a1) (D.bc true) (D.bite (D.bnot (D.feq a0 a0)) (D.bnot (D.feq a1 a1)) (D.bc false)))
theorem ev41 (D : Dom) (a0 : D.F) (a1 : D.F) : joinT (evFn Try.prog (tbl_33 D) 60 41 [.fl a0, .fl a1]) = .val none (.sb (S41_0 D a0 a1)) := by kernel_rfl
def sp41 : Ev.Spec := fun D l => argF l fun a0 r0 => argF r0 fun a1 r1 => arg0 r1 (.ret (.sb (S41_0 D a0 a1)))
theorem en41 : ∀ l r, (sp41 R l).run = some r → Entry Try.prog 41 l r := by
  intro l r h
  obtain ⟨x0, _, h, L0⟩ := argF_inv h
  obtain ⟨x1, _, h, L1⟩ := argF_inv h
  obtain ⟨h, L2⟩ := arg0_inv h
  cases h
  exact (entry_of prg tok_33 (ev41 R x0 x1) (fun o ho => nomatch ho) rfl).le (L0 _ (L1 _ L2))
def tl_41 : List (Nat × Ev.Spec) := (41, sp41) :: tl_33
def tbl_41 (D : Dom) : Tbl D := tblOf tl_41 D
theorem tok_41 : TblOK Try.prog (tbl_41 R) := TblOK.cons tok_33 en41

-- penumbra/vec.Same
def S34_0 (D : Dom) (a0 : D.F) (a1 : D.F) (a2 : D.F) (a3 : D.F) (a4 : D.F) (a5 : D.F) : D.B := (D.bite (D.band (D.feq a0 a3) (D.band (D.feq a1 a4) (D.band (D.feq a2 a5) (D.bc true)))) (D.bc true) (D.bite (S41_0 D a0 a3) (D.bite (S41_0 D a1 a4) (S41_0 D a2 a5) (D.bc false)) (D.bc false)))
theorem ev34 (D : Dom) (a0 : D.F) (a1 : D.F) (a2 : D.F) (a3 : D.F) (a4 : D.F) (a5 : D.F) : joinT (evFn Try.prog (tbl_41 D) 60 34 [.agg [.fl a0, .fl a1, .fl a2], .agg [.fl a3, .fl a4, .fl a5]]) = .val none (.sb (S34_0 D a0 a1 a2 a3 a4 a5)) := by kernel_rfl
def sp34 : Ev.Spec := fun D l => argA l fun c0 r0 => argF c0 fun a0 r1 => argF r1 fun a1 r2 => argF r2 fun a2 r3 => arg0 r3 (argA r0 fun c100 r100 => argF c100 fun a3 r101 => argF r101 fun a4 r102 => argF r102 fun a5 r103 => arg0 r103 (arg0 r100 (.ret (.sb (S34_0 D a0 a1 a2 a3 a4 a5)))))
theorem en34 : ∀ l r, (sp34 R l).run = some r → Entry Try.prog 34 l r := by
  intro l r h
  obtain ⟨_, _, h, L0⟩ := argA_inv h
  obtain ⟨x1, _, h, L1⟩ := argF_inv h
  obtain ⟨x2, _, h, L2⟩ := argF_inv h
  obtain ⟨x3, _, h, L3⟩ := argF_inv h
  obtain ⟨h, L4⟩ := arg0_inv h
  obtain ⟨_, _, h, L5⟩ := argA_inv h
  obtain ⟨x6, _, h, L6⟩ := argF_inv h
  obtain ⟨x7, _, h, L7⟩ := argF_inv h
  obtain ⟨x8, _, h, L8⟩ := argF_inv h
  obtain ⟨h, L9⟩ := arg0_inv h
  obtain ⟨h, L10⟩ := arg0_inv h
  cases h
  exact (entry_of prg tok_41 (ev34 R x1 x2 x3 x6 x7 x8) (fun o ho => nomatch ho) rfl).le (L0 _ _ (L1 _ (L2 _ (L3 _ L4))) (L5 _ _ (L6 _ (L7 _ (L8 _ L9))) L10))
def tl_34 : List (Nat × Ev.Spec) := (34, sp34) :: tl_41
def tbl_34 (D : Dom) : Tbl D := tblOf tl_34 D
theorem tok_34 : TblOK Try.prog (tbl_34 R) := TblOK.cons tok_41 en34

-- penumbra/penumbralaw02.VecLooks
def S6_0 (D : Dom) (a0 : D.F) (a1 : D.F) (a2 : D.F) (a3 : D.F) (a4 : D.F) (a5 : D.F) (a6 : D.Z) : D.B := (D.bite (D.zeq a6 (D.zc 0)) (D.bite (S7_0 D) (D.bite (D.beq (S29_0 D a0 a1 a2) (S30_0 D a0 a1 a2)) (D.bite (D.beq (S31_0 D a0) (S32_0 D a0)) (D.bite (S8_0 D (S33_0 D a0 a1 a2 a6) a0) (D.bite (D.beq (S34_0 D a0 a1 a2 a3 a4 a5) (S11_0 D a0 a1 a2 a3 a4 a5)) (S34_0 D a0 a1 a2 a0 a1 a2) (D.bc false)) (D.bc false)) (D.bc false)) (D.bc false)) (D.bc false)) (D.bite (D.zeq a6 (D.zc 1)) (D.bite (S7_0 D) (D.bite (D.beq (S29_0 D a0 a1 a2) (S30_0 D a0 a1 a2)) (D.bite (D.beq (S31_0 D a0) (S32_0 D a0)) (D.bite (S8_0 D (S33_0 D a0 a1 a2 a6) a1) (D.bite (D.beq (S34_0 D a0 a1 a2 a3 a4 a5) (S11_0 D a0 a1 a2 a3 a4 a5)) (S34_0 D a0 a1 a2 a0 a1 a2) (D.bc false)) (D.bc false)) (D.bc false)) (D.bc false)) (D.bc false)) (D.bite (S7_0 D) (D.bite (D.beq (S29_0 D a0 a1 a2) (S30_0 D a0 a1 a2)) (D.bite (D.beq (S31_0 D a0) (S32_0 D a0)) (D.bite (S8_0 D (S33_0 D a0 a1 a2 a6) a2) (D.bite (D.beq (S34_0 D a0 a1 a2 a3 a4 a5) (S11_0 D a0 a1 a2 a3 a4 a5)) (S34_0 D a0 a1 a2 a0 a1 a2) (D.bc false)) (D.bc false)) (D.bc false)) (D.bc false)) (D.bc false))))
theorem ev6 (D : Dom) (a0 : D.F) (a1 : D.F) (a2 : D.F) (a3 : D.F) (a4 : D.F) (a5 : D.F) (a6 : D.Z) : joinT (evFn Try.prog (tbl_34 D) 60 6 [.agg [.fl a0, .fl a1, .fl a2], .agg [.fl a3, .fl a4, .fl a5], .si .i64 a6]) = .val none (.sb (S6_0 D a0 a1 a2 a3 a4 a5 a6)) := by kernel_rfl
def sp6 : Ev.Spec := fun D l => argA l fun c0 r0 => argF c0 fun a0 r1 => argF r1 fun a1 r2 => argF r2 fun a2 r3 => arg0 r3 (argA r0 fun c100 r100 => argF c100 fun a3 r101 => argF r101 fun a4 r102 => argF r102 fun a5 r103 => arg0 r103 (argZ .i64 r100 fun a6 r200 => arg0 r200 (.ret (.sb (S6_0 D a0 a1 a2 a3 a4 a5 a6)))))
theorem en6 : ∀ l r, (sp6 R l).run = some r → Entry Try.prog 6 l r := by
  intro l r h
  obtain ⟨_, _, h, L0⟩ := argA_inv h
  obtain ⟨x1, _, h, L1⟩ := argF_inv h
  obtain ⟨x2, _, h, L2⟩ := argF_inv h
  obtain ⟨x3, _, h, L3⟩ := argF_inv h
  obtain ⟨h, L4⟩ := arg0_inv h
  obtain ⟨_, _, h, L5⟩ := argA_inv h
  obtain ⟨x6, _, h, L6⟩ := argF_inv h
  obtain ⟨x7, _, h, L7⟩ := argF_inv h
  obtain ⟨x8, _, h, L8⟩ := argF_inv h
  obtain ⟨h, L9⟩ := arg0_inv h
  obtain ⟨x10, _, h, L10⟩ := argZ_inv h
  obtain ⟨h, L11⟩ := arg0_inv h
  cases h
  exact (entry_of prg tok_34 (ev6 R x1 x2 x3 x6 x7 x8 x10) (fun o ho => nomatch ho) rfl).le (L0 _ _ (L1 _ (L2 _ (L3 _ L4))) (L5 _ _ (L6 _ (L7 _ (L8 _ L9))) (L10 _ L11)))
def tl_6 : List (Nat × Ev.Spec) := (6, sp6) :: tl_34
def tbl_6 (D : Dom) : Tbl D := tblOf tl_6 D
theorem tok_6 : TblOK Try.prog (tbl_6 R) := TblOK.cons tok_34 en6

end Go.Proofs.Ytijbiohcimmldaa
