/- The functions of this seat, each with what it comes to, by the evaluator. PRINTED BY A PROGRAM OF THIS PROJECT (wip/ev/Gen.lean). -/
import Derived.Test.YtmlkkfijlgkmfaaEv4
import Derived.Test.YtmlkkfijlgkmfaaChecked
namespace Go.Proofs.Ytmlkkfijlgkmfaa
open Go.Ev
set_option maxRecDepth 100000

theorem prg : Ev.Prog Try.prog := ⟨by kernel_rfl, by kernel_rfl⟩
def tl_0 : List (Nat × Ev.Spec) := []
def tbl_0 (D : Dom) : Tbl D := tblOf tl_0 D
theorem tok_0 : TblOK Try.prog (tbl_0 R) := (TblOK.nil _)

-- penumbra/vec.Number
def S28_0 (D : Dom) (a0 : D.F) : D.B := (D.bite (D.fge a0 (D.fc 18442240474082181119)) (D.fle a0 (D.fc 9218868437227405311)) (D.bc false))
theorem ev28 (D : Dom) (a0 : D.F) : joinT (evFn Try.prog (tbl_0 D) 60 28 [.fl a0]) = .val none (.sb (S28_0 D a0)) := by kernel_rfl
def sp28 : Ev.Spec := fun D l => argF l fun a0 r0 => arg0 r0 (.ret (.sb (S28_0 D a0)))
theorem en28 : ∀ l r, (sp28 R l).run = some r → Entry Try.prog 28 l r := by
  intro l r h
  obtain ⟨x0, _, h, L0⟩ := argF_inv h
  obtain ⟨h, L1⟩ := arg0_inv h
  cases h
  exact (entry_of prg tok_0 (ev28 R x0) (fun o ho => nomatch ho) rfl).le (L0 _ L1)
def tl_28 : List (Nat × Ev.Spec) := (28, sp28) :: tl_0
def tbl_28 (D : Dom) : Tbl D := tblOf tl_28 D
theorem tok_28 : TblOK Try.prog (tbl_28 R) := TblOK.cons tok_0 en28

-- penumbra/rgb.Good$1
def S27_0 (D : Dom) (a0 : D.F) : D.B := (D.bite (D.fge a0 (D.fc 0)) (S28_0 D a0) (D.bc false))
theorem ev27 (D : Dom) (a0 : D.F) : joinT (evFn Try.prog (tbl_28 D) 60 27 [.fl a0]) = .val none (.sb (S27_0 D a0)) := by kernel_rfl
def sp27 : Ev.Spec := fun D l => argF l fun a0 r0 => arg0 r0 (.ret (.sb (S27_0 D a0)))
theorem en27 : ∀ l r, (sp27 R l).run = some r → Entry Try.prog 27 l r := by
  intro l r h
  obtain ⟨x0, _, h, L0⟩ := argF_inv h
  obtain ⟨h, L1⟩ := arg0_inv h
  cases h
  exact (entry_of prg tok_28 (ev27 R x0) (fun o ho => nomatch ho) rfl).le (L0 _ L1)
def tl_27 : List (Nat × Ev.Spec) := (27, sp27) :: tl_28
def tbl_27 (D : Dom) : Tbl D := tblOf tl_27 D
theorem tok_27 : TblOK Try.prog (tbl_27 R) := TblOK.cons tok_28 en27

-- penumbra/rgb.Good
def S18_0 (D : Dom) (a0 : D.F) (a1 : D.F) (a2 : D.F) : D.B := (D.bite (D.bite (S27_0 D a0) (S27_0 D a1) (D.bc false)) (S27_0 D a2) (D.bc false))
theorem ev18 (D : Dom) (a0 : D.F) (a1 : D.F) (a2 : D.F) : joinT (evFn Try.prog (tbl_27 D) 60 18 [.agg [.fl a0, .fl a1, .fl a2]]) = .val none (.sb (S18_0 D a0 a1 a2)) := by kernel_rfl
def sp18 : Ev.Spec := fun D l => argA l fun c0 r0 => argF c0 fun a0 r1 => argF r1 fun a1 r2 => argF r2 fun a2 r3 => arg0 r3 (arg0 r0 (.ret (.sb (S18_0 D a0 a1 a2))))
theorem en18 : ∀ l r, (sp18 R l).run = some r → Entry Try.prog 18 l r := by
  intro l r h
  obtain ⟨_, _, h, L0⟩ := argA_inv h
  obtain ⟨x1, _, h, L1⟩ := argF_inv h
  obtain ⟨x2, _, h, L2⟩ := argF_inv h
  obtain ⟨x3, _, h, L3⟩ := argF_inv h
  obtain ⟨h, L4⟩ := arg0_inv h
  obtain ⟨h, L5⟩ := arg0_inv h
  cases h
  exact (entry_of prg tok_27 (ev18 R x1 x2 x3) (fun o ho => nomatch ho) rfl).le (L0 _ _ (L1 _ (L2 _ (L3 _ L4))) L5)
def tl_18 : List (Nat × Ev.Spec) := (18, sp18) :: tl_27
def tbl_18 (D : Dom) : Tbl D := tblOf tl_18 D
theorem tok_18 : TblOK Try.prog (tbl_18 R) := TblOK.cons tok_27 en18

-- penumbra/rgb.Most
def S19_0 (D : Dom) (a0 : D.F) (a1 : D.F) (a2 : D.F) : D.F := (D.fite (D.fgt a2 (D.fite (D.fgt a1 a0) a1 a0)) a2 (D.fite (D.fgt a1 a0) a1 a0))
theorem ev19 (D : Dom) (a0 : D.F) (a1 : D.F) (a2 : D.F) : joinT (evFn Try.prog (tbl_18 D) 60 19 [.agg [.fl a0, .fl a1, .fl a2]]) = .val none (.fl (S19_0 D a0 a1 a2)) := by kernel_rfl
def sp19 : Ev.Spec := fun D l => argA l fun c0 r0 => argF c0 fun a0 r1 => argF r1 fun a1 r2 => argF r2 fun a2 r3 => arg0 r3 (arg0 r0 (.ret (.fl (S19_0 D a0 a1 a2))))
theorem en19 : ∀ l r, (sp19 R l).run = some r → Entry Try.prog 19 l r := by
  intro l r h
  obtain ⟨_, _, h, L0⟩ := argA_inv h
  obtain ⟨x1, _, h, L1⟩ := argF_inv h
  obtain ⟨x2, _, h, L2⟩ := argF_inv h
  obtain ⟨x3, _, h, L3⟩ := argF_inv h
  obtain ⟨h, L4⟩ := arg0_inv h
  obtain ⟨h, L5⟩ := arg0_inv h
  cases h
  exact (entry_of prg tok_18 (ev19 R x1 x2 x3) (fun o ho => nomatch ho) rfl).le (L0 _ _ (L1 _ (L2 _ (L3 _ L4))) L5)
def tl_19 : List (Nat × Ev.Spec) := (19, sp19) :: tl_18
def tbl_19 (D : Dom) : Tbl D := tblOf tl_19 D
theorem tok_19 : TblOK Try.prog (tbl_19 R) := TblOK.cons tok_18 en19

-- penumbra/roulette.Chance
def S8_0 (D : Dom) (a0 : D.F) (a1 : D.F) (a2 : D.F) (a3 : D.Z) : D.F := (D.fite (D.bite (D.zlt a3 (D.zc 3)) (D.bc true) (D.bnot (S18_0 D a0 a1 a2))) (D.fc 4607182418800017408) (D.fmin (D.fmax (S19_0 D a0 a1 a2) (D.fc 4589168020290535424)) (D.fc 4607182418800017408)))
theorem ev8 (D : Dom) (a0 : D.F) (a1 : D.F) (a2 : D.F) (a3 : D.Z) : joinT (evFn Try.prog (tbl_19 D) 60 8 [.agg [.fl a0, .fl a1, .fl a2], .si .i64 a3]) = .val none (.fl (S8_0 D a0 a1 a2 a3)) := by kernel_rfl
def sp8 : Ev.Spec := fun D l => argA l fun c0 r0 => argF c0 fun a0 r1 => argF r1 fun a1 r2 => argF r2 fun a2 r3 => arg0 r3 (argZ .i64 r0 fun a3 r100 => arg0 r100 (.ret (.fl (S8_0 D a0 a1 a2 a3))))
theorem en8 : ∀ l r, (sp8 R l).run = some r → Entry Try.prog 8 l r := by
  intro l r h
  obtain ⟨_, _, h, L0⟩ := argA_inv h
  obtain ⟨x1, _, h, L1⟩ := argF_inv h
  obtain ⟨x2, _, h, L2⟩ := argF_inv h
  obtain ⟨x3, _, h, L3⟩ := argF_inv h
  obtain ⟨h, L4⟩ := arg0_inv h
  obtain ⟨x5, _, h, L5⟩ := argZ_inv h
  obtain ⟨h, L6⟩ := arg0_inv h
  cases h
  exact (entry_of prg tok_19 (ev8 R x1 x2 x3 x5) (fun o ho => nomatch ho) rfl).le (L0 _ _ (L1 _ (L2 _ (L3 _ L4))) (L5 _ L6))
def tl_8 : List (Nat × Ev.Spec) := (8, sp8) :: tl_19
def tbl_8 (D : Dom) : Tbl D := tblOf tl_8 D
theorem tok_8 : TblOK Try.prog (tbl_8 R) := TblOK.cons tok_19 en8

-- penumbra/tape.Clean
def S26_0 (D : Dom) (a0 : D.F) : D.F := (D.fite (D.bite (D.fge a0 (D.fc 0)) (D.flt a0 (D.fc 4607182418800017408)) (D.bc false)) a0 (D.fc 0))
theorem ev26 (D : Dom) (a0 : D.F) : joinT (evFn Try.prog (tbl_8 D) 60 26 [.fl a0]) = .val none (.fl (S26_0 D a0)) := by kernel_rfl
def sp26 : Ev.Spec := fun D l => argF l fun a0 r0 => arg0 r0 (.ret (.fl (S26_0 D a0)))
theorem en26 : ∀ l r, (sp26 R l).run = some r → Entry Try.prog 26 l r := by
  intro l r h
  obtain ⟨x0, _, h, L0⟩ := argF_inv h
  obtain ⟨h, L1⟩ := arg0_inv h
  cases h
  exact (entry_of prg tok_8 (ev26 R x0) (fun o ho => nomatch ho) rfl).le (L0 _ L1)
def tl_26 : List (Nat × Ev.Spec) := (26, sp26) :: tl_8
def tbl_26 (D : Dom) : Tbl D := tblOf tl_26 D
theorem tok_26 : TblOK Try.prog (tbl_26 R) := TblOK.cons tok_8 en26

-- penumbra/rgb.Gray
def S34_0 (D : Dom) (a0 : D.F) : D.F := a0
def S34_1 (D : Dom) (a0 : D.F) : D.F := a0
def S34_2 (D : Dom) (a0 : D.F) : D.F := a0
theorem ev34 (D : Dom) (a0 : D.F) : joinT (evFn Try.prog (tbl_26 D) 60 34 [.fl a0]) = .val none (.agg [.fl (S34_0 D a0), .fl (S34_1 D a0), .fl (S34_2 D a0)]) := by kernel_rfl
def sp34 : Ev.Spec := fun D l => argF l fun a0 r0 => arg0 r0 (.ret (.agg [.fl (S34_0 D a0), .fl (S34_1 D a0), .fl (S34_2 D a0)]))
theorem en34 : ∀ l r, (sp34 R l).run = some r → Entry Try.prog 34 l r := by
  intro l r h
  obtain ⟨x0, _, h, L0⟩ := argF_inv h
  obtain ⟨h, L1⟩ := arg0_inv h
  cases h
  exact (entry_of prg tok_26 (ev34 R x0) (fun o ho => nomatch ho) rfl).le (L0 _ L1)
def tl_34 : List (Nat × Ev.Spec) := (34, sp34) :: tl_26
def tbl_34 (D : Dom) : Tbl D := tblOf tl_34 D
theorem tok_34 : TblOK Try.prog (tbl_34 R) := TblOK.cons tok_26 en34

-- penumbra/rgb.Mul$1
def S35_0 (D : Dom) (a0 : D.F) (a1 : D.F) : D.F := (D.fmul a0 a1)
theorem ev35 (D : Dom) (a0 : D.F) (a1 : D.F) : joinT (evFn Try.prog (tbl_34 D) 60 35 [.fl a0, .fl a1]) = .val none (.fl (S35_0 D a0 a1)) := by kernel_rfl
def sp35 : Ev.Spec := fun D l => argF l fun a0 r0 => argF r0 fun a1 r1 => arg0 r1 (.ret (.fl (S35_0 D a0 a1)))
theorem en35 : ∀ l r, (sp35 R l).run = some r → Entry Try.prog 35 l r := by
  intro l r h
  obtain ⟨x0, _, h, L0⟩ := argF_inv h
  obtain ⟨x1, _, h, L1⟩ := argF_inv h
  obtain ⟨h, L2⟩ := arg0_inv h
  cases h
  exact (entry_of prg tok_34 (ev35 R x0 x1) (fun o ho => nomatch ho) rfl).le (L0 _ (L1 _ L2))
def tl_35 : List (Nat × Ev.Spec) := (35, sp35) :: tl_34
def tbl_35 (D : Dom) : Tbl D := tblOf tl_35 D
theorem tok_35 : TblOK Try.prog (tbl_35 R) := TblOK.cons tok_34 en35

-- penumbra/rgb.Mul
def S33_0 (D : Dom) (a0 : D.F) (a3 : D.F) : D.F := (S35_0 D a0 a3)
def S33_1 (D : Dom) (a1 : D.F) (a4 : D.F) : D.F := (S35_0 D a1 a4)
def S33_2 (D : Dom) (a2 : D.F) (a5 : D.F) : D.F := (S35_0 D a2 a5)
theorem ev33 (D : Dom) (a0 : D.F) (a1 : D.F) (a2 : D.F) (a3 : D.F) (a4 : D.F) (a5 : D.F) : joinT (evFn Try.prog (tbl_35 D) 60 33 [.agg [.fl a0, .fl a1, .fl a2], .agg [.fl a3, .fl a4, .fl a5]]) = .val none (.agg [.fl (S33_0 D a0 a3), .fl (S33_1 D a1 a4), .fl (S33_2 D a2 a5)]) := by kernel_rfl
def sp33 : Ev.Spec := fun D l => argA l fun c0 r0 => argF c0 fun a0 r1 => argF r1 fun a1 r2 => argF r2 fun a2 r3 => arg0 r3 (argA r0 fun c100 r100 => argF c100 fun a3 r101 => argF r101 fun a4 r102 => argF r102 fun a5 r103 => arg0 r103 (arg0 r100 (.ret (.agg [.fl (S33_0 D a0 a3), .fl (S33_1 D a1 a4), .fl (S33_2 D a2 a5)]))))
theorem en33 : ∀ l r, (sp33 R l).run = some r → Entry Try.prog 33 l r := by
  intro l r h
  obtain ⟨_, _, h, L0⟩ := argA_inv h
  obtain ⟨x1, _, h, L1⟩ := argF_inv h
  obtain ⟨x2, _, h, L2⟩ := argF_inv h
  obtain ⟨x3, _, h, L3⟩ := argF_inv h
  obtain ⟨h, L4⟩ := arg0_inv h
  obtain ⟨_, _, h, L5⟩ := argA_inv h
  obtain ⟨x6, _, h, L6⟩ := argF_inv h
  obtain ⟨x7, _, h, L7⟩ := argF_inv h
  obtain ⟨x8, _, h, L8⟩ := argF_inv h
  obtain ⟨h, L9⟩ := arg0_inv h
  obtain ⟨h, L10⟩ := arg0_inv h
  cases h
  exact (entry_of prg tok_35 (ev33 R x1 x2 x3 x6 x7 x8) (fun o ho => nomatch ho) rfl).le (L0 _ _ (L1 _ (L2 _ (L3 _ L4))) (L5 _ _ (L6 _ (L7 _ (L8 _ L9))) L10))
def tl_33 : List (Nat × Ev.Spec) := (33, sp33) :: tl_35
def tbl_33 (D : Dom) : Tbl D := tblOf tl_33 D
theorem tok_33 : TblOK Try.prog (tbl_33 R) := TblOK.cons tok_35 en33

-- penumbra/rgb.Scale
def S24_0 (D : Dom) (a0 : D.F) (a3 : D.F) : D.F := (S33_0 D a0 (S34_0 D a3))
def S24_1 (D : Dom) (a1 : D.F) (a3 : D.F) : D.F := (S33_1 D a1 (S34_1 D a3))
def S24_2 (D : Dom) (a2 : D.F) (a3 : D.F) : D.F := (S33_2 D a2 (S34_2 D a3))
theorem ev24 (D : Dom) (a0 : D.F) (a1 : D.F) (a2 : D.F) (a3 : D.F) : joinT (evFn Try.prog (tbl_33 D) 60 24 [.agg [.fl a0, .fl a1, .fl a2], .fl a3]) = .val none (.agg [.fl (S24_0 D a0 a3), .fl (S24_1 D a1 a3), .fl (S24_2 D a2 a3)]) := by kernel_rfl
def sp24 : Ev.Spec := fun D l => argA l fun c0 r0 => argF c0 fun a0 r1 => argF r1 fun a1 r2 => argF r2 fun a2 r3 => arg0 r3 (argF r0 fun a3 r100 => arg0 r100 (.ret (.agg [.fl (S24_0 D a0 a3), .fl (S24_1 D a1 a3), .fl (S24_2 D a2 a3)])))
theorem en24 : ∀ l r, (sp24 R l).run = some r → Entry Try.prog 24 l r := by
  intro l r h
  obtain ⟨_, _, h, L0⟩ := argA_inv h
  obtain ⟨x1, _, h, L1⟩ := argF_inv h
  obtain ⟨x2, _, h, L2⟩ := argF_inv h
  obtain ⟨x3, _, h, L3⟩ := argF_inv h
  obtain ⟨h, L4⟩ := arg0_inv h
  obtain ⟨x5, _, h, L5⟩ := argF_inv h
  obtain ⟨h, L6⟩ := arg0_inv h
  cases h
  exact (entry_of prg tok_33 (ev24 R x1 x2 x3 x5) (fun o ho => nomatch ho) rfl).le (L0 _ _ (L1 _ (L2 _ (L3 _ L4))) (L5 _ L6))
def tl_24 : List (Nat × Ev.Spec) := (24, sp24) :: tl_33
def tbl_24 (D : Dom) : Tbl D := tblOf tl_24 D
theorem tok_24 : TblOK Try.prog (tbl_24 R) := TblOK.cons tok_33 en24

-- penumbra/roulette.Play
def S6_0 (D : Dom) (a0 : D.F) (a1 : D.F) (a2 : D.F) (a3 : D.Z) (a4 : D.F) : D.F := (D.fite (D.flt (S26_0 D a4) (S8_0 D a0 a1 a2 a3)) (S24_0 D a0 (D.fdiv (D.fc 4607182418800017408) (S8_0 D a0 a1 a2 a3))) (D.fc 0))
def S6_1 (D : Dom) (a0 : D.F) (a1 : D.F) (a2 : D.F) (a3 : D.Z) (a4 : D.F) : D.F := (D.fite (D.flt (S26_0 D a4) (S8_0 D a0 a1 a2 a3)) (S24_1 D a1 (D.fdiv (D.fc 4607182418800017408) (S8_0 D a0 a1 a2 a3))) (D.fc 0))
def S6_2 (D : Dom) (a0 : D.F) (a1 : D.F) (a2 : D.F) (a3 : D.Z) (a4 : D.F) : D.F := (D.fite (D.flt (S26_0 D a4) (S8_0 D a0 a1 a2 a3)) (S24_2 D a2 (D.fdiv (D.fc 4607182418800017408) (S8_0 D a0 a1 a2 a3))) (D.fc 0))
def S6_3 (D : Dom) (a0 : D.F) (a1 : D.F) (a2 : D.F) (a3 : D.Z) (a4 : D.F) : D.B := (D.bite (D.flt (S26_0 D a4) (S8_0 D a0 a1 a2 a3)) (D.bc true) (D.bc false))
theorem ev6 (D : Dom) (a0 : D.F) (a1 : D.F) (a2 : D.F) (a3 : D.Z) (a4 : D.F) : joinT (evFn Try.prog (tbl_24 D) 60 6 [.agg [.fl a0, .fl a1, .fl a2], .si .i64 a3, .fl a4]) = .val none (.tup [.agg [.fl (S6_0 D a0 a1 a2 a3 a4), .fl (S6_1 D a0 a1 a2 a3 a4), .fl (S6_2 D a0 a1 a2 a3 a4)], .sb (S6_3 D a0 a1 a2 a3 a4)]) := by kernel_rfl
def sp6 : Ev.Spec := fun D l => argA l fun c0 r0 => argF c0 fun a0 r1 => argF r1 fun a1 r2 => argF r2 fun a2 r3 => arg0 r3 (argZ .i64 r0 fun a3 r100 => argF r100 fun a4 r101 => arg0 r101 (.ret (.tup [.agg [.fl (S6_0 D a0 a1 a2 a3 a4), .fl (S6_1 D a0 a1 a2 a3 a4), .fl (S6_2 D a0 a1 a2 a3 a4)], .sb (S6_3 D a0 a1 a2 a3 a4)])))
theorem en6 : ∀ l r, (sp6 R l).run = some r → Entry Try.prog 6 l r := by
  intro l r h
  obtain ⟨_, _, h, L0⟩ := argA_inv h
  obtain ⟨x1, _, h, L1⟩ := argF_inv h
  obtain ⟨x2, _, h, L2⟩ := argF_inv h
  obtain ⟨x3, _, h, L3⟩ := argF_inv h
  obtain ⟨h, L4⟩ := arg0_inv h
  obtain ⟨x5, _, h, L5⟩ := argZ_inv h
  obtain ⟨x6, _, h, L6⟩ := argF_inv h
  obtain ⟨h, L7⟩ := arg0_inv h
  cases h
  exact (entry_of prg tok_24 (ev6 R x1 x2 x3 x5 x6) (fun o ho => nomatch ho) rfl).le (L0 _ _ (L1 _ (L2 _ (L3 _ L4))) (L5 _ (L6 _ L7)))
def tl_6 : List (Nat × Ev.Spec) := (6, sp6) :: tl_24
def tbl_6 (D : Dom) : Tbl D := tblOf tl_6 D
theorem tok_6 : TblOK Try.prog (tbl_6 R) := TblOK.cons tok_24 en6

-- penumbra/penumbraref02.Number
def S29_0 (D : Dom) (a0 : D.F) : D.B := (D.feq (D.fsub a0 a0) (D.fc 0))
theorem ev29 (D : Dom) (a0 : D.F) : joinT (evFn Try.prog (tbl_6 D) 60 29 [.fl a0]) = .val none (.sb (S29_0 D a0)) := by kernel_rfl
def sp29 : Ev.Spec := fun D l => argF l fun a0 r0 => arg0 r0 (.ret (.sb (S29_0 D a0)))
theorem en29 : ∀ l r, (sp29 R l).run = some r → Entry Try.prog 29 l r := by
  intro l r h
  obtain ⟨x0, _, h, L0⟩ := argF_inv h
  obtain ⟨h, L1⟩ := arg0_inv h
  cases h
  exact (entry_of prg tok_6 (ev29 R x0) (fun o ho => nomatch ho) rfl).le (L0 _ L1)
def tl_29 : List (Nat × Ev.Spec) := (29, sp29) :: tl_6
def tbl_29 (D : Dom) : Tbl D := tblOf tl_29 D
theorem tok_29 : TblOK Try.prog (tbl_29 R) := TblOK.cons tok_6 en29

-- penumbra/penumbraref05.Good
def S21_0 (D : Dom) (a0 : D.F) (a1 : D.F) (a2 : D.F) : D.B := (D.bite (D.bite (D.bite (D.bite (D.bite (S29_0 D a0) (S29_0 D a1) (D.bc false)) (S29_0 D a2) (D.bc false)) (D.fge a0 (D.fc 0)) (D.bc false)) (D.fge a1 (D.fc 0)) (D.bc false)) (D.fge a2 (D.fc 0)) (D.bc false))
theorem ev21 (D : Dom) (a0 : D.F) (a1 : D.F) (a2 : D.F) : joinT (evFn Try.prog (tbl_29 D) 60 21 [.agg [.fl a0, .fl a1, .fl a2]]) = .val none (.sb (S21_0 D a0 a1 a2)) := by kernel_rfl
def sp21 : Ev.Spec := fun D l => argA l fun c0 r0 => argF c0 fun a0 r1 => argF r1 fun a1 r2 => argF r2 fun a2 r3 => arg0 r3 (arg0 r0 (.ret (.sb (S21_0 D a0 a1 a2))))
theorem en21 : ∀ l r, (sp21 R l).run = some r → Entry Try.prog 21 l r := by
  intro l r h
  obtain ⟨_, _, h, L0⟩ := argA_inv h
  obtain ⟨x1, _, h, L1⟩ := argF_inv h
  obtain ⟨x2, _, h, L2⟩ := argF_inv h
  obtain ⟨x3, _, h, L3⟩ := argF_inv h
  obtain ⟨h, L4⟩ := arg0_inv h
  obtain ⟨h, L5⟩ := arg0_inv h
  cases h
  exact (entry_of prg tok_29 (ev21 R x1 x2 x3) (fun o ho => nomatch ho) rfl).le (L0 _ _ (L1 _ (L2 _ (L3 _ L4))) L5)
def tl_21 : List (Nat × Ev.Spec) := (21, sp21) :: tl_29
def tbl_21 (D : Dom) : Tbl D := tblOf tl_21 D
theorem tok_21 : TblOK Try.prog (tbl_21 R) := TblOK.cons tok_29 en21

-- penumbra/penumbraref04.High
def S30_0 (D : Dom) (a0 : D.F) (a1 : D.F) : D.F := (D.fite (D.fgt a1 a0) a1 a0)
theorem ev30 (D : Dom) (a0 : D.F) (a1 : D.F) : joinT (evFn Try.prog (tbl_21 D) 60 30 [.fl a0, .fl a1]) = .val none (.fl (S30_0 D a0 a1)) := by kernel_rfl
def sp30 : Ev.Spec := fun D l => argF l fun a0 r0 => argF r0 fun a1 r1 => arg0 r1 (.ret (.fl (S30_0 D a0 a1)))
theorem en30 : ∀ l r, (sp30 R l).run = some r → Entry Try.prog 30 l r := by
  intro l r h
  obtain ⟨x0, _, h, L0⟩ := argF_inv h
  obtain ⟨x1, _, h, L1⟩ := argF_inv h
  obtain ⟨h, L2⟩ := arg0_inv h
  cases h
  exact (entry_of prg tok_21 (ev30 R x0 x1) (fun o ho => nomatch ho) rfl).le (L0 _ (L1 _ L2))
def tl_30 : List (Nat × Ev.Spec) := (30, sp30) :: tl_21
def tbl_30 (D : Dom) : Tbl D := tblOf tl_30 D
theorem tok_30 : TblOK Try.prog (tbl_30 R) := TblOK.cons tok_21 en30

-- penumbra/penumbraref05.Most
def S22_0 (D : Dom) (a0 : D.F) (a1 : D.F) (a2 : D.F) : D.F := (S30_0 D (S30_0 D a0 a1) a2)
theorem ev22 (D : Dom) (a0 : D.F) (a1 : D.F) (a2 : D.F) : joinT (evFn Try.prog (tbl_30 D) 60 22 [.agg [.fl a0, .fl a1, .fl a2]]) = .val none (.fl (S22_0 D a0 a1 a2)) := by kernel_rfl
def sp22 : Ev.Spec := fun D l => argA l fun c0 r0 => argF c0 fun a0 r1 => argF r1 fun a1 r2 => argF r2 fun a2 r3 => arg0 r3 (arg0 r0 (.ret (.fl (S22_0 D a0 a1 a2))))
theorem en22 : ∀ l r, (sp22 R l).run = some r → Entry Try.prog 22 l r := by
  intro l r h
  obtain ⟨_, _, h, L0⟩ := argA_inv h
  obtain ⟨x1, _, h, L1⟩ := argF_inv h
  obtain ⟨x2, _, h, L2⟩ := argF_inv h
  obtain ⟨x3, _, h, L3⟩ := argF_inv h
  obtain ⟨h, L4⟩ := arg0_inv h
  obtain ⟨h, L5⟩ := arg0_inv h
  cases h
  exact (entry_of prg tok_30 (ev22 R x1 x2 x3) (fun o ho => nomatch ho) rfl).le (L0 _ _ (L1 _ (L2 _ (L3 _ L4))) L5)
def tl_22 : List (Nat × Ev.Spec) := (22, sp22) :: tl_30
def tbl_22 (D : Dom) : Tbl D := tblOf tl_22 D
theorem tok_22 : TblOK Try.prog (tbl_22 R) := TblOK.cons tok_30 en22

-- penumbra/penumbraref26.Chance
def S11_0 (D : Dom) (a0 : D.F) (a1 : D.F) (a2 : D.F) (a3 : D.Z) : D.F := (D.fite (D.bite (D.zlt a3 (D.zc 3)) (D.bc true) (D.bnot (S21_0 D a0 a1 a2))) (D.fc 4607182418800017408) (D.fite (D.flt (S22_0 D a0 a1 a2) (D.fc 4589168020290535424)) (D.fc 4589168020290535424) (D.fite (D.fgt (S22_0 D a0 a1 a2) (D.fc 4607182418800017408)) (D.fc 4607182418800017408) (S22_0 D a0 a1 a2))))
theorem ev11 (D : Dom) (a0 : D.F) (a1 : D.F) (a2 : D.F) (a3 : D.Z) : joinT (evFn Try.prog (tbl_22 D) 60 11 [.agg [.fl a0, .fl a1, .fl a2], .si .i64 a3]) = .val none (.fl (S11_0 D a0 a1 a2 a3)) := by kernel_rfl
def sp11 : Ev.Spec := fun D l => argA l fun c0 r0 => argF c0 fun a0 r1 => argF r1 fun a1 r2 => argF r2 fun a2 r3 => arg0 r3 (argZ .i64 r0 fun a3 r100 => arg0 r100 (.ret (.fl (S11_0 D a0 a1 a2 a3))))
theorem en11 : ∀ l r, (sp11 R l).run = some r → Entry Try.prog 11 l r := by
  intro l r h
  obtain ⟨_, _, h, L0⟩ := argA_inv h
  obtain ⟨x1, _, h, L1⟩ := argF_inv h
  obtain ⟨x2, _, h, L2⟩ := argF_inv h
  obtain ⟨x3, _, h, L3⟩ := argF_inv h
  obtain ⟨h, L4⟩ := arg0_inv h
  obtain ⟨x5, _, h, L5⟩ := argZ_inv h
  obtain ⟨h, L6⟩ := arg0_inv h
  cases h
  exact (entry_of prg tok_22 (ev11 R x1 x2 x3 x5) (fun o ho => nomatch ho) rfl).le (L0 _ _ (L1 _ (L2 _ (L3 _ L4))) (L5 _ L6))
def tl_11 : List (Nat × Ev.Spec) := (11, sp11) :: tl_22
def tbl_11 (D : Dom) : Tbl D := tblOf tl_11 D
theorem tok_11 : TblOK Try.prog (tbl_11 R) := TblOK.cons tok_22 en11

-- penumbra/penumbraref06.Clean
def S17_0 (D : Dom) (a0 : D.F) : D.F := (D.fite (D.bite (D.bite (D.flt a0 (D.fc 0)) (D.bc true) (D.fge a0 (D.fc 4607182418800017408))) (D.bc true) (D.bnot (D.feq a0 a0))) (D.fc 0) a0)
theorem ev17 (D : Dom) (a0 : D.F) : joinT (evFn Try.prog (tbl_11 D) 60 17 [.fl a0]) = .val none (.fl (S17_0 D a0)) := by kernel_rfl
def sp17 : Ev.Spec := fun D l => argF l fun a0 r0 => arg0 r0 (.ret (.fl (S17_0 D a0)))
theorem en17 : ∀ l r, (sp17 R l).run = some r → Entry Try.prog 17 l r := by
  intro l r h
  obtain ⟨x0, _, h, L0⟩ := argF_inv h
  obtain ⟨h, L1⟩ := arg0_inv h
  cases h
  exact (entry_of prg tok_11 (ev17 R x0) (fun o ho => nomatch ho) rfl).le (L0 _ L1)
def tl_17 : List (Nat × Ev.Spec) := (17, sp17) :: tl_11
def tbl_17 (D : Dom) : Tbl D := tblOf tl_17 D
theorem tok_17 : TblOK Try.prog (tbl_17 R) := TblOK.cons tok_11 en17

-- penumbra/penumbraref05.Scale
def S13_0 (D : Dom) (a0 : D.F) (a3 : D.F) : D.F := (D.fmul a0 a3)
def S13_1 (D : Dom) (a1 : D.F) (a3 : D.F) : D.F := (D.fmul a1 a3)
def S13_2 (D : Dom) (a2 : D.F) (a3 : D.F) : D.F := (D.fmul a2 a3)
theorem ev13 (D : Dom) (a0 : D.F) (a1 : D.F) (a2 : D.F) (a3 : D.F) : joinT (evFn Try.prog (tbl_17 D) 60 13 [.agg [.fl a0, .fl a1, .fl a2], .fl a3]) = .val none (.agg [.fl (S13_0 D a0 a3), .fl (S13_1 D a1 a3), .fl (S13_2 D a2 a3)]) := by kernel_rfl
def sp13 : Ev.Spec := fun D l => argA l fun c0 r0 => argF c0 fun a0 r1 => argF r1 fun a1 r2 => argF r2 fun a2 r3 => arg0 r3 (argF r0 fun a3 r100 => arg0 r100 (.ret (.agg [.fl (S13_0 D a0 a3), .fl (S13_1 D a1 a3), .fl (S13_2 D a2 a3)])))
theorem en13 : ∀ l r, (sp13 R l).run = some r → Entry Try.prog 13 l r := by
  intro l r h
  obtain ⟨_, _, h, L0⟩ := argA_inv h
  obtain ⟨x1, _, h, L1⟩ := argF_inv h
  obtain ⟨x2, _, h, L2⟩ := argF_inv h
  obtain ⟨x3, _, h, L3⟩ := argF_inv h
  obtain ⟨h, L4⟩ := arg0_inv h
  obtain ⟨x5, _, h, L5⟩ := argF_inv h
  obtain ⟨h, L6⟩ := arg0_inv h
  cases h
  exact (entry_of prg tok_17 (ev13 R x1 x2 x3 x5) (fun o ho => nomatch ho) rfl).le (L0 _ _ (L1 _ (L2 _ (L3 _ L4))) (L5 _ L6))
def tl_13 : List (Nat × Ev.Spec) := (13, sp13) :: tl_17
def tbl_13 (D : Dom) : Tbl D := tblOf tl_13 D
theorem tok_13 : TblOK Try.prog (tbl_13 R) := TblOK.cons tok_17 en13

-- penumbra/penumbraref26.Play
def S7_0 (D : Dom) (a0 : D.F) (a1 : D.F) (a2 : D.F) (a3 : D.Z) (a4 : D.F) : D.F := (D.fite (D.fge (S17_0 D a4) (S11_0 D a0 a1 a2 a3)) (D.fc 0) (S13_0 D a0 (D.fdiv (D.fc 4607182418800017408) (S11_0 D a0 a1 a2 a3))))
def S7_1 (D : Dom) (a0 : D.F) (a1 : D.F) (a2 : D.F) (a3 : D.Z) (a4 : D.F) : D.F := (D.fite (D.fge (S17_0 D a4) (S11_0 D a0 a1 a2 a3)) (D.fc 0) (S13_1 D a1 (D.fdiv (D.fc 4607182418800017408) (S11_0 D a0 a1 a2 a3))))
def S7_2 (D : Dom) (a0 : D.F) (a1 : D.F) (a2 : D.F) (a3 : D.Z) (a4 : D.F) : D.F := (D.fite (D.fge (S17_0 D a4) (S11_0 D a0 a1 a2 a3)) (D.fc 0) (S13_2 D a2 (D.fdiv (D.fc 4607182418800017408) (S11_0 D a0 a1 a2 a3))))
def S7_3 (D : Dom) (a0 : D.F) (a1 : D.F) (a2 : D.F) (a3 : D.Z) (a4 : D.F) : D.B := (D.bite (D.fge (S17_0 D a4) (S11_0 D a0 a1 a2 a3)) (D.bc false) (D.bc true))
theorem ev7 (D : Dom) (a0 : D.F) (a1 : D.F) (a2 : D.F) (a3 : D.Z) (a4 : D.F) : joinT (evFn Try.prog (tbl_13 D) 60 7 [.agg [.fl a0, .fl a1, .fl a2], .si .i64 a3, .fl a4]) = .val none (.tup [.agg [.fl (S7_0 D a0 a1 a2 a3 a4), .fl (S7_1 D a0 a1 a2 a3 a4), .fl (S7_2 D a0 a1 a2 a3 a4)], .sb (S7_3 D a0 a1 a2 a3 a4)]) := by kernel_rfl
def sp7 : Ev.Spec := fun D l => argA l fun c0 r0 => argF c0 fun a0 r1 => argF r1 fun a1 r2 => argF r2 fun a2 r3 => arg0 r3 (argZ .i64 r0 fun a3 r100 => argF r100 fun a4 r101 => arg0 r101 (.ret (.tup [.agg [.fl (S7_0 D a0 a1 a2 a3 a4), .fl (S7_1 D a0 a1 a2 a3 a4), .fl (S7_2 D a0 a1 a2 a3 a4)], .sb (S7_3 D a0 a1 a2 a3 a4)])))
theorem en7 : ∀ l r, (sp7 R l).run = some r → Entry Try.prog 7 l r := by
  intro l r h
  obtain ⟨_, _, h, L0⟩ := argA_inv h
  obtain ⟨x1, _, h, L1⟩ := argF_inv h
  obtain ⟨x2, _, h, L2⟩ := argF_inv h
  obtain ⟨x3, _, h, L3⟩ := argF_inv h
  obtain ⟨h, L4⟩ := arg0_inv h
  obtain ⟨x5, _, h, L5⟩ := argZ_inv h
  obtain ⟨x6, _, h, L6⟩ := argF_inv h
  obtain ⟨h, L7⟩ := arg0_inv h
  cases h
  exact (entry_of prg tok_13 (ev7 R x1 x2 x3 x5 x6) (fun o ho => nomatch ho) rfl).le (L0 _ _ (L1 _ (L2 _ (L3 _ L4))) (L5 _ (L6 _ L7)))
def tl_7 : List (Nat × Ev.Spec) := (7, sp7) :: tl_13
def tbl_7 (D : Dom) : Tbl D := tblOf tl_7 D
theorem tok_7 : TblOK Try.prog (tbl_7 R) := TblOK.cons tok_13 en7

-- penumbra/rgb.Add$1
def S32_0 (D : Dom) (a0 : D.F) (a1 : D.F) : D.F := (D.fadd a0 a1)
theorem ev32 (D : Dom) (a0 : D.F) (a1 : D.F) : joinT (evFn Try.prog (tbl_7 D) 60 32 [.fl a0, .fl a1]) = .val none (.fl (S32_0 D a0 a1)) := by kernel_rfl
def sp32 : Ev.Spec := fun D l => argF l fun a0 r0 => argF r0 fun a1 r1 => arg0 r1 (.ret (.fl (S32_0 D a0 a1)))
theorem en32 : ∀ l r, (sp32 R l).run = some r → Entry Try.prog 32 l r := by
  intro l r h
  obtain ⟨x0, _, h, L0⟩ := argF_inv h
  obtain ⟨x1, _, h, L1⟩ := argF_inv h
  obtain ⟨h, L2⟩ := arg0_inv h
  cases h
  exact (entry_of prg tok_7 (ev32 R x0 x1) (fun o ho => nomatch ho) rfl).le (L0 _ (L1 _ L2))
def tl_32 : List (Nat × Ev.Spec) := (32, sp32) :: tl_7
def tbl_32 (D : Dom) : Tbl D := tblOf tl_32 D
theorem tok_32 : TblOK Try.prog (tbl_32 R) := TblOK.cons tok_7 en32

-- penumbra/rgb.Add
def S23_0 (D : Dom) (a0 : D.F) (a3 : D.F) : D.F := (S32_0 D a0 a3)
def S23_1 (D : Dom) (a1 : D.F) (a4 : D.F) : D.F := (S32_0 D a1 a4)
def S23_2 (D : Dom) (a2 : D.F) (a5 : D.F) : D.F := (S32_0 D a2 a5)
theorem ev23 (D : Dom) (a0 : D.F) (a1 : D.F) (a2 : D.F) (a3 : D.F) (a4 : D.F) (a5 : D.F) : joinT (evFn Try.prog (tbl_32 D) 60 23 [.agg [.fl a0, .fl a1, .fl a2], .agg [.fl a3, .fl a4, .fl a5]]) = .val none (.agg [.fl (S23_0 D a0 a3), .fl (S23_1 D a1 a4), .fl (S23_2 D a2 a5)]) := by kernel_rfl
def sp23 : Ev.Spec := fun D l => argA l fun c0 r0 => argF c0 fun a0 r1 => argF r1 fun a1 r2 => argF r2 fun a2 r3 => arg0 r3 (argA r0 fun c100 r100 => argF c100 fun a3 r101 => argF r101 fun a4 r102 => argF r102 fun a5 r103 => arg0 r103 (arg0 r100 (.ret (.agg [.fl (S23_0 D a0 a3), .fl (S23_1 D a1 a4), .fl (S23_2 D a2 a5)]))))
theorem en23 : ∀ l r, (sp23 R l).run = some r → Entry Try.prog 23 l r := by
  intro l r h
  obtain ⟨_, _, h, L0⟩ := argA_inv h
  obtain ⟨x1, _, h, L1⟩ := argF_inv h
  obtain ⟨x2, _, h, L2⟩ := argF_inv h
  obtain ⟨x3, _, h, L3⟩ := argF_inv h
  obtain ⟨h, L4⟩ := arg0_inv h
  obtain ⟨_, _, h, L5⟩ := argA_inv h
  obtain ⟨x6, _, h, L6⟩ := argF_inv h
  obtain ⟨x7, _, h, L7⟩ := argF_inv h
  obtain ⟨x8, _, h, L8⟩ := argF_inv h
  obtain ⟨h, L9⟩ := arg0_inv h
  obtain ⟨h, L10⟩ := arg0_inv h
  cases h
  exact (entry_of prg tok_32 (ev23 R x1 x2 x3 x6 x7 x8) (fun o ho => nomatch ho) rfl).le (L0 _ _ (L1 _ (L2 _ (L3 _ L4))) (L5 _ _ (L6 _ (L7 _ (L8 _ L9))) L10))
def tl_23 : List (Nat × Ev.Spec) := (23, sp23) :: tl_32
def tbl_23 (D : Dom) : Tbl D := tblOf tl_23 D
theorem tok_23 : TblOK Try.prog (tbl_23 R) := TblOK.cons tok_32 en23

-- penumbra/penumbralaw26.awake
def S9_0 (D : Dom)  : D.B := (D.bite (D.feq (S8_0 D (D.fc 4602678819172646912) (D.fc 4598175219545276416) (D.fc 0) (D.zc 2)) (D.fc 4607182418800017408)) (D.bite (D.feq (S8_0 D (D.fc 4602678819172646912) (D.fc 4598175219545276416) (D.fc 0) (D.zc 3)) (D.fc 4602678819172646912)) (D.bite (D.feq (S6_0 D (D.fc 4602678819172646912) (D.fc 4598175219545276416) (D.fc 0) (D.zc 3) (D.fc 4600877379321698714)) (D.fc 4607182418800017408)) (D.bite (S6_3 D (D.fc 4602678819172646912) (D.fc 4598175219545276416) (D.fc 0) (D.zc 3) (D.fc 4600877379321698714)) (D.bite (D.band (D.feq (S6_0 D (D.fc 4602678819172646912) (D.fc 4598175219545276416) (D.fc 0) (D.zc 3) (D.fc 4602678819172646912)) (D.fc 0)) (D.band (D.feq (S6_1 D (D.fc 4602678819172646912) (D.fc 4598175219545276416) (D.fc 0) (D.zc 3) (D.fc 4602678819172646912)) (D.fc 0)) (D.band (D.feq (S6_2 D (D.fc 4602678819172646912) (D.fc 4598175219545276416) (D.fc 0) (D.zc 3) (D.fc 4602678819172646912)) (D.fc 0)) (D.bc true)))) (D.bite (D.bnot (S6_3 D (D.fc 4602678819172646912) (D.fc 4598175219545276416) (D.fc 0) (D.zc 3) (D.fc 4602678819172646912))) (D.band (D.feq (S24_0 D (S23_0 D (S23_0 D (S23_0 D (S23_0 D (D.fc 0) (D.fite (D.flt (S26_0 D (D.fdiv (D.i2f (D.zc 0)) (D.i2f (D.zc 4)))) (S8_0 D (D.fc 4602678819172646912) (D.fc 4598175219545276416) (D.fc 0) (D.zc 9))) (S24_0 D (D.fc 4602678819172646912) (D.fdiv (D.fc 4607182418800017408) (S8_0 D (D.fc 4602678819172646912) (D.fc 4598175219545276416) (D.fc 0) (D.zc 9)))) (D.fc 0))) (D.fite (D.flt (S26_0 D (D.fdiv (D.i2f (D.zc 1)) (D.i2f (D.zc 4)))) (S8_0 D (D.fc 4602678819172646912) (D.fc 4598175219545276416) (D.fc 0) (D.zc 9))) (S24_0 D (D.fc 4602678819172646912) (D.fdiv (D.fc 4607182418800017408) (S8_0 D (D.fc 4602678819172646912) (D.fc 4598175219545276416) (D.fc 0) (D.zc 9)))) (D.fc 0))) (D.fite (D.flt (S26_0 D (D.fdiv (D.i2f (D.zc 2)) (D.i2f (D.zc 4)))) (S8_0 D (D.fc 4602678819172646912) (D.fc 4598175219545276416) (D.fc 0) (D.zc 9))) (S24_0 D (D.fc 4602678819172646912) (D.fdiv (D.fc 4607182418800017408) (S8_0 D (D.fc 4602678819172646912) (D.fc 4598175219545276416) (D.fc 0) (D.zc 9)))) (D.fc 0))) (D.fite (D.flt (S26_0 D (D.fdiv (D.i2f (D.zc 3)) (D.i2f (D.zc 4)))) (S8_0 D (D.fc 4602678819172646912) (D.fc 4598175219545276416) (D.fc 0) (D.zc 9))) (S24_0 D (D.fc 4602678819172646912) (D.fdiv (D.fc 4607182418800017408) (S8_0 D (D.fc 4602678819172646912) (D.fc 4598175219545276416) (D.fc 0) (D.zc 9)))) (D.fc 0))) (D.fdiv (D.fc 4607182418800017408) (D.i2f (D.zc 4)))) (D.fc 4602678819172646912)) (D.band (D.feq (S24_1 D (S23_1 D (S23_1 D (S23_1 D (S23_1 D (D.fc 0) (D.fite (D.flt (S26_0 D (D.fdiv (D.i2f (D.zc 0)) (D.i2f (D.zc 4)))) (S8_0 D (D.fc 4602678819172646912) (D.fc 4598175219545276416) (D.fc 0) (D.zc 9))) (S24_1 D (D.fc 4598175219545276416) (D.fdiv (D.fc 4607182418800017408) (S8_0 D (D.fc 4602678819172646912) (D.fc 4598175219545276416) (D.fc 0) (D.zc 9)))) (D.fc 0))) (D.fite (D.flt (S26_0 D (D.fdiv (D.i2f (D.zc 1)) (D.i2f (D.zc 4)))) (S8_0 D (D.fc 4602678819172646912) (D.fc 4598175219545276416) (D.fc 0) (D.zc 9))) (S24_1 D (D.fc 4598175219545276416) (D.fdiv (D.fc 4607182418800017408) (S8_0 D (D.fc 4602678819172646912) (D.fc 4598175219545276416) (D.fc 0) (D.zc 9)))) (D.fc 0))) (D.fite (D.flt (S26_0 D (D.fdiv (D.i2f (D.zc 2)) (D.i2f (D.zc 4)))) (S8_0 D (D.fc 4602678819172646912) (D.fc 4598175219545276416) (D.fc 0) (D.zc 9))) (S24_1 D (D.fc 4598175219545276416) (D.fdiv (D.fc 4607182418800017408) (S8_0 D (D.fc 4602678819172646912) (D.fc 4598175219545276416) (D.fc 0) (D.zc 9)))) (D.fc 0))) (D.fite (D.flt (S26_0 D (D.fdiv (D.i2f (D.zc 3)) (D.i2f (D.zc 4)))) (S8_0 D (D.fc 4602678819172646912) (D.fc 4598175219545276416) (D.fc 0) (D.zc 9))) (S24_1 D (D.fc 4598175219545276416) (D.fdiv (D.fc 4607182418800017408) (S8_0 D (D.fc 4602678819172646912) (D.fc 4598175219545276416) (D.fc 0) (D.zc 9)))) (D.fc 0))) (D.fdiv (D.fc 4607182418800017408) (D.i2f (D.zc 4)))) (D.fc 4598175219545276416)) (D.band (D.feq (S24_2 D (S23_2 D (S23_2 D (S23_2 D (S23_2 D (D.fc 0) (D.fite (D.flt (S26_0 D (D.fdiv (D.i2f (D.zc 0)) (D.i2f (D.zc 4)))) (S8_0 D (D.fc 4602678819172646912) (D.fc 4598175219545276416) (D.fc 0) (D.zc 9))) (S24_2 D (D.fc 0) (D.fdiv (D.fc 4607182418800017408) (S8_0 D (D.fc 4602678819172646912) (D.fc 4598175219545276416) (D.fc 0) (D.zc 9)))) (D.fc 0))) (D.fite (D.flt (S26_0 D (D.fdiv (D.i2f (D.zc 1)) (D.i2f (D.zc 4)))) (S8_0 D (D.fc 4602678819172646912) (D.fc 4598175219545276416) (D.fc 0) (D.zc 9))) (S24_2 D (D.fc 0) (D.fdiv (D.fc 4607182418800017408) (S8_0 D (D.fc 4602678819172646912) (D.fc 4598175219545276416) (D.fc 0) (D.zc 9)))) (D.fc 0))) (D.fite (D.flt (S26_0 D (D.fdiv (D.i2f (D.zc 2)) (D.i2f (D.zc 4)))) (S8_0 D (D.fc 4602678819172646912) (D.fc 4598175219545276416) (D.fc 0) (D.zc 9))) (S24_2 D (D.fc 0) (D.fdiv (D.fc 4607182418800017408) (S8_0 D (D.fc 4602678819172646912) (D.fc 4598175219545276416) (D.fc 0) (D.zc 9)))) (D.fc 0))) (D.fite (D.flt (S26_0 D (D.fdiv (D.i2f (D.zc 3)) (D.i2f (D.zc 4)))) (S8_0 D (D.fc 4602678819172646912) (D.fc 4598175219545276416) (D.fc 0) (D.zc 9))) (S24_2 D (D.fc 0) (D.fdiv (D.fc 4607182418800017408) (S8_0 D (D.fc 4602678819172646912) (D.fc 4598175219545276416) (D.fc 0) (D.zc 9)))) (D.fc 0))) (D.fdiv (D.fc 4607182418800017408) (D.i2f (D.zc 4)))) (D.fc 0)) (D.bc true)))) (D.bc false)) (D.bc false)) (D.bc false)) (D.bc false)) (D.bc false)) (D.bc false))
theorem ev9 (D : Dom)  : joinT (evFn Try.prog (tbl_23 D) 60 9 []) = .val none (.sb (S9_0 D)) := by kernel_rfl
def sp9 : Ev.Spec := fun D l => arg0 l (.ret (.sb (S9_0 D)))
theorem en9 : ∀ l r, (sp9 R l).run = some r → Entry Try.prog 9 l r := by
  intro l r h
  obtain ⟨h, L0⟩ := arg0_inv h
  cases h
  exact (entry_of prg tok_23 (ev9 R ) (fun o ho => nomatch ho) rfl).le L0
def tl_9 : List (Nat × Ev.Spec) := (9, sp9) :: tl_23
def tbl_9 (D : Dom) : Tbl D := tblOf tl_9 D
theorem tok_9 : TblOK Try.prog (tbl_9 R) := TblOK.cons tok_23 en9

-- penumbra/penumbraref02.Same
def S20_0 (D : Dom) (a0 : D.F) (a1 : D.F) : D.B := (D.bite (D.feq a0 a1) (D.bc true) (D.bite (D.bnot (D.feq a0 a0)) (D.bnot (D.feq a1 a1)) (D.bc false)))
theorem ev20 (D : Dom) (a0 : D.F) (a1 : D.F) : joinT (evFn Try.prog (tbl_9 D) 60 20 [.fl a0, .fl a1]) = .val none (.sb (S20_0 D a0 a1)) := by kernel_rfl
def sp20 : Ev.Spec := fun D l => argF l fun a0 r0 => argF r0 fun a1 r1 => arg0 r1 (.ret (.sb (S20_0 D a0 a1)))
theorem en20 : ∀ l r, (sp20 R l).run = some r → Entry Try.prog 20 l r := by
  intro l r h
  obtain ⟨x0, _, h, L0⟩ := argF_inv h
  obtain ⟨x1, _, h, L1⟩ := argF_inv h
  obtain ⟨h, L2⟩ := arg0_inv h
  cases h
  exact (entry_of prg tok_9 (ev20 R x0 x1) (fun o ho => nomatch ho) rfl).le (L0 _ (L1 _ L2))
def tl_20 : List (Nat × Ev.Spec) := (20, sp20) :: tl_9
def tbl_20 (D : Dom) : Tbl D := tblOf tl_20 D
theorem tok_20 : TblOK Try.prog (tbl_20 R) := TblOK.cons tok_9 en20

-- penumbra/penumbraref05.Is
def S10_0 (D : Dom) (a0 : D.F) (a1 : D.F) (a2 : D.F) (a3 : D.F) (a4 : D.F) (a5 : D.F) : D.B := (D.bite (D.bite (S20_0 D a0 a3) (S20_0 D a1 a4) (D.bc false)) (S20_0 D a2 a5) (D.bc false))
theorem ev10 (D : Dom) (a0 : D.F) (a1 : D.F) (a2 : D.F) (a3 : D.F) (a4 : D.F) (a5 : D.F) : joinT (evFn Try.prog (tbl_20 D) 60 10 [.agg [.fl a0, .fl a1, .fl a2], .agg [.fl a3, .fl a4, .fl a5]]) = .val none (.sb (S10_0 D a0 a1 a2 a3 a4 a5)) := by kernel_rfl
def sp10 : Ev.Spec := fun D l => argA l fun c0 r0 => argF c0 fun a0 r1 => argF r1 fun a1 r2 => argF r2 fun a2 r3 => arg0 r3 (argA r0 fun c100 r100 => argF c100 fun a3 r101 => argF r101 fun a4 r102 => argF r102 fun a5 r103 => arg0 r103 (arg0 r100 (.ret (.sb (S10_0 D a0 a1 a2 a3 a4 a5)))))
theorem en10 : ∀ l r, (sp10 R l).run = some r → Entry Try.prog 10 l r := by
  intro l r h
  obtain ⟨_, _, h, L0⟩ := argA_inv h
  obtain ⟨x1, _, h, L1⟩ := argF_inv h
  obtain ⟨x2, _, h, L2⟩ := argF_inv h
  obtain ⟨x3, _, h, L3⟩ := argF_inv h
  obtain ⟨h, L4⟩ := arg0_inv h
  obtain ⟨_, _, h, L5⟩ := argA_inv h
  obtain ⟨x6, _, h, L6⟩ := argF_inv h
  obtain ⟨x7, _, h, L7⟩ := argF_inv h
  obtain ⟨x8, _, h, L8⟩ := argF_inv h
  obtain ⟨h, L9⟩ := arg0_inv h
  obtain ⟨h, L10⟩ := arg0_inv h
  cases h
  exact (entry_of prg tok_20 (ev10 R x1 x2 x3 x6 x7 x8) (fun o ho => nomatch ho) rfl).le (L0 _ _ (L1 _ (L2 _ (L3 _ L4))) (L5 _ _ (L6 _ (L7 _ (L8 _ L9))) L10))
def tl_10 : List (Nat × Ev.Spec) := (10, sp10) :: tl_20
def tbl_10 (D : Dom) : Tbl D := tblOf tl_10 D
theorem tok_10 : TblOK Try.prog (tbl_10 R) := TblOK.cons tok_20 en10

-- penumbra/penumbralaw26.RoulettePlays
def S3_0 (D : Dom) (a0 : D.F) (a1 : D.F) (a2 : D.F) (a3 : D.Z) (a4 : D.F) : D.B := (D.bite (D.bite (D.bite (D.bite (D.bite (S9_0 D) (S10_0 D (S6_0 D a0 a1 a2 a3 a4) (S6_1 D a0 a1 a2 a3 a4) (S6_2 D a0 a1 a2 a3 a4) (S7_0 D a0 a1 a2 a3 a4) (S7_1 D a0 a1 a2 a3 a4) (S7_2 D a0 a1 a2 a3 a4)) (D.bc false)) (D.beq (S6_3 D a0 a1 a2 a3 a4) (S7_3 D a0 a1 a2 a3 a4)) (D.bc false)) (D.feq (S8_0 D a0 a1 a2 a3) (S11_0 D a0 a1 a2 a3)) (D.bc false)) (D.fge (S8_0 D a0 a1 a2 a3) (D.fc 4589168020290535424)) (D.bc false)) (D.fle (S8_0 D a0 a1 a2 a3) (D.fc 4607182418800017408)) (D.bc false))
theorem ev3 (D : Dom) (a0 : D.F) (a1 : D.F) (a2 : D.F) (a3 : D.Z) (a4 : D.F) : joinT (evFn Try.prog (tbl_10 D) 60 3 [.agg [.fl a0, .fl a1, .fl a2], .si .i64 a3, .fl a4]) = .val none (.sb (S3_0 D a0 a1 a2 a3 a4)) := by kernel_rfl
def sp3 : Ev.Spec := fun D l => argA l fun c0 r0 => argF c0 fun a0 r1 => argF r1 fun a1 r2 => argF r2 fun a2 r3 => arg0 r3 (argZ .i64 r0 fun a3 r100 => argF r100 fun a4 r101 => arg0 r101 (.ret (.sb (S3_0 D a0 a1 a2 a3 a4))))
theorem en3 : ∀ l r, (sp3 R l).run = some r → Entry Try.prog 3 l r := by
  intro l r h
  obtain ⟨_, _, h, L0⟩ := argA_inv h
  obtain ⟨x1, _, h, L1⟩ := argF_inv h
  obtain ⟨x2, _, h, L2⟩ := argF_inv h
  obtain ⟨x3, _, h, L3⟩ := argF_inv h
  obtain ⟨h, L4⟩ := arg0_inv h
  obtain ⟨x5, _, h, L5⟩ := argZ_inv h
  obtain ⟨x6, _, h, L6⟩ := argF_inv h
  obtain ⟨h, L7⟩ := arg0_inv h
  cases h
  exact (entry_of prg tok_10 (ev3 R x1 x2 x3 x5 x6) (fun o ho => nomatch ho) rfl).le (L0 _ _ (L1 _ (L2 _ (L3 _ L4))) (L5 _ (L6 _ L7)))
def tl_3 : List (Nat × Ev.Spec) := (3, sp3) :: tl_10
def tbl_3 (D : Dom) : Tbl D := tblOf tl_3 D
theorem tok_3 : TblOK Try.prog (tbl_3 R) := TblOK.cons tok_10 en3

-- penumbra/penumbraref05.Add
def S12_0 (D : Dom) (a0 : D.F) (a3 : D.F) : D.F := (D.fadd a0 a3)
def S12_1 (D : Dom) (a1 : D.F) (a4 : D.F) : D.F := (D.fadd a1 a4)
def S12_2 (D : Dom) (a2 : D.F) (a5 : D.F) : D.F := (D.fadd a2 a5)
theorem ev12 (D : Dom) (a0 : D.F) (a1 : D.F) (a2 : D.F) (a3 : D.F) (a4 : D.F) (a5 : D.F) : joinT (evFn Try.prog (tbl_3 D) 60 12 [.agg [.fl a0, .fl a1, .fl a2], .agg [.fl a3, .fl a4, .fl a5]]) = .val none (.agg [.fl (S12_0 D a0 a3), .fl (S12_1 D a1 a4), .fl (S12_2 D a2 a5)]) := by kernel_rfl
def sp12 : Ev.Spec := fun D l => argA l fun c0 r0 => argF c0 fun a0 r1 => argF r1 fun a1 r2 => argF r2 fun a2 r3 => arg0 r3 (argA r0 fun c100 r100 => argF c100 fun a3 r101 => argF r101 fun a4 r102 => argF r102 fun a5 r103 => arg0 r103 (arg0 r100 (.ret (.agg [.fl (S12_0 D a0 a3), .fl (S12_1 D a1 a4), .fl (S12_2 D a2 a5)]))))
theorem en12 : ∀ l r, (sp12 R l).run = some r → Entry Try.prog 12 l r := by
  intro l r h
  obtain ⟨_, _, h, L0⟩ := argA_inv h
  obtain ⟨x1, _, h, L1⟩ := argF_inv h
  obtain ⟨x2, _, h, L2⟩ := argF_inv h
  obtain ⟨x3, _, h, L3⟩ := argF_inv h
  obtain ⟨h, L4⟩ := arg0_inv h
  obtain ⟨_, _, h, L5⟩ := argA_inv h
  obtain ⟨x6, _, h, L6⟩ := argF_inv h
  obtain ⟨x7, _, h, L7⟩ := argF_inv h
  obtain ⟨x8, _, h, L8⟩ := argF_inv h
  obtain ⟨h, L9⟩ := arg0_inv h
  obtain ⟨h, L10⟩ := arg0_inv h
  cases h
  exact (entry_of prg tok_3 (ev12 R x1 x2 x3 x6 x7 x8) (fun o ho => nomatch ho) rfl).le (L0 _ _ (L1 _ (L2 _ (L3 _ L4))) (L5 _ _ (L6 _ (L7 _ (L8 _ L9))) L10))
def tl_12 : List (Nat × Ev.Spec) := (12, sp12) :: tl_3
def tbl_12 (D : Dom) : Tbl D := tblOf tl_12 D
theorem tok_12 : TblOK Try.prog (tbl_12 R) := TblOK.cons tok_3 en12

-- penumbra/penumbralaw26.near
def S15_0 (D : Dom) (a0 : D.F) (a1 : D.F) : D.B := (D.bite (D.fle (D.fsub a0 a1) (D.fc 4472074429978902528)) (D.fge (D.fsub a0 a1) (D.fc 13695446466833678336)) (D.bc false))
theorem ev15 (D : Dom) (a0 : D.F) (a1 : D.F) : joinT (evFn Try.prog (tbl_12 D) 60 15 [.fl a0, .fl a1]) = .val none (.sb (S15_0 D a0 a1)) := by kernel_rfl
def sp15 : Ev.Spec := fun D l => argF l fun a0 r0 => argF r0 fun a1 r1 => arg0 r1 (.ret (.sb (S15_0 D a0 a1)))
theorem en15 : ∀ l r, (sp15 R l).run = some r → Entry Try.prog 15 l r := by
  intro l r h
  obtain ⟨x0, _, h, L0⟩ := argF_inv h
  obtain ⟨x1, _, h, L1⟩ := argF_inv h
  obtain ⟨h, L2⟩ := arg0_inv h
  cases h
  exact (entry_of prg tok_12 (ev15 R x0 x1) (fun o ho => nomatch ho) rfl).le (L0 _ (L1 _ L2))
def tl_15 : List (Nat × Ev.Spec) := (15, sp15) :: tl_12
def tbl_15 (D : Dom) : Tbl D := tblOf tl_15 D
theorem tok_15 : TblOK Try.prog (tbl_15 R) := TblOK.cons tok_12 en15

end Go.Proofs.Ytmlkkfijlgkmfaa
