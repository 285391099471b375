/- The functions of this seat, each with what it comes to, by the evaluator. PRINTED BY A PROGRAM OF THIS PROJECT (wip/ev2/Gen.lean). -/
import Derived.Test.YtmlkkfijlgkmfaaEv4
import Derived.Test.YtmlkkfijlgkmfaaChecked
namespace Go.Proofs.Ytmlkkfijlgkmfaa
open Go.Ev
set_option maxRecDepth 100000

theorem prg : Ev.Prog Try.prog := ⟨by kernel_rfl, by kernel_rfl⟩
def tl_0 : List (Nat × Ev.Spec) := []
def tbl_0 (D : Dom) : Tbl D := tblOf tl_0 D
theorem tok_0 : TblOK Try.prog (tbl_0 R) := (TblOK.nil _)
def ll_0 (D : Dom) : List (LE D) := []
def lt_0 (D : Dom) : LTb D := ltOf (ll_0 D)
theorem hok_0 : HooksOK Try.prog (lt_0 R) := HooksOK.nil _

-- penumbra/vec.Number
def S28_0 (D : Dom) (a0 : D.F) : D.B := (D.bite (D.fge a0 (D.fc 18442240474082181119)) (D.fle a0 (D.fc 9218868437227405311)) (D.bc false))
theorem ev28 (D : Dom) (a0 : D.F) : joinT (evFnH Try.prog (tbl_0 D) (lt_0 D) 60 28 [.fl a0] [] 0) = .val none (.sb (S28_0 D a0)) := by kernel_rfl
def sp28 : Ev.Spec := fun D l => argF l fun a0 r0 => arg0 r0 (.ret (.sb (S28_0 D a0)))
theorem en28 : ∀ l r, (sp28 R l).run = some r → Entry Try.prog 28 l r := by
  intro l r h
  obtain ⟨x0, _, h, L0⟩ := argF_inv h
  obtain ⟨h, L1⟩ := arg0_inv h
  cases h
  exact (entry_loops prg tok_0 hok_0 (ev28 R x0) (fun o ho => nomatch ho) rfl).le (L0 _ L1)
def tl_28 : List (Nat × Ev.Spec) := (28, sp28) :: tl_0
def tbl_28 (D : Dom) : Tbl D := tblOf tl_28 D
theorem tok_28 : TblOK Try.prog (tbl_28 R) := TblOK.cons tok_0 en28

-- penumbra/rgb.Good$1
def S27_0 (D : Dom) (a0 : D.F) : D.B := (D.bite (D.fge a0 (D.fc 0)) (S28_0 D a0) (D.bc false))
theorem ev27 (D : Dom) (a0 : D.F) : joinT (evFnH Try.prog (tbl_28 D) (lt_0 D) 60 27 [.fl a0] [] 0) = .val none (.sb (S27_0 D a0)) := by kernel_rfl
def sp27 : Ev.Spec := fun D l => argF l fun a0 r0 => arg0 r0 (.ret (.sb (S27_0 D a0)))
theorem en27 : ∀ l r, (sp27 R l).run = some r → Entry Try.prog 27 l r := by
  intro l r h
  obtain ⟨x0, _, h, L0⟩ := argF_inv h
  obtain ⟨h, L1⟩ := arg0_inv h
  cases h
  exact (entry_loops prg tok_28 hok_0 (ev27 R x0) (fun o ho => nomatch ho) rfl).le (L0 _ L1)
def tl_27 : List (Nat × Ev.Spec) := (27, sp27) :: tl_28
def tbl_27 (D : Dom) : Tbl D := tblOf tl_27 D
theorem tok_27 : TblOK Try.prog (tbl_27 R) := TblOK.cons tok_28 en27

-- penumbra/rgb.Good
def S18_0 (D : Dom) (a0 : D.F) (a1 : D.F) (a2 : D.F) : D.B := (D.bite (D.bite (S27_0 D a0) (S27_0 D a1) (D.bc false)) (S27_0 D a2) (D.bc false))
theorem ev18 (D : Dom) (a0 : D.F) (a1 : D.F) (a2 : D.F) : joinT (evFnH Try.prog (tbl_27 D) (lt_0 D) 60 18 [.agg [.fl a0, .fl a1, .fl a2]] [] 0) = .val none (.sb (S18_0 D a0 a1 a2)) := by kernel_rfl
def sp18 : Ev.Spec := fun D l => argA l fun c0 r0 => argF c0 fun a0 r1 => argF r1 fun a1 r2 => argF r2 fun a2 r3 => arg0 r3 (arg0 r0 (.ret (.sb (S18_0 D a0 a1 a2))))
theorem en18 : ∀ l r, (sp18 R l).run = some r → Entry Try.prog 18 l r := by
  intro l r h
  obtain ⟨_, _, h, L0⟩ := argA_inv h
  obtain ⟨x1, _, h, L1⟩ := argF_inv h
  obtain ⟨x2, _, h, L2⟩ := argF_inv h
  obtain ⟨x3, _, h, L3⟩ := argF_inv h
  obtain ⟨h, L4⟩ := arg0_inv h
  obtain ⟨h, L5⟩ := arg0_inv h
  cases h
  exact (entry_loops prg tok_27 hok_0 (ev18 R x1 x2 x3) (fun o ho => nomatch ho) rfl).le (L0 _ _ (L1 _ (L2 _ (L3 _ L4))) L5)
def tl_18 : List (Nat × Ev.Spec) := (18, sp18) :: tl_27
def tbl_18 (D : Dom) : Tbl D := tblOf tl_18 D
theorem tok_18 : TblOK Try.prog (tbl_18 R) := TblOK.cons tok_27 en18

-- penumbra/rgb.Most
def S19_0 (D : Dom) (a0 : D.F) (a1 : D.F) (a2 : D.F) : D.F := (D.fite (D.fgt a2 (D.fite (D.fgt a1 a0) a1 a0)) a2 (D.fite (D.fgt a1 a0) a1 a0))
theorem ev19 (D : Dom) (a0 : D.F) (a1 : D.F) (a2 : D.F) : joinT (evFnH Try.prog (tbl_18 D) (lt_0 D) 60 19 [.agg [.fl a0, .fl a1, .fl a2]] [] 0) = .val none (.fl (S19_0 D a0 a1 a2)) := by kernel_rfl
def sp19 : Ev.Spec := fun D l => argA l fun c0 r0 => argF c0 fun a0 r1 => argF r1 fun a1 r2 => argF r2 fun a2 r3 => arg0 r3 (arg0 r0 (.ret (.fl (S19_0 D a0 a1 a2))))
theorem en19 : ∀ l r, (sp19 R l).run = some r → Entry Try.prog 19 l r := by
  intro l r h
  obtain ⟨_, _, h, L0⟩ := argA_inv h
  obtain ⟨x1, _, h, L1⟩ := argF_inv h
  obtain ⟨x2, _, h, L2⟩ := argF_inv h
  obtain ⟨x3, _, h, L3⟩ := argF_inv h
  obtain ⟨h, L4⟩ := arg0_inv h
  obtain ⟨h, L5⟩ := arg0_inv h
  cases h
  exact (entry_loops prg tok_18 hok_0 (ev19 R x1 x2 x3) (fun o ho => nomatch ho) rfl).le (L0 _ _ (L1 _ (L2 _ (L3 _ L4))) L5)
def tl_19 : List (Nat × Ev.Spec) := (19, sp19) :: tl_18
def tbl_19 (D : Dom) : Tbl D := tblOf tl_19 D
theorem tok_19 : TblOK Try.prog (tbl_19 R) := TblOK.cons tok_18 en19

-- penumbra/roulette.Chance
def S8_0 (D : Dom) (a0 : D.F) (a1 : D.F) (a2 : D.F) (a3 : D.Z) : D.F := (D.fite (D.bite (D.zlt a3 (D.zc 3)) (D.bc true) (D.bnot (S18_0 D a0 a1 a2))) (D.fc 4607182418800017408) (D.fmin (D.fmax (S19_0 D a0 a1 a2) (D.fc 4589168020290535424)) (D.fc 4607182418800017408)))
theorem ev8 (D : Dom) (a0 : D.F) (a1 : D.F) (a2 : D.F) (a3 : D.Z) : joinT (evFnH Try.prog (tbl_19 D) (lt_0 D) 60 8 [.agg [.fl a0, .fl a1, .fl a2], .si .i64 a3] [] 0) = .val none (.fl (S8_0 D a0 a1 a2 a3)) := by kernel_rfl
def sp8 : Ev.Spec := fun D l => argA l fun c0 r0 => argF c0 fun a0 r1 => argF r1 fun a1 r2 => argF r2 fun a2 r3 => arg0 r3 (argZ .i64 r0 fun a3 r100 => arg0 r100 (.ret (.fl (S8_0 D a0 a1 a2 a3))))
theorem en8 : ∀ l r, (sp8 R l).run = some r → Entry Try.prog 8 l r := by
  intro l r h
  obtain ⟨_, _, h, L0⟩ := argA_inv h
  obtain ⟨x1, _, h, L1⟩ := argF_inv h
  obtain ⟨x2, _, h, L2⟩ := argF_inv h
  obtain ⟨x3, _, h, L3⟩ := argF_inv h
  obtain ⟨h, L4⟩ := arg0_inv h
  obtain ⟨x5, _, h, L5⟩ := argZ_inv h
  obtain ⟨h, L6⟩ := arg0_inv h
  cases h
  exact (entry_loops prg tok_19 hok_0 (ev8 R x1 x2 x3 x5) (fun o ho => nomatch ho) rfl).le (L0 _ _ (L1 _ (L2 _ (L3 _ L4))) (L5 _ L6))
def tl_8 : List (Nat × Ev.Spec) := (8, sp8) :: tl_19
def tbl_8 (D : Dom) : Tbl D := tblOf tl_8 D
theorem tok_8 : TblOK Try.prog (tbl_8 R) := TblOK.cons tok_19 en8

-- penumbra/tape.Clean
def S26_0 (D : Dom) (a0 : D.F) : D.F := (D.fite (D.bite (D.fge a0 (D.fc 0)) (D.flt a0 (D.fc 4607182418800017408)) (D.bc false)) a0 (D.fc 0))
theorem ev26 (D : Dom) (a0 : D.F) : joinT (evFnH Try.prog (tbl_8 D) (lt_0 D) 60 26 [.fl a0] [] 0) = .val none (.fl (S26_0 D a0)) := by kernel_rfl
def sp26 : Ev.Spec := fun D l => argF l fun a0 r0 => arg0 r0 (.ret (.fl (S26_0 D a0)))
theorem en26 : ∀ l r, (sp26 R l).run = some r → Entry Try.prog 26 l r := by
  intro l r h
  obtain ⟨x0, _, h, L0⟩ := argF_inv h
  obtain ⟨h, L1⟩ := arg0_inv h
  cases h
  exact (entry_loops prg tok_8 hok_0 (ev26 R x0) (fun o ho => nomatch ho) rfl).le (L0 _ L1)
def tl_26 : List (Nat × Ev.Spec) := (26, sp26) :: tl_8
def tbl_26 (D : Dom) : Tbl D := tblOf tl_26 D
theorem tok_26 : TblOK Try.prog (tbl_26 R) := TblOK.cons tok_8 en26

-- penumbra/rgb.Gray
def S34_0 (D : Dom) (a0 : D.F) : D.F := a0
def S34_1 (D : Dom) (a0 : D.F) : D.F := a0
def S34_2 (D : Dom) (a0 : D.F) : D.F := a0
theorem ev34 (D : Dom) (a0 : D.F) : joinT (evFnH Try.prog (tbl_26 D) (lt_0 D) 60 34 [.fl a0] [] 0) = .val none (.agg [.fl (S34_0 D a0), .fl (S34_1 D a0), .fl (S34_2 D a0)]) := by kernel_rfl
def sp34 : Ev.Spec := fun D l => argF l fun a0 r0 => arg0 r0 (.ret (.agg [.fl (S34_0 D a0), .fl (S34_1 D a0), .fl (S34_2 D a0)]))
theorem en34 : ∀ l r, (sp34 R l).run = some r → Entry Try.prog 34 l r := by
  intro l r h
  obtain ⟨x0, _, h, L0⟩ := argF_inv h
  obtain ⟨h, L1⟩ := arg0_inv h
  cases h
  exact (entry_loops prg tok_26 hok_0 (ev34 R x0) (fun o ho => nomatch ho) rfl).le (L0 _ L1)
def tl_34 : List (Nat × Ev.Spec) := (34, sp34) :: tl_26
def tbl_34 (D : Dom) : Tbl D := tblOf tl_34 D
theorem tok_34 : TblOK Try.prog (tbl_34 R) := TblOK.cons tok_26 en34

-- penumbra/rgb.Mul$1
def S35_0 (D : Dom) (a0 : D.F) (a1 : D.F) : D.F := (D.fmul a0 a1)
theorem ev35 (D : Dom) (a0 : D.F) (a1 : D.F) : joinT (evFnH Try.prog (tbl_34 D) (lt_0 D) 60 35 [.fl a0, .fl a1] [] 0) = .val none (.fl (S35_0 D a0 a1)) := by kernel_rfl
def sp35 : Ev.Spec := fun D l => argF l fun a0 r0 => argF r0 fun a1 r1 => arg0 r1 (.ret (.fl (S35_0 D a0 a1)))
theorem en35 : ∀ l r, (sp35 R l).run = some r → Entry Try.prog 35 l r := by
  intro l r h
  obtain ⟨x0, _, h, L0⟩ := argF_inv h
  obtain ⟨x1, _, h, L1⟩ := argF_inv h
  obtain ⟨h, L2⟩ := arg0_inv h
  cases h
  exact (entry_loops prg tok_34 hok_0 (ev35 R x0 x1) (fun o ho => nomatch ho) rfl).le (L0 _ (L1 _ L2))
def tl_35 : List (Nat × Ev.Spec) := (35, sp35) :: tl_34
def tbl_35 (D : Dom) : Tbl D := tblOf tl_35 D
theorem tok_35 : TblOK Try.prog (tbl_35 R) := TblOK.cons tok_34 en35

-- penumbra/rgb.Mul
def S33_0 (D : Dom) (a0 : D.F) (a3 : D.F) : D.F := (S35_0 D a0 a3)
def S33_1 (D : Dom) (a1 : D.F) (a4 : D.F) : D.F := (S35_0 D a1 a4)
def S33_2 (D : Dom) (a2 : D.F) (a5 : D.F) : D.F := (S35_0 D a2 a5)
theorem ev33 (D : Dom) (a0 : D.F) (a1 : D.F) (a2 : D.F) (a3 : D.F) (a4 : D.F) (a5 : D.F) : joinT (evFnH Try.prog (tbl_35 D) (lt_0 D) 60 33 [.agg [.fl a0, .fl a1, .fl a2], .agg [.fl a3, .fl a4, .fl a5]] [] 0) = .val none (.agg [.fl (S33_0 D a0 a3), .fl (S33_1 D a1 a4), .fl (S33_2 D a2 a5)]) := by kernel_rfl
def sp33 : Ev.Spec := fun D l => argA l fun c0 r0 => argF c0 fun a0 r1 => argF r1 fun a1 r2 => argF r2 fun a2 r3 => arg0 r3 (argA r0 fun c100 r100 => argF c100 fun a3 r101 => argF r101 fun a4 r102 => argF r102 fun a5 r103 => arg0 r103 (arg0 r100 (.ret (.agg [.fl (S33_0 D a0 a3), .fl (S33_1 D a1 a4), .fl (S33_2 D a2 a5)]))))
theorem en33 : ∀ l r, (sp33 R l).run = some r → Entry Try.prog 33 l r := by
  intro l r h
  obtain ⟨_, _, h, L0⟩ := argA_inv h
  obtain ⟨x1, _, h, L1⟩ := argF_inv h
  obtain ⟨x2, _, h, L2⟩ := argF_inv h
  obtain ⟨x3, _, h, L3⟩ := argF_inv h
  obtain ⟨h, L4⟩ := arg0_inv h
  obtain ⟨_, _, h, L5⟩ := argA_inv h
  obtain ⟨x6, _, h, L6⟩ := argF_inv h
  obtain ⟨x7, _, h, L7⟩ := argF_inv h
  obtain ⟨x8, _, h, L8⟩ := argF_inv h
  obtain ⟨h, L9⟩ := arg0_inv h
  obtain ⟨h, L10⟩ := arg0_inv h
  cases h
  exact (entry_loops prg tok_35 hok_0 (ev33 R x1 x2 x3 x6 x7 x8) (fun o ho => nomatch ho) rfl).le (L0 _ _ (L1 _ (L2 _ (L3 _ L4))) (L5 _ _ (L6 _ (L7 _ (L8 _ L9))) L10))
def tl_33 : List (Nat × Ev.Spec) := (33, sp33) :: tl_35
def tbl_33 (D : Dom) : Tbl D := tblOf tl_33 D
theorem tok_33 : TblOK Try.prog (tbl_33 R) := TblOK.cons tok_35 en33

-- penumbra/rgb.Scale
def S24_0 (D : Dom) (a0 : D.F) (a3 : D.F) : D.F := (S33_0 D a0 (S34_0 D a3))
def S24_1 (D : Dom) (a1 : D.F) (a3 : D.F) : D.F := (S33_1 D a1 (S34_1 D a3))
def S24_2 (D : Dom) (a2 : D.F) (a3 : D.F) : D.F := (S33_2 D a2 (S34_2 D a3))
theorem ev24 (D : Dom) (a0 : D.F) (a1 : D.F) (a2 : D.F) (a3 : D.F) : joinT (evFnH Try.prog (tbl_33 D) (lt_0 D) 60 24 [.agg [.fl a0, .fl a1, .fl a2], .fl a3] [] 0) = .val none (.agg [.fl (S24_0 D a0 a3), .fl (S24_1 D a1 a3), .fl (S24_2 D a2 a3)]) := by kernel_rfl
def sp24 : Ev.Spec := fun D l => argA l fun c0 r0 => argF c0 fun a0 r1 => argF r1 fun a1 r2 => argF r2 fun a2 r3 => arg0 r3 (argF r0 fun a3 r100 => arg0 r100 (.ret (.agg [.fl (S24_0 D a0 a3), .fl (S24_1 D a1 a3), .fl (S24_2 D a2 a3)])))
theorem en24 : ∀ l r, (sp24 R l).run = some r → Entry Try.prog 24 l r := by
  intro l r h
  obtain ⟨_, _, h, L0⟩ := argA_inv h
  obtain ⟨x1, _, h, L1⟩ := argF_inv h
  obtain ⟨x2, _, h, L2⟩ := argF_inv h
  obtain ⟨x3, _, h, L3⟩ := argF_inv h
  obtain ⟨h, L4⟩ := arg0_inv h
  obtain ⟨x5, _, h, L5⟩ := argF_inv h
  obtain ⟨h, L6⟩ := arg0_inv h
  cases h
  exact (entry_loops prg tok_33 hok_0 (ev24 R x1 x2 x3 x5) (fun o ho => nomatch ho) rfl).le (L0 _ _ (L1 _ (L2 _ (L3 _ L4))) (L5 _ L6))
def tl_24 : List (Nat × Ev.Spec) := (24, sp24) :: tl_33
def tbl_24 (D : Dom) : Tbl D := tblOf tl_24 D
theorem tok_24 : TblOK Try.prog (tbl_24 R) := TblOK.cons tok_33 en24

-- penumbra/roulette.Play
def S6_0 (D : Dom) (a0 : D.F) (a1 : D.F) (a2 : D.F) (a3 : D.Z) (a4 : D.F) : D.F := (D.fite (D.flt (S26_0 D a4) (S8_0 D a0 a1 a2 a3)) (S24_0 D a0 (D.fdiv (D.fc 4607182418800017408) (S8_0 D a0 a1 a2 a3))) (D.fc 0))
def S6_1 (D : Dom) (a0 : D.F) (a1 : D.F) (a2 : D.F) (a3 : D.Z) (a4 : D.F) : D.F := (D.fite (D.flt (S26_0 D a4) (S8_0 D a0 a1 a2 a3)) (S24_1 D a1 (D.fdiv (D.fc 4607182418800017408) (S8_0 D a0 a1 a2 a3))) (D.fc 0))
def S6_2 (D : Dom) (a0 : D.F) (a1 : D.F) (a2 : D.F) (a3 : D.Z) (a4 : D.F) : D.F := (D.fite (D.flt (S26_0 D a4) (S8_0 D a0 a1 a2 a3)) (S24_2 D a2 (D.fdiv (D.fc 4607182418800017408) (S8_0 D a0 a1 a2 a3))) (D.fc 0))
def S6_3 (D : Dom) (a0 : D.F) (a1 : D.F) (a2 : D.F) (a3 : D.Z) (a4 : D.F) : D.B := (D.bite (D.flt (S26_0 D a4) (S8_0 D a0 a1 a2 a3)) (D.bc true) (D.bc false))
theorem ev6 (D : Dom) (a0 : D.F) (a1 : D.F) (a2 : D.F) (a3 : D.Z) (a4 : D.F) : joinT (evFnH Try.prog (tbl_24 D) (lt_0 D) 60 6 [.agg [.fl a0, .fl a1, .fl a2], .si .i64 a3, .fl a4] [] 0) = .val none (.tup [.agg [.fl (S6_0 D a0 a1 a2 a3 a4), .fl (S6_1 D a0 a1 a2 a3 a4), .fl (S6_2 D a0 a1 a2 a3 a4)], .sb (S6_3 D a0 a1 a2 a3 a4)]) := by kernel_rfl
def sp6 : Ev.Spec := fun D l => argA l fun c0 r0 => argF c0 fun a0 r1 => argF r1 fun a1 r2 => argF r2 fun a2 r3 => arg0 r3 (argZ .i64 r0 fun a3 r100 => argF r100 fun a4 r101 => arg0 r101 (.ret (.tup [.agg [.fl (S6_0 D a0 a1 a2 a3 a4), .fl (S6_1 D a0 a1 a2 a3 a4), .fl (S6_2 D a0 a1 a2 a3 a4)], .sb (S6_3 D a0 a1 a2 a3 a4)])))
theorem en6 : ∀ l r, (sp6 R l).run = some r → Entry Try.prog 6 l r := by
  intro l r h
  obtain ⟨_, _, h, L0⟩ := argA_inv h
  obtain ⟨x1, _, h, L1⟩ := argF_inv h
  obtain ⟨x2, _, h, L2⟩ := argF_inv h
  obtain ⟨x3, _, h, L3⟩ := argF_inv h
  obtain ⟨h, L4⟩ := arg0_inv h
  obtain ⟨x5, _, h, L5⟩ := argZ_inv h
  obtain ⟨x6, _, h, L6⟩ := argF_inv h
  obtain ⟨h, L7⟩ := arg0_inv h
  cases h
  exact (entry_loops prg tok_24 hok_0 (ev6 R x1 x2 x3 x5 x6) (fun o ho => nomatch ho) rfl).le (L0 _ _ (L1 _ (L2 _ (L3 _ L4))) (L5 _ (L6 _ L7)))
def tl_6 : List (Nat × Ev.Spec) := (6, sp6) :: tl_24
def tbl_6 (D : Dom) : Tbl D := tblOf tl_6 D
theorem tok_6 : TblOK Try.prog (tbl_6 R) := TblOK.cons tok_24 en6

-- penumbra/penumbraref02.Number
def S29_0 (D : Dom) (a0 : D.F) : D.B := (D.feq (D.fsub a0 a0) (D.fc 0))
theorem ev29 (D : Dom) (a0 : D.F) : joinT (evFnH Try.prog (tbl_6 D) (lt_0 D) 60 29 [.fl a0] [] 0) = .val none (.sb (S29_0 D a0)) := by kernel_rfl
def sp29 : Ev.Spec := fun D l => argF l fun a0 r0 => arg0 r0 (.ret (.sb (S29_0 D a0)))
theorem en29 : ∀ l r, (sp29 R l).run = some r → Entry Try.prog 29 l r := by
  intro l r h
  obtain ⟨x0, _, h, L0⟩ := argF_inv h
  obtain ⟨h, L1⟩ := arg0_inv h
  cases h
  exact (entry_loops prg tok_6 hok_0 (ev29 R x0) (fun o ho => nomatch ho) rfl).le (L0 _ L1)
def tl_29 : List (Nat × Ev.Spec) := (29, sp29) :: tl_6
def tbl_29 (D : Dom) : Tbl D := tblOf tl_29 D
theorem tok_29 : TblOK Try.prog (tbl_29 R) := TblOK.cons tok_6 en29

-- penumbra/penumbraref05.Good
def S21_0 (D : Dom) (a0 : D.F) (a1 : D.F) (a2 : D.F) : D.B := (D.bite (D.bite (D.bite (D.bite (D.bite (S29_0 D a0) (S29_0 D a1) (D.bc false)) (S29_0 D a2) (D.bc false)) (D.fge a0 (D.fc 0)) (D.bc false)) (D.fge a1 (D.fc 0)) (D.bc false)) (D.fge a2 (D.fc 0)) (D.bc false))
theorem ev21 (D : Dom) (a0 : D.F) (a1 : D.F) (a2 : D.F) : joinT (evFnH Try.prog (tbl_29 D) (lt_0 D) 60 21 [.agg [.fl a0, .fl a1, .fl a2]] [] 0) = .val none (.sb (S21_0 D a0 a1 a2)) := by kernel_rfl
def sp21 : Ev.Spec := fun D l => argA l fun c0 r0 => argF c0 fun a0 r1 => argF r1 fun a1 r2 => argF r2 fun a2 r3 => arg0 r3 (arg0 r0 (.ret (.sb (S21_0 D a0 a1 a2))))
theorem en21 : ∀ l r, (sp21 R l).run = some r → Entry Try.prog 21 l r := by
  intro l r h
  obtain ⟨_, _, h, L0⟩ := argA_inv h
  obtain ⟨x1, _, h, L1⟩ := argF_inv h
  obtain ⟨x2, _, h, L2⟩ := argF_inv h
  obtain ⟨x3, _, h, L3⟩ := argF_inv h
  obtain ⟨h, L4⟩ := arg0_inv h
  obtain ⟨h, L5⟩ := arg0_inv h
  cases h
  exact (entry_loops prg tok_29 hok_0 (ev21 R x1 x2 x3) (fun o ho => nomatch ho) rfl).le (L0 _ _ (L1 _ (L2 _ (L3 _ L4))) L5)
def tl_21 : List (Nat × Ev.Spec) := (21, sp21) :: tl_29
def tbl_21 (D : Dom) : Tbl D := tblOf tl_21 D
theorem tok_21 : TblOK Try.prog (tbl_21 R) := TblOK.cons tok_29 en21

-- penumbra/penumbraref04.High
def S30_0 (D : Dom) (a0 : D.F) (a1 : D.F) : D.F := (D.fite (D.fgt a1 a0) a1 a0)
theorem ev30 (D : Dom) (a0 : D.F) (a1 : D.F) : joinT (evFnH Try.prog (tbl_21 D) (lt_0 D) 60 30 [.fl a0, .fl a1] [] 0) = .val none (.fl (S30_0 D a0 a1)) := by kernel_rfl
def sp30 : Ev.Spec := fun D l => argF l fun a0 r0 => argF r0 fun a1 r1 => arg0 r1 (.ret (.fl (S30_0 D a0 a1)))
theorem en30 : ∀ l r, (sp30 R l).run = some r → Entry Try.prog 30 l r := by
  intro l r h
  obtain ⟨x0, _, h, L0⟩ := argF_inv h
  obtain ⟨x1, _, h, L1⟩ := argF_inv h
  obtain ⟨h, L2⟩ := arg0_inv h
  cases h
  exact (entry_loops prg tok_21 hok_0 (ev30 R x0 x1) (fun o ho => nomatch ho) rfl).le (L0 _ (L1 _ L2))
def tl_30 : List (Nat × Ev.Spec) := (30, sp30) :: tl_21
def tbl_30 (D : Dom) : Tbl D := tblOf tl_30 D
theorem tok_30 : TblOK Try.prog (tbl_30 R) := TblOK.cons tok_21 en30

-- penumbra/penumbraref05.Most
def S22_0 (D : Dom) (a0 : D.F) (a1 : D.F) (a2 : D.F) : D.F := (S30_0 D (S30_0 D a0 a1) a2)
theorem ev22 (D : Dom) (a0 : D.F) (a1 : D.F) (a2 : D.F) : joinT (evFnH Try.prog (tbl_30 D) (lt_0 D) 60 22 [.agg [.fl a0, .fl a1, .fl a2]] [] 0) = .val none (.fl (S22_0 D a0 a1 a2)) := by kernel_rfl
def sp22 : Ev.Spec := fun D l => argA l fun c0 r0 => argF c0 fun a0 r1 => argF r1 fun a1 r2 => argF r2 fun a2 r3 => arg0 r3 (arg0 r0 (.ret (.fl (S22_0 D a0 a1 a2))))
theorem en22 : ∀ l r, (sp22 R l).run = some r → Entry Try.prog 22 l r := by
  intro l r h
  obtain ⟨_, _, h, L0⟩ := argA_inv h
  obtain ⟨x1, _, h, L1⟩ := argF_inv h
  obtain ⟨x2, _, h, L2⟩ := argF_inv h
  obtain ⟨x3, _, h, L3⟩ := argF_inv h
  obtain ⟨h, L4⟩ := arg0_inv h
  obtain ⟨h, L5⟩ := arg0_inv h
  cases h
  exact (entry_loops prg tok_30 hok_0 (ev22 R x1 x2 x3) (fun o ho => nomatch ho) rfl).le (L0 _ _ (L1 _ (L2 _ (L3 _ L4))) L5)
def tl_22 : List (Nat × Ev.Spec) := (22, sp22) :: tl_30
def tbl_22 (D : Dom) : Tbl D := tblOf tl_22 D
theorem tok_22 : TblOK Try.prog (tbl_22 R) := TblOK.cons tok_30 en22

-- penumbra/penumbraref26.Chance
def S11_0 (D : Dom) (a0 : D.F) (a1 : D.F) (a2 : D.F) (a3 : D.Z) : D.F := (D.fite (D.bite (D.zlt a3 (D.zc 3)) (D.bc true) (D.bnot (S21_0 D a0 a1 a2))) (D.fc 4607182418800017408) (D.fite (D.flt (S22_0 D a0 a1 a2) (D.fc 4589168020290535424)) (D.fc 4589168020290535424) (D.fite (D.fgt (S22_0 D a0 a1 a2) (D.fc 4607182418800017408)) (D.fc 4607182418800017408) (S22_0 D a0 a1 a2))))
theorem ev11 (D : Dom) (a0 : D.F) (a1 : D.F) (a2 : D.F) (a3 : D.Z) : joinT (evFnH Try.prog (tbl_22 D) (lt_0 D) 60 11 [.agg [.fl a0, .fl a1, .fl a2], .si .i64 a3] [] 0) = .val none (.fl (S11_0 D a0 a1 a2 a3)) := by kernel_rfl
def sp11 : Ev.Spec := fun D l => argA l fun c0 r0 => argF c0 fun a0 r1 => argF r1 fun a1 r2 => argF r2 fun a2 r3 => arg0 r3 (argZ .i64 r0 fun a3 r100 => arg0 r100 (.ret (.fl (S11_0 D a0 a1 a2 a3))))
theorem en11 : ∀ l r, (sp11 R l).run = some r → Entry Try.prog 11 l r := by
  intro l r h
  obtain ⟨_, _, h, L0⟩ := argA_inv h
  obtain ⟨x1, _, h, L1⟩ := argF_inv h
  obtain ⟨x2, _, h, L2⟩ := argF_inv h
  obtain ⟨x3, _, h, L3⟩ := argF_inv h
  obtain ⟨h, L4⟩ := arg0_inv h
  obtain ⟨x5, _, h, L5⟩ := argZ_inv h
  obtain ⟨h, L6⟩ := arg0_inv h
  cases h
  exact (entry_loops prg tok_22 hok_0 (ev11 R x1 x2 x3 x5) (fun o ho => nomatch ho) rfl).le (L0 _ _ (L1 _ (L2 _ (L3 _ L4))) (L5 _ L6))
def tl_11 : List (Nat × Ev.Spec) := (11, sp11) :: tl_22
def tbl_11 (D : Dom) : Tbl D := tblOf tl_11 D
theorem tok_11 : TblOK Try.prog (tbl_11 R) := TblOK.cons tok_22 en11

-- penumbra/penumbraref06.Clean
def S17_0 (D : Dom) (a0 : D.F) : D.F := (D.fite (D.bite (D.bite (D.flt a0 (D.fc 0)) (D.bc true) (D.fge a0 (D.fc 4607182418800017408))) (D.bc true) (D.bnot (D.feq a0 a0))) (D.fc 0) a0)
theorem ev17 (D : Dom) (a0 : D.F) : joinT (evFnH Try.prog (tbl_11 D) (lt_0 D) 60 17 [.fl a0] [] 0) = .val none (.fl (S17_0 D a0)) := by kernel_rfl
def sp17 : Ev.Spec := fun D l => argF l fun a0 r0 => arg0 r0 (.ret (.fl (S17_0 D a0)))
theorem en17 : ∀ l r, (sp17 R l).run = some r → Entry Try.prog 17 l r := by
  intro l r h
  obtain ⟨x0, _, h, L0⟩ := argF_inv h
  obtain ⟨h, L1⟩ := arg0_inv h
  cases h
  exact (entry_loops prg tok_11 hok_0 (ev17 R x0) (fun o ho => nomatch ho) rfl).le (L0 _ L1)
def tl_17 : List (Nat × Ev.Spec) := (17, sp17) :: tl_11
def tbl_17 (D : Dom) : Tbl D := tblOf tl_17 D
theorem tok_17 : TblOK Try.prog (tbl_17 R) := TblOK.cons tok_11 en17

-- penumbra/penumbraref05.Scale
def S13_0 (D : Dom) (a0 : D.F) (a3 : D.F) : D.F := (D.fmul a0 a3)
def S13_1 (D : Dom) (a1 : D.F) (a3 : D.F) : D.F := (D.fmul a1 a3)
def S13_2 (D : Dom) (a2 : D.F) (a3 : D.F) : D.F := (D.fmul a2 a3)
theorem ev13 (D : Dom) (a0 : D.F) (a1 : D.F) (a2 : D.F) (a3 : D.F) : joinT (evFnH Try.prog (tbl_17 D) (lt_0 D) 60 13 [.agg [.fl a0, .fl a1, .fl a2], .fl a3] [] 0) = .val none (.agg [.fl (S13_0 D a0 a3), .fl (S13_1 D a1 a3), .fl (S13_2 D a2 a3)]) := by kernel_rfl
def sp13 : Ev.Spec := fun D l => argA l fun c0 r0 => argF c0 fun a0 r1 => argF r1 fun a1 r2 => argF r2 fun a2 r3 => arg0 r3 (argF r0 fun a3 r100 => arg0 r100 (.ret (.agg [.fl (S13_0 D a0 a3), .fl (S13_1 D a1 a3), .fl (S13_2 D a2 a3)])))
theorem en13 : ∀ l r, (sp13 R l).run = some r → Entry Try.prog 13 l r := by
  intro l r h
  obtain ⟨_, _, h, L0⟩ := argA_inv h
  obtain ⟨x1, _, h, L1⟩ := argF_inv h
  obtain ⟨x2, _, h, L2⟩ := argF_inv h
  obtain ⟨x3, _, h, L3⟩ := argF_inv h
  obtain ⟨h, L4⟩ := arg0_inv h
  obtain ⟨x5, _, h, L5⟩ := argF_inv h
  obtain ⟨h, L6⟩ := arg0_inv h
  cases h
  exact (entry_loops prg tok_17 hok_0 (ev13 R x1 x2 x3 x5) (fun o ho => nomatch ho) rfl).le (L0 _ _ (L1 _ (L2 _ (L3 _ L4))) (L5 _ L6))
def tl_13 : List (Nat × Ev.Spec) := (13, sp13) :: tl_17
def tbl_13 (D : Dom) : Tbl D := tblOf tl_13 D
theorem tok_13 : TblOK Try.prog (tbl_13 R) := TblOK.cons tok_17 en13

-- penumbra/penumbraref26.Play
def S7_0 (D : Dom) (a0 : D.F) (a1 : D.F) (a2 : D.F) (a3 : D.Z) (a4 : D.F) : D.F := (D.fite (D.fge (S17_0 D a4) (S11_0 D a0 a1 a2 a3)) (D.fc 0) (S13_0 D a0 (D.fdiv (D.fc 4607182418800017408) (S11_0 D a0 a1 a2 a3))))
def S7_1 (D : Dom) (a0 : D.F) (a1 : D.F) (a2 : D.F) (a3 : D.Z) (a4 : D.F) : D.F := (D.fite (D.fge (S17_0 D a4) (S11_0 D a0 a1 a2 a3)) (D.fc 0) (S13_1 D a1 (D.fdiv (D.fc 4607182418800017408) (S11_0 D a0 a1 a2 a3))))
def S7_2 (D : Dom) (a0 : D.F) (a1 : D.F) (a2 : D.F) (a3 : D.Z) (a4 : D.F) : D.F := (D.fite (D.fge (S17_0 D a4) (S11_0 D a0 a1 a2 a3)) (D.fc 0) (S13_2 D a2 (D.fdiv (D.fc 4607182418800017408) (S11_0 D a0 a1 a2 a3))))
def S7_3 (D : Dom) (a0 : D.F) (a1 : D.F) (a2 : D.F) (a3 : D.Z) (a4 : D.F) : D.B := (D.bite (D.fge (S17_0 D a4) (S11_0 D a0 a1 a2 a3)) (D.bc false) (D.bc true))
theorem ev7 (D : Dom) (a0 : D.F) (a1 : D.F) (a2 : D.F) (a3 : D.Z) (a4 : D.F) : joinT (evFnH Try.prog (tbl_13 D) (lt_0 D) 60 7 [.agg [.fl a0, .fl a1, .fl a2], .si .i64 a3, .fl a4] [] 0) = .val none (.tup [.agg [.fl (S7_0 D a0 a1 a2 a3 a4), .fl (S7_1 D a0 a1 a2 a3 a4), .fl (S7_2 D a0 a1 a2 a3 a4)], .sb (S7_3 D a0 a1 a2 a3 a4)]) := by kernel_rfl
def sp7 : Ev.Spec := fun D l => argA l fun c0 r0 => argF c0 fun a0 r1 => argF r1 fun a1 r2 => argF r2 fun a2 r3 => arg0 r3 (argZ .i64 r0 fun a3 r100 => argF r100 fun a4 r101 => arg0 r101 (.ret (.tup [.agg [.fl (S7_0 D a0 a1 a2 a3 a4), .fl (S7_1 D a0 a1 a2 a3 a4), .fl (S7_2 D a0 a1 a2 a3 a4)], .sb (S7_3 D a0 a1 a2 a3 a4)])))
theorem en7 : ∀ l r, (sp7 R l).run = some r → Entry Try.prog 7 l r := by
  intro l r h
  obtain ⟨_, _, h, L0⟩ := argA_inv h
  obtain ⟨x1, _, h, L1⟩ := argF_inv h
  obtain ⟨x2, _, h, L2⟩ := argF_inv h
  obtain ⟨x3, _, h, L3⟩ := argF_inv h
  obtain ⟨h, L4⟩ := arg0_inv h
  obtain ⟨x5, _, h, L5⟩ := argZ_inv h
  obtain ⟨x6, _, h, L6⟩ := argF_inv h
  obtain ⟨h, L7⟩ := arg0_inv h
  cases h
  exact (entry_loops prg tok_13 hok_0 (ev7 R x1 x2 x3 x5 x6) (fun o ho => nomatch ho) rfl).le (L0 _ _ (L1 _ (L2 _ (L3 _ L4))) (L5 _ (L6 _ L7)))
def tl_7 : List (Nat × Ev.Spec) := (7, sp7) :: tl_13
def tbl_7 (D : Dom) : Tbl D := tblOf tl_7 D
theorem tok_7 : TblOK Try.prog (tbl_7 R) := TblOK.cons tok_13 en7

-- penumbra/rgb.Add$1
def S32_0 (D : Dom) (a0 : D.F) (a1 : D.F) : D.F := (D.fadd a0 a1)
theorem ev32 (D : Dom) (a0 : D.F) (a1 : D.F) : joinT (evFnH Try.prog (tbl_7 D) (lt_0 D) 60 32 [.fl a0, .fl a1] [] 0) = .val none (.fl (S32_0 D a0 a1)) := by kernel_rfl
def sp32 : Ev.Spec := fun D l => argF l fun a0 r0 => argF r0 fun a1 r1 => arg0 r1 (.ret (.fl (S32_0 D a0 a1)))
theorem en32 : ∀ l r, (sp32 R l).run = some r → Entry Try.prog 32 l r := by
  intro l r h
  obtain ⟨x0, _, h, L0⟩ := argF_inv h
  obtain ⟨x1, _, h, L1⟩ := argF_inv h
  obtain ⟨h, L2⟩ := arg0_inv h
  cases h
  exact (entry_loops prg tok_7 hok_0 (ev32 R x0 x1) (fun o ho => nomatch ho) rfl).le (L0 _ (L1 _ L2))
def tl_32 : List (Nat × Ev.Spec) := (32, sp32) :: tl_7
def tbl_32 (D : Dom) : Tbl D := tblOf tl_32 D
theorem tok_32 : TblOK Try.prog (tbl_32 R) := TblOK.cons tok_7 en32

-- penumbra/rgb.Add
def S23_0 (D : Dom) (a0 : D.F) (a3 : D.F) : D.F := (S32_0 D a0 a3)
def S23_1 (D : Dom) (a1 : D.F) (a4 : D.F) : D.F := (S32_0 D a1 a4)
def S23_2 (D : Dom) (a2 : D.F) (a5 : D.F) : D.F := (S32_0 D a2 a5)
theorem ev23 (D : Dom) (a0 : D.F) (a1 : D.F) (a2 : D.F) (a3 : D.F) (a4 : D.F) (a5 : D.F) : joinT (evFnH Try.prog (tbl_32 D) (lt_0 D) 60 23 [.agg [.fl a0, .fl a1, .fl a2], .agg [.fl a3, .fl a4, .fl a5]] [] 0) = .val none (.agg [.fl (S23_0 D a0 a3), .fl (S23_1 D a1 a4), .fl (S23_2 D a2 a5)]) := by kernel_rfl
def sp23 : Ev.Spec := fun D l => argA l fun c0 r0 => argF c0 fun a0 r1 => argF r1 fun a1 r2 => argF r2 fun a2 r3 => arg0 r3 (argA r0 fun c100 r100 => argF c100 fun a3 r101 => argF r101 fun a4 r102 => argF r102 fun a5 r103 => arg0 r103 (arg0 r100 (.ret (.agg [.fl (S23_0 D a0 a3), .fl (S23_1 D a1 a4), .fl (S23_2 D a2 a5)]))))
theorem en23 : ∀ l r, (sp23 R l).run = some r → Entry Try.prog 23 l r := by
  intro l r h
  obtain ⟨_, _, h, L0⟩ := argA_inv h
  obtain ⟨x1, _, h, L1⟩ := argF_inv h
  obtain ⟨x2, _, h, L2⟩ := argF_inv h
  obtain ⟨x3, _, h, L3⟩ := argF_inv h
  obtain ⟨h, L4⟩ := arg0_inv h
  obtain ⟨_, _, h, L5⟩ := argA_inv h
  obtain ⟨x6, _, h, L6⟩ := argF_inv h
  obtain ⟨x7, _, h, L7⟩ := argF_inv h
  obtain ⟨x8, _, h, L8⟩ := argF_inv h
  obtain ⟨h, L9⟩ := arg0_inv h
  obtain ⟨h, L10⟩ := arg0_inv h
  cases h
  exact (entry_loops prg tok_32 hok_0 (ev23 R x1 x2 x3 x6 x7 x8) (fun o ho => nomatch ho) rfl).le (L0 _ _ (L1 _ (L2 _ (L3 _ L4))) (L5 _ _ (L6 _ (L7 _ (L8 _ L9))) L10))
def tl_23 : List (Nat × Ev.Spec) := (23, sp23) :: tl_32
def tbl_23 (D : Dom) : Tbl D := tblOf tl_23 D
theorem tok_23 : TblOK Try.prog (tbl_23 R) := TblOK.cons tok_32 en23

-- loop 0
def C0 (D : Dom) (a1 : D.Z) (a6 : D.Z) : D.B := (D.zlt a6 a1)
def O0_ (D : Dom)  : D.B := (D.bc true)
def N0_0 (D : Dom) (a6 : D.Z) : D.Z := (D.zadd .i64 a6 (D.zc 1))
def N0_1 (D : Dom) (a0 : D.Z) (a2 : D.F) (a3 : D.F) (a6 : D.Z) (a7 : D.F) : D.F := (S23_0 D a7 (D.fite (D.flt (S26_0 D (D.fdiv (D.i2f a6) (D.i2f a0))) a2) (S24_0 D a3 (D.fdiv (D.fc 4607182418800017408) a2)) (D.fc 0)))
def N0_2 (D : Dom) (a0 : D.Z) (a2 : D.F) (a4 : D.F) (a6 : D.Z) (a8 : D.F) : D.F := (S23_1 D a8 (D.fite (D.flt (S26_0 D (D.fdiv (D.i2f a6) (D.i2f a0))) a2) (S24_1 D a4 (D.fdiv (D.fc 4607182418800017408) a2)) (D.fc 0)))
def N0_3 (D : Dom) (a0 : D.Z) (a2 : D.F) (a5 : D.F) (a6 : D.Z) (a9 : D.F) : D.F := (S23_2 D a9 (D.fite (D.flt (S26_0 D (D.fdiv (D.i2f a6) (D.i2f a0))) a2) (S24_2 D a5 (D.fdiv (D.fc 4607182418800017408) a2)) (D.fc 0)))
def G0 (D : Dom) (a0 : D.Z) (a1 : D.Z) (a2 : D.F) (a3 : D.F) (a4 : D.F) (a5 : D.F) (p : List (PD D)) : D.B × D.B × List (PD D) := (C0 D a1 (nthZ p 0), O0_ D, [.z (N0_0 D (nthZ p 0)), .f (N0_1 D a0 a2 a3 (nthZ p 0) (nthF p 1)), .f (N0_2 D a0 a2 a4 (nthZ p 0) (nthF p 2)), .f (N0_3 D a0 a2 a5 (nthZ p 0) (nthF p 3))])
def L0 (D : Dom) (a0 : D.Z) (a1 : D.Z) (a2 : D.F) (a3 : D.F) (a4 : D.F) (a5 : D.F) (a6 : D.Z) (a7 : D.F) (a8 : D.F) (a9 : D.F) : List (PD D) := D.last (G0 D a0 a1 a2 a3 a4 a5) [.z a6, .f a7, .f a8, .f a9]
def E0 (D : Dom) (a0 : D.Z) (a1 : D.Z) (a2 : D.F) (a3 : D.F) (a4 : D.F) (a5 : D.F) (a6 : D.Z) (a7 : D.F) (a8 : D.F) (a9 : D.F) : D.B := D.ends (G0 D a0 a1 a2 a3 a4 a5) [.z a6, .f a7, .f a8, .f a9]
def sh_0 : HSh := ⟨5, 7, [.ctx, .ctx, .env (.si .i64 ()), .ctx, .env (.undef), .env (.undef), .ctx, .env (.clo 25 [] [.ptr 3 0, .ptr 2 0]), .env (.ptr 4 0), .drop, .drop, .drop, .ctx, .ctx, .ctx, .env (.any), .env (.any), .ctx, .env (.undef), .ctx, .ctx, .ctx, .env (.si .i64 ()), .var (.si .i64 ()), .drop, .drop, .drop, .drop, .drop, .drop, .drop, .drop, .drop, .drop, .drop, .drop, .drop, .drop, .drop, .drop, .env (.undef), .env (.undef), .env (.undef), .env (.undef), .env (.undef)], [(4, .cells [.var (.fl ()), .var (.fl ()), .var (.fl ())])], [(3, [.fl ()]), (2, [.fl (), .fl (), .fl ()])], []⟩
def st_0 (D : Dom) (env p : List (PD D)) : D.B × D.B × List (PD D) := G0 D (nthZ env 0) (nthZ env 1) (nthF env 2) (nthF env 3) (nthF env 4) (nthF env 5) p
theorem rd_0 (D : Dom) (env vars : List (PD D)) (ctx : List (AV D)) : (sh_0.round (sh_0.st env vars ctx).h.length (evCodeH Try.prog (tbl_23 D) (lt_0 D) 60 14 (loopB Try.prog 14 0) (sh_0.st env vars ctx))).map Nr.step = some (st_0 D env vars) := by kernel_rfl
def ll_1 (D : Dom) : List (LE D) := ⟨14, 0, sh_0, st_0 D⟩ :: ll_0 D
def lt_1 (D : Dom) : LTb D := ltOf (ll_1 D)
theorem hok_1 : HooksOK Try.prog (lt_1 R) := HooksOK.cons prg tok_23 hok_0 (by kernel_rfl) (by kernel_rfl) (rd_0 R)

-- penumbra/roulette.Mean
def S14_0 (D : Dom) (a0 : D.F) (a1 : D.F) (a2 : D.F) (a3 : D.Z) (a4 : D.Z) : D.F := (D.fite (D.bite (D.zlt a4 (D.zc 1)) (D.bc true) (D.zlt (D.zc 4096) a4)) (D.fc 0) (S24_0 D (nthF (L0 D a4 a4 (S8_0 D a0 a1 a2 a3) a0 a1 a2 (D.zc 0) (D.fc 0) (D.fc 0) (D.fc 0)) 1) (D.fdiv (D.fc 4607182418800017408) (D.i2f a4))))
def S14_1 (D : Dom) (a0 : D.F) (a1 : D.F) (a2 : D.F) (a3 : D.Z) (a4 : D.Z) : D.F := (D.fite (D.bite (D.zlt a4 (D.zc 1)) (D.bc true) (D.zlt (D.zc 4096) a4)) (D.fc 0) (S24_1 D (nthF (L0 D a4 a4 (S8_0 D a0 a1 a2 a3) a0 a1 a2 (D.zc 0) (D.fc 0) (D.fc 0) (D.fc 0)) 2) (D.fdiv (D.fc 4607182418800017408) (D.i2f a4))))
def S14_2 (D : Dom) (a0 : D.F) (a1 : D.F) (a2 : D.F) (a3 : D.Z) (a4 : D.Z) : D.F := (D.fite (D.bite (D.zlt a4 (D.zc 1)) (D.bc true) (D.zlt (D.zc 4096) a4)) (D.fc 0) (S24_2 D (nthF (L0 D a4 a4 (S8_0 D a0 a1 a2 a3) a0 a1 a2 (D.zc 0) (D.fc 0) (D.fc 0) (D.fc 0)) 3) (D.fdiv (D.fc 4607182418800017408) (D.i2f a4))))
def O14 (D : Dom) (a0 : D.F) (a1 : D.F) (a2 : D.F) (a3 : D.Z) (a4 : D.Z) : D.B := (D.bite (D.bite (D.zlt a4 (D.zc 1)) (D.bc true) (D.zlt (D.zc 4096) a4)) (D.bc true) (D.band (E0 D a4 a4 (S8_0 D a0 a1 a2 a3) a0 a1 a2 (D.zc 0) (D.fc 0) (D.fc 0) (D.fc 0)) (D.bnot (D.zlt (nthZ (L0 D a4 a4 (S8_0 D a0 a1 a2 a3) a0 a1 a2 (D.zc 0) (D.fc 0) (D.fc 0) (D.fc 0)) 0) a4))))
theorem ev14 (D : Dom) (a0 : D.F) (a1 : D.F) (a2 : D.F) (a3 : D.Z) (a4 : D.Z) : joinT (evFnH Try.prog (tbl_23 D) (lt_1 D) 60 14 [.agg [.fl a0, .fl a1, .fl a2], .si .i64 a3, .si .i64 a4] [] 0) = .val (some (O14 D a0 a1 a2 a3 a4)) (.agg [.fl (S14_0 D a0 a1 a2 a3 a4), .fl (S14_1 D a0 a1 a2 a3 a4), .fl (S14_2 D a0 a1 a2 a3 a4)]) := by kernel_rfl
def sp14 : Ev.Spec := fun D l => argA l fun c0 r0 => argF c0 fun a0 r1 => argF r1 fun a1 r2 => argF r2 fun a2 r3 => arg0 r3 (argZ .i64 r0 fun a3 r100 => argZ .i64 r100 fun a4 r101 => arg0 r101 (.node (O14 D a0 a1 a2 a3 a4) (.ret (.agg [.fl (S14_0 D a0 a1 a2 a3 a4), .fl (S14_1 D a0 a1 a2 a3 a4), .fl (S14_2 D a0 a1 a2 a3 a4)])) (.fail "pre")))
theorem en14 : ∀ l r, (sp14 R l).run = some r → Entry Try.prog 14 l r := by
  intro l r h
  obtain ⟨_, _, h, L0⟩ := argA_inv h
  obtain ⟨x1, _, h, L1⟩ := argF_inv h
  obtain ⟨x2, _, h, L2⟩ := argF_inv h
  obtain ⟨x3, _, h, L3⟩ := argF_inv h
  obtain ⟨h, L4⟩ := arg0_inv h
  obtain ⟨x5, _, h, L5⟩ := argZ_inv h
  obtain ⟨x6, _, h, L6⟩ := argZ_inv h
  obtain ⟨h, L7⟩ := arg0_inv h
  obtain ⟨hok, rfl⟩ := run_okay h
  exact (entry_loops prg tok_23 hok_1 (ev14 R x1 x2 x3 x5 x6) (fun o ho => (Option.some.inj ho) ▸ hok) rfl).le (L0 _ _ (L1 _ (L2 _ (L3 _ L4))) (L5 _ (L6 _ L7)))
def tl_14 : List (Nat × Ev.Spec) := (14, sp14) :: tl_23
def tbl_14 (D : Dom) : Tbl D := tblOf tl_14 D
theorem tok_14 : TblOK Try.prog (tbl_14 R) := TblOK.cons tok_23 en14

-- penumbra/penumbralaw26.awake
theorem ev9 : isTrueRun (evFn Try.prog (tbl_0 R) 400 9 []).run = true := by kernel_rfl
def sp9 : Ev.Spec := fun _ l => arg0 l (.ret (.kb true))
theorem en9 : ∀ l r, (sp9 R l).run = some r → Entry Try.prog 9 l r := by
  intro l r h
  obtain ⟨h, L0⟩ := arg0_inv h
  cases h
  exact (entry_true prg tok_0 ev9).le L0
def tl_9 : List (Nat × Ev.Spec) := (9, sp9) :: tl_14
def tbl_9 (D : Dom) : Tbl D := tblOf tl_9 D
theorem tok_9 : TblOK Try.prog (tbl_9 R) := TblOK.cons tok_14 en9

-- penumbra/penumbraref02.Same
def S20_0 (D : Dom) (a0 : D.F) (a1 : D.F) : D.B := (D.bite (D.feq a0 a1) (D.bc true) (D.bite (D.bnot (D.feq a0 a0)) (D.bnot (D.feq a1 a1)) (D.bc false)))
theorem ev20 (D : Dom) (a0 : D.F) (a1 : D.F) : joinT (evFnH Try.prog (tbl_9 D) (lt_1 D) 60 20 [.fl a0, .fl a1] [] 0) = .val none (.sb (S20_0 D a0 a1)) := by kernel_rfl
def sp20 : Ev.Spec := fun D l => argF l fun a0 r0 => argF r0 fun a1 r1 => arg0 r1 (.ret (.sb (S20_0 D a0 a1)))
theorem en20 : ∀ l r, (sp20 R l).run = some r → Entry Try.prog 20 l r := by
  intro l r h
  obtain ⟨x0, _, h, L0⟩ := argF_inv h
  obtain ⟨x1, _, h, L1⟩ := argF_inv h
  obtain ⟨h, L2⟩ := arg0_inv h
  cases h
  exact (entry_loops prg tok_9 hok_1 (ev20 R x0 x1) (fun o ho => nomatch ho) rfl).le (L0 _ (L1 _ L2))
def tl_20 : List (Nat × Ev.Spec) := (20, sp20) :: tl_9
def tbl_20 (D : Dom) : Tbl D := tblOf tl_20 D
theorem tok_20 : TblOK Try.prog (tbl_20 R) := TblOK.cons tok_9 en20

-- penumbra/penumbraref05.Is
def S10_0 (D : Dom) (a0 : D.F) (a1 : D.F) (a2 : D.F) (a3 : D.F) (a4 : D.F) (a5 : D.F) : D.B := (D.bite (D.bite (S20_0 D a0 a3) (S20_0 D a1 a4) (D.bc false)) (S20_0 D a2 a5) (D.bc false))
theorem ev10 (D : Dom) (a0 : D.F) (a1 : D.F) (a2 : D.F) (a3 : D.F) (a4 : D.F) (a5 : D.F) : joinT (evFnH Try.prog (tbl_20 D) (lt_1 D) 60 10 [.agg [.fl a0, .fl a1, .fl a2], .agg [.fl a3, .fl a4, .fl a5]] [] 0) = .val none (.sb (S10_0 D a0 a1 a2 a3 a4 a5)) := by kernel_rfl
def sp10 : Ev.Spec := fun D l => argA l fun c0 r0 => argF c0 fun a0 r1 => argF r1 fun a1 r2 => argF r2 fun a2 r3 => arg0 r3 (argA r0 fun c100 r100 => argF c100 fun a3 r101 => argF r101 fun a4 r102 => argF r102 fun a5 r103 => arg0 r103 (arg0 r100 (.ret (.sb (S10_0 D a0 a1 a2 a3 a4 a5)))))
theorem en10 : ∀ l r, (sp10 R l).run = some r → Entry Try.prog 10 l r := by
  intro l r h
  obtain ⟨_, _, h, L0⟩ := argA_inv h
  obtain ⟨x1, _, h, L1⟩ := argF_inv h
  obtain ⟨x2, _, h, L2⟩ := argF_inv h
  obtain ⟨x3, _, h, L3⟩ := argF_inv h
  obtain ⟨h, L4⟩ := arg0_inv h
  obtain ⟨_, _, h, L5⟩ := argA_inv h
  obtain ⟨x6, _, h, L6⟩ := argF_inv h
  obtain ⟨x7, _, h, L7⟩ := argF_inv h
  obtain ⟨x8, _, h, L8⟩ := argF_inv h
  obtain ⟨h, L9⟩ := arg0_inv h
  obtain ⟨h, L10⟩ := arg0_inv h
  cases h
  exact (entry_loops prg tok_20 hok_1 (ev10 R x1 x2 x3 x6 x7 x8) (fun o ho => nomatch ho) rfl).le (L0 _ _ (L1 _ (L2 _ (L3 _ L4))) (L5 _ _ (L6 _ (L7 _ (L8 _ L9))) L10))
def tl_10 : List (Nat × Ev.Spec) := (10, sp10) :: tl_20
def tbl_10 (D : Dom) : Tbl D := tblOf tl_10 D
theorem tok_10 : TblOK Try.prog (tbl_10 R) := TblOK.cons tok_20 en10

-- penumbra/penumbralaw26.RoulettePlays
def S3_0 (D : Dom) (a0 : D.F) (a1 : D.F) (a2 : D.F) (a3 : D.Z) (a4 : D.F) : D.B := (D.bite (D.bite (D.bite (D.bite (S10_0 D (S6_0 D a0 a1 a2 a3 a4) (S6_1 D a0 a1 a2 a3 a4) (S6_2 D a0 a1 a2 a3 a4) (S7_0 D a0 a1 a2 a3 a4) (S7_1 D a0 a1 a2 a3 a4) (S7_2 D a0 a1 a2 a3 a4)) (D.beq (S6_3 D a0 a1 a2 a3 a4) (S7_3 D a0 a1 a2 a3 a4)) (D.bc false)) (D.feq (S8_0 D a0 a1 a2 a3) (S11_0 D a0 a1 a2 a3)) (D.bc false)) (D.fge (S8_0 D a0 a1 a2 a3) (D.fc 4589168020290535424)) (D.bc false)) (D.fle (S8_0 D a0 a1 a2 a3) (D.fc 4607182418800017408)) (D.bc false))
theorem ev3 (D : Dom) (a0 : D.F) (a1 : D.F) (a2 : D.F) (a3 : D.Z) (a4 : D.F) : joinT (evFnH Try.prog (tbl_10 D) (lt_1 D) 60 3 [.agg [.fl a0, .fl a1, .fl a2], .si .i64 a3, .fl a4] [] 0) = .val none (.sb (S3_0 D a0 a1 a2 a3 a4)) := by kernel_rfl
def sp3 : Ev.Spec := fun D l => argA l fun c0 r0 => argF c0 fun a0 r1 => argF r1 fun a1 r2 => argF r2 fun a2 r3 => arg0 r3 (argZ .i64 r0 fun a3 r100 => argF r100 fun a4 r101 => arg0 r101 (.ret (.sb (S3_0 D a0 a1 a2 a3 a4))))
theorem en3 : ∀ l r, (sp3 R l).run = some r → Entry Try.prog 3 l r := by
  intro l r h
  obtain ⟨_, _, h, L0⟩ := argA_inv h
  obtain ⟨x1, _, h, L1⟩ := argF_inv h
  obtain ⟨x2, _, h, L2⟩ := argF_inv h
  obtain ⟨x3, _, h, L3⟩ := argF_inv h
  obtain ⟨h, L4⟩ := arg0_inv h
  obtain ⟨x5, _, h, L5⟩ := argZ_inv h
  obtain ⟨x6, _, h, L6⟩ := argF_inv h
  obtain ⟨h, L7⟩ := arg0_inv h
  cases h
  exact (entry_loops prg tok_10 hok_1 (ev3 R x1 x2 x3 x5 x6) (fun o ho => nomatch ho) rfl).le (L0 _ _ (L1 _ (L2 _ (L3 _ L4))) (L5 _ (L6 _ L7)))
def tl_3 : List (Nat × Ev.Spec) := (3, sp3) :: tl_10
def tbl_3 (D : Dom) : Tbl D := tblOf tl_3 D
theorem tok_3 : TblOK Try.prog (tbl_3 R) := TblOK.cons tok_10 en3

-- penumbra/penumbraref05.Add
def S12_0 (D : Dom) (a0 : D.F) (a3 : D.F) : D.F := (D.fadd a0 a3)
def S12_1 (D : Dom) (a1 : D.F) (a4 : D.F) : D.F := (D.fadd a1 a4)
def S12_2 (D : Dom) (a2 : D.F) (a5 : D.F) : D.F := (D.fadd a2 a5)
theorem ev12 (D : Dom) (a0 : D.F) (a1 : D.F) (a2 : D.F) (a3 : D.F) (a4 : D.F) (a5 : D.F) : joinT (evFnH Try.prog (tbl_3 D) (lt_1 D) 60 12 [.agg [.fl a0, .fl a1, .fl a2], .agg [.fl a3, .fl a4, .fl a5]] [] 0) = .val none (.agg [.fl (S12_0 D a0 a3), .fl (S12_1 D a1 a4), .fl (S12_2 D a2 a5)]) := by kernel_rfl
def sp12 : Ev.Spec := fun D l => argA l fun c0 r0 => argF c0 fun a0 r1 => argF r1 fun a1 r2 => argF r2 fun a2 r3 => arg0 r3 (argA r0 fun c100 r100 => argF c100 fun a3 r101 => argF r101 fun a4 r102 => argF r102 fun a5 r103 => arg0 r103 (arg0 r100 (.ret (.agg [.fl (S12_0 D a0 a3), .fl (S12_1 D a1 a4), .fl (S12_2 D a2 a5)]))))
theorem en12 : ∀ l r, (sp12 R l).run = some r → Entry Try.prog 12 l r := by
  intro l r h
  obtain ⟨_, _, h, L0⟩ := argA_inv h
  obtain ⟨x1, _, h, L1⟩ := argF_inv h
  obtain ⟨x2, _, h, L2⟩ := argF_inv h
  obtain ⟨x3, _, h, L3⟩ := argF_inv h
  obtain ⟨h, L4⟩ := arg0_inv h
  obtain ⟨_, _, h, L5⟩ := argA_inv h
  obtain ⟨x6, _, h, L6⟩ := argF_inv h
  obtain ⟨x7, _, h, L7⟩ := argF_inv h
  obtain ⟨x8, _, h, L8⟩ := argF_inv h
  obtain ⟨h, L9⟩ := arg0_inv h
  obtain ⟨h, L10⟩ := arg0_inv h
  cases h
  exact (entry_loops prg tok_3 hok_1 (ev12 R x1 x2 x3 x6 x7 x8) (fun o ho => nomatch ho) rfl).le (L0 _ _ (L1 _ (L2 _ (L3 _ L4))) (L5 _ _ (L6 _ (L7 _ (L8 _ L9))) L10))
def tl_12 : List (Nat × Ev.Spec) := (12, sp12) :: tl_3
def tbl_12 (D : Dom) : Tbl D := tblOf tl_12 D
theorem tok_12 : TblOK Try.prog (tbl_12 R) := TblOK.cons tok_3 en12

-- loop 1
def C1 (D : Dom) (a1 : D.Z) (a5 : D.Z) : D.B := (D.zlt a5 a1)
def O1_ (D : Dom)  : D.B := (D.bc true)
def N1_0 (D : Dom) (a5 : D.Z) : D.Z := (D.zadd .i64 a5 (D.zc 1))
def N1_1 (D : Dom) (a0 : D.Z) (a1 : D.Z) (a2 : D.F) (a3 : D.F) (a4 : D.F) (a5 : D.Z) (a6 : D.F) : D.F := (S12_0 D a6 (S7_0 D a2 a3 a4 a0 (D.fdiv (D.i2f a5) (D.i2f a1))))
def N1_2 (D : Dom) (a0 : D.Z) (a1 : D.Z) (a2 : D.F) (a3 : D.F) (a4 : D.F) (a5 : D.Z) (a7 : D.F) : D.F := (S12_1 D a7 (S7_1 D a2 a3 a4 a0 (D.fdiv (D.i2f a5) (D.i2f a1))))
def N1_3 (D : Dom) (a0 : D.Z) (a1 : D.Z) (a2 : D.F) (a3 : D.F) (a4 : D.F) (a5 : D.Z) (a8 : D.F) : D.F := (S12_2 D a8 (S7_2 D a2 a3 a4 a0 (D.fdiv (D.i2f a5) (D.i2f a1))))
def G1 (D : Dom) (a0 : D.Z) (a1 : D.Z) (a2 : D.F) (a3 : D.F) (a4 : D.F) (p : List (PD D)) : D.B × D.B × List (PD D) := (C1 D a1 (nthZ p 0), O1_ D, [.z (N1_0 D (nthZ p 0)), .f (N1_1 D a0 a1 a2 a3 a4 (nthZ p 0) (nthF p 1)), .f (N1_2 D a0 a1 a2 a3 a4 (nthZ p 0) (nthF p 2)), .f (N1_3 D a0 a1 a2 a3 a4 (nthZ p 0) (nthF p 3))])
def L1 (D : Dom) (a0 : D.Z) (a1 : D.Z) (a2 : D.F) (a3 : D.F) (a4 : D.F) (a5 : D.Z) (a6 : D.F) (a7 : D.F) (a8 : D.F) : List (PD D) := D.last (G1 D a0 a1 a2 a3 a4) [.z a5, .f a6, .f a7, .f a8]
def E1 (D : Dom) (a0 : D.Z) (a1 : D.Z) (a2 : D.F) (a3 : D.F) (a4 : D.F) (a5 : D.Z) (a6 : D.F) (a7 : D.F) (a8 : D.F) : D.B := D.ends (G1 D a0 a1 a2 a3 a4) [.z a5, .f a6, .f a7, .f a8]
def sh_1 : HSh := ⟨2, 3, [.ctx, .env (.si .i64 ()), .ctx, .env (.ptr 0 0), .env (.undef), .env (.undef), .env (.kb false), .env (.si .i64 ()), .env (.ptr 1 0), .var (.si .i64 ()), .drop, .drop, .env (.undef), .ctx, .ctx, .ctx, .drop, .drop, .drop, .drop, .drop, .drop, .drop, .drop, .drop, .drop, .drop, .drop, .drop, .drop, .drop, .drop, .drop, .drop, .drop, .env (.undef), .env (.undef), .env (.undef), .env (.undef), .env (.undef), .env (.undef), .env (.undef), .env (.undef), .env (.undef), .env (.undef), .env (.undef), .env (.undef), .env (.undef), .env (.undef), .env (.undef), .env (.undef), .env (.undef), .env (.undef), .env (.undef), .env (.undef), .env (.undef), .env (.undef), .env (.undef), .env (.undef), .env (.undef), .env (.undef), .env (.undef), .env (.undef), .env (.undef), .env (.undef), .env (.undef), .env (.undef), .env (.undef), .env (.undef), .env (.undef)], [(1, .cells [.var (.fl ()), .var (.fl ()), .var (.fl ())])], [(0, [.fl (), .fl (), .fl ()])], []⟩
def st_1 (D : Dom) (env p : List (PD D)) : D.B × D.B × List (PD D) := G1 D (nthZ env 0) (nthZ env 1) (nthF env 2) (nthF env 3) (nthF env 4) p
theorem rd_1 (D : Dom) (env vars : List (PD D)) (ctx : List (AV D)) : (sh_1.round (sh_1.st env vars ctx).h.length (evCodeH Try.prog (tbl_12 D) (lt_1 D) 60 4 (loopB Try.prog 4 0) (sh_1.st env vars ctx))).map Nr.step = some (st_1 D env vars) := by kernel_rfl
def ll_2 (D : Dom) : List (LE D) := ⟨4, 0, sh_1, st_1 D⟩ :: ll_1 D
def lt_2 (D : Dom) : LTb D := ltOf (ll_2 D)
theorem hok_2 : HooksOK Try.prog (lt_2 R) := HooksOK.cons prg tok_12 hok_1 (by kernel_rfl) (by kernel_rfl) (rd_1 R)

-- penumbra/penumbralaw26.RouletteMeans
def S4_0 (D : Dom) (a0 : D.F) (a1 : D.F) (a2 : D.F) (a3 : D.Z) (a4 : D.Z) : D.B := (D.bite (S10_0 D (S14_0 D a0 a1 a2 a3 (D.zconv .i64 a4)) (S14_1 D a0 a1 a2 a3 (D.zconv .i64 a4)) (S14_2 D a0 a1 a2 a3 (D.zconv .i64 a4)) (D.fite (D.zlt (D.zc 0) (D.zconv .i64 a4)) (S13_0 D (nthF (L1 D a3 (D.zconv .i64 a4) a0 a1 a2 (D.zc 0) (D.fc 0) (D.fc 0) (D.fc 0)) 1) (D.fdiv (D.fc 4607182418800017408) (D.i2f (D.zconv .i64 a4)))) (D.fc 0)) (D.fite (D.zlt (D.zc 0) (D.zconv .i64 a4)) (S13_1 D (nthF (L1 D a3 (D.zconv .i64 a4) a0 a1 a2 (D.zc 0) (D.fc 0) (D.fc 0) (D.fc 0)) 2) (D.fdiv (D.fc 4607182418800017408) (D.i2f (D.zconv .i64 a4)))) (D.fc 0)) (D.fite (D.zlt (D.zc 0) (D.zconv .i64 a4)) (S13_2 D (nthF (L1 D a3 (D.zconv .i64 a4) a0 a1 a2 (D.zc 0) (D.fc 0) (D.fc 0) (D.fc 0)) 3) (D.fdiv (D.fc 4607182418800017408) (D.i2f (D.zconv .i64 a4)))) (D.fc 0))) (D.bite (D.band (D.feq (S14_0 D a0 a1 a2 a3 (D.zsub .i64 (D.zc (-1)) (D.zconv .i64 a4))) (D.fc 0)) (D.band (D.feq (S14_1 D a0 a1 a2 a3 (D.zsub .i64 (D.zc (-1)) (D.zconv .i64 a4))) (D.fc 0)) (D.band (D.feq (S14_2 D a0 a1 a2 a3 (D.zsub .i64 (D.zc (-1)) (D.zconv .i64 a4))) (D.fc 0)) (D.bc true)))) (D.band (D.feq (S14_0 D a0 a1 a2 a3 (D.zadd .i64 (D.zc 4097) (D.zconv .i64 a4))) (D.fc 0)) (D.band (D.feq (S14_1 D a0 a1 a2 a3 (D.zadd .i64 (D.zc 4097) (D.zconv .i64 a4))) (D.fc 0)) (D.band (D.feq (S14_2 D a0 a1 a2 a3 (D.zadd .i64 (D.zc 4097) (D.zconv .i64 a4))) (D.fc 0)) (D.bc true)))) (D.bc false)) (D.bc false))
def O4 (D : Dom) (a0 : D.F) (a1 : D.F) (a2 : D.F) (a3 : D.Z) (a4 : D.Z) : D.B := (D.band (D.band (E1 D a3 (D.zconv .i64 a4) a0 a1 a2 (D.zc 0) (D.fc 0) (D.fc 0) (D.fc 0)) (D.bnot (D.zlt (nthZ (L1 D a3 (D.zconv .i64 a4) a0 a1 a2 (D.zc 0) (D.fc 0) (D.fc 0) (D.fc 0)) 0) (D.zconv .i64 a4)))) (D.band (O14 D a0 a1 a2 a3 (D.zconv .i64 a4)) (D.bite (S10_0 D (S14_0 D a0 a1 a2 a3 (D.zconv .i64 a4)) (S14_1 D a0 a1 a2 a3 (D.zconv .i64 a4)) (S14_2 D a0 a1 a2 a3 (D.zconv .i64 a4)) (D.fite (D.zlt (D.zc 0) (D.zconv .i64 a4)) (S13_0 D (nthF (L1 D a3 (D.zconv .i64 a4) a0 a1 a2 (D.zc 0) (D.fc 0) (D.fc 0) (D.fc 0)) 1) (D.fdiv (D.fc 4607182418800017408) (D.i2f (D.zconv .i64 a4)))) (D.fc 0)) (D.fite (D.zlt (D.zc 0) (D.zconv .i64 a4)) (S13_1 D (nthF (L1 D a3 (D.zconv .i64 a4) a0 a1 a2 (D.zc 0) (D.fc 0) (D.fc 0) (D.fc 0)) 2) (D.fdiv (D.fc 4607182418800017408) (D.i2f (D.zconv .i64 a4)))) (D.fc 0)) (D.fite (D.zlt (D.zc 0) (D.zconv .i64 a4)) (S13_2 D (nthF (L1 D a3 (D.zconv .i64 a4) a0 a1 a2 (D.zc 0) (D.fc 0) (D.fc 0) (D.fc 0)) 3) (D.fdiv (D.fc 4607182418800017408) (D.i2f (D.zconv .i64 a4)))) (D.fc 0))) (D.band (O14 D a0 a1 a2 a3 (D.zsub .i64 (D.zc (-1)) (D.zconv .i64 a4))) (D.bite (D.band (D.feq (S14_0 D a0 a1 a2 a3 (D.zsub .i64 (D.zc (-1)) (D.zconv .i64 a4))) (D.fc 0)) (D.band (D.feq (S14_1 D a0 a1 a2 a3 (D.zsub .i64 (D.zc (-1)) (D.zconv .i64 a4))) (D.fc 0)) (D.band (D.feq (S14_2 D a0 a1 a2 a3 (D.zsub .i64 (D.zc (-1)) (D.zconv .i64 a4))) (D.fc 0)) (D.bc true)))) (O14 D a0 a1 a2 a3 (D.zadd .i64 (D.zc 4097) (D.zconv .i64 a4))) (D.bc true))) (D.bc true))))
theorem ev4 (D : Dom) (a0 : D.F) (a1 : D.F) (a2 : D.F) (a3 : D.Z) (a4 : D.Z) : joinT (evFnH Try.prog (tbl_12 D) (lt_2 D) 60 4 [.agg [.fl a0, .fl a1, .fl a2], .si .i64 a3, .si .u8 a4] [] 0) = .val (some (O4 D a0 a1 a2 a3 a4)) (.sb (S4_0 D a0 a1 a2 a3 a4)) := by kernel_rfl
def sp4 : Ev.Spec := fun D l => argA l fun c0 r0 => argF c0 fun a0 r1 => argF r1 fun a1 r2 => argF r2 fun a2 r3 => arg0 r3 (argZ .i64 r0 fun a3 r100 => argZ .u8 r100 fun a4 r101 => arg0 r101 (.node (O4 D a0 a1 a2 a3 a4) (.ret (.sb (S4_0 D a0 a1 a2 a3 a4))) (.fail "pre")))
theorem en4 : ∀ l r, (sp4 R l).run = some r → Entry Try.prog 4 l r := by
  intro l r h
  obtain ⟨_, _, h, L0⟩ := argA_inv h
  obtain ⟨x1, _, h, L1⟩ := argF_inv h
  obtain ⟨x2, _, h, L2⟩ := argF_inv h
  obtain ⟨x3, _, h, L3⟩ := argF_inv h
  obtain ⟨h, L4⟩ := arg0_inv h
  obtain ⟨x5, _, h, L5⟩ := argZ_inv h
  obtain ⟨x6, _, h, L6⟩ := argZ_inv h
  obtain ⟨h, L7⟩ := arg0_inv h
  obtain ⟨hok, rfl⟩ := run_okay h
  exact (entry_loops prg tok_12 hok_2 (ev4 R x1 x2 x3 x5 x6) (fun o ho => (Option.some.inj ho) ▸ hok) rfl).le (L0 _ _ (L1 _ (L2 _ (L3 _ L4))) (L5 _ (L6 _ L7)))
def tl_4 : List (Nat × Ev.Spec) := (4, sp4) :: tl_12
def tbl_4 (D : Dom) : Tbl D := tblOf tl_4 D
theorem tok_4 : TblOK Try.prog (tbl_4 R) := TblOK.cons tok_12 en4

-- penumbra/penumbralaw26.near
def S15_0 (D : Dom) (a0 : D.F) (a1 : D.F) : D.B := (D.bite (D.fle (D.fsub a0 a1) (D.fc 4472074429978902528)) (D.fge (D.fsub a0 a1) (D.fc 13695446466833678336)) (D.bc false))
theorem ev15 (D : Dom) (a0 : D.F) (a1 : D.F) : joinT (evFnH Try.prog (tbl_4 D) (lt_2 D) 60 15 [.fl a0, .fl a1] [] 0) = .val none (.sb (S15_0 D a0 a1)) := by kernel_rfl
def sp15 : Ev.Spec := fun D l => argF l fun a0 r0 => argF r0 fun a1 r1 => arg0 r1 (.ret (.sb (S15_0 D a0 a1)))
theorem en15 : ∀ l r, (sp15 R l).run = some r → Entry Try.prog 15 l r := by
  intro l r h
  obtain ⟨x0, _, h, L0⟩ := argF_inv h
  obtain ⟨x1, _, h, L1⟩ := argF_inv h
  obtain ⟨h, L2⟩ := arg0_inv h
  cases h
  exact (entry_loops prg tok_4 hok_2 (ev15 R x0 x1) (fun o ho => nomatch ho) rfl).le (L0 _ (L1 _ L2))
def tl_15 : List (Nat × Ev.Spec) := (15, sp15) :: tl_4
def tbl_15 (D : Dom) : Tbl D := tblOf tl_15 D
theorem tok_15 : TblOK Try.prog (tbl_15 R) := TblOK.cons tok_4 en15

-- penumbra/penumbralaw26.RouletteEven
def S5_0 (D : Dom) (a0 : D.Z) (a1 : D.Z) (a2 : D.Z) (a3 : D.Z) : D.B := (D.bite (D.bite (S15_0 D (S14_0 D (D.fdiv (D.i2f (D.zadd .i64 (D.zrem .i64 (D.zconv .i64 a0) (D.zc 61)) (D.zc 4))) (D.fc 4634204016564240384)) (D.fdiv (D.i2f (D.zrem .i64 (D.zconv .i64 a1) (D.zadd .i64 (D.zrem .i64 (D.zconv .i64 a0) (D.zc 61)) (D.zc 4)))) (D.fc 4634204016564240384)) (D.fdiv (D.i2f (D.zrem .i64 (D.zconv .i64 a2) (D.zadd .i64 (D.zrem .i64 (D.zconv .i64 a0) (D.zc 61)) (D.zc 4)))) (D.fc 4634204016564240384)) a3 (D.zc 64)) (D.fdiv (D.i2f (D.zadd .i64 (D.zrem .i64 (D.zconv .i64 a0) (D.zc 61)) (D.zc 4))) (D.fc 4634204016564240384))) (S15_0 D (S14_1 D (D.fdiv (D.i2f (D.zadd .i64 (D.zrem .i64 (D.zconv .i64 a0) (D.zc 61)) (D.zc 4))) (D.fc 4634204016564240384)) (D.fdiv (D.i2f (D.zrem .i64 (D.zconv .i64 a1) (D.zadd .i64 (D.zrem .i64 (D.zconv .i64 a0) (D.zc 61)) (D.zc 4)))) (D.fc 4634204016564240384)) (D.fdiv (D.i2f (D.zrem .i64 (D.zconv .i64 a2) (D.zadd .i64 (D.zrem .i64 (D.zconv .i64 a0) (D.zc 61)) (D.zc 4)))) (D.fc 4634204016564240384)) a3 (D.zc 64)) (D.fdiv (D.i2f (D.zrem .i64 (D.zconv .i64 a1) (D.zadd .i64 (D.zrem .i64 (D.zconv .i64 a0) (D.zc 61)) (D.zc 4)))) (D.fc 4634204016564240384))) (D.bc false)) (S15_0 D (S14_2 D (D.fdiv (D.i2f (D.zadd .i64 (D.zrem .i64 (D.zconv .i64 a0) (D.zc 61)) (D.zc 4))) (D.fc 4634204016564240384)) (D.fdiv (D.i2f (D.zrem .i64 (D.zconv .i64 a1) (D.zadd .i64 (D.zrem .i64 (D.zconv .i64 a0) (D.zc 61)) (D.zc 4)))) (D.fc 4634204016564240384)) (D.fdiv (D.i2f (D.zrem .i64 (D.zconv .i64 a2) (D.zadd .i64 (D.zrem .i64 (D.zconv .i64 a0) (D.zc 61)) (D.zc 4)))) (D.fc 4634204016564240384)) a3 (D.zc 64)) (D.fdiv (D.i2f (D.zrem .i64 (D.zconv .i64 a2) (D.zadd .i64 (D.zrem .i64 (D.zconv .i64 a0) (D.zc 61)) (D.zc 4)))) (D.fc 4634204016564240384))) (D.bc false))
def O5 (D : Dom) (a0 : D.Z) (a1 : D.Z) (a2 : D.Z) (a3 : D.Z) : D.B := (D.band (D.bnot (D.zeq (D.zc 61) (D.zc 0))) (D.band (D.bnot (D.zeq (D.zadd .i64 (D.zrem .i64 (D.zconv .i64 a0) (D.zc 61)) (D.zc 4)) (D.zc 0))) (D.band (D.bnot (D.zeq (D.zadd .i64 (D.zrem .i64 (D.zconv .i64 a0) (D.zc 61)) (D.zc 4)) (D.zc 0))) (O14 D (D.fdiv (D.i2f (D.zadd .i64 (D.zrem .i64 (D.zconv .i64 a0) (D.zc 61)) (D.zc 4))) (D.fc 4634204016564240384)) (D.fdiv (D.i2f (D.zrem .i64 (D.zconv .i64 a1) (D.zadd .i64 (D.zrem .i64 (D.zconv .i64 a0) (D.zc 61)) (D.zc 4)))) (D.fc 4634204016564240384)) (D.fdiv (D.i2f (D.zrem .i64 (D.zconv .i64 a2) (D.zadd .i64 (D.zrem .i64 (D.zconv .i64 a0) (D.zc 61)) (D.zc 4)))) (D.fc 4634204016564240384)) a3 (D.zc 64)))))
theorem ev5 (D : Dom) (a0 : D.Z) (a1 : D.Z) (a2 : D.Z) (a3 : D.Z) : joinT (evFnH Try.prog (tbl_15 D) (lt_2 D) 60 5 [.agg [.si .u8 a0, .si .u8 a1, .si .u8 a2, .si .i64 a3]] [] 0) = .val (some (O5 D a0 a1 a2 a3)) (.sb (S5_0 D a0 a1 a2 a3)) := by kernel_rfl
def sp5 : Ev.Spec := fun D l => argA l fun c0 r0 => argZ .u8 c0 fun a0 r1 => argZ .u8 r1 fun a1 r2 => argZ .u8 r2 fun a2 r3 => argZ .i64 r3 fun a3 r4 => arg0 r4 (arg0 r0 (.node (O5 D a0 a1 a2 a3) (.ret (.sb (S5_0 D a0 a1 a2 a3))) (.fail "pre")))
theorem en5 : ∀ l r, (sp5 R l).run = some r → Entry Try.prog 5 l r := by
  intro l r h
  obtain ⟨_, _, h, L0⟩ := argA_inv h
  obtain ⟨x1, _, h, L1⟩ := argZ_inv h
  obtain ⟨x2, _, h, L2⟩ := argZ_inv h
  obtain ⟨x3, _, h, L3⟩ := argZ_inv h
  obtain ⟨x4, _, h, L4⟩ := argZ_inv h
  obtain ⟨h, L5⟩ := arg0_inv h
  obtain ⟨h, L6⟩ := arg0_inv h
  obtain ⟨hok, rfl⟩ := run_okay h
  exact (entry_loops prg tok_15 hok_2 (ev5 R x1 x2 x3 x4) (fun o ho => (Option.some.inj ho) ▸ hok) rfl).le (L0 _ _ (L1 _ (L2 _ (L3 _ (L4 _ L5)))) L6)
def tl_5 : List (Nat × Ev.Spec) := (5, sp5) :: tl_15
def tbl_5 (D : Dom) : Tbl D := tblOf tl_5 D
theorem tok_5 : TblOK Try.prog (tbl_5 R) := TblOK.cons tok_15 en5

end Go.Proofs.Ytmlkkfijlgkmfaa
