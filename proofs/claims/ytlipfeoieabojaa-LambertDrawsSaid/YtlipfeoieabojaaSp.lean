/- The functions of this seat, each with what it comes to, by the evaluator. PRINTED BY A PROGRAM OF THIS PROJECT (wip/ev/Gen.lean). -/
import Derived.Test.YtlipfeoieabojaaEv4
import Derived.Test.YtlipfeoieabojaaChecked
namespace Go.Proofs.Ytlipfeoieabojaa
open Go.Ev
set_option maxRecDepth 100000

theorem prg : Ev.Prog Try.prog := ⟨by kernel_rfl, by kernel_rfl⟩
def sp28 : Ev.Spec := fun D l => argF l fun a r => arg0 r (.ret (.fl (D.fsqrt a)))
theorem en28 : ∀ l r, (sp28 R l).run = some r → Entry Try.prog 28 l r := by
  intro l r h
  obtain ⟨x0, _, h, L0⟩ := argF_inv h
  obtain ⟨h, L1⟩ := arg0_inv h
  cases h
  exact (entry_sqrt (fn := Try.f28) (by kernel_rfl) (by kernel_rfl) (by kernel_rfl) (by kernel_rfl) (by kernel_rfl) x0).le (L0 _ L1)
def tl_0 : List (Nat × Ev.Spec) := ((28, sp28) :: [])
def tbl_0 (D : Dom) : Tbl D := tblOf tl_0 D
theorem tok_0 : TblOK Try.prog (tbl_0 R) := (TblOK.cons (TblOK.nil _) en28)

-- penumbra/frame.Cos
def S20_0 (D : Dom) (a2 : D.F) : D.F := a2
theorem ev20 (D : Dom) (a0 : D.F) (a1 : D.F) (a2 : D.F) : joinT (evFn Try.prog (tbl_0 D) 60 20 [.agg [.fl a0, .fl a1, .fl a2]]) = .val none (.fl (S20_0 D a2)) := by kernel_rfl
def sp20 : Ev.Spec := fun D l => argA l fun c0 r0 => argF c0 fun _a0 r1 => argF r1 fun _a1 r2 => argF r2 fun a2 r3 => arg0 r3 (arg0 r0 (.ret (.fl (S20_0 D a2))))
theorem en20 : ∀ l r, (sp20 R l).run = some r → Entry Try.prog 20 l r := by
  intro l r h
  obtain ⟨_, _, h, L0⟩ := argA_inv h
  obtain ⟨x1, _, h, L1⟩ := argF_inv h
  obtain ⟨x2, _, h, L2⟩ := argF_inv h
  obtain ⟨x3, _, h, L3⟩ := argF_inv h
  obtain ⟨h, L4⟩ := arg0_inv h
  obtain ⟨h, L5⟩ := arg0_inv h
  cases h
  exact (entry_of prg tok_0 (ev20 R x1 x2 x3) (fun o ho => nomatch ho) rfl).le (L0 _ _ (L1 _ (L2 _ (L3 _ L4))) L5)
def tl_20 : List (Nat × Ev.Spec) := (20, sp20) :: tl_0
def tbl_20 (D : Dom) : Tbl D := tblOf tl_20 D
theorem tok_20 : TblOK Try.prog (tbl_20 R) := TblOK.cons tok_0 en20

-- penumbra/frame.Upper
def S18_0 (D : Dom) (a2 : D.F) (a5 : D.F) : D.B := (D.bite (D.fgt (S20_0 D a2) (D.fc 0)) (D.fgt (S20_0 D a5) (D.fc 0)) (D.bc false))
theorem ev18 (D : Dom) (a0 : D.F) (a1 : D.F) (a2 : D.F) (a3 : D.F) (a4 : D.F) (a5 : D.F) : joinT (evFn Try.prog (tbl_20 D) 60 18 [.agg [.fl a0, .fl a1, .fl a2], .agg [.fl a3, .fl a4, .fl a5]]) = .val none (.sb (S18_0 D a2 a5)) := by kernel_rfl
def sp18 : Ev.Spec := fun D l => argA l fun c0 r0 => argF c0 fun _a0 r1 => argF r1 fun _a1 r2 => argF r2 fun a2 r3 => arg0 r3 (argA r0 fun c100 r100 => argF c100 fun _a3 r101 => argF r101 fun _a4 r102 => argF r102 fun a5 r103 => arg0 r103 (arg0 r100 (.ret (.sb (S18_0 D a2 a5)))))
theorem en18 : ∀ l r, (sp18 R l).run = some r → Entry Try.prog 18 l r := by
  intro l r h
  obtain ⟨_, _, h, L0⟩ := argA_inv h
  obtain ⟨x1, _, h, L1⟩ := argF_inv h
  obtain ⟨x2, _, h, L2⟩ := argF_inv h
  obtain ⟨x3, _, h, L3⟩ := argF_inv h
  obtain ⟨h, L4⟩ := arg0_inv h
  obtain ⟨_, _, h, L5⟩ := argA_inv h
  obtain ⟨x6, _, h, L6⟩ := argF_inv h
  obtain ⟨x7, _, h, L7⟩ := argF_inv h
  obtain ⟨x8, _, h, L8⟩ := argF_inv h
  obtain ⟨h, L9⟩ := arg0_inv h
  obtain ⟨h, L10⟩ := arg0_inv h
  cases h
  exact (entry_of prg tok_20 (ev18 R x1 x2 x3 x6 x7 x8) (fun o ho => nomatch ho) rfl).le (L0 _ _ (L1 _ (L2 _ (L3 _ L4))) (L5 _ _ (L6 _ (L7 _ (L8 _ L9))) L10))
def tl_18 : List (Nat × Ev.Spec) := (18, sp18) :: tl_20
def tbl_18 (D : Dom) : Tbl D := tblOf tl_18 D
theorem tok_18 : TblOK Try.prog (tbl_18 R) := TblOK.cons tok_20 en18

-- penumbra/warp.size
def S36_0 (D : Dom) (a0 : D.F) : D.F := (D.fite (D.flt a0 (D.fc 0)) (D.fsub (D.fc 0) a0) a0)
theorem ev36 (D : Dom) (a0 : D.F) : joinT (evFn Try.prog (tbl_18 D) 60 36 [.fl a0]) = .val none (.fl (S36_0 D a0)) := by kernel_rfl
def sp36 : Ev.Spec := fun D l => argF l fun a0 r0 => arg0 r0 (.ret (.fl (S36_0 D a0)))
theorem en36 : ∀ l r, (sp36 R l).run = some r → Entry Try.prog 36 l r := by
  intro l r h
  obtain ⟨x0, _, h, L0⟩ := argF_inv h
  obtain ⟨h, L1⟩ := arg0_inv h
  cases h
  exact (entry_of prg tok_18 (ev36 R x0) (fun o ho => nomatch ho) rfl).le (L0 _ L1)
def tl_36 : List (Nat × Ev.Spec) := (36, sp36) :: tl_18
def tbl_36 (D : Dom) : Tbl D := tblOf tl_36 D
theorem tok_36 : TblOK Try.prog (tbl_36 R) := TblOK.cons tok_18 en36

-- penumbra/vec.Number
def S21_0 (D : Dom) (a0 : D.F) : D.B := (D.bite (D.fge a0 (D.fc 18442240474082181119)) (D.fle a0 (D.fc 9218868437227405311)) (D.bc false))
theorem ev21 (D : Dom) (a0 : D.F) : joinT (evFn Try.prog (tbl_36 D) 60 21 [.fl a0]) = .val none (.sb (S21_0 D a0)) := by kernel_rfl
def sp21 : Ev.Spec := fun D l => argF l fun a0 r0 => arg0 r0 (.ret (.sb (S21_0 D a0)))
theorem en21 : ∀ l r, (sp21 R l).run = some r → Entry Try.prog 21 l r := by
  intro l r h
  obtain ⟨x0, _, h, L0⟩ := argF_inv h
  obtain ⟨h, L1⟩ := arg0_inv h
  cases h
  exact (entry_of prg tok_36 (ev21 R x0) (fun o ho => nomatch ho) rfl).le (L0 _ L1)
def tl_21 : List (Nat × Ev.Spec) := (21, sp21) :: tl_36
def tbl_21 (D : Dom) : Tbl D := tblOf tl_21 D
theorem tok_21 : TblOK Try.prog (tbl_21 R) := TblOK.cons tok_36 en21

-- penumbra/vec.Finite
def S37_0 (D : Dom) (a0 : D.F) (a1 : D.F) (a2 : D.F) : D.B := (D.bite (D.bite (S21_0 D a0) (S21_0 D a1) (D.bc false)) (S21_0 D a2) (D.bc false))
theorem ev37 (D : Dom) (a0 : D.F) (a1 : D.F) (a2 : D.F) : joinT (evFn Try.prog (tbl_21 D) 60 37 [.agg [.fl a0, .fl a1, .fl a2]]) = .val none (.sb (S37_0 D a0 a1 a2)) := by kernel_rfl
def sp37 : Ev.Spec := fun D l => argA l fun c0 r0 => argF c0 fun a0 r1 => argF r1 fun a1 r2 => argF r2 fun a2 r3 => arg0 r3 (arg0 r0 (.ret (.sb (S37_0 D a0 a1 a2))))
theorem en37 : ∀ l r, (sp37 R l).run = some r → Entry Try.prog 37 l r := by
  intro l r h
  obtain ⟨_, _, h, L0⟩ := argA_inv h
  obtain ⟨x1, _, h, L1⟩ := argF_inv h
  obtain ⟨x2, _, h, L2⟩ := argF_inv h
  obtain ⟨x3, _, h, L3⟩ := argF_inv h
  obtain ⟨h, L4⟩ := arg0_inv h
  obtain ⟨h, L5⟩ := arg0_inv h
  cases h
  exact (entry_of prg tok_21 (ev37 R x1 x2 x3) (fun o ho => nomatch ho) rfl).le (L0 _ _ (L1 _ (L2 _ (L3 _ L4))) L5)
def tl_37 : List (Nat × Ev.Spec) := (37, sp37) :: tl_21
def tbl_37 (D : Dom) : Tbl D := tblOf tl_37 D
theorem tok_37 : TblOK Try.prog (tbl_37 R) := TblOK.cons tok_21 en37

-- penumbra/warp.Angle
def S30_0 (D : Dom) (a0 : D.F) (a1 : D.F) : D.Z := (D.zite (D.bite (D.feq (D.fite (D.bnot (D.fge (S36_0 D a0) (S36_0 D a1))) (S36_0 D a1) (S36_0 D a0)) (D.fc 0)) (D.bc true) (D.bnot (S37_0 D (D.fite (D.bnot (D.fge (S36_0 D a0) (S36_0 D a1))) (S36_0 D a1) (S36_0 D a0)) (D.fite (D.bnot (D.fge (S36_0 D a0) (S36_0 D a1))) (S36_0 D a0) (S36_0 D a1)) (D.fc 0)))) (D.zite (D.bite (D.bite (D.fge a0 (D.fc 0)) (D.fge a1 (D.fc 0)) (D.bc false)) (D.fge (S36_0 D a0) (S36_0 D a1)) (D.bc false)) (D.zc 0) (D.zite (D.bite (D.bite (D.fge a0 (D.fc 0)) (D.fge a1 (D.fc 0)) (D.bc false)) (D.flt (S36_0 D a0) (S36_0 D a1)) (D.bc false)) (D.zc 1) (D.zite (D.bite (D.bite (D.flt a0 (D.fc 0)) (D.fge a1 (D.fc 0)) (D.bc false)) (D.flt (S36_0 D a0) (S36_0 D a1)) (D.bc false)) (D.zc 2) (D.zite (D.bite (D.bite (D.flt a0 (D.fc 0)) (D.fge a1 (D.fc 0)) (D.bc false)) (D.fge (S36_0 D a0) (S36_0 D a1)) (D.bc false)) (D.zc 3) (D.zite (D.bite (D.bite (D.flt a0 (D.fc 0)) (D.flt a1 (D.fc 0)) (D.bc false)) (D.fge (S36_0 D a0) (S36_0 D a1)) (D.bc false)) (D.zc 4) (D.zite (D.bite (D.bite (D.flt a0 (D.fc 0)) (D.flt a1 (D.fc 0)) (D.bc false)) (D.flt (S36_0 D a0) (S36_0 D a1)) (D.bc false)) (D.zc 5) (D.zite (D.bite (D.bite (D.fge a0 (D.fc 0)) (D.flt a1 (D.fc 0)) (D.bc false)) (D.flt (S36_0 D a0) (S36_0 D a1)) (D.bc false)) (D.zc 6) (D.zc 7)))))))) (D.zite (D.bite (D.bite (D.fge a0 (D.fc 0)) (D.fge a1 (D.fc 0)) (D.bc false)) (D.fge (S36_0 D a0) (S36_0 D a1)) (D.bc false)) (D.zc 0) (D.zite (D.bite (D.bite (D.fge a0 (D.fc 0)) (D.fge a1 (D.fc 0)) (D.bc false)) (D.flt (S36_0 D a0) (S36_0 D a1)) (D.bc false)) (D.zc 1) (D.zite (D.bite (D.bite (D.flt a0 (D.fc 0)) (D.fge a1 (D.fc 0)) (D.bc false)) (D.flt (S36_0 D a0) (S36_0 D a1)) (D.bc false)) (D.zc 2) (D.zite (D.bite (D.bite (D.flt a0 (D.fc 0)) (D.fge a1 (D.fc 0)) (D.bc false)) (D.fge (S36_0 D a0) (S36_0 D a1)) (D.bc false)) (D.zc 3) (D.zite (D.bite (D.bite (D.flt a0 (D.fc 0)) (D.flt a1 (D.fc 0)) (D.bc false)) (D.fge (S36_0 D a0) (S36_0 D a1)) (D.bc false)) (D.zc 4) (D.zite (D.bite (D.bite (D.flt a0 (D.fc 0)) (D.flt a1 (D.fc 0)) (D.bc false)) (D.flt (S36_0 D a0) (S36_0 D a1)) (D.bc false)) (D.zc 5) (D.zite (D.bite (D.bite (D.fge a0 (D.fc 0)) (D.flt a1 (D.fc 0)) (D.bc false)) (D.flt (S36_0 D a0) (S36_0 D a1)) (D.bc false)) (D.zc 6) (D.zc 7)))))))))
def S30_1 (D : Dom) (a0 : D.F) (a1 : D.F) : D.F := (D.fite (D.bite (D.feq (D.fite (D.bnot (D.fge (S36_0 D a0) (S36_0 D a1))) (S36_0 D a1) (S36_0 D a0)) (D.fc 0)) (D.bc true) (D.bnot (S37_0 D (D.fite (D.bnot (D.fge (S36_0 D a0) (S36_0 D a1))) (S36_0 D a1) (S36_0 D a0)) (D.fite (D.bnot (D.fge (S36_0 D a0) (S36_0 D a1))) (S36_0 D a0) (S36_0 D a1)) (D.fc 0)))) (D.fc 0) (D.fdiv (D.fite (D.bnot (D.fge (S36_0 D a0) (S36_0 D a1))) (S36_0 D a0) (S36_0 D a1)) (D.fite (D.bnot (D.fge (S36_0 D a0) (S36_0 D a1))) (S36_0 D a1) (S36_0 D a0))))
theorem ev30 (D : Dom) (a0 : D.F) (a1 : D.F) : joinT (evFn Try.prog (tbl_37 D) 60 30 [.fl a0, .fl a1]) = .val none (.tup [.si .i64 (S30_0 D a0 a1), .fl (S30_1 D a0 a1)]) := by kernel_rfl
def sp30 : Ev.Spec := fun D l => argF l fun a0 r0 => argF r0 fun a1 r1 => arg0 r1 (.ret (.tup [.si .i64 (S30_0 D a0 a1), .fl (S30_1 D a0 a1)]))
theorem en30 : ∀ l r, (sp30 R l).run = some r → Entry Try.prog 30 l r := by
  intro l r h
  obtain ⟨x0, _, h, L0⟩ := argF_inv h
  obtain ⟨x1, _, h, L1⟩ := argF_inv h
  obtain ⟨h, L2⟩ := arg0_inv h
  cases h
  exact (entry_of prg tok_37 (ev30 R x0 x1) (fun o ho => nomatch ho) rfl).le (L0 _ (L1 _ L2))
def tl_30 : List (Nat × Ev.Spec) := (30, sp30) :: tl_37
def tbl_30 (D : Dom) : Tbl D := tblOf tl_30 D
theorem tok_30 : TblOK Try.prog (tbl_30 R) := TblOK.cons tok_37 en30

-- penumbra/warp.Density
def S19_0 (D : Dom) (a0 : D.F) (a1 : D.F) : D.F := (D.fmul (D.fadd (D.fc 4607182418800017408) (D.fmul (S30_1 D a0 a1) (S30_1 D a0 a1))) (D.fc 4593671619917905920))
theorem ev19 (D : Dom) (a0 : D.F) (a1 : D.F) : joinT (evFn Try.prog (tbl_30 D) 60 19 [.fl a0, .fl a1]) = .val none (.fl (S19_0 D a0 a1)) := by kernel_rfl
def sp19 : Ev.Spec := fun D l => argF l fun a0 r0 => argF r0 fun a1 r1 => arg0 r1 (.ret (.fl (S19_0 D a0 a1)))
theorem en19 : ∀ l r, (sp19 R l).run = some r → Entry Try.prog 19 l r := by
  intro l r h
  obtain ⟨x0, _, h, L0⟩ := argF_inv h
  obtain ⟨x1, _, h, L1⟩ := argF_inv h
  obtain ⟨h, L2⟩ := arg0_inv h
  cases h
  exact (entry_of prg tok_30 (ev19 R x0 x1) (fun o ho => nomatch ho) rfl).le (L0 _ (L1 _ L2))
def tl_19 : List (Nat × Ev.Spec) := (19, sp19) :: tl_30
def tbl_19 (D : Dom) : Tbl D := tblOf tl_19 D
theorem tok_19 : TblOK Try.prog (tbl_19 R) := TblOK.cons tok_30 en19

-- penumbra/lambert.Density
def S6_0 (D : Dom) (a2 : D.F) (a3 : D.F) (a4 : D.F) (a5 : D.F) : D.F := (D.fite (D.bnot (S18_0 D a2 a5)) (D.fc 0) (D.fite (D.bnot (S21_0 D (D.fmul (D.fmul (D.fc 4611686018427387904) (S19_0 D a3 a4)) (S20_0 D a5)))) (D.fc 0) (D.fmul (D.fmul (D.fc 4611686018427387904) (S19_0 D a3 a4)) (S20_0 D a5))))
theorem ev6 (D : Dom) (a0 : D.F) (a1 : D.F) (a2 : D.F) (a3 : D.F) (a4 : D.F) (a5 : D.F) : joinT (evFn Try.prog (tbl_19 D) 60 6 [.agg [.fl a0, .fl a1, .fl a2], .agg [.fl a3, .fl a4, .fl a5]]) = .val none (.fl (S6_0 D a2 a3 a4 a5)) := by kernel_rfl
def sp6 : Ev.Spec := fun D l => argA l fun c0 r0 => argF c0 fun _a0 r1 => argF r1 fun _a1 r2 => argF r2 fun a2 r3 => arg0 r3 (argA r0 fun c100 r100 => argF c100 fun a3 r101 => argF r101 fun a4 r102 => argF r102 fun a5 r103 => arg0 r103 (arg0 r100 (.ret (.fl (S6_0 D a2 a3 a4 a5)))))
theorem en6 : ∀ l r, (sp6 R l).run = some r → Entry Try.prog 6 l r := by
  intro l r h
  obtain ⟨_, _, h, L0⟩ := argA_inv h
  obtain ⟨x1, _, h, L1⟩ := argF_inv h
  obtain ⟨x2, _, h, L2⟩ := argF_inv h
  obtain ⟨x3, _, h, L3⟩ := argF_inv h
  obtain ⟨h, L4⟩ := arg0_inv h
  obtain ⟨_, _, h, L5⟩ := argA_inv h
  obtain ⟨x6, _, h, L6⟩ := argF_inv h
  obtain ⟨x7, _, h, L7⟩ := argF_inv h
  obtain ⟨x8, _, h, L8⟩ := argF_inv h
  obtain ⟨h, L9⟩ := arg0_inv h
  obtain ⟨h, L10⟩ := arg0_inv h
  cases h
  exact (entry_of prg tok_19 (ev6 R x1 x2 x3 x6 x7 x8) (fun o ho => nomatch ho) rfl).le (L0 _ _ (L1 _ (L2 _ (L3 _ L4))) (L5 _ _ (L6 _ (L7 _ (L8 _ L9))) L10))
def tl_6 : List (Nat × Ev.Spec) := (6, sp6) :: tl_19
def tbl_6 (D : Dom) : Tbl D := tblOf tl_6 D
theorem tok_6 : TblOK Try.prog (tbl_6 R) := TblOK.cons tok_19 en6

-- penumbra/tape.Clean
def S33_0 (D : Dom) (a0 : D.F) : D.F := (D.fite (D.bite (D.fge a0 (D.fc 0)) (D.flt a0 (D.fc 4607182418800017408)) (D.bc false)) a0 (D.fc 0))
theorem ev33 (D : Dom) (a0 : D.F) : joinT (evFn Try.prog (tbl_6 D) 60 33 [.fl a0]) = .val none (.fl (S33_0 D a0)) := by kernel_rfl
def sp33 : Ev.Spec := fun D l => argF l fun a0 r0 => arg0 r0 (.ret (.fl (S33_0 D a0)))
theorem en33 : ∀ l r, (sp33 R l).run = some r → Entry Try.prog 33 l r := by
  intro l r h
  obtain ⟨x0, _, h, L0⟩ := argF_inv h
  obtain ⟨h, L1⟩ := arg0_inv h
  cases h
  exact (entry_of prg tok_6 (ev33 R x0) (fun o ho => nomatch ho) rfl).le (L0 _ L1)
def tl_33 : List (Nat × Ev.Spec) := (33, sp33) :: tl_6
def tbl_33 (D : Dom) : Tbl D := tblOf tl_33 D
theorem tok_33 : TblOK Try.prog (tbl_33 R) := TblOK.cons tok_6 en33

-- math.Sqrt
def S14_0 (D : Dom) (a0 : D.F) : D.F := (D.fsqrt a0)
theorem ev14 (D : Dom) (a0 : D.F) : joinT (evFn Try.prog (tbl_33 D) 60 14 [.fl a0]) = .val none (.fl (S14_0 D a0)) := by kernel_rfl
def sp14 : Ev.Spec := fun D l => argF l fun a0 r0 => arg0 r0 (.ret (.fl (S14_0 D a0)))
theorem en14 : ∀ l r, (sp14 R l).run = some r → Entry Try.prog 14 l r := by
  intro l r h
  obtain ⟨x0, _, h, L0⟩ := argF_inv h
  obtain ⟨h, L1⟩ := arg0_inv h
  cases h
  exact (entry_of prg tok_33 (ev14 R x0) (fun o ho => nomatch ho) rfl).le (L0 _ L1)
def tl_14 : List (Nat × Ev.Spec) := (14, sp14) :: tl_33
def tbl_14 (D : Dom) : Tbl D := tblOf tl_14 D
theorem tok_14 : TblOK Try.prog (tbl_14 R) := TblOK.cons tok_33 en14

-- penumbra/warp.Sector
def S41_0 (D : Dom) (a0 : D.F) : D.F := (D.fite (D.zeq (D.zrem .i64 (D.f2i .i64 (D.fmul (S33_0 D a0) (D.fc 4620693217682128896))) (D.zc 8)) (D.zc 0)) (D.fdiv (D.fc 4607182418800017408) (S14_0 D (D.fadd (D.fc 4607182418800017408) (D.fmul (D.fsub (D.fmul (S33_0 D a0) (D.fc 4620693217682128896)) (D.i2f (D.f2i .i64 (D.fmul (S33_0 D a0) (D.fc 4620693217682128896))))) (D.fsub (D.fmul (S33_0 D a0) (D.fc 4620693217682128896)) (D.i2f (D.f2i .i64 (D.fmul (S33_0 D a0) (D.fc 4620693217682128896))))))))) (D.fite (D.zeq (D.zrem .i64 (D.f2i .i64 (D.fmul (S33_0 D a0) (D.fc 4620693217682128896))) (D.zc 8)) (D.zc 1)) (D.fdiv (D.fsub (D.fmul (S33_0 D a0) (D.fc 4620693217682128896)) (D.i2f (D.f2i .i64 (D.fmul (S33_0 D a0) (D.fc 4620693217682128896))))) (S14_0 D (D.fadd (D.fc 4607182418800017408) (D.fmul (D.fsub (D.fmul (S33_0 D a0) (D.fc 4620693217682128896)) (D.i2f (D.f2i .i64 (D.fmul (S33_0 D a0) (D.fc 4620693217682128896))))) (D.fsub (D.fmul (S33_0 D a0) (D.fc 4620693217682128896)) (D.i2f (D.f2i .i64 (D.fmul (S33_0 D a0) (D.fc 4620693217682128896))))))))) (D.fite (D.zeq (D.zrem .i64 (D.f2i .i64 (D.fmul (S33_0 D a0) (D.fc 4620693217682128896))) (D.zc 8)) (D.zc 2)) (D.fsub (D.fc 0) (D.fdiv (D.fsub (D.fmul (S33_0 D a0) (D.fc 4620693217682128896)) (D.i2f (D.f2i .i64 (D.fmul (S33_0 D a0) (D.fc 4620693217682128896))))) (S14_0 D (D.fadd (D.fc 4607182418800017408) (D.fmul (D.fsub (D.fmul (S33_0 D a0) (D.fc 4620693217682128896)) (D.i2f (D.f2i .i64 (D.fmul (S33_0 D a0) (D.fc 4620693217682128896))))) (D.fsub (D.fmul (S33_0 D a0) (D.fc 4620693217682128896)) (D.i2f (D.f2i .i64 (D.fmul (S33_0 D a0) (D.fc 4620693217682128896)))))))))) (D.fite (D.zeq (D.zrem .i64 (D.f2i .i64 (D.fmul (S33_0 D a0) (D.fc 4620693217682128896))) (D.zc 8)) (D.zc 3)) (D.fsub (D.fc 0) (D.fdiv (D.fc 4607182418800017408) (S14_0 D (D.fadd (D.fc 4607182418800017408) (D.fmul (D.fsub (D.fmul (S33_0 D a0) (D.fc 4620693217682128896)) (D.i2f (D.f2i .i64 (D.fmul (S33_0 D a0) (D.fc 4620693217682128896))))) (D.fsub (D.fmul (S33_0 D a0) (D.fc 4620693217682128896)) (D.i2f (D.f2i .i64 (D.fmul (S33_0 D a0) (D.fc 4620693217682128896)))))))))) (D.fite (D.zeq (D.zrem .i64 (D.f2i .i64 (D.fmul (S33_0 D a0) (D.fc 4620693217682128896))) (D.zc 8)) (D.zc 4)) (D.fsub (D.fc 0) (D.fdiv (D.fc 4607182418800017408) (S14_0 D (D.fadd (D.fc 4607182418800017408) (D.fmul (D.fsub (D.fmul (S33_0 D a0) (D.fc 4620693217682128896)) (D.i2f (D.f2i .i64 (D.fmul (S33_0 D a0) (D.fc 4620693217682128896))))) (D.fsub (D.fmul (S33_0 D a0) (D.fc 4620693217682128896)) (D.i2f (D.f2i .i64 (D.fmul (S33_0 D a0) (D.fc 4620693217682128896)))))))))) (D.fite (D.zeq (D.zrem .i64 (D.f2i .i64 (D.fmul (S33_0 D a0) (D.fc 4620693217682128896))) (D.zc 8)) (D.zc 5)) (D.fsub (D.fc 0) (D.fdiv (D.fsub (D.fmul (S33_0 D a0) (D.fc 4620693217682128896)) (D.i2f (D.f2i .i64 (D.fmul (S33_0 D a0) (D.fc 4620693217682128896))))) (S14_0 D (D.fadd (D.fc 4607182418800017408) (D.fmul (D.fsub (D.fmul (S33_0 D a0) (D.fc 4620693217682128896)) (D.i2f (D.f2i .i64 (D.fmul (S33_0 D a0) (D.fc 4620693217682128896))))) (D.fsub (D.fmul (S33_0 D a0) (D.fc 4620693217682128896)) (D.i2f (D.f2i .i64 (D.fmul (S33_0 D a0) (D.fc 4620693217682128896)))))))))) (D.fite (D.zeq (D.zrem .i64 (D.f2i .i64 (D.fmul (S33_0 D a0) (D.fc 4620693217682128896))) (D.zc 8)) (D.zc 6)) (D.fdiv (D.fsub (D.fmul (S33_0 D a0) (D.fc 4620693217682128896)) (D.i2f (D.f2i .i64 (D.fmul (S33_0 D a0) (D.fc 4620693217682128896))))) (S14_0 D (D.fadd (D.fc 4607182418800017408) (D.fmul (D.fsub (D.fmul (S33_0 D a0) (D.fc 4620693217682128896)) (D.i2f (D.f2i .i64 (D.fmul (S33_0 D a0) (D.fc 4620693217682128896))))) (D.fsub (D.fmul (S33_0 D a0) (D.fc 4620693217682128896)) (D.i2f (D.f2i .i64 (D.fmul (S33_0 D a0) (D.fc 4620693217682128896))))))))) (D.fdiv (D.fc 4607182418800017408) (S14_0 D (D.fadd (D.fc 4607182418800017408) (D.fmul (D.fsub (D.fmul (S33_0 D a0) (D.fc 4620693217682128896)) (D.i2f (D.f2i .i64 (D.fmul (S33_0 D a0) (D.fc 4620693217682128896))))) (D.fsub (D.fmul (S33_0 D a0) (D.fc 4620693217682128896)) (D.i2f (D.f2i .i64 (D.fmul (S33_0 D a0) (D.fc 4620693217682128896))))))))))))))))
def S41_1 (D : Dom) (a0 : D.F) : D.F := (D.fite (D.zeq (D.zrem .i64 (D.f2i .i64 (D.fmul (S33_0 D a0) (D.fc 4620693217682128896))) (D.zc 8)) (D.zc 0)) (D.fdiv (D.fsub (D.fmul (S33_0 D a0) (D.fc 4620693217682128896)) (D.i2f (D.f2i .i64 (D.fmul (S33_0 D a0) (D.fc 4620693217682128896))))) (S14_0 D (D.fadd (D.fc 4607182418800017408) (D.fmul (D.fsub (D.fmul (S33_0 D a0) (D.fc 4620693217682128896)) (D.i2f (D.f2i .i64 (D.fmul (S33_0 D a0) (D.fc 4620693217682128896))))) (D.fsub (D.fmul (S33_0 D a0) (D.fc 4620693217682128896)) (D.i2f (D.f2i .i64 (D.fmul (S33_0 D a0) (D.fc 4620693217682128896))))))))) (D.fite (D.zeq (D.zrem .i64 (D.f2i .i64 (D.fmul (S33_0 D a0) (D.fc 4620693217682128896))) (D.zc 8)) (D.zc 1)) (D.fdiv (D.fc 4607182418800017408) (S14_0 D (D.fadd (D.fc 4607182418800017408) (D.fmul (D.fsub (D.fmul (S33_0 D a0) (D.fc 4620693217682128896)) (D.i2f (D.f2i .i64 (D.fmul (S33_0 D a0) (D.fc 4620693217682128896))))) (D.fsub (D.fmul (S33_0 D a0) (D.fc 4620693217682128896)) (D.i2f (D.f2i .i64 (D.fmul (S33_0 D a0) (D.fc 4620693217682128896))))))))) (D.fite (D.zeq (D.zrem .i64 (D.f2i .i64 (D.fmul (S33_0 D a0) (D.fc 4620693217682128896))) (D.zc 8)) (D.zc 2)) (D.fdiv (D.fc 4607182418800017408) (S14_0 D (D.fadd (D.fc 4607182418800017408) (D.fmul (D.fsub (D.fmul (S33_0 D a0) (D.fc 4620693217682128896)) (D.i2f (D.f2i .i64 (D.fmul (S33_0 D a0) (D.fc 4620693217682128896))))) (D.fsub (D.fmul (S33_0 D a0) (D.fc 4620693217682128896)) (D.i2f (D.f2i .i64 (D.fmul (S33_0 D a0) (D.fc 4620693217682128896))))))))) (D.fite (D.zeq (D.zrem .i64 (D.f2i .i64 (D.fmul (S33_0 D a0) (D.fc 4620693217682128896))) (D.zc 8)) (D.zc 3)) (D.fdiv (D.fsub (D.fmul (S33_0 D a0) (D.fc 4620693217682128896)) (D.i2f (D.f2i .i64 (D.fmul (S33_0 D a0) (D.fc 4620693217682128896))))) (S14_0 D (D.fadd (D.fc 4607182418800017408) (D.fmul (D.fsub (D.fmul (S33_0 D a0) (D.fc 4620693217682128896)) (D.i2f (D.f2i .i64 (D.fmul (S33_0 D a0) (D.fc 4620693217682128896))))) (D.fsub (D.fmul (S33_0 D a0) (D.fc 4620693217682128896)) (D.i2f (D.f2i .i64 (D.fmul (S33_0 D a0) (D.fc 4620693217682128896))))))))) (D.fite (D.zeq (D.zrem .i64 (D.f2i .i64 (D.fmul (S33_0 D a0) (D.fc 4620693217682128896))) (D.zc 8)) (D.zc 4)) (D.fsub (D.fc 0) (D.fdiv (D.fsub (D.fmul (S33_0 D a0) (D.fc 4620693217682128896)) (D.i2f (D.f2i .i64 (D.fmul (S33_0 D a0) (D.fc 4620693217682128896))))) (S14_0 D (D.fadd (D.fc 4607182418800017408) (D.fmul (D.fsub (D.fmul (S33_0 D a0) (D.fc 4620693217682128896)) (D.i2f (D.f2i .i64 (D.fmul (S33_0 D a0) (D.fc 4620693217682128896))))) (D.fsub (D.fmul (S33_0 D a0) (D.fc 4620693217682128896)) (D.i2f (D.f2i .i64 (D.fmul (S33_0 D a0) (D.fc 4620693217682128896)))))))))) (D.fite (D.zeq (D.zrem .i64 (D.f2i .i64 (D.fmul (S33_0 D a0) (D.fc 4620693217682128896))) (D.zc 8)) (D.zc 5)) (D.fsub (D.fc 0) (D.fdiv (D.fc 4607182418800017408) (S14_0 D (D.fadd (D.fc 4607182418800017408) (D.fmul (D.fsub (D.fmul (S33_0 D a0) (D.fc 4620693217682128896)) (D.i2f (D.f2i .i64 (D.fmul (S33_0 D a0) (D.fc 4620693217682128896))))) (D.fsub (D.fmul (S33_0 D a0) (D.fc 4620693217682128896)) (D.i2f (D.f2i .i64 (D.fmul (S33_0 D a0) (D.fc 4620693217682128896)))))))))) (D.fite (D.zeq (D.zrem .i64 (D.f2i .i64 (D.fmul (S33_0 D a0) (D.fc 4620693217682128896))) (D.zc 8)) (D.zc 6)) (D.fsub (D.fc 0) (D.fdiv (D.fc 4607182418800017408) (S14_0 D (D.fadd (D.fc 4607182418800017408) (D.fmul (D.fsub (D.fmul (S33_0 D a0) (D.fc 4620693217682128896)) (D.i2f (D.f2i .i64 (D.fmul (S33_0 D a0) (D.fc 4620693217682128896))))) (D.fsub (D.fmul (S33_0 D a0) (D.fc 4620693217682128896)) (D.i2f (D.f2i .i64 (D.fmul (S33_0 D a0) (D.fc 4620693217682128896)))))))))) (D.fsub (D.fc 0) (D.fdiv (D.fsub (D.fmul (S33_0 D a0) (D.fc 4620693217682128896)) (D.i2f (D.f2i .i64 (D.fmul (S33_0 D a0) (D.fc 4620693217682128896))))) (S14_0 D (D.fadd (D.fc 4607182418800017408) (D.fmul (D.fsub (D.fmul (S33_0 D a0) (D.fc 4620693217682128896)) (D.i2f (D.f2i .i64 (D.fmul (S33_0 D a0) (D.fc 4620693217682128896))))) (D.fsub (D.fmul (S33_0 D a0) (D.fc 4620693217682128896)) (D.i2f (D.f2i .i64 (D.fmul (S33_0 D a0) (D.fc 4620693217682128896)))))))))))))))))
def S41_2 (D : Dom) (a0 : D.F) : D.F := (D.fmul (D.fadd (D.fc 4607182418800017408) (D.fmul (D.fsub (D.fmul (S33_0 D a0) (D.fc 4620693217682128896)) (D.i2f (D.f2i .i64 (D.fmul (S33_0 D a0) (D.fc 4620693217682128896))))) (D.fsub (D.fmul (S33_0 D a0) (D.fc 4620693217682128896)) (D.i2f (D.f2i .i64 (D.fmul (S33_0 D a0) (D.fc 4620693217682128896))))))) (D.fc 4593671619917905920))
def O41 (D : Dom) (a0 : D.F) : D.B := (D.band (D.f2iok .i64 (D.fmul (S33_0 D a0) (D.fc 4620693217682128896))) (D.band (D.bnot (D.zeq (D.zc 8) (D.zc 0))) (D.bite (D.zeq (D.zrem .i64 (D.f2i .i64 (D.fmul (S33_0 D a0) (D.fc 4620693217682128896))) (D.zc 8)) (D.zc 0)) (D.bc true) (D.bite (D.zeq (D.zrem .i64 (D.f2i .i64 (D.fmul (S33_0 D a0) (D.fc 4620693217682128896))) (D.zc 8)) (D.zc 1)) (D.bc true) (D.bite (D.zeq (D.zrem .i64 (D.f2i .i64 (D.fmul (S33_0 D a0) (D.fc 4620693217682128896))) (D.zc 8)) (D.zc 2)) (D.bc true) (D.bite (D.zeq (D.zrem .i64 (D.f2i .i64 (D.fmul (S33_0 D a0) (D.fc 4620693217682128896))) (D.zc 8)) (D.zc 3)) (D.bc true) (D.bite (D.zeq (D.zrem .i64 (D.f2i .i64 (D.fmul (S33_0 D a0) (D.fc 4620693217682128896))) (D.zc 8)) (D.zc 4)) (D.bc true) (D.bite (D.zeq (D.zrem .i64 (D.f2i .i64 (D.fmul (S33_0 D a0) (D.fc 4620693217682128896))) (D.zc 8)) (D.zc 5)) (D.bc true) (D.bite (D.zeq (D.zrem .i64 (D.f2i .i64 (D.fmul (S33_0 D a0) (D.fc 4620693217682128896))) (D.zc 8)) (D.zc 6)) (D.bc true) (D.zeq (D.zrem .i64 (D.f2i .i64 (D.fmul (S33_0 D a0) (D.fc 4620693217682128896))) (D.zc 8)) (D.zc 7)))))))))))
theorem ev41 (D : Dom) (a0 : D.F) : joinT (evFn Try.prog (tbl_14 D) 60 41 [.fl a0]) = .val (some (O41 D a0)) (.tup [.fl (S41_0 D a0), .fl (S41_1 D a0), .fl (S41_2 D a0)]) := by kernel_rfl
def sp41 : Ev.Spec := fun D l => argF l fun a0 r0 => arg0 r0 (.node (O41 D a0) (.ret (.tup [.fl (S41_0 D a0), .fl (S41_1 D a0), .fl (S41_2 D a0)])) (.fail "pre"))
theorem en41 : ∀ l r, (sp41 R l).run = some r → Entry Try.prog 41 l r := by
  intro l r h
  obtain ⟨x0, _, h, L0⟩ := argF_inv h
  obtain ⟨h, L1⟩ := arg0_inv h
  obtain ⟨hok, rfl⟩ := run_okay h
  exact (entry_of prg tok_14 (ev41 R x0) (fun o ho => (Option.some.inj ho) ▸ hok) rfl).le (L0 _ L1)
def tl_41 : List (Nat × Ev.Spec) := (41, sp41) :: tl_14
def tbl_41 (D : Dom) : Tbl D := tblOf tl_41 D
theorem tok_41 : TblOK Try.prog (tbl_41 R) := TblOK.cons tok_14 en41

-- penumbra/warp.scaled
def S38_0 (D : Dom) (a0 : D.F) (a1 : D.F) : D.F := (D.fmul (S41_0 D a0) a1)
def S38_1 (D : Dom) (a0 : D.F) (a1 : D.F) : D.F := (D.fmul (S41_1 D a0) a1)
def S38_2 (D : Dom) (a0 : D.F) : D.F := (S41_2 D a0)
def O38 (D : Dom) (a0 : D.F) : D.B := (O41 D a0)
theorem ev38 (D : Dom) (a0 : D.F) (a1 : D.F) : joinT (evFn Try.prog (tbl_41 D) 60 38 [.fl a0, .fl a1]) = .val (some (O38 D a0)) (.tup [.fl (S38_0 D a0 a1), .fl (S38_1 D a0 a1), .fl (S38_2 D a0)]) := by kernel_rfl
def sp38 : Ev.Spec := fun D l => argF l fun a0 r0 => argF r0 fun a1 r1 => arg0 r1 (.node (O38 D a0) (.ret (.tup [.fl (S38_0 D a0 a1), .fl (S38_1 D a0 a1), .fl (S38_2 D a0)])) (.fail "pre"))
theorem en38 : ∀ l r, (sp38 R l).run = some r → Entry Try.prog 38 l r := by
  intro l r h
  obtain ⟨x0, _, h, L0⟩ := argF_inv h
  obtain ⟨x1, _, h, L1⟩ := argF_inv h
  obtain ⟨h, L2⟩ := arg0_inv h
  obtain ⟨hok, rfl⟩ := run_okay h
  exact (entry_of prg tok_41 (ev38 R x0 x1) (fun o ho => (Option.some.inj ho) ▸ hok) rfl).le (L0 _ (L1 _ L2))
def tl_38 : List (Nat × Ev.Spec) := (38, sp38) :: tl_41
def tbl_38 (D : Dom) : Tbl D := tblOf tl_38 D
theorem tok_38 : TblOK Try.prog (tbl_38 R) := TblOK.cons tok_41 en38

-- penumbra/warp.Disk
def S32_0 (D : Dom) (a0 : D.F) (a1 : D.F) : D.F := (S38_0 D a1 (S14_0 D (S33_0 D a0)))
def S32_1 (D : Dom) (a0 : D.F) (a1 : D.F) : D.F := (S38_1 D a1 (S14_0 D (S33_0 D a0)))
def S32_2 (D : Dom) (a1 : D.F) : D.F := (D.fmul (D.fc 4611686018427387904) (S38_2 D a1))
def O32 (D : Dom) (a1 : D.F) : D.B := (O38 D a1)
theorem ev32 (D : Dom) (a0 : D.F) (a1 : D.F) : joinT (evFn Try.prog (tbl_38 D) 60 32 [.fl a0, .fl a1]) = .val (some (O32 D a1)) (.tup [.fl (S32_0 D a0 a1), .fl (S32_1 D a0 a1), .fl (S32_2 D a1)]) := by kernel_rfl
def sp32 : Ev.Spec := fun D l => argF l fun a0 r0 => argF r0 fun a1 r1 => arg0 r1 (.node (O32 D a1) (.ret (.tup [.fl (S32_0 D a0 a1), .fl (S32_1 D a0 a1), .fl (S32_2 D a1)])) (.fail "pre"))
theorem en32 : ∀ l r, (sp32 R l).run = some r → Entry Try.prog 32 l r := by
  intro l r h
  obtain ⟨x0, _, h, L0⟩ := argF_inv h
  obtain ⟨x1, _, h, L1⟩ := argF_inv h
  obtain ⟨h, L2⟩ := arg0_inv h
  obtain ⟨hok, rfl⟩ := run_okay h
  exact (entry_of prg tok_38 (ev32 R x0 x1) (fun o ho => (Option.some.inj ho) ▸ hok) rfl).le (L0 _ (L1 _ L2))
def tl_32 : List (Nat × Ev.Spec) := (32, sp32) :: tl_38
def tbl_32 (D : Dom) : Tbl D := tblOf tl_32 D
theorem tok_32 : TblOK Try.prog (tbl_32 R) := TblOK.cons tok_38 en32

-- penumbra/warp.Hemi
def S26_0 (D : Dom) (a0 : D.F) (a1 : D.F) : D.F := (S32_0 D a0 a1)
def S26_1 (D : Dom) (a0 : D.F) (a1 : D.F) : D.F := (S32_1 D a0 a1)
def S26_2 (D : Dom) (a0 : D.F) : D.F := (S14_0 D (D.fsub (D.fc 4607182418800017408) (S33_0 D a0)))
def S26_3 (D : Dom) (a0 : D.F) (a1 : D.F) : D.F := (D.fmul (S32_2 D a1) (S14_0 D (D.fsub (D.fc 4607182418800017408) (S33_0 D a0))))
def O26 (D : Dom) (a1 : D.F) : D.B := (O32 D a1)
theorem ev26 (D : Dom) (a0 : D.F) (a1 : D.F) : joinT (evFn Try.prog (tbl_32 D) 60 26 [.fl a0, .fl a1]) = .val (some (O26 D a1)) (.tup [.agg [.fl (S26_0 D a0 a1), .fl (S26_1 D a0 a1), .fl (S26_2 D a0)], .fl (S26_3 D a0 a1)]) := by kernel_rfl
def sp26 : Ev.Spec := fun D l => argF l fun a0 r0 => argF r0 fun a1 r1 => arg0 r1 (.node (O26 D a1) (.ret (.tup [.agg [.fl (S26_0 D a0 a1), .fl (S26_1 D a0 a1), .fl (S26_2 D a0)], .fl (S26_3 D a0 a1)])) (.fail "pre"))
theorem en26 : ∀ l r, (sp26 R l).run = some r → Entry Try.prog 26 l r := by
  intro l r h
  obtain ⟨x0, _, h, L0⟩ := argF_inv h
  obtain ⟨x1, _, h, L1⟩ := argF_inv h
  obtain ⟨h, L2⟩ := arg0_inv h
  obtain ⟨hok, rfl⟩ := run_okay h
  exact (entry_of prg tok_32 (ev26 R x0 x1) (fun o ho => (Option.some.inj ho) ▸ hok) rfl).le (L0 _ (L1 _ L2))
def tl_26 : List (Nat × Ev.Spec) := (26, sp26) :: tl_32
def tbl_26 (D : Dom) : Tbl D := tblOf tl_26 D
theorem tok_26 : TblOK Try.prog (tbl_26 R) := TblOK.cons tok_32 en26

-- penumbra/lambert.Sample
def S12_0 (D : Dom) (a2 : D.F) (a3 : D.F) (a4 : D.F) : D.F := (D.fite (D.bnot (S18_0 D a2 (S26_2 D a3))) (D.fc 0) (S26_0 D a3 a4))
def S12_1 (D : Dom) (a2 : D.F) (a3 : D.F) (a4 : D.F) : D.F := (D.fite (D.bnot (S18_0 D a2 (S26_2 D a3))) (D.fc 0) (S26_1 D a3 a4))
def S12_2 (D : Dom) (a2 : D.F) (a3 : D.F) : D.F := (D.fite (D.bnot (S18_0 D a2 (S26_2 D a3))) (D.fc 0) (S26_2 D a3))
def S12_3 (D : Dom) (a2 : D.F) (a3 : D.F) : D.B := (D.bite (D.bnot (S18_0 D a2 (S26_2 D a3))) (D.bc false) (D.bc true))
def O12 (D : Dom) (a4 : D.F) : D.B := (O26 D a4)
theorem ev12 (D : Dom) (a0 : D.F) (a1 : D.F) (a2 : D.F) (a3 : D.F) (a4 : D.F) : joinT (evFn Try.prog (tbl_26 D) 60 12 [.agg [.fl a0, .fl a1, .fl a2], .fl a3, .fl a4]) = .val (some (O12 D a4)) (.tup [.agg [.fl (S12_0 D a2 a3 a4), .fl (S12_1 D a2 a3 a4), .fl (S12_2 D a2 a3)], .sb (S12_3 D a2 a3)]) := by kernel_rfl
def sp12 : Ev.Spec := fun D l => argA l fun c0 r0 => argF c0 fun _a0 r1 => argF r1 fun _a1 r2 => argF r2 fun a2 r3 => arg0 r3 (argF r0 fun a3 r100 => argF r100 fun a4 r101 => arg0 r101 (.node (O12 D a4) (.ret (.tup [.agg [.fl (S12_0 D a2 a3 a4), .fl (S12_1 D a2 a3 a4), .fl (S12_2 D a2 a3)], .sb (S12_3 D a2 a3)])) (.fail "pre")))
theorem en12 : ∀ l r, (sp12 R l).run = some r → Entry Try.prog 12 l r := by
  intro l r h
  obtain ⟨_, _, h, L0⟩ := argA_inv h
  obtain ⟨x1, _, h, L1⟩ := argF_inv h
  obtain ⟨x2, _, h, L2⟩ := argF_inv h
  obtain ⟨x3, _, h, L3⟩ := argF_inv h
  obtain ⟨h, L4⟩ := arg0_inv h
  obtain ⟨x5, _, h, L5⟩ := argF_inv h
  obtain ⟨x6, _, h, L6⟩ := argF_inv h
  obtain ⟨h, L7⟩ := arg0_inv h
  obtain ⟨hok, rfl⟩ := run_okay h
  exact (entry_of prg tok_26 (ev12 R x1 x2 x3 x5 x6) (fun o ho => (Option.some.inj ho) ▸ hok) rfl).le (L0 _ _ (L1 _ (L2 _ (L3 _ L4))) (L5 _ (L6 _ L7)))
def tl_12 : List (Nat × Ev.Spec) := (12, sp12) :: tl_26
def tbl_12 (D : Dom) : Tbl D := tblOf tl_12 D
theorem tok_12 : TblOK Try.prog (tbl_12 R) := TblOK.cons tok_26 en12

-- penumbra/lambert.Eval$1
def S23_0 (D : Dom) (a0 : D.F) : D.F := (D.fdiv a0 (D.fc 4614256656552045848))
theorem ev23 (D : Dom) (a0 : D.F) : joinT (evFn Try.prog (tbl_12 D) 60 23 [.fl a0]) = .val none (.fl (S23_0 D a0)) := by kernel_rfl
def sp23 : Ev.Spec := fun D l => argF l fun a0 r0 => arg0 r0 (.ret (.fl (S23_0 D a0)))
theorem en23 : ∀ l r, (sp23 R l).run = some r → Entry Try.prog 23 l r := by
  intro l r h
  obtain ⟨x0, _, h, L0⟩ := argF_inv h
  obtain ⟨h, L1⟩ := arg0_inv h
  cases h
  exact (entry_of prg tok_12 (ev23 R x0) (fun o ho => nomatch ho) rfl).le (L0 _ L1)
def tl_23 : List (Nat × Ev.Spec) := (23, sp23) :: tl_12
def tbl_23 (D : Dom) : Tbl D := tblOf tl_23 D
theorem tok_23 : TblOK Try.prog (tbl_23 R) := TblOK.cons tok_12 en23

-- penumbra/lambert.Eval
def S9_0 (D : Dom) (a0 : D.F) (a5 : D.F) (a8 : D.F) : D.F := (D.fite (D.bnot (S18_0 D a5 a8)) (D.fc 0) (S23_0 D a0))
def S9_1 (D : Dom) (a1 : D.F) (a5 : D.F) (a8 : D.F) : D.F := (D.fite (D.bnot (S18_0 D a5 a8)) (D.fc 0) (S23_0 D a1))
def S9_2 (D : Dom) (a2 : D.F) (a5 : D.F) (a8 : D.F) : D.F := (D.fite (D.bnot (S18_0 D a5 a8)) (D.fc 0) (S23_0 D a2))
theorem ev9 (D : Dom) (a0 : D.F) (a1 : D.F) (a2 : D.F) (a3 : D.F) (a4 : D.F) (a5 : D.F) (a6 : D.F) (a7 : D.F) (a8 : D.F) : joinT (evFn Try.prog (tbl_23 D) 60 9 [.agg [.fl a0, .fl a1, .fl a2], .agg [.fl a3, .fl a4, .fl a5], .agg [.fl a6, .fl a7, .fl a8]]) = .val none (.agg [.fl (S9_0 D a0 a5 a8), .fl (S9_1 D a1 a5 a8), .fl (S9_2 D a2 a5 a8)]) := by kernel_rfl
def sp9 : Ev.Spec := fun D l => argA l fun c0 r0 => argF c0 fun a0 r1 => argF r1 fun a1 r2 => argF r2 fun a2 r3 => arg0 r3 (argA r0 fun c100 r100 => argF c100 fun _a3 r101 => argF r101 fun _a4 r102 => argF r102 fun a5 r103 => arg0 r103 (argA r100 fun c200 r200 => argF c200 fun _a6 r201 => argF r201 fun _a7 r202 => argF r202 fun a8 r203 => arg0 r203 (arg0 r200 (.ret (.agg [.fl (S9_0 D a0 a5 a8), .fl (S9_1 D a1 a5 a8), .fl (S9_2 D a2 a5 a8)])))))
theorem en9 : ∀ l r, (sp9 R l).run = some r → Entry Try.prog 9 l r := by
  intro l r h
  obtain ⟨_, _, h, L0⟩ := argA_inv h
  obtain ⟨x1, _, h, L1⟩ := argF_inv h
  obtain ⟨x2, _, h, L2⟩ := argF_inv h
  obtain ⟨x3, _, h, L3⟩ := argF_inv h
  obtain ⟨h, L4⟩ := arg0_inv h
  obtain ⟨_, _, h, L5⟩ := argA_inv h
  obtain ⟨x6, _, h, L6⟩ := argF_inv h
  obtain ⟨x7, _, h, L7⟩ := argF_inv h
  obtain ⟨x8, _, h, L8⟩ := argF_inv h
  obtain ⟨h, L9⟩ := arg0_inv h
  obtain ⟨_, _, h, L10⟩ := argA_inv h
  obtain ⟨x11, _, h, L11⟩ := argF_inv h
  obtain ⟨x12, _, h, L12⟩ := argF_inv h
  obtain ⟨x13, _, h, L13⟩ := argF_inv h
  obtain ⟨h, L14⟩ := arg0_inv h
  obtain ⟨h, L15⟩ := arg0_inv h
  cases h
  exact (entry_of prg tok_23 (ev9 R x1 x2 x3 x6 x7 x8 x11 x12 x13) (fun o ho => nomatch ho) rfl).le (L0 _ _ (L1 _ (L2 _ (L3 _ L4))) (L5 _ _ (L6 _ (L7 _ (L8 _ L9))) (L10 _ _ (L11 _ (L12 _ (L13 _ L14))) L15)))
def tl_9 : List (Nat × Ev.Spec) := (9, sp9) :: tl_23
def tbl_9 (D : Dom) : Tbl D := tblOf tl_9 D
theorem tok_9 : TblOK Try.prog (tbl_9 R) := TblOK.cons tok_23 en9

-- penumbra/penumbralaw14.awake
def S7_0 (D : Dom)  : D.B := (D.bite (D.bite (D.bite (D.bite (D.bite (D.bite (D.feq (S6_0 D (D.fc 4607182418800017408) (D.fc 0) (D.fc 0) (D.fc 4607182418800017408)) (D.fc 4598175219545276416)) (D.band (D.feq (S12_0 D (D.fc 4607182418800017408) (D.fc 0) (D.fc 0)) (D.fc 0)) (D.band (D.feq (S12_1 D (D.fc 4607182418800017408) (D.fc 0) (D.fc 0)) (D.fc 0)) (D.band (D.feq (S12_2 D (D.fc 4607182418800017408) (D.fc 0)) (D.fc 4607182418800017408)) (D.bc true)))) (D.bc false)) (S12_3 D (D.fc 4607182418800017408) (D.fc 0)) (D.bc false)) (D.fgt (S9_0 D (D.fc 4607182418800017408) (D.fc 4607182418800017408) (D.fc 4607182418800017408)) (D.fc 4599400198643921191)) (D.bc false)) (D.flt (S9_0 D (D.fc 4607182418800017408) (D.fc 4607182418800017408) (D.fc 4607182418800017408)) (D.fc 4599418213042430673)) (D.bc false)) (D.feq (S9_1 D (D.fc 0) (D.fc 4607182418800017408) (D.fc 4607182418800017408)) (D.fc 0)) (D.bc false)) (D.feq (S6_0 D (D.fc 4607182418800017408) (D.fc 0) (D.fc 0) (D.fc 13830554455654793216)) (D.fc 0)) (D.bc false))
def O7 (D : Dom)  : D.B := (O12 D (D.fc 0))
theorem ev7 (D : Dom)  : joinT (evFn Try.prog (tbl_9 D) 60 7 []) = .val (some (O7 D)) (.sb (S7_0 D)) := by kernel_rfl
def sp7 : Ev.Spec := fun D l => arg0 l (.node (O7 D) (.ret (.sb (S7_0 D))) (.fail "pre"))
theorem en7 : ∀ l r, (sp7 R l).run = some r → Entry Try.prog 7 l r := by
  intro l r h
  obtain ⟨h, L0⟩ := arg0_inv h
  obtain ⟨hok, rfl⟩ := run_okay h
  exact (entry_of prg tok_9 (ev7 R ) (fun o ho => (Option.some.inj ho) ▸ hok) rfl).le L0
def tl_7 : List (Nat × Ev.Spec) := (7, sp7) :: tl_9
def tbl_7 (D : Dom) : Tbl D := tblOf tl_7 D
theorem tok_7 : TblOK Try.prog (tbl_7 R) := TblOK.cons tok_9 en7

-- penumbra/penumbraref14.Eval
def S10_0 (D : Dom) (a0 : D.F) (a5 : D.F) (a8 : D.F) : D.F := (D.fite (D.bite (D.fgt a5 (D.fc 0)) (D.fgt a8 (D.fc 0)) (D.bc false)) (D.fdiv a0 (D.fc 4614256656552045848)) (D.fc 0))
def S10_1 (D : Dom) (a1 : D.F) (a5 : D.F) (a8 : D.F) : D.F := (D.fite (D.bite (D.fgt a5 (D.fc 0)) (D.fgt a8 (D.fc 0)) (D.bc false)) (D.fdiv a1 (D.fc 4614256656552045848)) (D.fc 0))
def S10_2 (D : Dom) (a2 : D.F) (a5 : D.F) (a8 : D.F) : D.F := (D.fite (D.bite (D.fgt a5 (D.fc 0)) (D.fgt a8 (D.fc 0)) (D.bc false)) (D.fdiv a2 (D.fc 4614256656552045848)) (D.fc 0))
theorem ev10 (D : Dom) (a0 : D.F) (a1 : D.F) (a2 : D.F) (a3 : D.F) (a4 : D.F) (a5 : D.F) (a6 : D.F) (a7 : D.F) (a8 : D.F) : joinT (evFn Try.prog (tbl_7 D) 60 10 [.agg [.fl a0, .fl a1, .fl a2], .agg [.fl a3, .fl a4, .fl a5], .agg [.fl a6, .fl a7, .fl a8]]) = .val none (.agg [.fl (S10_0 D a0 a5 a8), .fl (S10_1 D a1 a5 a8), .fl (S10_2 D a2 a5 a8)]) := by kernel_rfl
def sp10 : Ev.Spec := fun D l => argA l fun c0 r0 => argF c0 fun a0 r1 => argF r1 fun a1 r2 => argF r2 fun a2 r3 => arg0 r3 (argA r0 fun c100 r100 => argF c100 fun _a3 r101 => argF r101 fun _a4 r102 => argF r102 fun a5 r103 => arg0 r103 (argA r100 fun c200 r200 => argF c200 fun _a6 r201 => argF r201 fun _a7 r202 => argF r202 fun a8 r203 => arg0 r203 (arg0 r200 (.ret (.agg [.fl (S10_0 D a0 a5 a8), .fl (S10_1 D a1 a5 a8), .fl (S10_2 D a2 a5 a8)])))))
theorem en10 : ∀ l r, (sp10 R l).run = some r → Entry Try.prog 10 l r := by
  intro l r h
  obtain ⟨_, _, h, L0⟩ := argA_inv h
  obtain ⟨x1, _, h, L1⟩ := argF_inv h
  obtain ⟨x2, _, h, L2⟩ := argF_inv h
  obtain ⟨x3, _, h, L3⟩ := argF_inv h
  obtain ⟨h, L4⟩ := arg0_inv h
  obtain ⟨_, _, h, L5⟩ := argA_inv h
  obtain ⟨x6, _, h, L6⟩ := argF_inv h
  obtain ⟨x7, _, h, L7⟩ := argF_inv h
  obtain ⟨x8, _, h, L8⟩ := argF_inv h
  obtain ⟨h, L9⟩ := arg0_inv h
  obtain ⟨_, _, h, L10⟩ := argA_inv h
  obtain ⟨x11, _, h, L11⟩ := argF_inv h
  obtain ⟨x12, _, h, L12⟩ := argF_inv h
  obtain ⟨x13, _, h, L13⟩ := argF_inv h
  obtain ⟨h, L14⟩ := arg0_inv h
  obtain ⟨h, L15⟩ := arg0_inv h
  cases h
  exact (entry_of prg tok_7 (ev10 R x1 x2 x3 x6 x7 x8 x11 x12 x13) (fun o ho => nomatch ho) rfl).le (L0 _ _ (L1 _ (L2 _ (L3 _ L4))) (L5 _ _ (L6 _ (L7 _ (L8 _ L9))) (L10 _ _ (L11 _ (L12 _ (L13 _ L14))) L15)))
def tl_10 : List (Nat × Ev.Spec) := (10, sp10) :: tl_7
def tbl_10 (D : Dom) : Tbl D := tblOf tl_10 D
theorem tok_10 : TblOK Try.prog (tbl_10 R) := TblOK.cons tok_7 en10

-- penumbra/penumbraref02.Same
def S22_0 (D : Dom) (a0 : D.F) (a1 : D.F) : D.B := (D.bite (D.feq a0 a1) (D.bc true) (D.bite (D.bnot (D.feq a0 a0)) (D.bnot (D.feq a1 a1)) (D.bc false)))
theorem ev22 (D : Dom) (a0 : D.F) (a1 : D.F) : joinT (evFn Try.prog (tbl_10 D) 60 22 [.fl a0, .fl a1]) = .val none (.sb (S22_0 D a0 a1)) := by kernel_rfl
def sp22 : Ev.Spec := fun D l => argF l fun a0 r0 => argF r0 fun a1 r1 => arg0 r1 (.ret (.sb (S22_0 D a0 a1)))
theorem en22 : ∀ l r, (sp22 R l).run = some r → Entry Try.prog 22 l r := by
  intro l r h
  obtain ⟨x0, _, h, L0⟩ := argF_inv h
  obtain ⟨x1, _, h, L1⟩ := argF_inv h
  obtain ⟨h, L2⟩ := arg0_inv h
  cases h
  exact (entry_of prg tok_10 (ev22 R x0 x1) (fun o ho => nomatch ho) rfl).le (L0 _ (L1 _ L2))
def tl_22 : List (Nat × Ev.Spec) := (22, sp22) :: tl_10
def tbl_22 (D : Dom) : Tbl D := tblOf tl_22 D
theorem tok_22 : TblOK Try.prog (tbl_22 R) := TblOK.cons tok_10 en22

-- penumbra/penumbraref05.Is
def S8_0 (D : Dom) (a0 : D.F) (a1 : D.F) (a2 : D.F) (a3 : D.F) (a4 : D.F) (a5 : D.F) : D.B := (D.bite (D.bite (S22_0 D a0 a3) (S22_0 D a1 a4) (D.bc false)) (S22_0 D a2 a5) (D.bc false))
theorem ev8 (D : Dom) (a0 : D.F) (a1 : D.F) (a2 : D.F) (a3 : D.F) (a4 : D.F) (a5 : D.F) : joinT (evFn Try.prog (tbl_22 D) 60 8 [.agg [.fl a0, .fl a1, .fl a2], .agg [.fl a3, .fl a4, .fl a5]]) = .val none (.sb (S8_0 D a0 a1 a2 a3 a4 a5)) := by kernel_rfl
def sp8 : Ev.Spec := fun D l => argA l fun c0 r0 => argF c0 fun a0 r1 => argF r1 fun a1 r2 => argF r2 fun a2 r3 => arg0 r3 (argA r0 fun c100 r100 => argF c100 fun a3 r101 => argF r101 fun a4 r102 => argF r102 fun a5 r103 => arg0 r103 (arg0 r100 (.ret (.sb (S8_0 D a0 a1 a2 a3 a4 a5)))))
theorem en8 : ∀ l r, (sp8 R l).run = some r → Entry Try.prog 8 l r := by
  intro l r h
  obtain ⟨_, _, h, L0⟩ := argA_inv h
  obtain ⟨x1, _, h, L1⟩ := argF_inv h
  obtain ⟨x2, _, h, L2⟩ := argF_inv h
  obtain ⟨x3, _, h, L3⟩ := argF_inv h
  obtain ⟨h, L4⟩ := arg0_inv h
  obtain ⟨_, _, h, L5⟩ := argA_inv h
  obtain ⟨x6, _, h, L6⟩ := argF_inv h
  obtain ⟨x7, _, h, L7⟩ := argF_inv h
  obtain ⟨x8, _, h, L8⟩ := argF_inv h
  obtain ⟨h, L9⟩ := arg0_inv h
  obtain ⟨h, L10⟩ := arg0_inv h
  cases h
  exact (entry_of prg tok_22 (ev8 R x1 x2 x3 x6 x7 x8) (fun o ho => nomatch ho) rfl).le (L0 _ _ (L1 _ (L2 _ (L3 _ L4))) (L5 _ _ (L6 _ (L7 _ (L8 _ L9))) L10))
def tl_8 : List (Nat × Ev.Spec) := (8, sp8) :: tl_22
def tbl_8 (D : Dom) : Tbl D := tblOf tl_8 D
theorem tok_8 : TblOK Try.prog (tbl_8 R) := TblOK.cons tok_22 en8

-- penumbra/penumbraref09.abs
def S31_0 (D : Dom) (a0 : D.F) : D.F := (D.fite (D.bite (D.fge a0 (D.fc 0)) (D.bc true) (D.bnot (D.feq a0 a0))) a0 (D.fsub (D.fc 0) a0))
theorem ev31 (D : Dom) (a0 : D.F) : joinT (evFn Try.prog (tbl_8 D) 60 31 [.fl a0]) = .val none (.fl (S31_0 D a0)) := by kernel_rfl
def sp31 : Ev.Spec := fun D l => argF l fun a0 r0 => arg0 r0 (.ret (.fl (S31_0 D a0)))
theorem en31 : ∀ l r, (sp31 R l).run = some r → Entry Try.prog 31 l r := by
  intro l r h
  obtain ⟨x0, _, h, L0⟩ := argF_inv h
  obtain ⟨h, L1⟩ := arg0_inv h
  cases h
  exact (entry_of prg tok_8 (ev31 R x0) (fun o ho => nomatch ho) rfl).le (L0 _ L1)
def tl_31 : List (Nat × Ev.Spec) := (31, sp31) :: tl_8
def tbl_31 (D : Dom) : Tbl D := tblOf tl_31 D
theorem tok_31 : TblOK Try.prog (tbl_31 R) := TblOK.cons tok_8 en31

-- penumbra/penumbraref02.Number
def S25_0 (D : Dom) (a0 : D.F) : D.B := (D.feq (D.fsub a0 a0) (D.fc 0))
theorem ev25 (D : Dom) (a0 : D.F) : joinT (evFn Try.prog (tbl_31 D) 60 25 [.fl a0]) = .val none (.sb (S25_0 D a0)) := by kernel_rfl
def sp25 : Ev.Spec := fun D l => argF l fun a0 r0 => arg0 r0 (.ret (.sb (S25_0 D a0)))
theorem en25 : ∀ l r, (sp25 R l).run = some r → Entry Try.prog 25 l r := by
  intro l r h
  obtain ⟨x0, _, h, L0⟩ := argF_inv h
  obtain ⟨h, L1⟩ := arg0_inv h
  cases h
  exact (entry_of prg tok_31 (ev25 R x0) (fun o ho => nomatch ho) rfl).le (L0 _ L1)
def tl_25 : List (Nat × Ev.Spec) := (25, sp25) :: tl_31
def tbl_25 (D : Dom) : Tbl D := tblOf tl_25 D
theorem tok_25 : TblOK Try.prog (tbl_25 R) := TblOK.cons tok_31 en25

-- penumbra/penumbraref09.Angle
def S24_0 (D : Dom) (a0 : D.F) (a1 : D.F) : D.Z := (D.zite (D.bite (D.bite (D.bnot (S25_0 D (S31_0 D a0))) (D.bc true) (D.bnot (S25_0 D (S31_0 D a1)))) (D.bc true) (D.bite (D.feq (S31_0 D a0) (D.fc 0)) (D.feq (S31_0 D a1) (D.fc 0)) (D.bc false))) (D.zite (D.bite (D.bite (D.fge a0 (D.fc 0)) (D.fge a1 (D.fc 0)) (D.bc false)) (D.fge (S31_0 D a0) (S31_0 D a1)) (D.bc false)) (D.zc 0) (D.zite (D.bite (D.bite (D.fge a0 (D.fc 0)) (D.fge a1 (D.fc 0)) (D.bc false)) (D.flt (S31_0 D a0) (S31_0 D a1)) (D.bc false)) (D.zc 1) (D.zite (D.bite (D.bite (D.flt a0 (D.fc 0)) (D.fge a1 (D.fc 0)) (D.bc false)) (D.flt (S31_0 D a0) (S31_0 D a1)) (D.bc false)) (D.zc 2) (D.zite (D.bite (D.bite (D.flt a0 (D.fc 0)) (D.fge a1 (D.fc 0)) (D.bc false)) (D.fge (S31_0 D a0) (S31_0 D a1)) (D.bc false)) (D.zc 3) (D.zite (D.bite (D.bite (D.flt a0 (D.fc 0)) (D.flt a1 (D.fc 0)) (D.bc false)) (D.fge (S31_0 D a0) (S31_0 D a1)) (D.bc false)) (D.zc 4) (D.zite (D.bite (D.bite (D.flt a0 (D.fc 0)) (D.flt a1 (D.fc 0)) (D.bc false)) (D.flt (S31_0 D a0) (S31_0 D a1)) (D.bc false)) (D.zc 5) (D.zite (D.bite (D.bite (D.fge a0 (D.fc 0)) (D.flt a1 (D.fc 0)) (D.bc false)) (D.flt (S31_0 D a0) (S31_0 D a1)) (D.bc false)) (D.zc 6) (D.zc 7)))))))) (D.zite (D.fge (S31_0 D a0) (S31_0 D a1)) (D.zite (D.bite (D.bite (D.fge a0 (D.fc 0)) (D.fge a1 (D.fc 0)) (D.bc false)) (D.fge (S31_0 D a0) (S31_0 D a1)) (D.bc false)) (D.zc 0) (D.zite (D.bite (D.bite (D.fge a0 (D.fc 0)) (D.fge a1 (D.fc 0)) (D.bc false)) (D.flt (S31_0 D a0) (S31_0 D a1)) (D.bc false)) (D.zc 1) (D.zite (D.bite (D.bite (D.flt a0 (D.fc 0)) (D.fge a1 (D.fc 0)) (D.bc false)) (D.flt (S31_0 D a0) (S31_0 D a1)) (D.bc false)) (D.zc 2) (D.zite (D.bite (D.bite (D.flt a0 (D.fc 0)) (D.fge a1 (D.fc 0)) (D.bc false)) (D.fge (S31_0 D a0) (S31_0 D a1)) (D.bc false)) (D.zc 3) (D.zite (D.bite (D.bite (D.flt a0 (D.fc 0)) (D.flt a1 (D.fc 0)) (D.bc false)) (D.fge (S31_0 D a0) (S31_0 D a1)) (D.bc false)) (D.zc 4) (D.zite (D.bite (D.bite (D.flt a0 (D.fc 0)) (D.flt a1 (D.fc 0)) (D.bc false)) (D.flt (S31_0 D a0) (S31_0 D a1)) (D.bc false)) (D.zc 5) (D.zite (D.bite (D.bite (D.fge a0 (D.fc 0)) (D.flt a1 (D.fc 0)) (D.bc false)) (D.flt (S31_0 D a0) (S31_0 D a1)) (D.bc false)) (D.zc 6) (D.zc 7)))))))) (D.zite (D.bite (D.bite (D.fge a0 (D.fc 0)) (D.fge a1 (D.fc 0)) (D.bc false)) (D.fge (S31_0 D a0) (S31_0 D a1)) (D.bc false)) (D.zc 0) (D.zite (D.bite (D.bite (D.fge a0 (D.fc 0)) (D.fge a1 (D.fc 0)) (D.bc false)) (D.flt (S31_0 D a0) (S31_0 D a1)) (D.bc false)) (D.zc 1) (D.zite (D.bite (D.bite (D.flt a0 (D.fc 0)) (D.fge a1 (D.fc 0)) (D.bc false)) (D.flt (S31_0 D a0) (S31_0 D a1)) (D.bc false)) (D.zc 2) (D.zite (D.bite (D.bite (D.flt a0 (D.fc 0)) (D.fge a1 (D.fc 0)) (D.bc false)) (D.fge (S31_0 D a0) (S31_0 D a1)) (D.bc false)) (D.zc 3) (D.zite (D.bite (D.bite (D.flt a0 (D.fc 0)) (D.flt a1 (D.fc 0)) (D.bc false)) (D.fge (S31_0 D a0) (S31_0 D a1)) (D.bc false)) (D.zc 4) (D.zite (D.bite (D.bite (D.flt a0 (D.fc 0)) (D.flt a1 (D.fc 0)) (D.bc false)) (D.flt (S31_0 D a0) (S31_0 D a1)) (D.bc false)) (D.zc 5) (D.zite (D.bite (D.bite (D.fge a0 (D.fc 0)) (D.flt a1 (D.fc 0)) (D.bc false)) (D.flt (S31_0 D a0) (S31_0 D a1)) (D.bc false)) (D.zc 6) (D.zc 7))))))))))
def S24_1 (D : Dom) (a0 : D.F) (a1 : D.F) : D.F := (D.fite (D.bite (D.bite (D.bnot (S25_0 D (S31_0 D a0))) (D.bc true) (D.bnot (S25_0 D (S31_0 D a1)))) (D.bc true) (D.bite (D.feq (S31_0 D a0) (D.fc 0)) (D.feq (S31_0 D a1) (D.fc 0)) (D.bc false))) (D.fc 0) (D.fite (D.fge (S31_0 D a0) (S31_0 D a1)) (D.fdiv (S31_0 D a1) (S31_0 D a0)) (D.fdiv (S31_0 D a0) (S31_0 D a1))))
theorem ev24 (D : Dom) (a0 : D.F) (a1 : D.F) : joinT (evFn Try.prog (tbl_25 D) 60 24 [.fl a0, .fl a1]) = .val none (.tup [.si .i64 (S24_0 D a0 a1), .fl (S24_1 D a0 a1)]) := by kernel_rfl
def sp24 : Ev.Spec := fun D l => argF l fun a0 r0 => argF r0 fun a1 r1 => arg0 r1 (.ret (.tup [.si .i64 (S24_0 D a0 a1), .fl (S24_1 D a0 a1)]))
theorem en24 : ∀ l r, (sp24 R l).run = some r → Entry Try.prog 24 l r := by
  intro l r h
  obtain ⟨x0, _, h, L0⟩ := argF_inv h
  obtain ⟨x1, _, h, L1⟩ := argF_inv h
  obtain ⟨h, L2⟩ := arg0_inv h
  cases h
  exact (entry_of prg tok_25 (ev24 R x0 x1) (fun o ho => nomatch ho) rfl).le (L0 _ (L1 _ L2))
def tl_24 : List (Nat × Ev.Spec) := (24, sp24) :: tl_25
def tbl_24 (D : Dom) : Tbl D := tblOf tl_24 D
theorem tok_24 : TblOK Try.prog (tbl_24 R) := TblOK.cons tok_25 en24

-- penumbra/penumbraref14.Density
def S11_0 (D : Dom) (a2 : D.F) (a3 : D.F) (a4 : D.F) (a5 : D.F) : D.F := (D.fite (D.band (D.bite (D.fgt a2 (D.fc 0)) (D.fgt a5 (D.fc 0)) (D.bc false)) (S25_0 D (D.fmul (D.fmul (D.fc 4611686018427387904) (D.fmul (D.fadd (D.fc 4607182418800017408) (D.fmul (S24_1 D a3 a4) (S24_1 D a3 a4))) (D.fc 4593671619917905920))) a5))) (D.fmul (D.fmul (D.fc 4611686018427387904) (D.fmul (D.fadd (D.fc 4607182418800017408) (D.fmul (S24_1 D a3 a4) (S24_1 D a3 a4))) (D.fc 4593671619917905920))) a5) (D.fc 0))
theorem ev11 (D : Dom) (a0 : D.F) (a1 : D.F) (a2 : D.F) (a3 : D.F) (a4 : D.F) (a5 : D.F) : joinT (evFn Try.prog (tbl_24 D) 60 11 [.agg [.fl a0, .fl a1, .fl a2], .agg [.fl a3, .fl a4, .fl a5]]) = .val none (.fl (S11_0 D a2 a3 a4 a5)) := by kernel_rfl
def sp11 : Ev.Spec := fun D l => argA l fun c0 r0 => argF c0 fun _a0 r1 => argF r1 fun _a1 r2 => argF r2 fun a2 r3 => arg0 r3 (argA r0 fun c100 r100 => argF c100 fun a3 r101 => argF r101 fun a4 r102 => argF r102 fun a5 r103 => arg0 r103 (arg0 r100 (.ret (.fl (S11_0 D a2 a3 a4 a5)))))
theorem en11 : ∀ l r, (sp11 R l).run = some r → Entry Try.prog 11 l r := by
  intro l r h
  obtain ⟨_, _, h, L0⟩ := argA_inv h
  obtain ⟨x1, _, h, L1⟩ := argF_inv h
  obtain ⟨x2, _, h, L2⟩ := argF_inv h
  obtain ⟨x3, _, h, L3⟩ := argF_inv h
  obtain ⟨h, L4⟩ := arg0_inv h
  obtain ⟨_, _, h, L5⟩ := argA_inv h
  obtain ⟨x6, _, h, L6⟩ := argF_inv h
  obtain ⟨x7, _, h, L7⟩ := argF_inv h
  obtain ⟨x8, _, h, L8⟩ := argF_inv h
  obtain ⟨h, L9⟩ := arg0_inv h
  obtain ⟨h, L10⟩ := arg0_inv h
  cases h
  exact (entry_of prg tok_24 (ev11 R x1 x2 x3 x6 x7 x8) (fun o ho => nomatch ho) rfl).le (L0 _ _ (L1 _ (L2 _ (L3 _ L4))) (L5 _ _ (L6 _ (L7 _ (L8 _ L9))) L10))
def tl_11 : List (Nat × Ev.Spec) := (11, sp11) :: tl_24
def tbl_11 (D : Dom) : Tbl D := tblOf tl_11 D
theorem tok_11 : TblOK Try.prog (tbl_11 R) := TblOK.cons tok_24 en11

-- penumbra/penumbralaw14.LambertTells
def S3_0 (D : Dom) (a0 : D.F) (a1 : D.F) (a2 : D.F) (a5 : D.F) (a6 : D.F) (a7 : D.F) (a8 : D.F) : D.B := (D.bite (S7_0 D) (D.bite (S8_0 D (S9_0 D a0 a5 a8) (S9_1 D a1 a5 a8) (S9_2 D a2 a5 a8) (S10_0 D a0 a5 a8) (S10_1 D a1 a5 a8) (S10_2 D a2 a5 a8)) (D.bite (D.feq (S6_0 D a5 a6 a7 a8) (S11_0 D a5 a6 a7 a8)) (D.fge (S6_0 D a5 a6 a7 a8) (D.fc 0)) (D.bc false)) (D.bc false)) (D.bc false))
def O3 (D : Dom)  : D.B := (O7 D)
theorem ev3 (D : Dom) (a0 : D.F) (a1 : D.F) (a2 : D.F) (a3 : D.F) (a4 : D.F) (a5 : D.F) (a6 : D.F) (a7 : D.F) (a8 : D.F) : joinT (evFn Try.prog (tbl_11 D) 60 3 [.agg [.fl a0, .fl a1, .fl a2], .agg [.fl a3, .fl a4, .fl a5], .agg [.fl a6, .fl a7, .fl a8]]) = .val (some (O3 D)) (.sb (S3_0 D a0 a1 a2 a5 a6 a7 a8)) := by kernel_rfl
def sp3 : Ev.Spec := fun D l => argA l fun c0 r0 => argF c0 fun a0 r1 => argF r1 fun a1 r2 => argF r2 fun a2 r3 => arg0 r3 (argA r0 fun c100 r100 => argF c100 fun _a3 r101 => argF r101 fun _a4 r102 => argF r102 fun a5 r103 => arg0 r103 (argA r100 fun c200 r200 => argF c200 fun a6 r201 => argF r201 fun a7 r202 => argF r202 fun a8 r203 => arg0 r203 (arg0 r200 (.node (O3 D) (.ret (.sb (S3_0 D a0 a1 a2 a5 a6 a7 a8))) (.fail "pre")))))
theorem en3 : ∀ l r, (sp3 R l).run = some r → Entry Try.prog 3 l r := by
  intro l r h
  obtain ⟨_, _, h, L0⟩ := argA_inv h
  obtain ⟨x1, _, h, L1⟩ := argF_inv h
  obtain ⟨x2, _, h, L2⟩ := argF_inv h
  obtain ⟨x3, _, h, L3⟩ := argF_inv h
  obtain ⟨h, L4⟩ := arg0_inv h
  obtain ⟨_, _, h, L5⟩ := argA_inv h
  obtain ⟨x6, _, h, L6⟩ := argF_inv h
  obtain ⟨x7, _, h, L7⟩ := argF_inv h
  obtain ⟨x8, _, h, L8⟩ := argF_inv h
  obtain ⟨h, L9⟩ := arg0_inv h
  obtain ⟨_, _, h, L10⟩ := argA_inv h
  obtain ⟨x11, _, h, L11⟩ := argF_inv h
  obtain ⟨x12, _, h, L12⟩ := argF_inv h
  obtain ⟨x13, _, h, L13⟩ := argF_inv h
  obtain ⟨h, L14⟩ := arg0_inv h
  obtain ⟨h, L15⟩ := arg0_inv h
  obtain ⟨hok, rfl⟩ := run_okay h
  exact (entry_of prg tok_11 (ev3 R x1 x2 x3 x6 x7 x8 x11 x12 x13) (fun o ho => (Option.some.inj ho) ▸ hok) rfl).le (L0 _ _ (L1 _ (L2 _ (L3 _ L4))) (L5 _ _ (L6 _ (L7 _ (L8 _ L9))) (L10 _ _ (L11 _ (L12 _ (L13 _ L14))) L15)))
def tl_3 : List (Nat × Ev.Spec) := (3, sp3) :: tl_11
def tbl_3 (D : Dom) : Tbl D := tblOf tl_3 D
theorem tok_3 : TblOK Try.prog (tbl_3 R) := TblOK.cons tok_11 en3

-- penumbra/penumbraref06.Clean
def S15_0 (D : Dom) (a0 : D.F) : D.F := (D.fite (D.bite (D.bite (D.flt a0 (D.fc 0)) (D.bc true) (D.fge a0 (D.fc 4607182418800017408))) (D.bc true) (D.bnot (D.feq a0 a0))) (D.fc 0) a0)
theorem ev15 (D : Dom) (a0 : D.F) : joinT (evFn Try.prog (tbl_3 D) 60 15 [.fl a0]) = .val none (.fl (S15_0 D a0)) := by kernel_rfl
def sp15 : Ev.Spec := fun D l => argF l fun a0 r0 => arg0 r0 (.ret (.fl (S15_0 D a0)))
theorem en15 : ∀ l r, (sp15 R l).run = some r → Entry Try.prog 15 l r := by
  intro l r h
  obtain ⟨x0, _, h, L0⟩ := argF_inv h
  obtain ⟨h, L1⟩ := arg0_inv h
  cases h
  exact (entry_of prg tok_3 (ev15 R x0) (fun o ho => nomatch ho) rfl).le (L0 _ L1)
def tl_15 : List (Nat × Ev.Spec) := (15, sp15) :: tl_3
def tbl_15 (D : Dom) : Tbl D := tblOf tl_15 D
theorem tok_15 : TblOK Try.prog (tbl_15 R) := TblOK.cons tok_3 en15

-- penumbra/penumbraref09.Sector
def S27_0 (D : Dom) (a0 : D.F) : D.F := (D.fite (D.bite (D.zle (D.zc 2) (D.zite (D.fle (D.i2f (D.zc 1)) (D.fmul (D.fc 4620693217682128896) (S15_0 D a0))) (D.zite (D.fle (D.i2f (D.zc 2)) (D.fmul (D.fc 4620693217682128896) (S15_0 D a0))) (D.zite (D.fle (D.i2f (D.zc 3)) (D.fmul (D.fc 4620693217682128896) (S15_0 D a0))) (D.zite (D.fle (D.i2f (D.zc 4)) (D.fmul (D.fc 4620693217682128896) (S15_0 D a0))) (D.zite (D.fle (D.i2f (D.zc 5)) (D.fmul (D.fc 4620693217682128896) (S15_0 D a0))) (D.zite (D.fle (D.i2f (D.zc 6)) (D.fmul (D.fc 4620693217682128896) (S15_0 D a0))) (D.zite (D.fle (D.i2f (D.zc 7)) (D.fmul (D.fc 4620693217682128896) (S15_0 D a0))) (D.zc 7) (D.zc 6)) (D.zc 5)) (D.zc 4)) (D.zc 3)) (D.zc 2)) (D.zc 1)) (D.zc 0))) (D.zle (D.zite (D.fle (D.i2f (D.zc 1)) (D.fmul (D.fc 4620693217682128896) (S15_0 D a0))) (D.zite (D.fle (D.i2f (D.zc 2)) (D.fmul (D.fc 4620693217682128896) (S15_0 D a0))) (D.zite (D.fle (D.i2f (D.zc 3)) (D.fmul (D.fc 4620693217682128896) (S15_0 D a0))) (D.zite (D.fle (D.i2f (D.zc 4)) (D.fmul (D.fc 4620693217682128896) (S15_0 D a0))) (D.zite (D.fle (D.i2f (D.zc 5)) (D.fmul (D.fc 4620693217682128896) (S15_0 D a0))) (D.zite (D.fle (D.i2f (D.zc 6)) (D.fmul (D.fc 4620693217682128896) (S15_0 D a0))) (D.zite (D.fle (D.i2f (D.zc 7)) (D.fmul (D.fc 4620693217682128896) (S15_0 D a0))) (D.zc 7) (D.zc 6)) (D.zc 5)) (D.zc 4)) (D.zc 3)) (D.zc 2)) (D.zc 1)) (D.zc 0)) (D.zc 5)) (D.bc false)) (D.fsub (D.fc 0) (D.fite (D.bite (D.bite (D.bite (D.zeq (D.zite (D.fle (D.i2f (D.zc 1)) (D.fmul (D.fc 4620693217682128896) (S15_0 D a0))) (D.zite (D.fle (D.i2f (D.zc 2)) (D.fmul (D.fc 4620693217682128896) (S15_0 D a0))) (D.zite (D.fle (D.i2f (D.zc 3)) (D.fmul (D.fc 4620693217682128896) (S15_0 D a0))) (D.zite (D.fle (D.i2f (D.zc 4)) (D.fmul (D.fc 4620693217682128896) (S15_0 D a0))) (D.zite (D.fle (D.i2f (D.zc 5)) (D.fmul (D.fc 4620693217682128896) (S15_0 D a0))) (D.zite (D.fle (D.i2f (D.zc 6)) (D.fmul (D.fc 4620693217682128896) (S15_0 D a0))) (D.zite (D.fle (D.i2f (D.zc 7)) (D.fmul (D.fc 4620693217682128896) (S15_0 D a0))) (D.zc 7) (D.zc 6)) (D.zc 5)) (D.zc 4)) (D.zc 3)) (D.zc 2)) (D.zc 1)) (D.zc 0)) (D.zc 1)) (D.bc true) (D.zeq (D.zite (D.fle (D.i2f (D.zc 1)) (D.fmul (D.fc 4620693217682128896) (S15_0 D a0))) (D.zite (D.fle (D.i2f (D.zc 2)) (D.fmul (D.fc 4620693217682128896) (S15_0 D a0))) (D.zite (D.fle (D.i2f (D.zc 3)) (D.fmul (D.fc 4620693217682128896) (S15_0 D a0))) (D.zite (D.fle (D.i2f (D.zc 4)) (D.fmul (D.fc 4620693217682128896) (S15_0 D a0))) (D.zite (D.fle (D.i2f (D.zc 5)) (D.fmul (D.fc 4620693217682128896) (S15_0 D a0))) (D.zite (D.fle (D.i2f (D.zc 6)) (D.fmul (D.fc 4620693217682128896) (S15_0 D a0))) (D.zite (D.fle (D.i2f (D.zc 7)) (D.fmul (D.fc 4620693217682128896) (S15_0 D a0))) (D.zc 7) (D.zc 6)) (D.zc 5)) (D.zc 4)) (D.zc 3)) (D.zc 2)) (D.zc 1)) (D.zc 0)) (D.zc 2))) (D.bc true) (D.zeq (D.zite (D.fle (D.i2f (D.zc 1)) (D.fmul (D.fc 4620693217682128896) (S15_0 D a0))) (D.zite (D.fle (D.i2f (D.zc 2)) (D.fmul (D.fc 4620693217682128896) (S15_0 D a0))) (D.zite (D.fle (D.i2f (D.zc 3)) (D.fmul (D.fc 4620693217682128896) (S15_0 D a0))) (D.zite (D.fle (D.i2f (D.zc 4)) (D.fmul (D.fc 4620693217682128896) (S15_0 D a0))) (D.zite (D.fle (D.i2f (D.zc 5)) (D.fmul (D.fc 4620693217682128896) (S15_0 D a0))) (D.zite (D.fle (D.i2f (D.zc 6)) (D.fmul (D.fc 4620693217682128896) (S15_0 D a0))) (D.zite (D.fle (D.i2f (D.zc 7)) (D.fmul (D.fc 4620693217682128896) (S15_0 D a0))) (D.zc 7) (D.zc 6)) (D.zc 5)) (D.zc 4)) (D.zc 3)) (D.zc 2)) (D.zc 1)) (D.zc 0)) (D.zc 5))) (D.bc true) (D.zeq (D.zite (D.fle (D.i2f (D.zc 1)) (D.fmul (D.fc 4620693217682128896) (S15_0 D a0))) (D.zite (D.fle (D.i2f (D.zc 2)) (D.fmul (D.fc 4620693217682128896) (S15_0 D a0))) (D.zite (D.fle (D.i2f (D.zc 3)) (D.fmul (D.fc 4620693217682128896) (S15_0 D a0))) (D.zite (D.fle (D.i2f (D.zc 4)) (D.fmul (D.fc 4620693217682128896) (S15_0 D a0))) (D.zite (D.fle (D.i2f (D.zc 5)) (D.fmul (D.fc 4620693217682128896) (S15_0 D a0))) (D.zite (D.fle (D.i2f (D.zc 6)) (D.fmul (D.fc 4620693217682128896) (S15_0 D a0))) (D.zite (D.fle (D.i2f (D.zc 7)) (D.fmul (D.fc 4620693217682128896) (S15_0 D a0))) (D.zc 7) (D.zc 6)) (D.zc 5)) (D.zc 4)) (D.zc 3)) (D.zc 2)) (D.zc 1)) (D.zc 0)) (D.zc 6))) (D.fdiv (D.fsub (D.fmul (D.fc 4620693217682128896) (S15_0 D a0)) (D.i2f (D.zite (D.fle (D.i2f (D.zc 1)) (D.fmul (D.fc 4620693217682128896) (S15_0 D a0))) (D.zite (D.fle (D.i2f (D.zc 2)) (D.fmul (D.fc 4620693217682128896) (S15_0 D a0))) (D.zite (D.fle (D.i2f (D.zc 3)) (D.fmul (D.fc 4620693217682128896) (S15_0 D a0))) (D.zite (D.fle (D.i2f (D.zc 4)) (D.fmul (D.fc 4620693217682128896) (S15_0 D a0))) (D.zite (D.fle (D.i2f (D.zc 5)) (D.fmul (D.fc 4620693217682128896) (S15_0 D a0))) (D.zite (D.fle (D.i2f (D.zc 6)) (D.fmul (D.fc 4620693217682128896) (S15_0 D a0))) (D.zite (D.fle (D.i2f (D.zc 7)) (D.fmul (D.fc 4620693217682128896) (S15_0 D a0))) (D.zc 7) (D.zc 6)) (D.zc 5)) (D.zc 4)) (D.zc 3)) (D.zc 2)) (D.zc 1)) (D.zc 0)))) (S14_0 D (D.fadd (D.fc 4607182418800017408) (D.fmul (D.fsub (D.fmul (D.fc 4620693217682128896) (S15_0 D a0)) (D.i2f (D.zite (D.fle (D.i2f (D.zc 1)) (D.fmul (D.fc 4620693217682128896) (S15_0 D a0))) (D.zite (D.fle (D.i2f (D.zc 2)) (D.fmul (D.fc 4620693217682128896) (S15_0 D a0))) (D.zite (D.fle (D.i2f (D.zc 3)) (D.fmul (D.fc 4620693217682128896) (S15_0 D a0))) (D.zite (D.fle (D.i2f (D.zc 4)) (D.fmul (D.fc 4620693217682128896) (S15_0 D a0))) (D.zite (D.fle (D.i2f (D.zc 5)) (D.fmul (D.fc 4620693217682128896) (S15_0 D a0))) (D.zite (D.fle (D.i2f (D.zc 6)) (D.fmul (D.fc 4620693217682128896) (S15_0 D a0))) (D.zite (D.fle (D.i2f (D.zc 7)) (D.fmul (D.fc 4620693217682128896) (S15_0 D a0))) (D.zc 7) (D.zc 6)) (D.zc 5)) (D.zc 4)) (D.zc 3)) (D.zc 2)) (D.zc 1)) (D.zc 0)))) (D.fsub (D.fmul (D.fc 4620693217682128896) (S15_0 D a0)) (D.i2f (D.zite (D.fle (D.i2f (D.zc 1)) (D.fmul (D.fc 4620693217682128896) (S15_0 D a0))) (D.zite (D.fle (D.i2f (D.zc 2)) (D.fmul (D.fc 4620693217682128896) (S15_0 D a0))) (D.zite (D.fle (D.i2f (D.zc 3)) (D.fmul (D.fc 4620693217682128896) (S15_0 D a0))) (D.zite (D.fle (D.i2f (D.zc 4)) (D.fmul (D.fc 4620693217682128896) (S15_0 D a0))) (D.zite (D.fle (D.i2f (D.zc 5)) (D.fmul (D.fc 4620693217682128896) (S15_0 D a0))) (D.zite (D.fle (D.i2f (D.zc 6)) (D.fmul (D.fc 4620693217682128896) (S15_0 D a0))) (D.zite (D.fle (D.i2f (D.zc 7)) (D.fmul (D.fc 4620693217682128896) (S15_0 D a0))) (D.zc 7) (D.zc 6)) (D.zc 5)) (D.zc 4)) (D.zc 3)) (D.zc 2)) (D.zc 1)) (D.zc 0)))))))) (D.fdiv (D.fc 4607182418800017408) (S14_0 D (D.fadd (D.fc 4607182418800017408) (D.fmul (D.fsub (D.fmul (D.fc 4620693217682128896) (S15_0 D a0)) (D.i2f (D.zite (D.fle (D.i2f (D.zc 1)) (D.fmul (D.fc 4620693217682128896) (S15_0 D a0))) (D.zite (D.fle (D.i2f (D.zc 2)) (D.fmul (D.fc 4620693217682128896) (S15_0 D a0))) (D.zite (D.fle (D.i2f (D.zc 3)) (D.fmul (D.fc 4620693217682128896) (S15_0 D a0))) (D.zite (D.fle (D.i2f (D.zc 4)) (D.fmul (D.fc 4620693217682128896) (S15_0 D a0))) (D.zite (D.fle (D.i2f (D.zc 5)) (D.fmul (D.fc 4620693217682128896) (S15_0 D a0))) (D.zite (D.fle (D.i2f (D.zc 6)) (D.fmul (D.fc 4620693217682128896) (S15_0 D a0))) (D.zite (D.fle (D.i2f (D.zc 7)) (D.fmul (D.fc 4620693217682128896) (S15_0 D a0))) (D.zc 7) (D.zc 6)) (D.zc 5)) (D.zc 4)) (D.zc 3)) (D.zc 2)) (D.zc 1)) (D.zc 0)))) (D.fsub (D.fmul (D.fc 4620693217682128896) (S15_0 D a0)) (D.i2f (D.zite (D.fle (D.i2f (D.zc 1)) (D.fmul (D.fc 4620693217682128896) (S15_0 D a0))) (D.zite (D.fle (D.i2f (D.zc 2)) (D.fmul (D.fc 4620693217682128896) (S15_0 D a0))) (D.zite (D.fle (D.i2f (D.zc 3)) (D.fmul (D.fc 4620693217682128896) (S15_0 D a0))) (D.zite (D.fle (D.i2f (D.zc 4)) (D.fmul (D.fc 4620693217682128896) (S15_0 D a0))) (D.zite (D.fle (D.i2f (D.zc 5)) (D.fmul (D.fc 4620693217682128896) (S15_0 D a0))) (D.zite (D.fle (D.i2f (D.zc 6)) (D.fmul (D.fc 4620693217682128896) (S15_0 D a0))) (D.zite (D.fle (D.i2f (D.zc 7)) (D.fmul (D.fc 4620693217682128896) (S15_0 D a0))) (D.zc 7) (D.zc 6)) (D.zc 5)) (D.zc 4)) (D.zc 3)) (D.zc 2)) (D.zc 1)) (D.zc 0)))))))))) (D.fite (D.bite (D.bite (D.bite (D.zeq (D.zite (D.fle (D.i2f (D.zc 1)) (D.fmul (D.fc 4620693217682128896) (S15_0 D a0))) (D.zite (D.fle (D.i2f (D.zc 2)) (D.fmul (D.fc 4620693217682128896) (S15_0 D a0))) (D.zite (D.fle (D.i2f (D.zc 3)) (D.fmul (D.fc 4620693217682128896) (S15_0 D a0))) (D.zite (D.fle (D.i2f (D.zc 4)) (D.fmul (D.fc 4620693217682128896) (S15_0 D a0))) (D.zite (D.fle (D.i2f (D.zc 5)) (D.fmul (D.fc 4620693217682128896) (S15_0 D a0))) (D.zite (D.fle (D.i2f (D.zc 6)) (D.fmul (D.fc 4620693217682128896) (S15_0 D a0))) (D.zite (D.fle (D.i2f (D.zc 7)) (D.fmul (D.fc 4620693217682128896) (S15_0 D a0))) (D.zc 7) (D.zc 6)) (D.zc 5)) (D.zc 4)) (D.zc 3)) (D.zc 2)) (D.zc 1)) (D.zc 0)) (D.zc 1)) (D.bc true) (D.zeq (D.zite (D.fle (D.i2f (D.zc 1)) (D.fmul (D.fc 4620693217682128896) (S15_0 D a0))) (D.zite (D.fle (D.i2f (D.zc 2)) (D.fmul (D.fc 4620693217682128896) (S15_0 D a0))) (D.zite (D.fle (D.i2f (D.zc 3)) (D.fmul (D.fc 4620693217682128896) (S15_0 D a0))) (D.zite (D.fle (D.i2f (D.zc 4)) (D.fmul (D.fc 4620693217682128896) (S15_0 D a0))) (D.zite (D.fle (D.i2f (D.zc 5)) (D.fmul (D.fc 4620693217682128896) (S15_0 D a0))) (D.zite (D.fle (D.i2f (D.zc 6)) (D.fmul (D.fc 4620693217682128896) (S15_0 D a0))) (D.zite (D.fle (D.i2f (D.zc 7)) (D.fmul (D.fc 4620693217682128896) (S15_0 D a0))) (D.zc 7) (D.zc 6)) (D.zc 5)) (D.zc 4)) (D.zc 3)) (D.zc 2)) (D.zc 1)) (D.zc 0)) (D.zc 2))) (D.bc true) (D.zeq (D.zite (D.fle (D.i2f (D.zc 1)) (D.fmul (D.fc 4620693217682128896) (S15_0 D a0))) (D.zite (D.fle (D.i2f (D.zc 2)) (D.fmul (D.fc 4620693217682128896) (S15_0 D a0))) (D.zite (D.fle (D.i2f (D.zc 3)) (D.fmul (D.fc 4620693217682128896) (S15_0 D a0))) (D.zite (D.fle (D.i2f (D.zc 4)) (D.fmul (D.fc 4620693217682128896) (S15_0 D a0))) (D.zite (D.fle (D.i2f (D.zc 5)) (D.fmul (D.fc 4620693217682128896) (S15_0 D a0))) (D.zite (D.fle (D.i2f (D.zc 6)) (D.fmul (D.fc 4620693217682128896) (S15_0 D a0))) (D.zite (D.fle (D.i2f (D.zc 7)) (D.fmul (D.fc 4620693217682128896) (S15_0 D a0))) (D.zc 7) (D.zc 6)) (D.zc 5)) (D.zc 4)) (D.zc 3)) (D.zc 2)) (D.zc 1)) (D.zc 0)) (D.zc 5))) (D.bc true) (D.zeq (D.zite (D.fle (D.i2f (D.zc 1)) (D.fmul (D.fc 4620693217682128896) (S15_0 D a0))) (D.zite (D.fle (D.i2f (D.zc 2)) (D.fmul (D.fc 4620693217682128896) (S15_0 D a0))) (D.zite (D.fle (D.i2f (D.zc 3)) (D.fmul (D.fc 4620693217682128896) (S15_0 D a0))) (D.zite (D.fle (D.i2f (D.zc 4)) (D.fmul (D.fc 4620693217682128896) (S15_0 D a0))) (D.zite (D.fle (D.i2f (D.zc 5)) (D.fmul (D.fc 4620693217682128896) (S15_0 D a0))) (D.zite (D.fle (D.i2f (D.zc 6)) (D.fmul (D.fc 4620693217682128896) (S15_0 D a0))) (D.zite (D.fle (D.i2f (D.zc 7)) (D.fmul (D.fc 4620693217682128896) (S15_0 D a0))) (D.zc 7) (D.zc 6)) (D.zc 5)) (D.zc 4)) (D.zc 3)) (D.zc 2)) (D.zc 1)) (D.zc 0)) (D.zc 6))) (D.fdiv (D.fsub (D.fmul (D.fc 4620693217682128896) (S15_0 D a0)) (D.i2f (D.zite (D.fle (D.i2f (D.zc 1)) (D.fmul (D.fc 4620693217682128896) (S15_0 D a0))) (D.zite (D.fle (D.i2f (D.zc 2)) (D.fmul (D.fc 4620693217682128896) (S15_0 D a0))) (D.zite (D.fle (D.i2f (D.zc 3)) (D.fmul (D.fc 4620693217682128896) (S15_0 D a0))) (D.zite (D.fle (D.i2f (D.zc 4)) (D.fmul (D.fc 4620693217682128896) (S15_0 D a0))) (D.zite (D.fle (D.i2f (D.zc 5)) (D.fmul (D.fc 4620693217682128896) (S15_0 D a0))) (D.zite (D.fle (D.i2f (D.zc 6)) (D.fmul (D.fc 4620693217682128896) (S15_0 D a0))) (D.zite (D.fle (D.i2f (D.zc 7)) (D.fmul (D.fc 4620693217682128896) (S15_0 D a0))) (D.zc 7) (D.zc 6)) (D.zc 5)) (D.zc 4)) (D.zc 3)) (D.zc 2)) (D.zc 1)) (D.zc 0)))) (S14_0 D (D.fadd (D.fc 4607182418800017408) (D.fmul (D.fsub (D.fmul (D.fc 4620693217682128896) (S15_0 D a0)) (D.i2f (D.zite (D.fle (D.i2f (D.zc 1)) (D.fmul (D.fc 4620693217682128896) (S15_0 D a0))) (D.zite (D.fle (D.i2f (D.zc 2)) (D.fmul (D.fc 4620693217682128896) (S15_0 D a0))) (D.zite (D.fle (D.i2f (D.zc 3)) (D.fmul (D.fc 4620693217682128896) (S15_0 D a0))) (D.zite (D.fle (D.i2f (D.zc 4)) (D.fmul (D.fc 4620693217682128896) (S15_0 D a0))) (D.zite (D.fle (D.i2f (D.zc 5)) (D.fmul (D.fc 4620693217682128896) (S15_0 D a0))) (D.zite (D.fle (D.i2f (D.zc 6)) (D.fmul (D.fc 4620693217682128896) (S15_0 D a0))) (D.zite (D.fle (D.i2f (D.zc 7)) (D.fmul (D.fc 4620693217682128896) (S15_0 D a0))) (D.zc 7) (D.zc 6)) (D.zc 5)) (D.zc 4)) (D.zc 3)) (D.zc 2)) (D.zc 1)) (D.zc 0)))) (D.fsub (D.fmul (D.fc 4620693217682128896) (S15_0 D a0)) (D.i2f (D.zite (D.fle (D.i2f (D.zc 1)) (D.fmul (D.fc 4620693217682128896) (S15_0 D a0))) (D.zite (D.fle (D.i2f (D.zc 2)) (D.fmul (D.fc 4620693217682128896) (S15_0 D a0))) (D.zite (D.fle (D.i2f (D.zc 3)) (D.fmul (D.fc 4620693217682128896) (S15_0 D a0))) (D.zite (D.fle (D.i2f (D.zc 4)) (D.fmul (D.fc 4620693217682128896) (S15_0 D a0))) (D.zite (D.fle (D.i2f (D.zc 5)) (D.fmul (D.fc 4620693217682128896) (S15_0 D a0))) (D.zite (D.fle (D.i2f (D.zc 6)) (D.fmul (D.fc 4620693217682128896) (S15_0 D a0))) (D.zite (D.fle (D.i2f (D.zc 7)) (D.fmul (D.fc 4620693217682128896) (S15_0 D a0))) (D.zc 7) (D.zc 6)) (D.zc 5)) (D.zc 4)) (D.zc 3)) (D.zc 2)) (D.zc 1)) (D.zc 0)))))))) (D.fdiv (D.fc 4607182418800017408) (S14_0 D (D.fadd (D.fc 4607182418800017408) (D.fmul (D.fsub (D.fmul (D.fc 4620693217682128896) (S15_0 D a0)) (D.i2f (D.zite (D.fle (D.i2f (D.zc 1)) (D.fmul (D.fc 4620693217682128896) (S15_0 D a0))) (D.zite (D.fle (D.i2f (D.zc 2)) (D.fmul (D.fc 4620693217682128896) (S15_0 D a0))) (D.zite (D.fle (D.i2f (D.zc 3)) (D.fmul (D.fc 4620693217682128896) (S15_0 D a0))) (D.zite (D.fle (D.i2f (D.zc 4)) (D.fmul (D.fc 4620693217682128896) (S15_0 D a0))) (D.zite (D.fle (D.i2f (D.zc 5)) (D.fmul (D.fc 4620693217682128896) (S15_0 D a0))) (D.zite (D.fle (D.i2f (D.zc 6)) (D.fmul (D.fc 4620693217682128896) (S15_0 D a0))) (D.zite (D.fle (D.i2f (D.zc 7)) (D.fmul (D.fc 4620693217682128896) (S15_0 D a0))) (D.zc 7) (D.zc 6)) (D.zc 5)) (D.zc 4)) (D.zc 3)) (D.zc 2)) (D.zc 1)) (D.zc 0)))) (D.fsub (D.fmul (D.fc 4620693217682128896) (S15_0 D a0)) (D.i2f (D.zite (D.fle (D.i2f (D.zc 1)) (D.fmul (D.fc 4620693217682128896) (S15_0 D a0))) (D.zite (D.fle (D.i2f (D.zc 2)) (D.fmul (D.fc 4620693217682128896) (S15_0 D a0))) (D.zite (D.fle (D.i2f (D.zc 3)) (D.fmul (D.fc 4620693217682128896) (S15_0 D a0))) (D.zite (D.fle (D.i2f (D.zc 4)) (D.fmul (D.fc 4620693217682128896) (S15_0 D a0))) (D.zite (D.fle (D.i2f (D.zc 5)) (D.fmul (D.fc 4620693217682128896) (S15_0 D a0))) (D.zite (D.fle (D.i2f (D.zc 6)) (D.fmul (D.fc 4620693217682128896) (S15_0 D a0))) (D.zite (D.fle (D.i2f (D.zc 7)) (D.fmul (D.fc 4620693217682128896) (S15_0 D a0))) (D.zc 7) (D.zc 6)) (D.zc 5)) (D.zc 4)) (D.zc 3)) (D.zc 2)) (D.zc 1)) (D.zc 0))))))))))
def S27_1 (D : Dom) (a0 : D.F) : D.F := (D.fite (D.zle (D.zc 4) (D.zite (D.fle (D.i2f (D.zc 1)) (D.fmul (D.fc 4620693217682128896) (S15_0 D a0))) (D.zite (D.fle (D.i2f (D.zc 2)) (D.fmul (D.fc 4620693217682128896) (S15_0 D a0))) (D.zite (D.fle (D.i2f (D.zc 3)) (D.fmul (D.fc 4620693217682128896) (S15_0 D a0))) (D.zite (D.fle (D.i2f (D.zc 4)) (D.fmul (D.fc 4620693217682128896) (S15_0 D a0))) (D.zite (D.fle (D.i2f (D.zc 5)) (D.fmul (D.fc 4620693217682128896) (S15_0 D a0))) (D.zite (D.fle (D.i2f (D.zc 6)) (D.fmul (D.fc 4620693217682128896) (S15_0 D a0))) (D.zite (D.fle (D.i2f (D.zc 7)) (D.fmul (D.fc 4620693217682128896) (S15_0 D a0))) (D.zc 7) (D.zc 6)) (D.zc 5)) (D.zc 4)) (D.zc 3)) (D.zc 2)) (D.zc 1)) (D.zc 0))) (D.fsub (D.fc 0) (D.fite (D.bite (D.bite (D.bite (D.zeq (D.zite (D.fle (D.i2f (D.zc 1)) (D.fmul (D.fc 4620693217682128896) (S15_0 D a0))) (D.zite (D.fle (D.i2f (D.zc 2)) (D.fmul (D.fc 4620693217682128896) (S15_0 D a0))) (D.zite (D.fle (D.i2f (D.zc 3)) (D.fmul (D.fc 4620693217682128896) (S15_0 D a0))) (D.zite (D.fle (D.i2f (D.zc 4)) (D.fmul (D.fc 4620693217682128896) (S15_0 D a0))) (D.zite (D.fle (D.i2f (D.zc 5)) (D.fmul (D.fc 4620693217682128896) (S15_0 D a0))) (D.zite (D.fle (D.i2f (D.zc 6)) (D.fmul (D.fc 4620693217682128896) (S15_0 D a0))) (D.zite (D.fle (D.i2f (D.zc 7)) (D.fmul (D.fc 4620693217682128896) (S15_0 D a0))) (D.zc 7) (D.zc 6)) (D.zc 5)) (D.zc 4)) (D.zc 3)) (D.zc 2)) (D.zc 1)) (D.zc 0)) (D.zc 1)) (D.bc true) (D.zeq (D.zite (D.fle (D.i2f (D.zc 1)) (D.fmul (D.fc 4620693217682128896) (S15_0 D a0))) (D.zite (D.fle (D.i2f (D.zc 2)) (D.fmul (D.fc 4620693217682128896) (S15_0 D a0))) (D.zite (D.fle (D.i2f (D.zc 3)) (D.fmul (D.fc 4620693217682128896) (S15_0 D a0))) (D.zite (D.fle (D.i2f (D.zc 4)) (D.fmul (D.fc 4620693217682128896) (S15_0 D a0))) (D.zite (D.fle (D.i2f (D.zc 5)) (D.fmul (D.fc 4620693217682128896) (S15_0 D a0))) (D.zite (D.fle (D.i2f (D.zc 6)) (D.fmul (D.fc 4620693217682128896) (S15_0 D a0))) (D.zite (D.fle (D.i2f (D.zc 7)) (D.fmul (D.fc 4620693217682128896) (S15_0 D a0))) (D.zc 7) (D.zc 6)) (D.zc 5)) (D.zc 4)) (D.zc 3)) (D.zc 2)) (D.zc 1)) (D.zc 0)) (D.zc 2))) (D.bc true) (D.zeq (D.zite (D.fle (D.i2f (D.zc 1)) (D.fmul (D.fc 4620693217682128896) (S15_0 D a0))) (D.zite (D.fle (D.i2f (D.zc 2)) (D.fmul (D.fc 4620693217682128896) (S15_0 D a0))) (D.zite (D.fle (D.i2f (D.zc 3)) (D.fmul (D.fc 4620693217682128896) (S15_0 D a0))) (D.zite (D.fle (D.i2f (D.zc 4)) (D.fmul (D.fc 4620693217682128896) (S15_0 D a0))) (D.zite (D.fle (D.i2f (D.zc 5)) (D.fmul (D.fc 4620693217682128896) (S15_0 D a0))) (D.zite (D.fle (D.i2f (D.zc 6)) (D.fmul (D.fc 4620693217682128896) (S15_0 D a0))) (D.zite (D.fle (D.i2f (D.zc 7)) (D.fmul (D.fc 4620693217682128896) (S15_0 D a0))) (D.zc 7) (D.zc 6)) (D.zc 5)) (D.zc 4)) (D.zc 3)) (D.zc 2)) (D.zc 1)) (D.zc 0)) (D.zc 5))) (D.bc true) (D.zeq (D.zite (D.fle (D.i2f (D.zc 1)) (D.fmul (D.fc 4620693217682128896) (S15_0 D a0))) (D.zite (D.fle (D.i2f (D.zc 2)) (D.fmul (D.fc 4620693217682128896) (S15_0 D a0))) (D.zite (D.fle (D.i2f (D.zc 3)) (D.fmul (D.fc 4620693217682128896) (S15_0 D a0))) (D.zite (D.fle (D.i2f (D.zc 4)) (D.fmul (D.fc 4620693217682128896) (S15_0 D a0))) (D.zite (D.fle (D.i2f (D.zc 5)) (D.fmul (D.fc 4620693217682128896) (S15_0 D a0))) (D.zite (D.fle (D.i2f (D.zc 6)) (D.fmul (D.fc 4620693217682128896) (S15_0 D a0))) (D.zite (D.fle (D.i2f (D.zc 7)) (D.fmul (D.fc 4620693217682128896) (S15_0 D a0))) (D.zc 7) (D.zc 6)) (D.zc 5)) (D.zc 4)) (D.zc 3)) (D.zc 2)) (D.zc 1)) (D.zc 0)) (D.zc 6))) (D.fdiv (D.fc 4607182418800017408) (S14_0 D (D.fadd (D.fc 4607182418800017408) (D.fmul (D.fsub (D.fmul (D.fc 4620693217682128896) (S15_0 D a0)) (D.i2f (D.zite (D.fle (D.i2f (D.zc 1)) (D.fmul (D.fc 4620693217682128896) (S15_0 D a0))) (D.zite (D.fle (D.i2f (D.zc 2)) (D.fmul (D.fc 4620693217682128896) (S15_0 D a0))) (D.zite (D.fle (D.i2f (D.zc 3)) (D.fmul (D.fc 4620693217682128896) (S15_0 D a0))) (D.zite (D.fle (D.i2f (D.zc 4)) (D.fmul (D.fc 4620693217682128896) (S15_0 D a0))) (D.zite (D.fle (D.i2f (D.zc 5)) (D.fmul (D.fc 4620693217682128896) (S15_0 D a0))) (D.zite (D.fle (D.i2f (D.zc 6)) (D.fmul (D.fc 4620693217682128896) (S15_0 D a0))) (D.zite (D.fle (D.i2f (D.zc 7)) (D.fmul (D.fc 4620693217682128896) (S15_0 D a0))) (D.zc 7) (D.zc 6)) (D.zc 5)) (D.zc 4)) (D.zc 3)) (D.zc 2)) (D.zc 1)) (D.zc 0)))) (D.fsub (D.fmul (D.fc 4620693217682128896) (S15_0 D a0)) (D.i2f (D.zite (D.fle (D.i2f (D.zc 1)) (D.fmul (D.fc 4620693217682128896) (S15_0 D a0))) (D.zite (D.fle (D.i2f (D.zc 2)) (D.fmul (D.fc 4620693217682128896) (S15_0 D a0))) (D.zite (D.fle (D.i2f (D.zc 3)) (D.fmul (D.fc 4620693217682128896) (S15_0 D a0))) (D.zite (D.fle (D.i2f (D.zc 4)) (D.fmul (D.fc 4620693217682128896) (S15_0 D a0))) (D.zite (D.fle (D.i2f (D.zc 5)) (D.fmul (D.fc 4620693217682128896) (S15_0 D a0))) (D.zite (D.fle (D.i2f (D.zc 6)) (D.fmul (D.fc 4620693217682128896) (S15_0 D a0))) (D.zite (D.fle (D.i2f (D.zc 7)) (D.fmul (D.fc 4620693217682128896) (S15_0 D a0))) (D.zc 7) (D.zc 6)) (D.zc 5)) (D.zc 4)) (D.zc 3)) (D.zc 2)) (D.zc 1)) (D.zc 0)))))))) (D.fdiv (D.fsub (D.fmul (D.fc 4620693217682128896) (S15_0 D a0)) (D.i2f (D.zite (D.fle (D.i2f (D.zc 1)) (D.fmul (D.fc 4620693217682128896) (S15_0 D a0))) (D.zite (D.fle (D.i2f (D.zc 2)) (D.fmul (D.fc 4620693217682128896) (S15_0 D a0))) (D.zite (D.fle (D.i2f (D.zc 3)) (D.fmul (D.fc 4620693217682128896) (S15_0 D a0))) (D.zite (D.fle (D.i2f (D.zc 4)) (D.fmul (D.fc 4620693217682128896) (S15_0 D a0))) (D.zite (D.fle (D.i2f (D.zc 5)) (D.fmul (D.fc 4620693217682128896) (S15_0 D a0))) (D.zite (D.fle (D.i2f (D.zc 6)) (D.fmul (D.fc 4620693217682128896) (S15_0 D a0))) (D.zite (D.fle (D.i2f (D.zc 7)) (D.fmul (D.fc 4620693217682128896) (S15_0 D a0))) (D.zc 7) (D.zc 6)) (D.zc 5)) (D.zc 4)) (D.zc 3)) (D.zc 2)) (D.zc 1)) (D.zc 0)))) (S14_0 D (D.fadd (D.fc 4607182418800017408) (D.fmul (D.fsub (D.fmul (D.fc 4620693217682128896) (S15_0 D a0)) (D.i2f (D.zite (D.fle (D.i2f (D.zc 1)) (D.fmul (D.fc 4620693217682128896) (S15_0 D a0))) (D.zite (D.fle (D.i2f (D.zc 2)) (D.fmul (D.fc 4620693217682128896) (S15_0 D a0))) (D.zite (D.fle (D.i2f (D.zc 3)) (D.fmul (D.fc 4620693217682128896) (S15_0 D a0))) (D.zite (D.fle (D.i2f (D.zc 4)) (D.fmul (D.fc 4620693217682128896) (S15_0 D a0))) (D.zite (D.fle (D.i2f (D.zc 5)) (D.fmul (D.fc 4620693217682128896) (S15_0 D a0))) (D.zite (D.fle (D.i2f (D.zc 6)) (D.fmul (D.fc 4620693217682128896) (S15_0 D a0))) (D.zite (D.fle (D.i2f (D.zc 7)) (D.fmul (D.fc 4620693217682128896) (S15_0 D a0))) (D.zc 7) (D.zc 6)) (D.zc 5)) (D.zc 4)) (D.zc 3)) (D.zc 2)) (D.zc 1)) (D.zc 0)))) (D.fsub (D.fmul (D.fc 4620693217682128896) (S15_0 D a0)) (D.i2f (D.zite (D.fle (D.i2f (D.zc 1)) (D.fmul (D.fc 4620693217682128896) (S15_0 D a0))) (D.zite (D.fle (D.i2f (D.zc 2)) (D.fmul (D.fc 4620693217682128896) (S15_0 D a0))) (D.zite (D.fle (D.i2f (D.zc 3)) (D.fmul (D.fc 4620693217682128896) (S15_0 D a0))) (D.zite (D.fle (D.i2f (D.zc 4)) (D.fmul (D.fc 4620693217682128896) (S15_0 D a0))) (D.zite (D.fle (D.i2f (D.zc 5)) (D.fmul (D.fc 4620693217682128896) (S15_0 D a0))) (D.zite (D.fle (D.i2f (D.zc 6)) (D.fmul (D.fc 4620693217682128896) (S15_0 D a0))) (D.zite (D.fle (D.i2f (D.zc 7)) (D.fmul (D.fc 4620693217682128896) (S15_0 D a0))) (D.zc 7) (D.zc 6)) (D.zc 5)) (D.zc 4)) (D.zc 3)) (D.zc 2)) (D.zc 1)) (D.zc 0)))))))))) (D.fite (D.bite (D.bite (D.bite (D.zeq (D.zite (D.fle (D.i2f (D.zc 1)) (D.fmul (D.fc 4620693217682128896) (S15_0 D a0))) (D.zite (D.fle (D.i2f (D.zc 2)) (D.fmul (D.fc 4620693217682128896) (S15_0 D a0))) (D.zite (D.fle (D.i2f (D.zc 3)) (D.fmul (D.fc 4620693217682128896) (S15_0 D a0))) (D.zite (D.fle (D.i2f (D.zc 4)) (D.fmul (D.fc 4620693217682128896) (S15_0 D a0))) (D.zite (D.fle (D.i2f (D.zc 5)) (D.fmul (D.fc 4620693217682128896) (S15_0 D a0))) (D.zite (D.fle (D.i2f (D.zc 6)) (D.fmul (D.fc 4620693217682128896) (S15_0 D a0))) (D.zite (D.fle (D.i2f (D.zc 7)) (D.fmul (D.fc 4620693217682128896) (S15_0 D a0))) (D.zc 7) (D.zc 6)) (D.zc 5)) (D.zc 4)) (D.zc 3)) (D.zc 2)) (D.zc 1)) (D.zc 0)) (D.zc 1)) (D.bc true) (D.zeq (D.zite (D.fle (D.i2f (D.zc 1)) (D.fmul (D.fc 4620693217682128896) (S15_0 D a0))) (D.zite (D.fle (D.i2f (D.zc 2)) (D.fmul (D.fc 4620693217682128896) (S15_0 D a0))) (D.zite (D.fle (D.i2f (D.zc 3)) (D.fmul (D.fc 4620693217682128896) (S15_0 D a0))) (D.zite (D.fle (D.i2f (D.zc 4)) (D.fmul (D.fc 4620693217682128896) (S15_0 D a0))) (D.zite (D.fle (D.i2f (D.zc 5)) (D.fmul (D.fc 4620693217682128896) (S15_0 D a0))) (D.zite (D.fle (D.i2f (D.zc 6)) (D.fmul (D.fc 4620693217682128896) (S15_0 D a0))) (D.zite (D.fle (D.i2f (D.zc 7)) (D.fmul (D.fc 4620693217682128896) (S15_0 D a0))) (D.zc 7) (D.zc 6)) (D.zc 5)) (D.zc 4)) (D.zc 3)) (D.zc 2)) (D.zc 1)) (D.zc 0)) (D.zc 2))) (D.bc true) (D.zeq (D.zite (D.fle (D.i2f (D.zc 1)) (D.fmul (D.fc 4620693217682128896) (S15_0 D a0))) (D.zite (D.fle (D.i2f (D.zc 2)) (D.fmul (D.fc 4620693217682128896) (S15_0 D a0))) (D.zite (D.fle (D.i2f (D.zc 3)) (D.fmul (D.fc 4620693217682128896) (S15_0 D a0))) (D.zite (D.fle (D.i2f (D.zc 4)) (D.fmul (D.fc 4620693217682128896) (S15_0 D a0))) (D.zite (D.fle (D.i2f (D.zc 5)) (D.fmul (D.fc 4620693217682128896) (S15_0 D a0))) (D.zite (D.fle (D.i2f (D.zc 6)) (D.fmul (D.fc 4620693217682128896) (S15_0 D a0))) (D.zite (D.fle (D.i2f (D.zc 7)) (D.fmul (D.fc 4620693217682128896) (S15_0 D a0))) (D.zc 7) (D.zc 6)) (D.zc 5)) (D.zc 4)) (D.zc 3)) (D.zc 2)) (D.zc 1)) (D.zc 0)) (D.zc 5))) (D.bc true) (D.zeq (D.zite (D.fle (D.i2f (D.zc 1)) (D.fmul (D.fc 4620693217682128896) (S15_0 D a0))) (D.zite (D.fle (D.i2f (D.zc 2)) (D.fmul (D.fc 4620693217682128896) (S15_0 D a0))) (D.zite (D.fle (D.i2f (D.zc 3)) (D.fmul (D.fc 4620693217682128896) (S15_0 D a0))) (D.zite (D.fle (D.i2f (D.zc 4)) (D.fmul (D.fc 4620693217682128896) (S15_0 D a0))) (D.zite (D.fle (D.i2f (D.zc 5)) (D.fmul (D.fc 4620693217682128896) (S15_0 D a0))) (D.zite (D.fle (D.i2f (D.zc 6)) (D.fmul (D.fc 4620693217682128896) (S15_0 D a0))) (D.zite (D.fle (D.i2f (D.zc 7)) (D.fmul (D.fc 4620693217682128896) (S15_0 D a0))) (D.zc 7) (D.zc 6)) (D.zc 5)) (D.zc 4)) (D.zc 3)) (D.zc 2)) (D.zc 1)) (D.zc 0)) (D.zc 6))) (D.fdiv (D.fc 4607182418800017408) (S14_0 D (D.fadd (D.fc 4607182418800017408) (D.fmul (D.fsub (D.fmul (D.fc 4620693217682128896) (S15_0 D a0)) (D.i2f (D.zite (D.fle (D.i2f (D.zc 1)) (D.fmul (D.fc 4620693217682128896) (S15_0 D a0))) (D.zite (D.fle (D.i2f (D.zc 2)) (D.fmul (D.fc 4620693217682128896) (S15_0 D a0))) (D.zite (D.fle (D.i2f (D.zc 3)) (D.fmul (D.fc 4620693217682128896) (S15_0 D a0))) (D.zite (D.fle (D.i2f (D.zc 4)) (D.fmul (D.fc 4620693217682128896) (S15_0 D a0))) (D.zite (D.fle (D.i2f (D.zc 5)) (D.fmul (D.fc 4620693217682128896) (S15_0 D a0))) (D.zite (D.fle (D.i2f (D.zc 6)) (D.fmul (D.fc 4620693217682128896) (S15_0 D a0))) (D.zite (D.fle (D.i2f (D.zc 7)) (D.fmul (D.fc 4620693217682128896) (S15_0 D a0))) (D.zc 7) (D.zc 6)) (D.zc 5)) (D.zc 4)) (D.zc 3)) (D.zc 2)) (D.zc 1)) (D.zc 0)))) (D.fsub (D.fmul (D.fc 4620693217682128896) (S15_0 D a0)) (D.i2f (D.zite (D.fle (D.i2f (D.zc 1)) (D.fmul (D.fc 4620693217682128896) (S15_0 D a0))) (D.zite (D.fle (D.i2f (D.zc 2)) (D.fmul (D.fc 4620693217682128896) (S15_0 D a0))) (D.zite (D.fle (D.i2f (D.zc 3)) (D.fmul (D.fc 4620693217682128896) (S15_0 D a0))) (D.zite (D.fle (D.i2f (D.zc 4)) (D.fmul (D.fc 4620693217682128896) (S15_0 D a0))) (D.zite (D.fle (D.i2f (D.zc 5)) (D.fmul (D.fc 4620693217682128896) (S15_0 D a0))) (D.zite (D.fle (D.i2f (D.zc 6)) (D.fmul (D.fc 4620693217682128896) (S15_0 D a0))) (D.zite (D.fle (D.i2f (D.zc 7)) (D.fmul (D.fc 4620693217682128896) (S15_0 D a0))) (D.zc 7) (D.zc 6)) (D.zc 5)) (D.zc 4)) (D.zc 3)) (D.zc 2)) (D.zc 1)) (D.zc 0)))))))) (D.fdiv (D.fsub (D.fmul (D.fc 4620693217682128896) (S15_0 D a0)) (D.i2f (D.zite (D.fle (D.i2f (D.zc 1)) (D.fmul (D.fc 4620693217682128896) (S15_0 D a0))) (D.zite (D.fle (D.i2f (D.zc 2)) (D.fmul (D.fc 4620693217682128896) (S15_0 D a0))) (D.zite (D.fle (D.i2f (D.zc 3)) (D.fmul (D.fc 4620693217682128896) (S15_0 D a0))) (D.zite (D.fle (D.i2f (D.zc 4)) (D.fmul (D.fc 4620693217682128896) (S15_0 D a0))) (D.zite (D.fle (D.i2f (D.zc 5)) (D.fmul (D.fc 4620693217682128896) (S15_0 D a0))) (D.zite (D.fle (D.i2f (D.zc 6)) (D.fmul (D.fc 4620693217682128896) (S15_0 D a0))) (D.zite (D.fle (D.i2f (D.zc 7)) (D.fmul (D.fc 4620693217682128896) (S15_0 D a0))) (D.zc 7) (D.zc 6)) (D.zc 5)) (D.zc 4)) (D.zc 3)) (D.zc 2)) (D.zc 1)) (D.zc 0)))) (S14_0 D (D.fadd (D.fc 4607182418800017408) (D.fmul (D.fsub (D.fmul (D.fc 4620693217682128896) (S15_0 D a0)) (D.i2f (D.zite (D.fle (D.i2f (D.zc 1)) (D.fmul (D.fc 4620693217682128896) (S15_0 D a0))) (D.zite (D.fle (D.i2f (D.zc 2)) (D.fmul (D.fc 4620693217682128896) (S15_0 D a0))) (D.zite (D.fle (D.i2f (D.zc 3)) (D.fmul (D.fc 4620693217682128896) (S15_0 D a0))) (D.zite (D.fle (D.i2f (D.zc 4)) (D.fmul (D.fc 4620693217682128896) (S15_0 D a0))) (D.zite (D.fle (D.i2f (D.zc 5)) (D.fmul (D.fc 4620693217682128896) (S15_0 D a0))) (D.zite (D.fle (D.i2f (D.zc 6)) (D.fmul (D.fc 4620693217682128896) (S15_0 D a0))) (D.zite (D.fle (D.i2f (D.zc 7)) (D.fmul (D.fc 4620693217682128896) (S15_0 D a0))) (D.zc 7) (D.zc 6)) (D.zc 5)) (D.zc 4)) (D.zc 3)) (D.zc 2)) (D.zc 1)) (D.zc 0)))) (D.fsub (D.fmul (D.fc 4620693217682128896) (S15_0 D a0)) (D.i2f (D.zite (D.fle (D.i2f (D.zc 1)) (D.fmul (D.fc 4620693217682128896) (S15_0 D a0))) (D.zite (D.fle (D.i2f (D.zc 2)) (D.fmul (D.fc 4620693217682128896) (S15_0 D a0))) (D.zite (D.fle (D.i2f (D.zc 3)) (D.fmul (D.fc 4620693217682128896) (S15_0 D a0))) (D.zite (D.fle (D.i2f (D.zc 4)) (D.fmul (D.fc 4620693217682128896) (S15_0 D a0))) (D.zite (D.fle (D.i2f (D.zc 5)) (D.fmul (D.fc 4620693217682128896) (S15_0 D a0))) (D.zite (D.fle (D.i2f (D.zc 6)) (D.fmul (D.fc 4620693217682128896) (S15_0 D a0))) (D.zite (D.fle (D.i2f (D.zc 7)) (D.fmul (D.fc 4620693217682128896) (S15_0 D a0))) (D.zc 7) (D.zc 6)) (D.zc 5)) (D.zc 4)) (D.zc 3)) (D.zc 2)) (D.zc 1)) (D.zc 0))))))))))
def S27_2 (D : Dom) (a0 : D.F) : D.F := (D.fmul (D.fadd (D.fc 4607182418800017408) (D.fmul (D.fsub (D.fmul (D.fc 4620693217682128896) (S15_0 D a0)) (D.i2f (D.zite (D.fle (D.i2f (D.zc 1)) (D.fmul (D.fc 4620693217682128896) (S15_0 D a0))) (D.zite (D.fle (D.i2f (D.zc 2)) (D.fmul (D.fc 4620693217682128896) (S15_0 D a0))) (D.zite (D.fle (D.i2f (D.zc 3)) (D.fmul (D.fc 4620693217682128896) (S15_0 D a0))) (D.zite (D.fle (D.i2f (D.zc 4)) (D.fmul (D.fc 4620693217682128896) (S15_0 D a0))) (D.zite (D.fle (D.i2f (D.zc 5)) (D.fmul (D.fc 4620693217682128896) (S15_0 D a0))) (D.zite (D.fle (D.i2f (D.zc 6)) (D.fmul (D.fc 4620693217682128896) (S15_0 D a0))) (D.zite (D.fle (D.i2f (D.zc 7)) (D.fmul (D.fc 4620693217682128896) (S15_0 D a0))) (D.zc 7) (D.zc 6)) (D.zc 5)) (D.zc 4)) (D.zc 3)) (D.zc 2)) (D.zc 1)) (D.zc 0)))) (D.fsub (D.fmul (D.fc 4620693217682128896) (S15_0 D a0)) (D.i2f (D.zite (D.fle (D.i2f (D.zc 1)) (D.fmul (D.fc 4620693217682128896) (S15_0 D a0))) (D.zite (D.fle (D.i2f (D.zc 2)) (D.fmul (D.fc 4620693217682128896) (S15_0 D a0))) (D.zite (D.fle (D.i2f (D.zc 3)) (D.fmul (D.fc 4620693217682128896) (S15_0 D a0))) (D.zite (D.fle (D.i2f (D.zc 4)) (D.fmul (D.fc 4620693217682128896) (S15_0 D a0))) (D.zite (D.fle (D.i2f (D.zc 5)) (D.fmul (D.fc 4620693217682128896) (S15_0 D a0))) (D.zite (D.fle (D.i2f (D.zc 6)) (D.fmul (D.fc 4620693217682128896) (S15_0 D a0))) (D.zite (D.fle (D.i2f (D.zc 7)) (D.fmul (D.fc 4620693217682128896) (S15_0 D a0))) (D.zc 7) (D.zc 6)) (D.zc 5)) (D.zc 4)) (D.zc 3)) (D.zc 2)) (D.zc 1)) (D.zc 0)))))) (D.fc 4593671619917905920))
theorem ev27 (D : Dom) (a0 : D.F) : joinT (evFn Try.prog (tbl_15 D) 60 27 [.fl a0]) = .val none (.tup [.fl (S27_0 D a0), .fl (S27_1 D a0), .fl (S27_2 D a0)]) := by kernel_rfl
def sp27 : Ev.Spec := fun D l => argF l fun a0 r0 => arg0 r0 (.ret (.tup [.fl (S27_0 D a0), .fl (S27_1 D a0), .fl (S27_2 D a0)]))
theorem en27 : ∀ l r, (sp27 R l).run = some r → Entry Try.prog 27 l r := by
  intro l r h
  obtain ⟨x0, _, h, L0⟩ := argF_inv h
  obtain ⟨h, L1⟩ := arg0_inv h
  cases h
  exact (entry_of prg tok_15 (ev27 R x0) (fun o ho => nomatch ho) rfl).le (L0 _ L1)
def tl_27 : List (Nat × Ev.Spec) := (27, sp27) :: tl_15
def tbl_27 (D : Dom) : Tbl D := tblOf tl_27 D
theorem tok_27 : TblOK Try.prog (tbl_27 R) := TblOK.cons tok_15 en27

-- penumbra/penumbraref09.Disk
def S13_0 (D : Dom) (a0 : D.F) (a1 : D.F) : D.F := (D.fmul (S27_0 D a1) (S14_0 D (S15_0 D a0)))
def S13_1 (D : Dom) (a0 : D.F) (a1 : D.F) : D.F := (D.fmul (S27_1 D a1) (S14_0 D (S15_0 D a0)))
def S13_2 (D : Dom) (a1 : D.F) : D.F := (D.fmul (S27_2 D a1) (D.fc 4611686018427387904))
theorem ev13 (D : Dom) (a0 : D.F) (a1 : D.F) : joinT (evFn Try.prog (tbl_27 D) 60 13 [.fl a0, .fl a1]) = .val none (.tup [.fl (S13_0 D a0 a1), .fl (S13_1 D a0 a1), .fl (S13_2 D a1)]) := by kernel_rfl
def sp13 : Ev.Spec := fun D l => argF l fun a0 r0 => argF r0 fun a1 r1 => arg0 r1 (.ret (.tup [.fl (S13_0 D a0 a1), .fl (S13_1 D a0 a1), .fl (S13_2 D a1)]))
theorem en13 : ∀ l r, (sp13 R l).run = some r → Entry Try.prog 13 l r := by
  intro l r h
  obtain ⟨x0, _, h, L0⟩ := argF_inv h
  obtain ⟨x1, _, h, L1⟩ := argF_inv h
  obtain ⟨h, L2⟩ := arg0_inv h
  cases h
  exact (entry_of prg tok_27 (ev13 R x0 x1) (fun o ho => nomatch ho) rfl).le (L0 _ (L1 _ L2))
def tl_13 : List (Nat × Ev.Spec) := (13, sp13) :: tl_27
def tbl_13 (D : Dom) : Tbl D := tblOf tl_13 D
theorem tok_13 : TblOK Try.prog (tbl_13 R) := TblOK.cons tok_27 en13

-- penumbra/penumbralaw14.LambertDraws
def S4_0 (D : Dom) (a2 : D.F) (a3 : D.F) (a4 : D.F) : D.B := (D.bite (D.band (D.bite (D.bnot (D.fgt a2 (D.fc 0))) (D.bc true) (D.bnot (D.fgt (S14_0 D (D.fsub (D.fc 4607182418800017408) (S15_0 D a3))) (D.fc 0)))) (O7 D)) (D.bite (D.bite (S7_0 D) (D.bnot (S12_3 D a2 a3)) (D.bc false)) (D.band (D.feq (S12_0 D a2 a3 a4) (D.fc 0)) (D.band (D.feq (S12_1 D a2 a3 a4) (D.fc 0)) (D.band (D.feq (S12_2 D a2 a3) (D.fc 0)) (D.bc true)))) (D.bc false)) (D.bite (D.bite (D.bite (S7_0 D) (S12_3 D a2 a3) (D.bc false)) (D.band (D.feq (S12_0 D a2 a3 a4) (S13_0 D a3 a4)) (D.band (D.feq (S12_1 D a2 a3 a4) (S13_1 D a3 a4)) (D.band (D.feq (S12_2 D a2 a3) (S14_0 D (D.fsub (D.fc 4607182418800017408) (S15_0 D a3)))) (D.bc true)))) (D.bc false)) (D.bite (D.feq (S15_0 D a3) (D.fc 0)) (D.bc true) (D.bite (D.fle (D.fsub (S6_0 D a2 (S12_0 D a2 a3 a4) (S12_1 D a2 a3 a4) (S12_2 D a2 a3)) (D.fmul (S13_2 D a4) (S14_0 D (D.fsub (D.fc 4607182418800017408) (S15_0 D a3))))) (D.fc 4427038433705197568)) (D.fge (D.fsub (S6_0 D a2 (S12_0 D a2 a3 a4) (S12_1 D a2 a3 a4) (S12_2 D a2 a3)) (D.fmul (S13_2 D a4) (S14_0 D (D.fsub (D.fc 4607182418800017408) (S15_0 D a3))))) (D.fc 13650410470559973376)) (D.bc false))) (D.bc false)))
def O4 (D : Dom) (a2 : D.F) (a3 : D.F) (a4 : D.F) : D.B := (D.band (O12 D a4) (D.bite (D.band (D.bite (D.bnot (D.fgt a2 (D.fc 0))) (D.bc true) (D.bnot (D.fgt (S14_0 D (D.fsub (D.fc 4607182418800017408) (S15_0 D a3))) (D.fc 0)))) (O7 D)) (D.bc true) (D.band (D.bnot (D.bite (D.bnot (D.fgt a2 (D.fc 0))) (D.bc true) (D.bnot (D.fgt (S14_0 D (D.fsub (D.fc 4607182418800017408) (S15_0 D a3))) (D.fc 0))))) (O7 D))))
theorem ev4 (D : Dom) (a0 : D.F) (a1 : D.F) (a2 : D.F) (a3 : D.F) (a4 : D.F) : joinT (evFn Try.prog (tbl_13 D) 60 4 [.agg [.fl a0, .fl a1, .fl a2], .fl a3, .fl a4]) = .val (some (O4 D a2 a3 a4)) (.sb (S4_0 D a2 a3 a4)) := by kernel_rfl
def sp4 : Ev.Spec := fun D l => argA l fun c0 r0 => argF c0 fun _a0 r1 => argF r1 fun _a1 r2 => argF r2 fun a2 r3 => arg0 r3 (argF r0 fun a3 r100 => argF r100 fun a4 r101 => arg0 r101 (.node (O4 D a2 a3 a4) (.ret (.sb (S4_0 D a2 a3 a4))) (.fail "pre")))
theorem en4 : ∀ l r, (sp4 R l).run = some r → Entry Try.prog 4 l r := by
  intro l r h
  obtain ⟨_, _, h, L0⟩ := argA_inv h
  obtain ⟨x1, _, h, L1⟩ := argF_inv h
  obtain ⟨x2, _, h, L2⟩ := argF_inv h
  obtain ⟨x3, _, h, L3⟩ := argF_inv h
  obtain ⟨h, L4⟩ := arg0_inv h
  obtain ⟨x5, _, h, L5⟩ := argF_inv h
  obtain ⟨x6, _, h, L6⟩ := argF_inv h
  obtain ⟨h, L7⟩ := arg0_inv h
  obtain ⟨hok, rfl⟩ := run_okay h
  exact (entry_of prg tok_13 (ev4 R x1 x2 x3 x5 x6) (fun o ho => (Option.some.inj ho) ▸ hok) rfl).le (L0 _ _ (L1 _ (L2 _ (L3 _ L4))) (L5 _ (L6 _ L7)))
def tl_4 : List (Nat × Ev.Spec) := (4, sp4) :: tl_13
def tbl_4 (D : Dom) : Tbl D := tblOf tl_4 D
theorem tok_4 : TblOK Try.prog (tbl_4 R) := TblOK.cons tok_13 en4

-- penumbra/rgb.Gray
def S35_0 (D : Dom) (a0 : D.F) : D.F := a0
def S35_1 (D : Dom) (a0 : D.F) : D.F := a0
def S35_2 (D : Dom) (a0 : D.F) : D.F := a0
theorem ev35 (D : Dom) (a0 : D.F) : joinT (evFn Try.prog (tbl_4 D) 60 35 [.fl a0]) = .val none (.agg [.fl (S35_0 D a0), .fl (S35_1 D a0), .fl (S35_2 D a0)]) := by kernel_rfl
def sp35 : Ev.Spec := fun D l => argF l fun a0 r0 => arg0 r0 (.ret (.agg [.fl (S35_0 D a0), .fl (S35_1 D a0), .fl (S35_2 D a0)]))
theorem en35 : ∀ l r, (sp35 R l).run = some r → Entry Try.prog 35 l r := by
  intro l r h
  obtain ⟨x0, _, h, L0⟩ := argF_inv h
  obtain ⟨h, L1⟩ := arg0_inv h
  cases h
  exact (entry_of prg tok_4 (ev35 R x0) (fun o ho => nomatch ho) rfl).le (L0 _ L1)
def tl_35 : List (Nat × Ev.Spec) := (35, sp35) :: tl_4
def tbl_35 (D : Dom) : Tbl D := tblOf tl_35 D
theorem tok_35 : TblOK Try.prog (tbl_35 R) := TblOK.cons tok_4 en35

-- penumbra/rgb.Mul$1
def S40_0 (D : Dom) (a0 : D.F) (a1 : D.F) : D.F := (D.fmul a0 a1)
theorem ev40 (D : Dom) (a0 : D.F) (a1 : D.F) : joinT (evFn Try.prog (tbl_35 D) 60 40 [.fl a0, .fl a1]) = .val none (.fl (S40_0 D a0 a1)) := by kernel_rfl
def sp40 : Ev.Spec := fun D l => argF l fun a0 r0 => argF r0 fun a1 r1 => arg0 r1 (.ret (.fl (S40_0 D a0 a1)))
theorem en40 : ∀ l r, (sp40 R l).run = some r → Entry Try.prog 40 l r := by
  intro l r h
  obtain ⟨x0, _, h, L0⟩ := argF_inv h
  obtain ⟨x1, _, h, L1⟩ := argF_inv h
  obtain ⟨h, L2⟩ := arg0_inv h
  cases h
  exact (entry_of prg tok_35 (ev40 R x0 x1) (fun o ho => nomatch ho) rfl).le (L0 _ (L1 _ L2))
def tl_40 : List (Nat × Ev.Spec) := (40, sp40) :: tl_35
def tbl_40 (D : Dom) : Tbl D := tblOf tl_40 D
theorem tok_40 : TblOK Try.prog (tbl_40 R) := TblOK.cons tok_35 en40

-- penumbra/rgb.Mul
def S34_0 (D : Dom) (a0 : D.F) (a3 : D.F) : D.F := (S40_0 D a0 a3)
def S34_1 (D : Dom) (a1 : D.F) (a4 : D.F) : D.F := (S40_0 D a1 a4)
def S34_2 (D : Dom) (a2 : D.F) (a5 : D.F) : D.F := (S40_0 D a2 a5)
theorem ev34 (D : Dom) (a0 : D.F) (a1 : D.F) (a2 : D.F) (a3 : D.F) (a4 : D.F) (a5 : D.F) : joinT (evFn Try.prog (tbl_40 D) 60 34 [.agg [.fl a0, .fl a1, .fl a2], .agg [.fl a3, .fl a4, .fl a5]]) = .val none (.agg [.fl (S34_0 D a0 a3), .fl (S34_1 D a1 a4), .fl (S34_2 D a2 a5)]) := by kernel_rfl
def sp34 : Ev.Spec := fun D l => argA l fun c0 r0 => argF c0 fun a0 r1 => argF r1 fun a1 r2 => argF r2 fun a2 r3 => arg0 r3 (argA r0 fun c100 r100 => argF c100 fun a3 r101 => argF r101 fun a4 r102 => argF r102 fun a5 r103 => arg0 r103 (arg0 r100 (.ret (.agg [.fl (S34_0 D a0 a3), .fl (S34_1 D a1 a4), .fl (S34_2 D a2 a5)]))))
theorem en34 : ∀ l r, (sp34 R l).run = some r → Entry Try.prog 34 l r := by
  intro l r h
  obtain ⟨_, _, h, L0⟩ := argA_inv h
  obtain ⟨x1, _, h, L1⟩ := argF_inv h
  obtain ⟨x2, _, h, L2⟩ := argF_inv h
  obtain ⟨x3, _, h, L3⟩ := argF_inv h
  obtain ⟨h, L4⟩ := arg0_inv h
  obtain ⟨_, _, h, L5⟩ := argA_inv h
  obtain ⟨x6, _, h, L6⟩ := argF_inv h
  obtain ⟨x7, _, h, L7⟩ := argF_inv h
  obtain ⟨x8, _, h, L8⟩ := argF_inv h
  obtain ⟨h, L9⟩ := arg0_inv h
  obtain ⟨h, L10⟩ := arg0_inv h
  cases h
  exact (entry_of prg tok_40 (ev34 R x1 x2 x3 x6 x7 x8) (fun o ho => nomatch ho) rfl).le (L0 _ _ (L1 _ (L2 _ (L3 _ L4))) (L5 _ _ (L6 _ (L7 _ (L8 _ L9))) L10))
def tl_34 : List (Nat × Ev.Spec) := (34, sp34) :: tl_40
def tbl_34 (D : Dom) : Tbl D := tblOf tl_34 D
theorem tok_34 : TblOK Try.prog (tbl_34 R) := TblOK.cons tok_40 en34

-- penumbra/rgb.Scale
def S29_0 (D : Dom) (a0 : D.F) (a3 : D.F) : D.F := (S34_0 D a0 (S35_0 D a3))
def S29_1 (D : Dom) (a1 : D.F) (a3 : D.F) : D.F := (S34_1 D a1 (S35_1 D a3))
def S29_2 (D : Dom) (a2 : D.F) (a3 : D.F) : D.F := (S34_2 D a2 (S35_2 D a3))
theorem ev29 (D : Dom) (a0 : D.F) (a1 : D.F) (a2 : D.F) (a3 : D.F) : joinT (evFn Try.prog (tbl_34 D) 60 29 [.agg [.fl a0, .fl a1, .fl a2], .fl a3]) = .val none (.agg [.fl (S29_0 D a0 a3), .fl (S29_1 D a1 a3), .fl (S29_2 D a2 a3)]) := by kernel_rfl
def sp29 : Ev.Spec := fun D l => argA l fun c0 r0 => argF c0 fun a0 r1 => argF r1 fun a1 r2 => argF r2 fun a2 r3 => arg0 r3 (argF r0 fun a3 r100 => arg0 r100 (.ret (.agg [.fl (S29_0 D a0 a3), .fl (S29_1 D a1 a3), .fl (S29_2 D a2 a3)])))
theorem en29 : ∀ l r, (sp29 R l).run = some r → Entry Try.prog 29 l r := by
  intro l r h
  obtain ⟨_, _, h, L0⟩ := argA_inv h
  obtain ⟨x1, _, h, L1⟩ := argF_inv h
  obtain ⟨x2, _, h, L2⟩ := argF_inv h
  obtain ⟨x3, _, h, L3⟩ := argF_inv h
  obtain ⟨h, L4⟩ := arg0_inv h
  obtain ⟨x5, _, h, L5⟩ := argF_inv h
  obtain ⟨h, L6⟩ := arg0_inv h
  cases h
  exact (entry_of prg tok_34 (ev29 R x1 x2 x3 x5) (fun o ho => nomatch ho) rfl).le (L0 _ _ (L1 _ (L2 _ (L3 _ L4))) (L5 _ L6))
def tl_29 : List (Nat × Ev.Spec) := (29, sp29) :: tl_34
def tbl_29 (D : Dom) : Tbl D := tblOf tl_29 D
theorem tok_29 : TblOK Try.prog (tbl_29 R) := TblOK.cons tok_34 en29

-- penumbra/lambert.Weight
def S16_0 (D : Dom) (a0 : D.F) (a5 : D.F) (a6 : D.F) (a7 : D.F) (a8 : D.F) : D.F := (D.fite (D.bnot (D.fgt (S6_0 D a5 a6 a7 a8) (D.fc 0))) (D.fc 0) (S29_0 D (S29_0 D (S9_0 D a0 a5 a8) (S20_0 D a8)) (D.fdiv (D.fc 4607182418800017408) (S6_0 D a5 a6 a7 a8))))
def S16_1 (D : Dom) (a1 : D.F) (a5 : D.F) (a6 : D.F) (a7 : D.F) (a8 : D.F) : D.F := (D.fite (D.bnot (D.fgt (S6_0 D a5 a6 a7 a8) (D.fc 0))) (D.fc 0) (S29_1 D (S29_1 D (S9_1 D a1 a5 a8) (S20_0 D a8)) (D.fdiv (D.fc 4607182418800017408) (S6_0 D a5 a6 a7 a8))))
def S16_2 (D : Dom) (a2 : D.F) (a5 : D.F) (a6 : D.F) (a7 : D.F) (a8 : D.F) : D.F := (D.fite (D.bnot (D.fgt (S6_0 D a5 a6 a7 a8) (D.fc 0))) (D.fc 0) (S29_2 D (S29_2 D (S9_2 D a2 a5 a8) (S20_0 D a8)) (D.fdiv (D.fc 4607182418800017408) (S6_0 D a5 a6 a7 a8))))
theorem ev16 (D : Dom) (a0 : D.F) (a1 : D.F) (a2 : D.F) (a3 : D.F) (a4 : D.F) (a5 : D.F) (a6 : D.F) (a7 : D.F) (a8 : D.F) : joinT (evFn Try.prog (tbl_29 D) 60 16 [.agg [.fl a0, .fl a1, .fl a2], .agg [.fl a3, .fl a4, .fl a5], .agg [.fl a6, .fl a7, .fl a8]]) = .val none (.agg [.fl (S16_0 D a0 a5 a6 a7 a8), .fl (S16_1 D a1 a5 a6 a7 a8), .fl (S16_2 D a2 a5 a6 a7 a8)]) := by kernel_rfl
def sp16 : Ev.Spec := fun D l => argA l fun c0 r0 => argF c0 fun a0 r1 => argF r1 fun a1 r2 => argF r2 fun a2 r3 => arg0 r3 (argA r0 fun c100 r100 => argF c100 fun _a3 r101 => argF r101 fun _a4 r102 => argF r102 fun a5 r103 => arg0 r103 (argA r100 fun c200 r200 => argF c200 fun a6 r201 => argF r201 fun a7 r202 => argF r202 fun a8 r203 => arg0 r203 (arg0 r200 (.ret (.agg [.fl (S16_0 D a0 a5 a6 a7 a8), .fl (S16_1 D a1 a5 a6 a7 a8), .fl (S16_2 D a2 a5 a6 a7 a8)])))))
theorem en16 : ∀ l r, (sp16 R l).run = some r → Entry Try.prog 16 l r := by
  intro l r h
  obtain ⟨_, _, h, L0⟩ := argA_inv h
  obtain ⟨x1, _, h, L1⟩ := argF_inv h
  obtain ⟨x2, _, h, L2⟩ := argF_inv h
  obtain ⟨x3, _, h, L3⟩ := argF_inv h
  obtain ⟨h, L4⟩ := arg0_inv h
  obtain ⟨_, _, h, L5⟩ := argA_inv h
  obtain ⟨x6, _, h, L6⟩ := argF_inv h
  obtain ⟨x7, _, h, L7⟩ := argF_inv h
  obtain ⟨x8, _, h, L8⟩ := argF_inv h
  obtain ⟨h, L9⟩ := arg0_inv h
  obtain ⟨_, _, h, L10⟩ := argA_inv h
  obtain ⟨x11, _, h, L11⟩ := argF_inv h
  obtain ⟨x12, _, h, L12⟩ := argF_inv h
  obtain ⟨x13, _, h, L13⟩ := argF_inv h
  obtain ⟨h, L14⟩ := arg0_inv h
  obtain ⟨h, L15⟩ := arg0_inv h
  cases h
  exact (entry_of prg tok_29 (ev16 R x1 x2 x3 x6 x7 x8 x11 x12 x13) (fun o ho => nomatch ho) rfl).le (L0 _ _ (L1 _ (L2 _ (L3 _ L4))) (L5 _ _ (L6 _ (L7 _ (L8 _ L9))) (L10 _ _ (L11 _ (L12 _ (L13 _ L14))) L15)))
def tl_16 : List (Nat × Ev.Spec) := (16, sp16) :: tl_29
def tbl_16 (D : Dom) : Tbl D := tblOf tl_16 D
theorem tok_16 : TblOK Try.prog (tbl_16 R) := TblOK.cons tok_29 en16

-- penumbra/penumbraref05.Scale
def S17_0 (D : Dom) (a0 : D.F) (a3 : D.F) : D.F := (D.fmul a0 a3)
def S17_1 (D : Dom) (a1 : D.F) (a3 : D.F) : D.F := (D.fmul a1 a3)
def S17_2 (D : Dom) (a2 : D.F) (a3 : D.F) : D.F := (D.fmul a2 a3)
theorem ev17 (D : Dom) (a0 : D.F) (a1 : D.F) (a2 : D.F) (a3 : D.F) : joinT (evFn Try.prog (tbl_16 D) 60 17 [.agg [.fl a0, .fl a1, .fl a2], .fl a3]) = .val none (.agg [.fl (S17_0 D a0 a3), .fl (S17_1 D a1 a3), .fl (S17_2 D a2 a3)]) := by kernel_rfl
def sp17 : Ev.Spec := fun D l => argA l fun c0 r0 => argF c0 fun a0 r1 => argF r1 fun a1 r2 => argF r2 fun a2 r3 => arg0 r3 (argF r0 fun a3 r100 => arg0 r100 (.ret (.agg [.fl (S17_0 D a0 a3), .fl (S17_1 D a1 a3), .fl (S17_2 D a2 a3)])))
theorem en17 : ∀ l r, (sp17 R l).run = some r → Entry Try.prog 17 l r := by
  intro l r h
  obtain ⟨_, _, h, L0⟩ := argA_inv h
  obtain ⟨x1, _, h, L1⟩ := argF_inv h
  obtain ⟨x2, _, h, L2⟩ := argF_inv h
  obtain ⟨x3, _, h, L3⟩ := argF_inv h
  obtain ⟨h, L4⟩ := arg0_inv h
  obtain ⟨x5, _, h, L5⟩ := argF_inv h
  obtain ⟨h, L6⟩ := arg0_inv h
  cases h
  exact (entry_of prg tok_16 (ev17 R x1 x2 x3 x5) (fun o ho => nomatch ho) rfl).le (L0 _ _ (L1 _ (L2 _ (L3 _ L4))) (L5 _ L6))
def tl_17 : List (Nat × Ev.Spec) := (17, sp17) :: tl_16
def tbl_17 (D : Dom) : Tbl D := tblOf tl_17 D
theorem tok_17 : TblOK Try.prog (tbl_17 R) := TblOK.cons tok_16 en17

-- penumbra/penumbralaw14.LambertWeighs
def S5_0 (D : Dom) (a0 : D.F) (a1 : D.F) (a2 : D.F) (a5 : D.F) (a6 : D.F) (a7 : D.F) (a8 : D.F) : D.B := (D.bite (D.band (D.bnot (D.fgt (S11_0 D a5 a6 a7 a8) (D.fc 0))) (O7 D)) (D.bite (S7_0 D) (S8_0 D (S16_0 D a0 a5 a6 a7 a8) (S16_1 D a1 a5 a6 a7 a8) (S16_2 D a2 a5 a6 a7 a8) (D.fc 0) (D.fc 0) (D.fc 0)) (D.bc false)) (D.bite (S7_0 D) (S8_0 D (S16_0 D a0 a5 a6 a7 a8) (S16_1 D a1 a5 a6 a7 a8) (S16_2 D a2 a5 a6 a7 a8) (S17_0 D (S17_0 D (S10_0 D a0 a5 a8) a8) (D.fdiv (D.fc 4607182418800017408) (S11_0 D a5 a6 a7 a8))) (S17_1 D (S17_1 D (S10_1 D a1 a5 a8) a8) (D.fdiv (D.fc 4607182418800017408) (S11_0 D a5 a6 a7 a8))) (S17_2 D (S17_2 D (S10_2 D a2 a5 a8) a8) (D.fdiv (D.fc 4607182418800017408) (S11_0 D a5 a6 a7 a8)))) (D.bc false)))
def O5 (D : Dom) (a5 : D.F) (a6 : D.F) (a7 : D.F) (a8 : D.F) : D.B := (D.bite (D.band (D.bnot (D.fgt (S11_0 D a5 a6 a7 a8) (D.fc 0))) (O7 D)) (D.bc true) (D.band (D.bnot (D.bnot (D.fgt (S11_0 D a5 a6 a7 a8) (D.fc 0)))) (O7 D)))
theorem ev5 (D : Dom) (a0 : D.F) (a1 : D.F) (a2 : D.F) (a3 : D.F) (a4 : D.F) (a5 : D.F) (a6 : D.F) (a7 : D.F) (a8 : D.F) : joinT (evFn Try.prog (tbl_17 D) 60 5 [.agg [.fl a0, .fl a1, .fl a2], .agg [.fl a3, .fl a4, .fl a5], .agg [.fl a6, .fl a7, .fl a8]]) = .val (some (O5 D a5 a6 a7 a8)) (.sb (S5_0 D a0 a1 a2 a5 a6 a7 a8)) := by kernel_rfl
def sp5 : Ev.Spec := fun D l => argA l fun c0 r0 => argF c0 fun a0 r1 => argF r1 fun a1 r2 => argF r2 fun a2 r3 => arg0 r3 (argA r0 fun c100 r100 => argF c100 fun _a3 r101 => argF r101 fun _a4 r102 => argF r102 fun a5 r103 => arg0 r103 (argA r100 fun c200 r200 => argF c200 fun a6 r201 => argF r201 fun a7 r202 => argF r202 fun a8 r203 => arg0 r203 (arg0 r200 (.node (O5 D a5 a6 a7 a8) (.ret (.sb (S5_0 D a0 a1 a2 a5 a6 a7 a8))) (.fail "pre")))))
theorem en5 : ∀ l r, (sp5 R l).run = some r → Entry Try.prog 5 l r := by
  intro l r h
  obtain ⟨_, _, h, L0⟩ := argA_inv h
  obtain ⟨x1, _, h, L1⟩ := argF_inv h
  obtain ⟨x2, _, h, L2⟩ := argF_inv h
  obtain ⟨x3, _, h, L3⟩ := argF_inv h
  obtain ⟨h, L4⟩ := arg0_inv h
  obtain ⟨_, _, h, L5⟩ := argA_inv h
  obtain ⟨x6, _, h, L6⟩ := argF_inv h
  obtain ⟨x7, _, h, L7⟩ := argF_inv h
  obtain ⟨x8, _, h, L8⟩ := argF_inv h
  obtain ⟨h, L9⟩ := arg0_inv h
  obtain ⟨_, _, h, L10⟩ := argA_inv h
  obtain ⟨x11, _, h, L11⟩ := argF_inv h
  obtain ⟨x12, _, h, L12⟩ := argF_inv h
  obtain ⟨x13, _, h, L13⟩ := argF_inv h
  obtain ⟨h, L14⟩ := arg0_inv h
  obtain ⟨h, L15⟩ := arg0_inv h
  obtain ⟨hok, rfl⟩ := run_okay h
  exact (entry_of prg tok_17 (ev5 R x1 x2 x3 x6 x7 x8 x11 x12 x13) (fun o ho => (Option.some.inj ho) ▸ hok) rfl).le (L0 _ _ (L1 _ (L2 _ (L3 _ L4))) (L5 _ _ (L6 _ (L7 _ (L8 _ L9))) (L10 _ _ (L11 _ (L12 _ (L13 _ L14))) L15)))
def tl_5 : List (Nat × Ev.Spec) := (5, sp5) :: tl_17
def tbl_5 (D : Dom) : Tbl D := tblOf tl_5 D
theorem tok_5 : TblOK Try.prog (tbl_5 R) := TblOK.cons tok_17 en5

end Go.Proofs.Ytlipfeoieabojaa
