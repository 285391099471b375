/- The functions of this seat, each with what it comes to, by the evaluator. PRINTED BY A PROGRAM OF THIS PROJECT (wip/ev2/Gen.lean). -/
import Derived.Test.YtaidgkokaeojhaaEv4
import Derived.Test.YtaidgkokaeojhaaChecked
namespace Go.Proofs.Ytaidgkokaeojhaa
open Go.Ev
set_option maxRecDepth 100000

theorem prg : Ev.Prog Try.prog := ⟨by kernel_rfl, by kernel_rfl⟩
def sp47 : Ev.Spec := fun D l => argF l fun a r => arg0 r (.ret (.fl (D.fsqrt a)))
theorem en47 : ∀ l r, (sp47 R l).run = some r → Entry Try.prog 47 l r := by
  intro l r h
  obtain ⟨x0, _, h, L0⟩ := argF_inv h
  obtain ⟨h, L1⟩ := arg0_inv h
  cases h
  exact (entry_sqrt (fn := Try.f47) (by kernel_rfl) (by kernel_rfl) (by kernel_rfl) (by kernel_rfl) (by kernel_rfl) x0).le (L0 _ L1)
def tl_0 : List (Nat × Ev.Spec) := ((47, sp47) :: [])
def tbl_0 (D : Dom) : Tbl D := tblOf tl_0 D
theorem tok_0 : TblOK Try.prog (tbl_0 R) := (TblOK.cons (TblOK.nil _) en47)
def ll_0 (D : Dom) : List (LE D) := []
def lt_0 (D : Dom) : LTb D := ltOf (ll_0 D)
theorem hok_0 : HooksOK Try.prog (lt_0 R) := HooksOK.nil _

-- penumbra/penumbraref02.Number
def S17_0 (D : Dom) (a0 : D.F) : D.B := (D.feq (D.fsub a0 a0) (D.fc 0))
theorem ev17 (D : Dom) (a0 : D.F) : joinT (evFnH Try.prog (tbl_0 D) (lt_0 D) 80 17 [.fl a0] [] 0) = .val none (.sb (S17_0 D a0)) := by kernel_rfl
def sp17 : Ev.Spec := fun D l => argF l fun a0 r0 => arg0 r0 (.ret (.sb (S17_0 D a0)))
theorem en17 : ∀ l r, (sp17 R l).run = some r → Entry Try.prog 17 l r := by
  intro l r h
  obtain ⟨x0, _, h, L0⟩ := argF_inv h
  obtain ⟨h, L1⟩ := arg0_inv h
  cases h
  exact (entry_loops prg tok_0 hok_0 (ev17 R x0) (fun o ho => nomatch ho) rfl).le (L0 _ L1)
def tl_17 : List (Nat × Ev.Spec) := (17, sp17) :: tl_0
def tbl_17 (D : Dom) : Tbl D := tblOf tl_17 D
theorem tok_17 : TblOK Try.prog (tbl_17 R) := TblOK.cons tok_0 en17

-- penumbra/penumbraref02.Finite
def S16_0 (D : Dom) (a0 : D.F) (a1 : D.F) (a2 : D.F) : D.B := (D.bite (D.bite (S17_0 D a0) (S17_0 D a1) (D.bc false)) (S17_0 D a2) (D.bc false))
theorem ev16 (D : Dom) (a0 : D.F) (a1 : D.F) (a2 : D.F) : joinT (evFnH Try.prog (tbl_17 D) (lt_0 D) 80 16 [.agg [.fl a0, .fl a1, .fl a2]] [] 0) = .val none (.sb (S16_0 D a0 a1 a2)) := by kernel_rfl
def sp16 : Ev.Spec := fun D l => argA l fun c0 r0 => argF c0 fun a0 r1 => argF r1 fun a1 r2 => argF r2 fun a2 r3 => arg0 r3 (arg0 r0 (.ret (.sb (S16_0 D a0 a1 a2))))
theorem en16 : ∀ l r, (sp16 R l).run = some r → Entry Try.prog 16 l r := by
  intro l r h
  obtain ⟨_, _, h, L0⟩ := argA_inv h
  obtain ⟨x1, _, h, L1⟩ := argF_inv h
  obtain ⟨x2, _, h, L2⟩ := argF_inv h
  obtain ⟨x3, _, h, L3⟩ := argF_inv h
  obtain ⟨h, L4⟩ := arg0_inv h
  obtain ⟨h, L5⟩ := arg0_inv h
  cases h
  exact (entry_loops prg tok_17 hok_0 (ev16 R x1 x2 x3) (fun o ho => nomatch ho) rfl).le (L0 _ _ (L1 _ (L2 _ (L3 _ L4))) L5)
def tl_16 : List (Nat × Ev.Spec) := (16, sp16) :: tl_17
def tbl_16 (D : Dom) : Tbl D := tblOf tl_16 D
theorem tok_16 : TblOK Try.prog (tbl_16 R) := TblOK.cons tok_17 en16

-- penumbra/penumbraref02.Sub
def S19_0 (D : Dom) (a0 : D.F) (a3 : D.F) : D.F := (D.fsub a0 a3)
def S19_1 (D : Dom) (a1 : D.F) (a4 : D.F) : D.F := (D.fsub a1 a4)
def S19_2 (D : Dom) (a2 : D.F) (a5 : D.F) : D.F := (D.fsub a2 a5)
theorem ev19 (D : Dom) (a0 : D.F) (a1 : D.F) (a2 : D.F) (a3 : D.F) (a4 : D.F) (a5 : D.F) : joinT (evFnH Try.prog (tbl_16 D) (lt_0 D) 80 19 [.agg [.fl a0, .fl a1, .fl a2], .agg [.fl a3, .fl a4, .fl a5]] [] 0) = .val none (.agg [.fl (S19_0 D a0 a3), .fl (S19_1 D a1 a4), .fl (S19_2 D a2 a5)]) := by kernel_rfl
def sp19 : Ev.Spec := fun D l => argA l fun c0 r0 => argF c0 fun a0 r1 => argF r1 fun a1 r2 => argF r2 fun a2 r3 => arg0 r3 (argA r0 fun c100 r100 => argF c100 fun a3 r101 => argF r101 fun a4 r102 => argF r102 fun a5 r103 => arg0 r103 (arg0 r100 (.ret (.agg [.fl (S19_0 D a0 a3), .fl (S19_1 D a1 a4), .fl (S19_2 D a2 a5)]))))
theorem en19 : ∀ l r, (sp19 R l).run = some r → Entry Try.prog 19 l r := by
  intro l r h
  obtain ⟨_, _, h, L0⟩ := argA_inv h
  obtain ⟨x1, _, h, L1⟩ := argF_inv h
  obtain ⟨x2, _, h, L2⟩ := argF_inv h
  obtain ⟨x3, _, h, L3⟩ := argF_inv h
  obtain ⟨h, L4⟩ := arg0_inv h
  obtain ⟨_, _, h, L5⟩ := argA_inv h
  obtain ⟨x6, _, h, L6⟩ := argF_inv h
  obtain ⟨x7, _, h, L7⟩ := argF_inv h
  obtain ⟨x8, _, h, L8⟩ := argF_inv h
  obtain ⟨h, L9⟩ := arg0_inv h
  obtain ⟨h, L10⟩ := arg0_inv h
  cases h
  exact (entry_loops prg tok_16 hok_0 (ev19 R x1 x2 x3 x6 x7 x8) (fun o ho => nomatch ho) rfl).le (L0 _ _ (L1 _ (L2 _ (L3 _ L4))) (L5 _ _ (L6 _ (L7 _ (L8 _ L9))) L10))
def tl_19 : List (Nat × Ev.Spec) := (19, sp19) :: tl_16
def tbl_19 (D : Dom) : Tbl D := tblOf tl_19 D
theorem tok_19 : TblOK Try.prog (tbl_19 R) := TblOK.cons tok_16 en19

-- penumbra/penumbraref02.Dot
def S36_0 (D : Dom) (a0 : D.F) (a1 : D.F) (a2 : D.F) (a3 : D.F) (a4 : D.F) (a5 : D.F) : D.F := (D.fadd (D.fadd (D.fmul a0 a3) (D.fmul a1 a4)) (D.fmul a2 a5))
theorem ev36 (D : Dom) (a0 : D.F) (a1 : D.F) (a2 : D.F) (a3 : D.F) (a4 : D.F) (a5 : D.F) : joinT (evFnH Try.prog (tbl_19 D) (lt_0 D) 80 36 [.agg [.fl a0, .fl a1, .fl a2], .agg [.fl a3, .fl a4, .fl a5]] [] 0) = .val none (.fl (S36_0 D a0 a1 a2 a3 a4 a5)) := by kernel_rfl
def sp36 : Ev.Spec := fun D l => argA l fun c0 r0 => argF c0 fun a0 r1 => argF r1 fun a1 r2 => argF r2 fun a2 r3 => arg0 r3 (argA r0 fun c100 r100 => argF c100 fun a3 r101 => argF r101 fun a4 r102 => argF r102 fun a5 r103 => arg0 r103 (arg0 r100 (.ret (.fl (S36_0 D a0 a1 a2 a3 a4 a5)))))
theorem en36 : ∀ l r, (sp36 R l).run = some r → Entry Try.prog 36 l r := by
  intro l r h
  obtain ⟨_, _, h, L0⟩ := argA_inv h
  obtain ⟨x1, _, h, L1⟩ := argF_inv h
  obtain ⟨x2, _, h, L2⟩ := argF_inv h
  obtain ⟨x3, _, h, L3⟩ := argF_inv h
  obtain ⟨h, L4⟩ := arg0_inv h
  obtain ⟨_, _, h, L5⟩ := argA_inv h
  obtain ⟨x6, _, h, L6⟩ := argF_inv h
  obtain ⟨x7, _, h, L7⟩ := argF_inv h
  obtain ⟨x8, _, h, L8⟩ := argF_inv h
  obtain ⟨h, L9⟩ := arg0_inv h
  obtain ⟨h, L10⟩ := arg0_inv h
  cases h
  exact (entry_loops prg tok_19 hok_0 (ev36 R x1 x2 x3 x6 x7 x8) (fun o ho => nomatch ho) rfl).le (L0 _ _ (L1 _ (L2 _ (L3 _ L4))) (L5 _ _ (L6 _ (L7 _ (L8 _ L9))) L10))
def tl_36 : List (Nat × Ev.Spec) := (36, sp36) :: tl_19
def tbl_36 (D : Dom) : Tbl D := tblOf tl_36 D
theorem tok_36 : TblOK Try.prog (tbl_36 R) := TblOK.cons tok_19 en36

-- math.Sqrt
def S35_0 (D : Dom) (a0 : D.F) : D.F := (D.fsqrt a0)
theorem ev35 (D : Dom) (a0 : D.F) : joinT (evFnH Try.prog (tbl_36 D) (lt_0 D) 80 35 [.fl a0] [] 0) = .val none (.fl (S35_0 D a0)) := by kernel_rfl
def sp35 : Ev.Spec := fun D l => argF l fun a0 r0 => arg0 r0 (.ret (.fl (S35_0 D a0)))
theorem en35 : ∀ l r, (sp35 R l).run = some r → Entry Try.prog 35 l r := by
  intro l r h
  obtain ⟨x0, _, h, L0⟩ := argF_inv h
  obtain ⟨h, L1⟩ := arg0_inv h
  cases h
  exact (entry_loops prg tok_36 hok_0 (ev35 R x0) (fun o ho => nomatch ho) rfl).le (L0 _ L1)
def tl_35 : List (Nat × Ev.Spec) := (35, sp35) :: tl_36
def tbl_35 (D : Dom) : Tbl D := tblOf tl_35 D
theorem tok_35 : TblOK Try.prog (tbl_35 R) := TblOK.cons tok_36 en35

-- penumbra/penumbraref02.Unit
def S18_0 (D : Dom) (a0 : D.F) (a1 : D.F) (a2 : D.F) : D.F := (D.fite (D.bite (D.fgt (S35_0 D (S36_0 D a0 a1 a2 a0 a1 a2)) (D.fc 0)) (S17_0 D (S35_0 D (S36_0 D a0 a1 a2 a0 a1 a2))) (D.bc false)) (D.fdiv a0 (S35_0 D (S36_0 D a0 a1 a2 a0 a1 a2))) (D.fc 0))
def S18_1 (D : Dom) (a0 : D.F) (a1 : D.F) (a2 : D.F) : D.F := (D.fite (D.bite (D.fgt (S35_0 D (S36_0 D a0 a1 a2 a0 a1 a2)) (D.fc 0)) (S17_0 D (S35_0 D (S36_0 D a0 a1 a2 a0 a1 a2))) (D.bc false)) (D.fdiv a1 (S35_0 D (S36_0 D a0 a1 a2 a0 a1 a2))) (D.fc 0))
def S18_2 (D : Dom) (a0 : D.F) (a1 : D.F) (a2 : D.F) : D.F := (D.fite (D.bite (D.fgt (S35_0 D (S36_0 D a0 a1 a2 a0 a1 a2)) (D.fc 0)) (S17_0 D (S35_0 D (S36_0 D a0 a1 a2 a0 a1 a2))) (D.bc false)) (D.fdiv a2 (S35_0 D (S36_0 D a0 a1 a2 a0 a1 a2))) (D.fc 0))
def S18_3 (D : Dom) (a0 : D.F) (a1 : D.F) (a2 : D.F) : D.B := (D.bite (D.bite (D.fgt (S35_0 D (S36_0 D a0 a1 a2 a0 a1 a2)) (D.fc 0)) (S17_0 D (S35_0 D (S36_0 D a0 a1 a2 a0 a1 a2))) (D.bc false)) (D.bc true) (D.bc false))
theorem ev18 (D : Dom) (a0 : D.F) (a1 : D.F) (a2 : D.F) : joinT (evFnH Try.prog (tbl_35 D) (lt_0 D) 80 18 [.agg [.fl a0, .fl a1, .fl a2]] [] 0) = .val none (.tup [.agg [.fl (S18_0 D a0 a1 a2), .fl (S18_1 D a0 a1 a2), .fl (S18_2 D a0 a1 a2)], .sb (S18_3 D a0 a1 a2)]) := by kernel_rfl
def sp18 : Ev.Spec := fun D l => argA l fun c0 r0 => argF c0 fun a0 r1 => argF r1 fun a1 r2 => argF r2 fun a2 r3 => arg0 r3 (arg0 r0 (.ret (.tup [.agg [.fl (S18_0 D a0 a1 a2), .fl (S18_1 D a0 a1 a2), .fl (S18_2 D a0 a1 a2)], .sb (S18_3 D a0 a1 a2)])))
theorem en18 : ∀ l r, (sp18 R l).run = some r → Entry Try.prog 18 l r := by
  intro l r h
  obtain ⟨_, _, h, L0⟩ := argA_inv h
  obtain ⟨x1, _, h, L1⟩ := argF_inv h
  obtain ⟨x2, _, h, L2⟩ := argF_inv h
  obtain ⟨x3, _, h, L3⟩ := argF_inv h
  obtain ⟨h, L4⟩ := arg0_inv h
  obtain ⟨h, L5⟩ := arg0_inv h
  cases h
  exact (entry_loops prg tok_35 hok_0 (ev18 R x1 x2 x3) (fun o ho => nomatch ho) rfl).le (L0 _ _ (L1 _ (L2 _ (L3 _ L4))) L5)
def tl_18 : List (Nat × Ev.Spec) := (18, sp18) :: tl_35
def tbl_18 (D : Dom) : Tbl D := tblOf tl_18 D
theorem tok_18 : TblOK Try.prog (tbl_18 R) := TblOK.cons tok_35 en18

-- penumbra/penumbraref02.less
def S37_0 (D : Dom) (a0 : D.F) (a1 : D.F) (a2 : D.F) (a3 : D.F) : D.F := (D.fsub (D.fmul a0 a1) (D.fmul a2 a3))
theorem ev37 (D : Dom) (a0 : D.F) (a1 : D.F) (a2 : D.F) (a3 : D.F) : joinT (evFnH Try.prog (tbl_18 D) (lt_0 D) 80 37 [.fl a0, .fl a1, .fl a2, .fl a3] [] 0) = .val none (.fl (S37_0 D a0 a1 a2 a3)) := by kernel_rfl
def sp37 : Ev.Spec := fun D l => argF l fun a0 r0 => argF r0 fun a1 r1 => argF r1 fun a2 r2 => argF r2 fun a3 r3 => arg0 r3 (.ret (.fl (S37_0 D a0 a1 a2 a3)))
theorem en37 : ∀ l r, (sp37 R l).run = some r → Entry Try.prog 37 l r := by
  intro l r h
  obtain ⟨x0, _, h, L0⟩ := argF_inv h
  obtain ⟨x1, _, h, L1⟩ := argF_inv h
  obtain ⟨x2, _, h, L2⟩ := argF_inv h
  obtain ⟨x3, _, h, L3⟩ := argF_inv h
  obtain ⟨h, L4⟩ := arg0_inv h
  cases h
  exact (entry_loops prg tok_18 hok_0 (ev37 R x0 x1 x2 x3) (fun o ho => nomatch ho) rfl).le (L0 _ (L1 _ (L2 _ (L3 _ L4))))
def tl_37 : List (Nat × Ev.Spec) := (37, sp37) :: tl_18
def tbl_37 (D : Dom) : Tbl D := tblOf tl_37 D
theorem tok_37 : TblOK Try.prog (tbl_37 R) := TblOK.cons tok_18 en37

-- penumbra/penumbraref02.Cross
def S20_0 (D : Dom) (a1 : D.F) (a2 : D.F) (a4 : D.F) (a5 : D.F) : D.F := (S37_0 D a1 a5 a2 a4)
def S20_1 (D : Dom) (a0 : D.F) (a2 : D.F) (a3 : D.F) (a5 : D.F) : D.F := (S37_0 D a2 a3 a0 a5)
def S20_2 (D : Dom) (a0 : D.F) (a1 : D.F) (a3 : D.F) (a4 : D.F) : D.F := (S37_0 D a0 a4 a1 a3)
theorem ev20 (D : Dom) (a0 : D.F) (a1 : D.F) (a2 : D.F) (a3 : D.F) (a4 : D.F) (a5 : D.F) : joinT (evFnH Try.prog (tbl_37 D) (lt_0 D) 80 20 [.agg [.fl a0, .fl a1, .fl a2], .agg [.fl a3, .fl a4, .fl a5]] [] 0) = .val none (.agg [.fl (S20_0 D a1 a2 a4 a5), .fl (S20_1 D a0 a2 a3 a5), .fl (S20_2 D a0 a1 a3 a4)]) := by kernel_rfl
def sp20 : Ev.Spec := fun D l => argA l fun c0 r0 => argF c0 fun a0 r1 => argF r1 fun a1 r2 => argF r2 fun a2 r3 => arg0 r3 (argA r0 fun c100 r100 => argF c100 fun a3 r101 => argF r101 fun a4 r102 => argF r102 fun a5 r103 => arg0 r103 (arg0 r100 (.ret (.agg [.fl (S20_0 D a1 a2 a4 a5), .fl (S20_1 D a0 a2 a3 a5), .fl (S20_2 D a0 a1 a3 a4)]))))
theorem en20 : ∀ l r, (sp20 R l).run = some r → Entry Try.prog 20 l r := by
  intro l r h
  obtain ⟨_, _, h, L0⟩ := argA_inv h
  obtain ⟨x1, _, h, L1⟩ := argF_inv h
  obtain ⟨x2, _, h, L2⟩ := argF_inv h
  obtain ⟨x3, _, h, L3⟩ := argF_inv h
  obtain ⟨h, L4⟩ := arg0_inv h
  obtain ⟨_, _, h, L5⟩ := argA_inv h
  obtain ⟨x6, _, h, L6⟩ := argF_inv h
  obtain ⟨x7, _, h, L7⟩ := argF_inv h
  obtain ⟨x8, _, h, L8⟩ := argF_inv h
  obtain ⟨h, L9⟩ := arg0_inv h
  obtain ⟨h, L10⟩ := arg0_inv h
  cases h
  exact (entry_loops prg tok_37 hok_0 (ev20 R x1 x2 x3 x6 x7 x8) (fun o ho => nomatch ho) rfl).le (L0 _ _ (L1 _ (L2 _ (L3 _ L4))) (L5 _ _ (L6 _ (L7 _ (L8 _ L9))) L10))
def tl_20 : List (Nat × Ev.Spec) := (20, sp20) :: tl_37
def tbl_20 (D : Dom) : Tbl D := tblOf tl_20 D
theorem tok_20 : TblOK Try.prog (tbl_20 R) := TblOK.cons tok_37 en20

-- penumbra/penumbraref19.Axes
def S5_0 (D : Dom) (a0 : D.F) (a1 : D.F) (a2 : D.F) (a3 : D.F) (a4 : D.F) (a5 : D.F) (a6 : D.F) (a7 : D.F) (a8 : D.F) (a9 : D.F) (a10 : D.F) (a11 : D.F) : D.F := (D.fite (D.bite (D.bite (D.bite (D.bite (D.bite (D.bnot (D.bite (D.bite (D.bite (D.bite (D.bite (S16_0 D a0 a1 a2) (S16_0 D a3 a4 a5) (D.bc false)) (S16_0 D a6 a7 a8) (D.bc false)) (S17_0 D a9) (D.bc false)) (S17_0 D a10) (D.bc false)) (S17_0 D a11) (D.bc false))) (D.bc true) (D.bnot (S18_3 D (S19_0 D a3 a0) (S19_1 D a4 a1) (S19_2 D a5 a2)))) (D.bc true) (D.bnot (S18_3 D (S20_0 D (S18_1 D (S19_0 D a3 a0) (S19_1 D a4 a1) (S19_2 D a5 a2)) (S18_2 D (S19_0 D a3 a0) (S19_1 D a4 a1) (S19_2 D a5 a2)) a7 a8) (S20_1 D (S18_0 D (S19_0 D a3 a0) (S19_1 D a4 a1) (S19_2 D a5 a2)) (S18_2 D (S19_0 D a3 a0) (S19_1 D a4 a1) (S19_2 D a5 a2)) a6 a8) (S20_2 D (S18_0 D (S19_0 D a3 a0) (S19_1 D a4 a1) (S19_2 D a5 a2)) (S18_1 D (S19_0 D a3 a0) (S19_1 D a4 a1) (S19_2 D a5 a2)) a6 a7)))) (D.bc true) (D.bnot (D.fgt a9 (D.fc 0)))) (D.bc true) (D.bnot (D.fge a10 (D.fc 0)))) (D.bc true) (D.bnot (D.fgt a11 (D.fc 0)))) (D.fc 0) (S18_0 D (S19_0 D a3 a0) (S19_1 D a4 a1) (S19_2 D a5 a2)))
def S5_1 (D : Dom) (a0 : D.F) (a1 : D.F) (a2 : D.F) (a3 : D.F) (a4 : D.F) (a5 : D.F) (a6 : D.F) (a7 : D.F) (a8 : D.F) (a9 : D.F) (a10 : D.F) (a11 : D.F) : D.F := (D.fite (D.bite (D.bite (D.bite (D.bite (D.bite (D.bnot (D.bite (D.bite (D.bite (D.bite (D.bite (S16_0 D a0 a1 a2) (S16_0 D a3 a4 a5) (D.bc false)) (S16_0 D a6 a7 a8) (D.bc false)) (S17_0 D a9) (D.bc false)) (S17_0 D a10) (D.bc false)) (S17_0 D a11) (D.bc false))) (D.bc true) (D.bnot (S18_3 D (S19_0 D a3 a0) (S19_1 D a4 a1) (S19_2 D a5 a2)))) (D.bc true) (D.bnot (S18_3 D (S20_0 D (S18_1 D (S19_0 D a3 a0) (S19_1 D a4 a1) (S19_2 D a5 a2)) (S18_2 D (S19_0 D a3 a0) (S19_1 D a4 a1) (S19_2 D a5 a2)) a7 a8) (S20_1 D (S18_0 D (S19_0 D a3 a0) (S19_1 D a4 a1) (S19_2 D a5 a2)) (S18_2 D (S19_0 D a3 a0) (S19_1 D a4 a1) (S19_2 D a5 a2)) a6 a8) (S20_2 D (S18_0 D (S19_0 D a3 a0) (S19_1 D a4 a1) (S19_2 D a5 a2)) (S18_1 D (S19_0 D a3 a0) (S19_1 D a4 a1) (S19_2 D a5 a2)) a6 a7)))) (D.bc true) (D.bnot (D.fgt a9 (D.fc 0)))) (D.bc true) (D.bnot (D.fge a10 (D.fc 0)))) (D.bc true) (D.bnot (D.fgt a11 (D.fc 0)))) (D.fc 0) (S18_1 D (S19_0 D a3 a0) (S19_1 D a4 a1) (S19_2 D a5 a2)))
def S5_2 (D : Dom) (a0 : D.F) (a1 : D.F) (a2 : D.F) (a3 : D.F) (a4 : D.F) (a5 : D.F) (a6 : D.F) (a7 : D.F) (a8 : D.F) (a9 : D.F) (a10 : D.F) (a11 : D.F) : D.F := (D.fite (D.bite (D.bite (D.bite (D.bite (D.bite (D.bnot (D.bite (D.bite (D.bite (D.bite (D.bite (S16_0 D a0 a1 a2) (S16_0 D a3 a4 a5) (D.bc false)) (S16_0 D a6 a7 a8) (D.bc false)) (S17_0 D a9) (D.bc false)) (S17_0 D a10) (D.bc false)) (S17_0 D a11) (D.bc false))) (D.bc true) (D.bnot (S18_3 D (S19_0 D a3 a0) (S19_1 D a4 a1) (S19_2 D a5 a2)))) (D.bc true) (D.bnot (S18_3 D (S20_0 D (S18_1 D (S19_0 D a3 a0) (S19_1 D a4 a1) (S19_2 D a5 a2)) (S18_2 D (S19_0 D a3 a0) (S19_1 D a4 a1) (S19_2 D a5 a2)) a7 a8) (S20_1 D (S18_0 D (S19_0 D a3 a0) (S19_1 D a4 a1) (S19_2 D a5 a2)) (S18_2 D (S19_0 D a3 a0) (S19_1 D a4 a1) (S19_2 D a5 a2)) a6 a8) (S20_2 D (S18_0 D (S19_0 D a3 a0) (S19_1 D a4 a1) (S19_2 D a5 a2)) (S18_1 D (S19_0 D a3 a0) (S19_1 D a4 a1) (S19_2 D a5 a2)) a6 a7)))) (D.bc true) (D.bnot (D.fgt a9 (D.fc 0)))) (D.bc true) (D.bnot (D.fge a10 (D.fc 0)))) (D.bc true) (D.bnot (D.fgt a11 (D.fc 0)))) (D.fc 0) (S18_2 D (S19_0 D a3 a0) (S19_1 D a4 a1) (S19_2 D a5 a2)))
def S5_3 (D : Dom) (a0 : D.F) (a1 : D.F) (a2 : D.F) (a3 : D.F) (a4 : D.F) (a5 : D.F) (a6 : D.F) (a7 : D.F) (a8 : D.F) (a9 : D.F) (a10 : D.F) (a11 : D.F) : D.F := (D.fite (D.bite (D.bite (D.bite (D.bite (D.bite (D.bnot (D.bite (D.bite (D.bite (D.bite (D.bite (S16_0 D a0 a1 a2) (S16_0 D a3 a4 a5) (D.bc false)) (S16_0 D a6 a7 a8) (D.bc false)) (S17_0 D a9) (D.bc false)) (S17_0 D a10) (D.bc false)) (S17_0 D a11) (D.bc false))) (D.bc true) (D.bnot (S18_3 D (S19_0 D a3 a0) (S19_1 D a4 a1) (S19_2 D a5 a2)))) (D.bc true) (D.bnot (S18_3 D (S20_0 D (S18_1 D (S19_0 D a3 a0) (S19_1 D a4 a1) (S19_2 D a5 a2)) (S18_2 D (S19_0 D a3 a0) (S19_1 D a4 a1) (S19_2 D a5 a2)) a7 a8) (S20_1 D (S18_0 D (S19_0 D a3 a0) (S19_1 D a4 a1) (S19_2 D a5 a2)) (S18_2 D (S19_0 D a3 a0) (S19_1 D a4 a1) (S19_2 D a5 a2)) a6 a8) (S20_2 D (S18_0 D (S19_0 D a3 a0) (S19_1 D a4 a1) (S19_2 D a5 a2)) (S18_1 D (S19_0 D a3 a0) (S19_1 D a4 a1) (S19_2 D a5 a2)) a6 a7)))) (D.bc true) (D.bnot (D.fgt a9 (D.fc 0)))) (D.bc true) (D.bnot (D.fge a10 (D.fc 0)))) (D.bc true) (D.bnot (D.fgt a11 (D.fc 0)))) (D.fc 0) (S18_0 D (S20_0 D (S18_1 D (S19_0 D a3 a0) (S19_1 D a4 a1) (S19_2 D a5 a2)) (S18_2 D (S19_0 D a3 a0) (S19_1 D a4 a1) (S19_2 D a5 a2)) a7 a8) (S20_1 D (S18_0 D (S19_0 D a3 a0) (S19_1 D a4 a1) (S19_2 D a5 a2)) (S18_2 D (S19_0 D a3 a0) (S19_1 D a4 a1) (S19_2 D a5 a2)) a6 a8) (S20_2 D (S18_0 D (S19_0 D a3 a0) (S19_1 D a4 a1) (S19_2 D a5 a2)) (S18_1 D (S19_0 D a3 a0) (S19_1 D a4 a1) (S19_2 D a5 a2)) a6 a7)))
def S5_4 (D : Dom) (a0 : D.F) (a1 : D.F) (a2 : D.F) (a3 : D.F) (a4 : D.F) (a5 : D.F) (a6 : D.F) (a7 : D.F) (a8 : D.F) (a9 : D.F) (a10 : D.F) (a11 : D.F) : D.F := (D.fite (D.bite (D.bite (D.bite (D.bite (D.bite (D.bnot (D.bite (D.bite (D.bite (D.bite (D.bite (S16_0 D a0 a1 a2) (S16_0 D a3 a4 a5) (D.bc false)) (S16_0 D a6 a7 a8) (D.bc false)) (S17_0 D a9) (D.bc false)) (S17_0 D a10) (D.bc false)) (S17_0 D a11) (D.bc false))) (D.bc true) (D.bnot (S18_3 D (S19_0 D a3 a0) (S19_1 D a4 a1) (S19_2 D a5 a2)))) (D.bc true) (D.bnot (S18_3 D (S20_0 D (S18_1 D (S19_0 D a3 a0) (S19_1 D a4 a1) (S19_2 D a5 a2)) (S18_2 D (S19_0 D a3 a0) (S19_1 D a4 a1) (S19_2 D a5 a2)) a7 a8) (S20_1 D (S18_0 D (S19_0 D a3 a0) (S19_1 D a4 a1) (S19_2 D a5 a2)) (S18_2 D (S19_0 D a3 a0) (S19_1 D a4 a1) (S19_2 D a5 a2)) a6 a8) (S20_2 D (S18_0 D (S19_0 D a3 a0) (S19_1 D a4 a1) (S19_2 D a5 a2)) (S18_1 D (S19_0 D a3 a0) (S19_1 D a4 a1) (S19_2 D a5 a2)) a6 a7)))) (D.bc true) (D.bnot (D.fgt a9 (D.fc 0)))) (D.bc true) (D.bnot (D.fge a10 (D.fc 0)))) (D.bc true) (D.bnot (D.fgt a11 (D.fc 0)))) (D.fc 0) (S18_1 D (S20_0 D (S18_1 D (S19_0 D a3 a0) (S19_1 D a4 a1) (S19_2 D a5 a2)) (S18_2 D (S19_0 D a3 a0) (S19_1 D a4 a1) (S19_2 D a5 a2)) a7 a8) (S20_1 D (S18_0 D (S19_0 D a3 a0) (S19_1 D a4 a1) (S19_2 D a5 a2)) (S18_2 D (S19_0 D a3 a0) (S19_1 D a4 a1) (S19_2 D a5 a2)) a6 a8) (S20_2 D (S18_0 D (S19_0 D a3 a0) (S19_1 D a4 a1) (S19_2 D a5 a2)) (S18_1 D (S19_0 D a3 a0) (S19_1 D a4 a1) (S19_2 D a5 a2)) a6 a7)))
def S5_5 (D : Dom) (a0 : D.F) (a1 : D.F) (a2 : D.F) (a3 : D.F) (a4 : D.F) (a5 : D.F) (a6 : D.F) (a7 : D.F) (a8 : D.F) (a9 : D.F) (a10 : D.F) (a11 : D.F) : D.F := (D.fite (D.bite (D.bite (D.bite (D.bite (D.bite (D.bnot (D.bite (D.bite (D.bite (D.bite (D.bite (S16_0 D a0 a1 a2) (S16_0 D a3 a4 a5) (D.bc false)) (S16_0 D a6 a7 a8) (D.bc false)) (S17_0 D a9) (D.bc false)) (S17_0 D a10) (D.bc false)) (S17_0 D a11) (D.bc false))) (D.bc true) (D.bnot (S18_3 D (S19_0 D a3 a0) (S19_1 D a4 a1) (S19_2 D a5 a2)))) (D.bc true) (D.bnot (S18_3 D (S20_0 D (S18_1 D (S19_0 D a3 a0) (S19_1 D a4 a1) (S19_2 D a5 a2)) (S18_2 D (S19_0 D a3 a0) (S19_1 D a4 a1) (S19_2 D a5 a2)) a7 a8) (S20_1 D (S18_0 D (S19_0 D a3 a0) (S19_1 D a4 a1) (S19_2 D a5 a2)) (S18_2 D (S19_0 D a3 a0) (S19_1 D a4 a1) (S19_2 D a5 a2)) a6 a8) (S20_2 D (S18_0 D (S19_0 D a3 a0) (S19_1 D a4 a1) (S19_2 D a5 a2)) (S18_1 D (S19_0 D a3 a0) (S19_1 D a4 a1) (S19_2 D a5 a2)) a6 a7)))) (D.bc true) (D.bnot (D.fgt a9 (D.fc 0)))) (D.bc true) (D.bnot (D.fge a10 (D.fc 0)))) (D.bc true) (D.bnot (D.fgt a11 (D.fc 0)))) (D.fc 0) (S18_2 D (S20_0 D (S18_1 D (S19_0 D a3 a0) (S19_1 D a4 a1) (S19_2 D a5 a2)) (S18_2 D (S19_0 D a3 a0) (S19_1 D a4 a1) (S19_2 D a5 a2)) a7 a8) (S20_1 D (S18_0 D (S19_0 D a3 a0) (S19_1 D a4 a1) (S19_2 D a5 a2)) (S18_2 D (S19_0 D a3 a0) (S19_1 D a4 a1) (S19_2 D a5 a2)) a6 a8) (S20_2 D (S18_0 D (S19_0 D a3 a0) (S19_1 D a4 a1) (S19_2 D a5 a2)) (S18_1 D (S19_0 D a3 a0) (S19_1 D a4 a1) (S19_2 D a5 a2)) a6 a7)))
def WS5_6_0 (D : Dom) (a0 : D.F) (a1 : D.F) (a2 : D.F) (a3 : D.F) (a4 : D.F) (a5 : D.F) : D.F := (S18_1 D (S19_0 D a3 a0) (S19_1 D a4 a1) (S19_2 D a5 a2))
def WS5_6_1 (D : Dom) (a0 : D.F) (a1 : D.F) (a2 : D.F) (a3 : D.F) (a4 : D.F) (a5 : D.F) : D.F := (S18_2 D (S19_0 D a3 a0) (S19_1 D a4 a1) (S19_2 D a5 a2))
def WS5_6_2 (D : Dom) (a0 : D.F) (a1 : D.F) (a2 : D.F) (a3 : D.F) (a4 : D.F) (a5 : D.F) (a7 : D.F) (a8 : D.F) : D.F := (S20_0 D (WS5_6_0 D a0 a1 a2 a3 a4 a5) (WS5_6_1 D a0 a1 a2 a3 a4 a5) a7 a8)
def WS5_6_3 (D : Dom) (a0 : D.F) (a1 : D.F) (a2 : D.F) (a3 : D.F) (a4 : D.F) (a5 : D.F) : D.F := (S18_0 D (S19_0 D a3 a0) (S19_1 D a4 a1) (S19_2 D a5 a2))
def WS5_6_4 (D : Dom) (a0 : D.F) (a1 : D.F) (a2 : D.F) (a3 : D.F) (a4 : D.F) (a5 : D.F) (a6 : D.F) (a8 : D.F) : D.F := (S20_1 D (WS5_6_3 D a0 a1 a2 a3 a4 a5) (WS5_6_1 D a0 a1 a2 a3 a4 a5) a6 a8)
def WS5_6_5 (D : Dom) (a0 : D.F) (a1 : D.F) (a2 : D.F) (a3 : D.F) (a4 : D.F) (a5 : D.F) (a6 : D.F) (a7 : D.F) : D.F := (S20_2 D (WS5_6_3 D a0 a1 a2 a3 a4 a5) (WS5_6_0 D a0 a1 a2 a3 a4 a5) a6 a7)
def S5_6 (D : Dom) (a0 : D.F) (a1 : D.F) (a2 : D.F) (a3 : D.F) (a4 : D.F) (a5 : D.F) (a6 : D.F) (a7 : D.F) (a8 : D.F) (a9 : D.F) (a10 : D.F) (a11 : D.F) : D.F := (D.fite (D.bite (D.bite (D.bite (D.bite (D.bite (D.bnot (D.bite (D.bite (D.bite (D.bite (D.bite (S16_0 D a0 a1 a2) (S16_0 D a3 a4 a5) (D.bc false)) (S16_0 D a6 a7 a8) (D.bc false)) (S17_0 D a9) (D.bc false)) (S17_0 D a10) (D.bc false)) (S17_0 D a11) (D.bc false))) (D.bc true) (D.bnot (S18_3 D (S19_0 D a3 a0) (S19_1 D a4 a1) (S19_2 D a5 a2)))) (D.bc true) (D.bnot (S18_3 D (WS5_6_2 D a0 a1 a2 a3 a4 a5 a7 a8) (WS5_6_4 D a0 a1 a2 a3 a4 a5 a6 a8) (WS5_6_5 D a0 a1 a2 a3 a4 a5 a6 a7)))) (D.bc true) (D.bnot (D.fgt a9 (D.fc 0)))) (D.bc true) (D.bnot (D.fge a10 (D.fc 0)))) (D.bc true) (D.bnot (D.fgt a11 (D.fc 0)))) (D.fc 0) (S20_0 D (S18_1 D (WS5_6_2 D a0 a1 a2 a3 a4 a5 a7 a8) (WS5_6_4 D a0 a1 a2 a3 a4 a5 a6 a8) (WS5_6_5 D a0 a1 a2 a3 a4 a5 a6 a7)) (S18_2 D (WS5_6_2 D a0 a1 a2 a3 a4 a5 a7 a8) (WS5_6_4 D a0 a1 a2 a3 a4 a5 a6 a8) (WS5_6_5 D a0 a1 a2 a3 a4 a5 a6 a7)) (WS5_6_0 D a0 a1 a2 a3 a4 a5) (WS5_6_1 D a0 a1 a2 a3 a4 a5)))
def WS5_7_0 (D : Dom) (a0 : D.F) (a1 : D.F) (a2 : D.F) (a3 : D.F) (a4 : D.F) (a5 : D.F) : D.F := (S18_1 D (S19_0 D a3 a0) (S19_1 D a4 a1) (S19_2 D a5 a2))
def WS5_7_1 (D : Dom) (a0 : D.F) (a1 : D.F) (a2 : D.F) (a3 : D.F) (a4 : D.F) (a5 : D.F) : D.F := (S18_2 D (S19_0 D a3 a0) (S19_1 D a4 a1) (S19_2 D a5 a2))
def WS5_7_2 (D : Dom) (a0 : D.F) (a1 : D.F) (a2 : D.F) (a3 : D.F) (a4 : D.F) (a5 : D.F) (a7 : D.F) (a8 : D.F) : D.F := (S20_0 D (WS5_7_0 D a0 a1 a2 a3 a4 a5) (WS5_7_1 D a0 a1 a2 a3 a4 a5) a7 a8)
def WS5_7_3 (D : Dom) (a0 : D.F) (a1 : D.F) (a2 : D.F) (a3 : D.F) (a4 : D.F) (a5 : D.F) : D.F := (S18_0 D (S19_0 D a3 a0) (S19_1 D a4 a1) (S19_2 D a5 a2))
def WS5_7_4 (D : Dom) (a0 : D.F) (a1 : D.F) (a2 : D.F) (a3 : D.F) (a4 : D.F) (a5 : D.F) (a6 : D.F) (a8 : D.F) : D.F := (S20_1 D (WS5_7_3 D a0 a1 a2 a3 a4 a5) (WS5_7_1 D a0 a1 a2 a3 a4 a5) a6 a8)
def WS5_7_5 (D : Dom) (a0 : D.F) (a1 : D.F) (a2 : D.F) (a3 : D.F) (a4 : D.F) (a5 : D.F) (a6 : D.F) (a7 : D.F) : D.F := (S20_2 D (WS5_7_3 D a0 a1 a2 a3 a4 a5) (WS5_7_0 D a0 a1 a2 a3 a4 a5) a6 a7)
def S5_7 (D : Dom) (a0 : D.F) (a1 : D.F) (a2 : D.F) (a3 : D.F) (a4 : D.F) (a5 : D.F) (a6 : D.F) (a7 : D.F) (a8 : D.F) (a9 : D.F) (a10 : D.F) (a11 : D.F) : D.F := (D.fite (D.bite (D.bite (D.bite (D.bite (D.bite (D.bnot (D.bite (D.bite (D.bite (D.bite (D.bite (S16_0 D a0 a1 a2) (S16_0 D a3 a4 a5) (D.bc false)) (S16_0 D a6 a7 a8) (D.bc false)) (S17_0 D a9) (D.bc false)) (S17_0 D a10) (D.bc false)) (S17_0 D a11) (D.bc false))) (D.bc true) (D.bnot (S18_3 D (S19_0 D a3 a0) (S19_1 D a4 a1) (S19_2 D a5 a2)))) (D.bc true) (D.bnot (S18_3 D (WS5_7_2 D a0 a1 a2 a3 a4 a5 a7 a8) (WS5_7_4 D a0 a1 a2 a3 a4 a5 a6 a8) (WS5_7_5 D a0 a1 a2 a3 a4 a5 a6 a7)))) (D.bc true) (D.bnot (D.fgt a9 (D.fc 0)))) (D.bc true) (D.bnot (D.fge a10 (D.fc 0)))) (D.bc true) (D.bnot (D.fgt a11 (D.fc 0)))) (D.fc 0) (S20_1 D (S18_0 D (WS5_7_2 D a0 a1 a2 a3 a4 a5 a7 a8) (WS5_7_4 D a0 a1 a2 a3 a4 a5 a6 a8) (WS5_7_5 D a0 a1 a2 a3 a4 a5 a6 a7)) (S18_2 D (WS5_7_2 D a0 a1 a2 a3 a4 a5 a7 a8) (WS5_7_4 D a0 a1 a2 a3 a4 a5 a6 a8) (WS5_7_5 D a0 a1 a2 a3 a4 a5 a6 a7)) (WS5_7_3 D a0 a1 a2 a3 a4 a5) (WS5_7_1 D a0 a1 a2 a3 a4 a5)))
def WS5_8_0 (D : Dom) (a0 : D.F) (a1 : D.F) (a2 : D.F) (a3 : D.F) (a4 : D.F) (a5 : D.F) : D.F := (S18_1 D (S19_0 D a3 a0) (S19_1 D a4 a1) (S19_2 D a5 a2))
def WS5_8_1 (D : Dom) (a0 : D.F) (a1 : D.F) (a2 : D.F) (a3 : D.F) (a4 : D.F) (a5 : D.F) : D.F := (S18_2 D (S19_0 D a3 a0) (S19_1 D a4 a1) (S19_2 D a5 a2))
def WS5_8_2 (D : Dom) (a0 : D.F) (a1 : D.F) (a2 : D.F) (a3 : D.F) (a4 : D.F) (a5 : D.F) (a7 : D.F) (a8 : D.F) : D.F := (S20_0 D (WS5_8_0 D a0 a1 a2 a3 a4 a5) (WS5_8_1 D a0 a1 a2 a3 a4 a5) a7 a8)
def WS5_8_3 (D : Dom) (a0 : D.F) (a1 : D.F) (a2 : D.F) (a3 : D.F) (a4 : D.F) (a5 : D.F) : D.F := (S18_0 D (S19_0 D a3 a0) (S19_1 D a4 a1) (S19_2 D a5 a2))
def WS5_8_4 (D : Dom) (a0 : D.F) (a1 : D.F) (a2 : D.F) (a3 : D.F) (a4 : D.F) (a5 : D.F) (a6 : D.F) (a8 : D.F) : D.F := (S20_1 D (WS5_8_3 D a0 a1 a2 a3 a4 a5) (WS5_8_1 D a0 a1 a2 a3 a4 a5) a6 a8)
def WS5_8_5 (D : Dom) (a0 : D.F) (a1 : D.F) (a2 : D.F) (a3 : D.F) (a4 : D.F) (a5 : D.F) (a6 : D.F) (a7 : D.F) : D.F := (S20_2 D (WS5_8_3 D a0 a1 a2 a3 a4 a5) (WS5_8_0 D a0 a1 a2 a3 a4 a5) a6 a7)
def S5_8 (D : Dom) (a0 : D.F) (a1 : D.F) (a2 : D.F) (a3 : D.F) (a4 : D.F) (a5 : D.F) (a6 : D.F) (a7 : D.F) (a8 : D.F) (a9 : D.F) (a10 : D.F) (a11 : D.F) : D.F := (D.fite (D.bite (D.bite (D.bite (D.bite (D.bite (D.bnot (D.bite (D.bite (D.bite (D.bite (D.bite (S16_0 D a0 a1 a2) (S16_0 D a3 a4 a5) (D.bc false)) (S16_0 D a6 a7 a8) (D.bc false)) (S17_0 D a9) (D.bc false)) (S17_0 D a10) (D.bc false)) (S17_0 D a11) (D.bc false))) (D.bc true) (D.bnot (S18_3 D (S19_0 D a3 a0) (S19_1 D a4 a1) (S19_2 D a5 a2)))) (D.bc true) (D.bnot (S18_3 D (WS5_8_2 D a0 a1 a2 a3 a4 a5 a7 a8) (WS5_8_4 D a0 a1 a2 a3 a4 a5 a6 a8) (WS5_8_5 D a0 a1 a2 a3 a4 a5 a6 a7)))) (D.bc true) (D.bnot (D.fgt a9 (D.fc 0)))) (D.bc true) (D.bnot (D.fge a10 (D.fc 0)))) (D.bc true) (D.bnot (D.fgt a11 (D.fc 0)))) (D.fc 0) (S20_2 D (S18_0 D (WS5_8_2 D a0 a1 a2 a3 a4 a5 a7 a8) (WS5_8_4 D a0 a1 a2 a3 a4 a5 a6 a8) (WS5_8_5 D a0 a1 a2 a3 a4 a5 a6 a7)) (S18_1 D (WS5_8_2 D a0 a1 a2 a3 a4 a5 a7 a8) (WS5_8_4 D a0 a1 a2 a3 a4 a5 a6 a8) (WS5_8_5 D a0 a1 a2 a3 a4 a5 a6 a7)) (WS5_8_3 D a0 a1 a2 a3 a4 a5) (WS5_8_0 D a0 a1 a2 a3 a4 a5)))
def S5_9 (D : Dom) (a0 : D.F) (a1 : D.F) (a2 : D.F) (a3 : D.F) (a4 : D.F) (a5 : D.F) (a6 : D.F) (a7 : D.F) (a8 : D.F) (a9 : D.F) (a10 : D.F) (a11 : D.F) : D.B := (D.bite (D.bite (D.bite (D.bite (D.bite (D.bite (D.bnot (D.bite (D.bite (D.bite (D.bite (D.bite (S16_0 D a0 a1 a2) (S16_0 D a3 a4 a5) (D.bc false)) (S16_0 D a6 a7 a8) (D.bc false)) (S17_0 D a9) (D.bc false)) (S17_0 D a10) (D.bc false)) (S17_0 D a11) (D.bc false))) (D.bc true) (D.bnot (S18_3 D (S19_0 D a3 a0) (S19_1 D a4 a1) (S19_2 D a5 a2)))) (D.bc true) (D.bnot (S18_3 D (S20_0 D (S18_1 D (S19_0 D a3 a0) (S19_1 D a4 a1) (S19_2 D a5 a2)) (S18_2 D (S19_0 D a3 a0) (S19_1 D a4 a1) (S19_2 D a5 a2)) a7 a8) (S20_1 D (S18_0 D (S19_0 D a3 a0) (S19_1 D a4 a1) (S19_2 D a5 a2)) (S18_2 D (S19_0 D a3 a0) (S19_1 D a4 a1) (S19_2 D a5 a2)) a6 a8) (S20_2 D (S18_0 D (S19_0 D a3 a0) (S19_1 D a4 a1) (S19_2 D a5 a2)) (S18_1 D (S19_0 D a3 a0) (S19_1 D a4 a1) (S19_2 D a5 a2)) a6 a7)))) (D.bc true) (D.bnot (D.fgt a9 (D.fc 0)))) (D.bc true) (D.bnot (D.fge a10 (D.fc 0)))) (D.bc true) (D.bnot (D.fgt a11 (D.fc 0)))) (D.bc false) (D.bc true))
theorem ev5 (D : Dom) (a0 : D.F) (a1 : D.F) (a2 : D.F) (a3 : D.F) (a4 : D.F) (a5 : D.F) (a6 : D.F) (a7 : D.F) (a8 : D.F) (a9 : D.F) (a10 : D.F) (a11 : D.F) : joinT (evFnH Try.prog (tbl_20 D) (lt_0 D) 80 5 [.agg [.fl a0, .fl a1, .fl a2, .fl a3, .fl a4, .fl a5, .fl a6, .fl a7, .fl a8, .fl a9, .fl a10, .fl a11]] [] 0) = .val none (.tup [.agg [.fl (S5_0 D a0 a1 a2 a3 a4 a5 a6 a7 a8 a9 a10 a11), .fl (S5_1 D a0 a1 a2 a3 a4 a5 a6 a7 a8 a9 a10 a11), .fl (S5_2 D a0 a1 a2 a3 a4 a5 a6 a7 a8 a9 a10 a11)], .agg [.fl (S5_3 D a0 a1 a2 a3 a4 a5 a6 a7 a8 a9 a10 a11), .fl (S5_4 D a0 a1 a2 a3 a4 a5 a6 a7 a8 a9 a10 a11), .fl (S5_5 D a0 a1 a2 a3 a4 a5 a6 a7 a8 a9 a10 a11)], .agg [.fl (S5_6 D a0 a1 a2 a3 a4 a5 a6 a7 a8 a9 a10 a11), .fl (S5_7 D a0 a1 a2 a3 a4 a5 a6 a7 a8 a9 a10 a11), .fl (S5_8 D a0 a1 a2 a3 a4 a5 a6 a7 a8 a9 a10 a11)], .sb (S5_9 D a0 a1 a2 a3 a4 a5 a6 a7 a8 a9 a10 a11)]) := by kernel_rfl
def sp5 : Ev.Spec := fun D l => argA l fun c0 r0 => argF c0 fun a0 r1 => argF r1 fun a1 r2 => argF r2 fun a2 r3 => argF r3 fun a3 r4 => argF r4 fun a4 r5 => argF r5 fun a5 r6 => argF r6 fun a6 r7 => argF r7 fun a7 r8 => argF r8 fun a8 r9 => argF r9 fun a9 r10 => argF r10 fun a10 r11 => argF r11 fun a11 r12 => arg0 r12 (arg0 r0 (.ret (.tup [.agg [.fl (S5_0 D a0 a1 a2 a3 a4 a5 a6 a7 a8 a9 a10 a11), .fl (S5_1 D a0 a1 a2 a3 a4 a5 a6 a7 a8 a9 a10 a11), .fl (S5_2 D a0 a1 a2 a3 a4 a5 a6 a7 a8 a9 a10 a11)], .agg [.fl (S5_3 D a0 a1 a2 a3 a4 a5 a6 a7 a8 a9 a10 a11), .fl (S5_4 D a0 a1 a2 a3 a4 a5 a6 a7 a8 a9 a10 a11), .fl (S5_5 D a0 a1 a2 a3 a4 a5 a6 a7 a8 a9 a10 a11)], .agg [.fl (S5_6 D a0 a1 a2 a3 a4 a5 a6 a7 a8 a9 a10 a11), .fl (S5_7 D a0 a1 a2 a3 a4 a5 a6 a7 a8 a9 a10 a11), .fl (S5_8 D a0 a1 a2 a3 a4 a5 a6 a7 a8 a9 a10 a11)], .sb (S5_9 D a0 a1 a2 a3 a4 a5 a6 a7 a8 a9 a10 a11)])))
theorem en5 : ∀ l r, (sp5 R l).run = some r → Entry Try.prog 5 l r := by
  intro l r h
  obtain ⟨_, _, h, L0⟩ := argA_inv h
  obtain ⟨x1, _, h, L1⟩ := argF_inv h
  obtain ⟨x2, _, h, L2⟩ := argF_inv h
  obtain ⟨x3, _, h, L3⟩ := argF_inv h
  obtain ⟨x4, _, h, L4⟩ := argF_inv h
  obtain ⟨x5, _, h, L5⟩ := argF_inv h
  obtain ⟨x6, _, h, L6⟩ := argF_inv h
  obtain ⟨x7, _, h, L7⟩ := argF_inv h
  obtain ⟨x8, _, h, L8⟩ := argF_inv h
  obtain ⟨x9, _, h, L9⟩ := argF_inv h
  obtain ⟨x10, _, h, L10⟩ := argF_inv h
  obtain ⟨x11, _, h, L11⟩ := argF_inv h
  obtain ⟨x12, _, h, L12⟩ := argF_inv h
  obtain ⟨h, L13⟩ := arg0_inv h
  obtain ⟨h, L14⟩ := arg0_inv h
  cases h
  exact (entry_loops prg tok_20 hok_0 (ev5 R x1 x2 x3 x4 x5 x6 x7 x8 x9 x10 x11 x12) (fun o ho => nomatch ho) rfl).le (L0 _ _ (L1 _ (L2 _ (L3 _ (L4 _ (L5 _ (L6 _ (L7 _ (L8 _ (L9 _ (L10 _ (L11 _ (L12 _ L13)))))))))))) L14)
def tl_5 : List (Nat × Ev.Spec) := (5, sp5) :: tl_20
def tbl_5 (D : Dom) : Tbl D := tblOf tl_5 D
theorem tok_5 : TblOK Try.prog (tbl_5 R) := TblOK.cons tok_20 en5

-- penumbra/vec.Number
def S21_0 (D : Dom) (a0 : D.F) : D.B := (D.bite (D.fge a0 (D.fc 18442240474082181119)) (D.fle a0 (D.fc 9218868437227405311)) (D.bc false))
theorem ev21 (D : Dom) (a0 : D.F) : joinT (evFnH Try.prog (tbl_5 D) (lt_0 D) 80 21 [.fl a0] [] 0) = .val none (.sb (S21_0 D a0)) := by kernel_rfl
def sp21 : Ev.Spec := fun D l => argF l fun a0 r0 => arg0 r0 (.ret (.sb (S21_0 D a0)))
theorem en21 : ∀ l r, (sp21 R l).run = some r → Entry Try.prog 21 l r := by
  intro l r h
  obtain ⟨x0, _, h, L0⟩ := argF_inv h
  obtain ⟨h, L1⟩ := arg0_inv h
  cases h
  exact (entry_loops prg tok_5 hok_0 (ev21 R x0) (fun o ho => nomatch ho) rfl).le (L0 _ L1)
def tl_21 : List (Nat × Ev.Spec) := (21, sp21) :: tl_5
def tbl_21 (D : Dom) : Tbl D := tblOf tl_21 D
theorem tok_21 : TblOK Try.prog (tbl_21 R) := TblOK.cons tok_5 en21

-- penumbra/vec.Finite
def S22_0 (D : Dom) (a0 : D.F) (a1 : D.F) (a2 : D.F) : D.B := (D.bite (D.bite (S21_0 D a0) (S21_0 D a1) (D.bc false)) (S21_0 D a2) (D.bc false))
theorem ev22 (D : Dom) (a0 : D.F) (a1 : D.F) (a2 : D.F) : joinT (evFnH Try.prog (tbl_21 D) (lt_0 D) 80 22 [.agg [.fl a0, .fl a1, .fl a2]] [] 0) = .val none (.sb (S22_0 D a0 a1 a2)) := by kernel_rfl
def sp22 : Ev.Spec := fun D l => argA l fun c0 r0 => argF c0 fun a0 r1 => argF r1 fun a1 r2 => argF r2 fun a2 r3 => arg0 r3 (arg0 r0 (.ret (.sb (S22_0 D a0 a1 a2))))
theorem en22 : ∀ l r, (sp22 R l).run = some r → Entry Try.prog 22 l r := by
  intro l r h
  obtain ⟨_, _, h, L0⟩ := argA_inv h
  obtain ⟨x1, _, h, L1⟩ := argF_inv h
  obtain ⟨x2, _, h, L2⟩ := argF_inv h
  obtain ⟨x3, _, h, L3⟩ := argF_inv h
  obtain ⟨h, L4⟩ := arg0_inv h
  obtain ⟨h, L5⟩ := arg0_inv h
  cases h
  exact (entry_loops prg tok_21 hok_0 (ev22 R x1 x2 x3) (fun o ho => nomatch ho) rfl).le (L0 _ _ (L1 _ (L2 _ (L3 _ L4))) L5)
def tl_22 : List (Nat × Ev.Spec) := (22, sp22) :: tl_21
def tbl_22 (D : Dom) : Tbl D := tblOf tl_22 D
theorem tok_22 : TblOK Try.prog (tbl_22 R) := TblOK.cons tok_21 en22

-- penumbra/vec.Sub$1
def S40_0 (D : Dom) (a0 : D.F) (a1 : D.F) : D.F := (D.fsub a0 a1)
theorem ev40 (D : Dom) (a0 : D.F) (a1 : D.F) : joinT (evFnH Try.prog (tbl_22 D) (lt_0 D) 80 40 [.fl a0, .fl a1] [] 0) = .val none (.fl (S40_0 D a0 a1)) := by kernel_rfl
def sp40 : Ev.Spec := fun D l => argF l fun a0 r0 => argF r0 fun a1 r1 => arg0 r1 (.ret (.fl (S40_0 D a0 a1)))
theorem en40 : ∀ l r, (sp40 R l).run = some r → Entry Try.prog 40 l r := by
  intro l r h
  obtain ⟨x0, _, h, L0⟩ := argF_inv h
  obtain ⟨x1, _, h, L1⟩ := argF_inv h
  obtain ⟨h, L2⟩ := arg0_inv h
  cases h
  exact (entry_loops prg tok_22 hok_0 (ev40 R x0 x1) (fun o ho => nomatch ho) rfl).le (L0 _ (L1 _ L2))
def tl_40 : List (Nat × Ev.Spec) := (40, sp40) :: tl_22
def tbl_40 (D : Dom) : Tbl D := tblOf tl_40 D
theorem tok_40 : TblOK Try.prog (tbl_40 R) := TblOK.cons tok_22 en40

-- penumbra/vec.Sub
def S24_0 (D : Dom) (a0 : D.F) (a3 : D.F) : D.F := (S40_0 D a0 a3)
def S24_1 (D : Dom) (a1 : D.F) (a4 : D.F) : D.F := (S40_0 D a1 a4)
def S24_2 (D : Dom) (a2 : D.F) (a5 : D.F) : D.F := (S40_0 D a2 a5)
theorem ev24 (D : Dom) (a0 : D.F) (a1 : D.F) (a2 : D.F) (a3 : D.F) (a4 : D.F) (a5 : D.F) : joinT (evFnH Try.prog (tbl_40 D) (lt_0 D) 80 24 [.agg [.fl a0, .fl a1, .fl a2], .agg [.fl a3, .fl a4, .fl a5]] [] 0) = .val none (.agg [.fl (S24_0 D a0 a3), .fl (S24_1 D a1 a4), .fl (S24_2 D a2 a5)]) := by kernel_rfl
def sp24 : Ev.Spec := fun D l => argA l fun c0 r0 => argF c0 fun a0 r1 => argF r1 fun a1 r2 => argF r2 fun a2 r3 => arg0 r3 (argA r0 fun c100 r100 => argF c100 fun a3 r101 => argF r101 fun a4 r102 => argF r102 fun a5 r103 => arg0 r103 (arg0 r100 (.ret (.agg [.fl (S24_0 D a0 a3), .fl (S24_1 D a1 a4), .fl (S24_2 D a2 a5)]))))
theorem en24 : ∀ l r, (sp24 R l).run = some r → Entry Try.prog 24 l r := by
  intro l r h
  obtain ⟨_, _, h, L0⟩ := argA_inv h
  obtain ⟨x1, _, h, L1⟩ := argF_inv h
  obtain ⟨x2, _, h, L2⟩ := argF_inv h
  obtain ⟨x3, _, h, L3⟩ := argF_inv h
  obtain ⟨h, L4⟩ := arg0_inv h
  obtain ⟨_, _, h, L5⟩ := argA_inv h
  obtain ⟨x6, _, h, L6⟩ := argF_inv h
  obtain ⟨x7, _, h, L7⟩ := argF_inv h
  obtain ⟨x8, _, h, L8⟩ := argF_inv h
  obtain ⟨h, L9⟩ := arg0_inv h
  obtain ⟨h, L10⟩ := arg0_inv h
  cases h
  exact (entry_loops prg tok_40 hok_0 (ev24 R x1 x2 x3 x6 x7 x8) (fun o ho => nomatch ho) rfl).le (L0 _ _ (L1 _ (L2 _ (L3 _ L4))) (L5 _ _ (L6 _ (L7 _ (L8 _ L9))) L10))
def tl_24 : List (Nat × Ev.Spec) := (24, sp24) :: tl_40
def tbl_24 (D : Dom) : Tbl D := tblOf tl_24 D
theorem tok_24 : TblOK Try.prog (tbl_24 R) := TblOK.cons tok_40 en24

-- penumbra/vec.Mul$1
def S49_0 (D : Dom) (a0 : D.F) (a1 : D.F) : D.F := (D.fmul a0 a1)
theorem ev49 (D : Dom) (a0 : D.F) (a1 : D.F) : joinT (evFnH Try.prog (tbl_24 D) (lt_0 D) 80 49 [.fl a0, .fl a1] [] 0) = .val none (.fl (S49_0 D a0 a1)) := by kernel_rfl
def sp49 : Ev.Spec := fun D l => argF l fun a0 r0 => argF r0 fun a1 r1 => arg0 r1 (.ret (.fl (S49_0 D a0 a1)))
theorem en49 : ∀ l r, (sp49 R l).run = some r → Entry Try.prog 49 l r := by
  intro l r h
  obtain ⟨x0, _, h, L0⟩ := argF_inv h
  obtain ⟨x1, _, h, L1⟩ := argF_inv h
  obtain ⟨h, L2⟩ := arg0_inv h
  cases h
  exact (entry_loops prg tok_24 hok_0 (ev49 R x0 x1) (fun o ho => nomatch ho) rfl).le (L0 _ (L1 _ L2))
def tl_49 : List (Nat × Ev.Spec) := (49, sp49) :: tl_24
def tbl_49 (D : Dom) : Tbl D := tblOf tl_49 D
theorem tok_49 : TblOK Try.prog (tbl_49 R) := TblOK.cons tok_24 en49

-- penumbra/vec.Mul
def S41_0 (D : Dom) (a0 : D.F) (a3 : D.F) : D.F := (S49_0 D a0 a3)
def S41_1 (D : Dom) (a1 : D.F) (a4 : D.F) : D.F := (S49_0 D a1 a4)
def S41_2 (D : Dom) (a2 : D.F) (a5 : D.F) : D.F := (S49_0 D a2 a5)
theorem ev41 (D : Dom) (a0 : D.F) (a1 : D.F) (a2 : D.F) (a3 : D.F) (a4 : D.F) (a5 : D.F) : joinT (evFnH Try.prog (tbl_49 D) (lt_0 D) 80 41 [.agg [.fl a0, .fl a1, .fl a2], .agg [.fl a3, .fl a4, .fl a5]] [] 0) = .val none (.agg [.fl (S41_0 D a0 a3), .fl (S41_1 D a1 a4), .fl (S41_2 D a2 a5)]) := by kernel_rfl
def sp41 : Ev.Spec := fun D l => argA l fun c0 r0 => argF c0 fun a0 r1 => argF r1 fun a1 r2 => argF r2 fun a2 r3 => arg0 r3 (argA r0 fun c100 r100 => argF c100 fun a3 r101 => argF r101 fun a4 r102 => argF r102 fun a5 r103 => arg0 r103 (arg0 r100 (.ret (.agg [.fl (S41_0 D a0 a3), .fl (S41_1 D a1 a4), .fl (S41_2 D a2 a5)]))))
theorem en41 : ∀ l r, (sp41 R l).run = some r → Entry Try.prog 41 l r := by
  intro l r h
  obtain ⟨_, _, h, L0⟩ := argA_inv h
  obtain ⟨x1, _, h, L1⟩ := argF_inv h
  obtain ⟨x2, _, h, L2⟩ := argF_inv h
  obtain ⟨x3, _, h, L3⟩ := argF_inv h
  obtain ⟨h, L4⟩ := arg0_inv h
  obtain ⟨_, _, h, L5⟩ := argA_inv h
  obtain ⟨x6, _, h, L6⟩ := argF_inv h
  obtain ⟨x7, _, h, L7⟩ := argF_inv h
  obtain ⟨x8, _, h, L8⟩ := argF_inv h
  obtain ⟨h, L9⟩ := arg0_inv h
  obtain ⟨h, L10⟩ := arg0_inv h
  cases h
  exact (entry_loops prg tok_49 hok_0 (ev41 R x1 x2 x3 x6 x7 x8) (fun o ho => nomatch ho) rfl).le (L0 _ _ (L1 _ (L2 _ (L3 _ L4))) (L5 _ _ (L6 _ (L7 _ (L8 _ L9))) L10))
def tl_41 : List (Nat × Ev.Spec) := (41, sp41) :: tl_49
def tbl_41 (D : Dom) : Tbl D := tblOf tl_41 D
theorem tok_41 : TblOK Try.prog (tbl_41 R) := TblOK.cons tok_49 en41

-- penumbra/vec.Dot
def S52_0 (D : Dom) (a0 : D.F) (a1 : D.F) (a2 : D.F) (a3 : D.F) (a4 : D.F) (a5 : D.F) : D.F := (D.fadd (D.fadd (S41_0 D a0 a3) (S41_1 D a1 a4)) (S41_2 D a2 a5))
theorem ev52 (D : Dom) (a0 : D.F) (a1 : D.F) (a2 : D.F) (a3 : D.F) (a4 : D.F) (a5 : D.F) : joinT (evFnH Try.prog (tbl_41 D) (lt_0 D) 80 52 [.agg [.fl a0, .fl a1, .fl a2], .agg [.fl a3, .fl a4, .fl a5]] [] 0) = .val none (.fl (S52_0 D a0 a1 a2 a3 a4 a5)) := by kernel_rfl
def sp52 : Ev.Spec := fun D l => argA l fun c0 r0 => argF c0 fun a0 r1 => argF r1 fun a1 r2 => argF r2 fun a2 r3 => arg0 r3 (argA r0 fun c100 r100 => argF c100 fun a3 r101 => argF r101 fun a4 r102 => argF r102 fun a5 r103 => arg0 r103 (arg0 r100 (.ret (.fl (S52_0 D a0 a1 a2 a3 a4 a5)))))
theorem en52 : ∀ l r, (sp52 R l).run = some r → Entry Try.prog 52 l r := by
  intro l r h
  obtain ⟨_, _, h, L0⟩ := argA_inv h
  obtain ⟨x1, _, h, L1⟩ := argF_inv h
  obtain ⟨x2, _, h, L2⟩ := argF_inv h
  obtain ⟨x3, _, h, L3⟩ := argF_inv h
  obtain ⟨h, L4⟩ := arg0_inv h
  obtain ⟨_, _, h, L5⟩ := argA_inv h
  obtain ⟨x6, _, h, L6⟩ := argF_inv h
  obtain ⟨x7, _, h, L7⟩ := argF_inv h
  obtain ⟨x8, _, h, L8⟩ := argF_inv h
  obtain ⟨h, L9⟩ := arg0_inv h
  obtain ⟨h, L10⟩ := arg0_inv h
  cases h
  exact (entry_loops prg tok_41 hok_0 (ev52 R x1 x2 x3 x6 x7 x8) (fun o ho => nomatch ho) rfl).le (L0 _ _ (L1 _ (L2 _ (L3 _ L4))) (L5 _ _ (L6 _ (L7 _ (L8 _ L9))) L10))
def tl_52 : List (Nat × Ev.Spec) := (52, sp52) :: tl_41
def tbl_52 (D : Dom) : Tbl D := tblOf tl_52 D
theorem tok_52 : TblOK Try.prog (tbl_52 R) := TblOK.cons tok_41 en52

-- penumbra/vec.Len2
def S48_0 (D : Dom) (a0 : D.F) (a1 : D.F) (a2 : D.F) : D.F := (S52_0 D a0 a1 a2 a0 a1 a2)
theorem ev48 (D : Dom) (a0 : D.F) (a1 : D.F) (a2 : D.F) : joinT (evFnH Try.prog (tbl_52 D) (lt_0 D) 80 48 [.agg [.fl a0, .fl a1, .fl a2]] [] 0) = .val none (.fl (S48_0 D a0 a1 a2)) := by kernel_rfl
def sp48 : Ev.Spec := fun D l => argA l fun c0 r0 => argF c0 fun a0 r1 => argF r1 fun a1 r2 => argF r2 fun a2 r3 => arg0 r3 (arg0 r0 (.ret (.fl (S48_0 D a0 a1 a2))))
theorem en48 : ∀ l r, (sp48 R l).run = some r → Entry Try.prog 48 l r := by
  intro l r h
  obtain ⟨_, _, h, L0⟩ := argA_inv h
  obtain ⟨x1, _, h, L1⟩ := argF_inv h
  obtain ⟨x2, _, h, L2⟩ := argF_inv h
  obtain ⟨x3, _, h, L3⟩ := argF_inv h
  obtain ⟨h, L4⟩ := arg0_inv h
  obtain ⟨h, L5⟩ := arg0_inv h
  cases h
  exact (entry_loops prg tok_52 hok_0 (ev48 R x1 x2 x3) (fun o ho => nomatch ho) rfl).le (L0 _ _ (L1 _ (L2 _ (L3 _ L4))) L5)
def tl_48 : List (Nat × Ev.Spec) := (48, sp48) :: tl_52
def tbl_48 (D : Dom) : Tbl D := tblOf tl_48 D
theorem tok_48 : TblOK Try.prog (tbl_48 R) := TblOK.cons tok_52 en48

-- penumbra/vec.Len
def S38_0 (D : Dom) (a0 : D.F) (a1 : D.F) (a2 : D.F) : D.F := (S35_0 D (S48_0 D a0 a1 a2))
theorem ev38 (D : Dom) (a0 : D.F) (a1 : D.F) (a2 : D.F) : joinT (evFnH Try.prog (tbl_48 D) (lt_0 D) 80 38 [.agg [.fl a0, .fl a1, .fl a2]] [] 0) = .val none (.fl (S38_0 D a0 a1 a2)) := by kernel_rfl
def sp38 : Ev.Spec := fun D l => argA l fun c0 r0 => argF c0 fun a0 r1 => argF r1 fun a1 r2 => argF r2 fun a2 r3 => arg0 r3 (arg0 r0 (.ret (.fl (S38_0 D a0 a1 a2))))
theorem en38 : ∀ l r, (sp38 R l).run = some r → Entry Try.prog 38 l r := by
  intro l r h
  obtain ⟨_, _, h, L0⟩ := argA_inv h
  obtain ⟨x1, _, h, L1⟩ := argF_inv h
  obtain ⟨x2, _, h, L2⟩ := argF_inv h
  obtain ⟨x3, _, h, L3⟩ := argF_inv h
  obtain ⟨h, L4⟩ := arg0_inv h
  obtain ⟨h, L5⟩ := arg0_inv h
  cases h
  exact (entry_loops prg tok_48 hok_0 (ev38 R x1 x2 x3) (fun o ho => nomatch ho) rfl).le (L0 _ _ (L1 _ (L2 _ (L3 _ L4))) L5)
def tl_38 : List (Nat × Ev.Spec) := (38, sp38) :: tl_48
def tbl_38 (D : Dom) : Tbl D := tblOf tl_38 D
theorem tok_38 : TblOK Try.prog (tbl_38 R) := TblOK.cons tok_48 en38

-- penumbra/vec.Unit
def S23_0 (D : Dom) (a0 : D.F) (a1 : D.F) (a2 : D.F) : D.F := (D.fite (D.bite (D.bnot (D.fgt (S38_0 D a0 a1 a2) (D.fc 0))) (D.bc true) (D.bnot (S21_0 D (S38_0 D a0 a1 a2)))) (D.fc 0) (D.fdiv a0 (S38_0 D a0 a1 a2)))
def S23_1 (D : Dom) (a0 : D.F) (a1 : D.F) (a2 : D.F) : D.F := (D.fite (D.bite (D.bnot (D.fgt (S38_0 D a0 a1 a2) (D.fc 0))) (D.bc true) (D.bnot (S21_0 D (S38_0 D a0 a1 a2)))) (D.fc 0) (D.fdiv a1 (S38_0 D a0 a1 a2)))
def S23_2 (D : Dom) (a0 : D.F) (a1 : D.F) (a2 : D.F) : D.F := (D.fite (D.bite (D.bnot (D.fgt (S38_0 D a0 a1 a2) (D.fc 0))) (D.bc true) (D.bnot (S21_0 D (S38_0 D a0 a1 a2)))) (D.fc 0) (D.fdiv a2 (S38_0 D a0 a1 a2)))
def S23_3 (D : Dom) (a0 : D.F) (a1 : D.F) (a2 : D.F) : D.B := (D.bite (D.bite (D.bnot (D.fgt (S38_0 D a0 a1 a2) (D.fc 0))) (D.bc true) (D.bnot (S21_0 D (S38_0 D a0 a1 a2)))) (D.bc false) (D.bc true))
theorem ev23 (D : Dom) (a0 : D.F) (a1 : D.F) (a2 : D.F) : joinT (evFnH Try.prog (tbl_38 D) (lt_0 D) 80 23 [.agg [.fl a0, .fl a1, .fl a2]] [] 0) = .val none (.tup [.agg [.fl (S23_0 D a0 a1 a2), .fl (S23_1 D a0 a1 a2), .fl (S23_2 D a0 a1 a2)], .sb (S23_3 D a0 a1 a2)]) := by kernel_rfl
def sp23 : Ev.Spec := fun D l => argA l fun c0 r0 => argF c0 fun a0 r1 => argF r1 fun a1 r2 => argF r2 fun a2 r3 => arg0 r3 (arg0 r0 (.ret (.tup [.agg [.fl (S23_0 D a0 a1 a2), .fl (S23_1 D a0 a1 a2), .fl (S23_2 D a0 a1 a2)], .sb (S23_3 D a0 a1 a2)])))
theorem en23 : ∀ l r, (sp23 R l).run = some r → Entry Try.prog 23 l r := by
  intro l r h
  obtain ⟨_, _, h, L0⟩ := argA_inv h
  obtain ⟨x1, _, h, L1⟩ := argF_inv h
  obtain ⟨x2, _, h, L2⟩ := argF_inv h
  obtain ⟨x3, _, h, L3⟩ := argF_inv h
  obtain ⟨h, L4⟩ := arg0_inv h
  obtain ⟨h, L5⟩ := arg0_inv h
  cases h
  exact (entry_loops prg tok_38 hok_0 (ev23 R x1 x2 x3) (fun o ho => nomatch ho) rfl).le (L0 _ _ (L1 _ (L2 _ (L3 _ L4))) L5)
def tl_23 : List (Nat × Ev.Spec) := (23, sp23) :: tl_38
def tbl_23 (D : Dom) : Tbl D := tblOf tl_23 D
theorem tok_23 : TblOK Try.prog (tbl_23 R) := TblOK.cons tok_38 en23

-- penumbra/vec.Cross
def S25_0 (D : Dom) (a1 : D.F) (a2 : D.F) (a4 : D.F) (a5 : D.F) : D.F := (S24_0 D (S41_0 D a1 a5) (S41_0 D a2 a4))
def S25_1 (D : Dom) (a0 : D.F) (a2 : D.F) (a3 : D.F) (a5 : D.F) : D.F := (S24_1 D (S41_1 D a2 a3) (S41_1 D a0 a5))
def S25_2 (D : Dom) (a0 : D.F) (a1 : D.F) (a3 : D.F) (a4 : D.F) : D.F := (S24_2 D (S41_2 D a0 a4) (S41_2 D a1 a3))
theorem ev25 (D : Dom) (a0 : D.F) (a1 : D.F) (a2 : D.F) (a3 : D.F) (a4 : D.F) (a5 : D.F) : joinT (evFnH Try.prog (tbl_23 D) (lt_0 D) 80 25 [.agg [.fl a0, .fl a1, .fl a2], .agg [.fl a3, .fl a4, .fl a5]] [] 0) = .val none (.agg [.fl (S25_0 D a1 a2 a4 a5), .fl (S25_1 D a0 a2 a3 a5), .fl (S25_2 D a0 a1 a3 a4)]) := by kernel_rfl
def sp25 : Ev.Spec := fun D l => argA l fun c0 r0 => argF c0 fun a0 r1 => argF r1 fun a1 r2 => argF r2 fun a2 r3 => arg0 r3 (argA r0 fun c100 r100 => argF c100 fun a3 r101 => argF r101 fun a4 r102 => argF r102 fun a5 r103 => arg0 r103 (arg0 r100 (.ret (.agg [.fl (S25_0 D a1 a2 a4 a5), .fl (S25_1 D a0 a2 a3 a5), .fl (S25_2 D a0 a1 a3 a4)]))))
theorem en25 : ∀ l r, (sp25 R l).run = some r → Entry Try.prog 25 l r := by
  intro l r h
  obtain ⟨_, _, h, L0⟩ := argA_inv h
  obtain ⟨x1, _, h, L1⟩ := argF_inv h
  obtain ⟨x2, _, h, L2⟩ := argF_inv h
  obtain ⟨x3, _, h, L3⟩ := argF_inv h
  obtain ⟨h, L4⟩ := arg0_inv h
  obtain ⟨_, _, h, L5⟩ := argA_inv h
  obtain ⟨x6, _, h, L6⟩ := argF_inv h
  obtain ⟨x7, _, h, L7⟩ := argF_inv h
  obtain ⟨x8, _, h, L8⟩ := argF_inv h
  obtain ⟨h, L9⟩ := arg0_inv h
  obtain ⟨h, L10⟩ := arg0_inv h
  cases h
  exact (entry_loops prg tok_23 hok_0 (ev25 R x1 x2 x3 x6 x7 x8) (fun o ho => nomatch ho) rfl).le (L0 _ _ (L1 _ (L2 _ (L3 _ L4))) (L5 _ _ (L6 _ (L7 _ (L8 _ L9))) L10))
def tl_25 : List (Nat × Ev.Spec) := (25, sp25) :: tl_23
def tbl_25 (D : Dom) : Tbl D := tblOf tl_25 D
theorem tok_25 : TblOK Try.prog (tbl_25 R) := TblOK.cons tok_23 en25

-- (*penumbra/cam.View).Place$1
def S26_0 (D : Dom) (a0 : D.F) (a1 : D.F) : D.F := (D.fmul (D.fdiv a0 a1) (D.fc 4611686018427387904))
theorem ev26 (D : Dom) (a0 : D.F) (a1 : D.F) : joinT (evFnH Try.prog (tbl_25 D) (lt_0 D) 80 26 [.fl a0, .fl a1] [] 0) = .val none (.fl (S26_0 D a0 a1)) := by kernel_rfl
def sp26 : Ev.Spec := fun D l => argF l fun a0 r0 => argF r0 fun a1 r1 => arg0 r1 (.ret (.fl (S26_0 D a0 a1)))
theorem en26 : ∀ l r, (sp26 R l).run = some r → Entry Try.prog 26 l r := by
  intro l r h
  obtain ⟨x0, _, h, L0⟩ := argF_inv h
  obtain ⟨x1, _, h, L1⟩ := argF_inv h
  obtain ⟨h, L2⟩ := arg0_inv h
  cases h
  exact (entry_loops prg tok_25 hok_0 (ev26 R x0 x1) (fun o ho => nomatch ho) rfl).le (L0 _ (L1 _ L2))
def tl_26 : List (Nat × Ev.Spec) := (26, sp26) :: tl_25
def tbl_26 (D : Dom) : Tbl D := tblOf tl_26 D
theorem tok_26 : TblOK Try.prog (tbl_26 R) := TblOK.cons tok_25 en26

-- penumbra/vec.Scale
def S30_0 (D : Dom) (a0 : D.F) (a3 : D.F) : D.F := (S41_0 D a0 a3)
def S30_1 (D : Dom) (a1 : D.F) (a3 : D.F) : D.F := (S41_1 D a1 a3)
def S30_2 (D : Dom) (a2 : D.F) (a3 : D.F) : D.F := (S41_2 D a2 a3)
theorem ev30 (D : Dom) (a0 : D.F) (a1 : D.F) (a2 : D.F) (a3 : D.F) : joinT (evFnH Try.prog (tbl_26 D) (lt_0 D) 80 30 [.agg [.fl a0, .fl a1, .fl a2], .fl a3] [] 0) = .val none (.agg [.fl (S30_0 D a0 a3), .fl (S30_1 D a1 a3), .fl (S30_2 D a2 a3)]) := by kernel_rfl
def sp30 : Ev.Spec := fun D l => argA l fun c0 r0 => argF c0 fun a0 r1 => argF r1 fun a1 r2 => argF r2 fun a2 r3 => arg0 r3 (argF r0 fun a3 r100 => arg0 r100 (.ret (.agg [.fl (S30_0 D a0 a3), .fl (S30_1 D a1 a3), .fl (S30_2 D a2 a3)])))
theorem en30 : ∀ l r, (sp30 R l).run = some r → Entry Try.prog 30 l r := by
  intro l r h
  obtain ⟨_, _, h, L0⟩ := argA_inv h
  obtain ⟨x1, _, h, L1⟩ := argF_inv h
  obtain ⟨x2, _, h, L2⟩ := argF_inv h
  obtain ⟨x3, _, h, L3⟩ := argF_inv h
  obtain ⟨h, L4⟩ := arg0_inv h
  obtain ⟨x5, _, h, L5⟩ := argF_inv h
  obtain ⟨h, L6⟩ := arg0_inv h
  cases h
  exact (entry_loops prg tok_26 hok_0 (ev30 R x1 x2 x3 x5) (fun o ho => nomatch ho) rfl).le (L0 _ _ (L1 _ (L2 _ (L3 _ L4))) (L5 _ L6))
def tl_30 : List (Nat × Ev.Spec) := (30, sp30) :: tl_26
def tbl_30 (D : Dom) : Tbl D := tblOf tl_30 D
theorem tok_30 : TblOK Try.prog (tbl_30 R) := TblOK.cons tok_26 en30

-- penumbra/vec.Add$1
def S44_0 (D : Dom) (a0 : D.F) (a1 : D.F) : D.F := (D.fadd a0 a1)
theorem ev44 (D : Dom) (a0 : D.F) (a1 : D.F) : joinT (evFnH Try.prog (tbl_30 D) (lt_0 D) 80 44 [.fl a0, .fl a1] [] 0) = .val none (.fl (S44_0 D a0 a1)) := by kernel_rfl
def sp44 : Ev.Spec := fun D l => argF l fun a0 r0 => argF r0 fun a1 r1 => arg0 r1 (.ret (.fl (S44_0 D a0 a1)))
theorem en44 : ∀ l r, (sp44 R l).run = some r → Entry Try.prog 44 l r := by
  intro l r h
  obtain ⟨x0, _, h, L0⟩ := argF_inv h
  obtain ⟨x1, _, h, L1⟩ := argF_inv h
  obtain ⟨h, L2⟩ := arg0_inv h
  cases h
  exact (entry_loops prg tok_30 hok_0 (ev44 R x0 x1) (fun o ho => nomatch ho) rfl).le (L0 _ (L1 _ L2))
def tl_44 : List (Nat × Ev.Spec) := (44, sp44) :: tl_30
def tbl_44 (D : Dom) : Tbl D := tblOf tl_44 D
theorem tok_44 : TblOK Try.prog (tbl_44 R) := TblOK.cons tok_30 en44

-- penumbra/vec.Add
def S29_0 (D : Dom) (a0 : D.F) (a3 : D.F) : D.F := (S44_0 D a0 a3)
def S29_1 (D : Dom) (a1 : D.F) (a4 : D.F) : D.F := (S44_0 D a1 a4)
def S29_2 (D : Dom) (a2 : D.F) (a5 : D.F) : D.F := (S44_0 D a2 a5)
theorem ev29 (D : Dom) (a0 : D.F) (a1 : D.F) (a2 : D.F) (a3 : D.F) (a4 : D.F) (a5 : D.F) : joinT (evFnH Try.prog (tbl_44 D) (lt_0 D) 80 29 [.agg [.fl a0, .fl a1, .fl a2], .agg [.fl a3, .fl a4, .fl a5]] [] 0) = .val none (.agg [.fl (S29_0 D a0 a3), .fl (S29_1 D a1 a4), .fl (S29_2 D a2 a5)]) := by kernel_rfl
def sp29 : Ev.Spec := fun D l => argA l fun c0 r0 => argF c0 fun a0 r1 => argF r1 fun a1 r2 => argF r2 fun a2 r3 => arg0 r3 (argA r0 fun c100 r100 => argF c100 fun a3 r101 => argF r101 fun a4 r102 => argF r102 fun a5 r103 => arg0 r103 (arg0 r100 (.ret (.agg [.fl (S29_0 D a0 a3), .fl (S29_1 D a1 a4), .fl (S29_2 D a2 a5)]))))
theorem en29 : ∀ l r, (sp29 R l).run = some r → Entry Try.prog 29 l r := by
  intro l r h
  obtain ⟨_, _, h, L0⟩ := argA_inv h
  obtain ⟨x1, _, h, L1⟩ := argF_inv h
  obtain ⟨x2, _, h, L2⟩ := argF_inv h
  obtain ⟨x3, _, h, L3⟩ := argF_inv h
  obtain ⟨h, L4⟩ := arg0_inv h
  obtain ⟨_, _, h, L5⟩ := argA_inv h
  obtain ⟨x6, _, h, L6⟩ := argF_inv h
  obtain ⟨x7, _, h, L7⟩ := argF_inv h
  obtain ⟨x8, _, h, L8⟩ := argF_inv h
  obtain ⟨h, L9⟩ := arg0_inv h
  obtain ⟨h, L10⟩ := arg0_inv h
  cases h
  exact (entry_loops prg tok_44 hok_0 (ev29 R x1 x2 x3 x6 x7 x8) (fun o ho => nomatch ho) rfl).le (L0 _ _ (L1 _ (L2 _ (L3 _ L4))) (L5 _ _ (L6 _ (L7 _ (L8 _ L9))) L10))
def tl_29 : List (Nat × Ev.Spec) := (29, sp29) :: tl_44
def tbl_29 (D : Dom) : Tbl D := tblOf tl_29 D
theorem tok_29 : TblOK Try.prog (tbl_29 R) := TblOK.cons tok_44 en29

-- penumbra/tape.Clean
def S43_0 (D : Dom) (a0 : D.F) : D.F := (D.fite (D.bite (D.fge a0 (D.fc 0)) (D.flt a0 (D.fc 4607182418800017408)) (D.bc false)) a0 (D.fc 0))
theorem ev43 (D : Dom) (a0 : D.F) : joinT (evFnH Try.prog (tbl_29 D) (lt_0 D) 80 43 [.fl a0] [] 0) = .val none (.fl (S43_0 D a0)) := by kernel_rfl
def sp43 : Ev.Spec := fun D l => argF l fun a0 r0 => arg0 r0 (.ret (.fl (S43_0 D a0)))
theorem en43 : ∀ l r, (sp43 R l).run = some r → Entry Try.prog 43 l r := by
  intro l r h
  obtain ⟨x0, _, h, L0⟩ := argF_inv h
  obtain ⟨h, L1⟩ := arg0_inv h
  cases h
  exact (entry_loops prg tok_29 hok_0 (ev43 R x0) (fun o ho => nomatch ho) rfl).le (L0 _ L1)
def tl_43 : List (Nat × Ev.Spec) := (43, sp43) :: tl_29
def tbl_43 (D : Dom) : Tbl D := tblOf tl_43 D
theorem tok_43 : TblOK Try.prog (tbl_43 R) := TblOK.cons tok_29 en43

-- penumbra/warp.Sector
def WS50_0_0 (D : Dom) (a0 : D.F) : D.F := (D.fmul (S43_0 D a0) (D.fc 4620693217682128896))
def WS50_0_1 (D : Dom) (a0 : D.F) : D.Z := (D.zrem .i64 (D.f2i .i64 (WS50_0_0 D a0)) (D.zc 8))
def WS50_0_2 (D : Dom) (a0 : D.F) : D.F := (D.fsub (WS50_0_0 D a0) (D.i2f (D.f2i .i64 (WS50_0_0 D a0))))
def WS50_0_3 (D : Dom) (a0 : D.F) : D.F := (S35_0 D (D.fadd (D.fc 4607182418800017408) (D.fmul (WS50_0_2 D a0) (WS50_0_2 D a0))))
def WS50_0_4 (D : Dom) (a0 : D.F) : D.F := (D.fdiv (D.fc 4607182418800017408) (WS50_0_3 D a0))
def WS50_0_5 (D : Dom) (a0 : D.F) : D.F := (D.fsub (D.fc 0) (D.fdiv (WS50_0_2 D a0) (WS50_0_3 D a0)))
def S50_0 (D : Dom) (a0 : D.F) : D.F := (D.fite (D.zeq (WS50_0_1 D a0) (D.zc 0)) (WS50_0_4 D a0) (D.fite (D.zeq (WS50_0_1 D a0) (D.zc 1)) (D.fdiv (WS50_0_2 D a0) (WS50_0_3 D a0)) (D.fite (D.zeq (WS50_0_1 D a0) (D.zc 2)) (WS50_0_5 D a0) (D.fite (D.zeq (WS50_0_1 D a0) (D.zc 3)) (D.fsub (D.fc 0) (WS50_0_4 D a0)) (D.fite (D.zeq (WS50_0_1 D a0) (D.zc 4)) (D.fsub (D.fc 0) (WS50_0_4 D a0)) (D.fite (D.zeq (WS50_0_1 D a0) (D.zc 5)) (WS50_0_5 D a0) (D.fite (D.zeq (WS50_0_1 D a0) (D.zc 6)) (D.fdiv (WS50_0_2 D a0) (WS50_0_3 D a0)) (WS50_0_4 D a0))))))))
def WS50_1_0 (D : Dom) (a0 : D.F) : D.F := (D.fmul (S43_0 D a0) (D.fc 4620693217682128896))
def WS50_1_1 (D : Dom) (a0 : D.F) : D.Z := (D.zrem .i64 (D.f2i .i64 (WS50_1_0 D a0)) (D.zc 8))
def WS50_1_2 (D : Dom) (a0 : D.F) : D.F := (D.fsub (WS50_1_0 D a0) (D.i2f (D.f2i .i64 (WS50_1_0 D a0))))
def WS50_1_3 (D : Dom) (a0 : D.F) : D.F := (S35_0 D (D.fadd (D.fc 4607182418800017408) (D.fmul (WS50_1_2 D a0) (WS50_1_2 D a0))))
def WS50_1_4 (D : Dom) (a0 : D.F) : D.F := (D.fdiv (D.fc 4607182418800017408) (WS50_1_3 D a0))
def WS50_1_5 (D : Dom) (a0 : D.F) : D.F := (D.fsub (D.fc 0) (D.fdiv (WS50_1_2 D a0) (WS50_1_3 D a0)))
def S50_1 (D : Dom) (a0 : D.F) : D.F := (D.fite (D.zeq (WS50_1_1 D a0) (D.zc 0)) (D.fdiv (WS50_1_2 D a0) (WS50_1_3 D a0)) (D.fite (D.zeq (WS50_1_1 D a0) (D.zc 1)) (WS50_1_4 D a0) (D.fite (D.zeq (WS50_1_1 D a0) (D.zc 2)) (WS50_1_4 D a0) (D.fite (D.zeq (WS50_1_1 D a0) (D.zc 3)) (D.fdiv (WS50_1_2 D a0) (WS50_1_3 D a0)) (D.fite (D.zeq (WS50_1_1 D a0) (D.zc 4)) (WS50_1_5 D a0) (D.fite (D.zeq (WS50_1_1 D a0) (D.zc 5)) (D.fsub (D.fc 0) (WS50_1_4 D a0)) (D.fite (D.zeq (WS50_1_1 D a0) (D.zc 6)) (D.fsub (D.fc 0) (WS50_1_4 D a0)) (WS50_1_5 D a0))))))))
def S50_2 (D : Dom) (a0 : D.F) : D.F := (D.fmul (D.fadd (D.fc 4607182418800017408) (D.fmul (D.fsub (D.fmul (S43_0 D a0) (D.fc 4620693217682128896)) (D.i2f (D.f2i .i64 (D.fmul (S43_0 D a0) (D.fc 4620693217682128896))))) (D.fsub (D.fmul (S43_0 D a0) (D.fc 4620693217682128896)) (D.i2f (D.f2i .i64 (D.fmul (S43_0 D a0) (D.fc 4620693217682128896))))))) (D.fc 4593671619917905920))
def O50 (D : Dom) (a0 : D.F) : D.B := (D.band (D.f2iok .i64 (D.fmul (S43_0 D a0) (D.fc 4620693217682128896))) (D.band (D.bnot (D.zeq (D.zc 8) (D.zc 0))) (D.bite (D.zeq (D.zrem .i64 (D.f2i .i64 (D.fmul (S43_0 D a0) (D.fc 4620693217682128896))) (D.zc 8)) (D.zc 0)) (D.bc true) (D.bite (D.zeq (D.zrem .i64 (D.f2i .i64 (D.fmul (S43_0 D a0) (D.fc 4620693217682128896))) (D.zc 8)) (D.zc 1)) (D.bc true) (D.bite (D.zeq (D.zrem .i64 (D.f2i .i64 (D.fmul (S43_0 D a0) (D.fc 4620693217682128896))) (D.zc 8)) (D.zc 2)) (D.bc true) (D.bite (D.zeq (D.zrem .i64 (D.f2i .i64 (D.fmul (S43_0 D a0) (D.fc 4620693217682128896))) (D.zc 8)) (D.zc 3)) (D.bc true) (D.bite (D.zeq (D.zrem .i64 (D.f2i .i64 (D.fmul (S43_0 D a0) (D.fc 4620693217682128896))) (D.zc 8)) (D.zc 4)) (D.bc true) (D.bite (D.zeq (D.zrem .i64 (D.f2i .i64 (D.fmul (S43_0 D a0) (D.fc 4620693217682128896))) (D.zc 8)) (D.zc 5)) (D.bc true) (D.bite (D.zeq (D.zrem .i64 (D.f2i .i64 (D.fmul (S43_0 D a0) (D.fc 4620693217682128896))) (D.zc 8)) (D.zc 6)) (D.bc true) (D.zeq (D.zrem .i64 (D.f2i .i64 (D.fmul (S43_0 D a0) (D.fc 4620693217682128896))) (D.zc 8)) (D.zc 7)))))))))))
theorem ev50 (D : Dom) (a0 : D.F) : joinT (evFnH Try.prog (tbl_43 D) (lt_0 D) 80 50 [.fl a0] [] 0) = .val (some (O50 D a0)) (.tup [.fl (S50_0 D a0), .fl (S50_1 D a0), .fl (S50_2 D a0)]) := by kernel_rfl
def sp50 : Ev.Spec := fun D l => argF l fun a0 r0 => arg0 r0 (.node (O50 D a0) (.ret (.tup [.fl (S50_0 D a0), .fl (S50_1 D a0), .fl (S50_2 D a0)])) (.fail "pre"))
theorem en50 : ∀ l r, (sp50 R l).run = some r → Entry Try.prog 50 l r := by
  intro l r h
  obtain ⟨x0, _, h, L0⟩ := argF_inv h
  obtain ⟨h, L1⟩ := arg0_inv h
  obtain ⟨hok, rfl⟩ := run_okay h
  exact (entry_loops prg tok_43 hok_0 (ev50 R x0) (fun o ho => (Option.some.inj ho) ▸ hok) rfl).le (L0 _ L1)
def tl_50 : List (Nat × Ev.Spec) := (50, sp50) :: tl_43
def tbl_50 (D : Dom) : Tbl D := tblOf tl_50 D
theorem tok_50 : TblOK Try.prog (tbl_50 R) := TblOK.cons tok_43 en50

-- penumbra/warp.scaled
def S42_0 (D : Dom) (a0 : D.F) (a1 : D.F) : D.F := (D.fmul (S50_0 D a0) a1)
def S42_1 (D : Dom) (a0 : D.F) (a1 : D.F) : D.F := (D.fmul (S50_1 D a0) a1)
def S42_2 (D : Dom) (a0 : D.F) : D.F := (S50_2 D a0)
def O42 (D : Dom) (a0 : D.F) : D.B := (O50 D a0)
theorem ev42 (D : Dom) (a0 : D.F) (a1 : D.F) : joinT (evFnH Try.prog (tbl_50 D) (lt_0 D) 80 42 [.fl a0, .fl a1] [] 0) = .val (some (O42 D a0)) (.tup [.fl (S42_0 D a0 a1), .fl (S42_1 D a0 a1), .fl (S42_2 D a0)]) := by kernel_rfl
def sp42 : Ev.Spec := fun D l => argF l fun a0 r0 => argF r0 fun a1 r1 => arg0 r1 (.node (O42 D a0) (.ret (.tup [.fl (S42_0 D a0 a1), .fl (S42_1 D a0 a1), .fl (S42_2 D a0)])) (.fail "pre"))
theorem en42 : ∀ l r, (sp42 R l).run = some r → Entry Try.prog 42 l r := by
  intro l r h
  obtain ⟨x0, _, h, L0⟩ := argF_inv h
  obtain ⟨x1, _, h, L1⟩ := argF_inv h
  obtain ⟨h, L2⟩ := arg0_inv h
  obtain ⟨hok, rfl⟩ := run_okay h
  exact (entry_loops prg tok_50 hok_0 (ev42 R x0 x1) (fun o ho => (Option.some.inj ho) ▸ hok) rfl).le (L0 _ (L1 _ L2))
def tl_42 : List (Nat × Ev.Spec) := (42, sp42) :: tl_50
def tbl_42 (D : Dom) : Tbl D := tblOf tl_42 D
theorem tok_42 : TblOK Try.prog (tbl_42 R) := TblOK.cons tok_50 en42

-- penumbra/warp.Disk
def S28_0 (D : Dom) (a0 : D.F) (a1 : D.F) : D.F := (S42_0 D a1 (S35_0 D (S43_0 D a0)))
def S28_1 (D : Dom) (a0 : D.F) (a1 : D.F) : D.F := (S42_1 D a1 (S35_0 D (S43_0 D a0)))
def S28_2 (D : Dom) (a1 : D.F) : D.F := (D.fmul (D.fc 4611686018427387904) (S42_2 D a1))
def O28 (D : Dom) (a1 : D.F) : D.B := (O42 D a1)
theorem ev28 (D : Dom) (a0 : D.F) (a1 : D.F) : joinT (evFnH Try.prog (tbl_42 D) (lt_0 D) 80 28 [.fl a0, .fl a1] [] 0) = .val (some (O28 D a1)) (.tup [.fl (S28_0 D a0 a1), .fl (S28_1 D a0 a1), .fl (S28_2 D a1)]) := by kernel_rfl
def sp28 : Ev.Spec := fun D l => argF l fun a0 r0 => argF r0 fun a1 r1 => arg0 r1 (.node (O28 D a1) (.ret (.tup [.fl (S28_0 D a0 a1), .fl (S28_1 D a0 a1), .fl (S28_2 D a1)])) (.fail "pre"))
theorem en28 : ∀ l r, (sp28 R l).run = some r → Entry Try.prog 28 l r := by
  intro l r h
  obtain ⟨x0, _, h, L0⟩ := argF_inv h
  obtain ⟨x1, _, h, L1⟩ := argF_inv h
  obtain ⟨h, L2⟩ := arg0_inv h
  obtain ⟨hok, rfl⟩ := run_okay h
  exact (entry_loops prg tok_42 hok_0 (ev28 R x0 x1) (fun o ho => (Option.some.inj ho) ▸ hok) rfl).le (L0 _ (L1 _ L2))
def tl_28 : List (Nat × Ev.Spec) := (28, sp28) :: tl_42
def tbl_28 (D : Dom) : Tbl D := tblOf tl_28 D
theorem tok_28 : TblOK Try.prog (tbl_28 R) := TblOK.cons tok_42 en28

-- penumbra/penumbralaw19.awake
theorem ev7 : isTrueRun (evFn Try.prog (tbl_0 R) 400 7 []).run = true := by kernel_rfl
def sp7 : Ev.Spec := fun _ l => arg0 l (.ret (.kb true))
theorem en7 : ∀ l r, (sp7 R l).run = some r → Entry Try.prog 7 l r := by
  intro l r h
  obtain ⟨h, L0⟩ := arg0_inv h
  cases h
  exact (entry_true prg tok_0 ev7).le L0
def tl_7 : List (Nat × Ev.Spec) := (7, sp7) :: tl_28
def tbl_7 (D : Dom) : Tbl D := tblOf tl_7 D
theorem tok_7 : TblOK Try.prog (tbl_7 R) := TblOK.cons tok_28 en7

-- penumbra/penumbraref19.Place
def S9_0 (D : Dom) (a9 : D.F) (a12 : D.Z) (a13 : D.Z) (a14 : D.F) : D.F := (D.fmul (D.fsub (D.fmul (D.fdiv a14 (D.i2f a12)) (D.fc 4611686018427387904)) (D.fc 4607182418800017408)) (D.fmul a9 (D.fdiv (D.i2f a12) (D.i2f a13))))
def S9_1 (D : Dom) (a9 : D.F) (a13 : D.Z) (a15 : D.F) : D.F := (D.fmul (D.fsub (D.fc 4607182418800017408) (D.fmul (D.fdiv a15 (D.i2f a13)) (D.fc 4611686018427387904))) a9)
theorem ev9 (D : Dom) (a0 : D.F) (a1 : D.F) (a2 : D.F) (a3 : D.F) (a4 : D.F) (a5 : D.F) (a6 : D.F) (a7 : D.F) (a8 : D.F) (a9 : D.F) (a10 : D.F) (a11 : D.F) (a12 : D.Z) (a13 : D.Z) (a14 : D.F) (a15 : D.F) : joinT (evFnH Try.prog (tbl_7 D) (lt_0 D) 80 9 [.agg [.fl a0, .fl a1, .fl a2, .fl a3, .fl a4, .fl a5, .fl a6, .fl a7, .fl a8, .fl a9, .fl a10, .fl a11], .si .i64 a12, .si .i64 a13, .fl a14, .fl a15] [] 0) = .val none (.tup [.fl (S9_0 D a9 a12 a13 a14), .fl (S9_1 D a9 a13 a15)]) := by kernel_rfl
def sp9 : Ev.Spec := fun D l => argA l fun c0 r0 => argF c0 fun _a0 r1 => argF r1 fun _a1 r2 => argF r2 fun _a2 r3 => argF r3 fun _a3 r4 => argF r4 fun _a4 r5 => argF r5 fun _a5 r6 => argF r6 fun _a6 r7 => argF r7 fun _a7 r8 => argF r8 fun _a8 r9 => argF r9 fun a9 r10 => argF r10 fun _a10 r11 => argF r11 fun _a11 r12 => arg0 r12 (argZ .i64 r0 fun a12 r100 => argZ .i64 r100 fun a13 r101 => argF r101 fun a14 r102 => argF r102 fun a15 r103 => arg0 r103 (.ret (.tup [.fl (S9_0 D a9 a12 a13 a14), .fl (S9_1 D a9 a13 a15)])))
theorem en9 : ∀ l r, (sp9 R l).run = some r → Entry Try.prog 9 l r := by
  intro l r h
  obtain ⟨_, _, h, L0⟩ := argA_inv h
  obtain ⟨x1, _, h, L1⟩ := argF_inv h
  obtain ⟨x2, _, h, L2⟩ := argF_inv h
  obtain ⟨x3, _, h, L3⟩ := argF_inv h
  obtain ⟨x4, _, h, L4⟩ := argF_inv h
  obtain ⟨x5, _, h, L5⟩ := argF_inv h
  obtain ⟨x6, _, h, L6⟩ := argF_inv h
  obtain ⟨x7, _, h, L7⟩ := argF_inv h
  obtain ⟨x8, _, h, L8⟩ := argF_inv h
  obtain ⟨x9, _, h, L9⟩ := argF_inv h
  obtain ⟨x10, _, h, L10⟩ := argF_inv h
  obtain ⟨x11, _, h, L11⟩ := argF_inv h
  obtain ⟨x12, _, h, L12⟩ := argF_inv h
  obtain ⟨h, L13⟩ := arg0_inv h
  obtain ⟨x14, _, h, L14⟩ := argZ_inv h
  obtain ⟨x15, _, h, L15⟩ := argZ_inv h
  obtain ⟨x16, _, h, L16⟩ := argF_inv h
  obtain ⟨x17, _, h, L17⟩ := argF_inv h
  obtain ⟨h, L18⟩ := arg0_inv h
  cases h
  exact (entry_loops prg tok_7 hok_0 (ev9 R x1 x2 x3 x4 x5 x6 x7 x8 x9 x10 x11 x12 x14 x15 x16 x17) (fun o ho => nomatch ho) rfl).le (L0 _ _ (L1 _ (L2 _ (L3 _ (L4 _ (L5 _ (L6 _ (L7 _ (L8 _ (L9 _ (L10 _ (L11 _ (L12 _ L13)))))))))))) (L14 _ (L15 _ (L16 _ (L17 _ L18)))))
def tl_9 : List (Nat × Ev.Spec) := (9, sp9) :: tl_7
def tbl_9 (D : Dom) : Tbl D := tblOf tl_9 D
theorem tok_9 : TblOK Try.prog (tbl_9 R) := TblOK.cons tok_7 en9

-- penumbra/penumbraref02.Scale
def S34_0 (D : Dom) (a0 : D.F) (a3 : D.F) : D.F := (D.fmul a0 a3)
def S34_1 (D : Dom) (a1 : D.F) (a3 : D.F) : D.F := (D.fmul a1 a3)
def S34_2 (D : Dom) (a2 : D.F) (a3 : D.F) : D.F := (D.fmul a2 a3)
theorem ev34 (D : Dom) (a0 : D.F) (a1 : D.F) (a2 : D.F) (a3 : D.F) : joinT (evFnH Try.prog (tbl_9 D) (lt_0 D) 80 34 [.agg [.fl a0, .fl a1, .fl a2], .fl a3] [] 0) = .val none (.agg [.fl (S34_0 D a0 a3), .fl (S34_1 D a1 a3), .fl (S34_2 D a2 a3)]) := by kernel_rfl
def sp34 : Ev.Spec := fun D l => argA l fun c0 r0 => argF c0 fun a0 r1 => argF r1 fun a1 r2 => argF r2 fun a2 r3 => arg0 r3 (argF r0 fun a3 r100 => arg0 r100 (.ret (.agg [.fl (S34_0 D a0 a3), .fl (S34_1 D a1 a3), .fl (S34_2 D a2 a3)])))
theorem en34 : ∀ l r, (sp34 R l).run = some r → Entry Try.prog 34 l r := by
  intro l r h
  obtain ⟨_, _, h, L0⟩ := argA_inv h
  obtain ⟨x1, _, h, L1⟩ := argF_inv h
  obtain ⟨x2, _, h, L2⟩ := argF_inv h
  obtain ⟨x3, _, h, L3⟩ := argF_inv h
  obtain ⟨h, L4⟩ := arg0_inv h
  obtain ⟨x5, _, h, L5⟩ := argF_inv h
  obtain ⟨h, L6⟩ := arg0_inv h
  cases h
  exact (entry_loops prg tok_9 hok_0 (ev34 R x1 x2 x3 x5) (fun o ho => nomatch ho) rfl).le (L0 _ _ (L1 _ (L2 _ (L3 _ L4))) (L5 _ L6))
def tl_34 : List (Nat × Ev.Spec) := (34, sp34) :: tl_9
def tbl_34 (D : Dom) : Tbl D := tblOf tl_34 D
theorem tok_34 : TblOK Try.prog (tbl_34 R) := TblOK.cons tok_9 en34

-- penumbra/penumbraref02.Add
def S33_0 (D : Dom) (a0 : D.F) (a3 : D.F) : D.F := (D.fadd a0 a3)
def S33_1 (D : Dom) (a1 : D.F) (a4 : D.F) : D.F := (D.fadd a1 a4)
def S33_2 (D : Dom) (a2 : D.F) (a5 : D.F) : D.F := (D.fadd a2 a5)
theorem ev33 (D : Dom) (a0 : D.F) (a1 : D.F) (a2 : D.F) (a3 : D.F) (a4 : D.F) (a5 : D.F) : joinT (evFnH Try.prog (tbl_34 D) (lt_0 D) 80 33 [.agg [.fl a0, .fl a1, .fl a2], .agg [.fl a3, .fl a4, .fl a5]] [] 0) = .val none (.agg [.fl (S33_0 D a0 a3), .fl (S33_1 D a1 a4), .fl (S33_2 D a2 a5)]) := by kernel_rfl
def sp33 : Ev.Spec := fun D l => argA l fun c0 r0 => argF c0 fun a0 r1 => argF r1 fun a1 r2 => argF r2 fun a2 r3 => arg0 r3 (argA r0 fun c100 r100 => argF c100 fun a3 r101 => argF r101 fun a4 r102 => argF r102 fun a5 r103 => arg0 r103 (arg0 r100 (.ret (.agg [.fl (S33_0 D a0 a3), .fl (S33_1 D a1 a4), .fl (S33_2 D a2 a5)]))))
theorem en33 : ∀ l r, (sp33 R l).run = some r → Entry Try.prog 33 l r := by
  intro l r h
  obtain ⟨_, _, h, L0⟩ := argA_inv h
  obtain ⟨x1, _, h, L1⟩ := argF_inv h
  obtain ⟨x2, _, h, L2⟩ := argF_inv h
  obtain ⟨x3, _, h, L3⟩ := argF_inv h
  obtain ⟨h, L4⟩ := arg0_inv h
  obtain ⟨_, _, h, L5⟩ := argA_inv h
  obtain ⟨x6, _, h, L6⟩ := argF_inv h
  obtain ⟨x7, _, h, L7⟩ := argF_inv h
  obtain ⟨x8, _, h, L8⟩ := argF_inv h
  obtain ⟨h, L9⟩ := arg0_inv h
  obtain ⟨h, L10⟩ := arg0_inv h
  cases h
  exact (entry_loops prg tok_34 hok_0 (ev33 R x1 x2 x3 x6 x7 x8) (fun o ho => nomatch ho) rfl).le (L0 _ _ (L1 _ (L2 _ (L3 _ L4))) (L5 _ _ (L6 _ (L7 _ (L8 _ L9))) L10))
def tl_33 : List (Nat × Ev.Spec) := (33, sp33) :: tl_34
def tbl_33 (D : Dom) : Tbl D := tblOf tl_33 D
theorem tok_33 : TblOK Try.prog (tbl_33 R) := TblOK.cons tok_34 en33

-- penumbra/penumbraref19.Beside
def S31_0 (D : Dom) (a0 : D.F) (a3 : D.F) (a6 : D.F) (a9 : D.F) (a10 : D.F) : D.F := (S33_0 D (S33_0 D a0 (S34_0 D a3 a9)) (S34_0 D a6 a10))
def S31_1 (D : Dom) (a1 : D.F) (a4 : D.F) (a7 : D.F) (a9 : D.F) (a10 : D.F) : D.F := (S33_1 D (S33_1 D a1 (S34_1 D a4 a9)) (S34_1 D a7 a10))
def S31_2 (D : Dom) (a2 : D.F) (a5 : D.F) (a8 : D.F) (a9 : D.F) (a10 : D.F) : D.F := (S33_2 D (S33_2 D a2 (S34_2 D a5 a9)) (S34_2 D a8 a10))
theorem ev31 (D : Dom) (a0 : D.F) (a1 : D.F) (a2 : D.F) (a3 : D.F) (a4 : D.F) (a5 : D.F) (a6 : D.F) (a7 : D.F) (a8 : D.F) (a9 : D.F) (a10 : D.F) : joinT (evFnH Try.prog (tbl_33 D) (lt_0 D) 80 31 [.agg [.fl a0, .fl a1, .fl a2], .agg [.fl a3, .fl a4, .fl a5], .agg [.fl a6, .fl a7, .fl a8], .fl a9, .fl a10] [] 0) = .val none (.agg [.fl (S31_0 D a0 a3 a6 a9 a10), .fl (S31_1 D a1 a4 a7 a9 a10), .fl (S31_2 D a2 a5 a8 a9 a10)]) := by kernel_rfl
def sp31 : Ev.Spec := fun D l => argA l fun c0 r0 => argF c0 fun a0 r1 => argF r1 fun a1 r2 => argF r2 fun a2 r3 => arg0 r3 (argA r0 fun c100 r100 => argF c100 fun a3 r101 => argF r101 fun a4 r102 => argF r102 fun a5 r103 => arg0 r103 (argA r100 fun c200 r200 => argF c200 fun a6 r201 => argF r201 fun a7 r202 => argF r202 fun a8 r203 => arg0 r203 (argF r200 fun a9 r300 => argF r300 fun a10 r301 => arg0 r301 (.ret (.agg [.fl (S31_0 D a0 a3 a6 a9 a10), .fl (S31_1 D a1 a4 a7 a9 a10), .fl (S31_2 D a2 a5 a8 a9 a10)])))))
theorem en31 : ∀ l r, (sp31 R l).run = some r → Entry Try.prog 31 l r := by
  intro l r h
  obtain ⟨_, _, h, L0⟩ := argA_inv h
  obtain ⟨x1, _, h, L1⟩ := argF_inv h
  obtain ⟨x2, _, h, L2⟩ := argF_inv h
  obtain ⟨x3, _, h, L3⟩ := argF_inv h
  obtain ⟨h, L4⟩ := arg0_inv h
  obtain ⟨_, _, h, L5⟩ := argA_inv h
  obtain ⟨x6, _, h, L6⟩ := argF_inv h
  obtain ⟨x7, _, h, L7⟩ := argF_inv h
  obtain ⟨x8, _, h, L8⟩ := argF_inv h
  obtain ⟨h, L9⟩ := arg0_inv h
  obtain ⟨_, _, h, L10⟩ := argA_inv h
  obtain ⟨x11, _, h, L11⟩ := argF_inv h
  obtain ⟨x12, _, h, L12⟩ := argF_inv h
  obtain ⟨x13, _, h, L13⟩ := argF_inv h
  obtain ⟨h, L14⟩ := arg0_inv h
  obtain ⟨x15, _, h, L15⟩ := argF_inv h
  obtain ⟨x16, _, h, L16⟩ := argF_inv h
  obtain ⟨h, L17⟩ := arg0_inv h
  cases h
  exact (entry_loops prg tok_33 hok_0 (ev31 R x1 x2 x3 x6 x7 x8 x11 x12 x13 x15 x16) (fun o ho => nomatch ho) rfl).le (L0 _ _ (L1 _ (L2 _ (L3 _ L4))) (L5 _ _ (L6 _ (L7 _ (L8 _ L9))) (L10 _ _ (L11 _ (L12 _ (L13 _ L14))) (L15 _ (L16 _ L17)))))
def tl_31 : List (Nat × Ev.Spec) := (31, sp31) :: tl_33
def tbl_31 (D : Dom) : Tbl D := tblOf tl_31 D
theorem tok_31 : TblOK Try.prog (tbl_31 R) := TblOK.cons tok_33 en31

-- penumbra/penumbraref06.Clean
def S45_0 (D : Dom) (a0 : D.F) : D.F := (D.fite (D.bite (D.bite (D.flt a0 (D.fc 0)) (D.bc true) (D.fge a0 (D.fc 4607182418800017408))) (D.bc true) (D.bnot (D.feq a0 a0))) (D.fc 0) a0)
theorem ev45 (D : Dom) (a0 : D.F) : joinT (evFnH Try.prog (tbl_31 D) (lt_0 D) 80 45 [.fl a0] [] 0) = .val none (.fl (S45_0 D a0)) := by kernel_rfl
def sp45 : Ev.Spec := fun D l => argF l fun a0 r0 => arg0 r0 (.ret (.fl (S45_0 D a0)))
theorem en45 : ∀ l r, (sp45 R l).run = some r → Entry Try.prog 45 l r := by
  intro l r h
  obtain ⟨x0, _, h, L0⟩ := argF_inv h
  obtain ⟨h, L1⟩ := arg0_inv h
  cases h
  exact (entry_loops prg tok_31 hok_0 (ev45 R x0) (fun o ho => nomatch ho) rfl).le (L0 _ L1)
def tl_45 : List (Nat × Ev.Spec) := (45, sp45) :: tl_31
def tbl_45 (D : Dom) : Tbl D := tblOf tl_45 D
theorem tok_45 : TblOK Try.prog (tbl_45 R) := TblOK.cons tok_31 en45

-- loop 0
def C0 (D : Dom) (a0 : D.F) (a1 : D.Z) : D.B := (D.bite (D.zlt a1 (D.zc 7)) (D.fle (D.i2f (D.zadd .i64 a1 (D.zc 1))) a0) (D.bc false))
def O0_ (D : Dom)  : D.B := (D.bc true)
def N0_0 (D : Dom) (a1 : D.Z) : D.Z := (D.zadd .i64 a1 (D.zc 1))
def G0 (D : Dom) (a0 : D.F) (p : List (PD D)) : D.B × D.B × List (PD D) := (C0 D a0 (nthZ p 0), O0_ D, [.z (N0_0 D (nthZ p 0))])
def L0 (D : Dom) (a0 : D.F) (a1 : D.Z) : List (PD D) := D.last (G0 D a0) [.z a1]
def E0 (D : Dom) (a0 : D.F) (a1 : D.Z) : D.B := D.ends (G0 D a0) [.z a1]
def sh_0 : HSh := ⟨0, 0, [.ctx, .env (.undef), .ctx, .ctx, .ctx, .env (.fl ()), .var (.si .i64 ()), .env (.undef), .env (.undef), .env (.undef), .env (.undef), .env (.undef), .env (.undef), .env (.undef), .env (.undef), .ctx, .ctx, .ctx, .drop, .drop, .drop, .drop, .drop, .drop, .drop, .drop, .drop, .drop, .drop, .env (.undef), .env (.undef), .env (.undef), .env (.undef), .env (.undef), .env (.undef), .env (.undef), .env (.undef), .env (.undef), .env (.undef), .env (.undef), .env (.undef), .env (.undef), .env (.undef), .env (.undef), .env (.undef), .env (.undef), .env (.undef), .env (.undef), .env (.undef), .env (.undef), .env (.undef), .env (.undef), .env (.undef), .env (.undef), .env (.undef), .env (.undef), .env (.undef), .env (.undef), .env (.undef), .env (.undef), .env (.undef), .env (.undef), .env (.undef), .env (.undef), .env (.undef), .env (.undef), .env (.undef), .env (.undef), .env (.undef), .env (.undef), .env (.undef), .env (.undef), .env (.undef), .env (.undef), .env (.undef), .env (.undef), .env (.undef), .env (.undef), .env (.undef)], [], [], []⟩
def st_0 (D : Dom) (env p : List (PD D)) : D.B × D.B × List (PD D) := G0 D (nthF env 0) p
theorem rd_0 (D : Dom) (env vars : List (PD D)) (ctx : List (AV D)) : (sh_0.round (sh_0.st env vars ctx).h.length (evCodeH Try.prog (tbl_45 D) (lt_0 D) 80 46 (loopB Try.prog 46 0) (sh_0.st env vars ctx))).map Nr.step = some (st_0 D env vars) := by kernel_rfl
noncomputable def ll_1 (D : Dom) : List (LE D) := ⟨46, 0, sh_0, st_0 D, fun s => evCodeH Try.prog (tbl_45 D) (lt_0 D) 80 46 (loopB Try.prog 46 0) s⟩ :: ll_0 D
noncomputable def lt_1 (D : Dom) : LTb D := ltOf (ll_1 D)
theorem hok_1 : HooksOK Try.prog (lt_1 R) := HooksOK.cons prg tok_45 hok_0 (by kernel_rfl) (by kernel_rfl) (rd_0 R)

-- penumbra/penumbraref09.Sector
def WS46_0_0 (D : Dom) (a0 : D.F) : D.F := (D.fmul (D.fc 4620693217682128896) (S45_0 D a0))
def WS46_0_1 (D : Dom) (a0 : D.F) : List (PD D) := (L0 D (WS46_0_0 D a0) (D.zc 0))
def WS46_0_2 (D : Dom) (a0 : D.F) : D.F := (D.fsub (WS46_0_0 D a0) (D.i2f (nthZ (WS46_0_1 D a0) 0)))
def WS46_0_3 (D : Dom) (a0 : D.F) : D.F := (S35_0 D (D.fadd (D.fc 4607182418800017408) (D.fmul (WS46_0_2 D a0) (WS46_0_2 D a0))))
def WS46_0_4 (D : Dom) (a0 : D.F) : D.F := (D.fite (D.bite (D.bite (D.bite (D.zeq (nthZ (WS46_0_1 D a0) 0) (D.zc 1)) (D.bc true) (D.zeq (nthZ (WS46_0_1 D a0) 0) (D.zc 2))) (D.bc true) (D.zeq (nthZ (WS46_0_1 D a0) 0) (D.zc 5))) (D.bc true) (D.zeq (nthZ (WS46_0_1 D a0) 0) (D.zc 6))) (D.fdiv (WS46_0_2 D a0) (WS46_0_3 D a0)) (D.fdiv (D.fc 4607182418800017408) (WS46_0_3 D a0)))
def S46_0 (D : Dom) (a0 : D.F) : D.F := (D.fite (D.bite (D.zle (D.zc 2) (nthZ (WS46_0_1 D a0) 0)) (D.zle (nthZ (WS46_0_1 D a0) 0) (D.zc 5)) (D.bc false)) (D.fsub (D.fc 0) (WS46_0_4 D a0)) (WS46_0_4 D a0))
def WS46_1_0 (D : Dom) (a0 : D.F) : D.F := (D.fmul (D.fc 4620693217682128896) (S45_0 D a0))
def WS46_1_1 (D : Dom) (a0 : D.F) : List (PD D) := (L0 D (WS46_1_0 D a0) (D.zc 0))
def WS46_1_2 (D : Dom) (a0 : D.F) : D.F := (D.fsub (WS46_1_0 D a0) (D.i2f (nthZ (WS46_1_1 D a0) 0)))
def WS46_1_3 (D : Dom) (a0 : D.F) : D.F := (S35_0 D (D.fadd (D.fc 4607182418800017408) (D.fmul (WS46_1_2 D a0) (WS46_1_2 D a0))))
def WS46_1_4 (D : Dom) (a0 : D.F) : D.F := (D.fite (D.bite (D.bite (D.bite (D.zeq (nthZ (WS46_1_1 D a0) 0) (D.zc 1)) (D.bc true) (D.zeq (nthZ (WS46_1_1 D a0) 0) (D.zc 2))) (D.bc true) (D.zeq (nthZ (WS46_1_1 D a0) 0) (D.zc 5))) (D.bc true) (D.zeq (nthZ (WS46_1_1 D a0) 0) (D.zc 6))) (D.fdiv (D.fc 4607182418800017408) (WS46_1_3 D a0)) (D.fdiv (WS46_1_2 D a0) (WS46_1_3 D a0)))
def S46_1 (D : Dom) (a0 : D.F) : D.F := (D.fite (D.zle (D.zc 4) (nthZ (WS46_1_1 D a0) 0)) (D.fsub (D.fc 0) (WS46_1_4 D a0)) (WS46_1_4 D a0))
def WS46_2_0 (D : Dom) (a0 : D.F) : D.F := (D.fmul (D.fc 4620693217682128896) (S45_0 D a0))
def WS46_2_1 (D : Dom) (a0 : D.F) : List (PD D) := (L0 D (WS46_2_0 D a0) (D.zc 0))
def WS46_2_2 (D : Dom) (a0 : D.F) : D.F := (D.fsub (WS46_2_0 D a0) (D.i2f (nthZ (WS46_2_1 D a0) 0)))
def S46_2 (D : Dom) (a0 : D.F) : D.F := (D.fmul (D.fadd (D.fc 4607182418800017408) (D.fmul (WS46_2_2 D a0) (WS46_2_2 D a0))) (D.fc 4593671619917905920))
def O46 (D : Dom) (a0 : D.F) : D.B := (E0 D (D.fmul (D.fc 4620693217682128896) (S45_0 D a0)) (D.zc 0))
theorem ev46 (D : Dom) (a0 : D.F) : joinT (evFnH Try.prog (tbl_45 D) (lt_1 D) 80 46 [.fl a0] [] 0) = .val (some (O46 D a0)) (.tup [.fl (S46_0 D a0), .fl (S46_1 D a0), .fl (S46_2 D a0)]) := by kernel_rfl
def sp46 : Ev.Spec := fun D l => argF l fun a0 r0 => arg0 r0 (.node (O46 D a0) (.ret (.tup [.fl (S46_0 D a0), .fl (S46_1 D a0), .fl (S46_2 D a0)])) (.fail "pre"))
theorem en46 : ∀ l r, (sp46 R l).run = some r → Entry Try.prog 46 l r := by
  intro l r h
  obtain ⟨x0, _, h, L0⟩ := argF_inv h
  obtain ⟨h, L1⟩ := arg0_inv h
  obtain ⟨hok, rfl⟩ := run_okay h
  exact (entry_loops prg tok_45 hok_1 (ev46 R x0) (fun o ho => (Option.some.inj ho) ▸ hok) rfl).le (L0 _ L1)
def tl_46 : List (Nat × Ev.Spec) := (46, sp46) :: tl_45
def tbl_46 (D : Dom) : Tbl D := tblOf tl_46 D
theorem tok_46 : TblOK Try.prog (tbl_46 R) := TblOK.cons tok_45 en46

-- penumbra/penumbraref09.Disk
def S32_0 (D : Dom) (a0 : D.F) (a1 : D.F) : D.F := (D.fmul (S46_0 D a1) (S35_0 D (S45_0 D a0)))
def S32_1 (D : Dom) (a0 : D.F) (a1 : D.F) : D.F := (D.fmul (S46_1 D a1) (S35_0 D (S45_0 D a0)))
def S32_2 (D : Dom) (a1 : D.F) : D.F := (D.fmul (S46_2 D a1) (D.fc 4611686018427387904))
def O32 (D : Dom) (a1 : D.F) : D.B := (O46 D a1)
theorem ev32 (D : Dom) (a0 : D.F) (a1 : D.F) : joinT (evFnH Try.prog (tbl_46 D) (lt_1 D) 80 32 [.fl a0, .fl a1] [] 0) = .val (some (O32 D a1)) (.tup [.fl (S32_0 D a0 a1), .fl (S32_1 D a0 a1), .fl (S32_2 D a1)]) := by kernel_rfl
def sp32 : Ev.Spec := fun D l => argF l fun a0 r0 => argF r0 fun a1 r1 => arg0 r1 (.node (O32 D a1) (.ret (.tup [.fl (S32_0 D a0 a1), .fl (S32_1 D a0 a1), .fl (S32_2 D a1)])) (.fail "pre"))
theorem en32 : ∀ l r, (sp32 R l).run = some r → Entry Try.prog 32 l r := by
  intro l r h
  obtain ⟨x0, _, h, L0⟩ := argF_inv h
  obtain ⟨x1, _, h, L1⟩ := argF_inv h
  obtain ⟨h, L2⟩ := arg0_inv h
  obtain ⟨hok, rfl⟩ := run_okay h
  exact (entry_loops prg tok_46 hok_1 (ev32 R x0 x1) (fun o ho => (Option.some.inj ho) ▸ hok) rfl).le (L0 _ (L1 _ L2))
def tl_32 : List (Nat × Ev.Spec) := (32, sp32) :: tl_46
def tbl_32 (D : Dom) : Tbl D := tblOf tl_32 D
theorem tok_32 : TblOK Try.prog (tbl_32 R) := TblOK.cons tok_46 en32

-- penumbra/penumbraref19.Ray
def WS11_0_0 (D : Dom) (a0 : D.F) (a1 : D.F) (a2 : D.F) (a3 : D.F) (a4 : D.F) (a5 : D.F) (a6 : D.F) (a7 : D.F) (a8 : D.F) (a9 : D.F) (a10 : D.F) (a11 : D.F) : D.F := (S5_3 D a0 a1 a2 a3 a4 a5 a6 a7 a8 a9 a10 a11)
def WS11_0_1 (D : Dom) (a0 : D.F) (a1 : D.F) (a2 : D.F) (a3 : D.F) (a4 : D.F) (a5 : D.F) (a6 : D.F) (a7 : D.F) (a8 : D.F) (a9 : D.F) (a10 : D.F) (a11 : D.F) : D.F := (S5_6 D a0 a1 a2 a3 a4 a5 a6 a7 a8 a9 a10 a11)
def WS11_0_2 (D : Dom) (a0 : D.F) (a1 : D.F) (a2 : D.F) (a3 : D.F) (a4 : D.F) (a5 : D.F) (a6 : D.F) (a7 : D.F) (a8 : D.F) (a9 : D.F) (a10 : D.F) (a11 : D.F) (a12 : D.Z) (a13 : D.Z) (a14 : D.F) (a15 : D.F) : D.F := (S31_0 D (S5_0 D a0 a1 a2 a3 a4 a5 a6 a7 a8 a9 a10 a11) (WS11_0_0 D a0 a1 a2 a3 a4 a5 a6 a7 a8 a9 a10 a11) (WS11_0_1 D a0 a1 a2 a3 a4 a5 a6 a7 a8 a9 a10 a11) (S9_0 D a9 a12 a13 a14) (S9_1 D a9 a13 a15))
def WS11_0_3 (D : Dom) (a0 : D.F) (a1 : D.F) (a2 : D.F) (a3 : D.F) (a4 : D.F) (a5 : D.F) (a6 : D.F) (a7 : D.F) (a8 : D.F) (a9 : D.F) (a10 : D.F) (a11 : D.F) (a16 : D.F) (a17 : D.F) : D.F := (S31_0 D a0 (WS11_0_0 D a0 a1 a2 a3 a4 a5 a6 a7 a8 a9 a10 a11) (WS11_0_1 D a0 a1 a2 a3 a4 a5 a6 a7 a8 a9 a10 a11) (D.fmul (S32_0 D a16 a17) a10) (D.fmul (S32_1 D a16 a17) a10))
def WS11_0_4 (D : Dom) (a0 : D.F) (a1 : D.F) (a2 : D.F) (a3 : D.F) (a4 : D.F) (a5 : D.F) (a6 : D.F) (a7 : D.F) (a8 : D.F) (a9 : D.F) (a10 : D.F) (a11 : D.F) : D.F := (S5_4 D a0 a1 a2 a3 a4 a5 a6 a7 a8 a9 a10 a11)
def WS11_0_5 (D : Dom) (a0 : D.F) (a1 : D.F) (a2 : D.F) (a3 : D.F) (a4 : D.F) (a5 : D.F) (a6 : D.F) (a7 : D.F) (a8 : D.F) (a9 : D.F) (a10 : D.F) (a11 : D.F) : D.F := (S5_7 D a0 a1 a2 a3 a4 a5 a6 a7 a8 a9 a10 a11)
def WS11_0_6 (D : Dom) (a0 : D.F) (a1 : D.F) (a2 : D.F) (a3 : D.F) (a4 : D.F) (a5 : D.F) (a6 : D.F) (a7 : D.F) (a8 : D.F) (a9 : D.F) (a10 : D.F) (a11 : D.F) (a12 : D.Z) (a13 : D.Z) (a14 : D.F) (a15 : D.F) : D.F := (S31_1 D (S5_1 D a0 a1 a2 a3 a4 a5 a6 a7 a8 a9 a10 a11) (WS11_0_4 D a0 a1 a2 a3 a4 a5 a6 a7 a8 a9 a10 a11) (WS11_0_5 D a0 a1 a2 a3 a4 a5 a6 a7 a8 a9 a10 a11) (S9_0 D a9 a12 a13 a14) (S9_1 D a9 a13 a15))
def WS11_0_7 (D : Dom) (a0 : D.F) (a1 : D.F) (a2 : D.F) (a3 : D.F) (a4 : D.F) (a5 : D.F) (a6 : D.F) (a7 : D.F) (a8 : D.F) (a9 : D.F) (a10 : D.F) (a11 : D.F) : D.F := (S5_5 D a0 a1 a2 a3 a4 a5 a6 a7 a8 a9 a10 a11)
def WS11_0_8 (D : Dom) (a0 : D.F) (a1 : D.F) (a2 : D.F) (a3 : D.F) (a4 : D.F) (a5 : D.F) (a6 : D.F) (a7 : D.F) (a8 : D.F) (a9 : D.F) (a10 : D.F) (a11 : D.F) : D.F := (S5_8 D a0 a1 a2 a3 a4 a5 a6 a7 a8 a9 a10 a11)
def WS11_0_9 (D : Dom) (a0 : D.F) (a1 : D.F) (a2 : D.F) (a3 : D.F) (a4 : D.F) (a5 : D.F) (a6 : D.F) (a7 : D.F) (a8 : D.F) (a9 : D.F) (a10 : D.F) (a11 : D.F) (a12 : D.Z) (a13 : D.Z) (a14 : D.F) (a15 : D.F) : D.F := (S31_2 D (S5_2 D a0 a1 a2 a3 a4 a5 a6 a7 a8 a9 a10 a11) (WS11_0_7 D a0 a1 a2 a3 a4 a5 a6 a7 a8 a9 a10 a11) (WS11_0_8 D a0 a1 a2 a3 a4 a5 a6 a7 a8 a9 a10 a11) (S9_0 D a9 a12 a13 a14) (S9_1 D a9 a13 a15))
def S11_0 (D : Dom) (a0 : D.F) (a1 : D.F) (a2 : D.F) (a3 : D.F) (a4 : D.F) (a5 : D.F) (a6 : D.F) (a7 : D.F) (a8 : D.F) (a9 : D.F) (a10 : D.F) (a11 : D.F) (a12 : D.Z) (a13 : D.Z) (a14 : D.F) (a15 : D.F) (a16 : D.F) (a17 : D.F) : D.F := (D.fite (D.bnot (S18_3 D (D.fite (D.fgt a10 (D.fc 0)) (S19_0 D (S33_0 D a0 (S34_0 D (WS11_0_2 D a0 a1 a2 a3 a4 a5 a6 a7 a8 a9 a10 a11 a12 a13 a14 a15) a11)) (WS11_0_3 D a0 a1 a2 a3 a4 a5 a6 a7 a8 a9 a10 a11 a16 a17)) (WS11_0_2 D a0 a1 a2 a3 a4 a5 a6 a7 a8 a9 a10 a11 a12 a13 a14 a15)) (D.fite (D.fgt a10 (D.fc 0)) (S19_1 D (S33_1 D a1 (S34_1 D (WS11_0_6 D a0 a1 a2 a3 a4 a5 a6 a7 a8 a9 a10 a11 a12 a13 a14 a15) a11)) (S31_1 D a1 (WS11_0_4 D a0 a1 a2 a3 a4 a5 a6 a7 a8 a9 a10 a11) (WS11_0_5 D a0 a1 a2 a3 a4 a5 a6 a7 a8 a9 a10 a11) (D.fmul (S32_0 D a16 a17) a10) (D.fmul (S32_1 D a16 a17) a10))) (WS11_0_6 D a0 a1 a2 a3 a4 a5 a6 a7 a8 a9 a10 a11 a12 a13 a14 a15)) (D.fite (D.fgt a10 (D.fc 0)) (S19_2 D (S33_2 D a2 (S34_2 D (WS11_0_9 D a0 a1 a2 a3 a4 a5 a6 a7 a8 a9 a10 a11 a12 a13 a14 a15) a11)) (S31_2 D a2 (WS11_0_7 D a0 a1 a2 a3 a4 a5 a6 a7 a8 a9 a10 a11) (WS11_0_8 D a0 a1 a2 a3 a4 a5 a6 a7 a8 a9 a10 a11) (D.fmul (S32_0 D a16 a17) a10) (D.fmul (S32_1 D a16 a17) a10))) (WS11_0_9 D a0 a1 a2 a3 a4 a5 a6 a7 a8 a9 a10 a11 a12 a13 a14 a15)))) (D.fc 0) (D.fite (D.fgt a10 (D.fc 0)) (WS11_0_3 D a0 a1 a2 a3 a4 a5 a6 a7 a8 a9 a10 a11 a16 a17) a0))
def WS11_1_0 (D : Dom) (a0 : D.F) (a1 : D.F) (a2 : D.F) (a3 : D.F) (a4 : D.F) (a5 : D.F) (a6 : D.F) (a7 : D.F) (a8 : D.F) (a9 : D.F) (a10 : D.F) (a11 : D.F) : D.F := (S5_3 D a0 a1 a2 a3 a4 a5 a6 a7 a8 a9 a10 a11)
def WS11_1_1 (D : Dom) (a0 : D.F) (a1 : D.F) (a2 : D.F) (a3 : D.F) (a4 : D.F) (a5 : D.F) (a6 : D.F) (a7 : D.F) (a8 : D.F) (a9 : D.F) (a10 : D.F) (a11 : D.F) : D.F := (S5_6 D a0 a1 a2 a3 a4 a5 a6 a7 a8 a9 a10 a11)
def WS11_1_2 (D : Dom) (a0 : D.F) (a1 : D.F) (a2 : D.F) (a3 : D.F) (a4 : D.F) (a5 : D.F) (a6 : D.F) (a7 : D.F) (a8 : D.F) (a9 : D.F) (a10 : D.F) (a11 : D.F) (a12 : D.Z) (a13 : D.Z) (a14 : D.F) (a15 : D.F) : D.F := (S31_0 D (S5_0 D a0 a1 a2 a3 a4 a5 a6 a7 a8 a9 a10 a11) (WS11_1_0 D a0 a1 a2 a3 a4 a5 a6 a7 a8 a9 a10 a11) (WS11_1_1 D a0 a1 a2 a3 a4 a5 a6 a7 a8 a9 a10 a11) (S9_0 D a9 a12 a13 a14) (S9_1 D a9 a13 a15))
def WS11_1_3 (D : Dom) (a0 : D.F) (a1 : D.F) (a2 : D.F) (a3 : D.F) (a4 : D.F) (a5 : D.F) (a6 : D.F) (a7 : D.F) (a8 : D.F) (a9 : D.F) (a10 : D.F) (a11 : D.F) : D.F := (S5_4 D a0 a1 a2 a3 a4 a5 a6 a7 a8 a9 a10 a11)
def WS11_1_4 (D : Dom) (a0 : D.F) (a1 : D.F) (a2 : D.F) (a3 : D.F) (a4 : D.F) (a5 : D.F) (a6 : D.F) (a7 : D.F) (a8 : D.F) (a9 : D.F) (a10 : D.F) (a11 : D.F) : D.F := (S5_7 D a0 a1 a2 a3 a4 a5 a6 a7 a8 a9 a10 a11)
def WS11_1_5 (D : Dom) (a0 : D.F) (a1 : D.F) (a2 : D.F) (a3 : D.F) (a4 : D.F) (a5 : D.F) (a6 : D.F) (a7 : D.F) (a8 : D.F) (a9 : D.F) (a10 : D.F) (a11 : D.F) (a12 : D.Z) (a13 : D.Z) (a14 : D.F) (a15 : D.F) : D.F := (S31_1 D (S5_1 D a0 a1 a2 a3 a4 a5 a6 a7 a8 a9 a10 a11) (WS11_1_3 D a0 a1 a2 a3 a4 a5 a6 a7 a8 a9 a10 a11) (WS11_1_4 D a0 a1 a2 a3 a4 a5 a6 a7 a8 a9 a10 a11) (S9_0 D a9 a12 a13 a14) (S9_1 D a9 a13 a15))
def WS11_1_6 (D : Dom) (a0 : D.F) (a1 : D.F) (a2 : D.F) (a3 : D.F) (a4 : D.F) (a5 : D.F) (a6 : D.F) (a7 : D.F) (a8 : D.F) (a9 : D.F) (a10 : D.F) (a11 : D.F) (a16 : D.F) (a17 : D.F) : D.F := (S31_1 D a1 (WS11_1_3 D a0 a1 a2 a3 a4 a5 a6 a7 a8 a9 a10 a11) (WS11_1_4 D a0 a1 a2 a3 a4 a5 a6 a7 a8 a9 a10 a11) (D.fmul (S32_0 D a16 a17) a10) (D.fmul (S32_1 D a16 a17) a10))
def WS11_1_7 (D : Dom) (a0 : D.F) (a1 : D.F) (a2 : D.F) (a3 : D.F) (a4 : D.F) (a5 : D.F) (a6 : D.F) (a7 : D.F) (a8 : D.F) (a9 : D.F) (a10 : D.F) (a11 : D.F) : D.F := (S5_5 D a0 a1 a2 a3 a4 a5 a6 a7 a8 a9 a10 a11)
def WS11_1_8 (D : Dom) (a0 : D.F) (a1 : D.F) (a2 : D.F) (a3 : D.F) (a4 : D.F) (a5 : D.F) (a6 : D.F) (a7 : D.F) (a8 : D.F) (a9 : D.F) (a10 : D.F) (a11 : D.F) : D.F := (S5_8 D a0 a1 a2 a3 a4 a5 a6 a7 a8 a9 a10 a11)
def WS11_1_9 (D : Dom) (a0 : D.F) (a1 : D.F) (a2 : D.F) (a3 : D.F) (a4 : D.F) (a5 : D.F) (a6 : D.F) (a7 : D.F) (a8 : D.F) (a9 : D.F) (a10 : D.F) (a11 : D.F) (a12 : D.Z) (a13 : D.Z) (a14 : D.F) (a15 : D.F) : D.F := (S31_2 D (S5_2 D a0 a1 a2 a3 a4 a5 a6 a7 a8 a9 a10 a11) (WS11_1_7 D a0 a1 a2 a3 a4 a5 a6 a7 a8 a9 a10 a11) (WS11_1_8 D a0 a1 a2 a3 a4 a5 a6 a7 a8 a9 a10 a11) (S9_0 D a9 a12 a13 a14) (S9_1 D a9 a13 a15))
def S11_1 (D : Dom) (a0 : D.F) (a1 : D.F) (a2 : D.F) (a3 : D.F) (a4 : D.F) (a5 : D.F) (a6 : D.F) (a7 : D.F) (a8 : D.F) (a9 : D.F) (a10 : D.F) (a11 : D.F) (a12 : D.Z) (a13 : D.Z) (a14 : D.F) (a15 : D.F) (a16 : D.F) (a17 : D.F) : D.F := (D.fite (D.bnot (S18_3 D (D.fite (D.fgt a10 (D.fc 0)) (S19_0 D (S33_0 D a0 (S34_0 D (WS11_1_2 D a0 a1 a2 a3 a4 a5 a6 a7 a8 a9 a10 a11 a12 a13 a14 a15) a11)) (S31_0 D a0 (WS11_1_0 D a0 a1 a2 a3 a4 a5 a6 a7 a8 a9 a10 a11) (WS11_1_1 D a0 a1 a2 a3 a4 a5 a6 a7 a8 a9 a10 a11) (D.fmul (S32_0 D a16 a17) a10) (D.fmul (S32_1 D a16 a17) a10))) (WS11_1_2 D a0 a1 a2 a3 a4 a5 a6 a7 a8 a9 a10 a11 a12 a13 a14 a15)) (D.fite (D.fgt a10 (D.fc 0)) (S19_1 D (S33_1 D a1 (S34_1 D (WS11_1_5 D a0 a1 a2 a3 a4 a5 a6 a7 a8 a9 a10 a11 a12 a13 a14 a15) a11)) (WS11_1_6 D a0 a1 a2 a3 a4 a5 a6 a7 a8 a9 a10 a11 a16 a17)) (WS11_1_5 D a0 a1 a2 a3 a4 a5 a6 a7 a8 a9 a10 a11 a12 a13 a14 a15)) (D.fite (D.fgt a10 (D.fc 0)) (S19_2 D (S33_2 D a2 (S34_2 D (WS11_1_9 D a0 a1 a2 a3 a4 a5 a6 a7 a8 a9 a10 a11 a12 a13 a14 a15) a11)) (S31_2 D a2 (WS11_1_7 D a0 a1 a2 a3 a4 a5 a6 a7 a8 a9 a10 a11) (WS11_1_8 D a0 a1 a2 a3 a4 a5 a6 a7 a8 a9 a10 a11) (D.fmul (S32_0 D a16 a17) a10) (D.fmul (S32_1 D a16 a17) a10))) (WS11_1_9 D a0 a1 a2 a3 a4 a5 a6 a7 a8 a9 a10 a11 a12 a13 a14 a15)))) (D.fc 0) (D.fite (D.fgt a10 (D.fc 0)) (WS11_1_6 D a0 a1 a2 a3 a4 a5 a6 a7 a8 a9 a10 a11 a16 a17) a1))
def WS11_2_0 (D : Dom) (a0 : D.F) (a1 : D.F) (a2 : D.F) (a3 : D.F) (a4 : D.F) (a5 : D.F) (a6 : D.F) (a7 : D.F) (a8 : D.F) (a9 : D.F) (a10 : D.F) (a11 : D.F) : D.F := (S5_3 D a0 a1 a2 a3 a4 a5 a6 a7 a8 a9 a10 a11)
def WS11_2_1 (D : Dom) (a0 : D.F) (a1 : D.F) (a2 : D.F) (a3 : D.F) (a4 : D.F) (a5 : D.F) (a6 : D.F) (a7 : D.F) (a8 : D.F) (a9 : D.F) (a10 : D.F) (a11 : D.F) : D.F := (S5_6 D a0 a1 a2 a3 a4 a5 a6 a7 a8 a9 a10 a11)
def WS11_2_2 (D : Dom) (a0 : D.F) (a1 : D.F) (a2 : D.F) (a3 : D.F) (a4 : D.F) (a5 : D.F) (a6 : D.F) (a7 : D.F) (a8 : D.F) (a9 : D.F) (a10 : D.F) (a11 : D.F) (a12 : D.Z) (a13 : D.Z) (a14 : D.F) (a15 : D.F) : D.F := (S31_0 D (S5_0 D a0 a1 a2 a3 a4 a5 a6 a7 a8 a9 a10 a11) (WS11_2_0 D a0 a1 a2 a3 a4 a5 a6 a7 a8 a9 a10 a11) (WS11_2_1 D a0 a1 a2 a3 a4 a5 a6 a7 a8 a9 a10 a11) (S9_0 D a9 a12 a13 a14) (S9_1 D a9 a13 a15))
def WS11_2_3 (D : Dom) (a0 : D.F) (a1 : D.F) (a2 : D.F) (a3 : D.F) (a4 : D.F) (a5 : D.F) (a6 : D.F) (a7 : D.F) (a8 : D.F) (a9 : D.F) (a10 : D.F) (a11 : D.F) : D.F := (S5_4 D a0 a1 a2 a3 a4 a5 a6 a7 a8 a9 a10 a11)
def WS11_2_4 (D : Dom) (a0 : D.F) (a1 : D.F) (a2 : D.F) (a3 : D.F) (a4 : D.F) (a5 : D.F) (a6 : D.F) (a7 : D.F) (a8 : D.F) (a9 : D.F) (a10 : D.F) (a11 : D.F) : D.F := (S5_7 D a0 a1 a2 a3 a4 a5 a6 a7 a8 a9 a10 a11)
def WS11_2_5 (D : Dom) (a0 : D.F) (a1 : D.F) (a2 : D.F) (a3 : D.F) (a4 : D.F) (a5 : D.F) (a6 : D.F) (a7 : D.F) (a8 : D.F) (a9 : D.F) (a10 : D.F) (a11 : D.F) (a12 : D.Z) (a13 : D.Z) (a14 : D.F) (a15 : D.F) : D.F := (S31_1 D (S5_1 D a0 a1 a2 a3 a4 a5 a6 a7 a8 a9 a10 a11) (WS11_2_3 D a0 a1 a2 a3 a4 a5 a6 a7 a8 a9 a10 a11) (WS11_2_4 D a0 a1 a2 a3 a4 a5 a6 a7 a8 a9 a10 a11) (S9_0 D a9 a12 a13 a14) (S9_1 D a9 a13 a15))
def WS11_2_6 (D : Dom) (a0 : D.F) (a1 : D.F) (a2 : D.F) (a3 : D.F) (a4 : D.F) (a5 : D.F) (a6 : D.F) (a7 : D.F) (a8 : D.F) (a9 : D.F) (a10 : D.F) (a11 : D.F) : D.F := (S5_5 D a0 a1 a2 a3 a4 a5 a6 a7 a8 a9 a10 a11)
def WS11_2_7 (D : Dom) (a0 : D.F) (a1 : D.F) (a2 : D.F) (a3 : D.F) (a4 : D.F) (a5 : D.F) (a6 : D.F) (a7 : D.F) (a8 : D.F) (a9 : D.F) (a10 : D.F) (a11 : D.F) : D.F := (S5_8 D a0 a1 a2 a3 a4 a5 a6 a7 a8 a9 a10 a11)
def WS11_2_8 (D : Dom) (a0 : D.F) (a1 : D.F) (a2 : D.F) (a3 : D.F) (a4 : D.F) (a5 : D.F) (a6 : D.F) (a7 : D.F) (a8 : D.F) (a9 : D.F) (a10 : D.F) (a11 : D.F) (a12 : D.Z) (a13 : D.Z) (a14 : D.F) (a15 : D.F) : D.F := (S31_2 D (S5_2 D a0 a1 a2 a3 a4 a5 a6 a7 a8 a9 a10 a11) (WS11_2_6 D a0 a1 a2 a3 a4 a5 a6 a7 a8 a9 a10 a11) (WS11_2_7 D a0 a1 a2 a3 a4 a5 a6 a7 a8 a9 a10 a11) (S9_0 D a9 a12 a13 a14) (S9_1 D a9 a13 a15))
def WS11_2_9 (D : Dom) (a0 : D.F) (a1 : D.F) (a2 : D.F) (a3 : D.F) (a4 : D.F) (a5 : D.F) (a6 : D.F) (a7 : D.F) (a8 : D.F) (a9 : D.F) (a10 : D.F) (a11 : D.F) (a16 : D.F) (a17 : D.F) : D.F := (S31_2 D a2 (WS11_2_6 D a0 a1 a2 a3 a4 a5 a6 a7 a8 a9 a10 a11) (WS11_2_7 D a0 a1 a2 a3 a4 a5 a6 a7 a8 a9 a10 a11) (D.fmul (S32_0 D a16 a17) a10) (D.fmul (S32_1 D a16 a17) a10))
def S11_2 (D : Dom) (a0 : D.F) (a1 : D.F) (a2 : D.F) (a3 : D.F) (a4 : D.F) (a5 : D.F) (a6 : D.F) (a7 : D.F) (a8 : D.F) (a9 : D.F) (a10 : D.F) (a11 : D.F) (a12 : D.Z) (a13 : D.Z) (a14 : D.F) (a15 : D.F) (a16 : D.F) (a17 : D.F) : D.F := (D.fite (D.bnot (S18_3 D (D.fite (D.fgt a10 (D.fc 0)) (S19_0 D (S33_0 D a0 (S34_0 D (WS11_2_2 D a0 a1 a2 a3 a4 a5 a6 a7 a8 a9 a10 a11 a12 a13 a14 a15) a11)) (S31_0 D a0 (WS11_2_0 D a0 a1 a2 a3 a4 a5 a6 a7 a8 a9 a10 a11) (WS11_2_1 D a0 a1 a2 a3 a4 a5 a6 a7 a8 a9 a10 a11) (D.fmul (S32_0 D a16 a17) a10) (D.fmul (S32_1 D a16 a17) a10))) (WS11_2_2 D a0 a1 a2 a3 a4 a5 a6 a7 a8 a9 a10 a11 a12 a13 a14 a15)) (D.fite (D.fgt a10 (D.fc 0)) (S19_1 D (S33_1 D a1 (S34_1 D (WS11_2_5 D a0 a1 a2 a3 a4 a5 a6 a7 a8 a9 a10 a11 a12 a13 a14 a15) a11)) (S31_1 D a1 (WS11_2_3 D a0 a1 a2 a3 a4 a5 a6 a7 a8 a9 a10 a11) (WS11_2_4 D a0 a1 a2 a3 a4 a5 a6 a7 a8 a9 a10 a11) (D.fmul (S32_0 D a16 a17) a10) (D.fmul (S32_1 D a16 a17) a10))) (WS11_2_5 D a0 a1 a2 a3 a4 a5 a6 a7 a8 a9 a10 a11 a12 a13 a14 a15)) (D.fite (D.fgt a10 (D.fc 0)) (S19_2 D (S33_2 D a2 (S34_2 D (WS11_2_8 D a0 a1 a2 a3 a4 a5 a6 a7 a8 a9 a10 a11 a12 a13 a14 a15) a11)) (WS11_2_9 D a0 a1 a2 a3 a4 a5 a6 a7 a8 a9 a10 a11 a16 a17)) (WS11_2_8 D a0 a1 a2 a3 a4 a5 a6 a7 a8 a9 a10 a11 a12 a13 a14 a15)))) (D.fc 0) (D.fite (D.fgt a10 (D.fc 0)) (WS11_2_9 D a0 a1 a2 a3 a4 a5 a6 a7 a8 a9 a10 a11 a16 a17) a2))
def WS11_3_0 (D : Dom) (a0 : D.F) (a1 : D.F) (a2 : D.F) (a3 : D.F) (a4 : D.F) (a5 : D.F) (a6 : D.F) (a7 : D.F) (a8 : D.F) (a9 : D.F) (a10 : D.F) (a11 : D.F) : D.F := (S5_3 D a0 a1 a2 a3 a4 a5 a6 a7 a8 a9 a10 a11)
def WS11_3_1 (D : Dom) (a0 : D.F) (a1 : D.F) (a2 : D.F) (a3 : D.F) (a4 : D.F) (a5 : D.F) (a6 : D.F) (a7 : D.F) (a8 : D.F) (a9 : D.F) (a10 : D.F) (a11 : D.F) : D.F := (S5_6 D a0 a1 a2 a3 a4 a5 a6 a7 a8 a9 a10 a11)
def WS11_3_2 (D : Dom) (a0 : D.F) (a1 : D.F) (a2 : D.F) (a3 : D.F) (a4 : D.F) (a5 : D.F) (a6 : D.F) (a7 : D.F) (a8 : D.F) (a9 : D.F) (a10 : D.F) (a11 : D.F) (a12 : D.Z) (a13 : D.Z) (a14 : D.F) (a15 : D.F) : D.F := (S31_0 D (S5_0 D a0 a1 a2 a3 a4 a5 a6 a7 a8 a9 a10 a11) (WS11_3_0 D a0 a1 a2 a3 a4 a5 a6 a7 a8 a9 a10 a11) (WS11_3_1 D a0 a1 a2 a3 a4 a5 a6 a7 a8 a9 a10 a11) (S9_0 D a9 a12 a13 a14) (S9_1 D a9 a13 a15))
def WS11_3_3 (D : Dom) (a0 : D.F) (a1 : D.F) (a2 : D.F) (a3 : D.F) (a4 : D.F) (a5 : D.F) (a6 : D.F) (a7 : D.F) (a8 : D.F) (a9 : D.F) (a10 : D.F) (a11 : D.F) (a12 : D.Z) (a13 : D.Z) (a14 : D.F) (a15 : D.F) (a16 : D.F) (a17 : D.F) : D.F := (D.fite (D.fgt a10 (D.fc 0)) (S19_0 D (S33_0 D a0 (S34_0 D (WS11_3_2 D a0 a1 a2 a3 a4 a5 a6 a7 a8 a9 a10 a11 a12 a13 a14 a15) a11)) (S31_0 D a0 (WS11_3_0 D a0 a1 a2 a3 a4 a5 a6 a7 a8 a9 a10 a11) (WS11_3_1 D a0 a1 a2 a3 a4 a5 a6 a7 a8 a9 a10 a11) (D.fmul (S32_0 D a16 a17) a10) (D.fmul (S32_1 D a16 a17) a10))) (WS11_3_2 D a0 a1 a2 a3 a4 a5 a6 a7 a8 a9 a10 a11 a12 a13 a14 a15))
def WS11_3_4 (D : Dom) (a0 : D.F) (a1 : D.F) (a2 : D.F) (a3 : D.F) (a4 : D.F) (a5 : D.F) (a6 : D.F) (a7 : D.F) (a8 : D.F) (a9 : D.F) (a10 : D.F) (a11 : D.F) : D.F := (S5_4 D a0 a1 a2 a3 a4 a5 a6 a7 a8 a9 a10 a11)
def WS11_3_5 (D : Dom) (a0 : D.F) (a1 : D.F) (a2 : D.F) (a3 : D.F) (a4 : D.F) (a5 : D.F) (a6 : D.F) (a7 : D.F) (a8 : D.F) (a9 : D.F) (a10 : D.F) (a11 : D.F) : D.F := (S5_7 D a0 a1 a2 a3 a4 a5 a6 a7 a8 a9 a10 a11)
def WS11_3_6 (D : Dom) (a0 : D.F) (a1 : D.F) (a2 : D.F) (a3 : D.F) (a4 : D.F) (a5 : D.F) (a6 : D.F) (a7 : D.F) (a8 : D.F) (a9 : D.F) (a10 : D.F) (a11 : D.F) (a12 : D.Z) (a13 : D.Z) (a14 : D.F) (a15 : D.F) : D.F := (S31_1 D (S5_1 D a0 a1 a2 a3 a4 a5 a6 a7 a8 a9 a10 a11) (WS11_3_4 D a0 a1 a2 a3 a4 a5 a6 a7 a8 a9 a10 a11) (WS11_3_5 D a0 a1 a2 a3 a4 a5 a6 a7 a8 a9 a10 a11) (S9_0 D a9 a12 a13 a14) (S9_1 D a9 a13 a15))
def WS11_3_7 (D : Dom) (a0 : D.F) (a1 : D.F) (a2 : D.F) (a3 : D.F) (a4 : D.F) (a5 : D.F) (a6 : D.F) (a7 : D.F) (a8 : D.F) (a9 : D.F) (a10 : D.F) (a11 : D.F) (a12 : D.Z) (a13 : D.Z) (a14 : D.F) (a15 : D.F) (a16 : D.F) (a17 : D.F) : D.F := (D.fite (D.fgt a10 (D.fc 0)) (S19_1 D (S33_1 D a1 (S34_1 D (WS11_3_6 D a0 a1 a2 a3 a4 a5 a6 a7 a8 a9 a10 a11 a12 a13 a14 a15) a11)) (S31_1 D a1 (WS11_3_4 D a0 a1 a2 a3 a4 a5 a6 a7 a8 a9 a10 a11) (WS11_3_5 D a0 a1 a2 a3 a4 a5 a6 a7 a8 a9 a10 a11) (D.fmul (S32_0 D a16 a17) a10) (D.fmul (S32_1 D a16 a17) a10))) (WS11_3_6 D a0 a1 a2 a3 a4 a5 a6 a7 a8 a9 a10 a11 a12 a13 a14 a15))
def WS11_3_8 (D : Dom) (a0 : D.F) (a1 : D.F) (a2 : D.F) (a3 : D.F) (a4 : D.F) (a5 : D.F) (a6 : D.F) (a7 : D.F) (a8 : D.F) (a9 : D.F) (a10 : D.F) (a11 : D.F) : D.F := (S5_5 D a0 a1 a2 a3 a4 a5 a6 a7 a8 a9 a10 a11)
def WS11_3_9 (D : Dom) (a0 : D.F) (a1 : D.F) (a2 : D.F) (a3 : D.F) (a4 : D.F) (a5 : D.F) (a6 : D.F) (a7 : D.F) (a8 : D.F) (a9 : D.F) (a10 : D.F) (a11 : D.F) : D.F := (S5_8 D a0 a1 a2 a3 a4 a5 a6 a7 a8 a9 a10 a11)
def WS11_3_10 (D : Dom) (a0 : D.F) (a1 : D.F) (a2 : D.F) (a3 : D.F) (a4 : D.F) (a5 : D.F) (a6 : D.F) (a7 : D.F) (a8 : D.F) (a9 : D.F) (a10 : D.F) (a11 : D.F) (a12 : D.Z) (a13 : D.Z) (a14 : D.F) (a15 : D.F) : D.F := (S31_2 D (S5_2 D a0 a1 a2 a3 a4 a5 a6 a7 a8 a9 a10 a11) (WS11_3_8 D a0 a1 a2 a3 a4 a5 a6 a7 a8 a9 a10 a11) (WS11_3_9 D a0 a1 a2 a3 a4 a5 a6 a7 a8 a9 a10 a11) (S9_0 D a9 a12 a13 a14) (S9_1 D a9 a13 a15))
def WS11_3_11 (D : Dom) (a0 : D.F) (a1 : D.F) (a2 : D.F) (a3 : D.F) (a4 : D.F) (a5 : D.F) (a6 : D.F) (a7 : D.F) (a8 : D.F) (a9 : D.F) (a10 : D.F) (a11 : D.F) (a12 : D.Z) (a13 : D.Z) (a14 : D.F) (a15 : D.F) (a16 : D.F) (a17 : D.F) : D.F := (D.fite (D.fgt a10 (D.fc 0)) (S19_2 D (S33_2 D a2 (S34_2 D (WS11_3_10 D a0 a1 a2 a3 a4 a5 a6 a7 a8 a9 a10 a11 a12 a13 a14 a15) a11)) (S31_2 D a2 (WS11_3_8 D a0 a1 a2 a3 a4 a5 a6 a7 a8 a9 a10 a11) (WS11_3_9 D a0 a1 a2 a3 a4 a5 a6 a7 a8 a9 a10 a11) (D.fmul (S32_0 D a16 a17) a10) (D.fmul (S32_1 D a16 a17) a10))) (WS11_3_10 D a0 a1 a2 a3 a4 a5 a6 a7 a8 a9 a10 a11 a12 a13 a14 a15))
def S11_3 (D : Dom) (a0 : D.F) (a1 : D.F) (a2 : D.F) (a3 : D.F) (a4 : D.F) (a5 : D.F) (a6 : D.F) (a7 : D.F) (a8 : D.F) (a9 : D.F) (a10 : D.F) (a11 : D.F) (a12 : D.Z) (a13 : D.Z) (a14 : D.F) (a15 : D.F) (a16 : D.F) (a17 : D.F) : D.F := (D.fite (D.bnot (S18_3 D (WS11_3_3 D a0 a1 a2 a3 a4 a5 a6 a7 a8 a9 a10 a11 a12 a13 a14 a15 a16 a17) (WS11_3_7 D a0 a1 a2 a3 a4 a5 a6 a7 a8 a9 a10 a11 a12 a13 a14 a15 a16 a17) (WS11_3_11 D a0 a1 a2 a3 a4 a5 a6 a7 a8 a9 a10 a11 a12 a13 a14 a15 a16 a17))) (D.fc 0) (S18_0 D (WS11_3_3 D a0 a1 a2 a3 a4 a5 a6 a7 a8 a9 a10 a11 a12 a13 a14 a15 a16 a17) (WS11_3_7 D a0 a1 a2 a3 a4 a5 a6 a7 a8 a9 a10 a11 a12 a13 a14 a15 a16 a17) (WS11_3_11 D a0 a1 a2 a3 a4 a5 a6 a7 a8 a9 a10 a11 a12 a13 a14 a15 a16 a17)))
def WS11_4_0 (D : Dom) (a0 : D.F) (a1 : D.F) (a2 : D.F) (a3 : D.F) (a4 : D.F) (a5 : D.F) (a6 : D.F) (a7 : D.F) (a8 : D.F) (a9 : D.F) (a10 : D.F) (a11 : D.F) : D.F := (S5_3 D a0 a1 a2 a3 a4 a5 a6 a7 a8 a9 a10 a11)
def WS11_4_1 (D : Dom) (a0 : D.F) (a1 : D.F) (a2 : D.F) (a3 : D.F) (a4 : D.F) (a5 : D.F) (a6 : D.F) (a7 : D.F) (a8 : D.F) (a9 : D.F) (a10 : D.F) (a11 : D.F) : D.F := (S5_6 D a0 a1 a2 a3 a4 a5 a6 a7 a8 a9 a10 a11)
def WS11_4_2 (D : Dom) (a0 : D.F) (a1 : D.F) (a2 : D.F) (a3 : D.F) (a4 : D.F) (a5 : D.F) (a6 : D.F) (a7 : D.F) (a8 : D.F) (a9 : D.F) (a10 : D.F) (a11 : D.F) (a12 : D.Z) (a13 : D.Z) (a14 : D.F) (a15 : D.F) : D.F := (S31_0 D (S5_0 D a0 a1 a2 a3 a4 a5 a6 a7 a8 a9 a10 a11) (WS11_4_0 D a0 a1 a2 a3 a4 a5 a6 a7 a8 a9 a10 a11) (WS11_4_1 D a0 a1 a2 a3 a4 a5 a6 a7 a8 a9 a10 a11) (S9_0 D a9 a12 a13 a14) (S9_1 D a9 a13 a15))
def WS11_4_3 (D : Dom) (a0 : D.F) (a1 : D.F) (a2 : D.F) (a3 : D.F) (a4 : D.F) (a5 : D.F) (a6 : D.F) (a7 : D.F) (a8 : D.F) (a9 : D.F) (a10 : D.F) (a11 : D.F) (a12 : D.Z) (a13 : D.Z) (a14 : D.F) (a15 : D.F) (a16 : D.F) (a17 : D.F) : D.F := (D.fite (D.fgt a10 (D.fc 0)) (S19_0 D (S33_0 D a0 (S34_0 D (WS11_4_2 D a0 a1 a2 a3 a4 a5 a6 a7 a8 a9 a10 a11 a12 a13 a14 a15) a11)) (S31_0 D a0 (WS11_4_0 D a0 a1 a2 a3 a4 a5 a6 a7 a8 a9 a10 a11) (WS11_4_1 D a0 a1 a2 a3 a4 a5 a6 a7 a8 a9 a10 a11) (D.fmul (S32_0 D a16 a17) a10) (D.fmul (S32_1 D a16 a17) a10))) (WS11_4_2 D a0 a1 a2 a3 a4 a5 a6 a7 a8 a9 a10 a11 a12 a13 a14 a15))
def WS11_4_4 (D : Dom) (a0 : D.F) (a1 : D.F) (a2 : D.F) (a3 : D.F) (a4 : D.F) (a5 : D.F) (a6 : D.F) (a7 : D.F) (a8 : D.F) (a9 : D.F) (a10 : D.F) (a11 : D.F) : D.F := (S5_4 D a0 a1 a2 a3 a4 a5 a6 a7 a8 a9 a10 a11)
def WS11_4_5 (D : Dom) (a0 : D.F) (a1 : D.F) (a2 : D.F) (a3 : D.F) (a4 : D.F) (a5 : D.F) (a6 : D.F) (a7 : D.F) (a8 : D.F) (a9 : D.F) (a10 : D.F) (a11 : D.F) : D.F := (S5_7 D a0 a1 a2 a3 a4 a5 a6 a7 a8 a9 a10 a11)
def WS11_4_6 (D : Dom) (a0 : D.F) (a1 : D.F) (a2 : D.F) (a3 : D.F) (a4 : D.F) (a5 : D.F) (a6 : D.F) (a7 : D.F) (a8 : D.F) (a9 : D.F) (a10 : D.F) (a11 : D.F) (a12 : D.Z) (a13 : D.Z) (a14 : D.F) (a15 : D.F) : D.F := (S31_1 D (S5_1 D a0 a1 a2 a3 a4 a5 a6 a7 a8 a9 a10 a11) (WS11_4_4 D a0 a1 a2 a3 a4 a5 a6 a7 a8 a9 a10 a11) (WS11_4_5 D a0 a1 a2 a3 a4 a5 a6 a7 a8 a9 a10 a11) (S9_0 D a9 a12 a13 a14) (S9_1 D a9 a13 a15))
def WS11_4_7 (D : Dom) (a0 : D.F) (a1 : D.F) (a2 : D.F) (a3 : D.F) (a4 : D.F) (a5 : D.F) (a6 : D.F) (a7 : D.F) (a8 : D.F) (a9 : D.F) (a10 : D.F) (a11 : D.F) (a12 : D.Z) (a13 : D.Z) (a14 : D.F) (a15 : D.F) (a16 : D.F) (a17 : D.F) : D.F := (D.fite (D.fgt a10 (D.fc 0)) (S19_1 D (S33_1 D a1 (S34_1 D (WS11_4_6 D a0 a1 a2 a3 a4 a5 a6 a7 a8 a9 a10 a11 a12 a13 a14 a15) a11)) (S31_1 D a1 (WS11_4_4 D a0 a1 a2 a3 a4 a5 a6 a7 a8 a9 a10 a11) (WS11_4_5 D a0 a1 a2 a3 a4 a5 a6 a7 a8 a9 a10 a11) (D.fmul (S32_0 D a16 a17) a10) (D.fmul (S32_1 D a16 a17) a10))) (WS11_4_6 D a0 a1 a2 a3 a4 a5 a6 a7 a8 a9 a10 a11 a12 a13 a14 a15))
def WS11_4_8 (D : Dom) (a0 : D.F) (a1 : D.F) (a2 : D.F) (a3 : D.F) (a4 : D.F) (a5 : D.F) (a6 : D.F) (a7 : D.F) (a8 : D.F) (a9 : D.F) (a10 : D.F) (a11 : D.F) : D.F := (S5_5 D a0 a1 a2 a3 a4 a5 a6 a7 a8 a9 a10 a11)
def WS11_4_9 (D : Dom) (a0 : D.F) (a1 : D.F) (a2 : D.F) (a3 : D.F) (a4 : D.F) (a5 : D.F) (a6 : D.F) (a7 : D.F) (a8 : D.F) (a9 : D.F) (a10 : D.F) (a11 : D.F) : D.F := (S5_8 D a0 a1 a2 a3 a4 a5 a6 a7 a8 a9 a10 a11)
def WS11_4_10 (D : Dom) (a0 : D.F) (a1 : D.F) (a2 : D.F) (a3 : D.F) (a4 : D.F) (a5 : D.F) (a6 : D.F) (a7 : D.F) (a8 : D.F) (a9 : D.F) (a10 : D.F) (a11 : D.F) (a12 : D.Z) (a13 : D.Z) (a14 : D.F) (a15 : D.F) : D.F := (S31_2 D (S5_2 D a0 a1 a2 a3 a4 a5 a6 a7 a8 a9 a10 a11) (WS11_4_8 D a0 a1 a2 a3 a4 a5 a6 a7 a8 a9 a10 a11) (WS11_4_9 D a0 a1 a2 a3 a4 a5 a6 a7 a8 a9 a10 a11) (S9_0 D a9 a12 a13 a14) (S9_1 D a9 a13 a15))
def WS11_4_11 (D : Dom) (a0 : D.F) (a1 : D.F) (a2 : D.F) (a3 : D.F) (a4 : D.F) (a5 : D.F) (a6 : D.F) (a7 : D.F) (a8 : D.F) (a9 : D.F) (a10 : D.F) (a11 : D.F) (a12 : D.Z) (a13 : D.Z) (a14 : D.F) (a15 : D.F) (a16 : D.F) (a17 : D.F) : D.F := (D.fite (D.fgt a10 (D.fc 0)) (S19_2 D (S33_2 D a2 (S34_2 D (WS11_4_10 D a0 a1 a2 a3 a4 a5 a6 a7 a8 a9 a10 a11 a12 a13 a14 a15) a11)) (S31_2 D a2 (WS11_4_8 D a0 a1 a2 a3 a4 a5 a6 a7 a8 a9 a10 a11) (WS11_4_9 D a0 a1 a2 a3 a4 a5 a6 a7 a8 a9 a10 a11) (D.fmul (S32_0 D a16 a17) a10) (D.fmul (S32_1 D a16 a17) a10))) (WS11_4_10 D a0 a1 a2 a3 a4 a5 a6 a7 a8 a9 a10 a11 a12 a13 a14 a15))
def S11_4 (D : Dom) (a0 : D.F) (a1 : D.F) (a2 : D.F) (a3 : D.F) (a4 : D.F) (a5 : D.F) (a6 : D.F) (a7 : D.F) (a8 : D.F) (a9 : D.F) (a10 : D.F) (a11 : D.F) (a12 : D.Z) (a13 : D.Z) (a14 : D.F) (a15 : D.F) (a16 : D.F) (a17 : D.F) : D.F := (D.fite (D.bnot (S18_3 D (WS11_4_3 D a0 a1 a2 a3 a4 a5 a6 a7 a8 a9 a10 a11 a12 a13 a14 a15 a16 a17) (WS11_4_7 D a0 a1 a2 a3 a4 a5 a6 a7 a8 a9 a10 a11 a12 a13 a14 a15 a16 a17) (WS11_4_11 D a0 a1 a2 a3 a4 a5 a6 a7 a8 a9 a10 a11 a12 a13 a14 a15 a16 a17))) (D.fc 0) (S18_1 D (WS11_4_3 D a0 a1 a2 a3 a4 a5 a6 a7 a8 a9 a10 a11 a12 a13 a14 a15 a16 a17) (WS11_4_7 D a0 a1 a2 a3 a4 a5 a6 a7 a8 a9 a10 a11 a12 a13 a14 a15 a16 a17) (WS11_4_11 D a0 a1 a2 a3 a4 a5 a6 a7 a8 a9 a10 a11 a12 a13 a14 a15 a16 a17)))
def WS11_5_0 (D : Dom) (a0 : D.F) (a1 : D.F) (a2 : D.F) (a3 : D.F) (a4 : D.F) (a5 : D.F) (a6 : D.F) (a7 : D.F) (a8 : D.F) (a9 : D.F) (a10 : D.F) (a11 : D.F) : D.F := (S5_3 D a0 a1 a2 a3 a4 a5 a6 a7 a8 a9 a10 a11)
def WS11_5_1 (D : Dom) (a0 : D.F) (a1 : D.F) (a2 : D.F) (a3 : D.F) (a4 : D.F) (a5 : D.F) (a6 : D.F) (a7 : D.F) (a8 : D.F) (a9 : D.F) (a10 : D.F) (a11 : D.F) : D.F := (S5_6 D a0 a1 a2 a3 a4 a5 a6 a7 a8 a9 a10 a11)
def WS11_5_2 (D : Dom) (a0 : D.F) (a1 : D.F) (a2 : D.F) (a3 : D.F) (a4 : D.F) (a5 : D.F) (a6 : D.F) (a7 : D.F) (a8 : D.F) (a9 : D.F) (a10 : D.F) (a11 : D.F) (a12 : D.Z) (a13 : D.Z) (a14 : D.F) (a15 : D.F) : D.F := (S31_0 D (S5_0 D a0 a1 a2 a3 a4 a5 a6 a7 a8 a9 a10 a11) (WS11_5_0 D a0 a1 a2 a3 a4 a5 a6 a7 a8 a9 a10 a11) (WS11_5_1 D a0 a1 a2 a3 a4 a5 a6 a7 a8 a9 a10 a11) (S9_0 D a9 a12 a13 a14) (S9_1 D a9 a13 a15))
def WS11_5_3 (D : Dom) (a0 : D.F) (a1 : D.F) (a2 : D.F) (a3 : D.F) (a4 : D.F) (a5 : D.F) (a6 : D.F) (a7 : D.F) (a8 : D.F) (a9 : D.F) (a10 : D.F) (a11 : D.F) (a12 : D.Z) (a13 : D.Z) (a14 : D.F) (a15 : D.F) (a16 : D.F) (a17 : D.F) : D.F := (D.fite (D.fgt a10 (D.fc 0)) (S19_0 D (S33_0 D a0 (S34_0 D (WS11_5_2 D a0 a1 a2 a3 a4 a5 a6 a7 a8 a9 a10 a11 a12 a13 a14 a15) a11)) (S31_0 D a0 (WS11_5_0 D a0 a1 a2 a3 a4 a5 a6 a7 a8 a9 a10 a11) (WS11_5_1 D a0 a1 a2 a3 a4 a5 a6 a7 a8 a9 a10 a11) (D.fmul (S32_0 D a16 a17) a10) (D.fmul (S32_1 D a16 a17) a10))) (WS11_5_2 D a0 a1 a2 a3 a4 a5 a6 a7 a8 a9 a10 a11 a12 a13 a14 a15))
def WS11_5_4 (D : Dom) (a0 : D.F) (a1 : D.F) (a2 : D.F) (a3 : D.F) (a4 : D.F) (a5 : D.F) (a6 : D.F) (a7 : D.F) (a8 : D.F) (a9 : D.F) (a10 : D.F) (a11 : D.F) : D.F := (S5_4 D a0 a1 a2 a3 a4 a5 a6 a7 a8 a9 a10 a11)
def WS11_5_5 (D : Dom) (a0 : D.F) (a1 : D.F) (a2 : D.F) (a3 : D.F) (a4 : D.F) (a5 : D.F) (a6 : D.F) (a7 : D.F) (a8 : D.F) (a9 : D.F) (a10 : D.F) (a11 : D.F) : D.F := (S5_7 D a0 a1 a2 a3 a4 a5 a6 a7 a8 a9 a10 a11)
def WS11_5_6 (D : Dom) (a0 : D.F) (a1 : D.F) (a2 : D.F) (a3 : D.F) (a4 : D.F) (a5 : D.F) (a6 : D.F) (a7 : D.F) (a8 : D.F) (a9 : D.F) (a10 : D.F) (a11 : D.F) (a12 : D.Z) (a13 : D.Z) (a14 : D.F) (a15 : D.F) : D.F := (S31_1 D (S5_1 D a0 a1 a2 a3 a4 a5 a6 a7 a8 a9 a10 a11) (WS11_5_4 D a0 a1 a2 a3 a4 a5 a6 a7 a8 a9 a10 a11) (WS11_5_5 D a0 a1 a2 a3 a4 a5 a6 a7 a8 a9 a10 a11) (S9_0 D a9 a12 a13 a14) (S9_1 D a9 a13 a15))
def WS11_5_7 (D : Dom) (a0 : D.F) (a1 : D.F) (a2 : D.F) (a3 : D.F) (a4 : D.F) (a5 : D.F) (a6 : D.F) (a7 : D.F) (a8 : D.F) (a9 : D.F) (a10 : D.F) (a11 : D.F) (a12 : D.Z) (a13 : D.Z) (a14 : D.F) (a15 : D.F) (a16 : D.F) (a17 : D.F) : D.F := (D.fite (D.fgt a10 (D.fc 0)) (S19_1 D (S33_1 D a1 (S34_1 D (WS11_5_6 D a0 a1 a2 a3 a4 a5 a6 a7 a8 a9 a10 a11 a12 a13 a14 a15) a11)) (S31_1 D a1 (WS11_5_4 D a0 a1 a2 a3 a4 a5 a6 a7 a8 a9 a10 a11) (WS11_5_5 D a0 a1 a2 a3 a4 a5 a6 a7 a8 a9 a10 a11) (D.fmul (S32_0 D a16 a17) a10) (D.fmul (S32_1 D a16 a17) a10))) (WS11_5_6 D a0 a1 a2 a3 a4 a5 a6 a7 a8 a9 a10 a11 a12 a13 a14 a15))
def WS11_5_8 (D : Dom) (a0 : D.F) (a1 : D.F) (a2 : D.F) (a3 : D.F) (a4 : D.F) (a5 : D.F) (a6 : D.F) (a7 : D.F) (a8 : D.F) (a9 : D.F) (a10 : D.F) (a11 : D.F) : D.F := (S5_5 D a0 a1 a2 a3 a4 a5 a6 a7 a8 a9 a10 a11)
def WS11_5_9 (D : Dom) (a0 : D.F) (a1 : D.F) (a2 : D.F) (a3 : D.F) (a4 : D.F) (a5 : D.F) (a6 : D.F) (a7 : D.F) (a8 : D.F) (a9 : D.F) (a10 : D.F) (a11 : D.F) : D.F := (S5_8 D a0 a1 a2 a3 a4 a5 a6 a7 a8 a9 a10 a11)
def WS11_5_10 (D : Dom) (a0 : D.F) (a1 : D.F) (a2 : D.F) (a3 : D.F) (a4 : D.F) (a5 : D.F) (a6 : D.F) (a7 : D.F) (a8 : D.F) (a9 : D.F) (a10 : D.F) (a11 : D.F) (a12 : D.Z) (a13 : D.Z) (a14 : D.F) (a15 : D.F) : D.F := (S31_2 D (S5_2 D a0 a1 a2 a3 a4 a5 a6 a7 a8 a9 a10 a11) (WS11_5_8 D a0 a1 a2 a3 a4 a5 a6 a7 a8 a9 a10 a11) (WS11_5_9 D a0 a1 a2 a3 a4 a5 a6 a7 a8 a9 a10 a11) (S9_0 D a9 a12 a13 a14) (S9_1 D a9 a13 a15))
def WS11_5_11 (D : Dom) (a0 : D.F) (a1 : D.F) (a2 : D.F) (a3 : D.F) (a4 : D.F) (a5 : D.F) (a6 : D.F) (a7 : D.F) (a8 : D.F) (a9 : D.F) (a10 : D.F) (a11 : D.F) (a12 : D.Z) (a13 : D.Z) (a14 : D.F) (a15 : D.F) (a16 : D.F) (a17 : D.F) : D.F := (D.fite (D.fgt a10 (D.fc 0)) (S19_2 D (S33_2 D a2 (S34_2 D (WS11_5_10 D a0 a1 a2 a3 a4 a5 a6 a7 a8 a9 a10 a11 a12 a13 a14 a15) a11)) (S31_2 D a2 (WS11_5_8 D a0 a1 a2 a3 a4 a5 a6 a7 a8 a9 a10 a11) (WS11_5_9 D a0 a1 a2 a3 a4 a5 a6 a7 a8 a9 a10 a11) (D.fmul (S32_0 D a16 a17) a10) (D.fmul (S32_1 D a16 a17) a10))) (WS11_5_10 D a0 a1 a2 a3 a4 a5 a6 a7 a8 a9 a10 a11 a12 a13 a14 a15))
def S11_5 (D : Dom) (a0 : D.F) (a1 : D.F) (a2 : D.F) (a3 : D.F) (a4 : D.F) (a5 : D.F) (a6 : D.F) (a7 : D.F) (a8 : D.F) (a9 : D.F) (a10 : D.F) (a11 : D.F) (a12 : D.Z) (a13 : D.Z) (a14 : D.F) (a15 : D.F) (a16 : D.F) (a17 : D.F) : D.F := (D.fite (D.bnot (S18_3 D (WS11_5_3 D a0 a1 a2 a3 a4 a5 a6 a7 a8 a9 a10 a11 a12 a13 a14 a15 a16 a17) (WS11_5_7 D a0 a1 a2 a3 a4 a5 a6 a7 a8 a9 a10 a11 a12 a13 a14 a15 a16 a17) (WS11_5_11 D a0 a1 a2 a3 a4 a5 a6 a7 a8 a9 a10 a11 a12 a13 a14 a15 a16 a17))) (D.fc 0) (S18_2 D (WS11_5_3 D a0 a1 a2 a3 a4 a5 a6 a7 a8 a9 a10 a11 a12 a13 a14 a15 a16 a17) (WS11_5_7 D a0 a1 a2 a3 a4 a5 a6 a7 a8 a9 a10 a11 a12 a13 a14 a15 a16 a17) (WS11_5_11 D a0 a1 a2 a3 a4 a5 a6 a7 a8 a9 a10 a11 a12 a13 a14 a15 a16 a17)))
def WS11_6_0 (D : Dom) (a0 : D.F) (a1 : D.F) (a2 : D.F) (a3 : D.F) (a4 : D.F) (a5 : D.F) (a6 : D.F) (a7 : D.F) (a8 : D.F) (a9 : D.F) (a10 : D.F) (a11 : D.F) : D.F := (S5_3 D a0 a1 a2 a3 a4 a5 a6 a7 a8 a9 a10 a11)
def WS11_6_1 (D : Dom) (a0 : D.F) (a1 : D.F) (a2 : D.F) (a3 : D.F) (a4 : D.F) (a5 : D.F) (a6 : D.F) (a7 : D.F) (a8 : D.F) (a9 : D.F) (a10 : D.F) (a11 : D.F) : D.F := (S5_6 D a0 a1 a2 a3 a4 a5 a6 a7 a8 a9 a10 a11)
def WS11_6_2 (D : Dom) (a0 : D.F) (a1 : D.F) (a2 : D.F) (a3 : D.F) (a4 : D.F) (a5 : D.F) (a6 : D.F) (a7 : D.F) (a8 : D.F) (a9 : D.F) (a10 : D.F) (a11 : D.F) (a12 : D.Z) (a13 : D.Z) (a14 : D.F) (a15 : D.F) : D.F := (S31_0 D (S5_0 D a0 a1 a2 a3 a4 a5 a6 a7 a8 a9 a10 a11) (WS11_6_0 D a0 a1 a2 a3 a4 a5 a6 a7 a8 a9 a10 a11) (WS11_6_1 D a0 a1 a2 a3 a4 a5 a6 a7 a8 a9 a10 a11) (S9_0 D a9 a12 a13 a14) (S9_1 D a9 a13 a15))
def WS11_6_3 (D : Dom) (a0 : D.F) (a1 : D.F) (a2 : D.F) (a3 : D.F) (a4 : D.F) (a5 : D.F) (a6 : D.F) (a7 : D.F) (a8 : D.F) (a9 : D.F) (a10 : D.F) (a11 : D.F) : D.F := (S5_4 D a0 a1 a2 a3 a4 a5 a6 a7 a8 a9 a10 a11)
def WS11_6_4 (D : Dom) (a0 : D.F) (a1 : D.F) (a2 : D.F) (a3 : D.F) (a4 : D.F) (a5 : D.F) (a6 : D.F) (a7 : D.F) (a8 : D.F) (a9 : D.F) (a10 : D.F) (a11 : D.F) : D.F := (S5_7 D a0 a1 a2 a3 a4 a5 a6 a7 a8 a9 a10 a11)
def WS11_6_5 (D : Dom) (a0 : D.F) (a1 : D.F) (a2 : D.F) (a3 : D.F) (a4 : D.F) (a5 : D.F) (a6 : D.F) (a7 : D.F) (a8 : D.F) (a9 : D.F) (a10 : D.F) (a11 : D.F) (a12 : D.Z) (a13 : D.Z) (a14 : D.F) (a15 : D.F) : D.F := (S31_1 D (S5_1 D a0 a1 a2 a3 a4 a5 a6 a7 a8 a9 a10 a11) (WS11_6_3 D a0 a1 a2 a3 a4 a5 a6 a7 a8 a9 a10 a11) (WS11_6_4 D a0 a1 a2 a3 a4 a5 a6 a7 a8 a9 a10 a11) (S9_0 D a9 a12 a13 a14) (S9_1 D a9 a13 a15))
def WS11_6_6 (D : Dom) (a0 : D.F) (a1 : D.F) (a2 : D.F) (a3 : D.F) (a4 : D.F) (a5 : D.F) (a6 : D.F) (a7 : D.F) (a8 : D.F) (a9 : D.F) (a10 : D.F) (a11 : D.F) : D.F := (S5_5 D a0 a1 a2 a3 a4 a5 a6 a7 a8 a9 a10 a11)
def WS11_6_7 (D : Dom) (a0 : D.F) (a1 : D.F) (a2 : D.F) (a3 : D.F) (a4 : D.F) (a5 : D.F) (a6 : D.F) (a7 : D.F) (a8 : D.F) (a9 : D.F) (a10 : D.F) (a11 : D.F) : D.F := (S5_8 D a0 a1 a2 a3 a4 a5 a6 a7 a8 a9 a10 a11)
def WS11_6_8 (D : Dom) (a0 : D.F) (a1 : D.F) (a2 : D.F) (a3 : D.F) (a4 : D.F) (a5 : D.F) (a6 : D.F) (a7 : D.F) (a8 : D.F) (a9 : D.F) (a10 : D.F) (a11 : D.F) (a12 : D.Z) (a13 : D.Z) (a14 : D.F) (a15 : D.F) : D.F := (S31_2 D (S5_2 D a0 a1 a2 a3 a4 a5 a6 a7 a8 a9 a10 a11) (WS11_6_6 D a0 a1 a2 a3 a4 a5 a6 a7 a8 a9 a10 a11) (WS11_6_7 D a0 a1 a2 a3 a4 a5 a6 a7 a8 a9 a10 a11) (S9_0 D a9 a12 a13 a14) (S9_1 D a9 a13 a15))
def S11_6 (D : Dom) (a0 : D.F) (a1 : D.F) (a2 : D.F) (a3 : D.F) (a4 : D.F) (a5 : D.F) (a6 : D.F) (a7 : D.F) (a8 : D.F) (a9 : D.F) (a10 : D.F) (a11 : D.F) (a12 : D.Z) (a13 : D.Z) (a14 : D.F) (a15 : D.F) (a16 : D.F) (a17 : D.F) : D.F := (D.fite (D.bnot (S18_3 D (D.fite (D.fgt a10 (D.fc 0)) (S19_0 D (S33_0 D a0 (S34_0 D (WS11_6_2 D a0 a1 a2 a3 a4 a5 a6 a7 a8 a9 a10 a11 a12 a13 a14 a15) a11)) (S31_0 D a0 (WS11_6_0 D a0 a1 a2 a3 a4 a5 a6 a7 a8 a9 a10 a11) (WS11_6_1 D a0 a1 a2 a3 a4 a5 a6 a7 a8 a9 a10 a11) (D.fmul (S32_0 D a16 a17) a10) (D.fmul (S32_1 D a16 a17) a10))) (WS11_6_2 D a0 a1 a2 a3 a4 a5 a6 a7 a8 a9 a10 a11 a12 a13 a14 a15)) (D.fite (D.fgt a10 (D.fc 0)) (S19_1 D (S33_1 D a1 (S34_1 D (WS11_6_5 D a0 a1 a2 a3 a4 a5 a6 a7 a8 a9 a10 a11 a12 a13 a14 a15) a11)) (S31_1 D a1 (WS11_6_3 D a0 a1 a2 a3 a4 a5 a6 a7 a8 a9 a10 a11) (WS11_6_4 D a0 a1 a2 a3 a4 a5 a6 a7 a8 a9 a10 a11) (D.fmul (S32_0 D a16 a17) a10) (D.fmul (S32_1 D a16 a17) a10))) (WS11_6_5 D a0 a1 a2 a3 a4 a5 a6 a7 a8 a9 a10 a11 a12 a13 a14 a15)) (D.fite (D.fgt a10 (D.fc 0)) (S19_2 D (S33_2 D a2 (S34_2 D (WS11_6_8 D a0 a1 a2 a3 a4 a5 a6 a7 a8 a9 a10 a11 a12 a13 a14 a15) a11)) (S31_2 D a2 (WS11_6_6 D a0 a1 a2 a3 a4 a5 a6 a7 a8 a9 a10 a11) (WS11_6_7 D a0 a1 a2 a3 a4 a5 a6 a7 a8 a9 a10 a11) (D.fmul (S32_0 D a16 a17) a10) (D.fmul (S32_1 D a16 a17) a10))) (WS11_6_8 D a0 a1 a2 a3 a4 a5 a6 a7 a8 a9 a10 a11 a12 a13 a14 a15)))) (D.fc 0) (D.fite (D.fgt a10 (D.fc 0)) (D.fdiv (D.fc 4607182418800017408) (D.fmul (D.fc 4614256656552045848) (S32_2 D a17))) (D.fc 4607182418800017408)))
def WS11_7_0 (D : Dom) (a0 : D.F) (a1 : D.F) (a2 : D.F) (a3 : D.F) (a4 : D.F) (a5 : D.F) (a6 : D.F) (a7 : D.F) (a8 : D.F) (a9 : D.F) (a10 : D.F) (a11 : D.F) : D.F := (S5_3 D a0 a1 a2 a3 a4 a5 a6 a7 a8 a9 a10 a11)
def WS11_7_1 (D : Dom) (a0 : D.F) (a1 : D.F) (a2 : D.F) (a3 : D.F) (a4 : D.F) (a5 : D.F) (a6 : D.F) (a7 : D.F) (a8 : D.F) (a9 : D.F) (a10 : D.F) (a11 : D.F) : D.F := (S5_6 D a0 a1 a2 a3 a4 a5 a6 a7 a8 a9 a10 a11)
def WS11_7_2 (D : Dom) (a0 : D.F) (a1 : D.F) (a2 : D.F) (a3 : D.F) (a4 : D.F) (a5 : D.F) (a6 : D.F) (a7 : D.F) (a8 : D.F) (a9 : D.F) (a10 : D.F) (a11 : D.F) (a12 : D.Z) (a13 : D.Z) (a14 : D.F) (a15 : D.F) : D.F := (S31_0 D (S5_0 D a0 a1 a2 a3 a4 a5 a6 a7 a8 a9 a10 a11) (WS11_7_0 D a0 a1 a2 a3 a4 a5 a6 a7 a8 a9 a10 a11) (WS11_7_1 D a0 a1 a2 a3 a4 a5 a6 a7 a8 a9 a10 a11) (S9_0 D a9 a12 a13 a14) (S9_1 D a9 a13 a15))
def WS11_7_3 (D : Dom) (a0 : D.F) (a1 : D.F) (a2 : D.F) (a3 : D.F) (a4 : D.F) (a5 : D.F) (a6 : D.F) (a7 : D.F) (a8 : D.F) (a9 : D.F) (a10 : D.F) (a11 : D.F) : D.F := (S5_4 D a0 a1 a2 a3 a4 a5 a6 a7 a8 a9 a10 a11)
def WS11_7_4 (D : Dom) (a0 : D.F) (a1 : D.F) (a2 : D.F) (a3 : D.F) (a4 : D.F) (a5 : D.F) (a6 : D.F) (a7 : D.F) (a8 : D.F) (a9 : D.F) (a10 : D.F) (a11 : D.F) : D.F := (S5_7 D a0 a1 a2 a3 a4 a5 a6 a7 a8 a9 a10 a11)
def WS11_7_5 (D : Dom) (a0 : D.F) (a1 : D.F) (a2 : D.F) (a3 : D.F) (a4 : D.F) (a5 : D.F) (a6 : D.F) (a7 : D.F) (a8 : D.F) (a9 : D.F) (a10 : D.F) (a11 : D.F) (a12 : D.Z) (a13 : D.Z) (a14 : D.F) (a15 : D.F) : D.F := (S31_1 D (S5_1 D a0 a1 a2 a3 a4 a5 a6 a7 a8 a9 a10 a11) (WS11_7_3 D a0 a1 a2 a3 a4 a5 a6 a7 a8 a9 a10 a11) (WS11_7_4 D a0 a1 a2 a3 a4 a5 a6 a7 a8 a9 a10 a11) (S9_0 D a9 a12 a13 a14) (S9_1 D a9 a13 a15))
def WS11_7_6 (D : Dom) (a0 : D.F) (a1 : D.F) (a2 : D.F) (a3 : D.F) (a4 : D.F) (a5 : D.F) (a6 : D.F) (a7 : D.F) (a8 : D.F) (a9 : D.F) (a10 : D.F) (a11 : D.F) : D.F := (S5_5 D a0 a1 a2 a3 a4 a5 a6 a7 a8 a9 a10 a11)
def WS11_7_7 (D : Dom) (a0 : D.F) (a1 : D.F) (a2 : D.F) (a3 : D.F) (a4 : D.F) (a5 : D.F) (a6 : D.F) (a7 : D.F) (a8 : D.F) (a9 : D.F) (a10 : D.F) (a11 : D.F) : D.F := (S5_8 D a0 a1 a2 a3 a4 a5 a6 a7 a8 a9 a10 a11)
def WS11_7_8 (D : Dom) (a0 : D.F) (a1 : D.F) (a2 : D.F) (a3 : D.F) (a4 : D.F) (a5 : D.F) (a6 : D.F) (a7 : D.F) (a8 : D.F) (a9 : D.F) (a10 : D.F) (a11 : D.F) (a12 : D.Z) (a13 : D.Z) (a14 : D.F) (a15 : D.F) : D.F := (S31_2 D (S5_2 D a0 a1 a2 a3 a4 a5 a6 a7 a8 a9 a10 a11) (WS11_7_6 D a0 a1 a2 a3 a4 a5 a6 a7 a8 a9 a10 a11) (WS11_7_7 D a0 a1 a2 a3 a4 a5 a6 a7 a8 a9 a10 a11) (S9_0 D a9 a12 a13 a14) (S9_1 D a9 a13 a15))
def S11_7 (D : Dom) (a0 : D.F) (a1 : D.F) (a2 : D.F) (a3 : D.F) (a4 : D.F) (a5 : D.F) (a6 : D.F) (a7 : D.F) (a8 : D.F) (a9 : D.F) (a10 : D.F) (a11 : D.F) (a12 : D.Z) (a13 : D.Z) (a14 : D.F) (a15 : D.F) (a16 : D.F) (a17 : D.F) : D.B := (D.bite (D.bnot (S18_3 D (D.fite (D.fgt a10 (D.fc 0)) (S19_0 D (S33_0 D a0 (S34_0 D (WS11_7_2 D a0 a1 a2 a3 a4 a5 a6 a7 a8 a9 a10 a11 a12 a13 a14 a15) a11)) (S31_0 D a0 (WS11_7_0 D a0 a1 a2 a3 a4 a5 a6 a7 a8 a9 a10 a11) (WS11_7_1 D a0 a1 a2 a3 a4 a5 a6 a7 a8 a9 a10 a11) (D.fmul (S32_0 D a16 a17) a10) (D.fmul (S32_1 D a16 a17) a10))) (WS11_7_2 D a0 a1 a2 a3 a4 a5 a6 a7 a8 a9 a10 a11 a12 a13 a14 a15)) (D.fite (D.fgt a10 (D.fc 0)) (S19_1 D (S33_1 D a1 (S34_1 D (WS11_7_5 D a0 a1 a2 a3 a4 a5 a6 a7 a8 a9 a10 a11 a12 a13 a14 a15) a11)) (S31_1 D a1 (WS11_7_3 D a0 a1 a2 a3 a4 a5 a6 a7 a8 a9 a10 a11) (WS11_7_4 D a0 a1 a2 a3 a4 a5 a6 a7 a8 a9 a10 a11) (D.fmul (S32_0 D a16 a17) a10) (D.fmul (S32_1 D a16 a17) a10))) (WS11_7_5 D a0 a1 a2 a3 a4 a5 a6 a7 a8 a9 a10 a11 a12 a13 a14 a15)) (D.fite (D.fgt a10 (D.fc 0)) (S19_2 D (S33_2 D a2 (S34_2 D (WS11_7_8 D a0 a1 a2 a3 a4 a5 a6 a7 a8 a9 a10 a11 a12 a13 a14 a15) a11)) (S31_2 D a2 (WS11_7_6 D a0 a1 a2 a3 a4 a5 a6 a7 a8 a9 a10 a11) (WS11_7_7 D a0 a1 a2 a3 a4 a5 a6 a7 a8 a9 a10 a11) (D.fmul (S32_0 D a16 a17) a10) (D.fmul (S32_1 D a16 a17) a10))) (WS11_7_8 D a0 a1 a2 a3 a4 a5 a6 a7 a8 a9 a10 a11 a12 a13 a14 a15)))) (D.bc false) (D.bc true))
def O11 (D : Dom) (a10 : D.F) (a17 : D.F) : D.B := (D.bite (D.fgt a10 (D.fc 0)) (O32 D a17) (D.bc true))
theorem ev11 (D : Dom) (a0 : D.F) (a1 : D.F) (a2 : D.F) (a3 : D.F) (a4 : D.F) (a5 : D.F) (a6 : D.F) (a7 : D.F) (a8 : D.F) (a9 : D.F) (a10 : D.F) (a11 : D.F) (a12 : D.Z) (a13 : D.Z) (a14 : D.F) (a15 : D.F) (a16 : D.F) (a17 : D.F) : joinT (evFnH Try.prog (tbl_32 D) (lt_1 D) 80 11 [.agg [.fl a0, .fl a1, .fl a2, .fl a3, .fl a4, .fl a5, .fl a6, .fl a7, .fl a8, .fl a9, .fl a10, .fl a11, .si .i64 a12, .si .i64 a13, .fl a14, .fl a15, .fl a16, .fl a17]] [] 0) = .val (some (O11 D a10 a17)) (.tup [.agg [.fl (S11_0 D a0 a1 a2 a3 a4 a5 a6 a7 a8 a9 a10 a11 a12 a13 a14 a15 a16 a17), .fl (S11_1 D a0 a1 a2 a3 a4 a5 a6 a7 a8 a9 a10 a11 a12 a13 a14 a15 a16 a17), .fl (S11_2 D a0 a1 a2 a3 a4 a5 a6 a7 a8 a9 a10 a11 a12 a13 a14 a15 a16 a17), .fl (S11_3 D a0 a1 a2 a3 a4 a5 a6 a7 a8 a9 a10 a11 a12 a13 a14 a15 a16 a17), .fl (S11_4 D a0 a1 a2 a3 a4 a5 a6 a7 a8 a9 a10 a11 a12 a13 a14 a15 a16 a17), .fl (S11_5 D a0 a1 a2 a3 a4 a5 a6 a7 a8 a9 a10 a11 a12 a13 a14 a15 a16 a17)], .fl (S11_6 D a0 a1 a2 a3 a4 a5 a6 a7 a8 a9 a10 a11 a12 a13 a14 a15 a16 a17), .sb (S11_7 D a0 a1 a2 a3 a4 a5 a6 a7 a8 a9 a10 a11 a12 a13 a14 a15 a16 a17)]) := by kernel_rfl
def sp11 : Ev.Spec := fun D l => argA l fun c0 r0 => argF c0 fun a0 r1 => argF r1 fun a1 r2 => argF r2 fun a2 r3 => argF r3 fun a3 r4 => argF r4 fun a4 r5 => argF r5 fun a5 r6 => argF r6 fun a6 r7 => argF r7 fun a7 r8 => argF r8 fun a8 r9 => argF r9 fun a9 r10 => argF r10 fun a10 r11 => argF r11 fun a11 r12 => argZ .i64 r12 fun a12 r13 => argZ .i64 r13 fun a13 r14 => argF r14 fun a14 r15 => argF r15 fun a15 r16 => argF r16 fun a16 r17 => argF r17 fun a17 r18 => arg0 r18 (arg0 r0 (.node (O11 D a10 a17) (.ret (.tup [.agg [.fl (S11_0 D a0 a1 a2 a3 a4 a5 a6 a7 a8 a9 a10 a11 a12 a13 a14 a15 a16 a17), .fl (S11_1 D a0 a1 a2 a3 a4 a5 a6 a7 a8 a9 a10 a11 a12 a13 a14 a15 a16 a17), .fl (S11_2 D a0 a1 a2 a3 a4 a5 a6 a7 a8 a9 a10 a11 a12 a13 a14 a15 a16 a17), .fl (S11_3 D a0 a1 a2 a3 a4 a5 a6 a7 a8 a9 a10 a11 a12 a13 a14 a15 a16 a17), .fl (S11_4 D a0 a1 a2 a3 a4 a5 a6 a7 a8 a9 a10 a11 a12 a13 a14 a15 a16 a17), .fl (S11_5 D a0 a1 a2 a3 a4 a5 a6 a7 a8 a9 a10 a11 a12 a13 a14 a15 a16 a17)], .fl (S11_6 D a0 a1 a2 a3 a4 a5 a6 a7 a8 a9 a10 a11 a12 a13 a14 a15 a16 a17), .sb (S11_7 D a0 a1 a2 a3 a4 a5 a6 a7 a8 a9 a10 a11 a12 a13 a14 a15 a16 a17)])) (.fail "pre")))
theorem en11 : ∀ l r, (sp11 R l).run = some r → Entry Try.prog 11 l r := by
  intro l r h
  obtain ⟨_, _, h, L0⟩ := argA_inv h
  obtain ⟨x1, _, h, L1⟩ := argF_inv h
  obtain ⟨x2, _, h, L2⟩ := argF_inv h
  obtain ⟨x3, _, h, L3⟩ := argF_inv h
  obtain ⟨x4, _, h, L4⟩ := argF_inv h
  obtain ⟨x5, _, h, L5⟩ := argF_inv h
  obtain ⟨x6, _, h, L6⟩ := argF_inv h
  obtain ⟨x7, _, h, L7⟩ := argF_inv h
  obtain ⟨x8, _, h, L8⟩ := argF_inv h
  obtain ⟨x9, _, h, L9⟩ := argF_inv h
  obtain ⟨x10, _, h, L10⟩ := argF_inv h
  obtain ⟨x11, _, h, L11⟩ := argF_inv h
  obtain ⟨x12, _, h, L12⟩ := argF_inv h
  obtain ⟨x13, _, h, L13⟩ := argZ_inv h
  obtain ⟨x14, _, h, L14⟩ := argZ_inv h
  obtain ⟨x15, _, h, L15⟩ := argF_inv h
  obtain ⟨x16, _, h, L16⟩ := argF_inv h
  obtain ⟨x17, _, h, L17⟩ := argF_inv h
  obtain ⟨x18, _, h, L18⟩ := argF_inv h
  obtain ⟨h, L19⟩ := arg0_inv h
  obtain ⟨h, L20⟩ := arg0_inv h
  obtain ⟨hok, rfl⟩ := run_okay h
  exact (entry_loops prg tok_32 hok_1 (ev11 R x1 x2 x3 x4 x5 x6 x7 x8 x9 x10 x11 x12 x13 x14 x15 x16 x17 x18) (fun o ho => (Option.some.inj ho) ▸ hok) rfl).le (L0 _ _ (L1 _ (L2 _ (L3 _ (L4 _ (L5 _ (L6 _ (L7 _ (L8 _ (L9 _ (L10 _ (L11 _ (L12 _ (L13 _ (L14 _ (L15 _ (L16 _ (L17 _ (L18 _ L19)))))))))))))))))) L20)
def tl_11 : List (Nat × Ev.Spec) := (11, sp11) :: tl_32
def tbl_11 (D : Dom) : Tbl D := tblOf tl_11 D
theorem tok_11 : TblOK Try.prog (tbl_11 R) := TblOK.cons tok_32 en11

-- penumbra/penumbraref02.Same
def S12_0 (D : Dom) (a0 : D.F) (a1 : D.F) : D.B := (D.bite (D.feq a0 a1) (D.bc true) (D.bite (D.bnot (D.feq a0 a0)) (D.bnot (D.feq a1 a1)) (D.bc false)))
theorem ev12 (D : Dom) (a0 : D.F) (a1 : D.F) : joinT (evFnH Try.prog (tbl_11 D) (lt_1 D) 80 12 [.fl a0, .fl a1] [] 0) = .val none (.sb (S12_0 D a0 a1)) := by kernel_rfl
def sp12 : Ev.Spec := fun D l => argF l fun a0 r0 => argF r0 fun a1 r1 => arg0 r1 (.ret (.sb (S12_0 D a0 a1)))
theorem en12 : ∀ l r, (sp12 R l).run = some r → Entry Try.prog 12 l r := by
  intro l r h
  obtain ⟨x0, _, h, L0⟩ := argF_inv h
  obtain ⟨x1, _, h, L1⟩ := argF_inv h
  obtain ⟨h, L2⟩ := arg0_inv h
  cases h
  exact (entry_loops prg tok_11 hok_1 (ev12 R x0 x1) (fun o ho => nomatch ho) rfl).le (L0 _ (L1 _ L2))
def tl_12 : List (Nat × Ev.Spec) := (12, sp12) :: tl_11
def tbl_12 (D : Dom) : Tbl D := tblOf tl_12 D
theorem tok_12 : TblOK Try.prog (tbl_12 R) := TblOK.cons tok_11 en12

-- penumbra/penumbraref02.Is
def S13_0 (D : Dom) (a0 : D.F) (a1 : D.F) (a2 : D.F) (a3 : D.F) (a4 : D.F) (a5 : D.F) : D.B := (D.bite (D.bite (S12_0 D a0 a3) (S12_0 D a1 a4) (D.bc false)) (S12_0 D a2 a5) (D.bc false))
theorem ev13 (D : Dom) (a0 : D.F) (a1 : D.F) (a2 : D.F) (a3 : D.F) (a4 : D.F) (a5 : D.F) : joinT (evFnH Try.prog (tbl_12 D) (lt_1 D) 80 13 [.agg [.fl a0, .fl a1, .fl a2], .agg [.fl a3, .fl a4, .fl a5]] [] 0) = .val none (.sb (S13_0 D a0 a1 a2 a3 a4 a5)) := by kernel_rfl
def sp13 : Ev.Spec := fun D l => argA l fun c0 r0 => argF c0 fun a0 r1 => argF r1 fun a1 r2 => argF r2 fun a2 r3 => arg0 r3 (argA r0 fun c100 r100 => argF c100 fun a3 r101 => argF r101 fun a4 r102 => argF r102 fun a5 r103 => arg0 r103 (arg0 r100 (.ret (.sb (S13_0 D a0 a1 a2 a3 a4 a5)))))
theorem en13 : ∀ l r, (sp13 R l).run = some r → Entry Try.prog 13 l r := by
  intro l r h
  obtain ⟨_, _, h, L0⟩ := argA_inv h
  obtain ⟨x1, _, h, L1⟩ := argF_inv h
  obtain ⟨x2, _, h, L2⟩ := argF_inv h
  obtain ⟨x3, _, h, L3⟩ := argF_inv h
  obtain ⟨h, L4⟩ := arg0_inv h
  obtain ⟨_, _, h, L5⟩ := argA_inv h
  obtain ⟨x6, _, h, L6⟩ := argF_inv h
  obtain ⟨x7, _, h, L7⟩ := argF_inv h
  obtain ⟨x8, _, h, L8⟩ := argF_inv h
  obtain ⟨h, L9⟩ := arg0_inv h
  obtain ⟨h, L10⟩ := arg0_inv h
  cases h
  exact (entry_loops prg tok_12 hok_1 (ev13 R x1 x2 x3 x6 x7 x8) (fun o ho => nomatch ho) rfl).le (L0 _ _ (L1 _ (L2 _ (L3 _ L4))) (L5 _ _ (L6 _ (L7 _ (L8 _ L9))) L10))
def tl_13 : List (Nat × Ev.Spec) := (13, sp13) :: tl_12
def tbl_13 (D : Dom) : Tbl D := tblOf tl_13 D
theorem tok_13 : TblOK Try.prog (tbl_13 R) := TblOK.cons tok_12 en13

-- penumbra/penumbralaw19.CamRays
def WS3_0_0 (D : Dom) (a0 : D.F) (a1 : D.F) (a2 : D.F) (a3 : D.F) (a4 : D.F) (a5 : D.F) (a6 : D.F) (a7 : D.F) (a8 : D.F) (a9 : D.F) (a10 : D.F) (a11 : D.F) (a12 : D.Z) (a13 : D.Z) : D.B := (D.bite (D.bite (D.bite (D.bite (D.bnot (S5_9 D a0 a1 a2 a3 a4 a5 a6 a7 a8 a9 a10 a11)) (D.bc true) (D.zlt a12 (D.zc 1))) (D.bc true) (D.zlt a13 (D.zc 1))) (D.bc true) (D.zlt (D.zc 8192) a12)) (D.bc true) (D.zlt (D.zc 8192) a13))
def WS3_0_1 (D : Dom) (a0 : D.F) (a1 : D.F) (a2 : D.F) (a3 : D.F) (a4 : D.F) (a5 : D.F) (a6 : D.F) (a7 : D.F) (a8 : D.F) (a9 : D.F) (a10 : D.F) (a11 : D.F) (a12 : D.Z) (a13 : D.Z) : D.B := (D.bite (WS3_0_0 D a0 a1 a2 a3 a4 a5 a6 a7 a8 a9 a10 a11 a12 a13) (D.bc true) (D.bc false))
def WS3_0_2 (D : Dom) (a0 : D.F) (a1 : D.F) (a2 : D.F) (a3 : D.F) (a4 : D.F) (a5 : D.F) : D.F := (S23_1 D (S24_0 D a3 a0) (S24_1 D a4 a1) (S24_2 D a5 a2))
def WS3_0_3 (D : Dom) (a0 : D.F) (a1 : D.F) (a2 : D.F) (a3 : D.F) (a4 : D.F) (a5 : D.F) : D.F := (S23_2 D (S24_0 D a3 a0) (S24_1 D a4 a1) (S24_2 D a5 a2))
def WS3_0_4 (D : Dom) (a0 : D.F) (a1 : D.F) (a2 : D.F) (a3 : D.F) (a4 : D.F) (a5 : D.F) (a7 : D.F) (a8 : D.F) : D.F := (S25_0 D (WS3_0_2 D a0 a1 a2 a3 a4 a5) (WS3_0_3 D a0 a1 a2 a3 a4 a5) a7 a8)
def WS3_0_5 (D : Dom) (a0 : D.F) (a1 : D.F) (a2 : D.F) (a3 : D.F) (a4 : D.F) (a5 : D.F) : D.F := (S23_0 D (S24_0 D a3 a0) (S24_1 D a4 a1) (S24_2 D a5 a2))
def WS3_0_6 (D : Dom) (a0 : D.F) (a1 : D.F) (a2 : D.F) (a3 : D.F) (a4 : D.F) (a5 : D.F) (a6 : D.F) (a8 : D.F) : D.F := (S25_1 D (WS3_0_5 D a0 a1 a2 a3 a4 a5) (WS3_0_3 D a0 a1 a2 a3 a4 a5) a6 a8)
def WS3_0_7 (D : Dom) (a0 : D.F) (a1 : D.F) (a2 : D.F) (a3 : D.F) (a4 : D.F) (a5 : D.F) (a6 : D.F) (a7 : D.F) : D.F := (S25_2 D (WS3_0_5 D a0 a1 a2 a3 a4 a5) (WS3_0_2 D a0 a1 a2 a3 a4 a5) a6 a7)
def WS3_0_8 (D : Dom) (a9 : D.F) (a12 : D.Z) (a13 : D.Z) (a14 : D.F) : D.F := (D.fmul (D.fsub (S26_0 D a14 (D.i2f a12)) (D.fc 4607182418800017408)) (D.fmul a9 (D.fdiv (D.i2f a12) (D.i2f a13))))
def WS3_0_9 (D : Dom) (a9 : D.F) (a13 : D.Z) (a15 : D.F) : D.F := (D.fmul (D.fsub (D.fc 4607182418800017408) (S26_0 D a15 (D.i2f a13))) a9)
def WS3_0_10 (D : Dom) (a0 : D.F) (a1 : D.F) (a2 : D.F) (a3 : D.F) (a4 : D.F) (a5 : D.F) (a6 : D.F) (a7 : D.F) (a8 : D.F) : D.F := (S23_0 D (WS3_0_4 D a0 a1 a2 a3 a4 a5 a7 a8) (WS3_0_6 D a0 a1 a2 a3 a4 a5 a6 a8) (WS3_0_7 D a0 a1 a2 a3 a4 a5 a6 a7))
def WS3_0_11 (D : Dom) (a0 : D.F) (a1 : D.F) (a2 : D.F) (a3 : D.F) (a4 : D.F) (a5 : D.F) (a6 : D.F) (a7 : D.F) (a8 : D.F) : D.F := (S23_1 D (WS3_0_4 D a0 a1 a2 a3 a4 a5 a7 a8) (WS3_0_6 D a0 a1 a2 a3 a4 a5 a6 a8) (WS3_0_7 D a0 a1 a2 a3 a4 a5 a6 a7))
def WS3_0_12 (D : Dom) (a0 : D.F) (a1 : D.F) (a2 : D.F) (a3 : D.F) (a4 : D.F) (a5 : D.F) (a6 : D.F) (a7 : D.F) (a8 : D.F) : D.F := (S23_2 D (WS3_0_4 D a0 a1 a2 a3 a4 a5 a7 a8) (WS3_0_6 D a0 a1 a2 a3 a4 a5 a6 a8) (WS3_0_7 D a0 a1 a2 a3 a4 a5 a6 a7))
def WS3_0_13 (D : Dom) (a0 : D.F) (a1 : D.F) (a2 : D.F) (a3 : D.F) (a4 : D.F) (a5 : D.F) (a6 : D.F) (a7 : D.F) (a8 : D.F) : D.F := (S25_0 D (WS3_0_11 D a0 a1 a2 a3 a4 a5 a6 a7 a8) (WS3_0_12 D a0 a1 a2 a3 a4 a5 a6 a7 a8) (WS3_0_2 D a0 a1 a2 a3 a4 a5) (WS3_0_3 D a0 a1 a2 a3 a4 a5))
def WS3_0_14 (D : Dom) (a0 : D.F) (a1 : D.F) (a2 : D.F) (a3 : D.F) (a4 : D.F) (a5 : D.F) (a6 : D.F) (a7 : D.F) (a8 : D.F) (a9 : D.F) (a12 : D.Z) (a13 : D.Z) (a14 : D.F) (a15 : D.F) : D.F := (S29_0 D (S29_0 D (WS3_0_5 D a0 a1 a2 a3 a4 a5) (S30_0 D (WS3_0_10 D a0 a1 a2 a3 a4 a5 a6 a7 a8) (WS3_0_8 D a9 a12 a13 a14))) (S30_0 D (WS3_0_13 D a0 a1 a2 a3 a4 a5 a6 a7 a8) (WS3_0_9 D a9 a13 a15)))
def WS3_0_15 (D : Dom) (a0 : D.F) (a1 : D.F) (a2 : D.F) (a3 : D.F) (a4 : D.F) (a5 : D.F) (a6 : D.F) (a7 : D.F) (a8 : D.F) : D.F := (S25_1 D (WS3_0_10 D a0 a1 a2 a3 a4 a5 a6 a7 a8) (WS3_0_12 D a0 a1 a2 a3 a4 a5 a6 a7 a8) (WS3_0_5 D a0 a1 a2 a3 a4 a5) (WS3_0_3 D a0 a1 a2 a3 a4 a5))
def WS3_0_16 (D : Dom) (a0 : D.F) (a1 : D.F) (a2 : D.F) (a3 : D.F) (a4 : D.F) (a5 : D.F) (a6 : D.F) (a7 : D.F) (a8 : D.F) (a9 : D.F) (a12 : D.Z) (a13 : D.Z) (a14 : D.F) (a15 : D.F) : D.F := (S29_1 D (S29_1 D (WS3_0_2 D a0 a1 a2 a3 a4 a5) (S30_1 D (WS3_0_11 D a0 a1 a2 a3 a4 a5 a6 a7 a8) (WS3_0_8 D a9 a12 a13 a14))) (S30_1 D (WS3_0_15 D a0 a1 a2 a3 a4 a5 a6 a7 a8) (WS3_0_9 D a9 a13 a15)))
def WS3_0_17 (D : Dom) (a0 : D.F) (a1 : D.F) (a2 : D.F) (a3 : D.F) (a4 : D.F) (a5 : D.F) (a6 : D.F) (a7 : D.F) (a8 : D.F) : D.F := (S25_2 D (WS3_0_10 D a0 a1 a2 a3 a4 a5 a6 a7 a8) (WS3_0_11 D a0 a1 a2 a3 a4 a5 a6 a7 a8) (WS3_0_5 D a0 a1 a2 a3 a4 a5) (WS3_0_2 D a0 a1 a2 a3 a4 a5))
def WS3_0_18 (D : Dom) (a0 : D.F) (a1 : D.F) (a2 : D.F) (a3 : D.F) (a4 : D.F) (a5 : D.F) (a6 : D.F) (a7 : D.F) (a8 : D.F) (a9 : D.F) (a12 : D.Z) (a13 : D.Z) (a14 : D.F) (a15 : D.F) : D.F := (S29_2 D (S29_2 D (WS3_0_3 D a0 a1 a2 a3 a4 a5) (S30_2 D (WS3_0_12 D a0 a1 a2 a3 a4 a5 a6 a7 a8) (WS3_0_8 D a9 a12 a13 a14))) (S30_2 D (WS3_0_17 D a0 a1 a2 a3 a4 a5 a6 a7 a8) (WS3_0_9 D a9 a13 a15)))
def WS3_0_19 (D : Dom) (a0 : D.F) (a1 : D.F) (a2 : D.F) (a3 : D.F) (a4 : D.F) (a5 : D.F) (a6 : D.F) (a7 : D.F) (a8 : D.F) (a9 : D.F) (a12 : D.Z) (a13 : D.Z) (a14 : D.F) (a15 : D.F) : D.B := (D.bnot (S23_3 D (WS3_0_14 D a0 a1 a2 a3 a4 a5 a6 a7 a8 a9 a12 a13 a14 a15) (WS3_0_16 D a0 a1 a2 a3 a4 a5 a6 a7 a8 a9 a12 a13 a14 a15) (WS3_0_18 D a0 a1 a2 a3 a4 a5 a6 a7 a8 a9 a12 a13 a14 a15)))
def WS3_0_20 (D : Dom) (a0 : D.F) (a1 : D.F) (a2 : D.F) (a3 : D.F) (a4 : D.F) (a5 : D.F) (a6 : D.F) (a7 : D.F) (a8 : D.F) (a10 : D.F) (a16 : D.F) (a17 : D.F) : D.F := (S29_0 D (S29_0 D a0 (S30_0 D (WS3_0_10 D a0 a1 a2 a3 a4 a5 a6 a7 a8) (D.fmul (S28_0 D a16 a17) a10))) (S30_0 D (WS3_0_13 D a0 a1 a2 a3 a4 a5 a6 a7 a8) (D.fmul (S28_1 D a16 a17) a10)))
def WS3_0_21 (D : Dom) (a0 : D.F) (a1 : D.F) (a2 : D.F) (a3 : D.F) (a4 : D.F) (a5 : D.F) (a6 : D.F) (a7 : D.F) (a8 : D.F) (a9 : D.F) (a10 : D.F) (a11 : D.F) (a12 : D.Z) (a13 : D.Z) (a14 : D.F) (a15 : D.F) (a16 : D.F) (a17 : D.F) : D.F := (S24_0 D (S29_0 D a0 (S30_0 D (WS3_0_14 D a0 a1 a2 a3 a4 a5 a6 a7 a8 a9 a12 a13 a14 a15) a11)) (WS3_0_20 D a0 a1 a2 a3 a4 a5 a6 a7 a8 a10 a16 a17))
def WS3_0_22 (D : Dom) (a0 : D.F) (a1 : D.F) (a2 : D.F) (a3 : D.F) (a4 : D.F) (a5 : D.F) (a6 : D.F) (a7 : D.F) (a8 : D.F) (a10 : D.F) (a16 : D.F) (a17 : D.F) : D.F := (S29_1 D (S29_1 D a1 (S30_1 D (WS3_0_11 D a0 a1 a2 a3 a4 a5 a6 a7 a8) (D.fmul (S28_0 D a16 a17) a10))) (S30_1 D (WS3_0_15 D a0 a1 a2 a3 a4 a5 a6 a7 a8) (D.fmul (S28_1 D a16 a17) a10)))
def WS3_0_23 (D : Dom) (a0 : D.F) (a1 : D.F) (a2 : D.F) (a3 : D.F) (a4 : D.F) (a5 : D.F) (a6 : D.F) (a7 : D.F) (a8 : D.F) (a9 : D.F) (a10 : D.F) (a11 : D.F) (a12 : D.Z) (a13 : D.Z) (a14 : D.F) (a15 : D.F) (a16 : D.F) (a17 : D.F) : D.F := (S24_1 D (S29_1 D a1 (S30_1 D (WS3_0_16 D a0 a1 a2 a3 a4 a5 a6 a7 a8 a9 a12 a13 a14 a15) a11)) (WS3_0_22 D a0 a1 a2 a3 a4 a5 a6 a7 a8 a10 a16 a17))
def WS3_0_24 (D : Dom) (a0 : D.F) (a1 : D.F) (a2 : D.F) (a3 : D.F) (a4 : D.F) (a5 : D.F) (a6 : D.F) (a7 : D.F) (a8 : D.F) (a10 : D.F) (a16 : D.F) (a17 : D.F) : D.F := (S29_2 D (S29_2 D a2 (S30_2 D (WS3_0_12 D a0 a1 a2 a3 a4 a5 a6 a7 a8) (D.fmul (S28_0 D a16 a17) a10))) (S30_2 D (WS3_0_17 D a0 a1 a2 a3 a4 a5 a6 a7 a8) (D.fmul (S28_1 D a16 a17) a10)))
def WS3_0_25 (D : Dom) (a0 : D.F) (a1 : D.F) (a2 : D.F) (a3 : D.F) (a4 : D.F) (a5 : D.F) (a6 : D.F) (a7 : D.F) (a8 : D.F) (a9 : D.F) (a10 : D.F) (a11 : D.F) (a12 : D.Z) (a13 : D.Z) (a14 : D.F) (a15 : D.F) (a16 : D.F) (a17 : D.F) : D.F := (S24_2 D (S29_2 D a2 (S30_2 D (WS3_0_18 D a0 a1 a2 a3 a4 a5 a6 a7 a8 a9 a12 a13 a14 a15) a11)) (WS3_0_24 D a0 a1 a2 a3 a4 a5 a6 a7 a8 a10 a16 a17))
def WS3_0_26 (D : Dom) (a0 : D.F) (a1 : D.F) (a2 : D.F) (a3 : D.F) (a4 : D.F) (a5 : D.F) (a6 : D.F) (a7 : D.F) (a8 : D.F) (a9 : D.F) (a10 : D.F) (a11 : D.F) (a12 : D.Z) (a13 : D.Z) (a14 : D.F) (a15 : D.F) (a16 : D.F) (a17 : D.F) : D.B := (D.bnot (S23_3 D (WS3_0_21 D a0 a1 a2 a3 a4 a5 a6 a7 a8 a9 a10 a11 a12 a13 a14 a15 a16 a17) (WS3_0_23 D a0 a1 a2 a3 a4 a5 a6 a7 a8 a9 a10 a11 a12 a13 a14 a15 a16 a17) (WS3_0_25 D a0 a1 a2 a3 a4 a5 a6 a7 a8 a9 a10 a11 a12 a13 a14 a15 a16 a17)))
def WS3_0_27 (D : Dom) (a0 : D.F) (a1 : D.F) (a2 : D.F) (a3 : D.F) (a4 : D.F) (a5 : D.F) (a6 : D.F) (a7 : D.F) (a8 : D.F) (a9 : D.F) (a10 : D.F) (a11 : D.F) (a12 : D.Z) (a13 : D.Z) (a14 : D.F) (a15 : D.F) (a16 : D.F) (a17 : D.F) : D.B := (S13_0 D (D.fite (D.bnot (D.fgt a10 (D.fc 0))) (D.fite (WS3_0_19 D a0 a1 a2 a3 a4 a5 a6 a7 a8 a9 a12 a13 a14 a15) (D.fc 0) (S23_0 D (WS3_0_14 D a0 a1 a2 a3 a4 a5 a6 a7 a8 a9 a12 a13 a14 a15) (WS3_0_16 D a0 a1 a2 a3 a4 a5 a6 a7 a8 a9 a12 a13 a14 a15) (WS3_0_18 D a0 a1 a2 a3 a4 a5 a6 a7 a8 a9 a12 a13 a14 a15))) (D.fite (WS3_0_26 D a0 a1 a2 a3 a4 a5 a6 a7 a8 a9 a10 a11 a12 a13 a14 a15 a16 a17) (D.fc 0) (S23_0 D (WS3_0_21 D a0 a1 a2 a3 a4 a5 a6 a7 a8 a9 a10 a11 a12 a13 a14 a15 a16 a17) (WS3_0_23 D a0 a1 a2 a3 a4 a5 a6 a7 a8 a9 a10 a11 a12 a13 a14 a15 a16 a17) (WS3_0_25 D a0 a1 a2 a3 a4 a5 a6 a7 a8 a9 a10 a11 a12 a13 a14 a15 a16 a17)))) (D.fite (D.bnot (D.fgt a10 (D.fc 0))) (D.fite (WS3_0_19 D a0 a1 a2 a3 a4 a5 a6 a7 a8 a9 a12 a13 a14 a15) (D.fc 0) (S23_1 D (WS3_0_14 D a0 a1 a2 a3 a4 a5 a6 a7 a8 a9 a12 a13 a14 a15) (WS3_0_16 D a0 a1 a2 a3 a4 a5 a6 a7 a8 a9 a12 a13 a14 a15) (WS3_0_18 D a0 a1 a2 a3 a4 a5 a6 a7 a8 a9 a12 a13 a14 a15))) (D.fite (WS3_0_26 D a0 a1 a2 a3 a4 a5 a6 a7 a8 a9 a10 a11 a12 a13 a14 a15 a16 a17) (D.fc 0) (S23_1 D (WS3_0_21 D a0 a1 a2 a3 a4 a5 a6 a7 a8 a9 a10 a11 a12 a13 a14 a15 a16 a17) (WS3_0_23 D a0 a1 a2 a3 a4 a5 a6 a7 a8 a9 a10 a11 a12 a13 a14 a15 a16 a17) (WS3_0_25 D a0 a1 a2 a3 a4 a5 a6 a7 a8 a9 a10 a11 a12 a13 a14 a15 a16 a17)))) (D.fite (D.bnot (D.fgt a10 (D.fc 0))) (D.fite (WS3_0_19 D a0 a1 a2 a3 a4 a5 a6 a7 a8 a9 a12 a13 a14 a15) (D.fc 0) (S23_2 D (WS3_0_14 D a0 a1 a2 a3 a4 a5 a6 a7 a8 a9 a12 a13 a14 a15) (WS3_0_16 D a0 a1 a2 a3 a4 a5 a6 a7 a8 a9 a12 a13 a14 a15) (WS3_0_18 D a0 a1 a2 a3 a4 a5 a6 a7 a8 a9 a12 a13 a14 a15))) (D.fite (WS3_0_26 D a0 a1 a2 a3 a4 a5 a6 a7 a8 a9 a10 a11 a12 a13 a14 a15 a16 a17) (D.fc 0) (S23_2 D (WS3_0_21 D a0 a1 a2 a3 a4 a5 a6 a7 a8 a9 a10 a11 a12 a13 a14 a15 a16 a17) (WS3_0_23 D a0 a1 a2 a3 a4 a5 a6 a7 a8 a9 a10 a11 a12 a13 a14 a15 a16 a17) (WS3_0_25 D a0 a1 a2 a3 a4 a5 a6 a7 a8 a9 a10 a11 a12 a13 a14 a15 a16 a17)))) (S11_3 D a0 a1 a2 a3 a4 a5 a6 a7 a8 a9 a10 a11 a12 a13 a14 a15 a16 a17) (S11_4 D a0 a1 a2 a3 a4 a5 a6 a7 a8 a9 a10 a11 a12 a13 a14 a15 a16 a17) (S11_5 D a0 a1 a2 a3 a4 a5 a6 a7 a8 a9 a10 a11 a12 a13 a14 a15 a16 a17))
def WS3_0_28 (D : Dom) (a0 : D.F) (a1 : D.F) (a2 : D.F) (a3 : D.F) (a4 : D.F) (a5 : D.F) (a6 : D.F) (a7 : D.F) (a8 : D.F) (a9 : D.F) (a10 : D.F) (a11 : D.F) (a12 : D.Z) (a13 : D.Z) (a14 : D.F) (a15 : D.F) (a16 : D.F) (a17 : D.F) : D.B := (D.bite (D.bite (D.bite (D.bite (S12_0 D (WS3_0_8 D a9 a12 a13 a14) (S9_0 D a9 a12 a13 a14)) (S12_0 D (WS3_0_9 D a9 a13 a15) (S9_1 D a9 a13 a15)) (D.bc false)) (S13_0 D (D.fite (D.bnot (D.fgt a10 (D.fc 0))) (D.fite (WS3_0_19 D a0 a1 a2 a3 a4 a5 a6 a7 a8 a9 a12 a13 a14 a15) (D.fc 0) a0) (D.fite (WS3_0_26 D a0 a1 a2 a3 a4 a5 a6 a7 a8 a9 a10 a11 a12 a13 a14 a15 a16 a17) (D.fc 0) (WS3_0_20 D a0 a1 a2 a3 a4 a5 a6 a7 a8 a10 a16 a17))) (D.fite (D.bnot (D.fgt a10 (D.fc 0))) (D.fite (WS3_0_19 D a0 a1 a2 a3 a4 a5 a6 a7 a8 a9 a12 a13 a14 a15) (D.fc 0) a1) (D.fite (WS3_0_26 D a0 a1 a2 a3 a4 a5 a6 a7 a8 a9 a10 a11 a12 a13 a14 a15 a16 a17) (D.fc 0) (WS3_0_22 D a0 a1 a2 a3 a4 a5 a6 a7 a8 a10 a16 a17))) (D.fite (D.bnot (D.fgt a10 (D.fc 0))) (D.fite (WS3_0_19 D a0 a1 a2 a3 a4 a5 a6 a7 a8 a9 a12 a13 a14 a15) (D.fc 0) a2) (D.fite (WS3_0_26 D a0 a1 a2 a3 a4 a5 a6 a7 a8 a9 a10 a11 a12 a13 a14 a15 a16 a17) (D.fc 0) (WS3_0_24 D a0 a1 a2 a3 a4 a5 a6 a7 a8 a10 a16 a17))) (S11_0 D a0 a1 a2 a3 a4 a5 a6 a7 a8 a9 a10 a11 a12 a13 a14 a15 a16 a17) (S11_1 D a0 a1 a2 a3 a4 a5 a6 a7 a8 a9 a10 a11 a12 a13 a14 a15 a16 a17) (S11_2 D a0 a1 a2 a3 a4 a5 a6 a7 a8 a9 a10 a11 a12 a13 a14 a15 a16 a17)) (D.bc false)) (WS3_0_27 D a0 a1 a2 a3 a4 a5 a6 a7 a8 a9 a10 a11 a12 a13 a14 a15 a16 a17) (D.bc false)) (S12_0 D (D.fite (D.bnot (D.fgt a10 (D.fc 0))) (D.fite (WS3_0_19 D a0 a1 a2 a3 a4 a5 a6 a7 a8 a9 a12 a13 a14 a15) (D.fc 0) (D.fc 4607182418800017408)) (D.fite (WS3_0_26 D a0 a1 a2 a3 a4 a5 a6 a7 a8 a9 a10 a11 a12 a13 a14 a15 a16 a17) (D.fc 0) (D.fdiv (D.fc 4607182418800017408) (D.fmul (D.fc 4614256656552045848) (S28_2 D a17))))) (S11_6 D a0 a1 a2 a3 a4 a5 a6 a7 a8 a9 a10 a11 a12 a13 a14 a15 a16 a17)) (D.bc false))
def WS3_0_29 (D : Dom) (a0 : D.F) (a1 : D.F) (a2 : D.F) (a3 : D.F) (a4 : D.F) (a5 : D.F) (a6 : D.F) (a7 : D.F) (a8 : D.F) (a9 : D.F) (a10 : D.F) (a11 : D.F) (a12 : D.Z) (a13 : D.Z) (a14 : D.F) (a15 : D.F) (a16 : D.F) (a17 : D.F) : D.B := (D.bite (D.bite (D.bite (D.bite (D.bite (D.band (D.feq a0 (D.fc 0)) (D.band (D.feq a1 (D.fc 0)) (D.band (D.feq a2 (D.fc 0)) (D.band (D.feq a3 (D.fc 0)) (D.band (D.feq a4 (D.fc 0)) (D.band (D.feq a5 (D.fc 0)) (D.band (D.feq a6 (D.fc 0)) (D.band (D.feq a7 (D.fc 0)) (D.band (D.feq a8 (D.fc 0)) (D.band (D.feq a9 (D.fc 0)) (D.band (D.feq a10 (D.fc 0)) (D.band (D.feq a11 (D.fc 0)) (D.bc true))))))))))))) (D.bc true) (D.bnot (D.bite (D.bite (D.bite (D.bite (D.bite (S21_0 D a9) (S21_0 D a10) (D.bc false)) (S21_0 D a11) (D.bc false)) (S22_0 D a0 a1 a2) (D.bc false)) (S22_0 D a3 a4 a5) (D.bc false)) (S22_0 D a6 a7 a8) (D.bc false)))) (D.bc true) (D.fle a9 (D.fc 0))) (D.bc true) (D.flt a10 (D.fc 0))) (D.bc true) (D.fle a11 (D.fc 0))) (WS3_0_1 D a0 a1 a2 a3 a4 a5 a6 a7 a8 a9 a10 a11 a12 a13) (D.bite (D.bite (D.bnot (S23_3 D (S24_0 D a3 a0) (S24_1 D a4 a1) (S24_2 D a5 a2))) (D.bc true) (D.bnot (S23_3 D (WS3_0_4 D a0 a1 a2 a3 a4 a5 a7 a8) (WS3_0_6 D a0 a1 a2 a3 a4 a5 a6 a8) (WS3_0_7 D a0 a1 a2 a3 a4 a5 a6 a7)))) (WS3_0_1 D a0 a1 a2 a3 a4 a5 a6 a7 a8 a9 a10 a11 a12 a13) (D.bite (WS3_0_0 D a0 a1 a2 a3 a4 a5 a6 a7 a8 a9 a10 a11 a12 a13) (D.bc false) (D.bite (WS3_0_28 D a0 a1 a2 a3 a4 a5 a6 a7 a8 a9 a10 a11 a12 a13 a14 a15 a16 a17) (D.beq (D.bite (D.bnot (D.fgt a10 (D.fc 0))) (D.bite (WS3_0_19 D a0 a1 a2 a3 a4 a5 a6 a7 a8 a9 a12 a13 a14 a15) (D.bc false) (D.bc true)) (D.bite (WS3_0_26 D a0 a1 a2 a3 a4 a5 a6 a7 a8 a9 a10 a11 a12 a13 a14 a15 a16 a17) (D.bc false) (D.bc true))) (S11_7 D a0 a1 a2 a3 a4 a5 a6 a7 a8 a9 a10 a11 a12 a13 a14 a15 a16 a17)) (D.bc false)))))
def S3_0 (D : Dom) (a0 : D.F) (a1 : D.F) (a2 : D.F) (a3 : D.F) (a4 : D.F) (a5 : D.F) (a6 : D.F) (a7 : D.F) (a8 : D.F) (a9 : D.F) (a10 : D.F) (a11 : D.F) (a12 : D.Z) (a13 : D.Z) (a14 : D.F) (a15 : D.F) (a16 : D.F) (a17 : D.F) : D.B := (D.bite (D.bite (D.zlt (D.zmin a12 a13) (D.zc 1)) (D.bc true) (D.zlt (D.zc 8192) (D.zmax a12 a13))) (WS3_0_1 D a0 a1 a2 a3 a4 a5 a6 a7 a8 a9 a10 a11 a12 a13) (WS3_0_29 D a0 a1 a2 a3 a4 a5 a6 a7 a8 a9 a10 a11 a12 a13 a14 a15 a16 a17))
def WO3_0 (D : Dom) (a0 : D.F) (a1 : D.F) (a2 : D.F) (a3 : D.F) (a4 : D.F) (a5 : D.F) : D.F := (S23_1 D (S24_0 D a3 a0) (S24_1 D a4 a1) (S24_2 D a5 a2))
def WO3_1 (D : Dom) (a0 : D.F) (a1 : D.F) (a2 : D.F) (a3 : D.F) (a4 : D.F) (a5 : D.F) : D.F := (S23_2 D (S24_0 D a3 a0) (S24_1 D a4 a1) (S24_2 D a5 a2))
def WO3_2 (D : Dom) (a0 : D.F) (a1 : D.F) (a2 : D.F) (a3 : D.F) (a4 : D.F) (a5 : D.F) : D.F := (S23_0 D (S24_0 D a3 a0) (S24_1 D a4 a1) (S24_2 D a5 a2))
def O3 (D : Dom) (a0 : D.F) (a1 : D.F) (a2 : D.F) (a3 : D.F) (a4 : D.F) (a5 : D.F) (a6 : D.F) (a7 : D.F) (a8 : D.F) (a9 : D.F) (a10 : D.F) (a11 : D.F) (a12 : D.Z) (a13 : D.Z) (a17 : D.F) : D.B := (D.bite (D.bite (D.zlt (D.zmin a12 a13) (D.zc 1)) (D.bc true) (D.zlt (D.zc 8192) (D.zmax a12 a13))) (D.bc true) (D.bite (D.bite (D.bite (D.bite (D.bite (D.band (D.feq a0 (D.fc 0)) (D.band (D.feq a1 (D.fc 0)) (D.band (D.feq a2 (D.fc 0)) (D.band (D.feq a3 (D.fc 0)) (D.band (D.feq a4 (D.fc 0)) (D.band (D.feq a5 (D.fc 0)) (D.band (D.feq a6 (D.fc 0)) (D.band (D.feq a7 (D.fc 0)) (D.band (D.feq a8 (D.fc 0)) (D.band (D.feq a9 (D.fc 0)) (D.band (D.feq a10 (D.fc 0)) (D.band (D.feq a11 (D.fc 0)) (D.bc true))))))))))))) (D.bc true) (D.bnot (D.bite (D.bite (D.bite (D.bite (D.bite (S21_0 D a9) (S21_0 D a10) (D.bc false)) (S21_0 D a11) (D.bc false)) (S22_0 D a0 a1 a2) (D.bc false)) (S22_0 D a3 a4 a5) (D.bc false)) (S22_0 D a6 a7 a8) (D.bc false)))) (D.bc true) (D.fle a9 (D.fc 0))) (D.bc true) (D.flt a10 (D.fc 0))) (D.bc true) (D.fle a11 (D.fc 0))) (D.bc true) (D.bite (D.bite (D.bnot (S23_3 D (S24_0 D a3 a0) (S24_1 D a4 a1) (S24_2 D a5 a2))) (D.bc true) (D.bnot (S23_3 D (S25_0 D (WO3_0 D a0 a1 a2 a3 a4 a5) (WO3_1 D a0 a1 a2 a3 a4 a5) a7 a8) (S25_1 D (WO3_2 D a0 a1 a2 a3 a4 a5) (WO3_1 D a0 a1 a2 a3 a4 a5) a6 a8) (S25_2 D (WO3_2 D a0 a1 a2 a3 a4 a5) (WO3_0 D a0 a1 a2 a3 a4 a5) a6 a7)))) (D.bc true) (D.bite (D.bite (D.bite (D.bite (D.bite (D.bnot (S5_9 D a0 a1 a2 a3 a4 a5 a6 a7 a8 a9 a10 a11)) (D.bc true) (D.zlt a12 (D.zc 1))) (D.bc true) (D.zlt a13 (D.zc 1))) (D.bc true) (D.zlt (D.zc 8192) a12)) (D.bc true) (D.zlt (D.zc 8192) a13)) (D.bc true) (D.band (D.bite (D.bnot (D.fgt a10 (D.fc 0))) (D.bc true) (O28 D a17)) (O11 D a10 a17))))))
theorem ev3 (D : Dom) (a0 : D.F) (a1 : D.F) (a2 : D.F) (a3 : D.F) (a4 : D.F) (a5 : D.F) (a6 : D.F) (a7 : D.F) (a8 : D.F) (a9 : D.F) (a10 : D.F) (a11 : D.F) (a12 : D.Z) (a13 : D.Z) (a14 : D.F) (a15 : D.F) (a16 : D.F) (a17 : D.F) : joinT (evFnH Try.prog (tbl_13 D) (lt_1 D) 80 3 [.agg [.fl a0, .fl a1, .fl a2, .fl a3, .fl a4, .fl a5, .fl a6, .fl a7, .fl a8, .fl a9, .fl a10, .fl a11, .si .i64 a12, .si .i64 a13, .fl a14, .fl a15, .fl a16, .fl a17]] [] 0) = .val (some (O3 D a0 a1 a2 a3 a4 a5 a6 a7 a8 a9 a10 a11 a12 a13 a17)) (.sb (S3_0 D a0 a1 a2 a3 a4 a5 a6 a7 a8 a9 a10 a11 a12 a13 a14 a15 a16 a17)) := by kernel_rfl
def sp3 : Ev.Spec := fun D l => argA l fun c0 r0 => argF c0 fun a0 r1 => argF r1 fun a1 r2 => argF r2 fun a2 r3 => argF r3 fun a3 r4 => argF r4 fun a4 r5 => argF r5 fun a5 r6 => argF r6 fun a6 r7 => argF r7 fun a7 r8 => argF r8 fun a8 r9 => argF r9 fun a9 r10 => argF r10 fun a10 r11 => argF r11 fun a11 r12 => argZ .i64 r12 fun a12 r13 => argZ .i64 r13 fun a13 r14 => argF r14 fun a14 r15 => argF r15 fun a15 r16 => argF r16 fun a16 r17 => argF r17 fun a17 r18 => arg0 r18 (arg0 r0 (.node (O3 D a0 a1 a2 a3 a4 a5 a6 a7 a8 a9 a10 a11 a12 a13 a17) (.ret (.sb (S3_0 D a0 a1 a2 a3 a4 a5 a6 a7 a8 a9 a10 a11 a12 a13 a14 a15 a16 a17))) (.fail "pre")))
theorem en3 : ∀ l r, (sp3 R l).run = some r → Entry Try.prog 3 l r := by
  intro l r h
  obtain ⟨_, _, h, L0⟩ := argA_inv h
  obtain ⟨x1, _, h, L1⟩ := argF_inv h
  obtain ⟨x2, _, h, L2⟩ := argF_inv h
  obtain ⟨x3, _, h, L3⟩ := argF_inv h
  obtain ⟨x4, _, h, L4⟩ := argF_inv h
  obtain ⟨x5, _, h, L5⟩ := argF_inv h
  obtain ⟨x6, _, h, L6⟩ := argF_inv h
  obtain ⟨x7, _, h, L7⟩ := argF_inv h
  obtain ⟨x8, _, h, L8⟩ := argF_inv h
  obtain ⟨x9, _, h, L9⟩ := argF_inv h
  obtain ⟨x10, _, h, L10⟩ := argF_inv h
  obtain ⟨x11, _, h, L11⟩ := argF_inv h
  obtain ⟨x12, _, h, L12⟩ := argF_inv h
  obtain ⟨x13, _, h, L13⟩ := argZ_inv h
  obtain ⟨x14, _, h, L14⟩ := argZ_inv h
  obtain ⟨x15, _, h, L15⟩ := argF_inv h
  obtain ⟨x16, _, h, L16⟩ := argF_inv h
  obtain ⟨x17, _, h, L17⟩ := argF_inv h
  obtain ⟨x18, _, h, L18⟩ := argF_inv h
  obtain ⟨h, L19⟩ := arg0_inv h
  obtain ⟨h, L20⟩ := arg0_inv h
  obtain ⟨hok, rfl⟩ := run_okay h
  exact (entry_loops prg tok_13 hok_1 (ev3 R x1 x2 x3 x4 x5 x6 x7 x8 x9 x10 x11 x12 x13 x14 x15 x16 x17 x18) (fun o ho => (Option.some.inj ho) ▸ hok) rfl).le (L0 _ _ (L1 _ (L2 _ (L3 _ (L4 _ (L5 _ (L6 _ (L7 _ (L8 _ (L9 _ (L10 _ (L11 _ (L12 _ (L13 _ (L14 _ (L15 _ (L16 _ (L17 _ (L18 _ L19)))))))))))))))))) L20)
def tl_3 : List (Nat × Ev.Spec) := (3, sp3) :: tl_13
def tbl_3 (D : Dom) : Tbl D := tblOf tl_3 D
theorem tok_3 : TblOK Try.prog (tbl_3 R) := TblOK.cons tok_13 en3

-- penumbra/penumbralaw19.CamMakes
def WS4_0_0 (D : Dom) (a12 : D.Z) (a13 : D.Z) : D.B := (D.bite (D.bite (D.bite (D.zlt a12 (D.zc 1)) (D.bc true) (D.zlt a13 (D.zc 1))) (D.bc true) (D.zlt (D.zc 8192) a12)) (D.bc true) (D.zlt (D.zc 8192) a13))
def WS4_0_1 (D : Dom) (a0 : D.F) (a1 : D.F) (a2 : D.F) (a3 : D.F) (a4 : D.F) (a5 : D.F) (a6 : D.F) (a7 : D.F) (a8 : D.F) (a9 : D.F) (a10 : D.F) (a11 : D.F) : D.B := (D.bnot (S5_9 D a0 a1 a2 a3 a4 a5 a6 a7 a8 a9 a10 a11))
def WS4_0_2 (D : Dom) (a0 : D.F) (a1 : D.F) (a2 : D.F) (a3 : D.F) (a4 : D.F) (a5 : D.F) (a6 : D.F) (a7 : D.F) (a8 : D.F) (a9 : D.F) (a10 : D.F) (a11 : D.F) (a12 : D.Z) (a13 : D.Z) : D.B := (D.bite (WS4_0_0 D a12 a13) (D.bc false) (D.bite (WS4_0_1 D a0 a1 a2 a3 a4 a5 a6 a7 a8 a9 a10 a11) (D.bc true) (D.bc false)))
def WS4_0_3 (D : Dom) (a0 : D.F) (a1 : D.F) (a2 : D.F) (a3 : D.F) (a4 : D.F) (a5 : D.F) : D.F := (S23_1 D (S24_0 D a3 a0) (S24_1 D a4 a1) (S24_2 D a5 a2))
def WS4_0_4 (D : Dom) (a0 : D.F) (a1 : D.F) (a2 : D.F) (a3 : D.F) (a4 : D.F) (a5 : D.F) : D.F := (S23_2 D (S24_0 D a3 a0) (S24_1 D a4 a1) (S24_2 D a5 a2))
def WS4_0_5 (D : Dom) (a0 : D.F) (a1 : D.F) (a2 : D.F) (a3 : D.F) (a4 : D.F) (a5 : D.F) (a7 : D.F) (a8 : D.F) : D.F := (S25_0 D (WS4_0_3 D a0 a1 a2 a3 a4 a5) (WS4_0_4 D a0 a1 a2 a3 a4 a5) a7 a8)
def WS4_0_6 (D : Dom) (a0 : D.F) (a1 : D.F) (a2 : D.F) (a3 : D.F) (a4 : D.F) (a5 : D.F) : D.F := (S23_0 D (S24_0 D a3 a0) (S24_1 D a4 a1) (S24_2 D a5 a2))
def WS4_0_7 (D : Dom) (a0 : D.F) (a1 : D.F) (a2 : D.F) (a3 : D.F) (a4 : D.F) (a5 : D.F) (a6 : D.F) (a8 : D.F) : D.F := (S25_1 D (WS4_0_6 D a0 a1 a2 a3 a4 a5) (WS4_0_4 D a0 a1 a2 a3 a4 a5) a6 a8)
def WS4_0_8 (D : Dom) (a0 : D.F) (a1 : D.F) (a2 : D.F) (a3 : D.F) (a4 : D.F) (a5 : D.F) (a6 : D.F) (a7 : D.F) : D.F := (S25_2 D (WS4_0_6 D a0 a1 a2 a3 a4 a5) (WS4_0_3 D a0 a1 a2 a3 a4 a5) a6 a7)
def WS4_0_9 (D : Dom) (a0 : D.F) (a1 : D.F) (a2 : D.F) (a3 : D.F) (a4 : D.F) (a5 : D.F) (a6 : D.F) (a7 : D.F) (a8 : D.F) : D.F := (S23_0 D (WS4_0_5 D a0 a1 a2 a3 a4 a5 a7 a8) (WS4_0_7 D a0 a1 a2 a3 a4 a5 a6 a8) (WS4_0_8 D a0 a1 a2 a3 a4 a5 a6 a7))
def WS4_0_10 (D : Dom) (a0 : D.F) (a1 : D.F) (a2 : D.F) (a3 : D.F) (a4 : D.F) (a5 : D.F) (a6 : D.F) (a7 : D.F) (a8 : D.F) : D.F := (S23_1 D (WS4_0_5 D a0 a1 a2 a3 a4 a5 a7 a8) (WS4_0_7 D a0 a1 a2 a3 a4 a5 a6 a8) (WS4_0_8 D a0 a1 a2 a3 a4 a5 a6 a7))
def WS4_0_11 (D : Dom) (a0 : D.F) (a1 : D.F) (a2 : D.F) (a3 : D.F) (a4 : D.F) (a5 : D.F) (a6 : D.F) (a7 : D.F) (a8 : D.F) : D.F := (S23_2 D (WS4_0_5 D a0 a1 a2 a3 a4 a5 a7 a8) (WS4_0_7 D a0 a1 a2 a3 a4 a5 a6 a8) (WS4_0_8 D a0 a1 a2 a3 a4 a5 a6 a7))
def WS4_0_12 (D : Dom) (a0 : D.F) (a1 : D.F) (a2 : D.F) (a3 : D.F) (a4 : D.F) (a5 : D.F) (a6 : D.F) (a7 : D.F) (a8 : D.F) (a9 : D.F) (a10 : D.F) (a11 : D.F) (a12 : D.Z) (a13 : D.Z) : D.B := (D.bite (D.bite (D.bnot (S23_3 D (S24_0 D a3 a0) (S24_1 D a4 a1) (S24_2 D a5 a2))) (D.bc true) (D.bnot (S23_3 D (WS4_0_5 D a0 a1 a2 a3 a4 a5 a7 a8) (WS4_0_7 D a0 a1 a2 a3 a4 a5 a6 a8) (WS4_0_8 D a0 a1 a2 a3 a4 a5 a6 a7)))) (WS4_0_2 D a0 a1 a2 a3 a4 a5 a6 a7 a8 a9 a10 a11 a12 a13) (D.bite (WS4_0_0 D a12 a13) (D.bc false) (D.bite (WS4_0_1 D a0 a1 a2 a3 a4 a5 a6 a7 a8 a9 a10 a11) (D.bc false) (D.bite (S13_0 D (WS4_0_6 D a0 a1 a2 a3 a4 a5) (WS4_0_3 D a0 a1 a2 a3 a4 a5) (WS4_0_4 D a0 a1 a2 a3 a4 a5) (S5_0 D a0 a1 a2 a3 a4 a5 a6 a7 a8 a9 a10 a11) (S5_1 D a0 a1 a2 a3 a4 a5 a6 a7 a8 a9 a10 a11) (S5_2 D a0 a1 a2 a3 a4 a5 a6 a7 a8 a9 a10 a11)) (D.bite (S13_0 D (WS4_0_9 D a0 a1 a2 a3 a4 a5 a6 a7 a8) (WS4_0_10 D a0 a1 a2 a3 a4 a5 a6 a7 a8) (WS4_0_11 D a0 a1 a2 a3 a4 a5 a6 a7 a8) (S5_3 D a0 a1 a2 a3 a4 a5 a6 a7 a8 a9 a10 a11) (S5_4 D a0 a1 a2 a3 a4 a5 a6 a7 a8 a9 a10 a11) (S5_5 D a0 a1 a2 a3 a4 a5 a6 a7 a8 a9 a10 a11)) (D.bite (S13_0 D (S25_0 D (WS4_0_10 D a0 a1 a2 a3 a4 a5 a6 a7 a8) (WS4_0_11 D a0 a1 a2 a3 a4 a5 a6 a7 a8) (WS4_0_3 D a0 a1 a2 a3 a4 a5) (WS4_0_4 D a0 a1 a2 a3 a4 a5)) (S25_1 D (WS4_0_9 D a0 a1 a2 a3 a4 a5 a6 a7 a8) (WS4_0_11 D a0 a1 a2 a3 a4 a5 a6 a7 a8) (WS4_0_6 D a0 a1 a2 a3 a4 a5) (WS4_0_4 D a0 a1 a2 a3 a4 a5)) (S25_2 D (WS4_0_9 D a0 a1 a2 a3 a4 a5 a6 a7 a8) (WS4_0_10 D a0 a1 a2 a3 a4 a5 a6 a7 a8) (WS4_0_6 D a0 a1 a2 a3 a4 a5) (WS4_0_3 D a0 a1 a2 a3 a4 a5)) (S5_6 D a0 a1 a2 a3 a4 a5 a6 a7 a8 a9 a10 a11) (S5_7 D a0 a1 a2 a3 a4 a5 a6 a7 a8 a9 a10 a11) (S5_8 D a0 a1 a2 a3 a4 a5 a6 a7 a8 a9 a10 a11)) (D.beq (D.fgt a10 (D.fc 0)) (D.fgt a10 (D.fc 0))) (D.bc false)) (D.bc false)) (D.bc false)))))
def S4_0 (D : Dom) (a0 : D.F) (a1 : D.F) (a2 : D.F) (a3 : D.F) (a4 : D.F) (a5 : D.F) (a6 : D.F) (a7 : D.F) (a8 : D.F) (a9 : D.F) (a10 : D.F) (a11 : D.F) (a12 : D.Z) (a13 : D.Z) : D.B := (D.bite (D.bite (D.zlt (D.zmin a12 a13) (D.zc 1)) (D.bc true) (D.zlt (D.zc 8192) (D.zmax a12 a13))) (D.bite (WS4_0_0 D a12 a13) (D.bc true) (D.bc false)) (D.bite (D.bite (D.bite (D.bite (D.bite (D.band (D.feq a0 (D.fc 0)) (D.band (D.feq a1 (D.fc 0)) (D.band (D.feq a2 (D.fc 0)) (D.band (D.feq a3 (D.fc 0)) (D.band (D.feq a4 (D.fc 0)) (D.band (D.feq a5 (D.fc 0)) (D.band (D.feq a6 (D.fc 0)) (D.band (D.feq a7 (D.fc 0)) (D.band (D.feq a8 (D.fc 0)) (D.band (D.feq a9 (D.fc 0)) (D.band (D.feq a10 (D.fc 0)) (D.band (D.feq a11 (D.fc 0)) (D.bc true))))))))))))) (D.bc true) (D.bnot (D.bite (D.bite (D.bite (D.bite (D.bite (S21_0 D a9) (S21_0 D a10) (D.bc false)) (S21_0 D a11) (D.bc false)) (S22_0 D a0 a1 a2) (D.bc false)) (S22_0 D a3 a4 a5) (D.bc false)) (S22_0 D a6 a7 a8) (D.bc false)))) (D.bc true) (D.fle a9 (D.fc 0))) (D.bc true) (D.flt a10 (D.fc 0))) (D.bc true) (D.fle a11 (D.fc 0))) (WS4_0_2 D a0 a1 a2 a3 a4 a5 a6 a7 a8 a9 a10 a11 a12 a13) (WS4_0_12 D a0 a1 a2 a3 a4 a5 a6 a7 a8 a9 a10 a11 a12 a13)))
theorem ev4 (D : Dom) (a0 : D.F) (a1 : D.F) (a2 : D.F) (a3 : D.F) (a4 : D.F) (a5 : D.F) (a6 : D.F) (a7 : D.F) (a8 : D.F) (a9 : D.F) (a10 : D.F) (a11 : D.F) (a12 : D.Z) (a13 : D.Z) : joinT (evFnH Try.prog (tbl_3 D) (lt_1 D) 80 4 [.agg [.fl a0, .fl a1, .fl a2, .fl a3, .fl a4, .fl a5, .fl a6, .fl a7, .fl a8, .fl a9, .fl a10, .fl a11], .si .i64 a12, .si .i64 a13] [] 0) = .val none (.sb (S4_0 D a0 a1 a2 a3 a4 a5 a6 a7 a8 a9 a10 a11 a12 a13)) := by kernel_rfl
def sp4 : Ev.Spec := fun D l => argA l fun c0 r0 => argF c0 fun a0 r1 => argF r1 fun a1 r2 => argF r2 fun a2 r3 => argF r3 fun a3 r4 => argF r4 fun a4 r5 => argF r5 fun a5 r6 => argF r6 fun a6 r7 => argF r7 fun a7 r8 => argF r8 fun a8 r9 => argF r9 fun a9 r10 => argF r10 fun a10 r11 => argF r11 fun a11 r12 => arg0 r12 (argZ .i64 r0 fun a12 r100 => argZ .i64 r100 fun a13 r101 => arg0 r101 (.ret (.sb (S4_0 D a0 a1 a2 a3 a4 a5 a6 a7 a8 a9 a10 a11 a12 a13))))
theorem en4 : ∀ l r, (sp4 R l).run = some r → Entry Try.prog 4 l r := by
  intro l r h
  obtain ⟨_, _, h, L0⟩ := argA_inv h
  obtain ⟨x1, _, h, L1⟩ := argF_inv h
  obtain ⟨x2, _, h, L2⟩ := argF_inv h
  obtain ⟨x3, _, h, L3⟩ := argF_inv h
  obtain ⟨x4, _, h, L4⟩ := argF_inv h
  obtain ⟨x5, _, h, L5⟩ := argF_inv h
  obtain ⟨x6, _, h, L6⟩ := argF_inv h
  obtain ⟨x7, _, h, L7⟩ := argF_inv h
  obtain ⟨x8, _, h, L8⟩ := argF_inv h
  obtain ⟨x9, _, h, L9⟩ := argF_inv h
  obtain ⟨x10, _, h, L10⟩ := argF_inv h
  obtain ⟨x11, _, h, L11⟩ := argF_inv h
  obtain ⟨x12, _, h, L12⟩ := argF_inv h
  obtain ⟨h, L13⟩ := arg0_inv h
  obtain ⟨x14, _, h, L14⟩ := argZ_inv h
  obtain ⟨x15, _, h, L15⟩ := argZ_inv h
  obtain ⟨h, L16⟩ := arg0_inv h
  cases h
  exact (entry_loops prg tok_3 hok_1 (ev4 R x1 x2 x3 x4 x5 x6 x7 x8 x9 x10 x11 x12 x14 x15) (fun o ho => nomatch ho) rfl).le (L0 _ _ (L1 _ (L2 _ (L3 _ (L4 _ (L5 _ (L6 _ (L7 _ (L8 _ (L9 _ (L10 _ (L11 _ (L12 _ L13)))))))))))) (L14 _ (L15 _ L16)))
def tl_4 : List (Nat × Ev.Spec) := (4, sp4) :: tl_3
def tbl_4 (D : Dom) : Tbl D := tblOf tl_4 D
theorem tok_4 : TblOK Try.prog (tbl_4 R) := TblOK.cons tok_3 en4

end Go.Proofs.Ytaidgkokaeojhaa
