/- The functions of this seat, each with what it comes to, by the evaluator. PRINTED BY A PROGRAM OF THIS PROJECT (wip/ev2/Gen.lean). -/
import Derived.Test.YtachcmfgjjoimaaEv4
import Derived.Test.YtachcmfgjjoimaaChecked
namespace Go.Proofs.Ytachcmfgjjoimaa
open Go.Ev
set_option maxRecDepth 100000

theorem prg : Ev.Prog Try.prog := ⟨by kernel_rfl, by kernel_rfl⟩
def sp83 : Ev.Spec := fun D l => argF l fun a r => arg0 r (.ret (.fl (D.fsqrt a)))
theorem en83 : ∀ l r, (sp83 R l).run = some r → Entry Try.prog 83 l r := by
  intro l r h
  obtain ⟨x0, _, h, L0⟩ := argF_inv h
  obtain ⟨h, L1⟩ := arg0_inv h
  cases h
  exact (entry_sqrt (fn := Try.f83) (by kernel_rfl) (by kernel_rfl) (by kernel_rfl) (by kernel_rfl) (by kernel_rfl) x0).le (L0 _ L1)
def tl_0 : List (Nat × Ev.Spec) := ((83, sp83) :: [])
def tbl_0 (D : Dom) : Tbl D := tblOf tl_0 D
theorem tok_0 : TblOK Try.prog (tbl_0 R) := (TblOK.cons (TblOK.nil _) en83)
def js_0 : List (Nat × Nat × HSh) := []
def ll_0 (D : Dom) : List (LE D) := []
def lt_0_0 (D : Dom) : LTb D := ltOf (ll_0 D) js_0
theorem hok_0_0 : HooksOK Try.prog (lt_0_0 R) := HooksOK.nil _

-- penumbra/vec.Number
def S69_0 (D : Dom) (a0 : D.F) : D.B := (D.bite (D.fge a0 (D.fc 18442240474082181119)) (D.fle a0 (D.fc 9218868437227405311)) (D.bc false))
theorem ev69 (D : Dom) (a0 : D.F) : joinT (evFnH Try.prog (tbl_0 D) (lt_0_0 D) 80 69 [.fl a0] [] 0) = .val none (.sb (S69_0 D a0)) := by kernel_rfl
def sp69 : Ev.Spec := fun D l => argF l fun a0 r0 => arg0 r0 (.ret (.sb (S69_0 D a0)))
theorem en69 : ∀ l r, (sp69 R l).run = some r → Entry Try.prog 69 l r := by
  intro l r h
  obtain ⟨x0, _, h, L0⟩ := argF_inv h
  obtain ⟨h, L1⟩ := arg0_inv h
  cases h
  exact (entry_loops prg tok_0 hok_0_0 (ev69 R x0) (fun o ho => nomatch ho) rfl).le (L0 _ L1)
def tl_69 : List (Nat × Ev.Spec) := (69, sp69) :: tl_0
def tbl_69 (D : Dom) : Tbl D := tblOf tl_69 D
theorem tok_69 : TblOK Try.prog (tbl_69 R) := TblOK.cons tok_0 en69

-- penumbra/rgb.Good$1
def S68_0 (D : Dom) (a0 : D.F) : D.B := (D.bite (D.fge a0 (D.fc 0)) (S69_0 D a0) (D.bc false))
theorem ev68 (D : Dom) (a0 : D.F) : joinT (evFnH Try.prog (tbl_69 D) (lt_0_0 D) 80 68 [.fl a0] [] 0) = .val none (.sb (S68_0 D a0)) := by kernel_rfl
def sp68 : Ev.Spec := fun D l => argF l fun a0 r0 => arg0 r0 (.ret (.sb (S68_0 D a0)))
theorem en68 : ∀ l r, (sp68 R l).run = some r → Entry Try.prog 68 l r := by
  intro l r h
  obtain ⟨x0, _, h, L0⟩ := argF_inv h
  obtain ⟨h, L1⟩ := arg0_inv h
  cases h
  exact (entry_loops prg tok_69 hok_0_0 (ev68 R x0) (fun o ho => nomatch ho) rfl).le (L0 _ L1)
def tl_68 : List (Nat × Ev.Spec) := (68, sp68) :: tl_69
def tbl_68 (D : Dom) : Tbl D := tblOf tl_68 D
theorem tok_68 : TblOK Try.prog (tbl_68 R) := TblOK.cons tok_69 en68

-- penumbra/rgb.Good
def S39_0 (D : Dom) (a0 : D.F) (a1 : D.F) (a2 : D.F) : D.B := (D.bite (D.bite (S68_0 D a0) (S68_0 D a1) (D.bc false)) (S68_0 D a2) (D.bc false))
theorem ev39 (D : Dom) (a0 : D.F) (a1 : D.F) (a2 : D.F) : joinT (evFnH Try.prog (tbl_68 D) (lt_0_0 D) 80 39 [.agg [.fl a0, .fl a1, .fl a2]] [] 0) = .val none (.sb (S39_0 D a0 a1 a2)) := by kernel_rfl
def sp39 : Ev.Spec := fun D l => argA l fun c0 r0 => argF c0 fun a0 r1 => argF r1 fun a1 r2 => argF r2 fun a2 r3 => arg0 r3 (arg0 r0 (.ret (.sb (S39_0 D a0 a1 a2))))
theorem en39 : ∀ l r, (sp39 R l).run = some r → Entry Try.prog 39 l r := by
  intro l r h
  obtain ⟨_, _, h, L0⟩ := argA_inv h
  obtain ⟨x1, _, h, L1⟩ := argF_inv h
  obtain ⟨x2, _, h, L2⟩ := argF_inv h
  obtain ⟨x3, _, h, L3⟩ := argF_inv h
  obtain ⟨h, L4⟩ := arg0_inv h
  obtain ⟨h, L5⟩ := arg0_inv h
  cases h
  exact (entry_loops prg tok_68 hok_0_0 (ev39 R x1 x2 x3) (fun o ho => nomatch ho) rfl).le (L0 _ _ (L1 _ (L2 _ (L3 _ L4))) L5)
def tl_39 : List (Nat × Ev.Spec) := (39, sp39) :: tl_68
def tbl_39 (D : Dom) : Tbl D := tblOf tl_39 D
theorem tok_39 : TblOK Try.prog (tbl_39 R) := TblOK.cons tok_68 en39

-- penumbra/vec.Sub$1
def S81_0 (D : Dom) (a0 : D.F) (a1 : D.F) : D.F := (D.fsub a0 a1)
theorem ev81 (D : Dom) (a0 : D.F) (a1 : D.F) : joinT (evFnH Try.prog (tbl_39 D) (lt_0_0 D) 80 81 [.fl a0, .fl a1] [] 0) = .val none (.fl (S81_0 D a0 a1)) := by kernel_rfl
def sp81 : Ev.Spec := fun D l => argF l fun a0 r0 => argF r0 fun a1 r1 => arg0 r1 (.ret (.fl (S81_0 D a0 a1)))
theorem en81 : ∀ l r, (sp81 R l).run = some r → Entry Try.prog 81 l r := by
  intro l r h
  obtain ⟨x0, _, h, L0⟩ := argF_inv h
  obtain ⟨x1, _, h, L1⟩ := argF_inv h
  obtain ⟨h, L2⟩ := arg0_inv h
  cases h
  exact (entry_loops prg tok_39 hok_0_0 (ev81 R x0 x1) (fun o ho => nomatch ho) rfl).le (L0 _ (L1 _ L2))
def tl_81 : List (Nat × Ev.Spec) := (81, sp81) :: tl_39
def tbl_81 (D : Dom) : Tbl D := tblOf tl_81 D
theorem tok_81 : TblOK Try.prog (tbl_81 R) := TblOK.cons tok_39 en81

-- penumbra/vec.Sub
def S60_0 (D : Dom) (a0 : D.F) (a3 : D.F) : D.F := (S81_0 D a0 a3)
def S60_1 (D : Dom) (a1 : D.F) (a4 : D.F) : D.F := (S81_0 D a1 a4)
def S60_2 (D : Dom) (a2 : D.F) (a5 : D.F) : D.F := (S81_0 D a2 a5)
theorem ev60 (D : Dom) (a0 : D.F) (a1 : D.F) (a2 : D.F) (a3 : D.F) (a4 : D.F) (a5 : D.F) : joinT (evFnH Try.prog (tbl_81 D) (lt_0_0 D) 80 60 [.agg [.fl a0, .fl a1, .fl a2], .agg [.fl a3, .fl a4, .fl a5]] [] 0) = .val none (.agg [.fl (S60_0 D a0 a3), .fl (S60_1 D a1 a4), .fl (S60_2 D a2 a5)]) := by kernel_rfl
def sp60 : Ev.Spec := fun D l => argA l fun c0 r0 => argF c0 fun a0 r1 => argF r1 fun a1 r2 => argF r2 fun a2 r3 => arg0 r3 (argA r0 fun c100 r100 => argF c100 fun a3 r101 => argF r101 fun a4 r102 => argF r102 fun a5 r103 => arg0 r103 (arg0 r100 (.ret (.agg [.fl (S60_0 D a0 a3), .fl (S60_1 D a1 a4), .fl (S60_2 D a2 a5)]))))
theorem en60 : ∀ l r, (sp60 R l).run = some r → Entry Try.prog 60 l r := by
  intro l r h
  obtain ⟨_, _, h, L0⟩ := argA_inv h
  obtain ⟨x1, _, h, L1⟩ := argF_inv h
  obtain ⟨x2, _, h, L2⟩ := argF_inv h
  obtain ⟨x3, _, h, L3⟩ := argF_inv h
  obtain ⟨h, L4⟩ := arg0_inv h
  obtain ⟨_, _, h, L5⟩ := argA_inv h
  obtain ⟨x6, _, h, L6⟩ := argF_inv h
  obtain ⟨x7, _, h, L7⟩ := argF_inv h
  obtain ⟨x8, _, h, L8⟩ := argF_inv h
  obtain ⟨h, L9⟩ := arg0_inv h
  obtain ⟨h, L10⟩ := arg0_inv h
  cases h
  exact (entry_loops prg tok_81 hok_0_0 (ev60 R x1 x2 x3 x6 x7 x8) (fun o ho => nomatch ho) rfl).le (L0 _ _ (L1 _ (L2 _ (L3 _ L4))) (L5 _ _ (L6 _ (L7 _ (L8 _ L9))) L10))
def tl_60 : List (Nat × Ev.Spec) := (60, sp60) :: tl_81
def tbl_60 (D : Dom) : Tbl D := tblOf tl_60 D
theorem tok_60 : TblOK Try.prog (tbl_60 R) := TblOK.cons tok_81 en60

-- penumbra/tri.Edges
def S88_0 (D : Dom) (a0 : D.F) (a3 : D.F) : D.F := (S60_0 D a3 a0)
def S88_1 (D : Dom) (a1 : D.F) (a4 : D.F) : D.F := (S60_1 D a4 a1)
def S88_2 (D : Dom) (a2 : D.F) (a5 : D.F) : D.F := (S60_2 D a5 a2)
def S88_3 (D : Dom) (a0 : D.F) (a6 : D.F) : D.F := (S60_0 D a6 a0)
def S88_4 (D : Dom) (a1 : D.F) (a7 : D.F) : D.F := (S60_1 D a7 a1)
def S88_5 (D : Dom) (a2 : D.F) (a8 : D.F) : D.F := (S60_2 D a8 a2)
theorem ev88 (D : Dom) (a0 : D.F) (a1 : D.F) (a2 : D.F) (a3 : D.F) (a4 : D.F) (a5 : D.F) (a6 : D.F) (a7 : D.F) (a8 : D.F) : joinT (evFnH Try.prog (tbl_60 D) (lt_0_0 D) 80 88 [.agg [.fl a0, .fl a1, .fl a2, .fl a3, .fl a4, .fl a5, .fl a6, .fl a7, .fl a8]] [] 0) = .val none (.tup [.agg [.fl (S88_0 D a0 a3), .fl (S88_1 D a1 a4), .fl (S88_2 D a2 a5)], .agg [.fl (S88_3 D a0 a6), .fl (S88_4 D a1 a7), .fl (S88_5 D a2 a8)]]) := by kernel_rfl
def sp88 : Ev.Spec := fun D l => argA l fun c0 r0 => argF c0 fun a0 r1 => argF r1 fun a1 r2 => argF r2 fun a2 r3 => argF r3 fun a3 r4 => argF r4 fun a4 r5 => argF r5 fun a5 r6 => argF r6 fun a6 r7 => argF r7 fun a7 r8 => argF r8 fun a8 r9 => arg0 r9 (arg0 r0 (.ret (.tup [.agg [.fl (S88_0 D a0 a3), .fl (S88_1 D a1 a4), .fl (S88_2 D a2 a5)], .agg [.fl (S88_3 D a0 a6), .fl (S88_4 D a1 a7), .fl (S88_5 D a2 a8)]])))
theorem en88 : ∀ l r, (sp88 R l).run = some r → Entry Try.prog 88 l r := by
  intro l r h
  obtain ⟨_, _, h, L0⟩ := argA_inv h
  obtain ⟨x1, _, h, L1⟩ := argF_inv h
  obtain ⟨x2, _, h, L2⟩ := argF_inv h
  obtain ⟨x3, _, h, L3⟩ := argF_inv h
  obtain ⟨x4, _, h, L4⟩ := argF_inv h
  obtain ⟨x5, _, h, L5⟩ := argF_inv h
  obtain ⟨x6, _, h, L6⟩ := argF_inv h
  obtain ⟨x7, _, h, L7⟩ := argF_inv h
  obtain ⟨x8, _, h, L8⟩ := argF_inv h
  obtain ⟨x9, _, h, L9⟩ := argF_inv h
  obtain ⟨h, L10⟩ := arg0_inv h
  obtain ⟨h, L11⟩ := arg0_inv h
  cases h
  exact (entry_loops prg tok_60 hok_0_0 (ev88 R x1 x2 x3 x4 x5 x6 x7 x8 x9) (fun o ho => nomatch ho) rfl).le (L0 _ _ (L1 _ (L2 _ (L3 _ (L4 _ (L5 _ (L6 _ (L7 _ (L8 _ (L9 _ L10))))))))) L11)
def tl_88 : List (Nat × Ev.Spec) := (88, sp88) :: tl_60
def tbl_88 (D : Dom) : Tbl D := tblOf tl_88 D
theorem tok_88 : TblOK Try.prog (tbl_88 R) := TblOK.cons tok_60 en88

-- penumbra/vec.Mul$1
def S90_0 (D : Dom) (a0 : D.F) (a1 : D.F) : D.F := (D.fmul a0 a1)
theorem ev90 (D : Dom) (a0 : D.F) (a1 : D.F) : joinT (evFnH Try.prog (tbl_88 D) (lt_0_0 D) 80 90 [.fl a0, .fl a1] [] 0) = .val none (.fl (S90_0 D a0 a1)) := by kernel_rfl
def sp90 : Ev.Spec := fun D l => argF l fun a0 r0 => argF r0 fun a1 r1 => arg0 r1 (.ret (.fl (S90_0 D a0 a1)))
theorem en90 : ∀ l r, (sp90 R l).run = some r → Entry Try.prog 90 l r := by
  intro l r h
  obtain ⟨x0, _, h, L0⟩ := argF_inv h
  obtain ⟨x1, _, h, L1⟩ := argF_inv h
  obtain ⟨h, L2⟩ := arg0_inv h
  cases h
  exact (entry_loops prg tok_88 hok_0_0 (ev90 R x0 x1) (fun o ho => nomatch ho) rfl).le (L0 _ (L1 _ L2))
def tl_90 : List (Nat × Ev.Spec) := (90, sp90) :: tl_88
def tbl_90 (D : Dom) : Tbl D := tblOf tl_90 D
theorem tok_90 : TblOK Try.prog (tbl_90 R) := TblOK.cons tok_88 en90

-- penumbra/vec.Mul
def S79_0 (D : Dom) (a0 : D.F) (a3 : D.F) : D.F := (S90_0 D a0 a3)
def S79_1 (D : Dom) (a1 : D.F) (a4 : D.F) : D.F := (S90_0 D a1 a4)
def S79_2 (D : Dom) (a2 : D.F) (a5 : D.F) : D.F := (S90_0 D a2 a5)
theorem ev79 (D : Dom) (a0 : D.F) (a1 : D.F) (a2 : D.F) (a3 : D.F) (a4 : D.F) (a5 : D.F) : joinT (evFnH Try.prog (tbl_90 D) (lt_0_0 D) 80 79 [.agg [.fl a0, .fl a1, .fl a2], .agg [.fl a3, .fl a4, .fl a5]] [] 0) = .val none (.agg [.fl (S79_0 D a0 a3), .fl (S79_1 D a1 a4), .fl (S79_2 D a2 a5)]) := by kernel_rfl
def sp79 : Ev.Spec := fun D l => argA l fun c0 r0 => argF c0 fun a0 r1 => argF r1 fun a1 r2 => argF r2 fun a2 r3 => arg0 r3 (argA r0 fun c100 r100 => argF c100 fun a3 r101 => argF r101 fun a4 r102 => argF r102 fun a5 r103 => arg0 r103 (arg0 r100 (.ret (.agg [.fl (S79_0 D a0 a3), .fl (S79_1 D a1 a4), .fl (S79_2 D a2 a5)]))))
theorem en79 : ∀ l r, (sp79 R l).run = some r → Entry Try.prog 79 l r := by
  intro l r h
  obtain ⟨_, _, h, L0⟩ := argA_inv h
  obtain ⟨x1, _, h, L1⟩ := argF_inv h
  obtain ⟨x2, _, h, L2⟩ := argF_inv h
  obtain ⟨x3, _, h, L3⟩ := argF_inv h
  obtain ⟨h, L4⟩ := arg0_inv h
  obtain ⟨_, _, h, L5⟩ := argA_inv h
  obtain ⟨x6, _, h, L6⟩ := argF_inv h
  obtain ⟨x7, _, h, L7⟩ := argF_inv h
  obtain ⟨x8, _, h, L8⟩ := argF_inv h
  obtain ⟨h, L9⟩ := arg0_inv h
  obtain ⟨h, L10⟩ := arg0_inv h
  cases h
  exact (entry_loops prg tok_90 hok_0_0 (ev79 R x1 x2 x3 x6 x7 x8) (fun o ho => nomatch ho) rfl).le (L0 _ _ (L1 _ (L2 _ (L3 _ L4))) (L5 _ _ (L6 _ (L7 _ (L8 _ L9))) L10))
def tl_79 : List (Nat × Ev.Spec) := (79, sp79) :: tl_90
def tbl_79 (D : Dom) : Tbl D := tblOf tl_79 D
theorem tok_79 : TblOK Try.prog (tbl_79 R) := TblOK.cons tok_90 en79

-- penumbra/vec.Cross
def S89_0 (D : Dom) (a1 : D.F) (a2 : D.F) (a4 : D.F) (a5 : D.F) : D.F := (S60_0 D (S79_0 D a1 a5) (S79_0 D a2 a4))
def S89_1 (D : Dom) (a0 : D.F) (a2 : D.F) (a3 : D.F) (a5 : D.F) : D.F := (S60_1 D (S79_1 D a2 a3) (S79_1 D a0 a5))
def S89_2 (D : Dom) (a0 : D.F) (a1 : D.F) (a3 : D.F) (a4 : D.F) : D.F := (S60_2 D (S79_2 D a0 a4) (S79_2 D a1 a3))
theorem ev89 (D : Dom) (a0 : D.F) (a1 : D.F) (a2 : D.F) (a3 : D.F) (a4 : D.F) (a5 : D.F) : joinT (evFnH Try.prog (tbl_79 D) (lt_0_0 D) 80 89 [.agg [.fl a0, .fl a1, .fl a2], .agg [.fl a3, .fl a4, .fl a5]] [] 0) = .val none (.agg [.fl (S89_0 D a1 a2 a4 a5), .fl (S89_1 D a0 a2 a3 a5), .fl (S89_2 D a0 a1 a3 a4)]) := by kernel_rfl
def sp89 : Ev.Spec := fun D l => argA l fun c0 r0 => argF c0 fun a0 r1 => argF r1 fun a1 r2 => argF r2 fun a2 r3 => arg0 r3 (argA r0 fun c100 r100 => argF c100 fun a3 r101 => argF r101 fun a4 r102 => argF r102 fun a5 r103 => arg0 r103 (arg0 r100 (.ret (.agg [.fl (S89_0 D a1 a2 a4 a5), .fl (S89_1 D a0 a2 a3 a5), .fl (S89_2 D a0 a1 a3 a4)]))))
theorem en89 : ∀ l r, (sp89 R l).run = some r → Entry Try.prog 89 l r := by
  intro l r h
  obtain ⟨_, _, h, L0⟩ := argA_inv h
  obtain ⟨x1, _, h, L1⟩ := argF_inv h
  obtain ⟨x2, _, h, L2⟩ := argF_inv h
  obtain ⟨x3, _, h, L3⟩ := argF_inv h
  obtain ⟨h, L4⟩ := arg0_inv h
  obtain ⟨_, _, h, L5⟩ := argA_inv h
  obtain ⟨x6, _, h, L6⟩ := argF_inv h
  obtain ⟨x7, _, h, L7⟩ := argF_inv h
  obtain ⟨x8, _, h, L8⟩ := argF_inv h
  obtain ⟨h, L9⟩ := arg0_inv h
  obtain ⟨h, L10⟩ := arg0_inv h
  cases h
  exact (entry_loops prg tok_79 hok_0_0 (ev89 R x1 x2 x3 x6 x7 x8) (fun o ho => nomatch ho) rfl).le (L0 _ _ (L1 _ (L2 _ (L3 _ L4))) (L5 _ _ (L6 _ (L7 _ (L8 _ L9))) L10))
def tl_89 : List (Nat × Ev.Spec) := (89, sp89) :: tl_79
def tbl_89 (D : Dom) : Tbl D := tblOf tl_89 D
theorem tok_89 : TblOK Try.prog (tbl_89 R) := TblOK.cons tok_79 en89

-- penumbra/tri.cross
def S78_0 (D : Dom) (a1 : D.F) (a2 : D.F) (a4 : D.F) (a5 : D.F) (a7 : D.F) (a8 : D.F) : D.F := (S89_0 D (S88_1 D a1 a4) (S88_2 D a2 a5) (S88_4 D a1 a7) (S88_5 D a2 a8))
def S78_1 (D : Dom) (a0 : D.F) (a2 : D.F) (a3 : D.F) (a5 : D.F) (a6 : D.F) (a8 : D.F) : D.F := (S89_1 D (S88_0 D a0 a3) (S88_2 D a2 a5) (S88_3 D a0 a6) (S88_5 D a2 a8))
def S78_2 (D : Dom) (a0 : D.F) (a1 : D.F) (a3 : D.F) (a4 : D.F) (a6 : D.F) (a7 : D.F) : D.F := (S89_2 D (S88_0 D a0 a3) (S88_1 D a1 a4) (S88_3 D a0 a6) (S88_4 D a1 a7))
theorem ev78 (D : Dom) (a0 : D.F) (a1 : D.F) (a2 : D.F) (a3 : D.F) (a4 : D.F) (a5 : D.F) (a6 : D.F) (a7 : D.F) (a8 : D.F) : joinT (evFnH Try.prog (tbl_89 D) (lt_0_0 D) 80 78 [.agg [.fl a0, .fl a1, .fl a2, .fl a3, .fl a4, .fl a5, .fl a6, .fl a7, .fl a8]] [] 0) = .val none (.agg [.fl (S78_0 D a1 a2 a4 a5 a7 a8), .fl (S78_1 D a0 a2 a3 a5 a6 a8), .fl (S78_2 D a0 a1 a3 a4 a6 a7)]) := by kernel_rfl
def sp78 : Ev.Spec := fun D l => argA l fun c0 r0 => argF c0 fun a0 r1 => argF r1 fun a1 r2 => argF r2 fun a2 r3 => argF r3 fun a3 r4 => argF r4 fun a4 r5 => argF r5 fun a5 r6 => argF r6 fun a6 r7 => argF r7 fun a7 r8 => argF r8 fun a8 r9 => arg0 r9 (arg0 r0 (.ret (.agg [.fl (S78_0 D a1 a2 a4 a5 a7 a8), .fl (S78_1 D a0 a2 a3 a5 a6 a8), .fl (S78_2 D a0 a1 a3 a4 a6 a7)])))
theorem en78 : ∀ l r, (sp78 R l).run = some r → Entry Try.prog 78 l r := by
  intro l r h
  obtain ⟨_, _, h, L0⟩ := argA_inv h
  obtain ⟨x1, _, h, L1⟩ := argF_inv h
  obtain ⟨x2, _, h, L2⟩ := argF_inv h
  obtain ⟨x3, _, h, L3⟩ := argF_inv h
  obtain ⟨x4, _, h, L4⟩ := argF_inv h
  obtain ⟨x5, _, h, L5⟩ := argF_inv h
  obtain ⟨x6, _, h, L6⟩ := argF_inv h
  obtain ⟨x7, _, h, L7⟩ := argF_inv h
  obtain ⟨x8, _, h, L8⟩ := argF_inv h
  obtain ⟨x9, _, h, L9⟩ := argF_inv h
  obtain ⟨h, L10⟩ := arg0_inv h
  obtain ⟨h, L11⟩ := arg0_inv h
  cases h
  exact (entry_loops prg tok_89 hok_0_0 (ev78 R x1 x2 x3 x4 x5 x6 x7 x8 x9) (fun o ho => nomatch ho) rfl).le (L0 _ _ (L1 _ (L2 _ (L3 _ (L4 _ (L5 _ (L6 _ (L7 _ (L8 _ (L9 _ L10))))))))) L11)
def tl_78 : List (Nat × Ev.Spec) := (78, sp78) :: tl_89
def tbl_78 (D : Dom) : Tbl D := tblOf tl_78 D
theorem tok_78 : TblOK Try.prog (tbl_78 R) := TblOK.cons tok_89 en78

-- penumbra/vec.Dot
def S59_0 (D : Dom) (a0 : D.F) (a1 : D.F) (a2 : D.F) (a3 : D.F) (a4 : D.F) (a5 : D.F) : D.F := (D.fadd (D.fadd (S79_0 D a0 a3) (S79_1 D a1 a4)) (S79_2 D a2 a5))
theorem ev59 (D : Dom) (a0 : D.F) (a1 : D.F) (a2 : D.F) (a3 : D.F) (a4 : D.F) (a5 : D.F) : joinT (evFnH Try.prog (tbl_78 D) (lt_0_0 D) 80 59 [.agg [.fl a0, .fl a1, .fl a2], .agg [.fl a3, .fl a4, .fl a5]] [] 0) = .val none (.fl (S59_0 D a0 a1 a2 a3 a4 a5)) := by kernel_rfl
def sp59 : Ev.Spec := fun D l => argA l fun c0 r0 => argF c0 fun a0 r1 => argF r1 fun a1 r2 => argF r2 fun a2 r3 => arg0 r3 (argA r0 fun c100 r100 => argF c100 fun a3 r101 => argF r101 fun a4 r102 => argF r102 fun a5 r103 => arg0 r103 (arg0 r100 (.ret (.fl (S59_0 D a0 a1 a2 a3 a4 a5)))))
theorem en59 : ∀ l r, (sp59 R l).run = some r → Entry Try.prog 59 l r := by
  intro l r h
  obtain ⟨_, _, h, L0⟩ := argA_inv h
  obtain ⟨x1, _, h, L1⟩ := argF_inv h
  obtain ⟨x2, _, h, L2⟩ := argF_inv h
  obtain ⟨x3, _, h, L3⟩ := argF_inv h
  obtain ⟨h, L4⟩ := arg0_inv h
  obtain ⟨_, _, h, L5⟩ := argA_inv h
  obtain ⟨x6, _, h, L6⟩ := argF_inv h
  obtain ⟨x7, _, h, L7⟩ := argF_inv h
  obtain ⟨x8, _, h, L8⟩ := argF_inv h
  obtain ⟨h, L9⟩ := arg0_inv h
  obtain ⟨h, L10⟩ := arg0_inv h
  cases h
  exact (entry_loops prg tok_78 hok_0_0 (ev59 R x1 x2 x3 x6 x7 x8) (fun o ho => nomatch ho) rfl).le (L0 _ _ (L1 _ (L2 _ (L3 _ L4))) (L5 _ _ (L6 _ (L7 _ (L8 _ L9))) L10))
def tl_59 : List (Nat × Ev.Spec) := (59, sp59) :: tl_78
def tbl_59 (D : Dom) : Tbl D := tblOf tl_59 D
theorem tok_59 : TblOK Try.prog (tbl_59 R) := TblOK.cons tok_78 en59

-- penumbra/vec.Len2
def S82_0 (D : Dom) (a0 : D.F) (a1 : D.F) (a2 : D.F) : D.F := (S59_0 D a0 a1 a2 a0 a1 a2)
theorem ev82 (D : Dom) (a0 : D.F) (a1 : D.F) (a2 : D.F) : joinT (evFnH Try.prog (tbl_59 D) (lt_0_0 D) 80 82 [.agg [.fl a0, .fl a1, .fl a2]] [] 0) = .val none (.fl (S82_0 D a0 a1 a2)) := by kernel_rfl
def sp82 : Ev.Spec := fun D l => argA l fun c0 r0 => argF c0 fun a0 r1 => argF r1 fun a1 r2 => argF r2 fun a2 r3 => arg0 r3 (arg0 r0 (.ret (.fl (S82_0 D a0 a1 a2))))
theorem en82 : ∀ l r, (sp82 R l).run = some r → Entry Try.prog 82 l r := by
  intro l r h
  obtain ⟨_, _, h, L0⟩ := argA_inv h
  obtain ⟨x1, _, h, L1⟩ := argF_inv h
  obtain ⟨x2, _, h, L2⟩ := argF_inv h
  obtain ⟨x3, _, h, L3⟩ := argF_inv h
  obtain ⟨h, L4⟩ := arg0_inv h
  obtain ⟨h, L5⟩ := arg0_inv h
  cases h
  exact (entry_loops prg tok_59 hok_0_0 (ev82 R x1 x2 x3) (fun o ho => nomatch ho) rfl).le (L0 _ _ (L1 _ (L2 _ (L3 _ L4))) L5)
def tl_82 : List (Nat × Ev.Spec) := (82, sp82) :: tl_59
def tbl_82 (D : Dom) : Tbl D := tblOf tl_82 D
theorem tok_82 : TblOK Try.prog (tbl_82 R) := TblOK.cons tok_59 en82

-- math.Sqrt
def S66_0 (D : Dom) (a0 : D.F) : D.F := (D.fsqrt a0)
theorem ev66 (D : Dom) (a0 : D.F) : joinT (evFnH Try.prog (tbl_82 D) (lt_0_0 D) 80 66 [.fl a0] [] 0) = .val none (.fl (S66_0 D a0)) := by kernel_rfl
def sp66 : Ev.Spec := fun D l => argF l fun a0 r0 => arg0 r0 (.ret (.fl (S66_0 D a0)))
theorem en66 : ∀ l r, (sp66 R l).run = some r → Entry Try.prog 66 l r := by
  intro l r h
  obtain ⟨x0, _, h, L0⟩ := argF_inv h
  obtain ⟨h, L1⟩ := arg0_inv h
  cases h
  exact (entry_loops prg tok_82 hok_0_0 (ev66 R x0) (fun o ho => nomatch ho) rfl).le (L0 _ L1)
def tl_66 : List (Nat × Ev.Spec) := (66, sp66) :: tl_82
def tbl_66 (D : Dom) : Tbl D := tblOf tl_66 D
theorem tok_66 : TblOK Try.prog (tbl_66 R) := TblOK.cons tok_82 en66

-- penumbra/vec.Len
def S87_0 (D : Dom) (a0 : D.F) (a1 : D.F) (a2 : D.F) : D.F := (S66_0 D (S82_0 D a0 a1 a2))
theorem ev87 (D : Dom) (a0 : D.F) (a1 : D.F) (a2 : D.F) : joinT (evFnH Try.prog (tbl_66 D) (lt_0_0 D) 80 87 [.agg [.fl a0, .fl a1, .fl a2]] [] 0) = .val none (.fl (S87_0 D a0 a1 a2)) := by kernel_rfl
def sp87 : Ev.Spec := fun D l => argA l fun c0 r0 => argF c0 fun a0 r1 => argF r1 fun a1 r2 => argF r2 fun a2 r3 => arg0 r3 (arg0 r0 (.ret (.fl (S87_0 D a0 a1 a2))))
theorem en87 : ∀ l r, (sp87 R l).run = some r → Entry Try.prog 87 l r := by
  intro l r h
  obtain ⟨_, _, h, L0⟩ := argA_inv h
  obtain ⟨x1, _, h, L1⟩ := argF_inv h
  obtain ⟨x2, _, h, L2⟩ := argF_inv h
  obtain ⟨x3, _, h, L3⟩ := argF_inv h
  obtain ⟨h, L4⟩ := arg0_inv h
  obtain ⟨h, L5⟩ := arg0_inv h
  cases h
  exact (entry_loops prg tok_66 hok_0_0 (ev87 R x1 x2 x3) (fun o ho => nomatch ho) rfl).le (L0 _ _ (L1 _ (L2 _ (L3 _ L4))) L5)
def tl_87 : List (Nat × Ev.Spec) := (87, sp87) :: tl_66
def tbl_87 (D : Dom) : Tbl D := tblOf tl_87 D
theorem tok_87 : TblOK Try.prog (tbl_87 R) := TblOK.cons tok_66 en87

-- penumbra/tri.Area
def S71_0 (D : Dom) (a0 : D.F) (a1 : D.F) (a2 : D.F) (a3 : D.F) (a4 : D.F) (a5 : D.F) (a6 : D.F) (a7 : D.F) (a8 : D.F) : D.F := (D.fmul (S87_0 D (S78_0 D a1 a2 a4 a5 a7 a8) (S78_1 D a0 a2 a3 a5 a6 a8) (S78_2 D a0 a1 a3 a4 a6 a7)) (D.fc 4602678819172646912))
theorem ev71 (D : Dom) (a0 : D.F) (a1 : D.F) (a2 : D.F) (a3 : D.F) (a4 : D.F) (a5 : D.F) (a6 : D.F) (a7 : D.F) (a8 : D.F) : joinT (evFnH Try.prog (tbl_87 D) (lt_0_0 D) 80 71 [.agg [.fl a0, .fl a1, .fl a2, .fl a3, .fl a4, .fl a5, .fl a6, .fl a7, .fl a8]] [] 0) = .val none (.fl (S71_0 D a0 a1 a2 a3 a4 a5 a6 a7 a8)) := by kernel_rfl
def sp71 : Ev.Spec := fun D l => argA l fun c0 r0 => argF c0 fun a0 r1 => argF r1 fun a1 r2 => argF r2 fun a2 r3 => argF r3 fun a3 r4 => argF r4 fun a4 r5 => argF r5 fun a5 r6 => argF r6 fun a6 r7 => argF r7 fun a7 r8 => argF r8 fun a8 r9 => arg0 r9 (arg0 r0 (.ret (.fl (S71_0 D a0 a1 a2 a3 a4 a5 a6 a7 a8))))
theorem en71 : ∀ l r, (sp71 R l).run = some r → Entry Try.prog 71 l r := by
  intro l r h
  obtain ⟨_, _, h, L0⟩ := argA_inv h
  obtain ⟨x1, _, h, L1⟩ := argF_inv h
  obtain ⟨x2, _, h, L2⟩ := argF_inv h
  obtain ⟨x3, _, h, L3⟩ := argF_inv h
  obtain ⟨x4, _, h, L4⟩ := argF_inv h
  obtain ⟨x5, _, h, L5⟩ := argF_inv h
  obtain ⟨x6, _, h, L6⟩ := argF_inv h
  obtain ⟨x7, _, h, L7⟩ := argF_inv h
  obtain ⟨x8, _, h, L8⟩ := argF_inv h
  obtain ⟨x9, _, h, L9⟩ := argF_inv h
  obtain ⟨h, L10⟩ := arg0_inv h
  obtain ⟨h, L11⟩ := arg0_inv h
  cases h
  exact (entry_loops prg tok_87 hok_0_0 (ev71 R x1 x2 x3 x4 x5 x6 x7 x8 x9) (fun o ho => nomatch ho) rfl).le (L0 _ _ (L1 _ (L2 _ (L3 _ (L4 _ (L5 _ (L6 _ (L7 _ (L8 _ (L9 _ L10))))))))) L11)
def tl_71 : List (Nat × Ev.Spec) := (71, sp71) :: tl_87
def tbl_71 (D : Dom) : Tbl D := tblOf tl_71 D
theorem tok_71 : TblOK Try.prog (tbl_71 R) := TblOK.cons tok_87 en71

-- penumbra/rgb.Gray
def S86_0 (D : Dom) (a0 : D.F) : D.F := a0
def S86_1 (D : Dom) (a0 : D.F) : D.F := a0
def S86_2 (D : Dom) (a0 : D.F) : D.F := a0
theorem ev86 (D : Dom) (a0 : D.F) : joinT (evFnH Try.prog (tbl_71 D) (lt_0_0 D) 80 86 [.fl a0] [] 0) = .val none (.agg [.fl (S86_0 D a0), .fl (S86_1 D a0), .fl (S86_2 D a0)]) := by kernel_rfl
def sp86 : Ev.Spec := fun D l => argF l fun a0 r0 => arg0 r0 (.ret (.agg [.fl (S86_0 D a0), .fl (S86_1 D a0), .fl (S86_2 D a0)]))
theorem en86 : ∀ l r, (sp86 R l).run = some r → Entry Try.prog 86 l r := by
  intro l r h
  obtain ⟨x0, _, h, L0⟩ := argF_inv h
  obtain ⟨h, L1⟩ := arg0_inv h
  cases h
  exact (entry_loops prg tok_71 hok_0_0 (ev86 R x0) (fun o ho => nomatch ho) rfl).le (L0 _ L1)
def tl_86 : List (Nat × Ev.Spec) := (86, sp86) :: tl_71
def tbl_86 (D : Dom) : Tbl D := tblOf tl_86 D
theorem tok_86 : TblOK Try.prog (tbl_86 R) := TblOK.cons tok_71 en86

-- penumbra/rgb.Mul$1
def S92_0 (D : Dom) (a0 : D.F) (a1 : D.F) : D.F := (D.fmul a0 a1)
theorem ev92 (D : Dom) (a0 : D.F) (a1 : D.F) : joinT (evFnH Try.prog (tbl_86 D) (lt_0_0 D) 80 92 [.fl a0, .fl a1] [] 0) = .val none (.fl (S92_0 D a0 a1)) := by kernel_rfl
def sp92 : Ev.Spec := fun D l => argF l fun a0 r0 => argF r0 fun a1 r1 => arg0 r1 (.ret (.fl (S92_0 D a0 a1)))
theorem en92 : ∀ l r, (sp92 R l).run = some r → Entry Try.prog 92 l r := by
  intro l r h
  obtain ⟨x0, _, h, L0⟩ := argF_inv h
  obtain ⟨x1, _, h, L1⟩ := argF_inv h
  obtain ⟨h, L2⟩ := arg0_inv h
  cases h
  exact (entry_loops prg tok_86 hok_0_0 (ev92 R x0 x1) (fun o ho => nomatch ho) rfl).le (L0 _ (L1 _ L2))
def tl_92 : List (Nat × Ev.Spec) := (92, sp92) :: tl_86
def tbl_92 (D : Dom) : Tbl D := tblOf tl_92 D
theorem tok_92 : TblOK Try.prog (tbl_92 R) := TblOK.cons tok_86 en92

-- penumbra/rgb.Mul
def S85_0 (D : Dom) (a0 : D.F) (a3 : D.F) : D.F := (S92_0 D a0 a3)
def S85_1 (D : Dom) (a1 : D.F) (a4 : D.F) : D.F := (S92_0 D a1 a4)
def S85_2 (D : Dom) (a2 : D.F) (a5 : D.F) : D.F := (S92_0 D a2 a5)
theorem ev85 (D : Dom) (a0 : D.F) (a1 : D.F) (a2 : D.F) (a3 : D.F) (a4 : D.F) (a5 : D.F) : joinT (evFnH Try.prog (tbl_92 D) (lt_0_0 D) 80 85 [.agg [.fl a0, .fl a1, .fl a2], .agg [.fl a3, .fl a4, .fl a5]] [] 0) = .val none (.agg [.fl (S85_0 D a0 a3), .fl (S85_1 D a1 a4), .fl (S85_2 D a2 a5)]) := by kernel_rfl
def sp85 : Ev.Spec := fun D l => argA l fun c0 r0 => argF c0 fun a0 r1 => argF r1 fun a1 r2 => argF r2 fun a2 r3 => arg0 r3 (argA r0 fun c100 r100 => argF c100 fun a3 r101 => argF r101 fun a4 r102 => argF r102 fun a5 r103 => arg0 r103 (arg0 r100 (.ret (.agg [.fl (S85_0 D a0 a3), .fl (S85_1 D a1 a4), .fl (S85_2 D a2 a5)]))))
theorem en85 : ∀ l r, (sp85 R l).run = some r → Entry Try.prog 85 l r := by
  intro l r h
  obtain ⟨_, _, h, L0⟩ := argA_inv h
  obtain ⟨x1, _, h, L1⟩ := argF_inv h
  obtain ⟨x2, _, h, L2⟩ := argF_inv h
  obtain ⟨x3, _, h, L3⟩ := argF_inv h
  obtain ⟨h, L4⟩ := arg0_inv h
  obtain ⟨_, _, h, L5⟩ := argA_inv h
  obtain ⟨x6, _, h, L6⟩ := argF_inv h
  obtain ⟨x7, _, h, L7⟩ := argF_inv h
  obtain ⟨x8, _, h, L8⟩ := argF_inv h
  obtain ⟨h, L9⟩ := arg0_inv h
  obtain ⟨h, L10⟩ := arg0_inv h
  cases h
  exact (entry_loops prg tok_92 hok_0_0 (ev85 R x1 x2 x3 x6 x7 x8) (fun o ho => nomatch ho) rfl).le (L0 _ _ (L1 _ (L2 _ (L3 _ L4))) (L5 _ _ (L6 _ (L7 _ (L8 _ L9))) L10))
def tl_85 : List (Nat × Ev.Spec) := (85, sp85) :: tl_92
def tbl_85 (D : Dom) : Tbl D := tblOf tl_85 D
theorem tok_85 : TblOK Try.prog (tbl_85 R) := TblOK.cons tok_92 en85

-- penumbra/rgb.Scale
def S70_0 (D : Dom) (a0 : D.F) (a3 : D.F) : D.F := (S85_0 D a0 (S86_0 D a3))
def S70_1 (D : Dom) (a1 : D.F) (a3 : D.F) : D.F := (S85_1 D a1 (S86_1 D a3))
def S70_2 (D : Dom) (a2 : D.F) (a3 : D.F) : D.F := (S85_2 D a2 (S86_2 D a3))
theorem ev70 (D : Dom) (a0 : D.F) (a1 : D.F) (a2 : D.F) (a3 : D.F) : joinT (evFnH Try.prog (tbl_85 D) (lt_0_0 D) 80 70 [.agg [.fl a0, .fl a1, .fl a2], .fl a3] [] 0) = .val none (.agg [.fl (S70_0 D a0 a3), .fl (S70_1 D a1 a3), .fl (S70_2 D a2 a3)]) := by kernel_rfl
def sp70 : Ev.Spec := fun D l => argA l fun c0 r0 => argF c0 fun a0 r1 => argF r1 fun a1 r2 => argF r2 fun a2 r3 => arg0 r3 (argF r0 fun a3 r100 => arg0 r100 (.ret (.agg [.fl (S70_0 D a0 a3), .fl (S70_1 D a1 a3), .fl (S70_2 D a2 a3)])))
theorem en70 : ∀ l r, (sp70 R l).run = some r → Entry Try.prog 70 l r := by
  intro l r h
  obtain ⟨_, _, h, L0⟩ := argA_inv h
  obtain ⟨x1, _, h, L1⟩ := argF_inv h
  obtain ⟨x2, _, h, L2⟩ := argF_inv h
  obtain ⟨x3, _, h, L3⟩ := argF_inv h
  obtain ⟨h, L4⟩ := arg0_inv h
  obtain ⟨x5, _, h, L5⟩ := argF_inv h
  obtain ⟨h, L6⟩ := arg0_inv h
  cases h
  exact (entry_loops prg tok_85 hok_0_0 (ev70 R x1 x2 x3 x5) (fun o ho => nomatch ho) rfl).le (L0 _ _ (L1 _ (L2 _ (L3 _ L4))) (L5 _ L6))
def tl_70 : List (Nat × Ev.Spec) := (70, sp70) :: tl_85
def tbl_70 (D : Dom) : Tbl D := tblOf tl_70 D
theorem tok_70 : TblOK Try.prog (tbl_70 R) := TblOK.cons tok_85 en70

-- penumbra/rgb.Black
def S74_0 (D : Dom) (a0 : D.F) (a1 : D.F) (a2 : D.F) : D.B := (D.band (D.feq a0 (D.fc 0)) (D.band (D.feq a1 (D.fc 0)) (D.band (D.feq a2 (D.fc 0)) (D.bc true))))
theorem ev74 (D : Dom) (a0 : D.F) (a1 : D.F) (a2 : D.F) : joinT (evFnH Try.prog (tbl_70 D) (lt_0_0 D) 80 74 [.agg [.fl a0, .fl a1, .fl a2]] [] 0) = .val none (.sb (S74_0 D a0 a1 a2)) := by kernel_rfl
def sp74 : Ev.Spec := fun D l => argA l fun c0 r0 => argF c0 fun a0 r1 => argF r1 fun a1 r2 => argF r2 fun a2 r3 => arg0 r3 (arg0 r0 (.ret (.sb (S74_0 D a0 a1 a2))))
theorem en74 : ∀ l r, (sp74 R l).run = some r → Entry Try.prog 74 l r := by
  intro l r h
  obtain ⟨_, _, h, L0⟩ := argA_inv h
  obtain ⟨x1, _, h, L1⟩ := argF_inv h
  obtain ⟨x2, _, h, L2⟩ := argF_inv h
  obtain ⟨x3, _, h, L3⟩ := argF_inv h
  obtain ⟨h, L4⟩ := arg0_inv h
  obtain ⟨h, L5⟩ := arg0_inv h
  cases h
  exact (entry_loops prg tok_70 hok_0_0 (ev74 R x1 x2 x3) (fun o ho => nomatch ho) rfl).le (L0 _ _ (L1 _ (L2 _ (L3 _ L4))) L5)
def tl_74 : List (Nat × Ev.Spec) := (74, sp74) :: tl_70
def tbl_74 (D : Dom) : Tbl D := tblOf tl_74 D
theorem tok_74 : TblOK Try.prog (tbl_74 R) := TblOK.cons tok_70 en74

-- penumbra/rgb.Mean
def S75_0 (D : Dom) (a0 : D.F) (a1 : D.F) (a2 : D.F) : D.F := (D.fdiv (D.fadd (D.fadd a0 a1) a2) (D.fc 4613937818241073152))
theorem ev75 (D : Dom) (a0 : D.F) (a1 : D.F) (a2 : D.F) : joinT (evFnH Try.prog (tbl_74 D) (lt_0_0 D) 80 75 [.agg [.fl a0, .fl a1, .fl a2]] [] 0) = .val none (.fl (S75_0 D a0 a1 a2)) := by kernel_rfl
def sp75 : Ev.Spec := fun D l => argA l fun c0 r0 => argF c0 fun a0 r1 => argF r1 fun a1 r2 => argF r2 fun a2 r3 => arg0 r3 (arg0 r0 (.ret (.fl (S75_0 D a0 a1 a2))))
theorem en75 : ∀ l r, (sp75 R l).run = some r → Entry Try.prog 75 l r := by
  intro l r h
  obtain ⟨_, _, h, L0⟩ := argA_inv h
  obtain ⟨x1, _, h, L1⟩ := argF_inv h
  obtain ⟨x2, _, h, L2⟩ := argF_inv h
  obtain ⟨x3, _, h, L3⟩ := argF_inv h
  obtain ⟨h, L4⟩ := arg0_inv h
  obtain ⟨h, L5⟩ := arg0_inv h
  cases h
  exact (entry_loops prg tok_74 hok_0_0 (ev75 R x1 x2 x3) (fun o ho => nomatch ho) rfl).le (L0 _ _ (L1 _ (L2 _ (L3 _ L4))) L5)
def tl_75 : List (Nat × Ev.Spec) := (75, sp75) :: tl_74
def tbl_75 (D : Dom) : Tbl D := tblOf tl_75 D
theorem tok_75 : TblOK Try.prog (tbl_75 R) := TblOK.cons tok_74 en75

-- penumbra/rgb.Weight
def S45_0 (D : Dom) (a0 : D.F) (a1 : D.F) (a2 : D.F) : D.Z := (D.zite (D.bite (D.bnot (S39_0 D a0 a1 a2)) (D.bc true) (S74_0 D a0 a1 a2)) (D.zc 0) (D.zite (D.fge (D.fmul (S75_0 D a0 a1 a2) (D.fc 4625196817309499392)) (D.fc 4697254411347427328)) (D.zc 1048576) (D.zmax (D.f2i .i64 (D.fmul (S75_0 D a0 a1 a2) (D.fc 4625196817309499392))) (D.zc 1))))
def O45 (D : Dom) (a0 : D.F) (a1 : D.F) (a2 : D.F) : D.B := (D.bite (D.bite (D.bnot (S39_0 D a0 a1 a2)) (D.bc true) (S74_0 D a0 a1 a2)) (D.bc true) (D.bite (D.fge (D.fmul (S75_0 D a0 a1 a2) (D.fc 4625196817309499392)) (D.fc 4697254411347427328)) (D.bc true) (D.f2iok .i64 (D.fmul (S75_0 D a0 a1 a2) (D.fc 4625196817309499392)))))
theorem ev45 (D : Dom) (a0 : D.F) (a1 : D.F) (a2 : D.F) : joinT (evFnH Try.prog (tbl_75 D) (lt_0_0 D) 80 45 [.agg [.fl a0, .fl a1, .fl a2]] [] 0) = .val (some (O45 D a0 a1 a2)) (.si .i64 (S45_0 D a0 a1 a2)) := by kernel_rfl
def sp45 : Ev.Spec := fun D l => argA l fun c0 r0 => argF c0 fun a0 r1 => argF r1 fun a1 r2 => argF r2 fun a2 r3 => arg0 r3 (arg0 r0 (.node (O45 D a0 a1 a2) (.ret (.si .i64 (S45_0 D a0 a1 a2))) (.fail "pre")))
theorem en45 : ∀ l r, (sp45 R l).run = some r → Entry Try.prog 45 l r := by
  intro l r h
  obtain ⟨_, _, h, L0⟩ := argA_inv h
  obtain ⟨x1, _, h, L1⟩ := argF_inv h
  obtain ⟨x2, _, h, L2⟩ := argF_inv h
  obtain ⟨x3, _, h, L3⟩ := argF_inv h
  obtain ⟨h, L4⟩ := arg0_inv h
  obtain ⟨h, L5⟩ := arg0_inv h
  obtain ⟨hok, rfl⟩ := run_okay h
  exact (entry_loops prg tok_75 hok_0_0 (ev45 R x1 x2 x3) (fun o ho => (Option.some.inj ho) ▸ hok) rfl).le (L0 _ _ (L1 _ (L2 _ (L3 _ L4))) L5)
def tl_45 : List (Nat × Ev.Spec) := (45, sp45) :: tl_75
def tbl_45 (D : Dom) : Tbl D := tblOf tl_45 D
theorem tok_45 : TblOK Try.prog (tbl_45 R) := TblOK.cons tok_75 en45

-- penumbra/light.weight
def S40_0 (D : Dom) (a0 : D.F) (a1 : D.F) (a2 : D.F) (a3 : D.F) (a4 : D.F) (a5 : D.F) (a6 : D.F) (a7 : D.F) (a8 : D.F) (a9 : D.F) (a10 : D.F) (a11 : D.F) : D.Z := (S45_0 D (S70_0 D a9 (S71_0 D a0 a1 a2 a3 a4 a5 a6 a7 a8)) (S70_1 D a10 (S71_0 D a0 a1 a2 a3 a4 a5 a6 a7 a8)) (S70_2 D a11 (S71_0 D a0 a1 a2 a3 a4 a5 a6 a7 a8)))
def O40 (D : Dom) (a0 : D.F) (a1 : D.F) (a2 : D.F) (a3 : D.F) (a4 : D.F) (a5 : D.F) (a6 : D.F) (a7 : D.F) (a8 : D.F) (a9 : D.F) (a10 : D.F) (a11 : D.F) : D.B := (O45 D (S70_0 D a9 (S71_0 D a0 a1 a2 a3 a4 a5 a6 a7 a8)) (S70_1 D a10 (S71_0 D a0 a1 a2 a3 a4 a5 a6 a7 a8)) (S70_2 D a11 (S71_0 D a0 a1 a2 a3 a4 a5 a6 a7 a8)))
theorem ev40 (D : Dom) (a0 : D.F) (a1 : D.F) (a2 : D.F) (a3 : D.F) (a4 : D.F) (a5 : D.F) (a6 : D.F) (a7 : D.F) (a8 : D.F) (a9 : D.F) (a10 : D.F) (a11 : D.F) : joinT (evFnH Try.prog (tbl_45 D) (lt_0_0 D) 80 40 [.agg [.fl a0, .fl a1, .fl a2, .fl a3, .fl a4, .fl a5, .fl a6, .fl a7, .fl a8], .agg [.fl a9, .fl a10, .fl a11]] [] 0) = .val (some (O40 D a0 a1 a2 a3 a4 a5 a6 a7 a8 a9 a10 a11)) (.si .i64 (S40_0 D a0 a1 a2 a3 a4 a5 a6 a7 a8 a9 a10 a11)) := by kernel_rfl
def sp40 : Ev.Spec := fun D l => argA l fun c0 r0 => argF c0 fun a0 r1 => argF r1 fun a1 r2 => argF r2 fun a2 r3 => argF r3 fun a3 r4 => argF r4 fun a4 r5 => argF r5 fun a5 r6 => argF r6 fun a6 r7 => argF r7 fun a7 r8 => argF r8 fun a8 r9 => arg0 r9 (argA r0 fun c100 r100 => argF c100 fun a9 r101 => argF r101 fun a10 r102 => argF r102 fun a11 r103 => arg0 r103 (arg0 r100 (.node (O40 D a0 a1 a2 a3 a4 a5 a6 a7 a8 a9 a10 a11) (.ret (.si .i64 (S40_0 D a0 a1 a2 a3 a4 a5 a6 a7 a8 a9 a10 a11))) (.fail "pre"))))
theorem en40 : ∀ l r, (sp40 R l).run = some r → Entry Try.prog 40 l r := by
  intro l r h
  obtain ⟨_, _, h, L0⟩ := argA_inv h
  obtain ⟨x1, _, h, L1⟩ := argF_inv h
  obtain ⟨x2, _, h, L2⟩ := argF_inv h
  obtain ⟨x3, _, h, L3⟩ := argF_inv h
  obtain ⟨x4, _, h, L4⟩ := argF_inv h
  obtain ⟨x5, _, h, L5⟩ := argF_inv h
  obtain ⟨x6, _, h, L6⟩ := argF_inv h
  obtain ⟨x7, _, h, L7⟩ := argF_inv h
  obtain ⟨x8, _, h, L8⟩ := argF_inv h
  obtain ⟨x9, _, h, L9⟩ := argF_inv h
  obtain ⟨h, L10⟩ := arg0_inv h
  obtain ⟨_, _, h, L11⟩ := argA_inv h
  obtain ⟨x12, _, h, L12⟩ := argF_inv h
  obtain ⟨x13, _, h, L13⟩ := argF_inv h
  obtain ⟨x14, _, h, L14⟩ := argF_inv h
  obtain ⟨h, L15⟩ := arg0_inv h
  obtain ⟨h, L16⟩ := arg0_inv h
  obtain ⟨hok, rfl⟩ := run_okay h
  exact (entry_loops prg tok_45 hok_0_0 (ev40 R x1 x2 x3 x4 x5 x6 x7 x8 x9 x12 x13 x14) (fun o ho => (Option.some.inj ho) ▸ hok) rfl).le (L0 _ _ (L1 _ (L2 _ (L3 _ (L4 _ (L5 _ (L6 _ (L7 _ (L8 _ (L9 _ L10))))))))) (L11 _ _ (L12 _ (L13 _ (L14 _ L15))) L16))
def tl_40 : List (Nat × Ev.Spec) := (40, sp40) :: tl_45
def tbl_40 (D : Dom) : Tbl D := tblOf tl_40 D
theorem tok_40 : TblOK Try.prog (tbl_40 R) := TblOK.cons tok_45 en40

-- penumbra/vec.Unit
def S77_0 (D : Dom) (a0 : D.F) (a1 : D.F) (a2 : D.F) : D.F := (D.fite (D.bite (D.bnot (D.fgt (S87_0 D a0 a1 a2) (D.fc 0))) (D.bc true) (D.bnot (S69_0 D (S87_0 D a0 a1 a2)))) (D.fc 0) (D.fdiv a0 (S87_0 D a0 a1 a2)))
def S77_1 (D : Dom) (a0 : D.F) (a1 : D.F) (a2 : D.F) : D.F := (D.fite (D.bite (D.bnot (D.fgt (S87_0 D a0 a1 a2) (D.fc 0))) (D.bc true) (D.bnot (S69_0 D (S87_0 D a0 a1 a2)))) (D.fc 0) (D.fdiv a1 (S87_0 D a0 a1 a2)))
def S77_2 (D : Dom) (a0 : D.F) (a1 : D.F) (a2 : D.F) : D.F := (D.fite (D.bite (D.bnot (D.fgt (S87_0 D a0 a1 a2) (D.fc 0))) (D.bc true) (D.bnot (S69_0 D (S87_0 D a0 a1 a2)))) (D.fc 0) (D.fdiv a2 (S87_0 D a0 a1 a2)))
def S77_3 (D : Dom) (a0 : D.F) (a1 : D.F) (a2 : D.F) : D.B := (D.bite (D.bite (D.bnot (D.fgt (S87_0 D a0 a1 a2) (D.fc 0))) (D.bc true) (D.bnot (S69_0 D (S87_0 D a0 a1 a2)))) (D.bc false) (D.bc true))
theorem ev77 (D : Dom) (a0 : D.F) (a1 : D.F) (a2 : D.F) : joinT (evFnH Try.prog (tbl_40 D) (lt_0_0 D) 80 77 [.agg [.fl a0, .fl a1, .fl a2]] [] 0) = .val none (.tup [.agg [.fl (S77_0 D a0 a1 a2), .fl (S77_1 D a0 a1 a2), .fl (S77_2 D a0 a1 a2)], .sb (S77_3 D a0 a1 a2)]) := by kernel_rfl
def sp77 : Ev.Spec := fun D l => argA l fun c0 r0 => argF c0 fun a0 r1 => argF r1 fun a1 r2 => argF r2 fun a2 r3 => arg0 r3 (arg0 r0 (.ret (.tup [.agg [.fl (S77_0 D a0 a1 a2), .fl (S77_1 D a0 a1 a2), .fl (S77_2 D a0 a1 a2)], .sb (S77_3 D a0 a1 a2)])))
theorem en77 : ∀ l r, (sp77 R l).run = some r → Entry Try.prog 77 l r := by
  intro l r h
  obtain ⟨_, _, h, L0⟩ := argA_inv h
  obtain ⟨x1, _, h, L1⟩ := argF_inv h
  obtain ⟨x2, _, h, L2⟩ := argF_inv h
  obtain ⟨x3, _, h, L3⟩ := argF_inv h
  obtain ⟨h, L4⟩ := arg0_inv h
  obtain ⟨h, L5⟩ := arg0_inv h
  cases h
  exact (entry_loops prg tok_40 hok_0_0 (ev77 R x1 x2 x3) (fun o ho => nomatch ho) rfl).le (L0 _ _ (L1 _ (L2 _ (L3 _ L4))) L5)
def tl_77 : List (Nat × Ev.Spec) := (77, sp77) :: tl_40
def tbl_77 (D : Dom) : Tbl D := tblOf tl_77 D
theorem tok_77 : TblOK Try.prog (tbl_77 R) := TblOK.cons tok_40 en77

-- penumbra/tri.Normal
def S58_0 (D : Dom) (a0 : D.F) (a1 : D.F) (a2 : D.F) (a3 : D.F) (a4 : D.F) (a5 : D.F) (a6 : D.F) (a7 : D.F) (a8 : D.F) : D.F := (S77_0 D (S78_0 D a1 a2 a4 a5 a7 a8) (S78_1 D a0 a2 a3 a5 a6 a8) (S78_2 D a0 a1 a3 a4 a6 a7))
def S58_1 (D : Dom) (a0 : D.F) (a1 : D.F) (a2 : D.F) (a3 : D.F) (a4 : D.F) (a5 : D.F) (a6 : D.F) (a7 : D.F) (a8 : D.F) : D.F := (S77_1 D (S78_0 D a1 a2 a4 a5 a7 a8) (S78_1 D a0 a2 a3 a5 a6 a8) (S78_2 D a0 a1 a3 a4 a6 a7))
def S58_2 (D : Dom) (a0 : D.F) (a1 : D.F) (a2 : D.F) (a3 : D.F) (a4 : D.F) (a5 : D.F) (a6 : D.F) (a7 : D.F) (a8 : D.F) : D.F := (S77_2 D (S78_0 D a1 a2 a4 a5 a7 a8) (S78_1 D a0 a2 a3 a5 a6 a8) (S78_2 D a0 a1 a3 a4 a6 a7))
def S58_3 (D : Dom) (a0 : D.F) (a1 : D.F) (a2 : D.F) (a3 : D.F) (a4 : D.F) (a5 : D.F) (a6 : D.F) (a7 : D.F) (a8 : D.F) : D.B := (S77_3 D (S78_0 D a1 a2 a4 a5 a7 a8) (S78_1 D a0 a2 a3 a5 a6 a8) (S78_2 D a0 a1 a3 a4 a6 a7))
theorem ev58 (D : Dom) (a0 : D.F) (a1 : D.F) (a2 : D.F) (a3 : D.F) (a4 : D.F) (a5 : D.F) (a6 : D.F) (a7 : D.F) (a8 : D.F) : joinT (evFnH Try.prog (tbl_77 D) (lt_0_0 D) 80 58 [.agg [.fl a0, .fl a1, .fl a2, .fl a3, .fl a4, .fl a5, .fl a6, .fl a7, .fl a8]] [] 0) = .val none (.tup [.agg [.fl (S58_0 D a0 a1 a2 a3 a4 a5 a6 a7 a8), .fl (S58_1 D a0 a1 a2 a3 a4 a5 a6 a7 a8), .fl (S58_2 D a0 a1 a2 a3 a4 a5 a6 a7 a8)], .sb (S58_3 D a0 a1 a2 a3 a4 a5 a6 a7 a8)]) := by kernel_rfl
def sp58 : Ev.Spec := fun D l => argA l fun c0 r0 => argF c0 fun a0 r1 => argF r1 fun a1 r2 => argF r2 fun a2 r3 => argF r3 fun a3 r4 => argF r4 fun a4 r5 => argF r5 fun a5 r6 => argF r6 fun a6 r7 => argF r7 fun a7 r8 => argF r8 fun a8 r9 => arg0 r9 (arg0 r0 (.ret (.tup [.agg [.fl (S58_0 D a0 a1 a2 a3 a4 a5 a6 a7 a8), .fl (S58_1 D a0 a1 a2 a3 a4 a5 a6 a7 a8), .fl (S58_2 D a0 a1 a2 a3 a4 a5 a6 a7 a8)], .sb (S58_3 D a0 a1 a2 a3 a4 a5 a6 a7 a8)])))
theorem en58 : ∀ l r, (sp58 R l).run = some r → Entry Try.prog 58 l r := by
  intro l r h
  obtain ⟨_, _, h, L0⟩ := argA_inv h
  obtain ⟨x1, _, h, L1⟩ := argF_inv h
  obtain ⟨x2, _, h, L2⟩ := argF_inv h
  obtain ⟨x3, _, h, L3⟩ := argF_inv h
  obtain ⟨x4, _, h, L4⟩ := argF_inv h
  obtain ⟨x5, _, h, L5⟩ := argF_inv h
  obtain ⟨x6, _, h, L6⟩ := argF_inv h
  obtain ⟨x7, _, h, L7⟩ := argF_inv h
  obtain ⟨x8, _, h, L8⟩ := argF_inv h
  obtain ⟨x9, _, h, L9⟩ := argF_inv h
  obtain ⟨h, L10⟩ := arg0_inv h
  obtain ⟨h, L11⟩ := arg0_inv h
  cases h
  exact (entry_loops prg tok_77 hok_0_0 (ev58 R x1 x2 x3 x4 x5 x6 x7 x8 x9) (fun o ho => nomatch ho) rfl).le (L0 _ _ (L1 _ (L2 _ (L3 _ (L4 _ (L5 _ (L6 _ (L7 _ (L8 _ (L9 _ L10))))))))) L11)
def tl_58 : List (Nat × Ev.Spec) := (58, sp58) :: tl_77
def tbl_58 (D : Dom) : Tbl D := tblOf tl_58 D
theorem tok_58 : TblOK Try.prog (tbl_58 R) := TblOK.cons tok_77 en58

-- penumbra/area.Front
def S30_0 (D : Dom) (a0 : D.F) (a1 : D.F) (a2 : D.F) (a3 : D.F) (a4 : D.F) (a5 : D.F) (a6 : D.F) (a7 : D.F) (a8 : D.F) (a9 : D.F) (a10 : D.F) (a11 : D.F) : D.B := (D.bite (S58_3 D a0 a1 a2 a3 a4 a5 a6 a7 a8) (D.fgt (S59_0 D (S58_0 D a0 a1 a2 a3 a4 a5 a6 a7 a8) (S58_1 D a0 a1 a2 a3 a4 a5 a6 a7 a8) (S58_2 D a0 a1 a2 a3 a4 a5 a6 a7 a8) (S60_0 D a9 a0) (S60_1 D a10 a1) (S60_2 D a11 a2)) (D.fc 0)) (D.bc false))
theorem ev30 (D : Dom) (a0 : D.F) (a1 : D.F) (a2 : D.F) (a3 : D.F) (a4 : D.F) (a5 : D.F) (a6 : D.F) (a7 : D.F) (a8 : D.F) (a9 : D.F) (a10 : D.F) (a11 : D.F) : joinT (evFnH Try.prog (tbl_58 D) (lt_0_0 D) 80 30 [.agg [.fl a0, .fl a1, .fl a2, .fl a3, .fl a4, .fl a5, .fl a6, .fl a7, .fl a8], .agg [.fl a9, .fl a10, .fl a11]] [] 0) = .val none (.sb (S30_0 D a0 a1 a2 a3 a4 a5 a6 a7 a8 a9 a10 a11)) := by kernel_rfl
def sp30 : Ev.Spec := fun D l => argA l fun c0 r0 => argF c0 fun a0 r1 => argF r1 fun a1 r2 => argF r2 fun a2 r3 => argF r3 fun a3 r4 => argF r4 fun a4 r5 => argF r5 fun a5 r6 => argF r6 fun a6 r7 => argF r7 fun a7 r8 => argF r8 fun a8 r9 => arg0 r9 (argA r0 fun c100 r100 => argF c100 fun a9 r101 => argF r101 fun a10 r102 => argF r102 fun a11 r103 => arg0 r103 (arg0 r100 (.ret (.sb (S30_0 D a0 a1 a2 a3 a4 a5 a6 a7 a8 a9 a10 a11)))))
theorem en30 : ∀ l r, (sp30 R l).run = some r → Entry Try.prog 30 l r := by
  intro l r h
  obtain ⟨_, _, h, L0⟩ := argA_inv h
  obtain ⟨x1, _, h, L1⟩ := argF_inv h
  obtain ⟨x2, _, h, L2⟩ := argF_inv h
  obtain ⟨x3, _, h, L3⟩ := argF_inv h
  obtain ⟨x4, _, h, L4⟩ := argF_inv h
  obtain ⟨x5, _, h, L5⟩ := argF_inv h
  obtain ⟨x6, _, h, L6⟩ := argF_inv h
  obtain ⟨x7, _, h, L7⟩ := argF_inv h
  obtain ⟨x8, _, h, L8⟩ := argF_inv h
  obtain ⟨x9, _, h, L9⟩ := argF_inv h
  obtain ⟨h, L10⟩ := arg0_inv h
  obtain ⟨_, _, h, L11⟩ := argA_inv h
  obtain ⟨x12, _, h, L12⟩ := argF_inv h
  obtain ⟨x13, _, h, L13⟩ := argF_inv h
  obtain ⟨x14, _, h, L14⟩ := argF_inv h
  obtain ⟨h, L15⟩ := arg0_inv h
  obtain ⟨h, L16⟩ := arg0_inv h
  cases h
  exact (entry_loops prg tok_58 hok_0_0 (ev30 R x1 x2 x3 x4 x5 x6 x7 x8 x9 x12 x13 x14) (fun o ho => nomatch ho) rfl).le (L0 _ _ (L1 _ (L2 _ (L3 _ (L4 _ (L5 _ (L6 _ (L7 _ (L8 _ (L9 _ L10))))))))) (L11 _ _ (L12 _ (L13 _ (L14 _ L15))) L16))
def tl_30 : List (Nat × Ev.Spec) := (30, sp30) :: tl_58
def tbl_30 (D : Dom) : Tbl D := tblOf tl_30 D
theorem tok_30 : TblOK Try.prog (tbl_30 R) := TblOK.cons tok_58 en30

-- loop 0
def C0 (D : Dom) (a0 : D.Z) (a2 : D.Z) : D.B := (D.band (D.zlt a2 (D.zc 2)) (D.bite (D.bite (D.zeq a2 (D.zc 0)) (D.bc true) (D.zeq a2 (D.zc 1))) (D.bnot (D.bite (D.zeq a2 (D.zc 0)) (D.zeq (D.zc 0) a0) (D.zeq (D.zc 1) a0))) (D.bc true)))
def O0_ (D : Dom) (a2 : D.Z) : D.B := (D.bite (D.zlt a2 (D.zc 2)) (D.bite (D.zeq a2 (D.zc 0)) (D.bc true) (D.zeq a2 (D.zc 1))) (D.bc true))
def N0_1 (D : Dom) (a2 : D.Z) : D.Z := (D.zadd .i64 a2 (D.zc 1))
def G0 (D : Dom) (a0 : D.Z) (p : List (PD D)) : D.B × D.B × List (PD D) := (C0 D a0 (nthZ p 1), O0_ D (nthZ p 1), [.z (nthZ p 0), .z (N0_1 D (nthZ p 1))])
def L0 (D : Dom) (a0 : D.Z) (a1 : D.Z) (a2 : D.Z) : List (PD D) := D.last (G0 D a0) [.z a1, .z a2]
def E0 (D : Dom) (a0 : D.Z) (a1 : D.Z) (a2 : D.Z) : D.B := D.ends (G0 D a0) [.z a1, .z a2]

-- loop 1
def WC1_0 (D : Dom) (a26 : D.Z) : D.Z := (D.zite (D.zeq a26 (D.zc 0)) (D.zc 0) (D.zc 1))
def WC1_1 (D : Dom) (a18 : D.F) (a19 : D.F) (a20 : D.F) (a21 : D.F) (a22 : D.F) (a23 : D.F) (a26 : D.Z) : D.B := (D.bite (D.bite (D.zlt (WC1_0 D a26) (D.zc 0)) (D.bc true) (D.zle (D.zc 2) (WC1_0 D a26))) (D.bc true) (D.bnot (S39_0 D (D.fite (D.zeq a26 (D.zc 0)) a18 a21) (D.fite (D.zeq a26 (D.zc 0)) a19 a22) (D.fite (D.zeq a26 (D.zc 0)) a20 a23))))
def WC1_2 (D : Dom) (a26 : D.Z) : D.B := (E0 D (WC1_0 D a26) (D.zc 0) (D.zc 0))
def WC1_3 (D : Dom) (a26 : D.Z) : List (PD D) := (L0 D (WC1_0 D a26) (D.zc 0) (D.zc 0))
def WC1_4 (D : Dom) (a18 : D.F) (a19 : D.F) (a20 : D.F) (a21 : D.F) (a22 : D.F) (a23 : D.F) (a26 : D.Z) : D.B := (D.bite (WC1_1 D a18 a19 a20 a21 a22 a23 a26) (D.bc true) (D.bnot (D.zeq (D.zite (D.zlt (nthZ (WC1_3 D a26) 1) (D.zc 2)) (nthZ (WC1_3 D a26) 1) (D.zc (-1))) (D.zite (D.zeq a26 (D.zc 0)) a26 a26))))
def C1 (D : Dom) (a0 : D.F) (a1 : D.F) (a2 : D.F) (a3 : D.F) (a4 : D.F) (a5 : D.F) (a6 : D.F) (a7 : D.F) (a8 : D.F) (a9 : D.F) (a10 : D.F) (a11 : D.F) (a12 : D.F) (a13 : D.F) (a14 : D.F) (a15 : D.F) (a16 : D.F) (a17 : D.F) (a18 : D.F) (a19 : D.F) (a20 : D.F) (a21 : D.F) (a22 : D.F) (a23 : D.F) (a24 : D.L) (a26 : D.Z) : D.B := (D.band (D.zlt a26 (D.zc 2)) (D.bite (D.band (D.bite (D.zeq a26 (D.zc 0)) (D.bc true) (D.zeq a26 (D.zc 1))) (D.band (D.bite (WC1_1 D a18 a19 a20 a21 a22 a23 a26) (D.bc true) (WC1_2 D a26)) (D.bite (WC1_4 D a18 a19 a20 a21 a22 a23 a26) (D.bc true) (D.bite (D.zeq (WC1_0 D a26) (D.zc 0)) (D.band (O40 D a0 a1 a2 a3 a4 a5 a6 a7 a8 (D.fite (D.zeq a26 (D.zc 0)) a18 a21) (D.fite (D.zeq a26 (D.zc 0)) a19 a22) (D.fite (D.zeq a26 (D.zc 0)) a20 a23)) (D.zle (D.llen (D.lapp a24 [[.z (S40_0 D a0 a1 a2 a3 a4 a5 a6 a7 a8 (D.fite (D.zeq a26 (D.zc 0)) a18 a21) (D.fite (D.zeq a26 (D.zc 0)) a19 a22) (D.fite (D.zeq a26 (D.zc 0)) a20 a23))]])) (D.zc 1073741824))) (D.band (D.zeq (WC1_0 D a26) (D.zc 1)) (D.band (O40 D a9 a10 a11 a12 a13 a14 a15 a16 a17 (D.fite (D.zeq a26 (D.zc 0)) a18 a21) (D.fite (D.zeq a26 (D.zc 0)) a19 a22) (D.fite (D.zeq a26 (D.zc 0)) a20 a23)) (D.zle (D.llen (D.lapp a24 [[.z (S40_0 D a9 a10 a11 a12 a13 a14 a15 a16 a17 (D.fite (D.zeq a26 (D.zc 0)) a18 a21) (D.fite (D.zeq a26 (D.zc 0)) a19 a22) (D.fite (D.zeq a26 (D.zc 0)) a20 a23))]])) (D.zc 1073741824)))))))) (D.bnot (WC1_4 D a18 a19 a20 a21 a22 a23 a26)) (D.bc true)))
def WO1__0 (D : Dom) (a26 : D.Z) : D.Z := (D.zite (D.zeq a26 (D.zc 0)) (D.zc 0) (D.zc 1))
def WO1__1 (D : Dom) (a18 : D.F) (a19 : D.F) (a20 : D.F) (a21 : D.F) (a22 : D.F) (a23 : D.F) (a26 : D.Z) : D.B := (D.bite (D.bite (D.zlt (WO1__0 D a26) (D.zc 0)) (D.bc true) (D.zle (D.zc 2) (WO1__0 D a26))) (D.bc true) (D.bnot (S39_0 D (D.fite (D.zeq a26 (D.zc 0)) a18 a21) (D.fite (D.zeq a26 (D.zc 0)) a19 a22) (D.fite (D.zeq a26 (D.zc 0)) a20 a23))))
def WO1__2 (D : Dom) (a26 : D.Z) : D.B := (E0 D (WO1__0 D a26) (D.zc 0) (D.zc 0))
def WO1__3 (D : Dom) (a26 : D.Z) : List (PD D) := (L0 D (WO1__0 D a26) (D.zc 0) (D.zc 0))
def O1_ (D : Dom) (a0 : D.F) (a1 : D.F) (a2 : D.F) (a3 : D.F) (a4 : D.F) (a5 : D.F) (a6 : D.F) (a7 : D.F) (a8 : D.F) (a9 : D.F) (a10 : D.F) (a11 : D.F) (a12 : D.F) (a13 : D.F) (a14 : D.F) (a15 : D.F) (a16 : D.F) (a17 : D.F) (a18 : D.F) (a19 : D.F) (a20 : D.F) (a21 : D.F) (a22 : D.F) (a23 : D.F) (a24 : D.L) (a26 : D.Z) : D.B := (D.bite (D.zlt a26 (D.zc 2)) (D.band (D.bite (D.zeq a26 (D.zc 0)) (D.bc true) (D.zeq a26 (D.zc 1))) (D.band (D.bite (WO1__1 D a18 a19 a20 a21 a22 a23 a26) (D.bc true) (WO1__2 D a26)) (D.bite (D.bite (WO1__1 D a18 a19 a20 a21 a22 a23 a26) (D.bc true) (D.bnot (D.zeq (D.zite (D.zlt (nthZ (WO1__3 D a26) 1) (D.zc 2)) (nthZ (WO1__3 D a26) 1) (D.zc (-1))) (D.zite (D.zeq a26 (D.zc 0)) a26 a26)))) (D.bc true) (D.bite (D.zeq (WO1__0 D a26) (D.zc 0)) (D.band (O40 D a0 a1 a2 a3 a4 a5 a6 a7 a8 (D.fite (D.zeq a26 (D.zc 0)) a18 a21) (D.fite (D.zeq a26 (D.zc 0)) a19 a22) (D.fite (D.zeq a26 (D.zc 0)) a20 a23)) (D.zle (D.llen (D.lapp a24 [[.z (S40_0 D a0 a1 a2 a3 a4 a5 a6 a7 a8 (D.fite (D.zeq a26 (D.zc 0)) a18 a21) (D.fite (D.zeq a26 (D.zc 0)) a19 a22) (D.fite (D.zeq a26 (D.zc 0)) a20 a23))]])) (D.zc 1073741824))) (D.band (D.zeq (WO1__0 D a26) (D.zc 1)) (D.band (O40 D a9 a10 a11 a12 a13 a14 a15 a16 a17 (D.fite (D.zeq a26 (D.zc 0)) a18 a21) (D.fite (D.zeq a26 (D.zc 0)) a19 a22) (D.fite (D.zeq a26 (D.zc 0)) a20 a23)) (D.zle (D.llen (D.lapp a24 [[.z (S40_0 D a9 a10 a11 a12 a13 a14 a15 a16 a17 (D.fite (D.zeq a26 (D.zc 0)) a18 a21) (D.fite (D.zeq a26 (D.zc 0)) a19 a22) (D.fite (D.zeq a26 (D.zc 0)) a20 a23))]])) (D.zc 1073741824)))))))) (D.bc true))
def N1_0 (D : Dom) (a0 : D.F) (a1 : D.F) (a2 : D.F) (a3 : D.F) (a4 : D.F) (a5 : D.F) (a6 : D.F) (a7 : D.F) (a8 : D.F) (a9 : D.F) (a10 : D.F) (a11 : D.F) (a12 : D.F) (a13 : D.F) (a14 : D.F) (a15 : D.F) (a16 : D.F) (a17 : D.F) (a18 : D.F) (a19 : D.F) (a20 : D.F) (a21 : D.F) (a22 : D.F) (a23 : D.F) (a24 : D.L) (a26 : D.Z) : D.L := (D.lite (D.band (D.bnot (D.bite (D.bite (D.bite (D.zlt (D.zite (D.zeq a26 (D.zc 0)) (D.zc 0) (D.zc 1)) (D.zc 0)) (D.bc true) (D.zle (D.zc 2) (D.zite (D.zeq a26 (D.zc 0)) (D.zc 0) (D.zc 1)))) (D.bc true) (D.bnot (S39_0 D (D.fite (D.zeq a26 (D.zc 0)) a18 a21) (D.fite (D.zeq a26 (D.zc 0)) a19 a22) (D.fite (D.zeq a26 (D.zc 0)) a20 a23)))) (D.bc true) (D.bnot (D.zeq (D.zite (D.zlt (nthZ (L0 D (D.zite (D.zeq a26 (D.zc 0)) (D.zc 0) (D.zc 1)) (D.zc 0) (D.zc 0)) 1) (D.zc 2)) (nthZ (L0 D (D.zite (D.zeq a26 (D.zc 0)) (D.zc 0) (D.zc 1)) (D.zc 0) (D.zc 0)) 1) (D.zc (-1))) (D.zite (D.zeq a26 (D.zc 0)) a26 a26))))) (D.zeq (D.zite (D.zeq a26 (D.zc 0)) (D.zc 0) (D.zc 1)) (D.zc 0))) (D.lapp a24 [[.z (S40_0 D a0 a1 a2 a3 a4 a5 a6 a7 a8 (D.fite (D.zeq a26 (D.zc 0)) a18 a21) (D.fite (D.zeq a26 (D.zc 0)) a19 a22) (D.fite (D.zeq a26 (D.zc 0)) a20 a23))]]) (D.lapp a24 [[.z (S40_0 D a9 a10 a11 a12 a13 a14 a15 a16 a17 (D.fite (D.zeq a26 (D.zc 0)) a18 a21) (D.fite (D.zeq a26 (D.zc 0)) a19 a22) (D.fite (D.zeq a26 (D.zc 0)) a20 a23))]]))
def N1_1 (D : Dom) (a18 : D.F) (a19 : D.F) (a20 : D.F) (a21 : D.F) (a22 : D.F) (a23 : D.F) (a25 : D.Z) (a26 : D.Z) : D.Z := (D.zite (D.band (D.bnot (D.bite (D.bite (D.bite (D.zlt (D.zite (D.zeq a26 (D.zc 0)) (D.zc 0) (D.zc 1)) (D.zc 0)) (D.bc true) (D.zle (D.zc 2) (D.zite (D.zeq a26 (D.zc 0)) (D.zc 0) (D.zc 1)))) (D.bc true) (D.bnot (S39_0 D (D.fite (D.zeq a26 (D.zc 0)) a18 a21) (D.fite (D.zeq a26 (D.zc 0)) a19 a22) (D.fite (D.zeq a26 (D.zc 0)) a20 a23)))) (D.bc true) (D.bnot (D.zeq (D.zite (D.zlt (nthZ (L0 D (D.zite (D.zeq a26 (D.zc 0)) (D.zc 0) (D.zc 1)) (D.zc 0) (D.zc 0)) 1) (D.zc 2)) (nthZ (L0 D (D.zite (D.zeq a26 (D.zc 0)) (D.zc 0) (D.zc 1)) (D.zc 0) (D.zc 0)) 1) (D.zc (-1))) (D.zite (D.zeq a26 (D.zc 0)) a26 a26))))) (D.zeq (D.zite (D.zeq a26 (D.zc 0)) (D.zc 0) (D.zc 1)) (D.zc 0))) a25 a25)
def N1_2 (D : Dom) (a18 : D.F) (a19 : D.F) (a20 : D.F) (a21 : D.F) (a22 : D.F) (a23 : D.F) (a26 : D.Z) : D.Z := (D.zite (D.band (D.bnot (D.bite (D.bite (D.bite (D.zlt (D.zite (D.zeq a26 (D.zc 0)) (D.zc 0) (D.zc 1)) (D.zc 0)) (D.bc true) (D.zle (D.zc 2) (D.zite (D.zeq a26 (D.zc 0)) (D.zc 0) (D.zc 1)))) (D.bc true) (D.bnot (S39_0 D (D.fite (D.zeq a26 (D.zc 0)) a18 a21) (D.fite (D.zeq a26 (D.zc 0)) a19 a22) (D.fite (D.zeq a26 (D.zc 0)) a20 a23)))) (D.bc true) (D.bnot (D.zeq (D.zite (D.zlt (nthZ (L0 D (D.zite (D.zeq a26 (D.zc 0)) (D.zc 0) (D.zc 1)) (D.zc 0) (D.zc 0)) 1) (D.zc 2)) (nthZ (L0 D (D.zite (D.zeq a26 (D.zc 0)) (D.zc 0) (D.zc 1)) (D.zc 0) (D.zc 0)) 1) (D.zc (-1))) (D.zite (D.zeq a26 (D.zc 0)) a26 a26))))) (D.zeq (D.zite (D.zeq a26 (D.zc 0)) (D.zc 0) (D.zc 1)) (D.zc 0))) (D.zadd .i64 a26 (D.zc 1)) (D.zadd .i64 a26 (D.zc 1)))
def G1 (D : Dom) (a0 : D.F) (a1 : D.F) (a2 : D.F) (a3 : D.F) (a4 : D.F) (a5 : D.F) (a6 : D.F) (a7 : D.F) (a8 : D.F) (a9 : D.F) (a10 : D.F) (a11 : D.F) (a12 : D.F) (a13 : D.F) (a14 : D.F) (a15 : D.F) (a16 : D.F) (a17 : D.F) (a18 : D.F) (a19 : D.F) (a20 : D.F) (a21 : D.F) (a22 : D.F) (a23 : D.F) (p : List (PD D)) : D.B × D.B × List (PD D) := (C1 D a0 a1 a2 a3 a4 a5 a6 a7 a8 a9 a10 a11 a12 a13 a14 a15 a16 a17 a18 a19 a20 a21 a22 a23 (nthL p 0) (nthZ p 2), O1_ D a0 a1 a2 a3 a4 a5 a6 a7 a8 a9 a10 a11 a12 a13 a14 a15 a16 a17 a18 a19 a20 a21 a22 a23 (nthL p 0) (nthZ p 2), [.l (N1_0 D a0 a1 a2 a3 a4 a5 a6 a7 a8 a9 a10 a11 a12 a13 a14 a15 a16 a17 a18 a19 a20 a21 a22 a23 (nthL p 0) (nthZ p 2)), .z (N1_1 D a18 a19 a20 a21 a22 a23 (nthZ p 1) (nthZ p 2)), .z (N1_2 D a18 a19 a20 a21 a22 a23 (nthZ p 2))])
def L1 (D : Dom) (a0 : D.F) (a1 : D.F) (a2 : D.F) (a3 : D.F) (a4 : D.F) (a5 : D.F) (a6 : D.F) (a7 : D.F) (a8 : D.F) (a9 : D.F) (a10 : D.F) (a11 : D.F) (a12 : D.F) (a13 : D.F) (a14 : D.F) (a15 : D.F) (a16 : D.F) (a17 : D.F) (a18 : D.F) (a19 : D.F) (a20 : D.F) (a21 : D.F) (a22 : D.F) (a23 : D.F) (a24 : D.L) (a25 : D.Z) (a26 : D.Z) : List (PD D) := D.last (G1 D a0 a1 a2 a3 a4 a5 a6 a7 a8 a9 a10 a11 a12 a13 a14 a15 a16 a17 a18 a19 a20 a21 a22 a23) [.l a24, .z a25, .z a26]
def E1 (D : Dom) (a0 : D.F) (a1 : D.F) (a2 : D.F) (a3 : D.F) (a4 : D.F) (a5 : D.F) (a6 : D.F) (a7 : D.F) (a8 : D.F) (a9 : D.F) (a10 : D.F) (a11 : D.F) (a12 : D.F) (a13 : D.F) (a14 : D.F) (a15 : D.F) (a16 : D.F) (a17 : D.F) (a18 : D.F) (a19 : D.F) (a20 : D.F) (a21 : D.F) (a22 : D.F) (a23 : D.F) (a24 : D.L) (a25 : D.Z) (a26 : D.Z) : D.B := D.ends (G1 D a0 a1 a2 a3 a4 a5 a6 a7 a8 a9 a10 a11 a12 a13 a14 a15 a16 a17 a18 a19 a20 a21 a22 a23) [.l a24, .z a25, .z a26]

-- loop 2
def C2 (D : Dom) (a0 : D.Z) (a1 : D.Z) (a2 : D.L) (a6 : D.Z) : D.B := (D.band (D.zlt a6 a1) (D.bite (D.band (D.zle (D.zc 0) a6) (D.zlt a6 a0)) (D.bnot (D.bite (D.zlt (D.lz a2 a6 0) (D.zc 0)) (D.bc true) (D.zlt (D.zc 1048576) (D.lz a2 a6 0)))) (D.bc true)))
def O2_ (D : Dom) (a0 : D.Z) (a1 : D.Z) (a6 : D.Z) : D.B := (D.bite (D.zlt a6 a1) (D.band (D.zle (D.zc 0) a6) (D.zlt a6 a0)) (D.bc true))
def N2_2 (D : Dom) (a2 : D.L) (a5 : D.Z) (a6 : D.Z) : D.Z := (D.zadd .i64 a5 (D.lz a2 a6 0))
def N2_3 (D : Dom) (a6 : D.Z) : D.Z := (D.zadd .i64 a6 (D.zc 1))
def G2 (D : Dom) (a0 : D.Z) (a1 : D.Z) (a2 : D.L) (p : List (PD D)) : D.B × D.B × List (PD D) := (C2 D a0 a1 a2 (nthZ p 3), O2_ D a0 a1 (nthZ p 3), [.z (nthZ p 0), .z (nthZ p 1), .z (N2_2 D a2 (nthZ p 2) (nthZ p 3)), .z (N2_3 D (nthZ p 3))])
def L2 (D : Dom) (a0 : D.Z) (a1 : D.Z) (a2 : D.L) (a3 : D.Z) (a4 : D.Z) (a5 : D.Z) (a6 : D.Z) : List (PD D) := D.last (G2 D a0 a1 a2) [.z a3, .z a4, .z a5, .z a6]
def E2 (D : Dom) (a0 : D.Z) (a1 : D.Z) (a2 : D.L) (a3 : D.Z) (a4 : D.Z) (a5 : D.Z) (a6 : D.Z) : D.B := D.ends (G2 D a0 a1 a2) [.z a3, .z a4, .z a5, .z a6]

-- loop 3
def C3 (D : Dom) (a2 : D.Z) (a9 : D.Z) : D.B := (D.zlt a9 a2)
def O3_ (D : Dom) (a0 : D.Z) (a1 : D.Z) (a2 : D.Z) (a3 : D.L) (a4 : D.Z) (a5 : D.Z) (a6 : D.Z) (a7 : D.L) (a8 : D.L) (a9 : D.Z) (a11 : D.L) : D.B := (D.bite (D.zlt a9 a2) (D.band (D.band (D.zle (D.zc 0) a9) (D.zlt a9 a1)) (D.band (D.band (D.zle (D.zc 0) a9) (D.zlt a9 a6)) (D.band (D.band (D.zle (D.zc 0) a9) (D.zlt a9 a5)) (D.band (D.band (D.zle (D.zc 0) a9) (D.zlt a9 a6)) (D.bite (D.zlt (D.lz (D.lput a11 a9 0 [.z (D.zmul .i64 (D.lz a3 a9 0) a0)]) a9 0) a4) (D.zle (D.llen (D.lapp a7 [[.z a9]])) (D.zc 1073741824)) (D.zle (D.llen (D.lapp a8 [[.z a9]])) (D.zc 1073741824))))))) (D.bc true))
def N3_0 (D : Dom) (a0 : D.Z) (a3 : D.L) (a4 : D.Z) (a7 : D.L) (a9 : D.Z) (a11 : D.L) : D.L := (D.lite (D.zlt (D.lz (D.lput a11 a9 0 [.z (D.zmul .i64 (D.lz a3 a9 0) a0)]) a9 0) a4) (D.lapp a7 [[.z a9]]) a7)
def N3_1 (D : Dom) (a0 : D.Z) (a3 : D.L) (a4 : D.Z) (a8 : D.L) (a9 : D.Z) (a11 : D.L) : D.L := (D.lite (D.zlt (D.lz (D.lput a11 a9 0 [.z (D.zmul .i64 (D.lz a3 a9 0) a0)]) a9 0) a4) a8 (D.lapp a8 [[.z a9]]))
def N3_2 (D : Dom) (a9 : D.Z) : D.Z := (D.zadd .i64 a9 (D.zc 1))
def N3_3 (D : Dom) (a4 : D.Z) (a9 : D.Z) (a10 : D.L) : D.L := (D.lput a10 a9 0 [.z a4, .z a9])
def N3_4 (D : Dom) (a0 : D.Z) (a3 : D.L) (a9 : D.Z) (a11 : D.L) : D.L := (D.lput a11 a9 0 [.z (D.zmul .i64 (D.lz a3 a9 0) a0)])
def G3 (D : Dom) (a0 : D.Z) (a1 : D.Z) (a2 : D.Z) (a3 : D.L) (a4 : D.Z) (a5 : D.Z) (a6 : D.Z) (p : List (PD D)) : D.B × D.B × List (PD D) := (C3 D a2 (nthZ p 2), O3_ D a0 a1 a2 a3 a4 a5 a6 (nthL p 0) (nthL p 1) (nthZ p 2) (nthL p 4), [.l (N3_0 D a0 a3 a4 (nthL p 0) (nthZ p 2) (nthL p 4)), .l (N3_1 D a0 a3 a4 (nthL p 1) (nthZ p 2) (nthL p 4)), .z (N3_2 D (nthZ p 2)), .l (N3_3 D a4 (nthZ p 2) (nthL p 3)), .l (N3_4 D a0 a3 (nthZ p 2) (nthL p 4))])
def L3 (D : Dom) (a0 : D.Z) (a1 : D.Z) (a2 : D.Z) (a3 : D.L) (a4 : D.Z) (a5 : D.Z) (a6 : D.Z) (a7 : D.L) (a8 : D.L) (a9 : D.Z) (a10 : D.L) (a11 : D.L) : List (PD D) := D.last (G3 D a0 a1 a2 a3 a4 a5 a6) [.l a7, .l a8, .z a9, .l a10, .l a11]
def E3 (D : Dom) (a0 : D.Z) (a1 : D.Z) (a2 : D.Z) (a3 : D.L) (a4 : D.Z) (a5 : D.Z) (a6 : D.Z) (a7 : D.L) (a8 : D.L) (a9 : D.Z) (a10 : D.L) (a11 : D.L) : D.B := D.ends (G3 D a0 a1 a2 a3 a4 a5 a6) [.l a7, .l a8, .z a9, .l a10, .l a11]

-- loop 4
def C4 (D : Dom) (a3 : D.L) (a4 : D.L) : D.B := (D.bite (D.zlt (D.zc 0) (D.llen a3)) (D.zlt (D.zc 0) (D.llen a4)) (D.bc false))
def WO4__0 (D : Dom) (a3 : D.L) : D.B := (D.zle (D.zc 0) (D.zsub .i64 (D.llen a3) (D.zc 1)))
def WO4__1 (D : Dom) (a4 : D.L) : D.B := (D.zle (D.zc 0) (D.zsub .i64 (D.llen a4) (D.zc 1)))
def WO4__2 (D : Dom) (a3 : D.L) : D.Z := (D.lz a3 (D.zsub .i64 (D.llen a3) (D.zc 1)) 0)
def WO4__3 (D : Dom) (a2 : D.Z) (a3 : D.L) : D.B := (D.band (D.zle (D.zc 0) (WO4__2 D a3)) (D.zlt (WO4__2 D a3) a2))
def WO4__4 (D : Dom) (a4 : D.L) : D.Z := (D.lz a4 (D.zsub .i64 (D.llen a4) (D.zc 1)) 0)
def WO4__5 (D : Dom) (a2 : D.Z) (a4 : D.L) : D.B := (D.band (D.zle (D.zc 0) (WO4__4 D a4)) (D.zlt (WO4__4 D a4) a2))
def WO4__6 (D : Dom) (a0 : D.Z) (a3 : D.L) (a4 : D.L) (a5 : D.L) : D.Z := (D.lz (D.lput a5 (WO4__4 D a4) 0 [.z (D.zsub .i64 (D.lz a5 (WO4__4 D a4) 0) (D.zsub .i64 a0 (D.lz a5 (WO4__2 D a3) 0)))]) (WO4__4 D a4) 0)
def O4_ (D : Dom) (a0 : D.Z) (a1 : D.Z) (a2 : D.Z) (a3 : D.L) (a4 : D.L) (a5 : D.L) : D.B := (D.bite (D.bite (D.zlt (D.zc 0) (D.llen a3)) (D.zlt (D.zc 0) (D.llen a4)) (D.bc false)) (D.band (D.band (WO4__0 D a3) (D.zlt (D.zsub .i64 (D.llen a3) (D.zc 1)) (D.llen a3))) (D.band (D.band (WO4__1 D a4) (D.zlt (D.zsub .i64 (D.llen a4) (D.zc 1)) (D.llen a4))) (D.band (D.band (D.zeq (D.zsub .i64 (D.llen a3) (D.zc 1)) (D.zsub .i64 (D.llen a3) (D.zc 1))) (D.band (WO4__0 D a3) (D.zle (D.zsub .i64 (D.llen a3) (D.zc 1)) (D.llen a3)))) (D.band (WO4__3 D a2 a3) (D.band (D.band (D.zle (D.zc 0) (WO4__2 D a3)) (D.zlt (WO4__2 D a3) a1)) (D.band (WO4__5 D a2 a4) (D.band (WO4__3 D a2 a3) (D.band (WO4__5 D a2 a4) (D.band (WO4__5 D a2 a4) (D.bite (D.zle a0 (WO4__6 D a0 a3 a4 a5)) (D.bc true) (D.band (D.band (D.zeq (D.zsub .i64 (D.llen a4) (D.zc 1)) (D.zsub .i64 (D.llen a4) (D.zc 1))) (D.band (WO4__1 D a4) (D.zle (D.zsub .i64 (D.llen a4) (D.zc 1)) (D.llen a4)))) (D.band (WO4__5 D a2 a4) (D.bite (D.zlt (WO4__6 D a0 a3 a4 a5) a0) (D.zle (D.llen (D.lapp (D.lsub a3 (D.zc 0) (D.zsub .i64 (D.llen a3) (D.zc 1))) [[.z (WO4__4 D a4)]])) (D.zc 1073741824)) (D.zle (D.llen (D.lapp (D.lsub a4 (D.zc 0) (D.zsub .i64 (D.llen a4) (D.zc 1))) [[.z (WO4__4 D a4)]])) (D.zc 1073741824))))))))))))))) (D.bc true))
def N4_0 (D : Dom) (a0 : D.Z) (a3 : D.L) (a4 : D.L) (a5 : D.L) : D.L := (D.lite (D.zle a0 (D.lz (D.lput a5 (D.lz a4 (D.zsub .i64 (D.llen a4) (D.zc 1)) 0) 0 [.z (D.zsub .i64 (D.lz a5 (D.lz a4 (D.zsub .i64 (D.llen a4) (D.zc 1)) 0) 0) (D.zsub .i64 a0 (D.lz a5 (D.lz a3 (D.zsub .i64 (D.llen a3) (D.zc 1)) 0) 0)))]) (D.lz a4 (D.zsub .i64 (D.llen a4) (D.zc 1)) 0) 0)) (D.lsub a3 (D.zc 0) (D.zsub .i64 (D.llen a3) (D.zc 1))) (D.lite (D.zlt (D.lz (D.lput a5 (D.lz a4 (D.zsub .i64 (D.llen a4) (D.zc 1)) 0) 0 [.z (D.zsub .i64 (D.lz a5 (D.lz a4 (D.zsub .i64 (D.llen a4) (D.zc 1)) 0) 0) (D.zsub .i64 a0 (D.lz a5 (D.lz a3 (D.zsub .i64 (D.llen a3) (D.zc 1)) 0) 0)))]) (D.lz a4 (D.zsub .i64 (D.llen a4) (D.zc 1)) 0) 0) a0) (D.lapp (D.lsub a3 (D.zc 0) (D.zsub .i64 (D.llen a3) (D.zc 1))) [[.z (D.lz a4 (D.zsub .i64 (D.llen a4) (D.zc 1)) 0)]]) (D.lsub a3 (D.zc 0) (D.zsub .i64 (D.llen a3) (D.zc 1)))))
def N4_1 (D : Dom) (a0 : D.Z) (a3 : D.L) (a4 : D.L) (a5 : D.L) : D.L := (D.lite (D.zle a0 (D.lz (D.lput a5 (D.lz a4 (D.zsub .i64 (D.llen a4) (D.zc 1)) 0) 0 [.z (D.zsub .i64 (D.lz a5 (D.lz a4 (D.zsub .i64 (D.llen a4) (D.zc 1)) 0) 0) (D.zsub .i64 a0 (D.lz a5 (D.lz a3 (D.zsub .i64 (D.llen a3) (D.zc 1)) 0) 0)))]) (D.lz a4 (D.zsub .i64 (D.llen a4) (D.zc 1)) 0) 0)) a4 (D.lite (D.zlt (D.lz (D.lput a5 (D.lz a4 (D.zsub .i64 (D.llen a4) (D.zc 1)) 0) 0 [.z (D.zsub .i64 (D.lz a5 (D.lz a4 (D.zsub .i64 (D.llen a4) (D.zc 1)) 0) 0) (D.zsub .i64 a0 (D.lz a5 (D.lz a3 (D.zsub .i64 (D.llen a3) (D.zc 1)) 0) 0)))]) (D.lz a4 (D.zsub .i64 (D.llen a4) (D.zc 1)) 0) 0) a0) (D.lsub a4 (D.zc 0) (D.zsub .i64 (D.llen a4) (D.zc 1))) (D.lapp (D.lsub a4 (D.zc 0) (D.zsub .i64 (D.llen a4) (D.zc 1))) [[.z (D.lz a4 (D.zsub .i64 (D.llen a4) (D.zc 1)) 0)]])))
def N4_2 (D : Dom) (a0 : D.Z) (a3 : D.L) (a4 : D.L) (a5 : D.L) : D.L := (D.lite (D.zle a0 (D.lz (D.lput a5 (D.lz a4 (D.zsub .i64 (D.llen a4) (D.zc 1)) 0) 0 [.z (D.zsub .i64 (D.lz a5 (D.lz a4 (D.zsub .i64 (D.llen a4) (D.zc 1)) 0) 0) (D.zsub .i64 a0 (D.lz a5 (D.lz a3 (D.zsub .i64 (D.llen a3) (D.zc 1)) 0) 0)))]) (D.lz a4 (D.zsub .i64 (D.llen a4) (D.zc 1)) 0) 0)) (D.lput a5 (D.lz a4 (D.zsub .i64 (D.llen a4) (D.zc 1)) 0) 0 [.z (D.zsub .i64 (D.lz a5 (D.lz a4 (D.zsub .i64 (D.llen a4) (D.zc 1)) 0) 0) (D.zsub .i64 a0 (D.lz a5 (D.lz a3 (D.zsub .i64 (D.llen a3) (D.zc 1)) 0) 0)))]) (D.lput a5 (D.lz a4 (D.zsub .i64 (D.llen a4) (D.zc 1)) 0) 0 [.z (D.zsub .i64 (D.lz a5 (D.lz a4 (D.zsub .i64 (D.llen a4) (D.zc 1)) 0) 0) (D.zsub .i64 a0 (D.lz a5 (D.lz a3 (D.zsub .i64 (D.llen a3) (D.zc 1)) 0) 0)))]))
def N4_3 (D : Dom) (a0 : D.Z) (a3 : D.L) (a4 : D.L) (a5 : D.L) (a6 : D.L) : D.L := (D.lite (D.zle a0 (D.lz (D.lput a5 (D.lz a4 (D.zsub .i64 (D.llen a4) (D.zc 1)) 0) 0 [.z (D.zsub .i64 (D.lz a5 (D.lz a4 (D.zsub .i64 (D.llen a4) (D.zc 1)) 0) 0) (D.zsub .i64 a0 (D.lz a5 (D.lz a3 (D.zsub .i64 (D.llen a3) (D.zc 1)) 0) 0)))]) (D.lz a4 (D.zsub .i64 (D.llen a4) (D.zc 1)) 0) 0)) (D.lput a6 (D.lz a3 (D.zsub .i64 (D.llen a3) (D.zc 1)) 0) 0 [.z (D.lz a5 (D.lz a3 (D.zsub .i64 (D.llen a3) (D.zc 1)) 0) 0), .z (D.lz a4 (D.zsub .i64 (D.llen a4) (D.zc 1)) 0)]) (D.lput a6 (D.lz a3 (D.zsub .i64 (D.llen a3) (D.zc 1)) 0) 0 [.z (D.lz a5 (D.lz a3 (D.zsub .i64 (D.llen a3) (D.zc 1)) 0) 0), .z (D.lz a4 (D.zsub .i64 (D.llen a4) (D.zc 1)) 0)]))
def G4 (D : Dom) (a0 : D.Z) (a1 : D.Z) (a2 : D.Z) (p : List (PD D)) : D.B × D.B × List (PD D) := (C4 D (nthL p 0) (nthL p 1), O4_ D a0 a1 a2 (nthL p 0) (nthL p 1) (nthL p 2), [.l (N4_0 D a0 (nthL p 0) (nthL p 1) (nthL p 2)), .l (N4_1 D a0 (nthL p 0) (nthL p 1) (nthL p 2)), .l (N4_2 D a0 (nthL p 0) (nthL p 1) (nthL p 2)), .l (N4_3 D a0 (nthL p 0) (nthL p 1) (nthL p 2) (nthL p 3))])
def L4 (D : Dom) (a0 : D.Z) (a1 : D.Z) (a2 : D.Z) (a3 : D.L) (a4 : D.L) (a5 : D.L) (a6 : D.L) : List (PD D) := D.last (G4 D a0 a1 a2) [.l a3, .l a4, .l a5, .l a6]
def E4 (D : Dom) (a0 : D.Z) (a1 : D.Z) (a2 : D.Z) (a3 : D.L) (a4 : D.L) (a5 : D.L) (a6 : D.L) : D.B := D.ends (G4 D a0 a1 a2) [.l a3, .l a4, .l a5, .l a6]

-- loop 5
def C5 (D : Dom) (a0 : D.Z) (a1 : D.Z) (a2 : D.B) (a3 : D.L) (a5 : D.Z) : D.B := (D.band (D.zlt a5 a1) (D.bite (D.band (D.band (D.zle (D.zc 0) a5) (D.zlt a5 a0)) a2) (D.bnot (D.zeq (D.lz a3 a5 0) (D.zc 1))) (D.bc true)))
def O5_ (D : Dom) (a0 : D.Z) (a1 : D.Z) (a2 : D.B) (a5 : D.Z) : D.B := (D.bite (D.zlt a5 a1) (D.band (D.band (D.zle (D.zc 0) a5) (D.zlt a5 a0)) a2) (D.bc true))
def N5_1 (D : Dom) (a5 : D.Z) : D.Z := (D.zadd .i64 a5 (D.zc 1))
def G5 (D : Dom) (a0 : D.Z) (a1 : D.Z) (a2 : D.B) (a3 : D.L) (p : List (PD D)) : D.B × D.B × List (PD D) := (C5 D a0 a1 a2 a3 (nthZ p 1), O5_ D a0 a1 a2 (nthZ p 1), [.z (nthZ p 0), .z (N5_1 D (nthZ p 1))])
def L5 (D : Dom) (a0 : D.Z) (a1 : D.Z) (a2 : D.B) (a3 : D.L) (a4 : D.Z) (a5 : D.Z) : List (PD D) := D.last (G5 D a0 a1 a2 a3) [.z a4, .z a5]
def E5 (D : Dom) (a0 : D.Z) (a1 : D.Z) (a2 : D.B) (a3 : D.L) (a4 : D.Z) (a5 : D.Z) : D.B := D.ends (G5 D a0 a1 a2 a3) [.z a4, .z a5]
def sh_0 : HSh := ⟨6, 7, [.env (.slice 2 0 2 2), .env (.clo 56 [] [.ptr 5 0]), .env (.undef), .env (.undef), .var (.si .i64 ()), .drop, .env (.slice 2 0 2 2), .env (.ki .i64 2), .var (.si .i64 ()), .drop, .drop, .drop, .drop, .drop, .drop, .drop, .drop, .drop, .drop], [], [(2, [.ki .i64 0, .fl (), .fl (), .fl (), .ki .i64 1, .fl (), .fl (), .fl ()]), (5, [.si .i64 ()])], []⟩
def st_0 (D : Dom) (env p : List (PD D)) : D.B × D.B × List (PD D) := G0 D (nthZ env 6) p
theorem rd_0 (D : Dom) (env vars : List (PD D)) (ctx : List (AV D)) : (sh_0.round (sh_0.st env vars ctx).h.length (evCodeH Try.prog (tbl_30 D) (lt_0_0 D) 80 55 (loopB Try.prog 55 0) (sh_0.st env vars ctx))).map Nr.step = some (st_0 D env vars) := by kernel_rfl
noncomputable def ll_1 (D : Dom) : List (LE D) := ⟨55, 0, sh_0, st_0 D, fun s => evCodeH Try.prog (tbl_30 D) (lt_0_0 D) 80 55 (loopB Try.prog 55 0) s⟩ :: ll_0 D
noncomputable def lt_1_0 (D : Dom) : LTb D := ltOf (ll_1 D) js_0
theorem hok_1_0 : HooksOK Try.prog (lt_1_0 R) := HooksOK.cons prg tok_30 hok_0_0 (by kernel_rfl) (by kernel_rfl) (rd_0 R)
def js_1 : List (Nat × Nat × HSh) := js_0 ++ [(55, 2000000, ⟨6, 7, [.var (.si .i64 ())], [], [], []⟩)]
noncomputable def lt_1_1 (D : Dom) : LTb D := ltOf (ll_1 D) js_1
theorem hok_1_1 : HooksOK Try.prog (lt_1_1 R) := hok_1_0.jt
def sh_1 : HSh := ⟨3, 9, [.env (.slice 1 0 2 2), .env (.slice 2 0 2 2), .env (.nilp), .env (.undef), .env (.undef), .env (.undef), .var (.nilp), .var (.si .i64 ()), .slot [.z .i64] 1, .drop, .drop, .env (.undef), .env (.slice 2 0 2 2), .env (.ki .i64 2), .env (.kb false), .env (.slice 2 0 2 2), .env (.ki .i64 2), .var (.si .i64 ()), .drop, .drop, .drop, .drop, .drop, .drop, .drop, .drop, .drop, .drop, .drop, .drop, .drop, .drop, .drop, .drop, .drop, .drop, .drop, .drop, .drop, .drop, .drop, .drop, .drop, .drop, .drop, .drop, .drop, .drop, .drop, .drop, .drop, .drop, .drop, .drop, .drop, .drop, .drop, .drop, .env (.undef), .env (.undef), .env (.undef), .env (.undef), .env (.undef), .env (.undef), .env (.undef), .env (.undef), .env (.undef), .env (.undef), .env (.undef), .env (.undef), .env (.undef), .env (.undef), .env (.undef), .env (.undef), .env (.undef), .env (.undef), .env (.undef), .env (.undef), .env (.undef), .env (.undef), .env (.undef), .env (.undef)], [], [(1, [.fl (), .fl (), .fl (), .fl (), .fl (), .fl (), .fl (), .fl (), .fl (), .fl (), .fl (), .fl (), .fl (), .fl (), .fl (), .fl (), .fl (), .fl ()]), (2, [.ki .i64 0, .fl (), .fl (), .fl (), .ki .i64 1, .fl (), .fl (), .fl ()])], []⟩
def st_1 (D : Dom) (env p : List (PD D)) : D.B × D.B × List (PD D) := G1 D (nthF env 0) (nthF env 1) (nthF env 2) (nthF env 3) (nthF env 4) (nthF env 5) (nthF env 6) (nthF env 7) (nthF env 8) (nthF env 9) (nthF env 10) (nthF env 11) (nthF env 12) (nthF env 13) (nthF env 14) (nthF env 15) (nthF env 16) (nthF env 17) (nthF env 18) (nthF env 19) (nthF env 20) (nthF env 21) (nthF env 22) (nthF env 23) p
theorem rd_1 (D : Dom) (env vars : List (PD D)) (ctx : List (AV D)) : (sh_1.round (sh_1.st env vars ctx).h.length (evCodeH Try.prog (tbl_30 D) (lt_1_1 D) 80 21 (loopB Try.prog 21 0) (sh_1.st env vars ctx))).map Nr.step = some (st_1 D env vars) := by kernel_rfl
noncomputable def ll_2 (D : Dom) : List (LE D) := ⟨21, 0, sh_1, st_1 D, fun s => evCodeH Try.prog (tbl_30 D) (lt_1_1 D) 80 21 (loopB Try.prog 21 0) s⟩ :: ll_1 D
noncomputable def lt_2_1 (D : Dom) : LTb D := ltOf (ll_2 D) js_1
theorem hok_2_1 : HooksOK Try.prog (lt_2_1 R) := HooksOK.cons prg tok_30 hok_1_1 (by kernel_rfl) (by kernel_rfl) (rd_1 R)
def sh_2 : HSh := ⟨14, 14, [.env (.sslice 3 .whole none () 1), .env (.undef), .var (.si .i64 ()), .var (.si .i64 ()), .var (.si .i64 ()), .env (.undef), .drop, .env (.sslice 3 .whole none () 1), .env (.si .i64 ()), .env (.sb ()), .env (.sslice 3 .whole none () 1), .env (.si .i64 ()), .var (.si .i64 ()), .drop, .drop, .drop, .drop, .drop, .drop, .drop, .drop, .drop, .drop, .drop, .drop, .drop, .env (.undef), .env (.undef), .env (.undef), .env (.undef), .env (.undef), .env (.undef), .env (.undef), .env (.undef)], [], [(3, [.row false [.z .i64] ()])], []⟩
def st_2 (D : Dom) (env p : List (PD D)) : D.B × D.B × List (PD D) := G2 D (nthZ env 4) (nthZ env 5) (nthL env 6) p
theorem rd_2 (D : Dom) (env vars : List (PD D)) (ctx : List (AV D)) : (sh_2.round (sh_2.st env vars ctx).h.length (evCodeH Try.prog (tbl_30 D) (lt_2_1 D) 80 72 (loopB Try.prog 72 0) (sh_2.st env vars ctx))).map Nr.step = some (st_2 D env vars) := by kernel_rfl
noncomputable def ll_3 (D : Dom) : List (LE D) := ⟨72, 0, sh_2, st_2 D, fun s => evCodeH Try.prog (tbl_30 D) (lt_2_1 D) 80 72 (loopB Try.prog 72 0) s⟩ :: ll_2 D
noncomputable def lt_3_1 (D : Dom) : LTb D := ltOf (ll_3 D) js_1
theorem hok_3_1 : HooksOK Try.prog (lt_3_1 R) := HooksOK.cons prg tok_30 hok_2_1 (by kernel_rfl) (by kernel_rfl) (rd_2 R)
def js_2 : List (Nat × Nat × HSh) := js_1 ++ [(73, 11, ⟨24, 26, [.ctx, .ctx, .ctx, .ctx, .ctx, .ctx, .ctx, .ctx, .ctx, .ctx, .ctx, .ctx, .drop, .drop, .drop, .drop, .drop, .drop, .drop, .drop], [(20, .cells [.slot [.z .i64] 1]), (21, .cells [.slot [.z .i64] 1])], [], [22, 23]⟩)]
noncomputable def lt_3_2 (D : Dom) : LTb D := ltOf (ll_3 D) js_2
theorem hok_3_2 : HooksOK Try.prog (lt_3_2 R) := hok_3_1.jt
def sh_3 : HSh := ⟨22, 26, [.env (.sslice 3 .whole none () 1), .env (.undef), .env (.nilp), .env (.ki .i64 0), .env (.ptr 14 0), .env (.si .i64 ()), .env (.ptr 17 0), .env (.ptr 19 0), .env (.ptr 20 0), .env (.ptr 21 0), .env (.clo 73 [] [.ptr 19 0, .ptr 14 0, .ptr 20 0, .ptr 21 0]), .drop, .drop, .env (.undef), .env (.undef), .env (.undef), .env (.undef), .env (.tup [.si .i64 (), .si .i64 ()]), .env (.sslice 3 .whole none () 1), .env (.tup [.si .i64 (), .si .i64 ()]), .env (.si .i64 ()), .env (.si .i64 ()), .env (.si .i64 ()), .env (.sb ()), .env (.undef), .env (.sslice 3 .whole none () 1), .env (.sslice 15 .whole none () 1), .env (.si .i64 ()), .env (.sslice 3 .whole none () 1), .env (.si .i64 ()), .env (.sslice 16 .whole none () 2), .env (.agg [.sslice 15 .whole none () 1, .si .i64 (), .sslice 16 .whole none () 2]), .env (.ptr 17 0), .env (.sslice 3 .whole none () 1), .env (.si .i64 ()), .env (.sslice 18 .whole none () 1), .env (.clo 73 [] [.ptr 19 0, .ptr 14 0, .ptr 20 0, .ptr 21 0]), .env (.sslice 3 .whole none () 1), .env (.si .i64 ()), .var (.si .i64 ()), .drop, .drop, .drop, .drop, .drop, .drop, .drop, .drop, .drop, .drop, .drop, .drop, .drop, .drop, .drop, .drop, .drop, .drop, .drop, .drop, .drop, .drop, .drop, .drop, .env (.undef), .env (.undef), .env (.undef), .env (.undef), .env (.undef), .env (.undef), .env (.undef), .env (.undef), .env (.undef), .env (.undef), .env (.undef), .env (.undef), .env (.undef), .env (.undef), .env (.undef), .env (.undef), .env (.undef), .env (.undef), .env (.undef), .env (.undef), .env (.undef), .env (.undef), .env (.undef), .env (.undef), .env (.undef), .env (.undef), .env (.undef), .env (.undef), .env (.undef), .env (.undef), .env (.undef), .env (.undef), .env (.undef), .env (.undef), .env (.undef), .env (.undef), .env (.undef), .env (.undef), .env (.undef), .env (.undef), .env (.undef), .env (.undef), .env (.undef), .env (.undef), .env (.undef), .env (.undef), .env (.undef), .env (.undef), .env (.undef), .env (.undef), .env (.undef), .env (.undef), .env (.undef), .env (.undef), .env (.undef), .env (.undef), .env (.undef), .env (.undef), .env (.undef), .env (.undef), .env (.undef), .env (.undef), .env (.undef), .env (.undef)], [(20, .cells [.slot [.z .i64] 1]), (21, .cells [.slot [.z .i64] 1]), (16, .row [.z .i64, .z .i64]), (18, .row [.z .i64])], [(3, [.row false [.z .i64] ()]), (14, [.si .i64 ()]), (17, [.sslice 15 .whole none () 1, .si .i64 (), .sslice 16 .whole none () 2]), (19, [.sslice 18 .whole none () 1]), (15, [.row false [.z .i64] ()])], []⟩
def st_3 (D : Dom) (env p : List (PD D)) : D.B × D.B × List (PD D) := G3 D (nthZ env 0) (nthZ env 23) (nthZ env 24) (nthL env 25) (nthZ env 26) (nthZ env 29) (nthZ env 30) p
theorem rd_3 (D : Dom) (env vars : List (PD D)) (ctx : List (AV D)) : (sh_3.round (sh_3.st env vars ctx).h.length (evCodeH Try.prog (tbl_30 D) (lt_3_2 D) 80 44 (loopB Try.prog 44 0) (sh_3.st env vars ctx))).map Nr.step = some (st_3 D env vars) := by kernel_rfl
noncomputable def ll_4 (D : Dom) : List (LE D) := ⟨44, 0, sh_3, st_3 D, fun s => evCodeH Try.prog (tbl_30 D) (lt_3_2 D) 80 44 (loopB Try.prog 44 0) s⟩ :: ll_3 D
noncomputable def lt_4_2 (D : Dom) : LTb D := ltOf (ll_4 D) js_2
theorem hok_4_2 : HooksOK Try.prog (lt_4_2 R) := HooksOK.cons prg tok_30 hok_3_2 (by kernel_rfl) (by kernel_rfl) (rd_3 R)
def js_3 : List (Nat × Nat × HSh) := js_2 ++ [(73, 11, ⟨30, 32, [.ctx, .ctx, .ctx, .ctx, .ctx, .ctx, .ctx, .ctx, .ctx, .ctx, .ctx, .ctx, .drop, .drop, .drop, .drop, .drop, .drop, .drop, .drop], [(20, .cells [.slot [.z .i64] 1]), (21, .cells [.slot [.z .i64] 1])], [], [28, 29]⟩)]
noncomputable def lt_4_3 (D : Dom) : LTb D := ltOf (ll_4 D) js_3
theorem hok_4_3 : HooksOK Try.prog (lt_4_3 R) := hok_4_2.jt
def sh_4 : HSh := ⟨26, 32, [.env (.sslice 3 .whole none () 1), .env (.undef), .env (.nilp), .env (.ki .i64 0), .env (.ptr 14 0), .env (.si .i64 ()), .env (.ptr 17 0), .env (.ptr 19 0), .env (.ptr 20 0), .env (.ptr 21 0), .env (.clo 73 [] [.ptr 19 0, .ptr 14 0, .ptr 20 0, .ptr 21 0]), .env (.any), .env (.any), .drop, .drop, .drop, .drop, .env (.tup [.si .i64 (), .si .i64 ()]), .env (.sslice 3 .whole none () 1), .env (.tup [.si .i64 (), .si .i64 ()]), .env (.si .i64 ()), .env (.si .i64 ()), .env (.si .i64 ()), .env (.sb ()), .env (.undef), .env (.sslice 3 .whole none () 1), .env (.sslice 15 .whole none () 1), .env (.si .i64 ()), .env (.sslice 3 .whole none () 1), .env (.si .i64 ()), .env (.sslice 16 .whole none () 2), .env (.agg [.sslice 15 .whole none () 1, .si .i64 (), .sslice 16 .whole none () 2]), .env (.ptr 17 0), .env (.sslice 3 .whole none () 1), .env (.si .i64 ()), .env (.sslice 18 .whole none () 1), .env (.clo 73 [] [.ptr 19 0, .ptr 14 0, .ptr 20 0, .ptr 21 0]), .env (.sslice 3 .whole none () 1), .env (.si .i64 ()), .env (.si .i64 ()), .env (.sb ()), .env (.any), .env (.any), .env (.any), .env (.any), .env (.any), .env (.any), .env (.any), .env (.any), .env (.any), .env (.any), .env (.any), .env (.any), .env (.any), .env (.any), .env (.any), .env (.any), .env (.any), .env (.any), .env (.any), .env (.any), .env (.any), .env (.any), .env (.any), .drop, .drop, .drop, .drop, .drop, .drop, .drop, .drop, .drop, .drop, .drop, .drop, .drop, .drop, .drop, .drop, .drop, .drop, .drop, .drop, .drop, .drop, .drop, .drop, .drop, .drop, .drop, .drop, .drop, .drop, .drop, .drop, .drop, .drop, .drop, .drop, .drop, .drop, .drop, .drop, .drop, .drop, .drop, .drop, .drop, .drop, .drop, .drop, .drop, .drop, .drop, .drop, .drop, .drop, .drop, .drop, .drop, .drop, .drop, .drop, .drop, .drop, .drop, .env (.undef)], [(18, .row [.z .i64]), (16, .row [.z .i64, .z .i64]), (20, .cells [.slot [.z .i64] 1]), (21, .cells [.slot [.z .i64] 1])], [(3, [.row false [.z .i64] ()]), (14, [.si .i64 ()]), (17, [.sslice 15 .whole none () 1, .si .i64 (), .sslice 16 .whole none () 2]), (19, [.sslice 18 .whole none () 1]), (15, [.row false [.z .i64] ()])], [22, 23]⟩
def st_4 (D : Dom) (env p : List (PD D)) : D.B × D.B × List (PD D) := G4 D (nthZ env 28) (nthZ env 31) (nthZ env 32) p
theorem rd_4 (D : Dom) (env vars : List (PD D)) (ctx : List (AV D)) : (sh_4.round (sh_4.st env vars ctx).h.length (evCodeH Try.prog (tbl_30 D) (lt_4_3 D) 80 44 (loopB Try.prog 44 2) (sh_4.st env vars ctx))).map Nr.step = some (st_4 D env vars) := by kernel_rfl
noncomputable def ll_5 (D : Dom) : List (LE D) := ⟨44, 2, sh_4, st_4 D, fun s => evCodeH Try.prog (tbl_30 D) (lt_4_3 D) 80 44 (loopB Try.prog 44 2) s⟩ :: ll_4 D
noncomputable def lt_5_3 (D : Dom) : LTb D := ltOf (ll_5 D) js_3
theorem hok_5_3 : HooksOK Try.prog (lt_5_3 R) := HooksOK.cons prg tok_30 hok_4_3 (by kernel_rfl) (by kernel_rfl) (rd_4 R)
def js_4 : List (Nat × Nat × HSh) := js_3 ++ [(51, 2000000, ⟨32, 32, [.var (.si .i64 ())], [], [], []⟩)]
def js_5 : List (Nat × Nat × HSh) := js_4 ++ [(26, 2000000, ⟨32, 32, [.var (.fl ())], [], [], []⟩)]
def js_6 : List (Nat × Nat × HSh) := js_5 ++ [(11, 2000000, ⟨32, 32, [.var (.fl ())], [], [], []⟩)]
def js_7 : List (Nat × Nat × HSh) := js_6 ++ [(52, 2000000, ⟨32, 32, [.var (.si .i64 ())], [], [], []⟩)]
def js_8 : List (Nat × Nat × HSh) := js_7 ++ [(53, 2000000, ⟨32, 32, [.var (.si .i64 ())], [], [], []⟩)]
def js_9 : List (Nat × Nat × HSh) := js_8 ++ [(10, 2000000, ⟨32, 32, [.var (.si .i64 ())], [], [], []⟩)]
noncomputable def lt_5_9 (D : Dom) : LTb D := ltOf (ll_5 D) js_9
theorem hok_5_9 : HooksOK Try.prog (lt_5_9 R) := hok_5_3.jt
def sh_5 : HSh := ⟨33, 34, [.env (.sslice 12 .whole none () 4), .env (.clo 56 [] [.ptr 32 0]), .env (.undef), .env (.undef), .var (.si .i64 ()), .drop, .env (.sslice 12 .whole none () 4), .env (.si .i64 ()), .var (.si .i64 ()), .drop, .drop, .drop, .drop, .drop, .drop, .drop, .drop, .drop, .drop], [], [(12, [.gh () [.row false [.z .i64, .f, .f, .f] ()]]), (32, [.ki .i64 1])], []⟩
def st_5 (D : Dom) (env p : List (PD D)) : D.B × D.B × List (PD D) := G5 D (nthZ env 0) (nthZ env 2) (nthB env 3) (nthL env 4) p
theorem rd_5 (D : Dom) (env vars : List (PD D)) (ctx : List (AV D)) : (sh_5.round (sh_5.st env vars ctx).h.length (evCodeH Try.prog (tbl_30 D) (lt_5_9 D) 80 55 (loopB Try.prog 55 0) (sh_5.st env vars ctx))).map Nr.step = some (st_5 D env vars) := by kernel_rfl
noncomputable def ll_6 (D : Dom) : List (LE D) := ⟨55, 0, sh_5, st_5 D, fun s => evCodeH Try.prog (tbl_30 D) (lt_5_9 D) 80 55 (loopB Try.prog 55 0) s⟩ :: ll_5 D
noncomputable def lt_6_9 (D : Dom) : LTb D := ltOf (ll_6 D) js_9
theorem hok_6_9 : HooksOK Try.prog (lt_6_9 R) := HooksOK.cons prg tok_30 hok_5_9 (by kernel_rfl) (by kernel_rfl) (rd_5 R)
def js_10 : List (Nat × Nat × HSh) := js_9 ++ [(55, 2000000, ⟨33, 34, [.var (.si .i64 ())], [], [], []⟩)]
def js_11 : List (Nat × Nat × HSh) := js_10 ++ [(13, 2000000, ⟨32, 34, [.var (.si .i64 ())], [], [], []⟩)]
def js_12 : List (Nat × Nat × HSh) := js_11 ++ [(9, 2000000, ⟨34, 34, [.var (.si .i64 ())], [], [], []⟩)]
def js_13 : List (Nat × Nat × HSh) := js_12 ++ [(17, 2000000, ⟨34, 38, [.var (.agg [.fl (), .fl (), .fl ()])], [], [], []⟩)]
def js_14 : List (Nat × Nat × HSh) := js_13 ++ [(17, 2000000, ⟨38, 42, [.var (.agg [.fl (), .fl (), .fl ()])], [], [], []⟩)]
noncomputable def lt_6_14 (D : Dom) : LTb D := ltOf (ll_6 D) js_14
theorem hok_6_14 : HooksOK Try.prog (lt_6_14 R) := hok_6_9.jt

-- penumbra/penumbralaw18.awake
def WS6_0_0 (D : Dom)  : List (PD D) := (L1 D (D.fc 0) (D.fc 0) (D.fc 0) (D.fc 4607182418800017408) (D.fc 0) (D.fc 0) (D.fc 0) (D.fc 4611686018427387904) (D.fc 0) (D.fc 0) (D.fc 0) (D.fc 0) (D.fc 4607182418800017408) (D.fc 0) (D.fc 0) (D.fc 0) (D.fc 4611686018427387904) (D.fc 0) (D.fc 4607182418800017408) (D.fc 4607182418800017408) (D.fc 4607182418800017408) (D.fc 4613937818241073152) (D.fc 4613937818241073152) (D.fc 4613937818241073152) D.lnil (D.zc 0) (D.zc 0))
def WS6_0_1 (D : Dom)  : D.B := (D.bnot (D.bnot (D.zlt (nthZ (WS6_0_0 D) 2) (D.zc 2))))
def WS6_0_2 (D : Dom)  : D.B := (D.zlt (D.zc 1024) (D.llen (nthL (WS6_0_0 D) 0)))
def WS6_0_3 (D : Dom)  : List (PD D) := (L2 D (D.llen (nthL (WS6_0_0 D) 0)) (D.llen (nthL (WS6_0_0 D) 0)) (nthL (WS6_0_0 D) 0) (D.zc 0) (D.zc 0) (D.zc 0) (D.zc 0))
def WS6_0_4 (D : Dom)  : D.B := (D.zlt (nthZ (WS6_0_3 D) 3) (D.llen (nthL (WS6_0_0 D) 0)))
def WS6_0_5 (D : Dom)  : D.B := (D.zeq (D.llen (nthL (WS6_0_0 D) 0)) (D.zc 0))
def WS6_0_6 (D : Dom)  : D.B := (D.bite (WS6_0_5 D) (D.bc true) (D.zeq (nthZ (WS6_0_3 D) 2) (D.zc 0)))
def WS6_0_7 (D : Dom)  : D.B := (D.bnot (D.bnot (D.bnot (D.zeq (D.zite (WS6_0_2 D) (D.zc 4) (D.zite (WS6_0_4 D) (D.zc 2) (D.zite (WS6_0_6 D) (D.zite (WS6_0_5 D) (D.zc 2) (D.zc 13)) (D.zc 0)))) (D.zc 0)))))
def WS6_0_8 (D : Dom)  : D.Z := (D.zite (WS6_0_7 D) (D.zc 0) (D.llen (nthL (WS6_0_0 D) 0)))
def WS6_0_9 (D : Dom)  : D.Z := (D.zite (WS6_0_2 D) (D.zc 0) (D.zite (WS6_0_4 D) (D.zc 0) (D.zite (WS6_0_6 D) (D.zc 0) (nthZ (WS6_0_3 D) 2))))
def WS6_0_10 (D : Dom)  : D.Z := (D.zmul .i64 (WS6_0_8 D) (D.zite (WS6_0_7 D) (D.zc 0) (WS6_0_9 D)))
def WS6_0_11 (D : Dom)  : D.Z := (D.zmin (D.f2i .i64 (D.fmul (D.fite (D.bnot (D.bite (D.fge (D.fc 4607092346807469998) (D.fc 0)) (D.flt (D.fc 4607092346807469998) (D.fc 4607182418800017408)) (D.bc false))) (D.fc 0) (D.fc 4607092346807469998)) (D.i2f (WS6_0_10 D)))) (D.zsub .i64 (WS6_0_10 D) (D.zc 1)))
def WS6_0_12 (D : Dom)  : List (PD D) := (L3 D (D.llen (nthL (WS6_0_0 D) 0)) (D.llen (nthL (WS6_0_0 D) 0)) (D.llen (nthL (WS6_0_0 D) 0)) (nthL (WS6_0_0 D) 0) (WS6_0_9 D) (D.llen (nthL (WS6_0_0 D) 0)) (D.llen (nthL (WS6_0_0 D) 0)) D.lnil D.lnil (D.zc 0) (D.lrep (D.llen (nthL (WS6_0_0 D) 0)) [.z (D.zc 0), .z (D.zc 0)]) (D.lrep (D.llen (nthL (WS6_0_0 D) 0)) [.z (D.zc 0)]))
def WS6_0_13 (D : Dom)  : List (PD D) := (L4 D (WS6_0_9 D) (D.llen (nthL (WS6_0_0 D) 0)) (D.llen (nthL (WS6_0_0 D) 0)) (nthL (WS6_0_12 D) 0) (nthL (WS6_0_12 D) 1) (nthL (WS6_0_12 D) 4) (nthL (WS6_0_12 D) 3))
def WS6_0_14 (D : Dom)  : D.L := (D.lapp D.lnil [[.z (D.zc 0), .f (D.fc 4607182418800017408), .f (D.fc 4607182418800017408), .f (D.fc 4607182418800017408)], [.z (D.zc 1), .f (D.fc 4613937818241073152), .f (D.fc 4613937818241073152), .f (D.fc 4613937818241073152)]])
def WS6_0_15 (D : Dom)  : List (PD D) := (L5 D (D.llen (WS6_0_14 D)) (D.llen (WS6_0_14 D)) (D.bite (D.zlt (nthZ (WS6_0_0 D) 2) (D.zc 2)) (D.bc false) (D.bc true)) (WS6_0_14 D) (D.zc 0) (D.zc 0))
def WS6_0_16 (D : Dom)  : D.B := (D.bite (D.bite (WS6_0_1 D) (D.bc true) (D.bc false)) (D.bc true) (D.zle (D.llen (WS6_0_14 D)) (D.zc 1)))
def WS6_0_17 (D : Dom)  : D.B := (D.bnot (D.bite (WS6_0_16 D) (D.bc false) (D.bc true)))
def WS6_0_18 (D : Dom)  : D.L := (D.lapp D.lnil [[.f (D.fc 0), .f (D.fc 0), .f (D.fc 0), .f (D.fc 4607182418800017408), .f (D.fc 0), .f (D.fc 0), .f (D.fc 0), .f (D.fc 4611686018427387904), .f (D.fc 0)], [.f (D.fc 0), .f (D.fc 0), .f (D.fc 0), .f (D.fc 4607182418800017408), .f (D.fc 0), .f (D.fc 0), .f (D.fc 0), .f (D.fc 4611686018427387904), .f (D.fc 0)]])
def WS6_0_19 (D : Dom)  : D.Z := (D.zite (WS6_0_16 D) (D.zc 0) (D.lz (WS6_0_14 D) (D.zc 1) 0))
def WS6_0_20 (D : Dom)  : D.F := (D.fite (WS6_0_16 D) (D.fc 0) (D.lf (WS6_0_14 D) (D.zc 1) 1))
def WS6_0_21 (D : Dom)  : D.B := (D.bite (D.bite (D.bite (D.bite (D.bite (D.feq (D.fite (WS6_0_1 D) (D.fc 0) (D.fite (D.bnot (D.zlt (D.zc 0) (WS6_0_8 D))) (D.fc 0) (D.fdiv (D.i2f (D.lz (nthL (WS6_0_0 D) 0) (D.zc 0) 0)) (D.i2f (WS6_0_9 D))))) (D.fc 4598175219545276416)) (D.feq (D.fite (WS6_0_1 D) (D.fc 0) (D.fite (D.bnot (D.zlt (D.zc 1) (WS6_0_8 D))) (D.fc 0) (D.fdiv (D.i2f (D.lz (nthL (WS6_0_0 D) 0) (D.zc 1) 0)) (D.i2f (WS6_0_9 D))))) (D.fc 4604930618986332160)) (D.bc false)) (D.zeq (D.zite (WS6_0_1 D) (D.zc (-1)) (D.zite (D.bite (D.zlt (WS6_0_11 D) (D.zc 0)) (D.bc true) (D.zle (WS6_0_10 D) (WS6_0_11 D))) (D.zc (-1)) (D.zite (D.zlt (D.zrem .i64 (WS6_0_11 D) (WS6_0_9 D)) (D.lz (nthL (WS6_0_13 D) 3) (D.zquo .i64 (WS6_0_11 D) (WS6_0_9 D)) 0)) (D.zquo .i64 (WS6_0_11 D) (WS6_0_9 D)) (D.lz (nthL (WS6_0_13 D) 3) (D.zquo .i64 (WS6_0_11 D) (WS6_0_9 D)) 1)))) (D.zc 1)) (D.bc false)) (D.zeq (D.zite (WS6_0_1 D) (D.zc (-1)) (D.zite (D.zlt (nthZ (WS6_0_15 D) 1) (D.llen (WS6_0_14 D))) (nthZ (WS6_0_15 D) 1) (D.zc (-1)))) (D.zc 1)) (D.bc false)) (D.zeq (D.zite (WS6_0_1 D) (D.zc 0) (D.llen (WS6_0_14 D))) (D.zc 2)) (D.bc false)) (D.feq (D.fite (WS6_0_17 D) (D.fc 0) (D.fite (D.bnot (S30_0 D (D.lf (WS6_0_18 D) (WS6_0_19 D) 0) (D.lf (WS6_0_18 D) (WS6_0_19 D) 1) (D.lf (WS6_0_18 D) (WS6_0_19 D) 2) (D.lf (WS6_0_18 D) (WS6_0_19 D) 3) (D.lf (WS6_0_18 D) (WS6_0_19 D) 4) (D.lf (WS6_0_18 D) (WS6_0_19 D) 5) (D.lf (WS6_0_18 D) (WS6_0_19 D) 6) (D.lf (WS6_0_18 D) (WS6_0_19 D) 7) (D.lf (WS6_0_18 D) (WS6_0_19 D) 8) (D.fc 0) (D.fc 0) (D.fc 4607182418800017408))) (D.fc 0) (WS6_0_20 D))) (D.fc 4613937818241073152)) (D.bc false))
def S6_0 (D : Dom) : D.B := (D.bite (D.bite (D.bnot (D.zeq (D.zite (D.zlt (nthZ (WS6_0_0 D) 2) (D.zc 2)) (D.zc 2) (D.zc 0)) (D.zc 0))) (D.bc true) (WS6_0_1 D)) (D.bc false) (D.bite (WS6_0_21 D) (D.feq (D.fite (WS6_0_17 D) (D.fc 0) (D.fite (D.bnot (S30_0 D (D.lf (WS6_0_18 D) (WS6_0_19 D) 0) (D.lf (WS6_0_18 D) (WS6_0_19 D) 1) (D.lf (WS6_0_18 D) (WS6_0_19 D) 2) (D.lf (WS6_0_18 D) (WS6_0_19 D) 3) (D.lf (WS6_0_18 D) (WS6_0_19 D) 4) (D.lf (WS6_0_18 D) (WS6_0_19 D) 5) (D.lf (WS6_0_18 D) (WS6_0_19 D) 6) (D.lf (WS6_0_18 D) (WS6_0_19 D) 7) (D.lf (WS6_0_18 D) (WS6_0_19 D) 8) (D.fc 0) (D.fc 0) (D.fc 13830554455654793216))) (D.fc 0) (WS6_0_20 D))) (D.fc 0)) (D.bc false)))
def WO6_0 (D : Dom)  : D.B := (E1 D (D.fc 0) (D.fc 0) (D.fc 0) (D.fc 4607182418800017408) (D.fc 0) (D.fc 0) (D.fc 0) (D.fc 4611686018427387904) (D.fc 0) (D.fc 0) (D.fc 0) (D.fc 0) (D.fc 4607182418800017408) (D.fc 0) (D.fc 0) (D.fc 0) (D.fc 4611686018427387904) (D.fc 0) (D.fc 4607182418800017408) (D.fc 4607182418800017408) (D.fc 4607182418800017408) (D.fc 4613937818241073152) (D.fc 4613937818241073152) (D.fc 4613937818241073152) D.lnil (D.zc 0) (D.zc 0))
def WO6_1 (D : Dom)  : List (PD D) := (L1 D (D.fc 0) (D.fc 0) (D.fc 0) (D.fc 4607182418800017408) (D.fc 0) (D.fc 0) (D.fc 0) (D.fc 4611686018427387904) (D.fc 0) (D.fc 0) (D.fc 0) (D.fc 0) (D.fc 4607182418800017408) (D.fc 0) (D.fc 0) (D.fc 0) (D.fc 4611686018427387904) (D.fc 0) (D.fc 4607182418800017408) (D.fc 4607182418800017408) (D.fc 4607182418800017408) (D.fc 4613937818241073152) (D.fc 4613937818241073152) (D.fc 4613937818241073152) D.lnil (D.zc 0) (D.zc 0))
def WO6_2 (D : Dom)  : D.L := (D.lapp D.lnil [[.f (D.fc 0), .f (D.fc 0), .f (D.fc 0), .f (D.fc 4607182418800017408), .f (D.fc 0), .f (D.fc 0), .f (D.fc 0), .f (D.fc 4611686018427387904), .f (D.fc 0)], [.f (D.fc 0), .f (D.fc 0), .f (D.fc 0), .f (D.fc 4607182418800017408), .f (D.fc 0), .f (D.fc 0), .f (D.fc 0), .f (D.fc 4611686018427387904), .f (D.fc 0)]])
def WO6_3 (D : Dom)  : D.L := (D.lapp D.lnil [[.z (D.zc 0), .f (D.fc 4607182418800017408), .f (D.fc 4607182418800017408), .f (D.fc 4607182418800017408)], [.z (D.zc 1), .f (D.fc 4613937818241073152), .f (D.fc 4613937818241073152), .f (D.fc 4613937818241073152)]])
def WO6_4 (D : Dom)  : D.B := (D.zlt (D.zc 1024) (D.llen (nthL (WO6_1 D) 0)))
def WO6_5 (D : Dom)  : D.B := (E2 D (D.llen (nthL (WO6_1 D) 0)) (D.llen (nthL (WO6_1 D) 0)) (nthL (WO6_1 D) 0) (D.zc 0) (D.zc 0) (D.zc 0) (D.zc 0))
def WO6_6 (D : Dom)  : List (PD D) := (L2 D (D.llen (nthL (WO6_1 D) 0)) (D.llen (nthL (WO6_1 D) 0)) (nthL (WO6_1 D) 0) (D.zc 0) (D.zc 0) (D.zc 0) (D.zc 0))
def WO6_7 (D : Dom)  : D.B := (D.zlt (nthZ (WO6_6 D) 3) (D.llen (nthL (WO6_1 D) 0)))
def WO6_8 (D : Dom)  : D.B := (D.zeq (D.llen (nthL (WO6_1 D) 0)) (D.zc 0))
def WO6_9 (D : Dom)  : D.B := (D.bite (WO6_8 D) (D.bc true) (D.zeq (nthZ (WO6_6 D) 2) (D.zc 0)))
def WO6_10 (D : Dom)  : D.B := (D.bnot (D.zeq (D.zite (WO6_4 D) (D.zc 4) (D.zite (WO6_7 D) (D.zc 2) (D.zite (WO6_9 D) (D.zite (WO6_8 D) (D.zc 2) (D.zc 13)) (D.zc 0)))) (D.zc 0)))
def WO6_11 (D : Dom)  : D.B := (D.zle (D.llen (nthL (WO6_1 D) 0)) (D.zc 1073741824))
def WO6_12 (D : Dom)  : D.B := (D.band (D.zle (D.zc 0) (D.llen (nthL (WO6_1 D) 0))) (WO6_11 D))
def WO6_13 (D : Dom)  : D.Z := (D.zite (WO6_4 D) (D.zc 0) (D.zite (WO6_7 D) (D.zc 0) (D.zite (WO6_9 D) (D.zc 0) (nthZ (WO6_6 D) 2))))
def WO6_14 (D : Dom)  : D.L := (D.lrep (D.llen (nthL (WO6_1 D) 0)) [.z (D.zc 0), .z (D.zc 0)])
def WO6_15 (D : Dom)  : D.L := (D.lrep (D.llen (nthL (WO6_1 D) 0)) [.z (D.zc 0)])
def WO6_16 (D : Dom)  : D.B := (E3 D (D.llen (nthL (WO6_1 D) 0)) (D.llen (nthL (WO6_1 D) 0)) (D.llen (nthL (WO6_1 D) 0)) (nthL (WO6_1 D) 0) (WO6_13 D) (D.llen (nthL (WO6_1 D) 0)) (D.llen (nthL (WO6_1 D) 0)) D.lnil D.lnil (D.zc 0) (WO6_14 D) (WO6_15 D))
def WO6_17 (D : Dom)  : List (PD D) := (L3 D (D.llen (nthL (WO6_1 D) 0)) (D.llen (nthL (WO6_1 D) 0)) (D.llen (nthL (WO6_1 D) 0)) (nthL (WO6_1 D) 0) (WO6_13 D) (D.llen (nthL (WO6_1 D) 0)) (D.llen (nthL (WO6_1 D) 0)) D.lnil D.lnil (D.zc 0) (WO6_14 D) (WO6_15 D))
def WO6_18 (D : Dom)  : D.B := (E4 D (WO6_13 D) (D.llen (nthL (WO6_1 D) 0)) (D.llen (nthL (WO6_1 D) 0)) (nthL (WO6_17 D) 0) (nthL (WO6_17 D) 1) (nthL (WO6_17 D) 4) (nthL (WO6_17 D) 3))
def WO6_19 (D : Dom)  : D.B := (D.bnot (D.zlt (nthZ (WO6_1 D) 2) (D.zc 2)))
def WO6_20 (D : Dom)  : D.B := (D.bite (D.zlt (nthZ (WO6_1 D) 2) (D.zc 2)) (D.bc false) (D.bc true))
def WO6_21 (D : Dom)  : D.B := (D.bite (D.zlt (nthZ (WO6_1 D) 2) (D.zc 2)) (D.bc false) (D.bite (WO6_10 D) (D.bc false) (D.bc true)))
def WO6_22 (D : Dom)  : D.B := (D.bite (D.bnot (D.bnot (WO6_10 D))) (D.bc true) (D.band (D.bnot (WO6_10 D)) (WO6_21 D)))
def WO6_23 (D : Dom)  : D.Z := (D.zite (D.bnot (D.bnot (WO6_10 D))) (D.zc 0) (D.llen (nthL (WO6_1 D) 0)))
def WO6_24 (D : Dom)  : D.B := (D.band (WO6_21 D) (D.band (D.bnot (WO6_10 D)) (WO6_21 D)))
def WO6_25 (D : Dom)  : D.B := (D.feq (D.fite (D.bnot (WO6_19 D)) (D.fc 0) (D.fite (D.bnot (D.zlt (D.zc 0) (WO6_23 D))) (D.fc 0) (D.fdiv (D.i2f (D.lz (nthL (WO6_1 D) 0) (D.zc 0) 0)) (D.i2f (WO6_13 D))))) (D.fc 4598175219545276416))
def WO6_26 (D : Dom)  : D.B := (D.bite (WO6_25 D) (D.feq (D.fite (D.bnot (WO6_19 D)) (D.fc 0) (D.fite (D.bnot (D.zlt (D.zc 1) (WO6_23 D))) (D.fc 0) (D.fdiv (D.i2f (D.lz (nthL (WO6_1 D) 0) (D.zc 1) 0)) (D.i2f (WO6_13 D))))) (D.fc 4604930618986332160)) (D.bc false))
def WO6_27 (D : Dom)  : D.Z := (D.zmul .i64 (WO6_23 D) (D.zite (D.bnot (D.bnot (WO6_10 D))) (D.zc 0) (WO6_13 D)))
def WO6_28 (D : Dom)  : D.F := (D.fmul (D.fite (D.bnot (D.bite (D.fge (D.fc 4607092346807469998) (D.fc 0)) (D.flt (D.fc 4607092346807469998) (D.fc 4607182418800017408)) (D.bc false))) (D.fc 0) (D.fc 4607092346807469998)) (D.i2f (WO6_27 D)))
def WO6_29 (D : Dom)  : D.Z := (D.zmin (D.f2i .i64 (WO6_28 D)) (D.zsub .i64 (WO6_27 D) (D.zc 1)))
def WO6_30 (D : Dom)  : D.B := (D.bite (D.zlt (WO6_29 D) (D.zc 0)) (D.bc true) (D.zle (WO6_27 D) (WO6_29 D)))
def WO6_31 (D : Dom)  : D.B := (D.band (D.zle (D.zc 0) (D.zquo .i64 (WO6_29 D) (WO6_13 D))) (D.zlt (D.zquo .i64 (WO6_29 D) (WO6_13 D)) (D.llen (nthL (WO6_1 D) 0))))
def WO6_32 (D : Dom)  : List (PD D) := (L4 D (WO6_13 D) (D.llen (nthL (WO6_1 D) 0)) (D.llen (nthL (WO6_1 D) 0)) (nthL (WO6_17 D) 0) (nthL (WO6_17 D) 1) (nthL (WO6_17 D) 4) (nthL (WO6_17 D) 3))
def WO6_33 (D : Dom)  : D.B := (D.zlt (D.zrem .i64 (WO6_29 D) (WO6_13 D)) (D.lz (nthL (WO6_32 D) 3) (D.zquo .i64 (WO6_29 D) (WO6_13 D)) 0))
def WO6_34 (D : Dom)  : D.B := (D.bite (WO6_26 D) (D.zeq (D.zite (D.bnot (WO6_19 D)) (D.zc (-1)) (D.zite (WO6_30 D) (D.zc (-1)) (D.zite (WO6_33 D) (D.zquo .i64 (WO6_29 D) (WO6_13 D)) (D.lz (nthL (WO6_32 D) 3) (D.zquo .i64 (WO6_29 D) (WO6_13 D)) 1)))) (D.zc 1)) (D.bc false))
def WO6_35 (D : Dom)  : D.B := (E5 D (D.llen (WO6_3 D)) (D.llen (WO6_3 D)) (WO6_20 D) (WO6_3 D) (D.zc 0) (D.zc 0))
def WO6_36 (D : Dom)  : List (PD D) := (L5 D (D.llen (WO6_3 D)) (D.llen (WO6_3 D)) (WO6_20 D) (WO6_3 D) (D.zc 0) (D.zc 0))
def WO6_37 (D : Dom)  : D.B := (D.bite (WO6_34 D) (D.zeq (D.zite (D.bnot (WO6_19 D)) (D.zc (-1)) (D.zite (D.zlt (nthZ (WO6_36 D) 1) (D.llen (WO6_3 D))) (nthZ (WO6_36 D) 1) (D.zc (-1)))) (D.zc 1)) (D.bc false))
def WO6_38 (D : Dom)  : D.B := (D.bite (D.bnot (WO6_19 D)) (D.bc true) (D.band (WO6_19 D) (WO6_20 D)))
def WO6_39 (D : Dom)  : D.B := (D.bite (WO6_37 D) (D.zeq (D.zite (D.bnot (WO6_19 D)) (D.zc 0) (D.llen (WO6_3 D))) (D.zc 2)) (D.bc false))
def WO6_40 (D : Dom)  : D.B := (D.bite (D.bnot (WO6_19 D)) (D.bc true) (D.bc false))
def WO6_41 (D : Dom)  : D.B := (D.bite (WO6_40 D) (D.bc true) (D.zle (D.llen (WO6_3 D)) (D.zc 1)))
def WO6_42 (D : Dom)  : D.B := (D.bnot (D.bite (WO6_41 D) (D.bc false) (D.bc true)))
def WO6_43 (D : Dom)  : D.Z := (D.zite (WO6_41 D) (D.zc 0) (D.lz (WO6_3 D) (D.zc 1) 0))
def WO6_44 (D : Dom)  : D.B := (D.band (D.band (D.bite (WO6_40 D) (D.bc true) (D.band (WO6_19 D) (WO6_20 D))) (D.bite (WO6_41 D) (D.bc true) (D.band (WO6_19 D) (D.band (WO6_20 D) (D.band (D.band (D.zle (D.zc 0) (D.zc 1)) (D.zlt (D.zc 1) (D.llen (WO6_3 D)))) (WO6_20 D)))))) (D.bite (WO6_42 D) (D.bc true) (D.band (WO6_19 D) (D.band (WO6_20 D) (D.band (D.band (D.zle (D.zc 0) (WO6_43 D)) (D.zlt (WO6_43 D) (D.llen (WO6_2 D)))) (WO6_20 D))))))
def WO6_45 (D : Dom)  : D.B := (D.band (D.bite (WO6_26 D) (D.bite (D.bnot (WO6_19 D)) (D.bc true) (D.band (WO6_19 D) (D.band (WO6_20 D) (D.band (D.band (WO6_22 D) (WO6_22 D)) (D.band (D.f2iok .i64 (WO6_28 D)) (D.band (D.bite (D.zlt (WO6_29 D) (D.zc 0)) (D.bc true) (D.band (WO6_22 D) (WO6_22 D))) (D.bite (WO6_30 D) (D.bc true) (D.band (D.band (D.bnot (WO6_10 D)) (D.band (WO6_21 D) (D.bnot (D.zeq (WO6_13 D) (D.zc 0))))) (D.band (D.bnot (WO6_10 D)) (D.band (WO6_21 D) (D.band (D.bnot (D.zeq (WO6_13 D) (D.zc 0))) (D.band (D.bnot (WO6_10 D)) (D.band (WO6_21 D) (D.band (WO6_31 D) (D.band (WO6_21 D) (D.bite (WO6_33 D) (D.bc true) (D.band (D.bnot (WO6_10 D)) (D.band (WO6_21 D) (D.band (WO6_31 D) (WO6_21 D)))))))))))))))))))) (D.bc true)) (D.band (D.bite (WO6_34 D) (D.bite (D.bnot (WO6_19 D)) (D.bc true) (D.band (WO6_19 D) (D.band (WO6_20 D) (WO6_35 D)))) (D.bc true)) (D.band (D.bite (WO6_37 D) (D.band (WO6_38 D) (WO6_38 D)) (D.bc true)) (D.band (D.bite (WO6_39 D) (WO6_44 D) (D.bc true)) (D.bite (D.bite (WO6_39 D) (D.feq (D.fite (WO6_42 D) (D.fc 0) (D.fite (D.bnot (S30_0 D (D.lf (WO6_2 D) (WO6_43 D) 0) (D.lf (WO6_2 D) (WO6_43 D) 1) (D.lf (WO6_2 D) (WO6_43 D) 2) (D.lf (WO6_2 D) (WO6_43 D) 3) (D.lf (WO6_2 D) (WO6_43 D) 4) (D.lf (WO6_2 D) (WO6_43 D) 5) (D.lf (WO6_2 D) (WO6_43 D) 6) (D.lf (WO6_2 D) (WO6_43 D) 7) (D.lf (WO6_2 D) (WO6_43 D) 8) (D.fc 0) (D.fc 0) (D.fc 4607182418800017408))) (D.fc 0) (D.fite (WO6_41 D) (D.fc 0) (D.lf (WO6_3 D) (D.zc 1) 1)))) (D.fc 4613937818241073152)) (D.bc false)) (WO6_44 D) (D.bc true))))))
def O6 (D : Dom) : D.B := (D.band (D.band (WO6_0 D) (D.bite (D.zlt (nthZ (WO6_1 D) 2) (D.zc 2)) (D.bc true) (D.band (D.band (D.zle (D.llen (WO6_2 D)) (D.zc 1073741824)) (D.zle (D.llen (WO6_3 D)) (D.zc 1073741824))) (D.band (D.bite (WO6_4 D) (D.bc true) (WO6_5 D)) (D.bite (WO6_10 D) (D.bc true) (D.band (WO6_11 D) (D.band (WO6_12 D) (D.band (WO6_12 D) (D.band (WO6_16 D) (WO6_18 D)))))))))) (D.bite (D.bite (D.bnot (D.zeq (D.zite (D.zlt (nthZ (WO6_1 D) 2) (D.zc 2)) (D.zc 2) (D.zc 0)) (D.zc 0))) (D.bc true) (D.bnot (WO6_19 D))) (D.bc true) (D.band (D.bite (D.bnot (WO6_19 D)) (D.bc true) (D.band (WO6_19 D) (D.band (WO6_20 D) (D.band (WO6_22 D) (D.bite (D.bnot (D.zlt (D.zc 0) (WO6_23 D))) (D.bc true) (D.band (D.bnot (WO6_10 D)) (D.band (WO6_21 D) (D.band (D.band (D.zle (D.zc 0) (D.zc 0)) (D.zlt (D.zc 0) (D.llen (nthL (WO6_1 D) 0)))) (WO6_24 D))))))))) (D.band (D.bite (WO6_25 D) (D.bite (D.bnot (WO6_19 D)) (D.bc true) (D.band (WO6_19 D) (D.band (WO6_20 D) (D.band (WO6_22 D) (D.bite (D.bnot (D.zlt (D.zc 1) (WO6_23 D))) (D.bc true) (D.band (D.bnot (WO6_10 D)) (D.band (WO6_21 D) (D.band (D.band (D.zle (D.zc 0) (D.zc 1)) (D.zlt (D.zc 1) (D.llen (nthL (WO6_1 D) 0)))) (WO6_24 D))))))))) (D.bc true)) (WO6_45 D)))))
theorem ev6 (D : Dom)  : joinT (evFnH Try.prog (tbl_30 D) (lt_6_14 D) 80 6 [] [] 0) = .val (some (O6 D)) (.sb (S6_0 D)) := by kernel_rfl
def sp6 : Ev.Spec := fun D l => arg0 l (.node (O6 D) (.ret (.sb (S6_0 D))) (.fail "pre"))
theorem en6 : ∀ l r, (sp6 R l).run = some r → Entry Try.prog 6 l r := by
  intro l r h
  obtain ⟨h, L0⟩ := arg0_inv h
  obtain ⟨hok, rfl⟩ := run_okay h
  exact (entry_loops prg tok_30 hok_6_14 (ev6 R ) (fun o ho => (Option.some.inj ho) ▸ hok) rfl).le L0
def tl_6 : List (Nat × Ev.Spec) := (6, sp6) :: tl_30
def tbl_6 (D : Dom) : Tbl D := tblOf tl_6 D
theorem tok_6 : TblOK Try.prog (tbl_6 R) := TblOK.cons tok_30 en6

-- penumbra/penumbraref12.May
def S29_0 (D : Dom) (a0 : D.F) (a1 : D.F) (a2 : D.F) (a3 : D.F) (a4 : D.F) (a5 : D.F) (a6 : D.F) (a7 : D.F) (a8 : D.F) : D.B := (D.bite (D.bite (D.bnot (D.bite (D.bite (D.bite (D.bite (D.bite (D.fge a0 (D.fc 13920626448202203136)) (D.fle a0 (D.fc 4697254411347427328)) (D.bc false)) (D.fge a1 (D.fc 13920626448202203136)) (D.bc false)) (D.fle a1 (D.fc 4697254411347427328)) (D.bc false)) (D.fge a2 (D.fc 13920626448202203136)) (D.bc false)) (D.fle a2 (D.fc 4697254411347427328)) (D.bc false))) (D.bc true) (D.bite (D.bnot (D.bite (D.bite (D.bite (D.bite (D.bite (D.fge a3 (D.fc 13920626448202203136)) (D.fle a3 (D.fc 4697254411347427328)) (D.bc false)) (D.fge a4 (D.fc 13920626448202203136)) (D.bc false)) (D.fle a4 (D.fc 4697254411347427328)) (D.bc false)) (D.fge a5 (D.fc 13920626448202203136)) (D.bc false)) (D.fle a5 (D.fc 4697254411347427328)) (D.bc false))) (D.bc true) (D.bnot (D.bite (D.bite (D.bite (D.bite (D.bite (D.fge a6 (D.fc 13920626448202203136)) (D.fle a6 (D.fc 4697254411347427328)) (D.bc false)) (D.fge a7 (D.fc 13920626448202203136)) (D.bc false)) (D.fle a7 (D.fc 4697254411347427328)) (D.bc false)) (D.fge a8 (D.fc 13920626448202203136)) (D.bc false)) (D.fle a8 (D.fc 4697254411347427328)) (D.bc false))))) (D.bc false) (D.bc true))
theorem ev29 (D : Dom) (a0 : D.F) (a1 : D.F) (a2 : D.F) (a3 : D.F) (a4 : D.F) (a5 : D.F) (a6 : D.F) (a7 : D.F) (a8 : D.F) : joinT (evFnH Try.prog (tbl_6 D) (lt_6_14 D) 80 29 [.agg [.fl a0, .fl a1, .fl a2, .fl a3, .fl a4, .fl a5, .fl a6, .fl a7, .fl a8]] [] 0) = .val none (.sb (S29_0 D a0 a1 a2 a3 a4 a5 a6 a7 a8)) := by kernel_rfl
def sp29 : Ev.Spec := fun D l => argA l fun c0 r0 => argF c0 fun a0 r1 => argF r1 fun a1 r2 => argF r2 fun a2 r3 => argF r3 fun a3 r4 => argF r4 fun a4 r5 => argF r5 fun a5 r6 => argF r6 fun a6 r7 => argF r7 fun a7 r8 => argF r8 fun a8 r9 => arg0 r9 (arg0 r0 (.ret (.sb (S29_0 D a0 a1 a2 a3 a4 a5 a6 a7 a8))))
theorem en29 : ∀ l r, (sp29 R l).run = some r → Entry Try.prog 29 l r := by
  intro l r h
  obtain ⟨_, _, h, L0⟩ := argA_inv h
  obtain ⟨x1, _, h, L1⟩ := argF_inv h
  obtain ⟨x2, _, h, L2⟩ := argF_inv h
  obtain ⟨x3, _, h, L3⟩ := argF_inv h
  obtain ⟨x4, _, h, L4⟩ := argF_inv h
  obtain ⟨x5, _, h, L5⟩ := argF_inv h
  obtain ⟨x6, _, h, L6⟩ := argF_inv h
  obtain ⟨x7, _, h, L7⟩ := argF_inv h
  obtain ⟨x8, _, h, L8⟩ := argF_inv h
  obtain ⟨x9, _, h, L9⟩ := argF_inv h
  obtain ⟨h, L10⟩ := arg0_inv h
  obtain ⟨h, L11⟩ := arg0_inv h
  cases h
  exact (entry_loops prg tok_6 hok_6_14 (ev29 R x1 x2 x3 x4 x5 x6 x7 x8 x9) (fun o ho => nomatch ho) rfl).le (L0 _ _ (L1 _ (L2 _ (L3 _ (L4 _ (L5 _ (L6 _ (L7 _ (L8 _ (L9 _ L10))))))))) L11)
def tl_29 : List (Nat × Ev.Spec) := (29, sp29) :: tl_6
def tbl_29 (D : Dom) : Tbl D := tblOf tl_29 D
theorem tok_29 : TblOK Try.prog (tbl_29 R) := TblOK.cons tok_6 en29

-- penumbra/penumbraref02.Number
def S57_0 (D : Dom) (a0 : D.F) : D.B := (D.feq (D.fsub a0 a0) (D.fc 0))
theorem ev57 (D : Dom) (a0 : D.F) : joinT (evFnH Try.prog (tbl_29 D) (lt_6_14 D) 80 57 [.fl a0] [] 0) = .val none (.sb (S57_0 D a0)) := by kernel_rfl
def sp57 : Ev.Spec := fun D l => argF l fun a0 r0 => arg0 r0 (.ret (.sb (S57_0 D a0)))
theorem en57 : ∀ l r, (sp57 R l).run = some r → Entry Try.prog 57 l r := by
  intro l r h
  obtain ⟨x0, _, h, L0⟩ := argF_inv h
  obtain ⟨h, L1⟩ := arg0_inv h
  cases h
  exact (entry_loops prg tok_29 hok_6_14 (ev57 R x0) (fun o ho => nomatch ho) rfl).le (L0 _ L1)
def tl_57 : List (Nat × Ev.Spec) := (57, sp57) :: tl_29
def tbl_57 (D : Dom) : Tbl D := tblOf tl_57 D
theorem tok_57 : TblOK Try.prog (tbl_57 R) := TblOK.cons tok_29 en57

-- penumbra/penumbraref05.Good
def S28_0 (D : Dom) (a0 : D.F) (a1 : D.F) (a2 : D.F) : D.B := (D.bite (D.bite (D.bite (D.bite (D.bite (S57_0 D a0) (S57_0 D a1) (D.bc false)) (S57_0 D a2) (D.bc false)) (D.fge a0 (D.fc 0)) (D.bc false)) (D.fge a1 (D.fc 0)) (D.bc false)) (D.fge a2 (D.fc 0)) (D.bc false))
theorem ev28 (D : Dom) (a0 : D.F) (a1 : D.F) (a2 : D.F) : joinT (evFnH Try.prog (tbl_57 D) (lt_6_14 D) 80 28 [.agg [.fl a0, .fl a1, .fl a2]] [] 0) = .val none (.sb (S28_0 D a0 a1 a2)) := by kernel_rfl
def sp28 : Ev.Spec := fun D l => argA l fun c0 r0 => argF c0 fun a0 r1 => argF r1 fun a1 r2 => argF r2 fun a2 r3 => arg0 r3 (arg0 r0 (.ret (.sb (S28_0 D a0 a1 a2))))
theorem en28 : ∀ l r, (sp28 R l).run = some r → Entry Try.prog 28 l r := by
  intro l r h
  obtain ⟨_, _, h, L0⟩ := argA_inv h
  obtain ⟨x1, _, h, L1⟩ := argF_inv h
  obtain ⟨x2, _, h, L2⟩ := argF_inv h
  obtain ⟨x3, _, h, L3⟩ := argF_inv h
  obtain ⟨h, L4⟩ := arg0_inv h
  obtain ⟨h, L5⟩ := arg0_inv h
  cases h
  exact (entry_loops prg tok_57 hok_6_14 (ev28 R x1 x2 x3) (fun o ho => nomatch ho) rfl).le (L0 _ _ (L1 _ (L2 _ (L3 _ L4))) L5)
def tl_28 : List (Nat × Ev.Spec) := (28, sp28) :: tl_57
def tbl_28 (D : Dom) : Tbl D := tblOf tl_28 D
theorem tok_28 : TblOK Try.prog (tbl_28 R) := TblOK.cons tok_57 en28

-- penumbra/penumbraref02.Sub
def S35_0 (D : Dom) (a0 : D.F) (a3 : D.F) : D.F := (D.fsub a0 a3)
def S35_1 (D : Dom) (a1 : D.F) (a4 : D.F) : D.F := (D.fsub a1 a4)
def S35_2 (D : Dom) (a2 : D.F) (a5 : D.F) : D.F := (D.fsub a2 a5)
theorem ev35 (D : Dom) (a0 : D.F) (a1 : D.F) (a2 : D.F) (a3 : D.F) (a4 : D.F) (a5 : D.F) : joinT (evFnH Try.prog (tbl_28 D) (lt_6_14 D) 80 35 [.agg [.fl a0, .fl a1, .fl a2], .agg [.fl a3, .fl a4, .fl a5]] [] 0) = .val none (.agg [.fl (S35_0 D a0 a3), .fl (S35_1 D a1 a4), .fl (S35_2 D a2 a5)]) := by kernel_rfl
def sp35 : Ev.Spec := fun D l => argA l fun c0 r0 => argF c0 fun a0 r1 => argF r1 fun a1 r2 => argF r2 fun a2 r3 => arg0 r3 (argA r0 fun c100 r100 => argF c100 fun a3 r101 => argF r101 fun a4 r102 => argF r102 fun a5 r103 => arg0 r103 (arg0 r100 (.ret (.agg [.fl (S35_0 D a0 a3), .fl (S35_1 D a1 a4), .fl (S35_2 D a2 a5)]))))
theorem en35 : ∀ l r, (sp35 R l).run = some r → Entry Try.prog 35 l r := by
  intro l r h
  obtain ⟨_, _, h, L0⟩ := argA_inv h
  obtain ⟨x1, _, h, L1⟩ := argF_inv h
  obtain ⟨x2, _, h, L2⟩ := argF_inv h
  obtain ⟨x3, _, h, L3⟩ := argF_inv h
  obtain ⟨h, L4⟩ := arg0_inv h
  obtain ⟨_, _, h, L5⟩ := argA_inv h
  obtain ⟨x6, _, h, L6⟩ := argF_inv h
  obtain ⟨x7, _, h, L7⟩ := argF_inv h
  obtain ⟨x8, _, h, L8⟩ := argF_inv h
  obtain ⟨h, L9⟩ := arg0_inv h
  obtain ⟨h, L10⟩ := arg0_inv h
  cases h
  exact (entry_loops prg tok_28 hok_6_14 (ev35 R x1 x2 x3 x6 x7 x8) (fun o ho => nomatch ho) rfl).le (L0 _ _ (L1 _ (L2 _ (L3 _ L4))) (L5 _ _ (L6 _ (L7 _ (L8 _ L9))) L10))
def tl_35 : List (Nat × Ev.Spec) := (35, sp35) :: tl_28
def tbl_35 (D : Dom) : Tbl D := tblOf tl_35 D
theorem tok_35 : TblOK Try.prog (tbl_35 R) := TblOK.cons tok_28 en35

-- penumbra/penumbraref02.less
def S84_0 (D : Dom) (a0 : D.F) (a1 : D.F) (a2 : D.F) (a3 : D.F) : D.F := (D.fsub (D.fmul a0 a1) (D.fmul a2 a3))
theorem ev84 (D : Dom) (a0 : D.F) (a1 : D.F) (a2 : D.F) (a3 : D.F) : joinT (evFnH Try.prog (tbl_35 D) (lt_6_14 D) 80 84 [.fl a0, .fl a1, .fl a2, .fl a3] [] 0) = .val none (.fl (S84_0 D a0 a1 a2 a3)) := by kernel_rfl
def sp84 : Ev.Spec := fun D l => argF l fun a0 r0 => argF r0 fun a1 r1 => argF r1 fun a2 r2 => argF r2 fun a3 r3 => arg0 r3 (.ret (.fl (S84_0 D a0 a1 a2 a3)))
theorem en84 : ∀ l r, (sp84 R l).run = some r → Entry Try.prog 84 l r := by
  intro l r h
  obtain ⟨x0, _, h, L0⟩ := argF_inv h
  obtain ⟨x1, _, h, L1⟩ := argF_inv h
  obtain ⟨x2, _, h, L2⟩ := argF_inv h
  obtain ⟨x3, _, h, L3⟩ := argF_inv h
  obtain ⟨h, L4⟩ := arg0_inv h
  cases h
  exact (entry_loops prg tok_35 hok_6_14 (ev84 R x0 x1 x2 x3) (fun o ho => nomatch ho) rfl).le (L0 _ (L1 _ (L2 _ (L3 _ L4))))
def tl_84 : List (Nat × Ev.Spec) := (84, sp84) :: tl_35
def tbl_84 (D : Dom) : Tbl D := tblOf tl_84 D
theorem tok_84 : TblOK Try.prog (tbl_84 R) := TblOK.cons tok_35 en84

-- penumbra/penumbraref02.Cross
def S67_0 (D : Dom) (a1 : D.F) (a2 : D.F) (a4 : D.F) (a5 : D.F) : D.F := (S84_0 D a1 a5 a2 a4)
def S67_1 (D : Dom) (a0 : D.F) (a2 : D.F) (a3 : D.F) (a5 : D.F) : D.F := (S84_0 D a2 a3 a0 a5)
def S67_2 (D : Dom) (a0 : D.F) (a1 : D.F) (a3 : D.F) (a4 : D.F) : D.F := (S84_0 D a0 a4 a1 a3)
theorem ev67 (D : Dom) (a0 : D.F) (a1 : D.F) (a2 : D.F) (a3 : D.F) (a4 : D.F) (a5 : D.F) : joinT (evFnH Try.prog (tbl_84 D) (lt_6_14 D) 80 67 [.agg [.fl a0, .fl a1, .fl a2], .agg [.fl a3, .fl a4, .fl a5]] [] 0) = .val none (.agg [.fl (S67_0 D a1 a2 a4 a5), .fl (S67_1 D a0 a2 a3 a5), .fl (S67_2 D a0 a1 a3 a4)]) := by kernel_rfl
def sp67 : Ev.Spec := fun D l => argA l fun c0 r0 => argF c0 fun a0 r1 => argF r1 fun a1 r2 => argF r2 fun a2 r3 => arg0 r3 (argA r0 fun c100 r100 => argF c100 fun a3 r101 => argF r101 fun a4 r102 => argF r102 fun a5 r103 => arg0 r103 (arg0 r100 (.ret (.agg [.fl (S67_0 D a1 a2 a4 a5), .fl (S67_1 D a0 a2 a3 a5), .fl (S67_2 D a0 a1 a3 a4)]))))
theorem en67 : ∀ l r, (sp67 R l).run = some r → Entry Try.prog 67 l r := by
  intro l r h
  obtain ⟨_, _, h, L0⟩ := argA_inv h
  obtain ⟨x1, _, h, L1⟩ := argF_inv h
  obtain ⟨x2, _, h, L2⟩ := argF_inv h
  obtain ⟨x3, _, h, L3⟩ := argF_inv h
  obtain ⟨h, L4⟩ := arg0_inv h
  obtain ⟨_, _, h, L5⟩ := argA_inv h
  obtain ⟨x6, _, h, L6⟩ := argF_inv h
  obtain ⟨x7, _, h, L7⟩ := argF_inv h
  obtain ⟨x8, _, h, L8⟩ := argF_inv h
  obtain ⟨h, L9⟩ := arg0_inv h
  obtain ⟨h, L10⟩ := arg0_inv h
  cases h
  exact (entry_loops prg tok_84 hok_6_14 (ev67 R x1 x2 x3 x6 x7 x8) (fun o ho => nomatch ho) rfl).le (L0 _ _ (L1 _ (L2 _ (L3 _ L4))) (L5 _ _ (L6 _ (L7 _ (L8 _ L9))) L10))
def tl_67 : List (Nat × Ev.Spec) := (67, sp67) :: tl_84
def tbl_67 (D : Dom) : Tbl D := tblOf tl_67 D
theorem tok_67 : TblOK Try.prog (tbl_67 R) := TblOK.cons tok_84 en67

-- penumbra/penumbraref10.Normal
def S33_0 (D : Dom) (a1 : D.F) (a2 : D.F) (a4 : D.F) (a5 : D.F) (a7 : D.F) (a8 : D.F) : D.F := (S67_0 D (S35_1 D a4 a1) (S35_2 D a5 a2) (S35_1 D a7 a1) (S35_2 D a8 a2))
def S33_1 (D : Dom) (a0 : D.F) (a2 : D.F) (a3 : D.F) (a5 : D.F) (a6 : D.F) (a8 : D.F) : D.F := (S67_1 D (S35_0 D a3 a0) (S35_2 D a5 a2) (S35_0 D a6 a0) (S35_2 D a8 a2))
def S33_2 (D : Dom) (a0 : D.F) (a1 : D.F) (a3 : D.F) (a4 : D.F) (a6 : D.F) (a7 : D.F) : D.F := (S67_2 D (S35_0 D a3 a0) (S35_1 D a4 a1) (S35_0 D a6 a0) (S35_1 D a7 a1))
theorem ev33 (D : Dom) (a0 : D.F) (a1 : D.F) (a2 : D.F) (a3 : D.F) (a4 : D.F) (a5 : D.F) (a6 : D.F) (a7 : D.F) (a8 : D.F) : joinT (evFnH Try.prog (tbl_67 D) (lt_6_14 D) 80 33 [.agg [.fl a0, .fl a1, .fl a2, .fl a3, .fl a4, .fl a5, .fl a6, .fl a7, .fl a8]] [] 0) = .val none (.agg [.fl (S33_0 D a1 a2 a4 a5 a7 a8), .fl (S33_1 D a0 a2 a3 a5 a6 a8), .fl (S33_2 D a0 a1 a3 a4 a6 a7)]) := by kernel_rfl
def sp33 : Ev.Spec := fun D l => argA l fun c0 r0 => argF c0 fun a0 r1 => argF r1 fun a1 r2 => argF r2 fun a2 r3 => argF r3 fun a3 r4 => argF r4 fun a4 r5 => argF r5 fun a5 r6 => argF r6 fun a6 r7 => argF r7 fun a7 r8 => argF r8 fun a8 r9 => arg0 r9 (arg0 r0 (.ret (.agg [.fl (S33_0 D a1 a2 a4 a5 a7 a8), .fl (S33_1 D a0 a2 a3 a5 a6 a8), .fl (S33_2 D a0 a1 a3 a4 a6 a7)])))
theorem en33 : ∀ l r, (sp33 R l).run = some r → Entry Try.prog 33 l r := by
  intro l r h
  obtain ⟨_, _, h, L0⟩ := argA_inv h
  obtain ⟨x1, _, h, L1⟩ := argF_inv h
  obtain ⟨x2, _, h, L2⟩ := argF_inv h
  obtain ⟨x3, _, h, L3⟩ := argF_inv h
  obtain ⟨x4, _, h, L4⟩ := argF_inv h
  obtain ⟨x5, _, h, L5⟩ := argF_inv h
  obtain ⟨x6, _, h, L6⟩ := argF_inv h
  obtain ⟨x7, _, h, L7⟩ := argF_inv h
  obtain ⟨x8, _, h, L8⟩ := argF_inv h
  obtain ⟨x9, _, h, L9⟩ := argF_inv h
  obtain ⟨h, L10⟩ := arg0_inv h
  obtain ⟨h, L11⟩ := arg0_inv h
  cases h
  exact (entry_loops prg tok_67 hok_6_14 (ev33 R x1 x2 x3 x4 x5 x6 x7 x8 x9) (fun o ho => nomatch ho) rfl).le (L0 _ _ (L1 _ (L2 _ (L3 _ (L4 _ (L5 _ (L6 _ (L7 _ (L8 _ (L9 _ L10))))))))) L11)
def tl_33 : List (Nat × Ev.Spec) := (33, sp33) :: tl_67
def tbl_33 (D : Dom) : Tbl D := tblOf tl_33 D
theorem tok_33 : TblOK Try.prog (tbl_33 R) := TblOK.cons tok_67 en33

-- penumbra/penumbraref02.Dot
def S34_0 (D : Dom) (a0 : D.F) (a1 : D.F) (a2 : D.F) (a3 : D.F) (a4 : D.F) (a5 : D.F) : D.F := (D.fadd (D.fadd (D.fmul a0 a3) (D.fmul a1 a4)) (D.fmul a2 a5))
theorem ev34 (D : Dom) (a0 : D.F) (a1 : D.F) (a2 : D.F) (a3 : D.F) (a4 : D.F) (a5 : D.F) : joinT (evFnH Try.prog (tbl_33 D) (lt_6_14 D) 80 34 [.agg [.fl a0, .fl a1, .fl a2], .agg [.fl a3, .fl a4, .fl a5]] [] 0) = .val none (.fl (S34_0 D a0 a1 a2 a3 a4 a5)) := by kernel_rfl
def sp34 : Ev.Spec := fun D l => argA l fun c0 r0 => argF c0 fun a0 r1 => argF r1 fun a1 r2 => argF r2 fun a2 r3 => arg0 r3 (argA r0 fun c100 r100 => argF c100 fun a3 r101 => argF r101 fun a4 r102 => argF r102 fun a5 r103 => arg0 r103 (arg0 r100 (.ret (.fl (S34_0 D a0 a1 a2 a3 a4 a5)))))
theorem en34 : ∀ l r, (sp34 R l).run = some r → Entry Try.prog 34 l r := by
  intro l r h
  obtain ⟨_, _, h, L0⟩ := argA_inv h
  obtain ⟨x1, _, h, L1⟩ := argF_inv h
  obtain ⟨x2, _, h, L2⟩ := argF_inv h
  obtain ⟨x3, _, h, L3⟩ := argF_inv h
  obtain ⟨h, L4⟩ := arg0_inv h
  obtain ⟨_, _, h, L5⟩ := argA_inv h
  obtain ⟨x6, _, h, L6⟩ := argF_inv h
  obtain ⟨x7, _, h, L7⟩ := argF_inv h
  obtain ⟨x8, _, h, L8⟩ := argF_inv h
  obtain ⟨h, L9⟩ := arg0_inv h
  obtain ⟨h, L10⟩ := arg0_inv h
  cases h
  exact (entry_loops prg tok_33 hok_6_14 (ev34 R x1 x2 x3 x6 x7 x8) (fun o ho => nomatch ho) rfl).le (L0 _ _ (L1 _ (L2 _ (L3 _ L4))) (L5 _ _ (L6 _ (L7 _ (L8 _ L9))) L10))
def tl_34 : List (Nat × Ev.Spec) := (34, sp34) :: tl_33
def tbl_34 (D : Dom) : Tbl D := tblOf tl_34 D
theorem tok_34 : TblOK Try.prog (tbl_34 R) := TblOK.cons tok_33 en34

-- penumbra/penumbraref18.Area
def S48_0 (D : Dom) (a0 : D.F) (a1 : D.F) (a2 : D.F) (a3 : D.F) (a4 : D.F) (a5 : D.F) (a6 : D.F) (a7 : D.F) (a8 : D.F) : D.F := (D.fmul (S66_0 D (S34_0 D (S33_0 D a1 a2 a4 a5 a7 a8) (S33_1 D a0 a2 a3 a5 a6 a8) (S33_2 D a0 a1 a3 a4 a6 a7) (S33_0 D a1 a2 a4 a5 a7 a8) (S33_1 D a0 a2 a3 a5 a6 a8) (S33_2 D a0 a1 a3 a4 a6 a7))) (D.fc 4602678819172646912))
theorem ev48 (D : Dom) (a0 : D.F) (a1 : D.F) (a2 : D.F) (a3 : D.F) (a4 : D.F) (a5 : D.F) (a6 : D.F) (a7 : D.F) (a8 : D.F) : joinT (evFnH Try.prog (tbl_34 D) (lt_6_14 D) 80 48 [.agg [.fl a0, .fl a1, .fl a2, .fl a3, .fl a4, .fl a5, .fl a6, .fl a7, .fl a8]] [] 0) = .val none (.fl (S48_0 D a0 a1 a2 a3 a4 a5 a6 a7 a8)) := by kernel_rfl
def sp48 : Ev.Spec := fun D l => argA l fun c0 r0 => argF c0 fun a0 r1 => argF r1 fun a1 r2 => argF r2 fun a2 r3 => argF r3 fun a3 r4 => argF r4 fun a4 r5 => argF r5 fun a5 r6 => argF r6 fun a6 r7 => argF r7 fun a7 r8 => argF r8 fun a8 r9 => arg0 r9 (arg0 r0 (.ret (.fl (S48_0 D a0 a1 a2 a3 a4 a5 a6 a7 a8))))
theorem en48 : ∀ l r, (sp48 R l).run = some r → Entry Try.prog 48 l r := by
  intro l r h
  obtain ⟨_, _, h, L0⟩ := argA_inv h
  obtain ⟨x1, _, h, L1⟩ := argF_inv h
  obtain ⟨x2, _, h, L2⟩ := argF_inv h
  obtain ⟨x3, _, h, L3⟩ := argF_inv h
  obtain ⟨x4, _, h, L4⟩ := argF_inv h
  obtain ⟨x5, _, h, L5⟩ := argF_inv h
  obtain ⟨x6, _, h, L6⟩ := argF_inv h
  obtain ⟨x7, _, h, L7⟩ := argF_inv h
  obtain ⟨x8, _, h, L8⟩ := argF_inv h
  obtain ⟨x9, _, h, L9⟩ := argF_inv h
  obtain ⟨h, L10⟩ := arg0_inv h
  obtain ⟨h, L11⟩ := arg0_inv h
  cases h
  exact (entry_loops prg tok_34 hok_6_14 (ev48 R x1 x2 x3 x4 x5 x6 x7 x8 x9) (fun o ho => nomatch ho) rfl).le (L0 _ _ (L1 _ (L2 _ (L3 _ (L4 _ (L5 _ (L6 _ (L7 _ (L8 _ (L9 _ L10))))))))) L11)
def tl_48 : List (Nat × Ev.Spec) := (48, sp48) :: tl_34
def tbl_48 (D : Dom) : Tbl D := tblOf tl_48 D
theorem tok_48 : TblOK Try.prog (tbl_48 R) := TblOK.cons tok_34 en48

-- penumbra/penumbraref05.Scale
def S47_0 (D : Dom) (a0 : D.F) (a3 : D.F) : D.F := (D.fmul a0 a3)
def S47_1 (D : Dom) (a1 : D.F) (a3 : D.F) : D.F := (D.fmul a1 a3)
def S47_2 (D : Dom) (a2 : D.F) (a3 : D.F) : D.F := (D.fmul a2 a3)
theorem ev47 (D : Dom) (a0 : D.F) (a1 : D.F) (a2 : D.F) (a3 : D.F) : joinT (evFnH Try.prog (tbl_48 D) (lt_6_14 D) 80 47 [.agg [.fl a0, .fl a1, .fl a2], .fl a3] [] 0) = .val none (.agg [.fl (S47_0 D a0 a3), .fl (S47_1 D a1 a3), .fl (S47_2 D a2 a3)]) := by kernel_rfl
def sp47 : Ev.Spec := fun D l => argA l fun c0 r0 => argF c0 fun a0 r1 => argF r1 fun a1 r2 => argF r2 fun a2 r3 => arg0 r3 (argF r0 fun a3 r100 => arg0 r100 (.ret (.agg [.fl (S47_0 D a0 a3), .fl (S47_1 D a1 a3), .fl (S47_2 D a2 a3)])))
theorem en47 : ∀ l r, (sp47 R l).run = some r → Entry Try.prog 47 l r := by
  intro l r h
  obtain ⟨_, _, h, L0⟩ := argA_inv h
  obtain ⟨x1, _, h, L1⟩ := argF_inv h
  obtain ⟨x2, _, h, L2⟩ := argF_inv h
  obtain ⟨x3, _, h, L3⟩ := argF_inv h
  obtain ⟨h, L4⟩ := arg0_inv h
  obtain ⟨x5, _, h, L5⟩ := argF_inv h
  obtain ⟨h, L6⟩ := arg0_inv h
  cases h
  exact (entry_loops prg tok_48 hok_6_14 (ev47 R x1 x2 x3 x5) (fun o ho => nomatch ho) rfl).le (L0 _ _ (L1 _ (L2 _ (L3 _ L4))) (L5 _ L6))
def tl_47 : List (Nat × Ev.Spec) := (47, sp47) :: tl_48
def tbl_47 (D : Dom) : Tbl D := tblOf tl_47 D
theorem tok_47 : TblOK Try.prog (tbl_47 R) := TblOK.cons tok_48 en47

-- penumbra/penumbraref05.Mean
def S76_0 (D : Dom) (a0 : D.F) (a1 : D.F) (a2 : D.F) : D.F := (D.fdiv (D.fadd (D.fadd a0 a1) a2) (D.fc 4613937818241073152))
theorem ev76 (D : Dom) (a0 : D.F) (a1 : D.F) (a2 : D.F) : joinT (evFnH Try.prog (tbl_47 D) (lt_6_14 D) 80 76 [.agg [.fl a0, .fl a1, .fl a2]] [] 0) = .val none (.fl (S76_0 D a0 a1 a2)) := by kernel_rfl
def sp76 : Ev.Spec := fun D l => argA l fun c0 r0 => argF c0 fun a0 r1 => argF r1 fun a1 r2 => argF r2 fun a2 r3 => arg0 r3 (arg0 r0 (.ret (.fl (S76_0 D a0 a1 a2))))
theorem en76 : ∀ l r, (sp76 R l).run = some r → Entry Try.prog 76 l r := by
  intro l r h
  obtain ⟨_, _, h, L0⟩ := argA_inv h
  obtain ⟨x1, _, h, L1⟩ := argF_inv h
  obtain ⟨x2, _, h, L2⟩ := argF_inv h
  obtain ⟨x3, _, h, L3⟩ := argF_inv h
  obtain ⟨h, L4⟩ := arg0_inv h
  obtain ⟨h, L5⟩ := arg0_inv h
  cases h
  exact (entry_loops prg tok_47 hok_6_14 (ev76 R x1 x2 x3) (fun o ho => nomatch ho) rfl).le (L0 _ _ (L1 _ (L2 _ (L3 _ L4))) L5)
def tl_76 : List (Nat × Ev.Spec) := (76, sp76) :: tl_47
def tbl_76 (D : Dom) : Tbl D := tblOf tl_76 D
theorem tok_76 : TblOK Try.prog (tbl_76 R) := TblOK.cons tok_47 en76

-- penumbra/penumbraref05.Weight
def S46_0 (D : Dom) (a0 : D.F) (a1 : D.F) (a2 : D.F) : D.Z := (D.zite (D.bite (D.bnot (S28_0 D a0 a1 a2)) (D.bc true) (D.bite (D.feq a0 (D.fc 0)) (D.bite (D.feq a1 (D.fc 0)) (D.feq a2 (D.fc 0)) (D.bc false)) (D.bc false))) (D.zc 0) (D.zite (D.fge (D.fmul (S76_0 D a0 a1 a2) (D.fc 4625196817309499392)) (D.fc 4697254411347427328)) (D.zc 1048576) (D.zite (D.flt (D.fmul (S76_0 D a0 a1 a2) (D.fc 4625196817309499392)) (D.fc 4607182418800017408)) (D.zc 1) (D.f2i .i64 (D.fmul (S76_0 D a0 a1 a2) (D.fc 4625196817309499392))))))
def O46 (D : Dom) (a0 : D.F) (a1 : D.F) (a2 : D.F) : D.B := (D.bite (D.bite (D.bnot (S28_0 D a0 a1 a2)) (D.bc true) (D.bite (D.feq a0 (D.fc 0)) (D.bite (D.feq a1 (D.fc 0)) (D.feq a2 (D.fc 0)) (D.bc false)) (D.bc false))) (D.bc true) (D.bite (D.fge (D.fmul (S76_0 D a0 a1 a2) (D.fc 4625196817309499392)) (D.fc 4697254411347427328)) (D.bc true) (D.bite (D.flt (D.fmul (S76_0 D a0 a1 a2) (D.fc 4625196817309499392)) (D.fc 4607182418800017408)) (D.bc true) (D.f2iok .i64 (D.fmul (S76_0 D a0 a1 a2) (D.fc 4625196817309499392))))))
theorem ev46 (D : Dom) (a0 : D.F) (a1 : D.F) (a2 : D.F) : joinT (evFnH Try.prog (tbl_76 D) (lt_6_14 D) 80 46 [.agg [.fl a0, .fl a1, .fl a2]] [] 0) = .val (some (O46 D a0 a1 a2)) (.si .i64 (S46_0 D a0 a1 a2)) := by kernel_rfl
def sp46 : Ev.Spec := fun D l => argA l fun c0 r0 => argF c0 fun a0 r1 => argF r1 fun a1 r2 => argF r2 fun a2 r3 => arg0 r3 (arg0 r0 (.node (O46 D a0 a1 a2) (.ret (.si .i64 (S46_0 D a0 a1 a2))) (.fail "pre")))
theorem en46 : ∀ l r, (sp46 R l).run = some r → Entry Try.prog 46 l r := by
  intro l r h
  obtain ⟨_, _, h, L0⟩ := argA_inv h
  obtain ⟨x1, _, h, L1⟩ := argF_inv h
  obtain ⟨x2, _, h, L2⟩ := argF_inv h
  obtain ⟨x3, _, h, L3⟩ := argF_inv h
  obtain ⟨h, L4⟩ := arg0_inv h
  obtain ⟨h, L5⟩ := arg0_inv h
  obtain ⟨hok, rfl⟩ := run_okay h
  exact (entry_loops prg tok_76 hok_6_14 (ev46 R x1 x2 x3) (fun o ho => (Option.some.inj ho) ▸ hok) rfl).le (L0 _ _ (L1 _ (L2 _ (L3 _ L4))) L5)
def tl_46 : List (Nat × Ev.Spec) := (46, sp46) :: tl_76
def tbl_46 (D : Dom) : Tbl D := tblOf tl_46 D
theorem tok_46 : TblOK Try.prog (tbl_46 R) := TblOK.cons tok_76 en46

-- penumbra/penumbraref01.Low
def S49_0 (D : Dom) (a0 : D.Z) (a1 : D.Z) : D.Z := (D.zite (D.zlt a0 a1) a0 a1)
theorem ev49 (D : Dom) (a0 : D.Z) (a1 : D.Z) : joinT (evFnH Try.prog (tbl_46 D) (lt_6_14 D) 80 49 [.si .i64 a0, .si .i64 a1] [] 0) = .val none (.si .i64 (S49_0 D a0 a1)) := by kernel_rfl
def sp49 : Ev.Spec := fun D l => argZ .i64 l fun a0 r0 => argZ .i64 r0 fun a1 r1 => arg0 r1 (.ret (.si .i64 (S49_0 D a0 a1)))
theorem en49 : ∀ l r, (sp49 R l).run = some r → Entry Try.prog 49 l r := by
  intro l r h
  obtain ⟨x0, _, h, L0⟩ := argZ_inv h
  obtain ⟨x1, _, h, L1⟩ := argZ_inv h
  obtain ⟨h, L2⟩ := arg0_inv h
  cases h
  exact (entry_loops prg tok_46 hok_6_14 (ev49 R x0 x1) (fun o ho => nomatch ho) rfl).le (L0 _ (L1 _ L2))
def tl_49 : List (Nat × Ev.Spec) := (49, sp49) :: tl_46
def tbl_49 (D : Dom) : Tbl D := tblOf tl_49 D
theorem tok_49 : TblOK Try.prog (tbl_49 R) := TblOK.cons tok_46 en49

-- loop 6
def C6 (D : Dom) (a0 : D.Z) (a3 : D.Z) : D.B := (D.bite (D.zlt a3 a0) (D.zlt a3 (D.zc 20)) (D.bc false))
def O6_ (D : Dom) (a0 : D.Z) (a1 : D.L) (a2 : D.L) (a3 : D.Z) : D.B := (D.bite (D.bite (D.zlt a3 a0) (D.zlt a3 (D.zc 20)) (D.bc false)) (D.band (D.band (D.zle (D.zc 0) a3) (D.zlt a3 a0)) (D.bite (S29_0 D (D.lf a1 a3 0) (D.lf a1 a3 1) (D.lf a1 a3 2) (D.lf a1 a3 3) (D.lf a1 a3 4) (D.lf a1 a3 5) (D.lf a1 a3 6) (D.lf a1 a3 7) (D.lf a1 a3 8)) (D.band (D.band (D.zle (D.zc 0) a3) (D.zlt a3 a0)) (D.zle (D.llen (D.lapp a2 [[.f (D.lf a1 a3 0), .f (D.lf a1 a3 1), .f (D.lf a1 a3 2), .f (D.lf a1 a3 3), .f (D.lf a1 a3 4), .f (D.lf a1 a3 5), .f (D.lf a1 a3 6), .f (D.lf a1 a3 7), .f (D.lf a1 a3 8)]])) (D.zc 1073741824))) (D.bc true))) (D.bc true))
def N6_0 (D : Dom) (a1 : D.L) (a2 : D.L) (a3 : D.Z) : D.L := (D.lite (S29_0 D (D.lf a1 a3 0) (D.lf a1 a3 1) (D.lf a1 a3 2) (D.lf a1 a3 3) (D.lf a1 a3 4) (D.lf a1 a3 5) (D.lf a1 a3 6) (D.lf a1 a3 7) (D.lf a1 a3 8)) (D.lapp a2 [[.f (D.lf a1 a3 0), .f (D.lf a1 a3 1), .f (D.lf a1 a3 2), .f (D.lf a1 a3 3), .f (D.lf a1 a3 4), .f (D.lf a1 a3 5), .f (D.lf a1 a3 6), .f (D.lf a1 a3 7), .f (D.lf a1 a3 8)]]) a2)
def N6_1 (D : Dom) (a3 : D.Z) : D.Z := (D.zadd .i64 a3 (D.zc 1))
def G6 (D : Dom) (a0 : D.Z) (a1 : D.L) (p : List (PD D)) : D.B × D.B × List (PD D) := (C6 D a0 (nthZ p 1), O6_ D a0 a1 (nthL p 0) (nthZ p 1), [.l (N6_0 D a1 (nthL p 0) (nthZ p 1)), .z (N6_1 D (nthZ p 1))])
def L6 (D : Dom) (a0 : D.Z) (a1 : D.L) (a2 : D.L) (a3 : D.Z) : List (PD D) := D.last (G6 D a0 a1) [.l a2, .z a3]
def E6 (D : Dom) (a0 : D.Z) (a1 : D.L) (a2 : D.L) (a3 : D.Z) : D.B := D.ends (G6 D a0 a1) [.l a2, .z a3]

-- loop 7
def C7 (D : Dom) (a0 : D.L) (a1 : D.Z) (a3 : D.Z) : D.B := (D.band (D.zlt a3 a1) (D.bite (D.band (D.zle (D.zc 0) a3) (D.zlt a3 a1)) (D.bnot (D.bnot (S28_0 D (D.lf a0 a3 0) (D.lf a0 a3 1) (D.lf a0 a3 2)))) (D.bc true)))
def O7_ (D : Dom) (a1 : D.Z) (a3 : D.Z) : D.B := (D.bite (D.zlt a3 a1) (D.band (D.zle (D.zc 0) a3) (D.zlt a3 a1)) (D.bc true))
def N7_1 (D : Dom) (a3 : D.Z) : D.Z := (D.zadd .i64 a3 (D.zc 1))
def G7 (D : Dom) (a0 : D.L) (a1 : D.Z) (p : List (PD D)) : D.B × D.B × List (PD D) := (C7 D a0 a1 (nthZ p 1), O7_ D a1 (nthZ p 1), [.b (nthB p 0), .z (N7_1 D (nthZ p 1))])
def L7 (D : Dom) (a0 : D.L) (a1 : D.Z) (a2 : D.B) (a3 : D.Z) : List (PD D) := D.last (G7 D a0 a1) [.b a2, .z a3]
def E7 (D : Dom) (a0 : D.L) (a1 : D.Z) (a2 : D.B) (a3 : D.Z) : D.B := D.ends (G7 D a0 a1) [.b a2, .z a3]

-- loop 8
def C8 (D : Dom) (a0 : D.Z) (a1 : D.Z) (a2 : D.L) (a3 : D.L) (a5 : D.Z) : D.B := (D.band (D.zlt a5 a1) (D.bite (D.band (D.band (D.zle (D.zc 0) a5) (D.zlt a5 a0)) (D.bite (D.bnot (S39_0 D (D.lf a2 a5 0) (D.lf a2 a5 1) (D.lf a2 a5 2))) (D.bc true) (D.band (O45 D (D.lf a2 a5 0) (D.lf a2 a5 1) (D.lf a2 a5 2)) (D.zle (D.llen (D.lapp a3 [[.z (S45_0 D (D.lf a2 a5 0) (D.lf a2 a5 1) (D.lf a2 a5 2))]])) (D.zc 1073741824))))) (D.bnot (D.bnot (S39_0 D (D.lf a2 a5 0) (D.lf a2 a5 1) (D.lf a2 a5 2)))) (D.bc true)))
def O8_ (D : Dom) (a0 : D.Z) (a1 : D.Z) (a2 : D.L) (a3 : D.L) (a5 : D.Z) : D.B := (D.bite (D.zlt a5 a1) (D.band (D.band (D.zle (D.zc 0) a5) (D.zlt a5 a0)) (D.bite (D.bnot (S39_0 D (D.lf a2 a5 0) (D.lf a2 a5 1) (D.lf a2 a5 2))) (D.bc true) (D.band (O45 D (D.lf a2 a5 0) (D.lf a2 a5 1) (D.lf a2 a5 2)) (D.zle (D.llen (D.lapp a3 [[.z (S45_0 D (D.lf a2 a5 0) (D.lf a2 a5 1) (D.lf a2 a5 2))]])) (D.zc 1073741824))))) (D.bc true))
def N8_0 (D : Dom) (a2 : D.L) (a3 : D.L) (a5 : D.Z) : D.L := (D.lapp a3 [[.z (S45_0 D (D.lf a2 a5 0) (D.lf a2 a5 1) (D.lf a2 a5 2))]])
def N8_2 (D : Dom) (a5 : D.Z) : D.Z := (D.zadd .i64 a5 (D.zc 1))
def G8 (D : Dom) (a0 : D.Z) (a1 : D.Z) (a2 : D.L) (p : List (PD D)) : D.B × D.B × List (PD D) := (C8 D a0 a1 a2 (nthL p 0) (nthZ p 2), O8_ D a0 a1 a2 (nthL p 0) (nthZ p 2), [.l (N8_0 D a2 (nthL p 0) (nthZ p 2)), .z (nthZ p 1), .z (N8_2 D (nthZ p 2))])
def L8 (D : Dom) (a0 : D.Z) (a1 : D.Z) (a2 : D.L) (a3 : D.L) (a4 : D.Z) (a5 : D.Z) : List (PD D) := D.last (G8 D a0 a1 a2) [.l a3, .z a4, .z a5]
def E8 (D : Dom) (a0 : D.Z) (a1 : D.Z) (a2 : D.L) (a3 : D.L) (a4 : D.Z) (a5 : D.Z) : D.B := D.ends (G8 D a0 a1 a2) [.l a3, .z a4, .z a5]

-- loop 9
def C9 (D : Dom) (a0 : D.Z) (a1 : D.Z) (a2 : D.L) (a3 : D.Z) (a5 : D.Z) : D.B := (D.band (D.zlt a5 a1) (D.bite (D.band (D.zle (D.zc 0) a5) (D.zlt a5 a0)) (D.bnot (D.zeq (D.lz a2 a5 0) a3)) (D.bc true)))
def O9_ (D : Dom) (a0 : D.Z) (a1 : D.Z) (a5 : D.Z) : D.B := (D.bite (D.zlt a5 a1) (D.band (D.zle (D.zc 0) a5) (D.zlt a5 a0)) (D.bc true))
def N9_1 (D : Dom) (a5 : D.Z) : D.Z := (D.zadd .i64 a5 (D.zc 1))
def G9 (D : Dom) (a0 : D.Z) (a1 : D.Z) (a2 : D.L) (a3 : D.Z) (p : List (PD D)) : D.B × D.B × List (PD D) := (C9 D a0 a1 a2 a3 (nthZ p 1), O9_ D a0 a1 (nthZ p 1), [.z (nthZ p 0), .z (N9_1 D (nthZ p 1))])
def L9 (D : Dom) (a0 : D.Z) (a1 : D.Z) (a2 : D.L) (a3 : D.Z) (a4 : D.Z) (a5 : D.Z) : List (PD D) := D.last (G9 D a0 a1 a2 a3) [.z a4, .z a5]
def E9 (D : Dom) (a0 : D.Z) (a1 : D.Z) (a2 : D.L) (a3 : D.Z) (a4 : D.Z) (a5 : D.Z) : D.B := D.ends (G9 D a0 a1 a2 a3) [.z a4, .z a5]

-- loop 10
def WC10_0 (D : Dom) (a0 : D.Z) (a5 : D.L) (a8 : D.Z) : D.B := (D.bite (D.bite (D.zlt (D.lz a5 a8 0) (D.zc 0)) (D.bc true) (D.zle a0 (D.lz a5 a8 0))) (D.bc true) (D.bnot (S39_0 D (D.lf a5 a8 1) (D.lf a5 a8 2) (D.lf a5 a8 3))))
def WC10_1 (D : Dom) (a1 : D.Z) (a5 : D.L) (a8 : D.Z) : D.B := (E9 D a1 a1 a5 (D.lz a5 a8 0) (D.zc 0) (D.zc 0))
def WC10_2 (D : Dom) (a1 : D.Z) (a5 : D.L) (a8 : D.Z) : List (PD D) := (L9 D a1 a1 a5 (D.lz a5 a8 0) (D.zc 0) (D.zc 0))
def WC10_3 (D : Dom) (a0 : D.Z) (a1 : D.Z) (a5 : D.L) (a8 : D.Z) : D.B := (D.bite (WC10_0 D a0 a5 a8) (D.bc true) (D.bnot (D.zeq (D.zite (D.zlt (nthZ (WC10_2 D a1 a5 a8) 1) a1) (nthZ (WC10_2 D a1 a5 a8) 1) (D.zc (-1))) a8)))
def C10 (D : Dom) (a0 : D.Z) (a1 : D.Z) (a2 : D.Z) (a3 : D.Z) (a4 : D.L) (a5 : D.L) (a6 : D.L) (a8 : D.Z) : D.B := (D.band (D.zlt a8 a3) (D.bite (D.band (D.band (D.zle (D.zc 0) a8) (D.zlt a8 a2)) (D.band (D.bite (WC10_0 D a0 a5 a8) (D.bc true) (WC10_1 D a1 a5 a8)) (D.bite (WC10_3 D a0 a1 a5 a8) (D.bc true) (D.band (D.band (D.zle (D.zc 0) (D.lz a5 a8 0)) (D.zlt (D.lz a5 a8 0) a0)) (D.band (O40 D (D.lf a4 (D.lz a5 a8 0) 0) (D.lf a4 (D.lz a5 a8 0) 1) (D.lf a4 (D.lz a5 a8 0) 2) (D.lf a4 (D.lz a5 a8 0) 3) (D.lf a4 (D.lz a5 a8 0) 4) (D.lf a4 (D.lz a5 a8 0) 5) (D.lf a4 (D.lz a5 a8 0) 6) (D.lf a4 (D.lz a5 a8 0) 7) (D.lf a4 (D.lz a5 a8 0) 8) (D.lf a5 a8 1) (D.lf a5 a8 2) (D.lf a5 a8 3)) (D.zle (D.llen (D.lapp a6 [[.z (S40_0 D (D.lf a4 (D.lz a5 a8 0) 0) (D.lf a4 (D.lz a5 a8 0) 1) (D.lf a4 (D.lz a5 a8 0) 2) (D.lf a4 (D.lz a5 a8 0) 3) (D.lf a4 (D.lz a5 a8 0) 4) (D.lf a4 (D.lz a5 a8 0) 5) (D.lf a4 (D.lz a5 a8 0) 6) (D.lf a4 (D.lz a5 a8 0) 7) (D.lf a4 (D.lz a5 a8 0) 8) (D.lf a5 a8 1) (D.lf a5 a8 2) (D.lf a5 a8 3))]])) (D.zc 1073741824))))))) (D.bnot (WC10_3 D a0 a1 a5 a8)) (D.bc true)))
def WO10__0 (D : Dom) (a0 : D.Z) (a5 : D.L) (a8 : D.Z) : D.B := (D.bite (D.bite (D.zlt (D.lz a5 a8 0) (D.zc 0)) (D.bc true) (D.zle a0 (D.lz a5 a8 0))) (D.bc true) (D.bnot (S39_0 D (D.lf a5 a8 1) (D.lf a5 a8 2) (D.lf a5 a8 3))))
def WO10__1 (D : Dom) (a1 : D.Z) (a5 : D.L) (a8 : D.Z) : D.B := (E9 D a1 a1 a5 (D.lz a5 a8 0) (D.zc 0) (D.zc 0))
def WO10__2 (D : Dom) (a1 : D.Z) (a5 : D.L) (a8 : D.Z) : List (PD D) := (L9 D a1 a1 a5 (D.lz a5 a8 0) (D.zc 0) (D.zc 0))
def O10_ (D : Dom) (a0 : D.Z) (a1 : D.Z) (a2 : D.Z) (a3 : D.Z) (a4 : D.L) (a5 : D.L) (a6 : D.L) (a8 : D.Z) : D.B := (D.bite (D.zlt a8 a3) (D.band (D.band (D.zle (D.zc 0) a8) (D.zlt a8 a2)) (D.band (D.bite (WO10__0 D a0 a5 a8) (D.bc true) (WO10__1 D a1 a5 a8)) (D.bite (D.bite (WO10__0 D a0 a5 a8) (D.bc true) (D.bnot (D.zeq (D.zite (D.zlt (nthZ (WO10__2 D a1 a5 a8) 1) a1) (nthZ (WO10__2 D a1 a5 a8) 1) (D.zc (-1))) a8))) (D.bc true) (D.band (D.band (D.zle (D.zc 0) (D.lz a5 a8 0)) (D.zlt (D.lz a5 a8 0) a0)) (D.band (O40 D (D.lf a4 (D.lz a5 a8 0) 0) (D.lf a4 (D.lz a5 a8 0) 1) (D.lf a4 (D.lz a5 a8 0) 2) (D.lf a4 (D.lz a5 a8 0) 3) (D.lf a4 (D.lz a5 a8 0) 4) (D.lf a4 (D.lz a5 a8 0) 5) (D.lf a4 (D.lz a5 a8 0) 6) (D.lf a4 (D.lz a5 a8 0) 7) (D.lf a4 (D.lz a5 a8 0) 8) (D.lf a5 a8 1) (D.lf a5 a8 2) (D.lf a5 a8 3)) (D.zle (D.llen (D.lapp a6 [[.z (S40_0 D (D.lf a4 (D.lz a5 a8 0) 0) (D.lf a4 (D.lz a5 a8 0) 1) (D.lf a4 (D.lz a5 a8 0) 2) (D.lf a4 (D.lz a5 a8 0) 3) (D.lf a4 (D.lz a5 a8 0) 4) (D.lf a4 (D.lz a5 a8 0) 5) (D.lf a4 (D.lz a5 a8 0) 6) (D.lf a4 (D.lz a5 a8 0) 7) (D.lf a4 (D.lz a5 a8 0) 8) (D.lf a5 a8 1) (D.lf a5 a8 2) (D.lf a5 a8 3))]])) (D.zc 1073741824))))))) (D.bc true))
def N10_0 (D : Dom) (a4 : D.L) (a5 : D.L) (a6 : D.L) (a8 : D.Z) : D.L := (D.lapp a6 [[.z (S40_0 D (D.lf a4 (D.lz a5 a8 0) 0) (D.lf a4 (D.lz a5 a8 0) 1) (D.lf a4 (D.lz a5 a8 0) 2) (D.lf a4 (D.lz a5 a8 0) 3) (D.lf a4 (D.lz a5 a8 0) 4) (D.lf a4 (D.lz a5 a8 0) 5) (D.lf a4 (D.lz a5 a8 0) 6) (D.lf a4 (D.lz a5 a8 0) 7) (D.lf a4 (D.lz a5 a8 0) 8) (D.lf a5 a8 1) (D.lf a5 a8 2) (D.lf a5 a8 3))]])
def N10_2 (D : Dom) (a8 : D.Z) : D.Z := (D.zadd .i64 a8 (D.zc 1))
def G10 (D : Dom) (a0 : D.Z) (a1 : D.Z) (a2 : D.Z) (a3 : D.Z) (a4 : D.L) (a5 : D.L) (p : List (PD D)) : D.B × D.B × List (PD D) := (C10 D a0 a1 a2 a3 a4 a5 (nthL p 0) (nthZ p 2), O10_ D a0 a1 a2 a3 a4 a5 (nthL p 0) (nthZ p 2), [.l (N10_0 D a4 a5 (nthL p 0) (nthZ p 2)), .z (nthZ p 1), .z (N10_2 D (nthZ p 2))])
def L10 (D : Dom) (a0 : D.Z) (a1 : D.Z) (a2 : D.Z) (a3 : D.Z) (a4 : D.L) (a5 : D.L) (a6 : D.L) (a7 : D.Z) (a8 : D.Z) : List (PD D) := D.last (G10 D a0 a1 a2 a3 a4 a5) [.l a6, .z a7, .z a8]
def E10 (D : Dom) (a0 : D.Z) (a1 : D.Z) (a2 : D.Z) (a3 : D.Z) (a4 : D.L) (a5 : D.L) (a6 : D.L) (a7 : D.Z) (a8 : D.Z) : D.B := D.ends (G10 D a0 a1 a2 a3 a4 a5) [.l a6, .z a7, .z a8]

-- loop 11
def C11 (D : Dom) (a0 : D.Z) (a1 : D.Z) (a2 : D.L) (a4 : D.Z) : D.B := (D.band (D.zlt a4 a1) (D.bite (D.band (D.band (D.zle (D.zc 0) a4) (D.zlt a4 a0)) (D.band (D.zle (D.zc 0) a1) (D.zlt a1 a0))) (D.bnot (D.zeq (D.lz a2 a4 0) (D.lz a2 a1 0))) (D.bc true)))
def O11_ (D : Dom) (a0 : D.Z) (a1 : D.Z) (a4 : D.Z) : D.B := (D.bite (D.zlt a4 a1) (D.band (D.band (D.zle (D.zc 0) a4) (D.zlt a4 a0)) (D.band (D.zle (D.zc 0) a1) (D.zlt a1 a0))) (D.bc true))
def N11_1 (D : Dom) (a4 : D.Z) : D.Z := (D.zadd .i64 a4 (D.zc 1))
def G11 (D : Dom) (a0 : D.Z) (a1 : D.Z) (a2 : D.L) (p : List (PD D)) : D.B × D.B × List (PD D) := (C11 D a0 a1 a2 (nthZ p 1), O11_ D a0 a1 (nthZ p 1), [.z (nthZ p 0), .z (N11_1 D (nthZ p 1))])
def L11 (D : Dom) (a0 : D.Z) (a1 : D.Z) (a2 : D.L) (a3 : D.Z) (a4 : D.Z) : List (PD D) := D.last (G11 D a0 a1 a2) [.z a3, .z a4]
def E11 (D : Dom) (a0 : D.Z) (a1 : D.Z) (a2 : D.L) (a3 : D.Z) (a4 : D.Z) : D.B := D.ends (G11 D a0 a1 a2) [.z a3, .z a4]

-- loop 12
def C12 (D : Dom) (a0 : D.Z) (a1 : D.Z) (a2 : D.L) (a3 : D.Z) (a4 : D.Z) : D.B := (D.band (D.zlt a4 a1) (D.bite (D.band (D.band (D.zle (D.zc 0) a4) (D.zlt a4 a1)) (D.band (D.bite (D.zlt (D.lz a2 a4 0) (D.zc 0)) (D.bc true) (D.band (D.zle (D.zc 0) a4) (D.zlt a4 a1))) (D.band (D.bite (D.bite (D.zlt (D.lz a2 a4 0) (D.zc 0)) (D.bc true) (D.zle a0 (D.lz a2 a4 0))) (D.bc true) (D.band (D.zle (D.zc 0) a4) (D.zlt a4 a1))) (D.bite (D.bite (D.bite (D.zlt (D.lz a2 a4 0) (D.zc 0)) (D.bc true) (D.zle a0 (D.lz a2 a4 0))) (D.bc true) (D.bnot (S28_0 D (D.lf a2 a4 1) (D.lf a2 a4 2) (D.lf a2 a4 3)))) (D.bc true) (E11 D a1 a4 a2 a3 (D.zc 0)))))) (D.bnot (D.bite (D.bite (D.bite (D.zlt (D.lz a2 a4 0) (D.zc 0)) (D.bc true) (D.zle a0 (D.lz a2 a4 0))) (D.bc true) (D.bnot (S28_0 D (D.lf a2 a4 1) (D.lf a2 a4 2) (D.lf a2 a4 3)))) (D.bc true) (D.zlt (nthZ (L11 D a1 a4 a2 a3 (D.zc 0)) 1) a4))) (D.bc true)))
def WO12__0 (D : Dom) (a1 : D.Z) (a4 : D.Z) : D.B := (D.band (D.zle (D.zc 0) a4) (D.zlt a4 a1))
def WO12__1 (D : Dom) (a0 : D.Z) (a2 : D.L) (a4 : D.Z) : D.B := (D.bite (D.zlt (D.lz a2 a4 0) (D.zc 0)) (D.bc true) (D.zle a0 (D.lz a2 a4 0)))
def WO12__2 (D : Dom) (a1 : D.Z) (a2 : D.L) (a3 : D.Z) (a4 : D.Z) : D.B := (E11 D a1 a4 a2 a3 (D.zc 0))
def O12_ (D : Dom) (a0 : D.Z) (a1 : D.Z) (a2 : D.L) (a3 : D.Z) (a4 : D.Z) : D.B := (D.bite (D.zlt a4 a1) (D.band (WO12__0 D a1 a4) (D.band (D.bite (D.zlt (D.lz a2 a4 0) (D.zc 0)) (D.bc true) (WO12__0 D a1 a4)) (D.band (D.bite (WO12__1 D a0 a2 a4) (D.bc true) (WO12__0 D a1 a4)) (D.bite (D.bite (WO12__1 D a0 a2 a4) (D.bc true) (D.bnot (S28_0 D (D.lf a2 a4 1) (D.lf a2 a4 2) (D.lf a2 a4 3)))) (D.bc true) (WO12__2 D a1 a2 a3 a4))))) (D.bc true))
def N12_0 (D : Dom) (a1 : D.Z) (a2 : D.L) (a3 : D.Z) (a4 : D.Z) : D.Z := (nthZ (L11 D a1 a4 a2 a3 (D.zc 0)) 0)
def N12_1 (D : Dom) (a4 : D.Z) : D.Z := (D.zadd .i64 a4 (D.zc 1))
def G12 (D : Dom) (a0 : D.Z) (a1 : D.Z) (a2 : D.L) (p : List (PD D)) : D.B × D.B × List (PD D) := (C12 D a0 a1 a2 (nthZ p 0) (nthZ p 1), O12_ D a0 a1 a2 (nthZ p 0) (nthZ p 1), [.z (N12_0 D a1 a2 (nthZ p 0) (nthZ p 1)), .z (N12_1 D (nthZ p 1))])
def L12 (D : Dom) (a0 : D.Z) (a1 : D.Z) (a2 : D.L) (a3 : D.Z) (a4 : D.Z) : List (PD D) := D.last (G12 D a0 a1 a2) [.z a3, .z a4]
def E12 (D : Dom) (a0 : D.Z) (a1 : D.Z) (a2 : D.L) (a3 : D.Z) (a4 : D.Z) : D.B := D.ends (G12 D a0 a1 a2) [.z a3, .z a4]

-- loop 13
def C13 (D : Dom) (a1 : D.Z) (a5 : D.Z) : D.B := (D.zlt a5 a1)
def WO13__0 (D : Dom) (a1 : D.Z) (a5 : D.Z) : D.B := (D.band (D.zle (D.zc 0) a5) (D.zlt a5 a1))
def WO13__1 (D : Dom) (a2 : D.L) (a3 : D.L) (a5 : D.Z) : D.F := (S48_0 D (D.lf a2 (D.lz a3 a5 0) 0) (D.lf a2 (D.lz a3 a5 0) 1) (D.lf a2 (D.lz a3 a5 0) 2) (D.lf a2 (D.lz a3 a5 0) 3) (D.lf a2 (D.lz a3 a5 0) 4) (D.lf a2 (D.lz a3 a5 0) 5) (D.lf a2 (D.lz a3 a5 0) 6) (D.lf a2 (D.lz a3 a5 0) 7) (D.lf a2 (D.lz a3 a5 0) 8))
def WO13__2 (D : Dom) (a2 : D.L) (a3 : D.L) (a5 : D.Z) : D.F := (S47_0 D (D.lf a3 a5 1) (WO13__1 D a2 a3 a5))
def WO13__3 (D : Dom) (a2 : D.L) (a3 : D.L) (a5 : D.Z) : D.F := (S47_1 D (D.lf a3 a5 2) (WO13__1 D a2 a3 a5))
def WO13__4 (D : Dom) (a2 : D.L) (a3 : D.L) (a5 : D.Z) : D.F := (S47_2 D (D.lf a3 a5 3) (WO13__1 D a2 a3 a5))
def O13_ (D : Dom) (a0 : D.Z) (a1 : D.Z) (a2 : D.L) (a3 : D.L) (a4 : D.L) (a5 : D.Z) : D.B := (D.bite (D.zlt a5 a1) (D.band (WO13__0 D a1 a5) (D.band (WO13__0 D a1 a5) (D.band (D.band (D.zle (D.zc 0) (D.lz a3 a5 0)) (D.zlt (D.lz a3 a5 0) a0)) (D.band (O46 D (WO13__2 D a2 a3 a5) (WO13__3 D a2 a3 a5) (WO13__4 D a2 a3 a5)) (D.zle (D.llen (D.lapp a4 [[.z (S46_0 D (WO13__2 D a2 a3 a5) (WO13__3 D a2 a3 a5) (WO13__4 D a2 a3 a5))]])) (D.zc 1073741824)))))) (D.bc true))
def N13_0 (D : Dom) (a2 : D.L) (a3 : D.L) (a4 : D.L) (a5 : D.Z) : D.L := (D.lapp a4 [[.z (S46_0 D (S47_0 D (D.lf a3 a5 1) (S48_0 D (D.lf a2 (D.lz a3 a5 0) 0) (D.lf a2 (D.lz a3 a5 0) 1) (D.lf a2 (D.lz a3 a5 0) 2) (D.lf a2 (D.lz a3 a5 0) 3) (D.lf a2 (D.lz a3 a5 0) 4) (D.lf a2 (D.lz a3 a5 0) 5) (D.lf a2 (D.lz a3 a5 0) 6) (D.lf a2 (D.lz a3 a5 0) 7) (D.lf a2 (D.lz a3 a5 0) 8))) (S47_1 D (D.lf a3 a5 2) (S48_0 D (D.lf a2 (D.lz a3 a5 0) 0) (D.lf a2 (D.lz a3 a5 0) 1) (D.lf a2 (D.lz a3 a5 0) 2) (D.lf a2 (D.lz a3 a5 0) 3) (D.lf a2 (D.lz a3 a5 0) 4) (D.lf a2 (D.lz a3 a5 0) 5) (D.lf a2 (D.lz a3 a5 0) 6) (D.lf a2 (D.lz a3 a5 0) 7) (D.lf a2 (D.lz a3 a5 0) 8))) (S47_2 D (D.lf a3 a5 3) (S48_0 D (D.lf a2 (D.lz a3 a5 0) 0) (D.lf a2 (D.lz a3 a5 0) 1) (D.lf a2 (D.lz a3 a5 0) 2) (D.lf a2 (D.lz a3 a5 0) 3) (D.lf a2 (D.lz a3 a5 0) 4) (D.lf a2 (D.lz a3 a5 0) 5) (D.lf a2 (D.lz a3 a5 0) 6) (D.lf a2 (D.lz a3 a5 0) 7) (D.lf a2 (D.lz a3 a5 0) 8))))]])
def N13_1 (D : Dom) (a5 : D.Z) : D.Z := (D.zadd .i64 a5 (D.zc 1))
def G13 (D : Dom) (a0 : D.Z) (a1 : D.Z) (a2 : D.L) (a3 : D.L) (p : List (PD D)) : D.B × D.B × List (PD D) := (C13 D a1 (nthZ p 1), O13_ D a0 a1 a2 a3 (nthL p 0) (nthZ p 1), [.l (N13_0 D a2 a3 (nthL p 0) (nthZ p 1)), .z (N13_1 D (nthZ p 1))])
def L13 (D : Dom) (a0 : D.Z) (a1 : D.Z) (a2 : D.L) (a3 : D.L) (a4 : D.L) (a5 : D.Z) : List (PD D) := D.last (G13 D a0 a1 a2 a3) [.l a4, .z a5]
def E13 (D : Dom) (a0 : D.Z) (a1 : D.Z) (a2 : D.L) (a3 : D.L) (a4 : D.L) (a5 : D.Z) : D.B := D.ends (G13 D a0 a1 a2 a3) [.l a4, .z a5]

-- loop 14
def C14 (D : Dom) (a1 : D.Z) (a3 : D.Z) : D.B := (D.zlt a3 a1)
def O14_ (D : Dom) (a0 : D.L) (a1 : D.Z) (a2 : D.L) (a3 : D.Z) : D.B := (D.bite (D.zlt a3 a1) (D.band (D.band (D.zle (D.zc 0) a3) (D.zlt a3 a1)) (D.band (O46 D (D.lf a0 a3 0) (D.lf a0 a3 1) (D.lf a0 a3 2)) (D.zle (D.llen (D.lapp a2 [[.z (S46_0 D (D.lf a0 a3 0) (D.lf a0 a3 1) (D.lf a0 a3 2))]])) (D.zc 1073741824)))) (D.bc true))
def N14_0 (D : Dom) (a0 : D.L) (a2 : D.L) (a3 : D.Z) : D.L := (D.lapp a2 [[.z (S46_0 D (D.lf a0 a3 0) (D.lf a0 a3 1) (D.lf a0 a3 2))]])
def N14_1 (D : Dom) (a3 : D.Z) : D.Z := (D.zadd .i64 a3 (D.zc 1))
def G14 (D : Dom) (a0 : D.L) (a1 : D.Z) (p : List (PD D)) : D.B × D.B × List (PD D) := (C14 D a1 (nthZ p 1), O14_ D a0 a1 (nthL p 0) (nthZ p 1), [.l (N14_0 D a0 (nthL p 0) (nthZ p 1)), .z (N14_1 D (nthZ p 1))])
def L14 (D : Dom) (a0 : D.L) (a1 : D.Z) (a2 : D.L) (a3 : D.Z) : List (PD D) := D.last (G14 D a0 a1) [.l a2, .z a3]
def E14 (D : Dom) (a0 : D.L) (a1 : D.Z) (a2 : D.L) (a3 : D.Z) : D.B := D.ends (G14 D a0 a1) [.l a2, .z a3]

-- loop 15
def C15 (D : Dom) (a0 : D.Z) (a1 : D.L) (a4 : D.Z) : D.B := (D.band (D.zlt a4 a0) (D.bite (D.band (D.band (D.zle (D.zc 0) a4) (D.zlt a4 a0)) (D.band (D.bite (D.zlt (D.lz a1 a4 0) (D.zc 0)) (D.bc true) (D.band (D.zle (D.zc 0) a4) (D.zlt a4 a0))) (D.bite (D.bite (D.zlt (D.lz a1 a4 0) (D.zc 0)) (D.bc true) (D.zlt (D.zc 1048576) (D.lz a1 a4 0))) (D.bc true) (D.band (D.zle (D.zc 0) a4) (D.zlt a4 a0))))) (D.bnot (D.bite (D.zlt (D.lz a1 a4 0) (D.zc 0)) (D.bc true) (D.zlt (D.zc 1048576) (D.lz a1 a4 0)))) (D.bc true)))
def O15_ (D : Dom) (a0 : D.Z) (a1 : D.L) (a4 : D.Z) : D.B := (D.bite (D.zlt a4 a0) (D.band (D.band (D.zle (D.zc 0) a4) (D.zlt a4 a0)) (D.band (D.bite (D.zlt (D.lz a1 a4 0) (D.zc 0)) (D.bc true) (D.band (D.zle (D.zc 0) a4) (D.zlt a4 a0))) (D.bite (D.bite (D.zlt (D.lz a1 a4 0) (D.zc 0)) (D.bc true) (D.zlt (D.zc 1048576) (D.lz a1 a4 0))) (D.bc true) (D.band (D.zle (D.zc 0) a4) (D.zlt a4 a0))))) (D.bc true))
def N15_1 (D : Dom) (a1 : D.L) (a3 : D.Z) (a4 : D.Z) : D.Z := (D.zadd .i64 a3 (D.lz a1 a4 0))
def N15_2 (D : Dom) (a4 : D.Z) : D.Z := (D.zadd .i64 a4 (D.zc 1))
def G15 (D : Dom) (a0 : D.Z) (a1 : D.L) (p : List (PD D)) : D.B × D.B × List (PD D) := (C15 D a0 a1 (nthZ p 2), O15_ D a0 a1 (nthZ p 2), [.z (nthZ p 0), .z (N15_1 D a1 (nthZ p 1) (nthZ p 2)), .z (N15_2 D (nthZ p 2))])
def L15 (D : Dom) (a0 : D.Z) (a1 : D.L) (a2 : D.Z) (a3 : D.Z) (a4 : D.Z) : List (PD D) := D.last (G15 D a0 a1) [.z a2, .z a3, .z a4]
def E15 (D : Dom) (a0 : D.Z) (a1 : D.L) (a2 : D.Z) (a3 : D.Z) (a4 : D.Z) : D.B := D.ends (G15 D a0 a1) [.z a2, .z a3, .z a4]

-- loop 16
def C16 (D : Dom) (a2 : D.Z) : D.B := (D.zlt a2 (D.zc 0))
def O16_ (D : Dom) (a2 : D.Z) : D.B := (D.bnot (D.zlt a2 (D.zc 0)))
def G16 (D : Dom)  (p : List (PD D)) : D.B × D.B × List (PD D) := (C16 D (nthZ p 2), O16_ D (nthZ p 2), [])
def L16 (D : Dom) (a0 : D.Z) (a1 : D.Z) (a2 : D.Z) : List (PD D) := D.last (G16 D) [.z a0, .z a1, .z a2]
def E16 (D : Dom) (a0 : D.Z) (a1 : D.Z) (a2 : D.Z) : D.B := D.ends (G16 D) [.z a0, .z a1, .z a2]

-- loop 17
def C17 (D : Dom) (a0 : D.B) (a1 : D.Z) (a2 : D.Z) (a3 : D.B) (a4 : D.B) (a5 : D.L) (a6 : D.B) (a7 : D.Z) (a8 : D.Z) (a9 : D.B) (a10 : D.L) (a12 : D.Z) : D.B := (D.band (D.zlt a12 a1) (D.bite (D.band (D.bite (D.bnot a0) (D.bc true) (D.band a0 (D.band a3 (D.band (D.bite (D.zle (D.zc 0) a12) (D.bite (D.bnot a4) (D.bc true) (D.band a4 a6)) (D.bc true)) (D.bite (D.bnot (D.bite (D.zle (D.zc 0) a12) (D.zlt a12 (D.zite (D.bnot a4) (D.zc 0) a7)) (D.bc false))) (D.bc true) (D.band a4 (D.band a6 (D.band (D.band (D.zle (D.zc 0) a12) (D.zlt a12 a7)) (D.band a9 (D.band a4 a6)))))))))) (D.band (D.zle (D.zc 0) a12) (D.zlt a12 a1))) (D.bnot (D.bnot (D.feq (D.fite (D.bnot a0) (D.fc 0) (D.fite (D.bnot (D.bite (D.zle (D.zc 0) a12) (D.zlt a12 (D.zite (D.bnot a4) (D.zc 0) a7)) (D.bc false))) (D.fc 0) (D.fdiv (D.i2f (D.lz a10 a12 0)) (D.i2f a8)))) (D.fdiv (D.i2f (D.lz a5 a12 0)) (D.i2f a2))))) (D.bc true)))
def O17_ (D : Dom) (a0 : D.B) (a1 : D.Z) (a3 : D.B) (a4 : D.B) (a6 : D.B) (a7 : D.Z) (a9 : D.B) (a12 : D.Z) : D.B := (D.bite (D.zlt a12 a1) (D.band (D.bite (D.bnot a0) (D.bc true) (D.band a0 (D.band a3 (D.band (D.bite (D.zle (D.zc 0) a12) (D.bite (D.bnot a4) (D.bc true) (D.band a4 a6)) (D.bc true)) (D.bite (D.bnot (D.bite (D.zle (D.zc 0) a12) (D.zlt a12 (D.zite (D.bnot a4) (D.zc 0) a7)) (D.bc false))) (D.bc true) (D.band a4 (D.band a6 (D.band (D.band (D.zle (D.zc 0) a12) (D.zlt a12 a7)) (D.band a9 (D.band a4 a6)))))))))) (D.band (D.zle (D.zc 0) a12) (D.zlt a12 a1))) (D.bc true))
def N17_1 (D : Dom) (a12 : D.Z) : D.Z := (D.zadd .i64 a12 (D.zc 1))
def G17 (D : Dom) (a0 : D.B) (a1 : D.Z) (a2 : D.Z) (a3 : D.B) (a4 : D.B) (a5 : D.L) (a6 : D.B) (a7 : D.Z) (a8 : D.Z) (a9 : D.B) (a10 : D.L) (p : List (PD D)) : D.B × D.B × List (PD D) := (C17 D a0 a1 a2 a3 a4 a5 a6 a7 a8 a9 a10 (nthZ p 1), O17_ D a0 a1 a3 a4 a6 a7 a9 (nthZ p 1), [.b (nthB p 0), .z (N17_1 D (nthZ p 1))])
def L17 (D : Dom) (a0 : D.B) (a1 : D.Z) (a2 : D.Z) (a3 : D.B) (a4 : D.B) (a5 : D.L) (a6 : D.B) (a7 : D.Z) (a8 : D.Z) (a9 : D.B) (a10 : D.L) (a11 : D.B) (a12 : D.Z) : List (PD D) := D.last (G17 D a0 a1 a2 a3 a4 a5 a6 a7 a8 a9 a10) [.b a11, .z a12]
def E17 (D : Dom) (a0 : D.B) (a1 : D.Z) (a2 : D.Z) (a3 : D.B) (a4 : D.B) (a5 : D.L) (a6 : D.B) (a7 : D.Z) (a8 : D.Z) (a9 : D.B) (a10 : D.L) (a11 : D.B) (a12 : D.Z) : D.B := D.ends (G17 D a0 a1 a2 a3 a4 a5 a6 a7 a8 a9 a10) [.b a11, .z a12]
def js_15 : List (Nat × Nat × HSh) := js_14 ++ [(16, 19, ⟨6, 8, [.ctx, .ctx, .ctx, .slot [.f, .f, .f, .f, .f, .f, .f, .f, .f] 9, .ctx, .ctx, .ctx, .ctx, .ctx, .ctx, .ctx, .ctx, .ctx, .ctx, .ctx, .ctx, .ctx, .ctx, .ctx, .ctx, .drop, .drop, .drop, .drop, .drop, .drop, .drop, .ctx], [], [], [5]⟩)]
noncomputable def lt_6_15 (D : Dom) : LTb D := ltOf (ll_6 D) js_15
theorem hok_6_15 : HooksOK Try.prog (lt_6_15 R) := hok_6_14.jt
def sh_6 : HSh := ⟨5, 8, [.env (.sslice 0 .part none () 9), .env (.undef), .env (.nils), .slot [.f, .f, .f, .f, .f, .f, .f, .f, .f] 9, .var (.si .i64 ()), .drop, .drop, .drop, .drop, .drop, .drop, .drop, .drop, .drop, .drop, .drop, .drop, .drop, .drop, .drop, .drop, .drop, .drop, .drop, .drop, .drop, .drop, .env (.undef)], [], [(0, [.row true [.f, .f, .f, .f, .f, .f, .f, .f, .f] ()])], []⟩
def st_6 (D : Dom) (env p : List (PD D)) : D.B × D.B × List (PD D) := G6 D (nthZ env 0) (nthL env 1) p
theorem rd_6 (D : Dom) (env vars : List (PD D)) (ctx : List (AV D)) : (sh_6.round (sh_6.st env vars ctx).h.length (evCodeH Try.prog (tbl_49 D) (lt_6_15 D) 80 16 (loopB Try.prog 16 0) (sh_6.st env vars ctx))).map Nr.step = some (st_6 D env vars) := by kernel_rfl
noncomputable def ll_7 (D : Dom) : List (LE D) := ⟨16, 0, sh_6, st_6 D, fun s => evCodeH Try.prog (tbl_49 D) (lt_6_15 D) 80 16 (loopB Try.prog 16 0) s⟩ :: ll_6 D
noncomputable def lt_7_15 (D : Dom) : LTb D := ltOf (ll_7 D) js_15
theorem hok_7_15 : HooksOK Try.prog (lt_7_15 R) := HooksOK.cons prg tok_49 hok_6_15 (by kernel_rfl) (by kernel_rfl) (rd_6 R)
def sh_7 : HSh := ⟨9, 9, [.env (.agg [.si .i64 (), .sslice 2 .part none () 3]), .env (.ptr 8 0), .var (.sb ()), .var (.si .i64 ()), .env (.ptr 8 0), .env (.si .i64 ()), .env (.sb ()), .env (.sb ()), .env (.any), .env (.any), .env (.any), .env (.sb ()), .env (.sb ()), .env (.any), .env (.any), .env (.any), .env (.any), .env (.any), .env (.any), .env (.any), .env (.sb ()), .drop, .drop, .drop, .drop, .drop, .drop, .drop, .drop, .drop, .drop, .drop, .drop, .drop, .drop], [], [(2, [.row true [.f, .f, .f] ()]), (8, [.si .i64 (), .sslice 2 .part none () 3])], []⟩
def st_7 (D : Dom) (env p : List (PD D)) : D.B × D.B × List (PD D) := G7 D (nthL env 8) (nthZ env 10) p
theorem rd_7 (D : Dom) (env vars : List (PD D)) (ctx : List (AV D)) : (sh_7.round (sh_7.st env vars ctx).h.length (evCodeH Try.prog (tbl_49 D) (lt_7_15 D) 80 15 (loopB Try.prog 15 0) (sh_7.st env vars ctx))).map Nr.step = some (st_7 D env vars) := by kernel_rfl
noncomputable def ll_8 (D : Dom) : List (LE D) := ⟨15, 0, sh_7, st_7 D, fun s => evCodeH Try.prog (tbl_49 D) (lt_7_15 D) 80 15 (loopB Try.prog 15 0) s⟩ :: ll_7 D
noncomputable def lt_8_15 (D : Dom) : LTb D := ltOf (ll_8 D) js_15
theorem hok_8_15 : HooksOK Try.prog (lt_8_15 R) := HooksOK.cons prg tok_49 hok_7_15 (by kernel_rfl) (by kernel_rfl) (rd_7 R)
def js_16 : List (Nat × Nat × HSh) := js_15 ++ [(15, 2000000, ⟨8, 9, [.var (.sb ())], [], [], []⟩)]
noncomputable def lt_8_16 (D : Dom) : LTb D := ltOf (ll_8 D) js_16
theorem hok_8_16 : HooksOK Try.prog (lt_8_16 R) := hok_8_15.jt
def sh_8 : HSh := ⟨10, 14, [.env (.agg [.si .i64 (), .sslice 2 .part none () 3]), .env (.ptr 9 0), .var (.nilp), .var (.si .i64 ()), .slot [.z .i64] 1, .env (.undef), .drop, .env (.undef), .env (.ptr 9 0), .env (.si .i64 ()), .env (.sb ()), .env (.sb ()), .env (.any), .env (.any), .env (.any), .env (.sb ()), .env (.sb ()), .env (.any), .env (.any), .env (.any), .env (.any), .env (.any), .env (.any), .env (.any), .env (.sb ()), .env (.ptr 9 1), .env (.sslice 2 .part none () 3), .env (.si .i64 ()), .var (.si .i64 ()), .drop, .drop, .drop, .drop, .drop, .drop, .drop, .drop, .drop, .drop, .drop, .drop, .env (.undef), .env (.undef), .env (.undef), .env (.undef), .env (.undef), .env (.undef), .env (.undef), .env (.undef), .env (.undef), .env (.undef), .env (.undef), .env (.undef), .env (.undef), .env (.undef), .env (.undef), .env (.undef), .env (.undef)], [], [(2, [.row true [.f, .f, .f] ()]), (9, [.si .i64 (), .sslice 2 .part none () 3])], []⟩
def st_8 (D : Dom) (env p : List (PD D)) : D.B × D.B × List (PD D) := G8 D (nthZ env 8) (nthZ env 9) (nthL env 10) p
theorem rd_8 (D : Dom) (env vars : List (PD D)) (ctx : List (AV D)) : (sh_8.round (sh_8.st env vars ctx).h.length (evCodeH Try.prog (tbl_49 D) (lt_8_16 D) 80 22 (loopB Try.prog 22 0) (sh_8.st env vars ctx))).map Nr.step = some (st_8 D env vars) := by kernel_rfl
noncomputable def ll_9 (D : Dom) : List (LE D) := ⟨22, 0, sh_8, st_8 D, fun s => evCodeH Try.prog (tbl_49 D) (lt_8_16 D) 80 22 (loopB Try.prog 22 0) s⟩ :: ll_8 D
noncomputable def lt_9_16 (D : Dom) : LTb D := ltOf (ll_9 D) js_16
theorem hok_9_16 : HooksOK Try.prog (lt_9_16 R) := HooksOK.cons prg tok_49 hok_8_16 (by kernel_rfl) (by kernel_rfl) (rd_8 R)
def sh_9 : HSh := ⟨16, 16, [.env (.sslice 10 .whole none () 1), .env (.undef), .var (.si .i64 ()), .var (.si .i64 ()), .var (.si .i64 ()), .env (.undef), .drop, .env (.sslice 10 .whole none () 1), .env (.si .i64 ()), .env (.sb ()), .env (.sslice 10 .whole none () 1), .env (.si .i64 ()), .var (.si .i64 ()), .drop, .drop, .drop, .drop, .drop, .drop, .drop, .drop, .drop, .drop, .drop, .drop, .drop, .env (.undef), .env (.undef), .env (.undef), .env (.undef), .env (.undef), .env (.undef), .env (.undef), .env (.undef)], [], [(10, [.row false [.z .i64] ()])], []⟩
def st_9 (D : Dom) (env p : List (PD D)) : D.B × D.B × List (PD D) := G2 D (nthZ env 4) (nthZ env 5) (nthL env 6) p
theorem rd_9 (D : Dom) (env vars : List (PD D)) (ctx : List (AV D)) : (sh_9.round (sh_9.st env vars ctx).h.length (evCodeH Try.prog (tbl_49 D) (lt_9_16 D) 80 72 (loopB Try.prog 72 0) (sh_9.st env vars ctx))).map Nr.step = some (st_9 D env vars) := by kernel_rfl
noncomputable def ll_10 (D : Dom) : List (LE D) := ⟨72, 0, sh_9, st_9 D, fun s => evCodeH Try.prog (tbl_49 D) (lt_9_16 D) 80 72 (loopB Try.prog 72 0) s⟩ :: ll_9 D
noncomputable def lt_10_16 (D : Dom) : LTb D := ltOf (ll_10 D) js_16
theorem hok_10_16 : HooksOK Try.prog (lt_10_16 R) := HooksOK.cons prg tok_49 hok_9_16 (by kernel_rfl) (by kernel_rfl) (rd_9 R)
def js_17 : List (Nat × Nat × HSh) := js_16 ++ [(73, 11, ⟨26, 28, [.ctx, .ctx, .ctx, .ctx, .ctx, .ctx, .ctx, .ctx, .ctx, .ctx, .ctx, .ctx, .drop, .drop, .drop, .drop, .drop, .drop, .drop, .drop], [(22, .cells [.slot [.z .i64] 1]), (23, .cells [.slot [.z .i64] 1])], [], [24, 25]⟩)]
noncomputable def lt_10_17 (D : Dom) : LTb D := ltOf (ll_10 D) js_17
theorem hok_10_17 : HooksOK Try.prog (lt_10_17 R) := hok_10_16.jt
def sh_10 : HSh := ⟨24, 28, [.env (.sslice 10 .whole none () 1), .env (.undef), .env (.nilp), .env (.ki .i64 0), .env (.ptr 16 0), .env (.si .i64 ()), .env (.ptr 19 0), .env (.ptr 21 0), .env (.ptr 22 0), .env (.ptr 23 0), .env (.clo 73 [] [.ptr 21 0, .ptr 16 0, .ptr 22 0, .ptr 23 0]), .drop, .drop, .env (.undef), .env (.undef), .env (.undef), .env (.undef), .env (.tup [.si .i64 (), .si .i64 ()]), .env (.sslice 10 .whole none () 1), .env (.tup [.si .i64 (), .si .i64 ()]), .env (.si .i64 ()), .env (.si .i64 ()), .env (.si .i64 ()), .env (.sb ()), .env (.undef), .env (.sslice 10 .whole none () 1), .env (.sslice 17 .whole none () 1), .env (.si .i64 ()), .env (.sslice 10 .whole none () 1), .env (.si .i64 ()), .env (.sslice 18 .whole none () 2), .env (.agg [.sslice 17 .whole none () 1, .si .i64 (), .sslice 18 .whole none () 2]), .env (.ptr 19 0), .env (.sslice 10 .whole none () 1), .env (.si .i64 ()), .env (.sslice 20 .whole none () 1), .env (.clo 73 [] [.ptr 21 0, .ptr 16 0, .ptr 22 0, .ptr 23 0]), .env (.sslice 10 .whole none () 1), .env (.si .i64 ()), .var (.si .i64 ()), .drop, .drop, .drop, .drop, .drop, .drop, .drop, .drop, .drop, .drop, .drop, .drop, .drop, .drop, .drop, .drop, .drop, .drop, .drop, .drop, .drop, .drop, .drop, .drop, .env (.undef), .env (.undef), .env (.undef), .env (.undef), .env (.undef), .env (.undef), .env (.undef), .env (.undef), .env (.undef), .env (.undef), .env (.undef), .env (.undef), .env (.undef), .env (.undef), .env (.undef), .env (.undef), .env (.undef), .env (.undef), .env (.undef), .env (.undef), .env (.undef), .env (.undef), .env (.undef), .env (.undef), .env (.undef), .env (.undef), .env (.undef), .env (.undef), .env (.undef), .env (.undef), .env (.undef), .env (.undef), .env (.undef), .env (.undef), .env (.undef), .env (.undef), .env (.undef), .env (.undef), .env (.undef), .env (.undef), .env (.undef), .env (.undef), .env (.undef), .env (.undef), .env (.undef), .env (.undef), .env (.undef), .env (.undef), .env (.undef), .env (.undef), .env (.undef), .env (.undef), .env (.undef), .env (.undef), .env (.undef), .env (.undef), .env (.undef), .env (.undef), .env (.undef), .env (.undef), .env (.undef), .env (.undef), .env (.undef), .env (.undef)], [(22, .cells [.slot [.z .i64] 1]), (23, .cells [.slot [.z .i64] 1]), (18, .row [.z .i64, .z .i64]), (20, .row [.z .i64])], [(10, [.row false [.z .i64] ()]), (16, [.si .i64 ()]), (19, [.sslice 17 .whole none () 1, .si .i64 (), .sslice 18 .whole none () 2]), (21, [.sslice 20 .whole none () 1]), (17, [.row false [.z .i64] ()])], []⟩
def st_10 (D : Dom) (env p : List (PD D)) : D.B × D.B × List (PD D) := G3 D (nthZ env 0) (nthZ env 23) (nthZ env 24) (nthL env 25) (nthZ env 26) (nthZ env 29) (nthZ env 30) p
theorem rd_10 (D : Dom) (env vars : List (PD D)) (ctx : List (AV D)) : (sh_10.round (sh_10.st env vars ctx).h.length (evCodeH Try.prog (tbl_49 D) (lt_10_17 D) 80 44 (loopB Try.prog 44 0) (sh_10.st env vars ctx))).map Nr.step = some (st_10 D env vars) := by kernel_rfl
noncomputable def ll_11 (D : Dom) : List (LE D) := ⟨44, 0, sh_10, st_10 D, fun s => evCodeH Try.prog (tbl_49 D) (lt_10_17 D) 80 44 (loopB Try.prog 44 0) s⟩ :: ll_10 D
noncomputable def lt_11_17 (D : Dom) : LTb D := ltOf (ll_11 D) js_17
theorem hok_11_17 : HooksOK Try.prog (lt_11_17 R) := HooksOK.cons prg tok_49 hok_10_17 (by kernel_rfl) (by kernel_rfl) (rd_10 R)
def js_18 : List (Nat × Nat × HSh) := js_17 ++ [(73, 11, ⟨32, 34, [.ctx, .ctx, .ctx, .ctx, .ctx, .ctx, .ctx, .ctx, .ctx, .ctx, .ctx, .ctx, .drop, .drop, .drop, .drop, .drop, .drop, .drop, .drop], [(22, .cells [.slot [.z .i64] 1]), (23, .cells [.slot [.z .i64] 1])], [], [30, 31]⟩)]
noncomputable def lt_11_18 (D : Dom) : LTb D := ltOf (ll_11 D) js_18
theorem hok_11_18 : HooksOK Try.prog (lt_11_18 R) := hok_11_17.jt
def sh_11 : HSh := ⟨28, 34, [.env (.sslice 10 .whole none () 1), .env (.undef), .env (.nilp), .env (.ki .i64 0), .env (.ptr 16 0), .env (.si .i64 ()), .env (.ptr 19 0), .env (.ptr 21 0), .env (.ptr 22 0), .env (.ptr 23 0), .env (.clo 73 [] [.ptr 21 0, .ptr 16 0, .ptr 22 0, .ptr 23 0]), .env (.any), .env (.any), .drop, .drop, .drop, .drop, .env (.tup [.si .i64 (), .si .i64 ()]), .env (.sslice 10 .whole none () 1), .env (.tup [.si .i64 (), .si .i64 ()]), .env (.si .i64 ()), .env (.si .i64 ()), .env (.si .i64 ()), .env (.sb ()), .env (.undef), .env (.sslice 10 .whole none () 1), .env (.sslice 17 .whole none () 1), .env (.si .i64 ()), .env (.sslice 10 .whole none () 1), .env (.si .i64 ()), .env (.sslice 18 .whole none () 2), .env (.agg [.sslice 17 .whole none () 1, .si .i64 (), .sslice 18 .whole none () 2]), .env (.ptr 19 0), .env (.sslice 10 .whole none () 1), .env (.si .i64 ()), .env (.sslice 20 .whole none () 1), .env (.clo 73 [] [.ptr 21 0, .ptr 16 0, .ptr 22 0, .ptr 23 0]), .env (.sslice 10 .whole none () 1), .env (.si .i64 ()), .env (.si .i64 ()), .env (.sb ()), .env (.any), .env (.any), .env (.any), .env (.any), .env (.any), .env (.any), .env (.any), .env (.any), .env (.any), .env (.any), .env (.any), .env (.any), .env (.any), .env (.any), .env (.any), .env (.any), .env (.any), .env (.any), .env (.any), .env (.any), .env (.any), .env (.any), .env (.any), .drop, .drop, .drop, .drop, .drop, .drop, .drop, .drop, .drop, .drop, .drop, .drop, .drop, .drop, .drop, .drop, .drop, .drop, .drop, .drop, .drop, .drop, .drop, .drop, .drop, .drop, .drop, .drop, .drop, .drop, .drop, .drop, .drop, .drop, .drop, .drop, .drop, .drop, .drop, .drop, .drop, .drop, .drop, .drop, .drop, .drop, .drop, .drop, .drop, .drop, .drop, .drop, .drop, .drop, .drop, .drop, .drop, .drop, .drop, .drop, .drop, .drop, .drop, .env (.undef)], [(20, .row [.z .i64]), (18, .row [.z .i64, .z .i64]), (22, .cells [.slot [.z .i64] 1]), (23, .cells [.slot [.z .i64] 1])], [(10, [.row false [.z .i64] ()]), (16, [.si .i64 ()]), (19, [.sslice 17 .whole none () 1, .si .i64 (), .sslice 18 .whole none () 2]), (21, [.sslice 20 .whole none () 1]), (17, [.row false [.z .i64] ()])], [24, 25]⟩
def st_11 (D : Dom) (env p : List (PD D)) : D.B × D.B × List (PD D) := G4 D (nthZ env 28) (nthZ env 31) (nthZ env 32) p
theorem rd_11 (D : Dom) (env vars : List (PD D)) (ctx : List (AV D)) : (sh_11.round (sh_11.st env vars ctx).h.length (evCodeH Try.prog (tbl_49 D) (lt_11_18 D) 80 44 (loopB Try.prog 44 2) (sh_11.st env vars ctx))).map Nr.step = some (st_11 D env vars) := by kernel_rfl
noncomputable def ll_12 (D : Dom) : List (LE D) := ⟨44, 2, sh_11, st_11 D, fun s => evCodeH Try.prog (tbl_49 D) (lt_11_18 D) 80 44 (loopB Try.prog 44 2) s⟩ :: ll_11 D
noncomputable def lt_12_18 (D : Dom) : LTb D := ltOf (ll_12 D) js_18
theorem hok_12_18 : HooksOK Try.prog (lt_12_18 R) := HooksOK.cons prg tok_49 hok_11_18 (by kernel_rfl) (by kernel_rfl) (rd_11 R)
def sh_12 : HSh := ⟨37, 38, [.env (.sslice 1 .part none () 4), .env (.clo 56 [] [.ptr 36 0]), .env (.undef), .env (.undef), .var (.si .i64 ()), .drop, .env (.sslice 1 .part none () 4), .env (.si .i64 ()), .var (.si .i64 ()), .drop, .drop, .drop, .drop, .drop, .drop, .drop, .drop, .drop, .drop], [], [(1, [.row true [.z .i64, .f, .f, .f] ()]), (36, [.si .i64 ()])], []⟩
def st_12 (D : Dom) (env p : List (PD D)) : D.B × D.B × List (PD D) := G9 D (nthZ env 0) (nthZ env 2) (nthL env 3) (nthZ env 4) p
theorem rd_12 (D : Dom) (env vars : List (PD D)) (ctx : List (AV D)) : (sh_12.round (sh_12.st env vars ctx).h.length (evCodeH Try.prog (tbl_49 D) (lt_12_18 D) 80 55 (loopB Try.prog 55 0) (sh_12.st env vars ctx))).map Nr.step = some (st_12 D env vars) := by kernel_rfl
noncomputable def ll_13 (D : Dom) : List (LE D) := ⟨55, 0, sh_12, st_12 D, fun s => evCodeH Try.prog (tbl_49 D) (lt_12_18 D) 80 55 (loopB Try.prog 55 0) s⟩ :: ll_12 D
noncomputable def lt_13_18 (D : Dom) : LTb D := ltOf (ll_13 D) js_18
theorem hok_13_18 : HooksOK Try.prog (lt_13_18 R) := HooksOK.cons prg tok_49 hok_12_18 (by kernel_rfl) (by kernel_rfl) (rd_12 R)
def js_19 : List (Nat × Nat × HSh) := js_18 ++ [(55, 2000000, ⟨37, 38, [.var (.si .i64 ())], [], [], []⟩)]
noncomputable def lt_13_19 (D : Dom) : LTb D := ltOf (ll_13 D) js_19
theorem hok_13_19 : HooksOK Try.prog (lt_13_19 R) := hok_13_18.jt
def sh_13 : HSh := ⟨34, 40, [.env (.sslice 5 .whole none () 9), .env (.sslice 1 .part none () 4), .env (.optr () 15 0), .env (.undef), .env (.undef), .env (.undef), .var (.nilp), .var (.si .i64 ()), .slot [.z .i64] 1, .drop, .drop, .env (.undef), .env (.sslice 1 .part none () 4), .env (.si .i64 ()), .env (.sb ()), .env (.sslice 1 .part none () 4), .env (.si .i64 ()), .var (.si .i64 ()), .drop, .drop, .drop, .drop, .drop, .drop, .drop, .drop, .drop, .drop, .drop, .drop, .drop, .drop, .drop, .drop, .drop, .drop, .drop, .drop, .drop, .drop, .drop, .drop, .drop, .drop, .drop, .drop, .drop, .drop, .drop, .drop, .drop, .drop, .drop, .drop, .drop, .drop, .drop, .drop, .env (.undef), .env (.undef), .env (.undef), .env (.undef), .env (.undef), .env (.undef), .env (.undef), .env (.undef), .env (.undef), .env (.undef), .env (.undef), .env (.undef), .env (.undef), .env (.undef), .env (.undef), .env (.undef), .env (.undef), .env (.undef), .env (.undef), .env (.undef), .env (.undef), .env (.undef), .env (.undef), .env (.undef)], [], [(5, [.row false [.f, .f, .f, .f, .f, .f, .f, .f, .f] ()]), (1, [.row true [.z .i64, .f, .f, .f] ()]), (15, [.gh () [.si .i64 (), .sslice 14 .whole none () 3, .optr () 19 0]]), (14, [.gh () [.row false [.f, .f, .f] ()]]), (19, [.gh () [.sslice 17 .whole none () 1, .si .i64 (), .sslice 18 .whole none () 2]]), (17, [.gh () [.row false [.z .i64] ()]]), (18, [.gh () [.row false [.z .i64, .z .i64] ()]])], []⟩
def st_13 (D : Dom) (env p : List (PD D)) : D.B × D.B × List (PD D) := G10 D (nthZ env 0) (nthZ env 1) (nthZ env 6) (nthZ env 7) (nthL env 8) (nthL env 9) p
theorem rd_13 (D : Dom) (env vars : List (PD D)) (ctx : List (AV D)) : (sh_13.round (sh_13.st env vars ctx).h.length (evCodeH Try.prog (tbl_49 D) (lt_13_19 D) 80 21 (loopB Try.prog 21 0) (sh_13.st env vars ctx))).map Nr.step = some (st_13 D env vars) := by kernel_rfl
noncomputable def ll_14 (D : Dom) : List (LE D) := ⟨21, 0, sh_13, st_13 D, fun s => evCodeH Try.prog (tbl_49 D) (lt_13_19 D) 80 21 (loopB Try.prog 21 0) s⟩ :: ll_13 D
noncomputable def lt_14_19 (D : Dom) : LTb D := ltOf (ll_14 D) js_19
theorem hok_14_19 : HooksOK Try.prog (lt_14_19 R) := HooksOK.cons prg tok_49 hok_13_19 (by kernel_rfl) (by kernel_rfl) (rd_13 R)
def js_20 : List (Nat × Nat × HSh) := js_19 ++ [(52, 2000000, ⟨40, 40, [.var (.si .i64 ())], [], [], []⟩)]
def js_21 : List (Nat × Nat × HSh) := js_20 ++ [(41, 2000000, ⟨40, 40, [.var (.si .i64 ())], [], [], []⟩)]
def js_22 : List (Nat × Nat × HSh) := js_21 ++ [(21, 59, ⟨40, 42, [.ctx, .ctx, .ctx, .ctx, .ctx, .ctx, .ctx, .ctx, .slot [.z .i64] 1, .ctx, .ctx, .ctx, .ctx, .ctx, .ctx, .ctx, .ctx, .ctx, .ctx, .ctx, .ctx, .ctx, .ctx, .ctx, .ctx, .ctx, .ctx, .ctx, .ctx, .ctx, .ctx, .ctx, .ctx, .ctx, .ctx, .ctx, .ctx, .ctx, .ctx, .ctx, .ctx, .ctx, .ctx, .ctx, .ctx, .ctx, .ctx, .ctx, .ctx, .ctx, .ctx, .ctx, .ctx, .ctx, .ctx, .ctx, .ctx, .ctx, .ctx, .ctx, .drop, .drop, .drop, .drop, .drop, .drop, .ctx, .ctx, .ctx, .ctx, .ctx, .ctx, .ctx, .ctx, .ctx, .ctx, .ctx, .ctx, .ctx, .ctx, .ctx, .ctx], [], [], [34]⟩)]
noncomputable def lt_14_22 (D : Dom) : LTb D := ltOf (ll_14 D) js_22
theorem hok_14_22 : HooksOK Try.prog (lt_14_22 R) := hok_14_19.jt
def sh_14 : HSh := ⟨47, 47, [.env (.sslice 40 .whole none () 1), .env (.undef), .var (.si .i64 ()), .var (.si .i64 ()), .var (.si .i64 ()), .env (.undef), .drop, .env (.sslice 40 .whole none () 1), .env (.si .i64 ()), .env (.sb ()), .env (.sslice 40 .whole none () 1), .env (.si .i64 ()), .var (.si .i64 ()), .drop, .drop, .drop, .drop, .drop, .drop, .drop, .drop, .drop, .drop, .drop, .drop, .drop, .env (.undef), .env (.undef), .env (.undef), .env (.undef), .env (.undef), .env (.undef), .env (.undef), .env (.undef)], [], [(40, [.row false [.z .i64] ()])], []⟩
def st_14 (D : Dom) (env p : List (PD D)) : D.B × D.B × List (PD D) := G2 D (nthZ env 4) (nthZ env 5) (nthL env 6) p
theorem rd_14 (D : Dom) (env vars : List (PD D)) (ctx : List (AV D)) : (sh_14.round (sh_14.st env vars ctx).h.length (evCodeH Try.prog (tbl_49 D) (lt_14_22 D) 80 72 (loopB Try.prog 72 0) (sh_14.st env vars ctx))).map Nr.step = some (st_14 D env vars) := by kernel_rfl
noncomputable def ll_15 (D : Dom) : List (LE D) := ⟨72, 0, sh_14, st_14 D, fun s => evCodeH Try.prog (tbl_49 D) (lt_14_22 D) 80 72 (loopB Try.prog 72 0) s⟩ :: ll_14 D
noncomputable def lt_15_22 (D : Dom) : LTb D := ltOf (ll_15 D) js_22
theorem hok_15_22 : HooksOK Try.prog (lt_15_22 R) := HooksOK.cons prg tok_49 hok_14_22 (by kernel_rfl) (by kernel_rfl) (rd_14 R)
def js_23 : List (Nat × Nat × HSh) := js_22 ++ [(73, 11, ⟨57, 59, [.ctx, .ctx, .ctx, .ctx, .ctx, .ctx, .ctx, .ctx, .ctx, .ctx, .ctx, .ctx, .drop, .drop, .drop, .drop, .drop, .drop, .drop, .drop], [(53, .cells [.slot [.z .i64] 1]), (54, .cells [.slot [.z .i64] 1])], [], [55, 56]⟩)]
noncomputable def lt_15_23 (D : Dom) : LTb D := ltOf (ll_15 D) js_23
theorem hok_15_23 : HooksOK Try.prog (lt_15_23 R) := hok_15_22.jt
def sh_15 : HSh := ⟨55, 59, [.env (.sslice 40 .whole none () 1), .env (.undef), .env (.nilp), .env (.ki .i64 0), .env (.ptr 47 0), .env (.si .i64 ()), .env (.ptr 50 0), .env (.ptr 52 0), .env (.ptr 53 0), .env (.ptr 54 0), .env (.clo 73 [] [.ptr 52 0, .ptr 47 0, .ptr 53 0, .ptr 54 0]), .drop, .drop, .env (.undef), .env (.undef), .env (.undef), .env (.undef), .env (.tup [.si .i64 (), .si .i64 ()]), .env (.sslice 40 .whole none () 1), .env (.tup [.si .i64 (), .si .i64 ()]), .env (.si .i64 ()), .env (.si .i64 ()), .env (.si .i64 ()), .env (.sb ()), .env (.undef), .env (.sslice 40 .whole none () 1), .env (.sslice 48 .whole none () 1), .env (.si .i64 ()), .env (.sslice 40 .whole none () 1), .env (.si .i64 ()), .env (.sslice 49 .whole none () 2), .env (.agg [.sslice 48 .whole none () 1, .si .i64 (), .sslice 49 .whole none () 2]), .env (.ptr 50 0), .env (.sslice 40 .whole none () 1), .env (.si .i64 ()), .env (.sslice 51 .whole none () 1), .env (.clo 73 [] [.ptr 52 0, .ptr 47 0, .ptr 53 0, .ptr 54 0]), .env (.sslice 40 .whole none () 1), .env (.si .i64 ()), .var (.si .i64 ()), .drop, .drop, .drop, .drop, .drop, .drop, .drop, .drop, .drop, .drop, .drop, .drop, .drop, .drop, .drop, .drop, .drop, .drop, .drop, .drop, .drop, .drop, .drop, .drop, .env (.undef), .env (.undef), .env (.undef), .env (.undef), .env (.undef), .env (.undef), .env (.undef), .env (.undef), .env (.undef), .env (.undef), .env (.undef), .env (.undef), .env (.undef), .env (.undef), .env (.undef), .env (.undef), .env (.undef), .env (.undef), .env (.undef), .env (.undef), .env (.undef), .env (.undef), .env (.undef), .env (.undef), .env (.undef), .env (.undef), .env (.undef), .env (.undef), .env (.undef), .env (.undef), .env (.undef), .env (.undef), .env (.undef), .env (.undef), .env (.undef), .env (.undef), .env (.undef), .env (.undef), .env (.undef), .env (.undef), .env (.undef), .env (.undef), .env (.undef), .env (.undef), .env (.undef), .env (.undef), .env (.undef), .env (.undef), .env (.undef), .env (.undef), .env (.undef), .env (.undef), .env (.undef), .env (.undef), .env (.undef), .env (.undef), .env (.undef), .env (.undef), .env (.undef), .env (.undef), .env (.undef), .env (.undef), .env (.undef), .env (.undef)], [(53, .cells [.slot [.z .i64] 1]), (54, .cells [.slot [.z .i64] 1]), (49, .row [.z .i64, .z .i64]), (51, .row [.z .i64])], [(40, [.row false [.z .i64] ()]), (47, [.si .i64 ()]), (50, [.sslice 48 .whole none () 1, .si .i64 (), .sslice 49 .whole none () 2]), (52, [.sslice 51 .whole none () 1]), (48, [.row false [.z .i64] ()])], []⟩
def st_15 (D : Dom) (env p : List (PD D)) : D.B × D.B × List (PD D) := G3 D (nthZ env 0) (nthZ env 23) (nthZ env 24) (nthL env 25) (nthZ env 26) (nthZ env 29) (nthZ env 30) p
theorem rd_15 (D : Dom) (env vars : List (PD D)) (ctx : List (AV D)) : (sh_15.round (sh_15.st env vars ctx).h.length (evCodeH Try.prog (tbl_49 D) (lt_15_23 D) 80 44 (loopB Try.prog 44 0) (sh_15.st env vars ctx))).map Nr.step = some (st_15 D env vars) := by kernel_rfl
noncomputable def ll_16 (D : Dom) : List (LE D) := ⟨44, 0, sh_15, st_15 D, fun s => evCodeH Try.prog (tbl_49 D) (lt_15_23 D) 80 44 (loopB Try.prog 44 0) s⟩ :: ll_15 D
noncomputable def lt_16_23 (D : Dom) : LTb D := ltOf (ll_16 D) js_23
theorem hok_16_23 : HooksOK Try.prog (lt_16_23 R) := HooksOK.cons prg tok_49 hok_15_23 (by kernel_rfl) (by kernel_rfl) (rd_15 R)
def js_24 : List (Nat × Nat × HSh) := js_23 ++ [(73, 11, ⟨63, 65, [.ctx, .ctx, .ctx, .ctx, .ctx, .ctx, .ctx, .ctx, .ctx, .ctx, .ctx, .ctx, .drop, .drop, .drop, .drop, .drop, .drop, .drop, .drop], [(53, .cells [.slot [.z .i64] 1]), (54, .cells [.slot [.z .i64] 1])], [], [61, 62]⟩)]
noncomputable def lt_16_24 (D : Dom) : LTb D := ltOf (ll_16 D) js_24
theorem hok_16_24 : HooksOK Try.prog (lt_16_24 R) := hok_16_23.jt
def sh_16 : HSh := ⟨59, 65, [.env (.sslice 40 .whole none () 1), .env (.undef), .env (.nilp), .env (.ki .i64 0), .env (.ptr 47 0), .env (.si .i64 ()), .env (.ptr 50 0), .env (.ptr 52 0), .env (.ptr 53 0), .env (.ptr 54 0), .env (.clo 73 [] [.ptr 52 0, .ptr 47 0, .ptr 53 0, .ptr 54 0]), .env (.any), .env (.any), .drop, .drop, .drop, .drop, .env (.tup [.si .i64 (), .si .i64 ()]), .env (.sslice 40 .whole none () 1), .env (.tup [.si .i64 (), .si .i64 ()]), .env (.si .i64 ()), .env (.si .i64 ()), .env (.si .i64 ()), .env (.sb ()), .env (.undef), .env (.sslice 40 .whole none () 1), .env (.sslice 48 .whole none () 1), .env (.si .i64 ()), .env (.sslice 40 .whole none () 1), .env (.si .i64 ()), .env (.sslice 49 .whole none () 2), .env (.agg [.sslice 48 .whole none () 1, .si .i64 (), .sslice 49 .whole none () 2]), .env (.ptr 50 0), .env (.sslice 40 .whole none () 1), .env (.si .i64 ()), .env (.sslice 51 .whole none () 1), .env (.clo 73 [] [.ptr 52 0, .ptr 47 0, .ptr 53 0, .ptr 54 0]), .env (.sslice 40 .whole none () 1), .env (.si .i64 ()), .env (.si .i64 ()), .env (.sb ()), .env (.any), .env (.any), .env (.any), .env (.any), .env (.any), .env (.any), .env (.any), .env (.any), .env (.any), .env (.any), .env (.any), .env (.any), .env (.any), .env (.any), .env (.any), .env (.any), .env (.any), .env (.any), .env (.any), .env (.any), .env (.any), .env (.any), .env (.any), .drop, .drop, .drop, .drop, .drop, .drop, .drop, .drop, .drop, .drop, .drop, .drop, .drop, .drop, .drop, .drop, .drop, .drop, .drop, .drop, .drop, .drop, .drop, .drop, .drop, .drop, .drop, .drop, .drop, .drop, .drop, .drop, .drop, .drop, .drop, .drop, .drop, .drop, .drop, .drop, .drop, .drop, .drop, .drop, .drop, .drop, .drop, .drop, .drop, .drop, .drop, .drop, .drop, .drop, .drop, .drop, .drop, .drop, .drop, .drop, .drop, .drop, .drop, .env (.undef)], [(51, .row [.z .i64]), (49, .row [.z .i64, .z .i64]), (53, .cells [.slot [.z .i64] 1]), (54, .cells [.slot [.z .i64] 1])], [(40, [.row false [.z .i64] ()]), (47, [.si .i64 ()]), (50, [.sslice 48 .whole none () 1, .si .i64 (), .sslice 49 .whole none () 2]), (52, [.sslice 51 .whole none () 1]), (48, [.row false [.z .i64] ()])], [55, 56]⟩
def st_16 (D : Dom) (env p : List (PD D)) : D.B × D.B × List (PD D) := G4 D (nthZ env 28) (nthZ env 31) (nthZ env 32) p
theorem rd_16 (D : Dom) (env vars : List (PD D)) (ctx : List (AV D)) : (sh_16.round (sh_16.st env vars ctx).h.length (evCodeH Try.prog (tbl_49 D) (lt_16_24 D) 80 44 (loopB Try.prog 44 2) (sh_16.st env vars ctx))).map Nr.step = some (st_16 D env vars) := by kernel_rfl
noncomputable def ll_17 (D : Dom) : List (LE D) := ⟨44, 2, sh_16, st_16 D, fun s => evCodeH Try.prog (tbl_49 D) (lt_16_24 D) 80 44 (loopB Try.prog 44 2) s⟩ :: ll_16 D
noncomputable def lt_17_24 (D : Dom) : LTb D := ltOf (ll_17 D) js_24
theorem hok_17_24 : HooksOK Try.prog (lt_17_24 R) := HooksOK.cons prg tok_49 hok_16_24 (by kernel_rfl) (by kernel_rfl) (rd_16 R)
def sh_17 : HSh := ⟨65, 65, [.env (.sslice 5 .whole none () 9), .env (.sslice 1 .part none () 4), .env (.undef), .env (.undef), .var (.si .i64 ()), .env (.si .i64 ()), .var (.si .i64 ()), .env (.sslice 1 .part none () 4), .env (.si .i64 ()), .env (.sb ()), .env (.si .i64 ()), .env (.sslice 1 .part none () 4), .env (.si .i64 ()), .env (.sb ()), .env (.any), .env (.any), .env (.sslice 1 .part none () 4), .env (.si .i64 ()), .env (.sptr 1 () 4 0), .env (.sptr 1 () 4 0), .env (.si .i64 ()), .env (.sb ()), .env (.sb ()), .env (.any), .env (.any), .env (.any), .env (.any), .env (.any), .env (.any), .env (.any), .env (.any), .env (.sb ()), .env (.sb ()), .env (.any), .env (.any), .env (.any), .env (.any), .env (.any), .env (.any), .env (.any), .env (.sb ()), .drop, .drop, .drop, .drop, .drop, .drop, .drop, .drop, .drop, .drop, .drop, .drop, .drop, .drop, .drop, .drop], [], [(5, [.row false [.f, .f, .f, .f, .f, .f, .f, .f, .f] ()]), (1, [.row true [.z .i64, .f, .f, .f] ()])], []⟩
def st_17 (D : Dom) (env p : List (PD D)) : D.B × D.B × List (PD D) := G11 D (nthZ env 1) (nthZ env 2) (nthL env 21) p
theorem rd_17 (D : Dom) (env vars : List (PD D)) (ctx : List (AV D)) : (sh_17.round (sh_17.st env vars ctx).h.length (evCodeH Try.prog (tbl_49 D) (lt_17_24 D) 80 23 (loopB Try.prog 23 2) (sh_17.st env vars ctx))).map Nr.step = some (st_17 D env vars) := by kernel_rfl
noncomputable def ll_18 (D : Dom) : List (LE D) := ⟨23, 2, sh_17, st_17 D, fun s => evCodeH Try.prog (tbl_49 D) (lt_17_24 D) 80 23 (loopB Try.prog 23 2) s⟩ :: ll_17 D
noncomputable def lt_18_24 (D : Dom) : LTb D := ltOf (ll_18 D) js_24
theorem hok_18_24 : HooksOK Try.prog (lt_18_24 R) := HooksOK.cons prg tok_49 hok_17_24 (by kernel_rfl) (by kernel_rfl) (rd_17 R)
def sh_18 : HSh := ⟨65, 65, [.env (.sslice 5 .whole none () 9), .env (.sslice 1 .part none () 4), .env (.undef), .env (.undef), .var (.si .i64 ()), .var (.si .i64 ()), .drop, .env (.sslice 1 .part none () 4), .env (.si .i64 ()), .env (.sb ()), .drop, .drop, .drop, .drop, .drop, .drop, .drop, .drop, .drop, .drop, .drop, .drop, .drop, .drop, .drop, .drop, .drop, .drop, .drop, .drop, .drop, .drop, .drop, .drop, .drop, .drop, .drop, .drop, .drop, .drop, .drop, .drop, .drop, .drop, .drop, .drop, .drop, .drop, .drop, .drop, .drop, .drop, .drop, .drop, .drop, .drop, .drop], [], [(5, [.row false [.f, .f, .f, .f, .f, .f, .f, .f, .f] ()]), (1, [.row true [.z .i64, .f, .f, .f] ()])], []⟩
def st_18 (D : Dom) (env p : List (PD D)) : D.B × D.B × List (PD D) := G12 D (nthZ env 0) (nthZ env 1) (nthL env 6) p
theorem rd_18 (D : Dom) (env vars : List (PD D)) (ctx : List (AV D)) : (sh_18.round (sh_18.st env vars ctx).h.length (evCodeH Try.prog (tbl_49 D) (lt_18_24 D) 80 23 (loopB Try.prog 23 0) (sh_18.st env vars ctx))).map Nr.step = some (st_18 D env vars) := by kernel_rfl
noncomputable def ll_19 (D : Dom) : List (LE D) := ⟨23, 0, sh_18, st_18 D, fun s => evCodeH Try.prog (tbl_49 D) (lt_18_24 D) 80 23 (loopB Try.prog 23 0) s⟩ :: ll_18 D
noncomputable def lt_19_24 (D : Dom) : LTb D := ltOf (ll_19 D) js_24
theorem hok_19_24 : HooksOK Try.prog (lt_19_24 R) := HooksOK.cons prg tok_49 hok_18_24 (by kernel_rfl) (by kernel_rfl) (rd_18 R)
def js_25 : List (Nat × Nat × HSh) := js_24 ++ [(23, 2000000, ⟨65, 65, [.var (.si .i64 ())], [], [], []⟩)]
noncomputable def lt_19_25 (D : Dom) : LTb D := ltOf (ll_19 D) js_25
theorem hok_19_25 : HooksOK Try.prog (lt_19_25 R) := hok_19_24.jt
def sh_19 : HSh := ⟨66, 66, [.env (.agg [.si .i64 (), .sslice 2 .part none () 3]), .env (.ptr 65 0), .var (.sb ()), .var (.si .i64 ()), .env (.ptr 65 0), .env (.si .i64 ()), .env (.sb ()), .env (.sb ()), .env (.any), .env (.any), .env (.any), .env (.sb ()), .env (.sb ()), .env (.any), .env (.any), .env (.any), .env (.any), .env (.any), .env (.any), .env (.any), .env (.sb ()), .drop, .drop, .drop, .drop, .drop, .drop, .drop, .drop, .drop, .drop, .drop, .drop, .drop, .drop], [], [(2, [.row true [.f, .f, .f] ()]), (65, [.si .i64 (), .sslice 2 .part none () 3])], []⟩
def st_19 (D : Dom) (env p : List (PD D)) : D.B × D.B × List (PD D) := G7 D (nthL env 8) (nthZ env 10) p
theorem rd_19 (D : Dom) (env vars : List (PD D)) (ctx : List (AV D)) : (sh_19.round (sh_19.st env vars ctx).h.length (evCodeH Try.prog (tbl_49 D) (lt_19_25 D) 80 15 (loopB Try.prog 15 0) (sh_19.st env vars ctx))).map Nr.step = some (st_19 D env vars) := by kernel_rfl
noncomputable def ll_20 (D : Dom) : List (LE D) := ⟨15, 0, sh_19, st_19 D, fun s => evCodeH Try.prog (tbl_49 D) (lt_19_25 D) 80 15 (loopB Try.prog 15 0) s⟩ :: ll_19 D
noncomputable def lt_20_25 (D : Dom) : LTb D := ltOf (ll_20 D) js_25
theorem hok_20_25 : HooksOK Try.prog (lt_20_25 R) := HooksOK.cons prg tok_49 hok_19_25 (by kernel_rfl) (by kernel_rfl) (rd_19 R)
def js_26 : List (Nat × Nat × HSh) := js_25 ++ [(15, 2000000, ⟨65, 66, [.var (.sb ())], [], [], []⟩)]
noncomputable def lt_20_26 (D : Dom) : LTb D := ltOf (ll_20 D) js_26
theorem hok_20_26 : HooksOK Try.prog (lt_20_26 R) := hok_20_25.jt
def sh_20 : HSh := ⟨67, 70, [.env (.sslice 5 .whole none () 9), .env (.sslice 1 .part none () 4), .env (.agg [.si .i64 (), .sslice 2 .part none () 3]), .env (.sb ()), .env (.undef), .env (.undef), .env (.ptr 66 0), .env (.undef), .env (.nils), .slot [.z .i64] 1, .var (.si .i64 ()), .drop, .drop, .drop, .drop, .drop, .drop, .drop, .drop, .drop, .drop, .drop, .drop, .drop, .drop, .drop, .drop, .drop, .drop, .drop, .drop, .drop, .drop, .drop, .drop, .drop, .env (.undef), .env (.undef), .env (.undef), .env (.undef), .env (.undef), .env (.undef), .env (.undef), .env (.undef), .env (.undef)], [], [(5, [.row false [.f, .f, .f, .f, .f, .f, .f, .f, .f] ()]), (1, [.row true [.z .i64, .f, .f, .f] ()]), (2, [.row true [.f, .f, .f] ()]), (66, [.si .i64 (), .sslice 2 .part none () 3])], []⟩
def st_20 (D : Dom) (env p : List (PD D)) : D.B × D.B × List (PD D) := G13 D (nthZ env 0) (nthZ env 1) (nthL env 5) (nthL env 6) p
theorem rd_20 (D : Dom) (env vars : List (PD D)) (ctx : List (AV D)) : (sh_20.round (sh_20.st env vars ctx).h.length (evCodeH Try.prog (tbl_49 D) (lt_20_26 D) 80 24 (loopB Try.prog 24 0) (sh_20.st env vars ctx))).map Nr.step = some (st_20 D env vars) := by kernel_rfl
noncomputable def ll_21 (D : Dom) : List (LE D) := ⟨24, 0, sh_20, st_20 D, fun s => evCodeH Try.prog (tbl_49 D) (lt_20_26 D) 80 24 (loopB Try.prog 24 0) s⟩ :: ll_20 D
noncomputable def lt_21_26 (D : Dom) : LTb D := ltOf (ll_21 D) js_26
theorem hok_21_26 : HooksOK Try.prog (lt_21_26 R) := HooksOK.cons prg tok_49 hok_20_26 (by kernel_rfl) (by kernel_rfl) (rd_20 R)
def sh_21 : HSh := ⟨71, 74, [.env (.agg [.si .i64 (), .sslice 2 .part none () 3]), .env (.ptr 70 0), .env (.nils), .slot [.z .i64] 1, .var (.si .i64 ()), .drop, .drop, .drop, .drop, .drop, .drop, .drop, .drop, .drop, .drop, .drop, .drop, .drop, .drop, .drop, .drop, .env (.undef)], [], [(2, [.row true [.f, .f, .f] ()]), (70, [.si .i64 (), .sslice 2 .part none () 3])], []⟩
def st_21 (D : Dom) (env p : List (PD D)) : D.B × D.B × List (PD D) := G14 D (nthL env 2) (nthZ env 4) p
theorem rd_21 (D : Dom) (env vars : List (PD D)) (ctx : List (AV D)) : (sh_21.round (sh_21.st env vars ctx).h.length (evCodeH Try.prog (tbl_49 D) (lt_21_26 D) 80 50 (loopB Try.prog 50 0) (sh_21.st env vars ctx))).map Nr.step = some (st_21 D env vars) := by kernel_rfl
noncomputable def ll_22 (D : Dom) : List (LE D) := ⟨50, 0, sh_21, st_21 D, fun s => evCodeH Try.prog (tbl_49 D) (lt_21_26 D) 80 50 (loopB Try.prog 50 0) s⟩ :: ll_21 D
noncomputable def lt_22_26 (D : Dom) : LTb D := ltOf (ll_22 D) js_26
theorem hok_22_26 : HooksOK Try.prog (lt_22_26 R) := HooksOK.cons prg tok_49 hok_21_26 (by kernel_rfl) (by kernel_rfl) (rd_21 R)
def sh_22 : HSh := ⟨74, 74, [.env (.sslice 71 .whole none () 1), .env (.undef), .var (.si .i64 ()), .var (.si .i64 ()), .var (.si .i64 ()), .drop, .drop, .drop, .drop, .drop, .drop, .drop, .drop, .drop, .drop, .drop, .drop, .drop, .drop, .drop, .drop, .drop, .drop, .drop, .drop, .drop, .drop, .drop, .drop, .env (.undef)], [], [(71, [.row false [.z .i64] ()])], []⟩
def st_22 (D : Dom) (env p : List (PD D)) : D.B × D.B × List (PD D) := G15 D (nthZ env 0) (nthL env 1) p
theorem rd_22 (D : Dom) (env vars : List (PD D)) (ctx : List (AV D)) : (sh_22.round (sh_22.st env vars ctx).h.length (evCodeH Try.prog (tbl_49 D) (lt_22_26 D) 80 8 (loopB Try.prog 8 0) (sh_22.st env vars ctx))).map Nr.step = some (st_22 D env vars) := by kernel_rfl
noncomputable def ll_23 (D : Dom) : List (LE D) := ⟨8, 0, sh_22, st_22 D, fun s => evCodeH Try.prog (tbl_49 D) (lt_22_26 D) 80 8 (loopB Try.prog 8 0) s⟩ :: ll_22 D
noncomputable def lt_23_26 (D : Dom) : LTb D := ltOf (ll_23 D) js_26
theorem hok_23_26 : HooksOK Try.prog (lt_23_26 R) := HooksOK.cons prg tok_49 hok_22_26 (by kernel_rfl) (by kernel_rfl) (rd_22 R)
def js_27 : List (Nat × Nat × HSh) := js_26 ++ [(8, 2000000, ⟨74, 74, [.var (.si .i64 ())], [], [], []⟩)]
def js_28 : List (Nat × Nat × HSh) := js_27 ++ [(24, 36, ⟨70, 76, [.ctx, .ctx, .ctx, .ctx, .ctx, .ctx, .ctx, .ctx, .ctx, .slot [.z .i64] 1, .ctx, .ctx, .ctx, .ctx, .ctx, .ctx, .ctx, .ctx, .ctx, .ctx, .ctx, .ctx, .ctx, .ctx, .ctx, .ctx, .ctx, .ctx, .ctx, .ctx, .ctx, .ctx, .ctx, .ctx, .ctx, .ctx, .ctx, .drop, .drop, .drop, .drop, .drop, .drop, .drop, .ctx], [], [], [67]⟩)]
noncomputable def lt_23_28 (D : Dom) : LTb D := ltOf (ll_23 D) js_28
theorem hok_23_28 : HooksOK Try.prog (lt_23_28 R) := hok_23_26.jt
def sh_23 : HSh := ⟨66, 69, [.env (.sslice 5 .whole none () 9), .env (.sslice 1 .part none () 4), .env (.agg [.si .i64 (), .sslice 2 .part none () 3]), .env (.kb false), .env (.undef), .env (.undef), .env (.ptr 65 0), .env (.undef), .env (.nils), .slot [.z .i64] 1, .var (.si .i64 ()), .drop, .drop, .drop, .drop, .drop, .drop, .drop, .drop, .drop, .drop, .drop, .drop, .drop, .drop, .drop, .drop, .drop, .drop, .drop, .drop, .drop, .drop, .drop, .drop, .drop, .env (.undef), .env (.undef), .env (.undef), .env (.undef), .env (.undef), .env (.undef), .env (.undef), .env (.undef), .env (.undef)], [], [(5, [.row false [.f, .f, .f, .f, .f, .f, .f, .f, .f] ()]), (1, [.row true [.z .i64, .f, .f, .f] ()]), (2, [.row true [.f, .f, .f] ()]), (65, [.si .i64 (), .sslice 2 .part none () 3])], []⟩
def st_23 (D : Dom) (env p : List (PD D)) : D.B × D.B × List (PD D) := G13 D (nthZ env 0) (nthZ env 1) (nthL env 4) (nthL env 5) p
theorem rd_23 (D : Dom) (env vars : List (PD D)) (ctx : List (AV D)) : (sh_23.round (sh_23.st env vars ctx).h.length (evCodeH Try.prog (tbl_49 D) (lt_23_28 D) 80 24 (loopB Try.prog 24 0) (sh_23.st env vars ctx))).map Nr.step = some (st_23 D env vars) := by kernel_rfl
noncomputable def ll_24 (D : Dom) : List (LE D) := ⟨24, 0, sh_23, st_23 D, fun s => evCodeH Try.prog (tbl_49 D) (lt_23_28 D) 80 24 (loopB Try.prog 24 0) s⟩ :: ll_23 D
noncomputable def lt_24_28 (D : Dom) : LTb D := ltOf (ll_24 D) js_28
theorem hok_24_28 : HooksOK Try.prog (lt_24_28 R) := HooksOK.cons prg tok_49 hok_23_28 (by kernel_rfl) (by kernel_rfl) (rd_23 R)
def sh_24 : HSh := ⟨65, 65, [.env (.nils), .env (.undef), .var (.si .i64 ()), .var (.si .i64 ()), .var (.si .i64 ()), .drop, .drop, .drop, .drop, .drop, .drop, .drop, .drop, .drop, .drop, .drop, .drop, .drop, .drop, .drop, .drop, .drop, .drop, .drop, .drop, .drop, .drop, .drop, .drop, .env (.undef)], [], [], []⟩
def st_24 (D : Dom) (env p : List (PD D)) : D.B × D.B × List (PD D) := let _ := env; G16 D p
theorem rd_24 (D : Dom) (env vars : List (PD D)) (ctx : List (AV D)) : (sh_24.round (sh_24.st env vars ctx).h.length (evCodeH Try.prog (tbl_49 D) (lt_24_28 D) 80 8 (loopB Try.prog 8 0) (sh_24.st env vars ctx))).map Nr.step = some (st_24 D env vars) := by kernel_rfl
noncomputable def ll_25 (D : Dom) : List (LE D) := ⟨8, 0, sh_24, st_24 D, fun s => evCodeH Try.prog (tbl_49 D) (lt_24_28 D) 80 8 (loopB Try.prog 8 0) s⟩ :: ll_24 D
noncomputable def lt_25_28 (D : Dom) : LTb D := ltOf (ll_25 D) js_28
theorem hok_25_28 : HooksOK Try.prog (lt_25_28 R) := HooksOK.cons prg tok_49 hok_24_28 (by kernel_rfl) (by kernel_rfl) (rd_24 R)
def sh_25 : HSh := ⟨76, 76, [.env (.sslice 70 .whole none () 1), .env (.undef), .var (.si .i64 ()), .var (.si .i64 ()), .var (.si .i64 ()), .drop, .drop, .drop, .drop, .drop, .drop, .drop, .drop, .drop, .drop, .drop, .drop, .drop, .drop, .drop, .drop, .drop, .drop, .drop, .drop, .drop, .drop, .drop, .drop, .env (.undef)], [], [(70, [.row false [.z .i64] ()])], []⟩
def st_25 (D : Dom) (env p : List (PD D)) : D.B × D.B × List (PD D) := G15 D (nthZ env 0) (nthL env 1) p
theorem rd_25 (D : Dom) (env vars : List (PD D)) (ctx : List (AV D)) : (sh_25.round (sh_25.st env vars ctx).h.length (evCodeH Try.prog (tbl_49 D) (lt_25_28 D) 80 8 (loopB Try.prog 8 0) (sh_25.st env vars ctx))).map Nr.step = some (st_25 D env vars) := by kernel_rfl
noncomputable def ll_26 (D : Dom) : List (LE D) := ⟨8, 0, sh_25, st_25 D, fun s => evCodeH Try.prog (tbl_49 D) (lt_25_28 D) 80 8 (loopB Try.prog 8 0) s⟩ :: ll_25 D
noncomputable def lt_26_28 (D : Dom) : LTb D := ltOf (ll_26 D) js_28
theorem hok_26_28 : HooksOK Try.prog (lt_26_28 R) := HooksOK.cons prg tok_49 hok_25_28 (by kernel_rfl) (by kernel_rfl) (rd_25 R)
def js_29 : List (Nat × Nat × HSh) := js_28 ++ [(8, 2000000, ⟨76, 76, [.var (.si .i64 ())], [], [], []⟩)]
def js_30 : List (Nat × Nat × HSh) := js_29 ++ [(9, 2000000, ⟨76, 76, [.var (.si .i64 ())], [], [], []⟩)]
def js_31 : List (Nat × Nat × HSh) := js_30 ++ [(51, 2000000, ⟨76, 76, [.var (.si .i64 ())], [], [], []⟩)]
def js_32 : List (Nat × Nat × HSh) := js_31 ++ [(52, 2000000, ⟨76, 76, [.var (.si .i64 ())], [], [], []⟩)]
def js_33 : List (Nat × Nat × HSh) := js_32 ++ [(53, 2000000, ⟨76, 76, [.var (.si .i64 ())], [], [], []⟩)]
def js_34 : List (Nat × Nat × HSh) := js_33 ++ [(10, 2000000, ⟨76, 76, [.var (.si .i64 ())], [], [], []⟩)]
def js_35 : List (Nat × Nat × HSh) := js_34 ++ [(26, 2000000, ⟨76, 76, [.var (.fl ())], [], [], []⟩)]
def js_36 : List (Nat × Nat × HSh) := js_35 ++ [(11, 2000000, ⟨76, 76, [.var (.fl ())], [], [], []⟩)]
noncomputable def lt_26_36 (D : Dom) : LTb D := ltOf (ll_26 D) js_36
theorem hok_26_36 : HooksOK Try.prog (lt_26_36 R) := hok_26_28.jt
def sh_26 : HSh := ⟨76, 76, [.env (.agg [.sslice 0 .part none () 9, .sslice 1 .part none () 4, .si .i64 (), .sslice 2 .part none () 3, .sb ()]), .env (.fl ()), .env (.si .i64 ()), .env (.ptr 3 0), .env (.undef), .env (.undef), .var (.sb ()), .env (.optr () 46 0), .env (.sslice 70 .whole none () 1), .env (.ki .i64 0), .env (.si .i64 ()), .var (.si .i64 ()), .env (.undef), .env (.ptr 3 1), .env (.sslice 1 .part none () 4), .env (.si .i64 ()), .env (.sb ()), .env (.undef), .env (.tup [.optr () 46 0, .sslice 70 .whole none () 1, .ki .i64 0]), .env (.agg [.sslice 0 .part none () 9, .sslice 1 .part none () 4, .si .i64 (), .sslice 2 .part none () 3, .sb ()]), .env (.tup [.optr () 46 0, .sslice 70 .whole none () 1, .ki .i64 0]), .env (.optr () 46 0), .env (.sslice 70 .whole none () 1), .env (.ki .i64 0), .env (.ki .i64 0), .env (.kb false), .env (.ki .i64 0), .env (.kb false), .env (.undef), .env (.sslice 70 .whole none () 1), .env (.si .i64 ()), .env (.optr () 46 0), .env (.si .i64 ()), .env (.sslice 70 .whole none () 1), .env (.si .i64 ()), .env (.sb ()), .env (.sslice 70 .whole none () 1), .env (.si .i64 ()), .env (.sb ()), .env (.sb ()), .env (.any), .env (.any), .env (.sb ()), .env (.undef), .env (.undef), .env (.undef), .env (.undef), .env (.undef), .env (.undef), .env (.undef), .env (.undef), .env (.undef), .env (.undef), .env (.undef), .env (.undef), .drop, .drop, .drop, .drop, .drop, .drop, .drop, .drop, .drop, .drop, .drop, .drop, .drop, .drop, .drop, .drop, .drop, .drop, .env (.undef), .env (.undef), .env (.undef), .env (.undef), .env (.undef), .env (.undef), .env (.undef), .env (.undef), .env (.undef), .env (.undef), .env (.undef), .env (.undef), .env (.undef), .env (.undef), .env (.undef), .env (.undef), .env (.undef), .env (.undef), .env (.undef), .env (.undef), .env (.undef), .env (.undef), .env (.undef), .env (.undef), .env (.undef), .env (.undef), .env (.undef), .env (.undef), .env (.undef), .env (.undef), .env (.undef), .env (.undef), .env (.undef), .env (.undef), .env (.undef), .env (.undef), .env (.undef)], [], [(0, [.row true [.f, .f, .f, .f, .f, .f, .f, .f, .f] ()]), (1, [.row true [.z .i64, .f, .f, .f] ()]), (2, [.row true [.f, .f, .f] ()]), (3, [.sslice 0 .part none () 9, .sslice 1 .part none () 4, .si .i64 (), .sslice 2 .part none () 3, .sb ()]), (46, [.gh () [.sslice 43 .whole none () 9, .sslice 45 .whole none () 4, .optr () 15 0, .optr () 50 0]]), (70, [.row false [.z .i64] ()]), (43, [.gh () [.row false [.f, .f, .f, .f, .f, .f, .f, .f, .f] ()]]), (45, [.gh () [.row false [.z .i64, .f, .f, .f] ()]]), (15, [.gh () [.si .i64 (), .sslice 14 .whole none () 3, .optr () 19 0]]), (50, [.gh () [.sslice 48 .whole none () 1, .si .i64 (), .sslice 49 .whole none () 2]]), (14, [.gh () [.row false [.f, .f, .f] ()]]), (19, [.gh () [.sslice 17 .whole none () 1, .si .i64 (), .sslice 18 .whole none () 2]]), (48, [.gh () [.row false [.z .i64] ()]]), (49, [.gh () [.row false [.z .i64, .z .i64] ()]]), (17, [.gh () [.row false [.z .i64] ()]]), (18, [.gh () [.row false [.z .i64, .z .i64] ()]])], []⟩
def st_26 (D : Dom) (env p : List (PD D)) : D.B × D.B × List (PD D) := G17 D (nthB env 7) (nthZ env 8) (nthZ env 9) (nthB env 44) (nthB env 48) (nthL env 49) (nthB env 58) (nthZ env 59) (nthZ env 60) (nthB env 68) (nthL env 69) p
theorem rd_26 (D : Dom) (env vars : List (PD D)) (ctx : List (AV D)) : (sh_26.round (sh_26.st env vars ctx).h.length (evCodeH Try.prog (tbl_49 D) (lt_26_36 D) 80 3 (loopB Try.prog 3 0) (sh_26.st env vars ctx))).map Nr.step = some (st_26 D env vars) := by kernel_rfl
noncomputable def ll_27 (D : Dom) : List (LE D) := ⟨3, 0, sh_26, st_26 D, fun s => evCodeH Try.prog (tbl_49 D) (lt_26_36 D) 80 3 (loopB Try.prog 3 0) s⟩ :: ll_26 D
noncomputable def lt_27_36 (D : Dom) : LTb D := ltOf (ll_27 D) js_36
theorem hok_27_36 : HooksOK Try.prog (lt_27_36 R) := HooksOK.cons prg tok_49 hok_26_36 (by kernel_rfl) (by kernel_rfl) (rd_26 R)
def sh_27 : HSh := ⟨69, 69, [.env (.sslice 66 .whole none () 1), .env (.undef), .var (.si .i64 ()), .var (.si .i64 ()), .var (.si .i64 ()), .drop, .drop, .drop, .drop, .drop, .drop, .drop, .drop, .drop, .drop, .drop, .drop, .drop, .drop, .drop, .drop, .drop, .drop, .drop, .drop, .drop, .drop, .drop, .drop, .env (.undef)], [], [(66, [.row false [.z .i64] ()])], []⟩
def st_27 (D : Dom) (env p : List (PD D)) : D.B × D.B × List (PD D) := G15 D (nthZ env 0) (nthL env 1) p
theorem rd_27 (D : Dom) (env vars : List (PD D)) (ctx : List (AV D)) : (sh_27.round (sh_27.st env vars ctx).h.length (evCodeH Try.prog (tbl_49 D) (lt_27_36 D) 80 8 (loopB Try.prog 8 0) (sh_27.st env vars ctx))).map Nr.step = some (st_27 D env vars) := by kernel_rfl
noncomputable def ll_28 (D : Dom) : List (LE D) := ⟨8, 0, sh_27, st_27 D, fun s => evCodeH Try.prog (tbl_49 D) (lt_27_36 D) 80 8 (loopB Try.prog 8 0) s⟩ :: ll_27 D
noncomputable def lt_28_36 (D : Dom) : LTb D := ltOf (ll_28 D) js_36
theorem hok_28_36 : HooksOK Try.prog (lt_28_36 R) := HooksOK.cons prg tok_49 hok_27_36 (by kernel_rfl) (by kernel_rfl) (rd_27 R)
def js_37 : List (Nat × Nat × HSh) := js_36 ++ [(8, 2000000, ⟨69, 69, [.var (.si .i64 ())], [], [], []⟩)]
def js_38 : List (Nat × Nat × HSh) := js_37 ++ [(9, 2000000, ⟨69, 69, [.var (.si .i64 ())], [], [], []⟩)]
def js_39 : List (Nat × Nat × HSh) := js_38 ++ [(51, 2000000, ⟨69, 69, [.var (.si .i64 ())], [], [], []⟩)]
def js_40 : List (Nat × Nat × HSh) := js_39 ++ [(52, 2000000, ⟨69, 69, [.var (.si .i64 ())], [], [], []⟩)]
def js_41 : List (Nat × Nat × HSh) := js_40 ++ [(53, 2000000, ⟨69, 69, [.var (.si .i64 ())], [], [], []⟩)]
def js_42 : List (Nat × Nat × HSh) := js_41 ++ [(10, 2000000, ⟨69, 69, [.var (.si .i64 ())], [], [], []⟩)]
def js_43 : List (Nat × Nat × HSh) := js_42 ++ [(26, 2000000, ⟨69, 69, [.var (.fl ())], [], [], []⟩)]
def js_44 : List (Nat × Nat × HSh) := js_43 ++ [(11, 2000000, ⟨69, 69, [.var (.fl ())], [], [], []⟩)]
noncomputable def lt_28_44 (D : Dom) : LTb D := ltOf (ll_28 D) js_44
theorem hok_28_44 : HooksOK Try.prog (lt_28_44 R) := hok_28_36.jt
def sh_28 : HSh := ⟨69, 69, [.env (.agg [.sslice 0 .part none () 9, .sslice 1 .part none () 4, .si .i64 (), .sslice 2 .part none () 3, .sb ()]), .env (.fl ()), .env (.si .i64 ()), .env (.ptr 3 0), .env (.undef), .env (.undef), .var (.sb ()), .env (.optr () 46 0), .env (.sslice 66 .whole none () 1), .env (.ki .i64 0), .env (.si .i64 ()), .var (.si .i64 ()), .env (.undef), .env (.ptr 3 1), .env (.sslice 1 .part none () 4), .env (.si .i64 ()), .env (.sb ()), .env (.undef), .env (.tup [.optr () 46 0, .sslice 66 .whole none () 1, .ki .i64 0]), .env (.agg [.sslice 0 .part none () 9, .sslice 1 .part none () 4, .si .i64 (), .sslice 2 .part none () 3, .sb ()]), .env (.tup [.optr () 46 0, .sslice 66 .whole none () 1, .ki .i64 0]), .env (.optr () 46 0), .env (.sslice 66 .whole none () 1), .env (.ki .i64 0), .env (.ki .i64 0), .env (.kb false), .env (.ki .i64 0), .env (.kb false), .env (.undef), .env (.sslice 66 .whole none () 1), .env (.si .i64 ()), .env (.optr () 46 0), .env (.si .i64 ()), .env (.sslice 66 .whole none () 1), .env (.si .i64 ()), .env (.sb ()), .env (.sslice 66 .whole none () 1), .env (.si .i64 ()), .env (.sb ()), .env (.sb ()), .env (.any), .env (.any), .env (.sb ()), .env (.undef), .env (.undef), .env (.undef), .env (.undef), .env (.undef), .env (.undef), .env (.undef), .env (.undef), .env (.undef), .env (.undef), .env (.undef), .env (.undef), .drop, .drop, .drop, .drop, .drop, .drop, .drop, .drop, .drop, .drop, .drop, .drop, .drop, .drop, .drop, .drop, .drop, .drop, .env (.undef), .env (.undef), .env (.undef), .env (.undef), .env (.undef), .env (.undef), .env (.undef), .env (.undef), .env (.undef), .env (.undef), .env (.undef), .env (.undef), .env (.undef), .env (.undef), .env (.undef), .env (.undef), .env (.undef), .env (.undef), .env (.undef), .env (.undef), .env (.undef), .env (.undef), .env (.undef), .env (.undef), .env (.undef), .env (.undef), .env (.undef), .env (.undef), .env (.undef), .env (.undef), .env (.undef), .env (.undef), .env (.undef), .env (.undef), .env (.undef), .env (.undef), .env (.undef)], [], [(0, [.row true [.f, .f, .f, .f, .f, .f, .f, .f, .f] ()]), (1, [.row true [.z .i64, .f, .f, .f] ()]), (2, [.row true [.f, .f, .f] ()]), (3, [.sslice 0 .part none () 9, .sslice 1 .part none () 4, .si .i64 (), .sslice 2 .part none () 3, .sb ()]), (46, [.gh () [.sslice 43 .whole none () 9, .sslice 45 .whole none () 4, .optr () 15 0, .optr () 50 0]]), (66, [.row false [.z .i64] ()]), (43, [.gh () [.row false [.f, .f, .f, .f, .f, .f, .f, .f, .f] ()]]), (45, [.gh () [.row false [.z .i64, .f, .f, .f] ()]]), (15, [.gh () [.si .i64 (), .sslice 14 .whole none () 3, .optr () 19 0]]), (50, [.gh () [.sslice 48 .whole none () 1, .si .i64 (), .sslice 49 .whole none () 2]]), (14, [.gh () [.row false [.f, .f, .f] ()]]), (19, [.gh () [.sslice 17 .whole none () 1, .si .i64 (), .sslice 18 .whole none () 2]]), (48, [.gh () [.row false [.z .i64] ()]]), (49, [.gh () [.row false [.z .i64, .z .i64] ()]]), (17, [.gh () [.row false [.z .i64] ()]]), (18, [.gh () [.row false [.z .i64, .z .i64] ()]])], []⟩
def st_28 (D : Dom) (env p : List (PD D)) : D.B × D.B × List (PD D) := G17 D (nthB env 7) (nthZ env 8) (nthZ env 9) (nthB env 44) (nthB env 48) (nthL env 49) (nthB env 58) (nthZ env 59) (nthZ env 60) (nthB env 68) (nthL env 69) p
theorem rd_28 (D : Dom) (env vars : List (PD D)) (ctx : List (AV D)) : (sh_28.round (sh_28.st env vars ctx).h.length (evCodeH Try.prog (tbl_49 D) (lt_28_44 D) 80 3 (loopB Try.prog 3 0) (sh_28.st env vars ctx))).map Nr.step = some (st_28 D env vars) := by kernel_rfl
noncomputable def ll_29 (D : Dom) : List (LE D) := ⟨3, 0, sh_28, st_28 D, fun s => evCodeH Try.prog (tbl_49 D) (lt_28_44 D) 80 3 (loopB Try.prog 3 0) s⟩ :: ll_28 D
noncomputable def lt_29_44 (D : Dom) : LTb D := ltOf (ll_29 D) js_44
theorem hok_29_44 : HooksOK Try.prog (lt_29_44 R) := HooksOK.cons prg tok_49 hok_28_44 (by kernel_rfl) (by kernel_rfl) (rd_28 R)

-- penumbra/penumbralaw18.LightMakes
def WS3_0_0 (D : Dom) (a2 : D.Z) (a3 : D.L) : D.B := (D.bite (D.bite (D.zlt a2 (D.zc 1)) (D.bc true) (D.zlt (D.zc 16) a2)) (D.bc true) (D.bnot (D.zeq (D.llen a3) (D.zmul .i64 (D.zc 8) a2))))
def WS3_0_1 (D : Dom) (a3 : D.L) : List (PD D) := (L7 D a3 (D.llen a3) (D.bc false) (D.zc 0))
def WS3_0_2 (D : Dom) (a2 : D.Z) (a3 : D.L) : D.B := (D.bite (WS3_0_0 D a2 a3) (D.bc false) (D.bite (D.zlt (nthZ (WS3_0_1 D a3) 1) (D.llen a3)) (D.bc false) (D.bc true)))
def WS3_0_3 (D : Dom) (a2 : D.Z) (a3 : D.L) (a4 : D.B) : D.B := (D.bite a4 (WS3_0_2 D a2 a3) (D.bc false))
def WS3_0_4 (D : Dom) (a3 : D.L) : List (PD D) := (L8 D (D.llen a3) (D.llen a3) a3 D.lnil (D.zc 0) (D.zc 0))
def WS3_0_5 (D : Dom) (a3 : D.L) : D.B := (D.zlt (nthZ (WS3_0_4 D a3) 2) (D.llen a3))
def WS3_0_6 (D : Dom) (a2 : D.Z) (a3 : D.L) (a4 : D.B) : D.B := (D.band (WS3_0_3 D a2 a3 a4) (D.bnot (D.zeq (D.zite (WS3_0_0 D a2 a3) (D.zc 2) (D.zite (WS3_0_5 D a3) (D.zc 2) (D.zc 0))) (D.zc 0))))
def WS3_0_7 (D : Dom) (a0 : D.L) : List (PD D) := (L6 D (D.llen a0) a0 D.lnil (D.zc 0))
def WS3_0_8 (D : Dom) (a0 : D.L) (a1 : D.L) : List (PD D) := (L10 D (D.llen (nthL (WS3_0_7 D a0) 0)) (D.llen a1) (D.llen a1) (D.llen a1) (nthL (WS3_0_7 D a0) 0) a1 D.lnil (D.zc 0) (D.zc 0))
def WS3_0_9 (D : Dom) (a0 : D.L) (a1 : D.L) : D.B := (D.zlt (nthZ (WS3_0_8 D a0 a1) 2) (D.llen a1))
def WS3_0_10 (D : Dom) (a0 : D.L) (a1 : D.L) : List (PD D) := (L12 D (D.llen (nthL (WS3_0_7 D a0) 0)) (D.llen a1) a1 (D.zc 0) (D.zc 0))
def WS3_0_11 (D : Dom) (a0 : D.L) (a1 : D.L) : D.Z := (D.zite (D.zlt (D.zc 512) (D.llen a1)) (D.zc 4) (D.zite (D.zlt (nthZ (WS3_0_10 D a0 a1) 1) (D.llen a1)) (D.zc 2) (D.zc 0)))
def WS3_0_12 (D : Dom) (a0 : D.L) (a1 : D.L) : D.B := (D.bite (D.zlt (D.zc 512) (D.llen a1)) (D.bc false) (D.bnot (WS3_0_9 D a0 a1)))
def WS3_0_13 (D : Dom) (a0 : D.L) (a1 : D.L) : D.B := (D.bnot (D.zeq (WS3_0_11 D a0 a1) (D.zc 0)))
def WS3_0_14 (D : Dom) (a0 : D.L) (a1 : D.L) : D.B := (D.bite (D.bite (D.bnot (D.zeq (D.zite (D.zlt (D.zc 512) (D.llen a1)) (D.zc 4) (D.zite (WS3_0_9 D a0 a1) (D.zc 2) (D.zc 0))) (WS3_0_11 D a0 a1))) (D.bc true) (D.bite (D.zeq (WS3_0_11 D a0 a1) (D.zc 0)) (D.bnot (WS3_0_12 D a0 a1)) (D.bc false))) (D.bc true) (D.bite (WS3_0_13 D a0 a1) (WS3_0_12 D a0 a1) (D.bc false)))
def WS3_0_15 (D : Dom) (a0 : D.L) (a1 : D.L) (a2 : D.Z) (a3 : D.L) (a4 : D.B) : D.B := (D.bite (WS3_0_6 D a2 a3 a4) (D.bc true) (D.bite (WS3_0_14 D a0 a1) (D.bc true) (WS3_0_13 D a0 a1)))
def WS3_0_16 (D : Dom) (a0 : D.L) (a1 : D.L) (a2 : D.Z) (a3 : D.L) (a4 : D.B) : D.Z := (D.zite (WS3_0_6 D a2 a3 a4) (D.zc 8) (D.zite (WS3_0_14 D a0 a1) (D.zc 8) (WS3_0_11 D a0 a1)))
def WS3_0_17 (D : Dom) (a2 : D.Z) (a3 : D.L) (a4 : D.B) : D.B := (D.bite (WS3_0_3 D a2 a3 a4) (D.bite (WS3_0_0 D a2 a3) (D.bc false) (D.bnot (WS3_0_5 D a3))) (D.bc false))
def WS3_0_18 (D : Dom) (a1 : D.L) : D.Z := (D.llen (D.lcat D.lnil (D.lsub a1 (D.zc 0) (D.llen a1))))
def WS3_0_19 (D : Dom) (a0 : D.L) (a1 : D.L) (a2 : D.Z) (a3 : D.L) (a4 : D.B) : D.Z := (D.zite (D.bite (D.bnot (WS3_0_12 D a0 a1)) (D.bc true) (WS3_0_17 D a2 a3 a4)) (D.zite (D.bnot (WS3_0_12 D a0 a1)) (D.zc 0) (D.zadd .i64 (WS3_0_18 D a1) (D.zc 1))) (WS3_0_18 D a1))
def WS3_0_20 (D : Dom) (a0 : D.L) (a1 : D.L) : List (PD D) := (L13 D (D.llen (nthL (WS3_0_7 D a0) 0)) (D.llen a1) (nthL (WS3_0_7 D a0) 0) a1 D.lnil (D.zc 0))
def WS3_0_21 (D : Dom) (a3 : D.L) : List (PD D) := (L14 D a3 (D.llen a3) D.lnil (D.zc 0))
def WS3_0_22 (D : Dom) (a3 : D.L) : List (PD D) := (L15 D (D.llen (nthL (WS3_0_21 D a3) 0)) (nthL (WS3_0_21 D a3) 0) (D.zc 0) (D.zc 0) (D.zc 0))
def WS3_0_23 (D : Dom) (a0 : D.L) (a1 : D.L) (a2 : D.Z) (a3 : D.L) : D.L := (D.lite (WS3_0_2 D a2 a3) (D.lapp (nthL (WS3_0_20 D a0 a1) 0) [[.z (S49_0 D (D.zite (D.zlt (nthZ (WS3_0_22 D a3) 2) (D.llen (nthL (WS3_0_21 D a3) 0))) (D.zc (-1)) (nthZ (WS3_0_22 D a3) 1)) (D.zc 1048576))]]) (nthL (WS3_0_20 D a0 a1) 0))
def WS3_0_24 (D : Dom) (a0 : D.L) (a1 : D.L) (a2 : D.Z) (a3 : D.L) : List (PD D) := (L15 D (D.llen (WS3_0_23 D a0 a1 a2 a3)) (WS3_0_23 D a0 a1 a2 a3) (D.zc 0) (D.zc 0) (D.zc 0))
def WS3_0_25 (D : Dom) (a0 : D.L) (a1 : D.L) (a2 : D.Z) (a3 : D.L) : D.Z := (D.zite (D.zlt (nthZ (WS3_0_24 D a0 a1 a2 a3) 2) (D.llen (WS3_0_23 D a0 a1 a2 a3))) (D.zc (-1)) (nthZ (WS3_0_24 D a0 a1 a2 a3) 1))
def WS3_0_26 (D : Dom) (a3 : D.L) : D.B := (D.zlt (D.zc 1024) (D.llen (nthL (WS3_0_4 D a3) 0)))
def WS3_0_27 (D : Dom) (a3 : D.L) : List (PD D) := (L2 D (D.llen (nthL (WS3_0_4 D a3) 0)) (D.llen (nthL (WS3_0_4 D a3) 0)) (nthL (WS3_0_4 D a3) 0) (D.zc 0) (D.zc 0) (D.zc 0) (D.zc 0))
def WS3_0_28 (D : Dom) (a3 : D.L) : D.B := (D.zlt (nthZ (WS3_0_27 D a3) 3) (D.llen (nthL (WS3_0_4 D a3) 0)))
def WS3_0_29 (D : Dom) (a3 : D.L) : D.B := (D.zeq (D.llen (nthL (WS3_0_4 D a3) 0)) (D.zc 0))
def WS3_0_30 (D : Dom) (a3 : D.L) : D.B := (D.bite (WS3_0_29 D a3) (D.bc true) (D.zeq (nthZ (WS3_0_27 D a3) 2) (D.zc 0)))
def WS3_0_31 (D : Dom) (a0 : D.L) (a1 : D.L) (a2 : D.Z) (a3 : D.L) (a4 : D.B) : D.L := (D.lite (WS3_0_17 D a2 a3 a4) (D.lapp (nthL (WS3_0_8 D a0 a1) 0) [[.z (D.zmin (D.zite (D.bnot (WS3_0_17 D a2 a3 a4)) (D.zc 0) (D.zite (D.bnot (D.bnot (D.bnot (D.zeq (D.zite (WS3_0_26 D a3) (D.zc 4) (D.zite (WS3_0_28 D a3) (D.zc 2) (D.zite (WS3_0_30 D a3) (D.zite (WS3_0_29 D a3) (D.zc 2) (D.zc 13)) (D.zc 0)))) (D.zc 0))))) (D.zc 0) (D.zite (WS3_0_26 D a3) (D.zc 0) (D.zite (WS3_0_28 D a3) (D.zc 0) (D.zite (WS3_0_30 D a3) (D.zc 0) (nthZ (WS3_0_27 D a3) 2)))))) (D.zc 1048576))]]) (nthL (WS3_0_8 D a0 a1) 0))
def WS3_0_32 (D : Dom) (a0 : D.L) (a1 : D.L) (a2 : D.Z) (a3 : D.L) (a4 : D.B) : D.B := (D.zlt (D.zc 1024) (D.llen (WS3_0_31 D a0 a1 a2 a3 a4)))
def WS3_0_33 (D : Dom) (a0 : D.L) (a1 : D.L) (a2 : D.Z) (a3 : D.L) (a4 : D.B) : List (PD D) := (L2 D (D.llen (WS3_0_31 D a0 a1 a2 a3 a4)) (D.llen (WS3_0_31 D a0 a1 a2 a3 a4)) (WS3_0_31 D a0 a1 a2 a3 a4) (D.zc 0) (D.zc 0) (D.zc 0) (D.zc 0))
def WS3_0_34 (D : Dom) (a0 : D.L) (a1 : D.L) (a2 : D.Z) (a3 : D.L) (a4 : D.B) : D.B := (D.zlt (nthZ (WS3_0_33 D a0 a1 a2 a3 a4) 3) (D.llen (WS3_0_31 D a0 a1 a2 a3 a4)))
def WS3_0_35 (D : Dom) (a0 : D.L) (a1 : D.L) (a2 : D.Z) (a3 : D.L) (a4 : D.B) : D.B := (D.zeq (D.llen (WS3_0_31 D a0 a1 a2 a3 a4)) (D.zc 0))
def WS3_0_36 (D : Dom) (a0 : D.L) (a1 : D.L) (a2 : D.Z) (a3 : D.L) (a4 : D.B) : D.B := (D.bite (WS3_0_35 D a0 a1 a2 a3 a4) (D.bc true) (D.zeq (nthZ (WS3_0_33 D a0 a1 a2 a3 a4) 2) (D.zc 0)))
def WS3_0_37 (D : Dom) (a0 : D.L) (a1 : D.L) (a2 : D.Z) (a3 : D.L) (a4 : D.B) : D.B := (D.bnot (D.zeq (D.zite (WS3_0_32 D a0 a1 a2 a3 a4) (D.zc 4) (D.zite (WS3_0_34 D a0 a1 a2 a3 a4) (D.zc 2) (D.zite (WS3_0_36 D a0 a1 a2 a3 a4) (D.zite (WS3_0_35 D a0 a1 a2 a3 a4) (D.zc 2) (D.zc 13)) (D.zc 0)))) (D.zc 0)))
def WS3_0_38 (D : Dom) (a0 : D.L) (a1 : D.L) (a2 : D.Z) (a3 : D.L) (a4 : D.B) : D.B := (D.bnot (D.bnot (WS3_0_37 D a0 a1 a2 a3 a4)))
def WS3_0_39 (D : Dom) (a0 : D.L) (a1 : D.L) (a2 : D.Z) (a3 : D.L) (a4 : D.B) : D.Z := (D.zite (WS3_0_38 D a0 a1 a2 a3 a4) (D.zc 0) (D.llen (WS3_0_31 D a0 a1 a2 a3 a4)))
def WS3_0_40 (D : Dom) (a0 : D.L) (a1 : D.L) (a2 : D.Z) (a3 : D.L) (a4 : D.B) : D.Z := (D.zite (WS3_0_32 D a0 a1 a2 a3 a4) (D.zc 0) (D.zite (WS3_0_34 D a0 a1 a2 a3 a4) (D.zc 0) (D.zite (WS3_0_36 D a0 a1 a2 a3 a4) (D.zc 0) (nthZ (WS3_0_33 D a0 a1 a2 a3 a4) 2))))
def WS3_0_41 (D : Dom) (a0 : D.L) (a1 : D.L) (a2 : D.Z) (a3 : D.L) (a4 : D.B) : D.Z := (D.zmul .i64 (WS3_0_39 D a0 a1 a2 a3 a4) (D.zite (WS3_0_38 D a0 a1 a2 a3 a4) (D.zc 0) (WS3_0_40 D a0 a1 a2 a3 a4)))
def WS3_0_42 (D : Dom) (a0 : D.L) (a1 : D.L) (a2 : D.Z) (a3 : D.L) (a4 : D.B) (a5 : D.F) : D.Z := (D.zmin (D.f2i .i64 (D.fmul (D.fite (D.bnot (D.bite (D.fge a5 (D.fc 0)) (D.flt a5 (D.fc 4607182418800017408)) (D.bc false))) (D.fc 0) a5) (D.i2f (WS3_0_41 D a0 a1 a2 a3 a4)))) (D.zsub .i64 (WS3_0_41 D a0 a1 a2 a3 a4) (D.zc 1)))
def WS3_0_43 (D : Dom) (a0 : D.L) (a1 : D.L) (a2 : D.Z) (a3 : D.L) (a4 : D.B) : List (PD D) := (L3 D (D.llen (WS3_0_31 D a0 a1 a2 a3 a4)) (D.llen (WS3_0_31 D a0 a1 a2 a3 a4)) (D.llen (WS3_0_31 D a0 a1 a2 a3 a4)) (WS3_0_31 D a0 a1 a2 a3 a4) (WS3_0_40 D a0 a1 a2 a3 a4) (D.llen (WS3_0_31 D a0 a1 a2 a3 a4)) (D.llen (WS3_0_31 D a0 a1 a2 a3 a4)) D.lnil D.lnil (D.zc 0) (D.lrep (D.llen (WS3_0_31 D a0 a1 a2 a3 a4)) [.z (D.zc 0), .z (D.zc 0)]) (D.lrep (D.llen (WS3_0_31 D a0 a1 a2 a3 a4)) [.z (D.zc 0)]))
def WS3_0_44 (D : Dom) (a0 : D.L) (a1 : D.L) (a2 : D.Z) (a3 : D.L) (a4 : D.B) : List (PD D) := (L4 D (WS3_0_40 D a0 a1 a2 a3 a4) (D.llen (WS3_0_31 D a0 a1 a2 a3 a4)) (D.llen (WS3_0_31 D a0 a1 a2 a3 a4)) (nthL (WS3_0_43 D a0 a1 a2 a3 a4) 0) (nthL (WS3_0_43 D a0 a1 a2 a3 a4) 1) (nthL (WS3_0_43 D a0 a1 a2 a3 a4) 4) (nthL (WS3_0_43 D a0 a1 a2 a3 a4) 3))
def WS3_0_45 (D : Dom) (a0 : D.L) (a1 : D.L) (a2 : D.Z) (a3 : D.L) (a4 : D.B) (a5 : D.F) : D.Z := (D.zquo .i64 (WS3_0_42 D a0 a1 a2 a3 a4 a5) (WS3_0_40 D a0 a1 a2 a3 a4))
def WS3_0_46 (D : Dom) (a0 : D.L) (a1 : D.L) (a2 : D.Z) (a3 : D.L) (a4 : D.B) (a5 : D.F) : D.Z := (D.zite (D.bnot (WS3_0_12 D a0 a1)) (D.zc (-1)) (D.zite (D.bite (D.zlt (WS3_0_42 D a0 a1 a2 a3 a4 a5) (D.zc 0)) (D.bc true) (D.zle (WS3_0_41 D a0 a1 a2 a3 a4) (WS3_0_42 D a0 a1 a2 a3 a4 a5))) (D.zc (-1)) (D.zite (D.zlt (D.zrem .i64 (WS3_0_42 D a0 a1 a2 a3 a4 a5) (WS3_0_40 D a0 a1 a2 a3 a4)) (D.lz (nthL (WS3_0_44 D a0 a1 a2 a3 a4) 3) (WS3_0_45 D a0 a1 a2 a3 a4 a5) 0)) (WS3_0_45 D a0 a1 a2 a3 a4 a5) (D.lz (nthL (WS3_0_44 D a0 a1 a2 a3 a4) 3) (WS3_0_45 D a0 a1 a2 a3 a4 a5) 1))))
def WS3_0_47 (D : Dom) (a0 : D.L) (a1 : D.L) (a2 : D.Z) (a3 : D.L) (a4 : D.B) (a5 : D.F) : D.B := (D.bite (D.bite (S6_0 D) (D.zeq (WS3_0_46 D a0 a1 a2 a3 a4 a5) (D.zc (-1))) (D.bc false)) (D.feq (D.fite (D.bnot (WS3_0_12 D a0 a1)) (D.fc 0) (D.fite (D.bnot (D.zlt (D.zc 0) (WS3_0_39 D a0 a1 a2 a3 a4))) (D.fc 0) (D.fdiv (D.i2f (D.lz (WS3_0_31 D a0 a1 a2 a3 a4) (D.zc 0) 0)) (D.i2f (WS3_0_40 D a0 a1 a2 a3 a4))))) (D.fc 0)) (D.bc false))
def WS3_0_48 (D : Dom) (a0 : D.L) (a1 : D.L) : D.B := (D.bite (D.zlt (D.zc 512) (D.llen a1)) (D.bc false) (D.bite (WS3_0_9 D a0 a1) (D.bc false) (D.bc true)))
def WS3_0_49 (D : Dom) (a0 : D.L) (a1 : D.L) (a2 : D.Z) (a3 : D.L) (a4 : D.B) : D.B := (D.bite (D.zlt (D.zc 512) (D.llen a1)) (D.bc false) (D.bite (WS3_0_9 D a0 a1) (D.bc false) (D.bite (WS3_0_37 D a0 a1 a2 a3 a4) (D.bc false) (D.bc true))))
def WS3_0_50 (D : Dom) (a0 : D.L) (a1 : D.L) (a2 : D.Z) (a3 : D.L) (a4 : D.B) : List (PD D) := (L17 D (WS3_0_12 D a0 a1) (D.llen (WS3_0_23 D a0 a1 a2 a3)) (WS3_0_25 D a0 a1 a2 a3) (WS3_0_48 D a0 a1) (D.bnot (WS3_0_37 D a0 a1 a2 a3 a4)) (WS3_0_23 D a0 a1 a2 a3) (WS3_0_49 D a0 a1 a2 a3 a4) (D.llen (WS3_0_31 D a0 a1 a2 a3 a4)) (WS3_0_40 D a0 a1 a2 a3 a4) (WS3_0_49 D a0 a1 a2 a3 a4) (WS3_0_31 D a0 a1 a2 a3 a4) (D.bc false) (D.zc 0))
def WS3_0_51 (D : Dom) (a0 : D.L) (a1 : D.L) (a2 : D.Z) (a3 : D.L) (a4 : D.B) (a5 : D.F) : D.B := (D.bite (S6_0 D) (D.zle (D.zc 0) (WS3_0_46 D a0 a1 a2 a3 a4 a5)) (D.bc false))
def WS3_0_52 (D : Dom) (a0 : D.L) (a1 : D.L) (a2 : D.Z) (a3 : D.L) (a4 : D.B) (a6 : D.Z) : D.B := (D.feq (D.fite (D.bnot (WS3_0_12 D a0 a1)) (D.fc 0) (D.fite (D.bnot (D.bite (D.zle (D.zc 0) a6) (D.zlt a6 (WS3_0_39 D a0 a1 a2 a3 a4)) (D.bc false))) (D.fc 0) (D.fdiv (D.i2f (D.lz (WS3_0_31 D a0 a1 a2 a3 a4) a6 0)) (D.i2f (WS3_0_40 D a0 a1 a2 a3 a4))))) (D.fc 0))
def WS3_0_53 (D : Dom) (a0 : D.L) (a1 : D.L) : List (PD D) := (L15 D (D.llen (nthL (WS3_0_20 D a0 a1) 0)) (nthL (WS3_0_20 D a0 a1) 0) (D.zc 0) (D.zc 0) (D.zc 0))
def WS3_0_54 (D : Dom) (a0 : D.L) (a1 : D.L) : D.Z := (D.zite (D.zlt (nthZ (WS3_0_53 D a0 a1) 2) (D.llen (nthL (WS3_0_20 D a0 a1) 0))) (D.zc (-1)) (nthZ (WS3_0_53 D a0 a1) 1))
def WS3_0_55 (D : Dom) (a0 : D.L) (a1 : D.L) (a2 : D.Z) (a3 : D.L) (a4 : D.B) : List (PD D) := (L17 D (WS3_0_12 D a0 a1) (D.llen (nthL (WS3_0_20 D a0 a1) 0)) (WS3_0_54 D a0 a1) (WS3_0_48 D a0 a1) (D.bnot (WS3_0_37 D a0 a1 a2 a3 a4)) (nthL (WS3_0_20 D a0 a1) 0) (WS3_0_49 D a0 a1 a2 a3 a4) (D.llen (WS3_0_31 D a0 a1 a2 a3 a4)) (WS3_0_40 D a0 a1 a2 a3 a4) (WS3_0_49 D a0 a1 a2 a3 a4) (WS3_0_31 D a0 a1 a2 a3 a4) (D.bc false) (D.zc 0))
def WS3_0_56 (D : Dom) (a0 : D.L) (a1 : D.L) (a2 : D.Z) (a3 : D.L) (a4 : D.B) (a5 : D.F) (a6 : D.Z) : D.B := (D.bite (D.band (D.bnot (WS3_0_15 D a0 a1 a2 a3 a4)) (D.band (D.bnot (WS3_0_6 D a2 a3 a4)) (D.band (D.bnot (WS3_0_14 D a0 a1)) (D.band (D.bnot (WS3_0_13 D a0 a1)) a4)))) (D.bite (D.bnot (D.zeq (WS3_0_19 D a0 a1 a2 a3 a4) (D.llen (WS3_0_23 D a0 a1 a2 a3)))) (D.bc false) (D.bite (D.bite (D.zeq (D.llen (WS3_0_23 D a0 a1 a2 a3)) (D.zc 0)) (D.bc true) (D.zeq (WS3_0_25 D a0 a1 a2 a3) (D.zc 0))) (WS3_0_47 D a0 a1 a2 a3 a4 a5) (D.bite (D.zlt (nthZ (WS3_0_50 D a0 a1 a2 a3 a4) 1) (D.llen (WS3_0_23 D a0 a1 a2 a3))) (D.bc false) (D.bite (D.bite (D.bite (WS3_0_51 D a0 a1 a2 a3 a4 a5) (D.zlt (WS3_0_46 D a0 a1 a2 a3 a4 a5) (D.llen (WS3_0_23 D a0 a1 a2 a3))) (D.bc false)) (D.zlt (D.zc 0) (D.lz (WS3_0_23 D a0 a1 a2 a3) (WS3_0_46 D a0 a1 a2 a3 a4 a5) 0)) (D.bc false)) (D.bite (D.zle (D.zc 0) a6) (D.bite (D.zlt a6 (D.llen (WS3_0_23 D a0 a1 a2 a3))) (D.bc true) (WS3_0_52 D a0 a1 a2 a3 a4 a6)) (WS3_0_52 D a0 a1 a2 a3 a4 a6)) (D.bc false))))) (D.bite (D.bnot (D.zeq (WS3_0_19 D a0 a1 a2 a3 a4) (D.llen (nthL (WS3_0_20 D a0 a1) 0)))) (D.bc false) (D.bite (D.bite (D.zeq (D.llen (nthL (WS3_0_20 D a0 a1) 0)) (D.zc 0)) (D.bc true) (D.zeq (WS3_0_54 D a0 a1) (D.zc 0))) (WS3_0_47 D a0 a1 a2 a3 a4 a5) (D.bite (D.zlt (nthZ (WS3_0_55 D a0 a1 a2 a3 a4) 1) (D.llen (nthL (WS3_0_20 D a0 a1) 0))) (D.bc false) (D.bite (D.bite (D.bite (WS3_0_51 D a0 a1 a2 a3 a4 a5) (D.zlt (WS3_0_46 D a0 a1 a2 a3 a4 a5) (D.llen (nthL (WS3_0_20 D a0 a1) 0))) (D.bc false)) (D.zlt (D.zc 0) (D.lz (nthL (WS3_0_20 D a0 a1) 0) (WS3_0_46 D a0 a1 a2 a3 a4 a5) 0)) (D.bc false)) (D.bite (D.zle (D.zc 0) a6) (D.bite (D.zlt a6 (D.llen (nthL (WS3_0_20 D a0 a1) 0))) (D.bc true) (WS3_0_52 D a0 a1 a2 a3 a4 a6)) (WS3_0_52 D a0 a1 a2 a3 a4 a6)) (D.bc false))))))
def S3_0 (D : Dom) (a0 : D.L) (a1 : D.L) (a2 : D.Z) (a3 : D.L) (a4 : D.B) (a5 : D.F) (a6 : D.Z) : D.B := (D.bite (D.zlt (D.zc 600) (D.llen a1)) (S6_0 D) (D.bite (WS3_0_15 D a0 a1 a2 a3 a4) (D.bite (D.zeq (WS3_0_16 D a0 a1 a2 a3 a4) (D.zc 8)) (D.bc false) (D.bite (D.bnot (D.zeq (WS3_0_16 D a0 a1 a2 a3 a4) (D.zc 0))) (S6_0 D) (D.bite (D.bite (S6_0 D) (D.bc true) (D.bc false)) (D.feq (D.fc 0) (D.fc 0)) (D.bc false)))) (WS3_0_56 D a0 a1 a2 a3 a4 a5 a6)))
def WO3_0 (D : Dom) (a0 : D.L) : D.B := (E6 D (D.llen a0) a0 D.lnil (D.zc 0))
def WO3_1 (D : Dom) (a2 : D.Z) (a3 : D.L) : D.B := (D.bite (D.bite (D.zlt a2 (D.zc 1)) (D.bc true) (D.zlt (D.zc 16) a2)) (D.bc true) (D.bnot (D.zeq (D.llen a3) (D.zmul .i64 (D.zc 8) a2))))
def WO3_2 (D : Dom) (a3 : D.L) : D.B := (E7 D a3 (D.llen a3) (D.bc false) (D.zc 0))
def WO3_3 (D : Dom) (a2 : D.Z) (a3 : D.L) : D.B := (D.bite (WO3_1 D a2 a3) (D.bc true) (WO3_2 D a3))
def WO3_4 (D : Dom) (a3 : D.L) : List (PD D) := (L7 D a3 (D.llen a3) (D.bc false) (D.zc 0))
def WO3_5 (D : Dom) (a2 : D.Z) (a3 : D.L) : D.B := (D.bite (WO3_1 D a2 a3) (D.bc false) (D.bite (D.zlt (nthZ (WO3_4 D a3) 1) (D.llen a3)) (D.bc false) (D.bc true)))
def WO3_6 (D : Dom) (a3 : D.L) : D.B := (E8 D (D.llen a3) (D.llen a3) a3 D.lnil (D.zc 0) (D.zc 0))
def WO3_7 (D : Dom) (a3 : D.L) : List (PD D) := (L8 D (D.llen a3) (D.llen a3) a3 D.lnil (D.zc 0) (D.zc 0))
def WO3_8 (D : Dom) (a3 : D.L) : D.B := (D.zlt (nthZ (WO3_7 D a3) 2) (D.llen a3))
def WO3_9 (D : Dom) (a3 : D.L) : D.B := (D.zlt (D.zc 1024) (D.llen (nthL (WO3_7 D a3) 0)))
def WO3_10 (D : Dom) (a3 : D.L) : D.B := (E2 D (D.llen (nthL (WO3_7 D a3) 0)) (D.llen (nthL (WO3_7 D a3) 0)) (nthL (WO3_7 D a3) 0) (D.zc 0) (D.zc 0) (D.zc 0) (D.zc 0))
def WO3_11 (D : Dom) (a3 : D.L) : List (PD D) := (L2 D (D.llen (nthL (WO3_7 D a3) 0)) (D.llen (nthL (WO3_7 D a3) 0)) (nthL (WO3_7 D a3) 0) (D.zc 0) (D.zc 0) (D.zc 0) (D.zc 0))
def WO3_12 (D : Dom) (a3 : D.L) : D.B := (D.zlt (nthZ (WO3_11 D a3) 3) (D.llen (nthL (WO3_7 D a3) 0)))
def WO3_13 (D : Dom) (a3 : D.L) : D.B := (D.zeq (D.llen (nthL (WO3_7 D a3) 0)) (D.zc 0))
def WO3_14 (D : Dom) (a3 : D.L) : D.B := (D.bite (WO3_13 D a3) (D.bc true) (D.zeq (nthZ (WO3_11 D a3) 2) (D.zc 0)))
def WO3_15 (D : Dom) (a3 : D.L) : D.B := (D.bnot (D.zeq (D.zite (WO3_9 D a3) (D.zc 4) (D.zite (WO3_12 D a3) (D.zc 2) (D.zite (WO3_14 D a3) (D.zite (WO3_13 D a3) (D.zc 2) (D.zc 13)) (D.zc 0)))) (D.zc 0)))
def WO3_16 (D : Dom) (a3 : D.L) : D.B := (D.zle (D.llen (nthL (WO3_7 D a3) 0)) (D.zc 1073741824))
def WO3_17 (D : Dom) (a3 : D.L) : D.B := (D.band (D.zle (D.zc 0) (D.llen (nthL (WO3_7 D a3) 0))) (WO3_16 D a3))
def WO3_18 (D : Dom) (a3 : D.L) : D.Z := (D.zite (WO3_9 D a3) (D.zc 0) (D.zite (WO3_12 D a3) (D.zc 0) (D.zite (WO3_14 D a3) (D.zc 0) (nthZ (WO3_11 D a3) 2))))
def WO3_19 (D : Dom) (a3 : D.L) : D.L := (D.lrep (D.llen (nthL (WO3_7 D a3) 0)) [.z (D.zc 0), .z (D.zc 0)])
def WO3_20 (D : Dom) (a3 : D.L) : D.L := (D.lrep (D.llen (nthL (WO3_7 D a3) 0)) [.z (D.zc 0)])
def WO3_21 (D : Dom) (a3 : D.L) : D.B := (E3 D (D.llen (nthL (WO3_7 D a3) 0)) (D.llen (nthL (WO3_7 D a3) 0)) (D.llen (nthL (WO3_7 D a3) 0)) (nthL (WO3_7 D a3) 0) (WO3_18 D a3) (D.llen (nthL (WO3_7 D a3) 0)) (D.llen (nthL (WO3_7 D a3) 0)) D.lnil D.lnil (D.zc 0) (WO3_19 D a3) (WO3_20 D a3))
def WO3_22 (D : Dom) (a3 : D.L) : List (PD D) := (L3 D (D.llen (nthL (WO3_7 D a3) 0)) (D.llen (nthL (WO3_7 D a3) 0)) (D.llen (nthL (WO3_7 D a3) 0)) (nthL (WO3_7 D a3) 0) (WO3_18 D a3) (D.llen (nthL (WO3_7 D a3) 0)) (D.llen (nthL (WO3_7 D a3) 0)) D.lnil D.lnil (D.zc 0) (WO3_19 D a3) (WO3_20 D a3))
def WO3_23 (D : Dom) (a3 : D.L) : D.B := (E4 D (WO3_18 D a3) (D.llen (nthL (WO3_7 D a3) 0)) (D.llen (nthL (WO3_7 D a3) 0)) (nthL (WO3_22 D a3) 0) (nthL (WO3_22 D a3) 1) (nthL (WO3_22 D a3) 4) (nthL (WO3_22 D a3) 3))
def WO3_24 (D : Dom) (a2 : D.Z) (a3 : D.L) (a4 : D.B) : D.B := (D.band (D.bite a4 (WO3_5 D a2 a3) (D.bc false)) (D.bnot (D.zeq (D.zite (WO3_1 D a2 a3) (D.zc 2) (D.zite (WO3_8 D a3) (D.zc 2) (D.zc 0))) (D.zc 0))))
def WO3_25 (D : Dom) (a0 : D.L) : List (PD D) := (L6 D (D.llen a0) a0 D.lnil (D.zc 0))
def WO3_26 (D : Dom) (a0 : D.L) (a1 : D.L) : D.B := (E10 D (D.llen (nthL (WO3_25 D a0) 0)) (D.llen a1) (D.llen a1) (D.llen a1) (nthL (WO3_25 D a0) 0) a1 D.lnil (D.zc 0) (D.zc 0))
def WO3_27 (D : Dom) (a0 : D.L) (a1 : D.L) : List (PD D) := (L10 D (D.llen (nthL (WO3_25 D a0) 0)) (D.llen a1) (D.llen a1) (D.llen a1) (nthL (WO3_25 D a0) 0) a1 D.lnil (D.zc 0) (D.zc 0))
def WO3_28 (D : Dom) (a0 : D.L) (a1 : D.L) : D.B := (D.zlt (nthZ (WO3_27 D a0 a1) 2) (D.llen a1))
def WO3_29 (D : Dom) (a2 : D.Z) (a3 : D.L) (a4 : D.B) : D.B := (D.bite (D.bite a4 (WO3_5 D a2 a3) (D.bc false)) (D.bite (WO3_1 D a2 a3) (D.bc false) (D.bnot (WO3_8 D a3))) (D.bc false))
def WO3_30 (D : Dom) (a0 : D.L) (a1 : D.L) (a2 : D.Z) (a3 : D.L) (a4 : D.B) : D.L := (D.lapp (nthL (WO3_27 D a0 a1) 0) [[.z (D.zmin (D.zite (D.bnot (WO3_29 D a2 a3 a4)) (D.zc 0) (D.zite (D.bnot (D.bnot (WO3_15 D a3))) (D.zc 0) (WO3_18 D a3))) (D.zc 1048576))]])
def WO3_31 (D : Dom) (a0 : D.L) : D.Z := (D.llen (D.lcat D.lnil (D.lsub (nthL (WO3_25 D a0) 0) (D.zc 0) (D.llen (nthL (WO3_25 D a0) 0)))))
def WO3_32 (D : Dom) (a1 : D.L) : D.Z := (D.llen (D.lcat D.lnil (D.lsub a1 (D.zc 0) (D.llen a1))))
def WO3_33 (D : Dom) (a0 : D.L) (a1 : D.L) (a2 : D.Z) (a3 : D.L) (a4 : D.B) : D.L := (D.lite (WO3_29 D a2 a3 a4) (WO3_30 D a0 a1 a2 a3 a4) (nthL (WO3_27 D a0 a1) 0))
def WO3_34 (D : Dom) (a0 : D.L) (a1 : D.L) (a2 : D.Z) (a3 : D.L) (a4 : D.B) : D.B := (D.zlt (D.zc 1024) (D.llen (WO3_33 D a0 a1 a2 a3 a4)))
def WO3_35 (D : Dom) (a0 : D.L) (a1 : D.L) (a2 : D.Z) (a3 : D.L) (a4 : D.B) : D.B := (E2 D (D.llen (WO3_33 D a0 a1 a2 a3 a4)) (D.llen (WO3_33 D a0 a1 a2 a3 a4)) (WO3_33 D a0 a1 a2 a3 a4) (D.zc 0) (D.zc 0) (D.zc 0) (D.zc 0))
def WO3_36 (D : Dom) (a0 : D.L) (a1 : D.L) (a2 : D.Z) (a3 : D.L) (a4 : D.B) : List (PD D) := (L2 D (D.llen (WO3_33 D a0 a1 a2 a3 a4)) (D.llen (WO3_33 D a0 a1 a2 a3 a4)) (WO3_33 D a0 a1 a2 a3 a4) (D.zc 0) (D.zc 0) (D.zc 0) (D.zc 0))
def WO3_37 (D : Dom) (a0 : D.L) (a1 : D.L) (a2 : D.Z) (a3 : D.L) (a4 : D.B) : D.B := (D.zlt (nthZ (WO3_36 D a0 a1 a2 a3 a4) 3) (D.llen (WO3_33 D a0 a1 a2 a3 a4)))
def WO3_38 (D : Dom) (a0 : D.L) (a1 : D.L) (a2 : D.Z) (a3 : D.L) (a4 : D.B) : D.B := (D.zeq (D.llen (WO3_33 D a0 a1 a2 a3 a4)) (D.zc 0))
def WO3_39 (D : Dom) (a0 : D.L) (a1 : D.L) (a2 : D.Z) (a3 : D.L) (a4 : D.B) : D.B := (D.bite (WO3_38 D a0 a1 a2 a3 a4) (D.bc true) (D.zeq (nthZ (WO3_36 D a0 a1 a2 a3 a4) 2) (D.zc 0)))
def WO3_40 (D : Dom) (a0 : D.L) (a1 : D.L) (a2 : D.Z) (a3 : D.L) (a4 : D.B) : D.B := (D.bnot (D.zeq (D.zite (WO3_34 D a0 a1 a2 a3 a4) (D.zc 4) (D.zite (WO3_37 D a0 a1 a2 a3 a4) (D.zc 2) (D.zite (WO3_39 D a0 a1 a2 a3 a4) (D.zite (WO3_38 D a0 a1 a2 a3 a4) (D.zc 2) (D.zc 13)) (D.zc 0)))) (D.zc 0)))
def WO3_41 (D : Dom) (a0 : D.L) (a1 : D.L) (a2 : D.Z) (a3 : D.L) (a4 : D.B) : D.B := (D.zle (D.llen (WO3_33 D a0 a1 a2 a3 a4)) (D.zc 1073741824))
def WO3_42 (D : Dom) (a0 : D.L) (a1 : D.L) (a2 : D.Z) (a3 : D.L) (a4 : D.B) : D.B := (D.band (D.zle (D.zc 0) (D.llen (WO3_33 D a0 a1 a2 a3 a4))) (WO3_41 D a0 a1 a2 a3 a4))
def WO3_43 (D : Dom) (a0 : D.L) (a1 : D.L) (a2 : D.Z) (a3 : D.L) (a4 : D.B) : D.Z := (D.zite (WO3_34 D a0 a1 a2 a3 a4) (D.zc 0) (D.zite (WO3_37 D a0 a1 a2 a3 a4) (D.zc 0) (D.zite (WO3_39 D a0 a1 a2 a3 a4) (D.zc 0) (nthZ (WO3_36 D a0 a1 a2 a3 a4) 2))))
def WO3_44 (D : Dom) (a0 : D.L) (a1 : D.L) (a2 : D.Z) (a3 : D.L) (a4 : D.B) : D.L := (D.lrep (D.llen (WO3_33 D a0 a1 a2 a3 a4)) [.z (D.zc 0), .z (D.zc 0)])
def WO3_45 (D : Dom) (a0 : D.L) (a1 : D.L) (a2 : D.Z) (a3 : D.L) (a4 : D.B) : D.L := (D.lrep (D.llen (WO3_33 D a0 a1 a2 a3 a4)) [.z (D.zc 0)])
def WO3_46 (D : Dom) (a0 : D.L) (a1 : D.L) (a2 : D.Z) (a3 : D.L) (a4 : D.B) : D.B := (E3 D (D.llen (WO3_33 D a0 a1 a2 a3 a4)) (D.llen (WO3_33 D a0 a1 a2 a3 a4)) (D.llen (WO3_33 D a0 a1 a2 a3 a4)) (WO3_33 D a0 a1 a2 a3 a4) (WO3_43 D a0 a1 a2 a3 a4) (D.llen (WO3_33 D a0 a1 a2 a3 a4)) (D.llen (WO3_33 D a0 a1 a2 a3 a4)) D.lnil D.lnil (D.zc 0) (WO3_44 D a0 a1 a2 a3 a4) (WO3_45 D a0 a1 a2 a3 a4))
def WO3_47 (D : Dom) (a0 : D.L) (a1 : D.L) (a2 : D.Z) (a3 : D.L) (a4 : D.B) : List (PD D) := (L3 D (D.llen (WO3_33 D a0 a1 a2 a3 a4)) (D.llen (WO3_33 D a0 a1 a2 a3 a4)) (D.llen (WO3_33 D a0 a1 a2 a3 a4)) (WO3_33 D a0 a1 a2 a3 a4) (WO3_43 D a0 a1 a2 a3 a4) (D.llen (WO3_33 D a0 a1 a2 a3 a4)) (D.llen (WO3_33 D a0 a1 a2 a3 a4)) D.lnil D.lnil (D.zc 0) (WO3_44 D a0 a1 a2 a3 a4) (WO3_45 D a0 a1 a2 a3 a4))
def WO3_48 (D : Dom) (a0 : D.L) (a1 : D.L) (a2 : D.Z) (a3 : D.L) (a4 : D.B) : D.B := (E4 D (WO3_43 D a0 a1 a2 a3 a4) (D.llen (WO3_33 D a0 a1 a2 a3 a4)) (D.llen (WO3_33 D a0 a1 a2 a3 a4)) (nthL (WO3_47 D a0 a1 a2 a3 a4) 0) (nthL (WO3_47 D a0 a1 a2 a3 a4) 1) (nthL (WO3_47 D a0 a1 a2 a3 a4) 4) (nthL (WO3_47 D a0 a1 a2 a3 a4) 3))
def WO3_49 (D : Dom) (a0 : D.L) (a1 : D.L) : D.B := (E12 D (D.llen (nthL (WO3_25 D a0) 0)) (D.llen a1) a1 (D.zc 0) (D.zc 0))
def WO3_50 (D : Dom) (a0 : D.L) (a1 : D.L) : List (PD D) := (L12 D (D.llen (nthL (WO3_25 D a0) 0)) (D.llen a1) a1 (D.zc 0) (D.zc 0))
def WO3_51 (D : Dom) (a0 : D.L) (a1 : D.L) : D.Z := (D.zite (D.zlt (D.zc 512) (D.llen a1)) (D.zc 4) (D.zite (D.zlt (nthZ (WO3_50 D a0 a1) 1) (D.llen a1)) (D.zc 2) (D.zc 0)))
def WO3_52 (D : Dom) (a0 : D.L) (a1 : D.L) : D.B := (D.bite (D.zlt (D.zc 512) (D.llen a1)) (D.bc false) (D.bnot (WO3_28 D a0 a1)))
def WO3_53 (D : Dom) (a0 : D.L) (a1 : D.L) : D.B := (D.bnot (D.zeq (WO3_51 D a0 a1) (D.zc 0)))
def WO3_54 (D : Dom) (a0 : D.L) (a1 : D.L) : D.B := (D.bite (D.bite (D.bnot (D.zeq (D.zite (D.zlt (D.zc 512) (D.llen a1)) (D.zc 4) (D.zite (WO3_28 D a0 a1) (D.zc 2) (D.zc 0))) (WO3_51 D a0 a1))) (D.bc true) (D.bite (D.zeq (WO3_51 D a0 a1) (D.zc 0)) (D.bnot (WO3_52 D a0 a1)) (D.bc false))) (D.bc true) (D.bite (WO3_53 D a0 a1) (WO3_52 D a0 a1) (D.bc false)))
def WO3_55 (D : Dom) (a0 : D.L) (a1 : D.L) : D.B := (E13 D (D.llen (nthL (WO3_25 D a0) 0)) (D.llen a1) (nthL (WO3_25 D a0) 0) a1 D.lnil (D.zc 0))
def WO3_56 (D : Dom) (a3 : D.L) : D.B := (E14 D a3 (D.llen a3) D.lnil (D.zc 0))
def WO3_57 (D : Dom) (a3 : D.L) : List (PD D) := (L14 D a3 (D.llen a3) D.lnil (D.zc 0))
def WO3_58 (D : Dom) (a3 : D.L) : D.B := (E15 D (D.llen (nthL (WO3_57 D a3) 0)) (nthL (WO3_57 D a3) 0) (D.zc 0) (D.zc 0) (D.zc 0))
def WO3_59 (D : Dom) (a0 : D.L) (a1 : D.L) : List (PD D) := (L13 D (D.llen (nthL (WO3_25 D a0) 0)) (D.llen a1) (nthL (WO3_25 D a0) 0) a1 D.lnil (D.zc 0))
def WO3_60 (D : Dom) (a3 : D.L) : List (PD D) := (L15 D (D.llen (nthL (WO3_57 D a3) 0)) (nthL (WO3_57 D a3) 0) (D.zc 0) (D.zc 0) (D.zc 0))
def WO3_61 (D : Dom) (a0 : D.L) (a1 : D.L) (a3 : D.L) : D.L := (D.lapp (nthL (WO3_59 D a0 a1) 0) [[.z (S49_0 D (D.zite (D.zlt (nthZ (WO3_60 D a3) 2) (D.llen (nthL (WO3_57 D a3) 0))) (D.zc (-1)) (nthZ (WO3_60 D a3) 1)) (D.zc 1048576))]])
def WO3_62 (D : Dom) (a0 : D.L) (a1 : D.L) (a2 : D.Z) (a3 : D.L) (a4 : D.B) : D.B := (D.band (D.bite (D.zlt (D.zc 512) (D.llen a1)) (D.bc true) (D.band (WO3_26 D a0 a1) (D.bite (WO3_28 D a0 a1) (D.bc true) (D.band (D.bite (WO3_29 D a2 a3 a4) (D.band (D.bite (D.bnot (WO3_29 D a2 a3 a4)) (D.bc true) (D.band (WO3_29 D a2 a3 a4) (D.band (D.bite (D.bite a4 (WO3_5 D a2 a3) (D.bc false)) (D.bite (WO3_1 D a2 a3) (D.bc false) (D.bite (WO3_8 D a3) (D.bc false) (D.bc true))) (D.bc false)) (D.bite (D.bnot (D.bnot (WO3_15 D a3))) (D.bc true) (D.band (D.bnot (WO3_15 D a3)) (D.bite (D.bite a4 (WO3_5 D a2 a3) (D.bc false)) (D.bite (WO3_1 D a2 a3) (D.bc false) (D.bite (WO3_8 D a3) (D.bc false) (D.bite (WO3_15 D a3) (D.bc false) (D.bc true)))) (D.bc false))))))) (D.zle (D.llen (WO3_30 D a0 a1 a2 a3 a4)) (D.zc 1073741824))) (D.bc true)) (D.band (D.band (D.band (D.zle (WO3_31 D a0) (D.zc 1073741824)) (D.bite (D.zeq (D.llen (nthL (WO3_25 D a0) 0)) (D.zc 0)) (D.band (D.zeq (WO3_31 D a0) (D.zc 0)) (D.zeq (WO3_31 D a0) (D.zc 0))) (D.bc true))) (D.band (D.zle (WO3_32 D a1) (D.zc 1073741824)) (D.bite (D.zeq (D.llen a1) (D.zc 0)) (D.band (D.zeq (WO3_32 D a1) (D.zc 0)) (D.zeq (WO3_32 D a1) (D.zc 0))) (D.bc true)))) (D.band (D.bite (WO3_34 D a0 a1 a2 a3 a4) (D.bc true) (WO3_35 D a0 a1 a2 a3 a4)) (D.bite (WO3_40 D a0 a1 a2 a3 a4) (D.bc true) (D.band (WO3_41 D a0 a1 a2 a3 a4) (D.band (WO3_42 D a0 a1 a2 a3 a4) (D.band (WO3_42 D a0 a1 a2 a3 a4) (D.band (WO3_46 D a0 a1 a2 a3 a4) (WO3_48 D a0 a1 a2 a3 a4)))))))))))) (D.band (D.bite (D.zlt (D.zc 512) (D.llen a1)) (D.bc true) (WO3_49 D a0 a1)) (D.bite (WO3_54 D a0 a1) (D.bc true) (D.bite (WO3_53 D a0 a1) (D.bc true) (D.bite a4 (D.band (WO3_3 D a2 a3) (D.band (WO3_55 D a0 a1) (D.bite (WO3_5 D a2 a3) (D.band (WO3_56 D a3) (D.band (WO3_58 D a3) (D.zle (D.llen (WO3_61 D a0 a1 a3)) (D.zc 1073741824)))) (D.bc true)))) (WO3_55 D a0 a1))))))
def WO3_63 (D : Dom) (a0 : D.L) (a1 : D.L) (a2 : D.Z) (a3 : D.L) (a4 : D.B) : D.B := (D.bite (WO3_24 D a2 a3 a4) (D.bc true) (D.bite (WO3_54 D a0 a1) (D.bc true) (WO3_53 D a0 a1)))
def WO3_64 (D : Dom) (a0 : D.L) (a1 : D.L) (a2 : D.Z) (a3 : D.L) (a4 : D.B) : D.Z := (D.zite (WO3_24 D a2 a3 a4) (D.zc 8) (D.zite (WO3_54 D a0 a1) (D.zc 8) (WO3_51 D a0 a1)))
def WO3_65 (D : Dom) (a0 : D.L) (a1 : D.L) (a2 : D.Z) (a3 : D.L) (a4 : D.B) : D.B := (D.bnot (D.zeq (WO3_64 D a0 a1 a2 a3 a4) (D.zc 0)))
def WO3_66 (D : Dom)  : D.B := (E16 D (D.zc 0) (D.zc 0) (D.zc 0))
def WO3_67 (D : Dom) (a0 : D.L) (a1 : D.L) (a2 : D.Z) (a3 : D.L) : D.L := (D.lite (WO3_5 D a2 a3) (WO3_61 D a0 a1 a3) (nthL (WO3_59 D a0 a1) 0))
def WO3_68 (D : Dom) (a0 : D.L) (a1 : D.L) (a2 : D.Z) (a3 : D.L) : D.B := (E15 D (D.llen (WO3_67 D a0 a1 a2 a3)) (WO3_67 D a0 a1 a2 a3) (D.zc 0) (D.zc 0) (D.zc 0))
def WO3_69 (D : Dom) (a0 : D.L) (a1 : D.L) : D.B := (D.bite (D.zlt (D.zc 512) (D.llen a1)) (D.bc false) (D.bite (WO3_28 D a0 a1) (D.bc false) (D.bc true)))
def WO3_70 (D : Dom) (a0 : D.L) (a1 : D.L) : D.B := (D.band (WO3_52 D a0 a1) (WO3_69 D a0 a1))
def WO3_71 (D : Dom) (a0 : D.L) (a1 : D.L) (a2 : D.Z) (a3 : D.L) (a4 : D.B) : D.B := (D.bite (D.bnot (WO3_52 D a0 a1)) (D.bc true) (WO3_29 D a2 a3 a4))
def WO3_72 (D : Dom) (a0 : D.L) (a1 : D.L) (a2 : D.Z) (a3 : D.L) (a4 : D.B) : D.B := (D.band (D.bite (D.bnot (WO3_52 D a0 a1)) (D.bc true) (D.band (WO3_70 D a0 a1) (D.bite (WO3_29 D a2 a3 a4) (WO3_70 D a0 a1) (D.bc true)))) (D.bite (WO3_71 D a0 a1 a2 a3 a4) (D.bc true) (WO3_70 D a0 a1)))
def WO3_73 (D : Dom) (a0 : D.L) (a1 : D.L) (a2 : D.Z) (a3 : D.L) (a4 : D.B) : D.Z := (D.zite (WO3_71 D a0 a1 a2 a3 a4) (D.zite (D.bnot (WO3_52 D a0 a1)) (D.zc 0) (D.zadd .i64 (WO3_32 D a1) (D.zc 1))) (WO3_32 D a1))
def WO3_74 (D : Dom) (a0 : D.L) (a1 : D.L) (a2 : D.Z) (a3 : D.L) : List (PD D) := (L15 D (D.llen (WO3_67 D a0 a1 a2 a3)) (WO3_67 D a0 a1 a2 a3) (D.zc 0) (D.zc 0) (D.zc 0))
def WO3_75 (D : Dom) (a0 : D.L) (a1 : D.L) (a2 : D.Z) (a3 : D.L) : D.Z := (D.zite (D.zlt (nthZ (WO3_74 D a0 a1 a2 a3) 2) (D.llen (WO3_67 D a0 a1 a2 a3))) (D.zc (-1)) (nthZ (WO3_74 D a0 a1 a2 a3) 1))
def WO3_76 (D : Dom) (a0 : D.L) (a1 : D.L) (a2 : D.Z) (a3 : D.L) : D.B := (D.bite (D.zeq (D.llen (WO3_67 D a0 a1 a2 a3)) (D.zc 0)) (D.bc true) (D.zeq (WO3_75 D a0 a1 a2 a3) (D.zc 0)))
def WO3_77 (D : Dom) (a0 : D.L) (a1 : D.L) (a2 : D.Z) (a3 : D.L) (a4 : D.B) : D.B := (D.bnot (D.bnot (WO3_40 D a0 a1 a2 a3 a4)))
def WO3_78 (D : Dom) (a0 : D.L) (a1 : D.L) (a2 : D.Z) (a3 : D.L) (a4 : D.B) : D.B := (D.bite (D.zlt (D.zc 512) (D.llen a1)) (D.bc false) (D.bite (WO3_28 D a0 a1) (D.bc false) (D.bite (WO3_40 D a0 a1 a2 a3 a4) (D.bc false) (D.bc true))))
def WO3_79 (D : Dom) (a0 : D.L) (a1 : D.L) (a2 : D.Z) (a3 : D.L) (a4 : D.B) : D.B := (D.band (D.bnot (WO3_40 D a0 a1 a2 a3 a4)) (WO3_78 D a0 a1 a2 a3 a4))
def WO3_80 (D : Dom) (a0 : D.L) (a1 : D.L) (a2 : D.Z) (a3 : D.L) (a4 : D.B) : D.B := (D.bite (WO3_77 D a0 a1 a2 a3 a4) (D.bc true) (WO3_79 D a0 a1 a2 a3 a4))
def WO3_81 (D : Dom) (a0 : D.L) (a1 : D.L) (a2 : D.Z) (a3 : D.L) (a4 : D.B) : D.B := (D.band (WO3_80 D a0 a1 a2 a3 a4) (WO3_80 D a0 a1 a2 a3 a4))
def WO3_82 (D : Dom) (a0 : D.L) (a1 : D.L) (a2 : D.Z) (a3 : D.L) (a4 : D.B) : D.Z := (D.zite (WO3_77 D a0 a1 a2 a3 a4) (D.zc 0) (D.llen (WO3_33 D a0 a1 a2 a3 a4)))
def WO3_83 (D : Dom) (a0 : D.L) (a1 : D.L) (a2 : D.Z) (a3 : D.L) (a4 : D.B) : D.Z := (D.zmul .i64 (WO3_82 D a0 a1 a2 a3 a4) (D.zite (WO3_77 D a0 a1 a2 a3 a4) (D.zc 0) (WO3_43 D a0 a1 a2 a3 a4)))
def WO3_84 (D : Dom) (a0 : D.L) (a1 : D.L) (a2 : D.Z) (a3 : D.L) (a4 : D.B) (a5 : D.F) : D.F := (D.fmul (D.fite (D.bnot (D.bite (D.fge a5 (D.fc 0)) (D.flt a5 (D.fc 4607182418800017408)) (D.bc false))) (D.fc 0) a5) (D.i2f (WO3_83 D a0 a1 a2 a3 a4)))
def WO3_85 (D : Dom) (a0 : D.L) (a1 : D.L) (a2 : D.Z) (a3 : D.L) (a4 : D.B) (a5 : D.F) : D.Z := (D.zmin (D.f2i .i64 (WO3_84 D a0 a1 a2 a3 a4 a5)) (D.zsub .i64 (WO3_83 D a0 a1 a2 a3 a4) (D.zc 1)))
def WO3_86 (D : Dom) (a0 : D.L) (a1 : D.L) (a2 : D.Z) (a3 : D.L) (a4 : D.B) (a5 : D.F) : D.B := (D.zlt (WO3_85 D a0 a1 a2 a3 a4 a5) (D.zc 0))
def WO3_87 (D : Dom) (a0 : D.L) (a1 : D.L) (a2 : D.Z) (a3 : D.L) (a4 : D.B) (a5 : D.F) : D.B := (D.bite (WO3_86 D a0 a1 a2 a3 a4 a5) (D.bc true) (D.zle (WO3_83 D a0 a1 a2 a3 a4) (WO3_85 D a0 a1 a2 a3 a4 a5)))
def WO3_88 (D : Dom) (a0 : D.L) (a1 : D.L) (a2 : D.Z) (a3 : D.L) (a4 : D.B) : D.B := (D.bnot (D.zeq (WO3_43 D a0 a1 a2 a3 a4) (D.zc 0)))
def WO3_89 (D : Dom) (a0 : D.L) (a1 : D.L) (a2 : D.Z) (a3 : D.L) (a4 : D.B) (a5 : D.F) : D.Z := (D.zquo .i64 (WO3_85 D a0 a1 a2 a3 a4 a5) (WO3_43 D a0 a1 a2 a3 a4))
def WO3_90 (D : Dom) (a0 : D.L) (a1 : D.L) (a2 : D.Z) (a3 : D.L) (a4 : D.B) (a5 : D.F) : D.B := (D.band (D.zle (D.zc 0) (WO3_89 D a0 a1 a2 a3 a4 a5)) (D.zlt (WO3_89 D a0 a1 a2 a3 a4 a5) (D.llen (WO3_33 D a0 a1 a2 a3 a4))))
def WO3_91 (D : Dom) (a0 : D.L) (a1 : D.L) (a2 : D.Z) (a3 : D.L) (a4 : D.B) : List (PD D) := (L4 D (WO3_43 D a0 a1 a2 a3 a4) (D.llen (WO3_33 D a0 a1 a2 a3 a4)) (D.llen (WO3_33 D a0 a1 a2 a3 a4)) (nthL (WO3_47 D a0 a1 a2 a3 a4) 0) (nthL (WO3_47 D a0 a1 a2 a3 a4) 1) (nthL (WO3_47 D a0 a1 a2 a3 a4) 4) (nthL (WO3_47 D a0 a1 a2 a3 a4) 3))
def WO3_92 (D : Dom) (a0 : D.L) (a1 : D.L) (a2 : D.Z) (a3 : D.L) (a4 : D.B) (a5 : D.F) : D.B := (D.zlt (D.zrem .i64 (WO3_85 D a0 a1 a2 a3 a4 a5) (WO3_43 D a0 a1 a2 a3 a4)) (D.lz (nthL (WO3_91 D a0 a1 a2 a3 a4) 3) (WO3_89 D a0 a1 a2 a3 a4 a5) 0))
def WO3_93 (D : Dom) (a0 : D.L) (a1 : D.L) (a2 : D.Z) (a3 : D.L) (a4 : D.B) (a5 : D.F) : D.B := (D.bite (D.bnot (WO3_52 D a0 a1)) (D.bc true) (D.band (WO3_52 D a0 a1) (D.band (WO3_69 D a0 a1) (D.band (WO3_81 D a0 a1 a2 a3 a4) (D.band (D.f2iok .i64 (WO3_84 D a0 a1 a2 a3 a4 a5)) (D.band (D.bite (WO3_86 D a0 a1 a2 a3 a4 a5) (D.bc true) (WO3_81 D a0 a1 a2 a3 a4)) (D.bite (WO3_87 D a0 a1 a2 a3 a4 a5) (D.bc true) (D.band (D.band (D.bnot (WO3_40 D a0 a1 a2 a3 a4)) (D.band (WO3_78 D a0 a1 a2 a3 a4) (WO3_88 D a0 a1 a2 a3 a4))) (D.band (D.bnot (WO3_40 D a0 a1 a2 a3 a4)) (D.band (WO3_78 D a0 a1 a2 a3 a4) (D.band (WO3_88 D a0 a1 a2 a3 a4) (D.band (D.bnot (WO3_40 D a0 a1 a2 a3 a4)) (D.band (WO3_78 D a0 a1 a2 a3 a4) (D.band (WO3_90 D a0 a1 a2 a3 a4 a5) (D.band (WO3_78 D a0 a1 a2 a3 a4) (D.bite (WO3_92 D a0 a1 a2 a3 a4 a5) (D.bc true) (D.band (D.bnot (WO3_40 D a0 a1 a2 a3 a4)) (D.band (WO3_78 D a0 a1 a2 a3 a4) (D.band (WO3_90 D a0 a1 a2 a3 a4 a5) (WO3_78 D a0 a1 a2 a3 a4))))))))))))))))))))
def WO3_94 (D : Dom) (a0 : D.L) (a1 : D.L) (a2 : D.Z) (a3 : D.L) (a4 : D.B) (a5 : D.F) : D.Z := (D.zite (D.bnot (WO3_52 D a0 a1)) (D.zc (-1)) (D.zite (WO3_87 D a0 a1 a2 a3 a4 a5) (D.zc (-1)) (D.zite (WO3_92 D a0 a1 a2 a3 a4 a5) (WO3_89 D a0 a1 a2 a3 a4 a5) (D.lz (nthL (WO3_91 D a0 a1 a2 a3 a4) 3) (WO3_89 D a0 a1 a2 a3 a4 a5) 1))))
def WO3_95 (D : Dom) (a0 : D.L) (a1 : D.L) (a2 : D.Z) (a3 : D.L) (a4 : D.B) : D.B := (D.band (WO3_78 D a0 a1 a2 a3 a4) (WO3_79 D a0 a1 a2 a3 a4))
def WO3_96 (D : Dom) (a0 : D.L) (a1 : D.L) (a2 : D.Z) (a3 : D.L) (a4 : D.B) (a5 : D.F) : D.B := (D.band (O6 D) (D.band (D.bite (S6_0 D) (WO3_93 D a0 a1 a2 a3 a4 a5) (D.bc true)) (D.bite (D.bite (S6_0 D) (D.zeq (WO3_94 D a0 a1 a2 a3 a4 a5) (D.zc (-1))) (D.bc false)) (D.bite (D.bnot (WO3_52 D a0 a1)) (D.bc true) (D.band (WO3_52 D a0 a1) (D.band (WO3_69 D a0 a1) (D.band (WO3_80 D a0 a1 a2 a3 a4) (D.bite (D.bnot (D.zlt (D.zc 0) (WO3_82 D a0 a1 a2 a3 a4))) (D.bc true) (D.band (D.bnot (WO3_40 D a0 a1 a2 a3 a4)) (D.band (WO3_78 D a0 a1 a2 a3 a4) (D.band (D.band (D.zle (D.zc 0) (D.zc 0)) (D.zlt (D.zc 0) (D.llen (WO3_33 D a0 a1 a2 a3 a4)))) (WO3_95 D a0 a1 a2 a3 a4))))))))) (D.bc true))))
def WO3_97 (D : Dom) (a0 : D.L) (a1 : D.L) (a2 : D.Z) (a3 : D.L) (a4 : D.B) : D.B := (E17 D (WO3_52 D a0 a1) (D.llen (WO3_67 D a0 a1 a2 a3)) (WO3_75 D a0 a1 a2 a3) (WO3_69 D a0 a1) (D.bnot (WO3_40 D a0 a1 a2 a3 a4)) (WO3_67 D a0 a1 a2 a3) (WO3_78 D a0 a1 a2 a3 a4) (D.llen (WO3_33 D a0 a1 a2 a3 a4)) (WO3_43 D a0 a1 a2 a3 a4) (WO3_78 D a0 a1 a2 a3 a4) (WO3_33 D a0 a1 a2 a3 a4) (D.bc false) (D.zc 0))
def WO3_98 (D : Dom) (a0 : D.L) (a1 : D.L) (a2 : D.Z) (a3 : D.L) (a4 : D.B) : List (PD D) := (L17 D (WO3_52 D a0 a1) (D.llen (WO3_67 D a0 a1 a2 a3)) (WO3_75 D a0 a1 a2 a3) (WO3_69 D a0 a1) (D.bnot (WO3_40 D a0 a1 a2 a3 a4)) (WO3_67 D a0 a1 a2 a3) (WO3_78 D a0 a1 a2 a3 a4) (D.llen (WO3_33 D a0 a1 a2 a3 a4)) (WO3_43 D a0 a1 a2 a3 a4) (WO3_78 D a0 a1 a2 a3 a4) (WO3_33 D a0 a1 a2 a3 a4) (D.bc false) (D.zc 0))
def WO3_99 (D : Dom) (a0 : D.L) (a1 : D.L) (a2 : D.Z) (a3 : D.L) (a4 : D.B) (a5 : D.F) : D.B := (D.zle (D.zc 0) (WO3_94 D a0 a1 a2 a3 a4 a5))
def WO3_100 (D : Dom) (a0 : D.L) (a1 : D.L) (a2 : D.Z) (a3 : D.L) (a4 : D.B) (a5 : D.F) : D.B := (D.bite (S6_0 D) (WO3_99 D a0 a1 a2 a3 a4 a5) (D.bc false))
def WO3_101 (D : Dom) (a0 : D.L) (a1 : D.L) (a2 : D.Z) (a3 : D.L) (a4 : D.B) (a5 : D.F) : D.B := (D.zlt (WO3_94 D a0 a1 a2 a3 a4 a5) (D.llen (WO3_67 D a0 a1 a2 a3)))
def WO3_102 (D : Dom) (a0 : D.L) (a1 : D.L) (a2 : D.Z) (a3 : D.L) (a4 : D.B) (a5 : D.F) : D.B := (D.bite (WO3_100 D a0 a1 a2 a3 a4 a5) (WO3_101 D a0 a1 a2 a3 a4 a5) (D.bc false))
def WO3_103 (D : Dom) (a0 : D.L) (a1 : D.L) (a2 : D.Z) (a3 : D.L) (a4 : D.B) (a6 : D.Z) : D.B := (D.bite (D.bnot (WO3_52 D a0 a1)) (D.bc true) (D.band (WO3_52 D a0 a1) (D.band (WO3_69 D a0 a1) (D.band (D.bite (D.zle (D.zc 0) a6) (WO3_80 D a0 a1 a2 a3 a4) (D.bc true)) (D.bite (D.bnot (D.bite (D.zle (D.zc 0) a6) (D.zlt a6 (WO3_82 D a0 a1 a2 a3 a4)) (D.bc false))) (D.bc true) (D.band (D.bnot (WO3_40 D a0 a1 a2 a3 a4)) (D.band (WO3_78 D a0 a1 a2 a3 a4) (D.band (D.band (D.zle (D.zc 0) a6) (D.zlt a6 (D.llen (WO3_33 D a0 a1 a2 a3 a4)))) (WO3_95 D a0 a1 a2 a3 a4)))))))))
def WO3_104 (D : Dom) (a0 : D.L) (a1 : D.L) : D.B := (E15 D (D.llen (nthL (WO3_59 D a0 a1) 0)) (nthL (WO3_59 D a0 a1) 0) (D.zc 0) (D.zc 0) (D.zc 0))
def WO3_105 (D : Dom) (a0 : D.L) (a1 : D.L) : List (PD D) := (L15 D (D.llen (nthL (WO3_59 D a0 a1) 0)) (nthL (WO3_59 D a0 a1) 0) (D.zc 0) (D.zc 0) (D.zc 0))
def WO3_106 (D : Dom) (a0 : D.L) (a1 : D.L) : D.Z := (D.zite (D.zlt (nthZ (WO3_105 D a0 a1) 2) (D.llen (nthL (WO3_59 D a0 a1) 0))) (D.zc (-1)) (nthZ (WO3_105 D a0 a1) 1))
def WO3_107 (D : Dom) (a0 : D.L) (a1 : D.L) : D.B := (D.bite (D.zeq (D.llen (nthL (WO3_59 D a0 a1) 0)) (D.zc 0)) (D.bc true) (D.zeq (WO3_106 D a0 a1) (D.zc 0)))
def WO3_108 (D : Dom) (a0 : D.L) (a1 : D.L) (a2 : D.Z) (a3 : D.L) (a4 : D.B) : D.B := (E17 D (WO3_52 D a0 a1) (D.llen (nthL (WO3_59 D a0 a1) 0)) (WO3_106 D a0 a1) (WO3_69 D a0 a1) (D.bnot (WO3_40 D a0 a1 a2 a3 a4)) (nthL (WO3_59 D a0 a1) 0) (WO3_78 D a0 a1 a2 a3 a4) (D.llen (WO3_33 D a0 a1 a2 a3 a4)) (WO3_43 D a0 a1 a2 a3 a4) (WO3_78 D a0 a1 a2 a3 a4) (WO3_33 D a0 a1 a2 a3 a4) (D.bc false) (D.zc 0))
def WO3_109 (D : Dom) (a0 : D.L) (a1 : D.L) (a2 : D.Z) (a3 : D.L) (a4 : D.B) : List (PD D) := (L17 D (WO3_52 D a0 a1) (D.llen (nthL (WO3_59 D a0 a1) 0)) (WO3_106 D a0 a1) (WO3_69 D a0 a1) (D.bnot (WO3_40 D a0 a1 a2 a3 a4)) (nthL (WO3_59 D a0 a1) 0) (WO3_78 D a0 a1 a2 a3 a4) (D.llen (WO3_33 D a0 a1 a2 a3 a4)) (WO3_43 D a0 a1 a2 a3 a4) (WO3_78 D a0 a1 a2 a3 a4) (WO3_33 D a0 a1 a2 a3 a4) (D.bc false) (D.zc 0))
def WO3_110 (D : Dom) (a0 : D.L) (a1 : D.L) (a2 : D.Z) (a3 : D.L) (a4 : D.B) (a5 : D.F) : D.B := (D.zlt (WO3_94 D a0 a1 a2 a3 a4 a5) (D.llen (nthL (WO3_59 D a0 a1) 0)))
def WO3_111 (D : Dom) (a0 : D.L) (a1 : D.L) (a2 : D.Z) (a3 : D.L) (a4 : D.B) (a5 : D.F) : D.B := (D.bite (WO3_100 D a0 a1 a2 a3 a4 a5) (WO3_110 D a0 a1 a2 a3 a4 a5) (D.bc false))
def WO3_112 (D : Dom) (a0 : D.L) (a1 : D.L) (a2 : D.Z) (a3 : D.L) (a4 : D.B) (a5 : D.F) (a6 : D.Z) : D.B := (D.bite (D.band (D.bnot (WO3_63 D a0 a1 a2 a3 a4)) (D.band (D.bnot (WO3_24 D a2 a3 a4)) (D.band (D.bnot (WO3_54 D a0 a1)) (D.band (D.bnot (WO3_53 D a0 a1)) a4)))) (D.band (WO3_68 D a0 a1 a2 a3) (D.band (WO3_72 D a0 a1 a2 a3 a4) (D.bite (D.bnot (D.zeq (WO3_73 D a0 a1 a2 a3 a4) (D.llen (WO3_67 D a0 a1 a2 a3)))) (D.bc true) (D.band (D.bite (WO3_76 D a0 a1 a2 a3) (WO3_96 D a0 a1 a2 a3 a4 a5) (D.bc true)) (D.bite (WO3_76 D a0 a1 a2 a3) (D.bc true) (D.band (WO3_97 D a0 a1 a2 a3 a4) (D.bite (D.zlt (nthZ (WO3_98 D a0 a1 a2 a3 a4) 1) (D.llen (WO3_67 D a0 a1 a2 a3))) (D.bc true) (D.band (WO3_93 D a0 a1 a2 a3 a4 a5) (D.band (O6 D) (D.band (D.bite (WO3_102 D a0 a1 a2 a3 a4 a5) (D.band (WO3_99 D a0 a1 a2 a3 a4 a5) (WO3_101 D a0 a1 a2 a3 a4 a5)) (D.bc true)) (D.bite (D.bite (WO3_102 D a0 a1 a2 a3 a4 a5) (D.zlt (D.zc 0) (D.lz (WO3_67 D a0 a1 a2 a3) (WO3_94 D a0 a1 a2 a3 a4 a5) 0)) (D.bc false)) (D.bite (D.zle (D.zc 0) a6) (D.bite (D.zlt a6 (D.llen (WO3_67 D a0 a1 a2 a3))) (D.bc true) (WO3_103 D a0 a1 a2 a3 a4 a6)) (WO3_103 D a0 a1 a2 a3 a4 a6)) (D.bc true)))))))))))) (D.band (WO3_104 D a0 a1) (D.band (WO3_72 D a0 a1 a2 a3 a4) (D.bite (D.bnot (D.zeq (WO3_73 D a0 a1 a2 a3 a4) (D.llen (nthL (WO3_59 D a0 a1) 0)))) (D.bc true) (D.band (D.bite (WO3_107 D a0 a1) (WO3_96 D a0 a1 a2 a3 a4 a5) (D.bc true)) (D.bite (WO3_107 D a0 a1) (D.bc true) (D.band (WO3_108 D a0 a1 a2 a3 a4) (D.bite (D.zlt (nthZ (WO3_109 D a0 a1 a2 a3 a4) 1) (D.llen (nthL (WO3_59 D a0 a1) 0))) (D.bc true) (D.band (WO3_93 D a0 a1 a2 a3 a4 a5) (D.band (O6 D) (D.band (D.bite (WO3_111 D a0 a1 a2 a3 a4 a5) (D.band (WO3_99 D a0 a1 a2 a3 a4 a5) (WO3_110 D a0 a1 a2 a3 a4 a5)) (D.bc true)) (D.bite (D.bite (WO3_111 D a0 a1 a2 a3 a4 a5) (D.zlt (D.zc 0) (D.lz (nthL (WO3_59 D a0 a1) 0) (WO3_94 D a0 a1 a2 a3 a4 a5) 0)) (D.bc false)) (D.bite (D.zle (D.zc 0) a6) (D.bite (D.zlt a6 (D.llen (nthL (WO3_59 D a0 a1) 0))) (D.bc true) (WO3_103 D a0 a1 a2 a3 a4 a6)) (WO3_103 D a0 a1 a2 a3 a4 a6)) (D.bc true)))))))))))))
def O3 (D : Dom) (a0 : D.L) (a1 : D.L) (a2 : D.Z) (a3 : D.L) (a4 : D.B) (a5 : D.F) (a6 : D.Z) : D.B := (D.band (D.bite (D.zlt (D.zc 600) (D.llen a1)) (O6 D) (D.bc true)) (D.bite (D.zlt (D.zc 600) (D.llen a1)) (D.bc true) (D.band (D.band (WO3_0 D a0) (D.band (D.bite a4 (WO3_3 D a2 a3) (D.bc true)) (D.band (D.bite (D.bite a4 (WO3_5 D a2 a3) (D.bc false)) (D.bite (WO3_1 D a2 a3) (D.bc true) (D.band (WO3_6 D a3) (D.bite (WO3_8 D a3) (D.bc true) (D.band (D.zle (D.llen (D.lsub a3 (D.zc 0) (D.llen a3))) (D.zc 1073741824)) (D.band (D.bite (WO3_9 D a3) (D.bc true) (WO3_10 D a3)) (D.bite (WO3_15 D a3) (D.bc true) (D.band (WO3_16 D a3) (D.band (WO3_17 D a3) (D.band (WO3_17 D a3) (D.band (WO3_21 D a3) (WO3_23 D a3))))))))))) (D.bc true)) (D.bite (WO3_24 D a2 a3 a4) (D.bc true) (WO3_62 D a0 a1 a2 a3 a4))))) (D.bite (WO3_63 D a0 a1 a2 a3 a4) (D.bite (D.zeq (WO3_64 D a0 a1 a2 a3 a4) (D.zc 8)) (D.bc true) (D.band (D.bite (WO3_65 D a0 a1 a2 a3 a4) (O6 D) (D.bc true)) (D.bite (WO3_65 D a0 a1 a2 a3 a4) (D.bc true) (D.band (WO3_66 D) (O6 D))))) (WO3_112 D a0 a1 a2 a3 a4 a5 a6)))))
theorem ev3 (D : Dom) (a0 : D.L) (a1 : D.L) (a2 : D.Z) (a3 : D.L) (a4 : D.B) (a5 : D.F) (a6 : D.Z) : joinT (evFnH Try.prog (tbl_49 D) (lt_29_44 D) 80 3 [.agg [.sslice 0 .part none (D.llen a0) 9, .sslice 1 .part none (D.llen a1) 4, .si .i64 a2, .sslice 2 .part none (D.llen a3) 3, .sb a4], .fl a5, .si .i64 a6] [(0, [.row true [.f, .f, .f, .f, .f, .f, .f, .f, .f] a0]), (1, [.row true [.z .i64, .f, .f, .f] a1]), (2, [.row true [.f, .f, .f] a3])] 3) = .val (some (O3 D a0 a1 a2 a3 a4 a5 a6)) (.sb (S3_0 D a0 a1 a2 a3 a4 a5 a6)) := by kernel_rfl

-- loop 18
end Go.Proofs.Ytachcmfgjjoimaa
