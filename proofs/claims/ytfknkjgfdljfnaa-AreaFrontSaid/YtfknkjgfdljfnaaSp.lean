/- The functions of this seat, each with what it comes to, by the evaluator. PRINTED BY A PROGRAM OF THIS PROJECT (wip/ev/Gen.lean). -/
import Derived.Test.YtfknkjgfdljfnaaEv4
import Derived.Test.YtfknkjgfdljfnaaChecked
namespace Go.Proofs.Ytfknkjgfdljfnaa
open Go.Ev
set_option maxRecDepth 100000

theorem prg : Ev.Prog Try.prog := ⟨by kernel_rfl, by kernel_rfl⟩
def sp27 : Ev.Spec := fun D l => argF l fun a r => arg0 r (.ret (.fl (D.fsqrt a)))
theorem en27 : ∀ l r, (sp27 R l).run = some r → Entry Try.prog 27 l r := by
  intro l r h
  obtain ⟨x0, _, h, L0⟩ := argF_inv h
  obtain ⟨h, L1⟩ := arg0_inv h
  cases h
  exact (entry_sqrt (fn := Try.f27) (by kernel_rfl) (by kernel_rfl) (by kernel_rfl) (by kernel_rfl) (by kernel_rfl) x0).le (L0 _ L1)
def tl_0 : List (Nat × Ev.Spec) := ((27, sp27) :: [])
def tbl_0 (D : Dom) : Tbl D := tblOf tl_0 D
theorem tok_0 : TblOK Try.prog (tbl_0 R) := (TblOK.cons (TblOK.nil _) en27)

-- penumbra/penumbraref06.Clean
def S7_0 (D : Dom) (a0 : D.F) : D.F := (D.fite (D.bite (D.bite (D.flt a0 (D.fc 0)) (D.bc true) (D.fge a0 (D.fc 4607182418800017408))) (D.bc true) (D.bnot (D.feq a0 a0))) (D.fc 0) a0)
theorem ev7 (D : Dom) (a0 : D.F) : joinT (evFn Try.prog (tbl_0 D) 60 7 [.fl a0]) = .val none (.fl (S7_0 D a0)) := by kernel_rfl
def sp7 : Ev.Spec := fun D l => argF l fun a0 r0 => arg0 r0 (.ret (.fl (S7_0 D a0)))
theorem en7 : ∀ l r, (sp7 R l).run = some r → Entry Try.prog 7 l r := by
  intro l r h
  obtain ⟨x0, _, h, L0⟩ := argF_inv h
  obtain ⟨h, L1⟩ := arg0_inv h
  cases h
  exact (entry_of prg tok_0 (ev7 R x0) (fun o ho => nomatch ho) rfl).le (L0 _ L1)
def tl_7 : List (Nat × Ev.Spec) := (7, sp7) :: tl_0
def tbl_7 (D : Dom) : Tbl D := tblOf tl_7 D
theorem tok_7 : TblOK Try.prog (tbl_7 R) := TblOK.cons tok_0 en7

-- math.Sqrt
def S6_0 (D : Dom) (a0 : D.F) : D.F := (D.fsqrt a0)
theorem ev6 (D : Dom) (a0 : D.F) : joinT (evFn Try.prog (tbl_7 D) 60 6 [.fl a0]) = .val none (.fl (S6_0 D a0)) := by kernel_rfl
def sp6 : Ev.Spec := fun D l => argF l fun a0 r0 => arg0 r0 (.ret (.fl (S6_0 D a0)))
theorem en6 : ∀ l r, (sp6 R l).run = some r → Entry Try.prog 6 l r := by
  intro l r h
  obtain ⟨x0, _, h, L0⟩ := argF_inv h
  obtain ⟨h, L1⟩ := arg0_inv h
  cases h
  exact (entry_of prg tok_7 (ev6 R x0) (fun o ho => nomatch ho) rfl).le (L0 _ L1)
def tl_6 : List (Nat × Ev.Spec) := (6, sp6) :: tl_7
def tbl_6 (D : Dom) : Tbl D := tblOf tl_6 D
theorem tok_6 : TblOK Try.prog (tbl_6 R) := TblOK.cons tok_7 en6

-- penumbra/penumbraref02.Sub
def S10_0 (D : Dom) (a0 : D.F) (a3 : D.F) : D.F := (D.fsub a0 a3)
def S10_1 (D : Dom) (a1 : D.F) (a4 : D.F) : D.F := (D.fsub a1 a4)
def S10_2 (D : Dom) (a2 : D.F) (a5 : D.F) : D.F := (D.fsub a2 a5)
theorem ev10 (D : Dom) (a0 : D.F) (a1 : D.F) (a2 : D.F) (a3 : D.F) (a4 : D.F) (a5 : D.F) : joinT (evFn Try.prog (tbl_6 D) 60 10 [.agg [.fl a0, .fl a1, .fl a2], .agg [.fl a3, .fl a4, .fl a5]]) = .val none (.agg [.fl (S10_0 D a0 a3), .fl (S10_1 D a1 a4), .fl (S10_2 D a2 a5)]) := by kernel_rfl
def sp10 : Ev.Spec := fun D l => argA l fun c0 r0 => argF c0 fun a0 r1 => argF r1 fun a1 r2 => argF r2 fun a2 r3 => arg0 r3 (argA r0 fun c100 r100 => argF c100 fun a3 r101 => argF r101 fun a4 r102 => argF r102 fun a5 r103 => arg0 r103 (arg0 r100 (.ret (.agg [.fl (S10_0 D a0 a3), .fl (S10_1 D a1 a4), .fl (S10_2 D a2 a5)]))))
theorem en10 : ∀ l r, (sp10 R l).run = some r → Entry Try.prog 10 l r := by
  intro l r h
  obtain ⟨_, _, h, L0⟩ := argA_inv h
  obtain ⟨x1, _, h, L1⟩ := argF_inv h
  obtain ⟨x2, _, h, L2⟩ := argF_inv h
  obtain ⟨x3, _, h, L3⟩ := argF_inv h
  obtain ⟨h, L4⟩ := arg0_inv h
  obtain ⟨_, _, h, L5⟩ := argA_inv h
  obtain ⟨x6, _, h, L6⟩ := argF_inv h
  obtain ⟨x7, _, h, L7⟩ := argF_inv h
  obtain ⟨x8, _, h, L8⟩ := argF_inv h
  obtain ⟨h, L9⟩ := arg0_inv h
  obtain ⟨h, L10⟩ := arg0_inv h
  cases h
  exact (entry_of prg tok_6 (ev10 R x1 x2 x3 x6 x7 x8) (fun o ho => nomatch ho) rfl).le (L0 _ _ (L1 _ (L2 _ (L3 _ L4))) (L5 _ _ (L6 _ (L7 _ (L8 _ L9))) L10))
def tl_10 : List (Nat × Ev.Spec) := (10, sp10) :: tl_6
def tbl_10 (D : Dom) : Tbl D := tblOf tl_10 D
theorem tok_10 : TblOK Try.prog (tbl_10 R) := TblOK.cons tok_6 en10

-- penumbra/penumbraref02.Scale
def S9_0 (D : Dom) (a0 : D.F) (a3 : D.F) : D.F := (D.fmul a0 a3)
def S9_1 (D : Dom) (a1 : D.F) (a3 : D.F) : D.F := (D.fmul a1 a3)
def S9_2 (D : Dom) (a2 : D.F) (a3 : D.F) : D.F := (D.fmul a2 a3)
theorem ev9 (D : Dom) (a0 : D.F) (a1 : D.F) (a2 : D.F) (a3 : D.F) : joinT (evFn Try.prog (tbl_10 D) 60 9 [.agg [.fl a0, .fl a1, .fl a2], .fl a3]) = .val none (.agg [.fl (S9_0 D a0 a3), .fl (S9_1 D a1 a3), .fl (S9_2 D a2 a3)]) := by kernel_rfl
def sp9 : Ev.Spec := fun D l => argA l fun c0 r0 => argF c0 fun a0 r1 => argF r1 fun a1 r2 => argF r2 fun a2 r3 => arg0 r3 (argF r0 fun a3 r100 => arg0 r100 (.ret (.agg [.fl (S9_0 D a0 a3), .fl (S9_1 D a1 a3), .fl (S9_2 D a2 a3)])))
theorem en9 : ∀ l r, (sp9 R l).run = some r → Entry Try.prog 9 l r := by
  intro l r h
  obtain ⟨_, _, h, L0⟩ := argA_inv h
  obtain ⟨x1, _, h, L1⟩ := argF_inv h
  obtain ⟨x2, _, h, L2⟩ := argF_inv h
  obtain ⟨x3, _, h, L3⟩ := argF_inv h
  obtain ⟨h, L4⟩ := arg0_inv h
  obtain ⟨x5, _, h, L5⟩ := argF_inv h
  obtain ⟨h, L6⟩ := arg0_inv h
  cases h
  exact (entry_of prg tok_10 (ev9 R x1 x2 x3 x5) (fun o ho => nomatch ho) rfl).le (L0 _ _ (L1 _ (L2 _ (L3 _ L4))) (L5 _ L6))
def tl_9 : List (Nat × Ev.Spec) := (9, sp9) :: tl_10
def tbl_9 (D : Dom) : Tbl D := tblOf tl_9 D
theorem tok_9 : TblOK Try.prog (tbl_9 R) := TblOK.cons tok_10 en9

-- penumbra/penumbraref02.Add
def S8_0 (D : Dom) (a0 : D.F) (a3 : D.F) : D.F := (D.fadd a0 a3)
def S8_1 (D : Dom) (a1 : D.F) (a4 : D.F) : D.F := (D.fadd a1 a4)
def S8_2 (D : Dom) (a2 : D.F) (a5 : D.F) : D.F := (D.fadd a2 a5)
theorem ev8 (D : Dom) (a0 : D.F) (a1 : D.F) (a2 : D.F) (a3 : D.F) (a4 : D.F) (a5 : D.F) : joinT (evFn Try.prog (tbl_9 D) 60 8 [.agg [.fl a0, .fl a1, .fl a2], .agg [.fl a3, .fl a4, .fl a5]]) = .val none (.agg [.fl (S8_0 D a0 a3), .fl (S8_1 D a1 a4), .fl (S8_2 D a2 a5)]) := by kernel_rfl
def sp8 : Ev.Spec := fun D l => argA l fun c0 r0 => argF c0 fun a0 r1 => argF r1 fun a1 r2 => argF r2 fun a2 r3 => arg0 r3 (argA r0 fun c100 r100 => argF c100 fun a3 r101 => argF r101 fun a4 r102 => argF r102 fun a5 r103 => arg0 r103 (arg0 r100 (.ret (.agg [.fl (S8_0 D a0 a3), .fl (S8_1 D a1 a4), .fl (S8_2 D a2 a5)]))))
theorem en8 : ∀ l r, (sp8 R l).run = some r → Entry Try.prog 8 l r := by
  intro l r h
  obtain ⟨_, _, h, L0⟩ := argA_inv h
  obtain ⟨x1, _, h, L1⟩ := argF_inv h
  obtain ⟨x2, _, h, L2⟩ := argF_inv h
  obtain ⟨x3, _, h, L3⟩ := argF_inv h
  obtain ⟨h, L4⟩ := arg0_inv h
  obtain ⟨_, _, h, L5⟩ := argA_inv h
  obtain ⟨x6, _, h, L6⟩ := argF_inv h
  obtain ⟨x7, _, h, L7⟩ := argF_inv h
  obtain ⟨x8, _, h, L8⟩ := argF_inv h
  obtain ⟨h, L9⟩ := arg0_inv h
  obtain ⟨h, L10⟩ := arg0_inv h
  cases h
  exact (entry_of prg tok_9 (ev8 R x1 x2 x3 x6 x7 x8) (fun o ho => nomatch ho) rfl).le (L0 _ _ (L1 _ (L2 _ (L3 _ L4))) (L5 _ _ (L6 _ (L7 _ (L8 _ L9))) L10))
def tl_8 : List (Nat × Ev.Spec) := (8, sp8) :: tl_9
def tbl_8 (D : Dom) : Tbl D := tblOf tl_8 D
theorem tok_8 : TblOK Try.prog (tbl_8 R) := TblOK.cons tok_9 en8

-- penumbra/vec.Sub$1
def S48_0 (D : Dom) (a0 : D.F) (a1 : D.F) : D.F := (D.fsub a0 a1)
theorem ev48 (D : Dom) (a0 : D.F) (a1 : D.F) : joinT (evFn Try.prog (tbl_8 D) 60 48 [.fl a0, .fl a1]) = .val none (.fl (S48_0 D a0 a1)) := by kernel_rfl
def sp48 : Ev.Spec := fun D l => argF l fun a0 r0 => argF r0 fun a1 r1 => arg0 r1 (.ret (.fl (S48_0 D a0 a1)))
theorem en48 : ∀ l r, (sp48 R l).run = some r → Entry Try.prog 48 l r := by
  intro l r h
  obtain ⟨x0, _, h, L0⟩ := argF_inv h
  obtain ⟨x1, _, h, L1⟩ := argF_inv h
  obtain ⟨h, L2⟩ := arg0_inv h
  cases h
  exact (entry_of prg tok_8 (ev48 R x0 x1) (fun o ho => nomatch ho) rfl).le (L0 _ (L1 _ L2))
def tl_48 : List (Nat × Ev.Spec) := (48, sp48) :: tl_8
def tbl_48 (D : Dom) : Tbl D := tblOf tl_48 D
theorem tok_48 : TblOK Try.prog (tbl_48 R) := TblOK.cons tok_8 en48

-- penumbra/vec.Sub
def S33_0 (D : Dom) (a0 : D.F) (a3 : D.F) : D.F := (S48_0 D a0 a3)
def S33_1 (D : Dom) (a1 : D.F) (a4 : D.F) : D.F := (S48_0 D a1 a4)
def S33_2 (D : Dom) (a2 : D.F) (a5 : D.F) : D.F := (S48_0 D a2 a5)
theorem ev33 (D : Dom) (a0 : D.F) (a1 : D.F) (a2 : D.F) (a3 : D.F) (a4 : D.F) (a5 : D.F) : joinT (evFn Try.prog (tbl_48 D) 60 33 [.agg [.fl a0, .fl a1, .fl a2], .agg [.fl a3, .fl a4, .fl a5]]) = .val none (.agg [.fl (S33_0 D a0 a3), .fl (S33_1 D a1 a4), .fl (S33_2 D a2 a5)]) := by kernel_rfl
def sp33 : Ev.Spec := fun D l => argA l fun c0 r0 => argF c0 fun a0 r1 => argF r1 fun a1 r2 => argF r2 fun a2 r3 => arg0 r3 (argA r0 fun c100 r100 => argF c100 fun a3 r101 => argF r101 fun a4 r102 => argF r102 fun a5 r103 => arg0 r103 (arg0 r100 (.ret (.agg [.fl (S33_0 D a0 a3), .fl (S33_1 D a1 a4), .fl (S33_2 D a2 a5)]))))
theorem en33 : ∀ l r, (sp33 R l).run = some r → Entry Try.prog 33 l r := by
  intro l r h
  obtain ⟨_, _, h, L0⟩ := argA_inv h
  obtain ⟨x1, _, h, L1⟩ := argF_inv h
  obtain ⟨x2, _, h, L2⟩ := argF_inv h
  obtain ⟨x3, _, h, L3⟩ := argF_inv h
  obtain ⟨h, L4⟩ := arg0_inv h
  obtain ⟨_, _, h, L5⟩ := argA_inv h
  obtain ⟨x6, _, h, L6⟩ := argF_inv h
  obtain ⟨x7, _, h, L7⟩ := argF_inv h
  obtain ⟨x8, _, h, L8⟩ := argF_inv h
  obtain ⟨h, L9⟩ := arg0_inv h
  obtain ⟨h, L10⟩ := arg0_inv h
  cases h
  exact (entry_of prg tok_48 (ev33 R x1 x2 x3 x6 x7 x8) (fun o ho => nomatch ho) rfl).le (L0 _ _ (L1 _ (L2 _ (L3 _ L4))) (L5 _ _ (L6 _ (L7 _ (L8 _ L9))) L10))
def tl_33 : List (Nat × Ev.Spec) := (33, sp33) :: tl_48
def tbl_33 (D : Dom) : Tbl D := tblOf tl_33 D
theorem tok_33 : TblOK Try.prog (tbl_33 R) := TblOK.cons tok_48 en33

-- penumbra/tri.Edges
def S41_0 (D : Dom) (a0 : D.F) (a3 : D.F) : D.F := (S33_0 D a3 a0)
def S41_1 (D : Dom) (a1 : D.F) (a4 : D.F) : D.F := (S33_1 D a4 a1)
def S41_2 (D : Dom) (a2 : D.F) (a5 : D.F) : D.F := (S33_2 D a5 a2)
def S41_3 (D : Dom) (a0 : D.F) (a6 : D.F) : D.F := (S33_0 D a6 a0)
def S41_4 (D : Dom) (a1 : D.F) (a7 : D.F) : D.F := (S33_1 D a7 a1)
def S41_5 (D : Dom) (a2 : D.F) (a8 : D.F) : D.F := (S33_2 D a8 a2)
theorem ev41 (D : Dom) (a0 : D.F) (a1 : D.F) (a2 : D.F) (a3 : D.F) (a4 : D.F) (a5 : D.F) (a6 : D.F) (a7 : D.F) (a8 : D.F) : joinT (evFn Try.prog (tbl_33 D) 60 41 [.agg [.fl a0, .fl a1, .fl a2, .fl a3, .fl a4, .fl a5, .fl a6, .fl a7, .fl a8]]) = .val none (.tup [.agg [.fl (S41_0 D a0 a3), .fl (S41_1 D a1 a4), .fl (S41_2 D a2 a5)], .agg [.fl (S41_3 D a0 a6), .fl (S41_4 D a1 a7), .fl (S41_5 D a2 a8)]]) := by kernel_rfl
def sp41 : Ev.Spec := fun D l => argA l fun c0 r0 => argF c0 fun a0 r1 => argF r1 fun a1 r2 => argF r2 fun a2 r3 => argF r3 fun a3 r4 => argF r4 fun a4 r5 => argF r5 fun a5 r6 => argF r6 fun a6 r7 => argF r7 fun a7 r8 => argF r8 fun a8 r9 => arg0 r9 (arg0 r0 (.ret (.tup [.agg [.fl (S41_0 D a0 a3), .fl (S41_1 D a1 a4), .fl (S41_2 D a2 a5)], .agg [.fl (S41_3 D a0 a6), .fl (S41_4 D a1 a7), .fl (S41_5 D a2 a8)]])))
theorem en41 : ∀ l r, (sp41 R l).run = some r → Entry Try.prog 41 l r := by
  intro l r h
  obtain ⟨_, _, h, L0⟩ := argA_inv h
  obtain ⟨x1, _, h, L1⟩ := argF_inv h
  obtain ⟨x2, _, h, L2⟩ := argF_inv h
  obtain ⟨x3, _, h, L3⟩ := argF_inv h
  obtain ⟨x4, _, h, L4⟩ := argF_inv h
  obtain ⟨x5, _, h, L5⟩ := argF_inv h
  obtain ⟨x6, _, h, L6⟩ := argF_inv h
  obtain ⟨x7, _, h, L7⟩ := argF_inv h
  obtain ⟨x8, _, h, L8⟩ := argF_inv h
  obtain ⟨x9, _, h, L9⟩ := argF_inv h
  obtain ⟨h, L10⟩ := arg0_inv h
  obtain ⟨h, L11⟩ := arg0_inv h
  cases h
  exact (entry_of prg tok_33 (ev41 R x1 x2 x3 x4 x5 x6 x7 x8 x9) (fun o ho => nomatch ho) rfl).le (L0 _ _ (L1 _ (L2 _ (L3 _ (L4 _ (L5 _ (L6 _ (L7 _ (L8 _ (L9 _ L10))))))))) L11)
def tl_41 : List (Nat × Ev.Spec) := (41, sp41) :: tl_33
def tbl_41 (D : Dom) : Tbl D := tblOf tl_41 D
theorem tok_41 : TblOK Try.prog (tbl_41 R) := TblOK.cons tok_33 en41

-- penumbra/vec.Mul$1
def S53_0 (D : Dom) (a0 : D.F) (a1 : D.F) : D.F := (D.fmul a0 a1)
theorem ev53 (D : Dom) (a0 : D.F) (a1 : D.F) : joinT (evFn Try.prog (tbl_41 D) 60 53 [.fl a0, .fl a1]) = .val none (.fl (S53_0 D a0 a1)) := by kernel_rfl
def sp53 : Ev.Spec := fun D l => argF l fun a0 r0 => argF r0 fun a1 r1 => arg0 r1 (.ret (.fl (S53_0 D a0 a1)))
theorem en53 : ∀ l r, (sp53 R l).run = some r → Entry Try.prog 53 l r := by
  intro l r h
  obtain ⟨x0, _, h, L0⟩ := argF_inv h
  obtain ⟨x1, _, h, L1⟩ := argF_inv h
  obtain ⟨h, L2⟩ := arg0_inv h
  cases h
  exact (entry_of prg tok_41 (ev53 R x0 x1) (fun o ho => nomatch ho) rfl).le (L0 _ (L1 _ L2))
def tl_53 : List (Nat × Ev.Spec) := (53, sp53) :: tl_41
def tbl_53 (D : Dom) : Tbl D := tblOf tl_53 D
theorem tok_53 : TblOK Try.prog (tbl_53 R) := TblOK.cons tok_41 en53

-- penumbra/vec.Mul
def S49_0 (D : Dom) (a0 : D.F) (a3 : D.F) : D.F := (S53_0 D a0 a3)
def S49_1 (D : Dom) (a1 : D.F) (a4 : D.F) : D.F := (S53_0 D a1 a4)
def S49_2 (D : Dom) (a2 : D.F) (a5 : D.F) : D.F := (S53_0 D a2 a5)
theorem ev49 (D : Dom) (a0 : D.F) (a1 : D.F) (a2 : D.F) (a3 : D.F) (a4 : D.F) (a5 : D.F) : joinT (evFn Try.prog (tbl_53 D) 60 49 [.agg [.fl a0, .fl a1, .fl a2], .agg [.fl a3, .fl a4, .fl a5]]) = .val none (.agg [.fl (S49_0 D a0 a3), .fl (S49_1 D a1 a4), .fl (S49_2 D a2 a5)]) := by kernel_rfl
def sp49 : Ev.Spec := fun D l => argA l fun c0 r0 => argF c0 fun a0 r1 => argF r1 fun a1 r2 => argF r2 fun a2 r3 => arg0 r3 (argA r0 fun c100 r100 => argF c100 fun a3 r101 => argF r101 fun a4 r102 => argF r102 fun a5 r103 => arg0 r103 (arg0 r100 (.ret (.agg [.fl (S49_0 D a0 a3), .fl (S49_1 D a1 a4), .fl (S49_2 D a2 a5)]))))
theorem en49 : ∀ l r, (sp49 R l).run = some r → Entry Try.prog 49 l r := by
  intro l r h
  obtain ⟨_, _, h, L0⟩ := argA_inv h
  obtain ⟨x1, _, h, L1⟩ := argF_inv h
  obtain ⟨x2, _, h, L2⟩ := argF_inv h
  obtain ⟨x3, _, h, L3⟩ := argF_inv h
  obtain ⟨h, L4⟩ := arg0_inv h
  obtain ⟨_, _, h, L5⟩ := argA_inv h
  obtain ⟨x6, _, h, L6⟩ := argF_inv h
  obtain ⟨x7, _, h, L7⟩ := argF_inv h
  obtain ⟨x8, _, h, L8⟩ := argF_inv h
  obtain ⟨h, L9⟩ := arg0_inv h
  obtain ⟨h, L10⟩ := arg0_inv h
  cases h
  exact (entry_of prg tok_53 (ev49 R x1 x2 x3 x6 x7 x8) (fun o ho => nomatch ho) rfl).le (L0 _ _ (L1 _ (L2 _ (L3 _ L4))) (L5 _ _ (L6 _ (L7 _ (L8 _ L9))) L10))
def tl_49 : List (Nat × Ev.Spec) := (49, sp49) :: tl_53
def tbl_49 (D : Dom) : Tbl D := tblOf tl_49 D
theorem tok_49 : TblOK Try.prog (tbl_49 R) := TblOK.cons tok_53 en49

-- penumbra/vec.Cross
def S52_0 (D : Dom) (a1 : D.F) (a2 : D.F) (a4 : D.F) (a5 : D.F) : D.F := (S33_0 D (S49_0 D a1 a5) (S49_0 D a2 a4))
def S52_1 (D : Dom) (a0 : D.F) (a2 : D.F) (a3 : D.F) (a5 : D.F) : D.F := (S33_1 D (S49_1 D a2 a3) (S49_1 D a0 a5))
def S52_2 (D : Dom) (a0 : D.F) (a1 : D.F) (a3 : D.F) (a4 : D.F) : D.F := (S33_2 D (S49_2 D a0 a4) (S49_2 D a1 a3))
theorem ev52 (D : Dom) (a0 : D.F) (a1 : D.F) (a2 : D.F) (a3 : D.F) (a4 : D.F) (a5 : D.F) : joinT (evFn Try.prog (tbl_49 D) 60 52 [.agg [.fl a0, .fl a1, .fl a2], .agg [.fl a3, .fl a4, .fl a5]]) = .val none (.agg [.fl (S52_0 D a1 a2 a4 a5), .fl (S52_1 D a0 a2 a3 a5), .fl (S52_2 D a0 a1 a3 a4)]) := by kernel_rfl
def sp52 : Ev.Spec := fun D l => argA l fun c0 r0 => argF c0 fun a0 r1 => argF r1 fun a1 r2 => argF r2 fun a2 r3 => arg0 r3 (argA r0 fun c100 r100 => argF c100 fun a3 r101 => argF r101 fun a4 r102 => argF r102 fun a5 r103 => arg0 r103 (arg0 r100 (.ret (.agg [.fl (S52_0 D a1 a2 a4 a5), .fl (S52_1 D a0 a2 a3 a5), .fl (S52_2 D a0 a1 a3 a4)]))))
theorem en52 : ∀ l r, (sp52 R l).run = some r → Entry Try.prog 52 l r := by
  intro l r h
  obtain ⟨_, _, h, L0⟩ := argA_inv h
  obtain ⟨x1, _, h, L1⟩ := argF_inv h
  obtain ⟨x2, _, h, L2⟩ := argF_inv h
  obtain ⟨x3, _, h, L3⟩ := argF_inv h
  obtain ⟨h, L4⟩ := arg0_inv h
  obtain ⟨_, _, h, L5⟩ := argA_inv h
  obtain ⟨x6, _, h, L6⟩ := argF_inv h
  obtain ⟨x7, _, h, L7⟩ := argF_inv h
  obtain ⟨x8, _, h, L8⟩ := argF_inv h
  obtain ⟨h, L9⟩ := arg0_inv h
  obtain ⟨h, L10⟩ := arg0_inv h
  cases h
  exact (entry_of prg tok_49 (ev52 R x1 x2 x3 x6 x7 x8) (fun o ho => nomatch ho) rfl).le (L0 _ _ (L1 _ (L2 _ (L3 _ L4))) (L5 _ _ (L6 _ (L7 _ (L8 _ L9))) L10))
def tl_52 : List (Nat × Ev.Spec) := (52, sp52) :: tl_49
def tbl_52 (D : Dom) : Tbl D := tblOf tl_52 D
theorem tok_52 : TblOK Try.prog (tbl_52 R) := TblOK.cons tok_49 en52

-- penumbra/tri.cross
def S45_0 (D : Dom) (a1 : D.F) (a2 : D.F) (a4 : D.F) (a5 : D.F) (a7 : D.F) (a8 : D.F) : D.F := (S52_0 D (S41_1 D a1 a4) (S41_2 D a2 a5) (S41_4 D a1 a7) (S41_5 D a2 a8))
def S45_1 (D : Dom) (a0 : D.F) (a2 : D.F) (a3 : D.F) (a5 : D.F) (a6 : D.F) (a8 : D.F) : D.F := (S52_1 D (S41_0 D a0 a3) (S41_2 D a2 a5) (S41_3 D a0 a6) (S41_5 D a2 a8))
def S45_2 (D : Dom) (a0 : D.F) (a1 : D.F) (a3 : D.F) (a4 : D.F) (a6 : D.F) (a7 : D.F) : D.F := (S52_2 D (S41_0 D a0 a3) (S41_1 D a1 a4) (S41_3 D a0 a6) (S41_4 D a1 a7))
theorem ev45 (D : Dom) (a0 : D.F) (a1 : D.F) (a2 : D.F) (a3 : D.F) (a4 : D.F) (a5 : D.F) (a6 : D.F) (a7 : D.F) (a8 : D.F) : joinT (evFn Try.prog (tbl_52 D) 60 45 [.agg [.fl a0, .fl a1, .fl a2, .fl a3, .fl a4, .fl a5, .fl a6, .fl a7, .fl a8]]) = .val none (.agg [.fl (S45_0 D a1 a2 a4 a5 a7 a8), .fl (S45_1 D a0 a2 a3 a5 a6 a8), .fl (S45_2 D a0 a1 a3 a4 a6 a7)]) := by kernel_rfl
def sp45 : Ev.Spec := fun D l => argA l fun c0 r0 => argF c0 fun a0 r1 => argF r1 fun a1 r2 => argF r2 fun a2 r3 => argF r3 fun a3 r4 => argF r4 fun a4 r5 => argF r5 fun a5 r6 => argF r6 fun a6 r7 => argF r7 fun a7 r8 => argF r8 fun a8 r9 => arg0 r9 (arg0 r0 (.ret (.agg [.fl (S45_0 D a1 a2 a4 a5 a7 a8), .fl (S45_1 D a0 a2 a3 a5 a6 a8), .fl (S45_2 D a0 a1 a3 a4 a6 a7)])))
theorem en45 : ∀ l r, (sp45 R l).run = some r → Entry Try.prog 45 l r := by
  intro l r h
  obtain ⟨_, _, h, L0⟩ := argA_inv h
  obtain ⟨x1, _, h, L1⟩ := argF_inv h
  obtain ⟨x2, _, h, L2⟩ := argF_inv h
  obtain ⟨x3, _, h, L3⟩ := argF_inv h
  obtain ⟨x4, _, h, L4⟩ := argF_inv h
  obtain ⟨x5, _, h, L5⟩ := argF_inv h
  obtain ⟨x6, _, h, L6⟩ := argF_inv h
  obtain ⟨x7, _, h, L7⟩ := argF_inv h
  obtain ⟨x8, _, h, L8⟩ := argF_inv h
  obtain ⟨x9, _, h, L9⟩ := argF_inv h
  obtain ⟨h, L10⟩ := arg0_inv h
  obtain ⟨h, L11⟩ := arg0_inv h
  cases h
  exact (entry_of prg tok_52 (ev45 R x1 x2 x3 x4 x5 x6 x7 x8 x9) (fun o ho => nomatch ho) rfl).le (L0 _ _ (L1 _ (L2 _ (L3 _ (L4 _ (L5 _ (L6 _ (L7 _ (L8 _ (L9 _ L10))))))))) L11)
def tl_45 : List (Nat × Ev.Spec) := (45, sp45) :: tl_52
def tbl_45 (D : Dom) : Tbl D := tblOf tl_45 D
theorem tok_45 : TblOK Try.prog (tbl_45 R) := TblOK.cons tok_52 en45

-- penumbra/vec.Dot
def S38_0 (D : Dom) (a0 : D.F) (a1 : D.F) (a2 : D.F) (a3 : D.F) (a4 : D.F) (a5 : D.F) : D.F := (D.fadd (D.fadd (S49_0 D a0 a3) (S49_1 D a1 a4)) (S49_2 D a2 a5))
theorem ev38 (D : Dom) (a0 : D.F) (a1 : D.F) (a2 : D.F) (a3 : D.F) (a4 : D.F) (a5 : D.F) : joinT (evFn Try.prog (tbl_45 D) 60 38 [.agg [.fl a0, .fl a1, .fl a2], .agg [.fl a3, .fl a4, .fl a5]]) = .val none (.fl (S38_0 D a0 a1 a2 a3 a4 a5)) := by kernel_rfl
def sp38 : Ev.Spec := fun D l => argA l fun c0 r0 => argF c0 fun a0 r1 => argF r1 fun a1 r2 => argF r2 fun a2 r3 => arg0 r3 (argA r0 fun c100 r100 => argF c100 fun a3 r101 => argF r101 fun a4 r102 => argF r102 fun a5 r103 => arg0 r103 (arg0 r100 (.ret (.fl (S38_0 D a0 a1 a2 a3 a4 a5)))))
theorem en38 : ∀ l r, (sp38 R l).run = some r → Entry Try.prog 38 l r := by
  intro l r h
  obtain ⟨_, _, h, L0⟩ := argA_inv h
  obtain ⟨x1, _, h, L1⟩ := argF_inv h
  obtain ⟨x2, _, h, L2⟩ := argF_inv h
  obtain ⟨x3, _, h, L3⟩ := argF_inv h
  obtain ⟨h, L4⟩ := arg0_inv h
  obtain ⟨_, _, h, L5⟩ := argA_inv h
  obtain ⟨x6, _, h, L6⟩ := argF_inv h
  obtain ⟨x7, _, h, L7⟩ := argF_inv h
  obtain ⟨x8, _, h, L8⟩ := argF_inv h
  obtain ⟨h, L9⟩ := arg0_inv h
  obtain ⟨h, L10⟩ := arg0_inv h
  cases h
  exact (entry_of prg tok_45 (ev38 R x1 x2 x3 x6 x7 x8) (fun o ho => nomatch ho) rfl).le (L0 _ _ (L1 _ (L2 _ (L3 _ L4))) (L5 _ _ (L6 _ (L7 _ (L8 _ L9))) L10))
def tl_38 : List (Nat × Ev.Spec) := (38, sp38) :: tl_45
def tbl_38 (D : Dom) : Tbl D := tblOf tl_38 D
theorem tok_38 : TblOK Try.prog (tbl_38 R) := TblOK.cons tok_45 en38

-- penumbra/vec.Len2
def S35_0 (D : Dom) (a0 : D.F) (a1 : D.F) (a2 : D.F) : D.F := (S38_0 D a0 a1 a2 a0 a1 a2)
theorem ev35 (D : Dom) (a0 : D.F) (a1 : D.F) (a2 : D.F) : joinT (evFn Try.prog (tbl_38 D) 60 35 [.agg [.fl a0, .fl a1, .fl a2]]) = .val none (.fl (S35_0 D a0 a1 a2)) := by kernel_rfl
def sp35 : Ev.Spec := fun D l => argA l fun c0 r0 => argF c0 fun a0 r1 => argF r1 fun a1 r2 => argF r2 fun a2 r3 => arg0 r3 (arg0 r0 (.ret (.fl (S35_0 D a0 a1 a2))))
theorem en35 : ∀ l r, (sp35 R l).run = some r → Entry Try.prog 35 l r := by
  intro l r h
  obtain ⟨_, _, h, L0⟩ := argA_inv h
  obtain ⟨x1, _, h, L1⟩ := argF_inv h
  obtain ⟨x2, _, h, L2⟩ := argF_inv h
  obtain ⟨x3, _, h, L3⟩ := argF_inv h
  obtain ⟨h, L4⟩ := arg0_inv h
  obtain ⟨h, L5⟩ := arg0_inv h
  cases h
  exact (entry_of prg tok_38 (ev35 R x1 x2 x3) (fun o ho => nomatch ho) rfl).le (L0 _ _ (L1 _ (L2 _ (L3 _ L4))) L5)
def tl_35 : List (Nat × Ev.Spec) := (35, sp35) :: tl_38
def tbl_35 (D : Dom) : Tbl D := tblOf tl_35 D
theorem tok_35 : TblOK Try.prog (tbl_35 R) := TblOK.cons tok_38 en35

-- penumbra/vec.Len
def S44_0 (D : Dom) (a0 : D.F) (a1 : D.F) (a2 : D.F) : D.F := (S6_0 D (S35_0 D a0 a1 a2))
theorem ev44 (D : Dom) (a0 : D.F) (a1 : D.F) (a2 : D.F) : joinT (evFn Try.prog (tbl_35 D) 60 44 [.agg [.fl a0, .fl a1, .fl a2]]) = .val none (.fl (S44_0 D a0 a1 a2)) := by kernel_rfl
def sp44 : Ev.Spec := fun D l => argA l fun c0 r0 => argF c0 fun a0 r1 => argF r1 fun a1 r2 => argF r2 fun a2 r3 => arg0 r3 (arg0 r0 (.ret (.fl (S44_0 D a0 a1 a2))))
theorem en44 : ∀ l r, (sp44 R l).run = some r → Entry Try.prog 44 l r := by
  intro l r h
  obtain ⟨_, _, h, L0⟩ := argA_inv h
  obtain ⟨x1, _, h, L1⟩ := argF_inv h
  obtain ⟨x2, _, h, L2⟩ := argF_inv h
  obtain ⟨x3, _, h, L3⟩ := argF_inv h
  obtain ⟨h, L4⟩ := arg0_inv h
  obtain ⟨h, L5⟩ := arg0_inv h
  cases h
  exact (entry_of prg tok_35 (ev44 R x1 x2 x3) (fun o ho => nomatch ho) rfl).le (L0 _ _ (L1 _ (L2 _ (L3 _ L4))) L5)
def tl_44 : List (Nat × Ev.Spec) := (44, sp44) :: tl_35
def tbl_44 (D : Dom) : Tbl D := tblOf tl_44 D
theorem tok_44 : TblOK Try.prog (tbl_44 R) := TblOK.cons tok_35 en44

-- penumbra/tri.Area
def S30_0 (D : Dom) (a0 : D.F) (a1 : D.F) (a2 : D.F) (a3 : D.F) (a4 : D.F) (a5 : D.F) (a6 : D.F) (a7 : D.F) (a8 : D.F) : D.F := (D.fmul (S44_0 D (S45_0 D a1 a2 a4 a5 a7 a8) (S45_1 D a0 a2 a3 a5 a6 a8) (S45_2 D a0 a1 a3 a4 a6 a7)) (D.fc 4602678819172646912))
theorem ev30 (D : Dom) (a0 : D.F) (a1 : D.F) (a2 : D.F) (a3 : D.F) (a4 : D.F) (a5 : D.F) (a6 : D.F) (a7 : D.F) (a8 : D.F) : joinT (evFn Try.prog (tbl_44 D) 60 30 [.agg [.fl a0, .fl a1, .fl a2, .fl a3, .fl a4, .fl a5, .fl a6, .fl a7, .fl a8]]) = .val none (.fl (S30_0 D a0 a1 a2 a3 a4 a5 a6 a7 a8)) := by kernel_rfl
def sp30 : Ev.Spec := fun D l => argA l fun c0 r0 => argF c0 fun a0 r1 => argF r1 fun a1 r2 => argF r2 fun a2 r3 => argF r3 fun a3 r4 => argF r4 fun a4 r5 => argF r5 fun a5 r6 => argF r6 fun a6 r7 => argF r7 fun a7 r8 => argF r8 fun a8 r9 => arg0 r9 (arg0 r0 (.ret (.fl (S30_0 D a0 a1 a2 a3 a4 a5 a6 a7 a8))))
theorem en30 : ∀ l r, (sp30 R l).run = some r → Entry Try.prog 30 l r := by
  intro l r h
  obtain ⟨_, _, h, L0⟩ := argA_inv h
  obtain ⟨x1, _, h, L1⟩ := argF_inv h
  obtain ⟨x2, _, h, L2⟩ := argF_inv h
  obtain ⟨x3, _, h, L3⟩ := argF_inv h
  obtain ⟨x4, _, h, L4⟩ := argF_inv h
  obtain ⟨x5, _, h, L5⟩ := argF_inv h
  obtain ⟨x6, _, h, L6⟩ := argF_inv h
  obtain ⟨x7, _, h, L7⟩ := argF_inv h
  obtain ⟨x8, _, h, L8⟩ := argF_inv h
  obtain ⟨x9, _, h, L9⟩ := argF_inv h
  obtain ⟨h, L10⟩ := arg0_inv h
  obtain ⟨h, L11⟩ := arg0_inv h
  cases h
  exact (entry_of prg tok_44 (ev30 R x1 x2 x3 x4 x5 x6 x7 x8 x9) (fun o ho => nomatch ho) rfl).le (L0 _ _ (L1 _ (L2 _ (L3 _ (L4 _ (L5 _ (L6 _ (L7 _ (L8 _ (L9 _ L10))))))))) L11)
def tl_30 : List (Nat × Ev.Spec) := (30, sp30) :: tl_44
def tbl_30 (D : Dom) : Tbl D := tblOf tl_30 D
theorem tok_30 : TblOK Try.prog (tbl_30 R) := TblOK.cons tok_44 en30

-- penumbra/vec.Number
def S46_0 (D : Dom) (a0 : D.F) : D.B := (D.bite (D.fge a0 (D.fc 18442240474082181119)) (D.fle a0 (D.fc 9218868437227405311)) (D.bc false))
theorem ev46 (D : Dom) (a0 : D.F) : joinT (evFn Try.prog (tbl_30 D) 60 46 [.fl a0]) = .val none (.sb (S46_0 D a0)) := by kernel_rfl
def sp46 : Ev.Spec := fun D l => argF l fun a0 r0 => arg0 r0 (.ret (.sb (S46_0 D a0)))
theorem en46 : ∀ l r, (sp46 R l).run = some r → Entry Try.prog 46 l r := by
  intro l r h
  obtain ⟨x0, _, h, L0⟩ := argF_inv h
  obtain ⟨h, L1⟩ := arg0_inv h
  cases h
  exact (entry_of prg tok_30 (ev46 R x0) (fun o ho => nomatch ho) rfl).le (L0 _ L1)
def tl_46 : List (Nat × Ev.Spec) := (46, sp46) :: tl_30
def tbl_46 (D : Dom) : Tbl D := tblOf tl_46 D
theorem tok_46 : TblOK Try.prog (tbl_46 R) := TblOK.cons tok_30 en46

-- penumbra/area.plain
def S31_0 (D : Dom) (a0 : D.F) : D.F := (D.fite (D.bite (D.fge a0 (D.fc 0)) (S46_0 D a0) (D.bc false)) a0 (D.fc 0))
theorem ev31 (D : Dom) (a0 : D.F) : joinT (evFn Try.prog (tbl_46 D) 60 31 [.fl a0]) = .val none (.fl (S31_0 D a0)) := by kernel_rfl
def sp31 : Ev.Spec := fun D l => argF l fun a0 r0 => arg0 r0 (.ret (.fl (S31_0 D a0)))
theorem en31 : ∀ l r, (sp31 R l).run = some r → Entry Try.prog 31 l r := by
  intro l r h
  obtain ⟨x0, _, h, L0⟩ := argF_inv h
  obtain ⟨h, L1⟩ := arg0_inv h
  cases h
  exact (entry_of prg tok_46 (ev31 R x0) (fun o ho => nomatch ho) rfl).le (L0 _ L1)
def tl_31 : List (Nat × Ev.Spec) := (31, sp31) :: tl_46
def tbl_31 (D : Dom) : Tbl D := tblOf tl_31 D
theorem tok_31 : TblOK Try.prog (tbl_31 R) := TblOK.cons tok_46 en31

-- penumbra/area.Density
def S14_0 (D : Dom) (a0 : D.F) (a1 : D.F) (a2 : D.F) (a3 : D.F) (a4 : D.F) (a5 : D.F) (a6 : D.F) (a7 : D.F) (a8 : D.F) : D.F := (D.fite (D.bnot (D.fgt (S30_0 D a0 a1 a2 a3 a4 a5 a6 a7 a8) (D.fc 0))) (D.fc 0) (S31_0 D (D.fdiv (D.fc 4607182418800017408) (S30_0 D a0 a1 a2 a3 a4 a5 a6 a7 a8))))
theorem ev14 (D : Dom) (a0 : D.F) (a1 : D.F) (a2 : D.F) (a3 : D.F) (a4 : D.F) (a5 : D.F) (a6 : D.F) (a7 : D.F) (a8 : D.F) : joinT (evFn Try.prog (tbl_31 D) 60 14 [.agg [.fl a0, .fl a1, .fl a2, .fl a3, .fl a4, .fl a5, .fl a6, .fl a7, .fl a8]]) = .val none (.fl (S14_0 D a0 a1 a2 a3 a4 a5 a6 a7 a8)) := by kernel_rfl
def sp14 : Ev.Spec := fun D l => argA l fun c0 r0 => argF c0 fun a0 r1 => argF r1 fun a1 r2 => argF r2 fun a2 r3 => argF r3 fun a3 r4 => argF r4 fun a4 r5 => argF r5 fun a5 r6 => argF r6 fun a6 r7 => argF r7 fun a7 r8 => argF r8 fun a8 r9 => arg0 r9 (arg0 r0 (.ret (.fl (S14_0 D a0 a1 a2 a3 a4 a5 a6 a7 a8))))
theorem en14 : ∀ l r, (sp14 R l).run = some r → Entry Try.prog 14 l r := by
  intro l r h
  obtain ⟨_, _, h, L0⟩ := argA_inv h
  obtain ⟨x1, _, h, L1⟩ := argF_inv h
  obtain ⟨x2, _, h, L2⟩ := argF_inv h
  obtain ⟨x3, _, h, L3⟩ := argF_inv h
  obtain ⟨x4, _, h, L4⟩ := argF_inv h
  obtain ⟨x5, _, h, L5⟩ := argF_inv h
  obtain ⟨x6, _, h, L6⟩ := argF_inv h
  obtain ⟨x7, _, h, L7⟩ := argF_inv h
  obtain ⟨x8, _, h, L8⟩ := argF_inv h
  obtain ⟨x9, _, h, L9⟩ := argF_inv h
  obtain ⟨h, L10⟩ := arg0_inv h
  obtain ⟨h, L11⟩ := arg0_inv h
  cases h
  exact (entry_of prg tok_31 (ev14 R x1 x2 x3 x4 x5 x6 x7 x8 x9) (fun o ho => nomatch ho) rfl).le (L0 _ _ (L1 _ (L2 _ (L3 _ (L4 _ (L5 _ (L6 _ (L7 _ (L8 _ (L9 _ L10))))))))) L11)
def tl_14 : List (Nat × Ev.Spec) := (14, sp14) :: tl_31
def tbl_14 (D : Dom) : Tbl D := tblOf tl_14 D
theorem tok_14 : TblOK Try.prog (tbl_14 R) := TblOK.cons tok_31 en14

-- penumbra/vec.Unit
def S34_0 (D : Dom) (a0 : D.F) (a1 : D.F) (a2 : D.F) : D.F := (D.fite (D.bite (D.bnot (D.fgt (S44_0 D a0 a1 a2) (D.fc 0))) (D.bc true) (D.bnot (S46_0 D (S44_0 D a0 a1 a2)))) (D.fc 0) (D.fdiv a0 (S44_0 D a0 a1 a2)))
def S34_1 (D : Dom) (a0 : D.F) (a1 : D.F) (a2 : D.F) : D.F := (D.fite (D.bite (D.bnot (D.fgt (S44_0 D a0 a1 a2) (D.fc 0))) (D.bc true) (D.bnot (S46_0 D (S44_0 D a0 a1 a2)))) (D.fc 0) (D.fdiv a1 (S44_0 D a0 a1 a2)))
def S34_2 (D : Dom) (a0 : D.F) (a1 : D.F) (a2 : D.F) : D.F := (D.fite (D.bite (D.bnot (D.fgt (S44_0 D a0 a1 a2) (D.fc 0))) (D.bc true) (D.bnot (S46_0 D (S44_0 D a0 a1 a2)))) (D.fc 0) (D.fdiv a2 (S44_0 D a0 a1 a2)))
def S34_3 (D : Dom) (a0 : D.F) (a1 : D.F) (a2 : D.F) : D.B := (D.bite (D.bite (D.bnot (D.fgt (S44_0 D a0 a1 a2) (D.fc 0))) (D.bc true) (D.bnot (S46_0 D (S44_0 D a0 a1 a2)))) (D.bc false) (D.bc true))
theorem ev34 (D : Dom) (a0 : D.F) (a1 : D.F) (a2 : D.F) : joinT (evFn Try.prog (tbl_14 D) 60 34 [.agg [.fl a0, .fl a1, .fl a2]]) = .val none (.tup [.agg [.fl (S34_0 D a0 a1 a2), .fl (S34_1 D a0 a1 a2), .fl (S34_2 D a0 a1 a2)], .sb (S34_3 D a0 a1 a2)]) := by kernel_rfl
def sp34 : Ev.Spec := fun D l => argA l fun c0 r0 => argF c0 fun a0 r1 => argF r1 fun a1 r2 => argF r2 fun a2 r3 => arg0 r3 (arg0 r0 (.ret (.tup [.agg [.fl (S34_0 D a0 a1 a2), .fl (S34_1 D a0 a1 a2), .fl (S34_2 D a0 a1 a2)], .sb (S34_3 D a0 a1 a2)])))
theorem en34 : ∀ l r, (sp34 R l).run = some r → Entry Try.prog 34 l r := by
  intro l r h
  obtain ⟨_, _, h, L0⟩ := argA_inv h
  obtain ⟨x1, _, h, L1⟩ := argF_inv h
  obtain ⟨x2, _, h, L2⟩ := argF_inv h
  obtain ⟨x3, _, h, L3⟩ := argF_inv h
  obtain ⟨h, L4⟩ := arg0_inv h
  obtain ⟨h, L5⟩ := arg0_inv h
  cases h
  exact (entry_of prg tok_14 (ev34 R x1 x2 x3) (fun o ho => nomatch ho) rfl).le (L0 _ _ (L1 _ (L2 _ (L3 _ L4))) L5)
def tl_34 : List (Nat × Ev.Spec) := (34, sp34) :: tl_14
def tbl_34 (D : Dom) : Tbl D := tblOf tl_34 D
theorem tok_34 : TblOK Try.prog (tbl_34 R) := TblOK.cons tok_14 en34

-- penumbra/area.Look
def S16_0 (D : Dom) (a0 : D.F) (a1 : D.F) (a2 : D.F) (a3 : D.F) (a4 : D.F) (a5 : D.F) : D.F := (S34_0 D (S33_0 D a3 a0) (S33_1 D a4 a1) (S33_2 D a5 a2))
def S16_1 (D : Dom) (a0 : D.F) (a1 : D.F) (a2 : D.F) (a3 : D.F) (a4 : D.F) (a5 : D.F) : D.F := (S34_1 D (S33_0 D a3 a0) (S33_1 D a4 a1) (S33_2 D a5 a2))
def S16_2 (D : Dom) (a0 : D.F) (a1 : D.F) (a2 : D.F) (a3 : D.F) (a4 : D.F) (a5 : D.F) : D.F := (S34_2 D (S33_0 D a3 a0) (S33_1 D a4 a1) (S33_2 D a5 a2))
def S16_3 (D : Dom) (a0 : D.F) (a1 : D.F) (a2 : D.F) (a3 : D.F) (a4 : D.F) (a5 : D.F) : D.F := (S35_0 D (S33_0 D a3 a0) (S33_1 D a4 a1) (S33_2 D a5 a2))
def S16_4 (D : Dom) (a0 : D.F) (a1 : D.F) (a2 : D.F) (a3 : D.F) (a4 : D.F) (a5 : D.F) : D.B := (S34_3 D (S33_0 D a3 a0) (S33_1 D a4 a1) (S33_2 D a5 a2))
theorem ev16 (D : Dom) (a0 : D.F) (a1 : D.F) (a2 : D.F) (a3 : D.F) (a4 : D.F) (a5 : D.F) : joinT (evFn Try.prog (tbl_34 D) 60 16 [.agg [.fl a0, .fl a1, .fl a2], .agg [.fl a3, .fl a4, .fl a5]]) = .val none (.tup [.agg [.fl (S16_0 D a0 a1 a2 a3 a4 a5), .fl (S16_1 D a0 a1 a2 a3 a4 a5), .fl (S16_2 D a0 a1 a2 a3 a4 a5)], .fl (S16_3 D a0 a1 a2 a3 a4 a5), .sb (S16_4 D a0 a1 a2 a3 a4 a5)]) := by kernel_rfl
def sp16 : Ev.Spec := fun D l => argA l fun c0 r0 => argF c0 fun a0 r1 => argF r1 fun a1 r2 => argF r2 fun a2 r3 => arg0 r3 (argA r0 fun c100 r100 => argF c100 fun a3 r101 => argF r101 fun a4 r102 => argF r102 fun a5 r103 => arg0 r103 (arg0 r100 (.ret (.tup [.agg [.fl (S16_0 D a0 a1 a2 a3 a4 a5), .fl (S16_1 D a0 a1 a2 a3 a4 a5), .fl (S16_2 D a0 a1 a2 a3 a4 a5)], .fl (S16_3 D a0 a1 a2 a3 a4 a5), .sb (S16_4 D a0 a1 a2 a3 a4 a5)]))))
theorem en16 : ∀ l r, (sp16 R l).run = some r → Entry Try.prog 16 l r := by
  intro l r h
  obtain ⟨_, _, h, L0⟩ := argA_inv h
  obtain ⟨x1, _, h, L1⟩ := argF_inv h
  obtain ⟨x2, _, h, L2⟩ := argF_inv h
  obtain ⟨x3, _, h, L3⟩ := argF_inv h
  obtain ⟨h, L4⟩ := arg0_inv h
  obtain ⟨_, _, h, L5⟩ := argA_inv h
  obtain ⟨x6, _, h, L6⟩ := argF_inv h
  obtain ⟨x7, _, h, L7⟩ := argF_inv h
  obtain ⟨x8, _, h, L8⟩ := argF_inv h
  obtain ⟨h, L9⟩ := arg0_inv h
  obtain ⟨h, L10⟩ := arg0_inv h
  cases h
  exact (entry_of prg tok_34 (ev16 R x1 x2 x3 x6 x7 x8) (fun o ho => nomatch ho) rfl).le (L0 _ _ (L1 _ (L2 _ (L3 _ L4))) (L5 _ _ (L6 _ (L7 _ (L8 _ L9))) L10))
def tl_16 : List (Nat × Ev.Spec) := (16, sp16) :: tl_34
def tbl_16 (D : Dom) : Tbl D := tblOf tl_16 D
theorem tok_16 : TblOK Try.prog (tbl_16 R) := TblOK.cons tok_34 en16

-- penumbra/tri.Normal
def S37_0 (D : Dom) (a0 : D.F) (a1 : D.F) (a2 : D.F) (a3 : D.F) (a4 : D.F) (a5 : D.F) (a6 : D.F) (a7 : D.F) (a8 : D.F) : D.F := (S34_0 D (S45_0 D a1 a2 a4 a5 a7 a8) (S45_1 D a0 a2 a3 a5 a6 a8) (S45_2 D a0 a1 a3 a4 a6 a7))
def S37_1 (D : Dom) (a0 : D.F) (a1 : D.F) (a2 : D.F) (a3 : D.F) (a4 : D.F) (a5 : D.F) (a6 : D.F) (a7 : D.F) (a8 : D.F) : D.F := (S34_1 D (S45_0 D a1 a2 a4 a5 a7 a8) (S45_1 D a0 a2 a3 a5 a6 a8) (S45_2 D a0 a1 a3 a4 a6 a7))
def S37_2 (D : Dom) (a0 : D.F) (a1 : D.F) (a2 : D.F) (a3 : D.F) (a4 : D.F) (a5 : D.F) (a6 : D.F) (a7 : D.F) (a8 : D.F) : D.F := (S34_2 D (S45_0 D a1 a2 a4 a5 a7 a8) (S45_1 D a0 a2 a3 a5 a6 a8) (S45_2 D a0 a1 a3 a4 a6 a7))
def S37_3 (D : Dom) (a0 : D.F) (a1 : D.F) (a2 : D.F) (a3 : D.F) (a4 : D.F) (a5 : D.F) (a6 : D.F) (a7 : D.F) (a8 : D.F) : D.B := (S34_3 D (S45_0 D a1 a2 a4 a5 a7 a8) (S45_1 D a0 a2 a3 a5 a6 a8) (S45_2 D a0 a1 a3 a4 a6 a7))
theorem ev37 (D : Dom) (a0 : D.F) (a1 : D.F) (a2 : D.F) (a3 : D.F) (a4 : D.F) (a5 : D.F) (a6 : D.F) (a7 : D.F) (a8 : D.F) : joinT (evFn Try.prog (tbl_16 D) 60 37 [.agg [.fl a0, .fl a1, .fl a2, .fl a3, .fl a4, .fl a5, .fl a6, .fl a7, .fl a8]]) = .val none (.tup [.agg [.fl (S37_0 D a0 a1 a2 a3 a4 a5 a6 a7 a8), .fl (S37_1 D a0 a1 a2 a3 a4 a5 a6 a7 a8), .fl (S37_2 D a0 a1 a2 a3 a4 a5 a6 a7 a8)], .sb (S37_3 D a0 a1 a2 a3 a4 a5 a6 a7 a8)]) := by kernel_rfl
def sp37 : Ev.Spec := fun D l => argA l fun c0 r0 => argF c0 fun a0 r1 => argF r1 fun a1 r2 => argF r2 fun a2 r3 => argF r3 fun a3 r4 => argF r4 fun a4 r5 => argF r5 fun a5 r6 => argF r6 fun a6 r7 => argF r7 fun a7 r8 => argF r8 fun a8 r9 => arg0 r9 (arg0 r0 (.ret (.tup [.agg [.fl (S37_0 D a0 a1 a2 a3 a4 a5 a6 a7 a8), .fl (S37_1 D a0 a1 a2 a3 a4 a5 a6 a7 a8), .fl (S37_2 D a0 a1 a2 a3 a4 a5 a6 a7 a8)], .sb (S37_3 D a0 a1 a2 a3 a4 a5 a6 a7 a8)])))
theorem en37 : ∀ l r, (sp37 R l).run = some r → Entry Try.prog 37 l r := by
  intro l r h
  obtain ⟨_, _, h, L0⟩ := argA_inv h
  obtain ⟨x1, _, h, L1⟩ := argF_inv h
  obtain ⟨x2, _, h, L2⟩ := argF_inv h
  obtain ⟨x3, _, h, L3⟩ := argF_inv h
  obtain ⟨x4, _, h, L4⟩ := argF_inv h
  obtain ⟨x5, _, h, L5⟩ := argF_inv h
  obtain ⟨x6, _, h, L6⟩ := argF_inv h
  obtain ⟨x7, _, h, L7⟩ := argF_inv h
  obtain ⟨x8, _, h, L8⟩ := argF_inv h
  obtain ⟨x9, _, h, L9⟩ := argF_inv h
  obtain ⟨h, L10⟩ := arg0_inv h
  obtain ⟨h, L11⟩ := arg0_inv h
  cases h
  exact (entry_of prg tok_16 (ev37 R x1 x2 x3 x4 x5 x6 x7 x8 x9) (fun o ho => nomatch ho) rfl).le (L0 _ _ (L1 _ (L2 _ (L3 _ (L4 _ (L5 _ (L6 _ (L7 _ (L8 _ (L9 _ L10))))))))) L11)
def tl_37 : List (Nat × Ev.Spec) := (37, sp37) :: tl_16
def tbl_37 (D : Dom) : Tbl D := tblOf tl_37 D
theorem tok_37 : TblOK Try.prog (tbl_37 R) := TblOK.cons tok_16 en37

-- penumbra/area.Cosine
def S21_0 (D : Dom) (a0 : D.F) (a1 : D.F) (a2 : D.F) (a3 : D.F) (a4 : D.F) (a5 : D.F) (a6 : D.F) (a7 : D.F) (a8 : D.F) (a9 : D.F) (a10 : D.F) (a11 : D.F) (a12 : D.F) (a13 : D.F) (a14 : D.F) : D.F := (D.fite (D.bite (D.bnot (S16_4 D a9 a10 a11 a12 a13 a14)) (D.bc true) (D.bnot (S37_3 D a0 a1 a2 a3 a4 a5 a6 a7 a8))) (D.fc 0) (D.fsub (D.fc 0) (S38_0 D (S16_0 D a9 a10 a11 a12 a13 a14) (S16_1 D a9 a10 a11 a12 a13 a14) (S16_2 D a9 a10 a11 a12 a13 a14) (S37_0 D a0 a1 a2 a3 a4 a5 a6 a7 a8) (S37_1 D a0 a1 a2 a3 a4 a5 a6 a7 a8) (S37_2 D a0 a1 a2 a3 a4 a5 a6 a7 a8))))
theorem ev21 (D : Dom) (a0 : D.F) (a1 : D.F) (a2 : D.F) (a3 : D.F) (a4 : D.F) (a5 : D.F) (a6 : D.F) (a7 : D.F) (a8 : D.F) (a9 : D.F) (a10 : D.F) (a11 : D.F) (a12 : D.F) (a13 : D.F) (a14 : D.F) : joinT (evFn Try.prog (tbl_37 D) 60 21 [.agg [.fl a0, .fl a1, .fl a2, .fl a3, .fl a4, .fl a5, .fl a6, .fl a7, .fl a8], .agg [.fl a9, .fl a10, .fl a11], .agg [.fl a12, .fl a13, .fl a14]]) = .val none (.fl (S21_0 D a0 a1 a2 a3 a4 a5 a6 a7 a8 a9 a10 a11 a12 a13 a14)) := by kernel_rfl
def sp21 : Ev.Spec := fun D l => argA l fun c0 r0 => argF c0 fun a0 r1 => argF r1 fun a1 r2 => argF r2 fun a2 r3 => argF r3 fun a3 r4 => argF r4 fun a4 r5 => argF r5 fun a5 r6 => argF r6 fun a6 r7 => argF r7 fun a7 r8 => argF r8 fun a8 r9 => arg0 r9 (argA r0 fun c100 r100 => argF c100 fun a9 r101 => argF r101 fun a10 r102 => argF r102 fun a11 r103 => arg0 r103 (argA r100 fun c200 r200 => argF c200 fun a12 r201 => argF r201 fun a13 r202 => argF r202 fun a14 r203 => arg0 r203 (arg0 r200 (.ret (.fl (S21_0 D a0 a1 a2 a3 a4 a5 a6 a7 a8 a9 a10 a11 a12 a13 a14))))))
theorem en21 : ∀ l r, (sp21 R l).run = some r → Entry Try.prog 21 l r := by
  intro l r h
  obtain ⟨_, _, h, L0⟩ := argA_inv h
  obtain ⟨x1, _, h, L1⟩ := argF_inv h
  obtain ⟨x2, _, h, L2⟩ := argF_inv h
  obtain ⟨x3, _, h, L3⟩ := argF_inv h
  obtain ⟨x4, _, h, L4⟩ := argF_inv h
  obtain ⟨x5, _, h, L5⟩ := argF_inv h
  obtain ⟨x6, _, h, L6⟩ := argF_inv h
  obtain ⟨x7, _, h, L7⟩ := argF_inv h
  obtain ⟨x8, _, h, L8⟩ := argF_inv h
  obtain ⟨x9, _, h, L9⟩ := argF_inv h
  obtain ⟨h, L10⟩ := arg0_inv h
  obtain ⟨_, _, h, L11⟩ := argA_inv h
  obtain ⟨x12, _, h, L12⟩ := argF_inv h
  obtain ⟨x13, _, h, L13⟩ := argF_inv h
  obtain ⟨x14, _, h, L14⟩ := argF_inv h
  obtain ⟨h, L15⟩ := arg0_inv h
  obtain ⟨_, _, h, L16⟩ := argA_inv h
  obtain ⟨x17, _, h, L17⟩ := argF_inv h
  obtain ⟨x18, _, h, L18⟩ := argF_inv h
  obtain ⟨x19, _, h, L19⟩ := argF_inv h
  obtain ⟨h, L20⟩ := arg0_inv h
  obtain ⟨h, L21⟩ := arg0_inv h
  cases h
  exact (entry_of prg tok_37 (ev21 R x1 x2 x3 x4 x5 x6 x7 x8 x9 x12 x13 x14 x17 x18 x19) (fun o ho => nomatch ho) rfl).le (L0 _ _ (L1 _ (L2 _ (L3 _ (L4 _ (L5 _ (L6 _ (L7 _ (L8 _ (L9 _ L10))))))))) (L11 _ _ (L12 _ (L13 _ (L14 _ L15))) (L16 _ _ (L17 _ (L18 _ (L19 _ L20))) L21)))
def tl_21 : List (Nat × Ev.Spec) := (21, sp21) :: tl_37
def tbl_21 (D : Dom) : Tbl D := tblOf tl_21 D
theorem tok_21 : TblOK Try.prog (tbl_21 R) := TblOK.cons tok_37 en21

-- penumbra/area.Solid
def S20_0 (D : Dom) (a0 : D.F) (a1 : D.F) (a2 : D.F) (a3 : D.F) (a4 : D.F) (a5 : D.F) (a6 : D.F) (a7 : D.F) (a8 : D.F) (a9 : D.F) (a10 : D.F) (a11 : D.F) (a12 : D.F) (a13 : D.F) (a14 : D.F) : D.F := (D.fite (D.bnot (D.fgt (S21_0 D a0 a1 a2 a3 a4 a5 a6 a7 a8 a9 a10 a11 a12 a13 a14) (D.fc 0))) (D.fc 0) (S31_0 D (D.fdiv (D.fmul (S14_0 D a0 a1 a2 a3 a4 a5 a6 a7 a8) (S16_3 D a9 a10 a11 a12 a13 a14)) (S21_0 D a0 a1 a2 a3 a4 a5 a6 a7 a8 a9 a10 a11 a12 a13 a14))))
theorem ev20 (D : Dom) (a0 : D.F) (a1 : D.F) (a2 : D.F) (a3 : D.F) (a4 : D.F) (a5 : D.F) (a6 : D.F) (a7 : D.F) (a8 : D.F) (a9 : D.F) (a10 : D.F) (a11 : D.F) (a12 : D.F) (a13 : D.F) (a14 : D.F) : joinT (evFn Try.prog (tbl_21 D) 60 20 [.agg [.fl a0, .fl a1, .fl a2, .fl a3, .fl a4, .fl a5, .fl a6, .fl a7, .fl a8], .agg [.fl a9, .fl a10, .fl a11], .agg [.fl a12, .fl a13, .fl a14]]) = .val none (.fl (S20_0 D a0 a1 a2 a3 a4 a5 a6 a7 a8 a9 a10 a11 a12 a13 a14)) := by kernel_rfl
def sp20 : Ev.Spec := fun D l => argA l fun c0 r0 => argF c0 fun a0 r1 => argF r1 fun a1 r2 => argF r2 fun a2 r3 => argF r3 fun a3 r4 => argF r4 fun a4 r5 => argF r5 fun a5 r6 => argF r6 fun a6 r7 => argF r7 fun a7 r8 => argF r8 fun a8 r9 => arg0 r9 (argA r0 fun c100 r100 => argF c100 fun a9 r101 => argF r101 fun a10 r102 => argF r102 fun a11 r103 => arg0 r103 (argA r100 fun c200 r200 => argF c200 fun a12 r201 => argF r201 fun a13 r202 => argF r202 fun a14 r203 => arg0 r203 (arg0 r200 (.ret (.fl (S20_0 D a0 a1 a2 a3 a4 a5 a6 a7 a8 a9 a10 a11 a12 a13 a14))))))
theorem en20 : ∀ l r, (sp20 R l).run = some r → Entry Try.prog 20 l r := by
  intro l r h
  obtain ⟨_, _, h, L0⟩ := argA_inv h
  obtain ⟨x1, _, h, L1⟩ := argF_inv h
  obtain ⟨x2, _, h, L2⟩ := argF_inv h
  obtain ⟨x3, _, h, L3⟩ := argF_inv h
  obtain ⟨x4, _, h, L4⟩ := argF_inv h
  obtain ⟨x5, _, h, L5⟩ := argF_inv h
  obtain ⟨x6, _, h, L6⟩ := argF_inv h
  obtain ⟨x7, _, h, L7⟩ := argF_inv h
  obtain ⟨x8, _, h, L8⟩ := argF_inv h
  obtain ⟨x9, _, h, L9⟩ := argF_inv h
  obtain ⟨h, L10⟩ := arg0_inv h
  obtain ⟨_, _, h, L11⟩ := argA_inv h
  obtain ⟨x12, _, h, L12⟩ := argF_inv h
  obtain ⟨x13, _, h, L13⟩ := argF_inv h
  obtain ⟨x14, _, h, L14⟩ := argF_inv h
  obtain ⟨h, L15⟩ := arg0_inv h
  obtain ⟨_, _, h, L16⟩ := argA_inv h
  obtain ⟨x17, _, h, L17⟩ := argF_inv h
  obtain ⟨x18, _, h, L18⟩ := argF_inv h
  obtain ⟨x19, _, h, L19⟩ := argF_inv h
  obtain ⟨h, L20⟩ := arg0_inv h
  obtain ⟨h, L21⟩ := arg0_inv h
  cases h
  exact (entry_of prg tok_21 (ev20 R x1 x2 x3 x4 x5 x6 x7 x8 x9 x12 x13 x14 x17 x18 x19) (fun o ho => nomatch ho) rfl).le (L0 _ _ (L1 _ (L2 _ (L3 _ (L4 _ (L5 _ (L6 _ (L7 _ (L8 _ (L9 _ L10))))))))) (L11 _ _ (L12 _ (L13 _ (L14 _ L15))) (L16 _ _ (L17 _ (L18 _ (L19 _ L20))) L21)))
def tl_20 : List (Nat × Ev.Spec) := (20, sp20) :: tl_21
def tbl_20 (D : Dom) : Tbl D := tblOf tl_20 D
theorem tok_20 : TblOK Try.prog (tbl_20 R) := TblOK.cons tok_21 en20

-- penumbra/area.Front
def S26_0 (D : Dom) (a0 : D.F) (a1 : D.F) (a2 : D.F) (a3 : D.F) (a4 : D.F) (a5 : D.F) (a6 : D.F) (a7 : D.F) (a8 : D.F) (a9 : D.F) (a10 : D.F) (a11 : D.F) : D.B := (D.bite (S37_3 D a0 a1 a2 a3 a4 a5 a6 a7 a8) (D.fgt (S38_0 D (S37_0 D a0 a1 a2 a3 a4 a5 a6 a7 a8) (S37_1 D a0 a1 a2 a3 a4 a5 a6 a7 a8) (S37_2 D a0 a1 a2 a3 a4 a5 a6 a7 a8) (S33_0 D a9 a0) (S33_1 D a10 a1) (S33_2 D a11 a2)) (D.fc 0)) (D.bc false))
theorem ev26 (D : Dom) (a0 : D.F) (a1 : D.F) (a2 : D.F) (a3 : D.F) (a4 : D.F) (a5 : D.F) (a6 : D.F) (a7 : D.F) (a8 : D.F) (a9 : D.F) (a10 : D.F) (a11 : D.F) : joinT (evFn Try.prog (tbl_20 D) 60 26 [.agg [.fl a0, .fl a1, .fl a2, .fl a3, .fl a4, .fl a5, .fl a6, .fl a7, .fl a8], .agg [.fl a9, .fl a10, .fl a11]]) = .val none (.sb (S26_0 D a0 a1 a2 a3 a4 a5 a6 a7 a8 a9 a10 a11)) := by kernel_rfl
def sp26 : Ev.Spec := fun D l => argA l fun c0 r0 => argF c0 fun a0 r1 => argF r1 fun a1 r2 => argF r2 fun a2 r3 => argF r3 fun a3 r4 => argF r4 fun a4 r5 => argF r5 fun a5 r6 => argF r6 fun a6 r7 => argF r7 fun a7 r8 => argF r8 fun a8 r9 => arg0 r9 (argA r0 fun c100 r100 => argF c100 fun a9 r101 => argF r101 fun a10 r102 => argF r102 fun a11 r103 => arg0 r103 (arg0 r100 (.ret (.sb (S26_0 D a0 a1 a2 a3 a4 a5 a6 a7 a8 a9 a10 a11)))))
theorem en26 : ∀ l r, (sp26 R l).run = some r → Entry Try.prog 26 l r := by
  intro l r h
  obtain ⟨_, _, h, L0⟩ := argA_inv h
  obtain ⟨x1, _, h, L1⟩ := argF_inv h
  obtain ⟨x2, _, h, L2⟩ := argF_inv h
  obtain ⟨x3, _, h, L3⟩ := argF_inv h
  obtain ⟨x4, _, h, L4⟩ := argF_inv h
  obtain ⟨x5, _, h, L5⟩ := argF_inv h
  obtain ⟨x6, _, h, L6⟩ := argF_inv h
  obtain ⟨x7, _, h, L7⟩ := argF_inv h
  obtain ⟨x8, _, h, L8⟩ := argF_inv h
  obtain ⟨x9, _, h, L9⟩ := argF_inv h
  obtain ⟨h, L10⟩ := arg0_inv h
  obtain ⟨_, _, h, L11⟩ := argA_inv h
  obtain ⟨x12, _, h, L12⟩ := argF_inv h
  obtain ⟨x13, _, h, L13⟩ := argF_inv h
  obtain ⟨x14, _, h, L14⟩ := argF_inv h
  obtain ⟨h, L15⟩ := arg0_inv h
  obtain ⟨h, L16⟩ := arg0_inv h
  cases h
  exact (entry_of prg tok_20 (ev26 R x1 x2 x3 x4 x5 x6 x7 x8 x9 x12 x13 x14) (fun o ho => nomatch ho) rfl).le (L0 _ _ (L1 _ (L2 _ (L3 _ (L4 _ (L5 _ (L6 _ (L7 _ (L8 _ (L9 _ L10))))))))) (L11 _ _ (L12 _ (L13 _ (L14 _ L15))) L16))
def tl_26 : List (Nat × Ev.Spec) := (26, sp26) :: tl_20
def tbl_26 (D : Dom) : Tbl D := tblOf tl_26 D
theorem tok_26 : TblOK Try.prog (tbl_26 R) := TblOK.cons tok_20 en26

-- penumbra/tape.Clean
def S40_0 (D : Dom) (a0 : D.F) : D.F := (D.fite (D.bite (D.fge a0 (D.fc 0)) (D.flt a0 (D.fc 4607182418800017408)) (D.bc false)) a0 (D.fc 0))
theorem ev40 (D : Dom) (a0 : D.F) : joinT (evFn Try.prog (tbl_26 D) 60 40 [.fl a0]) = .val none (.fl (S40_0 D a0)) := by kernel_rfl
def sp40 : Ev.Spec := fun D l => argF l fun a0 r0 => arg0 r0 (.ret (.fl (S40_0 D a0)))
theorem en40 : ∀ l r, (sp40 R l).run = some r → Entry Try.prog 40 l r := by
  intro l r h
  obtain ⟨x0, _, h, L0⟩ := argF_inv h
  obtain ⟨h, L1⟩ := arg0_inv h
  cases h
  exact (entry_of prg tok_26 (ev40 R x0) (fun o ho => nomatch ho) rfl).le (L0 _ L1)
def tl_40 : List (Nat × Ev.Spec) := (40, sp40) :: tl_26
def tbl_40 (D : Dom) : Tbl D := tblOf tl_40 D
theorem tok_40 : TblOK Try.prog (tbl_40 R) := TblOK.cons tok_26 en40

-- penumbra/warp.Bary
def S28_0 (D : Dom) (a0 : D.F) : D.F := (D.fsub (D.fc 4607182418800017408) (S6_0 D (S40_0 D a0)))
def S28_1 (D : Dom) (a0 : D.F) (a1 : D.F) : D.F := (D.fmul (S6_0 D (S40_0 D a0)) (D.fsub (D.fc 4607182418800017408) (S40_0 D a1)))
def S28_2 (D : Dom) (a0 : D.F) (a1 : D.F) : D.F := (D.fmul (S6_0 D (S40_0 D a0)) (S40_0 D a1))
theorem ev28 (D : Dom) (a0 : D.F) (a1 : D.F) : joinT (evFn Try.prog (tbl_40 D) 60 28 [.fl a0, .fl a1]) = .val none (.tup [.fl (S28_0 D a0), .fl (S28_1 D a0 a1), .fl (S28_2 D a0 a1)]) := by kernel_rfl
def sp28 : Ev.Spec := fun D l => argF l fun a0 r0 => argF r0 fun a1 r1 => arg0 r1 (.ret (.tup [.fl (S28_0 D a0), .fl (S28_1 D a0 a1), .fl (S28_2 D a0 a1)]))
theorem en28 : ∀ l r, (sp28 R l).run = some r → Entry Try.prog 28 l r := by
  intro l r h
  obtain ⟨x0, _, h, L0⟩ := argF_inv h
  obtain ⟨x1, _, h, L1⟩ := argF_inv h
  obtain ⟨h, L2⟩ := arg0_inv h
  cases h
  exact (entry_of prg tok_40 (ev28 R x0 x1) (fun o ho => nomatch ho) rfl).le (L0 _ (L1 _ L2))
def tl_28 : List (Nat × Ev.Spec) := (28, sp28) :: tl_40
def tbl_28 (D : Dom) : Tbl D := tblOf tl_28 D
theorem tok_28 : TblOK Try.prog (tbl_28 R) := TblOK.cons tok_40 en28

-- penumbra/vec.Scale
def S43_0 (D : Dom) (a0 : D.F) (a3 : D.F) : D.F := (S49_0 D a0 a3)
def S43_1 (D : Dom) (a1 : D.F) (a3 : D.F) : D.F := (S49_1 D a1 a3)
def S43_2 (D : Dom) (a2 : D.F) (a3 : D.F) : D.F := (S49_2 D a2 a3)
theorem ev43 (D : Dom) (a0 : D.F) (a1 : D.F) (a2 : D.F) (a3 : D.F) : joinT (evFn Try.prog (tbl_28 D) 60 43 [.agg [.fl a0, .fl a1, .fl a2], .fl a3]) = .val none (.agg [.fl (S43_0 D a0 a3), .fl (S43_1 D a1 a3), .fl (S43_2 D a2 a3)]) := by kernel_rfl
def sp43 : Ev.Spec := fun D l => argA l fun c0 r0 => argF c0 fun a0 r1 => argF r1 fun a1 r2 => argF r2 fun a2 r3 => arg0 r3 (argF r0 fun a3 r100 => arg0 r100 (.ret (.agg [.fl (S43_0 D a0 a3), .fl (S43_1 D a1 a3), .fl (S43_2 D a2 a3)])))
theorem en43 : ∀ l r, (sp43 R l).run = some r → Entry Try.prog 43 l r := by
  intro l r h
  obtain ⟨_, _, h, L0⟩ := argA_inv h
  obtain ⟨x1, _, h, L1⟩ := argF_inv h
  obtain ⟨x2, _, h, L2⟩ := argF_inv h
  obtain ⟨x3, _, h, L3⟩ := argF_inv h
  obtain ⟨h, L4⟩ := arg0_inv h
  obtain ⟨x5, _, h, L5⟩ := argF_inv h
  obtain ⟨h, L6⟩ := arg0_inv h
  cases h
  exact (entry_of prg tok_28 (ev43 R x1 x2 x3 x5) (fun o ho => nomatch ho) rfl).le (L0 _ _ (L1 _ (L2 _ (L3 _ L4))) (L5 _ L6))
def tl_43 : List (Nat × Ev.Spec) := (43, sp43) :: tl_28
def tbl_43 (D : Dom) : Tbl D := tblOf tl_43 D
theorem tok_43 : TblOK Try.prog (tbl_43 R) := TblOK.cons tok_28 en43

-- penumbra/vec.Add$1
def S51_0 (D : Dom) (a0 : D.F) (a1 : D.F) : D.F := (D.fadd a0 a1)
theorem ev51 (D : Dom) (a0 : D.F) (a1 : D.F) : joinT (evFn Try.prog (tbl_43 D) 60 51 [.fl a0, .fl a1]) = .val none (.fl (S51_0 D a0 a1)) := by kernel_rfl
def sp51 : Ev.Spec := fun D l => argF l fun a0 r0 => argF r0 fun a1 r1 => arg0 r1 (.ret (.fl (S51_0 D a0 a1)))
theorem en51 : ∀ l r, (sp51 R l).run = some r → Entry Try.prog 51 l r := by
  intro l r h
  obtain ⟨x0, _, h, L0⟩ := argF_inv h
  obtain ⟨x1, _, h, L1⟩ := argF_inv h
  obtain ⟨h, L2⟩ := arg0_inv h
  cases h
  exact (entry_of prg tok_43 (ev51 R x0 x1) (fun o ho => nomatch ho) rfl).le (L0 _ (L1 _ L2))
def tl_51 : List (Nat × Ev.Spec) := (51, sp51) :: tl_43
def tbl_51 (D : Dom) : Tbl D := tblOf tl_51 D
theorem tok_51 : TblOK Try.prog (tbl_51 R) := TblOK.cons tok_43 en51

-- penumbra/vec.Add
def S42_0 (D : Dom) (a0 : D.F) (a3 : D.F) : D.F := (S51_0 D a0 a3)
def S42_1 (D : Dom) (a1 : D.F) (a4 : D.F) : D.F := (S51_0 D a1 a4)
def S42_2 (D : Dom) (a2 : D.F) (a5 : D.F) : D.F := (S51_0 D a2 a5)
theorem ev42 (D : Dom) (a0 : D.F) (a1 : D.F) (a2 : D.F) (a3 : D.F) (a4 : D.F) (a5 : D.F) : joinT (evFn Try.prog (tbl_51 D) 60 42 [.agg [.fl a0, .fl a1, .fl a2], .agg [.fl a3, .fl a4, .fl a5]]) = .val none (.agg [.fl (S42_0 D a0 a3), .fl (S42_1 D a1 a4), .fl (S42_2 D a2 a5)]) := by kernel_rfl
def sp42 : Ev.Spec := fun D l => argA l fun c0 r0 => argF c0 fun a0 r1 => argF r1 fun a1 r2 => argF r2 fun a2 r3 => arg0 r3 (argA r0 fun c100 r100 => argF c100 fun a3 r101 => argF r101 fun a4 r102 => argF r102 fun a5 r103 => arg0 r103 (arg0 r100 (.ret (.agg [.fl (S42_0 D a0 a3), .fl (S42_1 D a1 a4), .fl (S42_2 D a2 a5)]))))
theorem en42 : ∀ l r, (sp42 R l).run = some r → Entry Try.prog 42 l r := by
  intro l r h
  obtain ⟨_, _, h, L0⟩ := argA_inv h
  obtain ⟨x1, _, h, L1⟩ := argF_inv h
  obtain ⟨x2, _, h, L2⟩ := argF_inv h
  obtain ⟨x3, _, h, L3⟩ := argF_inv h
  obtain ⟨h, L4⟩ := arg0_inv h
  obtain ⟨_, _, h, L5⟩ := argA_inv h
  obtain ⟨x6, _, h, L6⟩ := argF_inv h
  obtain ⟨x7, _, h, L7⟩ := argF_inv h
  obtain ⟨x8, _, h, L8⟩ := argF_inv h
  obtain ⟨h, L9⟩ := arg0_inv h
  obtain ⟨h, L10⟩ := arg0_inv h
  cases h
  exact (entry_of prg tok_51 (ev42 R x1 x2 x3 x6 x7 x8) (fun o ho => nomatch ho) rfl).le (L0 _ _ (L1 _ (L2 _ (L3 _ L4))) (L5 _ _ (L6 _ (L7 _ (L8 _ L9))) L10))
def tl_42 : List (Nat × Ev.Spec) := (42, sp42) :: tl_51
def tbl_42 (D : Dom) : Tbl D := tblOf tl_42 D
theorem tok_42 : TblOK Try.prog (tbl_42 R) := TblOK.cons tok_51 en42

-- penumbra/tri.At
def S29_0 (D : Dom) (a0 : D.F) (a3 : D.F) (a6 : D.F) (a9 : D.F) (a10 : D.F) : D.F := (S42_0 D (S42_0 D a0 (S43_0 D (S41_0 D a0 a3) a9)) (S43_0 D (S41_3 D a0 a6) a10))
def S29_1 (D : Dom) (a1 : D.F) (a4 : D.F) (a7 : D.F) (a9 : D.F) (a10 : D.F) : D.F := (S42_1 D (S42_1 D a1 (S43_1 D (S41_1 D a1 a4) a9)) (S43_1 D (S41_4 D a1 a7) a10))
def S29_2 (D : Dom) (a2 : D.F) (a5 : D.F) (a8 : D.F) (a9 : D.F) (a10 : D.F) : D.F := (S42_2 D (S42_2 D a2 (S43_2 D (S41_2 D a2 a5) a9)) (S43_2 D (S41_5 D a2 a8) a10))
theorem ev29 (D : Dom) (a0 : D.F) (a1 : D.F) (a2 : D.F) (a3 : D.F) (a4 : D.F) (a5 : D.F) (a6 : D.F) (a7 : D.F) (a8 : D.F) (a9 : D.F) (a10 : D.F) : joinT (evFn Try.prog (tbl_42 D) 60 29 [.agg [.fl a0, .fl a1, .fl a2, .fl a3, .fl a4, .fl a5, .fl a6, .fl a7, .fl a8], .fl a9, .fl a10]) = .val none (.agg [.fl (S29_0 D a0 a3 a6 a9 a10), .fl (S29_1 D a1 a4 a7 a9 a10), .fl (S29_2 D a2 a5 a8 a9 a10)]) := by kernel_rfl
def sp29 : Ev.Spec := fun D l => argA l fun c0 r0 => argF c0 fun a0 r1 => argF r1 fun a1 r2 => argF r2 fun a2 r3 => argF r3 fun a3 r4 => argF r4 fun a4 r5 => argF r5 fun a5 r6 => argF r6 fun a6 r7 => argF r7 fun a7 r8 => argF r8 fun a8 r9 => arg0 r9 (argF r0 fun a9 r100 => argF r100 fun a10 r101 => arg0 r101 (.ret (.agg [.fl (S29_0 D a0 a3 a6 a9 a10), .fl (S29_1 D a1 a4 a7 a9 a10), .fl (S29_2 D a2 a5 a8 a9 a10)])))
theorem en29 : ∀ l r, (sp29 R l).run = some r → Entry Try.prog 29 l r := by
  intro l r h
  obtain ⟨_, _, h, L0⟩ := argA_inv h
  obtain ⟨x1, _, h, L1⟩ := argF_inv h
  obtain ⟨x2, _, h, L2⟩ := argF_inv h
  obtain ⟨x3, _, h, L3⟩ := argF_inv h
  obtain ⟨x4, _, h, L4⟩ := argF_inv h
  obtain ⟨x5, _, h, L5⟩ := argF_inv h
  obtain ⟨x6, _, h, L6⟩ := argF_inv h
  obtain ⟨x7, _, h, L7⟩ := argF_inv h
  obtain ⟨x8, _, h, L8⟩ := argF_inv h
  obtain ⟨x9, _, h, L9⟩ := argF_inv h
  obtain ⟨h, L10⟩ := arg0_inv h
  obtain ⟨x11, _, h, L11⟩ := argF_inv h
  obtain ⟨x12, _, h, L12⟩ := argF_inv h
  obtain ⟨h, L13⟩ := arg0_inv h
  cases h
  exact (entry_of prg tok_42 (ev29 R x1 x2 x3 x4 x5 x6 x7 x8 x9 x11 x12) (fun o ho => nomatch ho) rfl).le (L0 _ _ (L1 _ (L2 _ (L3 _ (L4 _ (L5 _ (L6 _ (L7 _ (L8 _ (L9 _ L10))))))))) (L11 _ (L12 _ L13)))
def tl_29 : List (Nat × Ev.Spec) := (29, sp29) :: tl_42
def tbl_29 (D : Dom) : Tbl D := tblOf tl_29 D
theorem tok_29 : TblOK Try.prog (tbl_29 R) := TblOK.cons tok_42 en29

-- penumbra/area.Point
def S13_0 (D : Dom) (a0 : D.F) (a3 : D.F) (a6 : D.F) (a9 : D.F) (a10 : D.F) : D.F := (S29_0 D a0 a3 a6 (S28_1 D a9 a10) (S28_2 D a9 a10))
def S13_1 (D : Dom) (a1 : D.F) (a4 : D.F) (a7 : D.F) (a9 : D.F) (a10 : D.F) : D.F := (S29_1 D a1 a4 a7 (S28_1 D a9 a10) (S28_2 D a9 a10))
def S13_2 (D : Dom) (a2 : D.F) (a5 : D.F) (a8 : D.F) (a9 : D.F) (a10 : D.F) : D.F := (S29_2 D a2 a5 a8 (S28_1 D a9 a10) (S28_2 D a9 a10))
theorem ev13 (D : Dom) (a0 : D.F) (a1 : D.F) (a2 : D.F) (a3 : D.F) (a4 : D.F) (a5 : D.F) (a6 : D.F) (a7 : D.F) (a8 : D.F) (a9 : D.F) (a10 : D.F) : joinT (evFn Try.prog (tbl_29 D) 60 13 [.agg [.fl a0, .fl a1, .fl a2, .fl a3, .fl a4, .fl a5, .fl a6, .fl a7, .fl a8], .fl a9, .fl a10]) = .val none (.agg [.fl (S13_0 D a0 a3 a6 a9 a10), .fl (S13_1 D a1 a4 a7 a9 a10), .fl (S13_2 D a2 a5 a8 a9 a10)]) := by kernel_rfl
def sp13 : Ev.Spec := fun D l => argA l fun c0 r0 => argF c0 fun a0 r1 => argF r1 fun a1 r2 => argF r2 fun a2 r3 => argF r3 fun a3 r4 => argF r4 fun a4 r5 => argF r5 fun a5 r6 => argF r6 fun a6 r7 => argF r7 fun a7 r8 => argF r8 fun a8 r9 => arg0 r9 (argF r0 fun a9 r100 => argF r100 fun a10 r101 => arg0 r101 (.ret (.agg [.fl (S13_0 D a0 a3 a6 a9 a10), .fl (S13_1 D a1 a4 a7 a9 a10), .fl (S13_2 D a2 a5 a8 a9 a10)])))
theorem en13 : ∀ l r, (sp13 R l).run = some r → Entry Try.prog 13 l r := by
  intro l r h
  obtain ⟨_, _, h, L0⟩ := argA_inv h
  obtain ⟨x1, _, h, L1⟩ := argF_inv h
  obtain ⟨x2, _, h, L2⟩ := argF_inv h
  obtain ⟨x3, _, h, L3⟩ := argF_inv h
  obtain ⟨x4, _, h, L4⟩ := argF_inv h
  obtain ⟨x5, _, h, L5⟩ := argF_inv h
  obtain ⟨x6, _, h, L6⟩ := argF_inv h
  obtain ⟨x7, _, h, L7⟩ := argF_inv h
  obtain ⟨x8, _, h, L8⟩ := argF_inv h
  obtain ⟨x9, _, h, L9⟩ := argF_inv h
  obtain ⟨h, L10⟩ := arg0_inv h
  obtain ⟨x11, _, h, L11⟩ := argF_inv h
  obtain ⟨x12, _, h, L12⟩ := argF_inv h
  obtain ⟨h, L13⟩ := arg0_inv h
  cases h
  exact (entry_of prg tok_29 (ev13 R x1 x2 x3 x4 x5 x6 x7 x8 x9 x11 x12) (fun o ho => nomatch ho) rfl).le (L0 _ _ (L1 _ (L2 _ (L3 _ (L4 _ (L5 _ (L6 _ (L7 _ (L8 _ (L9 _ L10))))))))) (L11 _ (L12 _ L13)))
def tl_13 : List (Nat × Ev.Spec) := (13, sp13) :: tl_29
def tbl_13 (D : Dom) : Tbl D := tblOf tl_13 D
theorem tok_13 : TblOK Try.prog (tbl_13 R) := TblOK.cons tok_29 en13

-- penumbra/penumbralaw11.awake
def S11_0 (D : Dom)  : D.B := (D.bite (D.feq (S14_0 D (D.fc 0) (D.fc 0) (D.fc 0) (D.fc 4607182418800017408) (D.fc 0) (D.fc 0) (D.fc 0) (D.fc 4607182418800017408) (D.fc 0)) (D.fc 4611686018427387904)) (D.bite (D.feq (S21_0 D (D.fc 0) (D.fc 0) (D.fc 0) (D.fc 4607182418800017408) (D.fc 0) (D.fc 0) (D.fc 0) (D.fc 4607182418800017408) (D.fc 0) (D.fc 0) (D.fc 0) (D.fc 4611686018427387904) (D.fc 0) (D.fc 0) (D.fc 0)) (D.fc 4607182418800017408)) (D.bite (D.feq (S20_0 D (D.fc 0) (D.fc 0) (D.fc 0) (D.fc 4607182418800017408) (D.fc 0) (D.fc 0) (D.fc 0) (D.fc 4607182418800017408) (D.fc 0) (D.fc 0) (D.fc 0) (D.fc 4611686018427387904) (D.fc 0) (D.fc 0) (D.fc 0)) (D.fc 4620693217682128896)) (D.bite (S26_0 D (D.fc 0) (D.fc 0) (D.fc 0) (D.fc 4607182418800017408) (D.fc 0) (D.fc 0) (D.fc 0) (D.fc 4607182418800017408) (D.fc 0) (D.fc 0) (D.fc 0) (D.fc 4611686018427387904)) (D.band (D.feq (S13_0 D (D.fc 0) (D.fc 4607182418800017408) (D.fc 0) (D.fc 0) (D.fc 4602678819172646912)) (D.fc 0)) (D.band (D.feq (S13_1 D (D.fc 0) (D.fc 0) (D.fc 4607182418800017408) (D.fc 0) (D.fc 4602678819172646912)) (D.fc 0)) (D.band (D.feq (S13_2 D (D.fc 0) (D.fc 0) (D.fc 0) (D.fc 0) (D.fc 4602678819172646912)) (D.fc 0)) (D.bc true)))) (D.bc false)) (D.bc false)) (D.bc false)) (D.bc false))
theorem ev11 (D : Dom)  : joinT (evFn Try.prog (tbl_13 D) 60 11 []) = .val none (.sb (S11_0 D)) := by kernel_rfl
def sp11 : Ev.Spec := fun D l => arg0 l (.ret (.sb (S11_0 D)))
theorem en11 : ∀ l r, (sp11 R l).run = some r → Entry Try.prog 11 l r := by
  intro l r h
  obtain ⟨h, L0⟩ := arg0_inv h
  cases h
  exact (entry_of prg tok_13 (ev11 R ) (fun o ho => nomatch ho) rfl).le L0
def tl_11 : List (Nat × Ev.Spec) := (11, sp11) :: tl_13
def tbl_11 (D : Dom) : Tbl D := tblOf tl_11 D
theorem tok_11 : TblOK Try.prog (tbl_11 R) := TblOK.cons tok_13 en11

-- penumbra/penumbraref02.Same
def S18_0 (D : Dom) (a0 : D.F) (a1 : D.F) : D.B := (D.bite (D.feq a0 a1) (D.bc true) (D.bite (D.bnot (D.feq a0 a0)) (D.bnot (D.feq a1 a1)) (D.bc false)))
theorem ev18 (D : Dom) (a0 : D.F) (a1 : D.F) : joinT (evFn Try.prog (tbl_11 D) 60 18 [.fl a0, .fl a1]) = .val none (.sb (S18_0 D a0 a1)) := by kernel_rfl
def sp18 : Ev.Spec := fun D l => argF l fun a0 r0 => argF r0 fun a1 r1 => arg0 r1 (.ret (.sb (S18_0 D a0 a1)))
theorem en18 : ∀ l r, (sp18 R l).run = some r → Entry Try.prog 18 l r := by
  intro l r h
  obtain ⟨x0, _, h, L0⟩ := argF_inv h
  obtain ⟨x1, _, h, L1⟩ := argF_inv h
  obtain ⟨h, L2⟩ := arg0_inv h
  cases h
  exact (entry_of prg tok_11 (ev18 R x0 x1) (fun o ho => nomatch ho) rfl).le (L0 _ (L1 _ L2))
def tl_18 : List (Nat × Ev.Spec) := (18, sp18) :: tl_11
def tbl_18 (D : Dom) : Tbl D := tblOf tl_18 D
theorem tok_18 : TblOK Try.prog (tbl_18 R) := TblOK.cons tok_11 en18

-- penumbra/penumbraref02.Is
def S12_0 (D : Dom) (a0 : D.F) (a1 : D.F) (a2 : D.F) (a3 : D.F) (a4 : D.F) (a5 : D.F) : D.B := (D.bite (D.bite (S18_0 D a0 a3) (S18_0 D a1 a4) (D.bc false)) (S18_0 D a2 a5) (D.bc false))
theorem ev12 (D : Dom) (a0 : D.F) (a1 : D.F) (a2 : D.F) (a3 : D.F) (a4 : D.F) (a5 : D.F) : joinT (evFn Try.prog (tbl_18 D) 60 12 [.agg [.fl a0, .fl a1, .fl a2], .agg [.fl a3, .fl a4, .fl a5]]) = .val none (.sb (S12_0 D a0 a1 a2 a3 a4 a5)) := by kernel_rfl
def sp12 : Ev.Spec := fun D l => argA l fun c0 r0 => argF c0 fun a0 r1 => argF r1 fun a1 r2 => argF r2 fun a2 r3 => arg0 r3 (argA r0 fun c100 r100 => argF c100 fun a3 r101 => argF r101 fun a4 r102 => argF r102 fun a5 r103 => arg0 r103 (arg0 r100 (.ret (.sb (S12_0 D a0 a1 a2 a3 a4 a5)))))
theorem en12 : ∀ l r, (sp12 R l).run = some r → Entry Try.prog 12 l r := by
  intro l r h
  obtain ⟨_, _, h, L0⟩ := argA_inv h
  obtain ⟨x1, _, h, L1⟩ := argF_inv h
  obtain ⟨x2, _, h, L2⟩ := argF_inv h
  obtain ⟨x3, _, h, L3⟩ := argF_inv h
  obtain ⟨h, L4⟩ := arg0_inv h
  obtain ⟨_, _, h, L5⟩ := argA_inv h
  obtain ⟨x6, _, h, L6⟩ := argF_inv h
  obtain ⟨x7, _, h, L7⟩ := argF_inv h
  obtain ⟨x8, _, h, L8⟩ := argF_inv h
  obtain ⟨h, L9⟩ := arg0_inv h
  obtain ⟨h, L10⟩ := arg0_inv h
  cases h
  exact (entry_of prg tok_18 (ev12 R x1 x2 x3 x6 x7 x8) (fun o ho => nomatch ho) rfl).le (L0 _ _ (L1 _ (L2 _ (L3 _ L4))) (L5 _ _ (L6 _ (L7 _ (L8 _ L9))) L10))
def tl_12 : List (Nat × Ev.Spec) := (12, sp12) :: tl_18
def tbl_12 (D : Dom) : Tbl D := tblOf tl_12 D
theorem tok_12 : TblOK Try.prog (tbl_12 R) := TblOK.cons tok_18 en12

-- penumbra/penumbraref02.less
def S50_0 (D : Dom) (a0 : D.F) (a1 : D.F) (a2 : D.F) (a3 : D.F) : D.F := (D.fsub (D.fmul a0 a1) (D.fmul a2 a3))
theorem ev50 (D : Dom) (a0 : D.F) (a1 : D.F) (a2 : D.F) (a3 : D.F) : joinT (evFn Try.prog (tbl_12 D) 60 50 [.fl a0, .fl a1, .fl a2, .fl a3]) = .val none (.fl (S50_0 D a0 a1 a2 a3)) := by kernel_rfl
def sp50 : Ev.Spec := fun D l => argF l fun a0 r0 => argF r0 fun a1 r1 => argF r1 fun a2 r2 => argF r2 fun a3 r3 => arg0 r3 (.ret (.fl (S50_0 D a0 a1 a2 a3)))
theorem en50 : ∀ l r, (sp50 R l).run = some r → Entry Try.prog 50 l r := by
  intro l r h
  obtain ⟨x0, _, h, L0⟩ := argF_inv h
  obtain ⟨x1, _, h, L1⟩ := argF_inv h
  obtain ⟨x2, _, h, L2⟩ := argF_inv h
  obtain ⟨x3, _, h, L3⟩ := argF_inv h
  obtain ⟨h, L4⟩ := arg0_inv h
  cases h
  exact (entry_of prg tok_12 (ev50 R x0 x1 x2 x3) (fun o ho => nomatch ho) rfl).le (L0 _ (L1 _ (L2 _ (L3 _ L4))))
def tl_50 : List (Nat × Ev.Spec) := (50, sp50) :: tl_12
def tbl_50 (D : Dom) : Tbl D := tblOf tl_50 D
theorem tok_50 : TblOK Try.prog (tbl_50 R) := TblOK.cons tok_12 en50

-- penumbra/penumbraref02.Cross
def S39_0 (D : Dom) (a1 : D.F) (a2 : D.F) (a4 : D.F) (a5 : D.F) : D.F := (S50_0 D a1 a5 a2 a4)
def S39_1 (D : Dom) (a0 : D.F) (a2 : D.F) (a3 : D.F) (a5 : D.F) : D.F := (S50_0 D a2 a3 a0 a5)
def S39_2 (D : Dom) (a0 : D.F) (a1 : D.F) (a3 : D.F) (a4 : D.F) : D.F := (S50_0 D a0 a4 a1 a3)
theorem ev39 (D : Dom) (a0 : D.F) (a1 : D.F) (a2 : D.F) (a3 : D.F) (a4 : D.F) (a5 : D.F) : joinT (evFn Try.prog (tbl_50 D) 60 39 [.agg [.fl a0, .fl a1, .fl a2], .agg [.fl a3, .fl a4, .fl a5]]) = .val none (.agg [.fl (S39_0 D a1 a2 a4 a5), .fl (S39_1 D a0 a2 a3 a5), .fl (S39_2 D a0 a1 a3 a4)]) := by kernel_rfl
def sp39 : Ev.Spec := fun D l => argA l fun c0 r0 => argF c0 fun a0 r1 => argF r1 fun a1 r2 => argF r2 fun a2 r3 => arg0 r3 (argA r0 fun c100 r100 => argF c100 fun a3 r101 => argF r101 fun a4 r102 => argF r102 fun a5 r103 => arg0 r103 (arg0 r100 (.ret (.agg [.fl (S39_0 D a1 a2 a4 a5), .fl (S39_1 D a0 a2 a3 a5), .fl (S39_2 D a0 a1 a3 a4)]))))
theorem en39 : ∀ l r, (sp39 R l).run = some r → Entry Try.prog 39 l r := by
  intro l r h
  obtain ⟨_, _, h, L0⟩ := argA_inv h
  obtain ⟨x1, _, h, L1⟩ := argF_inv h
  obtain ⟨x2, _, h, L2⟩ := argF_inv h
  obtain ⟨x3, _, h, L3⟩ := argF_inv h
  obtain ⟨h, L4⟩ := arg0_inv h
  obtain ⟨_, _, h, L5⟩ := argA_inv h
  obtain ⟨x6, _, h, L6⟩ := argF_inv h
  obtain ⟨x7, _, h, L7⟩ := argF_inv h
  obtain ⟨x8, _, h, L8⟩ := argF_inv h
  obtain ⟨h, L9⟩ := arg0_inv h
  obtain ⟨h, L10⟩ := arg0_inv h
  cases h
  exact (entry_of prg tok_50 (ev39 R x1 x2 x3 x6 x7 x8) (fun o ho => nomatch ho) rfl).le (L0 _ _ (L1 _ (L2 _ (L3 _ L4))) (L5 _ _ (L6 _ (L7 _ (L8 _ L9))) L10))
def tl_39 : List (Nat × Ev.Spec) := (39, sp39) :: tl_50
def tbl_39 (D : Dom) : Tbl D := tblOf tl_39 D
theorem tok_39 : TblOK Try.prog (tbl_39 R) := TblOK.cons tok_50 en39

-- penumbra/penumbraref10.Normal
def S25_0 (D : Dom) (a1 : D.F) (a2 : D.F) (a4 : D.F) (a5 : D.F) (a7 : D.F) (a8 : D.F) : D.F := (S39_0 D (S10_1 D a4 a1) (S10_2 D a5 a2) (S10_1 D a7 a1) (S10_2 D a8 a2))
def S25_1 (D : Dom) (a0 : D.F) (a2 : D.F) (a3 : D.F) (a5 : D.F) (a6 : D.F) (a8 : D.F) : D.F := (S39_1 D (S10_0 D a3 a0) (S10_2 D a5 a2) (S10_0 D a6 a0) (S10_2 D a8 a2))
def S25_2 (D : Dom) (a0 : D.F) (a1 : D.F) (a3 : D.F) (a4 : D.F) (a6 : D.F) (a7 : D.F) : D.F := (S39_2 D (S10_0 D a3 a0) (S10_1 D a4 a1) (S10_0 D a6 a0) (S10_1 D a7 a1))
theorem ev25 (D : Dom) (a0 : D.F) (a1 : D.F) (a2 : D.F) (a3 : D.F) (a4 : D.F) (a5 : D.F) (a6 : D.F) (a7 : D.F) (a8 : D.F) : joinT (evFn Try.prog (tbl_39 D) 60 25 [.agg [.fl a0, .fl a1, .fl a2, .fl a3, .fl a4, .fl a5, .fl a6, .fl a7, .fl a8]]) = .val none (.agg [.fl (S25_0 D a1 a2 a4 a5 a7 a8), .fl (S25_1 D a0 a2 a3 a5 a6 a8), .fl (S25_2 D a0 a1 a3 a4 a6 a7)]) := by kernel_rfl
def sp25 : Ev.Spec := fun D l => argA l fun c0 r0 => argF c0 fun a0 r1 => argF r1 fun a1 r2 => argF r2 fun a2 r3 => argF r3 fun a3 r4 => argF r4 fun a4 r5 => argF r5 fun a5 r6 => argF r6 fun a6 r7 => argF r7 fun a7 r8 => argF r8 fun a8 r9 => arg0 r9 (arg0 r0 (.ret (.agg [.fl (S25_0 D a1 a2 a4 a5 a7 a8), .fl (S25_1 D a0 a2 a3 a5 a6 a8), .fl (S25_2 D a0 a1 a3 a4 a6 a7)])))
theorem en25 : ∀ l r, (sp25 R l).run = some r → Entry Try.prog 25 l r := by
  intro l r h
  obtain ⟨_, _, h, L0⟩ := argA_inv h
  obtain ⟨x1, _, h, L1⟩ := argF_inv h
  obtain ⟨x2, _, h, L2⟩ := argF_inv h
  obtain ⟨x3, _, h, L3⟩ := argF_inv h
  obtain ⟨x4, _, h, L4⟩ := argF_inv h
  obtain ⟨x5, _, h, L5⟩ := argF_inv h
  obtain ⟨x6, _, h, L6⟩ := argF_inv h
  obtain ⟨x7, _, h, L7⟩ := argF_inv h
  obtain ⟨x8, _, h, L8⟩ := argF_inv h
  obtain ⟨x9, _, h, L9⟩ := argF_inv h
  obtain ⟨h, L10⟩ := arg0_inv h
  obtain ⟨h, L11⟩ := arg0_inv h
  cases h
  exact (entry_of prg tok_39 (ev25 R x1 x2 x3 x4 x5 x6 x7 x8 x9) (fun o ho => nomatch ho) rfl).le (L0 _ _ (L1 _ (L2 _ (L3 _ (L4 _ (L5 _ (L6 _ (L7 _ (L8 _ (L9 _ L10))))))))) L11)
def tl_25 : List (Nat × Ev.Spec) := (25, sp25) :: tl_39
def tbl_25 (D : Dom) : Tbl D := tblOf tl_25 D
theorem tok_25 : TblOK Try.prog (tbl_25 R) := TblOK.cons tok_39 en25

-- penumbra/penumbraref02.Dot
def S19_0 (D : Dom) (a0 : D.F) (a1 : D.F) (a2 : D.F) (a3 : D.F) (a4 : D.F) (a5 : D.F) : D.F := (D.fadd (D.fadd (D.fmul a0 a3) (D.fmul a1 a4)) (D.fmul a2 a5))
theorem ev19 (D : Dom) (a0 : D.F) (a1 : D.F) (a2 : D.F) (a3 : D.F) (a4 : D.F) (a5 : D.F) : joinT (evFn Try.prog (tbl_25 D) 60 19 [.agg [.fl a0, .fl a1, .fl a2], .agg [.fl a3, .fl a4, .fl a5]]) = .val none (.fl (S19_0 D a0 a1 a2 a3 a4 a5)) := by kernel_rfl
def sp19 : Ev.Spec := fun D l => argA l fun c0 r0 => argF c0 fun a0 r1 => argF r1 fun a1 r2 => argF r2 fun a2 r3 => arg0 r3 (argA r0 fun c100 r100 => argF c100 fun a3 r101 => argF r101 fun a4 r102 => argF r102 fun a5 r103 => arg0 r103 (arg0 r100 (.ret (.fl (S19_0 D a0 a1 a2 a3 a4 a5)))))
theorem en19 : ∀ l r, (sp19 R l).run = some r → Entry Try.prog 19 l r := by
  intro l r h
  obtain ⟨_, _, h, L0⟩ := argA_inv h
  obtain ⟨x1, _, h, L1⟩ := argF_inv h
  obtain ⟨x2, _, h, L2⟩ := argF_inv h
  obtain ⟨x3, _, h, L3⟩ := argF_inv h
  obtain ⟨h, L4⟩ := arg0_inv h
  obtain ⟨_, _, h, L5⟩ := argA_inv h
  obtain ⟨x6, _, h, L6⟩ := argF_inv h
  obtain ⟨x7, _, h, L7⟩ := argF_inv h
  obtain ⟨x8, _, h, L8⟩ := argF_inv h
  obtain ⟨h, L9⟩ := arg0_inv h
  obtain ⟨h, L10⟩ := arg0_inv h
  cases h
  exact (entry_of prg tok_25 (ev19 R x1 x2 x3 x6 x7 x8) (fun o ho => nomatch ho) rfl).le (L0 _ _ (L1 _ (L2 _ (L3 _ L4))) (L5 _ _ (L6 _ (L7 _ (L8 _ L9))) L10))
def tl_19 : List (Nat × Ev.Spec) := (19, sp19) :: tl_25
def tbl_19 (D : Dom) : Tbl D := tblOf tl_19 D
theorem tok_19 : TblOK Try.prog (tbl_19 R) := TblOK.cons tok_25 en19

-- penumbra/penumbraref02.Number
def S24_0 (D : Dom) (a0 : D.F) : D.B := (D.feq (D.fsub a0 a0) (D.fc 0))
theorem ev24 (D : Dom) (a0 : D.F) : joinT (evFn Try.prog (tbl_19 D) 60 24 [.fl a0]) = .val none (.sb (S24_0 D a0)) := by kernel_rfl
def sp24 : Ev.Spec := fun D l => argF l fun a0 r0 => arg0 r0 (.ret (.sb (S24_0 D a0)))
theorem en24 : ∀ l r, (sp24 R l).run = some r → Entry Try.prog 24 l r := by
  intro l r h
  obtain ⟨x0, _, h, L0⟩ := argF_inv h
  obtain ⟨h, L1⟩ := arg0_inv h
  cases h
  exact (entry_of prg tok_19 (ev24 R x0) (fun o ho => nomatch ho) rfl).le (L0 _ L1)
def tl_24 : List (Nat × Ev.Spec) := (24, sp24) :: tl_19
def tbl_24 (D : Dom) : Tbl D := tblOf tl_24 D
theorem tok_24 : TblOK Try.prog (tbl_24 R) := TblOK.cons tok_19 en24

-- penumbra/penumbraref11.Plain
def S32_0 (D : Dom) (a0 : D.F) : D.F := (D.fite (D.bite (S24_0 D a0) (D.fge a0 (D.fc 0)) (D.bc false)) a0 (D.fc 0))
theorem ev32 (D : Dom) (a0 : D.F) : joinT (evFn Try.prog (tbl_24 D) 60 32 [.fl a0]) = .val none (.fl (S32_0 D a0)) := by kernel_rfl
def sp32 : Ev.Spec := fun D l => argF l fun a0 r0 => arg0 r0 (.ret (.fl (S32_0 D a0)))
theorem en32 : ∀ l r, (sp32 R l).run = some r → Entry Try.prog 32 l r := by
  intro l r h
  obtain ⟨x0, _, h, L0⟩ := argF_inv h
  obtain ⟨h, L1⟩ := arg0_inv h
  cases h
  exact (entry_of prg tok_24 (ev32 R x0) (fun o ho => nomatch ho) rfl).le (L0 _ L1)
def tl_32 : List (Nat × Ev.Spec) := (32, sp32) :: tl_24
def tbl_32 (D : Dom) : Tbl D := tblOf tl_32 D
theorem tok_32 : TblOK Try.prog (tbl_32 R) := TblOK.cons tok_24 en32

-- penumbra/penumbraref11.Density
def S15_0 (D : Dom) (a0 : D.F) (a1 : D.F) (a2 : D.F) (a3 : D.F) (a4 : D.F) (a5 : D.F) (a6 : D.F) (a7 : D.F) (a8 : D.F) : D.F := (D.fite (D.fgt (D.fmul (S6_0 D (S19_0 D (S25_0 D a1 a2 a4 a5 a7 a8) (S25_1 D a0 a2 a3 a5 a6 a8) (S25_2 D a0 a1 a3 a4 a6 a7) (S25_0 D a1 a2 a4 a5 a7 a8) (S25_1 D a0 a2 a3 a5 a6 a8) (S25_2 D a0 a1 a3 a4 a6 a7))) (D.fc 4602678819172646912)) (D.fc 0)) (S32_0 D (D.fdiv (D.fc 4607182418800017408) (D.fmul (S6_0 D (S19_0 D (S25_0 D a1 a2 a4 a5 a7 a8) (S25_1 D a0 a2 a3 a5 a6 a8) (S25_2 D a0 a1 a3 a4 a6 a7) (S25_0 D a1 a2 a4 a5 a7 a8) (S25_1 D a0 a2 a3 a5 a6 a8) (S25_2 D a0 a1 a3 a4 a6 a7))) (D.fc 4602678819172646912)))) (D.fc 0))
theorem ev15 (D : Dom) (a0 : D.F) (a1 : D.F) (a2 : D.F) (a3 : D.F) (a4 : D.F) (a5 : D.F) (a6 : D.F) (a7 : D.F) (a8 : D.F) : joinT (evFn Try.prog (tbl_32 D) 60 15 [.agg [.fl a0, .fl a1, .fl a2, .fl a3, .fl a4, .fl a5, .fl a6, .fl a7, .fl a8]]) = .val none (.fl (S15_0 D a0 a1 a2 a3 a4 a5 a6 a7 a8)) := by kernel_rfl
def sp15 : Ev.Spec := fun D l => argA l fun c0 r0 => argF c0 fun a0 r1 => argF r1 fun a1 r2 => argF r2 fun a2 r3 => argF r3 fun a3 r4 => argF r4 fun a4 r5 => argF r5 fun a5 r6 => argF r6 fun a6 r7 => argF r7 fun a7 r8 => argF r8 fun a8 r9 => arg0 r9 (arg0 r0 (.ret (.fl (S15_0 D a0 a1 a2 a3 a4 a5 a6 a7 a8))))
theorem en15 : ∀ l r, (sp15 R l).run = some r → Entry Try.prog 15 l r := by
  intro l r h
  obtain ⟨_, _, h, L0⟩ := argA_inv h
  obtain ⟨x1, _, h, L1⟩ := argF_inv h
  obtain ⟨x2, _, h, L2⟩ := argF_inv h
  obtain ⟨x3, _, h, L3⟩ := argF_inv h
  obtain ⟨x4, _, h, L4⟩ := argF_inv h
  obtain ⟨x5, _, h, L5⟩ := argF_inv h
  obtain ⟨x6, _, h, L6⟩ := argF_inv h
  obtain ⟨x7, _, h, L7⟩ := argF_inv h
  obtain ⟨x8, _, h, L8⟩ := argF_inv h
  obtain ⟨x9, _, h, L9⟩ := argF_inv h
  obtain ⟨h, L10⟩ := arg0_inv h
  obtain ⟨h, L11⟩ := arg0_inv h
  cases h
  exact (entry_of prg tok_32 (ev15 R x1 x2 x3 x4 x5 x6 x7 x8 x9) (fun o ho => nomatch ho) rfl).le (L0 _ _ (L1 _ (L2 _ (L3 _ (L4 _ (L5 _ (L6 _ (L7 _ (L8 _ (L9 _ L10))))))))) L11)
def tl_15 : List (Nat × Ev.Spec) := (15, sp15) :: tl_32
def tbl_15 (D : Dom) : Tbl D := tblOf tl_15 D
theorem tok_15 : TblOK Try.prog (tbl_15 R) := TblOK.cons tok_32 en15

-- penumbra/penumbralaw11.AreaPoints
def S3_0 (D : Dom) (a0 : D.F) (a1 : D.F) (a2 : D.F) (a3 : D.F) (a4 : D.F) (a5 : D.F) (a6 : D.F) (a7 : D.F) (a8 : D.F) (a9 : D.F) (a10 : D.F) : D.B := (D.bite (S11_0 D) (D.bite (S12_0 D (S13_0 D a0 a3 a6 a9 a10) (S13_1 D a1 a4 a7 a9 a10) (S13_2 D a2 a5 a8 a9 a10) (S8_0 D (S8_0 D a0 (S9_0 D (S10_0 D a3 a0) (D.fmul (S6_0 D (S7_0 D a9)) (D.fsub (D.fc 4607182418800017408) (S7_0 D a10))))) (S9_0 D (S10_0 D a6 a0) (D.fmul (S6_0 D (S7_0 D a9)) (S7_0 D a10)))) (S8_1 D (S8_1 D a1 (S9_1 D (S10_1 D a4 a1) (D.fmul (S6_0 D (S7_0 D a9)) (D.fsub (D.fc 4607182418800017408) (S7_0 D a10))))) (S9_1 D (S10_1 D a7 a1) (D.fmul (S6_0 D (S7_0 D a9)) (S7_0 D a10)))) (S8_2 D (S8_2 D a2 (S9_2 D (S10_2 D a5 a2) (D.fmul (S6_0 D (S7_0 D a9)) (D.fsub (D.fc 4607182418800017408) (S7_0 D a10))))) (S9_2 D (S10_2 D a8 a2) (D.fmul (S6_0 D (S7_0 D a9)) (S7_0 D a10))))) (D.bite (D.feq (S14_0 D a0 a1 a2 a3 a4 a5 a6 a7 a8) (S15_0 D a0 a1 a2 a3 a4 a5 a6 a7 a8)) (D.fge (S14_0 D a0 a1 a2 a3 a4 a5 a6 a7 a8) (D.fc 0)) (D.bc false)) (D.bc false)) (D.bc false))
theorem ev3 (D : Dom) (a0 : D.F) (a1 : D.F) (a2 : D.F) (a3 : D.F) (a4 : D.F) (a5 : D.F) (a6 : D.F) (a7 : D.F) (a8 : D.F) (a9 : D.F) (a10 : D.F) : joinT (evFn Try.prog (tbl_15 D) 60 3 [.agg [.fl a0, .fl a1, .fl a2, .fl a3, .fl a4, .fl a5, .fl a6, .fl a7, .fl a8], .fl a9, .fl a10]) = .val none (.sb (S3_0 D a0 a1 a2 a3 a4 a5 a6 a7 a8 a9 a10)) := by kernel_rfl
def sp3 : Ev.Spec := fun D l => argA l fun c0 r0 => argF c0 fun a0 r1 => argF r1 fun a1 r2 => argF r2 fun a2 r3 => argF r3 fun a3 r4 => argF r4 fun a4 r5 => argF r5 fun a5 r6 => argF r6 fun a6 r7 => argF r7 fun a7 r8 => argF r8 fun a8 r9 => arg0 r9 (argF r0 fun a9 r100 => argF r100 fun a10 r101 => arg0 r101 (.ret (.sb (S3_0 D a0 a1 a2 a3 a4 a5 a6 a7 a8 a9 a10))))
theorem en3 : ∀ l r, (sp3 R l).run = some r → Entry Try.prog 3 l r := by
  intro l r h
  obtain ⟨_, _, h, L0⟩ := argA_inv h
  obtain ⟨x1, _, h, L1⟩ := argF_inv h
  obtain ⟨x2, _, h, L2⟩ := argF_inv h
  obtain ⟨x3, _, h, L3⟩ := argF_inv h
  obtain ⟨x4, _, h, L4⟩ := argF_inv h
  obtain ⟨x5, _, h, L5⟩ := argF_inv h
  obtain ⟨x6, _, h, L6⟩ := argF_inv h
  obtain ⟨x7, _, h, L7⟩ := argF_inv h
  obtain ⟨x8, _, h, L8⟩ := argF_inv h
  obtain ⟨x9, _, h, L9⟩ := argF_inv h
  obtain ⟨h, L10⟩ := arg0_inv h
  obtain ⟨x11, _, h, L11⟩ := argF_inv h
  obtain ⟨x12, _, h, L12⟩ := argF_inv h
  obtain ⟨h, L13⟩ := arg0_inv h
  cases h
  exact (entry_of prg tok_15 (ev3 R x1 x2 x3 x4 x5 x6 x7 x8 x9 x11 x12) (fun o ho => nomatch ho) rfl).le (L0 _ _ (L1 _ (L2 _ (L3 _ (L4 _ (L5 _ (L6 _ (L7 _ (L8 _ (L9 _ L10))))))))) (L11 _ (L12 _ L13)))
def tl_3 : List (Nat × Ev.Spec) := (3, sp3) :: tl_15
def tbl_3 (D : Dom) : Tbl D := tblOf tl_3 D
theorem tok_3 : TblOK Try.prog (tbl_3 R) := TblOK.cons tok_15 en3

-- penumbra/penumbraref02.Unit
def S17_0 (D : Dom) (a0 : D.F) (a1 : D.F) (a2 : D.F) : D.F := (D.fite (D.bite (D.fgt (S6_0 D (S19_0 D a0 a1 a2 a0 a1 a2)) (D.fc 0)) (S24_0 D (S6_0 D (S19_0 D a0 a1 a2 a0 a1 a2))) (D.bc false)) (D.fdiv a0 (S6_0 D (S19_0 D a0 a1 a2 a0 a1 a2))) (D.fc 0))
def S17_1 (D : Dom) (a0 : D.F) (a1 : D.F) (a2 : D.F) : D.F := (D.fite (D.bite (D.fgt (S6_0 D (S19_0 D a0 a1 a2 a0 a1 a2)) (D.fc 0)) (S24_0 D (S6_0 D (S19_0 D a0 a1 a2 a0 a1 a2))) (D.bc false)) (D.fdiv a1 (S6_0 D (S19_0 D a0 a1 a2 a0 a1 a2))) (D.fc 0))
def S17_2 (D : Dom) (a0 : D.F) (a1 : D.F) (a2 : D.F) : D.F := (D.fite (D.bite (D.fgt (S6_0 D (S19_0 D a0 a1 a2 a0 a1 a2)) (D.fc 0)) (S24_0 D (S6_0 D (S19_0 D a0 a1 a2 a0 a1 a2))) (D.bc false)) (D.fdiv a2 (S6_0 D (S19_0 D a0 a1 a2 a0 a1 a2))) (D.fc 0))
def S17_3 (D : Dom) (a0 : D.F) (a1 : D.F) (a2 : D.F) : D.B := (D.bite (D.bite (D.fgt (S6_0 D (S19_0 D a0 a1 a2 a0 a1 a2)) (D.fc 0)) (S24_0 D (S6_0 D (S19_0 D a0 a1 a2 a0 a1 a2))) (D.bc false)) (D.bc true) (D.bc false))
theorem ev17 (D : Dom) (a0 : D.F) (a1 : D.F) (a2 : D.F) : joinT (evFn Try.prog (tbl_3 D) 60 17 [.agg [.fl a0, .fl a1, .fl a2]]) = .val none (.tup [.agg [.fl (S17_0 D a0 a1 a2), .fl (S17_1 D a0 a1 a2), .fl (S17_2 D a0 a1 a2)], .sb (S17_3 D a0 a1 a2)]) := by kernel_rfl
def sp17 : Ev.Spec := fun D l => argA l fun c0 r0 => argF c0 fun a0 r1 => argF r1 fun a1 r2 => argF r2 fun a2 r3 => arg0 r3 (arg0 r0 (.ret (.tup [.agg [.fl (S17_0 D a0 a1 a2), .fl (S17_1 D a0 a1 a2), .fl (S17_2 D a0 a1 a2)], .sb (S17_3 D a0 a1 a2)])))
theorem en17 : ∀ l r, (sp17 R l).run = some r → Entry Try.prog 17 l r := by
  intro l r h
  obtain ⟨_, _, h, L0⟩ := argA_inv h
  obtain ⟨x1, _, h, L1⟩ := argF_inv h
  obtain ⟨x2, _, h, L2⟩ := argF_inv h
  obtain ⟨x3, _, h, L3⟩ := argF_inv h
  obtain ⟨h, L4⟩ := arg0_inv h
  obtain ⟨h, L5⟩ := arg0_inv h
  cases h
  exact (entry_of prg tok_3 (ev17 R x1 x2 x3) (fun o ho => nomatch ho) rfl).le (L0 _ _ (L1 _ (L2 _ (L3 _ L4))) L5)
def tl_17 : List (Nat × Ev.Spec) := (17, sp17) :: tl_3
def tbl_17 (D : Dom) : Tbl D := tblOf tl_17 D
theorem tok_17 : TblOK Try.prog (tbl_17 R) := TblOK.cons tok_3 en17

-- penumbra/penumbraref11.Cosine
def S22_0 (D : Dom) (a0 : D.F) (a1 : D.F) (a2 : D.F) (a3 : D.F) (a4 : D.F) (a5 : D.F) (a6 : D.F) (a7 : D.F) (a8 : D.F) (a9 : D.F) (a10 : D.F) (a11 : D.F) (a12 : D.F) (a13 : D.F) (a14 : D.F) : D.F := (D.fite (D.bite (S17_3 D (S10_0 D a12 a9) (S10_1 D a13 a10) (S10_2 D a14 a11)) (S17_3 D (S25_0 D a1 a2 a4 a5 a7 a8) (S25_1 D a0 a2 a3 a5 a6 a8) (S25_2 D a0 a1 a3 a4 a6 a7)) (D.bc false)) (D.fsub (D.fc 0) (S19_0 D (S17_0 D (S10_0 D a12 a9) (S10_1 D a13 a10) (S10_2 D a14 a11)) (S17_1 D (S10_0 D a12 a9) (S10_1 D a13 a10) (S10_2 D a14 a11)) (S17_2 D (S10_0 D a12 a9) (S10_1 D a13 a10) (S10_2 D a14 a11)) (S17_0 D (S25_0 D a1 a2 a4 a5 a7 a8) (S25_1 D a0 a2 a3 a5 a6 a8) (S25_2 D a0 a1 a3 a4 a6 a7)) (S17_1 D (S25_0 D a1 a2 a4 a5 a7 a8) (S25_1 D a0 a2 a3 a5 a6 a8) (S25_2 D a0 a1 a3 a4 a6 a7)) (S17_2 D (S25_0 D a1 a2 a4 a5 a7 a8) (S25_1 D a0 a2 a3 a5 a6 a8) (S25_2 D a0 a1 a3 a4 a6 a7)))) (D.fc 0))
theorem ev22 (D : Dom) (a0 : D.F) (a1 : D.F) (a2 : D.F) (a3 : D.F) (a4 : D.F) (a5 : D.F) (a6 : D.F) (a7 : D.F) (a8 : D.F) (a9 : D.F) (a10 : D.F) (a11 : D.F) (a12 : D.F) (a13 : D.F) (a14 : D.F) : joinT (evFn Try.prog (tbl_17 D) 60 22 [.agg [.fl a0, .fl a1, .fl a2, .fl a3, .fl a4, .fl a5, .fl a6, .fl a7, .fl a8], .agg [.fl a9, .fl a10, .fl a11], .agg [.fl a12, .fl a13, .fl a14]]) = .val none (.fl (S22_0 D a0 a1 a2 a3 a4 a5 a6 a7 a8 a9 a10 a11 a12 a13 a14)) := by kernel_rfl
def sp22 : Ev.Spec := fun D l => argA l fun c0 r0 => argF c0 fun a0 r1 => argF r1 fun a1 r2 => argF r2 fun a2 r3 => argF r3 fun a3 r4 => argF r4 fun a4 r5 => argF r5 fun a5 r6 => argF r6 fun a6 r7 => argF r7 fun a7 r8 => argF r8 fun a8 r9 => arg0 r9 (argA r0 fun c100 r100 => argF c100 fun a9 r101 => argF r101 fun a10 r102 => argF r102 fun a11 r103 => arg0 r103 (argA r100 fun c200 r200 => argF c200 fun a12 r201 => argF r201 fun a13 r202 => argF r202 fun a14 r203 => arg0 r203 (arg0 r200 (.ret (.fl (S22_0 D a0 a1 a2 a3 a4 a5 a6 a7 a8 a9 a10 a11 a12 a13 a14))))))
theorem en22 : ∀ l r, (sp22 R l).run = some r → Entry Try.prog 22 l r := by
  intro l r h
  obtain ⟨_, _, h, L0⟩ := argA_inv h
  obtain ⟨x1, _, h, L1⟩ := argF_inv h
  obtain ⟨x2, _, h, L2⟩ := argF_inv h
  obtain ⟨x3, _, h, L3⟩ := argF_inv h
  obtain ⟨x4, _, h, L4⟩ := argF_inv h
  obtain ⟨x5, _, h, L5⟩ := argF_inv h
  obtain ⟨x6, _, h, L6⟩ := argF_inv h
  obtain ⟨x7, _, h, L7⟩ := argF_inv h
  obtain ⟨x8, _, h, L8⟩ := argF_inv h
  obtain ⟨x9, _, h, L9⟩ := argF_inv h
  obtain ⟨h, L10⟩ := arg0_inv h
  obtain ⟨_, _, h, L11⟩ := argA_inv h
  obtain ⟨x12, _, h, L12⟩ := argF_inv h
  obtain ⟨x13, _, h, L13⟩ := argF_inv h
  obtain ⟨x14, _, h, L14⟩ := argF_inv h
  obtain ⟨h, L15⟩ := arg0_inv h
  obtain ⟨_, _, h, L16⟩ := argA_inv h
  obtain ⟨x17, _, h, L17⟩ := argF_inv h
  obtain ⟨x18, _, h, L18⟩ := argF_inv h
  obtain ⟨x19, _, h, L19⟩ := argF_inv h
  obtain ⟨h, L20⟩ := arg0_inv h
  obtain ⟨h, L21⟩ := arg0_inv h
  cases h
  exact (entry_of prg tok_17 (ev22 R x1 x2 x3 x4 x5 x6 x7 x8 x9 x12 x13 x14 x17 x18 x19) (fun o ho => nomatch ho) rfl).le (L0 _ _ (L1 _ (L2 _ (L3 _ (L4 _ (L5 _ (L6 _ (L7 _ (L8 _ (L9 _ L10))))))))) (L11 _ _ (L12 _ (L13 _ (L14 _ L15))) (L16 _ _ (L17 _ (L18 _ (L19 _ L20))) L21)))
def tl_22 : List (Nat × Ev.Spec) := (22, sp22) :: tl_17
def tbl_22 (D : Dom) : Tbl D := tblOf tl_22 D
theorem tok_22 : TblOK Try.prog (tbl_22 R) := TblOK.cons tok_17 en22

-- penumbra/penumbraref11.Solid
def S23_0 (D : Dom) (a0 : D.F) (a1 : D.F) (a2 : D.F) (a3 : D.F) (a4 : D.F) (a5 : D.F) (a6 : D.F) (a7 : D.F) (a8 : D.F) (a9 : D.F) (a10 : D.F) (a11 : D.F) (a12 : D.F) (a13 : D.F) (a14 : D.F) : D.F := (D.fite (D.fgt (S22_0 D a0 a1 a2 a3 a4 a5 a6 a7 a8 a9 a10 a11 a12 a13 a14) (D.fc 0)) (S32_0 D (D.fdiv (D.fmul (S15_0 D a0 a1 a2 a3 a4 a5 a6 a7 a8) (S19_0 D (S10_0 D a12 a9) (S10_1 D a13 a10) (S10_2 D a14 a11) (S10_0 D a12 a9) (S10_1 D a13 a10) (S10_2 D a14 a11))) (S22_0 D a0 a1 a2 a3 a4 a5 a6 a7 a8 a9 a10 a11 a12 a13 a14))) (D.fc 0))
theorem ev23 (D : Dom) (a0 : D.F) (a1 : D.F) (a2 : D.F) (a3 : D.F) (a4 : D.F) (a5 : D.F) (a6 : D.F) (a7 : D.F) (a8 : D.F) (a9 : D.F) (a10 : D.F) (a11 : D.F) (a12 : D.F) (a13 : D.F) (a14 : D.F) : joinT (evFn Try.prog (tbl_22 D) 60 23 [.agg [.fl a0, .fl a1, .fl a2, .fl a3, .fl a4, .fl a5, .fl a6, .fl a7, .fl a8], .agg [.fl a9, .fl a10, .fl a11], .agg [.fl a12, .fl a13, .fl a14]]) = .val none (.fl (S23_0 D a0 a1 a2 a3 a4 a5 a6 a7 a8 a9 a10 a11 a12 a13 a14)) := by kernel_rfl
def sp23 : Ev.Spec := fun D l => argA l fun c0 r0 => argF c0 fun a0 r1 => argF r1 fun a1 r2 => argF r2 fun a2 r3 => argF r3 fun a3 r4 => argF r4 fun a4 r5 => argF r5 fun a5 r6 => argF r6 fun a6 r7 => argF r7 fun a7 r8 => argF r8 fun a8 r9 => arg0 r9 (argA r0 fun c100 r100 => argF c100 fun a9 r101 => argF r101 fun a10 r102 => argF r102 fun a11 r103 => arg0 r103 (argA r100 fun c200 r200 => argF c200 fun a12 r201 => argF r201 fun a13 r202 => argF r202 fun a14 r203 => arg0 r203 (arg0 r200 (.ret (.fl (S23_0 D a0 a1 a2 a3 a4 a5 a6 a7 a8 a9 a10 a11 a12 a13 a14))))))
theorem en23 : ∀ l r, (sp23 R l).run = some r → Entry Try.prog 23 l r := by
  intro l r h
  obtain ⟨_, _, h, L0⟩ := argA_inv h
  obtain ⟨x1, _, h, L1⟩ := argF_inv h
  obtain ⟨x2, _, h, L2⟩ := argF_inv h
  obtain ⟨x3, _, h, L3⟩ := argF_inv h
  obtain ⟨x4, _, h, L4⟩ := argF_inv h
  obtain ⟨x5, _, h, L5⟩ := argF_inv h
  obtain ⟨x6, _, h, L6⟩ := argF_inv h
  obtain ⟨x7, _, h, L7⟩ := argF_inv h
  obtain ⟨x8, _, h, L8⟩ := argF_inv h
  obtain ⟨x9, _, h, L9⟩ := argF_inv h
  obtain ⟨h, L10⟩ := arg0_inv h
  obtain ⟨_, _, h, L11⟩ := argA_inv h
  obtain ⟨x12, _, h, L12⟩ := argF_inv h
  obtain ⟨x13, _, h, L13⟩ := argF_inv h
  obtain ⟨x14, _, h, L14⟩ := argF_inv h
  obtain ⟨h, L15⟩ := arg0_inv h
  obtain ⟨_, _, h, L16⟩ := argA_inv h
  obtain ⟨x17, _, h, L17⟩ := argF_inv h
  obtain ⟨x18, _, h, L18⟩ := argF_inv h
  obtain ⟨x19, _, h, L19⟩ := argF_inv h
  obtain ⟨h, L20⟩ := arg0_inv h
  obtain ⟨h, L21⟩ := arg0_inv h
  cases h
  exact (entry_of prg tok_22 (ev23 R x1 x2 x3 x4 x5 x6 x7 x8 x9 x12 x13 x14 x17 x18 x19) (fun o ho => nomatch ho) rfl).le (L0 _ _ (L1 _ (L2 _ (L3 _ (L4 _ (L5 _ (L6 _ (L7 _ (L8 _ (L9 _ L10))))))))) (L11 _ _ (L12 _ (L13 _ (L14 _ L15))) (L16 _ _ (L17 _ (L18 _ (L19 _ L20))) L21)))
def tl_23 : List (Nat × Ev.Spec) := (23, sp23) :: tl_22
def tbl_23 (D : Dom) : Tbl D := tblOf tl_23 D
theorem tok_23 : TblOK Try.prog (tbl_23 R) := TblOK.cons tok_22 en23

-- penumbra/penumbralaw11.AreaSolid
def S4_0 (D : Dom) (a0 : D.F) (a1 : D.F) (a2 : D.F) (a3 : D.F) (a4 : D.F) (a5 : D.F) (a6 : D.F) (a7 : D.F) (a8 : D.F) (a9 : D.F) (a10 : D.F) (a11 : D.F) (a12 : D.F) (a13 : D.F) (a14 : D.F) : D.B := (D.bite (D.bite (D.bite (D.bnot (S12_0 D (S16_0 D a9 a10 a11 a12 a13 a14) (S16_1 D a9 a10 a11 a12 a13 a14) (S16_2 D a9 a10 a11 a12 a13 a14) (S17_0 D (S10_0 D a12 a9) (S10_1 D a13 a10) (S10_2 D a14 a11)) (S17_1 D (S10_0 D a12 a9) (S10_1 D a13 a10) (S10_2 D a14 a11)) (S17_2 D (S10_0 D a12 a9) (S10_1 D a13 a10) (S10_2 D a14 a11)))) (D.bc true) (D.bnot (D.beq (S16_4 D a9 a10 a11 a12 a13 a14) (S17_3 D (S10_0 D a12 a9) (S10_1 D a13 a10) (S10_2 D a14 a11))))) (D.bc true) (D.bnot (S18_0 D (S16_3 D a9 a10 a11 a12 a13 a14) (S19_0 D (S10_0 D a12 a9) (S10_1 D a13 a10) (S10_2 D a14 a11) (S10_0 D a12 a9) (S10_1 D a13 a10) (S10_2 D a14 a11))))) (D.bc false) (D.bite (S11_0 D) (D.bite (S18_0 D (S21_0 D a0 a1 a2 a3 a4 a5 a6 a7 a8 a9 a10 a11 a12 a13 a14) (S22_0 D a0 a1 a2 a3 a4 a5 a6 a7 a8 a9 a10 a11 a12 a13 a14)) (D.bite (D.feq (S20_0 D a0 a1 a2 a3 a4 a5 a6 a7 a8 a9 a10 a11 a12 a13 a14) (S23_0 D a0 a1 a2 a3 a4 a5 a6 a7 a8 a9 a10 a11 a12 a13 a14)) (D.bite (D.fge (S20_0 D a0 a1 a2 a3 a4 a5 a6 a7 a8 a9 a10 a11 a12 a13 a14) (D.fc 0)) (S24_0 D (S20_0 D a0 a1 a2 a3 a4 a5 a6 a7 a8 a9 a10 a11 a12 a13 a14)) (D.bc false)) (D.bc false)) (D.bc false)) (D.bc false)))
theorem ev4 (D : Dom) (a0 : D.F) (a1 : D.F) (a2 : D.F) (a3 : D.F) (a4 : D.F) (a5 : D.F) (a6 : D.F) (a7 : D.F) (a8 : D.F) (a9 : D.F) (a10 : D.F) (a11 : D.F) (a12 : D.F) (a13 : D.F) (a14 : D.F) : joinT (evFn Try.prog (tbl_23 D) 60 4 [.agg [.fl a0, .fl a1, .fl a2, .fl a3, .fl a4, .fl a5, .fl a6, .fl a7, .fl a8], .agg [.fl a9, .fl a10, .fl a11], .agg [.fl a12, .fl a13, .fl a14]]) = .val none (.sb (S4_0 D a0 a1 a2 a3 a4 a5 a6 a7 a8 a9 a10 a11 a12 a13 a14)) := by kernel_rfl
def sp4 : Ev.Spec := fun D l => argA l fun c0 r0 => argF c0 fun a0 r1 => argF r1 fun a1 r2 => argF r2 fun a2 r3 => argF r3 fun a3 r4 => argF r4 fun a4 r5 => argF r5 fun a5 r6 => argF r6 fun a6 r7 => argF r7 fun a7 r8 => argF r8 fun a8 r9 => arg0 r9 (argA r0 fun c100 r100 => argF c100 fun a9 r101 => argF r101 fun a10 r102 => argF r102 fun a11 r103 => arg0 r103 (argA r100 fun c200 r200 => argF c200 fun a12 r201 => argF r201 fun a13 r202 => argF r202 fun a14 r203 => arg0 r203 (arg0 r200 (.ret (.sb (S4_0 D a0 a1 a2 a3 a4 a5 a6 a7 a8 a9 a10 a11 a12 a13 a14))))))
theorem en4 : ∀ l r, (sp4 R l).run = some r → Entry Try.prog 4 l r := by
  intro l r h
  obtain ⟨_, _, h, L0⟩ := argA_inv h
  obtain ⟨x1, _, h, L1⟩ := argF_inv h
  obtain ⟨x2, _, h, L2⟩ := argF_inv h
  obtain ⟨x3, _, h, L3⟩ := argF_inv h
  obtain ⟨x4, _, h, L4⟩ := argF_inv h
  obtain ⟨x5, _, h, L5⟩ := argF_inv h
  obtain ⟨x6, _, h, L6⟩ := argF_inv h
  obtain ⟨x7, _, h, L7⟩ := argF_inv h
  obtain ⟨x8, _, h, L8⟩ := argF_inv h
  obtain ⟨x9, _, h, L9⟩ := argF_inv h
  obtain ⟨h, L10⟩ := arg0_inv h
  obtain ⟨_, _, h, L11⟩ := argA_inv h
  obtain ⟨x12, _, h, L12⟩ := argF_inv h
  obtain ⟨x13, _, h, L13⟩ := argF_inv h
  obtain ⟨x14, _, h, L14⟩ := argF_inv h
  obtain ⟨h, L15⟩ := arg0_inv h
  obtain ⟨_, _, h, L16⟩ := argA_inv h
  obtain ⟨x17, _, h, L17⟩ := argF_inv h
  obtain ⟨x18, _, h, L18⟩ := argF_inv h
  obtain ⟨x19, _, h, L19⟩ := argF_inv h
  obtain ⟨h, L20⟩ := arg0_inv h
  obtain ⟨h, L21⟩ := arg0_inv h
  cases h
  exact (entry_of prg tok_23 (ev4 R x1 x2 x3 x4 x5 x6 x7 x8 x9 x12 x13 x14 x17 x18 x19) (fun o ho => nomatch ho) rfl).le (L0 _ _ (L1 _ (L2 _ (L3 _ (L4 _ (L5 _ (L6 _ (L7 _ (L8 _ (L9 _ L10))))))))) (L11 _ _ (L12 _ (L13 _ (L14 _ L15))) (L16 _ _ (L17 _ (L18 _ (L19 _ L20))) L21)))
def tl_4 : List (Nat × Ev.Spec) := (4, sp4) :: tl_23
def tbl_4 (D : Dom) : Tbl D := tblOf tl_4 D
theorem tok_4 : TblOK Try.prog (tbl_4 R) := TblOK.cons tok_23 en4

-- penumbra/penumbralaw11.AreaFront
def S5_0 (D : Dom) (a0 : D.F) (a1 : D.F) (a2 : D.F) (a3 : D.F) (a4 : D.F) (a5 : D.F) (a6 : D.F) (a7 : D.F) (a8 : D.F) (a9 : D.F) (a10 : D.F) (a11 : D.F) : D.B := (D.bite (S11_0 D) (D.bite (S17_3 D (S25_0 D a1 a2 a4 a5 a7 a8) (S25_1 D a0 a2 a3 a5 a6 a8) (S25_2 D a0 a1 a3 a4 a6 a7)) (D.beq (S26_0 D a0 a1 a2 a3 a4 a5 a6 a7 a8 a9 a10 a11) (D.fgt (S19_0 D (S17_0 D (S25_0 D a1 a2 a4 a5 a7 a8) (S25_1 D a0 a2 a3 a5 a6 a8) (S25_2 D a0 a1 a3 a4 a6 a7)) (S17_1 D (S25_0 D a1 a2 a4 a5 a7 a8) (S25_1 D a0 a2 a3 a5 a6 a8) (S25_2 D a0 a1 a3 a4 a6 a7)) (S17_2 D (S25_0 D a1 a2 a4 a5 a7 a8) (S25_1 D a0 a2 a3 a5 a6 a8) (S25_2 D a0 a1 a3 a4 a6 a7)) (S10_0 D a9 a0) (S10_1 D a10 a1) (S10_2 D a11 a2)) (D.fc 0))) (D.beq (S26_0 D a0 a1 a2 a3 a4 a5 a6 a7 a8 a9 a10 a11) (D.bc false))) (D.bc false))
theorem ev5 (D : Dom) (a0 : D.F) (a1 : D.F) (a2 : D.F) (a3 : D.F) (a4 : D.F) (a5 : D.F) (a6 : D.F) (a7 : D.F) (a8 : D.F) (a9 : D.F) (a10 : D.F) (a11 : D.F) : joinT (evFn Try.prog (tbl_4 D) 60 5 [.agg [.fl a0, .fl a1, .fl a2, .fl a3, .fl a4, .fl a5, .fl a6, .fl a7, .fl a8], .agg [.fl a9, .fl a10, .fl a11]]) = .val none (.sb (S5_0 D a0 a1 a2 a3 a4 a5 a6 a7 a8 a9 a10 a11)) := by kernel_rfl
def sp5 : Ev.Spec := fun D l => argA l fun c0 r0 => argF c0 fun a0 r1 => argF r1 fun a1 r2 => argF r2 fun a2 r3 => argF r3 fun a3 r4 => argF r4 fun a4 r5 => argF r5 fun a5 r6 => argF r6 fun a6 r7 => argF r7 fun a7 r8 => argF r8 fun a8 r9 => arg0 r9 (argA r0 fun c100 r100 => argF c100 fun a9 r101 => argF r101 fun a10 r102 => argF r102 fun a11 r103 => arg0 r103 (arg0 r100 (.ret (.sb (S5_0 D a0 a1 a2 a3 a4 a5 a6 a7 a8 a9 a10 a11)))))
theorem en5 : ∀ l r, (sp5 R l).run = some r → Entry Try.prog 5 l r := by
  intro l r h
  obtain ⟨_, _, h, L0⟩ := argA_inv h
  obtain ⟨x1, _, h, L1⟩ := argF_inv h
  obtain ⟨x2, _, h, L2⟩ := argF_inv h
  obtain ⟨x3, _, h, L3⟩ := argF_inv h
  obtain ⟨x4, _, h, L4⟩ := argF_inv h
  obtain ⟨x5, _, h, L5⟩ := argF_inv h
  obtain ⟨x6, _, h, L6⟩ := argF_inv h
  obtain ⟨x7, _, h, L7⟩ := argF_inv h
  obtain ⟨x8, _, h, L8⟩ := argF_inv h
  obtain ⟨x9, _, h, L9⟩ := argF_inv h
  obtain ⟨h, L10⟩ := arg0_inv h
  obtain ⟨_, _, h, L11⟩ := argA_inv h
  obtain ⟨x12, _, h, L12⟩ := argF_inv h
  obtain ⟨x13, _, h, L13⟩ := argF_inv h
  obtain ⟨x14, _, h, L14⟩ := argF_inv h
  obtain ⟨h, L15⟩ := arg0_inv h
  obtain ⟨h, L16⟩ := arg0_inv h
  cases h
  exact (entry_of prg tok_4 (ev5 R x1 x2 x3 x4 x5 x6 x7 x8 x9 x12 x13 x14) (fun o ho => nomatch ho) rfl).le (L0 _ _ (L1 _ (L2 _ (L3 _ (L4 _ (L5 _ (L6 _ (L7 _ (L8 _ (L9 _ L10))))))))) (L11 _ _ (L12 _ (L13 _ (L14 _ L15))) L16))
def tl_5 : List (Nat × Ev.Spec) := (5, sp5) :: tl_4
def tbl_5 (D : Dom) : Tbl D := tblOf tl_5 D
theorem tok_5 : TblOK Try.prog (tbl_5 R) := TblOK.cons tok_4 en5

end Go.Proofs.Ytfknkjgfdljfnaa
