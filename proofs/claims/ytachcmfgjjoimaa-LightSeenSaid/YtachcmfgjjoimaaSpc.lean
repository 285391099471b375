/- More of what the functions come to. -/
import Derived.Test.YtachcmfgjjoimaaSpb
namespace Go.Proofs.Ytachcmfgjjoimaa
open Go.Ev
set_option maxRecDepth 100000
def S62_0 (D : Dom) (a0 : D.F) (a1 : D.F) (a2 : D.F) (a3 : D.F) (a4 : D.F) (a5 : D.F) : D.F := (S77_0 D (S60_0 D a3 a0) (S60_1 D a4 a1) (S60_2 D a5 a2))
def S62_1 (D : Dom) (a0 : D.F) (a1 : D.F) (a2 : D.F) (a3 : D.F) (a4 : D.F) (a5 : D.F) : D.F := (S77_1 D (S60_0 D a3 a0) (S60_1 D a4 a1) (S60_2 D a5 a2))
def S62_2 (D : Dom) (a0 : D.F) (a1 : D.F) (a2 : D.F) (a3 : D.F) (a4 : D.F) (a5 : D.F) : D.F := (S77_2 D (S60_0 D a3 a0) (S60_1 D a4 a1) (S60_2 D a5 a2))
def S62_3 (D : Dom) (a0 : D.F) (a1 : D.F) (a2 : D.F) (a3 : D.F) (a4 : D.F) (a5 : D.F) : D.F := (S82_0 D (S60_0 D a3 a0) (S60_1 D a4 a1) (S60_2 D a5 a2))
def S62_4 (D : Dom) (a0 : D.F) (a1 : D.F) (a2 : D.F) (a3 : D.F) (a4 : D.F) (a5 : D.F) : D.B := (S77_3 D (S60_0 D a3 a0) (S60_1 D a4 a1) (S60_2 D a5 a2))
theorem ev62 (D : Dom) (a0 : D.F) (a1 : D.F) (a2 : D.F) (a3 : D.F) (a4 : D.F) (a5 : D.F) : joinT (evFnH Try.prog (tbl_49 D) (lt_38_54 D) 80 62 [.agg [.fl a0, .fl a1, .fl a2], .agg [.fl a3, .fl a4, .fl a5]] [] 0) = .val none (.tup [.agg [.fl (S62_0 D a0 a1 a2 a3 a4 a5), .fl (S62_1 D a0 a1 a2 a3 a4 a5), .fl (S62_2 D a0 a1 a2 a3 a4 a5)], .fl (S62_3 D a0 a1 a2 a3 a4 a5), .sb (S62_4 D a0 a1 a2 a3 a4 a5)]) := by kernel_rfl
def sp62 : Ev.Spec := fun D l => argA l fun c0 r0 => argF c0 fun a0 r1 => argF r1 fun a1 r2 => argF r2 fun a2 r3 => arg0 r3 (argA r0 fun c100 r100 => argF c100 fun a3 r101 => argF r101 fun a4 r102 => argF r102 fun a5 r103 => arg0 r103 (arg0 r100 (.ret (.tup [.agg [.fl (S62_0 D a0 a1 a2 a3 a4 a5), .fl (S62_1 D a0 a1 a2 a3 a4 a5), .fl (S62_2 D a0 a1 a2 a3 a4 a5)], .fl (S62_3 D a0 a1 a2 a3 a4 a5), .sb (S62_4 D a0 a1 a2 a3 a4 a5)]))))
theorem en62 : ∀ l r, (sp62 R l).run = some r → Entry Try.prog 62 l r := by
  intro l r h
  obtain ⟨_, _, h, L0⟩ := argA_inv h
  obtain ⟨x1, _, h, L1⟩ := argF_inv h
  obtain ⟨x2, _, h, L2⟩ := argF_inv h
  obtain ⟨x3, _, h, L3⟩ := argF_inv h
  obtain ⟨h, L4⟩ := arg0_inv h
  obtain ⟨_, _, h, L5⟩ := argA_inv h
  obtain ⟨x6, _, h, L6⟩ := argF_inv h
  obtain ⟨x7, _, h, L7⟩ := argF_inv h
  obtain ⟨x8, _, h, L8⟩ := argF_inv h
  obtain ⟨h, L9⟩ := arg0_inv h
  obtain ⟨h, L10⟩ := arg0_inv h
  cases h
  exact (entry_loops prg tok_49 hok_38_54 (ev62 R x1 x2 x3 x6 x7 x8) (fun o ho => nomatch ho) rfl).le (L0 _ _ (L1 _ (L2 _ (L3 _ L4))) (L5 _ _ (L6 _ (L7 _ (L8 _ L9))) L10))
def tl_62 : List (Nat × Ev.Spec) := (62, sp62) :: tl_49
def tbl_62 (D : Dom) : Tbl D := tblOf tl_62 D
theorem tok_62 : TblOK Try.prog (tbl_62 R) := TblOK.cons tok_49 en62

-- penumbra/area.Cosine
def S61_0 (D : Dom) (a0 : D.F) (a1 : D.F) (a2 : D.F) (a3 : D.F) (a4 : D.F) (a5 : D.F) (a6 : D.F) (a7 : D.F) (a8 : D.F) (a9 : D.F) (a10 : D.F) (a11 : D.F) (a12 : D.F) (a13 : D.F) (a14 : D.F) : D.F := (D.fite (D.bite (D.bnot (S62_4 D a9 a10 a11 a12 a13 a14)) (D.bc true) (D.bnot (S58_3 D a0 a1 a2 a3 a4 a5 a6 a7 a8))) (D.fc 0) (D.fsub (D.fc 0) (S59_0 D (S62_0 D a9 a10 a11 a12 a13 a14) (S62_1 D a9 a10 a11 a12 a13 a14) (S62_2 D a9 a10 a11 a12 a13 a14) (S58_0 D a0 a1 a2 a3 a4 a5 a6 a7 a8) (S58_1 D a0 a1 a2 a3 a4 a5 a6 a7 a8) (S58_2 D a0 a1 a2 a3 a4 a5 a6 a7 a8))))
theorem ev61 (D : Dom) (a0 : D.F) (a1 : D.F) (a2 : D.F) (a3 : D.F) (a4 : D.F) (a5 : D.F) (a6 : D.F) (a7 : D.F) (a8 : D.F) (a9 : D.F) (a10 : D.F) (a11 : D.F) (a12 : D.F) (a13 : D.F) (a14 : D.F) : joinT (evFnH Try.prog (tbl_62 D) (lt_38_54 D) 80 61 [.agg [.fl a0, .fl a1, .fl a2, .fl a3, .fl a4, .fl a5, .fl a6, .fl a7, .fl a8], .agg [.fl a9, .fl a10, .fl a11], .agg [.fl a12, .fl a13, .fl a14]] [] 0) = .val none (.fl (S61_0 D a0 a1 a2 a3 a4 a5 a6 a7 a8 a9 a10 a11 a12 a13 a14)) := by kernel_rfl
def sp61 : Ev.Spec := fun D l => argA l fun c0 r0 => argF c0 fun a0 r1 => argF r1 fun a1 r2 => argF r2 fun a2 r3 => argF r3 fun a3 r4 => argF r4 fun a4 r5 => argF r5 fun a5 r6 => argF r6 fun a6 r7 => argF r7 fun a7 r8 => argF r8 fun a8 r9 => arg0 r9 (argA r0 fun c100 r100 => argF c100 fun a9 r101 => argF r101 fun a10 r102 => argF r102 fun a11 r103 => arg0 r103 (argA r100 fun c200 r200 => argF c200 fun a12 r201 => argF r201 fun a13 r202 => argF r202 fun a14 r203 => arg0 r203 (arg0 r200 (.ret (.fl (S61_0 D a0 a1 a2 a3 a4 a5 a6 a7 a8 a9 a10 a11 a12 a13 a14))))))
theorem en61 : ∀ l r, (sp61 R l).run = some r → Entry Try.prog 61 l r := by
  intro l r h
  obtain ⟨_, _, h, L0⟩ := argA_inv h
  obtain ⟨x1, _, h, L1⟩ := argF_inv h
  obtain ⟨x2, _, h, L2⟩ := argF_inv h
  obtain ⟨x3, _, h, L3⟩ := argF_inv h
  obtain ⟨x4, _, h, L4⟩ := argF_inv h
  obtain ⟨x5, _, h, L5⟩ := argF_inv h
  obtain ⟨x6, _, h, L6⟩ := argF_inv h
  obtain ⟨x7, _, h, L7⟩ := argF_inv h
  obtain ⟨x8, _, h, L8⟩ := argF_inv h
  obtain ⟨x9, _, h, L9⟩ := argF_inv h
  obtain ⟨h, L10⟩ := arg0_inv h
  obtain ⟨_, _, h, L11⟩ := argA_inv h
  obtain ⟨x12, _, h, L12⟩ := argF_inv h
  obtain ⟨x13, _, h, L13⟩ := argF_inv h
  obtain ⟨x14, _, h, L14⟩ := argF_inv h
  obtain ⟨h, L15⟩ := arg0_inv h
  obtain ⟨_, _, h, L16⟩ := argA_inv h
  obtain ⟨x17, _, h, L17⟩ := argF_inv h
  obtain ⟨x18, _, h, L18⟩ := argF_inv h
  obtain ⟨x19, _, h, L19⟩ := argF_inv h
  obtain ⟨h, L20⟩ := arg0_inv h
  obtain ⟨h, L21⟩ := arg0_inv h
  cases h
  exact (entry_loops prg tok_62 hok_38_54 (ev61 R x1 x2 x3 x4 x5 x6 x7 x8 x9 x12 x13 x14 x17 x18 x19) (fun o ho => nomatch ho) rfl).le (L0 _ _ (L1 _ (L2 _ (L3 _ (L4 _ (L5 _ (L6 _ (L7 _ (L8 _ (L9 _ L10))))))))) (L11 _ _ (L12 _ (L13 _ (L14 _ L15))) (L16 _ _ (L17 _ (L18 _ (L19 _ L20))) L21)))
def tl_61 : List (Nat × Ev.Spec) := (61, sp61) :: tl_62
def tbl_61 (D : Dom) : Tbl D := tblOf tl_61 D
theorem tok_61 : TblOK Try.prog (tbl_61 R) := TblOK.cons tok_62 en61

-- penumbra/area.plain
def S64_0 (D : Dom) (a0 : D.F) : D.F := (D.fite (D.bite (D.fge a0 (D.fc 0)) (S69_0 D a0) (D.bc false)) a0 (D.fc 0))
theorem ev64 (D : Dom) (a0 : D.F) : joinT (evFnH Try.prog (tbl_61 D) (lt_38_54 D) 80 64 [.fl a0] [] 0) = .val none (.fl (S64_0 D a0)) := by kernel_rfl
def sp64 : Ev.Spec := fun D l => argF l fun a0 r0 => arg0 r0 (.ret (.fl (S64_0 D a0)))
theorem en64 : ∀ l r, (sp64 R l).run = some r → Entry Try.prog 64 l r := by
  intro l r h
  obtain ⟨x0, _, h, L0⟩ := argF_inv h
  obtain ⟨h, L1⟩ := arg0_inv h
  cases h
  exact (entry_loops prg tok_61 hok_38_54 (ev64 R x0) (fun o ho => nomatch ho) rfl).le (L0 _ L1)
def tl_64 : List (Nat × Ev.Spec) := (64, sp64) :: tl_61
def tbl_64 (D : Dom) : Tbl D := tblOf tl_64 D
theorem tok_64 : TblOK Try.prog (tbl_64 R) := TblOK.cons tok_61 en64

-- penumbra/area.Density
def S65_0 (D : Dom) (a0 : D.F) (a1 : D.F) (a2 : D.F) (a3 : D.F) (a4 : D.F) (a5 : D.F) (a6 : D.F) (a7 : D.F) (a8 : D.F) : D.F := (D.fite (D.bnot (D.fgt (S71_0 D a0 a1 a2 a3 a4 a5 a6 a7 a8) (D.fc 0))) (D.fc 0) (S64_0 D (D.fdiv (D.fc 4607182418800017408) (S71_0 D a0 a1 a2 a3 a4 a5 a6 a7 a8))))
theorem ev65 (D : Dom) (a0 : D.F) (a1 : D.F) (a2 : D.F) (a3 : D.F) (a4 : D.F) (a5 : D.F) (a6 : D.F) (a7 : D.F) (a8 : D.F) : joinT (evFnH Try.prog (tbl_64 D) (lt_38_54 D) 80 65 [.agg [.fl a0, .fl a1, .fl a2, .fl a3, .fl a4, .fl a5, .fl a6, .fl a7, .fl a8]] [] 0) = .val none (.fl (S65_0 D a0 a1 a2 a3 a4 a5 a6 a7 a8)) := by kernel_rfl
def sp65 : Ev.Spec := fun D l => argA l fun c0 r0 => argF c0 fun a0 r1 => argF r1 fun a1 r2 => argF r2 fun a2 r3 => argF r3 fun a3 r4 => argF r4 fun a4 r5 => argF r5 fun a5 r6 => argF r6 fun a6 r7 => argF r7 fun a7 r8 => argF r8 fun a8 r9 => arg0 r9 (arg0 r0 (.ret (.fl (S65_0 D a0 a1 a2 a3 a4 a5 a6 a7 a8))))
theorem en65 : ∀ l r, (sp65 R l).run = some r → Entry Try.prog 65 l r := by
  intro l r h
  obtain ⟨_, _, h, L0⟩ := argA_inv h
  obtain ⟨x1, _, h, L1⟩ := argF_inv h
  obtain ⟨x2, _, h, L2⟩ := argF_inv h
  obtain ⟨x3, _, h, L3⟩ := argF_inv h
  obtain ⟨x4, _, h, L4⟩ := argF_inv h
  obtain ⟨x5, _, h, L5⟩ := argF_inv h
  obtain ⟨x6, _, h, L6⟩ := argF_inv h
  obtain ⟨x7, _, h, L7⟩ := argF_inv h
  obtain ⟨x8, _, h, L8⟩ := argF_inv h
  obtain ⟨x9, _, h, L9⟩ := argF_inv h
  obtain ⟨h, L10⟩ := arg0_inv h
  obtain ⟨h, L11⟩ := arg0_inv h
  cases h
  exact (entry_loops prg tok_64 hok_38_54 (ev65 R x1 x2 x3 x4 x5 x6 x7 x8 x9) (fun o ho => nomatch ho) rfl).le (L0 _ _ (L1 _ (L2 _ (L3 _ (L4 _ (L5 _ (L6 _ (L7 _ (L8 _ (L9 _ L10))))))))) L11)
def tl_65 : List (Nat × Ev.Spec) := (65, sp65) :: tl_64
def tbl_65 (D : Dom) : Tbl D := tblOf tl_65 D
theorem tok_65 : TblOK Try.prog (tbl_65 R) := TblOK.cons tok_64 en65

-- penumbra/area.Solid
def S31_0 (D : Dom) (a0 : D.F) (a1 : D.F) (a2 : D.F) (a3 : D.F) (a4 : D.F) (a5 : D.F) (a6 : D.F) (a7 : D.F) (a8 : D.F) (a9 : D.F) (a10 : D.F) (a11 : D.F) (a12 : D.F) (a13 : D.F) (a14 : D.F) : D.F := (D.fite (D.bnot (D.fgt (S61_0 D a0 a1 a2 a3 a4 a5 a6 a7 a8 a9 a10 a11 a12 a13 a14) (D.fc 0))) (D.fc 0) (S64_0 D (D.fdiv (D.fmul (S65_0 D a0 a1 a2 a3 a4 a5 a6 a7 a8) (S62_3 D a9 a10 a11 a12 a13 a14)) (S61_0 D a0 a1 a2 a3 a4 a5 a6 a7 a8 a9 a10 a11 a12 a13 a14))))
theorem ev31 (D : Dom) (a0 : D.F) (a1 : D.F) (a2 : D.F) (a3 : D.F) (a4 : D.F) (a5 : D.F) (a6 : D.F) (a7 : D.F) (a8 : D.F) (a9 : D.F) (a10 : D.F) (a11 : D.F) (a12 : D.F) (a13 : D.F) (a14 : D.F) : joinT (evFnH Try.prog (tbl_65 D) (lt_38_54 D) 80 31 [.agg [.fl a0, .fl a1, .fl a2, .fl a3, .fl a4, .fl a5, .fl a6, .fl a7, .fl a8], .agg [.fl a9, .fl a10, .fl a11], .agg [.fl a12, .fl a13, .fl a14]] [] 0) = .val none (.fl (S31_0 D a0 a1 a2 a3 a4 a5 a6 a7 a8 a9 a10 a11 a12 a13 a14)) := by kernel_rfl
def sp31 : Ev.Spec := fun D l => argA l fun c0 r0 => argF c0 fun a0 r1 => argF r1 fun a1 r2 => argF r2 fun a2 r3 => argF r3 fun a3 r4 => argF r4 fun a4 r5 => argF r5 fun a5 r6 => argF r6 fun a6 r7 => argF r7 fun a7 r8 => argF r8 fun a8 r9 => arg0 r9 (argA r0 fun c100 r100 => argF c100 fun a9 r101 => argF r101 fun a10 r102 => argF r102 fun a11 r103 => arg0 r103 (argA r100 fun c200 r200 => argF c200 fun a12 r201 => argF r201 fun a13 r202 => argF r202 fun a14 r203 => arg0 r203 (arg0 r200 (.ret (.fl (S31_0 D a0 a1 a2 a3 a4 a5 a6 a7 a8 a9 a10 a11 a12 a13 a14))))))
theorem en31 : ∀ l r, (sp31 R l).run = some r → Entry Try.prog 31 l r := by
  intro l r h
  obtain ⟨_, _, h, L0⟩ := argA_inv h
  obtain ⟨x1, _, h, L1⟩ := argF_inv h
  obtain ⟨x2, _, h, L2⟩ := argF_inv h
  obtain ⟨x3, _, h, L3⟩ := argF_inv h
  obtain ⟨x4, _, h, L4⟩ := argF_inv h
  obtain ⟨x5, _, h, L5⟩ := argF_inv h
  obtain ⟨x6, _, h, L6⟩ := argF_inv h
  obtain ⟨x7, _, h, L7⟩ := argF_inv h
  obtain ⟨x8, _, h, L8⟩ := argF_inv h
  obtain ⟨x9, _, h, L9⟩ := argF_inv h
  obtain ⟨h, L10⟩ := arg0_inv h
  obtain ⟨_, _, h, L11⟩ := argA_inv h
  obtain ⟨x12, _, h, L12⟩ := argF_inv h
  obtain ⟨x13, _, h, L13⟩ := argF_inv h
  obtain ⟨x14, _, h, L14⟩ := argF_inv h
  obtain ⟨h, L15⟩ := arg0_inv h
  obtain ⟨_, _, h, L16⟩ := argA_inv h
  obtain ⟨x17, _, h, L17⟩ := argF_inv h
  obtain ⟨x18, _, h, L18⟩ := argF_inv h
  obtain ⟨x19, _, h, L19⟩ := argF_inv h
  obtain ⟨h, L20⟩ := arg0_inv h
  obtain ⟨h, L21⟩ := arg0_inv h
  cases h
  exact (entry_loops prg tok_65 hok_38_54 (ev31 R x1 x2 x3 x4 x5 x6 x7 x8 x9 x12 x13 x14 x17 x18 x19) (fun o ho => nomatch ho) rfl).le (L0 _ _ (L1 _ (L2 _ (L3 _ (L4 _ (L5 _ (L6 _ (L7 _ (L8 _ (L9 _ L10))))))))) (L11 _ _ (L12 _ (L13 _ (L14 _ L15))) (L16 _ _ (L17 _ (L18 _ (L19 _ L20))) L21)))
def tl_31 : List (Nat × Ev.Spec) := (31, sp31) :: tl_65
def tbl_31 (D : Dom) : Tbl D := tblOf tl_31 D
theorem tok_31 : TblOK Try.prog (tbl_31 R) := TblOK.cons tok_65 en31

-- penumbra/penumbraref02.Unit
def S32_0 (D : Dom) (a0 : D.F) (a1 : D.F) (a2 : D.F) : D.F := (D.fite (D.bite (D.fgt (S66_0 D (S34_0 D a0 a1 a2 a0 a1 a2)) (D.fc 0)) (S57_0 D (S66_0 D (S34_0 D a0 a1 a2 a0 a1 a2))) (D.bc false)) (D.fdiv a0 (S66_0 D (S34_0 D a0 a1 a2 a0 a1 a2))) (D.fc 0))
def S32_1 (D : Dom) (a0 : D.F) (a1 : D.F) (a2 : D.F) : D.F := (D.fite (D.bite (D.fgt (S66_0 D (S34_0 D a0 a1 a2 a0 a1 a2)) (D.fc 0)) (S57_0 D (S66_0 D (S34_0 D a0 a1 a2 a0 a1 a2))) (D.bc false)) (D.fdiv a1 (S66_0 D (S34_0 D a0 a1 a2 a0 a1 a2))) (D.fc 0))
def S32_2 (D : Dom) (a0 : D.F) (a1 : D.F) (a2 : D.F) : D.F := (D.fite (D.bite (D.fgt (S66_0 D (S34_0 D a0 a1 a2 a0 a1 a2)) (D.fc 0)) (S57_0 D (S66_0 D (S34_0 D a0 a1 a2 a0 a1 a2))) (D.bc false)) (D.fdiv a2 (S66_0 D (S34_0 D a0 a1 a2 a0 a1 a2))) (D.fc 0))
def S32_3 (D : Dom) (a0 : D.F) (a1 : D.F) (a2 : D.F) : D.B := (D.bite (D.bite (D.fgt (S66_0 D (S34_0 D a0 a1 a2 a0 a1 a2)) (D.fc 0)) (S57_0 D (S66_0 D (S34_0 D a0 a1 a2 a0 a1 a2))) (D.bc false)) (D.bc true) (D.bc false))
theorem ev32 (D : Dom) (a0 : D.F) (a1 : D.F) (a2 : D.F) : joinT (evFnH Try.prog (tbl_31 D) (lt_38_54 D) 80 32 [.agg [.fl a0, .fl a1, .fl a2]] [] 0) = .val none (.tup [.agg [.fl (S32_0 D a0 a1 a2), .fl (S32_1 D a0 a1 a2), .fl (S32_2 D a0 a1 a2)], .sb (S32_3 D a0 a1 a2)]) := by kernel_rfl
def sp32 : Ev.Spec := fun D l => argA l fun c0 r0 => argF c0 fun a0 r1 => argF r1 fun a1 r2 => argF r2 fun a2 r3 => arg0 r3 (arg0 r0 (.ret (.tup [.agg [.fl (S32_0 D a0 a1 a2), .fl (S32_1 D a0 a1 a2), .fl (S32_2 D a0 a1 a2)], .sb (S32_3 D a0 a1 a2)])))
theorem en32 : ∀ l r, (sp32 R l).run = some r → Entry Try.prog 32 l r := by
  intro l r h
  obtain ⟨_, _, h, L0⟩ := argA_inv h
  obtain ⟨x1, _, h, L1⟩ := argF_inv h
  obtain ⟨x2, _, h, L2⟩ := argF_inv h
  obtain ⟨x3, _, h, L3⟩ := argF_inv h
  obtain ⟨h, L4⟩ := arg0_inv h
  obtain ⟨h, L5⟩ := arg0_inv h
  cases h
  exact (entry_loops prg tok_31 hok_38_54 (ev32 R x1 x2 x3) (fun o ho => nomatch ho) rfl).le (L0 _ _ (L1 _ (L2 _ (L3 _ L4))) L5)
def tl_32 : List (Nat × Ev.Spec) := (32, sp32) :: tl_31
def tbl_32 (D : Dom) : Tbl D := tblOf tl_32 D
theorem tok_32 : TblOK Try.prog (tbl_32 R) := TblOK.cons tok_31 en32

-- penumbra/penumbraref18.Front
def S19_0 (D : Dom) (a0 : D.F) (a1 : D.F) (a2 : D.F) (a3 : D.F) (a4 : D.F) (a5 : D.F) (a6 : D.F) (a7 : D.F) (a8 : D.F) (a9 : D.F) (a10 : D.F) (a11 : D.F) : D.B := (D.bite (S32_3 D (S33_0 D a1 a2 a4 a5 a7 a8) (S33_1 D a0 a2 a3 a5 a6 a8) (S33_2 D a0 a1 a3 a4 a6 a7)) (D.fgt (S34_0 D (S32_0 D (S33_0 D a1 a2 a4 a5 a7 a8) (S33_1 D a0 a2 a3 a5 a6 a8) (S33_2 D a0 a1 a3 a4 a6 a7)) (S32_1 D (S33_0 D a1 a2 a4 a5 a7 a8) (S33_1 D a0 a2 a3 a5 a6 a8) (S33_2 D a0 a1 a3 a4 a6 a7)) (S32_2 D (S33_0 D a1 a2 a4 a5 a7 a8) (S33_1 D a0 a2 a3 a5 a6 a8) (S33_2 D a0 a1 a3 a4 a6 a7)) (S35_0 D a9 a0) (S35_1 D a10 a1) (S35_2 D a11 a2)) (D.fc 0)) (D.bc false))
theorem ev19 (D : Dom) (a0 : D.F) (a1 : D.F) (a2 : D.F) (a3 : D.F) (a4 : D.F) (a5 : D.F) (a6 : D.F) (a7 : D.F) (a8 : D.F) (a9 : D.F) (a10 : D.F) (a11 : D.F) : joinT (evFnH Try.prog (tbl_32 D) (lt_38_54 D) 80 19 [.agg [.fl a0, .fl a1, .fl a2, .fl a3, .fl a4, .fl a5, .fl a6, .fl a7, .fl a8], .agg [.fl a9, .fl a10, .fl a11]] [] 0) = .val none (.sb (S19_0 D a0 a1 a2 a3 a4 a5 a6 a7 a8 a9 a10 a11)) := by kernel_rfl
def sp19 : Ev.Spec := fun D l => argA l fun c0 r0 => argF c0 fun a0 r1 => argF r1 fun a1 r2 => argF r2 fun a2 r3 => argF r3 fun a3 r4 => argF r4 fun a4 r5 => argF r5 fun a5 r6 => argF r6 fun a6 r7 => argF r7 fun a7 r8 => argF r8 fun a8 r9 => arg0 r9 (argA r0 fun c100 r100 => argF c100 fun a9 r101 => argF r101 fun a10 r102 => argF r102 fun a11 r103 => arg0 r103 (arg0 r100 (.ret (.sb (S19_0 D a0 a1 a2 a3 a4 a5 a6 a7 a8 a9 a10 a11)))))
theorem en19 : ∀ l r, (sp19 R l).run = some r → Entry Try.prog 19 l r := by
  intro l r h
  obtain ⟨_, _, h, L0⟩ := argA_inv h
  obtain ⟨x1, _, h, L1⟩ := argF_inv h
  obtain ⟨x2, _, h, L2⟩ := argF_inv h
  obtain ⟨x3, _, h, L3⟩ := argF_inv h
  obtain ⟨x4, _, h, L4⟩ := argF_inv h
  obtain ⟨x5, _, h, L5⟩ := argF_inv h
  obtain ⟨x6, _, h, L6⟩ := argF_inv h
  obtain ⟨x7, _, h, L7⟩ := argF_inv h
  obtain ⟨x8, _, h, L8⟩ := argF_inv h
  obtain ⟨x9, _, h, L9⟩ := argF_inv h
  obtain ⟨h, L10⟩ := arg0_inv h
  obtain ⟨_, _, h, L11⟩ := argA_inv h
  obtain ⟨x12, _, h, L12⟩ := argF_inv h
  obtain ⟨x13, _, h, L13⟩ := argF_inv h
  obtain ⟨x14, _, h, L14⟩ := argF_inv h
  obtain ⟨h, L15⟩ := arg0_inv h
  obtain ⟨h, L16⟩ := arg0_inv h
  cases h
  exact (entry_loops prg tok_32 hok_38_54 (ev19 R x1 x2 x3 x4 x5 x6 x7 x8 x9 x12 x13 x14) (fun o ho => nomatch ho) rfl).le (L0 _ _ (L1 _ (L2 _ (L3 _ (L4 _ (L5 _ (L6 _ (L7 _ (L8 _ (L9 _ L10))))))))) (L11 _ _ (L12 _ (L13 _ (L14 _ L15))) L16))
def tl_19 : List (Nat × Ev.Spec) := (19, sp19) :: tl_32
def tbl_19 (D : Dom) : Tbl D := tblOf tl_19 D
theorem tok_19 : TblOK Try.prog (tbl_19 R) := TblOK.cons tok_32 en19

-- penumbra/penumbraref11.Cosine
def S36_0 (D : Dom) (a0 : D.F) (a1 : D.F) (a2 : D.F) (a3 : D.F) (a4 : D.F) (a5 : D.F) (a6 : D.F) (a7 : D.F) (a8 : D.F) (a9 : D.F) (a10 : D.F) (a11 : D.F) (a12 : D.F) (a13 : D.F) (a14 : D.F) : D.F := (D.fite (D.bite (S32_3 D (S35_0 D a12 a9) (S35_1 D a13 a10) (S35_2 D a14 a11)) (S32_3 D (S33_0 D a1 a2 a4 a5 a7 a8) (S33_1 D a0 a2 a3 a5 a6 a8) (S33_2 D a0 a1 a3 a4 a6 a7)) (D.bc false)) (D.fsub (D.fc 0) (S34_0 D (S32_0 D (S35_0 D a12 a9) (S35_1 D a13 a10) (S35_2 D a14 a11)) (S32_1 D (S35_0 D a12 a9) (S35_1 D a13 a10) (S35_2 D a14 a11)) (S32_2 D (S35_0 D a12 a9) (S35_1 D a13 a10) (S35_2 D a14 a11)) (S32_0 D (S33_0 D a1 a2 a4 a5 a7 a8) (S33_1 D a0 a2 a3 a5 a6 a8) (S33_2 D a0 a1 a3 a4 a6 a7)) (S32_1 D (S33_0 D a1 a2 a4 a5 a7 a8) (S33_1 D a0 a2 a3 a5 a6 a8) (S33_2 D a0 a1 a3 a4 a6 a7)) (S32_2 D (S33_0 D a1 a2 a4 a5 a7 a8) (S33_1 D a0 a2 a3 a5 a6 a8) (S33_2 D a0 a1 a3 a4 a6 a7)))) (D.fc 0))
theorem ev36 (D : Dom) (a0 : D.F) (a1 : D.F) (a2 : D.F) (a3 : D.F) (a4 : D.F) (a5 : D.F) (a6 : D.F) (a7 : D.F) (a8 : D.F) (a9 : D.F) (a10 : D.F) (a11 : D.F) (a12 : D.F) (a13 : D.F) (a14 : D.F) : joinT (evFnH Try.prog (tbl_19 D) (lt_38_54 D) 80 36 [.agg [.fl a0, .fl a1, .fl a2, .fl a3, .fl a4, .fl a5, .fl a6, .fl a7, .fl a8], .agg [.fl a9, .fl a10, .fl a11], .agg [.fl a12, .fl a13, .fl a14]] [] 0) = .val none (.fl (S36_0 D a0 a1 a2 a3 a4 a5 a6 a7 a8 a9 a10 a11 a12 a13 a14)) := by kernel_rfl
def sp36 : Ev.Spec := fun D l => argA l fun c0 r0 => argF c0 fun a0 r1 => argF r1 fun a1 r2 => argF r2 fun a2 r3 => argF r3 fun a3 r4 => argF r4 fun a4 r5 => argF r5 fun a5 r6 => argF r6 fun a6 r7 => argF r7 fun a7 r8 => argF r8 fun a8 r9 => arg0 r9 (argA r0 fun c100 r100 => argF c100 fun a9 r101 => argF r101 fun a10 r102 => argF r102 fun a11 r103 => arg0 r103 (argA r100 fun c200 r200 => argF c200 fun a12 r201 => argF r201 fun a13 r202 => argF r202 fun a14 r203 => arg0 r203 (arg0 r200 (.ret (.fl (S36_0 D a0 a1 a2 a3 a4 a5 a6 a7 a8 a9 a10 a11 a12 a13 a14))))))
theorem en36 : ∀ l r, (sp36 R l).run = some r → Entry Try.prog 36 l r := by
  intro l r h
  obtain ⟨_, _, h, L0⟩ := argA_inv h
  obtain ⟨x1, _, h, L1⟩ := argF_inv h
  obtain ⟨x2, _, h, L2⟩ := argF_inv h
  obtain ⟨x3, _, h, L3⟩ := argF_inv h
  obtain ⟨x4, _, h, L4⟩ := argF_inv h
  obtain ⟨x5, _, h, L5⟩ := argF_inv h
  obtain ⟨x6, _, h, L6⟩ := argF_inv h
  obtain ⟨x7, _, h, L7⟩ := argF_inv h
  obtain ⟨x8, _, h, L8⟩ := argF_inv h
  obtain ⟨x9, _, h, L9⟩ := argF_inv h
  obtain ⟨h, L10⟩ := arg0_inv h
  obtain ⟨_, _, h, L11⟩ := argA_inv h
  obtain ⟨x12, _, h, L12⟩ := argF_inv h
  obtain ⟨x13, _, h, L13⟩ := argF_inv h
  obtain ⟨x14, _, h, L14⟩ := argF_inv h
  obtain ⟨h, L15⟩ := arg0_inv h
  obtain ⟨_, _, h, L16⟩ := argA_inv h
  obtain ⟨x17, _, h, L17⟩ := argF_inv h
  obtain ⟨x18, _, h, L18⟩ := argF_inv h
  obtain ⟨x19, _, h, L19⟩ := argF_inv h
  obtain ⟨h, L20⟩ := arg0_inv h
  obtain ⟨h, L21⟩ := arg0_inv h
  cases h
  exact (entry_loops prg tok_19 hok_38_54 (ev36 R x1 x2 x3 x4 x5 x6 x7 x8 x9 x12 x13 x14 x17 x18 x19) (fun o ho => nomatch ho) rfl).le (L0 _ _ (L1 _ (L2 _ (L3 _ (L4 _ (L5 _ (L6 _ (L7 _ (L8 _ (L9 _ L10))))))))) (L11 _ _ (L12 _ (L13 _ (L14 _ L15))) (L16 _ _ (L17 _ (L18 _ (L19 _ L20))) L21)))
def tl_36 : List (Nat × Ev.Spec) := (36, sp36) :: tl_19
def tbl_36 (D : Dom) : Tbl D := tblOf tl_36 D
theorem tok_36 : TblOK Try.prog (tbl_36 R) := TblOK.cons tok_19 en36

-- penumbra/penumbraref11.Plain
def S38_0 (D : Dom) (a0 : D.F) : D.F := (D.fite (D.bite (S57_0 D a0) (D.fge a0 (D.fc 0)) (D.bc false)) a0 (D.fc 0))
theorem ev38 (D : Dom) (a0 : D.F) : joinT (evFnH Try.prog (tbl_36 D) (lt_38_54 D) 80 38 [.fl a0] [] 0) = .val none (.fl (S38_0 D a0)) := by kernel_rfl
def sp38 : Ev.Spec := fun D l => argF l fun a0 r0 => arg0 r0 (.ret (.fl (S38_0 D a0)))
theorem en38 : ∀ l r, (sp38 R l).run = some r → Entry Try.prog 38 l r := by
  intro l r h
  obtain ⟨x0, _, h, L0⟩ := argF_inv h
  obtain ⟨h, L1⟩ := arg0_inv h
  cases h
  exact (entry_loops prg tok_36 hok_38_54 (ev38 R x0) (fun o ho => nomatch ho) rfl).le (L0 _ L1)
def tl_38 : List (Nat × Ev.Spec) := (38, sp38) :: tl_36
def tbl_38 (D : Dom) : Tbl D := tblOf tl_38 D
theorem tok_38 : TblOK Try.prog (tbl_38 R) := TblOK.cons tok_36 en38

-- penumbra/penumbraref11.Density
def S37_0 (D : Dom) (a0 : D.F) (a1 : D.F) (a2 : D.F) (a3 : D.F) (a4 : D.F) (a5 : D.F) (a6 : D.F) (a7 : D.F) (a8 : D.F) : D.F := (D.fite (D.fgt (D.fmul (S66_0 D (S34_0 D (S33_0 D a1 a2 a4 a5 a7 a8) (S33_1 D a0 a2 a3 a5 a6 a8) (S33_2 D a0 a1 a3 a4 a6 a7) (S33_0 D a1 a2 a4 a5 a7 a8) (S33_1 D a0 a2 a3 a5 a6 a8) (S33_2 D a0 a1 a3 a4 a6 a7))) (D.fc 4602678819172646912)) (D.fc 0)) (S38_0 D (D.fdiv (D.fc 4607182418800017408) (D.fmul (S66_0 D (S34_0 D (S33_0 D a1 a2 a4 a5 a7 a8) (S33_1 D a0 a2 a3 a5 a6 a8) (S33_2 D a0 a1 a3 a4 a6 a7) (S33_0 D a1 a2 a4 a5 a7 a8) (S33_1 D a0 a2 a3 a5 a6 a8) (S33_2 D a0 a1 a3 a4 a6 a7))) (D.fc 4602678819172646912)))) (D.fc 0))
theorem ev37 (D : Dom) (a0 : D.F) (a1 : D.F) (a2 : D.F) (a3 : D.F) (a4 : D.F) (a5 : D.F) (a6 : D.F) (a7 : D.F) (a8 : D.F) : joinT (evFnH Try.prog (tbl_38 D) (lt_38_54 D) 80 37 [.agg [.fl a0, .fl a1, .fl a2, .fl a3, .fl a4, .fl a5, .fl a6, .fl a7, .fl a8]] [] 0) = .val none (.fl (S37_0 D a0 a1 a2 a3 a4 a5 a6 a7 a8)) := by kernel_rfl
def sp37 : Ev.Spec := fun D l => argA l fun c0 r0 => argF c0 fun a0 r1 => argF r1 fun a1 r2 => argF r2 fun a2 r3 => argF r3 fun a3 r4 => argF r4 fun a4 r5 => argF r5 fun a5 r6 => argF r6 fun a6 r7 => argF r7 fun a7 r8 => argF r8 fun a8 r9 => arg0 r9 (arg0 r0 (.ret (.fl (S37_0 D a0 a1 a2 a3 a4 a5 a6 a7 a8))))
theorem en37 : ∀ l r, (sp37 R l).run = some r → Entry Try.prog 37 l r := by
  intro l r h
  obtain ⟨_, _, h, L0⟩ := argA_inv h
  obtain ⟨x1, _, h, L1⟩ := argF_inv h
  obtain ⟨x2, _, h, L2⟩ := argF_inv h
  obtain ⟨x3, _, h, L3⟩ := argF_inv h
  obtain ⟨x4, _, h, L4⟩ := argF_inv h
  obtain ⟨x5, _, h, L5⟩ := argF_inv h
  obtain ⟨x6, _, h, L6⟩ := argF_inv h
  obtain ⟨x7, _, h, L7⟩ := argF_inv h
  obtain ⟨x8, _, h, L8⟩ := argF_inv h
  obtain ⟨x9, _, h, L9⟩ := argF_inv h
  obtain ⟨h, L10⟩ := arg0_inv h
  obtain ⟨h, L11⟩ := arg0_inv h
  cases h
  exact (entry_loops prg tok_38 hok_38_54 (ev37 R x1 x2 x3 x4 x5 x6 x7 x8 x9) (fun o ho => nomatch ho) rfl).le (L0 _ _ (L1 _ (L2 _ (L3 _ (L4 _ (L5 _ (L6 _ (L7 _ (L8 _ (L9 _ L10))))))))) L11)
def tl_37 : List (Nat × Ev.Spec) := (37, sp37) :: tl_38
def tbl_37 (D : Dom) : Tbl D := tblOf tl_37 D
theorem tok_37 : TblOK Try.prog (tbl_37 R) := TblOK.cons tok_38 en37

-- penumbra/penumbraref11.Solid
def S20_0 (D : Dom) (a0 : D.F) (a1 : D.F) (a2 : D.F) (a3 : D.F) (a4 : D.F) (a5 : D.F) (a6 : D.F) (a7 : D.F) (a8 : D.F) (a9 : D.F) (a10 : D.F) (a11 : D.F) (a12 : D.F) (a13 : D.F) (a14 : D.F) : D.F := (D.fite (D.fgt (S36_0 D a0 a1 a2 a3 a4 a5 a6 a7 a8 a9 a10 a11 a12 a13 a14) (D.fc 0)) (S38_0 D (D.fdiv (D.fmul (S37_0 D a0 a1 a2 a3 a4 a5 a6 a7 a8) (S34_0 D (S35_0 D a12 a9) (S35_1 D a13 a10) (S35_2 D a14 a11) (S35_0 D a12 a9) (S35_1 D a13 a10) (S35_2 D a14 a11))) (S36_0 D a0 a1 a2 a3 a4 a5 a6 a7 a8 a9 a10 a11 a12 a13 a14))) (D.fc 0))
theorem ev20 (D : Dom) (a0 : D.F) (a1 : D.F) (a2 : D.F) (a3 : D.F) (a4 : D.F) (a5 : D.F) (a6 : D.F) (a7 : D.F) (a8 : D.F) (a9 : D.F) (a10 : D.F) (a11 : D.F) (a12 : D.F) (a13 : D.F) (a14 : D.F) : joinT (evFnH Try.prog (tbl_37 D) (lt_38_54 D) 80 20 [.agg [.fl a0, .fl a1, .fl a2, .fl a3, .fl a4, .fl a5, .fl a6, .fl a7, .fl a8], .agg [.fl a9, .fl a10, .fl a11], .agg [.fl a12, .fl a13, .fl a14]] [] 0) = .val none (.fl (S20_0 D a0 a1 a2 a3 a4 a5 a6 a7 a8 a9 a10 a11 a12 a13 a14)) := by kernel_rfl
def sp20 : Ev.Spec := fun D l => argA l fun c0 r0 => argF c0 fun a0 r1 => argF r1 fun a1 r2 => argF r2 fun a2 r3 => argF r3 fun a3 r4 => argF r4 fun a4 r5 => argF r5 fun a5 r6 => argF r6 fun a6 r7 => argF r7 fun a7 r8 => argF r8 fun a8 r9 => arg0 r9 (argA r0 fun c100 r100 => argF c100 fun a9 r101 => argF r101 fun a10 r102 => argF r102 fun a11 r103 => arg0 r103 (argA r100 fun c200 r200 => argF c200 fun a12 r201 => argF r201 fun a13 r202 => argF r202 fun a14 r203 => arg0 r203 (arg0 r200 (.ret (.fl (S20_0 D a0 a1 a2 a3 a4 a5 a6 a7 a8 a9 a10 a11 a12 a13 a14))))))
theorem en20 : ∀ l r, (sp20 R l).run = some r → Entry Try.prog 20 l r := by
  intro l r h
  obtain ⟨_, _, h, L0⟩ := argA_inv h
  obtain ⟨x1, _, h, L1⟩ := argF_inv h
  obtain ⟨x2, _, h, L2⟩ := argF_inv h
  obtain ⟨x3, _, h, L3⟩ := argF_inv h
  obtain ⟨x4, _, h, L4⟩ := argF_inv h
  obtain ⟨x5, _, h, L5⟩ := argF_inv h
  obtain ⟨x6, _, h, L6⟩ := argF_inv h
  obtain ⟨x7, _, h, L7⟩ := argF_inv h
  obtain ⟨x8, _, h, L8⟩ := argF_inv h
  obtain ⟨x9, _, h, L9⟩ := argF_inv h
  obtain ⟨h, L10⟩ := arg0_inv h
  obtain ⟨_, _, h, L11⟩ := argA_inv h
  obtain ⟨x12, _, h, L12⟩ := argF_inv h
  obtain ⟨x13, _, h, L13⟩ := argF_inv h
  obtain ⟨x14, _, h, L14⟩ := argF_inv h
  obtain ⟨h, L15⟩ := arg0_inv h
  obtain ⟨_, _, h, L16⟩ := argA_inv h
  obtain ⟨x17, _, h, L17⟩ := argF_inv h
  obtain ⟨x18, _, h, L18⟩ := argF_inv h
  obtain ⟨x19, _, h, L19⟩ := argF_inv h
  obtain ⟨h, L20⟩ := arg0_inv h
  obtain ⟨h, L21⟩ := arg0_inv h
  cases h
  exact (entry_loops prg tok_37 hok_38_54 (ev20 R x1 x2 x3 x4 x5 x6 x7 x8 x9 x12 x13 x14 x17 x18 x19) (fun o ho => nomatch ho) rfl).le (L0 _ _ (L1 _ (L2 _ (L3 _ (L4 _ (L5 _ (L6 _ (L7 _ (L8 _ (L9 _ L10))))))))) (L11 _ _ (L12 _ (L13 _ (L14 _ L15))) (L16 _ _ (L17 _ (L18 _ (L19 _ L20))) L21)))
def tl_20 : List (Nat × Ev.Spec) := (20, sp20) :: tl_37
def tbl_20 (D : Dom) : Tbl D := tblOf tl_20 D
theorem tok_20 : TblOK Try.prog (tbl_20 R) := TblOK.cons tok_37 en20
def js_55 : List (Nat × Nat × HSh) := js_54 ++ [(16, 19, ⟨9, 11, [.ctx, .ctx, .ctx, .slot [.f, .f, .f, .f, .f, .f, .f, .f, .f] 9, .ctx, .ctx, .ctx, .ctx, .ctx, .ctx, .ctx, .ctx, .ctx, .ctx, .ctx, .ctx, .ctx, .ctx, .ctx, .ctx, .drop, .drop, .drop, .drop, .drop, .drop, .drop, .ctx], [], [], [8]⟩)]
noncomputable def lt_38_55 (D : Dom) : LTb D := ltOf (ll_38 D) js_55
theorem hok_38_55 : HooksOK Try.prog (lt_38_55 R) := hok_38_54.jt
def sh_38 : HSh := ⟨8, 11, [.env (.sslice 0 .part none () 9), .env (.undef), .env (.nils), .slot [.f, .f, .f, .f, .f, .f, .f, .f, .f] 9, .var (.si .i64 ()), .drop, .drop, .drop, .drop, .drop, .drop, .drop, .drop, .drop, .drop, .drop, .drop, .drop, .drop, .drop, .drop, .drop, .drop, .drop, .drop, .drop, .drop, .env (.undef)], [], [(0, [.row true [.f, .f, .f, .f, .f, .f, .f, .f, .f] ()])], []⟩
def st_38 (D : Dom) (env p : List (PD D)) : D.B × D.B × List (PD D) := G6 D (nthZ env 0) (nthL env 1) p
theorem rd_38 (D : Dom) (env vars : List (PD D)) (ctx : List (AV D)) : (sh_38.round (sh_38.st env vars ctx).h.length (evCodeH Try.prog (tbl_20 D) (lt_38_55 D) 80 16 (loopB Try.prog 16 0) (sh_38.st env vars ctx))).map Nr.step = some (st_38 D env vars) := by kernel_rfl
noncomputable def ll_39 (D : Dom) : List (LE D) := ⟨16, 0, sh_38, st_38 D, fun s => evCodeH Try.prog (tbl_20 D) (lt_38_55 D) 80 16 (loopB Try.prog 16 0) s⟩ :: ll_38 D
noncomputable def lt_39_55 (D : Dom) : LTb D := ltOf (ll_39 D) js_55
theorem hok_39_55 : HooksOK Try.prog (lt_39_55 R) := HooksOK.cons prg tok_20 hok_38_55 (by kernel_rfl) (by kernel_rfl) (rd_38 R)
def sh_39 : HSh := ⟨12, 12, [.env (.agg [.si .i64 (), .sslice 2 .part none () 3]), .env (.ptr 11 0), .var (.sb ()), .var (.si .i64 ()), .env (.ptr 11 0), .env (.si .i64 ()), .env (.sb ()), .env (.sb ()), .env (.any), .env (.any), .env (.any), .env (.sb ()), .env (.sb ()), .env (.any), .env (.any), .env (.any), .env (.any), .env (.any), .env (.any), .env (.any), .env (.sb ()), .drop, .drop, .drop, .drop, .drop, .drop, .drop, .drop, .drop, .drop, .drop, .drop, .drop, .drop], [], [(2, [.row true [.f, .f, .f] ()]), (11, [.si .i64 (), .sslice 2 .part none () 3])], []⟩
def st_39 (D : Dom) (env p : List (PD D)) : D.B × D.B × List (PD D) := G7 D (nthL env 8) (nthZ env 10) p
theorem rd_39 (D : Dom) (env vars : List (PD D)) (ctx : List (AV D)) : (sh_39.round (sh_39.st env vars ctx).h.length (evCodeH Try.prog (tbl_20 D) (lt_39_55 D) 80 15 (loopB Try.prog 15 0) (sh_39.st env vars ctx))).map Nr.step = some (st_39 D env vars) := by kernel_rfl
noncomputable def ll_40 (D : Dom) : List (LE D) := ⟨15, 0, sh_39, st_39 D, fun s => evCodeH Try.prog (tbl_20 D) (lt_39_55 D) 80 15 (loopB Try.prog 15 0) s⟩ :: ll_39 D
noncomputable def lt_40_55 (D : Dom) : LTb D := ltOf (ll_40 D) js_55
theorem hok_40_55 : HooksOK Try.prog (lt_40_55 R) := HooksOK.cons prg tok_20 hok_39_55 (by kernel_rfl) (by kernel_rfl) (rd_39 R)
def js_56 : List (Nat × Nat × HSh) := js_55 ++ [(15, 2000000, ⟨11, 12, [.var (.sb ())], [], [], []⟩)]
noncomputable def lt_40_56 (D : Dom) : LTb D := ltOf (ll_40 D) js_56
theorem hok_40_56 : HooksOK Try.prog (lt_40_56 R) := hok_40_55.jt
def sh_40 : HSh := ⟨13, 17, [.env (.agg [.si .i64 (), .sslice 2 .part none () 3]), .env (.ptr 12 0), .var (.nilp), .var (.si .i64 ()), .slot [.z .i64] 1, .env (.undef), .drop, .env (.undef), .env (.ptr 12 0), .env (.si .i64 ()), .env (.sb ()), .env (.sb ()), .env (.any), .env (.any), .env (.any), .env (.sb ()), .env (.sb ()), .env (.any), .env (.any), .env (.any), .env (.any), .env (.any), .env (.any), .env (.any), .env (.sb ()), .env (.ptr 12 1), .env (.sslice 2 .part none () 3), .env (.si .i64 ()), .var (.si .i64 ()), .drop, .drop, .drop, .drop, .drop, .drop, .drop, .drop, .drop, .drop, .drop, .drop, .env (.undef), .env (.undef), .env (.undef), .env (.undef), .env (.undef), .env (.undef), .env (.undef), .env (.undef), .env (.undef), .env (.undef), .env (.undef), .env (.undef), .env (.undef), .env (.undef), .env (.undef), .env (.undef), .env (.undef)], [], [(2, [.row true [.f, .f, .f] ()]), (12, [.si .i64 (), .sslice 2 .part none () 3])], []⟩
def st_40 (D : Dom) (env p : List (PD D)) : D.B × D.B × List (PD D) := G8 D (nthZ env 8) (nthZ env 9) (nthL env 10) p
theorem rd_40 (D : Dom) (env vars : List (PD D)) (ctx : List (AV D)) : (sh_40.round (sh_40.st env vars ctx).h.length (evCodeH Try.prog (tbl_20 D) (lt_40_56 D) 80 22 (loopB Try.prog 22 0) (sh_40.st env vars ctx))).map Nr.step = some (st_40 D env vars) := by kernel_rfl
noncomputable def ll_41 (D : Dom) : List (LE D) := ⟨22, 0, sh_40, st_40 D, fun s => evCodeH Try.prog (tbl_20 D) (lt_40_56 D) 80 22 (loopB Try.prog 22 0) s⟩ :: ll_40 D
noncomputable def lt_41_56 (D : Dom) : LTb D := ltOf (ll_41 D) js_56
theorem hok_41_56 : HooksOK Try.prog (lt_41_56 R) := HooksOK.cons prg tok_20 hok_40_56 (by kernel_rfl) (by kernel_rfl) (rd_40 R)
def sh_41 : HSh := ⟨19, 19, [.env (.sslice 13 .whole none () 1), .env (.undef), .var (.si .i64 ()), .var (.si .i64 ()), .var (.si .i64 ()), .env (.undef), .drop, .env (.sslice 13 .whole none () 1), .env (.si .i64 ()), .env (.sb ()), .env (.sslice 13 .whole none () 1), .env (.si .i64 ()), .var (.si .i64 ()), .drop, .drop, .drop, .drop, .drop, .drop, .drop, .drop, .drop, .drop, .drop, .drop, .drop, .env (.undef), .env (.undef), .env (.undef), .env (.undef), .env (.undef), .env (.undef), .env (.undef), .env (.undef)], [], [(13, [.row false [.z .i64] ()])], []⟩
def st_41 (D : Dom) (env p : List (PD D)) : D.B × D.B × List (PD D) := G2 D (nthZ env 4) (nthZ env 5) (nthL env 6) p
theorem rd_41 (D : Dom) (env vars : List (PD D)) (ctx : List (AV D)) : (sh_41.round (sh_41.st env vars ctx).h.length (evCodeH Try.prog (tbl_20 D) (lt_41_56 D) 80 72 (loopB Try.prog 72 0) (sh_41.st env vars ctx))).map Nr.step = some (st_41 D env vars) := by kernel_rfl
noncomputable def ll_42 (D : Dom) : List (LE D) := ⟨72, 0, sh_41, st_41 D, fun s => evCodeH Try.prog (tbl_20 D) (lt_41_56 D) 80 72 (loopB Try.prog 72 0) s⟩ :: ll_41 D
noncomputable def lt_42_56 (D : Dom) : LTb D := ltOf (ll_42 D) js_56
theorem hok_42_56 : HooksOK Try.prog (lt_42_56 R) := HooksOK.cons prg tok_20 hok_41_56 (by kernel_rfl) (by kernel_rfl) (rd_41 R)
def js_57 : List (Nat × Nat × HSh) := js_56 ++ [(73, 11, ⟨29, 31, [.ctx, .ctx, .ctx, .ctx, .ctx, .ctx, .ctx, .ctx, .ctx, .ctx, .ctx, .ctx, .drop, .drop, .drop, .drop, .drop, .drop, .drop, .drop], [(25, .cells [.slot [.z .i64] 1]), (26, .cells [.slot [.z .i64] 1])], [], [27, 28]⟩)]
noncomputable def lt_42_57 (D : Dom) : LTb D := ltOf (ll_42 D) js_57
theorem hok_42_57 : HooksOK Try.prog (lt_42_57 R) := hok_42_56.jt
def sh_42 : HSh := ⟨27, 31, [.env (.sslice 13 .whole none () 1), .env (.undef), .env (.nilp), .env (.ki .i64 0), .env (.ptr 19 0), .env (.si .i64 ()), .env (.ptr 22 0), .env (.ptr 24 0), .env (.ptr 25 0), .env (.ptr 26 0), .env (.clo 73 [] [.ptr 24 0, .ptr 19 0, .ptr 25 0, .ptr 26 0]), .drop, .drop, .env (.undef), .env (.undef), .env (.undef), .env (.undef), .env (.tup [.si .i64 (), .si .i64 ()]), .env (.sslice 13 .whole none () 1), .env (.tup [.si .i64 (), .si .i64 ()]), .env (.si .i64 ()), .env (.si .i64 ()), .env (.si .i64 ()), .env (.sb ()), .env (.undef), .env (.sslice 13 .whole none () 1), .env (.sslice 20 .whole none () 1), .env (.si .i64 ()), .env (.sslice 13 .whole none () 1), .env (.si .i64 ()), .env (.sslice 21 .whole none () 2), .env (.agg [.sslice 20 .whole none () 1, .si .i64 (), .sslice 21 .whole none () 2]), .env (.ptr 22 0), .env (.sslice 13 .whole none () 1), .env (.si .i64 ()), .env (.sslice 23 .whole none () 1), .env (.clo 73 [] [.ptr 24 0, .ptr 19 0, .ptr 25 0, .ptr 26 0]), .env (.sslice 13 .whole none () 1), .env (.si .i64 ()), .var (.si .i64 ()), .drop, .drop, .drop, .drop, .drop, .drop, .drop, .drop, .drop, .drop, .drop, .drop, .drop, .drop, .drop, .drop, .drop, .drop, .drop, .drop, .drop, .drop, .drop, .drop, .env (.undef), .env (.undef), .env (.undef), .env (.undef), .env (.undef), .env (.undef), .env (.undef), .env (.undef), .env (.undef), .env (.undef), .env (.undef), .env (.undef), .env (.undef), .env (.undef), .env (.undef), .env (.undef), .env (.undef), .env (.undef), .env (.undef), .env (.undef), .env (.undef), .env (.undef), .env (.undef), .env (.undef), .env (.undef), .env (.undef), .env (.undef), .env (.undef), .env (.undef), .env (.undef), .env (.undef), .env (.undef), .env (.undef), .env (.undef), .env (.undef), .env (.undef), .env (.undef), .env (.undef), .env (.undef), .env (.undef), .env (.undef), .env (.undef), .env (.undef), .env (.undef), .env (.undef), .env (.undef), .env (.undef), .env (.undef), .env (.undef), .env (.undef), .env (.undef), .env (.undef), .env (.undef), .env (.undef), .env (.undef), .env (.undef), .env (.undef), .env (.undef), .env (.undef), .env (.undef), .env (.undef), .env (.undef), .env (.undef), .env (.undef)], [(25, .cells [.slot [.z .i64] 1]), (26, .cells [.slot [.z .i64] 1]), (21, .row [.z .i64, .z .i64]), (23, .row [.z .i64])], [(13, [.row false [.z .i64] ()]), (19, [.si .i64 ()]), (22, [.sslice 20 .whole none () 1, .si .i64 (), .sslice 21 .whole none () 2]), (24, [.sslice 23 .whole none () 1]), (20, [.row false [.z .i64] ()])], []⟩
def st_42 (D : Dom) (env p : List (PD D)) : D.B × D.B × List (PD D) := G3 D (nthZ env 0) (nthZ env 23) (nthZ env 24) (nthL env 25) (nthZ env 26) (nthZ env 29) (nthZ env 30) p
theorem rd_42 (D : Dom) (env vars : List (PD D)) (ctx : List (AV D)) : (sh_42.round (sh_42.st env vars ctx).h.length (evCodeH Try.prog (tbl_20 D) (lt_42_57 D) 80 44 (loopB Try.prog 44 0) (sh_42.st env vars ctx))).map Nr.step = some (st_42 D env vars) := by kernel_rfl
noncomputable def ll_43 (D : Dom) : List (LE D) := ⟨44, 0, sh_42, st_42 D, fun s => evCodeH Try.prog (tbl_20 D) (lt_42_57 D) 80 44 (loopB Try.prog 44 0) s⟩ :: ll_42 D
noncomputable def lt_43_57 (D : Dom) : LTb D := ltOf (ll_43 D) js_57
theorem hok_43_57 : HooksOK Try.prog (lt_43_57 R) := HooksOK.cons prg tok_20 hok_42_57 (by kernel_rfl) (by kernel_rfl) (rd_42 R)
def js_58 : List (Nat × Nat × HSh) := js_57 ++ [(73, 11, ⟨35, 37, [.ctx, .ctx, .ctx, .ctx, .ctx, .ctx, .ctx, .ctx, .ctx, .ctx, .ctx, .ctx, .drop, .drop, .drop, .drop, .drop, .drop, .drop, .drop], [(25, .cells [.slot [.z .i64] 1]), (26, .cells [.slot [.z .i64] 1])], [], [33, 34]⟩)]
noncomputable def lt_43_58 (D : Dom) : LTb D := ltOf (ll_43 D) js_58
theorem hok_43_58 : HooksOK Try.prog (lt_43_58 R) := hok_43_57.jt
def sh_43 : HSh := ⟨31, 37, [.env (.sslice 13 .whole none () 1), .env (.undef), .env (.nilp), .env (.ki .i64 0), .env (.ptr 19 0), .env (.si .i64 ()), .env (.ptr 22 0), .env (.ptr 24 0), .env (.ptr 25 0), .env (.ptr 26 0), .env (.clo 73 [] [.ptr 24 0, .ptr 19 0, .ptr 25 0, .ptr 26 0]), .env (.any), .env (.any), .drop, .drop, .drop, .drop, .env (.tup [.si .i64 (), .si .i64 ()]), .env (.sslice 13 .whole none () 1), .env (.tup [.si .i64 (), .si .i64 ()]), .env (.si .i64 ()), .env (.si .i64 ()), .env (.si .i64 ()), .env (.sb ()), .env (.undef), .env (.sslice 13 .whole none () 1), .env (.sslice 20 .whole none () 1), .env (.si .i64 ()), .env (.sslice 13 .whole none () 1), .env (.si .i64 ()), .env (.sslice 21 .whole none () 2), .env (.agg [.sslice 20 .whole none () 1, .si .i64 (), .sslice 21 .whole none () 2]), .env (.ptr 22 0), .env (.sslice 13 .whole none () 1), .env (.si .i64 ()), .env (.sslice 23 .whole none () 1), .env (.clo 73 [] [.ptr 24 0, .ptr 19 0, .ptr 25 0, .ptr 26 0]), .env (.sslice 13 .whole none () 1), .env (.si .i64 ()), .env (.si .i64 ()), .env (.sb ()), .env (.any), .env (.any), .env (.any), .env (.any), .env (.any), .env (.any), .env (.any), .env (.any), .env (.any), .env (.any), .env (.any), .env (.any), .env (.any), .env (.any), .env (.any), .env (.any), .env (.any), .env (.any), .env (.any), .env (.any), .env (.any), .env (.any), .env (.any), .drop, .drop, .drop, .drop, .drop, .drop, .drop, .drop, .drop, .drop, .drop, .drop, .drop, .drop, .drop, .drop, .drop, .drop, .drop, .drop, .drop, .drop, .drop, .drop, .drop, .drop, .drop, .drop, .drop, .drop, .drop, .drop, .drop, .drop, .drop, .drop, .drop, .drop, .drop, .drop, .drop, .drop, .drop, .drop, .drop, .drop, .drop, .drop, .drop, .drop, .drop, .drop, .drop, .drop, .drop, .drop, .drop, .drop, .drop, .drop, .drop, .drop, .drop, .env (.undef)], [(23, .row [.z .i64]), (21, .row [.z .i64, .z .i64]), (25, .cells [.slot [.z .i64] 1]), (26, .cells [.slot [.z .i64] 1])], [(13, [.row false [.z .i64] ()]), (19, [.si .i64 ()]), (22, [.sslice 20 .whole none () 1, .si .i64 (), .sslice 21 .whole none () 2]), (24, [.sslice 23 .whole none () 1]), (20, [.row false [.z .i64] ()])], [27, 28]⟩
def st_43 (D : Dom) (env p : List (PD D)) : D.B × D.B × List (PD D) := G4 D (nthZ env 28) (nthZ env 31) (nthZ env 32) p
theorem rd_43 (D : Dom) (env vars : List (PD D)) (ctx : List (AV D)) : (sh_43.round (sh_43.st env vars ctx).h.length (evCodeH Try.prog (tbl_20 D) (lt_43_58 D) 80 44 (loopB Try.prog 44 2) (sh_43.st env vars ctx))).map Nr.step = some (st_43 D env vars) := by kernel_rfl
noncomputable def ll_44 (D : Dom) : List (LE D) := ⟨44, 2, sh_43, st_43 D, fun s => evCodeH Try.prog (tbl_20 D) (lt_43_58 D) 80 44 (loopB Try.prog 44 2) s⟩ :: ll_43 D
noncomputable def lt_44_58 (D : Dom) : LTb D := ltOf (ll_44 D) js_58
theorem hok_44_58 : HooksOK Try.prog (lt_44_58 R) := HooksOK.cons prg tok_20 hok_43_58 (by kernel_rfl) (by kernel_rfl) (rd_43 R)
def sh_44 : HSh := ⟨40, 41, [.env (.sslice 1 .part none () 4), .env (.clo 56 [] [.ptr 39 0]), .env (.undef), .env (.undef), .var (.si .i64 ()), .drop, .env (.sslice 1 .part none () 4), .env (.si .i64 ()), .var (.si .i64 ()), .drop, .drop, .drop, .drop, .drop, .drop, .drop, .drop, .drop, .drop], [], [(1, [.row true [.z .i64, .f, .f, .f] ()]), (39, [.si .i64 ()])], []⟩
def st_44 (D : Dom) (env p : List (PD D)) : D.B × D.B × List (PD D) := G9 D (nthZ env 0) (nthZ env 2) (nthL env 3) (nthZ env 4) p
theorem rd_44 (D : Dom) (env vars : List (PD D)) (ctx : List (AV D)) : (sh_44.round (sh_44.st env vars ctx).h.length (evCodeH Try.prog (tbl_20 D) (lt_44_58 D) 80 55 (loopB Try.prog 55 0) (sh_44.st env vars ctx))).map Nr.step = some (st_44 D env vars) := by kernel_rfl
noncomputable def ll_45 (D : Dom) : List (LE D) := ⟨55, 0, sh_44, st_44 D, fun s => evCodeH Try.prog (tbl_20 D) (lt_44_58 D) 80 55 (loopB Try.prog 55 0) s⟩ :: ll_44 D
noncomputable def lt_45_58 (D : Dom) : LTb D := ltOf (ll_45 D) js_58
theorem hok_45_58 : HooksOK Try.prog (lt_45_58 R) := HooksOK.cons prg tok_20 hok_44_58 (by kernel_rfl) (by kernel_rfl) (rd_44 R)
def js_59 : List (Nat × Nat × HSh) := js_58 ++ [(55, 2000000, ⟨40, 41, [.var (.si .i64 ())], [], [], []⟩)]
noncomputable def lt_45_59 (D : Dom) : LTb D := ltOf (ll_45 D) js_59
theorem hok_45_59 : HooksOK Try.prog (lt_45_59 R) := hok_45_58.jt
def sh_45 : HSh := ⟨37, 43, [.env (.sslice 8 .whole none () 9), .env (.sslice 1 .part none () 4), .env (.optr () 18 0), .env (.undef), .env (.undef), .env (.undef), .var (.nilp), .var (.si .i64 ()), .slot [.z .i64] 1, .drop, .drop, .env (.undef), .env (.sslice 1 .part none () 4), .env (.si .i64 ()), .env (.sb ()), .env (.sslice 1 .part none () 4), .env (.si .i64 ()), .var (.si .i64 ()), .drop, .drop, .drop, .drop, .drop, .drop, .drop, .drop, .drop, .drop, .drop, .drop, .drop, .drop, .drop, .drop, .drop, .drop, .drop, .drop, .drop, .drop, .drop, .drop, .drop, .drop, .drop, .drop, .drop, .drop, .drop, .drop, .drop, .drop, .drop, .drop, .drop, .drop, .drop, .drop, .env (.undef), .env (.undef), .env (.undef), .env (.undef), .env (.undef), .env (.undef), .env (.undef), .env (.undef), .env (.undef), .env (.undef), .env (.undef), .env (.undef), .env (.undef), .env (.undef), .env (.undef), .env (.undef), .env (.undef), .env (.undef), .env (.undef), .env (.undef), .env (.undef), .env (.undef), .env (.undef), .env (.undef)], [], [(8, [.row false [.f, .f, .f, .f, .f, .f, .f, .f, .f] ()]), (1, [.row true [.z .i64, .f, .f, .f] ()]), (18, [.gh () [.si .i64 (), .sslice 17 .whole none () 3, .optr () 22 0]]), (17, [.gh () [.row false [.f, .f, .f] ()]]), (22, [.gh () [.sslice 20 .whole none () 1, .si .i64 (), .sslice 21 .whole none () 2]]), (20, [.gh () [.row false [.z .i64] ()]]), (21, [.gh () [.row false [.z .i64, .z .i64] ()]])], []⟩
def st_45 (D : Dom) (env p : List (PD D)) : D.B × D.B × List (PD D) := G10 D (nthZ env 0) (nthZ env 1) (nthZ env 6) (nthZ env 7) (nthL env 8) (nthL env 9) p
theorem rd_45 (D : Dom) (env vars : List (PD D)) (ctx : List (AV D)) : (sh_45.round (sh_45.st env vars ctx).h.length (evCodeH Try.prog (tbl_20 D) (lt_45_59 D) 80 21 (loopB Try.prog 21 0) (sh_45.st env vars ctx))).map Nr.step = some (st_45 D env vars) := by kernel_rfl
noncomputable def ll_46 (D : Dom) : List (LE D) := ⟨21, 0, sh_45, st_45 D, fun s => evCodeH Try.prog (tbl_20 D) (lt_45_59 D) 80 21 (loopB Try.prog 21 0) s⟩ :: ll_45 D
noncomputable def lt_46_59 (D : Dom) : LTb D := ltOf (ll_46 D) js_59
theorem hok_46_59 : HooksOK Try.prog (lt_46_59 R) := HooksOK.cons prg tok_20 hok_45_59 (by kernel_rfl) (by kernel_rfl) (rd_45 R)
def js_60 : List (Nat × Nat × HSh) := js_59 ++ [(52, 2000000, ⟨43, 43, [.var (.si .i64 ())], [], [], []⟩)]
def js_61 : List (Nat × Nat × HSh) := js_60 ++ [(41, 2000000, ⟨43, 43, [.var (.si .i64 ())], [], [], []⟩)]
def js_62 : List (Nat × Nat × HSh) := js_61 ++ [(21, 59, ⟨43, 45, [.ctx, .ctx, .ctx, .ctx, .ctx, .ctx, .ctx, .ctx, .slot [.z .i64] 1, .ctx, .ctx, .ctx, .ctx, .ctx, .ctx, .ctx, .ctx, .ctx, .ctx, .ctx, .ctx, .ctx, .ctx, .ctx, .ctx, .ctx, .ctx, .ctx, .ctx, .ctx, .ctx, .ctx, .ctx, .ctx, .ctx, .ctx, .ctx, .ctx, .ctx, .ctx, .ctx, .ctx, .ctx, .ctx, .ctx, .ctx, .ctx, .ctx, .ctx, .ctx, .ctx, .ctx, .ctx, .ctx, .ctx, .ctx, .ctx, .ctx, .ctx, .ctx, .drop, .drop, .drop, .drop, .drop, .drop, .ctx, .ctx, .ctx, .ctx, .ctx, .ctx, .ctx, .ctx, .ctx, .ctx, .ctx, .ctx, .ctx, .ctx, .ctx, .ctx], [], [], [37]⟩)]
noncomputable def lt_46_62 (D : Dom) : LTb D := ltOf (ll_46 D) js_62
theorem hok_46_62 : HooksOK Try.prog (lt_46_62 R) := hok_46_59.jt
def sh_46 : HSh := ⟨50, 50, [.env (.sslice 43 .whole none () 1), .env (.undef), .var (.si .i64 ()), .var (.si .i64 ()), .var (.si .i64 ()), .env (.undef), .drop, .env (.sslice 43 .whole none () 1), .env (.si .i64 ()), .env (.sb ()), .env (.sslice 43 .whole none () 1), .env (.si .i64 ()), .var (.si .i64 ()), .drop, .drop, .drop, .drop, .drop, .drop, .drop, .drop, .drop, .drop, .drop, .drop, .drop, .env (.undef), .env (.undef), .env (.undef), .env (.undef), .env (.undef), .env (.undef), .env (.undef), .env (.undef)], [], [(43, [.row false [.z .i64] ()])], []⟩
def st_46 (D : Dom) (env p : List (PD D)) : D.B × D.B × List (PD D) := G2 D (nthZ env 4) (nthZ env 5) (nthL env 6) p
theorem rd_46 (D : Dom) (env vars : List (PD D)) (ctx : List (AV D)) : (sh_46.round (sh_46.st env vars ctx).h.length (evCodeH Try.prog (tbl_20 D) (lt_46_62 D) 80 72 (loopB Try.prog 72 0) (sh_46.st env vars ctx))).map Nr.step = some (st_46 D env vars) := by kernel_rfl
noncomputable def ll_47 (D : Dom) : List (LE D) := ⟨72, 0, sh_46, st_46 D, fun s => evCodeH Try.prog (tbl_20 D) (lt_46_62 D) 80 72 (loopB Try.prog 72 0) s⟩ :: ll_46 D
noncomputable def lt_47_62 (D : Dom) : LTb D := ltOf (ll_47 D) js_62
theorem hok_47_62 : HooksOK Try.prog (lt_47_62 R) := HooksOK.cons prg tok_20 hok_46_62 (by kernel_rfl) (by kernel_rfl) (rd_46 R)
def js_63 : List (Nat × Nat × HSh) := js_62 ++ [(73, 11, ⟨60, 62, [.ctx, .ctx, .ctx, .ctx, .ctx, .ctx, .ctx, .ctx, .ctx, .ctx, .ctx, .ctx, .drop, .drop, .drop, .drop, .drop, .drop, .drop, .drop], [(56, .cells [.slot [.z .i64] 1]), (57, .cells [.slot [.z .i64] 1])], [], [58, 59]⟩)]
noncomputable def lt_47_63 (D : Dom) : LTb D := ltOf (ll_47 D) js_63
theorem hok_47_63 : HooksOK Try.prog (lt_47_63 R) := hok_47_62.jt
def sh_47 : HSh := ⟨58, 62, [.env (.sslice 43 .whole none () 1), .env (.undef), .env (.nilp), .env (.ki .i64 0), .env (.ptr 50 0), .env (.si .i64 ()), .env (.ptr 53 0), .env (.ptr 55 0), .env (.ptr 56 0), .env (.ptr 57 0), .env (.clo 73 [] [.ptr 55 0, .ptr 50 0, .ptr 56 0, .ptr 57 0]), .drop, .drop, .env (.undef), .env (.undef), .env (.undef), .env (.undef), .env (.tup [.si .i64 (), .si .i64 ()]), .env (.sslice 43 .whole none () 1), .env (.tup [.si .i64 (), .si .i64 ()]), .env (.si .i64 ()), .env (.si .i64 ()), .env (.si .i64 ()), .env (.sb ()), .env (.undef), .env (.sslice 43 .whole none () 1), .env (.sslice 51 .whole none () 1), .env (.si .i64 ()), .env (.sslice 43 .whole none () 1), .env (.si .i64 ()), .env (.sslice 52 .whole none () 2), .env (.agg [.sslice 51 .whole none () 1, .si .i64 (), .sslice 52 .whole none () 2]), .env (.ptr 53 0), .env (.sslice 43 .whole none () 1), .env (.si .i64 ()), .env (.sslice 54 .whole none () 1), .env (.clo 73 [] [.ptr 55 0, .ptr 50 0, .ptr 56 0, .ptr 57 0]), .env (.sslice 43 .whole none () 1), .env (.si .i64 ()), .var (.si .i64 ()), .drop, .drop, .drop, .drop, .drop, .drop, .drop, .drop, .drop, .drop, .drop, .drop, .drop, .drop, .drop, .drop, .drop, .drop, .drop, .drop, .drop, .drop, .drop, .drop, .env (.undef), .env (.undef), .env (.undef), .env (.undef), .env (.undef), .env (.undef), .env (.undef), .env (.undef), .env (.undef), .env (.undef), .env (.undef), .env (.undef), .env (.undef), .env (.undef), .env (.undef), .env (.undef), .env (.undef), .env (.undef), .env (.undef), .env (.undef), .env (.undef), .env (.undef), .env (.undef), .env (.undef), .env (.undef), .env (.undef), .env (.undef), .env (.undef), .env (.undef), .env (.undef), .env (.undef), .env (.undef), .env (.undef), .env (.undef), .env (.undef), .env (.undef), .env (.undef), .env (.undef), .env (.undef), .env (.undef), .env (.undef), .env (.undef), .env (.undef), .env (.undef), .env (.undef), .env (.undef), .env (.undef), .env (.undef), .env (.undef), .env (.undef), .env (.undef), .env (.undef), .env (.undef), .env (.undef), .env (.undef), .env (.undef), .env (.undef), .env (.undef), .env (.undef), .env (.undef), .env (.undef), .env (.undef), .env (.undef), .env (.undef)], [(56, .cells [.slot [.z .i64] 1]), (57, .cells [.slot [.z .i64] 1]), (52, .row [.z .i64, .z .i64]), (54, .row [.z .i64])], [(43, [.row false [.z .i64] ()]), (50, [.si .i64 ()]), (53, [.sslice 51 .whole none () 1, .si .i64 (), .sslice 52 .whole none () 2]), (55, [.sslice 54 .whole none () 1]), (51, [.row false [.z .i64] ()])], []⟩
def st_47 (D : Dom) (env p : List (PD D)) : D.B × D.B × List (PD D) := G3 D (nthZ env 0) (nthZ env 23) (nthZ env 24) (nthL env 25) (nthZ env 26) (nthZ env 29) (nthZ env 30) p
theorem rd_47 (D : Dom) (env vars : List (PD D)) (ctx : List (AV D)) : (sh_47.round (sh_47.st env vars ctx).h.length (evCodeH Try.prog (tbl_20 D) (lt_47_63 D) 80 44 (loopB Try.prog 44 0) (sh_47.st env vars ctx))).map Nr.step = some (st_47 D env vars) := by kernel_rfl
noncomputable def ll_48 (D : Dom) : List (LE D) := ⟨44, 0, sh_47, st_47 D, fun s => evCodeH Try.prog (tbl_20 D) (lt_47_63 D) 80 44 (loopB Try.prog 44 0) s⟩ :: ll_47 D
noncomputable def lt_48_63 (D : Dom) : LTb D := ltOf (ll_48 D) js_63
theorem hok_48_63 : HooksOK Try.prog (lt_48_63 R) := HooksOK.cons prg tok_20 hok_47_63 (by kernel_rfl) (by kernel_rfl) (rd_47 R)
def js_64 : List (Nat × Nat × HSh) := js_63 ++ [(73, 11, ⟨66, 68, [.ctx, .ctx, .ctx, .ctx, .ctx, .ctx, .ctx, .ctx, .ctx, .ctx, .ctx, .ctx, .drop, .drop, .drop, .drop, .drop, .drop, .drop, .drop], [(56, .cells [.slot [.z .i64] 1]), (57, .cells [.slot [.z .i64] 1])], [], [64, 65]⟩)]
noncomputable def lt_48_64 (D : Dom) : LTb D := ltOf (ll_48 D) js_64
theorem hok_48_64 : HooksOK Try.prog (lt_48_64 R) := hok_48_63.jt
def sh_48 : HSh := ⟨62, 68, [.env (.sslice 43 .whole none () 1), .env (.undef), .env (.nilp), .env (.ki .i64 0), .env (.ptr 50 0), .env (.si .i64 ()), .env (.ptr 53 0), .env (.ptr 55 0), .env (.ptr 56 0), .env (.ptr 57 0), .env (.clo 73 [] [.ptr 55 0, .ptr 50 0, .ptr 56 0, .ptr 57 0]), .env (.any), .env (.any), .drop, .drop, .drop, .drop, .env (.tup [.si .i64 (), .si .i64 ()]), .env (.sslice 43 .whole none () 1), .env (.tup [.si .i64 (), .si .i64 ()]), .env (.si .i64 ()), .env (.si .i64 ()), .env (.si .i64 ()), .env (.sb ()), .env (.undef), .env (.sslice 43 .whole none () 1), .env (.sslice 51 .whole none () 1), .env (.si .i64 ()), .env (.sslice 43 .whole none () 1), .env (.si .i64 ()), .env (.sslice 52 .whole none () 2), .env (.agg [.sslice 51 .whole none () 1, .si .i64 (), .sslice 52 .whole none () 2]), .env (.ptr 53 0), .env (.sslice 43 .whole none () 1), .env (.si .i64 ()), .env (.sslice 54 .whole none () 1), .env (.clo 73 [] [.ptr 55 0, .ptr 50 0, .ptr 56 0, .ptr 57 0]), .env (.sslice 43 .whole none () 1), .env (.si .i64 ()), .env (.si .i64 ()), .env (.sb ()), .env (.any), .env (.any), .env (.any), .env (.any), .env (.any), .env (.any), .env (.any), .env (.any), .env (.any), .env (.any), .env (.any), .env (.any), .env (.any), .env (.any), .env (.any), .env (.any), .env (.any), .env (.any), .env (.any), .env (.any), .env (.any), .env (.any), .env (.any), .drop, .drop, .drop, .drop, .drop, .drop, .drop, .drop, .drop, .drop, .drop, .drop, .drop, .drop, .drop, .drop, .drop, .drop, .drop, .drop, .drop, .drop, .drop, .drop, .drop, .drop, .drop, .drop, .drop, .drop, .drop, .drop, .drop, .drop, .drop, .drop, .drop, .drop, .drop, .drop, .drop, .drop, .drop, .drop, .drop, .drop, .drop, .drop, .drop, .drop, .drop, .drop, .drop, .drop, .drop, .drop, .drop, .drop, .drop, .drop, .drop, .drop, .drop, .env (.undef)], [(54, .row [.z .i64]), (52, .row [.z .i64, .z .i64]), (56, .cells [.slot [.z .i64] 1]), (57, .cells [.slot [.z .i64] 1])], [(43, [.row false [.z .i64] ()]), (50, [.si .i64 ()]), (53, [.sslice 51 .whole none () 1, .si .i64 (), .sslice 52 .whole none () 2]), (55, [.sslice 54 .whole none () 1]), (51, [.row false [.z .i64] ()])], [58, 59]⟩
def st_48 (D : Dom) (env p : List (PD D)) : D.B × D.B × List (PD D) := G4 D (nthZ env 28) (nthZ env 31) (nthZ env 32) p
theorem rd_48 (D : Dom) (env vars : List (PD D)) (ctx : List (AV D)) : (sh_48.round (sh_48.st env vars ctx).h.length (evCodeH Try.prog (tbl_20 D) (lt_48_64 D) 80 44 (loopB Try.prog 44 2) (sh_48.st env vars ctx))).map Nr.step = some (st_48 D env vars) := by kernel_rfl
noncomputable def ll_49 (D : Dom) : List (LE D) := ⟨44, 2, sh_48, st_48 D, fun s => evCodeH Try.prog (tbl_20 D) (lt_48_64 D) 80 44 (loopB Try.prog 44 2) s⟩ :: ll_48 D
noncomputable def lt_49_64 (D : Dom) : LTb D := ltOf (ll_49 D) js_64
theorem hok_49_64 : HooksOK Try.prog (lt_49_64 R) := HooksOK.cons prg tok_20 hok_48_64 (by kernel_rfl) (by kernel_rfl) (rd_48 R)
def sh_49 : HSh := ⟨68, 68, [.env (.sslice 8 .whole none () 9), .env (.sslice 1 .part none () 4), .env (.undef), .env (.undef), .var (.si .i64 ()), .env (.si .i64 ()), .var (.si .i64 ()), .env (.sslice 1 .part none () 4), .env (.si .i64 ()), .env (.sb ()), .env (.si .i64 ()), .env (.sslice 1 .part none () 4), .env (.si .i64 ()), .env (.sb ()), .env (.any), .env (.any), .env (.sslice 1 .part none () 4), .env (.si .i64 ()), .env (.sptr 1 () 4 0), .env (.sptr 1 () 4 0), .env (.si .i64 ()), .env (.sb ()), .env (.sb ()), .env (.any), .env (.any), .env (.any), .env (.any), .env (.any), .env (.any), .env (.any), .env (.any), .env (.sb ()), .env (.sb ()), .env (.any), .env (.any), .env (.any), .env (.any), .env (.any), .env (.any), .env (.any), .env (.sb ()), .drop, .drop, .drop, .drop, .drop, .drop, .drop, .drop, .drop, .drop, .drop, .drop, .drop, .drop, .drop, .drop], [], [(8, [.row false [.f, .f, .f, .f, .f, .f, .f, .f, .f] ()]), (1, [.row true [.z .i64, .f, .f, .f] ()])], []⟩
def st_49 (D : Dom) (env p : List (PD D)) : D.B × D.B × List (PD D) := G11 D (nthZ env 1) (nthZ env 2) (nthL env 21) p
theorem rd_49 (D : Dom) (env vars : List (PD D)) (ctx : List (AV D)) : (sh_49.round (sh_49.st env vars ctx).h.length (evCodeH Try.prog (tbl_20 D) (lt_49_64 D) 80 23 (loopB Try.prog 23 2) (sh_49.st env vars ctx))).map Nr.step = some (st_49 D env vars) := by kernel_rfl
noncomputable def ll_50 (D : Dom) : List (LE D) := ⟨23, 2, sh_49, st_49 D, fun s => evCodeH Try.prog (tbl_20 D) (lt_49_64 D) 80 23 (loopB Try.prog 23 2) s⟩ :: ll_49 D
noncomputable def lt_50_64 (D : Dom) : LTb D := ltOf (ll_50 D) js_64
theorem hok_50_64 : HooksOK Try.prog (lt_50_64 R) := HooksOK.cons prg tok_20 hok_49_64 (by kernel_rfl) (by kernel_rfl) (rd_49 R)
def sh_50 : HSh := ⟨68, 68, [.env (.sslice 8 .whole none () 9), .env (.sslice 1 .part none () 4), .env (.undef), .env (.undef), .var (.si .i64 ()), .var (.si .i64 ()), .drop, .env (.sslice 1 .part none () 4), .env (.si .i64 ()), .env (.sb ()), .drop, .drop, .drop, .drop, .drop, .drop, .drop, .drop, .drop, .drop, .drop, .drop, .drop, .drop, .drop, .drop, .drop, .drop, .drop, .drop, .drop, .drop, .drop, .drop, .drop, .drop, .drop, .drop, .drop, .drop, .drop, .drop, .drop, .drop, .drop, .drop, .drop, .drop, .drop, .drop, .drop, .drop, .drop, .drop, .drop, .drop, .drop], [], [(8, [.row false [.f, .f, .f, .f, .f, .f, .f, .f, .f] ()]), (1, [.row true [.z .i64, .f, .f, .f] ()])], []⟩
def st_50 (D : Dom) (env p : List (PD D)) : D.B × D.B × List (PD D) := G12 D (nthZ env 0) (nthZ env 1) (nthL env 6) p
theorem rd_50 (D : Dom) (env vars : List (PD D)) (ctx : List (AV D)) : (sh_50.round (sh_50.st env vars ctx).h.length (evCodeH Try.prog (tbl_20 D) (lt_50_64 D) 80 23 (loopB Try.prog 23 0) (sh_50.st env vars ctx))).map Nr.step = some (st_50 D env vars) := by kernel_rfl
noncomputable def ll_51 (D : Dom) : List (LE D) := ⟨23, 0, sh_50, st_50 D, fun s => evCodeH Try.prog (tbl_20 D) (lt_50_64 D) 80 23 (loopB Try.prog 23 0) s⟩ :: ll_50 D
noncomputable def lt_51_64 (D : Dom) : LTb D := ltOf (ll_51 D) js_64
theorem hok_51_64 : HooksOK Try.prog (lt_51_64 R) := HooksOK.cons prg tok_20 hok_50_64 (by kernel_rfl) (by kernel_rfl) (rd_50 R)
def js_65 : List (Nat × Nat × HSh) := js_64 ++ [(23, 2000000, ⟨68, 68, [.var (.si .i64 ())], [], [], []⟩)]
noncomputable def lt_51_65 (D : Dom) : LTb D := ltOf (ll_51 D) js_65
theorem hok_51_65 : HooksOK Try.prog (lt_51_65 R) := hok_51_64.jt
def sh_51 : HSh := ⟨69, 69, [.env (.agg [.si .i64 (), .sslice 2 .part none () 3]), .env (.ptr 68 0), .var (.sb ()), .var (.si .i64 ()), .env (.ptr 68 0), .env (.si .i64 ()), .env (.sb ()), .env (.sb ()), .env (.any), .env (.any), .env (.any), .env (.sb ()), .env (.sb ()), .env (.any), .env (.any), .env (.any), .env (.any), .env (.any), .env (.any), .env (.any), .env (.sb ()), .drop, .drop, .drop, .drop, .drop, .drop, .drop, .drop, .drop, .drop, .drop, .drop, .drop, .drop], [], [(2, [.row true [.f, .f, .f] ()]), (68, [.si .i64 (), .sslice 2 .part none () 3])], []⟩
def st_51 (D : Dom) (env p : List (PD D)) : D.B × D.B × List (PD D) := G7 D (nthL env 8) (nthZ env 10) p
theorem rd_51 (D : Dom) (env vars : List (PD D)) (ctx : List (AV D)) : (sh_51.round (sh_51.st env vars ctx).h.length (evCodeH Try.prog (tbl_20 D) (lt_51_65 D) 80 15 (loopB Try.prog 15 0) (sh_51.st env vars ctx))).map Nr.step = some (st_51 D env vars) := by kernel_rfl
noncomputable def ll_52 (D : Dom) : List (LE D) := ⟨15, 0, sh_51, st_51 D, fun s => evCodeH Try.prog (tbl_20 D) (lt_51_65 D) 80 15 (loopB Try.prog 15 0) s⟩ :: ll_51 D
noncomputable def lt_52_65 (D : Dom) : LTb D := ltOf (ll_52 D) js_65
theorem hok_52_65 : HooksOK Try.prog (lt_52_65 R) := HooksOK.cons prg tok_20 hok_51_65 (by kernel_rfl) (by kernel_rfl) (rd_51 R)
def js_66 : List (Nat × Nat × HSh) := js_65 ++ [(15, 2000000, ⟨68, 69, [.var (.sb ())], [], [], []⟩)]
noncomputable def lt_52_66 (D : Dom) : LTb D := ltOf (ll_52 D) js_66
theorem hok_52_66 : HooksOK Try.prog (lt_52_66 R) := hok_52_65.jt
def sh_52 : HSh := ⟨70, 73, [.env (.sslice 8 .whole none () 9), .env (.sslice 1 .part none () 4), .env (.agg [.si .i64 (), .sslice 2 .part none () 3]), .env (.sb ()), .env (.undef), .env (.undef), .env (.ptr 69 0), .env (.undef), .env (.nils), .slot [.z .i64] 1, .var (.si .i64 ()), .drop, .drop, .drop, .drop, .drop, .drop, .drop, .drop, .drop, .drop, .drop, .drop, .drop, .drop, .drop, .drop, .drop, .drop, .drop, .drop, .drop, .drop, .drop, .drop, .drop, .env (.undef), .env (.undef), .env (.undef), .env (.undef), .env (.undef), .env (.undef), .env (.undef), .env (.undef), .env (.undef)], [], [(8, [.row false [.f, .f, .f, .f, .f, .f, .f, .f, .f] ()]), (1, [.row true [.z .i64, .f, .f, .f] ()]), (2, [.row true [.f, .f, .f] ()]), (69, [.si .i64 (), .sslice 2 .part none () 3])], []⟩
def st_52 (D : Dom) (env p : List (PD D)) : D.B × D.B × List (PD D) := G13 D (nthZ env 0) (nthZ env 1) (nthL env 5) (nthL env 6) p
theorem rd_52 (D : Dom) (env vars : List (PD D)) (ctx : List (AV D)) : (sh_52.round (sh_52.st env vars ctx).h.length (evCodeH Try.prog (tbl_20 D) (lt_52_66 D) 80 24 (loopB Try.prog 24 0) (sh_52.st env vars ctx))).map Nr.step = some (st_52 D env vars) := by kernel_rfl
noncomputable def ll_53 (D : Dom) : List (LE D) := ⟨24, 0, sh_52, st_52 D, fun s => evCodeH Try.prog (tbl_20 D) (lt_52_66 D) 80 24 (loopB Try.prog 24 0) s⟩ :: ll_52 D
noncomputable def lt_53_66 (D : Dom) : LTb D := ltOf (ll_53 D) js_66
theorem hok_53_66 : HooksOK Try.prog (lt_53_66 R) := HooksOK.cons prg tok_20 hok_52_66 (by kernel_rfl) (by kernel_rfl) (rd_52 R)
def sh_53 : HSh := ⟨74, 77, [.env (.agg [.si .i64 (), .sslice 2 .part none () 3]), .env (.ptr 73 0), .env (.nils), .slot [.z .i64] 1, .var (.si .i64 ()), .drop, .drop, .drop, .drop, .drop, .drop, .drop, .drop, .drop, .drop, .drop, .drop, .drop, .drop, .drop, .drop, .env (.undef)], [], [(2, [.row true [.f, .f, .f] ()]), (73, [.si .i64 (), .sslice 2 .part none () 3])], []⟩
def st_53 (D : Dom) (env p : List (PD D)) : D.B × D.B × List (PD D) := G14 D (nthL env 2) (nthZ env 4) p
theorem rd_53 (D : Dom) (env vars : List (PD D)) (ctx : List (AV D)) : (sh_53.round (sh_53.st env vars ctx).h.length (evCodeH Try.prog (tbl_20 D) (lt_53_66 D) 80 50 (loopB Try.prog 50 0) (sh_53.st env vars ctx))).map Nr.step = some (st_53 D env vars) := by kernel_rfl
noncomputable def ll_54 (D : Dom) : List (LE D) := ⟨50, 0, sh_53, st_53 D, fun s => evCodeH Try.prog (tbl_20 D) (lt_53_66 D) 80 50 (loopB Try.prog 50 0) s⟩ :: ll_53 D
noncomputable def lt_54_66 (D : Dom) : LTb D := ltOf (ll_54 D) js_66
theorem hok_54_66 : HooksOK Try.prog (lt_54_66 R) := HooksOK.cons prg tok_20 hok_53_66 (by kernel_rfl) (by kernel_rfl) (rd_53 R)
def sh_54 : HSh := ⟨77, 77, [.env (.sslice 74 .whole none () 1), .env (.undef), .var (.si .i64 ()), .var (.si .i64 ()), .var (.si .i64 ()), .drop, .drop, .drop, .drop, .drop, .drop, .drop, .drop, .drop, .drop, .drop, .drop, .drop, .drop, .drop, .drop, .drop, .drop, .drop, .drop, .drop, .drop, .drop, .drop, .env (.undef)], [], [(74, [.row false [.z .i64] ()])], []⟩
def st_54 (D : Dom) (env p : List (PD D)) : D.B × D.B × List (PD D) := G15 D (nthZ env 0) (nthL env 1) p
theorem rd_54 (D : Dom) (env vars : List (PD D)) (ctx : List (AV D)) : (sh_54.round (sh_54.st env vars ctx).h.length (evCodeH Try.prog (tbl_20 D) (lt_54_66 D) 80 8 (loopB Try.prog 8 0) (sh_54.st env vars ctx))).map Nr.step = some (st_54 D env vars) := by kernel_rfl
noncomputable def ll_55 (D : Dom) : List (LE D) := ⟨8, 0, sh_54, st_54 D, fun s => evCodeH Try.prog (tbl_20 D) (lt_54_66 D) 80 8 (loopB Try.prog 8 0) s⟩ :: ll_54 D
noncomputable def lt_55_66 (D : Dom) : LTb D := ltOf (ll_55 D) js_66
theorem hok_55_66 : HooksOK Try.prog (lt_55_66 R) := HooksOK.cons prg tok_20 hok_54_66 (by kernel_rfl) (by kernel_rfl) (rd_54 R)
def js_67 : List (Nat × Nat × HSh) := js_66 ++ [(8, 2000000, ⟨77, 77, [.var (.si .i64 ())], [], [], []⟩)]
def js_68 : List (Nat × Nat × HSh) := js_67 ++ [(24, 36, ⟨73, 79, [.ctx, .ctx, .ctx, .ctx, .ctx, .ctx, .ctx, .ctx, .ctx, .slot [.z .i64] 1, .ctx, .ctx, .ctx, .ctx, .ctx, .ctx, .ctx, .ctx, .ctx, .ctx, .ctx, .ctx, .ctx, .ctx, .ctx, .ctx, .ctx, .ctx, .ctx, .ctx, .ctx, .ctx, .ctx, .ctx, .ctx, .ctx, .ctx, .drop, .drop, .drop, .drop, .drop, .drop, .drop, .ctx], [], [], [70]⟩)]
noncomputable def lt_55_68 (D : Dom) : LTb D := ltOf (ll_55 D) js_68
theorem hok_55_68 : HooksOK Try.prog (lt_55_68 R) := hok_55_66.jt
def sh_55 : HSh := ⟨69, 72, [.env (.sslice 8 .whole none () 9), .env (.sslice 1 .part none () 4), .env (.agg [.si .i64 (), .sslice 2 .part none () 3]), .env (.kb false), .env (.undef), .env (.undef), .env (.ptr 68 0), .env (.undef), .env (.nils), .slot [.z .i64] 1, .var (.si .i64 ()), .drop, .drop, .drop, .drop, .drop, .drop, .drop, .drop, .drop, .drop, .drop, .drop, .drop, .drop, .drop, .drop, .drop, .drop, .drop, .drop, .drop, .drop, .drop, .drop, .drop, .env (.undef), .env (.undef), .env (.undef), .env (.undef), .env (.undef), .env (.undef), .env (.undef), .env (.undef), .env (.undef)], [], [(8, [.row false [.f, .f, .f, .f, .f, .f, .f, .f, .f] ()]), (1, [.row true [.z .i64, .f, .f, .f] ()]), (2, [.row true [.f, .f, .f] ()]), (68, [.si .i64 (), .sslice 2 .part none () 3])], []⟩
def st_55 (D : Dom) (env p : List (PD D)) : D.B × D.B × List (PD D) := G13 D (nthZ env 0) (nthZ env 1) (nthL env 4) (nthL env 5) p
theorem rd_55 (D : Dom) (env vars : List (PD D)) (ctx : List (AV D)) : (sh_55.round (sh_55.st env vars ctx).h.length (evCodeH Try.prog (tbl_20 D) (lt_55_68 D) 80 24 (loopB Try.prog 24 0) (sh_55.st env vars ctx))).map Nr.step = some (st_55 D env vars) := by kernel_rfl
noncomputable def ll_56 (D : Dom) : List (LE D) := ⟨24, 0, sh_55, st_55 D, fun s => evCodeH Try.prog (tbl_20 D) (lt_55_68 D) 80 24 (loopB Try.prog 24 0) s⟩ :: ll_55 D
noncomputable def lt_56_68 (D : Dom) : LTb D := ltOf (ll_56 D) js_68
theorem hok_56_68 : HooksOK Try.prog (lt_56_68 R) := HooksOK.cons prg tok_20 hok_55_68 (by kernel_rfl) (by kernel_rfl) (rd_55 R)
def js_69 : List (Nat × Nat × HSh) := js_68 ++ [(16, 19, ⟨69, 71, [.ctx, .ctx, .ctx, .slot [.f, .f, .f, .f, .f, .f, .f, .f, .f] 9, .ctx, .ctx, .ctx, .ctx, .ctx, .ctx, .ctx, .ctx, .ctx, .ctx, .ctx, .ctx, .ctx, .ctx, .ctx, .ctx, .drop, .drop, .drop, .drop, .drop, .drop, .drop, .ctx], [], [], [68]⟩)]
noncomputable def lt_56_69 (D : Dom) : LTb D := ltOf (ll_56 D) js_69
theorem hok_56_69 : HooksOK Try.prog (lt_56_69 R) := hok_56_68.jt
def sh_56 : HSh := ⟨68, 71, [.env (.sslice 0 .part none () 9), .env (.undef), .env (.nils), .slot [.f, .f, .f, .f, .f, .f, .f, .f, .f] 9, .var (.si .i64 ()), .drop, .drop, .drop, .drop, .drop, .drop, .drop, .drop, .drop, .drop, .drop, .drop, .drop, .drop, .drop, .drop, .drop, .drop, .drop, .drop, .drop, .drop, .env (.undef)], [], [(0, [.row true [.f, .f, .f, .f, .f, .f, .f, .f, .f] ()])], []⟩
def st_56 (D : Dom) (env p : List (PD D)) : D.B × D.B × List (PD D) := G6 D (nthZ env 0) (nthL env 1) p
theorem rd_56 (D : Dom) (env vars : List (PD D)) (ctx : List (AV D)) : (sh_56.round (sh_56.st env vars ctx).h.length (evCodeH Try.prog (tbl_20 D) (lt_56_69 D) 80 16 (loopB Try.prog 16 0) (sh_56.st env vars ctx))).map Nr.step = some (st_56 D env vars) := by kernel_rfl
noncomputable def ll_57 (D : Dom) : List (LE D) := ⟨16, 0, sh_56, st_56 D, fun s => evCodeH Try.prog (tbl_20 D) (lt_56_69 D) 80 16 (loopB Try.prog 16 0) s⟩ :: ll_56 D
noncomputable def lt_57_69 (D : Dom) : LTb D := ltOf (ll_57 D) js_69
theorem hok_57_69 : HooksOK Try.prog (lt_57_69 R) := HooksOK.cons prg tok_20 hok_56_69 (by kernel_rfl) (by kernel_rfl) (rd_56 R)
def sh_57 : HSh := ⟨82, 82, [.env (.nils), .env (.undef), .var (.si .i64 ()), .var (.si .i64 ()), .var (.si .i64 ()), .drop, .drop, .drop, .drop, .drop, .drop, .drop, .drop, .drop, .drop, .drop, .drop, .drop, .drop, .drop, .drop, .drop, .drop, .drop, .drop, .drop, .drop, .drop, .drop, .env (.undef)], [], [], []⟩
def st_57 (D : Dom) (env p : List (PD D)) : D.B × D.B × List (PD D) := let _ := env; G16 D p
theorem rd_57 (D : Dom) (env vars : List (PD D)) (ctx : List (AV D)) : (sh_57.round (sh_57.st env vars ctx).h.length (evCodeH Try.prog (tbl_20 D) (lt_57_69 D) 80 8 (loopB Try.prog 8 0) (sh_57.st env vars ctx))).map Nr.step = some (st_57 D env vars) := by kernel_rfl
noncomputable def ll_58 (D : Dom) : List (LE D) := ⟨8, 0, sh_57, st_57 D, fun s => evCodeH Try.prog (tbl_20 D) (lt_57_69 D) 80 8 (loopB Try.prog 8 0) s⟩ :: ll_57 D
noncomputable def lt_58_69 (D : Dom) : LTb D := ltOf (ll_58 D) js_69
theorem hok_58_69 : HooksOK Try.prog (lt_58_69 R) := HooksOK.cons prg tok_20 hok_57_69 (by kernel_rfl) (by kernel_rfl) (rd_57 R)
def js_70 : List (Nat × Nat × HSh) := js_69 ++ [(16, 19, ⟨80, 82, [.ctx, .ctx, .ctx, .slot [.f, .f, .f, .f, .f, .f, .f, .f, .f] 9, .ctx, .ctx, .ctx, .ctx, .ctx, .ctx, .ctx, .ctx, .ctx, .ctx, .ctx, .ctx, .ctx, .ctx, .ctx, .ctx, .drop, .drop, .drop, .drop, .drop, .drop, .drop, .ctx], [], [], [79]⟩)]
noncomputable def lt_58_70 (D : Dom) : LTb D := ltOf (ll_58 D) js_70
theorem hok_58_70 : HooksOK Try.prog (lt_58_70 R) := hok_58_69.jt
def sh_58 : HSh := ⟨79, 82, [.env (.sslice 0 .part none () 9), .env (.undef), .env (.nils), .slot [.f, .f, .f, .f, .f, .f, .f, .f, .f] 9, .var (.si .i64 ()), .drop, .drop, .drop, .drop, .drop, .drop, .drop, .drop, .drop, .drop, .drop, .drop, .drop, .drop, .drop, .drop, .drop, .drop, .drop, .drop, .drop, .drop, .env (.undef)], [], [(0, [.row true [.f, .f, .f, .f, .f, .f, .f, .f, .f] ()])], []⟩
def st_58 (D : Dom) (env p : List (PD D)) : D.B × D.B × List (PD D) := G6 D (nthZ env 0) (nthL env 1) p
theorem rd_58 (D : Dom) (env vars : List (PD D)) (ctx : List (AV D)) : (sh_58.round (sh_58.st env vars ctx).h.length (evCodeH Try.prog (tbl_20 D) (lt_58_70 D) 80 16 (loopB Try.prog 16 0) (sh_58.st env vars ctx))).map Nr.step = some (st_58 D env vars) := by kernel_rfl
noncomputable def ll_59 (D : Dom) : List (LE D) := ⟨16, 0, sh_58, st_58 D, fun s => evCodeH Try.prog (tbl_20 D) (lt_58_70 D) 80 16 (loopB Try.prog 16 0) s⟩ :: ll_58 D
noncomputable def lt_59_70 (D : Dom) : LTb D := ltOf (ll_59 D) js_70
theorem hok_59_70 : HooksOK Try.prog (lt_59_70 R) := HooksOK.cons prg tok_20 hok_58_70 (by kernel_rfl) (by kernel_rfl) (rd_58 R)
def js_71 : List (Nat × Nat × HSh) := js_70 ++ [(17, 2000000, ⟨82, 86, [.var (.agg [.fl (), .fl (), .fl ()])], [], [], []⟩)]
def js_72 : List (Nat × Nat × HSh) := js_71 ++ [(51, 2000000, ⟨90, 90, [.var (.si .i64 ())], [], [], []⟩)]
def js_73 : List (Nat × Nat × HSh) := js_72 ++ [(26, 2000000, ⟨90, 90, [.var (.fl ())], [], [], []⟩)]
def js_74 : List (Nat × Nat × HSh) := js_73 ++ [(11, 2000000, ⟨90, 90, [.var (.fl ())], [], [], []⟩)]
def js_75 : List (Nat × Nat × HSh) := js_74 ++ [(18, 2000000, ⟨86, 90, [.var (.fl ())], [], [], []⟩)]
noncomputable def lt_59_75 (D : Dom) : LTb D := ltOf (ll_59 D) js_75
theorem hok_59_75 : HooksOK Try.prog (lt_59_75 R) := hok_59_70.jt
def sh_59 : HSh := ⟨93, 93, [.env (.sslice 73 .whole none () 1), .env (.undef), .var (.si .i64 ()), .var (.si .i64 ()), .var (.si .i64 ()), .drop, .drop, .drop, .drop, .drop, .drop, .drop, .drop, .drop, .drop, .drop, .drop, .drop, .drop, .drop, .drop, .drop, .drop, .drop, .drop, .drop, .drop, .drop, .drop, .env (.undef)], [], [(73, [.row false [.z .i64] ()])], []⟩
def st_59 (D : Dom) (env p : List (PD D)) : D.B × D.B × List (PD D) := G15 D (nthZ env 0) (nthL env 1) p
theorem rd_59 (D : Dom) (env vars : List (PD D)) (ctx : List (AV D)) : (sh_59.round (sh_59.st env vars ctx).h.length (evCodeH Try.prog (tbl_20 D) (lt_59_75 D) 80 8 (loopB Try.prog 8 0) (sh_59.st env vars ctx))).map Nr.step = some (st_59 D env vars) := by kernel_rfl
noncomputable def ll_60 (D : Dom) : List (LE D) := ⟨8, 0, sh_59, st_59 D, fun s => evCodeH Try.prog (tbl_20 D) (lt_59_75 D) 80 8 (loopB Try.prog 8 0) s⟩ :: ll_59 D
noncomputable def lt_60_75 (D : Dom) : LTb D := ltOf (ll_60 D) js_75
theorem hok_60_75 : HooksOK Try.prog (lt_60_75 R) := HooksOK.cons prg tok_20 hok_59_75 (by kernel_rfl) (by kernel_rfl) (rd_59 R)
def js_76 : List (Nat × Nat × HSh) := js_75 ++ [(8, 2000000, ⟨93, 93, [.var (.si .i64 ())], [], [], []⟩)]
def js_77 : List (Nat × Nat × HSh) := js_76 ++ [(16, 19, ⟨73, 75, [.ctx, .ctx, .ctx, .slot [.f, .f, .f, .f, .f, .f, .f, .f, .f] 9, .ctx, .ctx, .ctx, .ctx, .ctx, .ctx, .ctx, .ctx, .ctx, .ctx, .ctx, .ctx, .ctx, .ctx, .ctx, .ctx, .drop, .drop, .drop, .drop, .drop, .drop, .drop, .ctx], [], [], [72]⟩)]
noncomputable def lt_60_77 (D : Dom) : LTb D := ltOf (ll_60 D) js_77
theorem hok_60_77 : HooksOK Try.prog (lt_60_77 R) := hok_60_75.jt
def sh_60 : HSh := ⟨72, 75, [.env (.sslice 0 .part none () 9), .env (.undef), .env (.nils), .slot [.f, .f, .f, .f, .f, .f, .f, .f, .f] 9, .var (.si .i64 ()), .drop, .drop, .drop, .drop, .drop, .drop, .drop, .drop, .drop, .drop, .drop, .drop, .drop, .drop, .drop, .drop, .drop, .drop, .drop, .drop, .drop, .drop, .env (.undef)], [], [(0, [.row true [.f, .f, .f, .f, .f, .f, .f, .f, .f] ()])], []⟩
def st_60 (D : Dom) (env p : List (PD D)) : D.B × D.B × List (PD D) := G6 D (nthZ env 0) (nthL env 1) p
theorem rd_60 (D : Dom) (env vars : List (PD D)) (ctx : List (AV D)) : (sh_60.round (sh_60.st env vars ctx).h.length (evCodeH Try.prog (tbl_20 D) (lt_60_77 D) 80 16 (loopB Try.prog 16 0) (sh_60.st env vars ctx))).map Nr.step = some (st_60 D env vars) := by kernel_rfl
noncomputable def ll_61 (D : Dom) : List (LE D) := ⟨16, 0, sh_60, st_60 D, fun s => evCodeH Try.prog (tbl_20 D) (lt_60_77 D) 80 16 (loopB Try.prog 16 0) s⟩ :: ll_60 D
noncomputable def lt_61_77 (D : Dom) : LTb D := ltOf (ll_61 D) js_77
theorem hok_61_77 : HooksOK Try.prog (lt_61_77 R) := HooksOK.cons prg tok_20 hok_60_77 (by kernel_rfl) (by kernel_rfl) (rd_60 R)
def js_78 : List (Nat × Nat × HSh) := js_77 ++ [(17, 2000000, ⟨75, 79, [.var (.agg [.fl (), .fl (), .fl ()])], [], [], []⟩)]
def js_79 : List (Nat × Nat × HSh) := js_78 ++ [(51, 2000000, ⟨83, 83, [.var (.si .i64 ())], [], [], []⟩)]
def js_80 : List (Nat × Nat × HSh) := js_79 ++ [(26, 2000000, ⟨83, 83, [.var (.fl ())], [], [], []⟩)]
def js_81 : List (Nat × Nat × HSh) := js_80 ++ [(11, 2000000, ⟨83, 83, [.var (.fl ())], [], [], []⟩)]
def js_82 : List (Nat × Nat × HSh) := js_81 ++ [(18, 2000000, ⟨79, 83, [.var (.fl ())], [], [], []⟩)]
noncomputable def lt_61_82 (D : Dom) : LTb D := ltOf (ll_61 D) js_82
theorem hok_61_82 : HooksOK Try.prog (lt_61_82 R) := hok_61_77.jt
def sh_61 : HSh := ⟨86, 86, [.env (.sslice 69 .whole none () 1), .env (.undef), .var (.si .i64 ()), .var (.si .i64 ()), .var (.si .i64 ()), .drop, .drop, .drop, .drop, .drop, .drop, .drop, .drop, .drop, .drop, .drop, .drop, .drop, .drop, .drop, .drop, .drop, .drop, .drop, .drop, .drop, .drop, .drop, .drop, .env (.undef)], [], [(69, [.row false [.z .i64] ()])], []⟩
def st_61 (D : Dom) (env p : List (PD D)) : D.B × D.B × List (PD D) := G15 D (nthZ env 0) (nthL env 1) p
theorem rd_61 (D : Dom) (env vars : List (PD D)) (ctx : List (AV D)) : (sh_61.round (sh_61.st env vars ctx).h.length (evCodeH Try.prog (tbl_20 D) (lt_61_82 D) 80 8 (loopB Try.prog 8 0) (sh_61.st env vars ctx))).map Nr.step = some (st_61 D env vars) := by kernel_rfl
noncomputable def ll_62 (D : Dom) : List (LE D) := ⟨8, 0, sh_61, st_61 D, fun s => evCodeH Try.prog (tbl_20 D) (lt_61_82 D) 80 8 (loopB Try.prog 8 0) s⟩ :: ll_61 D
noncomputable def lt_62_82 (D : Dom) : LTb D := ltOf (ll_62 D) js_82
theorem hok_62_82 : HooksOK Try.prog (lt_62_82 R) := HooksOK.cons prg tok_20 hok_61_82 (by kernel_rfl) (by kernel_rfl) (rd_61 R)
def js_83 : List (Nat × Nat × HSh) := js_82 ++ [(8, 2000000, ⟨86, 86, [.var (.si .i64 ())], [], [], []⟩)]
noncomputable def lt_62_83 (D : Dom) : LTb D := ltOf (ll_62 D) js_83
theorem hok_62_83 : HooksOK Try.prog (lt_62_83 R) := hok_62_82.jt

-- penumbra/penumbralaw18.LightSeen
def WS5_0_0 (D : Dom) (a2 : D.Z) (a3 : D.L) : D.B := (D.bite (D.bite (D.zlt a2 (D.zc 1)) (D.bc true) (D.zlt (D.zc 16) a2)) (D.bc true) (D.bnot (D.zeq (D.llen a3) (D.zmul .i64 (D.zc 8) a2))))
def WS5_0_1 (D : Dom) (a3 : D.L) : List (PD D) := (L7 D a3 (D.llen a3) (D.bc false) (D.zc 0))
def WS5_0_2 (D : Dom) (a2 : D.Z) (a3 : D.L) : D.B := (D.bite (WS5_0_0 D a2 a3) (D.bc false) (D.bite (D.zlt (nthZ (WS5_0_1 D a3) 1) (D.llen a3)) (D.bc false) (D.bc true)))
def WS5_0_3 (D : Dom) (a2 : D.Z) (a3 : D.L) (a4 : D.B) : D.B := (D.bite a4 (WS5_0_2 D a2 a3) (D.bc false))
def WS5_0_4 (D : Dom) (a3 : D.L) : List (PD D) := (L8 D (D.llen a3) (D.llen a3) a3 D.lnil (D.zc 0) (D.zc 0))
def WS5_0_5 (D : Dom) (a3 : D.L) : D.B := (D.zlt (nthZ (WS5_0_4 D a3) 2) (D.llen a3))
def WS5_0_6 (D : Dom) (a2 : D.Z) (a3 : D.L) (a4 : D.B) : D.B := (D.band (WS5_0_3 D a2 a3 a4) (D.bnot (D.zeq (D.zite (WS5_0_0 D a2 a3) (D.zc 2) (D.zite (WS5_0_5 D a3) (D.zc 2) (D.zc 0))) (D.zc 0))))
def WS5_0_7 (D : Dom) (a0 : D.L) : List (PD D) := (L6 D (D.llen a0) a0 D.lnil (D.zc 0))
def WS5_0_8 (D : Dom) (a0 : D.L) (a1 : D.L) : List (PD D) := (L10 D (D.llen (nthL (WS5_0_7 D a0) 0)) (D.llen a1) (D.llen a1) (D.llen a1) (nthL (WS5_0_7 D a0) 0) a1 D.lnil (D.zc 0) (D.zc 0))
def WS5_0_9 (D : Dom) (a0 : D.L) (a1 : D.L) : D.B := (D.zlt (nthZ (WS5_0_8 D a0 a1) 2) (D.llen a1))
def WS5_0_10 (D : Dom) (a0 : D.L) (a1 : D.L) : List (PD D) := (L12 D (D.llen (nthL (WS5_0_7 D a0) 0)) (D.llen a1) a1 (D.zc 0) (D.zc 0))
def WS5_0_11 (D : Dom) (a0 : D.L) (a1 : D.L) : D.Z := (D.zite (D.zlt (D.zc 512) (D.llen a1)) (D.zc 4) (D.zite (D.zlt (nthZ (WS5_0_10 D a0 a1) 1) (D.llen a1)) (D.zc 2) (D.zc 0)))
def WS5_0_12 (D : Dom) (a0 : D.L) (a1 : D.L) : D.B := (D.bite (D.zlt (D.zc 512) (D.llen a1)) (D.bc false) (D.bnot (WS5_0_9 D a0 a1)))
def WS5_0_13 (D : Dom) (a0 : D.L) (a1 : D.L) : D.B := (D.bnot (D.zeq (WS5_0_11 D a0 a1) (D.zc 0)))
def WS5_0_14 (D : Dom) (a0 : D.L) (a1 : D.L) : D.B := (D.bite (D.bite (D.bnot (D.zeq (D.zite (D.zlt (D.zc 512) (D.llen a1)) (D.zc 4) (D.zite (WS5_0_9 D a0 a1) (D.zc 2) (D.zc 0))) (WS5_0_11 D a0 a1))) (D.bc true) (D.bite (D.zeq (WS5_0_11 D a0 a1) (D.zc 0)) (D.bnot (WS5_0_12 D a0 a1)) (D.bc false))) (D.bc true) (D.bite (WS5_0_13 D a0 a1) (WS5_0_12 D a0 a1) (D.bc false)))
def WS5_0_15 (D : Dom) (a0 : D.L) (a1 : D.L) (a2 : D.Z) (a3 : D.L) (a4 : D.B) : D.B := (D.bite (WS5_0_6 D a2 a3 a4) (D.bc true) (D.bite (WS5_0_14 D a0 a1) (D.bc true) (WS5_0_13 D a0 a1)))
def WS5_0_16 (D : Dom) (a0 : D.L) (a1 : D.L) (a2 : D.Z) (a3 : D.L) (a4 : D.B) : D.Z := (D.zite (WS5_0_6 D a2 a3 a4) (D.zc 8) (D.zite (WS5_0_14 D a0 a1) (D.zc 8) (WS5_0_11 D a0 a1)))
def WS5_0_17 (D : Dom) (a1 : D.L) (a5 : D.Z) : D.B := (D.bite (D.zlt a5 (D.zc 0)) (D.bc true) (D.zle (D.llen a1) a5))
def WS5_0_18 (D : Dom)  : D.B := (D.band (D.feq (D.fc 0) (D.fc 0)) (D.band (D.feq (D.fc 0) (D.fc 0)) (D.band (D.feq (D.fc 0) (D.fc 0)) (D.bc true))))
def WS5_0_19 (D : Dom) (a0 : D.L) (a1 : D.L) (a5 : D.Z) : D.F := (D.lf (nthL (WS5_0_7 D a0) 0) (D.lz a1 a5 0) 0)
def WS5_0_20 (D : Dom) (a0 : D.L) (a1 : D.L) (a5 : D.Z) : D.F := (D.lf (nthL (WS5_0_7 D a0) 0) (D.lz a1 a5 0) 1)
def WS5_0_21 (D : Dom) (a0 : D.L) (a1 : D.L) (a5 : D.Z) : D.F := (D.lf (nthL (WS5_0_7 D a0) 0) (D.lz a1 a5 0) 2)
def WS5_0_22 (D : Dom) (a0 : D.L) (a1 : D.L) (a5 : D.Z) : D.F := (D.lf (nthL (WS5_0_7 D a0) 0) (D.lz a1 a5 0) 3)
def WS5_0_23 (D : Dom) (a0 : D.L) (a1 : D.L) (a5 : D.Z) : D.F := (D.lf (nthL (WS5_0_7 D a0) 0) (D.lz a1 a5 0) 4)
def WS5_0_24 (D : Dom) (a0 : D.L) (a1 : D.L) (a5 : D.Z) : D.F := (D.lf (nthL (WS5_0_7 D a0) 0) (D.lz a1 a5 0) 5)
def WS5_0_25 (D : Dom) (a0 : D.L) (a1 : D.L) (a5 : D.Z) : D.F := (D.lf (nthL (WS5_0_7 D a0) 0) (D.lz a1 a5 0) 6)
def WS5_0_26 (D : Dom) (a0 : D.L) (a1 : D.L) (a5 : D.Z) : D.F := (D.lf (nthL (WS5_0_7 D a0) 0) (D.lz a1 a5 0) 7)
def WS5_0_27 (D : Dom) (a0 : D.L) (a1 : D.L) (a5 : D.Z) : D.F := (D.lf (nthL (WS5_0_7 D a0) 0) (D.lz a1 a5 0) 8)
def WS5_0_28 (D : Dom) (a0 : D.L) (a1 : D.L) (a5 : D.Z) (a6 : D.F) (a7 : D.F) (a8 : D.F) : D.B := (S19_0 D (WS5_0_19 D a0 a1 a5) (WS5_0_20 D a0 a1 a5) (WS5_0_21 D a0 a1 a5) (WS5_0_22 D a0 a1 a5) (WS5_0_23 D a0 a1 a5) (WS5_0_24 D a0 a1 a5) (WS5_0_25 D a0 a1 a5) (WS5_0_26 D a0 a1 a5) (WS5_0_27 D a0 a1 a5) a6 a7 a8)
def WS5_0_29 (D : Dom) (a0 : D.L) (a1 : D.L) (a5 : D.Z) (a6 : D.F) (a7 : D.F) (a8 : D.F) : D.F := (D.fite (WS5_0_28 D a0 a1 a5 a6 a7 a8) (D.lf a1 a5 1) (D.fc 0))
def WS5_0_30 (D : Dom) (a0 : D.L) (a1 : D.L) (a5 : D.Z) (a6 : D.F) (a7 : D.F) (a8 : D.F) : D.F := (D.fite (WS5_0_28 D a0 a1 a5 a6 a7 a8) (D.lf a1 a5 2) (D.fc 0))
def WS5_0_31 (D : Dom) (a0 : D.L) (a1 : D.L) (a5 : D.Z) (a6 : D.F) (a7 : D.F) (a8 : D.F) : D.F := (D.fite (WS5_0_28 D a0 a1 a5 a6 a7 a8) (D.lf a1 a5 3) (D.fc 0))
def WS5_0_32 (D : Dom) (a0 : D.L) (a1 : D.L) (a5 : D.Z) (a6 : D.F) (a7 : D.F) (a8 : D.F) (a9 : D.F) (a10 : D.F) (a11 : D.F) : D.F := (S20_0 D (WS5_0_19 D a0 a1 a5) (WS5_0_20 D a0 a1 a5) (WS5_0_21 D a0 a1 a5) (WS5_0_22 D a0 a1 a5) (WS5_0_23 D a0 a1 a5) (WS5_0_24 D a0 a1 a5) (WS5_0_25 D a0 a1 a5) (WS5_0_26 D a0 a1 a5) (WS5_0_27 D a0 a1 a5) a6 a7 a8 a9 a10 a11)
def WS5_0_33 (D : Dom) (a1 : D.L) : D.L := (D.lcat D.lnil (D.lsub a1 (D.zc 0) (D.llen a1)))
def WS5_0_34 (D : Dom) (a0 : D.L) (a1 : D.L) (a5 : D.Z) : D.B := (D.bite (D.bite (D.bnot (WS5_0_12 D a0 a1)) (D.bc true) (D.zlt a5 (D.zc 0))) (D.bc true) (D.zle (D.llen (WS5_0_33 D a1)) a5))
def WS5_0_35 (D : Dom) (a0 : D.L) (a1 : D.L) (a5 : D.Z) : D.B := (D.bnot (D.bite (WS5_0_34 D a0 a1 a5) (D.bc false) (D.bc true)))
def WS5_0_36 (D : Dom) (a0 : D.L) : D.L := (D.lcat D.lnil (D.lsub (nthL (WS5_0_7 D a0) 0) (D.zc 0) (D.llen (nthL (WS5_0_7 D a0) 0))))
def WS5_0_37 (D : Dom) (a0 : D.L) (a1 : D.L) (a5 : D.Z) : D.Z := (D.zite (WS5_0_34 D a0 a1 a5) (D.zc 0) (D.lz (WS5_0_33 D a1) a5 0))
def WS5_0_38 (D : Dom) (a0 : D.L) (a1 : D.L) (a5 : D.Z) : D.F := (D.lf (WS5_0_36 D a0) (WS5_0_37 D a0 a1 a5) 0)
def WS5_0_39 (D : Dom) (a0 : D.L) (a1 : D.L) (a5 : D.Z) : D.F := (D.lf (WS5_0_36 D a0) (WS5_0_37 D a0 a1 a5) 1)
def WS5_0_40 (D : Dom) (a0 : D.L) (a1 : D.L) (a5 : D.Z) : D.F := (D.lf (WS5_0_36 D a0) (WS5_0_37 D a0 a1 a5) 2)
def WS5_0_41 (D : Dom) (a0 : D.L) (a1 : D.L) (a5 : D.Z) : D.F := (D.lf (WS5_0_36 D a0) (WS5_0_37 D a0 a1 a5) 3)
def WS5_0_42 (D : Dom) (a0 : D.L) (a1 : D.L) (a5 : D.Z) : D.F := (D.lf (WS5_0_36 D a0) (WS5_0_37 D a0 a1 a5) 4)
def WS5_0_43 (D : Dom) (a0 : D.L) (a1 : D.L) (a5 : D.Z) : D.F := (D.lf (WS5_0_36 D a0) (WS5_0_37 D a0 a1 a5) 5)
def WS5_0_44 (D : Dom) (a0 : D.L) (a1 : D.L) (a5 : D.Z) : D.F := (D.lf (WS5_0_36 D a0) (WS5_0_37 D a0 a1 a5) 6)
def WS5_0_45 (D : Dom) (a0 : D.L) (a1 : D.L) (a5 : D.Z) : D.F := (D.lf (WS5_0_36 D a0) (WS5_0_37 D a0 a1 a5) 7)
def WS5_0_46 (D : Dom) (a0 : D.L) (a1 : D.L) (a5 : D.Z) : D.F := (D.lf (WS5_0_36 D a0) (WS5_0_37 D a0 a1 a5) 8)
def WS5_0_47 (D : Dom) (a0 : D.L) (a1 : D.L) (a5 : D.Z) (a6 : D.F) (a7 : D.F) (a8 : D.F) : D.B := (D.bnot (S30_0 D (WS5_0_38 D a0 a1 a5) (WS5_0_39 D a0 a1 a5) (WS5_0_40 D a0 a1 a5) (WS5_0_41 D a0 a1 a5) (WS5_0_42 D a0 a1 a5) (WS5_0_43 D a0 a1 a5) (WS5_0_44 D a0 a1 a5) (WS5_0_45 D a0 a1 a5) (WS5_0_46 D a0 a1 a5) a6 a7 a8))
def WS5_0_48 (D : Dom) (a0 : D.L) (a1 : D.L) (a5 : D.Z) (a6 : D.F) (a7 : D.F) (a8 : D.F) : D.F := (D.fite (WS5_0_35 D a0 a1 a5) (D.fc 0) (D.fite (WS5_0_47 D a0 a1 a5 a6 a7 a8) (D.fc 0) (D.fite (WS5_0_34 D a0 a1 a5) (D.fc 0) (D.lf (WS5_0_33 D a1) a5 1))))
def WS5_0_49 (D : Dom) (a0 : D.L) (a1 : D.L) (a5 : D.Z) (a6 : D.F) (a7 : D.F) (a8 : D.F) : D.F := (D.fite (WS5_0_35 D a0 a1 a5) (D.fc 0) (D.fite (WS5_0_47 D a0 a1 a5 a6 a7 a8) (D.fc 0) (D.fite (WS5_0_34 D a0 a1 a5) (D.fc 0) (D.lf (WS5_0_33 D a1) a5 2))))
def WS5_0_50 (D : Dom) (a0 : D.L) (a1 : D.L) (a5 : D.Z) (a6 : D.F) (a7 : D.F) (a8 : D.F) : D.F := (D.fite (WS5_0_35 D a0 a1 a5) (D.fc 0) (D.fite (WS5_0_47 D a0 a1 a5 a6 a7 a8) (D.fc 0) (D.fite (WS5_0_34 D a0 a1 a5) (D.fc 0) (D.lf (WS5_0_33 D a1) a5 3))))
def WS5_0_51 (D : Dom) (a2 : D.Z) (a3 : D.L) (a4 : D.B) : D.B := (D.bite (WS5_0_3 D a2 a3 a4) (D.bite (WS5_0_0 D a2 a3) (D.bc false) (D.bnot (WS5_0_5 D a3))) (D.bc false))
def WS5_0_52 (D : Dom) (a3 : D.L) : D.B := (D.zlt (D.zc 1024) (D.llen (nthL (WS5_0_4 D a3) 0)))
def WS5_0_53 (D : Dom) (a3 : D.L) : List (PD D) := (L2 D (D.llen (nthL (WS5_0_4 D a3) 0)) (D.llen (nthL (WS5_0_4 D a3) 0)) (nthL (WS5_0_4 D a3) 0) (D.zc 0) (D.zc 0) (D.zc 0) (D.zc 0))
def WS5_0_54 (D : Dom) (a3 : D.L) : D.B := (D.zlt (nthZ (WS5_0_53 D a3) 3) (D.llen (nthL (WS5_0_4 D a3) 0)))
def WS5_0_55 (D : Dom) (a3 : D.L) : D.B := (D.zeq (D.llen (nthL (WS5_0_4 D a3) 0)) (D.zc 0))
def WS5_0_56 (D : Dom) (a3 : D.L) : D.B := (D.bite (WS5_0_55 D a3) (D.bc true) (D.zeq (nthZ (WS5_0_53 D a3) 2) (D.zc 0)))
def WS5_0_57 (D : Dom) (a0 : D.L) (a1 : D.L) (a2 : D.Z) (a3 : D.L) (a4 : D.B) : D.L := (D.lite (WS5_0_51 D a2 a3 a4) (D.lapp (nthL (WS5_0_8 D a0 a1) 0) [[.z (D.zmin (D.zite (D.bnot (WS5_0_51 D a2 a3 a4)) (D.zc 0) (D.zite (D.bnot (D.bnot (D.bnot (D.zeq (D.zite (WS5_0_52 D a3) (D.zc 4) (D.zite (WS5_0_54 D a3) (D.zc 2) (D.zite (WS5_0_56 D a3) (D.zite (WS5_0_55 D a3) (D.zc 2) (D.zc 13)) (D.zc 0)))) (D.zc 0))))) (D.zc 0) (D.zite (WS5_0_52 D a3) (D.zc 0) (D.zite (WS5_0_54 D a3) (D.zc 0) (D.zite (WS5_0_56 D a3) (D.zc 0) (nthZ (WS5_0_53 D a3) 2)))))) (D.zc 1048576))]]) (nthL (WS5_0_8 D a0 a1) 0))
def WS5_0_58 (D : Dom) (a0 : D.L) (a1 : D.L) (a2 : D.Z) (a3 : D.L) (a4 : D.B) : D.B := (D.zlt (D.zc 1024) (D.llen (WS5_0_57 D a0 a1 a2 a3 a4)))
def WS5_0_59 (D : Dom) (a0 : D.L) (a1 : D.L) (a2 : D.Z) (a3 : D.L) (a4 : D.B) : List (PD D) := (L2 D (D.llen (WS5_0_57 D a0 a1 a2 a3 a4)) (D.llen (WS5_0_57 D a0 a1 a2 a3 a4)) (WS5_0_57 D a0 a1 a2 a3 a4) (D.zc 0) (D.zc 0) (D.zc 0) (D.zc 0))
def WS5_0_60 (D : Dom) (a0 : D.L) (a1 : D.L) (a2 : D.Z) (a3 : D.L) (a4 : D.B) : D.B := (D.zlt (nthZ (WS5_0_59 D a0 a1 a2 a3 a4) 3) (D.llen (WS5_0_57 D a0 a1 a2 a3 a4)))
def WS5_0_61 (D : Dom) (a0 : D.L) (a1 : D.L) (a2 : D.Z) (a3 : D.L) (a4 : D.B) : D.B := (D.zeq (D.llen (WS5_0_57 D a0 a1 a2 a3 a4)) (D.zc 0))
def WS5_0_62 (D : Dom) (a0 : D.L) (a1 : D.L) (a2 : D.Z) (a3 : D.L) (a4 : D.B) : D.B := (D.bite (WS5_0_61 D a0 a1 a2 a3 a4) (D.bc true) (D.zeq (nthZ (WS5_0_59 D a0 a1 a2 a3 a4) 2) (D.zc 0)))
def WS5_0_63 (D : Dom) (a0 : D.L) (a1 : D.L) (a2 : D.Z) (a3 : D.L) (a4 : D.B) (a5 : D.Z) (a6 : D.F) (a7 : D.F) (a8 : D.F) (a9 : D.F) (a10 : D.F) (a11 : D.F) : D.F := (D.fite (WS5_0_35 D a0 a1 a5) (D.fc 0) (D.fmul (D.fite (D.bnot (WS5_0_12 D a0 a1)) (D.fc 0) (D.fite (D.bnot (D.bite (D.zle (D.zc 0) a5) (D.zlt a5 (D.zite (D.bnot (D.bnot (D.bnot (D.zeq (D.zite (WS5_0_58 D a0 a1 a2 a3 a4) (D.zc 4) (D.zite (WS5_0_60 D a0 a1 a2 a3 a4) (D.zc 2) (D.zite (WS5_0_62 D a0 a1 a2 a3 a4) (D.zite (WS5_0_61 D a0 a1 a2 a3 a4) (D.zc 2) (D.zc 13)) (D.zc 0)))) (D.zc 0))))) (D.zc 0) (D.llen (WS5_0_57 D a0 a1 a2 a3 a4)))) (D.bc false))) (D.fc 0) (D.fdiv (D.i2f (D.lz (WS5_0_57 D a0 a1 a2 a3 a4) a5 0)) (D.i2f (D.zite (WS5_0_58 D a0 a1 a2 a3 a4) (D.zc 0) (D.zite (WS5_0_60 D a0 a1 a2 a3 a4) (D.zc 0) (D.zite (WS5_0_62 D a0 a1 a2 a3 a4) (D.zc 0) (nthZ (WS5_0_59 D a0 a1 a2 a3 a4) 2)))))))) (S31_0 D (WS5_0_38 D a0 a1 a5) (WS5_0_39 D a0 a1 a5) (WS5_0_40 D a0 a1 a5) (WS5_0_41 D a0 a1 a5) (WS5_0_42 D a0 a1 a5) (WS5_0_43 D a0 a1 a5) (WS5_0_44 D a0 a1 a5) (WS5_0_45 D a0 a1 a5) (WS5_0_46 D a0 a1 a5) a6 a7 a8 a9 a10 a11)))
def WS5_0_64 (D : Dom) (a0 : D.L) (a1 : D.L) (a2 : D.Z) (a3 : D.L) (a4 : D.B) (a5 : D.Z) (a6 : D.F) (a7 : D.F) (a8 : D.F) (a9 : D.F) (a10 : D.F) (a11 : D.F) : D.B := (D.bite (D.bite (S6_0 D) (D.band (D.feq (WS5_0_48 D a0 a1 a5 a6 a7 a8) (D.fc 0)) (D.band (D.feq (WS5_0_49 D a0 a1 a5 a6 a7 a8) (D.fc 0)) (D.band (D.feq (WS5_0_50 D a0 a1 a5 a6 a7 a8) (D.fc 0)) (D.bc true)))) (D.bc false)) (D.feq (WS5_0_63 D a0 a1 a2 a3 a4 a5 a6 a7 a8 a9 a10 a11) (D.fc 0)) (D.bc false))
def WS5_0_65 (D : Dom) (a0 : D.L) (a1 : D.L) (a5 : D.Z) (a6 : D.F) (a7 : D.F) (a8 : D.F) : D.B := (D.bite (S6_0 D) (D.band (D.feq (WS5_0_48 D a0 a1 a5 a6 a7 a8) (WS5_0_29 D a0 a1 a5 a6 a7 a8)) (D.band (D.feq (WS5_0_49 D a0 a1 a5 a6 a7 a8) (WS5_0_30 D a0 a1 a5 a6 a7 a8)) (D.band (D.feq (WS5_0_50 D a0 a1 a5 a6 a7 a8) (WS5_0_31 D a0 a1 a5 a6 a7 a8)) (D.bc true)))) (D.bc false))
def WS5_0_66 (D : Dom) (a0 : D.L) (a1 : D.L) : List (PD D) := (L13 D (D.llen (nthL (WS5_0_7 D a0) 0)) (D.llen a1) (nthL (WS5_0_7 D a0) 0) a1 D.lnil (D.zc 0))
def WS5_0_67 (D : Dom) (a3 : D.L) : List (PD D) := (L14 D a3 (D.llen a3) D.lnil (D.zc 0))
def WS5_0_68 (D : Dom) (a3 : D.L) : List (PD D) := (L15 D (D.llen (nthL (WS5_0_67 D a3) 0)) (nthL (WS5_0_67 D a3) 0) (D.zc 0) (D.zc 0) (D.zc 0))
def WS5_0_69 (D : Dom) (a0 : D.L) (a1 : D.L) (a2 : D.Z) (a3 : D.L) : D.L := (D.lite (WS5_0_2 D a2 a3) (D.lapp (nthL (WS5_0_66 D a0 a1) 0) [[.z (S49_0 D (D.zite (D.zlt (nthZ (WS5_0_68 D a3) 2) (D.llen (nthL (WS5_0_67 D a3) 0))) (D.zc (-1)) (nthZ (WS5_0_68 D a3) 1)) (D.zc 1048576))]]) (nthL (WS5_0_66 D a0 a1) 0))
def WS5_0_70 (D : Dom) (a0 : D.L) (a1 : D.L) (a2 : D.Z) (a3 : D.L) : List (PD D) := (L15 D (D.llen (WS5_0_69 D a0 a1 a2 a3)) (WS5_0_69 D a0 a1 a2 a3) (D.zc 0) (D.zc 0) (D.zc 0))
def WS5_0_71 (D : Dom) (a0 : D.L) (a1 : D.L) (a2 : D.Z) (a3 : D.L) : D.Z := (D.zite (D.zlt (nthZ (WS5_0_70 D a0 a1 a2 a3) 2) (D.llen (WS5_0_69 D a0 a1 a2 a3))) (D.zc (-1)) (nthZ (WS5_0_70 D a0 a1 a2 a3) 1))
def WS5_0_72 (D : Dom) (a0 : D.L) (a1 : D.L) : List (PD D) := (L15 D (D.llen (nthL (WS5_0_66 D a0 a1) 0)) (nthL (WS5_0_66 D a0 a1) 0) (D.zc 0) (D.zc 0) (D.zc 0))
def WS5_0_73 (D : Dom) (a0 : D.L) (a1 : D.L) : D.Z := (D.zite (D.zlt (nthZ (WS5_0_72 D a0 a1) 2) (D.llen (nthL (WS5_0_66 D a0 a1) 0))) (D.zc (-1)) (nthZ (WS5_0_72 D a0 a1) 1))
def S5_0 (D : Dom) (a0 : D.L) (a1 : D.L) (a2 : D.Z) (a3 : D.L) (a4 : D.B) (a5 : D.Z) (a6 : D.F) (a7 : D.F) (a8 : D.F) (a9 : D.F) (a10 : D.F) (a11 : D.F) : D.B := (D.bite (WS5_0_15 D a0 a1 a2 a3 a4) (D.bite (D.zeq (WS5_0_16 D a0 a1 a2 a3 a4) (D.zc 8)) (D.bc false) (D.bite (D.bnot (D.zeq (WS5_0_16 D a0 a1 a2 a3 a4) (D.zc 0))) (S6_0 D) (D.bite (WS5_0_17 D a1 a5) (D.bite (D.bite (S6_0 D) (WS5_0_18 D) (D.bc false)) (D.feq (D.fc 0) (D.fc 0)) (D.bc false)) (D.bite (D.bite (D.bite (D.bite (D.bite (D.bite (D.bite (D.bite (S6_0 D) (D.band (D.feq (D.fc 0) (WS5_0_29 D a0 a1 a5 a6 a7 a8)) (D.band (D.feq (D.fc 0) (WS5_0_30 D a0 a1 a5 a6 a7 a8)) (D.band (D.feq (D.fc 0) (WS5_0_31 D a0 a1 a5 a6 a7 a8)) (D.bc true)))) (D.bc false)) (D.feq (D.fc 0) (D.fmul (D.fc 0) (WS5_0_32 D a0 a1 a5 a6 a7 a8 a9 a10 a11))) (D.bc false)) (D.bc true) (D.bc false)) (D.bc true) (D.bc false)) (D.feq (D.fc 0) (D.fc 0)) (D.bc false)) (D.bc true) (D.bc false)) (WS5_0_18 D) (D.bc false)) (D.feq (D.fc 0) (D.fc 0)) (D.bc false))))) (D.bite (D.band (D.bnot (WS5_0_15 D a0 a1 a2 a3 a4)) (D.band (D.bnot (WS5_0_6 D a2 a3 a4)) (D.band (D.bnot (WS5_0_14 D a0 a1)) (D.band (D.bnot (WS5_0_13 D a0 a1)) a4)))) (D.bite (WS5_0_17 D a1 a5) (WS5_0_64 D a0 a1 a2 a3 a4 a5 a6 a7 a8 a9 a10 a11) (D.bite (D.bite (D.bite (D.bite (D.bite (D.bite (D.bite (WS5_0_65 D a0 a1 a5 a6 a7 a8) (D.feq (WS5_0_63 D a0 a1 a2 a3 a4 a5 a6 a7 a8 a9 a10 a11) (D.fmul (D.fite (D.zlt (D.zc 0) (WS5_0_71 D a0 a1 a2 a3)) (D.fdiv (D.i2f (D.lz (WS5_0_69 D a0 a1 a2 a3) a5 0)) (D.i2f (WS5_0_71 D a0 a1 a2 a3))) (D.fc 0)) (WS5_0_32 D a0 a1 a5 a6 a7 a8 a9 a10 a11))) (D.bc false)) (D.bc true) (D.bc false)) (D.bc true) (D.bc false)) (D.feq (D.fc 0) (D.fc 0)) (D.bc false)) (D.bc true) (D.bc false)) (WS5_0_18 D) (D.bc false)) (D.feq (D.fc 0) (D.fc 0)) (D.bc false))) (D.bite (WS5_0_17 D a1 a5) (WS5_0_64 D a0 a1 a2 a3 a4 a5 a6 a7 a8 a9 a10 a11) (D.bite (D.bite (D.bite (D.bite (D.bite (D.bite (D.bite (WS5_0_65 D a0 a1 a5 a6 a7 a8) (D.feq (WS5_0_63 D a0 a1 a2 a3 a4 a5 a6 a7 a8 a9 a10 a11) (D.fmul (D.fite (D.zlt (D.zc 0) (WS5_0_73 D a0 a1)) (D.fdiv (D.i2f (D.lz (nthL (WS5_0_66 D a0 a1) 0) a5 0)) (D.i2f (WS5_0_73 D a0 a1))) (D.fc 0)) (WS5_0_32 D a0 a1 a5 a6 a7 a8 a9 a10 a11))) (D.bc false)) (D.bc true) (D.bc false)) (D.bc true) (D.bc false)) (D.feq (D.fc 0) (D.fc 0)) (D.bc false)) (D.bc true) (D.bc false)) (WS5_0_18 D) (D.bc false)) (D.feq (D.fc 0) (D.fc 0)) (D.bc false)))))
def WO5_0 (D : Dom) (a0 : D.L) : D.B := (E6 D (D.llen a0) a0 D.lnil (D.zc 0))
def WO5_1 (D : Dom) (a2 : D.Z) (a3 : D.L) : D.B := (D.bite (D.bite (D.zlt a2 (D.zc 1)) (D.bc true) (D.zlt (D.zc 16) a2)) (D.bc true) (D.bnot (D.zeq (D.llen a3) (D.zmul .i64 (D.zc 8) a2))))
def WO5_2 (D : Dom) (a3 : D.L) : D.B := (E7 D a3 (D.llen a3) (D.bc false) (D.zc 0))
def WO5_3 (D : Dom) (a2 : D.Z) (a3 : D.L) : D.B := (D.bite (WO5_1 D a2 a3) (D.bc true) (WO5_2 D a3))
def WO5_4 (D : Dom) (a3 : D.L) : List (PD D) := (L7 D a3 (D.llen a3) (D.bc false) (D.zc 0))
def WO5_5 (D : Dom) (a2 : D.Z) (a3 : D.L) : D.B := (D.bite (WO5_1 D a2 a3) (D.bc false) (D.bite (D.zlt (nthZ (WO5_4 D a3) 1) (D.llen a3)) (D.bc false) (D.bc true)))
def WO5_6 (D : Dom) (a3 : D.L) : D.B := (E8 D (D.llen a3) (D.llen a3) a3 D.lnil (D.zc 0) (D.zc 0))
def WO5_7 (D : Dom) (a3 : D.L) : List (PD D) := (L8 D (D.llen a3) (D.llen a3) a3 D.lnil (D.zc 0) (D.zc 0))
def WO5_8 (D : Dom) (a3 : D.L) : D.B := (D.zlt (nthZ (WO5_7 D a3) 2) (D.llen a3))
def WO5_9 (D : Dom) (a3 : D.L) : D.B := (D.zlt (D.zc 1024) (D.llen (nthL (WO5_7 D a3) 0)))
def WO5_10 (D : Dom) (a3 : D.L) : D.B := (E2 D (D.llen (nthL (WO5_7 D a3) 0)) (D.llen (nthL (WO5_7 D a3) 0)) (nthL (WO5_7 D a3) 0) (D.zc 0) (D.zc 0) (D.zc 0) (D.zc 0))
def WO5_11 (D : Dom) (a3 : D.L) : List (PD D) := (L2 D (D.llen (nthL (WO5_7 D a3) 0)) (D.llen (nthL (WO5_7 D a3) 0)) (nthL (WO5_7 D a3) 0) (D.zc 0) (D.zc 0) (D.zc 0) (D.zc 0))
def WO5_12 (D : Dom) (a3 : D.L) : D.B := (D.zlt (nthZ (WO5_11 D a3) 3) (D.llen (nthL (WO5_7 D a3) 0)))
def WO5_13 (D : Dom) (a3 : D.L) : D.B := (D.zeq (D.llen (nthL (WO5_7 D a3) 0)) (D.zc 0))
def WO5_14 (D : Dom) (a3 : D.L) : D.B := (D.bite (WO5_13 D a3) (D.bc true) (D.zeq (nthZ (WO5_11 D a3) 2) (D.zc 0)))
def WO5_15 (D : Dom) (a3 : D.L) : D.B := (D.bnot (D.zeq (D.zite (WO5_9 D a3) (D.zc 4) (D.zite (WO5_12 D a3) (D.zc 2) (D.zite (WO5_14 D a3) (D.zite (WO5_13 D a3) (D.zc 2) (D.zc 13)) (D.zc 0)))) (D.zc 0)))
def WO5_16 (D : Dom) (a3 : D.L) : D.B := (D.zle (D.llen (nthL (WO5_7 D a3) 0)) (D.zc 1073741824))
def WO5_17 (D : Dom) (a3 : D.L) : D.B := (D.band (D.zle (D.zc 0) (D.llen (nthL (WO5_7 D a3) 0))) (WO5_16 D a3))
def WO5_18 (D : Dom) (a3 : D.L) : D.Z := (D.zite (WO5_9 D a3) (D.zc 0) (D.zite (WO5_12 D a3) (D.zc 0) (D.zite (WO5_14 D a3) (D.zc 0) (nthZ (WO5_11 D a3) 2))))
def WO5_19 (D : Dom) (a3 : D.L) : D.L := (D.lrep (D.llen (nthL (WO5_7 D a3) 0)) [.z (D.zc 0), .z (D.zc 0)])
def WO5_20 (D : Dom) (a3 : D.L) : D.L := (D.lrep (D.llen (nthL (WO5_7 D a3) 0)) [.z (D.zc 0)])
def WO5_21 (D : Dom) (a3 : D.L) : D.B := (E3 D (D.llen (nthL (WO5_7 D a3) 0)) (D.llen (nthL (WO5_7 D a3) 0)) (D.llen (nthL (WO5_7 D a3) 0)) (nthL (WO5_7 D a3) 0) (WO5_18 D a3) (D.llen (nthL (WO5_7 D a3) 0)) (D.llen (nthL (WO5_7 D a3) 0)) D.lnil D.lnil (D.zc 0) (WO5_19 D a3) (WO5_20 D a3))
def WO5_22 (D : Dom) (a3 : D.L) : List (PD D) := (L3 D (D.llen (nthL (WO5_7 D a3) 0)) (D.llen (nthL (WO5_7 D a3) 0)) (D.llen (nthL (WO5_7 D a3) 0)) (nthL (WO5_7 D a3) 0) (WO5_18 D a3) (D.llen (nthL (WO5_7 D a3) 0)) (D.llen (nthL (WO5_7 D a3) 0)) D.lnil D.lnil (D.zc 0) (WO5_19 D a3) (WO5_20 D a3))
def WO5_23 (D : Dom) (a3 : D.L) : D.B := (E4 D (WO5_18 D a3) (D.llen (nthL (WO5_7 D a3) 0)) (D.llen (nthL (WO5_7 D a3) 0)) (nthL (WO5_22 D a3) 0) (nthL (WO5_22 D a3) 1) (nthL (WO5_22 D a3) 4) (nthL (WO5_22 D a3) 3))
def WO5_24 (D : Dom) (a2 : D.Z) (a3 : D.L) (a4 : D.B) : D.B := (D.band (D.bite a4 (WO5_5 D a2 a3) (D.bc false)) (D.bnot (D.zeq (D.zite (WO5_1 D a2 a3) (D.zc 2) (D.zite (WO5_8 D a3) (D.zc 2) (D.zc 0))) (D.zc 0))))
def WO5_25 (D : Dom) (a0 : D.L) : List (PD D) := (L6 D (D.llen a0) a0 D.lnil (D.zc 0))
def WO5_26 (D : Dom) (a0 : D.L) (a1 : D.L) : D.B := (E10 D (D.llen (nthL (WO5_25 D a0) 0)) (D.llen a1) (D.llen a1) (D.llen a1) (nthL (WO5_25 D a0) 0) a1 D.lnil (D.zc 0) (D.zc 0))
def WO5_27 (D : Dom) (a0 : D.L) (a1 : D.L) : List (PD D) := (L10 D (D.llen (nthL (WO5_25 D a0) 0)) (D.llen a1) (D.llen a1) (D.llen a1) (nthL (WO5_25 D a0) 0) a1 D.lnil (D.zc 0) (D.zc 0))
def WO5_28 (D : Dom) (a0 : D.L) (a1 : D.L) : D.B := (D.zlt (nthZ (WO5_27 D a0 a1) 2) (D.llen a1))
def WO5_29 (D : Dom) (a2 : D.Z) (a3 : D.L) (a4 : D.B) : D.B := (D.bite (D.bite a4 (WO5_5 D a2 a3) (D.bc false)) (D.bite (WO5_1 D a2 a3) (D.bc false) (D.bnot (WO5_8 D a3))) (D.bc false))
def WO5_30 (D : Dom) (a0 : D.L) (a1 : D.L) (a2 : D.Z) (a3 : D.L) (a4 : D.B) : D.L := (D.lapp (nthL (WO5_27 D a0 a1) 0) [[.z (D.zmin (D.zite (D.bnot (WO5_29 D a2 a3 a4)) (D.zc 0) (D.zite (D.bnot (D.bnot (WO5_15 D a3))) (D.zc 0) (WO5_18 D a3))) (D.zc 1048576))]])
def WO5_31 (D : Dom) (a0 : D.L) : D.Z := (D.llen (D.lcat D.lnil (D.lsub (nthL (WO5_25 D a0) 0) (D.zc 0) (D.llen (nthL (WO5_25 D a0) 0)))))
def WO5_32 (D : Dom) (a1 : D.L) : D.L := (D.lcat D.lnil (D.lsub a1 (D.zc 0) (D.llen a1)))
def WO5_33 (D : Dom) (a0 : D.L) (a1 : D.L) (a2 : D.Z) (a3 : D.L) (a4 : D.B) : D.L := (D.lite (WO5_29 D a2 a3 a4) (WO5_30 D a0 a1 a2 a3 a4) (nthL (WO5_27 D a0 a1) 0))
def WO5_34 (D : Dom) (a0 : D.L) (a1 : D.L) (a2 : D.Z) (a3 : D.L) (a4 : D.B) : D.B := (D.zlt (D.zc 1024) (D.llen (WO5_33 D a0 a1 a2 a3 a4)))
def WO5_35 (D : Dom) (a0 : D.L) (a1 : D.L) (a2 : D.Z) (a3 : D.L) (a4 : D.B) : D.B := (E2 D (D.llen (WO5_33 D a0 a1 a2 a3 a4)) (D.llen (WO5_33 D a0 a1 a2 a3 a4)) (WO5_33 D a0 a1 a2 a3 a4) (D.zc 0) (D.zc 0) (D.zc 0) (D.zc 0))
def WO5_36 (D : Dom) (a0 : D.L) (a1 : D.L) (a2 : D.Z) (a3 : D.L) (a4 : D.B) : List (PD D) := (L2 D (D.llen (WO5_33 D a0 a1 a2 a3 a4)) (D.llen (WO5_33 D a0 a1 a2 a3 a4)) (WO5_33 D a0 a1 a2 a3 a4) (D.zc 0) (D.zc 0) (D.zc 0) (D.zc 0))
def WO5_37 (D : Dom) (a0 : D.L) (a1 : D.L) (a2 : D.Z) (a3 : D.L) (a4 : D.B) : D.B := (D.zlt (nthZ (WO5_36 D a0 a1 a2 a3 a4) 3) (D.llen (WO5_33 D a0 a1 a2 a3 a4)))
def WO5_38 (D : Dom) (a0 : D.L) (a1 : D.L) (a2 : D.Z) (a3 : D.L) (a4 : D.B) : D.B := (D.zeq (D.llen (WO5_33 D a0 a1 a2 a3 a4)) (D.zc 0))
def WO5_39 (D : Dom) (a0 : D.L) (a1 : D.L) (a2 : D.Z) (a3 : D.L) (a4 : D.B) : D.B := (D.bite (WO5_38 D a0 a1 a2 a3 a4) (D.bc true) (D.zeq (nthZ (WO5_36 D a0 a1 a2 a3 a4) 2) (D.zc 0)))
def WO5_40 (D : Dom) (a0 : D.L) (a1 : D.L) (a2 : D.Z) (a3 : D.L) (a4 : D.B) : D.B := (D.bnot (D.zeq (D.zite (WO5_34 D a0 a1 a2 a3 a4) (D.zc 4) (D.zite (WO5_37 D a0 a1 a2 a3 a4) (D.zc 2) (D.zite (WO5_39 D a0 a1 a2 a3 a4) (D.zite (WO5_38 D a0 a1 a2 a3 a4) (D.zc 2) (D.zc 13)) (D.zc 0)))) (D.zc 0)))
def WO5_41 (D : Dom) (a0 : D.L) (a1 : D.L) (a2 : D.Z) (a3 : D.L) (a4 : D.B) : D.B := (D.zle (D.llen (WO5_33 D a0 a1 a2 a3 a4)) (D.zc 1073741824))
def WO5_42 (D : Dom) (a0 : D.L) (a1 : D.L) (a2 : D.Z) (a3 : D.L) (a4 : D.B) : D.B := (D.band (D.zle (D.zc 0) (D.llen (WO5_33 D a0 a1 a2 a3 a4))) (WO5_41 D a0 a1 a2 a3 a4))
def WO5_43 (D : Dom) (a0 : D.L) (a1 : D.L) (a2 : D.Z) (a3 : D.L) (a4 : D.B) : D.Z := (D.zite (WO5_34 D a0 a1 a2 a3 a4) (D.zc 0) (D.zite (WO5_37 D a0 a1 a2 a3 a4) (D.zc 0) (D.zite (WO5_39 D a0 a1 a2 a3 a4) (D.zc 0) (nthZ (WO5_36 D a0 a1 a2 a3 a4) 2))))
def WO5_44 (D : Dom) (a0 : D.L) (a1 : D.L) (a2 : D.Z) (a3 : D.L) (a4 : D.B) : D.L := (D.lrep (D.llen (WO5_33 D a0 a1 a2 a3 a4)) [.z (D.zc 0), .z (D.zc 0)])
def WO5_45 (D : Dom) (a0 : D.L) (a1 : D.L) (a2 : D.Z) (a3 : D.L) (a4 : D.B) : D.L := (D.lrep (D.llen (WO5_33 D a0 a1 a2 a3 a4)) [.z (D.zc 0)])
def WO5_46 (D : Dom) (a0 : D.L) (a1 : D.L) (a2 : D.Z) (a3 : D.L) (a4 : D.B) : D.B := (E3 D (D.llen (WO5_33 D a0 a1 a2 a3 a4)) (D.llen (WO5_33 D a0 a1 a2 a3 a4)) (D.llen (WO5_33 D a0 a1 a2 a3 a4)) (WO5_33 D a0 a1 a2 a3 a4) (WO5_43 D a0 a1 a2 a3 a4) (D.llen (WO5_33 D a0 a1 a2 a3 a4)) (D.llen (WO5_33 D a0 a1 a2 a3 a4)) D.lnil D.lnil (D.zc 0) (WO5_44 D a0 a1 a2 a3 a4) (WO5_45 D a0 a1 a2 a3 a4))
def WO5_47 (D : Dom) (a0 : D.L) (a1 : D.L) (a2 : D.Z) (a3 : D.L) (a4 : D.B) : List (PD D) := (L3 D (D.llen (WO5_33 D a0 a1 a2 a3 a4)) (D.llen (WO5_33 D a0 a1 a2 a3 a4)) (D.llen (WO5_33 D a0 a1 a2 a3 a4)) (WO5_33 D a0 a1 a2 a3 a4) (WO5_43 D a0 a1 a2 a3 a4) (D.llen (WO5_33 D a0 a1 a2 a3 a4)) (D.llen (WO5_33 D a0 a1 a2 a3 a4)) D.lnil D.lnil (D.zc 0) (WO5_44 D a0 a1 a2 a3 a4) (WO5_45 D a0 a1 a2 a3 a4))
def WO5_48 (D : Dom) (a0 : D.L) (a1 : D.L) (a2 : D.Z) (a3 : D.L) (a4 : D.B) : D.B := (E4 D (WO5_43 D a0 a1 a2 a3 a4) (D.llen (WO5_33 D a0 a1 a2 a3 a4)) (D.llen (WO5_33 D a0 a1 a2 a3 a4)) (nthL (WO5_47 D a0 a1 a2 a3 a4) 0) (nthL (WO5_47 D a0 a1 a2 a3 a4) 1) (nthL (WO5_47 D a0 a1 a2 a3 a4) 4) (nthL (WO5_47 D a0 a1 a2 a3 a4) 3))
def WO5_49 (D : Dom) (a0 : D.L) (a1 : D.L) : D.B := (E12 D (D.llen (nthL (WO5_25 D a0) 0)) (D.llen a1) a1 (D.zc 0) (D.zc 0))
def WO5_50 (D : Dom) (a0 : D.L) (a1 : D.L) : List (PD D) := (L12 D (D.llen (nthL (WO5_25 D a0) 0)) (D.llen a1) a1 (D.zc 0) (D.zc 0))
def WO5_51 (D : Dom) (a0 : D.L) (a1 : D.L) : D.Z := (D.zite (D.zlt (D.zc 512) (D.llen a1)) (D.zc 4) (D.zite (D.zlt (nthZ (WO5_50 D a0 a1) 1) (D.llen a1)) (D.zc 2) (D.zc 0)))
def WO5_52 (D : Dom) (a0 : D.L) (a1 : D.L) : D.B := (D.bite (D.zlt (D.zc 512) (D.llen a1)) (D.bc false) (D.bnot (WO5_28 D a0 a1)))
def WO5_53 (D : Dom) (a0 : D.L) (a1 : D.L) : D.B := (D.bnot (D.zeq (WO5_51 D a0 a1) (D.zc 0)))
def WO5_54 (D : Dom) (a0 : D.L) (a1 : D.L) : D.B := (D.bite (D.bite (D.bnot (D.zeq (D.zite (D.zlt (D.zc 512) (D.llen a1)) (D.zc 4) (D.zite (WO5_28 D a0 a1) (D.zc 2) (D.zc 0))) (WO5_51 D a0 a1))) (D.bc true) (D.bite (D.zeq (WO5_51 D a0 a1) (D.zc 0)) (D.bnot (WO5_52 D a0 a1)) (D.bc false))) (D.bc true) (D.bite (WO5_53 D a0 a1) (WO5_52 D a0 a1) (D.bc false)))
def WO5_55 (D : Dom) (a0 : D.L) (a1 : D.L) : D.B := (E13 D (D.llen (nthL (WO5_25 D a0) 0)) (D.llen a1) (nthL (WO5_25 D a0) 0) a1 D.lnil (D.zc 0))
def WO5_56 (D : Dom) (a3 : D.L) : D.B := (E14 D a3 (D.llen a3) D.lnil (D.zc 0))
def WO5_57 (D : Dom) (a3 : D.L) : List (PD D) := (L14 D a3 (D.llen a3) D.lnil (D.zc 0))
def WO5_58 (D : Dom) (a3 : D.L) : D.B := (E15 D (D.llen (nthL (WO5_57 D a3) 0)) (nthL (WO5_57 D a3) 0) (D.zc 0) (D.zc 0) (D.zc 0))
def WO5_59 (D : Dom) (a0 : D.L) (a1 : D.L) : List (PD D) := (L13 D (D.llen (nthL (WO5_25 D a0) 0)) (D.llen a1) (nthL (WO5_25 D a0) 0) a1 D.lnil (D.zc 0))
def WO5_60 (D : Dom) (a3 : D.L) : List (PD D) := (L15 D (D.llen (nthL (WO5_57 D a3) 0)) (nthL (WO5_57 D a3) 0) (D.zc 0) (D.zc 0) (D.zc 0))
def WO5_61 (D : Dom) (a0 : D.L) (a1 : D.L) (a3 : D.L) : D.L := (D.lapp (nthL (WO5_59 D a0 a1) 0) [[.z (S49_0 D (D.zite (D.zlt (nthZ (WO5_60 D a3) 2) (D.llen (nthL (WO5_57 D a3) 0))) (D.zc (-1)) (nthZ (WO5_60 D a3) 1)) (D.zc 1048576))]])
def WO5_62 (D : Dom) (a0 : D.L) (a1 : D.L) (a2 : D.Z) (a3 : D.L) (a4 : D.B) : D.B := (D.band (D.bite (D.zlt (D.zc 512) (D.llen a1)) (D.bc true) (D.band (WO5_26 D a0 a1) (D.bite (WO5_28 D a0 a1) (D.bc true) (D.band (D.bite (WO5_29 D a2 a3 a4) (D.band (D.bite (D.bnot (WO5_29 D a2 a3 a4)) (D.bc true) (D.band (WO5_29 D a2 a3 a4) (D.band (D.bite (D.bite a4 (WO5_5 D a2 a3) (D.bc false)) (D.bite (WO5_1 D a2 a3) (D.bc false) (D.bite (WO5_8 D a3) (D.bc false) (D.bc true))) (D.bc false)) (D.bite (D.bnot (D.bnot (WO5_15 D a3))) (D.bc true) (D.band (D.bnot (WO5_15 D a3)) (D.bite (D.bite a4 (WO5_5 D a2 a3) (D.bc false)) (D.bite (WO5_1 D a2 a3) (D.bc false) (D.bite (WO5_8 D a3) (D.bc false) (D.bite (WO5_15 D a3) (D.bc false) (D.bc true)))) (D.bc false))))))) (D.zle (D.llen (WO5_30 D a0 a1 a2 a3 a4)) (D.zc 1073741824))) (D.bc true)) (D.band (D.band (D.band (D.zle (WO5_31 D a0) (D.zc 1073741824)) (D.bite (D.zeq (D.llen (nthL (WO5_25 D a0) 0)) (D.zc 0)) (D.band (D.zeq (WO5_31 D a0) (D.zc 0)) (D.zeq (WO5_31 D a0) (D.zc 0))) (D.bc true))) (D.band (D.zle (D.llen (WO5_32 D a1)) (D.zc 1073741824)) (D.bite (D.zeq (D.llen a1) (D.zc 0)) (D.band (D.zeq (D.llen (WO5_32 D a1)) (D.zc 0)) (D.zeq (D.llen (WO5_32 D a1)) (D.zc 0))) (D.bc true)))) (D.band (D.bite (WO5_34 D a0 a1 a2 a3 a4) (D.bc true) (WO5_35 D a0 a1 a2 a3 a4)) (D.bite (WO5_40 D a0 a1 a2 a3 a4) (D.bc true) (D.band (WO5_41 D a0 a1 a2 a3 a4) (D.band (WO5_42 D a0 a1 a2 a3 a4) (D.band (WO5_42 D a0 a1 a2 a3 a4) (D.band (WO5_46 D a0 a1 a2 a3 a4) (WO5_48 D a0 a1 a2 a3 a4)))))))))))) (D.band (D.bite (D.zlt (D.zc 512) (D.llen a1)) (D.bc true) (WO5_49 D a0 a1)) (D.bite (WO5_54 D a0 a1) (D.bc true) (D.bite (WO5_53 D a0 a1) (D.bc true) (D.bite a4 (D.band (WO5_3 D a2 a3) (D.band (WO5_55 D a0 a1) (D.bite (WO5_5 D a2 a3) (D.band (WO5_56 D a3) (D.band (WO5_58 D a3) (D.zle (D.llen (WO5_61 D a0 a1 a3)) (D.zc 1073741824)))) (D.bc true)))) (WO5_55 D a0 a1))))))
def WO5_63 (D : Dom) (a0 : D.L) (a1 : D.L) (a2 : D.Z) (a3 : D.L) (a4 : D.B) : D.B := (D.bite (WO5_24 D a2 a3 a4) (D.bc true) (D.bite (WO5_54 D a0 a1) (D.bc true) (WO5_53 D a0 a1)))
def WO5_64 (D : Dom) (a0 : D.L) (a1 : D.L) (a2 : D.Z) (a3 : D.L) (a4 : D.B) : D.Z := (D.zite (WO5_24 D a2 a3 a4) (D.zc 8) (D.zite (WO5_54 D a0 a1) (D.zc 8) (WO5_51 D a0 a1)))
def WO5_65 (D : Dom) (a0 : D.L) (a1 : D.L) (a2 : D.Z) (a3 : D.L) (a4 : D.B) : D.B := (D.bnot (D.zeq (WO5_64 D a0 a1 a2 a3 a4) (D.zc 0)))
def WO5_66 (D : Dom) (a1 : D.L) (a5 : D.Z) : D.B := (D.bite (D.zlt a5 (D.zc 0)) (D.bc true) (D.zle (D.llen a1) a5))
def WO5_67 (D : Dom) (a1 : D.L) (a5 : D.Z) : D.B := (D.bite (WO5_66 D a1 a5) (O6 D) (D.bc true))
def WO5_68 (D : Dom) (a1 : D.L) (a5 : D.Z) : D.B := (D.band (D.zle (D.zc 0) a5) (D.zlt a5 (D.llen a1)))
def WO5_69 (D : Dom) (a0 : D.L) (a1 : D.L) (a5 : D.Z) : D.B := (D.band (WO5_68 D a1 a5) (D.band (D.zle (D.zc 0) (D.lz a1 a5 0)) (D.zlt (D.lz a1 a5 0) (D.llen (nthL (WO5_25 D a0) 0)))))
def WO5_70 (D : Dom) (a0 : D.L) (a1 : D.L) (a5 : D.Z) (a6 : D.F) (a7 : D.F) (a8 : D.F) : D.B := (D.bite (S19_0 D (D.lf (nthL (WO5_25 D a0) 0) (D.lz a1 a5 0) 0) (D.lf (nthL (WO5_25 D a0) 0) (D.lz a1 a5 0) 1) (D.lf (nthL (WO5_25 D a0) 0) (D.lz a1 a5 0) 2) (D.lf (nthL (WO5_25 D a0) 0) (D.lz a1 a5 0) 3) (D.lf (nthL (WO5_25 D a0) 0) (D.lz a1 a5 0) 4) (D.lf (nthL (WO5_25 D a0) 0) (D.lz a1 a5 0) 5) (D.lf (nthL (WO5_25 D a0) 0) (D.lz a1 a5 0) 6) (D.lf (nthL (WO5_25 D a0) 0) (D.lz a1 a5 0) 7) (D.lf (nthL (WO5_25 D a0) 0) (D.lz a1 a5 0) 8) a6 a7 a8) (WO5_68 D a1 a5) (D.bc true))
def WO5_71 (D : Dom)  : D.B := (E16 D (D.zc 0) (D.zc 0) (D.zc 0))
def WO5_72 (D : Dom)  : List (PD D) := (L16 D (D.zc 0) (D.zc 0) (D.zc 0))
def WO5_73 (D : Dom) (a0 : D.L) (a1 : D.L) (a5 : D.Z) : D.B := (D.bite (D.bnot (WO5_52 D a0 a1)) (D.bc true) (D.zlt a5 (D.zc 0)))
def WO5_74 (D : Dom) (a0 : D.L) (a1 : D.L) : D.B := (D.bite (D.zlt (D.zc 512) (D.llen a1)) (D.bc false) (D.bite (WO5_28 D a0 a1) (D.bc false) (D.bc true)))
def WO5_75 (D : Dom) (a0 : D.L) (a1 : D.L) (a5 : D.Z) : D.B := (D.bite (WO5_73 D a0 a1 a5) (D.bc true) (D.zle (D.llen (WO5_32 D a1)) a5))
def WO5_76 (D : Dom) (a0 : D.L) (a1 : D.L) (a5 : D.Z) : D.B := (D.band (D.bite (WO5_73 D a0 a1 a5) (D.bc true) (D.band (WO5_52 D a0 a1) (WO5_74 D a0 a1))) (D.bite (WO5_75 D a0 a1 a5) (D.bc true) (D.band (WO5_52 D a0 a1) (D.band (WO5_74 D a0 a1) (D.band (D.band (D.zle (D.zc 0) a5) (D.zlt a5 (D.llen (WO5_32 D a1)))) (WO5_74 D a0 a1))))))
def WO5_77 (D : Dom) (a0 : D.L) (a1 : D.L) (a5 : D.Z) : D.B := (D.bnot (D.bite (WO5_75 D a0 a1 a5) (D.bc false) (D.bc true)))
def WO5_78 (D : Dom) (a0 : D.L) (a1 : D.L) (a5 : D.Z) : D.Z := (D.zite (WO5_75 D a0 a1 a5) (D.zc 0) (D.lz (WO5_32 D a1) a5 0))
def WO5_79 (D : Dom) (a0 : D.L) (a1 : D.L) (a5 : D.Z) : D.B := (D.band (WO5_52 D a0 a1) (D.band (WO5_74 D a0 a1) (D.band (D.band (D.zle (D.zc 0) (WO5_78 D a0 a1 a5)) (D.zlt (WO5_78 D a0 a1 a5) (WO5_31 D a0))) (WO5_74 D a0 a1))))
def WO5_80 (D : Dom) (a0 : D.L) (a1 : D.L) (a5 : D.Z) : D.B := (D.band (WO5_76 D a0 a1 a5) (D.bite (WO5_77 D a0 a1 a5) (D.bc true) (WO5_79 D a0 a1 a5)))
def WO5_81 (D : Dom) (a0 : D.L) (a1 : D.L) (a2 : D.Z) (a3 : D.L) (a4 : D.B) : D.B := (D.bnot (D.bnot (WO5_40 D a0 a1 a2 a3 a4)))
def WO5_82 (D : Dom) (a0 : D.L) (a1 : D.L) (a2 : D.Z) (a3 : D.L) (a4 : D.B) : D.B := (D.bite (D.zlt (D.zc 512) (D.llen a1)) (D.bc false) (D.bite (WO5_28 D a0 a1) (D.bc false) (D.bite (WO5_40 D a0 a1 a2 a3 a4) (D.bc false) (D.bc true))))
def WO5_83 (D : Dom) (a0 : D.L) (a1 : D.L) (a2 : D.Z) (a3 : D.L) (a4 : D.B) : D.B := (D.band (D.bnot (WO5_40 D a0 a1 a2 a3 a4)) (WO5_82 D a0 a1 a2 a3 a4))
def WO5_84 (D : Dom) (a0 : D.L) (a1 : D.L) (a2 : D.Z) (a3 : D.L) (a4 : D.B) (a5 : D.Z) : D.B := (D.band (WO5_76 D a0 a1 a5) (D.bite (WO5_77 D a0 a1 a5) (D.bc true) (D.band (D.bite (D.bnot (WO5_52 D a0 a1)) (D.bc true) (D.band (WO5_52 D a0 a1) (D.band (WO5_74 D a0 a1) (D.band (D.bite (D.zle (D.zc 0) a5) (D.bite (WO5_81 D a0 a1 a2 a3 a4) (D.bc true) (WO5_83 D a0 a1 a2 a3 a4)) (D.bc true)) (D.bite (D.bnot (D.bite (D.zle (D.zc 0) a5) (D.zlt a5 (D.zite (WO5_81 D a0 a1 a2 a3 a4) (D.zc 0) (D.llen (WO5_33 D a0 a1 a2 a3 a4)))) (D.bc false))) (D.bc true) (D.band (D.bnot (WO5_40 D a0 a1 a2 a3 a4)) (D.band (WO5_82 D a0 a1 a2 a3 a4) (D.band (D.band (D.zle (D.zc 0) a5) (D.zlt a5 (D.llen (WO5_33 D a0 a1 a2 a3 a4)))) (D.band (WO5_82 D a0 a1 a2 a3 a4) (WO5_83 D a0 a1 a2 a3 a4)))))))))) (WO5_79 D a0 a1 a5))))
def WO5_85 (D : Dom) (a0 : D.L) (a1 : D.L) (a2 : D.Z) (a3 : D.L) : D.L := (D.lite (WO5_5 D a2 a3) (WO5_61 D a0 a1 a3) (nthL (WO5_59 D a0 a1) 0))
def WO5_86 (D : Dom) (a0 : D.L) (a1 : D.L) (a2 : D.Z) (a3 : D.L) : D.B := (E15 D (D.llen (WO5_85 D a0 a1 a2 a3)) (WO5_85 D a0 a1 a2 a3) (D.zc 0) (D.zc 0) (D.zc 0))
def WO5_87 (D : Dom) (a0 : D.L) (a1 : D.L) (a2 : D.Z) (a3 : D.L) : List (PD D) := (L15 D (D.llen (WO5_85 D a0 a1 a2 a3)) (WO5_85 D a0 a1 a2 a3) (D.zc 0) (D.zc 0) (D.zc 0))
def WO5_88 (D : Dom) (a0 : D.L) (a1 : D.L) : D.B := (E15 D (D.llen (nthL (WO5_59 D a0 a1) 0)) (nthL (WO5_59 D a0 a1) 0) (D.zc 0) (D.zc 0) (D.zc 0))
def WO5_89 (D : Dom) (a0 : D.L) (a1 : D.L) : List (PD D) := (L15 D (D.llen (nthL (WO5_59 D a0 a1) 0)) (nthL (WO5_59 D a0 a1) 0) (D.zc 0) (D.zc 0) (D.zc 0))
def WO5_90 (D : Dom) (a0 : D.L) (a1 : D.L) (a2 : D.Z) (a3 : D.L) (a4 : D.B) (a5 : D.Z) (a6 : D.F) (a7 : D.F) (a8 : D.F) : D.B := (D.bite (WO5_63 D a0 a1 a2 a3 a4) (D.bite (D.zeq (WO5_64 D a0 a1 a2 a3 a4) (D.zc 8)) (D.bc true) (D.band (D.bite (WO5_65 D a0 a1 a2 a3 a4) (O6 D) (D.bc true)) (D.bite (WO5_65 D a0 a1 a2 a3 a4) (D.bc true) (D.band (WO5_0 D a0) (D.band (WO5_67 D a1 a5) (D.bite (WO5_66 D a1 a5) (D.bc true) (D.band (WO5_69 D a0 a1 a5) (D.band (WO5_70 D a0 a1 a5 a6 a7 a8) (D.band (WO5_71 D) (D.band (D.bnot (D.zlt (D.zc 0) (nthZ (WO5_72 D) 1))) (O6 D))))))))))) (D.bite (D.band (D.bnot (WO5_63 D a0 a1 a2 a3 a4)) (D.band (D.bnot (WO5_24 D a2 a3 a4)) (D.band (D.bnot (WO5_54 D a0 a1)) (D.band (D.bnot (WO5_53 D a0 a1)) a4)))) (D.band (WO5_0 D a0) (D.band (WO5_80 D a0 a1 a5) (D.band (WO5_84 D a0 a1 a2 a3 a4 a5) (D.band (WO5_67 D a1 a5) (D.bite (WO5_66 D a1 a5) (D.bc true) (D.band (WO5_69 D a0 a1 a5) (D.band (WO5_70 D a0 a1 a5 a6 a7 a8) (D.band (WO5_86 D a0 a1 a2 a3) (D.band (D.bite (D.zlt (D.zc 0) (D.zite (D.zlt (nthZ (WO5_87 D a0 a1 a2 a3) 2) (D.llen (WO5_85 D a0 a1 a2 a3))) (D.zc (-1)) (nthZ (WO5_87 D a0 a1 a2 a3) 1))) (D.band (D.zle (D.zc 0) a5) (D.zlt a5 (D.llen (WO5_85 D a0 a1 a2 a3)))) (D.bc true)) (O6 D)))))))))) (D.band (WO5_0 D a0) (D.band (WO5_80 D a0 a1 a5) (D.band (WO5_84 D a0 a1 a2 a3 a4 a5) (D.band (WO5_67 D a1 a5) (D.bite (WO5_66 D a1 a5) (D.bc true) (D.band (WO5_69 D a0 a1 a5) (D.band (WO5_70 D a0 a1 a5 a6 a7 a8) (D.band (WO5_88 D a0 a1) (D.band (D.bite (D.zlt (D.zc 0) (D.zite (D.zlt (nthZ (WO5_89 D a0 a1) 2) (D.llen (nthL (WO5_59 D a0 a1) 0))) (D.zc (-1)) (nthZ (WO5_89 D a0 a1) 1))) (D.band (D.zle (D.zc 0) a5) (D.zlt a5 (D.llen (nthL (WO5_59 D a0 a1) 0)))) (D.bc true)) (O6 D))))))))))))
def O5 (D : Dom) (a0 : D.L) (a1 : D.L) (a2 : D.Z) (a3 : D.L) (a4 : D.B) (a5 : D.Z) (a6 : D.F) (a7 : D.F) (a8 : D.F) : D.B := (D.band (D.band (WO5_0 D a0) (D.band (D.bite a4 (WO5_3 D a2 a3) (D.bc true)) (D.band (D.bite (D.bite a4 (WO5_5 D a2 a3) (D.bc false)) (D.bite (WO5_1 D a2 a3) (D.bc true) (D.band (WO5_6 D a3) (D.bite (WO5_8 D a3) (D.bc true) (D.band (D.zle (D.llen (D.lsub a3 (D.zc 0) (D.llen a3))) (D.zc 1073741824)) (D.band (D.bite (WO5_9 D a3) (D.bc true) (WO5_10 D a3)) (D.bite (WO5_15 D a3) (D.bc true) (D.band (WO5_16 D a3) (D.band (WO5_17 D a3) (D.band (WO5_17 D a3) (D.band (WO5_21 D a3) (WO5_23 D a3))))))))))) (D.bc true)) (D.bite (WO5_24 D a2 a3 a4) (D.bc true) (WO5_62 D a0 a1 a2 a3 a4))))) (WO5_90 D a0 a1 a2 a3 a4 a5 a6 a7 a8))
theorem ev5 (D : Dom) (a0 : D.L) (a1 : D.L) (a2 : D.Z) (a3 : D.L) (a4 : D.B) (a5 : D.Z) (a6 : D.F) (a7 : D.F) (a8 : D.F) (a9 : D.F) (a10 : D.F) (a11 : D.F) : joinT (evFnH Try.prog (tbl_20 D) (lt_62_83 D) 80 5 [.agg [.sslice 0 .part none (D.llen a0) 9, .sslice 1 .part none (D.llen a1) 4, .si .i64 a2, .sslice 2 .part none (D.llen a3) 3, .sb a4, .si .i64 a5, .fl a6, .fl a7, .fl a8, .fl a9, .fl a10, .fl a11]] [(0, [.row true [.f, .f, .f, .f, .f, .f, .f, .f, .f] a0]), (1, [.row true [.z .i64, .f, .f, .f] a1]), (2, [.row true [.f, .f, .f] a3])] 3) = .val (some (O5 D a0 a1 a2 a3 a4 a5 a6 a7 a8)) (.sb (S5_0 D a0 a1 a2 a3 a4 a5 a6 a7 a8 a9 a10 a11)) := by kernel_rfl

end Go.Proofs.Ytachcmfgjjoimaa
