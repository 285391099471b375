/- The functions of this seat, each with what it comes to, by the evaluator. PRINTED BY A PROGRAM OF THIS PROJECT (wip/ev/Gen.lean). -/
import Derived.Test.YthfgapbbmkgfiaaEv4
import Derived.Test.YthfgapbbmkgfiaaChecked
namespace Go.Proofs.Ythfgapbbmkgfiaa
open Go.Ev
set_option maxRecDepth 100000

theorem prg : Ev.Prog Try.prog := ⟨by kernel_rfl, by kernel_rfl⟩
def sp55 : Ev.Spec := fun D l => argF l fun a r => arg0 r (.ret (.fl (D.fsqrt a)))
theorem en55 : ∀ l r, (sp55 R l).run = some r → Entry Try.prog 55 l r := by
  intro l r h
  obtain ⟨x0, _, h, L0⟩ := argF_inv h
  obtain ⟨h, L1⟩ := arg0_inv h
  cases h
  exact (entry_sqrt (fn := Try.f55) (by kernel_rfl) (by kernel_rfl) (by kernel_rfl) (by kernel_rfl) (by kernel_rfl) x0).le (L0 _ L1)
def tl_0 : List (Nat × Ev.Spec) := ((55, sp55) :: [])
def tbl_0 (D : Dom) : Tbl D := tblOf tl_0 D
theorem tok_0 : TblOK Try.prog (tbl_0 R) := (TblOK.cons (TblOK.nil _) en55)

-- penumbra/tape.Clean
def S22_0 (D : Dom) (a0 : D.F) : D.F := (D.fite (D.bite (D.fge a0 (D.fc 0)) (D.flt a0 (D.fc 4607182418800017408)) (D.bc false)) a0 (D.fc 0))
theorem ev22 (D : Dom) (a0 : D.F) : joinT (evFn Try.prog (tbl_0 D) 60 22 [.fl a0]) = .val none (.fl (S22_0 D a0)) := by kernel_rfl
def sp22 : Ev.Spec := fun D l => argF l fun a0 r0 => arg0 r0 (.ret (.fl (S22_0 D a0)))
theorem en22 : ∀ l r, (sp22 R l).run = some r → Entry Try.prog 22 l r := by
  intro l r h
  obtain ⟨x0, _, h, L0⟩ := argF_inv h
  obtain ⟨h, L1⟩ := arg0_inv h
  cases h
  exact (entry_of prg tok_0 (ev22 R x0) (fun o ho => nomatch ho) rfl).le (L0 _ L1)
def tl_22 : List (Nat × Ev.Spec) := (22, sp22) :: tl_0
def tbl_22 (D : Dom) : Tbl D := tblOf tl_22 D
theorem tok_22 : TblOK Try.prog (tbl_22 R) := TblOK.cons tok_0 en22

-- penumbra/vec.Number
def S66_0 (D : Dom) (a0 : D.F) : D.B := (D.bite (D.fge a0 (D.fc 18442240474082181119)) (D.fle a0 (D.fc 9218868437227405311)) (D.bc false))
theorem ev66 (D : Dom) (a0 : D.F) : joinT (evFn Try.prog (tbl_22 D) 60 66 [.fl a0]) = .val none (.sb (S66_0 D a0)) := by kernel_rfl
def sp66 : Ev.Spec := fun D l => argF l fun a0 r0 => arg0 r0 (.ret (.sb (S66_0 D a0)))
theorem en66 : ∀ l r, (sp66 R l).run = some r → Entry Try.prog 66 l r := by
  intro l r h
  obtain ⟨x0, _, h, L0⟩ := argF_inv h
  obtain ⟨h, L1⟩ := arg0_inv h
  cases h
  exact (entry_of prg tok_22 (ev66 R x0) (fun o ho => nomatch ho) rfl).le (L0 _ L1)
def tl_66 : List (Nat × Ev.Spec) := (66, sp66) :: tl_22
def tbl_66 (D : Dom) : Tbl D := tblOf tl_66 D
theorem tok_66 : TblOK Try.prog (tbl_66 R) := TblOK.cons tok_22 en66

-- penumbra/rgb.Good$1
def S85_0 (D : Dom) (a0 : D.F) : D.B := (D.bite (D.fge a0 (D.fc 0)) (S66_0 D a0) (D.bc false))
theorem ev85 (D : Dom) (a0 : D.F) : joinT (evFn Try.prog (tbl_66 D) 60 85 [.fl a0]) = .val none (.sb (S85_0 D a0)) := by kernel_rfl
def sp85 : Ev.Spec := fun D l => argF l fun a0 r0 => arg0 r0 (.ret (.sb (S85_0 D a0)))
theorem en85 : ∀ l r, (sp85 R l).run = some r → Entry Try.prog 85 l r := by
  intro l r h
  obtain ⟨x0, _, h, L0⟩ := argF_inv h
  obtain ⟨h, L1⟩ := arg0_inv h
  cases h
  exact (entry_of prg tok_66 (ev85 R x0) (fun o ho => nomatch ho) rfl).le (L0 _ L1)
def tl_85 : List (Nat × Ev.Spec) := (85, sp85) :: tl_66
def tbl_85 (D : Dom) : Tbl D := tblOf tl_85 D
theorem tok_85 : TblOK Try.prog (tbl_85 R) := TblOK.cons tok_66 en85

-- penumbra/rgb.Good
def S56_0 (D : Dom) (a0 : D.F) (a1 : D.F) (a2 : D.F) : D.B := (D.bite (D.bite (S85_0 D a0) (S85_0 D a1) (D.bc false)) (S85_0 D a2) (D.bc false))
theorem ev56 (D : Dom) (a0 : D.F) (a1 : D.F) (a2 : D.F) : joinT (evFn Try.prog (tbl_85 D) 60 56 [.agg [.fl a0, .fl a1, .fl a2]]) = .val none (.sb (S56_0 D a0 a1 a2)) := by kernel_rfl
def sp56 : Ev.Spec := fun D l => argA l fun c0 r0 => argF c0 fun a0 r1 => argF r1 fun a1 r2 => argF r2 fun a2 r3 => arg0 r3 (arg0 r0 (.ret (.sb (S56_0 D a0 a1 a2))))
theorem en56 : ∀ l r, (sp56 R l).run = some r → Entry Try.prog 56 l r := by
  intro l r h
  obtain ⟨_, _, h, L0⟩ := argA_inv h
  obtain ⟨x1, _, h, L1⟩ := argF_inv h
  obtain ⟨x2, _, h, L2⟩ := argF_inv h
  obtain ⟨x3, _, h, L3⟩ := argF_inv h
  obtain ⟨h, L4⟩ := arg0_inv h
  obtain ⟨h, L5⟩ := arg0_inv h
  cases h
  exact (entry_of prg tok_85 (ev56 R x1 x2 x3) (fun o ho => nomatch ho) rfl).le (L0 _ _ (L1 _ (L2 _ (L3 _ L4))) L5)
def tl_56 : List (Nat × Ev.Spec) := (56, sp56) :: tl_85
def tbl_56 (D : Dom) : Tbl D := tblOf tl_56 D
theorem tok_56 : TblOK Try.prog (tbl_56 R) := TblOK.cons tok_85 en56

-- penumbra/rgb.Black
def S57_0 (D : Dom) (a0 : D.F) (a1 : D.F) (a2 : D.F) : D.B := (D.band (D.feq a0 (D.fc 0)) (D.band (D.feq a1 (D.fc 0)) (D.band (D.feq a2 (D.fc 0)) (D.bc true))))
theorem ev57 (D : Dom) (a0 : D.F) (a1 : D.F) (a2 : D.F) : joinT (evFn Try.prog (tbl_56 D) 60 57 [.agg [.fl a0, .fl a1, .fl a2]]) = .val none (.sb (S57_0 D a0 a1 a2)) := by kernel_rfl
def sp57 : Ev.Spec := fun D l => argA l fun c0 r0 => argF c0 fun a0 r1 => argF r1 fun a1 r2 => argF r2 fun a2 r3 => arg0 r3 (arg0 r0 (.ret (.sb (S57_0 D a0 a1 a2))))
theorem en57 : ∀ l r, (sp57 R l).run = some r → Entry Try.prog 57 l r := by
  intro l r h
  obtain ⟨_, _, h, L0⟩ := argA_inv h
  obtain ⟨x1, _, h, L1⟩ := argF_inv h
  obtain ⟨x2, _, h, L2⟩ := argF_inv h
  obtain ⟨x3, _, h, L3⟩ := argF_inv h
  obtain ⟨h, L4⟩ := arg0_inv h
  obtain ⟨h, L5⟩ := arg0_inv h
  cases h
  exact (entry_of prg tok_56 (ev57 R x1 x2 x3) (fun o ho => nomatch ho) rfl).le (L0 _ _ (L1 _ (L2 _ (L3 _ L4))) L5)
def tl_57 : List (Nat × Ev.Spec) := (57, sp57) :: tl_56
def tbl_57 (D : Dom) : Tbl D := tblOf tl_57 D
theorem tok_57 : TblOK Try.prog (tbl_57 R) := TblOK.cons tok_56 en57

-- penumbra/rgb.Mean
def S58_0 (D : Dom) (a0 : D.F) (a1 : D.F) (a2 : D.F) : D.F := (D.fdiv (D.fadd (D.fadd a0 a1) a2) (D.fc 4613937818241073152))
theorem ev58 (D : Dom) (a0 : D.F) (a1 : D.F) (a2 : D.F) : joinT (evFn Try.prog (tbl_57 D) 60 58 [.agg [.fl a0, .fl a1, .fl a2]]) = .val none (.fl (S58_0 D a0 a1 a2)) := by kernel_rfl
def sp58 : Ev.Spec := fun D l => argA l fun c0 r0 => argF c0 fun a0 r1 => argF r1 fun a1 r2 => argF r2 fun a2 r3 => arg0 r3 (arg0 r0 (.ret (.fl (S58_0 D a0 a1 a2))))
theorem en58 : ∀ l r, (sp58 R l).run = some r → Entry Try.prog 58 l r := by
  intro l r h
  obtain ⟨_, _, h, L0⟩ := argA_inv h
  obtain ⟨x1, _, h, L1⟩ := argF_inv h
  obtain ⟨x2, _, h, L2⟩ := argF_inv h
  obtain ⟨x3, _, h, L3⟩ := argF_inv h
  obtain ⟨h, L4⟩ := arg0_inv h
  obtain ⟨h, L5⟩ := arg0_inv h
  cases h
  exact (entry_of prg tok_57 (ev58 R x1 x2 x3) (fun o ho => nomatch ho) rfl).le (L0 _ _ (L1 _ (L2 _ (L3 _ L4))) L5)
def tl_58 : List (Nat × Ev.Spec) := (58, sp58) :: tl_57
def tbl_58 (D : Dom) : Tbl D := tblOf tl_58 D
theorem tok_58 : TblOK Try.prog (tbl_58 R) := TblOK.cons tok_57 en58

-- penumbra/rgb.Weight
def S29_0 (D : Dom) (a0 : D.F) (a1 : D.F) (a2 : D.F) : D.Z := (D.zite (D.bite (D.bnot (S56_0 D a0 a1 a2)) (D.bc true) (S57_0 D a0 a1 a2)) (D.zc 0) (D.zite (D.fge (D.fmul (S58_0 D a0 a1 a2) (D.fc 4625196817309499392)) (D.fc 4697254411347427328)) (D.zc 1048576) (D.zmax (D.f2i .i64 (D.fmul (S58_0 D a0 a1 a2) (D.fc 4625196817309499392))) (D.zc 1))))
def O29 (D : Dom) (a0 : D.F) (a1 : D.F) (a2 : D.F) : D.B := (D.bite (D.bite (D.bnot (S56_0 D a0 a1 a2)) (D.bc true) (S57_0 D a0 a1 a2)) (D.bc true) (D.bite (D.fge (D.fmul (S58_0 D a0 a1 a2) (D.fc 4625196817309499392)) (D.fc 4697254411347427328)) (D.bc true) (D.f2iok .i64 (D.fmul (S58_0 D a0 a1 a2) (D.fc 4625196817309499392)))))
theorem ev29 (D : Dom) (a0 : D.F) (a1 : D.F) (a2 : D.F) : joinT (evFn Try.prog (tbl_58 D) 60 29 [.agg [.fl a0, .fl a1, .fl a2]]) = .val (some (O29 D a0 a1 a2)) (.si .i64 (S29_0 D a0 a1 a2)) := by kernel_rfl
def sp29 : Ev.Spec := fun D l => argA l fun c0 r0 => argF c0 fun a0 r1 => argF r1 fun a1 r2 => argF r2 fun a2 r3 => arg0 r3 (arg0 r0 (.node (O29 D a0 a1 a2) (.ret (.si .i64 (S29_0 D a0 a1 a2))) (.fail "pre")))
theorem en29 : ∀ l r, (sp29 R l).run = some r → Entry Try.prog 29 l r := by
  intro l r h
  obtain ⟨_, _, h, L0⟩ := argA_inv h
  obtain ⟨x1, _, h, L1⟩ := argF_inv h
  obtain ⟨x2, _, h, L2⟩ := argF_inv h
  obtain ⟨x3, _, h, L3⟩ := argF_inv h
  obtain ⟨h, L4⟩ := arg0_inv h
  obtain ⟨h, L5⟩ := arg0_inv h
  obtain ⟨hok, rfl⟩ := run_okay h
  exact (entry_of prg tok_58 (ev29 R x1 x2 x3) (fun o ho => (Option.some.inj ho) ▸ hok) rfl).le (L0 _ _ (L1 _ (L2 _ (L3 _ L4))) L5)
def tl_29 : List (Nat × Ev.Spec) := (29, sp29) :: tl_58
def tbl_29 (D : Dom) : Tbl D := tblOf tl_29 D
theorem tok_29 : TblOK Try.prog (tbl_29 R) := TblOK.cons tok_58 en29

-- penumbra/bsdf.Share
def S10_0 (D : Dom) (a0 : D.F) (a1 : D.F) (a2 : D.F) (a3 : D.F) (a4 : D.F) (a5 : D.F) : D.F := (D.fite (D.zeq (D.zadd .i64 (S29_0 D a0 a1 a2) (S29_0 D a3 a4 a5)) (D.zc 0)) (D.fc 4607182418800017408) (D.fdiv (D.i2f (S29_0 D a0 a1 a2)) (D.i2f (D.zadd .i64 (S29_0 D a0 a1 a2) (S29_0 D a3 a4 a5)))))
def O10 (D : Dom) (a0 : D.F) (a1 : D.F) (a2 : D.F) (a3 : D.F) (a4 : D.F) (a5 : D.F) : D.B := (D.band (O29 D a0 a1 a2) (O29 D a3 a4 a5))
theorem ev10 (D : Dom) (a0 : D.F) (a1 : D.F) (a2 : D.F) (a3 : D.F) (a4 : D.F) (a5 : D.F) (a6 : D.F) : joinT (evFn Try.prog (tbl_29 D) 60 10 [.agg [.fl a0, .fl a1, .fl a2, .fl a3, .fl a4, .fl a5, .fl a6]]) = .val (some (O10 D a0 a1 a2 a3 a4 a5)) (.fl (S10_0 D a0 a1 a2 a3 a4 a5)) := by kernel_rfl
def sp10 : Ev.Spec := fun D l => argA l fun c0 r0 => argF c0 fun a0 r1 => argF r1 fun a1 r2 => argF r2 fun a2 r3 => argF r3 fun a3 r4 => argF r4 fun a4 r5 => argF r5 fun a5 r6 => argF r6 fun _a6 r7 => arg0 r7 (arg0 r0 (.node (O10 D a0 a1 a2 a3 a4 a5) (.ret (.fl (S10_0 D a0 a1 a2 a3 a4 a5))) (.fail "pre")))
theorem en10 : ∀ l r, (sp10 R l).run = some r → Entry Try.prog 10 l r := by
  intro l r h
  obtain ⟨_, _, h, L0⟩ := argA_inv h
  obtain ⟨x1, _, h, L1⟩ := argF_inv h
  obtain ⟨x2, _, h, L2⟩ := argF_inv h
  obtain ⟨x3, _, h, L3⟩ := argF_inv h
  obtain ⟨x4, _, h, L4⟩ := argF_inv h
  obtain ⟨x5, _, h, L5⟩ := argF_inv h
  obtain ⟨x6, _, h, L6⟩ := argF_inv h
  obtain ⟨x7, _, h, L7⟩ := argF_inv h
  obtain ⟨h, L8⟩ := arg0_inv h
  obtain ⟨h, L9⟩ := arg0_inv h
  obtain ⟨hok, rfl⟩ := run_okay h
  exact (entry_of prg tok_29 (ev10 R x1 x2 x3 x4 x5 x6 x7) (fun o ho => (Option.some.inj ho) ▸ hok) rfl).le (L0 _ _ (L1 _ (L2 _ (L3 _ (L4 _ (L5 _ (L6 _ (L7 _ L8))))))) L9)
def tl_10 : List (Nat × Ev.Spec) := (10, sp10) :: tl_29
def tbl_10 (D : Dom) : Tbl D := tblOf tl_10 D
theorem tok_10 : TblOK Try.prog (tbl_10 R) := TblOK.cons tok_29 en10

-- math.Sqrt
def S28_0 (D : Dom) (a0 : D.F) : D.F := (D.fsqrt a0)
theorem ev28 (D : Dom) (a0 : D.F) : joinT (evFn Try.prog (tbl_10 D) 60 28 [.fl a0]) = .val none (.fl (S28_0 D a0)) := by kernel_rfl
def sp28 : Ev.Spec := fun D l => argF l fun a0 r0 => arg0 r0 (.ret (.fl (S28_0 D a0)))
theorem en28 : ∀ l r, (sp28 R l).run = some r → Entry Try.prog 28 l r := by
  intro l r h
  obtain ⟨x0, _, h, L0⟩ := argF_inv h
  obtain ⟨h, L1⟩ := arg0_inv h
  cases h
  exact (entry_of prg tok_10 (ev28 R x0) (fun o ho => nomatch ho) rfl).le (L0 _ L1)
def tl_28 : List (Nat × Ev.Spec) := (28, sp28) :: tl_10
def tbl_28 (D : Dom) : Tbl D := tblOf tl_28 D
theorem tok_28 : TblOK Try.prog (tbl_28 R) := TblOK.cons tok_10 en28

-- penumbra/warp.Sector
def S46_0 (D : Dom) (a0 : D.F) : D.F := (D.fite (D.zeq (D.zrem .i64 (D.f2i .i64 (D.fmul (S22_0 D a0) (D.fc 4620693217682128896))) (D.zc 8)) (D.zc 0)) (D.fdiv (D.fc 4607182418800017408) (S28_0 D (D.fadd (D.fc 4607182418800017408) (D.fmul (D.fsub (D.fmul (S22_0 D a0) (D.fc 4620693217682128896)) (D.i2f (D.f2i .i64 (D.fmul (S22_0 D a0) (D.fc 4620693217682128896))))) (D.fsub (D.fmul (S22_0 D a0) (D.fc 4620693217682128896)) (D.i2f (D.f2i .i64 (D.fmul (S22_0 D a0) (D.fc 4620693217682128896))))))))) (D.fite (D.zeq (D.zrem .i64 (D.f2i .i64 (D.fmul (S22_0 D a0) (D.fc 4620693217682128896))) (D.zc 8)) (D.zc 1)) (D.fdiv (D.fsub (D.fmul (S22_0 D a0) (D.fc 4620693217682128896)) (D.i2f (D.f2i .i64 (D.fmul (S22_0 D a0) (D.fc 4620693217682128896))))) (S28_0 D (D.fadd (D.fc 4607182418800017408) (D.fmul (D.fsub (D.fmul (S22_0 D a0) (D.fc 4620693217682128896)) (D.i2f (D.f2i .i64 (D.fmul (S22_0 D a0) (D.fc 4620693217682128896))))) (D.fsub (D.fmul (S22_0 D a0) (D.fc 4620693217682128896)) (D.i2f (D.f2i .i64 (D.fmul (S22_0 D a0) (D.fc 4620693217682128896))))))))) (D.fite (D.zeq (D.zrem .i64 (D.f2i .i64 (D.fmul (S22_0 D a0) (D.fc 4620693217682128896))) (D.zc 8)) (D.zc 2)) (D.fsub (D.fc 0) (D.fdiv (D.fsub (D.fmul (S22_0 D a0) (D.fc 4620693217682128896)) (D.i2f (D.f2i .i64 (D.fmul (S22_0 D a0) (D.fc 4620693217682128896))))) (S28_0 D (D.fadd (D.fc 4607182418800017408) (D.fmul (D.fsub (D.fmul (S22_0 D a0) (D.fc 4620693217682128896)) (D.i2f (D.f2i .i64 (D.fmul (S22_0 D a0) (D.fc 4620693217682128896))))) (D.fsub (D.fmul (S22_0 D a0) (D.fc 4620693217682128896)) (D.i2f (D.f2i .i64 (D.fmul (S22_0 D a0) (D.fc 4620693217682128896)))))))))) (D.fite (D.zeq (D.zrem .i64 (D.f2i .i64 (D.fmul (S22_0 D a0) (D.fc 4620693217682128896))) (D.zc 8)) (D.zc 3)) (D.fsub (D.fc 0) (D.fdiv (D.fc 4607182418800017408) (S28_0 D (D.fadd (D.fc 4607182418800017408) (D.fmul (D.fsub (D.fmul (S22_0 D a0) (D.fc 4620693217682128896)) (D.i2f (D.f2i .i64 (D.fmul (S22_0 D a0) (D.fc 4620693217682128896))))) (D.fsub (D.fmul (S22_0 D a0) (D.fc 4620693217682128896)) (D.i2f (D.f2i .i64 (D.fmul (S22_0 D a0) (D.fc 4620693217682128896)))))))))) (D.fite (D.zeq (D.zrem .i64 (D.f2i .i64 (D.fmul (S22_0 D a0) (D.fc 4620693217682128896))) (D.zc 8)) (D.zc 4)) (D.fsub (D.fc 0) (D.fdiv (D.fc 4607182418800017408) (S28_0 D (D.fadd (D.fc 4607182418800017408) (D.fmul (D.fsub (D.fmul (S22_0 D a0) (D.fc 4620693217682128896)) (D.i2f (D.f2i .i64 (D.fmul (S22_0 D a0) (D.fc 4620693217682128896))))) (D.fsub (D.fmul (S22_0 D a0) (D.fc 4620693217682128896)) (D.i2f (D.f2i .i64 (D.fmul (S22_0 D a0) (D.fc 4620693217682128896)))))))))) (D.fite (D.zeq (D.zrem .i64 (D.f2i .i64 (D.fmul (S22_0 D a0) (D.fc 4620693217682128896))) (D.zc 8)) (D.zc 5)) (D.fsub (D.fc 0) (D.fdiv (D.fsub (D.fmul (S22_0 D a0) (D.fc 4620693217682128896)) (D.i2f (D.f2i .i64 (D.fmul (S22_0 D a0) (D.fc 4620693217682128896))))) (S28_0 D (D.fadd (D.fc 4607182418800017408) (D.fmul (D.fsub (D.fmul (S22_0 D a0) (D.fc 4620693217682128896)) (D.i2f (D.f2i .i64 (D.fmul (S22_0 D a0) (D.fc 4620693217682128896))))) (D.fsub (D.fmul (S22_0 D a0) (D.fc 4620693217682128896)) (D.i2f (D.f2i .i64 (D.fmul (S22_0 D a0) (D.fc 4620693217682128896)))))))))) (D.fite (D.zeq (D.zrem .i64 (D.f2i .i64 (D.fmul (S22_0 D a0) (D.fc 4620693217682128896))) (D.zc 8)) (D.zc 6)) (D.fdiv (D.fsub (D.fmul (S22_0 D a0) (D.fc 4620693217682128896)) (D.i2f (D.f2i .i64 (D.fmul (S22_0 D a0) (D.fc 4620693217682128896))))) (S28_0 D (D.fadd (D.fc 4607182418800017408) (D.fmul (D.fsub (D.fmul (S22_0 D a0) (D.fc 4620693217682128896)) (D.i2f (D.f2i .i64 (D.fmul (S22_0 D a0) (D.fc 4620693217682128896))))) (D.fsub (D.fmul (S22_0 D a0) (D.fc 4620693217682128896)) (D.i2f (D.f2i .i64 (D.fmul (S22_0 D a0) (D.fc 4620693217682128896))))))))) (D.fdiv (D.fc 4607182418800017408) (S28_0 D (D.fadd (D.fc 4607182418800017408) (D.fmul (D.fsub (D.fmul (S22_0 D a0) (D.fc 4620693217682128896)) (D.i2f (D.f2i .i64 (D.fmul (S22_0 D a0) (D.fc 4620693217682128896))))) (D.fsub (D.fmul (S22_0 D a0) (D.fc 4620693217682128896)) (D.i2f (D.f2i .i64 (D.fmul (S22_0 D a0) (D.fc 4620693217682128896))))))))))))))))
def S46_1 (D : Dom) (a0 : D.F) : D.F := (D.fite (D.zeq (D.zrem .i64 (D.f2i .i64 (D.fmul (S22_0 D a0) (D.fc 4620693217682128896))) (D.zc 8)) (D.zc 0)) (D.fdiv (D.fsub (D.fmul (S22_0 D a0) (D.fc 4620693217682128896)) (D.i2f (D.f2i .i64 (D.fmul (S22_0 D a0) (D.fc 4620693217682128896))))) (S28_0 D (D.fadd (D.fc 4607182418800017408) (D.fmul (D.fsub (D.fmul (S22_0 D a0) (D.fc 4620693217682128896)) (D.i2f (D.f2i .i64 (D.fmul (S22_0 D a0) (D.fc 4620693217682128896))))) (D.fsub (D.fmul (S22_0 D a0) (D.fc 4620693217682128896)) (D.i2f (D.f2i .i64 (D.fmul (S22_0 D a0) (D.fc 4620693217682128896))))))))) (D.fite (D.zeq (D.zrem .i64 (D.f2i .i64 (D.fmul (S22_0 D a0) (D.fc 4620693217682128896))) (D.zc 8)) (D.zc 1)) (D.fdiv (D.fc 4607182418800017408) (S28_0 D (D.fadd (D.fc 4607182418800017408) (D.fmul (D.fsub (D.fmul (S22_0 D a0) (D.fc 4620693217682128896)) (D.i2f (D.f2i .i64 (D.fmul (S22_0 D a0) (D.fc 4620693217682128896))))) (D.fsub (D.fmul (S22_0 D a0) (D.fc 4620693217682128896)) (D.i2f (D.f2i .i64 (D.fmul (S22_0 D a0) (D.fc 4620693217682128896))))))))) (D.fite (D.zeq (D.zrem .i64 (D.f2i .i64 (D.fmul (S22_0 D a0) (D.fc 4620693217682128896))) (D.zc 8)) (D.zc 2)) (D.fdiv (D.fc 4607182418800017408) (S28_0 D (D.fadd (D.fc 4607182418800017408) (D.fmul (D.fsub (D.fmul (S22_0 D a0) (D.fc 4620693217682128896)) (D.i2f (D.f2i .i64 (D.fmul (S22_0 D a0) (D.fc 4620693217682128896))))) (D.fsub (D.fmul (S22_0 D a0) (D.fc 4620693217682128896)) (D.i2f (D.f2i .i64 (D.fmul (S22_0 D a0) (D.fc 4620693217682128896))))))))) (D.fite (D.zeq (D.zrem .i64 (D.f2i .i64 (D.fmul (S22_0 D a0) (D.fc 4620693217682128896))) (D.zc 8)) (D.zc 3)) (D.fdiv (D.fsub (D.fmul (S22_0 D a0) (D.fc 4620693217682128896)) (D.i2f (D.f2i .i64 (D.fmul (S22_0 D a0) (D.fc 4620693217682128896))))) (S28_0 D (D.fadd (D.fc 4607182418800017408) (D.fmul (D.fsub (D.fmul (S22_0 D a0) (D.fc 4620693217682128896)) (D.i2f (D.f2i .i64 (D.fmul (S22_0 D a0) (D.fc 4620693217682128896))))) (D.fsub (D.fmul (S22_0 D a0) (D.fc 4620693217682128896)) (D.i2f (D.f2i .i64 (D.fmul (S22_0 D a0) (D.fc 4620693217682128896))))))))) (D.fite (D.zeq (D.zrem .i64 (D.f2i .i64 (D.fmul (S22_0 D a0) (D.fc 4620693217682128896))) (D.zc 8)) (D.zc 4)) (D.fsub (D.fc 0) (D.fdiv (D.fsub (D.fmul (S22_0 D a0) (D.fc 4620693217682128896)) (D.i2f (D.f2i .i64 (D.fmul (S22_0 D a0) (D.fc 4620693217682128896))))) (S28_0 D (D.fadd (D.fc 4607182418800017408) (D.fmul (D.fsub (D.fmul (S22_0 D a0) (D.fc 4620693217682128896)) (D.i2f (D.f2i .i64 (D.fmul (S22_0 D a0) (D.fc 4620693217682128896))))) (D.fsub (D.fmul (S22_0 D a0) (D.fc 4620693217682128896)) (D.i2f (D.f2i .i64 (D.fmul (S22_0 D a0) (D.fc 4620693217682128896)))))))))) (D.fite (D.zeq (D.zrem .i64 (D.f2i .i64 (D.fmul (S22_0 D a0) (D.fc 4620693217682128896))) (D.zc 8)) (D.zc 5)) (D.fsub (D.fc 0) (D.fdiv (D.fc 4607182418800017408) (S28_0 D (D.fadd (D.fc 4607182418800017408) (D.fmul (D.fsub (D.fmul (S22_0 D a0) (D.fc 4620693217682128896)) (D.i2f (D.f2i .i64 (D.fmul (S22_0 D a0) (D.fc 4620693217682128896))))) (D.fsub (D.fmul (S22_0 D a0) (D.fc 4620693217682128896)) (D.i2f (D.f2i .i64 (D.fmul (S22_0 D a0) (D.fc 4620693217682128896)))))))))) (D.fite (D.zeq (D.zrem .i64 (D.f2i .i64 (D.fmul (S22_0 D a0) (D.fc 4620693217682128896))) (D.zc 8)) (D.zc 6)) (D.fsub (D.fc 0) (D.fdiv (D.fc 4607182418800017408) (S28_0 D (D.fadd (D.fc 4607182418800017408) (D.fmul (D.fsub (D.fmul (S22_0 D a0) (D.fc 4620693217682128896)) (D.i2f (D.f2i .i64 (D.fmul (S22_0 D a0) (D.fc 4620693217682128896))))) (D.fsub (D.fmul (S22_0 D a0) (D.fc 4620693217682128896)) (D.i2f (D.f2i .i64 (D.fmul (S22_0 D a0) (D.fc 4620693217682128896)))))))))) (D.fsub (D.fc 0) (D.fdiv (D.fsub (D.fmul (S22_0 D a0) (D.fc 4620693217682128896)) (D.i2f (D.f2i .i64 (D.fmul (S22_0 D a0) (D.fc 4620693217682128896))))) (S28_0 D (D.fadd (D.fc 4607182418800017408) (D.fmul (D.fsub (D.fmul (S22_0 D a0) (D.fc 4620693217682128896)) (D.i2f (D.f2i .i64 (D.fmul (S22_0 D a0) (D.fc 4620693217682128896))))) (D.fsub (D.fmul (S22_0 D a0) (D.fc 4620693217682128896)) (D.i2f (D.f2i .i64 (D.fmul (S22_0 D a0) (D.fc 4620693217682128896)))))))))))))))))
def S46_2 (D : Dom) (a0 : D.F) : D.F := (D.fmul (D.fadd (D.fc 4607182418800017408) (D.fmul (D.fsub (D.fmul (S22_0 D a0) (D.fc 4620693217682128896)) (D.i2f (D.f2i .i64 (D.fmul (S22_0 D a0) (D.fc 4620693217682128896))))) (D.fsub (D.fmul (S22_0 D a0) (D.fc 4620693217682128896)) (D.i2f (D.f2i .i64 (D.fmul (S22_0 D a0) (D.fc 4620693217682128896))))))) (D.fc 4593671619917905920))
def O46 (D : Dom) (a0 : D.F) : D.B := (D.band (D.f2iok .i64 (D.fmul (S22_0 D a0) (D.fc 4620693217682128896))) (D.band (D.bnot (D.zeq (D.zc 8) (D.zc 0))) (D.bite (D.zeq (D.zrem .i64 (D.f2i .i64 (D.fmul (S22_0 D a0) (D.fc 4620693217682128896))) (D.zc 8)) (D.zc 0)) (D.bc true) (D.bite (D.zeq (D.zrem .i64 (D.f2i .i64 (D.fmul (S22_0 D a0) (D.fc 4620693217682128896))) (D.zc 8)) (D.zc 1)) (D.bc true) (D.bite (D.zeq (D.zrem .i64 (D.f2i .i64 (D.fmul (S22_0 D a0) (D.fc 4620693217682128896))) (D.zc 8)) (D.zc 2)) (D.bc true) (D.bite (D.zeq (D.zrem .i64 (D.f2i .i64 (D.fmul (S22_0 D a0) (D.fc 4620693217682128896))) (D.zc 8)) (D.zc 3)) (D.bc true) (D.bite (D.zeq (D.zrem .i64 (D.f2i .i64 (D.fmul (S22_0 D a0) (D.fc 4620693217682128896))) (D.zc 8)) (D.zc 4)) (D.bc true) (D.bite (D.zeq (D.zrem .i64 (D.f2i .i64 (D.fmul (S22_0 D a0) (D.fc 4620693217682128896))) (D.zc 8)) (D.zc 5)) (D.bc true) (D.bite (D.zeq (D.zrem .i64 (D.f2i .i64 (D.fmul (S22_0 D a0) (D.fc 4620693217682128896))) (D.zc 8)) (D.zc 6)) (D.bc true) (D.zeq (D.zrem .i64 (D.f2i .i64 (D.fmul (S22_0 D a0) (D.fc 4620693217682128896))) (D.zc 8)) (D.zc 7)))))))))))
theorem ev46 (D : Dom) (a0 : D.F) : joinT (evFn Try.prog (tbl_28 D) 60 46 [.fl a0]) = .val (some (O46 D a0)) (.tup [.fl (S46_0 D a0), .fl (S46_1 D a0), .fl (S46_2 D a0)]) := by kernel_rfl
def sp46 : Ev.Spec := fun D l => argF l fun a0 r0 => arg0 r0 (.node (O46 D a0) (.ret (.tup [.fl (S46_0 D a0), .fl (S46_1 D a0), .fl (S46_2 D a0)])) (.fail "pre"))
theorem en46 : ∀ l r, (sp46 R l).run = some r → Entry Try.prog 46 l r := by
  intro l r h
  obtain ⟨x0, _, h, L0⟩ := argF_inv h
  obtain ⟨h, L1⟩ := arg0_inv h
  obtain ⟨hok, rfl⟩ := run_okay h
  exact (entry_of prg tok_28 (ev46 R x0) (fun o ho => (Option.some.inj ho) ▸ hok) rfl).le (L0 _ L1)
def tl_46 : List (Nat × Ev.Spec) := (46, sp46) :: tl_28
def tbl_46 (D : Dom) : Tbl D := tblOf tl_46 D
theorem tok_46 : TblOK Try.prog (tbl_46 R) := TblOK.cons tok_28 en46

-- penumbra/warp.scaled
def S97_0 (D : Dom) (a0 : D.F) (a1 : D.F) : D.F := (D.fmul (S46_0 D a0) a1)
def S97_1 (D : Dom) (a0 : D.F) (a1 : D.F) : D.F := (D.fmul (S46_1 D a0) a1)
def S97_2 (D : Dom) (a0 : D.F) : D.F := (S46_2 D a0)
def O97 (D : Dom) (a0 : D.F) : D.B := (O46 D a0)
theorem ev97 (D : Dom) (a0 : D.F) (a1 : D.F) : joinT (evFn Try.prog (tbl_46 D) 60 97 [.fl a0, .fl a1]) = .val (some (O97 D a0)) (.tup [.fl (S97_0 D a0 a1), .fl (S97_1 D a0 a1), .fl (S97_2 D a0)]) := by kernel_rfl
def sp97 : Ev.Spec := fun D l => argF l fun a0 r0 => argF r0 fun a1 r1 => arg0 r1 (.node (O97 D a0) (.ret (.tup [.fl (S97_0 D a0 a1), .fl (S97_1 D a0 a1), .fl (S97_2 D a0)])) (.fail "pre"))
theorem en97 : ∀ l r, (sp97 R l).run = some r → Entry Try.prog 97 l r := by
  intro l r h
  obtain ⟨x0, _, h, L0⟩ := argF_inv h
  obtain ⟨x1, _, h, L1⟩ := argF_inv h
  obtain ⟨h, L2⟩ := arg0_inv h
  obtain ⟨hok, rfl⟩ := run_okay h
  exact (entry_of prg tok_46 (ev97 R x0 x1) (fun o ho => (Option.some.inj ho) ▸ hok) rfl).le (L0 _ (L1 _ L2))
def tl_97 : List (Nat × Ev.Spec) := (97, sp97) :: tl_46
def tbl_97 (D : Dom) : Tbl D := tblOf tl_97 D
theorem tok_97 : TblOK Try.prog (tbl_97 R) := TblOK.cons tok_46 en97

-- penumbra/warp.Disk
def S80_0 (D : Dom) (a0 : D.F) (a1 : D.F) : D.F := (S97_0 D a1 (S28_0 D (S22_0 D a0)))
def S80_1 (D : Dom) (a0 : D.F) (a1 : D.F) : D.F := (S97_1 D a1 (S28_0 D (S22_0 D a0)))
def S80_2 (D : Dom) (a1 : D.F) : D.F := (D.fmul (D.fc 4611686018427387904) (S97_2 D a1))
def O80 (D : Dom) (a1 : D.F) : D.B := (O97 D a1)
theorem ev80 (D : Dom) (a0 : D.F) (a1 : D.F) : joinT (evFn Try.prog (tbl_97 D) 60 80 [.fl a0, .fl a1]) = .val (some (O80 D a1)) (.tup [.fl (S80_0 D a0 a1), .fl (S80_1 D a0 a1), .fl (S80_2 D a1)]) := by kernel_rfl
def sp80 : Ev.Spec := fun D l => argF l fun a0 r0 => argF r0 fun a1 r1 => arg0 r1 (.node (O80 D a1) (.ret (.tup [.fl (S80_0 D a0 a1), .fl (S80_1 D a0 a1), .fl (S80_2 D a1)])) (.fail "pre"))
theorem en80 : ∀ l r, (sp80 R l).run = some r → Entry Try.prog 80 l r := by
  intro l r h
  obtain ⟨x0, _, h, L0⟩ := argF_inv h
  obtain ⟨x1, _, h, L1⟩ := argF_inv h
  obtain ⟨h, L2⟩ := arg0_inv h
  obtain ⟨hok, rfl⟩ := run_okay h
  exact (entry_of prg tok_97 (ev80 R x0 x1) (fun o ho => (Option.some.inj ho) ▸ hok) rfl).le (L0 _ (L1 _ L2))
def tl_80 : List (Nat × Ev.Spec) := (80, sp80) :: tl_97
def tbl_80 (D : Dom) : Tbl D := tblOf tl_80 D
theorem tok_80 : TblOK Try.prog (tbl_80 R) := TblOK.cons tok_97 en80

-- penumbra/warp.Hemi
def S43_0 (D : Dom) (a0 : D.F) (a1 : D.F) : D.F := (S80_0 D a0 a1)
def S43_1 (D : Dom) (a0 : D.F) (a1 : D.F) : D.F := (S80_1 D a0 a1)
def S43_2 (D : Dom) (a0 : D.F) : D.F := (S28_0 D (D.fsub (D.fc 4607182418800017408) (S22_0 D a0)))
def S43_3 (D : Dom) (a0 : D.F) (a1 : D.F) : D.F := (D.fmul (S80_2 D a1) (S28_0 D (D.fsub (D.fc 4607182418800017408) (S22_0 D a0))))
def O43 (D : Dom) (a1 : D.F) : D.B := (O80 D a1)
theorem ev43 (D : Dom) (a0 : D.F) (a1 : D.F) : joinT (evFn Try.prog (tbl_80 D) 60 43 [.fl a0, .fl a1]) = .val (some (O43 D a1)) (.tup [.agg [.fl (S43_0 D a0 a1), .fl (S43_1 D a0 a1), .fl (S43_2 D a0)], .fl (S43_3 D a0 a1)]) := by kernel_rfl
def sp43 : Ev.Spec := fun D l => argF l fun a0 r0 => argF r0 fun a1 r1 => arg0 r1 (.node (O43 D a1) (.ret (.tup [.agg [.fl (S43_0 D a0 a1), .fl (S43_1 D a0 a1), .fl (S43_2 D a0)], .fl (S43_3 D a0 a1)])) (.fail "pre"))
theorem en43 : ∀ l r, (sp43 R l).run = some r → Entry Try.prog 43 l r := by
  intro l r h
  obtain ⟨x0, _, h, L0⟩ := argF_inv h
  obtain ⟨x1, _, h, L1⟩ := argF_inv h
  obtain ⟨h, L2⟩ := arg0_inv h
  obtain ⟨hok, rfl⟩ := run_okay h
  exact (entry_of prg tok_80 (ev43 R x0 x1) (fun o ho => (Option.some.inj ho) ▸ hok) rfl).le (L0 _ (L1 _ L2))
def tl_43 : List (Nat × Ev.Spec) := (43, sp43) :: tl_80
def tbl_43 (D : Dom) : Tbl D := tblOf tl_43 D
theorem tok_43 : TblOK Try.prog (tbl_43 R) := TblOK.cons tok_80 en43

-- penumbra/frame.Cos
def S65_0 (D : Dom) (a2 : D.F) : D.F := a2
theorem ev65 (D : Dom) (a0 : D.F) (a1 : D.F) (a2 : D.F) : joinT (evFn Try.prog (tbl_43 D) 60 65 [.agg [.fl a0, .fl a1, .fl a2]]) = .val none (.fl (S65_0 D a2)) := by kernel_rfl
def sp65 : Ev.Spec := fun D l => argA l fun c0 r0 => argF c0 fun _a0 r1 => argF r1 fun _a1 r2 => argF r2 fun a2 r3 => arg0 r3 (arg0 r0 (.ret (.fl (S65_0 D a2))))
theorem en65 : ∀ l r, (sp65 R l).run = some r → Entry Try.prog 65 l r := by
  intro l r h
  obtain ⟨_, _, h, L0⟩ := argA_inv h
  obtain ⟨x1, _, h, L1⟩ := argF_inv h
  obtain ⟨x2, _, h, L2⟩ := argF_inv h
  obtain ⟨x3, _, h, L3⟩ := argF_inv h
  obtain ⟨h, L4⟩ := arg0_inv h
  obtain ⟨h, L5⟩ := arg0_inv h
  cases h
  exact (entry_of prg tok_43 (ev65 R x1 x2 x3) (fun o ho => nomatch ho) rfl).le (L0 _ _ (L1 _ (L2 _ (L3 _ L4))) L5)
def tl_65 : List (Nat × Ev.Spec) := (65, sp65) :: tl_43
def tbl_65 (D : Dom) : Tbl D := tblOf tl_65 D
theorem tok_65 : TblOK Try.prog (tbl_65 R) := TblOK.cons tok_43 en65

-- penumbra/frame.Upper
def S44_0 (D : Dom) (a2 : D.F) (a5 : D.F) : D.B := (D.bite (D.fgt (S65_0 D a2) (D.fc 0)) (D.fgt (S65_0 D a5) (D.fc 0)) (D.bc false))
theorem ev44 (D : Dom) (a0 : D.F) (a1 : D.F) (a2 : D.F) (a3 : D.F) (a4 : D.F) (a5 : D.F) : joinT (evFn Try.prog (tbl_65 D) 60 44 [.agg [.fl a0, .fl a1, .fl a2], .agg [.fl a3, .fl a4, .fl a5]]) = .val none (.sb (S44_0 D a2 a5)) := by kernel_rfl
def sp44 : Ev.Spec := fun D l => argA l fun c0 r0 => argF c0 fun _a0 r1 => argF r1 fun _a1 r2 => argF r2 fun a2 r3 => arg0 r3 (argA r0 fun c100 r100 => argF c100 fun _a3 r101 => argF r101 fun _a4 r102 => argF r102 fun a5 r103 => arg0 r103 (arg0 r100 (.ret (.sb (S44_0 D a2 a5)))))
theorem en44 : ∀ l r, (sp44 R l).run = some r → Entry Try.prog 44 l r := by
  intro l r h
  obtain ⟨_, _, h, L0⟩ := argA_inv h
  obtain ⟨x1, _, h, L1⟩ := argF_inv h
  obtain ⟨x2, _, h, L2⟩ := argF_inv h
  obtain ⟨x3, _, h, L3⟩ := argF_inv h
  obtain ⟨h, L4⟩ := arg0_inv h
  obtain ⟨_, _, h, L5⟩ := argA_inv h
  obtain ⟨x6, _, h, L6⟩ := argF_inv h
  obtain ⟨x7, _, h, L7⟩ := argF_inv h
  obtain ⟨x8, _, h, L8⟩ := argF_inv h
  obtain ⟨h, L9⟩ := arg0_inv h
  obtain ⟨h, L10⟩ := arg0_inv h
  cases h
  exact (entry_of prg tok_65 (ev44 R x1 x2 x3 x6 x7 x8) (fun o ho => nomatch ho) rfl).le (L0 _ _ (L1 _ (L2 _ (L3 _ L4))) (L5 _ _ (L6 _ (L7 _ (L8 _ L9))) L10))
def tl_44 : List (Nat × Ev.Spec) := (44, sp44) :: tl_65
def tbl_44 (D : Dom) : Tbl D := tblOf tl_44 D
theorem tok_44 : TblOK Try.prog (tbl_44 R) := TblOK.cons tok_65 en44

-- penumbra/lambert.Sample
def S23_0 (D : Dom) (a2 : D.F) (a3 : D.F) (a4 : D.F) : D.F := (D.fite (D.bnot (S44_0 D a2 (S43_2 D a3))) (D.fc 0) (S43_0 D a3 a4))
def S23_1 (D : Dom) (a2 : D.F) (a3 : D.F) (a4 : D.F) : D.F := (D.fite (D.bnot (S44_0 D a2 (S43_2 D a3))) (D.fc 0) (S43_1 D a3 a4))
def S23_2 (D : Dom) (a2 : D.F) (a3 : D.F) : D.F := (D.fite (D.bnot (S44_0 D a2 (S43_2 D a3))) (D.fc 0) (S43_2 D a3))
def S23_3 (D : Dom) (a2 : D.F) (a3 : D.F) : D.B := (D.bite (D.bnot (S44_0 D a2 (S43_2 D a3))) (D.bc false) (D.bc true))
def O23 (D : Dom) (a4 : D.F) : D.B := (O43 D a4)
theorem ev23 (D : Dom) (a0 : D.F) (a1 : D.F) (a2 : D.F) (a3 : D.F) (a4 : D.F) : joinT (evFn Try.prog (tbl_44 D) 60 23 [.agg [.fl a0, .fl a1, .fl a2], .fl a3, .fl a4]) = .val (some (O23 D a4)) (.tup [.agg [.fl (S23_0 D a2 a3 a4), .fl (S23_1 D a2 a3 a4), .fl (S23_2 D a2 a3)], .sb (S23_3 D a2 a3)]) := by kernel_rfl
def sp23 : Ev.Spec := fun D l => argA l fun c0 r0 => argF c0 fun _a0 r1 => argF r1 fun _a1 r2 => argF r2 fun a2 r3 => arg0 r3 (argF r0 fun a3 r100 => argF r100 fun a4 r101 => arg0 r101 (.node (O23 D a4) (.ret (.tup [.agg [.fl (S23_0 D a2 a3 a4), .fl (S23_1 D a2 a3 a4), .fl (S23_2 D a2 a3)], .sb (S23_3 D a2 a3)])) (.fail "pre")))
theorem en23 : ∀ l r, (sp23 R l).run = some r → Entry Try.prog 23 l r := by
  intro l r h
  obtain ⟨_, _, h, L0⟩ := argA_inv h
  obtain ⟨x1, _, h, L1⟩ := argF_inv h
  obtain ⟨x2, _, h, L2⟩ := argF_inv h
  obtain ⟨x3, _, h, L3⟩ := argF_inv h
  obtain ⟨h, L4⟩ := arg0_inv h
  obtain ⟨x5, _, h, L5⟩ := argF_inv h
  obtain ⟨x6, _, h, L6⟩ := argF_inv h
  obtain ⟨h, L7⟩ := arg0_inv h
  obtain ⟨hok, rfl⟩ := run_okay h
  exact (entry_of prg tok_44 (ev23 R x1 x2 x3 x5 x6) (fun o ho => (Option.some.inj ho) ▸ hok) rfl).le (L0 _ _ (L1 _ (L2 _ (L3 _ L4))) (L5 _ (L6 _ L7)))
def tl_23 : List (Nat × Ev.Spec) := (23, sp23) :: tl_44
def tbl_23 (D : Dom) : Tbl D := tblOf tl_23 D
theorem tok_23 : TblOK Try.prog (tbl_23 R) := TblOK.cons tok_44 en23

-- penumbra/ggx.between
def S91_0 (D : Dom) (a0 : D.F) (a1 : D.F) (a2 : D.F) : D.F := (D.fite (D.bite (D.flt a0 a1) (D.bc true) (D.fle a0 a2)) (D.fite (D.flt a0 a1) a1 a0) a2)
theorem ev91 (D : Dom) (a0 : D.F) (a1 : D.F) (a2 : D.F) : joinT (evFn Try.prog (tbl_23 D) 60 91 [.fl a0, .fl a1, .fl a2]) = .val none (.fl (S91_0 D a0 a1 a2)) := by kernel_rfl
def sp91 : Ev.Spec := fun D l => argF l fun a0 r0 => argF r0 fun a1 r1 => argF r1 fun a2 r2 => arg0 r2 (.ret (.fl (S91_0 D a0 a1 a2)))
theorem en91 : ∀ l r, (sp91 R l).run = some r → Entry Try.prog 91 l r := by
  intro l r h
  obtain ⟨x0, _, h, L0⟩ := argF_inv h
  obtain ⟨x1, _, h, L1⟩ := argF_inv h
  obtain ⟨x2, _, h, L2⟩ := argF_inv h
  obtain ⟨h, L3⟩ := arg0_inv h
  cases h
  exact (entry_of prg tok_23 (ev91 R x0 x1 x2) (fun o ho => nomatch ho) rfl).le (L0 _ (L1 _ (L2 _ L3)))
def tl_91 : List (Nat × Ev.Spec) := (91, sp91) :: tl_23
def tbl_91 (D : Dom) : Tbl D := tblOf tl_91 D
theorem tok_91 : TblOK Try.prog (tbl_91 R) := TblOK.cons tok_23 en91

-- penumbra/ggx.Rough
def S81_0 (D : Dom) (a0 : D.F) : D.F := (S91_0 D a0 (D.fc 4562146422526312448) (D.fc 4607182418800017408))
theorem ev81 (D : Dom) (a0 : D.F) : joinT (evFn Try.prog (tbl_91 D) 60 81 [.fl a0]) = .val none (.fl (S81_0 D a0)) := by kernel_rfl
def sp81 : Ev.Spec := fun D l => argF l fun a0 r0 => arg0 r0 (.ret (.fl (S81_0 D a0)))
theorem en81 : ∀ l r, (sp81 R l).run = some r → Entry Try.prog 81 l r := by
  intro l r h
  obtain ⟨x0, _, h, L0⟩ := argF_inv h
  obtain ⟨h, L1⟩ := arg0_inv h
  cases h
  exact (entry_of prg tok_91 (ev81 R x0) (fun o ho => nomatch ho) rfl).le (L0 _ L1)
def tl_81 : List (Nat × Ev.Spec) := (81, sp81) :: tl_91
def tbl_81 (D : Dom) : Tbl D := tblOf tl_81 D
theorem tok_81 : TblOK Try.prog (tbl_81 R) := TblOK.cons tok_91 en81

-- penumbra/ggx.square
def S45_0 (D : Dom) (a0 : D.F) : D.F := (D.fmul (S81_0 D a0) (S81_0 D a0))
theorem ev45 (D : Dom) (a0 : D.F) : joinT (evFn Try.prog (tbl_81 D) 60 45 [.fl a0]) = .val none (.fl (S45_0 D a0)) := by kernel_rfl
def sp45 : Ev.Spec := fun D l => argF l fun a0 r0 => arg0 r0 (.ret (.fl (S45_0 D a0)))
theorem en45 : ∀ l r, (sp45 R l).run = some r → Entry Try.prog 45 l r := by
  intro l r h
  obtain ⟨x0, _, h, L0⟩ := argF_inv h
  obtain ⟨h, L1⟩ := arg0_inv h
  cases h
  exact (entry_of prg tok_81 (ev45 R x0) (fun o ho => nomatch ho) rfl).le (L0 _ L1)
def tl_45 : List (Nat × Ev.Spec) := (45, sp45) :: tl_81
def tbl_45 (D : Dom) : Tbl D := tblOf tl_45 D
theorem tok_45 : TblOK Try.prog (tbl_45 R) := TblOK.cons tok_81 en45

-- penumbra/vec.Mul$1
def S98_0 (D : Dom) (a0 : D.F) (a1 : D.F) : D.F := (D.fmul a0 a1)
theorem ev98 (D : Dom) (a0 : D.F) (a1 : D.F) : joinT (evFn Try.prog (tbl_45 D) 60 98 [.fl a0, .fl a1]) = .val none (.fl (S98_0 D a0 a1)) := by kernel_rfl
def sp98 : Ev.Spec := fun D l => argF l fun a0 r0 => argF r0 fun a1 r1 => arg0 r1 (.ret (.fl (S98_0 D a0 a1)))
theorem en98 : ∀ l r, (sp98 R l).run = some r → Entry Try.prog 98 l r := by
  intro l r h
  obtain ⟨x0, _, h, L0⟩ := argF_inv h
  obtain ⟨x1, _, h, L1⟩ := argF_inv h
  obtain ⟨h, L2⟩ := arg0_inv h
  cases h
  exact (entry_of prg tok_45 (ev98 R x0 x1) (fun o ho => nomatch ho) rfl).le (L0 _ (L1 _ L2))
def tl_98 : List (Nat × Ev.Spec) := (98, sp98) :: tl_45
def tbl_98 (D : Dom) : Tbl D := tblOf tl_98 D
theorem tok_98 : TblOK Try.prog (tbl_98 R) := TblOK.cons tok_45 en98

-- penumbra/vec.Mul
def S82_0 (D : Dom) (a0 : D.F) (a3 : D.F) : D.F := (S98_0 D a0 a3)
def S82_1 (D : Dom) (a1 : D.F) (a4 : D.F) : D.F := (S98_0 D a1 a4)
def S82_2 (D : Dom) (a2 : D.F) (a5 : D.F) : D.F := (S98_0 D a2 a5)
theorem ev82 (D : Dom) (a0 : D.F) (a1 : D.F) (a2 : D.F) (a3 : D.F) (a4 : D.F) (a5 : D.F) : joinT (evFn Try.prog (tbl_98 D) 60 82 [.agg [.fl a0, .fl a1, .fl a2], .agg [.fl a3, .fl a4, .fl a5]]) = .val none (.agg [.fl (S82_0 D a0 a3), .fl (S82_1 D a1 a4), .fl (S82_2 D a2 a5)]) := by kernel_rfl
def sp82 : Ev.Spec := fun D l => argA l fun c0 r0 => argF c0 fun a0 r1 => argF r1 fun a1 r2 => argF r2 fun a2 r3 => arg0 r3 (argA r0 fun c100 r100 => argF c100 fun a3 r101 => argF r101 fun a4 r102 => argF r102 fun a5 r103 => arg0 r103 (arg0 r100 (.ret (.agg [.fl (S82_0 D a0 a3), .fl (S82_1 D a1 a4), .fl (S82_2 D a2 a5)]))))
theorem en82 : ∀ l r, (sp82 R l).run = some r → Entry Try.prog 82 l r := by
  intro l r h
  obtain ⟨_, _, h, L0⟩ := argA_inv h
  obtain ⟨x1, _, h, L1⟩ := argF_inv h
  obtain ⟨x2, _, h, L2⟩ := argF_inv h
  obtain ⟨x3, _, h, L3⟩ := argF_inv h
  obtain ⟨h, L4⟩ := arg0_inv h
  obtain ⟨_, _, h, L5⟩ := argA_inv h
  obtain ⟨x6, _, h, L6⟩ := argF_inv h
  obtain ⟨x7, _, h, L7⟩ := argF_inv h
  obtain ⟨x8, _, h, L8⟩ := argF_inv h
  obtain ⟨h, L9⟩ := arg0_inv h
  obtain ⟨h, L10⟩ := arg0_inv h
  cases h
  exact (entry_of prg tok_98 (ev82 R x1 x2 x3 x6 x7 x8) (fun o ho => nomatch ho) rfl).le (L0 _ _ (L1 _ (L2 _ (L3 _ L4))) (L5 _ _ (L6 _ (L7 _ (L8 _ L9))) L10))
def tl_82 : List (Nat × Ev.Spec) := (82, sp82) :: tl_98
def tbl_82 (D : Dom) : Tbl D := tblOf tl_82 D
theorem tok_82 : TblOK Try.prog (tbl_82 R) := TblOK.cons tok_98 en82

-- penumbra/vec.Dot
def S47_0 (D : Dom) (a0 : D.F) (a1 : D.F) (a2 : D.F) (a3 : D.F) (a4 : D.F) (a5 : D.F) : D.F := (D.fadd (D.fadd (S82_0 D a0 a3) (S82_1 D a1 a4)) (S82_2 D a2 a5))
theorem ev47 (D : Dom) (a0 : D.F) (a1 : D.F) (a2 : D.F) (a3 : D.F) (a4 : D.F) (a5 : D.F) : joinT (evFn Try.prog (tbl_82 D) 60 47 [.agg [.fl a0, .fl a1, .fl a2], .agg [.fl a3, .fl a4, .fl a5]]) = .val none (.fl (S47_0 D a0 a1 a2 a3 a4 a5)) := by kernel_rfl
def sp47 : Ev.Spec := fun D l => argA l fun c0 r0 => argF c0 fun a0 r1 => argF r1 fun a1 r2 => argF r2 fun a2 r3 => arg0 r3 (argA r0 fun c100 r100 => argF c100 fun a3 r101 => argF r101 fun a4 r102 => argF r102 fun a5 r103 => arg0 r103 (arg0 r100 (.ret (.fl (S47_0 D a0 a1 a2 a3 a4 a5)))))
theorem en47 : ∀ l r, (sp47 R l).run = some r → Entry Try.prog 47 l r := by
  intro l r h
  obtain ⟨_, _, h, L0⟩ := argA_inv h
  obtain ⟨x1, _, h, L1⟩ := argF_inv h
  obtain ⟨x2, _, h, L2⟩ := argF_inv h
  obtain ⟨x3, _, h, L3⟩ := argF_inv h
  obtain ⟨h, L4⟩ := arg0_inv h
  obtain ⟨_, _, h, L5⟩ := argA_inv h
  obtain ⟨x6, _, h, L6⟩ := argF_inv h
  obtain ⟨x7, _, h, L7⟩ := argF_inv h
  obtain ⟨x8, _, h, L8⟩ := argF_inv h
  obtain ⟨h, L9⟩ := arg0_inv h
  obtain ⟨h, L10⟩ := arg0_inv h
  cases h
  exact (entry_of prg tok_82 (ev47 R x1 x2 x3 x6 x7 x8) (fun o ho => nomatch ho) rfl).le (L0 _ _ (L1 _ (L2 _ (L3 _ L4))) (L5 _ _ (L6 _ (L7 _ (L8 _ L9))) L10))
def tl_47 : List (Nat × Ev.Spec) := (47, sp47) :: tl_82
def tbl_47 (D : Dom) : Tbl D := tblOf tl_47 D
theorem tok_47 : TblOK Try.prog (tbl_47 R) := TblOK.cons tok_82 en47

-- penumbra/vec.Scale
def S49_0 (D : Dom) (a0 : D.F) (a3 : D.F) : D.F := (S82_0 D a0 a3)
def S49_1 (D : Dom) (a1 : D.F) (a3 : D.F) : D.F := (S82_1 D a1 a3)
def S49_2 (D : Dom) (a2 : D.F) (a3 : D.F) : D.F := (S82_2 D a2 a3)
theorem ev49 (D : Dom) (a0 : D.F) (a1 : D.F) (a2 : D.F) (a3 : D.F) : joinT (evFn Try.prog (tbl_47 D) 60 49 [.agg [.fl a0, .fl a1, .fl a2], .fl a3]) = .val none (.agg [.fl (S49_0 D a0 a3), .fl (S49_1 D a1 a3), .fl (S49_2 D a2 a3)]) := by kernel_rfl
def sp49 : Ev.Spec := fun D l => argA l fun c0 r0 => argF c0 fun a0 r1 => argF r1 fun a1 r2 => argF r2 fun a2 r3 => arg0 r3 (argF r0 fun a3 r100 => arg0 r100 (.ret (.agg [.fl (S49_0 D a0 a3), .fl (S49_1 D a1 a3), .fl (S49_2 D a2 a3)])))
theorem en49 : ∀ l r, (sp49 R l).run = some r → Entry Try.prog 49 l r := by
  intro l r h
  obtain ⟨_, _, h, L0⟩ := argA_inv h
  obtain ⟨x1, _, h, L1⟩ := argF_inv h
  obtain ⟨x2, _, h, L2⟩ := argF_inv h
  obtain ⟨x3, _, h, L3⟩ := argF_inv h
  obtain ⟨h, L4⟩ := arg0_inv h
  obtain ⟨x5, _, h, L5⟩ := argF_inv h
  obtain ⟨h, L6⟩ := arg0_inv h
  cases h
  exact (entry_of prg tok_47 (ev49 R x1 x2 x3 x5) (fun o ho => nomatch ho) rfl).le (L0 _ _ (L1 _ (L2 _ (L3 _ L4))) (L5 _ L6))
def tl_49 : List (Nat × Ev.Spec) := (49, sp49) :: tl_47
def tbl_49 (D : Dom) : Tbl D := tblOf tl_49 D
theorem tok_49 : TblOK Try.prog (tbl_49 R) := TblOK.cons tok_47 en49

-- penumbra/vec.Sub$1
def S84_0 (D : Dom) (a0 : D.F) (a1 : D.F) : D.F := (D.fsub a0 a1)
theorem ev84 (D : Dom) (a0 : D.F) (a1 : D.F) : joinT (evFn Try.prog (tbl_49 D) 60 84 [.fl a0, .fl a1]) = .val none (.fl (S84_0 D a0 a1)) := by kernel_rfl
def sp84 : Ev.Spec := fun D l => argF l fun a0 r0 => argF r0 fun a1 r1 => arg0 r1 (.ret (.fl (S84_0 D a0 a1)))
theorem en84 : ∀ l r, (sp84 R l).run = some r → Entry Try.prog 84 l r := by
  intro l r h
  obtain ⟨x0, _, h, L0⟩ := argF_inv h
  obtain ⟨x1, _, h, L1⟩ := argF_inv h
  obtain ⟨h, L2⟩ := arg0_inv h
  cases h
  exact (entry_of prg tok_49 (ev84 R x0 x1) (fun o ho => nomatch ho) rfl).le (L0 _ (L1 _ L2))
def tl_84 : List (Nat × Ev.Spec) := (84, sp84) :: tl_49
def tbl_84 (D : Dom) : Tbl D := tblOf tl_84 D
theorem tok_84 : TblOK Try.prog (tbl_84 R) := TblOK.cons tok_49 en84

-- penumbra/vec.Sub
def S48_0 (D : Dom) (a0 : D.F) (a3 : D.F) : D.F := (S84_0 D a0 a3)
def S48_1 (D : Dom) (a1 : D.F) (a4 : D.F) : D.F := (S84_0 D a1 a4)
def S48_2 (D : Dom) (a2 : D.F) (a5 : D.F) : D.F := (S84_0 D a2 a5)
theorem ev48 (D : Dom) (a0 : D.F) (a1 : D.F) (a2 : D.F) (a3 : D.F) (a4 : D.F) (a5 : D.F) : joinT (evFn Try.prog (tbl_84 D) 60 48 [.agg [.fl a0, .fl a1, .fl a2], .agg [.fl a3, .fl a4, .fl a5]]) = .val none (.agg [.fl (S48_0 D a0 a3), .fl (S48_1 D a1 a4), .fl (S48_2 D a2 a5)]) := by kernel_rfl
def sp48 : Ev.Spec := fun D l => argA l fun c0 r0 => argF c0 fun a0 r1 => argF r1 fun a1 r2 => argF r2 fun a2 r3 => arg0 r3 (argA r0 fun c100 r100 => argF c100 fun a3 r101 => argF r101 fun a4 r102 => argF r102 fun a5 r103 => arg0 r103 (arg0 r100 (.ret (.agg [.fl (S48_0 D a0 a3), .fl (S48_1 D a1 a4), .fl (S48_2 D a2 a5)]))))
theorem en48 : ∀ l r, (sp48 R l).run = some r → Entry Try.prog 48 l r := by
  intro l r h
  obtain ⟨_, _, h, L0⟩ := argA_inv h
  obtain ⟨x1, _, h, L1⟩ := argF_inv h
  obtain ⟨x2, _, h, L2⟩ := argF_inv h
  obtain ⟨x3, _, h, L3⟩ := argF_inv h
  obtain ⟨h, L4⟩ := arg0_inv h
  obtain ⟨_, _, h, L5⟩ := argA_inv h
  obtain ⟨x6, _, h, L6⟩ := argF_inv h
  obtain ⟨x7, _, h, L7⟩ := argF_inv h
  obtain ⟨x8, _, h, L8⟩ := argF_inv h
  obtain ⟨h, L9⟩ := arg0_inv h
  obtain ⟨h, L10⟩ := arg0_inv h
  cases h
  exact (entry_of prg tok_84 (ev48 R x1 x2 x3 x6 x7 x8) (fun o ho => nomatch ho) rfl).le (L0 _ _ (L1 _ (L2 _ (L3 _ L4))) (L5 _ _ (L6 _ (L7 _ (L8 _ L9))) L10))
def tl_48 : List (Nat × Ev.Spec) := (48, sp48) :: tl_84
def tbl_48 (D : Dom) : Tbl D := tblOf tl_48 D
theorem tok_48 : TblOK Try.prog (tbl_48 R) := TblOK.cons tok_84 en48

-- penumbra/ggx.Sample
def S24_0 (D : Dom) (a0 : D.F) (a1 : D.F) (a2 : D.F) (a3 : D.F) (a4 : D.F) (a5 : D.F) : D.F := (D.fite (D.bite (D.bnot (D.fgt (S47_0 D a1 a2 a3 (D.fmul (S46_0 D a5) (S28_0 D (D.fmax (D.fc 0) (D.fsub (D.fc 4607182418800017408) (D.fmul (S28_0 D (D.fdiv (D.fsub (D.fc 4607182418800017408) (S22_0 D a4)) (D.fadd (D.fc 4607182418800017408) (D.fmul (D.fsub (S45_0 D a0) (D.fc 4607182418800017408)) (S22_0 D a4))))) (S28_0 D (D.fdiv (D.fsub (D.fc 4607182418800017408) (S22_0 D a4)) (D.fadd (D.fc 4607182418800017408) (D.fmul (D.fsub (S45_0 D a0) (D.fc 4607182418800017408)) (S22_0 D a4)))))))))) (D.fmul (S46_1 D a5) (S28_0 D (D.fmax (D.fc 0) (D.fsub (D.fc 4607182418800017408) (D.fmul (S28_0 D (D.fdiv (D.fsub (D.fc 4607182418800017408) (S22_0 D a4)) (D.fadd (D.fc 4607182418800017408) (D.fmul (D.fsub (S45_0 D a0) (D.fc 4607182418800017408)) (S22_0 D a4))))) (S28_0 D (D.fdiv (D.fsub (D.fc 4607182418800017408) (S22_0 D a4)) (D.fadd (D.fc 4607182418800017408) (D.fmul (D.fsub (S45_0 D a0) (D.fc 4607182418800017408)) (S22_0 D a4)))))))))) (S28_0 D (D.fdiv (D.fsub (D.fc 4607182418800017408) (S22_0 D a4)) (D.fadd (D.fc 4607182418800017408) (D.fmul (D.fsub (S45_0 D a0) (D.fc 4607182418800017408)) (S22_0 D a4)))))) (D.fc 0))) (D.bc true) (D.bnot (S44_0 D a3 (S48_2 D (S49_2 D (S28_0 D (D.fdiv (D.fsub (D.fc 4607182418800017408) (S22_0 D a4)) (D.fadd (D.fc 4607182418800017408) (D.fmul (D.fsub (S45_0 D a0) (D.fc 4607182418800017408)) (S22_0 D a4))))) (D.fmul (D.fc 4611686018427387904) (S47_0 D a1 a2 a3 (D.fmul (S46_0 D a5) (S28_0 D (D.fmax (D.fc 0) (D.fsub (D.fc 4607182418800017408) (D.fmul (S28_0 D (D.fdiv (D.fsub (D.fc 4607182418800017408) (S22_0 D a4)) (D.fadd (D.fc 4607182418800017408) (D.fmul (D.fsub (S45_0 D a0) (D.fc 4607182418800017408)) (S22_0 D a4))))) (S28_0 D (D.fdiv (D.fsub (D.fc 4607182418800017408) (S22_0 D a4)) (D.fadd (D.fc 4607182418800017408) (D.fmul (D.fsub (S45_0 D a0) (D.fc 4607182418800017408)) (S22_0 D a4)))))))))) (D.fmul (S46_1 D a5) (S28_0 D (D.fmax (D.fc 0) (D.fsub (D.fc 4607182418800017408) (D.fmul (S28_0 D (D.fdiv (D.fsub (D.fc 4607182418800017408) (S22_0 D a4)) (D.fadd (D.fc 4607182418800017408) (D.fmul (D.fsub (S45_0 D a0) (D.fc 4607182418800017408)) (S22_0 D a4))))) (S28_0 D (D.fdiv (D.fsub (D.fc 4607182418800017408) (S22_0 D a4)) (D.fadd (D.fc 4607182418800017408) (D.fmul (D.fsub (S45_0 D a0) (D.fc 4607182418800017408)) (S22_0 D a4)))))))))) (S28_0 D (D.fdiv (D.fsub (D.fc 4607182418800017408) (S22_0 D a4)) (D.fadd (D.fc 4607182418800017408) (D.fmul (D.fsub (S45_0 D a0) (D.fc 4607182418800017408)) (S22_0 D a4)))))))) a3)))) (D.fc 0) (S48_0 D (S49_0 D (D.fmul (S46_0 D a5) (S28_0 D (D.fmax (D.fc 0) (D.fsub (D.fc 4607182418800017408) (D.fmul (S28_0 D (D.fdiv (D.fsub (D.fc 4607182418800017408) (S22_0 D a4)) (D.fadd (D.fc 4607182418800017408) (D.fmul (D.fsub (S45_0 D a0) (D.fc 4607182418800017408)) (S22_0 D a4))))) (S28_0 D (D.fdiv (D.fsub (D.fc 4607182418800017408) (S22_0 D a4)) (D.fadd (D.fc 4607182418800017408) (D.fmul (D.fsub (S45_0 D a0) (D.fc 4607182418800017408)) (S22_0 D a4)))))))))) (D.fmul (D.fc 4611686018427387904) (S47_0 D a1 a2 a3 (D.fmul (S46_0 D a5) (S28_0 D (D.fmax (D.fc 0) (D.fsub (D.fc 4607182418800017408) (D.fmul (S28_0 D (D.fdiv (D.fsub (D.fc 4607182418800017408) (S22_0 D a4)) (D.fadd (D.fc 4607182418800017408) (D.fmul (D.fsub (S45_0 D a0) (D.fc 4607182418800017408)) (S22_0 D a4))))) (S28_0 D (D.fdiv (D.fsub (D.fc 4607182418800017408) (S22_0 D a4)) (D.fadd (D.fc 4607182418800017408) (D.fmul (D.fsub (S45_0 D a0) (D.fc 4607182418800017408)) (S22_0 D a4)))))))))) (D.fmul (S46_1 D a5) (S28_0 D (D.fmax (D.fc 0) (D.fsub (D.fc 4607182418800017408) (D.fmul (S28_0 D (D.fdiv (D.fsub (D.fc 4607182418800017408) (S22_0 D a4)) (D.fadd (D.fc 4607182418800017408) (D.fmul (D.fsub (S45_0 D a0) (D.fc 4607182418800017408)) (S22_0 D a4))))) (S28_0 D (D.fdiv (D.fsub (D.fc 4607182418800017408) (S22_0 D a4)) (D.fadd (D.fc 4607182418800017408) (D.fmul (D.fsub (S45_0 D a0) (D.fc 4607182418800017408)) (S22_0 D a4)))))))))) (S28_0 D (D.fdiv (D.fsub (D.fc 4607182418800017408) (S22_0 D a4)) (D.fadd (D.fc 4607182418800017408) (D.fmul (D.fsub (S45_0 D a0) (D.fc 4607182418800017408)) (S22_0 D a4)))))))) a1))
def S24_1 (D : Dom) (a0 : D.F) (a1 : D.F) (a2 : D.F) (a3 : D.F) (a4 : D.F) (a5 : D.F) : D.F := (D.fite (D.bite (D.bnot (D.fgt (S47_0 D a1 a2 a3 (D.fmul (S46_0 D a5) (S28_0 D (D.fmax (D.fc 0) (D.fsub (D.fc 4607182418800017408) (D.fmul (S28_0 D (D.fdiv (D.fsub (D.fc 4607182418800017408) (S22_0 D a4)) (D.fadd (D.fc 4607182418800017408) (D.fmul (D.fsub (S45_0 D a0) (D.fc 4607182418800017408)) (S22_0 D a4))))) (S28_0 D (D.fdiv (D.fsub (D.fc 4607182418800017408) (S22_0 D a4)) (D.fadd (D.fc 4607182418800017408) (D.fmul (D.fsub (S45_0 D a0) (D.fc 4607182418800017408)) (S22_0 D a4)))))))))) (D.fmul (S46_1 D a5) (S28_0 D (D.fmax (D.fc 0) (D.fsub (D.fc 4607182418800017408) (D.fmul (S28_0 D (D.fdiv (D.fsub (D.fc 4607182418800017408) (S22_0 D a4)) (D.fadd (D.fc 4607182418800017408) (D.fmul (D.fsub (S45_0 D a0) (D.fc 4607182418800017408)) (S22_0 D a4))))) (S28_0 D (D.fdiv (D.fsub (D.fc 4607182418800017408) (S22_0 D a4)) (D.fadd (D.fc 4607182418800017408) (D.fmul (D.fsub (S45_0 D a0) (D.fc 4607182418800017408)) (S22_0 D a4)))))))))) (S28_0 D (D.fdiv (D.fsub (D.fc 4607182418800017408) (S22_0 D a4)) (D.fadd (D.fc 4607182418800017408) (D.fmul (D.fsub (S45_0 D a0) (D.fc 4607182418800017408)) (S22_0 D a4)))))) (D.fc 0))) (D.bc true) (D.bnot (S44_0 D a3 (S48_2 D (S49_2 D (S28_0 D (D.fdiv (D.fsub (D.fc 4607182418800017408) (S22_0 D a4)) (D.fadd (D.fc 4607182418800017408) (D.fmul (D.fsub (S45_0 D a0) (D.fc 4607182418800017408)) (S22_0 D a4))))) (D.fmul (D.fc 4611686018427387904) (S47_0 D a1 a2 a3 (D.fmul (S46_0 D a5) (S28_0 D (D.fmax (D.fc 0) (D.fsub (D.fc 4607182418800017408) (D.fmul (S28_0 D (D.fdiv (D.fsub (D.fc 4607182418800017408) (S22_0 D a4)) (D.fadd (D.fc 4607182418800017408) (D.fmul (D.fsub (S45_0 D a0) (D.fc 4607182418800017408)) (S22_0 D a4))))) (S28_0 D (D.fdiv (D.fsub (D.fc 4607182418800017408) (S22_0 D a4)) (D.fadd (D.fc 4607182418800017408) (D.fmul (D.fsub (S45_0 D a0) (D.fc 4607182418800017408)) (S22_0 D a4)))))))))) (D.fmul (S46_1 D a5) (S28_0 D (D.fmax (D.fc 0) (D.fsub (D.fc 4607182418800017408) (D.fmul (S28_0 D (D.fdiv (D.fsub (D.fc 4607182418800017408) (S22_0 D a4)) (D.fadd (D.fc 4607182418800017408) (D.fmul (D.fsub (S45_0 D a0) (D.fc 4607182418800017408)) (S22_0 D a4))))) (S28_0 D (D.fdiv (D.fsub (D.fc 4607182418800017408) (S22_0 D a4)) (D.fadd (D.fc 4607182418800017408) (D.fmul (D.fsub (S45_0 D a0) (D.fc 4607182418800017408)) (S22_0 D a4)))))))))) (S28_0 D (D.fdiv (D.fsub (D.fc 4607182418800017408) (S22_0 D a4)) (D.fadd (D.fc 4607182418800017408) (D.fmul (D.fsub (S45_0 D a0) (D.fc 4607182418800017408)) (S22_0 D a4)))))))) a3)))) (D.fc 0) (S48_1 D (S49_1 D (D.fmul (S46_1 D a5) (S28_0 D (D.fmax (D.fc 0) (D.fsub (D.fc 4607182418800017408) (D.fmul (S28_0 D (D.fdiv (D.fsub (D.fc 4607182418800017408) (S22_0 D a4)) (D.fadd (D.fc 4607182418800017408) (D.fmul (D.fsub (S45_0 D a0) (D.fc 4607182418800017408)) (S22_0 D a4))))) (S28_0 D (D.fdiv (D.fsub (D.fc 4607182418800017408) (S22_0 D a4)) (D.fadd (D.fc 4607182418800017408) (D.fmul (D.fsub (S45_0 D a0) (D.fc 4607182418800017408)) (S22_0 D a4)))))))))) (D.fmul (D.fc 4611686018427387904) (S47_0 D a1 a2 a3 (D.fmul (S46_0 D a5) (S28_0 D (D.fmax (D.fc 0) (D.fsub (D.fc 4607182418800017408) (D.fmul (S28_0 D (D.fdiv (D.fsub (D.fc 4607182418800017408) (S22_0 D a4)) (D.fadd (D.fc 4607182418800017408) (D.fmul (D.fsub (S45_0 D a0) (D.fc 4607182418800017408)) (S22_0 D a4))))) (S28_0 D (D.fdiv (D.fsub (D.fc 4607182418800017408) (S22_0 D a4)) (D.fadd (D.fc 4607182418800017408) (D.fmul (D.fsub (S45_0 D a0) (D.fc 4607182418800017408)) (S22_0 D a4)))))))))) (D.fmul (S46_1 D a5) (S28_0 D (D.fmax (D.fc 0) (D.fsub (D.fc 4607182418800017408) (D.fmul (S28_0 D (D.fdiv (D.fsub (D.fc 4607182418800017408) (S22_0 D a4)) (D.fadd (D.fc 4607182418800017408) (D.fmul (D.fsub (S45_0 D a0) (D.fc 4607182418800017408)) (S22_0 D a4))))) (S28_0 D (D.fdiv (D.fsub (D.fc 4607182418800017408) (S22_0 D a4)) (D.fadd (D.fc 4607182418800017408) (D.fmul (D.fsub (S45_0 D a0) (D.fc 4607182418800017408)) (S22_0 D a4)))))))))) (S28_0 D (D.fdiv (D.fsub (D.fc 4607182418800017408) (S22_0 D a4)) (D.fadd (D.fc 4607182418800017408) (D.fmul (D.fsub (S45_0 D a0) (D.fc 4607182418800017408)) (S22_0 D a4)))))))) a2))
def S24_2 (D : Dom) (a0 : D.F) (a1 : D.F) (a2 : D.F) (a3 : D.F) (a4 : D.F) (a5 : D.F) : D.F := (D.fite (D.bite (D.bnot (D.fgt (S47_0 D a1 a2 a3 (D.fmul (S46_0 D a5) (S28_0 D (D.fmax (D.fc 0) (D.fsub (D.fc 4607182418800017408) (D.fmul (S28_0 D (D.fdiv (D.fsub (D.fc 4607182418800017408) (S22_0 D a4)) (D.fadd (D.fc 4607182418800017408) (D.fmul (D.fsub (S45_0 D a0) (D.fc 4607182418800017408)) (S22_0 D a4))))) (S28_0 D (D.fdiv (D.fsub (D.fc 4607182418800017408) (S22_0 D a4)) (D.fadd (D.fc 4607182418800017408) (D.fmul (D.fsub (S45_0 D a0) (D.fc 4607182418800017408)) (S22_0 D a4)))))))))) (D.fmul (S46_1 D a5) (S28_0 D (D.fmax (D.fc 0) (D.fsub (D.fc 4607182418800017408) (D.fmul (S28_0 D (D.fdiv (D.fsub (D.fc 4607182418800017408) (S22_0 D a4)) (D.fadd (D.fc 4607182418800017408) (D.fmul (D.fsub (S45_0 D a0) (D.fc 4607182418800017408)) (S22_0 D a4))))) (S28_0 D (D.fdiv (D.fsub (D.fc 4607182418800017408) (S22_0 D a4)) (D.fadd (D.fc 4607182418800017408) (D.fmul (D.fsub (S45_0 D a0) (D.fc 4607182418800017408)) (S22_0 D a4)))))))))) (S28_0 D (D.fdiv (D.fsub (D.fc 4607182418800017408) (S22_0 D a4)) (D.fadd (D.fc 4607182418800017408) (D.fmul (D.fsub (S45_0 D a0) (D.fc 4607182418800017408)) (S22_0 D a4)))))) (D.fc 0))) (D.bc true) (D.bnot (S44_0 D a3 (S48_2 D (S49_2 D (S28_0 D (D.fdiv (D.fsub (D.fc 4607182418800017408) (S22_0 D a4)) (D.fadd (D.fc 4607182418800017408) (D.fmul (D.fsub (S45_0 D a0) (D.fc 4607182418800017408)) (S22_0 D a4))))) (D.fmul (D.fc 4611686018427387904) (S47_0 D a1 a2 a3 (D.fmul (S46_0 D a5) (S28_0 D (D.fmax (D.fc 0) (D.fsub (D.fc 4607182418800017408) (D.fmul (S28_0 D (D.fdiv (D.fsub (D.fc 4607182418800017408) (S22_0 D a4)) (D.fadd (D.fc 4607182418800017408) (D.fmul (D.fsub (S45_0 D a0) (D.fc 4607182418800017408)) (S22_0 D a4))))) (S28_0 D (D.fdiv (D.fsub (D.fc 4607182418800017408) (S22_0 D a4)) (D.fadd (D.fc 4607182418800017408) (D.fmul (D.fsub (S45_0 D a0) (D.fc 4607182418800017408)) (S22_0 D a4)))))))))) (D.fmul (S46_1 D a5) (S28_0 D (D.fmax (D.fc 0) (D.fsub (D.fc 4607182418800017408) (D.fmul (S28_0 D (D.fdiv (D.fsub (D.fc 4607182418800017408) (S22_0 D a4)) (D.fadd (D.fc 4607182418800017408) (D.fmul (D.fsub (S45_0 D a0) (D.fc 4607182418800017408)) (S22_0 D a4))))) (S28_0 D (D.fdiv (D.fsub (D.fc 4607182418800017408) (S22_0 D a4)) (D.fadd (D.fc 4607182418800017408) (D.fmul (D.fsub (S45_0 D a0) (D.fc 4607182418800017408)) (S22_0 D a4)))))))))) (S28_0 D (D.fdiv (D.fsub (D.fc 4607182418800017408) (S22_0 D a4)) (D.fadd (D.fc 4607182418800017408) (D.fmul (D.fsub (S45_0 D a0) (D.fc 4607182418800017408)) (S22_0 D a4)))))))) a3)))) (D.fc 0) (S48_2 D (S49_2 D (S28_0 D (D.fdiv (D.fsub (D.fc 4607182418800017408) (S22_0 D a4)) (D.fadd (D.fc 4607182418800017408) (D.fmul (D.fsub (S45_0 D a0) (D.fc 4607182418800017408)) (S22_0 D a4))))) (D.fmul (D.fc 4611686018427387904) (S47_0 D a1 a2 a3 (D.fmul (S46_0 D a5) (S28_0 D (D.fmax (D.fc 0) (D.fsub (D.fc 4607182418800017408) (D.fmul (S28_0 D (D.fdiv (D.fsub (D.fc 4607182418800017408) (S22_0 D a4)) (D.fadd (D.fc 4607182418800017408) (D.fmul (D.fsub (S45_0 D a0) (D.fc 4607182418800017408)) (S22_0 D a4))))) (S28_0 D (D.fdiv (D.fsub (D.fc 4607182418800017408) (S22_0 D a4)) (D.fadd (D.fc 4607182418800017408) (D.fmul (D.fsub (S45_0 D a0) (D.fc 4607182418800017408)) (S22_0 D a4)))))))))) (D.fmul (S46_1 D a5) (S28_0 D (D.fmax (D.fc 0) (D.fsub (D.fc 4607182418800017408) (D.fmul (S28_0 D (D.fdiv (D.fsub (D.fc 4607182418800017408) (S22_0 D a4)) (D.fadd (D.fc 4607182418800017408) (D.fmul (D.fsub (S45_0 D a0) (D.fc 4607182418800017408)) (S22_0 D a4))))) (S28_0 D (D.fdiv (D.fsub (D.fc 4607182418800017408) (S22_0 D a4)) (D.fadd (D.fc 4607182418800017408) (D.fmul (D.fsub (S45_0 D a0) (D.fc 4607182418800017408)) (S22_0 D a4)))))))))) (S28_0 D (D.fdiv (D.fsub (D.fc 4607182418800017408) (S22_0 D a4)) (D.fadd (D.fc 4607182418800017408) (D.fmul (D.fsub (S45_0 D a0) (D.fc 4607182418800017408)) (S22_0 D a4)))))))) a3))
def S24_3 (D : Dom) (a0 : D.F) (a1 : D.F) (a2 : D.F) (a3 : D.F) (a4 : D.F) (a5 : D.F) : D.B := (D.bite (D.bite (D.bnot (D.fgt (S47_0 D a1 a2 a3 (D.fmul (S46_0 D a5) (S28_0 D (D.fmax (D.fc 0) (D.fsub (D.fc 4607182418800017408) (D.fmul (S28_0 D (D.fdiv (D.fsub (D.fc 4607182418800017408) (S22_0 D a4)) (D.fadd (D.fc 4607182418800017408) (D.fmul (D.fsub (S45_0 D a0) (D.fc 4607182418800017408)) (S22_0 D a4))))) (S28_0 D (D.fdiv (D.fsub (D.fc 4607182418800017408) (S22_0 D a4)) (D.fadd (D.fc 4607182418800017408) (D.fmul (D.fsub (S45_0 D a0) (D.fc 4607182418800017408)) (S22_0 D a4)))))))))) (D.fmul (S46_1 D a5) (S28_0 D (D.fmax (D.fc 0) (D.fsub (D.fc 4607182418800017408) (D.fmul (S28_0 D (D.fdiv (D.fsub (D.fc 4607182418800017408) (S22_0 D a4)) (D.fadd (D.fc 4607182418800017408) (D.fmul (D.fsub (S45_0 D a0) (D.fc 4607182418800017408)) (S22_0 D a4))))) (S28_0 D (D.fdiv (D.fsub (D.fc 4607182418800017408) (S22_0 D a4)) (D.fadd (D.fc 4607182418800017408) (D.fmul (D.fsub (S45_0 D a0) (D.fc 4607182418800017408)) (S22_0 D a4)))))))))) (S28_0 D (D.fdiv (D.fsub (D.fc 4607182418800017408) (S22_0 D a4)) (D.fadd (D.fc 4607182418800017408) (D.fmul (D.fsub (S45_0 D a0) (D.fc 4607182418800017408)) (S22_0 D a4)))))) (D.fc 0))) (D.bc true) (D.bnot (S44_0 D a3 (S48_2 D (S49_2 D (S28_0 D (D.fdiv (D.fsub (D.fc 4607182418800017408) (S22_0 D a4)) (D.fadd (D.fc 4607182418800017408) (D.fmul (D.fsub (S45_0 D a0) (D.fc 4607182418800017408)) (S22_0 D a4))))) (D.fmul (D.fc 4611686018427387904) (S47_0 D a1 a2 a3 (D.fmul (S46_0 D a5) (S28_0 D (D.fmax (D.fc 0) (D.fsub (D.fc 4607182418800017408) (D.fmul (S28_0 D (D.fdiv (D.fsub (D.fc 4607182418800017408) (S22_0 D a4)) (D.fadd (D.fc 4607182418800017408) (D.fmul (D.fsub (S45_0 D a0) (D.fc 4607182418800017408)) (S22_0 D a4))))) (S28_0 D (D.fdiv (D.fsub (D.fc 4607182418800017408) (S22_0 D a4)) (D.fadd (D.fc 4607182418800017408) (D.fmul (D.fsub (S45_0 D a0) (D.fc 4607182418800017408)) (S22_0 D a4)))))))))) (D.fmul (S46_1 D a5) (S28_0 D (D.fmax (D.fc 0) (D.fsub (D.fc 4607182418800017408) (D.fmul (S28_0 D (D.fdiv (D.fsub (D.fc 4607182418800017408) (S22_0 D a4)) (D.fadd (D.fc 4607182418800017408) (D.fmul (D.fsub (S45_0 D a0) (D.fc 4607182418800017408)) (S22_0 D a4))))) (S28_0 D (D.fdiv (D.fsub (D.fc 4607182418800017408) (S22_0 D a4)) (D.fadd (D.fc 4607182418800017408) (D.fmul (D.fsub (S45_0 D a0) (D.fc 4607182418800017408)) (S22_0 D a4)))))))))) (S28_0 D (D.fdiv (D.fsub (D.fc 4607182418800017408) (S22_0 D a4)) (D.fadd (D.fc 4607182418800017408) (D.fmul (D.fsub (S45_0 D a0) (D.fc 4607182418800017408)) (S22_0 D a4)))))))) a3)))) (D.bc false) (D.bc true))
def O24 (D : Dom) (a5 : D.F) : D.B := (O46 D a5)
theorem ev24 (D : Dom) (a0 : D.F) (a1 : D.F) (a2 : D.F) (a3 : D.F) (a4 : D.F) (a5 : D.F) : joinT (evFn Try.prog (tbl_48 D) 60 24 [.fl a0, .agg [.fl a1, .fl a2, .fl a3], .fl a4, .fl a5]) = .val (some (O24 D a5)) (.tup [.agg [.fl (S24_0 D a0 a1 a2 a3 a4 a5), .fl (S24_1 D a0 a1 a2 a3 a4 a5), .fl (S24_2 D a0 a1 a2 a3 a4 a5)], .sb (S24_3 D a0 a1 a2 a3 a4 a5)]) := by kernel_rfl
def sp24 : Ev.Spec := fun D l => argF l fun a0 r0 => argA r0 fun c1 r1 => argF c1 fun a1 r2 => argF r2 fun a2 r3 => argF r3 fun a3 r4 => arg0 r4 (argF r1 fun a4 r101 => argF r101 fun a5 r102 => arg0 r102 (.node (O24 D a5) (.ret (.tup [.agg [.fl (S24_0 D a0 a1 a2 a3 a4 a5), .fl (S24_1 D a0 a1 a2 a3 a4 a5), .fl (S24_2 D a0 a1 a2 a3 a4 a5)], .sb (S24_3 D a0 a1 a2 a3 a4 a5)])) (.fail "pre")))
theorem en24 : ∀ l r, (sp24 R l).run = some r → Entry Try.prog 24 l r := by
  intro l r h
  obtain ⟨x0, _, h, L0⟩ := argF_inv h
  obtain ⟨_, _, h, L1⟩ := argA_inv h
  obtain ⟨x2, _, h, L2⟩ := argF_inv h
  obtain ⟨x3, _, h, L3⟩ := argF_inv h
  obtain ⟨x4, _, h, L4⟩ := argF_inv h
  obtain ⟨h, L5⟩ := arg0_inv h
  obtain ⟨x6, _, h, L6⟩ := argF_inv h
  obtain ⟨x7, _, h, L7⟩ := argF_inv h
  obtain ⟨h, L8⟩ := arg0_inv h
  obtain ⟨hok, rfl⟩ := run_okay h
  exact (entry_of prg tok_48 (ev24 R x0 x2 x3 x4 x6 x7) (fun o ho => (Option.some.inj ho) ▸ hok) rfl).le (L0 _ (L1 _ _ (L2 _ (L3 _ (L4 _ L5))) (L6 _ (L7 _ L8))))
def tl_24 : List (Nat × Ev.Spec) := (24, sp24) :: tl_48
def tbl_24 (D : Dom) : Tbl D := tblOf tl_24 D
theorem tok_24 : TblOK Try.prog (tbl_24 R) := TblOK.cons tok_48 en24

-- penumbra/bsdf.Sample
def S6_0 (D : Dom) (a0 : D.F) (a1 : D.F) (a2 : D.F) (a3 : D.F) (a4 : D.F) (a5 : D.F) (a6 : D.F) (a7 : D.F) (a8 : D.F) (a9 : D.F) (a10 : D.F) (a11 : D.F) (a12 : D.F) : D.F := (D.fite (D.band (D.flt (S22_0 D a10) (S10_0 D a0 a1 a2 a3 a4 a5)) (O23 D a12)) (S23_0 D a9 a11 a12) (S24_0 D a6 a7 a8 a9 a11 a12))
def S6_1 (D : Dom) (a0 : D.F) (a1 : D.F) (a2 : D.F) (a3 : D.F) (a4 : D.F) (a5 : D.F) (a6 : D.F) (a7 : D.F) (a8 : D.F) (a9 : D.F) (a10 : D.F) (a11 : D.F) (a12 : D.F) : D.F := (D.fite (D.band (D.flt (S22_0 D a10) (S10_0 D a0 a1 a2 a3 a4 a5)) (O23 D a12)) (S23_1 D a9 a11 a12) (S24_1 D a6 a7 a8 a9 a11 a12))
def S6_2 (D : Dom) (a0 : D.F) (a1 : D.F) (a2 : D.F) (a3 : D.F) (a4 : D.F) (a5 : D.F) (a6 : D.F) (a7 : D.F) (a8 : D.F) (a9 : D.F) (a10 : D.F) (a11 : D.F) (a12 : D.F) : D.F := (D.fite (D.band (D.flt (S22_0 D a10) (S10_0 D a0 a1 a2 a3 a4 a5)) (O23 D a12)) (S23_2 D a9 a11) (S24_2 D a6 a7 a8 a9 a11 a12))
def S6_3 (D : Dom) (a0 : D.F) (a1 : D.F) (a2 : D.F) (a3 : D.F) (a4 : D.F) (a5 : D.F) (a6 : D.F) (a7 : D.F) (a8 : D.F) (a9 : D.F) (a10 : D.F) (a11 : D.F) (a12 : D.F) : D.B := (D.bite (D.band (D.flt (S22_0 D a10) (S10_0 D a0 a1 a2 a3 a4 a5)) (O23 D a12)) (S23_3 D a9 a11) (S24_3 D a6 a7 a8 a9 a11 a12))
def O6 (D : Dom) (a0 : D.F) (a1 : D.F) (a2 : D.F) (a3 : D.F) (a4 : D.F) (a5 : D.F) (a10 : D.F) (a12 : D.F) : D.B := (D.band (O10 D a0 a1 a2 a3 a4 a5) (D.bite (D.band (D.flt (S22_0 D a10) (S10_0 D a0 a1 a2 a3 a4 a5)) (O23 D a12)) (D.bc true) (D.band (D.bnot (D.flt (S22_0 D a10) (S10_0 D a0 a1 a2 a3 a4 a5))) (O24 D a12))))
theorem ev6 (D : Dom) (a0 : D.F) (a1 : D.F) (a2 : D.F) (a3 : D.F) (a4 : D.F) (a5 : D.F) (a6 : D.F) (a7 : D.F) (a8 : D.F) (a9 : D.F) (a10 : D.F) (a11 : D.F) (a12 : D.F) : joinT (evFn Try.prog (tbl_24 D) 60 6 [.agg [.fl a0, .fl a1, .fl a2, .fl a3, .fl a4, .fl a5, .fl a6], .agg [.fl a7, .fl a8, .fl a9], .fl a10, .fl a11, .fl a12]) = .val (some (O6 D a0 a1 a2 a3 a4 a5 a10 a12)) (.tup [.agg [.fl (S6_0 D a0 a1 a2 a3 a4 a5 a6 a7 a8 a9 a10 a11 a12), .fl (S6_1 D a0 a1 a2 a3 a4 a5 a6 a7 a8 a9 a10 a11 a12), .fl (S6_2 D a0 a1 a2 a3 a4 a5 a6 a7 a8 a9 a10 a11 a12)], .sb (S6_3 D a0 a1 a2 a3 a4 a5 a6 a7 a8 a9 a10 a11 a12)]) := by kernel_rfl
def sp6 : Ev.Spec := fun D l => argA l fun c0 r0 => argF c0 fun a0 r1 => argF r1 fun a1 r2 => argF r2 fun a2 r3 => argF r3 fun a3 r4 => argF r4 fun a4 r5 => argF r5 fun a5 r6 => argF r6 fun a6 r7 => arg0 r7 (argA r0 fun c100 r100 => argF c100 fun a7 r101 => argF r101 fun a8 r102 => argF r102 fun a9 r103 => arg0 r103 (argF r100 fun a10 r200 => argF r200 fun a11 r201 => argF r201 fun a12 r202 => arg0 r202 (.node (O6 D a0 a1 a2 a3 a4 a5 a10 a12) (.ret (.tup [.agg [.fl (S6_0 D a0 a1 a2 a3 a4 a5 a6 a7 a8 a9 a10 a11 a12), .fl (S6_1 D a0 a1 a2 a3 a4 a5 a6 a7 a8 a9 a10 a11 a12), .fl (S6_2 D a0 a1 a2 a3 a4 a5 a6 a7 a8 a9 a10 a11 a12)], .sb (S6_3 D a0 a1 a2 a3 a4 a5 a6 a7 a8 a9 a10 a11 a12)])) (.fail "pre"))))
theorem en6 : ∀ l r, (sp6 R l).run = some r → Entry Try.prog 6 l r := by
  intro l r h
  obtain ⟨_, _, h, L0⟩ := argA_inv h
  obtain ⟨x1, _, h, L1⟩ := argF_inv h
  obtain ⟨x2, _, h, L2⟩ := argF_inv h
  obtain ⟨x3, _, h, L3⟩ := argF_inv h
  obtain ⟨x4, _, h, L4⟩ := argF_inv h
  obtain ⟨x5, _, h, L5⟩ := argF_inv h
  obtain ⟨x6, _, h, L6⟩ := argF_inv h
  obtain ⟨x7, _, h, L7⟩ := argF_inv h
  obtain ⟨h, L8⟩ := arg0_inv h
  obtain ⟨_, _, h, L9⟩ := argA_inv h
  obtain ⟨x10, _, h, L10⟩ := argF_inv h
  obtain ⟨x11, _, h, L11⟩ := argF_inv h
  obtain ⟨x12, _, h, L12⟩ := argF_inv h
  obtain ⟨h, L13⟩ := arg0_inv h
  obtain ⟨x14, _, h, L14⟩ := argF_inv h
  obtain ⟨x15, _, h, L15⟩ := argF_inv h
  obtain ⟨x16, _, h, L16⟩ := argF_inv h
  obtain ⟨h, L17⟩ := arg0_inv h
  obtain ⟨hok, rfl⟩ := run_okay h
  exact (entry_of prg tok_24 (ev6 R x1 x2 x3 x4 x5 x6 x7 x10 x11 x12 x14 x15 x16) (fun o ho => (Option.some.inj ho) ▸ hok) rfl).le (L0 _ _ (L1 _ (L2 _ (L3 _ (L4 _ (L5 _ (L6 _ (L7 _ L8))))))) (L9 _ _ (L10 _ (L11 _ (L12 _ L13))) (L14 _ (L15 _ (L16 _ L17)))))
def tl_6 : List (Nat × Ev.Spec) := (6, sp6) :: tl_24
def tbl_6 (D : Dom) : Tbl D := tblOf tl_6 D
theorem tok_6 : TblOK Try.prog (tbl_6 R) := TblOK.cons tok_24 en6

-- penumbra/penumbraref06.Clean
def S25_0 (D : Dom) (a0 : D.F) : D.F := (D.fite (D.bite (D.bite (D.flt a0 (D.fc 0)) (D.bc true) (D.fge a0 (D.fc 4607182418800017408))) (D.bc true) (D.bnot (D.feq a0 a0))) (D.fc 0) a0)
theorem ev25 (D : Dom) (a0 : D.F) : joinT (evFn Try.prog (tbl_6 D) 60 25 [.fl a0]) = .val none (.fl (S25_0 D a0)) := by kernel_rfl
def sp25 : Ev.Spec := fun D l => argF l fun a0 r0 => arg0 r0 (.ret (.fl (S25_0 D a0)))
theorem en25 : ∀ l r, (sp25 R l).run = some r → Entry Try.prog 25 l r := by
  intro l r h
  obtain ⟨x0, _, h, L0⟩ := argF_inv h
  obtain ⟨h, L1⟩ := arg0_inv h
  cases h
  exact (entry_of prg tok_6 (ev25 R x0) (fun o ho => nomatch ho) rfl).le (L0 _ L1)
def tl_25 : List (Nat × Ev.Spec) := (25, sp25) :: tl_6
def tbl_25 (D : Dom) : Tbl D := tblOf tl_25 D
theorem tok_25 : TblOK Try.prog (tbl_25 R) := TblOK.cons tok_6 en25

-- penumbra/penumbraref02.Number
def S79_0 (D : Dom) (a0 : D.F) : D.B := (D.feq (D.fsub a0 a0) (D.fc 0))
theorem ev79 (D : Dom) (a0 : D.F) : joinT (evFn Try.prog (tbl_25 D) 60 79 [.fl a0]) = .val none (.sb (S79_0 D a0)) := by kernel_rfl
def sp79 : Ev.Spec := fun D l => argF l fun a0 r0 => arg0 r0 (.ret (.sb (S79_0 D a0)))
theorem en79 : ∀ l r, (sp79 R l).run = some r → Entry Try.prog 79 l r := by
  intro l r h
  obtain ⟨x0, _, h, L0⟩ := argF_inv h
  obtain ⟨h, L1⟩ := arg0_inv h
  cases h
  exact (entry_of prg tok_25 (ev79 R x0) (fun o ho => nomatch ho) rfl).le (L0 _ L1)
def tl_79 : List (Nat × Ev.Spec) := (79, sp79) :: tl_25
def tbl_79 (D : Dom) : Tbl D := tblOf tl_79 D
theorem tok_79 : TblOK Try.prog (tbl_79 R) := TblOK.cons tok_25 en79

-- penumbra/penumbraref05.Good
def S59_0 (D : Dom) (a0 : D.F) (a1 : D.F) (a2 : D.F) : D.B := (D.bite (D.bite (D.bite (D.bite (D.bite (S79_0 D a0) (S79_0 D a1) (D.bc false)) (S79_0 D a2) (D.bc false)) (D.fge a0 (D.fc 0)) (D.bc false)) (D.fge a1 (D.fc 0)) (D.bc false)) (D.fge a2 (D.fc 0)) (D.bc false))
theorem ev59 (D : Dom) (a0 : D.F) (a1 : D.F) (a2 : D.F) : joinT (evFn Try.prog (tbl_79 D) 60 59 [.agg [.fl a0, .fl a1, .fl a2]]) = .val none (.sb (S59_0 D a0 a1 a2)) := by kernel_rfl
def sp59 : Ev.Spec := fun D l => argA l fun c0 r0 => argF c0 fun a0 r1 => argF r1 fun a1 r2 => argF r2 fun a2 r3 => arg0 r3 (arg0 r0 (.ret (.sb (S59_0 D a0 a1 a2))))
theorem en59 : ∀ l r, (sp59 R l).run = some r → Entry Try.prog 59 l r := by
  intro l r h
  obtain ⟨_, _, h, L0⟩ := argA_inv h
  obtain ⟨x1, _, h, L1⟩ := argF_inv h
  obtain ⟨x2, _, h, L2⟩ := argF_inv h
  obtain ⟨x3, _, h, L3⟩ := argF_inv h
  obtain ⟨h, L4⟩ := arg0_inv h
  obtain ⟨h, L5⟩ := arg0_inv h
  cases h
  exact (entry_of prg tok_79 (ev59 R x1 x2 x3) (fun o ho => nomatch ho) rfl).le (L0 _ _ (L1 _ (L2 _ (L3 _ L4))) L5)
def tl_59 : List (Nat × Ev.Spec) := (59, sp59) :: tl_79
def tbl_59 (D : Dom) : Tbl D := tblOf tl_59 D
theorem tok_59 : TblOK Try.prog (tbl_59 R) := TblOK.cons tok_79 en59

-- penumbra/penumbraref05.Mean
def S60_0 (D : Dom) (a0 : D.F) (a1 : D.F) (a2 : D.F) : D.F := (D.fdiv (D.fadd (D.fadd a0 a1) a2) (D.fc 4613937818241073152))
theorem ev60 (D : Dom) (a0 : D.F) (a1 : D.F) (a2 : D.F) : joinT (evFn Try.prog (tbl_59 D) 60 60 [.agg [.fl a0, .fl a1, .fl a2]]) = .val none (.fl (S60_0 D a0 a1 a2)) := by kernel_rfl
def sp60 : Ev.Spec := fun D l => argA l fun c0 r0 => argF c0 fun a0 r1 => argF r1 fun a1 r2 => argF r2 fun a2 r3 => arg0 r3 (arg0 r0 (.ret (.fl (S60_0 D a0 a1 a2))))
theorem en60 : ∀ l r, (sp60 R l).run = some r → Entry Try.prog 60 l r := by
  intro l r h
  obtain ⟨_, _, h, L0⟩ := argA_inv h
  obtain ⟨x1, _, h, L1⟩ := argF_inv h
  obtain ⟨x2, _, h, L2⟩ := argF_inv h
  obtain ⟨x3, _, h, L3⟩ := argF_inv h
  obtain ⟨h, L4⟩ := arg0_inv h
  obtain ⟨h, L5⟩ := arg0_inv h
  cases h
  exact (entry_of prg tok_59 (ev60 R x1 x2 x3) (fun o ho => nomatch ho) rfl).le (L0 _ _ (L1 _ (L2 _ (L3 _ L4))) L5)
def tl_60 : List (Nat × Ev.Spec) := (60, sp60) :: tl_59
def tbl_60 (D : Dom) : Tbl D := tblOf tl_60 D
theorem tok_60 : TblOK Try.prog (tbl_60 R) := TblOK.cons tok_59 en60

-- penumbra/penumbraref05.Weight
def S30_0 (D : Dom) (a0 : D.F) (a1 : D.F) (a2 : D.F) : D.Z := (D.zite (D.bite (D.bnot (S59_0 D a0 a1 a2)) (D.bc true) (D.bite (D.feq a0 (D.fc 0)) (D.bite (D.feq a1 (D.fc 0)) (D.feq a2 (D.fc 0)) (D.bc false)) (D.bc false))) (D.zc 0) (D.zite (D.fge (D.fmul (S60_0 D a0 a1 a2) (D.fc 4625196817309499392)) (D.fc 4697254411347427328)) (D.zc 1048576) (D.zite (D.flt (D.fmul (S60_0 D a0 a1 a2) (D.fc 4625196817309499392)) (D.fc 4607182418800017408)) (D.zc 1) (D.f2i .i64 (D.fmul (S60_0 D a0 a1 a2) (D.fc 4625196817309499392))))))
def O30 (D : Dom) (a0 : D.F) (a1 : D.F) (a2 : D.F) : D.B := (D.bite (D.bite (D.bnot (S59_0 D a0 a1 a2)) (D.bc true) (D.bite (D.feq a0 (D.fc 0)) (D.bite (D.feq a1 (D.fc 0)) (D.feq a2 (D.fc 0)) (D.bc false)) (D.bc false))) (D.bc true) (D.bite (D.fge (D.fmul (S60_0 D a0 a1 a2) (D.fc 4625196817309499392)) (D.fc 4697254411347427328)) (D.bc true) (D.bite (D.flt (D.fmul (S60_0 D a0 a1 a2) (D.fc 4625196817309499392)) (D.fc 4607182418800017408)) (D.bc true) (D.f2iok .i64 (D.fmul (S60_0 D a0 a1 a2) (D.fc 4625196817309499392))))))
theorem ev30 (D : Dom) (a0 : D.F) (a1 : D.F) (a2 : D.F) : joinT (evFn Try.prog (tbl_60 D) 60 30 [.agg [.fl a0, .fl a1, .fl a2]]) = .val (some (O30 D a0 a1 a2)) (.si .i64 (S30_0 D a0 a1 a2)) := by kernel_rfl
def sp30 : Ev.Spec := fun D l => argA l fun c0 r0 => argF c0 fun a0 r1 => argF r1 fun a1 r2 => argF r2 fun a2 r3 => arg0 r3 (arg0 r0 (.node (O30 D a0 a1 a2) (.ret (.si .i64 (S30_0 D a0 a1 a2))) (.fail "pre")))
theorem en30 : ∀ l r, (sp30 R l).run = some r → Entry Try.prog 30 l r := by
  intro l r h
  obtain ⟨_, _, h, L0⟩ := argA_inv h
  obtain ⟨x1, _, h, L1⟩ := argF_inv h
  obtain ⟨x2, _, h, L2⟩ := argF_inv h
  obtain ⟨x3, _, h, L3⟩ := argF_inv h
  obtain ⟨h, L4⟩ := arg0_inv h
  obtain ⟨h, L5⟩ := arg0_inv h
  obtain ⟨hok, rfl⟩ := run_okay h
  exact (entry_of prg tok_60 (ev30 R x1 x2 x3) (fun o ho => (Option.some.inj ho) ▸ hok) rfl).le (L0 _ _ (L1 _ (L2 _ (L3 _ L4))) L5)
def tl_30 : List (Nat × Ev.Spec) := (30, sp30) :: tl_60
def tbl_30 (D : Dom) : Tbl D := tblOf tl_30 D
theorem tok_30 : TblOK Try.prog (tbl_30 R) := TblOK.cons tok_60 en30

-- penumbra/penumbraref16.Share
def S12_0 (D : Dom) (a0 : D.F) (a1 : D.F) (a2 : D.F) (a3 : D.F) (a4 : D.F) (a5 : D.F) : D.F := (D.fite (D.bite (D.zeq (S30_0 D a0 a1 a2) (D.zc 0)) (D.zeq (S30_0 D a3 a4 a5) (D.zc 0)) (D.bc false)) (D.fc 4607182418800017408) (D.fdiv (D.i2f (S30_0 D a0 a1 a2)) (D.i2f (D.zadd .i64 (S30_0 D a0 a1 a2) (S30_0 D a3 a4 a5)))))
def O12 (D : Dom) (a0 : D.F) (a1 : D.F) (a2 : D.F) (a3 : D.F) (a4 : D.F) (a5 : D.F) : D.B := (D.band (O30 D a0 a1 a2) (O30 D a3 a4 a5))
theorem ev12 (D : Dom) (a0 : D.F) (a1 : D.F) (a2 : D.F) (a3 : D.F) (a4 : D.F) (a5 : D.F) (a6 : D.F) : joinT (evFn Try.prog (tbl_30 D) 60 12 [.agg [.fl a0, .fl a1, .fl a2, .fl a3, .fl a4, .fl a5, .fl a6]]) = .val (some (O12 D a0 a1 a2 a3 a4 a5)) (.fl (S12_0 D a0 a1 a2 a3 a4 a5)) := by kernel_rfl
def sp12 : Ev.Spec := fun D l => argA l fun c0 r0 => argF c0 fun a0 r1 => argF r1 fun a1 r2 => argF r2 fun a2 r3 => argF r3 fun a3 r4 => argF r4 fun a4 r5 => argF r5 fun a5 r6 => argF r6 fun _a6 r7 => arg0 r7 (arg0 r0 (.node (O12 D a0 a1 a2 a3 a4 a5) (.ret (.fl (S12_0 D a0 a1 a2 a3 a4 a5))) (.fail "pre")))
theorem en12 : ∀ l r, (sp12 R l).run = some r → Entry Try.prog 12 l r := by
  intro l r h
  obtain ⟨_, _, h, L0⟩ := argA_inv h
  obtain ⟨x1, _, h, L1⟩ := argF_inv h
  obtain ⟨x2, _, h, L2⟩ := argF_inv h
  obtain ⟨x3, _, h, L3⟩ := argF_inv h
  obtain ⟨x4, _, h, L4⟩ := argF_inv h
  obtain ⟨x5, _, h, L5⟩ := argF_inv h
  obtain ⟨x6, _, h, L6⟩ := argF_inv h
  obtain ⟨x7, _, h, L7⟩ := argF_inv h
  obtain ⟨h, L8⟩ := arg0_inv h
  obtain ⟨h, L9⟩ := arg0_inv h
  obtain ⟨hok, rfl⟩ := run_okay h
  exact (entry_of prg tok_30 (ev12 R x1 x2 x3 x4 x5 x6 x7) (fun o ho => (Option.some.inj ho) ▸ hok) rfl).le (L0 _ _ (L1 _ (L2 _ (L3 _ (L4 _ (L5 _ (L6 _ (L7 _ L8))))))) L9)
def tl_12 : List (Nat × Ev.Spec) := (12, sp12) :: tl_30
def tbl_12 (D : Dom) : Tbl D := tblOf tl_12 D
theorem tok_12 : TblOK Try.prog (tbl_12 R) := TblOK.cons tok_30 en12

-- penumbra/penumbraref15.Rough
def S50_0 (D : Dom) (a0 : D.F) : D.F := (D.fite (D.flt a0 (D.fc 4562146422526312448)) (D.fc 4562146422526312448) (D.fite (D.bite (D.fgt a0 (D.fc 4607182418800017408)) (D.bc true) (D.bnot (D.feq a0 a0))) (D.fc 4607182418800017408) a0))
theorem ev50 (D : Dom) (a0 : D.F) : joinT (evFn Try.prog (tbl_12 D) 60 50 [.fl a0]) = .val none (.fl (S50_0 D a0)) := by kernel_rfl
def sp50 : Ev.Spec := fun D l => argF l fun a0 r0 => arg0 r0 (.ret (.fl (S50_0 D a0)))
theorem en50 : ∀ l r, (sp50 R l).run = some r → Entry Try.prog 50 l r := by
  intro l r h
  obtain ⟨x0, _, h, L0⟩ := argF_inv h
  obtain ⟨h, L1⟩ := arg0_inv h
  cases h
  exact (entry_of prg tok_12 (ev50 R x0) (fun o ho => nomatch ho) rfl).le (L0 _ L1)
def tl_50 : List (Nat × Ev.Spec) := (50, sp50) :: tl_12
def tbl_50 (D : Dom) : Tbl D := tblOf tl_50 D
theorem tok_50 : TblOK Try.prog (tbl_50 R) := TblOK.cons tok_12 en50

-- penumbra/penumbraref09.Sector
def S51_0 (D : Dom) (a0 : D.F) : D.F := (D.fite (D.bite (D.zle (D.zc 2) (D.zite (D.fle (D.i2f (D.zc 1)) (D.fmul (D.fc 4620693217682128896) (S25_0 D a0))) (D.zite (D.fle (D.i2f (D.zc 2)) (D.fmul (D.fc 4620693217682128896) (S25_0 D a0))) (D.zite (D.fle (D.i2f (D.zc 3)) (D.fmul (D.fc 4620693217682128896) (S25_0 D a0))) (D.zite (D.fle (D.i2f (D.zc 4)) (D.fmul (D.fc 4620693217682128896) (S25_0 D a0))) (D.zite (D.fle (D.i2f (D.zc 5)) (D.fmul (D.fc 4620693217682128896) (S25_0 D a0))) (D.zite (D.fle (D.i2f (D.zc 6)) (D.fmul (D.fc 4620693217682128896) (S25_0 D a0))) (D.zite (D.fle (D.i2f (D.zc 7)) (D.fmul (D.fc 4620693217682128896) (S25_0 D a0))) (D.zc 7) (D.zc 6)) (D.zc 5)) (D.zc 4)) (D.zc 3)) (D.zc 2)) (D.zc 1)) (D.zc 0))) (D.zle (D.zite (D.fle (D.i2f (D.zc 1)) (D.fmul (D.fc 4620693217682128896) (S25_0 D a0))) (D.zite (D.fle (D.i2f (D.zc 2)) (D.fmul (D.fc 4620693217682128896) (S25_0 D a0))) (D.zite (D.fle (D.i2f (D.zc 3)) (D.fmul (D.fc 4620693217682128896) (S25_0 D a0))) (D.zite (D.fle (D.i2f (D.zc 4)) (D.fmul (D.fc 4620693217682128896) (S25_0 D a0))) (D.zite (D.fle (D.i2f (D.zc 5)) (D.fmul (D.fc 4620693217682128896) (S25_0 D a0))) (D.zite (D.fle (D.i2f (D.zc 6)) (D.fmul (D.fc 4620693217682128896) (S25_0 D a0))) (D.zite (D.fle (D.i2f (D.zc 7)) (D.fmul (D.fc 4620693217682128896) (S25_0 D a0))) (D.zc 7) (D.zc 6)) (D.zc 5)) (D.zc 4)) (D.zc 3)) (D.zc 2)) (D.zc 1)) (D.zc 0)) (D.zc 5)) (D.bc false)) (D.fsub (D.fc 0) (D.fite (D.bite (D.bite (D.bite (D.zeq (D.zite (D.fle (D.i2f (D.zc 1)) (D.fmul (D.fc 4620693217682128896) (S25_0 D a0))) (D.zite (D.fle (D.i2f (D.zc 2)) (D.fmul (D.fc 4620693217682128896) (S25_0 D a0))) (D.zite (D.fle (D.i2f (D.zc 3)) (D.fmul (D.fc 4620693217682128896) (S25_0 D a0))) (D.zite (D.fle (D.i2f (D.zc 4)) (D.fmul (D.fc 4620693217682128896) (S25_0 D a0))) (D.zite (D.fle (D.i2f (D.zc 5)) (D.fmul (D.fc 4620693217682128896) (S25_0 D a0))) (D.zite (D.fle (D.i2f (D.zc 6)) (D.fmul (D.fc 4620693217682128896) (S25_0 D a0))) (D.zite (D.fle (D.i2f (D.zc 7)) (D.fmul (D.fc 4620693217682128896) (S25_0 D a0))) (D.zc 7) (D.zc 6)) (D.zc 5)) (D.zc 4)) (D.zc 3)) (D.zc 2)) (D.zc 1)) (D.zc 0)) (D.zc 1)) (D.bc true) (D.zeq (D.zite (D.fle (D.i2f (D.zc 1)) (D.fmul (D.fc 4620693217682128896) (S25_0 D a0))) (D.zite (D.fle (D.i2f (D.zc 2)) (D.fmul (D.fc 4620693217682128896) (S25_0 D a0))) (D.zite (D.fle (D.i2f (D.zc 3)) (D.fmul (D.fc 4620693217682128896) (S25_0 D a0))) (D.zite (D.fle (D.i2f (D.zc 4)) (D.fmul (D.fc 4620693217682128896) (S25_0 D a0))) (D.zite (D.fle (D.i2f (D.zc 5)) (D.fmul (D.fc 4620693217682128896) (S25_0 D a0))) (D.zite (D.fle (D.i2f (D.zc 6)) (D.fmul (D.fc 4620693217682128896) (S25_0 D a0))) (D.zite (D.fle (D.i2f (D.zc 7)) (D.fmul (D.fc 4620693217682128896) (S25_0 D a0))) (D.zc 7) (D.zc 6)) (D.zc 5)) (D.zc 4)) (D.zc 3)) (D.zc 2)) (D.zc 1)) (D.zc 0)) (D.zc 2))) (D.bc true) (D.zeq (D.zite (D.fle (D.i2f (D.zc 1)) (D.fmul (D.fc 4620693217682128896) (S25_0 D a0))) (D.zite (D.fle (D.i2f (D.zc 2)) (D.fmul (D.fc 4620693217682128896) (S25_0 D a0))) (D.zite (D.fle (D.i2f (D.zc 3)) (D.fmul (D.fc 4620693217682128896) (S25_0 D a0))) (D.zite (D.fle (D.i2f (D.zc 4)) (D.fmul (D.fc 4620693217682128896) (S25_0 D a0))) (D.zite (D.fle (D.i2f (D.zc 5)) (D.fmul (D.fc 4620693217682128896) (S25_0 D a0))) (D.zite (D.fle (D.i2f (D.zc 6)) (D.fmul (D.fc 4620693217682128896) (S25_0 D a0))) (D.zite (D.fle (D.i2f (D.zc 7)) (D.fmul (D.fc 4620693217682128896) (S25_0 D a0))) (D.zc 7) (D.zc 6)) (D.zc 5)) (D.zc 4)) (D.zc 3)) (D.zc 2)) (D.zc 1)) (D.zc 0)) (D.zc 5))) (D.bc true) (D.zeq (D.zite (D.fle (D.i2f (D.zc 1)) (D.fmul (D.fc 4620693217682128896) (S25_0 D a0))) (D.zite (D.fle (D.i2f (D.zc 2)) (D.fmul (D.fc 4620693217682128896) (S25_0 D a0))) (D.zite (D.fle (D.i2f (D.zc 3)) (D.fmul (D.fc 4620693217682128896) (S25_0 D a0))) (D.zite (D.fle (D.i2f (D.zc 4)) (D.fmul (D.fc 4620693217682128896) (S25_0 D a0))) (D.zite (D.fle (D.i2f (D.zc 5)) (D.fmul (D.fc 4620693217682128896) (S25_0 D a0))) (D.zite (D.fle (D.i2f (D.zc 6)) (D.fmul (D.fc 4620693217682128896) (S25_0 D a0))) (D.zite (D.fle (D.i2f (D.zc 7)) (D.fmul (D.fc 4620693217682128896) (S25_0 D a0))) (D.zc 7) (D.zc 6)) (D.zc 5)) (D.zc 4)) (D.zc 3)) (D.zc 2)) (D.zc 1)) (D.zc 0)) (D.zc 6))) (D.fdiv (D.fsub (D.fmul (D.fc 4620693217682128896) (S25_0 D a0)) (D.i2f (D.zite (D.fle (D.i2f (D.zc 1)) (D.fmul (D.fc 4620693217682128896) (S25_0 D a0))) (D.zite (D.fle (D.i2f (D.zc 2)) (D.fmul (D.fc 4620693217682128896) (S25_0 D a0))) (D.zite (D.fle (D.i2f (D.zc 3)) (D.fmul (D.fc 4620693217682128896) (S25_0 D a0))) (D.zite (D.fle (D.i2f (D.zc 4)) (D.fmul (D.fc 4620693217682128896) (S25_0 D a0))) (D.zite (D.fle (D.i2f (D.zc 5)) (D.fmul (D.fc 4620693217682128896) (S25_0 D a0))) (D.zite (D.fle (D.i2f (D.zc 6)) (D.fmul (D.fc 4620693217682128896) (S25_0 D a0))) (D.zite (D.fle (D.i2f (D.zc 7)) (D.fmul (D.fc 4620693217682128896) (S25_0 D a0))) (D.zc 7) (D.zc 6)) (D.zc 5)) (D.zc 4)) (D.zc 3)) (D.zc 2)) (D.zc 1)) (D.zc 0)))) (S28_0 D (D.fadd (D.fc 4607182418800017408) (D.fmul (D.fsub (D.fmul (D.fc 4620693217682128896) (S25_0 D a0)) (D.i2f (D.zite (D.fle (D.i2f (D.zc 1)) (D.fmul (D.fc 4620693217682128896) (S25_0 D a0))) (D.zite (D.fle (D.i2f (D.zc 2)) (D.fmul (D.fc 4620693217682128896) (S25_0 D a0))) (D.zite (D.fle (D.i2f (D.zc 3)) (D.fmul (D.fc 4620693217682128896) (S25_0 D a0))) (D.zite (D.fle (D.i2f (D.zc 4)) (D.fmul (D.fc 4620693217682128896) (S25_0 D a0))) (D.zite (D.fle (D.i2f (D.zc 5)) (D.fmul (D.fc 4620693217682128896) (S25_0 D a0))) (D.zite (D.fle (D.i2f (D.zc 6)) (D.fmul (D.fc 4620693217682128896) (S25_0 D a0))) (D.zite (D.fle (D.i2f (D.zc 7)) (D.fmul (D.fc 4620693217682128896) (S25_0 D a0))) (D.zc 7) (D.zc 6)) (D.zc 5)) (D.zc 4)) (D.zc 3)) (D.zc 2)) (D.zc 1)) (D.zc 0)))) (D.fsub (D.fmul (D.fc 4620693217682128896) (S25_0 D a0)) (D.i2f (D.zite (D.fle (D.i2f (D.zc 1)) (D.fmul (D.fc 4620693217682128896) (S25_0 D a0))) (D.zite (D.fle (D.i2f (D.zc 2)) (D.fmul (D.fc 4620693217682128896) (S25_0 D a0))) (D.zite (D.fle (D.i2f (D.zc 3)) (D.fmul (D.fc 4620693217682128896) (S25_0 D a0))) (D.zite (D.fle (D.i2f (D.zc 4)) (D.fmul (D.fc 4620693217682128896) (S25_0 D a0))) (D.zite (D.fle (D.i2f (D.zc 5)) (D.fmul (D.fc 4620693217682128896) (S25_0 D a0))) (D.zite (D.fle (D.i2f (D.zc 6)) (D.fmul (D.fc 4620693217682128896) (S25_0 D a0))) (D.zite (D.fle (D.i2f (D.zc 7)) (D.fmul (D.fc 4620693217682128896) (S25_0 D a0))) (D.zc 7) (D.zc 6)) (D.zc 5)) (D.zc 4)) (D.zc 3)) (D.zc 2)) (D.zc 1)) (D.zc 0)))))))) (D.fdiv (D.fc 4607182418800017408) (S28_0 D (D.fadd (D.fc 4607182418800017408) (D.fmul (D.fsub (D.fmul (D.fc 4620693217682128896) (S25_0 D a0)) (D.i2f (D.zite (D.fle (D.i2f (D.zc 1)) (D.fmul (D.fc 4620693217682128896) (S25_0 D a0))) (D.zite (D.fle (D.i2f (D.zc 2)) (D.fmul (D.fc 4620693217682128896) (S25_0 D a0))) (D.zite (D.fle (D.i2f (D.zc 3)) (D.fmul (D.fc 4620693217682128896) (S25_0 D a0))) (D.zite (D.fle (D.i2f (D.zc 4)) (D.fmul (D.fc 4620693217682128896) (S25_0 D a0))) (D.zite (D.fle (D.i2f (D.zc 5)) (D.fmul (D.fc 4620693217682128896) (S25_0 D a0))) (D.zite (D.fle (D.i2f (D.zc 6)) (D.fmul (D.fc 4620693217682128896) (S25_0 D a0))) (D.zite (D.fle (D.i2f (D.zc 7)) (D.fmul (D.fc 4620693217682128896) (S25_0 D a0))) (D.zc 7) (D.zc 6)) (D.zc 5)) (D.zc 4)) (D.zc 3)) (D.zc 2)) (D.zc 1)) (D.zc 0)))) (D.fsub (D.fmul (D.fc 4620693217682128896) (S25_0 D a0)) (D.i2f (D.zite (D.fle (D.i2f (D.zc 1)) (D.fmul (D.fc 4620693217682128896) (S25_0 D a0))) (D.zite (D.fle (D.i2f (D.zc 2)) (D.fmul (D.fc 4620693217682128896) (S25_0 D a0))) (D.zite (D.fle (D.i2f (D.zc 3)) (D.fmul (D.fc 4620693217682128896) (S25_0 D a0))) (D.zite (D.fle (D.i2f (D.zc 4)) (D.fmul (D.fc 4620693217682128896) (S25_0 D a0))) (D.zite (D.fle (D.i2f (D.zc 5)) (D.fmul (D.fc 4620693217682128896) (S25_0 D a0))) (D.zite (D.fle (D.i2f (D.zc 6)) (D.fmul (D.fc 4620693217682128896) (S25_0 D a0))) (D.zite (D.fle (D.i2f (D.zc 7)) (D.fmul (D.fc 4620693217682128896) (S25_0 D a0))) (D.zc 7) (D.zc 6)) (D.zc 5)) (D.zc 4)) (D.zc 3)) (D.zc 2)) (D.zc 1)) (D.zc 0)))))))))) (D.fite (D.bite (D.bite (D.bite (D.zeq (D.zite (D.fle (D.i2f (D.zc 1)) (D.fmul (D.fc 4620693217682128896) (S25_0 D a0))) (D.zite (D.fle (D.i2f (D.zc 2)) (D.fmul (D.fc 4620693217682128896) (S25_0 D a0))) (D.zite (D.fle (D.i2f (D.zc 3)) (D.fmul (D.fc 4620693217682128896) (S25_0 D a0))) (D.zite (D.fle (D.i2f (D.zc 4)) (D.fmul (D.fc 4620693217682128896) (S25_0 D a0))) (D.zite (D.fle (D.i2f (D.zc 5)) (D.fmul (D.fc 4620693217682128896) (S25_0 D a0))) (D.zite (D.fle (D.i2f (D.zc 6)) (D.fmul (D.fc 4620693217682128896) (S25_0 D a0))) (D.zite (D.fle (D.i2f (D.zc 7)) (D.fmul (D.fc 4620693217682128896) (S25_0 D a0))) (D.zc 7) (D.zc 6)) (D.zc 5)) (D.zc 4)) (D.zc 3)) (D.zc 2)) (D.zc 1)) (D.zc 0)) (D.zc 1)) (D.bc true) (D.zeq (D.zite (D.fle (D.i2f (D.zc 1)) (D.fmul (D.fc 4620693217682128896) (S25_0 D a0))) (D.zite (D.fle (D.i2f (D.zc 2)) (D.fmul (D.fc 4620693217682128896) (S25_0 D a0))) (D.zite (D.fle (D.i2f (D.zc 3)) (D.fmul (D.fc 4620693217682128896) (S25_0 D a0))) (D.zite (D.fle (D.i2f (D.zc 4)) (D.fmul (D.fc 4620693217682128896) (S25_0 D a0))) (D.zite (D.fle (D.i2f (D.zc 5)) (D.fmul (D.fc 4620693217682128896) (S25_0 D a0))) (D.zite (D.fle (D.i2f (D.zc 6)) (D.fmul (D.fc 4620693217682128896) (S25_0 D a0))) (D.zite (D.fle (D.i2f (D.zc 7)) (D.fmul (D.fc 4620693217682128896) (S25_0 D a0))) (D.zc 7) (D.zc 6)) (D.zc 5)) (D.zc 4)) (D.zc 3)) (D.zc 2)) (D.zc 1)) (D.zc 0)) (D.zc 2))) (D.bc true) (D.zeq (D.zite (D.fle (D.i2f (D.zc 1)) (D.fmul (D.fc 4620693217682128896) (S25_0 D a0))) (D.zite (D.fle (D.i2f (D.zc 2)) (D.fmul (D.fc 4620693217682128896) (S25_0 D a0))) (D.zite (D.fle (D.i2f (D.zc 3)) (D.fmul (D.fc 4620693217682128896) (S25_0 D a0))) (D.zite (D.fle (D.i2f (D.zc 4)) (D.fmul (D.fc 4620693217682128896) (S25_0 D a0))) (D.zite (D.fle (D.i2f (D.zc 5)) (D.fmul (D.fc 4620693217682128896) (S25_0 D a0))) (D.zite (D.fle (D.i2f (D.zc 6)) (D.fmul (D.fc 4620693217682128896) (S25_0 D a0))) (D.zite (D.fle (D.i2f (D.zc 7)) (D.fmul (D.fc 4620693217682128896) (S25_0 D a0))) (D.zc 7) (D.zc 6)) (D.zc 5)) (D.zc 4)) (D.zc 3)) (D.zc 2)) (D.zc 1)) (D.zc 0)) (D.zc 5))) (D.bc true) (D.zeq (D.zite (D.fle (D.i2f (D.zc 1)) (D.fmul (D.fc 4620693217682128896) (S25_0 D a0))) (D.zite (D.fle (D.i2f (D.zc 2)) (D.fmul (D.fc 4620693217682128896) (S25_0 D a0))) (D.zite (D.fle (D.i2f (D.zc 3)) (D.fmul (D.fc 4620693217682128896) (S25_0 D a0))) (D.zite (D.fle (D.i2f (D.zc 4)) (D.fmul (D.fc 4620693217682128896) (S25_0 D a0))) (D.zite (D.fle (D.i2f (D.zc 5)) (D.fmul (D.fc 4620693217682128896) (S25_0 D a0))) (D.zite (D.fle (D.i2f (D.zc 6)) (D.fmul (D.fc 4620693217682128896) (S25_0 D a0))) (D.zite (D.fle (D.i2f (D.zc 7)) (D.fmul (D.fc 4620693217682128896) (S25_0 D a0))) (D.zc 7) (D.zc 6)) (D.zc 5)) (D.zc 4)) (D.zc 3)) (D.zc 2)) (D.zc 1)) (D.zc 0)) (D.zc 6))) (D.fdiv (D.fsub (D.fmul (D.fc 4620693217682128896) (S25_0 D a0)) (D.i2f (D.zite (D.fle (D.i2f (D.zc 1)) (D.fmul (D.fc 4620693217682128896) (S25_0 D a0))) (D.zite (D.fle (D.i2f (D.zc 2)) (D.fmul (D.fc 4620693217682128896) (S25_0 D a0))) (D.zite (D.fle (D.i2f (D.zc 3)) (D.fmul (D.fc 4620693217682128896) (S25_0 D a0))) (D.zite (D.fle (D.i2f (D.zc 4)) (D.fmul (D.fc 4620693217682128896) (S25_0 D a0))) (D.zite (D.fle (D.i2f (D.zc 5)) (D.fmul (D.fc 4620693217682128896) (S25_0 D a0))) (D.zite (D.fle (D.i2f (D.zc 6)) (D.fmul (D.fc 4620693217682128896) (S25_0 D a0))) (D.zite (D.fle (D.i2f (D.zc 7)) (D.fmul (D.fc 4620693217682128896) (S25_0 D a0))) (D.zc 7) (D.zc 6)) (D.zc 5)) (D.zc 4)) (D.zc 3)) (D.zc 2)) (D.zc 1)) (D.zc 0)))) (S28_0 D (D.fadd (D.fc 4607182418800017408) (D.fmul (D.fsub (D.fmul (D.fc 4620693217682128896) (S25_0 D a0)) (D.i2f (D.zite (D.fle (D.i2f (D.zc 1)) (D.fmul (D.fc 4620693217682128896) (S25_0 D a0))) (D.zite (D.fle (D.i2f (D.zc 2)) (D.fmul (D.fc 4620693217682128896) (S25_0 D a0))) (D.zite (D.fle (D.i2f (D.zc 3)) (D.fmul (D.fc 4620693217682128896) (S25_0 D a0))) (D.zite (D.fle (D.i2f (D.zc 4)) (D.fmul (D.fc 4620693217682128896) (S25_0 D a0))) (D.zite (D.fle (D.i2f (D.zc 5)) (D.fmul (D.fc 4620693217682128896) (S25_0 D a0))) (D.zite (D.fle (D.i2f (D.zc 6)) (D.fmul (D.fc 4620693217682128896) (S25_0 D a0))) (D.zite (D.fle (D.i2f (D.zc 7)) (D.fmul (D.fc 4620693217682128896) (S25_0 D a0))) (D.zc 7) (D.zc 6)) (D.zc 5)) (D.zc 4)) (D.zc 3)) (D.zc 2)) (D.zc 1)) (D.zc 0)))) (D.fsub (D.fmul (D.fc 4620693217682128896) (S25_0 D a0)) (D.i2f (D.zite (D.fle (D.i2f (D.zc 1)) (D.fmul (D.fc 4620693217682128896) (S25_0 D a0))) (D.zite (D.fle (D.i2f (D.zc 2)) (D.fmul (D.fc 4620693217682128896) (S25_0 D a0))) (D.zite (D.fle (D.i2f (D.zc 3)) (D.fmul (D.fc 4620693217682128896) (S25_0 D a0))) (D.zite (D.fle (D.i2f (D.zc 4)) (D.fmul (D.fc 4620693217682128896) (S25_0 D a0))) (D.zite (D.fle (D.i2f (D.zc 5)) (D.fmul (D.fc 4620693217682128896) (S25_0 D a0))) (D.zite (D.fle (D.i2f (D.zc 6)) (D.fmul (D.fc 4620693217682128896) (S25_0 D a0))) (D.zite (D.fle (D.i2f (D.zc 7)) (D.fmul (D.fc 4620693217682128896) (S25_0 D a0))) (D.zc 7) (D.zc 6)) (D.zc 5)) (D.zc 4)) (D.zc 3)) (D.zc 2)) (D.zc 1)) (D.zc 0)))))))) (D.fdiv (D.fc 4607182418800017408) (S28_0 D (D.fadd (D.fc 4607182418800017408) (D.fmul (D.fsub (D.fmul (D.fc 4620693217682128896) (S25_0 D a0)) (D.i2f (D.zite (D.fle (D.i2f (D.zc 1)) (D.fmul (D.fc 4620693217682128896) (S25_0 D a0))) (D.zite (D.fle (D.i2f (D.zc 2)) (D.fmul (D.fc 4620693217682128896) (S25_0 D a0))) (D.zite (D.fle (D.i2f (D.zc 3)) (D.fmul (D.fc 4620693217682128896) (S25_0 D a0))) (D.zite (D.fle (D.i2f (D.zc 4)) (D.fmul (D.fc 4620693217682128896) (S25_0 D a0))) (D.zite (D.fle (D.i2f (D.zc 5)) (D.fmul (D.fc 4620693217682128896) (S25_0 D a0))) (D.zite (D.fle (D.i2f (D.zc 6)) (D.fmul (D.fc 4620693217682128896) (S25_0 D a0))) (D.zite (D.fle (D.i2f (D.zc 7)) (D.fmul (D.fc 4620693217682128896) (S25_0 D a0))) (D.zc 7) (D.zc 6)) (D.zc 5)) (D.zc 4)) (D.zc 3)) (D.zc 2)) (D.zc 1)) (D.zc 0)))) (D.fsub (D.fmul (D.fc 4620693217682128896) (S25_0 D a0)) (D.i2f (D.zite (D.fle (D.i2f (D.zc 1)) (D.fmul (D.fc 4620693217682128896) (S25_0 D a0))) (D.zite (D.fle (D.i2f (D.zc 2)) (D.fmul (D.fc 4620693217682128896) (S25_0 D a0))) (D.zite (D.fle (D.i2f (D.zc 3)) (D.fmul (D.fc 4620693217682128896) (S25_0 D a0))) (D.zite (D.fle (D.i2f (D.zc 4)) (D.fmul (D.fc 4620693217682128896) (S25_0 D a0))) (D.zite (D.fle (D.i2f (D.zc 5)) (D.fmul (D.fc 4620693217682128896) (S25_0 D a0))) (D.zite (D.fle (D.i2f (D.zc 6)) (D.fmul (D.fc 4620693217682128896) (S25_0 D a0))) (D.zite (D.fle (D.i2f (D.zc 7)) (D.fmul (D.fc 4620693217682128896) (S25_0 D a0))) (D.zc 7) (D.zc 6)) (D.zc 5)) (D.zc 4)) (D.zc 3)) (D.zc 2)) (D.zc 1)) (D.zc 0))))))))))
def S51_1 (D : Dom) (a0 : D.F) : D.F := (D.fite (D.zle (D.zc 4) (D.zite (D.fle (D.i2f (D.zc 1)) (D.fmul (D.fc 4620693217682128896) (S25_0 D a0))) (D.zite (D.fle (D.i2f (D.zc 2)) (D.fmul (D.fc 4620693217682128896) (S25_0 D a0))) (D.zite (D.fle (D.i2f (D.zc 3)) (D.fmul (D.fc 4620693217682128896) (S25_0 D a0))) (D.zite (D.fle (D.i2f (D.zc 4)) (D.fmul (D.fc 4620693217682128896) (S25_0 D a0))) (D.zite (D.fle (D.i2f (D.zc 5)) (D.fmul (D.fc 4620693217682128896) (S25_0 D a0))) (D.zite (D.fle (D.i2f (D.zc 6)) (D.fmul (D.fc 4620693217682128896) (S25_0 D a0))) (D.zite (D.fle (D.i2f (D.zc 7)) (D.fmul (D.fc 4620693217682128896) (S25_0 D a0))) (D.zc 7) (D.zc 6)) (D.zc 5)) (D.zc 4)) (D.zc 3)) (D.zc 2)) (D.zc 1)) (D.zc 0))) (D.fsub (D.fc 0) (D.fite (D.bite (D.bite (D.bite (D.zeq (D.zite (D.fle (D.i2f (D.zc 1)) (D.fmul (D.fc 4620693217682128896) (S25_0 D a0))) (D.zite (D.fle (D.i2f (D.zc 2)) (D.fmul (D.fc 4620693217682128896) (S25_0 D a0))) (D.zite (D.fle (D.i2f (D.zc 3)) (D.fmul (D.fc 4620693217682128896) (S25_0 D a0))) (D.zite (D.fle (D.i2f (D.zc 4)) (D.fmul (D.fc 4620693217682128896) (S25_0 D a0))) (D.zite (D.fle (D.i2f (D.zc 5)) (D.fmul (D.fc 4620693217682128896) (S25_0 D a0))) (D.zite (D.fle (D.i2f (D.zc 6)) (D.fmul (D.fc 4620693217682128896) (S25_0 D a0))) (D.zite (D.fle (D.i2f (D.zc 7)) (D.fmul (D.fc 4620693217682128896) (S25_0 D a0))) (D.zc 7) (D.zc 6)) (D.zc 5)) (D.zc 4)) (D.zc 3)) (D.zc 2)) (D.zc 1)) (D.zc 0)) (D.zc 1)) (D.bc true) (D.zeq (D.zite (D.fle (D.i2f (D.zc 1)) (D.fmul (D.fc 4620693217682128896) (S25_0 D a0))) (D.zite (D.fle (D.i2f (D.zc 2)) (D.fmul (D.fc 4620693217682128896) (S25_0 D a0))) (D.zite (D.fle (D.i2f (D.zc 3)) (D.fmul (D.fc 4620693217682128896) (S25_0 D a0))) (D.zite (D.fle (D.i2f (D.zc 4)) (D.fmul (D.fc 4620693217682128896) (S25_0 D a0))) (D.zite (D.fle (D.i2f (D.zc 5)) (D.fmul (D.fc 4620693217682128896) (S25_0 D a0))) (D.zite (D.fle (D.i2f (D.zc 6)) (D.fmul (D.fc 4620693217682128896) (S25_0 D a0))) (D.zite (D.fle (D.i2f (D.zc 7)) (D.fmul (D.fc 4620693217682128896) (S25_0 D a0))) (D.zc 7) (D.zc 6)) (D.zc 5)) (D.zc 4)) (D.zc 3)) (D.zc 2)) (D.zc 1)) (D.zc 0)) (D.zc 2))) (D.bc true) (D.zeq (D.zite (D.fle (D.i2f (D.zc 1)) (D.fmul (D.fc 4620693217682128896) (S25_0 D a0))) (D.zite (D.fle (D.i2f (D.zc 2)) (D.fmul (D.fc 4620693217682128896) (S25_0 D a0))) (D.zite (D.fle (D.i2f (D.zc 3)) (D.fmul (D.fc 4620693217682128896) (S25_0 D a0))) (D.zite (D.fle (D.i2f (D.zc 4)) (D.fmul (D.fc 4620693217682128896) (S25_0 D a0))) (D.zite (D.fle (D.i2f (D.zc 5)) (D.fmul (D.fc 4620693217682128896) (S25_0 D a0))) (D.zite (D.fle (D.i2f (D.zc 6)) (D.fmul (D.fc 4620693217682128896) (S25_0 D a0))) (D.zite (D.fle (D.i2f (D.zc 7)) (D.fmul (D.fc 4620693217682128896) (S25_0 D a0))) (D.zc 7) (D.zc 6)) (D.zc 5)) (D.zc 4)) (D.zc 3)) (D.zc 2)) (D.zc 1)) (D.zc 0)) (D.zc 5))) (D.bc true) (D.zeq (D.zite (D.fle (D.i2f (D.zc 1)) (D.fmul (D.fc 4620693217682128896) (S25_0 D a0))) (D.zite (D.fle (D.i2f (D.zc 2)) (D.fmul (D.fc 4620693217682128896) (S25_0 D a0))) (D.zite (D.fle (D.i2f (D.zc 3)) (D.fmul (D.fc 4620693217682128896) (S25_0 D a0))) (D.zite (D.fle (D.i2f (D.zc 4)) (D.fmul (D.fc 4620693217682128896) (S25_0 D a0))) (D.zite (D.fle (D.i2f (D.zc 5)) (D.fmul (D.fc 4620693217682128896) (S25_0 D a0))) (D.zite (D.fle (D.i2f (D.zc 6)) (D.fmul (D.fc 4620693217682128896) (S25_0 D a0))) (D.zite (D.fle (D.i2f (D.zc 7)) (D.fmul (D.fc 4620693217682128896) (S25_0 D a0))) (D.zc 7) (D.zc 6)) (D.zc 5)) (D.zc 4)) (D.zc 3)) (D.zc 2)) (D.zc 1)) (D.zc 0)) (D.zc 6))) (D.fdiv (D.fc 4607182418800017408) (S28_0 D (D.fadd (D.fc 4607182418800017408) (D.fmul (D.fsub (D.fmul (D.fc 4620693217682128896) (S25_0 D a0)) (D.i2f (D.zite (D.fle (D.i2f (D.zc 1)) (D.fmul (D.fc 4620693217682128896) (S25_0 D a0))) (D.zite (D.fle (D.i2f (D.zc 2)) (D.fmul (D.fc 4620693217682128896) (S25_0 D a0))) (D.zite (D.fle (D.i2f (D.zc 3)) (D.fmul (D.fc 4620693217682128896) (S25_0 D a0))) (D.zite (D.fle (D.i2f (D.zc 4)) (D.fmul (D.fc 4620693217682128896) (S25_0 D a0))) (D.zite (D.fle (D.i2f (D.zc 5)) (D.fmul (D.fc 4620693217682128896) (S25_0 D a0))) (D.zite (D.fle (D.i2f (D.zc 6)) (D.fmul (D.fc 4620693217682128896) (S25_0 D a0))) (D.zite (D.fle (D.i2f (D.zc 7)) (D.fmul (D.fc 4620693217682128896) (S25_0 D a0))) (D.zc 7) (D.zc 6)) (D.zc 5)) (D.zc 4)) (D.zc 3)) (D.zc 2)) (D.zc 1)) (D.zc 0)))) (D.fsub (D.fmul (D.fc 4620693217682128896) (S25_0 D a0)) (D.i2f (D.zite (D.fle (D.i2f (D.zc 1)) (D.fmul (D.fc 4620693217682128896) (S25_0 D a0))) (D.zite (D.fle (D.i2f (D.zc 2)) (D.fmul (D.fc 4620693217682128896) (S25_0 D a0))) (D.zite (D.fle (D.i2f (D.zc 3)) (D.fmul (D.fc 4620693217682128896) (S25_0 D a0))) (D.zite (D.fle (D.i2f (D.zc 4)) (D.fmul (D.fc 4620693217682128896) (S25_0 D a0))) (D.zite (D.fle (D.i2f (D.zc 5)) (D.fmul (D.fc 4620693217682128896) (S25_0 D a0))) (D.zite (D.fle (D.i2f (D.zc 6)) (D.fmul (D.fc 4620693217682128896) (S25_0 D a0))) (D.zite (D.fle (D.i2f (D.zc 7)) (D.fmul (D.fc 4620693217682128896) (S25_0 D a0))) (D.zc 7) (D.zc 6)) (D.zc 5)) (D.zc 4)) (D.zc 3)) (D.zc 2)) (D.zc 1)) (D.zc 0)))))))) (D.fdiv (D.fsub (D.fmul (D.fc 4620693217682128896) (S25_0 D a0)) (D.i2f (D.zite (D.fle (D.i2f (D.zc 1)) (D.fmul (D.fc 4620693217682128896) (S25_0 D a0))) (D.zite (D.fle (D.i2f (D.zc 2)) (D.fmul (D.fc 4620693217682128896) (S25_0 D a0))) (D.zite (D.fle (D.i2f (D.zc 3)) (D.fmul (D.fc 4620693217682128896) (S25_0 D a0))) (D.zite (D.fle (D.i2f (D.zc 4)) (D.fmul (D.fc 4620693217682128896) (S25_0 D a0))) (D.zite (D.fle (D.i2f (D.zc 5)) (D.fmul (D.fc 4620693217682128896) (S25_0 D a0))) (D.zite (D.fle (D.i2f (D.zc 6)) (D.fmul (D.fc 4620693217682128896) (S25_0 D a0))) (D.zite (D.fle (D.i2f (D.zc 7)) (D.fmul (D.fc 4620693217682128896) (S25_0 D a0))) (D.zc 7) (D.zc 6)) (D.zc 5)) (D.zc 4)) (D.zc 3)) (D.zc 2)) (D.zc 1)) (D.zc 0)))) (S28_0 D (D.fadd (D.fc 4607182418800017408) (D.fmul (D.fsub (D.fmul (D.fc 4620693217682128896) (S25_0 D a0)) (D.i2f (D.zite (D.fle (D.i2f (D.zc 1)) (D.fmul (D.fc 4620693217682128896) (S25_0 D a0))) (D.zite (D.fle (D.i2f (D.zc 2)) (D.fmul (D.fc 4620693217682128896) (S25_0 D a0))) (D.zite (D.fle (D.i2f (D.zc 3)) (D.fmul (D.fc 4620693217682128896) (S25_0 D a0))) (D.zite (D.fle (D.i2f (D.zc 4)) (D.fmul (D.fc 4620693217682128896) (S25_0 D a0))) (D.zite (D.fle (D.i2f (D.zc 5)) (D.fmul (D.fc 4620693217682128896) (S25_0 D a0))) (D.zite (D.fle (D.i2f (D.zc 6)) (D.fmul (D.fc 4620693217682128896) (S25_0 D a0))) (D.zite (D.fle (D.i2f (D.zc 7)) (D.fmul (D.fc 4620693217682128896) (S25_0 D a0))) (D.zc 7) (D.zc 6)) (D.zc 5)) (D.zc 4)) (D.zc 3)) (D.zc 2)) (D.zc 1)) (D.zc 0)))) (D.fsub (D.fmul (D.fc 4620693217682128896) (S25_0 D a0)) (D.i2f (D.zite (D.fle (D.i2f (D.zc 1)) (D.fmul (D.fc 4620693217682128896) (S25_0 D a0))) (D.zite (D.fle (D.i2f (D.zc 2)) (D.fmul (D.fc 4620693217682128896) (S25_0 D a0))) (D.zite (D.fle (D.i2f (D.zc 3)) (D.fmul (D.fc 4620693217682128896) (S25_0 D a0))) (D.zite (D.fle (D.i2f (D.zc 4)) (D.fmul (D.fc 4620693217682128896) (S25_0 D a0))) (D.zite (D.fle (D.i2f (D.zc 5)) (D.fmul (D.fc 4620693217682128896) (S25_0 D a0))) (D.zite (D.fle (D.i2f (D.zc 6)) (D.fmul (D.fc 4620693217682128896) (S25_0 D a0))) (D.zite (D.fle (D.i2f (D.zc 7)) (D.fmul (D.fc 4620693217682128896) (S25_0 D a0))) (D.zc 7) (D.zc 6)) (D.zc 5)) (D.zc 4)) (D.zc 3)) (D.zc 2)) (D.zc 1)) (D.zc 0)))))))))) (D.fite (D.bite (D.bite (D.bite (D.zeq (D.zite (D.fle (D.i2f (D.zc 1)) (D.fmul (D.fc 4620693217682128896) (S25_0 D a0))) (D.zite (D.fle (D.i2f (D.zc 2)) (D.fmul (D.fc 4620693217682128896) (S25_0 D a0))) (D.zite (D.fle (D.i2f (D.zc 3)) (D.fmul (D.fc 4620693217682128896) (S25_0 D a0))) (D.zite (D.fle (D.i2f (D.zc 4)) (D.fmul (D.fc 4620693217682128896) (S25_0 D a0))) (D.zite (D.fle (D.i2f (D.zc 5)) (D.fmul (D.fc 4620693217682128896) (S25_0 D a0))) (D.zite (D.fle (D.i2f (D.zc 6)) (D.fmul (D.fc 4620693217682128896) (S25_0 D a0))) (D.zite (D.fle (D.i2f (D.zc 7)) (D.fmul (D.fc 4620693217682128896) (S25_0 D a0))) (D.zc 7) (D.zc 6)) (D.zc 5)) (D.zc 4)) (D.zc 3)) (D.zc 2)) (D.zc 1)) (D.zc 0)) (D.zc 1)) (D.bc true) (D.zeq (D.zite (D.fle (D.i2f (D.zc 1)) (D.fmul (D.fc 4620693217682128896) (S25_0 D a0))) (D.zite (D.fle (D.i2f (D.zc 2)) (D.fmul (D.fc 4620693217682128896) (S25_0 D a0))) (D.zite (D.fle (D.i2f (D.zc 3)) (D.fmul (D.fc 4620693217682128896) (S25_0 D a0))) (D.zite (D.fle (D.i2f (D.zc 4)) (D.fmul (D.fc 4620693217682128896) (S25_0 D a0))) (D.zite (D.fle (D.i2f (D.zc 5)) (D.fmul (D.fc 4620693217682128896) (S25_0 D a0))) (D.zite (D.fle (D.i2f (D.zc 6)) (D.fmul (D.fc 4620693217682128896) (S25_0 D a0))) (D.zite (D.fle (D.i2f (D.zc 7)) (D.fmul (D.fc 4620693217682128896) (S25_0 D a0))) (D.zc 7) (D.zc 6)) (D.zc 5)) (D.zc 4)) (D.zc 3)) (D.zc 2)) (D.zc 1)) (D.zc 0)) (D.zc 2))) (D.bc true) (D.zeq (D.zite (D.fle (D.i2f (D.zc 1)) (D.fmul (D.fc 4620693217682128896) (S25_0 D a0))) (D.zite (D.fle (D.i2f (D.zc 2)) (D.fmul (D.fc 4620693217682128896) (S25_0 D a0))) (D.zite (D.fle (D.i2f (D.zc 3)) (D.fmul (D.fc 4620693217682128896) (S25_0 D a0))) (D.zite (D.fle (D.i2f (D.zc 4)) (D.fmul (D.fc 4620693217682128896) (S25_0 D a0))) (D.zite (D.fle (D.i2f (D.zc 5)) (D.fmul (D.fc 4620693217682128896) (S25_0 D a0))) (D.zite (D.fle (D.i2f (D.zc 6)) (D.fmul (D.fc 4620693217682128896) (S25_0 D a0))) (D.zite (D.fle (D.i2f (D.zc 7)) (D.fmul (D.fc 4620693217682128896) (S25_0 D a0))) (D.zc 7) (D.zc 6)) (D.zc 5)) (D.zc 4)) (D.zc 3)) (D.zc 2)) (D.zc 1)) (D.zc 0)) (D.zc 5))) (D.bc true) (D.zeq (D.zite (D.fle (D.i2f (D.zc 1)) (D.fmul (D.fc 4620693217682128896) (S25_0 D a0))) (D.zite (D.fle (D.i2f (D.zc 2)) (D.fmul (D.fc 4620693217682128896) (S25_0 D a0))) (D.zite (D.fle (D.i2f (D.zc 3)) (D.fmul (D.fc 4620693217682128896) (S25_0 D a0))) (D.zite (D.fle (D.i2f (D.zc 4)) (D.fmul (D.fc 4620693217682128896) (S25_0 D a0))) (D.zite (D.fle (D.i2f (D.zc 5)) (D.fmul (D.fc 4620693217682128896) (S25_0 D a0))) (D.zite (D.fle (D.i2f (D.zc 6)) (D.fmul (D.fc 4620693217682128896) (S25_0 D a0))) (D.zite (D.fle (D.i2f (D.zc 7)) (D.fmul (D.fc 4620693217682128896) (S25_0 D a0))) (D.zc 7) (D.zc 6)) (D.zc 5)) (D.zc 4)) (D.zc 3)) (D.zc 2)) (D.zc 1)) (D.zc 0)) (D.zc 6))) (D.fdiv (D.fc 4607182418800017408) (S28_0 D (D.fadd (D.fc 4607182418800017408) (D.fmul (D.fsub (D.fmul (D.fc 4620693217682128896) (S25_0 D a0)) (D.i2f (D.zite (D.fle (D.i2f (D.zc 1)) (D.fmul (D.fc 4620693217682128896) (S25_0 D a0))) (D.zite (D.fle (D.i2f (D.zc 2)) (D.fmul (D.fc 4620693217682128896) (S25_0 D a0))) (D.zite (D.fle (D.i2f (D.zc 3)) (D.fmul (D.fc 4620693217682128896) (S25_0 D a0))) (D.zite (D.fle (D.i2f (D.zc 4)) (D.fmul (D.fc 4620693217682128896) (S25_0 D a0))) (D.zite (D.fle (D.i2f (D.zc 5)) (D.fmul (D.fc 4620693217682128896) (S25_0 D a0))) (D.zite (D.fle (D.i2f (D.zc 6)) (D.fmul (D.fc 4620693217682128896) (S25_0 D a0))) (D.zite (D.fle (D.i2f (D.zc 7)) (D.fmul (D.fc 4620693217682128896) (S25_0 D a0))) (D.zc 7) (D.zc 6)) (D.zc 5)) (D.zc 4)) (D.zc 3)) (D.zc 2)) (D.zc 1)) (D.zc 0)))) (D.fsub (D.fmul (D.fc 4620693217682128896) (S25_0 D a0)) (D.i2f (D.zite (D.fle (D.i2f (D.zc 1)) (D.fmul (D.fc 4620693217682128896) (S25_0 D a0))) (D.zite (D.fle (D.i2f (D.zc 2)) (D.fmul (D.fc 4620693217682128896) (S25_0 D a0))) (D.zite (D.fle (D.i2f (D.zc 3)) (D.fmul (D.fc 4620693217682128896) (S25_0 D a0))) (D.zite (D.fle (D.i2f (D.zc 4)) (D.fmul (D.fc 4620693217682128896) (S25_0 D a0))) (D.zite (D.fle (D.i2f (D.zc 5)) (D.fmul (D.fc 4620693217682128896) (S25_0 D a0))) (D.zite (D.fle (D.i2f (D.zc 6)) (D.fmul (D.fc 4620693217682128896) (S25_0 D a0))) (D.zite (D.fle (D.i2f (D.zc 7)) (D.fmul (D.fc 4620693217682128896) (S25_0 D a0))) (D.zc 7) (D.zc 6)) (D.zc 5)) (D.zc 4)) (D.zc 3)) (D.zc 2)) (D.zc 1)) (D.zc 0)))))))) (D.fdiv (D.fsub (D.fmul (D.fc 4620693217682128896) (S25_0 D a0)) (D.i2f (D.zite (D.fle (D.i2f (D.zc 1)) (D.fmul (D.fc 4620693217682128896) (S25_0 D a0))) (D.zite (D.fle (D.i2f (D.zc 2)) (D.fmul (D.fc 4620693217682128896) (S25_0 D a0))) (D.zite (D.fle (D.i2f (D.zc 3)) (D.fmul (D.fc 4620693217682128896) (S25_0 D a0))) (D.zite (D.fle (D.i2f (D.zc 4)) (D.fmul (D.fc 4620693217682128896) (S25_0 D a0))) (D.zite (D.fle (D.i2f (D.zc 5)) (D.fmul (D.fc 4620693217682128896) (S25_0 D a0))) (D.zite (D.fle (D.i2f (D.zc 6)) (D.fmul (D.fc 4620693217682128896) (S25_0 D a0))) (D.zite (D.fle (D.i2f (D.zc 7)) (D.fmul (D.fc 4620693217682128896) (S25_0 D a0))) (D.zc 7) (D.zc 6)) (D.zc 5)) (D.zc 4)) (D.zc 3)) (D.zc 2)) (D.zc 1)) (D.zc 0)))) (S28_0 D (D.fadd (D.fc 4607182418800017408) (D.fmul (D.fsub (D.fmul (D.fc 4620693217682128896) (S25_0 D a0)) (D.i2f (D.zite (D.fle (D.i2f (D.zc 1)) (D.fmul (D.fc 4620693217682128896) (S25_0 D a0))) (D.zite (D.fle (D.i2f (D.zc 2)) (D.fmul (D.fc 4620693217682128896) (S25_0 D a0))) (D.zite (D.fle (D.i2f (D.zc 3)) (D.fmul (D.fc 4620693217682128896) (S25_0 D a0))) (D.zite (D.fle (D.i2f (D.zc 4)) (D.fmul (D.fc 4620693217682128896) (S25_0 D a0))) (D.zite (D.fle (D.i2f (D.zc 5)) (D.fmul (D.fc 4620693217682128896) (S25_0 D a0))) (D.zite (D.fle (D.i2f (D.zc 6)) (D.fmul (D.fc 4620693217682128896) (S25_0 D a0))) (D.zite (D.fle (D.i2f (D.zc 7)) (D.fmul (D.fc 4620693217682128896) (S25_0 D a0))) (D.zc 7) (D.zc 6)) (D.zc 5)) (D.zc 4)) (D.zc 3)) (D.zc 2)) (D.zc 1)) (D.zc 0)))) (D.fsub (D.fmul (D.fc 4620693217682128896) (S25_0 D a0)) (D.i2f (D.zite (D.fle (D.i2f (D.zc 1)) (D.fmul (D.fc 4620693217682128896) (S25_0 D a0))) (D.zite (D.fle (D.i2f (D.zc 2)) (D.fmul (D.fc 4620693217682128896) (S25_0 D a0))) (D.zite (D.fle (D.i2f (D.zc 3)) (D.fmul (D.fc 4620693217682128896) (S25_0 D a0))) (D.zite (D.fle (D.i2f (D.zc 4)) (D.fmul (D.fc 4620693217682128896) (S25_0 D a0))) (D.zite (D.fle (D.i2f (D.zc 5)) (D.fmul (D.fc 4620693217682128896) (S25_0 D a0))) (D.zite (D.fle (D.i2f (D.zc 6)) (D.fmul (D.fc 4620693217682128896) (S25_0 D a0))) (D.zite (D.fle (D.i2f (D.zc 7)) (D.fmul (D.fc 4620693217682128896) (S25_0 D a0))) (D.zc 7) (D.zc 6)) (D.zc 5)) (D.zc 4)) (D.zc 3)) (D.zc 2)) (D.zc 1)) (D.zc 0))))))))))
def S51_2 (D : Dom) (a0 : D.F) : D.F := (D.fmul (D.fadd (D.fc 4607182418800017408) (D.fmul (D.fsub (D.fmul (D.fc 4620693217682128896) (S25_0 D a0)) (D.i2f (D.zite (D.fle (D.i2f (D.zc 1)) (D.fmul (D.fc 4620693217682128896) (S25_0 D a0))) (D.zite (D.fle (D.i2f (D.zc 2)) (D.fmul (D.fc 4620693217682128896) (S25_0 D a0))) (D.zite (D.fle (D.i2f (D.zc 3)) (D.fmul (D.fc 4620693217682128896) (S25_0 D a0))) (D.zite (D.fle (D.i2f (D.zc 4)) (D.fmul (D.fc 4620693217682128896) (S25_0 D a0))) (D.zite (D.fle (D.i2f (D.zc 5)) (D.fmul (D.fc 4620693217682128896) (S25_0 D a0))) (D.zite (D.fle (D.i2f (D.zc 6)) (D.fmul (D.fc 4620693217682128896) (S25_0 D a0))) (D.zite (D.fle (D.i2f (D.zc 7)) (D.fmul (D.fc 4620693217682128896) (S25_0 D a0))) (D.zc 7) (D.zc 6)) (D.zc 5)) (D.zc 4)) (D.zc 3)) (D.zc 2)) (D.zc 1)) (D.zc 0)))) (D.fsub (D.fmul (D.fc 4620693217682128896) (S25_0 D a0)) (D.i2f (D.zite (D.fle (D.i2f (D.zc 1)) (D.fmul (D.fc 4620693217682128896) (S25_0 D a0))) (D.zite (D.fle (D.i2f (D.zc 2)) (D.fmul (D.fc 4620693217682128896) (S25_0 D a0))) (D.zite (D.fle (D.i2f (D.zc 3)) (D.fmul (D.fc 4620693217682128896) (S25_0 D a0))) (D.zite (D.fle (D.i2f (D.zc 4)) (D.fmul (D.fc 4620693217682128896) (S25_0 D a0))) (D.zite (D.fle (D.i2f (D.zc 5)) (D.fmul (D.fc 4620693217682128896) (S25_0 D a0))) (D.zite (D.fle (D.i2f (D.zc 6)) (D.fmul (D.fc 4620693217682128896) (S25_0 D a0))) (D.zite (D.fle (D.i2f (D.zc 7)) (D.fmul (D.fc 4620693217682128896) (S25_0 D a0))) (D.zc 7) (D.zc 6)) (D.zc 5)) (D.zc 4)) (D.zc 3)) (D.zc 2)) (D.zc 1)) (D.zc 0)))))) (D.fc 4593671619917905920))
theorem ev51 (D : Dom) (a0 : D.F) : joinT (evFn Try.prog (tbl_50 D) 60 51 [.fl a0]) = .val none (.tup [.fl (S51_0 D a0), .fl (S51_1 D a0), .fl (S51_2 D a0)]) := by kernel_rfl
def sp51 : Ev.Spec := fun D l => argF l fun a0 r0 => arg0 r0 (.ret (.tup [.fl (S51_0 D a0), .fl (S51_1 D a0), .fl (S51_2 D a0)]))
theorem en51 : ∀ l r, (sp51 R l).run = some r → Entry Try.prog 51 l r := by
  intro l r h
  obtain ⟨x0, _, h, L0⟩ := argF_inv h
  obtain ⟨h, L1⟩ := arg0_inv h
  cases h
  exact (entry_of prg tok_50 (ev51 R x0) (fun o ho => nomatch ho) rfl).le (L0 _ L1)
def tl_51 : List (Nat × Ev.Spec) := (51, sp51) :: tl_50
def tbl_51 (D : Dom) : Tbl D := tblOf tl_51 D
theorem tok_51 : TblOK Try.prog (tbl_51 R) := TblOK.cons tok_50 en51

-- penumbra/penumbraref02.Dot
def S52_0 (D : Dom) (a0 : D.F) (a1 : D.F) (a2 : D.F) (a3 : D.F) (a4 : D.F) (a5 : D.F) : D.F := (D.fadd (D.fadd (D.fmul a0 a3) (D.fmul a1 a4)) (D.fmul a2 a5))
theorem ev52 (D : Dom) (a0 : D.F) (a1 : D.F) (a2 : D.F) (a3 : D.F) (a4 : D.F) (a5 : D.F) : joinT (evFn Try.prog (tbl_51 D) 60 52 [.agg [.fl a0, .fl a1, .fl a2], .agg [.fl a3, .fl a4, .fl a5]]) = .val none (.fl (S52_0 D a0 a1 a2 a3 a4 a5)) := by kernel_rfl
def sp52 : Ev.Spec := fun D l => argA l fun c0 r0 => argF c0 fun a0 r1 => argF r1 fun a1 r2 => argF r2 fun a2 r3 => arg0 r3 (argA r0 fun c100 r100 => argF c100 fun a3 r101 => argF r101 fun a4 r102 => argF r102 fun a5 r103 => arg0 r103 (arg0 r100 (.ret (.fl (S52_0 D a0 a1 a2 a3 a4 a5)))))
theorem en52 : ∀ l r, (sp52 R l).run = some r → Entry Try.prog 52 l r := by
  intro l r h
  obtain ⟨_, _, h, L0⟩ := argA_inv h
  obtain ⟨x1, _, h, L1⟩ := argF_inv h
  obtain ⟨x2, _, h, L2⟩ := argF_inv h
  obtain ⟨x3, _, h, L3⟩ := argF_inv h
  obtain ⟨h, L4⟩ := arg0_inv h
  obtain ⟨_, _, h, L5⟩ := argA_inv h
  obtain ⟨x6, _, h, L6⟩ := argF_inv h
  obtain ⟨x7, _, h, L7⟩ := argF_inv h
  obtain ⟨x8, _, h, L8⟩ := argF_inv h
  obtain ⟨h, L9⟩ := arg0_inv h
  obtain ⟨h, L10⟩ := arg0_inv h
  cases h
  exact (entry_of prg tok_51 (ev52 R x1 x2 x3 x6 x7 x8) (fun o ho => nomatch ho) rfl).le (L0 _ _ (L1 _ (L2 _ (L3 _ L4))) (L5 _ _ (L6 _ (L7 _ (L8 _ L9))) L10))
def tl_52 : List (Nat × Ev.Spec) := (52, sp52) :: tl_51
def tbl_52 (D : Dom) : Tbl D := tblOf tl_52 D
theorem tok_52 : TblOK Try.prog (tbl_52 R) := TblOK.cons tok_51 en52

-- penumbra/penumbraref02.Scale
def S54_0 (D : Dom) (a0 : D.F) (a3 : D.F) : D.F := (D.fmul a0 a3)
def S54_1 (D : Dom) (a1 : D.F) (a3 : D.F) : D.F := (D.fmul a1 a3)
def S54_2 (D : Dom) (a2 : D.F) (a3 : D.F) : D.F := (D.fmul a2 a3)
theorem ev54 (D : Dom) (a0 : D.F) (a1 : D.F) (a2 : D.F) (a3 : D.F) : joinT (evFn Try.prog (tbl_52 D) 60 54 [.agg [.fl a0, .fl a1, .fl a2], .fl a3]) = .val none (.agg [.fl (S54_0 D a0 a3), .fl (S54_1 D a1 a3), .fl (S54_2 D a2 a3)]) := by kernel_rfl
def sp54 : Ev.Spec := fun D l => argA l fun c0 r0 => argF c0 fun a0 r1 => argF r1 fun a1 r2 => argF r2 fun a2 r3 => arg0 r3 (argF r0 fun a3 r100 => arg0 r100 (.ret (.agg [.fl (S54_0 D a0 a3), .fl (S54_1 D a1 a3), .fl (S54_2 D a2 a3)])))
theorem en54 : ∀ l r, (sp54 R l).run = some r → Entry Try.prog 54 l r := by
  intro l r h
  obtain ⟨_, _, h, L0⟩ := argA_inv h
  obtain ⟨x1, _, h, L1⟩ := argF_inv h
  obtain ⟨x2, _, h, L2⟩ := argF_inv h
  obtain ⟨x3, _, h, L3⟩ := argF_inv h
  obtain ⟨h, L4⟩ := arg0_inv h
  obtain ⟨x5, _, h, L5⟩ := argF_inv h
  obtain ⟨h, L6⟩ := arg0_inv h
  cases h
  exact (entry_of prg tok_52 (ev54 R x1 x2 x3 x5) (fun o ho => nomatch ho) rfl).le (L0 _ _ (L1 _ (L2 _ (L3 _ L4))) (L5 _ L6))
def tl_54 : List (Nat × Ev.Spec) := (54, sp54) :: tl_52
def tbl_54 (D : Dom) : Tbl D := tblOf tl_54 D
theorem tok_54 : TblOK Try.prog (tbl_54 R) := TblOK.cons tok_52 en54

-- penumbra/penumbraref02.Sub
def S53_0 (D : Dom) (a0 : D.F) (a3 : D.F) : D.F := (D.fsub a0 a3)
def S53_1 (D : Dom) (a1 : D.F) (a4 : D.F) : D.F := (D.fsub a1 a4)
def S53_2 (D : Dom) (a2 : D.F) (a5 : D.F) : D.F := (D.fsub a2 a5)
theorem ev53 (D : Dom) (a0 : D.F) (a1 : D.F) (a2 : D.F) (a3 : D.F) (a4 : D.F) (a5 : D.F) : joinT (evFn Try.prog (tbl_54 D) 60 53 [.agg [.fl a0, .fl a1, .fl a2], .agg [.fl a3, .fl a4, .fl a5]]) = .val none (.agg [.fl (S53_0 D a0 a3), .fl (S53_1 D a1 a4), .fl (S53_2 D a2 a5)]) := by kernel_rfl
def sp53 : Ev.Spec := fun D l => argA l fun c0 r0 => argF c0 fun a0 r1 => argF r1 fun a1 r2 => argF r2 fun a2 r3 => arg0 r3 (argA r0 fun c100 r100 => argF c100 fun a3 r101 => argF r101 fun a4 r102 => argF r102 fun a5 r103 => arg0 r103 (arg0 r100 (.ret (.agg [.fl (S53_0 D a0 a3), .fl (S53_1 D a1 a4), .fl (S53_2 D a2 a5)]))))
theorem en53 : ∀ l r, (sp53 R l).run = some r → Entry Try.prog 53 l r := by
  intro l r h
  obtain ⟨_, _, h, L0⟩ := argA_inv h
  obtain ⟨x1, _, h, L1⟩ := argF_inv h
  obtain ⟨x2, _, h, L2⟩ := argF_inv h
  obtain ⟨x3, _, h, L3⟩ := argF_inv h
  obtain ⟨h, L4⟩ := arg0_inv h
  obtain ⟨_, _, h, L5⟩ := argA_inv h
  obtain ⟨x6, _, h, L6⟩ := argF_inv h
  obtain ⟨x7, _, h, L7⟩ := argF_inv h
  obtain ⟨x8, _, h, L8⟩ := argF_inv h
  obtain ⟨h, L9⟩ := arg0_inv h
  obtain ⟨h, L10⟩ := arg0_inv h
  cases h
  exact (entry_of prg tok_54 (ev53 R x1 x2 x3 x6 x7 x8) (fun o ho => nomatch ho) rfl).le (L0 _ _ (L1 _ (L2 _ (L3 _ L4))) (L5 _ _ (L6 _ (L7 _ (L8 _ L9))) L10))
def tl_53 : List (Nat × Ev.Spec) := (53, sp53) :: tl_54
def tbl_53 (D : Dom) : Tbl D := tblOf tl_53 D
theorem tok_53 : TblOK Try.prog (tbl_53 R) := TblOK.cons tok_54 en53

-- penumbra/penumbraref15.Sample
def S26_0 (D : Dom) (a0 : D.F) (a1 : D.F) (a2 : D.F) (a3 : D.F) (a4 : D.F) (a5 : D.F) : D.F := (D.fite (D.bite (D.bite (D.fgt (S52_0 D a1 a2 a3 (D.fmul (S51_0 D a5) (S28_0 D (D.fite (D.flt (D.fsub (D.fc 4607182418800017408) (D.fmul (S28_0 D (D.fdiv (D.fsub (D.fc 4607182418800017408) (S25_0 D a4)) (D.fadd (D.fc 4607182418800017408) (D.fmul (D.fsub (D.fmul (S50_0 D a0) (S50_0 D a0)) (D.fc 4607182418800017408)) (S25_0 D a4))))) (S28_0 D (D.fdiv (D.fsub (D.fc 4607182418800017408) (S25_0 D a4)) (D.fadd (D.fc 4607182418800017408) (D.fmul (D.fsub (D.fmul (S50_0 D a0) (S50_0 D a0)) (D.fc 4607182418800017408)) (S25_0 D a4))))))) (D.fc 0)) (D.fc 0) (D.fsub (D.fc 4607182418800017408) (D.fmul (S28_0 D (D.fdiv (D.fsub (D.fc 4607182418800017408) (S25_0 D a4)) (D.fadd (D.fc 4607182418800017408) (D.fmul (D.fsub (D.fmul (S50_0 D a0) (S50_0 D a0)) (D.fc 4607182418800017408)) (S25_0 D a4))))) (S28_0 D (D.fdiv (D.fsub (D.fc 4607182418800017408) (S25_0 D a4)) (D.fadd (D.fc 4607182418800017408) (D.fmul (D.fsub (D.fmul (S50_0 D a0) (S50_0 D a0)) (D.fc 4607182418800017408)) (S25_0 D a4)))))))))) (D.fmul (S51_1 D a5) (S28_0 D (D.fite (D.flt (D.fsub (D.fc 4607182418800017408) (D.fmul (S28_0 D (D.fdiv (D.fsub (D.fc 4607182418800017408) (S25_0 D a4)) (D.fadd (D.fc 4607182418800017408) (D.fmul (D.fsub (D.fmul (S50_0 D a0) (S50_0 D a0)) (D.fc 4607182418800017408)) (S25_0 D a4))))) (S28_0 D (D.fdiv (D.fsub (D.fc 4607182418800017408) (S25_0 D a4)) (D.fadd (D.fc 4607182418800017408) (D.fmul (D.fsub (D.fmul (S50_0 D a0) (S50_0 D a0)) (D.fc 4607182418800017408)) (S25_0 D a4))))))) (D.fc 0)) (D.fc 0) (D.fsub (D.fc 4607182418800017408) (D.fmul (S28_0 D (D.fdiv (D.fsub (D.fc 4607182418800017408) (S25_0 D a4)) (D.fadd (D.fc 4607182418800017408) (D.fmul (D.fsub (D.fmul (S50_0 D a0) (S50_0 D a0)) (D.fc 4607182418800017408)) (S25_0 D a4))))) (S28_0 D (D.fdiv (D.fsub (D.fc 4607182418800017408) (S25_0 D a4)) (D.fadd (D.fc 4607182418800017408) (D.fmul (D.fsub (D.fmul (S50_0 D a0) (S50_0 D a0)) (D.fc 4607182418800017408)) (S25_0 D a4)))))))))) (S28_0 D (D.fdiv (D.fsub (D.fc 4607182418800017408) (S25_0 D a4)) (D.fadd (D.fc 4607182418800017408) (D.fmul (D.fsub (D.fmul (S50_0 D a0) (S50_0 D a0)) (D.fc 4607182418800017408)) (S25_0 D a4)))))) (D.fc 0)) (D.fgt a3 (D.fc 0)) (D.bc false)) (D.fgt (S53_2 D (S54_2 D (S28_0 D (D.fdiv (D.fsub (D.fc 4607182418800017408) (S25_0 D a4)) (D.fadd (D.fc 4607182418800017408) (D.fmul (D.fsub (D.fmul (S50_0 D a0) (S50_0 D a0)) (D.fc 4607182418800017408)) (S25_0 D a4))))) (D.fmul (D.fc 4611686018427387904) (S52_0 D a1 a2 a3 (D.fmul (S51_0 D a5) (S28_0 D (D.fite (D.flt (D.fsub (D.fc 4607182418800017408) (D.fmul (S28_0 D (D.fdiv (D.fsub (D.fc 4607182418800017408) (S25_0 D a4)) (D.fadd (D.fc 4607182418800017408) (D.fmul (D.fsub (D.fmul (S50_0 D a0) (S50_0 D a0)) (D.fc 4607182418800017408)) (S25_0 D a4))))) (S28_0 D (D.fdiv (D.fsub (D.fc 4607182418800017408) (S25_0 D a4)) (D.fadd (D.fc 4607182418800017408) (D.fmul (D.fsub (D.fmul (S50_0 D a0) (S50_0 D a0)) (D.fc 4607182418800017408)) (S25_0 D a4))))))) (D.fc 0)) (D.fc 0) (D.fsub (D.fc 4607182418800017408) (D.fmul (S28_0 D (D.fdiv (D.fsub (D.fc 4607182418800017408) (S25_0 D a4)) (D.fadd (D.fc 4607182418800017408) (D.fmul (D.fsub (D.fmul (S50_0 D a0) (S50_0 D a0)) (D.fc 4607182418800017408)) (S25_0 D a4))))) (S28_0 D (D.fdiv (D.fsub (D.fc 4607182418800017408) (S25_0 D a4)) (D.fadd (D.fc 4607182418800017408) (D.fmul (D.fsub (D.fmul (S50_0 D a0) (S50_0 D a0)) (D.fc 4607182418800017408)) (S25_0 D a4)))))))))) (D.fmul (S51_1 D a5) (S28_0 D (D.fite (D.flt (D.fsub (D.fc 4607182418800017408) (D.fmul (S28_0 D (D.fdiv (D.fsub (D.fc 4607182418800017408) (S25_0 D a4)) (D.fadd (D.fc 4607182418800017408) (D.fmul (D.fsub (D.fmul (S50_0 D a0) (S50_0 D a0)) (D.fc 4607182418800017408)) (S25_0 D a4))))) (S28_0 D (D.fdiv (D.fsub (D.fc 4607182418800017408) (S25_0 D a4)) (D.fadd (D.fc 4607182418800017408) (D.fmul (D.fsub (D.fmul (S50_0 D a0) (S50_0 D a0)) (D.fc 4607182418800017408)) (S25_0 D a4))))))) (D.fc 0)) (D.fc 0) (D.fsub (D.fc 4607182418800017408) (D.fmul (S28_0 D (D.fdiv (D.fsub (D.fc 4607182418800017408) (S25_0 D a4)) (D.fadd (D.fc 4607182418800017408) (D.fmul (D.fsub (D.fmul (S50_0 D a0) (S50_0 D a0)) (D.fc 4607182418800017408)) (S25_0 D a4))))) (S28_0 D (D.fdiv (D.fsub (D.fc 4607182418800017408) (S25_0 D a4)) (D.fadd (D.fc 4607182418800017408) (D.fmul (D.fsub (D.fmul (S50_0 D a0) (S50_0 D a0)) (D.fc 4607182418800017408)) (S25_0 D a4)))))))))) (S28_0 D (D.fdiv (D.fsub (D.fc 4607182418800017408) (S25_0 D a4)) (D.fadd (D.fc 4607182418800017408) (D.fmul (D.fsub (D.fmul (S50_0 D a0) (S50_0 D a0)) (D.fc 4607182418800017408)) (S25_0 D a4)))))))) a3) (D.fc 0)) (D.bc false)) (S53_0 D (S54_0 D (D.fmul (S51_0 D a5) (S28_0 D (D.fite (D.flt (D.fsub (D.fc 4607182418800017408) (D.fmul (S28_0 D (D.fdiv (D.fsub (D.fc 4607182418800017408) (S25_0 D a4)) (D.fadd (D.fc 4607182418800017408) (D.fmul (D.fsub (D.fmul (S50_0 D a0) (S50_0 D a0)) (D.fc 4607182418800017408)) (S25_0 D a4))))) (S28_0 D (D.fdiv (D.fsub (D.fc 4607182418800017408) (S25_0 D a4)) (D.fadd (D.fc 4607182418800017408) (D.fmul (D.fsub (D.fmul (S50_0 D a0) (S50_0 D a0)) (D.fc 4607182418800017408)) (S25_0 D a4))))))) (D.fc 0)) (D.fc 0) (D.fsub (D.fc 4607182418800017408) (D.fmul (S28_0 D (D.fdiv (D.fsub (D.fc 4607182418800017408) (S25_0 D a4)) (D.fadd (D.fc 4607182418800017408) (D.fmul (D.fsub (D.fmul (S50_0 D a0) (S50_0 D a0)) (D.fc 4607182418800017408)) (S25_0 D a4))))) (S28_0 D (D.fdiv (D.fsub (D.fc 4607182418800017408) (S25_0 D a4)) (D.fadd (D.fc 4607182418800017408) (D.fmul (D.fsub (D.fmul (S50_0 D a0) (S50_0 D a0)) (D.fc 4607182418800017408)) (S25_0 D a4)))))))))) (D.fmul (D.fc 4611686018427387904) (S52_0 D a1 a2 a3 (D.fmul (S51_0 D a5) (S28_0 D (D.fite (D.flt (D.fsub (D.fc 4607182418800017408) (D.fmul (S28_0 D (D.fdiv (D.fsub (D.fc 4607182418800017408) (S25_0 D a4)) (D.fadd (D.fc 4607182418800017408) (D.fmul (D.fsub (D.fmul (S50_0 D a0) (S50_0 D a0)) (D.fc 4607182418800017408)) (S25_0 D a4))))) (S28_0 D (D.fdiv (D.fsub (D.fc 4607182418800017408) (S25_0 D a4)) (D.fadd (D.fc 4607182418800017408) (D.fmul (D.fsub (D.fmul (S50_0 D a0) (S50_0 D a0)) (D.fc 4607182418800017408)) (S25_0 D a4))))))) (D.fc 0)) (D.fc 0) (D.fsub (D.fc 4607182418800017408) (D.fmul (S28_0 D (D.fdiv (D.fsub (D.fc 4607182418800017408) (S25_0 D a4)) (D.fadd (D.fc 4607182418800017408) (D.fmul (D.fsub (D.fmul (S50_0 D a0) (S50_0 D a0)) (D.fc 4607182418800017408)) (S25_0 D a4))))) (S28_0 D (D.fdiv (D.fsub (D.fc 4607182418800017408) (S25_0 D a4)) (D.fadd (D.fc 4607182418800017408) (D.fmul (D.fsub (D.fmul (S50_0 D a0) (S50_0 D a0)) (D.fc 4607182418800017408)) (S25_0 D a4)))))))))) (D.fmul (S51_1 D a5) (S28_0 D (D.fite (D.flt (D.fsub (D.fc 4607182418800017408) (D.fmul (S28_0 D (D.fdiv (D.fsub (D.fc 4607182418800017408) (S25_0 D a4)) (D.fadd (D.fc 4607182418800017408) (D.fmul (D.fsub (D.fmul (S50_0 D a0) (S50_0 D a0)) (D.fc 4607182418800017408)) (S25_0 D a4))))) (S28_0 D (D.fdiv (D.fsub (D.fc 4607182418800017408) (S25_0 D a4)) (D.fadd (D.fc 4607182418800017408) (D.fmul (D.fsub (D.fmul (S50_0 D a0) (S50_0 D a0)) (D.fc 4607182418800017408)) (S25_0 D a4))))))) (D.fc 0)) (D.fc 0) (D.fsub (D.fc 4607182418800017408) (D.fmul (S28_0 D (D.fdiv (D.fsub (D.fc 4607182418800017408) (S25_0 D a4)) (D.fadd (D.fc 4607182418800017408) (D.fmul (D.fsub (D.fmul (S50_0 D a0) (S50_0 D a0)) (D.fc 4607182418800017408)) (S25_0 D a4))))) (S28_0 D (D.fdiv (D.fsub (D.fc 4607182418800017408) (S25_0 D a4)) (D.fadd (D.fc 4607182418800017408) (D.fmul (D.fsub (D.fmul (S50_0 D a0) (S50_0 D a0)) (D.fc 4607182418800017408)) (S25_0 D a4)))))))))) (S28_0 D (D.fdiv (D.fsub (D.fc 4607182418800017408) (S25_0 D a4)) (D.fadd (D.fc 4607182418800017408) (D.fmul (D.fsub (D.fmul (S50_0 D a0) (S50_0 D a0)) (D.fc 4607182418800017408)) (S25_0 D a4)))))))) a1) (D.fc 0))
def S26_1 (D : Dom) (a0 : D.F) (a1 : D.F) (a2 : D.F) (a3 : D.F) (a4 : D.F) (a5 : D.F) : D.F := (D.fite (D.bite (D.bite (D.fgt (S52_0 D a1 a2 a3 (D.fmul (S51_0 D a5) (S28_0 D (D.fite (D.flt (D.fsub (D.fc 4607182418800017408) (D.fmul (S28_0 D (D.fdiv (D.fsub (D.fc 4607182418800017408) (S25_0 D a4)) (D.fadd (D.fc 4607182418800017408) (D.fmul (D.fsub (D.fmul (S50_0 D a0) (S50_0 D a0)) (D.fc 4607182418800017408)) (S25_0 D a4))))) (S28_0 D (D.fdiv (D.fsub (D.fc 4607182418800017408) (S25_0 D a4)) (D.fadd (D.fc 4607182418800017408) (D.fmul (D.fsub (D.fmul (S50_0 D a0) (S50_0 D a0)) (D.fc 4607182418800017408)) (S25_0 D a4))))))) (D.fc 0)) (D.fc 0) (D.fsub (D.fc 4607182418800017408) (D.fmul (S28_0 D (D.fdiv (D.fsub (D.fc 4607182418800017408) (S25_0 D a4)) (D.fadd (D.fc 4607182418800017408) (D.fmul (D.fsub (D.fmul (S50_0 D a0) (S50_0 D a0)) (D.fc 4607182418800017408)) (S25_0 D a4))))) (S28_0 D (D.fdiv (D.fsub (D.fc 4607182418800017408) (S25_0 D a4)) (D.fadd (D.fc 4607182418800017408) (D.fmul (D.fsub (D.fmul (S50_0 D a0) (S50_0 D a0)) (D.fc 4607182418800017408)) (S25_0 D a4)))))))))) (D.fmul (S51_1 D a5) (S28_0 D (D.fite (D.flt (D.fsub (D.fc 4607182418800017408) (D.fmul (S28_0 D (D.fdiv (D.fsub (D.fc 4607182418800017408) (S25_0 D a4)) (D.fadd (D.fc 4607182418800017408) (D.fmul (D.fsub (D.fmul (S50_0 D a0) (S50_0 D a0)) (D.fc 4607182418800017408)) (S25_0 D a4))))) (S28_0 D (D.fdiv (D.fsub (D.fc 4607182418800017408) (S25_0 D a4)) (D.fadd (D.fc 4607182418800017408) (D.fmul (D.fsub (D.fmul (S50_0 D a0) (S50_0 D a0)) (D.fc 4607182418800017408)) (S25_0 D a4))))))) (D.fc 0)) (D.fc 0) (D.fsub (D.fc 4607182418800017408) (D.fmul (S28_0 D (D.fdiv (D.fsub (D.fc 4607182418800017408) (S25_0 D a4)) (D.fadd (D.fc 4607182418800017408) (D.fmul (D.fsub (D.fmul (S50_0 D a0) (S50_0 D a0)) (D.fc 4607182418800017408)) (S25_0 D a4))))) (S28_0 D (D.fdiv (D.fsub (D.fc 4607182418800017408) (S25_0 D a4)) (D.fadd (D.fc 4607182418800017408) (D.fmul (D.fsub (D.fmul (S50_0 D a0) (S50_0 D a0)) (D.fc 4607182418800017408)) (S25_0 D a4)))))))))) (S28_0 D (D.fdiv (D.fsub (D.fc 4607182418800017408) (S25_0 D a4)) (D.fadd (D.fc 4607182418800017408) (D.fmul (D.fsub (D.fmul (S50_0 D a0) (S50_0 D a0)) (D.fc 4607182418800017408)) (S25_0 D a4)))))) (D.fc 0)) (D.fgt a3 (D.fc 0)) (D.bc false)) (D.fgt (S53_2 D (S54_2 D (S28_0 D (D.fdiv (D.fsub (D.fc 4607182418800017408) (S25_0 D a4)) (D.fadd (D.fc 4607182418800017408) (D.fmul (D.fsub (D.fmul (S50_0 D a0) (S50_0 D a0)) (D.fc 4607182418800017408)) (S25_0 D a4))))) (D.fmul (D.fc 4611686018427387904) (S52_0 D a1 a2 a3 (D.fmul (S51_0 D a5) (S28_0 D (D.fite (D.flt (D.fsub (D.fc 4607182418800017408) (D.fmul (S28_0 D (D.fdiv (D.fsub (D.fc 4607182418800017408) (S25_0 D a4)) (D.fadd (D.fc 4607182418800017408) (D.fmul (D.fsub (D.fmul (S50_0 D a0) (S50_0 D a0)) (D.fc 4607182418800017408)) (S25_0 D a4))))) (S28_0 D (D.fdiv (D.fsub (D.fc 4607182418800017408) (S25_0 D a4)) (D.fadd (D.fc 4607182418800017408) (D.fmul (D.fsub (D.fmul (S50_0 D a0) (S50_0 D a0)) (D.fc 4607182418800017408)) (S25_0 D a4))))))) (D.fc 0)) (D.fc 0) (D.fsub (D.fc 4607182418800017408) (D.fmul (S28_0 D (D.fdiv (D.fsub (D.fc 4607182418800017408) (S25_0 D a4)) (D.fadd (D.fc 4607182418800017408) (D.fmul (D.fsub (D.fmul (S50_0 D a0) (S50_0 D a0)) (D.fc 4607182418800017408)) (S25_0 D a4))))) (S28_0 D (D.fdiv (D.fsub (D.fc 4607182418800017408) (S25_0 D a4)) (D.fadd (D.fc 4607182418800017408) (D.fmul (D.fsub (D.fmul (S50_0 D a0) (S50_0 D a0)) (D.fc 4607182418800017408)) (S25_0 D a4)))))))))) (D.fmul (S51_1 D a5) (S28_0 D (D.fite (D.flt (D.fsub (D.fc 4607182418800017408) (D.fmul (S28_0 D (D.fdiv (D.fsub (D.fc 4607182418800017408) (S25_0 D a4)) (D.fadd (D.fc 4607182418800017408) (D.fmul (D.fsub (D.fmul (S50_0 D a0) (S50_0 D a0)) (D.fc 4607182418800017408)) (S25_0 D a4))))) (S28_0 D (D.fdiv (D.fsub (D.fc 4607182418800017408) (S25_0 D a4)) (D.fadd (D.fc 4607182418800017408) (D.fmul (D.fsub (D.fmul (S50_0 D a0) (S50_0 D a0)) (D.fc 4607182418800017408)) (S25_0 D a4))))))) (D.fc 0)) (D.fc 0) (D.fsub (D.fc 4607182418800017408) (D.fmul (S28_0 D (D.fdiv (D.fsub (D.fc 4607182418800017408) (S25_0 D a4)) (D.fadd (D.fc 4607182418800017408) (D.fmul (D.fsub (D.fmul (S50_0 D a0) (S50_0 D a0)) (D.fc 4607182418800017408)) (S25_0 D a4))))) (S28_0 D (D.fdiv (D.fsub (D.fc 4607182418800017408) (S25_0 D a4)) (D.fadd (D.fc 4607182418800017408) (D.fmul (D.fsub (D.fmul (S50_0 D a0) (S50_0 D a0)) (D.fc 4607182418800017408)) (S25_0 D a4)))))))))) (S28_0 D (D.fdiv (D.fsub (D.fc 4607182418800017408) (S25_0 D a4)) (D.fadd (D.fc 4607182418800017408) (D.fmul (D.fsub (D.fmul (S50_0 D a0) (S50_0 D a0)) (D.fc 4607182418800017408)) (S25_0 D a4)))))))) a3) (D.fc 0)) (D.bc false)) (S53_1 D (S54_1 D (D.fmul (S51_1 D a5) (S28_0 D (D.fite (D.flt (D.fsub (D.fc 4607182418800017408) (D.fmul (S28_0 D (D.fdiv (D.fsub (D.fc 4607182418800017408) (S25_0 D a4)) (D.fadd (D.fc 4607182418800017408) (D.fmul (D.fsub (D.fmul (S50_0 D a0) (S50_0 D a0)) (D.fc 4607182418800017408)) (S25_0 D a4))))) (S28_0 D (D.fdiv (D.fsub (D.fc 4607182418800017408) (S25_0 D a4)) (D.fadd (D.fc 4607182418800017408) (D.fmul (D.fsub (D.fmul (S50_0 D a0) (S50_0 D a0)) (D.fc 4607182418800017408)) (S25_0 D a4))))))) (D.fc 0)) (D.fc 0) (D.fsub (D.fc 4607182418800017408) (D.fmul (S28_0 D (D.fdiv (D.fsub (D.fc 4607182418800017408) (S25_0 D a4)) (D.fadd (D.fc 4607182418800017408) (D.fmul (D.fsub (D.fmul (S50_0 D a0) (S50_0 D a0)) (D.fc 4607182418800017408)) (S25_0 D a4))))) (S28_0 D (D.fdiv (D.fsub (D.fc 4607182418800017408) (S25_0 D a4)) (D.fadd (D.fc 4607182418800017408) (D.fmul (D.fsub (D.fmul (S50_0 D a0) (S50_0 D a0)) (D.fc 4607182418800017408)) (S25_0 D a4)))))))))) (D.fmul (D.fc 4611686018427387904) (S52_0 D a1 a2 a3 (D.fmul (S51_0 D a5) (S28_0 D (D.fite (D.flt (D.fsub (D.fc 4607182418800017408) (D.fmul (S28_0 D (D.fdiv (D.fsub (D.fc 4607182418800017408) (S25_0 D a4)) (D.fadd (D.fc 4607182418800017408) (D.fmul (D.fsub (D.fmul (S50_0 D a0) (S50_0 D a0)) (D.fc 4607182418800017408)) (S25_0 D a4))))) (S28_0 D (D.fdiv (D.fsub (D.fc 4607182418800017408) (S25_0 D a4)) (D.fadd (D.fc 4607182418800017408) (D.fmul (D.fsub (D.fmul (S50_0 D a0) (S50_0 D a0)) (D.fc 4607182418800017408)) (S25_0 D a4))))))) (D.fc 0)) (D.fc 0) (D.fsub (D.fc 4607182418800017408) (D.fmul (S28_0 D (D.fdiv (D.fsub (D.fc 4607182418800017408) (S25_0 D a4)) (D.fadd (D.fc 4607182418800017408) (D.fmul (D.fsub (D.fmul (S50_0 D a0) (S50_0 D a0)) (D.fc 4607182418800017408)) (S25_0 D a4))))) (S28_0 D (D.fdiv (D.fsub (D.fc 4607182418800017408) (S25_0 D a4)) (D.fadd (D.fc 4607182418800017408) (D.fmul (D.fsub (D.fmul (S50_0 D a0) (S50_0 D a0)) (D.fc 4607182418800017408)) (S25_0 D a4)))))))))) (D.fmul (S51_1 D a5) (S28_0 D (D.fite (D.flt (D.fsub (D.fc 4607182418800017408) (D.fmul (S28_0 D (D.fdiv (D.fsub (D.fc 4607182418800017408) (S25_0 D a4)) (D.fadd (D.fc 4607182418800017408) (D.fmul (D.fsub (D.fmul (S50_0 D a0) (S50_0 D a0)) (D.fc 4607182418800017408)) (S25_0 D a4))))) (S28_0 D (D.fdiv (D.fsub (D.fc 4607182418800017408) (S25_0 D a4)) (D.fadd (D.fc 4607182418800017408) (D.fmul (D.fsub (D.fmul (S50_0 D a0) (S50_0 D a0)) (D.fc 4607182418800017408)) (S25_0 D a4))))))) (D.fc 0)) (D.fc 0) (D.fsub (D.fc 4607182418800017408) (D.fmul (S28_0 D (D.fdiv (D.fsub (D.fc 4607182418800017408) (S25_0 D a4)) (D.fadd (D.fc 4607182418800017408) (D.fmul (D.fsub (D.fmul (S50_0 D a0) (S50_0 D a0)) (D.fc 4607182418800017408)) (S25_0 D a4))))) (S28_0 D (D.fdiv (D.fsub (D.fc 4607182418800017408) (S25_0 D a4)) (D.fadd (D.fc 4607182418800017408) (D.fmul (D.fsub (D.fmul (S50_0 D a0) (S50_0 D a0)) (D.fc 4607182418800017408)) (S25_0 D a4)))))))))) (S28_0 D (D.fdiv (D.fsub (D.fc 4607182418800017408) (S25_0 D a4)) (D.fadd (D.fc 4607182418800017408) (D.fmul (D.fsub (D.fmul (S50_0 D a0) (S50_0 D a0)) (D.fc 4607182418800017408)) (S25_0 D a4)))))))) a2) (D.fc 0))
def S26_2 (D : Dom) (a0 : D.F) (a1 : D.F) (a2 : D.F) (a3 : D.F) (a4 : D.F) (a5 : D.F) : D.F := (D.fite (D.bite (D.bite (D.fgt (S52_0 D a1 a2 a3 (D.fmul (S51_0 D a5) (S28_0 D (D.fite (D.flt (D.fsub (D.fc 4607182418800017408) (D.fmul (S28_0 D (D.fdiv (D.fsub (D.fc 4607182418800017408) (S25_0 D a4)) (D.fadd (D.fc 4607182418800017408) (D.fmul (D.fsub (D.fmul (S50_0 D a0) (S50_0 D a0)) (D.fc 4607182418800017408)) (S25_0 D a4))))) (S28_0 D (D.fdiv (D.fsub (D.fc 4607182418800017408) (S25_0 D a4)) (D.fadd (D.fc 4607182418800017408) (D.fmul (D.fsub (D.fmul (S50_0 D a0) (S50_0 D a0)) (D.fc 4607182418800017408)) (S25_0 D a4))))))) (D.fc 0)) (D.fc 0) (D.fsub (D.fc 4607182418800017408) (D.fmul (S28_0 D (D.fdiv (D.fsub (D.fc 4607182418800017408) (S25_0 D a4)) (D.fadd (D.fc 4607182418800017408) (D.fmul (D.fsub (D.fmul (S50_0 D a0) (S50_0 D a0)) (D.fc 4607182418800017408)) (S25_0 D a4))))) (S28_0 D (D.fdiv (D.fsub (D.fc 4607182418800017408) (S25_0 D a4)) (D.fadd (D.fc 4607182418800017408) (D.fmul (D.fsub (D.fmul (S50_0 D a0) (S50_0 D a0)) (D.fc 4607182418800017408)) (S25_0 D a4)))))))))) (D.fmul (S51_1 D a5) (S28_0 D (D.fite (D.flt (D.fsub (D.fc 4607182418800017408) (D.fmul (S28_0 D (D.fdiv (D.fsub (D.fc 4607182418800017408) (S25_0 D a4)) (D.fadd (D.fc 4607182418800017408) (D.fmul (D.fsub (D.fmul (S50_0 D a0) (S50_0 D a0)) (D.fc 4607182418800017408)) (S25_0 D a4))))) (S28_0 D (D.fdiv (D.fsub (D.fc 4607182418800017408) (S25_0 D a4)) (D.fadd (D.fc 4607182418800017408) (D.fmul (D.fsub (D.fmul (S50_0 D a0) (S50_0 D a0)) (D.fc 4607182418800017408)) (S25_0 D a4))))))) (D.fc 0)) (D.fc 0) (D.fsub (D.fc 4607182418800017408) (D.fmul (S28_0 D (D.fdiv (D.fsub (D.fc 4607182418800017408) (S25_0 D a4)) (D.fadd (D.fc 4607182418800017408) (D.fmul (D.fsub (D.fmul (S50_0 D a0) (S50_0 D a0)) (D.fc 4607182418800017408)) (S25_0 D a4))))) (S28_0 D (D.fdiv (D.fsub (D.fc 4607182418800017408) (S25_0 D a4)) (D.fadd (D.fc 4607182418800017408) (D.fmul (D.fsub (D.fmul (S50_0 D a0) (S50_0 D a0)) (D.fc 4607182418800017408)) (S25_0 D a4)))))))))) (S28_0 D (D.fdiv (D.fsub (D.fc 4607182418800017408) (S25_0 D a4)) (D.fadd (D.fc 4607182418800017408) (D.fmul (D.fsub (D.fmul (S50_0 D a0) (S50_0 D a0)) (D.fc 4607182418800017408)) (S25_0 D a4)))))) (D.fc 0)) (D.fgt a3 (D.fc 0)) (D.bc false)) (D.fgt (S53_2 D (S54_2 D (S28_0 D (D.fdiv (D.fsub (D.fc 4607182418800017408) (S25_0 D a4)) (D.fadd (D.fc 4607182418800017408) (D.fmul (D.fsub (D.fmul (S50_0 D a0) (S50_0 D a0)) (D.fc 4607182418800017408)) (S25_0 D a4))))) (D.fmul (D.fc 4611686018427387904) (S52_0 D a1 a2 a3 (D.fmul (S51_0 D a5) (S28_0 D (D.fite (D.flt (D.fsub (D.fc 4607182418800017408) (D.fmul (S28_0 D (D.fdiv (D.fsub (D.fc 4607182418800017408) (S25_0 D a4)) (D.fadd (D.fc 4607182418800017408) (D.fmul (D.fsub (D.fmul (S50_0 D a0) (S50_0 D a0)) (D.fc 4607182418800017408)) (S25_0 D a4))))) (S28_0 D (D.fdiv (D.fsub (D.fc 4607182418800017408) (S25_0 D a4)) (D.fadd (D.fc 4607182418800017408) (D.fmul (D.fsub (D.fmul (S50_0 D a0) (S50_0 D a0)) (D.fc 4607182418800017408)) (S25_0 D a4))))))) (D.fc 0)) (D.fc 0) (D.fsub (D.fc 4607182418800017408) (D.fmul (S28_0 D (D.fdiv (D.fsub (D.fc 4607182418800017408) (S25_0 D a4)) (D.fadd (D.fc 4607182418800017408) (D.fmul (D.fsub (D.fmul (S50_0 D a0) (S50_0 D a0)) (D.fc 4607182418800017408)) (S25_0 D a4))))) (S28_0 D (D.fdiv (D.fsub (D.fc 4607182418800017408) (S25_0 D a4)) (D.fadd (D.fc 4607182418800017408) (D.fmul (D.fsub (D.fmul (S50_0 D a0) (S50_0 D a0)) (D.fc 4607182418800017408)) (S25_0 D a4)))))))))) (D.fmul (S51_1 D a5) (S28_0 D (D.fite (D.flt (D.fsub (D.fc 4607182418800017408) (D.fmul (S28_0 D (D.fdiv (D.fsub (D.fc 4607182418800017408) (S25_0 D a4)) (D.fadd (D.fc 4607182418800017408) (D.fmul (D.fsub (D.fmul (S50_0 D a0) (S50_0 D a0)) (D.fc 4607182418800017408)) (S25_0 D a4))))) (S28_0 D (D.fdiv (D.fsub (D.fc 4607182418800017408) (S25_0 D a4)) (D.fadd (D.fc 4607182418800017408) (D.fmul (D.fsub (D.fmul (S50_0 D a0) (S50_0 D a0)) (D.fc 4607182418800017408)) (S25_0 D a4))))))) (D.fc 0)) (D.fc 0) (D.fsub (D.fc 4607182418800017408) (D.fmul (S28_0 D (D.fdiv (D.fsub (D.fc 4607182418800017408) (S25_0 D a4)) (D.fadd (D.fc 4607182418800017408) (D.fmul (D.fsub (D.fmul (S50_0 D a0) (S50_0 D a0)) (D.fc 4607182418800017408)) (S25_0 D a4))))) (S28_0 D (D.fdiv (D.fsub (D.fc 4607182418800017408) (S25_0 D a4)) (D.fadd (D.fc 4607182418800017408) (D.fmul (D.fsub (D.fmul (S50_0 D a0) (S50_0 D a0)) (D.fc 4607182418800017408)) (S25_0 D a4)))))))))) (S28_0 D (D.fdiv (D.fsub (D.fc 4607182418800017408) (S25_0 D a4)) (D.fadd (D.fc 4607182418800017408) (D.fmul (D.fsub (D.fmul (S50_0 D a0) (S50_0 D a0)) (D.fc 4607182418800017408)) (S25_0 D a4)))))))) a3) (D.fc 0)) (D.bc false)) (S53_2 D (S54_2 D (S28_0 D (D.fdiv (D.fsub (D.fc 4607182418800017408) (S25_0 D a4)) (D.fadd (D.fc 4607182418800017408) (D.fmul (D.fsub (D.fmul (S50_0 D a0) (S50_0 D a0)) (D.fc 4607182418800017408)) (S25_0 D a4))))) (D.fmul (D.fc 4611686018427387904) (S52_0 D a1 a2 a3 (D.fmul (S51_0 D a5) (S28_0 D (D.fite (D.flt (D.fsub (D.fc 4607182418800017408) (D.fmul (S28_0 D (D.fdiv (D.fsub (D.fc 4607182418800017408) (S25_0 D a4)) (D.fadd (D.fc 4607182418800017408) (D.fmul (D.fsub (D.fmul (S50_0 D a0) (S50_0 D a0)) (D.fc 4607182418800017408)) (S25_0 D a4))))) (S28_0 D (D.fdiv (D.fsub (D.fc 4607182418800017408) (S25_0 D a4)) (D.fadd (D.fc 4607182418800017408) (D.fmul (D.fsub (D.fmul (S50_0 D a0) (S50_0 D a0)) (D.fc 4607182418800017408)) (S25_0 D a4))))))) (D.fc 0)) (D.fc 0) (D.fsub (D.fc 4607182418800017408) (D.fmul (S28_0 D (D.fdiv (D.fsub (D.fc 4607182418800017408) (S25_0 D a4)) (D.fadd (D.fc 4607182418800017408) (D.fmul (D.fsub (D.fmul (S50_0 D a0) (S50_0 D a0)) (D.fc 4607182418800017408)) (S25_0 D a4))))) (S28_0 D (D.fdiv (D.fsub (D.fc 4607182418800017408) (S25_0 D a4)) (D.fadd (D.fc 4607182418800017408) (D.fmul (D.fsub (D.fmul (S50_0 D a0) (S50_0 D a0)) (D.fc 4607182418800017408)) (S25_0 D a4)))))))))) (D.fmul (S51_1 D a5) (S28_0 D (D.fite (D.flt (D.fsub (D.fc 4607182418800017408) (D.fmul (S28_0 D (D.fdiv (D.fsub (D.fc 4607182418800017408) (S25_0 D a4)) (D.fadd (D.fc 4607182418800017408) (D.fmul (D.fsub (D.fmul (S50_0 D a0) (S50_0 D a0)) (D.fc 4607182418800017408)) (S25_0 D a4))))) (S28_0 D (D.fdiv (D.fsub (D.fc 4607182418800017408) (S25_0 D a4)) (D.fadd (D.fc 4607182418800017408) (D.fmul (D.fsub (D.fmul (S50_0 D a0) (S50_0 D a0)) (D.fc 4607182418800017408)) (S25_0 D a4))))))) (D.fc 0)) (D.fc 0) (D.fsub (D.fc 4607182418800017408) (D.fmul (S28_0 D (D.fdiv (D.fsub (D.fc 4607182418800017408) (S25_0 D a4)) (D.fadd (D.fc 4607182418800017408) (D.fmul (D.fsub (D.fmul (S50_0 D a0) (S50_0 D a0)) (D.fc 4607182418800017408)) (S25_0 D a4))))) (S28_0 D (D.fdiv (D.fsub (D.fc 4607182418800017408) (S25_0 D a4)) (D.fadd (D.fc 4607182418800017408) (D.fmul (D.fsub (D.fmul (S50_0 D a0) (S50_0 D a0)) (D.fc 4607182418800017408)) (S25_0 D a4)))))))))) (S28_0 D (D.fdiv (D.fsub (D.fc 4607182418800017408) (S25_0 D a4)) (D.fadd (D.fc 4607182418800017408) (D.fmul (D.fsub (D.fmul (S50_0 D a0) (S50_0 D a0)) (D.fc 4607182418800017408)) (S25_0 D a4)))))))) a3) (D.fc 0))
def S26_3 (D : Dom) (a0 : D.F) (a1 : D.F) (a2 : D.F) (a3 : D.F) (a4 : D.F) (a5 : D.F) : D.B := (D.bite (D.bite (D.bite (D.fgt (S52_0 D a1 a2 a3 (D.fmul (S51_0 D a5) (S28_0 D (D.fite (D.flt (D.fsub (D.fc 4607182418800017408) (D.fmul (S28_0 D (D.fdiv (D.fsub (D.fc 4607182418800017408) (S25_0 D a4)) (D.fadd (D.fc 4607182418800017408) (D.fmul (D.fsub (D.fmul (S50_0 D a0) (S50_0 D a0)) (D.fc 4607182418800017408)) (S25_0 D a4))))) (S28_0 D (D.fdiv (D.fsub (D.fc 4607182418800017408) (S25_0 D a4)) (D.fadd (D.fc 4607182418800017408) (D.fmul (D.fsub (D.fmul (S50_0 D a0) (S50_0 D a0)) (D.fc 4607182418800017408)) (S25_0 D a4))))))) (D.fc 0)) (D.fc 0) (D.fsub (D.fc 4607182418800017408) (D.fmul (S28_0 D (D.fdiv (D.fsub (D.fc 4607182418800017408) (S25_0 D a4)) (D.fadd (D.fc 4607182418800017408) (D.fmul (D.fsub (D.fmul (S50_0 D a0) (S50_0 D a0)) (D.fc 4607182418800017408)) (S25_0 D a4))))) (S28_0 D (D.fdiv (D.fsub (D.fc 4607182418800017408) (S25_0 D a4)) (D.fadd (D.fc 4607182418800017408) (D.fmul (D.fsub (D.fmul (S50_0 D a0) (S50_0 D a0)) (D.fc 4607182418800017408)) (S25_0 D a4)))))))))) (D.fmul (S51_1 D a5) (S28_0 D (D.fite (D.flt (D.fsub (D.fc 4607182418800017408) (D.fmul (S28_0 D (D.fdiv (D.fsub (D.fc 4607182418800017408) (S25_0 D a4)) (D.fadd (D.fc 4607182418800017408) (D.fmul (D.fsub (D.fmul (S50_0 D a0) (S50_0 D a0)) (D.fc 4607182418800017408)) (S25_0 D a4))))) (S28_0 D (D.fdiv (D.fsub (D.fc 4607182418800017408) (S25_0 D a4)) (D.fadd (D.fc 4607182418800017408) (D.fmul (D.fsub (D.fmul (S50_0 D a0) (S50_0 D a0)) (D.fc 4607182418800017408)) (S25_0 D a4))))))) (D.fc 0)) (D.fc 0) (D.fsub (D.fc 4607182418800017408) (D.fmul (S28_0 D (D.fdiv (D.fsub (D.fc 4607182418800017408) (S25_0 D a4)) (D.fadd (D.fc 4607182418800017408) (D.fmul (D.fsub (D.fmul (S50_0 D a0) (S50_0 D a0)) (D.fc 4607182418800017408)) (S25_0 D a4))))) (S28_0 D (D.fdiv (D.fsub (D.fc 4607182418800017408) (S25_0 D a4)) (D.fadd (D.fc 4607182418800017408) (D.fmul (D.fsub (D.fmul (S50_0 D a0) (S50_0 D a0)) (D.fc 4607182418800017408)) (S25_0 D a4)))))))))) (S28_0 D (D.fdiv (D.fsub (D.fc 4607182418800017408) (S25_0 D a4)) (D.fadd (D.fc 4607182418800017408) (D.fmul (D.fsub (D.fmul (S50_0 D a0) (S50_0 D a0)) (D.fc 4607182418800017408)) (S25_0 D a4)))))) (D.fc 0)) (D.fgt a3 (D.fc 0)) (D.bc false)) (D.fgt (S53_2 D (S54_2 D (S28_0 D (D.fdiv (D.fsub (D.fc 4607182418800017408) (S25_0 D a4)) (D.fadd (D.fc 4607182418800017408) (D.fmul (D.fsub (D.fmul (S50_0 D a0) (S50_0 D a0)) (D.fc 4607182418800017408)) (S25_0 D a4))))) (D.fmul (D.fc 4611686018427387904) (S52_0 D a1 a2 a3 (D.fmul (S51_0 D a5) (S28_0 D (D.fite (D.flt (D.fsub (D.fc 4607182418800017408) (D.fmul (S28_0 D (D.fdiv (D.fsub (D.fc 4607182418800017408) (S25_0 D a4)) (D.fadd (D.fc 4607182418800017408) (D.fmul (D.fsub (D.fmul (S50_0 D a0) (S50_0 D a0)) (D.fc 4607182418800017408)) (S25_0 D a4))))) (S28_0 D (D.fdiv (D.fsub (D.fc 4607182418800017408) (S25_0 D a4)) (D.fadd (D.fc 4607182418800017408) (D.fmul (D.fsub (D.fmul (S50_0 D a0) (S50_0 D a0)) (D.fc 4607182418800017408)) (S25_0 D a4))))))) (D.fc 0)) (D.fc 0) (D.fsub (D.fc 4607182418800017408) (D.fmul (S28_0 D (D.fdiv (D.fsub (D.fc 4607182418800017408) (S25_0 D a4)) (D.fadd (D.fc 4607182418800017408) (D.fmul (D.fsub (D.fmul (S50_0 D a0) (S50_0 D a0)) (D.fc 4607182418800017408)) (S25_0 D a4))))) (S28_0 D (D.fdiv (D.fsub (D.fc 4607182418800017408) (S25_0 D a4)) (D.fadd (D.fc 4607182418800017408) (D.fmul (D.fsub (D.fmul (S50_0 D a0) (S50_0 D a0)) (D.fc 4607182418800017408)) (S25_0 D a4)))))))))) (D.fmul (S51_1 D a5) (S28_0 D (D.fite (D.flt (D.fsub (D.fc 4607182418800017408) (D.fmul (S28_0 D (D.fdiv (D.fsub (D.fc 4607182418800017408) (S25_0 D a4)) (D.fadd (D.fc 4607182418800017408) (D.fmul (D.fsub (D.fmul (S50_0 D a0) (S50_0 D a0)) (D.fc 4607182418800017408)) (S25_0 D a4))))) (S28_0 D (D.fdiv (D.fsub (D.fc 4607182418800017408) (S25_0 D a4)) (D.fadd (D.fc 4607182418800017408) (D.fmul (D.fsub (D.fmul (S50_0 D a0) (S50_0 D a0)) (D.fc 4607182418800017408)) (S25_0 D a4))))))) (D.fc 0)) (D.fc 0) (D.fsub (D.fc 4607182418800017408) (D.fmul (S28_0 D (D.fdiv (D.fsub (D.fc 4607182418800017408) (S25_0 D a4)) (D.fadd (D.fc 4607182418800017408) (D.fmul (D.fsub (D.fmul (S50_0 D a0) (S50_0 D a0)) (D.fc 4607182418800017408)) (S25_0 D a4))))) (S28_0 D (D.fdiv (D.fsub (D.fc 4607182418800017408) (S25_0 D a4)) (D.fadd (D.fc 4607182418800017408) (D.fmul (D.fsub (D.fmul (S50_0 D a0) (S50_0 D a0)) (D.fc 4607182418800017408)) (S25_0 D a4)))))))))) (S28_0 D (D.fdiv (D.fsub (D.fc 4607182418800017408) (S25_0 D a4)) (D.fadd (D.fc 4607182418800017408) (D.fmul (D.fsub (D.fmul (S50_0 D a0) (S50_0 D a0)) (D.fc 4607182418800017408)) (S25_0 D a4)))))))) a3) (D.fc 0)) (D.bc false)) (D.bc true) (D.bc false))
theorem ev26 (D : Dom) (a0 : D.F) (a1 : D.F) (a2 : D.F) (a3 : D.F) (a4 : D.F) (a5 : D.F) : joinT (evFn Try.prog (tbl_53 D) 60 26 [.fl a0, .agg [.fl a1, .fl a2, .fl a3], .fl a4, .fl a5]) = .val none (.tup [.agg [.fl (S26_0 D a0 a1 a2 a3 a4 a5), .fl (S26_1 D a0 a1 a2 a3 a4 a5), .fl (S26_2 D a0 a1 a2 a3 a4 a5)], .sb (S26_3 D a0 a1 a2 a3 a4 a5)]) := by kernel_rfl
def sp26 : Ev.Spec := fun D l => argF l fun a0 r0 => argA r0 fun c1 r1 => argF c1 fun a1 r2 => argF r2 fun a2 r3 => argF r3 fun a3 r4 => arg0 r4 (argF r1 fun a4 r101 => argF r101 fun a5 r102 => arg0 r102 (.ret (.tup [.agg [.fl (S26_0 D a0 a1 a2 a3 a4 a5), .fl (S26_1 D a0 a1 a2 a3 a4 a5), .fl (S26_2 D a0 a1 a2 a3 a4 a5)], .sb (S26_3 D a0 a1 a2 a3 a4 a5)])))
theorem en26 : ∀ l r, (sp26 R l).run = some r → Entry Try.prog 26 l r := by
  intro l r h
  obtain ⟨x0, _, h, L0⟩ := argF_inv h
  obtain ⟨_, _, h, L1⟩ := argA_inv h
  obtain ⟨x2, _, h, L2⟩ := argF_inv h
  obtain ⟨x3, _, h, L3⟩ := argF_inv h
  obtain ⟨x4, _, h, L4⟩ := argF_inv h
  obtain ⟨h, L5⟩ := arg0_inv h
  obtain ⟨x6, _, h, L6⟩ := argF_inv h
  obtain ⟨x7, _, h, L7⟩ := argF_inv h
  obtain ⟨h, L8⟩ := arg0_inv h
  cases h
  exact (entry_of prg tok_53 (ev26 R x0 x2 x3 x4 x6 x7) (fun o ho => nomatch ho) rfl).le (L0 _ (L1 _ _ (L2 _ (L3 _ (L4 _ L5))) (L6 _ (L7 _ L8))))
def tl_26 : List (Nat × Ev.Spec) := (26, sp26) :: tl_53
def tbl_26 (D : Dom) : Tbl D := tblOf tl_26 D
theorem tok_26 : TblOK Try.prog (tbl_26 R) := TblOK.cons tok_53 en26

-- penumbra/penumbraref09.Disk
def S27_0 (D : Dom) (a0 : D.F) (a1 : D.F) : D.F := (D.fmul (S51_0 D a1) (S28_0 D (S25_0 D a0)))
def S27_1 (D : Dom) (a0 : D.F) (a1 : D.F) : D.F := (D.fmul (S51_1 D a1) (S28_0 D (S25_0 D a0)))
def S27_2 (D : Dom) (a1 : D.F) : D.F := (D.fmul (S51_2 D a1) (D.fc 4611686018427387904))
theorem ev27 (D : Dom) (a0 : D.F) (a1 : D.F) : joinT (evFn Try.prog (tbl_26 D) 60 27 [.fl a0, .fl a1]) = .val none (.tup [.fl (S27_0 D a0 a1), .fl (S27_1 D a0 a1), .fl (S27_2 D a1)]) := by kernel_rfl
def sp27 : Ev.Spec := fun D l => argF l fun a0 r0 => argF r0 fun a1 r1 => arg0 r1 (.ret (.tup [.fl (S27_0 D a0 a1), .fl (S27_1 D a0 a1), .fl (S27_2 D a1)]))
theorem en27 : ∀ l r, (sp27 R l).run = some r → Entry Try.prog 27 l r := by
  intro l r h
  obtain ⟨x0, _, h, L0⟩ := argF_inv h
  obtain ⟨x1, _, h, L1⟩ := argF_inv h
  obtain ⟨h, L2⟩ := arg0_inv h
  cases h
  exact (entry_of prg tok_26 (ev27 R x0 x1) (fun o ho => nomatch ho) rfl).le (L0 _ (L1 _ L2))
def tl_27 : List (Nat × Ev.Spec) := (27, sp27) :: tl_26
def tbl_27 (D : Dom) : Tbl D := tblOf tl_27 D
theorem tok_27 : TblOK Try.prog (tbl_27 R) := TblOK.cons tok_26 en27

-- penumbra/penumbraref16.Sample
def S7_0 (D : Dom) (a0 : D.F) (a1 : D.F) (a2 : D.F) (a3 : D.F) (a4 : D.F) (a5 : D.F) (a6 : D.F) (a7 : D.F) (a8 : D.F) (a9 : D.F) (a10 : D.F) (a11 : D.F) (a12 : D.F) : D.F := (D.fite (D.fge (S25_0 D a10) (S12_0 D a0 a1 a2 a3 a4 a5)) (S26_0 D a6 a7 a8 a9 a11 a12) (D.fite (D.bite (D.fgt a9 (D.fc 0)) (D.fgt (S28_0 D (D.fsub (D.fc 4607182418800017408) (S25_0 D a11))) (D.fc 0)) (D.bc false)) (S27_0 D a11 a12) (D.fc 0)))
def S7_1 (D : Dom) (a0 : D.F) (a1 : D.F) (a2 : D.F) (a3 : D.F) (a4 : D.F) (a5 : D.F) (a6 : D.F) (a7 : D.F) (a8 : D.F) (a9 : D.F) (a10 : D.F) (a11 : D.F) (a12 : D.F) : D.F := (D.fite (D.fge (S25_0 D a10) (S12_0 D a0 a1 a2 a3 a4 a5)) (S26_1 D a6 a7 a8 a9 a11 a12) (D.fite (D.bite (D.fgt a9 (D.fc 0)) (D.fgt (S28_0 D (D.fsub (D.fc 4607182418800017408) (S25_0 D a11))) (D.fc 0)) (D.bc false)) (S27_1 D a11 a12) (D.fc 0)))
def S7_2 (D : Dom) (a0 : D.F) (a1 : D.F) (a2 : D.F) (a3 : D.F) (a4 : D.F) (a5 : D.F) (a6 : D.F) (a7 : D.F) (a8 : D.F) (a9 : D.F) (a10 : D.F) (a11 : D.F) (a12 : D.F) : D.F := (D.fite (D.fge (S25_0 D a10) (S12_0 D a0 a1 a2 a3 a4 a5)) (S26_2 D a6 a7 a8 a9 a11 a12) (D.fite (D.bite (D.fgt a9 (D.fc 0)) (D.fgt (S28_0 D (D.fsub (D.fc 4607182418800017408) (S25_0 D a11))) (D.fc 0)) (D.bc false)) (S28_0 D (D.fsub (D.fc 4607182418800017408) (S25_0 D a11))) (D.fc 0)))
def S7_3 (D : Dom) (a0 : D.F) (a1 : D.F) (a2 : D.F) (a3 : D.F) (a4 : D.F) (a5 : D.F) (a6 : D.F) (a7 : D.F) (a8 : D.F) (a9 : D.F) (a10 : D.F) (a11 : D.F) (a12 : D.F) : D.B := (D.bite (D.fge (S25_0 D a10) (S12_0 D a0 a1 a2 a3 a4 a5)) (S26_3 D a6 a7 a8 a9 a11 a12) (D.bite (D.bite (D.fgt a9 (D.fc 0)) (D.fgt (S28_0 D (D.fsub (D.fc 4607182418800017408) (S25_0 D a11))) (D.fc 0)) (D.bc false)) (D.bc true) (D.bc false)))
def O7 (D : Dom) (a0 : D.F) (a1 : D.F) (a2 : D.F) (a3 : D.F) (a4 : D.F) (a5 : D.F) : D.B := (O12 D a0 a1 a2 a3 a4 a5)
theorem ev7 (D : Dom) (a0 : D.F) (a1 : D.F) (a2 : D.F) (a3 : D.F) (a4 : D.F) (a5 : D.F) (a6 : D.F) (a7 : D.F) (a8 : D.F) (a9 : D.F) (a10 : D.F) (a11 : D.F) (a12 : D.F) : joinT (evFn Try.prog (tbl_27 D) 60 7 [.agg [.fl a0, .fl a1, .fl a2, .fl a3, .fl a4, .fl a5, .fl a6], .agg [.fl a7, .fl a8, .fl a9], .fl a10, .fl a11, .fl a12]) = .val (some (O7 D a0 a1 a2 a3 a4 a5)) (.tup [.agg [.fl (S7_0 D a0 a1 a2 a3 a4 a5 a6 a7 a8 a9 a10 a11 a12), .fl (S7_1 D a0 a1 a2 a3 a4 a5 a6 a7 a8 a9 a10 a11 a12), .fl (S7_2 D a0 a1 a2 a3 a4 a5 a6 a7 a8 a9 a10 a11 a12)], .sb (S7_3 D a0 a1 a2 a3 a4 a5 a6 a7 a8 a9 a10 a11 a12)]) := by kernel_rfl
def sp7 : Ev.Spec := fun D l => argA l fun c0 r0 => argF c0 fun a0 r1 => argF r1 fun a1 r2 => argF r2 fun a2 r3 => argF r3 fun a3 r4 => argF r4 fun a4 r5 => argF r5 fun a5 r6 => argF r6 fun a6 r7 => arg0 r7 (argA r0 fun c100 r100 => argF c100 fun a7 r101 => argF r101 fun a8 r102 => argF r102 fun a9 r103 => arg0 r103 (argF r100 fun a10 r200 => argF r200 fun a11 r201 => argF r201 fun a12 r202 => arg0 r202 (.node (O7 D a0 a1 a2 a3 a4 a5) (.ret (.tup [.agg [.fl (S7_0 D a0 a1 a2 a3 a4 a5 a6 a7 a8 a9 a10 a11 a12), .fl (S7_1 D a0 a1 a2 a3 a4 a5 a6 a7 a8 a9 a10 a11 a12), .fl (S7_2 D a0 a1 a2 a3 a4 a5 a6 a7 a8 a9 a10 a11 a12)], .sb (S7_3 D a0 a1 a2 a3 a4 a5 a6 a7 a8 a9 a10 a11 a12)])) (.fail "pre"))))
theorem en7 : ∀ l r, (sp7 R l).run = some r → Entry Try.prog 7 l r := by
  intro l r h
  obtain ⟨_, _, h, L0⟩ := argA_inv h
  obtain ⟨x1, _, h, L1⟩ := argF_inv h
  obtain ⟨x2, _, h, L2⟩ := argF_inv h
  obtain ⟨x3, _, h, L3⟩ := argF_inv h
  obtain ⟨x4, _, h, L4⟩ := argF_inv h
  obtain ⟨x5, _, h, L5⟩ := argF_inv h
  obtain ⟨x6, _, h, L6⟩ := argF_inv h
  obtain ⟨x7, _, h, L7⟩ := argF_inv h
  obtain ⟨h, L8⟩ := arg0_inv h
  obtain ⟨_, _, h, L9⟩ := argA_inv h
  obtain ⟨x10, _, h, L10⟩ := argF_inv h
  obtain ⟨x11, _, h, L11⟩ := argF_inv h
  obtain ⟨x12, _, h, L12⟩ := argF_inv h
  obtain ⟨h, L13⟩ := arg0_inv h
  obtain ⟨x14, _, h, L14⟩ := argF_inv h
  obtain ⟨x15, _, h, L15⟩ := argF_inv h
  obtain ⟨x16, _, h, L16⟩ := argF_inv h
  obtain ⟨h, L17⟩ := arg0_inv h
  obtain ⟨hok, rfl⟩ := run_okay h
  exact (entry_of prg tok_27 (ev7 R x1 x2 x3 x4 x5 x6 x7 x10 x11 x12 x14 x15 x16) (fun o ho => (Option.some.inj ho) ▸ hok) rfl).le (L0 _ _ (L1 _ (L2 _ (L3 _ (L4 _ (L5 _ (L6 _ (L7 _ L8))))))) (L9 _ _ (L10 _ (L11 _ (L12 _ L13))) (L14 _ (L15 _ (L16 _ L17)))))
def tl_7 : List (Nat × Ev.Spec) := (7, sp7) :: tl_27
def tbl_7 (D : Dom) : Tbl D := tblOf tl_7 D
theorem tok_7 : TblOK Try.prog (tbl_7 R) := TblOK.cons tok_27 en7

-- penumbra/warp.size
def S99_0 (D : Dom) (a0 : D.F) : D.F := (D.fite (D.flt a0 (D.fc 0)) (D.fsub (D.fc 0) a0) a0)
theorem ev99 (D : Dom) (a0 : D.F) : joinT (evFn Try.prog (tbl_7 D) 60 99 [.fl a0]) = .val none (.fl (S99_0 D a0)) := by kernel_rfl
def sp99 : Ev.Spec := fun D l => argF l fun a0 r0 => arg0 r0 (.ret (.fl (S99_0 D a0)))
theorem en99 : ∀ l r, (sp99 R l).run = some r → Entry Try.prog 99 l r := by
  intro l r h
  obtain ⟨x0, _, h, L0⟩ := argF_inv h
  obtain ⟨h, L1⟩ := arg0_inv h
  cases h
  exact (entry_of prg tok_7 (ev99 R x0) (fun o ho => nomatch ho) rfl).le (L0 _ L1)
def tl_99 : List (Nat × Ev.Spec) := (99, sp99) :: tl_7
def tbl_99 (D : Dom) : Tbl D := tblOf tl_99 D
theorem tok_99 : TblOK Try.prog (tbl_99 R) := TblOK.cons tok_7 en99

-- penumbra/vec.Finite
def S100_0 (D : Dom) (a0 : D.F) (a1 : D.F) (a2 : D.F) : D.B := (D.bite (D.bite (S66_0 D a0) (S66_0 D a1) (D.bc false)) (S66_0 D a2) (D.bc false))
theorem ev100 (D : Dom) (a0 : D.F) (a1 : D.F) (a2 : D.F) : joinT (evFn Try.prog (tbl_99 D) 60 100 [.agg [.fl a0, .fl a1, .fl a2]]) = .val none (.sb (S100_0 D a0 a1 a2)) := by kernel_rfl
def sp100 : Ev.Spec := fun D l => argA l fun c0 r0 => argF c0 fun a0 r1 => argF r1 fun a1 r2 => argF r2 fun a2 r3 => arg0 r3 (arg0 r0 (.ret (.sb (S100_0 D a0 a1 a2))))
theorem en100 : ∀ l r, (sp100 R l).run = some r → Entry Try.prog 100 l r := by
  intro l r h
  obtain ⟨_, _, h, L0⟩ := argA_inv h
  obtain ⟨x1, _, h, L1⟩ := argF_inv h
  obtain ⟨x2, _, h, L2⟩ := argF_inv h
  obtain ⟨x3, _, h, L3⟩ := argF_inv h
  obtain ⟨h, L4⟩ := arg0_inv h
  obtain ⟨h, L5⟩ := arg0_inv h
  cases h
  exact (entry_of prg tok_99 (ev100 R x1 x2 x3) (fun o ho => nomatch ho) rfl).le (L0 _ _ (L1 _ (L2 _ (L3 _ L4))) L5)
def tl_100 : List (Nat × Ev.Spec) := (100, sp100) :: tl_99
def tbl_100 (D : Dom) : Tbl D := tblOf tl_100 D
theorem tok_100 : TblOK Try.prog (tbl_100 R) := TblOK.cons tok_99 en100

-- penumbra/warp.Angle
def S86_0 (D : Dom) (a0 : D.F) (a1 : D.F) : D.Z := (D.zite (D.bite (D.feq (D.fite (D.bnot (D.fge (S99_0 D a0) (S99_0 D a1))) (S99_0 D a1) (S99_0 D a0)) (D.fc 0)) (D.bc true) (D.bnot (S100_0 D (D.fite (D.bnot (D.fge (S99_0 D a0) (S99_0 D a1))) (S99_0 D a1) (S99_0 D a0)) (D.fite (D.bnot (D.fge (S99_0 D a0) (S99_0 D a1))) (S99_0 D a0) (S99_0 D a1)) (D.fc 0)))) (D.zite (D.bite (D.bite (D.fge a0 (D.fc 0)) (D.fge a1 (D.fc 0)) (D.bc false)) (D.fge (S99_0 D a0) (S99_0 D a1)) (D.bc false)) (D.zc 0) (D.zite (D.bite (D.bite (D.fge a0 (D.fc 0)) (D.fge a1 (D.fc 0)) (D.bc false)) (D.flt (S99_0 D a0) (S99_0 D a1)) (D.bc false)) (D.zc 1) (D.zite (D.bite (D.bite (D.flt a0 (D.fc 0)) (D.fge a1 (D.fc 0)) (D.bc false)) (D.flt (S99_0 D a0) (S99_0 D a1)) (D.bc false)) (D.zc 2) (D.zite (D.bite (D.bite (D.flt a0 (D.fc 0)) (D.fge a1 (D.fc 0)) (D.bc false)) (D.fge (S99_0 D a0) (S99_0 D a1)) (D.bc false)) (D.zc 3) (D.zite (D.bite (D.bite (D.flt a0 (D.fc 0)) (D.flt a1 (D.fc 0)) (D.bc false)) (D.fge (S99_0 D a0) (S99_0 D a1)) (D.bc false)) (D.zc 4) (D.zite (D.bite (D.bite (D.flt a0 (D.fc 0)) (D.flt a1 (D.fc 0)) (D.bc false)) (D.flt (S99_0 D a0) (S99_0 D a1)) (D.bc false)) (D.zc 5) (D.zite (D.bite (D.bite (D.fge a0 (D.fc 0)) (D.flt a1 (D.fc 0)) (D.bc false)) (D.flt (S99_0 D a0) (S99_0 D a1)) (D.bc false)) (D.zc 6) (D.zc 7)))))))) (D.zite (D.bite (D.bite (D.fge a0 (D.fc 0)) (D.fge a1 (D.fc 0)) (D.bc false)) (D.fge (S99_0 D a0) (S99_0 D a1)) (D.bc false)) (D.zc 0) (D.zite (D.bite (D.bite (D.fge a0 (D.fc 0)) (D.fge a1 (D.fc 0)) (D.bc false)) (D.flt (S99_0 D a0) (S99_0 D a1)) (D.bc false)) (D.zc 1) (D.zite (D.bite (D.bite (D.flt a0 (D.fc 0)) (D.fge a1 (D.fc 0)) (D.bc false)) (D.flt (S99_0 D a0) (S99_0 D a1)) (D.bc false)) (D.zc 2) (D.zite (D.bite (D.bite (D.flt a0 (D.fc 0)) (D.fge a1 (D.fc 0)) (D.bc false)) (D.fge (S99_0 D a0) (S99_0 D a1)) (D.bc false)) (D.zc 3) (D.zite (D.bite (D.bite (D.flt a0 (D.fc 0)) (D.flt a1 (D.fc 0)) (D.bc false)) (D.fge (S99_0 D a0) (S99_0 D a1)) (D.bc false)) (D.zc 4) (D.zite (D.bite (D.bite (D.flt a0 (D.fc 0)) (D.flt a1 (D.fc 0)) (D.bc false)) (D.flt (S99_0 D a0) (S99_0 D a1)) (D.bc false)) (D.zc 5) (D.zite (D.bite (D.bite (D.fge a0 (D.fc 0)) (D.flt a1 (D.fc 0)) (D.bc false)) (D.flt (S99_0 D a0) (S99_0 D a1)) (D.bc false)) (D.zc 6) (D.zc 7)))))))))
def S86_1 (D : Dom) (a0 : D.F) (a1 : D.F) : D.F := (D.fite (D.bite (D.feq (D.fite (D.bnot (D.fge (S99_0 D a0) (S99_0 D a1))) (S99_0 D a1) (S99_0 D a0)) (D.fc 0)) (D.bc true) (D.bnot (S100_0 D (D.fite (D.bnot (D.fge (S99_0 D a0) (S99_0 D a1))) (S99_0 D a1) (S99_0 D a0)) (D.fite (D.bnot (D.fge (S99_0 D a0) (S99_0 D a1))) (S99_0 D a0) (S99_0 D a1)) (D.fc 0)))) (D.fc 0) (D.fdiv (D.fite (D.bnot (D.fge (S99_0 D a0) (S99_0 D a1))) (S99_0 D a0) (S99_0 D a1)) (D.fite (D.bnot (D.fge (S99_0 D a0) (S99_0 D a1))) (S99_0 D a1) (S99_0 D a0))))
theorem ev86 (D : Dom) (a0 : D.F) (a1 : D.F) : joinT (evFn Try.prog (tbl_100 D) 60 86 [.fl a0, .fl a1]) = .val none (.tup [.si .i64 (S86_0 D a0 a1), .fl (S86_1 D a0 a1)]) := by kernel_rfl
def sp86 : Ev.Spec := fun D l => argF l fun a0 r0 => argF r0 fun a1 r1 => arg0 r1 (.ret (.tup [.si .i64 (S86_0 D a0 a1), .fl (S86_1 D a0 a1)]))
theorem en86 : ∀ l r, (sp86 R l).run = some r → Entry Try.prog 86 l r := by
  intro l r h
  obtain ⟨x0, _, h, L0⟩ := argF_inv h
  obtain ⟨x1, _, h, L1⟩ := argF_inv h
  obtain ⟨h, L2⟩ := arg0_inv h
  cases h
  exact (entry_of prg tok_100 (ev86 R x0 x1) (fun o ho => nomatch ho) rfl).le (L0 _ (L1 _ L2))
def tl_86 : List (Nat × Ev.Spec) := (86, sp86) :: tl_100
def tbl_86 (D : Dom) : Tbl D := tblOf tl_86 D
theorem tok_86 : TblOK Try.prog (tbl_86 R) := TblOK.cons tok_100 en86

-- penumbra/warp.Density
def S64_0 (D : Dom) (a0 : D.F) (a1 : D.F) : D.F := (D.fmul (D.fadd (D.fc 4607182418800017408) (D.fmul (S86_1 D a0 a1) (S86_1 D a0 a1))) (D.fc 4593671619917905920))
theorem ev64 (D : Dom) (a0 : D.F) (a1 : D.F) : joinT (evFn Try.prog (tbl_86 D) 60 64 [.fl a0, .fl a1]) = .val none (.fl (S64_0 D a0 a1)) := by kernel_rfl
def sp64 : Ev.Spec := fun D l => argF l fun a0 r0 => argF r0 fun a1 r1 => arg0 r1 (.ret (.fl (S64_0 D a0 a1)))
theorem en64 : ∀ l r, (sp64 R l).run = some r → Entry Try.prog 64 l r := by
  intro l r h
  obtain ⟨x0, _, h, L0⟩ := argF_inv h
  obtain ⟨x1, _, h, L1⟩ := argF_inv h
  obtain ⟨h, L2⟩ := arg0_inv h
  cases h
  exact (entry_of prg tok_86 (ev64 R x0 x1) (fun o ho => nomatch ho) rfl).le (L0 _ (L1 _ L2))
def tl_64 : List (Nat × Ev.Spec) := (64, sp64) :: tl_86
def tbl_64 (D : Dom) : Tbl D := tblOf tl_64 D
theorem tok_64 : TblOK Try.prog (tbl_64 R) := TblOK.cons tok_86 en64

-- penumbra/lambert.Density
def S35_0 (D : Dom) (a2 : D.F) (a3 : D.F) (a4 : D.F) (a5 : D.F) : D.F := (D.fite (D.bnot (S44_0 D a2 a5)) (D.fc 0) (D.fite (D.bnot (S66_0 D (D.fmul (D.fmul (D.fc 4611686018427387904) (S64_0 D a3 a4)) (S65_0 D a5)))) (D.fc 0) (D.fmul (D.fmul (D.fc 4611686018427387904) (S64_0 D a3 a4)) (S65_0 D a5))))
theorem ev35 (D : Dom) (a0 : D.F) (a1 : D.F) (a2 : D.F) (a3 : D.F) (a4 : D.F) (a5 : D.F) : joinT (evFn Try.prog (tbl_64 D) 60 35 [.agg [.fl a0, .fl a1, .fl a2], .agg [.fl a3, .fl a4, .fl a5]]) = .val none (.fl (S35_0 D a2 a3 a4 a5)) := by kernel_rfl
def sp35 : Ev.Spec := fun D l => argA l fun c0 r0 => argF c0 fun _a0 r1 => argF r1 fun _a1 r2 => argF r2 fun a2 r3 => arg0 r3 (argA r0 fun c100 r100 => argF c100 fun a3 r101 => argF r101 fun a4 r102 => argF r102 fun a5 r103 => arg0 r103 (arg0 r100 (.ret (.fl (S35_0 D a2 a3 a4 a5)))))
theorem en35 : ∀ l r, (sp35 R l).run = some r → Entry Try.prog 35 l r := by
  intro l r h
  obtain ⟨_, _, h, L0⟩ := argA_inv h
  obtain ⟨x1, _, h, L1⟩ := argF_inv h
  obtain ⟨x2, _, h, L2⟩ := argF_inv h
  obtain ⟨x3, _, h, L3⟩ := argF_inv h
  obtain ⟨h, L4⟩ := arg0_inv h
  obtain ⟨_, _, h, L5⟩ := argA_inv h
  obtain ⟨x6, _, h, L6⟩ := argF_inv h
  obtain ⟨x7, _, h, L7⟩ := argF_inv h
  obtain ⟨x8, _, h, L8⟩ := argF_inv h
  obtain ⟨h, L9⟩ := arg0_inv h
  obtain ⟨h, L10⟩ := arg0_inv h
  cases h
  exact (entry_of prg tok_64 (ev35 R x1 x2 x3 x6 x7 x8) (fun o ho => nomatch ho) rfl).le (L0 _ _ (L1 _ (L2 _ (L3 _ L4))) (L5 _ _ (L6 _ (L7 _ (L8 _ L9))) L10))
def tl_35 : List (Nat × Ev.Spec) := (35, sp35) :: tl_64
def tbl_35 (D : Dom) : Tbl D := tblOf tl_35 D
theorem tok_35 : TblOK Try.prog (tbl_35 R) := TblOK.cons tok_64 en35

-- penumbra/vec.Add$1
def S102_0 (D : Dom) (a0 : D.F) (a1 : D.F) : D.F := (D.fadd a0 a1)
theorem ev102 (D : Dom) (a0 : D.F) (a1 : D.F) : joinT (evFn Try.prog (tbl_35 D) 60 102 [.fl a0, .fl a1]) = .val none (.fl (S102_0 D a0 a1)) := by kernel_rfl
def sp102 : Ev.Spec := fun D l => argF l fun a0 r0 => argF r0 fun a1 r1 => arg0 r1 (.ret (.fl (S102_0 D a0 a1)))
theorem en102 : ∀ l r, (sp102 R l).run = some r → Entry Try.prog 102 l r := by
  intro l r h
  obtain ⟨x0, _, h, L0⟩ := argF_inv h
  obtain ⟨x1, _, h, L1⟩ := argF_inv h
  obtain ⟨h, L2⟩ := arg0_inv h
  cases h
  exact (entry_of prg tok_35 (ev102 R x0 x1) (fun o ho => nomatch ho) rfl).le (L0 _ (L1 _ L2))
def tl_102 : List (Nat × Ev.Spec) := (102, sp102) :: tl_35
def tbl_102 (D : Dom) : Tbl D := tblOf tl_102 D
theorem tok_102 : TblOK Try.prog (tbl_102 R) := TblOK.cons tok_35 en102

-- penumbra/vec.Add
def S88_0 (D : Dom) (a0 : D.F) (a3 : D.F) : D.F := (S102_0 D a0 a3)
def S88_1 (D : Dom) (a1 : D.F) (a4 : D.F) : D.F := (S102_0 D a1 a4)
def S88_2 (D : Dom) (a2 : D.F) (a5 : D.F) : D.F := (S102_0 D a2 a5)
theorem ev88 (D : Dom) (a0 : D.F) (a1 : D.F) (a2 : D.F) (a3 : D.F) (a4 : D.F) (a5 : D.F) : joinT (evFn Try.prog (tbl_102 D) 60 88 [.agg [.fl a0, .fl a1, .fl a2], .agg [.fl a3, .fl a4, .fl a5]]) = .val none (.agg [.fl (S88_0 D a0 a3), .fl (S88_1 D a1 a4), .fl (S88_2 D a2 a5)]) := by kernel_rfl
def sp88 : Ev.Spec := fun D l => argA l fun c0 r0 => argF c0 fun a0 r1 => argF r1 fun a1 r2 => argF r2 fun a2 r3 => arg0 r3 (argA r0 fun c100 r100 => argF c100 fun a3 r101 => argF r101 fun a4 r102 => argF r102 fun a5 r103 => arg0 r103 (arg0 r100 (.ret (.agg [.fl (S88_0 D a0 a3), .fl (S88_1 D a1 a4), .fl (S88_2 D a2 a5)]))))
theorem en88 : ∀ l r, (sp88 R l).run = some r → Entry Try.prog 88 l r := by
  intro l r h
  obtain ⟨_, _, h, L0⟩ := argA_inv h
  obtain ⟨x1, _, h, L1⟩ := argF_inv h
  obtain ⟨x2, _, h, L2⟩ := argF_inv h
  obtain ⟨x3, _, h, L3⟩ := argF_inv h
  obtain ⟨h, L4⟩ := arg0_inv h
  obtain ⟨_, _, h, L5⟩ := argA_inv h
  obtain ⟨x6, _, h, L6⟩ := argF_inv h
  obtain ⟨x7, _, h, L7⟩ := argF_inv h
  obtain ⟨x8, _, h, L8⟩ := argF_inv h
  obtain ⟨h, L9⟩ := arg0_inv h
  obtain ⟨h, L10⟩ := arg0_inv h
  cases h
  exact (entry_of prg tok_102 (ev88 R x1 x2 x3 x6 x7 x8) (fun o ho => nomatch ho) rfl).le (L0 _ _ (L1 _ (L2 _ (L3 _ L4))) (L5 _ _ (L6 _ (L7 _ (L8 _ L9))) L10))
def tl_88 : List (Nat × Ev.Spec) := (88, sp88) :: tl_102
def tbl_88 (D : Dom) : Tbl D := tblOf tl_88 D
theorem tok_88 : TblOK Try.prog (tbl_88 R) := TblOK.cons tok_102 en88

-- penumbra/vec.Len2
def S105_0 (D : Dom) (a0 : D.F) (a1 : D.F) (a2 : D.F) : D.F := (S47_0 D a0 a1 a2 a0 a1 a2)
theorem ev105 (D : Dom) (a0 : D.F) (a1 : D.F) (a2 : D.F) : joinT (evFn Try.prog (tbl_88 D) 60 105 [.agg [.fl a0, .fl a1, .fl a2]]) = .val none (.fl (S105_0 D a0 a1 a2)) := by kernel_rfl
def sp105 : Ev.Spec := fun D l => argA l fun c0 r0 => argF c0 fun a0 r1 => argF r1 fun a1 r2 => argF r2 fun a2 r3 => arg0 r3 (arg0 r0 (.ret (.fl (S105_0 D a0 a1 a2))))
theorem en105 : ∀ l r, (sp105 R l).run = some r → Entry Try.prog 105 l r := by
  intro l r h
  obtain ⟨_, _, h, L0⟩ := argA_inv h
  obtain ⟨x1, _, h, L1⟩ := argF_inv h
  obtain ⟨x2, _, h, L2⟩ := argF_inv h
  obtain ⟨x3, _, h, L3⟩ := argF_inv h
  obtain ⟨h, L4⟩ := arg0_inv h
  obtain ⟨h, L5⟩ := arg0_inv h
  cases h
  exact (entry_of prg tok_88 (ev105 R x1 x2 x3) (fun o ho => nomatch ho) rfl).le (L0 _ _ (L1 _ (L2 _ (L3 _ L4))) L5)
def tl_105 : List (Nat × Ev.Spec) := (105, sp105) :: tl_88
def tbl_105 (D : Dom) : Tbl D := tblOf tl_105 D
theorem tok_105 : TblOK Try.prog (tbl_105 R) := TblOK.cons tok_88 en105

-- penumbra/vec.Len
def S101_0 (D : Dom) (a0 : D.F) (a1 : D.F) (a2 : D.F) : D.F := (S28_0 D (S105_0 D a0 a1 a2))
theorem ev101 (D : Dom) (a0 : D.F) (a1 : D.F) (a2 : D.F) : joinT (evFn Try.prog (tbl_105 D) 60 101 [.agg [.fl a0, .fl a1, .fl a2]]) = .val none (.fl (S101_0 D a0 a1 a2)) := by kernel_rfl
def sp101 : Ev.Spec := fun D l => argA l fun c0 r0 => argF c0 fun a0 r1 => argF r1 fun a1 r2 => argF r2 fun a2 r3 => arg0 r3 (arg0 r0 (.ret (.fl (S101_0 D a0 a1 a2))))
theorem en101 : ∀ l r, (sp101 R l).run = some r → Entry Try.prog 101 l r := by
  intro l r h
  obtain ⟨_, _, h, L0⟩ := argA_inv h
  obtain ⟨x1, _, h, L1⟩ := argF_inv h
  obtain ⟨x2, _, h, L2⟩ := argF_inv h
  obtain ⟨x3, _, h, L3⟩ := argF_inv h
  obtain ⟨h, L4⟩ := arg0_inv h
  obtain ⟨h, L5⟩ := arg0_inv h
  cases h
  exact (entry_of prg tok_105 (ev101 R x1 x2 x3) (fun o ho => nomatch ho) rfl).le (L0 _ _ (L1 _ (L2 _ (L3 _ L4))) L5)
def tl_101 : List (Nat × Ev.Spec) := (101, sp101) :: tl_105
def tbl_101 (D : Dom) : Tbl D := tblOf tl_101 D
theorem tok_101 : TblOK Try.prog (tbl_101 R) := TblOK.cons tok_105 en101

-- penumbra/vec.Unit
def S87_0 (D : Dom) (a0 : D.F) (a1 : D.F) (a2 : D.F) : D.F := (D.fite (D.bite (D.bnot (D.fgt (S101_0 D a0 a1 a2) (D.fc 0))) (D.bc true) (D.bnot (S66_0 D (S101_0 D a0 a1 a2)))) (D.fc 0) (D.fdiv a0 (S101_0 D a0 a1 a2)))
def S87_1 (D : Dom) (a0 : D.F) (a1 : D.F) (a2 : D.F) : D.F := (D.fite (D.bite (D.bnot (D.fgt (S101_0 D a0 a1 a2) (D.fc 0))) (D.bc true) (D.bnot (S66_0 D (S101_0 D a0 a1 a2)))) (D.fc 0) (D.fdiv a1 (S101_0 D a0 a1 a2)))
def S87_2 (D : Dom) (a0 : D.F) (a1 : D.F) (a2 : D.F) : D.F := (D.fite (D.bite (D.bnot (D.fgt (S101_0 D a0 a1 a2) (D.fc 0))) (D.bc true) (D.bnot (S66_0 D (S101_0 D a0 a1 a2)))) (D.fc 0) (D.fdiv a2 (S101_0 D a0 a1 a2)))
def S87_3 (D : Dom) (a0 : D.F) (a1 : D.F) (a2 : D.F) : D.B := (D.bite (D.bite (D.bnot (D.fgt (S101_0 D a0 a1 a2) (D.fc 0))) (D.bc true) (D.bnot (S66_0 D (S101_0 D a0 a1 a2)))) (D.bc false) (D.bc true))
theorem ev87 (D : Dom) (a0 : D.F) (a1 : D.F) (a2 : D.F) : joinT (evFn Try.prog (tbl_101 D) 60 87 [.agg [.fl a0, .fl a1, .fl a2]]) = .val none (.tup [.agg [.fl (S87_0 D a0 a1 a2), .fl (S87_1 D a0 a1 a2), .fl (S87_2 D a0 a1 a2)], .sb (S87_3 D a0 a1 a2)]) := by kernel_rfl
def sp87 : Ev.Spec := fun D l => argA l fun c0 r0 => argF c0 fun a0 r1 => argF r1 fun a1 r2 => argF r2 fun a2 r3 => arg0 r3 (arg0 r0 (.ret (.tup [.agg [.fl (S87_0 D a0 a1 a2), .fl (S87_1 D a0 a1 a2), .fl (S87_2 D a0 a1 a2)], .sb (S87_3 D a0 a1 a2)])))
theorem en87 : ∀ l r, (sp87 R l).run = some r → Entry Try.prog 87 l r := by
  intro l r h
  obtain ⟨_, _, h, L0⟩ := argA_inv h
  obtain ⟨x1, _, h, L1⟩ := argF_inv h
  obtain ⟨x2, _, h, L2⟩ := argF_inv h
  obtain ⟨x3, _, h, L3⟩ := argF_inv h
  obtain ⟨h, L4⟩ := arg0_inv h
  obtain ⟨h, L5⟩ := arg0_inv h
  cases h
  exact (entry_of prg tok_101 (ev87 R x1 x2 x3) (fun o ho => nomatch ho) rfl).le (L0 _ _ (L1 _ (L2 _ (L3 _ L4))) L5)
def tl_87 : List (Nat × Ev.Spec) := (87, sp87) :: tl_101
def tbl_87 (D : Dom) : Tbl D := tblOf tl_87 D
theorem tok_87 : TblOK Try.prog (tbl_87 R) := TblOK.cons tok_101 en87

-- penumbra/ggx.Half
def S67_0 (D : Dom) (a0 : D.F) (a1 : D.F) (a2 : D.F) (a3 : D.F) (a4 : D.F) (a5 : D.F) : D.F := (D.fite (D.bnot (S44_0 D a2 a5)) (D.fc 0) (S87_0 D (S88_0 D a0 a3) (S88_1 D a1 a4) (S88_2 D a2 a5)))
def S67_1 (D : Dom) (a0 : D.F) (a1 : D.F) (a2 : D.F) (a3 : D.F) (a4 : D.F) (a5 : D.F) : D.F := (D.fite (D.bnot (S44_0 D a2 a5)) (D.fc 0) (S87_1 D (S88_0 D a0 a3) (S88_1 D a1 a4) (S88_2 D a2 a5)))
def S67_2 (D : Dom) (a0 : D.F) (a1 : D.F) (a2 : D.F) (a3 : D.F) (a4 : D.F) (a5 : D.F) : D.F := (D.fite (D.bnot (S44_0 D a2 a5)) (D.fc 0) (S87_2 D (S88_0 D a0 a3) (S88_1 D a1 a4) (S88_2 D a2 a5)))
def S67_3 (D : Dom) (a0 : D.F) (a1 : D.F) (a2 : D.F) (a3 : D.F) (a4 : D.F) (a5 : D.F) : D.B := (D.bite (D.bnot (S44_0 D a2 a5)) (D.bc false) (S87_3 D (S88_0 D a0 a3) (S88_1 D a1 a4) (S88_2 D a2 a5)))
theorem ev67 (D : Dom) (a0 : D.F) (a1 : D.F) (a2 : D.F) (a3 : D.F) (a4 : D.F) (a5 : D.F) : joinT (evFn Try.prog (tbl_87 D) 60 67 [.agg [.fl a0, .fl a1, .fl a2], .agg [.fl a3, .fl a4, .fl a5]]) = .val none (.tup [.agg [.fl (S67_0 D a0 a1 a2 a3 a4 a5), .fl (S67_1 D a0 a1 a2 a3 a4 a5), .fl (S67_2 D a0 a1 a2 a3 a4 a5)], .sb (S67_3 D a0 a1 a2 a3 a4 a5)]) := by kernel_rfl
def sp67 : Ev.Spec := fun D l => argA l fun c0 r0 => argF c0 fun a0 r1 => argF r1 fun a1 r2 => argF r2 fun a2 r3 => arg0 r3 (argA r0 fun c100 r100 => argF c100 fun a3 r101 => argF r101 fun a4 r102 => argF r102 fun a5 r103 => arg0 r103 (arg0 r100 (.ret (.tup [.agg [.fl (S67_0 D a0 a1 a2 a3 a4 a5), .fl (S67_1 D a0 a1 a2 a3 a4 a5), .fl (S67_2 D a0 a1 a2 a3 a4 a5)], .sb (S67_3 D a0 a1 a2 a3 a4 a5)]))))
theorem en67 : ∀ l r, (sp67 R l).run = some r → Entry Try.prog 67 l r := by
  intro l r h
  obtain ⟨_, _, h, L0⟩ := argA_inv h
  obtain ⟨x1, _, h, L1⟩ := argF_inv h
  obtain ⟨x2, _, h, L2⟩ := argF_inv h
  obtain ⟨x3, _, h, L3⟩ := argF_inv h
  obtain ⟨h, L4⟩ := arg0_inv h
  obtain ⟨_, _, h, L5⟩ := argA_inv h
  obtain ⟨x6, _, h, L6⟩ := argF_inv h
  obtain ⟨x7, _, h, L7⟩ := argF_inv h
  obtain ⟨x8, _, h, L8⟩ := argF_inv h
  obtain ⟨h, L9⟩ := arg0_inv h
  obtain ⟨h, L10⟩ := arg0_inv h
  cases h
  exact (entry_of prg tok_87 (ev67 R x1 x2 x3 x6 x7 x8) (fun o ho => nomatch ho) rfl).le (L0 _ _ (L1 _ (L2 _ (L3 _ L4))) (L5 _ _ (L6 _ (L7 _ (L8 _ L9))) L10))
def tl_67 : List (Nat × Ev.Spec) := (67, sp67) :: tl_87
def tbl_67 (D : Dom) : Tbl D := tblOf tl_67 D
theorem tok_67 : TblOK Try.prog (tbl_67 R) := TblOK.cons tok_87 en67

-- penumbra/ggx.Normals
def S68_0 (D : Dom) (a0 : D.F) (a1 : D.F) : D.F := (D.fite (D.bnot (D.fgt a1 (D.fc 0))) (D.fc 0) (D.fdiv (S45_0 D a0) (D.fmul (D.fc 4614256656552045848) (D.fmul (D.fadd (D.fmul (D.fsub (S45_0 D a0) (D.fc 4607182418800017408)) (D.fmul a1 a1)) (D.fc 4607182418800017408)) (D.fadd (D.fmul (D.fsub (S45_0 D a0) (D.fc 4607182418800017408)) (D.fmul a1 a1)) (D.fc 4607182418800017408))))))
theorem ev68 (D : Dom) (a0 : D.F) (a1 : D.F) : joinT (evFn Try.prog (tbl_67 D) 60 68 [.fl a0, .fl a1]) = .val none (.fl (S68_0 D a0 a1)) := by kernel_rfl
def sp68 : Ev.Spec := fun D l => argF l fun a0 r0 => argF r0 fun a1 r1 => arg0 r1 (.ret (.fl (S68_0 D a0 a1)))
theorem en68 : ∀ l r, (sp68 R l).run = some r → Entry Try.prog 68 l r := by
  intro l r h
  obtain ⟨x0, _, h, L0⟩ := argF_inv h
  obtain ⟨x1, _, h, L1⟩ := argF_inv h
  obtain ⟨h, L2⟩ := arg0_inv h
  cases h
  exact (entry_of prg tok_67 (ev68 R x0 x1) (fun o ho => nomatch ho) rfl).le (L0 _ (L1 _ L2))
def tl_68 : List (Nat × Ev.Spec) := (68, sp68) :: tl_67
def tbl_68 (D : Dom) : Tbl D := tblOf tl_68 D
theorem tok_68 : TblOK Try.prog (tbl_68 R) := TblOK.cons tok_67 en68

-- penumbra/ggx.Density
def S36_0 (D : Dom) (a0 : D.F) (a1 : D.F) (a2 : D.F) (a3 : D.F) (a4 : D.F) (a5 : D.F) (a6 : D.F) : D.F := (D.fite (D.bite (D.bnot (S67_3 D a1 a2 a3 a4 a5 a6)) (D.bc true) (D.bnot (D.fgt (S47_0 D a1 a2 a3 (S67_0 D a1 a2 a3 a4 a5 a6) (S67_1 D a1 a2 a3 a4 a5 a6) (S67_2 D a1 a2 a3 a4 a5 a6)) (D.fc 0)))) (D.fc 0) (D.fite (D.bnot (S66_0 D (D.fdiv (D.fmul (D.fmul (S68_0 D a0 (S67_2 D a1 a2 a3 a4 a5 a6)) (S67_2 D a1 a2 a3 a4 a5 a6)) (D.fmul (D.fc 4618760256179416344) (S64_0 D (S67_0 D a1 a2 a3 a4 a5 a6) (S67_1 D a1 a2 a3 a4 a5 a6)))) (D.fmul (D.fc 4616189618054758400) (S47_0 D a1 a2 a3 (S67_0 D a1 a2 a3 a4 a5 a6) (S67_1 D a1 a2 a3 a4 a5 a6) (S67_2 D a1 a2 a3 a4 a5 a6)))))) (D.fc 0) (D.fdiv (D.fmul (D.fmul (S68_0 D a0 (S67_2 D a1 a2 a3 a4 a5 a6)) (S67_2 D a1 a2 a3 a4 a5 a6)) (D.fmul (D.fc 4618760256179416344) (S64_0 D (S67_0 D a1 a2 a3 a4 a5 a6) (S67_1 D a1 a2 a3 a4 a5 a6)))) (D.fmul (D.fc 4616189618054758400) (S47_0 D a1 a2 a3 (S67_0 D a1 a2 a3 a4 a5 a6) (S67_1 D a1 a2 a3 a4 a5 a6) (S67_2 D a1 a2 a3 a4 a5 a6))))))
theorem ev36 (D : Dom) (a0 : D.F) (a1 : D.F) (a2 : D.F) (a3 : D.F) (a4 : D.F) (a5 : D.F) (a6 : D.F) : joinT (evFn Try.prog (tbl_68 D) 60 36 [.fl a0, .agg [.fl a1, .fl a2, .fl a3], .agg [.fl a4, .fl a5, .fl a6]]) = .val none (.fl (S36_0 D a0 a1 a2 a3 a4 a5 a6)) := by kernel_rfl
def sp36 : Ev.Spec := fun D l => argF l fun a0 r0 => argA r0 fun c1 r1 => argF c1 fun a1 r2 => argF r2 fun a2 r3 => argF r3 fun a3 r4 => arg0 r4 (argA r1 fun c101 r101 => argF c101 fun a4 r102 => argF r102 fun a5 r103 => argF r103 fun a6 r104 => arg0 r104 (arg0 r101 (.ret (.fl (S36_0 D a0 a1 a2 a3 a4 a5 a6)))))
theorem en36 : ∀ l r, (sp36 R l).run = some r → Entry Try.prog 36 l r := by
  intro l r h
  obtain ⟨x0, _, h, L0⟩ := argF_inv h
  obtain ⟨_, _, h, L1⟩ := argA_inv h
  obtain ⟨x2, _, h, L2⟩ := argF_inv h
  obtain ⟨x3, _, h, L3⟩ := argF_inv h
  obtain ⟨x4, _, h, L4⟩ := argF_inv h
  obtain ⟨h, L5⟩ := arg0_inv h
  obtain ⟨_, _, h, L6⟩ := argA_inv h
  obtain ⟨x7, _, h, L7⟩ := argF_inv h
  obtain ⟨x8, _, h, L8⟩ := argF_inv h
  obtain ⟨x9, _, h, L9⟩ := argF_inv h
  obtain ⟨h, L10⟩ := arg0_inv h
  obtain ⟨h, L11⟩ := arg0_inv h
  cases h
  exact (entry_of prg tok_68 (ev36 R x0 x2 x3 x4 x7 x8 x9) (fun o ho => nomatch ho) rfl).le (L0 _ (L1 _ _ (L2 _ (L3 _ (L4 _ L5))) (L6 _ _ (L7 _ (L8 _ (L9 _ L10))) L11)))
def tl_36 : List (Nat × Ev.Spec) := (36, sp36) :: tl_68
def tbl_36 (D : Dom) : Tbl D := tblOf tl_36 D
theorem tok_36 : TblOK Try.prog (tbl_36 R) := TblOK.cons tok_68 en36

-- penumbra/bsdf.Density
def S17_0 (D : Dom) (a0 : D.F) (a1 : D.F) (a2 : D.F) (a3 : D.F) (a4 : D.F) (a5 : D.F) (a6 : D.F) (a7 : D.F) (a8 : D.F) (a9 : D.F) (a10 : D.F) (a11 : D.F) (a12 : D.F) : D.F := (D.fadd (D.fmul (S10_0 D a0 a1 a2 a3 a4 a5) (S35_0 D a9 a10 a11 a12)) (D.fmul (D.fsub (D.fc 4607182418800017408) (S10_0 D a0 a1 a2 a3 a4 a5)) (S36_0 D a6 a7 a8 a9 a10 a11 a12)))
def O17 (D : Dom) (a0 : D.F) (a1 : D.F) (a2 : D.F) (a3 : D.F) (a4 : D.F) (a5 : D.F) : D.B := (O10 D a0 a1 a2 a3 a4 a5)
theorem ev17 (D : Dom) (a0 : D.F) (a1 : D.F) (a2 : D.F) (a3 : D.F) (a4 : D.F) (a5 : D.F) (a6 : D.F) (a7 : D.F) (a8 : D.F) (a9 : D.F) (a10 : D.F) (a11 : D.F) (a12 : D.F) : joinT (evFn Try.prog (tbl_36 D) 60 17 [.agg [.fl a0, .fl a1, .fl a2, .fl a3, .fl a4, .fl a5, .fl a6], .agg [.fl a7, .fl a8, .fl a9], .agg [.fl a10, .fl a11, .fl a12]]) = .val (some (O17 D a0 a1 a2 a3 a4 a5)) (.fl (S17_0 D a0 a1 a2 a3 a4 a5 a6 a7 a8 a9 a10 a11 a12)) := by kernel_rfl
def sp17 : Ev.Spec := fun D l => argA l fun c0 r0 => argF c0 fun a0 r1 => argF r1 fun a1 r2 => argF r2 fun a2 r3 => argF r3 fun a3 r4 => argF r4 fun a4 r5 => argF r5 fun a5 r6 => argF r6 fun a6 r7 => arg0 r7 (argA r0 fun c100 r100 => argF c100 fun a7 r101 => argF r101 fun a8 r102 => argF r102 fun a9 r103 => arg0 r103 (argA r100 fun c200 r200 => argF c200 fun a10 r201 => argF r201 fun a11 r202 => argF r202 fun a12 r203 => arg0 r203 (arg0 r200 (.node (O17 D a0 a1 a2 a3 a4 a5) (.ret (.fl (S17_0 D a0 a1 a2 a3 a4 a5 a6 a7 a8 a9 a10 a11 a12))) (.fail "pre")))))
theorem en17 : ∀ l r, (sp17 R l).run = some r → Entry Try.prog 17 l r := by
  intro l r h
  obtain ⟨_, _, h, L0⟩ := argA_inv h
  obtain ⟨x1, _, h, L1⟩ := argF_inv h
  obtain ⟨x2, _, h, L2⟩ := argF_inv h
  obtain ⟨x3, _, h, L3⟩ := argF_inv h
  obtain ⟨x4, _, h, L4⟩ := argF_inv h
  obtain ⟨x5, _, h, L5⟩ := argF_inv h
  obtain ⟨x6, _, h, L6⟩ := argF_inv h
  obtain ⟨x7, _, h, L7⟩ := argF_inv h
  obtain ⟨h, L8⟩ := arg0_inv h
  obtain ⟨_, _, h, L9⟩ := argA_inv h
  obtain ⟨x10, _, h, L10⟩ := argF_inv h
  obtain ⟨x11, _, h, L11⟩ := argF_inv h
  obtain ⟨x12, _, h, L12⟩ := argF_inv h
  obtain ⟨h, L13⟩ := arg0_inv h
  obtain ⟨_, _, h, L14⟩ := argA_inv h
  obtain ⟨x15, _, h, L15⟩ := argF_inv h
  obtain ⟨x16, _, h, L16⟩ := argF_inv h
  obtain ⟨x17, _, h, L17⟩ := argF_inv h
  obtain ⟨h, L18⟩ := arg0_inv h
  obtain ⟨h, L19⟩ := arg0_inv h
  obtain ⟨hok, rfl⟩ := run_okay h
  exact (entry_of prg tok_36 (ev17 R x1 x2 x3 x4 x5 x6 x7 x10 x11 x12 x15 x16 x17) (fun o ho => (Option.some.inj ho) ▸ hok) rfl).le (L0 _ _ (L1 _ (L2 _ (L3 _ (L4 _ (L5 _ (L6 _ (L7 _ L8))))))) (L9 _ _ (L10 _ (L11 _ (L12 _ L13))) (L14 _ _ (L15 _ (L16 _ (L17 _ L18))) L19)))
def tl_17 : List (Nat × Ev.Spec) := (17, sp17) :: tl_36
def tbl_17 (D : Dom) : Tbl D := tblOf tl_17 D
theorem tok_17 : TblOK Try.prog (tbl_17 R) := TblOK.cons tok_36 en17

-- penumbra/bsdf.Black
def S11_0 (D : Dom) (a0 : D.F) (a1 : D.F) (a2 : D.F) (a3 : D.F) (a4 : D.F) (a5 : D.F) : D.B := (D.band (D.feq a0 (D.fc 0)) (D.band (D.feq a1 (D.fc 0)) (D.band (D.feq a2 (D.fc 0)) (D.band (D.feq a3 (D.fc 0)) (D.band (D.feq a4 (D.fc 0)) (D.band (D.feq a5 (D.fc 0)) (D.band (D.feq (D.fc 0) (D.fc 0)) (D.bc true))))))))
theorem ev11 (D : Dom) (a0 : D.F) (a1 : D.F) (a2 : D.F) (a3 : D.F) (a4 : D.F) (a5 : D.F) (a6 : D.F) : joinT (evFn Try.prog (tbl_17 D) 60 11 [.agg [.fl a0, .fl a1, .fl a2, .fl a3, .fl a4, .fl a5, .fl a6]]) = .val none (.sb (S11_0 D a0 a1 a2 a3 a4 a5)) := by kernel_rfl
def sp11 : Ev.Spec := fun D l => argA l fun c0 r0 => argF c0 fun a0 r1 => argF r1 fun a1 r2 => argF r2 fun a2 r3 => argF r3 fun a3 r4 => argF r4 fun a4 r5 => argF r5 fun a5 r6 => argF r6 fun _a6 r7 => arg0 r7 (arg0 r0 (.ret (.sb (S11_0 D a0 a1 a2 a3 a4 a5))))
theorem en11 : ∀ l r, (sp11 R l).run = some r → Entry Try.prog 11 l r := by
  intro l r h
  obtain ⟨_, _, h, L0⟩ := argA_inv h
  obtain ⟨x1, _, h, L1⟩ := argF_inv h
  obtain ⟨x2, _, h, L2⟩ := argF_inv h
  obtain ⟨x3, _, h, L3⟩ := argF_inv h
  obtain ⟨x4, _, h, L4⟩ := argF_inv h
  obtain ⟨x5, _, h, L5⟩ := argF_inv h
  obtain ⟨x6, _, h, L6⟩ := argF_inv h
  obtain ⟨x7, _, h, L7⟩ := argF_inv h
  obtain ⟨h, L8⟩ := arg0_inv h
  obtain ⟨h, L9⟩ := arg0_inv h
  cases h
  exact (entry_of prg tok_17 (ev11 R x1 x2 x3 x4 x5 x6 x7) (fun o ho => nomatch ho) rfl).le (L0 _ _ (L1 _ (L2 _ (L3 _ (L4 _ (L5 _ (L6 _ (L7 _ L8))))))) L9)
def tl_11 : List (Nat × Ev.Spec) := (11, sp11) :: tl_17
def tbl_11 (D : Dom) : Tbl D := tblOf tl_11 D
theorem tok_11 : TblOK Try.prog (tbl_11 R) := TblOK.cons tok_17 en11

-- penumbra/rgb.Add$1
def S62_0 (D : Dom) (a0 : D.F) (a1 : D.F) : D.F := (D.fadd a0 a1)
theorem ev62 (D : Dom) (a0 : D.F) (a1 : D.F) : joinT (evFn Try.prog (tbl_11 D) 60 62 [.fl a0, .fl a1]) = .val none (.fl (S62_0 D a0 a1)) := by kernel_rfl
def sp62 : Ev.Spec := fun D l => argF l fun a0 r0 => argF r0 fun a1 r1 => arg0 r1 (.ret (.fl (S62_0 D a0 a1)))
theorem en62 : ∀ l r, (sp62 R l).run = some r → Entry Try.prog 62 l r := by
  intro l r h
  obtain ⟨x0, _, h, L0⟩ := argF_inv h
  obtain ⟨x1, _, h, L1⟩ := argF_inv h
  obtain ⟨h, L2⟩ := arg0_inv h
  cases h
  exact (entry_of prg tok_11 (ev62 R x0 x1) (fun o ho => nomatch ho) rfl).le (L0 _ (L1 _ L2))
def tl_62 : List (Nat × Ev.Spec) := (62, sp62) :: tl_11
def tbl_62 (D : Dom) : Tbl D := tblOf tl_62 D
theorem tok_62 : TblOK Try.prog (tbl_62 R) := TblOK.cons tok_11 en62

-- penumbra/rgb.Add
def S32_0 (D : Dom) (a0 : D.F) (a3 : D.F) : D.F := (S62_0 D a0 a3)
def S32_1 (D : Dom) (a1 : D.F) (a4 : D.F) : D.F := (S62_0 D a1 a4)
def S32_2 (D : Dom) (a2 : D.F) (a5 : D.F) : D.F := (S62_0 D a2 a5)
theorem ev32 (D : Dom) (a0 : D.F) (a1 : D.F) (a2 : D.F) (a3 : D.F) (a4 : D.F) (a5 : D.F) : joinT (evFn Try.prog (tbl_62 D) 60 32 [.agg [.fl a0, .fl a1, .fl a2], .agg [.fl a3, .fl a4, .fl a5]]) = .val none (.agg [.fl (S32_0 D a0 a3), .fl (S32_1 D a1 a4), .fl (S32_2 D a2 a5)]) := by kernel_rfl
def sp32 : Ev.Spec := fun D l => argA l fun c0 r0 => argF c0 fun a0 r1 => argF r1 fun a1 r2 => argF r2 fun a2 r3 => arg0 r3 (argA r0 fun c100 r100 => argF c100 fun a3 r101 => argF r101 fun a4 r102 => argF r102 fun a5 r103 => arg0 r103 (arg0 r100 (.ret (.agg [.fl (S32_0 D a0 a3), .fl (S32_1 D a1 a4), .fl (S32_2 D a2 a5)]))))
theorem en32 : ∀ l r, (sp32 R l).run = some r → Entry Try.prog 32 l r := by
  intro l r h
  obtain ⟨_, _, h, L0⟩ := argA_inv h
  obtain ⟨x1, _, h, L1⟩ := argF_inv h
  obtain ⟨x2, _, h, L2⟩ := argF_inv h
  obtain ⟨x3, _, h, L3⟩ := argF_inv h
  obtain ⟨h, L4⟩ := arg0_inv h
  obtain ⟨_, _, h, L5⟩ := argA_inv h
  obtain ⟨x6, _, h, L6⟩ := argF_inv h
  obtain ⟨x7, _, h, L7⟩ := argF_inv h
  obtain ⟨x8, _, h, L8⟩ := argF_inv h
  obtain ⟨h, L9⟩ := arg0_inv h
  obtain ⟨h, L10⟩ := arg0_inv h
  cases h
  exact (entry_of prg tok_62 (ev32 R x1 x2 x3 x6 x7 x8) (fun o ho => nomatch ho) rfl).le (L0 _ _ (L1 _ (L2 _ (L3 _ L4))) (L5 _ _ (L6 _ (L7 _ (L8 _ L9))) L10))
def tl_32 : List (Nat × Ev.Spec) := (32, sp32) :: tl_62
def tbl_32 (D : Dom) : Tbl D := tblOf tl_32 D
theorem tok_32 : TblOK Try.prog (tbl_32 R) := TblOK.cons tok_62 en32

-- penumbra/rgb.Most
def S31_0 (D : Dom) (a0 : D.F) (a1 : D.F) (a2 : D.F) : D.F := (D.fite (D.fgt a2 (D.fite (D.fgt a1 a0) a1 a0)) a2 (D.fite (D.fgt a1 a0) a1 a0))
theorem ev31 (D : Dom) (a0 : D.F) (a1 : D.F) (a2 : D.F) : joinT (evFn Try.prog (tbl_32 D) 60 31 [.agg [.fl a0, .fl a1, .fl a2]]) = .val none (.fl (S31_0 D a0 a1 a2)) := by kernel_rfl
def sp31 : Ev.Spec := fun D l => argA l fun c0 r0 => argF c0 fun a0 r1 => argF r1 fun a1 r2 => argF r2 fun a2 r3 => arg0 r3 (arg0 r0 (.ret (.fl (S31_0 D a0 a1 a2))))
theorem en31 : ∀ l r, (sp31 R l).run = some r → Entry Try.prog 31 l r := by
  intro l r h
  obtain ⟨_, _, h, L0⟩ := argA_inv h
  obtain ⟨x1, _, h, L1⟩ := argF_inv h
  obtain ⟨x2, _, h, L2⟩ := argF_inv h
  obtain ⟨x3, _, h, L3⟩ := argF_inv h
  obtain ⟨h, L4⟩ := arg0_inv h
  obtain ⟨h, L5⟩ := arg0_inv h
  cases h
  exact (entry_of prg tok_32 (ev31 R x1 x2 x3) (fun o ho => nomatch ho) rfl).le (L0 _ _ (L1 _ (L2 _ (L3 _ L4))) L5)
def tl_31 : List (Nat × Ev.Spec) := (31, sp31) :: tl_32
def tbl_31 (D : Dom) : Tbl D := tblOf tl_31 D
theorem tok_31 : TblOK Try.prog (tbl_31 R) := TblOK.cons tok_32 en31

-- penumbra/bsdf.Albedo
def S14_0 (D : Dom) (a0 : D.F) (a1 : D.F) (a2 : D.F) (a3 : D.F) (a4 : D.F) (a5 : D.F) : D.F := (S31_0 D (S32_0 D a0 a3) (S32_1 D a1 a4) (S32_2 D a2 a5))
theorem ev14 (D : Dom) (a0 : D.F) (a1 : D.F) (a2 : D.F) (a3 : D.F) (a4 : D.F) (a5 : D.F) (a6 : D.F) : joinT (evFn Try.prog (tbl_31 D) 60 14 [.agg [.fl a0, .fl a1, .fl a2, .fl a3, .fl a4, .fl a5, .fl a6]]) = .val none (.fl (S14_0 D a0 a1 a2 a3 a4 a5)) := by kernel_rfl
def sp14 : Ev.Spec := fun D l => argA l fun c0 r0 => argF c0 fun a0 r1 => argF r1 fun a1 r2 => argF r2 fun a2 r3 => argF r3 fun a3 r4 => argF r4 fun a4 r5 => argF r5 fun a5 r6 => argF r6 fun _a6 r7 => arg0 r7 (arg0 r0 (.ret (.fl (S14_0 D a0 a1 a2 a3 a4 a5))))
theorem en14 : ∀ l r, (sp14 R l).run = some r → Entry Try.prog 14 l r := by
  intro l r h
  obtain ⟨_, _, h, L0⟩ := argA_inv h
  obtain ⟨x1, _, h, L1⟩ := argF_inv h
  obtain ⟨x2, _, h, L2⟩ := argF_inv h
  obtain ⟨x3, _, h, L3⟩ := argF_inv h
  obtain ⟨x4, _, h, L4⟩ := argF_inv h
  obtain ⟨x5, _, h, L5⟩ := argF_inv h
  obtain ⟨x6, _, h, L6⟩ := argF_inv h
  obtain ⟨x7, _, h, L7⟩ := argF_inv h
  obtain ⟨h, L8⟩ := arg0_inv h
  obtain ⟨h, L9⟩ := arg0_inv h
  cases h
  exact (entry_of prg tok_31 (ev14 R x1 x2 x3 x4 x5 x6 x7) (fun o ho => nomatch ho) rfl).le (L0 _ _ (L1 _ (L2 _ (L3 _ (L4 _ (L5 _ (L6 _ (L7 _ L8))))))) L9)
def tl_14 : List (Nat × Ev.Spec) := (14, sp14) :: tl_31
def tbl_14 (D : Dom) : Tbl D := tblOf tl_14 D
theorem tok_14 : TblOK Try.prog (tbl_14 R) := TblOK.cons tok_31 en14

-- penumbra/penumbralaw16.awake
def S8_0 (D : Dom)  : D.B := (D.bite (D.bite (D.bite (D.bite (D.bite (D.bite (D.feq (S10_0 D (D.fc 4602678819172646912) (D.fc 4602678819172646912) (D.fc 4602678819172646912) (D.fc 0) (D.fc 0) (D.fc 0)) (D.fc 4607182418800017408)) (D.feq (S17_0 D (D.fc 4602678819172646912) (D.fc 4602678819172646912) (D.fc 4602678819172646912) (D.fc 0) (D.fc 0) (D.fc 0) (D.fc 4607182418800017408) (D.fc 0) (D.fc 0) (D.fc 4607182418800017408) (D.fc 0) (D.fc 0) (D.fc 4607182418800017408)) (D.fc 4598175219545276416)) (D.bc false)) (D.band (D.feq (S6_0 D (D.fc 4602678819172646912) (D.fc 4602678819172646912) (D.fc 4602678819172646912) (D.fc 0) (D.fc 0) (D.fc 0) (D.fc 4607182418800017408) (D.fc 0) (D.fc 0) (D.fc 4607182418800017408) (D.fc 4606281698874543309) (D.fc 0) (D.fc 0)) (D.fc 0)) (D.band (D.feq (S6_1 D (D.fc 4602678819172646912) (D.fc 4602678819172646912) (D.fc 4602678819172646912) (D.fc 0) (D.fc 0) (D.fc 0) (D.fc 4607182418800017408) (D.fc 0) (D.fc 0) (D.fc 4607182418800017408) (D.fc 4606281698874543309) (D.fc 0) (D.fc 0)) (D.fc 0)) (D.band (D.feq (S6_2 D (D.fc 4602678819172646912) (D.fc 4602678819172646912) (D.fc 4602678819172646912) (D.fc 0) (D.fc 0) (D.fc 0) (D.fc 4607182418800017408) (D.fc 0) (D.fc 0) (D.fc 4607182418800017408) (D.fc 4606281698874543309) (D.fc 0) (D.fc 0)) (D.fc 4607182418800017408)) (D.bc true)))) (D.bc false)) (S6_3 D (D.fc 4602678819172646912) (D.fc 4602678819172646912) (D.fc 4602678819172646912) (D.fc 0) (D.fc 0) (D.fc 0) (D.fc 4607182418800017408) (D.fc 0) (D.fc 0) (D.fc 4607182418800017408) (D.fc 4606281698874543309) (D.fc 0) (D.fc 0)) (D.bc false)) (S11_0 D (D.fc 0) (D.fc 0) (D.fc 0) (D.fc 0) (D.fc 0) (D.fc 0)) (D.bc false)) (D.bnot (S11_0 D (D.fc 4602678819172646912) (D.fc 4602678819172646912) (D.fc 4602678819172646912) (D.fc 0) (D.fc 0) (D.fc 0))) (D.bc false)) (D.feq (S14_0 D (D.fc 4602678819172646912) (D.fc 4602678819172646912) (D.fc 4602678819172646912) (D.fc 0) (D.fc 0) (D.fc 0)) (D.fc 4602678819172646912)) (D.bc false))
def O8 (D : Dom)  : D.B := (D.band (O6 D (D.fc 4602678819172646912) (D.fc 4602678819172646912) (D.fc 4602678819172646912) (D.fc 0) (D.fc 0) (D.fc 0) (D.fc 4606281698874543309) (D.fc 0)) (D.band (O10 D (D.fc 4602678819172646912) (D.fc 4602678819172646912) (D.fc 4602678819172646912) (D.fc 0) (D.fc 0) (D.fc 0)) (D.bite (D.feq (S10_0 D (D.fc 4602678819172646912) (D.fc 4602678819172646912) (D.fc 4602678819172646912) (D.fc 0) (D.fc 0) (D.fc 0)) (D.fc 4607182418800017408)) (O17 D (D.fc 4602678819172646912) (D.fc 4602678819172646912) (D.fc 4602678819172646912) (D.fc 0) (D.fc 0) (D.fc 0)) (D.bc true))))
theorem ev8 (D : Dom)  : joinT (evFn Try.prog (tbl_14 D) 60 8 []) = .val (some (O8 D)) (.sb (S8_0 D)) := by kernel_rfl
def sp8 : Ev.Spec := fun D l => arg0 l (.node (O8 D) (.ret (.sb (S8_0 D))) (.fail "pre"))
theorem en8 : ∀ l r, (sp8 R l).run = some r → Entry Try.prog 8 l r := by
  intro l r h
  obtain ⟨h, L0⟩ := arg0_inv h
  obtain ⟨hok, rfl⟩ := run_okay h
  exact (entry_of prg tok_14 (ev8 R ) (fun o ho => (Option.some.inj ho) ▸ hok) rfl).le L0
def tl_8 : List (Nat × Ev.Spec) := (8, sp8) :: tl_14
def tbl_8 (D : Dom) : Tbl D := tblOf tl_8 D
theorem tok_8 : TblOK Try.prog (tbl_8 R) := TblOK.cons tok_14 en8

-- penumbra/penumbraref02.Same
def S13_0 (D : Dom) (a0 : D.F) (a1 : D.F) : D.B := (D.bite (D.feq a0 a1) (D.bc true) (D.bite (D.bnot (D.feq a0 a0)) (D.bnot (D.feq a1 a1)) (D.bc false)))
theorem ev13 (D : Dom) (a0 : D.F) (a1 : D.F) : joinT (evFn Try.prog (tbl_8 D) 60 13 [.fl a0, .fl a1]) = .val none (.sb (S13_0 D a0 a1)) := by kernel_rfl
def sp13 : Ev.Spec := fun D l => argF l fun a0 r0 => argF r0 fun a1 r1 => arg0 r1 (.ret (.sb (S13_0 D a0 a1)))
theorem en13 : ∀ l r, (sp13 R l).run = some r → Entry Try.prog 13 l r := by
  intro l r h
  obtain ⟨x0, _, h, L0⟩ := argF_inv h
  obtain ⟨x1, _, h, L1⟩ := argF_inv h
  obtain ⟨h, L2⟩ := arg0_inv h
  cases h
  exact (entry_of prg tok_8 (ev13 R x0 x1) (fun o ho => nomatch ho) rfl).le (L0 _ (L1 _ L2))
def tl_13 : List (Nat × Ev.Spec) := (13, sp13) :: tl_8
def tbl_13 (D : Dom) : Tbl D := tblOf tl_13 D
theorem tok_13 : TblOK Try.prog (tbl_13 R) := TblOK.cons tok_8 en13

-- penumbra/penumbraref02.Is
def S9_0 (D : Dom) (a0 : D.F) (a1 : D.F) (a2 : D.F) (a3 : D.F) (a4 : D.F) (a5 : D.F) : D.B := (D.bite (D.bite (S13_0 D a0 a3) (S13_0 D a1 a4) (D.bc false)) (S13_0 D a2 a5) (D.bc false))
theorem ev9 (D : Dom) (a0 : D.F) (a1 : D.F) (a2 : D.F) (a3 : D.F) (a4 : D.F) (a5 : D.F) : joinT (evFn Try.prog (tbl_13 D) 60 9 [.agg [.fl a0, .fl a1, .fl a2], .agg [.fl a3, .fl a4, .fl a5]]) = .val none (.sb (S9_0 D a0 a1 a2 a3 a4 a5)) := by kernel_rfl
def sp9 : Ev.Spec := fun D l => argA l fun c0 r0 => argF c0 fun a0 r1 => argF r1 fun a1 r2 => argF r2 fun a2 r3 => arg0 r3 (argA r0 fun c100 r100 => argF c100 fun a3 r101 => argF r101 fun a4 r102 => argF r102 fun a5 r103 => arg0 r103 (arg0 r100 (.ret (.sb (S9_0 D a0 a1 a2 a3 a4 a5)))))
theorem en9 : ∀ l r, (sp9 R l).run = some r → Entry Try.prog 9 l r := by
  intro l r h
  obtain ⟨_, _, h, L0⟩ := argA_inv h
  obtain ⟨x1, _, h, L1⟩ := argF_inv h
  obtain ⟨x2, _, h, L2⟩ := argF_inv h
  obtain ⟨x3, _, h, L3⟩ := argF_inv h
  obtain ⟨h, L4⟩ := arg0_inv h
  obtain ⟨_, _, h, L5⟩ := argA_inv h
  obtain ⟨x6, _, h, L6⟩ := argF_inv h
  obtain ⟨x7, _, h, L7⟩ := argF_inv h
  obtain ⟨x8, _, h, L8⟩ := argF_inv h
  obtain ⟨h, L9⟩ := arg0_inv h
  obtain ⟨h, L10⟩ := arg0_inv h
  cases h
  exact (entry_of prg tok_13 (ev9 R x1 x2 x3 x6 x7 x8) (fun o ho => nomatch ho) rfl).le (L0 _ _ (L1 _ (L2 _ (L3 _ L4))) (L5 _ _ (L6 _ (L7 _ (L8 _ L9))) L10))
def tl_9 : List (Nat × Ev.Spec) := (9, sp9) :: tl_13
def tbl_9 (D : Dom) : Tbl D := tblOf tl_9 D
theorem tok_9 : TblOK Try.prog (tbl_9 R) := TblOK.cons tok_13 en9

-- penumbra/penumbralaw16.BsdfDraws
def S3_0 (D : Dom) (a0 : D.F) (a1 : D.F) (a2 : D.F) (a3 : D.F) (a4 : D.F) (a5 : D.F) (a6 : D.F) (a7 : D.F) (a8 : D.F) (a9 : D.F) (a10 : D.F) (a11 : D.F) (a12 : D.F) : D.B := (D.bite (D.bite (D.bite (S8_0 D) (S9_0 D (S6_0 D a0 a1 a2 a3 a4 a5 a6 a7 a8 a9 a10 a11 a12) (S6_1 D a0 a1 a2 a3 a4 a5 a6 a7 a8 a9 a10 a11 a12) (S6_2 D a0 a1 a2 a3 a4 a5 a6 a7 a8 a9 a10 a11 a12) (S7_0 D a0 a1 a2 a3 a4 a5 a6 a7 a8 a9 a10 a11 a12) (S7_1 D a0 a1 a2 a3 a4 a5 a6 a7 a8 a9 a10 a11 a12) (S7_2 D a0 a1 a2 a3 a4 a5 a6 a7 a8 a9 a10 a11 a12)) (D.bc false)) (D.beq (S6_3 D a0 a1 a2 a3 a4 a5 a6 a7 a8 a9 a10 a11 a12) (S7_3 D a0 a1 a2 a3 a4 a5 a6 a7 a8 a9 a10 a11 a12)) (D.bc false)) (D.bite (D.bnot (S6_3 D a0 a1 a2 a3 a4 a5 a6 a7 a8 a9 a10 a11 a12)) (D.bc true) (D.bite (D.fgt (S6_2 D a0 a1 a2 a3 a4 a5 a6 a7 a8 a9 a10 a11 a12) (D.fc 0)) (D.fgt a9 (D.fc 0)) (D.bc false))) (D.bc false))
def O3 (D : Dom) (a0 : D.F) (a1 : D.F) (a2 : D.F) (a3 : D.F) (a4 : D.F) (a5 : D.F) (a10 : D.F) (a12 : D.F) : D.B := (D.band (O6 D a0 a1 a2 a3 a4 a5 a10 a12) (D.band (O7 D a0 a1 a2 a3 a4 a5) (O8 D)))
theorem ev3 (D : Dom) (a0 : D.F) (a1 : D.F) (a2 : D.F) (a3 : D.F) (a4 : D.F) (a5 : D.F) (a6 : D.F) (a7 : D.F) (a8 : D.F) (a9 : D.F) (a10 : D.F) (a11 : D.F) (a12 : D.F) : joinT (evFn Try.prog (tbl_9 D) 60 3 [.agg [.fl a0, .fl a1, .fl a2, .fl a3, .fl a4, .fl a5, .fl a6], .agg [.fl a7, .fl a8, .fl a9], .agg [.fl a10, .fl a11, .fl a12]]) = .val (some (O3 D a0 a1 a2 a3 a4 a5 a10 a12)) (.sb (S3_0 D a0 a1 a2 a3 a4 a5 a6 a7 a8 a9 a10 a11 a12)) := by kernel_rfl
def sp3 : Ev.Spec := fun D l => argA l fun c0 r0 => argF c0 fun a0 r1 => argF r1 fun a1 r2 => argF r2 fun a2 r3 => argF r3 fun a3 r4 => argF r4 fun a4 r5 => argF r5 fun a5 r6 => argF r6 fun a6 r7 => arg0 r7 (argA r0 fun c100 r100 => argF c100 fun a7 r101 => argF r101 fun a8 r102 => argF r102 fun a9 r103 => arg0 r103 (argA r100 fun c200 r200 => argF c200 fun a10 r201 => argF r201 fun a11 r202 => argF r202 fun a12 r203 => arg0 r203 (arg0 r200 (.node (O3 D a0 a1 a2 a3 a4 a5 a10 a12) (.ret (.sb (S3_0 D a0 a1 a2 a3 a4 a5 a6 a7 a8 a9 a10 a11 a12))) (.fail "pre")))))
theorem en3 : ∀ l r, (sp3 R l).run = some r → Entry Try.prog 3 l r := by
  intro l r h
  obtain ⟨_, _, h, L0⟩ := argA_inv h
  obtain ⟨x1, _, h, L1⟩ := argF_inv h
  obtain ⟨x2, _, h, L2⟩ := argF_inv h
  obtain ⟨x3, _, h, L3⟩ := argF_inv h
  obtain ⟨x4, _, h, L4⟩ := argF_inv h
  obtain ⟨x5, _, h, L5⟩ := argF_inv h
  obtain ⟨x6, _, h, L6⟩ := argF_inv h
  obtain ⟨x7, _, h, L7⟩ := argF_inv h
  obtain ⟨h, L8⟩ := arg0_inv h
  obtain ⟨_, _, h, L9⟩ := argA_inv h
  obtain ⟨x10, _, h, L10⟩ := argF_inv h
  obtain ⟨x11, _, h, L11⟩ := argF_inv h
  obtain ⟨x12, _, h, L12⟩ := argF_inv h
  obtain ⟨h, L13⟩ := arg0_inv h
  obtain ⟨_, _, h, L14⟩ := argA_inv h
  obtain ⟨x15, _, h, L15⟩ := argF_inv h
  obtain ⟨x16, _, h, L16⟩ := argF_inv h
  obtain ⟨x17, _, h, L17⟩ := argF_inv h
  obtain ⟨h, L18⟩ := arg0_inv h
  obtain ⟨h, L19⟩ := arg0_inv h
  obtain ⟨hok, rfl⟩ := run_okay h
  exact (entry_of prg tok_9 (ev3 R x1 x2 x3 x4 x5 x6 x7 x10 x11 x12 x15 x16 x17) (fun o ho => (Option.some.inj ho) ▸ hok) rfl).le (L0 _ _ (L1 _ (L2 _ (L3 _ (L4 _ (L5 _ (L6 _ (L7 _ L8))))))) (L9 _ _ (L10 _ (L11 _ (L12 _ L13))) (L14 _ _ (L15 _ (L16 _ (L17 _ L18))) L19)))
def tl_3 : List (Nat × Ev.Spec) := (3, sp3) :: tl_9
def tbl_3 (D : Dom) : Tbl D := tblOf tl_3 D
theorem tok_3 : TblOK Try.prog (tbl_3 R) := TblOK.cons tok_9 en3

-- penumbra/penumbraref05.Add
def S16_0 (D : Dom) (a0 : D.F) (a3 : D.F) : D.F := (D.fadd a0 a3)
def S16_1 (D : Dom) (a1 : D.F) (a4 : D.F) : D.F := (D.fadd a1 a4)
def S16_2 (D : Dom) (a2 : D.F) (a5 : D.F) : D.F := (D.fadd a2 a5)
theorem ev16 (D : Dom) (a0 : D.F) (a1 : D.F) (a2 : D.F) (a3 : D.F) (a4 : D.F) (a5 : D.F) : joinT (evFn Try.prog (tbl_3 D) 60 16 [.agg [.fl a0, .fl a1, .fl a2], .agg [.fl a3, .fl a4, .fl a5]]) = .val none (.agg [.fl (S16_0 D a0 a3), .fl (S16_1 D a1 a4), .fl (S16_2 D a2 a5)]) := by kernel_rfl
def sp16 : Ev.Spec := fun D l => argA l fun c0 r0 => argF c0 fun a0 r1 => argF r1 fun a1 r2 => argF r2 fun a2 r3 => arg0 r3 (argA r0 fun c100 r100 => argF c100 fun a3 r101 => argF r101 fun a4 r102 => argF r102 fun a5 r103 => arg0 r103 (arg0 r100 (.ret (.agg [.fl (S16_0 D a0 a3), .fl (S16_1 D a1 a4), .fl (S16_2 D a2 a5)]))))
theorem en16 : ∀ l r, (sp16 R l).run = some r → Entry Try.prog 16 l r := by
  intro l r h
  obtain ⟨_, _, h, L0⟩ := argA_inv h
  obtain ⟨x1, _, h, L1⟩ := argF_inv h
  obtain ⟨x2, _, h, L2⟩ := argF_inv h
  obtain ⟨x3, _, h, L3⟩ := argF_inv h
  obtain ⟨h, L4⟩ := arg0_inv h
  obtain ⟨_, _, h, L5⟩ := argA_inv h
  obtain ⟨x6, _, h, L6⟩ := argF_inv h
  obtain ⟨x7, _, h, L7⟩ := argF_inv h
  obtain ⟨x8, _, h, L8⟩ := argF_inv h
  obtain ⟨h, L9⟩ := arg0_inv h
  obtain ⟨h, L10⟩ := arg0_inv h
  cases h
  exact (entry_of prg tok_3 (ev16 R x1 x2 x3 x6 x7 x8) (fun o ho => nomatch ho) rfl).le (L0 _ _ (L1 _ (L2 _ (L3 _ L4))) (L5 _ _ (L6 _ (L7 _ (L8 _ L9))) L10))
def tl_16 : List (Nat × Ev.Spec) := (16, sp16) :: tl_3
def tbl_16 (D : Dom) : Tbl D := tblOf tl_16 D
theorem tok_16 : TblOK Try.prog (tbl_16 R) := TblOK.cons tok_3 en16

-- penumbra/penumbraref04.High
def S33_0 (D : Dom) (a0 : D.F) (a1 : D.F) : D.F := (D.fite (D.fgt a1 a0) a1 a0)
theorem ev33 (D : Dom) (a0 : D.F) (a1 : D.F) : joinT (evFn Try.prog (tbl_16 D) 60 33 [.fl a0, .fl a1]) = .val none (.fl (S33_0 D a0 a1)) := by kernel_rfl
def sp33 : Ev.Spec := fun D l => argF l fun a0 r0 => argF r0 fun a1 r1 => arg0 r1 (.ret (.fl (S33_0 D a0 a1)))
theorem en33 : ∀ l r, (sp33 R l).run = some r → Entry Try.prog 33 l r := by
  intro l r h
  obtain ⟨x0, _, h, L0⟩ := argF_inv h
  obtain ⟨x1, _, h, L1⟩ := argF_inv h
  obtain ⟨h, L2⟩ := arg0_inv h
  cases h
  exact (entry_of prg tok_16 (ev33 R x0 x1) (fun o ho => nomatch ho) rfl).le (L0 _ (L1 _ L2))
def tl_33 : List (Nat × Ev.Spec) := (33, sp33) :: tl_16
def tbl_33 (D : Dom) : Tbl D := tblOf tl_33 D
theorem tok_33 : TblOK Try.prog (tbl_33 R) := TblOK.cons tok_16 en33

-- penumbra/penumbraref05.Most
def S15_0 (D : Dom) (a0 : D.F) (a1 : D.F) (a2 : D.F) : D.F := (S33_0 D (S33_0 D a0 a1) a2)
theorem ev15 (D : Dom) (a0 : D.F) (a1 : D.F) (a2 : D.F) : joinT (evFn Try.prog (tbl_33 D) 60 15 [.agg [.fl a0, .fl a1, .fl a2]]) = .val none (.fl (S15_0 D a0 a1 a2)) := by kernel_rfl
def sp15 : Ev.Spec := fun D l => argA l fun c0 r0 => argF c0 fun a0 r1 => argF r1 fun a1 r2 => argF r2 fun a2 r3 => arg0 r3 (arg0 r0 (.ret (.fl (S15_0 D a0 a1 a2))))
theorem en15 : ∀ l r, (sp15 R l).run = some r → Entry Try.prog 15 l r := by
  intro l r h
  obtain ⟨_, _, h, L0⟩ := argA_inv h
  obtain ⟨x1, _, h, L1⟩ := argF_inv h
  obtain ⟨x2, _, h, L2⟩ := argF_inv h
  obtain ⟨x3, _, h, L3⟩ := argF_inv h
  obtain ⟨h, L4⟩ := arg0_inv h
  obtain ⟨h, L5⟩ := arg0_inv h
  cases h
  exact (entry_of prg tok_33 (ev15 R x1 x2 x3) (fun o ho => nomatch ho) rfl).le (L0 _ _ (L1 _ (L2 _ (L3 _ L4))) L5)
def tl_15 : List (Nat × Ev.Spec) := (15, sp15) :: tl_33
def tbl_15 (D : Dom) : Tbl D := tblOf tl_15 D
theorem tok_15 : TblOK Try.prog (tbl_15 R) := TblOK.cons tok_33 en15

-- penumbra/penumbralaw16.BsdfShares
def S4_0 (D : Dom) (a0 : D.F) (a1 : D.F) (a2 : D.F) (a3 : D.F) (a4 : D.F) (a5 : D.F) : D.B := (D.bite (D.bnot (D.beq (S11_0 D a0 a1 a2 a3 a4 a5) (D.bite (D.bite (D.bite (D.bite (D.bite (D.feq a0 (D.fc 0)) (D.feq a1 (D.fc 0)) (D.bc false)) (D.feq a2 (D.fc 0)) (D.bc false)) (D.feq a3 (D.fc 0)) (D.bc false)) (D.feq a4 (D.fc 0)) (D.bc false)) (D.feq a5 (D.fc 0)) (D.bc false)))) (D.bc false) (D.bite (S8_0 D) (D.bite (D.feq (S10_0 D a0 a1 a2 a3 a4 a5) (S12_0 D a0 a1 a2 a3 a4 a5)) (D.bite (D.fge (S10_0 D a0 a1 a2 a3 a4 a5) (D.fc 0)) (D.bite (D.fle (S10_0 D a0 a1 a2 a3 a4 a5) (D.fc 4607182418800017408)) (S13_0 D (S14_0 D a0 a1 a2 a3 a4 a5) (S15_0 D (S16_0 D a0 a3) (S16_1 D a1 a4) (S16_2 D a2 a5))) (D.bc false)) (D.bc false)) (D.bc false)) (D.bc false)))
def O4 (D : Dom) (a0 : D.F) (a1 : D.F) (a2 : D.F) (a3 : D.F) (a4 : D.F) (a5 : D.F) : D.B := (D.band (O10 D a0 a1 a2 a3 a4 a5) (D.bite (D.bnot (D.beq (S11_0 D a0 a1 a2 a3 a4 a5) (D.bite (D.bite (D.bite (D.bite (D.bite (D.feq a0 (D.fc 0)) (D.feq a1 (D.fc 0)) (D.bc false)) (D.feq a2 (D.fc 0)) (D.bc false)) (D.feq a3 (D.fc 0)) (D.bc false)) (D.feq a4 (D.fc 0)) (D.bc false)) (D.feq a5 (D.fc 0)) (D.bc false)))) (D.bc true) (D.band (O8 D) (D.bite (S8_0 D) (O12 D a0 a1 a2 a3 a4 a5) (D.bc true)))))
theorem ev4 (D : Dom) (a0 : D.F) (a1 : D.F) (a2 : D.F) (a3 : D.F) (a4 : D.F) (a5 : D.F) (a6 : D.F) : joinT (evFn Try.prog (tbl_15 D) 60 4 [.agg [.fl a0, .fl a1, .fl a2, .fl a3, .fl a4, .fl a5, .fl a6]]) = .val (some (O4 D a0 a1 a2 a3 a4 a5)) (.sb (S4_0 D a0 a1 a2 a3 a4 a5)) := by kernel_rfl
def sp4 : Ev.Spec := fun D l => argA l fun c0 r0 => argF c0 fun a0 r1 => argF r1 fun a1 r2 => argF r2 fun a2 r3 => argF r3 fun a3 r4 => argF r4 fun a4 r5 => argF r5 fun a5 r6 => argF r6 fun _a6 r7 => arg0 r7 (arg0 r0 (.node (O4 D a0 a1 a2 a3 a4 a5) (.ret (.sb (S4_0 D a0 a1 a2 a3 a4 a5))) (.fail "pre")))
theorem en4 : ∀ l r, (sp4 R l).run = some r → Entry Try.prog 4 l r := by
  intro l r h
  obtain ⟨_, _, h, L0⟩ := argA_inv h
  obtain ⟨x1, _, h, L1⟩ := argF_inv h
  obtain ⟨x2, _, h, L2⟩ := argF_inv h
  obtain ⟨x3, _, h, L3⟩ := argF_inv h
  obtain ⟨x4, _, h, L4⟩ := argF_inv h
  obtain ⟨x5, _, h, L5⟩ := argF_inv h
  obtain ⟨x6, _, h, L6⟩ := argF_inv h
  obtain ⟨x7, _, h, L7⟩ := argF_inv h
  obtain ⟨h, L8⟩ := arg0_inv h
  obtain ⟨h, L9⟩ := arg0_inv h
  obtain ⟨hok, rfl⟩ := run_okay h
  exact (entry_of prg tok_15 (ev4 R x1 x2 x3 x4 x5 x6 x7) (fun o ho => (Option.some.inj ho) ▸ hok) rfl).le (L0 _ _ (L1 _ (L2 _ (L3 _ (L4 _ (L5 _ (L6 _ (L7 _ L8))))))) L9)
def tl_4 : List (Nat × Ev.Spec) := (4, sp4) :: tl_15
def tbl_4 (D : Dom) : Tbl D := tblOf tl_4 D
theorem tok_4 : TblOK Try.prog (tbl_4 R) := TblOK.cons tok_15 en4

-- penumbra/lambert.Eval$1
def S69_0 (D : Dom) (a0 : D.F) : D.F := (D.fdiv a0 (D.fc 4614256656552045848))
theorem ev69 (D : Dom) (a0 : D.F) : joinT (evFn Try.prog (tbl_4 D) 60 69 [.fl a0]) = .val none (.fl (S69_0 D a0)) := by kernel_rfl
def sp69 : Ev.Spec := fun D l => argF l fun a0 r0 => arg0 r0 (.ret (.fl (S69_0 D a0)))
theorem en69 : ∀ l r, (sp69 R l).run = some r → Entry Try.prog 69 l r := by
  intro l r h
  obtain ⟨x0, _, h, L0⟩ := argF_inv h
  obtain ⟨h, L1⟩ := arg0_inv h
  cases h
  exact (entry_of prg tok_4 (ev69 R x0) (fun o ho => nomatch ho) rfl).le (L0 _ L1)
def tl_69 : List (Nat × Ev.Spec) := (69, sp69) :: tl_4
def tbl_69 (D : Dom) : Tbl D := tblOf tl_69 D
theorem tok_69 : TblOK Try.prog (tbl_69 R) := TblOK.cons tok_4 en69

-- penumbra/lambert.Eval
def S37_0 (D : Dom) (a0 : D.F) (a5 : D.F) (a8 : D.F) : D.F := (D.fite (D.bnot (S44_0 D a5 a8)) (D.fc 0) (S69_0 D a0))
def S37_1 (D : Dom) (a1 : D.F) (a5 : D.F) (a8 : D.F) : D.F := (D.fite (D.bnot (S44_0 D a5 a8)) (D.fc 0) (S69_0 D a1))
def S37_2 (D : Dom) (a2 : D.F) (a5 : D.F) (a8 : D.F) : D.F := (D.fite (D.bnot (S44_0 D a5 a8)) (D.fc 0) (S69_0 D a2))
theorem ev37 (D : Dom) (a0 : D.F) (a1 : D.F) (a2 : D.F) (a3 : D.F) (a4 : D.F) (a5 : D.F) (a6 : D.F) (a7 : D.F) (a8 : D.F) : joinT (evFn Try.prog (tbl_69 D) 60 37 [.agg [.fl a0, .fl a1, .fl a2], .agg [.fl a3, .fl a4, .fl a5], .agg [.fl a6, .fl a7, .fl a8]]) = .val none (.agg [.fl (S37_0 D a0 a5 a8), .fl (S37_1 D a1 a5 a8), .fl (S37_2 D a2 a5 a8)]) := by kernel_rfl
def sp37 : Ev.Spec := fun D l => argA l fun c0 r0 => argF c0 fun a0 r1 => argF r1 fun a1 r2 => argF r2 fun a2 r3 => arg0 r3 (argA r0 fun c100 r100 => argF c100 fun _a3 r101 => argF r101 fun _a4 r102 => argF r102 fun a5 r103 => arg0 r103 (argA r100 fun c200 r200 => argF c200 fun _a6 r201 => argF r201 fun _a7 r202 => argF r202 fun a8 r203 => arg0 r203 (arg0 r200 (.ret (.agg [.fl (S37_0 D a0 a5 a8), .fl (S37_1 D a1 a5 a8), .fl (S37_2 D a2 a5 a8)])))))
theorem en37 : ∀ l r, (sp37 R l).run = some r → Entry Try.prog 37 l r := by
  intro l r h
  obtain ⟨_, _, h, L0⟩ := argA_inv h
  obtain ⟨x1, _, h, L1⟩ := argF_inv h
  obtain ⟨x2, _, h, L2⟩ := argF_inv h
  obtain ⟨x3, _, h, L3⟩ := argF_inv h
  obtain ⟨h, L4⟩ := arg0_inv h
  obtain ⟨_, _, h, L5⟩ := argA_inv h
  obtain ⟨x6, _, h, L6⟩ := argF_inv h
  obtain ⟨x7, _, h, L7⟩ := argF_inv h
  obtain ⟨x8, _, h, L8⟩ := argF_inv h
  obtain ⟨h, L9⟩ := arg0_inv h
  obtain ⟨_, _, h, L10⟩ := argA_inv h
  obtain ⟨x11, _, h, L11⟩ := argF_inv h
  obtain ⟨x12, _, h, L12⟩ := argF_inv h
  obtain ⟨x13, _, h, L13⟩ := argF_inv h
  obtain ⟨h, L14⟩ := arg0_inv h
  obtain ⟨h, L15⟩ := arg0_inv h
  cases h
  exact (entry_of prg tok_69 (ev37 R x1 x2 x3 x6 x7 x8 x11 x12 x13) (fun o ho => nomatch ho) rfl).le (L0 _ _ (L1 _ (L2 _ (L3 _ L4))) (L5 _ _ (L6 _ (L7 _ (L8 _ L9))) (L10 _ _ (L11 _ (L12 _ (L13 _ L14))) L15)))
def tl_37 : List (Nat × Ev.Spec) := (37, sp37) :: tl_69
def tbl_37 (D : Dom) : Tbl D := tblOf tl_37 D
theorem tok_37 : TblOK Try.prog (tbl_37 R) := TblOK.cons tok_69 en37

-- penumbra/ggx.Shadow
def S70_0 (D : Dom) (a0 : D.F) (a1 : D.F) : D.F := (D.fite (D.bnot (D.fgt a1 (D.fc 0))) (D.fc 0) (D.fdiv (D.fmul (D.fc 4611686018427387904) a1) (D.fadd a1 (S28_0 D (D.fadd (S45_0 D a0) (D.fmul (D.fsub (D.fc 4607182418800017408) (S45_0 D a0)) (D.fmul a1 a1)))))))
theorem ev70 (D : Dom) (a0 : D.F) (a1 : D.F) : joinT (evFn Try.prog (tbl_37 D) 60 70 [.fl a0, .fl a1]) = .val none (.fl (S70_0 D a0 a1)) := by kernel_rfl
def sp70 : Ev.Spec := fun D l => argF l fun a0 r0 => argF r0 fun a1 r1 => arg0 r1 (.ret (.fl (S70_0 D a0 a1)))
theorem en70 : ∀ l r, (sp70 R l).run = some r → Entry Try.prog 70 l r := by
  intro l r h
  obtain ⟨x0, _, h, L0⟩ := argF_inv h
  obtain ⟨x1, _, h, L1⟩ := argF_inv h
  obtain ⟨h, L2⟩ := arg0_inv h
  cases h
  exact (entry_of prg tok_37 (ev70 R x0 x1) (fun o ho => nomatch ho) rfl).le (L0 _ (L1 _ L2))
def tl_70 : List (Nat × Ev.Spec) := (70, sp70) :: tl_37
def tbl_70 (D : Dom) : Tbl D := tblOf tl_70 D
theorem tok_70 : TblOK Try.prog (tbl_70 R) := TblOK.cons tok_37 en70

-- penumbra/ggx.Fresnel
def S72_0 (D : Dom) (a0 : D.F) (a3 : D.F) : D.F := (D.fadd a0 (D.fmul (D.fsub (D.fc 4607182418800017408) a0) (D.fmul (D.fmul (D.fmul (D.fsub (D.fc 4607182418800017408) (S91_0 D a3 (D.fc 0) (D.fc 4607182418800017408))) (D.fsub (D.fc 4607182418800017408) (S91_0 D a3 (D.fc 0) (D.fc 4607182418800017408)))) (D.fmul (D.fsub (D.fc 4607182418800017408) (S91_0 D a3 (D.fc 0) (D.fc 4607182418800017408))) (D.fsub (D.fc 4607182418800017408) (S91_0 D a3 (D.fc 0) (D.fc 4607182418800017408))))) (D.fsub (D.fc 4607182418800017408) (S91_0 D a3 (D.fc 0) (D.fc 4607182418800017408))))))
def S72_1 (D : Dom) (a1 : D.F) (a3 : D.F) : D.F := (D.fadd a1 (D.fmul (D.fsub (D.fc 4607182418800017408) a1) (D.fmul (D.fmul (D.fmul (D.fsub (D.fc 4607182418800017408) (S91_0 D a3 (D.fc 0) (D.fc 4607182418800017408))) (D.fsub (D.fc 4607182418800017408) (S91_0 D a3 (D.fc 0) (D.fc 4607182418800017408)))) (D.fmul (D.fsub (D.fc 4607182418800017408) (S91_0 D a3 (D.fc 0) (D.fc 4607182418800017408))) (D.fsub (D.fc 4607182418800017408) (S91_0 D a3 (D.fc 0) (D.fc 4607182418800017408))))) (D.fsub (D.fc 4607182418800017408) (S91_0 D a3 (D.fc 0) (D.fc 4607182418800017408))))))
def S72_2 (D : Dom) (a2 : D.F) (a3 : D.F) : D.F := (D.fadd a2 (D.fmul (D.fsub (D.fc 4607182418800017408) a2) (D.fmul (D.fmul (D.fmul (D.fsub (D.fc 4607182418800017408) (S91_0 D a3 (D.fc 0) (D.fc 4607182418800017408))) (D.fsub (D.fc 4607182418800017408) (S91_0 D a3 (D.fc 0) (D.fc 4607182418800017408)))) (D.fmul (D.fsub (D.fc 4607182418800017408) (S91_0 D a3 (D.fc 0) (D.fc 4607182418800017408))) (D.fsub (D.fc 4607182418800017408) (S91_0 D a3 (D.fc 0) (D.fc 4607182418800017408))))) (D.fsub (D.fc 4607182418800017408) (S91_0 D a3 (D.fc 0) (D.fc 4607182418800017408))))))
theorem ev72 (D : Dom) (a0 : D.F) (a1 : D.F) (a2 : D.F) (a3 : D.F) : joinT (evFn Try.prog (tbl_70 D) 60 72 [.agg [.fl a0, .fl a1, .fl a2], .fl a3]) = .val none (.agg [.fl (S72_0 D a0 a3), .fl (S72_1 D a1 a3), .fl (S72_2 D a2 a3)]) := by kernel_rfl
def sp72 : Ev.Spec := fun D l => argA l fun c0 r0 => argF c0 fun a0 r1 => argF r1 fun a1 r2 => argF r2 fun a2 r3 => arg0 r3 (argF r0 fun a3 r100 => arg0 r100 (.ret (.agg [.fl (S72_0 D a0 a3), .fl (S72_1 D a1 a3), .fl (S72_2 D a2 a3)])))
theorem en72 : ∀ l r, (sp72 R l).run = some r → Entry Try.prog 72 l r := by
  intro l r h
  obtain ⟨_, _, h, L0⟩ := argA_inv h
  obtain ⟨x1, _, h, L1⟩ := argF_inv h
  obtain ⟨x2, _, h, L2⟩ := argF_inv h
  obtain ⟨x3, _, h, L3⟩ := argF_inv h
  obtain ⟨h, L4⟩ := arg0_inv h
  obtain ⟨x5, _, h, L5⟩ := argF_inv h
  obtain ⟨h, L6⟩ := arg0_inv h
  cases h
  exact (entry_of prg tok_70 (ev72 R x1 x2 x3 x5) (fun o ho => nomatch ho) rfl).le (L0 _ _ (L1 _ (L2 _ (L3 _ L4))) (L5 _ L6))
def tl_72 : List (Nat × Ev.Spec) := (72, sp72) :: tl_70
def tbl_72 (D : Dom) : Tbl D := tblOf tl_72 D
theorem tok_72 : TblOK Try.prog (tbl_72 R) := TblOK.cons tok_70 en72

-- penumbra/rgb.Gray
def S90_0 (D : Dom) (a0 : D.F) : D.F := a0
def S90_1 (D : Dom) (a0 : D.F) : D.F := a0
def S90_2 (D : Dom) (a0 : D.F) : D.F := a0
theorem ev90 (D : Dom) (a0 : D.F) : joinT (evFn Try.prog (tbl_72 D) 60 90 [.fl a0]) = .val none (.agg [.fl (S90_0 D a0), .fl (S90_1 D a0), .fl (S90_2 D a0)]) := by kernel_rfl
def sp90 : Ev.Spec := fun D l => argF l fun a0 r0 => arg0 r0 (.ret (.agg [.fl (S90_0 D a0), .fl (S90_1 D a0), .fl (S90_2 D a0)]))
theorem en90 : ∀ l r, (sp90 R l).run = some r → Entry Try.prog 90 l r := by
  intro l r h
  obtain ⟨x0, _, h, L0⟩ := argF_inv h
  obtain ⟨h, L1⟩ := arg0_inv h
  cases h
  exact (entry_of prg tok_72 (ev90 R x0) (fun o ho => nomatch ho) rfl).le (L0 _ L1)
def tl_90 : List (Nat × Ev.Spec) := (90, sp90) :: tl_72
def tbl_90 (D : Dom) : Tbl D := tblOf tl_90 D
theorem tok_90 : TblOK Try.prog (tbl_90 R) := TblOK.cons tok_72 en90

-- penumbra/rgb.Mul$1
def S103_0 (D : Dom) (a0 : D.F) (a1 : D.F) : D.F := (D.fmul a0 a1)
theorem ev103 (D : Dom) (a0 : D.F) (a1 : D.F) : joinT (evFn Try.prog (tbl_90 D) 60 103 [.fl a0, .fl a1]) = .val none (.fl (S103_0 D a0 a1)) := by kernel_rfl
def sp103 : Ev.Spec := fun D l => argF l fun a0 r0 => argF r0 fun a1 r1 => arg0 r1 (.ret (.fl (S103_0 D a0 a1)))
theorem en103 : ∀ l r, (sp103 R l).run = some r → Entry Try.prog 103 l r := by
  intro l r h
  obtain ⟨x0, _, h, L0⟩ := argF_inv h
  obtain ⟨x1, _, h, L1⟩ := argF_inv h
  obtain ⟨h, L2⟩ := arg0_inv h
  cases h
  exact (entry_of prg tok_90 (ev103 R x0 x1) (fun o ho => nomatch ho) rfl).le (L0 _ (L1 _ L2))
def tl_103 : List (Nat × Ev.Spec) := (103, sp103) :: tl_90
def tbl_103 (D : Dom) : Tbl D := tblOf tl_103 D
theorem tok_103 : TblOK Try.prog (tbl_103 R) := TblOK.cons tok_90 en103

-- penumbra/rgb.Mul
def S89_0 (D : Dom) (a0 : D.F) (a3 : D.F) : D.F := (S103_0 D a0 a3)
def S89_1 (D : Dom) (a1 : D.F) (a4 : D.F) : D.F := (S103_0 D a1 a4)
def S89_2 (D : Dom) (a2 : D.F) (a5 : D.F) : D.F := (S103_0 D a2 a5)
theorem ev89 (D : Dom) (a0 : D.F) (a1 : D.F) (a2 : D.F) (a3 : D.F) (a4 : D.F) (a5 : D.F) : joinT (evFn Try.prog (tbl_103 D) 60 89 [.agg [.fl a0, .fl a1, .fl a2], .agg [.fl a3, .fl a4, .fl a5]]) = .val none (.agg [.fl (S89_0 D a0 a3), .fl (S89_1 D a1 a4), .fl (S89_2 D a2 a5)]) := by kernel_rfl
def sp89 : Ev.Spec := fun D l => argA l fun c0 r0 => argF c0 fun a0 r1 => argF r1 fun a1 r2 => argF r2 fun a2 r3 => arg0 r3 (argA r0 fun c100 r100 => argF c100 fun a3 r101 => argF r101 fun a4 r102 => argF r102 fun a5 r103 => arg0 r103 (arg0 r100 (.ret (.agg [.fl (S89_0 D a0 a3), .fl (S89_1 D a1 a4), .fl (S89_2 D a2 a5)]))))
theorem en89 : ∀ l r, (sp89 R l).run = some r → Entry Try.prog 89 l r := by
  intro l r h
  obtain ⟨_, _, h, L0⟩ := argA_inv h
  obtain ⟨x1, _, h, L1⟩ := argF_inv h
  obtain ⟨x2, _, h, L2⟩ := argF_inv h
  obtain ⟨x3, _, h, L3⟩ := argF_inv h
  obtain ⟨h, L4⟩ := arg0_inv h
  obtain ⟨_, _, h, L5⟩ := argA_inv h
  obtain ⟨x6, _, h, L6⟩ := argF_inv h
  obtain ⟨x7, _, h, L7⟩ := argF_inv h
  obtain ⟨x8, _, h, L8⟩ := argF_inv h
  obtain ⟨h, L9⟩ := arg0_inv h
  obtain ⟨h, L10⟩ := arg0_inv h
  cases h
  exact (entry_of prg tok_103 (ev89 R x1 x2 x3 x6 x7 x8) (fun o ho => nomatch ho) rfl).le (L0 _ _ (L1 _ (L2 _ (L3 _ L4))) (L5 _ _ (L6 _ (L7 _ (L8 _ L9))) L10))
def tl_89 : List (Nat × Ev.Spec) := (89, sp89) :: tl_103
def tbl_89 (D : Dom) : Tbl D := tblOf tl_89 D
theorem tok_89 : TblOK Try.prog (tbl_89 R) := TblOK.cons tok_103 en89

-- penumbra/rgb.Scale
def S71_0 (D : Dom) (a0 : D.F) (a3 : D.F) : D.F := (S89_0 D a0 (S90_0 D a3))
def S71_1 (D : Dom) (a1 : D.F) (a3 : D.F) : D.F := (S89_1 D a1 (S90_1 D a3))
def S71_2 (D : Dom) (a2 : D.F) (a3 : D.F) : D.F := (S89_2 D a2 (S90_2 D a3))
theorem ev71 (D : Dom) (a0 : D.F) (a1 : D.F) (a2 : D.F) (a3 : D.F) : joinT (evFn Try.prog (tbl_89 D) 60 71 [.agg [.fl a0, .fl a1, .fl a2], .fl a3]) = .val none (.agg [.fl (S71_0 D a0 a3), .fl (S71_1 D a1 a3), .fl (S71_2 D a2 a3)]) := by kernel_rfl
def sp71 : Ev.Spec := fun D l => argA l fun c0 r0 => argF c0 fun a0 r1 => argF r1 fun a1 r2 => argF r2 fun a2 r3 => arg0 r3 (argF r0 fun a3 r100 => arg0 r100 (.ret (.agg [.fl (S71_0 D a0 a3), .fl (S71_1 D a1 a3), .fl (S71_2 D a2 a3)])))
theorem en71 : ∀ l r, (sp71 R l).run = some r → Entry Try.prog 71 l r := by
  intro l r h
  obtain ⟨_, _, h, L0⟩ := argA_inv h
  obtain ⟨x1, _, h, L1⟩ := argF_inv h
  obtain ⟨x2, _, h, L2⟩ := argF_inv h
  obtain ⟨x3, _, h, L3⟩ := argF_inv h
  obtain ⟨h, L4⟩ := arg0_inv h
  obtain ⟨x5, _, h, L5⟩ := argF_inv h
  obtain ⟨h, L6⟩ := arg0_inv h
  cases h
  exact (entry_of prg tok_89 (ev71 R x1 x2 x3 x5) (fun o ho => nomatch ho) rfl).le (L0 _ _ (L1 _ (L2 _ (L3 _ L4))) (L5 _ L6))
def tl_71 : List (Nat × Ev.Spec) := (71, sp71) :: tl_89
def tbl_71 (D : Dom) : Tbl D := tblOf tl_71 D
theorem tok_71 : TblOK Try.prog (tbl_71 R) := TblOK.cons tok_89 en71

-- penumbra/ggx.Eval
def S38_0 (D : Dom) (a0 : D.F) (a3 : D.F) (a4 : D.F) (a5 : D.F) (a6 : D.F) (a7 : D.F) (a8 : D.F) (a9 : D.F) : D.F := (D.fite (D.bite (D.bnot (S67_3 D a4 a5 a6 a7 a8 a9)) (D.bc true) (D.bnot (D.fgt (S47_0 D a4 a5 a6 (S67_0 D a4 a5 a6 a7 a8 a9) (S67_1 D a4 a5 a6 a7 a8 a9) (S67_2 D a4 a5 a6 a7 a8 a9)) (D.fc 0)))) (D.fc 0) (S71_0 D (S72_0 D a0 (S47_0 D a4 a5 a6 (S67_0 D a4 a5 a6 a7 a8 a9) (S67_1 D a4 a5 a6 a7 a8 a9) (S67_2 D a4 a5 a6 a7 a8 a9))) (D.fdiv (D.fmul (S68_0 D a3 (S67_2 D a4 a5 a6 a7 a8 a9)) (D.fmul (S70_0 D a3 a6) (S70_0 D a3 a9))) (D.fmul (D.fmul (D.fc 4616189618054758400) a6) a9))))
def S38_1 (D : Dom) (a1 : D.F) (a3 : D.F) (a4 : D.F) (a5 : D.F) (a6 : D.F) (a7 : D.F) (a8 : D.F) (a9 : D.F) : D.F := (D.fite (D.bite (D.bnot (S67_3 D a4 a5 a6 a7 a8 a9)) (D.bc true) (D.bnot (D.fgt (S47_0 D a4 a5 a6 (S67_0 D a4 a5 a6 a7 a8 a9) (S67_1 D a4 a5 a6 a7 a8 a9) (S67_2 D a4 a5 a6 a7 a8 a9)) (D.fc 0)))) (D.fc 0) (S71_1 D (S72_1 D a1 (S47_0 D a4 a5 a6 (S67_0 D a4 a5 a6 a7 a8 a9) (S67_1 D a4 a5 a6 a7 a8 a9) (S67_2 D a4 a5 a6 a7 a8 a9))) (D.fdiv (D.fmul (S68_0 D a3 (S67_2 D a4 a5 a6 a7 a8 a9)) (D.fmul (S70_0 D a3 a6) (S70_0 D a3 a9))) (D.fmul (D.fmul (D.fc 4616189618054758400) a6) a9))))
def S38_2 (D : Dom) (a2 : D.F) (a3 : D.F) (a4 : D.F) (a5 : D.F) (a6 : D.F) (a7 : D.F) (a8 : D.F) (a9 : D.F) : D.F := (D.fite (D.bite (D.bnot (S67_3 D a4 a5 a6 a7 a8 a9)) (D.bc true) (D.bnot (D.fgt (S47_0 D a4 a5 a6 (S67_0 D a4 a5 a6 a7 a8 a9) (S67_1 D a4 a5 a6 a7 a8 a9) (S67_2 D a4 a5 a6 a7 a8 a9)) (D.fc 0)))) (D.fc 0) (S71_2 D (S72_2 D a2 (S47_0 D a4 a5 a6 (S67_0 D a4 a5 a6 a7 a8 a9) (S67_1 D a4 a5 a6 a7 a8 a9) (S67_2 D a4 a5 a6 a7 a8 a9))) (D.fdiv (D.fmul (S68_0 D a3 (S67_2 D a4 a5 a6 a7 a8 a9)) (D.fmul (S70_0 D a3 a6) (S70_0 D a3 a9))) (D.fmul (D.fmul (D.fc 4616189618054758400) a6) a9))))
theorem ev38 (D : Dom) (a0 : D.F) (a1 : D.F) (a2 : D.F) (a3 : D.F) (a4 : D.F) (a5 : D.F) (a6 : D.F) (a7 : D.F) (a8 : D.F) (a9 : D.F) : joinT (evFn Try.prog (tbl_71 D) 60 38 [.agg [.fl a0, .fl a1, .fl a2], .fl a3, .agg [.fl a4, .fl a5, .fl a6], .agg [.fl a7, .fl a8, .fl a9]]) = .val none (.agg [.fl (S38_0 D a0 a3 a4 a5 a6 a7 a8 a9), .fl (S38_1 D a1 a3 a4 a5 a6 a7 a8 a9), .fl (S38_2 D a2 a3 a4 a5 a6 a7 a8 a9)]) := by kernel_rfl
def sp38 : Ev.Spec := fun D l => argA l fun c0 r0 => argF c0 fun a0 r1 => argF r1 fun a1 r2 => argF r2 fun a2 r3 => arg0 r3 (argF r0 fun a3 r100 => argA r100 fun c101 r101 => argF c101 fun a4 r102 => argF r102 fun a5 r103 => argF r103 fun a6 r104 => arg0 r104 (argA r101 fun c201 r201 => argF c201 fun a7 r202 => argF r202 fun a8 r203 => argF r203 fun a9 r204 => arg0 r204 (arg0 r201 (.ret (.agg [.fl (S38_0 D a0 a3 a4 a5 a6 a7 a8 a9), .fl (S38_1 D a1 a3 a4 a5 a6 a7 a8 a9), .fl (S38_2 D a2 a3 a4 a5 a6 a7 a8 a9)])))))
theorem en38 : ∀ l r, (sp38 R l).run = some r → Entry Try.prog 38 l r := by
  intro l r h
  obtain ⟨_, _, h, L0⟩ := argA_inv h
  obtain ⟨x1, _, h, L1⟩ := argF_inv h
  obtain ⟨x2, _, h, L2⟩ := argF_inv h
  obtain ⟨x3, _, h, L3⟩ := argF_inv h
  obtain ⟨h, L4⟩ := arg0_inv h
  obtain ⟨x5, _, h, L5⟩ := argF_inv h
  obtain ⟨_, _, h, L6⟩ := argA_inv h
  obtain ⟨x7, _, h, L7⟩ := argF_inv h
  obtain ⟨x8, _, h, L8⟩ := argF_inv h
  obtain ⟨x9, _, h, L9⟩ := argF_inv h
  obtain ⟨h, L10⟩ := arg0_inv h
  obtain ⟨_, _, h, L11⟩ := argA_inv h
  obtain ⟨x12, _, h, L12⟩ := argF_inv h
  obtain ⟨x13, _, h, L13⟩ := argF_inv h
  obtain ⟨x14, _, h, L14⟩ := argF_inv h
  obtain ⟨h, L15⟩ := arg0_inv h
  obtain ⟨h, L16⟩ := arg0_inv h
  cases h
  exact (entry_of prg tok_71 (ev38 R x1 x2 x3 x5 x7 x8 x9 x12 x13 x14) (fun o ho => nomatch ho) rfl).le (L0 _ _ (L1 _ (L2 _ (L3 _ L4))) (L5 _ (L6 _ _ (L7 _ (L8 _ (L9 _ L10))) (L11 _ _ (L12 _ (L13 _ (L14 _ L15))) L16))))
def tl_38 : List (Nat × Ev.Spec) := (38, sp38) :: tl_71
def tbl_38 (D : Dom) : Tbl D := tblOf tl_38 D
theorem tok_38 : TblOK Try.prog (tbl_38 R) := TblOK.cons tok_71 en38

-- penumbra/bsdf.Eval
def S19_0 (D : Dom) (a0 : D.F) (a3 : D.F) (a6 : D.F) (a7 : D.F) (a8 : D.F) (a9 : D.F) (a10 : D.F) (a11 : D.F) (a12 : D.F) : D.F := (S32_0 D (S37_0 D a0 a9 a12) (S38_0 D a3 a6 a7 a8 a9 a10 a11 a12))
def S19_1 (D : Dom) (a1 : D.F) (a4 : D.F) (a6 : D.F) (a7 : D.F) (a8 : D.F) (a9 : D.F) (a10 : D.F) (a11 : D.F) (a12 : D.F) : D.F := (S32_1 D (S37_1 D a1 a9 a12) (S38_1 D a4 a6 a7 a8 a9 a10 a11 a12))
def S19_2 (D : Dom) (a2 : D.F) (a5 : D.F) (a6 : D.F) (a7 : D.F) (a8 : D.F) (a9 : D.F) (a10 : D.F) (a11 : D.F) (a12 : D.F) : D.F := (S32_2 D (S37_2 D a2 a9 a12) (S38_2 D a5 a6 a7 a8 a9 a10 a11 a12))
theorem ev19 (D : Dom) (a0 : D.F) (a1 : D.F) (a2 : D.F) (a3 : D.F) (a4 : D.F) (a5 : D.F) (a6 : D.F) (a7 : D.F) (a8 : D.F) (a9 : D.F) (a10 : D.F) (a11 : D.F) (a12 : D.F) : joinT (evFn Try.prog (tbl_38 D) 60 19 [.agg [.fl a0, .fl a1, .fl a2, .fl a3, .fl a4, .fl a5, .fl a6], .agg [.fl a7, .fl a8, .fl a9], .agg [.fl a10, .fl a11, .fl a12]]) = .val none (.agg [.fl (S19_0 D a0 a3 a6 a7 a8 a9 a10 a11 a12), .fl (S19_1 D a1 a4 a6 a7 a8 a9 a10 a11 a12), .fl (S19_2 D a2 a5 a6 a7 a8 a9 a10 a11 a12)]) := by kernel_rfl
def sp19 : Ev.Spec := fun D l => argA l fun c0 r0 => argF c0 fun a0 r1 => argF r1 fun a1 r2 => argF r2 fun a2 r3 => argF r3 fun a3 r4 => argF r4 fun a4 r5 => argF r5 fun a5 r6 => argF r6 fun a6 r7 => arg0 r7 (argA r0 fun c100 r100 => argF c100 fun a7 r101 => argF r101 fun a8 r102 => argF r102 fun a9 r103 => arg0 r103 (argA r100 fun c200 r200 => argF c200 fun a10 r201 => argF r201 fun a11 r202 => argF r202 fun a12 r203 => arg0 r203 (arg0 r200 (.ret (.agg [.fl (S19_0 D a0 a3 a6 a7 a8 a9 a10 a11 a12), .fl (S19_1 D a1 a4 a6 a7 a8 a9 a10 a11 a12), .fl (S19_2 D a2 a5 a6 a7 a8 a9 a10 a11 a12)])))))
theorem en19 : ∀ l r, (sp19 R l).run = some r → Entry Try.prog 19 l r := by
  intro l r h
  obtain ⟨_, _, h, L0⟩ := argA_inv h
  obtain ⟨x1, _, h, L1⟩ := argF_inv h
  obtain ⟨x2, _, h, L2⟩ := argF_inv h
  obtain ⟨x3, _, h, L3⟩ := argF_inv h
  obtain ⟨x4, _, h, L4⟩ := argF_inv h
  obtain ⟨x5, _, h, L5⟩ := argF_inv h
  obtain ⟨x6, _, h, L6⟩ := argF_inv h
  obtain ⟨x7, _, h, L7⟩ := argF_inv h
  obtain ⟨h, L8⟩ := arg0_inv h
  obtain ⟨_, _, h, L9⟩ := argA_inv h
  obtain ⟨x10, _, h, L10⟩ := argF_inv h
  obtain ⟨x11, _, h, L11⟩ := argF_inv h
  obtain ⟨x12, _, h, L12⟩ := argF_inv h
  obtain ⟨h, L13⟩ := arg0_inv h
  obtain ⟨_, _, h, L14⟩ := argA_inv h
  obtain ⟨x15, _, h, L15⟩ := argF_inv h
  obtain ⟨x16, _, h, L16⟩ := argF_inv h
  obtain ⟨x17, _, h, L17⟩ := argF_inv h
  obtain ⟨h, L18⟩ := arg0_inv h
  obtain ⟨h, L19⟩ := arg0_inv h
  cases h
  exact (entry_of prg tok_38 (ev19 R x1 x2 x3 x4 x5 x6 x7 x10 x11 x12 x15 x16 x17) (fun o ho => nomatch ho) rfl).le (L0 _ _ (L1 _ (L2 _ (L3 _ (L4 _ (L5 _ (L6 _ (L7 _ L8))))))) (L9 _ _ (L10 _ (L11 _ (L12 _ L13))) (L14 _ _ (L15 _ (L16 _ (L17 _ L18))) L19)))
def tl_19 : List (Nat × Ev.Spec) := (19, sp19) :: tl_38
def tbl_19 (D : Dom) : Tbl D := tblOf tl_19 D
theorem tok_19 : TblOK Try.prog (tbl_19 R) := TblOK.cons tok_38 en19

-- penumbra/penumbraref14.Eval
def S39_0 (D : Dom) (a0 : D.F) (a5 : D.F) (a8 : D.F) : D.F := (D.fite (D.bite (D.fgt a5 (D.fc 0)) (D.fgt a8 (D.fc 0)) (D.bc false)) (D.fdiv a0 (D.fc 4614256656552045848)) (D.fc 0))
def S39_1 (D : Dom) (a1 : D.F) (a5 : D.F) (a8 : D.F) : D.F := (D.fite (D.bite (D.fgt a5 (D.fc 0)) (D.fgt a8 (D.fc 0)) (D.bc false)) (D.fdiv a1 (D.fc 4614256656552045848)) (D.fc 0))
def S39_2 (D : Dom) (a2 : D.F) (a5 : D.F) (a8 : D.F) : D.F := (D.fite (D.bite (D.fgt a5 (D.fc 0)) (D.fgt a8 (D.fc 0)) (D.bc false)) (D.fdiv a2 (D.fc 4614256656552045848)) (D.fc 0))
theorem ev39 (D : Dom) (a0 : D.F) (a1 : D.F) (a2 : D.F) (a3 : D.F) (a4 : D.F) (a5 : D.F) (a6 : D.F) (a7 : D.F) (a8 : D.F) : joinT (evFn Try.prog (tbl_19 D) 60 39 [.agg [.fl a0, .fl a1, .fl a2], .agg [.fl a3, .fl a4, .fl a5], .agg [.fl a6, .fl a7, .fl a8]]) = .val none (.agg [.fl (S39_0 D a0 a5 a8), .fl (S39_1 D a1 a5 a8), .fl (S39_2 D a2 a5 a8)]) := by kernel_rfl
def sp39 : Ev.Spec := fun D l => argA l fun c0 r0 => argF c0 fun a0 r1 => argF r1 fun a1 r2 => argF r2 fun a2 r3 => arg0 r3 (argA r0 fun c100 r100 => argF c100 fun _a3 r101 => argF r101 fun _a4 r102 => argF r102 fun a5 r103 => arg0 r103 (argA r100 fun c200 r200 => argF c200 fun _a6 r201 => argF r201 fun _a7 r202 => argF r202 fun a8 r203 => arg0 r203 (arg0 r200 (.ret (.agg [.fl (S39_0 D a0 a5 a8), .fl (S39_1 D a1 a5 a8), .fl (S39_2 D a2 a5 a8)])))))
theorem en39 : ∀ l r, (sp39 R l).run = some r → Entry Try.prog 39 l r := by
  intro l r h
  obtain ⟨_, _, h, L0⟩ := argA_inv h
  obtain ⟨x1, _, h, L1⟩ := argF_inv h
  obtain ⟨x2, _, h, L2⟩ := argF_inv h
  obtain ⟨x3, _, h, L3⟩ := argF_inv h
  obtain ⟨h, L4⟩ := arg0_inv h
  obtain ⟨_, _, h, L5⟩ := argA_inv h
  obtain ⟨x6, _, h, L6⟩ := argF_inv h
  obtain ⟨x7, _, h, L7⟩ := argF_inv h
  obtain ⟨x8, _, h, L8⟩ := argF_inv h
  obtain ⟨h, L9⟩ := arg0_inv h
  obtain ⟨_, _, h, L10⟩ := argA_inv h
  obtain ⟨x11, _, h, L11⟩ := argF_inv h
  obtain ⟨x12, _, h, L12⟩ := argF_inv h
  obtain ⟨x13, _, h, L13⟩ := argF_inv h
  obtain ⟨h, L14⟩ := arg0_inv h
  obtain ⟨h, L15⟩ := arg0_inv h
  cases h
  exact (entry_of prg tok_19 (ev39 R x1 x2 x3 x6 x7 x8 x11 x12 x13) (fun o ho => nomatch ho) rfl).le (L0 _ _ (L1 _ (L2 _ (L3 _ L4))) (L5 _ _ (L6 _ (L7 _ (L8 _ L9))) (L10 _ _ (L11 _ (L12 _ (L13 _ L14))) L15)))
def tl_39 : List (Nat × Ev.Spec) := (39, sp39) :: tl_19
def tbl_39 (D : Dom) : Tbl D := tblOf tl_39 D
theorem tok_39 : TblOK Try.prog (tbl_39 R) := TblOK.cons tok_19 en39

-- penumbra/penumbraref02.Add
def S94_0 (D : Dom) (a0 : D.F) (a3 : D.F) : D.F := (D.fadd a0 a3)
def S94_1 (D : Dom) (a1 : D.F) (a4 : D.F) : D.F := (D.fadd a1 a4)
def S94_2 (D : Dom) (a2 : D.F) (a5 : D.F) : D.F := (D.fadd a2 a5)
theorem ev94 (D : Dom) (a0 : D.F) (a1 : D.F) (a2 : D.F) (a3 : D.F) (a4 : D.F) (a5 : D.F) : joinT (evFn Try.prog (tbl_39 D) 60 94 [.agg [.fl a0, .fl a1, .fl a2], .agg [.fl a3, .fl a4, .fl a5]]) = .val none (.agg [.fl (S94_0 D a0 a3), .fl (S94_1 D a1 a4), .fl (S94_2 D a2 a5)]) := by kernel_rfl
def sp94 : Ev.Spec := fun D l => argA l fun c0 r0 => argF c0 fun a0 r1 => argF r1 fun a1 r2 => argF r2 fun a2 r3 => arg0 r3 (argA r0 fun c100 r100 => argF c100 fun a3 r101 => argF r101 fun a4 r102 => argF r102 fun a5 r103 => arg0 r103 (arg0 r100 (.ret (.agg [.fl (S94_0 D a0 a3), .fl (S94_1 D a1 a4), .fl (S94_2 D a2 a5)]))))
theorem en94 : ∀ l r, (sp94 R l).run = some r → Entry Try.prog 94 l r := by
  intro l r h
  obtain ⟨_, _, h, L0⟩ := argA_inv h
  obtain ⟨x1, _, h, L1⟩ := argF_inv h
  obtain ⟨x2, _, h, L2⟩ := argF_inv h
  obtain ⟨x3, _, h, L3⟩ := argF_inv h
  obtain ⟨h, L4⟩ := arg0_inv h
  obtain ⟨_, _, h, L5⟩ := argA_inv h
  obtain ⟨x6, _, h, L6⟩ := argF_inv h
  obtain ⟨x7, _, h, L7⟩ := argF_inv h
  obtain ⟨x8, _, h, L8⟩ := argF_inv h
  obtain ⟨h, L9⟩ := arg0_inv h
  obtain ⟨h, L10⟩ := arg0_inv h
  cases h
  exact (entry_of prg tok_39 (ev94 R x1 x2 x3 x6 x7 x8) (fun o ho => nomatch ho) rfl).le (L0 _ _ (L1 _ (L2 _ (L3 _ L4))) (L5 _ _ (L6 _ (L7 _ (L8 _ L9))) L10))
def tl_94 : List (Nat × Ev.Spec) := (94, sp94) :: tl_39
def tbl_94 (D : Dom) : Tbl D := tblOf tl_94 D
theorem tok_94 : TblOK Try.prog (tbl_94 R) := TblOK.cons tok_39 en94

-- penumbra/penumbraref02.Unit
def S93_0 (D : Dom) (a0 : D.F) (a1 : D.F) (a2 : D.F) : D.F := (D.fite (D.bite (D.fgt (S28_0 D (S52_0 D a0 a1 a2 a0 a1 a2)) (D.fc 0)) (S79_0 D (S28_0 D (S52_0 D a0 a1 a2 a0 a1 a2))) (D.bc false)) (D.fdiv a0 (S28_0 D (S52_0 D a0 a1 a2 a0 a1 a2))) (D.fc 0))
def S93_1 (D : Dom) (a0 : D.F) (a1 : D.F) (a2 : D.F) : D.F := (D.fite (D.bite (D.fgt (S28_0 D (S52_0 D a0 a1 a2 a0 a1 a2)) (D.fc 0)) (S79_0 D (S28_0 D (S52_0 D a0 a1 a2 a0 a1 a2))) (D.bc false)) (D.fdiv a1 (S28_0 D (S52_0 D a0 a1 a2 a0 a1 a2))) (D.fc 0))
def S93_2 (D : Dom) (a0 : D.F) (a1 : D.F) (a2 : D.F) : D.F := (D.fite (D.bite (D.fgt (S28_0 D (S52_0 D a0 a1 a2 a0 a1 a2)) (D.fc 0)) (S79_0 D (S28_0 D (S52_0 D a0 a1 a2 a0 a1 a2))) (D.bc false)) (D.fdiv a2 (S28_0 D (S52_0 D a0 a1 a2 a0 a1 a2))) (D.fc 0))
def S93_3 (D : Dom) (a0 : D.F) (a1 : D.F) (a2 : D.F) : D.B := (D.bite (D.bite (D.fgt (S28_0 D (S52_0 D a0 a1 a2 a0 a1 a2)) (D.fc 0)) (S79_0 D (S28_0 D (S52_0 D a0 a1 a2 a0 a1 a2))) (D.bc false)) (D.bc true) (D.bc false))
theorem ev93 (D : Dom) (a0 : D.F) (a1 : D.F) (a2 : D.F) : joinT (evFn Try.prog (tbl_94 D) 60 93 [.agg [.fl a0, .fl a1, .fl a2]]) = .val none (.tup [.agg [.fl (S93_0 D a0 a1 a2), .fl (S93_1 D a0 a1 a2), .fl (S93_2 D a0 a1 a2)], .sb (S93_3 D a0 a1 a2)]) := by kernel_rfl
def sp93 : Ev.Spec := fun D l => argA l fun c0 r0 => argF c0 fun a0 r1 => argF r1 fun a1 r2 => argF r2 fun a2 r3 => arg0 r3 (arg0 r0 (.ret (.tup [.agg [.fl (S93_0 D a0 a1 a2), .fl (S93_1 D a0 a1 a2), .fl (S93_2 D a0 a1 a2)], .sb (S93_3 D a0 a1 a2)])))
theorem en93 : ∀ l r, (sp93 R l).run = some r → Entry Try.prog 93 l r := by
  intro l r h
  obtain ⟨_, _, h, L0⟩ := argA_inv h
  obtain ⟨x1, _, h, L1⟩ := argF_inv h
  obtain ⟨x2, _, h, L2⟩ := argF_inv h
  obtain ⟨x3, _, h, L3⟩ := argF_inv h
  obtain ⟨h, L4⟩ := arg0_inv h
  obtain ⟨h, L5⟩ := arg0_inv h
  cases h
  exact (entry_of prg tok_94 (ev93 R x1 x2 x3) (fun o ho => nomatch ho) rfl).le (L0 _ _ (L1 _ (L2 _ (L3 _ L4))) L5)
def tl_93 : List (Nat × Ev.Spec) := (93, sp93) :: tl_94
def tbl_93 (D : Dom) : Tbl D := tblOf tl_93 D
theorem tok_93 : TblOK Try.prog (tbl_93 R) := TblOK.cons tok_94 en93

-- penumbra/penumbraref15.Half
def S73_0 (D : Dom) (a0 : D.F) (a1 : D.F) (a2 : D.F) (a3 : D.F) (a4 : D.F) (a5 : D.F) : D.F := (D.fite (D.bite (D.fgt a2 (D.fc 0)) (D.fgt a5 (D.fc 0)) (D.bc false)) (S93_0 D (S94_0 D a0 a3) (S94_1 D a1 a4) (S94_2 D a2 a5)) (D.fc 0))
def S73_1 (D : Dom) (a0 : D.F) (a1 : D.F) (a2 : D.F) (a3 : D.F) (a4 : D.F) (a5 : D.F) : D.F := (D.fite (D.bite (D.fgt a2 (D.fc 0)) (D.fgt a5 (D.fc 0)) (D.bc false)) (S93_1 D (S94_0 D a0 a3) (S94_1 D a1 a4) (S94_2 D a2 a5)) (D.fc 0))
def S73_2 (D : Dom) (a0 : D.F) (a1 : D.F) (a2 : D.F) (a3 : D.F) (a4 : D.F) (a5 : D.F) : D.F := (D.fite (D.bite (D.fgt a2 (D.fc 0)) (D.fgt a5 (D.fc 0)) (D.bc false)) (S93_2 D (S94_0 D a0 a3) (S94_1 D a1 a4) (S94_2 D a2 a5)) (D.fc 0))
def S73_3 (D : Dom) (a0 : D.F) (a1 : D.F) (a2 : D.F) (a3 : D.F) (a4 : D.F) (a5 : D.F) : D.B := (D.bite (D.bite (D.fgt a2 (D.fc 0)) (D.fgt a5 (D.fc 0)) (D.bc false)) (S93_3 D (S94_0 D a0 a3) (S94_1 D a1 a4) (S94_2 D a2 a5)) (D.bc false))
theorem ev73 (D : Dom) (a0 : D.F) (a1 : D.F) (a2 : D.F) (a3 : D.F) (a4 : D.F) (a5 : D.F) : joinT (evFn Try.prog (tbl_93 D) 60 73 [.agg [.fl a0, .fl a1, .fl a2], .agg [.fl a3, .fl a4, .fl a5]]) = .val none (.tup [.agg [.fl (S73_0 D a0 a1 a2 a3 a4 a5), .fl (S73_1 D a0 a1 a2 a3 a4 a5), .fl (S73_2 D a0 a1 a2 a3 a4 a5)], .sb (S73_3 D a0 a1 a2 a3 a4 a5)]) := by kernel_rfl
def sp73 : Ev.Spec := fun D l => argA l fun c0 r0 => argF c0 fun a0 r1 => argF r1 fun a1 r2 => argF r2 fun a2 r3 => arg0 r3 (argA r0 fun c100 r100 => argF c100 fun a3 r101 => argF r101 fun a4 r102 => argF r102 fun a5 r103 => arg0 r103 (arg0 r100 (.ret (.tup [.agg [.fl (S73_0 D a0 a1 a2 a3 a4 a5), .fl (S73_1 D a0 a1 a2 a3 a4 a5), .fl (S73_2 D a0 a1 a2 a3 a4 a5)], .sb (S73_3 D a0 a1 a2 a3 a4 a5)]))))
theorem en73 : ∀ l r, (sp73 R l).run = some r → Entry Try.prog 73 l r := by
  intro l r h
  obtain ⟨_, _, h, L0⟩ := argA_inv h
  obtain ⟨x1, _, h, L1⟩ := argF_inv h
  obtain ⟨x2, _, h, L2⟩ := argF_inv h
  obtain ⟨x3, _, h, L3⟩ := argF_inv h
  obtain ⟨h, L4⟩ := arg0_inv h
  obtain ⟨_, _, h, L5⟩ := argA_inv h
  obtain ⟨x6, _, h, L6⟩ := argF_inv h
  obtain ⟨x7, _, h, L7⟩ := argF_inv h
  obtain ⟨x8, _, h, L8⟩ := argF_inv h
  obtain ⟨h, L9⟩ := arg0_inv h
  obtain ⟨h, L10⟩ := arg0_inv h
  cases h
  exact (entry_of prg tok_93 (ev73 R x1 x2 x3 x6 x7 x8) (fun o ho => nomatch ho) rfl).le (L0 _ _ (L1 _ (L2 _ (L3 _ L4))) (L5 _ _ (L6 _ (L7 _ (L8 _ L9))) L10))
def tl_73 : List (Nat × Ev.Spec) := (73, sp73) :: tl_93
def tbl_73 (D : Dom) : Tbl D := tblOf tl_73 D
theorem tok_73 : TblOK Try.prog (tbl_73 R) := TblOK.cons tok_93 en73

-- penumbra/penumbraref15.Shadow
def S74_0 (D : Dom) (a0 : D.F) (a1 : D.F) : D.F := (D.fite (D.fgt a1 (D.fc 0)) (D.fdiv (D.fmul (D.fc 4611686018427387904) a1) (D.fadd a1 (S28_0 D (D.fadd (D.fmul (S50_0 D a0) (S50_0 D a0)) (D.fmul (D.fsub (D.fc 4607182418800017408) (D.fmul (S50_0 D a0) (S50_0 D a0))) (D.fmul a1 a1)))))) (D.fc 0))
theorem ev74 (D : Dom) (a0 : D.F) (a1 : D.F) : joinT (evFn Try.prog (tbl_73 D) 60 74 [.fl a0, .fl a1]) = .val none (.fl (S74_0 D a0 a1)) := by kernel_rfl
def sp74 : Ev.Spec := fun D l => argF l fun a0 r0 => argF r0 fun a1 r1 => arg0 r1 (.ret (.fl (S74_0 D a0 a1)))
theorem en74 : ∀ l r, (sp74 R l).run = some r → Entry Try.prog 74 l r := by
  intro l r h
  obtain ⟨x0, _, h, L0⟩ := argF_inv h
  obtain ⟨x1, _, h, L1⟩ := argF_inv h
  obtain ⟨h, L2⟩ := arg0_inv h
  cases h
  exact (entry_of prg tok_73 (ev74 R x0 x1) (fun o ho => nomatch ho) rfl).le (L0 _ (L1 _ L2))
def tl_74 : List (Nat × Ev.Spec) := (74, sp74) :: tl_73
def tbl_74 (D : Dom) : Tbl D := tblOf tl_74 D
theorem tok_74 : TblOK Try.prog (tbl_74 R) := TblOK.cons tok_73 en74

-- penumbra/penumbraref15.Normals
def S75_0 (D : Dom) (a0 : D.F) (a1 : D.F) : D.F := (D.fite (D.fgt a1 (D.fc 0)) (D.fdiv (D.fmul (S50_0 D a0) (S50_0 D a0)) (D.fmul (D.fc 4614256656552045848) (D.fmul (D.fadd (D.fmul (D.fsub (D.fmul (S50_0 D a0) (S50_0 D a0)) (D.fc 4607182418800017408)) (D.fmul a1 a1)) (D.fc 4607182418800017408)) (D.fadd (D.fmul (D.fsub (D.fmul (S50_0 D a0) (S50_0 D a0)) (D.fc 4607182418800017408)) (D.fmul a1 a1)) (D.fc 4607182418800017408))))) (D.fc 0))
theorem ev75 (D : Dom) (a0 : D.F) (a1 : D.F) : joinT (evFn Try.prog (tbl_74 D) 60 75 [.fl a0, .fl a1]) = .val none (.fl (S75_0 D a0 a1)) := by kernel_rfl
def sp75 : Ev.Spec := fun D l => argF l fun a0 r0 => argF r0 fun a1 r1 => arg0 r1 (.ret (.fl (S75_0 D a0 a1)))
theorem en75 : ∀ l r, (sp75 R l).run = some r → Entry Try.prog 75 l r := by
  intro l r h
  obtain ⟨x0, _, h, L0⟩ := argF_inv h
  obtain ⟨x1, _, h, L1⟩ := argF_inv h
  obtain ⟨h, L2⟩ := arg0_inv h
  cases h
  exact (entry_of prg tok_74 (ev75 R x0 x1) (fun o ho => nomatch ho) rfl).le (L0 _ (L1 _ L2))
def tl_75 : List (Nat × Ev.Spec) := (75, sp75) :: tl_74
def tbl_75 (D : Dom) : Tbl D := tblOf tl_75 D
theorem tok_75 : TblOK Try.prog (tbl_75 R) := TblOK.cons tok_74 en75

-- penumbra/penumbraref15.one
def S95_0 (D : Dom) (a0 : D.F) (a1 : D.F) : D.F := (D.fadd a0 (D.fmul (D.fsub (D.fc 4607182418800017408) a0) a1))
theorem ev95 (D : Dom) (a0 : D.F) (a1 : D.F) : joinT (evFn Try.prog (tbl_75 D) 60 95 [.fl a0, .fl a1]) = .val none (.fl (S95_0 D a0 a1)) := by kernel_rfl
def sp95 : Ev.Spec := fun D l => argF l fun a0 r0 => argF r0 fun a1 r1 => arg0 r1 (.ret (.fl (S95_0 D a0 a1)))
theorem en95 : ∀ l r, (sp95 R l).run = some r → Entry Try.prog 95 l r := by
  intro l r h
  obtain ⟨x0, _, h, L0⟩ := argF_inv h
  obtain ⟨x1, _, h, L1⟩ := argF_inv h
  obtain ⟨h, L2⟩ := arg0_inv h
  cases h
  exact (entry_of prg tok_75 (ev95 R x0 x1) (fun o ho => nomatch ho) rfl).le (L0 _ (L1 _ L2))
def tl_95 : List (Nat × Ev.Spec) := (95, sp95) :: tl_75
def tbl_95 (D : Dom) : Tbl D := tblOf tl_95 D
theorem tok_95 : TblOK Try.prog (tbl_95 R) := TblOK.cons tok_75 en95

-- penumbra/penumbraref15.Fresnel
def S77_0 (D : Dom) (a0 : D.F) (a3 : D.F) : D.F := (S95_0 D a0 (D.fmul (D.fmul (D.fmul (D.fsub (D.fc 4607182418800017408) (D.fite (D.bite (D.fgt a3 (D.fc 4607182418800017408)) (D.bc true) (D.bnot (D.feq a3 a3))) (D.fc 4607182418800017408) (D.fite (D.flt a3 (D.fc 0)) (D.fc 0) a3))) (D.fsub (D.fc 4607182418800017408) (D.fite (D.bite (D.fgt a3 (D.fc 4607182418800017408)) (D.bc true) (D.bnot (D.feq a3 a3))) (D.fc 4607182418800017408) (D.fite (D.flt a3 (D.fc 0)) (D.fc 0) a3)))) (D.fmul (D.fsub (D.fc 4607182418800017408) (D.fite (D.bite (D.fgt a3 (D.fc 4607182418800017408)) (D.bc true) (D.bnot (D.feq a3 a3))) (D.fc 4607182418800017408) (D.fite (D.flt a3 (D.fc 0)) (D.fc 0) a3))) (D.fsub (D.fc 4607182418800017408) (D.fite (D.bite (D.fgt a3 (D.fc 4607182418800017408)) (D.bc true) (D.bnot (D.feq a3 a3))) (D.fc 4607182418800017408) (D.fite (D.flt a3 (D.fc 0)) (D.fc 0) a3))))) (D.fsub (D.fc 4607182418800017408) (D.fite (D.bite (D.fgt a3 (D.fc 4607182418800017408)) (D.bc true) (D.bnot (D.feq a3 a3))) (D.fc 4607182418800017408) (D.fite (D.flt a3 (D.fc 0)) (D.fc 0) a3)))))
def S77_1 (D : Dom) (a1 : D.F) (a3 : D.F) : D.F := (S95_0 D a1 (D.fmul (D.fmul (D.fmul (D.fsub (D.fc 4607182418800017408) (D.fite (D.bite (D.fgt a3 (D.fc 4607182418800017408)) (D.bc true) (D.bnot (D.feq a3 a3))) (D.fc 4607182418800017408) (D.fite (D.flt a3 (D.fc 0)) (D.fc 0) a3))) (D.fsub (D.fc 4607182418800017408) (D.fite (D.bite (D.fgt a3 (D.fc 4607182418800017408)) (D.bc true) (D.bnot (D.feq a3 a3))) (D.fc 4607182418800017408) (D.fite (D.flt a3 (D.fc 0)) (D.fc 0) a3)))) (D.fmul (D.fsub (D.fc 4607182418800017408) (D.fite (D.bite (D.fgt a3 (D.fc 4607182418800017408)) (D.bc true) (D.bnot (D.feq a3 a3))) (D.fc 4607182418800017408) (D.fite (D.flt a3 (D.fc 0)) (D.fc 0) a3))) (D.fsub (D.fc 4607182418800017408) (D.fite (D.bite (D.fgt a3 (D.fc 4607182418800017408)) (D.bc true) (D.bnot (D.feq a3 a3))) (D.fc 4607182418800017408) (D.fite (D.flt a3 (D.fc 0)) (D.fc 0) a3))))) (D.fsub (D.fc 4607182418800017408) (D.fite (D.bite (D.fgt a3 (D.fc 4607182418800017408)) (D.bc true) (D.bnot (D.feq a3 a3))) (D.fc 4607182418800017408) (D.fite (D.flt a3 (D.fc 0)) (D.fc 0) a3)))))
def S77_2 (D : Dom) (a2 : D.F) (a3 : D.F) : D.F := (S95_0 D a2 (D.fmul (D.fmul (D.fmul (D.fsub (D.fc 4607182418800017408) (D.fite (D.bite (D.fgt a3 (D.fc 4607182418800017408)) (D.bc true) (D.bnot (D.feq a3 a3))) (D.fc 4607182418800017408) (D.fite (D.flt a3 (D.fc 0)) (D.fc 0) a3))) (D.fsub (D.fc 4607182418800017408) (D.fite (D.bite (D.fgt a3 (D.fc 4607182418800017408)) (D.bc true) (D.bnot (D.feq a3 a3))) (D.fc 4607182418800017408) (D.fite (D.flt a3 (D.fc 0)) (D.fc 0) a3)))) (D.fmul (D.fsub (D.fc 4607182418800017408) (D.fite (D.bite (D.fgt a3 (D.fc 4607182418800017408)) (D.bc true) (D.bnot (D.feq a3 a3))) (D.fc 4607182418800017408) (D.fite (D.flt a3 (D.fc 0)) (D.fc 0) a3))) (D.fsub (D.fc 4607182418800017408) (D.fite (D.bite (D.fgt a3 (D.fc 4607182418800017408)) (D.bc true) (D.bnot (D.feq a3 a3))) (D.fc 4607182418800017408) (D.fite (D.flt a3 (D.fc 0)) (D.fc 0) a3))))) (D.fsub (D.fc 4607182418800017408) (D.fite (D.bite (D.fgt a3 (D.fc 4607182418800017408)) (D.bc true) (D.bnot (D.feq a3 a3))) (D.fc 4607182418800017408) (D.fite (D.flt a3 (D.fc 0)) (D.fc 0) a3)))))
theorem ev77 (D : Dom) (a0 : D.F) (a1 : D.F) (a2 : D.F) (a3 : D.F) : joinT (evFn Try.prog (tbl_95 D) 60 77 [.agg [.fl a0, .fl a1, .fl a2], .fl a3]) = .val none (.agg [.fl (S77_0 D a0 a3), .fl (S77_1 D a1 a3), .fl (S77_2 D a2 a3)]) := by kernel_rfl
def sp77 : Ev.Spec := fun D l => argA l fun c0 r0 => argF c0 fun a0 r1 => argF r1 fun a1 r2 => argF r2 fun a2 r3 => arg0 r3 (argF r0 fun a3 r100 => arg0 r100 (.ret (.agg [.fl (S77_0 D a0 a3), .fl (S77_1 D a1 a3), .fl (S77_2 D a2 a3)])))
theorem en77 : ∀ l r, (sp77 R l).run = some r → Entry Try.prog 77 l r := by
  intro l r h
  obtain ⟨_, _, h, L0⟩ := argA_inv h
  obtain ⟨x1, _, h, L1⟩ := argF_inv h
  obtain ⟨x2, _, h, L2⟩ := argF_inv h
  obtain ⟨x3, _, h, L3⟩ := argF_inv h
  obtain ⟨h, L4⟩ := arg0_inv h
  obtain ⟨x5, _, h, L5⟩ := argF_inv h
  obtain ⟨h, L6⟩ := arg0_inv h
  cases h
  exact (entry_of prg tok_95 (ev77 R x1 x2 x3 x5) (fun o ho => nomatch ho) rfl).le (L0 _ _ (L1 _ (L2 _ (L3 _ L4))) (L5 _ L6))
def tl_77 : List (Nat × Ev.Spec) := (77, sp77) :: tl_95
def tbl_77 (D : Dom) : Tbl D := tblOf tl_77 D
theorem tok_77 : TblOK Try.prog (tbl_77 R) := TblOK.cons tok_95 en77

-- penumbra/penumbraref05.Scale
def S76_0 (D : Dom) (a0 : D.F) (a3 : D.F) : D.F := (D.fmul a0 a3)
def S76_1 (D : Dom) (a1 : D.F) (a3 : D.F) : D.F := (D.fmul a1 a3)
def S76_2 (D : Dom) (a2 : D.F) (a3 : D.F) : D.F := (D.fmul a2 a3)
theorem ev76 (D : Dom) (a0 : D.F) (a1 : D.F) (a2 : D.F) (a3 : D.F) : joinT (evFn Try.prog (tbl_77 D) 60 76 [.agg [.fl a0, .fl a1, .fl a2], .fl a3]) = .val none (.agg [.fl (S76_0 D a0 a3), .fl (S76_1 D a1 a3), .fl (S76_2 D a2 a3)]) := by kernel_rfl
def sp76 : Ev.Spec := fun D l => argA l fun c0 r0 => argF c0 fun a0 r1 => argF r1 fun a1 r2 => argF r2 fun a2 r3 => arg0 r3 (argF r0 fun a3 r100 => arg0 r100 (.ret (.agg [.fl (S76_0 D a0 a3), .fl (S76_1 D a1 a3), .fl (S76_2 D a2 a3)])))
theorem en76 : ∀ l r, (sp76 R l).run = some r → Entry Try.prog 76 l r := by
  intro l r h
  obtain ⟨_, _, h, L0⟩ := argA_inv h
  obtain ⟨x1, _, h, L1⟩ := argF_inv h
  obtain ⟨x2, _, h, L2⟩ := argF_inv h
  obtain ⟨x3, _, h, L3⟩ := argF_inv h
  obtain ⟨h, L4⟩ := arg0_inv h
  obtain ⟨x5, _, h, L5⟩ := argF_inv h
  obtain ⟨h, L6⟩ := arg0_inv h
  cases h
  exact (entry_of prg tok_77 (ev76 R x1 x2 x3 x5) (fun o ho => nomatch ho) rfl).le (L0 _ _ (L1 _ (L2 _ (L3 _ L4))) (L5 _ L6))
def tl_76 : List (Nat × Ev.Spec) := (76, sp76) :: tl_77
def tbl_76 (D : Dom) : Tbl D := tblOf tl_76 D
theorem tok_76 : TblOK Try.prog (tbl_76 R) := TblOK.cons tok_77 en76

-- penumbra/penumbraref15.Eval
def S40_0 (D : Dom) (a0 : D.F) (a3 : D.F) (a4 : D.F) (a5 : D.F) (a6 : D.F) (a7 : D.F) (a8 : D.F) (a9 : D.F) : D.F := (D.fite (D.bite (S73_3 D a4 a5 a6 a7 a8 a9) (D.fgt (S52_0 D a4 a5 a6 (S73_0 D a4 a5 a6 a7 a8 a9) (S73_1 D a4 a5 a6 a7 a8 a9) (S73_2 D a4 a5 a6 a7 a8 a9)) (D.fc 0)) (D.bc false)) (S76_0 D (S77_0 D a0 (S52_0 D a4 a5 a6 (S73_0 D a4 a5 a6 a7 a8 a9) (S73_1 D a4 a5 a6 a7 a8 a9) (S73_2 D a4 a5 a6 a7 a8 a9))) (D.fdiv (D.fmul (S75_0 D a3 (S73_2 D a4 a5 a6 a7 a8 a9)) (D.fmul (S74_0 D a3 a6) (S74_0 D a3 a9))) (D.fmul (D.fmul (D.fc 4616189618054758400) a6) a9))) (D.fc 0))
def S40_1 (D : Dom) (a1 : D.F) (a3 : D.F) (a4 : D.F) (a5 : D.F) (a6 : D.F) (a7 : D.F) (a8 : D.F) (a9 : D.F) : D.F := (D.fite (D.bite (S73_3 D a4 a5 a6 a7 a8 a9) (D.fgt (S52_0 D a4 a5 a6 (S73_0 D a4 a5 a6 a7 a8 a9) (S73_1 D a4 a5 a6 a7 a8 a9) (S73_2 D a4 a5 a6 a7 a8 a9)) (D.fc 0)) (D.bc false)) (S76_1 D (S77_1 D a1 (S52_0 D a4 a5 a6 (S73_0 D a4 a5 a6 a7 a8 a9) (S73_1 D a4 a5 a6 a7 a8 a9) (S73_2 D a4 a5 a6 a7 a8 a9))) (D.fdiv (D.fmul (S75_0 D a3 (S73_2 D a4 a5 a6 a7 a8 a9)) (D.fmul (S74_0 D a3 a6) (S74_0 D a3 a9))) (D.fmul (D.fmul (D.fc 4616189618054758400) a6) a9))) (D.fc 0))
def S40_2 (D : Dom) (a2 : D.F) (a3 : D.F) (a4 : D.F) (a5 : D.F) (a6 : D.F) (a7 : D.F) (a8 : D.F) (a9 : D.F) : D.F := (D.fite (D.bite (S73_3 D a4 a5 a6 a7 a8 a9) (D.fgt (S52_0 D a4 a5 a6 (S73_0 D a4 a5 a6 a7 a8 a9) (S73_1 D a4 a5 a6 a7 a8 a9) (S73_2 D a4 a5 a6 a7 a8 a9)) (D.fc 0)) (D.bc false)) (S76_2 D (S77_2 D a2 (S52_0 D a4 a5 a6 (S73_0 D a4 a5 a6 a7 a8 a9) (S73_1 D a4 a5 a6 a7 a8 a9) (S73_2 D a4 a5 a6 a7 a8 a9))) (D.fdiv (D.fmul (S75_0 D a3 (S73_2 D a4 a5 a6 a7 a8 a9)) (D.fmul (S74_0 D a3 a6) (S74_0 D a3 a9))) (D.fmul (D.fmul (D.fc 4616189618054758400) a6) a9))) (D.fc 0))
theorem ev40 (D : Dom) (a0 : D.F) (a1 : D.F) (a2 : D.F) (a3 : D.F) (a4 : D.F) (a5 : D.F) (a6 : D.F) (a7 : D.F) (a8 : D.F) (a9 : D.F) : joinT (evFn Try.prog (tbl_76 D) 60 40 [.agg [.fl a0, .fl a1, .fl a2], .fl a3, .agg [.fl a4, .fl a5, .fl a6], .agg [.fl a7, .fl a8, .fl a9]]) = .val none (.agg [.fl (S40_0 D a0 a3 a4 a5 a6 a7 a8 a9), .fl (S40_1 D a1 a3 a4 a5 a6 a7 a8 a9), .fl (S40_2 D a2 a3 a4 a5 a6 a7 a8 a9)]) := by kernel_rfl
def sp40 : Ev.Spec := fun D l => argA l fun c0 r0 => argF c0 fun a0 r1 => argF r1 fun a1 r2 => argF r2 fun a2 r3 => arg0 r3 (argF r0 fun a3 r100 => argA r100 fun c101 r101 => argF c101 fun a4 r102 => argF r102 fun a5 r103 => argF r103 fun a6 r104 => arg0 r104 (argA r101 fun c201 r201 => argF c201 fun a7 r202 => argF r202 fun a8 r203 => argF r203 fun a9 r204 => arg0 r204 (arg0 r201 (.ret (.agg [.fl (S40_0 D a0 a3 a4 a5 a6 a7 a8 a9), .fl (S40_1 D a1 a3 a4 a5 a6 a7 a8 a9), .fl (S40_2 D a2 a3 a4 a5 a6 a7 a8 a9)])))))
theorem en40 : ∀ l r, (sp40 R l).run = some r → Entry Try.prog 40 l r := by
  intro l r h
  obtain ⟨_, _, h, L0⟩ := argA_inv h
  obtain ⟨x1, _, h, L1⟩ := argF_inv h
  obtain ⟨x2, _, h, L2⟩ := argF_inv h
  obtain ⟨x3, _, h, L3⟩ := argF_inv h
  obtain ⟨h, L4⟩ := arg0_inv h
  obtain ⟨x5, _, h, L5⟩ := argF_inv h
  obtain ⟨_, _, h, L6⟩ := argA_inv h
  obtain ⟨x7, _, h, L7⟩ := argF_inv h
  obtain ⟨x8, _, h, L8⟩ := argF_inv h
  obtain ⟨x9, _, h, L9⟩ := argF_inv h
  obtain ⟨h, L10⟩ := arg0_inv h
  obtain ⟨_, _, h, L11⟩ := argA_inv h
  obtain ⟨x12, _, h, L12⟩ := argF_inv h
  obtain ⟨x13, _, h, L13⟩ := argF_inv h
  obtain ⟨x14, _, h, L14⟩ := argF_inv h
  obtain ⟨h, L15⟩ := arg0_inv h
  obtain ⟨h, L16⟩ := arg0_inv h
  cases h
  exact (entry_of prg tok_76 (ev40 R x1 x2 x3 x5 x7 x8 x9 x12 x13 x14) (fun o ho => nomatch ho) rfl).le (L0 _ _ (L1 _ (L2 _ (L3 _ L4))) (L5 _ (L6 _ _ (L7 _ (L8 _ (L9 _ L10))) (L11 _ _ (L12 _ (L13 _ (L14 _ L15))) L16))))
def tl_40 : List (Nat × Ev.Spec) := (40, sp40) :: tl_76
def tbl_40 (D : Dom) : Tbl D := tblOf tl_40 D
theorem tok_40 : TblOK Try.prog (tbl_40 R) := TblOK.cons tok_76 en40

-- penumbra/penumbraref16.Eval
def S20_0 (D : Dom) (a0 : D.F) (a3 : D.F) (a6 : D.F) (a7 : D.F) (a8 : D.F) (a9 : D.F) (a10 : D.F) (a11 : D.F) (a12 : D.F) : D.F := (S16_0 D (S39_0 D a0 a9 a12) (S40_0 D a3 a6 a7 a8 a9 a10 a11 a12))
def S20_1 (D : Dom) (a1 : D.F) (a4 : D.F) (a6 : D.F) (a7 : D.F) (a8 : D.F) (a9 : D.F) (a10 : D.F) (a11 : D.F) (a12 : D.F) : D.F := (S16_1 D (S39_1 D a1 a9 a12) (S40_1 D a4 a6 a7 a8 a9 a10 a11 a12))
def S20_2 (D : Dom) (a2 : D.F) (a5 : D.F) (a6 : D.F) (a7 : D.F) (a8 : D.F) (a9 : D.F) (a10 : D.F) (a11 : D.F) (a12 : D.F) : D.F := (S16_2 D (S39_2 D a2 a9 a12) (S40_2 D a5 a6 a7 a8 a9 a10 a11 a12))
theorem ev20 (D : Dom) (a0 : D.F) (a1 : D.F) (a2 : D.F) (a3 : D.F) (a4 : D.F) (a5 : D.F) (a6 : D.F) (a7 : D.F) (a8 : D.F) (a9 : D.F) (a10 : D.F) (a11 : D.F) (a12 : D.F) : joinT (evFn Try.prog (tbl_40 D) 60 20 [.agg [.fl a0, .fl a1, .fl a2, .fl a3, .fl a4, .fl a5, .fl a6], .agg [.fl a7, .fl a8, .fl a9], .agg [.fl a10, .fl a11, .fl a12]]) = .val none (.agg [.fl (S20_0 D a0 a3 a6 a7 a8 a9 a10 a11 a12), .fl (S20_1 D a1 a4 a6 a7 a8 a9 a10 a11 a12), .fl (S20_2 D a2 a5 a6 a7 a8 a9 a10 a11 a12)]) := by kernel_rfl
def sp20 : Ev.Spec := fun D l => argA l fun c0 r0 => argF c0 fun a0 r1 => argF r1 fun a1 r2 => argF r2 fun a2 r3 => argF r3 fun a3 r4 => argF r4 fun a4 r5 => argF r5 fun a5 r6 => argF r6 fun a6 r7 => arg0 r7 (argA r0 fun c100 r100 => argF c100 fun a7 r101 => argF r101 fun a8 r102 => argF r102 fun a9 r103 => arg0 r103 (argA r100 fun c200 r200 => argF c200 fun a10 r201 => argF r201 fun a11 r202 => argF r202 fun a12 r203 => arg0 r203 (arg0 r200 (.ret (.agg [.fl (S20_0 D a0 a3 a6 a7 a8 a9 a10 a11 a12), .fl (S20_1 D a1 a4 a6 a7 a8 a9 a10 a11 a12), .fl (S20_2 D a2 a5 a6 a7 a8 a9 a10 a11 a12)])))))
theorem en20 : ∀ l r, (sp20 R l).run = some r → Entry Try.prog 20 l r := by
  intro l r h
  obtain ⟨_, _, h, L0⟩ := argA_inv h
  obtain ⟨x1, _, h, L1⟩ := argF_inv h
  obtain ⟨x2, _, h, L2⟩ := argF_inv h
  obtain ⟨x3, _, h, L3⟩ := argF_inv h
  obtain ⟨x4, _, h, L4⟩ := argF_inv h
  obtain ⟨x5, _, h, L5⟩ := argF_inv h
  obtain ⟨x6, _, h, L6⟩ := argF_inv h
  obtain ⟨x7, _, h, L7⟩ := argF_inv h
  obtain ⟨h, L8⟩ := arg0_inv h
  obtain ⟨_, _, h, L9⟩ := argA_inv h
  obtain ⟨x10, _, h, L10⟩ := argF_inv h
  obtain ⟨x11, _, h, L11⟩ := argF_inv h
  obtain ⟨x12, _, h, L12⟩ := argF_inv h
  obtain ⟨h, L13⟩ := arg0_inv h
  obtain ⟨_, _, h, L14⟩ := argA_inv h
  obtain ⟨x15, _, h, L15⟩ := argF_inv h
  obtain ⟨x16, _, h, L16⟩ := argF_inv h
  obtain ⟨x17, _, h, L17⟩ := argF_inv h
  obtain ⟨h, L18⟩ := arg0_inv h
  obtain ⟨h, L19⟩ := arg0_inv h
  cases h
  exact (entry_of prg tok_40 (ev20 R x1 x2 x3 x4 x5 x6 x7 x10 x11 x12 x15 x16 x17) (fun o ho => nomatch ho) rfl).le (L0 _ _ (L1 _ (L2 _ (L3 _ (L4 _ (L5 _ (L6 _ (L7 _ L8))))))) (L9 _ _ (L10 _ (L11 _ (L12 _ L13))) (L14 _ _ (L15 _ (L16 _ (L17 _ L18))) L19)))
def tl_20 : List (Nat × Ev.Spec) := (20, sp20) :: tl_40
def tbl_20 (D : Dom) : Tbl D := tblOf tl_20 D
theorem tok_20 : TblOK Try.prog (tbl_20 R) := TblOK.cons tok_40 en20

-- penumbra/penumbraref05.Is
def S18_0 (D : Dom) (a0 : D.F) (a1 : D.F) (a2 : D.F) (a3 : D.F) (a4 : D.F) (a5 : D.F) : D.B := (D.bite (D.bite (S13_0 D a0 a3) (S13_0 D a1 a4) (D.bc false)) (S13_0 D a2 a5) (D.bc false))
theorem ev18 (D : Dom) (a0 : D.F) (a1 : D.F) (a2 : D.F) (a3 : D.F) (a4 : D.F) (a5 : D.F) : joinT (evFn Try.prog (tbl_20 D) 60 18 [.agg [.fl a0, .fl a1, .fl a2], .agg [.fl a3, .fl a4, .fl a5]]) = .val none (.sb (S18_0 D a0 a1 a2 a3 a4 a5)) := by kernel_rfl
def sp18 : Ev.Spec := fun D l => argA l fun c0 r0 => argF c0 fun a0 r1 => argF r1 fun a1 r2 => argF r2 fun a2 r3 => arg0 r3 (argA r0 fun c100 r100 => argF c100 fun a3 r101 => argF r101 fun a4 r102 => argF r102 fun a5 r103 => arg0 r103 (arg0 r100 (.ret (.sb (S18_0 D a0 a1 a2 a3 a4 a5)))))
theorem en18 : ∀ l r, (sp18 R l).run = some r → Entry Try.prog 18 l r := by
  intro l r h
  obtain ⟨_, _, h, L0⟩ := argA_inv h
  obtain ⟨x1, _, h, L1⟩ := argF_inv h
  obtain ⟨x2, _, h, L2⟩ := argF_inv h
  obtain ⟨x3, _, h, L3⟩ := argF_inv h
  obtain ⟨h, L4⟩ := arg0_inv h
  obtain ⟨_, _, h, L5⟩ := argA_inv h
  obtain ⟨x6, _, h, L6⟩ := argF_inv h
  obtain ⟨x7, _, h, L7⟩ := argF_inv h
  obtain ⟨x8, _, h, L8⟩ := argF_inv h
  obtain ⟨h, L9⟩ := arg0_inv h
  obtain ⟨h, L10⟩ := arg0_inv h
  cases h
  exact (entry_of prg tok_20 (ev18 R x1 x2 x3 x6 x7 x8) (fun o ho => nomatch ho) rfl).le (L0 _ _ (L1 _ (L2 _ (L3 _ L4))) (L5 _ _ (L6 _ (L7 _ (L8 _ L9))) L10))
def tl_18 : List (Nat × Ev.Spec) := (18, sp18) :: tl_20
def tbl_18 (D : Dom) : Tbl D := tblOf tl_18 D
theorem tok_18 : TblOK Try.prog (tbl_18 R) := TblOK.cons tok_20 en18

-- penumbra/penumbraref09.abs
def S96_0 (D : Dom) (a0 : D.F) : D.F := (D.fite (D.bite (D.fge a0 (D.fc 0)) (D.bc true) (D.bnot (D.feq a0 a0))) a0 (D.fsub (D.fc 0) a0))
theorem ev96 (D : Dom) (a0 : D.F) : joinT (evFn Try.prog (tbl_18 D) 60 96 [.fl a0]) = .val none (.fl (S96_0 D a0)) := by kernel_rfl
def sp96 : Ev.Spec := fun D l => argF l fun a0 r0 => arg0 r0 (.ret (.fl (S96_0 D a0)))
theorem en96 : ∀ l r, (sp96 R l).run = some r → Entry Try.prog 96 l r := by
  intro l r h
  obtain ⟨x0, _, h, L0⟩ := argF_inv h
  obtain ⟨h, L1⟩ := arg0_inv h
  cases h
  exact (entry_of prg tok_18 (ev96 R x0) (fun o ho => nomatch ho) rfl).le (L0 _ L1)
def tl_96 : List (Nat × Ev.Spec) := (96, sp96) :: tl_18
def tbl_96 (D : Dom) : Tbl D := tblOf tl_96 D
theorem tok_96 : TblOK Try.prog (tbl_96 R) := TblOK.cons tok_18 en96

-- penumbra/penumbraref09.Angle
def S78_0 (D : Dom) (a0 : D.F) (a1 : D.F) : D.Z := (D.zite (D.bite (D.bite (D.bnot (S79_0 D (S96_0 D a0))) (D.bc true) (D.bnot (S79_0 D (S96_0 D a1)))) (D.bc true) (D.bite (D.feq (S96_0 D a0) (D.fc 0)) (D.feq (S96_0 D a1) (D.fc 0)) (D.bc false))) (D.zite (D.bite (D.bite (D.fge a0 (D.fc 0)) (D.fge a1 (D.fc 0)) (D.bc false)) (D.fge (S96_0 D a0) (S96_0 D a1)) (D.bc false)) (D.zc 0) (D.zite (D.bite (D.bite (D.fge a0 (D.fc 0)) (D.fge a1 (D.fc 0)) (D.bc false)) (D.flt (S96_0 D a0) (S96_0 D a1)) (D.bc false)) (D.zc 1) (D.zite (D.bite (D.bite (D.flt a0 (D.fc 0)) (D.fge a1 (D.fc 0)) (D.bc false)) (D.flt (S96_0 D a0) (S96_0 D a1)) (D.bc false)) (D.zc 2) (D.zite (D.bite (D.bite (D.flt a0 (D.fc 0)) (D.fge a1 (D.fc 0)) (D.bc false)) (D.fge (S96_0 D a0) (S96_0 D a1)) (D.bc false)) (D.zc 3) (D.zite (D.bite (D.bite (D.flt a0 (D.fc 0)) (D.flt a1 (D.fc 0)) (D.bc false)) (D.fge (S96_0 D a0) (S96_0 D a1)) (D.bc false)) (D.zc 4) (D.zite (D.bite (D.bite (D.flt a0 (D.fc 0)) (D.flt a1 (D.fc 0)) (D.bc false)) (D.flt (S96_0 D a0) (S96_0 D a1)) (D.bc false)) (D.zc 5) (D.zite (D.bite (D.bite (D.fge a0 (D.fc 0)) (D.flt a1 (D.fc 0)) (D.bc false)) (D.flt (S96_0 D a0) (S96_0 D a1)) (D.bc false)) (D.zc 6) (D.zc 7)))))))) (D.zite (D.fge (S96_0 D a0) (S96_0 D a1)) (D.zite (D.bite (D.bite (D.fge a0 (D.fc 0)) (D.fge a1 (D.fc 0)) (D.bc false)) (D.fge (S96_0 D a0) (S96_0 D a1)) (D.bc false)) (D.zc 0) (D.zite (D.bite (D.bite (D.fge a0 (D.fc 0)) (D.fge a1 (D.fc 0)) (D.bc false)) (D.flt (S96_0 D a0) (S96_0 D a1)) (D.bc false)) (D.zc 1) (D.zite (D.bite (D.bite (D.flt a0 (D.fc 0)) (D.fge a1 (D.fc 0)) (D.bc false)) (D.flt (S96_0 D a0) (S96_0 D a1)) (D.bc false)) (D.zc 2) (D.zite (D.bite (D.bite (D.flt a0 (D.fc 0)) (D.fge a1 (D.fc 0)) (D.bc false)) (D.fge (S96_0 D a0) (S96_0 D a1)) (D.bc false)) (D.zc 3) (D.zite (D.bite (D.bite (D.flt a0 (D.fc 0)) (D.flt a1 (D.fc 0)) (D.bc false)) (D.fge (S96_0 D a0) (S96_0 D a1)) (D.bc false)) (D.zc 4) (D.zite (D.bite (D.bite (D.flt a0 (D.fc 0)) (D.flt a1 (D.fc 0)) (D.bc false)) (D.flt (S96_0 D a0) (S96_0 D a1)) (D.bc false)) (D.zc 5) (D.zite (D.bite (D.bite (D.fge a0 (D.fc 0)) (D.flt a1 (D.fc 0)) (D.bc false)) (D.flt (S96_0 D a0) (S96_0 D a1)) (D.bc false)) (D.zc 6) (D.zc 7)))))))) (D.zite (D.bite (D.bite (D.fge a0 (D.fc 0)) (D.fge a1 (D.fc 0)) (D.bc false)) (D.fge (S96_0 D a0) (S96_0 D a1)) (D.bc false)) (D.zc 0) (D.zite (D.bite (D.bite (D.fge a0 (D.fc 0)) (D.fge a1 (D.fc 0)) (D.bc false)) (D.flt (S96_0 D a0) (S96_0 D a1)) (D.bc false)) (D.zc 1) (D.zite (D.bite (D.bite (D.flt a0 (D.fc 0)) (D.fge a1 (D.fc 0)) (D.bc false)) (D.flt (S96_0 D a0) (S96_0 D a1)) (D.bc false)) (D.zc 2) (D.zite (D.bite (D.bite (D.flt a0 (D.fc 0)) (D.fge a1 (D.fc 0)) (D.bc false)) (D.fge (S96_0 D a0) (S96_0 D a1)) (D.bc false)) (D.zc 3) (D.zite (D.bite (D.bite (D.flt a0 (D.fc 0)) (D.flt a1 (D.fc 0)) (D.bc false)) (D.fge (S96_0 D a0) (S96_0 D a1)) (D.bc false)) (D.zc 4) (D.zite (D.bite (D.bite (D.flt a0 (D.fc 0)) (D.flt a1 (D.fc 0)) (D.bc false)) (D.flt (S96_0 D a0) (S96_0 D a1)) (D.bc false)) (D.zc 5) (D.zite (D.bite (D.bite (D.fge a0 (D.fc 0)) (D.flt a1 (D.fc 0)) (D.bc false)) (D.flt (S96_0 D a0) (S96_0 D a1)) (D.bc false)) (D.zc 6) (D.zc 7))))))))))
def S78_1 (D : Dom) (a0 : D.F) (a1 : D.F) : D.F := (D.fite (D.bite (D.bite (D.bnot (S79_0 D (S96_0 D a0))) (D.bc true) (D.bnot (S79_0 D (S96_0 D a1)))) (D.bc true) (D.bite (D.feq (S96_0 D a0) (D.fc 0)) (D.feq (S96_0 D a1) (D.fc 0)) (D.bc false))) (D.fc 0) (D.fite (D.fge (S96_0 D a0) (S96_0 D a1)) (D.fdiv (S96_0 D a1) (S96_0 D a0)) (D.fdiv (S96_0 D a0) (S96_0 D a1))))
theorem ev78 (D : Dom) (a0 : D.F) (a1 : D.F) : joinT (evFn Try.prog (tbl_96 D) 60 78 [.fl a0, .fl a1]) = .val none (.tup [.si .i64 (S78_0 D a0 a1), .fl (S78_1 D a0 a1)]) := by kernel_rfl
def sp78 : Ev.Spec := fun D l => argF l fun a0 r0 => argF r0 fun a1 r1 => arg0 r1 (.ret (.tup [.si .i64 (S78_0 D a0 a1), .fl (S78_1 D a0 a1)]))
theorem en78 : ∀ l r, (sp78 R l).run = some r → Entry Try.prog 78 l r := by
  intro l r h
  obtain ⟨x0, _, h, L0⟩ := argF_inv h
  obtain ⟨x1, _, h, L1⟩ := argF_inv h
  obtain ⟨h, L2⟩ := arg0_inv h
  cases h
  exact (entry_of prg tok_96 (ev78 R x0 x1) (fun o ho => nomatch ho) rfl).le (L0 _ (L1 _ L2))
def tl_78 : List (Nat × Ev.Spec) := (78, sp78) :: tl_96
def tbl_78 (D : Dom) : Tbl D := tblOf tl_78 D
theorem tok_78 : TblOK Try.prog (tbl_78 R) := TblOK.cons tok_96 en78

-- penumbra/penumbraref14.Density
def S41_0 (D : Dom) (a2 : D.F) (a3 : D.F) (a4 : D.F) (a5 : D.F) : D.F := (D.fite (D.band (D.bite (D.fgt a2 (D.fc 0)) (D.fgt a5 (D.fc 0)) (D.bc false)) (S79_0 D (D.fmul (D.fmul (D.fc 4611686018427387904) (D.fmul (D.fadd (D.fc 4607182418800017408) (D.fmul (S78_1 D a3 a4) (S78_1 D a3 a4))) (D.fc 4593671619917905920))) a5))) (D.fmul (D.fmul (D.fc 4611686018427387904) (D.fmul (D.fadd (D.fc 4607182418800017408) (D.fmul (S78_1 D a3 a4) (S78_1 D a3 a4))) (D.fc 4593671619917905920))) a5) (D.fc 0))
theorem ev41 (D : Dom) (a0 : D.F) (a1 : D.F) (a2 : D.F) (a3 : D.F) (a4 : D.F) (a5 : D.F) : joinT (evFn Try.prog (tbl_78 D) 60 41 [.agg [.fl a0, .fl a1, .fl a2], .agg [.fl a3, .fl a4, .fl a5]]) = .val none (.fl (S41_0 D a2 a3 a4 a5)) := by kernel_rfl
def sp41 : Ev.Spec := fun D l => argA l fun c0 r0 => argF c0 fun _a0 r1 => argF r1 fun _a1 r2 => argF r2 fun a2 r3 => arg0 r3 (argA r0 fun c100 r100 => argF c100 fun a3 r101 => argF r101 fun a4 r102 => argF r102 fun a5 r103 => arg0 r103 (arg0 r100 (.ret (.fl (S41_0 D a2 a3 a4 a5)))))
theorem en41 : ∀ l r, (sp41 R l).run = some r → Entry Try.prog 41 l r := by
  intro l r h
  obtain ⟨_, _, h, L0⟩ := argA_inv h
  obtain ⟨x1, _, h, L1⟩ := argF_inv h
  obtain ⟨x2, _, h, L2⟩ := argF_inv h
  obtain ⟨x3, _, h, L3⟩ := argF_inv h
  obtain ⟨h, L4⟩ := arg0_inv h
  obtain ⟨_, _, h, L5⟩ := argA_inv h
  obtain ⟨x6, _, h, L6⟩ := argF_inv h
  obtain ⟨x7, _, h, L7⟩ := argF_inv h
  obtain ⟨x8, _, h, L8⟩ := argF_inv h
  obtain ⟨h, L9⟩ := arg0_inv h
  obtain ⟨h, L10⟩ := arg0_inv h
  cases h
  exact (entry_of prg tok_78 (ev41 R x1 x2 x3 x6 x7 x8) (fun o ho => nomatch ho) rfl).le (L0 _ _ (L1 _ (L2 _ (L3 _ L4))) (L5 _ _ (L6 _ (L7 _ (L8 _ L9))) L10))
def tl_41 : List (Nat × Ev.Spec) := (41, sp41) :: tl_78
def tbl_41 (D : Dom) : Tbl D := tblOf tl_41 D
theorem tok_41 : TblOK Try.prog (tbl_41 R) := TblOK.cons tok_78 en41

-- penumbra/penumbraref15.Density
def S42_0 (D : Dom) (a0 : D.F) (a1 : D.F) (a2 : D.F) (a3 : D.F) (a4 : D.F) (a5 : D.F) (a6 : D.F) : D.F := (D.fite (D.band (D.bite (S73_3 D a1 a2 a3 a4 a5 a6) (D.fgt (S52_0 D a1 a2 a3 (S73_0 D a1 a2 a3 a4 a5 a6) (S73_1 D a1 a2 a3 a4 a5 a6) (S73_2 D a1 a2 a3 a4 a5 a6)) (D.fc 0)) (D.bc false)) (S79_0 D (D.fdiv (D.fmul (D.fmul (S75_0 D a0 (S73_2 D a1 a2 a3 a4 a5 a6)) (S73_2 D a1 a2 a3 a4 a5 a6)) (D.fmul (D.fc 4618760256179416344) (D.fmul (D.fadd (D.fc 4607182418800017408) (D.fmul (S78_1 D (S73_0 D a1 a2 a3 a4 a5 a6) (S73_1 D a1 a2 a3 a4 a5 a6)) (S78_1 D (S73_0 D a1 a2 a3 a4 a5 a6) (S73_1 D a1 a2 a3 a4 a5 a6)))) (D.fc 4593671619917905920)))) (D.fmul (D.fc 4616189618054758400) (S52_0 D a1 a2 a3 (S73_0 D a1 a2 a3 a4 a5 a6) (S73_1 D a1 a2 a3 a4 a5 a6) (S73_2 D a1 a2 a3 a4 a5 a6)))))) (D.fdiv (D.fmul (D.fmul (S75_0 D a0 (S73_2 D a1 a2 a3 a4 a5 a6)) (S73_2 D a1 a2 a3 a4 a5 a6)) (D.fmul (D.fc 4618760256179416344) (D.fmul (D.fadd (D.fc 4607182418800017408) (D.fmul (S78_1 D (S73_0 D a1 a2 a3 a4 a5 a6) (S73_1 D a1 a2 a3 a4 a5 a6)) (S78_1 D (S73_0 D a1 a2 a3 a4 a5 a6) (S73_1 D a1 a2 a3 a4 a5 a6)))) (D.fc 4593671619917905920)))) (D.fmul (D.fc 4616189618054758400) (S52_0 D a1 a2 a3 (S73_0 D a1 a2 a3 a4 a5 a6) (S73_1 D a1 a2 a3 a4 a5 a6) (S73_2 D a1 a2 a3 a4 a5 a6)))) (D.fc 0))
theorem ev42 (D : Dom) (a0 : D.F) (a1 : D.F) (a2 : D.F) (a3 : D.F) (a4 : D.F) (a5 : D.F) (a6 : D.F) : joinT (evFn Try.prog (tbl_41 D) 60 42 [.fl a0, .agg [.fl a1, .fl a2, .fl a3], .agg [.fl a4, .fl a5, .fl a6]]) = .val none (.fl (S42_0 D a0 a1 a2 a3 a4 a5 a6)) := by kernel_rfl
def sp42 : Ev.Spec := fun D l => argF l fun a0 r0 => argA r0 fun c1 r1 => argF c1 fun a1 r2 => argF r2 fun a2 r3 => argF r3 fun a3 r4 => arg0 r4 (argA r1 fun c101 r101 => argF c101 fun a4 r102 => argF r102 fun a5 r103 => argF r103 fun a6 r104 => arg0 r104 (arg0 r101 (.ret (.fl (S42_0 D a0 a1 a2 a3 a4 a5 a6)))))
theorem en42 : ∀ l r, (sp42 R l).run = some r → Entry Try.prog 42 l r := by
  intro l r h
  obtain ⟨x0, _, h, L0⟩ := argF_inv h
  obtain ⟨_, _, h, L1⟩ := argA_inv h
  obtain ⟨x2, _, h, L2⟩ := argF_inv h
  obtain ⟨x3, _, h, L3⟩ := argF_inv h
  obtain ⟨x4, _, h, L4⟩ := argF_inv h
  obtain ⟨h, L5⟩ := arg0_inv h
  obtain ⟨_, _, h, L6⟩ := argA_inv h
  obtain ⟨x7, _, h, L7⟩ := argF_inv h
  obtain ⟨x8, _, h, L8⟩ := argF_inv h
  obtain ⟨x9, _, h, L9⟩ := argF_inv h
  obtain ⟨h, L10⟩ := arg0_inv h
  obtain ⟨h, L11⟩ := arg0_inv h
  cases h
  exact (entry_of prg tok_41 (ev42 R x0 x2 x3 x4 x7 x8 x9) (fun o ho => nomatch ho) rfl).le (L0 _ (L1 _ _ (L2 _ (L3 _ (L4 _ L5))) (L6 _ _ (L7 _ (L8 _ (L9 _ L10))) L11)))
def tl_42 : List (Nat × Ev.Spec) := (42, sp42) :: tl_41
def tbl_42 (D : Dom) : Tbl D := tblOf tl_42 D
theorem tok_42 : TblOK Try.prog (tbl_42 R) := TblOK.cons tok_41 en42

-- penumbra/penumbraref16.Density
def S21_0 (D : Dom) (a0 : D.F) (a1 : D.F) (a2 : D.F) (a3 : D.F) (a4 : D.F) (a5 : D.F) (a6 : D.F) (a7 : D.F) (a8 : D.F) (a9 : D.F) (a10 : D.F) (a11 : D.F) (a12 : D.F) : D.F := (D.fadd (D.fmul (S12_0 D a0 a1 a2 a3 a4 a5) (S41_0 D a9 a10 a11 a12)) (D.fmul (D.fsub (D.fc 4607182418800017408) (S12_0 D a0 a1 a2 a3 a4 a5)) (S42_0 D a6 a7 a8 a9 a10 a11 a12)))
def O21 (D : Dom) (a0 : D.F) (a1 : D.F) (a2 : D.F) (a3 : D.F) (a4 : D.F) (a5 : D.F) : D.B := (O12 D a0 a1 a2 a3 a4 a5)
theorem ev21 (D : Dom) (a0 : D.F) (a1 : D.F) (a2 : D.F) (a3 : D.F) (a4 : D.F) (a5 : D.F) (a6 : D.F) (a7 : D.F) (a8 : D.F) (a9 : D.F) (a10 : D.F) (a11 : D.F) (a12 : D.F) : joinT (evFn Try.prog (tbl_42 D) 60 21 [.agg [.fl a0, .fl a1, .fl a2, .fl a3, .fl a4, .fl a5, .fl a6], .agg [.fl a7, .fl a8, .fl a9], .agg [.fl a10, .fl a11, .fl a12]]) = .val (some (O21 D a0 a1 a2 a3 a4 a5)) (.fl (S21_0 D a0 a1 a2 a3 a4 a5 a6 a7 a8 a9 a10 a11 a12)) := by kernel_rfl
def sp21 : Ev.Spec := fun D l => argA l fun c0 r0 => argF c0 fun a0 r1 => argF r1 fun a1 r2 => argF r2 fun a2 r3 => argF r3 fun a3 r4 => argF r4 fun a4 r5 => argF r5 fun a5 r6 => argF r6 fun a6 r7 => arg0 r7 (argA r0 fun c100 r100 => argF c100 fun a7 r101 => argF r101 fun a8 r102 => argF r102 fun a9 r103 => arg0 r103 (argA r100 fun c200 r200 => argF c200 fun a10 r201 => argF r201 fun a11 r202 => argF r202 fun a12 r203 => arg0 r203 (arg0 r200 (.node (O21 D a0 a1 a2 a3 a4 a5) (.ret (.fl (S21_0 D a0 a1 a2 a3 a4 a5 a6 a7 a8 a9 a10 a11 a12))) (.fail "pre")))))
theorem en21 : ∀ l r, (sp21 R l).run = some r → Entry Try.prog 21 l r := by
  intro l r h
  obtain ⟨_, _, h, L0⟩ := argA_inv h
  obtain ⟨x1, _, h, L1⟩ := argF_inv h
  obtain ⟨x2, _, h, L2⟩ := argF_inv h
  obtain ⟨x3, _, h, L3⟩ := argF_inv h
  obtain ⟨x4, _, h, L4⟩ := argF_inv h
  obtain ⟨x5, _, h, L5⟩ := argF_inv h
  obtain ⟨x6, _, h, L6⟩ := argF_inv h
  obtain ⟨x7, _, h, L7⟩ := argF_inv h
  obtain ⟨h, L8⟩ := arg0_inv h
  obtain ⟨_, _, h, L9⟩ := argA_inv h
  obtain ⟨x10, _, h, L10⟩ := argF_inv h
  obtain ⟨x11, _, h, L11⟩ := argF_inv h
  obtain ⟨x12, _, h, L12⟩ := argF_inv h
  obtain ⟨h, L13⟩ := arg0_inv h
  obtain ⟨_, _, h, L14⟩ := argA_inv h
  obtain ⟨x15, _, h, L15⟩ := argF_inv h
  obtain ⟨x16, _, h, L16⟩ := argF_inv h
  obtain ⟨x17, _, h, L17⟩ := argF_inv h
  obtain ⟨h, L18⟩ := arg0_inv h
  obtain ⟨h, L19⟩ := arg0_inv h
  obtain ⟨hok, rfl⟩ := run_okay h
  exact (entry_of prg tok_42 (ev21 R x1 x2 x3 x4 x5 x6 x7 x10 x11 x12 x15 x16 x17) (fun o ho => (Option.some.inj ho) ▸ hok) rfl).le (L0 _ _ (L1 _ (L2 _ (L3 _ (L4 _ (L5 _ (L6 _ (L7 _ L8))))))) (L9 _ _ (L10 _ (L11 _ (L12 _ L13))) (L14 _ _ (L15 _ (L16 _ (L17 _ L18))) L19)))
def tl_21 : List (Nat × Ev.Spec) := (21, sp21) :: tl_42
def tbl_21 (D : Dom) : Tbl D := tblOf tl_21 D
theorem tok_21 : TblOK Try.prog (tbl_21 R) := TblOK.cons tok_42 en21

-- penumbra/penumbralaw16.BsdfTells
def S5_0 (D : Dom) (a0 : D.F) (a1 : D.F) (a2 : D.F) (a3 : D.F) (a4 : D.F) (a5 : D.F) (a6 : D.F) (a7 : D.F) (a8 : D.F) (a9 : D.F) (a10 : D.F) (a11 : D.F) (a12 : D.F) : D.B := (D.bite (S8_0 D) (D.bite (S18_0 D (S19_0 D a0 a3 a6 a7 a8 a9 a10 a11 a12) (S19_1 D a1 a4 a6 a7 a8 a9 a10 a11 a12) (S19_2 D a2 a5 a6 a7 a8 a9 a10 a11 a12) (S20_0 D a0 a3 a6 a7 a8 a9 a10 a11 a12) (S20_1 D a1 a4 a6 a7 a8 a9 a10 a11 a12) (S20_2 D a2 a5 a6 a7 a8 a9 a10 a11 a12)) (D.bite (S13_0 D (S17_0 D a0 a1 a2 a3 a4 a5 a6 a7 a8 a9 a10 a11 a12) (S21_0 D a0 a1 a2 a3 a4 a5 a6 a7 a8 a9 a10 a11 a12)) (D.fge (S17_0 D a0 a1 a2 a3 a4 a5 a6 a7 a8 a9 a10 a11 a12) (D.fc 0)) (D.bc false)) (D.bc false)) (D.bc false))
def O5 (D : Dom) (a0 : D.F) (a1 : D.F) (a2 : D.F) (a3 : D.F) (a4 : D.F) (a5 : D.F) (a6 : D.F) (a7 : D.F) (a8 : D.F) (a9 : D.F) (a10 : D.F) (a11 : D.F) (a12 : D.F) : D.B := (D.band (O17 D a0 a1 a2 a3 a4 a5) (D.band (O8 D) (D.bite (S8_0 D) (D.bite (S18_0 D (S19_0 D a0 a3 a6 a7 a8 a9 a10 a11 a12) (S19_1 D a1 a4 a6 a7 a8 a9 a10 a11 a12) (S19_2 D a2 a5 a6 a7 a8 a9 a10 a11 a12) (S20_0 D a0 a3 a6 a7 a8 a9 a10 a11 a12) (S20_1 D a1 a4 a6 a7 a8 a9 a10 a11 a12) (S20_2 D a2 a5 a6 a7 a8 a9 a10 a11 a12)) (O21 D a0 a1 a2 a3 a4 a5) (D.bc true)) (D.bc true))))
theorem ev5 (D : Dom) (a0 : D.F) (a1 : D.F) (a2 : D.F) (a3 : D.F) (a4 : D.F) (a5 : D.F) (a6 : D.F) (a7 : D.F) (a8 : D.F) (a9 : D.F) (a10 : D.F) (a11 : D.F) (a12 : D.F) : joinT (evFn Try.prog (tbl_21 D) 60 5 [.agg [.fl a0, .fl a1, .fl a2, .fl a3, .fl a4, .fl a5, .fl a6], .agg [.fl a7, .fl a8, .fl a9], .agg [.fl a10, .fl a11, .fl a12]]) = .val (some (O5 D a0 a1 a2 a3 a4 a5 a6 a7 a8 a9 a10 a11 a12)) (.sb (S5_0 D a0 a1 a2 a3 a4 a5 a6 a7 a8 a9 a10 a11 a12)) := by kernel_rfl
def sp5 : Ev.Spec := fun D l => argA l fun c0 r0 => argF c0 fun a0 r1 => argF r1 fun a1 r2 => argF r2 fun a2 r3 => argF r3 fun a3 r4 => argF r4 fun a4 r5 => argF r5 fun a5 r6 => argF r6 fun a6 r7 => arg0 r7 (argA r0 fun c100 r100 => argF c100 fun a7 r101 => argF r101 fun a8 r102 => argF r102 fun a9 r103 => arg0 r103 (argA r100 fun c200 r200 => argF c200 fun a10 r201 => argF r201 fun a11 r202 => argF r202 fun a12 r203 => arg0 r203 (arg0 r200 (.node (O5 D a0 a1 a2 a3 a4 a5 a6 a7 a8 a9 a10 a11 a12) (.ret (.sb (S5_0 D a0 a1 a2 a3 a4 a5 a6 a7 a8 a9 a10 a11 a12))) (.fail "pre")))))
theorem en5 : ∀ l r, (sp5 R l).run = some r → Entry Try.prog 5 l r := by
  intro l r h
  obtain ⟨_, _, h, L0⟩ := argA_inv h
  obtain ⟨x1, _, h, L1⟩ := argF_inv h
  obtain ⟨x2, _, h, L2⟩ := argF_inv h
  obtain ⟨x3, _, h, L3⟩ := argF_inv h
  obtain ⟨x4, _, h, L4⟩ := argF_inv h
  obtain ⟨x5, _, h, L5⟩ := argF_inv h
  obtain ⟨x6, _, h, L6⟩ := argF_inv h
  obtain ⟨x7, _, h, L7⟩ := argF_inv h
  obtain ⟨h, L8⟩ := arg0_inv h
  obtain ⟨_, _, h, L9⟩ := argA_inv h
  obtain ⟨x10, _, h, L10⟩ := argF_inv h
  obtain ⟨x11, _, h, L11⟩ := argF_inv h
  obtain ⟨x12, _, h, L12⟩ := argF_inv h
  obtain ⟨h, L13⟩ := arg0_inv h
  obtain ⟨_, _, h, L14⟩ := argA_inv h
  obtain ⟨x15, _, h, L15⟩ := argF_inv h
  obtain ⟨x16, _, h, L16⟩ := argF_inv h
  obtain ⟨x17, _, h, L17⟩ := argF_inv h
  obtain ⟨h, L18⟩ := arg0_inv h
  obtain ⟨h, L19⟩ := arg0_inv h
  obtain ⟨hok, rfl⟩ := run_okay h
  exact (entry_of prg tok_21 (ev5 R x1 x2 x3 x4 x5 x6 x7 x10 x11 x12 x15 x16 x17) (fun o ho => (Option.some.inj ho) ▸ hok) rfl).le (L0 _ _ (L1 _ (L2 _ (L3 _ (L4 _ (L5 _ (L6 _ (L7 _ L8))))))) (L9 _ _ (L10 _ (L11 _ (L12 _ L13))) (L14 _ _ (L15 _ (L16 _ (L17 _ L18))) L19)))
def tl_5 : List (Nat × Ev.Spec) := (5, sp5) :: tl_21
def tbl_5 (D : Dom) : Tbl D := tblOf tl_5 D
theorem tok_5 : TblOK Try.prog (tbl_5 R) := TblOK.cons tok_21 en5

end Go.Proofs.Ythfgapbbmkgfiaa
