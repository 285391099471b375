/- The functions of this seat, each with what it comes to, by the evaluator. PRINTED BY A PROGRAM OF THIS PROJECT (wip/ev/Gen.lean). -/
import Derived.Test.YtinhoalnkhpdoaaEv4
import Derived.Test.YtinhoalnkhpdoaaChecked
namespace Go.Proofs.Ytinhoalnkhpdoaa
open Go.Ev
set_option maxRecDepth 100000

theorem prg : Ev.Prog Try.prog := ⟨by kernel_rfl, by kernel_rfl⟩
def sp52 : Ev.Spec := fun D l => argF l fun a r => arg0 r (.ret (.fl (D.fsqrt a)))
theorem en52 : ∀ l r, (sp52 R l).run = some r → Entry Try.prog 52 l r := by
  intro l r h
  obtain ⟨x0, _, h, L0⟩ := argF_inv h
  obtain ⟨h, L1⟩ := arg0_inv h
  cases h
  exact (entry_sqrt (fn := Try.f52) (by kernel_rfl) (by kernel_rfl) (by kernel_rfl) (by kernel_rfl) (by kernel_rfl) x0).le (L0 _ L1)
def tl_0 : List (Nat × Ev.Spec) := ((52, sp52) :: [])
def tbl_0 (D : Dom) : Tbl D := tblOf tl_0 D
theorem tok_0 : TblOK Try.prog (tbl_0 R) := (TblOK.cons (TblOK.nil _) en52)

-- penumbra/ggx.between
def S26_0 (D : Dom) (a0 : D.F) (a1 : D.F) (a2 : D.F) : D.F := (D.fite (D.bite (D.flt a0 a1) (D.bc true) (D.fle a0 a2)) (D.fite (D.flt a0 a1) a1 a0) a2)
theorem ev26 (D : Dom) (a0 : D.F) (a1 : D.F) (a2 : D.F) : joinT (evFn Try.prog (tbl_0 D) 60 26 [.fl a0, .fl a1, .fl a2]) = .val none (.fl (S26_0 D a0 a1 a2)) := by kernel_rfl
def sp26 : Ev.Spec := fun D l => argF l fun a0 r0 => argF r0 fun a1 r1 => argF r1 fun a2 r2 => arg0 r2 (.ret (.fl (S26_0 D a0 a1 a2)))
theorem en26 : ∀ l r, (sp26 R l).run = some r → Entry Try.prog 26 l r := by
  intro l r h
  obtain ⟨x0, _, h, L0⟩ := argF_inv h
  obtain ⟨x1, _, h, L1⟩ := argF_inv h
  obtain ⟨x2, _, h, L2⟩ := argF_inv h
  obtain ⟨h, L3⟩ := arg0_inv h
  cases h
  exact (entry_of prg tok_0 (ev26 R x0 x1 x2) (fun o ho => nomatch ho) rfl).le (L0 _ (L1 _ (L2 _ L3)))
def tl_26 : List (Nat × Ev.Spec) := (26, sp26) :: tl_0
def tbl_26 (D : Dom) : Tbl D := tblOf tl_26 D
theorem tok_26 : TblOK Try.prog (tbl_26 R) := TblOK.cons tok_0 en26

-- penumbra/ggx.Rough
def S7_0 (D : Dom) (a0 : D.F) : D.F := (S26_0 D a0 (D.fc 4562146422526312448) (D.fc 4607182418800017408))
theorem ev7 (D : Dom) (a0 : D.F) : joinT (evFn Try.prog (tbl_26 D) 60 7 [.fl a0]) = .val none (.fl (S7_0 D a0)) := by kernel_rfl
def sp7 : Ev.Spec := fun D l => argF l fun a0 r0 => arg0 r0 (.ret (.fl (S7_0 D a0)))
theorem en7 : ∀ l r, (sp7 R l).run = some r → Entry Try.prog 7 l r := by
  intro l r h
  obtain ⟨x0, _, h, L0⟩ := argF_inv h
  obtain ⟨h, L1⟩ := arg0_inv h
  cases h
  exact (entry_of prg tok_26 (ev7 R x0) (fun o ho => nomatch ho) rfl).le (L0 _ L1)
def tl_7 : List (Nat × Ev.Spec) := (7, sp7) :: tl_26
def tbl_7 (D : Dom) : Tbl D := tblOf tl_7 D
theorem tok_7 : TblOK Try.prog (tbl_7 R) := TblOK.cons tok_26 en7

-- penumbra/ggx.square
def S27_0 (D : Dom) (a0 : D.F) : D.F := (D.fmul (S7_0 D a0) (S7_0 D a0))
theorem ev27 (D : Dom) (a0 : D.F) : joinT (evFn Try.prog (tbl_7 D) 60 27 [.fl a0]) = .val none (.fl (S27_0 D a0)) := by kernel_rfl
def sp27 : Ev.Spec := fun D l => argF l fun a0 r0 => arg0 r0 (.ret (.fl (S27_0 D a0)))
theorem en27 : ∀ l r, (sp27 R l).run = some r → Entry Try.prog 27 l r := by
  intro l r h
  obtain ⟨x0, _, h, L0⟩ := argF_inv h
  obtain ⟨h, L1⟩ := arg0_inv h
  cases h
  exact (entry_of prg tok_7 (ev27 R x0) (fun o ho => nomatch ho) rfl).le (L0 _ L1)
def tl_27 : List (Nat × Ev.Spec) := (27, sp27) :: tl_7
def tbl_27 (D : Dom) : Tbl D := tblOf tl_27 D
theorem tok_27 : TblOK Try.prog (tbl_27 R) := TblOK.cons tok_7 en27

-- penumbra/ggx.Normals
def S10_0 (D : Dom) (a0 : D.F) (a1 : D.F) : D.F := (D.fite (D.bnot (D.fgt a1 (D.fc 0))) (D.fc 0) (D.fdiv (S27_0 D a0) (D.fmul (D.fc 4614256656552045848) (D.fmul (D.fadd (D.fmul (D.fsub (S27_0 D a0) (D.fc 4607182418800017408)) (D.fmul a1 a1)) (D.fc 4607182418800017408)) (D.fadd (D.fmul (D.fsub (S27_0 D a0) (D.fc 4607182418800017408)) (D.fmul a1 a1)) (D.fc 4607182418800017408))))))
theorem ev10 (D : Dom) (a0 : D.F) (a1 : D.F) : joinT (evFn Try.prog (tbl_27 D) 60 10 [.fl a0, .fl a1]) = .val none (.fl (S10_0 D a0 a1)) := by kernel_rfl
def sp10 : Ev.Spec := fun D l => argF l fun a0 r0 => argF r0 fun a1 r1 => arg0 r1 (.ret (.fl (S10_0 D a0 a1)))
theorem en10 : ∀ l r, (sp10 R l).run = some r → Entry Try.prog 10 l r := by
  intro l r h
  obtain ⟨x0, _, h, L0⟩ := argF_inv h
  obtain ⟨x1, _, h, L1⟩ := argF_inv h
  obtain ⟨h, L2⟩ := arg0_inv h
  cases h
  exact (entry_of prg tok_27 (ev10 R x0 x1) (fun o ho => nomatch ho) rfl).le (L0 _ (L1 _ L2))
def tl_10 : List (Nat × Ev.Spec) := (10, sp10) :: tl_27
def tbl_10 (D : Dom) : Tbl D := tblOf tl_10 D
theorem tok_10 : TblOK Try.prog (tbl_10 R) := TblOK.cons tok_27 en10

-- penumbra/tape.Clean
def S31_0 (D : Dom) (a0 : D.F) : D.F := (D.fite (D.bite (D.fge a0 (D.fc 0)) (D.flt a0 (D.fc 4607182418800017408)) (D.bc false)) a0 (D.fc 0))
theorem ev31 (D : Dom) (a0 : D.F) : joinT (evFn Try.prog (tbl_10 D) 60 31 [.fl a0]) = .val none (.fl (S31_0 D a0)) := by kernel_rfl
def sp31 : Ev.Spec := fun D l => argF l fun a0 r0 => arg0 r0 (.ret (.fl (S31_0 D a0)))
theorem en31 : ∀ l r, (sp31 R l).run = some r → Entry Try.prog 31 l r := by
  intro l r h
  obtain ⟨x0, _, h, L0⟩ := argF_inv h
  obtain ⟨h, L1⟩ := arg0_inv h
  cases h
  exact (entry_of prg tok_10 (ev31 R x0) (fun o ho => nomatch ho) rfl).le (L0 _ L1)
def tl_31 : List (Nat × Ev.Spec) := (31, sp31) :: tl_10
def tbl_31 (D : Dom) : Tbl D := tblOf tl_31 D
theorem tok_31 : TblOK Try.prog (tbl_31 R) := TblOK.cons tok_10 en31

-- math.Sqrt
def S28_0 (D : Dom) (a0 : D.F) : D.F := (D.fsqrt a0)
theorem ev28 (D : Dom) (a0 : D.F) : joinT (evFn Try.prog (tbl_31 D) 60 28 [.fl a0]) = .val none (.fl (S28_0 D a0)) := by kernel_rfl
def sp28 : Ev.Spec := fun D l => argF l fun a0 r0 => arg0 r0 (.ret (.fl (S28_0 D a0)))
theorem en28 : ∀ l r, (sp28 R l).run = some r → Entry Try.prog 28 l r := by
  intro l r h
  obtain ⟨x0, _, h, L0⟩ := argF_inv h
  obtain ⟨h, L1⟩ := arg0_inv h
  cases h
  exact (entry_of prg tok_31 (ev28 R x0) (fun o ho => nomatch ho) rfl).le (L0 _ L1)
def tl_28 : List (Nat × Ev.Spec) := (28, sp28) :: tl_31
def tbl_28 (D : Dom) : Tbl D := tblOf tl_28 D
theorem tok_28 : TblOK Try.prog (tbl_28 R) := TblOK.cons tok_31 en28

-- penumbra/warp.Sector
def S32_0 (D : Dom) (a0 : D.F) : D.F := (D.fite (D.zeq (D.zrem .i64 (D.f2i .i64 (D.fmul (S31_0 D a0) (D.fc 4620693217682128896))) (D.zc 8)) (D.zc 0)) (D.fdiv (D.fc 4607182418800017408) (S28_0 D (D.fadd (D.fc 4607182418800017408) (D.fmul (D.fsub (D.fmul (S31_0 D a0) (D.fc 4620693217682128896)) (D.i2f (D.f2i .i64 (D.fmul (S31_0 D a0) (D.fc 4620693217682128896))))) (D.fsub (D.fmul (S31_0 D a0) (D.fc 4620693217682128896)) (D.i2f (D.f2i .i64 (D.fmul (S31_0 D a0) (D.fc 4620693217682128896))))))))) (D.fite (D.zeq (D.zrem .i64 (D.f2i .i64 (D.fmul (S31_0 D a0) (D.fc 4620693217682128896))) (D.zc 8)) (D.zc 1)) (D.fdiv (D.fsub (D.fmul (S31_0 D a0) (D.fc 4620693217682128896)) (D.i2f (D.f2i .i64 (D.fmul (S31_0 D a0) (D.fc 4620693217682128896))))) (S28_0 D (D.fadd (D.fc 4607182418800017408) (D.fmul (D.fsub (D.fmul (S31_0 D a0) (D.fc 4620693217682128896)) (D.i2f (D.f2i .i64 (D.fmul (S31_0 D a0) (D.fc 4620693217682128896))))) (D.fsub (D.fmul (S31_0 D a0) (D.fc 4620693217682128896)) (D.i2f (D.f2i .i64 (D.fmul (S31_0 D a0) (D.fc 4620693217682128896))))))))) (D.fite (D.zeq (D.zrem .i64 (D.f2i .i64 (D.fmul (S31_0 D a0) (D.fc 4620693217682128896))) (D.zc 8)) (D.zc 2)) (D.fsub (D.fc 0) (D.fdiv (D.fsub (D.fmul (S31_0 D a0) (D.fc 4620693217682128896)) (D.i2f (D.f2i .i64 (D.fmul (S31_0 D a0) (D.fc 4620693217682128896))))) (S28_0 D (D.fadd (D.fc 4607182418800017408) (D.fmul (D.fsub (D.fmul (S31_0 D a0) (D.fc 4620693217682128896)) (D.i2f (D.f2i .i64 (D.fmul (S31_0 D a0) (D.fc 4620693217682128896))))) (D.fsub (D.fmul (S31_0 D a0) (D.fc 4620693217682128896)) (D.i2f (D.f2i .i64 (D.fmul (S31_0 D a0) (D.fc 4620693217682128896)))))))))) (D.fite (D.zeq (D.zrem .i64 (D.f2i .i64 (D.fmul (S31_0 D a0) (D.fc 4620693217682128896))) (D.zc 8)) (D.zc 3)) (D.fsub (D.fc 0) (D.fdiv (D.fc 4607182418800017408) (S28_0 D (D.fadd (D.fc 4607182418800017408) (D.fmul (D.fsub (D.fmul (S31_0 D a0) (D.fc 4620693217682128896)) (D.i2f (D.f2i .i64 (D.fmul (S31_0 D a0) (D.fc 4620693217682128896))))) (D.fsub (D.fmul (S31_0 D a0) (D.fc 4620693217682128896)) (D.i2f (D.f2i .i64 (D.fmul (S31_0 D a0) (D.fc 4620693217682128896)))))))))) (D.fite (D.zeq (D.zrem .i64 (D.f2i .i64 (D.fmul (S31_0 D a0) (D.fc 4620693217682128896))) (D.zc 8)) (D.zc 4)) (D.fsub (D.fc 0) (D.fdiv (D.fc 4607182418800017408) (S28_0 D (D.fadd (D.fc 4607182418800017408) (D.fmul (D.fsub (D.fmul (S31_0 D a0) (D.fc 4620693217682128896)) (D.i2f (D.f2i .i64 (D.fmul (S31_0 D a0) (D.fc 4620693217682128896))))) (D.fsub (D.fmul (S31_0 D a0) (D.fc 4620693217682128896)) (D.i2f (D.f2i .i64 (D.fmul (S31_0 D a0) (D.fc 4620693217682128896)))))))))) (D.fite (D.zeq (D.zrem .i64 (D.f2i .i64 (D.fmul (S31_0 D a0) (D.fc 4620693217682128896))) (D.zc 8)) (D.zc 5)) (D.fsub (D.fc 0) (D.fdiv (D.fsub (D.fmul (S31_0 D a0) (D.fc 4620693217682128896)) (D.i2f (D.f2i .i64 (D.fmul (S31_0 D a0) (D.fc 4620693217682128896))))) (S28_0 D (D.fadd (D.fc 4607182418800017408) (D.fmul (D.fsub (D.fmul (S31_0 D a0) (D.fc 4620693217682128896)) (D.i2f (D.f2i .i64 (D.fmul (S31_0 D a0) (D.fc 4620693217682128896))))) (D.fsub (D.fmul (S31_0 D a0) (D.fc 4620693217682128896)) (D.i2f (D.f2i .i64 (D.fmul (S31_0 D a0) (D.fc 4620693217682128896)))))))))) (D.fite (D.zeq (D.zrem .i64 (D.f2i .i64 (D.fmul (S31_0 D a0) (D.fc 4620693217682128896))) (D.zc 8)) (D.zc 6)) (D.fdiv (D.fsub (D.fmul (S31_0 D a0) (D.fc 4620693217682128896)) (D.i2f (D.f2i .i64 (D.fmul (S31_0 D a0) (D.fc 4620693217682128896))))) (S28_0 D (D.fadd (D.fc 4607182418800017408) (D.fmul (D.fsub (D.fmul (S31_0 D a0) (D.fc 4620693217682128896)) (D.i2f (D.f2i .i64 (D.fmul (S31_0 D a0) (D.fc 4620693217682128896))))) (D.fsub (D.fmul (S31_0 D a0) (D.fc 4620693217682128896)) (D.i2f (D.f2i .i64 (D.fmul (S31_0 D a0) (D.fc 4620693217682128896))))))))) (D.fdiv (D.fc 4607182418800017408) (S28_0 D (D.fadd (D.fc 4607182418800017408) (D.fmul (D.fsub (D.fmul (S31_0 D a0) (D.fc 4620693217682128896)) (D.i2f (D.f2i .i64 (D.fmul (S31_0 D a0) (D.fc 4620693217682128896))))) (D.fsub (D.fmul (S31_0 D a0) (D.fc 4620693217682128896)) (D.i2f (D.f2i .i64 (D.fmul (S31_0 D a0) (D.fc 4620693217682128896))))))))))))))))
def S32_1 (D : Dom) (a0 : D.F) : D.F := (D.fite (D.zeq (D.zrem .i64 (D.f2i .i64 (D.fmul (S31_0 D a0) (D.fc 4620693217682128896))) (D.zc 8)) (D.zc 0)) (D.fdiv (D.fsub (D.fmul (S31_0 D a0) (D.fc 4620693217682128896)) (D.i2f (D.f2i .i64 (D.fmul (S31_0 D a0) (D.fc 4620693217682128896))))) (S28_0 D (D.fadd (D.fc 4607182418800017408) (D.fmul (D.fsub (D.fmul (S31_0 D a0) (D.fc 4620693217682128896)) (D.i2f (D.f2i .i64 (D.fmul (S31_0 D a0) (D.fc 4620693217682128896))))) (D.fsub (D.fmul (S31_0 D a0) (D.fc 4620693217682128896)) (D.i2f (D.f2i .i64 (D.fmul (S31_0 D a0) (D.fc 4620693217682128896))))))))) (D.fite (D.zeq (D.zrem .i64 (D.f2i .i64 (D.fmul (S31_0 D a0) (D.fc 4620693217682128896))) (D.zc 8)) (D.zc 1)) (D.fdiv (D.fc 4607182418800017408) (S28_0 D (D.fadd (D.fc 4607182418800017408) (D.fmul (D.fsub (D.fmul (S31_0 D a0) (D.fc 4620693217682128896)) (D.i2f (D.f2i .i64 (D.fmul (S31_0 D a0) (D.fc 4620693217682128896))))) (D.fsub (D.fmul (S31_0 D a0) (D.fc 4620693217682128896)) (D.i2f (D.f2i .i64 (D.fmul (S31_0 D a0) (D.fc 4620693217682128896))))))))) (D.fite (D.zeq (D.zrem .i64 (D.f2i .i64 (D.fmul (S31_0 D a0) (D.fc 4620693217682128896))) (D.zc 8)) (D.zc 2)) (D.fdiv (D.fc 4607182418800017408) (S28_0 D (D.fadd (D.fc 4607182418800017408) (D.fmul (D.fsub (D.fmul (S31_0 D a0) (D.fc 4620693217682128896)) (D.i2f (D.f2i .i64 (D.fmul (S31_0 D a0) (D.fc 4620693217682128896))))) (D.fsub (D.fmul (S31_0 D a0) (D.fc 4620693217682128896)) (D.i2f (D.f2i .i64 (D.fmul (S31_0 D a0) (D.fc 4620693217682128896))))))))) (D.fite (D.zeq (D.zrem .i64 (D.f2i .i64 (D.fmul (S31_0 D a0) (D.fc 4620693217682128896))) (D.zc 8)) (D.zc 3)) (D.fdiv (D.fsub (D.fmul (S31_0 D a0) (D.fc 4620693217682128896)) (D.i2f (D.f2i .i64 (D.fmul (S31_0 D a0) (D.fc 4620693217682128896))))) (S28_0 D (D.fadd (D.fc 4607182418800017408) (D.fmul (D.fsub (D.fmul (S31_0 D a0) (D.fc 4620693217682128896)) (D.i2f (D.f2i .i64 (D.fmul (S31_0 D a0) (D.fc 4620693217682128896))))) (D.fsub (D.fmul (S31_0 D a0) (D.fc 4620693217682128896)) (D.i2f (D.f2i .i64 (D.fmul (S31_0 D a0) (D.fc 4620693217682128896))))))))) (D.fite (D.zeq (D.zrem .i64 (D.f2i .i64 (D.fmul (S31_0 D a0) (D.fc 4620693217682128896))) (D.zc 8)) (D.zc 4)) (D.fsub (D.fc 0) (D.fdiv (D.fsub (D.fmul (S31_0 D a0) (D.fc 4620693217682128896)) (D.i2f (D.f2i .i64 (D.fmul (S31_0 D a0) (D.fc 4620693217682128896))))) (S28_0 D (D.fadd (D.fc 4607182418800017408) (D.fmul (D.fsub (D.fmul (S31_0 D a0) (D.fc 4620693217682128896)) (D.i2f (D.f2i .i64 (D.fmul (S31_0 D a0) (D.fc 4620693217682128896))))) (D.fsub (D.fmul (S31_0 D a0) (D.fc 4620693217682128896)) (D.i2f (D.f2i .i64 (D.fmul (S31_0 D a0) (D.fc 4620693217682128896)))))))))) (D.fite (D.zeq (D.zrem .i64 (D.f2i .i64 (D.fmul (S31_0 D a0) (D.fc 4620693217682128896))) (D.zc 8)) (D.zc 5)) (D.fsub (D.fc 0) (D.fdiv (D.fc 4607182418800017408) (S28_0 D (D.fadd (D.fc 4607182418800017408) (D.fmul (D.fsub (D.fmul (S31_0 D a0) (D.fc 4620693217682128896)) (D.i2f (D.f2i .i64 (D.fmul (S31_0 D a0) (D.fc 4620693217682128896))))) (D.fsub (D.fmul (S31_0 D a0) (D.fc 4620693217682128896)) (D.i2f (D.f2i .i64 (D.fmul (S31_0 D a0) (D.fc 4620693217682128896)))))))))) (D.fite (D.zeq (D.zrem .i64 (D.f2i .i64 (D.fmul (S31_0 D a0) (D.fc 4620693217682128896))) (D.zc 8)) (D.zc 6)) (D.fsub (D.fc 0) (D.fdiv (D.fc 4607182418800017408) (S28_0 D (D.fadd (D.fc 4607182418800017408) (D.fmul (D.fsub (D.fmul (S31_0 D a0) (D.fc 4620693217682128896)) (D.i2f (D.f2i .i64 (D.fmul (S31_0 D a0) (D.fc 4620693217682128896))))) (D.fsub (D.fmul (S31_0 D a0) (D.fc 4620693217682128896)) (D.i2f (D.f2i .i64 (D.fmul (S31_0 D a0) (D.fc 4620693217682128896)))))))))) (D.fsub (D.fc 0) (D.fdiv (D.fsub (D.fmul (S31_0 D a0) (D.fc 4620693217682128896)) (D.i2f (D.f2i .i64 (D.fmul (S31_0 D a0) (D.fc 4620693217682128896))))) (S28_0 D (D.fadd (D.fc 4607182418800017408) (D.fmul (D.fsub (D.fmul (S31_0 D a0) (D.fc 4620693217682128896)) (D.i2f (D.f2i .i64 (D.fmul (S31_0 D a0) (D.fc 4620693217682128896))))) (D.fsub (D.fmul (S31_0 D a0) (D.fc 4620693217682128896)) (D.i2f (D.f2i .i64 (D.fmul (S31_0 D a0) (D.fc 4620693217682128896)))))))))))))))))
def S32_2 (D : Dom) (a0 : D.F) : D.F := (D.fmul (D.fadd (D.fc 4607182418800017408) (D.fmul (D.fsub (D.fmul (S31_0 D a0) (D.fc 4620693217682128896)) (D.i2f (D.f2i .i64 (D.fmul (S31_0 D a0) (D.fc 4620693217682128896))))) (D.fsub (D.fmul (S31_0 D a0) (D.fc 4620693217682128896)) (D.i2f (D.f2i .i64 (D.fmul (S31_0 D a0) (D.fc 4620693217682128896))))))) (D.fc 4593671619917905920))
def O32 (D : Dom) (a0 : D.F) : D.B := (D.band (D.f2iok .i64 (D.fmul (S31_0 D a0) (D.fc 4620693217682128896))) (D.band (D.bnot (D.zeq (D.zc 8) (D.zc 0))) (D.bite (D.zeq (D.zrem .i64 (D.f2i .i64 (D.fmul (S31_0 D a0) (D.fc 4620693217682128896))) (D.zc 8)) (D.zc 0)) (D.bc true) (D.bite (D.zeq (D.zrem .i64 (D.f2i .i64 (D.fmul (S31_0 D a0) (D.fc 4620693217682128896))) (D.zc 8)) (D.zc 1)) (D.bc true) (D.bite (D.zeq (D.zrem .i64 (D.f2i .i64 (D.fmul (S31_0 D a0) (D.fc 4620693217682128896))) (D.zc 8)) (D.zc 2)) (D.bc true) (D.bite (D.zeq (D.zrem .i64 (D.f2i .i64 (D.fmul (S31_0 D a0) (D.fc 4620693217682128896))) (D.zc 8)) (D.zc 3)) (D.bc true) (D.bite (D.zeq (D.zrem .i64 (D.f2i .i64 (D.fmul (S31_0 D a0) (D.fc 4620693217682128896))) (D.zc 8)) (D.zc 4)) (D.bc true) (D.bite (D.zeq (D.zrem .i64 (D.f2i .i64 (D.fmul (S31_0 D a0) (D.fc 4620693217682128896))) (D.zc 8)) (D.zc 5)) (D.bc true) (D.bite (D.zeq (D.zrem .i64 (D.f2i .i64 (D.fmul (S31_0 D a0) (D.fc 4620693217682128896))) (D.zc 8)) (D.zc 6)) (D.bc true) (D.zeq (D.zrem .i64 (D.f2i .i64 (D.fmul (S31_0 D a0) (D.fc 4620693217682128896))) (D.zc 8)) (D.zc 7)))))))))))
theorem ev32 (D : Dom) (a0 : D.F) : joinT (evFn Try.prog (tbl_28 D) 60 32 [.fl a0]) = .val (some (O32 D a0)) (.tup [.fl (S32_0 D a0), .fl (S32_1 D a0), .fl (S32_2 D a0)]) := by kernel_rfl
def sp32 : Ev.Spec := fun D l => argF l fun a0 r0 => arg0 r0 (.node (O32 D a0) (.ret (.tup [.fl (S32_0 D a0), .fl (S32_1 D a0), .fl (S32_2 D a0)])) (.fail "pre"))
theorem en32 : ∀ l r, (sp32 R l).run = some r → Entry Try.prog 32 l r := by
  intro l r h
  obtain ⟨x0, _, h, L0⟩ := argF_inv h
  obtain ⟨h, L1⟩ := arg0_inv h
  obtain ⟨hok, rfl⟩ := run_okay h
  exact (entry_of prg tok_28 (ev32 R x0) (fun o ho => (Option.some.inj ho) ▸ hok) rfl).le (L0 _ L1)
def tl_32 : List (Nat × Ev.Spec) := (32, sp32) :: tl_28
def tbl_32 (D : Dom) : Tbl D := tblOf tl_32 D
theorem tok_32 : TblOK Try.prog (tbl_32 R) := TblOK.cons tok_28 en32

-- penumbra/vec.Mul$1
def S63_0 (D : Dom) (a0 : D.F) (a1 : D.F) : D.F := (D.fmul a0 a1)
theorem ev63 (D : Dom) (a0 : D.F) (a1 : D.F) : joinT (evFn Try.prog (tbl_32 D) 60 63 [.fl a0, .fl a1]) = .val none (.fl (S63_0 D a0 a1)) := by kernel_rfl
def sp63 : Ev.Spec := fun D l => argF l fun a0 r0 => argF r0 fun a1 r1 => arg0 r1 (.ret (.fl (S63_0 D a0 a1)))
theorem en63 : ∀ l r, (sp63 R l).run = some r → Entry Try.prog 63 l r := by
  intro l r h
  obtain ⟨x0, _, h, L0⟩ := argF_inv h
  obtain ⟨x1, _, h, L1⟩ := argF_inv h
  obtain ⟨h, L2⟩ := arg0_inv h
  cases h
  exact (entry_of prg tok_32 (ev63 R x0 x1) (fun o ho => nomatch ho) rfl).le (L0 _ (L1 _ L2))
def tl_63 : List (Nat × Ev.Spec) := (63, sp63) :: tl_32
def tbl_63 (D : Dom) : Tbl D := tblOf tl_63 D
theorem tok_63 : TblOK Try.prog (tbl_63 R) := TblOK.cons tok_32 en63

-- penumbra/vec.Mul
def S53_0 (D : Dom) (a0 : D.F) (a3 : D.F) : D.F := (S63_0 D a0 a3)
def S53_1 (D : Dom) (a1 : D.F) (a4 : D.F) : D.F := (S63_0 D a1 a4)
def S53_2 (D : Dom) (a2 : D.F) (a5 : D.F) : D.F := (S63_0 D a2 a5)
theorem ev53 (D : Dom) (a0 : D.F) (a1 : D.F) (a2 : D.F) (a3 : D.F) (a4 : D.F) (a5 : D.F) : joinT (evFn Try.prog (tbl_63 D) 60 53 [.agg [.fl a0, .fl a1, .fl a2], .agg [.fl a3, .fl a4, .fl a5]]) = .val none (.agg [.fl (S53_0 D a0 a3), .fl (S53_1 D a1 a4), .fl (S53_2 D a2 a5)]) := by kernel_rfl
def sp53 : Ev.Spec := fun D l => argA l fun c0 r0 => argF c0 fun a0 r1 => argF r1 fun a1 r2 => argF r2 fun a2 r3 => arg0 r3 (argA r0 fun c100 r100 => argF c100 fun a3 r101 => argF r101 fun a4 r102 => argF r102 fun a5 r103 => arg0 r103 (arg0 r100 (.ret (.agg [.fl (S53_0 D a0 a3), .fl (S53_1 D a1 a4), .fl (S53_2 D a2 a5)]))))
theorem en53 : ∀ l r, (sp53 R l).run = some r → Entry Try.prog 53 l r := by
  intro l r h
  obtain ⟨_, _, h, L0⟩ := argA_inv h
  obtain ⟨x1, _, h, L1⟩ := argF_inv h
  obtain ⟨x2, _, h, L2⟩ := argF_inv h
  obtain ⟨x3, _, h, L3⟩ := argF_inv h
  obtain ⟨h, L4⟩ := arg0_inv h
  obtain ⟨_, _, h, L5⟩ := argA_inv h
  obtain ⟨x6, _, h, L6⟩ := argF_inv h
  obtain ⟨x7, _, h, L7⟩ := argF_inv h
  obtain ⟨x8, _, h, L8⟩ := argF_inv h
  obtain ⟨h, L9⟩ := arg0_inv h
  obtain ⟨h, L10⟩ := arg0_inv h
  cases h
  exact (entry_of prg tok_63 (ev53 R x1 x2 x3 x6 x7 x8) (fun o ho => nomatch ho) rfl).le (L0 _ _ (L1 _ (L2 _ (L3 _ L4))) (L5 _ _ (L6 _ (L7 _ (L8 _ L9))) L10))
def tl_53 : List (Nat × Ev.Spec) := (53, sp53) :: tl_63
def tbl_53 (D : Dom) : Tbl D := tblOf tl_53 D
theorem tok_53 : TblOK Try.prog (tbl_53 R) := TblOK.cons tok_63 en53

-- penumbra/vec.Dot
def S33_0 (D : Dom) (a0 : D.F) (a1 : D.F) (a2 : D.F) (a3 : D.F) (a4 : D.F) (a5 : D.F) : D.F := (D.fadd (D.fadd (S53_0 D a0 a3) (S53_1 D a1 a4)) (S53_2 D a2 a5))
theorem ev33 (D : Dom) (a0 : D.F) (a1 : D.F) (a2 : D.F) (a3 : D.F) (a4 : D.F) (a5 : D.F) : joinT (evFn Try.prog (tbl_53 D) 60 33 [.agg [.fl a0, .fl a1, .fl a2], .agg [.fl a3, .fl a4, .fl a5]]) = .val none (.fl (S33_0 D a0 a1 a2 a3 a4 a5)) := by kernel_rfl
def sp33 : Ev.Spec := fun D l => argA l fun c0 r0 => argF c0 fun a0 r1 => argF r1 fun a1 r2 => argF r2 fun a2 r3 => arg0 r3 (argA r0 fun c100 r100 => argF c100 fun a3 r101 => argF r101 fun a4 r102 => argF r102 fun a5 r103 => arg0 r103 (arg0 r100 (.ret (.fl (S33_0 D a0 a1 a2 a3 a4 a5)))))
theorem en33 : ∀ l r, (sp33 R l).run = some r → Entry Try.prog 33 l r := by
  intro l r h
  obtain ⟨_, _, h, L0⟩ := argA_inv h
  obtain ⟨x1, _, h, L1⟩ := argF_inv h
  obtain ⟨x2, _, h, L2⟩ := argF_inv h
  obtain ⟨x3, _, h, L3⟩ := argF_inv h
  obtain ⟨h, L4⟩ := arg0_inv h
  obtain ⟨_, _, h, L5⟩ := argA_inv h
  obtain ⟨x6, _, h, L6⟩ := argF_inv h
  obtain ⟨x7, _, h, L7⟩ := argF_inv h
  obtain ⟨x8, _, h, L8⟩ := argF_inv h
  obtain ⟨h, L9⟩ := arg0_inv h
  obtain ⟨h, L10⟩ := arg0_inv h
  cases h
  exact (entry_of prg tok_53 (ev33 R x1 x2 x3 x6 x7 x8) (fun o ho => nomatch ho) rfl).le (L0 _ _ (L1 _ (L2 _ (L3 _ L4))) (L5 _ _ (L6 _ (L7 _ (L8 _ L9))) L10))
def tl_33 : List (Nat × Ev.Spec) := (33, sp33) :: tl_53
def tbl_33 (D : Dom) : Tbl D := tblOf tl_33 D
theorem tok_33 : TblOK Try.prog (tbl_33 R) := TblOK.cons tok_53 en33

-- penumbra/vec.Scale
def S35_0 (D : Dom) (a0 : D.F) (a3 : D.F) : D.F := (S53_0 D a0 a3)
def S35_1 (D : Dom) (a1 : D.F) (a3 : D.F) : D.F := (S53_1 D a1 a3)
def S35_2 (D : Dom) (a2 : D.F) (a3 : D.F) : D.F := (S53_2 D a2 a3)
theorem ev35 (D : Dom) (a0 : D.F) (a1 : D.F) (a2 : D.F) (a3 : D.F) : joinT (evFn Try.prog (tbl_33 D) 60 35 [.agg [.fl a0, .fl a1, .fl a2], .fl a3]) = .val none (.agg [.fl (S35_0 D a0 a3), .fl (S35_1 D a1 a3), .fl (S35_2 D a2 a3)]) := by kernel_rfl
def sp35 : Ev.Spec := fun D l => argA l fun c0 r0 => argF c0 fun a0 r1 => argF r1 fun a1 r2 => argF r2 fun a2 r3 => arg0 r3 (argF r0 fun a3 r100 => arg0 r100 (.ret (.agg [.fl (S35_0 D a0 a3), .fl (S35_1 D a1 a3), .fl (S35_2 D a2 a3)])))
theorem en35 : ∀ l r, (sp35 R l).run = some r → Entry Try.prog 35 l r := by
  intro l r h
  obtain ⟨_, _, h, L0⟩ := argA_inv h
  obtain ⟨x1, _, h, L1⟩ := argF_inv h
  obtain ⟨x2, _, h, L2⟩ := argF_inv h
  obtain ⟨x3, _, h, L3⟩ := argF_inv h
  obtain ⟨h, L4⟩ := arg0_inv h
  obtain ⟨x5, _, h, L5⟩ := argF_inv h
  obtain ⟨h, L6⟩ := arg0_inv h
  cases h
  exact (entry_of prg tok_33 (ev35 R x1 x2 x3 x5) (fun o ho => nomatch ho) rfl).le (L0 _ _ (L1 _ (L2 _ (L3 _ L4))) (L5 _ L6))
def tl_35 : List (Nat × Ev.Spec) := (35, sp35) :: tl_33
def tbl_35 (D : Dom) : Tbl D := tblOf tl_35 D
theorem tok_35 : TblOK Try.prog (tbl_35 R) := TblOK.cons tok_33 en35

-- penumbra/vec.Sub$1
def S55_0 (D : Dom) (a0 : D.F) (a1 : D.F) : D.F := (D.fsub a0 a1)
theorem ev55 (D : Dom) (a0 : D.F) (a1 : D.F) : joinT (evFn Try.prog (tbl_35 D) 60 55 [.fl a0, .fl a1]) = .val none (.fl (S55_0 D a0 a1)) := by kernel_rfl
def sp55 : Ev.Spec := fun D l => argF l fun a0 r0 => argF r0 fun a1 r1 => arg0 r1 (.ret (.fl (S55_0 D a0 a1)))
theorem en55 : ∀ l r, (sp55 R l).run = some r → Entry Try.prog 55 l r := by
  intro l r h
  obtain ⟨x0, _, h, L0⟩ := argF_inv h
  obtain ⟨x1, _, h, L1⟩ := argF_inv h
  obtain ⟨h, L2⟩ := arg0_inv h
  cases h
  exact (entry_of prg tok_35 (ev55 R x0 x1) (fun o ho => nomatch ho) rfl).le (L0 _ (L1 _ L2))
def tl_55 : List (Nat × Ev.Spec) := (55, sp55) :: tl_35
def tbl_55 (D : Dom) : Tbl D := tblOf tl_55 D
theorem tok_55 : TblOK Try.prog (tbl_55 R) := TblOK.cons tok_35 en55

-- penumbra/vec.Sub
def S34_0 (D : Dom) (a0 : D.F) (a3 : D.F) : D.F := (S55_0 D a0 a3)
def S34_1 (D : Dom) (a1 : D.F) (a4 : D.F) : D.F := (S55_0 D a1 a4)
def S34_2 (D : Dom) (a2 : D.F) (a5 : D.F) : D.F := (S55_0 D a2 a5)
theorem ev34 (D : Dom) (a0 : D.F) (a1 : D.F) (a2 : D.F) (a3 : D.F) (a4 : D.F) (a5 : D.F) : joinT (evFn Try.prog (tbl_55 D) 60 34 [.agg [.fl a0, .fl a1, .fl a2], .agg [.fl a3, .fl a4, .fl a5]]) = .val none (.agg [.fl (S34_0 D a0 a3), .fl (S34_1 D a1 a4), .fl (S34_2 D a2 a5)]) := by kernel_rfl
def sp34 : Ev.Spec := fun D l => argA l fun c0 r0 => argF c0 fun a0 r1 => argF r1 fun a1 r2 => argF r2 fun a2 r3 => arg0 r3 (argA r0 fun c100 r100 => argF c100 fun a3 r101 => argF r101 fun a4 r102 => argF r102 fun a5 r103 => arg0 r103 (arg0 r100 (.ret (.agg [.fl (S34_0 D a0 a3), .fl (S34_1 D a1 a4), .fl (S34_2 D a2 a5)]))))
theorem en34 : ∀ l r, (sp34 R l).run = some r → Entry Try.prog 34 l r := by
  intro l r h
  obtain ⟨_, _, h, L0⟩ := argA_inv h
  obtain ⟨x1, _, h, L1⟩ := argF_inv h
  obtain ⟨x2, _, h, L2⟩ := argF_inv h
  obtain ⟨x3, _, h, L3⟩ := argF_inv h
  obtain ⟨h, L4⟩ := arg0_inv h
  obtain ⟨_, _, h, L5⟩ := argA_inv h
  obtain ⟨x6, _, h, L6⟩ := argF_inv h
  obtain ⟨x7, _, h, L7⟩ := argF_inv h
  obtain ⟨x8, _, h, L8⟩ := argF_inv h
  obtain ⟨h, L9⟩ := arg0_inv h
  obtain ⟨h, L10⟩ := arg0_inv h
  cases h
  exact (entry_of prg tok_55 (ev34 R x1 x2 x3 x6 x7 x8) (fun o ho => nomatch ho) rfl).le (L0 _ _ (L1 _ (L2 _ (L3 _ L4))) (L5 _ _ (L6 _ (L7 _ (L8 _ L9))) L10))
def tl_34 : List (Nat × Ev.Spec) := (34, sp34) :: tl_55
def tbl_34 (D : Dom) : Tbl D := tblOf tl_34 D
theorem tok_34 : TblOK Try.prog (tbl_34 R) := TblOK.cons tok_55 en34

-- penumbra/frame.Cos
def S56_0 (D : Dom) (a2 : D.F) : D.F := a2
theorem ev56 (D : Dom) (a0 : D.F) (a1 : D.F) (a2 : D.F) : joinT (evFn Try.prog (tbl_34 D) 60 56 [.agg [.fl a0, .fl a1, .fl a2]]) = .val none (.fl (S56_0 D a2)) := by kernel_rfl
def sp56 : Ev.Spec := fun D l => argA l fun c0 r0 => argF c0 fun _a0 r1 => argF r1 fun _a1 r2 => argF r2 fun a2 r3 => arg0 r3 (arg0 r0 (.ret (.fl (S56_0 D a2))))
theorem en56 : ∀ l r, (sp56 R l).run = some r → Entry Try.prog 56 l r := by
  intro l r h
  obtain ⟨_, _, h, L0⟩ := argA_inv h
  obtain ⟨x1, _, h, L1⟩ := argF_inv h
  obtain ⟨x2, _, h, L2⟩ := argF_inv h
  obtain ⟨x3, _, h, L3⟩ := argF_inv h
  obtain ⟨h, L4⟩ := arg0_inv h
  obtain ⟨h, L5⟩ := arg0_inv h
  cases h
  exact (entry_of prg tok_34 (ev56 R x1 x2 x3) (fun o ho => nomatch ho) rfl).le (L0 _ _ (L1 _ (L2 _ (L3 _ L4))) L5)
def tl_56 : List (Nat × Ev.Spec) := (56, sp56) :: tl_34
def tbl_56 (D : Dom) : Tbl D := tblOf tl_56 D
theorem tok_56 : TblOK Try.prog (tbl_56 R) := TblOK.cons tok_34 en56

-- penumbra/frame.Upper
def S36_0 (D : Dom) (a2 : D.F) (a5 : D.F) : D.B := (D.bite (D.fgt (S56_0 D a2) (D.fc 0)) (D.fgt (S56_0 D a5) (D.fc 0)) (D.bc false))
theorem ev36 (D : Dom) (a0 : D.F) (a1 : D.F) (a2 : D.F) (a3 : D.F) (a4 : D.F) (a5 : D.F) : joinT (evFn Try.prog (tbl_56 D) 60 36 [.agg [.fl a0, .fl a1, .fl a2], .agg [.fl a3, .fl a4, .fl a5]]) = .val none (.sb (S36_0 D a2 a5)) := by kernel_rfl
def sp36 : Ev.Spec := fun D l => argA l fun c0 r0 => argF c0 fun _a0 r1 => argF r1 fun _a1 r2 => argF r2 fun a2 r3 => arg0 r3 (argA r0 fun c100 r100 => argF c100 fun _a3 r101 => argF r101 fun _a4 r102 => argF r102 fun a5 r103 => arg0 r103 (arg0 r100 (.ret (.sb (S36_0 D a2 a5)))))
theorem en36 : ∀ l r, (sp36 R l).run = some r → Entry Try.prog 36 l r := by
  intro l r h
  obtain ⟨_, _, h, L0⟩ := argA_inv h
  obtain ⟨x1, _, h, L1⟩ := argF_inv h
  obtain ⟨x2, _, h, L2⟩ := argF_inv h
  obtain ⟨x3, _, h, L3⟩ := argF_inv h
  obtain ⟨h, L4⟩ := arg0_inv h
  obtain ⟨_, _, h, L5⟩ := argA_inv h
  obtain ⟨x6, _, h, L6⟩ := argF_inv h
  obtain ⟨x7, _, h, L7⟩ := argF_inv h
  obtain ⟨x8, _, h, L8⟩ := argF_inv h
  obtain ⟨h, L9⟩ := arg0_inv h
  obtain ⟨h, L10⟩ := arg0_inv h
  cases h
  exact (entry_of prg tok_56 (ev36 R x1 x2 x3 x6 x7 x8) (fun o ho => nomatch ho) rfl).le (L0 _ _ (L1 _ (L2 _ (L3 _ L4))) (L5 _ _ (L6 _ (L7 _ (L8 _ L9))) L10))
def tl_36 : List (Nat × Ev.Spec) := (36, sp36) :: tl_56
def tbl_36 (D : Dom) : Tbl D := tblOf tl_36 D
theorem tok_36 : TblOK Try.prog (tbl_36 R) := TblOK.cons tok_56 en36

-- penumbra/ggx.Sample
def S17_0 (D : Dom) (a0 : D.F) (a1 : D.F) (a2 : D.F) (a3 : D.F) (a4 : D.F) (a5 : D.F) : D.F := (D.fite (D.bite (D.bnot (D.fgt (S33_0 D a1 a2 a3 (D.fmul (S32_0 D a5) (S28_0 D (D.fmax (D.fc 0) (D.fsub (D.fc 4607182418800017408) (D.fmul (S28_0 D (D.fdiv (D.fsub (D.fc 4607182418800017408) (S31_0 D a4)) (D.fadd (D.fc 4607182418800017408) (D.fmul (D.fsub (S27_0 D a0) (D.fc 4607182418800017408)) (S31_0 D a4))))) (S28_0 D (D.fdiv (D.fsub (D.fc 4607182418800017408) (S31_0 D a4)) (D.fadd (D.fc 4607182418800017408) (D.fmul (D.fsub (S27_0 D a0) (D.fc 4607182418800017408)) (S31_0 D a4)))))))))) (D.fmul (S32_1 D a5) (S28_0 D (D.fmax (D.fc 0) (D.fsub (D.fc 4607182418800017408) (D.fmul (S28_0 D (D.fdiv (D.fsub (D.fc 4607182418800017408) (S31_0 D a4)) (D.fadd (D.fc 4607182418800017408) (D.fmul (D.fsub (S27_0 D a0) (D.fc 4607182418800017408)) (S31_0 D a4))))) (S28_0 D (D.fdiv (D.fsub (D.fc 4607182418800017408) (S31_0 D a4)) (D.fadd (D.fc 4607182418800017408) (D.fmul (D.fsub (S27_0 D a0) (D.fc 4607182418800017408)) (S31_0 D a4)))))))))) (S28_0 D (D.fdiv (D.fsub (D.fc 4607182418800017408) (S31_0 D a4)) (D.fadd (D.fc 4607182418800017408) (D.fmul (D.fsub (S27_0 D a0) (D.fc 4607182418800017408)) (S31_0 D a4)))))) (D.fc 0))) (D.bc true) (D.bnot (S36_0 D a3 (S34_2 D (S35_2 D (S28_0 D (D.fdiv (D.fsub (D.fc 4607182418800017408) (S31_0 D a4)) (D.fadd (D.fc 4607182418800017408) (D.fmul (D.fsub (S27_0 D a0) (D.fc 4607182418800017408)) (S31_0 D a4))))) (D.fmul (D.fc 4611686018427387904) (S33_0 D a1 a2 a3 (D.fmul (S32_0 D a5) (S28_0 D (D.fmax (D.fc 0) (D.fsub (D.fc 4607182418800017408) (D.fmul (S28_0 D (D.fdiv (D.fsub (D.fc 4607182418800017408) (S31_0 D a4)) (D.fadd (D.fc 4607182418800017408) (D.fmul (D.fsub (S27_0 D a0) (D.fc 4607182418800017408)) (S31_0 D a4))))) (S28_0 D (D.fdiv (D.fsub (D.fc 4607182418800017408) (S31_0 D a4)) (D.fadd (D.fc 4607182418800017408) (D.fmul (D.fsub (S27_0 D a0) (D.fc 4607182418800017408)) (S31_0 D a4)))))))))) (D.fmul (S32_1 D a5) (S28_0 D (D.fmax (D.fc 0) (D.fsub (D.fc 4607182418800017408) (D.fmul (S28_0 D (D.fdiv (D.fsub (D.fc 4607182418800017408) (S31_0 D a4)) (D.fadd (D.fc 4607182418800017408) (D.fmul (D.fsub (S27_0 D a0) (D.fc 4607182418800017408)) (S31_0 D a4))))) (S28_0 D (D.fdiv (D.fsub (D.fc 4607182418800017408) (S31_0 D a4)) (D.fadd (D.fc 4607182418800017408) (D.fmul (D.fsub (S27_0 D a0) (D.fc 4607182418800017408)) (S31_0 D a4)))))))))) (S28_0 D (D.fdiv (D.fsub (D.fc 4607182418800017408) (S31_0 D a4)) (D.fadd (D.fc 4607182418800017408) (D.fmul (D.fsub (S27_0 D a0) (D.fc 4607182418800017408)) (S31_0 D a4)))))))) a3)))) (D.fc 0) (S34_0 D (S35_0 D (D.fmul (S32_0 D a5) (S28_0 D (D.fmax (D.fc 0) (D.fsub (D.fc 4607182418800017408) (D.fmul (S28_0 D (D.fdiv (D.fsub (D.fc 4607182418800017408) (S31_0 D a4)) (D.fadd (D.fc 4607182418800017408) (D.fmul (D.fsub (S27_0 D a0) (D.fc 4607182418800017408)) (S31_0 D a4))))) (S28_0 D (D.fdiv (D.fsub (D.fc 4607182418800017408) (S31_0 D a4)) (D.fadd (D.fc 4607182418800017408) (D.fmul (D.fsub (S27_0 D a0) (D.fc 4607182418800017408)) (S31_0 D a4)))))))))) (D.fmul (D.fc 4611686018427387904) (S33_0 D a1 a2 a3 (D.fmul (S32_0 D a5) (S28_0 D (D.fmax (D.fc 0) (D.fsub (D.fc 4607182418800017408) (D.fmul (S28_0 D (D.fdiv (D.fsub (D.fc 4607182418800017408) (S31_0 D a4)) (D.fadd (D.fc 4607182418800017408) (D.fmul (D.fsub (S27_0 D a0) (D.fc 4607182418800017408)) (S31_0 D a4))))) (S28_0 D (D.fdiv (D.fsub (D.fc 4607182418800017408) (S31_0 D a4)) (D.fadd (D.fc 4607182418800017408) (D.fmul (D.fsub (S27_0 D a0) (D.fc 4607182418800017408)) (S31_0 D a4)))))))))) (D.fmul (S32_1 D a5) (S28_0 D (D.fmax (D.fc 0) (D.fsub (D.fc 4607182418800017408) (D.fmul (S28_0 D (D.fdiv (D.fsub (D.fc 4607182418800017408) (S31_0 D a4)) (D.fadd (D.fc 4607182418800017408) (D.fmul (D.fsub (S27_0 D a0) (D.fc 4607182418800017408)) (S31_0 D a4))))) (S28_0 D (D.fdiv (D.fsub (D.fc 4607182418800017408) (S31_0 D a4)) (D.fadd (D.fc 4607182418800017408) (D.fmul (D.fsub (S27_0 D a0) (D.fc 4607182418800017408)) (S31_0 D a4)))))))))) (S28_0 D (D.fdiv (D.fsub (D.fc 4607182418800017408) (S31_0 D a4)) (D.fadd (D.fc 4607182418800017408) (D.fmul (D.fsub (S27_0 D a0) (D.fc 4607182418800017408)) (S31_0 D a4)))))))) a1))
def S17_1 (D : Dom) (a0 : D.F) (a1 : D.F) (a2 : D.F) (a3 : D.F) (a4 : D.F) (a5 : D.F) : D.F := (D.fite (D.bite (D.bnot (D.fgt (S33_0 D a1 a2 a3 (D.fmul (S32_0 D a5) (S28_0 D (D.fmax (D.fc 0) (D.fsub (D.fc 4607182418800017408) (D.fmul (S28_0 D (D.fdiv (D.fsub (D.fc 4607182418800017408) (S31_0 D a4)) (D.fadd (D.fc 4607182418800017408) (D.fmul (D.fsub (S27_0 D a0) (D.fc 4607182418800017408)) (S31_0 D a4))))) (S28_0 D (D.fdiv (D.fsub (D.fc 4607182418800017408) (S31_0 D a4)) (D.fadd (D.fc 4607182418800017408) (D.fmul (D.fsub (S27_0 D a0) (D.fc 4607182418800017408)) (S31_0 D a4)))))))))) (D.fmul (S32_1 D a5) (S28_0 D (D.fmax (D.fc 0) (D.fsub (D.fc 4607182418800017408) (D.fmul (S28_0 D (D.fdiv (D.fsub (D.fc 4607182418800017408) (S31_0 D a4)) (D.fadd (D.fc 4607182418800017408) (D.fmul (D.fsub (S27_0 D a0) (D.fc 4607182418800017408)) (S31_0 D a4))))) (S28_0 D (D.fdiv (D.fsub (D.fc 4607182418800017408) (S31_0 D a4)) (D.fadd (D.fc 4607182418800017408) (D.fmul (D.fsub (S27_0 D a0) (D.fc 4607182418800017408)) (S31_0 D a4)))))))))) (S28_0 D (D.fdiv (D.fsub (D.fc 4607182418800017408) (S31_0 D a4)) (D.fadd (D.fc 4607182418800017408) (D.fmul (D.fsub (S27_0 D a0) (D.fc 4607182418800017408)) (S31_0 D a4)))))) (D.fc 0))) (D.bc true) (D.bnot (S36_0 D a3 (S34_2 D (S35_2 D (S28_0 D (D.fdiv (D.fsub (D.fc 4607182418800017408) (S31_0 D a4)) (D.fadd (D.fc 4607182418800017408) (D.fmul (D.fsub (S27_0 D a0) (D.fc 4607182418800017408)) (S31_0 D a4))))) (D.fmul (D.fc 4611686018427387904) (S33_0 D a1 a2 a3 (D.fmul (S32_0 D a5) (S28_0 D (D.fmax (D.fc 0) (D.fsub (D.fc 4607182418800017408) (D.fmul (S28_0 D (D.fdiv (D.fsub (D.fc 4607182418800017408) (S31_0 D a4)) (D.fadd (D.fc 4607182418800017408) (D.fmul (D.fsub (S27_0 D a0) (D.fc 4607182418800017408)) (S31_0 D a4))))) (S28_0 D (D.fdiv (D.fsub (D.fc 4607182418800017408) (S31_0 D a4)) (D.fadd (D.fc 4607182418800017408) (D.fmul (D.fsub (S27_0 D a0) (D.fc 4607182418800017408)) (S31_0 D a4)))))))))) (D.fmul (S32_1 D a5) (S28_0 D (D.fmax (D.fc 0) (D.fsub (D.fc 4607182418800017408) (D.fmul (S28_0 D (D.fdiv (D.fsub (D.fc 4607182418800017408) (S31_0 D a4)) (D.fadd (D.fc 4607182418800017408) (D.fmul (D.fsub (S27_0 D a0) (D.fc 4607182418800017408)) (S31_0 D a4))))) (S28_0 D (D.fdiv (D.fsub (D.fc 4607182418800017408) (S31_0 D a4)) (D.fadd (D.fc 4607182418800017408) (D.fmul (D.fsub (S27_0 D a0) (D.fc 4607182418800017408)) (S31_0 D a4)))))))))) (S28_0 D (D.fdiv (D.fsub (D.fc 4607182418800017408) (S31_0 D a4)) (D.fadd (D.fc 4607182418800017408) (D.fmul (D.fsub (S27_0 D a0) (D.fc 4607182418800017408)) (S31_0 D a4)))))))) a3)))) (D.fc 0) (S34_1 D (S35_1 D (D.fmul (S32_1 D a5) (S28_0 D (D.fmax (D.fc 0) (D.fsub (D.fc 4607182418800017408) (D.fmul (S28_0 D (D.fdiv (D.fsub (D.fc 4607182418800017408) (S31_0 D a4)) (D.fadd (D.fc 4607182418800017408) (D.fmul (D.fsub (S27_0 D a0) (D.fc 4607182418800017408)) (S31_0 D a4))))) (S28_0 D (D.fdiv (D.fsub (D.fc 4607182418800017408) (S31_0 D a4)) (D.fadd (D.fc 4607182418800017408) (D.fmul (D.fsub (S27_0 D a0) (D.fc 4607182418800017408)) (S31_0 D a4)))))))))) (D.fmul (D.fc 4611686018427387904) (S33_0 D a1 a2 a3 (D.fmul (S32_0 D a5) (S28_0 D (D.fmax (D.fc 0) (D.fsub (D.fc 4607182418800017408) (D.fmul (S28_0 D (D.fdiv (D.fsub (D.fc 4607182418800017408) (S31_0 D a4)) (D.fadd (D.fc 4607182418800017408) (D.fmul (D.fsub (S27_0 D a0) (D.fc 4607182418800017408)) (S31_0 D a4))))) (S28_0 D (D.fdiv (D.fsub (D.fc 4607182418800017408) (S31_0 D a4)) (D.fadd (D.fc 4607182418800017408) (D.fmul (D.fsub (S27_0 D a0) (D.fc 4607182418800017408)) (S31_0 D a4)))))))))) (D.fmul (S32_1 D a5) (S28_0 D (D.fmax (D.fc 0) (D.fsub (D.fc 4607182418800017408) (D.fmul (S28_0 D (D.fdiv (D.fsub (D.fc 4607182418800017408) (S31_0 D a4)) (D.fadd (D.fc 4607182418800017408) (D.fmul (D.fsub (S27_0 D a0) (D.fc 4607182418800017408)) (S31_0 D a4))))) (S28_0 D (D.fdiv (D.fsub (D.fc 4607182418800017408) (S31_0 D a4)) (D.fadd (D.fc 4607182418800017408) (D.fmul (D.fsub (S27_0 D a0) (D.fc 4607182418800017408)) (S31_0 D a4)))))))))) (S28_0 D (D.fdiv (D.fsub (D.fc 4607182418800017408) (S31_0 D a4)) (D.fadd (D.fc 4607182418800017408) (D.fmul (D.fsub (S27_0 D a0) (D.fc 4607182418800017408)) (S31_0 D a4)))))))) a2))
def S17_2 (D : Dom) (a0 : D.F) (a1 : D.F) (a2 : D.F) (a3 : D.F) (a4 : D.F) (a5 : D.F) : D.F := (D.fite (D.bite (D.bnot (D.fgt (S33_0 D a1 a2 a3 (D.fmul (S32_0 D a5) (S28_0 D (D.fmax (D.fc 0) (D.fsub (D.fc 4607182418800017408) (D.fmul (S28_0 D (D.fdiv (D.fsub (D.fc 4607182418800017408) (S31_0 D a4)) (D.fadd (D.fc 4607182418800017408) (D.fmul (D.fsub (S27_0 D a0) (D.fc 4607182418800017408)) (S31_0 D a4))))) (S28_0 D (D.fdiv (D.fsub (D.fc 4607182418800017408) (S31_0 D a4)) (D.fadd (D.fc 4607182418800017408) (D.fmul (D.fsub (S27_0 D a0) (D.fc 4607182418800017408)) (S31_0 D a4)))))))))) (D.fmul (S32_1 D a5) (S28_0 D (D.fmax (D.fc 0) (D.fsub (D.fc 4607182418800017408) (D.fmul (S28_0 D (D.fdiv (D.fsub (D.fc 4607182418800017408) (S31_0 D a4)) (D.fadd (D.fc 4607182418800017408) (D.fmul (D.fsub (S27_0 D a0) (D.fc 4607182418800017408)) (S31_0 D a4))))) (S28_0 D (D.fdiv (D.fsub (D.fc 4607182418800017408) (S31_0 D a4)) (D.fadd (D.fc 4607182418800017408) (D.fmul (D.fsub (S27_0 D a0) (D.fc 4607182418800017408)) (S31_0 D a4)))))))))) (S28_0 D (D.fdiv (D.fsub (D.fc 4607182418800017408) (S31_0 D a4)) (D.fadd (D.fc 4607182418800017408) (D.fmul (D.fsub (S27_0 D a0) (D.fc 4607182418800017408)) (S31_0 D a4)))))) (D.fc 0))) (D.bc true) (D.bnot (S36_0 D a3 (S34_2 D (S35_2 D (S28_0 D (D.fdiv (D.fsub (D.fc 4607182418800017408) (S31_0 D a4)) (D.fadd (D.fc 4607182418800017408) (D.fmul (D.fsub (S27_0 D a0) (D.fc 4607182418800017408)) (S31_0 D a4))))) (D.fmul (D.fc 4611686018427387904) (S33_0 D a1 a2 a3 (D.fmul (S32_0 D a5) (S28_0 D (D.fmax (D.fc 0) (D.fsub (D.fc 4607182418800017408) (D.fmul (S28_0 D (D.fdiv (D.fsub (D.fc 4607182418800017408) (S31_0 D a4)) (D.fadd (D.fc 4607182418800017408) (D.fmul (D.fsub (S27_0 D a0) (D.fc 4607182418800017408)) (S31_0 D a4))))) (S28_0 D (D.fdiv (D.fsub (D.fc 4607182418800017408) (S31_0 D a4)) (D.fadd (D.fc 4607182418800017408) (D.fmul (D.fsub (S27_0 D a0) (D.fc 4607182418800017408)) (S31_0 D a4)))))))))) (D.fmul (S32_1 D a5) (S28_0 D (D.fmax (D.fc 0) (D.fsub (D.fc 4607182418800017408) (D.fmul (S28_0 D (D.fdiv (D.fsub (D.fc 4607182418800017408) (S31_0 D a4)) (D.fadd (D.fc 4607182418800017408) (D.fmul (D.fsub (S27_0 D a0) (D.fc 4607182418800017408)) (S31_0 D a4))))) (S28_0 D (D.fdiv (D.fsub (D.fc 4607182418800017408) (S31_0 D a4)) (D.fadd (D.fc 4607182418800017408) (D.fmul (D.fsub (S27_0 D a0) (D.fc 4607182418800017408)) (S31_0 D a4)))))))))) (S28_0 D (D.fdiv (D.fsub (D.fc 4607182418800017408) (S31_0 D a4)) (D.fadd (D.fc 4607182418800017408) (D.fmul (D.fsub (S27_0 D a0) (D.fc 4607182418800017408)) (S31_0 D a4)))))))) a3)))) (D.fc 0) (S34_2 D (S35_2 D (S28_0 D (D.fdiv (D.fsub (D.fc 4607182418800017408) (S31_0 D a4)) (D.fadd (D.fc 4607182418800017408) (D.fmul (D.fsub (S27_0 D a0) (D.fc 4607182418800017408)) (S31_0 D a4))))) (D.fmul (D.fc 4611686018427387904) (S33_0 D a1 a2 a3 (D.fmul (S32_0 D a5) (S28_0 D (D.fmax (D.fc 0) (D.fsub (D.fc 4607182418800017408) (D.fmul (S28_0 D (D.fdiv (D.fsub (D.fc 4607182418800017408) (S31_0 D a4)) (D.fadd (D.fc 4607182418800017408) (D.fmul (D.fsub (S27_0 D a0) (D.fc 4607182418800017408)) (S31_0 D a4))))) (S28_0 D (D.fdiv (D.fsub (D.fc 4607182418800017408) (S31_0 D a4)) (D.fadd (D.fc 4607182418800017408) (D.fmul (D.fsub (S27_0 D a0) (D.fc 4607182418800017408)) (S31_0 D a4)))))))))) (D.fmul (S32_1 D a5) (S28_0 D (D.fmax (D.fc 0) (D.fsub (D.fc 4607182418800017408) (D.fmul (S28_0 D (D.fdiv (D.fsub (D.fc 4607182418800017408) (S31_0 D a4)) (D.fadd (D.fc 4607182418800017408) (D.fmul (D.fsub (S27_0 D a0) (D.fc 4607182418800017408)) (S31_0 D a4))))) (S28_0 D (D.fdiv (D.fsub (D.fc 4607182418800017408) (S31_0 D a4)) (D.fadd (D.fc 4607182418800017408) (D.fmul (D.fsub (S27_0 D a0) (D.fc 4607182418800017408)) (S31_0 D a4)))))))))) (S28_0 D (D.fdiv (D.fsub (D.fc 4607182418800017408) (S31_0 D a4)) (D.fadd (D.fc 4607182418800017408) (D.fmul (D.fsub (S27_0 D a0) (D.fc 4607182418800017408)) (S31_0 D a4)))))))) a3))
def S17_3 (D : Dom) (a0 : D.F) (a1 : D.F) (a2 : D.F) (a3 : D.F) (a4 : D.F) (a5 : D.F) : D.B := (D.bite (D.bite (D.bnot (D.fgt (S33_0 D a1 a2 a3 (D.fmul (S32_0 D a5) (S28_0 D (D.fmax (D.fc 0) (D.fsub (D.fc 4607182418800017408) (D.fmul (S28_0 D (D.fdiv (D.fsub (D.fc 4607182418800017408) (S31_0 D a4)) (D.fadd (D.fc 4607182418800017408) (D.fmul (D.fsub (S27_0 D a0) (D.fc 4607182418800017408)) (S31_0 D a4))))) (S28_0 D (D.fdiv (D.fsub (D.fc 4607182418800017408) (S31_0 D a4)) (D.fadd (D.fc 4607182418800017408) (D.fmul (D.fsub (S27_0 D a0) (D.fc 4607182418800017408)) (S31_0 D a4)))))))))) (D.fmul (S32_1 D a5) (S28_0 D (D.fmax (D.fc 0) (D.fsub (D.fc 4607182418800017408) (D.fmul (S28_0 D (D.fdiv (D.fsub (D.fc 4607182418800017408) (S31_0 D a4)) (D.fadd (D.fc 4607182418800017408) (D.fmul (D.fsub (S27_0 D a0) (D.fc 4607182418800017408)) (S31_0 D a4))))) (S28_0 D (D.fdiv (D.fsub (D.fc 4607182418800017408) (S31_0 D a4)) (D.fadd (D.fc 4607182418800017408) (D.fmul (D.fsub (S27_0 D a0) (D.fc 4607182418800017408)) (S31_0 D a4)))))))))) (S28_0 D (D.fdiv (D.fsub (D.fc 4607182418800017408) (S31_0 D a4)) (D.fadd (D.fc 4607182418800017408) (D.fmul (D.fsub (S27_0 D a0) (D.fc 4607182418800017408)) (S31_0 D a4)))))) (D.fc 0))) (D.bc true) (D.bnot (S36_0 D a3 (S34_2 D (S35_2 D (S28_0 D (D.fdiv (D.fsub (D.fc 4607182418800017408) (S31_0 D a4)) (D.fadd (D.fc 4607182418800017408) (D.fmul (D.fsub (S27_0 D a0) (D.fc 4607182418800017408)) (S31_0 D a4))))) (D.fmul (D.fc 4611686018427387904) (S33_0 D a1 a2 a3 (D.fmul (S32_0 D a5) (S28_0 D (D.fmax (D.fc 0) (D.fsub (D.fc 4607182418800017408) (D.fmul (S28_0 D (D.fdiv (D.fsub (D.fc 4607182418800017408) (S31_0 D a4)) (D.fadd (D.fc 4607182418800017408) (D.fmul (D.fsub (S27_0 D a0) (D.fc 4607182418800017408)) (S31_0 D a4))))) (S28_0 D (D.fdiv (D.fsub (D.fc 4607182418800017408) (S31_0 D a4)) (D.fadd (D.fc 4607182418800017408) (D.fmul (D.fsub (S27_0 D a0) (D.fc 4607182418800017408)) (S31_0 D a4)))))))))) (D.fmul (S32_1 D a5) (S28_0 D (D.fmax (D.fc 0) (D.fsub (D.fc 4607182418800017408) (D.fmul (S28_0 D (D.fdiv (D.fsub (D.fc 4607182418800017408) (S31_0 D a4)) (D.fadd (D.fc 4607182418800017408) (D.fmul (D.fsub (S27_0 D a0) (D.fc 4607182418800017408)) (S31_0 D a4))))) (S28_0 D (D.fdiv (D.fsub (D.fc 4607182418800017408) (S31_0 D a4)) (D.fadd (D.fc 4607182418800017408) (D.fmul (D.fsub (S27_0 D a0) (D.fc 4607182418800017408)) (S31_0 D a4)))))))))) (S28_0 D (D.fdiv (D.fsub (D.fc 4607182418800017408) (S31_0 D a4)) (D.fadd (D.fc 4607182418800017408) (D.fmul (D.fsub (S27_0 D a0) (D.fc 4607182418800017408)) (S31_0 D a4)))))))) a3)))) (D.bc false) (D.bc true))
def O17 (D : Dom) (a5 : D.F) : D.B := (O32 D a5)
theorem ev17 (D : Dom) (a0 : D.F) (a1 : D.F) (a2 : D.F) (a3 : D.F) (a4 : D.F) (a5 : D.F) : joinT (evFn Try.prog (tbl_36 D) 60 17 [.fl a0, .agg [.fl a1, .fl a2, .fl a3], .fl a4, .fl a5]) = .val (some (O17 D a5)) (.tup [.agg [.fl (S17_0 D a0 a1 a2 a3 a4 a5), .fl (S17_1 D a0 a1 a2 a3 a4 a5), .fl (S17_2 D a0 a1 a2 a3 a4 a5)], .sb (S17_3 D a0 a1 a2 a3 a4 a5)]) := by kernel_rfl
def sp17 : Ev.Spec := fun D l => argF l fun a0 r0 => argA r0 fun c1 r1 => argF c1 fun a1 r2 => argF r2 fun a2 r3 => argF r3 fun a3 r4 => arg0 r4 (argF r1 fun a4 r101 => argF r101 fun a5 r102 => arg0 r102 (.node (O17 D a5) (.ret (.tup [.agg [.fl (S17_0 D a0 a1 a2 a3 a4 a5), .fl (S17_1 D a0 a1 a2 a3 a4 a5), .fl (S17_2 D a0 a1 a2 a3 a4 a5)], .sb (S17_3 D a0 a1 a2 a3 a4 a5)])) (.fail "pre")))
theorem en17 : ∀ l r, (sp17 R l).run = some r → Entry Try.prog 17 l r := by
  intro l r h
  obtain ⟨x0, _, h, L0⟩ := argF_inv h
  obtain ⟨_, _, h, L1⟩ := argA_inv h
  obtain ⟨x2, _, h, L2⟩ := argF_inv h
  obtain ⟨x3, _, h, L3⟩ := argF_inv h
  obtain ⟨x4, _, h, L4⟩ := argF_inv h
  obtain ⟨h, L5⟩ := arg0_inv h
  obtain ⟨x6, _, h, L6⟩ := argF_inv h
  obtain ⟨x7, _, h, L7⟩ := argF_inv h
  obtain ⟨h, L8⟩ := arg0_inv h
  obtain ⟨hok, rfl⟩ := run_okay h
  exact (entry_of prg tok_36 (ev17 R x0 x2 x3 x4 x6 x7) (fun o ho => (Option.some.inj ho) ▸ hok) rfl).le (L0 _ (L1 _ _ (L2 _ (L3 _ (L4 _ L5))) (L6 _ (L7 _ L8))))
def tl_17 : List (Nat × Ev.Spec) := (17, sp17) :: tl_36
def tbl_17 (D : Dom) : Tbl D := tblOf tl_17 D
theorem tok_17 : TblOK Try.prog (tbl_17 R) := TblOK.cons tok_36 en17

-- penumbra/ggx.Shadow
def S12_0 (D : Dom) (a0 : D.F) (a1 : D.F) : D.F := (D.fite (D.bnot (D.fgt a1 (D.fc 0))) (D.fc 0) (D.fdiv (D.fmul (D.fc 4611686018427387904) a1) (D.fadd a1 (S28_0 D (D.fadd (S27_0 D a0) (D.fmul (D.fsub (D.fc 4607182418800017408) (S27_0 D a0)) (D.fmul a1 a1)))))))
theorem ev12 (D : Dom) (a0 : D.F) (a1 : D.F) : joinT (evFn Try.prog (tbl_17 D) 60 12 [.fl a0, .fl a1]) = .val none (.fl (S12_0 D a0 a1)) := by kernel_rfl
def sp12 : Ev.Spec := fun D l => argF l fun a0 r0 => argF r0 fun a1 r1 => arg0 r1 (.ret (.fl (S12_0 D a0 a1)))
theorem en12 : ∀ l r, (sp12 R l).run = some r → Entry Try.prog 12 l r := by
  intro l r h
  obtain ⟨x0, _, h, L0⟩ := argF_inv h
  obtain ⟨x1, _, h, L1⟩ := argF_inv h
  obtain ⟨h, L2⟩ := arg0_inv h
  cases h
  exact (entry_of prg tok_17 (ev12 R x0 x1) (fun o ho => nomatch ho) rfl).le (L0 _ (L1 _ L2))
def tl_12 : List (Nat × Ev.Spec) := (12, sp12) :: tl_17
def tbl_12 (D : Dom) : Tbl D := tblOf tl_12 D
theorem tok_12 : TblOK Try.prog (tbl_12 R) := TblOK.cons tok_17 en12

-- penumbra/ggx.Fresnel
def S15_0 (D : Dom) (a0 : D.F) (a3 : D.F) : D.F := (D.fadd a0 (D.fmul (D.fsub (D.fc 4607182418800017408) a0) (D.fmul (D.fmul (D.fmul (D.fsub (D.fc 4607182418800017408) (S26_0 D a3 (D.fc 0) (D.fc 4607182418800017408))) (D.fsub (D.fc 4607182418800017408) (S26_0 D a3 (D.fc 0) (D.fc 4607182418800017408)))) (D.fmul (D.fsub (D.fc 4607182418800017408) (S26_0 D a3 (D.fc 0) (D.fc 4607182418800017408))) (D.fsub (D.fc 4607182418800017408) (S26_0 D a3 (D.fc 0) (D.fc 4607182418800017408))))) (D.fsub (D.fc 4607182418800017408) (S26_0 D a3 (D.fc 0) (D.fc 4607182418800017408))))))
def S15_1 (D : Dom) (a1 : D.F) (a3 : D.F) : D.F := (D.fadd a1 (D.fmul (D.fsub (D.fc 4607182418800017408) a1) (D.fmul (D.fmul (D.fmul (D.fsub (D.fc 4607182418800017408) (S26_0 D a3 (D.fc 0) (D.fc 4607182418800017408))) (D.fsub (D.fc 4607182418800017408) (S26_0 D a3 (D.fc 0) (D.fc 4607182418800017408)))) (D.fmul (D.fsub (D.fc 4607182418800017408) (S26_0 D a3 (D.fc 0) (D.fc 4607182418800017408))) (D.fsub (D.fc 4607182418800017408) (S26_0 D a3 (D.fc 0) (D.fc 4607182418800017408))))) (D.fsub (D.fc 4607182418800017408) (S26_0 D a3 (D.fc 0) (D.fc 4607182418800017408))))))
def S15_2 (D : Dom) (a2 : D.F) (a3 : D.F) : D.F := (D.fadd a2 (D.fmul (D.fsub (D.fc 4607182418800017408) a2) (D.fmul (D.fmul (D.fmul (D.fsub (D.fc 4607182418800017408) (S26_0 D a3 (D.fc 0) (D.fc 4607182418800017408))) (D.fsub (D.fc 4607182418800017408) (S26_0 D a3 (D.fc 0) (D.fc 4607182418800017408)))) (D.fmul (D.fsub (D.fc 4607182418800017408) (S26_0 D a3 (D.fc 0) (D.fc 4607182418800017408))) (D.fsub (D.fc 4607182418800017408) (S26_0 D a3 (D.fc 0) (D.fc 4607182418800017408))))) (D.fsub (D.fc 4607182418800017408) (S26_0 D a3 (D.fc 0) (D.fc 4607182418800017408))))))
theorem ev15 (D : Dom) (a0 : D.F) (a1 : D.F) (a2 : D.F) (a3 : D.F) : joinT (evFn Try.prog (tbl_12 D) 60 15 [.agg [.fl a0, .fl a1, .fl a2], .fl a3]) = .val none (.agg [.fl (S15_0 D a0 a3), .fl (S15_1 D a1 a3), .fl (S15_2 D a2 a3)]) := by kernel_rfl
def sp15 : Ev.Spec := fun D l => argA l fun c0 r0 => argF c0 fun a0 r1 => argF r1 fun a1 r2 => argF r2 fun a2 r3 => arg0 r3 (argF r0 fun a3 r100 => arg0 r100 (.ret (.agg [.fl (S15_0 D a0 a3), .fl (S15_1 D a1 a3), .fl (S15_2 D a2 a3)])))
theorem en15 : ∀ l r, (sp15 R l).run = some r → Entry Try.prog 15 l r := by
  intro l r h
  obtain ⟨_, _, h, L0⟩ := argA_inv h
  obtain ⟨x1, _, h, L1⟩ := argF_inv h
  obtain ⟨x2, _, h, L2⟩ := argF_inv h
  obtain ⟨x3, _, h, L3⟩ := argF_inv h
  obtain ⟨h, L4⟩ := arg0_inv h
  obtain ⟨x5, _, h, L5⟩ := argF_inv h
  obtain ⟨h, L6⟩ := arg0_inv h
  cases h
  exact (entry_of prg tok_12 (ev15 R x1 x2 x3 x5) (fun o ho => nomatch ho) rfl).le (L0 _ _ (L1 _ (L2 _ (L3 _ L4))) (L5 _ L6))
def tl_15 : List (Nat × Ev.Spec) := (15, sp15) :: tl_12
def tbl_15 (D : Dom) : Tbl D := tblOf tl_15 D
theorem tok_15 : TblOK Try.prog (tbl_15 R) := TblOK.cons tok_12 en15

-- penumbra/vec.Add$1
def S58_0 (D : Dom) (a0 : D.F) (a1 : D.F) : D.F := (D.fadd a0 a1)
theorem ev58 (D : Dom) (a0 : D.F) (a1 : D.F) : joinT (evFn Try.prog (tbl_15 D) 60 58 [.fl a0, .fl a1]) = .val none (.fl (S58_0 D a0 a1)) := by kernel_rfl
def sp58 : Ev.Spec := fun D l => argF l fun a0 r0 => argF r0 fun a1 r1 => arg0 r1 (.ret (.fl (S58_0 D a0 a1)))
theorem en58 : ∀ l r, (sp58 R l).run = some r → Entry Try.prog 58 l r := by
  intro l r h
  obtain ⟨x0, _, h, L0⟩ := argF_inv h
  obtain ⟨x1, _, h, L1⟩ := argF_inv h
  obtain ⟨h, L2⟩ := arg0_inv h
  cases h
  exact (entry_of prg tok_15 (ev58 R x0 x1) (fun o ho => nomatch ho) rfl).le (L0 _ (L1 _ L2))
def tl_58 : List (Nat × Ev.Spec) := (58, sp58) :: tl_15
def tbl_58 (D : Dom) : Tbl D := tblOf tl_58 D
theorem tok_58 : TblOK Try.prog (tbl_58 R) := TblOK.cons tok_15 en58

-- penumbra/vec.Add
def S43_0 (D : Dom) (a0 : D.F) (a3 : D.F) : D.F := (S58_0 D a0 a3)
def S43_1 (D : Dom) (a1 : D.F) (a4 : D.F) : D.F := (S58_0 D a1 a4)
def S43_2 (D : Dom) (a2 : D.F) (a5 : D.F) : D.F := (S58_0 D a2 a5)
theorem ev43 (D : Dom) (a0 : D.F) (a1 : D.F) (a2 : D.F) (a3 : D.F) (a4 : D.F) (a5 : D.F) : joinT (evFn Try.prog (tbl_58 D) 60 43 [.agg [.fl a0, .fl a1, .fl a2], .agg [.fl a3, .fl a4, .fl a5]]) = .val none (.agg [.fl (S43_0 D a0 a3), .fl (S43_1 D a1 a4), .fl (S43_2 D a2 a5)]) := by kernel_rfl
def sp43 : Ev.Spec := fun D l => argA l fun c0 r0 => argF c0 fun a0 r1 => argF r1 fun a1 r2 => argF r2 fun a2 r3 => arg0 r3 (argA r0 fun c100 r100 => argF c100 fun a3 r101 => argF r101 fun a4 r102 => argF r102 fun a5 r103 => arg0 r103 (arg0 r100 (.ret (.agg [.fl (S43_0 D a0 a3), .fl (S43_1 D a1 a4), .fl (S43_2 D a2 a5)]))))
theorem en43 : ∀ l r, (sp43 R l).run = some r → Entry Try.prog 43 l r := by
  intro l r h
  obtain ⟨_, _, h, L0⟩ := argA_inv h
  obtain ⟨x1, _, h, L1⟩ := argF_inv h
  obtain ⟨x2, _, h, L2⟩ := argF_inv h
  obtain ⟨x3, _, h, L3⟩ := argF_inv h
  obtain ⟨h, L4⟩ := arg0_inv h
  obtain ⟨_, _, h, L5⟩ := argA_inv h
  obtain ⟨x6, _, h, L6⟩ := argF_inv h
  obtain ⟨x7, _, h, L7⟩ := argF_inv h
  obtain ⟨x8, _, h, L8⟩ := argF_inv h
  obtain ⟨h, L9⟩ := arg0_inv h
  obtain ⟨h, L10⟩ := arg0_inv h
  cases h
  exact (entry_of prg tok_58 (ev43 R x1 x2 x3 x6 x7 x8) (fun o ho => nomatch ho) rfl).le (L0 _ _ (L1 _ (L2 _ (L3 _ L4))) (L5 _ _ (L6 _ (L7 _ (L8 _ L9))) L10))
def tl_43 : List (Nat × Ev.Spec) := (43, sp43) :: tl_58
def tbl_43 (D : Dom) : Tbl D := tblOf tl_43 D
theorem tok_43 : TblOK Try.prog (tbl_43 R) := TblOK.cons tok_58 en43

-- penumbra/vec.Len2
def S64_0 (D : Dom) (a0 : D.F) (a1 : D.F) (a2 : D.F) : D.F := (S33_0 D a0 a1 a2 a0 a1 a2)
theorem ev64 (D : Dom) (a0 : D.F) (a1 : D.F) (a2 : D.F) : joinT (evFn Try.prog (tbl_43 D) 60 64 [.agg [.fl a0, .fl a1, .fl a2]]) = .val none (.fl (S64_0 D a0 a1 a2)) := by kernel_rfl
def sp64 : Ev.Spec := fun D l => argA l fun c0 r0 => argF c0 fun a0 r1 => argF r1 fun a1 r2 => argF r2 fun a2 r3 => arg0 r3 (arg0 r0 (.ret (.fl (S64_0 D a0 a1 a2))))
theorem en64 : ∀ l r, (sp64 R l).run = some r → Entry Try.prog 64 l r := by
  intro l r h
  obtain ⟨_, _, h, L0⟩ := argA_inv h
  obtain ⟨x1, _, h, L1⟩ := argF_inv h
  obtain ⟨x2, _, h, L2⟩ := argF_inv h
  obtain ⟨x3, _, h, L3⟩ := argF_inv h
  obtain ⟨h, L4⟩ := arg0_inv h
  obtain ⟨h, L5⟩ := arg0_inv h
  cases h
  exact (entry_of prg tok_43 (ev64 R x1 x2 x3) (fun o ho => nomatch ho) rfl).le (L0 _ _ (L1 _ (L2 _ (L3 _ L4))) L5)
def tl_64 : List (Nat × Ev.Spec) := (64, sp64) :: tl_43
def tbl_64 (D : Dom) : Tbl D := tblOf tl_64 D
theorem tok_64 : TblOK Try.prog (tbl_64 R) := TblOK.cons tok_43 en64

-- penumbra/vec.Len
def S57_0 (D : Dom) (a0 : D.F) (a1 : D.F) (a2 : D.F) : D.F := (S28_0 D (S64_0 D a0 a1 a2))
theorem ev57 (D : Dom) (a0 : D.F) (a1 : D.F) (a2 : D.F) : joinT (evFn Try.prog (tbl_64 D) 60 57 [.agg [.fl a0, .fl a1, .fl a2]]) = .val none (.fl (S57_0 D a0 a1 a2)) := by kernel_rfl
def sp57 : Ev.Spec := fun D l => argA l fun c0 r0 => argF c0 fun a0 r1 => argF r1 fun a1 r2 => argF r2 fun a2 r3 => arg0 r3 (arg0 r0 (.ret (.fl (S57_0 D a0 a1 a2))))
theorem en57 : ∀ l r, (sp57 R l).run = some r → Entry Try.prog 57 l r := by
  intro l r h
  obtain ⟨_, _, h, L0⟩ := argA_inv h
  obtain ⟨x1, _, h, L1⟩ := argF_inv h
  obtain ⟨x2, _, h, L2⟩ := argF_inv h
  obtain ⟨x3, _, h, L3⟩ := argF_inv h
  obtain ⟨h, L4⟩ := arg0_inv h
  obtain ⟨h, L5⟩ := arg0_inv h
  cases h
  exact (entry_of prg tok_64 (ev57 R x1 x2 x3) (fun o ho => nomatch ho) rfl).le (L0 _ _ (L1 _ (L2 _ (L3 _ L4))) L5)
def tl_57 : List (Nat × Ev.Spec) := (57, sp57) :: tl_64
def tbl_57 (D : Dom) : Tbl D := tblOf tl_57 D
theorem tok_57 : TblOK Try.prog (tbl_57 R) := TblOK.cons tok_64 en57

-- penumbra/vec.Number
def S47_0 (D : Dom) (a0 : D.F) : D.B := (D.bite (D.fge a0 (D.fc 18442240474082181119)) (D.fle a0 (D.fc 9218868437227405311)) (D.bc false))
theorem ev47 (D : Dom) (a0 : D.F) : joinT (evFn Try.prog (tbl_57 D) 60 47 [.fl a0]) = .val none (.sb (S47_0 D a0)) := by kernel_rfl
def sp47 : Ev.Spec := fun D l => argF l fun a0 r0 => arg0 r0 (.ret (.sb (S47_0 D a0)))
theorem en47 : ∀ l r, (sp47 R l).run = some r → Entry Try.prog 47 l r := by
  intro l r h
  obtain ⟨x0, _, h, L0⟩ := argF_inv h
  obtain ⟨h, L1⟩ := arg0_inv h
  cases h
  exact (entry_of prg tok_57 (ev47 R x0) (fun o ho => nomatch ho) rfl).le (L0 _ L1)
def tl_47 : List (Nat × Ev.Spec) := (47, sp47) :: tl_57
def tbl_47 (D : Dom) : Tbl D := tblOf tl_47 D
theorem tok_47 : TblOK Try.prog (tbl_47 R) := TblOK.cons tok_57 en47

-- penumbra/vec.Unit
def S42_0 (D : Dom) (a0 : D.F) (a1 : D.F) (a2 : D.F) : D.F := (D.fite (D.bite (D.bnot (D.fgt (S57_0 D a0 a1 a2) (D.fc 0))) (D.bc true) (D.bnot (S47_0 D (S57_0 D a0 a1 a2)))) (D.fc 0) (D.fdiv a0 (S57_0 D a0 a1 a2)))
def S42_1 (D : Dom) (a0 : D.F) (a1 : D.F) (a2 : D.F) : D.F := (D.fite (D.bite (D.bnot (D.fgt (S57_0 D a0 a1 a2) (D.fc 0))) (D.bc true) (D.bnot (S47_0 D (S57_0 D a0 a1 a2)))) (D.fc 0) (D.fdiv a1 (S57_0 D a0 a1 a2)))
def S42_2 (D : Dom) (a0 : D.F) (a1 : D.F) (a2 : D.F) : D.F := (D.fite (D.bite (D.bnot (D.fgt (S57_0 D a0 a1 a2) (D.fc 0))) (D.bc true) (D.bnot (S47_0 D (S57_0 D a0 a1 a2)))) (D.fc 0) (D.fdiv a2 (S57_0 D a0 a1 a2)))
def S42_3 (D : Dom) (a0 : D.F) (a1 : D.F) (a2 : D.F) : D.B := (D.bite (D.bite (D.bnot (D.fgt (S57_0 D a0 a1 a2) (D.fc 0))) (D.bc true) (D.bnot (S47_0 D (S57_0 D a0 a1 a2)))) (D.bc false) (D.bc true))
theorem ev42 (D : Dom) (a0 : D.F) (a1 : D.F) (a2 : D.F) : joinT (evFn Try.prog (tbl_47 D) 60 42 [.agg [.fl a0, .fl a1, .fl a2]]) = .val none (.tup [.agg [.fl (S42_0 D a0 a1 a2), .fl (S42_1 D a0 a1 a2), .fl (S42_2 D a0 a1 a2)], .sb (S42_3 D a0 a1 a2)]) := by kernel_rfl
def sp42 : Ev.Spec := fun D l => argA l fun c0 r0 => argF c0 fun a0 r1 => argF r1 fun a1 r2 => argF r2 fun a2 r3 => arg0 r3 (arg0 r0 (.ret (.tup [.agg [.fl (S42_0 D a0 a1 a2), .fl (S42_1 D a0 a1 a2), .fl (S42_2 D a0 a1 a2)], .sb (S42_3 D a0 a1 a2)])))
theorem en42 : ∀ l r, (sp42 R l).run = some r → Entry Try.prog 42 l r := by
  intro l r h
  obtain ⟨_, _, h, L0⟩ := argA_inv h
  obtain ⟨x1, _, h, L1⟩ := argF_inv h
  obtain ⟨x2, _, h, L2⟩ := argF_inv h
  obtain ⟨x3, _, h, L3⟩ := argF_inv h
  obtain ⟨h, L4⟩ := arg0_inv h
  obtain ⟨h, L5⟩ := arg0_inv h
  cases h
  exact (entry_of prg tok_47 (ev42 R x1 x2 x3) (fun o ho => nomatch ho) rfl).le (L0 _ _ (L1 _ (L2 _ (L3 _ L4))) L5)
def tl_42 : List (Nat × Ev.Spec) := (42, sp42) :: tl_47
def tbl_42 (D : Dom) : Tbl D := tblOf tl_42 D
theorem tok_42 : TblOK Try.prog (tbl_42 R) := TblOK.cons tok_47 en42

-- penumbra/ggx.Half
def S20_0 (D : Dom) (a0 : D.F) (a1 : D.F) (a2 : D.F) (a3 : D.F) (a4 : D.F) (a5 : D.F) : D.F := (D.fite (D.bnot (S36_0 D a2 a5)) (D.fc 0) (S42_0 D (S43_0 D a0 a3) (S43_1 D a1 a4) (S43_2 D a2 a5)))
def S20_1 (D : Dom) (a0 : D.F) (a1 : D.F) (a2 : D.F) (a3 : D.F) (a4 : D.F) (a5 : D.F) : D.F := (D.fite (D.bnot (S36_0 D a2 a5)) (D.fc 0) (S42_1 D (S43_0 D a0 a3) (S43_1 D a1 a4) (S43_2 D a2 a5)))
def S20_2 (D : Dom) (a0 : D.F) (a1 : D.F) (a2 : D.F) (a3 : D.F) (a4 : D.F) (a5 : D.F) : D.F := (D.fite (D.bnot (S36_0 D a2 a5)) (D.fc 0) (S42_2 D (S43_0 D a0 a3) (S43_1 D a1 a4) (S43_2 D a2 a5)))
def S20_3 (D : Dom) (a0 : D.F) (a1 : D.F) (a2 : D.F) (a3 : D.F) (a4 : D.F) (a5 : D.F) : D.B := (D.bite (D.bnot (S36_0 D a2 a5)) (D.bc false) (S42_3 D (S43_0 D a0 a3) (S43_1 D a1 a4) (S43_2 D a2 a5)))
theorem ev20 (D : Dom) (a0 : D.F) (a1 : D.F) (a2 : D.F) (a3 : D.F) (a4 : D.F) (a5 : D.F) : joinT (evFn Try.prog (tbl_42 D) 60 20 [.agg [.fl a0, .fl a1, .fl a2], .agg [.fl a3, .fl a4, .fl a5]]) = .val none (.tup [.agg [.fl (S20_0 D a0 a1 a2 a3 a4 a5), .fl (S20_1 D a0 a1 a2 a3 a4 a5), .fl (S20_2 D a0 a1 a2 a3 a4 a5)], .sb (S20_3 D a0 a1 a2 a3 a4 a5)]) := by kernel_rfl
def sp20 : Ev.Spec := fun D l => argA l fun c0 r0 => argF c0 fun a0 r1 => argF r1 fun a1 r2 => argF r2 fun a2 r3 => arg0 r3 (argA r0 fun c100 r100 => argF c100 fun a3 r101 => argF r101 fun a4 r102 => argF r102 fun a5 r103 => arg0 r103 (arg0 r100 (.ret (.tup [.agg [.fl (S20_0 D a0 a1 a2 a3 a4 a5), .fl (S20_1 D a0 a1 a2 a3 a4 a5), .fl (S20_2 D a0 a1 a2 a3 a4 a5)], .sb (S20_3 D a0 a1 a2 a3 a4 a5)]))))
theorem en20 : ∀ l r, (sp20 R l).run = some r → Entry Try.prog 20 l r := by
  intro l r h
  obtain ⟨_, _, h, L0⟩ := argA_inv h
  obtain ⟨x1, _, h, L1⟩ := argF_inv h
  obtain ⟨x2, _, h, L2⟩ := argF_inv h
  obtain ⟨x3, _, h, L3⟩ := argF_inv h
  obtain ⟨h, L4⟩ := arg0_inv h
  obtain ⟨_, _, h, L5⟩ := argA_inv h
  obtain ⟨x6, _, h, L6⟩ := argF_inv h
  obtain ⟨x7, _, h, L7⟩ := argF_inv h
  obtain ⟨x8, _, h, L8⟩ := argF_inv h
  obtain ⟨h, L9⟩ := arg0_inv h
  obtain ⟨h, L10⟩ := arg0_inv h
  cases h
  exact (entry_of prg tok_42 (ev20 R x1 x2 x3 x6 x7 x8) (fun o ho => nomatch ho) rfl).le (L0 _ _ (L1 _ (L2 _ (L3 _ L4))) (L5 _ _ (L6 _ (L7 _ (L8 _ L9))) L10))
def tl_20 : List (Nat × Ev.Spec) := (20, sp20) :: tl_42
def tbl_20 (D : Dom) : Tbl D := tblOf tl_20 D
theorem tok_20 : TblOK Try.prog (tbl_20 R) := TblOK.cons tok_42 en20

-- penumbra/warp.size
def S65_0 (D : Dom) (a0 : D.F) : D.F := (D.fite (D.flt a0 (D.fc 0)) (D.fsub (D.fc 0) a0) a0)
theorem ev65 (D : Dom) (a0 : D.F) : joinT (evFn Try.prog (tbl_20 D) 60 65 [.fl a0]) = .val none (.fl (S65_0 D a0)) := by kernel_rfl
def sp65 : Ev.Spec := fun D l => argF l fun a0 r0 => arg0 r0 (.ret (.fl (S65_0 D a0)))
theorem en65 : ∀ l r, (sp65 R l).run = some r → Entry Try.prog 65 l r := by
  intro l r h
  obtain ⟨x0, _, h, L0⟩ := argF_inv h
  obtain ⟨h, L1⟩ := arg0_inv h
  cases h
  exact (entry_of prg tok_20 (ev65 R x0) (fun o ho => nomatch ho) rfl).le (L0 _ L1)
def tl_65 : List (Nat × Ev.Spec) := (65, sp65) :: tl_20
def tbl_65 (D : Dom) : Tbl D := tblOf tl_65 D
theorem tok_65 : TblOK Try.prog (tbl_65 R) := TblOK.cons tok_20 en65

-- penumbra/vec.Finite
def S66_0 (D : Dom) (a0 : D.F) (a1 : D.F) (a2 : D.F) : D.B := (D.bite (D.bite (S47_0 D a0) (S47_0 D a1) (D.bc false)) (S47_0 D a2) (D.bc false))
theorem ev66 (D : Dom) (a0 : D.F) (a1 : D.F) (a2 : D.F) : joinT (evFn Try.prog (tbl_65 D) 60 66 [.agg [.fl a0, .fl a1, .fl a2]]) = .val none (.sb (S66_0 D a0 a1 a2)) := by kernel_rfl
def sp66 : Ev.Spec := fun D l => argA l fun c0 r0 => argF c0 fun a0 r1 => argF r1 fun a1 r2 => argF r2 fun a2 r3 => arg0 r3 (arg0 r0 (.ret (.sb (S66_0 D a0 a1 a2))))
theorem en66 : ∀ l r, (sp66 R l).run = some r → Entry Try.prog 66 l r := by
  intro l r h
  obtain ⟨_, _, h, L0⟩ := argA_inv h
  obtain ⟨x1, _, h, L1⟩ := argF_inv h
  obtain ⟨x2, _, h, L2⟩ := argF_inv h
  obtain ⟨x3, _, h, L3⟩ := argF_inv h
  obtain ⟨h, L4⟩ := arg0_inv h
  obtain ⟨h, L5⟩ := arg0_inv h
  cases h
  exact (entry_of prg tok_65 (ev66 R x1 x2 x3) (fun o ho => nomatch ho) rfl).le (L0 _ _ (L1 _ (L2 _ (L3 _ L4))) L5)
def tl_66 : List (Nat × Ev.Spec) := (66, sp66) :: tl_65
def tbl_66 (D : Dom) : Tbl D := tblOf tl_66 D
theorem tok_66 : TblOK Try.prog (tbl_66 R) := TblOK.cons tok_65 en66

-- penumbra/warp.Angle
def S59_0 (D : Dom) (a0 : D.F) (a1 : D.F) : D.Z := (D.zite (D.bite (D.feq (D.fite (D.bnot (D.fge (S65_0 D a0) (S65_0 D a1))) (S65_0 D a1) (S65_0 D a0)) (D.fc 0)) (D.bc true) (D.bnot (S66_0 D (D.fite (D.bnot (D.fge (S65_0 D a0) (S65_0 D a1))) (S65_0 D a1) (S65_0 D a0)) (D.fite (D.bnot (D.fge (S65_0 D a0) (S65_0 D a1))) (S65_0 D a0) (S65_0 D a1)) (D.fc 0)))) (D.zite (D.bite (D.bite (D.fge a0 (D.fc 0)) (D.fge a1 (D.fc 0)) (D.bc false)) (D.fge (S65_0 D a0) (S65_0 D a1)) (D.bc false)) (D.zc 0) (D.zite (D.bite (D.bite (D.fge a0 (D.fc 0)) (D.fge a1 (D.fc 0)) (D.bc false)) (D.flt (S65_0 D a0) (S65_0 D a1)) (D.bc false)) (D.zc 1) (D.zite (D.bite (D.bite (D.flt a0 (D.fc 0)) (D.fge a1 (D.fc 0)) (D.bc false)) (D.flt (S65_0 D a0) (S65_0 D a1)) (D.bc false)) (D.zc 2) (D.zite (D.bite (D.bite (D.flt a0 (D.fc 0)) (D.fge a1 (D.fc 0)) (D.bc false)) (D.fge (S65_0 D a0) (S65_0 D a1)) (D.bc false)) (D.zc 3) (D.zite (D.bite (D.bite (D.flt a0 (D.fc 0)) (D.flt a1 (D.fc 0)) (D.bc false)) (D.fge (S65_0 D a0) (S65_0 D a1)) (D.bc false)) (D.zc 4) (D.zite (D.bite (D.bite (D.flt a0 (D.fc 0)) (D.flt a1 (D.fc 0)) (D.bc false)) (D.flt (S65_0 D a0) (S65_0 D a1)) (D.bc false)) (D.zc 5) (D.zite (D.bite (D.bite (D.fge a0 (D.fc 0)) (D.flt a1 (D.fc 0)) (D.bc false)) (D.flt (S65_0 D a0) (S65_0 D a1)) (D.bc false)) (D.zc 6) (D.zc 7)))))))) (D.zite (D.bite (D.bite (D.fge a0 (D.fc 0)) (D.fge a1 (D.fc 0)) (D.bc false)) (D.fge (S65_0 D a0) (S65_0 D a1)) (D.bc false)) (D.zc 0) (D.zite (D.bite (D.bite (D.fge a0 (D.fc 0)) (D.fge a1 (D.fc 0)) (D.bc false)) (D.flt (S65_0 D a0) (S65_0 D a1)) (D.bc false)) (D.zc 1) (D.zite (D.bite (D.bite (D.flt a0 (D.fc 0)) (D.fge a1 (D.fc 0)) (D.bc false)) (D.flt (S65_0 D a0) (S65_0 D a1)) (D.bc false)) (D.zc 2) (D.zite (D.bite (D.bite (D.flt a0 (D.fc 0)) (D.fge a1 (D.fc 0)) (D.bc false)) (D.fge (S65_0 D a0) (S65_0 D a1)) (D.bc false)) (D.zc 3) (D.zite (D.bite (D.bite (D.flt a0 (D.fc 0)) (D.flt a1 (D.fc 0)) (D.bc false)) (D.fge (S65_0 D a0) (S65_0 D a1)) (D.bc false)) (D.zc 4) (D.zite (D.bite (D.bite (D.flt a0 (D.fc 0)) (D.flt a1 (D.fc 0)) (D.bc false)) (D.flt (S65_0 D a0) (S65_0 D a1)) (D.bc false)) (D.zc 5) (D.zite (D.bite (D.bite (D.fge a0 (D.fc 0)) (D.flt a1 (D.fc 0)) (D.bc false)) (D.flt (S65_0 D a0) (S65_0 D a1)) (D.bc false)) (D.zc 6) (D.zc 7)))))))))
def S59_1 (D : Dom) (a0 : D.F) (a1 : D.F) : D.F := (D.fite (D.bite (D.feq (D.fite (D.bnot (D.fge (S65_0 D a0) (S65_0 D a1))) (S65_0 D a1) (S65_0 D a0)) (D.fc 0)) (D.bc true) (D.bnot (S66_0 D (D.fite (D.bnot (D.fge (S65_0 D a0) (S65_0 D a1))) (S65_0 D a1) (S65_0 D a0)) (D.fite (D.bnot (D.fge (S65_0 D a0) (S65_0 D a1))) (S65_0 D a0) (S65_0 D a1)) (D.fc 0)))) (D.fc 0) (D.fdiv (D.fite (D.bnot (D.fge (S65_0 D a0) (S65_0 D a1))) (S65_0 D a0) (S65_0 D a1)) (D.fite (D.bnot (D.fge (S65_0 D a0) (S65_0 D a1))) (S65_0 D a1) (S65_0 D a0))))
theorem ev59 (D : Dom) (a0 : D.F) (a1 : D.F) : joinT (evFn Try.prog (tbl_66 D) 60 59 [.fl a0, .fl a1]) = .val none (.tup [.si .i64 (S59_0 D a0 a1), .fl (S59_1 D a0 a1)]) := by kernel_rfl
def sp59 : Ev.Spec := fun D l => argF l fun a0 r0 => argF r0 fun a1 r1 => arg0 r1 (.ret (.tup [.si .i64 (S59_0 D a0 a1), .fl (S59_1 D a0 a1)]))
theorem en59 : ∀ l r, (sp59 R l).run = some r → Entry Try.prog 59 l r := by
  intro l r h
  obtain ⟨x0, _, h, L0⟩ := argF_inv h
  obtain ⟨x1, _, h, L1⟩ := argF_inv h
  obtain ⟨h, L2⟩ := arg0_inv h
  cases h
  exact (entry_of prg tok_66 (ev59 R x0 x1) (fun o ho => nomatch ho) rfl).le (L0 _ (L1 _ L2))
def tl_59 : List (Nat × Ev.Spec) := (59, sp59) :: tl_66
def tbl_59 (D : Dom) : Tbl D := tblOf tl_59 D
theorem tok_59 : TblOK Try.prog (tbl_59 R) := TblOK.cons tok_66 en59

-- penumbra/warp.Density
def S46_0 (D : Dom) (a0 : D.F) (a1 : D.F) : D.F := (D.fmul (D.fadd (D.fc 4607182418800017408) (D.fmul (S59_1 D a0 a1) (S59_1 D a0 a1))) (D.fc 4593671619917905920))
theorem ev46 (D : Dom) (a0 : D.F) (a1 : D.F) : joinT (evFn Try.prog (tbl_59 D) 60 46 [.fl a0, .fl a1]) = .val none (.fl (S46_0 D a0 a1)) := by kernel_rfl
def sp46 : Ev.Spec := fun D l => argF l fun a0 r0 => argF r0 fun a1 r1 => arg0 r1 (.ret (.fl (S46_0 D a0 a1)))
theorem en46 : ∀ l r, (sp46 R l).run = some r → Entry Try.prog 46 l r := by
  intro l r h
  obtain ⟨x0, _, h, L0⟩ := argF_inv h
  obtain ⟨x1, _, h, L1⟩ := argF_inv h
  obtain ⟨h, L2⟩ := arg0_inv h
  cases h
  exact (entry_of prg tok_59 (ev46 R x0 x1) (fun o ho => nomatch ho) rfl).le (L0 _ (L1 _ L2))
def tl_46 : List (Nat × Ev.Spec) := (46, sp46) :: tl_59
def tbl_46 (D : Dom) : Tbl D := tblOf tl_46 D
theorem tok_46 : TblOK Try.prog (tbl_46 R) := TblOK.cons tok_59 en46

-- penumbra/ggx.Density
def S22_0 (D : Dom) (a0 : D.F) (a1 : D.F) (a2 : D.F) (a3 : D.F) (a4 : D.F) (a5 : D.F) (a6 : D.F) : D.F := (D.fite (D.bite (D.bnot (S20_3 D a1 a2 a3 a4 a5 a6)) (D.bc true) (D.bnot (D.fgt (S33_0 D a1 a2 a3 (S20_0 D a1 a2 a3 a4 a5 a6) (S20_1 D a1 a2 a3 a4 a5 a6) (S20_2 D a1 a2 a3 a4 a5 a6)) (D.fc 0)))) (D.fc 0) (D.fite (D.bnot (S47_0 D (D.fdiv (D.fmul (D.fmul (S10_0 D a0 (S20_2 D a1 a2 a3 a4 a5 a6)) (S20_2 D a1 a2 a3 a4 a5 a6)) (D.fmul (D.fc 4618760256179416344) (S46_0 D (S20_0 D a1 a2 a3 a4 a5 a6) (S20_1 D a1 a2 a3 a4 a5 a6)))) (D.fmul (D.fc 4616189618054758400) (S33_0 D a1 a2 a3 (S20_0 D a1 a2 a3 a4 a5 a6) (S20_1 D a1 a2 a3 a4 a5 a6) (S20_2 D a1 a2 a3 a4 a5 a6)))))) (D.fc 0) (D.fdiv (D.fmul (D.fmul (S10_0 D a0 (S20_2 D a1 a2 a3 a4 a5 a6)) (S20_2 D a1 a2 a3 a4 a5 a6)) (D.fmul (D.fc 4618760256179416344) (S46_0 D (S20_0 D a1 a2 a3 a4 a5 a6) (S20_1 D a1 a2 a3 a4 a5 a6)))) (D.fmul (D.fc 4616189618054758400) (S33_0 D a1 a2 a3 (S20_0 D a1 a2 a3 a4 a5 a6) (S20_1 D a1 a2 a3 a4 a5 a6) (S20_2 D a1 a2 a3 a4 a5 a6))))))
theorem ev22 (D : Dom) (a0 : D.F) (a1 : D.F) (a2 : D.F) (a3 : D.F) (a4 : D.F) (a5 : D.F) (a6 : D.F) : joinT (evFn Try.prog (tbl_46 D) 60 22 [.fl a0, .agg [.fl a1, .fl a2, .fl a3], .agg [.fl a4, .fl a5, .fl a6]]) = .val none (.fl (S22_0 D a0 a1 a2 a3 a4 a5 a6)) := by kernel_rfl
def sp22 : Ev.Spec := fun D l => argF l fun a0 r0 => argA r0 fun c1 r1 => argF c1 fun a1 r2 => argF r2 fun a2 r3 => argF r3 fun a3 r4 => arg0 r4 (argA r1 fun c101 r101 => argF c101 fun a4 r102 => argF r102 fun a5 r103 => argF r103 fun a6 r104 => arg0 r104 (arg0 r101 (.ret (.fl (S22_0 D a0 a1 a2 a3 a4 a5 a6)))))
theorem en22 : ∀ l r, (sp22 R l).run = some r → Entry Try.prog 22 l r := by
  intro l r h
  obtain ⟨x0, _, h, L0⟩ := argF_inv h
  obtain ⟨_, _, h, L1⟩ := argA_inv h
  obtain ⟨x2, _, h, L2⟩ := argF_inv h
  obtain ⟨x3, _, h, L3⟩ := argF_inv h
  obtain ⟨x4, _, h, L4⟩ := argF_inv h
  obtain ⟨h, L5⟩ := arg0_inv h
  obtain ⟨_, _, h, L6⟩ := argA_inv h
  obtain ⟨x7, _, h, L7⟩ := argF_inv h
  obtain ⟨x8, _, h, L8⟩ := argF_inv h
  obtain ⟨x9, _, h, L9⟩ := argF_inv h
  obtain ⟨h, L10⟩ := arg0_inv h
  obtain ⟨h, L11⟩ := arg0_inv h
  cases h
  exact (entry_of prg tok_46 (ev22 R x0 x2 x3 x4 x7 x8 x9) (fun o ho => nomatch ho) rfl).le (L0 _ (L1 _ _ (L2 _ (L3 _ (L4 _ L5))) (L6 _ _ (L7 _ (L8 _ (L9 _ L10))) L11)))
def tl_22 : List (Nat × Ev.Spec) := (22, sp22) :: tl_46
def tbl_22 (D : Dom) : Tbl D := tblOf tl_22 D
theorem tok_22 : TblOK Try.prog (tbl_22 R) := TblOK.cons tok_46 en22

-- penumbra/penumbralaw15.awake
def S6_0 (D : Dom)  : D.B := (D.bite (D.bite (D.bite (D.bite (D.bite (D.bite (D.bite (D.fgt (S10_0 D (D.fc 4607182418800017408) (D.fc 4607182418800017408)) (D.fc 4599400198643921191)) (D.flt (S10_0 D (D.fc 4607182418800017408) (D.fc 4607182418800017408)) (D.fc 4599418213042430673)) (D.bc false)) (D.feq (S12_0 D (D.fc 4607182418800017408) (D.fc 4607182418800017408)) (D.fc 4607182418800017408)) (D.bc false)) (D.feq (S7_0 D (D.fc 4619567317775286272)) (D.fc 4607182418800017408)) (D.bc false)) (D.feq (S15_0 D (D.fc 4602678819172646912) (D.fc 0)) (D.fc 4607182418800017408)) (D.bc false)) (D.band (D.feq (S17_0 D (D.fc 4602678819172646912) (D.fc 0) (D.fc 0) (D.fc 4607182418800017408) (D.fc 0) (D.fc 0)) (D.fc 0)) (D.band (D.feq (S17_1 D (D.fc 4602678819172646912) (D.fc 0) (D.fc 0) (D.fc 4607182418800017408) (D.fc 0) (D.fc 0)) (D.fc 0)) (D.band (D.feq (S17_2 D (D.fc 4602678819172646912) (D.fc 0) (D.fc 0) (D.fc 4607182418800017408) (D.fc 0) (D.fc 0)) (D.fc 4607182418800017408)) (D.bc true)))) (D.bc false)) (S17_3 D (D.fc 4602678819172646912) (D.fc 0) (D.fc 0) (D.fc 4607182418800017408) (D.fc 0) (D.fc 0)) (D.bc false)) (D.fgt (S22_0 D (D.fc 4607182418800017408) (D.fc 0) (D.fc 0) (D.fc 4607182418800017408) (D.fc 0) (D.fc 0) (D.fc 4607182418800017408)) (D.fc 0)) (D.bc false))
def O6 (D : Dom)  : D.B := (O17 D (D.fc 0))
theorem ev6 (D : Dom)  : joinT (evFn Try.prog (tbl_22 D) 60 6 []) = .val (some (O6 D)) (.sb (S6_0 D)) := by kernel_rfl
def sp6 : Ev.Spec := fun D l => arg0 l (.node (O6 D) (.ret (.sb (S6_0 D))) (.fail "pre"))
theorem en6 : ∀ l r, (sp6 R l).run = some r → Entry Try.prog 6 l r := by
  intro l r h
  obtain ⟨h, L0⟩ := arg0_inv h
  obtain ⟨hok, rfl⟩ := run_okay h
  exact (entry_of prg tok_22 (ev6 R ) (fun o ho => (Option.some.inj ho) ▸ hok) rfl).le L0
def tl_6 : List (Nat × Ev.Spec) := (6, sp6) :: tl_22
def tbl_6 (D : Dom) : Tbl D := tblOf tl_6 D
theorem tok_6 : TblOK Try.prog (tbl_6 R) := TblOK.cons tok_22 en6

-- penumbra/penumbraref15.Rough
def S8_0 (D : Dom) (a0 : D.F) : D.F := (D.fite (D.flt a0 (D.fc 4562146422526312448)) (D.fc 4562146422526312448) (D.fite (D.bite (D.fgt a0 (D.fc 4607182418800017408)) (D.bc true) (D.bnot (D.feq a0 a0))) (D.fc 4607182418800017408) a0))
theorem ev8 (D : Dom) (a0 : D.F) : joinT (evFn Try.prog (tbl_6 D) 60 8 [.fl a0]) = .val none (.fl (S8_0 D a0)) := by kernel_rfl
def sp8 : Ev.Spec := fun D l => argF l fun a0 r0 => arg0 r0 (.ret (.fl (S8_0 D a0)))
theorem en8 : ∀ l r, (sp8 R l).run = some r → Entry Try.prog 8 l r := by
  intro l r h
  obtain ⟨x0, _, h, L0⟩ := argF_inv h
  obtain ⟨h, L1⟩ := arg0_inv h
  cases h
  exact (entry_of prg tok_6 (ev8 R x0) (fun o ho => nomatch ho) rfl).le (L0 _ L1)
def tl_8 : List (Nat × Ev.Spec) := (8, sp8) :: tl_6
def tbl_8 (D : Dom) : Tbl D := tblOf tl_8 D
theorem tok_8 : TblOK Try.prog (tbl_8 R) := TblOK.cons tok_6 en8

-- penumbra/penumbraref15.Normals
def S11_0 (D : Dom) (a0 : D.F) (a1 : D.F) : D.F := (D.fite (D.fgt a1 (D.fc 0)) (D.fdiv (D.fmul (S8_0 D a0) (S8_0 D a0)) (D.fmul (D.fc 4614256656552045848) (D.fmul (D.fadd (D.fmul (D.fsub (D.fmul (S8_0 D a0) (S8_0 D a0)) (D.fc 4607182418800017408)) (D.fmul a1 a1)) (D.fc 4607182418800017408)) (D.fadd (D.fmul (D.fsub (D.fmul (S8_0 D a0) (S8_0 D a0)) (D.fc 4607182418800017408)) (D.fmul a1 a1)) (D.fc 4607182418800017408))))) (D.fc 0))
theorem ev11 (D : Dom) (a0 : D.F) (a1 : D.F) : joinT (evFn Try.prog (tbl_8 D) 60 11 [.fl a0, .fl a1]) = .val none (.fl (S11_0 D a0 a1)) := by kernel_rfl
def sp11 : Ev.Spec := fun D l => argF l fun a0 r0 => argF r0 fun a1 r1 => arg0 r1 (.ret (.fl (S11_0 D a0 a1)))
theorem en11 : ∀ l r, (sp11 R l).run = some r → Entry Try.prog 11 l r := by
  intro l r h
  obtain ⟨x0, _, h, L0⟩ := argF_inv h
  obtain ⟨x1, _, h, L1⟩ := argF_inv h
  obtain ⟨h, L2⟩ := arg0_inv h
  cases h
  exact (entry_of prg tok_8 (ev11 R x0 x1) (fun o ho => nomatch ho) rfl).le (L0 _ (L1 _ L2))
def tl_11 : List (Nat × Ev.Spec) := (11, sp11) :: tl_8
def tbl_11 (D : Dom) : Tbl D := tblOf tl_11 D
theorem tok_11 : TblOK Try.prog (tbl_11 R) := TblOK.cons tok_8 en11

-- penumbra/penumbraref02.Same
def S9_0 (D : Dom) (a0 : D.F) (a1 : D.F) : D.B := (D.bite (D.feq a0 a1) (D.bc true) (D.bite (D.bnot (D.feq a0 a0)) (D.bnot (D.feq a1 a1)) (D.bc false)))
theorem ev9 (D : Dom) (a0 : D.F) (a1 : D.F) : joinT (evFn Try.prog (tbl_11 D) 60 9 [.fl a0, .fl a1]) = .val none (.sb (S9_0 D a0 a1)) := by kernel_rfl
def sp9 : Ev.Spec := fun D l => argF l fun a0 r0 => argF r0 fun a1 r1 => arg0 r1 (.ret (.sb (S9_0 D a0 a1)))
theorem en9 : ∀ l r, (sp9 R l).run = some r → Entry Try.prog 9 l r := by
  intro l r h
  obtain ⟨x0, _, h, L0⟩ := argF_inv h
  obtain ⟨x1, _, h, L1⟩ := argF_inv h
  obtain ⟨h, L2⟩ := arg0_inv h
  cases h
  exact (entry_of prg tok_11 (ev9 R x0 x1) (fun o ho => nomatch ho) rfl).le (L0 _ (L1 _ L2))
def tl_9 : List (Nat × Ev.Spec) := (9, sp9) :: tl_11
def tbl_9 (D : Dom) : Tbl D := tblOf tl_9 D
theorem tok_9 : TblOK Try.prog (tbl_9 R) := TblOK.cons tok_11 en9

-- penumbra/penumbraref15.Shadow
def S13_0 (D : Dom) (a0 : D.F) (a1 : D.F) : D.F := (D.fite (D.fgt a1 (D.fc 0)) (D.fdiv (D.fmul (D.fc 4611686018427387904) a1) (D.fadd a1 (S28_0 D (D.fadd (D.fmul (S8_0 D a0) (S8_0 D a0)) (D.fmul (D.fsub (D.fc 4607182418800017408) (D.fmul (S8_0 D a0) (S8_0 D a0))) (D.fmul a1 a1)))))) (D.fc 0))
theorem ev13 (D : Dom) (a0 : D.F) (a1 : D.F) : joinT (evFn Try.prog (tbl_9 D) 60 13 [.fl a0, .fl a1]) = .val none (.fl (S13_0 D a0 a1)) := by kernel_rfl
def sp13 : Ev.Spec := fun D l => argF l fun a0 r0 => argF r0 fun a1 r1 => arg0 r1 (.ret (.fl (S13_0 D a0 a1)))
theorem en13 : ∀ l r, (sp13 R l).run = some r → Entry Try.prog 13 l r := by
  intro l r h
  obtain ⟨x0, _, h, L0⟩ := argF_inv h
  obtain ⟨x1, _, h, L1⟩ := argF_inv h
  obtain ⟨h, L2⟩ := arg0_inv h
  cases h
  exact (entry_of prg tok_9 (ev13 R x0 x1) (fun o ho => nomatch ho) rfl).le (L0 _ (L1 _ L2))
def tl_13 : List (Nat × Ev.Spec) := (13, sp13) :: tl_9
def tbl_13 (D : Dom) : Tbl D := tblOf tl_13 D
theorem tok_13 : TblOK Try.prog (tbl_13 R) := TblOK.cons tok_9 en13

-- penumbra/penumbraref15.one
def S30_0 (D : Dom) (a0 : D.F) (a1 : D.F) : D.F := (D.fadd a0 (D.fmul (D.fsub (D.fc 4607182418800017408) a0) a1))
theorem ev30 (D : Dom) (a0 : D.F) (a1 : D.F) : joinT (evFn Try.prog (tbl_13 D) 60 30 [.fl a0, .fl a1]) = .val none (.fl (S30_0 D a0 a1)) := by kernel_rfl
def sp30 : Ev.Spec := fun D l => argF l fun a0 r0 => argF r0 fun a1 r1 => arg0 r1 (.ret (.fl (S30_0 D a0 a1)))
theorem en30 : ∀ l r, (sp30 R l).run = some r → Entry Try.prog 30 l r := by
  intro l r h
  obtain ⟨x0, _, h, L0⟩ := argF_inv h
  obtain ⟨x1, _, h, L1⟩ := argF_inv h
  obtain ⟨h, L2⟩ := arg0_inv h
  cases h
  exact (entry_of prg tok_13 (ev30 R x0 x1) (fun o ho => nomatch ho) rfl).le (L0 _ (L1 _ L2))
def tl_30 : List (Nat × Ev.Spec) := (30, sp30) :: tl_13
def tbl_30 (D : Dom) : Tbl D := tblOf tl_30 D
theorem tok_30 : TblOK Try.prog (tbl_30 R) := TblOK.cons tok_13 en30

-- penumbra/penumbraref15.Fresnel
def S16_0 (D : Dom) (a0 : D.F) (a3 : D.F) : D.F := (S30_0 D a0 (D.fmul (D.fmul (D.fmul (D.fsub (D.fc 4607182418800017408) (D.fite (D.bite (D.fgt a3 (D.fc 4607182418800017408)) (D.bc true) (D.bnot (D.feq a3 a3))) (D.fc 4607182418800017408) (D.fite (D.flt a3 (D.fc 0)) (D.fc 0) a3))) (D.fsub (D.fc 4607182418800017408) (D.fite (D.bite (D.fgt a3 (D.fc 4607182418800017408)) (D.bc true) (D.bnot (D.feq a3 a3))) (D.fc 4607182418800017408) (D.fite (D.flt a3 (D.fc 0)) (D.fc 0) a3)))) (D.fmul (D.fsub (D.fc 4607182418800017408) (D.fite (D.bite (D.fgt a3 (D.fc 4607182418800017408)) (D.bc true) (D.bnot (D.feq a3 a3))) (D.fc 4607182418800017408) (D.fite (D.flt a3 (D.fc 0)) (D.fc 0) a3))) (D.fsub (D.fc 4607182418800017408) (D.fite (D.bite (D.fgt a3 (D.fc 4607182418800017408)) (D.bc true) (D.bnot (D.feq a3 a3))) (D.fc 4607182418800017408) (D.fite (D.flt a3 (D.fc 0)) (D.fc 0) a3))))) (D.fsub (D.fc 4607182418800017408) (D.fite (D.bite (D.fgt a3 (D.fc 4607182418800017408)) (D.bc true) (D.bnot (D.feq a3 a3))) (D.fc 4607182418800017408) (D.fite (D.flt a3 (D.fc 0)) (D.fc 0) a3)))))
def S16_1 (D : Dom) (a1 : D.F) (a3 : D.F) : D.F := (S30_0 D a1 (D.fmul (D.fmul (D.fmul (D.fsub (D.fc 4607182418800017408) (D.fite (D.bite (D.fgt a3 (D.fc 4607182418800017408)) (D.bc true) (D.bnot (D.feq a3 a3))) (D.fc 4607182418800017408) (D.fite (D.flt a3 (D.fc 0)) (D.fc 0) a3))) (D.fsub (D.fc 4607182418800017408) (D.fite (D.bite (D.fgt a3 (D.fc 4607182418800017408)) (D.bc true) (D.bnot (D.feq a3 a3))) (D.fc 4607182418800017408) (D.fite (D.flt a3 (D.fc 0)) (D.fc 0) a3)))) (D.fmul (D.fsub (D.fc 4607182418800017408) (D.fite (D.bite (D.fgt a3 (D.fc 4607182418800017408)) (D.bc true) (D.bnot (D.feq a3 a3))) (D.fc 4607182418800017408) (D.fite (D.flt a3 (D.fc 0)) (D.fc 0) a3))) (D.fsub (D.fc 4607182418800017408) (D.fite (D.bite (D.fgt a3 (D.fc 4607182418800017408)) (D.bc true) (D.bnot (D.feq a3 a3))) (D.fc 4607182418800017408) (D.fite (D.flt a3 (D.fc 0)) (D.fc 0) a3))))) (D.fsub (D.fc 4607182418800017408) (D.fite (D.bite (D.fgt a3 (D.fc 4607182418800017408)) (D.bc true) (D.bnot (D.feq a3 a3))) (D.fc 4607182418800017408) (D.fite (D.flt a3 (D.fc 0)) (D.fc 0) a3)))))
def S16_2 (D : Dom) (a2 : D.F) (a3 : D.F) : D.F := (S30_0 D a2 (D.fmul (D.fmul (D.fmul (D.fsub (D.fc 4607182418800017408) (D.fite (D.bite (D.fgt a3 (D.fc 4607182418800017408)) (D.bc true) (D.bnot (D.feq a3 a3))) (D.fc 4607182418800017408) (D.fite (D.flt a3 (D.fc 0)) (D.fc 0) a3))) (D.fsub (D.fc 4607182418800017408) (D.fite (D.bite (D.fgt a3 (D.fc 4607182418800017408)) (D.bc true) (D.bnot (D.feq a3 a3))) (D.fc 4607182418800017408) (D.fite (D.flt a3 (D.fc 0)) (D.fc 0) a3)))) (D.fmul (D.fsub (D.fc 4607182418800017408) (D.fite (D.bite (D.fgt a3 (D.fc 4607182418800017408)) (D.bc true) (D.bnot (D.feq a3 a3))) (D.fc 4607182418800017408) (D.fite (D.flt a3 (D.fc 0)) (D.fc 0) a3))) (D.fsub (D.fc 4607182418800017408) (D.fite (D.bite (D.fgt a3 (D.fc 4607182418800017408)) (D.bc true) (D.bnot (D.feq a3 a3))) (D.fc 4607182418800017408) (D.fite (D.flt a3 (D.fc 0)) (D.fc 0) a3))))) (D.fsub (D.fc 4607182418800017408) (D.fite (D.bite (D.fgt a3 (D.fc 4607182418800017408)) (D.bc true) (D.bnot (D.feq a3 a3))) (D.fc 4607182418800017408) (D.fite (D.flt a3 (D.fc 0)) (D.fc 0) a3)))))
theorem ev16 (D : Dom) (a0 : D.F) (a1 : D.F) (a2 : D.F) (a3 : D.F) : joinT (evFn Try.prog (tbl_30 D) 60 16 [.agg [.fl a0, .fl a1, .fl a2], .fl a3]) = .val none (.agg [.fl (S16_0 D a0 a3), .fl (S16_1 D a1 a3), .fl (S16_2 D a2 a3)]) := by kernel_rfl
def sp16 : Ev.Spec := fun D l => argA l fun c0 r0 => argF c0 fun a0 r1 => argF r1 fun a1 r2 => argF r2 fun a2 r3 => arg0 r3 (argF r0 fun a3 r100 => arg0 r100 (.ret (.agg [.fl (S16_0 D a0 a3), .fl (S16_1 D a1 a3), .fl (S16_2 D a2 a3)])))
theorem en16 : ∀ l r, (sp16 R l).run = some r → Entry Try.prog 16 l r := by
  intro l r h
  obtain ⟨_, _, h, L0⟩ := argA_inv h
  obtain ⟨x1, _, h, L1⟩ := argF_inv h
  obtain ⟨x2, _, h, L2⟩ := argF_inv h
  obtain ⟨x3, _, h, L3⟩ := argF_inv h
  obtain ⟨h, L4⟩ := arg0_inv h
  obtain ⟨x5, _, h, L5⟩ := argF_inv h
  obtain ⟨h, L6⟩ := arg0_inv h
  cases h
  exact (entry_of prg tok_30 (ev16 R x1 x2 x3 x5) (fun o ho => nomatch ho) rfl).le (L0 _ _ (L1 _ (L2 _ (L3 _ L4))) (L5 _ L6))
def tl_16 : List (Nat × Ev.Spec) := (16, sp16) :: tl_30
def tbl_16 (D : Dom) : Tbl D := tblOf tl_16 D
theorem tok_16 : TblOK Try.prog (tbl_16 R) := TblOK.cons tok_30 en16

-- penumbra/penumbraref05.Is
def S14_0 (D : Dom) (a0 : D.F) (a1 : D.F) (a2 : D.F) (a3 : D.F) (a4 : D.F) (a5 : D.F) : D.B := (D.bite (D.bite (S9_0 D a0 a3) (S9_0 D a1 a4) (D.bc false)) (S9_0 D a2 a5) (D.bc false))
theorem ev14 (D : Dom) (a0 : D.F) (a1 : D.F) (a2 : D.F) (a3 : D.F) (a4 : D.F) (a5 : D.F) : joinT (evFn Try.prog (tbl_16 D) 60 14 [.agg [.fl a0, .fl a1, .fl a2], .agg [.fl a3, .fl a4, .fl a5]]) = .val none (.sb (S14_0 D a0 a1 a2 a3 a4 a5)) := by kernel_rfl
def sp14 : Ev.Spec := fun D l => argA l fun c0 r0 => argF c0 fun a0 r1 => argF r1 fun a1 r2 => argF r2 fun a2 r3 => arg0 r3 (argA r0 fun c100 r100 => argF c100 fun a3 r101 => argF r101 fun a4 r102 => argF r102 fun a5 r103 => arg0 r103 (arg0 r100 (.ret (.sb (S14_0 D a0 a1 a2 a3 a4 a5)))))
theorem en14 : ∀ l r, (sp14 R l).run = some r → Entry Try.prog 14 l r := by
  intro l r h
  obtain ⟨_, _, h, L0⟩ := argA_inv h
  obtain ⟨x1, _, h, L1⟩ := argF_inv h
  obtain ⟨x2, _, h, L2⟩ := argF_inv h
  obtain ⟨x3, _, h, L3⟩ := argF_inv h
  obtain ⟨h, L4⟩ := arg0_inv h
  obtain ⟨_, _, h, L5⟩ := argA_inv h
  obtain ⟨x6, _, h, L6⟩ := argF_inv h
  obtain ⟨x7, _, h, L7⟩ := argF_inv h
  obtain ⟨x8, _, h, L8⟩ := argF_inv h
  obtain ⟨h, L9⟩ := arg0_inv h
  obtain ⟨h, L10⟩ := arg0_inv h
  cases h
  exact (entry_of prg tok_16 (ev14 R x1 x2 x3 x6 x7 x8) (fun o ho => nomatch ho) rfl).le (L0 _ _ (L1 _ (L2 _ (L3 _ L4))) (L5 _ _ (L6 _ (L7 _ (L8 _ L9))) L10))
def tl_14 : List (Nat × Ev.Spec) := (14, sp14) :: tl_16
def tbl_14 (D : Dom) : Tbl D := tblOf tl_14 D
theorem tok_14 : TblOK Try.prog (tbl_14 R) := TblOK.cons tok_16 en14

-- penumbra/penumbralaw15.GgxTells
def S3_0 (D : Dom) (a0 : D.F) (a1 : D.F) (a2 : D.F) (a3 : D.F) (a4 : D.F) : D.B := (D.bite (S6_0 D) (D.bite (D.feq (S7_0 D a0) (S8_0 D a0)) (D.bite (S9_0 D (S10_0 D a0 a1) (S11_0 D a0 a1)) (D.bite (S9_0 D (S12_0 D a0 a1) (S13_0 D a0 a1)) (S14_0 D (S15_0 D a2 a1) (S15_1 D a3 a1) (S15_2 D a4 a1) (S16_0 D a2 a1) (S16_1 D a3 a1) (S16_2 D a4 a1)) (D.bc false)) (D.bc false)) (D.bc false)) (D.bc false))
def O3 (D : Dom)  : D.B := (O6 D)
theorem ev3 (D : Dom) (a0 : D.F) (a1 : D.F) (a2 : D.F) (a3 : D.F) (a4 : D.F) : joinT (evFn Try.prog (tbl_14 D) 60 3 [.fl a0, .fl a1, .agg [.fl a2, .fl a3, .fl a4]]) = .val (some (O3 D)) (.sb (S3_0 D a0 a1 a2 a3 a4)) := by kernel_rfl
def sp3 : Ev.Spec := fun D l => argF l fun a0 r0 => argF r0 fun a1 r1 => argA r1 fun c2 r2 => argF c2 fun a2 r3 => argF r3 fun a3 r4 => argF r4 fun a4 r5 => arg0 r5 (arg0 r2 (.node (O3 D) (.ret (.sb (S3_0 D a0 a1 a2 a3 a4))) (.fail "pre")))
theorem en3 : ∀ l r, (sp3 R l).run = some r → Entry Try.prog 3 l r := by
  intro l r h
  obtain ⟨x0, _, h, L0⟩ := argF_inv h
  obtain ⟨x1, _, h, L1⟩ := argF_inv h
  obtain ⟨_, _, h, L2⟩ := argA_inv h
  obtain ⟨x3, _, h, L3⟩ := argF_inv h
  obtain ⟨x4, _, h, L4⟩ := argF_inv h
  obtain ⟨x5, _, h, L5⟩ := argF_inv h
  obtain ⟨h, L6⟩ := arg0_inv h
  obtain ⟨h, L7⟩ := arg0_inv h
  obtain ⟨hok, rfl⟩ := run_okay h
  exact (entry_of prg tok_14 (ev3 R x0 x1 x3 x4 x5) (fun o ho => (Option.some.inj ho) ▸ hok) rfl).le (L0 _ (L1 _ (L2 _ _ (L3 _ (L4 _ (L5 _ L6))) L7)))
def tl_3 : List (Nat × Ev.Spec) := (3, sp3) :: tl_14
def tbl_3 (D : Dom) : Tbl D := tblOf tl_3 D
theorem tok_3 : TblOK Try.prog (tbl_3 R) := TblOK.cons tok_14 en3

-- penumbra/penumbraref06.Clean
def S37_0 (D : Dom) (a0 : D.F) : D.F := (D.fite (D.bite (D.bite (D.flt a0 (D.fc 0)) (D.bc true) (D.fge a0 (D.fc 4607182418800017408))) (D.bc true) (D.bnot (D.feq a0 a0))) (D.fc 0) a0)
theorem ev37 (D : Dom) (a0 : D.F) : joinT (evFn Try.prog (tbl_3 D) 60 37 [.fl a0]) = .val none (.fl (S37_0 D a0)) := by kernel_rfl
def sp37 : Ev.Spec := fun D l => argF l fun a0 r0 => arg0 r0 (.ret (.fl (S37_0 D a0)))
theorem en37 : ∀ l r, (sp37 R l).run = some r → Entry Try.prog 37 l r := by
  intro l r h
  obtain ⟨x0, _, h, L0⟩ := argF_inv h
  obtain ⟨h, L1⟩ := arg0_inv h
  cases h
  exact (entry_of prg tok_3 (ev37 R x0) (fun o ho => nomatch ho) rfl).le (L0 _ L1)
def tl_37 : List (Nat × Ev.Spec) := (37, sp37) :: tl_3
def tbl_37 (D : Dom) : Tbl D := tblOf tl_37 D
theorem tok_37 : TblOK Try.prog (tbl_37 R) := TblOK.cons tok_3 en37

-- penumbra/penumbraref09.Sector
def S38_0 (D : Dom) (a0 : D.F) : D.F := (D.fite (D.bite (D.zle (D.zc 2) (D.zite (D.fle (D.i2f (D.zc 1)) (D.fmul (D.fc 4620693217682128896) (S37_0 D a0))) (D.zite (D.fle (D.i2f (D.zc 2)) (D.fmul (D.fc 4620693217682128896) (S37_0 D a0))) (D.zite (D.fle (D.i2f (D.zc 3)) (D.fmul (D.fc 4620693217682128896) (S37_0 D a0))) (D.zite (D.fle (D.i2f (D.zc 4)) (D.fmul (D.fc 4620693217682128896) (S37_0 D a0))) (D.zite (D.fle (D.i2f (D.zc 5)) (D.fmul (D.fc 4620693217682128896) (S37_0 D a0))) (D.zite (D.fle (D.i2f (D.zc 6)) (D.fmul (D.fc 4620693217682128896) (S37_0 D a0))) (D.zite (D.fle (D.i2f (D.zc 7)) (D.fmul (D.fc 4620693217682128896) (S37_0 D a0))) (D.zc 7) (D.zc 6)) (D.zc 5)) (D.zc 4)) (D.zc 3)) (D.zc 2)) (D.zc 1)) (D.zc 0))) (D.zle (D.zite (D.fle (D.i2f (D.zc 1)) (D.fmul (D.fc 4620693217682128896) (S37_0 D a0))) (D.zite (D.fle (D.i2f (D.zc 2)) (D.fmul (D.fc 4620693217682128896) (S37_0 D a0))) (D.zite (D.fle (D.i2f (D.zc 3)) (D.fmul (D.fc 4620693217682128896) (S37_0 D a0))) (D.zite (D.fle (D.i2f (D.zc 4)) (D.fmul (D.fc 4620693217682128896) (S37_0 D a0))) (D.zite (D.fle (D.i2f (D.zc 5)) (D.fmul (D.fc 4620693217682128896) (S37_0 D a0))) (D.zite (D.fle (D.i2f (D.zc 6)) (D.fmul (D.fc 4620693217682128896) (S37_0 D a0))) (D.zite (D.fle (D.i2f (D.zc 7)) (D.fmul (D.fc 4620693217682128896) (S37_0 D a0))) (D.zc 7) (D.zc 6)) (D.zc 5)) (D.zc 4)) (D.zc 3)) (D.zc 2)) (D.zc 1)) (D.zc 0)) (D.zc 5)) (D.bc false)) (D.fsub (D.fc 0) (D.fite (D.bite (D.bite (D.bite (D.zeq (D.zite (D.fle (D.i2f (D.zc 1)) (D.fmul (D.fc 4620693217682128896) (S37_0 D a0))) (D.zite (D.fle (D.i2f (D.zc 2)) (D.fmul (D.fc 4620693217682128896) (S37_0 D a0))) (D.zite (D.fle (D.i2f (D.zc 3)) (D.fmul (D.fc 4620693217682128896) (S37_0 D a0))) (D.zite (D.fle (D.i2f (D.zc 4)) (D.fmul (D.fc 4620693217682128896) (S37_0 D a0))) (D.zite (D.fle (D.i2f (D.zc 5)) (D.fmul (D.fc 4620693217682128896) (S37_0 D a0))) (D.zite (D.fle (D.i2f (D.zc 6)) (D.fmul (D.fc 4620693217682128896) (S37_0 D a0))) (D.zite (D.fle (D.i2f (D.zc 7)) (D.fmul (D.fc 4620693217682128896) (S37_0 D a0))) (D.zc 7) (D.zc 6)) (D.zc 5)) (D.zc 4)) (D.zc 3)) (D.zc 2)) (D.zc 1)) (D.zc 0)) (D.zc 1)) (D.bc true) (D.zeq (D.zite (D.fle (D.i2f (D.zc 1)) (D.fmul (D.fc 4620693217682128896) (S37_0 D a0))) (D.zite (D.fle (D.i2f (D.zc 2)) (D.fmul (D.fc 4620693217682128896) (S37_0 D a0))) (D.zite (D.fle (D.i2f (D.zc 3)) (D.fmul (D.fc 4620693217682128896) (S37_0 D a0))) (D.zite (D.fle (D.i2f (D.zc 4)) (D.fmul (D.fc 4620693217682128896) (S37_0 D a0))) (D.zite (D.fle (D.i2f (D.zc 5)) (D.fmul (D.fc 4620693217682128896) (S37_0 D a0))) (D.zite (D.fle (D.i2f (D.zc 6)) (D.fmul (D.fc 4620693217682128896) (S37_0 D a0))) (D.zite (D.fle (D.i2f (D.zc 7)) (D.fmul (D.fc 4620693217682128896) (S37_0 D a0))) (D.zc 7) (D.zc 6)) (D.zc 5)) (D.zc 4)) (D.zc 3)) (D.zc 2)) (D.zc 1)) (D.zc 0)) (D.zc 2))) (D.bc true) (D.zeq (D.zite (D.fle (D.i2f (D.zc 1)) (D.fmul (D.fc 4620693217682128896) (S37_0 D a0))) (D.zite (D.fle (D.i2f (D.zc 2)) (D.fmul (D.fc 4620693217682128896) (S37_0 D a0))) (D.zite (D.fle (D.i2f (D.zc 3)) (D.fmul (D.fc 4620693217682128896) (S37_0 D a0))) (D.zite (D.fle (D.i2f (D.zc 4)) (D.fmul (D.fc 4620693217682128896) (S37_0 D a0))) (D.zite (D.fle (D.i2f (D.zc 5)) (D.fmul (D.fc 4620693217682128896) (S37_0 D a0))) (D.zite (D.fle (D.i2f (D.zc 6)) (D.fmul (D.fc 4620693217682128896) (S37_0 D a0))) (D.zite (D.fle (D.i2f (D.zc 7)) (D.fmul (D.fc 4620693217682128896) (S37_0 D a0))) (D.zc 7) (D.zc 6)) (D.zc 5)) (D.zc 4)) (D.zc 3)) (D.zc 2)) (D.zc 1)) (D.zc 0)) (D.zc 5))) (D.bc true) (D.zeq (D.zite (D.fle (D.i2f (D.zc 1)) (D.fmul (D.fc 4620693217682128896) (S37_0 D a0))) (D.zite (D.fle (D.i2f (D.zc 2)) (D.fmul (D.fc 4620693217682128896) (S37_0 D a0))) (D.zite (D.fle (D.i2f (D.zc 3)) (D.fmul (D.fc 4620693217682128896) (S37_0 D a0))) (D.zite (D.fle (D.i2f (D.zc 4)) (D.fmul (D.fc 4620693217682128896) (S37_0 D a0))) (D.zite (D.fle (D.i2f (D.zc 5)) (D.fmul (D.fc 4620693217682128896) (S37_0 D a0))) (D.zite (D.fle (D.i2f (D.zc 6)) (D.fmul (D.fc 4620693217682128896) (S37_0 D a0))) (D.zite (D.fle (D.i2f (D.zc 7)) (D.fmul (D.fc 4620693217682128896) (S37_0 D a0))) (D.zc 7) (D.zc 6)) (D.zc 5)) (D.zc 4)) (D.zc 3)) (D.zc 2)) (D.zc 1)) (D.zc 0)) (D.zc 6))) (D.fdiv (D.fsub (D.fmul (D.fc 4620693217682128896) (S37_0 D a0)) (D.i2f (D.zite (D.fle (D.i2f (D.zc 1)) (D.fmul (D.fc 4620693217682128896) (S37_0 D a0))) (D.zite (D.fle (D.i2f (D.zc 2)) (D.fmul (D.fc 4620693217682128896) (S37_0 D a0))) (D.zite (D.fle (D.i2f (D.zc 3)) (D.fmul (D.fc 4620693217682128896) (S37_0 D a0))) (D.zite (D.fle (D.i2f (D.zc 4)) (D.fmul (D.fc 4620693217682128896) (S37_0 D a0))) (D.zite (D.fle (D.i2f (D.zc 5)) (D.fmul (D.fc 4620693217682128896) (S37_0 D a0))) (D.zite (D.fle (D.i2f (D.zc 6)) (D.fmul (D.fc 4620693217682128896) (S37_0 D a0))) (D.zite (D.fle (D.i2f (D.zc 7)) (D.fmul (D.fc 4620693217682128896) (S37_0 D a0))) (D.zc 7) (D.zc 6)) (D.zc 5)) (D.zc 4)) (D.zc 3)) (D.zc 2)) (D.zc 1)) (D.zc 0)))) (S28_0 D (D.fadd (D.fc 4607182418800017408) (D.fmul (D.fsub (D.fmul (D.fc 4620693217682128896) (S37_0 D a0)) (D.i2f (D.zite (D.fle (D.i2f (D.zc 1)) (D.fmul (D.fc 4620693217682128896) (S37_0 D a0))) (D.zite (D.fle (D.i2f (D.zc 2)) (D.fmul (D.fc 4620693217682128896) (S37_0 D a0))) (D.zite (D.fle (D.i2f (D.zc 3)) (D.fmul (D.fc 4620693217682128896) (S37_0 D a0))) (D.zite (D.fle (D.i2f (D.zc 4)) (D.fmul (D.fc 4620693217682128896) (S37_0 D a0))) (D.zite (D.fle (D.i2f (D.zc 5)) (D.fmul (D.fc 4620693217682128896) (S37_0 D a0))) (D.zite (D.fle (D.i2f (D.zc 6)) (D.fmul (D.fc 4620693217682128896) (S37_0 D a0))) (D.zite (D.fle (D.i2f (D.zc 7)) (D.fmul (D.fc 4620693217682128896) (S37_0 D a0))) (D.zc 7) (D.zc 6)) (D.zc 5)) (D.zc 4)) (D.zc 3)) (D.zc 2)) (D.zc 1)) (D.zc 0)))) (D.fsub (D.fmul (D.fc 4620693217682128896) (S37_0 D a0)) (D.i2f (D.zite (D.fle (D.i2f (D.zc 1)) (D.fmul (D.fc 4620693217682128896) (S37_0 D a0))) (D.zite (D.fle (D.i2f (D.zc 2)) (D.fmul (D.fc 4620693217682128896) (S37_0 D a0))) (D.zite (D.fle (D.i2f (D.zc 3)) (D.fmul (D.fc 4620693217682128896) (S37_0 D a0))) (D.zite (D.fle (D.i2f (D.zc 4)) (D.fmul (D.fc 4620693217682128896) (S37_0 D a0))) (D.zite (D.fle (D.i2f (D.zc 5)) (D.fmul (D.fc 4620693217682128896) (S37_0 D a0))) (D.zite (D.fle (D.i2f (D.zc 6)) (D.fmul (D.fc 4620693217682128896) (S37_0 D a0))) (D.zite (D.fle (D.i2f (D.zc 7)) (D.fmul (D.fc 4620693217682128896) (S37_0 D a0))) (D.zc 7) (D.zc 6)) (D.zc 5)) (D.zc 4)) (D.zc 3)) (D.zc 2)) (D.zc 1)) (D.zc 0)))))))) (D.fdiv (D.fc 4607182418800017408) (S28_0 D (D.fadd (D.fc 4607182418800017408) (D.fmul (D.fsub (D.fmul (D.fc 4620693217682128896) (S37_0 D a0)) (D.i2f (D.zite (D.fle (D.i2f (D.zc 1)) (D.fmul (D.fc 4620693217682128896) (S37_0 D a0))) (D.zite (D.fle (D.i2f (D.zc 2)) (D.fmul (D.fc 4620693217682128896) (S37_0 D a0))) (D.zite (D.fle (D.i2f (D.zc 3)) (D.fmul (D.fc 4620693217682128896) (S37_0 D a0))) (D.zite (D.fle (D.i2f (D.zc 4)) (D.fmul (D.fc 4620693217682128896) (S37_0 D a0))) (D.zite (D.fle (D.i2f (D.zc 5)) (D.fmul (D.fc 4620693217682128896) (S37_0 D a0))) (D.zite (D.fle (D.i2f (D.zc 6)) (D.fmul (D.fc 4620693217682128896) (S37_0 D a0))) (D.zite (D.fle (D.i2f (D.zc 7)) (D.fmul (D.fc 4620693217682128896) (S37_0 D a0))) (D.zc 7) (D.zc 6)) (D.zc 5)) (D.zc 4)) (D.zc 3)) (D.zc 2)) (D.zc 1)) (D.zc 0)))) (D.fsub (D.fmul (D.fc 4620693217682128896) (S37_0 D a0)) (D.i2f (D.zite (D.fle (D.i2f (D.zc 1)) (D.fmul (D.fc 4620693217682128896) (S37_0 D a0))) (D.zite (D.fle (D.i2f (D.zc 2)) (D.fmul (D.fc 4620693217682128896) (S37_0 D a0))) (D.zite (D.fle (D.i2f (D.zc 3)) (D.fmul (D.fc 4620693217682128896) (S37_0 D a0))) (D.zite (D.fle (D.i2f (D.zc 4)) (D.fmul (D.fc 4620693217682128896) (S37_0 D a0))) (D.zite (D.fle (D.i2f (D.zc 5)) (D.fmul (D.fc 4620693217682128896) (S37_0 D a0))) (D.zite (D.fle (D.i2f (D.zc 6)) (D.fmul (D.fc 4620693217682128896) (S37_0 D a0))) (D.zite (D.fle (D.i2f (D.zc 7)) (D.fmul (D.fc 4620693217682128896) (S37_0 D a0))) (D.zc 7) (D.zc 6)) (D.zc 5)) (D.zc 4)) (D.zc 3)) (D.zc 2)) (D.zc 1)) (D.zc 0)))))))))) (D.fite (D.bite (D.bite (D.bite (D.zeq (D.zite (D.fle (D.i2f (D.zc 1)) (D.fmul (D.fc 4620693217682128896) (S37_0 D a0))) (D.zite (D.fle (D.i2f (D.zc 2)) (D.fmul (D.fc 4620693217682128896) (S37_0 D a0))) (D.zite (D.fle (D.i2f (D.zc 3)) (D.fmul (D.fc 4620693217682128896) (S37_0 D a0))) (D.zite (D.fle (D.i2f (D.zc 4)) (D.fmul (D.fc 4620693217682128896) (S37_0 D a0))) (D.zite (D.fle (D.i2f (D.zc 5)) (D.fmul (D.fc 4620693217682128896) (S37_0 D a0))) (D.zite (D.fle (D.i2f (D.zc 6)) (D.fmul (D.fc 4620693217682128896) (S37_0 D a0))) (D.zite (D.fle (D.i2f (D.zc 7)) (D.fmul (D.fc 4620693217682128896) (S37_0 D a0))) (D.zc 7) (D.zc 6)) (D.zc 5)) (D.zc 4)) (D.zc 3)) (D.zc 2)) (D.zc 1)) (D.zc 0)) (D.zc 1)) (D.bc true) (D.zeq (D.zite (D.fle (D.i2f (D.zc 1)) (D.fmul (D.fc 4620693217682128896) (S37_0 D a0))) (D.zite (D.fle (D.i2f (D.zc 2)) (D.fmul (D.fc 4620693217682128896) (S37_0 D a0))) (D.zite (D.fle (D.i2f (D.zc 3)) (D.fmul (D.fc 4620693217682128896) (S37_0 D a0))) (D.zite (D.fle (D.i2f (D.zc 4)) (D.fmul (D.fc 4620693217682128896) (S37_0 D a0))) (D.zite (D.fle (D.i2f (D.zc 5)) (D.fmul (D.fc 4620693217682128896) (S37_0 D a0))) (D.zite (D.fle (D.i2f (D.zc 6)) (D.fmul (D.fc 4620693217682128896) (S37_0 D a0))) (D.zite (D.fle (D.i2f (D.zc 7)) (D.fmul (D.fc 4620693217682128896) (S37_0 D a0))) (D.zc 7) (D.zc 6)) (D.zc 5)) (D.zc 4)) (D.zc 3)) (D.zc 2)) (D.zc 1)) (D.zc 0)) (D.zc 2))) (D.bc true) (D.zeq (D.zite (D.fle (D.i2f (D.zc 1)) (D.fmul (D.fc 4620693217682128896) (S37_0 D a0))) (D.zite (D.fle (D.i2f (D.zc 2)) (D.fmul (D.fc 4620693217682128896) (S37_0 D a0))) (D.zite (D.fle (D.i2f (D.zc 3)) (D.fmul (D.fc 4620693217682128896) (S37_0 D a0))) (D.zite (D.fle (D.i2f (D.zc 4)) (D.fmul (D.fc 4620693217682128896) (S37_0 D a0))) (D.zite (D.fle (D.i2f (D.zc 5)) (D.fmul (D.fc 4620693217682128896) (S37_0 D a0))) (D.zite (D.fle (D.i2f (D.zc 6)) (D.fmul (D.fc 4620693217682128896) (S37_0 D a0))) (D.zite (D.fle (D.i2f (D.zc 7)) (D.fmul (D.fc 4620693217682128896) (S37_0 D a0))) (D.zc 7) (D.zc 6)) (D.zc 5)) (D.zc 4)) (D.zc 3)) (D.zc 2)) (D.zc 1)) (D.zc 0)) (D.zc 5))) (D.bc true) (D.zeq (D.zite (D.fle (D.i2f (D.zc 1)) (D.fmul (D.fc 4620693217682128896) (S37_0 D a0))) (D.zite (D.fle (D.i2f (D.zc 2)) (D.fmul (D.fc 4620693217682128896) (S37_0 D a0))) (D.zite (D.fle (D.i2f (D.zc 3)) (D.fmul (D.fc 4620693217682128896) (S37_0 D a0))) (D.zite (D.fle (D.i2f (D.zc 4)) (D.fmul (D.fc 4620693217682128896) (S37_0 D a0))) (D.zite (D.fle (D.i2f (D.zc 5)) (D.fmul (D.fc 4620693217682128896) (S37_0 D a0))) (D.zite (D.fle (D.i2f (D.zc 6)) (D.fmul (D.fc 4620693217682128896) (S37_0 D a0))) (D.zite (D.fle (D.i2f (D.zc 7)) (D.fmul (D.fc 4620693217682128896) (S37_0 D a0))) (D.zc 7) (D.zc 6)) (D.zc 5)) (D.zc 4)) (D.zc 3)) (D.zc 2)) (D.zc 1)) (D.zc 0)) (D.zc 6))) (D.fdiv (D.fsub (D.fmul (D.fc 4620693217682128896) (S37_0 D a0)) (D.i2f (D.zite (D.fle (D.i2f (D.zc 1)) (D.fmul (D.fc 4620693217682128896) (S37_0 D a0))) (D.zite (D.fle (D.i2f (D.zc 2)) (D.fmul (D.fc 4620693217682128896) (S37_0 D a0))) (D.zite (D.fle (D.i2f (D.zc 3)) (D.fmul (D.fc 4620693217682128896) (S37_0 D a0))) (D.zite (D.fle (D.i2f (D.zc 4)) (D.fmul (D.fc 4620693217682128896) (S37_0 D a0))) (D.zite (D.fle (D.i2f (D.zc 5)) (D.fmul (D.fc 4620693217682128896) (S37_0 D a0))) (D.zite (D.fle (D.i2f (D.zc 6)) (D.fmul (D.fc 4620693217682128896) (S37_0 D a0))) (D.zite (D.fle (D.i2f (D.zc 7)) (D.fmul (D.fc 4620693217682128896) (S37_0 D a0))) (D.zc 7) (D.zc 6)) (D.zc 5)) (D.zc 4)) (D.zc 3)) (D.zc 2)) (D.zc 1)) (D.zc 0)))) (S28_0 D (D.fadd (D.fc 4607182418800017408) (D.fmul (D.fsub (D.fmul (D.fc 4620693217682128896) (S37_0 D a0)) (D.i2f (D.zite (D.fle (D.i2f (D.zc 1)) (D.fmul (D.fc 4620693217682128896) (S37_0 D a0))) (D.zite (D.fle (D.i2f (D.zc 2)) (D.fmul (D.fc 4620693217682128896) (S37_0 D a0))) (D.zite (D.fle (D.i2f (D.zc 3)) (D.fmul (D.fc 4620693217682128896) (S37_0 D a0))) (D.zite (D.fle (D.i2f (D.zc 4)) (D.fmul (D.fc 4620693217682128896) (S37_0 D a0))) (D.zite (D.fle (D.i2f (D.zc 5)) (D.fmul (D.fc 4620693217682128896) (S37_0 D a0))) (D.zite (D.fle (D.i2f (D.zc 6)) (D.fmul (D.fc 4620693217682128896) (S37_0 D a0))) (D.zite (D.fle (D.i2f (D.zc 7)) (D.fmul (D.fc 4620693217682128896) (S37_0 D a0))) (D.zc 7) (D.zc 6)) (D.zc 5)) (D.zc 4)) (D.zc 3)) (D.zc 2)) (D.zc 1)) (D.zc 0)))) (D.fsub (D.fmul (D.fc 4620693217682128896) (S37_0 D a0)) (D.i2f (D.zite (D.fle (D.i2f (D.zc 1)) (D.fmul (D.fc 4620693217682128896) (S37_0 D a0))) (D.zite (D.fle (D.i2f (D.zc 2)) (D.fmul (D.fc 4620693217682128896) (S37_0 D a0))) (D.zite (D.fle (D.i2f (D.zc 3)) (D.fmul (D.fc 4620693217682128896) (S37_0 D a0))) (D.zite (D.fle (D.i2f (D.zc 4)) (D.fmul (D.fc 4620693217682128896) (S37_0 D a0))) (D.zite (D.fle (D.i2f (D.zc 5)) (D.fmul (D.fc 4620693217682128896) (S37_0 D a0))) (D.zite (D.fle (D.i2f (D.zc 6)) (D.fmul (D.fc 4620693217682128896) (S37_0 D a0))) (D.zite (D.fle (D.i2f (D.zc 7)) (D.fmul (D.fc 4620693217682128896) (S37_0 D a0))) (D.zc 7) (D.zc 6)) (D.zc 5)) (D.zc 4)) (D.zc 3)) (D.zc 2)) (D.zc 1)) (D.zc 0)))))))) (D.fdiv (D.fc 4607182418800017408) (S28_0 D (D.fadd (D.fc 4607182418800017408) (D.fmul (D.fsub (D.fmul (D.fc 4620693217682128896) (S37_0 D a0)) (D.i2f (D.zite (D.fle (D.i2f (D.zc 1)) (D.fmul (D.fc 4620693217682128896) (S37_0 D a0))) (D.zite (D.fle (D.i2f (D.zc 2)) (D.fmul (D.fc 4620693217682128896) (S37_0 D a0))) (D.zite (D.fle (D.i2f (D.zc 3)) (D.fmul (D.fc 4620693217682128896) (S37_0 D a0))) (D.zite (D.fle (D.i2f (D.zc 4)) (D.fmul (D.fc 4620693217682128896) (S37_0 D a0))) (D.zite (D.fle (D.i2f (D.zc 5)) (D.fmul (D.fc 4620693217682128896) (S37_0 D a0))) (D.zite (D.fle (D.i2f (D.zc 6)) (D.fmul (D.fc 4620693217682128896) (S37_0 D a0))) (D.zite (D.fle (D.i2f (D.zc 7)) (D.fmul (D.fc 4620693217682128896) (S37_0 D a0))) (D.zc 7) (D.zc 6)) (D.zc 5)) (D.zc 4)) (D.zc 3)) (D.zc 2)) (D.zc 1)) (D.zc 0)))) (D.fsub (D.fmul (D.fc 4620693217682128896) (S37_0 D a0)) (D.i2f (D.zite (D.fle (D.i2f (D.zc 1)) (D.fmul (D.fc 4620693217682128896) (S37_0 D a0))) (D.zite (D.fle (D.i2f (D.zc 2)) (D.fmul (D.fc 4620693217682128896) (S37_0 D a0))) (D.zite (D.fle (D.i2f (D.zc 3)) (D.fmul (D.fc 4620693217682128896) (S37_0 D a0))) (D.zite (D.fle (D.i2f (D.zc 4)) (D.fmul (D.fc 4620693217682128896) (S37_0 D a0))) (D.zite (D.fle (D.i2f (D.zc 5)) (D.fmul (D.fc 4620693217682128896) (S37_0 D a0))) (D.zite (D.fle (D.i2f (D.zc 6)) (D.fmul (D.fc 4620693217682128896) (S37_0 D a0))) (D.zite (D.fle (D.i2f (D.zc 7)) (D.fmul (D.fc 4620693217682128896) (S37_0 D a0))) (D.zc 7) (D.zc 6)) (D.zc 5)) (D.zc 4)) (D.zc 3)) (D.zc 2)) (D.zc 1)) (D.zc 0))))))))))
def S38_1 (D : Dom) (a0 : D.F) : D.F := (D.fite (D.zle (D.zc 4) (D.zite (D.fle (D.i2f (D.zc 1)) (D.fmul (D.fc 4620693217682128896) (S37_0 D a0))) (D.zite (D.fle (D.i2f (D.zc 2)) (D.fmul (D.fc 4620693217682128896) (S37_0 D a0))) (D.zite (D.fle (D.i2f (D.zc 3)) (D.fmul (D.fc 4620693217682128896) (S37_0 D a0))) (D.zite (D.fle (D.i2f (D.zc 4)) (D.fmul (D.fc 4620693217682128896) (S37_0 D a0))) (D.zite (D.fle (D.i2f (D.zc 5)) (D.fmul (D.fc 4620693217682128896) (S37_0 D a0))) (D.zite (D.fle (D.i2f (D.zc 6)) (D.fmul (D.fc 4620693217682128896) (S37_0 D a0))) (D.zite (D.fle (D.i2f (D.zc 7)) (D.fmul (D.fc 4620693217682128896) (S37_0 D a0))) (D.zc 7) (D.zc 6)) (D.zc 5)) (D.zc 4)) (D.zc 3)) (D.zc 2)) (D.zc 1)) (D.zc 0))) (D.fsub (D.fc 0) (D.fite (D.bite (D.bite (D.bite (D.zeq (D.zite (D.fle (D.i2f (D.zc 1)) (D.fmul (D.fc 4620693217682128896) (S37_0 D a0))) (D.zite (D.fle (D.i2f (D.zc 2)) (D.fmul (D.fc 4620693217682128896) (S37_0 D a0))) (D.zite (D.fle (D.i2f (D.zc 3)) (D.fmul (D.fc 4620693217682128896) (S37_0 D a0))) (D.zite (D.fle (D.i2f (D.zc 4)) (D.fmul (D.fc 4620693217682128896) (S37_0 D a0))) (D.zite (D.fle (D.i2f (D.zc 5)) (D.fmul (D.fc 4620693217682128896) (S37_0 D a0))) (D.zite (D.fle (D.i2f (D.zc 6)) (D.fmul (D.fc 4620693217682128896) (S37_0 D a0))) (D.zite (D.fle (D.i2f (D.zc 7)) (D.fmul (D.fc 4620693217682128896) (S37_0 D a0))) (D.zc 7) (D.zc 6)) (D.zc 5)) (D.zc 4)) (D.zc 3)) (D.zc 2)) (D.zc 1)) (D.zc 0)) (D.zc 1)) (D.bc true) (D.zeq (D.zite (D.fle (D.i2f (D.zc 1)) (D.fmul (D.fc 4620693217682128896) (S37_0 D a0))) (D.zite (D.fle (D.i2f (D.zc 2)) (D.fmul (D.fc 4620693217682128896) (S37_0 D a0))) (D.zite (D.fle (D.i2f (D.zc 3)) (D.fmul (D.fc 4620693217682128896) (S37_0 D a0))) (D.zite (D.fle (D.i2f (D.zc 4)) (D.fmul (D.fc 4620693217682128896) (S37_0 D a0))) (D.zite (D.fle (D.i2f (D.zc 5)) (D.fmul (D.fc 4620693217682128896) (S37_0 D a0))) (D.zite (D.fle (D.i2f (D.zc 6)) (D.fmul (D.fc 4620693217682128896) (S37_0 D a0))) (D.zite (D.fle (D.i2f (D.zc 7)) (D.fmul (D.fc 4620693217682128896) (S37_0 D a0))) (D.zc 7) (D.zc 6)) (D.zc 5)) (D.zc 4)) (D.zc 3)) (D.zc 2)) (D.zc 1)) (D.zc 0)) (D.zc 2))) (D.bc true) (D.zeq (D.zite (D.fle (D.i2f (D.zc 1)) (D.fmul (D.fc 4620693217682128896) (S37_0 D a0))) (D.zite (D.fle (D.i2f (D.zc 2)) (D.fmul (D.fc 4620693217682128896) (S37_0 D a0))) (D.zite (D.fle (D.i2f (D.zc 3)) (D.fmul (D.fc 4620693217682128896) (S37_0 D a0))) (D.zite (D.fle (D.i2f (D.zc 4)) (D.fmul (D.fc 4620693217682128896) (S37_0 D a0))) (D.zite (D.fle (D.i2f (D.zc 5)) (D.fmul (D.fc 4620693217682128896) (S37_0 D a0))) (D.zite (D.fle (D.i2f (D.zc 6)) (D.fmul (D.fc 4620693217682128896) (S37_0 D a0))) (D.zite (D.fle (D.i2f (D.zc 7)) (D.fmul (D.fc 4620693217682128896) (S37_0 D a0))) (D.zc 7) (D.zc 6)) (D.zc 5)) (D.zc 4)) (D.zc 3)) (D.zc 2)) (D.zc 1)) (D.zc 0)) (D.zc 5))) (D.bc true) (D.zeq (D.zite (D.fle (D.i2f (D.zc 1)) (D.fmul (D.fc 4620693217682128896) (S37_0 D a0))) (D.zite (D.fle (D.i2f (D.zc 2)) (D.fmul (D.fc 4620693217682128896) (S37_0 D a0))) (D.zite (D.fle (D.i2f (D.zc 3)) (D.fmul (D.fc 4620693217682128896) (S37_0 D a0))) (D.zite (D.fle (D.i2f (D.zc 4)) (D.fmul (D.fc 4620693217682128896) (S37_0 D a0))) (D.zite (D.fle (D.i2f (D.zc 5)) (D.fmul (D.fc 4620693217682128896) (S37_0 D a0))) (D.zite (D.fle (D.i2f (D.zc 6)) (D.fmul (D.fc 4620693217682128896) (S37_0 D a0))) (D.zite (D.fle (D.i2f (D.zc 7)) (D.fmul (D.fc 4620693217682128896) (S37_0 D a0))) (D.zc 7) (D.zc 6)) (D.zc 5)) (D.zc 4)) (D.zc 3)) (D.zc 2)) (D.zc 1)) (D.zc 0)) (D.zc 6))) (D.fdiv (D.fc 4607182418800017408) (S28_0 D (D.fadd (D.fc 4607182418800017408) (D.fmul (D.fsub (D.fmul (D.fc 4620693217682128896) (S37_0 D a0)) (D.i2f (D.zite (D.fle (D.i2f (D.zc 1)) (D.fmul (D.fc 4620693217682128896) (S37_0 D a0))) (D.zite (D.fle (D.i2f (D.zc 2)) (D.fmul (D.fc 4620693217682128896) (S37_0 D a0))) (D.zite (D.fle (D.i2f (D.zc 3)) (D.fmul (D.fc 4620693217682128896) (S37_0 D a0))) (D.zite (D.fle (D.i2f (D.zc 4)) (D.fmul (D.fc 4620693217682128896) (S37_0 D a0))) (D.zite (D.fle (D.i2f (D.zc 5)) (D.fmul (D.fc 4620693217682128896) (S37_0 D a0))) (D.zite (D.fle (D.i2f (D.zc 6)) (D.fmul (D.fc 4620693217682128896) (S37_0 D a0))) (D.zite (D.fle (D.i2f (D.zc 7)) (D.fmul (D.fc 4620693217682128896) (S37_0 D a0))) (D.zc 7) (D.zc 6)) (D.zc 5)) (D.zc 4)) (D.zc 3)) (D.zc 2)) (D.zc 1)) (D.zc 0)))) (D.fsub (D.fmul (D.fc 4620693217682128896) (S37_0 D a0)) (D.i2f (D.zite (D.fle (D.i2f (D.zc 1)) (D.fmul (D.fc 4620693217682128896) (S37_0 D a0))) (D.zite (D.fle (D.i2f (D.zc 2)) (D.fmul (D.fc 4620693217682128896) (S37_0 D a0))) (D.zite (D.fle (D.i2f (D.zc 3)) (D.fmul (D.fc 4620693217682128896) (S37_0 D a0))) (D.zite (D.fle (D.i2f (D.zc 4)) (D.fmul (D.fc 4620693217682128896) (S37_0 D a0))) (D.zite (D.fle (D.i2f (D.zc 5)) (D.fmul (D.fc 4620693217682128896) (S37_0 D a0))) (D.zite (D.fle (D.i2f (D.zc 6)) (D.fmul (D.fc 4620693217682128896) (S37_0 D a0))) (D.zite (D.fle (D.i2f (D.zc 7)) (D.fmul (D.fc 4620693217682128896) (S37_0 D a0))) (D.zc 7) (D.zc 6)) (D.zc 5)) (D.zc 4)) (D.zc 3)) (D.zc 2)) (D.zc 1)) (D.zc 0)))))))) (D.fdiv (D.fsub (D.fmul (D.fc 4620693217682128896) (S37_0 D a0)) (D.i2f (D.zite (D.fle (D.i2f (D.zc 1)) (D.fmul (D.fc 4620693217682128896) (S37_0 D a0))) (D.zite (D.fle (D.i2f (D.zc 2)) (D.fmul (D.fc 4620693217682128896) (S37_0 D a0))) (D.zite (D.fle (D.i2f (D.zc 3)) (D.fmul (D.fc 4620693217682128896) (S37_0 D a0))) (D.zite (D.fle (D.i2f (D.zc 4)) (D.fmul (D.fc 4620693217682128896) (S37_0 D a0))) (D.zite (D.fle (D.i2f (D.zc 5)) (D.fmul (D.fc 4620693217682128896) (S37_0 D a0))) (D.zite (D.fle (D.i2f (D.zc 6)) (D.fmul (D.fc 4620693217682128896) (S37_0 D a0))) (D.zite (D.fle (D.i2f (D.zc 7)) (D.fmul (D.fc 4620693217682128896) (S37_0 D a0))) (D.zc 7) (D.zc 6)) (D.zc 5)) (D.zc 4)) (D.zc 3)) (D.zc 2)) (D.zc 1)) (D.zc 0)))) (S28_0 D (D.fadd (D.fc 4607182418800017408) (D.fmul (D.fsub (D.fmul (D.fc 4620693217682128896) (S37_0 D a0)) (D.i2f (D.zite (D.fle (D.i2f (D.zc 1)) (D.fmul (D.fc 4620693217682128896) (S37_0 D a0))) (D.zite (D.fle (D.i2f (D.zc 2)) (D.fmul (D.fc 4620693217682128896) (S37_0 D a0))) (D.zite (D.fle (D.i2f (D.zc 3)) (D.fmul (D.fc 4620693217682128896) (S37_0 D a0))) (D.zite (D.fle (D.i2f (D.zc 4)) (D.fmul (D.fc 4620693217682128896) (S37_0 D a0))) (D.zite (D.fle (D.i2f (D.zc 5)) (D.fmul (D.fc 4620693217682128896) (S37_0 D a0))) (D.zite (D.fle (D.i2f (D.zc 6)) (D.fmul (D.fc 4620693217682128896) (S37_0 D a0))) (D.zite (D.fle (D.i2f (D.zc 7)) (D.fmul (D.fc 4620693217682128896) (S37_0 D a0))) (D.zc 7) (D.zc 6)) (D.zc 5)) (D.zc 4)) (D.zc 3)) (D.zc 2)) (D.zc 1)) (D.zc 0)))) (D.fsub (D.fmul (D.fc 4620693217682128896) (S37_0 D a0)) (D.i2f (D.zite (D.fle (D.i2f (D.zc 1)) (D.fmul (D.fc 4620693217682128896) (S37_0 D a0))) (D.zite (D.fle (D.i2f (D.zc 2)) (D.fmul (D.fc 4620693217682128896) (S37_0 D a0))) (D.zite (D.fle (D.i2f (D.zc 3)) (D.fmul (D.fc 4620693217682128896) (S37_0 D a0))) (D.zite (D.fle (D.i2f (D.zc 4)) (D.fmul (D.fc 4620693217682128896) (S37_0 D a0))) (D.zite (D.fle (D.i2f (D.zc 5)) (D.fmul (D.fc 4620693217682128896) (S37_0 D a0))) (D.zite (D.fle (D.i2f (D.zc 6)) (D.fmul (D.fc 4620693217682128896) (S37_0 D a0))) (D.zite (D.fle (D.i2f (D.zc 7)) (D.fmul (D.fc 4620693217682128896) (S37_0 D a0))) (D.zc 7) (D.zc 6)) (D.zc 5)) (D.zc 4)) (D.zc 3)) (D.zc 2)) (D.zc 1)) (D.zc 0)))))))))) (D.fite (D.bite (D.bite (D.bite (D.zeq (D.zite (D.fle (D.i2f (D.zc 1)) (D.fmul (D.fc 4620693217682128896) (S37_0 D a0))) (D.zite (D.fle (D.i2f (D.zc 2)) (D.fmul (D.fc 4620693217682128896) (S37_0 D a0))) (D.zite (D.fle (D.i2f (D.zc 3)) (D.fmul (D.fc 4620693217682128896) (S37_0 D a0))) (D.zite (D.fle (D.i2f (D.zc 4)) (D.fmul (D.fc 4620693217682128896) (S37_0 D a0))) (D.zite (D.fle (D.i2f (D.zc 5)) (D.fmul (D.fc 4620693217682128896) (S37_0 D a0))) (D.zite (D.fle (D.i2f (D.zc 6)) (D.fmul (D.fc 4620693217682128896) (S37_0 D a0))) (D.zite (D.fle (D.i2f (D.zc 7)) (D.fmul (D.fc 4620693217682128896) (S37_0 D a0))) (D.zc 7) (D.zc 6)) (D.zc 5)) (D.zc 4)) (D.zc 3)) (D.zc 2)) (D.zc 1)) (D.zc 0)) (D.zc 1)) (D.bc true) (D.zeq (D.zite (D.fle (D.i2f (D.zc 1)) (D.fmul (D.fc 4620693217682128896) (S37_0 D a0))) (D.zite (D.fle (D.i2f (D.zc 2)) (D.fmul (D.fc 4620693217682128896) (S37_0 D a0))) (D.zite (D.fle (D.i2f (D.zc 3)) (D.fmul (D.fc 4620693217682128896) (S37_0 D a0))) (D.zite (D.fle (D.i2f (D.zc 4)) (D.fmul (D.fc 4620693217682128896) (S37_0 D a0))) (D.zite (D.fle (D.i2f (D.zc 5)) (D.fmul (D.fc 4620693217682128896) (S37_0 D a0))) (D.zite (D.fle (D.i2f (D.zc 6)) (D.fmul (D.fc 4620693217682128896) (S37_0 D a0))) (D.zite (D.fle (D.i2f (D.zc 7)) (D.fmul (D.fc 4620693217682128896) (S37_0 D a0))) (D.zc 7) (D.zc 6)) (D.zc 5)) (D.zc 4)) (D.zc 3)) (D.zc 2)) (D.zc 1)) (D.zc 0)) (D.zc 2))) (D.bc true) (D.zeq (D.zite (D.fle (D.i2f (D.zc 1)) (D.fmul (D.fc 4620693217682128896) (S37_0 D a0))) (D.zite (D.fle (D.i2f (D.zc 2)) (D.fmul (D.fc 4620693217682128896) (S37_0 D a0))) (D.zite (D.fle (D.i2f (D.zc 3)) (D.fmul (D.fc 4620693217682128896) (S37_0 D a0))) (D.zite (D.fle (D.i2f (D.zc 4)) (D.fmul (D.fc 4620693217682128896) (S37_0 D a0))) (D.zite (D.fle (D.i2f (D.zc 5)) (D.fmul (D.fc 4620693217682128896) (S37_0 D a0))) (D.zite (D.fle (D.i2f (D.zc 6)) (D.fmul (D.fc 4620693217682128896) (S37_0 D a0))) (D.zite (D.fle (D.i2f (D.zc 7)) (D.fmul (D.fc 4620693217682128896) (S37_0 D a0))) (D.zc 7) (D.zc 6)) (D.zc 5)) (D.zc 4)) (D.zc 3)) (D.zc 2)) (D.zc 1)) (D.zc 0)) (D.zc 5))) (D.bc true) (D.zeq (D.zite (D.fle (D.i2f (D.zc 1)) (D.fmul (D.fc 4620693217682128896) (S37_0 D a0))) (D.zite (D.fle (D.i2f (D.zc 2)) (D.fmul (D.fc 4620693217682128896) (S37_0 D a0))) (D.zite (D.fle (D.i2f (D.zc 3)) (D.fmul (D.fc 4620693217682128896) (S37_0 D a0))) (D.zite (D.fle (D.i2f (D.zc 4)) (D.fmul (D.fc 4620693217682128896) (S37_0 D a0))) (D.zite (D.fle (D.i2f (D.zc 5)) (D.fmul (D.fc 4620693217682128896) (S37_0 D a0))) (D.zite (D.fle (D.i2f (D.zc 6)) (D.fmul (D.fc 4620693217682128896) (S37_0 D a0))) (D.zite (D.fle (D.i2f (D.zc 7)) (D.fmul (D.fc 4620693217682128896) (S37_0 D a0))) (D.zc 7) (D.zc 6)) (D.zc 5)) (D.zc 4)) (D.zc 3)) (D.zc 2)) (D.zc 1)) (D.zc 0)) (D.zc 6))) (D.fdiv (D.fc 4607182418800017408) (S28_0 D (D.fadd (D.fc 4607182418800017408) (D.fmul (D.fsub (D.fmul (D.fc 4620693217682128896) (S37_0 D a0)) (D.i2f (D.zite (D.fle (D.i2f (D.zc 1)) (D.fmul (D.fc 4620693217682128896) (S37_0 D a0))) (D.zite (D.fle (D.i2f (D.zc 2)) (D.fmul (D.fc 4620693217682128896) (S37_0 D a0))) (D.zite (D.fle (D.i2f (D.zc 3)) (D.fmul (D.fc 4620693217682128896) (S37_0 D a0))) (D.zite (D.fle (D.i2f (D.zc 4)) (D.fmul (D.fc 4620693217682128896) (S37_0 D a0))) (D.zite (D.fle (D.i2f (D.zc 5)) (D.fmul (D.fc 4620693217682128896) (S37_0 D a0))) (D.zite (D.fle (D.i2f (D.zc 6)) (D.fmul (D.fc 4620693217682128896) (S37_0 D a0))) (D.zite (D.fle (D.i2f (D.zc 7)) (D.fmul (D.fc 4620693217682128896) (S37_0 D a0))) (D.zc 7) (D.zc 6)) (D.zc 5)) (D.zc 4)) (D.zc 3)) (D.zc 2)) (D.zc 1)) (D.zc 0)))) (D.fsub (D.fmul (D.fc 4620693217682128896) (S37_0 D a0)) (D.i2f (D.zite (D.fle (D.i2f (D.zc 1)) (D.fmul (D.fc 4620693217682128896) (S37_0 D a0))) (D.zite (D.fle (D.i2f (D.zc 2)) (D.fmul (D.fc 4620693217682128896) (S37_0 D a0))) (D.zite (D.fle (D.i2f (D.zc 3)) (D.fmul (D.fc 4620693217682128896) (S37_0 D a0))) (D.zite (D.fle (D.i2f (D.zc 4)) (D.fmul (D.fc 4620693217682128896) (S37_0 D a0))) (D.zite (D.fle (D.i2f (D.zc 5)) (D.fmul (D.fc 4620693217682128896) (S37_0 D a0))) (D.zite (D.fle (D.i2f (D.zc 6)) (D.fmul (D.fc 4620693217682128896) (S37_0 D a0))) (D.zite (D.fle (D.i2f (D.zc 7)) (D.fmul (D.fc 4620693217682128896) (S37_0 D a0))) (D.zc 7) (D.zc 6)) (D.zc 5)) (D.zc 4)) (D.zc 3)) (D.zc 2)) (D.zc 1)) (D.zc 0)))))))) (D.fdiv (D.fsub (D.fmul (D.fc 4620693217682128896) (S37_0 D a0)) (D.i2f (D.zite (D.fle (D.i2f (D.zc 1)) (D.fmul (D.fc 4620693217682128896) (S37_0 D a0))) (D.zite (D.fle (D.i2f (D.zc 2)) (D.fmul (D.fc 4620693217682128896) (S37_0 D a0))) (D.zite (D.fle (D.i2f (D.zc 3)) (D.fmul (D.fc 4620693217682128896) (S37_0 D a0))) (D.zite (D.fle (D.i2f (D.zc 4)) (D.fmul (D.fc 4620693217682128896) (S37_0 D a0))) (D.zite (D.fle (D.i2f (D.zc 5)) (D.fmul (D.fc 4620693217682128896) (S37_0 D a0))) (D.zite (D.fle (D.i2f (D.zc 6)) (D.fmul (D.fc 4620693217682128896) (S37_0 D a0))) (D.zite (D.fle (D.i2f (D.zc 7)) (D.fmul (D.fc 4620693217682128896) (S37_0 D a0))) (D.zc 7) (D.zc 6)) (D.zc 5)) (D.zc 4)) (D.zc 3)) (D.zc 2)) (D.zc 1)) (D.zc 0)))) (S28_0 D (D.fadd (D.fc 4607182418800017408) (D.fmul (D.fsub (D.fmul (D.fc 4620693217682128896) (S37_0 D a0)) (D.i2f (D.zite (D.fle (D.i2f (D.zc 1)) (D.fmul (D.fc 4620693217682128896) (S37_0 D a0))) (D.zite (D.fle (D.i2f (D.zc 2)) (D.fmul (D.fc 4620693217682128896) (S37_0 D a0))) (D.zite (D.fle (D.i2f (D.zc 3)) (D.fmul (D.fc 4620693217682128896) (S37_0 D a0))) (D.zite (D.fle (D.i2f (D.zc 4)) (D.fmul (D.fc 4620693217682128896) (S37_0 D a0))) (D.zite (D.fle (D.i2f (D.zc 5)) (D.fmul (D.fc 4620693217682128896) (S37_0 D a0))) (D.zite (D.fle (D.i2f (D.zc 6)) (D.fmul (D.fc 4620693217682128896) (S37_0 D a0))) (D.zite (D.fle (D.i2f (D.zc 7)) (D.fmul (D.fc 4620693217682128896) (S37_0 D a0))) (D.zc 7) (D.zc 6)) (D.zc 5)) (D.zc 4)) (D.zc 3)) (D.zc 2)) (D.zc 1)) (D.zc 0)))) (D.fsub (D.fmul (D.fc 4620693217682128896) (S37_0 D a0)) (D.i2f (D.zite (D.fle (D.i2f (D.zc 1)) (D.fmul (D.fc 4620693217682128896) (S37_0 D a0))) (D.zite (D.fle (D.i2f (D.zc 2)) (D.fmul (D.fc 4620693217682128896) (S37_0 D a0))) (D.zite (D.fle (D.i2f (D.zc 3)) (D.fmul (D.fc 4620693217682128896) (S37_0 D a0))) (D.zite (D.fle (D.i2f (D.zc 4)) (D.fmul (D.fc 4620693217682128896) (S37_0 D a0))) (D.zite (D.fle (D.i2f (D.zc 5)) (D.fmul (D.fc 4620693217682128896) (S37_0 D a0))) (D.zite (D.fle (D.i2f (D.zc 6)) (D.fmul (D.fc 4620693217682128896) (S37_0 D a0))) (D.zite (D.fle (D.i2f (D.zc 7)) (D.fmul (D.fc 4620693217682128896) (S37_0 D a0))) (D.zc 7) (D.zc 6)) (D.zc 5)) (D.zc 4)) (D.zc 3)) (D.zc 2)) (D.zc 1)) (D.zc 0))))))))))
def S38_2 (D : Dom) (a0 : D.F) : D.F := (D.fmul (D.fadd (D.fc 4607182418800017408) (D.fmul (D.fsub (D.fmul (D.fc 4620693217682128896) (S37_0 D a0)) (D.i2f (D.zite (D.fle (D.i2f (D.zc 1)) (D.fmul (D.fc 4620693217682128896) (S37_0 D a0))) (D.zite (D.fle (D.i2f (D.zc 2)) (D.fmul (D.fc 4620693217682128896) (S37_0 D a0))) (D.zite (D.fle (D.i2f (D.zc 3)) (D.fmul (D.fc 4620693217682128896) (S37_0 D a0))) (D.zite (D.fle (D.i2f (D.zc 4)) (D.fmul (D.fc 4620693217682128896) (S37_0 D a0))) (D.zite (D.fle (D.i2f (D.zc 5)) (D.fmul (D.fc 4620693217682128896) (S37_0 D a0))) (D.zite (D.fle (D.i2f (D.zc 6)) (D.fmul (D.fc 4620693217682128896) (S37_0 D a0))) (D.zite (D.fle (D.i2f (D.zc 7)) (D.fmul (D.fc 4620693217682128896) (S37_0 D a0))) (D.zc 7) (D.zc 6)) (D.zc 5)) (D.zc 4)) (D.zc 3)) (D.zc 2)) (D.zc 1)) (D.zc 0)))) (D.fsub (D.fmul (D.fc 4620693217682128896) (S37_0 D a0)) (D.i2f (D.zite (D.fle (D.i2f (D.zc 1)) (D.fmul (D.fc 4620693217682128896) (S37_0 D a0))) (D.zite (D.fle (D.i2f (D.zc 2)) (D.fmul (D.fc 4620693217682128896) (S37_0 D a0))) (D.zite (D.fle (D.i2f (D.zc 3)) (D.fmul (D.fc 4620693217682128896) (S37_0 D a0))) (D.zite (D.fle (D.i2f (D.zc 4)) (D.fmul (D.fc 4620693217682128896) (S37_0 D a0))) (D.zite (D.fle (D.i2f (D.zc 5)) (D.fmul (D.fc 4620693217682128896) (S37_0 D a0))) (D.zite (D.fle (D.i2f (D.zc 6)) (D.fmul (D.fc 4620693217682128896) (S37_0 D a0))) (D.zite (D.fle (D.i2f (D.zc 7)) (D.fmul (D.fc 4620693217682128896) (S37_0 D a0))) (D.zc 7) (D.zc 6)) (D.zc 5)) (D.zc 4)) (D.zc 3)) (D.zc 2)) (D.zc 1)) (D.zc 0)))))) (D.fc 4593671619917905920))
theorem ev38 (D : Dom) (a0 : D.F) : joinT (evFn Try.prog (tbl_37 D) 60 38 [.fl a0]) = .val none (.tup [.fl (S38_0 D a0), .fl (S38_1 D a0), .fl (S38_2 D a0)]) := by kernel_rfl
def sp38 : Ev.Spec := fun D l => argF l fun a0 r0 => arg0 r0 (.ret (.tup [.fl (S38_0 D a0), .fl (S38_1 D a0), .fl (S38_2 D a0)]))
theorem en38 : ∀ l r, (sp38 R l).run = some r → Entry Try.prog 38 l r := by
  intro l r h
  obtain ⟨x0, _, h, L0⟩ := argF_inv h
  obtain ⟨h, L1⟩ := arg0_inv h
  cases h
  exact (entry_of prg tok_37 (ev38 R x0) (fun o ho => nomatch ho) rfl).le (L0 _ L1)
def tl_38 : List (Nat × Ev.Spec) := (38, sp38) :: tl_37
def tbl_38 (D : Dom) : Tbl D := tblOf tl_38 D
theorem tok_38 : TblOK Try.prog (tbl_38 R) := TblOK.cons tok_37 en38

-- penumbra/penumbraref02.Dot
def S39_0 (D : Dom) (a0 : D.F) (a1 : D.F) (a2 : D.F) (a3 : D.F) (a4 : D.F) (a5 : D.F) : D.F := (D.fadd (D.fadd (D.fmul a0 a3) (D.fmul a1 a4)) (D.fmul a2 a5))
theorem ev39 (D : Dom) (a0 : D.F) (a1 : D.F) (a2 : D.F) (a3 : D.F) (a4 : D.F) (a5 : D.F) : joinT (evFn Try.prog (tbl_38 D) 60 39 [.agg [.fl a0, .fl a1, .fl a2], .agg [.fl a3, .fl a4, .fl a5]]) = .val none (.fl (S39_0 D a0 a1 a2 a3 a4 a5)) := by kernel_rfl
def sp39 : Ev.Spec := fun D l => argA l fun c0 r0 => argF c0 fun a0 r1 => argF r1 fun a1 r2 => argF r2 fun a2 r3 => arg0 r3 (argA r0 fun c100 r100 => argF c100 fun a3 r101 => argF r101 fun a4 r102 => argF r102 fun a5 r103 => arg0 r103 (arg0 r100 (.ret (.fl (S39_0 D a0 a1 a2 a3 a4 a5)))))
theorem en39 : ∀ l r, (sp39 R l).run = some r → Entry Try.prog 39 l r := by
  intro l r h
  obtain ⟨_, _, h, L0⟩ := argA_inv h
  obtain ⟨x1, _, h, L1⟩ := argF_inv h
  obtain ⟨x2, _, h, L2⟩ := argF_inv h
  obtain ⟨x3, _, h, L3⟩ := argF_inv h
  obtain ⟨h, L4⟩ := arg0_inv h
  obtain ⟨_, _, h, L5⟩ := argA_inv h
  obtain ⟨x6, _, h, L6⟩ := argF_inv h
  obtain ⟨x7, _, h, L7⟩ := argF_inv h
  obtain ⟨x8, _, h, L8⟩ := argF_inv h
  obtain ⟨h, L9⟩ := arg0_inv h
  obtain ⟨h, L10⟩ := arg0_inv h
  cases h
  exact (entry_of prg tok_38 (ev39 R x1 x2 x3 x6 x7 x8) (fun o ho => nomatch ho) rfl).le (L0 _ _ (L1 _ (L2 _ (L3 _ L4))) (L5 _ _ (L6 _ (L7 _ (L8 _ L9))) L10))
def tl_39 : List (Nat × Ev.Spec) := (39, sp39) :: tl_38
def tbl_39 (D : Dom) : Tbl D := tblOf tl_39 D
theorem tok_39 : TblOK Try.prog (tbl_39 R) := TblOK.cons tok_38 en39

-- penumbra/penumbraref02.Scale
def S41_0 (D : Dom) (a0 : D.F) (a3 : D.F) : D.F := (D.fmul a0 a3)
def S41_1 (D : Dom) (a1 : D.F) (a3 : D.F) : D.F := (D.fmul a1 a3)
def S41_2 (D : Dom) (a2 : D.F) (a3 : D.F) : D.F := (D.fmul a2 a3)
theorem ev41 (D : Dom) (a0 : D.F) (a1 : D.F) (a2 : D.F) (a3 : D.F) : joinT (evFn Try.prog (tbl_39 D) 60 41 [.agg [.fl a0, .fl a1, .fl a2], .fl a3]) = .val none (.agg [.fl (S41_0 D a0 a3), .fl (S41_1 D a1 a3), .fl (S41_2 D a2 a3)]) := by kernel_rfl
def sp41 : Ev.Spec := fun D l => argA l fun c0 r0 => argF c0 fun a0 r1 => argF r1 fun a1 r2 => argF r2 fun a2 r3 => arg0 r3 (argF r0 fun a3 r100 => arg0 r100 (.ret (.agg [.fl (S41_0 D a0 a3), .fl (S41_1 D a1 a3), .fl (S41_2 D a2 a3)])))
theorem en41 : ∀ l r, (sp41 R l).run = some r → Entry Try.prog 41 l r := by
  intro l r h
  obtain ⟨_, _, h, L0⟩ := argA_inv h
  obtain ⟨x1, _, h, L1⟩ := argF_inv h
  obtain ⟨x2, _, h, L2⟩ := argF_inv h
  obtain ⟨x3, _, h, L3⟩ := argF_inv h
  obtain ⟨h, L4⟩ := arg0_inv h
  obtain ⟨x5, _, h, L5⟩ := argF_inv h
  obtain ⟨h, L6⟩ := arg0_inv h
  cases h
  exact (entry_of prg tok_39 (ev41 R x1 x2 x3 x5) (fun o ho => nomatch ho) rfl).le (L0 _ _ (L1 _ (L2 _ (L3 _ L4))) (L5 _ L6))
def tl_41 : List (Nat × Ev.Spec) := (41, sp41) :: tl_39
def tbl_41 (D : Dom) : Tbl D := tblOf tl_41 D
theorem tok_41 : TblOK Try.prog (tbl_41 R) := TblOK.cons tok_39 en41

-- penumbra/penumbraref02.Sub
def S40_0 (D : Dom) (a0 : D.F) (a3 : D.F) : D.F := (D.fsub a0 a3)
def S40_1 (D : Dom) (a1 : D.F) (a4 : D.F) : D.F := (D.fsub a1 a4)
def S40_2 (D : Dom) (a2 : D.F) (a5 : D.F) : D.F := (D.fsub a2 a5)
theorem ev40 (D : Dom) (a0 : D.F) (a1 : D.F) (a2 : D.F) (a3 : D.F) (a4 : D.F) (a5 : D.F) : joinT (evFn Try.prog (tbl_41 D) 60 40 [.agg [.fl a0, .fl a1, .fl a2], .agg [.fl a3, .fl a4, .fl a5]]) = .val none (.agg [.fl (S40_0 D a0 a3), .fl (S40_1 D a1 a4), .fl (S40_2 D a2 a5)]) := by kernel_rfl
def sp40 : Ev.Spec := fun D l => argA l fun c0 r0 => argF c0 fun a0 r1 => argF r1 fun a1 r2 => argF r2 fun a2 r3 => arg0 r3 (argA r0 fun c100 r100 => argF c100 fun a3 r101 => argF r101 fun a4 r102 => argF r102 fun a5 r103 => arg0 r103 (arg0 r100 (.ret (.agg [.fl (S40_0 D a0 a3), .fl (S40_1 D a1 a4), .fl (S40_2 D a2 a5)]))))
theorem en40 : ∀ l r, (sp40 R l).run = some r → Entry Try.prog 40 l r := by
  intro l r h
  obtain ⟨_, _, h, L0⟩ := argA_inv h
  obtain ⟨x1, _, h, L1⟩ := argF_inv h
  obtain ⟨x2, _, h, L2⟩ := argF_inv h
  obtain ⟨x3, _, h, L3⟩ := argF_inv h
  obtain ⟨h, L4⟩ := arg0_inv h
  obtain ⟨_, _, h, L5⟩ := argA_inv h
  obtain ⟨x6, _, h, L6⟩ := argF_inv h
  obtain ⟨x7, _, h, L7⟩ := argF_inv h
  obtain ⟨x8, _, h, L8⟩ := argF_inv h
  obtain ⟨h, L9⟩ := arg0_inv h
  obtain ⟨h, L10⟩ := arg0_inv h
  cases h
  exact (entry_of prg tok_41 (ev40 R x1 x2 x3 x6 x7 x8) (fun o ho => nomatch ho) rfl).le (L0 _ _ (L1 _ (L2 _ (L3 _ L4))) (L5 _ _ (L6 _ (L7 _ (L8 _ L9))) L10))
def tl_40 : List (Nat × Ev.Spec) := (40, sp40) :: tl_41
def tbl_40 (D : Dom) : Tbl D := tblOf tl_40 D
theorem tok_40 : TblOK Try.prog (tbl_40 R) := TblOK.cons tok_41 en40

-- penumbra/penumbraref15.Sample
def S18_0 (D : Dom) (a0 : D.F) (a1 : D.F) (a2 : D.F) (a3 : D.F) (a4 : D.F) (a5 : D.F) : D.F := (D.fite (D.bite (D.bite (D.fgt (S39_0 D a1 a2 a3 (D.fmul (S38_0 D a5) (S28_0 D (D.fite (D.flt (D.fsub (D.fc 4607182418800017408) (D.fmul (S28_0 D (D.fdiv (D.fsub (D.fc 4607182418800017408) (S37_0 D a4)) (D.fadd (D.fc 4607182418800017408) (D.fmul (D.fsub (D.fmul (S8_0 D a0) (S8_0 D a0)) (D.fc 4607182418800017408)) (S37_0 D a4))))) (S28_0 D (D.fdiv (D.fsub (D.fc 4607182418800017408) (S37_0 D a4)) (D.fadd (D.fc 4607182418800017408) (D.fmul (D.fsub (D.fmul (S8_0 D a0) (S8_0 D a0)) (D.fc 4607182418800017408)) (S37_0 D a4))))))) (D.fc 0)) (D.fc 0) (D.fsub (D.fc 4607182418800017408) (D.fmul (S28_0 D (D.fdiv (D.fsub (D.fc 4607182418800017408) (S37_0 D a4)) (D.fadd (D.fc 4607182418800017408) (D.fmul (D.fsub (D.fmul (S8_0 D a0) (S8_0 D a0)) (D.fc 4607182418800017408)) (S37_0 D a4))))) (S28_0 D (D.fdiv (D.fsub (D.fc 4607182418800017408) (S37_0 D a4)) (D.fadd (D.fc 4607182418800017408) (D.fmul (D.fsub (D.fmul (S8_0 D a0) (S8_0 D a0)) (D.fc 4607182418800017408)) (S37_0 D a4)))))))))) (D.fmul (S38_1 D a5) (S28_0 D (D.fite (D.flt (D.fsub (D.fc 4607182418800017408) (D.fmul (S28_0 D (D.fdiv (D.fsub (D.fc 4607182418800017408) (S37_0 D a4)) (D.fadd (D.fc 4607182418800017408) (D.fmul (D.fsub (D.fmul (S8_0 D a0) (S8_0 D a0)) (D.fc 4607182418800017408)) (S37_0 D a4))))) (S28_0 D (D.fdiv (D.fsub (D.fc 4607182418800017408) (S37_0 D a4)) (D.fadd (D.fc 4607182418800017408) (D.fmul (D.fsub (D.fmul (S8_0 D a0) (S8_0 D a0)) (D.fc 4607182418800017408)) (S37_0 D a4))))))) (D.fc 0)) (D.fc 0) (D.fsub (D.fc 4607182418800017408) (D.fmul (S28_0 D (D.fdiv (D.fsub (D.fc 4607182418800017408) (S37_0 D a4)) (D.fadd (D.fc 4607182418800017408) (D.fmul (D.fsub (D.fmul (S8_0 D a0) (S8_0 D a0)) (D.fc 4607182418800017408)) (S37_0 D a4))))) (S28_0 D (D.fdiv (D.fsub (D.fc 4607182418800017408) (S37_0 D a4)) (D.fadd (D.fc 4607182418800017408) (D.fmul (D.fsub (D.fmul (S8_0 D a0) (S8_0 D a0)) (D.fc 4607182418800017408)) (S37_0 D a4)))))))))) (S28_0 D (D.fdiv (D.fsub (D.fc 4607182418800017408) (S37_0 D a4)) (D.fadd (D.fc 4607182418800017408) (D.fmul (D.fsub (D.fmul (S8_0 D a0) (S8_0 D a0)) (D.fc 4607182418800017408)) (S37_0 D a4)))))) (D.fc 0)) (D.fgt a3 (D.fc 0)) (D.bc false)) (D.fgt (S40_2 D (S41_2 D (S28_0 D (D.fdiv (D.fsub (D.fc 4607182418800017408) (S37_0 D a4)) (D.fadd (D.fc 4607182418800017408) (D.fmul (D.fsub (D.fmul (S8_0 D a0) (S8_0 D a0)) (D.fc 4607182418800017408)) (S37_0 D a4))))) (D.fmul (D.fc 4611686018427387904) (S39_0 D a1 a2 a3 (D.fmul (S38_0 D a5) (S28_0 D (D.fite (D.flt (D.fsub (D.fc 4607182418800017408) (D.fmul (S28_0 D (D.fdiv (D.fsub (D.fc 4607182418800017408) (S37_0 D a4)) (D.fadd (D.fc 4607182418800017408) (D.fmul (D.fsub (D.fmul (S8_0 D a0) (S8_0 D a0)) (D.fc 4607182418800017408)) (S37_0 D a4))))) (S28_0 D (D.fdiv (D.fsub (D.fc 4607182418800017408) (S37_0 D a4)) (D.fadd (D.fc 4607182418800017408) (D.fmul (D.fsub (D.fmul (S8_0 D a0) (S8_0 D a0)) (D.fc 4607182418800017408)) (S37_0 D a4))))))) (D.fc 0)) (D.fc 0) (D.fsub (D.fc 4607182418800017408) (D.fmul (S28_0 D (D.fdiv (D.fsub (D.fc 4607182418800017408) (S37_0 D a4)) (D.fadd (D.fc 4607182418800017408) (D.fmul (D.fsub (D.fmul (S8_0 D a0) (S8_0 D a0)) (D.fc 4607182418800017408)) (S37_0 D a4))))) (S28_0 D (D.fdiv (D.fsub (D.fc 4607182418800017408) (S37_0 D a4)) (D.fadd (D.fc 4607182418800017408) (D.fmul (D.fsub (D.fmul (S8_0 D a0) (S8_0 D a0)) (D.fc 4607182418800017408)) (S37_0 D a4)))))))))) (D.fmul (S38_1 D a5) (S28_0 D (D.fite (D.flt (D.fsub (D.fc 4607182418800017408) (D.fmul (S28_0 D (D.fdiv (D.fsub (D.fc 4607182418800017408) (S37_0 D a4)) (D.fadd (D.fc 4607182418800017408) (D.fmul (D.fsub (D.fmul (S8_0 D a0) (S8_0 D a0)) (D.fc 4607182418800017408)) (S37_0 D a4))))) (S28_0 D (D.fdiv (D.fsub (D.fc 4607182418800017408) (S37_0 D a4)) (D.fadd (D.fc 4607182418800017408) (D.fmul (D.fsub (D.fmul (S8_0 D a0) (S8_0 D a0)) (D.fc 4607182418800017408)) (S37_0 D a4))))))) (D.fc 0)) (D.fc 0) (D.fsub (D.fc 4607182418800017408) (D.fmul (S28_0 D (D.fdiv (D.fsub (D.fc 4607182418800017408) (S37_0 D a4)) (D.fadd (D.fc 4607182418800017408) (D.fmul (D.fsub (D.fmul (S8_0 D a0) (S8_0 D a0)) (D.fc 4607182418800017408)) (S37_0 D a4))))) (S28_0 D (D.fdiv (D.fsub (D.fc 4607182418800017408) (S37_0 D a4)) (D.fadd (D.fc 4607182418800017408) (D.fmul (D.fsub (D.fmul (S8_0 D a0) (S8_0 D a0)) (D.fc 4607182418800017408)) (S37_0 D a4)))))))))) (S28_0 D (D.fdiv (D.fsub (D.fc 4607182418800017408) (S37_0 D a4)) (D.fadd (D.fc 4607182418800017408) (D.fmul (D.fsub (D.fmul (S8_0 D a0) (S8_0 D a0)) (D.fc 4607182418800017408)) (S37_0 D a4)))))))) a3) (D.fc 0)) (D.bc false)) (S40_0 D (S41_0 D (D.fmul (S38_0 D a5) (S28_0 D (D.fite (D.flt (D.fsub (D.fc 4607182418800017408) (D.fmul (S28_0 D (D.fdiv (D.fsub (D.fc 4607182418800017408) (S37_0 D a4)) (D.fadd (D.fc 4607182418800017408) (D.fmul (D.fsub (D.fmul (S8_0 D a0) (S8_0 D a0)) (D.fc 4607182418800017408)) (S37_0 D a4))))) (S28_0 D (D.fdiv (D.fsub (D.fc 4607182418800017408) (S37_0 D a4)) (D.fadd (D.fc 4607182418800017408) (D.fmul (D.fsub (D.fmul (S8_0 D a0) (S8_0 D a0)) (D.fc 4607182418800017408)) (S37_0 D a4))))))) (D.fc 0)) (D.fc 0) (D.fsub (D.fc 4607182418800017408) (D.fmul (S28_0 D (D.fdiv (D.fsub (D.fc 4607182418800017408) (S37_0 D a4)) (D.fadd (D.fc 4607182418800017408) (D.fmul (D.fsub (D.fmul (S8_0 D a0) (S8_0 D a0)) (D.fc 4607182418800017408)) (S37_0 D a4))))) (S28_0 D (D.fdiv (D.fsub (D.fc 4607182418800017408) (S37_0 D a4)) (D.fadd (D.fc 4607182418800017408) (D.fmul (D.fsub (D.fmul (S8_0 D a0) (S8_0 D a0)) (D.fc 4607182418800017408)) (S37_0 D a4)))))))))) (D.fmul (D.fc 4611686018427387904) (S39_0 D a1 a2 a3 (D.fmul (S38_0 D a5) (S28_0 D (D.fite (D.flt (D.fsub (D.fc 4607182418800017408) (D.fmul (S28_0 D (D.fdiv (D.fsub (D.fc 4607182418800017408) (S37_0 D a4)) (D.fadd (D.fc 4607182418800017408) (D.fmul (D.fsub (D.fmul (S8_0 D a0) (S8_0 D a0)) (D.fc 4607182418800017408)) (S37_0 D a4))))) (S28_0 D (D.fdiv (D.fsub (D.fc 4607182418800017408) (S37_0 D a4)) (D.fadd (D.fc 4607182418800017408) (D.fmul (D.fsub (D.fmul (S8_0 D a0) (S8_0 D a0)) (D.fc 4607182418800017408)) (S37_0 D a4))))))) (D.fc 0)) (D.fc 0) (D.fsub (D.fc 4607182418800017408) (D.fmul (S28_0 D (D.fdiv (D.fsub (D.fc 4607182418800017408) (S37_0 D a4)) (D.fadd (D.fc 4607182418800017408) (D.fmul (D.fsub (D.fmul (S8_0 D a0) (S8_0 D a0)) (D.fc 4607182418800017408)) (S37_0 D a4))))) (S28_0 D (D.fdiv (D.fsub (D.fc 4607182418800017408) (S37_0 D a4)) (D.fadd (D.fc 4607182418800017408) (D.fmul (D.fsub (D.fmul (S8_0 D a0) (S8_0 D a0)) (D.fc 4607182418800017408)) (S37_0 D a4)))))))))) (D.fmul (S38_1 D a5) (S28_0 D (D.fite (D.flt (D.fsub (D.fc 4607182418800017408) (D.fmul (S28_0 D (D.fdiv (D.fsub (D.fc 4607182418800017408) (S37_0 D a4)) (D.fadd (D.fc 4607182418800017408) (D.fmul (D.fsub (D.fmul (S8_0 D a0) (S8_0 D a0)) (D.fc 4607182418800017408)) (S37_0 D a4))))) (S28_0 D (D.fdiv (D.fsub (D.fc 4607182418800017408) (S37_0 D a4)) (D.fadd (D.fc 4607182418800017408) (D.fmul (D.fsub (D.fmul (S8_0 D a0) (S8_0 D a0)) (D.fc 4607182418800017408)) (S37_0 D a4))))))) (D.fc 0)) (D.fc 0) (D.fsub (D.fc 4607182418800017408) (D.fmul (S28_0 D (D.fdiv (D.fsub (D.fc 4607182418800017408) (S37_0 D a4)) (D.fadd (D.fc 4607182418800017408) (D.fmul (D.fsub (D.fmul (S8_0 D a0) (S8_0 D a0)) (D.fc 4607182418800017408)) (S37_0 D a4))))) (S28_0 D (D.fdiv (D.fsub (D.fc 4607182418800017408) (S37_0 D a4)) (D.fadd (D.fc 4607182418800017408) (D.fmul (D.fsub (D.fmul (S8_0 D a0) (S8_0 D a0)) (D.fc 4607182418800017408)) (S37_0 D a4)))))))))) (S28_0 D (D.fdiv (D.fsub (D.fc 4607182418800017408) (S37_0 D a4)) (D.fadd (D.fc 4607182418800017408) (D.fmul (D.fsub (D.fmul (S8_0 D a0) (S8_0 D a0)) (D.fc 4607182418800017408)) (S37_0 D a4)))))))) a1) (D.fc 0))
def S18_1 (D : Dom) (a0 : D.F) (a1 : D.F) (a2 : D.F) (a3 : D.F) (a4 : D.F) (a5 : D.F) : D.F := (D.fite (D.bite (D.bite (D.fgt (S39_0 D a1 a2 a3 (D.fmul (S38_0 D a5) (S28_0 D (D.fite (D.flt (D.fsub (D.fc 4607182418800017408) (D.fmul (S28_0 D (D.fdiv (D.fsub (D.fc 4607182418800017408) (S37_0 D a4)) (D.fadd (D.fc 4607182418800017408) (D.fmul (D.fsub (D.fmul (S8_0 D a0) (S8_0 D a0)) (D.fc 4607182418800017408)) (S37_0 D a4))))) (S28_0 D (D.fdiv (D.fsub (D.fc 4607182418800017408) (S37_0 D a4)) (D.fadd (D.fc 4607182418800017408) (D.fmul (D.fsub (D.fmul (S8_0 D a0) (S8_0 D a0)) (D.fc 4607182418800017408)) (S37_0 D a4))))))) (D.fc 0)) (D.fc 0) (D.fsub (D.fc 4607182418800017408) (D.fmul (S28_0 D (D.fdiv (D.fsub (D.fc 4607182418800017408) (S37_0 D a4)) (D.fadd (D.fc 4607182418800017408) (D.fmul (D.fsub (D.fmul (S8_0 D a0) (S8_0 D a0)) (D.fc 4607182418800017408)) (S37_0 D a4))))) (S28_0 D (D.fdiv (D.fsub (D.fc 4607182418800017408) (S37_0 D a4)) (D.fadd (D.fc 4607182418800017408) (D.fmul (D.fsub (D.fmul (S8_0 D a0) (S8_0 D a0)) (D.fc 4607182418800017408)) (S37_0 D a4)))))))))) (D.fmul (S38_1 D a5) (S28_0 D (D.fite (D.flt (D.fsub (D.fc 4607182418800017408) (D.fmul (S28_0 D (D.fdiv (D.fsub (D.fc 4607182418800017408) (S37_0 D a4)) (D.fadd (D.fc 4607182418800017408) (D.fmul (D.fsub (D.fmul (S8_0 D a0) (S8_0 D a0)) (D.fc 4607182418800017408)) (S37_0 D a4))))) (S28_0 D (D.fdiv (D.fsub (D.fc 4607182418800017408) (S37_0 D a4)) (D.fadd (D.fc 4607182418800017408) (D.fmul (D.fsub (D.fmul (S8_0 D a0) (S8_0 D a0)) (D.fc 4607182418800017408)) (S37_0 D a4))))))) (D.fc 0)) (D.fc 0) (D.fsub (D.fc 4607182418800017408) (D.fmul (S28_0 D (D.fdiv (D.fsub (D.fc 4607182418800017408) (S37_0 D a4)) (D.fadd (D.fc 4607182418800017408) (D.fmul (D.fsub (D.fmul (S8_0 D a0) (S8_0 D a0)) (D.fc 4607182418800017408)) (S37_0 D a4))))) (S28_0 D (D.fdiv (D.fsub (D.fc 4607182418800017408) (S37_0 D a4)) (D.fadd (D.fc 4607182418800017408) (D.fmul (D.fsub (D.fmul (S8_0 D a0) (S8_0 D a0)) (D.fc 4607182418800017408)) (S37_0 D a4)))))))))) (S28_0 D (D.fdiv (D.fsub (D.fc 4607182418800017408) (S37_0 D a4)) (D.fadd (D.fc 4607182418800017408) (D.fmul (D.fsub (D.fmul (S8_0 D a0) (S8_0 D a0)) (D.fc 4607182418800017408)) (S37_0 D a4)))))) (D.fc 0)) (D.fgt a3 (D.fc 0)) (D.bc false)) (D.fgt (S40_2 D (S41_2 D (S28_0 D (D.fdiv (D.fsub (D.fc 4607182418800017408) (S37_0 D a4)) (D.fadd (D.fc 4607182418800017408) (D.fmul (D.fsub (D.fmul (S8_0 D a0) (S8_0 D a0)) (D.fc 4607182418800017408)) (S37_0 D a4))))) (D.fmul (D.fc 4611686018427387904) (S39_0 D a1 a2 a3 (D.fmul (S38_0 D a5) (S28_0 D (D.fite (D.flt (D.fsub (D.fc 4607182418800017408) (D.fmul (S28_0 D (D.fdiv (D.fsub (D.fc 4607182418800017408) (S37_0 D a4)) (D.fadd (D.fc 4607182418800017408) (D.fmul (D.fsub (D.fmul (S8_0 D a0) (S8_0 D a0)) (D.fc 4607182418800017408)) (S37_0 D a4))))) (S28_0 D (D.fdiv (D.fsub (D.fc 4607182418800017408) (S37_0 D a4)) (D.fadd (D.fc 4607182418800017408) (D.fmul (D.fsub (D.fmul (S8_0 D a0) (S8_0 D a0)) (D.fc 4607182418800017408)) (S37_0 D a4))))))) (D.fc 0)) (D.fc 0) (D.fsub (D.fc 4607182418800017408) (D.fmul (S28_0 D (D.fdiv (D.fsub (D.fc 4607182418800017408) (S37_0 D a4)) (D.fadd (D.fc 4607182418800017408) (D.fmul (D.fsub (D.fmul (S8_0 D a0) (S8_0 D a0)) (D.fc 4607182418800017408)) (S37_0 D a4))))) (S28_0 D (D.fdiv (D.fsub (D.fc 4607182418800017408) (S37_0 D a4)) (D.fadd (D.fc 4607182418800017408) (D.fmul (D.fsub (D.fmul (S8_0 D a0) (S8_0 D a0)) (D.fc 4607182418800017408)) (S37_0 D a4)))))))))) (D.fmul (S38_1 D a5) (S28_0 D (D.fite (D.flt (D.fsub (D.fc 4607182418800017408) (D.fmul (S28_0 D (D.fdiv (D.fsub (D.fc 4607182418800017408) (S37_0 D a4)) (D.fadd (D.fc 4607182418800017408) (D.fmul (D.fsub (D.fmul (S8_0 D a0) (S8_0 D a0)) (D.fc 4607182418800017408)) (S37_0 D a4))))) (S28_0 D (D.fdiv (D.fsub (D.fc 4607182418800017408) (S37_0 D a4)) (D.fadd (D.fc 4607182418800017408) (D.fmul (D.fsub (D.fmul (S8_0 D a0) (S8_0 D a0)) (D.fc 4607182418800017408)) (S37_0 D a4))))))) (D.fc 0)) (D.fc 0) (D.fsub (D.fc 4607182418800017408) (D.fmul (S28_0 D (D.fdiv (D.fsub (D.fc 4607182418800017408) (S37_0 D a4)) (D.fadd (D.fc 4607182418800017408) (D.fmul (D.fsub (D.fmul (S8_0 D a0) (S8_0 D a0)) (D.fc 4607182418800017408)) (S37_0 D a4))))) (S28_0 D (D.fdiv (D.fsub (D.fc 4607182418800017408) (S37_0 D a4)) (D.fadd (D.fc 4607182418800017408) (D.fmul (D.fsub (D.fmul (S8_0 D a0) (S8_0 D a0)) (D.fc 4607182418800017408)) (S37_0 D a4)))))))))) (S28_0 D (D.fdiv (D.fsub (D.fc 4607182418800017408) (S37_0 D a4)) (D.fadd (D.fc 4607182418800017408) (D.fmul (D.fsub (D.fmul (S8_0 D a0) (S8_0 D a0)) (D.fc 4607182418800017408)) (S37_0 D a4)))))))) a3) (D.fc 0)) (D.bc false)) (S40_1 D (S41_1 D (D.fmul (S38_1 D a5) (S28_0 D (D.fite (D.flt (D.fsub (D.fc 4607182418800017408) (D.fmul (S28_0 D (D.fdiv (D.fsub (D.fc 4607182418800017408) (S37_0 D a4)) (D.fadd (D.fc 4607182418800017408) (D.fmul (D.fsub (D.fmul (S8_0 D a0) (S8_0 D a0)) (D.fc 4607182418800017408)) (S37_0 D a4))))) (S28_0 D (D.fdiv (D.fsub (D.fc 4607182418800017408) (S37_0 D a4)) (D.fadd (D.fc 4607182418800017408) (D.fmul (D.fsub (D.fmul (S8_0 D a0) (S8_0 D a0)) (D.fc 4607182418800017408)) (S37_0 D a4))))))) (D.fc 0)) (D.fc 0) (D.fsub (D.fc 4607182418800017408) (D.fmul (S28_0 D (D.fdiv (D.fsub (D.fc 4607182418800017408) (S37_0 D a4)) (D.fadd (D.fc 4607182418800017408) (D.fmul (D.fsub (D.fmul (S8_0 D a0) (S8_0 D a0)) (D.fc 4607182418800017408)) (S37_0 D a4))))) (S28_0 D (D.fdiv (D.fsub (D.fc 4607182418800017408) (S37_0 D a4)) (D.fadd (D.fc 4607182418800017408) (D.fmul (D.fsub (D.fmul (S8_0 D a0) (S8_0 D a0)) (D.fc 4607182418800017408)) (S37_0 D a4)))))))))) (D.fmul (D.fc 4611686018427387904) (S39_0 D a1 a2 a3 (D.fmul (S38_0 D a5) (S28_0 D (D.fite (D.flt (D.fsub (D.fc 4607182418800017408) (D.fmul (S28_0 D (D.fdiv (D.fsub (D.fc 4607182418800017408) (S37_0 D a4)) (D.fadd (D.fc 4607182418800017408) (D.fmul (D.fsub (D.fmul (S8_0 D a0) (S8_0 D a0)) (D.fc 4607182418800017408)) (S37_0 D a4))))) (S28_0 D (D.fdiv (D.fsub (D.fc 4607182418800017408) (S37_0 D a4)) (D.fadd (D.fc 4607182418800017408) (D.fmul (D.fsub (D.fmul (S8_0 D a0) (S8_0 D a0)) (D.fc 4607182418800017408)) (S37_0 D a4))))))) (D.fc 0)) (D.fc 0) (D.fsub (D.fc 4607182418800017408) (D.fmul (S28_0 D (D.fdiv (D.fsub (D.fc 4607182418800017408) (S37_0 D a4)) (D.fadd (D.fc 4607182418800017408) (D.fmul (D.fsub (D.fmul (S8_0 D a0) (S8_0 D a0)) (D.fc 4607182418800017408)) (S37_0 D a4))))) (S28_0 D (D.fdiv (D.fsub (D.fc 4607182418800017408) (S37_0 D a4)) (D.fadd (D.fc 4607182418800017408) (D.fmul (D.fsub (D.fmul (S8_0 D a0) (S8_0 D a0)) (D.fc 4607182418800017408)) (S37_0 D a4)))))))))) (D.fmul (S38_1 D a5) (S28_0 D (D.fite (D.flt (D.fsub (D.fc 4607182418800017408) (D.fmul (S28_0 D (D.fdiv (D.fsub (D.fc 4607182418800017408) (S37_0 D a4)) (D.fadd (D.fc 4607182418800017408) (D.fmul (D.fsub (D.fmul (S8_0 D a0) (S8_0 D a0)) (D.fc 4607182418800017408)) (S37_0 D a4))))) (S28_0 D (D.fdiv (D.fsub (D.fc 4607182418800017408) (S37_0 D a4)) (D.fadd (D.fc 4607182418800017408) (D.fmul (D.fsub (D.fmul (S8_0 D a0) (S8_0 D a0)) (D.fc 4607182418800017408)) (S37_0 D a4))))))) (D.fc 0)) (D.fc 0) (D.fsub (D.fc 4607182418800017408) (D.fmul (S28_0 D (D.fdiv (D.fsub (D.fc 4607182418800017408) (S37_0 D a4)) (D.fadd (D.fc 4607182418800017408) (D.fmul (D.fsub (D.fmul (S8_0 D a0) (S8_0 D a0)) (D.fc 4607182418800017408)) (S37_0 D a4))))) (S28_0 D (D.fdiv (D.fsub (D.fc 4607182418800017408) (S37_0 D a4)) (D.fadd (D.fc 4607182418800017408) (D.fmul (D.fsub (D.fmul (S8_0 D a0) (S8_0 D a0)) (D.fc 4607182418800017408)) (S37_0 D a4)))))))))) (S28_0 D (D.fdiv (D.fsub (D.fc 4607182418800017408) (S37_0 D a4)) (D.fadd (D.fc 4607182418800017408) (D.fmul (D.fsub (D.fmul (S8_0 D a0) (S8_0 D a0)) (D.fc 4607182418800017408)) (S37_0 D a4)))))))) a2) (D.fc 0))
def S18_2 (D : Dom) (a0 : D.F) (a1 : D.F) (a2 : D.F) (a3 : D.F) (a4 : D.F) (a5 : D.F) : D.F := (D.fite (D.bite (D.bite (D.fgt (S39_0 D a1 a2 a3 (D.fmul (S38_0 D a5) (S28_0 D (D.fite (D.flt (D.fsub (D.fc 4607182418800017408) (D.fmul (S28_0 D (D.fdiv (D.fsub (D.fc 4607182418800017408) (S37_0 D a4)) (D.fadd (D.fc 4607182418800017408) (D.fmul (D.fsub (D.fmul (S8_0 D a0) (S8_0 D a0)) (D.fc 4607182418800017408)) (S37_0 D a4))))) (S28_0 D (D.fdiv (D.fsub (D.fc 4607182418800017408) (S37_0 D a4)) (D.fadd (D.fc 4607182418800017408) (D.fmul (D.fsub (D.fmul (S8_0 D a0) (S8_0 D a0)) (D.fc 4607182418800017408)) (S37_0 D a4))))))) (D.fc 0)) (D.fc 0) (D.fsub (D.fc 4607182418800017408) (D.fmul (S28_0 D (D.fdiv (D.fsub (D.fc 4607182418800017408) (S37_0 D a4)) (D.fadd (D.fc 4607182418800017408) (D.fmul (D.fsub (D.fmul (S8_0 D a0) (S8_0 D a0)) (D.fc 4607182418800017408)) (S37_0 D a4))))) (S28_0 D (D.fdiv (D.fsub (D.fc 4607182418800017408) (S37_0 D a4)) (D.fadd (D.fc 4607182418800017408) (D.fmul (D.fsub (D.fmul (S8_0 D a0) (S8_0 D a0)) (D.fc 4607182418800017408)) (S37_0 D a4)))))))))) (D.fmul (S38_1 D a5) (S28_0 D (D.fite (D.flt (D.fsub (D.fc 4607182418800017408) (D.fmul (S28_0 D (D.fdiv (D.fsub (D.fc 4607182418800017408) (S37_0 D a4)) (D.fadd (D.fc 4607182418800017408) (D.fmul (D.fsub (D.fmul (S8_0 D a0) (S8_0 D a0)) (D.fc 4607182418800017408)) (S37_0 D a4))))) (S28_0 D (D.fdiv (D.fsub (D.fc 4607182418800017408) (S37_0 D a4)) (D.fadd (D.fc 4607182418800017408) (D.fmul (D.fsub (D.fmul (S8_0 D a0) (S8_0 D a0)) (D.fc 4607182418800017408)) (S37_0 D a4))))))) (D.fc 0)) (D.fc 0) (D.fsub (D.fc 4607182418800017408) (D.fmul (S28_0 D (D.fdiv (D.fsub (D.fc 4607182418800017408) (S37_0 D a4)) (D.fadd (D.fc 4607182418800017408) (D.fmul (D.fsub (D.fmul (S8_0 D a0) (S8_0 D a0)) (D.fc 4607182418800017408)) (S37_0 D a4))))) (S28_0 D (D.fdiv (D.fsub (D.fc 4607182418800017408) (S37_0 D a4)) (D.fadd (D.fc 4607182418800017408) (D.fmul (D.fsub (D.fmul (S8_0 D a0) (S8_0 D a0)) (D.fc 4607182418800017408)) (S37_0 D a4)))))))))) (S28_0 D (D.fdiv (D.fsub (D.fc 4607182418800017408) (S37_0 D a4)) (D.fadd (D.fc 4607182418800017408) (D.fmul (D.fsub (D.fmul (S8_0 D a0) (S8_0 D a0)) (D.fc 4607182418800017408)) (S37_0 D a4)))))) (D.fc 0)) (D.fgt a3 (D.fc 0)) (D.bc false)) (D.fgt (S40_2 D (S41_2 D (S28_0 D (D.fdiv (D.fsub (D.fc 4607182418800017408) (S37_0 D a4)) (D.fadd (D.fc 4607182418800017408) (D.fmul (D.fsub (D.fmul (S8_0 D a0) (S8_0 D a0)) (D.fc 4607182418800017408)) (S37_0 D a4))))) (D.fmul (D.fc 4611686018427387904) (S39_0 D a1 a2 a3 (D.fmul (S38_0 D a5) (S28_0 D (D.fite (D.flt (D.fsub (D.fc 4607182418800017408) (D.fmul (S28_0 D (D.fdiv (D.fsub (D.fc 4607182418800017408) (S37_0 D a4)) (D.fadd (D.fc 4607182418800017408) (D.fmul (D.fsub (D.fmul (S8_0 D a0) (S8_0 D a0)) (D.fc 4607182418800017408)) (S37_0 D a4))))) (S28_0 D (D.fdiv (D.fsub (D.fc 4607182418800017408) (S37_0 D a4)) (D.fadd (D.fc 4607182418800017408) (D.fmul (D.fsub (D.fmul (S8_0 D a0) (S8_0 D a0)) (D.fc 4607182418800017408)) (S37_0 D a4))))))) (D.fc 0)) (D.fc 0) (D.fsub (D.fc 4607182418800017408) (D.fmul (S28_0 D (D.fdiv (D.fsub (D.fc 4607182418800017408) (S37_0 D a4)) (D.fadd (D.fc 4607182418800017408) (D.fmul (D.fsub (D.fmul (S8_0 D a0) (S8_0 D a0)) (D.fc 4607182418800017408)) (S37_0 D a4))))) (S28_0 D (D.fdiv (D.fsub (D.fc 4607182418800017408) (S37_0 D a4)) (D.fadd (D.fc 4607182418800017408) (D.fmul (D.fsub (D.fmul (S8_0 D a0) (S8_0 D a0)) (D.fc 4607182418800017408)) (S37_0 D a4)))))))))) (D.fmul (S38_1 D a5) (S28_0 D (D.fite (D.flt (D.fsub (D.fc 4607182418800017408) (D.fmul (S28_0 D (D.fdiv (D.fsub (D.fc 4607182418800017408) (S37_0 D a4)) (D.fadd (D.fc 4607182418800017408) (D.fmul (D.fsub (D.fmul (S8_0 D a0) (S8_0 D a0)) (D.fc 4607182418800017408)) (S37_0 D a4))))) (S28_0 D (D.fdiv (D.fsub (D.fc 4607182418800017408) (S37_0 D a4)) (D.fadd (D.fc 4607182418800017408) (D.fmul (D.fsub (D.fmul (S8_0 D a0) (S8_0 D a0)) (D.fc 4607182418800017408)) (S37_0 D a4))))))) (D.fc 0)) (D.fc 0) (D.fsub (D.fc 4607182418800017408) (D.fmul (S28_0 D (D.fdiv (D.fsub (D.fc 4607182418800017408) (S37_0 D a4)) (D.fadd (D.fc 4607182418800017408) (D.fmul (D.fsub (D.fmul (S8_0 D a0) (S8_0 D a0)) (D.fc 4607182418800017408)) (S37_0 D a4))))) (S28_0 D (D.fdiv (D.fsub (D.fc 4607182418800017408) (S37_0 D a4)) (D.fadd (D.fc 4607182418800017408) (D.fmul (D.fsub (D.fmul (S8_0 D a0) (S8_0 D a0)) (D.fc 4607182418800017408)) (S37_0 D a4)))))))))) (S28_0 D (D.fdiv (D.fsub (D.fc 4607182418800017408) (S37_0 D a4)) (D.fadd (D.fc 4607182418800017408) (D.fmul (D.fsub (D.fmul (S8_0 D a0) (S8_0 D a0)) (D.fc 4607182418800017408)) (S37_0 D a4)))))))) a3) (D.fc 0)) (D.bc false)) (S40_2 D (S41_2 D (S28_0 D (D.fdiv (D.fsub (D.fc 4607182418800017408) (S37_0 D a4)) (D.fadd (D.fc 4607182418800017408) (D.fmul (D.fsub (D.fmul (S8_0 D a0) (S8_0 D a0)) (D.fc 4607182418800017408)) (S37_0 D a4))))) (D.fmul (D.fc 4611686018427387904) (S39_0 D a1 a2 a3 (D.fmul (S38_0 D a5) (S28_0 D (D.fite (D.flt (D.fsub (D.fc 4607182418800017408) (D.fmul (S28_0 D (D.fdiv (D.fsub (D.fc 4607182418800017408) (S37_0 D a4)) (D.fadd (D.fc 4607182418800017408) (D.fmul (D.fsub (D.fmul (S8_0 D a0) (S8_0 D a0)) (D.fc 4607182418800017408)) (S37_0 D a4))))) (S28_0 D (D.fdiv (D.fsub (D.fc 4607182418800017408) (S37_0 D a4)) (D.fadd (D.fc 4607182418800017408) (D.fmul (D.fsub (D.fmul (S8_0 D a0) (S8_0 D a0)) (D.fc 4607182418800017408)) (S37_0 D a4))))))) (D.fc 0)) (D.fc 0) (D.fsub (D.fc 4607182418800017408) (D.fmul (S28_0 D (D.fdiv (D.fsub (D.fc 4607182418800017408) (S37_0 D a4)) (D.fadd (D.fc 4607182418800017408) (D.fmul (D.fsub (D.fmul (S8_0 D a0) (S8_0 D a0)) (D.fc 4607182418800017408)) (S37_0 D a4))))) (S28_0 D (D.fdiv (D.fsub (D.fc 4607182418800017408) (S37_0 D a4)) (D.fadd (D.fc 4607182418800017408) (D.fmul (D.fsub (D.fmul (S8_0 D a0) (S8_0 D a0)) (D.fc 4607182418800017408)) (S37_0 D a4)))))))))) (D.fmul (S38_1 D a5) (S28_0 D (D.fite (D.flt (D.fsub (D.fc 4607182418800017408) (D.fmul (S28_0 D (D.fdiv (D.fsub (D.fc 4607182418800017408) (S37_0 D a4)) (D.fadd (D.fc 4607182418800017408) (D.fmul (D.fsub (D.fmul (S8_0 D a0) (S8_0 D a0)) (D.fc 4607182418800017408)) (S37_0 D a4))))) (S28_0 D (D.fdiv (D.fsub (D.fc 4607182418800017408) (S37_0 D a4)) (D.fadd (D.fc 4607182418800017408) (D.fmul (D.fsub (D.fmul (S8_0 D a0) (S8_0 D a0)) (D.fc 4607182418800017408)) (S37_0 D a4))))))) (D.fc 0)) (D.fc 0) (D.fsub (D.fc 4607182418800017408) (D.fmul (S28_0 D (D.fdiv (D.fsub (D.fc 4607182418800017408) (S37_0 D a4)) (D.fadd (D.fc 4607182418800017408) (D.fmul (D.fsub (D.fmul (S8_0 D a0) (S8_0 D a0)) (D.fc 4607182418800017408)) (S37_0 D a4))))) (S28_0 D (D.fdiv (D.fsub (D.fc 4607182418800017408) (S37_0 D a4)) (D.fadd (D.fc 4607182418800017408) (D.fmul (D.fsub (D.fmul (S8_0 D a0) (S8_0 D a0)) (D.fc 4607182418800017408)) (S37_0 D a4)))))))))) (S28_0 D (D.fdiv (D.fsub (D.fc 4607182418800017408) (S37_0 D a4)) (D.fadd (D.fc 4607182418800017408) (D.fmul (D.fsub (D.fmul (S8_0 D a0) (S8_0 D a0)) (D.fc 4607182418800017408)) (S37_0 D a4)))))))) a3) (D.fc 0))
def S18_3 (D : Dom) (a0 : D.F) (a1 : D.F) (a2 : D.F) (a3 : D.F) (a4 : D.F) (a5 : D.F) : D.B := (D.bite (D.bite (D.bite (D.fgt (S39_0 D a1 a2 a3 (D.fmul (S38_0 D a5) (S28_0 D (D.fite (D.flt (D.fsub (D.fc 4607182418800017408) (D.fmul (S28_0 D (D.fdiv (D.fsub (D.fc 4607182418800017408) (S37_0 D a4)) (D.fadd (D.fc 4607182418800017408) (D.fmul (D.fsub (D.fmul (S8_0 D a0) (S8_0 D a0)) (D.fc 4607182418800017408)) (S37_0 D a4))))) (S28_0 D (D.fdiv (D.fsub (D.fc 4607182418800017408) (S37_0 D a4)) (D.fadd (D.fc 4607182418800017408) (D.fmul (D.fsub (D.fmul (S8_0 D a0) (S8_0 D a0)) (D.fc 4607182418800017408)) (S37_0 D a4))))))) (D.fc 0)) (D.fc 0) (D.fsub (D.fc 4607182418800017408) (D.fmul (S28_0 D (D.fdiv (D.fsub (D.fc 4607182418800017408) (S37_0 D a4)) (D.fadd (D.fc 4607182418800017408) (D.fmul (D.fsub (D.fmul (S8_0 D a0) (S8_0 D a0)) (D.fc 4607182418800017408)) (S37_0 D a4))))) (S28_0 D (D.fdiv (D.fsub (D.fc 4607182418800017408) (S37_0 D a4)) (D.fadd (D.fc 4607182418800017408) (D.fmul (D.fsub (D.fmul (S8_0 D a0) (S8_0 D a0)) (D.fc 4607182418800017408)) (S37_0 D a4)))))))))) (D.fmul (S38_1 D a5) (S28_0 D (D.fite (D.flt (D.fsub (D.fc 4607182418800017408) (D.fmul (S28_0 D (D.fdiv (D.fsub (D.fc 4607182418800017408) (S37_0 D a4)) (D.fadd (D.fc 4607182418800017408) (D.fmul (D.fsub (D.fmul (S8_0 D a0) (S8_0 D a0)) (D.fc 4607182418800017408)) (S37_0 D a4))))) (S28_0 D (D.fdiv (D.fsub (D.fc 4607182418800017408) (S37_0 D a4)) (D.fadd (D.fc 4607182418800017408) (D.fmul (D.fsub (D.fmul (S8_0 D a0) (S8_0 D a0)) (D.fc 4607182418800017408)) (S37_0 D a4))))))) (D.fc 0)) (D.fc 0) (D.fsub (D.fc 4607182418800017408) (D.fmul (S28_0 D (D.fdiv (D.fsub (D.fc 4607182418800017408) (S37_0 D a4)) (D.fadd (D.fc 4607182418800017408) (D.fmul (D.fsub (D.fmul (S8_0 D a0) (S8_0 D a0)) (D.fc 4607182418800017408)) (S37_0 D a4))))) (S28_0 D (D.fdiv (D.fsub (D.fc 4607182418800017408) (S37_0 D a4)) (D.fadd (D.fc 4607182418800017408) (D.fmul (D.fsub (D.fmul (S8_0 D a0) (S8_0 D a0)) (D.fc 4607182418800017408)) (S37_0 D a4)))))))))) (S28_0 D (D.fdiv (D.fsub (D.fc 4607182418800017408) (S37_0 D a4)) (D.fadd (D.fc 4607182418800017408) (D.fmul (D.fsub (D.fmul (S8_0 D a0) (S8_0 D a0)) (D.fc 4607182418800017408)) (S37_0 D a4)))))) (D.fc 0)) (D.fgt a3 (D.fc 0)) (D.bc false)) (D.fgt (S40_2 D (S41_2 D (S28_0 D (D.fdiv (D.fsub (D.fc 4607182418800017408) (S37_0 D a4)) (D.fadd (D.fc 4607182418800017408) (D.fmul (D.fsub (D.fmul (S8_0 D a0) (S8_0 D a0)) (D.fc 4607182418800017408)) (S37_0 D a4))))) (D.fmul (D.fc 4611686018427387904) (S39_0 D a1 a2 a3 (D.fmul (S38_0 D a5) (S28_0 D (D.fite (D.flt (D.fsub (D.fc 4607182418800017408) (D.fmul (S28_0 D (D.fdiv (D.fsub (D.fc 4607182418800017408) (S37_0 D a4)) (D.fadd (D.fc 4607182418800017408) (D.fmul (D.fsub (D.fmul (S8_0 D a0) (S8_0 D a0)) (D.fc 4607182418800017408)) (S37_0 D a4))))) (S28_0 D (D.fdiv (D.fsub (D.fc 4607182418800017408) (S37_0 D a4)) (D.fadd (D.fc 4607182418800017408) (D.fmul (D.fsub (D.fmul (S8_0 D a0) (S8_0 D a0)) (D.fc 4607182418800017408)) (S37_0 D a4))))))) (D.fc 0)) (D.fc 0) (D.fsub (D.fc 4607182418800017408) (D.fmul (S28_0 D (D.fdiv (D.fsub (D.fc 4607182418800017408) (S37_0 D a4)) (D.fadd (D.fc 4607182418800017408) (D.fmul (D.fsub (D.fmul (S8_0 D a0) (S8_0 D a0)) (D.fc 4607182418800017408)) (S37_0 D a4))))) (S28_0 D (D.fdiv (D.fsub (D.fc 4607182418800017408) (S37_0 D a4)) (D.fadd (D.fc 4607182418800017408) (D.fmul (D.fsub (D.fmul (S8_0 D a0) (S8_0 D a0)) (D.fc 4607182418800017408)) (S37_0 D a4)))))))))) (D.fmul (S38_1 D a5) (S28_0 D (D.fite (D.flt (D.fsub (D.fc 4607182418800017408) (D.fmul (S28_0 D (D.fdiv (D.fsub (D.fc 4607182418800017408) (S37_0 D a4)) (D.fadd (D.fc 4607182418800017408) (D.fmul (D.fsub (D.fmul (S8_0 D a0) (S8_0 D a0)) (D.fc 4607182418800017408)) (S37_0 D a4))))) (S28_0 D (D.fdiv (D.fsub (D.fc 4607182418800017408) (S37_0 D a4)) (D.fadd (D.fc 4607182418800017408) (D.fmul (D.fsub (D.fmul (S8_0 D a0) (S8_0 D a0)) (D.fc 4607182418800017408)) (S37_0 D a4))))))) (D.fc 0)) (D.fc 0) (D.fsub (D.fc 4607182418800017408) (D.fmul (S28_0 D (D.fdiv (D.fsub (D.fc 4607182418800017408) (S37_0 D a4)) (D.fadd (D.fc 4607182418800017408) (D.fmul (D.fsub (D.fmul (S8_0 D a0) (S8_0 D a0)) (D.fc 4607182418800017408)) (S37_0 D a4))))) (S28_0 D (D.fdiv (D.fsub (D.fc 4607182418800017408) (S37_0 D a4)) (D.fadd (D.fc 4607182418800017408) (D.fmul (D.fsub (D.fmul (S8_0 D a0) (S8_0 D a0)) (D.fc 4607182418800017408)) (S37_0 D a4)))))))))) (S28_0 D (D.fdiv (D.fsub (D.fc 4607182418800017408) (S37_0 D a4)) (D.fadd (D.fc 4607182418800017408) (D.fmul (D.fsub (D.fmul (S8_0 D a0) (S8_0 D a0)) (D.fc 4607182418800017408)) (S37_0 D a4)))))))) a3) (D.fc 0)) (D.bc false)) (D.bc true) (D.bc false))
theorem ev18 (D : Dom) (a0 : D.F) (a1 : D.F) (a2 : D.F) (a3 : D.F) (a4 : D.F) (a5 : D.F) : joinT (evFn Try.prog (tbl_40 D) 60 18 [.fl a0, .agg [.fl a1, .fl a2, .fl a3], .fl a4, .fl a5]) = .val none (.tup [.agg [.fl (S18_0 D a0 a1 a2 a3 a4 a5), .fl (S18_1 D a0 a1 a2 a3 a4 a5), .fl (S18_2 D a0 a1 a2 a3 a4 a5)], .sb (S18_3 D a0 a1 a2 a3 a4 a5)]) := by kernel_rfl
def sp18 : Ev.Spec := fun D l => argF l fun a0 r0 => argA r0 fun c1 r1 => argF c1 fun a1 r2 => argF r2 fun a2 r3 => argF r3 fun a3 r4 => arg0 r4 (argF r1 fun a4 r101 => argF r101 fun a5 r102 => arg0 r102 (.ret (.tup [.agg [.fl (S18_0 D a0 a1 a2 a3 a4 a5), .fl (S18_1 D a0 a1 a2 a3 a4 a5), .fl (S18_2 D a0 a1 a2 a3 a4 a5)], .sb (S18_3 D a0 a1 a2 a3 a4 a5)])))
theorem en18 : ∀ l r, (sp18 R l).run = some r → Entry Try.prog 18 l r := by
  intro l r h
  obtain ⟨x0, _, h, L0⟩ := argF_inv h
  obtain ⟨_, _, h, L1⟩ := argA_inv h
  obtain ⟨x2, _, h, L2⟩ := argF_inv h
  obtain ⟨x3, _, h, L3⟩ := argF_inv h
  obtain ⟨x4, _, h, L4⟩ := argF_inv h
  obtain ⟨h, L5⟩ := arg0_inv h
  obtain ⟨x6, _, h, L6⟩ := argF_inv h
  obtain ⟨x7, _, h, L7⟩ := argF_inv h
  obtain ⟨h, L8⟩ := arg0_inv h
  cases h
  exact (entry_of prg tok_40 (ev18 R x0 x2 x3 x4 x6 x7) (fun o ho => nomatch ho) rfl).le (L0 _ (L1 _ _ (L2 _ (L3 _ (L4 _ L5))) (L6 _ (L7 _ L8))))
def tl_18 : List (Nat × Ev.Spec) := (18, sp18) :: tl_40
def tbl_18 (D : Dom) : Tbl D := tblOf tl_18 D
theorem tok_18 : TblOK Try.prog (tbl_18 R) := TblOK.cons tok_40 en18

-- penumbra/penumbraref02.Is
def S19_0 (D : Dom) (a0 : D.F) (a1 : D.F) (a2 : D.F) (a3 : D.F) (a4 : D.F) (a5 : D.F) : D.B := (D.bite (D.bite (S9_0 D a0 a3) (S9_0 D a1 a4) (D.bc false)) (S9_0 D a2 a5) (D.bc false))
theorem ev19 (D : Dom) (a0 : D.F) (a1 : D.F) (a2 : D.F) (a3 : D.F) (a4 : D.F) (a5 : D.F) : joinT (evFn Try.prog (tbl_18 D) 60 19 [.agg [.fl a0, .fl a1, .fl a2], .agg [.fl a3, .fl a4, .fl a5]]) = .val none (.sb (S19_0 D a0 a1 a2 a3 a4 a5)) := by kernel_rfl
def sp19 : Ev.Spec := fun D l => argA l fun c0 r0 => argF c0 fun a0 r1 => argF r1 fun a1 r2 => argF r2 fun a2 r3 => arg0 r3 (argA r0 fun c100 r100 => argF c100 fun a3 r101 => argF r101 fun a4 r102 => argF r102 fun a5 r103 => arg0 r103 (arg0 r100 (.ret (.sb (S19_0 D a0 a1 a2 a3 a4 a5)))))
theorem en19 : ∀ l r, (sp19 R l).run = some r → Entry Try.prog 19 l r := by
  intro l r h
  obtain ⟨_, _, h, L0⟩ := argA_inv h
  obtain ⟨x1, _, h, L1⟩ := argF_inv h
  obtain ⟨x2, _, h, L2⟩ := argF_inv h
  obtain ⟨x3, _, h, L3⟩ := argF_inv h
  obtain ⟨h, L4⟩ := arg0_inv h
  obtain ⟨_, _, h, L5⟩ := argA_inv h
  obtain ⟨x6, _, h, L6⟩ := argF_inv h
  obtain ⟨x7, _, h, L7⟩ := argF_inv h
  obtain ⟨x8, _, h, L8⟩ := argF_inv h
  obtain ⟨h, L9⟩ := arg0_inv h
  obtain ⟨h, L10⟩ := arg0_inv h
  cases h
  exact (entry_of prg tok_18 (ev19 R x1 x2 x3 x6 x7 x8) (fun o ho => nomatch ho) rfl).le (L0 _ _ (L1 _ (L2 _ (L3 _ L4))) (L5 _ _ (L6 _ (L7 _ (L8 _ L9))) L10))
def tl_19 : List (Nat × Ev.Spec) := (19, sp19) :: tl_18
def tbl_19 (D : Dom) : Tbl D := tblOf tl_19 D
theorem tok_19 : TblOK Try.prog (tbl_19 R) := TblOK.cons tok_18 en19

-- penumbra/penumbralaw15.GgxDraws
def S4_0 (D : Dom) (a0 : D.F) (a1 : D.F) (a2 : D.F) (a3 : D.F) (a4 : D.F) (a5 : D.F) : D.B := (D.bite (D.bite (D.bite (S6_0 D) (S19_0 D (S17_0 D a0 a1 a2 a3 a4 a5) (S17_1 D a0 a1 a2 a3 a4 a5) (S17_2 D a0 a1 a2 a3 a4 a5) (S18_0 D a0 a1 a2 a3 a4 a5) (S18_1 D a0 a1 a2 a3 a4 a5) (S18_2 D a0 a1 a2 a3 a4 a5)) (D.bc false)) (D.beq (S17_3 D a0 a1 a2 a3 a4 a5) (S18_3 D a0 a1 a2 a3 a4 a5)) (D.bc false)) (D.bite (D.bnot (S17_3 D a0 a1 a2 a3 a4 a5)) (D.bc true) (D.fgt (S17_2 D a0 a1 a2 a3 a4 a5) (D.fc 0))) (D.bc false))
def O4 (D : Dom) (a5 : D.F) : D.B := (D.band (O17 D a5) (O6 D))
theorem ev4 (D : Dom) (a0 : D.F) (a1 : D.F) (a2 : D.F) (a3 : D.F) (a4 : D.F) (a5 : D.F) : joinT (evFn Try.prog (tbl_19 D) 60 4 [.agg [.fl a0, .fl a1, .fl a2, .fl a3, .fl a4, .fl a5]]) = .val (some (O4 D a5)) (.sb (S4_0 D a0 a1 a2 a3 a4 a5)) := by kernel_rfl
def sp4 : Ev.Spec := fun D l => argA l fun c0 r0 => argF c0 fun a0 r1 => argF r1 fun a1 r2 => argF r2 fun a2 r3 => argF r3 fun a3 r4 => argF r4 fun a4 r5 => argF r5 fun a5 r6 => arg0 r6 (arg0 r0 (.node (O4 D a5) (.ret (.sb (S4_0 D a0 a1 a2 a3 a4 a5))) (.fail "pre")))
theorem en4 : ∀ l r, (sp4 R l).run = some r → Entry Try.prog 4 l r := by
  intro l r h
  obtain ⟨_, _, h, L0⟩ := argA_inv h
  obtain ⟨x1, _, h, L1⟩ := argF_inv h
  obtain ⟨x2, _, h, L2⟩ := argF_inv h
  obtain ⟨x3, _, h, L3⟩ := argF_inv h
  obtain ⟨x4, _, h, L4⟩ := argF_inv h
  obtain ⟨x5, _, h, L5⟩ := argF_inv h
  obtain ⟨x6, _, h, L6⟩ := argF_inv h
  obtain ⟨h, L7⟩ := arg0_inv h
  obtain ⟨h, L8⟩ := arg0_inv h
  obtain ⟨hok, rfl⟩ := run_okay h
  exact (entry_of prg tok_19 (ev4 R x1 x2 x3 x4 x5 x6) (fun o ho => (Option.some.inj ho) ▸ hok) rfl).le (L0 _ _ (L1 _ (L2 _ (L3 _ (L4 _ (L5 _ (L6 _ L7)))))) L8)
def tl_4 : List (Nat × Ev.Spec) := (4, sp4) :: tl_19
def tbl_4 (D : Dom) : Tbl D := tblOf tl_4 D
theorem tok_4 : TblOK Try.prog (tbl_4 R) := TblOK.cons tok_19 en4

-- penumbra/penumbraref02.Add
def S45_0 (D : Dom) (a0 : D.F) (a3 : D.F) : D.F := (D.fadd a0 a3)
def S45_1 (D : Dom) (a1 : D.F) (a4 : D.F) : D.F := (D.fadd a1 a4)
def S45_2 (D : Dom) (a2 : D.F) (a5 : D.F) : D.F := (D.fadd a2 a5)
theorem ev45 (D : Dom) (a0 : D.F) (a1 : D.F) (a2 : D.F) (a3 : D.F) (a4 : D.F) (a5 : D.F) : joinT (evFn Try.prog (tbl_4 D) 60 45 [.agg [.fl a0, .fl a1, .fl a2], .agg [.fl a3, .fl a4, .fl a5]]) = .val none (.agg [.fl (S45_0 D a0 a3), .fl (S45_1 D a1 a4), .fl (S45_2 D a2 a5)]) := by kernel_rfl
def sp45 : Ev.Spec := fun D l => argA l fun c0 r0 => argF c0 fun a0 r1 => argF r1 fun a1 r2 => argF r2 fun a2 r3 => arg0 r3 (argA r0 fun c100 r100 => argF c100 fun a3 r101 => argF r101 fun a4 r102 => argF r102 fun a5 r103 => arg0 r103 (arg0 r100 (.ret (.agg [.fl (S45_0 D a0 a3), .fl (S45_1 D a1 a4), .fl (S45_2 D a2 a5)]))))
theorem en45 : ∀ l r, (sp45 R l).run = some r → Entry Try.prog 45 l r := by
  intro l r h
  obtain ⟨_, _, h, L0⟩ := argA_inv h
  obtain ⟨x1, _, h, L1⟩ := argF_inv h
  obtain ⟨x2, _, h, L2⟩ := argF_inv h
  obtain ⟨x3, _, h, L3⟩ := argF_inv h
  obtain ⟨h, L4⟩ := arg0_inv h
  obtain ⟨_, _, h, L5⟩ := argA_inv h
  obtain ⟨x6, _, h, L6⟩ := argF_inv h
  obtain ⟨x7, _, h, L7⟩ := argF_inv h
  obtain ⟨x8, _, h, L8⟩ := argF_inv h
  obtain ⟨h, L9⟩ := arg0_inv h
  obtain ⟨h, L10⟩ := arg0_inv h
  cases h
  exact (entry_of prg tok_4 (ev45 R x1 x2 x3 x6 x7 x8) (fun o ho => nomatch ho) rfl).le (L0 _ _ (L1 _ (L2 _ (L3 _ L4))) (L5 _ _ (L6 _ (L7 _ (L8 _ L9))) L10))
def tl_45 : List (Nat × Ev.Spec) := (45, sp45) :: tl_4
def tbl_45 (D : Dom) : Tbl D := tblOf tl_45 D
theorem tok_45 : TblOK Try.prog (tbl_45 R) := TblOK.cons tok_4 en45

-- penumbra/penumbraref02.Number
def S51_0 (D : Dom) (a0 : D.F) : D.B := (D.feq (D.fsub a0 a0) (D.fc 0))
theorem ev51 (D : Dom) (a0 : D.F) : joinT (evFn Try.prog (tbl_45 D) 60 51 [.fl a0]) = .val none (.sb (S51_0 D a0)) := by kernel_rfl
def sp51 : Ev.Spec := fun D l => argF l fun a0 r0 => arg0 r0 (.ret (.sb (S51_0 D a0)))
theorem en51 : ∀ l r, (sp51 R l).run = some r → Entry Try.prog 51 l r := by
  intro l r h
  obtain ⟨x0, _, h, L0⟩ := argF_inv h
  obtain ⟨h, L1⟩ := arg0_inv h
  cases h
  exact (entry_of prg tok_45 (ev51 R x0) (fun o ho => nomatch ho) rfl).le (L0 _ L1)
def tl_51 : List (Nat × Ev.Spec) := (51, sp51) :: tl_45
def tbl_51 (D : Dom) : Tbl D := tblOf tl_51 D
theorem tok_51 : TblOK Try.prog (tbl_51 R) := TblOK.cons tok_45 en51

-- penumbra/penumbraref02.Unit
def S44_0 (D : Dom) (a0 : D.F) (a1 : D.F) (a2 : D.F) : D.F := (D.fite (D.bite (D.fgt (S28_0 D (S39_0 D a0 a1 a2 a0 a1 a2)) (D.fc 0)) (S51_0 D (S28_0 D (S39_0 D a0 a1 a2 a0 a1 a2))) (D.bc false)) (D.fdiv a0 (S28_0 D (S39_0 D a0 a1 a2 a0 a1 a2))) (D.fc 0))
def S44_1 (D : Dom) (a0 : D.F) (a1 : D.F) (a2 : D.F) : D.F := (D.fite (D.bite (D.fgt (S28_0 D (S39_0 D a0 a1 a2 a0 a1 a2)) (D.fc 0)) (S51_0 D (S28_0 D (S39_0 D a0 a1 a2 a0 a1 a2))) (D.bc false)) (D.fdiv a1 (S28_0 D (S39_0 D a0 a1 a2 a0 a1 a2))) (D.fc 0))
def S44_2 (D : Dom) (a0 : D.F) (a1 : D.F) (a2 : D.F) : D.F := (D.fite (D.bite (D.fgt (S28_0 D (S39_0 D a0 a1 a2 a0 a1 a2)) (D.fc 0)) (S51_0 D (S28_0 D (S39_0 D a0 a1 a2 a0 a1 a2))) (D.bc false)) (D.fdiv a2 (S28_0 D (S39_0 D a0 a1 a2 a0 a1 a2))) (D.fc 0))
def S44_3 (D : Dom) (a0 : D.F) (a1 : D.F) (a2 : D.F) : D.B := (D.bite (D.bite (D.fgt (S28_0 D (S39_0 D a0 a1 a2 a0 a1 a2)) (D.fc 0)) (S51_0 D (S28_0 D (S39_0 D a0 a1 a2 a0 a1 a2))) (D.bc false)) (D.bc true) (D.bc false))
theorem ev44 (D : Dom) (a0 : D.F) (a1 : D.F) (a2 : D.F) : joinT (evFn Try.prog (tbl_51 D) 60 44 [.agg [.fl a0, .fl a1, .fl a2]]) = .val none (.tup [.agg [.fl (S44_0 D a0 a1 a2), .fl (S44_1 D a0 a1 a2), .fl (S44_2 D a0 a1 a2)], .sb (S44_3 D a0 a1 a2)]) := by kernel_rfl
def sp44 : Ev.Spec := fun D l => argA l fun c0 r0 => argF c0 fun a0 r1 => argF r1 fun a1 r2 => argF r2 fun a2 r3 => arg0 r3 (arg0 r0 (.ret (.tup [.agg [.fl (S44_0 D a0 a1 a2), .fl (S44_1 D a0 a1 a2), .fl (S44_2 D a0 a1 a2)], .sb (S44_3 D a0 a1 a2)])))
theorem en44 : ∀ l r, (sp44 R l).run = some r → Entry Try.prog 44 l r := by
  intro l r h
  obtain ⟨_, _, h, L0⟩ := argA_inv h
  obtain ⟨x1, _, h, L1⟩ := argF_inv h
  obtain ⟨x2, _, h, L2⟩ := argF_inv h
  obtain ⟨x3, _, h, L3⟩ := argF_inv h
  obtain ⟨h, L4⟩ := arg0_inv h
  obtain ⟨h, L5⟩ := arg0_inv h
  cases h
  exact (entry_of prg tok_51 (ev44 R x1 x2 x3) (fun o ho => nomatch ho) rfl).le (L0 _ _ (L1 _ (L2 _ (L3 _ L4))) L5)
def tl_44 : List (Nat × Ev.Spec) := (44, sp44) :: tl_51
def tbl_44 (D : Dom) : Tbl D := tblOf tl_44 D
theorem tok_44 : TblOK Try.prog (tbl_44 R) := TblOK.cons tok_51 en44

-- penumbra/penumbraref15.Half
def S21_0 (D : Dom) (a0 : D.F) (a1 : D.F) (a2 : D.F) (a3 : D.F) (a4 : D.F) (a5 : D.F) : D.F := (D.fite (D.bite (D.fgt a2 (D.fc 0)) (D.fgt a5 (D.fc 0)) (D.bc false)) (S44_0 D (S45_0 D a0 a3) (S45_1 D a1 a4) (S45_2 D a2 a5)) (D.fc 0))
def S21_1 (D : Dom) (a0 : D.F) (a1 : D.F) (a2 : D.F) (a3 : D.F) (a4 : D.F) (a5 : D.F) : D.F := (D.fite (D.bite (D.fgt a2 (D.fc 0)) (D.fgt a5 (D.fc 0)) (D.bc false)) (S44_1 D (S45_0 D a0 a3) (S45_1 D a1 a4) (S45_2 D a2 a5)) (D.fc 0))
def S21_2 (D : Dom) (a0 : D.F) (a1 : D.F) (a2 : D.F) (a3 : D.F) (a4 : D.F) (a5 : D.F) : D.F := (D.fite (D.bite (D.fgt a2 (D.fc 0)) (D.fgt a5 (D.fc 0)) (D.bc false)) (S44_2 D (S45_0 D a0 a3) (S45_1 D a1 a4) (S45_2 D a2 a5)) (D.fc 0))
def S21_3 (D : Dom) (a0 : D.F) (a1 : D.F) (a2 : D.F) (a3 : D.F) (a4 : D.F) (a5 : D.F) : D.B := (D.bite (D.bite (D.fgt a2 (D.fc 0)) (D.fgt a5 (D.fc 0)) (D.bc false)) (S44_3 D (S45_0 D a0 a3) (S45_1 D a1 a4) (S45_2 D a2 a5)) (D.bc false))
theorem ev21 (D : Dom) (a0 : D.F) (a1 : D.F) (a2 : D.F) (a3 : D.F) (a4 : D.F) (a5 : D.F) : joinT (evFn Try.prog (tbl_44 D) 60 21 [.agg [.fl a0, .fl a1, .fl a2], .agg [.fl a3, .fl a4, .fl a5]]) = .val none (.tup [.agg [.fl (S21_0 D a0 a1 a2 a3 a4 a5), .fl (S21_1 D a0 a1 a2 a3 a4 a5), .fl (S21_2 D a0 a1 a2 a3 a4 a5)], .sb (S21_3 D a0 a1 a2 a3 a4 a5)]) := by kernel_rfl
def sp21 : Ev.Spec := fun D l => argA l fun c0 r0 => argF c0 fun a0 r1 => argF r1 fun a1 r2 => argF r2 fun a2 r3 => arg0 r3 (argA r0 fun c100 r100 => argF c100 fun a3 r101 => argF r101 fun a4 r102 => argF r102 fun a5 r103 => arg0 r103 (arg0 r100 (.ret (.tup [.agg [.fl (S21_0 D a0 a1 a2 a3 a4 a5), .fl (S21_1 D a0 a1 a2 a3 a4 a5), .fl (S21_2 D a0 a1 a2 a3 a4 a5)], .sb (S21_3 D a0 a1 a2 a3 a4 a5)]))))
theorem en21 : ∀ l r, (sp21 R l).run = some r → Entry Try.prog 21 l r := by
  intro l r h
  obtain ⟨_, _, h, L0⟩ := argA_inv h
  obtain ⟨x1, _, h, L1⟩ := argF_inv h
  obtain ⟨x2, _, h, L2⟩ := argF_inv h
  obtain ⟨x3, _, h, L3⟩ := argF_inv h
  obtain ⟨h, L4⟩ := arg0_inv h
  obtain ⟨_, _, h, L5⟩ := argA_inv h
  obtain ⟨x6, _, h, L6⟩ := argF_inv h
  obtain ⟨x7, _, h, L7⟩ := argF_inv h
  obtain ⟨x8, _, h, L8⟩ := argF_inv h
  obtain ⟨h, L9⟩ := arg0_inv h
  obtain ⟨h, L10⟩ := arg0_inv h
  cases h
  exact (entry_of prg tok_44 (ev21 R x1 x2 x3 x6 x7 x8) (fun o ho => nomatch ho) rfl).le (L0 _ _ (L1 _ (L2 _ (L3 _ L4))) (L5 _ _ (L6 _ (L7 _ (L8 _ L9))) L10))
def tl_21 : List (Nat × Ev.Spec) := (21, sp21) :: tl_44
def tbl_21 (D : Dom) : Tbl D := tblOf tl_21 D
theorem tok_21 : TblOK Try.prog (tbl_21 R) := TblOK.cons tok_44 en21

-- penumbra/rgb.Gray
def S61_0 (D : Dom) (a0 : D.F) : D.F := a0
def S61_1 (D : Dom) (a0 : D.F) : D.F := a0
def S61_2 (D : Dom) (a0 : D.F) : D.F := a0
theorem ev61 (D : Dom) (a0 : D.F) : joinT (evFn Try.prog (tbl_21 D) 60 61 [.fl a0]) = .val none (.agg [.fl (S61_0 D a0), .fl (S61_1 D a0), .fl (S61_2 D a0)]) := by kernel_rfl
def sp61 : Ev.Spec := fun D l => argF l fun a0 r0 => arg0 r0 (.ret (.agg [.fl (S61_0 D a0), .fl (S61_1 D a0), .fl (S61_2 D a0)]))
theorem en61 : ∀ l r, (sp61 R l).run = some r → Entry Try.prog 61 l r := by
  intro l r h
  obtain ⟨x0, _, h, L0⟩ := argF_inv h
  obtain ⟨h, L1⟩ := arg0_inv h
  cases h
  exact (entry_of prg tok_21 (ev61 R x0) (fun o ho => nomatch ho) rfl).le (L0 _ L1)
def tl_61 : List (Nat × Ev.Spec) := (61, sp61) :: tl_21
def tbl_61 (D : Dom) : Tbl D := tblOf tl_61 D
theorem tok_61 : TblOK Try.prog (tbl_61 R) := TblOK.cons tok_21 en61

-- penumbra/rgb.Mul$1
def S68_0 (D : Dom) (a0 : D.F) (a1 : D.F) : D.F := (D.fmul a0 a1)
theorem ev68 (D : Dom) (a0 : D.F) (a1 : D.F) : joinT (evFn Try.prog (tbl_61 D) 60 68 [.fl a0, .fl a1]) = .val none (.fl (S68_0 D a0 a1)) := by kernel_rfl
def sp68 : Ev.Spec := fun D l => argF l fun a0 r0 => argF r0 fun a1 r1 => arg0 r1 (.ret (.fl (S68_0 D a0 a1)))
theorem en68 : ∀ l r, (sp68 R l).run = some r → Entry Try.prog 68 l r := by
  intro l r h
  obtain ⟨x0, _, h, L0⟩ := argF_inv h
  obtain ⟨x1, _, h, L1⟩ := argF_inv h
  obtain ⟨h, L2⟩ := arg0_inv h
  cases h
  exact (entry_of prg tok_61 (ev68 R x0 x1) (fun o ho => nomatch ho) rfl).le (L0 _ (L1 _ L2))
def tl_68 : List (Nat × Ev.Spec) := (68, sp68) :: tl_61
def tbl_68 (D : Dom) : Tbl D := tblOf tl_68 D
theorem tok_68 : TblOK Try.prog (tbl_68 R) := TblOK.cons tok_61 en68

-- penumbra/rgb.Mul
def S60_0 (D : Dom) (a0 : D.F) (a3 : D.F) : D.F := (S68_0 D a0 a3)
def S60_1 (D : Dom) (a1 : D.F) (a4 : D.F) : D.F := (S68_0 D a1 a4)
def S60_2 (D : Dom) (a2 : D.F) (a5 : D.F) : D.F := (S68_0 D a2 a5)
theorem ev60 (D : Dom) (a0 : D.F) (a1 : D.F) (a2 : D.F) (a3 : D.F) (a4 : D.F) (a5 : D.F) : joinT (evFn Try.prog (tbl_68 D) 60 60 [.agg [.fl a0, .fl a1, .fl a2], .agg [.fl a3, .fl a4, .fl a5]]) = .val none (.agg [.fl (S60_0 D a0 a3), .fl (S60_1 D a1 a4), .fl (S60_2 D a2 a5)]) := by kernel_rfl
def sp60 : Ev.Spec := fun D l => argA l fun c0 r0 => argF c0 fun a0 r1 => argF r1 fun a1 r2 => argF r2 fun a2 r3 => arg0 r3 (argA r0 fun c100 r100 => argF c100 fun a3 r101 => argF r101 fun a4 r102 => argF r102 fun a5 r103 => arg0 r103 (arg0 r100 (.ret (.agg [.fl (S60_0 D a0 a3), .fl (S60_1 D a1 a4), .fl (S60_2 D a2 a5)]))))
theorem en60 : ∀ l r, (sp60 R l).run = some r → Entry Try.prog 60 l r := by
  intro l r h
  obtain ⟨_, _, h, L0⟩ := argA_inv h
  obtain ⟨x1, _, h, L1⟩ := argF_inv h
  obtain ⟨x2, _, h, L2⟩ := argF_inv h
  obtain ⟨x3, _, h, L3⟩ := argF_inv h
  obtain ⟨h, L4⟩ := arg0_inv h
  obtain ⟨_, _, h, L5⟩ := argA_inv h
  obtain ⟨x6, _, h, L6⟩ := argF_inv h
  obtain ⟨x7, _, h, L7⟩ := argF_inv h
  obtain ⟨x8, _, h, L8⟩ := argF_inv h
  obtain ⟨h, L9⟩ := arg0_inv h
  obtain ⟨h, L10⟩ := arg0_inv h
  cases h
  exact (entry_of prg tok_68 (ev60 R x1 x2 x3 x6 x7 x8) (fun o ho => nomatch ho) rfl).le (L0 _ _ (L1 _ (L2 _ (L3 _ L4))) (L5 _ _ (L6 _ (L7 _ (L8 _ L9))) L10))
def tl_60 : List (Nat × Ev.Spec) := (60, sp60) :: tl_68
def tbl_60 (D : Dom) : Tbl D := tblOf tl_60 D
theorem tok_60 : TblOK Try.prog (tbl_60 R) := TblOK.cons tok_68 en60

-- penumbra/rgb.Scale
def S48_0 (D : Dom) (a0 : D.F) (a3 : D.F) : D.F := (S60_0 D a0 (S61_0 D a3))
def S48_1 (D : Dom) (a1 : D.F) (a3 : D.F) : D.F := (S60_1 D a1 (S61_1 D a3))
def S48_2 (D : Dom) (a2 : D.F) (a3 : D.F) : D.F := (S60_2 D a2 (S61_2 D a3))
theorem ev48 (D : Dom) (a0 : D.F) (a1 : D.F) (a2 : D.F) (a3 : D.F) : joinT (evFn Try.prog (tbl_60 D) 60 48 [.agg [.fl a0, .fl a1, .fl a2], .fl a3]) = .val none (.agg [.fl (S48_0 D a0 a3), .fl (S48_1 D a1 a3), .fl (S48_2 D a2 a3)]) := by kernel_rfl
def sp48 : Ev.Spec := fun D l => argA l fun c0 r0 => argF c0 fun a0 r1 => argF r1 fun a1 r2 => argF r2 fun a2 r3 => arg0 r3 (argF r0 fun a3 r100 => arg0 r100 (.ret (.agg [.fl (S48_0 D a0 a3), .fl (S48_1 D a1 a3), .fl (S48_2 D a2 a3)])))
theorem en48 : ∀ l r, (sp48 R l).run = some r → Entry Try.prog 48 l r := by
  intro l r h
  obtain ⟨_, _, h, L0⟩ := argA_inv h
  obtain ⟨x1, _, h, L1⟩ := argF_inv h
  obtain ⟨x2, _, h, L2⟩ := argF_inv h
  obtain ⟨x3, _, h, L3⟩ := argF_inv h
  obtain ⟨h, L4⟩ := arg0_inv h
  obtain ⟨x5, _, h, L5⟩ := argF_inv h
  obtain ⟨h, L6⟩ := arg0_inv h
  cases h
  exact (entry_of prg tok_60 (ev48 R x1 x2 x3 x5) (fun o ho => nomatch ho) rfl).le (L0 _ _ (L1 _ (L2 _ (L3 _ L4))) (L5 _ L6))
def tl_48 : List (Nat × Ev.Spec) := (48, sp48) :: tl_60
def tbl_48 (D : Dom) : Tbl D := tblOf tl_48 D
theorem tok_48 : TblOK Try.prog (tbl_48 R) := TblOK.cons tok_60 en48

-- penumbra/ggx.Eval
def S23_0 (D : Dom) (a0 : D.F) (a3 : D.F) (a4 : D.F) (a5 : D.F) (a6 : D.F) (a7 : D.F) (a8 : D.F) (a9 : D.F) : D.F := (D.fite (D.bite (D.bnot (S20_3 D a4 a5 a6 a7 a8 a9)) (D.bc true) (D.bnot (D.fgt (S33_0 D a4 a5 a6 (S20_0 D a4 a5 a6 a7 a8 a9) (S20_1 D a4 a5 a6 a7 a8 a9) (S20_2 D a4 a5 a6 a7 a8 a9)) (D.fc 0)))) (D.fc 0) (S48_0 D (S15_0 D a0 (S33_0 D a4 a5 a6 (S20_0 D a4 a5 a6 a7 a8 a9) (S20_1 D a4 a5 a6 a7 a8 a9) (S20_2 D a4 a5 a6 a7 a8 a9))) (D.fdiv (D.fmul (S10_0 D a3 (S20_2 D a4 a5 a6 a7 a8 a9)) (D.fmul (S12_0 D a3 a6) (S12_0 D a3 a9))) (D.fmul (D.fmul (D.fc 4616189618054758400) a6) a9))))
def S23_1 (D : Dom) (a1 : D.F) (a3 : D.F) (a4 : D.F) (a5 : D.F) (a6 : D.F) (a7 : D.F) (a8 : D.F) (a9 : D.F) : D.F := (D.fite (D.bite (D.bnot (S20_3 D a4 a5 a6 a7 a8 a9)) (D.bc true) (D.bnot (D.fgt (S33_0 D a4 a5 a6 (S20_0 D a4 a5 a6 a7 a8 a9) (S20_1 D a4 a5 a6 a7 a8 a9) (S20_2 D a4 a5 a6 a7 a8 a9)) (D.fc 0)))) (D.fc 0) (S48_1 D (S15_1 D a1 (S33_0 D a4 a5 a6 (S20_0 D a4 a5 a6 a7 a8 a9) (S20_1 D a4 a5 a6 a7 a8 a9) (S20_2 D a4 a5 a6 a7 a8 a9))) (D.fdiv (D.fmul (S10_0 D a3 (S20_2 D a4 a5 a6 a7 a8 a9)) (D.fmul (S12_0 D a3 a6) (S12_0 D a3 a9))) (D.fmul (D.fmul (D.fc 4616189618054758400) a6) a9))))
def S23_2 (D : Dom) (a2 : D.F) (a3 : D.F) (a4 : D.F) (a5 : D.F) (a6 : D.F) (a7 : D.F) (a8 : D.F) (a9 : D.F) : D.F := (D.fite (D.bite (D.bnot (S20_3 D a4 a5 a6 a7 a8 a9)) (D.bc true) (D.bnot (D.fgt (S33_0 D a4 a5 a6 (S20_0 D a4 a5 a6 a7 a8 a9) (S20_1 D a4 a5 a6 a7 a8 a9) (S20_2 D a4 a5 a6 a7 a8 a9)) (D.fc 0)))) (D.fc 0) (S48_2 D (S15_2 D a2 (S33_0 D a4 a5 a6 (S20_0 D a4 a5 a6 a7 a8 a9) (S20_1 D a4 a5 a6 a7 a8 a9) (S20_2 D a4 a5 a6 a7 a8 a9))) (D.fdiv (D.fmul (S10_0 D a3 (S20_2 D a4 a5 a6 a7 a8 a9)) (D.fmul (S12_0 D a3 a6) (S12_0 D a3 a9))) (D.fmul (D.fmul (D.fc 4616189618054758400) a6) a9))))
theorem ev23 (D : Dom) (a0 : D.F) (a1 : D.F) (a2 : D.F) (a3 : D.F) (a4 : D.F) (a5 : D.F) (a6 : D.F) (a7 : D.F) (a8 : D.F) (a9 : D.F) : joinT (evFn Try.prog (tbl_48 D) 60 23 [.agg [.fl a0, .fl a1, .fl a2], .fl a3, .agg [.fl a4, .fl a5, .fl a6], .agg [.fl a7, .fl a8, .fl a9]]) = .val none (.agg [.fl (S23_0 D a0 a3 a4 a5 a6 a7 a8 a9), .fl (S23_1 D a1 a3 a4 a5 a6 a7 a8 a9), .fl (S23_2 D a2 a3 a4 a5 a6 a7 a8 a9)]) := by kernel_rfl
def sp23 : Ev.Spec := fun D l => argA l fun c0 r0 => argF c0 fun a0 r1 => argF r1 fun a1 r2 => argF r2 fun a2 r3 => arg0 r3 (argF r0 fun a3 r100 => argA r100 fun c101 r101 => argF c101 fun a4 r102 => argF r102 fun a5 r103 => argF r103 fun a6 r104 => arg0 r104 (argA r101 fun c201 r201 => argF c201 fun a7 r202 => argF r202 fun a8 r203 => argF r203 fun a9 r204 => arg0 r204 (arg0 r201 (.ret (.agg [.fl (S23_0 D a0 a3 a4 a5 a6 a7 a8 a9), .fl (S23_1 D a1 a3 a4 a5 a6 a7 a8 a9), .fl (S23_2 D a2 a3 a4 a5 a6 a7 a8 a9)])))))
theorem en23 : ∀ l r, (sp23 R l).run = some r → Entry Try.prog 23 l r := by
  intro l r h
  obtain ⟨_, _, h, L0⟩ := argA_inv h
  obtain ⟨x1, _, h, L1⟩ := argF_inv h
  obtain ⟨x2, _, h, L2⟩ := argF_inv h
  obtain ⟨x3, _, h, L3⟩ := argF_inv h
  obtain ⟨h, L4⟩ := arg0_inv h
  obtain ⟨x5, _, h, L5⟩ := argF_inv h
  obtain ⟨_, _, h, L6⟩ := argA_inv h
  obtain ⟨x7, _, h, L7⟩ := argF_inv h
  obtain ⟨x8, _, h, L8⟩ := argF_inv h
  obtain ⟨x9, _, h, L9⟩ := argF_inv h
  obtain ⟨h, L10⟩ := arg0_inv h
  obtain ⟨_, _, h, L11⟩ := argA_inv h
  obtain ⟨x12, _, h, L12⟩ := argF_inv h
  obtain ⟨x13, _, h, L13⟩ := argF_inv h
  obtain ⟨x14, _, h, L14⟩ := argF_inv h
  obtain ⟨h, L15⟩ := arg0_inv h
  obtain ⟨h, L16⟩ := arg0_inv h
  cases h
  exact (entry_of prg tok_48 (ev23 R x1 x2 x3 x5 x7 x8 x9 x12 x13 x14) (fun o ho => nomatch ho) rfl).le (L0 _ _ (L1 _ (L2 _ (L3 _ L4))) (L5 _ (L6 _ _ (L7 _ (L8 _ (L9 _ L10))) (L11 _ _ (L12 _ (L13 _ (L14 _ L15))) L16))))
def tl_23 : List (Nat × Ev.Spec) := (23, sp23) :: tl_48
def tbl_23 (D : Dom) : Tbl D := tblOf tl_23 D
theorem tok_23 : TblOK Try.prog (tbl_23 R) := TblOK.cons tok_48 en23

-- penumbra/penumbraref05.Scale
def S49_0 (D : Dom) (a0 : D.F) (a3 : D.F) : D.F := (D.fmul a0 a3)
def S49_1 (D : Dom) (a1 : D.F) (a3 : D.F) : D.F := (D.fmul a1 a3)
def S49_2 (D : Dom) (a2 : D.F) (a3 : D.F) : D.F := (D.fmul a2 a3)
theorem ev49 (D : Dom) (a0 : D.F) (a1 : D.F) (a2 : D.F) (a3 : D.F) : joinT (evFn Try.prog (tbl_23 D) 60 49 [.agg [.fl a0, .fl a1, .fl a2], .fl a3]) = .val none (.agg [.fl (S49_0 D a0 a3), .fl (S49_1 D a1 a3), .fl (S49_2 D a2 a3)]) := by kernel_rfl
def sp49 : Ev.Spec := fun D l => argA l fun c0 r0 => argF c0 fun a0 r1 => argF r1 fun a1 r2 => argF r2 fun a2 r3 => arg0 r3 (argF r0 fun a3 r100 => arg0 r100 (.ret (.agg [.fl (S49_0 D a0 a3), .fl (S49_1 D a1 a3), .fl (S49_2 D a2 a3)])))
theorem en49 : ∀ l r, (sp49 R l).run = some r → Entry Try.prog 49 l r := by
  intro l r h
  obtain ⟨_, _, h, L0⟩ := argA_inv h
  obtain ⟨x1, _, h, L1⟩ := argF_inv h
  obtain ⟨x2, _, h, L2⟩ := argF_inv h
  obtain ⟨x3, _, h, L3⟩ := argF_inv h
  obtain ⟨h, L4⟩ := arg0_inv h
  obtain ⟨x5, _, h, L5⟩ := argF_inv h
  obtain ⟨h, L6⟩ := arg0_inv h
  cases h
  exact (entry_of prg tok_23 (ev49 R x1 x2 x3 x5) (fun o ho => nomatch ho) rfl).le (L0 _ _ (L1 _ (L2 _ (L3 _ L4))) (L5 _ L6))
def tl_49 : List (Nat × Ev.Spec) := (49, sp49) :: tl_23
def tbl_49 (D : Dom) : Tbl D := tblOf tl_49 D
theorem tok_49 : TblOK Try.prog (tbl_49 R) := TblOK.cons tok_23 en49

-- penumbra/penumbraref15.Eval
def S24_0 (D : Dom) (a0 : D.F) (a3 : D.F) (a4 : D.F) (a5 : D.F) (a6 : D.F) (a7 : D.F) (a8 : D.F) (a9 : D.F) : D.F := (D.fite (D.bite (S21_3 D a4 a5 a6 a7 a8 a9) (D.fgt (S39_0 D a4 a5 a6 (S21_0 D a4 a5 a6 a7 a8 a9) (S21_1 D a4 a5 a6 a7 a8 a9) (S21_2 D a4 a5 a6 a7 a8 a9)) (D.fc 0)) (D.bc false)) (S49_0 D (S16_0 D a0 (S39_0 D a4 a5 a6 (S21_0 D a4 a5 a6 a7 a8 a9) (S21_1 D a4 a5 a6 a7 a8 a9) (S21_2 D a4 a5 a6 a7 a8 a9))) (D.fdiv (D.fmul (S11_0 D a3 (S21_2 D a4 a5 a6 a7 a8 a9)) (D.fmul (S13_0 D a3 a6) (S13_0 D a3 a9))) (D.fmul (D.fmul (D.fc 4616189618054758400) a6) a9))) (D.fc 0))
def S24_1 (D : Dom) (a1 : D.F) (a3 : D.F) (a4 : D.F) (a5 : D.F) (a6 : D.F) (a7 : D.F) (a8 : D.F) (a9 : D.F) : D.F := (D.fite (D.bite (S21_3 D a4 a5 a6 a7 a8 a9) (D.fgt (S39_0 D a4 a5 a6 (S21_0 D a4 a5 a6 a7 a8 a9) (S21_1 D a4 a5 a6 a7 a8 a9) (S21_2 D a4 a5 a6 a7 a8 a9)) (D.fc 0)) (D.bc false)) (S49_1 D (S16_1 D a1 (S39_0 D a4 a5 a6 (S21_0 D a4 a5 a6 a7 a8 a9) (S21_1 D a4 a5 a6 a7 a8 a9) (S21_2 D a4 a5 a6 a7 a8 a9))) (D.fdiv (D.fmul (S11_0 D a3 (S21_2 D a4 a5 a6 a7 a8 a9)) (D.fmul (S13_0 D a3 a6) (S13_0 D a3 a9))) (D.fmul (D.fmul (D.fc 4616189618054758400) a6) a9))) (D.fc 0))
def S24_2 (D : Dom) (a2 : D.F) (a3 : D.F) (a4 : D.F) (a5 : D.F) (a6 : D.F) (a7 : D.F) (a8 : D.F) (a9 : D.F) : D.F := (D.fite (D.bite (S21_3 D a4 a5 a6 a7 a8 a9) (D.fgt (S39_0 D a4 a5 a6 (S21_0 D a4 a5 a6 a7 a8 a9) (S21_1 D a4 a5 a6 a7 a8 a9) (S21_2 D a4 a5 a6 a7 a8 a9)) (D.fc 0)) (D.bc false)) (S49_2 D (S16_2 D a2 (S39_0 D a4 a5 a6 (S21_0 D a4 a5 a6 a7 a8 a9) (S21_1 D a4 a5 a6 a7 a8 a9) (S21_2 D a4 a5 a6 a7 a8 a9))) (D.fdiv (D.fmul (S11_0 D a3 (S21_2 D a4 a5 a6 a7 a8 a9)) (D.fmul (S13_0 D a3 a6) (S13_0 D a3 a9))) (D.fmul (D.fmul (D.fc 4616189618054758400) a6) a9))) (D.fc 0))
theorem ev24 (D : Dom) (a0 : D.F) (a1 : D.F) (a2 : D.F) (a3 : D.F) (a4 : D.F) (a5 : D.F) (a6 : D.F) (a7 : D.F) (a8 : D.F) (a9 : D.F) : joinT (evFn Try.prog (tbl_49 D) 60 24 [.agg [.fl a0, .fl a1, .fl a2], .fl a3, .agg [.fl a4, .fl a5, .fl a6], .agg [.fl a7, .fl a8, .fl a9]]) = .val none (.agg [.fl (S24_0 D a0 a3 a4 a5 a6 a7 a8 a9), .fl (S24_1 D a1 a3 a4 a5 a6 a7 a8 a9), .fl (S24_2 D a2 a3 a4 a5 a6 a7 a8 a9)]) := by kernel_rfl
def sp24 : Ev.Spec := fun D l => argA l fun c0 r0 => argF c0 fun a0 r1 => argF r1 fun a1 r2 => argF r2 fun a2 r3 => arg0 r3 (argF r0 fun a3 r100 => argA r100 fun c101 r101 => argF c101 fun a4 r102 => argF r102 fun a5 r103 => argF r103 fun a6 r104 => arg0 r104 (argA r101 fun c201 r201 => argF c201 fun a7 r202 => argF r202 fun a8 r203 => argF r203 fun a9 r204 => arg0 r204 (arg0 r201 (.ret (.agg [.fl (S24_0 D a0 a3 a4 a5 a6 a7 a8 a9), .fl (S24_1 D a1 a3 a4 a5 a6 a7 a8 a9), .fl (S24_2 D a2 a3 a4 a5 a6 a7 a8 a9)])))))
theorem en24 : ∀ l r, (sp24 R l).run = some r → Entry Try.prog 24 l r := by
  intro l r h
  obtain ⟨_, _, h, L0⟩ := argA_inv h
  obtain ⟨x1, _, h, L1⟩ := argF_inv h
  obtain ⟨x2, _, h, L2⟩ := argF_inv h
  obtain ⟨x3, _, h, L3⟩ := argF_inv h
  obtain ⟨h, L4⟩ := arg0_inv h
  obtain ⟨x5, _, h, L5⟩ := argF_inv h
  obtain ⟨_, _, h, L6⟩ := argA_inv h
  obtain ⟨x7, _, h, L7⟩ := argF_inv h
  obtain ⟨x8, _, h, L8⟩ := argF_inv h
  obtain ⟨x9, _, h, L9⟩ := argF_inv h
  obtain ⟨h, L10⟩ := arg0_inv h
  obtain ⟨_, _, h, L11⟩ := argA_inv h
  obtain ⟨x12, _, h, L12⟩ := argF_inv h
  obtain ⟨x13, _, h, L13⟩ := argF_inv h
  obtain ⟨x14, _, h, L14⟩ := argF_inv h
  obtain ⟨h, L15⟩ := arg0_inv h
  obtain ⟨h, L16⟩ := arg0_inv h
  cases h
  exact (entry_of prg tok_49 (ev24 R x1 x2 x3 x5 x7 x8 x9 x12 x13 x14) (fun o ho => nomatch ho) rfl).le (L0 _ _ (L1 _ (L2 _ (L3 _ L4))) (L5 _ (L6 _ _ (L7 _ (L8 _ (L9 _ L10))) (L11 _ _ (L12 _ (L13 _ (L14 _ L15))) L16))))
def tl_24 : List (Nat × Ev.Spec) := (24, sp24) :: tl_49
def tbl_24 (D : Dom) : Tbl D := tblOf tl_24 D
theorem tok_24 : TblOK Try.prog (tbl_24 R) := TblOK.cons tok_49 en24

-- penumbra/penumbraref09.abs
def S62_0 (D : Dom) (a0 : D.F) : D.F := (D.fite (D.bite (D.fge a0 (D.fc 0)) (D.bc true) (D.bnot (D.feq a0 a0))) a0 (D.fsub (D.fc 0) a0))
theorem ev62 (D : Dom) (a0 : D.F) : joinT (evFn Try.prog (tbl_24 D) 60 62 [.fl a0]) = .val none (.fl (S62_0 D a0)) := by kernel_rfl
def sp62 : Ev.Spec := fun D l => argF l fun a0 r0 => arg0 r0 (.ret (.fl (S62_0 D a0)))
theorem en62 : ∀ l r, (sp62 R l).run = some r → Entry Try.prog 62 l r := by
  intro l r h
  obtain ⟨x0, _, h, L0⟩ := argF_inv h
  obtain ⟨h, L1⟩ := arg0_inv h
  cases h
  exact (entry_of prg tok_24 (ev62 R x0) (fun o ho => nomatch ho) rfl).le (L0 _ L1)
def tl_62 : List (Nat × Ev.Spec) := (62, sp62) :: tl_24
def tbl_62 (D : Dom) : Tbl D := tblOf tl_62 D
theorem tok_62 : TblOK Try.prog (tbl_62 R) := TblOK.cons tok_24 en62

-- penumbra/penumbraref09.Angle
def S50_0 (D : Dom) (a0 : D.F) (a1 : D.F) : D.Z := (D.zite (D.bite (D.bite (D.bnot (S51_0 D (S62_0 D a0))) (D.bc true) (D.bnot (S51_0 D (S62_0 D a1)))) (D.bc true) (D.bite (D.feq (S62_0 D a0) (D.fc 0)) (D.feq (S62_0 D a1) (D.fc 0)) (D.bc false))) (D.zite (D.bite (D.bite (D.fge a0 (D.fc 0)) (D.fge a1 (D.fc 0)) (D.bc false)) (D.fge (S62_0 D a0) (S62_0 D a1)) (D.bc false)) (D.zc 0) (D.zite (D.bite (D.bite (D.fge a0 (D.fc 0)) (D.fge a1 (D.fc 0)) (D.bc false)) (D.flt (S62_0 D a0) (S62_0 D a1)) (D.bc false)) (D.zc 1) (D.zite (D.bite (D.bite (D.flt a0 (D.fc 0)) (D.fge a1 (D.fc 0)) (D.bc false)) (D.flt (S62_0 D a0) (S62_0 D a1)) (D.bc false)) (D.zc 2) (D.zite (D.bite (D.bite (D.flt a0 (D.fc 0)) (D.fge a1 (D.fc 0)) (D.bc false)) (D.fge (S62_0 D a0) (S62_0 D a1)) (D.bc false)) (D.zc 3) (D.zite (D.bite (D.bite (D.flt a0 (D.fc 0)) (D.flt a1 (D.fc 0)) (D.bc false)) (D.fge (S62_0 D a0) (S62_0 D a1)) (D.bc false)) (D.zc 4) (D.zite (D.bite (D.bite (D.flt a0 (D.fc 0)) (D.flt a1 (D.fc 0)) (D.bc false)) (D.flt (S62_0 D a0) (S62_0 D a1)) (D.bc false)) (D.zc 5) (D.zite (D.bite (D.bite (D.fge a0 (D.fc 0)) (D.flt a1 (D.fc 0)) (D.bc false)) (D.flt (S62_0 D a0) (S62_0 D a1)) (D.bc false)) (D.zc 6) (D.zc 7)))))))) (D.zite (D.fge (S62_0 D a0) (S62_0 D a1)) (D.zite (D.bite (D.bite (D.fge a0 (D.fc 0)) (D.fge a1 (D.fc 0)) (D.bc false)) (D.fge (S62_0 D a0) (S62_0 D a1)) (D.bc false)) (D.zc 0) (D.zite (D.bite (D.bite (D.fge a0 (D.fc 0)) (D.fge a1 (D.fc 0)) (D.bc false)) (D.flt (S62_0 D a0) (S62_0 D a1)) (D.bc false)) (D.zc 1) (D.zite (D.bite (D.bite (D.flt a0 (D.fc 0)) (D.fge a1 (D.fc 0)) (D.bc false)) (D.flt (S62_0 D a0) (S62_0 D a1)) (D.bc false)) (D.zc 2) (D.zite (D.bite (D.bite (D.flt a0 (D.fc 0)) (D.fge a1 (D.fc 0)) (D.bc false)) (D.fge (S62_0 D a0) (S62_0 D a1)) (D.bc false)) (D.zc 3) (D.zite (D.bite (D.bite (D.flt a0 (D.fc 0)) (D.flt a1 (D.fc 0)) (D.bc false)) (D.fge (S62_0 D a0) (S62_0 D a1)) (D.bc false)) (D.zc 4) (D.zite (D.bite (D.bite (D.flt a0 (D.fc 0)) (D.flt a1 (D.fc 0)) (D.bc false)) (D.flt (S62_0 D a0) (S62_0 D a1)) (D.bc false)) (D.zc 5) (D.zite (D.bite (D.bite (D.fge a0 (D.fc 0)) (D.flt a1 (D.fc 0)) (D.bc false)) (D.flt (S62_0 D a0) (S62_0 D a1)) (D.bc false)) (D.zc 6) (D.zc 7)))))))) (D.zite (D.bite (D.bite (D.fge a0 (D.fc 0)) (D.fge a1 (D.fc 0)) (D.bc false)) (D.fge (S62_0 D a0) (S62_0 D a1)) (D.bc false)) (D.zc 0) (D.zite (D.bite (D.bite (D.fge a0 (D.fc 0)) (D.fge a1 (D.fc 0)) (D.bc false)) (D.flt (S62_0 D a0) (S62_0 D a1)) (D.bc false)) (D.zc 1) (D.zite (D.bite (D.bite (D.flt a0 (D.fc 0)) (D.fge a1 (D.fc 0)) (D.bc false)) (D.flt (S62_0 D a0) (S62_0 D a1)) (D.bc false)) (D.zc 2) (D.zite (D.bite (D.bite (D.flt a0 (D.fc 0)) (D.fge a1 (D.fc 0)) (D.bc false)) (D.fge (S62_0 D a0) (S62_0 D a1)) (D.bc false)) (D.zc 3) (D.zite (D.bite (D.bite (D.flt a0 (D.fc 0)) (D.flt a1 (D.fc 0)) (D.bc false)) (D.fge (S62_0 D a0) (S62_0 D a1)) (D.bc false)) (D.zc 4) (D.zite (D.bite (D.bite (D.flt a0 (D.fc 0)) (D.flt a1 (D.fc 0)) (D.bc false)) (D.flt (S62_0 D a0) (S62_0 D a1)) (D.bc false)) (D.zc 5) (D.zite (D.bite (D.bite (D.fge a0 (D.fc 0)) (D.flt a1 (D.fc 0)) (D.bc false)) (D.flt (S62_0 D a0) (S62_0 D a1)) (D.bc false)) (D.zc 6) (D.zc 7))))))))))
def S50_1 (D : Dom) (a0 : D.F) (a1 : D.F) : D.F := (D.fite (D.bite (D.bite (D.bnot (S51_0 D (S62_0 D a0))) (D.bc true) (D.bnot (S51_0 D (S62_0 D a1)))) (D.bc true) (D.bite (D.feq (S62_0 D a0) (D.fc 0)) (D.feq (S62_0 D a1) (D.fc 0)) (D.bc false))) (D.fc 0) (D.fite (D.fge (S62_0 D a0) (S62_0 D a1)) (D.fdiv (S62_0 D a1) (S62_0 D a0)) (D.fdiv (S62_0 D a0) (S62_0 D a1))))
theorem ev50 (D : Dom) (a0 : D.F) (a1 : D.F) : joinT (evFn Try.prog (tbl_62 D) 60 50 [.fl a0, .fl a1]) = .val none (.tup [.si .i64 (S50_0 D a0 a1), .fl (S50_1 D a0 a1)]) := by kernel_rfl
def sp50 : Ev.Spec := fun D l => argF l fun a0 r0 => argF r0 fun a1 r1 => arg0 r1 (.ret (.tup [.si .i64 (S50_0 D a0 a1), .fl (S50_1 D a0 a1)]))
theorem en50 : ∀ l r, (sp50 R l).run = some r → Entry Try.prog 50 l r := by
  intro l r h
  obtain ⟨x0, _, h, L0⟩ := argF_inv h
  obtain ⟨x1, _, h, L1⟩ := argF_inv h
  obtain ⟨h, L2⟩ := arg0_inv h
  cases h
  exact (entry_of prg tok_62 (ev50 R x0 x1) (fun o ho => nomatch ho) rfl).le (L0 _ (L1 _ L2))
def tl_50 : List (Nat × Ev.Spec) := (50, sp50) :: tl_62
def tbl_50 (D : Dom) : Tbl D := tblOf tl_50 D
theorem tok_50 : TblOK Try.prog (tbl_50 R) := TblOK.cons tok_62 en50

-- penumbra/penumbraref15.Density
def S25_0 (D : Dom) (a0 : D.F) (a1 : D.F) (a2 : D.F) (a3 : D.F) (a4 : D.F) (a5 : D.F) (a6 : D.F) : D.F := (D.fite (D.band (D.bite (S21_3 D a1 a2 a3 a4 a5 a6) (D.fgt (S39_0 D a1 a2 a3 (S21_0 D a1 a2 a3 a4 a5 a6) (S21_1 D a1 a2 a3 a4 a5 a6) (S21_2 D a1 a2 a3 a4 a5 a6)) (D.fc 0)) (D.bc false)) (S51_0 D (D.fdiv (D.fmul (D.fmul (S11_0 D a0 (S21_2 D a1 a2 a3 a4 a5 a6)) (S21_2 D a1 a2 a3 a4 a5 a6)) (D.fmul (D.fc 4618760256179416344) (D.fmul (D.fadd (D.fc 4607182418800017408) (D.fmul (S50_1 D (S21_0 D a1 a2 a3 a4 a5 a6) (S21_1 D a1 a2 a3 a4 a5 a6)) (S50_1 D (S21_0 D a1 a2 a3 a4 a5 a6) (S21_1 D a1 a2 a3 a4 a5 a6)))) (D.fc 4593671619917905920)))) (D.fmul (D.fc 4616189618054758400) (S39_0 D a1 a2 a3 (S21_0 D a1 a2 a3 a4 a5 a6) (S21_1 D a1 a2 a3 a4 a5 a6) (S21_2 D a1 a2 a3 a4 a5 a6)))))) (D.fdiv (D.fmul (D.fmul (S11_0 D a0 (S21_2 D a1 a2 a3 a4 a5 a6)) (S21_2 D a1 a2 a3 a4 a5 a6)) (D.fmul (D.fc 4618760256179416344) (D.fmul (D.fadd (D.fc 4607182418800017408) (D.fmul (S50_1 D (S21_0 D a1 a2 a3 a4 a5 a6) (S21_1 D a1 a2 a3 a4 a5 a6)) (S50_1 D (S21_0 D a1 a2 a3 a4 a5 a6) (S21_1 D a1 a2 a3 a4 a5 a6)))) (D.fc 4593671619917905920)))) (D.fmul (D.fc 4616189618054758400) (S39_0 D a1 a2 a3 (S21_0 D a1 a2 a3 a4 a5 a6) (S21_1 D a1 a2 a3 a4 a5 a6) (S21_2 D a1 a2 a3 a4 a5 a6)))) (D.fc 0))
theorem ev25 (D : Dom) (a0 : D.F) (a1 : D.F) (a2 : D.F) (a3 : D.F) (a4 : D.F) (a5 : D.F) (a6 : D.F) : joinT (evFn Try.prog (tbl_50 D) 60 25 [.fl a0, .agg [.fl a1, .fl a2, .fl a3], .agg [.fl a4, .fl a5, .fl a6]]) = .val none (.fl (S25_0 D a0 a1 a2 a3 a4 a5 a6)) := by kernel_rfl
def sp25 : Ev.Spec := fun D l => argF l fun a0 r0 => argA r0 fun c1 r1 => argF c1 fun a1 r2 => argF r2 fun a2 r3 => argF r3 fun a3 r4 => arg0 r4 (argA r1 fun c101 r101 => argF c101 fun a4 r102 => argF r102 fun a5 r103 => argF r103 fun a6 r104 => arg0 r104 (arg0 r101 (.ret (.fl (S25_0 D a0 a1 a2 a3 a4 a5 a6)))))
theorem en25 : ∀ l r, (sp25 R l).run = some r → Entry Try.prog 25 l r := by
  intro l r h
  obtain ⟨x0, _, h, L0⟩ := argF_inv h
  obtain ⟨_, _, h, L1⟩ := argA_inv h
  obtain ⟨x2, _, h, L2⟩ := argF_inv h
  obtain ⟨x3, _, h, L3⟩ := argF_inv h
  obtain ⟨x4, _, h, L4⟩ := argF_inv h
  obtain ⟨h, L5⟩ := arg0_inv h
  obtain ⟨_, _, h, L6⟩ := argA_inv h
  obtain ⟨x7, _, h, L7⟩ := argF_inv h
  obtain ⟨x8, _, h, L8⟩ := argF_inv h
  obtain ⟨x9, _, h, L9⟩ := argF_inv h
  obtain ⟨h, L10⟩ := arg0_inv h
  obtain ⟨h, L11⟩ := arg0_inv h
  cases h
  exact (entry_of prg tok_50 (ev25 R x0 x2 x3 x4 x7 x8 x9) (fun o ho => nomatch ho) rfl).le (L0 _ (L1 _ _ (L2 _ (L3 _ (L4 _ L5))) (L6 _ _ (L7 _ (L8 _ (L9 _ L10))) L11)))
def tl_25 : List (Nat × Ev.Spec) := (25, sp25) :: tl_50
def tbl_25 (D : Dom) : Tbl D := tblOf tl_25 D
theorem tok_25 : TblOK Try.prog (tbl_25 R) := TblOK.cons tok_50 en25

-- penumbra/penumbralaw15.GgxEvals
def S5_0 (D : Dom) (a0 : D.F) (a1 : D.F) (a2 : D.F) (a3 : D.F) (a4 : D.F) (a5 : D.F) (a6 : D.F) (a7 : D.F) (a8 : D.F) (a9 : D.F) : D.B := (D.bite (S6_0 D) (D.bite (S19_0 D (S20_0 D a4 a5 a6 a7 a8 a9) (S20_1 D a4 a5 a6 a7 a8 a9) (S20_2 D a4 a5 a6 a7 a8 a9) (S21_0 D a4 a5 a6 a7 a8 a9) (S21_1 D a4 a5 a6 a7 a8 a9) (S21_2 D a4 a5 a6 a7 a8 a9)) (D.bite (D.beq (S20_3 D a4 a5 a6 a7 a8 a9) (S21_3 D a4 a5 a6 a7 a8 a9)) (D.bite (S14_0 D (S23_0 D a0 a3 a4 a5 a6 a7 a8 a9) (S23_1 D a1 a3 a4 a5 a6 a7 a8 a9) (S23_2 D a2 a3 a4 a5 a6 a7 a8 a9) (S24_0 D a0 a3 a4 a5 a6 a7 a8 a9) (S24_1 D a1 a3 a4 a5 a6 a7 a8 a9) (S24_2 D a2 a3 a4 a5 a6 a7 a8 a9)) (D.feq (S22_0 D a3 a4 a5 a6 a7 a8 a9) (S25_0 D a3 a4 a5 a6 a7 a8 a9)) (D.bc false)) (D.bc false)) (D.bc false)) (D.bc false))
def O5 (D : Dom)  : D.B := (O6 D)
theorem ev5 (D : Dom) (a0 : D.F) (a1 : D.F) (a2 : D.F) (a3 : D.F) (a4 : D.F) (a5 : D.F) (a6 : D.F) (a7 : D.F) (a8 : D.F) (a9 : D.F) : joinT (evFn Try.prog (tbl_25 D) 60 5 [.agg [.fl a0, .fl a1, .fl a2, .fl a3, .fl a4, .fl a5, .fl a6, .fl a7, .fl a8, .fl a9]]) = .val (some (O5 D)) (.sb (S5_0 D a0 a1 a2 a3 a4 a5 a6 a7 a8 a9)) := by kernel_rfl
def sp5 : Ev.Spec := fun D l => argA l fun c0 r0 => argF c0 fun a0 r1 => argF r1 fun a1 r2 => argF r2 fun a2 r3 => argF r3 fun a3 r4 => argF r4 fun a4 r5 => argF r5 fun a5 r6 => argF r6 fun a6 r7 => argF r7 fun a7 r8 => argF r8 fun a8 r9 => argF r9 fun a9 r10 => arg0 r10 (arg0 r0 (.node (O5 D) (.ret (.sb (S5_0 D a0 a1 a2 a3 a4 a5 a6 a7 a8 a9))) (.fail "pre")))
theorem en5 : ∀ l r, (sp5 R l).run = some r → Entry Try.prog 5 l r := by
  intro l r h
  obtain ⟨_, _, h, L0⟩ := argA_inv h
  obtain ⟨x1, _, h, L1⟩ := argF_inv h
  obtain ⟨x2, _, h, L2⟩ := argF_inv h
  obtain ⟨x3, _, h, L3⟩ := argF_inv h
  obtain ⟨x4, _, h, L4⟩ := argF_inv h
  obtain ⟨x5, _, h, L5⟩ := argF_inv h
  obtain ⟨x6, _, h, L6⟩ := argF_inv h
  obtain ⟨x7, _, h, L7⟩ := argF_inv h
  obtain ⟨x8, _, h, L8⟩ := argF_inv h
  obtain ⟨x9, _, h, L9⟩ := argF_inv h
  obtain ⟨x10, _, h, L10⟩ := argF_inv h
  obtain ⟨h, L11⟩ := arg0_inv h
  obtain ⟨h, L12⟩ := arg0_inv h
  obtain ⟨hok, rfl⟩ := run_okay h
  exact (entry_of prg tok_25 (ev5 R x1 x2 x3 x4 x5 x6 x7 x8 x9 x10) (fun o ho => (Option.some.inj ho) ▸ hok) rfl).le (L0 _ _ (L1 _ (L2 _ (L3 _ (L4 _ (L5 _ (L6 _ (L7 _ (L8 _ (L9 _ (L10 _ L11)))))))))) L12)
def tl_5 : List (Nat × Ev.Spec) := (5, sp5) :: tl_25
def tbl_5 (D : Dom) : Tbl D := tblOf tl_5 D
theorem tok_5 : TblOK Try.prog (tbl_5 R) := TblOK.cons tok_25 en5

end Go.Proofs.Ytinhoalnkhpdoaa
