/- The functions of this seat, each with what it comes to, by the evaluator. PRINTED BY A PROGRAM OF THIS PROJECT (wip/ev/Gen.lean). -/
import Derived.Test.YtjckbmajacakaaaEv4
import Derived.Test.YtjckbmajacakaaaChecked
namespace Go.Proofs.Ytjckbmajacakaaa
open Go.Ev
set_option maxRecDepth 100000

theorem prg : Ev.Prog Try.prog := ⟨by kernel_rfl, by kernel_rfl⟩
def sp24 : Ev.Spec := fun D l => argF l fun a r => arg0 r (.ret (.fl (D.fsqrt a)))
theorem en24 : ∀ l r, (sp24 R l).run = some r → Entry Try.prog 24 l r := by
  intro l r h
  obtain ⟨x0, _, h, L0⟩ := argF_inv h
  obtain ⟨h, L1⟩ := arg0_inv h
  cases h
  exact (entry_sqrt (fn := Try.f24) (by kernel_rfl) (by kernel_rfl) (by kernel_rfl) (by kernel_rfl) (by kernel_rfl) x0).le (L0 _ L1)
def tl_0 : List (Nat × Ev.Spec) := ((24, sp24) :: [])
def tbl_0 (D : Dom) : Tbl D := tblOf tl_0 D
theorem tok_0 : TblOK Try.prog (tbl_0 R) := (TblOK.cons (TblOK.nil _) en24)

-- penumbra/tape.Clean
def S20_0 (D : Dom) (a0 : D.F) : D.F := (D.fite (D.bite (D.fge a0 (D.fc 0)) (D.flt a0 (D.fc 4607182418800017408)) (D.bc false)) a0 (D.fc 0))
theorem ev20 (D : Dom) (a0 : D.F) : joinT (evFn Try.prog (tbl_0 D) 60 20 [.fl a0]) = .val none (.fl (S20_0 D a0)) := by kernel_rfl
def sp20 : Ev.Spec := fun D l => argF l fun a0 r0 => arg0 r0 (.ret (.fl (S20_0 D a0)))
theorem en20 : ∀ l r, (sp20 R l).run = some r → Entry Try.prog 20 l r := by
  intro l r h
  obtain ⟨x0, _, h, L0⟩ := argF_inv h
  obtain ⟨h, L1⟩ := arg0_inv h
  cases h
  exact (entry_of prg tok_0 (ev20 R x0) (fun o ho => nomatch ho) rfl).le (L0 _ L1)
def tl_20 : List (Nat × Ev.Spec) := (20, sp20) :: tl_0
def tbl_20 (D : Dom) : Tbl D := tblOf tl_20 D
theorem tok_20 : TblOK Try.prog (tbl_20 R) := TblOK.cons tok_0 en20

-- math.Sqrt
def S23_0 (D : Dom) (a0 : D.F) : D.F := (D.fsqrt a0)
theorem ev23 (D : Dom) (a0 : D.F) : joinT (evFn Try.prog (tbl_20 D) 60 23 [.fl a0]) = .val none (.fl (S23_0 D a0)) := by kernel_rfl
def sp23 : Ev.Spec := fun D l => argF l fun a0 r0 => arg0 r0 (.ret (.fl (S23_0 D a0)))
theorem en23 : ∀ l r, (sp23 R l).run = some r → Entry Try.prog 23 l r := by
  intro l r h
  obtain ⟨x0, _, h, L0⟩ := argF_inv h
  obtain ⟨h, L1⟩ := arg0_inv h
  cases h
  exact (entry_of prg tok_20 (ev23 R x0) (fun o ho => nomatch ho) rfl).le (L0 _ L1)
def tl_23 : List (Nat × Ev.Spec) := (23, sp23) :: tl_20
def tbl_23 (D : Dom) : Tbl D := tblOf tl_23 D
theorem tok_23 : TblOK Try.prog (tbl_23 R) := TblOK.cons tok_20 en23

-- penumbra/warp.Tent
def S21_0 (D : Dom) (a0 : D.F) : D.F := (D.fite (D.flt (D.fmul (D.fc 4611686018427387904) (S20_0 D a0)) (D.fc 4607182418800017408)) (D.fsub (S23_0 D (D.fmul (D.fc 4611686018427387904) (S20_0 D a0))) (D.fc 4607182418800017408)) (D.fsub (D.fc 4607182418800017408) (S23_0 D (D.fsub (D.fc 4611686018427387904) (D.fmul (D.fc 4611686018427387904) (S20_0 D a0))))))
theorem ev21 (D : Dom) (a0 : D.F) : joinT (evFn Try.prog (tbl_23 D) 60 21 [.fl a0]) = .val none (.fl (S21_0 D a0)) := by kernel_rfl
def sp21 : Ev.Spec := fun D l => argF l fun a0 r0 => arg0 r0 (.ret (.fl (S21_0 D a0)))
theorem en21 : ∀ l r, (sp21 R l).run = some r → Entry Try.prog 21 l r := by
  intro l r h
  obtain ⟨x0, _, h, L0⟩ := argF_inv h
  obtain ⟨h, L1⟩ := arg0_inv h
  cases h
  exact (entry_of prg tok_23 (ev21 R x0) (fun o ho => nomatch ho) rfl).le (L0 _ L1)
def tl_21 : List (Nat × Ev.Spec) := (21, sp21) :: tl_23
def tbl_21 (D : Dom) : Tbl D := tblOf tl_21 D
theorem tok_21 : TblOK Try.prog (tbl_21 R) := TblOK.cons tok_23 en21

-- penumbra/vec.Number
def S22_0 (D : Dom) (a0 : D.F) : D.B := (D.bite (D.fge a0 (D.fc 18442240474082181119)) (D.fle a0 (D.fc 9218868437227405311)) (D.bc false))
theorem ev22 (D : Dom) (a0 : D.F) : joinT (evFn Try.prog (tbl_21 D) 60 22 [.fl a0]) = .val none (.sb (S22_0 D a0)) := by kernel_rfl
def sp22 : Ev.Spec := fun D l => argF l fun a0 r0 => arg0 r0 (.ret (.sb (S22_0 D a0)))
theorem en22 : ∀ l r, (sp22 R l).run = some r → Entry Try.prog 22 l r := by
  intro l r h
  obtain ⟨x0, _, h, L0⟩ := argF_inv h
  obtain ⟨h, L1⟩ := arg0_inv h
  cases h
  exact (entry_of prg tok_21 (ev22 R x0) (fun o ho => nomatch ho) rfl).le (L0 _ L1)
def tl_22 : List (Nat × Ev.Spec) := (22, sp22) :: tl_21
def tbl_22 (D : Dom) : Tbl D := tblOf tl_22 D
theorem tok_22 : TblOK Try.prog (tbl_22 R) := TblOK.cons tok_21 en22

-- penumbra/penumbralaw20.awake
def S7_0 (D : Dom)  : D.B := (D.bite (D.bnot (D.bite (D.fge (D.fc 4602678819172646912) (D.fc 4562146422526312448)) (D.fle (D.fc 4602678819172646912) (D.fc 4620693217682128896)) (D.bc false))) (D.bc false) (D.bite (D.bite (D.bite (D.bite (D.bite (D.bite (D.feq (D.fmul (D.fsub (D.fmul (D.fc 4611686018427387904) (S20_0 D (D.fc 0))) (D.fc 4607182418800017408)) (D.fc 4602678819172646912)) (D.fc 13826050856027422720)) (D.feq (D.fadd (D.fadd (D.i2f (D.zc 3)) (D.fc 4602678819172646912)) (D.fmul (D.fsub (D.fmul (D.fc 4611686018427387904) (S20_0 D (D.fc 4602678819172646912))) (D.fc 4607182418800017408)) (D.fc 4602678819172646912))) (D.fc 4615063718147915776)) (D.bc false)) (D.feq (D.fadd (D.fadd (D.i2f (D.zc 4)) (D.fc 4602678819172646912)) (D.fmul (D.fsub (D.fmul (D.fc 4611686018427387904) (S20_0 D (D.fc 0))) (D.fc 4607182418800017408)) (D.fc 4602678819172646912))) (D.fc 4616189618054758400)) (D.bc false)) (D.feq (D.fite (D.bite (D.bite (D.bnot (S22_0 D (D.fite (D.flt (D.fc 4598175219545276416) (D.fc 0)) (D.fsub (D.fc 0) (D.fc 4598175219545276416)) (D.fc 4598175219545276416)))) (D.bc true) (D.fgt (D.fite (D.flt (D.fc 4598175219545276416) (D.fc 0)) (D.fsub (D.fc 0) (D.fc 4598175219545276416)) (D.fc 4598175219545276416)) (D.fc 4602678819172646912))) (D.bc true) (D.feq (D.fc 4602678819172646912) (D.fc 0))) (D.fc 0) (D.fdiv (D.fc 4607182418800017408) (D.fmul (D.fc 4611686018427387904) (D.fc 4602678819172646912)))) (D.fc 4607182418800017408)) (D.bc false)) (D.feq (D.fite (D.bite (D.bite (D.bnot (S22_0 D (D.fite (D.flt (D.fc 4604930618986332160) (D.fc 0)) (D.fsub (D.fc 0) (D.fc 4604930618986332160)) (D.fc 4604930618986332160)))) (D.bc true) (D.fgt (D.fite (D.flt (D.fc 4604930618986332160) (D.fc 0)) (D.fsub (D.fc 0) (D.fc 4604930618986332160)) (D.fc 4604930618986332160)) (D.fc 4602678819172646912))) (D.bc true) (D.feq (D.fc 4602678819172646912) (D.fc 0))) (D.fc 0) (D.fdiv (D.fc 4607182418800017408) (D.fmul (D.fc 4611686018427387904) (D.fc 4602678819172646912)))) (D.fc 0)) (D.bc false)) (D.bc true) (D.bc false)) (D.bc true) (D.bc false)))
theorem ev7 (D : Dom)  : joinT (evFn Try.prog (tbl_22 D) 60 7 []) = .val none (.sb (S7_0 D)) := by kernel_rfl
def sp7 : Ev.Spec := fun D l => arg0 l (.ret (.sb (S7_0 D)))
theorem en7 : ∀ l r, (sp7 R l).run = some r → Entry Try.prog 7 l r := by
  intro l r h
  obtain ⟨h, L0⟩ := arg0_inv h
  cases h
  exact (entry_of prg tok_22 (ev7 R ) (fun o ho => nomatch ho) rfl).le L0
def tl_7 : List (Nat × Ev.Spec) := (7, sp7) :: tl_22
def tbl_7 (D : Dom) : Tbl D := tblOf tl_7 D
theorem tok_7 : TblOK Try.prog (tbl_7 R) := TblOK.cons tok_22 en7

-- penumbra/penumbraref20.Right
def S8_0 (D : Dom) (a0 : D.Z) (a1 : D.F) : D.B := (D.bite (D.bite (D.bite (D.zeq a0 (D.zc 1)) (D.bc true) (D.zeq a0 (D.zc 2))) (D.fge a1 (D.fc 4562146422526312448)) (D.bc false)) (D.fle a1 (D.fc 4620693217682128896)) (D.bc false))
theorem ev8 (D : Dom) (a0 : D.Z) (a1 : D.F) : joinT (evFn Try.prog (tbl_7 D) 60 8 [.si .i64 a0, .fl a1]) = .val none (.sb (S8_0 D a0 a1)) := by kernel_rfl
def sp8 : Ev.Spec := fun D l => argZ .i64 l fun a0 r0 => argF r0 fun a1 r1 => arg0 r1 (.ret (.sb (S8_0 D a0 a1)))
theorem en8 : ∀ l r, (sp8 R l).run = some r → Entry Try.prog 8 l r := by
  intro l r h
  obtain ⟨x0, _, h, L0⟩ := argZ_inv h
  obtain ⟨x1, _, h, L1⟩ := argF_inv h
  obtain ⟨h, L2⟩ := arg0_inv h
  cases h
  exact (entry_of prg tok_7 (ev8 R x0 x1) (fun o ho => nomatch ho) rfl).le (L0 _ (L1 _ L2))
def tl_8 : List (Nat × Ev.Spec) := (8, sp8) :: tl_7
def tbl_8 (D : Dom) : Tbl D := tblOf tl_8 D
theorem tok_8 : TblOK Try.prog (tbl_8 R) := TblOK.cons tok_7 en8

-- penumbra/penumbraref06.Clean
def S18_0 (D : Dom) (a0 : D.F) : D.F := (D.fite (D.bite (D.bite (D.flt a0 (D.fc 0)) (D.bc true) (D.fge a0 (D.fc 4607182418800017408))) (D.bc true) (D.bnot (D.feq a0 a0))) (D.fc 0) a0)
theorem ev18 (D : Dom) (a0 : D.F) : joinT (evFn Try.prog (tbl_8 D) 60 18 [.fl a0]) = .val none (.fl (S18_0 D a0)) := by kernel_rfl
def sp18 : Ev.Spec := fun D l => argF l fun a0 r0 => arg0 r0 (.ret (.fl (S18_0 D a0)))
theorem en18 : ∀ l r, (sp18 R l).run = some r → Entry Try.prog 18 l r := by
  intro l r h
  obtain ⟨x0, _, h, L0⟩ := argF_inv h
  obtain ⟨h, L1⟩ := arg0_inv h
  cases h
  exact (entry_of prg tok_8 (ev18 R x0) (fun o ho => nomatch ho) rfl).le (L0 _ L1)
def tl_18 : List (Nat × Ev.Spec) := (18, sp18) :: tl_8
def tbl_18 (D : Dom) : Tbl D := tblOf tl_18 D
theorem tok_18 : TblOK Try.prog (tbl_18 R) := TblOK.cons tok_8 en18

-- penumbra/penumbraref09.Tent
def S19_0 (D : Dom) (a0 : D.F) : D.F := (D.fite (D.fge (D.fadd (S18_0 D a0) (S18_0 D a0)) (D.fc 4607182418800017408)) (D.fsub (D.fc 4607182418800017408) (S23_0 D (D.fsub (D.fc 4611686018427387904) (D.fadd (S18_0 D a0) (S18_0 D a0))))) (D.fsub (S23_0 D (D.fadd (S18_0 D a0) (S18_0 D a0))) (D.fc 4607182418800017408)))
theorem ev19 (D : Dom) (a0 : D.F) : joinT (evFn Try.prog (tbl_18 D) 60 19 [.fl a0]) = .val none (.fl (S19_0 D a0)) := by kernel_rfl
def sp19 : Ev.Spec := fun D l => argF l fun a0 r0 => arg0 r0 (.ret (.fl (S19_0 D a0)))
theorem en19 : ∀ l r, (sp19 R l).run = some r → Entry Try.prog 19 l r := by
  intro l r h
  obtain ⟨x0, _, h, L0⟩ := argF_inv h
  obtain ⟨h, L1⟩ := arg0_inv h
  cases h
  exact (entry_of prg tok_18 (ev19 R x0) (fun o ho => nomatch ho) rfl).le (L0 _ L1)
def tl_19 : List (Nat × Ev.Spec) := (19, sp19) :: tl_18
def tbl_19 (D : Dom) : Tbl D := tblOf tl_19 D
theorem tok_19 : TblOK Try.prog (tbl_19 R) := TblOK.cons tok_18 en19

-- penumbra/penumbraref20.Offset
def S12_0 (D : Dom) (a0 : D.Z) (a1 : D.F) (a2 : D.F) : D.F := (D.fite (D.zeq a0 (D.zc 1)) (D.fmul (D.fsub (D.fmul (D.fc 4611686018427387904) (S18_0 D a2)) (D.fc 4607182418800017408)) a1) (D.fmul (S19_0 D a2) a1))
theorem ev12 (D : Dom) (a0 : D.Z) (a1 : D.F) (a2 : D.F) : joinT (evFn Try.prog (tbl_19 D) 60 12 [.si .i64 a0, .fl a1, .fl a2]) = .val none (.fl (S12_0 D a0 a1 a2)) := by kernel_rfl
def sp12 : Ev.Spec := fun D l => argZ .i64 l fun a0 r0 => argF r0 fun a1 r1 => argF r1 fun a2 r2 => arg0 r2 (.ret (.fl (S12_0 D a0 a1 a2)))
theorem en12 : ∀ l r, (sp12 R l).run = some r → Entry Try.prog 12 l r := by
  intro l r h
  obtain ⟨x0, _, h, L0⟩ := argZ_inv h
  obtain ⟨x1, _, h, L1⟩ := argF_inv h
  obtain ⟨x2, _, h, L2⟩ := argF_inv h
  obtain ⟨h, L3⟩ := arg0_inv h
  cases h
  exact (entry_of prg tok_19 (ev12 R x0 x1 x2) (fun o ho => nomatch ho) rfl).le (L0 _ (L1 _ (L2 _ L3)))
def tl_12 : List (Nat × Ev.Spec) := (12, sp12) :: tl_19
def tbl_12 (D : Dom) : Tbl D := tblOf tl_12 D
theorem tok_12 : TblOK Try.prog (tbl_12 R) := TblOK.cons tok_19 en12

-- penumbra/penumbraref20.Weight
def S16_0 (D : Dom) (a0 : D.Z) (a1 : D.F) (a2 : D.F) : D.F := (D.fite (D.bnot (D.fle (D.fite (D.flt a2 (D.fc 0)) (D.fsub (D.fc 0) a2) a2) a1)) (D.fc 0) (D.fite (D.zeq a0 (D.zc 1)) (D.fdiv (D.fc 4607182418800017408) (D.fmul (D.fc 4611686018427387904) a1)) (D.fdiv (D.fsub (D.fc 4607182418800017408) (D.fdiv (D.fite (D.flt a2 (D.fc 0)) (D.fsub (D.fc 0) a2) a2) a1)) a1)))
theorem ev16 (D : Dom) (a0 : D.Z) (a1 : D.F) (a2 : D.F) : joinT (evFn Try.prog (tbl_12 D) 60 16 [.si .i64 a0, .fl a1, .fl a2]) = .val none (.fl (S16_0 D a0 a1 a2)) := by kernel_rfl
def sp16 : Ev.Spec := fun D l => argZ .i64 l fun a0 r0 => argF r0 fun a1 r1 => argF r1 fun a2 r2 => arg0 r2 (.ret (.fl (S16_0 D a0 a1 a2)))
theorem en16 : ∀ l r, (sp16 R l).run = some r → Entry Try.prog 16 l r := by
  intro l r h
  obtain ⟨x0, _, h, L0⟩ := argZ_inv h
  obtain ⟨x1, _, h, L1⟩ := argF_inv h
  obtain ⟨x2, _, h, L2⟩ := argF_inv h
  obtain ⟨h, L3⟩ := arg0_inv h
  cases h
  exact (entry_of prg tok_12 (ev16 R x0 x1 x2) (fun o ho => nomatch ho) rfl).le (L0 _ (L1 _ (L2 _ L3)))
def tl_16 : List (Nat × Ev.Spec) := (16, sp16) :: tl_12
def tbl_16 (D : Dom) : Tbl D := tblOf tl_16 D
theorem tok_16 : TblOK Try.prog (tbl_16 R) := TblOK.cons tok_12 en16

-- penumbra/penumbraref02.Same
def S14_0 (D : Dom) (a0 : D.F) (a1 : D.F) : D.B := (D.bite (D.feq a0 a1) (D.bc true) (D.bite (D.bnot (D.feq a0 a0)) (D.bnot (D.feq a1 a1)) (D.bc false)))
theorem ev14 (D : Dom) (a0 : D.F) (a1 : D.F) : joinT (evFn Try.prog (tbl_16 D) 60 14 [.fl a0, .fl a1]) = .val none (.sb (S14_0 D a0 a1)) := by kernel_rfl
def sp14 : Ev.Spec := fun D l => argF l fun a0 r0 => argF r0 fun a1 r1 => arg0 r1 (.ret (.sb (S14_0 D a0 a1)))
theorem en14 : ∀ l r, (sp14 R l).run = some r → Entry Try.prog 14 l r := by
  intro l r h
  obtain ⟨x0, _, h, L0⟩ := argF_inv h
  obtain ⟨x1, _, h, L1⟩ := argF_inv h
  obtain ⟨h, L2⟩ := arg0_inv h
  cases h
  exact (entry_of prg tok_16 (ev14 R x0 x1) (fun o ho => nomatch ho) rfl).le (L0 _ (L1 _ L2))
def tl_14 : List (Nat × Ev.Spec) := (14, sp14) :: tl_16
def tbl_14 (D : Dom) : Tbl D := tblOf tl_14 D
theorem tok_14 : TblOK Try.prog (tbl_14 R) := TblOK.cons tok_16 en14

-- penumbra/penumbralaw20.FiltTells
def S3_0 (D : Dom) (a0 : D.Z) (a1 : D.Z) (a2 : D.Z) (a3 : D.F) (a4 : D.F) (a5 : D.F) (a6 : D.F) : D.B := (D.bite (D.bite (D.bite (D.bnot (D.zeq a0 (D.zc 1))) (D.bnot (D.zeq a0 (D.zc 2))) (D.bc false)) (D.bc true) (D.bnot (D.bite (D.fge a3 (D.fc 4562146422526312448)) (D.fle a3 (D.fc 4620693217682128896)) (D.bc false)))) (D.bite (D.bite (D.bnot (D.zeq a0 (D.zc 1))) (D.bnot (D.zeq a0 (D.zc 2))) (D.bc false)) (D.bite (D.bite (S7_0 D) (D.bc true) (D.bc false)) (D.zeq (D.zite (D.bite (D.bnot (D.zeq a0 (D.zc 1))) (D.bnot (D.zeq a0 (D.zc 2))) (D.bc false)) (D.zc 2) (D.zc 3)) (D.zc 2)) (D.bc false)) (D.bite (D.bnot (S8_0 D a0 a3)) (D.bite (D.bite (S7_0 D) (D.bc true) (D.bc false)) (D.zeq (D.zite (D.bite (D.bnot (D.zeq a0 (D.zc 1))) (D.bnot (D.zeq a0 (D.zc 2))) (D.bc false)) (D.zc 2) (D.zc 3)) (D.zc 3)) (D.bc false)) (D.bc false))) (D.bite (D.bite (D.bnot (D.zeq a0 (D.zc 1))) (D.bnot (D.zeq a0 (D.zc 2))) (D.bc false)) (D.bc false) (D.bite (D.bnot (S8_0 D a0 a3)) (D.bc false) (D.bite (D.bnot (D.zeq a0 a0)) (D.bc false) (D.bite (D.bnot (D.feq a3 a3)) (D.bc false) (D.bite (S7_0 D) (D.bite (D.feq (D.fite (D.bite (D.zeq a0 (D.zc 1)) (D.bc true) (D.zeq a0 (D.zc 2))) (D.fite (D.zeq a0 (D.zc 1)) (D.fmul (D.fsub (D.fmul (D.fc 4611686018427387904) (S20_0 D a4)) (D.fc 4607182418800017408)) a3) (D.fmul (S21_0 D a4) a3)) (D.fc 0)) (S12_0 D a0 a3 a4)) (D.bite (D.feq (D.fadd (D.fadd (D.i2f a1) (D.fc 4602678819172646912)) (D.fite (D.bite (D.zeq a0 (D.zc 1)) (D.bc true) (D.zeq a0 (D.zc 2))) (D.fite (D.zeq a0 (D.zc 1)) (D.fmul (D.fsub (D.fmul (D.fc 4611686018427387904) (S20_0 D a4)) (D.fc 4607182418800017408)) a3) (D.fmul (S21_0 D a4) a3)) (D.fc 0))) (D.fadd (D.fadd (D.i2f a1) (D.fc 4602678819172646912)) (S12_0 D a0 a3 a4))) (D.bite (D.feq (D.fadd (D.fadd (D.i2f a2) (D.fc 4602678819172646912)) (D.fite (D.bite (D.zeq a0 (D.zc 1)) (D.bc true) (D.zeq a0 (D.zc 2))) (D.fite (D.zeq a0 (D.zc 1)) (D.fmul (D.fsub (D.fmul (D.fc 4611686018427387904) (S20_0 D a5)) (D.fc 4607182418800017408)) a3) (D.fmul (S21_0 D a5) a3)) (D.fc 0))) (D.fadd (D.fadd (D.i2f a2) (D.fc 4602678819172646912)) (S12_0 D a0 a3 a5))) (S14_0 D (D.fite (D.bite (D.bite (D.bnot (S22_0 D (D.fite (D.flt a6 (D.fc 0)) (D.fsub (D.fc 0) a6) a6))) (D.bc true) (D.fgt (D.fite (D.flt a6 (D.fc 0)) (D.fsub (D.fc 0) a6) a6) a3)) (D.bc true) (D.feq a3 (D.fc 0))) (D.fc 0) (D.fite (D.zeq a0 (D.zc 1)) (D.fdiv (D.fc 4607182418800017408) (D.fmul (D.fc 4611686018427387904) a3)) (D.fdiv (D.fsub (D.fc 4607182418800017408) (D.fdiv (D.fite (D.flt a6 (D.fc 0)) (D.fsub (D.fc 0) a6) a6) a3)) a3))) (S16_0 D a0 a3 a6)) (D.bc false)) (D.bc false)) (D.bc false)) (D.bc false)))))))
theorem ev3 (D : Dom) (a0 : D.Z) (a1 : D.Z) (a2 : D.Z) (a3 : D.F) (a4 : D.F) (a5 : D.F) (a6 : D.F) : joinT (evFn Try.prog (tbl_14 D) 60 3 [.agg [.si .i64 a0, .si .i64 a1, .si .i64 a2, .fl a3, .fl a4, .fl a5, .fl a6]]) = .val none (.sb (S3_0 D a0 a1 a2 a3 a4 a5 a6)) := by kernel_rfl
def sp3 : Ev.Spec := fun D l => argA l fun c0 r0 => argZ .i64 c0 fun a0 r1 => argZ .i64 r1 fun a1 r2 => argZ .i64 r2 fun a2 r3 => argF r3 fun a3 r4 => argF r4 fun a4 r5 => argF r5 fun a5 r6 => argF r6 fun a6 r7 => arg0 r7 (arg0 r0 (.ret (.sb (S3_0 D a0 a1 a2 a3 a4 a5 a6))))
theorem en3 : ∀ l r, (sp3 R l).run = some r → Entry Try.prog 3 l r := by
  intro l r h
  obtain ⟨_, _, h, L0⟩ := argA_inv h
  obtain ⟨x1, _, h, L1⟩ := argZ_inv h
  obtain ⟨x2, _, h, L2⟩ := argZ_inv h
  obtain ⟨x3, _, h, L3⟩ := argZ_inv h
  obtain ⟨x4, _, h, L4⟩ := argF_inv h
  obtain ⟨x5, _, h, L5⟩ := argF_inv h
  obtain ⟨x6, _, h, L6⟩ := argF_inv h
  obtain ⟨x7, _, h, L7⟩ := argF_inv h
  obtain ⟨h, L8⟩ := arg0_inv h
  obtain ⟨h, L9⟩ := arg0_inv h
  cases h
  exact (entry_of prg tok_14 (ev3 R x1 x2 x3 x4 x5 x6 x7) (fun o ho => nomatch ho) rfl).le (L0 _ _ (L1 _ (L2 _ (L3 _ (L4 _ (L5 _ (L6 _ (L7 _ L8))))))) L9)
def tl_3 : List (Nat × Ev.Spec) := (3, sp3) :: tl_14
def tbl_3 (D : Dom) : Tbl D := tblOf tl_3 D
theorem tok_3 : TblOK Try.prog (tbl_3 R) := TblOK.cons tok_14 en3

-- penumbra/penumbralaw20.FiltWithin
def S4_0 (D : Dom) (a0 : D.Z) (a3 : D.F) (a4 : D.F) (a6 : D.F) : D.B := (D.bite (D.bite (D.bite (D.bnot (D.zeq a0 (D.zc 1))) (D.bnot (D.zeq a0 (D.zc 2))) (D.bc false)) (D.bc true) (D.bnot (D.bite (D.fge a3 (D.fc 4562146422526312448)) (D.fle a3 (D.fc 4620693217682128896)) (D.bc false)))) (D.bite (D.bnot (S8_0 D a0 a3)) (D.bite (S7_0 D) (D.bnot (D.zeq (D.zite (D.bite (D.bnot (D.zeq a0 (D.zc 1))) (D.bnot (D.zeq a0 (D.zc 2))) (D.bc false)) (D.zc 2) (D.zc 3)) (D.zc 0))) (D.bc false)) (D.bite (D.bite (D.bite (D.bite (D.bite (S7_0 D) (D.fge (D.fc 0) (D.fsub (D.fc 0) a3)) (D.bc false)) (D.fle (D.fc 0) a3) (D.bc false)) (D.fge (D.fc 0) (D.fc 0)) (D.bc false)) (D.fge (D.fc 0) (D.fc 0)) (D.bc false)) (D.fgt (D.fc 0) (D.fc 0)) (D.bc false))) (D.bite (D.bnot (S8_0 D a0 a3)) (D.bc false) (D.bite (D.bite (D.bite (D.bite (D.bite (S7_0 D) (D.fge (D.fite (D.bite (D.zeq a0 (D.zc 1)) (D.bc true) (D.zeq a0 (D.zc 2))) (D.fite (D.zeq a0 (D.zc 1)) (D.fmul (D.fsub (D.fmul (D.fc 4611686018427387904) (S20_0 D a4)) (D.fc 4607182418800017408)) a3) (D.fmul (S21_0 D a4) a3)) (D.fc 0)) (D.fsub (D.fc 0) a3)) (D.bc false)) (D.fle (D.fite (D.bite (D.zeq a0 (D.zc 1)) (D.bc true) (D.zeq a0 (D.zc 2))) (D.fite (D.zeq a0 (D.zc 1)) (D.fmul (D.fsub (D.fmul (D.fc 4611686018427387904) (S20_0 D a4)) (D.fc 4607182418800017408)) a3) (D.fmul (S21_0 D a4) a3)) (D.fc 0)) a3) (D.bc false)) (D.fge (D.fite (D.bite (D.bite (D.bnot (S22_0 D (D.fite (D.flt (D.fite (D.bite (D.zeq a0 (D.zc 1)) (D.bc true) (D.zeq a0 (D.zc 2))) (D.fite (D.zeq a0 (D.zc 1)) (D.fmul (D.fsub (D.fmul (D.fc 4611686018427387904) (S20_0 D a4)) (D.fc 4607182418800017408)) a3) (D.fmul (S21_0 D a4) a3)) (D.fc 0)) (D.fc 0)) (D.fsub (D.fc 0) (D.fite (D.bite (D.zeq a0 (D.zc 1)) (D.bc true) (D.zeq a0 (D.zc 2))) (D.fite (D.zeq a0 (D.zc 1)) (D.fmul (D.fsub (D.fmul (D.fc 4611686018427387904) (S20_0 D a4)) (D.fc 4607182418800017408)) a3) (D.fmul (S21_0 D a4) a3)) (D.fc 0))) (D.fite (D.bite (D.zeq a0 (D.zc 1)) (D.bc true) (D.zeq a0 (D.zc 2))) (D.fite (D.zeq a0 (D.zc 1)) (D.fmul (D.fsub (D.fmul (D.fc 4611686018427387904) (S20_0 D a4)) (D.fc 4607182418800017408)) a3) (D.fmul (S21_0 D a4) a3)) (D.fc 0))))) (D.bc true) (D.fgt (D.fite (D.flt (D.fite (D.bite (D.zeq a0 (D.zc 1)) (D.bc true) (D.zeq a0 (D.zc 2))) (D.fite (D.zeq a0 (D.zc 1)) (D.fmul (D.fsub (D.fmul (D.fc 4611686018427387904) (S20_0 D a4)) (D.fc 4607182418800017408)) a3) (D.fmul (S21_0 D a4) a3)) (D.fc 0)) (D.fc 0)) (D.fsub (D.fc 0) (D.fite (D.bite (D.zeq a0 (D.zc 1)) (D.bc true) (D.zeq a0 (D.zc 2))) (D.fite (D.zeq a0 (D.zc 1)) (D.fmul (D.fsub (D.fmul (D.fc 4611686018427387904) (S20_0 D a4)) (D.fc 4607182418800017408)) a3) (D.fmul (S21_0 D a4) a3)) (D.fc 0))) (D.fite (D.bite (D.zeq a0 (D.zc 1)) (D.bc true) (D.zeq a0 (D.zc 2))) (D.fite (D.zeq a0 (D.zc 1)) (D.fmul (D.fsub (D.fmul (D.fc 4611686018427387904) (S20_0 D a4)) (D.fc 4607182418800017408)) a3) (D.fmul (S21_0 D a4) a3)) (D.fc 0))) a3)) (D.bc true) (D.feq a3 (D.fc 0))) (D.fc 0) (D.fite (D.zeq a0 (D.zc 1)) (D.fdiv (D.fc 4607182418800017408) (D.fmul (D.fc 4611686018427387904) a3)) (D.fdiv (D.fsub (D.fc 4607182418800017408) (D.fdiv (D.fite (D.flt (D.fite (D.bite (D.zeq a0 (D.zc 1)) (D.bc true) (D.zeq a0 (D.zc 2))) (D.fite (D.zeq a0 (D.zc 1)) (D.fmul (D.fsub (D.fmul (D.fc 4611686018427387904) (S20_0 D a4)) (D.fc 4607182418800017408)) a3) (D.fmul (S21_0 D a4) a3)) (D.fc 0)) (D.fc 0)) (D.fsub (D.fc 0) (D.fite (D.bite (D.zeq a0 (D.zc 1)) (D.bc true) (D.zeq a0 (D.zc 2))) (D.fite (D.zeq a0 (D.zc 1)) (D.fmul (D.fsub (D.fmul (D.fc 4611686018427387904) (S20_0 D a4)) (D.fc 4607182418800017408)) a3) (D.fmul (S21_0 D a4) a3)) (D.fc 0))) (D.fite (D.bite (D.zeq a0 (D.zc 1)) (D.bc true) (D.zeq a0 (D.zc 2))) (D.fite (D.zeq a0 (D.zc 1)) (D.fmul (D.fsub (D.fmul (D.fc 4611686018427387904) (S20_0 D a4)) (D.fc 4607182418800017408)) a3) (D.fmul (S21_0 D a4) a3)) (D.fc 0))) a3)) a3))) (D.fc 0)) (D.bc false)) (D.fge (D.fite (D.bite (D.bite (D.bnot (S22_0 D (D.fite (D.flt a6 (D.fc 0)) (D.fsub (D.fc 0) a6) a6))) (D.bc true) (D.fgt (D.fite (D.flt a6 (D.fc 0)) (D.fsub (D.fc 0) a6) a6) a3)) (D.bc true) (D.feq a3 (D.fc 0))) (D.fc 0) (D.fite (D.zeq a0 (D.zc 1)) (D.fdiv (D.fc 4607182418800017408) (D.fmul (D.fc 4611686018427387904) a3)) (D.fdiv (D.fsub (D.fc 4607182418800017408) (D.fdiv (D.fite (D.flt a6 (D.fc 0)) (D.fsub (D.fc 0) a6) a6) a3)) a3))) (D.fc 0)) (D.bc false)) (D.fgt (D.fite (D.bite (D.bite (D.bnot (S22_0 D (D.fite (D.flt (D.fc 0) (D.fc 0)) (D.fsub (D.fc 0) (D.fc 0)) (D.fc 0)))) (D.bc true) (D.fgt (D.fite (D.flt (D.fc 0) (D.fc 0)) (D.fsub (D.fc 0) (D.fc 0)) (D.fc 0)) a3)) (D.bc true) (D.feq a3 (D.fc 0))) (D.fc 0) (D.fite (D.zeq a0 (D.zc 1)) (D.fdiv (D.fc 4607182418800017408) (D.fmul (D.fc 4611686018427387904) a3)) (D.fdiv (D.fsub (D.fc 4607182418800017408) (D.fdiv (D.fite (D.flt (D.fc 0) (D.fc 0)) (D.fsub (D.fc 0) (D.fc 0)) (D.fc 0)) a3)) a3))) (D.fc 0)) (D.bc false))))
def O4 (D : Dom) (a0 : D.Z) (a3 : D.F) (a6 : D.F) : D.B := (D.bite (D.bite (D.bite (D.bnot (D.zeq a0 (D.zc 1))) (D.bnot (D.zeq a0 (D.zc 2))) (D.bc false)) (D.bc true) (D.bnot (D.bite (D.fge a3 (D.fc 4562146422526312448)) (D.fle a3 (D.fc 4620693217682128896)) (D.bc false)))) (D.bite (D.bnot (S8_0 D a0 a3)) (D.bc true) (D.band (D.bite (D.bite (D.bnot (S22_0 D (D.fite (D.flt (D.fc 0) (D.fc 0)) (D.fsub (D.fc 0) (D.fc 0)) (D.fc 0)))) (D.bc true) (D.fgt (D.fite (D.flt (D.fc 0) (D.fc 0)) (D.fsub (D.fc 0) (D.fc 0)) (D.fc 0)) (D.fc 0))) (D.bc true) (D.feq (D.fc 0) (D.fc 0))) (D.band (D.bite (D.bite (D.bite (D.bite (S7_0 D) (D.fge (D.fc 0) (D.fsub (D.fc 0) a3)) (D.bc false)) (D.fle (D.fc 0) a3) (D.bc false)) (D.fge (D.fc 0) (D.fc 0)) (D.bc false)) (D.bite (D.bite (D.bnot (S22_0 D (D.fite (D.flt a6 (D.fc 0)) (D.fsub (D.fc 0) a6) a6))) (D.bc true) (D.fgt (D.fite (D.flt a6 (D.fc 0)) (D.fsub (D.fc 0) a6) a6) (D.fc 0))) (D.bc true) (D.feq (D.fc 0) (D.fc 0))) (D.bc true)) (D.bite (D.bite (D.bite (D.bite (D.bite (S7_0 D) (D.fge (D.fc 0) (D.fsub (D.fc 0) a3)) (D.bc false)) (D.fle (D.fc 0) a3) (D.bc false)) (D.fge (D.fc 0) (D.fc 0)) (D.bc false)) (D.fge (D.fc 0) (D.fc 0)) (D.bc false)) (D.bite (D.bite (D.bnot (S22_0 D (D.fite (D.flt (D.fc 0) (D.fc 0)) (D.fsub (D.fc 0) (D.fc 0)) (D.fc 0)))) (D.bc true) (D.fgt (D.fite (D.flt (D.fc 0) (D.fc 0)) (D.fsub (D.fc 0) (D.fc 0)) (D.fc 0)) (D.fc 0))) (D.bc true) (D.feq (D.fc 0) (D.fc 0))) (D.bc true))))) (D.bc true))
theorem ev4 (D : Dom) (a0 : D.Z) (a1 : D.Z) (a2 : D.Z) (a3 : D.F) (a4 : D.F) (a5 : D.F) (a6 : D.F) : joinT (evFn Try.prog (tbl_3 D) 60 4 [.agg [.si .i64 a0, .si .i64 a1, .si .i64 a2, .fl a3, .fl a4, .fl a5, .fl a6]]) = .val (some (O4 D a0 a3 a6)) (.sb (S4_0 D a0 a3 a4 a6)) := by kernel_rfl
def sp4 : Ev.Spec := fun D l => argA l fun c0 r0 => argZ .i64 c0 fun a0 r1 => argZ .i64 r1 fun _a1 r2 => argZ .i64 r2 fun _a2 r3 => argF r3 fun a3 r4 => argF r4 fun a4 r5 => argF r5 fun _a5 r6 => argF r6 fun a6 r7 => arg0 r7 (arg0 r0 (.node (O4 D a0 a3 a6) (.ret (.sb (S4_0 D a0 a3 a4 a6))) (.fail "pre")))
theorem en4 : ∀ l r, (sp4 R l).run = some r → Entry Try.prog 4 l r := by
  intro l r h
  obtain ⟨_, _, h, L0⟩ := argA_inv h
  obtain ⟨x1, _, h, L1⟩ := argZ_inv h
  obtain ⟨x2, _, h, L2⟩ := argZ_inv h
  obtain ⟨x3, _, h, L3⟩ := argZ_inv h
  obtain ⟨x4, _, h, L4⟩ := argF_inv h
  obtain ⟨x5, _, h, L5⟩ := argF_inv h
  obtain ⟨x6, _, h, L6⟩ := argF_inv h
  obtain ⟨x7, _, h, L7⟩ := argF_inv h
  obtain ⟨h, L8⟩ := arg0_inv h
  obtain ⟨h, L9⟩ := arg0_inv h
  obtain ⟨hok, rfl⟩ := run_okay h
  exact (entry_of prg tok_3 (ev4 R x1 x2 x3 x4 x5 x6 x7) (fun o ho => (Option.some.inj ho) ▸ hok) rfl).le (L0 _ _ (L1 _ (L2 _ (L3 _ (L4 _ (L5 _ (L6 _ (L7 _ L8))))))) L9)
def tl_4 : List (Nat × Ev.Spec) := (4, sp4) :: tl_3
def tbl_4 (D : Dom) : Tbl D := tblOf tl_4 D
theorem tok_4 : TblOK Try.prog (tbl_4 R) := TblOK.cons tok_3 en4

-- penumbra/penumbralaw20.FiltNone
def S5_0 (D : Dom) (a0 : D.Z) (a1 : D.Z) : D.B := (D.bite (D.bite (D.bite (D.bite (D.bite (D.bite (S7_0 D) (D.feq (D.fc 0) (D.fc 0)) (D.bc false)) (D.feq (D.fadd (D.fadd (D.i2f a0) (D.fc 4602678819172646912)) (D.fc 0)) (D.fadd (D.i2f a0) (D.fc 4602678819172646912))) (D.bc false)) (D.feq (D.fadd (D.fadd (D.i2f a1) (D.fc 4602678819172646912)) (D.fc 0)) (D.fadd (D.i2f a1) (D.fc 4602678819172646912))) (D.bc false)) (D.feq (D.fc 0) (D.fc 0)) (D.bc false)) (D.bc true) (D.bc false)) (D.feq (D.fc 0) (D.fc 0)) (D.bc false))
def O5 (D : Dom) (a0 : D.Z) (a1 : D.Z) (a3 : D.F) : D.B := (D.bite (D.bite (D.bite (D.bite (S7_0 D) (D.feq (D.fc 0) (D.fc 0)) (D.bc false)) (D.feq (D.fadd (D.fadd (D.i2f a0) (D.fc 4602678819172646912)) (D.fc 0)) (D.fadd (D.i2f a0) (D.fc 4602678819172646912))) (D.bc false)) (D.feq (D.fadd (D.fadd (D.i2f a1) (D.fc 4602678819172646912)) (D.fc 0)) (D.fadd (D.i2f a1) (D.fc 4602678819172646912))) (D.bc false)) (D.bite (D.bite (D.bnot (S22_0 D (D.fite (D.flt a3 (D.fc 0)) (D.fsub (D.fc 0) a3) a3))) (D.bc true) (D.fgt (D.fite (D.flt a3 (D.fc 0)) (D.fsub (D.fc 0) a3) a3) (D.fc 0))) (D.bc true) (D.feq (D.fc 0) (D.fc 0))) (D.bc true))
theorem ev5 (D : Dom) (a0 : D.Z) (a1 : D.Z) (a2 : D.F) (a3 : D.F) : joinT (evFn Try.prog (tbl_4 D) 60 5 [.agg [.si .i64 a0, .si .i64 a1, .fl a2, .fl a3]]) = .val (some (O5 D a0 a1 a3)) (.sb (S5_0 D a0 a1)) := by kernel_rfl
def sp5 : Ev.Spec := fun D l => argA l fun c0 r0 => argZ .i64 c0 fun a0 r1 => argZ .i64 r1 fun a1 r2 => argF r2 fun _a2 r3 => argF r3 fun a3 r4 => arg0 r4 (arg0 r0 (.node (O5 D a0 a1 a3) (.ret (.sb (S5_0 D a0 a1))) (.fail "pre")))
theorem en5 : ∀ l r, (sp5 R l).run = some r → Entry Try.prog 5 l r := by
  intro l r h
  obtain ⟨_, _, h, L0⟩ := argA_inv h
  obtain ⟨x1, _, h, L1⟩ := argZ_inv h
  obtain ⟨x2, _, h, L2⟩ := argZ_inv h
  obtain ⟨x3, _, h, L3⟩ := argF_inv h
  obtain ⟨x4, _, h, L4⟩ := argF_inv h
  obtain ⟨h, L5⟩ := arg0_inv h
  obtain ⟨h, L6⟩ := arg0_inv h
  obtain ⟨hok, rfl⟩ := run_okay h
  exact (entry_of prg tok_4 (ev5 R x1 x2 x3 x4) (fun o ho => (Option.some.inj ho) ▸ hok) rfl).le (L0 _ _ (L1 _ (L2 _ (L3 _ (L4 _ L5)))) L6)
def tl_5 : List (Nat × Ev.Spec) := (5, sp5) :: tl_4
def tbl_5 (D : Dom) : Tbl D := tblOf tl_5 D
theorem tok_5 : TblOK Try.prog (tbl_5 R) := TblOK.cons tok_4 en5

end Go.Proofs.Ytjckbmajacakaaa
