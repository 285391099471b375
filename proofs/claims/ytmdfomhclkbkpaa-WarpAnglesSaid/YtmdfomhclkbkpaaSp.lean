/- The functions of this seat, each with what it comes to, by the evaluator. PRINTED BY A PROGRAM OF THIS PROJECT (wip/ev/Gen.lean). -/
import Derived.Test.YtmdfomhclkbkpaaEv4
import Derived.Test.YtmdfomhclkbkpaaChecked
namespace Go.Proofs.Ytmdfomhclkbkpaa
open Go.Ev
set_option maxRecDepth 100000

theorem prg : Ev.Prog Try.prog := ⟨by kernel_rfl, by kernel_rfl⟩
def sp31 : Ev.Spec := fun D l => argF l fun a r => arg0 r (.ret (.fl (D.fsqrt a)))
theorem en31 : ∀ l r, (sp31 R l).run = some r → Entry Try.prog 31 l r := by
  intro l r h
  obtain ⟨x0, _, h, L0⟩ := argF_inv h
  obtain ⟨h, L1⟩ := arg0_inv h
  cases h
  exact (entry_sqrt (fn := Try.f31) (by kernel_rfl) (by kernel_rfl) (by kernel_rfl) (by kernel_rfl) (by kernel_rfl) x0).le (L0 _ L1)
def tl_0 : List (Nat × Ev.Spec) := ((31, sp31) :: [])
def tbl_0 (D : Dom) : Tbl D := tblOf tl_0 D
theorem tok_0 : TblOK Try.prog (tbl_0 R) := (TblOK.cons (TblOK.nil _) en31)

-- penumbra/tape.Clean
def S25_0 (D : Dom) (a0 : D.F) : D.F := (D.fite (D.bite (D.fge a0 (D.fc 0)) (D.flt a0 (D.fc 4607182418800017408)) (D.bc false)) a0 (D.fc 0))
theorem ev25 (D : Dom) (a0 : D.F) : joinT (evFn Try.prog (tbl_0 D) 60 25 [.fl a0]) = .val none (.fl (S25_0 D a0)) := by kernel_rfl
def sp25 : Ev.Spec := fun D l => argF l fun a0 r0 => arg0 r0 (.ret (.fl (S25_0 D a0)))
theorem en25 : ∀ l r, (sp25 R l).run = some r → Entry Try.prog 25 l r := by
  intro l r h
  obtain ⟨x0, _, h, L0⟩ := argF_inv h
  obtain ⟨h, L1⟩ := arg0_inv h
  cases h
  exact (entry_of prg tok_0 (ev25 R x0) (fun o ho => nomatch ho) rfl).le (L0 _ L1)
def tl_25 : List (Nat × Ev.Spec) := (25, sp25) :: tl_0
def tbl_25 (D : Dom) : Tbl D := tblOf tl_25 D
theorem tok_25 : TblOK Try.prog (tbl_25 R) := TblOK.cons tok_0 en25

-- math.Sqrt
def S17_0 (D : Dom) (a0 : D.F) : D.F := (D.fsqrt a0)
theorem ev17 (D : Dom) (a0 : D.F) : joinT (evFn Try.prog (tbl_25 D) 60 17 [.fl a0]) = .val none (.fl (S17_0 D a0)) := by kernel_rfl
def sp17 : Ev.Spec := fun D l => argF l fun a0 r0 => arg0 r0 (.ret (.fl (S17_0 D a0)))
theorem en17 : ∀ l r, (sp17 R l).run = some r → Entry Try.prog 17 l r := by
  intro l r h
  obtain ⟨x0, _, h, L0⟩ := argF_inv h
  obtain ⟨h, L1⟩ := arg0_inv h
  cases h
  exact (entry_of prg tok_25 (ev17 R x0) (fun o ho => nomatch ho) rfl).le (L0 _ L1)
def tl_17 : List (Nat × Ev.Spec) := (17, sp17) :: tl_25
def tbl_17 (D : Dom) : Tbl D := tblOf tl_17 D
theorem tok_17 : TblOK Try.prog (tbl_17 R) := TblOK.cons tok_25 en17

-- penumbra/warp.Sector
def S7_0 (D : Dom) (a0 : D.F) : D.F := (D.fite (D.zeq (D.zrem .i64 (D.f2i .i64 (D.fmul (S25_0 D a0) (D.fc 4620693217682128896))) (D.zc 8)) (D.zc 0)) (D.fdiv (D.fc 4607182418800017408) (S17_0 D (D.fadd (D.fc 4607182418800017408) (D.fmul (D.fsub (D.fmul (S25_0 D a0) (D.fc 4620693217682128896)) (D.i2f (D.f2i .i64 (D.fmul (S25_0 D a0) (D.fc 4620693217682128896))))) (D.fsub (D.fmul (S25_0 D a0) (D.fc 4620693217682128896)) (D.i2f (D.f2i .i64 (D.fmul (S25_0 D a0) (D.fc 4620693217682128896))))))))) (D.fite (D.zeq (D.zrem .i64 (D.f2i .i64 (D.fmul (S25_0 D a0) (D.fc 4620693217682128896))) (D.zc 8)) (D.zc 1)) (D.fdiv (D.fsub (D.fmul (S25_0 D a0) (D.fc 4620693217682128896)) (D.i2f (D.f2i .i64 (D.fmul (S25_0 D a0) (D.fc 4620693217682128896))))) (S17_0 D (D.fadd (D.fc 4607182418800017408) (D.fmul (D.fsub (D.fmul (S25_0 D a0) (D.fc 4620693217682128896)) (D.i2f (D.f2i .i64 (D.fmul (S25_0 D a0) (D.fc 4620693217682128896))))) (D.fsub (D.fmul (S25_0 D a0) (D.fc 4620693217682128896)) (D.i2f (D.f2i .i64 (D.fmul (S25_0 D a0) (D.fc 4620693217682128896))))))))) (D.fite (D.zeq (D.zrem .i64 (D.f2i .i64 (D.fmul (S25_0 D a0) (D.fc 4620693217682128896))) (D.zc 8)) (D.zc 2)) (D.fsub (D.fc 0) (D.fdiv (D.fsub (D.fmul (S25_0 D a0) (D.fc 4620693217682128896)) (D.i2f (D.f2i .i64 (D.fmul (S25_0 D a0) (D.fc 4620693217682128896))))) (S17_0 D (D.fadd (D.fc 4607182418800017408) (D.fmul (D.fsub (D.fmul (S25_0 D a0) (D.fc 4620693217682128896)) (D.i2f (D.f2i .i64 (D.fmul (S25_0 D a0) (D.fc 4620693217682128896))))) (D.fsub (D.fmul (S25_0 D a0) (D.fc 4620693217682128896)) (D.i2f (D.f2i .i64 (D.fmul (S25_0 D a0) (D.fc 4620693217682128896)))))))))) (D.fite (D.zeq (D.zrem .i64 (D.f2i .i64 (D.fmul (S25_0 D a0) (D.fc 4620693217682128896))) (D.zc 8)) (D.zc 3)) (D.fsub (D.fc 0) (D.fdiv (D.fc 4607182418800017408) (S17_0 D (D.fadd (D.fc 4607182418800017408) (D.fmul (D.fsub (D.fmul (S25_0 D a0) (D.fc 4620693217682128896)) (D.i2f (D.f2i .i64 (D.fmul (S25_0 D a0) (D.fc 4620693217682128896))))) (D.fsub (D.fmul (S25_0 D a0) (D.fc 4620693217682128896)) (D.i2f (D.f2i .i64 (D.fmul (S25_0 D a0) (D.fc 4620693217682128896)))))))))) (D.fite (D.zeq (D.zrem .i64 (D.f2i .i64 (D.fmul (S25_0 D a0) (D.fc 4620693217682128896))) (D.zc 8)) (D.zc 4)) (D.fsub (D.fc 0) (D.fdiv (D.fc 4607182418800017408) (S17_0 D (D.fadd (D.fc 4607182418800017408) (D.fmul (D.fsub (D.fmul (S25_0 D a0) (D.fc 4620693217682128896)) (D.i2f (D.f2i .i64 (D.fmul (S25_0 D a0) (D.fc 4620693217682128896))))) (D.fsub (D.fmul (S25_0 D a0) (D.fc 4620693217682128896)) (D.i2f (D.f2i .i64 (D.fmul (S25_0 D a0) (D.fc 4620693217682128896)))))))))) (D.fite (D.zeq (D.zrem .i64 (D.f2i .i64 (D.fmul (S25_0 D a0) (D.fc 4620693217682128896))) (D.zc 8)) (D.zc 5)) (D.fsub (D.fc 0) (D.fdiv (D.fsub (D.fmul (S25_0 D a0) (D.fc 4620693217682128896)) (D.i2f (D.f2i .i64 (D.fmul (S25_0 D a0) (D.fc 4620693217682128896))))) (S17_0 D (D.fadd (D.fc 4607182418800017408) (D.fmul (D.fsub (D.fmul (S25_0 D a0) (D.fc 4620693217682128896)) (D.i2f (D.f2i .i64 (D.fmul (S25_0 D a0) (D.fc 4620693217682128896))))) (D.fsub (D.fmul (S25_0 D a0) (D.fc 4620693217682128896)) (D.i2f (D.f2i .i64 (D.fmul (S25_0 D a0) (D.fc 4620693217682128896)))))))))) (D.fite (D.zeq (D.zrem .i64 (D.f2i .i64 (D.fmul (S25_0 D a0) (D.fc 4620693217682128896))) (D.zc 8)) (D.zc 6)) (D.fdiv (D.fsub (D.fmul (S25_0 D a0) (D.fc 4620693217682128896)) (D.i2f (D.f2i .i64 (D.fmul (S25_0 D a0) (D.fc 4620693217682128896))))) (S17_0 D (D.fadd (D.fc 4607182418800017408) (D.fmul (D.fsub (D.fmul (S25_0 D a0) (D.fc 4620693217682128896)) (D.i2f (D.f2i .i64 (D.fmul (S25_0 D a0) (D.fc 4620693217682128896))))) (D.fsub (D.fmul (S25_0 D a0) (D.fc 4620693217682128896)) (D.i2f (D.f2i .i64 (D.fmul (S25_0 D a0) (D.fc 4620693217682128896))))))))) (D.fdiv (D.fc 4607182418800017408) (S17_0 D (D.fadd (D.fc 4607182418800017408) (D.fmul (D.fsub (D.fmul (S25_0 D a0) (D.fc 4620693217682128896)) (D.i2f (D.f2i .i64 (D.fmul (S25_0 D a0) (D.fc 4620693217682128896))))) (D.fsub (D.fmul (S25_0 D a0) (D.fc 4620693217682128896)) (D.i2f (D.f2i .i64 (D.fmul (S25_0 D a0) (D.fc 4620693217682128896))))))))))))))))
def S7_1 (D : Dom) (a0 : D.F) : D.F := (D.fite (D.zeq (D.zrem .i64 (D.f2i .i64 (D.fmul (S25_0 D a0) (D.fc 4620693217682128896))) (D.zc 8)) (D.zc 0)) (D.fdiv (D.fsub (D.fmul (S25_0 D a0) (D.fc 4620693217682128896)) (D.i2f (D.f2i .i64 (D.fmul (S25_0 D a0) (D.fc 4620693217682128896))))) (S17_0 D (D.fadd (D.fc 4607182418800017408) (D.fmul (D.fsub (D.fmul (S25_0 D a0) (D.fc 4620693217682128896)) (D.i2f (D.f2i .i64 (D.fmul (S25_0 D a0) (D.fc 4620693217682128896))))) (D.fsub (D.fmul (S25_0 D a0) (D.fc 4620693217682128896)) (D.i2f (D.f2i .i64 (D.fmul (S25_0 D a0) (D.fc 4620693217682128896))))))))) (D.fite (D.zeq (D.zrem .i64 (D.f2i .i64 (D.fmul (S25_0 D a0) (D.fc 4620693217682128896))) (D.zc 8)) (D.zc 1)) (D.fdiv (D.fc 4607182418800017408) (S17_0 D (D.fadd (D.fc 4607182418800017408) (D.fmul (D.fsub (D.fmul (S25_0 D a0) (D.fc 4620693217682128896)) (D.i2f (D.f2i .i64 (D.fmul (S25_0 D a0) (D.fc 4620693217682128896))))) (D.fsub (D.fmul (S25_0 D a0) (D.fc 4620693217682128896)) (D.i2f (D.f2i .i64 (D.fmul (S25_0 D a0) (D.fc 4620693217682128896))))))))) (D.fite (D.zeq (D.zrem .i64 (D.f2i .i64 (D.fmul (S25_0 D a0) (D.fc 4620693217682128896))) (D.zc 8)) (D.zc 2)) (D.fdiv (D.fc 4607182418800017408) (S17_0 D (D.fadd (D.fc 4607182418800017408) (D.fmul (D.fsub (D.fmul (S25_0 D a0) (D.fc 4620693217682128896)) (D.i2f (D.f2i .i64 (D.fmul (S25_0 D a0) (D.fc 4620693217682128896))))) (D.fsub (D.fmul (S25_0 D a0) (D.fc 4620693217682128896)) (D.i2f (D.f2i .i64 (D.fmul (S25_0 D a0) (D.fc 4620693217682128896))))))))) (D.fite (D.zeq (D.zrem .i64 (D.f2i .i64 (D.fmul (S25_0 D a0) (D.fc 4620693217682128896))) (D.zc 8)) (D.zc 3)) (D.fdiv (D.fsub (D.fmul (S25_0 D a0) (D.fc 4620693217682128896)) (D.i2f (D.f2i .i64 (D.fmul (S25_0 D a0) (D.fc 4620693217682128896))))) (S17_0 D (D.fadd (D.fc 4607182418800017408) (D.fmul (D.fsub (D.fmul (S25_0 D a0) (D.fc 4620693217682128896)) (D.i2f (D.f2i .i64 (D.fmul (S25_0 D a0) (D.fc 4620693217682128896))))) (D.fsub (D.fmul (S25_0 D a0) (D.fc 4620693217682128896)) (D.i2f (D.f2i .i64 (D.fmul (S25_0 D a0) (D.fc 4620693217682128896))))))))) (D.fite (D.zeq (D.zrem .i64 (D.f2i .i64 (D.fmul (S25_0 D a0) (D.fc 4620693217682128896))) (D.zc 8)) (D.zc 4)) (D.fsub (D.fc 0) (D.fdiv (D.fsub (D.fmul (S25_0 D a0) (D.fc 4620693217682128896)) (D.i2f (D.f2i .i64 (D.fmul (S25_0 D a0) (D.fc 4620693217682128896))))) (S17_0 D (D.fadd (D.fc 4607182418800017408) (D.fmul (D.fsub (D.fmul (S25_0 D a0) (D.fc 4620693217682128896)) (D.i2f (D.f2i .i64 (D.fmul (S25_0 D a0) (D.fc 4620693217682128896))))) (D.fsub (D.fmul (S25_0 D a0) (D.fc 4620693217682128896)) (D.i2f (D.f2i .i64 (D.fmul (S25_0 D a0) (D.fc 4620693217682128896)))))))))) (D.fite (D.zeq (D.zrem .i64 (D.f2i .i64 (D.fmul (S25_0 D a0) (D.fc 4620693217682128896))) (D.zc 8)) (D.zc 5)) (D.fsub (D.fc 0) (D.fdiv (D.fc 4607182418800017408) (S17_0 D (D.fadd (D.fc 4607182418800017408) (D.fmul (D.fsub (D.fmul (S25_0 D a0) (D.fc 4620693217682128896)) (D.i2f (D.f2i .i64 (D.fmul (S25_0 D a0) (D.fc 4620693217682128896))))) (D.fsub (D.fmul (S25_0 D a0) (D.fc 4620693217682128896)) (D.i2f (D.f2i .i64 (D.fmul (S25_0 D a0) (D.fc 4620693217682128896)))))))))) (D.fite (D.zeq (D.zrem .i64 (D.f2i .i64 (D.fmul (S25_0 D a0) (D.fc 4620693217682128896))) (D.zc 8)) (D.zc 6)) (D.fsub (D.fc 0) (D.fdiv (D.fc 4607182418800017408) (S17_0 D (D.fadd (D.fc 4607182418800017408) (D.fmul (D.fsub (D.fmul (S25_0 D a0) (D.fc 4620693217682128896)) (D.i2f (D.f2i .i64 (D.fmul (S25_0 D a0) (D.fc 4620693217682128896))))) (D.fsub (D.fmul (S25_0 D a0) (D.fc 4620693217682128896)) (D.i2f (D.f2i .i64 (D.fmul (S25_0 D a0) (D.fc 4620693217682128896)))))))))) (D.fsub (D.fc 0) (D.fdiv (D.fsub (D.fmul (S25_0 D a0) (D.fc 4620693217682128896)) (D.i2f (D.f2i .i64 (D.fmul (S25_0 D a0) (D.fc 4620693217682128896))))) (S17_0 D (D.fadd (D.fc 4607182418800017408) (D.fmul (D.fsub (D.fmul (S25_0 D a0) (D.fc 4620693217682128896)) (D.i2f (D.f2i .i64 (D.fmul (S25_0 D a0) (D.fc 4620693217682128896))))) (D.fsub (D.fmul (S25_0 D a0) (D.fc 4620693217682128896)) (D.i2f (D.f2i .i64 (D.fmul (S25_0 D a0) (D.fc 4620693217682128896)))))))))))))))))
def S7_2 (D : Dom) (a0 : D.F) : D.F := (D.fmul (D.fadd (D.fc 4607182418800017408) (D.fmul (D.fsub (D.fmul (S25_0 D a0) (D.fc 4620693217682128896)) (D.i2f (D.f2i .i64 (D.fmul (S25_0 D a0) (D.fc 4620693217682128896))))) (D.fsub (D.fmul (S25_0 D a0) (D.fc 4620693217682128896)) (D.i2f (D.f2i .i64 (D.fmul (S25_0 D a0) (D.fc 4620693217682128896))))))) (D.fc 4593671619917905920))
def O7 (D : Dom) (a0 : D.F) : D.B := (D.band (D.f2iok .i64 (D.fmul (S25_0 D a0) (D.fc 4620693217682128896))) (D.band (D.bnot (D.zeq (D.zc 8) (D.zc 0))) (D.bite (D.zeq (D.zrem .i64 (D.f2i .i64 (D.fmul (S25_0 D a0) (D.fc 4620693217682128896))) (D.zc 8)) (D.zc 0)) (D.bc true) (D.bite (D.zeq (D.zrem .i64 (D.f2i .i64 (D.fmul (S25_0 D a0) (D.fc 4620693217682128896))) (D.zc 8)) (D.zc 1)) (D.bc true) (D.bite (D.zeq (D.zrem .i64 (D.f2i .i64 (D.fmul (S25_0 D a0) (D.fc 4620693217682128896))) (D.zc 8)) (D.zc 2)) (D.bc true) (D.bite (D.zeq (D.zrem .i64 (D.f2i .i64 (D.fmul (S25_0 D a0) (D.fc 4620693217682128896))) (D.zc 8)) (D.zc 3)) (D.bc true) (D.bite (D.zeq (D.zrem .i64 (D.f2i .i64 (D.fmul (S25_0 D a0) (D.fc 4620693217682128896))) (D.zc 8)) (D.zc 4)) (D.bc true) (D.bite (D.zeq (D.zrem .i64 (D.f2i .i64 (D.fmul (S25_0 D a0) (D.fc 4620693217682128896))) (D.zc 8)) (D.zc 5)) (D.bc true) (D.bite (D.zeq (D.zrem .i64 (D.f2i .i64 (D.fmul (S25_0 D a0) (D.fc 4620693217682128896))) (D.zc 8)) (D.zc 6)) (D.bc true) (D.zeq (D.zrem .i64 (D.f2i .i64 (D.fmul (S25_0 D a0) (D.fc 4620693217682128896))) (D.zc 8)) (D.zc 7)))))))))))
theorem ev7 (D : Dom) (a0 : D.F) : joinT (evFn Try.prog (tbl_17 D) 60 7 [.fl a0]) = .val (some (O7 D a0)) (.tup [.fl (S7_0 D a0), .fl (S7_1 D a0), .fl (S7_2 D a0)]) := by kernel_rfl
def sp7 : Ev.Spec := fun D l => argF l fun a0 r0 => arg0 r0 (.node (O7 D a0) (.ret (.tup [.fl (S7_0 D a0), .fl (S7_1 D a0), .fl (S7_2 D a0)])) (.fail "pre"))
theorem en7 : ∀ l r, (sp7 R l).run = some r → Entry Try.prog 7 l r := by
  intro l r h
  obtain ⟨x0, _, h, L0⟩ := argF_inv h
  obtain ⟨h, L1⟩ := arg0_inv h
  obtain ⟨hok, rfl⟩ := run_okay h
  exact (entry_of prg tok_17 (ev7 R x0) (fun o ho => (Option.some.inj ho) ▸ hok) rfl).le (L0 _ L1)
def tl_7 : List (Nat × Ev.Spec) := (7, sp7) :: tl_17
def tbl_7 (D : Dom) : Tbl D := tblOf tl_7 D
theorem tok_7 : TblOK Try.prog (tbl_7 R) := TblOK.cons tok_17 en7

-- penumbra/penumbraref06.Clean
def S18_0 (D : Dom) (a0 : D.F) : D.F := (D.fite (D.bite (D.bite (D.flt a0 (D.fc 0)) (D.bc true) (D.fge a0 (D.fc 4607182418800017408))) (D.bc true) (D.bnot (D.feq a0 a0))) (D.fc 0) a0)
theorem ev18 (D : Dom) (a0 : D.F) : joinT (evFn Try.prog (tbl_7 D) 60 18 [.fl a0]) = .val none (.fl (S18_0 D a0)) := by kernel_rfl
def sp18 : Ev.Spec := fun D l => argF l fun a0 r0 => arg0 r0 (.ret (.fl (S18_0 D a0)))
theorem en18 : ∀ l r, (sp18 R l).run = some r → Entry Try.prog 18 l r := by
  intro l r h
  obtain ⟨x0, _, h, L0⟩ := argF_inv h
  obtain ⟨h, L1⟩ := arg0_inv h
  cases h
  exact (entry_of prg tok_7 (ev18 R x0) (fun o ho => nomatch ho) rfl).le (L0 _ L1)
def tl_18 : List (Nat × Ev.Spec) := (18, sp18) :: tl_7
def tbl_18 (D : Dom) : Tbl D := tblOf tl_18 D
theorem tok_18 : TblOK Try.prog (tbl_18 R) := TblOK.cons tok_7 en18

-- penumbra/penumbraref09.Sector
def S8_0 (D : Dom) (a0 : D.F) : D.F := (D.fite (D.bite (D.zle (D.zc 2) (D.zite (D.fle (D.i2f (D.zc 1)) (D.fmul (D.fc 4620693217682128896) (S18_0 D a0))) (D.zite (D.fle (D.i2f (D.zc 2)) (D.fmul (D.fc 4620693217682128896) (S18_0 D a0))) (D.zite (D.fle (D.i2f (D.zc 3)) (D.fmul (D.fc 4620693217682128896) (S18_0 D a0))) (D.zite (D.fle (D.i2f (D.zc 4)) (D.fmul (D.fc 4620693217682128896) (S18_0 D a0))) (D.zite (D.fle (D.i2f (D.zc 5)) (D.fmul (D.fc 4620693217682128896) (S18_0 D a0))) (D.zite (D.fle (D.i2f (D.zc 6)) (D.fmul (D.fc 4620693217682128896) (S18_0 D a0))) (D.zite (D.fle (D.i2f (D.zc 7)) (D.fmul (D.fc 4620693217682128896) (S18_0 D a0))) (D.zc 7) (D.zc 6)) (D.zc 5)) (D.zc 4)) (D.zc 3)) (D.zc 2)) (D.zc 1)) (D.zc 0))) (D.zle (D.zite (D.fle (D.i2f (D.zc 1)) (D.fmul (D.fc 4620693217682128896) (S18_0 D a0))) (D.zite (D.fle (D.i2f (D.zc 2)) (D.fmul (D.fc 4620693217682128896) (S18_0 D a0))) (D.zite (D.fle (D.i2f (D.zc 3)) (D.fmul (D.fc 4620693217682128896) (S18_0 D a0))) (D.zite (D.fle (D.i2f (D.zc 4)) (D.fmul (D.fc 4620693217682128896) (S18_0 D a0))) (D.zite (D.fle (D.i2f (D.zc 5)) (D.fmul (D.fc 4620693217682128896) (S18_0 D a0))) (D.zite (D.fle (D.i2f (D.zc 6)) (D.fmul (D.fc 4620693217682128896) (S18_0 D a0))) (D.zite (D.fle (D.i2f (D.zc 7)) (D.fmul (D.fc 4620693217682128896) (S18_0 D a0))) (D.zc 7) (D.zc 6)) (D.zc 5)) (D.zc 4)) (D.zc 3)) (D.zc 2)) (D.zc 1)) (D.zc 0)) (D.zc 5)) (D.bc false)) (D.fsub (D.fc 0) (D.fite (D.bite (D.bite (D.bite (D.zeq (D.zite (D.fle (D.i2f (D.zc 1)) (D.fmul (D.fc 4620693217682128896) (S18_0 D a0))) (D.zite (D.fle (D.i2f (D.zc 2)) (D.fmul (D.fc 4620693217682128896) (S18_0 D a0))) (D.zite (D.fle (D.i2f (D.zc 3)) (D.fmul (D.fc 4620693217682128896) (S18_0 D a0))) (D.zite (D.fle (D.i2f (D.zc 4)) (D.fmul (D.fc 4620693217682128896) (S18_0 D a0))) (D.zite (D.fle (D.i2f (D.zc 5)) (D.fmul (D.fc 4620693217682128896) (S18_0 D a0))) (D.zite (D.fle (D.i2f (D.zc 6)) (D.fmul (D.fc 4620693217682128896) (S18_0 D a0))) (D.zite (D.fle (D.i2f (D.zc 7)) (D.fmul (D.fc 4620693217682128896) (S18_0 D a0))) (D.zc 7) (D.zc 6)) (D.zc 5)) (D.zc 4)) (D.zc 3)) (D.zc 2)) (D.zc 1)) (D.zc 0)) (D.zc 1)) (D.bc true) (D.zeq (D.zite (D.fle (D.i2f (D.zc 1)) (D.fmul (D.fc 4620693217682128896) (S18_0 D a0))) (D.zite (D.fle (D.i2f (D.zc 2)) (D.fmul (D.fc 4620693217682128896) (S18_0 D a0))) (D.zite (D.fle (D.i2f (D.zc 3)) (D.fmul (D.fc 4620693217682128896) (S18_0 D a0))) (D.zite (D.fle (D.i2f (D.zc 4)) (D.fmul (D.fc 4620693217682128896) (S18_0 D a0))) (D.zite (D.fle (D.i2f (D.zc 5)) (D.fmul (D.fc 4620693217682128896) (S18_0 D a0))) (D.zite (D.fle (D.i2f (D.zc 6)) (D.fmul (D.fc 4620693217682128896) (S18_0 D a0))) (D.zite (D.fle (D.i2f (D.zc 7)) (D.fmul (D.fc 4620693217682128896) (S18_0 D a0))) (D.zc 7) (D.zc 6)) (D.zc 5)) (D.zc 4)) (D.zc 3)) (D.zc 2)) (D.zc 1)) (D.zc 0)) (D.zc 2))) (D.bc true) (D.zeq (D.zite (D.fle (D.i2f (D.zc 1)) (D.fmul (D.fc 4620693217682128896) (S18_0 D a0))) (D.zite (D.fle (D.i2f (D.zc 2)) (D.fmul (D.fc 4620693217682128896) (S18_0 D a0))) (D.zite (D.fle (D.i2f (D.zc 3)) (D.fmul (D.fc 4620693217682128896) (S18_0 D a0))) (D.zite (D.fle (D.i2f (D.zc 4)) (D.fmul (D.fc 4620693217682128896) (S18_0 D a0))) (D.zite (D.fle (D.i2f (D.zc 5)) (D.fmul (D.fc 4620693217682128896) (S18_0 D a0))) (D.zite (D.fle (D.i2f (D.zc 6)) (D.fmul (D.fc 4620693217682128896) (S18_0 D a0))) (D.zite (D.fle (D.i2f (D.zc 7)) (D.fmul (D.fc 4620693217682128896) (S18_0 D a0))) (D.zc 7) (D.zc 6)) (D.zc 5)) (D.zc 4)) (D.zc 3)) (D.zc 2)) (D.zc 1)) (D.zc 0)) (D.zc 5))) (D.bc true) (D.zeq (D.zite (D.fle (D.i2f (D.zc 1)) (D.fmul (D.fc 4620693217682128896) (S18_0 D a0))) (D.zite (D.fle (D.i2f (D.zc 2)) (D.fmul (D.fc 4620693217682128896) (S18_0 D a0))) (D.zite (D.fle (D.i2f (D.zc 3)) (D.fmul (D.fc 4620693217682128896) (S18_0 D a0))) (D.zite (D.fle (D.i2f (D.zc 4)) (D.fmul (D.fc 4620693217682128896) (S18_0 D a0))) (D.zite (D.fle (D.i2f (D.zc 5)) (D.fmul (D.fc 4620693217682128896) (S18_0 D a0))) (D.zite (D.fle (D.i2f (D.zc 6)) (D.fmul (D.fc 4620693217682128896) (S18_0 D a0))) (D.zite (D.fle (D.i2f (D.zc 7)) (D.fmul (D.fc 4620693217682128896) (S18_0 D a0))) (D.zc 7) (D.zc 6)) (D.zc 5)) (D.zc 4)) (D.zc 3)) (D.zc 2)) (D.zc 1)) (D.zc 0)) (D.zc 6))) (D.fdiv (D.fsub (D.fmul (D.fc 4620693217682128896) (S18_0 D a0)) (D.i2f (D.zite (D.fle (D.i2f (D.zc 1)) (D.fmul (D.fc 4620693217682128896) (S18_0 D a0))) (D.zite (D.fle (D.i2f (D.zc 2)) (D.fmul (D.fc 4620693217682128896) (S18_0 D a0))) (D.zite (D.fle (D.i2f (D.zc 3)) (D.fmul (D.fc 4620693217682128896) (S18_0 D a0))) (D.zite (D.fle (D.i2f (D.zc 4)) (D.fmul (D.fc 4620693217682128896) (S18_0 D a0))) (D.zite (D.fle (D.i2f (D.zc 5)) (D.fmul (D.fc 4620693217682128896) (S18_0 D a0))) (D.zite (D.fle (D.i2f (D.zc 6)) (D.fmul (D.fc 4620693217682128896) (S18_0 D a0))) (D.zite (D.fle (D.i2f (D.zc 7)) (D.fmul (D.fc 4620693217682128896) (S18_0 D a0))) (D.zc 7) (D.zc 6)) (D.zc 5)) (D.zc 4)) (D.zc 3)) (D.zc 2)) (D.zc 1)) (D.zc 0)))) (S17_0 D (D.fadd (D.fc 4607182418800017408) (D.fmul (D.fsub (D.fmul (D.fc 4620693217682128896) (S18_0 D a0)) (D.i2f (D.zite (D.fle (D.i2f (D.zc 1)) (D.fmul (D.fc 4620693217682128896) (S18_0 D a0))) (D.zite (D.fle (D.i2f (D.zc 2)) (D.fmul (D.fc 4620693217682128896) (S18_0 D a0))) (D.zite (D.fle (D.i2f (D.zc 3)) (D.fmul (D.fc 4620693217682128896) (S18_0 D a0))) (D.zite (D.fle (D.i2f (D.zc 4)) (D.fmul (D.fc 4620693217682128896) (S18_0 D a0))) (D.zite (D.fle (D.i2f (D.zc 5)) (D.fmul (D.fc 4620693217682128896) (S18_0 D a0))) (D.zite (D.fle (D.i2f (D.zc 6)) (D.fmul (D.fc 4620693217682128896) (S18_0 D a0))) (D.zite (D.fle (D.i2f (D.zc 7)) (D.fmul (D.fc 4620693217682128896) (S18_0 D a0))) (D.zc 7) (D.zc 6)) (D.zc 5)) (D.zc 4)) (D.zc 3)) (D.zc 2)) (D.zc 1)) (D.zc 0)))) (D.fsub (D.fmul (D.fc 4620693217682128896) (S18_0 D a0)) (D.i2f (D.zite (D.fle (D.i2f (D.zc 1)) (D.fmul (D.fc 4620693217682128896) (S18_0 D a0))) (D.zite (D.fle (D.i2f (D.zc 2)) (D.fmul (D.fc 4620693217682128896) (S18_0 D a0))) (D.zite (D.fle (D.i2f (D.zc 3)) (D.fmul (D.fc 4620693217682128896) (S18_0 D a0))) (D.zite (D.fle (D.i2f (D.zc 4)) (D.fmul (D.fc 4620693217682128896) (S18_0 D a0))) (D.zite (D.fle (D.i2f (D.zc 5)) (D.fmul (D.fc 4620693217682128896) (S18_0 D a0))) (D.zite (D.fle (D.i2f (D.zc 6)) (D.fmul (D.fc 4620693217682128896) (S18_0 D a0))) (D.zite (D.fle (D.i2f (D.zc 7)) (D.fmul (D.fc 4620693217682128896) (S18_0 D a0))) (D.zc 7) (D.zc 6)) (D.zc 5)) (D.zc 4)) (D.zc 3)) (D.zc 2)) (D.zc 1)) (D.zc 0)))))))) (D.fdiv (D.fc 4607182418800017408) (S17_0 D (D.fadd (D.fc 4607182418800017408) (D.fmul (D.fsub (D.fmul (D.fc 4620693217682128896) (S18_0 D a0)) (D.i2f (D.zite (D.fle (D.i2f (D.zc 1)) (D.fmul (D.fc 4620693217682128896) (S18_0 D a0))) (D.zite (D.fle (D.i2f (D.zc 2)) (D.fmul (D.fc 4620693217682128896) (S18_0 D a0))) (D.zite (D.fle (D.i2f (D.zc 3)) (D.fmul (D.fc 4620693217682128896) (S18_0 D a0))) (D.zite (D.fle (D.i2f (D.zc 4)) (D.fmul (D.fc 4620693217682128896) (S18_0 D a0))) (D.zite (D.fle (D.i2f (D.zc 5)) (D.fmul (D.fc 4620693217682128896) (S18_0 D a0))) (D.zite (D.fle (D.i2f (D.zc 6)) (D.fmul (D.fc 4620693217682128896) (S18_0 D a0))) (D.zite (D.fle (D.i2f (D.zc 7)) (D.fmul (D.fc 4620693217682128896) (S18_0 D a0))) (D.zc 7) (D.zc 6)) (D.zc 5)) (D.zc 4)) (D.zc 3)) (D.zc 2)) (D.zc 1)) (D.zc 0)))) (D.fsub (D.fmul (D.fc 4620693217682128896) (S18_0 D a0)) (D.i2f (D.zite (D.fle (D.i2f (D.zc 1)) (D.fmul (D.fc 4620693217682128896) (S18_0 D a0))) (D.zite (D.fle (D.i2f (D.zc 2)) (D.fmul (D.fc 4620693217682128896) (S18_0 D a0))) (D.zite (D.fle (D.i2f (D.zc 3)) (D.fmul (D.fc 4620693217682128896) (S18_0 D a0))) (D.zite (D.fle (D.i2f (D.zc 4)) (D.fmul (D.fc 4620693217682128896) (S18_0 D a0))) (D.zite (D.fle (D.i2f (D.zc 5)) (D.fmul (D.fc 4620693217682128896) (S18_0 D a0))) (D.zite (D.fle (D.i2f (D.zc 6)) (D.fmul (D.fc 4620693217682128896) (S18_0 D a0))) (D.zite (D.fle (D.i2f (D.zc 7)) (D.fmul (D.fc 4620693217682128896) (S18_0 D a0))) (D.zc 7) (D.zc 6)) (D.zc 5)) (D.zc 4)) (D.zc 3)) (D.zc 2)) (D.zc 1)) (D.zc 0)))))))))) (D.fite (D.bite (D.bite (D.bite (D.zeq (D.zite (D.fle (D.i2f (D.zc 1)) (D.fmul (D.fc 4620693217682128896) (S18_0 D a0))) (D.zite (D.fle (D.i2f (D.zc 2)) (D.fmul (D.fc 4620693217682128896) (S18_0 D a0))) (D.zite (D.fle (D.i2f (D.zc 3)) (D.fmul (D.fc 4620693217682128896) (S18_0 D a0))) (D.zite (D.fle (D.i2f (D.zc 4)) (D.fmul (D.fc 4620693217682128896) (S18_0 D a0))) (D.zite (D.fle (D.i2f (D.zc 5)) (D.fmul (D.fc 4620693217682128896) (S18_0 D a0))) (D.zite (D.fle (D.i2f (D.zc 6)) (D.fmul (D.fc 4620693217682128896) (S18_0 D a0))) (D.zite (D.fle (D.i2f (D.zc 7)) (D.fmul (D.fc 4620693217682128896) (S18_0 D a0))) (D.zc 7) (D.zc 6)) (D.zc 5)) (D.zc 4)) (D.zc 3)) (D.zc 2)) (D.zc 1)) (D.zc 0)) (D.zc 1)) (D.bc true) (D.zeq (D.zite (D.fle (D.i2f (D.zc 1)) (D.fmul (D.fc 4620693217682128896) (S18_0 D a0))) (D.zite (D.fle (D.i2f (D.zc 2)) (D.fmul (D.fc 4620693217682128896) (S18_0 D a0))) (D.zite (D.fle (D.i2f (D.zc 3)) (D.fmul (D.fc 4620693217682128896) (S18_0 D a0))) (D.zite (D.fle (D.i2f (D.zc 4)) (D.fmul (D.fc 4620693217682128896) (S18_0 D a0))) (D.zite (D.fle (D.i2f (D.zc 5)) (D.fmul (D.fc 4620693217682128896) (S18_0 D a0))) (D.zite (D.fle (D.i2f (D.zc 6)) (D.fmul (D.fc 4620693217682128896) (S18_0 D a0))) (D.zite (D.fle (D.i2f (D.zc 7)) (D.fmul (D.fc 4620693217682128896) (S18_0 D a0))) (D.zc 7) (D.zc 6)) (D.zc 5)) (D.zc 4)) (D.zc 3)) (D.zc 2)) (D.zc 1)) (D.zc 0)) (D.zc 2))) (D.bc true) (D.zeq (D.zite (D.fle (D.i2f (D.zc 1)) (D.fmul (D.fc 4620693217682128896) (S18_0 D a0))) (D.zite (D.fle (D.i2f (D.zc 2)) (D.fmul (D.fc 4620693217682128896) (S18_0 D a0))) (D.zite (D.fle (D.i2f (D.zc 3)) (D.fmul (D.fc 4620693217682128896) (S18_0 D a0))) (D.zite (D.fle (D.i2f (D.zc 4)) (D.fmul (D.fc 4620693217682128896) (S18_0 D a0))) (D.zite (D.fle (D.i2f (D.zc 5)) (D.fmul (D.fc 4620693217682128896) (S18_0 D a0))) (D.zite (D.fle (D.i2f (D.zc 6)) (D.fmul (D.fc 4620693217682128896) (S18_0 D a0))) (D.zite (D.fle (D.i2f (D.zc 7)) (D.fmul (D.fc 4620693217682128896) (S18_0 D a0))) (D.zc 7) (D.zc 6)) (D.zc 5)) (D.zc 4)) (D.zc 3)) (D.zc 2)) (D.zc 1)) (D.zc 0)) (D.zc 5))) (D.bc true) (D.zeq (D.zite (D.fle (D.i2f (D.zc 1)) (D.fmul (D.fc 4620693217682128896) (S18_0 D a0))) (D.zite (D.fle (D.i2f (D.zc 2)) (D.fmul (D.fc 4620693217682128896) (S18_0 D a0))) (D.zite (D.fle (D.i2f (D.zc 3)) (D.fmul (D.fc 4620693217682128896) (S18_0 D a0))) (D.zite (D.fle (D.i2f (D.zc 4)) (D.fmul (D.fc 4620693217682128896) (S18_0 D a0))) (D.zite (D.fle (D.i2f (D.zc 5)) (D.fmul (D.fc 4620693217682128896) (S18_0 D a0))) (D.zite (D.fle (D.i2f (D.zc 6)) (D.fmul (D.fc 4620693217682128896) (S18_0 D a0))) (D.zite (D.fle (D.i2f (D.zc 7)) (D.fmul (D.fc 4620693217682128896) (S18_0 D a0))) (D.zc 7) (D.zc 6)) (D.zc 5)) (D.zc 4)) (D.zc 3)) (D.zc 2)) (D.zc 1)) (D.zc 0)) (D.zc 6))) (D.fdiv (D.fsub (D.fmul (D.fc 4620693217682128896) (S18_0 D a0)) (D.i2f (D.zite (D.fle (D.i2f (D.zc 1)) (D.fmul (D.fc 4620693217682128896) (S18_0 D a0))) (D.zite (D.fle (D.i2f (D.zc 2)) (D.fmul (D.fc 4620693217682128896) (S18_0 D a0))) (D.zite (D.fle (D.i2f (D.zc 3)) (D.fmul (D.fc 4620693217682128896) (S18_0 D a0))) (D.zite (D.fle (D.i2f (D.zc 4)) (D.fmul (D.fc 4620693217682128896) (S18_0 D a0))) (D.zite (D.fle (D.i2f (D.zc 5)) (D.fmul (D.fc 4620693217682128896) (S18_0 D a0))) (D.zite (D.fle (D.i2f (D.zc 6)) (D.fmul (D.fc 4620693217682128896) (S18_0 D a0))) (D.zite (D.fle (D.i2f (D.zc 7)) (D.fmul (D.fc 4620693217682128896) (S18_0 D a0))) (D.zc 7) (D.zc 6)) (D.zc 5)) (D.zc 4)) (D.zc 3)) (D.zc 2)) (D.zc 1)) (D.zc 0)))) (S17_0 D (D.fadd (D.fc 4607182418800017408) (D.fmul (D.fsub (D.fmul (D.fc 4620693217682128896) (S18_0 D a0)) (D.i2f (D.zite (D.fle (D.i2f (D.zc 1)) (D.fmul (D.fc 4620693217682128896) (S18_0 D a0))) (D.zite (D.fle (D.i2f (D.zc 2)) (D.fmul (D.fc 4620693217682128896) (S18_0 D a0))) (D.zite (D.fle (D.i2f (D.zc 3)) (D.fmul (D.fc 4620693217682128896) (S18_0 D a0))) (D.zite (D.fle (D.i2f (D.zc 4)) (D.fmul (D.fc 4620693217682128896) (S18_0 D a0))) (D.zite (D.fle (D.i2f (D.zc 5)) (D.fmul (D.fc 4620693217682128896) (S18_0 D a0))) (D.zite (D.fle (D.i2f (D.zc 6)) (D.fmul (D.fc 4620693217682128896) (S18_0 D a0))) (D.zite (D.fle (D.i2f (D.zc 7)) (D.fmul (D.fc 4620693217682128896) (S18_0 D a0))) (D.zc 7) (D.zc 6)) (D.zc 5)) (D.zc 4)) (D.zc 3)) (D.zc 2)) (D.zc 1)) (D.zc 0)))) (D.fsub (D.fmul (D.fc 4620693217682128896) (S18_0 D a0)) (D.i2f (D.zite (D.fle (D.i2f (D.zc 1)) (D.fmul (D.fc 4620693217682128896) (S18_0 D a0))) (D.zite (D.fle (D.i2f (D.zc 2)) (D.fmul (D.fc 4620693217682128896) (S18_0 D a0))) (D.zite (D.fle (D.i2f (D.zc 3)) (D.fmul (D.fc 4620693217682128896) (S18_0 D a0))) (D.zite (D.fle (D.i2f (D.zc 4)) (D.fmul (D.fc 4620693217682128896) (S18_0 D a0))) (D.zite (D.fle (D.i2f (D.zc 5)) (D.fmul (D.fc 4620693217682128896) (S18_0 D a0))) (D.zite (D.fle (D.i2f (D.zc 6)) (D.fmul (D.fc 4620693217682128896) (S18_0 D a0))) (D.zite (D.fle (D.i2f (D.zc 7)) (D.fmul (D.fc 4620693217682128896) (S18_0 D a0))) (D.zc 7) (D.zc 6)) (D.zc 5)) (D.zc 4)) (D.zc 3)) (D.zc 2)) (D.zc 1)) (D.zc 0)))))))) (D.fdiv (D.fc 4607182418800017408) (S17_0 D (D.fadd (D.fc 4607182418800017408) (D.fmul (D.fsub (D.fmul (D.fc 4620693217682128896) (S18_0 D a0)) (D.i2f (D.zite (D.fle (D.i2f (D.zc 1)) (D.fmul (D.fc 4620693217682128896) (S18_0 D a0))) (D.zite (D.fle (D.i2f (D.zc 2)) (D.fmul (D.fc 4620693217682128896) (S18_0 D a0))) (D.zite (D.fle (D.i2f (D.zc 3)) (D.fmul (D.fc 4620693217682128896) (S18_0 D a0))) (D.zite (D.fle (D.i2f (D.zc 4)) (D.fmul (D.fc 4620693217682128896) (S18_0 D a0))) (D.zite (D.fle (D.i2f (D.zc 5)) (D.fmul (D.fc 4620693217682128896) (S18_0 D a0))) (D.zite (D.fle (D.i2f (D.zc 6)) (D.fmul (D.fc 4620693217682128896) (S18_0 D a0))) (D.zite (D.fle (D.i2f (D.zc 7)) (D.fmul (D.fc 4620693217682128896) (S18_0 D a0))) (D.zc 7) (D.zc 6)) (D.zc 5)) (D.zc 4)) (D.zc 3)) (D.zc 2)) (D.zc 1)) (D.zc 0)))) (D.fsub (D.fmul (D.fc 4620693217682128896) (S18_0 D a0)) (D.i2f (D.zite (D.fle (D.i2f (D.zc 1)) (D.fmul (D.fc 4620693217682128896) (S18_0 D a0))) (D.zite (D.fle (D.i2f (D.zc 2)) (D.fmul (D.fc 4620693217682128896) (S18_0 D a0))) (D.zite (D.fle (D.i2f (D.zc 3)) (D.fmul (D.fc 4620693217682128896) (S18_0 D a0))) (D.zite (D.fle (D.i2f (D.zc 4)) (D.fmul (D.fc 4620693217682128896) (S18_0 D a0))) (D.zite (D.fle (D.i2f (D.zc 5)) (D.fmul (D.fc 4620693217682128896) (S18_0 D a0))) (D.zite (D.fle (D.i2f (D.zc 6)) (D.fmul (D.fc 4620693217682128896) (S18_0 D a0))) (D.zite (D.fle (D.i2f (D.zc 7)) (D.fmul (D.fc 4620693217682128896) (S18_0 D a0))) (D.zc 7) (D.zc 6)) (D.zc 5)) (D.zc 4)) (D.zc 3)) (D.zc 2)) (D.zc 1)) (D.zc 0))))))))))
def S8_1 (D : Dom) (a0 : D.F) : D.F := (D.fite (D.zle (D.zc 4) (D.zite (D.fle (D.i2f (D.zc 1)) (D.fmul (D.fc 4620693217682128896) (S18_0 D a0))) (D.zite (D.fle (D.i2f (D.zc 2)) (D.fmul (D.fc 4620693217682128896) (S18_0 D a0))) (D.zite (D.fle (D.i2f (D.zc 3)) (D.fmul (D.fc 4620693217682128896) (S18_0 D a0))) (D.zite (D.fle (D.i2f (D.zc 4)) (D.fmul (D.fc 4620693217682128896) (S18_0 D a0))) (D.zite (D.fle (D.i2f (D.zc 5)) (D.fmul (D.fc 4620693217682128896) (S18_0 D a0))) (D.zite (D.fle (D.i2f (D.zc 6)) (D.fmul (D.fc 4620693217682128896) (S18_0 D a0))) (D.zite (D.fle (D.i2f (D.zc 7)) (D.fmul (D.fc 4620693217682128896) (S18_0 D a0))) (D.zc 7) (D.zc 6)) (D.zc 5)) (D.zc 4)) (D.zc 3)) (D.zc 2)) (D.zc 1)) (D.zc 0))) (D.fsub (D.fc 0) (D.fite (D.bite (D.bite (D.bite (D.zeq (D.zite (D.fle (D.i2f (D.zc 1)) (D.fmul (D.fc 4620693217682128896) (S18_0 D a0))) (D.zite (D.fle (D.i2f (D.zc 2)) (D.fmul (D.fc 4620693217682128896) (S18_0 D a0))) (D.zite (D.fle (D.i2f (D.zc 3)) (D.fmul (D.fc 4620693217682128896) (S18_0 D a0))) (D.zite (D.fle (D.i2f (D.zc 4)) (D.fmul (D.fc 4620693217682128896) (S18_0 D a0))) (D.zite (D.fle (D.i2f (D.zc 5)) (D.fmul (D.fc 4620693217682128896) (S18_0 D a0))) (D.zite (D.fle (D.i2f (D.zc 6)) (D.fmul (D.fc 4620693217682128896) (S18_0 D a0))) (D.zite (D.fle (D.i2f (D.zc 7)) (D.fmul (D.fc 4620693217682128896) (S18_0 D a0))) (D.zc 7) (D.zc 6)) (D.zc 5)) (D.zc 4)) (D.zc 3)) (D.zc 2)) (D.zc 1)) (D.zc 0)) (D.zc 1)) (D.bc true) (D.zeq (D.zite (D.fle (D.i2f (D.zc 1)) (D.fmul (D.fc 4620693217682128896) (S18_0 D a0))) (D.zite (D.fle (D.i2f (D.zc 2)) (D.fmul (D.fc 4620693217682128896) (S18_0 D a0))) (D.zite (D.fle (D.i2f (D.zc 3)) (D.fmul (D.fc 4620693217682128896) (S18_0 D a0))) (D.zite (D.fle (D.i2f (D.zc 4)) (D.fmul (D.fc 4620693217682128896) (S18_0 D a0))) (D.zite (D.fle (D.i2f (D.zc 5)) (D.fmul (D.fc 4620693217682128896) (S18_0 D a0))) (D.zite (D.fle (D.i2f (D.zc 6)) (D.fmul (D.fc 4620693217682128896) (S18_0 D a0))) (D.zite (D.fle (D.i2f (D.zc 7)) (D.fmul (D.fc 4620693217682128896) (S18_0 D a0))) (D.zc 7) (D.zc 6)) (D.zc 5)) (D.zc 4)) (D.zc 3)) (D.zc 2)) (D.zc 1)) (D.zc 0)) (D.zc 2))) (D.bc true) (D.zeq (D.zite (D.fle (D.i2f (D.zc 1)) (D.fmul (D.fc 4620693217682128896) (S18_0 D a0))) (D.zite (D.fle (D.i2f (D.zc 2)) (D.fmul (D.fc 4620693217682128896) (S18_0 D a0))) (D.zite (D.fle (D.i2f (D.zc 3)) (D.fmul (D.fc 4620693217682128896) (S18_0 D a0))) (D.zite (D.fle (D.i2f (D.zc 4)) (D.fmul (D.fc 4620693217682128896) (S18_0 D a0))) (D.zite (D.fle (D.i2f (D.zc 5)) (D.fmul (D.fc 4620693217682128896) (S18_0 D a0))) (D.zite (D.fle (D.i2f (D.zc 6)) (D.fmul (D.fc 4620693217682128896) (S18_0 D a0))) (D.zite (D.fle (D.i2f (D.zc 7)) (D.fmul (D.fc 4620693217682128896) (S18_0 D a0))) (D.zc 7) (D.zc 6)) (D.zc 5)) (D.zc 4)) (D.zc 3)) (D.zc 2)) (D.zc 1)) (D.zc 0)) (D.zc 5))) (D.bc true) (D.zeq (D.zite (D.fle (D.i2f (D.zc 1)) (D.fmul (D.fc 4620693217682128896) (S18_0 D a0))) (D.zite (D.fle (D.i2f (D.zc 2)) (D.fmul (D.fc 4620693217682128896) (S18_0 D a0))) (D.zite (D.fle (D.i2f (D.zc 3)) (D.fmul (D.fc 4620693217682128896) (S18_0 D a0))) (D.zite (D.fle (D.i2f (D.zc 4)) (D.fmul (D.fc 4620693217682128896) (S18_0 D a0))) (D.zite (D.fle (D.i2f (D.zc 5)) (D.fmul (D.fc 4620693217682128896) (S18_0 D a0))) (D.zite (D.fle (D.i2f (D.zc 6)) (D.fmul (D.fc 4620693217682128896) (S18_0 D a0))) (D.zite (D.fle (D.i2f (D.zc 7)) (D.fmul (D.fc 4620693217682128896) (S18_0 D a0))) (D.zc 7) (D.zc 6)) (D.zc 5)) (D.zc 4)) (D.zc 3)) (D.zc 2)) (D.zc 1)) (D.zc 0)) (D.zc 6))) (D.fdiv (D.fc 4607182418800017408) (S17_0 D (D.fadd (D.fc 4607182418800017408) (D.fmul (D.fsub (D.fmul (D.fc 4620693217682128896) (S18_0 D a0)) (D.i2f (D.zite (D.fle (D.i2f (D.zc 1)) (D.fmul (D.fc 4620693217682128896) (S18_0 D a0))) (D.zite (D.fle (D.i2f (D.zc 2)) (D.fmul (D.fc 4620693217682128896) (S18_0 D a0))) (D.zite (D.fle (D.i2f (D.zc 3)) (D.fmul (D.fc 4620693217682128896) (S18_0 D a0))) (D.zite (D.fle (D.i2f (D.zc 4)) (D.fmul (D.fc 4620693217682128896) (S18_0 D a0))) (D.zite (D.fle (D.i2f (D.zc 5)) (D.fmul (D.fc 4620693217682128896) (S18_0 D a0))) (D.zite (D.fle (D.i2f (D.zc 6)) (D.fmul (D.fc 4620693217682128896) (S18_0 D a0))) (D.zite (D.fle (D.i2f (D.zc 7)) (D.fmul (D.fc 4620693217682128896) (S18_0 D a0))) (D.zc 7) (D.zc 6)) (D.zc 5)) (D.zc 4)) (D.zc 3)) (D.zc 2)) (D.zc 1)) (D.zc 0)))) (D.fsub (D.fmul (D.fc 4620693217682128896) (S18_0 D a0)) (D.i2f (D.zite (D.fle (D.i2f (D.zc 1)) (D.fmul (D.fc 4620693217682128896) (S18_0 D a0))) (D.zite (D.fle (D.i2f (D.zc 2)) (D.fmul (D.fc 4620693217682128896) (S18_0 D a0))) (D.zite (D.fle (D.i2f (D.zc 3)) (D.fmul (D.fc 4620693217682128896) (S18_0 D a0))) (D.zite (D.fle (D.i2f (D.zc 4)) (D.fmul (D.fc 4620693217682128896) (S18_0 D a0))) (D.zite (D.fle (D.i2f (D.zc 5)) (D.fmul (D.fc 4620693217682128896) (S18_0 D a0))) (D.zite (D.fle (D.i2f (D.zc 6)) (D.fmul (D.fc 4620693217682128896) (S18_0 D a0))) (D.zite (D.fle (D.i2f (D.zc 7)) (D.fmul (D.fc 4620693217682128896) (S18_0 D a0))) (D.zc 7) (D.zc 6)) (D.zc 5)) (D.zc 4)) (D.zc 3)) (D.zc 2)) (D.zc 1)) (D.zc 0)))))))) (D.fdiv (D.fsub (D.fmul (D.fc 4620693217682128896) (S18_0 D a0)) (D.i2f (D.zite (D.fle (D.i2f (D.zc 1)) (D.fmul (D.fc 4620693217682128896) (S18_0 D a0))) (D.zite (D.fle (D.i2f (D.zc 2)) (D.fmul (D.fc 4620693217682128896) (S18_0 D a0))) (D.zite (D.fle (D.i2f (D.zc 3)) (D.fmul (D.fc 4620693217682128896) (S18_0 D a0))) (D.zite (D.fle (D.i2f (D.zc 4)) (D.fmul (D.fc 4620693217682128896) (S18_0 D a0))) (D.zite (D.fle (D.i2f (D.zc 5)) (D.fmul (D.fc 4620693217682128896) (S18_0 D a0))) (D.zite (D.fle (D.i2f (D.zc 6)) (D.fmul (D.fc 4620693217682128896) (S18_0 D a0))) (D.zite (D.fle (D.i2f (D.zc 7)) (D.fmul (D.fc 4620693217682128896) (S18_0 D a0))) (D.zc 7) (D.zc 6)) (D.zc 5)) (D.zc 4)) (D.zc 3)) (D.zc 2)) (D.zc 1)) (D.zc 0)))) (S17_0 D (D.fadd (D.fc 4607182418800017408) (D.fmul (D.fsub (D.fmul (D.fc 4620693217682128896) (S18_0 D a0)) (D.i2f (D.zite (D.fle (D.i2f (D.zc 1)) (D.fmul (D.fc 4620693217682128896) (S18_0 D a0))) (D.zite (D.fle (D.i2f (D.zc 2)) (D.fmul (D.fc 4620693217682128896) (S18_0 D a0))) (D.zite (D.fle (D.i2f (D.zc 3)) (D.fmul (D.fc 4620693217682128896) (S18_0 D a0))) (D.zite (D.fle (D.i2f (D.zc 4)) (D.fmul (D.fc 4620693217682128896) (S18_0 D a0))) (D.zite (D.fle (D.i2f (D.zc 5)) (D.fmul (D.fc 4620693217682128896) (S18_0 D a0))) (D.zite (D.fle (D.i2f (D.zc 6)) (D.fmul (D.fc 4620693217682128896) (S18_0 D a0))) (D.zite (D.fle (D.i2f (D.zc 7)) (D.fmul (D.fc 4620693217682128896) (S18_0 D a0))) (D.zc 7) (D.zc 6)) (D.zc 5)) (D.zc 4)) (D.zc 3)) (D.zc 2)) (D.zc 1)) (D.zc 0)))) (D.fsub (D.fmul (D.fc 4620693217682128896) (S18_0 D a0)) (D.i2f (D.zite (D.fle (D.i2f (D.zc 1)) (D.fmul (D.fc 4620693217682128896) (S18_0 D a0))) (D.zite (D.fle (D.i2f (D.zc 2)) (D.fmul (D.fc 4620693217682128896) (S18_0 D a0))) (D.zite (D.fle (D.i2f (D.zc 3)) (D.fmul (D.fc 4620693217682128896) (S18_0 D a0))) (D.zite (D.fle (D.i2f (D.zc 4)) (D.fmul (D.fc 4620693217682128896) (S18_0 D a0))) (D.zite (D.fle (D.i2f (D.zc 5)) (D.fmul (D.fc 4620693217682128896) (S18_0 D a0))) (D.zite (D.fle (D.i2f (D.zc 6)) (D.fmul (D.fc 4620693217682128896) (S18_0 D a0))) (D.zite (D.fle (D.i2f (D.zc 7)) (D.fmul (D.fc 4620693217682128896) (S18_0 D a0))) (D.zc 7) (D.zc 6)) (D.zc 5)) (D.zc 4)) (D.zc 3)) (D.zc 2)) (D.zc 1)) (D.zc 0)))))))))) (D.fite (D.bite (D.bite (D.bite (D.zeq (D.zite (D.fle (D.i2f (D.zc 1)) (D.fmul (D.fc 4620693217682128896) (S18_0 D a0))) (D.zite (D.fle (D.i2f (D.zc 2)) (D.fmul (D.fc 4620693217682128896) (S18_0 D a0))) (D.zite (D.fle (D.i2f (D.zc 3)) (D.fmul (D.fc 4620693217682128896) (S18_0 D a0))) (D.zite (D.fle (D.i2f (D.zc 4)) (D.fmul (D.fc 4620693217682128896) (S18_0 D a0))) (D.zite (D.fle (D.i2f (D.zc 5)) (D.fmul (D.fc 4620693217682128896) (S18_0 D a0))) (D.zite (D.fle (D.i2f (D.zc 6)) (D.fmul (D.fc 4620693217682128896) (S18_0 D a0))) (D.zite (D.fle (D.i2f (D.zc 7)) (D.fmul (D.fc 4620693217682128896) (S18_0 D a0))) (D.zc 7) (D.zc 6)) (D.zc 5)) (D.zc 4)) (D.zc 3)) (D.zc 2)) (D.zc 1)) (D.zc 0)) (D.zc 1)) (D.bc true) (D.zeq (D.zite (D.fle (D.i2f (D.zc 1)) (D.fmul (D.fc 4620693217682128896) (S18_0 D a0))) (D.zite (D.fle (D.i2f (D.zc 2)) (D.fmul (D.fc 4620693217682128896) (S18_0 D a0))) (D.zite (D.fle (D.i2f (D.zc 3)) (D.fmul (D.fc 4620693217682128896) (S18_0 D a0))) (D.zite (D.fle (D.i2f (D.zc 4)) (D.fmul (D.fc 4620693217682128896) (S18_0 D a0))) (D.zite (D.fle (D.i2f (D.zc 5)) (D.fmul (D.fc 4620693217682128896) (S18_0 D a0))) (D.zite (D.fle (D.i2f (D.zc 6)) (D.fmul (D.fc 4620693217682128896) (S18_0 D a0))) (D.zite (D.fle (D.i2f (D.zc 7)) (D.fmul (D.fc 4620693217682128896) (S18_0 D a0))) (D.zc 7) (D.zc 6)) (D.zc 5)) (D.zc 4)) (D.zc 3)) (D.zc 2)) (D.zc 1)) (D.zc 0)) (D.zc 2))) (D.bc true) (D.zeq (D.zite (D.fle (D.i2f (D.zc 1)) (D.fmul (D.fc 4620693217682128896) (S18_0 D a0))) (D.zite (D.fle (D.i2f (D.zc 2)) (D.fmul (D.fc 4620693217682128896) (S18_0 D a0))) (D.zite (D.fle (D.i2f (D.zc 3)) (D.fmul (D.fc 4620693217682128896) (S18_0 D a0))) (D.zite (D.fle (D.i2f (D.zc 4)) (D.fmul (D.fc 4620693217682128896) (S18_0 D a0))) (D.zite (D.fle (D.i2f (D.zc 5)) (D.fmul (D.fc 4620693217682128896) (S18_0 D a0))) (D.zite (D.fle (D.i2f (D.zc 6)) (D.fmul (D.fc 4620693217682128896) (S18_0 D a0))) (D.zite (D.fle (D.i2f (D.zc 7)) (D.fmul (D.fc 4620693217682128896) (S18_0 D a0))) (D.zc 7) (D.zc 6)) (D.zc 5)) (D.zc 4)) (D.zc 3)) (D.zc 2)) (D.zc 1)) (D.zc 0)) (D.zc 5))) (D.bc true) (D.zeq (D.zite (D.fle (D.i2f (D.zc 1)) (D.fmul (D.fc 4620693217682128896) (S18_0 D a0))) (D.zite (D.fle (D.i2f (D.zc 2)) (D.fmul (D.fc 4620693217682128896) (S18_0 D a0))) (D.zite (D.fle (D.i2f (D.zc 3)) (D.fmul (D.fc 4620693217682128896) (S18_0 D a0))) (D.zite (D.fle (D.i2f (D.zc 4)) (D.fmul (D.fc 4620693217682128896) (S18_0 D a0))) (D.zite (D.fle (D.i2f (D.zc 5)) (D.fmul (D.fc 4620693217682128896) (S18_0 D a0))) (D.zite (D.fle (D.i2f (D.zc 6)) (D.fmul (D.fc 4620693217682128896) (S18_0 D a0))) (D.zite (D.fle (D.i2f (D.zc 7)) (D.fmul (D.fc 4620693217682128896) (S18_0 D a0))) (D.zc 7) (D.zc 6)) (D.zc 5)) (D.zc 4)) (D.zc 3)) (D.zc 2)) (D.zc 1)) (D.zc 0)) (D.zc 6))) (D.fdiv (D.fc 4607182418800017408) (S17_0 D (D.fadd (D.fc 4607182418800017408) (D.fmul (D.fsub (D.fmul (D.fc 4620693217682128896) (S18_0 D a0)) (D.i2f (D.zite (D.fle (D.i2f (D.zc 1)) (D.fmul (D.fc 4620693217682128896) (S18_0 D a0))) (D.zite (D.fle (D.i2f (D.zc 2)) (D.fmul (D.fc 4620693217682128896) (S18_0 D a0))) (D.zite (D.fle (D.i2f (D.zc 3)) (D.fmul (D.fc 4620693217682128896) (S18_0 D a0))) (D.zite (D.fle (D.i2f (D.zc 4)) (D.fmul (D.fc 4620693217682128896) (S18_0 D a0))) (D.zite (D.fle (D.i2f (D.zc 5)) (D.fmul (D.fc 4620693217682128896) (S18_0 D a0))) (D.zite (D.fle (D.i2f (D.zc 6)) (D.fmul (D.fc 4620693217682128896) (S18_0 D a0))) (D.zite (D.fle (D.i2f (D.zc 7)) (D.fmul (D.fc 4620693217682128896) (S18_0 D a0))) (D.zc 7) (D.zc 6)) (D.zc 5)) (D.zc 4)) (D.zc 3)) (D.zc 2)) (D.zc 1)) (D.zc 0)))) (D.fsub (D.fmul (D.fc 4620693217682128896) (S18_0 D a0)) (D.i2f (D.zite (D.fle (D.i2f (D.zc 1)) (D.fmul (D.fc 4620693217682128896) (S18_0 D a0))) (D.zite (D.fle (D.i2f (D.zc 2)) (D.fmul (D.fc 4620693217682128896) (S18_0 D a0))) (D.zite (D.fle (D.i2f (D.zc 3)) (D.fmul (D.fc 4620693217682128896) (S18_0 D a0))) (D.zite (D.fle (D.i2f (D.zc 4)) (D.fmul (D.fc 4620693217682128896) (S18_0 D a0))) (D.zite (D.fle (D.i2f (D.zc 5)) (D.fmul (D.fc 4620693217682128896) (S18_0 D a0))) (D.zite (D.fle (D.i2f (D.zc 6)) (D.fmul (D.fc 4620693217682128896) (S18_0 D a0))) (D.zite (D.fle (D.i2f (D.zc 7)) (D.fmul (D.fc 4620693217682128896) (S18_0 D a0))) (D.zc 7) (D.zc 6)) (D.zc 5)) (D.zc 4)) (D.zc 3)) (D.zc 2)) (D.zc 1)) (D.zc 0)))))))) (D.fdiv (D.fsub (D.fmul (D.fc 4620693217682128896) (S18_0 D a0)) (D.i2f (D.zite (D.fle (D.i2f (D.zc 1)) (D.fmul (D.fc 4620693217682128896) (S18_0 D a0))) (D.zite (D.fle (D.i2f (D.zc 2)) (D.fmul (D.fc 4620693217682128896) (S18_0 D a0))) (D.zite (D.fle (D.i2f (D.zc 3)) (D.fmul (D.fc 4620693217682128896) (S18_0 D a0))) (D.zite (D.fle (D.i2f (D.zc 4)) (D.fmul (D.fc 4620693217682128896) (S18_0 D a0))) (D.zite (D.fle (D.i2f (D.zc 5)) (D.fmul (D.fc 4620693217682128896) (S18_0 D a0))) (D.zite (D.fle (D.i2f (D.zc 6)) (D.fmul (D.fc 4620693217682128896) (S18_0 D a0))) (D.zite (D.fle (D.i2f (D.zc 7)) (D.fmul (D.fc 4620693217682128896) (S18_0 D a0))) (D.zc 7) (D.zc 6)) (D.zc 5)) (D.zc 4)) (D.zc 3)) (D.zc 2)) (D.zc 1)) (D.zc 0)))) (S17_0 D (D.fadd (D.fc 4607182418800017408) (D.fmul (D.fsub (D.fmul (D.fc 4620693217682128896) (S18_0 D a0)) (D.i2f (D.zite (D.fle (D.i2f (D.zc 1)) (D.fmul (D.fc 4620693217682128896) (S18_0 D a0))) (D.zite (D.fle (D.i2f (D.zc 2)) (D.fmul (D.fc 4620693217682128896) (S18_0 D a0))) (D.zite (D.fle (D.i2f (D.zc 3)) (D.fmul (D.fc 4620693217682128896) (S18_0 D a0))) (D.zite (D.fle (D.i2f (D.zc 4)) (D.fmul (D.fc 4620693217682128896) (S18_0 D a0))) (D.zite (D.fle (D.i2f (D.zc 5)) (D.fmul (D.fc 4620693217682128896) (S18_0 D a0))) (D.zite (D.fle (D.i2f (D.zc 6)) (D.fmul (D.fc 4620693217682128896) (S18_0 D a0))) (D.zite (D.fle (D.i2f (D.zc 7)) (D.fmul (D.fc 4620693217682128896) (S18_0 D a0))) (D.zc 7) (D.zc 6)) (D.zc 5)) (D.zc 4)) (D.zc 3)) (D.zc 2)) (D.zc 1)) (D.zc 0)))) (D.fsub (D.fmul (D.fc 4620693217682128896) (S18_0 D a0)) (D.i2f (D.zite (D.fle (D.i2f (D.zc 1)) (D.fmul (D.fc 4620693217682128896) (S18_0 D a0))) (D.zite (D.fle (D.i2f (D.zc 2)) (D.fmul (D.fc 4620693217682128896) (S18_0 D a0))) (D.zite (D.fle (D.i2f (D.zc 3)) (D.fmul (D.fc 4620693217682128896) (S18_0 D a0))) (D.zite (D.fle (D.i2f (D.zc 4)) (D.fmul (D.fc 4620693217682128896) (S18_0 D a0))) (D.zite (D.fle (D.i2f (D.zc 5)) (D.fmul (D.fc 4620693217682128896) (S18_0 D a0))) (D.zite (D.fle (D.i2f (D.zc 6)) (D.fmul (D.fc 4620693217682128896) (S18_0 D a0))) (D.zite (D.fle (D.i2f (D.zc 7)) (D.fmul (D.fc 4620693217682128896) (S18_0 D a0))) (D.zc 7) (D.zc 6)) (D.zc 5)) (D.zc 4)) (D.zc 3)) (D.zc 2)) (D.zc 1)) (D.zc 0))))))))))
def S8_2 (D : Dom) (a0 : D.F) : D.F := (D.fmul (D.fadd (D.fc 4607182418800017408) (D.fmul (D.fsub (D.fmul (D.fc 4620693217682128896) (S18_0 D a0)) (D.i2f (D.zite (D.fle (D.i2f (D.zc 1)) (D.fmul (D.fc 4620693217682128896) (S18_0 D a0))) (D.zite (D.fle (D.i2f (D.zc 2)) (D.fmul (D.fc 4620693217682128896) (S18_0 D a0))) (D.zite (D.fle (D.i2f (D.zc 3)) (D.fmul (D.fc 4620693217682128896) (S18_0 D a0))) (D.zite (D.fle (D.i2f (D.zc 4)) (D.fmul (D.fc 4620693217682128896) (S18_0 D a0))) (D.zite (D.fle (D.i2f (D.zc 5)) (D.fmul (D.fc 4620693217682128896) (S18_0 D a0))) (D.zite (D.fle (D.i2f (D.zc 6)) (D.fmul (D.fc 4620693217682128896) (S18_0 D a0))) (D.zite (D.fle (D.i2f (D.zc 7)) (D.fmul (D.fc 4620693217682128896) (S18_0 D a0))) (D.zc 7) (D.zc 6)) (D.zc 5)) (D.zc 4)) (D.zc 3)) (D.zc 2)) (D.zc 1)) (D.zc 0)))) (D.fsub (D.fmul (D.fc 4620693217682128896) (S18_0 D a0)) (D.i2f (D.zite (D.fle (D.i2f (D.zc 1)) (D.fmul (D.fc 4620693217682128896) (S18_0 D a0))) (D.zite (D.fle (D.i2f (D.zc 2)) (D.fmul (D.fc 4620693217682128896) (S18_0 D a0))) (D.zite (D.fle (D.i2f (D.zc 3)) (D.fmul (D.fc 4620693217682128896) (S18_0 D a0))) (D.zite (D.fle (D.i2f (D.zc 4)) (D.fmul (D.fc 4620693217682128896) (S18_0 D a0))) (D.zite (D.fle (D.i2f (D.zc 5)) (D.fmul (D.fc 4620693217682128896) (S18_0 D a0))) (D.zite (D.fle (D.i2f (D.zc 6)) (D.fmul (D.fc 4620693217682128896) (S18_0 D a0))) (D.zite (D.fle (D.i2f (D.zc 7)) (D.fmul (D.fc 4620693217682128896) (S18_0 D a0))) (D.zc 7) (D.zc 6)) (D.zc 5)) (D.zc 4)) (D.zc 3)) (D.zc 2)) (D.zc 1)) (D.zc 0)))))) (D.fc 4593671619917905920))
theorem ev8 (D : Dom) (a0 : D.F) : joinT (evFn Try.prog (tbl_18 D) 60 8 [.fl a0]) = .val none (.tup [.fl (S8_0 D a0), .fl (S8_1 D a0), .fl (S8_2 D a0)]) := by kernel_rfl
def sp8 : Ev.Spec := fun D l => argF l fun a0 r0 => arg0 r0 (.ret (.tup [.fl (S8_0 D a0), .fl (S8_1 D a0), .fl (S8_2 D a0)]))
theorem en8 : ∀ l r, (sp8 R l).run = some r → Entry Try.prog 8 l r := by
  intro l r h
  obtain ⟨x0, _, h, L0⟩ := argF_inv h
  obtain ⟨h, L1⟩ := arg0_inv h
  cases h
  exact (entry_of prg tok_18 (ev8 R x0) (fun o ho => nomatch ho) rfl).le (L0 _ L1)
def tl_8 : List (Nat × Ev.Spec) := (8, sp8) :: tl_18
def tbl_8 (D : Dom) : Tbl D := tblOf tl_8 D
theorem tok_8 : TblOK Try.prog (tbl_8 R) := TblOK.cons tok_18 en8

-- penumbra/warp.scaled
def S26_0 (D : Dom) (a0 : D.F) (a1 : D.F) : D.F := (D.fmul (S7_0 D a0) a1)
def S26_1 (D : Dom) (a0 : D.F) (a1 : D.F) : D.F := (D.fmul (S7_1 D a0) a1)
def S26_2 (D : Dom) (a0 : D.F) : D.F := (S7_2 D a0)
def O26 (D : Dom) (a0 : D.F) : D.B := (O7 D a0)
theorem ev26 (D : Dom) (a0 : D.F) (a1 : D.F) : joinT (evFn Try.prog (tbl_8 D) 60 26 [.fl a0, .fl a1]) = .val (some (O26 D a0)) (.tup [.fl (S26_0 D a0 a1), .fl (S26_1 D a0 a1), .fl (S26_2 D a0)]) := by kernel_rfl
def sp26 : Ev.Spec := fun D l => argF l fun a0 r0 => argF r0 fun a1 r1 => arg0 r1 (.node (O26 D a0) (.ret (.tup [.fl (S26_0 D a0 a1), .fl (S26_1 D a0 a1), .fl (S26_2 D a0)])) (.fail "pre"))
theorem en26 : ∀ l r, (sp26 R l).run = some r → Entry Try.prog 26 l r := by
  intro l r h
  obtain ⟨x0, _, h, L0⟩ := argF_inv h
  obtain ⟨x1, _, h, L1⟩ := argF_inv h
  obtain ⟨h, L2⟩ := arg0_inv h
  obtain ⟨hok, rfl⟩ := run_okay h
  exact (entry_of prg tok_8 (ev26 R x0 x1) (fun o ho => (Option.some.inj ho) ▸ hok) rfl).le (L0 _ (L1 _ L2))
def tl_26 : List (Nat × Ev.Spec) := (26, sp26) :: tl_8
def tbl_26 (D : Dom) : Tbl D := tblOf tl_26 D
theorem tok_26 : TblOK Try.prog (tbl_26 R) := TblOK.cons tok_8 en26

-- penumbra/warp.Disk
def S9_0 (D : Dom) (a0 : D.F) (a1 : D.F) : D.F := (S26_0 D a1 (S17_0 D (S25_0 D a0)))
def S9_1 (D : Dom) (a0 : D.F) (a1 : D.F) : D.F := (S26_1 D a1 (S17_0 D (S25_0 D a0)))
def S9_2 (D : Dom) (a1 : D.F) : D.F := (D.fmul (D.fc 4611686018427387904) (S26_2 D a1))
def O9 (D : Dom) (a1 : D.F) : D.B := (O26 D a1)
theorem ev9 (D : Dom) (a0 : D.F) (a1 : D.F) : joinT (evFn Try.prog (tbl_26 D) 60 9 [.fl a0, .fl a1]) = .val (some (O9 D a1)) (.tup [.fl (S9_0 D a0 a1), .fl (S9_1 D a0 a1), .fl (S9_2 D a1)]) := by kernel_rfl
def sp9 : Ev.Spec := fun D l => argF l fun a0 r0 => argF r0 fun a1 r1 => arg0 r1 (.node (O9 D a1) (.ret (.tup [.fl (S9_0 D a0 a1), .fl (S9_1 D a0 a1), .fl (S9_2 D a1)])) (.fail "pre"))
theorem en9 : ∀ l r, (sp9 R l).run = some r → Entry Try.prog 9 l r := by
  intro l r h
  obtain ⟨x0, _, h, L0⟩ := argF_inv h
  obtain ⟨x1, _, h, L1⟩ := argF_inv h
  obtain ⟨h, L2⟩ := arg0_inv h
  obtain ⟨hok, rfl⟩ := run_okay h
  exact (entry_of prg tok_26 (ev9 R x0 x1) (fun o ho => (Option.some.inj ho) ▸ hok) rfl).le (L0 _ (L1 _ L2))
def tl_9 : List (Nat × Ev.Spec) := (9, sp9) :: tl_26
def tbl_9 (D : Dom) : Tbl D := tblOf tl_9 D
theorem tok_9 : TblOK Try.prog (tbl_9 R) := TblOK.cons tok_26 en9

-- penumbra/penumbraref09.Disk
def S10_0 (D : Dom) (a0 : D.F) (a1 : D.F) : D.F := (D.fmul (S8_0 D a1) (S17_0 D (S18_0 D a0)))
def S10_1 (D : Dom) (a0 : D.F) (a1 : D.F) : D.F := (D.fmul (S8_1 D a1) (S17_0 D (S18_0 D a0)))
def S10_2 (D : Dom) (a1 : D.F) : D.F := (D.fmul (S8_2 D a1) (D.fc 4611686018427387904))
theorem ev10 (D : Dom) (a0 : D.F) (a1 : D.F) : joinT (evFn Try.prog (tbl_9 D) 60 10 [.fl a0, .fl a1]) = .val none (.tup [.fl (S10_0 D a0 a1), .fl (S10_1 D a0 a1), .fl (S10_2 D a1)]) := by kernel_rfl
def sp10 : Ev.Spec := fun D l => argF l fun a0 r0 => argF r0 fun a1 r1 => arg0 r1 (.ret (.tup [.fl (S10_0 D a0 a1), .fl (S10_1 D a0 a1), .fl (S10_2 D a1)]))
theorem en10 : ∀ l r, (sp10 R l).run = some r → Entry Try.prog 10 l r := by
  intro l r h
  obtain ⟨x0, _, h, L0⟩ := argF_inv h
  obtain ⟨x1, _, h, L1⟩ := argF_inv h
  obtain ⟨h, L2⟩ := arg0_inv h
  cases h
  exact (entry_of prg tok_9 (ev10 R x0 x1) (fun o ho => nomatch ho) rfl).le (L0 _ (L1 _ L2))
def tl_10 : List (Nat × Ev.Spec) := (10, sp10) :: tl_9
def tbl_10 (D : Dom) : Tbl D := tblOf tl_10 D
theorem tok_10 : TblOK Try.prog (tbl_10 R) := TblOK.cons tok_9 en10

-- penumbra/warp.size
def S27_0 (D : Dom) (a0 : D.F) : D.F := (D.fite (D.flt a0 (D.fc 0)) (D.fsub (D.fc 0) a0) a0)
theorem ev27 (D : Dom) (a0 : D.F) : joinT (evFn Try.prog (tbl_10 D) 60 27 [.fl a0]) = .val none (.fl (S27_0 D a0)) := by kernel_rfl
def sp27 : Ev.Spec := fun D l => argF l fun a0 r0 => arg0 r0 (.ret (.fl (S27_0 D a0)))
theorem en27 : ∀ l r, (sp27 R l).run = some r → Entry Try.prog 27 l r := by
  intro l r h
  obtain ⟨x0, _, h, L0⟩ := argF_inv h
  obtain ⟨h, L1⟩ := arg0_inv h
  cases h
  exact (entry_of prg tok_10 (ev27 R x0) (fun o ho => nomatch ho) rfl).le (L0 _ L1)
def tl_27 : List (Nat × Ev.Spec) := (27, sp27) :: tl_10
def tbl_27 (D : Dom) : Tbl D := tblOf tl_27 D
theorem tok_27 : TblOK Try.prog (tbl_27 R) := TblOK.cons tok_10 en27

-- penumbra/vec.Number
def S33_0 (D : Dom) (a0 : D.F) : D.B := (D.bite (D.fge a0 (D.fc 18442240474082181119)) (D.fle a0 (D.fc 9218868437227405311)) (D.bc false))
theorem ev33 (D : Dom) (a0 : D.F) : joinT (evFn Try.prog (tbl_27 D) 60 33 [.fl a0]) = .val none (.sb (S33_0 D a0)) := by kernel_rfl
def sp33 : Ev.Spec := fun D l => argF l fun a0 r0 => arg0 r0 (.ret (.sb (S33_0 D a0)))
theorem en33 : ∀ l r, (sp33 R l).run = some r → Entry Try.prog 33 l r := by
  intro l r h
  obtain ⟨x0, _, h, L0⟩ := argF_inv h
  obtain ⟨h, L1⟩ := arg0_inv h
  cases h
  exact (entry_of prg tok_27 (ev33 R x0) (fun o ho => nomatch ho) rfl).le (L0 _ L1)
def tl_33 : List (Nat × Ev.Spec) := (33, sp33) :: tl_27
def tbl_33 (D : Dom) : Tbl D := tblOf tl_33 D
theorem tok_33 : TblOK Try.prog (tbl_33 R) := TblOK.cons tok_27 en33

-- penumbra/vec.Finite
def S28_0 (D : Dom) (a0 : D.F) (a1 : D.F) (a2 : D.F) : D.B := (D.bite (D.bite (S33_0 D a0) (S33_0 D a1) (D.bc false)) (S33_0 D a2) (D.bc false))
theorem ev28 (D : Dom) (a0 : D.F) (a1 : D.F) (a2 : D.F) : joinT (evFn Try.prog (tbl_33 D) 60 28 [.agg [.fl a0, .fl a1, .fl a2]]) = .val none (.sb (S28_0 D a0 a1 a2)) := by kernel_rfl
def sp28 : Ev.Spec := fun D l => argA l fun c0 r0 => argF c0 fun a0 r1 => argF r1 fun a1 r2 => argF r2 fun a2 r3 => arg0 r3 (arg0 r0 (.ret (.sb (S28_0 D a0 a1 a2))))
theorem en28 : ∀ l r, (sp28 R l).run = some r → Entry Try.prog 28 l r := by
  intro l r h
  obtain ⟨_, _, h, L0⟩ := argA_inv h
  obtain ⟨x1, _, h, L1⟩ := argF_inv h
  obtain ⟨x2, _, h, L2⟩ := argF_inv h
  obtain ⟨x3, _, h, L3⟩ := argF_inv h
  obtain ⟨h, L4⟩ := arg0_inv h
  obtain ⟨h, L5⟩ := arg0_inv h
  cases h
  exact (entry_of prg tok_33 (ev28 R x1 x2 x3) (fun o ho => nomatch ho) rfl).le (L0 _ _ (L1 _ (L2 _ (L3 _ L4))) L5)
def tl_28 : List (Nat × Ev.Spec) := (28, sp28) :: tl_33
def tbl_28 (D : Dom) : Tbl D := tblOf tl_28 D
theorem tok_28 : TblOK Try.prog (tbl_28 R) := TblOK.cons tok_33 en28

-- penumbra/warp.Angle
def S13_0 (D : Dom) (a0 : D.F) (a1 : D.F) : D.Z := (D.zite (D.bite (D.feq (D.fite (D.bnot (D.fge (S27_0 D a0) (S27_0 D a1))) (S27_0 D a1) (S27_0 D a0)) (D.fc 0)) (D.bc true) (D.bnot (S28_0 D (D.fite (D.bnot (D.fge (S27_0 D a0) (S27_0 D a1))) (S27_0 D a1) (S27_0 D a0)) (D.fite (D.bnot (D.fge (S27_0 D a0) (S27_0 D a1))) (S27_0 D a0) (S27_0 D a1)) (D.fc 0)))) (D.zite (D.bite (D.bite (D.fge a0 (D.fc 0)) (D.fge a1 (D.fc 0)) (D.bc false)) (D.fge (S27_0 D a0) (S27_0 D a1)) (D.bc false)) (D.zc 0) (D.zite (D.bite (D.bite (D.fge a0 (D.fc 0)) (D.fge a1 (D.fc 0)) (D.bc false)) (D.flt (S27_0 D a0) (S27_0 D a1)) (D.bc false)) (D.zc 1) (D.zite (D.bite (D.bite (D.flt a0 (D.fc 0)) (D.fge a1 (D.fc 0)) (D.bc false)) (D.flt (S27_0 D a0) (S27_0 D a1)) (D.bc false)) (D.zc 2) (D.zite (D.bite (D.bite (D.flt a0 (D.fc 0)) (D.fge a1 (D.fc 0)) (D.bc false)) (D.fge (S27_0 D a0) (S27_0 D a1)) (D.bc false)) (D.zc 3) (D.zite (D.bite (D.bite (D.flt a0 (D.fc 0)) (D.flt a1 (D.fc 0)) (D.bc false)) (D.fge (S27_0 D a0) (S27_0 D a1)) (D.bc false)) (D.zc 4) (D.zite (D.bite (D.bite (D.flt a0 (D.fc 0)) (D.flt a1 (D.fc 0)) (D.bc false)) (D.flt (S27_0 D a0) (S27_0 D a1)) (D.bc false)) (D.zc 5) (D.zite (D.bite (D.bite (D.fge a0 (D.fc 0)) (D.flt a1 (D.fc 0)) (D.bc false)) (D.flt (S27_0 D a0) (S27_0 D a1)) (D.bc false)) (D.zc 6) (D.zc 7)))))))) (D.zite (D.bite (D.bite (D.fge a0 (D.fc 0)) (D.fge a1 (D.fc 0)) (D.bc false)) (D.fge (S27_0 D a0) (S27_0 D a1)) (D.bc false)) (D.zc 0) (D.zite (D.bite (D.bite (D.fge a0 (D.fc 0)) (D.fge a1 (D.fc 0)) (D.bc false)) (D.flt (S27_0 D a0) (S27_0 D a1)) (D.bc false)) (D.zc 1) (D.zite (D.bite (D.bite (D.flt a0 (D.fc 0)) (D.fge a1 (D.fc 0)) (D.bc false)) (D.flt (S27_0 D a0) (S27_0 D a1)) (D.bc false)) (D.zc 2) (D.zite (D.bite (D.bite (D.flt a0 (D.fc 0)) (D.fge a1 (D.fc 0)) (D.bc false)) (D.fge (S27_0 D a0) (S27_0 D a1)) (D.bc false)) (D.zc 3) (D.zite (D.bite (D.bite (D.flt a0 (D.fc 0)) (D.flt a1 (D.fc 0)) (D.bc false)) (D.fge (S27_0 D a0) (S27_0 D a1)) (D.bc false)) (D.zc 4) (D.zite (D.bite (D.bite (D.flt a0 (D.fc 0)) (D.flt a1 (D.fc 0)) (D.bc false)) (D.flt (S27_0 D a0) (S27_0 D a1)) (D.bc false)) (D.zc 5) (D.zite (D.bite (D.bite (D.fge a0 (D.fc 0)) (D.flt a1 (D.fc 0)) (D.bc false)) (D.flt (S27_0 D a0) (S27_0 D a1)) (D.bc false)) (D.zc 6) (D.zc 7)))))))))
def S13_1 (D : Dom) (a0 : D.F) (a1 : D.F) : D.F := (D.fite (D.bite (D.feq (D.fite (D.bnot (D.fge (S27_0 D a0) (S27_0 D a1))) (S27_0 D a1) (S27_0 D a0)) (D.fc 0)) (D.bc true) (D.bnot (S28_0 D (D.fite (D.bnot (D.fge (S27_0 D a0) (S27_0 D a1))) (S27_0 D a1) (S27_0 D a0)) (D.fite (D.bnot (D.fge (S27_0 D a0) (S27_0 D a1))) (S27_0 D a0) (S27_0 D a1)) (D.fc 0)))) (D.fc 0) (D.fdiv (D.fite (D.bnot (D.fge (S27_0 D a0) (S27_0 D a1))) (S27_0 D a0) (S27_0 D a1)) (D.fite (D.bnot (D.fge (S27_0 D a0) (S27_0 D a1))) (S27_0 D a1) (S27_0 D a0))))
theorem ev13 (D : Dom) (a0 : D.F) (a1 : D.F) : joinT (evFn Try.prog (tbl_28 D) 60 13 [.fl a0, .fl a1]) = .val none (.tup [.si .i64 (S13_0 D a0 a1), .fl (S13_1 D a0 a1)]) := by kernel_rfl
def sp13 : Ev.Spec := fun D l => argF l fun a0 r0 => argF r0 fun a1 r1 => arg0 r1 (.ret (.tup [.si .i64 (S13_0 D a0 a1), .fl (S13_1 D a0 a1)]))
theorem en13 : ∀ l r, (sp13 R l).run = some r → Entry Try.prog 13 l r := by
  intro l r h
  obtain ⟨x0, _, h, L0⟩ := argF_inv h
  obtain ⟨x1, _, h, L1⟩ := argF_inv h
  obtain ⟨h, L2⟩ := arg0_inv h
  cases h
  exact (entry_of prg tok_28 (ev13 R x0 x1) (fun o ho => nomatch ho) rfl).le (L0 _ (L1 _ L2))
def tl_13 : List (Nat × Ev.Spec) := (13, sp13) :: tl_28
def tbl_13 (D : Dom) : Tbl D := tblOf tl_13 D
theorem tok_13 : TblOK Try.prog (tbl_13 R) := TblOK.cons tok_28 en13

-- penumbra/warp.Hemi
def S21_0 (D : Dom) (a0 : D.F) (a1 : D.F) : D.F := (S9_0 D a0 a1)
def S21_1 (D : Dom) (a0 : D.F) (a1 : D.F) : D.F := (S9_1 D a0 a1)
def S21_2 (D : Dom) (a0 : D.F) : D.F := (S17_0 D (D.fsub (D.fc 4607182418800017408) (S25_0 D a0)))
def S21_3 (D : Dom) (a0 : D.F) (a1 : D.F) : D.F := (D.fmul (S9_2 D a1) (S17_0 D (D.fsub (D.fc 4607182418800017408) (S25_0 D a0))))
def O21 (D : Dom) (a1 : D.F) : D.B := (O9 D a1)
theorem ev21 (D : Dom) (a0 : D.F) (a1 : D.F) : joinT (evFn Try.prog (tbl_13 D) 60 21 [.fl a0, .fl a1]) = .val (some (O21 D a1)) (.tup [.agg [.fl (S21_0 D a0 a1), .fl (S21_1 D a0 a1), .fl (S21_2 D a0)], .fl (S21_3 D a0 a1)]) := by kernel_rfl
def sp21 : Ev.Spec := fun D l => argF l fun a0 r0 => argF r0 fun a1 r1 => arg0 r1 (.node (O21 D a1) (.ret (.tup [.agg [.fl (S21_0 D a0 a1), .fl (S21_1 D a0 a1), .fl (S21_2 D a0)], .fl (S21_3 D a0 a1)])) (.fail "pre"))
theorem en21 : ∀ l r, (sp21 R l).run = some r → Entry Try.prog 21 l r := by
  intro l r h
  obtain ⟨x0, _, h, L0⟩ := argF_inv h
  obtain ⟨x1, _, h, L1⟩ := argF_inv h
  obtain ⟨h, L2⟩ := arg0_inv h
  obtain ⟨hok, rfl⟩ := run_okay h
  exact (entry_of prg tok_13 (ev21 R x0 x1) (fun o ho => (Option.some.inj ho) ▸ hok) rfl).le (L0 _ (L1 _ L2))
def tl_21 : List (Nat × Ev.Spec) := (21, sp21) :: tl_13
def tbl_21 (D : Dom) : Tbl D := tblOf tl_21 D
theorem tok_21 : TblOK Try.prog (tbl_21 R) := TblOK.cons tok_13 en21

-- penumbra/warp.Tent
def S19_0 (D : Dom) (a0 : D.F) : D.F := (D.fite (D.flt (D.fmul (D.fc 4611686018427387904) (S25_0 D a0)) (D.fc 4607182418800017408)) (D.fsub (S17_0 D (D.fmul (D.fc 4611686018427387904) (S25_0 D a0))) (D.fc 4607182418800017408)) (D.fsub (D.fc 4607182418800017408) (S17_0 D (D.fsub (D.fc 4611686018427387904) (D.fmul (D.fc 4611686018427387904) (S25_0 D a0))))))
theorem ev19 (D : Dom) (a0 : D.F) : joinT (evFn Try.prog (tbl_21 D) 60 19 [.fl a0]) = .val none (.fl (S19_0 D a0)) := by kernel_rfl
def sp19 : Ev.Spec := fun D l => argF l fun a0 r0 => arg0 r0 (.ret (.fl (S19_0 D a0)))
theorem en19 : ∀ l r, (sp19 R l).run = some r → Entry Try.prog 19 l r := by
  intro l r h
  obtain ⟨x0, _, h, L0⟩ := argF_inv h
  obtain ⟨h, L1⟩ := arg0_inv h
  cases h
  exact (entry_of prg tok_21 (ev19 R x0) (fun o ho => nomatch ho) rfl).le (L0 _ L1)
def tl_19 : List (Nat × Ev.Spec) := (19, sp19) :: tl_21
def tbl_19 (D : Dom) : Tbl D := tblOf tl_19 D
theorem tok_19 : TblOK Try.prog (tbl_19 R) := TblOK.cons tok_21 en19

-- penumbra/warp.Density
def S15_0 (D : Dom) (a0 : D.F) (a1 : D.F) : D.F := (D.fmul (D.fadd (D.fc 4607182418800017408) (D.fmul (S13_1 D a0 a1) (S13_1 D a0 a1))) (D.fc 4593671619917905920))
theorem ev15 (D : Dom) (a0 : D.F) (a1 : D.F) : joinT (evFn Try.prog (tbl_19 D) 60 15 [.fl a0, .fl a1]) = .val none (.fl (S15_0 D a0 a1)) := by kernel_rfl
def sp15 : Ev.Spec := fun D l => argF l fun a0 r0 => argF r0 fun a1 r1 => arg0 r1 (.ret (.fl (S15_0 D a0 a1)))
theorem en15 : ∀ l r, (sp15 R l).run = some r → Entry Try.prog 15 l r := by
  intro l r h
  obtain ⟨x0, _, h, L0⟩ := argF_inv h
  obtain ⟨x1, _, h, L1⟩ := argF_inv h
  obtain ⟨h, L2⟩ := arg0_inv h
  cases h
  exact (entry_of prg tok_19 (ev15 R x0 x1) (fun o ho => nomatch ho) rfl).le (L0 _ (L1 _ L2))
def tl_15 : List (Nat × Ev.Spec) := (15, sp15) :: tl_19
def tbl_15 (D : Dom) : Tbl D := tblOf tl_15 D
theorem tok_15 : TblOK Try.prog (tbl_15 R) := TblOK.cons tok_19 en15

-- penumbra/penumbralaw09.awake
def S11_0 (D : Dom)  : D.B := (D.bite (D.bite (D.bite (D.bite (D.bite (D.bite (D.bite (D.bite (D.feq (S7_0 D (D.fc 0)) (D.fc 4607182418800017408)) (D.feq (S7_1 D (D.fc 0)) (D.fc 0)) (D.bc false)) (D.feq (S7_2 D (D.fc 0)) (D.fc 4593671619917905920)) (D.bc false)) (D.zeq (S13_0 D (D.fc 13830554455654793216) (D.fc 4611686018427387904)) (D.zc 2)) (D.bc false)) (D.feq (S13_1 D (D.fc 13830554455654793216) (D.fc 4611686018427387904)) (D.fc 4602678819172646912)) (D.bc false)) (D.feq (S19_0 D (D.fc 4602678819172646912)) (D.fc 0)) (D.bc false)) (D.band (D.feq (S21_0 D (D.fc 0) (D.fc 0)) (D.fc 0)) (D.band (D.feq (S21_1 D (D.fc 0) (D.fc 0)) (D.fc 0)) (D.band (D.feq (S21_2 D (D.fc 0)) (D.fc 4607182418800017408)) (D.bc true)))) (D.bc false)) (D.feq (S21_3 D (D.fc 0) (D.fc 0)) (D.fc 4598175219545276416)) (D.bc false)) (D.feq (S15_0 D (D.fc 4613937818241073152) (D.fc 4613937818241073152)) (D.fc 4598175219545276416)) (D.bc false))
def O11 (D : Dom)  : D.B := (D.band (O7 D (D.fc 0)) (O21 D (D.fc 0)))
theorem ev11 (D : Dom)  : joinT (evFn Try.prog (tbl_15 D) 60 11 []) = .val (some (O11 D)) (.sb (S11_0 D)) := by kernel_rfl
def sp11 : Ev.Spec := fun D l => arg0 l (.node (O11 D) (.ret (.sb (S11_0 D))) (.fail "pre"))
theorem en11 : ∀ l r, (sp11 R l).run = some r → Entry Try.prog 11 l r := by
  intro l r h
  obtain ⟨h, L0⟩ := arg0_inv h
  obtain ⟨hok, rfl⟩ := run_okay h
  exact (entry_of prg tok_15 (ev11 R ) (fun o ho => (Option.some.inj ho) ▸ hok) rfl).le L0
def tl_11 : List (Nat × Ev.Spec) := (11, sp11) :: tl_15
def tbl_11 (D : Dom) : Tbl D := tblOf tl_11 D
theorem tok_11 : TblOK Try.prog (tbl_11 R) := TblOK.cons tok_15 en11

-- penumbra/penumbralaw09.near
def S12_0 (D : Dom) (a0 : D.F) (a1 : D.F) : D.B := (D.bite (D.fle (D.fsub a0 a1) (D.fc 4427038433705197568)) (D.fge (D.fsub a0 a1) (D.fc 13650410470559973376)) (D.bc false))
theorem ev12 (D : Dom) (a0 : D.F) (a1 : D.F) : joinT (evFn Try.prog (tbl_11 D) 60 12 [.fl a0, .fl a1]) = .val none (.sb (S12_0 D a0 a1)) := by kernel_rfl
def sp12 : Ev.Spec := fun D l => argF l fun a0 r0 => argF r0 fun a1 r1 => arg0 r1 (.ret (.sb (S12_0 D a0 a1)))
theorem en12 : ∀ l r, (sp12 R l).run = some r → Entry Try.prog 12 l r := by
  intro l r h
  obtain ⟨x0, _, h, L0⟩ := argF_inv h
  obtain ⟨x1, _, h, L1⟩ := argF_inv h
  obtain ⟨h, L2⟩ := arg0_inv h
  cases h
  exact (entry_of prg tok_11 (ev12 R x0 x1) (fun o ho => nomatch ho) rfl).le (L0 _ (L1 _ L2))
def tl_12 : List (Nat × Ev.Spec) := (12, sp12) :: tl_11
def tbl_12 (D : Dom) : Tbl D := tblOf tl_12 D
theorem tok_12 : TblOK Try.prog (tbl_12 R) := TblOK.cons tok_11 en12

-- penumbra/penumbralaw09.WarpPlane
def S3_0 (D : Dom) (a0 : D.F) (a1 : D.F) : D.B := (D.bite (D.bite (D.bite (D.bnot (D.feq (S7_0 D a0) (S8_0 D a0))) (D.bc true) (D.bnot (D.feq (S7_1 D a0) (S8_1 D a0)))) (D.bc true) (D.bnot (D.feq (S7_2 D a0) (S8_2 D a0)))) (D.bc false) (D.bite (D.bite (D.bite (D.bite (D.bite (D.bite (D.bite (S11_0 D) (D.feq (S9_0 D a0 a1) (S10_0 D a0 a1)) (D.bc false)) (D.feq (S9_1 D a0 a1) (S10_1 D a0 a1)) (D.bc false)) (D.feq (S9_2 D a1) (S10_2 D a1)) (D.bc false)) (S12_0 D (D.fadd (D.fmul (S7_0 D a0) (S7_0 D a0)) (D.fmul (S7_1 D a0) (S7_1 D a0))) (D.fc 4607182418800017408)) (D.bc false)) (D.fge (S7_2 D a0) (D.fc 4593671619917905920)) (D.bc false)) (D.fle (S7_2 D a0) (D.fc 4598175219545276416)) (D.bc false)) (D.fle (D.fadd (D.fmul (S9_0 D a0 a1) (S9_0 D a0 a1)) (D.fmul (S9_1 D a0 a1) (S9_1 D a0 a1))) (D.fc 4607182418800021504)) (D.bc false)))
def O3 (D : Dom) (a0 : D.F) (a1 : D.F) : D.B := (D.band (O7 D a0) (D.bite (D.bite (D.bite (D.bnot (D.feq (S7_0 D a0) (S8_0 D a0))) (D.bc true) (D.bnot (D.feq (S7_1 D a0) (S8_1 D a0)))) (D.bc true) (D.bnot (D.feq (S7_2 D a0) (S8_2 D a0)))) (D.bc true) (D.band (O9 D a1) (O11 D))))
theorem ev3 (D : Dom) (a0 : D.F) (a1 : D.F) : joinT (evFn Try.prog (tbl_12 D) 60 3 [.fl a0, .fl a1]) = .val (some (O3 D a0 a1)) (.sb (S3_0 D a0 a1)) := by kernel_rfl
def sp3 : Ev.Spec := fun D l => argF l fun a0 r0 => argF r0 fun a1 r1 => arg0 r1 (.node (O3 D a0 a1) (.ret (.sb (S3_0 D a0 a1))) (.fail "pre"))
theorem en3 : ∀ l r, (sp3 R l).run = some r → Entry Try.prog 3 l r := by
  intro l r h
  obtain ⟨x0, _, h, L0⟩ := argF_inv h
  obtain ⟨x1, _, h, L1⟩ := argF_inv h
  obtain ⟨h, L2⟩ := arg0_inv h
  obtain ⟨hok, rfl⟩ := run_okay h
  exact (entry_of prg tok_12 (ev3 R x0 x1) (fun o ho => (Option.some.inj ho) ▸ hok) rfl).le (L0 _ (L1 _ L2))
def tl_3 : List (Nat × Ev.Spec) := (3, sp3) :: tl_12
def tbl_3 (D : Dom) : Tbl D := tblOf tl_3 D
theorem tok_3 : TblOK Try.prog (tbl_3 R) := TblOK.cons tok_12 en3

-- penumbra/penumbraref09.abs
def S29_0 (D : Dom) (a0 : D.F) : D.F := (D.fite (D.bite (D.fge a0 (D.fc 0)) (D.bc true) (D.bnot (D.feq a0 a0))) a0 (D.fsub (D.fc 0) a0))
theorem ev29 (D : Dom) (a0 : D.F) : joinT (evFn Try.prog (tbl_3 D) 60 29 [.fl a0]) = .val none (.fl (S29_0 D a0)) := by kernel_rfl
def sp29 : Ev.Spec := fun D l => argF l fun a0 r0 => arg0 r0 (.ret (.fl (S29_0 D a0)))
theorem en29 : ∀ l r, (sp29 R l).run = some r → Entry Try.prog 29 l r := by
  intro l r h
  obtain ⟨x0, _, h, L0⟩ := argF_inv h
  obtain ⟨h, L1⟩ := arg0_inv h
  cases h
  exact (entry_of prg tok_3 (ev29 R x0) (fun o ho => nomatch ho) rfl).le (L0 _ L1)
def tl_29 : List (Nat × Ev.Spec) := (29, sp29) :: tl_3
def tbl_29 (D : Dom) : Tbl D := tblOf tl_29 D
theorem tok_29 : TblOK Try.prog (tbl_29 R) := TblOK.cons tok_3 en29

-- penumbra/penumbraref02.Number
def S30_0 (D : Dom) (a0 : D.F) : D.B := (D.feq (D.fsub a0 a0) (D.fc 0))
theorem ev30 (D : Dom) (a0 : D.F) : joinT (evFn Try.prog (tbl_29 D) 60 30 [.fl a0]) = .val none (.sb (S30_0 D a0)) := by kernel_rfl
def sp30 : Ev.Spec := fun D l => argF l fun a0 r0 => arg0 r0 (.ret (.sb (S30_0 D a0)))
theorem en30 : ∀ l r, (sp30 R l).run = some r → Entry Try.prog 30 l r := by
  intro l r h
  obtain ⟨x0, _, h, L0⟩ := argF_inv h
  obtain ⟨h, L1⟩ := arg0_inv h
  cases h
  exact (entry_of prg tok_29 (ev30 R x0) (fun o ho => nomatch ho) rfl).le (L0 _ L1)
def tl_30 : List (Nat × Ev.Spec) := (30, sp30) :: tl_29
def tbl_30 (D : Dom) : Tbl D := tblOf tl_30 D
theorem tok_30 : TblOK Try.prog (tbl_30 R) := TblOK.cons tok_29 en30

-- penumbra/penumbraref09.Angle
def S14_0 (D : Dom) (a0 : D.F) (a1 : D.F) : D.Z := (D.zite (D.bite (D.bite (D.bnot (S30_0 D (S29_0 D a0))) (D.bc true) (D.bnot (S30_0 D (S29_0 D a1)))) (D.bc true) (D.bite (D.feq (S29_0 D a0) (D.fc 0)) (D.feq (S29_0 D a1) (D.fc 0)) (D.bc false))) (D.zite (D.bite (D.bite (D.fge a0 (D.fc 0)) (D.fge a1 (D.fc 0)) (D.bc false)) (D.fge (S29_0 D a0) (S29_0 D a1)) (D.bc false)) (D.zc 0) (D.zite (D.bite (D.bite (D.fge a0 (D.fc 0)) (D.fge a1 (D.fc 0)) (D.bc false)) (D.flt (S29_0 D a0) (S29_0 D a1)) (D.bc false)) (D.zc 1) (D.zite (D.bite (D.bite (D.flt a0 (D.fc 0)) (D.fge a1 (D.fc 0)) (D.bc false)) (D.flt (S29_0 D a0) (S29_0 D a1)) (D.bc false)) (D.zc 2) (D.zite (D.bite (D.bite (D.flt a0 (D.fc 0)) (D.fge a1 (D.fc 0)) (D.bc false)) (D.fge (S29_0 D a0) (S29_0 D a1)) (D.bc false)) (D.zc 3) (D.zite (D.bite (D.bite (D.flt a0 (D.fc 0)) (D.flt a1 (D.fc 0)) (D.bc false)) (D.fge (S29_0 D a0) (S29_0 D a1)) (D.bc false)) (D.zc 4) (D.zite (D.bite (D.bite (D.flt a0 (D.fc 0)) (D.flt a1 (D.fc 0)) (D.bc false)) (D.flt (S29_0 D a0) (S29_0 D a1)) (D.bc false)) (D.zc 5) (D.zite (D.bite (D.bite (D.fge a0 (D.fc 0)) (D.flt a1 (D.fc 0)) (D.bc false)) (D.flt (S29_0 D a0) (S29_0 D a1)) (D.bc false)) (D.zc 6) (D.zc 7)))))))) (D.zite (D.fge (S29_0 D a0) (S29_0 D a1)) (D.zite (D.bite (D.bite (D.fge a0 (D.fc 0)) (D.fge a1 (D.fc 0)) (D.bc false)) (D.fge (S29_0 D a0) (S29_0 D a1)) (D.bc false)) (D.zc 0) (D.zite (D.bite (D.bite (D.fge a0 (D.fc 0)) (D.fge a1 (D.fc 0)) (D.bc false)) (D.flt (S29_0 D a0) (S29_0 D a1)) (D.bc false)) (D.zc 1) (D.zite (D.bite (D.bite (D.flt a0 (D.fc 0)) (D.fge a1 (D.fc 0)) (D.bc false)) (D.flt (S29_0 D a0) (S29_0 D a1)) (D.bc false)) (D.zc 2) (D.zite (D.bite (D.bite (D.flt a0 (D.fc 0)) (D.fge a1 (D.fc 0)) (D.bc false)) (D.fge (S29_0 D a0) (S29_0 D a1)) (D.bc false)) (D.zc 3) (D.zite (D.bite (D.bite (D.flt a0 (D.fc 0)) (D.flt a1 (D.fc 0)) (D.bc false)) (D.fge (S29_0 D a0) (S29_0 D a1)) (D.bc false)) (D.zc 4) (D.zite (D.bite (D.bite (D.flt a0 (D.fc 0)) (D.flt a1 (D.fc 0)) (D.bc false)) (D.flt (S29_0 D a0) (S29_0 D a1)) (D.bc false)) (D.zc 5) (D.zite (D.bite (D.bite (D.fge a0 (D.fc 0)) (D.flt a1 (D.fc 0)) (D.bc false)) (D.flt (S29_0 D a0) (S29_0 D a1)) (D.bc false)) (D.zc 6) (D.zc 7)))))))) (D.zite (D.bite (D.bite (D.fge a0 (D.fc 0)) (D.fge a1 (D.fc 0)) (D.bc false)) (D.fge (S29_0 D a0) (S29_0 D a1)) (D.bc false)) (D.zc 0) (D.zite (D.bite (D.bite (D.fge a0 (D.fc 0)) (D.fge a1 (D.fc 0)) (D.bc false)) (D.flt (S29_0 D a0) (S29_0 D a1)) (D.bc false)) (D.zc 1) (D.zite (D.bite (D.bite (D.flt a0 (D.fc 0)) (D.fge a1 (D.fc 0)) (D.bc false)) (D.flt (S29_0 D a0) (S29_0 D a1)) (D.bc false)) (D.zc 2) (D.zite (D.bite (D.bite (D.flt a0 (D.fc 0)) (D.fge a1 (D.fc 0)) (D.bc false)) (D.fge (S29_0 D a0) (S29_0 D a1)) (D.bc false)) (D.zc 3) (D.zite (D.bite (D.bite (D.flt a0 (D.fc 0)) (D.flt a1 (D.fc 0)) (D.bc false)) (D.fge (S29_0 D a0) (S29_0 D a1)) (D.bc false)) (D.zc 4) (D.zite (D.bite (D.bite (D.flt a0 (D.fc 0)) (D.flt a1 (D.fc 0)) (D.bc false)) (D.flt (S29_0 D a0) (S29_0 D a1)) (D.bc false)) (D.zc 5) (D.zite (D.bite (D.bite (D.fge a0 (D.fc 0)) (D.flt a1 (D.fc 0)) (D.bc false)) (D.flt (S29_0 D a0) (S29_0 D a1)) (D.bc false)) (D.zc 6) (D.zc 7))))))))))
def S14_1 (D : Dom) (a0 : D.F) (a1 : D.F) : D.F := (D.fite (D.bite (D.bite (D.bnot (S30_0 D (S29_0 D a0))) (D.bc true) (D.bnot (S30_0 D (S29_0 D a1)))) (D.bc true) (D.bite (D.feq (S29_0 D a0) (D.fc 0)) (D.feq (S29_0 D a1) (D.fc 0)) (D.bc false))) (D.fc 0) (D.fite (D.fge (S29_0 D a0) (S29_0 D a1)) (D.fdiv (S29_0 D a1) (S29_0 D a0)) (D.fdiv (S29_0 D a0) (S29_0 D a1))))
theorem ev14 (D : Dom) (a0 : D.F) (a1 : D.F) : joinT (evFn Try.prog (tbl_30 D) 60 14 [.fl a0, .fl a1]) = .val none (.tup [.si .i64 (S14_0 D a0 a1), .fl (S14_1 D a0 a1)]) := by kernel_rfl
def sp14 : Ev.Spec := fun D l => argF l fun a0 r0 => argF r0 fun a1 r1 => arg0 r1 (.ret (.tup [.si .i64 (S14_0 D a0 a1), .fl (S14_1 D a0 a1)]))
theorem en14 : ∀ l r, (sp14 R l).run = some r → Entry Try.prog 14 l r := by
  intro l r h
  obtain ⟨x0, _, h, L0⟩ := argF_inv h
  obtain ⟨x1, _, h, L1⟩ := argF_inv h
  obtain ⟨h, L2⟩ := arg0_inv h
  cases h
  exact (entry_of prg tok_30 (ev14 R x0 x1) (fun o ho => nomatch ho) rfl).le (L0 _ (L1 _ L2))
def tl_14 : List (Nat × Ev.Spec) := (14, sp14) :: tl_30
def tbl_14 (D : Dom) : Tbl D := tblOf tl_14 D
theorem tok_14 : TblOK Try.prog (tbl_14 R) := TblOK.cons tok_30 en14

-- penumbra/penumbralaw09.WarpAngles
def S4_0 (D : Dom) (a0 : D.F) (a1 : D.F) (a2 : D.F) : D.B := (D.bite (D.bite (D.bite (D.bnot (D.zeq (S13_0 D a0 a1) (S14_0 D a0 a1))) (D.bc true) (D.bnot (D.feq (S13_1 D a0 a1) (S14_1 D a0 a1)))) (D.bc true) (D.bnot (D.feq (S15_0 D a0 a1) (D.fmul (D.fadd (D.fc 4607182418800017408) (D.fmul (S14_1 D a0 a1) (S14_1 D a0 a1))) (D.fc 4593671619917905920))))) (D.bc false) (D.bite (S11_0 D) (S12_0 D (S15_0 D (S7_0 D a2) (S7_1 D a2)) (S7_2 D a2)) (D.bc false)))
def O4 (D : Dom) (a0 : D.F) (a1 : D.F) (a2 : D.F) : D.B := (D.bite (D.bite (D.bite (D.bnot (D.zeq (S13_0 D a0 a1) (S14_0 D a0 a1))) (D.bc true) (D.bnot (D.feq (S13_1 D a0 a1) (S14_1 D a0 a1)))) (D.bc true) (D.bnot (D.feq (S15_0 D a0 a1) (D.fmul (D.fadd (D.fc 4607182418800017408) (D.fmul (S14_1 D a0 a1) (S14_1 D a0 a1))) (D.fc 4593671619917905920))))) (D.bc true) (D.band (O7 D a2) (O11 D)))
theorem ev4 (D : Dom) (a0 : D.F) (a1 : D.F) (a2 : D.F) : joinT (evFn Try.prog (tbl_14 D) 60 4 [.fl a0, .fl a1, .fl a2]) = .val (some (O4 D a0 a1 a2)) (.sb (S4_0 D a0 a1 a2)) := by kernel_rfl
def sp4 : Ev.Spec := fun D l => argF l fun a0 r0 => argF r0 fun a1 r1 => argF r1 fun a2 r2 => arg0 r2 (.node (O4 D a0 a1 a2) (.ret (.sb (S4_0 D a0 a1 a2))) (.fail "pre"))
theorem en4 : ∀ l r, (sp4 R l).run = some r → Entry Try.prog 4 l r := by
  intro l r h
  obtain ⟨x0, _, h, L0⟩ := argF_inv h
  obtain ⟨x1, _, h, L1⟩ := argF_inv h
  obtain ⟨x2, _, h, L2⟩ := argF_inv h
  obtain ⟨h, L3⟩ := arg0_inv h
  obtain ⟨hok, rfl⟩ := run_okay h
  exact (entry_of prg tok_14 (ev4 R x0 x1 x2) (fun o ho => (Option.some.inj ho) ▸ hok) rfl).le (L0 _ (L1 _ (L2 _ L3)))
def tl_4 : List (Nat × Ev.Spec) := (4, sp4) :: tl_14
def tbl_4 (D : Dom) : Tbl D := tblOf tl_4 D
theorem tok_4 : TblOK Try.prog (tbl_4 R) := TblOK.cons tok_14 en4

-- penumbra/warp.Bary
def S16_0 (D : Dom) (a0 : D.F) : D.F := (D.fsub (D.fc 4607182418800017408) (S17_0 D (S25_0 D a0)))
def S16_1 (D : Dom) (a0 : D.F) (a1 : D.F) : D.F := (D.fmul (S17_0 D (S25_0 D a0)) (D.fsub (D.fc 4607182418800017408) (S25_0 D a1)))
def S16_2 (D : Dom) (a0 : D.F) (a1 : D.F) : D.F := (D.fmul (S17_0 D (S25_0 D a0)) (S25_0 D a1))
theorem ev16 (D : Dom) (a0 : D.F) (a1 : D.F) : joinT (evFn Try.prog (tbl_4 D) 60 16 [.fl a0, .fl a1]) = .val none (.tup [.fl (S16_0 D a0), .fl (S16_1 D a0 a1), .fl (S16_2 D a0 a1)]) := by kernel_rfl
def sp16 : Ev.Spec := fun D l => argF l fun a0 r0 => argF r0 fun a1 r1 => arg0 r1 (.ret (.tup [.fl (S16_0 D a0), .fl (S16_1 D a0 a1), .fl (S16_2 D a0 a1)]))
theorem en16 : ∀ l r, (sp16 R l).run = some r → Entry Try.prog 16 l r := by
  intro l r h
  obtain ⟨x0, _, h, L0⟩ := argF_inv h
  obtain ⟨x1, _, h, L1⟩ := argF_inv h
  obtain ⟨h, L2⟩ := arg0_inv h
  cases h
  exact (entry_of prg tok_4 (ev16 R x0 x1) (fun o ho => nomatch ho) rfl).le (L0 _ (L1 _ L2))
def tl_16 : List (Nat × Ev.Spec) := (16, sp16) :: tl_4
def tbl_16 (D : Dom) : Tbl D := tblOf tl_16 D
theorem tok_16 : TblOK Try.prog (tbl_16 R) := TblOK.cons tok_4 en16

-- penumbra/penumbraref09.Tent
def S20_0 (D : Dom) (a0 : D.F) : D.F := (D.fite (D.fge (D.fadd (S18_0 D a0) (S18_0 D a0)) (D.fc 4607182418800017408)) (D.fsub (D.fc 4607182418800017408) (S17_0 D (D.fsub (D.fc 4611686018427387904) (D.fadd (S18_0 D a0) (S18_0 D a0))))) (D.fsub (S17_0 D (D.fadd (S18_0 D a0) (S18_0 D a0))) (D.fc 4607182418800017408)))
theorem ev20 (D : Dom) (a0 : D.F) : joinT (evFn Try.prog (tbl_16 D) 60 20 [.fl a0]) = .val none (.fl (S20_0 D a0)) := by kernel_rfl
def sp20 : Ev.Spec := fun D l => argF l fun a0 r0 => arg0 r0 (.ret (.fl (S20_0 D a0)))
theorem en20 : ∀ l r, (sp20 R l).run = some r → Entry Try.prog 20 l r := by
  intro l r h
  obtain ⟨x0, _, h, L0⟩ := argF_inv h
  obtain ⟨h, L1⟩ := arg0_inv h
  cases h
  exact (entry_of prg tok_16 (ev20 R x0) (fun o ho => nomatch ho) rfl).le (L0 _ L1)
def tl_20 : List (Nat × Ev.Spec) := (20, sp20) :: tl_16
def tbl_20 (D : Dom) : Tbl D := tblOf tl_20 D
theorem tok_20 : TblOK Try.prog (tbl_20 R) := TblOK.cons tok_16 en20

-- penumbra/penumbralaw09.WarpLine
def S5_0 (D : Dom) (a0 : D.F) (a1 : D.F) : D.B := (D.bite (D.bite (D.bite (D.bite (D.bite (D.bite (D.bite (D.bite (D.bite (D.bite (D.bite (D.bite (D.bite (S11_0 D) (D.feq (S16_0 D a0) (D.fsub (D.fc 4607182418800017408) (S17_0 D (S18_0 D a0)))) (D.bc false)) (D.feq (S16_1 D a0 a1) (D.fmul (S17_0 D (S18_0 D a0)) (D.fsub (D.fc 4607182418800017408) (S18_0 D a1)))) (D.bc false)) (D.feq (S16_2 D a0 a1) (D.fmul (S17_0 D (S18_0 D a0)) (S18_0 D a1))) (D.bc false)) (D.fge (S16_0 D a0) (D.fc 0)) (D.bc false)) (D.fge (S16_1 D a0 a1) (D.fc 0)) (D.bc false)) (D.fge (S16_2 D a0 a1) (D.fc 0)) (D.bc false)) (D.fle (S16_0 D a0) (D.fc 4607182418800017408)) (D.bc false)) (D.fle (S16_1 D a0 a1) (D.fc 4607182418800017408)) (D.bc false)) (D.fle (S16_2 D a0 a1) (D.fc 4607182418800017408)) (D.bc false)) (S12_0 D (D.fadd (D.fadd (S16_0 D a0) (S16_1 D a0 a1)) (S16_2 D a0 a1)) (D.fc 4607182418800017408)) (D.bc false)) (D.feq (S19_0 D a0) (S20_0 D a0)) (D.bc false)) (D.fge (S19_0 D a0) (D.fc 13830554455654793216)) (D.bc false)) (D.fle (S19_0 D a0) (D.fc 4607182418800017408)) (D.bc false))
def O5 (D : Dom)  : D.B := (O11 D)
theorem ev5 (D : Dom) (a0 : D.F) (a1 : D.F) : joinT (evFn Try.prog (tbl_20 D) 60 5 [.fl a0, .fl a1]) = .val (some (O5 D)) (.sb (S5_0 D a0 a1)) := by kernel_rfl
def sp5 : Ev.Spec := fun D l => argF l fun a0 r0 => argF r0 fun a1 r1 => arg0 r1 (.node (O5 D) (.ret (.sb (S5_0 D a0 a1))) (.fail "pre"))
theorem en5 : ∀ l r, (sp5 R l).run = some r → Entry Try.prog 5 l r := by
  intro l r h
  obtain ⟨x0, _, h, L0⟩ := argF_inv h
  obtain ⟨x1, _, h, L1⟩ := argF_inv h
  obtain ⟨h, L2⟩ := arg0_inv h
  obtain ⟨hok, rfl⟩ := run_okay h
  exact (entry_of prg tok_20 (ev5 R x0 x1) (fun o ho => (Option.some.inj ho) ▸ hok) rfl).le (L0 _ (L1 _ L2))
def tl_5 : List (Nat × Ev.Spec) := (5, sp5) :: tl_20
def tbl_5 (D : Dom) : Tbl D := tblOf tl_5 D
theorem tok_5 : TblOK Try.prog (tbl_5 R) := TblOK.cons tok_20 en5

-- penumbra/warp.Ball
def S22_0 (D : Dom) (a0 : D.F) (a1 : D.F) : D.F := (S26_0 D a1 (S17_0 D (D.fmax (D.fc 0) (D.fsub (D.fc 4607182418800017408) (D.fmul (D.fsub (D.fc 4607182418800017408) (D.fmul (D.fc 4611686018427387904) (S25_0 D a0))) (D.fsub (D.fc 4607182418800017408) (D.fmul (D.fc 4611686018427387904) (S25_0 D a0))))))))
def S22_1 (D : Dom) (a0 : D.F) (a1 : D.F) : D.F := (S26_1 D a1 (S17_0 D (D.fmax (D.fc 0) (D.fsub (D.fc 4607182418800017408) (D.fmul (D.fsub (D.fc 4607182418800017408) (D.fmul (D.fc 4611686018427387904) (S25_0 D a0))) (D.fsub (D.fc 4607182418800017408) (D.fmul (D.fc 4611686018427387904) (S25_0 D a0))))))))
def S22_2 (D : Dom) (a0 : D.F) : D.F := (D.fsub (D.fc 4607182418800017408) (D.fmul (D.fc 4611686018427387904) (S25_0 D a0)))
def S22_3 (D : Dom) (a1 : D.F) : D.F := (D.fmul (S26_2 D a1) (D.fc 4602678819172646912))
def O22 (D : Dom) (a1 : D.F) : D.B := (O26 D a1)
theorem ev22 (D : Dom) (a0 : D.F) (a1 : D.F) : joinT (evFn Try.prog (tbl_5 D) 60 22 [.fl a0, .fl a1]) = .val (some (O22 D a1)) (.tup [.agg [.fl (S22_0 D a0 a1), .fl (S22_1 D a0 a1), .fl (S22_2 D a0)], .fl (S22_3 D a1)]) := by kernel_rfl
def sp22 : Ev.Spec := fun D l => argF l fun a0 r0 => argF r0 fun a1 r1 => arg0 r1 (.node (O22 D a1) (.ret (.tup [.agg [.fl (S22_0 D a0 a1), .fl (S22_1 D a0 a1), .fl (S22_2 D a0)], .fl (S22_3 D a1)])) (.fail "pre"))
theorem en22 : ∀ l r, (sp22 R l).run = some r → Entry Try.prog 22 l r := by
  intro l r h
  obtain ⟨x0, _, h, L0⟩ := argF_inv h
  obtain ⟨x1, _, h, L1⟩ := argF_inv h
  obtain ⟨h, L2⟩ := arg0_inv h
  obtain ⟨hok, rfl⟩ := run_okay h
  exact (entry_of prg tok_5 (ev22 R x0 x1) (fun o ho => (Option.some.inj ho) ▸ hok) rfl).le (L0 _ (L1 _ L2))
def tl_22 : List (Nat × Ev.Spec) := (22, sp22) :: tl_5
def tbl_22 (D : Dom) : Tbl D := tblOf tl_22 D
theorem tok_22 : TblOK Try.prog (tbl_22 R) := TblOK.cons tok_5 en22

-- penumbra/penumbraref09.Ball
def S23_0 (D : Dom) (a0 : D.F) (a1 : D.F) : D.F := (D.fmul (S8_0 D a1) (S17_0 D (D.fite (D.flt (D.fsub (D.fc 4607182418800017408) (D.fmul (D.fsub (D.fc 4607182418800017408) (D.fmul (D.fc 4611686018427387904) (S18_0 D a0))) (D.fsub (D.fc 4607182418800017408) (D.fmul (D.fc 4611686018427387904) (S18_0 D a0))))) (D.fc 0)) (D.fc 0) (D.fsub (D.fc 4607182418800017408) (D.fmul (D.fsub (D.fc 4607182418800017408) (D.fmul (D.fc 4611686018427387904) (S18_0 D a0))) (D.fsub (D.fc 4607182418800017408) (D.fmul (D.fc 4611686018427387904) (S18_0 D a0))))))))
def S23_1 (D : Dom) (a0 : D.F) (a1 : D.F) : D.F := (D.fmul (S8_1 D a1) (S17_0 D (D.fite (D.flt (D.fsub (D.fc 4607182418800017408) (D.fmul (D.fsub (D.fc 4607182418800017408) (D.fmul (D.fc 4611686018427387904) (S18_0 D a0))) (D.fsub (D.fc 4607182418800017408) (D.fmul (D.fc 4611686018427387904) (S18_0 D a0))))) (D.fc 0)) (D.fc 0) (D.fsub (D.fc 4607182418800017408) (D.fmul (D.fsub (D.fc 4607182418800017408) (D.fmul (D.fc 4611686018427387904) (S18_0 D a0))) (D.fsub (D.fc 4607182418800017408) (D.fmul (D.fc 4611686018427387904) (S18_0 D a0))))))))
def S23_2 (D : Dom) (a0 : D.F) : D.F := (D.fsub (D.fc 4607182418800017408) (D.fmul (D.fc 4611686018427387904) (S18_0 D a0)))
def S23_3 (D : Dom) (a1 : D.F) : D.F := (D.fmul (S8_2 D a1) (D.fc 4602678819172646912))
theorem ev23 (D : Dom) (a0 : D.F) (a1 : D.F) : joinT (evFn Try.prog (tbl_22 D) 60 23 [.fl a0, .fl a1]) = .val none (.tup [.agg [.fl (S23_0 D a0 a1), .fl (S23_1 D a0 a1), .fl (S23_2 D a0)], .fl (S23_3 D a1)]) := by kernel_rfl
def sp23 : Ev.Spec := fun D l => argF l fun a0 r0 => argF r0 fun a1 r1 => arg0 r1 (.ret (.tup [.agg [.fl (S23_0 D a0 a1), .fl (S23_1 D a0 a1), .fl (S23_2 D a0)], .fl (S23_3 D a1)]))
theorem en23 : ∀ l r, (sp23 R l).run = some r → Entry Try.prog 23 l r := by
  intro l r h
  obtain ⟨x0, _, h, L0⟩ := argF_inv h
  obtain ⟨x1, _, h, L1⟩ := argF_inv h
  obtain ⟨h, L2⟩ := arg0_inv h
  cases h
  exact (entry_of prg tok_22 (ev23 R x0 x1) (fun o ho => nomatch ho) rfl).le (L0 _ (L1 _ L2))
def tl_23 : List (Nat × Ev.Spec) := (23, sp23) :: tl_22
def tbl_23 (D : Dom) : Tbl D := tblOf tl_23 D
theorem tok_23 : TblOK Try.prog (tbl_23 R) := TblOK.cons tok_22 en23

-- penumbra/penumbraref02.Dot
def S24_0 (D : Dom) (a0 : D.F) (a1 : D.F) (a2 : D.F) (a3 : D.F) (a4 : D.F) (a5 : D.F) : D.F := (D.fadd (D.fadd (D.fmul a0 a3) (D.fmul a1 a4)) (D.fmul a2 a5))
theorem ev24 (D : Dom) (a0 : D.F) (a1 : D.F) (a2 : D.F) (a3 : D.F) (a4 : D.F) (a5 : D.F) : joinT (evFn Try.prog (tbl_23 D) 60 24 [.agg [.fl a0, .fl a1, .fl a2], .agg [.fl a3, .fl a4, .fl a5]]) = .val none (.fl (S24_0 D a0 a1 a2 a3 a4 a5)) := by kernel_rfl
def sp24 : Ev.Spec := fun D l => argA l fun c0 r0 => argF c0 fun a0 r1 => argF r1 fun a1 r2 => argF r2 fun a2 r3 => arg0 r3 (argA r0 fun c100 r100 => argF c100 fun a3 r101 => argF r101 fun a4 r102 => argF r102 fun a5 r103 => arg0 r103 (arg0 r100 (.ret (.fl (S24_0 D a0 a1 a2 a3 a4 a5)))))
theorem en24 : ∀ l r, (sp24 R l).run = some r → Entry Try.prog 24 l r := by
  intro l r h
  obtain ⟨_, _, h, L0⟩ := argA_inv h
  obtain ⟨x1, _, h, L1⟩ := argF_inv h
  obtain ⟨x2, _, h, L2⟩ := argF_inv h
  obtain ⟨x3, _, h, L3⟩ := argF_inv h
  obtain ⟨h, L4⟩ := arg0_inv h
  obtain ⟨_, _, h, L5⟩ := argA_inv h
  obtain ⟨x6, _, h, L6⟩ := argF_inv h
  obtain ⟨x7, _, h, L7⟩ := argF_inv h
  obtain ⟨x8, _, h, L8⟩ := argF_inv h
  obtain ⟨h, L9⟩ := arg0_inv h
  obtain ⟨h, L10⟩ := arg0_inv h
  cases h
  exact (entry_of prg tok_23 (ev24 R x1 x2 x3 x6 x7 x8) (fun o ho => nomatch ho) rfl).le (L0 _ _ (L1 _ (L2 _ (L3 _ L4))) (L5 _ _ (L6 _ (L7 _ (L8 _ L9))) L10))
def tl_24 : List (Nat × Ev.Spec) := (24, sp24) :: tl_23
def tbl_24 (D : Dom) : Tbl D := tblOf tl_24 D
theorem tok_24 : TblOK Try.prog (tbl_24 R) := TblOK.cons tok_23 en24

-- penumbra/penumbralaw09.WarpSpace
def S6_0 (D : Dom) (a0 : D.F) (a1 : D.F) : D.B := (D.bite (D.bite (D.bite (D.bnot (D.band (D.feq (S21_0 D a0 a1) (S10_0 D a0 a1)) (D.band (D.feq (S21_1 D a0 a1) (S10_1 D a0 a1)) (D.band (D.feq (S21_2 D a0) (S17_0 D (D.fsub (D.fc 4607182418800017408) (S18_0 D a0)))) (D.bc true))))) (D.bc true) (D.bnot (D.feq (S21_3 D a0 a1) (D.fmul (S10_2 D a1) (S17_0 D (D.fsub (D.fc 4607182418800017408) (S18_0 D a0))))))) (D.bc true) (D.flt (S21_2 D a0) (D.fc 0))) (D.bc false) (D.bite (D.bite (D.bite (D.bite (S11_0 D) (D.band (D.feq (S22_0 D a0 a1) (S23_0 D a0 a1)) (D.band (D.feq (S22_1 D a0 a1) (S23_1 D a0 a1)) (D.band (D.feq (S22_2 D a0) (S23_2 D a0)) (D.bc true)))) (D.bc false)) (D.feq (S22_3 D a1) (S23_3 D a1)) (D.bc false)) (S12_0 D (S24_0 D (S21_0 D a0 a1) (S21_1 D a0 a1) (S21_2 D a0) (S21_0 D a0 a1) (S21_1 D a0 a1) (S21_2 D a0)) (D.fc 4607182418800017408)) (D.bc false)) (S12_0 D (S24_0 D (S22_0 D a0 a1) (S22_1 D a0 a1) (S22_2 D a0) (S22_0 D a0 a1) (S22_1 D a0 a1) (S22_2 D a0)) (D.fc 4607182418800017408)) (D.bc false)))
def O6 (D : Dom) (a0 : D.F) (a1 : D.F) : D.B := (D.band (O21 D a1) (D.bite (D.bite (D.bite (D.bnot (D.band (D.feq (S21_0 D a0 a1) (S10_0 D a0 a1)) (D.band (D.feq (S21_1 D a0 a1) (S10_1 D a0 a1)) (D.band (D.feq (S21_2 D a0) (S17_0 D (D.fsub (D.fc 4607182418800017408) (S18_0 D a0)))) (D.bc true))))) (D.bc true) (D.bnot (D.feq (S21_3 D a0 a1) (D.fmul (S10_2 D a1) (S17_0 D (D.fsub (D.fc 4607182418800017408) (S18_0 D a0))))))) (D.bc true) (D.flt (S21_2 D a0) (D.fc 0))) (D.bc true) (D.band (O22 D a1) (O11 D))))
theorem ev6 (D : Dom) (a0 : D.F) (a1 : D.F) : joinT (evFn Try.prog (tbl_24 D) 60 6 [.fl a0, .fl a1]) = .val (some (O6 D a0 a1)) (.sb (S6_0 D a0 a1)) := by kernel_rfl
def sp6 : Ev.Spec := fun D l => argF l fun a0 r0 => argF r0 fun a1 r1 => arg0 r1 (.node (O6 D a0 a1) (.ret (.sb (S6_0 D a0 a1))) (.fail "pre"))
theorem en6 : ∀ l r, (sp6 R l).run = some r → Entry Try.prog 6 l r := by
  intro l r h
  obtain ⟨x0, _, h, L0⟩ := argF_inv h
  obtain ⟨x1, _, h, L1⟩ := argF_inv h
  obtain ⟨h, L2⟩ := arg0_inv h
  obtain ⟨hok, rfl⟩ := run_okay h
  exact (entry_of prg tok_24 (ev6 R x0 x1) (fun o ho => (Option.some.inj ho) ▸ hok) rfl).le (L0 _ (L1 _ L2))
def tl_6 : List (Nat × Ev.Spec) := (6, sp6) :: tl_24
def tbl_6 (D : Dom) : Tbl D := tblOf tl_6 D
theorem tok_6 : TblOK Try.prog (tbl_6 R) := TblOK.cons tok_24 en6

end Go.Proofs.Ytmdfomhclkbkpaa
