/- The functions of this seat, each with what it comes to, by the evaluator. PRINTED BY A PROGRAM OF THIS PROJECT (wip/ev2/Gen.lean). -/
import Derived.Test.YtjmanmdkdgnfmaaEv4
import Derived.Test.YtjmanmdkdgnfmaaChecked
namespace Go.Proofs.Ytjmanmdkdgnfmaa
open Go.Ev
set_option maxRecDepth 100000

theorem prg : Ev.Prog Try.prog := ⟨by kernel_rfl, by kernel_rfl⟩
def sp58 : Ev.Spec := fun D l => argF l fun a r => arg0 r (.ret (.fl (D.fsqrt a)))
theorem en58 : ∀ l r, (sp58 R l).run = some r → Entry Try.prog 58 l r := by
  intro l r h
  obtain ⟨x0, _, h, L0⟩ := argF_inv h
  obtain ⟨h, L1⟩ := arg0_inv h
  cases h
  exact (entry_sqrt (fn := Try.f58) (by kernel_rfl) (by kernel_rfl) (by kernel_rfl) (by kernel_rfl) (by kernel_rfl) x0).le (L0 _ L1)
def tl_0 : List (Nat × Ev.Spec) := ((58, sp58) :: [])
def tbl_0 (D : Dom) : Tbl D := tblOf tl_0 D
theorem tok_0 : TblOK Try.prog (tbl_0 R) := (TblOK.cons (TblOK.nil _) en58)
def ll_0 (D : Dom) : List (LE D) := []
def lt_0 (D : Dom) : LTb D := ltOf (ll_0 D)
theorem hok_0 : HooksOK Try.prog (lt_0 R) := HooksOK.nil _

-- penumbra/vec.Number
def S46_0 (D : Dom) (a0 : D.F) : D.B := (D.bite (D.fge a0 (D.fc 18442240474082181119)) (D.fle a0 (D.fc 9218868437227405311)) (D.bc false))
theorem ev46 (D : Dom) (a0 : D.F) : joinT (evFnH Try.prog (tbl_0 D) (lt_0 D) 80 46 [.fl a0] [] 0) = .val none (.sb (S46_0 D a0)) := by kernel_rfl
def sp46 : Ev.Spec := fun D l => argF l fun a0 r0 => arg0 r0 (.ret (.sb (S46_0 D a0)))
theorem en46 : ∀ l r, (sp46 R l).run = some r → Entry Try.prog 46 l r := by
  intro l r h
  obtain ⟨x0, _, h, L0⟩ := argF_inv h
  obtain ⟨h, L1⟩ := arg0_inv h
  cases h
  exact (entry_loops prg tok_0 hok_0 (ev46 R x0) (fun o ho => nomatch ho) rfl).le (L0 _ L1)
def tl_46 : List (Nat × Ev.Spec) := (46, sp46) :: tl_0
def tbl_46 (D : Dom) : Tbl D := tblOf tl_46 D
theorem tok_46 : TblOK Try.prog (tbl_46 R) := TblOK.cons tok_0 en46

-- penumbra/rgb.Good$1
def S45_0 (D : Dom) (a0 : D.F) : D.B := (D.bite (D.fge a0 (D.fc 0)) (S46_0 D a0) (D.bc false))
theorem ev45 (D : Dom) (a0 : D.F) : joinT (evFnH Try.prog (tbl_46 D) (lt_0 D) 80 45 [.fl a0] [] 0) = .val none (.sb (S45_0 D a0)) := by kernel_rfl
def sp45 : Ev.Spec := fun D l => argF l fun a0 r0 => arg0 r0 (.ret (.sb (S45_0 D a0)))
theorem en45 : ∀ l r, (sp45 R l).run = some r → Entry Try.prog 45 l r := by
  intro l r h
  obtain ⟨x0, _, h, L0⟩ := argF_inv h
  obtain ⟨h, L1⟩ := arg0_inv h
  cases h
  exact (entry_loops prg tok_46 hok_0 (ev45 R x0) (fun o ho => nomatch ho) rfl).le (L0 _ L1)
def tl_45 : List (Nat × Ev.Spec) := (45, sp45) :: tl_46
def tbl_45 (D : Dom) : Tbl D := tblOf tl_45 D
theorem tok_45 : TblOK Try.prog (tbl_45 R) := TblOK.cons tok_46 en45

-- penumbra/rgb.Good
def S25_0 (D : Dom) (a0 : D.F) (a1 : D.F) (a2 : D.F) : D.B := (D.bite (D.bite (S45_0 D a0) (S45_0 D a1) (D.bc false)) (S45_0 D a2) (D.bc false))
theorem ev25 (D : Dom) (a0 : D.F) (a1 : D.F) (a2 : D.F) : joinT (evFnH Try.prog (tbl_45 D) (lt_0 D) 80 25 [.agg [.fl a0, .fl a1, .fl a2]] [] 0) = .val none (.sb (S25_0 D a0 a1 a2)) := by kernel_rfl
def sp25 : Ev.Spec := fun D l => argA l fun c0 r0 => argF c0 fun a0 r1 => argF r1 fun a1 r2 => argF r2 fun a2 r3 => arg0 r3 (arg0 r0 (.ret (.sb (S25_0 D a0 a1 a2))))
theorem en25 : ∀ l r, (sp25 R l).run = some r → Entry Try.prog 25 l r := by
  intro l r h
  obtain ⟨_, _, h, L0⟩ := argA_inv h
  obtain ⟨x1, _, h, L1⟩ := argF_inv h
  obtain ⟨x2, _, h, L2⟩ := argF_inv h
  obtain ⟨x3, _, h, L3⟩ := argF_inv h
  obtain ⟨h, L4⟩ := arg0_inv h
  obtain ⟨h, L5⟩ := arg0_inv h
  cases h
  exact (entry_loops prg tok_45 hok_0 (ev25 R x1 x2 x3) (fun o ho => nomatch ho) rfl).le (L0 _ _ (L1 _ (L2 _ (L3 _ L4))) L5)
def tl_25 : List (Nat × Ev.Spec) := (25, sp25) :: tl_45
def tbl_25 (D : Dom) : Tbl D := tblOf tl_25 D
theorem tok_25 : TblOK Try.prog (tbl_25 R) := TblOK.cons tok_45 en25

-- penumbra/rgb.Black
def S47_0 (D : Dom) (a0 : D.F) (a1 : D.F) (a2 : D.F) : D.B := (D.band (D.feq a0 (D.fc 0)) (D.band (D.feq a1 (D.fc 0)) (D.band (D.feq a2 (D.fc 0)) (D.bc true))))
theorem ev47 (D : Dom) (a0 : D.F) (a1 : D.F) (a2 : D.F) : joinT (evFnH Try.prog (tbl_25 D) (lt_0 D) 80 47 [.agg [.fl a0, .fl a1, .fl a2]] [] 0) = .val none (.sb (S47_0 D a0 a1 a2)) := by kernel_rfl
def sp47 : Ev.Spec := fun D l => argA l fun c0 r0 => argF c0 fun a0 r1 => argF r1 fun a1 r2 => argF r2 fun a2 r3 => arg0 r3 (arg0 r0 (.ret (.sb (S47_0 D a0 a1 a2))))
theorem en47 : ∀ l r, (sp47 R l).run = some r → Entry Try.prog 47 l r := by
  intro l r h
  obtain ⟨_, _, h, L0⟩ := argA_inv h
  obtain ⟨x1, _, h, L1⟩ := argF_inv h
  obtain ⟨x2, _, h, L2⟩ := argF_inv h
  obtain ⟨x3, _, h, L3⟩ := argF_inv h
  obtain ⟨h, L4⟩ := arg0_inv h
  obtain ⟨h, L5⟩ := arg0_inv h
  cases h
  exact (entry_loops prg tok_25 hok_0 (ev47 R x1 x2 x3) (fun o ho => nomatch ho) rfl).le (L0 _ _ (L1 _ (L2 _ (L3 _ L4))) L5)
def tl_47 : List (Nat × Ev.Spec) := (47, sp47) :: tl_25
def tbl_47 (D : Dom) : Tbl D := tblOf tl_47 D
theorem tok_47 : TblOK Try.prog (tbl_47 R) := TblOK.cons tok_25 en47

-- penumbra/rgb.Mean
def S48_0 (D : Dom) (a0 : D.F) (a1 : D.F) (a2 : D.F) : D.F := (D.fdiv (D.fadd (D.fadd a0 a1) a2) (D.fc 4613937818241073152))
theorem ev48 (D : Dom) (a0 : D.F) (a1 : D.F) (a2 : D.F) : joinT (evFnH Try.prog (tbl_47 D) (lt_0 D) 80 48 [.agg [.fl a0, .fl a1, .fl a2]] [] 0) = .val none (.fl (S48_0 D a0 a1 a2)) := by kernel_rfl
def sp48 : Ev.Spec := fun D l => argA l fun c0 r0 => argF c0 fun a0 r1 => argF r1 fun a1 r2 => argF r2 fun a2 r3 => arg0 r3 (arg0 r0 (.ret (.fl (S48_0 D a0 a1 a2))))
theorem en48 : ∀ l r, (sp48 R l).run = some r → Entry Try.prog 48 l r := by
  intro l r h
  obtain ⟨_, _, h, L0⟩ := argA_inv h
  obtain ⟨x1, _, h, L1⟩ := argF_inv h
  obtain ⟨x2, _, h, L2⟩ := argF_inv h
  obtain ⟨x3, _, h, L3⟩ := argF_inv h
  obtain ⟨h, L4⟩ := arg0_inv h
  obtain ⟨h, L5⟩ := arg0_inv h
  cases h
  exact (entry_loops prg tok_47 hok_0 (ev48 R x1 x2 x3) (fun o ho => nomatch ho) rfl).le (L0 _ _ (L1 _ (L2 _ (L3 _ L4))) L5)
def tl_48 : List (Nat × Ev.Spec) := (48, sp48) :: tl_47
def tbl_48 (D : Dom) : Tbl D := tblOf tl_48 D
theorem tok_48 : TblOK Try.prog (tbl_48 R) := TblOK.cons tok_47 en48

-- penumbra/rgb.Weight
def S26_0 (D : Dom) (a0 : D.F) (a1 : D.F) (a2 : D.F) : D.Z := (D.zite (D.bite (D.bnot (S25_0 D a0 a1 a2)) (D.bc true) (S47_0 D a0 a1 a2)) (D.zc 0) (D.zite (D.fge (D.fmul (S48_0 D a0 a1 a2) (D.fc 4625196817309499392)) (D.fc 4697254411347427328)) (D.zc 1048576) (D.zmax (D.f2i .i64 (D.fmul (S48_0 D a0 a1 a2) (D.fc 4625196817309499392))) (D.zc 1))))
def O26 (D : Dom) (a0 : D.F) (a1 : D.F) (a2 : D.F) : D.B := (D.bite (D.bite (D.bnot (S25_0 D a0 a1 a2)) (D.bc true) (S47_0 D a0 a1 a2)) (D.bc true) (D.bite (D.fge (D.fmul (S48_0 D a0 a1 a2) (D.fc 4625196817309499392)) (D.fc 4697254411347427328)) (D.bc true) (D.f2iok .i64 (D.fmul (S48_0 D a0 a1 a2) (D.fc 4625196817309499392)))))
theorem ev26 (D : Dom) (a0 : D.F) (a1 : D.F) (a2 : D.F) : joinT (evFnH Try.prog (tbl_48 D) (lt_0 D) 80 26 [.agg [.fl a0, .fl a1, .fl a2]] [] 0) = .val (some (O26 D a0 a1 a2)) (.si .i64 (S26_0 D a0 a1 a2)) := by kernel_rfl
def sp26 : Ev.Spec := fun D l => argA l fun c0 r0 => argF c0 fun a0 r1 => argF r1 fun a1 r2 => argF r2 fun a2 r3 => arg0 r3 (arg0 r0 (.node (O26 D a0 a1 a2) (.ret (.si .i64 (S26_0 D a0 a1 a2))) (.fail "pre")))
theorem en26 : ∀ l r, (sp26 R l).run = some r → Entry Try.prog 26 l r := by
  intro l r h
  obtain ⟨_, _, h, L0⟩ := argA_inv h
  obtain ⟨x1, _, h, L1⟩ := argF_inv h
  obtain ⟨x2, _, h, L2⟩ := argF_inv h
  obtain ⟨x3, _, h, L3⟩ := argF_inv h
  obtain ⟨h, L4⟩ := arg0_inv h
  obtain ⟨h, L5⟩ := arg0_inv h
  obtain ⟨hok, rfl⟩ := run_okay h
  exact (entry_loops prg tok_48 hok_0 (ev26 R x1 x2 x3) (fun o ho => (Option.some.inj ho) ▸ hok) rfl).le (L0 _ _ (L1 _ (L2 _ (L3 _ L4))) L5)
def tl_26 : List (Nat × Ev.Spec) := (26, sp26) :: tl_48
def tbl_26 (D : Dom) : Tbl D := tblOf tl_26 D
theorem tok_26 : TblOK Try.prog (tbl_26 R) := TblOK.cons tok_48 en26

-- penumbra/tape.Clean
def S38_0 (D : Dom) (a0 : D.F) : D.F := (D.fite (D.bite (D.fge a0 (D.fc 0)) (D.flt a0 (D.fc 4607182418800017408)) (D.bc false)) a0 (D.fc 0))
theorem ev38 (D : Dom) (a0 : D.F) : joinT (evFnH Try.prog (tbl_26 D) (lt_0 D) 80 38 [.fl a0] [] 0) = .val none (.fl (S38_0 D a0)) := by kernel_rfl
def sp38 : Ev.Spec := fun D l => argF l fun a0 r0 => arg0 r0 (.ret (.fl (S38_0 D a0)))
theorem en38 : ∀ l r, (sp38 R l).run = some r → Entry Try.prog 38 l r := by
  intro l r h
  obtain ⟨x0, _, h, L0⟩ := argF_inv h
  obtain ⟨h, L1⟩ := arg0_inv h
  cases h
  exact (entry_loops prg tok_26 hok_0 (ev38 R x0) (fun o ho => nomatch ho) rfl).le (L0 _ L1)
def tl_38 : List (Nat × Ev.Spec) := (38, sp38) :: tl_26
def tbl_38 (D : Dom) : Tbl D := tblOf tl_38 D
theorem tok_38 : TblOK Try.prog (tbl_38 R) := TblOK.cons tok_26 en38

-- math.Sqrt
def S39_0 (D : Dom) (a0 : D.F) : D.F := (D.fsqrt a0)
theorem ev39 (D : Dom) (a0 : D.F) : joinT (evFnH Try.prog (tbl_38 D) (lt_0 D) 80 39 [.fl a0] [] 0) = .val none (.fl (S39_0 D a0)) := by kernel_rfl
def sp39 : Ev.Spec := fun D l => argF l fun a0 r0 => arg0 r0 (.ret (.fl (S39_0 D a0)))
theorem en39 : ∀ l r, (sp39 R l).run = some r → Entry Try.prog 39 l r := by
  intro l r h
  obtain ⟨x0, _, h, L0⟩ := argF_inv h
  obtain ⟨h, L1⟩ := arg0_inv h
  cases h
  exact (entry_loops prg tok_38 hok_0 (ev39 R x0) (fun o ho => nomatch ho) rfl).le (L0 _ L1)
def tl_39 : List (Nat × Ev.Spec) := (39, sp39) :: tl_38
def tbl_39 (D : Dom) : Tbl D := tblOf tl_39 D
theorem tok_39 : TblOK Try.prog (tbl_39 R) := TblOK.cons tok_38 en39

-- penumbra/warp.Sector
def WS41_0_0 (D : Dom) (a0 : D.F) : D.F := (D.fmul (S38_0 D a0) (D.fc 4620693217682128896))
def WS41_0_1 (D : Dom) (a0 : D.F) : D.Z := (D.zrem .i64 (D.f2i .i64 (WS41_0_0 D a0)) (D.zc 8))
def WS41_0_2 (D : Dom) (a0 : D.F) : D.F := (D.fsub (WS41_0_0 D a0) (D.i2f (D.f2i .i64 (WS41_0_0 D a0))))
def WS41_0_3 (D : Dom) (a0 : D.F) : D.F := (S39_0 D (D.fadd (D.fc 4607182418800017408) (D.fmul (WS41_0_2 D a0) (WS41_0_2 D a0))))
def WS41_0_4 (D : Dom) (a0 : D.F) : D.F := (D.fdiv (D.fc 4607182418800017408) (WS41_0_3 D a0))
def WS41_0_5 (D : Dom) (a0 : D.F) : D.F := (D.fsub (D.fc 0) (D.fdiv (WS41_0_2 D a0) (WS41_0_3 D a0)))
def S41_0 (D : Dom) (a0 : D.F) : D.F := (D.fite (D.zeq (WS41_0_1 D a0) (D.zc 0)) (WS41_0_4 D a0) (D.fite (D.zeq (WS41_0_1 D a0) (D.zc 1)) (D.fdiv (WS41_0_2 D a0) (WS41_0_3 D a0)) (D.fite (D.zeq (WS41_0_1 D a0) (D.zc 2)) (WS41_0_5 D a0) (D.fite (D.zeq (WS41_0_1 D a0) (D.zc 3)) (D.fsub (D.fc 0) (WS41_0_4 D a0)) (D.fite (D.zeq (WS41_0_1 D a0) (D.zc 4)) (D.fsub (D.fc 0) (WS41_0_4 D a0)) (D.fite (D.zeq (WS41_0_1 D a0) (D.zc 5)) (WS41_0_5 D a0) (D.fite (D.zeq (WS41_0_1 D a0) (D.zc 6)) (D.fdiv (WS41_0_2 D a0) (WS41_0_3 D a0)) (WS41_0_4 D a0))))))))
def WS41_1_0 (D : Dom) (a0 : D.F) : D.F := (D.fmul (S38_0 D a0) (D.fc 4620693217682128896))
def WS41_1_1 (D : Dom) (a0 : D.F) : D.Z := (D.zrem .i64 (D.f2i .i64 (WS41_1_0 D a0)) (D.zc 8))
def WS41_1_2 (D : Dom) (a0 : D.F) : D.F := (D.fsub (WS41_1_0 D a0) (D.i2f (D.f2i .i64 (WS41_1_0 D a0))))
def WS41_1_3 (D : Dom) (a0 : D.F) : D.F := (S39_0 D (D.fadd (D.fc 4607182418800017408) (D.fmul (WS41_1_2 D a0) (WS41_1_2 D a0))))
def WS41_1_4 (D : Dom) (a0 : D.F) : D.F := (D.fdiv (D.fc 4607182418800017408) (WS41_1_3 D a0))
def WS41_1_5 (D : Dom) (a0 : D.F) : D.F := (D.fsub (D.fc 0) (D.fdiv (WS41_1_2 D a0) (WS41_1_3 D a0)))
def S41_1 (D : Dom) (a0 : D.F) : D.F := (D.fite (D.zeq (WS41_1_1 D a0) (D.zc 0)) (D.fdiv (WS41_1_2 D a0) (WS41_1_3 D a0)) (D.fite (D.zeq (WS41_1_1 D a0) (D.zc 1)) (WS41_1_4 D a0) (D.fite (D.zeq (WS41_1_1 D a0) (D.zc 2)) (WS41_1_4 D a0) (D.fite (D.zeq (WS41_1_1 D a0) (D.zc 3)) (D.fdiv (WS41_1_2 D a0) (WS41_1_3 D a0)) (D.fite (D.zeq (WS41_1_1 D a0) (D.zc 4)) (WS41_1_5 D a0) (D.fite (D.zeq (WS41_1_1 D a0) (D.zc 5)) (D.fsub (D.fc 0) (WS41_1_4 D a0)) (D.fite (D.zeq (WS41_1_1 D a0) (D.zc 6)) (D.fsub (D.fc 0) (WS41_1_4 D a0)) (WS41_1_5 D a0))))))))
def S41_2 (D : Dom) (a0 : D.F) : D.F := (D.fmul (D.fadd (D.fc 4607182418800017408) (D.fmul (D.fsub (D.fmul (S38_0 D a0) (D.fc 4620693217682128896)) (D.i2f (D.f2i .i64 (D.fmul (S38_0 D a0) (D.fc 4620693217682128896))))) (D.fsub (D.fmul (S38_0 D a0) (D.fc 4620693217682128896)) (D.i2f (D.f2i .i64 (D.fmul (S38_0 D a0) (D.fc 4620693217682128896))))))) (D.fc 4593671619917905920))
def O41 (D : Dom) (a0 : D.F) : D.B := (D.band (D.f2iok .i64 (D.fmul (S38_0 D a0) (D.fc 4620693217682128896))) (D.band (D.bnot (D.zeq (D.zc 8) (D.zc 0))) (D.bite (D.zeq (D.zrem .i64 (D.f2i .i64 (D.fmul (S38_0 D a0) (D.fc 4620693217682128896))) (D.zc 8)) (D.zc 0)) (D.bc true) (D.bite (D.zeq (D.zrem .i64 (D.f2i .i64 (D.fmul (S38_0 D a0) (D.fc 4620693217682128896))) (D.zc 8)) (D.zc 1)) (D.bc true) (D.bite (D.zeq (D.zrem .i64 (D.f2i .i64 (D.fmul (S38_0 D a0) (D.fc 4620693217682128896))) (D.zc 8)) (D.zc 2)) (D.bc true) (D.bite (D.zeq (D.zrem .i64 (D.f2i .i64 (D.fmul (S38_0 D a0) (D.fc 4620693217682128896))) (D.zc 8)) (D.zc 3)) (D.bc true) (D.bite (D.zeq (D.zrem .i64 (D.f2i .i64 (D.fmul (S38_0 D a0) (D.fc 4620693217682128896))) (D.zc 8)) (D.zc 4)) (D.bc true) (D.bite (D.zeq (D.zrem .i64 (D.f2i .i64 (D.fmul (S38_0 D a0) (D.fc 4620693217682128896))) (D.zc 8)) (D.zc 5)) (D.bc true) (D.bite (D.zeq (D.zrem .i64 (D.f2i .i64 (D.fmul (S38_0 D a0) (D.fc 4620693217682128896))) (D.zc 8)) (D.zc 6)) (D.bc true) (D.zeq (D.zrem .i64 (D.f2i .i64 (D.fmul (S38_0 D a0) (D.fc 4620693217682128896))) (D.zc 8)) (D.zc 7)))))))))))
theorem ev41 (D : Dom) (a0 : D.F) : joinT (evFnH Try.prog (tbl_39 D) (lt_0 D) 80 41 [.fl a0] [] 0) = .val (some (O41 D a0)) (.tup [.fl (S41_0 D a0), .fl (S41_1 D a0), .fl (S41_2 D a0)]) := by kernel_rfl
def sp41 : Ev.Spec := fun D l => argF l fun a0 r0 => arg0 r0 (.node (O41 D a0) (.ret (.tup [.fl (S41_0 D a0), .fl (S41_1 D a0), .fl (S41_2 D a0)])) (.fail "pre"))
theorem en41 : ∀ l r, (sp41 R l).run = some r → Entry Try.prog 41 l r := by
  intro l r h
  obtain ⟨x0, _, h, L0⟩ := argF_inv h
  obtain ⟨h, L1⟩ := arg0_inv h
  obtain ⟨hok, rfl⟩ := run_okay h
  exact (entry_loops prg tok_39 hok_0 (ev41 R x0) (fun o ho => (Option.some.inj ho) ▸ hok) rfl).le (L0 _ L1)
def tl_41 : List (Nat × Ev.Spec) := (41, sp41) :: tl_39
def tbl_41 (D : Dom) : Tbl D := tblOf tl_41 D
theorem tok_41 : TblOK Try.prog (tbl_41 R) := TblOK.cons tok_39 en41

-- penumbra/vec.Finite
def S33_0 (D : Dom) (a0 : D.F) (a1 : D.F) (a2 : D.F) : D.B := (D.bite (D.bite (S46_0 D a0) (S46_0 D a1) (D.bc false)) (S46_0 D a2) (D.bc false))
theorem ev33 (D : Dom) (a0 : D.F) (a1 : D.F) (a2 : D.F) : joinT (evFnH Try.prog (tbl_41 D) (lt_0 D) 80 33 [.agg [.fl a0, .fl a1, .fl a2]] [] 0) = .val none (.sb (S33_0 D a0 a1 a2)) := by kernel_rfl
def sp33 : Ev.Spec := fun D l => argA l fun c0 r0 => argF c0 fun a0 r1 => argF r1 fun a1 r2 => argF r2 fun a2 r3 => arg0 r3 (arg0 r0 (.ret (.sb (S33_0 D a0 a1 a2))))
theorem en33 : ∀ l r, (sp33 R l).run = some r → Entry Try.prog 33 l r := by
  intro l r h
  obtain ⟨_, _, h, L0⟩ := argA_inv h
  obtain ⟨x1, _, h, L1⟩ := argF_inv h
  obtain ⟨x2, _, h, L2⟩ := argF_inv h
  obtain ⟨x3, _, h, L3⟩ := argF_inv h
  obtain ⟨h, L4⟩ := arg0_inv h
  obtain ⟨h, L5⟩ := arg0_inv h
  cases h
  exact (entry_loops prg tok_41 hok_0 (ev33 R x1 x2 x3) (fun o ho => nomatch ho) rfl).le (L0 _ _ (L1 _ (L2 _ (L3 _ L4))) L5)
def tl_33 : List (Nat × Ev.Spec) := (33, sp33) :: tl_41
def tbl_33 (D : Dom) : Tbl D := tblOf tl_33 D
theorem tok_33 : TblOK Try.prog (tbl_33 R) := TblOK.cons tok_41 en33

-- penumbra/warp.size
def S54_0 (D : Dom) (a0 : D.F) : D.F := (D.fite (D.flt a0 (D.fc 0)) (D.fsub (D.fc 0) a0) a0)
theorem ev54 (D : Dom) (a0 : D.F) : joinT (evFnH Try.prog (tbl_33 D) (lt_0 D) 80 54 [.fl a0] [] 0) = .val none (.fl (S54_0 D a0)) := by kernel_rfl
def sp54 : Ev.Spec := fun D l => argF l fun a0 r0 => arg0 r0 (.ret (.fl (S54_0 D a0)))
theorem en54 : ∀ l r, (sp54 R l).run = some r → Entry Try.prog 54 l r := by
  intro l r h
  obtain ⟨x0, _, h, L0⟩ := argF_inv h
  obtain ⟨h, L1⟩ := arg0_inv h
  cases h
  exact (entry_loops prg tok_33 hok_0 (ev54 R x0) (fun o ho => nomatch ho) rfl).le (L0 _ L1)
def tl_54 : List (Nat × Ev.Spec) := (54, sp54) :: tl_33
def tbl_54 (D : Dom) : Tbl D := tblOf tl_54 D
theorem tok_54 : TblOK Try.prog (tbl_54 R) := TblOK.cons tok_33 en54

-- penumbra/warp.Angle
def WS35_0_0 (D : Dom) (a0 : D.F) (a1 : D.F) : D.B := (D.bnot (D.fge (S54_0 D a0) (S54_0 D a1)))
def WS35_0_1 (D : Dom) (a0 : D.F) (a1 : D.F) : D.F := (D.fite (WS35_0_0 D a0 a1) (S54_0 D a1) (S54_0 D a0))
def WS35_0_2 (D : Dom) (a0 : D.F) (a1 : D.F) : D.B := (D.bite (D.fge a0 (D.fc 0)) (D.fge a1 (D.fc 0)) (D.bc false))
def WS35_0_3 (D : Dom) (a0 : D.F) (a1 : D.F) : D.B := (D.bite (D.flt a0 (D.fc 0)) (D.fge a1 (D.fc 0)) (D.bc false))
def WS35_0_4 (D : Dom) (a0 : D.F) (a1 : D.F) : D.B := (D.bite (D.flt a0 (D.fc 0)) (D.flt a1 (D.fc 0)) (D.bc false))
def WS35_0_5 (D : Dom) (a0 : D.F) (a1 : D.F) : D.Z := (D.zite (D.bite (WS35_0_2 D a0 a1) (D.fge (S54_0 D a0) (S54_0 D a1)) (D.bc false)) (D.zc 0) (D.zite (D.bite (WS35_0_2 D a0 a1) (D.flt (S54_0 D a0) (S54_0 D a1)) (D.bc false)) (D.zc 1) (D.zite (D.bite (WS35_0_3 D a0 a1) (D.flt (S54_0 D a0) (S54_0 D a1)) (D.bc false)) (D.zc 2) (D.zite (D.bite (WS35_0_3 D a0 a1) (D.fge (S54_0 D a0) (S54_0 D a1)) (D.bc false)) (D.zc 3) (D.zite (D.bite (WS35_0_4 D a0 a1) (D.fge (S54_0 D a0) (S54_0 D a1)) (D.bc false)) (D.zc 4) (D.zite (D.bite (WS35_0_4 D a0 a1) (D.flt (S54_0 D a0) (S54_0 D a1)) (D.bc false)) (D.zc 5) (D.zite (D.bite (D.bite (D.fge a0 (D.fc 0)) (D.flt a1 (D.fc 0)) (D.bc false)) (D.flt (S54_0 D a0) (S54_0 D a1)) (D.bc false)) (D.zc 6) (D.zc 7))))))))
def S35_0 (D : Dom) (a0 : D.F) (a1 : D.F) : D.Z := (D.zite (D.bite (D.feq (WS35_0_1 D a0 a1) (D.fc 0)) (D.bc true) (D.bnot (S33_0 D (WS35_0_1 D a0 a1) (D.fite (WS35_0_0 D a0 a1) (S54_0 D a0) (S54_0 D a1)) (D.fc 0)))) (WS35_0_5 D a0 a1) (WS35_0_5 D a0 a1))
def S35_1 (D : Dom) (a0 : D.F) (a1 : D.F) : D.F := (D.fite (D.bite (D.feq (D.fite (D.bnot (D.fge (S54_0 D a0) (S54_0 D a1))) (S54_0 D a1) (S54_0 D a0)) (D.fc 0)) (D.bc true) (D.bnot (S33_0 D (D.fite (D.bnot (D.fge (S54_0 D a0) (S54_0 D a1))) (S54_0 D a1) (S54_0 D a0)) (D.fite (D.bnot (D.fge (S54_0 D a0) (S54_0 D a1))) (S54_0 D a0) (S54_0 D a1)) (D.fc 0)))) (D.fc 0) (D.fdiv (D.fite (D.bnot (D.fge (S54_0 D a0) (S54_0 D a1))) (S54_0 D a0) (S54_0 D a1)) (D.fite (D.bnot (D.fge (S54_0 D a0) (S54_0 D a1))) (S54_0 D a1) (S54_0 D a0))))
theorem ev35 (D : Dom) (a0 : D.F) (a1 : D.F) : joinT (evFnH Try.prog (tbl_54 D) (lt_0 D) 80 35 [.fl a0, .fl a1] [] 0) = .val none (.tup [.si .i64 (S35_0 D a0 a1), .fl (S35_1 D a0 a1)]) := by kernel_rfl
def sp35 : Ev.Spec := fun D l => argF l fun a0 r0 => argF r0 fun a1 r1 => arg0 r1 (.ret (.tup [.si .i64 (S35_0 D a0 a1), .fl (S35_1 D a0 a1)]))
theorem en35 : ∀ l r, (sp35 R l).run = some r → Entry Try.prog 35 l r := by
  intro l r h
  obtain ⟨x0, _, h, L0⟩ := argF_inv h
  obtain ⟨x1, _, h, L1⟩ := argF_inv h
  obtain ⟨h, L2⟩ := arg0_inv h
  cases h
  exact (entry_loops prg tok_54 hok_0 (ev35 R x0 x1) (fun o ho => nomatch ho) rfl).le (L0 _ (L1 _ L2))
def tl_35 : List (Nat × Ev.Spec) := (35, sp35) :: tl_54
def tbl_35 (D : Dom) : Tbl D := tblOf tl_35 D
theorem tok_35 : TblOK Try.prog (tbl_35 R) := TblOK.cons tok_54 en35

-- loop 0
def C0 (D : Dom) (a1 : D.Z) : D.B := (D.zlt a1 (D.zc 8))
def O0_ (D : Dom) (a0 : D.L) (a1 : D.Z) : D.B := (D.bite (D.zlt a1 (D.zc 8)) (D.zle (D.llen (D.lapp a0 [[.f (D.fc 4607182418800017408), .f (D.fc 4607182418800017408), .f (D.fc 4607182418800017408)]])) (D.zc 1073741824)) (D.bc true))
def N0_0 (D : Dom) (a0 : D.L) : D.L := (D.lapp a0 [[.f (D.fc 4607182418800017408), .f (D.fc 4607182418800017408), .f (D.fc 4607182418800017408)]])
def N0_1 (D : Dom) (a1 : D.Z) : D.Z := (D.zadd .i64 a1 (D.zc 1))
def G0 (D : Dom)  (p : List (PD D)) : D.B × D.B × List (PD D) := (C0 D (nthZ p 1), O0_ D (nthL p 0) (nthZ p 1), [.l (N0_0 D (nthL p 0)), .z (N0_1 D (nthZ p 1)), .z (nthZ p 2)])
def L0 (D : Dom) (a0 : D.L) (a1 : D.Z) (a2 : D.Z) : List (PD D) := D.last (G0 D) [.l a0, .z a1, .z a2]
def E0 (D : Dom) (a0 : D.L) (a1 : D.Z) (a2 : D.Z) : D.B := D.ends (G0 D) [.l a0, .z a1, .z a2]

-- loop 1
def C1 (D : Dom) (a0 : D.Z) (a1 : D.Z) (a2 : D.L) (a3 : D.L) (a5 : D.Z) : D.B := (D.band (D.zlt a5 a1) (D.bite (D.band (D.band (D.zle (D.zc 0) a5) (D.zlt a5 a0)) (D.bite (D.bnot (S25_0 D (D.lf a2 a5 0) (D.lf a2 a5 1) (D.lf a2 a5 2))) (D.bc true) (D.band (O26 D (D.lf a2 a5 0) (D.lf a2 a5 1) (D.lf a2 a5 2)) (D.zle (D.llen (D.lapp a3 [[.z (S26_0 D (D.lf a2 a5 0) (D.lf a2 a5 1) (D.lf a2 a5 2))]])) (D.zc 1073741824))))) (D.bnot (D.bnot (S25_0 D (D.lf a2 a5 0) (D.lf a2 a5 1) (D.lf a2 a5 2)))) (D.bc true)))
def O1_ (D : Dom) (a0 : D.Z) (a1 : D.Z) (a2 : D.L) (a3 : D.L) (a5 : D.Z) : D.B := (D.bite (D.zlt a5 a1) (D.band (D.band (D.zle (D.zc 0) a5) (D.zlt a5 a0)) (D.bite (D.bnot (S25_0 D (D.lf a2 a5 0) (D.lf a2 a5 1) (D.lf a2 a5 2))) (D.bc true) (D.band (O26 D (D.lf a2 a5 0) (D.lf a2 a5 1) (D.lf a2 a5 2)) (D.zle (D.llen (D.lapp a3 [[.z (S26_0 D (D.lf a2 a5 0) (D.lf a2 a5 1) (D.lf a2 a5 2))]])) (D.zc 1073741824))))) (D.bc true))
def N1_0 (D : Dom) (a2 : D.L) (a3 : D.L) (a5 : D.Z) : D.L := (D.lapp a3 [[.z (S26_0 D (D.lf a2 a5 0) (D.lf a2 a5 1) (D.lf a2 a5 2))]])
def N1_2 (D : Dom) (a5 : D.Z) : D.Z := (D.zadd .i64 a5 (D.zc 1))
def G1 (D : Dom) (a0 : D.Z) (a1 : D.Z) (a2 : D.L) (p : List (PD D)) : D.B × D.B × List (PD D) := (C1 D a0 a1 a2 (nthL p 0) (nthZ p 2), O1_ D a0 a1 a2 (nthL p 0) (nthZ p 2), [.l (N1_0 D a2 (nthL p 0) (nthZ p 2)), .z (nthZ p 1), .z (N1_2 D (nthZ p 2))])
def L1 (D : Dom) (a0 : D.Z) (a1 : D.Z) (a2 : D.L) (a3 : D.L) (a4 : D.Z) (a5 : D.Z) : List (PD D) := D.last (G1 D a0 a1 a2) [.l a3, .z a4, .z a5]
def E1 (D : Dom) (a0 : D.Z) (a1 : D.Z) (a2 : D.L) (a3 : D.L) (a4 : D.Z) (a5 : D.Z) : D.B := D.ends (G1 D a0 a1 a2) [.l a3, .z a4, .z a5]

-- loop 2
def C2 (D : Dom) (a0 : D.Z) (a1 : D.Z) (a2 : D.L) (a6 : D.Z) : D.B := (D.band (D.zlt a6 a1) (D.bite (D.band (D.zle (D.zc 0) a6) (D.zlt a6 a0)) (D.bnot (D.bite (D.zlt (D.lz a2 a6 0) (D.zc 0)) (D.bc true) (D.zlt (D.zc 1048576) (D.lz a2 a6 0)))) (D.bc true)))
def O2_ (D : Dom) (a0 : D.Z) (a1 : D.Z) (a6 : D.Z) : D.B := (D.bite (D.zlt a6 a1) (D.band (D.zle (D.zc 0) a6) (D.zlt a6 a0)) (D.bc true))
def N2_2 (D : Dom) (a2 : D.L) (a5 : D.Z) (a6 : D.Z) : D.Z := (D.zadd .i64 a5 (D.lz a2 a6 0))
def N2_3 (D : Dom) (a6 : D.Z) : D.Z := (D.zadd .i64 a6 (D.zc 1))
def G2 (D : Dom) (a0 : D.Z) (a1 : D.Z) (a2 : D.L) (p : List (PD D)) : D.B × D.B × List (PD D) := (C2 D a0 a1 a2 (nthZ p 3), O2_ D a0 a1 (nthZ p 3), [.z (nthZ p 0), .z (nthZ p 1), .z (N2_2 D a2 (nthZ p 2) (nthZ p 3)), .z (N2_3 D (nthZ p 3))])
def L2 (D : Dom) (a0 : D.Z) (a1 : D.Z) (a2 : D.L) (a3 : D.Z) (a4 : D.Z) (a5 : D.Z) (a6 : D.Z) : List (PD D) := D.last (G2 D a0 a1 a2) [.z a3, .z a4, .z a5, .z a6]
def E2 (D : Dom) (a0 : D.Z) (a1 : D.Z) (a2 : D.L) (a3 : D.Z) (a4 : D.Z) (a5 : D.Z) (a6 : D.Z) : D.B := D.ends (G2 D a0 a1 a2) [.z a3, .z a4, .z a5, .z a6]

-- loop 3
def C3 (D : Dom) (a2 : D.Z) (a9 : D.Z) : D.B := (D.zlt a9 a2)
def O3_ (D : Dom) (a0 : D.Z) (a1 : D.Z) (a2 : D.Z) (a3 : D.L) (a4 : D.Z) (a5 : D.Z) (a6 : D.Z) (a7 : D.L) (a8 : D.L) (a9 : D.Z) (a11 : D.L) : D.B := (D.bite (D.zlt a9 a2) (D.band (D.band (D.zle (D.zc 0) a9) (D.zlt a9 a1)) (D.band (D.band (D.zle (D.zc 0) a9) (D.zlt a9 a6)) (D.band (D.band (D.zle (D.zc 0) a9) (D.zlt a9 a5)) (D.band (D.band (D.zle (D.zc 0) a9) (D.zlt a9 a6)) (D.bite (D.zlt (D.lz (D.lput a11 a9 0 [.z (D.zmul .i64 (D.lz a3 a9 0) a0)]) a9 0) a4) (D.zle (D.llen (D.lapp a7 [[.z a9]])) (D.zc 1073741824)) (D.zle (D.llen (D.lapp a8 [[.z a9]])) (D.zc 1073741824))))))) (D.bc true))
def N3_0 (D : Dom) (a0 : D.Z) (a3 : D.L) (a4 : D.Z) (a7 : D.L) (a9 : D.Z) (a11 : D.L) : D.L := (D.lite (D.zlt (D.lz (D.lput a11 a9 0 [.z (D.zmul .i64 (D.lz a3 a9 0) a0)]) a9 0) a4) (D.lapp a7 [[.z a9]]) a7)
def N3_1 (D : Dom) (a0 : D.Z) (a3 : D.L) (a4 : D.Z) (a8 : D.L) (a9 : D.Z) (a11 : D.L) : D.L := (D.lite (D.zlt (D.lz (D.lput a11 a9 0 [.z (D.zmul .i64 (D.lz a3 a9 0) a0)]) a9 0) a4) a8 (D.lapp a8 [[.z a9]]))
def N3_2 (D : Dom) (a0 : D.Z) (a3 : D.L) (a4 : D.Z) (a9 : D.Z) (a11 : D.L) : D.Z := (D.zite (D.zlt (D.lz (D.lput a11 a9 0 [.z (D.zmul .i64 (D.lz a3 a9 0) a0)]) a9 0) a4) (D.zadd .i64 a9 (D.zc 1)) (D.zadd .i64 a9 (D.zc 1)))
def N3_3 (D : Dom) (a0 : D.Z) (a3 : D.L) (a4 : D.Z) (a9 : D.Z) (a10 : D.L) (a11 : D.L) : D.L := (D.lite (D.zlt (D.lz (D.lput a11 a9 0 [.z (D.zmul .i64 (D.lz a3 a9 0) a0)]) a9 0) a4) (D.lput a10 a9 0 [.z a4, .z a9]) (D.lput a10 a9 0 [.z a4, .z a9]))
def N3_4 (D : Dom) (a0 : D.Z) (a3 : D.L) (a4 : D.Z) (a9 : D.Z) (a11 : D.L) : D.L := (D.lite (D.zlt (D.lz (D.lput a11 a9 0 [.z (D.zmul .i64 (D.lz a3 a9 0) a0)]) a9 0) a4) (D.lput a11 a9 0 [.z (D.zmul .i64 (D.lz a3 a9 0) a0)]) (D.lput a11 a9 0 [.z (D.zmul .i64 (D.lz a3 a9 0) a0)]))
def G3 (D : Dom) (a0 : D.Z) (a1 : D.Z) (a2 : D.Z) (a3 : D.L) (a4 : D.Z) (a5 : D.Z) (a6 : D.Z) (p : List (PD D)) : D.B × D.B × List (PD D) := (C3 D a2 (nthZ p 2), O3_ D a0 a1 a2 a3 a4 a5 a6 (nthL p 0) (nthL p 1) (nthZ p 2) (nthL p 4), [.l (N3_0 D a0 a3 a4 (nthL p 0) (nthZ p 2) (nthL p 4)), .l (N3_1 D a0 a3 a4 (nthL p 1) (nthZ p 2) (nthL p 4)), .z (N3_2 D a0 a3 a4 (nthZ p 2) (nthL p 4)), .l (N3_3 D a0 a3 a4 (nthZ p 2) (nthL p 3) (nthL p 4)), .l (N3_4 D a0 a3 a4 (nthZ p 2) (nthL p 4))])
def L3 (D : Dom) (a0 : D.Z) (a1 : D.Z) (a2 : D.Z) (a3 : D.L) (a4 : D.Z) (a5 : D.Z) (a6 : D.Z) (a7 : D.L) (a8 : D.L) (a9 : D.Z) (a10 : D.L) (a11 : D.L) : List (PD D) := D.last (G3 D a0 a1 a2 a3 a4 a5 a6) [.l a7, .l a8, .z a9, .l a10, .l a11]
def E3 (D : Dom) (a0 : D.Z) (a1 : D.Z) (a2 : D.Z) (a3 : D.L) (a4 : D.Z) (a5 : D.Z) (a6 : D.Z) (a7 : D.L) (a8 : D.L) (a9 : D.Z) (a10 : D.L) (a11 : D.L) : D.B := D.ends (G3 D a0 a1 a2 a3 a4 a5 a6) [.l a7, .l a8, .z a9, .l a10, .l a11]

-- loop 4
def C4 (D : Dom) (a3 : D.L) (a4 : D.L) : D.B := (D.bite (D.zlt (D.zc 0) (D.llen a3)) (D.zlt (D.zc 0) (D.llen a4)) (D.bc false))
def WO4__0 (D : Dom) (a3 : D.L) : D.B := (D.zle (D.zc 0) (D.zsub .i64 (D.llen a3) (D.zc 1)))
def WO4__1 (D : Dom) (a4 : D.L) : D.B := (D.zle (D.zc 0) (D.zsub .i64 (D.llen a4) (D.zc 1)))
def WO4__2 (D : Dom) (a3 : D.L) : D.Z := (D.lz a3 (D.zsub .i64 (D.llen a3) (D.zc 1)) 0)
def WO4__3 (D : Dom) (a2 : D.Z) (a3 : D.L) : D.B := (D.band (D.zle (D.zc 0) (WO4__2 D a3)) (D.zlt (WO4__2 D a3) a2))
def WO4__4 (D : Dom) (a4 : D.L) : D.Z := (D.lz a4 (D.zsub .i64 (D.llen a4) (D.zc 1)) 0)
def WO4__5 (D : Dom) (a2 : D.Z) (a4 : D.L) : D.B := (D.band (D.zle (D.zc 0) (WO4__4 D a4)) (D.zlt (WO4__4 D a4) a2))
def WO4__6 (D : Dom) (a0 : D.Z) (a3 : D.L) (a4 : D.L) (a5 : D.L) : D.Z := (D.lz (D.lput a5 (WO4__4 D a4) 0 [.z (D.zsub .i64 (D.lz a5 (WO4__4 D a4) 0) (D.zsub .i64 a0 (D.lz a5 (WO4__2 D a3) 0)))]) (WO4__4 D a4) 0)
def O4_ (D : Dom) (a0 : D.Z) (a1 : D.Z) (a2 : D.Z) (a3 : D.L) (a4 : D.L) (a5 : D.L) : D.B := (D.bite (D.bite (D.zlt (D.zc 0) (D.llen a3)) (D.zlt (D.zc 0) (D.llen a4)) (D.bc false)) (D.band (D.band (WO4__0 D a3) (D.zlt (D.zsub .i64 (D.llen a3) (D.zc 1)) (D.llen a3))) (D.band (D.band (WO4__1 D a4) (D.zlt (D.zsub .i64 (D.llen a4) (D.zc 1)) (D.llen a4))) (D.band (D.band (D.zeq (D.zsub .i64 (D.llen a3) (D.zc 1)) (D.zsub .i64 (D.llen a3) (D.zc 1))) (D.band (WO4__0 D a3) (D.zle (D.zsub .i64 (D.llen a3) (D.zc 1)) (D.llen a3)))) (D.band (WO4__3 D a2 a3) (D.band (D.band (D.zle (D.zc 0) (WO4__2 D a3)) (D.zlt (WO4__2 D a3) a1)) (D.band (WO4__5 D a2 a4) (D.band (WO4__3 D a2 a3) (D.band (WO4__5 D a2 a4) (D.band (WO4__5 D a2 a4) (D.bite (D.zle a0 (WO4__6 D a0 a3 a4 a5)) (D.bc true) (D.band (D.band (D.zeq (D.zsub .i64 (D.llen a4) (D.zc 1)) (D.zsub .i64 (D.llen a4) (D.zc 1))) (D.band (WO4__1 D a4) (D.zle (D.zsub .i64 (D.llen a4) (D.zc 1)) (D.llen a4)))) (D.band (WO4__5 D a2 a4) (D.bite (D.zlt (WO4__6 D a0 a3 a4 a5) a0) (D.zle (D.llen (D.lapp (D.lsub a3 (D.zc 0) (D.zsub .i64 (D.llen a3) (D.zc 1))) [[.z (WO4__4 D a4)]])) (D.zc 1073741824)) (D.zle (D.llen (D.lapp (D.lsub a4 (D.zc 0) (D.zsub .i64 (D.llen a4) (D.zc 1))) [[.z (WO4__4 D a4)]])) (D.zc 1073741824))))))))))))))) (D.bc true))
def N4_0 (D : Dom) (a0 : D.Z) (a3 : D.L) (a4 : D.L) (a5 : D.L) : D.L := (D.lite (D.zle a0 (D.lz (D.lput a5 (D.lz a4 (D.zsub .i64 (D.llen a4) (D.zc 1)) 0) 0 [.z (D.zsub .i64 (D.lz a5 (D.lz a4 (D.zsub .i64 (D.llen a4) (D.zc 1)) 0) 0) (D.zsub .i64 a0 (D.lz a5 (D.lz a3 (D.zsub .i64 (D.llen a3) (D.zc 1)) 0) 0)))]) (D.lz a4 (D.zsub .i64 (D.llen a4) (D.zc 1)) 0) 0)) (D.lsub a3 (D.zc 0) (D.zsub .i64 (D.llen a3) (D.zc 1))) (D.lite (D.zlt (D.lz (D.lput a5 (D.lz a4 (D.zsub .i64 (D.llen a4) (D.zc 1)) 0) 0 [.z (D.zsub .i64 (D.lz a5 (D.lz a4 (D.zsub .i64 (D.llen a4) (D.zc 1)) 0) 0) (D.zsub .i64 a0 (D.lz a5 (D.lz a3 (D.zsub .i64 (D.llen a3) (D.zc 1)) 0) 0)))]) (D.lz a4 (D.zsub .i64 (D.llen a4) (D.zc 1)) 0) 0) a0) (D.lapp (D.lsub a3 (D.zc 0) (D.zsub .i64 (D.llen a3) (D.zc 1))) [[.z (D.lz a4 (D.zsub .i64 (D.llen a4) (D.zc 1)) 0)]]) (D.lsub a3 (D.zc 0) (D.zsub .i64 (D.llen a3) (D.zc 1)))))
def N4_1 (D : Dom) (a0 : D.Z) (a3 : D.L) (a4 : D.L) (a5 : D.L) : D.L := (D.lite (D.zle a0 (D.lz (D.lput a5 (D.lz a4 (D.zsub .i64 (D.llen a4) (D.zc 1)) 0) 0 [.z (D.zsub .i64 (D.lz a5 (D.lz a4 (D.zsub .i64 (D.llen a4) (D.zc 1)) 0) 0) (D.zsub .i64 a0 (D.lz a5 (D.lz a3 (D.zsub .i64 (D.llen a3) (D.zc 1)) 0) 0)))]) (D.lz a4 (D.zsub .i64 (D.llen a4) (D.zc 1)) 0) 0)) a4 (D.lite (D.zlt (D.lz (D.lput a5 (D.lz a4 (D.zsub .i64 (D.llen a4) (D.zc 1)) 0) 0 [.z (D.zsub .i64 (D.lz a5 (D.lz a4 (D.zsub .i64 (D.llen a4) (D.zc 1)) 0) 0) (D.zsub .i64 a0 (D.lz a5 (D.lz a3 (D.zsub .i64 (D.llen a3) (D.zc 1)) 0) 0)))]) (D.lz a4 (D.zsub .i64 (D.llen a4) (D.zc 1)) 0) 0) a0) (D.lsub a4 (D.zc 0) (D.zsub .i64 (D.llen a4) (D.zc 1))) (D.lapp (D.lsub a4 (D.zc 0) (D.zsub .i64 (D.llen a4) (D.zc 1))) [[.z (D.lz a4 (D.zsub .i64 (D.llen a4) (D.zc 1)) 0)]])))
def N4_2 (D : Dom) (a0 : D.Z) (a3 : D.L) (a4 : D.L) (a5 : D.L) : D.L := (D.lite (D.zle a0 (D.lz (D.lput a5 (D.lz a4 (D.zsub .i64 (D.llen a4) (D.zc 1)) 0) 0 [.z (D.zsub .i64 (D.lz a5 (D.lz a4 (D.zsub .i64 (D.llen a4) (D.zc 1)) 0) 0) (D.zsub .i64 a0 (D.lz a5 (D.lz a3 (D.zsub .i64 (D.llen a3) (D.zc 1)) 0) 0)))]) (D.lz a4 (D.zsub .i64 (D.llen a4) (D.zc 1)) 0) 0)) (D.lput a5 (D.lz a4 (D.zsub .i64 (D.llen a4) (D.zc 1)) 0) 0 [.z (D.zsub .i64 (D.lz a5 (D.lz a4 (D.zsub .i64 (D.llen a4) (D.zc 1)) 0) 0) (D.zsub .i64 a0 (D.lz a5 (D.lz a3 (D.zsub .i64 (D.llen a3) (D.zc 1)) 0) 0)))]) (D.lite (D.zlt (D.lz (D.lput a5 (D.lz a4 (D.zsub .i64 (D.llen a4) (D.zc 1)) 0) 0 [.z (D.zsub .i64 (D.lz a5 (D.lz a4 (D.zsub .i64 (D.llen a4) (D.zc 1)) 0) 0) (D.zsub .i64 a0 (D.lz a5 (D.lz a3 (D.zsub .i64 (D.llen a3) (D.zc 1)) 0) 0)))]) (D.lz a4 (D.zsub .i64 (D.llen a4) (D.zc 1)) 0) 0) a0) (D.lput a5 (D.lz a4 (D.zsub .i64 (D.llen a4) (D.zc 1)) 0) 0 [.z (D.zsub .i64 (D.lz a5 (D.lz a4 (D.zsub .i64 (D.llen a4) (D.zc 1)) 0) 0) (D.zsub .i64 a0 (D.lz a5 (D.lz a3 (D.zsub .i64 (D.llen a3) (D.zc 1)) 0) 0)))]) (D.lput a5 (D.lz a4 (D.zsub .i64 (D.llen a4) (D.zc 1)) 0) 0 [.z (D.zsub .i64 (D.lz a5 (D.lz a4 (D.zsub .i64 (D.llen a4) (D.zc 1)) 0) 0) (D.zsub .i64 a0 (D.lz a5 (D.lz a3 (D.zsub .i64 (D.llen a3) (D.zc 1)) 0) 0)))])))
def N4_3 (D : Dom) (a0 : D.Z) (a3 : D.L) (a4 : D.L) (a5 : D.L) (a6 : D.L) : D.L := (D.lite (D.zle a0 (D.lz (D.lput a5 (D.lz a4 (D.zsub .i64 (D.llen a4) (D.zc 1)) 0) 0 [.z (D.zsub .i64 (D.lz a5 (D.lz a4 (D.zsub .i64 (D.llen a4) (D.zc 1)) 0) 0) (D.zsub .i64 a0 (D.lz a5 (D.lz a3 (D.zsub .i64 (D.llen a3) (D.zc 1)) 0) 0)))]) (D.lz a4 (D.zsub .i64 (D.llen a4) (D.zc 1)) 0) 0)) (D.lput a6 (D.lz a3 (D.zsub .i64 (D.llen a3) (D.zc 1)) 0) 0 [.z (D.lz a5 (D.lz a3 (D.zsub .i64 (D.llen a3) (D.zc 1)) 0) 0), .z (D.lz a4 (D.zsub .i64 (D.llen a4) (D.zc 1)) 0)]) (D.lite (D.zlt (D.lz (D.lput a5 (D.lz a4 (D.zsub .i64 (D.llen a4) (D.zc 1)) 0) 0 [.z (D.zsub .i64 (D.lz a5 (D.lz a4 (D.zsub .i64 (D.llen a4) (D.zc 1)) 0) 0) (D.zsub .i64 a0 (D.lz a5 (D.lz a3 (D.zsub .i64 (D.llen a3) (D.zc 1)) 0) 0)))]) (D.lz a4 (D.zsub .i64 (D.llen a4) (D.zc 1)) 0) 0) a0) (D.lput a6 (D.lz a3 (D.zsub .i64 (D.llen a3) (D.zc 1)) 0) 0 [.z (D.lz a5 (D.lz a3 (D.zsub .i64 (D.llen a3) (D.zc 1)) 0) 0), .z (D.lz a4 (D.zsub .i64 (D.llen a4) (D.zc 1)) 0)]) (D.lput a6 (D.lz a3 (D.zsub .i64 (D.llen a3) (D.zc 1)) 0) 0 [.z (D.lz a5 (D.lz a3 (D.zsub .i64 (D.llen a3) (D.zc 1)) 0) 0), .z (D.lz a4 (D.zsub .i64 (D.llen a4) (D.zc 1)) 0)])))
def G4 (D : Dom) (a0 : D.Z) (a1 : D.Z) (a2 : D.Z) (p : List (PD D)) : D.B × D.B × List (PD D) := (C4 D (nthL p 0) (nthL p 1), O4_ D a0 a1 a2 (nthL p 0) (nthL p 1) (nthL p 2), [.l (N4_0 D a0 (nthL p 0) (nthL p 1) (nthL p 2)), .l (N4_1 D a0 (nthL p 0) (nthL p 1) (nthL p 2)), .l (N4_2 D a0 (nthL p 0) (nthL p 1) (nthL p 2)), .l (N4_3 D a0 (nthL p 0) (nthL p 1) (nthL p 2) (nthL p 3))])
def L4 (D : Dom) (a0 : D.Z) (a1 : D.Z) (a2 : D.Z) (a3 : D.L) (a4 : D.L) (a5 : D.L) (a6 : D.L) : List (PD D) := D.last (G4 D a0 a1 a2) [.l a3, .l a4, .l a5, .l a6]
def E4 (D : Dom) (a0 : D.Z) (a1 : D.Z) (a2 : D.Z) (a3 : D.L) (a4 : D.L) (a5 : D.L) (a6 : D.L) : D.B := D.ends (G4 D a0 a1 a2) [.l a3, .l a4, .l a5, .l a6]
def sh_0 : HSh := ⟨1, 4, [.env (.kb false), .env (.ptr 0 0), .var (.si .i64 ()), .env (.undef), .env (.undef), .env (.undef), .env (.undef), .env (.agg [.ki .i64 1, .nils]), .drop, .drop, .drop, .drop, .drop, .drop, .drop, .drop, .drop, .drop, .env (.undef), .env (.undef), .env (.undef), .env (.undef), .env (.undef), .env (.undef), .env (.undef), .env (.undef), .env (.undef), .env (.undef), .env (.undef), .env (.undef), .env (.undef), .env (.undef), .env (.undef), .env (.undef), .env (.undef), .env (.undef), .env (.undef), .env (.undef), .env (.undef), .env (.undef), .env (.undef), .env (.undef), .env (.undef), .env (.undef), .env (.undef), .env (.undef), .env (.undef), .env (.undef), .env (.undef), .env (.undef), .env (.undef), .env (.undef), .env (.undef), .env (.undef), .env (.undef), .env (.undef), .env (.undef), .env (.undef), .env (.undef), .env (.undef), .env (.undef), .env (.undef), .env (.undef), .env (.undef), .env (.undef), .env (.undef), .env (.undef), .env (.undef), .env (.undef)], [(0, .cells [.var (.si .i64 ()), .slot [.f, .f, .f] 3])], [], []⟩
def st_0 (D : Dom) (env p : List (PD D)) : D.B × D.B × List (PD D) := let _ := env; G0 D p
theorem rd_0 (D : Dom) (env vars : List (PD D)) (ctx : List (AV D)) : (sh_0.round (sh_0.st env vars ctx).h.length (evCodeH Try.prog (tbl_35 D) (lt_0 D) 80 7 (loopB Try.prog 7 0) (sh_0.st env vars ctx))).map Nr.step = some (st_0 D env vars) := by kernel_rfl
noncomputable def ll_1 (D : Dom) : List (LE D) := ⟨7, 0, sh_0, st_0 D, fun s => evCodeH Try.prog (tbl_35 D) (lt_0 D) 80 7 (loopB Try.prog 7 0) s⟩ :: ll_0 D
noncomputable def lt_1 (D : Dom) : LTb D := ltOf (ll_1 D)
theorem hok_1 : HooksOK Try.prog (lt_1 R) := HooksOK.cons prg tok_35 hok_0 (by kernel_rfl) (by kernel_rfl) (rd_0 R)
def sh_1 : HSh := ⟨5, 9, [.ctx, .ctx, .var (.nilp), .var (.si .i64 ()), .slot [.z .i64] 1, .env (.undef), .drop, .env (.undef), .ctx, .ctx, .ctx, .ctx, .env (.any), .env (.any), .env (.any), .ctx, .ctx, .env (.any), .env (.any), .env (.any), .env (.any), .env (.any), .env (.any), .env (.any), .ctx, .ctx, .env (.sslice 1 .whole none () 3), .env (.si .i64 ()), .var (.si .i64 ()), .drop, .drop, .drop, .drop, .drop, .drop, .drop, .drop, .drop, .drop, .drop, .drop, .env (.undef), .env (.undef), .env (.undef), .env (.undef), .env (.undef), .env (.undef), .env (.undef), .env (.undef), .env (.undef), .env (.undef), .env (.undef), .env (.undef), .env (.undef), .env (.undef), .env (.undef), .env (.undef), .env (.undef)], [], [(1, [.row false [.f, .f, .f] ()])], []⟩
def st_1 (D : Dom) (env p : List (PD D)) : D.B × D.B × List (PD D) := G1 D (nthZ env 0) (nthZ env 1) (nthL env 2) p
theorem rd_1 (D : Dom) (env vars : List (PD D)) (ctx : List (AV D)) : (sh_1.round (sh_1.st env vars ctx).h.length (evCodeH Try.prog (tbl_35 D) (lt_1 D) 80 8 (loopB Try.prog 8 0) (sh_1.st env vars ctx))).map Nr.step = some (st_1 D env vars) := by kernel_rfl
noncomputable def ll_2 (D : Dom) : List (LE D) := ⟨8, 0, sh_1, st_1 D, fun s => evCodeH Try.prog (tbl_35 D) (lt_1 D) 80 8 (loopB Try.prog 8 0) s⟩ :: ll_1 D
noncomputable def lt_2 (D : Dom) : LTb D := ltOf (ll_2 D)
theorem hok_2 : HooksOK Try.prog (lt_2 R) := HooksOK.cons prg tok_35 hok_1 (by kernel_rfl) (by kernel_rfl) (rd_1 R)
def sh_2 : HSh := ⟨11, 11, [.ctx, .env (.undef), .var (.si .i64 ()), .var (.si .i64 ()), .var (.si .i64 ()), .env (.undef), .drop, .ctx, .ctx, .ctx, .env (.sslice 5 .whole none () 1), .env (.si .i64 ()), .var (.si .i64 ()), .drop, .drop, .drop, .drop, .drop, .drop, .drop, .drop, .drop, .drop, .drop, .drop, .drop, .env (.undef), .env (.undef), .env (.undef), .env (.undef), .env (.undef), .env (.undef), .env (.undef), .env (.undef)], [], [(5, [.row false [.z .i64] ()])], []⟩
def st_2 (D : Dom) (env p : List (PD D)) : D.B × D.B × List (PD D) := G2 D (nthZ env 0) (nthZ env 1) (nthL env 2) p
theorem rd_2 (D : Dom) (env vars : List (PD D)) (ctx : List (AV D)) : (sh_2.round (sh_2.st env vars ctx).h.length (evCodeH Try.prog (tbl_35 D) (lt_2 D) 80 49 (loopB Try.prog 49 0) (sh_2.st env vars ctx))).map Nr.step = some (st_2 D env vars) := by kernel_rfl
noncomputable def ll_3 (D : Dom) : List (LE D) := ⟨49, 0, sh_2, st_2 D, fun s => evCodeH Try.prog (tbl_35 D) (lt_2 D) 80 49 (loopB Try.prog 49 0) s⟩ :: ll_2 D
noncomputable def lt_3 (D : Dom) : LTb D := ltOf (ll_3 D)
theorem hok_3 : HooksOK Try.prog (lt_3 R) := HooksOK.cons prg tok_35 hok_2 (by kernel_rfl) (by kernel_rfl) (rd_2 R)
def sh_3 : HSh := ⟨19, 23, [.env (.sslice 5 .whole none () 1), .env (.undef), .env (.nilp), .env (.ki .i64 0), .env (.ptr 11 0), .ctx, .env (.ptr 14 0), .env (.ptr 16 0), .ctx, .ctx, .env (.clo 50 [] [.ptr 16 0, .ptr 11 0, .ptr 17 0, .ptr 18 0]), .drop, .drop, .env (.undef), .env (.undef), .env (.undef), .env (.undef), .ctx, .ctx, .ctx, .ctx, .ctx, .ctx, .ctx, .env (.undef), .ctx, .ctx, .ctx, .ctx, .ctx, .ctx, .ctx, .ctx, .ctx, .ctx, .ctx, .ctx, .env (.sslice 5 .whole none () 1), .env (.si .i64 ()), .var (.si .i64 ()), .drop, .drop, .drop, .drop, .drop, .drop, .drop, .drop, .drop, .drop, .drop, .drop, .drop, .drop, .drop, .drop, .drop, .drop, .drop, .drop, .drop, .drop, .drop, .drop, .env (.undef), .env (.undef), .env (.undef), .env (.undef), .env (.undef), .env (.undef), .env (.undef), .env (.undef), .env (.undef), .env (.undef), .env (.undef), .env (.undef), .env (.undef), .env (.undef), .env (.undef), .env (.undef), .env (.undef), .env (.undef), .env (.undef), .env (.undef), .env (.undef), .env (.undef), .env (.undef), .env (.undef), .env (.undef), .env (.undef), .env (.undef), .env (.undef), .env (.undef), .env (.undef), .env (.undef), .env (.undef), .env (.undef), .env (.undef), .env (.undef), .env (.undef), .env (.undef), .env (.undef), .env (.undef), .env (.undef), .env (.undef), .env (.undef), .env (.undef), .env (.undef), .env (.undef), .env (.undef), .env (.undef), .env (.undef), .env (.undef), .env (.undef), .env (.undef), .env (.undef), .env (.undef), .env (.undef), .env (.undef), .env (.undef), .env (.undef), .env (.undef), .env (.undef), .env (.undef), .env (.undef), .env (.undef), .env (.undef), .env (.undef)], [(17, .cells [.slot [.z .i64] 1]), (13, .row [.z .i64, .z .i64]), (15, .row [.z .i64]), (18, .cells [.slot [.z .i64] 1])], [(5, [.row false [.z .i64] ()]), (11, [.si .i64 ()]), (14, [.sslice 12 .whole none () 1, .si .i64 (), .sslice 13 .whole none () 2]), (16, [.sslice 15 .whole none () 1]), (12, [.row false [.z .i64] ()])], []⟩
def st_3 (D : Dom) (env p : List (PD D)) : D.B × D.B × List (PD D) := G3 D (nthZ env 0) (nthZ env 1) (nthZ env 2) (nthL env 3) (nthZ env 4) (nthZ env 7) (nthZ env 8) p
theorem rd_3 (D : Dom) (env vars : List (PD D)) (ctx : List (AV D)) : (sh_3.round (sh_3.st env vars ctx).h.length (evCodeH Try.prog (tbl_35 D) (lt_3 D) 80 27 (loopB Try.prog 27 0) (sh_3.st env vars ctx))).map Nr.step = some (st_3 D env vars) := by kernel_rfl
noncomputable def ll_4 (D : Dom) : List (LE D) := ⟨27, 0, sh_3, st_3 D, fun s => evCodeH Try.prog (tbl_35 D) (lt_3 D) 80 27 (loopB Try.prog 27 0) s⟩ :: ll_3 D
noncomputable def lt_4 (D : Dom) : LTb D := ltOf (ll_4 D)
theorem hok_4 : HooksOK Try.prog (lt_4 R) := HooksOK.cons prg tok_35 hok_3 (by kernel_rfl) (by kernel_rfl) (rd_3 R)
def sh_4 : HSh := ⟨23, 29, [.ctx, .env (.undef), .env (.nilp), .env (.ki .i64 0), .env (.ptr 11 0), .ctx, .env (.ptr 14 0), .env (.ptr 16 0), .env (.ptr 17 0), .env (.ptr 18 0), .env (.clo 50 [] [.ptr 16 0, .ptr 11 0, .ptr 17 0, .ptr 18 0]), .env (.any), .env (.any), .drop, .drop, .drop, .drop, .ctx, .ctx, .ctx, .ctx, .ctx, .ctx, .ctx, .env (.undef), .ctx, .ctx, .ctx, .ctx, .ctx, .ctx, .ctx, .ctx, .ctx, .ctx, .ctx, .ctx, .ctx, .ctx, .ctx, .ctx, .env (.any), .env (.any), .env (.any), .env (.any), .env (.any), .env (.any), .env (.any), .env (.any), .env (.any), .env (.any), .env (.any), .env (.any), .env (.any), .env (.any), .env (.any), .env (.any), .env (.any), .env (.any), .env (.any), .env (.any), .env (.any), .env (.any), .env (.any), .drop, .drop, .drop, .drop, .drop, .drop, .drop, .drop, .drop, .drop, .drop, .drop, .drop, .drop, .drop, .drop, .drop, .drop, .drop, .drop, .drop, .drop, .drop, .drop, .drop, .drop, .drop, .drop, .drop, .drop, .drop, .drop, .drop, .drop, .drop, .drop, .drop, .drop, .drop, .drop, .drop, .drop, .drop, .drop, .drop, .drop, .drop, .drop, .drop, .drop, .drop, .drop, .drop, .drop, .drop, .drop, .drop, .drop, .drop, .drop, .drop, .drop, .drop, .env (.undef)], [(15, .row [.z .i64]), (13, .row [.z .i64, .z .i64]), (17, .cells [.slot [.z .i64] 1]), (18, .cells [.slot [.z .i64] 1])], [(11, [.si .i64 ()]), (14, [.sslice 12 .whole none () 1, .si .i64 (), .sslice 13 .whole none () 2]), (16, [.sslice 15 .whole none () 1]), (12, [.row false [.z .i64] ()])], [19, 20]⟩
def st_4 (D : Dom) (env p : List (PD D)) : D.B × D.B × List (PD D) := G4 D (nthZ env 0) (nthZ env 3) (nthZ env 4) p
theorem rd_4 (D : Dom) (env vars : List (PD D)) (ctx : List (AV D)) : (sh_4.round (sh_4.st env vars ctx).h.length (evCodeH Try.prog (tbl_35 D) (lt_4 D) 80 27 (loopB Try.prog 27 2) (sh_4.st env vars ctx))).map Nr.step = some (st_4 D env vars) := by kernel_rfl
noncomputable def ll_5 (D : Dom) : List (LE D) := ⟨27, 2, sh_4, st_4 D, fun s => evCodeH Try.prog (tbl_35 D) (lt_4 D) 80 27 (loopB Try.prog 27 2) s⟩ :: ll_4 D
noncomputable def lt_5 (D : Dom) : LTb D := ltOf (ll_5 D)
theorem hok_5 : HooksOK Try.prog (lt_5 R) := HooksOK.cons prg tok_35 hok_4 (by kernel_rfl) (by kernel_rfl) (rd_4 R)

-- penumbra/penumbralaw17.awake
def WS7_0_0 (D : Dom)  : List (PD D) := (L0 D D.lnil (D.zc 0) (D.zc 1))
def WS7_0_1 (D : Dom)  : List (PD D) := (L1 D (D.llen (nthL (WS7_0_0 D) 0)) (D.llen (nthL (WS7_0_0 D) 0)) (nthL (WS7_0_0 D) 0) D.lnil (D.zc 0) (D.zc 0))
def WS7_0_2 (D : Dom)  : D.B := (D.zlt (D.zc 1024) (D.llen (nthL (WS7_0_1 D) 0)))
def WS7_0_3 (D : Dom)  : List (PD D) := (L2 D (D.llen (nthL (WS7_0_1 D) 0)) (D.llen (nthL (WS7_0_1 D) 0)) (nthL (WS7_0_1 D) 0) (D.zc 0) (D.zc 0) (D.zc 0) (D.zc 0))
def WS7_0_4 (D : Dom)  : D.B := (D.zlt (nthZ (WS7_0_3 D) 3) (D.llen (nthL (WS7_0_1 D) 0)))
def WS7_0_5 (D : Dom)  : D.B := (D.zeq (D.llen (nthL (WS7_0_1 D) 0)) (D.zc 0))
def WS7_0_6 (D : Dom)  : D.B := (D.bite (WS7_0_5 D) (D.bc true) (D.zeq (nthZ (WS7_0_3 D) 2) (D.zc 0)))
def WS7_0_7 (D : Dom)  : D.F := (D.fmul (D.fmul (D.fsub (D.fc 4607182418800017408) (D.fc 0)) (D.fc 4602678819172646912)) (D.i2f (nthZ (WS7_0_0 D) 2)))
def WS7_0_8 (D : Dom)  : D.B := (D.flt (WS7_0_7 D) (D.fc 4607182418800017408))
def WS7_0_9 (D : Dom)  : D.Z := (D.zsub .i64 (nthZ (WS7_0_0 D) 2) (D.zc 1))
def WS7_0_10 (D : Dom)  : D.Z := (D.zmul .i64 (D.zc 8) (D.zite (D.bite (WS7_0_8 D) (D.bc true) (D.fge (WS7_0_7 D) (D.i2f (nthZ (WS7_0_0 D) 2)))) (D.zite (WS7_0_8 D) (D.zc 0) (WS7_0_9 D)) (D.f2i .i64 (WS7_0_7 D))))
def WS7_0_11 (D : Dom)  : D.Z := (D.zite (WS7_0_2 D) (D.zc 0) (D.zite (WS7_0_4 D) (D.zc 0) (D.zite (WS7_0_6 D) (D.zc 0) (nthZ (WS7_0_3 D) 2))))
def WS7_0_12 (D : Dom)  : D.Z := (D.zmul .i64 (D.llen (nthL (WS7_0_1 D) 0)) (WS7_0_11 D))
def WS7_0_13 (D : Dom)  : D.Z := (D.zmin (D.f2i .i64 (D.fmul (D.fite (D.bnot (D.bite (D.fge (D.fc 0) (D.fc 0)) (D.flt (D.fc 0) (D.fc 4607182418800017408)) (D.bc false))) (D.fc 0) (D.fc 0)) (D.i2f (WS7_0_12 D)))) (D.zsub .i64 (WS7_0_12 D) (D.zc 1)))
def WS7_0_14 (D : Dom)  : List (PD D) := (L3 D (D.llen (nthL (WS7_0_1 D) 0)) (D.llen (nthL (WS7_0_1 D) 0)) (D.llen (nthL (WS7_0_1 D) 0)) (nthL (WS7_0_1 D) 0) (WS7_0_11 D) (D.llen (nthL (WS7_0_1 D) 0)) (D.llen (nthL (WS7_0_1 D) 0)) D.lnil D.lnil (D.zc 0) (D.lrep (D.llen (nthL (WS7_0_1 D) 0)) [.z (D.zc 0), .z (D.zc 0)]) (D.lrep (D.llen (nthL (WS7_0_1 D) 0)) [.z (D.zc 0)]))
def WS7_0_15 (D : Dom)  : List (PD D) := (L4 D (WS7_0_11 D) (D.llen (nthL (WS7_0_1 D) 0)) (D.llen (nthL (WS7_0_1 D) 0)) (nthL (WS7_0_14 D) 0) (nthL (WS7_0_14 D) 1) (nthL (WS7_0_14 D) 4) (nthL (WS7_0_14 D) 3))
def WS7_0_16 (D : Dom)  : D.Z := (D.zite (D.bite (D.zlt (WS7_0_13 D) (D.zc 0)) (D.bc true) (D.zle (WS7_0_12 D) (WS7_0_13 D))) (D.zc (-1)) (D.zite (D.zlt (D.zrem .i64 (WS7_0_13 D) (WS7_0_11 D)) (D.lz (nthL (WS7_0_15 D) 3) (D.zquo .i64 (WS7_0_13 D) (WS7_0_11 D)) 0)) (D.zquo .i64 (WS7_0_13 D) (WS7_0_11 D)) (D.lz (nthL (WS7_0_15 D) 3) (D.zquo .i64 (WS7_0_13 D) (WS7_0_11 D)) 1)))
def WS7_0_17 (D : Dom)  : D.F := (D.i2f (D.zrem .i64 (WS7_0_16 D) (D.zc 8)))
def WS7_0_18 (D : Dom)  : D.F := (D.fite (D.flt (D.fadd (WS7_0_17 D) (S38_0 D (D.fc 0))) (D.fadd (WS7_0_17 D) (D.fc 4607182418800017408))) (D.fmul (D.fadd (WS7_0_17 D) (S38_0 D (D.fc 0))) (D.fc 4593671619917905920)) (D.fmul (WS7_0_17 D) (D.fc 4593671619917905920)))
def WS7_0_19 (D : Dom)  : D.F := (D.fsub (D.fc 4607182418800017408) (D.fmul (D.fc 4611686018427387904) (D.fdiv (D.fadd (D.i2f (D.zquo .i64 (WS7_0_16 D) (D.zc 8))) (S38_0 D (D.fc 4602678819172646912))) (D.i2f (nthZ (WS7_0_0 D) 2)))))
def WS7_0_20 (D : Dom)  : D.F := (S39_0 D (D.fmax (D.fc 0) (D.fsub (D.fc 4607182418800017408) (D.fmul (WS7_0_19 D) (WS7_0_19 D)))))
def WS7_0_21 (D : Dom)  : D.F := (D.fmul (S41_0 D (WS7_0_18 D)) (WS7_0_20 D))
def WS7_0_22 (D : Dom)  : D.F := (D.fmul (S41_1 D (WS7_0_18 D)) (WS7_0_20 D))
def WS7_0_23 (D : Dom)  : D.F := (D.fmul (D.fmul (D.fsub (D.fc 4607182418800017408) (WS7_0_19 D)) (D.fc 4602678819172646912)) (D.i2f (nthZ (WS7_0_0 D) 2)))
def WS7_0_24 (D : Dom)  : D.B := (D.flt (WS7_0_23 D) (D.fc 4607182418800017408))
def WS7_0_25 (D : Dom)  : D.Z := (D.zite (D.bnot (S33_0 D (WS7_0_21 D) (WS7_0_22 D) (WS7_0_19 D))) (D.zc (-1)) (D.zadd .i64 (D.zmul .i64 (D.zc 8) (D.zite (D.bite (WS7_0_24 D) (D.bc true) (D.fge (WS7_0_23 D) (D.i2f (nthZ (WS7_0_0 D) 2)))) (D.zite (WS7_0_24 D) (D.zc 0) (WS7_0_9 D)) (D.f2i .i64 (WS7_0_23 D)))) (S35_0 D (WS7_0_21 D) (WS7_0_22 D))))
def WS7_0_26 (D : Dom)  : D.Z := (D.zite (D.bnot (S33_0 D (D.fc 4607182418800017408) (D.fc 0) (D.fc 0))) (D.zc (-1)) (D.zadd .i64 (WS7_0_10 D) (S35_0 D (D.fc 4607182418800017408) (D.fc 0))))
def WS7_0_27 (D : Dom)  : D.F := (S35_1 D (D.fc 4607182418800017408) (D.fc 0))
def S7_0 (D : Dom) : D.B := (D.bite (D.bite (D.bite (D.zlt (nthZ (WS7_0_0 D) 2) (D.zc 1)) (D.bc true) (D.zlt (D.zc 16) (nthZ (WS7_0_0 D) 2))) (D.bc true) (D.bnot (D.zeq (D.llen (nthL (WS7_0_0 D) 0)) (D.zmul .i64 (D.zc 8) (nthZ (WS7_0_0 D) 2))))) (D.bc false) (D.bite (D.zlt (nthZ (WS7_0_1 D) 2) (D.llen (nthL (WS7_0_0 D) 0))) (D.bc false) (D.bite (D.bnot (D.zeq (D.zite (WS7_0_2 D) (D.zc 4) (D.zite (WS7_0_4 D) (D.zc 2) (D.zite (WS7_0_6 D) (D.zite (WS7_0_5 D) (D.zc 2) (D.zc 13)) (D.zc 0)))) (D.zc 0))) (D.bc false) (D.bite (D.bite (D.bite (D.bite (D.bite (D.bite (D.zeq (D.zite (D.bnot (S33_0 D (D.fc 13830554455654793216) (D.fc 4611686018427387904) (D.fc 0))) (D.zc (-1)) (D.zadd .i64 (WS7_0_10 D) (S35_0 D (D.fc 13830554455654793216) (D.fc 4611686018427387904)))) (D.zc 2)) (D.feq (D.fite (D.zlt (WS7_0_25 D) (D.zc 0)) (D.fc 0) (D.lf (nthL (WS7_0_0 D) 0) (WS7_0_25 D) 1)) (D.fc 4607182418800017408)) (D.bc false)) (D.feq (D.fite (D.bite (D.zlt (WS7_0_26 D) (D.zc 0)) (D.bc true) (D.bc false)) (D.fc 0) (D.fmul (D.fmul (D.fite (D.bnot (D.bite (D.zle (D.zc 0) (WS7_0_26 D)) (D.zlt (WS7_0_26 D) (D.llen (nthL (WS7_0_1 D) 0))) (D.bc false))) (D.fc 0) (D.fdiv (D.i2f (D.lz (nthL (WS7_0_1 D) 0) (WS7_0_26 D) 0)) (D.i2f (WS7_0_11 D)))) (D.fmul (D.i2f (nthZ (WS7_0_0 D) 2)) (D.fc 4602678819172646912))) (D.fadd (D.fc 4607182418800017408) (D.fmul (WS7_0_27 D) (WS7_0_27 D))))) (D.fc 4589168020290535424)) (D.bc false)) (D.zeq (WS7_0_11 D) (D.zc 128)) (D.bc false)) (D.band (D.feq (WS7_0_21 D) (D.fc 4607182418800017408)) (D.band (D.feq (WS7_0_22 D) (D.fc 0)) (D.band (D.feq (WS7_0_19 D) (D.fc 0)) (D.bc true)))) (D.bc false)) (D.bc true) (D.bc false)) (D.bc true) (D.bc false)))))
def WO7_0 (D : Dom)  : D.B := (E0 D D.lnil (D.zc 0) (D.zc 1))
def WO7_1 (D : Dom)  : List (PD D) := (L0 D D.lnil (D.zc 0) (D.zc 1))
def WO7_2 (D : Dom)  : D.B := (E1 D (D.llen (nthL (WO7_1 D) 0)) (D.llen (nthL (WO7_1 D) 0)) (nthL (WO7_1 D) 0) D.lnil (D.zc 0) (D.zc 0))
def WO7_3 (D : Dom)  : List (PD D) := (L1 D (D.llen (nthL (WO7_1 D) 0)) (D.llen (nthL (WO7_1 D) 0)) (nthL (WO7_1 D) 0) D.lnil (D.zc 0) (D.zc 0))
def WO7_4 (D : Dom)  : D.B := (D.zlt (D.zc 1024) (D.llen (nthL (WO7_3 D) 0)))
def WO7_5 (D : Dom)  : D.B := (E2 D (D.llen (nthL (WO7_3 D) 0)) (D.llen (nthL (WO7_3 D) 0)) (nthL (WO7_3 D) 0) (D.zc 0) (D.zc 0) (D.zc 0) (D.zc 0))
def WO7_6 (D : Dom)  : List (PD D) := (L2 D (D.llen (nthL (WO7_3 D) 0)) (D.llen (nthL (WO7_3 D) 0)) (nthL (WO7_3 D) 0) (D.zc 0) (D.zc 0) (D.zc 0) (D.zc 0))
def WO7_7 (D : Dom)  : D.B := (D.zlt (nthZ (WO7_6 D) 3) (D.llen (nthL (WO7_3 D) 0)))
def WO7_8 (D : Dom)  : D.B := (D.zeq (D.llen (nthL (WO7_3 D) 0)) (D.zc 0))
def WO7_9 (D : Dom)  : D.B := (D.bite (WO7_8 D) (D.bc true) (D.zeq (nthZ (WO7_6 D) 2) (D.zc 0)))
def WO7_10 (D : Dom)  : D.B := (D.bnot (S33_0 D (D.fc 13830554455654793216) (D.fc 4611686018427387904) (D.fc 0)))
def WO7_11 (D : Dom)  : D.F := (D.fmul (D.fmul (D.fsub (D.fc 4607182418800017408) (D.fc 0)) (D.fc 4602678819172646912)) (D.i2f (nthZ (WO7_1 D) 2)))
def WO7_12 (D : Dom)  : D.B := (D.flt (WO7_11 D) (D.fc 4607182418800017408))
def WO7_13 (D : Dom)  : D.B := (D.bite (WO7_12 D) (D.bc true) (D.fge (WO7_11 D) (D.i2f (nthZ (WO7_1 D) 2))))
def WO7_14 (D : Dom)  : D.B := (D.bite (WO7_13 D) (D.bc true) (D.f2iok .i64 (WO7_11 D)))
def WO7_15 (D : Dom)  : D.B := (D.bite (WO7_10 D) (D.bc true) (WO7_14 D))
def WO7_16 (D : Dom)  : D.Z := (D.zsub .i64 (nthZ (WO7_1 D) 2) (D.zc 1))
def WO7_17 (D : Dom)  : D.Z := (D.zmul .i64 (D.zc 8) (D.zite (WO7_13 D) (D.zite (WO7_12 D) (D.zc 0) (WO7_16 D)) (D.f2i .i64 (WO7_11 D))))
def WO7_18 (D : Dom)  : D.B := (D.zeq (D.zite (WO7_10 D) (D.zc (-1)) (D.zadd .i64 (WO7_17 D) (S35_0 D (D.fc 13830554455654793216) (D.fc 4611686018427387904)))) (D.zc 2))
def WO7_19 (D : Dom)  : D.B := (D.bnot (S33_0 D (D.fc 0) (D.fc 0) (D.fc 0)))
def WO7_20 (D : Dom)  : D.Z := (D.zite (WO7_19 D) (D.zc (-1)) (D.zadd .i64 (WO7_17 D) (S35_0 D (D.fc 0) (D.fc 0))))
def WO7_21 (D : Dom)  : D.B := (D.bnot (S33_0 D (D.fc 4607182418800017408) (D.fc 0) (D.fc 0)))
def WO7_22 (D : Dom)  : D.B := (D.bite (WO7_21 D) (D.bc true) (WO7_14 D))
def WO7_23 (D : Dom)  : D.B := (D.zle (D.llen (nthL (WO7_3 D) 0)) (D.zc 1073741824))
def WO7_24 (D : Dom)  : D.B := (D.band (D.zle (D.zc 0) (D.llen (nthL (WO7_3 D) 0))) (WO7_23 D))
def WO7_25 (D : Dom)  : D.Z := (D.zite (WO7_4 D) (D.zc 0) (D.zite (WO7_7 D) (D.zc 0) (D.zite (WO7_9 D) (D.zc 0) (nthZ (WO7_6 D) 2))))
def WO7_26 (D : Dom)  : D.L := (D.lrep (D.llen (nthL (WO7_3 D) 0)) [.z (D.zc 0), .z (D.zc 0)])
def WO7_27 (D : Dom)  : D.L := (D.lrep (D.llen (nthL (WO7_3 D) 0)) [.z (D.zc 0)])
def WO7_28 (D : Dom)  : D.B := (E3 D (D.llen (nthL (WO7_3 D) 0)) (D.llen (nthL (WO7_3 D) 0)) (D.llen (nthL (WO7_3 D) 0)) (nthL (WO7_3 D) 0) (WO7_25 D) (D.llen (nthL (WO7_3 D) 0)) (D.llen (nthL (WO7_3 D) 0)) D.lnil D.lnil (D.zc 0) (WO7_26 D) (WO7_27 D))
def WO7_29 (D : Dom)  : List (PD D) := (L3 D (D.llen (nthL (WO7_3 D) 0)) (D.llen (nthL (WO7_3 D) 0)) (D.llen (nthL (WO7_3 D) 0)) (nthL (WO7_3 D) 0) (WO7_25 D) (D.llen (nthL (WO7_3 D) 0)) (D.llen (nthL (WO7_3 D) 0)) D.lnil D.lnil (D.zc 0) (WO7_26 D) (WO7_27 D))
def WO7_30 (D : Dom)  : D.B := (E4 D (WO7_25 D) (D.llen (nthL (WO7_3 D) 0)) (D.llen (nthL (WO7_3 D) 0)) (nthL (WO7_29 D) 0) (nthL (WO7_29 D) 1) (nthL (WO7_29 D) 4) (nthL (WO7_29 D) 3))
def WO7_31 (D : Dom)  : D.Z := (D.zmul .i64 (D.llen (nthL (WO7_3 D) 0)) (WO7_25 D))
def WO7_32 (D : Dom)  : D.F := (D.fmul (D.fite (D.bnot (D.bite (D.fge (D.fc 0) (D.fc 0)) (D.flt (D.fc 0) (D.fc 4607182418800017408)) (D.bc false))) (D.fc 0) (D.fc 0)) (D.i2f (WO7_31 D)))
def WO7_33 (D : Dom)  : D.Z := (D.zmin (D.f2i .i64 (WO7_32 D)) (D.zsub .i64 (WO7_31 D) (D.zc 1)))
def WO7_34 (D : Dom)  : D.B := (D.bite (D.zlt (WO7_33 D) (D.zc 0)) (D.bc true) (D.zle (WO7_31 D) (WO7_33 D)))
def WO7_35 (D : Dom)  : D.B := (D.band (D.zle (D.zc 0) (D.zquo .i64 (WO7_33 D) (WO7_25 D))) (D.zlt (D.zquo .i64 (WO7_33 D) (WO7_25 D)) (D.llen (nthL (WO7_3 D) 0))))
def WO7_36 (D : Dom)  : List (PD D) := (L4 D (WO7_25 D) (D.llen (nthL (WO7_3 D) 0)) (D.llen (nthL (WO7_3 D) 0)) (nthL (WO7_29 D) 0) (nthL (WO7_29 D) 1) (nthL (WO7_29 D) 4) (nthL (WO7_29 D) 3))
def WO7_37 (D : Dom)  : D.B := (D.zlt (D.zrem .i64 (WO7_33 D) (WO7_25 D)) (D.lz (nthL (WO7_36 D) 3) (D.zquo .i64 (WO7_33 D) (WO7_25 D)) 0))
def WO7_38 (D : Dom)  : D.Z := (D.zite (WO7_34 D) (D.zc (-1)) (D.zite (WO7_37 D) (D.zquo .i64 (WO7_33 D) (WO7_25 D)) (D.lz (nthL (WO7_36 D) 3) (D.zquo .i64 (WO7_33 D) (WO7_25 D)) 1)))
def WO7_39 (D : Dom)  : D.F := (D.i2f (D.zrem .i64 (WO7_38 D) (D.zc 8)))
def WO7_40 (D : Dom)  : D.F := (D.fite (D.flt (D.fadd (WO7_39 D) (S38_0 D (D.fc 0))) (D.fadd (WO7_39 D) (D.fc 4607182418800017408))) (D.fmul (D.fadd (WO7_39 D) (S38_0 D (D.fc 0))) (D.fc 4593671619917905920)) (D.fmul (WO7_39 D) (D.fc 4593671619917905920)))
def WO7_41 (D : Dom)  : D.F := (D.fsub (D.fc 4607182418800017408) (D.fmul (D.fc 4611686018427387904) (D.fdiv (D.fadd (D.i2f (D.zquo .i64 (WO7_38 D) (D.zc 8))) (S38_0 D (D.fc 4602678819172646912))) (D.i2f (nthZ (WO7_1 D) 2)))))
def WO7_42 (D : Dom)  : D.F := (S39_0 D (D.fmax (D.fc 0) (D.fsub (D.fc 4607182418800017408) (D.fmul (WO7_41 D) (WO7_41 D)))))
def WO7_43 (D : Dom)  : D.B := (D.bnot (S33_0 D (D.fmul (S41_0 D (WO7_40 D)) (WO7_42 D)) (D.fmul (S41_1 D (WO7_40 D)) (WO7_42 D)) (WO7_41 D)))
def WO7_44 (D : Dom)  : D.F := (D.fmul (D.fmul (D.fsub (D.fc 4607182418800017408) (WO7_41 D)) (D.fc 4602678819172646912)) (D.i2f (nthZ (WO7_1 D) 2)))
def WO7_45 (D : Dom)  : D.B := (D.flt (WO7_44 D) (D.fc 4607182418800017408))
def WO7_46 (D : Dom)  : D.B := (D.bite (WO7_45 D) (D.bc true) (D.fge (WO7_44 D) (D.i2f (nthZ (WO7_1 D) 2))))
def WO7_47 (D : Dom)  : D.Z := (D.zite (WO7_43 D) (D.zc (-1)) (D.zadd .i64 (D.zmul .i64 (D.zc 8) (D.zite (WO7_46 D) (D.zite (WO7_45 D) (D.zc 0) (WO7_16 D)) (D.f2i .i64 (WO7_44 D)))) (S35_0 D (D.fmul (S41_0 D (WO7_40 D)) (WO7_42 D)) (D.fmul (S41_1 D (WO7_40 D)) (WO7_42 D)))))
def WO7_48 (D : Dom)  : D.Z := (D.zite (WO7_21 D) (D.zc (-1)) (D.zadd .i64 (WO7_17 D) (S35_0 D (D.fc 4607182418800017408) (D.fc 0))))
def WO7_49 (D : Dom)  : D.B := (D.zlt (WO7_48 D) (D.llen (nthL (WO7_3 D) 0)))
def WO7_50 (D : Dom)  : D.B := (D.bite (D.bnot (D.zeq (D.zite (WO7_4 D) (D.zc 4) (D.zite (WO7_7 D) (D.zc 2) (D.zite (WO7_9 D) (D.zite (WO7_8 D) (D.zc 2) (D.zc 13)) (D.zc 0)))) (D.zc 0))) (D.band (WO7_15 D) (D.band (D.bite (WO7_18 D) (D.band (D.bite (WO7_19 D) (D.bc true) (WO7_14 D)) (D.bite (D.zlt (WO7_20 D) (D.zc 0)) (D.bc true) (D.band (D.zle (D.zc 0) (WO7_20 D)) (D.zlt (WO7_20 D) (D.llen (nthL (WO7_1 D) 0)))))) (D.bc true)) (D.bite (D.bite (WO7_18 D) (D.feq (D.fite (D.zlt (WO7_20 D) (D.zc 0)) (D.fc 0) (D.lf (nthL (WO7_1 D) 0) (WO7_20 D) 1)) (D.fc 4607182418800017408)) (D.bc false)) (WO7_22 D) (D.bc true)))) (D.band (WO7_23 D) (D.band (WO7_24 D) (D.band (WO7_24 D) (D.band (WO7_28 D) (D.band (WO7_30 D) (D.band (D.band (D.band (D.f2iok .i64 (WO7_32 D)) (D.bite (WO7_34 D) (D.bc true) (D.band (D.bnot (D.zeq (WO7_25 D) (D.zc 0))) (D.band (D.bnot (D.zeq (WO7_25 D) (D.zc 0))) (D.band (WO7_35 D) (D.bite (WO7_37 D) (D.bc true) (WO7_35 D))))))) (D.band (D.bnot (D.zeq (D.zc 8) (D.zc 0))) (D.band (D.bnot (D.zeq (D.zc 8) (D.zc 0))) (O41 D (WO7_40 D))))) (D.band (WO7_15 D) (D.band (D.bite (WO7_18 D) (D.band (D.bite (WO7_43 D) (D.bc true) (D.bite (WO7_46 D) (D.bc true) (D.f2iok .i64 (WO7_44 D)))) (D.bite (D.zlt (WO7_47 D) (D.zc 0)) (D.bc true) (D.band (D.zle (D.zc 0) (WO7_47 D)) (D.zlt (WO7_47 D) (D.llen (nthL (WO7_1 D) 0)))))) (D.bc true)) (D.bite (D.bite (WO7_18 D) (D.feq (D.fite (D.zlt (WO7_47 D) (D.zc 0)) (D.fc 0) (D.lf (nthL (WO7_1 D) 0) (WO7_47 D) 1)) (D.fc 4607182418800017408)) (D.bc false)) (D.band (WO7_22 D) (D.bite (D.bite (D.zlt (WO7_48 D) (D.zc 0)) (D.bc true) (D.bc false)) (D.bc true) (D.bite (D.bnot (D.bite (D.zle (D.zc 0) (WO7_48 D)) (WO7_49 D) (D.bc false))) (D.bc true) (D.band (D.zle (D.zc 0) (WO7_48 D)) (WO7_49 D))))) (D.bc true)))))))))))
def O7 (D : Dom) : D.B := (D.band (WO7_0 D) (D.bite (D.bite (D.bite (D.zlt (nthZ (WO7_1 D) 2) (D.zc 1)) (D.bc true) (D.zlt (D.zc 16) (nthZ (WO7_1 D) 2))) (D.bc true) (D.bnot (D.zeq (D.llen (nthL (WO7_1 D) 0)) (D.zmul .i64 (D.zc 8) (nthZ (WO7_1 D) 2))))) (D.bc true) (D.band (WO7_2 D) (D.bite (D.zlt (nthZ (WO7_3 D) 2) (D.llen (nthL (WO7_1 D) 0))) (D.bc true) (D.band (D.zle (D.llen (nthL (WO7_1 D) 0)) (D.zc 1073741824)) (D.band (D.bite (WO7_4 D) (D.bc true) (WO7_5 D)) (WO7_50 D)))))))
theorem ev7 (D : Dom)  : joinT (evFnH Try.prog (tbl_35 D) (lt_5 D) 80 7 [] [] 0) = .val (some (O7 D)) (.sb (S7_0 D)) := by kernel_rfl
def sp7 : Ev.Spec := fun D l => arg0 l (.node (O7 D) (.ret (.sb (S7_0 D))) (.fail "pre"))
theorem en7 : ∀ l r, (sp7 R l).run = some r → Entry Try.prog 7 l r := by
  intro l r h
  obtain ⟨h, L0⟩ := arg0_inv h
  obtain ⟨hok, rfl⟩ := run_okay h
  exact (entry_loops prg tok_35 hok_5 (ev7 R ) (fun o ho => (Option.some.inj ho) ▸ hok) rfl).le L0
def tl_7 : List (Nat × Ev.Spec) := (7, sp7) :: tl_35
def tbl_7 (D : Dom) : Tbl D := tblOf tl_7 D
theorem tok_7 : TblOK Try.prog (tbl_7 R) := TblOK.cons tok_35 en7

-- penumbra/penumbraref02.Number
def S51_0 (D : Dom) (a0 : D.F) : D.B := (D.feq (D.fsub a0 a0) (D.fc 0))
theorem ev51 (D : Dom) (a0 : D.F) : joinT (evFnH Try.prog (tbl_7 D) (lt_5 D) 80 51 [.fl a0] [] 0) = .val none (.sb (S51_0 D a0)) := by kernel_rfl
def sp51 : Ev.Spec := fun D l => argF l fun a0 r0 => arg0 r0 (.ret (.sb (S51_0 D a0)))
theorem en51 : ∀ l r, (sp51 R l).run = some r → Entry Try.prog 51 l r := by
  intro l r h
  obtain ⟨x0, _, h, L0⟩ := argF_inv h
  obtain ⟨h, L1⟩ := arg0_inv h
  cases h
  exact (entry_loops prg tok_7 hok_5 (ev51 R x0) (fun o ho => nomatch ho) rfl).le (L0 _ L1)
def tl_51 : List (Nat × Ev.Spec) := (51, sp51) :: tl_7
def tbl_51 (D : Dom) : Tbl D := tblOf tl_51 D
theorem tok_51 : TblOK Try.prog (tbl_51 R) := TblOK.cons tok_7 en51

-- penumbra/penumbraref05.Good
def S28_0 (D : Dom) (a0 : D.F) (a1 : D.F) (a2 : D.F) : D.B := (D.bite (D.bite (D.bite (D.bite (D.bite (S51_0 D a0) (S51_0 D a1) (D.bc false)) (S51_0 D a2) (D.bc false)) (D.fge a0 (D.fc 0)) (D.bc false)) (D.fge a1 (D.fc 0)) (D.bc false)) (D.fge a2 (D.fc 0)) (D.bc false))
theorem ev28 (D : Dom) (a0 : D.F) (a1 : D.F) (a2 : D.F) : joinT (evFnH Try.prog (tbl_51 D) (lt_5 D) 80 28 [.agg [.fl a0, .fl a1, .fl a2]] [] 0) = .val none (.sb (S28_0 D a0 a1 a2)) := by kernel_rfl
def sp28 : Ev.Spec := fun D l => argA l fun c0 r0 => argF c0 fun a0 r1 => argF r1 fun a1 r2 => argF r2 fun a2 r3 => arg0 r3 (arg0 r0 (.ret (.sb (S28_0 D a0 a1 a2))))
theorem en28 : ∀ l r, (sp28 R l).run = some r → Entry Try.prog 28 l r := by
  intro l r h
  obtain ⟨_, _, h, L0⟩ := argA_inv h
  obtain ⟨x1, _, h, L1⟩ := argF_inv h
  obtain ⟨x2, _, h, L2⟩ := argF_inv h
  obtain ⟨x3, _, h, L3⟩ := argF_inv h
  obtain ⟨h, L4⟩ := arg0_inv h
  obtain ⟨h, L5⟩ := arg0_inv h
  cases h
  exact (entry_loops prg tok_51 hok_5 (ev28 R x1 x2 x3) (fun o ho => nomatch ho) rfl).le (L0 _ _ (L1 _ (L2 _ (L3 _ L4))) L5)
def tl_28 : List (Nat × Ev.Spec) := (28, sp28) :: tl_51
def tbl_28 (D : Dom) : Tbl D := tblOf tl_28 D
theorem tok_28 : TblOK Try.prog (tbl_28 R) := TblOK.cons tok_51 en28

-- penumbra/penumbraref05.Mean
def S52_0 (D : Dom) (a0 : D.F) (a1 : D.F) (a2 : D.F) : D.F := (D.fdiv (D.fadd (D.fadd a0 a1) a2) (D.fc 4613937818241073152))
theorem ev52 (D : Dom) (a0 : D.F) (a1 : D.F) (a2 : D.F) : joinT (evFnH Try.prog (tbl_28 D) (lt_5 D) 80 52 [.agg [.fl a0, .fl a1, .fl a2]] [] 0) = .val none (.fl (S52_0 D a0 a1 a2)) := by kernel_rfl
def sp52 : Ev.Spec := fun D l => argA l fun c0 r0 => argF c0 fun a0 r1 => argF r1 fun a1 r2 => argF r2 fun a2 r3 => arg0 r3 (arg0 r0 (.ret (.fl (S52_0 D a0 a1 a2))))
theorem en52 : ∀ l r, (sp52 R l).run = some r → Entry Try.prog 52 l r := by
  intro l r h
  obtain ⟨_, _, h, L0⟩ := argA_inv h
  obtain ⟨x1, _, h, L1⟩ := argF_inv h
  obtain ⟨x2, _, h, L2⟩ := argF_inv h
  obtain ⟨x3, _, h, L3⟩ := argF_inv h
  obtain ⟨h, L4⟩ := arg0_inv h
  obtain ⟨h, L5⟩ := arg0_inv h
  cases h
  exact (entry_loops prg tok_28 hok_5 (ev52 R x1 x2 x3) (fun o ho => nomatch ho) rfl).le (L0 _ _ (L1 _ (L2 _ (L3 _ L4))) L5)
def tl_52 : List (Nat × Ev.Spec) := (52, sp52) :: tl_28
def tbl_52 (D : Dom) : Tbl D := tblOf tl_52 D
theorem tok_52 : TblOK Try.prog (tbl_52 R) := TblOK.cons tok_28 en52

-- penumbra/penumbraref05.Weight
def S29_0 (D : Dom) (a0 : D.F) (a1 : D.F) (a2 : D.F) : D.Z := (D.zite (D.bite (D.bnot (S28_0 D a0 a1 a2)) (D.bc true) (D.bite (D.feq a0 (D.fc 0)) (D.bite (D.feq a1 (D.fc 0)) (D.feq a2 (D.fc 0)) (D.bc false)) (D.bc false))) (D.zc 0) (D.zite (D.fge (D.fmul (S52_0 D a0 a1 a2) (D.fc 4625196817309499392)) (D.fc 4697254411347427328)) (D.zc 1048576) (D.zite (D.flt (D.fmul (S52_0 D a0 a1 a2) (D.fc 4625196817309499392)) (D.fc 4607182418800017408)) (D.zc 1) (D.f2i .i64 (D.fmul (S52_0 D a0 a1 a2) (D.fc 4625196817309499392))))))
def O29 (D : Dom) (a0 : D.F) (a1 : D.F) (a2 : D.F) : D.B := (D.bite (D.bite (D.bnot (S28_0 D a0 a1 a2)) (D.bc true) (D.bite (D.feq a0 (D.fc 0)) (D.bite (D.feq a1 (D.fc 0)) (D.feq a2 (D.fc 0)) (D.bc false)) (D.bc false))) (D.bc true) (D.bite (D.fge (D.fmul (S52_0 D a0 a1 a2) (D.fc 4625196817309499392)) (D.fc 4697254411347427328)) (D.bc true) (D.bite (D.flt (D.fmul (S52_0 D a0 a1 a2) (D.fc 4625196817309499392)) (D.fc 4607182418800017408)) (D.bc true) (D.f2iok .i64 (D.fmul (S52_0 D a0 a1 a2) (D.fc 4625196817309499392))))))
theorem ev29 (D : Dom) (a0 : D.F) (a1 : D.F) (a2 : D.F) : joinT (evFnH Try.prog (tbl_52 D) (lt_5 D) 80 29 [.agg [.fl a0, .fl a1, .fl a2]] [] 0) = .val (some (O29 D a0 a1 a2)) (.si .i64 (S29_0 D a0 a1 a2)) := by kernel_rfl
def sp29 : Ev.Spec := fun D l => argA l fun c0 r0 => argF c0 fun a0 r1 => argF r1 fun a1 r2 => argF r2 fun a2 r3 => arg0 r3 (arg0 r0 (.node (O29 D a0 a1 a2) (.ret (.si .i64 (S29_0 D a0 a1 a2))) (.fail "pre")))
theorem en29 : ∀ l r, (sp29 R l).run = some r → Entry Try.prog 29 l r := by
  intro l r h
  obtain ⟨_, _, h, L0⟩ := argA_inv h
  obtain ⟨x1, _, h, L1⟩ := argF_inv h
  obtain ⟨x2, _, h, L2⟩ := argF_inv h
  obtain ⟨x3, _, h, L3⟩ := argF_inv h
  obtain ⟨h, L4⟩ := arg0_inv h
  obtain ⟨h, L5⟩ := arg0_inv h
  obtain ⟨hok, rfl⟩ := run_okay h
  exact (entry_loops prg tok_52 hok_5 (ev29 R x1 x2 x3) (fun o ho => (Option.some.inj ho) ▸ hok) rfl).le (L0 _ _ (L1 _ (L2 _ (L3 _ L4))) L5)
def tl_29 : List (Nat × Ev.Spec) := (29, sp29) :: tl_52
def tbl_29 (D : Dom) : Tbl D := tblOf tl_29 D
theorem tok_29 : TblOK Try.prog (tbl_29 R) := TblOK.cons tok_52 en29

-- loop 5
def C5 (D : Dom) (a0 : D.Z) (a1 : D.L) (a3 : D.Z) : D.B := (D.band (D.zlt a3 a0) (D.bite (D.band (D.zle (D.zc 0) a3) (D.zlt a3 a0)) (D.bnot (D.bnot (S28_0 D (D.lf a1 a3 0) (D.lf a1 a3 1) (D.lf a1 a3 2)))) (D.bc true)))
def O5_ (D : Dom) (a0 : D.Z) (a3 : D.Z) : D.B := (D.bite (D.zlt a3 a0) (D.band (D.zle (D.zc 0) a3) (D.zlt a3 a0)) (D.bc true))
def N5_1 (D : Dom) (a3 : D.Z) : D.Z := (D.zadd .i64 a3 (D.zc 1))
def G5 (D : Dom) (a0 : D.Z) (a1 : D.L) (p : List (PD D)) : D.B × D.B × List (PD D) := (C5 D a0 a1 (nthZ p 1), O5_ D a0 (nthZ p 1), [.b (nthB p 0), .z (N5_1 D (nthZ p 1))])
def L5 (D : Dom) (a0 : D.Z) (a1 : D.L) (a2 : D.B) (a3 : D.Z) : List (PD D) := D.last (G5 D a0 a1) [.b a2, .z a3]
def E5 (D : Dom) (a0 : D.Z) (a1 : D.L) (a2 : D.B) (a3 : D.Z) : D.B := D.ends (G5 D a0 a1) [.b a2, .z a3]

-- loop 6
def C6 (D : Dom) (a0 : D.Z) (a3 : D.Z) : D.B := (D.zlt a3 a0)
def O6_ (D : Dom) (a0 : D.Z) (a1 : D.L) (a2 : D.L) (a3 : D.Z) : D.B := (D.bite (D.zlt a3 a0) (D.band (D.band (D.zle (D.zc 0) a3) (D.zlt a3 a0)) (D.band (O29 D (D.lf a1 a3 0) (D.lf a1 a3 1) (D.lf a1 a3 2)) (D.zle (D.llen (D.lapp a2 [[.z (S29_0 D (D.lf a1 a3 0) (D.lf a1 a3 1) (D.lf a1 a3 2))]])) (D.zc 1073741824)))) (D.bc true))
def N6_0 (D : Dom) (a1 : D.L) (a2 : D.L) (a3 : D.Z) : D.L := (D.lapp a2 [[.z (S29_0 D (D.lf a1 a3 0) (D.lf a1 a3 1) (D.lf a1 a3 2))]])
def N6_1 (D : Dom) (a3 : D.Z) : D.Z := (D.zadd .i64 a3 (D.zc 1))
def G6 (D : Dom) (a0 : D.Z) (a1 : D.L) (p : List (PD D)) : D.B × D.B × List (PD D) := (C6 D a0 (nthZ p 1), O6_ D a0 a1 (nthL p 0) (nthZ p 1), [.l (N6_0 D a1 (nthL p 0) (nthZ p 1)), .z (N6_1 D (nthZ p 1))])
def L6 (D : Dom) (a0 : D.Z) (a1 : D.L) (a2 : D.L) (a3 : D.Z) : List (PD D) := D.last (G6 D a0 a1) [.l a2, .z a3]
def E6 (D : Dom) (a0 : D.Z) (a1 : D.L) (a2 : D.L) (a3 : D.Z) : D.B := D.ends (G6 D a0 a1) [.l a2, .z a3]

-- loop 7
def C7 (D : Dom) (a0 : D.Z) (a1 : D.L) (a4 : D.Z) : D.B := (D.band (D.zlt a4 a0) (D.bite (D.band (D.band (D.zle (D.zc 0) a4) (D.zlt a4 a0)) (D.band (D.bite (D.zlt (D.lz a1 a4 0) (D.zc 0)) (D.bc true) (D.band (D.zle (D.zc 0) a4) (D.zlt a4 a0))) (D.bite (D.bite (D.zlt (D.lz a1 a4 0) (D.zc 0)) (D.bc true) (D.zlt (D.zc 1048576) (D.lz a1 a4 0))) (D.bc true) (D.band (D.zle (D.zc 0) a4) (D.zlt a4 a0))))) (D.bnot (D.bite (D.zlt (D.lz a1 a4 0) (D.zc 0)) (D.bc true) (D.zlt (D.zc 1048576) (D.lz a1 a4 0)))) (D.bc true)))
def O7_ (D : Dom) (a0 : D.Z) (a1 : D.L) (a4 : D.Z) : D.B := (D.bite (D.zlt a4 a0) (D.band (D.band (D.zle (D.zc 0) a4) (D.zlt a4 a0)) (D.band (D.bite (D.zlt (D.lz a1 a4 0) (D.zc 0)) (D.bc true) (D.band (D.zle (D.zc 0) a4) (D.zlt a4 a0))) (D.bite (D.bite (D.zlt (D.lz a1 a4 0) (D.zc 0)) (D.bc true) (D.zlt (D.zc 1048576) (D.lz a1 a4 0))) (D.bc true) (D.band (D.zle (D.zc 0) a4) (D.zlt a4 a0))))) (D.bc true))
def N7_1 (D : Dom) (a1 : D.L) (a3 : D.Z) (a4 : D.Z) : D.Z := (D.zadd .i64 a3 (D.lz a1 a4 0))
def N7_2 (D : Dom) (a4 : D.Z) : D.Z := (D.zadd .i64 a4 (D.zc 1))
def G7 (D : Dom) (a0 : D.Z) (a1 : D.L) (p : List (PD D)) : D.B × D.B × List (PD D) := (C7 D a0 a1 (nthZ p 2), O7_ D a0 a1 (nthZ p 2), [.z (nthZ p 0), .z (N7_1 D a1 (nthZ p 1) (nthZ p 2)), .z (N7_2 D (nthZ p 2))])
def L7 (D : Dom) (a0 : D.Z) (a1 : D.L) (a2 : D.Z) (a3 : D.Z) (a4 : D.Z) : List (PD D) := D.last (G7 D a0 a1) [.z a2, .z a3, .z a4]
def E7 (D : Dom) (a0 : D.Z) (a1 : D.L) (a2 : D.Z) (a3 : D.Z) (a4 : D.Z) : D.B := D.ends (G7 D a0 a1) [.z a2, .z a3, .z a4]
def sh_5 : HSh := ⟨3, 7, [.ctx, .ctx, .var (.nilp), .var (.si .i64 ()), .slot [.z .i64] 1, .env (.undef), .drop, .env (.undef), .ctx, .ctx, .ctx, .ctx, .env (.any), .env (.any), .env (.any), .ctx, .ctx, .env (.any), .env (.any), .env (.any), .env (.any), .env (.any), .env (.any), .env (.any), .ctx, .ctx, .env (.sslice 0 .part none () 3), .env (.si .i64 ()), .var (.si .i64 ()), .drop, .drop, .drop, .drop, .drop, .drop, .drop, .drop, .drop, .drop, .drop, .drop, .env (.undef), .env (.undef), .env (.undef), .env (.undef), .env (.undef), .env (.undef), .env (.undef), .env (.undef), .env (.undef), .env (.undef), .env (.undef), .env (.undef), .env (.undef), .env (.undef), .env (.undef), .env (.undef), .env (.undef)], [], [(0, [.row true [.f, .f, .f] ()])], []⟩
def st_5 (D : Dom) (env p : List (PD D)) : D.B × D.B × List (PD D) := G1 D (nthZ env 0) (nthZ env 1) (nthL env 2) p
theorem rd_5 (D : Dom) (env vars : List (PD D)) (ctx : List (AV D)) : (sh_5.round (sh_5.st env vars ctx).h.length (evCodeH Try.prog (tbl_29 D) (lt_5 D) 80 8 (loopB Try.prog 8 0) (sh_5.st env vars ctx))).map Nr.step = some (st_5 D env vars) := by kernel_rfl
noncomputable def ll_6 (D : Dom) : List (LE D) := ⟨8, 0, sh_5, st_5 D, fun s => evCodeH Try.prog (tbl_29 D) (lt_5 D) 80 8 (loopB Try.prog 8 0) s⟩ :: ll_5 D
noncomputable def lt_6 (D : Dom) : LTb D := ltOf (ll_6 D)
theorem hok_6 : HooksOK Try.prog (lt_6 R) := HooksOK.cons prg tok_29 hok_5 (by kernel_rfl) (by kernel_rfl) (rd_5 R)
def sh_6 : HSh := ⟨9, 9, [.ctx, .env (.undef), .var (.si .i64 ()), .var (.si .i64 ()), .var (.si .i64 ()), .env (.undef), .drop, .ctx, .ctx, .ctx, .env (.sslice 3 .whole none () 1), .env (.si .i64 ()), .var (.si .i64 ()), .drop, .drop, .drop, .drop, .drop, .drop, .drop, .drop, .drop, .drop, .drop, .drop, .drop, .env (.undef), .env (.undef), .env (.undef), .env (.undef), .env (.undef), .env (.undef), .env (.undef), .env (.undef)], [], [(3, [.row false [.z .i64] ()])], []⟩
def st_6 (D : Dom) (env p : List (PD D)) : D.B × D.B × List (PD D) := G2 D (nthZ env 0) (nthZ env 1) (nthL env 2) p
theorem rd_6 (D : Dom) (env vars : List (PD D)) (ctx : List (AV D)) : (sh_6.round (sh_6.st env vars ctx).h.length (evCodeH Try.prog (tbl_29 D) (lt_6 D) 80 49 (loopB Try.prog 49 0) (sh_6.st env vars ctx))).map Nr.step = some (st_6 D env vars) := by kernel_rfl
noncomputable def ll_7 (D : Dom) : List (LE D) := ⟨49, 0, sh_6, st_6 D, fun s => evCodeH Try.prog (tbl_29 D) (lt_6 D) 80 49 (loopB Try.prog 49 0) s⟩ :: ll_6 D
noncomputable def lt_7 (D : Dom) : LTb D := ltOf (ll_7 D)
theorem hok_7 : HooksOK Try.prog (lt_7 R) := HooksOK.cons prg tok_29 hok_6 (by kernel_rfl) (by kernel_rfl) (rd_6 R)
def sh_7 : HSh := ⟨17, 21, [.env (.sslice 3 .whole none () 1), .env (.undef), .env (.nilp), .env (.ki .i64 0), .env (.ptr 9 0), .ctx, .env (.ptr 12 0), .env (.ptr 14 0), .ctx, .ctx, .env (.clo 50 [] [.ptr 14 0, .ptr 9 0, .ptr 15 0, .ptr 16 0]), .drop, .drop, .env (.undef), .env (.undef), .env (.undef), .env (.undef), .ctx, .ctx, .ctx, .ctx, .ctx, .ctx, .ctx, .env (.undef), .ctx, .ctx, .ctx, .ctx, .ctx, .ctx, .ctx, .ctx, .ctx, .ctx, .ctx, .ctx, .env (.sslice 3 .whole none () 1), .env (.si .i64 ()), .var (.si .i64 ()), .drop, .drop, .drop, .drop, .drop, .drop, .drop, .drop, .drop, .drop, .drop, .drop, .drop, .drop, .drop, .drop, .drop, .drop, .drop, .drop, .drop, .drop, .drop, .drop, .env (.undef), .env (.undef), .env (.undef), .env (.undef), .env (.undef), .env (.undef), .env (.undef), .env (.undef), .env (.undef), .env (.undef), .env (.undef), .env (.undef), .env (.undef), .env (.undef), .env (.undef), .env (.undef), .env (.undef), .env (.undef), .env (.undef), .env (.undef), .env (.undef), .env (.undef), .env (.undef), .env (.undef), .env (.undef), .env (.undef), .env (.undef), .env (.undef), .env (.undef), .env (.undef), .env (.undef), .env (.undef), .env (.undef), .env (.undef), .env (.undef), .env (.undef), .env (.undef), .env (.undef), .env (.undef), .env (.undef), .env (.undef), .env (.undef), .env (.undef), .env (.undef), .env (.undef), .env (.undef), .env (.undef), .env (.undef), .env (.undef), .env (.undef), .env (.undef), .env (.undef), .env (.undef), .env (.undef), .env (.undef), .env (.undef), .env (.undef), .env (.undef), .env (.undef), .env (.undef), .env (.undef), .env (.undef), .env (.undef), .env (.undef)], [(15, .cells [.slot [.z .i64] 1]), (11, .row [.z .i64, .z .i64]), (13, .row [.z .i64]), (16, .cells [.slot [.z .i64] 1])], [(3, [.row false [.z .i64] ()]), (9, [.si .i64 ()]), (12, [.sslice 10 .whole none () 1, .si .i64 (), .sslice 11 .whole none () 2]), (14, [.sslice 13 .whole none () 1]), (10, [.row false [.z .i64] ()])], []⟩
def st_7 (D : Dom) (env p : List (PD D)) : D.B × D.B × List (PD D) := G3 D (nthZ env 0) (nthZ env 1) (nthZ env 2) (nthL env 3) (nthZ env 4) (nthZ env 7) (nthZ env 8) p
theorem rd_7 (D : Dom) (env vars : List (PD D)) (ctx : List (AV D)) : (sh_7.round (sh_7.st env vars ctx).h.length (evCodeH Try.prog (tbl_29 D) (lt_7 D) 80 27 (loopB Try.prog 27 0) (sh_7.st env vars ctx))).map Nr.step = some (st_7 D env vars) := by kernel_rfl
noncomputable def ll_8 (D : Dom) : List (LE D) := ⟨27, 0, sh_7, st_7 D, fun s => evCodeH Try.prog (tbl_29 D) (lt_7 D) 80 27 (loopB Try.prog 27 0) s⟩ :: ll_7 D
noncomputable def lt_8 (D : Dom) : LTb D := ltOf (ll_8 D)
theorem hok_8 : HooksOK Try.prog (lt_8 R) := HooksOK.cons prg tok_29 hok_7 (by kernel_rfl) (by kernel_rfl) (rd_7 R)
def sh_8 : HSh := ⟨21, 27, [.ctx, .env (.undef), .env (.nilp), .env (.ki .i64 0), .env (.ptr 9 0), .ctx, .env (.ptr 12 0), .env (.ptr 14 0), .env (.ptr 15 0), .env (.ptr 16 0), .env (.clo 50 [] [.ptr 14 0, .ptr 9 0, .ptr 15 0, .ptr 16 0]), .env (.any), .env (.any), .drop, .drop, .drop, .drop, .ctx, .ctx, .ctx, .ctx, .ctx, .ctx, .ctx, .env (.undef), .ctx, .ctx, .ctx, .ctx, .ctx, .ctx, .ctx, .ctx, .ctx, .ctx, .ctx, .ctx, .ctx, .ctx, .ctx, .ctx, .env (.any), .env (.any), .env (.any), .env (.any), .env (.any), .env (.any), .env (.any), .env (.any), .env (.any), .env (.any), .env (.any), .env (.any), .env (.any), .env (.any), .env (.any), .env (.any), .env (.any), .env (.any), .env (.any), .env (.any), .env (.any), .env (.any), .env (.any), .drop, .drop, .drop, .drop, .drop, .drop, .drop, .drop, .drop, .drop, .drop, .drop, .drop, .drop, .drop, .drop, .drop, .drop, .drop, .drop, .drop, .drop, .drop, .drop, .drop, .drop, .drop, .drop, .drop, .drop, .drop, .drop, .drop, .drop, .drop, .drop, .drop, .drop, .drop, .drop, .drop, .drop, .drop, .drop, .drop, .drop, .drop, .drop, .drop, .drop, .drop, .drop, .drop, .drop, .drop, .drop, .drop, .drop, .drop, .drop, .drop, .drop, .drop, .env (.undef)], [(13, .row [.z .i64]), (11, .row [.z .i64, .z .i64]), (15, .cells [.slot [.z .i64] 1]), (16, .cells [.slot [.z .i64] 1])], [(9, [.si .i64 ()]), (12, [.sslice 10 .whole none () 1, .si .i64 (), .sslice 11 .whole none () 2]), (14, [.sslice 13 .whole none () 1]), (10, [.row false [.z .i64] ()])], [17, 18]⟩
def st_8 (D : Dom) (env p : List (PD D)) : D.B × D.B × List (PD D) := G4 D (nthZ env 0) (nthZ env 3) (nthZ env 4) p
theorem rd_8 (D : Dom) (env vars : List (PD D)) (ctx : List (AV D)) : (sh_8.round (sh_8.st env vars ctx).h.length (evCodeH Try.prog (tbl_29 D) (lt_8 D) 80 27 (loopB Try.prog 27 2) (sh_8.st env vars ctx))).map Nr.step = some (st_8 D env vars) := by kernel_rfl
noncomputable def ll_9 (D : Dom) : List (LE D) := ⟨27, 2, sh_8, st_8 D, fun s => evCodeH Try.prog (tbl_29 D) (lt_8 D) 80 27 (loopB Try.prog 27 2) s⟩ :: ll_8 D
noncomputable def lt_9 (D : Dom) : LTb D := ltOf (ll_9 D)
theorem hok_9 : HooksOK Try.prog (lt_9 R) := HooksOK.cons prg tok_29 hok_8 (by kernel_rfl) (by kernel_rfl) (rd_8 R)
def sh_9 : HSh := ⟨4, 4, [.ctx, .env (.ptr 3 0), .var (.sb ()), .var (.si .i64 ()), .ctx, .ctx, .ctx, .ctx, .env (.any), .env (.any), .env (.any), .ctx, .ctx, .env (.any), .env (.any), .env (.any), .env (.any), .env (.any), .env (.any), .env (.any), .ctx, .drop, .drop, .drop, .drop, .drop, .drop, .drop, .drop, .drop, .drop, .drop, .drop, .drop, .drop], [], [(3, [.si .i64 (), .sslice 0 .part none () 3]), (0, [.row true [.f, .f, .f] ()])], []⟩
def st_9 (D : Dom) (env p : List (PD D)) : D.B × D.B × List (PD D) := G5 D (nthZ env 1) (nthL env 2) p
theorem rd_9 (D : Dom) (env vars : List (PD D)) (ctx : List (AV D)) : (sh_9.round (sh_9.st env vars ctx).h.length (evCodeH Try.prog (tbl_29 D) (lt_9 D) 80 9 (loopB Try.prog 9 0) (sh_9.st env vars ctx))).map Nr.step = some (st_9 D env vars) := by kernel_rfl
noncomputable def ll_10 (D : Dom) : List (LE D) := ⟨9, 0, sh_9, st_9 D, fun s => evCodeH Try.prog (tbl_29 D) (lt_9 D) 80 9 (loopB Try.prog 9 0) s⟩ :: ll_9 D
noncomputable def lt_10 (D : Dom) : LTb D := ltOf (ll_10 D)
theorem hok_10 : HooksOK Try.prog (lt_10 R) := HooksOK.cons prg tok_29 hok_9 (by kernel_rfl) (by kernel_rfl) (rd_9 R)
def sh_10 : HSh := ⟨5, 8, [.ctx, .env (.ptr 4 0), .env (.nils), .slot [.z .i64] 1, .var (.si .i64 ()), .drop, .drop, .drop, .drop, .drop, .drop, .drop, .drop, .drop, .drop, .drop, .drop, .drop, .drop, .drop, .drop, .env (.undef)], [], [(4, [.si .i64 (), .sslice 0 .part none () 3]), (0, [.row true [.f, .f, .f] ()])], []⟩
def st_10 (D : Dom) (env p : List (PD D)) : D.B × D.B × List (PD D) := G6 D (nthZ env 1) (nthL env 2) p
theorem rd_10 (D : Dom) (env vars : List (PD D)) (ctx : List (AV D)) : (sh_10.round (sh_10.st env vars ctx).h.length (evCodeH Try.prog (tbl_29 D) (lt_10 D) 80 11 (loopB Try.prog 11 0) (sh_10.st env vars ctx))).map Nr.step = some (st_10 D env vars) := by kernel_rfl
noncomputable def ll_11 (D : Dom) : List (LE D) := ⟨11, 0, sh_10, st_10 D, fun s => evCodeH Try.prog (tbl_29 D) (lt_10 D) 80 11 (loopB Try.prog 11 0) s⟩ :: ll_10 D
noncomputable def lt_11 (D : Dom) : LTb D := ltOf (ll_11 D)
theorem hok_11 : HooksOK Try.prog (lt_11 R) := HooksOK.cons prg tok_29 hok_10 (by kernel_rfl) (by kernel_rfl) (rd_10 R)
def sh_11 : HSh := ⟨8, 8, [.env (.sslice 5 .whole none () 1), .env (.undef), .var (.si .i64 ()), .var (.si .i64 ()), .var (.si .i64 ()), .drop, .drop, .drop, .drop, .drop, .drop, .drop, .drop, .drop, .drop, .drop, .drop, .drop, .drop, .drop, .drop, .drop, .drop, .drop, .drop, .drop, .drop, .drop, .drop, .env (.undef)], [], [(5, [.row false [.z .i64] ()])], []⟩
def st_11 (D : Dom) (env p : List (PD D)) : D.B × D.B × List (PD D) := G7 D (nthZ env 0) (nthL env 1) p
theorem rd_11 (D : Dom) (env vars : List (PD D)) (ctx : List (AV D)) : (sh_11.round (sh_11.st env vars ctx).h.length (evCodeH Try.prog (tbl_29 D) (lt_11 D) 80 10 (loopB Try.prog 10 0) (sh_11.st env vars ctx))).map Nr.step = some (st_11 D env vars) := by kernel_rfl
noncomputable def ll_12 (D : Dom) : List (LE D) := ⟨10, 0, sh_11, st_11 D, fun s => evCodeH Try.prog (tbl_29 D) (lt_11 D) 80 10 (loopB Try.prog 10 0) s⟩ :: ll_11 D
noncomputable def lt_12 (D : Dom) : LTb D := ltOf (ll_12 D)
theorem hok_12 : HooksOK Try.prog (lt_12 R) := HooksOK.cons prg tok_29 hok_11 (by kernel_rfl) (by kernel_rfl) (rd_11 R)
def sh_12 : HSh := ⟨8, 8, [.ctx, .env (.ptr 7 0), .var (.sb ()), .var (.si .i64 ()), .ctx, .ctx, .ctx, .ctx, .env (.any), .env (.any), .env (.any), .ctx, .ctx, .env (.any), .env (.any), .env (.any), .env (.any), .env (.any), .env (.any), .env (.any), .ctx, .drop, .drop, .drop, .drop, .drop, .drop, .drop, .drop, .drop, .drop, .drop, .drop, .drop, .drop], [], [(7, [.si .i64 (), .sslice 0 .part none () 3]), (0, [.row true [.f, .f, .f] ()])], []⟩
def st_12 (D : Dom) (env p : List (PD D)) : D.B × D.B × List (PD D) := G5 D (nthZ env 1) (nthL env 2) p
theorem rd_12 (D : Dom) (env vars : List (PD D)) (ctx : List (AV D)) : (sh_12.round (sh_12.st env vars ctx).h.length (evCodeH Try.prog (tbl_29 D) (lt_12 D) 80 9 (loopB Try.prog 9 0) (sh_12.st env vars ctx))).map Nr.step = some (st_12 D env vars) := by kernel_rfl
noncomputable def ll_13 (D : Dom) : List (LE D) := ⟨9, 0, sh_12, st_12 D, fun s => evCodeH Try.prog (tbl_29 D) (lt_12 D) 80 9 (loopB Try.prog 9 0) s⟩ :: ll_12 D
noncomputable def lt_13 (D : Dom) : LTb D := ltOf (ll_13 D)
theorem hok_13 : HooksOK Try.prog (lt_13 R) := HooksOK.cons prg tok_29 hok_12 (by kernel_rfl) (by kernel_rfl) (rd_12 R)
def sh_13 : HSh := ⟨9, 12, [.ctx, .env (.ptr 8 0), .env (.nils), .slot [.z .i64] 1, .var (.si .i64 ()), .drop, .drop, .drop, .drop, .drop, .drop, .drop, .drop, .drop, .drop, .drop, .drop, .drop, .drop, .drop, .drop, .env (.undef)], [], [(8, [.si .i64 (), .sslice 0 .part none () 3]), (0, [.row true [.f, .f, .f] ()])], []⟩
def st_13 (D : Dom) (env p : List (PD D)) : D.B × D.B × List (PD D) := G6 D (nthZ env 1) (nthL env 2) p
theorem rd_13 (D : Dom) (env vars : List (PD D)) (ctx : List (AV D)) : (sh_13.round (sh_13.st env vars ctx).h.length (evCodeH Try.prog (tbl_29 D) (lt_13 D) 80 11 (loopB Try.prog 11 0) (sh_13.st env vars ctx))).map Nr.step = some (st_13 D env vars) := by kernel_rfl
noncomputable def ll_14 (D : Dom) : List (LE D) := ⟨11, 0, sh_13, st_13 D, fun s => evCodeH Try.prog (tbl_29 D) (lt_13 D) 80 11 (loopB Try.prog 11 0) s⟩ :: ll_13 D
noncomputable def lt_14 (D : Dom) : LTb D := ltOf (ll_14 D)
theorem hok_14 : HooksOK Try.prog (lt_14 R) := HooksOK.cons prg tok_29 hok_13 (by kernel_rfl) (by kernel_rfl) (rd_13 R)
def sh_14 : HSh := ⟨12, 12, [.env (.sslice 9 .whole none () 1), .env (.undef), .var (.si .i64 ()), .var (.si .i64 ()), .var (.si .i64 ()), .drop, .drop, .drop, .drop, .drop, .drop, .drop, .drop, .drop, .drop, .drop, .drop, .drop, .drop, .drop, .drop, .drop, .drop, .drop, .drop, .drop, .drop, .drop, .drop, .env (.undef)], [], [(9, [.row false [.z .i64] ()])], []⟩
def st_14 (D : Dom) (env p : List (PD D)) : D.B × D.B × List (PD D) := G7 D (nthZ env 0) (nthL env 1) p
theorem rd_14 (D : Dom) (env vars : List (PD D)) (ctx : List (AV D)) : (sh_14.round (sh_14.st env vars ctx).h.length (evCodeH Try.prog (tbl_29 D) (lt_14 D) 80 10 (loopB Try.prog 10 0) (sh_14.st env vars ctx))).map Nr.step = some (st_14 D env vars) := by kernel_rfl
noncomputable def ll_15 (D : Dom) : List (LE D) := ⟨10, 0, sh_14, st_14 D, fun s => evCodeH Try.prog (tbl_29 D) (lt_14 D) 80 10 (loopB Try.prog 10 0) s⟩ :: ll_14 D
noncomputable def lt_15 (D : Dom) : LTb D := ltOf (ll_15 D)
theorem hok_15 : HooksOK Try.prog (lt_15 R) := HooksOK.cons prg tok_29 hok_14 (by kernel_rfl) (by kernel_rfl) (rd_14 R)
def sh_15 : HSh := ⟨11, 11, [.ctx, .env (.ptr 10 0), .var (.sb ()), .var (.si .i64 ()), .ctx, .ctx, .ctx, .ctx, .env (.any), .env (.any), .env (.any), .ctx, .ctx, .env (.any), .env (.any), .env (.any), .env (.any), .env (.any), .env (.any), .env (.any), .ctx, .drop, .drop, .drop, .drop, .drop, .drop, .drop, .drop, .drop, .drop, .drop, .drop, .drop, .drop], [], [(10, [.si .i64 (), .sslice 0 .part none () 3]), (0, [.row true [.f, .f, .f] ()])], []⟩
def st_15 (D : Dom) (env p : List (PD D)) : D.B × D.B × List (PD D) := G5 D (nthZ env 1) (nthL env 2) p
theorem rd_15 (D : Dom) (env vars : List (PD D)) (ctx : List (AV D)) : (sh_15.round (sh_15.st env vars ctx).h.length (evCodeH Try.prog (tbl_29 D) (lt_15 D) 80 9 (loopB Try.prog 9 0) (sh_15.st env vars ctx))).map Nr.step = some (st_15 D env vars) := by kernel_rfl
noncomputable def ll_16 (D : Dom) : List (LE D) := ⟨9, 0, sh_15, st_15 D, fun s => evCodeH Try.prog (tbl_29 D) (lt_15 D) 80 9 (loopB Try.prog 9 0) s⟩ :: ll_15 D
noncomputable def lt_16 (D : Dom) : LTb D := ltOf (ll_16 D)
theorem hok_16 : HooksOK Try.prog (lt_16 R) := HooksOK.cons prg tok_29 hok_15 (by kernel_rfl) (by kernel_rfl) (rd_15 R)
def sh_16 : HSh := ⟨12, 15, [.ctx, .env (.ptr 11 0), .env (.nils), .slot [.z .i64] 1, .var (.si .i64 ()), .drop, .drop, .drop, .drop, .drop, .drop, .drop, .drop, .drop, .drop, .drop, .drop, .drop, .drop, .drop, .drop, .env (.undef)], [], [(11, [.si .i64 (), .sslice 0 .part none () 3]), (0, [.row true [.f, .f, .f] ()])], []⟩
def st_16 (D : Dom) (env p : List (PD D)) : D.B × D.B × List (PD D) := G6 D (nthZ env 1) (nthL env 2) p
theorem rd_16 (D : Dom) (env vars : List (PD D)) (ctx : List (AV D)) : (sh_16.round (sh_16.st env vars ctx).h.length (evCodeH Try.prog (tbl_29 D) (lt_16 D) 80 11 (loopB Try.prog 11 0) (sh_16.st env vars ctx))).map Nr.step = some (st_16 D env vars) := by kernel_rfl
noncomputable def ll_17 (D : Dom) : List (LE D) := ⟨11, 0, sh_16, st_16 D, fun s => evCodeH Try.prog (tbl_29 D) (lt_16 D) 80 11 (loopB Try.prog 11 0) s⟩ :: ll_16 D
noncomputable def lt_17 (D : Dom) : LTb D := ltOf (ll_17 D)
theorem hok_17 : HooksOK Try.prog (lt_17 R) := HooksOK.cons prg tok_29 hok_16 (by kernel_rfl) (by kernel_rfl) (rd_16 R)
def sh_17 : HSh := ⟨15, 15, [.env (.sslice 12 .whole none () 1), .env (.undef), .var (.si .i64 ()), .var (.si .i64 ()), .var (.si .i64 ()), .drop, .drop, .drop, .drop, .drop, .drop, .drop, .drop, .drop, .drop, .drop, .drop, .drop, .drop, .drop, .drop, .drop, .drop, .drop, .drop, .drop, .drop, .drop, .drop, .env (.undef)], [], [(12, [.row false [.z .i64] ()])], []⟩
def st_17 (D : Dom) (env p : List (PD D)) : D.B × D.B × List (PD D) := G7 D (nthZ env 0) (nthL env 1) p
theorem rd_17 (D : Dom) (env vars : List (PD D)) (ctx : List (AV D)) : (sh_17.round (sh_17.st env vars ctx).h.length (evCodeH Try.prog (tbl_29 D) (lt_17 D) 80 10 (loopB Try.prog 10 0) (sh_17.st env vars ctx))).map Nr.step = some (st_17 D env vars) := by kernel_rfl
noncomputable def ll_18 (D : Dom) : List (LE D) := ⟨10, 0, sh_17, st_17 D, fun s => evCodeH Try.prog (tbl_29 D) (lt_17 D) 80 10 (loopB Try.prog 10 0) s⟩ :: ll_17 D
noncomputable def lt_18 (D : Dom) : LTb D := ltOf (ll_18 D)
theorem hok_18 : HooksOK Try.prog (lt_18 R) := HooksOK.cons prg tok_29 hok_17 (by kernel_rfl) (by kernel_rfl) (rd_17 R)
def sh_18 : HSh := ⟨28, 28, [.ctx, .env (.ptr 27 0), .var (.sb ()), .var (.si .i64 ()), .ctx, .ctx, .ctx, .ctx, .env (.any), .env (.any), .env (.any), .ctx, .ctx, .env (.any), .env (.any), .env (.any), .env (.any), .env (.any), .env (.any), .env (.any), .ctx, .drop, .drop, .drop, .drop, .drop, .drop, .drop, .drop, .drop, .drop, .drop, .drop, .drop, .drop], [], [(27, [.si .i64 (), .sslice 0 .part none () 3]), (0, [.row true [.f, .f, .f] ()])], []⟩
def st_18 (D : Dom) (env p : List (PD D)) : D.B × D.B × List (PD D) := G5 D (nthZ env 1) (nthL env 2) p
theorem rd_18 (D : Dom) (env vars : List (PD D)) (ctx : List (AV D)) : (sh_18.round (sh_18.st env vars ctx).h.length (evCodeH Try.prog (tbl_29 D) (lt_18 D) 80 9 (loopB Try.prog 9 0) (sh_18.st env vars ctx))).map Nr.step = some (st_18 D env vars) := by kernel_rfl
noncomputable def ll_19 (D : Dom) : List (LE D) := ⟨9, 0, sh_18, st_18 D, fun s => evCodeH Try.prog (tbl_29 D) (lt_18 D) 80 9 (loopB Try.prog 9 0) s⟩ :: ll_18 D
noncomputable def lt_19 (D : Dom) : LTb D := ltOf (ll_19 D)
theorem hok_19 : HooksOK Try.prog (lt_19 R) := HooksOK.cons prg tok_29 hok_18 (by kernel_rfl) (by kernel_rfl) (rd_18 R)
def sh_19 : HSh := ⟨29, 32, [.ctx, .env (.ptr 28 0), .env (.nils), .slot [.z .i64] 1, .var (.si .i64 ()), .drop, .drop, .drop, .drop, .drop, .drop, .drop, .drop, .drop, .drop, .drop, .drop, .drop, .drop, .drop, .drop, .env (.undef)], [], [(28, [.si .i64 (), .sslice 0 .part none () 3]), (0, [.row true [.f, .f, .f] ()])], []⟩
def st_19 (D : Dom) (env p : List (PD D)) : D.B × D.B × List (PD D) := G6 D (nthZ env 1) (nthL env 2) p
theorem rd_19 (D : Dom) (env vars : List (PD D)) (ctx : List (AV D)) : (sh_19.round (sh_19.st env vars ctx).h.length (evCodeH Try.prog (tbl_29 D) (lt_19 D) 80 11 (loopB Try.prog 11 0) (sh_19.st env vars ctx))).map Nr.step = some (st_19 D env vars) := by kernel_rfl
noncomputable def ll_20 (D : Dom) : List (LE D) := ⟨11, 0, sh_19, st_19 D, fun s => evCodeH Try.prog (tbl_29 D) (lt_19 D) 80 11 (loopB Try.prog 11 0) s⟩ :: ll_19 D
noncomputable def lt_20 (D : Dom) : LTb D := ltOf (ll_20 D)
theorem hok_20 : HooksOK Try.prog (lt_20 R) := HooksOK.cons prg tok_29 hok_19 (by kernel_rfl) (by kernel_rfl) (rd_19 R)
def sh_20 : HSh := ⟨32, 32, [.env (.sslice 29 .whole none () 1), .env (.undef), .var (.si .i64 ()), .var (.si .i64 ()), .var (.si .i64 ()), .drop, .drop, .drop, .drop, .drop, .drop, .drop, .drop, .drop, .drop, .drop, .drop, .drop, .drop, .drop, .drop, .drop, .drop, .drop, .drop, .drop, .drop, .drop, .drop, .env (.undef)], [], [(29, [.row false [.z .i64] ()])], []⟩
def st_20 (D : Dom) (env p : List (PD D)) : D.B × D.B × List (PD D) := G7 D (nthZ env 0) (nthL env 1) p
theorem rd_20 (D : Dom) (env vars : List (PD D)) (ctx : List (AV D)) : (sh_20.round (sh_20.st env vars ctx).h.length (evCodeH Try.prog (tbl_29 D) (lt_20 D) 80 10 (loopB Try.prog 10 0) (sh_20.st env vars ctx))).map Nr.step = some (st_20 D env vars) := by kernel_rfl
noncomputable def ll_21 (D : Dom) : List (LE D) := ⟨10, 0, sh_20, st_20 D, fun s => evCodeH Try.prog (tbl_29 D) (lt_20 D) 80 10 (loopB Try.prog 10 0) s⟩ :: ll_20 D
noncomputable def lt_21 (D : Dom) : LTb D := ltOf (ll_21 D)
theorem hok_21 : HooksOK Try.prog (lt_21 R) := HooksOK.cons prg tok_29 hok_20 (by kernel_rfl) (by kernel_rfl) (rd_20 R)

-- penumbra/penumbralaw17.EnvMakes
def WS3_0_0 (D : Dom) (a0 : D.Z) (a1 : D.L) : D.B := (D.bite (D.bite (D.zlt a0 (D.zc 1)) (D.bc true) (D.zlt (D.zc 16) a0)) (D.bc true) (D.bnot (D.zeq (D.llen a1) (D.zmul .i64 (D.zc 8) a0))))
def WS3_0_1 (D : Dom) (a1 : D.L) : List (PD D) := (L5 D (D.llen a1) a1 (D.bc false) (D.zc 0))
def WS3_0_2 (D : Dom) (a0 : D.Z) (a1 : D.L) : D.B := (D.bnot (D.bite (WS3_0_0 D a0 a1) (D.bc false) (D.bite (D.zlt (nthZ (WS3_0_1 D a1) 1) (D.llen a1)) (D.bc false) (D.bc true))))
def WS3_0_3 (D : Dom)  : D.B := (D.bite (D.bite (S7_0 D) (D.bc true) (D.bc false)) (D.bc true) (D.bc false))
def WS3_0_4 (D : Dom) (a0 : D.Z) (a1 : D.L) : D.B := (D.bite (WS3_0_2 D a0 a1) (WS3_0_3 D) (D.bc false))
def WS3_0_5 (D : Dom) (a1 : D.L) : List (PD D) := (L1 D (D.llen a1) (D.llen a1) a1 D.lnil (D.zc 0) (D.zc 0))
def WS3_0_6 (D : Dom) (a1 : D.L) : D.B := (D.zlt (D.zc 1024) (D.llen (nthL (WS3_0_5 D a1) 0)))
def WS3_0_7 (D : Dom) (a1 : D.L) : List (PD D) := (L2 D (D.llen (nthL (WS3_0_5 D a1) 0)) (D.llen (nthL (WS3_0_5 D a1) 0)) (nthL (WS3_0_5 D a1) 0) (D.zc 0) (D.zc 0) (D.zc 0) (D.zc 0))
def WS3_0_8 (D : Dom) (a1 : D.L) : D.B := (D.zlt (nthZ (WS3_0_7 D a1) 3) (D.llen (nthL (WS3_0_5 D a1) 0)))
def WS3_0_9 (D : Dom) (a1 : D.L) : D.B := (D.zeq (D.llen (nthL (WS3_0_5 D a1) 0)) (D.zc 0))
def WS3_0_10 (D : Dom) (a1 : D.L) : D.B := (D.bite (WS3_0_9 D a1) (D.bc true) (D.zeq (nthZ (WS3_0_7 D a1) 2) (D.zc 0)))
def WS3_0_11 (D : Dom) (a1 : D.L) : List (PD D) := (L6 D (D.llen a1) a1 D.lnil (D.zc 0))
def WS3_0_12 (D : Dom) (a1 : D.L) : List (PD D) := (L7 D (D.llen (nthL (WS3_0_11 D a1) 0)) (nthL (WS3_0_11 D a1) 0) (D.zc 0) (D.zc 0) (D.zc 0))
def WS3_0_13 (D : Dom) (a1 : D.L) : D.Z := (D.zite (D.zlt (nthZ (WS3_0_12 D a1) 2) (D.llen (nthL (WS3_0_11 D a1) 0))) (D.zc (-1)) (nthZ (WS3_0_12 D a1) 1))
def S3_0 (D : Dom) (a0 : D.Z) (a1 : D.L) : D.B := (D.bite (D.zlt (D.zc 200) (D.llen a1)) (S7_0 D) (D.bite (WS3_0_0 D a0 a1) (WS3_0_4 D a0 a1) (D.bite (D.zlt (nthZ (WS3_0_5 D a1) 2) (D.llen a1)) (WS3_0_4 D a0 a1) (D.bite (D.bnot (D.zeq (D.zite (WS3_0_6 D a1) (D.zc 4) (D.zite (WS3_0_8 D a1) (D.zc 2) (D.zite (WS3_0_10 D a1) (D.zite (WS3_0_9 D a1) (D.zc 2) (D.zc 13)) (D.zc 0)))) (D.zc 0))) (D.bite (WS3_0_2 D a0 a1) (D.bc false) (D.bite (D.bite (WS3_0_3 D) (D.zeq (D.zc 0) (WS3_0_13 D a1)) (D.bc false)) (D.beq (D.bc true) (D.zeq (WS3_0_13 D a1) (D.zc 0))) (D.bc false))) (D.bite (WS3_0_2 D a0 a1) (D.bc false) (D.bite (D.bite (WS3_0_3 D) (D.zeq (D.zite (WS3_0_6 D a1) (D.zc 0) (D.zite (WS3_0_8 D a1) (D.zc 0) (D.zite (WS3_0_10 D a1) (D.zc 0) (nthZ (WS3_0_7 D a1) 2)))) (WS3_0_13 D a1)) (D.bc false)) (D.beq (D.bc false) (D.zeq (WS3_0_13 D a1) (D.zc 0))) (D.bc false)))))))
def WO3_0 (D : Dom) (a0 : D.Z) (a1 : D.L) : D.B := (D.bite (D.bite (D.zlt a0 (D.zc 1)) (D.bc true) (D.zlt (D.zc 16) a0)) (D.bc true) (D.bnot (D.zeq (D.llen a1) (D.zmul .i64 (D.zc 8) a0))))
def WO3_1 (D : Dom) (a1 : D.L) : D.B := (E5 D (D.llen a1) a1 (D.bc false) (D.zc 0))
def WO3_2 (D : Dom) (a1 : D.L) : List (PD D) := (L5 D (D.llen a1) a1 (D.bc false) (D.zc 0))
def WO3_3 (D : Dom) (a0 : D.Z) (a1 : D.L) : D.B := (D.bnot (D.bite (WO3_0 D a0 a1) (D.bc false) (D.bite (D.zlt (nthZ (WO3_2 D a1) 1) (D.llen a1)) (D.bc false) (D.bc true))))
def WO3_4 (D : Dom) (a1 : D.L) : D.B := (E6 D (D.llen a1) a1 D.lnil (D.zc 0))
def WO3_5 (D : Dom) (a1 : D.L) : List (PD D) := (L6 D (D.llen a1) a1 D.lnil (D.zc 0))
def WO3_6 (D : Dom) (a1 : D.L) : D.B := (E7 D (D.llen (nthL (WO3_5 D a1) 0)) (nthL (WO3_5 D a1) 0) (D.zc 0) (D.zc 0) (D.zc 0))
def WO3_7 (D : Dom) (a0 : D.Z) (a1 : D.L) : D.B := (D.band (D.bite (WO3_0 D a0 a1) (D.bc true) (WO3_1 D a1)) (D.band (D.bite (WO3_3 D a0 a1) (O7 D) (D.bc true)) (D.bite (WO3_3 D a0 a1) (D.bc true) (D.band (D.band (WO3_4 D a1) (WO3_6 D a1)) (O7 D)))))
def WO3_8 (D : Dom) (a1 : D.L) : D.B := (E1 D (D.llen a1) (D.llen a1) a1 D.lnil (D.zc 0) (D.zc 0))
def WO3_9 (D : Dom) (a1 : D.L) : List (PD D) := (L1 D (D.llen a1) (D.llen a1) a1 D.lnil (D.zc 0) (D.zc 0))
def WO3_10 (D : Dom) (a1 : D.L) : D.B := (D.zlt (D.zc 1024) (D.llen (nthL (WO3_9 D a1) 0)))
def WO3_11 (D : Dom) (a1 : D.L) : D.B := (E2 D (D.llen (nthL (WO3_9 D a1) 0)) (D.llen (nthL (WO3_9 D a1) 0)) (nthL (WO3_9 D a1) 0) (D.zc 0) (D.zc 0) (D.zc 0) (D.zc 0))
def WO3_12 (D : Dom) (a1 : D.L) : List (PD D) := (L2 D (D.llen (nthL (WO3_9 D a1) 0)) (D.llen (nthL (WO3_9 D a1) 0)) (nthL (WO3_9 D a1) 0) (D.zc 0) (D.zc 0) (D.zc 0) (D.zc 0))
def WO3_13 (D : Dom) (a1 : D.L) : D.B := (D.zlt (nthZ (WO3_12 D a1) 3) (D.llen (nthL (WO3_9 D a1) 0)))
def WO3_14 (D : Dom) (a1 : D.L) : D.B := (D.zeq (D.llen (nthL (WO3_9 D a1) 0)) (D.zc 0))
def WO3_15 (D : Dom) (a1 : D.L) : D.B := (D.bite (WO3_14 D a1) (D.bc true) (D.zeq (nthZ (WO3_12 D a1) 2) (D.zc 0)))
def WO3_16 (D : Dom) (a1 : D.L) : D.B := (D.zle (D.llen (nthL (WO3_9 D a1) 0)) (D.zc 1073741824))
def WO3_17 (D : Dom) (a1 : D.L) : D.B := (D.band (D.zle (D.zc 0) (D.llen (nthL (WO3_9 D a1) 0))) (WO3_16 D a1))
def WO3_18 (D : Dom) (a1 : D.L) : D.Z := (D.zite (WO3_10 D a1) (D.zc 0) (D.zite (WO3_13 D a1) (D.zc 0) (D.zite (WO3_15 D a1) (D.zc 0) (nthZ (WO3_12 D a1) 2))))
def WO3_19 (D : Dom) (a1 : D.L) : D.L := (D.lrep (D.llen (nthL (WO3_9 D a1) 0)) [.z (D.zc 0), .z (D.zc 0)])
def WO3_20 (D : Dom) (a1 : D.L) : D.L := (D.lrep (D.llen (nthL (WO3_9 D a1) 0)) [.z (D.zc 0)])
def WO3_21 (D : Dom) (a1 : D.L) : D.B := (E3 D (D.llen (nthL (WO3_9 D a1) 0)) (D.llen (nthL (WO3_9 D a1) 0)) (D.llen (nthL (WO3_9 D a1) 0)) (nthL (WO3_9 D a1) 0) (WO3_18 D a1) (D.llen (nthL (WO3_9 D a1) 0)) (D.llen (nthL (WO3_9 D a1) 0)) D.lnil D.lnil (D.zc 0) (WO3_19 D a1) (WO3_20 D a1))
def WO3_22 (D : Dom) (a1 : D.L) : List (PD D) := (L3 D (D.llen (nthL (WO3_9 D a1) 0)) (D.llen (nthL (WO3_9 D a1) 0)) (D.llen (nthL (WO3_9 D a1) 0)) (nthL (WO3_9 D a1) 0) (WO3_18 D a1) (D.llen (nthL (WO3_9 D a1) 0)) (D.llen (nthL (WO3_9 D a1) 0)) D.lnil D.lnil (D.zc 0) (WO3_19 D a1) (WO3_20 D a1))
def WO3_23 (D : Dom) (a1 : D.L) : D.B := (E4 D (WO3_18 D a1) (D.llen (nthL (WO3_9 D a1) 0)) (D.llen (nthL (WO3_9 D a1) 0)) (nthL (WO3_22 D a1) 0) (nthL (WO3_22 D a1) 1) (nthL (WO3_22 D a1) 4) (nthL (WO3_22 D a1) 3))
def O3 (D : Dom) (a0 : D.Z) (a1 : D.L) : D.B := (D.band (D.bite (D.zlt (D.zc 200) (D.llen a1)) (O7 D) (D.bc true)) (D.bite (D.zlt (D.zc 200) (D.llen a1)) (D.bc true) (D.bite (WO3_0 D a0 a1) (WO3_7 D a0 a1) (D.band (WO3_8 D a1) (D.bite (D.zlt (nthZ (WO3_9 D a1) 2) (D.llen a1)) (WO3_7 D a0 a1) (D.band (D.zle (D.llen (D.lsub a1 (D.zc 0) (D.llen a1))) (D.zc 1073741824)) (D.band (D.bite (WO3_10 D a1) (D.bc true) (WO3_11 D a1)) (D.bite (D.bnot (D.zeq (D.zite (WO3_10 D a1) (D.zc 4) (D.zite (WO3_13 D a1) (D.zc 2) (D.zite (WO3_15 D a1) (D.zite (WO3_14 D a1) (D.zc 2) (D.zc 13)) (D.zc 0)))) (D.zc 0))) (WO3_7 D a0 a1) (D.band (WO3_16 D a1) (D.band (WO3_17 D a1) (D.band (WO3_17 D a1) (D.band (WO3_21 D a1) (D.band (WO3_23 D a1) (WO3_7 D a0 a1))))))))))))))
theorem ev3 (D : Dom) (a0 : D.Z) (a1 : D.L) : joinT (evFnH Try.prog (tbl_29 D) (lt_21 D) 80 3 [.agg [.si .i64 a0, .sslice 0 .part none (D.llen a1) 3]] [(0, [.row true [.f, .f, .f] a1])] 1) = .val (some (O3 D a0 a1)) (.sb (S3_0 D a0 a1)) := by kernel_rfl

-- penumbra/penumbraref02.Finite
def S31_0 (D : Dom) (a0 : D.F) (a1 : D.F) (a2 : D.F) : D.B := (D.bite (D.bite (S51_0 D a0) (S51_0 D a1) (D.bc false)) (S51_0 D a2) (D.bc false))
theorem ev31 (D : Dom) (a0 : D.F) (a1 : D.F) (a2 : D.F) : joinT (evFnH Try.prog (tbl_29 D) (lt_21 D) 80 31 [.agg [.fl a0, .fl a1, .fl a2]] [] 0) = .val none (.sb (S31_0 D a0 a1 a2)) := by kernel_rfl
def sp31 : Ev.Spec := fun D l => argA l fun c0 r0 => argF c0 fun a0 r1 => argF r1 fun a1 r2 => argF r2 fun a2 r3 => arg0 r3 (arg0 r0 (.ret (.sb (S31_0 D a0 a1 a2))))
theorem en31 : ∀ l r, (sp31 R l).run = some r → Entry Try.prog 31 l r := by
  intro l r h
  obtain ⟨_, _, h, L0⟩ := argA_inv h
  obtain ⟨x1, _, h, L1⟩ := argF_inv h
  obtain ⟨x2, _, h, L2⟩ := argF_inv h
  obtain ⟨x3, _, h, L3⟩ := argF_inv h
  obtain ⟨h, L4⟩ := arg0_inv h
  obtain ⟨h, L5⟩ := arg0_inv h
  cases h
  exact (entry_loops prg tok_29 hok_21 (ev31 R x1 x2 x3) (fun o ho => nomatch ho) rfl).le (L0 _ _ (L1 _ (L2 _ (L3 _ L4))) L5)
def tl_31 : List (Nat × Ev.Spec) := (31, sp31) :: tl_29
def tbl_31 (D : Dom) : Tbl D := tblOf tl_31 D
theorem tok_31 : TblOK Try.prog (tbl_31 R) := TblOK.cons tok_29 en31

-- penumbra/penumbraref09.abs
def S53_0 (D : Dom) (a0 : D.F) : D.F := (D.fite (D.bite (D.fge a0 (D.fc 0)) (D.bc true) (D.bnot (D.feq a0 a0))) a0 (D.fsub (D.fc 0) a0))
theorem ev53 (D : Dom) (a0 : D.F) : joinT (evFnH Try.prog (tbl_31 D) (lt_21 D) 80 53 [.fl a0] [] 0) = .val none (.fl (S53_0 D a0)) := by kernel_rfl
def sp53 : Ev.Spec := fun D l => argF l fun a0 r0 => arg0 r0 (.ret (.fl (S53_0 D a0)))
theorem en53 : ∀ l r, (sp53 R l).run = some r → Entry Try.prog 53 l r := by
  intro l r h
  obtain ⟨x0, _, h, L0⟩ := argF_inv h
  obtain ⟨h, L1⟩ := arg0_inv h
  cases h
  exact (entry_loops prg tok_31 hok_21 (ev53 R x0) (fun o ho => nomatch ho) rfl).le (L0 _ L1)
def tl_53 : List (Nat × Ev.Spec) := (53, sp53) :: tl_31
def tbl_53 (D : Dom) : Tbl D := tblOf tl_53 D
theorem tok_53 : TblOK Try.prog (tbl_53 R) := TblOK.cons tok_31 en53

-- penumbra/penumbraref09.Angle
def WS32_0_0 (D : Dom) (a0 : D.F) (a1 : D.F) : D.B := (D.bite (D.fge a0 (D.fc 0)) (D.fge a1 (D.fc 0)) (D.bc false))
def WS32_0_1 (D : Dom) (a0 : D.F) (a1 : D.F) : D.B := (D.bite (D.flt a0 (D.fc 0)) (D.fge a1 (D.fc 0)) (D.bc false))
def WS32_0_2 (D : Dom) (a0 : D.F) (a1 : D.F) : D.B := (D.bite (D.flt a0 (D.fc 0)) (D.flt a1 (D.fc 0)) (D.bc false))
def WS32_0_3 (D : Dom) (a0 : D.F) (a1 : D.F) : D.Z := (D.zite (D.bite (WS32_0_0 D a0 a1) (D.fge (S53_0 D a0) (S53_0 D a1)) (D.bc false)) (D.zc 0) (D.zite (D.bite (WS32_0_0 D a0 a1) (D.flt (S53_0 D a0) (S53_0 D a1)) (D.bc false)) (D.zc 1) (D.zite (D.bite (WS32_0_1 D a0 a1) (D.flt (S53_0 D a0) (S53_0 D a1)) (D.bc false)) (D.zc 2) (D.zite (D.bite (WS32_0_1 D a0 a1) (D.fge (S53_0 D a0) (S53_0 D a1)) (D.bc false)) (D.zc 3) (D.zite (D.bite (WS32_0_2 D a0 a1) (D.fge (S53_0 D a0) (S53_0 D a1)) (D.bc false)) (D.zc 4) (D.zite (D.bite (WS32_0_2 D a0 a1) (D.flt (S53_0 D a0) (S53_0 D a1)) (D.bc false)) (D.zc 5) (D.zite (D.bite (D.bite (D.fge a0 (D.fc 0)) (D.flt a1 (D.fc 0)) (D.bc false)) (D.flt (S53_0 D a0) (S53_0 D a1)) (D.bc false)) (D.zc 6) (D.zc 7))))))))
def S32_0 (D : Dom) (a0 : D.F) (a1 : D.F) : D.Z := (D.zite (D.bite (D.bite (D.bnot (S51_0 D (S53_0 D a0))) (D.bc true) (D.bnot (S51_0 D (S53_0 D a1)))) (D.bc true) (D.bite (D.feq (S53_0 D a0) (D.fc 0)) (D.feq (S53_0 D a1) (D.fc 0)) (D.bc false))) (WS32_0_3 D a0 a1) (D.zite (D.fge (S53_0 D a0) (S53_0 D a1)) (WS32_0_3 D a0 a1) (WS32_0_3 D a0 a1)))
def S32_1 (D : Dom) (a0 : D.F) (a1 : D.F) : D.F := (D.fite (D.bite (D.bite (D.bnot (S51_0 D (S53_0 D a0))) (D.bc true) (D.bnot (S51_0 D (S53_0 D a1)))) (D.bc true) (D.bite (D.feq (S53_0 D a0) (D.fc 0)) (D.feq (S53_0 D a1) (D.fc 0)) (D.bc false))) (D.fc 0) (D.fite (D.fge (S53_0 D a0) (S53_0 D a1)) (D.fdiv (S53_0 D a1) (S53_0 D a0)) (D.fdiv (S53_0 D a0) (S53_0 D a1))))
theorem ev32 (D : Dom) (a0 : D.F) (a1 : D.F) : joinT (evFnH Try.prog (tbl_53 D) (lt_21 D) 80 32 [.fl a0, .fl a1] [] 0) = .val none (.tup [.si .i64 (S32_0 D a0 a1), .fl (S32_1 D a0 a1)]) := by kernel_rfl
def sp32 : Ev.Spec := fun D l => argF l fun a0 r0 => argF r0 fun a1 r1 => arg0 r1 (.ret (.tup [.si .i64 (S32_0 D a0 a1), .fl (S32_1 D a0 a1)]))
theorem en32 : ∀ l r, (sp32 R l).run = some r → Entry Try.prog 32 l r := by
  intro l r h
  obtain ⟨x0, _, h, L0⟩ := argF_inv h
  obtain ⟨x1, _, h, L1⟩ := argF_inv h
  obtain ⟨h, L2⟩ := arg0_inv h
  cases h
  exact (entry_loops prg tok_53 hok_21 (ev32 R x0 x1) (fun o ho => nomatch ho) rfl).le (L0 _ (L1 _ L2))
def tl_32 : List (Nat × Ev.Spec) := (32, sp32) :: tl_53
def tbl_32 (D : Dom) : Tbl D := tblOf tl_32 D
theorem tok_32 : TblOK Try.prog (tbl_32 R) := TblOK.cons tok_53 en32

-- penumbra/penumbraref02.Same
def S17_0 (D : Dom) (a0 : D.F) (a1 : D.F) : D.B := (D.bite (D.feq a0 a1) (D.bc true) (D.bite (D.bnot (D.feq a0 a0)) (D.bnot (D.feq a1 a1)) (D.bc false)))
theorem ev17 (D : Dom) (a0 : D.F) (a1 : D.F) : joinT (evFnH Try.prog (tbl_32 D) (lt_21 D) 80 17 [.fl a0, .fl a1] [] 0) = .val none (.sb (S17_0 D a0 a1)) := by kernel_rfl
def sp17 : Ev.Spec := fun D l => argF l fun a0 r0 => argF r0 fun a1 r1 => arg0 r1 (.ret (.sb (S17_0 D a0 a1)))
theorem en17 : ∀ l r, (sp17 R l).run = some r → Entry Try.prog 17 l r := by
  intro l r h
  obtain ⟨x0, _, h, L0⟩ := argF_inv h
  obtain ⟨x1, _, h, L1⟩ := argF_inv h
  obtain ⟨h, L2⟩ := arg0_inv h
  cases h
  exact (entry_loops prg tok_32 hok_21 (ev17 R x0 x1) (fun o ho => nomatch ho) rfl).le (L0 _ (L1 _ L2))
def tl_17 : List (Nat × Ev.Spec) := (17, sp17) :: tl_32
def tbl_17 (D : Dom) : Tbl D := tblOf tl_17 D
theorem tok_17 : TblOK Try.prog (tbl_17 R) := TblOK.cons tok_32 en17

-- loop 8
def C8 (D : Dom) (a0 : D.F) (a1 : D.Z) (a2 : D.Z) : D.B := (D.bite (D.zlt a2 (D.zsub .i64 a1 (D.zc 1))) (D.fle (D.i2f (D.zadd .i64 a2 (D.zc 1))) a0) (D.bc false))
def O8_ (D : Dom)  : D.B := (D.bc true)
def N8_0 (D : Dom) (a2 : D.Z) : D.Z := (D.zadd .i64 a2 (D.zc 1))
def G8 (D : Dom) (a0 : D.F) (a1 : D.Z) (p : List (PD D)) : D.B × D.B × List (PD D) := (C8 D a0 a1 (nthZ p 0), O8_ D, [.z (N8_0 D (nthZ p 0))])
def L8 (D : Dom) (a0 : D.F) (a1 : D.Z) (a2 : D.Z) : List (PD D) := D.last (G8 D a0 a1) [.z a2]
def E8 (D : Dom) (a0 : D.F) (a1 : D.Z) (a2 : D.Z) : D.B := D.ends (G8 D a0 a1) [.z a2]
def sh_21 : HSh := ⟨5, 9, [.ctx, .ctx, .var (.nilp), .var (.si .i64 ()), .slot [.z .i64] 1, .env (.undef), .drop, .env (.undef), .ctx, .ctx, .ctx, .ctx, .env (.any), .env (.any), .env (.any), .ctx, .ctx, .env (.any), .env (.any), .env (.any), .env (.any), .env (.any), .env (.any), .env (.any), .ctx, .ctx, .env (.sslice 0 .part none () 3), .env (.si .i64 ()), .var (.si .i64 ()), .drop, .drop, .drop, .drop, .drop, .drop, .drop, .drop, .drop, .drop, .drop, .drop, .env (.undef), .env (.undef), .env (.undef), .env (.undef), .env (.undef), .env (.undef), .env (.undef), .env (.undef), .env (.undef), .env (.undef), .env (.undef), .env (.undef), .env (.undef), .env (.undef), .env (.undef), .env (.undef), .env (.undef)], [], [(0, [.row true [.f, .f, .f] ()])], []⟩
def st_21 (D : Dom) (env p : List (PD D)) : D.B × D.B × List (PD D) := G1 D (nthZ env 0) (nthZ env 1) (nthL env 2) p
theorem rd_21 (D : Dom) (env vars : List (PD D)) (ctx : List (AV D)) : (sh_21.round (sh_21.st env vars ctx).h.length (evCodeH Try.prog (tbl_17 D) (lt_21 D) 80 8 (loopB Try.prog 8 0) (sh_21.st env vars ctx))).map Nr.step = some (st_21 D env vars) := by kernel_rfl
noncomputable def ll_22 (D : Dom) : List (LE D) := ⟨8, 0, sh_21, st_21 D, fun s => evCodeH Try.prog (tbl_17 D) (lt_21 D) 80 8 (loopB Try.prog 8 0) s⟩ :: ll_21 D
noncomputable def lt_22 (D : Dom) : LTb D := ltOf (ll_22 D)
theorem hok_22 : HooksOK Try.prog (lt_22 R) := HooksOK.cons prg tok_17 hok_21 (by kernel_rfl) (by kernel_rfl) (rd_21 R)
def sh_22 : HSh := ⟨14, 14, [.ctx, .ctx, .env (.ptr 12 0), .ctx, .env (.ki .i64 0), .ctx, .env (.fl ()), .var (.si .i64 ()), .env (.undef), .env (.undef), .ctx, .ctx, .ctx, .ctx, .ctx, .ctx, .ctx, .ctx, .ctx, .ctx, .ctx, .ctx, .drop, .drop, .drop, .drop, .drop, .drop, .drop, .drop, .drop, .drop, .drop, .drop, .drop, .drop, .env (.undef), .env (.undef), .env (.undef), .env (.undef), .env (.undef), .env (.undef), .env (.undef), .env (.undef), .env (.undef), .env (.undef), .env (.undef), .env (.undef)], [], [(12, [.si .i64 (), .sslice 0 .part none () 3]), (0, [.row true [.f, .f, .f] ()])], []⟩
def st_22 (D : Dom) (env p : List (PD D)) : D.B × D.B × List (PD D) := G8 D (nthF env 0) (nthZ env 1) p
theorem rd_22 (D : Dom) (env vars : List (PD D)) (ctx : List (AV D)) : (sh_22.round (sh_22.st env vars ctx).h.length (evCodeH Try.prog (tbl_17 D) (lt_22 D) 80 14 (loopB Try.prog 14 0) (sh_22.st env vars ctx))).map Nr.step = some (st_22 D env vars) := by kernel_rfl
noncomputable def ll_23 (D : Dom) : List (LE D) := ⟨14, 0, sh_22, st_22 D, fun s => evCodeH Try.prog (tbl_17 D) (lt_22 D) 80 14 (loopB Try.prog 14 0) s⟩ :: ll_22 D
noncomputable def lt_23 (D : Dom) : LTb D := ltOf (ll_23 D)
theorem hok_23 : HooksOK Try.prog (lt_23 R) := HooksOK.cons prg tok_17 hok_22 (by kernel_rfl) (by kernel_rfl) (rd_22 R)
def sh_23 : HSh := ⟨28, 28, [.ctx, .ctx, .env (.ptr 26 0), .ctx, .env (.ki .i64 0), .ctx, .env (.fl ()), .var (.si .i64 ()), .env (.undef), .env (.undef), .ctx, .ctx, .ctx, .ctx, .ctx, .ctx, .ctx, .ctx, .ctx, .ctx, .ctx, .ctx, .drop, .drop, .drop, .drop, .drop, .drop, .drop, .drop, .drop, .drop, .drop, .drop, .drop, .drop, .env (.undef), .env (.undef), .env (.undef), .env (.undef), .env (.undef), .env (.undef), .env (.undef), .env (.undef), .env (.undef), .env (.undef), .env (.undef), .env (.undef)], [], [(26, [.si .i64 (), .sslice 0 .part none () 3]), (0, [.row true [.f, .f, .f] ()])], []⟩
def st_23 (D : Dom) (env p : List (PD D)) : D.B × D.B × List (PD D) := G8 D (nthF env 0) (nthZ env 1) p
theorem rd_23 (D : Dom) (env vars : List (PD D)) (ctx : List (AV D)) : (sh_23.round (sh_23.st env vars ctx).h.length (evCodeH Try.prog (tbl_17 D) (lt_23 D) 80 14 (loopB Try.prog 14 0) (sh_23.st env vars ctx))).map Nr.step = some (st_23 D env vars) := by kernel_rfl
noncomputable def ll_24 (D : Dom) : List (LE D) := ⟨14, 0, sh_23, st_23 D, fun s => evCodeH Try.prog (tbl_17 D) (lt_23 D) 80 14 (loopB Try.prog 14 0) s⟩ :: ll_23 D
noncomputable def lt_24 (D : Dom) : LTb D := ltOf (ll_24 D)
theorem hok_24 : HooksOK Try.prog (lt_24 R) := HooksOK.cons prg tok_17 hok_23 (by kernel_rfl) (by kernel_rfl) (rd_23 R)
def sh_24 : HSh := ⟨33, 36, [.ctx, .env (.ptr 32 0), .env (.nils), .slot [.z .i64] 1, .var (.si .i64 ()), .drop, .drop, .drop, .drop, .drop, .drop, .drop, .drop, .drop, .drop, .drop, .drop, .drop, .drop, .drop, .drop, .env (.undef)], [], [(32, [.si .i64 (), .sslice 0 .part none () 3]), (0, [.row true [.f, .f, .f] ()])], []⟩
def st_24 (D : Dom) (env p : List (PD D)) : D.B × D.B × List (PD D) := G6 D (nthZ env 1) (nthL env 2) p
theorem rd_24 (D : Dom) (env vars : List (PD D)) (ctx : List (AV D)) : (sh_24.round (sh_24.st env vars ctx).h.length (evCodeH Try.prog (tbl_17 D) (lt_24 D) 80 11 (loopB Try.prog 11 0) (sh_24.st env vars ctx))).map Nr.step = some (st_24 D env vars) := by kernel_rfl
noncomputable def ll_25 (D : Dom) : List (LE D) := ⟨11, 0, sh_24, st_24 D, fun s => evCodeH Try.prog (tbl_17 D) (lt_24 D) 80 11 (loopB Try.prog 11 0) s⟩ :: ll_24 D
noncomputable def lt_25 (D : Dom) : LTb D := ltOf (ll_25 D)
theorem hok_25 : HooksOK Try.prog (lt_25 R) := HooksOK.cons prg tok_17 hok_24 (by kernel_rfl) (by kernel_rfl) (rd_24 R)
def sh_25 : HSh := ⟨31, 31, [.ctx, .ctx, .env (.ptr 29 0), .ctx, .env (.ki .i64 0), .ctx, .env (.fl ()), .var (.si .i64 ()), .env (.undef), .env (.undef), .ctx, .ctx, .ctx, .ctx, .ctx, .ctx, .ctx, .ctx, .ctx, .ctx, .ctx, .ctx, .drop, .drop, .drop, .drop, .drop, .drop, .drop, .drop, .drop, .drop, .drop, .drop, .drop, .drop, .env (.undef), .env (.undef), .env (.undef), .env (.undef), .env (.undef), .env (.undef), .env (.undef), .env (.undef), .env (.undef), .env (.undef), .env (.undef), .env (.undef)], [], [(29, [.si .i64 (), .sslice 0 .part none () 3]), (0, [.row true [.f, .f, .f] ()])], []⟩
def st_25 (D : Dom) (env p : List (PD D)) : D.B × D.B × List (PD D) := G8 D (nthF env 0) (nthZ env 1) p
theorem rd_25 (D : Dom) (env vars : List (PD D)) (ctx : List (AV D)) : (sh_25.round (sh_25.st env vars ctx).h.length (evCodeH Try.prog (tbl_17 D) (lt_25 D) 80 14 (loopB Try.prog 14 0) (sh_25.st env vars ctx))).map Nr.step = some (st_25 D env vars) := by kernel_rfl
noncomputable def ll_26 (D : Dom) : List (LE D) := ⟨14, 0, sh_25, st_25 D, fun s => evCodeH Try.prog (tbl_17 D) (lt_25 D) 80 14 (loopB Try.prog 14 0) s⟩ :: ll_25 D
noncomputable def lt_26 (D : Dom) : LTb D := ltOf (ll_26 D)
theorem hok_26 : HooksOK Try.prog (lt_26 R) := HooksOK.cons prg tok_17 hok_25 (by kernel_rfl) (by kernel_rfl) (rd_25 R)
def sh_26 : HSh := ⟨45, 45, [.ctx, .ctx, .env (.ptr 43 0), .ctx, .env (.ki .i64 0), .ctx, .env (.fl ()), .var (.si .i64 ()), .env (.undef), .env (.undef), .ctx, .ctx, .ctx, .ctx, .ctx, .ctx, .ctx, .ctx, .ctx, .ctx, .ctx, .ctx, .drop, .drop, .drop, .drop, .drop, .drop, .drop, .drop, .drop, .drop, .drop, .drop, .drop, .drop, .env (.undef), .env (.undef), .env (.undef), .env (.undef), .env (.undef), .env (.undef), .env (.undef), .env (.undef), .env (.undef), .env (.undef), .env (.undef), .env (.undef)], [], [(43, [.si .i64 (), .sslice 0 .part none () 3]), (0, [.row true [.f, .f, .f] ()])], []⟩
def st_26 (D : Dom) (env p : List (PD D)) : D.B × D.B × List (PD D) := G8 D (nthF env 0) (nthZ env 1) p
theorem rd_26 (D : Dom) (env vars : List (PD D)) (ctx : List (AV D)) : (sh_26.round (sh_26.st env vars ctx).h.length (evCodeH Try.prog (tbl_17 D) (lt_26 D) 80 14 (loopB Try.prog 14 0) (sh_26.st env vars ctx))).map Nr.step = some (st_26 D env vars) := by kernel_rfl
noncomputable def ll_27 (D : Dom) : List (LE D) := ⟨14, 0, sh_26, st_26 D, fun s => evCodeH Try.prog (tbl_17 D) (lt_26 D) 80 14 (loopB Try.prog 14 0) s⟩ :: ll_26 D
noncomputable def lt_27 (D : Dom) : LTb D := ltOf (ll_27 D)
theorem hok_27 : HooksOK Try.prog (lt_27 R) := HooksOK.cons prg tok_17 hok_26 (by kernel_rfl) (by kernel_rfl) (rd_26 R)
def sh_27 : HSh := ⟨46, 49, [.ctx, .env (.ptr 45 0), .env (.nils), .slot [.z .i64] 1, .var (.si .i64 ()), .drop, .drop, .drop, .drop, .drop, .drop, .drop, .drop, .drop, .drop, .drop, .drop, .drop, .drop, .drop, .drop, .env (.undef)], [], [(45, [.si .i64 (), .sslice 0 .part none () 3]), (0, [.row true [.f, .f, .f] ()])], []⟩
def st_27 (D : Dom) (env p : List (PD D)) : D.B × D.B × List (PD D) := G6 D (nthZ env 1) (nthL env 2) p
theorem rd_27 (D : Dom) (env vars : List (PD D)) (ctx : List (AV D)) : (sh_27.round (sh_27.st env vars ctx).h.length (evCodeH Try.prog (tbl_17 D) (lt_27 D) 80 11 (loopB Try.prog 11 0) (sh_27.st env vars ctx))).map Nr.step = some (st_27 D env vars) := by kernel_rfl
noncomputable def ll_28 (D : Dom) : List (LE D) := ⟨11, 0, sh_27, st_27 D, fun s => evCodeH Try.prog (tbl_17 D) (lt_27 D) 80 11 (loopB Try.prog 11 0) s⟩ :: ll_27 D
noncomputable def lt_28 (D : Dom) : LTb D := ltOf (ll_28 D)
theorem hok_28 : HooksOK Try.prog (lt_28 R) := HooksOK.cons prg tok_17 hok_27 (by kernel_rfl) (by kernel_rfl) (rd_27 R)
def sh_28 : HSh := ⟨49, 49, [.env (.sslice 46 .whole none () 1), .env (.undef), .var (.si .i64 ()), .var (.si .i64 ()), .var (.si .i64 ()), .drop, .drop, .drop, .drop, .drop, .drop, .drop, .drop, .drop, .drop, .drop, .drop, .drop, .drop, .drop, .drop, .drop, .drop, .drop, .drop, .drop, .drop, .drop, .drop, .env (.undef)], [], [(46, [.row false [.z .i64] ()])], []⟩
def st_28 (D : Dom) (env p : List (PD D)) : D.B × D.B × List (PD D) := G7 D (nthZ env 0) (nthL env 1) p
theorem rd_28 (D : Dom) (env vars : List (PD D)) (ctx : List (AV D)) : (sh_28.round (sh_28.st env vars ctx).h.length (evCodeH Try.prog (tbl_17 D) (lt_28 D) 80 10 (loopB Try.prog 10 0) (sh_28.st env vars ctx))).map Nr.step = some (st_28 D env vars) := by kernel_rfl
noncomputable def ll_29 (D : Dom) : List (LE D) := ⟨10, 0, sh_28, st_28 D, fun s => evCodeH Try.prog (tbl_17 D) (lt_28 D) 80 10 (loopB Try.prog 10 0) s⟩ :: ll_28 D
noncomputable def lt_29 (D : Dom) : LTb D := ltOf (ll_29 D)
theorem hok_29 : HooksOK Try.prog (lt_29 R) := HooksOK.cons prg tok_17 hok_28 (by kernel_rfl) (by kernel_rfl) (rd_28 R)
def sh_29 : HSh := ⟨50, 53, [.ctx, .env (.ptr 49 0), .env (.nils), .slot [.z .i64] 1, .var (.si .i64 ()), .drop, .drop, .drop, .drop, .drop, .drop, .drop, .drop, .drop, .drop, .drop, .drop, .drop, .drop, .drop, .drop, .env (.undef)], [], [(49, [.si .i64 (), .sslice 0 .part none () 3]), (0, [.row true [.f, .f, .f] ()])], []⟩
def st_29 (D : Dom) (env p : List (PD D)) : D.B × D.B × List (PD D) := G6 D (nthZ env 1) (nthL env 2) p
theorem rd_29 (D : Dom) (env vars : List (PD D)) (ctx : List (AV D)) : (sh_29.round (sh_29.st env vars ctx).h.length (evCodeH Try.prog (tbl_17 D) (lt_29 D) 80 11 (loopB Try.prog 11 0) (sh_29.st env vars ctx))).map Nr.step = some (st_29 D env vars) := by kernel_rfl
noncomputable def ll_30 (D : Dom) : List (LE D) := ⟨11, 0, sh_29, st_29 D, fun s => evCodeH Try.prog (tbl_17 D) (lt_29 D) 80 11 (loopB Try.prog 11 0) s⟩ :: ll_29 D
noncomputable def lt_30 (D : Dom) : LTb D := ltOf (ll_30 D)
theorem hok_30 : HooksOK Try.prog (lt_30 R) := HooksOK.cons prg tok_17 hok_29 (by kernel_rfl) (by kernel_rfl) (rd_29 R)

-- penumbra/penumbralaw17.EnvLooks
def WS4_0_0 (D : Dom) (a0 : D.Z) (a1 : D.L) : D.B := (D.bite (D.bite (D.zlt a0 (D.zc 1)) (D.bc true) (D.zlt (D.zc 16) a0)) (D.bc true) (D.bnot (D.zeq (D.llen a1) (D.zmul .i64 (D.zc 8) a0))))
def WS4_0_1 (D : Dom) (a1 : D.L) : List (PD D) := (L5 D (D.llen a1) a1 (D.bc false) (D.zc 0))
def WS4_0_2 (D : Dom) (a1 : D.L) : List (PD D) := (L1 D (D.llen a1) (D.llen a1) a1 D.lnil (D.zc 0) (D.zc 0))
def WS4_0_3 (D : Dom) (a1 : D.L) : D.B := (D.zlt (D.zc 1024) (D.llen (nthL (WS4_0_2 D a1) 0)))
def WS4_0_4 (D : Dom) (a1 : D.L) : List (PD D) := (L2 D (D.llen (nthL (WS4_0_2 D a1) 0)) (D.llen (nthL (WS4_0_2 D a1) 0)) (nthL (WS4_0_2 D a1) 0) (D.zc 0) (D.zc 0) (D.zc 0) (D.zc 0))
def WS4_0_5 (D : Dom) (a1 : D.L) : D.B := (D.zlt (nthZ (WS4_0_4 D a1) 3) (D.llen (nthL (WS4_0_2 D a1) 0)))
def WS4_0_6 (D : Dom) (a1 : D.L) : D.B := (D.zeq (D.llen (nthL (WS4_0_2 D a1) 0)) (D.zc 0))
def WS4_0_7 (D : Dom) (a1 : D.L) : D.B := (D.bite (WS4_0_6 D a1) (D.bc true) (D.zeq (nthZ (WS4_0_4 D a1) 2) (D.zc 0)))
def WS4_0_8 (D : Dom) (a0 : D.Z) (a4 : D.F) : D.F := (D.fmul (D.fmul (D.fsub (D.fc 4607182418800017408) a4) (D.fc 4602678819172646912)) (D.i2f a0))
def WS4_0_9 (D : Dom) (a0 : D.Z) (a4 : D.F) : D.B := (D.flt (WS4_0_8 D a0 a4) (D.fc 4607182418800017408))
def WS4_0_10 (D : Dom) (a0 : D.Z) (a2 : D.F) (a3 : D.F) (a4 : D.F) : D.Z := (D.zite (D.bnot (S33_0 D a2 a3 a4)) (D.zc (-1)) (D.zadd .i64 (D.zmul .i64 (D.zc 8) (D.zite (D.bite (WS4_0_9 D a0 a4) (D.bc true) (D.fge (WS4_0_8 D a0 a4) (D.i2f a0))) (D.zite (WS4_0_9 D a0 a4) (D.zc 0) (D.zsub .i64 a0 (D.zc 1))) (D.f2i .i64 (WS4_0_8 D a0 a4)))) (S35_0 D a2 a3)))
def WS4_0_11 (D : Dom) (a0 : D.Z) (a4 : D.F) : List (PD D) := (L8 D (WS4_0_8 D a0 a4) a0 (D.zc 0))
def WS4_0_12 (D : Dom) (a0 : D.Z) (a2 : D.F) (a3 : D.F) (a4 : D.F) : D.Z := (D.zite (D.bnot (S31_0 D a2 a3 a4)) (D.zc (-1)) (D.zadd .i64 (D.zmul .i64 (D.zc 8) (nthZ (WS4_0_11 D a0 a4) 0)) (S32_0 D a2 a3)))
def WS4_0_13 (D : Dom) (a0 : D.Z) (a2 : D.F) (a3 : D.F) (a4 : D.F) : D.B := (D.zeq (WS4_0_10 D a0 a2 a3 a4) (WS4_0_12 D a0 a2 a3 a4))
def WS4_0_14 (D : Dom) (a0 : D.Z) (a2 : D.F) (a3 : D.F) (a4 : D.F) : D.B := (D.zlt (WS4_0_10 D a0 a2 a3 a4) (D.zc 0))
def WS4_0_15 (D : Dom) (a0 : D.Z) (a2 : D.F) (a3 : D.F) (a4 : D.F) : D.B := (D.zle (D.zc 0) (WS4_0_12 D a0 a2 a3 a4))
def WS4_0_16 (D : Dom) (a0 : D.Z) (a1 : D.L) (a2 : D.F) (a3 : D.F) (a4 : D.F) : D.B := (D.band (D.feq (D.fite (WS4_0_14 D a0 a2 a3 a4) (D.fc 0) (D.lf (D.lsub a1 (D.zc 0) (D.llen a1)) (WS4_0_10 D a0 a2 a3 a4) 0)) (D.fite (WS4_0_15 D a0 a2 a3 a4) (D.lf a1 (WS4_0_12 D a0 a2 a3 a4) 0) (D.fc 0))) (D.band (D.feq (D.fite (WS4_0_14 D a0 a2 a3 a4) (D.fc 0) (D.lf (D.lsub a1 (D.zc 0) (D.llen a1)) (WS4_0_10 D a0 a2 a3 a4) 1)) (D.fite (WS4_0_15 D a0 a2 a3 a4) (D.lf a1 (WS4_0_12 D a0 a2 a3 a4) 1) (D.fc 0))) (D.band (D.feq (D.fite (WS4_0_14 D a0 a2 a3 a4) (D.fc 0) (D.lf (D.lsub a1 (D.zc 0) (D.llen a1)) (WS4_0_10 D a0 a2 a3 a4) 2)) (D.fite (WS4_0_15 D a0 a2 a3 a4) (D.lf a1 (WS4_0_12 D a0 a2 a3 a4) 2) (D.fc 0))) (D.bc true))))
def WS4_0_17 (D : Dom) (a1 : D.L) : List (PD D) := (L6 D (D.llen a1) a1 D.lnil (D.zc 0))
def WS4_0_18 (D : Dom) (a1 : D.L) : List (PD D) := (L7 D (D.llen (nthL (WS4_0_17 D a1) 0)) (nthL (WS4_0_17 D a1) 0) (D.zc 0) (D.zc 0) (D.zc 0))
def WS4_0_19 (D : Dom) (a1 : D.L) : D.Z := (D.zite (D.zlt (nthZ (WS4_0_18 D a1) 2) (D.llen (nthL (WS4_0_17 D a1) 0))) (D.zc (-1)) (nthZ (WS4_0_18 D a1) 1))
def WS4_0_20 (D : Dom) (a0 : D.Z) : D.F := (D.fmul (D.i2f a0) (D.fc 4602678819172646912))
def WS4_0_21 (D : Dom) (a0 : D.Z) (a1 : D.L) (a2 : D.F) (a3 : D.F) (a4 : D.F) : D.F := (D.fite (D.bite (D.zlt (WS4_0_12 D a0 a2 a3 a4) (D.zc 0)) (D.bc true) (D.zle (WS4_0_19 D a1) (D.zc 0))) (D.fc 0) (D.fmul (D.fmul (D.fdiv (D.i2f (D.lz (nthL (WS4_0_17 D a1) 0) (WS4_0_12 D a0 a2 a3 a4) 0)) (D.i2f (WS4_0_19 D a1))) (WS4_0_20 D a0)) (D.fadd (D.fc 4607182418800017408) (D.fmul (S32_1 D a2 a3) (S32_1 D a2 a3)))))
def S4_0 (D : Dom) (a0 : D.Z) (a1 : D.L) (a2 : D.F) (a3 : D.F) (a4 : D.F) : D.B := (D.bite (D.bnot (D.bite (WS4_0_0 D a0 a1) (D.bc false) (D.bite (D.zlt (nthZ (WS4_0_1 D a1) 1) (D.llen a1)) (D.bc false) (D.bc true)))) (S7_0 D) (D.bite (WS4_0_0 D a0 a1) (D.bc false) (D.bite (D.zlt (nthZ (WS4_0_2 D a1) 2) (D.llen a1)) (D.bc false) (D.bite (D.bnot (D.zeq (D.zite (WS4_0_3 D a1) (D.zc 4) (D.zite (WS4_0_5 D a1) (D.zc 2) (D.zite (WS4_0_7 D a1) (D.zite (WS4_0_6 D a1) (D.zc 2) (D.zc 13)) (D.zc 0)))) (D.zc 0))) (D.bite (S7_0 D) (D.bite (WS4_0_13 D a0 a2 a3 a4) (D.bite (WS4_0_16 D a0 a1 a2 a3 a4) (S17_0 D (D.fc 0) (WS4_0_21 D a0 a1 a2 a3 a4)) (D.bc false)) (D.bc false)) (D.bc false)) (D.bite (S7_0 D) (D.bite (WS4_0_13 D a0 a2 a3 a4) (D.bite (WS4_0_16 D a0 a1 a2 a3 a4) (S17_0 D (D.fite (D.bite (WS4_0_14 D a0 a2 a3 a4) (D.bc true) (D.bc false)) (D.fc 0) (D.fmul (D.fmul (D.fite (D.bnot (D.bite (D.zle (D.zc 0) (WS4_0_10 D a0 a2 a3 a4)) (D.zlt (WS4_0_10 D a0 a2 a3 a4) (D.llen (nthL (WS4_0_2 D a1) 0))) (D.bc false))) (D.fc 0) (D.fdiv (D.i2f (D.lz (nthL (WS4_0_2 D a1) 0) (WS4_0_10 D a0 a2 a3 a4) 0)) (D.i2f (D.zite (WS4_0_3 D a1) (D.zc 0) (D.zite (WS4_0_5 D a1) (D.zc 0) (D.zite (WS4_0_7 D a1) (D.zc 0) (nthZ (WS4_0_4 D a1) 2))))))) (WS4_0_20 D a0)) (D.fadd (D.fc 4607182418800017408) (D.fmul (S35_1 D a2 a3) (S35_1 D a2 a3))))) (WS4_0_21 D a0 a1 a2 a3 a4)) (D.bc false)) (D.bc false)) (D.bc false))))))
def WO4_0 (D : Dom) (a0 : D.Z) (a1 : D.L) : D.B := (D.bite (D.bite (D.zlt a0 (D.zc 1)) (D.bc true) (D.zlt (D.zc 16) a0)) (D.bc true) (D.bnot (D.zeq (D.llen a1) (D.zmul .i64 (D.zc 8) a0))))
def WO4_1 (D : Dom) (a1 : D.L) : D.B := (E5 D (D.llen a1) a1 (D.bc false) (D.zc 0))
def WO4_2 (D : Dom) (a1 : D.L) : List (PD D) := (L5 D (D.llen a1) a1 (D.bc false) (D.zc 0))
def WO4_3 (D : Dom) (a0 : D.Z) (a1 : D.L) : D.B := (D.bnot (D.bite (WO4_0 D a0 a1) (D.bc false) (D.bite (D.zlt (nthZ (WO4_2 D a1) 1) (D.llen a1)) (D.bc false) (D.bc true))))
def WO4_4 (D : Dom) (a1 : D.L) : D.B := (E1 D (D.llen a1) (D.llen a1) a1 D.lnil (D.zc 0) (D.zc 0))
def WO4_5 (D : Dom) (a1 : D.L) : List (PD D) := (L1 D (D.llen a1) (D.llen a1) a1 D.lnil (D.zc 0) (D.zc 0))
def WO4_6 (D : Dom) (a1 : D.L) : D.Z := (D.llen (D.lsub a1 (D.zc 0) (D.llen a1)))
def WO4_7 (D : Dom) (a1 : D.L) : D.B := (D.zlt (D.zc 1024) (D.llen (nthL (WO4_5 D a1) 0)))
def WO4_8 (D : Dom) (a1 : D.L) : D.B := (E2 D (D.llen (nthL (WO4_5 D a1) 0)) (D.llen (nthL (WO4_5 D a1) 0)) (nthL (WO4_5 D a1) 0) (D.zc 0) (D.zc 0) (D.zc 0) (D.zc 0))
def WO4_9 (D : Dom) (a1 : D.L) : List (PD D) := (L2 D (D.llen (nthL (WO4_5 D a1) 0)) (D.llen (nthL (WO4_5 D a1) 0)) (nthL (WO4_5 D a1) 0) (D.zc 0) (D.zc 0) (D.zc 0) (D.zc 0))
def WO4_10 (D : Dom) (a1 : D.L) : D.B := (D.zlt (nthZ (WO4_9 D a1) 3) (D.llen (nthL (WO4_5 D a1) 0)))
def WO4_11 (D : Dom) (a1 : D.L) : D.B := (D.zeq (D.llen (nthL (WO4_5 D a1) 0)) (D.zc 0))
def WO4_12 (D : Dom) (a1 : D.L) : D.B := (D.bite (WO4_11 D a1) (D.bc true) (D.zeq (nthZ (WO4_9 D a1) 2) (D.zc 0)))
def WO4_13 (D : Dom) (a0 : D.Z) (a4 : D.F) : D.F := (D.fmul (D.fmul (D.fsub (D.fc 4607182418800017408) a4) (D.fc 4602678819172646912)) (D.i2f a0))
def WO4_14 (D : Dom) (a0 : D.Z) (a4 : D.F) : D.B := (E8 D (WO4_13 D a0 a4) a0 (D.zc 0))
def WO4_15 (D : Dom) (a0 : D.Z) (a2 : D.F) (a3 : D.F) (a4 : D.F) : D.B := (D.bite (D.bnot (S31_0 D a2 a3 a4)) (D.bc true) (WO4_14 D a0 a4))
def WO4_16 (D : Dom) (a0 : D.Z) (a4 : D.F) : List (PD D) := (L8 D (WO4_13 D a0 a4) a0 (D.zc 0))
def WO4_17 (D : Dom) (a0 : D.Z) (a2 : D.F) (a3 : D.F) (a4 : D.F) : D.Z := (D.zite (D.bnot (S31_0 D a2 a3 a4)) (D.zc (-1)) (D.zadd .i64 (D.zmul .i64 (D.zc 8) (nthZ (WO4_16 D a0 a4) 0)) (S32_0 D a2 a3)))
def WO4_18 (D : Dom) (a0 : D.Z) (a1 : D.L) (a2 : D.F) (a3 : D.F) (a4 : D.F) : D.B := (D.bite (D.zle (D.zc 0) (WO4_17 D a0 a2 a3 a4)) (D.band (D.zle (D.zc 0) (WO4_17 D a0 a2 a3 a4)) (D.zlt (WO4_17 D a0 a2 a3 a4) (D.llen a1))) (D.bc true))
def WO4_19 (D : Dom) (a0 : D.Z) (a4 : D.F) : D.B := (D.flt (WO4_13 D a0 a4) (D.fc 4607182418800017408))
def WO4_20 (D : Dom) (a0 : D.Z) (a4 : D.F) : D.B := (D.bite (WO4_19 D a0 a4) (D.bc true) (D.fge (WO4_13 D a0 a4) (D.i2f a0)))
def WO4_21 (D : Dom) (a0 : D.Z) (a2 : D.F) (a3 : D.F) (a4 : D.F) : D.B := (D.bite (D.bnot (S33_0 D a2 a3 a4)) (D.bc true) (D.bite (WO4_20 D a0 a4) (D.bc true) (D.f2iok .i64 (WO4_13 D a0 a4))))
def WO4_22 (D : Dom) (a0 : D.Z) (a2 : D.F) (a3 : D.F) (a4 : D.F) : D.Z := (D.zite (D.bnot (S33_0 D a2 a3 a4)) (D.zc (-1)) (D.zadd .i64 (D.zmul .i64 (D.zc 8) (D.zite (WO4_20 D a0 a4) (D.zite (WO4_19 D a0 a4) (D.zc 0) (D.zsub .i64 a0 (D.zc 1))) (D.f2i .i64 (WO4_13 D a0 a4)))) (S35_0 D a2 a3)))
def WO4_23 (D : Dom) (a0 : D.Z) (a2 : D.F) (a3 : D.F) (a4 : D.F) : D.B := (D.zeq (WO4_22 D a0 a2 a3 a4) (WO4_17 D a0 a2 a3 a4))
def WO4_24 (D : Dom) (a0 : D.Z) (a1 : D.L) (a2 : D.F) (a3 : D.F) (a4 : D.F) : D.B := (D.band (WO4_21 D a0 a2 a3 a4) (D.bite (D.zlt (WO4_22 D a0 a2 a3 a4) (D.zc 0)) (D.bc true) (D.band (D.zle (D.zc 0) (WO4_22 D a0 a2 a3 a4)) (D.zlt (WO4_22 D a0 a2 a3 a4) (WO4_6 D a1)))))
def WO4_25 (D : Dom) (a0 : D.Z) (a1 : D.L) (a2 : D.F) (a3 : D.F) (a4 : D.F) : D.B := (D.band (D.feq (D.fite (D.zlt (WO4_22 D a0 a2 a3 a4) (D.zc 0)) (D.fc 0) (D.lf (D.lsub a1 (D.zc 0) (D.llen a1)) (WO4_22 D a0 a2 a3 a4) 0)) (D.fite (D.zle (D.zc 0) (WO4_17 D a0 a2 a3 a4)) (D.lf a1 (WO4_17 D a0 a2 a3 a4) 0) (D.fc 0))) (D.band (D.feq (D.fite (D.zlt (WO4_22 D a0 a2 a3 a4) (D.zc 0)) (D.fc 0) (D.lf (D.lsub a1 (D.zc 0) (D.llen a1)) (WO4_22 D a0 a2 a3 a4) 1)) (D.fite (D.zle (D.zc 0) (WO4_17 D a0 a2 a3 a4)) (D.lf a1 (WO4_17 D a0 a2 a3 a4) 1) (D.fc 0))) (D.band (D.feq (D.fite (D.zlt (WO4_22 D a0 a2 a3 a4) (D.zc 0)) (D.fc 0) (D.lf (D.lsub a1 (D.zc 0) (D.llen a1)) (WO4_22 D a0 a2 a3 a4) 2)) (D.fite (D.zle (D.zc 0) (WO4_17 D a0 a2 a3 a4)) (D.lf a1 (WO4_17 D a0 a2 a3 a4) 2) (D.fc 0))) (D.bc true))))
def WO4_26 (D : Dom) (a1 : D.L) : D.B := (E6 D (D.llen a1) a1 D.lnil (D.zc 0))
def WO4_27 (D : Dom) (a1 : D.L) : List (PD D) := (L6 D (D.llen a1) a1 D.lnil (D.zc 0))
def WO4_28 (D : Dom) (a1 : D.L) : D.B := (E7 D (D.llen (nthL (WO4_27 D a1) 0)) (nthL (WO4_27 D a1) 0) (D.zc 0) (D.zc 0) (D.zc 0))
def WO4_29 (D : Dom) (a1 : D.L) : List (PD D) := (L7 D (D.llen (nthL (WO4_27 D a1) 0)) (nthL (WO4_27 D a1) 0) (D.zc 0) (D.zc 0) (D.zc 0))
def WO4_30 (D : Dom) (a0 : D.Z) (a1 : D.L) (a2 : D.F) (a3 : D.F) (a4 : D.F) : D.B := (D.band (WO4_15 D a0 a2 a3 a4) (D.band (D.band (WO4_26 D a1) (WO4_28 D a1)) (D.bite (D.bite (D.zlt (WO4_17 D a0 a2 a3 a4) (D.zc 0)) (D.bc true) (D.zle (D.zite (D.zlt (nthZ (WO4_29 D a1) 2) (D.llen (nthL (WO4_27 D a1) 0))) (D.zc (-1)) (nthZ (WO4_29 D a1) 1)) (D.zc 0))) (D.bc true) (D.band (WO4_26 D a1) (D.band (D.zle (D.zc 0) (WO4_17 D a0 a2 a3 a4)) (D.zlt (WO4_17 D a0 a2 a3 a4) (D.llen (nthL (WO4_27 D a1) 0))))))))
def WO4_31 (D : Dom) (a1 : D.L) : D.B := (D.zle (D.llen (nthL (WO4_5 D a1) 0)) (D.zc 1073741824))
def WO4_32 (D : Dom) (a1 : D.L) : D.B := (D.band (D.zle (D.zc 0) (D.llen (nthL (WO4_5 D a1) 0))) (WO4_31 D a1))
def WO4_33 (D : Dom) (a1 : D.L) : D.Z := (D.zite (WO4_7 D a1) (D.zc 0) (D.zite (WO4_10 D a1) (D.zc 0) (D.zite (WO4_12 D a1) (D.zc 0) (nthZ (WO4_9 D a1) 2))))
def WO4_34 (D : Dom) (a1 : D.L) : D.L := (D.lrep (D.llen (nthL (WO4_5 D a1) 0)) [.z (D.zc 0), .z (D.zc 0)])
def WO4_35 (D : Dom) (a1 : D.L) : D.L := (D.lrep (D.llen (nthL (WO4_5 D a1) 0)) [.z (D.zc 0)])
def WO4_36 (D : Dom) (a1 : D.L) : D.B := (E3 D (D.llen (nthL (WO4_5 D a1) 0)) (D.llen (nthL (WO4_5 D a1) 0)) (D.llen (nthL (WO4_5 D a1) 0)) (nthL (WO4_5 D a1) 0) (WO4_33 D a1) (D.llen (nthL (WO4_5 D a1) 0)) (D.llen (nthL (WO4_5 D a1) 0)) D.lnil D.lnil (D.zc 0) (WO4_34 D a1) (WO4_35 D a1))
def WO4_37 (D : Dom) (a1 : D.L) : List (PD D) := (L3 D (D.llen (nthL (WO4_5 D a1) 0)) (D.llen (nthL (WO4_5 D a1) 0)) (D.llen (nthL (WO4_5 D a1) 0)) (nthL (WO4_5 D a1) 0) (WO4_33 D a1) (D.llen (nthL (WO4_5 D a1) 0)) (D.llen (nthL (WO4_5 D a1) 0)) D.lnil D.lnil (D.zc 0) (WO4_34 D a1) (WO4_35 D a1))
def WO4_38 (D : Dom) (a1 : D.L) : D.B := (E4 D (WO4_33 D a1) (D.llen (nthL (WO4_5 D a1) 0)) (D.llen (nthL (WO4_5 D a1) 0)) (nthL (WO4_37 D a1) 0) (nthL (WO4_37 D a1) 1) (nthL (WO4_37 D a1) 4) (nthL (WO4_37 D a1) 3))
def WO4_39 (D : Dom) (a0 : D.Z) (a1 : D.L) (a2 : D.F) (a3 : D.F) (a4 : D.F) : D.B := (D.zlt (WO4_22 D a0 a2 a3 a4) (D.llen (nthL (WO4_5 D a1) 0)))
def WO4_40 (D : Dom) (a0 : D.Z) (a1 : D.L) (a2 : D.F) (a3 : D.F) (a4 : D.F) : D.B := (D.bite (WO4_3 D a0 a1) (D.bc true) (D.bite (WO4_0 D a0 a1) (D.bc true) (D.band (WO4_4 D a1) (D.bite (D.zlt (nthZ (WO4_5 D a1) 2) (D.llen a1)) (D.bc true) (D.band (D.zle (WO4_6 D a1) (D.zc 1073741824)) (D.band (D.bite (WO4_7 D a1) (D.bc true) (WO4_8 D a1)) (D.bite (D.bnot (D.zeq (D.zite (WO4_7 D a1) (D.zc 4) (D.zite (WO4_10 D a1) (D.zc 2) (D.zite (WO4_12 D a1) (D.zite (WO4_11 D a1) (D.zc 2) (D.zc 13)) (D.zc 0)))) (D.zc 0))) (D.band (WO4_15 D a0 a2 a3 a4) (D.band (WO4_18 D a0 a1 a2 a3 a4) (D.band (O7 D) (D.bite (S7_0 D) (D.band (WO4_21 D a0 a2 a3 a4) (D.bite (WO4_23 D a0 a2 a3 a4) (D.band (WO4_24 D a0 a1 a2 a3 a4) (D.bite (WO4_25 D a0 a1 a2 a3 a4) (D.band (WO4_21 D a0 a2 a3 a4) (WO4_30 D a0 a1 a2 a3 a4)) (D.bc true))) (D.bc true))) (D.bc true))))) (D.band (WO4_31 D a1) (D.band (WO4_32 D a1) (D.band (WO4_32 D a1) (D.band (WO4_36 D a1) (D.band (WO4_38 D a1) (D.band (WO4_15 D a0 a2 a3 a4) (D.band (WO4_18 D a0 a1 a2 a3 a4) (D.band (O7 D) (D.bite (S7_0 D) (D.band (WO4_21 D a0 a2 a3 a4) (D.bite (WO4_23 D a0 a2 a3 a4) (D.band (WO4_24 D a0 a1 a2 a3 a4) (D.bite (WO4_25 D a0 a1 a2 a3 a4) (D.band (D.band (WO4_21 D a0 a2 a3 a4) (D.bite (D.bite (D.zlt (WO4_22 D a0 a2 a3 a4) (D.zc 0)) (D.bc true) (D.bc false)) (D.bc true) (D.bite (D.bnot (D.bite (D.zle (D.zc 0) (WO4_22 D a0 a2 a3 a4)) (WO4_39 D a0 a1 a2 a3 a4) (D.bc false))) (D.bc true) (D.band (D.zle (D.zc 0) (WO4_22 D a0 a2 a3 a4)) (WO4_39 D a0 a1 a2 a3 a4))))) (WO4_30 D a0 a1 a2 a3 a4)) (D.bc true))) (D.bc true))) (D.bc true)))))))))))))))))
def O4 (D : Dom) (a0 : D.Z) (a1 : D.L) (a2 : D.F) (a3 : D.F) (a4 : D.F) : D.B := (D.band (D.bite (WO4_0 D a0 a1) (D.bc true) (WO4_1 D a1)) (D.band (D.bite (WO4_3 D a0 a1) (O7 D) (D.bc true)) (WO4_40 D a0 a1 a2 a3 a4)))
theorem ev4 (D : Dom) (a0 : D.Z) (a1 : D.L) (a2 : D.F) (a3 : D.F) (a4 : D.F) : joinT (evFnH Try.prog (tbl_17 D) (lt_30 D) 80 4 [.agg [.si .i64 a0, .sslice 0 .part none (D.llen a1) 3], .agg [.fl a2, .fl a3, .fl a4]] [(0, [.row true [.f, .f, .f] a1])] 1) = .val (some (O4 D a0 a1 a2 a3 a4)) (.sb (S4_0 D a0 a1 a2 a3 a4)) := by kernel_rfl

-- penumbra/penumbraref06.Clean
def S21_0 (D : Dom) (a0 : D.F) : D.F := (D.fite (D.bite (D.bite (D.flt a0 (D.fc 0)) (D.bc true) (D.fge a0 (D.fc 4607182418800017408))) (D.bc true) (D.bnot (D.feq a0 a0))) (D.fc 0) a0)
theorem ev21 (D : Dom) (a0 : D.F) : joinT (evFnH Try.prog (tbl_17 D) (lt_30 D) 80 21 [.fl a0] [] 0) = .val none (.fl (S21_0 D a0)) := by kernel_rfl
def sp21 : Ev.Spec := fun D l => argF l fun a0 r0 => arg0 r0 (.ret (.fl (S21_0 D a0)))
theorem en21 : ∀ l r, (sp21 R l).run = some r → Entry Try.prog 21 l r := by
  intro l r h
  obtain ⟨x0, _, h, L0⟩ := argF_inv h
  obtain ⟨h, L1⟩ := arg0_inv h
  cases h
  exact (entry_loops prg tok_17 hok_30 (ev21 R x0) (fun o ho => nomatch ho) rfl).le (L0 _ L1)
def tl_21 : List (Nat × Ev.Spec) := (21, sp21) :: tl_17
def tbl_21 (D : Dom) : Tbl D := tblOf tl_21 D
theorem tok_21 : TblOK Try.prog (tbl_21 R) := TblOK.cons tok_17 en21

-- penumbra/penumbraref01.Low
def S22_0 (D : Dom) (a0 : D.Z) (a1 : D.Z) : D.Z := (D.zite (D.zlt a0 a1) a0 a1)
theorem ev22 (D : Dom) (a0 : D.Z) (a1 : D.Z) : joinT (evFnH Try.prog (tbl_21 D) (lt_30 D) 80 22 [.si .i64 a0, .si .i64 a1] [] 0) = .val none (.si .i64 (S22_0 D a0 a1)) := by kernel_rfl
def sp22 : Ev.Spec := fun D l => argZ .i64 l fun a0 r0 => argZ .i64 r0 fun a1 r1 => arg0 r1 (.ret (.si .i64 (S22_0 D a0 a1)))
theorem en22 : ∀ l r, (sp22 R l).run = some r → Entry Try.prog 22 l r := by
  intro l r h
  obtain ⟨x0, _, h, L0⟩ := argZ_inv h
  obtain ⟨x1, _, h, L1⟩ := argZ_inv h
  obtain ⟨h, L2⟩ := arg0_inv h
  cases h
  exact (entry_loops prg tok_21 hok_30 (ev22 R x0 x1) (fun o ho => nomatch ho) rfl).le (L0 _ (L1 _ L2))
def tl_22 : List (Nat × Ev.Spec) := (22, sp22) :: tl_21
def tbl_22 (D : Dom) : Tbl D := tblOf tl_22 D
theorem tok_22 : TblOK Try.prog (tbl_22 R) := TblOK.cons tok_21 en22

-- loop 9
def C9 (D : Dom) (a0 : D.F) (a1 : D.Z) : D.B := (D.bite (D.zlt a1 (D.zc 7)) (D.fle (D.i2f (D.zadd .i64 a1 (D.zc 1))) a0) (D.bc false))
def O9_ (D : Dom)  : D.B := (D.bc true)
def N9_0 (D : Dom) (a1 : D.Z) : D.Z := (D.zadd .i64 a1 (D.zc 1))
def G9 (D : Dom) (a0 : D.F) (p : List (PD D)) : D.B × D.B × List (PD D) := (C9 D a0 (nthZ p 0), O9_ D, [.z (N9_0 D (nthZ p 0))])
def L9 (D : Dom) (a0 : D.F) (a1 : D.Z) : List (PD D) := D.last (G9 D a0) [.z a1]
def E9 (D : Dom) (a0 : D.F) (a1 : D.Z) : D.B := D.ends (G9 D a0) [.z a1]
def sh_30 : HSh := ⟨0, 0, [.ctx, .env (.undef), .ctx, .ctx, .ctx, .env (.fl ()), .var (.si .i64 ()), .env (.undef), .env (.undef), .env (.undef), .env (.undef), .env (.undef), .env (.undef), .env (.undef), .env (.undef), .ctx, .ctx, .ctx, .drop, .drop, .drop, .drop, .drop, .drop, .drop, .drop, .drop, .drop, .drop, .env (.undef), .env (.undef), .env (.undef), .env (.undef), .env (.undef), .env (.undef), .env (.undef), .env (.undef), .env (.undef), .env (.undef), .env (.undef), .env (.undef), .env (.undef), .env (.undef), .env (.undef), .env (.undef), .env (.undef), .env (.undef), .env (.undef), .env (.undef), .env (.undef), .env (.undef), .env (.undef), .env (.undef), .env (.undef), .env (.undef), .env (.undef), .env (.undef), .env (.undef), .env (.undef), .env (.undef), .env (.undef), .env (.undef), .env (.undef), .env (.undef), .env (.undef), .env (.undef), .env (.undef), .env (.undef), .env (.undef), .env (.undef), .env (.undef), .env (.undef), .env (.undef), .env (.undef), .env (.undef), .env (.undef), .env (.undef), .env (.undef), .env (.undef)], [], [], []⟩
def st_30 (D : Dom) (env p : List (PD D)) : D.B × D.B × List (PD D) := G9 D (nthF env 0) p
theorem rd_30 (D : Dom) (env vars : List (PD D)) (ctx : List (AV D)) : (sh_30.round (sh_30.st env vars ctx).h.length (evCodeH Try.prog (tbl_22 D) (lt_30 D) 80 44 (loopB Try.prog 44 0) (sh_30.st env vars ctx))).map Nr.step = some (st_30 D env vars) := by kernel_rfl
noncomputable def ll_31 (D : Dom) : List (LE D) := ⟨44, 0, sh_30, st_30 D, fun s => evCodeH Try.prog (tbl_22 D) (lt_30 D) 80 44 (loopB Try.prog 44 0) s⟩ :: ll_30 D
noncomputable def lt_31 (D : Dom) : LTb D := ltOf (ll_31 D)
theorem hok_31 : HooksOK Try.prog (lt_31 R) := HooksOK.cons prg tok_22 hok_30 (by kernel_rfl) (by kernel_rfl) (rd_30 R)

-- penumbra/penumbraref09.Sector
def WS44_0_0 (D : Dom) (a0 : D.F) : D.F := (D.fmul (D.fc 4620693217682128896) (S21_0 D a0))
def WS44_0_1 (D : Dom) (a0 : D.F) : List (PD D) := (L9 D (WS44_0_0 D a0) (D.zc 0))
def WS44_0_2 (D : Dom) (a0 : D.F) : D.F := (D.fsub (WS44_0_0 D a0) (D.i2f (nthZ (WS44_0_1 D a0) 0)))
def WS44_0_3 (D : Dom) (a0 : D.F) : D.F := (S39_0 D (D.fadd (D.fc 4607182418800017408) (D.fmul (WS44_0_2 D a0) (WS44_0_2 D a0))))
def WS44_0_4 (D : Dom) (a0 : D.F) : D.F := (D.fite (D.bite (D.bite (D.bite (D.zeq (nthZ (WS44_0_1 D a0) 0) (D.zc 1)) (D.bc true) (D.zeq (nthZ (WS44_0_1 D a0) 0) (D.zc 2))) (D.bc true) (D.zeq (nthZ (WS44_0_1 D a0) 0) (D.zc 5))) (D.bc true) (D.zeq (nthZ (WS44_0_1 D a0) 0) (D.zc 6))) (D.fdiv (WS44_0_2 D a0) (WS44_0_3 D a0)) (D.fdiv (D.fc 4607182418800017408) (WS44_0_3 D a0)))
def S44_0 (D : Dom) (a0 : D.F) : D.F := (D.fite (D.bite (D.zle (D.zc 2) (nthZ (WS44_0_1 D a0) 0)) (D.zle (nthZ (WS44_0_1 D a0) 0) (D.zc 5)) (D.bc false)) (D.fsub (D.fc 0) (WS44_0_4 D a0)) (WS44_0_4 D a0))
def WS44_1_0 (D : Dom) (a0 : D.F) : D.F := (D.fmul (D.fc 4620693217682128896) (S21_0 D a0))
def WS44_1_1 (D : Dom) (a0 : D.F) : List (PD D) := (L9 D (WS44_1_0 D a0) (D.zc 0))
def WS44_1_2 (D : Dom) (a0 : D.F) : D.F := (D.fsub (WS44_1_0 D a0) (D.i2f (nthZ (WS44_1_1 D a0) 0)))
def WS44_1_3 (D : Dom) (a0 : D.F) : D.F := (S39_0 D (D.fadd (D.fc 4607182418800017408) (D.fmul (WS44_1_2 D a0) (WS44_1_2 D a0))))
def WS44_1_4 (D : Dom) (a0 : D.F) : D.F := (D.fite (D.bite (D.bite (D.bite (D.zeq (nthZ (WS44_1_1 D a0) 0) (D.zc 1)) (D.bc true) (D.zeq (nthZ (WS44_1_1 D a0) 0) (D.zc 2))) (D.bc true) (D.zeq (nthZ (WS44_1_1 D a0) 0) (D.zc 5))) (D.bc true) (D.zeq (nthZ (WS44_1_1 D a0) 0) (D.zc 6))) (D.fdiv (D.fc 4607182418800017408) (WS44_1_3 D a0)) (D.fdiv (WS44_1_2 D a0) (WS44_1_3 D a0)))
def S44_1 (D : Dom) (a0 : D.F) : D.F := (D.fite (D.zle (D.zc 4) (nthZ (WS44_1_1 D a0) 0)) (D.fsub (D.fc 0) (WS44_1_4 D a0)) (WS44_1_4 D a0))
def WS44_2_0 (D : Dom) (a0 : D.F) : D.F := (D.fmul (D.fc 4620693217682128896) (S21_0 D a0))
def WS44_2_1 (D : Dom) (a0 : D.F) : List (PD D) := (L9 D (WS44_2_0 D a0) (D.zc 0))
def WS44_2_2 (D : Dom) (a0 : D.F) : D.F := (D.fsub (WS44_2_0 D a0) (D.i2f (nthZ (WS44_2_1 D a0) 0)))
def S44_2 (D : Dom) (a0 : D.F) : D.F := (D.fmul (D.fadd (D.fc 4607182418800017408) (D.fmul (WS44_2_2 D a0) (WS44_2_2 D a0))) (D.fc 4593671619917905920))
def O44 (D : Dom) (a0 : D.F) : D.B := (E9 D (D.fmul (D.fc 4620693217682128896) (S21_0 D a0)) (D.zc 0))
theorem ev44 (D : Dom) (a0 : D.F) : joinT (evFnH Try.prog (tbl_22 D) (lt_31 D) 80 44 [.fl a0] [] 0) = .val (some (O44 D a0)) (.tup [.fl (S44_0 D a0), .fl (S44_1 D a0), .fl (S44_2 D a0)]) := by kernel_rfl
def sp44 : Ev.Spec := fun D l => argF l fun a0 r0 => arg0 r0 (.node (O44 D a0) (.ret (.tup [.fl (S44_0 D a0), .fl (S44_1 D a0), .fl (S44_2 D a0)])) (.fail "pre"))
theorem en44 : ∀ l r, (sp44 R l).run = some r → Entry Try.prog 44 l r := by
  intro l r h
  obtain ⟨x0, _, h, L0⟩ := argF_inv h
  obtain ⟨h, L1⟩ := arg0_inv h
  obtain ⟨hok, rfl⟩ := run_okay h
  exact (entry_loops prg tok_22 hok_31 (ev44 R x0) (fun o ho => (Option.some.inj ho) ▸ hok) rfl).le (L0 _ L1)
def tl_44 : List (Nat × Ev.Spec) := (44, sp44) :: tl_22
def tbl_44 (D : Dom) : Tbl D := tblOf tl_44 D
theorem tok_44 : TblOK Try.prog (tbl_44 R) := TblOK.cons tok_22 en44

-- loop 10
def C10 (D : Dom) (a0 : D.Z) (a7 : D.Z) : D.B := (D.zlt a7 a0)
def O10_ (D : Dom) (a0 : D.Z) (a1 : D.Z) (a2 : D.L) (a3 : D.L) (a4 : D.L) (a5 : D.L) (a6 : D.L) (a7 : D.Z) : D.B := (D.bite (D.zlt a7 a0) (D.band (D.band (D.zle (D.zc 0) a7) (D.zlt a7 a0)) (D.band (D.zle (D.llen (D.lapp a4 [[.z (D.zmul .i64 (D.lz a2 a7 0) a0)]])) (D.zc 1073741824)) (D.band (D.zle (D.llen (D.lapp a3 [[.z a1, .z a7]])) (D.zc 1073741824)) (D.bite (D.zlt (D.zmul .i64 (D.lz a2 a7 0) a0) a1) (D.zle (D.llen (D.lapp a5 [[.z a7]])) (D.zc 1073741824)) (D.zle (D.llen (D.lapp a6 [[.z a7]])) (D.zc 1073741824)))))) (D.bc true))
def N10_0 (D : Dom) (a0 : D.Z) (a1 : D.Z) (a2 : D.L) (a3 : D.L) (a7 : D.Z) : D.L := (D.lite (D.zlt (D.zmul .i64 (D.lz a2 a7 0) a0) a1) (D.lapp a3 [[.z a1, .z a7]]) (D.lapp a3 [[.z a1, .z a7]]))
def N10_1 (D : Dom) (a0 : D.Z) (a1 : D.Z) (a2 : D.L) (a4 : D.L) (a7 : D.Z) : D.L := (D.lite (D.zlt (D.zmul .i64 (D.lz a2 a7 0) a0) a1) (D.lapp a4 [[.z (D.zmul .i64 (D.lz a2 a7 0) a0)]]) (D.lapp a4 [[.z (D.zmul .i64 (D.lz a2 a7 0) a0)]]))
def N10_2 (D : Dom) (a0 : D.Z) (a1 : D.Z) (a2 : D.L) (a5 : D.L) (a7 : D.Z) : D.L := (D.lite (D.zlt (D.zmul .i64 (D.lz a2 a7 0) a0) a1) (D.lapp a5 [[.z a7]]) a5)
def N10_3 (D : Dom) (a0 : D.Z) (a1 : D.Z) (a2 : D.L) (a6 : D.L) (a7 : D.Z) : D.L := (D.lite (D.zlt (D.zmul .i64 (D.lz a2 a7 0) a0) a1) a6 (D.lapp a6 [[.z a7]]))
def N10_4 (D : Dom) (a0 : D.Z) (a1 : D.Z) (a2 : D.L) (a7 : D.Z) : D.Z := (D.zite (D.zlt (D.zmul .i64 (D.lz a2 a7 0) a0) a1) (D.zadd .i64 a7 (D.zc 1)) (D.zadd .i64 a7 (D.zc 1)))
def G10 (D : Dom) (a0 : D.Z) (a1 : D.Z) (a2 : D.L) (p : List (PD D)) : D.B × D.B × List (PD D) := (C10 D a0 (nthZ p 4), O10_ D a0 a1 a2 (nthL p 0) (nthL p 1) (nthL p 2) (nthL p 3) (nthZ p 4), [.l (N10_0 D a0 a1 a2 (nthL p 0) (nthZ p 4)), .l (N10_1 D a0 a1 a2 (nthL p 1) (nthZ p 4)), .l (N10_2 D a0 a1 a2 (nthL p 2) (nthZ p 4)), .l (N10_3 D a0 a1 a2 (nthL p 3) (nthZ p 4)), .z (N10_4 D a0 a1 a2 (nthZ p 4))])
def L10 (D : Dom) (a0 : D.Z) (a1 : D.Z) (a2 : D.L) (a3 : D.L) (a4 : D.L) (a5 : D.L) (a6 : D.L) (a7 : D.Z) : List (PD D) := D.last (G10 D a0 a1 a2) [.l a3, .l a4, .l a5, .l a6, .z a7]
def E10 (D : Dom) (a0 : D.Z) (a1 : D.Z) (a2 : D.L) (a3 : D.L) (a4 : D.L) (a5 : D.L) (a6 : D.L) (a7 : D.Z) : D.B := D.ends (G10 D a0 a1 a2) [.l a3, .l a4, .l a5, .l a6, .z a7]

-- loop 11
def C11 (D : Dom) (a3 : D.L) (a4 : D.L) : D.B := (D.bite (D.zlt (D.zc 0) (D.llen a3)) (D.zlt (D.zc 0) (D.llen a4)) (D.bc false))
def WO11__0 (D : Dom) (a3 : D.L) : D.B := (D.zle (D.zc 0) (D.zsub .i64 (D.llen a3) (D.zc 1)))
def WO11__1 (D : Dom) (a4 : D.L) : D.B := (D.zle (D.zc 0) (D.zsub .i64 (D.llen a4) (D.zc 1)))
def WO11__2 (D : Dom) (a3 : D.L) : D.L := (D.lcat D.lnil (D.lsub a3 (D.zc 0) (D.zsub .i64 (D.llen a3) (D.zc 1))))
def WO11__3 (D : Dom) (a3 : D.L) : D.Z := (D.lz a3 (D.zsub .i64 (D.llen a3) (D.zc 1)) 0)
def WO11__4 (D : Dom) (a2 : D.L) (a3 : D.L) : D.B := (D.band (D.zle (D.zc 0) (WO11__3 D a3)) (D.zlt (WO11__3 D a3) (D.llen a2)))
def WO11__5 (D : Dom) (a4 : D.L) : D.Z := (D.lz a4 (D.zsub .i64 (D.llen a4) (D.zc 1)) 0)
def O11_ (D : Dom) (a0 : D.Z) (a1 : D.L) (a2 : D.L) (a3 : D.L) (a4 : D.L) : D.B := (D.bite (D.bite (D.zlt (D.zc 0) (D.llen a3)) (D.zlt (D.zc 0) (D.llen a4)) (D.bc false)) (D.band (D.band (WO11__0 D a3) (D.zlt (D.zsub .i64 (D.llen a3) (D.zc 1)) (D.llen a3))) (D.band (D.band (WO11__1 D a4) (D.zlt (D.zsub .i64 (D.llen a4) (D.zc 1)) (D.llen a4))) (D.band (D.band (D.band (WO11__0 D a3) (D.zle (D.zsub .i64 (D.llen a3) (D.zc 1)) (D.llen a3))) (D.zle (D.llen (WO11__2 D a3)) (D.zc 1073741824))) (D.band (D.band (WO11__4 D a2 a3) (D.band (D.zle (D.llen (D.lcat D.lnil a1)) (D.zc 1073741824)) (D.band (D.zle (D.zc 0) (WO11__3 D a3)) (D.zlt (WO11__3 D a3) (D.llen (D.lcat D.lnil a1)))))) (D.band (D.band (D.zle (D.zc 0) (WO11__5 D a4)) (D.zlt (WO11__5 D a4) (D.llen a2))) (D.band (WO11__4 D a2 a3) (D.band (D.band (D.zle (D.llen (D.lcat D.lnil a2)) (D.zc 1073741824)) (D.band (D.zle (D.zc 0) (WO11__5 D a4)) (D.zlt (WO11__5 D a4) (D.llen (D.lcat D.lnil a2))))) (D.bite (D.zlt (D.zsub .i64 (D.lz a2 (WO11__5 D a4) 0) (D.zsub .i64 a0 (D.lz a2 (WO11__3 D a3) 0))) a0) (D.band (D.band (D.band (WO11__1 D a4) (D.zle (D.zsub .i64 (D.llen a4) (D.zc 1)) (D.llen a4))) (D.zle (D.llen (D.lcat D.lnil (D.lsub a4 (D.zc 0) (D.zsub .i64 (D.llen a4) (D.zc 1))))) (D.zc 1073741824))) (D.zle (D.llen (D.lapp (WO11__2 D a3) [[.z (WO11__5 D a4)]])) (D.zc 1073741824))) (D.bc true))))))))) (D.bc true))
def N11_0 (D : Dom) (a0 : D.Z) (a1 : D.L) (a2 : D.L) (a3 : D.L) (a4 : D.L) : D.L := (D.lite (D.zlt (D.zsub .i64 (D.lz a2 (D.lz a4 (D.zsub .i64 (D.llen a4) (D.zc 1)) 0) 0) (D.zsub .i64 a0 (D.lz a2 (D.lz a3 (D.zsub .i64 (D.llen a3) (D.zc 1)) 0) 0))) a0) (D.lput (D.lcat D.lnil a1) (D.lz a3 (D.zsub .i64 (D.llen a3) (D.zc 1)) 0) 0 [.z (D.lz a2 (D.lz a3 (D.zsub .i64 (D.llen a3) (D.zc 1)) 0) 0), .z (D.lz a4 (D.zsub .i64 (D.llen a4) (D.zc 1)) 0)]) (D.lput (D.lcat D.lnil a1) (D.lz a3 (D.zsub .i64 (D.llen a3) (D.zc 1)) 0) 0 [.z (D.lz a2 (D.lz a3 (D.zsub .i64 (D.llen a3) (D.zc 1)) 0) 0), .z (D.lz a4 (D.zsub .i64 (D.llen a4) (D.zc 1)) 0)]))
def N11_1 (D : Dom) (a0 : D.Z) (a2 : D.L) (a3 : D.L) (a4 : D.L) : D.L := (D.lite (D.zlt (D.zsub .i64 (D.lz a2 (D.lz a4 (D.zsub .i64 (D.llen a4) (D.zc 1)) 0) 0) (D.zsub .i64 a0 (D.lz a2 (D.lz a3 (D.zsub .i64 (D.llen a3) (D.zc 1)) 0) 0))) a0) (D.lput (D.lcat D.lnil a2) (D.lz a4 (D.zsub .i64 (D.llen a4) (D.zc 1)) 0) 0 [.z (D.zsub .i64 (D.lz a2 (D.lz a4 (D.zsub .i64 (D.llen a4) (D.zc 1)) 0) 0) (D.zsub .i64 a0 (D.lz a2 (D.lz a3 (D.zsub .i64 (D.llen a3) (D.zc 1)) 0) 0)))]) (D.lput (D.lcat D.lnil a2) (D.lz a4 (D.zsub .i64 (D.llen a4) (D.zc 1)) 0) 0 [.z (D.zsub .i64 (D.lz a2 (D.lz a4 (D.zsub .i64 (D.llen a4) (D.zc 1)) 0) 0) (D.zsub .i64 a0 (D.lz a2 (D.lz a3 (D.zsub .i64 (D.llen a3) (D.zc 1)) 0) 0)))]))
def N11_2 (D : Dom) (a0 : D.Z) (a2 : D.L) (a3 : D.L) (a4 : D.L) : D.L := (D.lite (D.zlt (D.zsub .i64 (D.lz a2 (D.lz a4 (D.zsub .i64 (D.llen a4) (D.zc 1)) 0) 0) (D.zsub .i64 a0 (D.lz a2 (D.lz a3 (D.zsub .i64 (D.llen a3) (D.zc 1)) 0) 0))) a0) (D.lapp (D.lcat D.lnil (D.lsub a3 (D.zc 0) (D.zsub .i64 (D.llen a3) (D.zc 1)))) [[.z (D.lz a4 (D.zsub .i64 (D.llen a4) (D.zc 1)) 0)]]) (D.lcat D.lnil (D.lsub a3 (D.zc 0) (D.zsub .i64 (D.llen a3) (D.zc 1)))))
def N11_3 (D : Dom) (a0 : D.Z) (a2 : D.L) (a3 : D.L) (a4 : D.L) : D.L := (D.lite (D.zlt (D.zsub .i64 (D.lz a2 (D.lz a4 (D.zsub .i64 (D.llen a4) (D.zc 1)) 0) 0) (D.zsub .i64 a0 (D.lz a2 (D.lz a3 (D.zsub .i64 (D.llen a3) (D.zc 1)) 0) 0))) a0) (D.lcat D.lnil (D.lsub a4 (D.zc 0) (D.zsub .i64 (D.llen a4) (D.zc 1)))) a4)
def G11 (D : Dom) (a0 : D.Z) (p : List (PD D)) : D.B × D.B × List (PD D) := (C11 D (nthL p 2) (nthL p 3), O11_ D a0 (nthL p 0) (nthL p 1) (nthL p 2) (nthL p 3), [.l (N11_0 D a0 (nthL p 0) (nthL p 1) (nthL p 2) (nthL p 3)), .l (N11_1 D a0 (nthL p 1) (nthL p 2) (nthL p 3)), .l (N11_2 D a0 (nthL p 1) (nthL p 2) (nthL p 3)), .l (N11_3 D a0 (nthL p 1) (nthL p 2) (nthL p 3))])
def L11 (D : Dom) (a0 : D.Z) (a1 : D.L) (a2 : D.L) (a3 : D.L) (a4 : D.L) : List (PD D) := D.last (G11 D a0) [.l a1, .l a2, .l a3, .l a4]
def E11 (D : Dom) (a0 : D.Z) (a1 : D.L) (a2 : D.L) (a3 : D.L) (a4 : D.L) : D.B := D.ends (G11 D a0) [.l a1, .l a2, .l a3, .l a4]
def sh_31 : HSh := ⟨16, 19, [.ctx, .env (.ptr 15 0), .env (.nils), .slot [.z .i64] 1, .var (.si .i64 ()), .drop, .drop, .drop, .drop, .drop, .drop, .drop, .drop, .drop, .drop, .drop, .drop, .drop, .drop, .drop, .drop, .env (.undef)], [], [(15, [.si .i64 (), .sslice 0 .part none () 3]), (0, [.row true [.f, .f, .f] ()])], []⟩
def st_31 (D : Dom) (env p : List (PD D)) : D.B × D.B × List (PD D) := G6 D (nthZ env 1) (nthL env 2) p
theorem rd_31 (D : Dom) (env vars : List (PD D)) (ctx : List (AV D)) : (sh_31.round (sh_31.st env vars ctx).h.length (evCodeH Try.prog (tbl_44 D) (lt_31 D) 80 11 (loopB Try.prog 11 0) (sh_31.st env vars ctx))).map Nr.step = some (st_31 D env vars) := by kernel_rfl
noncomputable def ll_32 (D : Dom) : List (LE D) := ⟨11, 0, sh_31, st_31 D, fun s => evCodeH Try.prog (tbl_44 D) (lt_31 D) 80 11 (loopB Try.prog 11 0) s⟩ :: ll_31 D
noncomputable def lt_32 (D : Dom) : LTb D := ltOf (ll_32 D)
theorem hok_32 : HooksOK Try.prog (lt_32 R) := HooksOK.cons prg tok_44 hok_31 (by kernel_rfl) (by kernel_rfl) (rd_31 R)
def sh_32 : HSh := ⟨19, 19, [.env (.sslice 16 .whole none () 1), .env (.undef), .var (.si .i64 ()), .var (.si .i64 ()), .var (.si .i64 ()), .drop, .drop, .drop, .drop, .drop, .drop, .drop, .drop, .drop, .drop, .drop, .drop, .drop, .drop, .drop, .drop, .drop, .drop, .drop, .drop, .drop, .drop, .drop, .drop, .env (.undef)], [], [(16, [.row false [.z .i64] ()])], []⟩
def st_32 (D : Dom) (env p : List (PD D)) : D.B × D.B × List (PD D) := G7 D (nthZ env 0) (nthL env 1) p
theorem rd_32 (D : Dom) (env vars : List (PD D)) (ctx : List (AV D)) : (sh_32.round (sh_32.st env vars ctx).h.length (evCodeH Try.prog (tbl_44 D) (lt_32 D) 80 10 (loopB Try.prog 10 0) (sh_32.st env vars ctx))).map Nr.step = some (st_32 D env vars) := by kernel_rfl
noncomputable def ll_33 (D : Dom) : List (LE D) := ⟨10, 0, sh_32, st_32 D, fun s => evCodeH Try.prog (tbl_44 D) (lt_32 D) 80 10 (loopB Try.prog 10 0) s⟩ :: ll_32 D
noncomputable def lt_33 (D : Dom) : LTb D := ltOf (ll_33 D)
theorem hok_33 : HooksOK Try.prog (lt_33 R) := HooksOK.cons prg tok_44 hok_32 (by kernel_rfl) (by kernel_rfl) (rd_32 R)
def sh_33 : HSh := ⟨19, 29, [.env (.sslice 16 .whole none () 1), .env (.si .i64 ()), .env (.undef), .env (.undef), .env (.nils), .slot [.z .i64, .z .i64] 2, .slot [.z .i64] 1, .slot [.z .i64] 1, .slot [.z .i64] 1, .var (.si .i64 ()), .drop, .env (.undef), .env (.undef), .env (.undef), .drop, .drop, .drop, .drop, .drop, .drop, .drop, .drop, .drop, .drop, .drop, .drop, .drop, .drop, .drop, .drop, .drop, .drop, .drop, .drop, .drop, .drop, .drop, .drop, .drop, .drop, .drop, .drop, .drop, .drop, .drop, .drop, .drop, .drop, .env (.undef), .env (.undef), .env (.undef), .env (.undef), .env (.undef), .env (.undef), .env (.undef), .env (.undef), .env (.undef), .env (.undef), .env (.undef), .env (.undef), .env (.undef), .env (.undef), .env (.undef), .env (.undef), .env (.undef), .env (.undef), .env (.undef), .env (.undef), .env (.undef), .env (.undef), .env (.undef), .env (.undef), .env (.undef), .env (.undef), .env (.undef), .env (.undef), .env (.undef), .env (.undef), .env (.undef), .env (.undef), .env (.undef), .env (.undef), .env (.undef), .env (.undef), .env (.undef), .env (.undef), .env (.undef), .env (.undef), .env (.undef), .env (.undef), .env (.undef), .env (.undef), .env (.undef), .env (.undef), .env (.undef), .env (.undef), .env (.undef), .env (.undef), .env (.undef), .env (.undef), .env (.undef), .env (.undef), .env (.undef), .env (.undef), .env (.undef), .env (.undef), .env (.undef), .env (.undef), .env (.undef), .env (.undef), .env (.undef), .env (.undef), .env (.undef), .env (.undef)], [], [(16, [.row false [.z .i64] ()])], []⟩
def st_33 (D : Dom) (env p : List (PD D)) : D.B × D.B × List (PD D) := G10 D (nthZ env 0) (nthZ env 1) (nthL env 2) p
theorem rd_33 (D : Dom) (env vars : List (PD D)) (ctx : List (AV D)) : (sh_33.round (sh_33.st env vars ctx).h.length (evCodeH Try.prog (tbl_44 D) (lt_33 D) 80 23 (loopB Try.prog 23 0) (sh_33.st env vars ctx))).map Nr.step = some (st_33 D env vars) := by kernel_rfl
noncomputable def ll_34 (D : Dom) : List (LE D) := ⟨23, 0, sh_33, st_33 D, fun s => evCodeH Try.prog (tbl_44 D) (lt_33 D) 80 23 (loopB Try.prog 23 0) s⟩ :: ll_33 D
noncomputable def lt_34 (D : Dom) : LTb D := ltOf (ll_34 D)
theorem hok_34 : HooksOK Try.prog (lt_34 R) := HooksOK.cons prg tok_44 hok_33 (by kernel_rfl) (by kernel_rfl) (rd_33 R)
def sh_34 : HSh := ⟨29, 44, [.ctx, .env (.si .i64 ()), .env (.undef), .env (.undef), .env (.nils), .slot [.z .i64, .z .i64] 2, .slot [.z .i64] 1, .slot [.z .i64] 1, .slot [.z .i64] 1, .ctx, .env (.any), .drop, .drop, .drop, .ctx, .ctx, .ctx, .ctx, .env (.any), .env (.any), .env (.any), .env (.any), .env (.any), .env (.any), .env (.any), .env (.any), .env (.any), .env (.any), .env (.any), .env (.any), .env (.any), .env (.any), .env (.any), .env (.any), .env (.any), .env (.any), .env (.any), .env (.any), .env (.any), .env (.any), .env (.any), .env (.any), .env (.any), .env (.any), .env (.any), .env (.any), .env (.any), .env (.any), .drop, .drop, .drop, .drop, .drop, .drop, .drop, .drop, .drop, .drop, .drop, .drop, .drop, .drop, .drop, .drop, .drop, .drop, .drop, .drop, .drop, .drop, .drop, .drop, .drop, .drop, .drop, .drop, .drop, .drop, .drop, .drop, .drop, .drop, .drop, .drop, .drop, .drop, .drop, .drop, .drop, .drop, .drop, .drop, .drop, .drop, .drop, .drop, .drop, .drop, .drop, .drop, .drop, .drop, .drop, .drop, .drop, .drop, .drop, .drop, .drop, .drop, .drop, .drop, .drop, .env (.undef)], [], [], [19, 20, 21, 22]⟩
def st_34 (D : Dom) (env p : List (PD D)) : D.B × D.B × List (PD D) := G11 D (nthZ env 0) p
theorem rd_34 (D : Dom) (env vars : List (PD D)) (ctx : List (AV D)) : (sh_34.round (sh_34.st env vars ctx).h.length (evCodeH Try.prog (tbl_44 D) (lt_34 D) 80 23 (loopB Try.prog 23 2) (sh_34.st env vars ctx))).map Nr.step = some (st_34 D env vars) := by kernel_rfl
noncomputable def ll_35 (D : Dom) : List (LE D) := ⟨23, 2, sh_34, st_34 D, fun s => evCodeH Try.prog (tbl_44 D) (lt_34 D) 80 23 (loopB Try.prog 23 2) s⟩ :: ll_34 D
noncomputable def lt_35 (D : Dom) : LTb D := ltOf (ll_35 D)
theorem hok_35 : HooksOK Try.prog (lt_35 R) := HooksOK.cons prg tok_44 hok_34 (by kernel_rfl) (by kernel_rfl) (rd_34 R)
def sh_35 : HSh := ⟨36, 36, [.env (.sslice 33 .whole none () 1), .env (.undef), .var (.si .i64 ()), .var (.si .i64 ()), .var (.si .i64 ()), .drop, .drop, .drop, .drop, .drop, .drop, .drop, .drop, .drop, .drop, .drop, .drop, .drop, .drop, .drop, .drop, .drop, .drop, .drop, .drop, .drop, .drop, .drop, .drop, .env (.undef)], [], [(33, [.row false [.z .i64] ()])], []⟩
def st_35 (D : Dom) (env p : List (PD D)) : D.B × D.B × List (PD D) := G7 D (nthZ env 0) (nthL env 1) p
theorem rd_35 (D : Dom) (env vars : List (PD D)) (ctx : List (AV D)) : (sh_35.round (sh_35.st env vars ctx).h.length (evCodeH Try.prog (tbl_44 D) (lt_35 D) 80 10 (loopB Try.prog 10 0) (sh_35.st env vars ctx))).map Nr.step = some (st_35 D env vars) := by kernel_rfl
noncomputable def ll_36 (D : Dom) : List (LE D) := ⟨10, 0, sh_35, st_35 D, fun s => evCodeH Try.prog (tbl_44 D) (lt_35 D) 80 10 (loopB Try.prog 10 0) s⟩ :: ll_35 D
noncomputable def lt_36 (D : Dom) : LTb D := ltOf (ll_36 D)
theorem hok_36 : HooksOK Try.prog (lt_36 R) := HooksOK.cons prg tok_44 hok_35 (by kernel_rfl) (by kernel_rfl) (rd_35 R)
def sh_36 : HSh := ⟨36, 46, [.env (.sslice 33 .whole none () 1), .env (.si .i64 ()), .env (.undef), .env (.undef), .env (.nils), .slot [.z .i64, .z .i64] 2, .slot [.z .i64] 1, .slot [.z .i64] 1, .slot [.z .i64] 1, .var (.si .i64 ()), .drop, .env (.undef), .env (.undef), .env (.undef), .drop, .drop, .drop, .drop, .drop, .drop, .drop, .drop, .drop, .drop, .drop, .drop, .drop, .drop, .drop, .drop, .drop, .drop, .drop, .drop, .drop, .drop, .drop, .drop, .drop, .drop, .drop, .drop, .drop, .drop, .drop, .drop, .drop, .drop, .env (.undef), .env (.undef), .env (.undef), .env (.undef), .env (.undef), .env (.undef), .env (.undef), .env (.undef), .env (.undef), .env (.undef), .env (.undef), .env (.undef), .env (.undef), .env (.undef), .env (.undef), .env (.undef), .env (.undef), .env (.undef), .env (.undef), .env (.undef), .env (.undef), .env (.undef), .env (.undef), .env (.undef), .env (.undef), .env (.undef), .env (.undef), .env (.undef), .env (.undef), .env (.undef), .env (.undef), .env (.undef), .env (.undef), .env (.undef), .env (.undef), .env (.undef), .env (.undef), .env (.undef), .env (.undef), .env (.undef), .env (.undef), .env (.undef), .env (.undef), .env (.undef), .env (.undef), .env (.undef), .env (.undef), .env (.undef), .env (.undef), .env (.undef), .env (.undef), .env (.undef), .env (.undef), .env (.undef), .env (.undef), .env (.undef), .env (.undef), .env (.undef), .env (.undef), .env (.undef), .env (.undef), .env (.undef), .env (.undef), .env (.undef), .env (.undef), .env (.undef)], [], [(33, [.row false [.z .i64] ()])], []⟩
def st_36 (D : Dom) (env p : List (PD D)) : D.B × D.B × List (PD D) := G10 D (nthZ env 0) (nthZ env 1) (nthL env 2) p
theorem rd_36 (D : Dom) (env vars : List (PD D)) (ctx : List (AV D)) : (sh_36.round (sh_36.st env vars ctx).h.length (evCodeH Try.prog (tbl_44 D) (lt_36 D) 80 23 (loopB Try.prog 23 0) (sh_36.st env vars ctx))).map Nr.step = some (st_36 D env vars) := by kernel_rfl
noncomputable def ll_37 (D : Dom) : List (LE D) := ⟨23, 0, sh_36, st_36 D, fun s => evCodeH Try.prog (tbl_44 D) (lt_36 D) 80 23 (loopB Try.prog 23 0) s⟩ :: ll_36 D
noncomputable def lt_37 (D : Dom) : LTb D := ltOf (ll_37 D)
theorem hok_37 : HooksOK Try.prog (lt_37 R) := HooksOK.cons prg tok_44 hok_36 (by kernel_rfl) (by kernel_rfl) (rd_36 R)
def sh_37 : HSh := ⟨46, 61, [.ctx, .env (.si .i64 ()), .env (.undef), .env (.undef), .env (.nils), .slot [.z .i64, .z .i64] 2, .slot [.z .i64] 1, .slot [.z .i64] 1, .slot [.z .i64] 1, .ctx, .env (.any), .drop, .drop, .drop, .ctx, .ctx, .ctx, .ctx, .env (.any), .env (.any), .env (.any), .env (.any), .env (.any), .env (.any), .env (.any), .env (.any), .env (.any), .env (.any), .env (.any), .env (.any), .env (.any), .env (.any), .env (.any), .env (.any), .env (.any), .env (.any), .env (.any), .env (.any), .env (.any), .env (.any), .env (.any), .env (.any), .env (.any), .env (.any), .env (.any), .env (.any), .env (.any), .env (.any), .drop, .drop, .drop, .drop, .drop, .drop, .drop, .drop, .drop, .drop, .drop, .drop, .drop, .drop, .drop, .drop, .drop, .drop, .drop, .drop, .drop, .drop, .drop, .drop, .drop, .drop, .drop, .drop, .drop, .drop, .drop, .drop, .drop, .drop, .drop, .drop, .drop, .drop, .drop, .drop, .drop, .drop, .drop, .drop, .drop, .drop, .drop, .drop, .drop, .drop, .drop, .drop, .drop, .drop, .drop, .drop, .drop, .drop, .drop, .drop, .drop, .drop, .drop, .drop, .drop, .env (.undef)], [], [], [36, 37, 38, 39]⟩
def st_37 (D : Dom) (env p : List (PD D)) : D.B × D.B × List (PD D) := G11 D (nthZ env 0) p
theorem rd_37 (D : Dom) (env vars : List (PD D)) (ctx : List (AV D)) : (sh_37.round (sh_37.st env vars ctx).h.length (evCodeH Try.prog (tbl_44 D) (lt_37 D) 80 23 (loopB Try.prog 23 2) (sh_37.st env vars ctx))).map Nr.step = some (st_37 D env vars) := by kernel_rfl
noncomputable def ll_38 (D : Dom) : List (LE D) := ⟨23, 2, sh_37, st_37 D, fun s => evCodeH Try.prog (tbl_44 D) (lt_37 D) 80 23 (loopB Try.prog 23 2) s⟩ :: ll_37 D
noncomputable def lt_38 (D : Dom) : LTb D := ltOf (ll_38 D)
theorem hok_38 : HooksOK Try.prog (lt_38 R) := HooksOK.cons prg tok_44 hok_37 (by kernel_rfl) (by kernel_rfl) (rd_37 R)

-- penumbra/penumbralaw17.EnvDraws
def WS5_0_0 (D : Dom) (a0 : D.Z) (a1 : D.L) : D.B := (D.bite (D.bite (D.zlt a0 (D.zc 1)) (D.bc true) (D.zlt (D.zc 16) a0)) (D.bc true) (D.bnot (D.zeq (D.llen a1) (D.zmul .i64 (D.zc 8) a0))))
def WS5_0_1 (D : Dom) (a1 : D.L) : List (PD D) := (L5 D (D.llen a1) a1 (D.bc false) (D.zc 0))
def WS5_0_2 (D : Dom) (a1 : D.L) : List (PD D) := (L1 D (D.llen a1) (D.llen a1) a1 D.lnil (D.zc 0) (D.zc 0))
def WS5_0_3 (D : Dom) (a1 : D.L) : D.B := (D.zlt (D.zc 1024) (D.llen (nthL (WS5_0_2 D a1) 0)))
def WS5_0_4 (D : Dom) (a1 : D.L) : List (PD D) := (L2 D (D.llen (nthL (WS5_0_2 D a1) 0)) (D.llen (nthL (WS5_0_2 D a1) 0)) (nthL (WS5_0_2 D a1) 0) (D.zc 0) (D.zc 0) (D.zc 0) (D.zc 0))
def WS5_0_5 (D : Dom) (a1 : D.L) : D.B := (D.zlt (nthZ (WS5_0_4 D a1) 3) (D.llen (nthL (WS5_0_2 D a1) 0)))
def WS5_0_6 (D : Dom) (a1 : D.L) : D.B := (D.zeq (D.llen (nthL (WS5_0_2 D a1) 0)) (D.zc 0))
def WS5_0_7 (D : Dom) (a1 : D.L) : D.B := (D.bite (WS5_0_6 D a1) (D.bc true) (D.zeq (nthZ (WS5_0_4 D a1) 2) (D.zc 0)))
def WS5_0_8 (D : Dom) (a1 : D.L) : List (PD D) := (L6 D (D.llen a1) a1 D.lnil (D.zc 0))
def WS5_0_9 (D : Dom) (a1 : D.L) : List (PD D) := (L7 D (D.llen (nthL (WS5_0_8 D a1) 0)) (nthL (WS5_0_8 D a1) 0) (D.zc 0) (D.zc 0) (D.zc 0))
def WS5_0_10 (D : Dom) (a1 : D.L) : D.Z := (D.zite (D.zlt (nthZ (WS5_0_9 D a1) 2) (D.llen (nthL (WS5_0_8 D a1) 0))) (D.zc (-1)) (nthZ (WS5_0_9 D a1) 1))
def WS5_0_11 (D : Dom) (a1 : D.L) : D.Z := (D.zite (WS5_0_3 D a1) (D.zc 0) (D.zite (WS5_0_5 D a1) (D.zc 0) (D.zite (WS5_0_7 D a1) (D.zc 0) (nthZ (WS5_0_4 D a1) 2))))
def WS5_0_12 (D : Dom) (a1 : D.L) : D.Z := (D.zmul .i64 (D.llen (nthL (WS5_0_2 D a1) 0)) (WS5_0_11 D a1))
def WS5_0_13 (D : Dom) (a1 : D.L) (a2 : D.F) : D.Z := (D.zmin (D.f2i .i64 (D.fmul (D.fite (D.bnot (D.bite (D.fge a2 (D.fc 0)) (D.flt a2 (D.fc 4607182418800017408)) (D.bc false))) (D.fc 0) a2) (D.i2f (WS5_0_12 D a1)))) (D.zsub .i64 (WS5_0_12 D a1) (D.zc 1)))
def WS5_0_14 (D : Dom) (a1 : D.L) : List (PD D) := (L3 D (D.llen (nthL (WS5_0_2 D a1) 0)) (D.llen (nthL (WS5_0_2 D a1) 0)) (D.llen (nthL (WS5_0_2 D a1) 0)) (nthL (WS5_0_2 D a1) 0) (WS5_0_11 D a1) (D.llen (nthL (WS5_0_2 D a1) 0)) (D.llen (nthL (WS5_0_2 D a1) 0)) D.lnil D.lnil (D.zc 0) (D.lrep (D.llen (nthL (WS5_0_2 D a1) 0)) [.z (D.zc 0), .z (D.zc 0)]) (D.lrep (D.llen (nthL (WS5_0_2 D a1) 0)) [.z (D.zc 0)]))
def WS5_0_15 (D : Dom) (a1 : D.L) : List (PD D) := (L4 D (WS5_0_11 D a1) (D.llen (nthL (WS5_0_2 D a1) 0)) (D.llen (nthL (WS5_0_2 D a1) 0)) (nthL (WS5_0_14 D a1) 0) (nthL (WS5_0_14 D a1) 1) (nthL (WS5_0_14 D a1) 4) (nthL (WS5_0_14 D a1) 3))
def WS5_0_16 (D : Dom) (a1 : D.L) (a2 : D.F) : D.Z := (D.zquo .i64 (WS5_0_13 D a1 a2) (WS5_0_11 D a1))
def WS5_0_17 (D : Dom) (a1 : D.L) (a2 : D.F) : D.Z := (D.zite (D.bite (D.zlt (WS5_0_13 D a1 a2) (D.zc 0)) (D.bc true) (D.zle (WS5_0_12 D a1) (WS5_0_13 D a1 a2))) (D.zc (-1)) (D.zite (D.zlt (D.zrem .i64 (WS5_0_13 D a1 a2) (WS5_0_11 D a1)) (D.lz (nthL (WS5_0_15 D a1) 3) (WS5_0_16 D a1 a2) 0)) (WS5_0_16 D a1 a2) (D.lz (nthL (WS5_0_15 D a1) 3) (WS5_0_16 D a1 a2) 1)))
def WS5_0_18 (D : Dom) (a1 : D.L) (a2 : D.F) : D.F := (D.i2f (D.zrem .i64 (WS5_0_17 D a1 a2) (D.zc 8)))
def WS5_0_19 (D : Dom) (a1 : D.L) (a2 : D.F) (a4 : D.F) : D.F := (D.fite (D.flt (D.fadd (WS5_0_18 D a1 a2) (S38_0 D a4)) (D.fadd (WS5_0_18 D a1 a2) (D.fc 4607182418800017408))) (D.fmul (D.fadd (WS5_0_18 D a1 a2) (S38_0 D a4)) (D.fc 4593671619917905920)) (D.fmul (WS5_0_18 D a1 a2) (D.fc 4593671619917905920)))
def WS5_0_20 (D : Dom) (a0 : D.Z) (a1 : D.L) (a2 : D.F) (a3 : D.F) : D.F := (D.fsub (D.fc 4607182418800017408) (D.fmul (D.fc 4611686018427387904) (D.fdiv (D.fadd (D.i2f (D.zquo .i64 (WS5_0_17 D a1 a2) (D.zc 8))) (S38_0 D a3)) (D.i2f a0))))
def WS5_0_21 (D : Dom) (a0 : D.Z) (a1 : D.L) (a2 : D.F) (a3 : D.F) : D.F := (S39_0 D (D.fmax (D.fc 0) (D.fsub (D.fc 4607182418800017408) (D.fmul (WS5_0_20 D a0 a1 a2 a3) (WS5_0_20 D a0 a1 a2 a3)))))
def WS5_0_22 (D : Dom) (a1 : D.L) : List (PD D) := (L10 D (D.llen (nthL (WS5_0_8 D a1) 0)) (WS5_0_10 D a1) (nthL (WS5_0_8 D a1) 0) D.lnil D.lnil D.lnil D.lnil (D.zc 0))
def WS5_0_23 (D : Dom) (a1 : D.L) : List (PD D) := (L11 D (WS5_0_10 D a1) (nthL (WS5_0_22 D a1) 0) (nthL (WS5_0_22 D a1) 1) (nthL (WS5_0_22 D a1) 2) (nthL (WS5_0_22 D a1) 3))
def WS5_0_24 (D : Dom) (a1 : D.L) : D.Z := (D.zmul .i64 (D.llen (nthL (WS5_0_8 D a1) 0)) (WS5_0_10 D a1))
def WS5_0_25 (D : Dom) (a1 : D.L) (a2 : D.F) : D.Z := (S22_0 D (D.f2i .i64 (D.fmul (S21_0 D a2) (D.i2f (WS5_0_24 D a1)))) (D.zsub .i64 (WS5_0_24 D a1) (D.zc 1)))
def WS5_0_26 (D : Dom) (a1 : D.L) (a2 : D.F) : D.Z := (D.zquo .i64 (WS5_0_25 D a1 a2) (WS5_0_10 D a1))
def WS5_0_27 (D : Dom) (a1 : D.L) (a2 : D.F) : D.Z := (D.zite (D.zle (D.lz (nthL (WS5_0_23 D a1) 0) (WS5_0_26 D a1 a2) 0) (D.zrem .i64 (WS5_0_25 D a1 a2) (WS5_0_10 D a1))) (D.lz (nthL (WS5_0_23 D a1) 0) (WS5_0_26 D a1 a2) 1) (WS5_0_26 D a1 a2))
def WS5_0_28 (D : Dom) (a1 : D.L) (a2 : D.F) : D.F := (D.i2f (D.zrem .i64 (WS5_0_27 D a1 a2) (D.zc 8)))
def WS5_0_29 (D : Dom) (a1 : D.L) (a2 : D.F) (a4 : D.F) : D.F := (D.fmul (D.fite (D.fge (D.fadd (WS5_0_28 D a1 a2) (S21_0 D a4)) (D.fadd (WS5_0_28 D a1 a2) (D.fc 4607182418800017408))) (WS5_0_28 D a1 a2) (D.fadd (WS5_0_28 D a1 a2) (S21_0 D a4))) (D.fc 4593671619917905920))
def WS5_0_30 (D : Dom) (a0 : D.Z) (a1 : D.L) (a2 : D.F) (a3 : D.F) : D.F := (D.fsub (D.fc 4607182418800017408) (D.fmul (D.fc 4611686018427387904) (D.fdiv (D.fadd (D.i2f (D.zquo .i64 (WS5_0_27 D a1 a2) (D.zc 8))) (S21_0 D a3)) (D.i2f a0))))
def WS5_0_31 (D : Dom) (a0 : D.Z) (a1 : D.L) (a2 : D.F) (a3 : D.F) : D.F := (D.fsub (D.fc 4607182418800017408) (D.fmul (WS5_0_30 D a0 a1 a2 a3) (WS5_0_30 D a0 a1 a2 a3)))
def WS5_0_32 (D : Dom) (a0 : D.Z) (a1 : D.L) (a2 : D.F) (a3 : D.F) : D.F := (S39_0 D (D.fite (D.flt (WS5_0_31 D a0 a1 a2 a3) (D.fc 0)) (D.fc 0) (WS5_0_31 D a0 a1 a2 a3)))
def S5_0 (D : Dom) (a0 : D.Z) (a1 : D.L) (a2 : D.F) (a3 : D.F) (a4 : D.F) : D.B := (D.bite (D.bnot (D.bite (WS5_0_0 D a0 a1) (D.bc false) (D.bite (D.zlt (nthZ (WS5_0_1 D a1) 1) (D.llen a1)) (D.bc false) (D.bc true)))) (S7_0 D) (D.bite (WS5_0_0 D a0 a1) (D.bc false) (D.bite (D.zlt (nthZ (WS5_0_2 D a1) 2) (D.llen a1)) (D.bc false) (D.bite (D.bnot (D.zeq (D.zite (WS5_0_3 D a1) (D.zc 4) (D.zite (WS5_0_5 D a1) (D.zc 2) (D.zite (WS5_0_7 D a1) (D.zite (WS5_0_6 D a1) (D.zc 2) (D.zc 13)) (D.zc 0)))) (D.zc 0))) (D.bite (D.zeq (WS5_0_10 D a1) (D.zc 0)) (D.bite (D.bite (S7_0 D) (D.bc true) (D.bc false)) (D.band (D.feq (D.fc 0) (D.fc 0)) (D.band (D.feq (D.fc 0) (D.fc 0)) (D.band (D.feq (D.fc 0) (D.fc 0)) (D.bc true)))) (D.bc false)) (D.bc false)) (D.bite (D.zeq (WS5_0_10 D a1) (D.zc 0)) (D.bc false) (D.bite (S7_0 D) (D.bite (D.band (D.feq (D.fmul (S41_0 D (WS5_0_19 D a1 a2 a4)) (WS5_0_21 D a0 a1 a2 a3)) (D.fmul (S44_0 D (WS5_0_29 D a1 a2 a4)) (WS5_0_32 D a0 a1 a2 a3))) (D.band (D.feq (D.fmul (S41_1 D (WS5_0_19 D a1 a2 a4)) (WS5_0_21 D a0 a1 a2 a3)) (D.fmul (S44_1 D (WS5_0_29 D a1 a2 a4)) (WS5_0_32 D a0 a1 a2 a3))) (D.band (D.feq (WS5_0_20 D a0 a1 a2 a3) (WS5_0_30 D a0 a1 a2 a3)) (D.bc true)))) (D.zlt (D.zc 0) (D.lz (nthL (WS5_0_8 D a1) 0) (WS5_0_27 D a1 a2) 0)) (D.bc false)) (D.bc false)))))))
def WO5_0 (D : Dom) (a0 : D.Z) (a1 : D.L) : D.B := (D.bite (D.bite (D.zlt a0 (D.zc 1)) (D.bc true) (D.zlt (D.zc 16) a0)) (D.bc true) (D.bnot (D.zeq (D.llen a1) (D.zmul .i64 (D.zc 8) a0))))
def WO5_1 (D : Dom) (a1 : D.L) : D.B := (E5 D (D.llen a1) a1 (D.bc false) (D.zc 0))
def WO5_2 (D : Dom) (a1 : D.L) : List (PD D) := (L5 D (D.llen a1) a1 (D.bc false) (D.zc 0))
def WO5_3 (D : Dom) (a0 : D.Z) (a1 : D.L) : D.B := (D.bnot (D.bite (WO5_0 D a0 a1) (D.bc false) (D.bite (D.zlt (nthZ (WO5_2 D a1) 1) (D.llen a1)) (D.bc false) (D.bc true))))
def WO5_4 (D : Dom) (a1 : D.L) : D.B := (E1 D (D.llen a1) (D.llen a1) a1 D.lnil (D.zc 0) (D.zc 0))
def WO5_5 (D : Dom) (a1 : D.L) : List (PD D) := (L1 D (D.llen a1) (D.llen a1) a1 D.lnil (D.zc 0) (D.zc 0))
def WO5_6 (D : Dom) (a1 : D.L) : D.B := (D.zlt (D.zc 1024) (D.llen (nthL (WO5_5 D a1) 0)))
def WO5_7 (D : Dom) (a1 : D.L) : D.B := (E2 D (D.llen (nthL (WO5_5 D a1) 0)) (D.llen (nthL (WO5_5 D a1) 0)) (nthL (WO5_5 D a1) 0) (D.zc 0) (D.zc 0) (D.zc 0) (D.zc 0))
def WO5_8 (D : Dom) (a1 : D.L) : List (PD D) := (L2 D (D.llen (nthL (WO5_5 D a1) 0)) (D.llen (nthL (WO5_5 D a1) 0)) (nthL (WO5_5 D a1) 0) (D.zc 0) (D.zc 0) (D.zc 0) (D.zc 0))
def WO5_9 (D : Dom) (a1 : D.L) : D.B := (D.zlt (nthZ (WO5_8 D a1) 3) (D.llen (nthL (WO5_5 D a1) 0)))
def WO5_10 (D : Dom) (a1 : D.L) : D.B := (D.zeq (D.llen (nthL (WO5_5 D a1) 0)) (D.zc 0))
def WO5_11 (D : Dom) (a1 : D.L) : D.B := (D.bite (WO5_10 D a1) (D.bc true) (D.zeq (nthZ (WO5_8 D a1) 2) (D.zc 0)))
def WO5_12 (D : Dom) (a1 : D.L) : D.B := (E6 D (D.llen a1) a1 D.lnil (D.zc 0))
def WO5_13 (D : Dom) (a1 : D.L) : List (PD D) := (L6 D (D.llen a1) a1 D.lnil (D.zc 0))
def WO5_14 (D : Dom) (a1 : D.L) : D.B := (E7 D (D.llen (nthL (WO5_13 D a1) 0)) (nthL (WO5_13 D a1) 0) (D.zc 0) (D.zc 0) (D.zc 0))
def WO5_15 (D : Dom) (a1 : D.L) : List (PD D) := (L7 D (D.llen (nthL (WO5_13 D a1) 0)) (nthL (WO5_13 D a1) 0) (D.zc 0) (D.zc 0) (D.zc 0))
def WO5_16 (D : Dom) (a1 : D.L) : D.Z := (D.zite (D.zlt (nthZ (WO5_15 D a1) 2) (D.llen (nthL (WO5_13 D a1) 0))) (D.zc (-1)) (nthZ (WO5_15 D a1) 1))
def WO5_17 (D : Dom) (a1 : D.L) : D.B := (D.bite (D.zeq (WO5_16 D a1) (D.zc 0)) (O7 D) (D.bc true))
def WO5_18 (D : Dom) (a1 : D.L) : D.Z := (D.zmul .i64 (D.llen (nthL (WO5_13 D a1) 0)) (WO5_16 D a1))
def WO5_19 (D : Dom) (a1 : D.L) (a2 : D.F) : D.F := (D.fmul (S21_0 D a2) (D.i2f (WO5_18 D a1)))
def WO5_20 (D : Dom) (a1 : D.L) : D.B := (E10 D (D.llen (nthL (WO5_13 D a1) 0)) (WO5_16 D a1) (nthL (WO5_13 D a1) 0) D.lnil D.lnil D.lnil D.lnil (D.zc 0))
def WO5_21 (D : Dom) (a1 : D.L) : List (PD D) := (L10 D (D.llen (nthL (WO5_13 D a1) 0)) (WO5_16 D a1) (nthL (WO5_13 D a1) 0) D.lnil D.lnil D.lnil D.lnil (D.zc 0))
def WO5_22 (D : Dom) (a1 : D.L) : D.B := (E11 D (WO5_16 D a1) (nthL (WO5_21 D a1) 0) (nthL (WO5_21 D a1) 1) (nthL (WO5_21 D a1) 2) (nthL (WO5_21 D a1) 3))
def WO5_23 (D : Dom) (a1 : D.L) (a2 : D.F) : D.Z := (S22_0 D (D.f2i .i64 (WO5_19 D a1 a2)) (D.zsub .i64 (WO5_18 D a1) (D.zc 1)))
def WO5_24 (D : Dom) (a1 : D.L) (a2 : D.F) : D.Z := (D.zquo .i64 (WO5_23 D a1 a2) (WO5_16 D a1))
def WO5_25 (D : Dom) (a1 : D.L) : List (PD D) := (L11 D (WO5_16 D a1) (nthL (WO5_21 D a1) 0) (nthL (WO5_21 D a1) 1) (nthL (WO5_21 D a1) 2) (nthL (WO5_21 D a1) 3))
def WO5_26 (D : Dom) (a1 : D.L) (a2 : D.F) : D.B := (D.band (D.zle (D.zc 0) (WO5_24 D a1 a2)) (D.zlt (WO5_24 D a1 a2) (D.llen (nthL (WO5_25 D a1) 0))))
def WO5_27 (D : Dom) (a1 : D.L) : D.B := (D.zle (D.llen (nthL (WO5_5 D a1) 0)) (D.zc 1073741824))
def WO5_28 (D : Dom) (a1 : D.L) : D.B := (D.band (D.zle (D.zc 0) (D.llen (nthL (WO5_5 D a1) 0))) (WO5_27 D a1))
def WO5_29 (D : Dom) (a1 : D.L) : D.Z := (D.zite (WO5_6 D a1) (D.zc 0) (D.zite (WO5_9 D a1) (D.zc 0) (D.zite (WO5_11 D a1) (D.zc 0) (nthZ (WO5_8 D a1) 2))))
def WO5_30 (D : Dom) (a1 : D.L) : D.L := (D.lrep (D.llen (nthL (WO5_5 D a1) 0)) [.z (D.zc 0), .z (D.zc 0)])
def WO5_31 (D : Dom) (a1 : D.L) : D.L := (D.lrep (D.llen (nthL (WO5_5 D a1) 0)) [.z (D.zc 0)])
def WO5_32 (D : Dom) (a1 : D.L) : D.B := (E3 D (D.llen (nthL (WO5_5 D a1) 0)) (D.llen (nthL (WO5_5 D a1) 0)) (D.llen (nthL (WO5_5 D a1) 0)) (nthL (WO5_5 D a1) 0) (WO5_29 D a1) (D.llen (nthL (WO5_5 D a1) 0)) (D.llen (nthL (WO5_5 D a1) 0)) D.lnil D.lnil (D.zc 0) (WO5_30 D a1) (WO5_31 D a1))
def WO5_33 (D : Dom) (a1 : D.L) : List (PD D) := (L3 D (D.llen (nthL (WO5_5 D a1) 0)) (D.llen (nthL (WO5_5 D a1) 0)) (D.llen (nthL (WO5_5 D a1) 0)) (nthL (WO5_5 D a1) 0) (WO5_29 D a1) (D.llen (nthL (WO5_5 D a1) 0)) (D.llen (nthL (WO5_5 D a1) 0)) D.lnil D.lnil (D.zc 0) (WO5_30 D a1) (WO5_31 D a1))
def WO5_34 (D : Dom) (a1 : D.L) : D.B := (E4 D (WO5_29 D a1) (D.llen (nthL (WO5_5 D a1) 0)) (D.llen (nthL (WO5_5 D a1) 0)) (nthL (WO5_33 D a1) 0) (nthL (WO5_33 D a1) 1) (nthL (WO5_33 D a1) 4) (nthL (WO5_33 D a1) 3))
def WO5_35 (D : Dom) (a1 : D.L) : D.Z := (D.zmul .i64 (D.llen (nthL (WO5_5 D a1) 0)) (WO5_29 D a1))
def WO5_36 (D : Dom) (a1 : D.L) (a2 : D.F) : D.F := (D.fmul (D.fite (D.bnot (D.bite (D.fge a2 (D.fc 0)) (D.flt a2 (D.fc 4607182418800017408)) (D.bc false))) (D.fc 0) a2) (D.i2f (WO5_35 D a1)))
def WO5_37 (D : Dom) (a1 : D.L) (a2 : D.F) : D.Z := (D.zmin (D.f2i .i64 (WO5_36 D a1 a2)) (D.zsub .i64 (WO5_35 D a1) (D.zc 1)))
def WO5_38 (D : Dom) (a1 : D.L) (a2 : D.F) : D.B := (D.bite (D.zlt (WO5_37 D a1 a2) (D.zc 0)) (D.bc true) (D.zle (WO5_35 D a1) (WO5_37 D a1 a2)))
def WO5_39 (D : Dom) (a1 : D.L) (a2 : D.F) : D.Z := (D.zquo .i64 (WO5_37 D a1 a2) (WO5_29 D a1))
def WO5_40 (D : Dom) (a1 : D.L) (a2 : D.F) : D.B := (D.band (D.zle (D.zc 0) (WO5_39 D a1 a2)) (D.zlt (WO5_39 D a1 a2) (D.llen (nthL (WO5_5 D a1) 0))))
def WO5_41 (D : Dom) (a1 : D.L) : List (PD D) := (L4 D (WO5_29 D a1) (D.llen (nthL (WO5_5 D a1) 0)) (D.llen (nthL (WO5_5 D a1) 0)) (nthL (WO5_33 D a1) 0) (nthL (WO5_33 D a1) 1) (nthL (WO5_33 D a1) 4) (nthL (WO5_33 D a1) 3))
def WO5_42 (D : Dom) (a1 : D.L) (a2 : D.F) : D.B := (D.zlt (D.zrem .i64 (WO5_37 D a1 a2) (WO5_29 D a1)) (D.lz (nthL (WO5_41 D a1) 3) (WO5_39 D a1 a2) 0))
def WO5_43 (D : Dom) (a1 : D.L) (a2 : D.F) : D.Z := (D.zite (WO5_38 D a1 a2) (D.zc (-1)) (D.zite (WO5_42 D a1 a2) (WO5_39 D a1 a2) (D.lz (nthL (WO5_41 D a1) 3) (WO5_39 D a1 a2) 1)))
def WO5_44 (D : Dom) (a1 : D.L) (a2 : D.F) : D.F := (D.i2f (D.zrem .i64 (WO5_43 D a1 a2) (D.zc 8)))
def WO5_45 (D : Dom) (a1 : D.L) (a2 : D.F) (a4 : D.F) : D.F := (D.fite (D.flt (D.fadd (WO5_44 D a1 a2) (S38_0 D a4)) (D.fadd (WO5_44 D a1 a2) (D.fc 4607182418800017408))) (D.fmul (D.fadd (WO5_44 D a1 a2) (S38_0 D a4)) (D.fc 4593671619917905920)) (D.fmul (WO5_44 D a1 a2) (D.fc 4593671619917905920)))
def WO5_46 (D : Dom) (a1 : D.L) (a2 : D.F) : D.Z := (D.zite (D.zle (D.lz (nthL (WO5_25 D a1) 0) (WO5_24 D a1 a2) 0) (D.zrem .i64 (WO5_23 D a1 a2) (WO5_16 D a1))) (D.lz (nthL (WO5_25 D a1) 0) (WO5_24 D a1 a2) 1) (WO5_24 D a1 a2))
def WO5_47 (D : Dom) (a1 : D.L) (a2 : D.F) : D.F := (D.i2f (D.zrem .i64 (WO5_46 D a1 a2) (D.zc 8)))
def WO5_48 (D : Dom) (a1 : D.L) (a2 : D.F) (a4 : D.F) : D.F := (D.fmul (D.fite (D.fge (D.fadd (WO5_47 D a1 a2) (S21_0 D a4)) (D.fadd (WO5_47 D a1 a2) (D.fc 4607182418800017408))) (WO5_47 D a1 a2) (D.fadd (WO5_47 D a1 a2) (S21_0 D a4))) (D.fc 4593671619917905920))
def WO5_49 (D : Dom) (a0 : D.Z) (a1 : D.L) (a2 : D.F) (a3 : D.F) : D.F := (D.fsub (D.fc 4607182418800017408) (D.fmul (D.fc 4611686018427387904) (D.fdiv (D.fadd (D.i2f (D.zquo .i64 (WO5_43 D a1 a2) (D.zc 8))) (S38_0 D a3)) (D.i2f a0))))
def WO5_50 (D : Dom) (a0 : D.Z) (a1 : D.L) (a2 : D.F) (a3 : D.F) : D.F := (S39_0 D (D.fmax (D.fc 0) (D.fsub (D.fc 4607182418800017408) (D.fmul (WO5_49 D a0 a1 a2 a3) (WO5_49 D a0 a1 a2 a3)))))
def WO5_51 (D : Dom) (a0 : D.Z) (a1 : D.L) (a2 : D.F) (a3 : D.F) : D.F := (D.fsub (D.fc 4607182418800017408) (D.fmul (D.fc 4611686018427387904) (D.fdiv (D.fadd (D.i2f (D.zquo .i64 (WO5_46 D a1 a2) (D.zc 8))) (S21_0 D a3)) (D.i2f a0))))
def WO5_52 (D : Dom) (a0 : D.Z) (a1 : D.L) (a2 : D.F) (a3 : D.F) : D.F := (D.fsub (D.fc 4607182418800017408) (D.fmul (WO5_51 D a0 a1 a2 a3) (WO5_51 D a0 a1 a2 a3)))
def WO5_53 (D : Dom) (a0 : D.Z) (a1 : D.L) (a2 : D.F) (a3 : D.F) : D.F := (S39_0 D (D.fite (D.flt (WO5_52 D a0 a1 a2 a3) (D.fc 0)) (D.fc 0) (WO5_52 D a0 a1 a2 a3)))
def WO5_54 (D : Dom) (a0 : D.Z) (a1 : D.L) (a2 : D.F) (a3 : D.F) (a4 : D.F) : D.B := (D.band (WO5_28 D a1) (D.band (WO5_28 D a1) (D.band (WO5_32 D a1) (D.band (WO5_34 D a1) (D.band (D.band (D.band (D.f2iok .i64 (WO5_36 D a1 a2)) (D.bite (WO5_38 D a1 a2) (D.bc true) (D.band (D.bnot (D.zeq (WO5_29 D a1) (D.zc 0))) (D.band (D.bnot (D.zeq (WO5_29 D a1) (D.zc 0))) (D.band (WO5_40 D a1 a2) (D.bite (WO5_42 D a1 a2) (D.bc true) (WO5_40 D a1 a2))))))) (D.band (D.bnot (D.zeq (D.zc 8) (D.zc 0))) (D.band (D.bnot (D.zeq (D.zc 8) (D.zc 0))) (O41 D (WO5_45 D a1 a2 a4))))) (D.band (WO5_12 D a1) (D.band (WO5_14 D a1) (D.band (WO5_17 D a1) (D.bite (D.zeq (WO5_16 D a1) (D.zc 0)) (D.bc true) (D.band (D.f2iok .i64 (WO5_19 D a1 a2)) (D.band (D.band (WO5_20 D a1) (WO5_22 D a1)) (D.band (D.bnot (D.zeq (WO5_16 D a1) (D.zc 0))) (D.band (WO5_26 D a1 a2) (D.band (D.bnot (D.zeq (WO5_16 D a1) (D.zc 0))) (D.band (D.bnot (D.zeq (WO5_16 D a1) (D.zc 0))) (D.band (O7 D) (D.bite (S7_0 D) (D.band (D.band (D.bnot (D.zeq (D.zc 8) (D.zc 0))) (D.band (D.bnot (D.zeq (D.zc 8) (D.zc 0))) (O44 D (WO5_48 D a1 a2 a4)))) (D.bite (D.band (D.feq (D.fmul (S41_0 D (WO5_45 D a1 a2 a4)) (WO5_50 D a0 a1 a2 a3)) (D.fmul (S44_0 D (WO5_48 D a1 a2 a4)) (WO5_53 D a0 a1 a2 a3))) (D.band (D.feq (D.fmul (S41_1 D (WO5_45 D a1 a2 a4)) (WO5_50 D a0 a1 a2 a3)) (D.fmul (S44_1 D (WO5_48 D a1 a2 a4)) (WO5_53 D a0 a1 a2 a3))) (D.band (D.feq (WO5_49 D a0 a1 a2 a3) (WO5_51 D a0 a1 a2 a3)) (D.bc true)))) (D.band (D.zle (D.zc 0) (WO5_46 D a1 a2)) (D.zlt (WO5_46 D a1 a2) (D.llen (nthL (WO5_13 D a1) 0)))) (D.bc true))) (D.bc true))))))))))))))))))
def O5 (D : Dom) (a0 : D.Z) (a1 : D.L) (a2 : D.F) (a3 : D.F) (a4 : D.F) : D.B := (D.band (D.bite (WO5_0 D a0 a1) (D.bc true) (WO5_1 D a1)) (D.band (D.bite (WO5_3 D a0 a1) (O7 D) (D.bc true)) (D.bite (WO5_3 D a0 a1) (D.bc true) (D.bite (WO5_0 D a0 a1) (D.bc true) (D.band (WO5_4 D a1) (D.bite (D.zlt (nthZ (WO5_5 D a1) 2) (D.llen a1)) (D.bc true) (D.band (D.zle (D.llen (D.lsub a1 (D.zc 0) (D.llen a1))) (D.zc 1073741824)) (D.band (D.bite (WO5_6 D a1) (D.bc true) (WO5_7 D a1)) (D.bite (D.bnot (D.zeq (D.zite (WO5_6 D a1) (D.zc 4) (D.zite (WO5_9 D a1) (D.zc 2) (D.zite (WO5_11 D a1) (D.zite (WO5_10 D a1) (D.zc 2) (D.zc 13)) (D.zc 0)))) (D.zc 0))) (D.band (WO5_12 D a1) (D.band (WO5_14 D a1) (D.band (WO5_17 D a1) (D.bite (D.zeq (WO5_16 D a1) (D.zc 0)) (D.bc true) (D.band (D.f2iok .i64 (WO5_19 D a1 a2)) (D.band (D.band (WO5_20 D a1) (WO5_22 D a1)) (D.band (D.bnot (D.zeq (WO5_16 D a1) (D.zc 0))) (D.band (WO5_26 D a1 a2) (D.band (D.bnot (D.zeq (WO5_16 D a1) (D.zc 0))) (D.band (D.bnot (D.zeq (WO5_16 D a1) (D.zc 0))) (O7 D))))))))))) (D.band (WO5_27 D a1) (WO5_54 D a0 a1 a2 a3 a4)))))))))))
theorem ev5 (D : Dom) (a0 : D.Z) (a1 : D.L) (a2 : D.F) (a3 : D.F) (a4 : D.F) : joinT (evFnH Try.prog (tbl_44 D) (lt_38 D) 80 5 [.agg [.si .i64 a0, .sslice 0 .part none (D.llen a1) 3, .fl a2, .fl a3, .fl a4]] [(0, [.row true [.f, .f, .f] a1])] 1) = .val (some (O5 D a0 a1 a2 a3 a4)) (.sb (S5_0 D a0 a1 a2 a3 a4)) := by kernel_rfl

-- penumbra/penumbralaw17.EnvNone
def S6_0 (D : Dom)  : D.B := (D.bite (D.bite (D.bite (D.bite (D.bite (D.bite (D.bite (S7_0 D) (D.bc true) (D.bc false)) (D.bc true) (D.bc false)) (D.bc true) (D.bc false)) (D.band (D.feq (D.fc 0) (D.fc 0)) (D.band (D.feq (D.fc 0) (D.fc 0)) (D.band (D.feq (D.fc 0) (D.fc 0)) (D.bc true)))) (D.bc false)) (D.feq (D.fc 0) (D.fc 0)) (D.bc false)) (D.bc true) (D.bc false)) (D.band (D.feq (D.fc 0) (D.fc 0)) (D.band (D.feq (D.fc 0) (D.fc 0)) (D.band (D.feq (D.fc 0) (D.fc 0)) (D.bc true)))) (D.bc false))
def O6 (D : Dom)  : D.B := (O7 D)
theorem ev6 (D : Dom) (a0 : D.F) (a1 : D.F) (a2 : D.F) (a3 : D.F) (a4 : D.F) (a5 : D.F) : joinT (evFnH Try.prog (tbl_44 D) (lt_38 D) 80 6 [.agg [.fl a0, .fl a1, .fl a2, .fl a3, .fl a4, .fl a5]] [] 0) = .val (some (O6 D)) (.sb (S6_0 D)) := by kernel_rfl
def sp6 : Ev.Spec := fun D l => argA l fun c0 r0 => argF c0 fun _a0 r1 => argF r1 fun _a1 r2 => argF r2 fun _a2 r3 => argF r3 fun _a3 r4 => argF r4 fun _a4 r5 => argF r5 fun _a5 r6 => arg0 r6 (arg0 r0 (.node (O6 D) (.ret (.sb (S6_0 D))) (.fail "pre")))
theorem en6 : ∀ l r, (sp6 R l).run = some r → Entry Try.prog 6 l r := by
  intro l r h
  obtain ⟨_, _, h, L0⟩ := argA_inv h
  obtain ⟨x1, _, h, L1⟩ := argF_inv h
  obtain ⟨x2, _, h, L2⟩ := argF_inv h
  obtain ⟨x3, _, h, L3⟩ := argF_inv h
  obtain ⟨x4, _, h, L4⟩ := argF_inv h
  obtain ⟨x5, _, h, L5⟩ := argF_inv h
  obtain ⟨x6, _, h, L6⟩ := argF_inv h
  obtain ⟨h, L7⟩ := arg0_inv h
  obtain ⟨h, L8⟩ := arg0_inv h
  obtain ⟨hok, rfl⟩ := run_okay h
  exact (entry_loops prg tok_44 hok_38 (ev6 R x1 x2 x3 x4 x5 x6) (fun o ho => (Option.some.inj ho) ▸ hok) rfl).le (L0 _ _ (L1 _ (L2 _ (L3 _ (L4 _ (L5 _ (L6 _ L7)))))) L8)
def tl_6 : List (Nat × Ev.Spec) := (6, sp6) :: tl_44
def tbl_6 (D : Dom) : Tbl D := tblOf tl_6 D
theorem tok_6 : TblOK Try.prog (tbl_6 R) := TblOK.cons tok_44 en6

end Go.Proofs.Ytjmanmdkdgnfmaa
