/- The functions of this seat, each with what it comes to, by the evaluator. PRINTED BY A PROGRAM OF THIS PROJECT (wip/ev2/Gen.lean). -/
import Derived.Test.YtmenhajgmjnfkaaEv4
import Derived.Test.YtmenhajgmjnfkaaChecked
namespace Go.Proofs.Ytmenhajgmjnfkaa
open Go.Ev
set_option maxRecDepth 100000

theorem prg : Ev.Prog Try.prog := ⟨by kernel_rfl, by kernel_rfl⟩
def tl_0 : List (Nat × Ev.Spec) := []
def tbl_0 (D : Dom) : Tbl D := tblOf tl_0 D
theorem tok_0 : TblOK Try.prog (tbl_0 R) := (TblOK.nil _)
def ll_0 (D : Dom) : List (LE D) := []
def lt_0 (D : Dom) : LTb D := ltOf (ll_0 D)
theorem hok_0 : HooksOK Try.prog (lt_0 R) := HooksOK.nil _

-- penumbra/rgb.Add$1
def S38_0 (D : Dom) (a0 : D.F) (a1 : D.F) : D.F := (D.fadd a0 a1)
theorem ev38 (D : Dom) (a0 : D.F) (a1 : D.F) : joinT (evFnH Try.prog (tbl_0 D) (lt_0 D) 80 38 [.fl a0, .fl a1] [] 0) = .val none (.fl (S38_0 D a0 a1)) := by kernel_rfl
def sp38 : Ev.Spec := fun D l => argF l fun a0 r0 => argF r0 fun a1 r1 => arg0 r1 (.ret (.fl (S38_0 D a0 a1)))
theorem en38 : ∀ l r, (sp38 R l).run = some r → Entry Try.prog 38 l r := by
  intro l r h
  obtain ⟨x0, _, h, L0⟩ := argF_inv h
  obtain ⟨x1, _, h, L1⟩ := argF_inv h
  obtain ⟨h, L2⟩ := arg0_inv h
  cases h
  exact (entry_loops prg tok_0 hok_0 (ev38 R x0 x1) (fun o ho => nomatch ho) rfl).le (L0 _ (L1 _ L2))
def tl_38 : List (Nat × Ev.Spec) := (38, sp38) :: tl_0
def tbl_38 (D : Dom) : Tbl D := tblOf tl_38 D
theorem tok_38 : TblOK Try.prog (tbl_38 R) := TblOK.cons tok_0 en38

-- penumbra/rgb.Add
def S27_0 (D : Dom) (a0 : D.F) (a3 : D.F) : D.F := (S38_0 D a0 a3)
def S27_1 (D : Dom) (a1 : D.F) (a4 : D.F) : D.F := (S38_0 D a1 a4)
def S27_2 (D : Dom) (a2 : D.F) (a5 : D.F) : D.F := (S38_0 D a2 a5)
theorem ev27 (D : Dom) (a0 : D.F) (a1 : D.F) (a2 : D.F) (a3 : D.F) (a4 : D.F) (a5 : D.F) : joinT (evFnH Try.prog (tbl_38 D) (lt_0 D) 80 27 [.agg [.fl a0, .fl a1, .fl a2], .agg [.fl a3, .fl a4, .fl a5]] [] 0) = .val none (.agg [.fl (S27_0 D a0 a3), .fl (S27_1 D a1 a4), .fl (S27_2 D a2 a5)]) := by kernel_rfl
def sp27 : Ev.Spec := fun D l => argA l fun c0 r0 => argF c0 fun a0 r1 => argF r1 fun a1 r2 => argF r2 fun a2 r3 => arg0 r3 (argA r0 fun c100 r100 => argF c100 fun a3 r101 => argF r101 fun a4 r102 => argF r102 fun a5 r103 => arg0 r103 (arg0 r100 (.ret (.agg [.fl (S27_0 D a0 a3), .fl (S27_1 D a1 a4), .fl (S27_2 D a2 a5)]))))
theorem en27 : ∀ l r, (sp27 R l).run = some r → Entry Try.prog 27 l r := by
  intro l r h
  obtain ⟨_, _, h, L0⟩ := argA_inv h
  obtain ⟨x1, _, h, L1⟩ := argF_inv h
  obtain ⟨x2, _, h, L2⟩ := argF_inv h
  obtain ⟨x3, _, h, L3⟩ := argF_inv h
  obtain ⟨h, L4⟩ := arg0_inv h
  obtain ⟨_, _, h, L5⟩ := argA_inv h
  obtain ⟨x6, _, h, L6⟩ := argF_inv h
  obtain ⟨x7, _, h, L7⟩ := argF_inv h
  obtain ⟨x8, _, h, L8⟩ := argF_inv h
  obtain ⟨h, L9⟩ := arg0_inv h
  obtain ⟨h, L10⟩ := arg0_inv h
  cases h
  exact (entry_loops prg tok_38 hok_0 (ev27 R x1 x2 x3 x6 x7 x8) (fun o ho => nomatch ho) rfl).le (L0 _ _ (L1 _ (L2 _ (L3 _ L4))) (L5 _ _ (L6 _ (L7 _ (L8 _ L9))) L10))
def tl_27 : List (Nat × Ev.Spec) := (27, sp27) :: tl_38
def tbl_27 (D : Dom) : Tbl D := tblOf tl_27 D
theorem tok_27 : TblOK Try.prog (tbl_27 R) := TblOK.cons tok_38 en27

-- penumbra/vec.Number
def S40_0 (D : Dom) (a0 : D.F) : D.B := (D.bite (D.fge a0 (D.fc 18442240474082181119)) (D.fle a0 (D.fc 9218868437227405311)) (D.bc false))
theorem ev40 (D : Dom) (a0 : D.F) : joinT (evFnH Try.prog (tbl_27 D) (lt_0 D) 80 40 [.fl a0] [] 0) = .val none (.sb (S40_0 D a0)) := by kernel_rfl
def sp40 : Ev.Spec := fun D l => argF l fun a0 r0 => arg0 r0 (.ret (.sb (S40_0 D a0)))
theorem en40 : ∀ l r, (sp40 R l).run = some r → Entry Try.prog 40 l r := by
  intro l r h
  obtain ⟨x0, _, h, L0⟩ := argF_inv h
  obtain ⟨h, L1⟩ := arg0_inv h
  cases h
  exact (entry_loops prg tok_27 hok_0 (ev40 R x0) (fun o ho => nomatch ho) rfl).le (L0 _ L1)
def tl_40 : List (Nat × Ev.Spec) := (40, sp40) :: tl_27
def tbl_40 (D : Dom) : Tbl D := tblOf tl_40 D
theorem tok_40 : TblOK Try.prog (tbl_40 R) := TblOK.cons tok_27 en40

-- penumbra/rgb.Good$1
def S39_0 (D : Dom) (a0 : D.F) : D.B := (D.bite (D.fge a0 (D.fc 0)) (S40_0 D a0) (D.bc false))
theorem ev39 (D : Dom) (a0 : D.F) : joinT (evFnH Try.prog (tbl_40 D) (lt_0 D) 80 39 [.fl a0] [] 0) = .val none (.sb (S39_0 D a0)) := by kernel_rfl
def sp39 : Ev.Spec := fun D l => argF l fun a0 r0 => arg0 r0 (.ret (.sb (S39_0 D a0)))
theorem en39 : ∀ l r, (sp39 R l).run = some r → Entry Try.prog 39 l r := by
  intro l r h
  obtain ⟨x0, _, h, L0⟩ := argF_inv h
  obtain ⟨h, L1⟩ := arg0_inv h
  cases h
  exact (entry_loops prg tok_40 hok_0 (ev39 R x0) (fun o ho => nomatch ho) rfl).le (L0 _ L1)
def tl_39 : List (Nat × Ev.Spec) := (39, sp39) :: tl_40
def tbl_39 (D : Dom) : Tbl D := tblOf tl_39 D
theorem tok_39 : TblOK Try.prog (tbl_39 R) := TblOK.cons tok_40 en39

-- penumbra/rgb.Good
def S28_0 (D : Dom) (a0 : D.F) (a1 : D.F) (a2 : D.F) : D.B := (D.bite (D.bite (S39_0 D a0) (S39_0 D a1) (D.bc false)) (S39_0 D a2) (D.bc false))
theorem ev28 (D : Dom) (a0 : D.F) (a1 : D.F) (a2 : D.F) : joinT (evFnH Try.prog (tbl_39 D) (lt_0 D) 80 28 [.agg [.fl a0, .fl a1, .fl a2]] [] 0) = .val none (.sb (S28_0 D a0 a1 a2)) := by kernel_rfl
def sp28 : Ev.Spec := fun D l => argA l fun c0 r0 => argF c0 fun a0 r1 => argF r1 fun a1 r2 => argF r2 fun a2 r3 => arg0 r3 (arg0 r0 (.ret (.sb (S28_0 D a0 a1 a2))))
theorem en28 : ∀ l r, (sp28 R l).run = some r → Entry Try.prog 28 l r := by
  intro l r h
  obtain ⟨_, _, h, L0⟩ := argA_inv h
  obtain ⟨x1, _, h, L1⟩ := argF_inv h
  obtain ⟨x2, _, h, L2⟩ := argF_inv h
  obtain ⟨x3, _, h, L3⟩ := argF_inv h
  obtain ⟨h, L4⟩ := arg0_inv h
  obtain ⟨h, L5⟩ := arg0_inv h
  cases h
  exact (entry_loops prg tok_39 hok_0 (ev28 R x1 x2 x3) (fun o ho => nomatch ho) rfl).le (L0 _ _ (L1 _ (L2 _ (L3 _ L4))) L5)
def tl_28 : List (Nat × Ev.Spec) := (28, sp28) :: tl_39
def tbl_28 (D : Dom) : Tbl D := tblOf tl_28 D
theorem tok_28 : TblOK Try.prog (tbl_28 R) := TblOK.cons tok_39 en28

-- penumbra/rgb.Gray
def S42_0 (D : Dom) (a0 : D.F) : D.F := a0
def S42_1 (D : Dom) (a0 : D.F) : D.F := a0
def S42_2 (D : Dom) (a0 : D.F) : D.F := a0
theorem ev42 (D : Dom) (a0 : D.F) : joinT (evFnH Try.prog (tbl_28 D) (lt_0 D) 80 42 [.fl a0] [] 0) = .val none (.agg [.fl (S42_0 D a0), .fl (S42_1 D a0), .fl (S42_2 D a0)]) := by kernel_rfl
def sp42 : Ev.Spec := fun D l => argF l fun a0 r0 => arg0 r0 (.ret (.agg [.fl (S42_0 D a0), .fl (S42_1 D a0), .fl (S42_2 D a0)]))
theorem en42 : ∀ l r, (sp42 R l).run = some r → Entry Try.prog 42 l r := by
  intro l r h
  obtain ⟨x0, _, h, L0⟩ := argF_inv h
  obtain ⟨h, L1⟩ := arg0_inv h
  cases h
  exact (entry_loops prg tok_28 hok_0 (ev42 R x0) (fun o ho => nomatch ho) rfl).le (L0 _ L1)
def tl_42 : List (Nat × Ev.Spec) := (42, sp42) :: tl_28
def tbl_42 (D : Dom) : Tbl D := tblOf tl_42 D
theorem tok_42 : TblOK Try.prog (tbl_42 R) := TblOK.cons tok_28 en42

-- penumbra/rgb.Mul$1
def S43_0 (D : Dom) (a0 : D.F) (a1 : D.F) : D.F := (D.fmul a0 a1)
theorem ev43 (D : Dom) (a0 : D.F) (a1 : D.F) : joinT (evFnH Try.prog (tbl_42 D) (lt_0 D) 80 43 [.fl a0, .fl a1] [] 0) = .val none (.fl (S43_0 D a0 a1)) := by kernel_rfl
def sp43 : Ev.Spec := fun D l => argF l fun a0 r0 => argF r0 fun a1 r1 => arg0 r1 (.ret (.fl (S43_0 D a0 a1)))
theorem en43 : ∀ l r, (sp43 R l).run = some r → Entry Try.prog 43 l r := by
  intro l r h
  obtain ⟨x0, _, h, L0⟩ := argF_inv h
  obtain ⟨x1, _, h, L1⟩ := argF_inv h
  obtain ⟨h, L2⟩ := arg0_inv h
  cases h
  exact (entry_loops prg tok_42 hok_0 (ev43 R x0 x1) (fun o ho => nomatch ho) rfl).le (L0 _ (L1 _ L2))
def tl_43 : List (Nat × Ev.Spec) := (43, sp43) :: tl_42
def tbl_43 (D : Dom) : Tbl D := tblOf tl_43 D
theorem tok_43 : TblOK Try.prog (tbl_43 R) := TblOK.cons tok_42 en43

-- penumbra/rgb.Mul
def S41_0 (D : Dom) (a0 : D.F) (a3 : D.F) : D.F := (S43_0 D a0 a3)
def S41_1 (D : Dom) (a1 : D.F) (a4 : D.F) : D.F := (S43_0 D a1 a4)
def S41_2 (D : Dom) (a2 : D.F) (a5 : D.F) : D.F := (S43_0 D a2 a5)
theorem ev41 (D : Dom) (a0 : D.F) (a1 : D.F) (a2 : D.F) (a3 : D.F) (a4 : D.F) (a5 : D.F) : joinT (evFnH Try.prog (tbl_43 D) (lt_0 D) 80 41 [.agg [.fl a0, .fl a1, .fl a2], .agg [.fl a3, .fl a4, .fl a5]] [] 0) = .val none (.agg [.fl (S41_0 D a0 a3), .fl (S41_1 D a1 a4), .fl (S41_2 D a2 a5)]) := by kernel_rfl
def sp41 : Ev.Spec := fun D l => argA l fun c0 r0 => argF c0 fun a0 r1 => argF r1 fun a1 r2 => argF r2 fun a2 r3 => arg0 r3 (argA r0 fun c100 r100 => argF c100 fun a3 r101 => argF r101 fun a4 r102 => argF r102 fun a5 r103 => arg0 r103 (arg0 r100 (.ret (.agg [.fl (S41_0 D a0 a3), .fl (S41_1 D a1 a4), .fl (S41_2 D a2 a5)]))))
theorem en41 : ∀ l r, (sp41 R l).run = some r → Entry Try.prog 41 l r := by
  intro l r h
  obtain ⟨_, _, h, L0⟩ := argA_inv h
  obtain ⟨x1, _, h, L1⟩ := argF_inv h
  obtain ⟨x2, _, h, L2⟩ := argF_inv h
  obtain ⟨x3, _, h, L3⟩ := argF_inv h
  obtain ⟨h, L4⟩ := arg0_inv h
  obtain ⟨_, _, h, L5⟩ := argA_inv h
  obtain ⟨x6, _, h, L6⟩ := argF_inv h
  obtain ⟨x7, _, h, L7⟩ := argF_inv h
  obtain ⟨x8, _, h, L8⟩ := argF_inv h
  obtain ⟨h, L9⟩ := arg0_inv h
  obtain ⟨h, L10⟩ := arg0_inv h
  cases h
  exact (entry_loops prg tok_43 hok_0 (ev41 R x1 x2 x3 x6 x7 x8) (fun o ho => nomatch ho) rfl).le (L0 _ _ (L1 _ (L2 _ (L3 _ L4))) (L5 _ _ (L6 _ (L7 _ (L8 _ L9))) L10))
def tl_41 : List (Nat × Ev.Spec) := (41, sp41) :: tl_43
def tbl_41 (D : Dom) : Tbl D := tblOf tl_41 D
theorem tok_41 : TblOK Try.prog (tbl_41 R) := TblOK.cons tok_43 en41

-- penumbra/rgb.Scale
def S35_0 (D : Dom) (a0 : D.F) (a3 : D.F) : D.F := (S41_0 D a0 (S42_0 D a3))
def S35_1 (D : Dom) (a1 : D.F) (a3 : D.F) : D.F := (S41_1 D a1 (S42_1 D a3))
def S35_2 (D : Dom) (a2 : D.F) (a3 : D.F) : D.F := (S41_2 D a2 (S42_2 D a3))
theorem ev35 (D : Dom) (a0 : D.F) (a1 : D.F) (a2 : D.F) (a3 : D.F) : joinT (evFnH Try.prog (tbl_41 D) (lt_0 D) 80 35 [.agg [.fl a0, .fl a1, .fl a2], .fl a3] [] 0) = .val none (.agg [.fl (S35_0 D a0 a3), .fl (S35_1 D a1 a3), .fl (S35_2 D a2 a3)]) := by kernel_rfl
def sp35 : Ev.Spec := fun D l => argA l fun c0 r0 => argF c0 fun a0 r1 => argF r1 fun a1 r2 => argF r2 fun a2 r3 => arg0 r3 (argF r0 fun a3 r100 => arg0 r100 (.ret (.agg [.fl (S35_0 D a0 a3), .fl (S35_1 D a1 a3), .fl (S35_2 D a2 a3)])))
theorem en35 : ∀ l r, (sp35 R l).run = some r → Entry Try.prog 35 l r := by
  intro l r h
  obtain ⟨_, _, h, L0⟩ := argA_inv h
  obtain ⟨x1, _, h, L1⟩ := argF_inv h
  obtain ⟨x2, _, h, L2⟩ := argF_inv h
  obtain ⟨x3, _, h, L3⟩ := argF_inv h
  obtain ⟨h, L4⟩ := arg0_inv h
  obtain ⟨x5, _, h, L5⟩ := argF_inv h
  obtain ⟨h, L6⟩ := arg0_inv h
  cases h
  exact (entry_loops prg tok_41 hok_0 (ev35 R x1 x2 x3 x5) (fun o ho => nomatch ho) rfl).le (L0 _ _ (L1 _ (L2 _ (L3 _ L4))) (L5 _ L6))
def tl_35 : List (Nat × Ev.Spec) := (35, sp35) :: tl_41
def tbl_35 (D : Dom) : Tbl D := tblOf tl_35 D
theorem tok_35 : TblOK Try.prog (tbl_35 R) := TblOK.cons tok_41 en35

-- (penumbra/film.pixel).mean
def S24_0 (D : Dom) (a0 : D.F) (a3 : D.Z) (a4 : D.Z) : D.F := (D.fite (D.zeq (D.zadd .i64 a3 a4) (D.zc 0)) (D.fc 0) (S35_0 D a0 (D.fdiv (D.fc 4607182418800017408) (D.i2f (D.zadd .i64 a3 a4)))))
def S24_1 (D : Dom) (a1 : D.F) (a3 : D.Z) (a4 : D.Z) : D.F := (D.fite (D.zeq (D.zadd .i64 a3 a4) (D.zc 0)) (D.fc 0) (S35_1 D a1 (D.fdiv (D.fc 4607182418800017408) (D.i2f (D.zadd .i64 a3 a4)))))
def S24_2 (D : Dom) (a2 : D.F) (a3 : D.Z) (a4 : D.Z) : D.F := (D.fite (D.zeq (D.zadd .i64 a3 a4) (D.zc 0)) (D.fc 0) (S35_2 D a2 (D.fdiv (D.fc 4607182418800017408) (D.i2f (D.zadd .i64 a3 a4)))))
theorem ev24 (D : Dom) (a0 : D.F) (a1 : D.F) (a2 : D.F) (a3 : D.Z) (a4 : D.Z) : joinT (evFnH Try.prog (tbl_35 D) (lt_0 D) 80 24 [.agg [.fl a0, .fl a1, .fl a2, .si .i64 a3, .si .i64 a4]] [] 0) = .val none (.agg [.fl (S24_0 D a0 a3 a4), .fl (S24_1 D a1 a3 a4), .fl (S24_2 D a2 a3 a4)]) := by kernel_rfl
def sp24 : Ev.Spec := fun D l => argA l fun c0 r0 => argF c0 fun a0 r1 => argF r1 fun a1 r2 => argF r2 fun a2 r3 => argZ .i64 r3 fun a3 r4 => argZ .i64 r4 fun a4 r5 => arg0 r5 (arg0 r0 (.ret (.agg [.fl (S24_0 D a0 a3 a4), .fl (S24_1 D a1 a3 a4), .fl (S24_2 D a2 a3 a4)])))
theorem en24 : ∀ l r, (sp24 R l).run = some r → Entry Try.prog 24 l r := by
  intro l r h
  obtain ⟨_, _, h, L0⟩ := argA_inv h
  obtain ⟨x1, _, h, L1⟩ := argF_inv h
  obtain ⟨x2, _, h, L2⟩ := argF_inv h
  obtain ⟨x3, _, h, L3⟩ := argF_inv h
  obtain ⟨x4, _, h, L4⟩ := argZ_inv h
  obtain ⟨x5, _, h, L5⟩ := argZ_inv h
  obtain ⟨h, L6⟩ := arg0_inv h
  obtain ⟨h, L7⟩ := arg0_inv h
  cases h
  exact (entry_loops prg tok_35 hok_0 (ev24 R x1 x2 x3 x4 x5) (fun o ho => nomatch ho) rfl).le (L0 _ _ (L1 _ (L2 _ (L3 _ (L4 _ (L5 _ L6))))) L7)
def tl_24 : List (Nat × Ev.Spec) := (24, sp24) :: tl_35
def tbl_24 (D : Dom) : Tbl D := tblOf tl_24 D
theorem tok_24 : TblOK Try.prog (tbl_24 R) := TblOK.cons tok_35 en24

-- loop 0
def C0 (D : Dom) (a2 : D.Z) (a5 : D.Z) : D.B := (D.zlt a5 a2)
def O0_ (D : Dom) (a0 : D.Z) (a1 : D.Z) (a2 : D.Z) (a3 : D.L) (a4 : D.L) (a5 : D.Z) : D.B := (D.bite (D.zlt a5 a2) (D.band (D.band (D.zle (D.zc 0) a5) (D.zlt a5 a1)) (D.zle (D.llen (D.lapp a4 [[.f (S24_0 D (D.lf a3 (D.zadd .i64 a0 a5) 0) (D.lz a3 (D.zadd .i64 a0 a5) 3) (D.lz a3 (D.zadd .i64 a0 a5) 4))], [.f (S24_1 D (D.lf a3 (D.zadd .i64 a0 a5) 1) (D.lz a3 (D.zadd .i64 a0 a5) 3) (D.lz a3 (D.zadd .i64 a0 a5) 4))], [.f (S24_2 D (D.lf a3 (D.zadd .i64 a0 a5) 2) (D.lz a3 (D.zadd .i64 a0 a5) 3) (D.lz a3 (D.zadd .i64 a0 a5) 4))]])) (D.zc 1073741824))) (D.bc true))
def N0_0 (D : Dom) (a0 : D.Z) (a3 : D.L) (a4 : D.L) (a5 : D.Z) : D.L := (D.lapp a4 [[.f (S24_0 D (D.lf a3 (D.zadd .i64 a0 a5) 0) (D.lz a3 (D.zadd .i64 a0 a5) 3) (D.lz a3 (D.zadd .i64 a0 a5) 4))], [.f (S24_1 D (D.lf a3 (D.zadd .i64 a0 a5) 1) (D.lz a3 (D.zadd .i64 a0 a5) 3) (D.lz a3 (D.zadd .i64 a0 a5) 4))], [.f (S24_2 D (D.lf a3 (D.zadd .i64 a0 a5) 2) (D.lz a3 (D.zadd .i64 a0 a5) 3) (D.lz a3 (D.zadd .i64 a0 a5) 4))]])
def N0_1 (D : Dom) (a5 : D.Z) : D.Z := (D.zadd .i64 a5 (D.zc 1))
def G0 (D : Dom) (a0 : D.Z) (a1 : D.Z) (a2 : D.Z) (a3 : D.L) (p : List (PD D)) : D.B × D.B × List (PD D) := (C0 D a2 (nthZ p 1), O0_ D a0 a1 a2 a3 (nthL p 0) (nthZ p 1), [.l (N0_0 D a0 a3 (nthL p 0) (nthZ p 1)), .z (N0_1 D (nthZ p 1))])
def L0 (D : Dom) (a0 : D.Z) (a1 : D.Z) (a2 : D.Z) (a3 : D.L) (a4 : D.L) (a5 : D.Z) : List (PD D) := D.last (G0 D a0 a1 a2 a3) [.l a4, .z a5]
def E0 (D : Dom) (a0 : D.Z) (a1 : D.Z) (a2 : D.Z) (a3 : D.L) (a4 : D.L) (a5 : D.Z) : D.B := D.ends (G0 D a0 a1 a2 a3) [.l a4, .z a5]
def sh_0 : HSh := ⟨10, 16, [.ctx, .env (.ki .i64 0), .env (.ki .i64 1), .env (.clo 36 [] [.ptr 9 0]), .env (.undef), .env (.undef), .env (.undef), .env (.undef), .env (.undef), .drop, .ctx, .env (.kb false), .env (.kb false), .env (.ki .i64 0), .env (.kb false), .env (.kb false), .env (.kb false), .env (.ki .i64 1), .ctx, .ctx, .ctx, .env (.ki .i64 1), .env (.kb false), .env (.kb false), .ctx, .ctx, .ctx, .ctx, .env (.ki .i64 0), .ctx, .ctx, .ctx, .env (.ki .i64 2), .env (.ki .i64 0), .env (.ki .i64 1), .ctx, .ctx, .ctx, .env (.ki .i64 2), .env (.ki .i64 2), .env (.ki .i64 1), .ctx, .ctx, .ctx, .env (.ki .i64 2), .env (.ki .i64 2), .env (.sslice 0 .part (some ()) () 5), .env (.si .i64 ()), .var (.si .i64 ()), .drop, .drop, .drop, .drop, .drop, .drop, .drop], [(9, .cells [.slot [.f] 1])], [(0, [.row false [.f, .f, .f, .z .i64, .z .i64] ()])], []⟩
def st_0 (D : Dom) (env p : List (PD D)) : D.B × D.B × List (PD D) := G0 D (nthZ env 0) (nthZ env 1) (nthZ env 2) (nthL env 3) p
theorem rd_0 (D : Dom) (env vars : List (PD D)) (ctx : List (AV D)) : (sh_0.round (sh_0.st env vars ctx).h.length (evCodeH Try.prog (tbl_24 D) (lt_0 D) 80 32 (loopB Try.prog 32 0) (sh_0.st env vars ctx))).map Nr.step = some (st_0 D env vars) := by kernel_rfl
noncomputable def ll_1 (D : Dom) : List (LE D) := ⟨32, 0, sh_0, st_0 D, fun s => evCodeH Try.prog (tbl_24 D) (lt_0 D) 80 32 (loopB Try.prog 32 0) s⟩ :: ll_0 D
noncomputable def lt_1 (D : Dom) : LTb D := ltOf (ll_1 D)
theorem hok_1 : HooksOK Try.prog (lt_1 R) := HooksOK.cons prg tok_24 hok_0 (by kernel_rfl) (by kernel_rfl) (rd_0 R)

-- penumbra/penumbralaw21.awake
def WS7_0_0 (D : Dom)  : D.L := (D.lrep (D.zc 2) [.f (D.fc 0), .f (D.fc 0), .f (D.fc 0), .z (D.zc 0), .z (D.zc 0)])
def WS7_0_1 (D : Dom)  : D.F := (S27_0 D (D.lf (WS7_0_0 D) (D.zc 1) 0) (D.fc 4607182418800017408))
def WS7_0_2 (D : Dom)  : D.F := (S27_1 D (D.lf (WS7_0_0 D) (D.zc 1) 1) (D.fc 0))
def WS7_0_3 (D : Dom)  : D.F := (S27_2 D (D.lf (WS7_0_0 D) (D.zc 1) 2) (D.fc 0))
def WS7_0_4 (D : Dom)  : D.L := (D.lput (WS7_0_0 D) (D.zc 1) 0 [.f (WS7_0_1 D), .f (WS7_0_2 D), .f (WS7_0_3 D)])
def WS7_0_5 (D : Dom)  : D.L := (D.lite (D.bite (S28_0 D (D.fc 4607182418800017408) (D.fc 0) (D.fc 0)) (S28_0 D (WS7_0_1 D) (WS7_0_2 D) (WS7_0_3 D)) (D.bc false)) (D.lput (WS7_0_4 D) (D.zc 1) 3 [.z (D.zadd .i64 (D.lz (WS7_0_4 D) (D.zc 1) 3) (D.zc 1))]) (D.lput (WS7_0_0 D) (D.zc 1) 4 [.z (D.zadd .i64 (D.lz (WS7_0_0 D) (D.zc 1) 4) (D.zc 1))]))
def WS7_0_6 (D : Dom)  : D.F := (S27_0 D (D.lf (WS7_0_5 D) (D.zc 1) 0) (D.fc 4613937818241073152))
def WS7_0_7 (D : Dom)  : D.F := (S27_1 D (D.lf (WS7_0_5 D) (D.zc 1) 1) (D.fc 0))
def WS7_0_8 (D : Dom)  : D.F := (S27_2 D (D.lf (WS7_0_5 D) (D.zc 1) 2) (D.fc 0))
def WS7_0_9 (D : Dom)  : D.L := (D.lput (WS7_0_5 D) (D.zc 1) 0 [.f (WS7_0_6 D), .f (WS7_0_7 D), .f (WS7_0_8 D)])
def WS7_0_10 (D : Dom)  : D.L := (D.lite (D.bite (S28_0 D (D.fc 4613937818241073152) (D.fc 0) (D.fc 0)) (S28_0 D (WS7_0_6 D) (WS7_0_7 D) (WS7_0_8 D)) (D.bc false)) (D.lput (WS7_0_9 D) (D.zc 1) 3 [.z (D.zadd .i64 (D.lz (WS7_0_9 D) (D.zc 1) 3) (D.zc 1))]) (D.lput (WS7_0_5 D) (D.zc 1) 4 [.z (D.zadd .i64 (D.lz (WS7_0_5 D) (D.zc 1) 4) (D.zc 1))]))
def WS7_0_11 (D : Dom)  : D.F := (S27_0 D (D.lf (WS7_0_10 D) (D.zc 1) 0) (D.fc 13830554455654793216))
def WS7_0_12 (D : Dom)  : D.F := (S27_1 D (D.lf (WS7_0_10 D) (D.zc 1) 1) (D.fc 0))
def WS7_0_13 (D : Dom)  : D.F := (S27_2 D (D.lf (WS7_0_10 D) (D.zc 1) 2) (D.fc 0))
def WS7_0_14 (D : Dom)  : D.L := (D.lput (WS7_0_10 D) (D.zc 1) 0 [.f (WS7_0_11 D), .f (WS7_0_12 D), .f (WS7_0_13 D)])
def WS7_0_15 (D : Dom)  : D.L := (D.lite (D.bite (S28_0 D (D.fc 13830554455654793216) (D.fc 0) (D.fc 0)) (S28_0 D (WS7_0_11 D) (WS7_0_12 D) (WS7_0_13 D)) (D.bc false)) (D.lput (WS7_0_14 D) (D.zc 1) 3 [.z (D.zadd .i64 (D.lz (WS7_0_14 D) (D.zc 1) 3) (D.zc 1))]) (D.lput (WS7_0_10 D) (D.zc 1) 4 [.z (D.zadd .i64 (D.lz (WS7_0_10 D) (D.zc 1) 4) (D.zc 1))]))
def WS7_0_16 (D : Dom)  : List (PD D) := (L0 D (D.zc 0) (D.zsub .i64 (D.zc 2) (D.zc 0)) (D.zsub .i64 (D.zc 2) (D.zc 0)) (WS7_0_15 D) D.lnil (D.zc 0))
def S7_0 (D : Dom) : D.B := (D.bite (D.bite (D.bite (D.bite (D.bite (D.feq (D.lf (WS7_0_15 D) (D.zc 1) 0) (D.fc 4616189618054758400)) (D.zeq (D.lz (WS7_0_15 D) (D.zc 1) 4) (D.zc 1)) (D.bc false)) (D.zeq (D.lz (WS7_0_15 D) (D.zc 1) 3) (D.zc 2)) (D.bc false)) (D.zeq (D.llen (nthL (WS7_0_16 D) 0)) (D.zc 6)) (D.bc false)) (D.fgt (D.lf (nthL (WS7_0_16 D) 0) (D.zc 3) 0) (D.fc 4608668606677049672)) (D.bc false)) (D.flt (D.lf (nthL (WS7_0_16 D) 0) (D.zc 3) 0) (D.fc 4608713642673323377)) (D.bc false))
def WO7_0 (D : Dom)  : D.B := (D.band (D.zle (D.zc 0) (D.zc 1)) (D.zlt (D.zc 1) (D.zc 2)))
def WO7_1 (D : Dom)  : D.L := (D.lrep (D.zc 2) [.f (D.fc 0), .f (D.fc 0), .f (D.fc 0), .z (D.zc 0), .z (D.zc 0)])
def WO7_2 (D : Dom)  : D.F := (S27_0 D (D.lf (WO7_1 D) (D.zc 1) 0) (D.fc 4607182418800017408))
def WO7_3 (D : Dom)  : D.F := (S27_1 D (D.lf (WO7_1 D) (D.zc 1) 1) (D.fc 0))
def WO7_4 (D : Dom)  : D.F := (S27_2 D (D.lf (WO7_1 D) (D.zc 1) 2) (D.fc 0))
def WO7_5 (D : Dom)  : D.L := (D.lput (WO7_1 D) (D.zc 1) 0 [.f (WO7_2 D), .f (WO7_3 D), .f (WO7_4 D)])
def WO7_6 (D : Dom)  : D.L := (D.lite (D.bite (S28_0 D (D.fc 4607182418800017408) (D.fc 0) (D.fc 0)) (S28_0 D (WO7_2 D) (WO7_3 D) (WO7_4 D)) (D.bc false)) (D.lput (WO7_5 D) (D.zc 1) 3 [.z (D.zadd .i64 (D.lz (WO7_5 D) (D.zc 1) 3) (D.zc 1))]) (D.lput (WO7_1 D) (D.zc 1) 4 [.z (D.zadd .i64 (D.lz (WO7_1 D) (D.zc 1) 4) (D.zc 1))]))
def WO7_7 (D : Dom)  : D.F := (S27_0 D (D.lf (WO7_6 D) (D.zc 1) 0) (D.fc 4613937818241073152))
def WO7_8 (D : Dom)  : D.F := (S27_1 D (D.lf (WO7_6 D) (D.zc 1) 1) (D.fc 0))
def WO7_9 (D : Dom)  : D.F := (S27_2 D (D.lf (WO7_6 D) (D.zc 1) 2) (D.fc 0))
def WO7_10 (D : Dom)  : D.L := (D.lput (WO7_6 D) (D.zc 1) 0 [.f (WO7_7 D), .f (WO7_8 D), .f (WO7_9 D)])
def WO7_11 (D : Dom)  : D.L := (D.lite (D.bite (S28_0 D (D.fc 4613937818241073152) (D.fc 0) (D.fc 0)) (S28_0 D (WO7_7 D) (WO7_8 D) (WO7_9 D)) (D.bc false)) (D.lput (WO7_10 D) (D.zc 1) 3 [.z (D.zadd .i64 (D.lz (WO7_10 D) (D.zc 1) 3) (D.zc 1))]) (D.lput (WO7_6 D) (D.zc 1) 4 [.z (D.zadd .i64 (D.lz (WO7_6 D) (D.zc 1) 4) (D.zc 1))]))
def WO7_12 (D : Dom)  : D.F := (S27_0 D (D.lf (WO7_11 D) (D.zc 1) 0) (D.fc 13830554455654793216))
def WO7_13 (D : Dom)  : D.F := (S27_1 D (D.lf (WO7_11 D) (D.zc 1) 1) (D.fc 0))
def WO7_14 (D : Dom)  : D.F := (S27_2 D (D.lf (WO7_11 D) (D.zc 1) 2) (D.fc 0))
def WO7_15 (D : Dom)  : D.L := (D.lput (WO7_11 D) (D.zc 1) 0 [.f (WO7_12 D), .f (WO7_13 D), .f (WO7_14 D)])
def WO7_16 (D : Dom)  : D.L := (D.lite (D.bite (S28_0 D (D.fc 13830554455654793216) (D.fc 0) (D.fc 0)) (S28_0 D (WO7_12 D) (WO7_13 D) (WO7_14 D)) (D.bc false)) (D.lput (WO7_15 D) (D.zc 1) 3 [.z (D.zadd .i64 (D.lz (WO7_15 D) (D.zc 1) 3) (D.zc 1))]) (D.lput (WO7_11 D) (D.zc 1) 4 [.z (D.zadd .i64 (D.lz (WO7_11 D) (D.zc 1) 4) (D.zc 1))]))
def WO7_17 (D : Dom)  : D.B := (E0 D (D.zc 0) (D.zsub .i64 (D.zc 2) (D.zc 0)) (D.zsub .i64 (D.zc 2) (D.zc 0)) (WO7_16 D) D.lnil (D.zc 0))
def WO7_18 (D : Dom)  : D.B := (D.feq (D.lf (WO7_16 D) (D.zc 1) 0) (D.fc 4616189618054758400))
def WO7_19 (D : Dom)  : D.B := (D.bite (WO7_18 D) (D.zeq (D.lz (WO7_16 D) (D.zc 1) 4) (D.zc 1)) (D.bc false))
def WO7_20 (D : Dom)  : List (PD D) := (L0 D (D.zc 0) (D.zsub .i64 (D.zc 2) (D.zc 0)) (D.zsub .i64 (D.zc 2) (D.zc 0)) (WO7_16 D) D.lnil (D.zc 0))
def WO7_21 (D : Dom)  : D.B := (D.bite (D.bite (WO7_19 D) (D.zeq (D.lz (WO7_16 D) (D.zc 1) 3) (D.zc 2)) (D.bc false)) (D.zeq (D.llen (nthL (WO7_20 D) 0)) (D.zc 6)) (D.bc false))
def WO7_22 (D : Dom)  : D.B := (D.band (D.zle (D.zc 0) (D.zc 3)) (D.zlt (D.zc 3) (D.llen (nthL (WO7_20 D) 0))))
def O7 (D : Dom) : D.B := (D.band (D.band (D.zle (D.zc 0) (D.zc 2)) (D.zle (D.zc 2) (D.zc 1073741824))) (D.band (WO7_0 D) (D.band (WO7_0 D) (D.band (WO7_0 D) (D.band (D.band (D.band (D.band (D.zle (D.zc 0) (D.zc 0)) (D.zle (D.zc 0) (D.zc 2))) (D.band (D.zle (D.zc 2) (D.zc 2)) (D.zle (D.zc 2) (D.zc 2)))) (WO7_17 D)) (D.band (WO7_0 D) (D.band (D.bite (WO7_18 D) (WO7_0 D) (D.bc true)) (D.band (D.bite (WO7_19 D) (WO7_0 D) (D.bc true)) (D.band (D.bite (WO7_21 D) (WO7_22 D) (D.bc true)) (D.bite (D.bite (WO7_21 D) (D.fgt (D.lf (nthL (WO7_20 D) 0) (D.zc 3) 0) (D.fc 4608668606677049672)) (D.bc false)) (WO7_22 D) (D.bc true)))))))))))
theorem ev7 (D : Dom)  : joinT (evFnH Try.prog (tbl_24 D) (lt_1 D) 80 7 [] [] 0) = .val (some (O7 D)) (.sb (S7_0 D)) := by kernel_rfl
def sp7 : Ev.Spec := fun D l => arg0 l (.node (O7 D) (.ret (.sb (S7_0 D))) (.fail "pre"))
theorem en7 : ∀ l r, (sp7 R l).run = some r → Entry Try.prog 7 l r := by
  intro l r h
  obtain ⟨h, L0⟩ := arg0_inv h
  obtain ⟨hok, rfl⟩ := run_okay h
  exact (entry_loops prg tok_24 hok_1 (ev7 R ) (fun o ho => (Option.some.inj ho) ▸ hok) rfl).le L0
def tl_7 : List (Nat × Ev.Spec) := (7, sp7) :: tl_24
def tbl_7 (D : Dom) : Tbl D := tblOf tl_7 D
theorem tok_7 : TblOK Try.prog (tbl_7 R) := TblOK.cons tok_24 en7
def sh_1 : HSh := ⟨5, 11, [.ctx, .env (.ki .i64 0), .env (.ki .i64 1), .env (.clo 36 [] [.ptr 4 0]), .env (.undef), .env (.undef), .env (.undef), .env (.undef), .env (.undef), .drop, .ctx, .env (.kb false), .env (.kb false), .env (.ki .i64 0), .env (.kb false), .env (.kb false), .env (.kb false), .env (.ki .i64 1), .ctx, .ctx, .ctx, .ctx, .ctx, .ctx, .ctx, .ctx, .ctx, .ctx, .env (.ki .i64 0), .ctx, .ctx, .ctx, .ctx, .ctx, .env (.ki .i64 1), .ctx, .ctx, .ctx, .ctx, .ctx, .env (.ki .i64 1), .ctx, .ctx, .ctx, .ctx, .ctx, .env (.sslice 0 .part (some ()) () 5), .env (.si .i64 ()), .var (.si .i64 ()), .drop, .drop, .drop, .drop, .drop, .drop, .drop], [(4, .cells [.slot [.f] 1])], [(0, [.row false [.f, .f, .f, .z .i64, .z .i64] ()])], []⟩
def st_1 (D : Dom) (env p : List (PD D)) : D.B × D.B × List (PD D) := G0 D (nthZ env 0) (nthZ env 1) (nthZ env 2) (nthL env 3) p
theorem rd_1 (D : Dom) (env vars : List (PD D)) (ctx : List (AV D)) : (sh_1.round (sh_1.st env vars ctx).h.length (evCodeH Try.prog (tbl_7 D) (lt_1 D) 80 32 (loopB Try.prog 32 0) (sh_1.st env vars ctx))).map Nr.step = some (st_1 D env vars) := by kernel_rfl
noncomputable def ll_2 (D : Dom) : List (LE D) := ⟨32, 0, sh_1, st_1 D, fun s => evCodeH Try.prog (tbl_7 D) (lt_1 D) 80 32 (loopB Try.prog 32 0) s⟩ :: ll_1 D
noncomputable def lt_2 (D : Dom) : LTb D := ltOf (ll_2 D)
theorem hok_2 : HooksOK Try.prog (lt_2 R) := HooksOK.cons prg tok_7 hok_1 (by kernel_rfl) (by kernel_rfl) (rd_1 R)

-- penumbra/penumbralaw21.FilmMakes
def WS3_0_0 (D : Dom) (a0 : D.Z) (a1 : D.Z) : D.B := (D.bite (D.zlt (D.zmin a0 a1) (D.zc 1)) (D.bc true) (D.zlt (D.zc 8192) (D.zmax a0 a1)))
def WS3_0_1 (D : Dom) (a0 : D.Z) (a1 : D.Z) : D.B := (D.bite (D.bite (D.bite (D.zlt a0 (D.zc 1)) (D.bc true) (D.zlt a1 (D.zc 1))) (D.bc true) (D.zlt (D.zc 8192) a0)) (D.bc true) (D.zlt (D.zc 8192) a1))
def WS3_0_2 (D : Dom)  : D.B := (D.bite (S7_0 D) (D.bc true) (D.bc false))
def WS3_0_3 (D : Dom) (a0 : D.Z) (a1 : D.Z) : D.Z := (D.zite (WS3_0_0 D a0 a1) (D.zc 12) (D.zc 4))
def WS3_0_4 (D : Dom) (a0 : D.Z) (a1 : D.Z) : D.B := (D.bite (D.zle a0 (D.zc 0)) (D.bc true) (D.zle a1 (D.zc 0)))
def WS3_0_5 (D : Dom) (a0 : D.Z) (a1 : D.Z) : D.L := (D.lrep (D.zmul .i64 a0 a1) [.f (D.fc 0), .f (D.fc 0), .f (D.fc 0), .z (D.zc 0), .z (D.zc 0)])
def WS3_0_6 (D : Dom) (a0 : D.Z) : D.Z := (D.zadd .i64 (D.zmul .i64 (D.zc 0) a0) (D.zc 0))
def WS3_0_7 (D : Dom) (a0 : D.Z) (a1 : D.Z) : D.Z := (D.zite (WS3_0_4 D a0 a1) (D.zc 0) (D.lz (WS3_0_5 D a0 a1) (WS3_0_6 D a0) 3))
def WS3_0_8 (D : Dom) (a0 : D.Z) (a1 : D.Z) : D.Z := (D.zite (WS3_0_4 D a0 a1) (D.zc 0) (D.lz (WS3_0_5 D a0 a1) (WS3_0_6 D a0) 4))
def WS3_0_9 (D : Dom) (a0 : D.Z) : D.B := (D.zeq (D.zc 0) (D.zmul .i64 (D.zc 3) a0))
def WS3_0_10 (D : Dom) (a0 : D.Z) : D.Z := (D.zsub .i64 (D.zmul .i64 (D.zc 1) a0) (D.zmul .i64 (D.zc 0) a0))
def WS3_0_11 (D : Dom) (a0 : D.Z) (a1 : D.Z) : List (PD D) := (L0 D (D.zmul .i64 (D.zc 0) a0) (WS3_0_10 D a0) (WS3_0_10 D a0) (WS3_0_5 D a0 a1) D.lnil (D.zc 0))
def S3_0 (D : Dom) (a0 : D.Z) (a1 : D.Z) : D.B := (D.bite (D.bite (WS3_0_0 D a0 a1) (D.bc true) (D.zlt (D.zc 65536) (D.zmul .i64 a0 a1))) (D.bite (WS3_0_1 D a0 a1) (D.bite (WS3_0_2 D) (D.zeq (WS3_0_3 D a0 a1) (D.zc 12)) (D.bc false)) (D.bite (D.zlt (D.zc 65536) (D.zmul .i64 a0 a1)) (D.bite (WS3_0_2 D) (D.zeq (WS3_0_3 D a0 a1) (D.zc 4)) (D.bc false)) (D.bc false))) (D.bite (WS3_0_1 D a0 a1) (D.bc false) (D.bite (D.zlt (D.zc 65536) (D.zmul .i64 a0 a1)) (D.bc false) (D.bite (D.bite (D.bite (D.bite (S7_0 D) (D.zeq a0 a0) (D.bc false)) (D.zeq a1 a1) (D.bc false)) (D.band (D.feq (S24_0 D (D.fite (WS3_0_4 D a0 a1) (D.fc 0) (D.lf (WS3_0_5 D a0 a1) (WS3_0_6 D a0) 0)) (WS3_0_7 D a0 a1) (WS3_0_8 D a0 a1)) (D.fc 0)) (D.band (D.feq (S24_1 D (D.fite (WS3_0_4 D a0 a1) (D.fc 0) (D.lf (WS3_0_5 D a0 a1) (WS3_0_6 D a0) 1)) (WS3_0_7 D a0 a1) (WS3_0_8 D a0 a1)) (D.fc 0)) (D.band (D.feq (S24_2 D (D.fite (WS3_0_4 D a0 a1) (D.fc 0) (D.lf (WS3_0_5 D a0 a1) (WS3_0_6 D a0) 2)) (WS3_0_7 D a0 a1) (WS3_0_8 D a0 a1)) (D.fc 0)) (D.bc true)))) (D.bc false)) (D.bite (D.zle a1 (D.zc 0)) (WS3_0_9 D a0) (D.bite (D.zlt a1 (D.zc 1)) (WS3_0_9 D a0) (D.zeq (D.llen (nthL (WS3_0_11 D a0 a1) 0)) (D.zmul .i64 (D.zc 3) a0)))) (D.bc false)))))
def WO3_0 (D : Dom) (a0 : D.Z) (a1 : D.Z) : D.B := (D.bite (D.bite (D.bite (D.zlt a0 (D.zc 1)) (D.bc true) (D.zlt a1 (D.zc 1))) (D.bc true) (D.zlt (D.zc 8192) a0)) (D.bc true) (D.zlt (D.zc 8192) a1))
def WO3_1 (D : Dom) (a0 : D.Z) (a1 : D.Z) : D.B := (D.bite (WO3_0 D a0 a1) (O7 D) (D.bc true))
def WO3_2 (D : Dom) (a0 : D.Z) (a1 : D.Z) : D.B := (D.bite (D.zlt (D.zc 65536) (D.zmul .i64 a0 a1)) (O7 D) (D.bc true))
def WO3_3 (D : Dom) (a0 : D.Z) (a1 : D.Z) : D.B := (D.bite (D.bite (S7_0 D) (D.zeq a0 a0) (D.bc false)) (D.zeq a1 a1) (D.bc false))
def WO3_4 (D : Dom) (a0 : D.Z) (a1 : D.Z) : D.B := (D.bite (D.zle a0 (D.zc 0)) (D.bc true) (D.zle a1 (D.zc 0)))
def WO3_5 (D : Dom) (a0 : D.Z) : D.Z := (D.zadd .i64 (D.zmul .i64 (D.zc 0) a0) (D.zc 0))
def WO3_6 (D : Dom) (a0 : D.Z) (a1 : D.Z) : D.L := (D.lrep (D.zmul .i64 a0 a1) [.f (D.fc 0), .f (D.fc 0), .f (D.fc 0), .z (D.zc 0), .z (D.zc 0)])
def WO3_7 (D : Dom) (a0 : D.Z) (a1 : D.Z) : D.Z := (D.zite (WO3_4 D a0 a1) (D.zc 0) (D.lz (WO3_6 D a0 a1) (WO3_5 D a0) 3))
def WO3_8 (D : Dom) (a0 : D.Z) (a1 : D.Z) : D.Z := (D.zite (WO3_4 D a0 a1) (D.zc 0) (D.lz (WO3_6 D a0 a1) (WO3_5 D a0) 4))
def WO3_9 (D : Dom) (a0 : D.Z) : D.Z := (D.zsub .i64 (D.zmul .i64 (D.zc 1) a0) (D.zmul .i64 (D.zc 0) a0))
def WO3_10 (D : Dom) (a0 : D.Z) (a1 : D.Z) : D.B := (E0 D (D.zmul .i64 (D.zc 0) a0) (WO3_9 D a0) (WO3_9 D a0) (WO3_6 D a0 a1) D.lnil (D.zc 0))
def O3 (D : Dom) (a0 : D.Z) (a1 : D.Z) : D.B := (D.bite (D.bite (D.bite (D.zlt (D.zmin a0 a1) (D.zc 1)) (D.bc true) (D.zlt (D.zc 8192) (D.zmax a0 a1))) (D.bc true) (D.zlt (D.zc 65536) (D.zmul .i64 a0 a1))) (D.band (WO3_1 D a0 a1) (D.bite (WO3_0 D a0 a1) (D.bc true) (WO3_2 D a0 a1))) (D.band (D.band (D.zle (D.zc 0) (D.zmul .i64 a0 a1)) (D.zle (D.zmul .i64 a0 a1) (D.zc 1073741824))) (D.band (WO3_1 D a0 a1) (D.bite (WO3_0 D a0 a1) (D.bc true) (D.band (WO3_2 D a0 a1) (D.bite (D.zlt (D.zc 65536) (D.zmul .i64 a0 a1)) (D.bc true) (D.band (O7 D) (D.band (D.bite (WO3_3 D a0 a1) (D.bite (WO3_4 D a0 a1) (D.bc true) (D.band (D.zle (D.zc 0) (WO3_5 D a0)) (D.zlt (WO3_5 D a0) (D.zmul .i64 a0 a1)))) (D.bc true)) (D.bite (D.bite (WO3_3 D a0 a1) (D.band (D.feq (S24_0 D (D.fite (WO3_4 D a0 a1) (D.fc 0) (D.lf (WO3_6 D a0 a1) (WO3_5 D a0) 0)) (WO3_7 D a0 a1) (WO3_8 D a0 a1)) (D.fc 0)) (D.band (D.feq (S24_1 D (D.fite (WO3_4 D a0 a1) (D.fc 0) (D.lf (WO3_6 D a0 a1) (WO3_5 D a0) 1)) (WO3_7 D a0 a1) (WO3_8 D a0 a1)) (D.fc 0)) (D.band (D.feq (S24_2 D (D.fite (WO3_4 D a0 a1) (D.fc 0) (D.lf (WO3_6 D a0 a1) (WO3_5 D a0) 2)) (WO3_7 D a0 a1) (WO3_8 D a0 a1)) (D.fc 0)) (D.bc true)))) (D.bc false)) (D.bite (D.zle a1 (D.zc 0)) (D.bc true) (D.bite (D.zlt a1 (D.zc 1)) (D.bc true) (D.band (D.band (D.band (D.zle (D.zc 0) (D.zmul .i64 (D.zc 0) a0)) (D.zle (D.zmul .i64 (D.zc 0) a0) (D.zmul .i64 (D.zc 1) a0))) (D.band (D.zle (D.zmul .i64 (D.zc 1) a0) (D.zmul .i64 (D.zc 1) a0)) (D.zle (D.zmul .i64 (D.zc 1) a0) (D.zmul .i64 a0 a1)))) (WO3_10 D a0 a1)))) (D.bc true))))))))))
theorem ev3 (D : Dom) (a0 : D.Z) (a1 : D.Z) : joinT (evFnH Try.prog (tbl_7 D) (lt_2 D) 80 3 [.si .i64 a0, .si .i64 a1] [] 0) = .val (some (O3 D a0 a1)) (.sb (S3_0 D a0 a1)) := by kernel_rfl
def sp3 : Ev.Spec := fun D l => argZ .i64 l fun a0 r0 => argZ .i64 r0 fun a1 r1 => arg0 r1 (.node (O3 D a0 a1) (.ret (.sb (S3_0 D a0 a1))) (.fail "pre"))
theorem en3 : ∀ l r, (sp3 R l).run = some r → Entry Try.prog 3 l r := by
  intro l r h
  obtain ⟨x0, _, h, L0⟩ := argZ_inv h
  obtain ⟨x1, _, h, L1⟩ := argZ_inv h
  obtain ⟨h, L2⟩ := arg0_inv h
  obtain ⟨hok, rfl⟩ := run_okay h
  exact (entry_loops prg tok_7 hok_2 (ev3 R x0 x1) (fun o ho => (Option.some.inj ho) ▸ hok) rfl).le (L0 _ (L1 _ L2))
def tl_3 : List (Nat × Ev.Spec) := (3, sp3) :: tl_7
def tbl_3 (D : Dom) : Tbl D := tblOf tl_3 D
theorem tok_3 : TblOK Try.prog (tbl_3 R) := TblOK.cons tok_7 en3

-- penumbra/penumbraref05.Add
def S29_0 (D : Dom) (a0 : D.F) (a3 : D.F) : D.F := (D.fadd a0 a3)
def S29_1 (D : Dom) (a1 : D.F) (a4 : D.F) : D.F := (D.fadd a1 a4)
def S29_2 (D : Dom) (a2 : D.F) (a5 : D.F) : D.F := (D.fadd a2 a5)
theorem ev29 (D : Dom) (a0 : D.F) (a1 : D.F) (a2 : D.F) (a3 : D.F) (a4 : D.F) (a5 : D.F) : joinT (evFnH Try.prog (tbl_3 D) (lt_2 D) 80 29 [.agg [.fl a0, .fl a1, .fl a2], .agg [.fl a3, .fl a4, .fl a5]] [] 0) = .val none (.agg [.fl (S29_0 D a0 a3), .fl (S29_1 D a1 a4), .fl (S29_2 D a2 a5)]) := by kernel_rfl
def sp29 : Ev.Spec := fun D l => argA l fun c0 r0 => argF c0 fun a0 r1 => argF r1 fun a1 r2 => argF r2 fun a2 r3 => arg0 r3 (argA r0 fun c100 r100 => argF c100 fun a3 r101 => argF r101 fun a4 r102 => argF r102 fun a5 r103 => arg0 r103 (arg0 r100 (.ret (.agg [.fl (S29_0 D a0 a3), .fl (S29_1 D a1 a4), .fl (S29_2 D a2 a5)]))))
theorem en29 : ∀ l r, (sp29 R l).run = some r → Entry Try.prog 29 l r := by
  intro l r h
  obtain ⟨_, _, h, L0⟩ := argA_inv h
  obtain ⟨x1, _, h, L1⟩ := argF_inv h
  obtain ⟨x2, _, h, L2⟩ := argF_inv h
  obtain ⟨x3, _, h, L3⟩ := argF_inv h
  obtain ⟨h, L4⟩ := arg0_inv h
  obtain ⟨_, _, h, L5⟩ := argA_inv h
  obtain ⟨x6, _, h, L6⟩ := argF_inv h
  obtain ⟨x7, _, h, L7⟩ := argF_inv h
  obtain ⟨x8, _, h, L8⟩ := argF_inv h
  obtain ⟨h, L9⟩ := arg0_inv h
  obtain ⟨h, L10⟩ := arg0_inv h
  cases h
  exact (entry_loops prg tok_3 hok_2 (ev29 R x1 x2 x3 x6 x7 x8) (fun o ho => nomatch ho) rfl).le (L0 _ _ (L1 _ (L2 _ (L3 _ L4))) (L5 _ _ (L6 _ (L7 _ (L8 _ L9))) L10))
def tl_29 : List (Nat × Ev.Spec) := (29, sp29) :: tl_3
def tbl_29 (D : Dom) : Tbl D := tblOf tl_29 D
theorem tok_29 : TblOK Try.prog (tbl_29 R) := TblOK.cons tok_3 en29

-- penumbra/penumbraref02.Number
def S31_0 (D : Dom) (a0 : D.F) : D.B := (D.feq (D.fsub a0 a0) (D.fc 0))
theorem ev31 (D : Dom) (a0 : D.F) : joinT (evFnH Try.prog (tbl_29 D) (lt_2 D) 80 31 [.fl a0] [] 0) = .val none (.sb (S31_0 D a0)) := by kernel_rfl
def sp31 : Ev.Spec := fun D l => argF l fun a0 r0 => arg0 r0 (.ret (.sb (S31_0 D a0)))
theorem en31 : ∀ l r, (sp31 R l).run = some r → Entry Try.prog 31 l r := by
  intro l r h
  obtain ⟨x0, _, h, L0⟩ := argF_inv h
  obtain ⟨h, L1⟩ := arg0_inv h
  cases h
  exact (entry_loops prg tok_29 hok_2 (ev31 R x0) (fun o ho => nomatch ho) rfl).le (L0 _ L1)
def tl_31 : List (Nat × Ev.Spec) := (31, sp31) :: tl_29
def tbl_31 (D : Dom) : Tbl D := tblOf tl_31 D
theorem tok_31 : TblOK Try.prog (tbl_31 R) := TblOK.cons tok_29 en31

-- penumbra/penumbraref05.Good
def S18_0 (D : Dom) (a0 : D.F) (a1 : D.F) (a2 : D.F) : D.B := (D.bite (D.bite (D.bite (D.bite (D.bite (S31_0 D a0) (S31_0 D a1) (D.bc false)) (S31_0 D a2) (D.bc false)) (D.fge a0 (D.fc 0)) (D.bc false)) (D.fge a1 (D.fc 0)) (D.bc false)) (D.fge a2 (D.fc 0)) (D.bc false))
theorem ev18 (D : Dom) (a0 : D.F) (a1 : D.F) (a2 : D.F) : joinT (evFnH Try.prog (tbl_31 D) (lt_2 D) 80 18 [.agg [.fl a0, .fl a1, .fl a2]] [] 0) = .val none (.sb (S18_0 D a0 a1 a2)) := by kernel_rfl
def sp18 : Ev.Spec := fun D l => argA l fun c0 r0 => argF c0 fun a0 r1 => argF r1 fun a1 r2 => argF r2 fun a2 r3 => arg0 r3 (arg0 r0 (.ret (.sb (S18_0 D a0 a1 a2))))
theorem en18 : ∀ l r, (sp18 R l).run = some r → Entry Try.prog 18 l r := by
  intro l r h
  obtain ⟨_, _, h, L0⟩ := argA_inv h
  obtain ⟨x1, _, h, L1⟩ := argF_inv h
  obtain ⟨x2, _, h, L2⟩ := argF_inv h
  obtain ⟨x3, _, h, L3⟩ := argF_inv h
  obtain ⟨h, L4⟩ := arg0_inv h
  obtain ⟨h, L5⟩ := arg0_inv h
  cases h
  exact (entry_loops prg tok_31 hok_2 (ev18 R x1 x2 x3) (fun o ho => nomatch ho) rfl).le (L0 _ _ (L1 _ (L2 _ (L3 _ L4))) L5)
def tl_18 : List (Nat × Ev.Spec) := (18, sp18) :: tl_31
def tbl_18 (D : Dom) : Tbl D := tblOf tl_18 D
theorem tok_18 : TblOK Try.prog (tbl_18 R) := TblOK.cons tok_31 en18

-- penumbra/penumbraref21.Add
def S15_0 (D : Dom) (a0 : D.F) (a1 : D.F) (a2 : D.F) (a5 : D.F) (a6 : D.F) (a7 : D.F) : D.F := (D.fite (D.bite (S18_0 D a5 a6 a7) (S18_0 D (S29_0 D a0 a5) (S29_1 D a1 a6) (S29_2 D a2 a7)) (D.bc false)) (S29_0 D a0 a5) a0)
def S15_1 (D : Dom) (a0 : D.F) (a1 : D.F) (a2 : D.F) (a5 : D.F) (a6 : D.F) (a7 : D.F) : D.F := (D.fite (D.bite (S18_0 D a5 a6 a7) (S18_0 D (S29_0 D a0 a5) (S29_1 D a1 a6) (S29_2 D a2 a7)) (D.bc false)) (S29_1 D a1 a6) a1)
def S15_2 (D : Dom) (a0 : D.F) (a1 : D.F) (a2 : D.F) (a5 : D.F) (a6 : D.F) (a7 : D.F) : D.F := (D.fite (D.bite (S18_0 D a5 a6 a7) (S18_0 D (S29_0 D a0 a5) (S29_1 D a1 a6) (S29_2 D a2 a7)) (D.bc false)) (S29_2 D a2 a7) a2)
def S15_3 (D : Dom) (a0 : D.F) (a1 : D.F) (a2 : D.F) (a3 : D.Z) (a5 : D.F) (a6 : D.F) (a7 : D.F) : D.Z := (D.zite (D.bite (S18_0 D a5 a6 a7) (S18_0 D (S29_0 D a0 a5) (S29_1 D a1 a6) (S29_2 D a2 a7)) (D.bc false)) (D.zadd .i64 a3 (D.zc 1)) a3)
def S15_4 (D : Dom) (a0 : D.F) (a1 : D.F) (a2 : D.F) (a4 : D.Z) (a5 : D.F) (a6 : D.F) (a7 : D.F) : D.Z := (D.zite (D.bite (S18_0 D a5 a6 a7) (S18_0 D (S29_0 D a0 a5) (S29_1 D a1 a6) (S29_2 D a2 a7)) (D.bc false)) a4 (D.zadd .i64 a4 (D.zc 1)))
theorem ev15 (D : Dom) (a0 : D.F) (a1 : D.F) (a2 : D.F) (a3 : D.Z) (a4 : D.Z) (a5 : D.F) (a6 : D.F) (a7 : D.F) : joinT (evFnH Try.prog (tbl_18 D) (lt_2 D) 80 15 [.agg [.fl a0, .fl a1, .fl a2, .si .i64 a3, .si .i64 a4], .agg [.fl a5, .fl a6, .fl a7]] [] 0) = .val none (.agg [.fl (S15_0 D a0 a1 a2 a5 a6 a7), .fl (S15_1 D a0 a1 a2 a5 a6 a7), .fl (S15_2 D a0 a1 a2 a5 a6 a7), .si .i64 (S15_3 D a0 a1 a2 a3 a5 a6 a7), .si .i64 (S15_4 D a0 a1 a2 a4 a5 a6 a7)]) := by kernel_rfl
def sp15 : Ev.Spec := fun D l => argA l fun c0 r0 => argF c0 fun a0 r1 => argF r1 fun a1 r2 => argF r2 fun a2 r3 => argZ .i64 r3 fun a3 r4 => argZ .i64 r4 fun a4 r5 => arg0 r5 (argA r0 fun c100 r100 => argF c100 fun a5 r101 => argF r101 fun a6 r102 => argF r102 fun a7 r103 => arg0 r103 (arg0 r100 (.ret (.agg [.fl (S15_0 D a0 a1 a2 a5 a6 a7), .fl (S15_1 D a0 a1 a2 a5 a6 a7), .fl (S15_2 D a0 a1 a2 a5 a6 a7), .si .i64 (S15_3 D a0 a1 a2 a3 a5 a6 a7), .si .i64 (S15_4 D a0 a1 a2 a4 a5 a6 a7)]))))
theorem en15 : ∀ l r, (sp15 R l).run = some r → Entry Try.prog 15 l r := by
  intro l r h
  obtain ⟨_, _, h, L0⟩ := argA_inv h
  obtain ⟨x1, _, h, L1⟩ := argF_inv h
  obtain ⟨x2, _, h, L2⟩ := argF_inv h
  obtain ⟨x3, _, h, L3⟩ := argF_inv h
  obtain ⟨x4, _, h, L4⟩ := argZ_inv h
  obtain ⟨x5, _, h, L5⟩ := argZ_inv h
  obtain ⟨h, L6⟩ := arg0_inv h
  obtain ⟨_, _, h, L7⟩ := argA_inv h
  obtain ⟨x8, _, h, L8⟩ := argF_inv h
  obtain ⟨x9, _, h, L9⟩ := argF_inv h
  obtain ⟨x10, _, h, L10⟩ := argF_inv h
  obtain ⟨h, L11⟩ := arg0_inv h
  obtain ⟨h, L12⟩ := arg0_inv h
  cases h
  exact (entry_loops prg tok_18 hok_2 (ev15 R x1 x2 x3 x4 x5 x8 x9 x10) (fun o ho => nomatch ho) rfl).le (L0 _ _ (L1 _ (L2 _ (L3 _ (L4 _ (L5 _ L6))))) (L7 _ _ (L8 _ (L9 _ (L10 _ L11))) L12))
def tl_15 : List (Nat × Ev.Spec) := (15, sp15) :: tl_18
def tbl_15 (D : Dom) : Tbl D := tblOf tl_15 D
theorem tok_15 : TblOK Try.prog (tbl_15 R) := TblOK.cons tok_18 en15

-- penumbra/penumbraref05.Scale
def S30_0 (D : Dom) (a0 : D.F) (a3 : D.F) : D.F := (D.fmul a0 a3)
def S30_1 (D : Dom) (a1 : D.F) (a3 : D.F) : D.F := (D.fmul a1 a3)
def S30_2 (D : Dom) (a2 : D.F) (a3 : D.F) : D.F := (D.fmul a2 a3)
theorem ev30 (D : Dom) (a0 : D.F) (a1 : D.F) (a2 : D.F) (a3 : D.F) : joinT (evFnH Try.prog (tbl_15 D) (lt_2 D) 80 30 [.agg [.fl a0, .fl a1, .fl a2], .fl a3] [] 0) = .val none (.agg [.fl (S30_0 D a0 a3), .fl (S30_1 D a1 a3), .fl (S30_2 D a2 a3)]) := by kernel_rfl
def sp30 : Ev.Spec := fun D l => argA l fun c0 r0 => argF c0 fun a0 r1 => argF r1 fun a1 r2 => argF r2 fun a2 r3 => arg0 r3 (argF r0 fun a3 r100 => arg0 r100 (.ret (.agg [.fl (S30_0 D a0 a3), .fl (S30_1 D a1 a3), .fl (S30_2 D a2 a3)])))
theorem en30 : ∀ l r, (sp30 R l).run = some r → Entry Try.prog 30 l r := by
  intro l r h
  obtain ⟨_, _, h, L0⟩ := argA_inv h
  obtain ⟨x1, _, h, L1⟩ := argF_inv h
  obtain ⟨x2, _, h, L2⟩ := argF_inv h
  obtain ⟨x3, _, h, L3⟩ := argF_inv h
  obtain ⟨h, L4⟩ := arg0_inv h
  obtain ⟨x5, _, h, L5⟩ := argF_inv h
  obtain ⟨h, L6⟩ := arg0_inv h
  cases h
  exact (entry_loops prg tok_15 hok_2 (ev30 R x1 x2 x3 x5) (fun o ho => nomatch ho) rfl).le (L0 _ _ (L1 _ (L2 _ (L3 _ L4))) (L5 _ L6))
def tl_30 : List (Nat × Ev.Spec) := (30, sp30) :: tl_15
def tbl_30 (D : Dom) : Tbl D := tblOf tl_30 D
theorem tok_30 : TblOK Try.prog (tbl_30 R) := TblOK.cons tok_15 en30

-- penumbra/penumbraref21.Mean
def S17_0 (D : Dom) (a0 : D.F) (a3 : D.Z) (a4 : D.Z) : D.F := (D.fite (D.zeq (D.zadd .i64 a3 a4) (D.zc 0)) (D.fc 0) (S30_0 D a0 (D.fdiv (D.fc 4607182418800017408) (D.i2f (D.zadd .i64 a3 a4)))))
def S17_1 (D : Dom) (a1 : D.F) (a3 : D.Z) (a4 : D.Z) : D.F := (D.fite (D.zeq (D.zadd .i64 a3 a4) (D.zc 0)) (D.fc 0) (S30_1 D a1 (D.fdiv (D.fc 4607182418800017408) (D.i2f (D.zadd .i64 a3 a4)))))
def S17_2 (D : Dom) (a2 : D.F) (a3 : D.Z) (a4 : D.Z) : D.F := (D.fite (D.zeq (D.zadd .i64 a3 a4) (D.zc 0)) (D.fc 0) (S30_2 D a2 (D.fdiv (D.fc 4607182418800017408) (D.i2f (D.zadd .i64 a3 a4)))))
theorem ev17 (D : Dom) (a0 : D.F) (a1 : D.F) (a2 : D.F) (a3 : D.Z) (a4 : D.Z) : joinT (evFnH Try.prog (tbl_30 D) (lt_2 D) 80 17 [.agg [.fl a0, .fl a1, .fl a2, .si .i64 a3, .si .i64 a4]] [] 0) = .val none (.agg [.fl (S17_0 D a0 a3 a4), .fl (S17_1 D a1 a3 a4), .fl (S17_2 D a2 a3 a4)]) := by kernel_rfl
def sp17 : Ev.Spec := fun D l => argA l fun c0 r0 => argF c0 fun a0 r1 => argF r1 fun a1 r2 => argF r2 fun a2 r3 => argZ .i64 r3 fun a3 r4 => argZ .i64 r4 fun a4 r5 => arg0 r5 (arg0 r0 (.ret (.agg [.fl (S17_0 D a0 a3 a4), .fl (S17_1 D a1 a3 a4), .fl (S17_2 D a2 a3 a4)])))
theorem en17 : ∀ l r, (sp17 R l).run = some r → Entry Try.prog 17 l r := by
  intro l r h
  obtain ⟨_, _, h, L0⟩ := argA_inv h
  obtain ⟨x1, _, h, L1⟩ := argF_inv h
  obtain ⟨x2, _, h, L2⟩ := argF_inv h
  obtain ⟨x3, _, h, L3⟩ := argF_inv h
  obtain ⟨x4, _, h, L4⟩ := argZ_inv h
  obtain ⟨x5, _, h, L5⟩ := argZ_inv h
  obtain ⟨h, L6⟩ := arg0_inv h
  obtain ⟨h, L7⟩ := arg0_inv h
  cases h
  exact (entry_loops prg tok_30 hok_2 (ev17 R x1 x2 x3 x4 x5) (fun o ho => nomatch ho) rfl).le (L0 _ _ (L1 _ (L2 _ (L3 _ (L4 _ (L5 _ L6))))) L7)
def tl_17 : List (Nat × Ev.Spec) := (17, sp17) :: tl_30
def tbl_17 (D : Dom) : Tbl D := tblOf tl_17 D
theorem tok_17 : TblOK Try.prog (tbl_17 R) := TblOK.cons tok_30 en17

-- penumbra/penumbraref02.Same
def S34_0 (D : Dom) (a0 : D.F) (a1 : D.F) : D.B := (D.bite (D.feq a0 a1) (D.bc true) (D.bite (D.bnot (D.feq a0 a0)) (D.bnot (D.feq a1 a1)) (D.bc false)))
theorem ev34 (D : Dom) (a0 : D.F) (a1 : D.F) : joinT (evFnH Try.prog (tbl_17 D) (lt_2 D) 80 34 [.fl a0, .fl a1] [] 0) = .val none (.sb (S34_0 D a0 a1)) := by kernel_rfl
def sp34 : Ev.Spec := fun D l => argF l fun a0 r0 => argF r0 fun a1 r1 => arg0 r1 (.ret (.sb (S34_0 D a0 a1)))
theorem en34 : ∀ l r, (sp34 R l).run = some r → Entry Try.prog 34 l r := by
  intro l r h
  obtain ⟨x0, _, h, L0⟩ := argF_inv h
  obtain ⟨x1, _, h, L1⟩ := argF_inv h
  obtain ⟨h, L2⟩ := arg0_inv h
  cases h
  exact (entry_loops prg tok_17 hok_2 (ev34 R x0 x1) (fun o ho => nomatch ho) rfl).le (L0 _ (L1 _ L2))
def tl_34 : List (Nat × Ev.Spec) := (34, sp34) :: tl_17
def tbl_34 (D : Dom) : Tbl D := tblOf tl_34 D
theorem tok_34 : TblOK Try.prog (tbl_34 R) := TblOK.cons tok_17 en34

-- penumbra/penumbralaw21.FilmNone
def S5_0 (D : Dom)  : D.B := (D.bite (D.bite (D.bite (D.bite (S7_0 D) (D.bc true) (D.bc false)) (D.band (D.feq (D.fc 0) (D.fc 0)) (D.band (D.feq (D.fc 0) (D.fc 0)) (D.band (D.feq (D.fc 0) (D.fc 0)) (D.bc true)))) (D.bc false)) (D.band (D.feq (S24_0 D (D.fc 0) (D.zc 0) (D.zc 0)) (D.fc 0)) (D.band (D.feq (S24_1 D (D.fc 0) (D.zc 0) (D.zc 0)) (D.fc 0)) (D.band (D.feq (S24_2 D (D.fc 0) (D.zc 0) (D.zc 0)) (D.fc 0)) (D.bc true)))) (D.bc false)) (D.bc true) (D.bc false))
def O5 (D : Dom)  : D.B := (O7 D)
theorem ev5 (D : Dom) (a0 : D.Z) (a1 : D.Z) (a2 : D.F) (a3 : D.F) (a4 : D.F) : joinT (evFnH Try.prog (tbl_34 D) (lt_2 D) 80 5 [.si .i64 a0, .si .i64 a1, .agg [.fl a2, .fl a3, .fl a4]] [] 0) = .val (some (O5 D)) (.sb (S5_0 D)) := by kernel_rfl
def sp5 : Ev.Spec := fun D l => argZ .i64 l fun _a0 r0 => argZ .i64 r0 fun _a1 r1 => argA r1 fun c2 r2 => argF c2 fun _a2 r3 => argF r3 fun _a3 r4 => argF r4 fun _a4 r5 => arg0 r5 (arg0 r2 (.node (O5 D) (.ret (.sb (S5_0 D))) (.fail "pre")))
theorem en5 : ∀ l r, (sp5 R l).run = some r → Entry Try.prog 5 l r := by
  intro l r h
  obtain ⟨x0, _, h, L0⟩ := argZ_inv h
  obtain ⟨x1, _, h, L1⟩ := argZ_inv h
  obtain ⟨_, _, h, L2⟩ := argA_inv h
  obtain ⟨x3, _, h, L3⟩ := argF_inv h
  obtain ⟨x4, _, h, L4⟩ := argF_inv h
  obtain ⟨x5, _, h, L5⟩ := argF_inv h
  obtain ⟨h, L6⟩ := arg0_inv h
  obtain ⟨h, L7⟩ := arg0_inv h
  obtain ⟨hok, rfl⟩ := run_okay h
  exact (entry_loops prg tok_34 hok_2 (ev5 R x0 x1 x3 x4 x5) (fun o ho => (Option.some.inj ho) ▸ hok) rfl).le (L0 _ (L1 _ (L2 _ _ (L3 _ (L4 _ (L5 _ L6))) L7)))
def tl_5 : List (Nat × Ev.Spec) := (5, sp5) :: tl_34
def tbl_5 (D : Dom) : Tbl D := tblOf tl_5 D
theorem tok_5 : TblOK Try.prog (tbl_5 R) := TblOK.cons tok_34 en5

end Go.Proofs.Ytmenhajgmjnfkaa
