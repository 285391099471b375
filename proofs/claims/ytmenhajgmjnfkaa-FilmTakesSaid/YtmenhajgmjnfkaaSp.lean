/- The functions of this seat, each with what it comes to, by the evaluator. PRINTED BY A PROGRAM OF THIS PROJECT (wip/ev2/Gen.lean). -/
import Derived.Test.YtmenhajgmjnfkaaEv4
import Derived.Test.YtmenhajgmjnfkaaChecked
namespace Go.Proofs.Ytmenhajgmjnfkaa
open Go.Ev
set_option maxRecDepth 100000

theorem prg : Ev.Prog Try.prog := ⟨by kernel_rfl, by kernel_rfl⟩
def tl_0 : List (Nat × Ev.Spec) := []
def tbl_0 (D : Dom) : Tbl D := tblOf tl_0 D
theorem tok_0 : TblOK Try.prog (tbl_0 R) := (TblOK.nil _)
def js_0 : List (Nat × Nat × HSh) := []
def ll_0 (D : Dom) : List (LE D) := []
def lt_0_0 (D : Dom) : LTb D := ltOf (ll_0 D) js_0
theorem hok_0_0 : HooksOK Try.prog (lt_0_0 R) := HooksOK.nil _

-- penumbra/rgb.Add$1
def S38_0 (D : Dom) (a0 : D.F) (a1 : D.F) : D.F := (D.fadd a0 a1)
theorem ev38 (D : Dom) (a0 : D.F) (a1 : D.F) : joinT (evFnH Try.prog (tbl_0 D) (lt_0_0 D) 80 38 [.fl a0, .fl a1] [] 0) = .val none (.fl (S38_0 D a0 a1)) := by kernel_rfl
def sp38 : Ev.Spec := fun D l => argF l fun a0 r0 => argF r0 fun a1 r1 => arg0 r1 (.ret (.fl (S38_0 D a0 a1)))
theorem en38 : ∀ l r, (sp38 R l).run = some r → Entry Try.prog 38 l r := by
  intro l r h
  obtain ⟨x0, _, h, L0⟩ := argF_inv h
  obtain ⟨x1, _, h, L1⟩ := argF_inv h
  obtain ⟨h, L2⟩ := arg0_inv h
  cases h
  exact (entry_loops prg tok_0 hok_0_0 (ev38 R x0 x1) (fun o ho => nomatch ho) rfl).le (L0 _ (L1 _ L2))
def tl_38 : List (Nat × Ev.Spec) := (38, sp38) :: tl_0
def tbl_38 (D : Dom) : Tbl D := tblOf tl_38 D
theorem tok_38 : TblOK Try.prog (tbl_38 R) := TblOK.cons tok_0 en38

-- penumbra/rgb.Add
def S27_0 (D : Dom) (a0 : D.F) (a3 : D.F) : D.F := (S38_0 D a0 a3)
def S27_1 (D : Dom) (a1 : D.F) (a4 : D.F) : D.F := (S38_0 D a1 a4)
def S27_2 (D : Dom) (a2 : D.F) (a5 : D.F) : D.F := (S38_0 D a2 a5)
theorem ev27 (D : Dom) (a0 : D.F) (a1 : D.F) (a2 : D.F) (a3 : D.F) (a4 : D.F) (a5 : D.F) : joinT (evFnH Try.prog (tbl_38 D) (lt_0_0 D) 80 27 [.agg [.fl a0, .fl a1, .fl a2], .agg [.fl a3, .fl a4, .fl a5]] [] 0) = .val none (.agg [.fl (S27_0 D a0 a3), .fl (S27_1 D a1 a4), .fl (S27_2 D a2 a5)]) := by kernel_rfl
def sp27 : Ev.Spec := fun D l => argA l fun c0 r0 => argF c0 fun a0 r1 => argF r1 fun a1 r2 => argF r2 fun a2 r3 => arg0 r3 (argA r0 fun c100 r100 => argF c100 fun a3 r101 => argF r101 fun a4 r102 => argF r102 fun a5 r103 => arg0 r103 (arg0 r100 (.ret (.agg [.fl (S27_0 D a0 a3), .fl (S27_1 D a1 a4), .fl (S27_2 D a2 a5)]))))
theorem en27 : ∀ l r, (sp27 R l).run = some r → Entry Try.prog 27 l r := by
  intro l r h
  obtain ⟨_, _, h, L0⟩ := argA_inv h
  obtain ⟨x1, _, h, L1⟩ := argF_inv h
  obtain ⟨x2, _, h, L2⟩ := argF_inv h
  obtain ⟨x3, _, h, L3⟩ := argF_inv h
  obtain ⟨h, L4⟩ := arg0_inv h
  obtain ⟨_, _, h, L5⟩ := argA_inv h
  obtain ⟨x6, _, h, L6⟩ := argF_inv h
  obtain ⟨x7, _, h, L7⟩ := argF_inv h
  obtain ⟨x8, _, h, L8⟩ := argF_inv h
  obtain ⟨h, L9⟩ := arg0_inv h
  obtain ⟨h, L10⟩ := arg0_inv h
  cases h
  exact (entry_loops prg tok_38 hok_0_0 (ev27 R x1 x2 x3 x6 x7 x8) (fun o ho => nomatch ho) rfl).le (L0 _ _ (L1 _ (L2 _ (L3 _ L4))) (L5 _ _ (L6 _ (L7 _ (L8 _ L9))) L10))
def tl_27 : List (Nat × Ev.Spec) := (27, sp27) :: tl_38
def tbl_27 (D : Dom) : Tbl D := tblOf tl_27 D
theorem tok_27 : TblOK Try.prog (tbl_27 R) := TblOK.cons tok_38 en27

-- penumbra/vec.Number
def S40_0 (D : Dom) (a0 : D.F) : D.B := (D.bite (D.fge a0 (D.fc 18442240474082181119)) (D.fle a0 (D.fc 9218868437227405311)) (D.bc false))
theorem ev40 (D : Dom) (a0 : D.F) : joinT (evFnH Try.prog (tbl_27 D) (lt_0_0 D) 80 40 [.fl a0] [] 0) = .val none (.sb (S40_0 D a0)) := by kernel_rfl
def sp40 : Ev.Spec := fun D l => argF l fun a0 r0 => arg0 r0 (.ret (.sb (S40_0 D a0)))
theorem en40 : ∀ l r, (sp40 R l).run = some r → Entry Try.prog 40 l r := by
  intro l r h
  obtain ⟨x0, _, h, L0⟩ := argF_inv h
  obtain ⟨h, L1⟩ := arg0_inv h
  cases h
  exact (entry_loops prg tok_27 hok_0_0 (ev40 R x0) (fun o ho => nomatch ho) rfl).le (L0 _ L1)
def tl_40 : List (Nat × Ev.Spec) := (40, sp40) :: tl_27
def tbl_40 (D : Dom) : Tbl D := tblOf tl_40 D
theorem tok_40 : TblOK Try.prog (tbl_40 R) := TblOK.cons tok_27 en40

-- penumbra/rgb.Good$1
def S39_0 (D : Dom) (a0 : D.F) : D.B := (D.bite (D.fge a0 (D.fc 0)) (S40_0 D a0) (D.bc false))
theorem ev39 (D : Dom) (a0 : D.F) : joinT (evFnH Try.prog (tbl_40 D) (lt_0_0 D) 80 39 [.fl a0] [] 0) = .val none (.sb (S39_0 D a0)) := by kernel_rfl
def sp39 : Ev.Spec := fun D l => argF l fun a0 r0 => arg0 r0 (.ret (.sb (S39_0 D a0)))
theorem en39 : ∀ l r, (sp39 R l).run = some r → Entry Try.prog 39 l r := by
  intro l r h
  obtain ⟨x0, _, h, L0⟩ := argF_inv h
  obtain ⟨h, L1⟩ := arg0_inv h
  cases h
  exact (entry_loops prg tok_40 hok_0_0 (ev39 R x0) (fun o ho => nomatch ho) rfl).le (L0 _ L1)
def tl_39 : List (Nat × Ev.Spec) := (39, sp39) :: tl_40
def tbl_39 (D : Dom) : Tbl D := tblOf tl_39 D
theorem tok_39 : TblOK Try.prog (tbl_39 R) := TblOK.cons tok_40 en39

-- penumbra/rgb.Good
def S28_0 (D : Dom) (a0 : D.F) (a1 : D.F) (a2 : D.F) : D.B := (D.bite (D.bite (S39_0 D a0) (S39_0 D a1) (D.bc false)) (S39_0 D a2) (D.bc false))
theorem ev28 (D : Dom) (a0 : D.F) (a1 : D.F) (a2 : D.F) : joinT (evFnH Try.prog (tbl_39 D) (lt_0_0 D) 80 28 [.agg [.fl a0, .fl a1, .fl a2]] [] 0) = .val none (.sb (S28_0 D a0 a1 a2)) := by kernel_rfl
def sp28 : Ev.Spec := fun D l => argA l fun c0 r0 => argF c0 fun a0 r1 => argF r1 fun a1 r2 => argF r2 fun a2 r3 => arg0 r3 (arg0 r0 (.ret (.sb (S28_0 D a0 a1 a2))))
theorem en28 : ∀ l r, (sp28 R l).run = some r → Entry Try.prog 28 l r := by
  intro l r h
  obtain ⟨_, _, h, L0⟩ := argA_inv h
  obtain ⟨x1, _, h, L1⟩ := argF_inv h
  obtain ⟨x2, _, h, L2⟩ := argF_inv h
  obtain ⟨x3, _, h, L3⟩ := argF_inv h
  obtain ⟨h, L4⟩ := arg0_inv h
  obtain ⟨h, L5⟩ := arg0_inv h
  cases h
  exact (entry_loops prg tok_39 hok_0_0 (ev28 R x1 x2 x3) (fun o ho => nomatch ho) rfl).le (L0 _ _ (L1 _ (L2 _ (L3 _ L4))) L5)
def tl_28 : List (Nat × Ev.Spec) := (28, sp28) :: tl_39
def tbl_28 (D : Dom) : Tbl D := tblOf tl_28 D
theorem tok_28 : TblOK Try.prog (tbl_28 R) := TblOK.cons tok_39 en28

-- penumbra/rgb.Gray
def S42_0 (D : Dom) (a0 : D.F) : D.F := a0
def S42_1 (D : Dom) (a0 : D.F) : D.F := a0
def S42_2 (D : Dom) (a0 : D.F) : D.F := a0
theorem ev42 (D : Dom) (a0 : D.F) : joinT (evFnH Try.prog (tbl_28 D) (lt_0_0 D) 80 42 [.fl a0] [] 0) = .val none (.agg [.fl (S42_0 D a0), .fl (S42_1 D a0), .fl (S42_2 D a0)]) := by kernel_rfl
def sp42 : Ev.Spec := fun D l => argF l fun a0 r0 => arg0 r0 (.ret (.agg [.fl (S42_0 D a0), .fl (S42_1 D a0), .fl (S42_2 D a0)]))
theorem en42 : ∀ l r, (sp42 R l).run = some r → Entry Try.prog 42 l r := by
  intro l r h
  obtain ⟨x0, _, h, L0⟩ := argF_inv h
  obtain ⟨h, L1⟩ := arg0_inv h
  cases h
  exact (entry_loops prg tok_28 hok_0_0 (ev42 R x0) (fun o ho => nomatch ho) rfl).le (L0 _ L1)
def tl_42 : List (Nat × Ev.Spec) := (42, sp42) :: tl_28
def tbl_42 (D : Dom) : Tbl D := tblOf tl_42 D
theorem tok_42 : TblOK Try.prog (tbl_42 R) := TblOK.cons tok_28 en42

-- penumbra/rgb.Mul$1
def S43_0 (D : Dom) (a0 : D.F) (a1 : D.F) : D.F := (D.fmul a0 a1)
theorem ev43 (D : Dom) (a0 : D.F) (a1 : D.F) : joinT (evFnH Try.prog (tbl_42 D) (lt_0_0 D) 80 43 [.fl a0, .fl a1] [] 0) = .val none (.fl (S43_0 D a0 a1)) := by kernel_rfl
def sp43 : Ev.Spec := fun D l => argF l fun a0 r0 => argF r0 fun a1 r1 => arg0 r1 (.ret (.fl (S43_0 D a0 a1)))
theorem en43 : ∀ l r, (sp43 R l).run = some r → Entry Try.prog 43 l r := by
  intro l r h
  obtain ⟨x0, _, h, L0⟩ := argF_inv h
  obtain ⟨x1, _, h, L1⟩ := argF_inv h
  obtain ⟨h, L2⟩ := arg0_inv h
  cases h
  exact (entry_loops prg tok_42 hok_0_0 (ev43 R x0 x1) (fun o ho => nomatch ho) rfl).le (L0 _ (L1 _ L2))
def tl_43 : List (Nat × Ev.Spec) := (43, sp43) :: tl_42
def tbl_43 (D : Dom) : Tbl D := tblOf tl_43 D
theorem tok_43 : TblOK Try.prog (tbl_43 R) := TblOK.cons tok_42 en43

-- penumbra/rgb.Mul
def S41_0 (D : Dom) (a0 : D.F) (a3 : D.F) : D.F := (S43_0 D a0 a3)
def S41_1 (D : Dom) (a1 : D.F) (a4 : D.F) : D.F := (S43_0 D a1 a4)
def S41_2 (D : Dom) (a2 : D.F) (a5 : D.F) : D.F := (S43_0 D a2 a5)
theorem ev41 (D : Dom) (a0 : D.F) (a1 : D.F) (a2 : D.F) (a3 : D.F) (a4 : D.F) (a5 : D.F) : joinT (evFnH Try.prog (tbl_43 D) (lt_0_0 D) 80 41 [.agg [.fl a0, .fl a1, .fl a2], .agg [.fl a3, .fl a4, .fl a5]] [] 0) = .val none (.agg [.fl (S41_0 D a0 a3), .fl (S41_1 D a1 a4), .fl (S41_2 D a2 a5)]) := by kernel_rfl
def sp41 : Ev.Spec := fun D l => argA l fun c0 r0 => argF c0 fun a0 r1 => argF r1 fun a1 r2 => argF r2 fun a2 r3 => arg0 r3 (argA r0 fun c100 r100 => argF c100 fun a3 r101 => argF r101 fun a4 r102 => argF r102 fun a5 r103 => arg0 r103 (arg0 r100 (.ret (.agg [.fl (S41_0 D a0 a3), .fl (S41_1 D a1 a4), .fl (S41_2 D a2 a5)]))))
theorem en41 : ∀ l r, (sp41 R l).run = some r → Entry Try.prog 41 l r := by
  intro l r h
  obtain ⟨_, _, h, L0⟩ := argA_inv h
  obtain ⟨x1, _, h, L1⟩ := argF_inv h
  obtain ⟨x2, _, h, L2⟩ := argF_inv h
  obtain ⟨x3, _, h, L3⟩ := argF_inv h
  obtain ⟨h, L4⟩ := arg0_inv h
  obtain ⟨_, _, h, L5⟩ := argA_inv h
  obtain ⟨x6, _, h, L6⟩ := argF_inv h
  obtain ⟨x7, _, h, L7⟩ := argF_inv h
  obtain ⟨x8, _, h, L8⟩ := argF_inv h
  obtain ⟨h, L9⟩ := arg0_inv h
  obtain ⟨h, L10⟩ := arg0_inv h
  cases h
  exact (entry_loops prg tok_43 hok_0_0 (ev41 R x1 x2 x3 x6 x7 x8) (fun o ho => nomatch ho) rfl).le (L0 _ _ (L1 _ (L2 _ (L3 _ L4))) (L5 _ _ (L6 _ (L7 _ (L8 _ L9))) L10))
def tl_41 : List (Nat × Ev.Spec) := (41, sp41) :: tl_43
def tbl_41 (D : Dom) : Tbl D := tblOf tl_41 D
theorem tok_41 : TblOK Try.prog (tbl_41 R) := TblOK.cons tok_43 en41

-- penumbra/rgb.Scale
def S35_0 (D : Dom) (a0 : D.F) (a3 : D.F) : D.F := (S41_0 D a0 (S42_0 D a3))
def S35_1 (D : Dom) (a1 : D.F) (a3 : D.F) : D.F := (S41_1 D a1 (S42_1 D a3))
def S35_2 (D : Dom) (a2 : D.F) (a3 : D.F) : D.F := (S41_2 D a2 (S42_2 D a3))
theorem ev35 (D : Dom) (a0 : D.F) (a1 : D.F) (a2 : D.F) (a3 : D.F) : joinT (evFnH Try.prog (tbl_41 D) (lt_0_0 D) 80 35 [.agg [.fl a0, .fl a1, .fl a2], .fl a3] [] 0) = .val none (.agg [.fl (S35_0 D a0 a3), .fl (S35_1 D a1 a3), .fl (S35_2 D a2 a3)]) := by kernel_rfl
def sp35 : Ev.Spec := fun D l => argA l fun c0 r0 => argF c0 fun a0 r1 => argF r1 fun a1 r2 => argF r2 fun a2 r3 => arg0 r3 (argF r0 fun a3 r100 => arg0 r100 (.ret (.agg [.fl (S35_0 D a0 a3), .fl (S35_1 D a1 a3), .fl (S35_2 D a2 a3)])))
theorem en35 : ∀ l r, (sp35 R l).run = some r → Entry Try.prog 35 l r := by
  intro l r h
  obtain ⟨_, _, h, L0⟩ := argA_inv h
  obtain ⟨x1, _, h, L1⟩ := argF_inv h
  obtain ⟨x2, _, h, L2⟩ := argF_inv h
  obtain ⟨x3, _, h, L3⟩ := argF_inv h
  obtain ⟨h, L4⟩ := arg0_inv h
  obtain ⟨x5, _, h, L5⟩ := argF_inv h
  obtain ⟨h, L6⟩ := arg0_inv h
  cases h
  exact (entry_loops prg tok_41 hok_0_0 (ev35 R x1 x2 x3 x5) (fun o ho => nomatch ho) rfl).le (L0 _ _ (L1 _ (L2 _ (L3 _ L4))) (L5 _ L6))
def tl_35 : List (Nat × Ev.Spec) := (35, sp35) :: tl_41
def tbl_35 (D : Dom) : Tbl D := tblOf tl_35 D
theorem tok_35 : TblOK Try.prog (tbl_35 R) := TblOK.cons tok_41 en35

-- (penumbra/film.pixel).mean
def S24_0 (D : Dom) (a0 : D.F) (a3 : D.Z) (a4 : D.Z) : D.F := (D.fite (D.zeq (D.zadd .i64 a3 a4) (D.zc 0)) (D.fc 0) (S35_0 D a0 (D.fdiv (D.fc 4607182418800017408) (D.i2f (D.zadd .i64 a3 a4)))))
def S24_1 (D : Dom) (a1 : D.F) (a3 : D.Z) (a4 : D.Z) : D.F := (D.fite (D.zeq (D.zadd .i64 a3 a4) (D.zc 0)) (D.fc 0) (S35_1 D a1 (D.fdiv (D.fc 4607182418800017408) (D.i2f (D.zadd .i64 a3 a4)))))
def S24_2 (D : Dom) (a2 : D.F) (a3 : D.Z) (a4 : D.Z) : D.F := (D.fite (D.zeq (D.zadd .i64 a3 a4) (D.zc 0)) (D.fc 0) (S35_2 D a2 (D.fdiv (D.fc 4607182418800017408) (D.i2f (D.zadd .i64 a3 a4)))))
theorem ev24 (D : Dom) (a0 : D.F) (a1 : D.F) (a2 : D.F) (a3 : D.Z) (a4 : D.Z) : joinT (evFnH Try.prog (tbl_35 D) (lt_0_0 D) 80 24 [.agg [.fl a0, .fl a1, .fl a2, .si .i64 a3, .si .i64 a4]] [] 0) = .val none (.agg [.fl (S24_0 D a0 a3 a4), .fl (S24_1 D a1 a3 a4), .fl (S24_2 D a2 a3 a4)]) := by kernel_rfl
def sp24 : Ev.Spec := fun D l => argA l fun c0 r0 => argF c0 fun a0 r1 => argF r1 fun a1 r2 => argF r2 fun a2 r3 => argZ .i64 r3 fun a3 r4 => argZ .i64 r4 fun a4 r5 => arg0 r5 (arg0 r0 (.ret (.agg [.fl (S24_0 D a0 a3 a4), .fl (S24_1 D a1 a3 a4), .fl (S24_2 D a2 a3 a4)])))
theorem en24 : ∀ l r, (sp24 R l).run = some r → Entry Try.prog 24 l r := by
  intro l r h
  obtain ⟨_, _, h, L0⟩ := argA_inv h
  obtain ⟨x1, _, h, L1⟩ := argF_inv h
  obtain ⟨x2, _, h, L2⟩ := argF_inv h
  obtain ⟨x3, _, h, L3⟩ := argF_inv h
  obtain ⟨x4, _, h, L4⟩ := argZ_inv h
  obtain ⟨x5, _, h, L5⟩ := argZ_inv h
  obtain ⟨h, L6⟩ := arg0_inv h
  obtain ⟨h, L7⟩ := arg0_inv h
  cases h
  exact (entry_loops prg tok_35 hok_0_0 (ev24 R x1 x2 x3 x4 x5) (fun o ho => nomatch ho) rfl).le (L0 _ _ (L1 _ (L2 _ (L3 _ (L4 _ (L5 _ L6))))) L7)
def tl_24 : List (Nat × Ev.Spec) := (24, sp24) :: tl_35
def tbl_24 (D : Dom) : Tbl D := tblOf tl_24 D
theorem tok_24 : TblOK Try.prog (tbl_24 R) := TblOK.cons tok_35 en24

-- loop 0
def C0 (D : Dom) (a2 : D.Z) (a5 : D.Z) : D.B := (D.zlt a5 a2)
def O0_ (D : Dom) (a0 : D.Z) (a1 : D.Z) (a2 : D.Z) (a3 : D.L) (a4 : D.L) (a5 : D.Z) : D.B := (D.bite (D.zlt a5 a2) (D.band (D.band (D.zle (D.zc 0) a5) (D.zlt a5 a1)) (D.zle (D.llen (D.lapp a4 [[.f (S24_0 D (D.lf a3 (D.zadd .i64 a0 a5) 0) (D.lz a3 (D.zadd .i64 a0 a5) 3) (D.lz a3 (D.zadd .i64 a0 a5) 4))], [.f (S24_1 D (D.lf a3 (D.zadd .i64 a0 a5) 1) (D.lz a3 (D.zadd .i64 a0 a5) 3) (D.lz a3 (D.zadd .i64 a0 a5) 4))], [.f (S24_2 D (D.lf a3 (D.zadd .i64 a0 a5) 2) (D.lz a3 (D.zadd .i64 a0 a5) 3) (D.lz a3 (D.zadd .i64 a0 a5) 4))]])) (D.zc 1073741824))) (D.bc true))
def N0_0 (D : Dom) (a0 : D.Z) (a3 : D.L) (a4 : D.L) (a5 : D.Z) : D.L := (D.lapp a4 [[.f (S24_0 D (D.lf a3 (D.zadd .i64 a0 a5) 0) (D.lz a3 (D.zadd .i64 a0 a5) 3) (D.lz a3 (D.zadd .i64 a0 a5) 4))], [.f (S24_1 D (D.lf a3 (D.zadd .i64 a0 a5) 1) (D.lz a3 (D.zadd .i64 a0 a5) 3) (D.lz a3 (D.zadd .i64 a0 a5) 4))], [.f (S24_2 D (D.lf a3 (D.zadd .i64 a0 a5) 2) (D.lz a3 (D.zadd .i64 a0 a5) 3) (D.lz a3 (D.zadd .i64 a0 a5) 4))]])
def N0_1 (D : Dom) (a5 : D.Z) : D.Z := (D.zadd .i64 a5 (D.zc 1))
def G0 (D : Dom) (a0 : D.Z) (a1 : D.Z) (a2 : D.Z) (a3 : D.L) (p : List (PD D)) : D.B × D.B × List (PD D) := (C0 D a2 (nthZ p 1), O0_ D a0 a1 a2 a3 (nthL p 0) (nthZ p 1), [.l (N0_0 D a0 a3 (nthL p 0) (nthZ p 1)), .z (N0_1 D (nthZ p 1))])
def L0 (D : Dom) (a0 : D.Z) (a1 : D.Z) (a2 : D.Z) (a3 : D.L) (a4 : D.L) (a5 : D.Z) : List (PD D) := D.last (G0 D a0 a1 a2 a3) [.l a4, .z a5]
def E0 (D : Dom) (a0 : D.Z) (a1 : D.Z) (a2 : D.Z) (a3 : D.L) (a4 : D.L) (a5 : D.Z) : D.B := D.ends (G0 D a0 a1 a2 a3) [.l a4, .z a5]
def sh_0 : HSh := ⟨10, 16, [.env (.ptr 1 0), .env (.ki .i64 0), .env (.ki .i64 1), .env (.clo 36 [] [.ptr 9 0]), .env (.undef), .env (.undef), .env (.undef), .env (.undef), .env (.undef), .drop, .env (.ptr 1 0), .env (.kb false), .env (.kb false), .env (.ki .i64 0), .env (.kb false), .env (.kb false), .env (.kb false), .env (.ki .i64 1), .env (.ptr 1 0), .env (.ptr 1 0), .env (.ptr 1 1), .env (.ki .i64 1), .env (.kb false), .env (.kb false), .env (.ptr 1 0), .env (.ptr 1 0), .env (.ptr 1 2), .env (.sslice 0 .whole none () 5), .env (.ki .i64 0), .env (.ptr 1 0), .env (.ptr 1 0), .env (.ptr 1 0), .env (.ki .i64 2), .env (.ki .i64 0), .env (.ki .i64 1), .env (.ptr 1 0), .env (.ptr 1 0), .env (.ptr 1 0), .env (.ki .i64 2), .env (.ki .i64 2), .env (.ki .i64 1), .env (.ptr 1 0), .env (.ptr 1 0), .env (.ptr 1 0), .env (.ki .i64 2), .env (.ki .i64 2), .env (.sslice 0 .part (some ()) () 5), .env (.si .i64 ()), .var (.si .i64 ()), .drop, .drop, .drop, .drop, .drop, .drop, .drop], [(9, .cells [.slot [.f] 1])], [(1, [.ki .i64 2, .ki .i64 1, .sslice 0 .whole none () 5]), (0, [.row false [.f, .f, .f, .z .i64, .z .i64] ()])], []⟩
def st_0 (D : Dom) (env p : List (PD D)) : D.B × D.B × List (PD D) := G0 D (nthZ env 1) (nthZ env 2) (nthZ env 3) (nthL env 5) p
theorem rd_0 (D : Dom) (env vars : List (PD D)) (ctx : List (AV D)) : (sh_0.round (sh_0.st env vars ctx).h.length (evCodeH Try.prog (tbl_24 D) (lt_0_0 D) 80 32 (loopB Try.prog 32 0) (sh_0.st env vars ctx))).map Nr.step = some (st_0 D env vars) := by kernel_rfl
noncomputable def ll_1 (D : Dom) : List (LE D) := ⟨32, 0, sh_0, st_0 D, fun s => evCodeH Try.prog (tbl_24 D) (lt_0_0 D) 80 32 (loopB Try.prog 32 0) s⟩ :: ll_0 D
noncomputable def lt_1_0 (D : Dom) : LTb D := ltOf (ll_1 D) js_0
theorem hok_1_0 : HooksOK Try.prog (lt_1_0 R) := HooksOK.cons prg tok_24 hok_0_0 (by kernel_rfl) (by kernel_rfl) (rd_0 R)

-- penumbra/penumbralaw21.awake
def WS7_0_0 (D : Dom)  : D.L := (D.lrep (D.zc 2) [.f (D.fc 0), .f (D.fc 0), .f (D.fc 0), .z (D.zc 0), .z (D.zc 0)])
def WS7_0_1 (D : Dom)  : D.F := (S27_0 D (D.lf (WS7_0_0 D) (D.zc 1) 0) (D.fc 4607182418800017408))
def WS7_0_2 (D : Dom)  : D.F := (S27_1 D (D.lf (WS7_0_0 D) (D.zc 1) 1) (D.fc 0))
def WS7_0_3 (D : Dom)  : D.F := (S27_2 D (D.lf (WS7_0_0 D) (D.zc 1) 2) (D.fc 0))
def WS7_0_4 (D : Dom)  : D.L := (D.lput (WS7_0_0 D) (D.zc 1) 0 [.f (WS7_0_1 D), .f (WS7_0_2 D), .f (WS7_0_3 D)])
def WS7_0_5 (D : Dom)  : D.L := (D.lite (D.bite (S28_0 D (D.fc 4607182418800017408) (D.fc 0) (D.fc 0)) (S28_0 D (WS7_0_1 D) (WS7_0_2 D) (WS7_0_3 D)) (D.bc false)) (D.lput (WS7_0_4 D) (D.zc 1) 3 [.z (D.zadd .i64 (D.lz (WS7_0_4 D) (D.zc 1) 3) (D.zc 1))]) (D.lput (WS7_0_0 D) (D.zc 1) 4 [.z (D.zadd .i64 (D.lz (WS7_0_0 D) (D.zc 1) 4) (D.zc 1))]))
def WS7_0_6 (D : Dom)  : D.F := (S27_0 D (D.lf (WS7_0_5 D) (D.zc 1) 0) (D.fc 4613937818241073152))
def WS7_0_7 (D : Dom)  : D.F := (S27_1 D (D.lf (WS7_0_5 D) (D.zc 1) 1) (D.fc 0))
def WS7_0_8 (D : Dom)  : D.F := (S27_2 D (D.lf (WS7_0_5 D) (D.zc 1) 2) (D.fc 0))
def WS7_0_9 (D : Dom)  : D.L := (D.lput (WS7_0_5 D) (D.zc 1) 0 [.f (WS7_0_6 D), .f (WS7_0_7 D), .f (WS7_0_8 D)])
def WS7_0_10 (D : Dom)  : D.L := (D.lite (D.bite (S28_0 D (D.fc 4613937818241073152) (D.fc 0) (D.fc 0)) (S28_0 D (WS7_0_6 D) (WS7_0_7 D) (WS7_0_8 D)) (D.bc false)) (D.lput (WS7_0_9 D) (D.zc 1) 3 [.z (D.zadd .i64 (D.lz (WS7_0_9 D) (D.zc 1) 3) (D.zc 1))]) (D.lput (WS7_0_5 D) (D.zc 1) 4 [.z (D.zadd .i64 (D.lz (WS7_0_5 D) (D.zc 1) 4) (D.zc 1))]))
def WS7_0_11 (D : Dom)  : D.F := (S27_0 D (D.lf (WS7_0_10 D) (D.zc 1) 0) (D.fc 13830554455654793216))
def WS7_0_12 (D : Dom)  : D.F := (S27_1 D (D.lf (WS7_0_10 D) (D.zc 1) 1) (D.fc 0))
def WS7_0_13 (D : Dom)  : D.F := (S27_2 D (D.lf (WS7_0_10 D) (D.zc 1) 2) (D.fc 0))
def WS7_0_14 (D : Dom)  : D.L := (D.lput (WS7_0_10 D) (D.zc 1) 0 [.f (WS7_0_11 D), .f (WS7_0_12 D), .f (WS7_0_13 D)])
def WS7_0_15 (D : Dom)  : D.L := (D.lite (D.bite (S28_0 D (D.fc 13830554455654793216) (D.fc 0) (D.fc 0)) (S28_0 D (WS7_0_11 D) (WS7_0_12 D) (WS7_0_13 D)) (D.bc false)) (D.lput (WS7_0_14 D) (D.zc 1) 3 [.z (D.zadd .i64 (D.lz (WS7_0_14 D) (D.zc 1) 3) (D.zc 1))]) (D.lput (WS7_0_10 D) (D.zc 1) 4 [.z (D.zadd .i64 (D.lz (WS7_0_10 D) (D.zc 1) 4) (D.zc 1))]))
def WS7_0_16 (D : Dom)  : List (PD D) := (L0 D (D.zc 0) (D.zsub .i64 (D.zc 2) (D.zc 0)) (D.zsub .i64 (D.zc 2) (D.zc 0)) (WS7_0_15 D) D.lnil (D.zc 0))
def S7_0 (D : Dom) : D.B := (D.bite (D.bite (D.bite (D.bite (D.bite (D.feq (D.lf (WS7_0_15 D) (D.zc 1) 0) (D.fc 4616189618054758400)) (D.zeq (D.lz (WS7_0_15 D) (D.zc 1) 4) (D.zc 1)) (D.bc false)) (D.zeq (D.lz (WS7_0_15 D) (D.zc 1) 3) (D.zc 2)) (D.bc false)) (D.zeq (D.llen (nthL (WS7_0_16 D) 0)) (D.zc 6)) (D.bc false)) (D.fgt (D.lf (nthL (WS7_0_16 D) 0) (D.zc 3) 0) (D.fc 4608668606677049672)) (D.bc false)) (D.flt (D.lf (nthL (WS7_0_16 D) 0) (D.zc 3) 0) (D.fc 4608713642673323377)) (D.bc false))
def WO7_0 (D : Dom)  : D.B := (D.band (D.zle (D.zc 0) (D.zc 1)) (D.zlt (D.zc 1) (D.zc 2)))
def WO7_1 (D : Dom)  : D.L := (D.lrep (D.zc 2) [.f (D.fc 0), .f (D.fc 0), .f (D.fc 0), .z (D.zc 0), .z (D.zc 0)])
def WO7_2 (D : Dom)  : D.F := (S27_0 D (D.lf (WO7_1 D) (D.zc 1) 0) (D.fc 4607182418800017408))
def WO7_3 (D : Dom)  : D.F := (S27_1 D (D.lf (WO7_1 D) (D.zc 1) 1) (D.fc 0))
def WO7_4 (D : Dom)  : D.F := (S27_2 D (D.lf (WO7_1 D) (D.zc 1) 2) (D.fc 0))
def WO7_5 (D : Dom)  : D.L := (D.lput (WO7_1 D) (D.zc 1) 0 [.f (WO7_2 D), .f (WO7_3 D), .f (WO7_4 D)])
def WO7_6 (D : Dom)  : D.L := (D.lite (D.bite (S28_0 D (D.fc 4607182418800017408) (D.fc 0) (D.fc 0)) (S28_0 D (WO7_2 D) (WO7_3 D) (WO7_4 D)) (D.bc false)) (D.lput (WO7_5 D) (D.zc 1) 3 [.z (D.zadd .i64 (D.lz (WO7_5 D) (D.zc 1) 3) (D.zc 1))]) (D.lput (WO7_1 D) (D.zc 1) 4 [.z (D.zadd .i64 (D.lz (WO7_1 D) (D.zc 1) 4) (D.zc 1))]))
def WO7_7 (D : Dom)  : D.F := (S27_0 D (D.lf (WO7_6 D) (D.zc 1) 0) (D.fc 4613937818241073152))
def WO7_8 (D : Dom)  : D.F := (S27_1 D (D.lf (WO7_6 D) (D.zc 1) 1) (D.fc 0))
def WO7_9 (D : Dom)  : D.F := (S27_2 D (D.lf (WO7_6 D) (D.zc 1) 2) (D.fc 0))
def WO7_10 (D : Dom)  : D.L := (D.lput (WO7_6 D) (D.zc 1) 0 [.f (WO7_7 D), .f (WO7_8 D), .f (WO7_9 D)])
def WO7_11 (D : Dom)  : D.L := (D.lite (D.bite (S28_0 D (D.fc 4613937818241073152) (D.fc 0) (D.fc 0)) (S28_0 D (WO7_7 D) (WO7_8 D) (WO7_9 D)) (D.bc false)) (D.lput (WO7_10 D) (D.zc 1) 3 [.z (D.zadd .i64 (D.lz (WO7_10 D) (D.zc 1) 3) (D.zc 1))]) (D.lput (WO7_6 D) (D.zc 1) 4 [.z (D.zadd .i64 (D.lz (WO7_6 D) (D.zc 1) 4) (D.zc 1))]))
def WO7_12 (D : Dom)  : D.F := (S27_0 D (D.lf (WO7_11 D) (D.zc 1) 0) (D.fc 13830554455654793216))
def WO7_13 (D : Dom)  : D.F := (S27_1 D (D.lf (WO7_11 D) (D.zc 1) 1) (D.fc 0))
def WO7_14 (D : Dom)  : D.F := (S27_2 D (D.lf (WO7_11 D) (D.zc 1) 2) (D.fc 0))
def WO7_15 (D : Dom)  : D.L := (D.lput (WO7_11 D) (D.zc 1) 0 [.f (WO7_12 D), .f (WO7_13 D), .f (WO7_14 D)])
def WO7_16 (D : Dom)  : D.L := (D.lite (D.bite (S28_0 D (D.fc 13830554455654793216) (D.fc 0) (D.fc 0)) (S28_0 D (WO7_12 D) (WO7_13 D) (WO7_14 D)) (D.bc false)) (D.lput (WO7_15 D) (D.zc 1) 3 [.z (D.zadd .i64 (D.lz (WO7_15 D) (D.zc 1) 3) (D.zc 1))]) (D.lput (WO7_11 D) (D.zc 1) 4 [.z (D.zadd .i64 (D.lz (WO7_11 D) (D.zc 1) 4) (D.zc 1))]))
def WO7_17 (D : Dom)  : D.B := (E0 D (D.zc 0) (D.zsub .i64 (D.zc 2) (D.zc 0)) (D.zsub .i64 (D.zc 2) (D.zc 0)) (WO7_16 D) D.lnil (D.zc 0))
def WO7_18 (D : Dom)  : D.B := (D.feq (D.lf (WO7_16 D) (D.zc 1) 0) (D.fc 4616189618054758400))
def WO7_19 (D : Dom)  : D.B := (D.bite (WO7_18 D) (D.zeq (D.lz (WO7_16 D) (D.zc 1) 4) (D.zc 1)) (D.bc false))
def WO7_20 (D : Dom)  : List (PD D) := (L0 D (D.zc 0) (D.zsub .i64 (D.zc 2) (D.zc 0)) (D.zsub .i64 (D.zc 2) (D.zc 0)) (WO7_16 D) D.lnil (D.zc 0))
def WO7_21 (D : Dom)  : D.B := (D.bite (D.bite (WO7_19 D) (D.zeq (D.lz (WO7_16 D) (D.zc 1) 3) (D.zc 2)) (D.bc false)) (D.zeq (D.llen (nthL (WO7_20 D) 0)) (D.zc 6)) (D.bc false))
def WO7_22 (D : Dom)  : D.B := (D.band (D.zle (D.zc 0) (D.zc 3)) (D.zlt (D.zc 3) (D.llen (nthL (WO7_20 D) 0))))
def O7 (D : Dom) : D.B := (D.band (D.band (D.zle (D.zc 0) (D.zc 2)) (D.zle (D.zc 2) (D.zc 1073741824))) (D.band (WO7_0 D) (D.band (WO7_0 D) (D.band (WO7_0 D) (D.band (D.band (D.band (D.band (D.zle (D.zc 0) (D.zc 0)) (D.zle (D.zc 0) (D.zc 2))) (D.band (D.zle (D.zc 2) (D.zc 2)) (D.zle (D.zc 2) (D.zc 2)))) (WO7_17 D)) (D.band (WO7_0 D) (D.band (D.bite (WO7_18 D) (WO7_0 D) (D.bc true)) (D.band (D.bite (WO7_19 D) (WO7_0 D) (D.bc true)) (D.band (D.bite (WO7_21 D) (WO7_22 D) (D.bc true)) (D.bite (D.bite (WO7_21 D) (D.fgt (D.lf (nthL (WO7_20 D) 0) (D.zc 3) 0) (D.fc 4608668606677049672)) (D.bc false)) (WO7_22 D) (D.bc true)))))))))))
theorem ev7 (D : Dom)  : joinT (evFnH Try.prog (tbl_24 D) (lt_1_0 D) 80 7 [] [] 0) = .val (some (O7 D)) (.sb (S7_0 D)) := by kernel_rfl
def sp7 : Ev.Spec := fun D l => arg0 l (.node (O7 D) (.ret (.sb (S7_0 D))) (.fail "pre"))
theorem en7 : ∀ l r, (sp7 R l).run = some r → Entry Try.prog 7 l r := by
  intro l r h
  obtain ⟨h, L0⟩ := arg0_inv h
  obtain ⟨hok, rfl⟩ := run_okay h
  exact (entry_loops prg tok_24 hok_1_0 (ev7 R ) (fun o ho => (Option.some.inj ho) ▸ hok) rfl).le L0
def tl_7 : List (Nat × Ev.Spec) := (7, sp7) :: tl_24
def tbl_7 (D : Dom) : Tbl D := tblOf tl_7 D
theorem tok_7 : TblOK Try.prog (tbl_7 R) := TblOK.cons tok_24 en7
def js_1 : List (Nat × Nat × HSh) := js_0 ++ [(23, 2000000, ⟨3, 4, [.var (.agg [.fl (), .fl (), .fl (), .si .i64 (), .si .i64 ()])], [], [], []⟩)]
noncomputable def lt_1_1 (D : Dom) : LTb D := ltOf (ll_1 D) js_1
theorem hok_1_1 : HooksOK Try.prog (lt_1_1 R) := hok_1_0.jt
def sh_1 : HSh := ⟨5, 11, [.env (.ptr 1 0), .env (.ki .i64 0), .env (.ki .i64 1), .env (.clo 36 [] [.ptr 4 0]), .env (.undef), .env (.undef), .env (.undef), .env (.undef), .env (.undef), .drop, .env (.ptr 1 0), .env (.kb false), .env (.kb false), .env (.ki .i64 0), .env (.kb false), .env (.kb false), .env (.kb false), .env (.ki .i64 1), .env (.ptr 1 0), .env (.ptr 1 0), .env (.ptr 1 1), .env (.si .i64 ()), .env (.sb ()), .env (.sb ()), .env (.ptr 1 0), .env (.ptr 1 0), .env (.ptr 1 2), .env (.sslice 0 .whole none () 5), .env (.ki .i64 0), .env (.ptr 1 0), .env (.ptr 1 0), .env (.ptr 1 0), .env (.si .i64 ()), .env (.si .i64 ()), .env (.ki .i64 1), .env (.ptr 1 0), .env (.ptr 1 0), .env (.ptr 1 0), .env (.si .i64 ()), .env (.si .i64 ()), .env (.ki .i64 1), .env (.ptr 1 0), .env (.ptr 1 0), .env (.ptr 1 0), .env (.si .i64 ()), .env (.si .i64 ()), .env (.sslice 0 .part (some ()) () 5), .env (.si .i64 ()), .var (.si .i64 ()), .drop, .drop, .drop, .drop, .drop, .drop, .drop], [(4, .cells [.slot [.f] 1])], [(1, [.si .i64 (), .si .i64 (), .sslice 0 .whole none () 5]), (0, [.row false [.f, .f, .f, .z .i64, .z .i64] ()])], []⟩
def st_1 (D : Dom) (env p : List (PD D)) : D.B × D.B × List (PD D) := G0 D (nthZ env 10) (nthZ env 11) (nthZ env 12) (nthL env 16) p
theorem rd_1 (D : Dom) (env vars : List (PD D)) (ctx : List (AV D)) : (sh_1.round (sh_1.st env vars ctx).h.length (evCodeH Try.prog (tbl_7 D) (lt_1_1 D) 80 32 (loopB Try.prog 32 0) (sh_1.st env vars ctx))).map Nr.step = some (st_1 D env vars) := by kernel_rfl
noncomputable def ll_2 (D : Dom) : List (LE D) := ⟨32, 0, sh_1, st_1 D, fun s => evCodeH Try.prog (tbl_7 D) (lt_1_1 D) 80 32 (loopB Try.prog 32 0) s⟩ :: ll_1 D
noncomputable def lt_2_1 (D : Dom) : LTb D := ltOf (ll_2 D) js_1
theorem hok_2_1 : HooksOK Try.prog (lt_2_1 R) := HooksOK.cons prg tok_7 hok_1_1 (by kernel_rfl) (by kernel_rfl) (rd_1 R)
def js_2 : List (Nat × Nat × HSh) := js_1 ++ [(32, 2000000, ⟨5, 11, [.var (.tup [])], [(4, .cells [.slot [.f] 1])], [], []⟩)]
def js_3 : List (Nat × Nat × HSh) := js_2 ++ [(10, 2000000, ⟨4, 11, [.slot [.f] 1], [], [], []⟩)]
noncomputable def lt_2_3 (D : Dom) : LTb D := ltOf (ll_2 D) js_3
theorem hok_2_3 : HooksOK Try.prog (lt_2_3 R) := hok_2_1.jt

-- penumbra/penumbralaw21.FilmMakes
def WS3_0_0 (D : Dom) (a0 : D.Z) (a1 : D.Z) : D.B := (D.bite (D.zlt (D.zmin a0 a1) (D.zc 1)) (D.bc true) (D.zlt (D.zc 8192) (D.zmax a0 a1)))
def WS3_0_1 (D : Dom) (a0 : D.Z) (a1 : D.Z) : D.B := (D.bite (D.bite (D.bite (D.zlt a0 (D.zc 1)) (D.bc true) (D.zlt a1 (D.zc 1))) (D.bc true) (D.zlt (D.zc 8192) a0)) (D.bc true) (D.zlt (D.zc 8192) a1))
def WS3_0_2 (D : Dom)  : D.B := (D.bite (S7_0 D) (D.bc true) (D.bc false))
def WS3_0_3 (D : Dom) (a0 : D.Z) (a1 : D.Z) : D.Z := (D.zite (WS3_0_0 D a0 a1) (D.zc 12) (D.zc 4))
def WS3_0_4 (D : Dom) (a0 : D.Z) (a1 : D.Z) : D.B := (D.bite (D.zle a0 (D.zc 0)) (D.bc true) (D.zle a1 (D.zc 0)))
def WS3_0_5 (D : Dom) (a0 : D.Z) (a1 : D.Z) : D.L := (D.lrep (D.zmul .i64 a0 a1) [.f (D.fc 0), .f (D.fc 0), .f (D.fc 0), .z (D.zc 0), .z (D.zc 0)])
def WS3_0_6 (D : Dom) (a0 : D.Z) : D.Z := (D.zadd .i64 (D.zmul .i64 (D.zc 0) a0) (D.zc 0))
def WS3_0_7 (D : Dom) (a0 : D.Z) (a1 : D.Z) : D.Z := (D.zite (WS3_0_4 D a0 a1) (D.zc 0) (D.lz (WS3_0_5 D a0 a1) (WS3_0_6 D a0) 3))
def WS3_0_8 (D : Dom) (a0 : D.Z) (a1 : D.Z) : D.Z := (D.zite (WS3_0_4 D a0 a1) (D.zc 0) (D.lz (WS3_0_5 D a0 a1) (WS3_0_6 D a0) 4))
def WS3_0_9 (D : Dom) (a0 : D.Z) : D.Z := (D.zsub .i64 (D.zmul .i64 (D.zc 1) a0) (D.zmul .i64 (D.zc 0) a0))
def WS3_0_10 (D : Dom) (a0 : D.Z) (a1 : D.Z) : List (PD D) := (L0 D (D.zmul .i64 (D.zc 0) a0) (WS3_0_9 D a0) (WS3_0_9 D a0) (WS3_0_5 D a0 a1) D.lnil (D.zc 0))
def S3_0 (D : Dom) (a0 : D.Z) (a1 : D.Z) : D.B := (D.bite (D.bite (WS3_0_0 D a0 a1) (D.bc true) (D.zlt (D.zc 65536) (D.zmul .i64 a0 a1))) (D.bite (WS3_0_1 D a0 a1) (D.bite (WS3_0_2 D) (D.zeq (WS3_0_3 D a0 a1) (D.zc 12)) (D.bc false)) (D.bite (D.zlt (D.zc 65536) (D.zmul .i64 a0 a1)) (D.bite (WS3_0_2 D) (D.zeq (WS3_0_3 D a0 a1) (D.zc 4)) (D.bc false)) (D.bc false))) (D.bite (WS3_0_1 D a0 a1) (D.bc false) (D.bite (D.zlt (D.zc 65536) (D.zmul .i64 a0 a1)) (D.bc false) (D.bite (D.bite (D.bite (D.bite (S7_0 D) (D.zeq a0 a0) (D.bc false)) (D.zeq a1 a1) (D.bc false)) (D.band (D.feq (S24_0 D (D.fite (WS3_0_4 D a0 a1) (D.fc 0) (D.lf (WS3_0_5 D a0 a1) (WS3_0_6 D a0) 0)) (WS3_0_7 D a0 a1) (WS3_0_8 D a0 a1)) (D.fc 0)) (D.band (D.feq (S24_1 D (D.fite (WS3_0_4 D a0 a1) (D.fc 0) (D.lf (WS3_0_5 D a0 a1) (WS3_0_6 D a0) 1)) (WS3_0_7 D a0 a1) (WS3_0_8 D a0 a1)) (D.fc 0)) (D.band (D.feq (S24_2 D (D.fite (WS3_0_4 D a0 a1) (D.fc 0) (D.lf (WS3_0_5 D a0 a1) (WS3_0_6 D a0) 2)) (WS3_0_7 D a0 a1) (WS3_0_8 D a0 a1)) (D.fc 0)) (D.bc true)))) (D.bc false)) (D.zeq (D.llen (D.lite (D.zle a1 (D.zc 0)) D.lnil (D.lite (D.zlt a1 (D.zc 1)) D.lnil (nthL (WS3_0_10 D a0 a1) 0)))) (D.zmul .i64 (D.zc 3) a0)) (D.bc false)))))
def WO3_0 (D : Dom) (a0 : D.Z) (a1 : D.Z) : D.B := (D.bite (D.bite (D.bite (D.zlt a0 (D.zc 1)) (D.bc true) (D.zlt a1 (D.zc 1))) (D.bc true) (D.zlt (D.zc 8192) a0)) (D.bc true) (D.zlt (D.zc 8192) a1))
def WO3_1 (D : Dom) (a0 : D.Z) (a1 : D.Z) : D.B := (D.bite (WO3_0 D a0 a1) (O7 D) (D.bc true))
def WO3_2 (D : Dom) (a0 : D.Z) (a1 : D.Z) : D.B := (D.bite (D.zlt (D.zc 65536) (D.zmul .i64 a0 a1)) (O7 D) (D.bc true))
def WO3_3 (D : Dom) (a0 : D.Z) (a1 : D.Z) : D.B := (D.bite (D.bite (S7_0 D) (D.zeq a0 a0) (D.bc false)) (D.zeq a1 a1) (D.bc false))
def WO3_4 (D : Dom) (a0 : D.Z) (a1 : D.Z) : D.B := (D.bite (D.zle a0 (D.zc 0)) (D.bc true) (D.zle a1 (D.zc 0)))
def WO3_5 (D : Dom) (a0 : D.Z) : D.Z := (D.zadd .i64 (D.zmul .i64 (D.zc 0) a0) (D.zc 0))
def WO3_6 (D : Dom) (a0 : D.Z) (a1 : D.Z) : D.L := (D.lrep (D.zmul .i64 a0 a1) [.f (D.fc 0), .f (D.fc 0), .f (D.fc 0), .z (D.zc 0), .z (D.zc 0)])
def WO3_7 (D : Dom) (a0 : D.Z) (a1 : D.Z) : D.Z := (D.zite (WO3_4 D a0 a1) (D.zc 0) (D.lz (WO3_6 D a0 a1) (WO3_5 D a0) 3))
def WO3_8 (D : Dom) (a0 : D.Z) (a1 : D.Z) : D.Z := (D.zite (WO3_4 D a0 a1) (D.zc 0) (D.lz (WO3_6 D a0 a1) (WO3_5 D a0) 4))
def WO3_9 (D : Dom) (a0 : D.Z) : D.Z := (D.zsub .i64 (D.zmul .i64 (D.zc 1) a0) (D.zmul .i64 (D.zc 0) a0))
def WO3_10 (D : Dom) (a0 : D.Z) (a1 : D.Z) : D.B := (E0 D (D.zmul .i64 (D.zc 0) a0) (WO3_9 D a0) (WO3_9 D a0) (WO3_6 D a0 a1) D.lnil (D.zc 0))
def O3 (D : Dom) (a0 : D.Z) (a1 : D.Z) : D.B := (D.bite (D.bite (D.bite (D.zlt (D.zmin a0 a1) (D.zc 1)) (D.bc true) (D.zlt (D.zc 8192) (D.zmax a0 a1))) (D.bc true) (D.zlt (D.zc 65536) (D.zmul .i64 a0 a1))) (D.band (WO3_1 D a0 a1) (D.bite (WO3_0 D a0 a1) (D.bc true) (WO3_2 D a0 a1))) (D.band (D.band (D.zle (D.zc 0) (D.zmul .i64 a0 a1)) (D.zle (D.zmul .i64 a0 a1) (D.zc 1073741824))) (D.band (WO3_1 D a0 a1) (D.bite (WO3_0 D a0 a1) (D.bc true) (D.band (WO3_2 D a0 a1) (D.bite (D.zlt (D.zc 65536) (D.zmul .i64 a0 a1)) (D.bc true) (D.band (O7 D) (D.band (D.bite (WO3_3 D a0 a1) (D.bite (WO3_4 D a0 a1) (D.bc true) (D.band (D.zle (D.zc 0) (WO3_5 D a0)) (D.zlt (WO3_5 D a0) (D.zmul .i64 a0 a1)))) (D.bc true)) (D.bite (D.bite (WO3_3 D a0 a1) (D.band (D.feq (S24_0 D (D.fite (WO3_4 D a0 a1) (D.fc 0) (D.lf (WO3_6 D a0 a1) (WO3_5 D a0) 0)) (WO3_7 D a0 a1) (WO3_8 D a0 a1)) (D.fc 0)) (D.band (D.feq (S24_1 D (D.fite (WO3_4 D a0 a1) (D.fc 0) (D.lf (WO3_6 D a0 a1) (WO3_5 D a0) 1)) (WO3_7 D a0 a1) (WO3_8 D a0 a1)) (D.fc 0)) (D.band (D.feq (S24_2 D (D.fite (WO3_4 D a0 a1) (D.fc 0) (D.lf (WO3_6 D a0 a1) (WO3_5 D a0) 2)) (WO3_7 D a0 a1) (WO3_8 D a0 a1)) (D.fc 0)) (D.bc true)))) (D.bc false)) (D.bite (D.zle a1 (D.zc 0)) (D.bc true) (D.bite (D.zlt a1 (D.zc 1)) (D.bc true) (D.band (D.band (D.band (D.zle (D.zc 0) (D.zmul .i64 (D.zc 0) a0)) (D.zle (D.zmul .i64 (D.zc 0) a0) (D.zmul .i64 (D.zc 1) a0))) (D.band (D.zle (D.zmul .i64 (D.zc 1) a0) (D.zmul .i64 (D.zc 1) a0)) (D.zle (D.zmul .i64 (D.zc 1) a0) (D.zmul .i64 a0 a1)))) (WO3_10 D a0 a1)))) (D.bc true))))))))))
theorem ev3 (D : Dom) (a0 : D.Z) (a1 : D.Z) : joinT (evFnH Try.prog (tbl_7 D) (lt_2_3 D) 80 3 [.si .i64 a0, .si .i64 a1] [] 0) = .val (some (O3 D a0 a1)) (.sb (S3_0 D a0 a1)) := by kernel_rfl
def sp3 : Ev.Spec := fun D l => argZ .i64 l fun a0 r0 => argZ .i64 r0 fun a1 r1 => arg0 r1 (.node (O3 D a0 a1) (.ret (.sb (S3_0 D a0 a1))) (.fail "pre"))
theorem en3 : ∀ l r, (sp3 R l).run = some r → Entry Try.prog 3 l r := by
  intro l r h
  obtain ⟨x0, _, h, L0⟩ := argZ_inv h
  obtain ⟨x1, _, h, L1⟩ := argZ_inv h
  obtain ⟨h, L2⟩ := arg0_inv h
  obtain ⟨hok, rfl⟩ := run_okay h
  exact (entry_loops prg tok_7 hok_2_3 (ev3 R x0 x1) (fun o ho => (Option.some.inj ho) ▸ hok) rfl).le (L0 _ (L1 _ L2))
def tl_3 : List (Nat × Ev.Spec) := (3, sp3) :: tl_7
def tbl_3 (D : Dom) : Tbl D := tblOf tl_3 D
theorem tok_3 : TblOK Try.prog (tbl_3 R) := TblOK.cons tok_7 en3

-- penumbra/penumbraref05.Add
def S29_0 (D : Dom) (a0 : D.F) (a3 : D.F) : D.F := (D.fadd a0 a3)
def S29_1 (D : Dom) (a1 : D.F) (a4 : D.F) : D.F := (D.fadd a1 a4)
def S29_2 (D : Dom) (a2 : D.F) (a5 : D.F) : D.F := (D.fadd a2 a5)
theorem ev29 (D : Dom) (a0 : D.F) (a1 : D.F) (a2 : D.F) (a3 : D.F) (a4 : D.F) (a5 : D.F) : joinT (evFnH Try.prog (tbl_3 D) (lt_2_3 D) 80 29 [.agg [.fl a0, .fl a1, .fl a2], .agg [.fl a3, .fl a4, .fl a5]] [] 0) = .val none (.agg [.fl (S29_0 D a0 a3), .fl (S29_1 D a1 a4), .fl (S29_2 D a2 a5)]) := by kernel_rfl
def sp29 : Ev.Spec := fun D l => argA l fun c0 r0 => argF c0 fun a0 r1 => argF r1 fun a1 r2 => argF r2 fun a2 r3 => arg0 r3 (argA r0 fun c100 r100 => argF c100 fun a3 r101 => argF r101 fun a4 r102 => argF r102 fun a5 r103 => arg0 r103 (arg0 r100 (.ret (.agg [.fl (S29_0 D a0 a3), .fl (S29_1 D a1 a4), .fl (S29_2 D a2 a5)]))))
theorem en29 : ∀ l r, (sp29 R l).run = some r → Entry Try.prog 29 l r := by
  intro l r h
  obtain ⟨_, _, h, L0⟩ := argA_inv h
  obtain ⟨x1, _, h, L1⟩ := argF_inv h
  obtain ⟨x2, _, h, L2⟩ := argF_inv h
  obtain ⟨x3, _, h, L3⟩ := argF_inv h
  obtain ⟨h, L4⟩ := arg0_inv h
  obtain ⟨_, _, h, L5⟩ := argA_inv h
  obtain ⟨x6, _, h, L6⟩ := argF_inv h
  obtain ⟨x7, _, h, L7⟩ := argF_inv h
  obtain ⟨x8, _, h, L8⟩ := argF_inv h
  obtain ⟨h, L9⟩ := arg0_inv h
  obtain ⟨h, L10⟩ := arg0_inv h
  cases h
  exact (entry_loops prg tok_3 hok_2_3 (ev29 R x1 x2 x3 x6 x7 x8) (fun o ho => nomatch ho) rfl).le (L0 _ _ (L1 _ (L2 _ (L3 _ L4))) (L5 _ _ (L6 _ (L7 _ (L8 _ L9))) L10))
def tl_29 : List (Nat × Ev.Spec) := (29, sp29) :: tl_3
def tbl_29 (D : Dom) : Tbl D := tblOf tl_29 D
theorem tok_29 : TblOK Try.prog (tbl_29 R) := TblOK.cons tok_3 en29

-- penumbra/penumbraref02.Number
def S31_0 (D : Dom) (a0 : D.F) : D.B := (D.feq (D.fsub a0 a0) (D.fc 0))
theorem ev31 (D : Dom) (a0 : D.F) : joinT (evFnH Try.prog (tbl_29 D) (lt_2_3 D) 80 31 [.fl a0] [] 0) = .val none (.sb (S31_0 D a0)) := by kernel_rfl
def sp31 : Ev.Spec := fun D l => argF l fun a0 r0 => arg0 r0 (.ret (.sb (S31_0 D a0)))
theorem en31 : ∀ l r, (sp31 R l).run = some r → Entry Try.prog 31 l r := by
  intro l r h
  obtain ⟨x0, _, h, L0⟩ := argF_inv h
  obtain ⟨h, L1⟩ := arg0_inv h
  cases h
  exact (entry_loops prg tok_29 hok_2_3 (ev31 R x0) (fun o ho => nomatch ho) rfl).le (L0 _ L1)
def tl_31 : List (Nat × Ev.Spec) := (31, sp31) :: tl_29
def tbl_31 (D : Dom) : Tbl D := tblOf tl_31 D
theorem tok_31 : TblOK Try.prog (tbl_31 R) := TblOK.cons tok_29 en31

-- penumbra/penumbraref05.Good
def S18_0 (D : Dom) (a0 : D.F) (a1 : D.F) (a2 : D.F) : D.B := (D.bite (D.bite (D.bite (D.bite (D.bite (S31_0 D a0) (S31_0 D a1) (D.bc false)) (S31_0 D a2) (D.bc false)) (D.fge a0 (D.fc 0)) (D.bc false)) (D.fge a1 (D.fc 0)) (D.bc false)) (D.fge a2 (D.fc 0)) (D.bc false))
theorem ev18 (D : Dom) (a0 : D.F) (a1 : D.F) (a2 : D.F) : joinT (evFnH Try.prog (tbl_31 D) (lt_2_3 D) 80 18 [.agg [.fl a0, .fl a1, .fl a2]] [] 0) = .val none (.sb (S18_0 D a0 a1 a2)) := by kernel_rfl
def sp18 : Ev.Spec := fun D l => argA l fun c0 r0 => argF c0 fun a0 r1 => argF r1 fun a1 r2 => argF r2 fun a2 r3 => arg0 r3 (arg0 r0 (.ret (.sb (S18_0 D a0 a1 a2))))
theorem en18 : ∀ l r, (sp18 R l).run = some r → Entry Try.prog 18 l r := by
  intro l r h
  obtain ⟨_, _, h, L0⟩ := argA_inv h
  obtain ⟨x1, _, h, L1⟩ := argF_inv h
  obtain ⟨x2, _, h, L2⟩ := argF_inv h
  obtain ⟨x3, _, h, L3⟩ := argF_inv h
  obtain ⟨h, L4⟩ := arg0_inv h
  obtain ⟨h, L5⟩ := arg0_inv h
  cases h
  exact (entry_loops prg tok_31 hok_2_3 (ev18 R x1 x2 x3) (fun o ho => nomatch ho) rfl).le (L0 _ _ (L1 _ (L2 _ (L3 _ L4))) L5)
def tl_18 : List (Nat × Ev.Spec) := (18, sp18) :: tl_31
def tbl_18 (D : Dom) : Tbl D := tblOf tl_18 D
theorem tok_18 : TblOK Try.prog (tbl_18 R) := TblOK.cons tok_31 en18

-- penumbra/penumbraref21.Add
def S15_0 (D : Dom) (a0 : D.F) (a1 : D.F) (a2 : D.F) (a5 : D.F) (a6 : D.F) (a7 : D.F) : D.F := (D.fite (D.bite (S18_0 D a5 a6 a7) (S18_0 D (S29_0 D a0 a5) (S29_1 D a1 a6) (S29_2 D a2 a7)) (D.bc false)) (S29_0 D a0 a5) a0)
def S15_1 (D : Dom) (a0 : D.F) (a1 : D.F) (a2 : D.F) (a5 : D.F) (a6 : D.F) (a7 : D.F) : D.F := (D.fite (D.bite (S18_0 D a5 a6 a7) (S18_0 D (S29_0 D a0 a5) (S29_1 D a1 a6) (S29_2 D a2 a7)) (D.bc false)) (S29_1 D a1 a6) a1)
def S15_2 (D : Dom) (a0 : D.F) (a1 : D.F) (a2 : D.F) (a5 : D.F) (a6 : D.F) (a7 : D.F) : D.F := (D.fite (D.bite (S18_0 D a5 a6 a7) (S18_0 D (S29_0 D a0 a5) (S29_1 D a1 a6) (S29_2 D a2 a7)) (D.bc false)) (S29_2 D a2 a7) a2)
def S15_3 (D : Dom) (a0 : D.F) (a1 : D.F) (a2 : D.F) (a3 : D.Z) (a5 : D.F) (a6 : D.F) (a7 : D.F) : D.Z := (D.zite (D.bite (S18_0 D a5 a6 a7) (S18_0 D (S29_0 D a0 a5) (S29_1 D a1 a6) (S29_2 D a2 a7)) (D.bc false)) (D.zadd .i64 a3 (D.zc 1)) a3)
def S15_4 (D : Dom) (a0 : D.F) (a1 : D.F) (a2 : D.F) (a4 : D.Z) (a5 : D.F) (a6 : D.F) (a7 : D.F) : D.Z := (D.zite (D.bite (S18_0 D a5 a6 a7) (S18_0 D (S29_0 D a0 a5) (S29_1 D a1 a6) (S29_2 D a2 a7)) (D.bc false)) a4 (D.zadd .i64 a4 (D.zc 1)))
theorem ev15 (D : Dom) (a0 : D.F) (a1 : D.F) (a2 : D.F) (a3 : D.Z) (a4 : D.Z) (a5 : D.F) (a6 : D.F) (a7 : D.F) : joinT (evFnH Try.prog (tbl_18 D) (lt_2_3 D) 80 15 [.agg [.fl a0, .fl a1, .fl a2, .si .i64 a3, .si .i64 a4], .agg [.fl a5, .fl a6, .fl a7]] [] 0) = .val none (.agg [.fl (S15_0 D a0 a1 a2 a5 a6 a7), .fl (S15_1 D a0 a1 a2 a5 a6 a7), .fl (S15_2 D a0 a1 a2 a5 a6 a7), .si .i64 (S15_3 D a0 a1 a2 a3 a5 a6 a7), .si .i64 (S15_4 D a0 a1 a2 a4 a5 a6 a7)]) := by kernel_rfl
def sp15 : Ev.Spec := fun D l => argA l fun c0 r0 => argF c0 fun a0 r1 => argF r1 fun a1 r2 => argF r2 fun a2 r3 => argZ .i64 r3 fun a3 r4 => argZ .i64 r4 fun a4 r5 => arg0 r5 (argA r0 fun c100 r100 => argF c100 fun a5 r101 => argF r101 fun a6 r102 => argF r102 fun a7 r103 => arg0 r103 (arg0 r100 (.ret (.agg [.fl (S15_0 D a0 a1 a2 a5 a6 a7), .fl (S15_1 D a0 a1 a2 a5 a6 a7), .fl (S15_2 D a0 a1 a2 a5 a6 a7), .si .i64 (S15_3 D a0 a1 a2 a3 a5 a6 a7), .si .i64 (S15_4 D a0 a1 a2 a4 a5 a6 a7)]))))
theorem en15 : ∀ l r, (sp15 R l).run = some r → Entry Try.prog 15 l r := by
  intro l r h
  obtain ⟨_, _, h, L0⟩ := argA_inv h
  obtain ⟨x1, _, h, L1⟩ := argF_inv h
  obtain ⟨x2, _, h, L2⟩ := argF_inv h
  obtain ⟨x3, _, h, L3⟩ := argF_inv h
  obtain ⟨x4, _, h, L4⟩ := argZ_inv h
  obtain ⟨x5, _, h, L5⟩ := argZ_inv h
  obtain ⟨h, L6⟩ := arg0_inv h
  obtain ⟨_, _, h, L7⟩ := argA_inv h
  obtain ⟨x8, _, h, L8⟩ := argF_inv h
  obtain ⟨x9, _, h, L9⟩ := argF_inv h
  obtain ⟨x10, _, h, L10⟩ := argF_inv h
  obtain ⟨h, L11⟩ := arg0_inv h
  obtain ⟨h, L12⟩ := arg0_inv h
  cases h
  exact (entry_loops prg tok_18 hok_2_3 (ev15 R x1 x2 x3 x4 x5 x8 x9 x10) (fun o ho => nomatch ho) rfl).le (L0 _ _ (L1 _ (L2 _ (L3 _ (L4 _ (L5 _ L6))))) (L7 _ _ (L8 _ (L9 _ (L10 _ L11))) L12))
def tl_15 : List (Nat × Ev.Spec) := (15, sp15) :: tl_18
def tbl_15 (D : Dom) : Tbl D := tblOf tl_15 D
theorem tok_15 : TblOK Try.prog (tbl_15 R) := TblOK.cons tok_18 en15

-- penumbra/penumbraref05.Scale
def S30_0 (D : Dom) (a0 : D.F) (a3 : D.F) : D.F := (D.fmul a0 a3)
def S30_1 (D : Dom) (a1 : D.F) (a3 : D.F) : D.F := (D.fmul a1 a3)
def S30_2 (D : Dom) (a2 : D.F) (a3 : D.F) : D.F := (D.fmul a2 a3)
theorem ev30 (D : Dom) (a0 : D.F) (a1 : D.F) (a2 : D.F) (a3 : D.F) : joinT (evFnH Try.prog (tbl_15 D) (lt_2_3 D) 80 30 [.agg [.fl a0, .fl a1, .fl a2], .fl a3] [] 0) = .val none (.agg [.fl (S30_0 D a0 a3), .fl (S30_1 D a1 a3), .fl (S30_2 D a2 a3)]) := by kernel_rfl
def sp30 : Ev.Spec := fun D l => argA l fun c0 r0 => argF c0 fun a0 r1 => argF r1 fun a1 r2 => argF r2 fun a2 r3 => arg0 r3 (argF r0 fun a3 r100 => arg0 r100 (.ret (.agg [.fl (S30_0 D a0 a3), .fl (S30_1 D a1 a3), .fl (S30_2 D a2 a3)])))
theorem en30 : ∀ l r, (sp30 R l).run = some r → Entry Try.prog 30 l r := by
  intro l r h
  obtain ⟨_, _, h, L0⟩ := argA_inv h
  obtain ⟨x1, _, h, L1⟩ := argF_inv h
  obtain ⟨x2, _, h, L2⟩ := argF_inv h
  obtain ⟨x3, _, h, L3⟩ := argF_inv h
  obtain ⟨h, L4⟩ := arg0_inv h
  obtain ⟨x5, _, h, L5⟩ := argF_inv h
  obtain ⟨h, L6⟩ := arg0_inv h
  cases h
  exact (entry_loops prg tok_15 hok_2_3 (ev30 R x1 x2 x3 x5) (fun o ho => nomatch ho) rfl).le (L0 _ _ (L1 _ (L2 _ (L3 _ L4))) (L5 _ L6))
def tl_30 : List (Nat × Ev.Spec) := (30, sp30) :: tl_15
def tbl_30 (D : Dom) : Tbl D := tblOf tl_30 D
theorem tok_30 : TblOK Try.prog (tbl_30 R) := TblOK.cons tok_15 en30

-- penumbra/penumbraref21.Mean
def S17_0 (D : Dom) (a0 : D.F) (a3 : D.Z) (a4 : D.Z) : D.F := (D.fite (D.zeq (D.zadd .i64 a3 a4) (D.zc 0)) (D.fc 0) (S30_0 D a0 (D.fdiv (D.fc 4607182418800017408) (D.i2f (D.zadd .i64 a3 a4)))))
def S17_1 (D : Dom) (a1 : D.F) (a3 : D.Z) (a4 : D.Z) : D.F := (D.fite (D.zeq (D.zadd .i64 a3 a4) (D.zc 0)) (D.fc 0) (S30_1 D a1 (D.fdiv (D.fc 4607182418800017408) (D.i2f (D.zadd .i64 a3 a4)))))
def S17_2 (D : Dom) (a2 : D.F) (a3 : D.Z) (a4 : D.Z) : D.F := (D.fite (D.zeq (D.zadd .i64 a3 a4) (D.zc 0)) (D.fc 0) (S30_2 D a2 (D.fdiv (D.fc 4607182418800017408) (D.i2f (D.zadd .i64 a3 a4)))))
theorem ev17 (D : Dom) (a0 : D.F) (a1 : D.F) (a2 : D.F) (a3 : D.Z) (a4 : D.Z) : joinT (evFnH Try.prog (tbl_30 D) (lt_2_3 D) 80 17 [.agg [.fl a0, .fl a1, .fl a2, .si .i64 a3, .si .i64 a4]] [] 0) = .val none (.agg [.fl (S17_0 D a0 a3 a4), .fl (S17_1 D a1 a3 a4), .fl (S17_2 D a2 a3 a4)]) := by kernel_rfl
def sp17 : Ev.Spec := fun D l => argA l fun c0 r0 => argF c0 fun a0 r1 => argF r1 fun a1 r2 => argF r2 fun a2 r3 => argZ .i64 r3 fun a3 r4 => argZ .i64 r4 fun a4 r5 => arg0 r5 (arg0 r0 (.ret (.agg [.fl (S17_0 D a0 a3 a4), .fl (S17_1 D a1 a3 a4), .fl (S17_2 D a2 a3 a4)])))
theorem en17 : ∀ l r, (sp17 R l).run = some r → Entry Try.prog 17 l r := by
  intro l r h
  obtain ⟨_, _, h, L0⟩ := argA_inv h
  obtain ⟨x1, _, h, L1⟩ := argF_inv h
  obtain ⟨x2, _, h, L2⟩ := argF_inv h
  obtain ⟨x3, _, h, L3⟩ := argF_inv h
  obtain ⟨x4, _, h, L4⟩ := argZ_inv h
  obtain ⟨x5, _, h, L5⟩ := argZ_inv h
  obtain ⟨h, L6⟩ := arg0_inv h
  obtain ⟨h, L7⟩ := arg0_inv h
  cases h
  exact (entry_loops prg tok_30 hok_2_3 (ev17 R x1 x2 x3 x4 x5) (fun o ho => nomatch ho) rfl).le (L0 _ _ (L1 _ (L2 _ (L3 _ (L4 _ (L5 _ L6))))) L7)
def tl_17 : List (Nat × Ev.Spec) := (17, sp17) :: tl_30
def tbl_17 (D : Dom) : Tbl D := tblOf tl_17 D
theorem tok_17 : TblOK Try.prog (tbl_17 R) := TblOK.cons tok_30 en17

-- penumbra/penumbraref02.Same
def S34_0 (D : Dom) (a0 : D.F) (a1 : D.F) : D.B := (D.bite (D.feq a0 a1) (D.bc true) (D.bite (D.bnot (D.feq a0 a0)) (D.bnot (D.feq a1 a1)) (D.bc false)))
theorem ev34 (D : Dom) (a0 : D.F) (a1 : D.F) : joinT (evFnH Try.prog (tbl_17 D) (lt_2_3 D) 80 34 [.fl a0, .fl a1] [] 0) = .val none (.sb (S34_0 D a0 a1)) := by kernel_rfl
def sp34 : Ev.Spec := fun D l => argF l fun a0 r0 => argF r0 fun a1 r1 => arg0 r1 (.ret (.sb (S34_0 D a0 a1)))
theorem en34 : ∀ l r, (sp34 R l).run = some r → Entry Try.prog 34 l r := by
  intro l r h
  obtain ⟨x0, _, h, L0⟩ := argF_inv h
  obtain ⟨x1, _, h, L1⟩ := argF_inv h
  obtain ⟨h, L2⟩ := arg0_inv h
  cases h
  exact (entry_loops prg tok_17 hok_2_3 (ev34 R x0 x1) (fun o ho => nomatch ho) rfl).le (L0 _ (L1 _ L2))
def tl_34 : List (Nat × Ev.Spec) := (34, sp34) :: tl_17
def tbl_34 (D : Dom) : Tbl D := tblOf tl_34 D
theorem tok_34 : TblOK Try.prog (tbl_34 R) := TblOK.cons tok_17 en34

-- loop 1
def WC1_0 (D : Dom) (a3 : D.L) (a4 : D.Z) (a5 : D.Z) (a9 : D.Z) : D.B := (D.bite (D.bite (D.bite (D.zlt (D.lz a3 a9 0) (D.zc 0)) (D.bc true) (D.zlt (D.lz a3 a9 1) (D.zc 0))) (D.bc true) (D.zle a4 (D.lz a3 a9 0))) (D.bc true) (D.zle a5 (D.lz a3 a9 1)))
def WC1_1 (D : Dom) (a3 : D.L) (a4 : D.Z) (a9 : D.Z) : D.Z := (D.zadd .i64 (D.zmul .i64 (D.lz a3 a9 1) a4) (D.lz a3 a9 0))
def WC1_2 (D : Dom) (a3 : D.L) (a4 : D.Z) (a5 : D.Z) (a6 : D.Z) (a9 : D.Z) : D.B := (D.bite (WC1_0 D a3 a4 a5 a9) (D.bc true) (D.band (D.zle (D.zc 0) (WC1_1 D a3 a4 a9)) (D.zlt (WC1_1 D a3 a4 a9) a6)))
def WC1_3 (D : Dom) (a1 : D.Z) (a2 : D.Z) (a3 : D.L) (a9 : D.Z) : D.B := (D.bnot (D.bite (D.bite (D.bite (D.zle (D.zc 0) (D.lz a3 a9 0)) (D.zle (D.zc 0) (D.lz a3 a9 1)) (D.bc false)) (D.zlt (D.lz a3 a9 0) a1) (D.bc false)) (D.zlt (D.lz a3 a9 1) a2) (D.bc false)))
def WC1_4 (D : Dom) (a3 : D.L) (a4 : D.Z) (a5 : D.Z) (a9 : D.Z) : D.Z := (D.zite (WC1_0 D a3 a4 a5 a9) (D.zc 3) (D.zc 0))
def WC1_5 (D : Dom) (a3 : D.L) (a4 : D.Z) (a5 : D.Z) (a9 : D.Z) : D.B := (D.bnot (D.zeq (WC1_4 D a3 a4 a5 a9) (D.zc 3)))
def WC1_6 (D : Dom) (a3 : D.L) (a4 : D.Z) (a9 : D.Z) (a10 : D.L) : D.F := (S27_0 D (D.lf a10 (WC1_1 D a3 a4 a9) 0) (D.lf a3 a9 2))
def WC1_7 (D : Dom) (a3 : D.L) (a4 : D.Z) (a9 : D.Z) (a10 : D.L) : D.F := (S27_1 D (D.lf a10 (WC1_1 D a3 a4 a9) 1) (D.lf a3 a9 3))
def WC1_8 (D : Dom) (a3 : D.L) (a4 : D.Z) (a9 : D.Z) (a10 : D.L) : D.F := (S27_2 D (D.lf a10 (WC1_1 D a3 a4 a9) 2) (D.lf a3 a9 4))
def WC1_9 (D : Dom) (a3 : D.L) (a4 : D.Z) (a9 : D.Z) (a10 : D.L) : D.L := (D.lput a10 (WC1_1 D a3 a4 a9) 0 [.f (WC1_6 D a3 a4 a9 a10), .f (WC1_7 D a3 a4 a9 a10), .f (WC1_8 D a3 a4 a9 a10)])
def WC1_10 (D : Dom) (a3 : D.L) (a4 : D.Z) (a5 : D.Z) (a9 : D.Z) (a10 : D.L) : D.L := (D.lite (WC1_0 D a3 a4 a5 a9) a10 (D.lite (D.bite (S28_0 D (D.lf a3 a9 2) (D.lf a3 a9 3) (D.lf a3 a9 4)) (S28_0 D (WC1_6 D a3 a4 a9 a10) (WC1_7 D a3 a4 a9 a10) (WC1_8 D a3 a4 a9 a10)) (D.bc false)) (D.lput (WC1_9 D a3 a4 a9 a10) (WC1_1 D a3 a4 a9) 3 [.z (D.zadd .i64 (D.lz (WC1_9 D a3 a4 a9 a10) (WC1_1 D a3 a4 a9) 3) (D.zc 1))]) (D.lput a10 (WC1_1 D a3 a4 a9) 4 [.z (D.zadd .i64 (D.lz a10 (WC1_1 D a3 a4 a9) 4) (D.zc 1))])))
def WC1_11 (D : Dom) (a3 : D.L) (a4 : D.Z) (a5 : D.Z) (a9 : D.Z) (a10 : D.L) : D.Z := (D.zite (WC1_0 D a3 a4 a5 a9) (D.zc 0) (D.lz (WC1_10 D a3 a4 a5 a9 a10) (WC1_1 D a3 a4 a9) 3))
def WC1_12 (D : Dom) (a3 : D.L) (a4 : D.Z) (a5 : D.Z) (a9 : D.Z) (a10 : D.L) : D.Z := (D.zite (WC1_0 D a3 a4 a5 a9) (D.zc 0) (D.lz (WC1_10 D a3 a4 a5 a9 a10) (WC1_1 D a3 a4 a9) 4))
def WC1_13 (D : Dom) (a3 : D.L) (a4 : D.Z) (a5 : D.Z) (a9 : D.Z) (a10 : D.L) : D.B := (D.bnot (D.zeq (D.zadd .i64 (WC1_11 D a3 a4 a5 a9 a10) (WC1_12 D a3 a4 a5 a9 a10)) (D.zc 0)))
def WC1_14 (D : Dom) (a1 : D.Z) (a3 : D.L) (a9 : D.Z) : D.Z := (D.zadd .i64 (D.zmul .i64 (D.lz a3 a9 1) a1) (D.lz a3 a9 0))
def WC1_15 (D : Dom) (a1 : D.Z) (a3 : D.L) (a7 : D.L) (a9 : D.Z) : D.B := (D.band (D.zle (D.zc 0) (WC1_14 D a1 a3 a9)) (D.zlt (WC1_14 D a1 a3 a9) (D.llen (D.lcat D.lnil a7))))
def WC1_16 (D : Dom) (a3 : D.L) (a4 : D.Z) (a5 : D.Z) (a9 : D.Z) (a10 : D.L) : D.F := (D.fite (WC1_0 D a3 a4 a5 a9) (D.fc 0) (D.lf (WC1_10 D a3 a4 a5 a9 a10) (WC1_1 D a3 a4 a9) 0))
def WC1_17 (D : Dom) (a1 : D.Z) (a3 : D.L) (a7 : D.L) (a9 : D.Z) : D.L := (D.lput (D.lcat D.lnil a7) (WC1_14 D a1 a3 a9) 0 [.f (S15_0 D (D.lf a7 (WC1_14 D a1 a3 a9) 0) (D.lf a7 (WC1_14 D a1 a3 a9) 1) (D.lf a7 (WC1_14 D a1 a3 a9) 2) (D.lf a3 a9 2) (D.lf a3 a9 3) (D.lf a3 a9 4)), .f (S15_1 D (D.lf a7 (WC1_14 D a1 a3 a9) 0) (D.lf a7 (WC1_14 D a1 a3 a9) 1) (D.lf a7 (WC1_14 D a1 a3 a9) 2) (D.lf a3 a9 2) (D.lf a3 a9 3) (D.lf a3 a9 4)), .f (S15_2 D (D.lf a7 (WC1_14 D a1 a3 a9) 0) (D.lf a7 (WC1_14 D a1 a3 a9) 1) (D.lf a7 (WC1_14 D a1 a3 a9) 2) (D.lf a3 a9 2) (D.lf a3 a9 3) (D.lf a3 a9 4)), .z (S15_3 D (D.lf a7 (WC1_14 D a1 a3 a9) 0) (D.lf a7 (WC1_14 D a1 a3 a9) 1) (D.lf a7 (WC1_14 D a1 a3 a9) 2) (D.lz a7 (WC1_14 D a1 a3 a9) 3) (D.lf a3 a9 2) (D.lf a3 a9 3) (D.lf a3 a9 4)), .z (S15_4 D (D.lf a7 (WC1_14 D a1 a3 a9) 0) (D.lf a7 (WC1_14 D a1 a3 a9) 1) (D.lf a7 (WC1_14 D a1 a3 a9) 2) (D.lz a7 (WC1_14 D a1 a3 a9) 4) (D.lf a3 a9 2) (D.lf a3 a9 3) (D.lf a3 a9 4))])
def WC1_18 (D : Dom) (a1 : D.Z) (a3 : D.L) (a7 : D.L) (a9 : D.Z) : D.F := (D.lf (WC1_17 D a1 a3 a7 a9) (WC1_14 D a1 a3 a9) 0)
def WC1_19 (D : Dom) (a3 : D.L) (a4 : D.Z) (a5 : D.Z) (a9 : D.Z) (a10 : D.L) : D.F := (D.fite (WC1_0 D a3 a4 a5 a9) (D.fc 0) (D.lf (WC1_10 D a3 a4 a5 a9 a10) (WC1_1 D a3 a4 a9) 1))
def WC1_20 (D : Dom) (a1 : D.Z) (a3 : D.L) (a7 : D.L) (a9 : D.Z) : D.F := (D.lf (WC1_17 D a1 a3 a7 a9) (WC1_14 D a1 a3 a9) 1)
def WC1_21 (D : Dom) (a3 : D.L) (a4 : D.Z) (a5 : D.Z) (a9 : D.Z) (a10 : D.L) : D.F := (D.fite (WC1_0 D a3 a4 a5 a9) (D.fc 0) (D.lf (WC1_10 D a3 a4 a5 a9 a10) (WC1_1 D a3 a4 a9) 2))
def WC1_22 (D : Dom) (a1 : D.Z) (a3 : D.L) (a7 : D.L) (a9 : D.Z) : D.F := (D.lf (WC1_17 D a1 a3 a7 a9) (WC1_14 D a1 a3 a9) 2)
def WC1_23 (D : Dom) (a1 : D.Z) (a3 : D.L) (a7 : D.L) (a9 : D.Z) : D.Z := (D.lz (WC1_17 D a1 a3 a7 a9) (WC1_14 D a1 a3 a9) 3)
def WC1_24 (D : Dom) (a1 : D.Z) (a3 : D.L) (a7 : D.L) (a9 : D.Z) : D.Z := (D.lz (WC1_17 D a1 a3 a7 a9) (WC1_14 D a1 a3 a9) 4)
def WC1_25 (D : Dom) (a3 : D.L) (a4 : D.Z) (a5 : D.Z) (a9 : D.Z) (a10 : D.L) : D.F := (S24_0 D (WC1_16 D a3 a4 a5 a9 a10) (WC1_11 D a3 a4 a5 a9 a10) (WC1_12 D a3 a4 a5 a9 a10))
def WC1_26 (D : Dom) (a3 : D.L) (a4 : D.Z) (a5 : D.Z) (a9 : D.Z) (a10 : D.L) : D.F := (S24_1 D (WC1_19 D a3 a4 a5 a9 a10) (WC1_11 D a3 a4 a5 a9 a10) (WC1_12 D a3 a4 a5 a9 a10))
def WC1_27 (D : Dom) (a3 : D.L) (a4 : D.Z) (a5 : D.Z) (a9 : D.Z) (a10 : D.L) : D.F := (S24_2 D (WC1_21 D a3 a4 a5 a9 a10) (WC1_11 D a3 a4 a5 a9 a10) (WC1_12 D a3 a4 a5 a9 a10))
def WC1_28 (D : Dom) (a1 : D.Z) (a3 : D.L) (a4 : D.Z) (a5 : D.Z) (a6 : D.Z) (a7 : D.L) (a9 : D.Z) (a10 : D.L) : D.B := (D.bite (D.band (D.zle (D.zc 0) (WC1_14 D a1 a3 a9)) (D.zlt (WC1_14 D a1 a3 a9) (D.llen a7))) (D.bite (D.band (D.zle (D.llen (D.lcat D.lnil a7)) (D.zc 1073741824)) (WC1_15 D a1 a3 a7 a9)) (D.bite (WC1_2 D a3 a4 a5 a6 a9) (D.band (D.bnot (D.bnot (D.zeq (WC1_4 D a3 a4 a5 a9) (D.zc 0)))) (D.bite (WC1_2 D a3 a4 a5 a6 a9) (D.bite (WC1_15 D a1 a3 a7 a9) (D.band (D.bnot (D.bnot (D.band (D.feq (WC1_16 D a3 a4 a5 a9 a10) (WC1_18 D a1 a3 a7 a9)) (D.band (D.feq (WC1_19 D a3 a4 a5 a9 a10) (WC1_20 D a1 a3 a7 a9)) (D.band (D.feq (WC1_21 D a3 a4 a5 a9 a10) (WC1_22 D a1 a3 a7 a9)) (D.bc true)))))) (D.bite (WC1_2 D a3 a4 a5 a6 a9) (D.bite (WC1_15 D a1 a3 a7 a9) (D.band (D.bnot (D.bnot (D.zeq (WC1_11 D a3 a4 a5 a9 a10) (WC1_23 D a1 a3 a7 a9)))) (D.bite (WC1_2 D a3 a4 a5 a6 a9) (D.bite (WC1_15 D a1 a3 a7 a9) (D.band (D.bnot (D.bnot (D.zeq (WC1_12 D a3 a4 a5 a9 a10) (WC1_24 D a1 a3 a7 a9)))) (D.bite (WC1_15 D a1 a3 a7 a9) (D.band (D.bnot (D.bnot (D.band (D.feq (WC1_25 D a3 a4 a5 a9 a10) (S17_0 D (WC1_18 D a1 a3 a7 a9) (WC1_23 D a1 a3 a7 a9) (WC1_24 D a1 a3 a7 a9))) (D.band (D.feq (WC1_26 D a3 a4 a5 a9 a10) (S17_1 D (WC1_20 D a1 a3 a7 a9) (WC1_23 D a1 a3 a7 a9) (WC1_24 D a1 a3 a7 a9))) (D.band (D.feq (WC1_27 D a3 a4 a5 a9 a10) (S17_2 D (WC1_22 D a1 a3 a7 a9) (WC1_23 D a1 a3 a7 a9) (WC1_24 D a1 a3 a7 a9))) (D.bc true)))))) (D.bnot (D.bnot (S18_0 D (WC1_25 D a3 a4 a5 a9 a10) (WC1_26 D a3 a4 a5 a9 a10) (WC1_27 D a3 a4 a5 a9 a10))))) (D.bc true))) (D.bc true)) (D.bc true))) (D.bc true)) (D.bc true))) (D.bc true)) (D.bc true))) (D.bc true)) (D.bc true)) (D.bc true))
def C1 (D : Dom) (a0 : D.Z) (a1 : D.Z) (a2 : D.Z) (a3 : D.L) (a4 : D.Z) (a5 : D.Z) (a6 : D.Z) (a7 : D.L) (a9 : D.Z) (a10 : D.L) : D.B := (D.band (D.bite (D.zlt a9 a0) (D.zlt a9 (D.zc 80)) (D.bc false)) (D.bite (D.band (D.zle (D.zc 0) a9) (D.zlt a9 a0)) (D.bite (WC1_2 D a3 a4 a5 a6 a9) (D.bite (D.bite (WC1_3 D a1 a2 a3 a9) (D.bite (WC1_5 D a3 a4 a5 a9) (D.bc true) (D.band (WC1_2 D a3 a4 a5 a6 a9) (WC1_2 D a3 a4 a5 a6 a9))) (D.bc true)) (D.band (D.bnot (D.band (WC1_3 D a1 a2 a3 a9) (D.bite (WC1_5 D a3 a4 a5 a9) (D.bc true) (WC1_13 D a3 a4 a5 a9 a10)))) (D.bite (D.band (WC1_3 D a1 a2 a3 a9) (D.band (D.bnot (WC1_5 D a3 a4 a5 a9)) (D.bnot (WC1_13 D a3 a4 a5 a9 a10)))) (D.bc true) (WC1_28 D a1 a3 a4 a5 a6 a7 a9 a10))) (D.bc true)) (D.bc true)) (D.bc true)))
def WO1__0 (D : Dom) (a0 : D.Z) (a9 : D.Z) : D.B := (D.band (D.zle (D.zc 0) a9) (D.zlt a9 a0))
def WO1__1 (D : Dom) (a3 : D.L) (a4 : D.Z) (a5 : D.Z) (a9 : D.Z) : D.B := (D.bite (D.bite (D.bite (D.zlt (D.lz a3 a9 0) (D.zc 0)) (D.bc true) (D.zlt (D.lz a3 a9 1) (D.zc 0))) (D.bc true) (D.zle a4 (D.lz a3 a9 0))) (D.bc true) (D.zle a5 (D.lz a3 a9 1)))
def WO1__2 (D : Dom) (a3 : D.L) (a4 : D.Z) (a9 : D.Z) : D.Z := (D.zadd .i64 (D.zmul .i64 (D.lz a3 a9 1) a4) (D.lz a3 a9 0))
def WO1__3 (D : Dom) (a3 : D.L) (a4 : D.Z) (a5 : D.Z) (a6 : D.Z) (a9 : D.Z) : D.B := (D.bite (WO1__1 D a3 a4 a5 a9) (D.bc true) (D.band (D.zle (D.zc 0) (WO1__2 D a3 a4 a9)) (D.zlt (WO1__2 D a3 a4 a9) a6)))
def WO1__4 (D : Dom) (a1 : D.Z) (a2 : D.Z) (a3 : D.L) (a9 : D.Z) : D.B := (D.bnot (D.bite (D.bite (D.bite (D.zle (D.zc 0) (D.lz a3 a9 0)) (D.zle (D.zc 0) (D.lz a3 a9 1)) (D.bc false)) (D.zlt (D.lz a3 a9 0) a1) (D.bc false)) (D.zlt (D.lz a3 a9 1) a2) (D.bc false)))
def WO1__5 (D : Dom) (a3 : D.L) (a4 : D.Z) (a5 : D.Z) (a9 : D.Z) : D.Z := (D.zite (WO1__1 D a3 a4 a5 a9) (D.zc 3) (D.zc 0))
def WO1__6 (D : Dom) (a3 : D.L) (a4 : D.Z) (a5 : D.Z) (a9 : D.Z) : D.B := (D.bnot (D.zeq (WO1__5 D a3 a4 a5 a9) (D.zc 3)))
def WO1__7 (D : Dom) (a1 : D.Z) (a2 : D.Z) (a3 : D.L) (a4 : D.Z) (a5 : D.Z) (a6 : D.Z) (a9 : D.Z) : D.B := (D.bite (WO1__4 D a1 a2 a3 a9) (D.bite (WO1__6 D a3 a4 a5 a9) (D.bc true) (D.band (WO1__3 D a3 a4 a5 a6 a9) (WO1__3 D a3 a4 a5 a6 a9))) (D.bc true))
def WO1__8 (D : Dom) (a3 : D.L) (a4 : D.Z) (a9 : D.Z) (a10 : D.L) : D.F := (S27_0 D (D.lf a10 (WO1__2 D a3 a4 a9) 0) (D.lf a3 a9 2))
def WO1__9 (D : Dom) (a3 : D.L) (a4 : D.Z) (a9 : D.Z) (a10 : D.L) : D.F := (S27_1 D (D.lf a10 (WO1__2 D a3 a4 a9) 1) (D.lf a3 a9 3))
def WO1__10 (D : Dom) (a3 : D.L) (a4 : D.Z) (a9 : D.Z) (a10 : D.L) : D.F := (S27_2 D (D.lf a10 (WO1__2 D a3 a4 a9) 2) (D.lf a3 a9 4))
def WO1__11 (D : Dom) (a3 : D.L) (a4 : D.Z) (a9 : D.Z) (a10 : D.L) : D.L := (D.lput a10 (WO1__2 D a3 a4 a9) 0 [.f (WO1__8 D a3 a4 a9 a10), .f (WO1__9 D a3 a4 a9 a10), .f (WO1__10 D a3 a4 a9 a10)])
def WO1__12 (D : Dom) (a3 : D.L) (a4 : D.Z) (a5 : D.Z) (a9 : D.Z) (a10 : D.L) : D.L := (D.lite (WO1__1 D a3 a4 a5 a9) a10 (D.lite (D.bite (S28_0 D (D.lf a3 a9 2) (D.lf a3 a9 3) (D.lf a3 a9 4)) (S28_0 D (WO1__8 D a3 a4 a9 a10) (WO1__9 D a3 a4 a9 a10) (WO1__10 D a3 a4 a9 a10)) (D.bc false)) (D.lput (WO1__11 D a3 a4 a9 a10) (WO1__2 D a3 a4 a9) 3 [.z (D.zadd .i64 (D.lz (WO1__11 D a3 a4 a9 a10) (WO1__2 D a3 a4 a9) 3) (D.zc 1))]) (D.lput a10 (WO1__2 D a3 a4 a9) 4 [.z (D.zadd .i64 (D.lz a10 (WO1__2 D a3 a4 a9) 4) (D.zc 1))])))
def WO1__13 (D : Dom) (a3 : D.L) (a4 : D.Z) (a5 : D.Z) (a9 : D.Z) (a10 : D.L) : D.Z := (D.zite (WO1__1 D a3 a4 a5 a9) (D.zc 0) (D.lz (WO1__12 D a3 a4 a5 a9 a10) (WO1__2 D a3 a4 a9) 3))
def WO1__14 (D : Dom) (a3 : D.L) (a4 : D.Z) (a5 : D.Z) (a9 : D.Z) (a10 : D.L) : D.Z := (D.zite (WO1__1 D a3 a4 a5 a9) (D.zc 0) (D.lz (WO1__12 D a3 a4 a5 a9 a10) (WO1__2 D a3 a4 a9) 4))
def WO1__15 (D : Dom) (a3 : D.L) (a4 : D.Z) (a5 : D.Z) (a9 : D.Z) (a10 : D.L) : D.B := (D.bnot (D.zeq (D.zadd .i64 (WO1__13 D a3 a4 a5 a9 a10) (WO1__14 D a3 a4 a5 a9 a10)) (D.zc 0)))
def WO1__16 (D : Dom) (a1 : D.Z) (a2 : D.Z) (a3 : D.L) (a4 : D.Z) (a5 : D.Z) (a9 : D.Z) (a10 : D.L) : D.B := (D.band (WO1__4 D a1 a2 a3 a9) (D.bite (WO1__6 D a3 a4 a5 a9) (D.bc true) (WO1__15 D a3 a4 a5 a9 a10)))
def WO1__17 (D : Dom) (a1 : D.Z) (a2 : D.Z) (a3 : D.L) (a4 : D.Z) (a5 : D.Z) (a9 : D.Z) (a10 : D.L) : D.B := (D.band (WO1__4 D a1 a2 a3 a9) (D.band (D.bnot (WO1__6 D a3 a4 a5 a9)) (D.bnot (WO1__15 D a3 a4 a5 a9 a10))))
def WO1__18 (D : Dom) (a1 : D.Z) (a3 : D.L) (a9 : D.Z) : D.Z := (D.zadd .i64 (D.zmul .i64 (D.lz a3 a9 1) a1) (D.lz a3 a9 0))
def WO1__19 (D : Dom) (a1 : D.Z) (a3 : D.L) (a7 : D.L) (a9 : D.Z) : D.B := (D.band (D.zle (D.zc 0) (WO1__18 D a1 a3 a9)) (D.zlt (WO1__18 D a1 a3 a9) (D.llen a7)))
def WO1__20 (D : Dom) (a1 : D.Z) (a3 : D.L) (a7 : D.L) (a9 : D.Z) : D.B := (D.band (D.zle (D.zc 0) (WO1__18 D a1 a3 a9)) (D.zlt (WO1__18 D a1 a3 a9) (D.llen (D.lcat D.lnil a7))))
def WO1__21 (D : Dom) (a1 : D.Z) (a3 : D.L) (a7 : D.L) (a9 : D.Z) : D.B := (D.band (D.zle (D.llen (D.lcat D.lnil a7)) (D.zc 1073741824)) (WO1__20 D a1 a3 a7 a9))
def WO1__22 (D : Dom) (a3 : D.L) (a4 : D.Z) (a5 : D.Z) (a9 : D.Z) : D.B := (D.bnot (D.zeq (WO1__5 D a3 a4 a5 a9) (D.zc 0)))
def WO1__23 (D : Dom) (a3 : D.L) (a4 : D.Z) (a5 : D.Z) (a9 : D.Z) (a10 : D.L) : D.F := (D.fite (WO1__1 D a3 a4 a5 a9) (D.fc 0) (D.lf (WO1__12 D a3 a4 a5 a9 a10) (WO1__2 D a3 a4 a9) 0))
def WO1__24 (D : Dom) (a1 : D.Z) (a3 : D.L) (a7 : D.L) (a9 : D.Z) : D.L := (D.lput (D.lcat D.lnil a7) (WO1__18 D a1 a3 a9) 0 [.f (S15_0 D (D.lf a7 (WO1__18 D a1 a3 a9) 0) (D.lf a7 (WO1__18 D a1 a3 a9) 1) (D.lf a7 (WO1__18 D a1 a3 a9) 2) (D.lf a3 a9 2) (D.lf a3 a9 3) (D.lf a3 a9 4)), .f (S15_1 D (D.lf a7 (WO1__18 D a1 a3 a9) 0) (D.lf a7 (WO1__18 D a1 a3 a9) 1) (D.lf a7 (WO1__18 D a1 a3 a9) 2) (D.lf a3 a9 2) (D.lf a3 a9 3) (D.lf a3 a9 4)), .f (S15_2 D (D.lf a7 (WO1__18 D a1 a3 a9) 0) (D.lf a7 (WO1__18 D a1 a3 a9) 1) (D.lf a7 (WO1__18 D a1 a3 a9) 2) (D.lf a3 a9 2) (D.lf a3 a9 3) (D.lf a3 a9 4)), .z (S15_3 D (D.lf a7 (WO1__18 D a1 a3 a9) 0) (D.lf a7 (WO1__18 D a1 a3 a9) 1) (D.lf a7 (WO1__18 D a1 a3 a9) 2) (D.lz a7 (WO1__18 D a1 a3 a9) 3) (D.lf a3 a9 2) (D.lf a3 a9 3) (D.lf a3 a9 4)), .z (S15_4 D (D.lf a7 (WO1__18 D a1 a3 a9) 0) (D.lf a7 (WO1__18 D a1 a3 a9) 1) (D.lf a7 (WO1__18 D a1 a3 a9) 2) (D.lz a7 (WO1__18 D a1 a3 a9) 4) (D.lf a3 a9 2) (D.lf a3 a9 3) (D.lf a3 a9 4))])
def WO1__25 (D : Dom) (a1 : D.Z) (a3 : D.L) (a7 : D.L) (a9 : D.Z) : D.F := (D.lf (WO1__24 D a1 a3 a7 a9) (WO1__18 D a1 a3 a9) 0)
def WO1__26 (D : Dom) (a3 : D.L) (a4 : D.Z) (a5 : D.Z) (a9 : D.Z) (a10 : D.L) : D.F := (D.fite (WO1__1 D a3 a4 a5 a9) (D.fc 0) (D.lf (WO1__12 D a3 a4 a5 a9 a10) (WO1__2 D a3 a4 a9) 1))
def WO1__27 (D : Dom) (a1 : D.Z) (a3 : D.L) (a7 : D.L) (a9 : D.Z) : D.F := (D.lf (WO1__24 D a1 a3 a7 a9) (WO1__18 D a1 a3 a9) 1)
def WO1__28 (D : Dom) (a3 : D.L) (a4 : D.Z) (a5 : D.Z) (a9 : D.Z) (a10 : D.L) : D.F := (D.fite (WO1__1 D a3 a4 a5 a9) (D.fc 0) (D.lf (WO1__12 D a3 a4 a5 a9 a10) (WO1__2 D a3 a4 a9) 2))
def WO1__29 (D : Dom) (a1 : D.Z) (a3 : D.L) (a7 : D.L) (a9 : D.Z) : D.F := (D.lf (WO1__24 D a1 a3 a7 a9) (WO1__18 D a1 a3 a9) 2)
def WO1__30 (D : Dom) (a1 : D.Z) (a3 : D.L) (a4 : D.Z) (a5 : D.Z) (a7 : D.L) (a9 : D.Z) (a10 : D.L) : D.B := (D.bnot (D.band (D.feq (WO1__23 D a3 a4 a5 a9 a10) (WO1__25 D a1 a3 a7 a9)) (D.band (D.feq (WO1__26 D a3 a4 a5 a9 a10) (WO1__27 D a1 a3 a7 a9)) (D.band (D.feq (WO1__28 D a3 a4 a5 a9 a10) (WO1__29 D a1 a3 a7 a9)) (D.bc true)))))
def WO1__31 (D : Dom) (a1 : D.Z) (a3 : D.L) (a7 : D.L) (a9 : D.Z) : D.Z := (D.lz (WO1__24 D a1 a3 a7 a9) (WO1__18 D a1 a3 a9) 3)
def WO1__32 (D : Dom) (a1 : D.Z) (a3 : D.L) (a4 : D.Z) (a5 : D.Z) (a7 : D.L) (a9 : D.Z) (a10 : D.L) : D.B := (D.bnot (D.zeq (WO1__13 D a3 a4 a5 a9 a10) (WO1__31 D a1 a3 a7 a9)))
def WO1__33 (D : Dom) (a1 : D.Z) (a3 : D.L) (a7 : D.L) (a9 : D.Z) : D.Z := (D.lz (WO1__24 D a1 a3 a7 a9) (WO1__18 D a1 a3 a9) 4)
def WO1__34 (D : Dom) (a1 : D.Z) (a3 : D.L) (a4 : D.Z) (a5 : D.Z) (a7 : D.L) (a9 : D.Z) (a10 : D.L) : D.B := (D.bnot (D.zeq (WO1__14 D a3 a4 a5 a9 a10) (WO1__33 D a1 a3 a7 a9)))
def WO1__35 (D : Dom) (a3 : D.L) (a4 : D.Z) (a5 : D.Z) (a9 : D.Z) (a10 : D.L) : D.F := (S24_0 D (WO1__23 D a3 a4 a5 a9 a10) (WO1__13 D a3 a4 a5 a9 a10) (WO1__14 D a3 a4 a5 a9 a10))
def WO1__36 (D : Dom) (a3 : D.L) (a4 : D.Z) (a5 : D.Z) (a9 : D.Z) (a10 : D.L) : D.F := (S24_1 D (WO1__26 D a3 a4 a5 a9 a10) (WO1__13 D a3 a4 a5 a9 a10) (WO1__14 D a3 a4 a5 a9 a10))
def WO1__37 (D : Dom) (a3 : D.L) (a4 : D.Z) (a5 : D.Z) (a9 : D.Z) (a10 : D.L) : D.F := (S24_2 D (WO1__28 D a3 a4 a5 a9 a10) (WO1__13 D a3 a4 a5 a9 a10) (WO1__14 D a3 a4 a5 a9 a10))
def WO1__38 (D : Dom) (a0 : D.Z) (a1 : D.Z) (a2 : D.Z) (a3 : D.L) (a4 : D.Z) (a5 : D.Z) (a6 : D.Z) (a7 : D.L) (a9 : D.Z) (a10 : D.L) : D.B := (D.bite (D.bite (WO1__0 D a0 a9) (D.bite (WO1__3 D a3 a4 a5 a6 a9) (D.bite (WO1__7 D a1 a2 a3 a4 a5 a6 a9) (D.band (D.bnot (WO1__16 D a1 a2 a3 a4 a5 a9 a10)) (D.bite (WO1__17 D a1 a2 a3 a4 a5 a9 a10) (D.bc true) (D.bite (WO1__19 D a1 a3 a7 a9) (D.bite (WO1__21 D a1 a3 a7 a9) (D.bite (WO1__3 D a3 a4 a5 a6 a9) (D.band (D.bnot (WO1__22 D a3 a4 a5 a9)) (D.bite (WO1__3 D a3 a4 a5 a6 a9) (D.bite (WO1__20 D a1 a3 a7 a9) (D.band (D.bnot (WO1__30 D a1 a3 a4 a5 a7 a9 a10)) (D.bite (WO1__3 D a3 a4 a5 a6 a9) (D.bite (WO1__20 D a1 a3 a7 a9) (D.band (D.bnot (WO1__32 D a1 a3 a4 a5 a7 a9 a10)) (D.bite (WO1__3 D a3 a4 a5 a6 a9) (D.bite (WO1__20 D a1 a3 a7 a9) (D.band (D.bnot (WO1__34 D a1 a3 a4 a5 a7 a9 a10)) (D.bite (WO1__20 D a1 a3 a7 a9) (D.band (D.bnot (D.bnot (D.band (D.feq (WO1__35 D a3 a4 a5 a9 a10) (S17_0 D (WO1__25 D a1 a3 a7 a9) (WO1__31 D a1 a3 a7 a9) (WO1__33 D a1 a3 a7 a9))) (D.band (D.feq (WO1__36 D a3 a4 a5 a9 a10) (S17_1 D (WO1__27 D a1 a3 a7 a9) (WO1__31 D a1 a3 a7 a9) (WO1__33 D a1 a3 a7 a9))) (D.band (D.feq (WO1__37 D a3 a4 a5 a9 a10) (S17_2 D (WO1__29 D a1 a3 a7 a9) (WO1__31 D a1 a3 a7 a9) (WO1__33 D a1 a3 a7 a9))) (D.bc true)))))) (D.bnot (D.bnot (S18_0 D (WO1__35 D a3 a4 a5 a9 a10) (WO1__36 D a3 a4 a5 a9 a10) (WO1__37 D a3 a4 a5 a9 a10))))) (D.bc true))) (D.bc true)) (D.bc true))) (D.bc true)) (D.bc true))) (D.bc true)) (D.bc true))) (D.bc true)) (D.bc true)) (D.bc true)))) (D.bc true)) (D.bc true)) (D.bc true)) (D.band (WO1__0 D a0 a9) (D.band (WO1__3 D a3 a4 a5 a6 a9) (D.band (WO1__7 D a1 a2 a3 a4 a5 a6 a9) (D.bite (WO1__16 D a1 a2 a3 a4 a5 a9 a10) (D.bc true) (D.bite (WO1__17 D a1 a2 a3 a4 a5 a9 a10) (D.bc true) (D.band (WO1__19 D a1 a3 a7 a9) (D.band (WO1__21 D a1 a3 a7 a9) (D.band (WO1__3 D a3 a4 a5 a6 a9) (D.bite (WO1__22 D a3 a4 a5 a9) (D.bc true) (D.band (WO1__3 D a3 a4 a5 a6 a9) (D.band (WO1__20 D a1 a3 a7 a9) (D.bite (WO1__30 D a1 a3 a4 a5 a7 a9 a10) (D.bc true) (D.band (WO1__3 D a3 a4 a5 a6 a9) (D.band (WO1__20 D a1 a3 a7 a9) (D.bite (WO1__32 D a1 a3 a4 a5 a7 a9 a10) (D.bc true) (D.band (WO1__3 D a3 a4 a5 a6 a9) (D.band (WO1__20 D a1 a3 a7 a9) (D.bite (WO1__34 D a1 a3 a4 a5 a7 a9 a10) (D.bc true) (WO1__20 D a1 a3 a7 a9))))))))))))))))))) (D.bc true))
def O1_ (D : Dom) (a0 : D.Z) (a1 : D.Z) (a2 : D.Z) (a3 : D.L) (a4 : D.Z) (a5 : D.Z) (a6 : D.Z) (a7 : D.L) (a9 : D.Z) (a10 : D.L) : D.B := (D.bite (D.bite (D.zlt a9 a0) (D.zlt a9 (D.zc 80)) (D.bc false)) (WO1__38 D a0 a1 a2 a3 a4 a5 a6 a7 a9 a10) (D.bc true))
def WN1_0_0 (D : Dom) (a3 : D.L) (a4 : D.Z) (a5 : D.Z) (a9 : D.Z) : D.B := (D.bite (D.bite (D.bite (D.zlt (D.lz a3 a9 0) (D.zc 0)) (D.bc true) (D.zlt (D.lz a3 a9 1) (D.zc 0))) (D.bc true) (D.zle a4 (D.lz a3 a9 0))) (D.bc true) (D.zle a5 (D.lz a3 a9 1)))
def WN1_0_1 (D : Dom) (a3 : D.L) (a4 : D.Z) (a9 : D.Z) : D.Z := (D.zadd .i64 (D.zmul .i64 (D.lz a3 a9 1) a4) (D.lz a3 a9 0))
def WN1_0_2 (D : Dom) (a3 : D.L) (a4 : D.Z) (a9 : D.Z) (a10 : D.L) : D.F := (S27_0 D (D.lf a10 (WN1_0_1 D a3 a4 a9) 0) (D.lf a3 a9 2))
def WN1_0_3 (D : Dom) (a3 : D.L) (a4 : D.Z) (a9 : D.Z) (a10 : D.L) : D.F := (S27_1 D (D.lf a10 (WN1_0_1 D a3 a4 a9) 1) (D.lf a3 a9 3))
def WN1_0_4 (D : Dom) (a3 : D.L) (a4 : D.Z) (a9 : D.Z) (a10 : D.L) : D.F := (S27_2 D (D.lf a10 (WN1_0_1 D a3 a4 a9) 2) (D.lf a3 a9 4))
def WN1_0_5 (D : Dom) (a3 : D.L) (a4 : D.Z) (a9 : D.Z) (a10 : D.L) : D.L := (D.lput a10 (WN1_0_1 D a3 a4 a9) 0 [.f (WN1_0_2 D a3 a4 a9 a10), .f (WN1_0_3 D a3 a4 a9 a10), .f (WN1_0_4 D a3 a4 a9 a10)])
def WN1_0_6 (D : Dom) (a3 : D.L) (a4 : D.Z) (a5 : D.Z) (a9 : D.Z) (a10 : D.L) : D.L := (D.lite (WN1_0_0 D a3 a4 a5 a9) a10 (D.lite (D.bite (S28_0 D (D.lf a3 a9 2) (D.lf a3 a9 3) (D.lf a3 a9 4)) (S28_0 D (WN1_0_2 D a3 a4 a9 a10) (WN1_0_3 D a3 a4 a9 a10) (WN1_0_4 D a3 a4 a9 a10)) (D.bc false)) (D.lput (WN1_0_5 D a3 a4 a9 a10) (WN1_0_1 D a3 a4 a9) 3 [.z (D.zadd .i64 (D.lz (WN1_0_5 D a3 a4 a9 a10) (WN1_0_1 D a3 a4 a9) 3) (D.zc 1))]) (D.lput a10 (WN1_0_1 D a3 a4 a9) 4 [.z (D.zadd .i64 (D.lz a10 (WN1_0_1 D a3 a4 a9) 4) (D.zc 1))])))
def WN1_0_7 (D : Dom) (a1 : D.Z) (a3 : D.L) (a9 : D.Z) : D.Z := (D.zadd .i64 (D.zmul .i64 (D.lz a3 a9 1) a1) (D.lz a3 a9 0))
def N1_0 (D : Dom) (a1 : D.Z) (a2 : D.Z) (a3 : D.L) (a4 : D.Z) (a5 : D.Z) (a7 : D.L) (a9 : D.Z) (a10 : D.L) : D.L := (D.lite (D.band (D.bnot (D.bite (D.bite (D.bite (D.zle (D.zc 0) (D.lz a3 a9 0)) (D.zle (D.zc 0) (D.lz a3 a9 1)) (D.bc false)) (D.zlt (D.lz a3 a9 0) a1) (D.bc false)) (D.zlt (D.lz a3 a9 1) a2) (D.bc false))) (D.band (D.bnot (D.bnot (D.zeq (D.zite (WN1_0_0 D a3 a4 a5 a9) (D.zc 3) (D.zc 0)) (D.zc 3)))) (D.bnot (D.bnot (D.zeq (D.zadd .i64 (D.zite (WN1_0_0 D a3 a4 a5 a9) (D.zc 0) (D.lz (WN1_0_6 D a3 a4 a5 a9 a10) (WN1_0_1 D a3 a4 a9) 3)) (D.zite (WN1_0_0 D a3 a4 a5 a9) (D.zc 0) (D.lz (WN1_0_6 D a3 a4 a5 a9 a10) (WN1_0_1 D a3 a4 a9) 4))) (D.zc 0)))))) a7 (D.lput (D.lcat D.lnil a7) (WN1_0_7 D a1 a3 a9) 0 [.f (S15_0 D (D.lf a7 (WN1_0_7 D a1 a3 a9) 0) (D.lf a7 (WN1_0_7 D a1 a3 a9) 1) (D.lf a7 (WN1_0_7 D a1 a3 a9) 2) (D.lf a3 a9 2) (D.lf a3 a9 3) (D.lf a3 a9 4)), .f (S15_1 D (D.lf a7 (WN1_0_7 D a1 a3 a9) 0) (D.lf a7 (WN1_0_7 D a1 a3 a9) 1) (D.lf a7 (WN1_0_7 D a1 a3 a9) 2) (D.lf a3 a9 2) (D.lf a3 a9 3) (D.lf a3 a9 4)), .f (S15_2 D (D.lf a7 (WN1_0_7 D a1 a3 a9) 0) (D.lf a7 (WN1_0_7 D a1 a3 a9) 1) (D.lf a7 (WN1_0_7 D a1 a3 a9) 2) (D.lf a3 a9 2) (D.lf a3 a9 3) (D.lf a3 a9 4)), .z (S15_3 D (D.lf a7 (WN1_0_7 D a1 a3 a9) 0) (D.lf a7 (WN1_0_7 D a1 a3 a9) 1) (D.lf a7 (WN1_0_7 D a1 a3 a9) 2) (D.lz a7 (WN1_0_7 D a1 a3 a9) 3) (D.lf a3 a9 2) (D.lf a3 a9 3) (D.lf a3 a9 4)), .z (S15_4 D (D.lf a7 (WN1_0_7 D a1 a3 a9) 0) (D.lf a7 (WN1_0_7 D a1 a3 a9) 1) (D.lf a7 (WN1_0_7 D a1 a3 a9) 2) (D.lz a7 (WN1_0_7 D a1 a3 a9) 4) (D.lf a3 a9 2) (D.lf a3 a9 3) (D.lf a3 a9 4))]))
def WN1_1_0 (D : Dom) (a3 : D.L) (a4 : D.Z) (a5 : D.Z) (a9 : D.Z) : D.B := (D.bite (D.bite (D.bite (D.zlt (D.lz a3 a9 0) (D.zc 0)) (D.bc true) (D.zlt (D.lz a3 a9 1) (D.zc 0))) (D.bc true) (D.zle a4 (D.lz a3 a9 0))) (D.bc true) (D.zle a5 (D.lz a3 a9 1)))
def WN1_1_1 (D : Dom) (a3 : D.L) (a4 : D.Z) (a9 : D.Z) : D.Z := (D.zadd .i64 (D.zmul .i64 (D.lz a3 a9 1) a4) (D.lz a3 a9 0))
def WN1_1_2 (D : Dom) (a3 : D.L) (a4 : D.Z) (a9 : D.Z) (a10 : D.L) : D.F := (S27_0 D (D.lf a10 (WN1_1_1 D a3 a4 a9) 0) (D.lf a3 a9 2))
def WN1_1_3 (D : Dom) (a3 : D.L) (a4 : D.Z) (a9 : D.Z) (a10 : D.L) : D.F := (S27_1 D (D.lf a10 (WN1_1_1 D a3 a4 a9) 1) (D.lf a3 a9 3))
def WN1_1_4 (D : Dom) (a3 : D.L) (a4 : D.Z) (a9 : D.Z) (a10 : D.L) : D.F := (S27_2 D (D.lf a10 (WN1_1_1 D a3 a4 a9) 2) (D.lf a3 a9 4))
def WN1_1_5 (D : Dom) (a3 : D.L) (a4 : D.Z) (a9 : D.Z) (a10 : D.L) : D.L := (D.lput a10 (WN1_1_1 D a3 a4 a9) 0 [.f (WN1_1_2 D a3 a4 a9 a10), .f (WN1_1_3 D a3 a4 a9 a10), .f (WN1_1_4 D a3 a4 a9 a10)])
def WN1_1_6 (D : Dom) (a3 : D.L) (a4 : D.Z) (a5 : D.Z) (a9 : D.Z) (a10 : D.L) : D.L := (D.lite (WN1_1_0 D a3 a4 a5 a9) a10 (D.lite (D.bite (S28_0 D (D.lf a3 a9 2) (D.lf a3 a9 3) (D.lf a3 a9 4)) (S28_0 D (WN1_1_2 D a3 a4 a9 a10) (WN1_1_3 D a3 a4 a9 a10) (WN1_1_4 D a3 a4 a9 a10)) (D.bc false)) (D.lput (WN1_1_5 D a3 a4 a9 a10) (WN1_1_1 D a3 a4 a9) 3 [.z (D.zadd .i64 (D.lz (WN1_1_5 D a3 a4 a9 a10) (WN1_1_1 D a3 a4 a9) 3) (D.zc 1))]) (D.lput a10 (WN1_1_1 D a3 a4 a9) 4 [.z (D.zadd .i64 (D.lz a10 (WN1_1_1 D a3 a4 a9) 4) (D.zc 1))])))
def N1_1 (D : Dom) (a1 : D.Z) (a2 : D.Z) (a3 : D.L) (a4 : D.Z) (a5 : D.Z) (a8 : D.B) (a9 : D.Z) (a10 : D.L) : D.B := (D.bite (D.band (D.bnot (D.bite (D.bite (D.bite (D.zle (D.zc 0) (D.lz a3 a9 0)) (D.zle (D.zc 0) (D.lz a3 a9 1)) (D.bc false)) (D.zlt (D.lz a3 a9 0) a1) (D.bc false)) (D.zlt (D.lz a3 a9 1) a2) (D.bc false))) (D.band (D.bnot (D.bnot (D.zeq (D.zite (WN1_1_0 D a3 a4 a5 a9) (D.zc 3) (D.zc 0)) (D.zc 3)))) (D.bnot (D.bnot (D.zeq (D.zadd .i64 (D.zite (WN1_1_0 D a3 a4 a5 a9) (D.zc 0) (D.lz (WN1_1_6 D a3 a4 a5 a9 a10) (WN1_1_1 D a3 a4 a9) 3)) (D.zite (WN1_1_0 D a3 a4 a5 a9) (D.zc 0) (D.lz (WN1_1_6 D a3 a4 a5 a9 a10) (WN1_1_1 D a3 a4 a9) 4))) (D.zc 0)))))) a8 a8)
def N1_2 (D : Dom) (a9 : D.Z) : D.Z := (D.zadd .i64 a9 (D.zc 1))
def WN1_3_0 (D : Dom) (a3 : D.L) (a4 : D.Z) (a5 : D.Z) (a9 : D.Z) : D.B := (D.bite (D.bite (D.bite (D.zlt (D.lz a3 a9 0) (D.zc 0)) (D.bc true) (D.zlt (D.lz a3 a9 1) (D.zc 0))) (D.bc true) (D.zle a4 (D.lz a3 a9 0))) (D.bc true) (D.zle a5 (D.lz a3 a9 1)))
def WN1_3_1 (D : Dom) (a3 : D.L) (a4 : D.Z) (a9 : D.Z) : D.Z := (D.zadd .i64 (D.zmul .i64 (D.lz a3 a9 1) a4) (D.lz a3 a9 0))
def WN1_3_2 (D : Dom) (a3 : D.L) (a4 : D.Z) (a9 : D.Z) (a10 : D.L) : D.F := (S27_0 D (D.lf a10 (WN1_3_1 D a3 a4 a9) 0) (D.lf a3 a9 2))
def WN1_3_3 (D : Dom) (a3 : D.L) (a4 : D.Z) (a9 : D.Z) (a10 : D.L) : D.F := (S27_1 D (D.lf a10 (WN1_3_1 D a3 a4 a9) 1) (D.lf a3 a9 3))
def WN1_3_4 (D : Dom) (a3 : D.L) (a4 : D.Z) (a9 : D.Z) (a10 : D.L) : D.F := (S27_2 D (D.lf a10 (WN1_3_1 D a3 a4 a9) 2) (D.lf a3 a9 4))
def WN1_3_5 (D : Dom) (a3 : D.L) (a4 : D.Z) (a9 : D.Z) (a10 : D.L) : D.L := (D.lput a10 (WN1_3_1 D a3 a4 a9) 0 [.f (WN1_3_2 D a3 a4 a9 a10), .f (WN1_3_3 D a3 a4 a9 a10), .f (WN1_3_4 D a3 a4 a9 a10)])
def WN1_3_6 (D : Dom) (a3 : D.L) (a4 : D.Z) (a5 : D.Z) (a9 : D.Z) (a10 : D.L) : D.L := (D.lite (WN1_3_0 D a3 a4 a5 a9) a10 (D.lite (D.bite (S28_0 D (D.lf a3 a9 2) (D.lf a3 a9 3) (D.lf a3 a9 4)) (S28_0 D (WN1_3_2 D a3 a4 a9 a10) (WN1_3_3 D a3 a4 a9 a10) (WN1_3_4 D a3 a4 a9 a10)) (D.bc false)) (D.lput (WN1_3_5 D a3 a4 a9 a10) (WN1_3_1 D a3 a4 a9) 3 [.z (D.zadd .i64 (D.lz (WN1_3_5 D a3 a4 a9 a10) (WN1_3_1 D a3 a4 a9) 3) (D.zc 1))]) (D.lput a10 (WN1_3_1 D a3 a4 a9) 4 [.z (D.zadd .i64 (D.lz a10 (WN1_3_1 D a3 a4 a9) 4) (D.zc 1))])))
def N1_3 (D : Dom) (a1 : D.Z) (a2 : D.Z) (a3 : D.L) (a4 : D.Z) (a5 : D.Z) (a9 : D.Z) (a10 : D.L) : D.L := (D.lite (D.band (D.bnot (D.bite (D.bite (D.bite (D.zle (D.zc 0) (D.lz a3 a9 0)) (D.zle (D.zc 0) (D.lz a3 a9 1)) (D.bc false)) (D.zlt (D.lz a3 a9 0) a1) (D.bc false)) (D.zlt (D.lz a3 a9 1) a2) (D.bc false))) (D.band (D.bnot (D.bnot (D.zeq (D.zite (WN1_3_0 D a3 a4 a5 a9) (D.zc 3) (D.zc 0)) (D.zc 3)))) (D.bnot (D.bnot (D.zeq (D.zadd .i64 (D.zite (WN1_3_0 D a3 a4 a5 a9) (D.zc 0) (D.lz (WN1_3_6 D a3 a4 a5 a9 a10) (WN1_3_1 D a3 a4 a9) 3)) (D.zite (WN1_3_0 D a3 a4 a5 a9) (D.zc 0) (D.lz (WN1_3_6 D a3 a4 a5 a9 a10) (WN1_3_1 D a3 a4 a9) 4))) (D.zc 0)))))) (WN1_3_6 D a3 a4 a5 a9 a10) (WN1_3_6 D a3 a4 a5 a9 a10))
def G1 (D : Dom) (a0 : D.Z) (a1 : D.Z) (a2 : D.Z) (a3 : D.L) (a4 : D.Z) (a5 : D.Z) (a6 : D.Z) (p : List (PD D)) : D.B × D.B × List (PD D) := (C1 D a0 a1 a2 a3 a4 a5 a6 (nthL p 0) (nthZ p 2) (nthL p 3), O1_ D a0 a1 a2 a3 a4 a5 a6 (nthL p 0) (nthZ p 2) (nthL p 3), [.l (N1_0 D a1 a2 a3 a4 a5 (nthL p 0) (nthZ p 2) (nthL p 3)), .b (N1_1 D a1 a2 a3 a4 a5 (nthB p 1) (nthZ p 2) (nthL p 3)), .z (N1_2 D (nthZ p 2)), .l (N1_3 D a1 a2 a3 a4 a5 (nthZ p 2) (nthL p 3))])
def L1 (D : Dom) (a0 : D.Z) (a1 : D.Z) (a2 : D.Z) (a3 : D.L) (a4 : D.Z) (a5 : D.Z) (a6 : D.Z) (a7 : D.L) (a8 : D.B) (a9 : D.Z) (a10 : D.L) : List (PD D) := D.last (G1 D a0 a1 a2 a3 a4 a5 a6) [.l a7, .b a8, .z a9, .l a10]
def E1 (D : Dom) (a0 : D.Z) (a1 : D.Z) (a2 : D.Z) (a3 : D.L) (a4 : D.Z) (a5 : D.Z) (a6 : D.Z) (a7 : D.L) (a8 : D.B) (a9 : D.Z) (a10 : D.L) : D.B := D.ends (G1 D a0 a1 a2 a3 a4 a5 a6) [.l a7, .b a8, .z a9, .l a10]

-- loop 2
def C2 (D : Dom) (a2 : D.Z) (a5 : D.Z) : D.B := (D.zlt a5 a2)
def O2_ (D : Dom) (a0 : D.Z) (a1 : D.Z) (a2 : D.Z) (a3 : D.L) (a4 : D.L) (a5 : D.Z) : D.B := (D.bite (D.zlt a5 a2) (D.band (D.band (D.zle (D.zc 0) a5) (D.zlt a5 a1)) (D.zle (D.llen (D.lapp a4 [[.z (D.lz a3 (D.zadd .i64 a0 a5) 4)]])) (D.zc 1073741824))) (D.bc true))
def N2_0 (D : Dom) (a0 : D.Z) (a3 : D.L) (a4 : D.L) (a5 : D.Z) : D.L := (D.lapp a4 [[.z (D.lz a3 (D.zadd .i64 a0 a5) 4)]])
def N2_1 (D : Dom) (a5 : D.Z) : D.Z := (D.zadd .i64 a5 (D.zc 1))
def G2 (D : Dom) (a0 : D.Z) (a1 : D.Z) (a2 : D.Z) (a3 : D.L) (p : List (PD D)) : D.B × D.B × List (PD D) := (C2 D a2 (nthZ p 1), O2_ D a0 a1 a2 a3 (nthL p 0) (nthZ p 1), [.l (N2_0 D a0 a3 (nthL p 0) (nthZ p 1)), .z (N2_1 D (nthZ p 1))])
def L2 (D : Dom) (a0 : D.Z) (a1 : D.Z) (a2 : D.Z) (a3 : D.L) (a4 : D.L) (a5 : D.Z) : List (PD D) := D.last (G2 D a0 a1 a2 a3) [.l a4, .z a5]
def E2 (D : Dom) (a0 : D.Z) (a1 : D.Z) (a2 : D.Z) (a3 : D.L) (a4 : D.L) (a5 : D.Z) : D.B := D.ends (G2 D a0 a1 a2 a3) [.l a4, .z a5]

-- loop 3
def C3 (D : Dom) (a0 : D.Z) (a1 : D.Z) (a2 : D.L) (a3 : D.L) (a5 : D.Z) : D.B := (D.band (D.zlt a5 a0) (D.bite (D.bite (D.zle a1 a5) (D.bc true) (D.band (D.band (D.zle (D.zc 0) a5) (D.zlt a5 a1)) (D.band (D.zle (D.zc 0) a5) (D.zlt a5 a0)))) (D.bnot (D.bite (D.zle a1 a5) (D.bc true) (D.bnot (D.zeq (D.lz a3 a5 0) (D.lz a2 a5 4))))) (D.bc true)))
def O3_ (D : Dom) (a0 : D.Z) (a1 : D.Z) (a5 : D.Z) : D.B := (D.bite (D.zlt a5 a0) (D.bite (D.zle a1 a5) (D.bc true) (D.band (D.band (D.zle (D.zc 0) a5) (D.zlt a5 a1)) (D.band (D.zle (D.zc 0) a5) (D.zlt a5 a0)))) (D.bc true))
def N3_1 (D : Dom) (a5 : D.Z) : D.Z := (D.zadd .i64 a5 (D.zc 1))
def G3 (D : Dom) (a0 : D.Z) (a1 : D.Z) (a2 : D.L) (a3 : D.L) (p : List (PD D)) : D.B × D.B × List (PD D) := (C3 D a0 a1 a2 a3 (nthZ p 1), O3_ D a0 a1 (nthZ p 1), [.b (nthB p 0), .z (N3_1 D (nthZ p 1))])
def L3 (D : Dom) (a0 : D.Z) (a1 : D.Z) (a2 : D.L) (a3 : D.L) (a4 : D.B) (a5 : D.Z) : List (PD D) := D.last (G3 D a0 a1 a2 a3) [.b a4, .z a5]
def E3 (D : Dom) (a0 : D.Z) (a1 : D.Z) (a2 : D.L) (a3 : D.L) (a4 : D.B) (a5 : D.Z) : D.B := D.ends (G3 D a0 a1 a2 a3) [.b a4, .z a5]

-- loop 4
def C4 (D : Dom) (a0 : D.Z) (a3 : D.Z) : D.B := (D.zlt a3 a0)
def O4_ (D : Dom) (a0 : D.Z) (a1 : D.L) (a2 : D.L) (a3 : D.Z) : D.B := (D.bite (D.zlt a3 a0) (D.band (D.band (D.zle (D.zc 0) a3) (D.zlt a3 a0)) (D.zle (D.llen (D.lapp a2 [[.f (S17_0 D (D.lf a1 a3 0) (D.lz a1 a3 3) (D.lz a1 a3 4))], [.f (S17_1 D (D.lf a1 a3 1) (D.lz a1 a3 3) (D.lz a1 a3 4))], [.f (S17_2 D (D.lf a1 a3 2) (D.lz a1 a3 3) (D.lz a1 a3 4))]])) (D.zc 1073741824))) (D.bc true))
def N4_0 (D : Dom) (a1 : D.L) (a2 : D.L) (a3 : D.Z) : D.L := (D.lapp a2 [[.f (S17_0 D (D.lf a1 a3 0) (D.lz a1 a3 3) (D.lz a1 a3 4))], [.f (S17_1 D (D.lf a1 a3 1) (D.lz a1 a3 3) (D.lz a1 a3 4))], [.f (S17_2 D (D.lf a1 a3 2) (D.lz a1 a3 3) (D.lz a1 a3 4))]])
def N4_1 (D : Dom) (a3 : D.Z) : D.Z := (D.zadd .i64 a3 (D.zc 1))
def G4 (D : Dom) (a0 : D.Z) (a1 : D.L) (p : List (PD D)) : D.B × D.B × List (PD D) := (C4 D a0 (nthZ p 1), O4_ D a0 a1 (nthL p 0) (nthZ p 1), [.l (N4_0 D a1 (nthL p 0) (nthZ p 1)), .z (N4_1 D (nthZ p 1))])
def L4 (D : Dom) (a0 : D.Z) (a1 : D.L) (a2 : D.L) (a3 : D.Z) : List (PD D) := D.last (G4 D a0 a1) [.l a2, .z a3]
def E4 (D : Dom) (a0 : D.Z) (a1 : D.L) (a2 : D.L) (a3 : D.Z) : D.B := D.ends (G4 D a0 a1) [.l a2, .z a3]

-- loop 5
def C5 (D : Dom) (a0 : D.Z) (a1 : D.Z) (a2 : D.L) (a3 : D.L) (a5 : D.Z) : D.B := (D.band (D.zlt a5 a0) (D.bite (D.band (D.band (D.zle (D.zc 0) a5) (D.zlt a5 a0)) (D.band (D.zle (D.zc 0) a5) (D.zlt a5 a1))) (D.bnot (D.bnot (S34_0 D (D.lf a2 a5 0) (D.lf a3 a5 0)))) (D.bc true)))
def O5_ (D : Dom) (a0 : D.Z) (a1 : D.Z) (a5 : D.Z) : D.B := (D.bite (D.zlt a5 a0) (D.band (D.band (D.zle (D.zc 0) a5) (D.zlt a5 a0)) (D.band (D.zle (D.zc 0) a5) (D.zlt a5 a1))) (D.bc true))
def N5_1 (D : Dom) (a5 : D.Z) : D.Z := (D.zadd .i64 a5 (D.zc 1))
def G5 (D : Dom) (a0 : D.Z) (a1 : D.Z) (a2 : D.L) (a3 : D.L) (p : List (PD D)) : D.B × D.B × List (PD D) := (C5 D a0 a1 a2 a3 (nthZ p 1), O5_ D a0 a1 (nthZ p 1), [.b (nthB p 0), .z (N5_1 D (nthZ p 1))])
def L5 (D : Dom) (a0 : D.Z) (a1 : D.Z) (a2 : D.L) (a3 : D.L) (a4 : D.B) (a5 : D.Z) : List (PD D) := D.last (G5 D a0 a1 a2 a3) [.b a4, .z a5]
def E5 (D : Dom) (a0 : D.Z) (a1 : D.Z) (a2 : D.L) (a3 : D.L) (a4 : D.B) (a5 : D.Z) : D.B := D.ends (G5 D a0 a1 a2 a3) [.b a4, .z a5]

-- loop 6
def C6 (D : Dom) (a1 : D.Z) (a4 : D.Z) : D.B := (D.zlt a4 a1)
def O6_ (D : Dom) (a0 : D.Z) (a1 : D.Z) (a2 : D.L) (a3 : D.L) (a4 : D.Z) : D.B := (D.bite (D.zlt a4 a1) (D.band (D.band (D.zle (D.zc 0) a4) (D.zlt a4 a1)) (D.zle (D.llen (D.lapp a3 [[.f (S17_0 D (D.lf a2 (D.zadd .i64 a0 a4) 0) (D.lz a2 (D.zadd .i64 a0 a4) 3) (D.lz a2 (D.zadd .i64 a0 a4) 4))], [.f (S17_1 D (D.lf a2 (D.zadd .i64 a0 a4) 1) (D.lz a2 (D.zadd .i64 a0 a4) 3) (D.lz a2 (D.zadd .i64 a0 a4) 4))], [.f (S17_2 D (D.lf a2 (D.zadd .i64 a0 a4) 2) (D.lz a2 (D.zadd .i64 a0 a4) 3) (D.lz a2 (D.zadd .i64 a0 a4) 4))]])) (D.zc 1073741824))) (D.bc true))
def N6_0 (D : Dom) (a0 : D.Z) (a2 : D.L) (a3 : D.L) (a4 : D.Z) : D.L := (D.lapp a3 [[.f (S17_0 D (D.lf a2 (D.zadd .i64 a0 a4) 0) (D.lz a2 (D.zadd .i64 a0 a4) 3) (D.lz a2 (D.zadd .i64 a0 a4) 4))], [.f (S17_1 D (D.lf a2 (D.zadd .i64 a0 a4) 1) (D.lz a2 (D.zadd .i64 a0 a4) 3) (D.lz a2 (D.zadd .i64 a0 a4) 4))], [.f (S17_2 D (D.lf a2 (D.zadd .i64 a0 a4) 2) (D.lz a2 (D.zadd .i64 a0 a4) 3) (D.lz a2 (D.zadd .i64 a0 a4) 4))]])
def N6_1 (D : Dom) (a4 : D.Z) : D.Z := (D.zadd .i64 a4 (D.zc 1))
def G6 (D : Dom) (a0 : D.Z) (a1 : D.Z) (a2 : D.L) (p : List (PD D)) : D.B × D.B × List (PD D) := (C6 D a1 (nthZ p 1), O6_ D a0 a1 a2 (nthL p 0) (nthZ p 1), [.l (N6_0 D a0 a2 (nthL p 0) (nthZ p 1)), .z (N6_1 D (nthZ p 1))])
def L6 (D : Dom) (a0 : D.Z) (a1 : D.Z) (a2 : D.L) (a3 : D.L) (a4 : D.Z) : List (PD D) := D.last (G6 D a0 a1 a2) [.l a3, .z a4]
def E6 (D : Dom) (a0 : D.Z) (a1 : D.Z) (a2 : D.L) (a3 : D.L) (a4 : D.Z) : D.B := D.ends (G6 D a0 a1 a2) [.l a3, .z a4]
def js_4 : List (Nat × Nat × HSh) := js_3 ++ [(11, 2000000, ⟨6, 8, [.var (.si .i64 ())], [(1, .row [.f, .f, .f, .z .i64, .z .i64])], [], []⟩)]
def js_5 : List (Nat × Nat × HSh) := js_4 ++ [(23, 2000000, ⟨8, 9, [.var (.agg [.fl (), .fl (), .fl (), .si .i64 (), .si .i64 ()])], [], [], []⟩)]
def js_6 : List (Nat × Nat × HSh) := js_5 ++ [(23, 2000000, ⟨9, 10, [.var (.agg [.fl (), .fl (), .fl (), .si .i64 (), .si .i64 ()])], [], [], []⟩)]
def js_7 : List (Nat × Nat × HSh) := js_6 ++ [(23, 2000000, ⟨12, 13, [.var (.agg [.fl (), .fl (), .fl (), .si .i64 (), .si .i64 ()])], [], [], []⟩)]
def js_8 : List (Nat × Nat × HSh) := js_7 ++ [(23, 2000000, ⟨15, 16, [.var (.agg [.fl (), .fl (), .fl (), .si .i64 (), .si .i64 ()])], [], [], []⟩)]
def js_9 : List (Nat × Nat × HSh) := js_8 ++ [(23, 2000000, ⟨16, 17, [.var (.agg [.fl (), .fl (), .fl (), .si .i64 (), .si .i64 ()])], [], [], []⟩)]
def js_10 : List (Nat × Nat × HSh) := js_9 ++ [(23, 2000000, ⟨17, 18, [.var (.agg [.fl (), .fl (), .fl (), .si .i64 (), .si .i64 ()])], [], [], []⟩)]
def js_11 : List (Nat × Nat × HSh) := js_10 ++ [(4, 1000001, ⟨5, 18, [.ctx, .ctx, .ctx, .ctx, .ctx, .ctx, .var (.sb ()), .ctx, .ctx, .ctx, .ctx, .slot [.f, .f, .f, .z .i64, .z .i64] 5, .ctx, .drop, .var (.sb ()), .var (.si .i64 ()), .drop, .drop, .ctx, .ctx, .ctx, .ctx, .ctx, .ctx, .ctx, .ctx, .ctx, .ctx, .ctx, .ctx, .ctx, .ctx, .ctx, .ctx, .ctx, .ctx, .ctx, .ctx, .ctx, .ctx, .ctx, .ctx, .ctx, .ctx, .ctx, .ctx, .ctx, .ctx, .ctx, .ctx, .ctx, .ctx, .ctx, .ctx, .ctx, .ctx, .ctx, .ctx, .ctx, .var (.sslice 0 .part none () 5), .var (.si .i64 ()), .var (.sptr 0 () 5 0), .var (.agg [.si .i64 (), .si .i64 (), .fl (), .fl (), .fl ()]), .drop, .var (.si .i64 ()), .var (.sb ()), .var (.sb ()), .drop, .drop, .drop, .var (.sb ()), .var (.sb ()), .drop, .drop, .drop, .drop, .var (.sb ()), .var (.sb ()), .drop, .drop, .drop, .drop, .var (.sb ()), .var (.ptr 2 0), .drop, .var (.si .i64 ()), .drop, .var (.si .i64 ()), .drop, .var (.agg [.fl (), .fl (), .fl ()]), .var (.si .i64 ()), .var (.sb ()), .var (.sb ()), .drop, .drop, .drop, .drop, .drop, .drop, .drop, .drop, .drop, .drop, .drop, .drop, .drop, .drop, .drop, .drop, .drop, .drop, .drop, .drop, .drop, .drop, .drop, .drop, .drop, .drop, .drop, .drop, .drop, .drop, .drop, .drop, .drop, .drop, .drop, .drop, .drop, .drop, .drop, .drop, .drop, .drop, .drop, .drop, .drop, .drop, .drop, .drop, .drop, .drop, .drop, .drop, .drop, .drop, .drop, .drop, .drop, .drop, .drop, .drop, .drop, .drop, .drop, .drop, .drop, .drop, .drop, .drop, .drop, .drop, .drop, .drop, .drop, .drop, .drop, .drop, .drop, .drop, .drop, .drop, .drop, .drop, .drop, .drop, .drop, .drop, .drop, .drop, .drop, .drop, .drop, .drop, .drop, .drop, .drop, .drop, .drop, .drop, .drop, .ctx, .ctx, .ctx, .ctx, .ctx, .ctx, .ctx, .ctx, .ctx, .ctx, .ctx, .ctx, .ctx, .ctx, .ctx, .ctx, .ctx, .ctx, .ctx, .ctx, .ctx, .ctx, .ctx, .ctx, .ctx, .ctx, .ctx, .ctx, .ctx, .ctx, .ctx, .ctx, .ctx, .ctx, .ctx, .ctx, .ctx, .ctx, .ctx, .ctx, .ctx, .ctx, .ctx, .ctx, .ctx, .ctx, .ctx, .ctx, .ctx, .ctx, .ctx, .ctx, .ctx, .ctx, .ctx, .ctx, .ctx, .ctx], [(1, .row [.f, .f, .f, .z .i64, .z .i64])], [], [4]⟩)]
noncomputable def lt_2_11 (D : Dom) : LTb D := ltOf (ll_2 D) js_11
theorem hok_2_11 : HooksOK Try.prog (lt_2_11 R) := hok_2_3.jt
def sh_2 : HSh := ⟨4, 18, [.env (.si .u8 ()), .env (.si .u8 ()), .env (.sslice 0 .part none () 5), .env (.undef), .env (.undef), .env (.undef), .var (.sb ()), .env (.si .i64 ()), .env (.si .i64 ()), .env (.ptr 2 0), .env (.ki .i64 0), .slot [.f, .f, .f, .z .i64, .z .i64] 5, .var (.si .i64 ()), .drop, .drop, .drop, .drop, .drop, .env (.undef), .env (.undef), .env (.undef), .env (.si .u8 ()), .env (.si .u8 ()), .env (.si .i64 ()), .env (.si .i64 ()), .env (.si .u8 ()), .env (.si .u8 ()), .env (.si .i64 ()), .env (.si .i64 ()), .env (.tup [.ptr 2 0, .ki .i64 0]), .env (.si .i64 ()), .env (.si .i64 ()), .env (.tup [.ptr 2 0, .ki .i64 0]), .env (.ptr 2 0), .env (.ki .i64 0), .env (.ki .i64 0), .env (.kb false), .env (.kb false), .env (.ptr 2 0), .env (.kb false), .env (.kb false), .env (.kb false), .env (.sb ()), .env (.sb ()), .env (.sb ()), .env (.si .i64 ()), .env (.si .i64 ()), .env (.si .i64 ()), .env (.sslice 3 .whole none () 5), .drop, .drop, .drop, .drop, .drop, .drop, .drop, .drop, .drop, .drop, .drop, .drop, .drop, .drop, .drop, .drop, .drop, .drop, .drop, .drop, .drop, .drop, .drop, .drop, .drop, .drop, .drop, .drop, .drop, .drop, .drop, .drop, .drop, .drop, .drop, .drop, .drop, .drop, .drop, .drop, .drop, .drop, .drop, .drop, .drop, .drop, .drop, .drop, .drop, .drop, .drop, .drop, .drop, .drop, .drop, .drop, .drop, .drop, .drop, .drop, .drop, .drop, .drop, .drop, .drop, .drop, .drop, .drop, .drop, .drop, .drop, .drop, .drop, .drop, .drop, .drop, .drop, .drop, .drop, .drop, .drop, .drop, .drop, .drop, .drop, .drop, .drop, .drop, .drop, .drop, .drop, .drop, .drop, .drop, .drop, .drop, .drop, .drop, .drop, .drop, .drop, .drop, .drop, .drop, .drop, .drop, .drop, .drop, .drop, .drop, .drop, .drop, .drop, .drop, .drop, .drop, .drop, .drop, .drop, .drop, .drop, .drop, .drop, .drop, .drop, .drop, .drop, .drop, .drop, .drop, .drop, .drop, .drop, .drop, .drop, .drop, .drop, .drop, .drop, .drop, .drop, .drop, .drop, .env (.undef), .env (.undef), .env (.undef), .env (.undef), .env (.undef), .env (.undef), .env (.undef), .env (.undef), .env (.undef), .env (.undef), .env (.undef), .env (.undef), .env (.undef), .env (.undef), .env (.undef), .env (.undef), .env (.undef), .env (.undef), .env (.undef), .env (.undef), .env (.undef), .env (.undef), .env (.undef), .env (.undef), .env (.undef), .env (.undef), .env (.undef), .env (.undef), .env (.undef), .env (.undef), .env (.undef), .env (.undef), .env (.undef), .env (.undef), .env (.undef), .env (.undef), .env (.undef), .env (.undef), .env (.undef), .env (.undef), .env (.undef), .env (.undef), .env (.undef), .env (.undef), .env (.undef), .env (.undef), .env (.undef), .env (.undef), .env (.undef), .env (.undef), .env (.undef), .env (.undef), .env (.undef), .env (.undef), .env (.undef), .env (.undef), .env (.undef), .env (.undef)], [(1, .row [.f, .f, .f, .z .i64, .z .i64])], [(0, [.row true [.z .i64, .z .i64, .f, .f, .f] ()]), (2, [.si .i64 (), .si .i64 (), .sslice 1 .whole none () 5])], [3]⟩
def st_2 (D : Dom) (env p : List (PD D)) : D.B × D.B × List (PD D) := G1 D (nthZ env 2) (nthZ env 3) (nthZ env 4) (nthL env 22) (nthZ env 23) (nthZ env 24) (nthZ env 25) p
theorem rd_2 (D : Dom) (env vars : List (PD D)) (ctx : List (AV D)) : (sh_2.round (sh_2.st env vars ctx).h.length (evCodeH Try.prog (tbl_34 D) (lt_2_11 D) 80 4 (loopB Try.prog 4 0) (sh_2.st env vars ctx))).map Nr.step = some (st_2 D env vars) := by kernel_rfl
noncomputable def ll_3 (D : Dom) : List (LE D) := ⟨4, 0, sh_2, st_2 D, fun s => evCodeH Try.prog (tbl_34 D) (lt_2_11 D) 80 4 (loopB Try.prog 4 0) s⟩ :: ll_2 D
noncomputable def lt_3_11 (D : Dom) : LTb D := ltOf (ll_3 D) js_11
theorem hok_3_11 : HooksOK Try.prog (lt_3_11 R) := HooksOK.cons prg tok_34 hok_2_11 (by kernel_rfl) (by kernel_rfl) (rd_2 R)
def sh_3 : HSh := ⟨19, 24, [.env (.ptr 2 0), .env (.ki .i64 0), .env (.si .i64 ()), .env (.clo 33 [] [.ptr 18 0]), .env (.undef), .env (.undef), .env (.undef), .env (.undef), .env (.undef), .drop, .env (.ptr 2 0), .env (.kb false), .env (.kb false), .env (.ki .i64 0), .env (.kb false), .env (.kb false), .env (.kb false), .env (.si .i64 ()), .env (.ptr 2 0), .env (.ptr 2 0), .env (.ptr 2 1), .env (.si .i64 ()), .env (.sb ()), .env (.sb ()), .env (.ptr 2 0), .env (.ptr 2 0), .env (.ptr 2 2), .env (.sslice 1 .whole none () 5), .env (.ki .i64 0), .env (.ptr 2 0), .env (.ptr 2 0), .env (.ptr 2 0), .env (.si .i64 ()), .env (.si .i64 ()), .env (.si .i64 ()), .env (.ptr 2 0), .env (.ptr 2 0), .env (.ptr 2 0), .env (.si .i64 ()), .env (.si .i64 ()), .env (.si .i64 ()), .env (.ptr 2 0), .env (.ptr 2 0), .env (.ptr 2 0), .env (.si .i64 ()), .env (.si .i64 ()), .env (.sslice 1 .part (some ()) () 5), .env (.si .i64 ()), .var (.si .i64 ()), .drop, .drop, .drop, .drop, .drop, .drop, .drop], [(18, .cells [.slot [.z .i64] 1])], [(2, [.si .i64 (), .si .i64 (), .sslice 1 .whole none () 5]), (1, [.row false [.f, .f, .f, .z .i64, .z .i64] ()])], []⟩
def st_3 (D : Dom) (env p : List (PD D)) : D.B × D.B × List (PD D) := G2 D (nthZ env 14) (nthZ env 15) (nthZ env 16) (nthL env 20) p
theorem rd_3 (D : Dom) (env vars : List (PD D)) (ctx : List (AV D)) : (sh_3.round (sh_3.st env vars ctx).h.length (evCodeH Try.prog (tbl_34 D) (lt_3_11 D) 80 32 (loopB Try.prog 32 0) (sh_3.st env vars ctx))).map Nr.step = some (st_3 D env vars) := by kernel_rfl
noncomputable def ll_4 (D : Dom) : List (LE D) := ⟨32, 0, sh_3, st_3 D, fun s => evCodeH Try.prog (tbl_34 D) (lt_3_11 D) 80 32 (loopB Try.prog 32 0) s⟩ :: ll_3 D
noncomputable def lt_4_11 (D : Dom) : LTb D := ltOf (ll_4 D) js_11
theorem hok_4_11 : HooksOK Try.prog (lt_4_11 R) := HooksOK.cons prg tok_34 hok_3_11 (by kernel_rfl) (by kernel_rfl) (rd_3 R)
def js_12 : List (Nat × Nat × HSh) := js_11 ++ [(32, 2000000, ⟨19, 24, [.var (.tup [])], [(18, .cells [.slot [.z .i64] 1])], [], []⟩)]
noncomputable def lt_4_12 (D : Dom) : LTb D := ltOf (ll_4 D) js_12
theorem hok_4_12 : HooksOK Try.prog (lt_4_12 R) := hok_4_11.jt
def sh_4 : HSh := ⟨24, 24, [.env (.si .u8 ()), .env (.si .u8 ()), .env (.sslice 0 .part none () 5), .env (.undef), .env (.undef), .env (.undef), .var (.sb ()), .env (.si .i64 ()), .env (.si .i64 ()), .env (.ptr 2 0), .env (.ki .i64 0), .env (.sslice 4 .whole none () 5), .env (.si .i64 ()), .env (.any), .env (.any), .env (.any), .env (.any), .env (.any), .env (.sslice 19 .whole none () 1), .var (.si .i64 ()), .env (.undef), .env (.si .u8 ()), .env (.si .u8 ()), .env (.si .i64 ()), .env (.si .i64 ()), .env (.si .u8 ()), .env (.si .u8 ()), .env (.si .i64 ()), .env (.si .i64 ()), .env (.tup [.ptr 2 0, .ki .i64 0]), .env (.si .i64 ()), .env (.si .i64 ()), .env (.tup [.ptr 2 0, .ki .i64 0]), .env (.ptr 2 0), .env (.ki .i64 0), .env (.ki .i64 0), .env (.kb false), .env (.kb false), .env (.ptr 2 0), .env (.kb false), .env (.kb false), .env (.kb false), .env (.sb ()), .env (.sb ()), .env (.sb ()), .env (.si .i64 ()), .env (.si .i64 ()), .env (.si .i64 ()), .env (.sslice 3 .whole none () 5), .env (.si .i64 ()), .env (.sslice 0 .part none () 5), .env (.si .i64 ()), .env (.sb ()), .env (.sb ()), .env (.any), .env (.any), .env (.sb ()), .env (.any), .env (.any), .env (.any), .env (.any), .env (.any), .env (.any), .env (.any), .env (.any), .env (.any), .env (.any), .env (.any), .env (.any), .env (.any), .env (.any), .env (.any), .env (.any), .env (.any), .env (.any), .env (.any), .env (.any), .env (.any), .env (.any), .env (.any), .env (.any), .env (.any), .env (.any), .env (.any), .env (.any), .env (.any), .env (.any), .env (.any), .env (.any), .env (.any), .env (.any), .env (.any), .env (.any), .env (.any), .env (.any), .env (.any), .env (.any), .env (.any), .env (.any), .env (.any), .env (.any), .env (.any), .env (.any), .env (.any), .env (.any), .env (.any), .env (.any), .env (.any), .env (.any), .env (.any), .env (.any), .env (.any), .env (.any), .env (.any), .env (.any), .env (.any), .env (.any), .env (.any), .env (.any), .env (.any), .env (.any), .env (.any), .env (.any), .env (.any), .env (.any), .env (.any), .env (.any), .env (.any), .env (.any), .env (.any), .env (.any), .env (.any), .env (.any), .env (.any), .env (.any), .env (.any), .env (.any), .env (.any), .env (.any), .env (.any), .env (.any), .env (.any), .env (.any), .env (.any), .env (.any), .env (.any), .env (.any), .env (.any), .env (.any), .env (.any), .env (.any), .env (.any), .env (.any), .env (.any), .env (.any), .env (.any), .env (.any), .env (.any), .env (.any), .env (.any), .env (.any), .env (.any), .env (.any), .env (.any), .env (.any), .env (.any), .env (.any), .env (.any), .env (.any), .env (.any), .env (.any), .env (.any), .env (.any), .env (.any), .env (.any), .env (.any), .env (.any), .env (.any), .env (.any), .env (.any), .env (.any), .env (.any), .env (.any), .env (.any), .env (.any), .env (.any), .env (.any), .env (.any), .env (.any), .env (.any), .env (.any), .env (.any), .env (.ptr 2 0), .env (.sslice 19 .whole none () 1), .drop, .drop, .drop, .drop, .drop, .drop, .drop, .drop, .drop, .drop, .drop, .drop, .drop, .drop, .drop, .drop, .drop, .drop, .drop, .drop, .drop, .drop, .env (.undef), .env (.undef), .env (.undef), .env (.undef), .env (.undef), .env (.undef), .env (.undef), .env (.undef), .env (.undef), .env (.undef), .env (.undef), .env (.undef), .env (.undef), .env (.undef), .env (.undef), .env (.undef), .env (.undef), .env (.undef), .env (.undef), .env (.undef), .env (.undef), .env (.undef), .env (.undef), .env (.undef), .env (.undef), .env (.undef), .env (.undef), .env (.undef), .env (.undef), .env (.undef), .env (.undef), .env (.undef), .env (.undef), .env (.undef)], [], [(0, [.row true [.z .i64, .z .i64, .f, .f, .f] ()]), (2, [.si .i64 (), .si .i64 (), .sslice 1 .whole none () 5]), (4, [.row false [.f, .f, .f, .z .i64, .z .i64] ()]), (19, [.row false [.z .i64] ()]), (1, [.row false [.f, .f, .f, .z .i64, .z .i64] ()])], []⟩
def st_4 (D : Dom) (env p : List (PD D)) : D.B × D.B × List (PD D) := G3 D (nthZ env 5) (nthZ env 7) (nthL env 36) (nthL env 37) p
theorem rd_4 (D : Dom) (env vars : List (PD D)) (ctx : List (AV D)) : (sh_4.round (sh_4.st env vars ctx).h.length (evCodeH Try.prog (tbl_34 D) (lt_4_12 D) 80 4 (loopB Try.prog 4 2) (sh_4.st env vars ctx))).map Nr.step = some (st_4 D env vars) := by kernel_rfl
noncomputable def ll_5 (D : Dom) : List (LE D) := ⟨4, 2, sh_4, st_4 D, fun s => evCodeH Try.prog (tbl_34 D) (lt_4_12 D) 80 4 (loopB Try.prog 4 2) s⟩ :: ll_4 D
noncomputable def lt_5_12 (D : Dom) : LTb D := ltOf (ll_5 D) js_12
theorem hok_5_12 : HooksOK Try.prog (lt_5_12 R) := HooksOK.cons prg tok_34 hok_4_12 (by kernel_rfl) (by kernel_rfl) (rd_4 R)
def sh_5 : HSh := ⟨25, 31, [.env (.ptr 2 0), .env (.si .i64 ()), .env (.si .i64 ()), .env (.clo 36 [] [.ptr 24 0]), .env (.undef), .env (.undef), .env (.undef), .env (.undef), .env (.undef), .drop, .env (.ptr 2 0), .env (.kb false), .env (.kb false), .env (.si .i64 ()), .env (.sb ()), .env (.sb ()), .env (.sb ()), .env (.any), .env (.any), .env (.any), .env (.any), .env (.any), .env (.any), .env (.sb ()), .env (.ptr 2 0), .env (.ptr 2 0), .env (.ptr 2 2), .env (.sslice 1 .whole none () 5), .env (.si .i64 ()), .env (.ptr 2 0), .env (.ptr 2 0), .env (.ptr 2 0), .env (.si .i64 ()), .env (.si .i64 ()), .env (.si .i64 ()), .env (.ptr 2 0), .env (.ptr 2 0), .env (.ptr 2 0), .env (.si .i64 ()), .env (.si .i64 ()), .env (.si .i64 ()), .env (.ptr 2 0), .env (.ptr 2 0), .env (.ptr 2 0), .env (.si .i64 ()), .env (.si .i64 ()), .env (.sslice 1 .part (some ()) () 5), .env (.si .i64 ()), .var (.si .i64 ()), .drop, .drop, .drop, .drop, .drop, .drop, .drop], [(24, .cells [.slot [.f] 1])], [(2, [.si .i64 (), .si .i64 (), .sslice 1 .whole none () 5]), (1, [.row false [.f, .f, .f, .z .i64, .z .i64] ()])], []⟩
def st_5 (D : Dom) (env p : List (PD D)) : D.B × D.B × List (PD D) := G0 D (nthZ env 17) (nthZ env 18) (nthZ env 19) (nthL env 23) p
theorem rd_5 (D : Dom) (env vars : List (PD D)) (ctx : List (AV D)) : (sh_5.round (sh_5.st env vars ctx).h.length (evCodeH Try.prog (tbl_34 D) (lt_5_12 D) 80 32 (loopB Try.prog 32 0) (sh_5.st env vars ctx))).map Nr.step = some (st_5 D env vars) := by kernel_rfl
noncomputable def ll_6 (D : Dom) : List (LE D) := ⟨32, 0, sh_5, st_5 D, fun s => evCodeH Try.prog (tbl_34 D) (lt_5_12 D) 80 32 (loopB Try.prog 32 0) s⟩ :: ll_5 D
noncomputable def lt_6_12 (D : Dom) : LTb D := ltOf (ll_6 D) js_12
theorem hok_6_12 : HooksOK Try.prog (lt_6_12 R) := HooksOK.cons prg tok_34 hok_5_12 (by kernel_rfl) (by kernel_rfl) (rd_5 R)
def js_13 : List (Nat × Nat × HSh) := js_12 ++ [(32, 2000000, ⟨25, 31, [.var (.tup [])], [(24, .cells [.slot [.f] 1])], [], []⟩)]
def js_14 : List (Nat × Nat × HSh) := js_13 ++ [(10, 2000000, ⟨24, 31, [.slot [.f] 1], [], [], []⟩)]
noncomputable def lt_6_14 (D : Dom) : LTb D := ltOf (ll_6 D) js_14
theorem hok_6_14 : HooksOK Try.prog (lt_6_14 R) := hok_6_12.jt
def sh_6 : HSh := ⟨32, 38, [.env (.ptr 2 0), .env (.ki .i64 0), .env (.si .i64 ()), .env (.clo 36 [] [.ptr 31 0]), .env (.undef), .env (.undef), .env (.undef), .env (.undef), .env (.undef), .drop, .env (.ptr 2 0), .env (.kb false), .env (.kb false), .env (.ki .i64 0), .env (.kb false), .env (.kb false), .env (.kb false), .env (.si .i64 ()), .env (.ptr 2 0), .env (.ptr 2 0), .env (.ptr 2 1), .env (.si .i64 ()), .env (.sb ()), .env (.sb ()), .env (.ptr 2 0), .env (.ptr 2 0), .env (.ptr 2 2), .env (.sslice 1 .whole none () 5), .env (.ki .i64 0), .env (.ptr 2 0), .env (.ptr 2 0), .env (.ptr 2 0), .env (.si .i64 ()), .env (.si .i64 ()), .env (.si .i64 ()), .env (.ptr 2 0), .env (.ptr 2 0), .env (.ptr 2 0), .env (.si .i64 ()), .env (.si .i64 ()), .env (.si .i64 ()), .env (.ptr 2 0), .env (.ptr 2 0), .env (.ptr 2 0), .env (.si .i64 ()), .env (.si .i64 ()), .env (.sslice 1 .part (some ()) () 5), .env (.si .i64 ()), .var (.si .i64 ()), .drop, .drop, .drop, .drop, .drop, .drop, .drop], [(31, .cells [.slot [.f] 1])], [(2, [.si .i64 (), .si .i64 (), .sslice 1 .whole none () 5]), (1, [.row false [.f, .f, .f, .z .i64, .z .i64] ()])], []⟩
def st_6 (D : Dom) (env p : List (PD D)) : D.B × D.B × List (PD D) := G0 D (nthZ env 14) (nthZ env 15) (nthZ env 16) (nthL env 20) p
theorem rd_6 (D : Dom) (env vars : List (PD D)) (ctx : List (AV D)) : (sh_6.round (sh_6.st env vars ctx).h.length (evCodeH Try.prog (tbl_34 D) (lt_6_14 D) 80 32 (loopB Try.prog 32 0) (sh_6.st env vars ctx))).map Nr.step = some (st_6 D env vars) := by kernel_rfl
noncomputable def ll_7 (D : Dom) : List (LE D) := ⟨32, 0, sh_6, st_6 D, fun s => evCodeH Try.prog (tbl_34 D) (lt_6_14 D) 80 32 (loopB Try.prog 32 0) s⟩ :: ll_6 D
noncomputable def lt_7_14 (D : Dom) : LTb D := ltOf (ll_7 D) js_14
theorem hok_7_14 : HooksOK Try.prog (lt_7_14 R) := HooksOK.cons prg tok_34 hok_6_14 (by kernel_rfl) (by kernel_rfl) (rd_6 R)
def js_15 : List (Nat × Nat × HSh) := js_14 ++ [(32, 2000000, ⟨32, 38, [.var (.tup [])], [(31, .cells [.slot [.f] 1])], [], []⟩)]
noncomputable def lt_7_15 (D : Dom) : LTb D := ltOf (ll_7 D) js_15
theorem hok_7_15 : HooksOK Try.prog (lt_7_15 R) := hok_7_14.jt
def sh_7 : HSh := ⟨38, 42, [.env (.sslice 4 .whole none () 5), .env (.undef), .env (.nils), .slot [.f] 1, .var (.si .i64 ()), .drop, .drop, .drop, .drop, .drop, .drop, .drop, .drop, .drop, .drop, .drop, .drop, .drop, .drop, .drop, .drop, .drop, .drop, .drop, .drop, .drop, .env (.undef)], [], [(4, [.row false [.f, .f, .f, .z .i64, .z .i64] ()])], []⟩
def st_7 (D : Dom) (env p : List (PD D)) : D.B × D.B × List (PD D) := G4 D (nthZ env 0) (nthL env 1) p
theorem rd_7 (D : Dom) (env vars : List (PD D)) (ctx : List (AV D)) : (sh_7.round (sh_7.st env vars ctx).h.length (evCodeH Try.prog (tbl_34 D) (lt_7_15 D) 80 22 (loopB Try.prog 22 0) (sh_7.st env vars ctx))).map Nr.step = some (st_7 D env vars) := by kernel_rfl
noncomputable def ll_8 (D : Dom) : List (LE D) := ⟨22, 0, sh_7, st_7 D, fun s => evCodeH Try.prog (tbl_34 D) (lt_7_15 D) 80 22 (loopB Try.prog 22 0) s⟩ :: ll_7 D
noncomputable def lt_8_15 (D : Dom) : LTb D := ltOf (ll_8 D) js_15
theorem hok_8_15 : HooksOK Try.prog (lt_8_15 R) := HooksOK.cons prg tok_34 hok_7_15 (by kernel_rfl) (by kernel_rfl) (rd_7 R)
def sh_8 : HSh := ⟨42, 42, [.env (.sslice 32 .whole none () 1), .env (.sslice 38 .whole none () 1), .env (.undef), .env (.undef), .var (.sb ()), .var (.si .i64 ()), .env (.sslice 32 .whole none () 1), .env (.si .i64 ()), .env (.sslice 38 .whole none () 1), .env (.si .i64 ()), .env (.sb ()), .drop, .drop, .drop, .drop, .drop, .drop, .drop, .drop, .drop, .drop, .drop, .drop, .drop, .drop, .drop, .drop], [], [(32, [.row false [.f] ()]), (38, [.row false [.f] ()])], []⟩
def st_8 (D : Dom) (env p : List (PD D)) : D.B × D.B × List (PD D) := G5 D (nthZ env 0) (nthZ env 1) (nthL env 7) (nthL env 8) p
theorem rd_8 (D : Dom) (env vars : List (PD D)) (ctx : List (AV D)) : (sh_8.round (sh_8.st env vars ctx).h.length (evCodeH Try.prog (tbl_34 D) (lt_8_15 D) 80 20 (loopB Try.prog 20 0) (sh_8.st env vars ctx))).map Nr.step = some (st_8 D env vars) := by kernel_rfl
noncomputable def ll_9 (D : Dom) : List (LE D) := ⟨20, 0, sh_8, st_8 D, fun s => evCodeH Try.prog (tbl_34 D) (lt_8_15 D) 80 20 (loopB Try.prog 20 0) s⟩ :: ll_8 D
noncomputable def lt_9_15 (D : Dom) : LTb D := ltOf (ll_9 D) js_15
theorem hok_9_15 : HooksOK Try.prog (lt_9_15 R) := HooksOK.cons prg tok_34 hok_8_15 (by kernel_rfl) (by kernel_rfl) (rd_8 R)
def js_16 : List (Nat × Nat × HSh) := js_15 ++ [(20, 2000000, ⟨42, 42, [.var (.sb ())], [], [], []⟩)]
noncomputable def lt_9_16 (D : Dom) : LTb D := ltOf (ll_9 D) js_16
theorem hok_9_16 : HooksOK Try.prog (lt_9_16 R) := hok_9_15.jt
def sh_9 : HSh := ⟨42, 46, [.env (.sslice 4 .part (some ()) () 5), .env (.undef), .env (.nils), .slot [.f] 1, .var (.si .i64 ()), .drop, .drop, .drop, .drop, .drop, .drop, .drop, .drop, .drop, .drop, .drop, .drop, .drop, .drop, .drop, .drop, .drop, .drop, .drop, .drop, .drop, .env (.undef)], [], [(4, [.row false [.f, .f, .f, .z .i64, .z .i64] ()])], []⟩
def st_9 (D : Dom) (env p : List (PD D)) : D.B × D.B × List (PD D) := G6 D (nthZ env 0) (nthZ env 1) (nthL env 2) p
theorem rd_9 (D : Dom) (env vars : List (PD D)) (ctx : List (AV D)) : (sh_9.round (sh_9.st env vars ctx).h.length (evCodeH Try.prog (tbl_34 D) (lt_9_16 D) 80 22 (loopB Try.prog 22 0) (sh_9.st env vars ctx))).map Nr.step = some (st_9 D env vars) := by kernel_rfl
noncomputable def ll_10 (D : Dom) : List (LE D) := ⟨22, 0, sh_9, st_9 D, fun s => evCodeH Try.prog (tbl_34 D) (lt_9_16 D) 80 22 (loopB Try.prog 22 0) s⟩ :: ll_9 D
noncomputable def lt_10_16 (D : Dom) : LTb D := ltOf (ll_10 D) js_16
theorem hok_10_16 : HooksOK Try.prog (lt_10_16 R) := HooksOK.cons prg tok_34 hok_9_16 (by kernel_rfl) (by kernel_rfl) (rd_9 R)
def sh_10 : HSh := ⟨46, 46, [.env (.sslice 24 .whole none () 1), .env (.sslice 42 .whole none () 1), .env (.undef), .env (.undef), .var (.sb ()), .var (.si .i64 ()), .env (.sslice 24 .whole none () 1), .env (.si .i64 ()), .env (.sslice 42 .whole none () 1), .env (.si .i64 ()), .env (.sb ()), .drop, .drop, .drop, .drop, .drop, .drop, .drop, .drop, .drop, .drop, .drop, .drop, .drop, .drop, .drop, .drop], [], [(24, [.row false [.f] ()]), (42, [.row false [.f] ()])], []⟩
def st_10 (D : Dom) (env p : List (PD D)) : D.B × D.B × List (PD D) := G5 D (nthZ env 0) (nthZ env 1) (nthL env 7) (nthL env 8) p
theorem rd_10 (D : Dom) (env vars : List (PD D)) (ctx : List (AV D)) : (sh_10.round (sh_10.st env vars ctx).h.length (evCodeH Try.prog (tbl_34 D) (lt_10_16 D) 80 20 (loopB Try.prog 20 0) (sh_10.st env vars ctx))).map Nr.step = some (st_10 D env vars) := by kernel_rfl
noncomputable def ll_11 (D : Dom) : List (LE D) := ⟨20, 0, sh_10, st_10 D, fun s => evCodeH Try.prog (tbl_34 D) (lt_10_16 D) 80 20 (loopB Try.prog 20 0) s⟩ :: ll_10 D
noncomputable def lt_11_16 (D : Dom) : LTb D := ltOf (ll_11 D) js_16
theorem hok_11_16 : HooksOK Try.prog (lt_11_16 R) := HooksOK.cons prg tok_34 hok_10_16 (by kernel_rfl) (by kernel_rfl) (rd_10 R)
def js_17 : List (Nat × Nat × HSh) := js_16 ++ [(20, 2000000, ⟨46, 46, [.var (.sb ())], [], [], []⟩)]
noncomputable def lt_11_17 (D : Dom) : LTb D := ltOf (ll_11 D) js_17
theorem hok_11_17 : HooksOK Try.prog (lt_11_17 R) := hok_11_16.jt
def sh_11 : HSh := ⟨47, 53, [.env (.ptr 2 0), .env (.si .i64 ()), .env (.si .i64 ()), .env (.clo 36 [] [.ptr 46 0]), .env (.undef), .env (.undef), .env (.undef), .env (.undef), .env (.undef), .drop, .env (.ptr 2 0), .env (.kb false), .env (.kb false), .env (.si .i64 ()), .env (.sb ()), .env (.sb ()), .env (.sb ()), .env (.any), .env (.any), .env (.any), .env (.any), .env (.any), .env (.any), .env (.sb ()), .env (.ptr 2 0), .env (.ptr 2 0), .env (.ptr 2 2), .env (.sslice 1 .whole none () 5), .env (.si .i64 ()), .env (.ptr 2 0), .env (.ptr 2 0), .env (.ptr 2 0), .env (.si .i64 ()), .env (.si .i64 ()), .env (.si .i64 ()), .env (.ptr 2 0), .env (.ptr 2 0), .env (.ptr 2 0), .env (.si .i64 ()), .env (.si .i64 ()), .env (.si .i64 ()), .env (.ptr 2 0), .env (.ptr 2 0), .env (.ptr 2 0), .env (.si .i64 ()), .env (.si .i64 ()), .env (.sslice 1 .part (some ()) () 5), .env (.si .i64 ()), .var (.si .i64 ()), .drop, .drop, .drop, .drop, .drop, .drop, .drop], [(46, .cells [.slot [.f] 1])], [(2, [.si .i64 (), .si .i64 (), .sslice 1 .whole none () 5]), (1, [.row false [.f, .f, .f, .z .i64, .z .i64] ()])], []⟩
def st_11 (D : Dom) (env p : List (PD D)) : D.B × D.B × List (PD D) := G0 D (nthZ env 17) (nthZ env 18) (nthZ env 19) (nthL env 23) p
theorem rd_11 (D : Dom) (env vars : List (PD D)) (ctx : List (AV D)) : (sh_11.round (sh_11.st env vars ctx).h.length (evCodeH Try.prog (tbl_34 D) (lt_11_17 D) 80 32 (loopB Try.prog 32 0) (sh_11.st env vars ctx))).map Nr.step = some (st_11 D env vars) := by kernel_rfl
noncomputable def ll_12 (D : Dom) : List (LE D) := ⟨32, 0, sh_11, st_11 D, fun s => evCodeH Try.prog (tbl_34 D) (lt_11_17 D) 80 32 (loopB Try.prog 32 0) s⟩ :: ll_11 D
noncomputable def lt_12_17 (D : Dom) : LTb D := ltOf (ll_12 D) js_17
theorem hok_12_17 : HooksOK Try.prog (lt_12_17 R) := HooksOK.cons prg tok_34 hok_11_17 (by kernel_rfl) (by kernel_rfl) (rd_11 R)
def js_18 : List (Nat × Nat × HSh) := js_17 ++ [(32, 2000000, ⟨47, 53, [.var (.tup [])], [(46, .cells [.slot [.f] 1])], [], []⟩)]
def js_19 : List (Nat × Nat × HSh) := js_18 ++ [(10, 2000000, ⟨46, 53, [.slot [.f] 1], [], [], []⟩)]
noncomputable def lt_12_19 (D : Dom) : LTb D := ltOf (ll_12 D) js_19
theorem hok_12_19 : HooksOK Try.prog (lt_12_19 R) := hok_12_17.jt

-- penumbra/penumbralaw21.FilmTakes
def WS4_0_0 (D : Dom) (a0 : D.Z) : D.Z := (D.zadd .i64 (D.zconv .i64 (D.zrem .u8 a0 (D.zc 6))) (D.zc 1))
def WS4_0_1 (D : Dom) (a1 : D.Z) : D.Z := (D.zadd .i64 (D.zconv .i64 (D.zrem .u8 a1 (D.zc 6))) (D.zc 1))
def WS4_0_2 (D : Dom) (a0 : D.Z) (a1 : D.Z) : D.Z := (D.zmul .i64 (WS4_0_0 D a0) (WS4_0_1 D a1))
def WS4_0_3 (D : Dom) (a0 : D.Z) (a1 : D.Z) : D.L := (D.lrep (WS4_0_2 D a0 a1) [.f (D.fc 0), .f (D.fc 0), .f (D.fc 0), .z (D.zc 0), .z (D.zc 0)])
def WS4_0_4 (D : Dom) (a0 : D.Z) (a1 : D.Z) (a2 : D.L) : List (PD D) := (L1 D (D.llen a2) (WS4_0_0 D a0) (WS4_0_1 D a1) a2 (WS4_0_0 D a0) (WS4_0_1 D a1) (WS4_0_2 D a0 a1) (WS4_0_3 D a0 a1) (D.bc false) (D.zc 0) (WS4_0_3 D a0 a1))
def WS4_0_5 (D : Dom) (a0 : D.Z) (a1 : D.Z) : D.Z := (D.zmul .i64 (WS4_0_1 D a1) (WS4_0_0 D a0))
def WS4_0_6 (D : Dom) (a0 : D.Z) (a1 : D.Z) : D.Z := (D.zsub .i64 (WS4_0_5 D a0 a1) (D.zmul .i64 (D.zc 0) (WS4_0_0 D a0)))
def WS4_0_7 (D : Dom) (a0 : D.Z) (a1 : D.Z) (a2 : D.L) : List (PD D) := (L2 D (D.zmul .i64 (D.zc 0) (WS4_0_0 D a0)) (WS4_0_6 D a0 a1) (WS4_0_6 D a0 a1) (nthL (WS4_0_4 D a0 a1 a2) 3) D.lnil (D.zc 0))
def WS4_0_8 (D : Dom) (a0 : D.Z) (a1 : D.Z) (a2 : D.L) : D.L := (D.lite (D.zlt (WS4_0_1 D a1) (WS4_0_1 D a1)) D.lnil (nthL (WS4_0_7 D a0 a1 a2) 0))
def WS4_0_9 (D : Dom) (a0 : D.Z) (a1 : D.Z) (a2 : D.L) : List (PD D) := (L3 D (D.llen (nthL (WS4_0_4 D a0 a1 a2) 0)) (D.llen (WS4_0_8 D a0 a1 a2)) (nthL (WS4_0_4 D a0 a1 a2) 0) (WS4_0_8 D a0 a1 a2) (nthB (WS4_0_4 D a0 a1 a2) 1) (D.zc 0))
def WS4_0_10 (D : Dom) (a0 : D.Z) (a1 : D.Z) (a2 : D.L) : List (PD D) := (L0 D (D.zmul .i64 (D.zc 0) (WS4_0_0 D a0)) (WS4_0_6 D a0 a1) (WS4_0_6 D a0 a1) (nthL (WS4_0_4 D a0 a1 a2) 3) D.lnil (D.zc 0))
def WS4_0_11 (D : Dom) (a0 : D.Z) (a1 : D.Z) (a2 : D.L) : D.L := (D.lite (D.zlt (WS4_0_1 D a1) (WS4_0_1 D a1)) D.lnil (nthL (WS4_0_10 D a0 a1 a2) 0))
def WS4_0_12 (D : Dom) (a0 : D.Z) (a1 : D.Z) (a2 : D.L) : List (PD D) := (L4 D (D.llen (nthL (WS4_0_4 D a0 a1 a2) 0)) (nthL (WS4_0_4 D a0 a1 a2) 0) D.lnil (D.zc 0))
def WS4_0_13 (D : Dom) (a0 : D.Z) (a1 : D.Z) (a2 : D.L) : List (PD D) := (L5 D (D.llen (WS4_0_11 D a0 a1 a2)) (D.llen (nthL (WS4_0_12 D a0 a1 a2) 0)) (WS4_0_11 D a0 a1 a2) (nthL (WS4_0_12 D a0 a1 a2) 0) (D.bc false) (D.zc 0))
def WS4_0_14 (D : Dom) (a1 : D.Z) : D.B := (D.zlt (D.zsub .i64 (WS4_0_1 D a1) (D.zc 1)) (D.zc 0))
def WS4_0_15 (D : Dom) (a1 : D.Z) : D.Z := (D.zadd .i64 (D.zsub .i64 (WS4_0_1 D a1) (D.zc 1)) (D.zc 1))
def WS4_0_16 (D : Dom) (a0 : D.Z) (a1 : D.Z) : D.Z := (D.zmul .i64 (D.zsub .i64 (WS4_0_1 D a1) (D.zc 1)) (WS4_0_0 D a0))
def WS4_0_17 (D : Dom) (a0 : D.Z) (a1 : D.Z) : D.Z := (D.zsub .i64 (D.zmul .i64 (WS4_0_15 D a1) (WS4_0_0 D a0)) (WS4_0_16 D a0 a1))
def WS4_0_18 (D : Dom) (a0 : D.Z) (a1 : D.Z) (a2 : D.L) : List (PD D) := (L0 D (WS4_0_16 D a0 a1) (WS4_0_17 D a0 a1) (WS4_0_17 D a0 a1) (nthL (WS4_0_4 D a0 a1 a2) 3) D.lnil (D.zc 0))
def WS4_0_19 (D : Dom) (a0 : D.Z) (a1 : D.Z) (a2 : D.L) : D.L := (D.lite (D.bite (WS4_0_14 D a1) (D.bc true) (D.zle (WS4_0_1 D a1) (D.zsub .i64 (WS4_0_1 D a1) (D.zc 1)))) D.lnil (D.lite (D.bite (WS4_0_14 D a1) (D.bc true) (D.zlt (WS4_0_1 D a1) (WS4_0_15 D a1))) D.lnil (nthL (WS4_0_18 D a0 a1 a2) 0)))
def WS4_0_20 (D : Dom) (a0 : D.Z) (a1 : D.Z) (a2 : D.L) : List (PD D) := (L6 D (WS4_0_16 D a0 a1) (D.zsub .i64 (D.llen (nthL (WS4_0_4 D a0 a1 a2) 0)) (WS4_0_16 D a0 a1)) (nthL (WS4_0_4 D a0 a1 a2) 0) D.lnil (D.zc 0))
def WS4_0_21 (D : Dom) (a0 : D.Z) (a1 : D.Z) (a2 : D.L) : List (PD D) := (L5 D (D.llen (WS4_0_19 D a0 a1 a2)) (D.llen (nthL (WS4_0_20 D a0 a1 a2) 0)) (WS4_0_19 D a0 a1 a2) (nthL (WS4_0_20 D a0 a1 a2) 0) (D.bc false) (D.zc 0))
def WS4_0_22 (D : Dom) (a0 : D.Z) (a1 : D.Z) : D.Z := (D.zsub .i64 (D.zmul .i64 (D.zadd .i64 (WS4_0_1 D a1) (D.zc 1)) (WS4_0_0 D a0)) (WS4_0_5 D a0 a1))
def WS4_0_23 (D : Dom) (a0 : D.Z) (a1 : D.Z) (a2 : D.L) : List (PD D) := (L0 D (WS4_0_5 D a0 a1) (WS4_0_22 D a0 a1) (WS4_0_22 D a0 a1) (nthL (WS4_0_4 D a0 a1 a2) 3) D.lnil (D.zc 0))
def S4_0 (D : Dom) (a0 : D.Z) (a1 : D.Z) (a2 : D.L) : D.B := (D.bite (D.bite (D.bite (D.zlt (D.zmin (WS4_0_0 D a0) (WS4_0_1 D a1)) (D.zc 1)) (D.bc true) (D.zlt (D.zc 8192) (D.zmax (WS4_0_0 D a0) (WS4_0_1 D a1)))) (D.bc true) (D.zlt (D.zc 65536) (WS4_0_2 D a0 a1))) (D.bc false) (D.bite (D.bnot (S7_0 D)) (D.bc false) (D.bite (D.bite (D.zlt (nthZ (WS4_0_4 D a0 a1 a2) 2) (D.llen a2)) (D.zlt (nthZ (WS4_0_4 D a0 a1 a2) 2) (D.zc 80)) (D.bc false)) (D.bc false) (D.bite (D.zlt (nthZ (WS4_0_9 D a0 a1 a2) 1) (D.llen (nthL (WS4_0_4 D a0 a1 a2) 0))) (D.bc false) (D.bite (D.bite (D.bite (D.bite (D.bnot (D.zeq (D.llen (WS4_0_11 D a0 a1 a2)) (D.llen (nthL (WS4_0_12 D a0 a1 a2) 0)))) (D.bc false) (D.bite (D.zlt (nthZ (WS4_0_13 D a0 a1 a2) 1) (D.llen (WS4_0_11 D a0 a1 a2))) (D.bc false) (D.bc true))) (D.zeq (D.llen (WS4_0_8 D a0 a1 a2)) (D.llen (nthL (WS4_0_4 D a0 a1 a2) 0))) (D.bc false)) (D.bite (D.bnot (D.zeq (D.llen (WS4_0_19 D a0 a1 a2)) (D.llen (nthL (WS4_0_20 D a0 a1 a2) 0)))) (D.bc false) (D.bite (D.zlt (nthZ (WS4_0_21 D a0 a1 a2) 1) (D.llen (WS4_0_19 D a0 a1 a2))) (D.bc false) (D.bc true))) (D.bc false)) (D.zeq (D.llen (D.lite (D.bite (D.zlt (WS4_0_1 D a1) (D.zc 0)) (D.bc true) (D.zle (WS4_0_1 D a1) (WS4_0_1 D a1))) D.lnil (D.lite (D.bite (D.zlt (WS4_0_1 D a1) (D.zc 0)) (D.bc true) (D.zlt (WS4_0_1 D a1) (D.zadd .i64 (WS4_0_1 D a1) (D.zc 1)))) D.lnil (nthL (WS4_0_23 D a0 a1 a2) 0)))) (D.zc 0)) (D.bc false))))))
def WO4_0 (D : Dom) (a0 : D.Z) : D.Z := (D.zadd .i64 (D.zconv .i64 (D.zrem .u8 a0 (D.zc 6))) (D.zc 1))
def WO4_1 (D : Dom) (a1 : D.Z) : D.Z := (D.zadd .i64 (D.zconv .i64 (D.zrem .u8 a1 (D.zc 6))) (D.zc 1))
def WO4_2 (D : Dom) (a0 : D.Z) (a1 : D.Z) : D.B := (D.band (D.zle (D.zc 0) (D.zmul .i64 (WO4_0 D a0) (WO4_1 D a1))) (D.zle (D.zmul .i64 (WO4_0 D a0) (WO4_1 D a1)) (D.zc 1073741824)))
def WO4_3 (D : Dom) (a0 : D.Z) (a1 : D.Z) : D.L := (D.lrep (D.zmul .i64 (WO4_0 D a0) (WO4_1 D a1)) [.f (D.fc 0), .f (D.fc 0), .f (D.fc 0), .z (D.zc 0), .z (D.zc 0)])
def WO4_4 (D : Dom) (a0 : D.Z) (a1 : D.Z) (a2 : D.L) : D.B := (E1 D (D.llen a2) (WO4_0 D a0) (WO4_1 D a1) a2 (WO4_0 D a0) (WO4_1 D a1) (D.zmul .i64 (WO4_0 D a0) (WO4_1 D a1)) (WO4_3 D a0 a1) (D.bc false) (D.zc 0) (WO4_3 D a0 a1))
def WO4_5 (D : Dom) (a0 : D.Z) (a1 : D.Z) (a2 : D.L) : List (PD D) := (L1 D (D.llen a2) (WO4_0 D a0) (WO4_1 D a1) a2 (WO4_0 D a0) (WO4_1 D a1) (D.zmul .i64 (WO4_0 D a0) (WO4_1 D a1)) (WO4_3 D a0 a1) (D.bc false) (D.zc 0) (WO4_3 D a0 a1))
def WO4_6 (D : Dom) (a0 : D.Z) (a1 : D.Z) : D.B := (D.band (D.band (D.zle (D.zc 0) (D.zmul .i64 (D.zc 0) (WO4_0 D a0))) (D.zle (D.zmul .i64 (D.zc 0) (WO4_0 D a0)) (D.zmul .i64 (WO4_1 D a1) (WO4_0 D a0)))) (D.band (D.zle (D.zmul .i64 (WO4_1 D a1) (WO4_0 D a0)) (D.zmul .i64 (WO4_1 D a1) (WO4_0 D a0))) (D.zle (D.zmul .i64 (WO4_1 D a1) (WO4_0 D a0)) (D.zmul .i64 (WO4_0 D a0) (WO4_1 D a1)))))
def WO4_7 (D : Dom) (a0 : D.Z) (a1 : D.Z) : D.Z := (D.zsub .i64 (D.zmul .i64 (WO4_1 D a1) (WO4_0 D a0)) (D.zmul .i64 (D.zc 0) (WO4_0 D a0)))
def WO4_8 (D : Dom) (a0 : D.Z) (a1 : D.Z) (a2 : D.L) : D.B := (E2 D (D.zmul .i64 (D.zc 0) (WO4_0 D a0)) (WO4_7 D a0 a1) (WO4_7 D a0 a1) (nthL (WO4_5 D a0 a1 a2) 3) D.lnil (D.zc 0))
def WO4_9 (D : Dom) (a0 : D.Z) (a1 : D.Z) (a2 : D.L) : List (PD D) := (L2 D (D.zmul .i64 (D.zc 0) (WO4_0 D a0)) (WO4_7 D a0 a1) (WO4_7 D a0 a1) (nthL (WO4_5 D a0 a1 a2) 3) D.lnil (D.zc 0))
def WO4_10 (D : Dom) (a0 : D.Z) (a1 : D.Z) (a2 : D.L) : D.L := (D.lite (D.zlt (WO4_1 D a1) (WO4_1 D a1)) D.lnil (nthL (WO4_9 D a0 a1 a2) 0))
def WO4_11 (D : Dom) (a0 : D.Z) (a1 : D.Z) (a2 : D.L) : D.B := (E3 D (D.llen (nthL (WO4_5 D a0 a1 a2) 0)) (D.llen (WO4_10 D a0 a1 a2)) (nthL (WO4_5 D a0 a1 a2) 0) (WO4_10 D a0 a1 a2) (nthB (WO4_5 D a0 a1 a2) 1) (D.zc 0))
def WO4_12 (D : Dom) (a0 : D.Z) (a1 : D.Z) (a2 : D.L) : List (PD D) := (L3 D (D.llen (nthL (WO4_5 D a0 a1 a2) 0)) (D.llen (WO4_10 D a0 a1 a2)) (nthL (WO4_5 D a0 a1 a2) 0) (WO4_10 D a0 a1 a2) (nthB (WO4_5 D a0 a1 a2) 1) (D.zc 0))
def WO4_13 (D : Dom) (a1 : D.Z) : D.B := (D.zlt (D.zsub .i64 (WO4_1 D a1) (D.zc 1)) (D.zc 0))
def WO4_14 (D : Dom) (a1 : D.Z) : D.B := (D.bite (WO4_13 D a1) (D.bc true) (D.zle (WO4_1 D a1) (D.zsub .i64 (WO4_1 D a1) (D.zc 1))))
def WO4_15 (D : Dom) (a1 : D.Z) : D.Z := (D.zadd .i64 (D.zsub .i64 (WO4_1 D a1) (D.zc 1)) (D.zc 1))
def WO4_16 (D : Dom) (a1 : D.Z) : D.B := (D.bite (WO4_13 D a1) (D.bc true) (D.zlt (WO4_1 D a1) (WO4_15 D a1)))
def WO4_17 (D : Dom) (a0 : D.Z) (a1 : D.Z) : D.Z := (D.zmul .i64 (D.zsub .i64 (WO4_1 D a1) (D.zc 1)) (WO4_0 D a0))
def WO4_18 (D : Dom) (a0 : D.Z) (a1 : D.Z) : D.Z := (D.zsub .i64 (D.zmul .i64 (WO4_15 D a1) (WO4_0 D a0)) (WO4_17 D a0 a1))
def WO4_19 (D : Dom) (a0 : D.Z) (a1 : D.Z) (a2 : D.L) : D.B := (E0 D (WO4_17 D a0 a1) (WO4_18 D a0 a1) (WO4_18 D a0 a1) (nthL (WO4_5 D a0 a1 a2) 3) D.lnil (D.zc 0))
def WO4_20 (D : Dom) (a0 : D.Z) (a1 : D.Z) (a2 : D.L) : D.B := (E0 D (D.zmul .i64 (D.zc 0) (WO4_0 D a0)) (WO4_7 D a0 a1) (WO4_7 D a0 a1) (nthL (WO4_5 D a0 a1 a2) 3) D.lnil (D.zc 0))
def WO4_21 (D : Dom) (a0 : D.Z) (a1 : D.Z) (a2 : D.L) : D.B := (E4 D (D.llen (nthL (WO4_5 D a0 a1 a2) 0)) (nthL (WO4_5 D a0 a1 a2) 0) D.lnil (D.zc 0))
def WO4_22 (D : Dom) (a0 : D.Z) (a1 : D.Z) (a2 : D.L) : List (PD D) := (L0 D (D.zmul .i64 (D.zc 0) (WO4_0 D a0)) (WO4_7 D a0 a1) (WO4_7 D a0 a1) (nthL (WO4_5 D a0 a1 a2) 3) D.lnil (D.zc 0))
def WO4_23 (D : Dom) (a0 : D.Z) (a1 : D.Z) (a2 : D.L) : D.L := (D.lite (D.zlt (WO4_1 D a1) (WO4_1 D a1)) D.lnil (nthL (WO4_22 D a0 a1 a2) 0))
def WO4_24 (D : Dom) (a0 : D.Z) (a1 : D.Z) (a2 : D.L) : List (PD D) := (L4 D (D.llen (nthL (WO4_5 D a0 a1 a2) 0)) (nthL (WO4_5 D a0 a1 a2) 0) D.lnil (D.zc 0))
def WO4_25 (D : Dom) (a0 : D.Z) (a1 : D.Z) (a2 : D.L) : D.B := (D.bnot (D.zeq (D.llen (WO4_23 D a0 a1 a2)) (D.llen (nthL (WO4_24 D a0 a1 a2) 0))))
def WO4_26 (D : Dom) (a0 : D.Z) (a1 : D.Z) (a2 : D.L) : D.B := (E5 D (D.llen (WO4_23 D a0 a1 a2)) (D.llen (nthL (WO4_24 D a0 a1 a2) 0)) (WO4_23 D a0 a1 a2) (nthL (WO4_24 D a0 a1 a2) 0) (D.bc false) (D.zc 0))
def WO4_27 (D : Dom) (a0 : D.Z) (a1 : D.Z) (a2 : D.L) : List (PD D) := (L5 D (D.llen (WO4_23 D a0 a1 a2)) (D.llen (nthL (WO4_24 D a0 a1 a2) 0)) (WO4_23 D a0 a1 a2) (nthL (WO4_24 D a0 a1 a2) 0) (D.bc false) (D.zc 0))
def WO4_28 (D : Dom) (a0 : D.Z) (a1 : D.Z) (a2 : D.L) : D.B := (D.bite (D.bite (WO4_25 D a0 a1 a2) (D.bc false) (D.bite (D.zlt (nthZ (WO4_27 D a0 a1 a2) 1) (D.llen (WO4_23 D a0 a1 a2))) (D.bc false) (D.bc true))) (D.zeq (D.llen (WO4_10 D a0 a1 a2)) (D.llen (nthL (WO4_5 D a0 a1 a2) 0))) (D.bc false))
def WO4_29 (D : Dom) (a0 : D.Z) (a1 : D.Z) (a2 : D.L) : D.Z := (D.zsub .i64 (D.llen (nthL (WO4_5 D a0 a1 a2) 0)) (WO4_17 D a0 a1))
def WO4_30 (D : Dom) (a0 : D.Z) (a1 : D.Z) (a2 : D.L) : D.B := (E6 D (WO4_17 D a0 a1) (WO4_29 D a0 a1 a2) (nthL (WO4_5 D a0 a1 a2) 0) D.lnil (D.zc 0))
def WO4_31 (D : Dom) (a0 : D.Z) (a1 : D.Z) (a2 : D.L) : List (PD D) := (L0 D (WO4_17 D a0 a1) (WO4_18 D a0 a1) (WO4_18 D a0 a1) (nthL (WO4_5 D a0 a1 a2) 3) D.lnil (D.zc 0))
def WO4_32 (D : Dom) (a0 : D.Z) (a1 : D.Z) (a2 : D.L) : D.L := (D.lite (WO4_14 D a1) D.lnil (D.lite (WO4_16 D a1) D.lnil (nthL (WO4_31 D a0 a1 a2) 0)))
def WO4_33 (D : Dom) (a0 : D.Z) (a1 : D.Z) (a2 : D.L) : List (PD D) := (L6 D (WO4_17 D a0 a1) (WO4_29 D a0 a1 a2) (nthL (WO4_5 D a0 a1 a2) 0) D.lnil (D.zc 0))
def WO4_34 (D : Dom) (a0 : D.Z) (a1 : D.Z) (a2 : D.L) : D.B := (D.bnot (D.zeq (D.llen (WO4_32 D a0 a1 a2)) (D.llen (nthL (WO4_33 D a0 a1 a2) 0))))
def WO4_35 (D : Dom) (a0 : D.Z) (a1 : D.Z) (a2 : D.L) : D.B := (E5 D (D.llen (WO4_32 D a0 a1 a2)) (D.llen (nthL (WO4_33 D a0 a1 a2) 0)) (WO4_32 D a0 a1 a2) (nthL (WO4_33 D a0 a1 a2) 0) (D.bc false) (D.zc 0))
def WO4_36 (D : Dom) (a0 : D.Z) (a1 : D.Z) (a2 : D.L) : List (PD D) := (L5 D (D.llen (WO4_32 D a0 a1 a2)) (D.llen (nthL (WO4_33 D a0 a1 a2) 0)) (WO4_32 D a0 a1 a2) (nthL (WO4_33 D a0 a1 a2) 0) (D.bc false) (D.zc 0))
def WO4_37 (D : Dom) (a0 : D.Z) (a1 : D.Z) : D.Z := (D.zmul .i64 (D.zadd .i64 (WO4_1 D a1) (D.zc 1)) (WO4_0 D a0))
def WO4_38 (D : Dom) (a0 : D.Z) (a1 : D.Z) : D.Z := (D.zsub .i64 (WO4_37 D a0 a1) (D.zmul .i64 (WO4_1 D a1) (WO4_0 D a0)))
def WO4_39 (D : Dom) (a0 : D.Z) (a1 : D.Z) (a2 : D.L) : D.B := (E0 D (D.zmul .i64 (WO4_1 D a1) (WO4_0 D a0)) (WO4_38 D a0 a1) (WO4_38 D a0 a1) (nthL (WO4_5 D a0 a1 a2) 3) D.lnil (D.zc 0))
def WO4_40 (D : Dom) (a0 : D.Z) (a1 : D.Z) (a2 : D.L) : D.B := (D.band (D.bite (WO4_14 D a1) (D.bc true) (D.bite (WO4_16 D a1) (D.bc true) (D.band (D.band (D.band (D.zle (D.zc 0) (WO4_17 D a0 a1)) (D.zle (WO4_17 D a0 a1) (D.zmul .i64 (WO4_15 D a1) (WO4_0 D a0)))) (D.band (D.zle (D.zmul .i64 (WO4_15 D a1) (WO4_0 D a0)) (D.zmul .i64 (WO4_15 D a1) (WO4_0 D a0))) (D.zle (D.zmul .i64 (WO4_15 D a1) (WO4_0 D a0)) (D.zmul .i64 (WO4_0 D a0) (WO4_1 D a1))))) (WO4_19 D a0 a1 a2)))) (D.band (D.band (D.bite (D.zlt (WO4_1 D a1) (WO4_1 D a1)) (D.bc true) (D.band (WO4_6 D a0 a1) (WO4_20 D a0 a1 a2))) (D.band (WO4_21 D a0 a1 a2) (D.bite (WO4_25 D a0 a1 a2) (D.bc true) (WO4_26 D a0 a1 a2)))) (D.band (D.bite (WO4_28 D a0 a1 a2) (D.band (D.band (D.zle (D.zc 0) (WO4_17 D a0 a1)) (D.zle (WO4_17 D a0 a1) (D.llen (nthL (WO4_5 D a0 a1 a2) 0)))) (D.band (WO4_30 D a0 a1 a2) (D.bite (WO4_34 D a0 a1 a2) (D.bc true) (WO4_35 D a0 a1 a2)))) (D.bc true)) (D.bite (D.bite (WO4_28 D a0 a1 a2) (D.bite (WO4_34 D a0 a1 a2) (D.bc false) (D.bite (D.zlt (nthZ (WO4_36 D a0 a1 a2) 1) (D.llen (WO4_32 D a0 a1 a2))) (D.bc false) (D.bc true))) (D.bc false)) (D.bite (D.bite (D.zlt (WO4_1 D a1) (D.zc 0)) (D.bc true) (D.zle (WO4_1 D a1) (WO4_1 D a1))) (D.bc true) (D.bite (D.bite (D.zlt (WO4_1 D a1) (D.zc 0)) (D.bc true) (D.zlt (WO4_1 D a1) (D.zadd .i64 (WO4_1 D a1) (D.zc 1)))) (D.bc true) (D.band (D.band (D.band (D.zle (D.zc 0) (D.zmul .i64 (WO4_1 D a1) (WO4_0 D a0))) (D.zle (D.zmul .i64 (WO4_1 D a1) (WO4_0 D a0)) (WO4_37 D a0 a1))) (D.band (D.zle (WO4_37 D a0 a1) (WO4_37 D a0 a1)) (D.zle (WO4_37 D a0 a1) (D.zmul .i64 (WO4_0 D a0) (WO4_1 D a1))))) (WO4_39 D a0 a1 a2)))) (D.bc true)))))
def O4 (D : Dom) (a0 : D.Z) (a1 : D.Z) (a2 : D.L) : D.B := (D.band (D.band (D.bnot (D.zeq (D.zc 6) (D.zc 0))) (D.bnot (D.zeq (D.zc 6) (D.zc 0)))) (D.bite (D.bite (D.bite (D.zlt (D.zmin (WO4_0 D a0) (WO4_1 D a1)) (D.zc 1)) (D.bc true) (D.zlt (D.zc 8192) (D.zmax (WO4_0 D a0) (WO4_1 D a1)))) (D.bc true) (D.zlt (D.zc 65536) (D.zmul .i64 (WO4_0 D a0) (WO4_1 D a1)))) (D.bc true) (D.band (WO4_2 D a0 a1) (D.band (O7 D) (D.bite (D.bnot (S7_0 D)) (D.bc true) (D.band (WO4_2 D a0 a1) (D.band (WO4_4 D a0 a1 a2) (D.bite (D.bite (D.zlt (nthZ (WO4_5 D a0 a1 a2) 2) (D.llen a2)) (D.zlt (nthZ (WO4_5 D a0 a1 a2) 2) (D.zc 80)) (D.bc false)) (D.bc true) (D.band (D.bite (D.zlt (WO4_1 D a1) (WO4_1 D a1)) (D.bc true) (D.band (WO4_6 D a0 a1) (WO4_8 D a0 a1 a2))) (D.band (WO4_11 D a0 a1 a2) (D.bite (D.zlt (nthZ (WO4_12 D a0 a1 a2) 1) (D.llen (nthL (WO4_5 D a0 a1 a2) 0))) (D.bc true) (WO4_40 D a0 a1 a2))))))))))))
theorem ev4 (D : Dom) (a0 : D.Z) (a1 : D.Z) (a2 : D.L) : joinT (evFnH Try.prog (tbl_34 D) (lt_12_19 D) 80 4 [.si .u8 a0, .si .u8 a1, .sslice 0 .part none (D.llen a2) 5] [(0, [.row true [.z .i64, .z .i64, .f, .f, .f] a2])] 1) = .val (some (O4 D a0 a1 a2)) (.sb (S4_0 D a0 a1 a2)) := by kernel_rfl
def js_20 : List (Nat × Nat × HSh) := js_19 ++ [(10, 2000000, ⟨9, 10, [.var (.nils)], [], [], []⟩)]
noncomputable def lt_12_20 (D : Dom) : LTb D := ltOf (ll_12 D) js_20
theorem hok_12_20 : HooksOK Try.prog (lt_12_20 R) := hok_12_19.jt

-- penumbra/penumbralaw21.FilmNone
def S5_0 (D : Dom)  : D.B := (D.bite (D.bite (D.bite (D.bite (S7_0 D) (D.bc true) (D.bc false)) (D.band (D.feq (D.fc 0) (D.fc 0)) (D.band (D.feq (D.fc 0) (D.fc 0)) (D.band (D.feq (D.fc 0) (D.fc 0)) (D.bc true)))) (D.bc false)) (D.band (D.feq (S24_0 D (D.fc 0) (D.zc 0) (D.zc 0)) (D.fc 0)) (D.band (D.feq (S24_1 D (D.fc 0) (D.zc 0) (D.zc 0)) (D.fc 0)) (D.band (D.feq (S24_2 D (D.fc 0) (D.zc 0) (D.zc 0)) (D.fc 0)) (D.bc true)))) (D.bc false)) (D.bc true) (D.bc false))
def O5 (D : Dom)  : D.B := (O7 D)
theorem ev5 (D : Dom) (a0 : D.Z) (a1 : D.Z) (a2 : D.F) (a3 : D.F) (a4 : D.F) : joinT (evFnH Try.prog (tbl_34 D) (lt_12_20 D) 80 5 [.si .i64 a0, .si .i64 a1, .agg [.fl a2, .fl a3, .fl a4]] [] 0) = .val (some (O5 D)) (.sb (S5_0 D)) := by kernel_rfl
def sp5 : Ev.Spec := fun D l => argZ .i64 l fun _a0 r0 => argZ .i64 r0 fun _a1 r1 => argA r1 fun c2 r2 => argF c2 fun _a2 r3 => argF r3 fun _a3 r4 => argF r4 fun _a4 r5 => arg0 r5 (arg0 r2 (.node (O5 D) (.ret (.sb (S5_0 D))) (.fail "pre")))
theorem en5 : ∀ l r, (sp5 R l).run = some r → Entry Try.prog 5 l r := by
  intro l r h
  obtain ⟨x0, _, h, L0⟩ := argZ_inv h
  obtain ⟨x1, _, h, L1⟩ := argZ_inv h
  obtain ⟨_, _, h, L2⟩ := argA_inv h
  obtain ⟨x3, _, h, L3⟩ := argF_inv h
  obtain ⟨x4, _, h, L4⟩ := argF_inv h
  obtain ⟨x5, _, h, L5⟩ := argF_inv h
  obtain ⟨h, L6⟩ := arg0_inv h
  obtain ⟨h, L7⟩ := arg0_inv h
  obtain ⟨hok, rfl⟩ := run_okay h
  exact (entry_loops prg tok_34 hok_12_20 (ev5 R x0 x1 x3 x4 x5) (fun o ho => (Option.some.inj ho) ▸ hok) rfl).le (L0 _ (L1 _ (L2 _ _ (L3 _ (L4 _ (L5 _ L6))) L7)))
def tl_5 : List (Nat × Ev.Spec) := (5, sp5) :: tl_34
def tbl_5 (D : Dom) : Tbl D := tblOf tl_5 D
theorem tok_5 : TblOK Try.prog (tbl_5 R) := TblOK.cons tok_34 en5

end Go.Proofs.Ytmenhajgmjnfkaa
