/- The functions of this seat, each with what it comes to, by the evaluator. PRINTED BY A PROGRAM OF THIS PROJECT (wip/ev2/Gen.lean). -/
import Derived.Test.YtnehhebdbibecaaEv4
import Derived.Test.YtnehhebdbibecaaChecked
namespace Go.Proofs.Ytnehhebdbibecaa
open Go.Ev
set_option maxRecDepth 100000

theorem prg : Ev.Prog Try.prog := ⟨by kernel_rfl, by kernel_rfl⟩
def sp25 : Ev.Spec := fun D l => argK .u64 l fun n r => arg0 r (.ret (.fl (D.fc n.toNat)))
theorem en25 : ∀ l r, (sp25 R l).run = some r → Entry Try.prog 25 l r := by
  intro l r h
  obtain ⟨x0, _, h, L0⟩ := argK_inv h
  obtain ⟨h, L1⟩ := arg0_inv h
  cases h
  exact (entry_frombits (fn := Try.f25) (by kernel_rfl) (by kernel_rfl) (by kernel_rfl) (by kernel_rfl) (by kernel_rfl) x0).le (L0 _ L1)
def tl_0 : List (Nat × Ev.Spec) := ((25, sp25) :: [])
def tbl_0 (D : Dom) : Tbl D := tblOf tl_0 D
theorem tok_0 : TblOK Try.prog (tbl_0 R) := (TblOK.cons (TblOK.nil _) en25)
def ll_0 (D : Dom) : List (LE D) := []
def lt_0 (D : Dom) : LTb D := ltOf (ll_0 D)
theorem hok_0 : HooksOK Try.prog (lt_0 R) := HooksOK.nil _

-- penumbra/tone.even
def S21_0 (D : Dom) (a0 : D.Z) : D.F := (D.fdiv (D.fsub (D.i2f a0) (D.fc 4602678819172646912)) (D.fc 4643176031446892544))
theorem ev21 (D : Dom) (a0 : D.Z) : joinT (evFnH Try.prog (tbl_0 D) (lt_0 D) 80 21 [.si .i64 a0] [] 0) = .val none (.fl (S21_0 D a0)) := by kernel_rfl
def sp21 : Ev.Spec := fun D l => argZ .i64 l fun a0 r0 => arg0 r0 (.ret (.fl (S21_0 D a0)))
theorem en21 : ∀ l r, (sp21 R l).run = some r → Entry Try.prog 21 l r := by
  intro l r h
  obtain ⟨x0, _, h, L0⟩ := argZ_inv h
  obtain ⟨h, L1⟩ := arg0_inv h
  cases h
  exact (entry_loops prg tok_0 hok_0 (ev21 R x0) (fun o ho => nomatch ho) rfl).le (L0 _ L1)
def tl_21 : List (Nat × Ev.Spec) := (21, sp21) :: tl_0
def tbl_21 (D : Dom) : Tbl D := tblOf tl_21 D
theorem tok_21 : TblOK Try.prog (tbl_21 R) := TblOK.cons tok_0 en21

-- penumbra/tone.Square$1
def S22_0 (D : Dom) (a0 : D.Z) : D.F := (D.fmul (S21_0 D a0) (S21_0 D a0))
theorem ev22 (D : Dom) (a0 : D.Z) : joinT (evFnH Try.prog (tbl_21 D) (lt_0 D) 80 22 [.si .i64 a0] [] 0) = .val none (.fl (S22_0 D a0)) := by kernel_rfl
def sp22 : Ev.Spec := fun D l => argZ .i64 l fun a0 r0 => arg0 r0 (.ret (.fl (S22_0 D a0)))
theorem en22 : ∀ l r, (sp22 R l).run = some r → Entry Try.prog 22 l r := by
  intro l r h
  obtain ⟨x0, _, h, L0⟩ := argZ_inv h
  obtain ⟨h, L1⟩ := arg0_inv h
  cases h
  exact (entry_loops prg tok_21 hok_0 (ev22 R x0) (fun o ho => nomatch ho) rfl).le (L0 _ L1)
def tl_22 : List (Nat × Ev.Spec) := (22, sp22) :: tl_21
def tbl_22 (D : Dom) : Tbl D := tblOf tl_22 D
theorem tok_22 : TblOK Try.prog (tbl_22 R) := TblOK.cons tok_21 en22

-- penumbra/vec.Number
def S18_0 (D : Dom) (a0 : D.F) : D.B := (D.bite (D.fge a0 (D.fc 18442240474082181119)) (D.fle a0 (D.fc 9218868437227405311)) (D.bc false))
theorem ev18 (D : Dom) (a0 : D.F) : joinT (evFnH Try.prog (tbl_22 D) (lt_0 D) 80 18 [.fl a0] [] 0) = .val none (.sb (S18_0 D a0)) := by kernel_rfl
def sp18 : Ev.Spec := fun D l => argF l fun a0 r0 => arg0 r0 (.ret (.sb (S18_0 D a0)))
theorem en18 : ∀ l r, (sp18 R l).run = some r → Entry Try.prog 18 l r := by
  intro l r h
  obtain ⟨x0, _, h, L0⟩ := argF_inv h
  obtain ⟨h, L1⟩ := arg0_inv h
  cases h
  exact (entry_loops prg tok_22 hok_0 (ev18 R x0) (fun o ho => nomatch ho) rfl).le (L0 _ L1)
def tl_18 : List (Nat × Ev.Spec) := (18, sp18) :: tl_22
def tbl_18 (D : Dom) : Tbl D := tblOf tl_18 D
theorem tok_18 : TblOK Try.prog (tbl_18 R) := TblOK.cons tok_22 en18

-- loop 0
def C0 (D : Dom) (a1 : D.Z) : D.B := (D.zlt a1 (D.zc 255))
def O0_ (D : Dom) (a0 : D.L) (a1 : D.Z) : D.B := (D.bite (D.zlt a1 (D.zc 255)) (D.zle (D.llen (D.lapp a0 [[.f (S21_0 D (D.zadd .i64 a1 (D.zc 1)))]])) (D.zc 1073741824)) (D.bc true))
def N0_0 (D : Dom) (a0 : D.L) (a1 : D.Z) : D.L := (D.lapp a0 [[.f (S21_0 D (D.zadd .i64 a1 (D.zc 1)))]])
def N0_1 (D : Dom) (a1 : D.Z) : D.Z := (D.zadd .i64 a1 (D.zc 1))
def G0 (D : Dom)  (p : List (PD D)) : D.B × D.B × List (PD D) := (C0 D (nthZ p 1), O0_ D (nthL p 0) (nthZ p 1), [.l (N0_0 D (nthL p 0) (nthZ p 1)), .z (N0_1 D (nthZ p 1))])
def L0 (D : Dom) (a0 : D.L) (a1 : D.Z) : List (PD D) := D.last (G0 D) [.l a0, .z a1]
def E0 (D : Dom) (a0 : D.L) (a1 : D.Z) : D.B := D.ends (G0 D) [.l a0, .z a1]

-- loop 1
def C1 (D : Dom) (a1 : D.Z) : D.B := (D.zlt a1 (D.zc 255))
def O1_ (D : Dom) (a0 : D.L) (a1 : D.Z) : D.B := (D.bite (D.zlt a1 (D.zc 255)) (D.zle (D.llen (D.lapp a0 [[.f (S22_0 D (D.zadd .i64 a1 (D.zc 1)))]])) (D.zc 1073741824)) (D.bc true))
def N1_0 (D : Dom) (a0 : D.L) (a1 : D.Z) : D.L := (D.lapp a0 [[.f (S22_0 D (D.zadd .i64 a1 (D.zc 1)))]])
def N1_1 (D : Dom) (a1 : D.Z) : D.Z := (D.zadd .i64 a1 (D.zc 1))
def G1 (D : Dom)  (p : List (PD D)) : D.B × D.B × List (PD D) := (C1 D (nthZ p 1), O1_ D (nthL p 0) (nthZ p 1), [.l (N1_0 D (nthL p 0) (nthZ p 1)), .z (N1_1 D (nthZ p 1))])
def L1 (D : Dom) (a0 : D.L) (a1 : D.Z) : List (PD D) := D.last (G1 D) [.l a0, .z a1]
def E1 (D : Dom) (a0 : D.L) (a1 : D.Z) : D.B := D.ends (G1 D) [.l a0, .z a1]

-- loop 2
def C2 (D : Dom) (a1 : D.Z) (a3 : D.Z) (a4 : D.Z) : D.B := (D.bite (D.band (D.bnot (D.zeq (D.zc 2) (D.zc 0))) (D.bite (D.zle a4 a3) (D.bc true) (D.band (D.zle (D.zc 0) (D.zquo .i64 (D.zadd .i64 a3 a4) (D.zc 2))) (D.zlt (D.zquo .i64 (D.zadd .i64 a3 a4) (D.zc 2)) a1)))) (D.bnot (D.zle a4 a3)) (D.bc true))
def O2_ (D : Dom) (a1 : D.Z) (a3 : D.Z) (a4 : D.Z) : D.B := (D.band (D.bnot (D.zeq (D.zc 2) (D.zc 0))) (D.bite (D.zle a4 a3) (D.bc true) (D.band (D.zle (D.zc 0) (D.zquo .i64 (D.zadd .i64 a3 a4) (D.zc 2))) (D.zlt (D.zquo .i64 (D.zadd .i64 a3 a4) (D.zc 2)) a1))))
def N2_0 (D : Dom) (a0 : D.F) (a2 : D.L) (a3 : D.Z) (a4 : D.Z) : D.Z := (D.zite (D.fle (D.lf a2 (D.zquo .i64 (D.zadd .i64 a3 a4) (D.zc 2)) 0) a0) (D.zadd .i64 (D.zquo .i64 (D.zadd .i64 a3 a4) (D.zc 2)) (D.zc 1)) a3)
def N2_1 (D : Dom) (a0 : D.F) (a2 : D.L) (a3 : D.Z) (a4 : D.Z) : D.Z := (D.zite (D.fle (D.lf a2 (D.zquo .i64 (D.zadd .i64 a3 a4) (D.zc 2)) 0) a0) a4 (D.zquo .i64 (D.zadd .i64 a3 a4) (D.zc 2)))
def G2 (D : Dom) (a0 : D.F) (a1 : D.Z) (a2 : D.L) (p : List (PD D)) : D.B × D.B × List (PD D) := (C2 D a1 (nthZ p 0) (nthZ p 1), O2_ D a1 (nthZ p 0) (nthZ p 1), [.z (N2_0 D a0 a2 (nthZ p 0) (nthZ p 1)), .z (N2_1 D a0 a2 (nthZ p 0) (nthZ p 1))])
def L2 (D : Dom) (a0 : D.F) (a1 : D.Z) (a2 : D.L) (a3 : D.Z) (a4 : D.Z) : List (PD D) := D.last (G2 D a0 a1 a2) [.z a3, .z a4]
def E2 (D : Dom) (a0 : D.F) (a1 : D.Z) (a2 : D.L) (a3 : D.Z) (a4 : D.Z) : D.B := D.ends (G2 D a0 a1 a2) [.z a3, .z a4]
def sh_0 : HSh := ⟨1, 4, [.env (.clo 21 [] []), .env (.undef), .env (.nilp), .env (.ptr 0 0), .drop, .env (.agg [.nils]), .ctx, .var (.si .i64 ()), .drop, .drop, .drop, .drop, .drop, .drop, .drop, .drop, .drop, .drop, .drop, .drop, .drop, .drop, .drop, .drop, .env (.undef)], [(0, .cells [.slot [.f] 1])], [], []⟩
def st_0 (D : Dom) (env p : List (PD D)) : D.B × D.B × List (PD D) := let _ := env; G0 D p
theorem rd_0 (D : Dom) (env vars : List (PD D)) (ctx : List (AV D)) : (sh_0.round (sh_0.st env vars ctx).h.length (evCodeH Try.prog (tbl_18 D) (lt_0 D) 80 20 (loopB Try.prog 20 0) (sh_0.st env vars ctx))).map Nr.step = some (st_0 D env vars) := by kernel_rfl
noncomputable def ll_1 (D : Dom) : List (LE D) := ⟨20, 0, sh_0, st_0 D, fun s => evCodeH Try.prog (tbl_18 D) (lt_0 D) 80 20 (loopB Try.prog 20 0) s⟩ :: ll_0 D
noncomputable def lt_1 (D : Dom) : LTb D := ltOf (ll_1 D)
theorem hok_1 : HooksOK Try.prog (lt_1 R) := HooksOK.cons prg tok_18 hok_0 (by kernel_rfl) (by kernel_rfl) (rd_0 R)
def sh_1 : HSh := ⟨5, 8, [.env (.clo 22 [] []), .env (.undef), .env (.nilp), .env (.ptr 4 0), .drop, .env (.agg [.nils]), .ctx, .var (.si .i64 ()), .drop, .drop, .drop, .drop, .drop, .drop, .drop, .drop, .drop, .drop, .drop, .drop, .drop, .drop, .drop, .drop, .env (.undef)], [(4, .cells [.slot [.f] 1])], [], []⟩
def st_1 (D : Dom) (env p : List (PD D)) : D.B × D.B × List (PD D) := let _ := env; G1 D p
theorem rd_1 (D : Dom) (env vars : List (PD D)) (ctx : List (AV D)) : (sh_1.round (sh_1.st env vars ctx).h.length (evCodeH Try.prog (tbl_18 D) (lt_1 D) 80 20 (loopB Try.prog 20 0) (sh_1.st env vars ctx))).map Nr.step = some (st_1 D env vars) := by kernel_rfl
noncomputable def ll_2 (D : Dom) : List (LE D) := ⟨20, 0, sh_1, st_1 D, fun s => evCodeH Try.prog (tbl_18 D) (lt_1 D) 80 20 (loopB Try.prog 20 0) s⟩ :: ll_1 D
noncomputable def lt_2 (D : Dom) : LTb D := ltOf (ll_2 D)
theorem hok_2 : HooksOK Try.prog (lt_2 R) := HooksOK.cons prg tok_18 hok_1 (by kernel_rfl) (by kernel_rfl) (rd_1 R)
def sh_2 : HSh := ⟨13, 13, [.env (.ptr 0 0), .env (.fl ()), .env (.undef), .env (.undef), .env (.ki .i64 0), .var (.si .i64 ()), .var (.si .i64 ()), .drop, .ctx, .env (.kb false), .ctx, .ctx, .ctx, .ctx, .ctx, .drop, .drop, .drop, .drop, .drop, .drop, .drop, .drop, .drop, .drop, .drop, .drop, .drop, .drop, .drop, .drop, .drop, .drop, .drop, .drop, .drop, .env (.undef)], [], [(0, [.sslice 1 .whole none () 1]), (1, [.row false [.f] ()])], []⟩
def st_2 (D : Dom) (env p : List (PD D)) : D.B × D.B × List (PD D) := G2 D (nthF env 0) (nthZ env 1) (nthL env 2) p
theorem rd_2 (D : Dom) (env vars : List (PD D)) (ctx : List (AV D)) : (sh_2.round (sh_2.st env vars ctx).h.length (evCodeH Try.prog (tbl_18 D) (lt_2 D) 80 8 (loopB Try.prog 8 0) (sh_2.st env vars ctx))).map Nr.step = some (st_2 D env vars) := by kernel_rfl
noncomputable def ll_3 (D : Dom) : List (LE D) := ⟨8, 0, sh_2, st_2 D, fun s => evCodeH Try.prog (tbl_18 D) (lt_2 D) 80 8 (loopB Try.prog 8 0) s⟩ :: ll_2 D
noncomputable def lt_3 (D : Dom) : LTb D := ltOf (ll_3 D)
theorem hok_3 : HooksOK Try.prog (lt_3 R) := HooksOK.cons prg tok_18 hok_2 (by kernel_rfl) (by kernel_rfl) (rd_2 R)
def sh_3 : HSh := ⟨13, 13, [.env (.ptr 4 0), .env (.fl ()), .env (.undef), .env (.undef), .env (.ki .i64 0), .var (.si .i64 ()), .var (.si .i64 ()), .drop, .ctx, .env (.kb false), .ctx, .ctx, .ctx, .ctx, .ctx, .drop, .drop, .drop, .drop, .drop, .drop, .drop, .drop, .drop, .drop, .drop, .drop, .drop, .drop, .drop, .drop, .drop, .drop, .drop, .drop, .drop, .env (.undef)], [], [(4, [.sslice 5 .whole none () 1]), (5, [.row false [.f] ()])], []⟩
def st_3 (D : Dom) (env p : List (PD D)) : D.B × D.B × List (PD D) := G2 D (nthF env 0) (nthZ env 1) (nthL env 2) p
theorem rd_3 (D : Dom) (env vars : List (PD D)) (ctx : List (AV D)) : (sh_3.round (sh_3.st env vars ctx).h.length (evCodeH Try.prog (tbl_18 D) (lt_3 D) 80 8 (loopB Try.prog 8 0) (sh_3.st env vars ctx))).map Nr.step = some (st_3 D env vars) := by kernel_rfl
noncomputable def ll_4 (D : Dom) : List (LE D) := ⟨8, 0, sh_3, st_3 D, fun s => evCodeH Try.prog (tbl_18 D) (lt_3 D) 80 8 (loopB Try.prog 8 0) s⟩ :: ll_3 D
noncomputable def lt_4 (D : Dom) : LTb D := ltOf (ll_4 D)
theorem hok_4 : HooksOK Try.prog (lt_4 R) := HooksOK.cons prg tok_18 hok_3 (by kernel_rfl) (by kernel_rfl) (rd_3 R)

-- penumbra/penumbralaw43.awake
def WS5_0_0 (D : Dom)  : List (PD D) := (L0 D D.lnil (D.zc 0))
def WS5_0_1 (D : Dom)  : List (PD D) := (L2 D (D.fc 4602678819172646912) (D.llen (nthL (WS5_0_0 D) 0)) (nthL (WS5_0_0 D) 0) (D.zc 0) (D.llen (nthL (WS5_0_0 D) 0)))
def WS5_0_2 (D : Dom)  : List (PD D) := (L2 D (D.fc 0) (D.llen (nthL (WS5_0_0 D) 0)) (nthL (WS5_0_0 D) 0) (D.zc 0) (D.llen (nthL (WS5_0_0 D) 0)))
def WS5_0_3 (D : Dom)  : List (PD D) := (L2 D (D.fc 4621256167635550208) (D.llen (nthL (WS5_0_0 D) 0)) (nthL (WS5_0_0 D) 0) (D.zc 0) (D.llen (nthL (WS5_0_0 D) 0)))
def WS5_0_4 (D : Dom)  : List (PD D) := (L1 D D.lnil (D.zc 0))
def WS5_0_5 (D : Dom)  : List (PD D) := (L2 D (D.fc 4598175219545276416) (D.llen (nthL (WS5_0_4 D) 0)) (nthL (WS5_0_4 D) 0) (D.zc 0) (D.llen (nthL (WS5_0_4 D) 0)))
def WS5_0_6 (D : Dom)  : D.F := (D.fite (D.bite (D.fgt (D.fc 4602678819172646912) (D.fc 0)) (S18_0 D (D.fc 4602678819172646912)) (D.bc false)) (D.fc 4602678819172646912) (D.fc 0))
def WS5_0_7 (D : Dom)  : D.F := (D.fite (D.bite (D.fgt (D.fc 4613937818241073152) (WS5_0_6 D)) (S18_0 D (D.fc 4613937818241073152)) (D.bc false)) (D.fc 4613937818241073152) (WS5_0_6 D))
def S5_0 (D : Dom) : D.B := (D.bite (D.bite (D.bite (D.bite (D.bite (D.zeq (nthZ (WS5_0_1 D) 0) (D.zc 128)) (D.zeq (nthZ (WS5_0_2 D) 0) (D.zc 0)) (D.bc false)) (D.zeq (nthZ (WS5_0_3 D) 0) (D.zc 255)) (D.bc false)) (D.zeq (nthZ (WS5_0_5 D) 0) (D.zc 128)) (D.bc false)) (D.feq (D.fite (D.feq (WS5_0_7 D) (D.fc 0)) (D.fc 4607182418800017408) (WS5_0_7 D)) (D.fc 4613937818241073152)) (D.bc false)) (D.feq (D.lf (D.lapp (D.lapp D.lnil [[.f (D.fmul (D.fc 4607182418800017408) (D.fc 4598175219545276416))]]) [[.f (D.fmul (D.fc 4611686018427387904) (D.fc 4598175219545276416))]]) (D.zc 1) 0) (D.fc 4602678819172646912)) (D.bc false))
def WO5_0 (D : Dom)  : D.B := (E0 D D.lnil (D.zc 0))
def WO5_1 (D : Dom)  : D.B := (E1 D D.lnil (D.zc 0))
def WO5_2 (D : Dom)  : D.L := (D.lapp D.lnil [[.f (D.fmul (D.fc 4607182418800017408) (D.fc 4598175219545276416))]])
def WO5_3 (D : Dom)  : D.Z := (D.llen (D.lapp (WO5_2 D) [[.f (D.fmul (D.fc 4611686018427387904) (D.fc 4598175219545276416))]]))
def WO5_4 (D : Dom)  : List (PD D) := (L0 D D.lnil (D.zc 0))
def WO5_5 (D : Dom)  : D.B := (E2 D (D.fc 4602678819172646912) (D.llen (nthL (WO5_4 D) 0)) (nthL (WO5_4 D) 0) (D.zc 0) (D.llen (nthL (WO5_4 D) 0)))
def WO5_6 (D : Dom)  : List (PD D) := (L2 D (D.fc 4602678819172646912) (D.llen (nthL (WO5_4 D) 0)) (nthL (WO5_4 D) 0) (D.zc 0) (D.llen (nthL (WO5_4 D) 0)))
def WO5_7 (D : Dom)  : D.B := (E2 D (D.fc 0) (D.llen (nthL (WO5_4 D) 0)) (nthL (WO5_4 D) 0) (D.zc 0) (D.llen (nthL (WO5_4 D) 0)))
def WO5_8 (D : Dom)  : List (PD D) := (L2 D (D.fc 0) (D.llen (nthL (WO5_4 D) 0)) (nthL (WO5_4 D) 0) (D.zc 0) (D.llen (nthL (WO5_4 D) 0)))
def WO5_9 (D : Dom)  : D.B := (D.bite (D.zeq (nthZ (WO5_6 D) 0) (D.zc 128)) (D.zeq (nthZ (WO5_8 D) 0) (D.zc 0)) (D.bc false))
def WO5_10 (D : Dom)  : D.B := (E2 D (D.fc 4621256167635550208) (D.llen (nthL (WO5_4 D) 0)) (nthL (WO5_4 D) 0) (D.zc 0) (D.llen (nthL (WO5_4 D) 0)))
def WO5_11 (D : Dom)  : List (PD D) := (L2 D (D.fc 4621256167635550208) (D.llen (nthL (WO5_4 D) 0)) (nthL (WO5_4 D) 0) (D.zc 0) (D.llen (nthL (WO5_4 D) 0)))
def WO5_12 (D : Dom)  : D.B := (D.bite (WO5_9 D) (D.zeq (nthZ (WO5_11 D) 0) (D.zc 255)) (D.bc false))
def WO5_13 (D : Dom)  : List (PD D) := (L1 D D.lnil (D.zc 0))
def WO5_14 (D : Dom)  : D.B := (E2 D (D.fc 4598175219545276416) (D.llen (nthL (WO5_13 D) 0)) (nthL (WO5_13 D) 0) (D.zc 0) (D.llen (nthL (WO5_13 D) 0)))
def WO5_15 (D : Dom)  : List (PD D) := (L2 D (D.fc 4598175219545276416) (D.llen (nthL (WO5_13 D) 0)) (nthL (WO5_13 D) 0) (D.zc 0) (D.llen (nthL (WO5_13 D) 0)))
def WO5_16 (D : Dom)  : D.F := (D.fite (D.bite (D.fgt (D.fc 4602678819172646912) (D.fc 0)) (S18_0 D (D.fc 4602678819172646912)) (D.bc false)) (D.fc 4602678819172646912) (D.fc 0))
def WO5_17 (D : Dom)  : D.F := (D.fite (D.bite (D.fgt (D.fc 4613937818241073152) (WO5_16 D)) (S18_0 D (D.fc 4613937818241073152)) (D.bc false)) (D.fc 4613937818241073152) (WO5_16 D))
def O5 (D : Dom) : D.B := (D.band (D.band (WO5_0 D) (WO5_1 D)) (D.band (D.band (D.zle (D.llen (WO5_2 D)) (D.zc 1073741824)) (D.zle (WO5_3 D) (D.zc 1073741824))) (D.band (WO5_5 D) (D.band (D.bite (D.zeq (nthZ (WO5_6 D) 0) (D.zc 128)) (WO5_7 D) (D.bc true)) (D.band (D.bite (WO5_9 D) (WO5_10 D) (D.bc true)) (D.band (D.bite (WO5_12 D) (WO5_14 D) (D.bc true)) (D.bite (D.bite (D.bite (WO5_12 D) (D.zeq (nthZ (WO5_15 D) 0) (D.zc 128)) (D.bc false)) (D.feq (D.fite (D.feq (WO5_17 D) (D.fc 0)) (D.fc 4607182418800017408) (WO5_17 D)) (D.fc 4613937818241073152)) (D.bc false)) (D.band (D.zle (D.zc 0) (D.zc 1)) (D.zlt (D.zc 1) (WO5_3 D))) (D.bc true))))))))
theorem ev5 (D : Dom)  : joinT (evFnH Try.prog (tbl_18 D) (lt_4 D) 80 5 [] [] 0) = .val (some (O5 D)) (.sb (S5_0 D)) := by kernel_rfl
def sp5 : Ev.Spec := fun D l => arg0 l (.node (O5 D) (.ret (.sb (S5_0 D))) (.fail "pre"))
theorem en5 : ∀ l r, (sp5 R l).run = some r → Entry Try.prog 5 l r := by
  intro l r h
  obtain ⟨h, L0⟩ := arg0_inv h
  obtain ⟨hok, rfl⟩ := run_okay h
  exact (entry_loops prg tok_18 hok_4 (ev5 R ) (fun o ho => (Option.some.inj ho) ▸ hok) rfl).le L0
def tl_5 : List (Nat × Ev.Spec) := (5, sp5) :: tl_18
def tbl_5 (D : Dom) : Tbl D := tblOf tl_5 D
theorem tok_5 : TblOK Try.prog (tbl_5 R) := TblOK.cons tok_18 en5

-- penumbra/penumbraref02.Number
def S19_0 (D : Dom) (a0 : D.F) : D.B := (D.feq (D.fsub a0 a0) (D.fc 0))
theorem ev19 (D : Dom) (a0 : D.F) : joinT (evFnH Try.prog (tbl_5 D) (lt_4 D) 80 19 [.fl a0] [] 0) = .val none (.sb (S19_0 D a0)) := by kernel_rfl
def sp19 : Ev.Spec := fun D l => argF l fun a0 r0 => arg0 r0 (.ret (.sb (S19_0 D a0)))
theorem en19 : ∀ l r, (sp19 R l).run = some r → Entry Try.prog 19 l r := by
  intro l r h
  obtain ⟨x0, _, h, L0⟩ := argF_inv h
  obtain ⟨h, L1⟩ := arg0_inv h
  cases h
  exact (entry_loops prg tok_5 hok_4 (ev19 R x0) (fun o ho => nomatch ho) rfl).le (L0 _ L1)
def tl_19 : List (Nat × Ev.Spec) := (19, sp19) :: tl_5
def tbl_19 (D : Dom) : Tbl D := tblOf tl_19 D
theorem tok_19 : TblOK Try.prog (tbl_19 R) := TblOK.cons tok_5 en19

-- loop 3
def C3 (D : Dom) (a0 : D.Z) (a1 : D.Z) (a2 : D.Z) (a3 : D.L) (a5 : D.Z) : D.B := (D.band (D.zlt a5 a2) (D.bite (D.band (D.band (D.zle (D.zc 0) a5) (D.zlt a5 a1)) (D.bite (D.bite (D.bnot (D.fgt (D.lf a3 a5 0) (D.fc 0))) (D.bc true) (D.bnot (S18_0 D (D.lf a3 a5 0)))) (D.bc true) (D.bite (D.zlt (D.zc 0) a5) (D.band (D.zle (D.zc 0) (D.zsub .i64 a5 (D.zc 1))) (D.zlt (D.zsub .i64 a5 (D.zc 1)) a0)) (D.bc true)))) (D.bnot (D.bite (D.bite (D.bnot (D.fgt (D.lf a3 a5 0) (D.fc 0))) (D.bc true) (D.bnot (S18_0 D (D.lf a3 a5 0)))) (D.bc true) (D.bite (D.zlt (D.zc 0) a5) (D.fle (D.lf a3 a5 0) (D.lf a3 (D.zsub .i64 a5 (D.zc 1)) 0)) (D.bc false)))) (D.bc true)))
def O3_ (D : Dom) (a0 : D.Z) (a1 : D.Z) (a2 : D.Z) (a3 : D.L) (a5 : D.Z) : D.B := (D.bite (D.zlt a5 a2) (D.band (D.band (D.zle (D.zc 0) a5) (D.zlt a5 a1)) (D.bite (D.bite (D.bnot (D.fgt (D.lf a3 a5 0) (D.fc 0))) (D.bc true) (D.bnot (S18_0 D (D.lf a3 a5 0)))) (D.bc true) (D.bite (D.zlt (D.zc 0) a5) (D.band (D.zle (D.zc 0) (D.zsub .i64 a5 (D.zc 1))) (D.zlt (D.zsub .i64 a5 (D.zc 1)) a0)) (D.bc true)))) (D.bc true))
def N3_1 (D : Dom) (a5 : D.Z) : D.Z := (D.zadd .i64 a5 (D.zc 1))
def G3 (D : Dom) (a0 : D.Z) (a1 : D.Z) (a2 : D.Z) (a3 : D.L) (p : List (PD D)) : D.B × D.B × List (PD D) := (C3 D a0 a1 a2 a3 (nthZ p 1), O3_ D a0 a1 a2 a3 (nthZ p 1), [.z (nthZ p 0), .z (N3_1 D (nthZ p 1))])
def L3 (D : Dom) (a0 : D.Z) (a1 : D.Z) (a2 : D.Z) (a3 : D.L) (a4 : D.Z) (a5 : D.Z) : List (PD D) := D.last (G3 D a0 a1 a2 a3) [.z a4, .z a5]
def E3 (D : Dom) (a0 : D.Z) (a1 : D.Z) (a2 : D.Z) (a3 : D.L) (a4 : D.Z) (a5 : D.Z) : D.B := D.ends (G3 D a0 a1 a2 a3) [.z a4, .z a5]

-- loop 4
def C4 (D : Dom) (a0 : D.Z) (a1 : D.L) (a3 : D.Z) : D.B := (D.band (D.zlt a3 a0) (D.bite (D.band (D.band (D.zle (D.zc 0) a3) (D.zlt a3 a0)) (D.bite (D.bnot (S19_0 D (D.lf a1 a3 0))) (D.bc true) (D.band (D.band (D.zle (D.zc 0) a3) (D.zlt a3 a0)) (D.bite (D.fle (D.lf a1 a3 0) (D.fc 0)) (D.bc true) (D.bite (D.zlt (D.zc 0) a3) (D.band (D.band (D.zle (D.zc 0) a3) (D.zlt a3 a0)) (D.band (D.zle (D.zc 0) (D.zsub .i64 a3 (D.zc 1))) (D.zlt (D.zsub .i64 a3 (D.zc 1)) a0))) (D.bc true)))))) (D.bnot (D.bite (D.bnot (S19_0 D (D.lf a1 a3 0))) (D.bc true) (D.bite (D.fle (D.lf a1 a3 0) (D.fc 0)) (D.bc true) (D.band (D.zlt (D.zc 0) a3) (D.fle (D.lf a1 a3 0) (D.lf a1 (D.zsub .i64 a3 (D.zc 1)) 0)))))) (D.bc true)))
def O4_ (D : Dom) (a0 : D.Z) (a1 : D.L) (a3 : D.Z) : D.B := (D.bite (D.zlt a3 a0) (D.band (D.band (D.zle (D.zc 0) a3) (D.zlt a3 a0)) (D.bite (D.bnot (S19_0 D (D.lf a1 a3 0))) (D.bc true) (D.band (D.band (D.zle (D.zc 0) a3) (D.zlt a3 a0)) (D.bite (D.fle (D.lf a1 a3 0) (D.fc 0)) (D.bc true) (D.bite (D.zlt (D.zc 0) a3) (D.band (D.band (D.zle (D.zc 0) a3) (D.zlt a3 a0)) (D.band (D.zle (D.zc 0) (D.zsub .i64 a3 (D.zc 1))) (D.zlt (D.zsub .i64 a3 (D.zc 1)) a0))) (D.bc true)))))) (D.bc true))
def N4_0 (D : Dom) (a2 : D.B) (a3 : D.Z) : D.B := (D.bite (D.zlt (D.zc 0) a3) a2 a2)
def N4_1 (D : Dom) (a3 : D.Z) : D.Z := (D.zadd .i64 a3 (D.zc 1))
def G4 (D : Dom) (a0 : D.Z) (a1 : D.L) (p : List (PD D)) : D.B × D.B × List (PD D) := (C4 D a0 a1 (nthZ p 1), O4_ D a0 a1 (nthZ p 1), [.b (N4_0 D (nthB p 0) (nthZ p 1)), .z (N4_1 D (nthZ p 1))])
def L4 (D : Dom) (a0 : D.Z) (a1 : D.L) (a2 : D.B) (a3 : D.Z) : List (PD D) := D.last (G4 D a0 a1) [.b a2, .z a3]
def E4 (D : Dom) (a0 : D.Z) (a1 : D.L) (a2 : D.B) (a3 : D.Z) : D.B := D.ends (G4 D a0 a1) [.b a2, .z a3]

-- loop 5
def C5 (D : Dom) (a0 : D.Z) (a4 : D.Z) : D.B := (D.zlt a4 a0)
def O5_ (D : Dom) (a0 : D.Z) (a4 : D.Z) : D.B := (D.bite (D.zlt a4 a0) (D.band (D.zle (D.zc 0) a4) (D.zlt a4 a0)) (D.bc true))
def N5_0 (D : Dom) (a1 : D.F) (a2 : D.L) (a3 : D.Z) (a4 : D.Z) : D.Z := (D.zite (D.fle (D.lf a2 a4 0) a1) (D.zadd .i64 a3 (D.zc 1)) a3)
def N5_1 (D : Dom) (a4 : D.Z) : D.Z := (D.zadd .i64 a4 (D.zc 1))
def G5 (D : Dom) (a0 : D.Z) (a1 : D.F) (a2 : D.L) (p : List (PD D)) : D.B × D.B × List (PD D) := (C5 D a0 (nthZ p 1), O5_ D a0 (nthZ p 1), [.z (N5_0 D a1 a2 (nthZ p 0) (nthZ p 1)), .z (N5_1 D (nthZ p 1))])
def L5 (D : Dom) (a0 : D.Z) (a1 : D.F) (a2 : D.L) (a3 : D.Z) (a4 : D.Z) : List (PD D) := D.last (G5 D a0 a1 a2) [.z a3, .z a4]
def E5 (D : Dom) (a0 : D.Z) (a1 : D.F) (a2 : D.L) (a3 : D.Z) (a4 : D.Z) : D.B := D.ends (G5 D a0 a1 a2) [.z a3, .z a4]
def sh_4 : HSh := ⟨1, 1, [.env (.sslice 0 .part none () 1), .env (.undef), .var (.nilp), .var (.si .i64 ()), .drop, .drop, .ctx, .ctx, .ctx, .env (.sslice 0 .part none () 1), .env (.si .i64 ()), .var (.si .i64 ()), .drop, .drop, .drop, .drop, .drop, .drop, .drop, .drop, .drop, .drop, .drop, .drop, .drop, .drop, .drop, .drop, .drop, .drop, .drop, .drop, .drop, .drop, .drop, .drop, .drop, .drop, .env (.undef), .env (.undef), .env (.undef), .env (.undef)], [], [(0, [.row true [.f] ()])], []⟩
def st_4 (D : Dom) (env p : List (PD D)) : D.B × D.B × List (PD D) := G3 D (nthZ env 0) (nthZ env 1) (nthZ env 2) (nthL env 3) p
theorem rd_4 (D : Dom) (env vars : List (PD D)) (ctx : List (AV D)) : (sh_4.round (sh_4.st env vars ctx).h.length (evCodeH Try.prog (tbl_19 D) (lt_4 D) 80 6 (loopB Try.prog 6 0) (sh_4.st env vars ctx))).map Nr.step = some (st_4 D env vars) := by kernel_rfl
noncomputable def ll_5 (D : Dom) : List (LE D) := ⟨6, 0, sh_4, st_4 D, fun s => evCodeH Try.prog (tbl_19 D) (lt_4 D) 80 6 (loopB Try.prog 6 0) s⟩ :: ll_4 D
noncomputable def lt_5 (D : Dom) : LTb D := ltOf (ll_5 D)
theorem hok_5 : HooksOK Try.prog (lt_5 R) := HooksOK.cons prg tok_19 hok_4 (by kernel_rfl) (by kernel_rfl) (rd_4 R)
def sh_5 : HSh := ⟨1, 1, [.env (.sslice 0 .part none () 1), .env (.undef), .var (.sb ()), .var (.si .i64 ()), .drop, .drop, .drop, .drop, .drop, .drop, .drop, .drop, .drop, .drop, .drop, .drop, .drop, .drop, .drop, .drop, .drop, .drop, .drop, .drop, .drop, .drop, .drop, .drop, .drop, .drop, .drop, .drop, .drop, .drop, .drop, .drop, .drop, .drop, .drop], [], [(0, [.row true [.f] ()])], []⟩
def st_5 (D : Dom) (env p : List (PD D)) : D.B × D.B × List (PD D) := G4 D (nthZ env 0) (nthL env 1) p
theorem rd_5 (D : Dom) (env vars : List (PD D)) (ctx : List (AV D)) : (sh_5.round (sh_5.st env vars ctx).h.length (evCodeH Try.prog (tbl_19 D) (lt_5 D) 80 7 (loopB Try.prog 7 0) (sh_5.st env vars ctx))).map Nr.step = some (st_5 D env vars) := by kernel_rfl
noncomputable def ll_6 (D : Dom) : List (LE D) := ⟨7, 0, sh_5, st_5 D, fun s => evCodeH Try.prog (tbl_19 D) (lt_5 D) 80 7 (loopB Try.prog 7 0) s⟩ :: ll_5 D
noncomputable def lt_6 (D : Dom) : LTb D := ltOf (ll_6 D)
theorem hok_6 : HooksOK Try.prog (lt_6 R) := HooksOK.cons prg tok_19 hok_5 (by kernel_rfl) (by kernel_rfl) (rd_5 R)
def sh_6 : HSh := ⟨3, 3, [.env (.sslice 0 .part none () 1), .env (.undef), .var (.sb ()), .var (.si .i64 ()), .drop, .drop, .drop, .drop, .drop, .drop, .drop, .drop, .drop, .drop, .drop, .drop, .drop, .drop, .drop, .drop, .drop, .drop, .drop, .drop, .drop, .drop, .drop, .drop, .drop, .drop, .drop, .drop, .drop, .drop, .drop, .drop, .drop, .drop, .drop], [], [(0, [.row true [.f] ()])], []⟩
def st_6 (D : Dom) (env p : List (PD D)) : D.B × D.B × List (PD D) := G4 D (nthZ env 0) (nthL env 1) p
theorem rd_6 (D : Dom) (env vars : List (PD D)) (ctx : List (AV D)) : (sh_6.round (sh_6.st env vars ctx).h.length (evCodeH Try.prog (tbl_19 D) (lt_6 D) 80 7 (loopB Try.prog 7 0) (sh_6.st env vars ctx))).map Nr.step = some (st_6 D env vars) := by kernel_rfl
noncomputable def ll_7 (D : Dom) : List (LE D) := ⟨7, 0, sh_6, st_6 D, fun s => evCodeH Try.prog (tbl_19 D) (lt_6 D) 80 7 (loopB Try.prog 7 0) s⟩ :: ll_6 D
noncomputable def lt_7 (D : Dom) : LTb D := ltOf (ll_7 D)
theorem hok_7 : HooksOK Try.prog (lt_7 R) := HooksOK.cons prg tok_19 hok_6 (by kernel_rfl) (by kernel_rfl) (rd_6 R)
def sh_7 : HSh := ⟨3, 3, [.env (.ptr 2 0), .env (.fl ()), .env (.undef), .env (.undef), .env (.ki .i64 0), .var (.si .i64 ()), .var (.si .i64 ()), .drop, .ctx, .env (.kb false), .ctx, .ctx, .ctx, .ctx, .ctx, .drop, .drop, .drop, .drop, .drop, .drop, .drop, .drop, .drop, .drop, .drop, .drop, .drop, .drop, .drop, .drop, .drop, .drop, .drop, .drop, .drop, .env (.undef)], [], [(2, [.sslice 1 .whole none () 1]), (1, [.row false [.f] ()])], []⟩
def st_7 (D : Dom) (env p : List (PD D)) : D.B × D.B × List (PD D) := G2 D (nthF env 0) (nthZ env 1) (nthL env 2) p
theorem rd_7 (D : Dom) (env vars : List (PD D)) (ctx : List (AV D)) : (sh_7.round (sh_7.st env vars ctx).h.length (evCodeH Try.prog (tbl_19 D) (lt_7 D) 80 8 (loopB Try.prog 8 0) (sh_7.st env vars ctx))).map Nr.step = some (st_7 D env vars) := by kernel_rfl
noncomputable def ll_8 (D : Dom) : List (LE D) := ⟨8, 0, sh_7, st_7 D, fun s => evCodeH Try.prog (tbl_19 D) (lt_7 D) 80 8 (loopB Try.prog 8 0) s⟩ :: ll_7 D
noncomputable def lt_8 (D : Dom) : LTb D := ltOf (ll_8 D)
theorem hok_8 : HooksOK Try.prog (lt_8 R) := HooksOK.cons prg tok_19 hok_7 (by kernel_rfl) (by kernel_rfl) (rd_7 R)
def sh_8 : HSh := ⟨3, 3, [.env (.sslice 0 .part none () 1), .env (.fl ()), .env (.undef), .env (.undef), .env (.ki .i64 0), .var (.si .i64 ()), .var (.si .i64 ()), .drop, .drop, .drop, .drop, .drop, .drop, .drop, .drop, .drop, .drop, .drop, .drop, .drop, .drop, .env (.undef)], [], [(0, [.row true [.f] ()])], []⟩
def st_8 (D : Dom) (env p : List (PD D)) : D.B × D.B × List (PD D) := G5 D (nthZ env 0) (nthF env 1) (nthL env 2) p
theorem rd_8 (D : Dom) (env vars : List (PD D)) (ctx : List (AV D)) : (sh_8.round (sh_8.st env vars ctx).h.length (evCodeH Try.prog (tbl_19 D) (lt_8 D) 80 9 (loopB Try.prog 9 0) (sh_8.st env vars ctx))).map Nr.step = some (st_8 D env vars) := by kernel_rfl
noncomputable def ll_9 (D : Dom) : List (LE D) := ⟨9, 0, sh_8, st_8 D, fun s => evCodeH Try.prog (tbl_19 D) (lt_8 D) 80 9 (loopB Try.prog 9 0) s⟩ :: ll_8 D
noncomputable def lt_9 (D : Dom) : LTb D := ltOf (ll_9 D)
theorem hok_9 : HooksOK Try.prog (lt_9 R) := HooksOK.cons prg tok_19 hok_8 (by kernel_rfl) (by kernel_rfl) (rd_8 R)

-- penumbra/penumbralaw43.ToneMakes
def WS3_0_0 (D : Dom)  : D.B := (D.bite (D.bite (S5_0 D) (D.bc true) (D.bc false)) (D.bc true) (D.bc false))
def WS3_0_1 (D : Dom) (a0 : D.L) : List (PD D) := (L3 D (D.llen a0) (D.llen a0) (D.llen a0) a0 (D.zc 0) (D.zc 0))
def WS3_0_2 (D : Dom) (a0 : D.L) : List (PD D) := (L4 D (D.llen a0) a0 (D.bc false) (D.zc 0))
def WS3_0_3 (D : Dom) (a0 : D.L) : D.B := (D.bnot (D.bite (D.zlt (nthZ (WS3_0_2 D a0) 1) (D.llen a0)) (D.bc false) (D.bc true)))
def WS3_0_4 (D : Dom) (a0 : D.L) : D.Z := (D.llen (D.lsub a0 (D.zc 0) (D.llen a0)))
def WS3_0_5 (D : Dom) (a0 : D.L) (a1 : D.F) : List (PD D) := (L2 D a1 (WS3_0_4 D a0) (D.lsub a0 (D.zc 0) (D.llen a0)) (D.zc 0) (WS3_0_4 D a0))
def WS3_0_6 (D : Dom) (a0 : D.L) (a1 : D.F) : List (PD D) := (L5 D (D.llen a0) a1 a0 (D.zc 0) (D.zc 0))
def WS3_0_7 (D : Dom) (a0 : D.L) (a2 : D.F) : List (PD D) := (L2 D a2 (WS3_0_4 D a0) (D.lsub a0 (D.zc 0) (D.llen a0)) (D.zc 0) (WS3_0_4 D a0))
def S3_0 (D : Dom) (a0 : D.L) (a1 : D.F) (a2 : D.F) : D.B := (D.bite (D.zlt (D.zc 300) (D.llen a0)) (S5_0 D) (D.bite (D.bnot (D.zeq (D.llen a0) (D.zc 255))) (D.bite (D.bnot (D.zeq (D.llen a0) (D.zc 255))) (WS3_0_0 D) (D.bc false)) (D.bite (D.zlt (nthZ (WS3_0_1 D a0) 1) (D.llen a0)) (D.bite (D.bnot (D.zeq (D.llen a0) (D.zc 255))) (D.bc false) (D.bite (WS3_0_3 D a0) (WS3_0_0 D) (D.bc false))) (D.bite (D.bnot (D.zeq (D.llen a0) (D.zc 255))) (D.bc false) (D.bite (WS3_0_3 D a0) (D.bc false) (D.bite (D.bite (S5_0 D) (D.zeq (nthZ (WS3_0_5 D a0 a1) 0) (nthZ (WS3_0_6 D a0 a1) 0)) (D.bc false)) (D.bite (D.bnot (D.fle a1 a2)) (D.bc true) (D.zle (nthZ (WS3_0_5 D a0 a1) 0) (nthZ (WS3_0_7 D a0 a2) 0))) (D.bc false)))))))
def WO3_0 (D : Dom) (a0 : D.L) : D.B := (D.bite (D.bnot (D.zeq (D.llen a0) (D.zc 255))) (O5 D) (D.bc true))
def WO3_1 (D : Dom) (a0 : D.L) : D.B := (E4 D (D.llen a0) a0 (D.bc false) (D.zc 0))
def WO3_2 (D : Dom) (a0 : D.L) : List (PD D) := (L4 D (D.llen a0) a0 (D.bc false) (D.zc 0))
def WO3_3 (D : Dom) (a0 : D.L) : D.B := (D.bnot (D.bite (D.zlt (nthZ (WO3_2 D a0) 1) (D.llen a0)) (D.bc false) (D.bc true)))
def WO3_4 (D : Dom) (a0 : D.L) : D.B := (D.band (WO3_0 D a0) (D.bite (D.bnot (D.zeq (D.llen a0) (D.zc 255))) (D.bc true) (D.band (WO3_1 D a0) (D.bite (WO3_3 D a0) (O5 D) (D.bc true)))))
def WO3_5 (D : Dom) (a0 : D.L) : D.B := (E3 D (D.llen a0) (D.llen a0) (D.llen a0) a0 (D.zc 0) (D.zc 0))
def WO3_6 (D : Dom) (a0 : D.L) : List (PD D) := (L3 D (D.llen a0) (D.llen a0) (D.llen a0) a0 (D.zc 0) (D.zc 0))
def WO3_7 (D : Dom) (a0 : D.L) : D.Z := (D.llen (D.lsub a0 (D.zc 0) (D.llen a0)))
def WO3_8 (D : Dom) (a0 : D.L) (a1 : D.F) : D.B := (E2 D a1 (WO3_7 D a0) (D.lsub a0 (D.zc 0) (D.llen a0)) (D.zc 0) (WO3_7 D a0))
def WO3_9 (D : Dom) (a0 : D.L) (a1 : D.F) : D.B := (E5 D (D.llen a0) a1 a0 (D.zc 0) (D.zc 0))
def WO3_10 (D : Dom) (a0 : D.L) (a1 : D.F) : List (PD D) := (L2 D a1 (WO3_7 D a0) (D.lsub a0 (D.zc 0) (D.llen a0)) (D.zc 0) (WO3_7 D a0))
def WO3_11 (D : Dom) (a0 : D.L) (a1 : D.F) : List (PD D) := (L5 D (D.llen a0) a1 a0 (D.zc 0) (D.zc 0))
def WO3_12 (D : Dom) (a0 : D.L) (a2 : D.F) : D.B := (E2 D a2 (WO3_7 D a0) (D.lsub a0 (D.zc 0) (D.llen a0)) (D.zc 0) (WO3_7 D a0))
def O3 (D : Dom) (a0 : D.L) (a1 : D.F) (a2 : D.F) : D.B := (D.band (D.bite (D.zlt (D.zc 300) (D.llen a0)) (O5 D) (D.bc true)) (D.bite (D.zlt (D.zc 300) (D.llen a0)) (D.bc true) (D.bite (D.bnot (D.zeq (D.llen a0) (D.zc 255))) (WO3_4 D a0) (D.band (WO3_5 D a0) (D.bite (D.zlt (nthZ (WO3_6 D a0) 1) (D.llen a0)) (WO3_4 D a0) (D.band (D.zle (WO3_7 D a0) (D.zc 1073741824)) (D.band (WO3_0 D a0) (D.bite (D.bnot (D.zeq (D.llen a0) (D.zc 255))) (D.bc true) (D.band (WO3_1 D a0) (D.band (D.bite (WO3_3 D a0) (O5 D) (D.bc true)) (D.bite (WO3_3 D a0) (D.bc true) (D.band (O5 D) (D.band (D.bite (S5_0 D) (D.band (WO3_8 D a0 a1) (WO3_9 D a0 a1)) (D.bc true)) (D.bite (D.bite (S5_0 D) (D.zeq (nthZ (WO3_10 D a0 a1) 0) (nthZ (WO3_11 D a0 a1) 0)) (D.bc false)) (D.bite (D.bnot (D.fle a1 a2)) (D.bc true) (D.band (WO3_8 D a0 a1) (WO3_12 D a0 a2))) (D.bc true)))))))))))))))
theorem ev3 (D : Dom) (a0 : D.L) (a1 : D.F) (a2 : D.F) : joinT (evFnH Try.prog (tbl_19 D) (lt_9 D) 80 3 [.sslice 0 .part none (D.llen a0) 1, .fl a1, .fl a2] [(0, [.row true [.f] a0])] 1) = .val (some (O3 D a0 a1 a2)) (.sb (S3_0 D a0 a1 a2)) := by kernel_rfl

-- penumbra/penumbraref43.End
def S23_0 (D : Dom) (a0 : D.Z) (a1 : D.B) : D.F := (D.fite a1 (D.fmul (D.fdiv (D.fsub (D.i2f a0) (D.fc 4602678819172646912)) (D.fc 4643176031446892544)) (D.fdiv (D.fsub (D.i2f a0) (D.fc 4602678819172646912)) (D.fc 4643176031446892544))) (D.fdiv (D.fsub (D.i2f a0) (D.fc 4602678819172646912)) (D.fc 4643176031446892544)))
theorem ev23 (D : Dom) (a0 : D.Z) (a1 : D.B) : joinT (evFnH Try.prog (tbl_19 D) (lt_9 D) 80 23 [.si .i64 a0, .sb a1] [] 0) = .val none (.fl (S23_0 D a0 a1)) := by kernel_rfl
def sp23 : Ev.Spec := fun D l => argZ .i64 l fun a0 r0 => argB r0 fun a1 r1 => arg0 r1 (.ret (.fl (S23_0 D a0 a1)))
theorem en23 : ∀ l r, (sp23 R l).run = some r → Entry Try.prog 23 l r := by
  intro l r h
  obtain ⟨x0, _, h, L0⟩ := argZ_inv h
  obtain ⟨x1, _, h, L1⟩ := argB_inv h
  obtain ⟨h, L2⟩ := arg0_inv h
  cases h
  exact (entry_loops prg tok_19 hok_9 (ev23 R x0 x1) (fun o ho => nomatch ho) rfl).le (L0 _ (L1 _ L2))
def tl_23 : List (Nat × Ev.Spec) := (23, sp23) :: tl_19
def tbl_23 (D : Dom) : Tbl D := tblOf tl_23 D
theorem tok_23 : TblOK Try.prog (tbl_23 R) := TblOK.cons tok_19 en23

-- loop 6
def C6 (D : Dom) (a2 : D.Z) : D.B := (D.zle a2 (D.zc 255))
def O6_ (D : Dom) (a0 : D.B) (a1 : D.L) (a2 : D.Z) : D.B := (D.bite (D.zle a2 (D.zc 255)) (D.zle (D.llen (D.lapp a1 [[.f (S23_0 D a2 a0)]])) (D.zc 1073741824)) (D.bc true))
def N6_0 (D : Dom) (a0 : D.B) (a1 : D.L) (a2 : D.Z) : D.L := (D.lapp a1 [[.f (S23_0 D a2 a0)]])
def N6_1 (D : Dom) (a2 : D.Z) : D.Z := (D.zadd .i64 a2 (D.zc 1))
def G6 (D : Dom) (a0 : D.B) (p : List (PD D)) : D.B × D.B × List (PD D) := (C6 D (nthZ p 1), O6_ D a0 (nthL p 0) (nthZ p 1), [.l (N6_0 D a0 (nthL p 0) (nthZ p 1)), .z (N6_1 D (nthZ p 1))])
def L6 (D : Dom) (a0 : D.B) (a1 : D.L) (a2 : D.Z) : List (PD D) := D.last (G6 D a0) [.l a1, .z a2]
def E6 (D : Dom) (a0 : D.B) (a1 : D.L) (a2 : D.Z) : D.B := D.ends (G6 D a0) [.l a1, .z a2]

-- loop 7
def C7 (D : Dom) (a1 : D.Z) (a6 : D.Z) : D.B := (D.zlt a6 a1)
def WO7__0 (D : Dom) (a2 : D.Z) (a3 : D.L) (a4 : D.L) (a6 : D.Z) : D.B := (E2 D (D.lf a3 a6 0) a2 a4 (D.zc 0) a2)
def WO7__1 (D : Dom) (a2 : D.Z) (a3 : D.L) (a4 : D.L) (a6 : D.Z) : List (PD D) := (L2 D (D.lf a3 a6 0) a2 a4 (D.zc 0) a2)
def O7_ (D : Dom) (a0 : D.Z) (a1 : D.Z) (a2 : D.Z) (a3 : D.L) (a4 : D.L) (a5 : D.L) (a6 : D.Z) : D.B := (D.bite (D.zlt a6 a1) (D.band (D.band (D.zle (D.zc 0) a6) (D.zlt a6 a0)) (D.band (WO7__0 D a2 a3 a4 a6) (D.zle (D.llen (D.lapp a5 [[.z (D.zconv .u8 (nthZ (WO7__1 D a2 a3 a4 a6) 0))]])) (D.zc 1073741824)))) (D.bc true))
def N7_0 (D : Dom) (a2 : D.Z) (a3 : D.L) (a4 : D.L) (a5 : D.L) (a6 : D.Z) : D.L := (D.lapp a5 [[.z (D.zconv .u8 (nthZ (L2 D (D.lf a3 a6 0) a2 a4 (D.zc 0) a2) 0))]])
def N7_1 (D : Dom) (a6 : D.Z) : D.Z := (D.zadd .i64 a6 (D.zc 1))
def G7 (D : Dom) (a0 : D.Z) (a1 : D.Z) (a2 : D.Z) (a3 : D.L) (a4 : D.L) (p : List (PD D)) : D.B × D.B × List (PD D) := (C7 D a1 (nthZ p 1), O7_ D a0 a1 a2 a3 a4 (nthL p 0) (nthZ p 1), [.l (N7_0 D a2 a3 a4 (nthL p 0) (nthZ p 1)), .z (N7_1 D (nthZ p 1))])
def L7 (D : Dom) (a0 : D.Z) (a1 : D.Z) (a2 : D.Z) (a3 : D.L) (a4 : D.L) (a5 : D.L) (a6 : D.Z) : List (PD D) := D.last (G7 D a0 a1 a2 a3 a4) [.l a5, .z a6]
def E7 (D : Dom) (a0 : D.Z) (a1 : D.Z) (a2 : D.Z) (a3 : D.L) (a4 : D.L) (a5 : D.L) (a6 : D.Z) : D.B := D.ends (G7 D a0 a1 a2 a3 a4) [.l a5, .z a6]

-- loop 8
def WC8_0 (D : Dom) (a0 : D.Z) (a9 : D.Z) : D.B := (D.band (D.zle (D.zc 0) a9) (D.zlt a9 a0))
def WC8_1 (D : Dom) (a1 : D.Z) (a3 : D.L) (a5 : D.L) (a9 : D.Z) : D.B := (E5 D a1 (D.lf a3 a9 0) a5 (D.zc 0) (D.zc 0))
def WC8_2 (D : Dom) (a1 : D.Z) (a3 : D.L) (a5 : D.L) (a9 : D.Z) : List (PD D) := (L5 D a1 (D.lf a3 a9 0) a5 (D.zc 0) (D.zc 0))
def WC8_3 (D : Dom) (a1 : D.Z) (a3 : D.L) (a4 : D.Z) (a5 : D.L) (a9 : D.Z) : D.B := (D.zlt a4 (nthZ (WC8_2 D a1 a3 a5 a9) 0))
def WC8_4 (D : Dom) (a1 : D.Z) (a3 : D.L) (a4 : D.Z) (a5 : D.L) (a9 : D.Z) : D.B := (D.bite (D.zlt (nthZ (WC8_2 D a1 a3 a5 a9) 0) (D.zc 0)) (D.bc true) (WC8_3 D a1 a3 a4 a5 a9))
def WC8_5 (D : Dom) (a1 : D.Z) (a3 : D.L) (a4 : D.Z) (a5 : D.L) (a9 : D.Z) : D.B := (D.zeq (nthZ (WC8_2 D a1 a3 a5 a9) 0) a4)
def WC8_6 (D : Dom) (a1 : D.Z) (a3 : D.L) (a4 : D.Z) (a5 : D.L) (a9 : D.Z) : D.B := (D.bite (D.zlt (nthZ (WC8_2 D a1 a3 a5 a9) 0) (D.zc 1)) (D.bc true) (WC8_3 D a1 a3 a4 a5 a9))
def WC8_7 (D : Dom) (a1 : D.Z) (a3 : D.L) (a5 : D.L) (a9 : D.Z) : D.Z := (D.zsub .i64 (nthZ (WC8_2 D a1 a3 a5 a9) 0) (D.zc 1))
def WC8_8 (D : Dom) (a1 : D.Z) (a3 : D.L) (a4 : D.Z) (a5 : D.L) (a9 : D.Z) : D.B := (D.bite (WC8_6 D a1 a3 a4 a5 a9) (D.bc true) (D.band (D.zle (D.zc 0) (WC8_7 D a1 a3 a5 a9)) (D.zlt (WC8_7 D a1 a3 a5 a9) a4)))
def WC8_9 (D : Dom) (a1 : D.Z) (a3 : D.L) (a4 : D.Z) (a5 : D.L) (a9 : D.Z) : D.B := (D.bite (WC8_4 D a1 a3 a4 a5 a9) (D.bc true) (WC8_5 D a1 a3 a4 a5 a9))
def WC8_10 (D : Dom) (a1 : D.Z) (a3 : D.L) (a5 : D.L) (a9 : D.Z) : D.Z := (D.zadd .i64 (nthZ (WC8_2 D a1 a3 a5 a9) 0) (D.zc 1))
def WC8_11 (D : Dom) (a1 : D.Z) (a3 : D.L) (a4 : D.Z) (a5 : D.L) (a9 : D.Z) : D.B := (D.bite (D.zlt (WC8_10 D a1 a3 a5 a9) (D.zc 1)) (D.bc true) (D.zlt a4 (WC8_10 D a1 a3 a5 a9)))
def WC8_12 (D : Dom) (a1 : D.Z) (a3 : D.L) (a5 : D.L) (a9 : D.Z) : D.Z := (D.zsub .i64 (WC8_10 D a1 a3 a5 a9) (D.zc 1))
def WC8_13 (D : Dom) (a3 : D.L) (a4 : D.Z) (a7 : D.L) (a9 : D.Z) : D.B := (E2 D (D.lf a3 a9 0) a4 a7 (D.zc 0) a4)
def WC8_14 (D : Dom) (a3 : D.L) (a4 : D.Z) (a7 : D.L) (a9 : D.Z) : List (PD D) := (L2 D (D.lf a3 a9 0) a4 a7 (D.zc 0) a4)
def WC8_15 (D : Dom) (a1 : D.Z) (a3 : D.L) (a4 : D.Z) (a5 : D.L) (a7 : D.L) (a9 : D.Z) : D.B := (D.bnot (D.zeq (nthZ (WC8_14 D a3 a4 a7 a9) 0) (nthZ (WC8_2 D a1 a3 a5 a9) 0)))
def WC8_16 (D : Dom) (a1 : D.Z) (a3 : D.L) (a4 : D.Z) (a5 : D.L) (a6 : D.L) (a7 : D.L) (a9 : D.Z) : D.B := (D.bite (WC8_15 D a1 a3 a4 a5 a7 a9) (D.bc true) (D.bnot (D.zeq (D.zconv .i64 (D.lz a6 a9 0)) (nthZ (WC8_2 D a1 a3 a5 a9) 0))))
def WC8_17 (D : Dom) (a1 : D.Z) (a3 : D.L) (a4 : D.Z) (a5 : D.L) (a7 : D.L) (a9 : D.Z) : D.F := (D.fite (WC8_6 D a1 a3 a4 a5 a9) (D.fc 0) (D.lf a7 (WC8_7 D a1 a3 a5 a9) 0))
def WC8_18 (D : Dom) (a1 : D.Z) (a3 : D.L) (a4 : D.Z) (a5 : D.L) (a7 : D.L) (a9 : D.Z) : D.B := (D.fle (D.fite (WC8_9 D a1 a3 a4 a5 a9) (D.fite (WC8_4 D a1 a3 a4 a5 a9) (D.fc 0) (WC8_17 D a1 a3 a4 a5 a7 a9)) (WC8_17 D a1 a3 a4 a5 a7 a9)) (D.lf a3 a9 0))
def C8 (D : Dom) (a0 : D.Z) (a1 : D.Z) (a2 : D.Z) (a3 : D.L) (a4 : D.Z) (a5 : D.L) (a6 : D.L) (a7 : D.L) (a9 : D.Z) : D.B := (D.band (D.zlt a9 a0) (D.bite (D.band (D.band (WC8_0 D a0 a9) (WC8_1 D a1 a3 a5 a9)) (D.band (D.band (D.bite (WC8_4 D a1 a3 a4 a5 a9) (D.bc true) (D.bite (WC8_5 D a1 a3 a4 a5 a9) (WC8_8 D a1 a3 a4 a5 a9) (D.bc true))) (D.bite (WC8_9 D a1 a3 a4 a5 a9) (D.bc true) (D.band (WC8_8 D a1 a3 a4 a5 a9) (D.bite (WC8_11 D a1 a3 a4 a5 a9) (D.bc true) (D.band (D.zle (D.zc 0) (WC8_12 D a1 a3 a5 a9)) (D.zlt (WC8_12 D a1 a3 a5 a9) a4)))))) (D.band (D.band (WC8_0 D a0 a9) (WC8_13 D a3 a4 a7 a9)) (D.band (D.bite (WC8_15 D a1 a3 a4 a5 a7 a9) (D.bc true) (D.band (D.zle (D.zc 0) a9) (D.zlt a9 a2))) (D.bite (WC8_16 D a1 a3 a4 a5 a6 a7 a9) (D.bc true) (D.band (WC8_0 D a0 a9) (D.bite (D.fge (D.lf a3 a9 0) (D.fc 0)) (D.band (WC8_0 D a0 a9) (D.bite (WC8_18 D a1 a3 a4 a5 a7 a9) (WC8_0 D a0 a9) (D.bc true))) (D.bc true)))))))) (D.bnot (D.bite (WC8_16 D a1 a3 a4 a5 a6 a7 a9) (D.bc true) (D.bite (D.fge (D.lf a3 a9 0) (D.fc 0)) (D.bite (WC8_18 D a1 a3 a4 a5 a7 a9) (D.bite (D.flt (D.lf a3 a9 0) (D.fite (WC8_9 D a1 a3 a4 a5 a9) (D.fite (WC8_4 D a1 a3 a4 a5 a9) (D.fc 0) (D.fc 9218868437227405312)) (D.fite (WC8_11 D a1 a3 a4 a5 a9) (D.fc 0) (D.lf a7 (WC8_12 D a1 a3 a5 a9) 0)))) (D.bc false) (D.bnot (D.zeq (nthZ (WC8_2 D a1 a3 a5 a9) 0) (D.zc 255)))) (D.bc true)) (D.bc false)))) (D.bc true)))
def WO8__0 (D : Dom) (a0 : D.Z) (a9 : D.Z) : D.B := (D.band (D.zle (D.zc 0) a9) (D.zlt a9 a0))
def WO8__1 (D : Dom) (a1 : D.Z) (a3 : D.L) (a5 : D.L) (a9 : D.Z) : D.B := (E5 D a1 (D.lf a3 a9 0) a5 (D.zc 0) (D.zc 0))
def WO8__2 (D : Dom) (a1 : D.Z) (a3 : D.L) (a5 : D.L) (a9 : D.Z) : List (PD D) := (L5 D a1 (D.lf a3 a9 0) a5 (D.zc 0) (D.zc 0))
def WO8__3 (D : Dom) (a1 : D.Z) (a3 : D.L) (a4 : D.Z) (a5 : D.L) (a9 : D.Z) : D.B := (D.zlt a4 (nthZ (WO8__2 D a1 a3 a5 a9) 0))
def WO8__4 (D : Dom) (a1 : D.Z) (a3 : D.L) (a4 : D.Z) (a5 : D.L) (a9 : D.Z) : D.B := (D.bite (D.zlt (nthZ (WO8__2 D a1 a3 a5 a9) 0) (D.zc 0)) (D.bc true) (WO8__3 D a1 a3 a4 a5 a9))
def WO8__5 (D : Dom) (a1 : D.Z) (a3 : D.L) (a4 : D.Z) (a5 : D.L) (a9 : D.Z) : D.B := (D.zeq (nthZ (WO8__2 D a1 a3 a5 a9) 0) a4)
def WO8__6 (D : Dom) (a1 : D.Z) (a3 : D.L) (a4 : D.Z) (a5 : D.L) (a9 : D.Z) : D.B := (D.bite (D.zlt (nthZ (WO8__2 D a1 a3 a5 a9) 0) (D.zc 1)) (D.bc true) (WO8__3 D a1 a3 a4 a5 a9))
def WO8__7 (D : Dom) (a1 : D.Z) (a3 : D.L) (a5 : D.L) (a9 : D.Z) : D.Z := (D.zsub .i64 (nthZ (WO8__2 D a1 a3 a5 a9) 0) (D.zc 1))
def WO8__8 (D : Dom) (a1 : D.Z) (a3 : D.L) (a4 : D.Z) (a5 : D.L) (a9 : D.Z) : D.B := (D.bite (WO8__6 D a1 a3 a4 a5 a9) (D.bc true) (D.band (D.zle (D.zc 0) (WO8__7 D a1 a3 a5 a9)) (D.zlt (WO8__7 D a1 a3 a5 a9) a4)))
def WO8__9 (D : Dom) (a1 : D.Z) (a3 : D.L) (a4 : D.Z) (a5 : D.L) (a9 : D.Z) : D.B := (D.bite (WO8__4 D a1 a3 a4 a5 a9) (D.bc true) (WO8__5 D a1 a3 a4 a5 a9))
def WO8__10 (D : Dom) (a1 : D.Z) (a3 : D.L) (a5 : D.L) (a9 : D.Z) : D.Z := (D.zadd .i64 (nthZ (WO8__2 D a1 a3 a5 a9) 0) (D.zc 1))
def WO8__11 (D : Dom) (a1 : D.Z) (a3 : D.L) (a5 : D.L) (a9 : D.Z) : D.Z := (D.zsub .i64 (WO8__10 D a1 a3 a5 a9) (D.zc 1))
def WO8__12 (D : Dom) (a3 : D.L) (a4 : D.Z) (a7 : D.L) (a9 : D.Z) : D.B := (E2 D (D.lf a3 a9 0) a4 a7 (D.zc 0) a4)
def WO8__13 (D : Dom) (a3 : D.L) (a4 : D.Z) (a7 : D.L) (a9 : D.Z) : List (PD D) := (L2 D (D.lf a3 a9 0) a4 a7 (D.zc 0) a4)
def WO8__14 (D : Dom) (a1 : D.Z) (a3 : D.L) (a4 : D.Z) (a5 : D.L) (a7 : D.L) (a9 : D.Z) : D.B := (D.bnot (D.zeq (nthZ (WO8__13 D a3 a4 a7 a9) 0) (nthZ (WO8__2 D a1 a3 a5 a9) 0)))
def WO8__15 (D : Dom) (a1 : D.Z) (a3 : D.L) (a4 : D.Z) (a5 : D.L) (a7 : D.L) (a9 : D.Z) : D.F := (D.fite (WO8__6 D a1 a3 a4 a5 a9) (D.fc 0) (D.lf a7 (WO8__7 D a1 a3 a5 a9) 0))
def O8_ (D : Dom) (a0 : D.Z) (a1 : D.Z) (a2 : D.Z) (a3 : D.L) (a4 : D.Z) (a5 : D.L) (a6 : D.L) (a7 : D.L) (a9 : D.Z) : D.B := (D.bite (D.zlt a9 a0) (D.band (D.band (WO8__0 D a0 a9) (WO8__1 D a1 a3 a5 a9)) (D.band (D.band (D.bite (WO8__4 D a1 a3 a4 a5 a9) (D.bc true) (D.bite (WO8__5 D a1 a3 a4 a5 a9) (WO8__8 D a1 a3 a4 a5 a9) (D.bc true))) (D.bite (WO8__9 D a1 a3 a4 a5 a9) (D.bc true) (D.band (WO8__8 D a1 a3 a4 a5 a9) (D.bite (D.bite (D.zlt (WO8__10 D a1 a3 a5 a9) (D.zc 1)) (D.bc true) (D.zlt a4 (WO8__10 D a1 a3 a5 a9))) (D.bc true) (D.band (D.zle (D.zc 0) (WO8__11 D a1 a3 a5 a9)) (D.zlt (WO8__11 D a1 a3 a5 a9) a4)))))) (D.band (D.band (WO8__0 D a0 a9) (WO8__12 D a3 a4 a7 a9)) (D.band (D.bite (WO8__14 D a1 a3 a4 a5 a7 a9) (D.bc true) (D.band (D.zle (D.zc 0) a9) (D.zlt a9 a2))) (D.bite (D.bite (WO8__14 D a1 a3 a4 a5 a7 a9) (D.bc true) (D.bnot (D.zeq (D.zconv .i64 (D.lz a6 a9 0)) (nthZ (WO8__2 D a1 a3 a5 a9) 0)))) (D.bc true) (D.band (WO8__0 D a0 a9) (D.bite (D.fge (D.lf a3 a9 0) (D.fc 0)) (D.band (WO8__0 D a0 a9) (D.bite (D.fle (D.fite (WO8__9 D a1 a3 a4 a5 a9) (D.fite (WO8__4 D a1 a3 a4 a5 a9) (D.fc 0) (WO8__15 D a1 a3 a4 a5 a7 a9)) (WO8__15 D a1 a3 a4 a5 a7 a9)) (D.lf a3 a9 0)) (WO8__0 D a0 a9) (D.bc true))) (D.bc true)))))))) (D.bc true))
def N8_1 (D : Dom) (a9 : D.Z) : D.Z := (D.zadd .i64 a9 (D.zc 1))
def G8 (D : Dom) (a0 : D.Z) (a1 : D.Z) (a2 : D.Z) (a3 : D.L) (a4 : D.Z) (a5 : D.L) (a6 : D.L) (a7 : D.L) (p : List (PD D)) : D.B × D.B × List (PD D) := (C8 D a0 a1 a2 a3 a4 a5 a6 a7 (nthZ p 1), O8_ D a0 a1 a2 a3 a4 a5 a6 a7 (nthZ p 1), [.b (nthB p 0), .z (N8_1 D (nthZ p 1))])
def L8 (D : Dom) (a0 : D.Z) (a1 : D.Z) (a2 : D.Z) (a3 : D.L) (a4 : D.Z) (a5 : D.L) (a6 : D.L) (a7 : D.L) (a8 : D.B) (a9 : D.Z) : List (PD D) := D.last (G8 D a0 a1 a2 a3 a4 a5 a6 a7) [.b a8, .z a9]
def E8 (D : Dom) (a0 : D.Z) (a1 : D.Z) (a2 : D.Z) (a3 : D.L) (a4 : D.Z) (a5 : D.L) (a6 : D.L) (a7 : D.L) (a8 : D.B) (a9 : D.Z) : D.B := D.ends (G8 D a0 a1 a2 a3 a4 a5 a6 a7) [.b a8, .z a9]
def sh_9 : HSh := ⟨2, 5, [.env (.clo 21 [] []), .env (.undef), .env (.nilp), .env (.ptr 1 0), .drop, .env (.agg [.nils]), .ctx, .var (.si .i64 ()), .drop, .drop, .drop, .drop, .drop, .drop, .drop, .drop, .drop, .drop, .drop, .drop, .drop, .drop, .drop, .drop, .env (.undef)], [(1, .cells [.slot [.f] 1])], [], []⟩
def st_9 (D : Dom) (env p : List (PD D)) : D.B × D.B × List (PD D) := let _ := env; G0 D p
theorem rd_9 (D : Dom) (env vars : List (PD D)) (ctx : List (AV D)) : (sh_9.round (sh_9.st env vars ctx).h.length (evCodeH Try.prog (tbl_23 D) (lt_9 D) 80 20 (loopB Try.prog 20 0) (sh_9.st env vars ctx))).map Nr.step = some (st_9 D env vars) := by kernel_rfl
noncomputable def ll_10 (D : Dom) : List (LE D) := ⟨20, 0, sh_9, st_9 D, fun s => evCodeH Try.prog (tbl_23 D) (lt_9 D) 80 20 (loopB Try.prog 20 0) s⟩ :: ll_9 D
noncomputable def lt_10 (D : Dom) : LTb D := ltOf (ll_10 D)
theorem hok_10 : HooksOK Try.prog (lt_10 R) := HooksOK.cons prg tok_23 hok_9 (by kernel_rfl) (by kernel_rfl) (rd_9 R)
def sh_10 : HSh := ⟨6, 9, [.env (.clo 22 [] []), .env (.undef), .env (.nilp), .env (.ptr 5 0), .drop, .env (.agg [.nils]), .ctx, .var (.si .i64 ()), .drop, .drop, .drop, .drop, .drop, .drop, .drop, .drop, .drop, .drop, .drop, .drop, .drop, .drop, .drop, .drop, .env (.undef)], [(5, .cells [.slot [.f] 1])], [], []⟩
def st_10 (D : Dom) (env p : List (PD D)) : D.B × D.B × List (PD D) := let _ := env; G1 D p
theorem rd_10 (D : Dom) (env vars : List (PD D)) (ctx : List (AV D)) : (sh_10.round (sh_10.st env vars ctx).h.length (evCodeH Try.prog (tbl_23 D) (lt_10 D) 80 20 (loopB Try.prog 20 0) (sh_10.st env vars ctx))).map Nr.step = some (st_10 D env vars) := by kernel_rfl
noncomputable def ll_11 (D : Dom) : List (LE D) := ⟨20, 0, sh_10, st_10 D, fun s => evCodeH Try.prog (tbl_23 D) (lt_10 D) 80 20 (loopB Try.prog 20 0) s⟩ :: ll_10 D
noncomputable def lt_11 (D : Dom) : LTb D := ltOf (ll_11 D)
theorem hok_11 : HooksOK Try.prog (lt_11 R) := HooksOK.cons prg tok_23 hok_10 (by kernel_rfl) (by kernel_rfl) (rd_10 R)
def sh_11 : HSh := ⟨9, 12, [.env (.sb ()), .env (.undef), .env (.nils), .slot [.f] 1, .var (.si .i64 ()), .drop, .drop, .drop, .drop, .drop, .drop, .drop, .drop, .drop, .drop, .env (.undef)], [], [], []⟩
def st_11 (D : Dom) (env p : List (PD D)) : D.B × D.B × List (PD D) := G6 D (nthB env 0) p
theorem rd_11 (D : Dom) (env vars : List (PD D)) (ctx : List (AV D)) : (sh_11.round (sh_11.st env vars ctx).h.length (evCodeH Try.prog (tbl_23 D) (lt_11 D) 80 12 (loopB Try.prog 12 0) (sh_11.st env vars ctx))).map Nr.step = some (st_11 D env vars) := by kernel_rfl
noncomputable def ll_12 (D : Dom) : List (LE D) := ⟨12, 0, sh_11, st_11 D, fun s => evCodeH Try.prog (tbl_23 D) (lt_11 D) 80 12 (loopB Try.prog 12 0) s⟩ :: ll_11 D
noncomputable def lt_12 (D : Dom) : LTb D := ltOf (ll_12 D)
theorem hok_12 : HooksOK Try.prog (lt_12 R) := HooksOK.cons prg tok_23 hok_11 (by kernel_rfl) (by kernel_rfl) (rd_11 R)
def sh_12 : HSh := ⟨13, 13, [.env (.ptr 5 0), .env (.fl ()), .env (.undef), .env (.undef), .env (.ki .i64 0), .var (.si .i64 ()), .var (.si .i64 ()), .drop, .ctx, .env (.kb false), .ctx, .ctx, .ctx, .ctx, .ctx, .drop, .drop, .drop, .drop, .drop, .drop, .drop, .drop, .drop, .drop, .drop, .drop, .drop, .drop, .drop, .drop, .drop, .drop, .drop, .drop, .drop, .env (.undef)], [], [(5, [.sslice 6 .whole none () 1]), (6, [.row false [.f] ()])], []⟩
def st_12 (D : Dom) (env p : List (PD D)) : D.B × D.B × List (PD D) := G2 D (nthF env 0) (nthZ env 1) (nthL env 2) p
theorem rd_12 (D : Dom) (env vars : List (PD D)) (ctx : List (AV D)) : (sh_12.round (sh_12.st env vars ctx).h.length (evCodeH Try.prog (tbl_23 D) (lt_12 D) 80 8 (loopB Try.prog 8 0) (sh_12.st env vars ctx))).map Nr.step = some (st_12 D env vars) := by kernel_rfl
noncomputable def ll_13 (D : Dom) : List (LE D) := ⟨8, 0, sh_12, st_12 D, fun s => evCodeH Try.prog (tbl_23 D) (lt_12 D) 80 8 (loopB Try.prog 8 0) s⟩ :: ll_12 D
noncomputable def lt_13 (D : Dom) : LTb D := ltOf (ll_13 D)
theorem hok_13 : HooksOK Try.prog (lt_13 R) := HooksOK.cons prg tok_23 hok_12 (by kernel_rfl) (by kernel_rfl) (rd_12 R)
def sh_13 : HSh := ⟨12, 15, [.env (.ptr 5 0), .ctx, .env (.undef), .env (.undef), .env (.nils), .slot [.z .u8] 1, .env (.undef), .drop, .env (.sslice 0 .part none () 1), .env (.si .i64 ()), .var (.si .i64 ()), .drop, .drop, .drop, .drop, .drop, .drop, .drop, .drop, .drop, .drop, .drop, .env (.undef)], [], [(5, [.sslice 6 .whole none () 1]), (0, [.row true [.f] ()]), (6, [.row false [.f] ()])], []⟩
def st_13 (D : Dom) (env p : List (PD D)) : D.B × D.B × List (PD D) := G7 D (nthZ env 0) (nthZ env 1) (nthZ env 2) (nthL env 3) (nthL env 4) p
theorem rd_13 (D : Dom) (env vars : List (PD D)) (ctx : List (AV D)) : (sh_13.round (sh_13.st env vars ctx).h.length (evCodeH Try.prog (tbl_23 D) (lt_13 D) 80 13 (loopB Try.prog 13 0) (sh_13.st env vars ctx))).map Nr.step = some (st_13 D env vars) := by kernel_rfl
noncomputable def ll_14 (D : Dom) : List (LE D) := ⟨13, 0, sh_13, st_13 D, fun s => evCodeH Try.prog (tbl_23 D) (lt_13 D) 80 13 (loopB Try.prog 13 0) s⟩ :: ll_13 D
noncomputable def lt_14 (D : Dom) : LTb D := ltOf (ll_14 D)
theorem hok_14 : HooksOK Try.prog (lt_14 R) := HooksOK.cons prg tok_23 hok_13 (by kernel_rfl) (by kernel_rfl) (rd_13 R)
def sh_14 : HSh := ⟨15, 15, [.env (.sslice 9 .whole none () 1), .env (.fl ()), .env (.undef), .env (.undef), .env (.ki .i64 0), .var (.si .i64 ()), .var (.si .i64 ()), .drop, .drop, .drop, .drop, .drop, .drop, .drop, .drop, .drop, .drop, .drop, .drop, .drop, .drop, .env (.undef)], [], [(9, [.row false [.f] ()])], []⟩
def st_14 (D : Dom) (env p : List (PD D)) : D.B × D.B × List (PD D) := G5 D (nthZ env 0) (nthF env 1) (nthL env 2) p
theorem rd_14 (D : Dom) (env vars : List (PD D)) (ctx : List (AV D)) : (sh_14.round (sh_14.st env vars ctx).h.length (evCodeH Try.prog (tbl_23 D) (lt_14 D) 80 9 (loopB Try.prog 9 0) (sh_14.st env vars ctx))).map Nr.step = some (st_14 D env vars) := by kernel_rfl
noncomputable def ll_15 (D : Dom) : List (LE D) := ⟨9, 0, sh_14, st_14 D, fun s => evCodeH Try.prog (tbl_23 D) (lt_14 D) 80 9 (loopB Try.prog 9 0) s⟩ :: ll_14 D
noncomputable def lt_15 (D : Dom) : LTb D := ltOf (ll_15 D)
theorem hok_15 : HooksOK Try.prog (lt_15 R) := HooksOK.cons prg tok_23 hok_14 (by kernel_rfl) (by kernel_rfl) (rd_14 R)
def sh_15 : HSh := ⟨15, 15, [.env (.ptr 5 0), .env (.fl ()), .env (.undef), .env (.undef), .env (.ki .i64 0), .var (.si .i64 ()), .var (.si .i64 ()), .drop, .ctx, .env (.kb false), .ctx, .ctx, .ctx, .ctx, .ctx, .drop, .drop, .drop, .drop, .drop, .drop, .drop, .drop, .drop, .drop, .drop, .drop, .drop, .drop, .drop, .drop, .drop, .drop, .drop, .drop, .drop, .env (.undef)], [], [(5, [.sslice 6 .whole none () 1]), (6, [.row false [.f] ()])], []⟩
def st_15 (D : Dom) (env p : List (PD D)) : D.B × D.B × List (PD D) := G2 D (nthF env 0) (nthZ env 1) (nthL env 2) p
theorem rd_15 (D : Dom) (env vars : List (PD D)) (ctx : List (AV D)) : (sh_15.round (sh_15.st env vars ctx).h.length (evCodeH Try.prog (tbl_23 D) (lt_15 D) 80 8 (loopB Try.prog 8 0) (sh_15.st env vars ctx))).map Nr.step = some (st_15 D env vars) := by kernel_rfl
noncomputable def ll_16 (D : Dom) : List (LE D) := ⟨8, 0, sh_15, st_15 D, fun s => evCodeH Try.prog (tbl_23 D) (lt_15 D) 80 8 (loopB Try.prog 8 0) s⟩ :: ll_15 D
noncomputable def lt_16 (D : Dom) : LTb D := ltOf (ll_16 D)
theorem hok_16 : HooksOK Try.prog (lt_16 R) := HooksOK.cons prg tok_23 hok_15 (by kernel_rfl) (by kernel_rfl) (rd_15 R)
def sh_16 : HSh := ⟨15, 15, [.ctx, .env (.sslice 0 .part none () 1), .ctx, .env (.undef), .env (.undef), .env (.undef), .var (.sb ()), .env (.ptr 5 0), .env (.sslice 9 .whole none () 1), .env (.sslice 12 .whole none () 1), .var (.si .i64 ()), .drop, .drop, .drop, .env (.undef), .env (.undef), .env (.undef), .ctx, .ctx, .ctx, .env (.any), .env (.any), .ctx, .ctx, .ctx, .ctx, .ctx, .ctx, .ctx, .ctx, .ctx, .ctx, .ctx, .ctx, .ctx, .drop, .drop, .drop, .drop, .drop, .drop, .drop, .drop, .drop, .drop, .drop, .drop, .drop, .drop, .drop, .drop, .drop, .drop, .drop, .drop, .drop, .drop, .drop, .drop, .drop, .drop, .drop, .drop, .drop, .drop, .drop, .drop, .drop, .drop, .drop, .drop, .drop, .drop, .drop, .drop, .drop, .drop, .drop, .drop, .drop, .drop, .drop, .drop, .drop, .drop, .drop, .drop, .drop, .drop, .drop, .drop, .drop, .drop, .drop, .drop, .drop, .drop, .drop, .env (.undef), .env (.undef), .env (.undef), .env (.undef), .env (.undef), .env (.undef), .env (.undef), .env (.undef), .env (.undef), .env (.undef), .env (.undef), .env (.undef), .env (.undef), .env (.undef), .env (.undef), .env (.undef), .env (.undef), .env (.undef), .env (.undef), .env (.undef), .env (.undef), .env (.undef), .env (.undef), .env (.undef), .env (.undef), .env (.undef), .env (.undef), .env (.undef), .env (.undef), .env (.undef), .env (.undef), .env (.undef), .env (.undef), .env (.undef), .env (.undef), .env (.undef), .env (.undef), .env (.undef), .env (.undef), .env (.undef), .env (.undef), .env (.undef), .env (.undef), .env (.undef), .env (.undef), .env (.undef), .env (.undef), .env (.undef), .env (.undef), .env (.undef), .env (.undef), .env (.undef), .env (.undef), .env (.undef), .env (.undef), .env (.undef), .env (.undef), .env (.undef), .env (.undef), .env (.undef), .env (.undef), .env (.undef), .env (.undef), .env (.undef), .env (.undef), .env (.undef)], [], [(0, [.row true [.f] ()]), (5, [.sslice 6 .whole none () 1]), (9, [.row false [.f] ()]), (12, [.row false [.z .u8] ()]), (6, [.row false [.f] ()])], []⟩
def st_16 (D : Dom) (env p : List (PD D)) : D.B × D.B × List (PD D) := G8 D (nthZ env 0) (nthZ env 1) (nthZ env 2) (nthL env 3) (nthZ env 4) (nthL env 5) (nthL env 6) (nthL env 7) p
theorem rd_16 (D : Dom) (env vars : List (PD D)) (ctx : List (AV D)) : (sh_16.round (sh_16.st env vars ctx).h.length (evCodeH Try.prog (tbl_23 D) (lt_16 D) 80 4 (loopB Try.prog 4 0) (sh_16.st env vars ctx))).map Nr.step = some (st_16 D env vars) := by kernel_rfl
noncomputable def ll_17 (D : Dom) : List (LE D) := ⟨4, 0, sh_16, st_16 D, fun s => evCodeH Try.prog (tbl_23 D) (lt_16 D) 80 4 (loopB Try.prog 4 0) s⟩ :: ll_16 D
noncomputable def lt_17 (D : Dom) : LTb D := ltOf (ll_17 D)
theorem hok_17 : HooksOK Try.prog (lt_17 R) := HooksOK.cons prg tok_23 hok_16 (by kernel_rfl) (by kernel_rfl) (rd_16 R)
def sh_17 : HSh := ⟨5, 8, [.env (.sb ()), .env (.undef), .env (.nils), .slot [.f] 1, .var (.si .i64 ()), .drop, .drop, .drop, .drop, .drop, .drop, .drop, .drop, .drop, .drop, .env (.undef)], [], [], []⟩
def st_17 (D : Dom) (env p : List (PD D)) : D.B × D.B × List (PD D) := G6 D (nthB env 0) p
theorem rd_17 (D : Dom) (env vars : List (PD D)) (ctx : List (AV D)) : (sh_17.round (sh_17.st env vars ctx).h.length (evCodeH Try.prog (tbl_23 D) (lt_17 D) 80 12 (loopB Try.prog 12 0) (sh_17.st env vars ctx))).map Nr.step = some (st_17 D env vars) := by kernel_rfl
noncomputable def ll_18 (D : Dom) : List (LE D) := ⟨12, 0, sh_17, st_17 D, fun s => evCodeH Try.prog (tbl_23 D) (lt_17 D) 80 12 (loopB Try.prog 12 0) s⟩ :: ll_17 D
noncomputable def lt_18 (D : Dom) : LTb D := ltOf (ll_18 D)
theorem hok_18 : HooksOK Try.prog (lt_18 R) := HooksOK.cons prg tok_23 hok_17 (by kernel_rfl) (by kernel_rfl) (rd_17 R)
def sh_18 : HSh := ⟨9, 9, [.env (.ptr 1 0), .env (.fl ()), .env (.undef), .env (.undef), .env (.ki .i64 0), .var (.si .i64 ()), .var (.si .i64 ()), .drop, .ctx, .env (.kb false), .ctx, .ctx, .ctx, .ctx, .ctx, .drop, .drop, .drop, .drop, .drop, .drop, .drop, .drop, .drop, .drop, .drop, .drop, .drop, .drop, .drop, .drop, .drop, .drop, .drop, .drop, .drop, .env (.undef)], [], [(1, [.sslice 2 .whole none () 1]), (2, [.row false [.f] ()])], []⟩
def st_18 (D : Dom) (env p : List (PD D)) : D.B × D.B × List (PD D) := G2 D (nthF env 0) (nthZ env 1) (nthL env 2) p
theorem rd_18 (D : Dom) (env vars : List (PD D)) (ctx : List (AV D)) : (sh_18.round (sh_18.st env vars ctx).h.length (evCodeH Try.prog (tbl_23 D) (lt_18 D) 80 8 (loopB Try.prog 8 0) (sh_18.st env vars ctx))).map Nr.step = some (st_18 D env vars) := by kernel_rfl
noncomputable def ll_19 (D : Dom) : List (LE D) := ⟨8, 0, sh_18, st_18 D, fun s => evCodeH Try.prog (tbl_23 D) (lt_18 D) 80 8 (loopB Try.prog 8 0) s⟩ :: ll_18 D
noncomputable def lt_19 (D : Dom) : LTb D := ltOf (ll_19 D)
theorem hok_19 : HooksOK Try.prog (lt_19 R) := HooksOK.cons prg tok_23 hok_18 (by kernel_rfl) (by kernel_rfl) (rd_18 R)
def sh_19 : HSh := ⟨8, 11, [.env (.ptr 1 0), .ctx, .env (.undef), .env (.undef), .env (.nils), .slot [.z .u8] 1, .env (.undef), .drop, .env (.sslice 0 .part none () 1), .env (.si .i64 ()), .var (.si .i64 ()), .drop, .drop, .drop, .drop, .drop, .drop, .drop, .drop, .drop, .drop, .drop, .env (.undef)], [], [(1, [.sslice 2 .whole none () 1]), (0, [.row true [.f] ()]), (2, [.row false [.f] ()])], []⟩
def st_19 (D : Dom) (env p : List (PD D)) : D.B × D.B × List (PD D) := G7 D (nthZ env 0) (nthZ env 1) (nthZ env 2) (nthL env 3) (nthL env 4) p
theorem rd_19 (D : Dom) (env vars : List (PD D)) (ctx : List (AV D)) : (sh_19.round (sh_19.st env vars ctx).h.length (evCodeH Try.prog (tbl_23 D) (lt_19 D) 80 13 (loopB Try.prog 13 0) (sh_19.st env vars ctx))).map Nr.step = some (st_19 D env vars) := by kernel_rfl
noncomputable def ll_20 (D : Dom) : List (LE D) := ⟨13, 0, sh_19, st_19 D, fun s => evCodeH Try.prog (tbl_23 D) (lt_19 D) 80 13 (loopB Try.prog 13 0) s⟩ :: ll_19 D
noncomputable def lt_20 (D : Dom) : LTb D := ltOf (ll_20 D)
theorem hok_20 : HooksOK Try.prog (lt_20 R) := HooksOK.cons prg tok_23 hok_19 (by kernel_rfl) (by kernel_rfl) (rd_19 R)
def sh_20 : HSh := ⟨11, 11, [.env (.sslice 5 .whole none () 1), .env (.fl ()), .env (.undef), .env (.undef), .env (.ki .i64 0), .var (.si .i64 ()), .var (.si .i64 ()), .drop, .drop, .drop, .drop, .drop, .drop, .drop, .drop, .drop, .drop, .drop, .drop, .drop, .drop, .env (.undef)], [], [(5, [.row false [.f] ()])], []⟩
def st_20 (D : Dom) (env p : List (PD D)) : D.B × D.B × List (PD D) := G5 D (nthZ env 0) (nthF env 1) (nthL env 2) p
theorem rd_20 (D : Dom) (env vars : List (PD D)) (ctx : List (AV D)) : (sh_20.round (sh_20.st env vars ctx).h.length (evCodeH Try.prog (tbl_23 D) (lt_20 D) 80 9 (loopB Try.prog 9 0) (sh_20.st env vars ctx))).map Nr.step = some (st_20 D env vars) := by kernel_rfl
noncomputable def ll_21 (D : Dom) : List (LE D) := ⟨9, 0, sh_20, st_20 D, fun s => evCodeH Try.prog (tbl_23 D) (lt_20 D) 80 9 (loopB Try.prog 9 0) s⟩ :: ll_20 D
noncomputable def lt_21 (D : Dom) : LTb D := ltOf (ll_21 D)
theorem hok_21 : HooksOK Try.prog (lt_21 R) := HooksOK.cons prg tok_23 hok_20 (by kernel_rfl) (by kernel_rfl) (rd_20 R)
def sh_21 : HSh := ⟨11, 11, [.env (.ptr 1 0), .env (.fl ()), .env (.undef), .env (.undef), .env (.ki .i64 0), .var (.si .i64 ()), .var (.si .i64 ()), .drop, .ctx, .env (.kb false), .ctx, .ctx, .ctx, .ctx, .ctx, .drop, .drop, .drop, .drop, .drop, .drop, .drop, .drop, .drop, .drop, .drop, .drop, .drop, .drop, .drop, .drop, .drop, .drop, .drop, .drop, .drop, .env (.undef)], [], [(1, [.sslice 2 .whole none () 1]), (2, [.row false [.f] ()])], []⟩
def st_21 (D : Dom) (env p : List (PD D)) : D.B × D.B × List (PD D) := G2 D (nthF env 0) (nthZ env 1) (nthL env 2) p
theorem rd_21 (D : Dom) (env vars : List (PD D)) (ctx : List (AV D)) : (sh_21.round (sh_21.st env vars ctx).h.length (evCodeH Try.prog (tbl_23 D) (lt_21 D) 80 8 (loopB Try.prog 8 0) (sh_21.st env vars ctx))).map Nr.step = some (st_21 D env vars) := by kernel_rfl
noncomputable def ll_22 (D : Dom) : List (LE D) := ⟨8, 0, sh_21, st_21 D, fun s => evCodeH Try.prog (tbl_23 D) (lt_21 D) 80 8 (loopB Try.prog 8 0) s⟩ :: ll_21 D
noncomputable def lt_22 (D : Dom) : LTb D := ltOf (ll_22 D)
theorem hok_22 : HooksOK Try.prog (lt_22 R) := HooksOK.cons prg tok_23 hok_21 (by kernel_rfl) (by kernel_rfl) (rd_21 R)
def sh_22 : HSh := ⟨11, 11, [.ctx, .env (.sslice 0 .part none () 1), .ctx, .env (.undef), .env (.undef), .env (.undef), .var (.sb ()), .env (.ptr 1 0), .env (.sslice 5 .whole none () 1), .env (.sslice 8 .whole none () 1), .var (.si .i64 ()), .drop, .drop, .drop, .env (.undef), .env (.undef), .env (.undef), .ctx, .ctx, .ctx, .env (.any), .env (.any), .ctx, .ctx, .env (.undef), .ctx, .ctx, .ctx, .ctx, .ctx, .ctx, .ctx, .ctx, .ctx, .ctx, .drop, .drop, .drop, .drop, .drop, .drop, .drop, .drop, .drop, .drop, .drop, .drop, .drop, .drop, .drop, .drop, .drop, .drop, .drop, .drop, .drop, .drop, .drop, .drop, .drop, .drop, .drop, .drop, .drop, .drop, .drop, .drop, .drop, .drop, .drop, .drop, .drop, .drop, .drop, .drop, .drop, .drop, .drop, .drop, .drop, .drop, .drop, .drop, .drop, .drop, .drop, .drop, .drop, .drop, .drop, .drop, .drop, .drop, .drop, .drop, .drop, .drop, .drop, .env (.undef), .env (.undef), .env (.undef), .env (.undef), .env (.undef), .env (.undef), .env (.undef), .env (.undef), .env (.undef), .env (.undef), .env (.undef), .env (.undef), .env (.undef), .env (.undef), .env (.undef), .env (.undef), .env (.undef), .env (.undef), .env (.undef), .env (.undef), .env (.undef), .env (.undef), .env (.undef), .env (.undef), .env (.undef), .env (.undef), .env (.undef), .env (.undef), .env (.undef), .env (.undef), .env (.undef), .env (.undef), .env (.undef), .env (.undef), .env (.undef), .env (.undef), .env (.undef), .env (.undef), .env (.undef), .env (.undef), .env (.undef), .env (.undef), .env (.undef), .env (.undef), .env (.undef), .env (.undef), .env (.undef), .env (.undef), .env (.undef), .env (.undef), .env (.undef), .env (.undef), .env (.undef), .env (.undef), .env (.undef), .env (.undef), .env (.undef), .env (.undef), .env (.undef), .env (.undef), .env (.undef), .env (.undef), .env (.undef), .env (.undef), .env (.undef), .env (.undef)], [], [(0, [.row true [.f] ()]), (1, [.sslice 2 .whole none () 1]), (5, [.row false [.f] ()]), (8, [.row false [.z .u8] ()]), (2, [.row false [.f] ()])], []⟩
def st_22 (D : Dom) (env p : List (PD D)) : D.B × D.B × List (PD D) := G8 D (nthZ env 0) (nthZ env 1) (nthZ env 2) (nthL env 3) (nthZ env 4) (nthL env 5) (nthL env 6) (nthL env 7) p
theorem rd_22 (D : Dom) (env vars : List (PD D)) (ctx : List (AV D)) : (sh_22.round (sh_22.st env vars ctx).h.length (evCodeH Try.prog (tbl_23 D) (lt_22 D) 80 4 (loopB Try.prog 4 0) (sh_22.st env vars ctx))).map Nr.step = some (st_22 D env vars) := by kernel_rfl
noncomputable def ll_23 (D : Dom) : List (LE D) := ⟨4, 0, sh_22, st_22 D, fun s => evCodeH Try.prog (tbl_23 D) (lt_22 D) 80 4 (loopB Try.prog 4 0) s⟩ :: ll_22 D
noncomputable def lt_23 (D : Dom) : LTb D := ltOf (ll_23 D)
theorem hok_23 : HooksOK Try.prog (lt_23 R) := HooksOK.cons prg tok_23 hok_22 (by kernel_rfl) (by kernel_rfl) (rd_22 R)

-- penumbra/penumbralaw43.ToneBytes
def WS4_0_0 (D : Dom) (a1 : D.L) : D.Z := (D.zite (D.zlt (D.zc 100) (D.llen a1)) (D.zc 100) (D.llen a1))
def WS4_0_1 (D : Dom)  : List (PD D) := (L1 D D.lnil (D.zc 0))
def WS4_0_2 (D : Dom) (a1 : D.L) : List (PD D) := (L7 D (WS4_0_0 D a1) (WS4_0_0 D a1) (D.llen (nthL (WS4_0_1 D) 0)) a1 (nthL (WS4_0_1 D) 0) D.lnil (D.zc 0))
def WS4_0_3 (D : Dom) (a0 : D.B) : List (PD D) := (L6 D a0 D.lnil (D.zc 1))
def WS4_0_4 (D : Dom) (a0 : D.B) (a1 : D.L) : List (PD D) := (L8 D (WS4_0_0 D a1) (D.llen (nthL (WS4_0_3 D a0) 0)) (D.llen (nthL (WS4_0_2 D a1) 0)) a1 (D.llen (nthL (WS4_0_1 D) 0)) (nthL (WS4_0_3 D a0) 0) (nthL (WS4_0_2 D a1) 0) (nthL (WS4_0_1 D) 0) (D.bc false) (D.zc 0))
def WS4_0_5 (D : Dom) (a2 : D.Z) : D.B := (D.bite (D.zlt a2 (D.zc 0)) (D.bc true) (D.zlt (D.zc 255) a2))
def WS4_0_6 (D : Dom) (a2 : D.Z) : D.B := (D.bite (D.zlt a2 (D.zc 0)) (D.bc true) (D.zlt (D.llen (nthL (WS4_0_1 D) 0)) a2))
def WS4_0_7 (D : Dom) (a2 : D.Z) : D.B := (D.bite (WS4_0_6 D a2) (D.bc true) (D.zeq a2 (D.llen (nthL (WS4_0_1 D) 0))))
def WS4_0_8 (D : Dom) (a2 : D.Z) : D.F := (D.fite (D.bite (D.zlt a2 (D.zc 1)) (D.bc true) (D.zlt (D.llen (nthL (WS4_0_1 D) 0)) a2)) (D.fc 0) (D.lf (nthL (WS4_0_1 D) 0) (D.zsub .i64 a2 (D.zc 1)) 0))
def WS4_0_9 (D : Dom) (a2 : D.Z) : D.F := (D.fite (WS4_0_7 D a2) (D.fite (WS4_0_6 D a2) (D.fc 0) (WS4_0_8 D a2)) (WS4_0_8 D a2))
def WS4_0_10 (D : Dom) (a2 : D.Z) : D.B := (D.zlt (D.zadd .i64 a2 (D.zc 1)) (D.zc 1))
def WS4_0_11 (D : Dom) (a2 : D.Z) : D.Z := (D.zsub .i64 (D.zadd .i64 a2 (D.zc 1)) (D.zc 1))
def WS4_0_12 (D : Dom) (a2 : D.Z) : D.F := (D.fite (WS4_0_7 D a2) (D.fite (WS4_0_6 D a2) (D.fc 0) (D.fc 9218868437227405312)) (D.fite (D.bite (WS4_0_10 D a2) (D.bc true) (D.zlt (D.llen (nthL (WS4_0_1 D) 0)) (D.zadd .i64 a2 (D.zc 1)))) (D.fc 0) (D.lf (nthL (WS4_0_1 D) 0) (WS4_0_11 D a2) 0)))
def WS4_0_13 (D : Dom) (a0 : D.B) (a2 : D.Z) : D.F := (D.fite (D.zlt (D.zc 0) a2) (D.lf (nthL (WS4_0_3 D a0) 0) (D.zsub .i64 a2 (D.zc 1)) 0) (D.fc 0))
def WS4_0_14 (D : Dom) (a2 : D.Z) : List (PD D) := (L2 D (WS4_0_9 D a2) (D.llen (nthL (WS4_0_1 D) 0)) (nthL (WS4_0_1 D) 0) (D.zc 0) (D.llen (nthL (WS4_0_1 D) 0)))
def WS4_0_15 (D : Dom)  : List (PD D) := (L0 D D.lnil (D.zc 0))
def WS4_0_16 (D : Dom) (a1 : D.L) : List (PD D) := (L7 D (WS4_0_0 D a1) (WS4_0_0 D a1) (D.llen (nthL (WS4_0_15 D) 0)) a1 (nthL (WS4_0_15 D) 0) D.lnil (D.zc 0))
def WS4_0_17 (D : Dom) (a0 : D.B) (a1 : D.L) : List (PD D) := (L8 D (WS4_0_0 D a1) (D.llen (nthL (WS4_0_3 D a0) 0)) (D.llen (nthL (WS4_0_16 D a1) 0)) a1 (D.llen (nthL (WS4_0_15 D) 0)) (nthL (WS4_0_3 D a0) 0) (nthL (WS4_0_16 D a1) 0) (nthL (WS4_0_15 D) 0) (D.bc false) (D.zc 0))
def WS4_0_18 (D : Dom) (a2 : D.Z) : D.B := (D.zlt (D.llen (nthL (WS4_0_15 D) 0)) a2)
def WS4_0_19 (D : Dom) (a2 : D.Z) : D.B := (D.bite (D.zlt a2 (D.zc 0)) (D.bc true) (WS4_0_18 D a2))
def WS4_0_20 (D : Dom) (a2 : D.Z) : D.B := (D.bite (WS4_0_19 D a2) (D.bc true) (D.zeq a2 (D.llen (nthL (WS4_0_15 D) 0))))
def WS4_0_21 (D : Dom) (a2 : D.Z) : D.F := (D.fite (D.bite (D.zlt a2 (D.zc 1)) (D.bc true) (WS4_0_18 D a2)) (D.fc 0) (D.lf (nthL (WS4_0_15 D) 0) (D.zsub .i64 a2 (D.zc 1)) 0))
def WS4_0_22 (D : Dom) (a2 : D.Z) : D.F := (D.fite (WS4_0_20 D a2) (D.fite (WS4_0_19 D a2) (D.fc 0) (WS4_0_21 D a2)) (WS4_0_21 D a2))
def WS4_0_23 (D : Dom) (a2 : D.Z) : D.F := (D.fite (WS4_0_20 D a2) (D.fite (WS4_0_19 D a2) (D.fc 0) (D.fc 9218868437227405312)) (D.fite (D.bite (WS4_0_10 D a2) (D.bc true) (D.zlt (D.llen (nthL (WS4_0_15 D) 0)) (D.zadd .i64 a2 (D.zc 1)))) (D.fc 0) (D.lf (nthL (WS4_0_15 D) 0) (WS4_0_11 D a2) 0)))
def WS4_0_24 (D : Dom) (a2 : D.Z) : List (PD D) := (L2 D (WS4_0_22 D a2) (D.llen (nthL (WS4_0_15 D) 0)) (nthL (WS4_0_15 D) 0) (D.zc 0) (D.llen (nthL (WS4_0_15 D) 0)))
def S4_0 (D : Dom) (a0 : D.B) (a1 : D.L) (a2 : D.Z) : D.B := (D.bite a0 (D.bite (D.bnot (D.zeq (D.llen (nthL (WS4_0_2 D a1) 0)) (WS4_0_0 D a1))) (D.bc false) (D.bite (D.zlt (nthZ (WS4_0_4 D a0 a1) 1) (WS4_0_0 D a1)) (D.bc false) (D.bite (WS4_0_5 D a2) (D.bite (D.bite (D.bite (S5_0 D) (D.feq (WS4_0_9 D a2) (D.fc 0)) (D.bc false)) (D.feq (WS4_0_12 D a2) (D.fc 0)) (D.bc false)) (D.feq (WS4_0_8 D a2) (D.fc 0)) (D.bc false)) (D.bite (D.bite (D.bite (D.bite (S5_0 D) (D.feq (WS4_0_9 D a2) (WS4_0_13 D a0 a2)) (D.bc false)) (D.feq (WS4_0_8 D a2) (WS4_0_13 D a0 a2)) (D.bc false)) (D.zeq (nthZ (WS4_0_14 D a2) 0) a2) (D.bc false)) (D.bite (D.zeq a2 (D.zc 255)) (D.bc true) (D.feq (WS4_0_12 D a2) (D.lf (nthL (WS4_0_3 D a0) 0) a2 0))) (D.bc false))))) (D.bite (D.bnot (D.zeq (D.llen (nthL (WS4_0_16 D a1) 0)) (WS4_0_0 D a1))) (D.bc false) (D.bite (D.zlt (nthZ (WS4_0_17 D a0 a1) 1) (WS4_0_0 D a1)) (D.bc false) (D.bite (WS4_0_5 D a2) (D.bite (D.bite (D.bite (S5_0 D) (D.feq (WS4_0_22 D a2) (D.fc 0)) (D.bc false)) (D.feq (WS4_0_23 D a2) (D.fc 0)) (D.bc false)) (D.feq (WS4_0_21 D a2) (D.fc 0)) (D.bc false)) (D.bite (D.bite (D.bite (D.bite (S5_0 D) (D.feq (WS4_0_22 D a2) (WS4_0_13 D a0 a2)) (D.bc false)) (D.feq (WS4_0_21 D a2) (WS4_0_13 D a0 a2)) (D.bc false)) (D.zeq (nthZ (WS4_0_24 D a2) 0) a2) (D.bc false)) (D.bite (D.zeq a2 (D.zc 255)) (D.bc true) (D.feq (WS4_0_23 D a2) (D.lf (nthL (WS4_0_3 D a0) 0) a2 0))) (D.bc false))))))
def WO4_0 (D : Dom)  : D.B := (E0 D D.lnil (D.zc 0))
def WO4_1 (D : Dom)  : D.B := (E1 D D.lnil (D.zc 0))
def WO4_2 (D : Dom) (a0 : D.B) : D.B := (E6 D a0 D.lnil (D.zc 1))
def WO4_3 (D : Dom) (a1 : D.L) : D.Z := (D.zite (D.zlt (D.zc 100) (D.llen a1)) (D.zc 100) (D.llen a1))
def WO4_4 (D : Dom)  : List (PD D) := (L1 D D.lnil (D.zc 0))
def WO4_5 (D : Dom) (a1 : D.L) : D.B := (E7 D (WO4_3 D a1) (WO4_3 D a1) (D.llen (nthL (WO4_4 D) 0)) a1 (nthL (WO4_4 D) 0) D.lnil (D.zc 0))
def WO4_6 (D : Dom) (a1 : D.L) : List (PD D) := (L7 D (WO4_3 D a1) (WO4_3 D a1) (D.llen (nthL (WO4_4 D) 0)) a1 (nthL (WO4_4 D) 0) D.lnil (D.zc 0))
def WO4_7 (D : Dom) (a0 : D.B) : List (PD D) := (L6 D a0 D.lnil (D.zc 1))
def WO4_8 (D : Dom) (a0 : D.B) (a1 : D.L) : D.B := (E8 D (WO4_3 D a1) (D.llen (nthL (WO4_7 D a0) 0)) (D.llen (nthL (WO4_6 D a1) 0)) a1 (D.llen (nthL (WO4_4 D) 0)) (nthL (WO4_7 D a0) 0) (nthL (WO4_6 D a1) 0) (nthL (WO4_4 D) 0) (D.bc false) (D.zc 0))
def WO4_9 (D : Dom) (a0 : D.B) (a1 : D.L) : List (PD D) := (L8 D (WO4_3 D a1) (D.llen (nthL (WO4_7 D a0) 0)) (D.llen (nthL (WO4_6 D a1) 0)) a1 (D.llen (nthL (WO4_4 D) 0)) (nthL (WO4_7 D a0) 0) (nthL (WO4_6 D a1) 0) (nthL (WO4_4 D) 0) (D.bc false) (D.zc 0))
def WO4_10 (D : Dom) (a2 : D.Z) : D.B := (D.bite (D.zlt a2 (D.zc 0)) (D.bc true) (D.zlt (D.llen (nthL (WO4_4 D) 0)) a2))
def WO4_11 (D : Dom) (a2 : D.Z) : D.B := (D.bite (D.zlt a2 (D.zc 1)) (D.bc true) (D.zlt (D.llen (nthL (WO4_4 D) 0)) a2))
def WO4_12 (D : Dom) (a2 : D.Z) : D.B := (D.zle (D.zc 0) (D.zsub .i64 a2 (D.zc 1)))
def WO4_13 (D : Dom) (a2 : D.Z) : D.B := (D.bite (WO4_11 D a2) (D.bc true) (D.band (WO4_12 D a2) (D.zlt (D.zsub .i64 a2 (D.zc 1)) (D.llen (nthL (WO4_4 D) 0)))))
def WO4_14 (D : Dom) (a2 : D.Z) : D.B := (D.bite (WO4_10 D a2) (D.bc true) (D.zeq a2 (D.llen (nthL (WO4_4 D) 0))))
def WO4_15 (D : Dom) (a2 : D.Z) : D.B := (D.zlt (D.zadd .i64 a2 (D.zc 1)) (D.zc 1))
def WO4_16 (D : Dom) (a2 : D.Z) : D.B := (D.bite (WO4_15 D a2) (D.bc true) (D.zlt (D.llen (nthL (WO4_4 D) 0)) (D.zadd .i64 a2 (D.zc 1))))
def WO4_17 (D : Dom) (a2 : D.Z) : D.Z := (D.zsub .i64 (D.zadd .i64 a2 (D.zc 1)) (D.zc 1))
def WO4_18 (D : Dom) (a2 : D.Z) : D.B := (D.bite (D.zlt a2 (D.zc 0)) (D.bc true) (D.zlt (D.zc 255) a2))
def WO4_19 (D : Dom) (a2 : D.Z) : D.F := (D.fite (WO4_11 D a2) (D.fc 0) (D.lf (nthL (WO4_4 D) 0) (D.zsub .i64 a2 (D.zc 1)) 0))
def WO4_20 (D : Dom) (a2 : D.Z) : D.F := (D.fite (WO4_14 D a2) (D.fite (WO4_10 D a2) (D.fc 0) (WO4_19 D a2)) (WO4_19 D a2))
def WO4_21 (D : Dom) (a0 : D.B) (a2 : D.Z) : D.B := (D.bite (D.zlt (D.zc 0) a2) (D.band (WO4_12 D a2) (D.zlt (D.zsub .i64 a2 (D.zc 1)) (D.llen (nthL (WO4_7 D a0) 0)))) (D.bc true))
def WO4_22 (D : Dom) (a0 : D.B) (a2 : D.Z) : D.F := (D.fite (D.zlt (D.zc 0) a2) (D.lf (nthL (WO4_7 D a0) 0) (D.zsub .i64 a2 (D.zc 1)) 0) (D.fc 0))
def WO4_23 (D : Dom) (a0 : D.B) (a2 : D.Z) : D.B := (D.bite (S5_0 D) (D.feq (WO4_20 D a2) (WO4_22 D a0 a2)) (D.bc false))
def WO4_24 (D : Dom) (a0 : D.B) (a2 : D.Z) : D.B := (D.bite (WO4_23 D a0 a2) (D.feq (WO4_19 D a2) (WO4_22 D a0 a2)) (D.bc false))
def WO4_25 (D : Dom) (a2 : D.Z) : D.B := (E2 D (WO4_20 D a2) (D.llen (nthL (WO4_4 D) 0)) (nthL (WO4_4 D) 0) (D.zc 0) (D.llen (nthL (WO4_4 D) 0)))
def WO4_26 (D : Dom) (a2 : D.Z) : List (PD D) := (L2 D (WO4_20 D a2) (D.llen (nthL (WO4_4 D) 0)) (nthL (WO4_4 D) 0) (D.zc 0) (D.llen (nthL (WO4_4 D) 0)))
def WO4_27 (D : Dom) (a0 : D.B) (a2 : D.Z) : D.B := (D.bite (D.zeq a2 (D.zc 255)) (D.bc true) (D.band (D.zle (D.zc 0) a2) (D.zlt a2 (D.llen (nthL (WO4_7 D a0) 0)))))
def WO4_28 (D : Dom)  : List (PD D) := (L0 D D.lnil (D.zc 0))
def WO4_29 (D : Dom) (a1 : D.L) : D.B := (E7 D (WO4_3 D a1) (WO4_3 D a1) (D.llen (nthL (WO4_28 D) 0)) a1 (nthL (WO4_28 D) 0) D.lnil (D.zc 0))
def WO4_30 (D : Dom) (a1 : D.L) : List (PD D) := (L7 D (WO4_3 D a1) (WO4_3 D a1) (D.llen (nthL (WO4_28 D) 0)) a1 (nthL (WO4_28 D) 0) D.lnil (D.zc 0))
def WO4_31 (D : Dom) (a0 : D.B) (a1 : D.L) : D.B := (E8 D (WO4_3 D a1) (D.llen (nthL (WO4_7 D a0) 0)) (D.llen (nthL (WO4_30 D a1) 0)) a1 (D.llen (nthL (WO4_28 D) 0)) (nthL (WO4_7 D a0) 0) (nthL (WO4_30 D a1) 0) (nthL (WO4_28 D) 0) (D.bc false) (D.zc 0))
def WO4_32 (D : Dom) (a0 : D.B) (a1 : D.L) : List (PD D) := (L8 D (WO4_3 D a1) (D.llen (nthL (WO4_7 D a0) 0)) (D.llen (nthL (WO4_30 D a1) 0)) a1 (D.llen (nthL (WO4_28 D) 0)) (nthL (WO4_7 D a0) 0) (nthL (WO4_30 D a1) 0) (nthL (WO4_28 D) 0) (D.bc false) (D.zc 0))
def WO4_33 (D : Dom) (a2 : D.Z) : D.B := (D.bite (D.zlt a2 (D.zc 0)) (D.bc true) (D.zlt (D.llen (nthL (WO4_28 D) 0)) a2))
def WO4_34 (D : Dom) (a2 : D.Z) : D.B := (D.bite (D.zlt a2 (D.zc 1)) (D.bc true) (D.zlt (D.llen (nthL (WO4_28 D) 0)) a2))
def WO4_35 (D : Dom) (a2 : D.Z) : D.B := (D.bite (WO4_34 D a2) (D.bc true) (D.band (WO4_12 D a2) (D.zlt (D.zsub .i64 a2 (D.zc 1)) (D.llen (nthL (WO4_28 D) 0)))))
def WO4_36 (D : Dom) (a2 : D.Z) : D.B := (D.bite (WO4_33 D a2) (D.bc true) (D.zeq a2 (D.llen (nthL (WO4_28 D) 0))))
def WO4_37 (D : Dom) (a2 : D.Z) : D.B := (D.bite (WO4_15 D a2) (D.bc true) (D.zlt (D.llen (nthL (WO4_28 D) 0)) (D.zadd .i64 a2 (D.zc 1))))
def WO4_38 (D : Dom) (a2 : D.Z) : D.F := (D.fite (WO4_34 D a2) (D.fc 0) (D.lf (nthL (WO4_28 D) 0) (D.zsub .i64 a2 (D.zc 1)) 0))
def WO4_39 (D : Dom) (a2 : D.Z) : D.F := (D.fite (WO4_36 D a2) (D.fite (WO4_33 D a2) (D.fc 0) (WO4_38 D a2)) (WO4_38 D a2))
def WO4_40 (D : Dom) (a0 : D.B) (a2 : D.Z) : D.B := (D.bite (S5_0 D) (D.feq (WO4_39 D a2) (WO4_22 D a0 a2)) (D.bc false))
def WO4_41 (D : Dom) (a0 : D.B) (a2 : D.Z) : D.B := (D.bite (WO4_40 D a0 a2) (D.feq (WO4_38 D a2) (WO4_22 D a0 a2)) (D.bc false))
def WO4_42 (D : Dom) (a2 : D.Z) : D.B := (E2 D (WO4_39 D a2) (D.llen (nthL (WO4_28 D) 0)) (nthL (WO4_28 D) 0) (D.zc 0) (D.llen (nthL (WO4_28 D) 0)))
def WO4_43 (D : Dom) (a2 : D.Z) : List (PD D) := (L2 D (WO4_39 D a2) (D.llen (nthL (WO4_28 D) 0)) (nthL (WO4_28 D) 0) (D.zc 0) (D.llen (nthL (WO4_28 D) 0)))
def WO4_44 (D : Dom) (a0 : D.B) (a1 : D.L) (a2 : D.Z) : D.B := (D.bite a0 (D.band (WO4_1 D) (D.band (WO4_2 D a0) (D.band (WO4_5 D a1) (D.bite (D.bnot (D.zeq (D.llen (nthL (WO4_6 D a1) 0)) (WO4_3 D a1))) (D.bc true) (D.band (WO4_8 D a0 a1) (D.bite (D.zlt (nthZ (WO4_9 D a0 a1) 1) (WO4_3 D a1)) (D.bc true) (D.band (D.band (D.bite (WO4_10 D a2) (D.bc true) (D.bite (D.zeq a2 (D.llen (nthL (WO4_4 D) 0))) (WO4_13 D a2) (D.bc true))) (D.bite (WO4_14 D a2) (D.bc true) (D.band (WO4_13 D a2) (D.bite (WO4_16 D a2) (D.bc true) (D.band (D.zle (D.zc 0) (WO4_17 D a2)) (D.zlt (WO4_17 D a2) (D.llen (nthL (WO4_4 D) 0)))))))) (D.band (D.bite (WO4_18 D a2) (D.band (O5 D) (D.bite (D.bite (D.bite (S5_0 D) (D.feq (WO4_20 D a2) (D.fc 0)) (D.bc false)) (D.feq (D.fite (WO4_14 D a2) (D.fite (WO4_10 D a2) (D.fc 0) (D.fc 9218868437227405312)) (D.fite (WO4_16 D a2) (D.fc 0) (D.lf (nthL (WO4_4 D) 0) (WO4_17 D a2) 0))) (D.fc 0)) (D.bc false)) (WO4_13 D a2) (D.bc true))) (D.bc true)) (D.bite (WO4_18 D a2) (D.bc true) (D.band (WO4_21 D a0 a2) (D.band (O5 D) (D.band (D.bite (WO4_23 D a0 a2) (WO4_13 D a2) (D.bc true)) (D.band (D.bite (WO4_24 D a0 a2) (WO4_25 D a2) (D.bc true)) (D.bite (D.bite (WO4_24 D a0 a2) (D.zeq (nthZ (WO4_26 D a2) 0) a2) (D.bc false)) (WO4_27 D a0 a2) (D.bc true))))))))))))))) (D.band (WO4_2 D a0) (D.band (WO4_29 D a1) (D.bite (D.bnot (D.zeq (D.llen (nthL (WO4_30 D a1) 0)) (WO4_3 D a1))) (D.bc true) (D.band (WO4_31 D a0 a1) (D.bite (D.zlt (nthZ (WO4_32 D a0 a1) 1) (WO4_3 D a1)) (D.bc true) (D.band (D.band (D.bite (WO4_33 D a2) (D.bc true) (D.bite (D.zeq a2 (D.llen (nthL (WO4_28 D) 0))) (WO4_35 D a2) (D.bc true))) (D.bite (WO4_36 D a2) (D.bc true) (D.band (WO4_35 D a2) (D.bite (WO4_37 D a2) (D.bc true) (D.band (D.zle (D.zc 0) (WO4_17 D a2)) (D.zlt (WO4_17 D a2) (D.llen (nthL (WO4_28 D) 0)))))))) (D.band (D.bite (WO4_18 D a2) (D.band (O5 D) (D.bite (D.bite (D.bite (S5_0 D) (D.feq (WO4_39 D a2) (D.fc 0)) (D.bc false)) (D.feq (D.fite (WO4_36 D a2) (D.fite (WO4_33 D a2) (D.fc 0) (D.fc 9218868437227405312)) (D.fite (WO4_37 D a2) (D.fc 0) (D.lf (nthL (WO4_28 D) 0) (WO4_17 D a2) 0))) (D.fc 0)) (D.bc false)) (WO4_35 D a2) (D.bc true))) (D.bc true)) (D.bite (WO4_18 D a2) (D.bc true) (D.band (WO4_21 D a0 a2) (D.band (O5 D) (D.band (D.bite (WO4_40 D a0 a2) (WO4_35 D a2) (D.bc true)) (D.band (D.bite (WO4_41 D a0 a2) (WO4_42 D a2) (D.bc true)) (D.bite (D.bite (WO4_41 D a0 a2) (D.zeq (nthZ (WO4_43 D a2) 0) a2) (D.bc false)) (WO4_27 D a0 a2) (D.bc true)))))))))))))))
def O4 (D : Dom) (a0 : D.B) (a1 : D.L) (a2 : D.Z) : D.B := (D.band (D.bite (D.zlt (D.zc 100) (D.llen a1)) (D.band (D.zle (D.zc 0) (D.zc 100)) (D.zle (D.zc 100) (D.llen a1))) (D.bc true)) (D.band (WO4_0 D) (WO4_44 D a0 a1 a2)))
theorem ev4 (D : Dom) (a0 : D.B) (a1 : D.L) (a2 : D.Z) : joinT (evFnH Try.prog (tbl_23 D) (lt_23 D) 80 4 [.sb a0, .sslice 0 .part none (D.llen a1) 1, .si .i64 a2] [(0, [.row true [.f] a1])] 1) = .val (some (O4 D a0 a1 a2)) (.sb (S4_0 D a0 a1 a2)) := by kernel_rfl

end Go.Proofs.Ytnehhebdbibecaa
