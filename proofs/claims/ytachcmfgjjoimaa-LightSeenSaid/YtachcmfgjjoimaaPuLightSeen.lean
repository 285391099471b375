/- The law of how much light comes from any light. -/
import Derived.Test.YtachcmfgjjoimaaPuLightLooks
import Derived.Test.YtachcmfgjjoimaaSpc
namespace Go.Proofs.Ytachcmfgjjoimaa
open Go.Ev

theorem unitE (a0 a1 a2 : Fl) : S77_0 R a0 a1 a2 = S32_0 R a0 a1 a2 ∧ S77_1 R a0 a1 a2 = S32_1 R a0 a1 a2 ∧ S77_2 R a0 a1 a2 = S32_2 R a0 a1 a2 ∧ S77_3 R a0 a1 a2 = S32_3 R a0 a1 a2 := by
  have l : S87_0 R a0 a1 a2 = S66_0 R (S34_0 R a0 a1 a2 a0 a1 a2) := rfl
  simp only [S77_0, S77_1, S77_2, S77_3, S32_0, S32_1, S32_2, S32_3, l, numberE]
  generalize S66_0 R (S34_0 R a0 a1 a2 a0 a1 a2) = n
  cases (ford n (cls 0) == some .gt) <;> cases S57_0 R n <;> exact ⟨rfl, rfl, rfl, rfl⟩

theorem triNormalE (a0 a1 a2 a3 a4 a5 a6 a7 a8 : Fl) : S58_0 R a0 a1 a2 a3 a4 a5 a6 a7 a8 = S32_0 R (S33_0 R a1 a2 a4 a5 a7 a8) (S33_1 R a0 a2 a3 a5 a6 a8) (S33_2 R a0 a1 a3 a4 a6 a7) ∧
    S58_1 R a0 a1 a2 a3 a4 a5 a6 a7 a8 = S32_1 R (S33_0 R a1 a2 a4 a5 a7 a8) (S33_1 R a0 a2 a3 a5 a6 a8) (S33_2 R a0 a1 a3 a4 a6 a7) ∧
    S58_2 R a0 a1 a2 a3 a4 a5 a6 a7 a8 = S32_2 R (S33_0 R a1 a2 a4 a5 a7 a8) (S33_1 R a0 a2 a3 a5 a6 a8) (S33_2 R a0 a1 a3 a4 a6 a7) ∧
    S58_3 R a0 a1 a2 a3 a4 a5 a6 a7 a8 = S32_3 R (S33_0 R a1 a2 a4 a5 a7 a8) (S33_1 R a0 a2 a3 a5 a6 a8) (S33_2 R a0 a1 a3 a4 a6 a7) := by
  have c : S78_0 R a1 a2 a4 a5 a7 a8 = S33_0 R a1 a2 a4 a5 a7 a8 ∧ S78_1 R a0 a2 a3 a5 a6 a8 = S33_1 R a0 a2 a3 a5 a6 a8 ∧ S78_2 R a0 a1 a3 a4 a6 a7 = S33_2 R a0 a1 a3 a4 a6 a7 := ⟨rfl, rfl, rfl⟩
  simp only [S58_0, S58_1, S58_2, S58_3, c, unitE, and_self]

theorem plainE (a : Fl) : S64_0 R a = S38_0 R a := by
  simp only [S64_0, S38_0, numberE]
  generalize (ford a (cls 0) == some .gt || ford a (cls 0) == some .eq) = b
  cases b <;> cases S57_0 R a <;> rfl

theorem triAreaE (a0 a1 a2 a3 a4 a5 a6 a7 a8 : Fl) : S71_0 R a0 a1 a2 a3 a4 a5 a6 a7 a8 = R.fmul (S66_0 R (S34_0 R (S33_0 R a1 a2 a4 a5 a7 a8) (S33_1 R a0 a2 a3 a5 a6 a8) (S33_2 R a0 a1 a3 a4 a6 a7) (S33_0 R a1 a2 a4 a5 a7 a8) (S33_1 R a0 a2 a3 a5 a6 a8) (S33_2 R a0 a1 a3 a4 a6 a7))) (R.fc 4602678819172646912) := rfl

theorem densityE (a0 a1 a2 a3 a4 a5 a6 a7 a8 : Fl) : S65_0 R a0 a1 a2 a3 a4 a5 a6 a7 a8 = S37_0 R a0 a1 a2 a3 a4 a5 a6 a7 a8 := by
  simp only [S65_0, S37_0, triAreaE, plainE]
  generalize lift2 f64.mul _ (cls 4602678819172646912) = s
  cases (ford s (cls 0) == some .gt) <;> rfl

theorem lookE (a0 a1 a2 a3 a4 a5 : Fl) : S62_0 R a0 a1 a2 a3 a4 a5 = S32_0 R (S35_0 R a3 a0) (S35_1 R a4 a1) (S35_2 R a5 a2) ∧ S62_1 R a0 a1 a2 a3 a4 a5 = S32_1 R (S35_0 R a3 a0) (S35_1 R a4 a1) (S35_2 R a5 a2) ∧
    S62_2 R a0 a1 a2 a3 a4 a5 = S32_2 R (S35_0 R a3 a0) (S35_1 R a4 a1) (S35_2 R a5 a2) ∧ S62_4 R a0 a1 a2 a3 a4 a5 = S32_3 R (S35_0 R a3 a0) (S35_1 R a4 a1) (S35_2 R a5 a2) ∧
    S62_3 R a0 a1 a2 a3 a4 a5 = S34_0 R (S35_0 R a3 a0) (S35_1 R a4 a1) (S35_2 R a5 a2) (S35_0 R a3 a0) (S35_1 R a4 a1) (S35_2 R a5 a2) := by
  have c : S60_0 R a3 a0 = S35_0 R a3 a0 ∧ S60_1 R a4 a1 = S35_1 R a4 a1 ∧ S60_2 R a5 a2 = S35_2 R a5 a2 := ⟨rfl, rfl, rfl⟩
  refine ⟨?_, ?_, ?_, ?_, rfl⟩ <;> simp only [S62_0, S62_1, S62_2, S62_4, c, unitE]

theorem cosineE (a0 a1 a2 a3 a4 a5 a6 a7 a8 a9 a10 a11 a12 a13 a14 : Fl) : S61_0 R a0 a1 a2 a3 a4 a5 a6 a7 a8 a9 a10 a11 a12 a13 a14 = S36_0 R a0 a1 a2 a3 a4 a5 a6 a7 a8 a9 a10 a11 a12 a13 a14 := by
  have d : ∀ a b c e f g : Fl, S59_0 R a b c e f g = S34_0 R a b c e f g := fun _ _ _ _ _ _ => rfl
  simp only [S61_0, S36_0, lookE, triNormalE, d]
  generalize S32_3 R (S35_0 R a12 a9) (S35_1 R a13 a10) (S35_2 R a14 a11) = p
  generalize S32_3 R (S33_0 R a1 a2 a4 a5 a7 a8) (S33_1 R a0 a2 a3 a5 a6 a8) (S33_2 R a0 a1 a3 a4 a6 a7) = q
  cases p <;> cases q <;> rfl

theorem solidE (a0 a1 a2 a3 a4 a5 a6 a7 a8 a9 a10 a11 a12 a13 a14 : Fl) : S31_0 R a0 a1 a2 a3 a4 a5 a6 a7 a8 a9 a10 a11 a12 a13 a14 = S20_0 R a0 a1 a2 a3 a4 a5 a6 a7 a8 a9 a10 a11 a12 a13 a14 := by
  simp only [S31_0, S20_0, cosineE, densityE, lookE, plainE]
  generalize S36_0 R a0 a1 a2 a3 a4 a5 a6 a7 a8 a9 a10 a11 a12 a13 a14 = s
  cases (ford s (cls 0) == some .gt) <;> rfl

theorem plainOk (a : Fl) : (ford (S38_0 R a) (cls 0) = some .gt ∨ ford (S38_0 R a) (cls 0) = some .eq) ∧ S57_0 R (S38_0 R a) = true := by
  simp only [S38_0]
  have z : ford (cls 0) (cls 0) = some .eq := by kernel_rfl
  have n : S57_0 R (cls 0) = true := by kernel_rfl
  cases h : S57_0 R a with
  | false => exact ⟨.inr z, n⟩
  | true =>
    cases g : ford a (cls 0) with
    | none => exact ⟨.inr z, n⟩
    | some o => cases o <;> first | exact ⟨.inl g, h⟩ | exact ⟨.inr g, h⟩ | exact ⟨.inr z, n⟩

theorem solidOk (a0 a1 a2 a3 a4 a5 a6 a7 a8 a9 a10 a11 a12 a13 a14 : Fl) : (ford (S20_0 R a0 a1 a2 a3 a4 a5 a6 a7 a8 a9 a10 a11 a12 a13 a14) (cls 0) = some .gt ∨ ford (S20_0 R a0 a1 a2 a3 a4 a5 a6 a7 a8 a9 a10 a11 a12 a13 a14) (cls 0) = some .eq) ∧ S57_0 R (S20_0 R a0 a1 a2 a3 a4 a5 a6 a7 a8 a9 a10 a11 a12 a13 a14) = true := by
  simp only [S20_0]
  generalize S36_0 R a0 a1 a2 a3 a4 a5 a6 a7 a8 a9 a10 a11 a12 a13 a14 = s
  cases (ford s (cls 0) == some .gt)
  · exact ⟨.inr (by kernel_rfl), by kernel_rfl⟩
  · exact plainOk _

theorem frontE (x0 x1 x2 x3 x4 x5 x6 x7 x8 x9 x10 x11 : Fl) : S30_0 R x0 x1 x2 x3 x4 x5 x6 x7 x8 x9 x10 x11 = S19_0 R x0 x1 x2 x3 x4 x5 x6 x7 x8 x9 x10 x11 := by
  obtain ⟨e0, e1, e2, e3⟩ := triNormalE x0 x1 x2 x3 x4 x5 x6 x7 x8
  unfold S30_0 S19_0
  rw [e0, e1, e2, e3]
  rfl

theorem prodSelf {x y : Fl} {a b : Int} (hx : fin x a) (hy : fin y b) : R.feq (R.fmul x y) (R.fmul x y) = true := (feq_iff _ _).2 ⟨_, _, key_mul hx hy, key_mul hx hy, rfl⟩

theorem frac_fin {a b : Int} (h0 : 0 ≤ a) (h1 : a ≤ b) (h2 : 0 < b) (h3 : b ≤ 1073741824) : ∃ k, fin (R.fdiv (R.i2f a) (R.i2f b)) k := by
  have x := fv_small h0 (show a ≤ 2147483648 by omega)
  have y := fv_small (show 0 ≤ b by omega) (show b ≤ 2147483648 by omega)
  have ra : (0 : Rat) ≤ (a : Rat) := Rat.intCast_le_intCast.2 h0
  have rab : (a : Rat) ≤ (b : Rat) := Rat.intCast_le_intCast.2 h1
  have rb : (0 : Rat) < (b : Rat) := Rat.intCast_lt_intCast.2 h2
  have q0 : (0 : Rat) ≤ (a : Rat) / (b : Rat) := by rw [Rat.div_def]; exact Rat.mul_nonneg ra (Rat.le_of_lt (Rat.inv_pos.2 rb))
  have q1 : (a : Rat) / (b : Rat) ≤ 1 := by
    rw [Rat.div_def]
    have := Rat.mul_le_mul_of_nonneg_right rab (Rat.le_of_lt (Rat.inv_pos.2 rb))
    rw [Rat.mul_inv_cancel _ (Rat.ne_of_gt rb)] at this
    exact this
  obtain ⟨r, ⟨k, hk, _⟩, _⟩ := div_val x y (Rat.ne_of_gt rb) (by grind) (by grind)
  exact ⟨k, hk⟩

theorem zeroFin : ∃ k, fin (R.fc 0) k := ⟨0, fkey_zero, by have := topKey_pos; omega, topKey_pos⟩

theorem law_LightSeen (x0 : Row) (x1 : Row) (x2 : Int) (x3 : Row) (x4 : Bool) (x5 : Int) (x6 : Fl) (x7 : Fl) (x8 : Fl) (x9 : Fl) (x10 : Fl) (x11 : Fl) (_k0 : okRow [.f, .f, .f, .f, .f, .f, .f, .f, .f] x0) (_k1 : okRow [.z .i64, .f, .f, .f] x1) (_k2 : okInt .i64 x2) (_k3 : okRow [.f, .f, .f] x3) (_k5 : okInt .i64 x5) : O5 R x0 x1 x2 x3 x4 x5 x6 x7 x8 = true ∧ S5_0 R x0 x1 x2 x3 x4 x5 x6 x7 x8 x9 x10 x11 = true := by
  have ow := aw_O6
  have sw := aw_S6_0
  obtain ⟨w0, E, ew, F, G⟩ := buildE x0 x1 x2 x3 x4
  have hO : WO5_90 R x0 x1 x2 x3 x4 x5 x6 x7 x8 = true → WO3_62 R x0 x1 x2 x3 x4 = true → O5 R x0 x1 x2 x3 x4 x5 x6 x7 x8 = true := by
    intro h1 h2
    have e : O5 R x0 x1 x2 x3 x4 x5 x6 x7 x8 = R.band (R.band (WO3_0 R x0) (R.band (R.bite x4 (WO3_3 R x2 x3) (R.bc true)) (R.band (R.bite (R.bite x4 (WO3_5 R x2 x3) (R.bc false)) (R.bite (WO3_1 R x2 x3) (R.bc true) (R.band (WO3_6 R x3) (R.bite (WO3_8 R x3) (R.bc true) (R.band (R.zle (R.llen (R.lsub x3 (R.zc 0) (R.llen x3))) (R.zc 1073741824)) (R.band (R.bite (WO3_9 R x3) (R.bc true) (WO3_10 R x3)) (R.bite (WO3_15 R x3) (R.bc true) (R.band (WO3_16 R x3) (R.band (WO3_17 R x3) (R.band (WO3_17 R x3) (R.band (WO3_21 R x3) (WO3_23 R x3))))))))))) (R.bc true)) (R.bite (WO3_24 R x2 x3 x4) (R.bc true) (WO3_62 R x0 x1 x2 x3 x4))))) (WO5_90 R x0 x1 x2 x3 x4 x5 x6 x7 x8) := rfl
    have hA : R.band (WO3_0 R x0) (R.band (R.bite x4 (WO3_3 R x2 x3) (R.bc true)) (R.band (R.bite (R.bite x4 (WO3_5 R x2 x3) (R.bc false)) (R.bite (WO3_1 R x2 x3) (R.bc true) (R.band (WO3_6 R x3) (R.bite (WO3_8 R x3) (R.bc true) (R.band (R.zle (R.llen (R.lsub x3 (R.zc 0) (R.llen x3))) (R.zc 1073741824)) (R.band (R.bite (WO3_9 R x3) (R.bc true) (WO3_10 R x3)) (R.bite (WO3_15 R x3) (R.bc true) (R.band (WO3_16 R x3) (R.band (WO3_17 R x3) (R.band (WO3_17 R x3) (R.band (WO3_21 R x3) (WO3_23 R x3))))))))))) (R.bc true)) (R.bite (WO3_24 R x2 x3 x4) (R.bc true) (WO3_62 R x0 x1 x2 x3 x4)))) = true := by rw [w0, F.may, F.new, F.no, h2]; rfl
    rw [e, hA, h1]; rfl
  have v0 : WO5_0 R x0 = true := w0
  rcases G with ⟨k, B⟩ | ⟨n, L, T, N, f, S, B⟩
  · have v63 : WO5_63 R x0 x1 x2 x3 x4 = true := B.w63
    have v64 : WO5_64 R x0 x1 x2 x3 x4 = k := B.w64
    have v65 : WO5_65 R x0 x1 x2 x3 x4 = true := B.w65
    constructor
    · refine hO ?_ B.w62
      unfold WO5_90
      rw [v63, v64, v65, B.z8, ow]; rfl
    · unfold S5_0
      rw [show WS5_0_15 R x0 x1 x2 x3 x4 = true from B.w63, show WS5_0_16 R x0 x1 x2 x3 x4 = k from B.w64, B.z8, B.z0, sw]; rfl
  have hl := B.len
  have hf := B.fine
  have hNn : n ≤ N ∧ N ≤ 513 := by rw [B.hN]; have := B.n512; split <;> omega
  have hsum := hf.sum
  rw [B.sum] at hsum
  -- the page's and the code's names
  have v63 : WO5_63 R x0 x1 x2 x3 x4 = false := B.w63
  have v24 : WO5_24 R x2 x3 x4 = false := F.no
  have v54 : WO5_54 R x0 x1 = false := B.w54
  have v53 : WO5_53 R x0 x1 = false := B.w53
  have v52 : WO5_52 R x0 x1 = true := B.w52
  have v40 : WO5_40 R x0 x1 x2 x3 x4 = nilT N S := B.w40
  have v33 : WO5_33 R x0 x1 x2 x3 x4 = mk1 N f := B.w33
  have v31 : WO5_31 R x0 = (L : Int) := B.w31
  have v32 : WO5_32 R x1 = x1 := by unfold WO5_32; rw [lsub_all, cat_nil]
  have v74 : WO5_74 R x0 x1 = true := by
    show R.bite (R.zlt (R.zc 512) (R.llen x1)) (R.bc false) (R.bite (WO3_28 R x0 x1) (R.bc false) (R.bc true)) = true
    rw [hl, B.z512, B.w28]; rfl
  have v82 : WO5_82 R x0 x1 x2 x3 x4 = R.bnot (nilT N S) := by
    show R.bite (R.zlt (R.zc 512) (R.llen x1)) (R.bc false) (R.bite (WO3_28 R x0 x1) (R.bc false) (R.bite (WO3_40 R x0 x1 x2 x3 x4) (R.bc false) (R.bc true))) = _
    rw [hl, B.z512, B.w28, B.w40]; cases nilT N S <;> rfl
  have v83 : WO5_83 R x0 x1 x2 x3 x4 = R.bnot (nilT N S) := by unfold WO5_83; rw [v40, v82]; cases nilT N S <;> rfl
  have v81 : WO5_81 R x0 x1 x2 x3 x4 = nilT N S := by unfold WO5_81; rw [v40]; cases nilT N S <;> rfl
  obtain ⟨out, hout⟩ : ∃ b : Bool, R.bite (R.zlt x5 (R.zc 0)) (R.bc true) (R.zle (n : Int) x5) = b := ⟨_, rfl⟩
  have v66 : WO5_66 R x1 x5 = out := by unfold WO5_66; rw [hl]; exact hout
  have v67 : WO5_67 R x1 x5 = true := by unfold WO5_67; rw [v66, ow]; cases out <;> rfl
  have v73 : WO5_73 R x0 x1 x5 = R.zlt x5 (R.zc 0) := by unfold WO5_73; rw [v52]; rfl
  have v75 : WO5_75 R x0 x1 x5 = out := by unfold WO5_75; rw [v73, v32, hl]; exact hout
  have v77 : WO5_77 R x0 x1 x5 = out := by unfold WO5_77; rw [v75]; cases out <;> rfl
  have n15 : nthZ (D := R) [.z 0, .z S, .z (N : Int)] 2 = (N : Int) := rfl
  have m15 : nthZ (D := R) [.z 0, .z S, .z (N : Int)] 1 = S := rfl
  have z' : R.zlt (N : Int) (N : Int) = false := zltF (Int.lt_irrefl _)
  have v85 : x4 = true → WO5_85 R x0 x1 x2 x3 = mk1 N f := B.w67
  have v86 : x4 = true → WO5_86 R x0 x1 x2 x3 = true := fun h4 => by unfold WO5_86; rw [v85 h4, mk1_llen]; exact B.a15
  have v87 : x4 = true → WO5_87 R x0 x1 x2 x3 = [.z 0, .z S, .z (N : Int)] := fun h4 => by unfold WO5_87; rw [v85 h4, mk1_llen]; exact B.b15
  have v59 : WO5_59 R x0 x1 = [.l (mk1 n (wE T x1)), .z (n : Int)] := B.w59
  have r59 : nthL (D := R) [.l (mk1 n (wE T x1)), .z (n : Int)] 0 = mk1 n (wE T x1) := rfl
  have v88 : x4 = false → WO5_88 R x0 x1 = true := fun h4 => by unfold WO5_88; rw [v59, r59, B.flat h4, mk1_llen]; exact B.a15
  have v89 : x4 = false → WO5_89 R x0 x1 = [.z 0, .z S, .z (N : Int)] := fun h4 => by unfold WO5_89; rw [v59, r59, B.flat h4, mk1_llen]; exact B.b15
  have s15 : WS5_0_15 R x0 x1 x2 x3 x4 = false := v63
  have s6 : WS5_0_6 R x2 x3 x4 = false := v24
  have s14 : WS5_0_14 R x0 x1 = false := v54
  have s13 : WS5_0_13 R x0 x1 = false := v53
  have s12 : WS5_0_12 R x0 x1 = true := v52
  have s17 : WS5_0_17 R x1 x5 = out := v66
  have s33 : WS5_0_33 R x1 = x1 := v32
  have s34 : WS5_0_34 R x0 x1 x5 = out := v75
  have s35 : WS5_0_35 R x0 x1 x5 = out := v77
  have s18 : WS5_0_18 R = true := by
    show R.band (R.feq (R.fc 0) (R.fc 0)) (R.band (R.feq (R.fc 0) (R.fc 0)) (R.band (R.feq (R.fc 0) (R.fc 0)) (R.bc true))) = true
    rw [feq00]; rfl
  have s69 : x4 = true → WS5_0_69 R x0 x1 x2 x3 = mk1 N f := B.w67
  have s70 : x4 = true → WS5_0_70 R x0 x1 x2 x3 = [.z 0, .z S, .z (N : Int)] := v87
  have s71 : x4 = true → WS5_0_71 R x0 x1 x2 x3 = S := fun h4 => by unfold WS5_0_71; rw [s70 h4, n15, m15, s69 h4, mk1_llen, z']; rfl
  have s66 : WS5_0_66 R x0 x1 = [.l (mk1 n (wE T x1)), .z (n : Int)] := v59
  have s72 : x4 = false → WS5_0_72 R x0 x1 = [.z 0, .z S, .z (N : Int)] := v89
  have s73 : x4 = false → WS5_0_73 R x0 x1 = S := fun h4 => by unfold WS5_0_73; rw [s72 h4, n15, m15, s66, r59, B.flat h4, mk1_llen, z']; rfl
  cases ho : out with
  | true =>
    subst ho
    have v76 : WO5_76 R x0 x1 x5 = true := by
      unfold WO5_76; rw [v73, v75, v52, v74]; cases R.zlt x5 (R.zc 0) <;> rfl
    have v80 : WO5_80 R x0 x1 x5 = true := by unfold WO5_80; rw [v76, v77]; rfl
    have v84 : WO5_84 R x0 x1 x2 x3 x4 x5 = true := by unfold WO5_84; rw [v76, v77]; rfl
    have s48 : WS5_0_48 R x0 x1 x5 x6 x7 x8 = R.fc 0 := by unfold WS5_0_48; rw [s35]; rfl
    have s49 : WS5_0_49 R x0 x1 x5 x6 x7 x8 = R.fc 0 := by unfold WS5_0_49; rw [s35]; rfl
    have s50 : WS5_0_50 R x0 x1 x5 x6 x7 x8 = R.fc 0 := by unfold WS5_0_50; rw [s35]; rfl
    have s63 : WS5_0_63 R x0 x1 x2 x3 x4 x5 x6 x7 x8 x9 x10 x11 = R.fc 0 := by unfold WS5_0_63; rw [s35]; rfl
    have s64 : WS5_0_64 R x0 x1 x2 x3 x4 x5 x6 x7 x8 x9 x10 x11 = true := by unfold WS5_0_64; rw [sw, s48, s49, s50, s63, feq00]; rfl
    constructor
    · refine hO ?_ B.w62
      unfold WO5_90
      rw [v63, v24, v54, v53, v0, v80, v84, v67, v66]
      cases x4 <;> rfl
    · unfold S5_0
      rw [s15, s6, s14, s13, s17, s64]
      cases x4 <;> rfl
  | false =>
    subst ho
    have hr : 0 ≤ x5 ∧ x5 < (n : Int) := by
      by_cases q : x5 < 0
      · rw [zltT (show x5 < R.zc 0 from q)] at hout; cases hout
      · by_cases q2 : (n : Int) ≤ x5
        · rw [zltF (show ¬ x5 < R.zc 0 from q), zleT q2] at hout; cases hout
        · omega
    obtain ⟨i, rfl⟩ : ∃ i : Nat, x5 = (i : Int) := ⟨x5.toNat, by omega⟩
    have hi : i < n := by omega
    have o := B.ok i hi
    have zi : R.zlt (i : Int) (n : Int) = true := zltT (by omega)
    have zN : R.zlt (i : Int) (N : Int) = true := zltT (by omega)
    have z0 : R.zlt (i : Int) (R.zc 0) = false := zltF (show ¬ (i : Int) < 0 by omega)
    have t0 : R.zle (R.zc 0) (tri x1 i) = true := zleT o.lo
    have t1 : R.zlt (tri x1 i) (L : Int) = true := zltT o.hi
    have hz : R.lz x1 (i : Int) 0 = tri x1 i := rfl
    have v68 : WO5_68 R x1 (i : Int) = true := by unfold WO5_68; rw [hl, zge0, zi]; rfl
    have v25 : WO5_25 R x0 = [.l T, .z (lim x0 : Int)] := B.w25
    have r25 : nthL (D := R) [.l T, .z (lim x0 : Int)] 0 = T := rfl
    have v69 : WO5_69 R x0 x1 (i : Int) = true := by unfold WO5_69; rw [v68, v25, r25, B.lenT, hz, t0, t1]; rfl
    have v70 : WO5_70 R x0 x1 (i : Int) x6 x7 x8 = true := by unfold WO5_70; rw [v68]; generalize S19_0 R _ _ _ _ _ _ _ _ _ _ _ _ = q; cases q <;> rfl
    have v76 : WO5_76 R x0 x1 (i : Int) = true := by unfold WO5_76; rw [v73, v75, v52, v74, v32, hl, z0, zge0, zi]; rfl
    have v78 : WO5_78 R x0 x1 (i : Int) = tri x1 i := by unfold WO5_78; rw [v75, v32]; rfl
    have v79 : WO5_79 R x0 x1 (i : Int) = true := by unfold WO5_79; rw [v52, v74, v78, v31, t0, t1]; rfl
    have v80 : WO5_80 R x0 x1 (i : Int) = true := by unfold WO5_80; rw [v76, v77, v79]; rfl
    have v84 : WO5_84 R x0 x1 x2 x3 x4 (i : Int) = true := by
      unfold WO5_84
      rw [v76, v77, v79, v52, v74, v81, v83, v82, v40, v33, mk1_llen, zge0, zN]
      cases nilT N S with
      | true =>
        have : R.zlt (i : Int) (R.zite true (R.zc 0) (N : Int)) = false := z0
        rw [this]; rfl
      | false =>
        have : R.zlt (i : Int) (R.zite false (R.zc 0) (N : Int)) = true := zN
        rw [this]; rfl
    have w33 := B.w33
    -- how probable it is
    obtain ⟨ch, hch⟩ : ∃ c : Fl, R.fite (R.zlt (R.zc 0) S) (R.fdiv (R.i2f (f i)) (R.i2f S)) (R.fc 0) = c := ⟨_, rfl⟩
    have htop : S ≤ 1073741824 := by have := hsum.2; omega
    have hle : f i ≤ S := by rw [← B.sum]; exact sm_ge (fun q hq => (hf q hq).1) i (by omega)
    have chFin : ∃ k, fin ch k := by
      rw [← hch]
      by_cases q : 0 < S
      · rw [zltT (show R.zc 0 < S from q)]
        exact frac_fin (hf i (by omega)).1 hle q htop
      · rw [zltF (show ¬ R.zc 0 < S from q)]; exact zeroFin
    have chCode : R.fite (R.bnot (R.bite (R.zle (R.zc 0) (i : Int)) (R.zlt (i : Int) (R.zite (nilT N S) (R.zc 0) (N : Int))) (R.bc false))) (R.fc 0) (R.fdiv (R.i2f (f i)) (R.i2f S)) = ch := by
      rw [← hch, zge0]
      by_cases q : S = 0
      · have e : nilT N S = true := decide_eq_true (.inr q)
        have z2 : R.zlt (i : Int) (R.zite true (R.zc 0) (N : Int)) = false := z0
        rw [e, z2, zltF (show ¬ R.zc 0 < S from show ¬ (0 : Int) < S by omega)]; rfl
      · have e : nilT N S = false := decide_eq_false (by rintro (g | g) <;> omega)
        have z2 : R.zlt (i : Int) (R.zite false (R.zc 0) (N : Int)) = true := zN
        rw [e, z2, zltT (show R.zc 0 < S from show (0 : Int) < S by omega)]; rfl
    obtain ⟨kc, hkc⟩ := chFin
    have s7 : WS5_0_7 R x0 = [.l T, .z (lim x0 : Int)] := v25
    have s36 : WS5_0_36 R x0 = T := by unfold WS5_0_36; rw [s7, r25, lsub_all, cat_nil]
    have s37 : WS5_0_37 R x0 x1 (i : Int) = tri x1 i := v78
    have p0 : WS5_0_38 R x0 x1 (i : Int) = R.lf T (tri x1 i) 0 := by unfold WS5_0_38; rw [s36, s37]
    have p1 : WS5_0_39 R x0 x1 (i : Int) = R.lf T (tri x1 i) 1 := by unfold WS5_0_39; rw [s36, s37]
    have p2 : WS5_0_40 R x0 x1 (i : Int) = R.lf T (tri x1 i) 2 := by unfold WS5_0_40; rw [s36, s37]
    have p3 : WS5_0_41 R x0 x1 (i : Int) = R.lf T (tri x1 i) 3 := by unfold WS5_0_41; rw [s36, s37]
    have p4 : WS5_0_42 R x0 x1 (i : Int) = R.lf T (tri x1 i) 4 := by unfold WS5_0_42; rw [s36, s37]
    have p5 : WS5_0_43 R x0 x1 (i : Int) = R.lf T (tri x1 i) 5 := by unfold WS5_0_43; rw [s36, s37]
    have p6 : WS5_0_44 R x0 x1 (i : Int) = R.lf T (tri x1 i) 6 := by unfold WS5_0_44; rw [s36, s37]
    have p7 : WS5_0_45 R x0 x1 (i : Int) = R.lf T (tri x1 i) 7 := by unfold WS5_0_45; rw [s36, s37]
    have p8 : WS5_0_46 R x0 x1 (i : Int) = R.lf T (tri x1 i) 8 := by unfold WS5_0_46; rw [s36, s37]
    have q0 : WS5_0_19 R x0 x1 (i : Int) = R.lf T (tri x1 i) 0 := by unfold WS5_0_19; rw [s7, r25, hz]
    have q1 : WS5_0_20 R x0 x1 (i : Int) = R.lf T (tri x1 i) 1 := by unfold WS5_0_20; rw [s7, r25, hz]
    have q2 : WS5_0_21 R x0 x1 (i : Int) = R.lf T (tri x1 i) 2 := by unfold WS5_0_21; rw [s7, r25, hz]
    have q3 : WS5_0_22 R x0 x1 (i : Int) = R.lf T (tri x1 i) 3 := by unfold WS5_0_22; rw [s7, r25, hz]
    have q4 : WS5_0_23 R x0 x1 (i : Int) = R.lf T (tri x1 i) 4 := by unfold WS5_0_23; rw [s7, r25, hz]
    have q5 : WS5_0_24 R x0 x1 (i : Int) = R.lf T (tri x1 i) 5 := by unfold WS5_0_24; rw [s7, r25, hz]
    have q6 : WS5_0_25 R x0 x1 (i : Int) = R.lf T (tri x1 i) 6 := by unfold WS5_0_25; rw [s7, r25, hz]
    have q7 : WS5_0_26 R x0 x1 (i : Int) = R.lf T (tri x1 i) 7 := by unfold WS5_0_26; rw [s7, r25, hz]
    have q8 : WS5_0_27 R x0 x1 (i : Int) = R.lf T (tri x1 i) 8 := by unfold WS5_0_27; rw [s7, r25, hz]
    -- ahead of it or not
    obtain ⟨fr, hfr⟩ : ∃ b : Bool, S19_0 R (R.lf T (tri x1 i) 0) (R.lf T (tri x1 i) 1) (R.lf T (tri x1 i) 2) (R.lf T (tri x1 i) 3) (R.lf T (tri x1 i) 4) (R.lf T (tri x1 i) 5) (R.lf T (tri x1 i) 6) (R.lf T (tri x1 i) 7) (R.lf T (tri x1 i) 8) x6 x7 x8 = b := ⟨_, rfl⟩
    have s28 : WS5_0_28 R x0 x1 (i : Int) x6 x7 x8 = fr := by unfold WS5_0_28; rw [q0, q1, q2, q3, q4, q5, q6, q7, q8]; exact hfr
    have s47 : WS5_0_47 R x0 x1 (i : Int) x6 x7 x8 = R.bnot fr := by unfold WS5_0_47; rw [p0, p1, p2, p3, p4, p5, p6, p7, p8, frontE, hfr]
    obtain ⟨g1, g2, g3⟩ := goodSelf o.good
    have s65 : WS5_0_65 R x0 x1 (i : Int) x6 x7 x8 = true := by
      unfold WS5_0_65 WS5_0_48 WS5_0_49 WS5_0_50 WS5_0_29 WS5_0_30 WS5_0_31
      rw [sw, s28, s35, s47, s34, s33]
      cases fr with
      | true =>
        show R.bite true (R.band (R.feq (R.lf x1 (i : Int) 1) (R.lf x1 (i : Int) 1)) (R.band (R.feq (R.lf x1 (i : Int) 2) (R.lf x1 (i : Int) 2)) (R.band (R.feq (R.lf x1 (i : Int) 3) (R.lf x1 (i : Int) 3)) (R.bc true)))) (R.bc false) = true
        rw [g1, g2, g3]; rfl
      | false =>
        show R.bite true (R.band (R.feq (R.fc 0) (R.fc 0)) (R.band (R.feq (R.fc 0) (R.fc 0)) (R.band (R.feq (R.fc 0) (R.fc 0)) (R.bc true)))) (R.bc false) = true
        rw [feq00]; rfl
    obtain ⟨sol, hsol⟩ : ∃ s : Fl, S20_0 R (R.lf T (tri x1 i) 0) (R.lf T (tri x1 i) 1) (R.lf T (tri x1 i) 2) (R.lf T (tri x1 i) 3) (R.lf T (tri x1 i) 4) (R.lf T (tri x1 i) 5) (R.lf T (tri x1 i) 6) (R.lf T (tri x1 i) 7) (R.lf T (tri x1 i) 8) x6 x7 x8 x9 x10 x11 = s := ⟨_, rfl⟩
    have s32 : WS5_0_32 R x0 x1 (i : Int) x6 x7 x8 x9 x10 x11 = sol := by unfold WS5_0_32; rw [q0, q1, q2, q3, q4, q5, q6, q7, q8]; exact hsol
    obtain ⟨ks, hks⟩ := numFin (by rw [← hsol]; exact (solidOk (R.lf T (tri x1 i) 0) (R.lf T (tri x1 i) 1) (R.lf T (tri x1 i) 2) (R.lf T (tri x1 i) 3) (R.lf T (tri x1 i) 4) (R.lf T (tri x1 i) 5) (R.lf T (tri x1 i) 6) (R.lf T (tri x1 i) 7) (R.lf T (tri x1 i) 8) x6 x7 x8 x9 x10 x11).2 : S57_0 R sol = true)
    have self := prodSelf hkc hks
    have s63 : WS5_0_63 R x0 x1 x2 x3 x4 (i : Int) x6 x7 x8 x9 x10 x11 = R.fmul ch sol := by
      have e : WS5_0_63 R x0 x1 x2 x3 x4 (i : Int) x6 x7 x8 x9 x10 x11 = R.fite (WS5_0_35 R x0 x1 (i : Int)) (R.fc 0) (R.fmul (R.fite (R.bnot (WS5_0_12 R x0 x1)) (R.fc 0) (R.fite (R.bnot (R.bite (R.zle (R.zc 0) (i : Int)) (R.zlt (i : Int) (R.zite (R.bnot (R.bnot (WO3_40 R x0 x1 x2 x3 x4))) (R.zc 0) (R.llen (WO3_33 R x0 x1 x2 x3 x4)))) (R.bc false))) (R.fc 0) (R.fdiv (R.i2f (R.lz (WO3_33 R x0 x1 x2 x3 x4) (i : Int) 0)) (R.i2f (WO3_43 R x0 x1 x2 x3 x4))))) (S31_0 R (WS5_0_38 R x0 x1 (i : Int)) (WS5_0_39 R x0 x1 (i : Int)) (WS5_0_40 R x0 x1 (i : Int)) (WS5_0_41 R x0 x1 (i : Int)) (WS5_0_42 R x0 x1 (i : Int)) (WS5_0_43 R x0 x1 (i : Int)) (WS5_0_44 R x0 x1 (i : Int)) (WS5_0_45 R x0 x1 (i : Int)) (WS5_0_46 R x0 x1 (i : Int)) x6 x7 x8 x9 x10 x11)) := rfl
      have nn : R.bnot (R.bnot (nilT N S)) = nilT N S := by cases nilT N S <;> rfl
      rw [e, s35, s12, B.w40, nn, B.w33, B.w43, mk1_llen, mk1_at f (show i < N by omega), chCode, p0, p1, p2, p3, p4, p5, p6, p7, p8, solidE, hsol]
      rfl
    have zS : R.bite (R.zlt (R.zc 0) S) (R.band true true) (R.bc true) = true := by cases R.zlt (R.zc 0) S <;> rfl
    constructor
    · refine hO ?_ B.w62
      unfold WO5_90
      rw [v63, v24, v54, v53, v0, v80, v84, v67, v66, v69, v70, ow]
      cases h4 : x4 with
      | true =>
        rw [v86 h4, v87 h4, n15, m15, v85 h4, mk1_llen, z', zge0, zN]
        show R.band true (R.band true (R.band true (R.band true (R.band true (R.band true (R.band true (R.band (R.bite (R.zlt (R.zc 0) S) (R.band true true) (R.bc true)) true))))))) = true
        rw [zS]; rfl
      | false =>
        rw [v88 h4, v89 h4, n15, m15, v59, r59, B.flat h4, mk1_llen, z', zge0, zN]
        show R.band true (R.band true (R.band true (R.band true (R.band true (R.band true (R.band true (R.band (R.bite (R.zlt (R.zc 0) S) (R.band true true) (R.bc true)) true))))))) = true
        rw [zS]; rfl
    · unfold S5_0
      rw [s15, s6, s14, s13, s17, s65, s63, s18, s32, feq00]
      cases h4 : x4 with
      | true =>
        rw [s71 h4, s69 h4, mk1_at f (show i < N by omega), hch, self]; rfl
      | false =>
        rw [s73 h4, s66, r59, B.flat h4, mk1_at f (show i < N by omega), hch, self]; rfl

end Go.Proofs.Ytachcmfgjjoimaa
