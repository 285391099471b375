/- The law of CamRays over numbers: the ray of any place, asked either way, is the same; a view that may not be has none. -/
import Derived.Test.YtaidgkokaeojhaaSp
import Derived.Test.YtaidgkokaeojhaaEv5
namespace Go.Proofs.Ytaidgkokaeojhaa
open Go.Ev

theorem zltT {a b : Int} (h : a < b) : R.zlt a b = true := decide_eq_true h
theorem zltF {a b : Int} (h : ¬ a < b) : R.zlt a b = false := decide_eq_false h
theorem suc {i : Nat} (h : i ≤ 1000000) : R.zadd .i64 (i : Int) (R.zc 1) = ((i + 1 : Nat) : Int) := (zadd64 (x := (i : Int)) (y := 1) ⟨by omega, by omega⟩).trans rfl
theorem pw_more : (1099511627776 : Rat) ≤ pw 1000 := Rat.le_trans (show (1099511627776 : Rat) ≤ pw 40 by unfold pw; decide +kernel) (pw_le (by decide))

/-- A number is the float of it. -/
theorem fv_nat {k : Nat} (h : k ≤ 1099511627776) : fv (R.i2f (k : Int)) (k : Rat) := by
  have e : ((k : Int) : Rat) = (k : Rat) := rfl
  have a : (0 : Rat) ≤ (k : Rat) := Rat.natCast_nonneg
  have b : (k : Rat) ≤ 1099511627776 := by
    have : (k : Rat) ≤ ((1099511627776 : Nat) : Rat) := Rat.natCast_le_natCast.2 h
    exact this
  obtain ⟨r, h, hr⟩ := fv_int (n := (k : Int)) (by have := pw_more; have := pw_pos 1000; rw [e]; generalize pw 1000 = z at *; grind) (Rat.le_trans b pw_more)
  have := hr.exact (repQ_dyadic (n := k) (j := 0) (by omega) (by decide) (by rw [pw_zero, Rat.mul_one]; exact e))
  rw [this] at h
  exact h

theorem cleanE (a : Fl) : S43_0 R a = S45_0 R a := clean_eq a

theorem cleanVal (a : Fl) : ∃ q, fv (S45_0 R a) q ∧ 0 ≤ q ∧ q < 1 := by
  rw [← cleanE]
  unfold S43_0
  cases h1 : R.fge a (R.fc 0) with
  | false => exact ⟨0, fv_zero, by decide, by decide⟩
  | true =>
    cases h2 : R.flt a (R.fc 4607182418800017408) with
    | false => exact ⟨0, fv_zero, by decide, by decide⟩
    | true => exact unit_val h1 h2

theorem eightVal (a : Fl) : ∃ w k, fv (R.fmul (S45_0 R a) (R.fc 4620693217682128896)) w ∧ flint (R.fmul (S45_0 R a) (R.fc 4620693217682128896)) = some k ∧ 0 ≤ k ∧ k ≤ 7 ∧ ((k : Int) : Rat) ≤ w ∧ w < ((k + 1 : Int) : Rat) := by
  obtain ⟨c, hc, c0, c1⟩ := cleanVal a
  obtain ⟨w, hw, rw'⟩ := mul_val hc fv_eight (by grind) (by grind)
  have h8 : repQ (c * 8) := by
    have a1 := repQ_twice (fv_rep hc) ⟨by grind, by grind⟩
    have a2 := repQ_twice a1 ⟨by grind, by grind⟩
    have a3 := repQ_twice a2 ⟨by grind, by grind⟩
    have e : 2 * (2 * (2 * c)) = c * 8 := by grind
    rw [e] at a3
    exact a3
  have ew := rw'.exact h8
  have f1 := Rat.floor_le w
  have f2 := Rat.lt_floor_add_one w
  have k0 : 0 ≤ w.floor := Rat.le_floor_iff.2 (by show (((0 : Int)) : Rat) ≤ w; rw [show ((0 : Int) : Rat) = 0 from rfl]; grind)
  have k7 : w.floor < 8 := Rat.floor_lt_iff.2 (by show w < ((8 : Int) : Rat); rw [show ((8 : Int) : Rat) = 8 from rfl]; grind)
  exact ⟨w, w.floor, hw, fv_trunc hw k0 f1 f2, k0, by omega, f1, f2⟩


theorem loop9 {W : Fl} {w : Rat} (hw : fv W w) {k : Nat} (k7 : k ≤ 7) (g1 : ((k : Nat) : Rat) ≤ w) (g2 : w < ((k + 1 : Nat) : Rat)) : E0 R W (R.zc 0) = true ∧ L0 R W (R.zc 0) = [.z (k : Int)] := by
  refine ends_path (step := G0 R W) (p := [.z (R.zc 0)]) (fun j => [.z (j : Int)]) k rfl (fun j hj => ?_) ?_
  · have a := suc (i := j) (by omega)
    have b : R.zlt (j : Int) (R.zc 7) = true := zltT (show (j : Int) < 7 by omega)
    have c : R.fle (R.i2f ((j + 1 : Nat) : Int)) W = true := by
      rw [fv_fle (fv_nat (k := j + 1) (by omega)) hw]
      have : ((j + 1 : Nat) : Rat) ≤ ((k : Nat) : Rat) := Rat.natCast_le_natCast.2 (by omega)
      exact decide_eq_true (Rat.le_trans this g1)
    show (C0 R W (j : Int), O0_ R, [PV.z (N0_0 R (j : Int))]) = _
    unfold C0 O0_ N0_0
    rw [a, b, c]; rfl
  · show C0 R W (k : Int) = false
    unfold C0
    by_cases e : k = 7
    · rw [zltF (show ¬ (k : Int) < R.zc 7 from show ¬ (k : Int) < 7 by omega)]; rfl
    · have c : R.fle (R.i2f ((k + 1 : Nat) : Int)) W = false := by
        rw [fv_fle (fv_nat (k := k + 1) (by omega)) hw]
        exact decide_eq_false (Rat.not_le.2 g2)
      rw [suc (by omega), c]; cases R.zlt (k : Int) (R.zc 7) <;> rfl

/-- The sector of a draw: the same, asked either way; its direction by what is left of the draw. -/
theorem sectorE (a : Fl) : O50 R a = true ∧ O46 R a = true ∧ S50_0 R a = S46_0 R a ∧ S50_1 R a = S46_1 R a ∧ S50_2 R a = S46_2 R a ∧
    ∃ F f C S, fv F f ∧ 0 ≤ f ∧ f ≤ 1 ∧
      C = R.fdiv (R.fc 4607182418800017408) (R.fsqrt (R.fadd (R.fc 4607182418800017408) (R.fmul F F))) ∧ S = R.fdiv F (R.fsqrt (R.fadd (R.fc 4607182418800017408) (R.fmul F F))) ∧
      ((S46_0 R a = C ∧ S46_1 R a = S) ∨ (S46_0 R a = S ∧ S46_1 R a = C) ∨ (S46_0 R a = R.fsub (R.fc 0) S ∧ S46_1 R a = C) ∨ (S46_0 R a = R.fsub (R.fc 0) C ∧ S46_1 R a = S) ∨
       (S46_0 R a = R.fsub (R.fc 0) C ∧ S46_1 R a = R.fsub (R.fc 0) S) ∨ (S46_0 R a = R.fsub (R.fc 0) S ∧ S46_1 R a = R.fsub (R.fc 0) C) ∨ (S46_0 R a = S ∧ S46_1 R a = R.fsub (R.fc 0) C) ∨ (S46_0 R a = C ∧ S46_1 R a = R.fsub (R.fc 0) S)) := by
  obtain ⟨w, k, hw, hk, k0, k7, g1, g2⟩ := eightVal a
  obtain ⟨j, rfl⟩ : ∃ j : Nat, k = (j : Int) := ⟨k.toNat, by omega⟩
  have g2' : w < ((j + 1 : Nat) : Rat) := g2
  have g1' : ((j : Nat) : Rat) ≤ w := g1
  obtain ⟨l1, l2⟩ := loop9 hw (k := j) (by omega) g1' g2'
  have c8 : R.fmul (R.fc 4620693217682128896) (S45_0 R a) = R.fmul (S45_0 R a) (R.fc 4620693217682128896) := fmul_comm _ _
  have hc : S43_0 R a = S45_0 R a := cleanE a
  generalize hW : R.fmul (S45_0 R a) (R.fc 4620693217682128896) = W at *
  have h0 : WS46_0_0 R a = W := c8
  have h1 : WS46_1_0 R a = W := c8
  have m0 : WS46_0_1 R a = [.z (j : Int)] := by unfold WS46_0_1; rw [h0]; exact l2
  have m1 : WS46_1_1 R a = [.z (j : Int)] := by unfold WS46_1_1; rw [h1]; exact l2
  have h2 : WS46_2_0 R a = W := c8
  have m2 : WS46_2_1 R a = [.z (j : Int)] := by unfold WS46_2_1; rw [h2]; exact l2
  have n2 : R.fmul (S43_0 R a) (R.fc 4620693217682128896) = W := by rw [hc, hW]
  have n0 : WS50_0_0 R a = W := by unfold WS50_0_0; rw [hc, hW]
  have n1 : WS50_1_0 R a = W := by unfold WS50_1_0; rw [hc, hW]
  have o1 : O46 R a = true := by unfold O46; rw [c8]; exact l1
  have hi : R.f2i .i64 W = (j : Int) := by show (flint W).getD 0 = _; rw [hk]; rfl
  have hok : R.f2iok .i64 W = true := by
    show (match flint W with | some n => decide (IntKind.i64.min ≤ n ∧ n ≤ IntKind.i64.max) | none => false) = true
    rw [hk]
    have a : IntKind.i64.min = -9223372036854775808 := by decide
    have b : IntKind.i64.max = 9223372036854775807 := by decide
    simp only [a, b, decide_eq_true_eq]
    omega
  have hF : ∃ f, fv (R.fsub W (R.i2f (j : Int))) f ∧ 0 ≤ f ∧ f ≤ 1 := by
    have e1 : ((j + 1 : Nat) : Rat) = ((j : Nat) : Rat) + 1 := by rw [Rat.natCast_add]; rfl
    have j7 : ((j : Nat) : Rat) ≤ ((7 : Nat) : Rat) := Rat.natCast_le_natCast.2 (by omega)
    have j0 : (0 : Rat) ≤ ((j : Nat) : Rat) := Rat.natCast_nonneg
    have s7 : ((7 : Nat) : Rat) = 7 := rfl
    obtain ⟨f, hf, rf⟩ := sub_val hw (fv_nat (k := j) (by omega)) (by grind) (by grind)
    exact ⟨f, hf, rf.ge 0 (fv_rep fv_zero) (by grind), rf.le 1 (fv_rep fv_one) (by grind)⟩
  obtain ⟨f, hf, f0, f1⟩ := hF
  have o2 : O50 R a = true := by
    unfold O50
    rw [hc, hW, hi, hok]
    have cases8 : j = 0 ∨ j = 1 ∨ j = 2 ∨ j = 3 ∨ j = 4 ∨ j = 5 ∨ j = 6 ∨ j = 7 := by omega
    rcases cases8 with rfl | rfl | rfl | rfl | rfl | rfl | rfl | rfl <;> rfl
  refine ⟨o2, o1, ?_⟩
  unfold S50_0 S50_1 S50_2 S46_0 S46_1 S46_2 WS46_2_2 WS50_0_1 WS50_1_1 WS50_0_4 WS50_0_5 WS50_1_4 WS50_1_5 WS50_0_3 WS50_1_3 WS50_0_2 WS50_1_2 WS46_0_4 WS46_1_4 WS46_0_3 WS46_1_3 WS46_0_2 WS46_1_2
  rw [h0, h1, h2, m0, m1, m2, n0, n1, n2, hi]
  have cases8 : j = 0 ∨ j = 1 ∨ j = 2 ∨ j = 3 ∨ j = 4 ∨ j = 5 ∨ j = 6 ∨ j = 7 := by omega
  rcases cases8 with rfl | rfl | rfl | rfl | rfl | rfl | rfl | rfl
  · exact ⟨rfl, rfl, rfl, _, f, _, _, hf, f0, f1, rfl, rfl, .inl ⟨rfl, rfl⟩⟩
  · exact ⟨rfl, rfl, rfl, _, f, _, _, hf, f0, f1, rfl, rfl, .inr (.inl ⟨rfl, rfl⟩)⟩
  · exact ⟨rfl, rfl, rfl, _, f, _, _, hf, f0, f1, rfl, rfl, .inr (.inr (.inl ⟨rfl, rfl⟩))⟩
  · exact ⟨rfl, rfl, rfl, _, f, _, _, hf, f0, f1, rfl, rfl, .inr (.inr (.inr (.inl ⟨rfl, rfl⟩)))⟩
  · exact ⟨rfl, rfl, rfl, _, f, _, _, hf, f0, f1, rfl, rfl, .inr (.inr (.inr (.inr (.inl ⟨rfl, rfl⟩))))⟩
  · exact ⟨rfl, rfl, rfl, _, f, _, _, hf, f0, f1, rfl, rfl, .inr (.inr (.inr (.inr (.inr (.inl ⟨rfl, rfl⟩)))))⟩
  · exact ⟨rfl, rfl, rfl, _, f, _, _, hf, f0, f1, rfl, rfl, .inr (.inr (.inr (.inr (.inr (.inr (.inl ⟨rfl, rfl⟩))))))⟩
  · exact ⟨rfl, rfl, rfl, _, f, _, _, hf, f0, f1, rfl, rfl, .inr (.inr (.inr (.inr (.inr (.inr (.inr ⟨rfl, rfl⟩))))))⟩


theorem numberE (x : Fl) : S21_0 R x = S17_0 R x := number_iff x
theorem fin3 (a b c : Fl) : S22_0 R a b c = S16_0 R a b c := by
  unfold S22_0 S16_0; rw [numberE, numberE, numberE]

theorem unitE (a b c : Fl) : S23_0 R a b c = S18_0 R a b c ∧ S23_1 R a b c = S18_1 R a b c ∧ S23_2 R a b c = S18_2 R a b c ∧ S23_3 R a b c = S18_3 R a b c := by
  have l : S38_0 R a b c = S35_0 R (S36_0 R a b c a b c) := rfl
  unfold S23_0 S23_1 S23_2 S23_3 S18_0 S18_1 S18_2 S18_3
  rw [l, numberE]
  generalize S35_0 R (S36_0 R a b c a b c) = n
  cases R.fgt n (R.fc 0) <;> cases S17_0 R n <;> exact ⟨rfl, rfl, rfl, rfl⟩

section
variable (x0 x1 x2 x3 x4 x5 x6 x7 x8 x9 x10 x11 : Fl)

theorem w5 : WS3_0_5 R x0 x1 x2 x3 x4 x5 = S18_0 R (S19_0 R x3 x0) (S19_1 R x4 x1) (S19_2 R x5 x2) := (unitE _ _ _).1
theorem w2 : WS3_0_2 R x0 x1 x2 x3 x4 x5 = S18_1 R (S19_0 R x3 x0) (S19_1 R x4 x1) (S19_2 R x5 x2) := (unitE _ _ _).2.1
theorem w3 : WS3_0_3 R x0 x1 x2 x3 x4 x5 = S18_2 R (S19_0 R x3 x0) (S19_1 R x4 x1) (S19_2 R x5 x2) := (unitE _ _ _).2.2.1
theorem w4 : WS3_0_4 R x0 x1 x2 x3 x4 x5 x7 x8 = S20_0 R (S18_1 R (S19_0 R x3 x0) (S19_1 R x4 x1) (S19_2 R x5 x2)) (S18_2 R (S19_0 R x3 x0) (S19_1 R x4 x1) (S19_2 R x5 x2)) x7 x8 := by unfold WS3_0_4; rw [w2, w3]; rfl
theorem w6 : WS3_0_6 R x0 x1 x2 x3 x4 x5 x6 x8 = S20_1 R (S18_0 R (S19_0 R x3 x0) (S19_1 R x4 x1) (S19_2 R x5 x2)) (S18_2 R (S19_0 R x3 x0) (S19_1 R x4 x1) (S19_2 R x5 x2)) x6 x8 := by unfold WS3_0_6; rw [w5, w3]; rfl
theorem w7 : WS3_0_7 R x0 x1 x2 x3 x4 x5 x6 x7 = S20_2 R (S18_0 R (S19_0 R x3 x0) (S19_1 R x4 x1) (S19_2 R x5 x2)) (S18_1 R (S19_0 R x3 x0) (S19_1 R x4 x1) (S19_2 R x5 x2)) x6 x7 := by unfold WS3_0_7; rw [w5, w2]; rfl
theorem w10 : WS3_0_10 R x0 x1 x2 x3 x4 x5 x6 x7 x8 = S18_0 R (S20_0 R (S18_1 R (S19_0 R x3 x0) (S19_1 R x4 x1) (S19_2 R x5 x2)) (S18_2 R (S19_0 R x3 x0) (S19_1 R x4 x1) (S19_2 R x5 x2)) x7 x8) (S20_1 R (S18_0 R (S19_0 R x3 x0) (S19_1 R x4 x1) (S19_2 R x5 x2)) (S18_2 R (S19_0 R x3 x0) (S19_1 R x4 x1) (S19_2 R x5 x2)) x6 x8) (S20_2 R (S18_0 R (S19_0 R x3 x0) (S19_1 R x4 x1) (S19_2 R x5 x2)) (S18_1 R (S19_0 R x3 x0) (S19_1 R x4 x1) (S19_2 R x5 x2)) x6 x7) := by unfold WS3_0_10; rw [w4, w6, w7]; exact (unitE _ _ _).1
theorem w11 : WS3_0_11 R x0 x1 x2 x3 x4 x5 x6 x7 x8 = S18_1 R (S20_0 R (S18_1 R (S19_0 R x3 x0) (S19_1 R x4 x1) (S19_2 R x5 x2)) (S18_2 R (S19_0 R x3 x0) (S19_1 R x4 x1) (S19_2 R x5 x2)) x7 x8) (S20_1 R (S18_0 R (S19_0 R x3 x0) (S19_1 R x4 x1) (S19_2 R x5 x2)) (S18_2 R (S19_0 R x3 x0) (S19_1 R x4 x1) (S19_2 R x5 x2)) x6 x8) (S20_2 R (S18_0 R (S19_0 R x3 x0) (S19_1 R x4 x1) (S19_2 R x5 x2)) (S18_1 R (S19_0 R x3 x0) (S19_1 R x4 x1) (S19_2 R x5 x2)) x6 x7) := by unfold WS3_0_11; rw [w4, w6, w7]; exact (unitE _ _ _).2.1
theorem w12 : WS3_0_12 R x0 x1 x2 x3 x4 x5 x6 x7 x8 = S18_2 R (S20_0 R (S18_1 R (S19_0 R x3 x0) (S19_1 R x4 x1) (S19_2 R x5 x2)) (S18_2 R (S19_0 R x3 x0) (S19_1 R x4 x1) (S19_2 R x5 x2)) x7 x8) (S20_1 R (S18_0 R (S19_0 R x3 x0) (S19_1 R x4 x1) (S19_2 R x5 x2)) (S18_2 R (S19_0 R x3 x0) (S19_1 R x4 x1) (S19_2 R x5 x2)) x6 x8) (S20_2 R (S18_0 R (S19_0 R x3 x0) (S19_1 R x4 x1) (S19_2 R x5 x2)) (S18_1 R (S19_0 R x3 x0) (S19_1 R x4 x1) (S19_2 R x5 x2)) x6 x7) := by unfold WS3_0_12; rw [w4, w6, w7]; exact (unitE _ _ _).2.2.1

theorem s5_0 (h : S5_9 R x0 x1 x2 x3 x4 x5 x6 x7 x8 x9 x10 x11 = true) : S5_0 R x0 x1 x2 x3 x4 x5 x6 x7 x8 x9 x10 x11 = WS3_0_5 R x0 x1 x2 x3 x4 x5 := by
  rw [w5]
  unfold S5_9 at h
  unfold S5_0 
  generalize R.bite _ (R.bc true) (R.bnot (R.fgt x11 (R.fc 0))) = g at h ⊢
  cases g
  · rfl
  · cases h

theorem s5_1 (h : S5_9 R x0 x1 x2 x3 x4 x5 x6 x7 x8 x9 x10 x11 = true) : S5_1 R x0 x1 x2 x3 x4 x5 x6 x7 x8 x9 x10 x11 = WS3_0_2 R x0 x1 x2 x3 x4 x5 := by
  rw [w2]
  unfold S5_9 at h
  unfold S5_1 
  generalize R.bite _ (R.bc true) (R.bnot (R.fgt x11 (R.fc 0))) = g at h ⊢
  cases g
  · rfl
  · cases h

theorem s5_2 (h : S5_9 R x0 x1 x2 x3 x4 x5 x6 x7 x8 x9 x10 x11 = true) : S5_2 R x0 x1 x2 x3 x4 x5 x6 x7 x8 x9 x10 x11 = WS3_0_3 R x0 x1 x2 x3 x4 x5 := by
  rw [w3]
  unfold S5_9 at h
  unfold S5_2 
  generalize R.bite _ (R.bc true) (R.bnot (R.fgt x11 (R.fc 0))) = g at h ⊢
  cases g
  · rfl
  · cases h

theorem s5_3 (h : S5_9 R x0 x1 x2 x3 x4 x5 x6 x7 x8 x9 x10 x11 = true) : S5_3 R x0 x1 x2 x3 x4 x5 x6 x7 x8 x9 x10 x11 = WS3_0_10 R x0 x1 x2 x3 x4 x5 x6 x7 x8 := by
  rw [w10]
  unfold S5_9 at h
  unfold S5_3 
  generalize R.bite _ (R.bc true) (R.bnot (R.fgt x11 (R.fc 0))) = g at h ⊢
  cases g
  · rfl
  · cases h

theorem s5_4 (h : S5_9 R x0 x1 x2 x3 x4 x5 x6 x7 x8 x9 x10 x11 = true) : S5_4 R x0 x1 x2 x3 x4 x5 x6 x7 x8 x9 x10 x11 = WS3_0_11 R x0 x1 x2 x3 x4 x5 x6 x7 x8 := by
  rw [w11]
  unfold S5_9 at h
  unfold S5_4 
  generalize R.bite _ (R.bc true) (R.bnot (R.fgt x11 (R.fc 0))) = g at h ⊢
  cases g
  · rfl
  · cases h

theorem s5_5 (h : S5_9 R x0 x1 x2 x3 x4 x5 x6 x7 x8 x9 x10 x11 = true) : S5_5 R x0 x1 x2 x3 x4 x5 x6 x7 x8 x9 x10 x11 = WS3_0_12 R x0 x1 x2 x3 x4 x5 x6 x7 x8 := by
  rw [w12]
  unfold S5_9 at h
  unfold S5_5 
  generalize R.bite _ (R.bc true) (R.bnot (R.fgt x11 (R.fc 0))) = g at h ⊢
  cases g
  · rfl
  · cases h

theorem s5_6 (h : S5_9 R x0 x1 x2 x3 x4 x5 x6 x7 x8 x9 x10 x11 = true) : S5_6 R x0 x1 x2 x3 x4 x5 x6 x7 x8 x9 x10 x11 = WS3_0_13 R x0 x1 x2 x3 x4 x5 x6 x7 x8 := by
  unfold WS3_0_13; rw [w11, w12, w2, w3]
  unfold S5_9 at h
  unfold S5_6 WS5_6_5 WS5_6_4 WS5_6_2 WS5_6_3 WS5_6_1 WS5_6_0
  generalize R.bite _ (R.bc true) (R.bnot (R.fgt x11 (R.fc 0))) = g at h ⊢
  cases g
  · rfl
  · cases h

theorem s5_7 (h : S5_9 R x0 x1 x2 x3 x4 x5 x6 x7 x8 x9 x10 x11 = true) : S5_7 R x0 x1 x2 x3 x4 x5 x6 x7 x8 x9 x10 x11 = WS3_0_15 R x0 x1 x2 x3 x4 x5 x6 x7 x8 := by
  unfold WS3_0_15; rw [w10, w12, w5, w3]
  unfold S5_9 at h
  unfold S5_7 WS5_7_5 WS5_7_4 WS5_7_2 WS5_7_3 WS5_7_1 WS5_7_0
  generalize R.bite _ (R.bc true) (R.bnot (R.fgt x11 (R.fc 0))) = g at h ⊢
  cases g
  · rfl
  · cases h

theorem s5_8 (h : S5_9 R x0 x1 x2 x3 x4 x5 x6 x7 x8 x9 x10 x11 = true) : S5_8 R x0 x1 x2 x3 x4 x5 x6 x7 x8 x9 x10 x11 = WS3_0_17 R x0 x1 x2 x3 x4 x5 x6 x7 x8 := by
  unfold WS3_0_17; rw [w10, w11, w5, w2]
  unfold S5_9 at h
  unfold S5_8 WS5_8_5 WS5_8_4 WS5_8_2 WS5_8_3 WS5_8_1 WS5_8_0
  generalize R.bite _ (R.bc true) (R.bnot (R.fgt x11 (R.fc 0))) = g at h ⊢
  cases g
  · rfl
  · cases h
end

theorem le0 (x : Fl) (h : S17_0 R x = true) : R.fle x (R.fc 0) = !(R.fgt x (R.fc 0)) := by
  obtain ⟨k, hk⟩ := (rnum_iff x).1 h
  obtain ⟨q, hq, _⟩ := fv_of_fin hk
  rw [fv_fle hq fv_zero, fv_fgt hq fv_zero]
  by_cases g : q ≤ 0
  · rw [decide_eq_true g, decide_eq_false (Rat.not_lt.2 g)]; rfl
  · rw [decide_eq_false g, decide_eq_true (Rat.not_le.1 g)]; rfl
theorem lt0 (x : Fl) (h : S17_0 R x = true) : R.flt x (R.fc 0) = !(R.fge x (R.fc 0)) := by
  obtain ⟨k, hk⟩ := (rnum_iff x).1 h
  obtain ⟨q, hq, _⟩ := fv_of_fin hk
  rw [fv_flt hq fv_zero, fv_fge hq fv_zero]
  by_cases g : q < 0
  · rw [decide_eq_true g, decide_eq_false (Rat.not_le.2 g)]; rfl
  · rw [decide_eq_false g, decide_eq_true (Rat.not_lt.1 g)]; rfl
theorem zero9 (x : Fl) (h : R.feq x (R.fc 0) = true) : R.fgt x (R.fc 0) = false := by
  obtain ⟨a, b, e1, e2, e3⟩ := (feq_iff _ _).1 h
  have e2' : fkey (cls 0) = some b := e2
  rw [fkey_zero] at e2'; cases e2'
  cases g : R.fgt x (R.fc 0) with
  | false => rfl
  | true =>
    obtain ⟨c, d, f1, f2, f3⟩ := (fgt_iff _ _).1 g
    have f2' : fkey (cls 0) = some d := f2
    rw [fkey_zero] at f2'; cases f2'
    rw [e1] at f1; cases f1
    omega

theorem chk (x0 x1 x2 x3 x4 x5 x6 x7 x8 x9 x10 x11 : Fl) : R.bite (R.bite (R.bite (R.bite (R.bite (R.band (R.feq x0 (R.fc 0)) (R.band (R.feq x1 (R.fc 0)) (R.band (R.feq x2 (R.fc 0)) (R.band (R.feq x3 (R.fc 0)) (R.band (R.feq x4 (R.fc 0)) (R.band (R.feq x5 (R.fc 0)) (R.band (R.feq x6 (R.fc 0)) (R.band (R.feq x7 (R.fc 0)) (R.band (R.feq x8 (R.fc 0)) (R.band (R.feq x9 (R.fc 0)) (R.band (R.feq x10 (R.fc 0)) (R.band (R.feq x11 (R.fc 0)) (R.bc true))))))))))))) (R.bc true) (R.bnot (R.bite (R.bite (R.bite (R.bite (R.bite (S21_0 R x9) (S21_0 R x10) (R.bc false)) (S21_0 R x11) (R.bc false)) (S22_0 R x0 x1 x2) (R.bc false)) (S22_0 R x3 x4 x5) (R.bc false)) (S22_0 R x6 x7 x8) (R.bc false)))) (R.bc true) (R.fle x9 (R.fc 0))) (R.bc true) (R.flt x10 (R.fc 0))) (R.bc true) (R.fle x11 (R.fc 0))) (R.bc true) (R.bite (R.bnot (S23_3 R (S24_0 R x3 x0) (S24_1 R x4 x1) (S24_2 R x5 x2))) (R.bc true) (R.bnot (S23_3 R (WS3_0_4 R x0 x1 x2 x3 x4 x5 x7 x8) (WS3_0_6 R x0 x1 x2 x3 x4 x5 x6 x8) (WS3_0_7 R x0 x1 x2 x3 x4 x5 x6 x7)))) = R.bnot (S5_9 R x0 x1 x2 x3 x4 x5 x6 x7 x8 x9 x10 x11) := by
  have z9 := zero9 x9
  have l9 := le0 x9
  have l10 := lt0 x10
  have l11 := le0 x11
  rw [w4, w6, w7, (unitE _ _ _).2.2.2, (unitE _ _ _).2.2.2, numberE, numberE, numberE, fin3, fin3, fin3, show S24_0 R x3 x0 = S19_0 R x3 x0 from rfl, show S24_1 R x4 x1 = S19_1 R x4 x1 from rfl, show S24_2 R x5 x2 = S19_2 R x5 x2 from rfl]
  unfold S5_9
  generalize S18_3 R (S19_0 R x3 x0) (S19_1 R x4 x1) (S19_2 R x5 x2) = p
  generalize S18_3 R _ _ _ = q
  generalize R.feq x0 (R.fc 0) = e0
  generalize R.feq x1 (R.fc 0) = e1
  generalize R.feq x2 (R.fc 0) = e2
  generalize R.feq x3 (R.fc 0) = e3
  generalize R.feq x4 (R.fc 0) = e4
  generalize R.feq x5 (R.fc 0) = e5
  generalize R.feq x6 (R.fc 0) = e6
  generalize R.feq x7 (R.fc 0) = e7
  generalize R.feq x8 (R.fc 0) = e8
  generalize R.feq x10 (R.fc 0) = e10
  generalize R.feq x11 (R.fc 0) = e11
  generalize hZ : R.band e0 (R.band e1 (R.band e2 (R.band e3 (R.band e4 (R.band e5 (R.band e6 (R.band e7 (R.band e8 (R.band (R.feq x9 (R.fc 0)) (R.band e10 (R.band e11 (R.bc true)))))))))))) = Z
  have hZ9 : Z = true → R.fgt x9 (R.fc 0) = false := by
    intro h
    apply z9
    rw [h] at hZ
    revert hZ
    generalize R.feq x9 (R.fc 0) = e9
    cases e9
    · cases e0 <;> cases e1 <;> cases e2 <;> cases e3 <;> cases e4 <;> cases e5 <;> cases e6 <;> cases e7 <;> cases e8 <;> exact fun h => h
    · exact fun _ => rfl
  clear hZ z9
  generalize S16_0 R x0 x1 x2 = f0
  generalize S16_0 R x3 x4 x5 = f1
  generalize S16_0 R x6 x7 x8 = f2
  generalize S17_0 R x9 = n9 at *
  generalize S17_0 R x10 = n10 at *
  generalize S17_0 R x11 = n11 at *
  generalize R.fle x9 (R.fc 0) = m9 at *
  generalize R.fgt x9 (R.fc 0) = g9 at *
  generalize R.flt x10 (R.fc 0) = m10 at *
  generalize R.fge x10 (R.fc 0) = g10 at *
  generalize R.fle x11 (R.fc 0) = m11 at *
  generalize R.fgt x11 (R.fc 0) = g11 at *
  cases f0
  case false => cases Z <;> cases n9 <;> cases n10 <;> cases n11 <;> rfl
  cases f1
  case false => cases Z <;> cases n9 <;> cases n10 <;> cases n11 <;> rfl
  cases f2
  case false => cases Z <;> cases n9 <;> cases n10 <;> cases n11 <;> rfl
  cases n9
  case false => cases Z <;> rfl
  cases n10
  case false => cases Z <;> rfl
  cases n11
  case false => cases Z <;> rfl
  rw [l9 rfl, l10 rfl, l11 rfl]
  cases Z
  case true =>
    rw [hZ9 rfl]
    cases p <;> cases q <;> rfl
  cases g9
  case false => cases p <;> cases q <;> rfl
  cases g10
  case false => cases p <;> cases q <;> rfl
  cases g11
  case false => cases p <;> cases q <;> rfl
  cases p <;> cases q <;> rfl

theorem minE (x12 x13 : Int) : R.zlt (R.zmin x12 x13) (R.zc 1) = R.bite (R.zlt x12 (R.zc 1)) (R.bc true) (R.zlt x13 (R.zc 1)) := by
  show decide ((if x13 < x12 then x13 else x12) < 1) = (if decide (x12 < 1) = true then true else decide (x13 < 1))
  by_cases h : x13 < x12
  · rw [if_pos h]
    by_cases g : x12 < 1
    · have : x13 < 1 := by omega
      simp [g, this]
    · simp [g]
  · rw [if_neg h]
    by_cases g : x12 < 1
    · simp [g]
    · have : ¬ x13 < 1 := by omega
      simp [g, this]
theorem maxE (x12 x13 : Int) : R.zlt (R.zc 8192) (R.zmax x12 x13) = R.bite (R.zlt (R.zc 8192) x12) (R.bc true) (R.zlt (R.zc 8192) x13) := by
  show decide (8192 < (if x13 > x12 then x13 else x12)) = (if decide (8192 < x12) = true then true else decide (8192 < x13))
  by_cases h : x13 > x12
  · rw [if_pos h]
    by_cases g : 8192 < x12
    · have : 8192 < x13 := by omega
      simp [g, this]
    · simp [g]
  · rw [if_neg h]
    by_cases g : 8192 < x12
    · simp [g]
    · have : ¬ 8192 < x13 := by omega
      simp [g, this]

theorem sameSelf (x : Fl) : S12_0 R x x = true := by
  unfold S12_0; cases R.feq x x <;> rfl
theorem isSelf (x y z : Fl) : S13_0 R x y z x y z = true := by
  unfold S13_0; rw [sameSelf, sameSelf, sameSelf]; rfl

theorem diskE (a b : Fl) : O28 R b = true ∧ O32 R b = true ∧ S28_0 R a b = S32_0 R a b ∧ S28_1 R a b = S32_1 R a b ∧ S28_2 R b = S32_2 R b := by
  obtain ⟨k1, k2, e1, e2, e3, _⟩ := sectorE b
  have hc : S43_0 R a = S45_0 R a := cleanE a
  refine ⟨k1, k2, ?_, ?_, ?_⟩
  · unfold S28_0 S32_0 S42_0; rw [hc, e1]
  · unfold S28_1 S32_1 S42_1; rw [hc, e2]
  · unfold S28_2 S32_2 S42_2; rw [e3]; exact fmul_comm _ _

set_option maxRecDepth 20000 in
theorem out0 (x0 x1 x2 x3 x4 x5 x6 x7 x8 x9 x10 x11 : Fl) (x12 x13 : Int) (x14 x15 x16 x17 : Fl) (h : S5_9 R x0 x1 x2 x3 x4 x5 x6 x7 x8 x9 x10 x11 = true) : (R.fite (R.bnot (R.fgt x10 (R.fc 0))) (R.fite (WS3_0_19 R x0 x1 x2 x3 x4 x5 x6 x7 x8 x9 x12 x13 x14 x15) (R.fc 0) x0) (R.fite (WS3_0_26 R x0 x1 x2 x3 x4 x5 x6 x7 x8 x9 x10 x11 x12 x13 x14 x15 x16 x17) (R.fc 0) (WS3_0_20 R x0 x1 x2 x3 x4 x5 x6 x7 x8 x10 x16 x17))) = (S11_0 R x0 x1 x2 x3 x4 x5 x6 x7 x8 x9 x10 x11 x12 x13 x14 x15 x16 x17) := by
  obtain ⟨_, _, d0, d1, d2⟩ := diskE x16 x17
  unfold S11_0 WS11_0_9 WS11_0_8 WS11_0_7 WS11_0_6 WS11_0_5 WS11_0_4 WS11_0_3 WS11_0_2 WS11_0_1 WS11_0_0
  rw [s5_0 x0 x1 x2 x3 x4 x5 x6 x7 x8 x9 x10 x11 h, s5_1 x0 x1 x2 x3 x4 x5 x6 x7 x8 x9 x10 x11 h, s5_2 x0 x1 x2 x3 x4 x5 x6 x7 x8 x9 x10 x11 h, s5_3 x0 x1 x2 x3 x4 x5 x6 x7 x8 x9 x10 x11 h, s5_4 x0 x1 x2 x3 x4 x5 x6 x7 x8 x9 x10 x11 h, s5_5 x0 x1 x2 x3 x4 x5 x6 x7 x8 x9 x10 x11 h, s5_6 x0 x1 x2 x3 x4 x5 x6 x7 x8 x9 x10 x11 h, s5_7 x0 x1 x2 x3 x4 x5 x6 x7 x8 x9 x10 x11 h, s5_8 x0 x1 x2 x3 x4 x5 x6 x7 x8 x9 x10 x11 h]
  rw [← d0, ← d1]
  unfold WS3_0_19 WS3_0_26 WS3_0_23 WS3_0_25 WS3_0_21
  repeat rw [(unitE _ _ _).2.2.2]
  cases R.fgt x10 (R.fc 0) <;> rfl

set_option maxRecDepth 20000 in
theorem out1 (x0 x1 x2 x3 x4 x5 x6 x7 x8 x9 x10 x11 : Fl) (x12 x13 : Int) (x14 x15 x16 x17 : Fl) (h : S5_9 R x0 x1 x2 x3 x4 x5 x6 x7 x8 x9 x10 x11 = true) : (R.fite (R.bnot (R.fgt x10 (R.fc 0))) (R.fite (WS3_0_19 R x0 x1 x2 x3 x4 x5 x6 x7 x8 x9 x12 x13 x14 x15) (R.fc 0) x1) (R.fite (WS3_0_26 R x0 x1 x2 x3 x4 x5 x6 x7 x8 x9 x10 x11 x12 x13 x14 x15 x16 x17) (R.fc 0) (WS3_0_22 R x0 x1 x2 x3 x4 x5 x6 x7 x8 x10 x16 x17))) = (S11_1 R x0 x1 x2 x3 x4 x5 x6 x7 x8 x9 x10 x11 x12 x13 x14 x15 x16 x17) := by
  obtain ⟨_, _, d0, d1, d2⟩ := diskE x16 x17
  unfold S11_1 WS11_1_9 WS11_1_8 WS11_1_7 WS11_1_6 WS11_1_5 WS11_1_4 WS11_1_3 WS11_1_2 WS11_1_1 WS11_1_0
  rw [s5_0 x0 x1 x2 x3 x4 x5 x6 x7 x8 x9 x10 x11 h, s5_1 x0 x1 x2 x3 x4 x5 x6 x7 x8 x9 x10 x11 h, s5_2 x0 x1 x2 x3 x4 x5 x6 x7 x8 x9 x10 x11 h, s5_3 x0 x1 x2 x3 x4 x5 x6 x7 x8 x9 x10 x11 h, s5_4 x0 x1 x2 x3 x4 x5 x6 x7 x8 x9 x10 x11 h, s5_5 x0 x1 x2 x3 x4 x5 x6 x7 x8 x9 x10 x11 h, s5_6 x0 x1 x2 x3 x4 x5 x6 x7 x8 x9 x10 x11 h, s5_7 x0 x1 x2 x3 x4 x5 x6 x7 x8 x9 x10 x11 h, s5_8 x0 x1 x2 x3 x4 x5 x6 x7 x8 x9 x10 x11 h]
  rw [← d0, ← d1]
  unfold WS3_0_19 WS3_0_26 WS3_0_23 WS3_0_25 WS3_0_21
  repeat rw [(unitE _ _ _).2.2.2]
  cases R.fgt x10 (R.fc 0) <;> rfl

set_option maxRecDepth 20000 in
theorem out2 (x0 x1 x2 x3 x4 x5 x6 x7 x8 x9 x10 x11 : Fl) (x12 x13 : Int) (x14 x15 x16 x17 : Fl) (h : S5_9 R x0 x1 x2 x3 x4 x5 x6 x7 x8 x9 x10 x11 = true) : (R.fite (R.bnot (R.fgt x10 (R.fc 0))) (R.fite (WS3_0_19 R x0 x1 x2 x3 x4 x5 x6 x7 x8 x9 x12 x13 x14 x15) (R.fc 0) x2) (R.fite (WS3_0_26 R x0 x1 x2 x3 x4 x5 x6 x7 x8 x9 x10 x11 x12 x13 x14 x15 x16 x17) (R.fc 0) (WS3_0_24 R x0 x1 x2 x3 x4 x5 x6 x7 x8 x10 x16 x17))) = (S11_2 R x0 x1 x2 x3 x4 x5 x6 x7 x8 x9 x10 x11 x12 x13 x14 x15 x16 x17) := by
  obtain ⟨_, _, d0, d1, d2⟩ := diskE x16 x17
  unfold S11_2 WS11_2_9 WS11_2_8 WS11_2_7 WS11_2_6 WS11_2_5 WS11_2_4 WS11_2_3 WS11_2_2 WS11_2_1 WS11_2_0
  rw [s5_0 x0 x1 x2 x3 x4 x5 x6 x7 x8 x9 x10 x11 h, s5_1 x0 x1 x2 x3 x4 x5 x6 x7 x8 x9 x10 x11 h, s5_2 x0 x1 x2 x3 x4 x5 x6 x7 x8 x9 x10 x11 h, s5_3 x0 x1 x2 x3 x4 x5 x6 x7 x8 x9 x10 x11 h, s5_4 x0 x1 x2 x3 x4 x5 x6 x7 x8 x9 x10 x11 h, s5_5 x0 x1 x2 x3 x4 x5 x6 x7 x8 x9 x10 x11 h, s5_6 x0 x1 x2 x3 x4 x5 x6 x7 x8 x9 x10 x11 h, s5_7 x0 x1 x2 x3 x4 x5 x6 x7 x8 x9 x10 x11 h, s5_8 x0 x1 x2 x3 x4 x5 x6 x7 x8 x9 x10 x11 h]
  rw [← d0, ← d1]
  unfold WS3_0_19 WS3_0_26 WS3_0_23 WS3_0_25 WS3_0_21
  repeat rw [(unitE _ _ _).2.2.2]
  cases R.fgt x10 (R.fc 0) <;> rfl

set_option maxRecDepth 20000 in
theorem out3 (x0 x1 x2 x3 x4 x5 x6 x7 x8 x9 x10 x11 : Fl) (x12 x13 : Int) (x14 x15 x16 x17 : Fl) (h : S5_9 R x0 x1 x2 x3 x4 x5 x6 x7 x8 x9 x10 x11 = true) : (R.fite (R.bnot (R.fgt x10 (R.fc 0))) (R.fite (WS3_0_19 R x0 x1 x2 x3 x4 x5 x6 x7 x8 x9 x12 x13 x14 x15) (R.fc 0) (S23_0 R (WS3_0_14 R x0 x1 x2 x3 x4 x5 x6 x7 x8 x9 x12 x13 x14 x15) (WS3_0_16 R x0 x1 x2 x3 x4 x5 x6 x7 x8 x9 x12 x13 x14 x15) (WS3_0_18 R x0 x1 x2 x3 x4 x5 x6 x7 x8 x9 x12 x13 x14 x15))) (R.fite (WS3_0_26 R x0 x1 x2 x3 x4 x5 x6 x7 x8 x9 x10 x11 x12 x13 x14 x15 x16 x17) (R.fc 0) (S23_0 R (WS3_0_21 R x0 x1 x2 x3 x4 x5 x6 x7 x8 x9 x10 x11 x12 x13 x14 x15 x16 x17) (WS3_0_23 R x0 x1 x2 x3 x4 x5 x6 x7 x8 x9 x10 x11 x12 x13 x14 x15 x16 x17) (WS3_0_25 R x0 x1 x2 x3 x4 x5 x6 x7 x8 x9 x10 x11 x12 x13 x14 x15 x16 x17)))) = (S11_3 R x0 x1 x2 x3 x4 x5 x6 x7 x8 x9 x10 x11 x12 x13 x14 x15 x16 x17) := by
  obtain ⟨_, _, d0, d1, d2⟩ := diskE x16 x17
  unfold S11_3 WS11_3_11 WS11_3_10 WS11_3_9 WS11_3_8 WS11_3_7 WS11_3_6 WS11_3_5 WS11_3_4 WS11_3_3 WS11_3_2 WS11_3_1 WS11_3_0
  rw [s5_0 x0 x1 x2 x3 x4 x5 x6 x7 x8 x9 x10 x11 h, s5_1 x0 x1 x2 x3 x4 x5 x6 x7 x8 x9 x10 x11 h, s5_2 x0 x1 x2 x3 x4 x5 x6 x7 x8 x9 x10 x11 h, s5_3 x0 x1 x2 x3 x4 x5 x6 x7 x8 x9 x10 x11 h, s5_4 x0 x1 x2 x3 x4 x5 x6 x7 x8 x9 x10 x11 h, s5_5 x0 x1 x2 x3 x4 x5 x6 x7 x8 x9 x10 x11 h, s5_6 x0 x1 x2 x3 x4 x5 x6 x7 x8 x9 x10 x11 h, s5_7 x0 x1 x2 x3 x4 x5 x6 x7 x8 x9 x10 x11 h, s5_8 x0 x1 x2 x3 x4 x5 x6 x7 x8 x9 x10 x11 h]
  rw [← d0, ← d1]
  unfold WS3_0_19 WS3_0_26 WS3_0_23 WS3_0_25 WS3_0_21
  repeat rw [(unitE _ _ _).2.2.2]
  repeat rw [(unitE _ _ _).1]
  cases R.fgt x10 (R.fc 0) <;> rfl

set_option maxRecDepth 20000 in
theorem out4 (x0 x1 x2 x3 x4 x5 x6 x7 x8 x9 x10 x11 : Fl) (x12 x13 : Int) (x14 x15 x16 x17 : Fl) (h : S5_9 R x0 x1 x2 x3 x4 x5 x6 x7 x8 x9 x10 x11 = true) : (R.fite (R.bnot (R.fgt x10 (R.fc 0))) (R.fite (WS3_0_19 R x0 x1 x2 x3 x4 x5 x6 x7 x8 x9 x12 x13 x14 x15) (R.fc 0) (S23_1 R (WS3_0_14 R x0 x1 x2 x3 x4 x5 x6 x7 x8 x9 x12 x13 x14 x15) (WS3_0_16 R x0 x1 x2 x3 x4 x5 x6 x7 x8 x9 x12 x13 x14 x15) (WS3_0_18 R x0 x1 x2 x3 x4 x5 x6 x7 x8 x9 x12 x13 x14 x15))) (R.fite (WS3_0_26 R x0 x1 x2 x3 x4 x5 x6 x7 x8 x9 x10 x11 x12 x13 x14 x15 x16 x17) (R.fc 0) (S23_1 R (WS3_0_21 R x0 x1 x2 x3 x4 x5 x6 x7 x8 x9 x10 x11 x12 x13 x14 x15 x16 x17) (WS3_0_23 R x0 x1 x2 x3 x4 x5 x6 x7 x8 x9 x10 x11 x12 x13 x14 x15 x16 x17) (WS3_0_25 R x0 x1 x2 x3 x4 x5 x6 x7 x8 x9 x10 x11 x12 x13 x14 x15 x16 x17)))) = (S11_4 R x0 x1 x2 x3 x4 x5 x6 x7 x8 x9 x10 x11 x12 x13 x14 x15 x16 x17) := by
  obtain ⟨_, _, d0, d1, d2⟩ := diskE x16 x17
  unfold S11_4 WS11_4_11 WS11_4_10 WS11_4_9 WS11_4_8 WS11_4_7 WS11_4_6 WS11_4_5 WS11_4_4 WS11_4_3 WS11_4_2 WS11_4_1 WS11_4_0
  rw [s5_0 x0 x1 x2 x3 x4 x5 x6 x7 x8 x9 x10 x11 h, s5_1 x0 x1 x2 x3 x4 x5 x6 x7 x8 x9 x10 x11 h, s5_2 x0 x1 x2 x3 x4 x5 x6 x7 x8 x9 x10 x11 h, s5_3 x0 x1 x2 x3 x4 x5 x6 x7 x8 x9 x10 x11 h, s5_4 x0 x1 x2 x3 x4 x5 x6 x7 x8 x9 x10 x11 h, s5_5 x0 x1 x2 x3 x4 x5 x6 x7 x8 x9 x10 x11 h, s5_6 x0 x1 x2 x3 x4 x5 x6 x7 x8 x9 x10 x11 h, s5_7 x0 x1 x2 x3 x4 x5 x6 x7 x8 x9 x10 x11 h, s5_8 x0 x1 x2 x3 x4 x5 x6 x7 x8 x9 x10 x11 h]
  rw [← d0, ← d1]
  unfold WS3_0_19 WS3_0_26 WS3_0_23 WS3_0_25 WS3_0_21
  repeat rw [(unitE _ _ _).2.2.2]
  repeat rw [(unitE _ _ _).2.1]
  cases R.fgt x10 (R.fc 0) <;> rfl

set_option maxRecDepth 20000 in
theorem out5 (x0 x1 x2 x3 x4 x5 x6 x7 x8 x9 x10 x11 : Fl) (x12 x13 : Int) (x14 x15 x16 x17 : Fl) (h : S5_9 R x0 x1 x2 x3 x4 x5 x6 x7 x8 x9 x10 x11 = true) : (R.fite (R.bnot (R.fgt x10 (R.fc 0))) (R.fite (WS3_0_19 R x0 x1 x2 x3 x4 x5 x6 x7 x8 x9 x12 x13 x14 x15) (R.fc 0) (S23_2 R (WS3_0_14 R x0 x1 x2 x3 x4 x5 x6 x7 x8 x9 x12 x13 x14 x15) (WS3_0_16 R x0 x1 x2 x3 x4 x5 x6 x7 x8 x9 x12 x13 x14 x15) (WS3_0_18 R x0 x1 x2 x3 x4 x5 x6 x7 x8 x9 x12 x13 x14 x15))) (R.fite (WS3_0_26 R x0 x1 x2 x3 x4 x5 x6 x7 x8 x9 x10 x11 x12 x13 x14 x15 x16 x17) (R.fc 0) (S23_2 R (WS3_0_21 R x0 x1 x2 x3 x4 x5 x6 x7 x8 x9 x10 x11 x12 x13 x14 x15 x16 x17) (WS3_0_23 R x0 x1 x2 x3 x4 x5 x6 x7 x8 x9 x10 x11 x12 x13 x14 x15 x16 x17) (WS3_0_25 R x0 x1 x2 x3 x4 x5 x6 x7 x8 x9 x10 x11 x12 x13 x14 x15 x16 x17)))) = (S11_5 R x0 x1 x2 x3 x4 x5 x6 x7 x8 x9 x10 x11 x12 x13 x14 x15 x16 x17) := by
  obtain ⟨_, _, d0, d1, d2⟩ := diskE x16 x17
  unfold S11_5 WS11_5_11 WS11_5_10 WS11_5_9 WS11_5_8 WS11_5_7 WS11_5_6 WS11_5_5 WS11_5_4 WS11_5_3 WS11_5_2 WS11_5_1 WS11_5_0
  rw [s5_0 x0 x1 x2 x3 x4 x5 x6 x7 x8 x9 x10 x11 h, s5_1 x0 x1 x2 x3 x4 x5 x6 x7 x8 x9 x10 x11 h, s5_2 x0 x1 x2 x3 x4 x5 x6 x7 x8 x9 x10 x11 h, s5_3 x0 x1 x2 x3 x4 x5 x6 x7 x8 x9 x10 x11 h, s5_4 x0 x1 x2 x3 x4 x5 x6 x7 x8 x9 x10 x11 h, s5_5 x0 x1 x2 x3 x4 x5 x6 x7 x8 x9 x10 x11 h, s5_6 x0 x1 x2 x3 x4 x5 x6 x7 x8 x9 x10 x11 h, s5_7 x0 x1 x2 x3 x4 x5 x6 x7 x8 x9 x10 x11 h, s5_8 x0 x1 x2 x3 x4 x5 x6 x7 x8 x9 x10 x11 h]
  rw [← d0, ← d1]
  unfold WS3_0_19 WS3_0_26 WS3_0_23 WS3_0_25 WS3_0_21
  repeat rw [(unitE _ _ _).2.2.2]
  repeat rw [(unitE _ _ _).2.2.1]
  cases R.fgt x10 (R.fc 0) <;> rfl

set_option maxRecDepth 20000 in
theorem out6 (x0 x1 x2 x3 x4 x5 x6 x7 x8 x9 x10 x11 : Fl) (x12 x13 : Int) (x14 x15 x16 x17 : Fl) (h : S5_9 R x0 x1 x2 x3 x4 x5 x6 x7 x8 x9 x10 x11 = true) : (R.fite (R.bnot (R.fgt x10 (R.fc 0))) (R.fite (WS3_0_19 R x0 x1 x2 x3 x4 x5 x6 x7 x8 x9 x12 x13 x14 x15) (R.fc 0) (R.fc 4607182418800017408)) (R.fite (WS3_0_26 R x0 x1 x2 x3 x4 x5 x6 x7 x8 x9 x10 x11 x12 x13 x14 x15 x16 x17) (R.fc 0) (R.fdiv (R.fc 4607182418800017408) (R.fmul (R.fc 4614256656552045848) (S28_2 R x17))))) = (S11_6 R x0 x1 x2 x3 x4 x5 x6 x7 x8 x9 x10 x11 x12 x13 x14 x15 x16 x17) := by
  obtain ⟨_, _, d0, d1, d2⟩ := diskE x16 x17
  unfold S11_6 WS11_6_8 WS11_6_7 WS11_6_6 WS11_6_5 WS11_6_4 WS11_6_3 WS11_6_2 WS11_6_1 WS11_6_0
  rw [s5_0 x0 x1 x2 x3 x4 x5 x6 x7 x8 x9 x10 x11 h, s5_1 x0 x1 x2 x3 x4 x5 x6 x7 x8 x9 x10 x11 h, s5_2 x0 x1 x2 x3 x4 x5 x6 x7 x8 x9 x10 x11 h, s5_3 x0 x1 x2 x3 x4 x5 x6 x7 x8 x9 x10 x11 h, s5_4 x0 x1 x2 x3 x4 x5 x6 x7 x8 x9 x10 x11 h, s5_5 x0 x1 x2 x3 x4 x5 x6 x7 x8 x9 x10 x11 h, s5_6 x0 x1 x2 x3 x4 x5 x6 x7 x8 x9 x10 x11 h, s5_7 x0 x1 x2 x3 x4 x5 x6 x7 x8 x9 x10 x11 h, s5_8 x0 x1 x2 x3 x4 x5 x6 x7 x8 x9 x10 x11 h]
  rw [← d0, ← d1, ← d2]
  unfold WS3_0_19 WS3_0_26 WS3_0_23 WS3_0_25 WS3_0_21
  repeat rw [(unitE _ _ _).2.2.2]
  cases R.fgt x10 (R.fc 0) <;> rfl

set_option maxRecDepth 20000 in
theorem out7 (x0 x1 x2 x3 x4 x5 x6 x7 x8 x9 x10 x11 : Fl) (x12 x13 : Int) (x14 x15 x16 x17 : Fl) (h : S5_9 R x0 x1 x2 x3 x4 x5 x6 x7 x8 x9 x10 x11 = true) : (R.bite (R.bnot (R.fgt x10 (R.fc 0))) (R.bite (WS3_0_19 R x0 x1 x2 x3 x4 x5 x6 x7 x8 x9 x12 x13 x14 x15) (R.bc false) (R.bc true)) (R.bite (WS3_0_26 R x0 x1 x2 x3 x4 x5 x6 x7 x8 x9 x10 x11 x12 x13 x14 x15 x16 x17) (R.bc false) (R.bc true))) = (S11_7 R x0 x1 x2 x3 x4 x5 x6 x7 x8 x9 x10 x11 x12 x13 x14 x15 x16 x17) := by
  obtain ⟨_, _, d0, d1, d2⟩ := diskE x16 x17
  unfold S11_7 WS11_7_8 WS11_7_7 WS11_7_6 WS11_7_5 WS11_7_4 WS11_7_3 WS11_7_2 WS11_7_1 WS11_7_0
  rw [s5_0 x0 x1 x2 x3 x4 x5 x6 x7 x8 x9 x10 x11 h, s5_1 x0 x1 x2 x3 x4 x5 x6 x7 x8 x9 x10 x11 h, s5_2 x0 x1 x2 x3 x4 x5 x6 x7 x8 x9 x10 x11 h, s5_3 x0 x1 x2 x3 x4 x5 x6 x7 x8 x9 x10 x11 h, s5_4 x0 x1 x2 x3 x4 x5 x6 x7 x8 x9 x10 x11 h, s5_5 x0 x1 x2 x3 x4 x5 x6 x7 x8 x9 x10 x11 h, s5_6 x0 x1 x2 x3 x4 x5 x6 x7 x8 x9 x10 x11 h, s5_7 x0 x1 x2 x3 x4 x5 x6 x7 x8 x9 x10 x11 h, s5_8 x0 x1 x2 x3 x4 x5 x6 x7 x8 x9 x10 x11 h]
  rw [← d0, ← d1]
  unfold WS3_0_19 WS3_0_26 WS3_0_23 WS3_0_25 WS3_0_21
  repeat rw [(unitE _ _ _).2.2.2]
  cases R.fgt x10 (R.fc 0) <;> rfl

theorem law_CamRays (x0 x1 x2 x3 x4 x5 x6 x7 x8 x9 x10 x11 : Fl) (x12 x13 : Int) (x14 x15 x16 x17 : Fl) (_k12 : okInt .i64 x12) (_k13 : okInt .i64 x13) : O3 R x0 x1 x2 x3 x4 x5 x6 x7 x8 x9 x10 x11 x12 x13 x17 = true ∧ S3_0 R x0 x1 x2 x3 x4 x5 x6 x7 x8 x9 x10 x11 x12 x13 x14 x15 x16 x17 = true := by
  have hc := chk x0 x1 x2 x3 x4 x5 x6 x7 x8 x9 x10 x11
  have hmin := minE x12 x13
  have hmax := maxE x12 x13
  obtain ⟨b1, b2, _⟩ := diskE x16 x17
  have oc : (R.bite (R.bnot (S23_3 R (S24_0 R x3 x0) (S24_1 R x4 x1) (S24_2 R x5 x2))) (R.bc true) (R.bnot (S23_3 R (S25_0 R (WO3_0 R x0 x1 x2 x3 x4 x5) (WO3_1 R x0 x1 x2 x3 x4 x5) x7 x8) (S25_1 R (WO3_2 R x0 x1 x2 x3 x4 x5) (WO3_1 R x0 x1 x2 x3 x4 x5) x6 x8) (S25_2 R (WO3_2 R x0 x1 x2 x3 x4 x5) (WO3_0 R x0 x1 x2 x3 x4 x5) x6 x7)))) = (R.bite (R.bnot (S23_3 R (S24_0 R x3 x0) (S24_1 R x4 x1) (S24_2 R x5 x2))) (R.bc true) (R.bnot (S23_3 R (WS3_0_4 R x0 x1 x2 x3 x4 x5 x7 x8) (WS3_0_6 R x0 x1 x2 x3 x4 x5 x6 x8) (WS3_0_7 R x0 x1 x2 x3 x4 x5 x6 x7)))) := rfl
  have o11 : O11 R x10 x17 = true := by unfold O11; rw [b2]; cases R.fgt x10 (R.fc 0) <;> rfl
  cases h : S5_9 R x0 x1 x2 x3 x4 x5 x6 x7 x8 x9 x10 x11 with
  | false =>
    have w0 : WS3_0_0 R x0 x1 x2 x3 x4 x5 x6 x7 x8 x9 x10 x11 x12 x13 = true := by unfold WS3_0_0; rw [h]; rfl
    have w1 : WS3_0_1 R x0 x1 x2 x3 x4 x5 x6 x7 x8 x9 x10 x11 x12 x13 = true := by unfold WS3_0_1; rw [w0]; rfl
    rw [h] at hc
    constructor
    · unfold O3
      rw [oc]
      generalize hC1 : (R.bite (R.bite (R.bite (R.bite (R.band (R.feq x0 (R.fc 0)) (R.band (R.feq x1 (R.fc 0)) (R.band (R.feq x2 (R.fc 0)) (R.band (R.feq x3 (R.fc 0)) (R.band (R.feq x4 (R.fc 0)) (R.band (R.feq x5 (R.fc 0)) (R.band (R.feq x6 (R.fc 0)) (R.band (R.feq x7 (R.fc 0)) (R.band (R.feq x8 (R.fc 0)) (R.band (R.feq x9 (R.fc 0)) (R.band (R.feq x10 (R.fc 0)) (R.band (R.feq x11 (R.fc 0)) (R.bc true))))))))))))) (R.bc true) (R.bnot (R.bite (R.bite (R.bite (R.bite (R.bite (S21_0 R x9) (S21_0 R x10) (R.bc false)) (S21_0 R x11) (R.bc false)) (S22_0 R x0 x1 x2) (R.bc false)) (S22_0 R x3 x4 x5) (R.bc false)) (S22_0 R x6 x7 x8) (R.bc false)))) (R.bc true) (R.fle x9 (R.fc 0))) (R.bc true) (R.flt x10 (R.fc 0))) (R.bc true) (R.fle x11 (R.fc 0))) = c1 at hc
      generalize hC2 : (R.bite (R.bnot (S23_3 R (S24_0 R x3 x0) (S24_1 R x4 x1) (S24_2 R x5 x2))) (R.bc true) (R.bnot (S23_3 R (WS3_0_4 R x0 x1 x2 x3 x4 x5 x7 x8) (WS3_0_6 R x0 x1 x2 x3 x4 x5 x6 x8) (WS3_0_7 R x0 x1 x2 x3 x4 x5 x6 x7)))) = c2 at hc
      have w0' := w0
      unfold WS3_0_0 at w0'
      rw [w0']
      generalize R.band _ (O11 R x10 x17) = g
      generalize R.bite (R.zlt (R.zmin x12 x13) (R.zc 1)) _ _ = sz
      cases sz <;> cases c1 <;> cases c2 <;> first | rfl | cases hc
    · unfold S3_0 WS3_0_29
      rw [w1]
      generalize hC1 : (R.bite (R.bite (R.bite (R.bite (R.band (R.feq x0 (R.fc 0)) (R.band (R.feq x1 (R.fc 0)) (R.band (R.feq x2 (R.fc 0)) (R.band (R.feq x3 (R.fc 0)) (R.band (R.feq x4 (R.fc 0)) (R.band (R.feq x5 (R.fc 0)) (R.band (R.feq x6 (R.fc 0)) (R.band (R.feq x7 (R.fc 0)) (R.band (R.feq x8 (R.fc 0)) (R.band (R.feq x9 (R.fc 0)) (R.band (R.feq x10 (R.fc 0)) (R.band (R.feq x11 (R.fc 0)) (R.bc true))))))))))))) (R.bc true) (R.bnot (R.bite (R.bite (R.bite (R.bite (R.bite (S21_0 R x9) (S21_0 R x10) (R.bc false)) (S21_0 R x11) (R.bc false)) (S22_0 R x0 x1 x2) (R.bc false)) (S22_0 R x3 x4 x5) (R.bc false)) (S22_0 R x6 x7 x8) (R.bc false)))) (R.bc true) (R.fle x9 (R.fc 0))) (R.bc true) (R.flt x10 (R.fc 0))) (R.bc true) (R.fle x11 (R.fc 0))) = c1 at hc
      generalize hC2 : (R.bite (R.bnot (S23_3 R (S24_0 R x3 x0) (S24_1 R x4 x1) (S24_2 R x5 x2))) (R.bc true) (R.bnot (S23_3 R (WS3_0_4 R x0 x1 x2 x3 x4 x5 x7 x8) (WS3_0_6 R x0 x1 x2 x3 x4 x5 x6 x8) (WS3_0_7 R x0 x1 x2 x3 x4 x5 x6 x7)))) = c2 at hc
      generalize R.bite (R.zlt (R.zmin x12 x13) (R.zc 1)) _ _ = sz
      cases sz <;> cases c1 <;> cases c2 <;> first | rfl | cases hc
  | true =>
    rw [h] at hc
    constructor
    · unfold O3
      rw [oc, b1, o11]
      generalize R.bite _ (R.bc true) (R.bnot (S23_3 R _ _ _)) = c2
      generalize R.bite (R.bite _ (R.bc true) (R.flt x10 (R.fc 0))) (R.bc true) (R.fle x11 (R.fc 0)) = c1
      generalize R.bite (R.zlt (R.zmin x12 x13) (R.zc 1)) _ _ = sz
      generalize R.bite _ (R.bc true) (R.zlt (R.zc 8192) x13) = s2
      cases R.fgt x10 (R.fc 0) <;> cases sz <;> cases c1 <;> cases c2 <;> cases s2 <;> rfl
    · have w28 : WS3_0_28 R x0 x1 x2 x3 x4 x5 x6 x7 x8 x9 x10 x11 x12 x13 x14 x15 x16 x17 = true := by
        unfold WS3_0_28 WS3_0_27
        rw [out0 _ _ _ _ _ _ _ _ _ _ _ _ _ _ _ _ _ _ h, out1 _ _ _ _ _ _ _ _ _ _ _ _ _ _ _ _ _ _ h, out2 _ _ _ _ _ _ _ _ _ _ _ _ _ _ _ _ _ _ h, out3 _ _ _ _ _ _ _ _ _ _ _ _ _ _ _ _ _ _ h, out4 _ _ _ _ _ _ _ _ _ _ _ _ _ _ _ _ _ _ h, out5 _ _ _ _ _ _ _ _ _ _ _ _ _ _ _ _ _ _ h, out6 _ _ _ _ _ _ _ _ _ _ _ _ _ _ _ _ _ _ h]
        rw [show WS3_0_8 R x9 x12 x13 x14 = S9_0 R x9 x12 x13 x14 from rfl, show WS3_0_9 R x9 x13 x15 = S9_1 R x9 x13 x15 from rfl, sameSelf, sameSelf, isSelf, isSelf, sameSelf]
        rfl
      have bs : ∀ b : Bool, R.beq b b = true := fun b => by cases b <;> rfl
      unfold S3_0 WS3_0_29
      rw [w28, out7 _ _ _ _ _ _ _ _ _ _ _ _ _ _ _ _ _ _ h, bs]
      unfold WS3_0_1
      generalize hC1 : (R.bite (R.bite (R.bite (R.bite (R.band (R.feq x0 (R.fc 0)) (R.band (R.feq x1 (R.fc 0)) (R.band (R.feq x2 (R.fc 0)) (R.band (R.feq x3 (R.fc 0)) (R.band (R.feq x4 (R.fc 0)) (R.band (R.feq x5 (R.fc 0)) (R.band (R.feq x6 (R.fc 0)) (R.band (R.feq x7 (R.fc 0)) (R.band (R.feq x8 (R.fc 0)) (R.band (R.feq x9 (R.fc 0)) (R.band (R.feq x10 (R.fc 0)) (R.band (R.feq x11 (R.fc 0)) (R.bc true))))))))))))) (R.bc true) (R.bnot (R.bite (R.bite (R.bite (R.bite (R.bite (S21_0 R x9) (S21_0 R x10) (R.bc false)) (S21_0 R x11) (R.bc false)) (S22_0 R x0 x1 x2) (R.bc false)) (S22_0 R x3 x4 x5) (R.bc false)) (S22_0 R x6 x7 x8) (R.bc false)))) (R.bc true) (R.fle x9 (R.fc 0))) (R.bc true) (R.flt x10 (R.fc 0))) (R.bc true) (R.fle x11 (R.fc 0))) = c1 at hc
      generalize hC2 : (R.bite (R.bnot (S23_3 R (S24_0 R x3 x0) (S24_1 R x4 x1) (S24_2 R x5 x2))) (R.bc true) (R.bnot (S23_3 R (WS3_0_4 R x0 x1 x2 x3 x4 x5 x7 x8) (WS3_0_6 R x0 x1 x2 x3 x4 x5 x6 x8) (WS3_0_7 R x0 x1 x2 x3 x4 x5 x6 x7)))) = c2 at hc
      rw [hmin, hmax]
      unfold WS3_0_0
      rw [h]
      cases c1
      · cases c2
        · cases R.zlt x12 (R.zc 1) <;> cases R.zlt x13 (R.zc 1) <;> cases R.zlt (R.zc 8192) x12 <;> cases R.zlt (R.zc 8192) x13 <;> rfl
        · cases hc
      · cases hc

end Go.Proofs.Ytaidgkokaeojhaa
