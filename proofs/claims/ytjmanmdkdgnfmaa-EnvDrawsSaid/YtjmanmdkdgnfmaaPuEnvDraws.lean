/- The law EnvDraws over rows and floats alone. -/
import Derived.Test.YtjmanmdkdgnfmaaPuEnvLooks
namespace Go.Proofs.Ytjmanmdkdgnfmaa
open Go.Ev

theorem cleanE (a : Fl) : S38_0 R a = S21_0 R a := clean_eq a

theorem cleanVal (a : Fl) : ∃ q, fv (S21_0 R a) q ∧ 0 ≤ q ∧ q < 1 := by
  rw [← cleanE]
  unfold S38_0
  cases h1 : R.fge a (R.fc 0) with
  | false => exact ⟨0, fv_zero, by decide, by decide⟩
  | true =>
    cases h2 : R.flt a (R.fc 4607182418800017408) with
    | false => exact ⟨0, fv_zero, by decide, by decide⟩
    | true => exact unit_val h1 h2

theorem eightVal (a : Fl) : ∃ w k, fv (R.fmul (S21_0 R a) (R.fc 4620693217682128896)) w ∧ flint (R.fmul (S21_0 R a) (R.fc 4620693217682128896)) = some k ∧ 0 ≤ k ∧ k ≤ 7 ∧ ((k : Int) : Rat) ≤ w ∧ w < ((k + 1 : Int) : Rat) := by
  obtain ⟨c, hc, c0, c1⟩ := cleanVal a
  obtain ⟨w, hw, rw'⟩ := mul_val hc fv_eight (by grind) (by grind)
  have h8 : repQ (c * 8) := by
    have a1 := repQ_twice (fv_rep hc) ⟨by grind, by grind⟩
    have a2 := repQ_twice a1 ⟨by grind, by grind⟩
    have a3 := repQ_twice a2 ⟨by grind, by grind⟩
    have e : 2 * (2 * (2 * c)) = c * 8 := by grind
    rw [e] at a3
    exact a3
  have ew := rw'.exact h8
  have f1 := Rat.floor_le w
  have f2 := Rat.lt_floor_add_one w
  have k0 : 0 ≤ w.floor := Rat.le_floor_iff.2 (by show (((0 : Int)) : Rat) ≤ w; rw [show ((0 : Int) : Rat) = 0 from rfl]; grind)
  have k7 : w.floor < 8 := Rat.floor_lt_iff.2 (by show w < ((8 : Int) : Rat); rw [show ((8 : Int) : Rat) = 8 from rfl]; grind)
  exact ⟨w, w.floor, hw, fv_trunc hw k0 f1 f2, k0, by omega, f1, f2⟩


theorem loop9 {W : Fl} {w : Rat} (hw : fv W w) {k : Nat} (k7 : k ≤ 7) (g1 : ((k : Nat) : Rat) ≤ w) (g2 : w < ((k + 1 : Nat) : Rat)) : E9 R W (R.zc 0) = true ∧ L9 R W (R.zc 0) = [.z (k : Int)] := by
  refine ends_path (step := G9 R W) (p := [.z (R.zc 0)]) (fun j => [.z (j : Int)]) k rfl (fun j hj => ?_) ?_
  · have a := suc (i := j) (by omega)
    have b : R.zlt (j : Int) (R.zc 7) = true := zltT (show (j : Int) < 7 by omega)
    have c : R.fle (R.i2f ((j + 1 : Nat) : Int)) W = true := by
      rw [fv_fle (fv_nat (k := j + 1) (by omega)) hw]
      have : ((j + 1 : Nat) : Rat) ≤ ((k : Nat) : Rat) := Rat.natCast_le_natCast.2 (by omega)
      exact decide_eq_true (Rat.le_trans this g1)
    show (C9 R W (j : Int), O9_ R, [PV.z (N9_0 R (j : Int))]) = _
    unfold C9 O9_ N9_0
    rw [a, b, c]; rfl
  · show C9 R W (k : Int) = false
    unfold C9
    by_cases e : k = 7
    · rw [zltF (show ¬ (k : Int) < R.zc 7 from show ¬ (k : Int) < 7 by omega)]; rfl
    · have c : R.fle (R.i2f ((k + 1 : Nat) : Int)) W = false := by
        rw [fv_fle (fv_nat (k := k + 1) (by omega)) hw]
        exact decide_eq_false (Rat.not_le.2 g2)
      rw [suc (by omega), c]; cases R.zlt (k : Int) (R.zc 7) <;> rfl

/-- The sector of a draw: the same, asked either way; its direction by what is left of the draw. -/
theorem sectorE (a : Fl) : O41 R a = true ∧ O44 R a = true ∧ S41_0 R a = S44_0 R a ∧ S41_1 R a = S44_1 R a ∧
    ∃ F f C S, fv F f ∧ 0 ≤ f ∧ f ≤ 1 ∧
      C = R.fdiv (R.fc 4607182418800017408) (R.fsqrt (R.fadd (R.fc 4607182418800017408) (R.fmul F F))) ∧ S = R.fdiv F (R.fsqrt (R.fadd (R.fc 4607182418800017408) (R.fmul F F))) ∧
      ((S44_0 R a = C ∧ S44_1 R a = S) ∨ (S44_0 R a = S ∧ S44_1 R a = C) ∨ (S44_0 R a = R.fsub (R.fc 0) S ∧ S44_1 R a = C) ∨ (S44_0 R a = R.fsub (R.fc 0) C ∧ S44_1 R a = S) ∨
       (S44_0 R a = R.fsub (R.fc 0) C ∧ S44_1 R a = R.fsub (R.fc 0) S) ∨ (S44_0 R a = R.fsub (R.fc 0) S ∧ S44_1 R a = R.fsub (R.fc 0) C) ∨ (S44_0 R a = S ∧ S44_1 R a = R.fsub (R.fc 0) C) ∨ (S44_0 R a = C ∧ S44_1 R a = R.fsub (R.fc 0) S)) := by
  obtain ⟨w, k, hw, hk, k0, k7, g1, g2⟩ := eightVal a
  obtain ⟨j, rfl⟩ : ∃ j : Nat, k = (j : Int) := ⟨k.toNat, by omega⟩
  have g2' : w < ((j + 1 : Nat) : Rat) := g2
  have g1' : ((j : Nat) : Rat) ≤ w := g1
  obtain ⟨l1, l2⟩ := loop9 hw (k := j) (by omega) g1' g2'
  have c8 : R.fmul (R.fc 4620693217682128896) (S21_0 R a) = R.fmul (S21_0 R a) (R.fc 4620693217682128896) := fmul_comm _ _
  have hc : S38_0 R a = S21_0 R a := cleanE a
  generalize hW : R.fmul (S21_0 R a) (R.fc 4620693217682128896) = W at *
  have h0 : WS44_0_0 R a = W := c8
  have h1 : WS44_1_0 R a = W := c8
  have m0 : WS44_0_1 R a = [.z (j : Int)] := by unfold WS44_0_1; rw [h0]; exact l2
  have m1 : WS44_1_1 R a = [.z (j : Int)] := by unfold WS44_1_1; rw [h1]; exact l2
  have n0 : WS41_0_0 R a = W := by unfold WS41_0_0; rw [hc, hW]
  have n1 : WS41_1_0 R a = W := by unfold WS41_1_0; rw [hc, hW]
  have o1 : O44 R a = true := by unfold O44; rw [c8]; exact l1
  have hi : R.f2i .i64 W = (j : Int) := by show (flint W).getD 0 = _; rw [hk]; rfl
  have hok : R.f2iok .i64 W = true := by
    show (match flint W with | some n => decide (IntKind.i64.min ≤ n ∧ n ≤ IntKind.i64.max) | none => false) = true
    rw [hk]
    have a : IntKind.i64.min = -9223372036854775808 := by decide
    have b : IntKind.i64.max = 9223372036854775807 := by decide
    simp only [a, b, decide_eq_true_eq]
    omega
  have hF : ∃ f, fv (R.fsub W (R.i2f (j : Int))) f ∧ 0 ≤ f ∧ f ≤ 1 := by
    have e1 : ((j + 1 : Nat) : Rat) = ((j : Nat) : Rat) + 1 := by rw [Rat.natCast_add]; rfl
    have j7 : ((j : Nat) : Rat) ≤ ((7 : Nat) : Rat) := Rat.natCast_le_natCast.2 (by omega)
    have j0 : (0 : Rat) ≤ ((j : Nat) : Rat) := Rat.natCast_nonneg
    have s7 : ((7 : Nat) : Rat) = 7 := rfl
    obtain ⟨f, hf, rf⟩ := sub_val hw (fv_nat (k := j) (by omega)) (by grind) (by grind)
    exact ⟨f, hf, rf.ge 0 (fv_rep fv_zero) (by grind), rf.le 1 (fv_rep fv_one) (by grind)⟩
  obtain ⟨f, hf, f0, f1⟩ := hF
  have o2 : O41 R a = true := by
    unfold O41
    rw [hc, hW, hi, hok]
    have cases8 : j = 0 ∨ j = 1 ∨ j = 2 ∨ j = 3 ∨ j = 4 ∨ j = 5 ∨ j = 6 ∨ j = 7 := by omega
    rcases cases8 with rfl | rfl | rfl | rfl | rfl | rfl | rfl | rfl <;> rfl
  refine ⟨o2, o1, ?_⟩
  unfold S41_0 S41_1 S44_0 S44_1 WS41_0_1 WS41_1_1 WS41_0_4 WS41_0_5 WS41_1_4 WS41_1_5 WS41_0_3 WS41_1_3 WS41_0_2 WS41_1_2 WS44_0_4 WS44_1_4 WS44_0_3 WS44_1_3 WS44_0_2 WS44_1_2
  rw [h0, h1, m0, m1, n0, n1, hi]
  have cases8 : j = 0 ∨ j = 1 ∨ j = 2 ∨ j = 3 ∨ j = 4 ∨ j = 5 ∨ j = 6 ∨ j = 7 := by omega
  rcases cases8 with rfl | rfl | rfl | rfl | rfl | rfl | rfl | rfl
  · exact ⟨rfl, rfl, _, f, _, _, hf, f0, f1, rfl, rfl, .inl ⟨rfl, rfl⟩⟩
  · exact ⟨rfl, rfl, _, f, _, _, hf, f0, f1, rfl, rfl, .inr (.inl ⟨rfl, rfl⟩)⟩
  · exact ⟨rfl, rfl, _, f, _, _, hf, f0, f1, rfl, rfl, .inr (.inr (.inl ⟨rfl, rfl⟩))⟩
  · exact ⟨rfl, rfl, _, f, _, _, hf, f0, f1, rfl, rfl, .inr (.inr (.inr (.inl ⟨rfl, rfl⟩)))⟩
  · exact ⟨rfl, rfl, _, f, _, _, hf, f0, f1, rfl, rfl, .inr (.inr (.inr (.inr (.inl ⟨rfl, rfl⟩))))⟩
  · exact ⟨rfl, rfl, _, f, _, _, hf, f0, f1, rfl, rfl, .inr (.inr (.inr (.inr (.inr (.inl ⟨rfl, rfl⟩)))))⟩
  · exact ⟨rfl, rfl, _, f, _, _, hf, f0, f1, rfl, rfl, .inr (.inr (.inr (.inr (.inr (.inr (.inl ⟨rfl, rfl⟩))))))⟩
  · exact ⟨rfl, rfl, _, f, _, _, hf, f0, f1, rfl, rfl, .inr (.inr (.inr (.inr (.inr (.inr (.inr ⟨rfl, rfl⟩))))))⟩

/-- What 1, and what is left, come to by the root: a direction of length 1, nearly. -/
theorem turnVal {F : Fl} {f : Rat} (hf : fv F f) (f0 : 0 ≤ f) (f1 : f ≤ 1) : ∃ q d c s, fv (R.fadd (R.fc 4607182418800017408) (R.fmul F F)) q ∧ fv (R.fsqrt (R.fadd (R.fc 4607182418800017408) (R.fmul F F))) d ∧
    fv (R.fdiv (R.fc 4607182418800017408) (R.fsqrt (R.fadd (R.fc 4607182418800017408) (R.fmul F F)))) c ∧ fv (R.fdiv F (R.fsqrt (R.fadd (R.fc 4607182418800017408) (R.fmul F F)))) s ∧
    1 ≤ q ∧ q ≤ 2 ∧ (1 + f * f - 1 / 281474976710656 ≤ q ∧ q ≤ 1 + f * f + 1 / 281474976710656) ∧ 1 ≤ d ∧ d ≤ 3 / 2 ∧ (1 - 1 / 281474976710656 ≤ c * d ∧ c * d ≤ 1 + 1 / 281474976710656) ∧ (f - 1 / 281474976710656 ≤ s * d ∧ s * d ≤ f + 1 / 281474976710656) ∧
    0 ≤ c ∧ c ≤ 1 ∧ 0 ≤ s ∧ s ≤ 1 ∧ 1 / 2 ≤ c ∧ (1 - 1 / 1099511627776 / 8 ≤ c * c + s * s ∧ c * c + s * s ≤ 1 + 1 / 1099511627776 / 8) := by
  obtain ⟨ff0, ff1⟩ := mul_abs (show -1 ≤ f by grind) f1 (show -1 ≤ f by grind) f1
  have ffn : 0 ≤ f * f := Rat.mul_nonneg f0 f0
  obtain ⟨p, hp, rp⟩ := mul_val hf hf (by grind) (by grind)
  have p0 : 0 ≤ p := rp.ge 0 (fv_rep fv_zero) ffn
  have p1 : p ≤ 1 := rp.le 1 (fv_rep fv_one) (by grind)
  have pn := rp.near4 (by grind) (by grind)
  obtain ⟨q, hq, rq⟩ := add_val fv_one hp (by grind) (by grind)
  have q1 : 1 ≤ q := rq.ge 1 (fv_rep fv_one) (by grind)
  have q2 : q ≤ 2 := rq.le 2 (fv_rep fv_two) (by grind)
  have qn := rq.near4 (by grind) (by grind)
  obtain ⟨d, hd, sd⟩ := sqrt_val hq (by grind) (by grind)
  have d1 : 1 ≤ d := sd.ge 1 (fv_rep fv_one) (by decide) (by grind)
  have threehalf : repQ (3 / 2) := fv_rep (fvc (b := 4609434218613702656) (e := -52) 1022 52 (3 / 2) (by decide +kernel : f64.read 4609434218613702656 = .number false 6755399441055744 (-52)) (by decide) (by decide) (by decide +kernel))
  have d2 : d ≤ 3 / 2 := sd.le (3 / 2) threehalf (by grind) (by grind)
  have dn := sd.near
  have e50 : pw 50 = 1125899906842624 := by unfold pw; rw [show (2 : Nat) ^ 50 = 1125899906842624 by decide]; rfl
  rw [e50] at dn
  have dpos : 0 < d := by grind
  have dne : d ≠ 0 := by grind
  have ec : 1 / d * d = 1 := Rat.div_mul_cancel dne
  have es : f / d * d = f := Rat.div_mul_cancel dne
  have c0' : 0 ≤ 1 / d := Rat.le_of_mul_le_mul_right (by rw [Rat.zero_mul, ec]; decide) dpos
  have c1' : 1 / d ≤ 1 := Rat.le_of_mul_le_mul_right (by rw [ec, Rat.one_mul]; exact d1) dpos
  have s0' : 0 ≤ f / d := Rat.le_of_mul_le_mul_right (by rw [Rat.zero_mul, es]; exact f0) dpos
  have s1' : f / d ≤ 1 := Rat.le_of_mul_le_mul_right (by rw [es, Rat.one_mul]; grind) dpos
  have chalf : 1 / 2 ≤ 1 / d := Rat.le_of_mul_le_mul_right (by rw [ec]; grind) dpos
  obtain ⟨c, hc, rc⟩ := div_val fv_one hd dne (by grind) (by grind)
  obtain ⟨s, hs, rs⟩ := div_val hf hd dne (by grind) (by grind)
  have c0 : 0 ≤ c := rc.ge 0 (fv_rep fv_zero) c0'
  have c1 : c ≤ 1 := rc.le 1 (fv_rep fv_one) c1'
  have s0 : 0 ≤ s := rs.ge 0 (fv_rep fv_zero) s0'
  have s1 : s ≤ 1 := rs.le 1 (fv_rep fv_one) s1'
  have ch : 1 / 2 ≤ c := rc.ge (1 / 2) (fv_rep fv_half) chalf
  have cn := rc.near4 (by grind) (by grind)
  have sn := rs.near4 (by grind) (by grind)
  have t1 := mul_abs (u := c - 1 / d) (a := 1 / 562949953421312) (v := d) (b := 3 / 2) (by grind) (by grind) (by grind) d2
  have t2 := mul_abs (u := s - f / d) (a := 1 / 562949953421312) (v := d) (b := 3 / 2) (by grind) (by grind) (by grind) d2
  have cd : 1 - 1 / 281474976710656 ≤ c * d ∧ c * d ≤ 1 + 1 / 281474976710656 := by constructor <;> grind
  have sdd : f - 1 / 281474976710656 ≤ s * d ∧ s * d ≤ f + 1 / 281474976710656 := by constructor <;> grind
  have k1 := sq_near (x := c * d) (y := 1) (e := 1 / 281474976710656) (by grind) (by grind) (by grind) (by grind) (by grind) (by grind)
  have k2 := sq_near (x := s * d) (y := f) (e := 1 / 281474976710656) (by grind) (by grind) (by grind) f1 (by grind) (by grind)
  refine ⟨q, d, c, s, hq, hd, hc, hs, q1, q2, ⟨by grind, by grind⟩, d1, d2, cd, sdd, c0, c1, s0, s1, ch, ?_⟩
  -- (c c + s s) d d is nearly 1 + f f, which is nearly d d
  have dd1 : 1 ≤ d * d := by
    have := Rat.mul_le_mul_of_nonneg_right d1 (Rat.le_of_lt dpos)
    grind
  have ddp : 0 < d * d := Rat.mul_pos dpos dpos
  have e1 : (c * c + s * s) * (d * d) = c * d * (c * d) + s * d * (s * d) := by grind
  constructor
  · refine Rat.le_of_mul_le_mul_right (c := d * d) ?_ ddp
    rw [e1]
    generalize c * d * (c * d) = u at *
    generalize s * d * (s * d) = v at *
    generalize d * d = z at *
    grind
  · refine Rat.le_of_mul_le_mul_right (c := d * d) ?_ ddp
    rw [e1]
    generalize c * d * (c * d) = u at *
    generalize s * d * (s * d) = v at *
    generalize d * d = z at *
    grind

theorem negVal {x : Fl} {p : Rat} (h : fv x p) (h1 : -1024 ≤ p) (h2 : p ≤ 1024) : fv (R.fsub (R.fc 0) x) (-p) := by
  obtain ⟨r, hr, rr⟩ := sub_val fv_zero h (by grind) (by grind)
  have : r = -p := by
    have := rr.exact (by rw [show (0 : Rat) - p = -p by grind]; exact repQ_neg (fv_rep h))
    grind
  rw [← this]
  exact hr


/-- The direction of a draw, by what it is worth. -/
theorem sectorVal (a : Fl) : ∃ x y, fv (S44_0 R a) x ∧ fv (S44_1 R a) y ∧ -1 ≤ x ∧ x ≤ 1 ∧ -1 ≤ y ∧ y ≤ 1 := by
  obtain ⟨_, _, _, _, F, f, C, S, hf, f0, f1, hC, hS, hxy⟩ := sectorE a
  obtain ⟨q, d, c, s, hq, _, hc, hs, q1, q2, _, _, _, _, _, c0, c1, s0, s1, _, n1, n2⟩ := turnVal hf f0 f1
  rw [← hC] at hc
  rw [← hS] at hs
  have nc := negVal hc (by grind) (by grind)
  have ns := negVal hs (by grind) (by grind)
  rcases hxy with ⟨e1, e2⟩ | ⟨e1, e2⟩ | ⟨e1, e2⟩ | ⟨e1, e2⟩ | ⟨e1, e2⟩ | ⟨e1, e2⟩ | ⟨e1, e2⟩ | ⟨e1, e2⟩ <;> rw [e1, e2]
  · exact ⟨c, s, hc, hs, by grind, by grind, by grind, by grind⟩
  · exact ⟨s, c, hs, hc, by grind, by grind, by grind, by grind⟩
  · exact ⟨-s, c, ns, hc, by grind, by grind, by grind, by grind⟩
  · exact ⟨-c, s, nc, hs, by grind, by grind, by grind, by grind⟩
  · exact ⟨-c, -s, nc, ns, by grind, by grind, by grind, by grind⟩
  · exact ⟨-s, -c, ns, nc, by grind, by grind, by grind, by grind⟩
  · exact ⟨s, -c, hs, nc, by grind, by grind, by grind, by grind⟩
  · exact ⟨c, -s, hc, ns, by grind, by grind, by grind, by grind⟩

theorem cap {S : Int} (h : S ≤ 1073741824) (h0 : 0 ≤ S) {k : Nat} (hk : k ≤ 1024) : (k : Int) * S ≤ 1099511627776 := by
  calc (k : Int) * S ≤ 1024 * 1073741824 := Int.mul_le_mul (by omega) h h0 (by decide)
    _ = 1099511627776 := by decide

/-- The draw, such as it is taken. -/
noncomputable def clean (x : Fl) : Fl := R.fite (R.bnot (R.bite (R.fge x (R.fc 0)) (R.flt x (R.fc 4607182418800017408)) (R.bc false))) (R.fc 0) x

theorem clean_val (x : Fl) : ∃ p, fv (clean x) p ∧ 0 ≤ p ∧ p ≤ 1 := by
  unfold clean
  cases h1 : R.fge x (R.fc 0) with
  | false => exact ⟨0, fv_zero, Rat.le_refl, by decide⟩
  | true =>
    cases h2 : R.flt x (R.fc 4607182418800017408) with
    | false => exact ⟨0, fv_zero, Rat.le_refl, by decide⟩
    | true =>
      obtain ⟨q, a, b, c⟩ := unit_val h1 h2
      exact ⟨q, a, b, Rat.le_of_lt c⟩

theorem cleanS (x : Fl) : S21_0 R x = clean x := by
  unfold S21_0 clean
  obtain ⟨k1, hk1⟩ : ∃ k, fkey (R.fc 4607182418800017408) = some k := ⟨_, key_one.1⟩
  have hk0 : fkey (R.fc 0) = some 0 := fkey_zero
  cases hk : fkey x with
  | none =>
    have a : R.fge x (R.fc 0) = false := by
      cases h : R.fge x (R.fc 0) with
      | false => rfl
      | true => obtain ⟨a, b, h1, _⟩ := (fge_iff _ _).1 h; rw [hk] at h1; cases h1
    have b : R.feq x x = false := by
      cases h : R.feq x x with
      | false => rfl
      | true => obtain ⟨a, b, h1, _⟩ := (feq_iff _ _).1 h; rw [hk] at h1; cases h1
    rw [a, b]
    cases R.flt x (R.fc 0) <;> cases R.fge x (R.fc 4607182418800017408) <;> rfl
  | some k =>
    have c : R.feq x x = true := (feq_iff _ _).2 ⟨k, k, hk, hk, rfl⟩
    have a : R.fge x (R.fc 0) = !R.flt x (R.fc 0) := by
      cases h : R.flt x (R.fc 0) with
      | true =>
        obtain ⟨p, q, h1, h2, h3⟩ := (flt_iff _ _).1 h
        cases g : R.fge x (R.fc 0) with
        | false => rfl
        | true =>
          obtain ⟨p', q', g1, g2, g3⟩ := (fge_iff _ _).1 g
          rw [h1] at g1; cases g1; rw [h2] at g2; cases g2; omega
      | false =>
        by_cases hk' : k < 0
        · have := (flt_iff x (R.fc 0)).2 ⟨k, 0, hk, hk0, hk'⟩
          have h' : R.flt x (R.fc 0) = true := this
          rw [h] at h'; cases h'
        · exact (fge_iff x (R.fc 0)).2 ⟨k, 0, hk, hk0, by omega⟩
    have b : R.flt x (R.fc 4607182418800017408) = !R.fge x (R.fc 4607182418800017408) := by
      cases h : R.fge x (R.fc 4607182418800017408) with
      | true =>
        obtain ⟨p, q, h1, h2, h3⟩ := (fge_iff _ _).1 h
        cases g : R.flt x (R.fc 4607182418800017408) with
        | false => rfl
        | true =>
          obtain ⟨p', q', g1, g2, g3⟩ := (flt_iff _ _).1 g
          rw [h1] at g1; cases g1; rw [h2] at g2; cases g2; omega
      | false =>
        by_cases hk' : k < k1
        · exact (flt_iff x (R.fc 4607182418800017408)).2 ⟨k, k1, hk, hk1, hk'⟩
        · have := (fge_iff x (R.fc 4607182418800017408)).2 ⟨k, k1, hk, hk1, by omega⟩
          have h' : R.fge x (R.fc 4607182418800017408) = true := this
          rw [h] at h'; cases h'
    rw [a, b, c]
    cases R.flt x (R.fc 0) <;> cases R.fge x (R.fc 4607182418800017408) <;> rfl

/-- The number that a draw gives of so many. -/
theorem draw_num {x : Fl} {M : Nat} (hM : M ≤ 1099511627776) : ∃ k : Nat, flint (R.fmul (clean x) (R.i2f (M : Int))) = some (k : Int) ∧ k ≤ M := by
  obtain ⟨p, hp, p0, p1⟩ := clean_val x
  have hq := fv_nat hM
  have m0 : (0 : Rat) ≤ (M : Rat) := Rat.natCast_nonneg
  have mb : (M : Rat) ≤ 1099511627776 := by
    have : (M : Rat) ≤ ((1099511627776 : Nat) : Rat) := Rat.natCast_le_natCast.2 hM
    exact this
  have v0 : 0 ≤ p * (M : Rat) := Rat.mul_nonneg p0 m0
  have v1 : p * (M : Rat) ≤ (M : Rat) := by
    have := Rat.mul_le_mul_of_nonneg_right p1 m0
    rw [Rat.one_mul] at this
    exact this
  obtain ⟨r, hr, hrn⟩ := fv_mul hp hq (by have := pw_pos 1000; generalize pw 1000 = z at *; grind) (Rat.le_trans v1 (Rat.le_trans mb pw_more))
  have r0 : 0 ≤ r := hrn.ge 0 (fv_rep fv_zero) v0
  have r1 : r ≤ (M : Rat) := hrn.le (M : Rat) (fv_rep hq) v1
  obtain ⟨a, ha, ea⟩ := hr
  have a0 : 0 ≤ a := by
    have : (0 : Rat) ≤ (a : Rat) := by rw [← ea]; exact Rat.mul_nonneg r0 (Rat.le_of_lt (pw_pos _))
    exact Rat.intCast_nonneg.1 this
  have e := flint_nonneg ha a0
  have pp : ∀ n : Nat, (0 : Int) < ((2 ^ n : Nat) : Int) := fun n => Int.natCast_pos.2 (Nat.two_pow_pos n)
  have pp := pp 1074
  have pq := pw_int 1074
  generalize ((2 ^ 1074 : Nat) : Int) = P at *
  have a1 : a ≤ (M : Int) * P := by
    have h : (a : Rat) ≤ (((M : Int) * P : Int) : Rat) := by
      rw [← ea, Rat.intCast_mul, pq]
      exact Rat.mul_le_mul_of_nonneg_right r1 (Rat.le_of_lt (pw_pos _))
    exact Rat.intCast_le_intCast.1 h
  have d0 : 0 ≤ a / P := Int.ediv_nonneg a0 (by omega)
  have d1 : a / P ≤ (M : Int) := by
    have := Int.ediv_le_ediv pp a1
    rw [Int.mul_ediv_cancel _ (by omega)] at this
    exact this
  exact ⟨(a / P).toNat, by rw [e]; congr 1; omega, by omega⟩

theorem zremN {a b : Int} (h : 0 ≤ a) : R.zrem .i64 a b = a % b := Int.tmod_eq_emod_of_nonneg h

section
variable {n : Nat} {S : Int} {W : Vals} {s : St}

/-- What a number means. -/
noncomputable def meant (S : Int) (t : Row) (u : Int) : Int := R.zite (R.zlt (R.zrem .i64 u S) (R.lz t (R.zquo .i64 u S) 0)) (R.zquo .i64 u S) (R.lz t (R.zquo .i64 u S) 1)

theorem meant_ok (h : Wts n S W) (v : Inv n S W s) (hg : go s = false) {u : Int} (h0 : 0 ≤ u) (h1 : u < (n : Int) * S) :
    (∃ i : Nat, R.zquo .i64 u S = (i : Int) ∧ i < n) ∧ ∃ j : Nat, meant S (mk2 n s.T s.A) u = (j : Int) ∧ j < n ∧ 0 < W j := by
  have hp := h.pos
  have htop := h.top
  have hn := h.n2
  have hub : (n : Int) * S ≤ 1099511627776 := cap htop (by omega) hn
  have hq : R.zquo .i64 u S = u / S := zquo64 ⟨h0, by omega, by omega⟩
  have d0 : 0 ≤ u / S := Int.ediv_nonneg h0 (by omega)
  have d1 : u / S < (n : Int) := Int.ediv_lt_of_lt_mul hp h1
  obtain ⟨i, hi⟩ : ∃ i : Nat, u / S = (i : Int) := ⟨(u / S).toNat, by omega⟩
  have hin : i < n := by omega
  refine ⟨⟨i, hq.trans hi, hin⟩, ?_⟩
  have r0 : 0 ≤ u % S := Int.emod_nonneg u (by omega)
  have r1 : u % S < S := Int.emod_lt_of_pos u hp
  obtain ⟨t0, t1, a0, a1⟩ := v.rng i hin
  have cn : ∀ j k, k < n → 0 ≤ (fun i => if s.A i = (j : Int) then S - s.T i else 0) k := fun j k hk => by
    have := v.rng k hk
    show 0 ≤ if s.A k = (j : Int) then S - s.T k else 0
    split <;> omega
  unfold meant
  rw [hq, hi, zremN h0, mk2_at0 _ _ hin, mk2_at1 _ _ hin]
  by_cases e : u % S < s.T i
  · refine ⟨i, by rw [zltT e]; rfl, hin, ?_⟩
    have hf := v.fin hg i hin
    have := sm_nonneg (f := fun k => if s.A k = (i : Int) then S - s.T k else 0) (n := n) (cn i)
    by_cases hw : 0 < W i
    · exact hw
    · have : W i = 0 := by have := (h.w i hin).1; omega
      rw [this] at hf; omega
  · obtain ⟨j, hj⟩ : ∃ j : Nat, s.A i = (j : Int) := ⟨(s.A i).toNat, by omega⟩
    have hjn : j < n := by omega
    refine ⟨j, by rw [zltF e]; exact hj, hjn, ?_⟩
    have hf := v.fin hg j hjn
    have hg1 := sm_ge (f := fun k => if s.A k = (j : Int) then S - s.T k else 0) (n := n) (cn j) i hin
    simp only [hj, if_true] at hg1
    have := (v.rng j hjn).1
    by_cases hw : 0 < W j
    · exact hw
    · have hw0 : W j = 0 := by have := (h.w j hjn).1; omega
      rw [hw0] at hf; omega

end

theorem zlt_not_zle (a b : Int) : R.zle a b = !R.zlt b a := by
  by_cases e : a ≤ b
  · rw [zleT e, zltF (by omega)]; rfl
  · rw [zleF e, zltT (by omega)]; rfl

/-- The number that a draw gives, at most the last one. -/
noncomputable def numOf (x : Fl) (M : Int) : Int := R.zmin (R.f2i .i64 (R.fmul (clean x) (R.i2f M))) (R.zsub .i64 M (R.zc 1))

theorem numOf_ok (x : Fl) {M : Nat} (h0 : 1 ≤ M) (h1 : M ≤ 1099511627776) : R.f2iok .i64 (R.fmul (clean x) (R.i2f (M : Int))) = true ∧ 0 ≤ numOf x (M : Int) ∧ numOf x (M : Int) < (M : Int) ∧
    S22_0 R (R.f2i .i64 (R.fmul (clean x) (R.i2f (M : Int)))) (R.zsub .i64 (M : Int) (R.zc 1)) = numOf x (M : Int) := by
  obtain ⟨k, hk, hkM⟩ := draw_num (x := x) h1
  have e1 : R.f2i .i64 (R.fmul (clean x) (R.i2f (M : Int))) = (k : Int) := by show (flint _).getD 0 = _; rw [hk]; rfl
  have e2 : R.zsub .i64 (M : Int) (R.zc 1) = (M : Int) - 1 := zsub64 (x := (M : Int)) (y := 1) ⟨by omega, by omega⟩
  have e3 : R.f2iok .i64 (R.fmul (clean x) (R.i2f (M : Int))) = true := by
    show (match flint (R.fmul (clean x) (R.i2f (M : Int))) with | some n => decide (IntKind.i64.min ≤ n ∧ n ≤ IntKind.i64.max) | none => false) = true
    rw [hk]
    have hmin : IntKind.i64.min = -9223372036854775808 := by decide
    have hmax : IntKind.i64.max = 9223372036854775807 := by decide
    exact decide_eq_true (by rw [hmin, hmax]; omega)
  have e4 : numOf x (M : Int) = if (M : Int) - 1 < (k : Int) then (M : Int) - 1 else (k : Int) := by unfold numOf; rw [e1, e2]
  refine ⟨e3, ?_, ?_, ?_⟩
  · rw [e4]; split <;> omega
  · rw [e4]; split <;> omega
  · rw [e4]
    unfold S22_0
    rw [e1, e2]
    by_cases h : (k : Int) < (M : Int) - 1
    · rw [zltT h, if_neg (by omega)]; rfl
    · rw [zltF h]
      show (M : Int) - 1 = _
      split <;> omega

theorem none_ok (x : Fl) : R.f2iok .i64 (R.fmul (clean x) (R.i2f (R.zc 0))) = true := by
  obtain ⟨k, hk, hkM⟩ := draw_num (x := x) (M := 0) (by omega)
  show (match flint (R.fmul (clean x) (R.i2f (0 : Int))) with | some n => decide (IntKind.i64.min ≤ n ∧ n ≤ IntKind.i64.max) | none => false) = true
  have hk' : flint (R.fmul (clean x) (R.i2f (0 : Int))) = some (k : Int) := hk
  rw [hk']
  have hmin : IntKind.i64.min = -9223372036854775808 := by decide
  have hmax : IntKind.i64.max = 9223372036854775807 := by decide
  exact decide_eq_true (by rw [hmin, hmax]; omega)

/-- The height of a draw in a zone, and how far it is from the middle. -/
theorem heightE {q z : Nat} (h1 : q + 1 ≤ z) (h2 : z ≤ 16) (a : Fl) : ∃ u v, fv (R.fsub (R.fc 4607182418800017408) (R.fmul (R.fc 4611686018427387904) (R.fdiv (R.fadd (R.i2f (q : Int)) (S21_0 R a)) (R.i2f (z : Int))))) u ∧
    (∀ Q : Fl, Q = R.fsub (R.fc 4607182418800017408) (R.fmul (R.fsub (R.fc 4607182418800017408) (R.fmul (R.fc 4611686018427387904) (R.fdiv (R.fadd (R.i2f (q : Int)) (S21_0 R a)) (R.i2f (z : Int))))) (R.fsub (R.fc 4607182418800017408) (R.fmul (R.fc 4611686018427387904) (R.fdiv (R.fadd (R.i2f (q : Int)) (S21_0 R a)) (R.i2f (z : Int)))))) →
      fv (S39_0 R (R.fite (R.flt Q (R.fc 0)) (R.fc 0) Q)) v) ∧ 0 ≤ v ∧ v ≤ 1 := by
  obtain ⟨c, hc, c0, c1⟩ := cleanVal a
  have hq := fv_nat (k := q) (by omega)
  have hz := fv_nat (k := z) (by omega)
  have q0 : (0 : Rat) ≤ (q : Rat) := Rat.natCast_nonneg
  have q1 : (q : Rat) + 1 ≤ (z : Rat) := by
    have : ((q + 1 : Nat) : Rat) ≤ (z : Rat) := Rat.natCast_le_natCast.2 h1
    rw [Rat.natCast_add] at this
    exact this
  have z16 : (z : Rat) ≤ 16 := by
    have : (z : Rat) ≤ ((16 : Nat) : Rat) := Rat.natCast_le_natCast.2 h2
    exact this
  have zpos : (0 : Rat) < (z : Rat) := by grind
  obtain ⟨s, hs, rs⟩ := add_val hq hc (by grind) (by grind)
  have s0 : 0 ≤ s := rs.ge 0 (fv_rep fv_zero) (by grind)
  have s1 : s ≤ (z : Rat) := rs.le _ (fv_rep hz) (by grind)
  have es : s / (z : Rat) * (z : Rat) = s := Rat.div_mul_cancel (Rat.ne_of_gt zpos)
  have d0' : 0 ≤ s / (z : Rat) := Rat.le_of_mul_le_mul_right (by rw [Rat.zero_mul, es]; exact s0) zpos
  have d1' : s / (z : Rat) ≤ 1 := Rat.le_of_mul_le_mul_right (by rw [es, Rat.one_mul]; exact s1) zpos
  obtain ⟨d, hd, rd⟩ := div_val hs hz (Rat.ne_of_gt zpos) (by grind) (by grind)
  have d0 : 0 ≤ d := rd.ge 0 (fv_rep fv_zero) d0'
  have d1 : d ≤ 1 := rd.le 1 (fv_rep fv_one) d1'
  obtain ⟨t, ht, rt⟩ := mul_val fv_two hd (by grind) (by grind)
  have t0 : 0 ≤ t := rt.ge 0 (fv_rep fv_zero) (by grind)
  have t1 : t ≤ 2 := rt.le 2 (fv_rep fv_two) (by grind)
  obtain ⟨u, hu, ru⟩ := sub_val fv_one ht (by grind) (by grind)
  have u0 : -1 ≤ u := ru.ge (-1) (repQ_neg (fv_rep fv_one)) (by grind)
  have u1 : u ≤ 1 := ru.le 1 (fv_rep fv_one) (by grind)
  obtain ⟨m1, m2⟩ := mul_abs u0 u1 u0 u1
  have m0 : 0 ≤ u * u := by
    by_cases h : 0 ≤ u
    · exact Rat.mul_nonneg h h
    · have := Rat.mul_nonneg (a := -u) (b := -u) (by grind) (by grind)
      grind
  obtain ⟨w, hw, rw'⟩ := mul_val hu hu (by grind) (by grind)
  have w0 : 0 ≤ w := rw'.ge 0 (fv_rep fv_zero) m0
  have w1 : w ≤ 1 := rw'.le 1 (fv_rep fv_one) (by grind)
  obtain ⟨y, hy, ry⟩ := sub_val fv_one hw (by grind) (by grind)
  have y0 : 0 ≤ y := ry.ge 0 (fv_rep fv_zero) (by grind)
  have y1 : y ≤ 1 := ry.le 1 (fv_rep fv_one) (by grind)
  obtain ⟨v, hv, sv⟩ := sqrt_val hy y0 (by grind)
  refine ⟨u, v, hu, fun Q hQ => ?_, sv.nonneg, sv.le 1 (fv_rep fv_one) (by decide) (by grind)⟩
  rw [← hQ] at hy hv
  have : R.flt Q (R.fc 0) = false := by rw [fv_flt hy fv_zero]; exact decide_eq_false (Rat.not_lt.2 y0)
  rw [this]
  exact hv

/-- Where a sector is asked, of two ways of reckoning. -/
theorem atE (k : Nat) (hk : k ≤ 7) (a : Fl) : R.fite (R.flt (R.fadd (R.i2f (k : Int)) (S21_0 R a)) (R.fadd (R.i2f (k : Int)) (R.fc 4607182418800017408))) (R.fmul (R.fadd (R.i2f (k : Int)) (S21_0 R a)) (R.fc 4593671619917905920)) (R.fmul (R.i2f (k : Int)) (R.fc 4593671619917905920)) =
    R.fmul (R.fite (R.fge (R.fadd (R.i2f (k : Int)) (S21_0 R a)) (R.fadd (R.i2f (k : Int)) (R.fc 4607182418800017408))) (R.i2f (k : Int)) (R.fadd (R.i2f (k : Int)) (S21_0 R a))) (R.fc 4593671619917905920) := by
  obtain ⟨c, hc, c0, c1⟩ := cleanVal a
  have hq := fv_nat (k := k) (by omega)
  have q0 : (0 : Rat) ≤ (k : Rat) := Rat.natCast_nonneg
  have q1 : (k : Rat) ≤ 7 := by
    have : (k : Rat) ≤ ((7 : Nat) : Rat) := Rat.natCast_le_natCast.2 hk
    exact this
  obtain ⟨s, hs, _⟩ := add_val hq hc (by grind) (by grind)
  obtain ⟨t, ht, _⟩ := add_val hq fv_one (by grind) (by grind)
  rw [fv_flt hs ht, fv_fge hs ht]
  by_cases e : s < t
  · rw [decide_eq_true e, decide_eq_false (Rat.not_le.2 e)]; rfl
  · rw [decide_eq_false e, decide_eq_true (Rat.not_lt.1 e)]; rfl

theorem self_of {x : Fl} {q : Rat} (h : fv x q) : R.feq x x = true := fv_num h

theorem law_EnvDraws (x0 : Int) (x1 : Row) (x2 x3 x4 : Fl) (_k0 : okInt .i64 x0) (_k1 : okRow [.f, .f, .f] x1) : O5 R x0 x1 x2 x3 x4 = true ∧ S5_0 R x0 x1 x2 x3 x4 = true := by
  have ow := aw_O7
  have sw := aw_S7_0
  obtain ⟨n, hlen⟩ : ∃ n, x1.length = n := ⟨_, rfl⟩
  have len : R.llen x1 = (n : Int) := by show ((x1.length : Nat) : Int) = _; rw [hlen]
  cases h0 : WS5_0_0 R x0 x1 with
  | true =>
    have o0 : WO5_0 R x0 x1 = true := h0
    have o3 : WO5_3 R x0 x1 = true := by unfold WO5_3; rw [o0]; rfl
    constructor
    · unfold O5; rw [o0, o3, ow]; rfl
    · unfold S5_0; rw [h0, sw]; rfl
  | false =>
    have o0 : WO5_0 R x0 x1 = false := h0
    obtain ⟨z, rfl, z1, z2, hz8⟩ := shapeE (n := n) (x0 := x0) (by rw [← len]; exact h0)
    have hn : n ≤ 1024 := by omega
    obtain ⟨m, m1, m2, m3⟩ := firstDark x1 n
    obtain ⟨c1, c2⟩ := cellsE hn m1 m2 m3
    obtain ⟨y1, y2⟩ := mayE hn m1 m2 m3
    obtain ⟨g1, g2⟩ := weightsE (x := x1) hn
    have s1 : WS5_0_1 R x1 = [.b false, .z (m : Int)] := by unfold WS5_0_1; rw [len]; exact y2
    have o1 : WO5_1 R x1 = true := by unfold WO5_1; rw [len]; exact y1
    have o2 : WO5_2 R x1 = [.b false, .z (m : Int)] := s1
    by_cases hmn : m < n
    · have q1 : R.zlt (nthZ ([.b false, .z (m : Int)] : List (PD R)) 1) (n : Int) = true := zltT (show (m : Int) < (n : Int) by omega)
      have o3 : WO5_3 R (z : Int) x1 = true := by unfold WO5_3; rw [o0, o2, len, q1]; rfl
      constructor
      · unfold O5; rw [o0, o1, o3, ow]; rfl
      · unfold S5_0; rw [h0, s1, len, q1, sw]; rfl
    have hm : m = n := by omega
    subst hm
    have nn : R.zlt (m : Int) (m : Int) = false := zltF (by omega)
    have q1 : R.zlt (nthZ ([.b false, .z (m : Int)] : List (PD R)) 1) (m : Int) = false := nn
    have q2 : R.zlt (nthZ ([.l (mk1 m (wAt x1)), .z 0, .z (m : Int)] : List (PD R)) 2) (m : Int) = false := nn
    have o3 : WO5_3 R (z : Int) x1 = false := by unfold WO5_3; rw [o0, o2, len, q1]; rfl
    have hfine := wAt_fine x1 m
    have hnum : Num (mk1 m (wAt x1)) (wAt x1) m := fun i hi => mk1_at _ hi
    obtain ⟨t1, t2⟩ := totE (w := mk1 m (wAt x1)) (n := m) (m := m) (by omega) hnum (Nat.le_refl _) hfine (.inl rfl)
    obtain ⟨k1, k2⟩ := chkE (n := m) (m := m) (by omega) hnum (Nat.le_refl _) hfine (.inl rfl)
    have s2 : WS5_0_2 R x1 = [.l (mk1 m (wAt x1)), .z 0, .z (m : Int)] := by unfold WS5_0_2; rw [len]; exact c2
    have r2 : nthL (WS5_0_2 R x1) 0 = mk1 m (wAt x1) := by rw [s2]; rfl
    have l2 : R.llen (nthL (WS5_0_2 R x1) 0) = (m : Int) := by rw [r2, mk1_llen]
    have s3 : WS5_0_3 R x1 = false := by unfold WS5_0_3; rw [l2]; exact zltF (show ¬ (1024 : Int) < (m : Int) by omega)
    have s4 : WS5_0_4 R x1 = [.z 0, .z 0, .z (sm (wAt x1) m), .z (m : Int)] := by unfold WS5_0_4; rw [l2, r2]; exact k2
    have s5 : WS5_0_5 R x1 = false := by unfold WS5_0_5; rw [l2, s4]; exact nn
    have s6 : WS5_0_6 R x1 = false := by unfold WS5_0_6; rw [l2, zq0]; exact decide_eq_false (by omega)
    have s8 : WS5_0_8 R x1 = [.l (mk1 m (wAt x1)), .z (m : Int)] := by unfold WS5_0_8; rw [len]; exact g2
    have r8 : nthL (WS5_0_8 R x1) 0 = mk1 m (wAt x1) := by rw [s8]; rfl
    have l8 : R.llen (nthL (WS5_0_8 R x1) 0) = (m : Int) := by rw [r8, mk1_llen]
    have s9 : WS5_0_9 R x1 = [.z 0, .z (sm (wAt x1) m), .z (m : Int)] := by unfold WS5_0_9; rw [l8, r8]; exact t2
    have s10 : WS5_0_10 R x1 = sm (wAt x1) m := by
      unfold WS5_0_10; rw [s9, l8, show R.zlt (nthZ ([.z 0, .z (sm (wAt x1) m), .z (m : Int)] : List (PD R)) 2) (m : Int) = false from nn]; rfl
    have la : R.lsub x1 (R.zc 0) (m : Int) = x1 := by rw [← len]; exact lsub_all x1
    have rl : R.zle (R.llen (R.lsub x1 (R.zc 0) (m : Int))) (R.zc 1073741824) = true := by rw [la, len]; exact zleT (show (m : Int) ≤ 1073741824 by omega)
    have o4 : WO5_4 R x1 = true := by unfold WO5_4; rw [len]; exact c1
    have o5 : WO5_5 R x1 = [.l (mk1 m (wAt x1)), .z 0, .z (m : Int)] := s2
    have o6 : WO5_6 R x1 = false := s3
    have o7 : WO5_7 R x1 = true := by
      have : WO5_7 R x1 = E2 R (R.llen (nthL (WS5_0_2 R x1) 0)) (R.llen (nthL (WS5_0_2 R x1) 0)) (nthL (WS5_0_2 R x1) 0) (R.zc 0) (R.zc 0) (R.zc 0) (R.zc 0) := rfl
      rw [this, l2, r2]; exact k1
    have o9 : WO5_9 R x1 = false := s5
    have o10 : WO5_10 R x1 = false := s6
    have o12 : WO5_12 R x1 = true := by unfold WO5_12; rw [len]; exact g1
    have o14 : WO5_14 R x1 = true := by
      have : WO5_14 R x1 = E7 R (R.llen (nthL (WS5_0_8 R x1) 0)) (nthL (WS5_0_8 R x1) 0) (R.zc 0) (R.zc 0) (R.zc 0) := rfl
      rw [this, l8, r8]; exact t1
    have o16 : WO5_16 R x1 = sm (wAt x1) m := s10
    have o17 : WO5_17 R x1 = true := by unfold WO5_17; rw [ow]; cases R.zeq (WO5_16 R x1) (R.zc 0) <;> rfl
    by_cases hz : sm (wAt x1) m = 0
    · have zz : R.zeq (sm (wAt x1) m) (R.zc 0) = true := (zqi _ _).trans (decide_eq_true hz)
      have s7 : WS5_0_7 R x1 = true := by unfold WS5_0_7; rw [s6, s4]; exact zz
      have o11 : WO5_11 R x1 = true := s7
      constructor
      · unfold O5
        rw [o0, o1, o3, o4, o5, len, q2, rl, o6, o7, o9, o10, o11, o12, o14, o17, o16, zz]; rfl
      · unfold S5_0
        rw [h0, s1, len, q1, s2, q2, s3, s5, s6, s7, s10, zz, sw, feq00]; rfl
    · have zz : R.zeq (sm (wAt x1) m) (R.zc 0) = false := (zqi _ _).trans (decide_eq_false hz)
      have nz : R.bnot (R.zeq (sm (wAt x1) m) (R.zc 0)) = true := by rw [zz]; rfl
      have hsp := (Fine.sum hfine).1
      have s7 : WS5_0_7 R x1 = false := by unfold WS5_0_7; rw [s6, s4]; exact zz
      have o11 : WO5_11 R x1 = false := s7
      have hw : Wts m (sm (wAt x1) m) (wAt x1) := ⟨by omega, hn, hfine, rfl, by omega⟩
      have hp := hw.pos
      have htop := hw.top
      obtain ⟨e1, e2'⟩ := refE hw hnum
      obtain ⟨n1, n2⟩ := newE hw hnum
      obtain ⟨s, v, hg, ⟨p1, p2⟩, f1, f2⟩ := pairsE hw
      have d4 : nthZ (WS5_0_4 R x1) 2 = sm (wAt x1) m := by rw [s4]; rfl
      have s11 : WS5_0_11 R x1 = sm (wAt x1) m := by unfold WS5_0_11; rw [s3, s5, s7, d4]; rfl
      obtain ⟨S, hS⟩ : ∃ S : Nat, sm (wAt x1) m = (S : Int) := ⟨(sm (wAt x1) m).toNat, by omega⟩
      have hMb : (m : Int) * (S : Int) ≤ 1099511627776 := by rw [← hS]; exact cap htop (by omega) hn
      obtain ⟨M, hM⟩ : ∃ M : Nat, m * S = M := ⟨_, rfl⟩
      have hMi : (m : Int) * (S : Int) = (M : Int) := by rw [← hM]; exact (Int.natCast_mul m S).symm
      rw [hMi] at hMb
      have hM1 : 1 ≤ M := by rw [← hM]; exact Nat.mul_pos (by omega) (by omega)
      have hmul : R.zmul .i64 (m : Int) (sm (wAt x1) m) = (M : Int) := by rw [hS]; exact (zmul64 ⟨by omega, by omega⟩).trans hMi
      have s12 : WS5_0_12 R x1 = (M : Int) := by unfold WS5_0_12; rw [l2, s11, hmul]
      have s14 : WS5_0_14 R x1 = [.l (mkl (st0 m (sm (wAt x1) m) (wAt x1)).lt), .l (mkl (st0 m (sm (wAt x1) m) (wAt x1)).hv), .z (m : Int), .l (mk2 m (st0 m (sm (wAt x1) m) (wAt x1)).T (st0 m (sm (wAt x1) m) (wAt x1)).A), .l (mk1 m (st0 m (sm (wAt x1) m) (wAt x1)).H)] := by
        unfold WS5_0_14; rw [l2, r2, s11]; exact n2
      have s15 : WS5_0_15 R x1 = e2 m s := by unfold WS5_0_15; rw [l2, s11, s14]; exact p2
      have s22 : WS5_0_22 R x1 = [.l (mk2 m (st0 m (sm (wAt x1) m) (wAt x1)).T (st0 m (sm (wAt x1) m) (wAt x1)).A), .l (mk1 m (st0 m (sm (wAt x1) m) (wAt x1)).H), .l (mkl (st0 m (sm (wAt x1) m) (wAt x1)).lt), .l (mkl (st0 m (sm (wAt x1) m) (wAt x1)).hv), .z (m : Int)] := by
        unfold WS5_0_22; rw [l8, r8, s10]; exact e2'
      have s23 : WS5_0_23 R x1 = e11 m s := by unfold WS5_0_23; rw [s10, s22]; exact f2
      have c15 : nthL (WS5_0_15 R x1) 3 = mk2 m s.T s.A := by rw [s15]; rfl
      have c23 : nthL (WS5_0_23 R x1) 0 = mk2 m s.T s.A := by rw [s23]; rfl
      obtain ⟨w1, w2, w3, w4⟩ := numOf_ok x2 hM1 (by omega)
      have s13 : WS5_0_13 R x1 x2 = numOf x2 (M : Int) := by unfold WS5_0_13; rw [s12]; rfl
      have s24 : WS5_0_24 R x1 = (M : Int) := by unfold WS5_0_24; rw [l8, s10, hmul]
      have s25 : WS5_0_25 R x1 x2 = numOf x2 (M : Int) := by unfold WS5_0_25; rw [s24, cleanS]; exact w4
      obtain ⟨⟨i, hi, hin⟩, j, hj, hjn, hwj⟩ := meant_ok hw v hg (u := numOf x2 (M : Int)) w2 (by rw [hS, hMi]; exact w3)
      have b1 : R.zlt (numOf x2 (M : Int)) (R.zc 0) = false := zltF (show ¬ numOf x2 (M : Int) < 0 by omega)
      have b2 : R.zle (M : Int) (numOf x2 (M : Int)) = false := zleF (by omega)
      have s16 : WS5_0_16 R x1 x2 = R.zquo .i64 (numOf x2 (M : Int)) (sm (wAt x1) m) := by unfold WS5_0_16; rw [s13, s11]
      have s26 : WS5_0_26 R x1 x2 = R.zquo .i64 (numOf x2 (M : Int)) (sm (wAt x1) m) := by unfold WS5_0_26; rw [s25, s10]
      have s17 : WS5_0_17 R x1 x2 = (j : Int) := by
        unfold WS5_0_17; rw [s13, s16, s11, s12, c15, b1, b2]; exact hj
      have s27 : WS5_0_27 R x1 x2 = (j : Int) := by
        unfold WS5_0_27; rw [s25, s26, s10, c23]
        rw [← hj]
        unfold meant
        rw [zlt_not_zle (R.lz (mk2 m s.T s.A) (R.zquo .i64 (numOf x2 (M : Int)) (sm (wAt x1) m)) 0)]
        cases R.zlt (R.zrem .i64 (numOf x2 (M : Int)) (sm (wAt x1) m)) (R.lz (mk2 m s.T s.A) (R.zquo .i64 (numOf x2 (M : Int)) (sm (wAt x1) m)) 0) <;> rfl
      have hr8 : R.zrem .i64 (j : Int) (R.zc 8) = ((j % 8 : Nat) : Int) := (zremN (a := (j : Int)) (b := 8) (by omega)).trans (show (j : Int) % 8 = ((j % 8 : Nat) : Int) by omega)
      have hq8 : R.zquo .i64 (j : Int) (R.zc 8) = ((j / 8 : Nat) : Int) := (zquo64 (x := (j : Int)) (y := 8) ⟨by omega, by omega, by omega⟩).trans (show (j : Int) / 8 = ((j / 8 : Nat) : Int) by omega)
      have s18 : WS5_0_18 R x1 x2 = R.i2f ((j % 8 : Nat) : Int) := by unfold WS5_0_18; rw [s17, hr8]
      have s28 : WS5_0_28 R x1 x2 = R.i2f ((j % 8 : Nat) : Int) := by unfold WS5_0_28; rw [s27, hr8]
      have s19 : WS5_0_19 R x1 x2 x4 = WS5_0_29 R x1 x2 x4 := by
        unfold WS5_0_19 WS5_0_29; rw [s18, s28, cleanE]; exact atE (j % 8) (by omega) x4
      have s20 : WS5_0_20 R (z : Int) x1 x2 x3 = WS5_0_30 R (z : Int) x1 x2 x3 := by
        unfold WS5_0_20 WS5_0_30; rw [s17, s27, cleanE]
      have s21 : WS5_0_21 R (z : Int) x1 x2 x3 = WS5_0_32 R (z : Int) x1 x2 x3 := by
        unfold WS5_0_21 WS5_0_32 WS5_0_31; rw [s20, max_left]
      obtain ⟨u, y, hu, hy, y0, y1'⟩ := heightE (q := j / 8) (z := z) (by omega) z2 x3
      have hz30 : WS5_0_30 R (z : Int) x1 x2 x3 = R.fsub (R.fc 4607182418800017408) (R.fmul (R.fc 4611686018427387904) (R.fdiv (R.fadd (R.i2f ((j / 8 : Nat) : Int)) (S21_0 R x3)) (R.i2f (z : Int)))) := by unfold WS5_0_30; rw [s27, hq8]
      have h32 : fv (WS5_0_32 R (z : Int) x1 x2 x3) y := by
        unfold WS5_0_32
        exact hy _ (by unfold WS5_0_31; rw [hz30])
      have f30 : R.feq (WS5_0_30 R (z : Int) x1 x2 x3) (WS5_0_30 R (z : Int) x1 x2 x3) = true := by rw [hz30]; exact fv_num hu
      obtain ⟨k41, k44, ex, ey, _⟩ := sectorE (WS5_0_29 R x1 x2 x4)
      obtain ⟨X, Y, hX, hY, X0, X1, Y0, Y1⟩ := sectorVal (WS5_0_29 R x1 x2 x4)
      have fx : R.feq (R.fmul (S44_0 R (WS5_0_29 R x1 x2 x4)) (WS5_0_32 R (z : Int) x1 x2 x3)) (R.fmul (S44_0 R (WS5_0_29 R x1 x2 x4)) (WS5_0_32 R (z : Int) x1 x2 x3)) = true := by
        obtain ⟨a1, a2⟩ := mul_abs X0 X1 (show -1 ≤ y by grind) y1'
        obtain ⟨r, hr, _⟩ := mul_val hX h32 (by grind) (by grind)
        exact fv_num hr
      have fy : R.feq (R.fmul (S44_1 R (WS5_0_29 R x1 x2 x4)) (WS5_0_32 R (z : Int) x1 x2 x3)) (R.fmul (S44_1 R (WS5_0_29 R x1 x2 x4)) (WS5_0_32 R (z : Int) x1 x2 x3)) = true := by
        obtain ⟨a1, a2⟩ := mul_abs Y0 Y1 (show -1 ≤ y by grind) y1'
        obtain ⟨r, hr, _⟩ := mul_val hY h32 (by grind) (by grind)
        exact fv_num hr
      have hpos : R.zlt (R.zc 0) (R.lz (mk1 m (wAt x1)) (j : Int) 0) = true := by rw [mk1_at _ hjn]; exact zltT (show (0 : Int) < wAt x1 j from hwj)
      constructor
      · have rn : R.zle (m : Int) (R.zc 1073741824) = true := zleT (show (m : Int) ≤ 1073741824 by omega)
        have ol : R.llen (nthL (WO5_5 R x1) 0) = (m : Int) := l2
        have orr : nthL (WO5_5 R x1) 0 = mk1 m (wAt x1) := r2
        have o27 : WO5_27 R x1 = true := by unfold WO5_27; rw [ol]; exact rn
        have o28 : WO5_28 R x1 = true := by unfold WO5_28; rw [ol, zge0, o27]; rfl
        have o29 : WO5_29 R x1 = sm (wAt x1) m := s11
        have o32 : WO5_32 R x1 = true := by unfold WO5_32 WO5_30 WO5_31; rw [ol, orr, o29]; exact n1
        have o33 : WO5_33 R x1 = _ := s14
        have o34 : WO5_34 R x1 = true := by unfold WO5_34; rw [ol, o29, o33]; exact p1
        have o35 : WO5_35 R x1 = (M : Int) := s12
        have o36 : R.f2iok .i64 (WO5_36 R x1 x2) = true := by unfold WO5_36; rw [o35]; exact w1
        have o37 : WO5_37 R x1 x2 = numOf x2 (M : Int) := s13
        have o38 : WO5_38 R x1 x2 = false := by unfold WO5_38; rw [o37, o35, b1, b2]; rfl
        have o39 : WO5_39 R x1 x2 = (i : Int) := by unfold WO5_39; rw [o37, o29]; exact hi
        have bi : R.zlt (i : Int) (m : Int) = true := zltT (by omega)
        have bj : R.zlt (j : Int) (m : Int) = true := zltT (by omega)
        have o40 : WO5_40 R x1 x2 = true := by unfold WO5_40; rw [o39, ol, zge0, bi]; rfl
        have o45 : O41 R (WO5_45 R x1 x2 x4) = true := by
          have : WO5_45 R x1 x2 x4 = WS5_0_19 R x1 x2 x4 := rfl
          rw [this, s19]; exact k41
        have lo13 : R.llen (nthL (WO5_13 R x1) 0) = (m : Int) := l8
        have o18 : WO5_18 R x1 = (M : Int) := s24
        have o19 : R.f2iok .i64 (WO5_19 R x1 x2) = true := by unfold WO5_19; rw [o18, cleanS]; exact w1
        have o20 : WO5_20 R x1 = true := by
          have : WO5_20 R x1 = E10 R (R.llen (nthL (WS5_0_8 R x1) 0)) (WS5_0_10 R x1) (nthL (WS5_0_8 R x1) 0) R.lnil R.lnil R.lnil R.lnil (R.zc 0) := rfl
          rw [this, l8, r8, s10]; exact e1
        have o21 : WO5_21 R x1 = _ := s22
        have o22 : WO5_22 R x1 = true := by unfold WO5_22; rw [o16, o21]; exact f1
        have o24 : WO5_24 R x1 x2 = (i : Int) := by
          have : WO5_24 R x1 x2 = WS5_0_26 R x1 x2 := rfl
          rw [this, s26]; exact hi
        have lo25 : R.llen (nthL (WO5_25 R x1) 0) = (m : Int) := by
          have : WO5_25 R x1 = WS5_0_23 R x1 := rfl
          rw [this, c23]; show (((mk2 m s.T s.A).length : Nat) : Int) = _; rw [mk2_len]
        have o26 : WO5_26 R x1 x2 = true := by unfold WO5_26; rw [o24, lo25, zge0, bi]; rfl
        have o46 : WO5_46 R x1 x2 = (j : Int) := s27
        have o48 : O44 R (WO5_48 R x1 x2 x4) = true := k44
        have e8 : R.bnot (R.zeq (R.zc 8) (R.zc 0)) = true := by kernel_rfl
        have o54 : WO5_54 R (z : Int) x1 x2 x3 x4 = true := by
          unfold WO5_54
          rw [o28, o32, o34, o36, o38, o29, nz, o40, e8, o45, o12, o14, o17, o16, zz, o19, o20, o22, o26, ow, sw, o48, o46, lo13, zge0, bj]
          generalize R.band (R.feq _ _) _ = g
          cases g <;> cases WO5_42 R x1 x2 <;> rfl
        unfold O5
        rw [o0, o1, o3, o4, len, rl, o6, o7, o9, o10, o11, o12, o14, o17, o27, o54, o5, q2]
        rfl
      · unfold S5_0
        rw [s19, s21, s20, ex, ey, fx, fy, f30, r8, s27, hpos, h0, s1, len, q1, s2, q2, s3, s5, s6, s7, s10, zz, sw]
        rfl

end Go.Proofs.Ytjmanmdkdgnfmaa
