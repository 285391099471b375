/- The law AliasPicks over rows and floats alone. -/
import Derived.Test.YtpgjkadicdccnaaPuAliasMakes
namespace Go.Proofs.Ytpgjkadicdccnaa
open Go.Ev

theorem pw_more : (1099511627776 : Rat) ≤ pw 1000 := Rat.le_trans (show (1099511627776 : Rat) ≤ pw 40 by unfold pw; decide +kernel) (pw_le (by decide))

/-- A number is the float of it. -/
theorem fv_nat {k : Nat} (h : k ≤ 1099511627776) : fv (R.i2f (k : Int)) (k : Rat) := by
  have e : ((k : Int) : Rat) = (k : Rat) := rfl
  have a : (0 : Rat) ≤ (k : Rat) := Rat.natCast_nonneg
  have b : (k : Rat) ≤ 1099511627776 := by
    have : (k : Rat) ≤ ((1099511627776 : Nat) : Rat) := Rat.natCast_le_natCast.2 h
    exact this
  obtain ⟨r, h, hr⟩ := fv_int (n := (k : Int)) (by have := pw_more; have := pw_pos 1000; rw [e]; generalize pw 1000 = z at *; grind) (Rat.le_trans b pw_more)
  have := hr.exact (repQ_dyadic (n := k) (j := 0) (by omega) (by decide) (by rw [pw_zero, Rat.mul_one]; exact e))
  rw [this] at h
  exact h

/-- The draw, such as it is taken. -/
noncomputable def clean (x : Fl) : Fl := R.fite (R.bnot (R.bite (R.fge x (R.fc 0)) (R.flt x (R.fc 4607182418800017408)) (R.bc false))) (R.fc 0) x

theorem clean_val (x : Fl) : ∃ p, fv (clean x) p ∧ 0 ≤ p ∧ p ≤ 1 := by
  unfold clean
  cases h1 : R.fge x (R.fc 0) with
  | false => exact ⟨0, fv_zero, Rat.le_refl, by decide⟩
  | true =>
    cases h2 : R.flt x (R.fc 4607182418800017408) with
    | false => exact ⟨0, fv_zero, Rat.le_refl, by decide⟩
    | true =>
      obtain ⟨q, a, b, c⟩ := unit_val h1 h2
      exact ⟨q, a, b, Rat.le_of_lt c⟩

theorem clean_eq (x : Fl) : S11_0 R x = clean x := by
  unfold S11_0 clean
  obtain ⟨k1, hk1⟩ : ∃ k, fkey (R.fc 4607182418800017408) = some k := ⟨_, key_one.1⟩
  have hk0 : fkey (R.fc 0) = some 0 := fkey_zero
  cases hk : fkey x with
  | none =>
    have a : R.fge x (R.fc 0) = false := by
      cases h : R.fge x (R.fc 0) with
      | false => rfl
      | true => obtain ⟨a, b, h1, _⟩ := (fge_iff _ _).1 h; rw [hk] at h1; cases h1
    have b : R.feq x x = false := by
      cases h : R.feq x x with
      | false => rfl
      | true => obtain ⟨a, b, h1, _⟩ := (feq_iff _ _).1 h; rw [hk] at h1; cases h1
    rw [a, b]
    cases R.flt x (R.fc 0) <;> cases R.fge x (R.fc 4607182418800017408) <;> rfl
  | some k =>
    have c : R.feq x x = true := (feq_iff _ _).2 ⟨k, k, hk, hk, rfl⟩
    have a : R.fge x (R.fc 0) = !R.flt x (R.fc 0) := by
      cases h : R.flt x (R.fc 0) with
      | true =>
        obtain ⟨p, q, h1, h2, h3⟩ := (flt_iff _ _).1 h
        cases g : R.fge x (R.fc 0) with
        | false => rfl
        | true =>
          obtain ⟨p', q', g1, g2, g3⟩ := (fge_iff _ _).1 g
          rw [h1] at g1; cases g1; rw [h2] at g2; cases g2; omega
      | false =>
        by_cases hk' : k < 0
        · have := (flt_iff x (R.fc 0)).2 ⟨k, 0, hk, hk0, hk'⟩
          have h' : R.flt x (R.fc 0) = true := this
          rw [h] at h'; cases h'
        · exact (fge_iff x (R.fc 0)).2 ⟨k, 0, hk, hk0, by omega⟩
    have b : R.flt x (R.fc 4607182418800017408) = !R.fge x (R.fc 4607182418800017408) := by
      cases h : R.fge x (R.fc 4607182418800017408) with
      | true =>
        obtain ⟨p, q, h1, h2, h3⟩ := (fge_iff _ _).1 h
        cases g : R.flt x (R.fc 4607182418800017408) with
        | false => rfl
        | true =>
          obtain ⟨p', q', g1, g2, g3⟩ := (flt_iff _ _).1 g
          rw [h1] at g1; cases g1; rw [h2] at g2; cases g2; omega
      | false =>
        by_cases hk' : k < k1
        · exact (flt_iff x (R.fc 4607182418800017408)).2 ⟨k, k1, hk, hk1, hk'⟩
        · have := (fge_iff x (R.fc 4607182418800017408)).2 ⟨k, k1, hk, hk1, by omega⟩
          have h' : R.fge x (R.fc 4607182418800017408) = true := this
          rw [h] at h'; cases h'
    rw [a, b, c]
    cases R.flt x (R.fc 0) <;> cases R.fge x (R.fc 4607182418800017408) <;> rfl

/-- The number that a draw gives of so many. -/
theorem draw_num {x : Fl} {M : Nat} (hM : M ≤ 1099511627776) : ∃ k : Nat, flint (R.fmul (clean x) (R.i2f (M : Int))) = some (k : Int) ∧ k ≤ M := by
  obtain ⟨p, hp, p0, p1⟩ := clean_val x
  have hq := fv_nat hM
  have m0 : (0 : Rat) ≤ (M : Rat) := Rat.natCast_nonneg
  have mb : (M : Rat) ≤ 1099511627776 := by
    have : (M : Rat) ≤ ((1099511627776 : Nat) : Rat) := Rat.natCast_le_natCast.2 hM
    exact this
  have v0 : 0 ≤ p * (M : Rat) := Rat.mul_nonneg p0 m0
  have v1 : p * (M : Rat) ≤ (M : Rat) := by
    have := Rat.mul_le_mul_of_nonneg_right p1 m0
    rw [Rat.one_mul] at this
    exact this
  obtain ⟨r, hr, hrn⟩ := fv_mul hp hq (by have := pw_pos 1000; generalize pw 1000 = z at *; grind) (Rat.le_trans v1 (Rat.le_trans mb pw_more))
  have r0 : 0 ≤ r := hrn.ge 0 (fv_rep fv_zero) v0
  have r1 : r ≤ (M : Rat) := hrn.le (M : Rat) (fv_rep hq) v1
  obtain ⟨a, ha, ea⟩ := hr
  have a0 : 0 ≤ a := by
    have : (0 : Rat) ≤ (a : Rat) := by rw [← ea]; exact Rat.mul_nonneg r0 (Rat.le_of_lt (pw_pos _))
    exact Rat.intCast_nonneg.1 this
  have e := flint_nonneg ha a0
  have pp : ∀ n : Nat, (0 : Int) < ((2 ^ n : Nat) : Int) := fun n => Int.natCast_pos.2 (Nat.two_pow_pos n)
  have pp := pp 1074
  have pq := pw_int 1074
  generalize ((2 ^ 1074 : Nat) : Int) = P at *
  have a1 : a ≤ (M : Int) * P := by
    have h : (a : Rat) ≤ (((M : Int) * P : Int) : Rat) := by
      rw [← ea, Rat.intCast_mul, pq]
      exact Rat.mul_le_mul_of_nonneg_right r1 (Rat.le_of_lt (pw_pos _))
    exact Rat.intCast_le_intCast.1 h
  have d0 : 0 ≤ a / P := Int.ediv_nonneg a0 (by omega)
  have d1 : a / P ≤ (M : Int) := by
    have := Int.ediv_le_ediv pp a1
    rw [Int.mul_ediv_cancel _ (by omega)] at this
    exact this
  exact ⟨(a / P).toNat, by rw [e]; congr 1; omega, by omega⟩

theorem zremN {a b : Int} (h : 0 ≤ a) : R.zrem .i64 a b = a % b := Int.tmod_eq_emod_of_nonneg h

section
variable {n : Nat} {S : Int} {W : Vals} {s : St}

/-- What a number means. -/
noncomputable def meant (S : Int) (t : Row) (u : Int) : Int := R.zite (R.zlt (R.zrem .i64 u S) (R.lz t (R.zquo .i64 u S) 0)) (R.zquo .i64 u S) (R.lz t (R.zquo .i64 u S) 1)

theorem meant_ok (h : Wts n S W) (v : Inv n S W s) (hg : go s = false) {u : Int} (h0 : 0 ≤ u) (h1 : u < (n : Int) * S) :
    (∃ i : Nat, R.zquo .i64 u S = (i : Int) ∧ i < n) ∧ ∃ j : Nat, meant S (mk2 n s.T s.A) u = (j : Int) ∧ j < n ∧ 0 < W j := by
  have hp := h.pos
  have htop := h.top
  have hn := h.n2
  have hub : (n : Int) * S ≤ 1099511627776 := cap htop (by omega) hn
  have hq : R.zquo .i64 u S = u / S := zquo64 ⟨h0, by omega, by omega⟩
  have d0 : 0 ≤ u / S := Int.ediv_nonneg h0 (by omega)
  have d1 : u / S < (n : Int) := Int.ediv_lt_of_lt_mul hp h1
  obtain ⟨i, hi⟩ : ∃ i : Nat, u / S = (i : Int) := ⟨(u / S).toNat, by omega⟩
  have hin : i < n := by omega
  refine ⟨⟨i, hq.trans hi, hin⟩, ?_⟩
  have r0 : 0 ≤ u % S := Int.emod_nonneg u (by omega)
  have r1 : u % S < S := Int.emod_lt_of_pos u hp
  obtain ⟨t0, t1, a0, a1⟩ := v.rng i hin
  have cn : ∀ j k, k < n → 0 ≤ (fun i => if s.A i = (j : Int) then S - s.T i else 0) k := fun j k hk => by
    have := v.rng k hk
    show 0 ≤ if s.A k = (j : Int) then S - s.T k else 0
    split <;> omega
  unfold meant
  rw [hq, hi, zremN h0, mk2_at0 _ _ hin, mk2_at1 _ _ hin]
  by_cases e : u % S < s.T i
  · refine ⟨i, by rw [zltT e]; rfl, hin, ?_⟩
    have hf := v.fin hg i hin
    have := sm_nonneg (f := fun k => if s.A k = (i : Int) then S - s.T k else 0) (n := n) (cn i)
    by_cases hw : 0 < W i
    · exact hw
    · have : W i = 0 := by have := (h.w i hin).1; omega
      rw [this] at hf; omega
  · obtain ⟨j, hj⟩ : ∃ j : Nat, s.A i = (j : Int) := ⟨(s.A i).toNat, by omega⟩
    have hjn : j < n := by omega
    refine ⟨j, by rw [zltF e]; exact hj, hjn, ?_⟩
    have hf := v.fin hg j hjn
    have hg1 := sm_ge (f := fun k => if s.A k = (j : Int) then S - s.T k else 0) (n := n) (cn j) i hin
    simp only [hj, if_true] at hg1
    have := (v.rng j hjn).1
    by_cases hw : 0 < W j
    · exact hw
    · have hw0 : W j = 0 := by have := (h.w j hjn).1; omega
      rw [hw0] at hf; omega

end

theorem zlt_not_zle (a b : Int) : R.zle a b = !R.zlt b a := by
  by_cases e : a ≤ b
  · rw [zleT e, zltF (by omega)]; rfl
  · rw [zleF e, zltT (by omega)]; rfl

/-- The number that a draw gives, at most the last one. -/
noncomputable def numOf (x : Fl) (M : Int) : Int := R.zmin (R.f2i .i64 (R.fmul (clean x) (R.i2f M))) (R.zsub .i64 M (R.zc 1))

theorem numOf_ok (x : Fl) {M : Nat} (h0 : 1 ≤ M) (h1 : M ≤ 1099511627776) : R.f2iok .i64 (R.fmul (clean x) (R.i2f (M : Int))) = true ∧ 0 ≤ numOf x (M : Int) ∧ numOf x (M : Int) < (M : Int) ∧
    S12_0 R (R.f2i .i64 (R.fmul (clean x) (R.i2f (M : Int)))) (R.zsub .i64 (M : Int) (R.zc 1)) = numOf x (M : Int) := by
  obtain ⟨k, hk, hkM⟩ := draw_num (x := x) h1
  have e1 : R.f2i .i64 (R.fmul (clean x) (R.i2f (M : Int))) = (k : Int) := by show (flint _).getD 0 = _; rw [hk]; rfl
  have e2 : R.zsub .i64 (M : Int) (R.zc 1) = (M : Int) - 1 := zsub64 (x := (M : Int)) (y := 1) ⟨by omega, by omega⟩
  have e3 : R.f2iok .i64 (R.fmul (clean x) (R.i2f (M : Int))) = true := by
    show (match flint (R.fmul (clean x) (R.i2f (M : Int))) with | some n => decide (IntKind.i64.min ≤ n ∧ n ≤ IntKind.i64.max) | none => false) = true
    rw [hk]
    have hmin : IntKind.i64.min = -9223372036854775808 := by decide
    have hmax : IntKind.i64.max = 9223372036854775807 := by decide
    exact decide_eq_true (by rw [hmin, hmax]; omega)
  have e4 : numOf x (M : Int) = if (M : Int) - 1 < (k : Int) then (M : Int) - 1 else (k : Int) := by unfold numOf; rw [e1, e2]
  refine ⟨e3, ?_, ?_, ?_⟩
  · rw [e4]; split <;> omega
  · rw [e4]; split <;> omega
  · rw [e4]
    unfold S12_0
    rw [e1, e2]
    by_cases h : (k : Int) < (M : Int) - 1
    · rw [zltT h, if_neg (by omega)]; rfl
    · rw [zltF h]
      show (M : Int) - 1 = _
      split <;> omega

theorem none_ok (x : Fl) : R.f2iok .i64 (R.fmul (clean x) (R.i2f (R.zc 0))) = true := by
  obtain ⟨k, hk, hkM⟩ := draw_num (x := x) (M := 0) (by omega)
  show (match flint (R.fmul (clean x) (R.i2f (0 : Int))) with | some n => decide (IntKind.i64.min ≤ n ∧ n ≤ IntKind.i64.max) | none => false) = true
  have hk' : flint (R.fmul (clean x) (R.i2f (0 : Int))) = some (k : Int) := hk
  rw [hk']
  have hmin : IntKind.i64.min = -9223372036854775808 := by decide
  have hmax : IntKind.i64.max = 9223372036854775807 := by decide
  exact decide_eq_true (by rw [hmin, hmax]; omega)

theorem law_AliasPicks (x0 : Row) (x1 : Int) (x2 : Fl) (_k0 : okRow [.z .i64] x0) (_k1 : okInt .i64 x1) : O4 R x0 x1 x2 = true ∧ S4_0 R x0 x1 x2 = true := by
  have ow := aw_O7
  have sw := aw_S7_0
  obtain ⟨n, hn⟩ : ∃ n, x0.length = n := ⟨_, rfl⟩
  have len : R.llen x0 = (n : Int) := by show ((x0.length : Nat) : Int) = _; rw [hn]
  by_cases hbig : 60 < n
  · have e1 : R.zlt (R.zc 60) (n : Int) = true := zltT (show (60 : Int) < (n : Int) by omega)
    unfold O4 S4_0 WO4_4 WO4_0
    rw [len, e1, ow, sw]; exact ⟨rfl, rfl⟩
  have e1 : R.zlt (R.zc 60) (n : Int) = false := zltF (show ¬ (60 : Int) < (n : Int) by omega)
  have zn : R.zeq (n : Int) (R.zc 0) = decide (n = 0) := zq0 n
  by_cases hz : n = 0
  · have z1 : R.zeq (n : Int) (R.zc 0) = true := by rw [zn]; exact decide_eq_true hz
    unfold O4 S4_0 WO4_4 WO4_0
    rw [len, e1, z1, ow, sw]; exact ⟨rfl, rfl⟩
  have z1 : R.zeq (n : Int) (R.zc 0) = false := by rw [zn]; exact decide_eq_false hz
  let W : Vals := fun i => R.lz x0 (i : Int) 0
  have hnum : Num x0 W n := fun i _ => rfl
  obtain ⟨m, m1, m2, m3⟩ := firstOff W n
  obtain ⟨c1, c2⟩ := chkE (by omega) hnum m1 m2 m3
  obtain ⟨t1, t2⟩ := totE (by omega) hnum m1 m2 m3
  have s0 : WS4_0_0 R x0 = [.z 0, .z (sm W m), .z (m : Int)] := by unfold WS4_0_0; rw [len]; exact t2
  have o1 : WO4_1 R x0 = true := by unfold WO4_1; rw [len]; exact t1
  have o0 : WO4_0 R x0 = false := by unfold WO4_0; rw [len, e1, z1]; rfl
  by_cases hbad : m < n ∨ sm W m < 1
  · have s1 : R.zlt (WS4_0_1 R x0) (R.zc 1) = true := by
      unfold WS4_0_1; rw [s0, len]
      by_cases hm : m < n
      · rw [show R.zlt (nthZ ([.z 0, .z (sm W m), .z (m : Int)] : List (PD R)) 2) (n : Int) = true from zltT (show (m : Int) < (n : Int) by omega)]; rfl
      · rw [show R.zlt (nthZ ([.z 0, .z (sm W m), .z (m : Int)] : List (PD R)) 2) (n : Int) = false from zltF (show ¬ (m : Int) < (n : Int) by omega)]
        exact zltT (show sm W m < 1 by omega)
    have o4 : WO4_4 R x0 = true := by unfold WO4_4; rw [o0]; exact s1
    constructor
    · unfold O4; rw [o0, o1, o4, ow]; rfl
    · unfold S4_0; rw [len, e1, z1, s1, sw]; rfl
  have hm : m = n := by omega
  subst hm
  have hw : Wts m (sm W m) W := ⟨by omega, by omega, m2, rfl, by omega⟩
  have hp := hw.pos
  have htop := hw.top
  have nn : R.zlt (m : Int) (m : Int) = false := zltF (by omega)
  have s1 : WS4_0_1 R x0 = sm W m := by
    unfold WS4_0_1; rw [s0, len, show R.zlt (nthZ ([.z 0, .z (sm W m), .z (m : Int)] : List (PD R)) 2) (m : Int) = false from nn]; rfl
  have l1 : R.zlt (sm W m) (R.zc 1) = false := zltF (show ¬ sm W m < 1 by omega)
  have z2 : R.zeq (sm W m) (R.zc 0) = false := (zqi _ _).trans (decide_eq_false (show ¬ sm W m = 0 by omega))
  have e4 : R.zlt (R.zc 1024) (m : Int) = false := zltF (show ¬ (1024 : Int) < (m : Int) by omega)
  have s2 : WS4_0_2 R x0 = [.z 0, .z 0, .z (sm W m), .z (m : Int)] := by unfold WS4_0_2; rw [len]; exact c2
  have s3 : WS4_0_3 R x0 = false := by unfold WS4_0_3; rw [s2, len]; exact nn
  have s4 : WS4_0_4 R x0 = false := by unfold WS4_0_4; rw [len, z1, s2]; exact z2
  have s5 : WS4_0_5 R x0 = sm W m := by unfold WS4_0_5; rw [len, e4, s3, s4, s2]; rfl
  have ll : R.llen (R.lsub x0 (R.zc 0) (m : Int)) = (m : Int) := by rw [← len, lsub_all]
  obtain ⟨S, hS⟩ : ∃ S : Nat, sm W m = (S : Int) := ⟨(sm W m).toNat, by omega⟩
  have hMb : (m : Int) * (S : Int) ≤ 1099511627776 := by rw [← hS]; exact cap htop (by omega) (by omega)
  obtain ⟨M, hM⟩ : ∃ M : Nat, m * S = M := ⟨_, rfl⟩
  have hMi : (m : Int) * (S : Int) = (M : Int) := by rw [← hM]; exact (Int.natCast_mul m S).symm
  rw [hMi] at hMb
  have hM1 : 1 ≤ M := by rw [← hM]; exact Nat.mul_pos (by omega) (by omega)
  have hmul : R.zmul .i64 (m : Int) (sm W m) = (M : Int) := by rw [hS]; exact (zmul64 ⟨by omega, by omega⟩).trans hMi
  have s6 : WS4_0_6 R x0 = (M : Int) := by unfold WS4_0_6; rw [len, ll, s5, hmul]
  obtain ⟨r1, r2⟩ := refE hw hnum
  obtain ⟨n1, n2⟩ := newE hw hnum
  obtain ⟨s, v, hg, ⟨p1, p2⟩, q1, q2⟩ := pairsE hw
  have s7 : WS4_0_7 R x0 = [.l (mkl (st0 m (sm W m) W).lt), .l (mkl (st0 m (sm W m) W).hv), .z (m : Int), .l (mk2 m (st0 m (sm W m) W).T (st0 m (sm W m) W).A), .l (mk1 m (st0 m (sm W m) W).H)] := by
    unfold WS4_0_7; rw [len, s5]; exact n2
  have s8 : WS4_0_8 R x0 = e2 m s := by unfold WS4_0_8; rw [len, s5, s7]; exact p2
  have s9 : WS4_0_9 R x0 = [.l (mk2 m (st0 m (sm W m) W).T (st0 m (sm W m) W).A), .l (mk1 m (st0 m (sm W m) W).H), .l (mkl (st0 m (sm W m) W).lt), .l (mkl (st0 m (sm W m) W).hv), .z (m : Int)] := by
    unfold WS4_0_9; rw [len, s1]; exact r2
  have s10 : WS4_0_10 R x0 = e11 m s := by unfold WS4_0_10; rw [s1, s9]; exact q2
  have c8 : nthL (WS4_0_8 R x0) 3 = mk2 m s.T s.A := by rw [s8]; rfl
  have c10 : nthL (WS4_0_10 R x0) 0 = mk2 m s.T s.A := by rw [s10]; rfl
  -- the draw
  obtain ⟨f1, f2, f3, f4⟩ := numOf_ok x2 hM1 (by omega)
  have s11 : WS4_0_11 R x0 x2 = numOf x2 (M : Int) := by unfold WS4_0_11; rw [s6]; rfl
  have s14 : WS4_0_14 R x0 x2 = numOf x2 (M : Int) := by unfold WS4_0_14; rw [len, s1, hmul, clean_eq]; exact f4
  obtain ⟨⟨i, hi, hin⟩, j, hj, hjn, hwj⟩ := meant_ok hw v hg (u := numOf x2 (M : Int)) f2 (by rw [hS, hMi]; exact f3)
  have k1' : R.zlt (numOf x2 (M : Int)) (R.zc 0) = false := zltF (show ¬ numOf x2 (M : Int) < 0 by omega)
  have k2' : R.zle (M : Int) (numOf x2 (M : Int)) = false := zleF (by omega)
  have s12 : WS4_0_12 R x0 x2 = R.zquo .i64 (numOf x2 (M : Int)) (sm W m) := by unfold WS4_0_12; rw [s11, s5]
  have s15 : WS4_0_15 R x0 x2 = R.zquo .i64 (numOf x2 (M : Int)) (sm W m) := by unfold WS4_0_15; rw [s14, s5]
  have s13 : WS4_0_13 R x0 x2 = (j : Int) := by
    unfold WS4_0_13
    rw [s11, s12, s5, s6, c8, k1', k2']
    exact hj
  have hsame : R.zite (R.bite (R.zlt (WS4_0_14 R x0 x2) (R.zc 0)) (R.bc true) (R.zle (WS4_0_6 R x0) (WS4_0_14 R x0 x2))) (R.zc (-1)) (R.zite (R.zlt (R.zrem .i64 (WS4_0_14 R x0 x2) (WS4_0_5 R x0)) (R.lz (nthL (WS4_0_8 R x0) 3) (WS4_0_15 R x0 x2) 0)) (WS4_0_15 R x0 x2) (R.lz (nthL (WS4_0_8 R x0) 3) (WS4_0_15 R x0 x2) 1)) = (j : Int) := by
    rw [s14, s15, s5, s6, c8, k1', k2']
    exact hj
  have hpos : R.zlt (R.zc 0) (R.lz x0 (j : Int) 0) = true := zltT (show (0 : Int) < W j from hwj)
  have ejj : R.zeq (j : Int) (j : Int) = true := by rw [zqi]; exact decide_eq_true rfl
  -- the pick
  have hpick : R.zeq (R.zite (R.bite (R.zlt x1 (R.zc 0)) (R.bc true) (R.zle (M : Int) x1)) (R.zc (-1)) (R.zite (R.zlt (R.zrem .i64 x1 (sm W m)) (R.lz (mk2 m s.T s.A) (R.zquo .i64 x1 (sm W m)) 0)) (R.zquo .i64 x1 (sm W m)) (R.lz (mk2 m s.T s.A) (R.zquo .i64 x1 (sm W m)) 1)))
      (R.zite (R.bite (R.zle (R.zc 0) x1) (R.zlt x1 (M : Int)) (R.bc false)) (R.zite (R.zle (R.lz (mk2 m s.T s.A) (R.zquo .i64 x1 (sm W m)) 0) (R.zrem .i64 x1 (sm W m))) (R.lz (mk2 m s.T s.A) (R.zquo .i64 x1 (sm W m)) 1) (R.zquo .i64 x1 (sm W m))) (R.zc (-1))) = true := by
    rw [zqi]
    refine decide_eq_true ?_
    rw [zlt_not_zle (R.lz (mk2 m s.T s.A) (R.zquo .i64 x1 (sm W m)) 0), zlt_not_zle (R.zc 0) x1, zlt_not_zle (M : Int) x1]
    cases R.zlt x1 (R.zc 0) <;> cases R.zlt x1 (M : Int) <;> cases R.zlt (R.zrem .i64 x1 (sm W m)) (R.lz (mk2 m s.T s.A) (R.zquo .i64 x1 (sm W m)) 0) <;> rfl
  have o3 : WO4_3 R x0 = sm W m := s1
  have o4 : WO4_4 R x0 = false := by unfold WO4_4; rw [o0, o3, l1]; rfl
  have o5 : WO4_5 R x0 = true := by unfold WO4_5; rw [len, o3]; exact r1
  have o6 : WO4_6 R x0 = _ := s9
  have o7 : WO4_7 R x0 = true := by unfold WO4_7; rw [o6, o3]; exact q1
  have o8 : WO4_8 R x0 = true := by unfold WO4_8; rw [len]; exact c1
  have o10 : WO4_10 R x0 = false := s3
  have o11 : WO4_11 R x0 = false := s4
  have o12 : WO4_12 R x0 = (m : Int) := by unfold WO4_12; rw [len, ll]
  have rn : R.zle (m : Int) (R.zc 1073741824) = true := zleT (show (m : Int) ≤ 1073741824 by omega)
  have o13 : WO4_13 R x0 = true := by unfold WO4_13; rw [len, zge0, rn]; rfl
  have o14 : WO4_14 R x0 = sm W m := s5
  have o16 : WO4_16 R x0 = true := by unfold WO4_16 WO4_15; rw [len, o14]; exact n1
  have o17 : WO4_17 R x0 = _ := s7
  have o18 : WO4_18 R x0 = true := by unfold WO4_18; rw [len, o14, o17]; exact p1
  have o20 : nthL (WO4_20 R x0) 0 = mk2 m s.T s.A := c10
  have nz : R.bnot (R.zeq (sm W m) (R.zc 0)) = true := by rw [z2]; rfl
  have o19 : WO4_19 R x0 x1 = true → WO4_21 R x0 x1 = true := by
    intro h
    have hr : 0 ≤ x1 ∧ x1 < (M : Int) := by
      unfold WO4_19 at h
      rw [len, o3, hmul] at h
      by_cases a : 0 ≤ x1
      · by_cases b : x1 < (M : Int)
        · exact ⟨a, b⟩
        · rw [zleT (show R.zc 0 ≤ x1 from a), zltF b] at h; cases h
      · rw [zleF (show ¬ R.zc 0 ≤ x1 from a)] at h; cases h
    obtain ⟨⟨i', hi', hin'⟩, _⟩ := meant_ok hw v hg (u := x1) hr.1 (by rw [hS, hMi]; exact hr.2)
    unfold WO4_21
    rw [o3, hi', o20, zge0]
    exact zltT (show ((i' : Nat) : Int) < (((mk2 m s.T s.A).length : Nat) : Int) by rw [mk2_len]; omega)
  have o24 : WO4_24 R x0 = (M : Int) := by unfold WO4_24; rw [o12, o14, hmul]
  have o25 : WO4_25 R x0 x1 = false → WO4_26 R x0 x1 = true := by
    intro h
    have hr : 0 ≤ x1 ∧ x1 < (M : Int) := by
      unfold WO4_25 at h
      rw [o24] at h
      by_cases a : x1 < 0
      · rw [zltT (show x1 < R.zc 0 from a)] at h; cases h
      · by_cases b : (M : Int) ≤ x1
        · rw [zltF (show ¬ x1 < R.zc 0 from a), zleT b] at h; cases h
        · omega
    obtain ⟨⟨i', hi', hin'⟩, _⟩ := meant_ok hw v hg (u := x1) hr.1 (by rw [hS, hMi]; exact hr.2)
    unfold WO4_26
    rw [o14, hi', len, zge0]
    exact zltT (show ((i' : Nat) : Int) < (m : Int) by omega)
  have o23 : R.f2iok .i64 (WO4_23 R x0 x2) = true := by unfold WO4_23; rw [len, o3, hmul, clean_eq]; exact f1
  have o30 : WO4_30 R x2 = clean x2 := rfl
  have o31 : R.f2iok .i64 (WO4_31 R x0 x2) = true := by unfold WO4_31; rw [o30, o24]; exact f1
  have o32 : WO4_32 R x0 x2 = numOf x2 (M : Int) := by unfold WO4_32 WO4_31; rw [o30, o24]; rfl
  have o33 : WO4_33 R x0 x2 = false := by unfold WO4_33; rw [o32, o24, k1', k2']; rfl
  have o34 : WO4_34 R x0 x2 = (i : Int) := by unfold WO4_34; rw [o32, o14]; exact hi
  have bi : R.zlt (i : Int) (m : Int) = true := zltT (by omega)
  have o35 : WO4_35 R x0 x2 = true := by unfold WO4_35; rw [o34, len, zge0, bi]; rfl
  have o37 : WO4_37 R x0 x2 = true := by unfold WO4_37; rw [o31, o33, o14, nz, o35]; cases WO4_36 R x0 x2 <;> rfl
  have o38 : WO4_38 R x0 x2 = numOf x2 (M : Int) := s14
  have o39 : WO4_39 R x0 x2 = false := by unfold WO4_39; rw [o38, o24, k1', k2']; rfl
  have o40 : WO4_40 R x0 x2 = (i : Int) := by unfold WO4_40; rw [o38, o14]; exact hi
  have o41 : WO4_41 R x0 x2 = true := by unfold WO4_41; rw [o40, len, zge0, bi]; rfl
  have o43 : WO4_43 R x0 x2 = (j : Int) := s13
  have bj : R.zlt (j : Int) (m : Int) = true := zltT (by omega)
  have o46 : R.f2iok .i64 (R.fmul (WO4_30 R x2) (R.i2f (R.zc 0))) = true := none_ok x2
  have tau : ∀ z : Int, R.bite (R.zlt z (R.zc 0)) (R.bc true) (R.zle (R.zc 0) z) = true := fun z => by
    rw [zlt_not_zle (R.zc 0) z]; cases R.zlt z (R.zc 0) <;> rfl
  have o47 : WO4_47 R x0 x1 x2 = true := by
    unfold WO4_47
    rw [len, e4, o10, o11, o12, o13, o16, o18, o3, o14, nz, o23, ow, sw, o37, o39, o41, o43, zge0, bj, tau, tau, o46, rn]
    have a1 : R.bite (WO4_19 R x0 x1) (R.band true (R.band true (R.band (WO4_21 R x0 x1) (R.bite (WO4_22 R x0 x1) (WO4_21 R x0 x1) (R.bc true))))) (R.bc true) = true := by
      cases h : WO4_19 R x0 x1 with
      | false => rfl
      | true => rw [o19 h]; cases WO4_22 R x0 x1 <;> rfl
    have a2 : R.bite (WO4_25 R x0 x1) (R.bc true) (R.band true (R.band true (R.band (WO4_26 R x0 x1) (R.bite (WO4_28 R x0 x1) (R.bc true) (WO4_26 R x0 x1))))) = true := by
      cases h : WO4_25 R x0 x1 with
      | true => rfl
      | false => rw [o25 h]; cases WO4_28 R x0 x1 <;> rfl
    rw [a1, a2]
    cases WO4_29 R x0 x1 <;> cases WO4_44 R x0 x1 x2 <;> cases WO4_45 R x0 x1 x2 <;> cases WO4_42 R x0 x2 <;> rfl
  constructor
  · unfold O4
    rw [o0, o1, o4, o5, o7, o8, o47, len, e4]; rfl
  · unfold S4_0
    rw [hsame]
    rw [len, e1, z1, s1, l1, e4, s3, s4, s5, s6, hmul, c8, c10, hpick, s13, hpos, ejj, sw]
    rfl

end Go.Proofs.Ytpgjkadicdccnaa
