/- The law EnvLooks over rows and floats alone. -/
import Derived.Test.YtjmanmdkdgnfmaaPuEnvMakes
namespace Go.Proofs.Ytjmanmdkdgnfmaa
open Go.Ev

theorem sizeE (a : Fl) : S54_0 R a = S53_0 R a := by
  simp only [S54_0, S53_0]
  cases h : ford a (cls 0) with
  | none =>
    rcases ford_none h with g | g
    · rw [g]; rfl
    · rw [zero_self] at g; cases g
  | some o => rw [(ford_some h).1]; cases o <;> rfl

theorem absNn (a : Fl) : nn (S53_0 R a) := by
  simp only [S53_0]
  cases hk : fkey a with
  | none =>
    have h : ford a (cls 0) = none := by rw [ford_key, hk]
    have g : ford a a = none := by rw [ford_key, hk]
    rw [h, g]
    intro k h
    have h' : fkey a = some k := h
    rw [hk] at h'; cases h'
  | some l =>
    have g : ford a a = some .eq := by rw [ford_key, hk]; simp
    have h : ford a (cls 0) = some (compare l 0) := by rw [ford_key, hk, fkey_zero]
    rw [h, g, compare_def]
    intro k h
    by_cases h0 : l < 0
    · rw [if_pos h0] at h
      exact key_from_zero hk h0 h
    · rw [if_neg h0] at h
      by_cases h1 : l = 0
      · rw [if_pos h1] at h
        have h' : fkey a = some k := h
        rw [hk] at h'; cases h'; omega
      · rw [if_neg h1] at h
        have h' : fkey a = some k := h
        rw [hk] at h'; cases h'; omega

theorem numKey {a : Fl} (h : S51_0 R a = true) : ∃ k, fkey a = some k := by
  have h' : (R.feq (R.fsub a a) (cls 0)) = true := h
  rw [← number_iff] at h'
  cases g : R.fge a (cls lowBits) with
  | false => rw [g] at h'; cases h'
  | true =>
    obtain ⟨k, _, h1, _⟩ := (fge_iff _ _).1 g
    exact ⟨k, h1⟩

theorem angleE (a0 a1 : Fl) : S35_1 R a0 a1 = S32_1 R a0 a1 ∧ S35_0 R a0 a1 = S32_0 R a0 a1 := by
  refine ⟨?_, by simp only [S35_0, S32_0, WS35_0_0, WS35_0_1, WS35_0_2, WS35_0_3, WS35_0_4, WS35_0_5, WS32_0_0, WS32_0_1, WS32_0_2, WS32_0_3, sizeE, ite_self]⟩
  simp only [S35_1, S32_1, sizeE, S33_0, numberE]
  have hA := absNn a0
  have hB := absNn a1
  generalize S53_0 R a0 = A at hA ⊢
  generalize S53_0 R a1 = B at hB ⊢
  have n0 : S51_0 R (cls 0) = true := by kernel_rfl
  cases hw : (ford A B == some .gt || ford A B == some .eq) with
  | true =>
    simp only [Bool.not_true, Bool.false_eq_true, if_false, if_true, n0]
    obtain ⟨a, b, h1, h2, h3⟩ := (fge_iff _ _).1 hw
    have p1 := hA a h1
    have p2 := hB b h2
    cases hz : (ford A (cls 0) == some .eq) with
    | true =>
      obtain ⟨c, d, g1, g2, g3⟩ := (feq_iff _ _).1 hz
      rw [h1] at g1; rw [fkey_zero] at g2; cases g1; cases g2
      have hb : (ford B (cls 0) == some .eq) = true := (feq_iff _ _).2 ⟨b, 0, h2, fkey_zero, by omega⟩
      rw [hb]
      cases S51_0 R A <;> cases S51_0 R B <;> rfl
    | false => cases S51_0 R A <;> cases S51_0 R B <;> rfl
  | false =>
    simp only [Bool.not_false, if_true, n0, Bool.false_eq_true, if_false]
    cases hNA : S51_0 R A with
    | false => cases S51_0 R B <;> cases (ford B (cls 0) == some .eq) <;> rfl
    | true =>
      cases hNB : S51_0 R B with
      | false => cases (ford B (cls 0) == some .eq) <;> rfl
      | true =>
        obtain ⟨a, h1⟩ := numKey hNA
        obtain ⟨b, h2⟩ := numKey hNB
        have p1 := hA a h1
        have hlt : a < b := by
          refine Int.not_le.1 fun h => ?_
          have := (fge_iff A B).2 ⟨a, b, h1, h2, h⟩
          rw [hw] at this; cases this
        have e1 : (ford B (cls 0) == some .eq) = false := by
          cases g : (ford B (cls 0) == some .eq) with
          | false => rfl
          | true =>
            obtain ⟨c, d, g1, g2, g3⟩ := (feq_iff _ _).1 g
            rw [h2] at g1; rw [fkey_zero] at g2; cases g1; cases g2
            omega
        rw [e1]
        cases (ford A (cls 0) == some .eq) <;> rfl

theorem pw_more : (1099511627776 : Rat) ≤ pw 1000 := Rat.le_trans (show (1099511627776 : Rat) ≤ pw 40 by unfold pw; decide +kernel) (pw_le (by decide))

/-- A number is the float of it. -/
theorem fv_nat {k : Nat} (h : k ≤ 1099511627776) : fv (R.i2f (k : Int)) (k : Rat) := by
  have e : ((k : Int) : Rat) = (k : Rat) := rfl
  have a : (0 : Rat) ≤ (k : Rat) := Rat.natCast_nonneg
  have b : (k : Rat) ≤ 1099511627776 := by
    have : (k : Rat) ≤ ((1099511627776 : Nat) : Rat) := Rat.natCast_le_natCast.2 h
    exact this
  obtain ⟨r, h, hr⟩ := fv_int (n := (k : Int)) (by have := pw_more; have := pw_pos 1000; rw [e]; generalize pw 1000 = z at *; grind) (Rat.le_trans b pw_more)
  have := hr.exact (repQ_dyadic (n := k) (j := 0) (by omega) (by decide) (by rw [pw_zero, Rat.mul_one]; exact e))
  rw [this] at h
  exact h

theorem fv_fin {y : Fl} {q : Rat} (h : fv y q) (hq : q ≠ 0) : ∃ b, fin y b ∧ b ≠ 0 := by
  obtain ⟨b, hb, e⟩ := h
  refine ⟨b, hb, fun hz => ?_⟩
  subst hz
  rcases Rat.mul_eq_zero.1 (show q * pw 1074 = 0 from e) with g | g
  · exact hq g
  · exact Rat.ne_of_gt (pw_pos 1074) g

/-- A number times what is worth something is a number. -/
theorem mulKey {x y : Fl} {a : Int} {q : Rat} (hx : fkey x = some a) (hy : fv y q) (hq : q ≠ 0) : ∃ c, fkey (R.fmul x y) = some c := by
  obtain ⟨b, hb, hb0⟩ := fv_fin hy hq
  rcases mul_any hx hb.1 hb0 with ⟨_, _, h⟩ | ⟨_, h, _⟩ | ⟨_, _, h⟩
  · exact ⟨_, h⟩
  · obtain ⟨h1, h2⟩ := hb.2
    exfalso; omega
  · exact ⟨_, h⟩

theorem firstNot (P : Nat → Bool) : ∀ n, ∃ t, t ≤ n ∧ (∀ j, j < t → P j = true) ∧ (t = n ∨ t < n ∧ P t = false)
  | 0 => ⟨0, Nat.le_refl _, fun i hi => by omega, .inl rfl⟩
  | n + 1 => by
    obtain ⟨m, h1, h2, h3⟩ := firstNot P n
    rcases h3 with e | ⟨h3, h4⟩
    · subst e
      cases hb : P m with
      | false => exact ⟨m, by omega, h2, .inr ⟨by omega, hb⟩⟩
      | true =>
        refine ⟨m + 1, Nat.le_refl _, fun i hi => ?_, .inl rfl⟩
        by_cases e : i = m
        · subst e; exact hb
        · exact h2 i (by omega)
    · exact ⟨m, by omega, h2, .inr ⟨by omega, h4⟩⟩

/-- The zone of a height. -/
theorem zoneE {x : Fl} {kx : Int} (hk : fkey x = some kx) {n : Nat} (h1 : 1 ≤ n) (h2 : n ≤ 16) : ∃ t : Nat, t < n ∧ E8 R x (n : Int) (R.zc 0) = true ∧ L8 R x (n : Int) (R.zc 0) = [.z (t : Int)] ∧
    R.zite (R.bite (R.flt x (R.fc 4607182418800017408)) (R.bc true) (R.fge x (R.i2f (n : Int)))) (R.zite (R.flt x (R.fc 4607182418800017408)) (R.zc 0) (R.zsub .i64 (n : Int) (R.zc 1))) (R.f2i .i64 x) = (t : Int) ∧
    R.bite (R.bite (R.flt x (R.fc 4607182418800017408)) (R.bc true) (R.fge x (R.i2f (n : Int)))) (R.bc true) (R.f2iok .i64 x) = true := by
  obtain ⟨t, t1, t2, t3⟩ := firstNot (fun j => R.fle (R.i2f ((j + 1 : Nat) : Int)) x) (n - 1)
  have t2 : ∀ j, j < t → R.fle (R.i2f ((j + 1 : Nat) : Int)) x = true := t2
  have t3 : t = n - 1 ∨ t < n - 1 ∧ R.fle (R.i2f ((t + 1 : Nat) : Int)) x = false := t3
  have en : R.zsub .i64 (n : Int) (R.zc 1) = ((n - 1 : Nat) : Int) := (zsub64 (x := (n : Int)) (y := 1) ⟨by omega, by omega⟩).trans (show (n : Int) - 1 = ((n - 1 : Nat) : Int) by omega)
  have loop := ends_path (step := G8 R x (n : Int)) (p := [.z (R.zc 0)]) (fun j => [.z (j : Int)]) t rfl (fun j hj => by
      have a := suc (i := j) (by omega)
      have b : R.zlt (j : Int) ((n - 1 : Nat) : Int) = true := zltT (by omega)
      show (C8 R x (n : Int) (j : Int), O8_ R, [PV.z (N8_0 R (j : Int))]) = _
      unfold C8 O8_ N8_0
      rw [a, en, b, t2 j hj]; rfl)
    (by
      show C8 R x (n : Int) (t : Int) = false
      unfold C8
      rw [en, suc (by omega)]
      rcases t3 with e | ⟨e, hb⟩
      · rw [zltF (show ¬ (t : Int) < ((n - 1 : Nat) : Int) by omega)]; rfl
      · rw [hb]; cases R.zlt (t : Int) ((n - 1 : Nat) : Int) <;> rfl)
  refine ⟨t, by omega, loop.1, loop.2, ?_⟩
  have hone := fv_one
  have hn := fv_nat (k := n) (by omega)
  obtain ⟨o, ho, _⟩ := fv_one
  obtain ⟨kn, hkn, _⟩ := hn
  have hnat : ∀ j : Nat, j ≤ 16 → ∃ b, fkey (R.i2f (j : Int)) = some b := fun j hj => by
    obtain ⟨b, hb, _⟩ := fv_nat (k := j) (by omega)
    exact ⟨b, hb.1⟩
  cases hlt : R.flt x (R.fc 4607182418800017408) with
  | true =>
    refine ⟨?_, rfl⟩
    show (0 : Int) = (t : Int)
    have : t = 0 := by
      by_cases e : t = 0
      · exact e
      · exfalso
        have hp : R.fle (R.i2f ((1 : Nat) : Int)) x = true := t2 0 (by omega)
        obtain ⟨a, b, g1, g2, g3⟩ := (fle_iff _ _).1 hp
        obtain ⟨c, d, f1, f2, f3⟩ := (flt_iff _ _).1 hlt
        obtain ⟨p, q, p1, p2, p3⟩ := fv_key_le hone (fv_nat (k := 1) (by omega))
        have h11 : (1 : Rat) ≤ ((1 : Nat) : Rat) := Rat.le_refl
        have := p3.1 h11
        rw [g1] at p2; cases p2
        rw [f2] at p1; cases p1
        rw [f1] at g2; cases g2
        omega
    omega
  | false =>
    cases hge : R.fge x (R.i2f (n : Int)) with
    | true =>
      refine ⟨?_, rfl⟩
      show R.zsub .i64 (n : Int) (R.zc 1) = (t : Int)
      rw [en]
      rcases t3 with e | ⟨e, hb⟩
      · rw [e]
      · exfalso
        obtain ⟨a, b, g1, g2, g3⟩ := (fge_iff _ _).1 hge
        obtain ⟨p, q, p1, p2, p3⟩ := fv_key_le (fv_nat (k := t + 1) (by omega)) (fv_nat (k := n) (by omega))
        have hle : ((t + 1 : Nat) : Rat) ≤ ((n : Nat) : Rat) := Rat.natCast_le_natCast.2 (by omega)
        have := p3.1 hle
        rw [g2] at p2; cases p2
        have h' : R.fle (R.i2f ((t + 1 : Nat) : Int)) x = true := (fle_iff _ _).2 ⟨p, a, p1, g1, by omega⟩
        rw [hb] at h'; cases h'
    | false =>
      have g1 : R.fge x (R.fc 4607182418800017408) = true := by
        by_cases h : kx < o
        · have := (flt_iff x (R.fc 4607182418800017408)).2 ⟨kx, o, hk, ho.1, h⟩
          have h' : R.flt x (R.fc 4607182418800017408) = true := this
          rw [hlt] at h'; cases h'
        · exact (fge_iff _ _).2 ⟨kx, o, hk, ho.1, by omega⟩
      have g2 : R.flt x (R.i2f (n : Int)) = true := by
        by_cases h : kx < kn
        · exact (flt_iff _ _).2 ⟨kx, kn, hk, hkn.1, h⟩
        · have := (fge_iff x (R.i2f (n : Int))).2 ⟨kx, kn, hk, hkn.1, by omega⟩
          have h' : R.fge x (R.i2f (n : Int)) = true := this
          rw [hge] at h'; cases h'
      obtain ⟨q, hq, q0, _⟩ := fv_between hone (fv_nat (k := n) (by omega)) g1 (flt_fle g2)
      have q1 : q < (n : Rat) := by
        have := fv_flt hq (fv_nat (k := n) (by omega))
        rw [g2] at this
        exact of_decide_eq_true this.symm
      have b0 : ((t : Int) : Rat) ≤ q := by
        have e : ((t : Int) : Rat) = (t : Rat) := rfl
        rw [e]
        by_cases hz : t = 0
        · subst hz
          have : ((0 : Nat) : Rat) ≤ 1 := by decide
          exact Rat.le_trans this q0
        · have hp := t2 (t - 1) (by omega)
          rw [show t - 1 + 1 = t by omega] at hp
          have := fv_fle (fv_nat (k := t) (by omega)) hq
          rw [hp] at this
          exact of_decide_eq_true this.symm
      have b1 : q < (((t : Int) + 1 : Int) : Rat) := by
        have e : (((t : Int) + 1 : Int) : Rat) = ((t + 1 : Nat) : Rat) := rfl
        rw [e]
        rcases t3 with e | ⟨e, hb⟩
        · rw [e, show n - 1 + 1 = n by omega]; exact q1
        · have := fv_fle (fv_nat (k := t + 1) (by omega)) hq
          rw [hb] at this
          exact Rat.not_le.1 (of_decide_eq_false this.symm)
      have hf := fv_trunc hq (k := (t : Int)) (by omega) b0 b1
      have hi : R.f2i .i64 x = (t : Int) := by show (flint x).getD 0 = _; rw [hf]; rfl
      have hok : R.f2iok .i64 x = true := by
        show (match flint x with | some n => decide (IntKind.i64.min ≤ n ∧ n ≤ IntKind.i64.max) | none => false) = true
        rw [hf]
        have hmin : IntKind.i64.min = -9223372036854775808 := by decide
        have hmax : IntKind.i64.max = 9223372036854775807 := by decide
        exact decide_eq_true (by rw [hmin, hmax]; omega)
      exact ⟨hi, hok⟩

theorem zr {a b : Int} (c : Bool) (ha : 0 ≤ a ∧ a ≤ 7) (hb : 0 ≤ b ∧ b ≤ 7) : 0 ≤ R.zite c a b ∧ R.zite c a b ≤ 7 := by cases c <;> assumption

theorem sector_rng (a b : Fl) : ∃ v : Int, S32_0 R a b = v ∧ 0 ≤ v ∧ v ≤ 7 := by
  refine ⟨_, rfl, ?_⟩
  have h : 0 ≤ WS32_0_3 R a b ∧ WS32_0_3 R a b ≤ 7 := by
    unfold WS32_0_3
    have c : ∀ k : Int, 0 ≤ k ∧ k ≤ 7 → 0 ≤ R.zc k ∧ R.zc k ≤ 7 := fun _ h => h
    exact zr _ (c 0 (by omega)) (zr _ (c 1 (by omega)) (zr _ (c 2 (by omega)) (zr _ (c 3 (by omega)) (zr _ (c 4 (by omega)) (zr _ (c 5 (by omega)) (zr _ (c 6 (by omega)) (c 7 (by omega))))))))
  unfold S32_0
  exact zr _ h (zr _ h h)

theorem finiteE (a b c : Fl) : S33_0 R a b c = S31_0 R a b c := by
  unfold S33_0 S31_0; rw [numberE, numberE, numberE]

/-- The cell of a direction, of two ways of reckoning. -/
theorem cellE {z : Nat} (z1 : 1 ≤ z) (z2 : z ≤ 16) (a2 a3 a4 : Fl) : ∃ c : Int, WS4_0_10 R (z : Int) a2 a3 a4 = c ∧ WS4_0_12 R (z : Int) a2 a3 a4 = c ∧ (c = -1 ∨ ∃ k : Nat, c = (k : Int) ∧ k < 8 * z) ∧
    WO4_15 R (z : Int) a2 a3 a4 = true ∧ WO4_21 R (z : Int) a2 a3 a4 = true := by
  unfold WS4_0_10 WS4_0_12 WO4_15 WO4_21
  rw [finiteE, (angleE a2 a3).2]
  cases hf : S31_0 R a2 a3 a4 with
  | false => exact ⟨-1, rfl, rfl, .inl rfl, rfl, rfl⟩
  | true =>
    have hz4 : S51_0 R a4 = true := by
      unfold S31_0 at hf
      cases h : S51_0 R a4 with
      | true => rfl
      | false => rw [h] at hf; generalize R.bite (S51_0 R a2) (S51_0 R a3) (R.bc false) = g at hf; cases g <;> cases hf
    obtain ⟨k4, hk4⟩ := numFin hz4
    obtain ⟨o, ho, _⟩ := fv_one
    have hs := key_sub ho hk4
    obtain ⟨c1, hc1⟩ := mulKey hs fv_half (by decide +kernel)
    have hzne : ((z : Nat) : Rat) ≠ 0 := by
      have : (0 : Rat) < (z : Rat) := Rat.natCast_pos.2 (by omega)
      exact Rat.ne_of_gt this
    obtain ⟨c2, hc2⟩ := mulKey hc1 (fv_nat (k := z) (by omega)) hzne
    obtain ⟨t, t1, e1, e2, e3, e4⟩ := zoneE hc2 z1 z2
    obtain ⟨sv, hsv, k0, k1⟩ := sector_rng a2 a3
    rw [hsv]
    have hL : WS4_0_11 R (z : Int) a4 = [.z (t : Int)] := e2
    have h9 : WS4_0_9 R (z : Int) a4 = R.flt (WS4_0_8 R (z : Int) a4) (R.fc 4607182418800017408) := rfl
    have hx : R.fmul (R.fmul (R.fsub (R.fc 4607182418800017408) a4) (R.fc 4602678819172646912)) (R.i2f (z : Int)) = WS4_0_8 R (z : Int) a4 := rfl
    rw [hx] at e1 e3 e4
    have hm : R.zmul .i64 (R.zc 8) (t : Int) = 8 * (t : Int) := zmul64 (x := 8) (y := (t : Int)) ⟨by omega, by omega⟩
    have ha : R.zadd .i64 (8 * (t : Int)) sv = 8 * (t : Int) + sv := zadd64 ⟨by omega, by omega⟩
    refine ⟨8 * (t : Int) + sv, ?_, ?_, .inr ⟨(8 * (t : Int) + sv).toNat, by omega, by omega⟩, ?_, ?_⟩
    · rw [h9, e3]; show R.zadd .i64 (R.zmul .i64 (R.zc 8) (t : Int)) _ = _; rw [hm, ha]
    · rw [hL]; show R.zadd .i64 (R.zmul .i64 (R.zc 8) (t : Int)) _ = _; rw [hm, ha]
    · show WO4_14 R (z : Int) a4 = true; exact e1
    · exact e4

/-- What is not badly shaped has eight cells a zone. -/
theorem shapeE {x0 : Int} {n : Nat} (h : R.bite (R.bite (R.zlt x0 (R.zc 1)) (R.bc true) (R.zlt (R.zc 16) x0)) (R.bc true) (R.bnot (R.zeq (n : Int) (R.zmul .i64 (R.zc 8) x0))) = false) : ∃ z : Nat, x0 = (z : Int) ∧ 1 ≤ z ∧ z ≤ 16 ∧ n = 8 * z := by
  by_cases a : x0 < 1
  · rw [zltT (show x0 < R.zc 1 from a)] at h; cases h
  · by_cases b : 16 < x0
    · rw [zltF (show ¬ x0 < R.zc 1 from a), zltT (show R.zc 16 < x0 from b)] at h; cases h
    · have hm8 : R.zmul .i64 (R.zc 8) x0 = 8 * x0 := zmul64 (x := 8) (y := x0) ⟨by omega, by omega⟩
      rw [hm8, zltF (show ¬ x0 < R.zc 1 from a), zltF (show ¬ R.zc 16 < x0 from b), zqi] at h
      by_cases e : (n : Int) = 8 * x0
      · exact ⟨x0.toNat, by omega, by omega, by omega, by omega⟩
      · rw [decide_eq_false e] at h; cases h

theorem sameSelf (x : Fl) : S17_0 R x x = true := by
  unfold S17_0
  generalize R.feq x x = b
  cases b <;> rfl

theorem good_self {x : Row} {k : Nat} (h : okAt x k = true) (j : Nat) (hj : j < 3) : R.feq (R.lf x (k : Int) j) (R.lf x (k : Int) j) = true := by
  obtain ⟨⟨a, ha, _⟩, ⟨b, hb, _⟩, ⟨c, hc, _⟩⟩ := goodFin h
  match j, hj with
  | 0, _ => exact (feq_iff _ _).2 ⟨a, a, ha.1, ha.1, rfl⟩
  | 1, _ => exact (feq_iff _ _).2 ⟨b, b, hb.1, hb.1, rfl⟩
  | 2, _ => exact (feq_iff _ _).2 ⟨c, c, hc.1, hc.1, rfl⟩

theorem feq00 : R.feq (R.fc 0) (R.fc 0) = true := by kernel_rfl

theorem law_EnvLooks (x0 : Int) (x1 : Row) (x2 x3 x4 : Fl) (_k0 : okInt .i64 x0) (_k1 : okRow [.f, .f, .f] x1) : O4 R x0 x1 x2 x3 x4 = true ∧ S4_0 R x0 x1 x2 x3 x4 = true := by
  have ow := aw_O7
  have sw := aw_S7_0
  obtain ⟨n, hlen⟩ : ∃ n, x1.length = n := ⟨_, rfl⟩
  have len : R.llen x1 = (n : Int) := by show ((x1.length : Nat) : Int) = _; rw [hlen]
  cases h0 : WS4_0_0 R x0 x1 with
  | true =>
    have o0 : WO4_0 R x0 x1 = true := h0
    have o3 : WO4_3 R x0 x1 = true := by unfold WO4_3; rw [o0]; rfl
    constructor
    · unfold O4 WO4_40; rw [o0, o3, ow]; rfl
    · unfold S4_0; rw [h0, sw]; rfl
  | false =>
    have o0 : WO4_0 R x0 x1 = false := h0
    obtain ⟨z, rfl, z1, z2, hz8⟩ := shapeE (n := n) (x0 := x0) (by rw [← len]; exact h0)
    have hn : n ≤ 1024 := by omega
    obtain ⟨m, m1, m2, m3⟩ := firstDark x1 n
    obtain ⟨c1, c2⟩ := cellsE hn m1 m2 m3
    obtain ⟨y1, y2⟩ := mayE hn m1 m2 m3
    obtain ⟨g1, g2⟩ := weightsE (x := x1) hn
    have s1 : WS4_0_1 R x1 = [.b false, .z (m : Int)] := by unfold WS4_0_1; rw [len]; exact y2
    have o1 : WO4_1 R x1 = true := by unfold WO4_1; rw [len]; exact y1
    by_cases hmn : m < n
    · have q1 : R.zlt (nthZ ([.b false, .z (m : Int)] : List (PD R)) 1) (n : Int) = true := zltT (show (m : Int) < (n : Int) by omega)
      have o2 : WO4_2 R x1 = [.b false, .z (m : Int)] := s1
      have o3 : WO4_3 R (z : Int) x1 = true := by unfold WO4_3; rw [o0, o2, len, q1]; rfl
      constructor
      · unfold O4 WO4_40; rw [o0, o1, o3, ow]; rfl
      · unfold S4_0; rw [h0, s1, len, q1, sw]; rfl
    have hm : m = n := by omega
    subst hm
    have nn : R.zlt (m : Int) (m : Int) = false := zltF (by omega)
    have q1 : R.zlt (nthZ ([.b false, .z (m : Int)] : List (PD R)) 1) (m : Int) = false := nn
    have q2 : R.zlt (nthZ ([.l (mk1 m (wAt x1)), .z 0, .z (m : Int)] : List (PD R)) 2) (m : Int) = false := nn
    have o2 : WO4_2 R x1 = [.b false, .z (m : Int)] := s1
    have o3 : WO4_3 R (z : Int) x1 = false := by unfold WO4_3; rw [o0, o2, len, q1]; rfl
    have hfine := wAt_fine x1 m
    have hnum : Num (mk1 m (wAt x1)) (wAt x1) m := fun i hi => mk1_at _ hi
    obtain ⟨t1, t2⟩ := totE (w := mk1 m (wAt x1)) (n := m) (m := m) (by omega) hnum (Nat.le_refl _) hfine (.inl rfl)
    obtain ⟨k1, k2⟩ := chkE (n := m) (m := m) (by omega) hnum (Nat.le_refl _) hfine (.inl rfl)
    have s2 : WS4_0_2 R x1 = [.l (mk1 m (wAt x1)), .z 0, .z (m : Int)] := by unfold WS4_0_2; rw [len]; exact c2
    have r2 : nthL (WS4_0_2 R x1) 0 = mk1 m (wAt x1) := by rw [s2]; rfl
    have l2 : R.llen (nthL (WS4_0_2 R x1) 0) = (m : Int) := by rw [r2, mk1_llen]
    have s3 : WS4_0_3 R x1 = false := by unfold WS4_0_3; rw [l2]; exact zltF (show ¬ (1024 : Int) < (m : Int) by omega)
    have s4 : WS4_0_4 R x1 = [.z 0, .z 0, .z (sm (wAt x1) m), .z (m : Int)] := by unfold WS4_0_4; rw [l2, r2]; exact k2
    have s5 : WS4_0_5 R x1 = false := by unfold WS4_0_5; rw [l2, s4]; exact nn
    have s6 : WS4_0_6 R x1 = false := by unfold WS4_0_6; rw [l2, zq0]; exact decide_eq_false (by omega)
    have s17 : WS4_0_17 R x1 = [.l (mk1 m (wAt x1)), .z (m : Int)] := by unfold WS4_0_17; rw [len]; exact g2
    have r17 : nthL (WS4_0_17 R x1) 0 = mk1 m (wAt x1) := by rw [s17]; rfl
    have s18 : WS4_0_18 R x1 = [.z 0, .z (sm (wAt x1) m), .z (m : Int)] := by unfold WS4_0_18; rw [r17, mk1_llen]; exact t2
    have s19 : WS4_0_19 R x1 = sm (wAt x1) m := by
      unfold WS4_0_19; rw [s18, r17, mk1_llen, show R.zlt (nthZ ([.z 0, .z (sm (wAt x1) m), .z (m : Int)] : List (PD R)) 2) (m : Int) = false from nn]; rfl
    have la : R.lsub x1 (R.zc 0) (m : Int) = x1 := by rw [← len]; exact lsub_all x1
    -- the cell
    obtain ⟨c, hc10, hc12, hc, o15, o21⟩ := cellE z1 z2 x2 x3 x4
    have cc : R.zeq c c = true := by rw [zqi]; exact decide_eq_true rfl
    have s13 : WS4_0_13 R (z : Int) x2 x3 x4 = true := by unfold WS4_0_13; rw [hc10, hc12, cc]
    have s14 : WS4_0_14 R (z : Int) x2 x3 x4 = R.zlt c (R.zc 0) := by unfold WS4_0_14; rw [hc10]
    have s15 : WS4_0_15 R (z : Int) x2 x3 x4 = R.zle (R.zc 0) c := by unfold WS4_0_15; rw [hc12]
    have s16 : WS4_0_16 R (z : Int) x1 x2 x3 x4 = true := by
      unfold WS4_0_16
      rw [s14, s15, hc10, hc12, len, la]
      rcases hc with rfl | ⟨k, rfl, hk⟩
      · have a : R.zlt (-1 : Int) (R.zc 0) = true := rfl
        have b : R.zle (R.zc 0) (-1 : Int) = false := rfl
        rw [a, b]
        have u1 : ∀ y : Fl, R.fite true (R.fc 0) y = R.fc 0 := fun _ => rfl
        have u2 : ∀ y : Fl, R.fite false y (R.fc 0) = R.fc 0 := fun _ => rfl
        rw [u1, u1, u1, u2, u2, u2, feq00]; rfl
      · have a : R.zlt (k : Int) (R.zc 0) = false := zltF (show ¬ (k : Int) < 0 by omega)
        rw [a, zge0]
        have u1 : ∀ x y : Fl, R.fite false x y = y := fun _ _ => rfl
        have u2 : ∀ x y : Fl, R.fite true x y = x := fun _ _ => rfl
        rw [u1, u1, u1, u2, u2, u2, good_self (m2 k (by omega)) 0 (by decide), good_self (m2 k (by omega)) 1 (by decide), good_self (m2 k (by omega)) 2 (by decide)]; rfl
    -- the rest of what must go well
    have o4 : WO4_4 R x1 = true := by unfold WO4_4; rw [len]; exact c1
    have o5 : WO4_5 R x1 = [.l (mk1 m (wAt x1)), .z 0, .z (m : Int)] := s2
    have o6 : WO4_6 R x1 = (m : Int) := by unfold WO4_6; rw [len, la, len]
    have o7 : WO4_7 R x1 = false := s3
    have o8 : WO4_8 R x1 = true := by
      have : WO4_8 R x1 = E2 R (R.llen (nthL (WS4_0_2 R x1) 0)) (R.llen (nthL (WS4_0_2 R x1) 0)) (nthL (WS4_0_2 R x1) 0) (R.zc 0) (R.zc 0) (R.zc 0) (R.zc 0) := rfl
      rw [this, l2, r2]; exact k1
    have o10 : WO4_10 R x1 = false := s5
    have o11 : WO4_11 R x1 = false := s6
    have o17 : WO4_17 R (z : Int) x2 x3 x4 = c := hc12
    have o22 : WO4_22 R (z : Int) x2 x3 x4 = c := hc10
    have rng : R.bite (R.zlt c (R.zc 0)) (R.bc true) (R.band (R.zle (R.zc 0) c) (R.zlt c (m : Int))) = true := by
      rcases hc with rfl | ⟨k, rfl, hk⟩
      · rfl
      · rw [zge0, zltT (show (k : Int) < (m : Int) by omega)]; cases R.zlt (k : Int) (R.zc 0) <;> rfl
    have o18 : WO4_18 R (z : Int) x1 x2 x3 x4 = true := by
      unfold WO4_18; rw [o17, len]
      rcases hc with rfl | ⟨k, rfl, hk⟩
      · rfl
      · rw [zge0, zltT (show (k : Int) < (m : Int) by omega)]; rfl
    have o23 : WO4_23 R (z : Int) x2 x3 x4 = true := s13
    have o24 : WO4_24 R (z : Int) x1 x2 x3 x4 = true := by unfold WO4_24; rw [o21, o22, o6, rng]; rfl
    have o25 : WO4_25 R (z : Int) x1 x2 x3 x4 = true := s16
    have o26 : WO4_26 R x1 = true := by unfold WO4_26; rw [len]; exact g1
    have o28 : WO4_28 R x1 = true := by
      have : WO4_28 R x1 = E7 R (R.llen (nthL (WS4_0_17 R x1) 0)) (nthL (WS4_0_17 R x1) 0) (R.zc 0) (R.zc 0) (R.zc 0) := rfl
      rw [this, r17, mk1_llen]; exact t1
    have lo27 : R.llen (nthL (WO4_27 R x1) 0) = (m : Int) := by
      have : WO4_27 R x1 = WS4_0_17 R x1 := rfl
      rw [this, r17, mk1_llen]
    have o30 : WO4_30 R (z : Int) x1 x2 x3 x4 = true := by
      unfold WO4_30
      rw [o15, o26, o28, o17, lo27]
      rcases hc with rfl | ⟨k, rfl, hk⟩
      · rfl
      · rw [zge0, zltT (show (k : Int) < (m : Int) by omega)]
        generalize R.bite (R.zlt (k : Int) (R.zc 0)) _ _ = g
        cases g <;> rfl
    have rl : R.zle (WO4_6 R x1) (R.zc 1073741824) = true := by rw [o6]; exact zleT (show (m : Int) ≤ 1073741824 by omega)
    by_cases hz : sm (wAt x1) m = 0
    · have zz : R.zeq (sm (wAt x1) m) (R.zc 0) = true := (zqi _ _).trans (decide_eq_true hz)
      have s7 : WS4_0_7 R x1 = true := by unfold WS4_0_7; rw [s6, s4]; exact zz
      have o12 : WO4_12 R x1 = true := s7
      have s21 : WS4_0_21 R (z : Int) x1 x2 x3 x4 = R.fc 0 := by
        unfold WS4_0_21
        rw [s19, hz, show R.zle (0 : Int) (R.zc 0) = true from rfl]
        generalize R.zlt (WS4_0_12 R (z : Int) x2 x3 x4) (R.zc 0) = g
        cases g <;> rfl
      constructor
      · unfold O4 WO4_40
        rw [o0, o1, o3, o4, o5, len, q2, rl, o7, o8, o10, o11, o12, o15, o18, o21, o23, o24, o25, o30, ow, sw]; rfl
      · unfold S4_0
        rw [h0, s1, len, q1, s2, q2, s3, s5, s6, s7, s13, s16, s21, sameSelf, sw]; rfl
    · have zz : R.zeq (sm (wAt x1) m) (R.zc 0) = false := (zqi _ _).trans (decide_eq_false hz)
      have hsp := (Fine.sum hfine).1
      have s7 : WS4_0_7 R x1 = false := by unfold WS4_0_7; rw [s6, s4]; exact zz
      have o12 : WO4_12 R x1 = false := s7
      have hw : Wts m (sm (wAt x1) m) (wAt x1) := ⟨by omega, hn, hfine, rfl, by omega⟩
      obtain ⟨n1, n2⟩ := newE hw hnum
      obtain ⟨s, v, hg, ⟨p1, p2⟩, _⟩ := pairsE hw
      have ol : R.llen (nthL (WO4_5 R x1) 0) = (m : Int) := l2
      have orr : nthL (WO4_5 R x1) 0 = mk1 m (wAt x1) := r2
      have rn : R.zle (m : Int) (R.zc 1073741824) = true := zleT (show (m : Int) ≤ 1073741824 by omega)
      have o31 : WO4_31 R x1 = true := by unfold WO4_31; rw [ol]; exact rn
      have o32 : WO4_32 R x1 = true := by unfold WO4_32; rw [ol, zge0, o31]; rfl
      have o9 : WO4_9 R x1 = _ := s4
      have o33 : WO4_33 R x1 = sm (wAt x1) m := by unfold WO4_33; rw [o7, o10, o12, o9]; rfl
      have o36 : WO4_36 R x1 = true := by unfold WO4_36 WO4_34 WO4_35; rw [ol, orr, o33]; exact n1
      have o37 : WO4_37 R x1 = [.l (mkl (st0 m (sm (wAt x1) m) (wAt x1)).lt), .l (mkl (st0 m (sm (wAt x1) m) (wAt x1)).hv), .z (m : Int), .l (mk2 m (st0 m (sm (wAt x1) m) (wAt x1)).T (st0 m (sm (wAt x1) m) (wAt x1)).A), .l (mk1 m (st0 m (sm (wAt x1) m) (wAt x1)).H)] := by
        unfold WO4_37 WO4_34 WO4_35; rw [ol, orr, o33]; exact n2
      have o38 : WO4_38 R x1 = true := by unfold WO4_38; rw [ol, o33, o37]; exact p1
      have o39 : WO4_39 R (z : Int) x1 x2 x3 x4 = R.zlt c (m : Int) := by unfold WO4_39; rw [o22, ol]
      have tau : R.bite (R.bite (R.zlt c (R.zc 0)) (R.bc true) (R.bc false)) (R.bc true) (R.bite (R.bnot (R.bite (R.zle (R.zc 0) c) (R.zlt c (m : Int)) (R.bc false))) (R.bc true) (R.band (R.zle (R.zc 0) c) (R.zlt c (m : Int)))) = true := by
        cases R.zlt c (R.zc 0) <;> cases R.zle (R.zc 0) c <;> cases R.zlt c (m : Int) <;> rfl
      constructor
      · unfold O4 WO4_40
        rw [o39, o22, tau, o0, o1, o3, o4, len, rl, o7, o8, o10, o11, o12, o15, o18, o21, o23, o24, o25, o30, o31, o32, o36, o38, o5, q2, ow, sw]; rfl
      · have d4 : nthZ (WS4_0_4 R x1) 2 = sm (wAt x1) m := by rw [s4]; rfl
        have t0 : R.zite false (R.zc 0) (R.zite false (R.zc 0) (R.zite false (R.zc 0) (sm (wAt x1) m))) = sm (wAt x1) m := rfl
        have hle : R.zle (sm (wAt x1) m) (R.zc 0) = false := zleF (show ¬ sm (wAt x1) m ≤ 0 by omega)
        have hsame : S17_0 R (R.fite (R.bite (R.zlt c (R.zc 0)) (R.bc true) (R.bc false)) (R.fc 0) (R.fmul (R.fmul (R.fite (R.bnot (R.bite (R.zle (R.zc 0) c) (R.zlt c (m : Int)) (R.bc false))) (R.fc 0) (R.fdiv (R.i2f (R.lz (mk1 m (wAt x1)) c 0)) (R.i2f (sm (wAt x1) m)))) (WS4_0_20 R (z : Int))) (R.fadd (R.fc 4607182418800017408) (R.fmul (S32_1 R x2 x3) (S32_1 R x2 x3))))) (WS4_0_21 R (z : Int) x1 x2 x3 x4) = true := by
          unfold WS4_0_21
          rw [hc12, s19, r17, hle]
          rcases hc with rfl | ⟨k, rfl, hk⟩
          · exact sameSelf _
          · rw [zltF (show ¬ (k : Int) < R.zc 0 from show ¬ (k : Int) < 0 by omega), zge0, zltT (show (k : Int) < (m : Int) by omega)]
            exact sameSelf _
        unfold S4_0
        rw [d4, s14, hc10, l2, r2, (angleE x2 x3).1, s3, s5, s6, s7, t0, hsame, h0, s1, len, q1, s2, q2, s13, s16, sw]; rfl

end Go.Proofs.Ytjmanmdkdgnfmaa
