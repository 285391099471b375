/- The law BoxWithin over floats alone. -/
import Derived.Test.YtlafnmdefhpeeaaCm
namespace Go.Proofs.Ytlafnmdefhpeeaa
open Go.Ev

def axN (z : Bool) (n x : Fl) : Fl := if z then n else S24_0 R n x
def axF (z : Bool) (f y : Fl) : Fl := if z then f else S25_0 R f y
def axX (lo hi o i : Fl) : Fl := R.fmul (R.fsub (R.fite (R.flt i (R.fc 0)) hi lo) o) i
def axY (lo hi o i : Fl) : Fl := R.fmul (R.fsub (R.fite (R.flt i (R.fc 0)) lo hi) o) i
def axW (lo hi o : Fl) : Bool := R.bite (R.fle lo o) (R.fle o hi) (R.bc false)
def axI (d : Fl) : Fl := R.fdiv (R.fc 4607182418800017408) d
def axZ (d : Fl) : Bool := R.feq d (R.fc 0)

def thrN (a0 a1 a2 a3 a4 a5 a6 a7 a8 a9 a10 a11 : Fl) : Fl :=
  axN (axZ a11) (axN (axZ a10) (axN (axZ a9) (R.fc 0) (axX a0 a3 a6 (axI a9))) (axX a1 a4 a7 (axI a10))) (axX a2 a5 a8 (axI a11))
def thrF (a0 a1 a2 a3 a4 a5 a6 a7 a8 a9 a10 a11 : Fl) : Fl :=
  axF (axZ a11) (axF (axZ a10) (axF (axZ a9) (R.fc 9218868437227405312) (axY a0 a3 a6 (axI a9))) (axY a1 a4 a7 (axI a10))) (axY a2 a5 a8 (axI a11))
def thrOk (a0 a1 a2 a3 a4 a5 a6 a7 a8 a9 a10 a11 : Fl) : Bool :=
  S20_0 R a6 a7 a8 && (S20_0 R a9 a10 a11 && ((!axZ a9 || axW a0 a3 a6) && ((!axZ a10 || axW a1 a4 a7) && ((!axZ a11 || axW a2 a5 a8) &&
    R.fle (thrN a0 a1 a2 a3 a4 a5 a6 a7 a8 a9 a10 a11) (thrF a0 a1 a2 a3 a4 a5 a6 a7 a8 a9 a10 a11)))))

theorem throughS (a0 a1 a2 a3 a4 a5 a6 a7 a8 a9 a10 a11 : Fl) :
    S6_2 R a0 a1 a2 a3 a4 a5 a6 a7 a8 a9 a10 a11 = thrOk a0 a1 a2 a3 a4 a5 a6 a7 a8 a9 a10 a11 ∧
    (thrOk a0 a1 a2 a3 a4 a5 a6 a7 a8 a9 a10 a11 = true → S6_0 R a0 a1 a2 a3 a4 a5 a6 a7 a8 a9 a10 a11 = thrN a0 a1 a2 a3 a4 a5 a6 a7 a8 a9 a10 a11 ∧
      S6_1 R a0 a1 a2 a3 a4 a5 a6 a7 a8 a9 a10 a11 = thrF a0 a1 a2 a3 a4 a5 a6 a7 a8 a9 a10 a11) := by
  have pA : ∀ a b c : Fl, S22_0 R a b c (R.zc 0) = a := fun _ _ _ => rfl
  have pB : ∀ a b c : Fl, S22_0 R a b c (R.zc 1) = b := fun _ _ _ => rfl
  have pC : ∀ a b c : Fl, S22_0 R a b c (R.zc 2) = c := fun _ _ _ => rfl
  unfold S6_0 S6_1 S6_2 thrOk thrN thrF axX axY axW axI axZ
  rw [pA a0 a1 a2, pA a3 a4 a5, pA a6 a7 a8, pA a9 a10 a11, pB a0 a1 a2, pB a3 a4 a5, pB a6 a7 a8, pB a9 a10 a11, pC a0 a1 a2, pC a3 a4 a5, pC a6 a7 a8, pC a9 a10 a11]
  generalize S20_0 R a6 a7 a8 = f1
  generalize S20_0 R a9 a10 a11 = f2
  generalize R.feq a9 (R.fc 0) = z0
  generalize R.feq a10 (R.fc 0) = z1
  generalize R.feq a11 (R.fc 0) = z2
  generalize R.bite (R.fle a0 a6) (R.fle a6 a3) (R.bc false) = w0
  generalize R.bite (R.fle a1 a7) (R.fle a7 a4) (R.bc false) = w1
  generalize R.bite (R.fle a2 a8) (R.fle a8 a5) (R.bc false) = w2
  generalize R.fdiv (R.fc 4607182418800017408) a9 = i0
  generalize R.fdiv (R.fc 4607182418800017408) a10 = i1
  generalize R.fdiv (R.fc 4607182418800017408) a11 = i2
  generalize R.fmul (R.fsub (R.fite (R.flt i0 (R.fc 0)) a3 a0) a6) i0 = x0
  generalize R.fmul (R.fsub (R.fite (R.flt i0 (R.fc 0)) a0 a3) a6) i0 = y0
  generalize R.fmul (R.fsub (R.fite (R.flt i1 (R.fc 0)) a4 a1) a7) i1 = x1
  generalize R.fmul (R.fsub (R.fite (R.flt i1 (R.fc 0)) a1 a4) a7) i1 = y1
  generalize R.fmul (R.fsub (R.fite (R.flt i2 (R.fc 0)) a5 a2) a8) i2 = x2
  generalize R.fmul (R.fsub (R.fite (R.flt i2 (R.fc 0)) a2 a5) a8) i2 = y2
  have sel : ∀ (b : Bool) (u v : Fl), b = true → u = R.fite (R.bnot b) v u := fun b u v h => by subst h; rfl
  have selb : ∀ b : Bool, b = R.bite (R.bnot b) (R.bc false) (R.bc true) := fun b => by cases b <;> rfl
  cases f1
  · exact ⟨rfl, fun h => nomatch h⟩
  cases f2
  · exact ⟨rfl, fun h => nomatch h⟩
  cases z0 <;> cases z1 <;> cases z2 <;> cases w0 <;> cases w1 <;> cases w2 <;> first
    | exact ⟨rfl, fun h => (Bool.false_ne_true h).elim⟩
    | exact ⟨Eq.symm (selb _), fun h => ⟨Eq.symm (Eq.trans (sel _ _ (R.fc 0) h) rfl), Eq.symm (Eq.trans (sel _ _ (R.fc 0) h) rfl)⟩⟩

/-- The order of what may be no number: 'near' is lowered, 'far' is raised. -/
theorem more_key {n x : Fl} {k : Int} (hn : fkey n = some k) : ∃ j, fkey (S24_0 R n x) = some j ∧ k ≤ j ∧ (∀ p, fkey x = some p → p ≤ j) ∧ (j = k ∨ fkey x = some j) := by
  unfold S24_0
  cases h : R.fgt x n with
  | true =>
    obtain ⟨p, q, h1, h2, h3⟩ := (fgt_iff _ _).1 h
    rw [hn] at h2; cases h2
    exact ⟨p, h1, Int.le_of_lt h3, fun r hr => by rw [h1] at hr; cases hr; exact Int.le_refl _, .inr h1⟩
  | false =>
    refine ⟨k, hn, Int.le_refl _, fun p hp => ?_, .inl rfl⟩
    refine Int.not_lt.1 fun g => ?_
    have : R.fgt x n = true := (fgt_iff _ _).2 ⟨p, k, hp, hn, g⟩
    rw [h] at this; cases this

theorem less_key {n x : Fl} {k : Int} (hn : fkey n = some k) : ∃ j, fkey (S25_0 R n x) = some j ∧ j ≤ k ∧ (∀ p, fkey x = some p → j ≤ p) ∧ (j = k ∨ fkey x = some j) := by
  unfold S25_0
  cases h : R.flt x n with
  | true =>
    obtain ⟨p, q, h1, h2, h3⟩ := (flt_iff _ _).1 h
    rw [hn] at h2; cases h2
    exact ⟨p, h1, Int.le_of_lt h3, fun r hr => by rw [h1] at hr; cases hr; exact Int.le_refl _, .inr h1⟩
  | false =>
    refine ⟨k, hn, Int.le_refl _, fun p hp => ?_, .inl rfl⟩
    refine Int.not_lt.1 fun g => ?_
    have : R.flt x n = true := (flt_iff _ _).2 ⟨p, k, hp, hn, g⟩
    rw [h] at this; cases this

/-- One axis: the greater box is entered no later, and left no earlier. -/
theorem axis_step {lo hi Lo Hi o d n N f F : Fl} {kl kh kL kH ko kd kn kN kf kF : Int} (hl : fin lo kl) (hh : fin hi kh) (hL : fin Lo kL) (hH : fin Hi kH) (ho : fin o ko) (hd : fin d kd)
    (h1 : kL ≤ kl) (h2 : kh ≤ kH) (hn : fkey n = some kn) (hN : fkey N = some kN) (hf : fkey f = some kf) (hF : fkey F = some kF) (n0 : 0 ≤ kN) (f0 : kF ≤ topKey) (h3 : kN ≤ kn) (h4 : kf ≤ kF) :
    ∃ jn jN jf jF, fkey (axN (axZ d) n (axX lo hi o (axI d))) = some jn ∧ fkey (axN (axZ d) N (axX Lo Hi o (axI d))) = some jN ∧ fkey (axF (axZ d) f (axY lo hi o (axI d))) = some jf ∧ fkey (axF (axZ d) F (axY Lo Hi o (axI d))) = some jF ∧
      0 ≤ jN ∧ jF ≤ topKey ∧ jN ≤ jn ∧ jf ≤ jF := by
  have tp := topKey_pos
  cases hz : axZ d with
  | true => exact ⟨kn, kN, kf, kF, hn, hN, hf, hF, n0, f0, h3, h4⟩
  | false =>
    have hk0 : kd ≠ 0 := by
      intro e
      subst e
      have : axZ d = true := (feq_iff _ _).2 ⟨0, 0, hd.1, fkey_zero, rfl⟩
      rw [hz] at this; cases this
    obtain ⟨ki, hi1, hi2, hi3⟩ := recip_sign hd hk0
    have hi1' : fkey (axI d) = some ki := hi1
    show ∃ jn jN jf jF, fkey (S24_0 R n (axX lo hi o (axI d))) = some jn ∧ fkey (S24_0 R N (axX Lo Hi o (axI d))) = some jN ∧ fkey (S25_0 R f (axY lo hi o (axI d))) = some jf ∧ fkey (S25_0 R F (axY Lo Hi o (axI d))) = some jF ∧ _
    obtain ⟨jn, a1, a2, a3, a4⟩ := more_key (x := axX lo hi o (axI d)) hn
    obtain ⟨jN, b1, b2, b3, b4⟩ := more_key (x := axX Lo Hi o (axI d)) hN
    obtain ⟨jf, c1, c2, c3, c4⟩ := less_key (x := axY lo hi o (axI d)) hf
    obtain ⟨jF, d1, d2, d3, d4⟩ := less_key (x := axY Lo Hi o (axI d)) hF
    -- what is entered
    have hx : (∀ p q, fkey (axX Lo Hi o (axI d)) = some p → fkey (axX lo hi o (axI d)) = some q → p ≤ q) ∧ (fkey (axX lo hi o (axI d)) = none → fkey (axX Lo Hi o (axI d)) = none ∨ fkey (axX Lo Hi o (axI d)) = some (-topKey)) := by
      unfold axX
      cases hs : R.flt (axI d) (R.fc 0) with
      | true =>
        have hneg : ki < 0 := by
          obtain ⟨p, q, e1, e2, e3⟩ := (flt_iff _ _).1 hs
          have e2' : fkey (cls 0) = some q := e2
          rw [hi1'] at e1; rw [fkey_zero] at e2'; cases e1; cases e2'; exact e3
        have m := mul_down (i := axI d) (key_sub hh ho) (key_sub hH ho) hi1' hneg (rndL_mono 0 (by omega))
        exact ⟨fun p q hp hq => m.1 q p hq hp, m.2.1⟩
      | false =>
        have hpos : 0 < ki := by
          have : ¬ ki < 0 := fun g => by
            have : R.flt (axI d) (R.fc 0) = true := (flt_iff _ _).2 ⟨ki, 0, hi1', fkey_zero, g⟩
            rw [hs] at this; cases this
          omega
        have m := mul_up (i := axI d) (key_sub hL ho) (key_sub hl ho) hi1' hpos (rndL_mono 0 (by omega))
        exact ⟨m.1, m.2.2⟩
    have hy : (∀ p q, fkey (axY lo hi o (axI d)) = some p → fkey (axY Lo Hi o (axI d)) = some q → p ≤ q) ∧ (fkey (axY lo hi o (axI d)) = none → fkey (axY Lo Hi o (axI d)) = none ∨ fkey (axY Lo Hi o (axI d)) = some topKey) := by
      unfold axY
      cases hs : R.flt (axI d) (R.fc 0) with
      | true =>
        have hneg : ki < 0 := by
          obtain ⟨p, q, e1, e2, e3⟩ := (flt_iff _ _).1 hs
          have e2' : fkey (cls 0) = some q := e2
          rw [hi1'] at e1; rw [fkey_zero] at e2'; cases e1; cases e2'; exact e3
        have m := mul_down (i := axI d) (key_sub hL ho) (key_sub hl ho) hi1' hneg (rndL_mono 0 (by omega))
        exact ⟨fun p q hp hq => m.1 q p hq hp, m.2.2⟩
      | false =>
        have hpos : 0 < ki := by
          have : ¬ ki < 0 := fun g => by
            have : R.flt (axI d) (R.fc 0) = true := (flt_iff _ _).2 ⟨ki, 0, hi1', fkey_zero, g⟩
            rw [hs] at this; cases this
          omega
        have m := mul_up (i := axI d) (key_sub hh ho) (key_sub hH ho) hi1' hpos (rndL_mono 0 (by omega))
        exact ⟨m.1, m.2.1⟩
    refine ⟨jn, jN, jf, jF, a1, b1, c1, d1, by omega, by omega, ?_, ?_⟩
    · rcases b4 with rfl | b4
      · omega
      · cases hq : fkey (axX lo hi o (axI d)) with
        | some q =>
          have g1 := hx.1 jN q b4 hq
          have g2 := a3 q hq
          omega
        | none =>
          rcases hx.2 hq with g | g
          · rw [b4] at g; cases g
          · rw [b4] at g; cases g; omega
    · rcases d4 with rfl | d4
      · omega
      · cases hq : fkey (axY lo hi o (axI d)) with
        | some q =>
          have g1 := hy.1 q jF hq d4
          have g2 := c3 q hq
          omega
        | none =>
          rcases hy.2 hq with g | g
          · rw [d4] at g; cases g
          · rw [d4] at g; cases g
            have := (key_le_top c1).1
            exact this

theorem finite3 {a b c : Fl} (h : S18_0 R a b c = true) : (∃ k, fin a k) ∧ (∃ k, fin b k) ∧ (∃ k, fin c k) := by
  unfold S18_0 at h
  have oa := @numFin a
  have ob := @numFin b
  have oc := @numFin c
  generalize S33_0 R a = p at *
  generalize S33_0 R b = q at *
  generalize S33_0 R c = r at *
  cases p <;> cases q <;> cases r <;> first | (cases h; done) | exact ⟨oa rfl, ob rfl, oc rfl⟩

theorem vfinite3 {a b c : Fl} (h : S20_0 R a b c = true) : (∃ k, fin a k) ∧ (∃ k, fin b k) ∧ (∃ k, fin c k) := by
  have e : S20_0 R a b c = S18_0 R a b c := by
    unfold S20_0 S18_0
    rw [numberE, numberE, numberE]
  exact finite3 (e ▸ h)

theorem low_key {a b : Fl} {i j : Int} (ha : fin a i) (hb : fin b j) : ∃ k, fin (S28_0 R a b) k ∧ k ≤ j := by
  unfold S28_0
  cases h : R.flt b a with
  | true => exact ⟨j, hb, Int.le_refl _⟩
  | false =>
    refine ⟨i, ha, Int.not_lt.1 fun g => ?_⟩
    have : R.flt b a = true := (flt_iff _ _).2 ⟨j, i, hb.1, ha.1, g⟩
    rw [h] at this; cases this

theorem high_key {a b : Fl} {i j : Int} (ha : fin a i) (hb : fin b j) : ∃ k, fin (S27_0 R a b) k ∧ j ≤ k := by
  unfold S27_0
  cases h : R.fgt b a with
  | true => exact ⟨j, hb, Int.le_refl _⟩
  | false =>
    refine ⟨i, ha, Int.not_lt.1 fun g => ?_⟩
    have : R.fgt b a = true := (fgt_iff _ _).2 ⟨j, i, hb.1, ha.1, g⟩
    rw [h] at this; cases this

theorem within_w {lo hi Lo Hi o : Fl} {kl kh kL kH : Int} (hl : fin lo kl) (hh : fin hi kh) (hL : fin Lo kL) (hH : fin Hi kH) (h1 : kL ≤ kl) (h2 : kh ≤ kH) (h : axW lo hi o = true) : axW Lo Hi o = true := by
  unfold axW at h ⊢
  cases e1 : R.fle lo o with
  | false => rw [e1] at h; cases h
  | true =>
    rw [e1] at h
    have e2 : R.fle o hi = true := h
    obtain ⟨p, q, g1, g2, g3⟩ := (fle_iff _ _).1 e1
    obtain ⟨p', q', g1', g2', g3'⟩ := (fle_iff _ _).1 e2
    rw [hl.1] at g1; cases g1
    rw [hh.1] at g2'; cases g2'
    rw [g2] at g1'; cases g1'
    have i1 : R.fle Lo o = true := (fle_iff _ _).2 ⟨kL, q, hL.1, g2, by omega⟩
    have i2 : R.fle o Hi = true := (fle_iff _ _).2 ⟨q, kH, g2, hH.1, by omega⟩
    rw [i1, i2]
    rfl

theorem inf_key : fkey (R.fc 9218868437227405312) = some topKey := by
  show fkey (cls 9218868437227405312) = some topKey
  have h : f64.read 9218868437227405312 = .infinity false := by decide +kernel
  rw [cls_key, h]
  rfl

theorem within (l0 l1 l2 h0 h1 h2 L0 L1 L2 H0 H1 H2 o0 o1 o2 d0 d1 d2 : Fl)
    (f0 : ∃ a b c d : Int, fin l0 a ∧ fin h0 b ∧ fin L0 c ∧ fin H0 d ∧ c ≤ a ∧ b ≤ d) (f1 : ∃ a b c d : Int, fin l1 a ∧ fin h1 b ∧ fin L1 c ∧ fin H1 d ∧ c ≤ a ∧ b ≤ d) (f2 : ∃ a b c d : Int, fin l2 a ∧ fin h2 b ∧ fin L2 c ∧ fin H2 d ∧ c ≤ a ∧ b ≤ d)
    (h : thrOk l0 l1 l2 h0 h1 h2 o0 o1 o2 d0 d1 d2 = true) : thrOk L0 L1 L2 H0 H1 H2 o0 o1 o2 d0 d1 d2 = true ∧
      R.fle (thrN L0 L1 L2 H0 H1 H2 o0 o1 o2 d0 d1 d2) (thrN l0 l1 l2 h0 h1 h2 o0 o1 o2 d0 d1 d2) = true ∧ R.fge (thrF L0 L1 L2 H0 H1 H2 o0 o1 o2 d0 d1 d2) (thrF l0 l1 l2 h0 h1 h2 o0 o1 o2 d0 d1 d2) = true := by
  have tp := topKey_pos
  unfold thrOk at h ⊢
  simp only [Bool.and_eq_true] at h ⊢
  obtain ⟨g1, g2, g3, g4, g5, g6⟩ := h
  obtain ⟨⟨a0, u0⟩, ⟨a1, u1⟩, ⟨a2, u2⟩⟩ := vfinite3 g1
  obtain ⟨⟨b0, v0⟩, ⟨b1, v1⟩, ⟨b2, v2⟩⟩ := vfinite3 g2
  obtain ⟨p0, q0, r0, s0, p0h, q0h, r0h, s0h, c0, e0⟩ := f0
  obtain ⟨p1, q1, r1, s1, p1h, q1h, r1h, s1h, c1, e1⟩ := f1
  obtain ⟨p2, q2, r2, s2, p2h, q2h, r2h, s2h, c2, e2⟩ := f2
  obtain ⟨n1, N1, F1, G1, x1, x2, x3, x4, x5, x6, x7, x8⟩ := axis_step p0h q0h r0h s0h u0 v0 c0 e0 fkey_zero fkey_zero inf_key inf_key (Int.le_refl _) (Int.le_refl _) (Int.le_refl _) (Int.le_refl _)
  obtain ⟨n2, N2, F2, G2, y1, y2, y3, y4, y5, y6, y7, y8⟩ := axis_step p1h q1h r1h s1h u1 v1 c1 e1 x1 x2 x3 x4 x5 x6 x7 x8
  obtain ⟨n3, N3, F3, G3, z1, z2, z3, z4, z5, z6, z7, z8⟩ := axis_step p2h q2h r2h s2h u2 v2 c2 e2 y1 y2 y3 y4 y5 y6 y7 y8
  have k1 : fkey (thrN l0 l1 l2 h0 h1 h2 o0 o1 o2 d0 d1 d2) = some n3 := z1
  have k2 : fkey (thrN L0 L1 L2 H0 H1 H2 o0 o1 o2 d0 d1 d2) = some N3 := z2
  have k3 : fkey (thrF l0 l1 l2 h0 h1 h2 o0 o1 o2 d0 d1 d2) = some F3 := z3
  have k4 : fkey (thrF L0 L1 L2 H0 H1 H2 o0 o1 o2 d0 d1 d2) = some G3 := z4
  obtain ⟨i, j, m1, m2, m3⟩ := (fle_iff _ _).1 g6
  rw [k1] at m1; cases m1
  rw [k3] at m2; cases m2
  have wk : ∀ {z w w' : Bool}, (!z || w) = true → (w = true → w' = true) → (!z || w') = true := by
    intro z w w' h h'
    cases z
    · rfl
    · cases w
      · cases h
      · simpa using h' rfl
  refine ⟨⟨g1, g2, wk g3 (within_w p0h q0h r0h s0h c0 e0), wk g4 (within_w p1h q1h r1h s1h c1 e1), wk g5 (within_w p2h q2h r2h s2h c2 e2), (fle_iff _ _).2 ⟨N3, G3, k2, k4, by omega⟩⟩, (fle_iff _ _).2 ⟨N3, n3, k2, k1, z7⟩, (fge_iff _ _).2 ⟨G3, F3, k4, k3, z8⟩⟩

theorem has_join {x y z X Y Z u v w U V W : Fl} (hx : ∃ a c : Int, fin x a ∧ fin X c ∧ c ≤ a) (hy : ∃ a c : Int, fin y a ∧ fin Y c ∧ c ≤ a) (hz : ∃ a c : Int, fin z a ∧ fin Z c ∧ c ≤ a)
    (hu : ∃ a c : Int, fin u a ∧ fin U c ∧ a ≤ c) (hv : ∃ a c : Int, fin v a ∧ fin V c ∧ a ≤ c) (hw : ∃ a c : Int, fin w a ∧ fin W c ∧ a ≤ c) : S19_0 R X Y Z U V W x y z u v w = true := by
  have lt : ∀ {p P : Fl}, (∃ a c : Int, fin p a ∧ fin P c ∧ c ≤ a) → R.flt p P = false := by
    rintro p P ⟨a, c, h1, h2, h3⟩
    cases e : R.flt p P with
    | false => rfl
    | true =>
      obtain ⟨i, j, g1, g2, g3⟩ := (flt_iff _ _).1 e
      rw [h1.1] at g1; rw [h2.1] at g2; cases g1; cases g2; omega
  have gt : ∀ {p P : Fl}, (∃ a c : Int, fin p a ∧ fin P c ∧ a ≤ c) → R.fgt p P = false := by
    rintro p P ⟨a, c, h1, h2, h3⟩
    cases e : R.fgt p P with
    | false => rfl
    | true =>
      obtain ⟨i, j, g1, g2, g3⟩ := (fgt_iff _ _).1 e
      rw [h1.1] at g1; rw [h2.1] at g2; cases g1; cases g2; omega
  have pA : ∀ a b c : Fl, S22_0 R a b c (R.zc 0) = a := fun _ _ _ => rfl
  have pB : ∀ a b c : Fl, S22_0 R a b c (R.zc 1) = b := fun _ _ _ => rfl
  have pC : ∀ a b c : Fl, S22_0 R a b c (R.zc 2) = c := fun _ _ _ => rfl
  unfold S19_0
  rw [pA x y z, pA X Y Z, pA u v w, pA U V W, pB x y z, pB X Y Z, pB u v w, pB U V W, pC x y z, pC X Y Z, pC u v w, pC U V W, lt hx, lt hy, lt hz, gt hu, gt hv, gt hw]
  rfl

theorem law_BoxWithin (x0 x1 x2 x3 x4 x5 x6 x7 x8 x9 x10 x11 x12 x13 x14 x15 x16 x17 : Fl) : S5_0 R x0 x1 x2 x3 x4 x5 x6 x7 x8 x9 x10 x11 x12 x13 x14 x15 x16 x17 = true := by
  unfold S5_0
  rw [awake04]
  cases e1 : S18_0 R x0 x1 x2 with
  | false => rfl
  | true =>
    cases e2 : S18_0 R x3 x4 x5 with
    | false => rfl
    | true =>
      cases e3 : S18_0 R x6 x7 x8 with
      | false => rfl
      | true =>
        cases e4 : S18_0 R x9 x10 x11 with
        | false => rfl
        | true =>
          obtain ⟨⟨a0, u0⟩, ⟨a1, u1⟩, ⟨a2, u2⟩⟩ := finite3 e1
          obtain ⟨⟨b0, v0⟩, ⟨b1, v1⟩, ⟨b2, v2⟩⟩ := finite3 e2
          obtain ⟨⟨c0, w0⟩, ⟨c1, w1⟩, ⟨c2, w2⟩⟩ := finite3 e3
          obtain ⟨⟨d0, y0⟩, ⟨d1, y1⟩, ⟨d2, y2⟩⟩ := finite3 e4
          obtain ⟨p0, g0, l0⟩ := low_key u0 w0
          obtain ⟨p1, g1, l1⟩ := low_key u1 w1
          obtain ⟨p2, g2, l2⟩ := low_key u2 w2
          obtain ⟨q0, h0, m0⟩ := high_key v0 y0
          obtain ⟨q1, h1, m1⟩ := high_key v1 y1
          obtain ⟨q2, h2, m2⟩ := high_key v2 y2
          have hhas := has_join (X := S14_0 R x0 x6) (Y := S14_1 R x1 x7) (Z := S14_2 R x2 x8) (U := S14_3 R x3 x9) (V := S14_4 R x4 x10) (W := S14_5 R x5 x11)
            ⟨c0, p0, w0, g0, l0⟩ ⟨c1, p1, w1, g1, l1⟩ ⟨c2, p2, w2, g2, l2⟩ ⟨d0, q0, y0, h0, m0⟩ ⟨d1, q1, y1, h1, m1⟩ ⟨d2, q2, y2, h2, m2⟩
          rw [hhas]
          obtain ⟨t1, t2⟩ := throughS x6 x7 x8 x9 x10 x11 x12 x13 x14 x15 x16 x17
          obtain ⟨s1, s2⟩ := throughS (S14_0 R x0 x6) (S14_1 R x1 x7) (S14_2 R x2 x8) (S14_3 R x3 x9) (S14_4 R x4 x10) (S14_5 R x5 x11) x12 x13 x14 x15 x16 x17
          rw [t1, s1]
          cases hok : thrOk x6 x7 x8 x9 x10 x11 x12 x13 x14 x15 x16 x17 with
          | false => rfl
          | true =>
            have hw := within x6 x7 x8 x9 x10 x11 (S14_0 R x0 x6) (S14_1 R x1 x7) (S14_2 R x2 x8) (S14_3 R x3 x9) (S14_4 R x4 x10) (S14_5 R x5 x11) x12 x13 x14 x15 x16 x17
              ⟨c0, d0, p0, q0, w0, y0, g0, h0, l0, m0⟩ ⟨c1, d1, p1, q1, w1, y1, g1, h1, l1, m1⟩ ⟨c2, d2, p2, q2, w2, y2, g2, h2, l2, m2⟩ hok
            rw [hw.1, (t2 hok).1, (t2 hok).2, (s2 hw.1).1, (s2 hw.1).2, hw.2.1, hw.2.2]
            rfl
end Go.Proofs.Ytlafnmdefhpeeaa
