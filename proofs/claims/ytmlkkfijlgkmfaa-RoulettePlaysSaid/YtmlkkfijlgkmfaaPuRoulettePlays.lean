/- The law RoulettePlays over floats alone. -/
import Derived.Test.YtmlkkfijlgkmfaaCm
namespace Go.Proofs.Ytmlkkfijlgkmfaa
open Go.Ev

theorem awake26 : S9_0 R = true := by kernel_rfl

theorem sixteenth : fv (R.fc 4589168020290535424) (1 / 16) := fvc 1018 56 (1 / 16) (by decide +kernel : f64.read 4589168020290535424 = .number false 4503599627370496 (-56)) (by decide) (by decide) (by decide +kernel)

theorem mostVal {a b c : Fl} (h : S21_0 R a b c = true) : ∃ m, fv (S22_0 R a b c) m ∧ 0 ≤ m := by
  obtain ⟨⟨i, hi, i0⟩, ⟨j, hj, j0⟩, ⟨k, hk, k0⟩⟩ := goodFin h
  have val : ∀ {x : Fl} {n : Int}, fin x n → 0 ≤ n → ∃ p, fv x p ∧ 0 ≤ p := by
    intro x n hx h0
    obtain ⟨p, hp, ep⟩ := fv_of_fin hx
    exact ⟨p, hp, Rat.le_of_mul_le_mul_right (by rw [Rat.zero_mul, ep]; exact Rat.intCast_nonneg.2 h0) (pw_pos 1074)⟩
  obtain ⟨p, hp, p0⟩ := val hi i0
  obtain ⟨q, hq, q0⟩ := val hj j0
  obtain ⟨r, hr, r0⟩ := val hk k0
  have high : ∀ {x y : Fl} {u v : Rat}, fv x u → 0 ≤ u → fv y v → 0 ≤ v → ∃ w, fv (S30_0 R x y) w ∧ 0 ≤ w := by
    intro x y u v hx hu hy hv
    unfold S30_0
    cases R.fgt y x
    · exact ⟨u, hx, hu⟩
    · exact ⟨v, hy, hv⟩
  unfold S22_0
  obtain ⟨w, hw, w0⟩ := high hp p0 hq q0
  exact high hw w0 hr r0

theorem chanceVal (a b c : Fl) (k : Int) : ∃ q, fv (S8_0 R a b c k) q ∧ fv (S11_0 R a b c k) q ∧ 1 / 16 ≤ q ∧ q ≤ 1 := by
  have hm : S19_0 R a b c = S22_0 R a b c := rfl
  unfold S8_0 S11_0
  rw [goodE, hm]
  cases hg : S21_0 R a b c with
  | false =>
    have : R.bite (R.zlt k (R.zc 3)) (R.bc true) (R.bnot false) = true := by cases R.zlt k (R.zc 3) <;> rfl
    rw [this]
    exact ⟨1, fv_one, fv_one, by grind, by decide⟩
  | true =>
    cases R.zlt k (R.zc 3) with
    | true => exact ⟨1, fv_one, fv_one, by grind, by decide⟩
    | false =>
      obtain ⟨m, hm, m0⟩ := mostVal hg
      show ∃ q, fv (R.fmin (R.fmax (S22_0 R a b c) (R.fc 4589168020290535424)) (R.fc 4607182418800017408)) q ∧ fv (R.fite (R.flt (S22_0 R a b c) (R.fc 4589168020290535424)) (R.fc 4589168020290535424) (R.fite (R.fgt (S22_0 R a b c) (R.fc 4607182418800017408)) (R.fc 4607182418800017408) (S22_0 R a b c))) q ∧ _
      have h1 := fv_min (fv_max hm sixteenth) fv_one
      rw [fv_flt hm sixteenth, fv_fgt hm fv_one]
      by_cases g1 : m < 1 / 16
      · rw [if_pos g1, if_pos (by grind)] at h1
        rw [decide_eq_true g1]
        exact ⟨1 / 16, h1, sixteenth, by grind, by grind⟩
      · rw [if_neg g1] at h1
        rw [decide_eq_false g1]
        by_cases g2 : 1 < m
        · rw [if_neg (by grind)] at h1
          rw [decide_eq_true g2]
          exact ⟨1, h1, fv_one, by grind, by grind⟩
        · rw [decide_eq_false g2]
          have e : (if m < 1 then m else 1) = m := by
            by_cases g3 : m < 1
            · rw [if_pos g3]
            · rw [if_neg g3]; grind
          rw [e] at h1
          exact ⟨m, h1, hm, by grind, by grind⟩

/-- The play of any path, asked either way, channel by channel. -/
theorem playE (a b c : Fl) (k : Int) (u : Fl) : fkey (S6_0 R a b c k u) = fkey (S7_0 R a b c k u) ∧ fkey (S6_1 R a b c k u) = fkey (S7_1 R a b c k u) ∧ fkey (S6_2 R a b c k u) = fkey (S7_2 R a b c k u) ∧ S6_3 R a b c k u = S7_3 R a b c k u := by
  obtain ⟨q, h1, h2, q0, q1⟩ := chanceVal a b c k
  obtain ⟨v, hv, v0, v1⟩ := cleanVal u
  have sc : ∀ x y : Fl, S24_0 R x y = R.fmul x y ∧ S24_1 R x y = R.fmul x y ∧ S24_2 R x y = R.fmul x y ∧ S13_0 R x y = R.fmul x y ∧ S13_1 R x y = R.fmul x y ∧ S13_2 R x y = R.fmul x y := fun _ _ => ⟨rfl, rfl, rfl, rfl, rfl, rfl⟩
  unfold S6_0 S6_1 S6_2 S6_3 S7_0 S7_1 S7_2 S7_3
  rw [cleanE, (sc a _).1, (sc b _).2.1, (sc c _).2.2.1, (sc a _).2.2.2.1, (sc b _).2.2.2.2.1, (sc c _).2.2.2.2.2, fv_flt hv h1, fv_fge hv h2]
  generalize S8_0 R a b c k = C at *
  generalize S11_0 R a b c k = E at *
  have qpos : 0 < q := by grind
  -- the reciprocals have one place
  have hrec : ∃ j, fkey (R.fdiv (R.fc 4607182418800017408) C) = some j ∧ fkey (R.fdiv (R.fc 4607182418800017408) E) = some j ∧ j ≠ 0 := by
    obtain ⟨i, hi, ei⟩ := id h1
    obtain ⟨i', hi', ei'⟩ := id h2
    have e : i' = i := by
      have : ((i' : Int) : Rat) = ((i : Int) : Rat) := by rw [← ei', ← ei]
      exact Rat.intCast_inj.1 this
    subst e
    have ip : 0 < i' := by
      have := Rat.mul_pos qpos (pw_pos 1074)
      rw [ei] at this
      exact Rat.intCast_pos.1 this
    obtain ⟨n, hn, _⟩ := fv_nk fv_one (by decide)
    have key : ∀ {x : Fl}, fin x i' → ∀ {y : Fl}, fin y i' → ∀ k j, fkey (R.fdiv (R.fc 4607182418800017408) x) = some k → fkey (R.fdiv (R.fc 4607182418800017408) y) = some j → k = j := by
      intro x hx y hy k j hk hj
      obtain ⟨a, _⟩ := fv_of_fin hx
      have n0 : 0 < n ∨ n = 0 := by have := hn.2; omega
      rcases n0 with n0 | n0
      · have hnf := nk_fin hn (by obtain ⟨z, hz, _⟩ := fv_one; have e := hz.1.symm.trans hn.1; cases e; exact hz.2.2)
        obtain ⟨L1, g1⟩ := div_key hnf n0 hx ip
        obtain ⟨L2, g2⟩ := div_key hnf n0 hy ip
        obtain ⟨X, m, hm, e1, r1⟩ := g1 (max L1 L2) (Nat.le_max_left _ _)
        obtain ⟨Y, m2, hm2, e2, r2⟩ := g2 (max L1 L2) (Nat.le_max_right _ _)
        rw [hk] at e1; rw [hj] at e2
        cases e1; cases e2
        have hp : 0 < i'.toNat := by omega
        have cross : X * m2 = Y * m := by
          refine Nat.eq_of_mul_eq_mul_right hp ?_
          calc X * m2 * i'.toNat = X * i'.toNat * m2 := Nat.mul_right_comm _ _ _
            _ = n.toNat * 2 ^ (1074 + max L1 L2) * m * m2 := by rw [r1]
            _ = n.toNat * 2 ^ (1074 + max L1 L2) * m2 * m := Nat.mul_right_comm _ _ _
            _ = Y * i'.toNat * m := by rw [r2]
            _ = Y * m * i'.toNat := Nat.mul_right_comm _ _ _
        have l1 := rgQ_mono (l := max L1 L2) hm hm2 (Nat.le_of_eq cross)
        have l2 := rgQ_mono (l := max L1 L2) hm2 hm (Nat.le_of_eq cross.symm)
        rw [Nat.le_antisymm l1 l2]
      · subst n0
        have e := hn.1.symm.trans key_one.1
        have := Option.some.inj e
        have p := Nat.two_pow_pos 1074
        omega
    obtain ⟨j, hj, j0, _⟩ := recip_sign hi (by omega)
    obtain ⟨j', hj', _, _⟩ := recip_sign hi' (by omega)
    exact ⟨j, hj, by rw [key hi hi' j j' hj hj']; exact hj', j0⟩
  obtain ⟨j, e1, e2, j0⟩ := hrec
  by_cases g : v < q
  · rw [decide_eq_true g, decide_eq_false (Rat.not_le.2 g)]
    exact ⟨mul_key_congr e1 e2 j0, mul_key_congr e1 e2 j0, mul_key_congr e1 e2 j0, rfl⟩
  · rw [decide_eq_false g, decide_eq_true (Rat.not_lt.1 g)]
    exact ⟨rfl, rfl, rfl, rfl⟩

theorem law_RoulettePlays (x0 x1 x2 : Fl) (x3 : Int) (x4 : Fl) (_k3 : okInt .i64 x3) : S3_0 R x0 x1 x2 x3 x4 = true := by
  obtain ⟨q, h1, h2, q0, q1⟩ := chanceVal x0 x1 x2 x3
  obtain ⟨p0, p1, p2, p3⟩ := playE x0 x1 x2 x3 x4
  have bs : ∀ b : Bool, R.beq b b = true := fun b => by cases b <;> rfl
  have is : S10_0 R (S6_0 R x0 x1 x2 x3 x4) (S6_1 R x0 x1 x2 x3 x4) (S6_2 R x0 x1 x2 x3 x4) (S7_0 R x0 x1 x2 x3 x4) (S7_1 R x0 x1 x2 x3 x4) (S7_2 R x0 x1 x2 x3 x4) = true := by
    unfold S10_0
    rw [sameE, sameE, sameE, same_of_key p0, same_of_key p1, same_of_key p2]
    rfl
  unfold S3_0
  rw [is, p3, bs, awake26, fv_feq h1 h2, fv_fge h1 sixteenth, fv_fle h1 fv_one, decide_eq_true rfl, decide_eq_true q0, decide_eq_true q1]
  rfl
end Go.Proofs.Ytmlkkfijlgkmfaa
