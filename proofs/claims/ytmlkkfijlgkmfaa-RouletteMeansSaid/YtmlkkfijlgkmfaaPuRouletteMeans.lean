/- The law RouletteMeans over floats alone. -/
import Derived.Test.YtmlkkfijlgkmfaaCm
namespace Go.Proofs.Ytmlkkfijlgkmfaa
open Go.Ev

theorem sixteenth : fv (R.fc 4589168020290535424) (1 / 16) := fvc 1018 56 (1 / 16) (by decide +kernel : f64.read 4589168020290535424 = .number false 4503599627370496 (-56)) (by decide) (by decide) (by decide +kernel)

theorem mostVal {a b c : Fl} (h : S21_0 R a b c = true) : ∃ m, fv (S22_0 R a b c) m ∧ 0 ≤ m := by
  obtain ⟨⟨i, hi, i0⟩, ⟨j, hj, j0⟩, ⟨k, hk, k0⟩⟩ := goodFin h
  have val : ∀ {x : Fl} {n : Int}, fin x n → 0 ≤ n → ∃ p, fv x p ∧ 0 ≤ p := by
    intro x n hx h0
    obtain ⟨p, hp, ep⟩ := fv_of_fin hx
    exact ⟨p, hp, Rat.le_of_mul_le_mul_right (by rw [Rat.zero_mul, ep]; exact Rat.intCast_nonneg.2 h0) (pw_pos 1074)⟩
  obtain ⟨p, hp, p0⟩ := val hi i0
  obtain ⟨q, hq, q0⟩ := val hj j0
  obtain ⟨r, hr, r0⟩ := val hk k0
  have high : ∀ {x y : Fl} {u v : Rat}, fv x u → 0 ≤ u → fv y v → 0 ≤ v → ∃ w, fv (S30_0 R x y) w ∧ 0 ≤ w := by
    intro x y u v hx hu hy hv
    unfold S30_0
    cases R.fgt y x
    · exact ⟨u, hx, hu⟩
    · exact ⟨v, hy, hv⟩
  unfold S22_0
  obtain ⟨w, hw, w0⟩ := high hp p0 hq q0
  exact high hw w0 hr r0

theorem chanceVal (a b c : Fl) (k : Int) : ∃ q, fv (S8_0 R a b c k) q ∧ fv (S11_0 R a b c k) q ∧ 1 / 16 ≤ q ∧ q ≤ 1 := by
  have hm : S19_0 R a b c = S22_0 R a b c := rfl
  unfold S8_0 S11_0
  rw [goodE, hm]
  cases hg : S21_0 R a b c with
  | false =>
    have : R.bite (R.zlt k (R.zc 3)) (R.bc true) (R.bnot false) = true := by cases R.zlt k (R.zc 3) <;> rfl
    rw [this]
    exact ⟨1, fv_one, fv_one, by grind, by decide⟩
  | true =>
    cases R.zlt k (R.zc 3) with
    | true => exact ⟨1, fv_one, fv_one, by grind, by decide⟩
    | false =>
      obtain ⟨m, hm, m0⟩ := mostVal hg
      show ∃ q, fv (R.fmin (R.fmax (S22_0 R a b c) (R.fc 4589168020290535424)) (R.fc 4607182418800017408)) q ∧ fv (R.fite (R.flt (S22_0 R a b c) (R.fc 4589168020290535424)) (R.fc 4589168020290535424) (R.fite (R.fgt (S22_0 R a b c) (R.fc 4607182418800017408)) (R.fc 4607182418800017408) (S22_0 R a b c))) q ∧ _
      have h1 := fv_min (fv_max hm sixteenth) fv_one
      rw [fv_flt hm sixteenth, fv_fgt hm fv_one]
      by_cases g1 : m < 1 / 16
      · rw [if_pos g1, if_pos (by grind)] at h1
        rw [decide_eq_true g1]
        exact ⟨1 / 16, h1, sixteenth, by grind, by grind⟩
      · rw [if_neg g1] at h1
        rw [decide_eq_false g1]
        by_cases g2 : 1 < m
        · rw [if_neg (by grind)] at h1
          rw [decide_eq_true g2]
          exact ⟨1, h1, fv_one, by grind, by grind⟩
        · rw [decide_eq_false g2]
          have e : (if m < 1 then m else 1) = m := by
            by_cases g3 : m < 1
            · rw [if_pos g3]
            · rw [if_neg g3]; grind
          rw [e] at h1
          exact ⟨m, h1, hm, by grind, by grind⟩

/-- The play of any path, asked either way, channel by channel. -/
theorem playE (a b c : Fl) (k : Int) (u : Fl) : fkey (S6_0 R a b c k u) = fkey (S7_0 R a b c k u) ∧ fkey (S6_1 R a b c k u) = fkey (S7_1 R a b c k u) ∧ fkey (S6_2 R a b c k u) = fkey (S7_2 R a b c k u) ∧ S6_3 R a b c k u = S7_3 R a b c k u := by
  obtain ⟨q, h1, h2, q0, q1⟩ := chanceVal a b c k
  obtain ⟨v, hv, v0, v1⟩ := cleanVal u
  have sc : ∀ x y : Fl, S24_0 R x y = R.fmul x y ∧ S24_1 R x y = R.fmul x y ∧ S24_2 R x y = R.fmul x y ∧ S13_0 R x y = R.fmul x y ∧ S13_1 R x y = R.fmul x y ∧ S13_2 R x y = R.fmul x y := fun _ _ => ⟨rfl, rfl, rfl, rfl, rfl, rfl⟩
  unfold S6_0 S6_1 S6_2 S6_3 S7_0 S7_1 S7_2 S7_3
  rw [cleanE, (sc a _).1, (sc b _).2.1, (sc c _).2.2.1, (sc a _).2.2.2.1, (sc b _).2.2.2.2.1, (sc c _).2.2.2.2.2, fv_flt hv h1, fv_fge hv h2]
  generalize S8_0 R a b c k = C at *
  generalize S11_0 R a b c k = E at *
  have qpos : 0 < q := by grind
  -- the reciprocals have one place
  have hrec : ∃ j, fkey (R.fdiv (R.fc 4607182418800017408) C) = some j ∧ fkey (R.fdiv (R.fc 4607182418800017408) E) = some j ∧ j ≠ 0 := by
    obtain ⟨i, hi, ei⟩ := id h1
    obtain ⟨i', hi', ei'⟩ := id h2
    have e : i' = i := by
      have : ((i' : Int) : Rat) = ((i : Int) : Rat) := by rw [← ei', ← ei]
      exact Rat.intCast_inj.1 this
    subst e
    have ip : 0 < i' := by
      have := Rat.mul_pos qpos (pw_pos 1074)
      rw [ei] at this
      exact Rat.intCast_pos.1 this
    obtain ⟨n, hn, _⟩ := fv_nk fv_one (by decide)
    have key : ∀ {x : Fl}, fin x i' → ∀ {y : Fl}, fin y i' → ∀ k j, fkey (R.fdiv (R.fc 4607182418800017408) x) = some k → fkey (R.fdiv (R.fc 4607182418800017408) y) = some j → k = j := by
      intro x hx y hy k j hk hj
      obtain ⟨a, _⟩ := fv_of_fin hx
      have n0 : 0 < n ∨ n = 0 := by have := hn.2; omega
      rcases n0 with n0 | n0
      · have hnf := nk_fin hn (by obtain ⟨z, hz, _⟩ := fv_one; have e := hz.1.symm.trans hn.1; cases e; exact hz.2.2)
        obtain ⟨L1, g1⟩ := div_key hnf n0 hx ip
        obtain ⟨L2, g2⟩ := div_key hnf n0 hy ip
        obtain ⟨X, m, hm, e1, r1⟩ := g1 (max L1 L2) (Nat.le_max_left _ _)
        obtain ⟨Y, m2, hm2, e2, r2⟩ := g2 (max L1 L2) (Nat.le_max_right _ _)
        rw [hk] at e1; rw [hj] at e2
        cases e1; cases e2
        have hp : 0 < i'.toNat := by omega
        have cross : X * m2 = Y * m := by
          refine Nat.eq_of_mul_eq_mul_right hp ?_
          calc X * m2 * i'.toNat = X * i'.toNat * m2 := Nat.mul_right_comm _ _ _
            _ = n.toNat * 2 ^ (1074 + max L1 L2) * m * m2 := by rw [r1]
            _ = n.toNat * 2 ^ (1074 + max L1 L2) * m2 * m := Nat.mul_right_comm _ _ _
            _ = Y * i'.toNat * m := by rw [r2]
            _ = Y * m * i'.toNat := Nat.mul_right_comm _ _ _
        have l1 := rgQ_mono (l := max L1 L2) hm hm2 (Nat.le_of_eq cross)
        have l2 := rgQ_mono (l := max L1 L2) hm2 hm (Nat.le_of_eq cross.symm)
        rw [Nat.le_antisymm l1 l2]
      · subst n0
        have e := hn.1.symm.trans key_one.1
        have := Option.some.inj e
        have p := Nat.two_pow_pos 1074
        omega
    obtain ⟨j, hj, j0, _⟩ := recip_sign hi (by omega)
    obtain ⟨j', hj', _, _⟩ := recip_sign hi' (by omega)
    exact ⟨j, hj, by rw [key hi hi' j j' hj hj']; exact hj', j0⟩
  obtain ⟨j, e1, e2, j0⟩ := hrec
  by_cases g : v < q
  · rw [decide_eq_true g, decide_eq_false (Rat.not_le.2 g)]
    exact ⟨mul_key_congr e1 e2 j0, mul_key_congr e1 e2 j0, mul_key_congr e1 e2 j0, rfl⟩
  · rw [decide_eq_false g, decide_eq_true (Rat.not_lt.1 g)]
    exact ⟨rfl, rfl, rfl, rfl⟩

/-- Sums of what has one place have one place. -/
theorem add_none {x y : Fl} (h : fkey x = none ∨ fkey y = none) : fkey (R.fadd x y) = none := by
  cases x with
  | none => rfl
  | some a =>
    cases y with
    | none => rfl
    | some b =>
      show fkey (match f64.add a b with | some r => cls r | none => none) = none
      rcases h with h | h
      · obtain ⟨s, t, ha⟩ := key_none_nan h
        unfold Ieee.Format.add
        rw [ha]
        cases f64.read b <;> rfl
      · obtain ⟨s, t, hb⟩ := key_none_nan h
        unfold Ieee.Format.add
        rw [hb]
        cases f64.read a <;> rfl

/-- What a place says: no number, a number, or an infinite one. -/
theorem key_cases (x : Fl) : fkey x = none ∨ (∃ a, fin x a) ∨ ∃ b s, x = some b ∧ f64.read b = .infinity s ∧ fkey x = some (if s then -topKey else topKey) := by
  cases hx : fkey x with
  | none => exact .inl rfl
  | some k =>
    obtain ⟨h1, h2⟩ := key_le_top hx
    cases x with
    | none => cases hx
    | some b =>
      by_cases g1 : k = topKey
      · subst g1; exact .inr (.inr ⟨b, false, rfl, top_inf hx, rfl⟩)
      · by_cases g2 : k = -topKey
        · subst g2; exact .inr (.inr ⟨b, true, rfl, bot_inf hx, rfl⟩)
        · exact .inr (.inl ⟨k, hx, by omega, by omega⟩)

theorem add_key_congr {x x' y y' : Fl} (hx : fkey x = fkey x') (hy : fkey y = fkey y') : fkey (R.fadd x y) = fkey (R.fadd x' y') := by
  have tp := topKey_pos
  have infs : ∀ {a b : Nat} {s : Bool}, f64.read a = .infinity s → ∀ {c d : Nat}, f64.read c = .infinity s → (∀ t m e, f64.read b = .number t m e → ∃ t m e, f64.read d = .number t m e) → (∀ t, f64.read b = .infinity t → f64.read d = .infinity t) →
      ((∃ t m e, f64.read b = .number t m e) ∨ ∃ t, f64.read b = .infinity t) → fkey (R.fadd (some a) (some b)) = fkey (R.fadd (some c) (some d)) ∧ fkey (R.fadd (some b) (some a)) = fkey (R.fadd (some d) (some c)) := by
    intro a b s ha c d hc hn hi hb
    have e : ∀ p q : Nat, fkey (R.fadd (some p) (some q)) = fkey (match f64.add p q with | some r => cls r | none => none) := fun _ _ => rfl
    rw [e, e, e, e]
    unfold Ieee.Format.add
    rw [ha, hc]
    rcases hb with ⟨t, m, x, hb⟩ | ⟨t, hb⟩
    · obtain ⟨t', m', x', hd⟩ := hn t m x hb
      rw [hb, hd]
      exact ⟨rfl, rfl⟩
    · rw [hb, hi t hb]
      exact ⟨rfl, rfl⟩
  have ne : ∀ s : Bool, (if s then -topKey else topKey) ≠ (if !s then -topKey else topKey) := by intro s; cases s <;> simp <;> omega
  -- what the one is the other is
  have like : ∀ {u u' : Fl}, fkey u = fkey u' → (∀ a, fin u a → fin u' a) ∧ ∀ b s, u = some b → f64.read b = .infinity s → ∃ b', u' = some b' ∧ f64.read b' = .infinity s := by
    intro u u' h
    refine ⟨fun a ha => ⟨by rw [← h]; exact ha.1, ha.2⟩, fun b s hb hr => ?_⟩
    subst hb
    have hk : fkey (some b) = some (if s then -topKey else topKey) := by
      show dkey (f64.read b) = _
      rw [hr]; rfl
    rw [h] at hk
    cases u' with
    | none => cases hk
    | some b' =>
      cases s with
      | false => exact ⟨b', rfl, top_inf hk⟩
      | true => exact ⟨b', rfl, bot_inf hk⟩
  have isNum : ∀ {u : Fl} {a : Int}, fin u a → ∃ b s m e, u = some b ∧ f64.read b = .number s m e := by
    intro u a h
    cases u with
    | none => cases h.1
    | some b => obtain ⟨s, m, e, hb, _⟩ := fin_read h; exact ⟨b, s, m, e, rfl, hb⟩
  rcases key_cases x with h | ⟨a, ha⟩ | ⟨b, s, rfl, hb, _⟩
  · rw [add_none (.inl h), add_none (.inl (hx ▸ h))]
  · rcases key_cases y with g | ⟨c, hc⟩ | ⟨d, t, rfl, hd, _⟩
    · rw [add_none (.inr g), add_none (.inr (hy ▸ g))]
    · rw [key_add ha hc, key_add ((like hx).1 a ha) ((like hy).1 c hc)]
    · obtain ⟨d', rfl, hd'⟩ := (like hy).2 d t rfl hd
      obtain ⟨b, s, m, e, rfl, hb⟩ := isNum ha
      obtain ⟨b', s', m', e', rfl, hb'⟩ := isNum ((like hx).1 a ha)
      exact (infs (a := d) (b := b) hd hd' (fun _ _ _ _ => ⟨s', m', e', hb'⟩) (fun t' ht' => by rw [hb] at ht'; cases ht') (.inl ⟨s, m, e, hb⟩)).2
  · obtain ⟨b', rfl, hb'⟩ := (like hx).2 b s rfl hb
    rcases key_cases y with g | ⟨c, hc⟩ | ⟨d, t, rfl, hd, _⟩
    · rw [add_none (.inr g), add_none (.inr (hy ▸ g))]
    · obtain ⟨d, s2, m, e, rfl, hd⟩ := isNum hc
      obtain ⟨d', s', m', e', rfl, hd'⟩ := isNum ((like hy).1 c hc)
      exact (infs (a := b) (b := d) hb hb' (fun _ _ _ _ => ⟨s', m', e', hd'⟩) (fun t' ht' => by rw [hd] at ht'; cases ht') (.inl ⟨s2, m, e, hd⟩)).1
    · obtain ⟨d', rfl, hd'⟩ := (like hy).2 d t rfl hd
      exact (infs (a := b) (b := d) hb hb' (fun t' m e ht' => by rw [hd] at ht'; cases ht') (fun t' ht' => by rw [hd] at ht'; cases ht'; exact hd') (.inr ⟨t, hd⟩)).1

/-- What is added up. -/
noncomputable def sumOf (g : Nat → Fl) : Nat → Fl
  | 0 => cls 0
  | n + 1 => R.fadd (sumOf g n) (g n)

theorem sumOf_key {g h : Nat → Fl} (hk : ∀ i, fkey (g i) = fkey (h i)) : ∀ n, fkey (sumOf g n) = fkey (sumOf h n)
  | 0 => rfl
  | n + 1 => add_key_congr (sumOf_key hk n) (hk n)

/-- Sums of one place, by the same. -/
theorem mulR_key {x x' y : Fl} (h : fkey x = fkey x') {c : Int} (hy : fin y c) : fkey (R.fmul x y) = fkey (R.fmul x' y) := by
  cases hx : fkey x with
  | none => rw [mul_none hx, mul_none (h ▸ hx)]
  | some a =>
    by_cases h0 : a = 0
    · subst h0
      have tp := topKey_pos
      rw [key_mul ⟨hx, by omega, tp⟩ hy, key_mul ⟨h ▸ hx, by omega, tp⟩ hy]
    · rw [fmul_comm x, fmul_comm x']
      exact mul_key_congr hx (h ▸ hx) h0

theorem law_RouletteMeans (x0 x1 x2 : Fl) (x3 x4 : Int) (_k3 : okInt .i64 x3) (k4 : okInt .u8 x4) : O4 R x0 x1 x2 x3 x4 = true ∧ S4_0 R x0 x1 x2 x3 x4 = true := by
  have b0 : 0 ≤ x4 := k4.1
  have b1 : x4 ≤ 255 := k4.2
  have hconv : R.zconv .i64 x4 = x4 := zconv64 ⟨by omega, by omega⟩
  -- plays
  let at' : Nat → Fl := fun i => R.fdiv (R.i2f (i : Int)) (R.i2f x4)
  let g0 : Nat → Fl := fun i => S7_0 R x0 x1 x2 x3 (at' i)
  let g1 : Nat → Fl := fun i => S7_1 R x0 x1 x2 x3 (at' i)
  let g2 : Nat → Fl := fun i => S7_2 R x0 x1 x2 x3 (at' i)
  let h0 : Nat → Fl := fun i => S6_0 R x0 x1 x2 x3 (at' i)
  let h1 : Nat → Fl := fun i => S6_1 R x0 x1 x2 x3 (at' i)
  let h2 : Nat → Fl := fun i => S6_2 R x0 x1 x2 x3 (at' i)
  have up : ∀ i : Nat, i < x4.toNat → R.zadd .i64 (i : Int) (R.zc 1) = ((i + 1 : Nat) : Int) := fun i hi => by
    rw [zadd64 (show -9223372036854775808 ≤ (i : Int) + (1 : Int) ∧ (i : Int) + (1 : Int) ≤ 9223372036854775807 by omega)]; rfl
  have p1 := ends_path (step := G1 R x3 x4 x0 x1 x2) (p := [.z (R.zc 0), .f (R.fc 0), .f (R.fc 0), .f (R.fc 0)])
    (fun i => [.z (i : Int), .f (sumOf g0 i), .f (sumOf g1 i), .f (sumOf g2 i)]) x4.toNat rfl (fun i hi => by
      have hc : (decide ((i : Int) < x4)) = true := decide_eq_true (by omega)
      show (decide ((i : Int) < x4), true, [PV.z (R.zadd .i64 (i : Int) (R.zc 1)), .f (sumOf g0 (i + 1)), .f (sumOf g1 (i + 1)), .f (sumOf g2 (i + 1))]) = _
      rw [hc, up i hi])
    (by show decide (((x4.toNat : Nat) : Int) < x4) = false; exact decide_eq_false (by omega))
  have p0 := ends_path (step := G0 R x4 x4 (S8_0 R x0 x1 x2 x3) x0 x1 x2) (p := [.z (R.zc 0), .f (R.fc 0), .f (R.fc 0), .f (R.fc 0)])
    (fun i => [.z (i : Int), .f (sumOf h0 i), .f (sumOf h1 i), .f (sumOf h2 i)]) x4.toNat rfl (fun i hi => by
      have hc : (decide ((i : Int) < x4)) = true := decide_eq_true (by omega)
      show (decide ((i : Int) < x4), true, [PV.z (R.zadd .i64 (i : Int) (R.zc 1)), .f (sumOf h0 (i + 1)), .f (sumOf h1 (i + 1)), .f (sumOf h2 (i + 1))]) = _
      rw [hc, up i hi])
    (by show decide (((x4.toNat : Nat) : Int) < x4) = false; exact decide_eq_false (by omega))
  have eE1 : E1 R x3 x4 x0 x1 x2 (R.zc 0) (R.fc 0) (R.fc 0) (R.fc 0) = true := p1.1
  have eL1 : L1 R x3 x4 x0 x1 x2 (R.zc 0) (R.fc 0) (R.fc 0) (R.fc 0) = [.z ((x4.toNat : Nat) : Int), .f (sumOf g0 x4.toNat), .f (sumOf g1 x4.toNat), .f (sumOf g2 x4.toNat)] := p1.2
  have eE0 : E0 R x4 x4 (S8_0 R x0 x1 x2 x3) x0 x1 x2 (R.zc 0) (R.fc 0) (R.fc 0) (R.fc 0) = true := p0.1
  have eL0 : L0 R x4 x4 (S8_0 R x0 x1 x2 x3) x0 x1 x2 (R.zc 0) (R.fc 0) (R.fc 0) (R.fc 0) = [.z ((x4.toNat : Nat) : Int), .f (sumOf h0 x4.toNat), .f (sumOf h1 x4.toNat), .f (sumOf h2 x4.toNat)] := p0.2
  have last : R.zlt ((x4.toNat : Nat) : Int) x4 = false := decide_eq_false (by omega)
  have k0 := sumOf_key (g := h0) (h := g0) (fun i => (playE x0 x1 x2 x3 (at' i)).1) x4.toNat
  have k1 := sumOf_key (g := h1) (h := g1) (fun i => (playE x0 x1 x2 x3 (at' i)).2.1) x4.toNat
  have k2 := sumOf_key (g := h2) (h := g2) (fun i => (playE x0 x1 x2 x3 (at' i)).2.2.1) x4.toNat
  have low : ∀ n : Int, n < 1 → O14 R x0 x1 x2 x3 n = true ∧ S14_0 R x0 x1 x2 x3 n = cls 0 ∧ S14_1 R x0 x1 x2 x3 n = cls 0 ∧ S14_2 R x0 x1 x2 x3 n = cls 0 := by
    intro n hn
    have e : R.zlt n (R.zc 1) = true := decide_eq_true hn
    unfold O14 S14_0 S14_1 S14_2
    rw [e]
    exact ⟨rfl, rfl, rfl, rfl⟩
  have high : ∀ n : Int, 4096 < n → O14 R x0 x1 x2 x3 n = true ∧ S14_0 R x0 x1 x2 x3 n = cls 0 ∧ S14_1 R x0 x1 x2 x3 n = cls 0 ∧ S14_2 R x0 x1 x2 x3 n = cls 0 := by
    intro n hn
    have e : R.zlt n (R.zc 1) = false := decide_eq_false (by show ¬ n < 1; omega)
    have e2 : R.zlt (R.zc 4096) n = true := decide_eq_true hn
    unfold O14 S14_0 S14_1 S14_2
    rw [e, e2]
    exact ⟨rfl, rfl, rfl, rfl⟩
  have mid : O14 R x0 x1 x2 x3 x4 = true := by
    by_cases h : x4 < 1
    · exact (low x4 h).1
    · have e : R.zlt x4 (R.zc 1) = false := decide_eq_false h
      have e2 : R.zlt (R.zc 4096) x4 = false := decide_eq_false (by show ¬ 4096 < x4; omega)
      unfold O14
      rw [e, e2, eE0, eL0]
      show (if (if false = true then true else false : Bool) = true then true else true && !(R.zlt ((x4.toNat : Nat) : Int) x4) : Bool) = true
      rw [last]; rfl
  -- the mean
  have isMean : S10_0 R (S14_0 R x0 x1 x2 x3 x4) (S14_1 R x0 x1 x2 x3 x4) (S14_2 R x0 x1 x2 x3 x4)
      (R.fite (R.zlt (R.zc 0) x4) (S13_0 R (sumOf g0 x4.toNat) (R.fdiv (R.fc 4607182418800017408) (R.i2f x4))) (R.fc 0))
      (R.fite (R.zlt (R.zc 0) x4) (S13_1 R (sumOf g1 x4.toNat) (R.fdiv (R.fc 4607182418800017408) (R.i2f x4))) (R.fc 0))
      (R.fite (R.zlt (R.zc 0) x4) (S13_2 R (sumOf g2 x4.toNat) (R.fdiv (R.fc 4607182418800017408) (R.i2f x4))) (R.fc 0)) = true := by
    have fin3 : ∀ {a b c d e f : Fl}, fkey a = fkey d → fkey b = fkey e → fkey c = fkey f → S10_0 R a b c d e f = true := by
      intro a b c d e f p q r
      unfold S10_0
      rw [sameE, sameE, sameE, same_of_key p, same_of_key q, same_of_key r]
      rfl
    by_cases h : x4 < 1
    · obtain ⟨_, e0, e1, e2⟩ := low x4 h
      have ez : R.zlt (R.zc 0) x4 = false := decide_eq_false (by show ¬ 0 < x4; omega)
      rw [e0, e1, e2, ez]
      exact fin3 rfl rfl rfl
    · have ez : R.zlt (R.zc 0) x4 = true := decide_eq_true (by show 0 < x4; omega)
      have e : R.zlt x4 (R.zc 1) = false := decide_eq_false h
      have e2 : R.zlt (R.zc 4096) x4 = false := decide_eq_false (by show ¬ 4096 < x4; omega)
      have hy : ∃ c, fin (R.fdiv (R.fc 4607182418800017408) (R.i2f x4)) c := by
        have q0 := Rat.intCast_le_intCast.2 (show (1 : Int) ≤ x4 by omega)
        have q1 := Rat.intCast_le_intCast.2 b1
        have c0 : ((1 : Int) : Rat) = 1 := rfl
        have c1 : ((255 : Int) : Rat) = 255 := rfl
        rw [c0] at q0
        rw [c1] at q1
        obtain ⟨s1, s2⟩ := small (v := ((x4 : Int) : Rat)) (by grind) (by grind)
        obtain ⟨r, hr, rr⟩ := fv_int (n := x4) s1 s2
        have hr1 : 1 / 2 ≤ r := by
          have := rr.near 256 (by grind) (by grind)
          rw [e52] at this
          have t := tiny_small
          have t0 := tiny_pos
          grind
        have hz : (1 : Rat) / r * r = 1 := Rat.div_mul_cancel (by grind)
        have hle : (1 : Rat) / r ≤ 2 := by
          refine Rat.le_of_mul_le_mul_right ?_ (show (0 : Rat) < r by grind)
          rw [hz]; grind
        have hge : (0 : Rat) ≤ 1 / r := by
          refine Rat.le_of_mul_le_mul_right ?_ (show (0 : Rat) < r by grind)
          rw [hz]; grind
        obtain ⟨v, hv, _⟩ := div_val fv_one hr (by grind) (by grind) (by grind)
        obtain ⟨c, hc, _⟩ := hv
        exact ⟨c, hc⟩
      obtain ⟨c, hc⟩ := hy
      unfold S14_0 S14_1 S14_2
      rw [e, e2, ez, eL0]
      exact fin3 (mulR_key k0 hc) (mulR_key k1 hc) (mulR_key k2 hc)
  have elow : R.zsub .i64 (R.zc (-1)) x4 = -1 - x4 := zsub64 (show -9223372036854775808 ≤ (-1 : Int) - x4 ∧ (-1 : Int) - x4 ≤ 9223372036854775807 by omega)
  have ehigh : R.zadd .i64 (R.zc 4097) x4 = 4097 + x4 := zadd64 (show -9223372036854775808 ≤ (4097 : Int) + x4 ∧ (4097 : Int) + x4 ≤ 9223372036854775807 by omega)
  obtain ⟨l0, l1, l2, l3⟩ := low (-1 - x4) (by omega)
  obtain ⟨u0, u1, u2, u3⟩ := high (4097 + x4) (by omega)
  have fz : R.feq (cls 0) (R.fc 0) = true := by kernel_rfl
  unfold O4 S4_0
  rw [hconv, eE1, eL1, mid, elow, ehigh, l0, l1, l2, l3, u0, u1, u2, u3, fz]
  constructor
  · show (true && !(R.zlt ((x4.toNat : Nat) : Int) x4) && (true && _)) = true
    rw [last]
    show (if _ then _ else _ : Bool) = true
    first
      | rfl
      | (split <;> rfl)
  · exact Eq.trans (if_pos isMean) rfl
end Go.Proofs.Ytmlkkfijlgkmfaa
