/- The law RgbWeighs over floats alone. -/
import Derived.Test.YtlngdhennnlhlaaCm
namespace Go.Proofs.Ytlngdhennnlhlaa
open Go.Ev

theorem awake05 : O9 R = true ∧ S9_0 R = true := ⟨by kernel_rfl, by kernel_rfl⟩

theorem weight_mono {a b c a' b' c' : Fl} (hg : S16_0 R a b c = true) (hg' : S16_0 R a' b' c' = true)
    (h : ∀ i j k i' j' k', fin a i → fin b j → fin c k → fin a' i' → fin b' j' → fin c' k' → i ≤ i' ∧ j ≤ j' ∧ k ≤ k') : S19_0 R a b c ≤ S19_0 R a' b' c' := by
  obtain ⟨_, _, _, v0, v1, vb⟩ := weightE a' b' c'
  obtain ⟨_, _, _, w0, w1, wb⟩ := weightE a b c
  have hbk := wb hg
  have hbk' := vb hg'
  obtain ⟨⟨i, hi, i0⟩, ⟨j, hj, j0⟩, ⟨k, hk, k0⟩⟩ := goodFin hg
  obtain ⟨⟨i', hi', i0'⟩, ⟨j', hj', j0'⟩, ⟨k', hk', k0'⟩⟩ := goodFin hg'
  obtain ⟨l1, l2, l3⟩ := h i j k i' j' k' hi hj hk hi' hj' hk'
  by_cases hz : S19_0 R a b c = 0
  · rw [hz]; exact v0
  have hpos : 0 < S19_0 R a b c := Int.lt_iff_le_and_ne.2 ⟨w0, fun e => hz e.symm⟩
  have hb1 := hbk.1 hpos
  -- not black either
  have hb2 : S17_0 R a' b' c' = false := by
    rw [blackE] at hb1 ⊢
    have zero : ∀ {x : Fl} {n : Int}, fin x n → (R.feq x (R.fc 0) = true ↔ n = 0) := by
      intro x n hx
      constructor
      · intro e
        obtain ⟨p, q, e1, e2, e3⟩ := (feq_iff _ _).1 e
        have e2' : fkey (cls 0) = some q := e2
        rw [hx.1] at e1; rw [fkey_zero] at e2'; cases e1; cases e2'; exact e3
      · intro e
        subst e
        exact (feq_iff _ _).2 ⟨0, 0, hx.1, fkey_zero, rfl⟩
    cases e1 : R.feq a' (R.fc 0) with
    | false => rfl
    | true =>
      cases e2 : R.feq b' (R.fc 0) with
      | false => rfl
      | true =>
        cases e3 : R.feq c' (R.fc 0) with
        | false => rfl
        | true =>
          have z1 : i' = 0 := (zero hi').1 e1
          have z2 : j' = 0 := (zero hj').1 e2
          have z3 : k' = 0 := (zero hk').1 e3
          have y1 : i = 0 := by omega
          have y2 : j = 0 := by omega
          have y3 : k = 0 := by omega
          rw [(zero hi).2 y1, (zero hj).2 y2, (zero hk).2 y3] at hb1
          exact absurd hb1 (by decide)
  obtain ⟨s, t, hs, ht, hst⟩ := meanMono ⟨hi.1, i0⟩ ⟨hj.1, j0⟩ ⟨hk.1, k0⟩ ⟨hi'.1, i0'⟩ ⟨hj'.1, j0'⟩ ⟨hk'.1, k0'⟩ l1 l2 l3
  obtain ⟨_, _, e1, _⟩ := weightE a b c
  obtain ⟨_, _, e2, _⟩ := weightE a' b' c'
  rw [← e1, ← e2]
  have hm : S13_0 R a b c = S14_0 R a b c := rfl
  have hm' : S13_0 R a' b' c' = S14_0 R a' b' c' := rfl
  unfold S18_0
  rw [goodE, goodE, hg, hg', hb1, hb2, hm, hm']
  generalize R.fmul (S14_0 R a b c) (R.fc 4625196817309499392) = m at *
  generalize R.fmul (S14_0 R a' b' c') (R.fc 4625196817309499392) = m' at *
  cases g' : R.fge m' (R.fc 4697254411347427328) with
  | true =>
    cases g : R.fge m (R.fc 4697254411347427328) with
    | true => exact Int.le_refl _
    | false =>
      obtain ⟨n, hn, n0, n1, _⟩ := partOk hs g
      obtain ⟨_, o2⟩ := iokOf hn n0 n1
      rw [o2]
      show (if (1 : Int) > n then (1 : Int) else n) ≤ 1048576
      split <;> omega
  | false =>
    have g : R.fge m (R.fc 4697254411347427328) = false := by
      cases g : R.fge m (R.fc 4697254411347427328) with
      | false => rfl
      | true =>
        obtain ⟨p, q, e1, e2, e3⟩ := (fge_iff _ _).1 g
        rw [hs.1] at e1; cases e1
        have : R.fge m' (R.fc 4697254411347427328) = true := (fge_iff _ _).2 ⟨t, q, ht.1, e2, by omega⟩
        rw [g'] at this; cases this
    rw [g]
    obtain ⟨n, hn, n0, n1, f1⟩ := partOk hs g
    obtain ⟨n', hn', n0', n1', f2⟩ := partOk ht g'
    obtain ⟨_, o2⟩ := iokOf hn n0 n1
    obtain ⟨_, o2'⟩ := iokOf hn' n0' n1'
    obtain ⟨x, y, q1, q2, q3, q4⟩ := flint_mono f1 f2 hs.2 hst
    rw [hn] at q1; cases q1
    rw [hn'] at q2; cases q2
    rw [o2, o2']
    show (if (1 : Int) > n then (1 : Int) else n) ≤ (if (1 : Int) > n' then (1 : Int) else n')
    split <;> split <;> omega

theorem law_RgbWeighs (x0 x1 x2 x3 x4 x5 : Fl) : O4 R x0 x1 x2 x3 x4 x5 = true ∧ S4_0 R x0 x1 x2 x3 x4 x5 = true := by
  obtain ⟨w1, _, w3, w4, w5, w6⟩ := weightE x0 x1 x2
  obtain ⟨v1, _, v3, _⟩ := weightE (S20_0 R x0 x3) (S20_1 R x1 x4) (S20_2 R x2 x5)
  have mono := weight_mono (a := x0) (b := x1) (c := x2) (a' := S20_0 R x0 x3) (b' := S20_1 R x1 x4) (c' := S20_2 R x2 x5)
  unfold O4 S4_0
  rw [awake05.1, awake05.2, goodE, w1, v1, w3, v3]
  cases ha : S16_0 R x0 x1 x2 with
  | false => exact ⟨rfl, rfl⟩
  | true =>
    cases hb : S16_0 R x3 x4 x5 with
    | false => exact ⟨rfl, rfl⟩
    | true =>
      refine ⟨rfl, ?_⟩
      have b1 : R.beq (R.zlt (R.zc 0) (S19_0 R x0 x1 x2)) (R.bnot (S17_0 R x0 x1 x2)) = true := by
        have := w6 ha
        show (decide ((0 : Int) < S19_0 R x0 x1 x2) == !(S17_0 R x0 x1 x2)) = true
        cases hbk : S17_0 R x0 x1 x2 with
        | false => rw [hbk] at this; simp [this.2 rfl]
        | true =>
          rw [hbk] at this
          have : ¬ (0 < S19_0 R x0 x1 x2) := fun h => by cases this.1 h
          simp [this]
      have b2 : R.zle (S19_0 R x0 x1 x2) (R.zc 1048576) = true := decide_eq_true w5
      rw [b1, b2]
      cases hc : S16_0 R (S20_0 R x0 x3) (S20_1 R x1 x4) (S20_2 R x2 x5) with
      | false => rfl
      | true =>
        have hle := mono ha hc (by
          intro i j k i' j' k' h1 h2 h3 h4 h5 h6
          obtain ⟨⟨p, hp, p0⟩, ⟨q, hq, q0⟩, ⟨r, hr, r0⟩⟩ := goodFin hb
          obtain ⟨⟨a, ha', a0⟩, ⟨b, hb', b0⟩, ⟨c, hc', c0⟩⟩ := goodFin ha
          have sum : ∀ {x y : Fl} {m n l : Int}, nk x m → nk y n → fin (R.fadd x y) l → m ≤ l := by
            intro x y m n l g1 g2 g3
            obtain ⟨k, hk, le1, _⟩ := add_ge g1 g2
            have e := hk.1.symm.trans g3.1
            cases e
            exact le1
          have u1 : a = i := Option.some.inj (ha'.1.symm.trans h1.1)
          have u2 : b = j := Option.some.inj (hb'.1.symm.trans h2.1)
          have u3 : c = k := Option.some.inj (hc'.1.symm.trans h3.1)
          subst u1 u2 u3
          exact ⟨sum ⟨h1.1, a0⟩ ⟨hp.1, p0⟩ h4, sum ⟨h2.1, b0⟩ ⟨hq.1, q0⟩ h5, sum ⟨h3.1, c0⟩ ⟨hr.1, r0⟩ h6⟩)
        have b3 : R.zle (S19_0 R x0 x1 x2) (S19_0 R (S20_0 R x0 x3) (S20_1 R x1 x4) (S20_2 R x2 x5)) = true := decide_eq_true hle
        rw [b3]
        rfl
end Go.Proofs.Ytlngdhennnlhlaa
