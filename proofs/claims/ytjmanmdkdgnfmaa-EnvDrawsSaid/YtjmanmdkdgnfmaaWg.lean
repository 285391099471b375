/- The weight of a light, of two ways of reckoning. -/
import Derived.Test.YtjmanmdkdgnfmaaAw
import Derived.Test.YtjmanmdkdgnfmaaEv5
namespace Go.Proofs.Ytjmanmdkdgnfmaa
open Go.Ev

theorem numberE (x : Fl) : S46_0 R x = S51_0 R x := number_iff x

theorem finPos {b m : Nat} {e : Int} (h : f64.read b = .number false m e) (hm : m ≠ 0) : ∃ k, fin (cls b) k ∧ 0 < k := by
  have hb := key_bound h
  refine ⟨_, ⟨by rw [cls_key, h]; rfl, hb.2, hb.1⟩, ?_⟩
  rw [Ieee.signed]
  have : 0 < m <<< (e + 1074).toNat := by rw [Nat.shiftLeft_eq]; exact Nat.mul_pos (Nat.pos_of_ne_zero hm) (Nat.two_pow_pos _)
  generalize m <<< (e + 1074).toNat = M at this ⊢
  simp only [Bool.false_eq_true, if_false]
  omega

theorem numFin {a : Fl} (h : S51_0 R a = true) : ∃ k, fin a k := (rnum_iff a).1 h

theorem goodE (a b c : Fl) : S25_0 R a b c = S28_0 R a b c := by
  unfold S25_0 S28_0 S45_0
  rw [numberE, numberE, numberE]
  generalize S51_0 R a = p
  generalize S51_0 R b = q
  generalize S51_0 R c = r
  generalize R.fge a (R.fc 0) = u
  generalize R.fge b (R.fc 0) = v
  generalize R.fge c (R.fc 0) = w
  cases p <;> cases q <;> cases r <;> cases u <;> cases v <;> cases w <;> rfl

theorem goodFin {a b c : Fl} (h : S28_0 R a b c = true) : (∃ k, fin a k ∧ 0 ≤ k) ∧ (∃ k, fin b k ∧ 0 ≤ k) ∧ (∃ k, fin c k ∧ 0 ≤ k) := by
  have one : ∀ x : Fl, S51_0 R x = true → R.fge x (R.fc 0) = true → ∃ k, fin x k ∧ 0 ≤ k := by
    intro x h1 h2
    obtain ⟨k, hk⟩ := numFin h1
    obtain ⟨i, j, g1, g2, g3⟩ := (fge_iff _ _).1 h2
    rw [hk.1] at g1; cases g1
    have g2' : fkey (cls 0) = some j := g2
    rw [fkey_zero] at g2'; cases g2'
    exact ⟨k, hk, g3⟩
  unfold S28_0 at h
  revert h
  have oa := one a
  have ob := one b
  have oc := one c
  generalize S51_0 R a = p at *
  generalize S51_0 R b = q at *
  generalize S51_0 R c = r at *
  generalize R.fge a (R.fc 0) = u at *
  generalize R.fge b (R.fc 0) = v at *
  generalize R.fge c (R.fc 0) = w at *
  intro h
  cases p <;> cases q <;> cases r <;> cases u <;> cases v <;> cases w <;> first | (cases h; done) | exact ⟨oa rfl rfl, ob rfl rfl, oc rfl rfl⟩

theorem meanKey {a b c : Fl} {i j k : Int} (ha : nk a i) (hb : nk b j) (hc : nk c k) : ∃ s, nk (R.fmul (S52_0 R a b c) (R.fc 4625196817309499392)) s := by
  unfold S52_0
  obtain ⟨s1, h1, _⟩ := nk_add ha hb
  obtain ⟨s2, h2, _⟩ := nk_add h1 hc
  obtain ⟨k3, h3, p3⟩ := finPos (b := 4613937818241073152) (by decide +kernel : f64.read 4613937818241073152 = .number false 6755399441055744 (-51)) (by decide)
  obtain ⟨k16, h16, p16⟩ := finPos (b := 4625196817309499392) (by decide +kernel : f64.read 4625196817309499392 = .number false 4503599627370496 (-48)) (by decide)
  obtain ⟨s3, h4, _⟩ := nk_div h2 h3 p3
  obtain ⟨s4, h5, _⟩ := nk_mul h4 h16 p16
  exact ⟨s4, h5⟩

theorem maxFin : ∃ k, fin (cls 4697254411347427328) k ∧ 0 < k ∧ flint (cls 4697254411347427328) = some 1048576 := by
  obtain ⟨k, h, p⟩ := finPos (b := 4697254411347427328) (by decide +kernel : f64.read 4697254411347427328 = .number false 4503599627370496 (-32)) (by decide)
  exact ⟨k, h, p, by kernel_rfl⟩

theorem oneFin : ∃ k, fin (cls 4607182418800017408) k ∧ 0 < k ∧ flint (cls 4607182418800017408) = some 1 := by
  obtain ⟨k, h, p⟩ := finPos (b := 4607182418800017408) (by decide +kernel : f64.read 4607182418800017408 = .number false 4503599627370496 (-52)) (by decide)
  exact ⟨k, h, p, by kernel_rfl⟩

/-- A light's number below the greatest one has a whole part. -/
theorem partOk {m : Fl} {s : Int} (hm : nk m s) (h : R.fge m (R.fc 4697254411347427328) = false) : ∃ i, flint m = some i ∧ 0 ≤ i ∧ i ≤ 1048576 ∧ fin m s := by
  obtain ⟨k, hk, p, fl⟩ := maxFin
  have hlt : s < k := by
    refine Int.not_le.1 fun g => ?_
    have : R.fge m (R.fc 4697254411347427328) = true := (fge_iff _ _).2 ⟨s, k, hm.1, hk.1, g⟩
    rw [h] at this; cases this
  have hf : fin m s := nk_fin hm (by have := hk.2.2; omega)
  obtain ⟨i, j, e1, e2, e3, e4⟩ := flint_mono hf hk hm.2 (Int.le_of_lt hlt)
  rw [fl] at e2; cases e2
  exact ⟨i, e1, e3, e4, hf⟩

theorem iokOf {m : Fl} {i : Int} (h : flint m = some i) (h0 : 0 ≤ i) (h1 : i ≤ 1048576) : R.f2iok .i64 m = true ∧ R.f2i .i64 m = i := by
  constructor
  · show (match flint m with | some n => decide (IntKind.i64.min ≤ n ∧ n ≤ IntKind.i64.max) | none => false) = true
    rw [h]
    have a : IntKind.i64.min = -9223372036854775808 := by decide
    have b : IntKind.i64.max = 9223372036854775807 := by decide
    simp only [a, b, decide_eq_true_eq]
    omega
  · show (flint m).getD 0 = i
    rw [h]; rfl

theorem blackE (a b c : Fl) : S47_0 R a b c = (if R.feq a (R.fc 0) then if R.feq b (R.fc 0) then R.feq c (R.fc 0) else false else false) := by
  unfold S47_0
  generalize R.feq a (R.fc 0) = u
  generalize R.feq b (R.fc 0) = v
  generalize R.feq c (R.fc 0) = w
  cases u <;> cases v <;> cases w <;> rfl

theorem weightE (a b c : Fl) : O26 R a b c = true ∧ O29 R a b c = true ∧ S26_0 R a b c = S29_0 R a b c ∧ 0 ≤ S29_0 R a b c ∧ S29_0 R a b c ≤ 1048576 ∧
    (S28_0 R a b c = true → (0 < S29_0 R a b c ↔ S47_0 R a b c = false)) := by
  have hm : S48_0 R a b c = S52_0 R a b c := rfl
  unfold O26 O29 S26_0 S29_0
  rw [goodE, hm]
  have hbk := blackE a b c
  generalize S47_0 R a b c = bk at *
  have hbk' : R.bite (R.feq a (R.fc 0)) (R.bite (R.feq b (R.fc 0)) (R.feq c (R.fc 0)) (R.bc false)) (R.bc false) = bk := hbk.symm
  rw [hbk']
  cases hg : S28_0 R a b c with
  | false => exact ⟨rfl, rfl, rfl, (by decide : (0 : Int) ≤ 0), (by decide : (0 : Int) ≤ 1048576), fun h => by cases h⟩
  | true =>
    cases bk with
    | true => exact ⟨rfl, rfl, rfl, (by decide : (0 : Int) ≤ 0), (by decide : (0 : Int) ≤ 1048576), fun _ => ⟨fun h => absurd h (by decide : ¬ (0 : Int) < 0), fun h => by cases h⟩⟩
    | false =>
      obtain ⟨⟨i, hi, i0⟩, ⟨j, hj, j0⟩, ⟨k, hk, k0⟩⟩ := goodFin hg
      obtain ⟨s, hs⟩ := meanKey ⟨hi.1, i0⟩ ⟨hj.1, j0⟩ ⟨hk.1, k0⟩
      generalize R.fmul (S52_0 R a b c) (R.fc 4625196817309499392) = m at *
      cases hge : R.fge m (R.fc 4697254411347427328) with
      | true => exact ⟨rfl, rfl, rfl, (by decide : (0 : Int) ≤ 1048576), (by decide : (1048576 : Int) ≤ 1048576), fun _ => ⟨fun _ => rfl, fun _ => (by decide : (0 : Int) < 1048576)⟩⟩
      | false =>
        obtain ⟨n, hn, n0, n1, hf⟩ := partOk hs hge
        obtain ⟨o1, o2⟩ := iokOf hn n0 n1
        obtain ⟨k1, hk1, p1, f1⟩ := oneFin
        rw [o1, o2]
        cases hlt : R.flt m (R.fc 4607182418800017408) with
        | true =>
          obtain ⟨x, y, e1, e2, e3⟩ := (flt_iff _ _).1 hlt
          rw [hs.1] at e1; cases e1
          have e2' : fkey (cls 4607182418800017408) = some y := e2
          rw [hk1.1] at e2'; cases e2'
          obtain ⟨i', j', q1, q2, q3, q4⟩ := flint_mono hf hk1 hs.2 (Int.le_of_lt e3)
          rw [hn] at q1; cases q1
          rw [f1] at q2; cases q2
          refine ⟨rfl, rfl, ?_, (by decide : (0 : Int) ≤ 1), (by decide : (1 : Int) ≤ 1048576), fun _ => ⟨fun _ => rfl, fun _ => (by decide : (0 : Int) < 1)⟩⟩
          show (if (1 : Int) > n then (1 : Int) else n) = 1
          split <;> omega
        | false =>
          have hle : k1 ≤ s := by
            refine Int.not_lt.1 fun g => ?_
            have : R.flt m (R.fc 4607182418800017408) = true := (flt_iff _ _).2 ⟨s, k1, hs.1, hk1.1, g⟩
            rw [hlt] at this; cases this
          obtain ⟨i', j', q1, q2, q3, q4⟩ := flint_mono hk1 hf (Int.le_of_lt p1) hle
          rw [hn] at q2; cases q2
          rw [f1] at q1; cases q1
          refine ⟨rfl, rfl, ?_, n0, n1, fun _ => ⟨fun _ => rfl, fun _ => ?_⟩⟩
          · show (if (1 : Int) > n then (1 : Int) else n) = n
            split <;> omega
          · show (0 : Int) < n
            omega

end Go.Proofs.Ytjmanmdkdgnfmaa
