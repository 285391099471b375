/- What the laws of this seat have in common: the program's functions and the reference's, held against each other. -/
import Derived.Test.YtlngdhennnlhlaaSp
import Derived.Test.YtlngdhennnlhlaaEv5
namespace Go.Proofs.Ytlngdhennnlhlaa
open Go.Ev

theorem sameE (x y : Fl) : S10_0 R x y = same x y := rfl
theorem isRefl (a b c : Fl) : S25_0 R a b c a b c = true := by
  simp only [S25_0, sameE, same_self, if_true]
theorem numberE (x : Fl) : S42_0 R x = S43_0 R x := number_iff x
theorem sel {α : Type} {b : Bool} {x y : α} : (if (!b) = true then y else x) = (if b = true then x else y) := by cases b <;> rfl
theorem ge_some {x y : Fl} (h : (ford x y == some .gt || ford x y == some .eq) = true) : ford x x = some .eq := by
  cases g : ford x y with
  | none => rw [g] at h; cases h
  | some o => exact (ford_some g).1
theorem dotE (a b c d e f : Fl) : S48_0 R a b c d e f = S49_0 R a b c d e f := rfl
theorem addE (a b : Fl) : S50_0 R a b = S52_0 R a b ∧ S50_1 R a b = S52_1 R a b ∧ S50_2 R a b = S52_2 R a b := ⟨rfl, rfl, rfl⟩
theorem scaleE (a b : Fl) : S51_0 R a b = S53_0 R a b ∧ S51_1 R a b = S53_1 R a b ∧ S51_2 R a b = S53_2 R a b := ⟨rfl, rfl, rfl⟩
theorem rgbIsRefl (a b c : Fl) : S30_0 R a b c a b c = true := by
  simp only [S30_0, sameE, same_self, if_true]
theorem numKey {a : Fl} (h : S43_0 R a = true) : ∃ k, fkey a = some k := by
  have h' : (R.feq (R.fsub a a) (cls 0)) = true := h
  rw [← number_iff] at h'
  cases g : R.fge a (cls lowBits) with
  | false => rw [g] at h'; cases h'
  | true =>
    obtain ⟨k, _, h1, _⟩ := (fge_iff _ _).1 g
    exact ⟨k, h1⟩
theorem one_nn : nn (cls 4607182418800017408) := by
  intro k h
  rw [cls_key] at h
  exact key_unsigned (by decide +kernel) h
theorem two_nn : nn (cls 4611686018427387904) := by
  intro k h
  rw [cls_key] at h
  exact key_unsigned (by decide +kernel) h
theorem eighth_nn : nn (cls 4593671619917905920) := by
  intro k h
  rw [cls_key] at h
  exact key_unsigned (by decide +kernel) h
theorem gt_nn {x : Fl} (h : (ford x (cls 0) == some .gt) = true) : nn x := by
  obtain ⟨a, b, h1, h2, h3⟩ := (fgt_iff _ _).1 h
  rw [fkey_zero] at h2; cases h2
  intro k hk; rw [h1] at hk; cases hk; omega
theorem sq_nn (x : Fl) : nn (R.fmul x x) := nn_sq x
theorem one_or_not (a : Fl) : R.fite (R.fle a (R.fc 4607182418800017408)) a (R.fc 4607182418800017408) = R.fite (R.bite (R.fgt a (R.fc 4607182418800017408)) (R.bc true) (R.bnot (R.feq a a))) (R.fc 4607182418800017408) a := by
  show (if (ford a (cls 4607182418800017408) == some .lt || ford a (cls 4607182418800017408) == some .eq) then a else cls 4607182418800017408) = (if (if (ford a (cls 4607182418800017408) == some .gt) then true else !(ford a a == some .eq) : Bool) then cls 4607182418800017408 else a)
  cases h : ford a (cls 4607182418800017408) with
  | none =>
    rcases ford_none h with g | g
    · rw [g]; rfl
    · rw [one_self] at g; cases g
  | some o => rw [(ford_some h).1]; cases o <;> rfl
theorem not_both (c : Fl) (h : R.flt c (R.fc 0) = true) : R.bite (R.fgt c (R.fc 4607182418800017408)) (R.bc true) (R.bnot (R.feq c c)) = false := by
  obtain ⟨a, b, h1, h2, h3⟩ := (flt_iff _ _).1 h
  have h2' : fkey (cls 0) = some b := h2
  rw [fkey_zero] at h2'; cases h2'
  have e1 : R.feq c c = true := (feq_iff _ _).2 ⟨a, a, h1, h1, rfl⟩
  have e2 : R.fgt c (R.fc 4607182418800017408) = false := by
    cases g : R.fgt c (R.fc 4607182418800017408) with
    | false => rfl
    | true =>
      obtain ⟨a', b', g1, g2, g3⟩ := (fgt_iff _ _).1 g
      rw [h1] at g1; cases g1
      have := one_nn b' g2
      omega
  rw [e1, e2]; rfl
theorem finPos {b m : Nat} {e : Int} (h : f64.read b = .number false m e) (hm : m ≠ 0) : ∃ k, fin (cls b) k ∧ 0 < k := by
  have hb := key_bound h
  refine ⟨_, ⟨by rw [cls_key, h]; rfl, hb.2, hb.1⟩, ?_⟩
  rw [Ieee.signed]
  have : 0 < m <<< (e + 1074).toNat := by rw [Nat.shiftLeft_eq]; exact Nat.mul_pos (Nat.pos_of_ne_zero hm) (Nat.two_pow_pos _)
  generalize m <<< (e + 1074).toNat = M at this ⊢
  simp only [Bool.false_eq_true, if_false]
  omega
theorem numFin {a : Fl} (h : S43_0 R a = true) : ∃ k, fin a k := by
  have h' : (R.feq (R.fsub a a) (cls 0)) = true := h
  rw [← number_iff] at h'
  cases g : R.fge a (cls lowBits) with
  | false => rw [g] at h'; cases h'
  | true =>
    rw [g] at h'
    obtain ⟨k, lo, h1, h2, h3⟩ := (fge_iff _ _).1 g
    obtain ⟨k', hi, g1, g2, g3⟩ := (fle_iff _ _).1 h'
    rw [h1] at g1; cases g1
    have e1 := key_bound read_low
    have e2 := key_bound read_top
    rw [cls_key, read_low] at h2
    rw [cls_key, read_top] at g2
    simp only [dkey, Option.some.injEq] at h2 g2
    exact ⟨k, h1, by omega, by omega⟩
theorem goodE (a b c : Fl) : S15_0 R a b c = S16_0 R a b c := by
  unfold S15_0 S16_0 S41_0
  rw [numberE, numberE, numberE]
  generalize S43_0 R a = p
  generalize S43_0 R b = q
  generalize S43_0 R c = r
  generalize R.fge a (R.fc 0) = u
  generalize R.fge b (R.fc 0) = v
  generalize R.fge c (R.fc 0) = w
  cases p <;> cases q <;> cases r <;> cases u <;> cases v <;> cases w <;> rfl
theorem goodFin {a b c : Fl} (h : S16_0 R a b c = true) : (∃ k, fin a k ∧ 0 ≤ k) ∧ (∃ k, fin b k ∧ 0 ≤ k) ∧ (∃ k, fin c k ∧ 0 ≤ k) := by
  have one : ∀ x : Fl, S43_0 R x = true → R.fge x (R.fc 0) = true → ∃ k, fin x k ∧ 0 ≤ k := by
    intro x h1 h2
    obtain ⟨k, hk⟩ := numFin h1
    obtain ⟨i, j, g1, g2, g3⟩ := (fge_iff _ _).1 h2
    rw [hk.1] at g1; cases g1
    have g2' : fkey (cls 0) = some j := g2
    rw [fkey_zero] at g2'; cases g2'
    exact ⟨k, hk, g3⟩
  unfold S16_0 at h
  revert h
  have oa := one a
  have ob := one b
  have oc := one c
  generalize S43_0 R a = p at *
  generalize S43_0 R b = q at *
  generalize S43_0 R c = r at *
  generalize R.fge a (R.fc 0) = u at *
  generalize R.fge b (R.fc 0) = v at *
  generalize R.fge c (R.fc 0) = w at *
  intro h
  cases p <;> cases q <;> cases r <;> cases u <;> cases v <;> cases w <;> first | (cases h; done) | exact ⟨oa rfl rfl, ob rfl rfl, oc rfl rfl⟩
theorem meanKey {a b c : Fl} {i j k : Int} (ha : nk a i) (hb : nk b j) (hc : nk c k) : ∃ s, nk (R.fmul (S14_0 R a b c) (R.fc 4625196817309499392)) s := by
  unfold S14_0
  obtain ⟨s1, h1, _⟩ := nk_add ha hb
  obtain ⟨s2, h2, _⟩ := nk_add h1 hc
  obtain ⟨k3, h3, p3⟩ := finPos (b := 4613937818241073152) (by decide +kernel : f64.read 4613937818241073152 = .number false 6755399441055744 (-51)) (by decide)
  obtain ⟨k16, h16, p16⟩ := finPos (b := 4625196817309499392) (by decide +kernel : f64.read 4625196817309499392 = .number false 4503599627370496 (-48)) (by decide)
  obtain ⟨s3, h4, _⟩ := nk_div h2 h3 p3
  obtain ⟨s4, h5, _⟩ := nk_mul h4 h16 p16
  exact ⟨s4, h5⟩
theorem meanMono {a b c a' b' c' : Fl} {i j k i' j' k' : Int} (ha : nk a i) (hb : nk b j) (hc : nk c k) (ha' : nk a' i') (hb' : nk b' j') (hc' : nk c' k') (h1 : i ≤ i') (h2 : j ≤ j') (h3 : k ≤ k') :
    ∃ s t, nk (R.fmul (S14_0 R a b c) (R.fc 4625196817309499392)) s ∧ nk (R.fmul (S14_0 R a' b' c') (R.fc 4625196817309499392)) t ∧ s ≤ t := by
  unfold S14_0
  obtain ⟨s1, t1, g1, g1', l1⟩ := add_mono ha hb ha' hb' h1 h2
  obtain ⟨s2, t2, g2, g2', l2⟩ := add_mono g1 hc g1' hc' l1 h3
  obtain ⟨k3, hk3, p3⟩ := finPos (b := 4613937818241073152) (by decide +kernel : f64.read 4613937818241073152 = .number false 6755399441055744 (-51)) (by decide)
  obtain ⟨k16, h16, p16⟩ := finPos (b := 4625196817309499392) (by decide +kernel : f64.read 4625196817309499392 = .number false 4503599627370496 (-48)) (by decide)
  obtain ⟨s3, t3, g3, g3', l3⟩ := div_mono g2 g2' hk3 p3 l2
  obtain ⟨s4, t4, g4, g4', l4⟩ := mul_mono g3 g3' h16 p16 l3
  exact ⟨s4, t4, g4, g4', l4⟩
theorem maxFin : ∃ k, fin (cls 4697254411347427328) k ∧ 0 < k ∧ flint (cls 4697254411347427328) = some 1048576 := by
  obtain ⟨k, h, p⟩ := finPos (b := 4697254411347427328) (by decide +kernel : f64.read 4697254411347427328 = .number false 4503599627370496 (-32)) (by decide)
  exact ⟨k, h, p, by kernel_rfl⟩
theorem oneFin : ∃ k, fin (cls 4607182418800017408) k ∧ 0 < k ∧ flint (cls 4607182418800017408) = some 1 := by
  obtain ⟨k, h, p⟩ := finPos (b := 4607182418800017408) (by decide +kernel : f64.read 4607182418800017408 = .number false 4503599627370496 (-52)) (by decide)
  exact ⟨k, h, p, by kernel_rfl⟩
/-- A light's number below the greatest one has a whole part. -/
theorem partOk {m : Fl} {s : Int} (hm : nk m s) (h : R.fge m (R.fc 4697254411347427328) = false) : ∃ i, flint m = some i ∧ 0 ≤ i ∧ i ≤ 1048576 ∧ fin m s := by
  obtain ⟨k, hk, p, fl⟩ := maxFin
  have hlt : s < k := by
    refine Int.not_le.1 fun g => ?_
    have : R.fge m (R.fc 4697254411347427328) = true := (fge_iff _ _).2 ⟨s, k, hm.1, hk.1, g⟩
    rw [h] at this; cases this
  have hf : fin m s := nk_fin hm (by have := hk.2.2; omega)
  obtain ⟨i, j, e1, e2, e3, e4⟩ := flint_mono hf hk hm.2 (Int.le_of_lt hlt)
  rw [fl] at e2; cases e2
  exact ⟨i, e1, e3, e4, hf⟩
theorem iokOf {m : Fl} {i : Int} (h : flint m = some i) (h0 : 0 ≤ i) (h1 : i ≤ 1048576) : R.f2iok .i64 m = true ∧ R.f2i .i64 m = i := by
  constructor
  · show (match flint m with | some n => decide (IntKind.i64.min ≤ n ∧ n ≤ IntKind.i64.max) | none => false) = true
    rw [h]
    have a : IntKind.i64.min = -9223372036854775808 := by decide
    have b : IntKind.i64.max = 9223372036854775807 := by decide
    simp only [a, b, decide_eq_true_eq]
    omega
  · show (flint m).getD 0 = i
    rw [h]; rfl
theorem blackE (a b c : Fl) : S17_0 R a b c = (if R.feq a (R.fc 0) then if R.feq b (R.fc 0) then R.feq c (R.fc 0) else false else false) := by
  unfold S17_0
  generalize R.feq a (R.fc 0) = u
  generalize R.feq b (R.fc 0) = v
  generalize R.feq c (R.fc 0) = w
  cases u <;> cases v <;> cases w <;> rfl
theorem weightE (a b c : Fl) : O18 R a b c = true ∧ O19 R a b c = true ∧ S18_0 R a b c = S19_0 R a b c ∧ 0 ≤ S19_0 R a b c ∧ S19_0 R a b c ≤ 1048576 ∧
    (S16_0 R a b c = true → (0 < S19_0 R a b c ↔ S17_0 R a b c = false)) := by
  have hm : S13_0 R a b c = S14_0 R a b c := rfl
  unfold O18 O19 S18_0 S19_0
  rw [goodE, hm]
  have hbk := blackE a b c
  generalize S17_0 R a b c = bk at *
  have hbk' : R.bite (R.feq a (R.fc 0)) (R.bite (R.feq b (R.fc 0)) (R.feq c (R.fc 0)) (R.bc false)) (R.bc false) = bk := hbk.symm
  rw [hbk']
  cases hg : S16_0 R a b c with
  | false => exact ⟨rfl, rfl, rfl, (by decide : (0 : Int) ≤ 0), (by decide : (0 : Int) ≤ 1048576), fun h => by cases h⟩
  | true =>
    cases bk with
    | true => exact ⟨rfl, rfl, rfl, (by decide : (0 : Int) ≤ 0), (by decide : (0 : Int) ≤ 1048576), fun _ => ⟨fun h => absurd h (by decide : ¬ (0 : Int) < 0), fun h => by cases h⟩⟩
    | false =>
      obtain ⟨⟨i, hi, i0⟩, ⟨j, hj, j0⟩, ⟨k, hk, k0⟩⟩ := goodFin hg
      obtain ⟨s, hs⟩ := meanKey ⟨hi.1, i0⟩ ⟨hj.1, j0⟩ ⟨hk.1, k0⟩
      generalize R.fmul (S14_0 R a b c) (R.fc 4625196817309499392) = m at *
      cases hge : R.fge m (R.fc 4697254411347427328) with
      | true => exact ⟨rfl, rfl, rfl, (by decide : (0 : Int) ≤ 1048576), (by decide : (1048576 : Int) ≤ 1048576), fun _ => ⟨fun _ => rfl, fun _ => (by decide : (0 : Int) < 1048576)⟩⟩
      | false =>
        obtain ⟨n, hn, n0, n1, hf⟩ := partOk hs hge
        obtain ⟨o1, o2⟩ := iokOf hn n0 n1
        obtain ⟨k1, hk1, p1, f1⟩ := oneFin
        rw [o1, o2]
        cases hlt : R.flt m (R.fc 4607182418800017408) with
        | true =>
          obtain ⟨x, y, e1, e2, e3⟩ := (flt_iff _ _).1 hlt
          rw [hs.1] at e1; cases e1
          have e2' : fkey (cls 4607182418800017408) = some y := e2
          rw [hk1.1] at e2'; cases e2'
          obtain ⟨i', j', q1, q2, q3, q4⟩ := flint_mono hf hk1 hs.2 (Int.le_of_lt e3)
          rw [hn] at q1; cases q1
          rw [f1] at q2; cases q2
          refine ⟨rfl, rfl, ?_, (by decide : (0 : Int) ≤ 1), (by decide : (1 : Int) ≤ 1048576), fun _ => ⟨fun _ => rfl, fun _ => (by decide : (0 : Int) < 1)⟩⟩
          show (if (1 : Int) > n then (1 : Int) else n) = 1
          split <;> omega
        | false =>
          have hle : k1 ≤ s := by
            refine Int.not_lt.1 fun g => ?_
            have : R.flt m (R.fc 4607182418800017408) = true := (flt_iff _ _).2 ⟨s, k1, hs.1, hk1.1, g⟩
            rw [hlt] at this; cases this
          obtain ⟨i', j', q1, q2, q3, q4⟩ := flint_mono hk1 hf (Int.le_of_lt p1) hle
          rw [hn] at q2; cases q2
          rw [f1] at q1; cases q1
          refine ⟨rfl, rfl, ?_, n0, n1, fun _ => ⟨fun _ => rfl, fun _ => ?_⟩⟩
          · show (if (1 : Int) > n then (1 : Int) else n) = n
            split <;> omega
          · show (0 : Int) < n
            omega

end Go.Proofs.Ytlngdhennnlhlaa
