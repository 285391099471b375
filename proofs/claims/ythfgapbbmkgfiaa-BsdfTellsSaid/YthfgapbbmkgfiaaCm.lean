/- What the laws of this seat have in common: the program's functions and the reference's, held against each other. -/
import Derived.Test.YthfgapbbmkgfiaaSp
import Derived.Test.YthfgapbbmkgfiaaEv5
namespace Go.Proofs.Ythfgapbbmkgfiaa
open Go.Ev

theorem sameE (x y : Fl) : S13_0 R x y = same x y := rfl
theorem isRefl (a b c : Fl) : S9_0 R a b c a b c = true := by
  simp only [S9_0, sameE, same_self, if_true]
theorem numberE (x : Fl) : S66_0 R x = S79_0 R x := number_iff x
theorem unitE (a0 a1 a2 : Fl) : S87_0 R a0 a1 a2 = S93_0 R a0 a1 a2 ∧ S87_1 R a0 a1 a2 = S93_1 R a0 a1 a2 ∧ S87_2 R a0 a1 a2 = S93_2 R a0 a1 a2 ∧ S87_3 R a0 a1 a2 = S93_3 R a0 a1 a2 := by
  have l : S101_0 R a0 a1 a2 = S28_0 R (S52_0 R a0 a1 a2 a0 a1 a2) := rfl
  simp only [S87_0, S87_1, S87_2, S87_3, S93_0, S93_1, S93_2, S93_3, l, numberE]
  generalize S28_0 R (S52_0 R a0 a1 a2 a0 a1 a2) = n
  cases (ford n (cls 0) == some .gt) <;> cases S79_0 R n <;> exact ⟨rfl, rfl, rfl, rfl⟩
theorem cleanE (a : Fl) : S22_0 R a = S25_0 R a := clean_eq a
theorem sel {α : Type} {b : Bool} {x y : α} : (if (!b) = true then y else x) = (if b = true then x else y) := by cases b <;> rfl
theorem ge_some {x y : Fl} (h : (ford x y == some .gt || ford x y == some .eq) = true) : ford x x = some .eq := by
  cases g : ford x y with
  | none => rw [g] at h; cases h
  | some o => exact (ford_some g).1
theorem dotE (a b c d e f : Fl) : S47_0 R a b c d e f = S52_0 R a b c d e f := rfl
theorem subE (a b : Fl) : S48_0 R a b = S53_0 R a b ∧ S48_1 R a b = S53_1 R a b ∧ S48_2 R a b = S53_2 R a b := ⟨rfl, rfl, rfl⟩
theorem addE (a b : Fl) : S88_0 R a b = S94_0 R a b ∧ S88_1 R a b = S94_1 R a b ∧ S88_2 R a b = S94_2 R a b := ⟨rfl, rfl, rfl⟩
theorem scaleE (a b : Fl) : S49_0 R a b = S54_0 R a b ∧ S49_1 R a b = S54_1 R a b ∧ S49_2 R a b = S54_2 R a b := ⟨rfl, rfl, rfl⟩
theorem rgbIsRefl (a b c : Fl) : S18_0 R a b c a b c = true := by
  simp only [S18_0, sameE, same_self, if_true]
theorem sizeE (a : Fl) : S99_0 R a = S96_0 R a := by
  simp only [S99_0, S96_0]
  cases h : ford a (cls 0) with
  | none =>
    rcases ford_none h with g | g
    · rw [g]; rfl
    · rw [zero_self] at g; cases g
  | some o => rw [(ford_some h).1]; cases o <;> rfl
theorem absNn (a : Fl) : nn (S96_0 R a) := by
  simp only [S96_0]
  cases hk : fkey a with
  | none =>
    have h : ford a (cls 0) = none := by rw [ford_key, hk]
    have g : ford a a = none := by rw [ford_key, hk]
    rw [h, g]
    intro k h
    have h' : fkey a = some k := h
    rw [hk] at h'; cases h'
  | some l =>
    have g : ford a a = some .eq := by rw [ford_key, hk]; simp
    have h : ford a (cls 0) = some (compare l 0) := by rw [ford_key, hk, fkey_zero]
    rw [h, g, compare_def]
    intro k h
    by_cases h0 : l < 0
    · rw [if_pos h0] at h
      exact key_from_zero hk h0 h
    · rw [if_neg h0] at h
      by_cases h1 : l = 0
      · rw [if_pos h1] at h
        have h' : fkey a = some k := h
        rw [hk] at h'; cases h'; omega
      · rw [if_neg h1] at h
        have h' : fkey a = some k := h
        rw [hk] at h'; cases h'; omega
theorem numKey {a : Fl} (h : S79_0 R a = true) : ∃ k, fkey a = some k := by
  have h' : (R.feq (R.fsub a a) (cls 0)) = true := h
  rw [← number_iff] at h'
  cases g : R.fge a (cls lowBits) with
  | false => rw [g] at h'; cases h'
  | true =>
    obtain ⟨k, _, h1, _⟩ := (fge_iff _ _).1 g
    exact ⟨k, h1⟩
theorem angleE (a0 a1 : Fl) : S86_1 R a0 a1 = S78_1 R a0 a1 ∧ S86_0 R a0 a1 = S78_0 R a0 a1 := by
  refine ⟨?_, by simp only [S86_0, S78_0, sizeE, ite_self]⟩
  simp only [S86_1, S78_1, sizeE, S100_0, numberE]
  have hA := absNn a0
  have hB := absNn a1
  generalize S96_0 R a0 = A at hA ⊢
  generalize S96_0 R a1 = B at hB ⊢
  have n0 : S79_0 R (cls 0) = true := by kernel_rfl
  cases hw : (ford A B == some .gt || ford A B == some .eq) with
  | true =>
    simp only [Bool.not_true, Bool.false_eq_true, if_false, if_true, n0]
    obtain ⟨a, b, h1, h2, h3⟩ := (fge_iff _ _).1 hw
    have p1 := hA a h1
    have p2 := hB b h2
    cases hz : (ford A (cls 0) == some .eq) with
    | true =>
      obtain ⟨c, d, g1, g2, g3⟩ := (feq_iff _ _).1 hz
      rw [h1] at g1; rw [fkey_zero] at g2; cases g1; cases g2
      have hb : (ford B (cls 0) == some .eq) = true := (feq_iff _ _).2 ⟨b, 0, h2, fkey_zero, by omega⟩
      rw [hb]
      cases S79_0 R A <;> cases S79_0 R B <;> rfl
    | false => cases S79_0 R A <;> cases S79_0 R B <;> rfl
  | false =>
    simp only [Bool.not_false, if_true, n0, Bool.false_eq_true, if_false]
    cases hNA : S79_0 R A with
    | false => cases S79_0 R B <;> cases (ford B (cls 0) == some .eq) <;> rfl
    | true =>
      cases hNB : S79_0 R B with
      | false => cases (ford B (cls 0) == some .eq) <;> rfl
      | true =>
        obtain ⟨a, h1⟩ := numKey hNA
        obtain ⟨b, h2⟩ := numKey hNB
        have p1 := hA a h1
        have hlt : a < b := by
          refine Int.not_le.1 fun h => ?_
          have := (fge_iff A B).2 ⟨a, b, h1, h2, h⟩
          rw [hw] at this; cases this
        have e1 : (ford B (cls 0) == some .eq) = false := by
          cases g : (ford B (cls 0) == some .eq) with
          | false => rfl
          | true =>
            obtain ⟨c, d, g1, g2, g3⟩ := (feq_iff _ _).1 g
            rw [h2] at g1; rw [fkey_zero] at g2; cases g1; cases g2
            omega
        rw [e1]
        cases (ford A (cls 0) == some .eq) <;> rfl
theorem warpDensityE (a0 a1 : Fl) : S64_0 R a0 a1 = R.fmul (R.fadd (R.fc 4607182418800017408) (R.fmul (S78_1 R a0 a1) (S78_1 R a0 a1))) (R.fc 4593671619917905920) := by
  simp only [S64_0, angleE]
theorem lambertEvalE (a b c : Fl) : S37_0 R a b c = S39_0 R a b c ∧ S37_1 R a b c = S39_1 R a b c ∧ S37_2 R a b c = S39_2 R a b c := by
  unfold S37_0 S37_1 S37_2 S39_0 S39_1 S39_2 S44_0 S65_0
  generalize R.fgt b (R.fc 0) = p
  generalize R.fgt c (R.fc 0) = q
  cases p <;> cases q <;> exact ⟨rfl, rfl, rfl⟩
theorem lambertDensityE (a b c d : Fl) : S35_0 R a b c d = S41_0 R a b c d := by
  unfold S35_0 S41_0 S44_0 S65_0
  rw [warpDensityE, numberE]
  generalize R.fmul (R.fmul (R.fc 4611686018427387904) _) d = p
  generalize R.fgt a (R.fc 0) = u
  generalize R.fgt d (R.fc 0) = v
  cases u <;> cases v <;> cases S79_0 R p <;> rfl
theorem one_nn : nn (cls 4607182418800017408) := by
  intro k h
  rw [cls_key] at h
  exact key_unsigned (by decide +kernel) h
theorem two_nn : nn (cls 4611686018427387904) := by
  intro k h
  rw [cls_key] at h
  exact key_unsigned (by decide +kernel) h
theorem eighth_nn : nn (cls 4593671619917905920) := by
  intro k h
  rw [cls_key] at h
  exact key_unsigned (by decide +kernel) h
theorem gt_nn {x : Fl} (h : (ford x (cls 0) == some .gt) = true) : nn x := by
  obtain ⟨a, b, h1, h2, h3⟩ := (fgt_iff _ _).1 h
  rw [fkey_zero] at h2; cases h2
  intro k hk; rw [h1] at hk; cases hk; omega
theorem sq_nn (x : Fl) : nn (R.fmul x x) := nn_sq x
theorem lambertDensityOk (a b c d : Fl) : ∃ k, fkey (S41_0 R a b c d) = some k ∧ 0 ≤ k := by
  unfold S41_0
  have hp : R.fgt d (R.fc 0) = true → nn (R.fmul (R.fmul (R.fc 4611686018427387904) (R.fmul (R.fadd (R.fc 4607182418800017408) (R.fmul (S78_1 R b c) (S78_1 R b c))) (R.fc 4593671619917905920))) d) := fun h =>
    nn_mul (nn_mul two_nn (nn_mul (nn_add one_nn (sq_nn _)) eighth_nn)) (gt_nn h)
  generalize R.fmul (R.fmul (R.fc 4611686018427387904) _) d = p at hp ⊢
  have hz : ∃ k, fkey (R.fc 0) = some k ∧ 0 ≤ k := ⟨0, fkey_zero, by omega⟩
  generalize R.fgt a (R.fc 0) = u
  generalize R.fgt d (R.fc 0) = v at hp ⊢
  cases u with
  | false => cases v <;> exact hz
  | true =>
    cases v with
    | false => exact hz
    | true =>
      cases hn : S79_0 R p with
      | false => exact hz
      | true =>
        obtain ⟨k, h1⟩ := numKey hn
        exact ⟨k, h1, hp rfl k h1⟩
theorem one_or_not (a : Fl) : R.fite (R.fle a (R.fc 4607182418800017408)) a (R.fc 4607182418800017408) = R.fite (R.bite (R.fgt a (R.fc 4607182418800017408)) (R.bc true) (R.bnot (R.feq a a))) (R.fc 4607182418800017408) a := by
  show (if (ford a (cls 4607182418800017408) == some .lt || ford a (cls 4607182418800017408) == some .eq) then a else cls 4607182418800017408) = (if (if (ford a (cls 4607182418800017408) == some .gt) then true else !(ford a a == some .eq) : Bool) then cls 4607182418800017408 else a)
  cases h : ford a (cls 4607182418800017408) with
  | none =>
    rcases ford_none h with g | g
    · rw [g]; rfl
    · rw [one_self] at g; cases g
  | some o => rw [(ford_some h).1]; cases o <;> rfl
theorem roughE (a : Fl) : S81_0 R a = S50_0 R a := by
  unfold S81_0 S91_0 S50_0
  rw [← one_or_not]
  generalize R.flt a (R.fc 4562146422526312448) = l
  cases l <;> rfl
theorem not_both (c : Fl) (h : R.flt c (R.fc 0) = true) : R.bite (R.fgt c (R.fc 4607182418800017408)) (R.bc true) (R.bnot (R.feq c c)) = false := by
  obtain ⟨a, b, h1, h2, h3⟩ := (flt_iff _ _).1 h
  have h2' : fkey (cls 0) = some b := h2
  rw [fkey_zero] at h2'; cases h2'
  have e1 : R.feq c c = true := (feq_iff _ _).2 ⟨a, a, h1, h1, rfl⟩
  have e2 : R.fgt c (R.fc 4607182418800017408) = false := by
    cases g : R.fgt c (R.fc 4607182418800017408) with
    | false => rfl
    | true =>
      obtain ⟨a', b', g1, g2, g3⟩ := (fgt_iff _ _).1 g
      rw [h1] at g1; cases g1
      have := one_nn b' g2
      omega
  rw [e1, e2]; rfl
theorem betweenE (c : Fl) : S91_0 R c (R.fc 0) (R.fc 4607182418800017408) = R.fite (R.bite (R.fgt c (R.fc 4607182418800017408)) (R.bc true) (R.bnot (R.feq c c))) (R.fc 4607182418800017408) (R.fite (R.flt c (R.fc 0)) (R.fc 0) c) := by
  unfold S91_0
  cases h : R.flt c (R.fc 0) with
  | true => rw [not_both c h]; rfl
  | false => exact one_or_not c
theorem fresnelE (a c : Fl) : S72_0 R a c = S77_0 R a c ∧ S72_1 R a c = S77_1 R a c ∧ S72_2 R a c = S77_2 R a c := by
  unfold S72_0 S72_1 S72_2 S77_0 S77_1 S77_2 S95_0
  rw [betweenE]
  exact ⟨rfl, rfl, rfl⟩
theorem normalsE (a z : Fl) : S68_0 R a z = S75_0 R a z := by
  unfold S68_0 S75_0 S45_0
  rw [roughE]
  generalize R.fgt z (R.fc 0) = g
  cases g <;> rfl
theorem shadowE (a z : Fl) : S70_0 R a z = S74_0 R a z := by
  unfold S70_0 S74_0 S45_0
  rw [roughE]
  generalize R.fgt z (R.fc 0) = g
  cases g <;> rfl
theorem halfE (a0 a1 a2 a3 a4 a5 : Fl) : S67_0 R a0 a1 a2 a3 a4 a5 = S73_0 R a0 a1 a2 a3 a4 a5 ∧ S67_1 R a0 a1 a2 a3 a4 a5 = S73_1 R a0 a1 a2 a3 a4 a5 ∧ S67_2 R a0 a1 a2 a3 a4 a5 = S73_2 R a0 a1 a2 a3 a4 a5 ∧ S67_3 R a0 a1 a2 a3 a4 a5 = S73_3 R a0 a1 a2 a3 a4 a5 := by
  have h := unitE (S94_0 R a0 a3) (S94_1 R a1 a4) (S94_2 R a2 a5)
  have p := addE a0 a3
  have q := addE a1 a4
  have r := addE a2 a5
  unfold S67_0 S67_1 S67_2 S67_3 S73_0 S73_1 S73_2 S73_3 S44_0 S65_0
  rw [p.1, q.2.1, r.2.2, h.1, h.2.1, h.2.2.1, h.2.2.2]
  generalize R.fgt a2 (R.fc 0) = u
  generalize R.fgt a5 (R.fc 0) = v
  cases u <;> cases v <;> exact ⟨rfl, rfl, rfl, rfl⟩
theorem ggxEvalE (k a a4 a5 a6 a7 a8 a9 : Fl) : S38_0 R k a a4 a5 a6 a7 a8 a9 = S40_0 R k a a4 a5 a6 a7 a8 a9 ∧ S38_1 R k a a4 a5 a6 a7 a8 a9 = S40_1 R k a a4 a5 a6 a7 a8 a9 ∧ S38_2 R k a a4 a5 a6 a7 a8 a9 = S40_2 R k a a4 a5 a6 a7 a8 a9 := by
  have h := halfE a4 a5 a6 a7 a8 a9
  unfold S38_0 S38_1 S38_2 S40_0 S40_1 S40_2
  rw [h.1, h.2.1, h.2.2.1, h.2.2.2, dotE, normalsE, shadowE, shadowE]
  generalize S73_0 R a4 a5 a6 a7 a8 a9 = h0
  generalize S73_1 R a4 a5 a6 a7 a8 a9 = h1
  generalize S73_2 R a4 a5 a6 a7 a8 a9 = h2
  generalize S73_3 R a4 a5 a6 a7 a8 a9 = h3
  generalize S52_0 R a4 a5 a6 h0 h1 h2 = c
  rw [(fresnelE k c).1, (fresnelE k c).2.1, (fresnelE k c).2.2]
  generalize R.fgt c (R.fc 0) = u
  cases u <;> cases h3 <;> exact ⟨rfl, rfl, rfl⟩
theorem ggxDensityE (a a1 a2 a3 a4 a5 a6 : Fl) : S36_0 R a a1 a2 a3 a4 a5 a6 = S42_0 R a a1 a2 a3 a4 a5 a6 := by
  have h := halfE a1 a2 a3 a4 a5 a6
  unfold S36_0 S42_0
  rw [h.1, h.2.1, h.2.2.1, h.2.2.2, dotE, normalsE, warpDensityE, numberE]
  generalize S73_0 R a1 a2 a3 a4 a5 a6 = h0
  generalize S73_1 R a1 a2 a3 a4 a5 a6 = h1
  generalize S73_2 R a1 a2 a3 a4 a5 a6 = h2
  generalize S73_3 R a1 a2 a3 a4 a5 a6 = h3
  generalize S52_0 R a1 a2 a3 h0 h1 h2 = c
  generalize R.fdiv _ (R.fmul (R.fc 4616189618054758400) c) = p
  generalize R.fgt c (R.fc 0) = u
  cases u <;> cases h3 <;> cases S79_0 R p <;> rfl
theorem ggxDensityOk (a a1 a2 a3 a4 a5 a6 : Fl) : S79_0 R (S42_0 R a a1 a2 a3 a4 a5 a6) = true := by
  unfold S42_0
  have hz : S79_0 R (R.fc 0) = true := by kernel_rfl
  generalize S73_3 R a1 a2 a3 a4 a5 a6 = h3
  generalize S52_0 R a1 a2 a3 _ _ _ = c
  generalize R.fdiv _ (R.fmul (R.fc 4616189618054758400) c) = p
  generalize R.fgt c (R.fc 0) = u
  cases u with
  | false => cases h3 <;> exact hz
  | true =>
    cases h3 with
    | false => exact hz
    | true =>
      cases hn : S79_0 R p with
      | false => exact hz
      | true => exact hn
theorem finPos {b m : Nat} {e : Int} (h : f64.read b = .number false m e) (hm : m ≠ 0) : ∃ k, fin (cls b) k ∧ 0 < k := by
  have hb := key_bound h
  refine ⟨_, ⟨by rw [cls_key, h]; rfl, hb.2, hb.1⟩, ?_⟩
  rw [Ieee.signed]
  have : 0 < m <<< (e + 1074).toNat := by rw [Nat.shiftLeft_eq]; exact Nat.mul_pos (Nat.pos_of_ne_zero hm) (Nat.two_pow_pos _)
  generalize m <<< (e + 1074).toNat = M at this ⊢
  simp only [Bool.false_eq_true, if_false]
  omega
theorem numFin {a : Fl} (h : S79_0 R a = true) : ∃ k, fin a k := (rnum_iff a).1 h
theorem goodE (a b c : Fl) : S56_0 R a b c = S59_0 R a b c := by
  unfold S56_0 S59_0 S85_0
  rw [numberE, numberE, numberE]
  generalize S79_0 R a = p
  generalize S79_0 R b = q
  generalize S79_0 R c = r
  generalize R.fge a (R.fc 0) = u
  generalize R.fge b (R.fc 0) = v
  generalize R.fge c (R.fc 0) = w
  cases p <;> cases q <;> cases r <;> cases u <;> cases v <;> cases w <;> rfl
theorem goodFin {a b c : Fl} (h : S59_0 R a b c = true) : (∃ k, fin a k ∧ 0 ≤ k) ∧ (∃ k, fin b k ∧ 0 ≤ k) ∧ (∃ k, fin c k ∧ 0 ≤ k) := by
  have one : ∀ x : Fl, S79_0 R x = true → R.fge x (R.fc 0) = true → ∃ k, fin x k ∧ 0 ≤ k := by
    intro x h1 h2
    obtain ⟨k, hk⟩ := numFin h1
    obtain ⟨i, j, g1, g2, g3⟩ := (fge_iff _ _).1 h2
    rw [hk.1] at g1; cases g1
    have g2' : fkey (cls 0) = some j := g2
    rw [fkey_zero] at g2'; cases g2'
    exact ⟨k, hk, g3⟩
  unfold S59_0 at h
  revert h
  have oa := one a
  have ob := one b
  have oc := one c
  generalize S79_0 R a = p at *
  generalize S79_0 R b = q at *
  generalize S79_0 R c = r at *
  generalize R.fge a (R.fc 0) = u at *
  generalize R.fge b (R.fc 0) = v at *
  generalize R.fge c (R.fc 0) = w at *
  intro h
  cases p <;> cases q <;> cases r <;> cases u <;> cases v <;> cases w <;> first | (cases h; done) | exact ⟨oa rfl rfl, ob rfl rfl, oc rfl rfl⟩
theorem meanKey {a b c : Fl} {i j k : Int} (ha : nk a i) (hb : nk b j) (hc : nk c k) : ∃ s, nk (R.fmul (S60_0 R a b c) (R.fc 4625196817309499392)) s := by
  unfold S60_0
  obtain ⟨s1, h1, _⟩ := nk_add ha hb
  obtain ⟨s2, h2, _⟩ := nk_add h1 hc
  obtain ⟨k3, h3, p3⟩ := finPos (b := 4613937818241073152) (by decide +kernel : f64.read 4613937818241073152 = .number false 6755399441055744 (-51)) (by decide)
  obtain ⟨k16, h16, p16⟩ := finPos (b := 4625196817309499392) (by decide +kernel : f64.read 4625196817309499392 = .number false 4503599627370496 (-48)) (by decide)
  obtain ⟨s3, h4, _⟩ := nk_div h2 h3 p3
  obtain ⟨s4, h5, _⟩ := nk_mul h4 h16 p16
  exact ⟨s4, h5⟩
theorem meanMono {a b c a' b' c' : Fl} {i j k i' j' k' : Int} (ha : nk a i) (hb : nk b j) (hc : nk c k) (ha' : nk a' i') (hb' : nk b' j') (hc' : nk c' k') (h1 : i ≤ i') (h2 : j ≤ j') (h3 : k ≤ k') :
    ∃ s t, nk (R.fmul (S60_0 R a b c) (R.fc 4625196817309499392)) s ∧ nk (R.fmul (S60_0 R a' b' c') (R.fc 4625196817309499392)) t ∧ s ≤ t := by
  unfold S60_0
  obtain ⟨s1, t1, g1, g1', l1⟩ := add_mono ha hb ha' hb' h1 h2
  obtain ⟨s2, t2, g2, g2', l2⟩ := add_mono g1 hc g1' hc' l1 h3
  obtain ⟨k3, hk3, p3⟩ := finPos (b := 4613937818241073152) (by decide +kernel : f64.read 4613937818241073152 = .number false 6755399441055744 (-51)) (by decide)
  obtain ⟨k16, h16, p16⟩ := finPos (b := 4625196817309499392) (by decide +kernel : f64.read 4625196817309499392 = .number false 4503599627370496 (-48)) (by decide)
  obtain ⟨s3, t3, g3, g3', l3⟩ := div_mono g2 g2' hk3 p3 l2
  obtain ⟨s4, t4, g4, g4', l4⟩ := mul_mono g3 g3' h16 p16 l3
  exact ⟨s4, t4, g4, g4', l4⟩
theorem maxFin : ∃ k, fin (cls 4697254411347427328) k ∧ 0 < k ∧ flint (cls 4697254411347427328) = some 1048576 := by
  obtain ⟨k, h, p⟩ := finPos (b := 4697254411347427328) (by decide +kernel : f64.read 4697254411347427328 = .number false 4503599627370496 (-32)) (by decide)
  exact ⟨k, h, p, by kernel_rfl⟩
theorem oneFin : ∃ k, fin (cls 4607182418800017408) k ∧ 0 < k ∧ flint (cls 4607182418800017408) = some 1 := by
  obtain ⟨k, h, p⟩ := finPos (b := 4607182418800017408) (by decide +kernel : f64.read 4607182418800017408 = .number false 4503599627370496 (-52)) (by decide)
  exact ⟨k, h, p, by kernel_rfl⟩
/-- A light's number below the greatest one has a whole part. -/
theorem partOk {m : Fl} {s : Int} (hm : nk m s) (h : R.fge m (R.fc 4697254411347427328) = false) : ∃ i, flint m = some i ∧ 0 ≤ i ∧ i ≤ 1048576 ∧ fin m s := by
  obtain ⟨k, hk, p, fl⟩ := maxFin
  have hlt : s < k := by
    refine Int.not_le.1 fun g => ?_
    have : R.fge m (R.fc 4697254411347427328) = true := (fge_iff _ _).2 ⟨s, k, hm.1, hk.1, g⟩
    rw [h] at this; cases this
  have hf : fin m s := nk_fin hm (by have := hk.2.2; omega)
  obtain ⟨i, j, e1, e2, e3, e4⟩ := flint_mono hf hk hm.2 (Int.le_of_lt hlt)
  rw [fl] at e2; cases e2
  exact ⟨i, e1, e3, e4, hf⟩
theorem iokOf {m : Fl} {i : Int} (h : flint m = some i) (h0 : 0 ≤ i) (h1 : i ≤ 1048576) : R.f2iok .i64 m = true ∧ R.f2i .i64 m = i := by
  constructor
  · show (match flint m with | some n => decide (IntKind.i64.min ≤ n ∧ n ≤ IntKind.i64.max) | none => false) = true
    rw [h]
    have a : IntKind.i64.min = -9223372036854775808 := by decide
    have b : IntKind.i64.max = 9223372036854775807 := by decide
    simp only [a, b, decide_eq_true_eq]
    omega
  · show (flint m).getD 0 = i
    rw [h]; rfl
theorem blackE (a b c : Fl) : S57_0 R a b c = (if R.feq a (R.fc 0) then if R.feq b (R.fc 0) then R.feq c (R.fc 0) else false else false) := by
  unfold S57_0
  generalize R.feq a (R.fc 0) = u
  generalize R.feq b (R.fc 0) = v
  generalize R.feq c (R.fc 0) = w
  cases u <;> cases v <;> cases w <;> rfl
theorem weightE (a b c : Fl) : O29 R a b c = true ∧ O30 R a b c = true ∧ S29_0 R a b c = S30_0 R a b c ∧ 0 ≤ S30_0 R a b c ∧ S30_0 R a b c ≤ 1048576 ∧
    (S59_0 R a b c = true → (0 < S30_0 R a b c ↔ S57_0 R a b c = false)) := by
  have hm : S58_0 R a b c = S60_0 R a b c := rfl
  unfold O29 O30 S29_0 S30_0
  rw [goodE, hm]
  have hbk := blackE a b c
  generalize S57_0 R a b c = bk at *
  have hbk' : R.bite (R.feq a (R.fc 0)) (R.bite (R.feq b (R.fc 0)) (R.feq c (R.fc 0)) (R.bc false)) (R.bc false) = bk := hbk.symm
  rw [hbk']
  cases hg : S59_0 R a b c with
  | false => exact ⟨rfl, rfl, rfl, (by decide : (0 : Int) ≤ 0), (by decide : (0 : Int) ≤ 1048576), fun h => by cases h⟩
  | true =>
    cases bk with
    | true => exact ⟨rfl, rfl, rfl, (by decide : (0 : Int) ≤ 0), (by decide : (0 : Int) ≤ 1048576), fun _ => ⟨fun h => absurd h (by decide : ¬ (0 : Int) < 0), fun h => by cases h⟩⟩
    | false =>
      obtain ⟨⟨i, hi, i0⟩, ⟨j, hj, j0⟩, ⟨k, hk, k0⟩⟩ := goodFin hg
      obtain ⟨s, hs⟩ := meanKey ⟨hi.1, i0⟩ ⟨hj.1, j0⟩ ⟨hk.1, k0⟩
      generalize R.fmul (S60_0 R a b c) (R.fc 4625196817309499392) = m at *
      cases hge : R.fge m (R.fc 4697254411347427328) with
      | true => exact ⟨rfl, rfl, rfl, (by decide : (0 : Int) ≤ 1048576), (by decide : (1048576 : Int) ≤ 1048576), fun _ => ⟨fun _ => rfl, fun _ => (by decide : (0 : Int) < 1048576)⟩⟩
      | false =>
        obtain ⟨n, hn, n0, n1, hf⟩ := partOk hs hge
        obtain ⟨o1, o2⟩ := iokOf hn n0 n1
        obtain ⟨k1, hk1, p1, f1⟩ := oneFin
        rw [o1, o2]
        cases hlt : R.flt m (R.fc 4607182418800017408) with
        | true =>
          obtain ⟨x, y, e1, e2, e3⟩ := (flt_iff _ _).1 hlt
          rw [hs.1] at e1; cases e1
          have e2' : fkey (cls 4607182418800017408) = some y := e2
          rw [hk1.1] at e2'; cases e2'
          obtain ⟨i', j', q1, q2, q3, q4⟩ := flint_mono hf hk1 hs.2 (Int.le_of_lt e3)
          rw [hn] at q1; cases q1
          rw [f1] at q2; cases q2
          refine ⟨rfl, rfl, ?_, (by decide : (0 : Int) ≤ 1), (by decide : (1 : Int) ≤ 1048576), fun _ => ⟨fun _ => rfl, fun _ => (by decide : (0 : Int) < 1)⟩⟩
          show (if (1 : Int) > n then (1 : Int) else n) = 1
          split <;> omega
        | false =>
          have hle : k1 ≤ s := by
            refine Int.not_lt.1 fun g => ?_
            have : R.flt m (R.fc 4607182418800017408) = true := (flt_iff _ _).2 ⟨s, k1, hs.1, hk1.1, g⟩
            rw [hlt] at this; cases this
          obtain ⟨i', j', q1, q2, q3, q4⟩ := flint_mono hk1 hf (Int.le_of_lt p1) hle
          rw [hn] at q2; cases q2
          rw [f1] at q1; cases q1
          refine ⟨rfl, rfl, ?_, n0, n1, fun _ => ⟨fun _ => rfl, fun _ => ?_⟩⟩
          · show (if (1 : Int) > n then (1 : Int) else n) = n
            split <;> omega
          · show (0 : Int) < n
            omega
theorem cleanVal (a : Fl) : ∃ q, fv (S25_0 R a) q ∧ 0 ≤ q ∧ q < 1 := by
  rw [← cleanE]
  unfold S22_0
  cases h1 : R.fge a (R.fc 0) with
  | false => exact ⟨0, fv_zero, by decide, by decide⟩
  | true =>
    cases h2 : R.flt a (R.fc 4607182418800017408) with
    | false => exact ⟨0, fv_zero, by decide, by decide⟩
    | true => exact unit_val h1 h2
theorem halfVal {h : Fl} (h1 : R.fge h (R.fc 4562146422526312448) = true) (h2 : R.fle h (R.fc 4620693217682128896) = true) : ∃ q, fv h q ∧ 1 / 1024 ≤ q ∧ q ≤ 8 := by
  have least : fv (R.fc 4562146422526312448) (1 / 1024) := fvc 1012 62 (1 / 1024) (by decide +kernel : f64.read 4562146422526312448 = .number false 4503599627370496 (-62)) (by decide) (by decide) (by decide +kernel)
  exact fv_between least fv_eight h1 h2
theorem finNum {a : Fl} {k : Int} (h : fin a k) : S79_0 R a = true := (rnum_iff a).2 ⟨k, h⟩
theorem distNn (d : Fl) : nn (R.fite (R.flt d (R.fc 0)) (R.fsub (R.fc 0) d) d) := by
  cases h : R.flt d (R.fc 0) with
  | true =>
    obtain ⟨a, b, e1, e2, e3⟩ := (flt_iff _ _).1 h
    have e2' : fkey (cls 0) = some b := e2
    rw [fkey_zero] at e2'; cases e2'
    intro k hk
    exact key_from_zero e1 e3 hk
  | false =>
    intro k hk
    refine Int.not_lt.1 fun g => ?_
    have : R.flt d (R.fc 0) = true := (flt_iff _ _).2 ⟨k, 0, hk, fkey_zero, g⟩
    rw [h] at this; cases this
theorem vnumFin {a : Fl} (h : S66_0 R a = true) : ∃ k, fin a k := (vnum_iff a).1 h
theorem vfinNum {a : Fl} {k : Int} (h : fin a k) : S66_0 R a = true := (vnum_iff a).2 ⟨k, h⟩
theorem eightVal (a : Fl) : ∃ w k, fv (R.fmul (S25_0 R a) (R.fc 4620693217682128896)) w ∧ flint (R.fmul (S25_0 R a) (R.fc 4620693217682128896)) = some k ∧ 0 ≤ k ∧ k ≤ 7 ∧ ((k : Int) : Rat) ≤ w ∧ w < ((k + 1 : Int) : Rat) := by
  obtain ⟨c, hc, c0, c1⟩ := cleanVal a
  obtain ⟨w, hw, rw'⟩ := mul_val hc fv_eight (by grind) (by grind)
  have h8 : repQ (c * 8) := by
    have a1 := repQ_twice (fv_rep hc) ⟨by grind, by grind⟩
    have a2 := repQ_twice a1 ⟨by grind, by grind⟩
    have a3 := repQ_twice a2 ⟨by grind, by grind⟩
    have e : 2 * (2 * (2 * c)) = c * 8 := by grind
    rw [e] at a3
    exact a3
  have ew := rw'.exact h8
  have f1 := Rat.floor_le w
  have f2 := Rat.lt_floor_add_one w
  have k0 : 0 ≤ w.floor := Rat.le_floor_iff.2 (by show (((0 : Int)) : Rat) ≤ w; rw [show ((0 : Int) : Rat) = 0 from rfl]; grind)
  have k7 : w.floor < 8 := Rat.floor_lt_iff.2 (by show w < ((8 : Int) : Rat); rw [show ((8 : Int) : Rat) = 8 from rfl]; grind)
  exact ⟨w, w.floor, hw, fv_trunc hw k0 f1 f2, k0, by omega, f1, f2⟩
theorem smallInt (j : Int) (h0 : 0 ≤ j) (h8 : j ≤ 8) : fv (R.i2f j) ((j : Int) : Rat) := by
  have : j = 0 ∨ j = 1 ∨ j = 2 ∨ j = 3 ∨ j = 4 ∨ j = 5 ∨ j = 6 ∨ j = 7 ∨ j = 8 := by omega
  have three : fv (R.fc 4613937818241073152) 3 := fvc 1023 51 3 (by decide +kernel : f64.read 4613937818241073152 = .number false 6755399441055744 (-51)) (by decide) (by decide) (by decide +kernel)
  have four : fv (R.fc 4616189618054758400) 4 := fvc 1024 50 4 (by decide +kernel : f64.read 4616189618054758400 = .number false 4503599627370496 (-50)) (by decide) (by decide) (by decide +kernel)
  have five : fv (R.fc 4617315517961601024) 5 := fvc 1024 50 5 (by decide +kernel : f64.read 4617315517961601024 = .number false 5629499534213120 (-50)) (by decide) (by decide) (by decide +kernel)
  have six : fv (R.fc 4618441417868443648) 6 := fvc 1024 50 6 (by decide +kernel : f64.read 4618441417868443648 = .number false 6755399441055744 (-50)) (by decide) (by decide) (by decide +kernel)
  have seven : fv (R.fc 4619567317775286272) 7 := fvc 1024 50 7 (by decide +kernel : f64.read 4619567317775286272 = .number false 7881299347898368 (-50)) (by decide) (by decide) (by decide +kernel)
  rcases this with rfl | rfl | rfl | rfl | rfl | rfl | rfl | rfl | rfl
  · exact (show R.i2f 0 = R.fc 0 by decide +kernel) ▸ fv_zero
  · exact (show R.i2f 1 = R.fc 4607182418800017408 by decide +kernel) ▸ fv_one
  · exact (show R.i2f 2 = R.fc 4611686018427387904 by decide +kernel) ▸ fv_two
  · exact (show R.i2f 3 = R.fc 4613937818241073152 by decide +kernel) ▸ three
  · exact (show R.i2f 4 = R.fc 4616189618054758400 by decide +kernel) ▸ four
  · exact (show R.i2f 5 = R.fc 4617315517961601024 by decide +kernel) ▸ five
  · exact (show R.i2f 6 = R.fc 4618441417868443648 by decide +kernel) ▸ six
  · exact (show R.i2f 7 = R.fc 4619567317775286272 by decide +kernel) ▸ seven
  · exact (show R.i2f 8 = R.fc 4620693217682128896 by decide +kernel) ▸ fv_eight
/-- The sector of a draw: the same, asked either way; its direction by what is left of the draw. -/
theorem sectorE (a : Fl) : O46 R a = true ∧ S46_0 R a = S51_0 R a ∧ S46_1 R a = S51_1 R a ∧ S46_2 R a = S51_2 R a ∧
    ∃ F f C S, fv F f ∧ 0 ≤ f ∧ f ≤ 1 ∧ S51_2 R a = R.fmul (R.fadd (R.fc 4607182418800017408) (R.fmul F F)) (R.fc 4593671619917905920) ∧
      C = R.fdiv (R.fc 4607182418800017408) (R.fsqrt (R.fadd (R.fc 4607182418800017408) (R.fmul F F))) ∧ S = R.fdiv F (R.fsqrt (R.fadd (R.fc 4607182418800017408) (R.fmul F F))) ∧
      ((S51_0 R a = C ∧ S51_1 R a = S) ∨ (S51_0 R a = S ∧ S51_1 R a = C) ∨ (S51_0 R a = R.fsub (R.fc 0) S ∧ S51_1 R a = C) ∨ (S51_0 R a = R.fsub (R.fc 0) C ∧ S51_1 R a = S) ∨
       (S51_0 R a = R.fsub (R.fc 0) C ∧ S51_1 R a = R.fsub (R.fc 0) S) ∨ (S51_0 R a = R.fsub (R.fc 0) S ∧ S51_1 R a = R.fsub (R.fc 0) C) ∨ (S51_0 R a = S ∧ S51_1 R a = R.fsub (R.fc 0) C) ∨ (S51_0 R a = C ∧ S51_1 R a = R.fsub (R.fc 0) S)) := by
  obtain ⟨w, k, hw, hk, k0, k7, g1, g2⟩ := eightVal a
  unfold O46 S46_0 S46_1 S46_2 S51_0 S51_1 S51_2
  rw [cleanE, fmul_comm (R.fc 4620693217682128896)]
  generalize R.fmul (S25_0 R a) (R.fc 4620693217682128896) = W at *
  have hi : R.f2i .i64 W = k := by show (flint W).getD 0 = k; rw [hk]; rfl
  have hok : R.f2iok .i64 W = true := by
    show (match flint W with | some n => decide (IntKind.i64.min ≤ n ∧ n ≤ IntKind.i64.max) | none => false) = true
    rw [hk]
    have a : IntKind.i64.min = -9223372036854775808 := by decide
    have b : IntKind.i64.max = 9223372036854775807 := by decide
    simp only [a, b, decide_eq_true_eq]
    omega
  have hle : ∀ j : Int, 0 ≤ j → j ≤ 8 → R.fle (R.i2f (R.zc j)) W = decide (j ≤ k) := by
    intro j j0 j8
    have h1 := fv_fle (smallInt j j0 j8) hw
    have h2 : (((j : Int) : Rat) ≤ w) ↔ j ≤ k := by
      constructor
      · intro h
        have := Rat.intCast_lt_intCast.1 (show ((j : Int) : Rat) < ((k + 1 : Int) : Rat) by grind)
        omega
      · intro h
        have := Rat.intCast_le_intCast.2 h
        grind
    show R.fle (R.i2f j) W = _
    rw [h1]
    exact decide_eq_decide.2 h2
  -- what is left
  have hF : ∃ f, fv (R.fsub W (R.i2f k)) f ∧ 0 ≤ f ∧ f ≤ 1 := by
    have e1 : ((k + 1 : Int) : Rat) = ((k : Int) : Rat) + 1 := by rw [Rat.intCast_add]; rfl
    obtain ⟨f, hf, rf⟩ := sub_val hw (smallInt k k0 (by omega)) (by grind) (by grind)
    exact ⟨f, hf, rf.ge 0 (fv_rep fv_zero) (by grind), rf.le 1 (fv_rep fv_one) (by grind)⟩
  have hs : ∀ x : Fl, S28_0 R x = R.fsqrt x := fun _ => rfl
  obtain ⟨f, hf, f0, f1⟩ := hF
  rw [hi, hok, hle 1 (by decide) (by decide), hle 2 (by decide) (by decide), hle 3 (by decide) (by decide), hle 4 (by decide) (by decide), hle 5 (by decide) (by decide), hle 6 (by decide) (by decide), hle 7 (by decide) (by decide)]
  have cases8 : k = 0 ∨ k = 1 ∨ k = 2 ∨ k = 3 ∨ k = 4 ∨ k = 5 ∨ k = 6 ∨ k = 7 := by omega
  rcases cases8 with rfl | rfl | rfl | rfl | rfl | rfl | rfl | rfl
  · exact ⟨rfl, rfl, rfl, rfl, _, f, _, _, hf, f0, f1, rfl, rfl, rfl, .inl ⟨rfl, rfl⟩⟩
  · exact ⟨rfl, rfl, rfl, rfl, _, f, _, _, hf, f0, f1, rfl, rfl, rfl, .inr (.inl ⟨rfl, rfl⟩)⟩
  · exact ⟨rfl, rfl, rfl, rfl, _, f, _, _, hf, f0, f1, rfl, rfl, rfl, .inr (.inr (.inl ⟨rfl, rfl⟩))⟩
  · exact ⟨rfl, rfl, rfl, rfl, _, f, _, _, hf, f0, f1, rfl, rfl, rfl, .inr (.inr (.inr (.inl ⟨rfl, rfl⟩)))⟩
  · exact ⟨rfl, rfl, rfl, rfl, _, f, _, _, hf, f0, f1, rfl, rfl, rfl, .inr (.inr (.inr (.inr (.inl ⟨rfl, rfl⟩))))⟩
  · exact ⟨rfl, rfl, rfl, rfl, _, f, _, _, hf, f0, f1, rfl, rfl, rfl, .inr (.inr (.inr (.inr (.inr (.inl ⟨rfl, rfl⟩)))))⟩
  · exact ⟨rfl, rfl, rfl, rfl, _, f, _, _, hf, f0, f1, rfl, rfl, rfl, .inr (.inr (.inr (.inr (.inr (.inr (.inl ⟨rfl, rfl⟩))))))⟩
  · exact ⟨rfl, rfl, rfl, rfl, _, f, _, _, hf, f0, f1, rfl, rfl, rfl, .inr (.inr (.inr (.inr (.inr (.inr (.inr ⟨rfl, rfl⟩))))))⟩
/-- What 1, and what is left, come to by the root: a direction of length 1, nearly. -/
theorem turnVal {F : Fl} {f : Rat} (hf : fv F f) (f0 : 0 ≤ f) (f1 : f ≤ 1) : ∃ q d c s, fv (R.fadd (R.fc 4607182418800017408) (R.fmul F F)) q ∧ fv (R.fsqrt (R.fadd (R.fc 4607182418800017408) (R.fmul F F))) d ∧
    fv (R.fdiv (R.fc 4607182418800017408) (R.fsqrt (R.fadd (R.fc 4607182418800017408) (R.fmul F F)))) c ∧ fv (R.fdiv F (R.fsqrt (R.fadd (R.fc 4607182418800017408) (R.fmul F F)))) s ∧
    1 ≤ q ∧ q ≤ 2 ∧ (1 + f * f - 1 / 281474976710656 ≤ q ∧ q ≤ 1 + f * f + 1 / 281474976710656) ∧ 1 ≤ d ∧ d ≤ 3 / 2 ∧ (1 - 1 / 281474976710656 ≤ c * d ∧ c * d ≤ 1 + 1 / 281474976710656) ∧ (f - 1 / 281474976710656 ≤ s * d ∧ s * d ≤ f + 1 / 281474976710656) ∧
    0 ≤ c ∧ c ≤ 1 ∧ 0 ≤ s ∧ s ≤ 1 ∧ 1 / 2 ≤ c ∧ (1 - 1 / 1099511627776 / 8 ≤ c * c + s * s ∧ c * c + s * s ≤ 1 + 1 / 1099511627776 / 8) := by
  obtain ⟨ff0, ff1⟩ := mul_abs (show -1 ≤ f by grind) f1 (show -1 ≤ f by grind) f1
  have ffn : 0 ≤ f * f := Rat.mul_nonneg f0 f0
  obtain ⟨p, hp, rp⟩ := mul_val hf hf (by grind) (by grind)
  have p0 : 0 ≤ p := rp.ge 0 (fv_rep fv_zero) ffn
  have p1 : p ≤ 1 := rp.le 1 (fv_rep fv_one) (by grind)
  have pn := rp.near4 (by grind) (by grind)
  obtain ⟨q, hq, rq⟩ := add_val fv_one hp (by grind) (by grind)
  have q1 : 1 ≤ q := rq.ge 1 (fv_rep fv_one) (by grind)
  have q2 : q ≤ 2 := rq.le 2 (fv_rep fv_two) (by grind)
  have qn := rq.near4 (by grind) (by grind)
  obtain ⟨d, hd, sd⟩ := sqrt_val hq (by grind) (by grind)
  have d1 : 1 ≤ d := sd.ge 1 (fv_rep fv_one) (by decide) (by grind)
  have threehalf : repQ (3 / 2) := fv_rep (fvc (b := 4609434218613702656) (e := -52) 1022 52 (3 / 2) (by decide +kernel : f64.read 4609434218613702656 = .number false 6755399441055744 (-52)) (by decide) (by decide) (by decide +kernel))
  have d2 : d ≤ 3 / 2 := sd.le (3 / 2) threehalf (by grind) (by grind)
  have dn := sd.near
  have e50 : pw 50 = 1125899906842624 := by unfold pw; rw [show (2 : Nat) ^ 50 = 1125899906842624 by decide]; rfl
  rw [e50] at dn
  have dpos : 0 < d := by grind
  have dne : d ≠ 0 := by grind
  have ec : 1 / d * d = 1 := Rat.div_mul_cancel dne
  have es : f / d * d = f := Rat.div_mul_cancel dne
  have c0' : 0 ≤ 1 / d := Rat.le_of_mul_le_mul_right (by rw [Rat.zero_mul, ec]; decide) dpos
  have c1' : 1 / d ≤ 1 := Rat.le_of_mul_le_mul_right (by rw [ec, Rat.one_mul]; exact d1) dpos
  have s0' : 0 ≤ f / d := Rat.le_of_mul_le_mul_right (by rw [Rat.zero_mul, es]; exact f0) dpos
  have s1' : f / d ≤ 1 := Rat.le_of_mul_le_mul_right (by rw [es, Rat.one_mul]; grind) dpos
  have chalf : 1 / 2 ≤ 1 / d := Rat.le_of_mul_le_mul_right (by rw [ec]; grind) dpos
  obtain ⟨c, hc, rc⟩ := div_val fv_one hd dne (by grind) (by grind)
  obtain ⟨s, hs, rs⟩ := div_val hf hd dne (by grind) (by grind)
  have c0 : 0 ≤ c := rc.ge 0 (fv_rep fv_zero) c0'
  have c1 : c ≤ 1 := rc.le 1 (fv_rep fv_one) c1'
  have s0 : 0 ≤ s := rs.ge 0 (fv_rep fv_zero) s0'
  have s1 : s ≤ 1 := rs.le 1 (fv_rep fv_one) s1'
  have ch : 1 / 2 ≤ c := rc.ge (1 / 2) (fv_rep fv_half) chalf
  have cn := rc.near4 (by grind) (by grind)
  have sn := rs.near4 (by grind) (by grind)
  have t1 := mul_abs (u := c - 1 / d) (a := 1 / 562949953421312) (v := d) (b := 3 / 2) (by grind) (by grind) (by grind) d2
  have t2 := mul_abs (u := s - f / d) (a := 1 / 562949953421312) (v := d) (b := 3 / 2) (by grind) (by grind) (by grind) d2
  have cd : 1 - 1 / 281474976710656 ≤ c * d ∧ c * d ≤ 1 + 1 / 281474976710656 := by constructor <;> grind
  have sdd : f - 1 / 281474976710656 ≤ s * d ∧ s * d ≤ f + 1 / 281474976710656 := by constructor <;> grind
  have k1 := sq_near (x := c * d) (y := 1) (e := 1 / 281474976710656) (by grind) (by grind) (by grind) (by grind) (by grind) (by grind)
  have k2 := sq_near (x := s * d) (y := f) (e := 1 / 281474976710656) (by grind) (by grind) (by grind) f1 (by grind) (by grind)
  refine ⟨q, d, c, s, hq, hd, hc, hs, q1, q2, ⟨by grind, by grind⟩, d1, d2, cd, sdd, c0, c1, s0, s1, ch, ?_⟩
  -- (c c + s s) d d is nearly 1 + f f, which is nearly d d
  have dd1 : 1 ≤ d * d := by
    have := Rat.mul_le_mul_of_nonneg_right d1 (Rat.le_of_lt dpos)
    grind
  have ddp : 0 < d * d := Rat.mul_pos dpos dpos
  have e1 : (c * c + s * s) * (d * d) = c * d * (c * d) + s * d * (s * d) := by grind
  constructor
  · refine Rat.le_of_mul_le_mul_right (c := d * d) ?_ ddp
    rw [e1]
    generalize c * d * (c * d) = u at *
    generalize s * d * (s * d) = v at *
    generalize d * d = z at *
    grind
  · refine Rat.le_of_mul_le_mul_right (c := d * d) ?_ ddp
    rw [e1]
    generalize c * d * (c * d) = u at *
    generalize s * d * (s * d) = v at *
    generalize d * d = z at *
    grind
theorem negVal {x : Fl} {p : Rat} (h : fv x p) (h1 : -1024 ≤ p) (h2 : p ≤ 1024) : fv (R.fsub (R.fc 0) x) (-p) := by
  obtain ⟨r, hr, rr⟩ := sub_val fv_zero h (by grind) (by grind)
  have : r = -p := by
    have := rr.exact (by rw [show (0 : Rat) - p = -p by grind]; exact repQ_neg (fv_rep h))
    grind
  rw [← this]
  exact hr
/-- The direction of a draw, by what it is worth. -/
theorem sectorVal (a : Fl) : ∃ x y p, fv (S51_0 R a) x ∧ fv (S51_1 R a) y ∧ fv (S51_2 R a) p ∧ -1 ≤ x ∧ x ≤ 1 ∧ -1 ≤ y ∧ y ≤ 1 ∧ 1 / 8 ≤ p ∧ p ≤ 1 / 4 ∧
    (1 - 1 / 1099511627776 / 8 ≤ x * x + y * y ∧ x * x + y * y ≤ 1 + 1 / 1099511627776 / 8) := by
  obtain ⟨_, _, _, _, F, f, C, S, hf, f0, f1, hp, hC, hS, hxy⟩ := sectorE a
  obtain ⟨q, d, c, s, hq, _, hc, hs, q1, q2, _, _, _, _, _, c0, c1, s0, s1, _, n1, n2⟩ := turnVal hf f0 f1
  rw [← hC] at hc
  rw [← hS] at hs
  have nc := negVal hc (by grind) (by grind)
  have ns := negVal hs (by grind) (by grind)
  obtain ⟨p, hp2, rp⟩ := mul_val hq fv_eighth (by grind) (by grind)
  have p0 : 1 / 8 ≤ p := rp.ge (1 / 8) (fv_rep fv_eighth) (by grind)
  have p1 : p ≤ 1 / 4 := rp.le (1 / 4) (fv_rep fv_quarter) (by grind)
  rw [← hp] at hp2
  rcases hxy with ⟨e1, e2⟩ | ⟨e1, e2⟩ | ⟨e1, e2⟩ | ⟨e1, e2⟩ | ⟨e1, e2⟩ | ⟨e1, e2⟩ | ⟨e1, e2⟩ | ⟨e1, e2⟩ <;> rw [e1, e2]
  · exact ⟨c, s, p, hc, hs, hp2, by grind, by grind, by grind, by grind, p0, p1, by grind, by grind⟩
  · exact ⟨s, c, p, hs, hc, hp2, by grind, by grind, by grind, by grind, p0, p1, by grind, by grind⟩
  · exact ⟨-s, c, p, ns, hc, hp2, by grind, by grind, by grind, by grind, p0, p1, by grind, by grind⟩
  · exact ⟨-c, s, p, nc, hs, hp2, by grind, by grind, by grind, by grind, p0, p1, by grind, by grind⟩
  · exact ⟨-c, -s, p, nc, ns, hp2, by grind, by grind, by grind, by grind, p0, p1, by grind, by grind⟩
  · exact ⟨-s, -c, p, ns, nc, hp2, by grind, by grind, by grind, by grind, p0, p1, by grind, by grind⟩
  · exact ⟨s, -c, p, hs, nc, hp2, by grind, by grind, by grind, by grind, p0, p1, by grind, by grind⟩
  · exact ⟨c, -s, p, hc, ns, hp2, by grind, by grind, by grind, by grind, p0, p1, by grind, by grind⟩
theorem diskE (a b : Fl) : O80 R b = true ∧ S80_0 R a b = S27_0 R a b ∧ S80_1 R a b = S27_1 R a b ∧ S80_2 R b = S27_2 R b := by
  obtain ⟨s1, s2, s3, s4, _⟩ := sectorE b
  unfold O80 S80_0 S80_1 S80_2 O97 S97_0 S97_1 S97_2 S27_0 S27_1 S27_2
  rw [s1, s2, s3, s4, cleanE, fmul_comm (R.fc 4611686018427387904)]
  exact ⟨rfl, rfl, rfl, rfl⟩
/-- A point of the disk, by what it is worth. -/
theorem diskVal (a b : Fl) : ∃ x y p r c, fv (S27_0 R a b) x ∧ fv (S27_1 R a b) y ∧ fv (S27_2 R b) p ∧ fv (S25_0 R a) c ∧ fv (R.fsqrt (S25_0 R a)) r ∧ 0 ≤ c ∧ c < 1 ∧ 0 ≤ r ∧ r ≤ 1 ∧ -1 ≤ x ∧ x ≤ 1 ∧ -1 ≤ y ∧ y ≤ 1 ∧ 1 / 4 ≤ p ∧ p ≤ 1 / 2 ∧
    (c - 1 / 1099511627776 / 4 ≤ x * x + y * y ∧ x * x + y * y ≤ c + 1 / 1099511627776 / 4) := by
  obtain ⟨c, hc, c0, c1⟩ := cleanVal a
  obtain ⟨r, hr, sr⟩ := sqrt_val hc c0 (by grind)
  have r1 : r ≤ 1 := sr.le 1 (fv_rep fv_one) (by decide) (by grind)
  have r0 := sr.nonneg
  have rn := sr.near
  have e50 : pw 50 = 1125899906842624 := by unfold pw; rw [show (2 : Nat) ^ 50 = 1125899906842624 by decide]; rfl
  rw [e50] at rn
  obtain ⟨x, y, p, hx, hy, hp, x0, x1, y0, y1, p0, p1, n1, n2⟩ := sectorVal b
  obtain ⟨a1, a2⟩ := mul_abs x0 x1 (show -1 ≤ r by grind) r1
  obtain ⟨b1, b2⟩ := mul_abs y0 y1 (show -1 ≤ r by grind) r1
  obtain ⟨u, hu, ru⟩ := mul_val hx hr (by grind) (by grind)
  obtain ⟨v, hv, rv⟩ := mul_val hy hr (by grind) (by grind)
  have u0 : -1 ≤ u := ru.ge (-1) (repQ_neg (fv_rep fv_one)) (by grind)
  have u1 : u ≤ 1 := ru.le 1 (fv_rep fv_one) (by grind)
  have v0 : -1 ≤ v := rv.ge (-1) (repQ_neg (fv_rep fv_one)) (by grind)
  have v1 : v ≤ 1 := rv.le 1 (fv_rep fv_one) (by grind)
  have un := ru.near4 (by grind) (by grind)
  have vn := rv.near4 (by grind) (by grind)
  have s1 := sq_near (x := u) (y := x * r) (e := 1 / 562949953421312) (by grind) (by grind) (by grind) (by grind) (by grind) (by grind)
  have s2 := sq_near (x := v) (y := y * r) (e := 1 / 562949953421312) (by grind) (by grind) (by grind) (by grind) (by grind) (by grind)
  obtain ⟨w, hw, rw'⟩ := mul_val hp fv_two (by grind) (by grind)
  have w0 : 1 / 4 ≤ w := rw'.ge (1 / 4) (fv_rep fv_quarter) (by grind)
  have w1 : w ≤ 1 / 2 := rw'.le (1 / 2) (fv_rep fv_half) (by grind)
  have hs : ∀ x : Fl, S28_0 R x = R.fsqrt x := fun _ => rfl
  unfold S27_0 S27_1 S27_2
  rw [hs]
  refine ⟨u, v, w, r, c, hu, hv, hw, hc, hr, c0, c1, r0, r1, u0, u1, v0, v1, w0, w1, ?_⟩
  have e1 : x * r * (x * r) + y * r * (y * r) = (x * x + y * y) * (r * r) := by grind
  have rr0 : 0 ≤ r * r := Rat.mul_nonneg r0 r0
  have rr1 : r * r ≤ 1 := by
    have := Rat.mul_le_mul_of_nonneg_right r1 r0
    grind
  obtain ⟨m1, m2⟩ := mul_abs (u := x * x + y * y - 1) (a := 1 / 1099511627776 / 8) (v := r * r) (b := 1) (by grind) (by grind) (by grind) rr1
  constructor <;> grind
/-- The length of what is of length 1, nearly. -/
theorem lenVal {x y : Fl} {p q : Rat} (hx : fv x p) (hy : fv y q) (p0 : -1 ≤ p) (p1 : p ≤ 1) (q0 : -1 ≤ q) (q1 : q ≤ 1) : ∃ n, fv (R.fadd (R.fmul x x) (R.fmul y y)) n ∧ p * p + q * q - 1 / 1099511627776 / 64 ≤ n ∧ n ≤ p * p + q * q + 1 / 1099511627776 / 64 ∧ 0 ≤ n := by
  obtain ⟨a1, a2⟩ := mul_abs p0 p1 p0 p1
  obtain ⟨b1, b2⟩ := mul_abs q0 q1 q0 q1
  have pp0 : 0 ≤ p * p := by
    by_cases h : 0 ≤ p
    · exact Rat.mul_nonneg h h
    · have := Rat.mul_nonneg (a := -p) (b := -p) (by grind) (by grind)
      grind
  have qq0 : 0 ≤ q * q := by
    by_cases h : 0 ≤ q
    · exact Rat.mul_nonneg h h
    · have := Rat.mul_nonneg (a := -q) (b := -q) (by grind) (by grind)
      grind
  obtain ⟨u, hu, ru⟩ := mul_val hx hx (by grind) (by grind)
  obtain ⟨v, hv, rv⟩ := mul_val hy hy (by grind) (by grind)
  have un := ru.near4 (by grind) (by grind)
  have vn := rv.near4 (by grind) (by grind)
  have u0 : 0 ≤ u := ru.ge 0 (fv_rep fv_zero) pp0
  have v0 : 0 ≤ v := rv.ge 0 (fv_rep fv_zero) qq0
  have u1 : u ≤ 1 := ru.le 1 (fv_rep fv_one) (by grind)
  have v1 : v ≤ 1 := rv.le 1 (fv_rep fv_one) (by grind)
  obtain ⟨n, hn, rn⟩ := add_val hu hv (by grind) (by grind)
  have nn' := rn.near4 (by grind) (by grind)
  exact ⟨n, hn, by grind, by grind, rn.ge 0 (fv_rep fv_zero) (by grind)⟩
/-- What is left of a draw's height, by what it is worth. -/
theorem heightVal (a : Fl) : ∃ c z, fv (S25_0 R a) c ∧ fv (R.fsqrt (R.fsub (R.fc 4607182418800017408) (S25_0 R a))) z ∧ 0 ≤ c ∧ c < 1 ∧ 0 ≤ z ∧ z ≤ 1 ∧ (1 - c - 1 / 281474976710656 ≤ z * z ∧ z * z ≤ 1 - c + 1 / 281474976710656) := by
  obtain ⟨c, hc, c0, c1⟩ := cleanVal a
  obtain ⟨v, hv, rv⟩ := sub_val fv_one hc (by grind) (by grind)
  have v0 : 0 ≤ v := rv.ge 0 (fv_rep fv_zero) (by grind)
  have v1 : v ≤ 1 := rv.le 1 (fv_rep fv_one) (by grind)
  have vn := rv.near4 (by grind) (by grind)
  obtain ⟨z, hz, sz⟩ := sqrt_val hv v0 (by grind)
  have z1 : z ≤ 1 := sz.le 1 (fv_rep fv_one) (by decide) (by grind)
  have zn := sz.near
  have e50 : pw 50 = 1125899906842624 := by unfold pw; rw [show (2 : Nat) ^ 50 = 1125899906842624 by decide]; rfl
  rw [e50] at zn
  exact ⟨c, z, hc, hz, c0, c1, sz.nonneg, z1, by grind, by grind⟩
theorem hemiE (a b : Fl) : O43 R b = true ∧ S43_0 R a b = S27_0 R a b ∧ S43_1 R a b = S27_1 R a b ∧ S43_2 R a = R.fsqrt (R.fsub (R.fc 4607182418800017408) (S25_0 R a)) := by
  obtain ⟨d1, d2, d3, d4⟩ := diskE a b
  unfold O43 S43_0 S43_1 S43_2
  rw [d1, d2, d3, cleanE]
  exact ⟨rfl, rfl, rfl, rfl⟩
/-- The length of three parts. -/
theorem dotVal {x y z : Fl} {p q s : Rat} (hx : fv x p) (hy : fv y q) (hz : fv z s) (p0 : -1 ≤ p) (p1 : p ≤ 1) (q0 : -1 ≤ q) (q1 : q ≤ 1) (s0 : -1 ≤ s) (s1 : s ≤ 1) :
    ∃ n, fv (R.fadd (R.fadd (R.fmul x x) (R.fmul y y)) (R.fmul z z)) n ∧ p * p + q * q + s * s - 1 / 1099511627776 / 16 ≤ n ∧ n ≤ p * p + q * q + s * s + 1 / 1099511627776 / 16 := by
  obtain ⟨m, hm, ma, mb, m0⟩ := lenVal hx hy p0 p1 q0 q1
  obtain ⟨a1, a2⟩ := mul_abs p0 p1 p0 p1
  obtain ⟨b1, b2⟩ := mul_abs q0 q1 q0 q1
  obtain ⟨c1, c2⟩ := mul_abs s0 s1 s0 s1
  obtain ⟨v, hv, rv⟩ := mul_val hz hz (by grind) (by grind)
  have vn := rv.near4 (by grind) (by grind)
  obtain ⟨n, hn, rn⟩ := add_val hm hv (by grind) (by grind)
  have nn' := rn.near4 (by grind) (by grind)
  exact ⟨n, hn, by grind, by grind⟩
/-- A direction in the plane, made shorter. -/
theorem shortVal (b : Fl) {Q : Fl} {r : Rat} (hr : fv Q r) (r0 : 0 ≤ r) (r1 : r ≤ 1) : ∃ u v, fv (R.fmul (S51_0 R b) Q) u ∧ fv (R.fmul (S51_1 R b) Q) v ∧ -1 ≤ u ∧ u ≤ 1 ∧ -1 ≤ v ∧ v ≤ 1 ∧
    (r * r - 1 / 1099511627776 / 4 ≤ u * u + v * v ∧ u * u + v * v ≤ r * r + 1 / 1099511627776 / 4) := by
  obtain ⟨x, y, p, hx, hy, hp, x0, x1, y0, y1, p0, p1, n1, n2⟩ := sectorVal b
  obtain ⟨a1, a2⟩ := mul_abs x0 x1 (show -1 ≤ r by grind) r1
  obtain ⟨b1, b2⟩ := mul_abs y0 y1 (show -1 ≤ r by grind) r1
  obtain ⟨u, hu, ru⟩ := mul_val hx hr (by grind) (by grind)
  obtain ⟨v, hv, rv⟩ := mul_val hy hr (by grind) (by grind)
  have u0 : -1 ≤ u := ru.ge (-1) (repQ_neg (fv_rep fv_one)) (by grind)
  have u1 : u ≤ 1 := ru.le 1 (fv_rep fv_one) (by grind)
  have v0 : -1 ≤ v := rv.ge (-1) (repQ_neg (fv_rep fv_one)) (by grind)
  have v1 : v ≤ 1 := rv.le 1 (fv_rep fv_one) (by grind)
  have un := ru.near4 (by grind) (by grind)
  have vn := rv.near4 (by grind) (by grind)
  have s1 := sq_near (x := u) (y := x * r) (e := 1 / 562949953421312) (by grind) (by grind) (by grind) (by grind) (by grind) (by grind)
  have s2 := sq_near (x := v) (y := y * r) (e := 1 / 562949953421312) (by grind) (by grind) (by grind) (by grind) (by grind) (by grind)
  refine ⟨u, v, hu, hv, u0, u1, v0, v1, ?_⟩
  have e1 : x * r * (x * r) + y * r * (y * r) = (x * x + y * y) * (r * r) := by grind
  have rr0 : 0 ≤ r * r := Rat.mul_nonneg r0 r0
  have rr1 : r * r ≤ 1 := by
    have := Rat.mul_le_mul_of_nonneg_right r1 r0
    grind
  obtain ⟨m1, m2⟩ := mul_abs (u := x * x + y * y - 1) (a := 1 / 1099511627776 / 8) (v := r * r) (b := 1) (by grind) (by grind) (by grind) rr1
  constructor <;> grind
/-- A quotient of the lesser by the greater is not above that of the greater. -/
theorem div_le {x u y : Fl} {p q d s c : Rat} (hx : fv x p) (hu : fv u q) (hy : fv y d) (p0 : 0 ≤ p) (pq : p ≤ q) (d0 : 0 < d) (hs : fv (R.fdiv x y) s) (hc : fv (R.fdiv u y) c) : s ≤ c := by
  have key : ∀ {x : Fl} {p : Rat}, fv x p → 0 ≤ p → ∃ k, nk x k ∧ p * pw 1074 = (k : Rat) := by
    rintro x p ⟨k, hk, e⟩ h0
    refine ⟨k, ⟨hk.1, ?_⟩, e⟩
    have := Rat.mul_nonneg h0 (Rat.le_of_lt (pw_pos 1074))
    rw [e] at this
    exact Rat.intCast_nonneg.1 this
  obtain ⟨i, ni, ei⟩ := key hx p0
  obtain ⟨j, nj, ej⟩ := key hu (Rat.le_trans p0 pq)
  obtain ⟨k, hk, ek⟩ := id hy
  have hk0 : 0 < k := by
    have := Rat.mul_pos d0 (pw_pos 1074)
    rw [ek] at this
    exact Rat.intCast_pos.1 this
  have hij : i ≤ j := by
    have := Rat.mul_le_mul_of_nonneg_right pq (Rat.le_of_lt (pw_pos 1074))
    rw [ei, ej] at this
    exact Rat.intCast_le_intCast.1 this
  obtain ⟨m, n, hm, hn, hmn⟩ := div_mono ni nj hk hk0 hij
  obtain ⟨a, ha, ea⟩ := hs
  obtain ⟨b, hb, eb⟩ := hc
  have e1 : a = m := Option.some.inj (ha.1.symm.trans hm.1)
  have e2 : b = n := Option.some.inj (hb.1.symm.trans hn.1)
  subst e1 e2
  have := Rat.intCast_le_intCast.2 hmn
  rw [← ea, ← eb] at this
  exact Rat.le_of_mul_le_mul_right this (pw_pos 1074)
theorem absVal {x : Fl} {p : Rat} (h : fv x p) (h1 : -1024 ≤ p) (h2 : p ≤ 1024) : fv (S96_0 R x) (if 0 ≤ p then p else -p) := by
  unfold S96_0
  rw [fv_fge h fv_zero, fv_num h]
  by_cases g : 0 ≤ p
  · rw [decide_eq_true g, if_pos g]; exact h
  · rw [decide_eq_false g, if_neg g]; exact negVal h h1 h2
/-- How far a direction is within its sector, of sizes that are told. -/
theorem angleVal {x y : Fl} {p q : Rat} (hx : fv (S96_0 R x) p) (hy : fv (S96_0 R y) q) (p0 : 0 ≤ p) (q0 : 0 ≤ q) (_p1 : p ≤ 1024) (_q1 : q ≤ 1024) :
    (q ≤ p → p ≠ 0 → ∃ g, fv (S78_1 R x y) g ∧ rnds g (q / p)) ∧ (p < q → ∃ g, fv (S78_1 R x y) g ∧ rnds g (p / q)) := by
  have num : ∀ {z : Fl} {r : Rat}, fv z r → S79_0 R z = true := by
    rintro z r ⟨k, hk, _⟩
    exact finNum hk
  unfold S78_1
  rw [num hx, num hy, fv_feq hx fv_zero, fv_feq hy fv_zero, fv_fge hx hy]
  have quot : ∀ {a b : Rat}, 0 ≤ a → a ≤ b → b ≠ 0 → 0 ≤ a / b ∧ a / b ≤ 1 := by
    intro a b ha hab hb
    have hp : 0 < b := by grind
    have e : a / b * b = a := Rat.div_mul_cancel hb
    exact ⟨Rat.le_of_mul_le_mul_right (by rw [Rat.zero_mul, e]; exact ha) hp, Rat.le_of_mul_le_mul_right (by rw [e, Rat.one_mul]; exact hab) hp⟩
  constructor
  · intro hqp hp
    obtain ⟨a1, a2⟩ := quot q0 hqp hp
    rw [decide_eq_false hp, decide_eq_true hqp]
    obtain ⟨g, hg, rg⟩ := div_val hy hx hp (by grind) (by grind)
    exact ⟨g, hg, rg⟩
  · intro hpq
    have hq : q ≠ 0 := by grind
    obtain ⟨a1, a2⟩ := quot p0 (Rat.le_of_lt hpq) hq
    rw [decide_eq_false hq, decide_eq_false (Rat.not_le.2 hpq)]
    obtain ⟨g, hg, rg⟩ := div_val hx hy hq (by grind) (by grind)
    cases decide (p = 0) <;> exact ⟨g, hg, rg⟩
/-- The angle of any numbers is a number. -/
theorem angleNum (x y : Fl) : R.feq (S78_1 R x y) (S78_1 R x y) = true ∧ ∃ g, fv (S78_1 R x y) g ∧ 0 ≤ g ∧ g ≤ 1 := by
  suffices h : ∃ g, fv (S78_1 R x y) g ∧ 0 ≤ g ∧ g ≤ 1 by
    obtain ⟨g, hg, h1⟩ := h
    exact ⟨fv_num hg, g, hg, h1⟩
  have hA := absNn x
  have hB := absNn y
  unfold S78_1
  generalize S96_0 R x = A at *
  generalize S96_0 R y = B at *
  cases na : S79_0 R A with
  | false => exact ⟨0, fv_zero, by decide, by decide⟩
  | true =>
    cases nb : S79_0 R B with
    | false => exact ⟨0, fv_zero, by decide, by decide⟩
    | true =>
      obtain ⟨i, hi⟩ := numFin na
      obtain ⟨j, hj⟩ := numFin nb
      have i0 := hA i hi.1
      have j0 := hB j hj.1
      -- the quotient of the lesser by the greater
      have quot : ∀ {u v : Fl} {a b : Int}, fin u a → fin v b → 0 ≤ a → a ≤ b → 0 < b → ∃ g, fv (R.fdiv u v) g ∧ 0 ≤ g ∧ g ≤ 1 := by
        intro u v a b hu hv h0 hab hb
        obtain ⟨p, hp, ep⟩ := fv_of_fin hu
        obtain ⟨q, hq, eq⟩ := fv_of_fin hv
        have hW := pw_pos 1074
        have p0 : 0 ≤ p := Rat.le_of_mul_le_mul_right (by rw [Rat.zero_mul, ep]; exact Rat.intCast_nonneg.2 h0) hW
        have pq : p ≤ q := Rat.le_of_mul_le_mul_right (by rw [ep, eq]; exact Rat.intCast_le_intCast.2 hab) hW
        have q0 : 0 < q := Rat.lt_of_mul_lt_mul_right (by rw [Rat.zero_mul, eq]; exact Rat.intCast_pos.2 hb) (Rat.le_of_lt hW)
        have e : p / q * q = p := Rat.div_mul_cancel (Rat.ne_of_gt q0)
        have l0 : 0 ≤ p / q := Rat.le_of_mul_le_mul_right (by rw [Rat.zero_mul, e]; exact p0) q0
        have l1 : p / q ≤ 1 := Rat.le_of_mul_le_mul_right (by rw [e, Rat.one_mul]; exact pq) q0
        obtain ⟨g, hg, rg⟩ := div_val hp hq (Rat.ne_of_gt q0) (by grind) (by grind)
        exact ⟨g, hg, rg.ge 0 (fv_rep fv_zero) l0, rg.le 1 (fv_rep fv_one) l1⟩
      have zero : ∀ {u : Fl} {a : Int}, fin u a → (R.feq u (R.fc 0) = true ↔ a = 0) := by
        intro u a hu
        refine (feq_iff u (cls 0)).trans ⟨?_, ?_⟩
        · rintro ⟨p, q, e1, e2, e3⟩
          rw [hu.1] at e1; rw [fkey_zero] at e2; cases e1; cases e2; exact e3
        · intro e; exact ⟨a, 0, hu.1, fkey_zero, e⟩
      cases hz : R.bite (R.feq A (R.fc 0)) (R.feq B (R.fc 0)) (R.bc false) with
      | true => exact ⟨0, fv_zero, by decide, by decide⟩
      | false =>
        have hnz : ¬ (i = 0 ∧ j = 0) := by
          rintro ⟨h1, h2⟩
          rw [(zero hi).2 h1, (zero hj).2 h2] at hz
          cases hz
        cases hge : R.fge A B with
        | true =>
          obtain ⟨a, b, e1, e2, e3⟩ := (fge_iff _ _).1 hge
          rw [hi.1] at e1; rw [hj.1] at e2; cases e1; cases e2
          exact quot hj hi j0 e3 (by omega)
        | false =>
          have hlt : i < j := by
            refine Int.not_le.1 fun g => ?_
            have : R.fge A B = true := (fge_iff _ _).2 ⟨i, j, hi.1, hj.1, g⟩
            rw [hge] at this; cases this
          exact quot hi hj i0 (by omega) (by omega)
/-- A density by how far a direction is, by what it is worth. -/
theorem densVal {G : Fl} {g : Rat} (hg : fv G g) (g0 : 0 ≤ g) (g1 : g ≤ 1) : ∃ p, fv (R.fmul (R.fadd (R.fc 4607182418800017408) (R.fmul G G)) (R.fc 4593671619917905920)) p ∧ 1 / 8 ≤ p ∧ p ≤ 1 / 4 ∧
    (1 + g * g - 1 / 35184372088832 ≤ p * 8 ∧ p * 8 ≤ 1 + g * g + 1 / 35184372088832) := by
  obtain ⟨a1, a2⟩ := mul_abs (show -1 ≤ g by grind) g1 (show -1 ≤ g by grind) g1
  have gg0 : 0 ≤ g * g := Rat.mul_nonneg g0 g0
  obtain ⟨u, hu, ru⟩ := mul_val hg hg (by grind) (by grind)
  have u0 : 0 ≤ u := ru.ge 0 (fv_rep fv_zero) gg0
  have u1 : u ≤ 1 := ru.le 1 (fv_rep fv_one) (by grind)
  have un := ru.near4 (by grind) (by grind)
  obtain ⟨q, hq, rq⟩ := add_val fv_one hu (by grind) (by grind)
  have q1 : 1 ≤ q := rq.ge 1 (fv_rep fv_one) (by grind)
  have q2 : q ≤ 2 := rq.le 2 (fv_rep fv_two) (by grind)
  have qn := rq.near4 (by grind) (by grind)
  obtain ⟨p, hp, rp⟩ := mul_val hq fv_eighth (by grind) (by grind)
  have pn := rp.near4 (by grind) (by grind)
  exact ⟨p, hp, rp.ge (1 / 8) (fv_rep fv_eighth) (by grind), rp.le (1 / 4) (fv_rep fv_quarter) (by grind), by grind, by grind⟩
/-- How far a draw's direction, made shorter by r, is within its sector: what was left of the draw, nearly. -/
theorem angleOf {X Y : Fl} {f c s d r u v : Rat} (hx : fv (S96_0 R X) u) (hy : fv (S96_0 R Y) v) (f0 : 0 ≤ f) (f1 : f ≤ 1) (d1 : 1 ≤ d) (d2 : d ≤ 3 / 2) (c0 : 1 / 2 ≤ c) (c1 : c ≤ 1) (s0 : 0 ≤ s) (s1 : s ≤ 1) (sc : s ≤ c)
    (cd : 1 - 1 / 281474976710656 ≤ c * d ∧ c * d ≤ 1 + 1 / 281474976710656) (sd : f - 1 / 281474976710656 ≤ s * d ∧ s * d ≤ f + 1 / 281474976710656) (r0 : 0 < r) (r1 : r ≤ 1)
    (huv : (c * r - r / 1125899906842624 ≤ u ∧ u ≤ c * r + r / 1125899906842624 ∧ s * r - r / 1125899906842624 ≤ v ∧ v ≤ s * r + r / 1125899906842624 ∧ 0 ≤ v ∧ v ≤ u) ∨
      (c * r - r / 1125899906842624 ≤ v ∧ v ≤ c * r + r / 1125899906842624 ∧ s * r - r / 1125899906842624 ≤ u ∧ u ≤ s * r + r / 1125899906842624 ∧ 0 ≤ u ∧ u ≤ v)) :
    ∃ g, fv (S78_1 R X Y) g ∧ 0 ≤ g ∧ g ≤ 1 ∧ (f - 1 / 17592186044416 ≤ g ∧ g ≤ f + 1 / 17592186044416) := by
  obtain ⟨m1, m2⟩ := mul_abs (u := c) (a := 1) (v := r) (b := 1) (by grind) c1 (by grind) r1
  obtain ⟨m3, m4⟩ := mul_abs (u := s) (a := 1) (v := r) (b := 1) (by grind) s1 (by grind) r1
  have hcr : 1 / 2 * r ≤ c * r := Rat.mul_le_mul_of_nonneg_right c0 (Rat.le_of_lt r0)
  -- the quotient of what s has become by what c has become
  have ratio : ∀ {m l : Rat}, c * r - r / 1125899906842624 ≤ m → m ≤ c * r + r / 1125899906842624 → s * r - r / 1125899906842624 ≤ l → l ≤ s * r + r / 1125899906842624 → 0 ≤ l → l ≤ m → ∀ {g : Rat}, rnds g (l / m) → 0 ≤ g ∧ g ≤ 1 ∧ (f - 1 / 17592186044416 ≤ g ∧ g ≤ f + 1 / 17592186044416) := by
    intro m l a1 a2 a3 a4 l0 lm g rg
    have mpos : 0 < m := by grind
    have e : l / m * m = l := Rat.div_mul_cancel (Rat.ne_of_gt mpos)
    have q0 : 0 ≤ l / m := Rat.le_of_mul_le_mul_right (by rw [Rat.zero_mul, e]; exact l0) mpos
    have q1 : l / m ≤ 1 := Rat.le_of_mul_le_mul_right (by rw [e, Rat.one_mul]; exact lm) mpos
    have gn := rg.near4 (by grind) (by grind)
    have dpos : 0 < d := by grind
    have mdpos : 0 < m * d := Rat.mul_pos mpos dpos
    -- l d against f m d
    have drpos : 0 < r * d := Rat.mul_pos r0 dpos
    have dr2 : r * d ≤ r * (3 / 2) := Rat.mul_le_mul_of_nonneg_left d2 (Rat.le_of_lt r0)
    have b1 := Rat.mul_le_mul_of_nonneg_right a1 (Rat.le_of_lt dpos)
    have b2 := Rat.mul_le_mul_of_nonneg_right a2 (Rat.le_of_lt dpos)
    have b3 := Rat.mul_le_mul_of_nonneg_right a3 (Rat.le_of_lt dpos)
    have b4 := Rat.mul_le_mul_of_nonneg_right a4 (Rat.le_of_lt dpos)
    have k1 := Rat.mul_le_mul_of_nonneg_right cd.1 (Rat.le_of_lt r0)
    have k2 := Rat.mul_le_mul_of_nonneg_right cd.2 (Rat.le_of_lt r0)
    have k3 := Rat.mul_le_mul_of_nonneg_right sd.1 (Rat.le_of_lt r0)
    have k4 := Rat.mul_le_mul_of_nonneg_right sd.2 (Rat.le_of_lt r0)
    have md1 : r * (1 - 1 / 140737488355328) ≤ m * d := by grind
    have md2 : m * d ≤ r * (1 + 1 / 140737488355328) := by grind
    have ld1 : r * (f - 1 / 140737488355328) ≤ l * d := by grind
    have ld2 : l * d ≤ r * (f + 1 / 140737488355328) := by grind
    have fmd1 := Rat.mul_le_mul_of_nonneg_left md1 f0
    have fmd2 := Rat.mul_le_mul_of_nonneg_left md2 f0
    have fr : f * r ≤ r := by
      have := Rat.mul_le_mul_of_nonneg_right f1 (Rat.le_of_lt r0)
      grind
    have fr0 : 0 ≤ f * r := Rat.mul_nonneg f0 (Rat.le_of_lt r0)
    have e2 : l / m * (m * d) = l * d := by rw [← Rat.mul_assoc, e]
    have n1 : f - 1 / 35184372088832 ≤ l / m := by
      refine Rat.le_of_mul_le_mul_right (c := m * d) ?_ mdpos
      rw [e2]
      generalize m * d = z at *
      grind
    have n2 : l / m ≤ f + 1 / 35184372088832 := by
      refine Rat.le_of_mul_le_mul_right (c := m * d) ?_ mdpos
      rw [e2]
      generalize m * d = z at *
      grind
    exact ⟨rg.ge 0 (fv_rep fv_zero) q0, rg.le 1 (fv_rep fv_one) q1, by grind, by grind⟩
  rcases huv with ⟨a1, a2, a3, a4, a5, a6⟩ | ⟨a1, a2, a3, a4, a5, a6⟩
  · have av := angleVal hx hy (by grind) a5 (by grind) (by grind)
    obtain ⟨g, hg, rg⟩ := av.1 a6 (by grind)
    exact ⟨g, hg, ratio a1 a2 a3 a4 a5 a6 rg⟩
  · have av := angleVal hx hy a5 (by grind) (by grind) (by grind)
    by_cases h : v ≤ u
    · have huv : u = v := by grind
      subst huv
      obtain ⟨g, hg, rg⟩ := av.1 Rat.le_refl (by grind)
      exact ⟨g, hg, ratio a1 a2 a3 a4 a5 a6 rg⟩
    · obtain ⟨g, hg, rg⟩ := av.2 (Rat.not_le.1 h)
      exact ⟨g, hg, ratio a1 a2 a3 a4 a5 a6 rg⟩
theorem ggxSampleE (a0 a1 a2 a3 a4 a5 : Fl) : O24 R a5 = true ∧ S24_0 R a0 a1 a2 a3 a4 a5 = S26_0 R a0 a1 a2 a3 a4 a5 ∧ S24_1 R a0 a1 a2 a3 a4 a5 = S26_1 R a0 a1 a2 a3 a4 a5 ∧ S24_2 R a0 a1 a2 a3 a4 a5 = S26_2 R a0 a1 a2 a3 a4 a5 ∧
    S24_3 R a0 a1 a2 a3 a4 a5 = S26_3 R a0 a1 a2 a3 a4 a5 ∧ (S26_3 R a0 a1 a2 a3 a4 a5 = true → R.fgt (S26_2 R a0 a1 a2 a3 a4 a5) (R.fc 0) = true ∧ R.fgt a3 (R.fc 0) = true) := by
  obtain ⟨o, s0, s1, _, _⟩ := sectorE a5
  have sq : S45_0 R a0 = R.fmul (S50_0 R a0) (S50_0 R a0) := by unfold S45_0; rw [roughE]
  unfold O24 S24_0 S24_1 S24_2 S24_3 S26_0 S26_1 S26_2 S26_3
  rw [o, s0, s1, sq, cleanE, max_left]
  generalize S28_0 R (R.fdiv (R.fsub (R.fc 4607182418800017408) (S25_0 R a4)) (R.fadd (R.fc 4607182418800017408) (R.fmul (R.fsub (R.fmul (S50_0 R a0) (S50_0 R a0)) (R.fc 4607182418800017408)) (S25_0 R a4)))) = Z
  generalize S28_0 R (R.fite (R.flt (R.fsub (R.fc 4607182418800017408) (R.fmul Z Z)) (R.fc 0)) (R.fc 0) (R.fsub (R.fc 4607182418800017408) (R.fmul Z Z))) = Q
  generalize R.fmul (S51_0 R a5) Q = X
  generalize R.fmul (S51_1 R a5) Q = Y
  rw [show S47_0 R a1 a2 a3 X Y Z = S52_0 R a1 a2 a3 X Y Z from rfl]
  generalize S52_0 R a1 a2 a3 X Y Z = c
  rw [show S48_0 R (S49_0 R X (R.fmul (R.fc 4611686018427387904) c)) a1 = S53_0 R (S54_0 R X (R.fmul (R.fc 4611686018427387904) c)) a1 from rfl,
    show S48_1 R (S49_1 R Y (R.fmul (R.fc 4611686018427387904) c)) a2 = S53_1 R (S54_1 R Y (R.fmul (R.fc 4611686018427387904) c)) a2 from rfl,
    show S48_2 R (S49_2 R Z (R.fmul (R.fc 4611686018427387904) c)) a3 = S53_2 R (S54_2 R Z (R.fmul (R.fc 4611686018427387904) c)) a3 from rfl]
  generalize S53_0 R (S54_0 R X (R.fmul (R.fc 4611686018427387904) c)) a1 = i
  generalize S53_1 R (S54_1 R Y (R.fmul (R.fc 4611686018427387904) c)) a2 = j
  generalize S53_2 R (S54_2 R Z (R.fmul (R.fc 4611686018427387904) c)) a3 = k
  rw [show S44_0 R a3 k = R.bite (R.fgt a3 (R.fc 0)) (R.fgt k (R.fc 0)) (R.bc false) from rfl]
  cases p : R.fgt c (R.fc 0) <;> cases q : R.fgt a3 (R.fc 0) <;> cases r : R.fgt k (R.fc 0) <;> first
    | exact ⟨rfl, rfl, rfl, rfl, rfl, fun h => (Bool.false_ne_true h).elim⟩
    | exact ⟨rfl, rfl, rfl, rfl, rfl, fun _ => ⟨r, rfl⟩⟩
/-- How often the matt part is drawn: the same, asked either way; from nought to 1. -/
theorem shareE (a0 a1 a2 a3 a4 a5 : Fl) : O10 R a0 a1 a2 a3 a4 a5 = true ∧ O12 R a0 a1 a2 a3 a4 a5 = true ∧ S10_0 R a0 a1 a2 a3 a4 a5 = S12_0 R a0 a1 a2 a3 a4 a5 ∧ ∃ q, fv (S12_0 R a0 a1 a2 a3 a4 a5) q ∧ 0 ≤ q ∧ q ≤ 1 := by
  obtain ⟨o1, o2, e1, w0, w1, _⟩ := weightE a0 a1 a2
  obtain ⟨p1, p2, e2, v0, v1, _⟩ := weightE a3 a4 a5
  unfold O10 O12 S10_0 S12_0
  rw [o1, o2, p1, p2, e1, e2]
  obtain ⟨w, hw⟩ : ∃ w : Int, S30_0 R a0 a1 a2 = w := ⟨_, rfl⟩
  obtain ⟨v, hv⟩ : ∃ v : Int, S30_0 R a3 a4 a5 = v := ⟨_, rfl⟩
  rw [hw] at w0 w1
  rw [hv] at v0 v1
  rw [hw, hv]
  have w0' : (0 : Int) ≤ w := w0
  have w1' : w ≤ (1048576 : Int) := w1
  have v0' : (0 : Int) ≤ v := v0
  have v1' : v ≤ (1048576 : Int) := v1
  clear w0 w1 v0 v1
  have hadd : R.zadd .i64 w v = w + v := by
    show IntKind.i64.wrap (w + v) = w + v
    exact i64_fits (by omega) (by omega)
  rw [hadd]
  refine ⟨rfl, rfl, ?_, ?_⟩
  · have : R.zeq (w + v) (R.zc 0) = R.bite (R.zeq w (R.zc 0)) (R.zeq v (R.zc 0)) (R.bc false) := by
      show ((w + v : Int) == (0 : Int)) = (if ((w : Int) == (0 : Int)) = true then ((v : Int) == (0 : Int)) else false)
      rw [Bool.eq_iff_iff]
      by_cases h : w = (0 : Int)
      · subst h; simp
      · have h2 : ¬ (w + v = (0 : Int)) := by omega
        simp [h, h2]
    rw [this]
  · cases hz : R.bite (R.zeq w (R.zc 0)) (R.zeq v (R.zc 0)) (R.bc false) with
    | true => exact ⟨1, fv_one, by decide, by decide⟩
    | false =>
      have hpos : 0 < w + v := by
        refine Int.not_le.1 fun h => ?_
        have h1 : w = 0 := by omega
        have h2 : v = 0 := by omega
        subst h1 h2
        exact absurd hz (by decide)
      have big : ∀ n : Int, 0 ≤ n → n ≤ 4194304 → ∃ r, fv (R.i2f n) r ∧ 0 ≤ r ∧ r ≤ 8388608 := by
        intro n h0 h1
        have g0 := Rat.intCast_le_intCast.2 h0
        have g1 := Rat.intCast_le_intCast.2 h1
        have e : pw 30 = 1073741824 := by unfold pw; rfl
        have l : pw 30 ≤ pw 1000 := pw_le (by decide)
        rw [e] at l
        have c0 : ((0 : Int) : Rat) = 0 := rfl
        have c1 : ((4194304 : Int) : Rat) = 4194304 := rfl
        rw [c0] at g0
        rw [c1] at g1
        obtain ⟨r, hr, rr⟩ := fv_int (n := n) (by grind) (by grind)
        have hb := rr.bound 4194304 (by grind) (by grind) (by decide)
        exact ⟨r, hr, rr.ge 0 (fv_rep fv_zero) g0, by grind⟩
      obtain ⟨p, hp, p0, p8⟩ := big w w0' (by omega)
      obtain ⟨t, ht, t0, t8⟩ := big (w + v) (by omega) (by omega)
      -- in order, and not nought
      have hle : p ≤ t := by
        obtain ⟨i, hi, ei⟩ := id hp
        obtain ⟨j, hj, ej⟩ := id ht
        have e1 : i = rndL 0 (w * (2 ^ 1074 : Nat)) := Option.some.inj (hi.1.symm.trans (key_int w))
        have e2 : j = rndL 0 ((w + v) * (2 ^ 1074 : Nat)) := Option.some.inj (hj.1.symm.trans (key_int (w + v)))
        have h3 : i ≤ j := by
          rw [e1, e2]
          exact rndL_mono 0 (Int.mul_le_mul_of_nonneg_right (by omega) (Int.natCast_nonneg _))
        have := Rat.intCast_le_intCast.2 h3
        rw [← ei, ← ej] at this
        exact Rat.le_of_mul_le_mul_right this (pw_pos 1074)
      have ht1 : 1 ≤ t := by
        have h1 : (1 : Rat) ≤ (((w + v : Int)) : Rat) := by
          have := Rat.intCast_le_intCast.2 (show (1 : Int) ≤ w + v by omega)
          exact this
        have h2 : (((w + v : Int)) : Rat) ≤ 4194304 := Rat.intCast_le_intCast.2 (show w + v ≤ (4194304 : Int) by omega)
        have e : pw 30 = 1073741824 := by unfold pw; rfl
        have l : pw 30 ≤ pw 1000 := pw_le (by decide)
        rw [e] at l
        obtain ⟨r, hr, rr⟩ := fv_int (n := w + v) (by grind) (by grind)
        have := fv_unique hr ht
        subst this
        exact rr.ge 1 (fv_rep fv_one) h1
      have tpos : 0 < t := by grind
      have ed : p / t * t = p := Rat.div_mul_cancel (Rat.ne_of_gt tpos)
      have q0 : 0 ≤ p / t := Rat.le_of_mul_le_mul_right (by rw [Rat.zero_mul, ed]; exact p0) tpos
      have q1 : p / t ≤ 1 := Rat.le_of_mul_le_mul_right (by rw [ed, Rat.one_mul]; exact hle) tpos
      obtain ⟨q, hq, rq⟩ := div_val hp ht (Rat.ne_of_gt tpos) (by grind) (by grind)
      exact ⟨q, hq, rq.ge 0 (fv_rep fv_zero) q0, rq.le 1 (fv_rep fv_one) q1⟩

end Go.Proofs.Ythfgapbbmkgfiaa
