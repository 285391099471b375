/- What the laws of this seat have in common: the program's functions and the reference's, held against each other. -/
import Derived.Test.YtinhoalnkhpdoaaSp
namespace Go.Proofs.Ytinhoalnkhpdoaa
open Go.Ev

theorem sameE (x y : Fl) : S9_0 R x y = same x y := rfl
theorem isRefl (a b c : Fl) : S19_0 R a b c a b c = true := by
  simp only [S19_0, sameE, same_self, if_true]
theorem numberE (x : Fl) : S47_0 R x = S51_0 R x := number_iff x
theorem unitE (a0 a1 a2 : Fl) : S42_0 R a0 a1 a2 = S44_0 R a0 a1 a2 ∧ S42_1 R a0 a1 a2 = S44_1 R a0 a1 a2 ∧ S42_2 R a0 a1 a2 = S44_2 R a0 a1 a2 ∧ S42_3 R a0 a1 a2 = S44_3 R a0 a1 a2 := by
  have l : S57_0 R a0 a1 a2 = S28_0 R (S39_0 R a0 a1 a2 a0 a1 a2) := rfl
  simp only [S42_0, S42_1, S42_2, S42_3, S44_0, S44_1, S44_2, S44_3, l, numberE]
  generalize S28_0 R (S39_0 R a0 a1 a2 a0 a1 a2) = n
  cases (ford n (cls 0) == some .gt) <;> cases S51_0 R n <;> exact ⟨rfl, rfl, rfl, rfl⟩
theorem cleanE (a : Fl) : S31_0 R a = S37_0 R a := clean_eq a
theorem sel {α : Type} {b : Bool} {x y : α} : (if (!b) = true then y else x) = (if b = true then x else y) := by cases b <;> rfl
theorem ge_some {x y : Fl} (h : (ford x y == some .gt || ford x y == some .eq) = true) : ford x x = some .eq := by
  cases g : ford x y with
  | none => rw [g] at h; cases h
  | some o => exact (ford_some g).1
theorem dotE (a b c d e f : Fl) : S33_0 R a b c d e f = S39_0 R a b c d e f := rfl
theorem subE (a b : Fl) : S34_0 R a b = S40_0 R a b ∧ S34_1 R a b = S40_1 R a b ∧ S34_2 R a b = S40_2 R a b := ⟨rfl, rfl, rfl⟩
theorem addE (a b : Fl) : S43_0 R a b = S45_0 R a b ∧ S43_1 R a b = S45_1 R a b ∧ S43_2 R a b = S45_2 R a b := ⟨rfl, rfl, rfl⟩
theorem scaleE (a b : Fl) : S35_0 R a b = S41_0 R a b ∧ S35_1 R a b = S41_1 R a b ∧ S35_2 R a b = S41_2 R a b := ⟨rfl, rfl, rfl⟩
theorem rgbIsRefl (a b c : Fl) : S14_0 R a b c a b c = true := by
  simp only [S14_0, sameE, same_self, if_true]
theorem sizeE (a : Fl) : S65_0 R a = S62_0 R a := by
  simp only [S65_0, S62_0]
  cases h : ford a (cls 0) with
  | none =>
    rcases ford_none h with g | g
    · rw [g]; rfl
    · rw [zero_self] at g; cases g
  | some o => rw [(ford_some h).1]; cases o <;> rfl
theorem absNn (a : Fl) : nn (S62_0 R a) := by
  simp only [S62_0]
  cases hk : fkey a with
  | none =>
    have h : ford a (cls 0) = none := by rw [ford_key, hk]
    have g : ford a a = none := by rw [ford_key, hk]
    rw [h, g]
    intro k h
    have h' : fkey a = some k := h
    rw [hk] at h'; cases h'
  | some l =>
    have g : ford a a = some .eq := by rw [ford_key, hk]; simp
    have h : ford a (cls 0) = some (compare l 0) := by rw [ford_key, hk, fkey_zero]
    rw [h, g, compare_def]
    intro k h
    by_cases h0 : l < 0
    · rw [if_pos h0] at h
      exact key_from_zero hk h0 h
    · rw [if_neg h0] at h
      by_cases h1 : l = 0
      · rw [if_pos h1] at h
        have h' : fkey a = some k := h
        rw [hk] at h'; cases h'; omega
      · rw [if_neg h1] at h
        have h' : fkey a = some k := h
        rw [hk] at h'; cases h'; omega
theorem numKey {a : Fl} (h : S51_0 R a = true) : ∃ k, fkey a = some k := by
  have h' : (R.feq (R.fsub a a) (cls 0)) = true := h
  rw [← number_iff] at h'
  cases g : R.fge a (cls lowBits) with
  | false => rw [g] at h'; cases h'
  | true =>
    obtain ⟨k, _, h1, _⟩ := (fge_iff _ _).1 g
    exact ⟨k, h1⟩
theorem angleE (a0 a1 : Fl) : S59_1 R a0 a1 = S50_1 R a0 a1 ∧ S59_0 R a0 a1 = S50_0 R a0 a1 := by
  refine ⟨?_, by simp only [S59_0, S50_0, sizeE, ite_self]⟩
  simp only [S59_1, S50_1, sizeE, S66_0, numberE]
  have hA := absNn a0
  have hB := absNn a1
  generalize S62_0 R a0 = A at hA ⊢
  generalize S62_0 R a1 = B at hB ⊢
  have n0 : S51_0 R (cls 0) = true := by kernel_rfl
  cases hw : (ford A B == some .gt || ford A B == some .eq) with
  | true =>
    simp only [Bool.not_true, Bool.false_eq_true, if_false, if_true, n0]
    obtain ⟨a, b, h1, h2, h3⟩ := (fge_iff _ _).1 hw
    have p1 := hA a h1
    have p2 := hB b h2
    cases hz : (ford A (cls 0) == some .eq) with
    | true =>
      obtain ⟨c, d, g1, g2, g3⟩ := (feq_iff _ _).1 hz
      rw [h1] at g1; rw [fkey_zero] at g2; cases g1; cases g2
      have hb : (ford B (cls 0) == some .eq) = true := (feq_iff _ _).2 ⟨b, 0, h2, fkey_zero, by omega⟩
      rw [hb]
      cases S51_0 R A <;> cases S51_0 R B <;> rfl
    | false => cases S51_0 R A <;> cases S51_0 R B <;> rfl
  | false =>
    simp only [Bool.not_false, if_true, n0, Bool.false_eq_true, if_false]
    cases hNA : S51_0 R A with
    | false => cases S51_0 R B <;> cases (ford B (cls 0) == some .eq) <;> rfl
    | true =>
      cases hNB : S51_0 R B with
      | false => cases (ford B (cls 0) == some .eq) <;> rfl
      | true =>
        obtain ⟨a, h1⟩ := numKey hNA
        obtain ⟨b, h2⟩ := numKey hNB
        have p1 := hA a h1
        have hlt : a < b := by
          refine Int.not_le.1 fun h => ?_
          have := (fge_iff A B).2 ⟨a, b, h1, h2, h⟩
          rw [hw] at this; cases this
        have e1 : (ford B (cls 0) == some .eq) = false := by
          cases g : (ford B (cls 0) == some .eq) with
          | false => rfl
          | true =>
            obtain ⟨c, d, g1, g2, g3⟩ := (feq_iff _ _).1 g
            rw [h2] at g1; rw [fkey_zero] at g2; cases g1; cases g2
            omega
        rw [e1]
        cases (ford A (cls 0) == some .eq) <;> rfl
theorem warpDensityE (a0 a1 : Fl) : S46_0 R a0 a1 = R.fmul (R.fadd (R.fc 4607182418800017408) (R.fmul (S50_1 R a0 a1) (S50_1 R a0 a1))) (R.fc 4593671619917905920) := by
  simp only [S46_0, angleE]
theorem one_nn : nn (cls 4607182418800017408) := by
  intro k h
  rw [cls_key] at h
  exact key_unsigned (by decide +kernel) h
theorem two_nn : nn (cls 4611686018427387904) := by
  intro k h
  rw [cls_key] at h
  exact key_unsigned (by decide +kernel) h
theorem eighth_nn : nn (cls 4593671619917905920) := by
  intro k h
  rw [cls_key] at h
  exact key_unsigned (by decide +kernel) h
theorem gt_nn {x : Fl} (h : (ford x (cls 0) == some .gt) = true) : nn x := by
  obtain ⟨a, b, h1, h2, h3⟩ := (fgt_iff _ _).1 h
  rw [fkey_zero] at h2; cases h2
  intro k hk; rw [h1] at hk; cases hk; omega
theorem sq_nn (x : Fl) : nn (R.fmul x x) := nn_sq x
theorem one_or_not (a : Fl) : R.fite (R.fle a (R.fc 4607182418800017408)) a (R.fc 4607182418800017408) = R.fite (R.bite (R.fgt a (R.fc 4607182418800017408)) (R.bc true) (R.bnot (R.feq a a))) (R.fc 4607182418800017408) a := by
  show (if (ford a (cls 4607182418800017408) == some .lt || ford a (cls 4607182418800017408) == some .eq) then a else cls 4607182418800017408) = (if (if (ford a (cls 4607182418800017408) == some .gt) then true else !(ford a a == some .eq) : Bool) then cls 4607182418800017408 else a)
  cases h : ford a (cls 4607182418800017408) with
  | none =>
    rcases ford_none h with g | g
    · rw [g]; rfl
    · rw [one_self] at g; cases g
  | some o => rw [(ford_some h).1]; cases o <;> rfl
theorem roughE (a : Fl) : S7_0 R a = S8_0 R a := by
  unfold S7_0 S26_0 S8_0
  rw [← one_or_not]
  generalize R.flt a (R.fc 4562146422526312448) = l
  cases l <;> rfl
theorem not_both (c : Fl) (h : R.flt c (R.fc 0) = true) : R.bite (R.fgt c (R.fc 4607182418800017408)) (R.bc true) (R.bnot (R.feq c c)) = false := by
  obtain ⟨a, b, h1, h2, h3⟩ := (flt_iff _ _).1 h
  have h2' : fkey (cls 0) = some b := h2
  rw [fkey_zero] at h2'; cases h2'
  have e1 : R.feq c c = true := (feq_iff _ _).2 ⟨a, a, h1, h1, rfl⟩
  have e2 : R.fgt c (R.fc 4607182418800017408) = false := by
    cases g : R.fgt c (R.fc 4607182418800017408) with
    | false => rfl
    | true =>
      obtain ⟨a', b', g1, g2, g3⟩ := (fgt_iff _ _).1 g
      rw [h1] at g1; cases g1
      have := one_nn b' g2
      omega
  rw [e1, e2]; rfl
theorem betweenE (c : Fl) : S26_0 R c (R.fc 0) (R.fc 4607182418800017408) = R.fite (R.bite (R.fgt c (R.fc 4607182418800017408)) (R.bc true) (R.bnot (R.feq c c))) (R.fc 4607182418800017408) (R.fite (R.flt c (R.fc 0)) (R.fc 0) c) := by
  unfold S26_0
  cases h : R.flt c (R.fc 0) with
  | true => rw [not_both c h]; rfl
  | false => exact one_or_not c
theorem fresnelE (a c : Fl) : S15_0 R a c = S16_0 R a c ∧ S15_1 R a c = S16_1 R a c ∧ S15_2 R a c = S16_2 R a c := by
  unfold S15_0 S15_1 S15_2 S16_0 S16_1 S16_2 S30_0
  rw [betweenE]
  exact ⟨rfl, rfl, rfl⟩
theorem normalsE (a z : Fl) : S10_0 R a z = S11_0 R a z := by
  unfold S10_0 S11_0 S27_0
  rw [roughE]
  generalize R.fgt z (R.fc 0) = g
  cases g <;> rfl
theorem shadowE (a z : Fl) : S12_0 R a z = S13_0 R a z := by
  unfold S12_0 S13_0 S27_0
  rw [roughE]
  generalize R.fgt z (R.fc 0) = g
  cases g <;> rfl
theorem halfE (a0 a1 a2 a3 a4 a5 : Fl) : S20_0 R a0 a1 a2 a3 a4 a5 = S21_0 R a0 a1 a2 a3 a4 a5 ∧ S20_1 R a0 a1 a2 a3 a4 a5 = S21_1 R a0 a1 a2 a3 a4 a5 ∧ S20_2 R a0 a1 a2 a3 a4 a5 = S21_2 R a0 a1 a2 a3 a4 a5 ∧ S20_3 R a0 a1 a2 a3 a4 a5 = S21_3 R a0 a1 a2 a3 a4 a5 := by
  have h := unitE (S45_0 R a0 a3) (S45_1 R a1 a4) (S45_2 R a2 a5)
  have p := addE a0 a3
  have q := addE a1 a4
  have r := addE a2 a5
  unfold S20_0 S20_1 S20_2 S20_3 S21_0 S21_1 S21_2 S21_3 S36_0 S56_0
  rw [p.1, q.2.1, r.2.2, h.1, h.2.1, h.2.2.1, h.2.2.2]
  generalize R.fgt a2 (R.fc 0) = u
  generalize R.fgt a5 (R.fc 0) = v
  cases u <;> cases v <;> exact ⟨rfl, rfl, rfl, rfl⟩
theorem ggxEvalE (k a a4 a5 a6 a7 a8 a9 : Fl) : S23_0 R k a a4 a5 a6 a7 a8 a9 = S24_0 R k a a4 a5 a6 a7 a8 a9 ∧ S23_1 R k a a4 a5 a6 a7 a8 a9 = S24_1 R k a a4 a5 a6 a7 a8 a9 ∧ S23_2 R k a a4 a5 a6 a7 a8 a9 = S24_2 R k a a4 a5 a6 a7 a8 a9 := by
  have h := halfE a4 a5 a6 a7 a8 a9
  unfold S23_0 S23_1 S23_2 S24_0 S24_1 S24_2
  rw [h.1, h.2.1, h.2.2.1, h.2.2.2, dotE, normalsE, shadowE, shadowE]
  generalize S21_0 R a4 a5 a6 a7 a8 a9 = h0
  generalize S21_1 R a4 a5 a6 a7 a8 a9 = h1
  generalize S21_2 R a4 a5 a6 a7 a8 a9 = h2
  generalize S21_3 R a4 a5 a6 a7 a8 a9 = h3
  generalize S39_0 R a4 a5 a6 h0 h1 h2 = c
  rw [(fresnelE k c).1, (fresnelE k c).2.1, (fresnelE k c).2.2]
  generalize R.fgt c (R.fc 0) = u
  cases u <;> cases h3 <;> exact ⟨rfl, rfl, rfl⟩
theorem ggxDensityE (a a1 a2 a3 a4 a5 a6 : Fl) : S22_0 R a a1 a2 a3 a4 a5 a6 = S25_0 R a a1 a2 a3 a4 a5 a6 := by
  have h := halfE a1 a2 a3 a4 a5 a6
  unfold S22_0 S25_0
  rw [h.1, h.2.1, h.2.2.1, h.2.2.2, dotE, normalsE, warpDensityE, numberE]
  generalize S21_0 R a1 a2 a3 a4 a5 a6 = h0
  generalize S21_1 R a1 a2 a3 a4 a5 a6 = h1
  generalize S21_2 R a1 a2 a3 a4 a5 a6 = h2
  generalize S21_3 R a1 a2 a3 a4 a5 a6 = h3
  generalize S39_0 R a1 a2 a3 h0 h1 h2 = c
  generalize R.fdiv _ (R.fmul (R.fc 4616189618054758400) c) = p
  generalize R.fgt c (R.fc 0) = u
  cases u <;> cases h3 <;> cases S51_0 R p <;> rfl
theorem ggxDensityOk (a a1 a2 a3 a4 a5 a6 : Fl) : S51_0 R (S25_0 R a a1 a2 a3 a4 a5 a6) = true := by
  unfold S25_0
  have hz : S51_0 R (R.fc 0) = true := by kernel_rfl
  generalize S21_3 R a1 a2 a3 a4 a5 a6 = h3
  generalize S39_0 R a1 a2 a3 _ _ _ = c
  generalize R.fdiv _ (R.fmul (R.fc 4616189618054758400) c) = p
  generalize R.fgt c (R.fc 0) = u
  cases u with
  | false => cases h3 <;> exact hz
  | true =>
    cases h3 with
    | false => exact hz
    | true =>
      cases hn : S51_0 R p with
      | false => exact hz
      | true => exact hn

end Go.Proofs.Ytinhoalnkhpdoaa
