/- What the laws of this seat have in common: the program's functions and the reference's, held against each other. -/
import Derived.Test.YtlipfeoieabojaaSp
namespace Go.Proofs.Ytlipfeoieabojaa
open Go.Ev

theorem sameE (x y : Fl) : S22_0 R x y = same x y := rfl
theorem numberE (x : Fl) : S21_0 R x = S25_0 R x := number_iff x
theorem cleanE (a : Fl) : S33_0 R a = S15_0 R a := clean_eq a
theorem sel {α : Type} {b : Bool} {x y : α} : (if (!b) = true then y else x) = (if b = true then x else y) := by cases b <;> rfl
theorem ge_some {x y : Fl} (h : (ford x y == some .gt || ford x y == some .eq) = true) : ford x x = some .eq := by
  cases g : ford x y with
  | none => rw [g] at h; cases h
  | some o => exact (ford_some g).1
theorem rgbIsRefl (a b c : Fl) : S8_0 R a b c a b c = true := by
  simp only [S8_0, sameE, same_self, if_true]
theorem sizeE (a : Fl) : S36_0 R a = S31_0 R a := by
  simp only [S36_0, S31_0]
  cases h : ford a (cls 0) with
  | none =>
    rcases ford_none h with g | g
    · rw [g]; rfl
    · rw [zero_self] at g; cases g
  | some o => rw [(ford_some h).1]; cases o <;> rfl
theorem absNn (a : Fl) : nn (S31_0 R a) := by
  simp only [S31_0]
  cases hk : fkey a with
  | none =>
    have h : ford a (cls 0) = none := by rw [ford_key, hk]
    have g : ford a a = none := by rw [ford_key, hk]
    rw [h, g]
    intro k h
    have h' : fkey a = some k := h
    rw [hk] at h'; cases h'
  | some l =>
    have g : ford a a = some .eq := by rw [ford_key, hk]; simp
    have h : ford a (cls 0) = some (compare l 0) := by rw [ford_key, hk, fkey_zero]
    rw [h, g, compare_def]
    intro k h
    by_cases h0 : l < 0
    · rw [if_pos h0] at h
      exact key_from_zero hk h0 h
    · rw [if_neg h0] at h
      by_cases h1 : l = 0
      · rw [if_pos h1] at h
        have h' : fkey a = some k := h
        rw [hk] at h'; cases h'; omega
      · rw [if_neg h1] at h
        have h' : fkey a = some k := h
        rw [hk] at h'; cases h'; omega
theorem numKey {a : Fl} (h : S25_0 R a = true) : ∃ k, fkey a = some k := by
  have h' : (R.feq (R.fsub a a) (cls 0)) = true := h
  rw [← number_iff] at h'
  cases g : R.fge a (cls lowBits) with
  | false => rw [g] at h'; cases h'
  | true =>
    obtain ⟨k, _, h1, _⟩ := (fge_iff _ _).1 g
    exact ⟨k, h1⟩
theorem angleE (a0 a1 : Fl) : S30_1 R a0 a1 = S24_1 R a0 a1 ∧ S30_0 R a0 a1 = S24_0 R a0 a1 := by
  refine ⟨?_, by simp only [S30_0, S24_0, sizeE, ite_self]⟩
  simp only [S30_1, S24_1, sizeE, S37_0, numberE]
  have hA := absNn a0
  have hB := absNn a1
  generalize S31_0 R a0 = A at hA ⊢
  generalize S31_0 R a1 = B at hB ⊢
  have n0 : S25_0 R (cls 0) = true := by kernel_rfl
  cases hw : (ford A B == some .gt || ford A B == some .eq) with
  | true =>
    simp only [Bool.not_true, Bool.false_eq_true, if_false, if_true, n0]
    obtain ⟨a, b, h1, h2, h3⟩ := (fge_iff _ _).1 hw
    have p1 := hA a h1
    have p2 := hB b h2
    cases hz : (ford A (cls 0) == some .eq) with
    | true =>
      obtain ⟨c, d, g1, g2, g3⟩ := (feq_iff _ _).1 hz
      rw [h1] at g1; rw [fkey_zero] at g2; cases g1; cases g2
      have hb : (ford B (cls 0) == some .eq) = true := (feq_iff _ _).2 ⟨b, 0, h2, fkey_zero, by omega⟩
      rw [hb]
      cases S25_0 R A <;> cases S25_0 R B <;> rfl
    | false => cases S25_0 R A <;> cases S25_0 R B <;> rfl
  | false =>
    simp only [Bool.not_false, if_true, n0, Bool.false_eq_true, if_false]
    cases hNA : S25_0 R A with
    | false => cases S25_0 R B <;> cases (ford B (cls 0) == some .eq) <;> rfl
    | true =>
      cases hNB : S25_0 R B with
      | false => cases (ford B (cls 0) == some .eq) <;> rfl
      | true =>
        obtain ⟨a, h1⟩ := numKey hNA
        obtain ⟨b, h2⟩ := numKey hNB
        have p1 := hA a h1
        have hlt : a < b := by
          refine Int.not_le.1 fun h => ?_
          have := (fge_iff A B).2 ⟨a, b, h1, h2, h⟩
          rw [hw] at this; cases this
        have e1 : (ford B (cls 0) == some .eq) = false := by
          cases g : (ford B (cls 0) == some .eq) with
          | false => rfl
          | true =>
            obtain ⟨c, d, g1, g2, g3⟩ := (feq_iff _ _).1 g
            rw [h2] at g1; rw [fkey_zero] at g2; cases g1; cases g2
            omega
        rw [e1]
        cases (ford A (cls 0) == some .eq) <;> rfl
theorem warpDensityE (a0 a1 : Fl) : S19_0 R a0 a1 = R.fmul (R.fadd (R.fc 4607182418800017408) (R.fmul (S24_1 R a0 a1) (S24_1 R a0 a1))) (R.fc 4593671619917905920) := by
  simp only [S19_0, angleE]
theorem lambertEvalE (a b c : Fl) : S9_0 R a b c = S10_0 R a b c ∧ S9_1 R a b c = S10_1 R a b c ∧ S9_2 R a b c = S10_2 R a b c := by
  unfold S9_0 S9_1 S9_2 S10_0 S10_1 S10_2 S18_0 S20_0
  generalize R.fgt b (R.fc 0) = p
  generalize R.fgt c (R.fc 0) = q
  cases p <;> cases q <;> exact ⟨rfl, rfl, rfl⟩
theorem lambertDensityE (a b c d : Fl) : S6_0 R a b c d = S11_0 R a b c d := by
  unfold S6_0 S11_0 S18_0 S20_0
  rw [warpDensityE, numberE]
  generalize R.fmul (R.fmul (R.fc 4611686018427387904) _) d = p
  generalize R.fgt a (R.fc 0) = u
  generalize R.fgt d (R.fc 0) = v
  cases u <;> cases v <;> cases S25_0 R p <;> rfl
theorem one_nn : nn (cls 4607182418800017408) := by
  intro k h
  rw [cls_key] at h
  exact key_unsigned (by decide +kernel) h
theorem two_nn : nn (cls 4611686018427387904) := by
  intro k h
  rw [cls_key] at h
  exact key_unsigned (by decide +kernel) h
theorem eighth_nn : nn (cls 4593671619917905920) := by
  intro k h
  rw [cls_key] at h
  exact key_unsigned (by decide +kernel) h
theorem gt_nn {x : Fl} (h : (ford x (cls 0) == some .gt) = true) : nn x := by
  obtain ⟨a, b, h1, h2, h3⟩ := (fgt_iff _ _).1 h
  rw [fkey_zero] at h2; cases h2
  intro k hk; rw [h1] at hk; cases hk; omega
theorem sq_nn (x : Fl) : nn (R.fmul x x) := nn_sq x
theorem lambertDensityOk (a b c d : Fl) : ∃ k, fkey (S11_0 R a b c d) = some k ∧ 0 ≤ k := by
  unfold S11_0
  have hp : R.fgt d (R.fc 0) = true → nn (R.fmul (R.fmul (R.fc 4611686018427387904) (R.fmul (R.fadd (R.fc 4607182418800017408) (R.fmul (S24_1 R b c) (S24_1 R b c))) (R.fc 4593671619917905920))) d) := fun h =>
    nn_mul (nn_mul two_nn (nn_mul (nn_add one_nn (sq_nn _)) eighth_nn)) (gt_nn h)
  generalize R.fmul (R.fmul (R.fc 4611686018427387904) _) d = p at hp ⊢
  have hz : ∃ k, fkey (R.fc 0) = some k ∧ 0 ≤ k := ⟨0, fkey_zero, by omega⟩
  generalize R.fgt a (R.fc 0) = u
  generalize R.fgt d (R.fc 0) = v at hp ⊢
  cases u with
  | false => cases v <;> exact hz
  | true =>
    cases v with
    | false => exact hz
    | true =>
      cases hn : S25_0 R p with
      | false => exact hz
      | true =>
        obtain ⟨k, h1⟩ := numKey hn
        exact ⟨k, h1, hp rfl k h1⟩

end Go.Proofs.Ytlipfeoieabojaa
