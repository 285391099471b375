/- What the laws of this seat have in common: the program's functions and the reference's, held against each other. -/
import Derived.Test.YtfknkjgfdljfnaaSp
namespace Go.Proofs.Ytfknkjgfdljfnaa
open Go.Ev

theorem sameE (x y : Fl) : S18_0 R x y = same x y := rfl
theorem isRefl (a b c : Fl) : S12_0 R a b c a b c = true := by
  simp only [S12_0, sameE, same_self, if_true]
theorem numberE (x : Fl) : S46_0 R x = S24_0 R x := number_iff x
theorem unitE (a0 a1 a2 : Fl) : S34_0 R a0 a1 a2 = S17_0 R a0 a1 a2 ∧ S34_1 R a0 a1 a2 = S17_1 R a0 a1 a2 ∧ S34_2 R a0 a1 a2 = S17_2 R a0 a1 a2 ∧ S34_3 R a0 a1 a2 = S17_3 R a0 a1 a2 := by
  have l : S44_0 R a0 a1 a2 = S6_0 R (S19_0 R a0 a1 a2 a0 a1 a2) := rfl
  simp only [S34_0, S34_1, S34_2, S34_3, S17_0, S17_1, S17_2, S17_3, l, numberE]
  generalize S6_0 R (S19_0 R a0 a1 a2 a0 a1 a2) = n
  cases (ford n (cls 0) == some .gt) <;> cases S24_0 R n <;> exact ⟨rfl, rfl, rfl, rfl⟩
theorem cleanE (a : Fl) : S40_0 R a = S7_0 R a := clean_eq a
theorem plainE (a : Fl) : S31_0 R a = S32_0 R a := by
  simp only [S31_0, S32_0, numberE]
  generalize (ford a (cls 0) == some .gt || ford a (cls 0) == some .eq) = b
  cases b <;> cases S24_0 R a <;> rfl
theorem triNormalE (a0 a1 a2 a3 a4 a5 a6 a7 a8 : Fl) : S37_0 R a0 a1 a2 a3 a4 a5 a6 a7 a8 = S17_0 R (S25_0 R a1 a2 a4 a5 a7 a8) (S25_1 R a0 a2 a3 a5 a6 a8) (S25_2 R a0 a1 a3 a4 a6 a7) ∧
    S37_1 R a0 a1 a2 a3 a4 a5 a6 a7 a8 = S17_1 R (S25_0 R a1 a2 a4 a5 a7 a8) (S25_1 R a0 a2 a3 a5 a6 a8) (S25_2 R a0 a1 a3 a4 a6 a7) ∧
    S37_2 R a0 a1 a2 a3 a4 a5 a6 a7 a8 = S17_2 R (S25_0 R a1 a2 a4 a5 a7 a8) (S25_1 R a0 a2 a3 a5 a6 a8) (S25_2 R a0 a1 a3 a4 a6 a7) ∧
    S37_3 R a0 a1 a2 a3 a4 a5 a6 a7 a8 = S17_3 R (S25_0 R a1 a2 a4 a5 a7 a8) (S25_1 R a0 a2 a3 a5 a6 a8) (S25_2 R a0 a1 a3 a4 a6 a7) := by
  have c : S45_0 R a1 a2 a4 a5 a7 a8 = S25_0 R a1 a2 a4 a5 a7 a8 ∧ S45_1 R a0 a2 a3 a5 a6 a8 = S25_1 R a0 a2 a3 a5 a6 a8 ∧ S45_2 R a0 a1 a3 a4 a6 a7 = S25_2 R a0 a1 a3 a4 a6 a7 := ⟨rfl, rfl, rfl⟩
  simp only [S37_0, S37_1, S37_2, S37_3, c, unitE, and_self]
theorem triAreaE (a0 a1 a2 a3 a4 a5 a6 a7 a8 : Fl) : S30_0 R a0 a1 a2 a3 a4 a5 a6 a7 a8 = R.fmul (S6_0 R (S19_0 R (S25_0 R a1 a2 a4 a5 a7 a8) (S25_1 R a0 a2 a3 a5 a6 a8) (S25_2 R a0 a1 a3 a4 a6 a7) (S25_0 R a1 a2 a4 a5 a7 a8) (S25_1 R a0 a2 a3 a5 a6 a8) (S25_2 R a0 a1 a3 a4 a6 a7))) (R.fc 4602678819172646912) := rfl
theorem densityE (a0 a1 a2 a3 a4 a5 a6 a7 a8 : Fl) : S14_0 R a0 a1 a2 a3 a4 a5 a6 a7 a8 = S15_0 R a0 a1 a2 a3 a4 a5 a6 a7 a8 := by
  simp only [S14_0, S15_0, triAreaE, plainE]
  generalize lift2 f64.mul _ (cls 4602678819172646912) = s
  cases (ford s (cls 0) == some .gt) <;> rfl
theorem lookE (a0 a1 a2 a3 a4 a5 : Fl) : S16_0 R a0 a1 a2 a3 a4 a5 = S17_0 R (S10_0 R a3 a0) (S10_1 R a4 a1) (S10_2 R a5 a2) ∧ S16_1 R a0 a1 a2 a3 a4 a5 = S17_1 R (S10_0 R a3 a0) (S10_1 R a4 a1) (S10_2 R a5 a2) ∧
    S16_2 R a0 a1 a2 a3 a4 a5 = S17_2 R (S10_0 R a3 a0) (S10_1 R a4 a1) (S10_2 R a5 a2) ∧ S16_4 R a0 a1 a2 a3 a4 a5 = S17_3 R (S10_0 R a3 a0) (S10_1 R a4 a1) (S10_2 R a5 a2) ∧
    S16_3 R a0 a1 a2 a3 a4 a5 = S19_0 R (S10_0 R a3 a0) (S10_1 R a4 a1) (S10_2 R a5 a2) (S10_0 R a3 a0) (S10_1 R a4 a1) (S10_2 R a5 a2) := by
  have c : S33_0 R a3 a0 = S10_0 R a3 a0 ∧ S33_1 R a4 a1 = S10_1 R a4 a1 ∧ S33_2 R a5 a2 = S10_2 R a5 a2 := ⟨rfl, rfl, rfl⟩
  refine ⟨?_, ?_, ?_, ?_, rfl⟩ <;> simp only [S16_0, S16_1, S16_2, S16_4, c, unitE]
theorem cosineE (a0 a1 a2 a3 a4 a5 a6 a7 a8 a9 a10 a11 a12 a13 a14 : Fl) : S21_0 R a0 a1 a2 a3 a4 a5 a6 a7 a8 a9 a10 a11 a12 a13 a14 = S22_0 R a0 a1 a2 a3 a4 a5 a6 a7 a8 a9 a10 a11 a12 a13 a14 := by
  have d : ∀ a b c e f g : Fl, S38_0 R a b c e f g = S19_0 R a b c e f g := fun _ _ _ _ _ _ => rfl
  simp only [S21_0, S22_0, lookE, triNormalE, d]
  generalize S17_3 R (S10_0 R a12 a9) (S10_1 R a13 a10) (S10_2 R a14 a11) = p
  generalize S17_3 R (S25_0 R a1 a2 a4 a5 a7 a8) (S25_1 R a0 a2 a3 a5 a6 a8) (S25_2 R a0 a1 a3 a4 a6 a7) = q
  cases p <;> cases q <;> rfl
theorem solidE (a0 a1 a2 a3 a4 a5 a6 a7 a8 a9 a10 a11 a12 a13 a14 : Fl) : S20_0 R a0 a1 a2 a3 a4 a5 a6 a7 a8 a9 a10 a11 a12 a13 a14 = S23_0 R a0 a1 a2 a3 a4 a5 a6 a7 a8 a9 a10 a11 a12 a13 a14 := by
  simp only [S20_0, S23_0, cosineE, densityE, lookE, plainE]
  generalize S22_0 R a0 a1 a2 a3 a4 a5 a6 a7 a8 a9 a10 a11 a12 a13 a14 = s
  cases (ford s (cls 0) == some .gt) <;> rfl
theorem plainOk (a : Fl) : (ford (S32_0 R a) (cls 0) = some .gt ∨ ford (S32_0 R a) (cls 0) = some .eq) ∧ S24_0 R (S32_0 R a) = true := by
  simp only [S32_0]
  have z : ford (cls 0) (cls 0) = some .eq := by kernel_rfl
  have n : S24_0 R (cls 0) = true := by kernel_rfl
  cases h : S24_0 R a with
  | false => exact ⟨.inr z, n⟩
  | true =>
    cases g : ford a (cls 0) with
    | none => exact ⟨.inr z, n⟩
    | some o => cases o <;> first | exact ⟨.inl g, h⟩ | exact ⟨.inr g, h⟩ | exact ⟨.inr z, n⟩
theorem densityOk (a0 a1 a2 a3 a4 a5 a6 a7 a8 : Fl) : (ford (S15_0 R a0 a1 a2 a3 a4 a5 a6 a7 a8) (cls 0) = some .gt ∨ ford (S15_0 R a0 a1 a2 a3 a4 a5 a6 a7 a8) (cls 0) = some .eq) ∧ S24_0 R (S15_0 R a0 a1 a2 a3 a4 a5 a6 a7 a8) = true := by
  simp only [S15_0]
  generalize lift2 f64.mul _ (cls 4602678819172646912) = s
  cases (ford s (cls 0) == some .gt)
  · exact ⟨.inr (by kernel_rfl), by kernel_rfl⟩
  · exact plainOk _
theorem solidOk (a0 a1 a2 a3 a4 a5 a6 a7 a8 a9 a10 a11 a12 a13 a14 : Fl) : (ford (S23_0 R a0 a1 a2 a3 a4 a5 a6 a7 a8 a9 a10 a11 a12 a13 a14) (cls 0) = some .gt ∨ ford (S23_0 R a0 a1 a2 a3 a4 a5 a6 a7 a8 a9 a10 a11 a12 a13 a14) (cls 0) = some .eq) ∧ S24_0 R (S23_0 R a0 a1 a2 a3 a4 a5 a6 a7 a8 a9 a10 a11 a12 a13 a14) = true := by
  simp only [S23_0]
  generalize S22_0 R a0 a1 a2 a3 a4 a5 a6 a7 a8 a9 a10 a11 a12 a13 a14 = s
  cases (ford s (cls 0) == some .gt)
  · exact ⟨.inr (by kernel_rfl), by kernel_rfl⟩
  · exact plainOk _

end Go.Proofs.Ytfknkjgfdljfnaa
