/- The law FrameMakes over floats alone: the program's frame is the reference's, whatever the vector. -/
import Derived.Test.YtlngdhennnlhlaaSp
namespace Go.Proofs.Ytlngdhennnlhlaa
open Go.Ev

theorem awake03 : S21_0 R = true := by kernel_rfl

theorem same10 (x y : Fl) : S10_0 R x y = same x y := rfl

theorem law_FrameMakes (x0 x1 x2 : Fl) : S5_0 R x0 x1 x2 = true := by
  have hc : (ford x2 (cls 0) = none ∧ ford x2 x2 = none) ∨ ∃ o, ford x2 (cls 0) = some o ∧ ford x2 x2 = some .eq := by
    have z : ford (cls 0) (cls 0) = some .eq := by kernel_rfl
    cases h : ford x2 (cls 0) with
    | none =>
      rcases ford_none h with h2 | h2
      · exact .inl ⟨rfl, h2⟩
      · rw [z] at h2; cases h2
    | some o => exact .inr ⟨o, rfl, (ford_some h).1⟩
  have e0 : S23_0 R x0 x2 = S24_0 R x0 x2 := by
    simp only [S23_0, S24_0]
    rcases hc with ⟨h, h2⟩ | ⟨o, h, h2⟩
    · simp [h, h2]
    · cases o <;> simp [h, h2]
  have e1 : S23_1 R x0 x1 x2 = S24_1 R x0 x1 x2 := by
    simp only [S23_1, S24_1]
    rcases hc with ⟨h, h2⟩ | ⟨o, h, h2⟩
    · simp [h, h2]
    · cases o <;> simp [h, h2]
  have e2 : S23_2 R x0 x2 = S24_2 R x0 x2 := by
    simp only [S23_2, S24_2]
    rcases hc with ⟨h, h2⟩ | ⟨o, h, h2⟩
    · simp [h, h2]
    · cases o <;> simp [h, h2]
  have e3 : S23_3 R x0 x1 x2 = S24_3 R x0 x1 x2 := by
    simp only [S23_3, S24_3]
    rcases hc with ⟨h, h2⟩ | ⟨o, h, h2⟩
    · simp [h, h2]
    · cases o <;> simp [h, h2]
  have e4 : S23_4 R x1 x2 = S24_4 R x1 x2 := by
    simp only [S23_4, S24_4]
    rcases hc with ⟨h, h2⟩ | ⟨o, h, h2⟩
    · simp [h, h2]
    · cases o <;> simp [h, h2]
  have e5 : S23_5 R x1 x2 = S24_5 R x1 x2 := by
    simp only [S23_5, S24_5]
    rcases hc with ⟨h, h2⟩ | ⟨o, h, h2⟩
    · simp [h, h2]
    · cases o <;> simp [h, h2]
  have e6 : S23_6 R x0 x2 = S24_6 R x0 x2 := by
    simp only [S23_6, S24_6]
    rcases hc with ⟨h, h2⟩ | ⟨o, h, h2⟩
    · simp [h, h2]
    · cases o <;> simp [h, h2]
  have e7 : S23_7 R x1 x2 = S24_7 R x1 x2 := by
    simp only [S23_7, S24_7]
    rcases hc with ⟨h, h2⟩ | ⟨o, h, h2⟩
    · simp [h, h2]
    · cases o <;> simp [h, h2]
  have e8 : S23_8 R x2 = S24_8 R x2 := by
    simp only [S23_8, S24_8]
    rcases hc with ⟨h, h2⟩ | ⟨o, h, h2⟩
    · simp [h, h2]
    · cases o <;> simp [h, h2]
  simp only [S5_0, S22_0, S25_0, same10, awake03, e0, e1, e2, e3, e4, e5, e6, e7, e8, same_self, if_true]
end Go.Proofs.Ytlngdhennnlhlaa
