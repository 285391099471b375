/- The law FrameTells over floats alone: the program's coordinates by a frame are the reference's, there and back. -/
import Derived.Test.YtlngdhennnlhlaaSp
namespace Go.Proofs.Ytlngdhennnlhlaa
open Go.Ev

theorem awake03 : S21_0 R = true := by kernel_rfl

theorem same10 (x y : Fl) : S10_0 R x y = same x y := rfl

theorem law_FrameTells (x0 x1 x2 x3 x4 x5 x6 x7 x8 x9 x10 x11 : Fl) : S6_0 R x0 x1 x2 x3 x4 x5 x6 x7 x8 x9 x10 x11 = true := by
  have t : ∀ (a b c d e f : Fl), S26_0 R a b c d e f = S27_0 R a b c d e f ∧ S26_1 R a b c d e f = S27_1 R a b c d e f ∧ S26_2 R a b c d e f = S27_2 R a b c d e f := fun _ _ _ _ _ _ => ⟨rfl, rfl, rfl⟩
  have u : ∀ (a b c d e f : Fl), S28_0 R a b c d e f = S29_0 R a b c d e f ∧ S28_1 R a b c d e f = S29_1 R a b c d e f ∧ S28_2 R a b c d e f = S29_2 R a b c d e f := fun _ _ _ _ _ _ => ⟨rfl, rfl, rfl⟩
  simp only [S6_0, S25_0, same10, awake03, t, u, same_self, if_true]
end Go.Proofs.Ytlngdhennnlhlaa
