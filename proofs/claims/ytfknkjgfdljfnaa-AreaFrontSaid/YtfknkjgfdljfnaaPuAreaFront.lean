/- The law AreaFront over floats alone. -/
import Derived.Test.YtfknkjgfdljfnaaCm
namespace Go.Proofs.Ytfknkjgfdljfnaa
open Go.Ev

theorem awake11 : S11_0 R = true := by kernel_rfl

theorem law_AreaFront (x0 x1 x2 x3 x4 x5 x6 x7 x8 x9 x10 x11 : Fl) : S5_0 R x0 x1 x2 x3 x4 x5 x6 x7 x8 x9 x10 x11 = true := by
  have d : ∀ a b c e f g : Fl, S38_0 R a b c e f g = S19_0 R a b c e f g := fun _ _ _ _ _ _ => rfl
  have c : ∀ a b : Fl, S33_0 R a b = S10_0 R a b ∧ S33_1 R a b = S10_1 R a b ∧ S33_2 R a b = S10_2 R a b := fun _ _ => ⟨rfl, rfl, rfl⟩
  simp only [S5_0, S26_0, awake11, triNormalE, c, d]
  generalize S17_3 R _ _ _ = p
  generalize (ford (S19_0 R _ _ _ _ _ _) (cls 0) == some .gt) = q
  cases p <;> cases q <;> rfl
end Go.Proofs.Ytfknkjgfdljfnaa
