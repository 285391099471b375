/- The law AreaPoints over floats alone. -/
import Derived.Test.YtfknkjgfdljfnaaCm
namespace Go.Proofs.Ytfknkjgfdljfnaa
open Go.Ev

theorem awake11 : S11_0 R = true := by kernel_rfl

theorem law_AreaPoints (x0 x1 x2 x3 x4 x5 x6 x7 x8 x9 x10 : Fl) : S3_0 R x0 x1 x2 x3 x4 x5 x6 x7 x8 x9 x10 = true := by
  obtain ⟨g, _⟩ := densityOk x0 x1 x2 x3 x4 x5 x6 x7 x8
  have e : ford (S15_0 R x0 x1 x2 x3 x4 x5 x6 x7 x8) (S15_0 R x0 x1 x2 x3 x4 x5 x6 x7 x8) = some .eq := by rcases g with g | g <;> exact (ford_some g).1
  have p : ∀ a b c d f : Fl, S13_0 R a b c d f = S29_0 R a b c (S28_1 R d f) (S28_2 R d f) ∧ S13_1 R a b c d f = S29_1 R a b c (S28_1 R d f) (S28_2 R d f) ∧ S13_2 R a b c d f = S29_2 R a b c (S28_1 R d f) (S28_2 R d f) := fun _ _ _ _ _ => ⟨rfl, rfl, rfl⟩
  have q : ∀ a b c d f : Fl, S29_0 R a b c d f = S8_0 R (S8_0 R a (S9_0 R (S10_0 R b a) d)) (S9_0 R (S10_0 R c a) f) ∧ S29_1 R a b c d f = S8_1 R (S8_1 R a (S9_1 R (S10_1 R b a) d)) (S9_1 R (S10_1 R c a) f) ∧
    S29_2 R a b c d f = S8_2 R (S8_2 R a (S9_2 R (S10_2 R b a) d)) (S9_2 R (S10_2 R c a) f) := fun _ _ _ _ _ => ⟨rfl, rfl, rfl⟩
  simp only [S3_0, awake11, p, q, S28_1, S28_2, cleanE, isRefl, densityE, e, if_true]
  rcases g with g | g <;> rw [g] <;> rfl
end Go.Proofs.Ytfknkjgfdljfnaa
