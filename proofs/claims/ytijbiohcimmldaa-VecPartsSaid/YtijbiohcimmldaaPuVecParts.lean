/- The law VecParts over floats alone: the program's sums, differences, products and points are the reference's. -/
import Derived.Test.YtijbiohcimmldaaPuVecProducts
namespace Go.Proofs.Ytijbiohcimmldaa
open Go.Ev

theorem law_VecParts (x0 x1 x2 x3 x4 x5 x6 : Fl) : S5_0 R x0 x1 x2 x3 x4 x5 x6 = true := by
  have ta : ∀ a b : Fl, S19_0 R a b = S20_0 R a b ∧ S19_1 R a b = S20_1 R a b ∧ S19_2 R a b = S20_2 R a b := fun _ _ => ⟨rfl, rfl, rfl⟩
  have ts : ∀ a b : Fl, S21_0 R a b = S22_0 R a b ∧ S21_1 R a b = S22_1 R a b ∧ S21_2 R a b = S22_2 R a b := fun _ _ => ⟨rfl, rfl, rfl⟩
  have tm : ∀ a b : Fl, S23_0 R a b = R.fmul a b ∧ S23_1 R a b = R.fmul a b ∧ S23_2 R a b = R.fmul a b := fun _ _ => ⟨rfl, rfl, rfl⟩
  have tk : ∀ a b : Fl, S24_0 R a b = S25_0 R a b ∧ S24_1 R a b = S25_1 R a b ∧ S24_2 R a b = S25_2 R a b := fun _ _ => ⟨rfl, rfl, rfl⟩
  have tn : ∀ a : Fl, S26_0 R a = S22_0 R (R.fc 0) a ∧ S26_1 R a = S22_1 R (R.fc 0) a ∧ S26_2 R a = S22_2 R (R.fc 0) a := fun _ => ⟨rfl, rfl, rfl⟩
  have tl : ∀ a b c : Fl, S27_0 R a b c = S28_0 R a b c ∧ S27_1 R a b c = S28_1 R a b c ∧ S27_2 R a b c = S28_2 R a b c := fun _ _ _ => ⟨rfl, rfl, rfl⟩
  simp only [S5_0, S11_0, same8, awake02, ta, ts, tm, tk, tn, tl, same_self, if_true]
end Go.Proofs.Ytijbiohcimmldaa
