/- The law RgbLooks over floats alone. -/
import Derived.Test.YtlngdhennnlhlaaCm
namespace Go.Proofs.Ytlngdhennnlhlaa
open Go.Ev

theorem awake05 : O9 R = true ∧ S9_0 R = true := ⟨by kernel_rfl, by kernel_rfl⟩

theorem law_RgbLooks (x0 x1 x2 : Fl) : O3 R x0 x1 x2 = true ∧ S3_0 R x0 x1 x2 = true := by
  have hm : S11_0 R x0 x1 x2 = S12_0 R x0 x1 x2 := rfl
  have he : S13_0 R x0 x1 x2 = S14_0 R x0 x1 x2 := rfl
  have hg := goodE x0 x1 x2
  obtain ⟨w1, w2, w3, _⟩ := weightE x0 x1 x2
  have hb := blackE x0 x1 x2
  have beq_self : ∀ b : Bool, R.beq b b = true := fun b => by cases b <;> rfl
  have zeq_self : ∀ n : Int, R.zeq n n = true := fun n => by show (n == n) = true; simp
  unfold O3 S3_0
  rw [awake05.1, awake05.2, hm, he, hg, w1, w2, w3, sameE, sameE, same_self, same_self, beq_self, zeq_self, hb]
  generalize R.feq x0 (R.fc 0) = u
  generalize R.feq x1 (R.fc 0) = v
  generalize R.feq x2 (R.fc 0) = w
  cases u <;> cases v <;> cases w <;> exact ⟨rfl, rfl⟩
end Go.Proofs.Ytlngdhennnlhlaa
