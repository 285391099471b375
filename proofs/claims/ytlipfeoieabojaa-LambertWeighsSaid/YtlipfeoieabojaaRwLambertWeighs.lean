/- LambertWeighsSaid: the row, out of the law over numbers and of the evaluator's word on the code. -/
import Derived.Test.YtlipfeoieabojaaPuLambertWeighs
import Derived.Test.YtlipfeoieabojaaRows
namespace Go.Proofs.Ytlipfeoieabojaa
open Go.Ev Go.ChangeShapes Go.WideShapes Go.ChangeAt Go.RowKit
set_option maxRecDepth 100000

theorem lambertWeighs_own : ownKnob Try.prog.godebug = none := by kernel_rfl
theorem lambertWeighs_laidOut : laidOutB Try.prog = true := by kernel_rfl

theorem lambertWeighs_calls : ∀ vs, fitsA [.agg [.f, .f, .f], .agg [.f, .f, .f], .agg [.f, .f, .f]] vs → ∀ (w : World) (vals : Array Value), VRs (fun _ => none) vs vals.toList → Calls Try.prog 5 vals w fun e w' => e = .returned (.bool true) ∧ Old w w' := by
      intro vs h w vals hv
      obtain ⟨_, _, rfl, ⟨_, rfl, g0⟩, _, _, rfl, ⟨_, rfl, g1⟩, _, _, rfl, ⟨_, rfl, g2⟩, rfl⟩ := h
      obtain ⟨_, _, rfl, ⟨x0, rfl⟩, _, _, rfl, ⟨x1, rfl⟩, _, _, rfl, ⟨x2, rfl⟩, rfl⟩ := g0
      obtain ⟨_, _, rfl, ⟨x3, rfl⟩, _, _, rfl, ⟨x4, rfl⟩, _, _, rfl, ⟨x5, rfl⟩, rfl⟩ := g1
      obtain ⟨_, _, rfl, ⟨x6, rfl⟩, _, _, rfl, ⟨x7, rfl⟩, _, _, rfl, ⟨x8, rfl⟩, rfl⟩ := g2
      refine (calls_of prg tok_17 (ev5 R x0 x1 x2 x3 x4 x5 x6 x7 x8) (fun o ho => (Option.some.inj ho) ▸ (law_LambertWeighs x0 x1 x2 x3 x4 x5 x6 x7 x8).1) hv).mono ?_
      rintro e w' ⟨u, rfl, ⟨ρ', hu⟩, ho⟩
      exact ⟨by rw [show u = .bool (S5_0 R x0 x1 x2 x5 x6 x7 x8) from hu, (law_LambertWeighs x0 x1 x2 x3 x4 x5 x6 x7 x8).2], ho⟩

theorem lambertWeighs_holds : Rows.LambertWeighsSaid :=
  OpenClaim.holds_of_wide 5 Try.f5 rfl rfl rfl rfl rfl rfl rfl ⟨rfl, rfl, rfl, rfl, rfl⟩ rfl rfl rfl rfl rfl (by kernel_rfl) Try.func5 (by kernel_rfl)
    (of_decide_eq_true (by kernel_rfl)) (by unfold Func.isWrapper; first | (rw [if_pos (by decide +kernel)]; kernel_rfl) | (rw [if_neg (by decide +kernel)]; exact ⟨rfl, rfl⟩))
    (fun os started H enc _ => law_lifted (C := Try.checked) (fn := Try.f5) (s := Rows.lambertWeighsSpec) (aks := [.agg [.f, .f, .f], .agg [.f, .f, .f], .agg [.f, .f, .f]]) lambertWeighs_own started (by kernel_rfl) Try.func5
      (ChangeSpec.witness6 (enc := enc) (C := Try.checked) false ⟨#[], #[.agg #[.float .f64 0, .float .f64 0, .float .f64 0], .agg #[.float .f64 0, .float .f64 0, .float .f64 0], .agg #[.float .f64 0, .float .f64 0, .float .f64 0]], []⟩ 8 (by kernel_rfl) (by kernel_rfl) (by kernel_rfl) (by kernel_rfl))
      lambertWeighs_laidOut (by kernel_rfl) rfl Try.underlying4 rfl (fun ds h => by match ds, h with | [_d0, _d1, _d2], _ => exact ⟨rfl, rfl, rfl⟩) (by kernel_rfl) lambertWeighs_calls)

end Go.Proofs.Ytlipfeoieabojaa
