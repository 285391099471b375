/- CamMakesSaid: the row, out of the law over numbers and of the evaluator's word on the code. -/
import Derived.Test.YtaidgkokaeojhaaPuCamMakes
import Derived.Test.YtaidgkokaeojhaaRows
namespace Go.Proofs.Ytaidgkokaeojhaa
open Go.Ev Go.ChangeShapes Go.WideShapes Go.ChangeAt Go.RowKit
set_option maxRecDepth 100000

theorem camMakes_own : ownKnob Try.prog.godebug = none := by kernel_rfl
theorem camMakes_laidOut : laidOutB Try.prog = true := by kernel_rfl

theorem camMakes_calls : ∀ vs, fitsA [.agg [.f, .f, .f, .f, .f, .f, .f, .f, .f, .f, .f, .f], .one (.z .i64), .one (.z .i64)] vs → ∀ (w : World) (vals : Array Value), VRs (fun _ => none) vs vals.toList → Calls Try.prog 4 vals w fun e w' => e = .returned (.bool true) ∧ Old w w' := by
      intro vs h w vals hv
      obtain ⟨_, _, rfl, ⟨_, rfl, g0⟩, _, _, rfl, ⟨x12, k12, rfl⟩, _, _, rfl, ⟨x13, k13, rfl⟩, rfl⟩ := h
      obtain ⟨_, _, rfl, ⟨x0, rfl⟩, _, _, rfl, ⟨x1, rfl⟩, _, _, rfl, ⟨x2, rfl⟩, _, _, rfl, ⟨x3, rfl⟩, _, _, rfl, ⟨x4, rfl⟩, _, _, rfl, ⟨x5, rfl⟩, _, _, rfl, ⟨x6, rfl⟩, _, _, rfl, ⟨x7, rfl⟩, _, _, rfl, ⟨x8, rfl⟩, _, _, rfl, ⟨x9, rfl⟩, _, _, rfl, ⟨x10, rfl⟩, _, _, rfl, ⟨x11, rfl⟩, rfl⟩ := g0
      refine (calls_of prg tok_13 (ev4 R x0 x1 x2 x3 x4 x5 x6 x7 x8 x9 x10 x11 x12 x13) (fun o ho => nomatch ho) hv).mono ?_
      rintro e w' ⟨u, rfl, ⟨ρ', hu⟩, ho⟩
      exact ⟨by rw [show u = .bool (S4_0 R x0 x1 x2 x3 x4 x5 x6 x7 x8 x9 x10 x11 x12 x13) from hu, law_CamMakes x0 x1 x2 x3 x4 x5 x6 x7 x8 x9 x10 x11 x12 x13 k12 k13], ho⟩

theorem camMakes_holds : Rows.CamMakesSaid :=
  OpenClaim.holds_of_wide 4 Try.f4 rfl rfl rfl rfl rfl rfl rfl ⟨rfl, rfl, rfl, rfl, rfl⟩ rfl rfl rfl rfl rfl (by kernel_rfl) Try.func4 (by kernel_rfl)
    (of_decide_eq_true (by kernel_rfl)) (by unfold Func.isWrapper; first | (rw [if_pos (by decide +kernel)]; kernel_rfl) | (rw [if_neg (by decide +kernel)]; exact ⟨rfl, rfl⟩))
    (fun os started H enc _ => law_lifted (C := Try.checked) (fn := Try.f4) (s := Rows.camMakesSpec) (aks := [.agg [.f, .f, .f, .f, .f, .f, .f, .f, .f, .f, .f, .f], .one (.z .i64), .one (.z .i64)]) camMakes_own started (by kernel_rfl) Try.func4
      (ChangeSpec.witness6 (enc := enc) (C := Try.checked) false ⟨#[], #[.agg #[.float .f64 0, .float .f64 0, .float .f64 0, .float .f64 0, .float .f64 0, .float .f64 0, .float .f64 0, .float .f64 0, .float .f64 0, .float .f64 0, .float .f64 0, .float .f64 0], .int .i64 0, .int .i64 0], []⟩ 8 (by kernel_rfl) (by kernel_rfl) (by kernel_rfl) (by kernel_rfl))
      camMakes_laidOut (by kernel_rfl) rfl Try.underlying4 rfl (fun ds h => by match ds, h with | [_d0, _d1, _d2], _ => exact ⟨rfl, rfl, rfl⟩) (by kernel_rfl) camMakes_calls)

end Go.Proofs.Ytaidgkokaeojhaa
