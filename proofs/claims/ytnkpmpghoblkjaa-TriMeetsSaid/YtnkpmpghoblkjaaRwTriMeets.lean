/- TriMeetsSaid: the row, out of the law over numbers and of the evaluator's word on the code. -/
import Derived.Test.YtnkpmpghoblkjaaPuTriMeets
import Derived.Test.YtnkpmpghoblkjaaRows
namespace Go.Proofs.Ytnkpmpghoblkjaa
open Go.Ev Go.ChangeShapes Go.WideShapes Go.ChangeAt Go.RowKit
set_option maxRecDepth 100000

theorem triMeets_own : ownKnob Try.prog.godebug = none := by kernel_rfl
theorem triMeets_laidOut : laidOutB Try.prog = true := by kernel_rfl

theorem triMeets_calls : ∀ vs, fitsA [.agg [.f, .f, .f, .f, .f, .f, .f, .f, .f], .agg [.f, .f, .f, .f, .f, .f]] vs → ∀ (w : World) (vals : Array Value), VRs (fun _ => none) vs vals.toList → Calls Try.prog 3 vals w fun e w' => e = .returned (.bool true) ∧ Old w w' := by
      intro vs h w vals hv
      obtain ⟨_, _, rfl, ⟨_, rfl, g0⟩, _, _, rfl, ⟨_, rfl, g1⟩, rfl⟩ := h
      obtain ⟨_, _, rfl, ⟨x0, rfl⟩, _, _, rfl, ⟨x1, rfl⟩, _, _, rfl, ⟨x2, rfl⟩, _, _, rfl, ⟨x3, rfl⟩, _, _, rfl, ⟨x4, rfl⟩, _, _, rfl, ⟨x5, rfl⟩, _, _, rfl, ⟨x6, rfl⟩, _, _, rfl, ⟨x7, rfl⟩, _, _, rfl, ⟨x8, rfl⟩, rfl⟩ := g0
      obtain ⟨_, _, rfl, ⟨x9, rfl⟩, _, _, rfl, ⟨x10, rfl⟩, _, _, rfl, ⟨x11, rfl⟩, _, _, rfl, ⟨x12, rfl⟩, _, _, rfl, ⟨x13, rfl⟩, _, _, rfl, ⟨x14, rfl⟩, rfl⟩ := g1
      refine (calls_of prg tok_8 (ev3 R x0 x1 x2 x3 x4 x5 x6 x7 x8 x9 x10 x11 x12 x13 x14) (fun o ho => nomatch ho) hv).mono ?_
      rintro e w' ⟨u, rfl, ⟨ρ', hu⟩, ho⟩
      exact ⟨by rw [show u = .bool (S3_0 R x0 x1 x2 x3 x4 x5 x6 x7 x8 x9 x10 x11 x12 x13 x14) from hu, law_TriMeets x0 x1 x2 x3 x4 x5 x6 x7 x8 x9 x10 x11 x12 x13 x14], ho⟩

theorem triMeets_holds : Rows.TriMeetsSaid :=
  OpenClaim.holds_of_wide 3 Try.f3 rfl rfl rfl rfl rfl rfl rfl ⟨rfl, rfl, rfl, rfl, rfl⟩ rfl rfl rfl rfl rfl (by kernel_rfl) Try.func3 (by kernel_rfl)
    (of_decide_eq_true (by kernel_rfl)) (by unfold Func.isWrapper; first | (rw [if_pos (by decide +kernel)]; kernel_rfl) | (rw [if_neg (by decide +kernel)]; exact ⟨rfl, rfl⟩))
    (fun os started H enc _ => law_lifted (C := Try.checked) (fn := Try.f3) (s := Rows.triMeetsSpec) (aks := [.agg [.f, .f, .f, .f, .f, .f, .f, .f, .f], .agg [.f, .f, .f, .f, .f, .f]]) triMeets_own started (by kernel_rfl) Try.func3
      (ChangeSpec.witness6 (enc := enc) (C := Try.checked) false ⟨#[], #[.agg #[.float .f64 0, .float .f64 0, .float .f64 0, .float .f64 0, .float .f64 0, .float .f64 0, .float .f64 0, .float .f64 0, .float .f64 0], .agg #[.float .f64 0, .float .f64 0, .float .f64 0, .float .f64 0, .float .f64 0, .float .f64 0]], []⟩ 8 (by kernel_rfl) (by kernel_rfl) (by kernel_rfl) (by kernel_rfl))
      triMeets_laidOut (by kernel_rfl) rfl Try.underlying4 rfl (fun ds h => by match ds, h with | [_d0, _d1], _ => exact ⟨rfl, rfl, rfl⟩) (by kernel_rfl) triMeets_calls)

end Go.Proofs.Ytnkpmpghoblkjaa
