/- TriLooksSaid: the row, out of the law over numbers and of the evaluator's word on the code. -/
import Derived.Test.YtnkpmpghoblkjaaPuTriLooks
import Derived.Test.YtnkpmpghoblkjaaRows
namespace Go.Proofs.Ytnkpmpghoblkjaa
open Go.Ev Go.ChangeShapes Go.WideShapes Go.ChangeAt Go.RowKit
set_option maxRecDepth 100000

theorem triLooks_own : ownKnob Try.prog.godebug = none := by kernel_rfl
theorem triLooks_laidOut : laidOutB Try.prog = true := by kernel_rfl

theorem triLooks_calls : ∀ vs, fitsA [.agg [.f, .f, .f, .f, .f, .f, .f, .f, .f], .one .f, .one .f] vs → ∀ (w : World) (vals : Array Value), VRs (fun _ => none) vs vals.toList → Calls Try.prog 5 vals w fun e w' => e = .returned (.bool true) ∧ Old w w' := by
      intro vs h w vals hv
      obtain ⟨_, _, rfl, ⟨_, rfl, g0⟩, _, _, rfl, ⟨x9, rfl⟩, _, _, rfl, ⟨x10, rfl⟩, rfl⟩ := h
      obtain ⟨_, _, rfl, ⟨x0, rfl⟩, _, _, rfl, ⟨x1, rfl⟩, _, _, rfl, ⟨x2, rfl⟩, _, _, rfl, ⟨x3, rfl⟩, _, _, rfl, ⟨x4, rfl⟩, _, _, rfl, ⟨x5, rfl⟩, _, _, rfl, ⟨x6, rfl⟩, _, _, rfl, ⟨x7, rfl⟩, _, _, rfl, ⟨x8, rfl⟩, rfl⟩ := g0
      refine (calls_of prg tok_26 (ev5 R x0 x1 x2 x3 x4 x5 x6 x7 x8 x9 x10) (fun o ho => nomatch ho) hv).mono ?_
      rintro e w' ⟨u, rfl, ⟨ρ', hu⟩, ho⟩
      exact ⟨by rw [show u = .bool (S5_0 R x0 x1 x2 x3 x4 x5 x6 x7 x8 x9 x10) from hu, law_TriLooks x0 x1 x2 x3 x4 x5 x6 x7 x8 x9 x10], ho⟩

theorem triLooks_holds : Rows.TriLooksSaid :=
  OpenClaim.holds_of_wide 5 Try.f5 rfl rfl rfl rfl rfl rfl rfl ⟨rfl, rfl, rfl, rfl, rfl⟩ rfl rfl rfl rfl rfl (by kernel_rfl) Try.func5 (by kernel_rfl)
    (of_decide_eq_true (by kernel_rfl)) (by unfold Func.isWrapper; first | (rw [if_pos (by decide +kernel)]; kernel_rfl) | (rw [if_neg (by decide +kernel)]; exact ⟨rfl, rfl⟩))
    (fun os started H enc _ => law_lifted (C := Try.checked) (fn := Try.f5) (s := Rows.triLooksSpec) (aks := [.agg [.f, .f, .f, .f, .f, .f, .f, .f, .f], .one .f, .one .f]) triLooks_own started (by kernel_rfl) Try.func5
      (ChangeSpec.witness6 (enc := enc) (C := Try.checked) false ⟨#[], #[.agg #[.float .f64 0, .float .f64 0, .float .f64 0, .float .f64 0, .float .f64 0, .float .f64 0, .float .f64 0, .float .f64 0, .float .f64 0], .float .f64 0, .float .f64 0], []⟩ 8 (by kernel_rfl) (by kernel_rfl) (by kernel_rfl) (by kernel_rfl))
      triLooks_laidOut (by kernel_rfl) rfl Try.underlying4 rfl (fun ds h => by match ds, h with | [_d0, _d1, _d2], _ => exact ⟨rfl, rfl, rfl⟩) (by kernel_rfl) triLooks_calls)

end Go.Proofs.Ytnkpmpghoblkjaa
