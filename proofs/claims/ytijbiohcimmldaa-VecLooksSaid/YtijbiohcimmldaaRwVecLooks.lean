/- VecLooksSaid: the row, out of the law over numbers and of the evaluator's word on the code. -/
import Derived.Test.YtijbiohcimmldaaPuVecLooks
import Derived.Test.YtijbiohcimmldaaRows
namespace Go.Proofs.Ytijbiohcimmldaa
open Go.Ev Go.ChangeShapes Go.WideShapes Go.ChangeAt Go.RowKit
set_option maxRecDepth 100000

theorem vecLooks_own : ownKnob Try.prog.godebug = none := by kernel_rfl
theorem vecLooks_laidOut : laidOutB Try.prog = true := by kernel_rfl

theorem vecLooks_calls : ∀ vs, fitsA [.agg [.f, .f, .f], .agg [.f, .f, .f], .one (.z .i64)] vs → ∀ (w : World) (vals : Array Value), VRs (fun _ => none) vs vals.toList → Calls Try.prog 6 vals w fun e w' => e = .returned (.bool true) ∧ Old w w' := by
      intro vs h w vals hv
      obtain ⟨_, _, rfl, ⟨_, rfl, g0⟩, _, _, rfl, ⟨_, rfl, g1⟩, _, _, rfl, ⟨x6, k6, rfl⟩, rfl⟩ := h
      obtain ⟨_, _, rfl, ⟨x0, rfl⟩, _, _, rfl, ⟨x1, rfl⟩, _, _, rfl, ⟨x2, rfl⟩, rfl⟩ := g0
      obtain ⟨_, _, rfl, ⟨x3, rfl⟩, _, _, rfl, ⟨x4, rfl⟩, _, _, rfl, ⟨x5, rfl⟩, rfl⟩ := g1
      refine (calls_of prg tok_34 (ev6 R x0 x1 x2 x3 x4 x5 x6) (fun o ho => nomatch ho) hv).mono ?_
      rintro e w' ⟨u, rfl, ⟨ρ', hu⟩, ho⟩
      exact ⟨by rw [show u = .bool (S6_0 R x0 x1 x2 x3 x4 x5 x6) from hu, law_VecLooks x0 x1 x2 x3 x4 x5 x6 k6], ho⟩

theorem vecLooks_holds : Rows.VecLooksSaid :=
  OpenClaim.holds_of_wide 6 Try.f6 rfl rfl rfl rfl rfl rfl rfl ⟨rfl, rfl, rfl, rfl, rfl⟩ rfl rfl rfl rfl rfl (by kernel_rfl) Try.func6 (by kernel_rfl)
    (of_decide_eq_true (by kernel_rfl)) (by unfold Func.isWrapper; first | (rw [if_pos (by decide +kernel)]; kernel_rfl) | (rw [if_neg (by decide +kernel)]; exact ⟨rfl, rfl⟩))
    (fun os started H enc _ => law_lifted (C := Try.checked) (fn := Try.f6) (s := Rows.vecLooksSpec) (aks := [.agg [.f, .f, .f], .agg [.f, .f, .f], .one (.z .i64)]) vecLooks_own started (by kernel_rfl) Try.func6
      (ChangeSpec.witness6 (enc := enc) (C := Try.checked) false ⟨#[], #[.agg #[.float .f64 0, .float .f64 0, .float .f64 0], .agg #[.float .f64 0, .float .f64 0, .float .f64 0], .int .i64 0], []⟩ 8 (by kernel_rfl) (by kernel_rfl) (by kernel_rfl) (by kernel_rfl))
      vecLooks_laidOut (by kernel_rfl) rfl Try.underlying4 rfl (fun ds h => by match ds, h with | [_d0, _d1, _d2], _ => exact ⟨rfl, rfl, rfl⟩) (by kernel_rfl) vecLooks_calls)

end Go.Proofs.Ytijbiohcimmldaa
