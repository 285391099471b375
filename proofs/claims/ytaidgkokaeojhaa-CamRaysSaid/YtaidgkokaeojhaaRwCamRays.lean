/- CamRaysSaid: the row, out of the law over numbers and of the evaluator's word on the code. -/
import Derived.Test.YtaidgkokaeojhaaPuCamRays
import Derived.Test.YtaidgkokaeojhaaRows
namespace Go.Proofs.Ytaidgkokaeojhaa
open Go.Ev Go.ChangeShapes Go.WideShapes Go.ChangeAt Go.RowKit
set_option maxRecDepth 100000

theorem camRays_own : ownKnob Try.prog.godebug = none := by kernel_rfl
theorem camRays_laidOut : laidOutB Try.prog = true := by kernel_rfl

theorem camRays_calls : ∀ ar h, fitsB 0 [.agg [.one .f, .one .f, .one .f, .one .f, .one .f, .one .f, .one .f, .one .f, .one .f, .one .f, .one .f, .one .f, .one (.z .i64), .one (.z .i64), .one .f, .one .f, .one .f, .one .f]] ar h → ∀ (w : World) (vals : Array Value) (ρ : Nm), ArgNm ρ (bkN [.agg [.one .f, .one .f, .one .f, .one .f, .one .f, .one .f, .one .f, .one .f, .one .f, .one .f, .one .f, .one .f, .one (.z .i64), .one (.z .i64), .one .f, .one .f, .one .f, .one .f]]) w → HR ρ h w → VRs ρ ar vals.toList → Calls Try.prog 3 vals w fun e w' => e = .returned (.bool true) ∧ Old w w' := by
      intro ar h hf w vals ρ hρ hH hv
      obtain ⟨_, _, rfl, _, _, rfl, ⟨_, rfl, g0⟩, rfl, rfl⟩ := hf
      obtain ⟨_, _, rfl, _, _, rfl, ⟨⟨x0, rfl⟩, rfl⟩, _, _, rfl, _, _, rfl, ⟨⟨x1, rfl⟩, rfl⟩, _, _, rfl, _, _, rfl, ⟨⟨x2, rfl⟩, rfl⟩, _, _, rfl, _, _, rfl, ⟨⟨x3, rfl⟩, rfl⟩, _, _, rfl, _, _, rfl, ⟨⟨x4, rfl⟩, rfl⟩, _, _, rfl, _, _, rfl, ⟨⟨x5, rfl⟩, rfl⟩, _, _, rfl, _, _, rfl, ⟨⟨x6, rfl⟩, rfl⟩, _, _, rfl, _, _, rfl, ⟨⟨x7, rfl⟩, rfl⟩, _, _, rfl, _, _, rfl, ⟨⟨x8, rfl⟩, rfl⟩, _, _, rfl, _, _, rfl, ⟨⟨x9, rfl⟩, rfl⟩, _, _, rfl, _, _, rfl, ⟨⟨x10, rfl⟩, rfl⟩, _, _, rfl, _, _, rfl, ⟨⟨x11, rfl⟩, rfl⟩, _, _, rfl, _, _, rfl, ⟨⟨x12, k12, rfl⟩, rfl⟩, _, _, rfl, _, _, rfl, ⟨⟨x13, k13, rfl⟩, rfl⟩, _, _, rfl, _, _, rfl, ⟨⟨x14, rfl⟩, rfl⟩, _, _, rfl, _, _, rfl, ⟨⟨x15, rfl⟩, rfl⟩, _, _, rfl, _, _, rfl, ⟨⟨x16, rfl⟩, rfl⟩, _, _, rfl, _, _, rfl, ⟨⟨x17, rfl⟩, rfl⟩, rfl, rfl⟩ := g0
      refine (calls_ofH prg tok_13 hok_1 (ev3 R x0 x1 x2 x3 x4 x5 x6 x7 x8 x9 x10 x11 x12 x13 x14 x15 x16 x17) (fun o ho => (Option.some.inj ho) ▸ (law_CamRays x0 x1 x2 x3 x4 x5 x6 x7 x8 x9 x10 x11 x12 x13 x14 x15 x16 x17 k12 k13).1) hρ hH hv).mono ?_
      rintro e w' ⟨u, rfl, ⟨ρ', hu⟩, ho⟩
      exact ⟨by rw [show u = .bool (S3_0 R x0 x1 x2 x3 x4 x5 x6 x7 x8 x9 x10 x11 x12 x13 x14 x15 x16 x17) from hu, (law_CamRays x0 x1 x2 x3 x4 x5 x6 x7 x8 x9 x10 x11 x12 x13 x14 x15 x16 x17 k12 k13).2], ho⟩

theorem camRays_holds : Rows.CamRaysSaid :=
  OpenClaim.holds_of_wide 3 Try.f3 rfl rfl rfl rfl rfl rfl rfl ⟨rfl, rfl, rfl, rfl, rfl⟩ rfl rfl rfl rfl rfl (by kernel_rfl) Try.func3 (by kernel_rfl)
    (of_decide_eq_true (by kernel_rfl)) (by unfold Func.isWrapper; first | (rw [if_pos (by decide +kernel)]; kernel_rfl) | (rw [if_neg (by decide +kernel)]; exact ⟨rfl, rfl⟩))
    (fun os started H enc _ => law_liftedB (C := Try.checked) (fn := Try.f3) (s := Rows.camRaysSpec) (bks := [.agg [.one .f, .one .f, .one .f, .one .f, .one .f, .one .f, .one .f, .one .f, .one .f, .one .f, .one .f, .one .f, .one (.z .i64), .one (.z .i64), .one .f, .one .f, .one .f, .one .f]]) camRays_own started (by kernel_rfl) Try.func3
      (ChangeSpec.witness6 (enc := enc) (C := Try.checked) false ⟨#[], #[.agg #[.float .f64 0, .float .f64 0, .float .f64 0, .float .f64 0, .float .f64 0, .float .f64 0, .float .f64 0, .float .f64 0, .float .f64 0, .float .f64 0, .float .f64 0, .float .f64 0, .int .i64 0, .int .i64 0, .float .f64 0, .float .f64 0, .float .f64 0, .float .f64 0]], []⟩ 8 (by kernel_rfl) (by kernel_rfl) (by kernel_rfl) (by kernel_rfl))
      camRays_laidOut (by kernel_rfl) rfl Try.underlying4 rfl (fun ds h => by match ds, h with | [_d0], _ => exact ⟨rfl, rfl, rfl⟩) (by kernel_rfl) camRays_calls)

end Go.Proofs.Ytaidgkokaeojhaa
