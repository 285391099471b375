/- LightSeenSaid: the row, out of the law over numbers and of the evaluator's word on the code. -/
import Derived.Test.YtachcmfgjjoimaaPuLightSeen
import Derived.Test.YtachcmfgjjoimaaRows
namespace Go.Proofs.Ytachcmfgjjoimaa
open Go.Ev Go.ChangeShapes Go.WideShapes Go.ChangeAt Go.RowKit
set_option maxRecDepth 100000

theorem lightSeen_own : ownKnob Try.prog.godebug = none := by kernel_rfl
theorem lightSeen_laidOut : laidOutB Try.prog = true := by kernel_rfl

theorem lightSeen_calls : ∀ ar h, fitsB 0 [.agg [.sl [.f, .f, .f, .f, .f, .f, .f, .f, .f], .sl [.z .i64, .f, .f, .f], .one (.z .i64), .sl [.f, .f, .f], .one .b, .one (.z .i64), .one .f, .one .f, .one .f, .one .f, .one .f, .one .f]] ar h → ∀ (w : World) (vals : Array Value) (ρ : Nm), ArgNm ρ (bkN [.agg [.sl [.f, .f, .f, .f, .f, .f, .f, .f, .f], .sl [.z .i64, .f, .f, .f], .one (.z .i64), .sl [.f, .f, .f], .one .b, .one (.z .i64), .one .f, .one .f, .one .f, .one .f, .one .f, .one .f]]) w → HR ρ h w → VRs ρ ar vals.toList → Calls Try.prog 5 vals w fun e w' => e = .returned (.bool true) ∧ Old w w' := by
      intro ar h hf w vals ρ hρ hH hv
      obtain ⟨_, _, rfl, _, _, rfl, ⟨_, rfl, g0⟩, rfl, rfl⟩ := hf
      obtain ⟨_, _, rfl, _, _, rfl, ⟨x0, k0, rfl, rfl⟩, _, _, rfl, _, _, rfl, ⟨x1, k1, rfl, rfl⟩, _, _, rfl, _, _, rfl, ⟨⟨x2, k2, rfl⟩, rfl⟩, _, _, rfl, _, _, rfl, ⟨x3, k3, rfl, rfl⟩, _, _, rfl, _, _, rfl, ⟨⟨x4, rfl⟩, rfl⟩, _, _, rfl, _, _, rfl, ⟨⟨x5, k5, rfl⟩, rfl⟩, _, _, rfl, _, _, rfl, ⟨⟨x6, rfl⟩, rfl⟩, _, _, rfl, _, _, rfl, ⟨⟨x7, rfl⟩, rfl⟩, _, _, rfl, _, _, rfl, ⟨⟨x8, rfl⟩, rfl⟩, _, _, rfl, _, _, rfl, ⟨⟨x9, rfl⟩, rfl⟩, _, _, rfl, _, _, rfl, ⟨⟨x10, rfl⟩, rfl⟩, _, _, rfl, _, _, rfl, ⟨⟨x11, rfl⟩, rfl⟩, rfl, rfl⟩ := g0
      refine (calls_ofH prg tok_20 hok_62_83 (ev5 R x0 x1 x2 x3 x4 x5 x6 x7 x8 x9 x10 x11) (fun o ho => (Option.some.inj ho) ▸ (law_LightSeen x0 x1 x2 x3 x4 x5 x6 x7 x8 x9 x10 x11 k0 k1 k2 k3 k5).1) hρ hH hv).mono ?_
      rintro e w' ⟨u, rfl, ⟨ρ', hu⟩, ho⟩
      exact ⟨by rw [show u = .bool (S5_0 R x0 x1 x2 x3 x4 x5 x6 x7 x8 x9 x10 x11) from hu, (law_LightSeen x0 x1 x2 x3 x4 x5 x6 x7 x8 x9 x10 x11 k0 k1 k2 k3 k5).2], ho⟩

theorem lightSeen_holds : Rows.LightSeenSaid :=
  OpenClaim.holds_of_wide 5 Try.f5 rfl rfl rfl rfl rfl rfl rfl ⟨rfl, rfl, rfl, rfl, rfl⟩ rfl rfl rfl rfl rfl (by kernel_rfl) Try.func5 (by kernel_rfl)
    (of_decide_eq_true (by kernel_rfl)) (by unfold Func.isWrapper; first | (rw [if_pos (by decide +kernel)]; kernel_rfl) | (rw [if_neg (by decide +kernel)]; exact ⟨rfl, rfl⟩))
    (fun os started H enc _ => law_liftedB (C := Try.checked) (fn := Try.f5) (s := Rows.lightSeenSpec) (bks := [.agg [.sl [.f, .f, .f, .f, .f, .f, .f, .f, .f], .sl [.z .i64, .f, .f, .f], .one (.z .i64), .sl [.f, .f, .f], .one .b, .one (.z .i64), .one .f, .one .f, .one .f, .one .f, .one .f, .one .f]]) lightSeen_own started (by kernel_rfl) Try.func5
      (ChangeSpec.witness6 (enc := enc) (C := Try.checked) false ⟨#[], #[.agg #[.slice none 0 0, .slice none 0 0, .int .i64 0, .slice none 0 0, .bool false, .int .i64 0, .float .f64 0, .float .f64 0, .float .f64 0, .float .f64 0, .float .f64 0, .float .f64 0]], []⟩ 8 (by kernel_rfl) (by kernel_rfl) (by kernel_rfl) (by kernel_rfl))
      lightSeen_laidOut (by kernel_rfl) rfl Try.underlying4 rfl (fun ds h => by match ds, h with | [_d0], _ => exact ⟨rfl, rfl, rfl⟩) (by kernel_rfl) lightSeen_calls)

end Go.Proofs.Ytachcmfgjjoimaa
