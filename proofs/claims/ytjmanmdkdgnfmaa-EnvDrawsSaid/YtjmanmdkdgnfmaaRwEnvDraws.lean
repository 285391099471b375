/- EnvDrawsSaid: the row, out of the law over numbers and of the evaluator's word on the code. -/
import Derived.Test.YtjmanmdkdgnfmaaPuEnvDraws
import Derived.Test.YtjmanmdkdgnfmaaRows
namespace Go.Proofs.Ytjmanmdkdgnfmaa
open Go.Ev Go.ChangeShapes Go.WideShapes Go.ChangeAt Go.RowKit
set_option maxRecDepth 100000

theorem envDraws_own : ownKnob Try.prog.godebug = none := by kernel_rfl
theorem envDraws_laidOut : laidOutB Try.prog = true := by kernel_rfl

theorem envDraws_calls : ∀ ar h, fitsB 0 [.agg [.one (.z .i64), .sl [.f, .f, .f], .one .f, .one .f, .one .f]] ar h → ∀ (w : World) (vals : Array Value) (ρ : Nm), ArgNm ρ (bkN [.agg [.one (.z .i64), .sl [.f, .f, .f], .one .f, .one .f, .one .f]]) w → HR ρ h w → VRs ρ ar vals.toList → Calls Try.prog 5 vals w fun e w' => e = .returned (.bool true) ∧ Old w w' := by
      intro ar h hf w vals ρ hρ hH hv
      obtain ⟨_, _, rfl, _, _, rfl, ⟨_, rfl, g0⟩, rfl, rfl⟩ := hf
      obtain ⟨_, _, rfl, _, _, rfl, ⟨⟨x0, k0, rfl⟩, rfl⟩, _, _, rfl, _, _, rfl, ⟨x1, k1, rfl, rfl⟩, _, _, rfl, _, _, rfl, ⟨⟨x2, rfl⟩, rfl⟩, _, _, rfl, _, _, rfl, ⟨⟨x3, rfl⟩, rfl⟩, _, _, rfl, _, _, rfl, ⟨⟨x4, rfl⟩, rfl⟩, rfl, rfl⟩ := g0
      refine (calls_ofH prg tok_44 hok_38 (ev5 R x0 x1 x2 x3 x4) (fun o ho => (Option.some.inj ho) ▸ (law_EnvDraws x0 x1 x2 x3 x4 k0 k1).1) hρ hH hv).mono ?_
      rintro e w' ⟨u, rfl, ⟨ρ', hu⟩, ho⟩
      exact ⟨by rw [show u = .bool (S5_0 R x0 x1 x2 x3 x4) from hu, (law_EnvDraws x0 x1 x2 x3 x4 k0 k1).2], ho⟩

theorem envDraws_holds : Rows.EnvDrawsSaid :=
  OpenClaim.holds_of_wide 5 Try.f5 rfl rfl rfl rfl rfl rfl rfl ⟨rfl, rfl, rfl, rfl, rfl⟩ rfl rfl rfl rfl rfl (by kernel_rfl) Try.func5 (by kernel_rfl)
    (of_decide_eq_true (by kernel_rfl)) (by unfold Func.isWrapper; first | (rw [if_pos (by decide +kernel)]; kernel_rfl) | (rw [if_neg (by decide +kernel)]; exact ⟨rfl, rfl⟩))
    (fun os started H enc _ => law_liftedB (C := Try.checked) (fn := Try.f5) (s := Rows.envDrawsSpec) (bks := [.agg [.one (.z .i64), .sl [.f, .f, .f], .one .f, .one .f, .one .f]]) envDraws_own started (by kernel_rfl) Try.func5
      (ChangeSpec.witness6 (enc := enc) (C := Try.checked) false ⟨#[], #[.agg #[.int .i64 0, .slice none 0 0, .float .f64 0, .float .f64 0, .float .f64 0]], []⟩ 8 (by kernel_rfl) (by kernel_rfl) (by kernel_rfl) (by kernel_rfl))
      envDraws_laidOut (by kernel_rfl) rfl Try.underlying4 rfl (fun ds h => by match ds, h with | [_d0], _ => exact ⟨rfl, rfl, rfl⟩) (by kernel_rfl) envDraws_calls)

end Go.Proofs.Ytjmanmdkdgnfmaa
