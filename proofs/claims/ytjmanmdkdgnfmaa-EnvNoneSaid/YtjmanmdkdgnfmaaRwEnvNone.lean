/- EnvNoneSaid: the row, out of the law over numbers and of the evaluator's word on the code. -/
import Derived.Test.YtjmanmdkdgnfmaaPuEnvNone
import Derived.Test.YtjmanmdkdgnfmaaRows
namespace Go.Proofs.Ytjmanmdkdgnfmaa
open Go.Ev Go.ChangeShapes Go.WideShapes Go.ChangeAt Go.RowKit
set_option maxRecDepth 100000

theorem envNone_own : ownKnob Try.prog.godebug = none := by kernel_rfl
theorem envNone_laidOut : laidOutB Try.prog = true := by kernel_rfl

theorem envNone_calls : ∀ ar h, fitsB 0 [.agg [.one .f, .one .f, .one .f, .one .f, .one .f, .one .f]] ar h → ∀ (w : World) (vals : Array Value) (ρ : Nm), ArgNm ρ (bkN [.agg [.one .f, .one .f, .one .f, .one .f, .one .f, .one .f]]) w → HR ρ h w → VRs ρ ar vals.toList → Calls Try.prog 6 vals w fun e w' => e = .returned (.bool true) ∧ Old w w' := by
      intro ar h hf w vals ρ hρ hH hv
      obtain ⟨_, _, rfl, _, _, rfl, ⟨_, rfl, g0⟩, rfl, rfl⟩ := hf
      obtain ⟨_, _, rfl, _, _, rfl, ⟨⟨x0, rfl⟩, rfl⟩, _, _, rfl, _, _, rfl, ⟨⟨x1, rfl⟩, rfl⟩, _, _, rfl, _, _, rfl, ⟨⟨x2, rfl⟩, rfl⟩, _, _, rfl, _, _, rfl, ⟨⟨x3, rfl⟩, rfl⟩, _, _, rfl, _, _, rfl, ⟨⟨x4, rfl⟩, rfl⟩, _, _, rfl, _, _, rfl, ⟨⟨x5, rfl⟩, rfl⟩, rfl, rfl⟩ := g0
      refine (calls_ofH prg tok_44 hok_38 (ev6 R x0 x1 x2 x3 x4 x5) (fun o ho => (Option.some.inj ho) ▸ (law_EnvNone x0 x1 x2 x3 x4 x5).1) hρ hH hv).mono ?_
      rintro e w' ⟨u, rfl, ⟨ρ', hu⟩, ho⟩
      exact ⟨by rw [show u = .bool (S6_0 R) from hu, (law_EnvNone x0 x1 x2 x3 x4 x5).2], ho⟩

theorem envNone_holds : Rows.EnvNoneSaid :=
  OpenClaim.holds_of_wide 6 Try.f6 rfl rfl rfl rfl rfl rfl rfl ⟨rfl, rfl, rfl, rfl, rfl⟩ rfl rfl rfl rfl rfl (by kernel_rfl) Try.func6 (by kernel_rfl)
    (of_decide_eq_true (by kernel_rfl)) (by unfold Func.isWrapper; first | (rw [if_pos (by decide +kernel)]; kernel_rfl) | (rw [if_neg (by decide +kernel)]; exact ⟨rfl, rfl⟩))
    (fun os started H enc _ => law_liftedB (C := Try.checked) (fn := Try.f6) (s := Rows.envNoneSpec) (bks := [.agg [.one .f, .one .f, .one .f, .one .f, .one .f, .one .f]]) envNone_own started (by kernel_rfl) Try.func6
      (ChangeSpec.witness6 (enc := enc) (C := Try.checked) false ⟨#[], #[.agg #[.float .f64 0, .float .f64 0, .float .f64 0, .float .f64 0, .float .f64 0, .float .f64 0]], []⟩ 8 (by kernel_rfl) (by kernel_rfl) (by kernel_rfl) (by kernel_rfl))
      envNone_laidOut (by kernel_rfl) rfl Try.underlying4 rfl (fun ds h => by match ds, h with | [_d0], _ => exact ⟨rfl, rfl, rfl⟩) (by kernel_rfl) envNone_calls)

end Go.Proofs.Ytjmanmdkdgnfmaa
