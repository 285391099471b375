/- RouletteMeansSaid: the row, out of the law over numbers and of the evaluator's word on the code. -/
import Derived.Test.YtmlkkfijlgkmfaaPuRouletteMeans
import Derived.Test.YtmlkkfijlgkmfaaRows
namespace Go.Proofs.Ytmlkkfijlgkmfaa
open Go.Ev Go.ChangeShapes Go.WideShapes Go.ChangeAt Go.RowKit
set_option maxRecDepth 100000

theorem rouletteMeans_own : ownKnob Try.prog.godebug = none := by kernel_rfl
theorem rouletteMeans_laidOut : laidOutB Try.prog = true := by kernel_rfl

theorem rouletteMeans_calls : ∀ ar h, fitsB 0 [.agg [.one .f, .one .f, .one .f], .one (.one (.z .i64)), .one (.one (.z .u8))] ar h → ∀ (w : World) (vals : Array Value) (ρ : Nm), ArgNm ρ (bkN [.agg [.one .f, .one .f, .one .f], .one (.one (.z .i64)), .one (.one (.z .u8))]) w → HR ρ h w → VRs ρ ar vals.toList → Calls Try.prog 4 vals w fun e w' => e = .returned (.bool true) ∧ Old w w' := by
      intro ar h hf w vals ρ hρ hH hv
      obtain ⟨_, _, rfl, _, _, rfl, ⟨_, rfl, g0⟩, _, _, rfl, _, _, rfl, ⟨⟨x3, k3, rfl⟩, rfl⟩, _, _, rfl, _, _, rfl, ⟨⟨x4, k4, rfl⟩, rfl⟩, rfl, rfl⟩ := hf
      obtain ⟨_, _, rfl, _, _, rfl, ⟨⟨x0, rfl⟩, rfl⟩, _, _, rfl, _, _, rfl, ⟨⟨x1, rfl⟩, rfl⟩, _, _, rfl, _, _, rfl, ⟨⟨x2, rfl⟩, rfl⟩, rfl, rfl⟩ := g0
      refine (calls_ofH prg tok_12 hok_2 (ev4 R x0 x1 x2 x3 x4) (fun o ho => (Option.some.inj ho) ▸ (law_RouletteMeans x0 x1 x2 x3 x4 k3 k4).1) hρ hH hv).mono ?_
      rintro e w' ⟨u, rfl, ⟨ρ', hu⟩, ho⟩
      exact ⟨by rw [show u = .bool (S4_0 R x0 x1 x2 x3 x4) from hu, (law_RouletteMeans x0 x1 x2 x3 x4 k3 k4).2], ho⟩

theorem rouletteMeans_holds : Rows.RouletteMeansSaid :=
  OpenClaim.holds_of_wide 4 Try.f4 rfl rfl rfl rfl rfl rfl rfl ⟨rfl, rfl, rfl, rfl, rfl⟩ rfl rfl rfl rfl rfl (by kernel_rfl) Try.func4 (by kernel_rfl)
    (of_decide_eq_true (by kernel_rfl)) (by unfold Func.isWrapper; first | (rw [if_pos (by decide +kernel)]; kernel_rfl) | (rw [if_neg (by decide +kernel)]; exact ⟨rfl, rfl⟩))
    (fun os started H enc _ => law_liftedB (C := Try.checked) (fn := Try.f4) (s := Rows.rouletteMeansSpec) (bks := [.agg [.one .f, .one .f, .one .f], .one (.one (.z .i64)), .one (.one (.z .u8))]) rouletteMeans_own started (by kernel_rfl) Try.func4
      (ChangeSpec.witness6 (enc := enc) (C := Try.checked) false ⟨#[], #[.agg #[.float .f64 0, .float .f64 0, .float .f64 0], .int .i64 0, .int .u8 0], []⟩ 8 (by kernel_rfl) (by kernel_rfl) (by kernel_rfl) (by kernel_rfl))
      rouletteMeans_laidOut (by kernel_rfl) rfl Try.underlying4 rfl (fun ds h => by match ds, h with | [_d0, _d1, _d2], _ => exact ⟨rfl, rfl, rfl⟩) (by kernel_rfl) rouletteMeans_calls)

end Go.Proofs.Ytmlkkfijlgkmfaa
