/- RoulettePlaysSaid: the row, out of the law over numbers and of the evaluator's word on the code. -/
import Derived.Test.YtmlkkfijlgkmfaaPuRoulettePlays
import Derived.Test.YtmlkkfijlgkmfaaRows
namespace Go.Proofs.Ytmlkkfijlgkmfaa
open Go.Ev Go.ChangeShapes Go.WideShapes Go.ChangeAt Go.RowKit
set_option maxRecDepth 100000

theorem roulettePlays_own : ownKnob Try.prog.godebug = none := by kernel_rfl
theorem roulettePlays_laidOut : laidOutB Try.prog = true := by kernel_rfl

theorem roulettePlays_calls : ∀ vs, fitsA [.agg [.f, .f, .f], .one (.z .i64), .one .f] vs → ∀ (w : World) (vals : Array Value), VRs (fun _ => none) vs vals.toList → Calls Try.prog 3 vals w fun e w' => e = .returned (.bool true) ∧ Old w w' := by
      intro vs h w vals hv
      obtain ⟨_, _, rfl, ⟨_, rfl, g0⟩, _, _, rfl, ⟨x3, k3, rfl⟩, _, _, rfl, ⟨x4, rfl⟩, rfl⟩ := h
      obtain ⟨_, _, rfl, ⟨x0, rfl⟩, _, _, rfl, ⟨x1, rfl⟩, _, _, rfl, ⟨x2, rfl⟩, rfl⟩ := g0
      refine (calls_of prg tok_10 (ev3 R x0 x1 x2 x3 x4) (fun o ho => nomatch ho) hv).mono ?_
      rintro e w' ⟨u, rfl, ⟨ρ', hu⟩, ho⟩
      exact ⟨by rw [show u = .bool (S3_0 R x0 x1 x2 x3 x4) from hu, law_RoulettePlays x0 x1 x2 x3 x4 k3], ho⟩

theorem roulettePlays_holds : Rows.RoulettePlaysSaid :=
  OpenClaim.holds_of_wide 3 Try.f3 rfl rfl rfl rfl rfl rfl rfl ⟨rfl, rfl, rfl, rfl, rfl⟩ rfl rfl rfl rfl rfl (by kernel_rfl) Try.func3 (by kernel_rfl)
    (of_decide_eq_true (by kernel_rfl)) (by unfold Func.isWrapper; first | (rw [if_pos (by decide +kernel)]; kernel_rfl) | (rw [if_neg (by decide +kernel)]; exact ⟨rfl, rfl⟩))
    (fun os started H enc _ => law_lifted (C := Try.checked) (fn := Try.f3) (s := Rows.roulettePlaysSpec) (aks := [.agg [.f, .f, .f], .one (.z .i64), .one .f]) roulettePlays_own started (by kernel_rfl) Try.func3
      (ChangeSpec.witness6 (enc := enc) (C := Try.checked) false ⟨#[], #[.agg #[.float .f64 0, .float .f64 0, .float .f64 0], .int .i64 0, .float .f64 0], []⟩ 8 (by kernel_rfl) (by kernel_rfl) (by kernel_rfl) (by kernel_rfl))
      roulettePlays_laidOut (by kernel_rfl) rfl Try.underlying4 rfl (fun ds h => by match ds, h with | [_d0, _d1, _d2], _ => exact ⟨rfl, rfl, rfl⟩) (by kernel_rfl) roulettePlays_calls)

end Go.Proofs.Ytmlkkfijlgkmfaa
