/- BsdfSharesSaid: the row, out of the law over numbers and of the evaluator's word on the code. -/
import Derived.Test.YthfgapbbmkgfiaaPuBsdfShares
import Derived.Test.YthfgapbbmkgfiaaRows
namespace Go.Proofs.Ythfgapbbmkgfiaa
open Go.Ev Go.ChangeShapes Go.WideShapes Go.ChangeAt Go.RowKit
set_option maxRecDepth 100000

theorem bsdfShares_own : ownKnob Try.prog.godebug = none := by kernel_rfl
theorem bsdfShares_laidOut : laidOutB Try.prog = true := by kernel_rfl

theorem bsdfShares_calls : ∀ vs, fitsA [.agg [.f, .f, .f, .f, .f, .f, .f]] vs → ∀ (w : World) (vals : Array Value), VRs (fun _ => none) vs vals.toList → Calls Try.prog 4 vals w fun e w' => e = .returned (.bool true) ∧ Old w w' := by
      intro vs h w vals hv
      obtain ⟨_, _, rfl, ⟨_, rfl, g0⟩, rfl⟩ := h
      obtain ⟨_, _, rfl, ⟨x0, rfl⟩, _, _, rfl, ⟨x1, rfl⟩, _, _, rfl, ⟨x2, rfl⟩, _, _, rfl, ⟨x3, rfl⟩, _, _, rfl, ⟨x4, rfl⟩, _, _, rfl, ⟨x5, rfl⟩, _, _, rfl, ⟨x6, rfl⟩, rfl⟩ := g0
      refine (calls_of prg tok_15 (ev4 R x0 x1 x2 x3 x4 x5 x6) (fun o ho => (Option.some.inj ho) ▸ (law_BsdfShares x0 x1 x2 x3 x4 x5 x6).1) hv).mono ?_
      rintro e w' ⟨u, rfl, ⟨ρ', hu⟩, ho⟩
      exact ⟨by rw [show u = .bool (S4_0 R x0 x1 x2 x3 x4 x5) from hu, (law_BsdfShares x0 x1 x2 x3 x4 x5 x6).2], ho⟩

theorem bsdfShares_holds : Rows.BsdfSharesSaid :=
  OpenClaim.holds_of_wide 4 Try.f4 rfl rfl rfl rfl rfl rfl rfl ⟨rfl, rfl, rfl, rfl, rfl⟩ rfl rfl rfl rfl rfl (by kernel_rfl) Try.func4 (by kernel_rfl)
    (of_decide_eq_true (by kernel_rfl)) (by unfold Func.isWrapper; first | (rw [if_pos (by decide +kernel)]; kernel_rfl) | (rw [if_neg (by decide +kernel)]; exact ⟨rfl, rfl⟩))
    (fun os started H enc _ => law_lifted (C := Try.checked) (fn := Try.f4) (s := Rows.bsdfSharesSpec) (aks := [.agg [.f, .f, .f, .f, .f, .f, .f]]) bsdfShares_own started (by kernel_rfl) Try.func4
      (ChangeSpec.witness6 (enc := enc) (C := Try.checked) false ⟨#[], #[.agg #[.float .f64 0, .float .f64 0, .float .f64 0, .float .f64 0, .float .f64 0, .float .f64 0, .float .f64 0]], []⟩ 8 (by kernel_rfl) (by kernel_rfl) (by kernel_rfl) (by kernel_rfl))
      bsdfShares_laidOut (by kernel_rfl) rfl Try.underlying4 rfl (fun ds h => by match ds, h with | [_d0], _ => exact ⟨rfl, rfl, rfl⟩) (by kernel_rfl) bsdfShares_calls)

end Go.Proofs.Ythfgapbbmkgfiaa
