/- BoxWithinSaid: the row, out of the law over numbers and of the evaluator's word on the code. -/
import Derived.Test.YtlafnmdefhpeeaaPuBoxWithin
import Derived.Test.YtlafnmdefhpeeaaRows
namespace Go.Proofs.Ytlafnmdefhpeeaa
open Go.Ev Go.ChangeShapes Go.WideShapes Go.ChangeAt Go.RowKit
set_option maxRecDepth 100000

theorem boxWithin_own : ownKnob Try.prog.godebug = none := by kernel_rfl
theorem boxWithin_laidOut : laidOutB Try.prog = true := by kernel_rfl

theorem boxWithin_calls : ∀ vs, fitsA [.agg [.f, .f, .f, .f, .f, .f], .agg [.f, .f, .f, .f, .f, .f], .agg [.f, .f, .f, .f, .f, .f]] vs → ∀ (w : World) (vals : Array Value), VRs (fun _ => none) vs vals.toList → Calls Try.prog 5 vals w fun e w' => e = .returned (.bool true) ∧ Old w w' := by
      intro vs h w vals hv
      obtain ⟨_, _, rfl, ⟨_, rfl, g0⟩, _, _, rfl, ⟨_, rfl, g1⟩, _, _, rfl, ⟨_, rfl, g2⟩, rfl⟩ := h
      obtain ⟨_, _, rfl, ⟨x0, rfl⟩, _, _, rfl, ⟨x1, rfl⟩, _, _, rfl, ⟨x2, rfl⟩, _, _, rfl, ⟨x3, rfl⟩, _, _, rfl, ⟨x4, rfl⟩, _, _, rfl, ⟨x5, rfl⟩, rfl⟩ := g0
      obtain ⟨_, _, rfl, ⟨x6, rfl⟩, _, _, rfl, ⟨x7, rfl⟩, _, _, rfl, ⟨x8, rfl⟩, _, _, rfl, ⟨x9, rfl⟩, _, _, rfl, ⟨x10, rfl⟩, _, _, rfl, ⟨x11, rfl⟩, rfl⟩ := g1
      obtain ⟨_, _, rfl, ⟨x12, rfl⟩, _, _, rfl, ⟨x13, rfl⟩, _, _, rfl, ⟨x14, rfl⟩, _, _, rfl, ⟨x15, rfl⟩, _, _, rfl, ⟨x16, rfl⟩, _, _, rfl, ⟨x17, rfl⟩, rfl⟩ := g2
      refine (calls_of prg tok_19 (ev5 R x0 x1 x2 x3 x4 x5 x6 x7 x8 x9 x10 x11 x12 x13 x14 x15 x16 x17) (fun o ho => nomatch ho) hv).mono ?_
      rintro e w' ⟨u, rfl, ⟨ρ', hu⟩, ho⟩
      exact ⟨by rw [show u = .bool (S5_0 R x0 x1 x2 x3 x4 x5 x6 x7 x8 x9 x10 x11 x12 x13 x14 x15 x16 x17) from hu, law_BoxWithin x0 x1 x2 x3 x4 x5 x6 x7 x8 x9 x10 x11 x12 x13 x14 x15 x16 x17], ho⟩

theorem boxWithin_holds : Rows.BoxWithinSaid :=
  OpenClaim.holds_of_wide 5 Try.f5 rfl rfl rfl rfl rfl rfl rfl ⟨rfl, rfl, rfl, rfl, rfl⟩ rfl rfl rfl rfl rfl (by kernel_rfl) Try.func5 (by kernel_rfl)
    (of_decide_eq_true (by kernel_rfl)) (by unfold Func.isWrapper; first | (rw [if_pos (by decide +kernel)]; kernel_rfl) | (rw [if_neg (by decide +kernel)]; exact ⟨rfl, rfl⟩))
    (fun os started H enc _ => law_lifted (C := Try.checked) (fn := Try.f5) (s := Rows.boxWithinSpec) (aks := [.agg [.f, .f, .f, .f, .f, .f], .agg [.f, .f, .f, .f, .f, .f], .agg [.f, .f, .f, .f, .f, .f]]) boxWithin_own started (by kernel_rfl) Try.func5
      (ChangeSpec.witness6 (enc := enc) (C := Try.checked) false ⟨#[], #[.agg #[.float .f64 0, .float .f64 0, .float .f64 0, .float .f64 0, .float .f64 0, .float .f64 0], .agg #[.float .f64 0, .float .f64 0, .float .f64 0, .float .f64 0, .float .f64 0, .float .f64 0], .agg #[.float .f64 0, .float .f64 0, .float .f64 0, .float .f64 0, .float .f64 0, .float .f64 0]], []⟩ 8 (by kernel_rfl) (by kernel_rfl) (by kernel_rfl) (by kernel_rfl))
      boxWithin_laidOut (by kernel_rfl) rfl Try.underlying4 rfl (fun ds h => by match ds, h with | [_d0, _d1, _d2], _ => exact ⟨rfl, rfl, rfl⟩) (by kernel_rfl) boxWithin_calls)

end Go.Proofs.Ytlafnmdefhpeeaa
