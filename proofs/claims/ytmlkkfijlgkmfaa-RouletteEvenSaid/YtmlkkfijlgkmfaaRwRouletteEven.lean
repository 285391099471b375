/- RouletteEvenSaid: the row, out of the law over numbers and of the evaluator's word on the code. -/
import Derived.Test.YtmlkkfijlgkmfaaPuRouletteEven
import Derived.Test.YtmlkkfijlgkmfaaRows
namespace Go.Proofs.Ytmlkkfijlgkmfaa
open Go.Ev Go.ChangeShapes Go.WideShapes Go.ChangeAt Go.RowKit
set_option maxRecDepth 100000

theorem rouletteEven_own : ownKnob Try.prog.godebug = none := by kernel_rfl
theorem rouletteEven_laidOut : laidOutB Try.prog = true := by kernel_rfl

theorem rouletteEven_calls : ∀ vs, fitsA [.agg [.z .u8, .z .u8, .z .u8, .z .i64]] vs → ∀ (w : World) (vals : Array Value), VRs (fun _ => none) vs vals.toList → Calls Try.prog 5 vals w fun e w' => e = .returned (.bool true) ∧ Old w w' := by
      intro vs h w vals hv
      obtain ⟨_, _, rfl, ⟨_, rfl, g0⟩, rfl⟩ := h
      obtain ⟨_, _, rfl, ⟨x0, k0, rfl⟩, _, _, rfl, ⟨x1, k1, rfl⟩, _, _, rfl, ⟨x2, k2, rfl⟩, _, _, rfl, ⟨x3, k3, rfl⟩, rfl⟩ := g0
      refine (calls_of prg tok_15 (ev5 R x0 x1 x2 x3) (fun o ho => (Option.some.inj ho) ▸ (law_RouletteEven x0 x1 x2 x3 k0 k1 k2 k3).1) hv).mono ?_
      rintro e w' ⟨u, rfl, ⟨ρ', hu⟩, ho⟩
      exact ⟨by rw [show u = .bool (S5_0 R x0 x1 x2 x3) from hu, (law_RouletteEven x0 x1 x2 x3 k0 k1 k2 k3).2], ho⟩

theorem rouletteEven_holds : Rows.RouletteEvenSaid :=
  OpenClaim.holds_of_wide 5 Try.f5 rfl rfl rfl rfl rfl rfl rfl ⟨rfl, rfl, rfl, rfl, rfl⟩ rfl rfl rfl rfl rfl (by kernel_rfl) Try.func5 (by kernel_rfl)
    (of_decide_eq_true (by kernel_rfl)) (by unfold Func.isWrapper; first | (rw [if_pos (by decide +kernel)]; kernel_rfl) | (rw [if_neg (by decide +kernel)]; exact ⟨rfl, rfl⟩))
    (fun os started H enc _ => law_lifted (C := Try.checked) (fn := Try.f5) (s := Rows.rouletteEvenSpec) (aks := [.agg [.z .u8, .z .u8, .z .u8, .z .i64]]) rouletteEven_own started (by kernel_rfl) Try.func5
      (ChangeSpec.witness6 (enc := enc) (C := Try.checked) false ⟨#[], #[.agg #[.int .u8 0, .int .u8 0, .int .u8 0, .int .i64 0]], []⟩ 8 (by kernel_rfl) (by kernel_rfl) (by kernel_rfl) (by kernel_rfl))
      rouletteEven_laidOut (by kernel_rfl) rfl Try.underlying4 rfl (fun ds h => by match ds, h with | [_d0], _ => exact ⟨rfl, rfl, rfl⟩) (by kernel_rfl) rouletteEven_calls)

end Go.Proofs.Ytmlkkfijlgkmfaa
