/- HistCountsSaid: the row, out of the law over numbers and of the evaluator's word on the code. -/
import Derived.Test.YtollfibhbdkedaaPuHistCounts
import Derived.Test.YtollfibhbdkedaaRows
namespace Go.Proofs.Ytollfibhbdkedaa
open Go.Ev Go.ChangeShapes Go.WideShapes Go.ChangeAt Go.RowKit
set_option maxRecDepth 100000

theorem histCounts_own : ownKnob Try.prog.godebug = none := by kernel_rfl
theorem histCounts_laidOut : laidOutB Try.prog = true := by kernel_rfl

theorem histCounts_calls : ∀ ar h, fitsB 0 [.one (.sl [.f]), .one (.sl [.f])] ar h → ∀ (w : World) (vals : Array Value) (ρ : Nm), ArgNm ρ (bkN [.one (.sl [.f]), .one (.sl [.f])]) w → HR ρ h w → VRs ρ ar vals.toList → Calls Try.prog 4 vals w fun e w' => e = .returned (.bool true) ∧ Old w w' := by
      intro ar h hf w vals ρ hρ hH hv
      obtain ⟨_, _, rfl, _, _, rfl, ⟨x0, k0, rfl, rfl⟩, _, _, rfl, _, _, rfl, ⟨x1, k1, rfl, rfl⟩, rfl, rfl⟩ := hf
      refine (calls_ofH prg tok_25 hok_38_4 (ev4 R x0 x1) (fun o ho => (Option.some.inj ho) ▸ (law_HistCounts x0 x1 k0 k1).1) hρ hH hv).mono ?_
      rintro e w' ⟨u, rfl, ⟨ρ', hu⟩, ho⟩
      exact ⟨by rw [show u = .bool (S4_0 R x0 x1) from hu, (law_HistCounts x0 x1 k0 k1).2], ho⟩

theorem histCounts_holds : Rows.HistCountsSaid :=
  OpenClaim.holds_of_wide 4 Try.f4 rfl rfl rfl rfl rfl rfl rfl ⟨rfl, rfl, rfl, rfl, rfl⟩ rfl rfl rfl rfl rfl (by kernel_rfl) Try.func4 (by kernel_rfl)
    (of_decide_eq_true (by kernel_rfl)) (by unfold Func.isWrapper; first | (rw [if_pos (by decide +kernel)]; kernel_rfl) | (rw [if_neg (by decide +kernel)]; exact ⟨rfl, rfl⟩))
    (fun os started H enc _ => law_liftedB (C := Try.checked) (fn := Try.f4) (s := Rows.histCountsSpec) (bks := [.one (.sl [.f]), .one (.sl [.f])]) histCounts_own started (by kernel_rfl) Try.func4
      (ChangeSpec.witness6 (enc := enc) (C := Try.checked) false ⟨#[], #[.slice none 0 0, .slice none 0 0], []⟩ 8 (by kernel_rfl) (by kernel_rfl) (by kernel_rfl) (by kernel_rfl))
      histCounts_laidOut (by kernel_rfl) rfl Try.underlying4 rfl (fun ds h => by match ds, h with | [_d0, _d1], _ => exact ⟨rfl, rfl, rfl⟩) (by kernel_rfl) histCounts_calls)

end Go.Proofs.Ytollfibhbdkedaa
