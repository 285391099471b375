/- AliasRightSaid: the row, out of the law over numbers and of the evaluator's word on the code. -/
import Derived.Test.YtpgjkadicdccnaaPuAliasRight
import Derived.Test.YtpgjkadicdccnaaRows
namespace Go.Proofs.Ytpgjkadicdccnaa
open Go.Ev Go.ChangeShapes Go.WideShapes Go.ChangeAt Go.RowKit
set_option maxRecDepth 100000

theorem aliasRight_own : ownKnob Try.prog.godebug = none := by kernel_rfl
theorem aliasRight_laidOut : laidOutB Try.prog = true := by kernel_rfl

theorem aliasRight_calls : ∀ ar h, fitsB 0 [.one (.sl [.z .u16])] ar h → ∀ (w : World) (vals : Array Value) (ρ : Nm), ArgNm ρ (bkN [.one (.sl [.z .u16])]) w → HR ρ h w → VRs ρ ar vals.toList → Calls Try.prog 3 vals w fun e w' => e = .returned (.bool true) ∧ Old w w' := by
      intro ar h hf w vals ρ hρ hH hv
      obtain ⟨_, _, rfl, _, _, rfl, ⟨x0, k0, rfl, rfl⟩, rfl, rfl⟩ := hf
      refine (calls_ofH prg tok_7 hok_10 (ev3 R x0) (fun o ho => (Option.some.inj ho) ▸ (law_AliasRight x0 k0).1) hρ hH hv).mono ?_
      rintro e w' ⟨u, rfl, ⟨ρ', hu⟩, ho⟩
      exact ⟨by rw [show u = .bool (S3_0 R x0) from hu, (law_AliasRight x0 k0).2], ho⟩

theorem aliasRight_holds : Rows.AliasRightSaid :=
  OpenClaim.holds_of_wide 3 Try.f3 rfl rfl rfl rfl rfl rfl rfl ⟨rfl, rfl, rfl, rfl, rfl⟩ rfl rfl rfl rfl rfl (by kernel_rfl) Try.func3 (by kernel_rfl)
    (of_decide_eq_true (by kernel_rfl)) (by unfold Func.isWrapper; first | (rw [if_pos (by decide +kernel)]; kernel_rfl) | (rw [if_neg (by decide +kernel)]; exact ⟨rfl, rfl⟩))
    (fun os started H enc _ => law_liftedB (C := Try.checked) (fn := Try.f3) (s := Rows.aliasRightSpec) (bks := [.one (.sl [.z .u16])]) aliasRight_own started (by kernel_rfl) Try.func3
      (ChangeSpec.witness6 (enc := enc) (C := Try.checked) false ⟨#[], #[.slice none 0 0], []⟩ 8 (by kernel_rfl) (by kernel_rfl) (by kernel_rfl) (by kernel_rfl))
      aliasRight_laidOut (by kernel_rfl) rfl Try.underlying4 rfl (fun ds h => by match ds, h with | [_d0], _ => exact ⟨rfl, rfl, rfl⟩) (by kernel_rfl) aliasRight_calls)

end Go.Proofs.Ytpgjkadicdccnaa
