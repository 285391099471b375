/- ToneBytesSaid: the row, out of the law over numbers and of the evaluator's word on the code. -/
import Derived.Test.YtnehhebdbibecaaPuToneBytes
import Derived.Test.YtnehhebdbibecaaRows
namespace Go.Proofs.Ytnehhebdbibecaa
open Go.Ev Go.ChangeShapes Go.WideShapes Go.ChangeAt Go.RowKit
set_option maxRecDepth 100000

theorem toneBytes_own : ownKnob Try.prog.godebug = none := by kernel_rfl
theorem toneBytes_laidOut : laidOutB Try.prog = true := by kernel_rfl

theorem toneBytes_calls : ∀ ar h, fitsB 0 [.one (.one .b), .one (.sl [.f]), .one (.one (.z .i64))] ar h → ∀ (w : World) (vals : Array Value) (ρ : Nm), ArgNm ρ (bkN [.one (.one .b), .one (.sl [.f]), .one (.one (.z .i64))]) w → HR ρ h w → VRs ρ ar vals.toList → Calls Try.prog 4 vals w fun e w' => e = .returned (.bool true) ∧ Old w w' := by
      intro ar h hf w vals ρ hρ hH hv
      obtain ⟨_, _, rfl, _, _, rfl, ⟨⟨x0, rfl⟩, rfl⟩, _, _, rfl, _, _, rfl, ⟨x1, k1, rfl, rfl⟩, _, _, rfl, _, _, rfl, ⟨⟨x2, k2, rfl⟩, rfl⟩, rfl, rfl⟩ := hf
      refine (calls_ofH prg tok_23 hok_23 (ev4 R x0 x1 x2) (fun o ho => (Option.some.inj ho) ▸ (law_ToneBytes x0 x1 x2 k1 k2).1) hρ hH hv).mono ?_
      rintro e w' ⟨u, rfl, ⟨ρ', hu⟩, ho⟩
      exact ⟨by rw [show u = .bool (S4_0 R x0 x1 x2) from hu, (law_ToneBytes x0 x1 x2 k1 k2).2], ho⟩

theorem toneBytes_holds : Rows.ToneBytesSaid :=
  OpenClaim.holds_of_wide 4 Try.f4 rfl rfl rfl rfl rfl rfl rfl ⟨rfl, rfl, rfl, rfl, rfl⟩ rfl rfl rfl rfl rfl (by kernel_rfl) Try.func4 (by kernel_rfl)
    (of_decide_eq_true (by kernel_rfl)) (by unfold Func.isWrapper; first | (rw [if_pos (by decide +kernel)]; kernel_rfl) | (rw [if_neg (by decide +kernel)]; exact ⟨rfl, rfl⟩))
    (fun os started H enc _ => law_liftedB (C := Try.checked) (fn := Try.f4) (s := Rows.toneBytesSpec) (bks := [.one (.one .b), .one (.sl [.f]), .one (.one (.z .i64))]) toneBytes_own started (by kernel_rfl) Try.func4
      (ChangeSpec.witness6 (enc := enc) (C := Try.checked) false ⟨#[], #[.bool false, .slice none 0 0, .int .i64 0], []⟩ 8 (by kernel_rfl) (by kernel_rfl) (by kernel_rfl) (by kernel_rfl))
      toneBytes_laidOut (by kernel_rfl) rfl Try.underlying4 rfl (fun ds h => by match ds, h with | [_d0, _d1, _d2], _ => exact ⟨rfl, rfl, rfl⟩) (by kernel_rfl) toneBytes_calls)

end Go.Proofs.Ytnehhebdbibecaa
