/- The law FiltNone over floats alone. -/
import Derived.Test.YtjckbmajacakaaaCm
namespace Go.Proofs.Ytjckbmajacakaaa
open Go.Ev

theorem awake20 : S7_0 R = true := by kernel_rfl

theorem placed {n : Int} (h : okInt .i64 n) : R.feq (R.fadd (R.fadd (R.i2f n) (R.fc 4602678819172646912)) (R.fc 0)) (R.fadd (R.i2f n) (R.fc 4602678819172646912)) = true := by
  have a : IntKind.i64.min = -9223372036854775808 := by decide
  have b : IntKind.i64.max = 9223372036854775807 := by decide
  have h1 : (-9223372036854775808 : Int) ≤ n := a ▸ h.1
  have h2 : n ≤ 9223372036854775808 := by have := h.2; rw [b] at this; omega
  have g1 := Rat.intCast_le_intCast.2 h1
  have g2 := Rat.intCast_le_intCast.2 h2
  have e : pw 66 = 73786976294838206464 := by unfold pw; rfl
  have l : pw 66 ≤ pw 1000 := pw_le (by decide)
  rw [e] at l
  obtain ⟨r, hr, rr⟩ := fv_int (n := n) (by grind) (by grind)
  have hb := rr.bound 9223372036854775808 (by grind) (by grind) (by decide)
  obtain ⟨s, hs, rs⟩ := fv_add hr fv_half (by grind) (by grind)
  have hb2 := rs.bound 18446744073709551617 (by grind) (by grind) (by decide)
  obtain ⟨t, ht, rt⟩ := fv_add hs fv_zero (by grind) (by grind)
  have : t = s := by
    have := rt.exact (by rw [Rat.add_zero]; exact fv_rep hs)
    rw [Rat.add_zero] at this
    exact this
  subst this
  rw [fv_feq ht hs]
  simp

theorem law_FiltNone (x0 x1 : Int) (_x2 x3 : Fl) (k0 : okInt .i64 x0) (k1 : okInt .i64 x1) : O5 R x0 x1 x3 = true ∧ S5_0 R x0 x1 = true := by
  have z : R.feq (R.fc 0) (R.fc 0) = true := by kernel_rfl
  unfold O5 S5_0
  rw [awake20, placed k0, placed k1, z]
  refine ⟨?_, rfl⟩
  generalize R.bite (R.bnot _) (R.bc true) _ = b
  cases b <;> rfl
end Go.Proofs.Ytjckbmajacakaaa
