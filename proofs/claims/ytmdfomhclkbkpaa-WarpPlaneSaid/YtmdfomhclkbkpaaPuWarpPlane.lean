/- The law WarpPlane over floats alone. -/
import Derived.Test.YtmdfomhclkbkpaaCm
namespace Go.Proofs.Ytmdfomhclkbkpaa
open Go.Ev

theorem awake09 : O11 R = true ∧ S11_0 R = true := ⟨by kernel_rfl, by kernel_rfl⟩

theorem law_WarpPlane (x0 x1 : Fl) : O3 R x0 x1 = true ∧ S3_0 R x0 x1 = true := by
  obtain ⟨o0, s0, s1, s2, _⟩ := sectorE x0
  obtain ⟨d9, e0, e1, e2⟩ := diskE x0 x1
  obtain ⟨x, y, p, hx, hy, hp, xa, xb, ya, yb, pa, pb, n1, n2⟩ := sectorVal x0
  obtain ⟨u, v, w, r, c, hu, hv, hw, hc, hr, c0, c1, r0, r1, ua, ub, va, vb, wa, wb, m1, m2⟩ := diskVal x0 x1
  obtain ⟨n, hn, na, nb, _⟩ := lenVal hx hy xa xb ya yb
  obtain ⟨m, hm, ma, mb, _⟩ := lenVal hu hv ua ub va vb
  unfold O3 S3_0
  rw [o0, s0, s1, s2, d9, e0, e1, e2, awake09.1, awake09.2, fv_num hx, fv_num hy, fv_num hp, fv_num hu, fv_num hv, fv_num hw, nearOk hn (by grind) (by grind)]
  refine ⟨rfl, ?_⟩
  have top : fv (R.fc 4607182418800021504) (1 + 1 / 1099511627776) := fvc 1022 52 (1 + 1 / 1099511627776) (by decide +kernel : f64.read 4607182418800021504 = .number false 4503599627374592 (-52)) (by decide) (by decide) (by decide +kernel)
  rw [fv_fge hp fv_eighth, fv_fle hp fv_quarter, fv_fle hm top, decide_eq_true pa, decide_eq_true pb, decide_eq_true (show m ≤ 1 + 1 / 1099511627776 by grind)]
  rfl
end Go.Proofs.Ytmdfomhclkbkpaa
