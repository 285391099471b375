/- The law WarpAngles over floats alone. -/
import Derived.Test.YtmdfomhclkbkpaaCm
namespace Go.Proofs.Ytmdfomhclkbkpaa
open Go.Ev

theorem awake09 : O11 R = true ∧ S11_0 R = true := ⟨by kernel_rfl, by kernel_rfl⟩

/-- How far a draw's direction is within its sector. -/
theorem angleSector (a : Fl) : ∃ F f g, fv F f ∧ 0 ≤ f ∧ f ≤ 1 ∧ S8_2 R a = R.fmul (R.fadd (R.fc 4607182418800017408) (R.fmul F F)) (R.fc 4593671619917905920) ∧ fv (S14_1 R (S8_0 R a) (S8_1 R a)) g ∧ 0 ≤ g ∧ g ≤ 1 ∧ (f - 1 / 17592186044416 ≤ g ∧ g ≤ f + 1 / 17592186044416) := by
  obtain ⟨_, _, _, _, F, f, C, S, hf, f0, f1, hp, hC, hS, hxy⟩ := sectorE a
  obtain ⟨q, d, c, s, hq, hd, hc, hs, q1, q2, _, d1, d2, cd, sd, c0, c1, s0, s1, ch, _⟩ := turnVal hf f0 f1
  have sc : s ≤ c := div_le hf fv_one hd f0 f1 (by grind) hs hc
  rw [← hC] at hc
  rw [← hS] at hs
  have nc := negVal hc (by grind) (by grind)
  have ns := negVal hs (by grind) (by grind)
  have zc := absVal hc (by grind) (by grind)
  have zs := absVal hs (by grind) (by grind)
  have znc := absVal nc (by grind) (by grind)
  have zns := absVal ns (by grind) (by grind)
  rw [if_pos c0] at zc
  rw [if_pos s0] at zs
  have e1 : (if 0 ≤ -c then -c else - -c) = c := by rw [if_neg (by grind)]; grind
  rw [e1] at znc
  have e2 : (if 0 ≤ -s then -s else - -s) = s := by
    by_cases h : 0 ≤ -s
    · rw [if_pos h]; grind
    · rw [if_neg h]; grind
  rw [e2] at zns
  have one : ∀ {X Y : Fl}, fv (S29_0 R X) c → fv (S29_0 R Y) s → ∃ g, fv (S14_1 R X Y) g ∧ 0 ≤ g ∧ g ≤ 1 ∧ (f - 1 / 17592186044416 ≤ g ∧ g ≤ f + 1 / 17592186044416) := fun hx hy =>
    angleOf (r := 1) hx hy f0 f1 d1 d2 ch c1 s0 s1 sc cd sd (by decide) (by decide) (.inl ⟨by grind, by grind, by grind, by grind, by grind, by grind⟩)
  have two : ∀ {X Y : Fl}, fv (S29_0 R X) s → fv (S29_0 R Y) c → ∃ g, fv (S14_1 R X Y) g ∧ 0 ≤ g ∧ g ≤ 1 ∧ (f - 1 / 17592186044416 ≤ g ∧ g ≤ f + 1 / 17592186044416) := fun hx hy =>
    angleOf (r := 1) hx hy f0 f1 d1 d2 ch c1 s0 s1 sc cd sd (by decide) (by decide) (.inr ⟨by grind, by grind, by grind, by grind, by grind, by grind⟩)
  have fin : ∃ g, fv (S14_1 R (S8_0 R a) (S8_1 R a)) g ∧ 0 ≤ g ∧ g ≤ 1 ∧ (f - 1 / 17592186044416 ≤ g ∧ g ≤ f + 1 / 17592186044416) := by
    rcases hxy with ⟨e1, e2⟩ | ⟨e1, e2⟩ | ⟨e1, e2⟩ | ⟨e1, e2⟩ | ⟨e1, e2⟩ | ⟨e1, e2⟩ | ⟨e1, e2⟩ | ⟨e1, e2⟩ <;> rw [e1, e2]
    · exact one zc zs
    · exact two zs zc
    · exact two zns zc
    · exact one znc zs
    · exact one znc zns
    · exact two zns znc
    · exact two zs znc
    · exact one zc zns
  obtain ⟨g, hg⟩ := fin
  exact ⟨F, f, g, hf, f0, f1, hp, hg⟩

theorem law_WarpAngles (x0 x1 x2 : Fl) : O4 R x0 x1 x2 = true ∧ S4_0 R x0 x1 x2 = true := by
  obtain ⟨a1, a0⟩ := angleE x0 x1
  obtain ⟨n1, g', hg', g0', g1'⟩ := angleNum x0 x1
  obtain ⟨o0, s0, s1, s2, _⟩ := sectorE x2
  obtain ⟨F, f, g, hf, f0, f1, hp, hg, g0, g1, gn⟩ := angleSector x2
  obtain ⟨p', hp', _⟩ := densVal hg' g0' g1'
  obtain ⟨p, hpp, pa, pb, pn⟩ := densVal hf f0 f1
  obtain ⟨q, hq, qa, qb, qn⟩ := densVal hg g0 g1
  have e := sq_near (x := g) (y := f) (e := 1 / 17592186044416) (by grind) (by grind) (by grind) f1 (by grind) (by grind)
  have zs : ∀ n : Int, R.zeq n n = true := fun n => by show (n == n) = true; simp
  obtain ⟨d, hd, rd⟩ := sub_val hq hpp (by grind) (by grind)
  have eps : fv (R.fc 4427038433705197568) (1 / 1099511627776) := fvc 982 92 (1 / 1099511627776) (by decide +kernel : f64.read 4427038433705197568 = .number false 4503599627370496 (-92)) (by decide) (by decide) (by decide +kernel)
  have neps : fv (R.fc 13650410470559973376) (-(1 / 1099511627776)) := fvcn 982 92 (1 / 1099511627776) (by decide +kernel : f64.read 13650410470559973376 = .number true 4503599627370496 (-92)) (by decide) (by decide) (by decide +kernel)
  have hnear : S12_0 R (S15_0 R (S7_0 R x2) (S7_1 R x2)) (S7_2 R x2) = true := by
    unfold S12_0
    rw [s0, s1, s2, hp, warpDensityE, fv_fle hd eps, fv_fge hd neps, decide_eq_true (rd.le _ (fv_rep eps) (by grind)), decide_eq_true (rd.ge _ (fv_rep neps) (by grind))]
    rfl
  unfold O4 S4_0
  rw [hnear, o0, a1, a0, warpDensityE, awake09.1, awake09.2, n1, zs, fv_num hp']
  exact ⟨rfl, rfl⟩
end Go.Proofs.Ytmdfomhclkbkpaa
