/- The law CamMakes over floats alone. -/
import Derived.Test.YtaidgkokaeojhaaCm
namespace Go.Proofs.Ytaidgkokaeojhaa
open Go.Ev

theorem law_CamMakes (x0 x1 x2 x3 x4 x5 x6 x7 x8 x9 x10 x11 : Fl) (x12 x13 : Int) (_k12 : okInt .i64 x12) (_k13 : okInt .i64 x13) : S4_0 R x0 x1 x2 x3 x4 x5 x6 x7 x8 x9 x10 x11 x12 x13 = true := by
  have fin3 : ∀ a b c : Fl, S22_0 R a b c = S16_0 R a b c := fun a b c => by
    unfold S22_0 S16_0
    rw [numberE, numberE, numberE]
  have le9 : ∀ x : Fl, S17_0 R x = true → R.fle x (R.fc 0) = !(R.fgt x (R.fc 0)) := by
    intro x h
    obtain ⟨k, hk⟩ := numFin h
    obtain ⟨q, hq, _⟩ := fv_of_fin hk
    rw [fv_fle hq fv_zero, fv_fgt hq fv_zero]
    by_cases g : q ≤ 0
    · rw [decide_eq_true g, decide_eq_false (Rat.not_lt.2 g)]; rfl
    · rw [decide_eq_false g, decide_eq_true (Rat.not_le.1 g)]; rfl
  have lt10 : ∀ x : Fl, S17_0 R x = true → R.flt x (R.fc 0) = !(R.fge x (R.fc 0)) := by
    intro x h
    obtain ⟨k, hk⟩ := numFin h
    obtain ⟨q, hq, _⟩ := fv_of_fin hk
    rw [fv_flt hq fv_zero, fv_fge hq fv_zero]
    by_cases g : q < 0
    · rw [decide_eq_true g, decide_eq_false (Rat.not_le.2 g)]; rfl
    · rw [decide_eq_false g, decide_eq_true (Rat.not_lt.1 g)]; rfl
  have zero9 : ∀ x : Fl, R.feq x (R.fc 0) = true → R.fgt x (R.fc 0) = false := by
    intro x h
    obtain ⟨a, b, e1, e2, e3⟩ := (feq_iff _ _).1 h
    have e2' : fkey (cls 0) = some b := e2
    rw [fkey_zero] at e2'; cases e2'
    cases g : R.fgt x (R.fc 0) with
    | false => rfl
    | true =>
      obtain ⟨c, d, f1, f2, f3⟩ := (fgt_iff _ _).1 g
      have f2' : fkey (cls 0) = some d := f2
      rw [fkey_zero] at f2'; cases f2'
      rw [e1] at f1; cases f1
      omega
  have minE : R.zlt (R.zmin x12 x13) (R.zc 1) = R.bite (R.zlt x12 (R.zc 1)) (R.bc true) (R.zlt x13 (R.zc 1)) := by
    show decide ((if x13 < x12 then x13 else x12) < 1) = (if decide (x12 < 1) = true then true else decide (x13 < 1))
    by_cases h : x13 < x12
    · rw [if_pos h]
      by_cases g : x12 < 1
      · have : x13 < 1 := by omega
        simp [g, this]
      · simp [g]
    · rw [if_neg h]
      by_cases g : x12 < 1
      · simp [g]
      · have : ¬ x13 < 1 := by omega
        simp [g, this]
  have maxE : R.zlt (R.zc 8192) (R.zmax x12 x13) = R.bite (R.zlt (R.zc 8192) x12) (R.bc true) (R.zlt (R.zc 8192) x13) := by
    show decide (8192 < (if x13 > x12 then x13 else x12)) = (if decide (8192 < x12) = true then true else decide (8192 < x13))
    by_cases h : x13 > x12
    · rw [if_pos h]
      by_cases g : 8192 < x12
      · have : 8192 < x13 := by omega
        simp [g, this]
      · simp [g]
    · rw [if_neg h]
      by_cases g : 8192 < x12
      · simp [g]
      · have : ¬ 8192 < x13 := by omega
        simp [g, this]
  have bs : ∀ b : Bool, R.beq b b = true := fun b => by cases b <;> rfl
  unfold S4_0 S5_0 S5_1 S5_2 S5_3 S5_4 S5_5 S5_6 S5_7 S5_8 S5_9
  rw [minE, maxE, bs, numberE, numberE, numberE, fin3, fin3, fin3, show S24_0 R x3 x0 = S19_0 R x3 x0 from rfl, show S24_1 R x4 x1 = S19_1 R x4 x1 from rfl, show S24_2 R x5 x2 = S19_2 R x5 x2 from rfl]
  generalize S19_0 R x3 x0 = s0
  generalize S19_1 R x4 x1 = s1
  generalize S19_2 R x5 x2 = s2
  obtain ⟨u0, u1, u2, u3⟩ := unitE s0 s1 s2
  rw [u0, u1, u2, u3]
  generalize S18_0 R s0 s1 s2 = A0
  generalize S18_1 R s0 s1 s2 = A1
  generalize S18_2 R s0 s1 s2 = A2
  generalize S18_3 R s0 s1 s2 = p
  rw [show S25_0 R A1 A2 x7 x8 = S20_0 R A1 A2 x7 x8 from rfl, show S25_1 R A0 A2 x6 x8 = S20_1 R A0 A2 x6 x8 from rfl, show S25_2 R A0 A1 x6 x7 = S20_2 R A0 A1 x6 x7 from rfl]
  generalize S20_0 R A1 A2 x7 x8 = c0
  generalize S20_1 R A0 A2 x6 x8 = c1
  generalize S20_2 R A0 A1 x6 x7 = c2
  obtain ⟨v0, v1, v2, v3⟩ := unitE c0 c1 c2
  rw [v0, v1, v2, v3]
  generalize S18_0 R c0 c1 c2 = B0
  generalize S18_1 R c0 c1 c2 = B1
  generalize S18_2 R c0 c1 c2 = B2
  generalize S18_3 R c0 c1 c2 = q
  rw [show S25_0 R B1 B2 A1 A2 = S20_0 R B1 B2 A1 A2 from rfl, show S25_1 R B0 B2 A0 A2 = S20_1 R B0 B2 A0 A2 from rfl, show S25_2 R B0 B1 A0 A1 = S20_2 R B0 B1 A0 A1 from rfl]
  generalize S20_0 R B1 B2 A1 A2 = d0
  generalize S20_1 R B0 B2 A0 A2 = d1
  generalize S20_2 R B0 B1 A0 A1 = d2
  -- tests alone
  have z9 := zero9 x9
  have l9 := le9 x9
  have l10 := lt10 x10
  have l11 := le9 x11
  have r1 := isRefl A0 A1 A2
  have r2 := isRefl B0 B1 B2
  have r3 := isRefl d0 d1 d2
  generalize R.feq x0 (R.fc 0) = e0
  generalize R.feq x1 (R.fc 0) = e1
  generalize R.feq x2 (R.fc 0) = e2
  generalize R.feq x3 (R.fc 0) = e3
  generalize R.feq x4 (R.fc 0) = e4
  generalize R.feq x5 (R.fc 0) = e5
  generalize R.feq x6 (R.fc 0) = e6
  generalize R.feq x7 (R.fc 0) = e7
  generalize R.feq x8 (R.fc 0) = e8
  generalize R.feq x10 (R.fc 0) = e10
  generalize R.feq x11 (R.fc 0) = e11
  generalize hZ : R.band e0 (R.band e1 (R.band e2 (R.band e3 (R.band e4 (R.band e5 (R.band e6 (R.band e7 (R.band e8 (R.band (R.feq x9 (R.fc 0)) (R.band e10 (R.band e11 (R.bc true)))))))))))) = Z
  have hZ9 : Z = true → R.fgt x9 (R.fc 0) = false := by
    intro h
    apply z9
    rw [h] at hZ
    revert hZ
    generalize R.feq x9 (R.fc 0) = e9
    cases e9
    · cases e0 <;> cases e1 <;> cases e2 <;> cases e3 <;> cases e4 <;> cases e5 <;> cases e6 <;> cases e7 <;> cases e8 <;> exact fun h => h
    · exact fun _ => rfl
  clear hZ z9
  generalize R.zlt x12 (R.zc 1) = i1
  generalize R.zlt x13 (R.zc 1) = i2
  generalize R.zlt (R.zc 8192) x12 = i3
  generalize R.zlt (R.zc 8192) x13 = i4
  generalize S16_0 R x0 x1 x2 = f0
  generalize S16_0 R x3 x4 x5 = f1
  generalize S16_0 R x6 x7 x8 = f2
  generalize S17_0 R x9 = n9 at *
  generalize S17_0 R x10 = n10 at *
  generalize S17_0 R x11 = n11 at *
  generalize R.fle x9 (R.fc 0) = m9 at *
  generalize R.fgt x9 (R.fc 0) = g9 at *
  generalize R.flt x10 (R.fc 0) = m10 at *
  generalize R.fge x10 (R.fc 0) = g10 at *
  generalize R.fle x11 (R.fc 0) = m11 at *
  generalize R.fgt x11 (R.fc 0) = g11 at *
  cases i1
  case true => rfl
  cases i2
  case true => rfl
  cases i3
  case true => rfl
  cases i4
  case true => rfl
  cases f0
  case false => cases Z <;> cases n9 <;> cases n10 <;> cases n11 <;> rfl
  cases f1
  case false => cases Z <;> cases n9 <;> cases n10 <;> cases n11 <;> rfl
  cases f2
  case false => cases Z <;> cases n9 <;> cases n10 <;> cases n11 <;> rfl
  cases n9
  case false => cases Z <;> rfl
  cases n10
  case false => cases Z <;> rfl
  cases n11
  case false => cases Z <;> rfl
  rw [l9 rfl, l10 rfl, l11 rfl]
  cases Z
  case true =>
    rw [hZ9 rfl]
    cases p <;> cases q <;> rfl
  cases g9
  case false => cases p <;> cases q <;> rfl
  cases g10
  case false => cases p <;> cases q <;> rfl
  cases g11
  case false => cases p <;> cases q <;> rfl
  cases p
  case false => rfl
  cases q
  case false => rfl
  show R.bite (S13_0 R A0 A1 A2 A0 A1 A2) (R.bite (S13_0 R B0 B1 B2 B0 B1 B2) (R.bite (S13_0 R d0 d1 d2 d0 d1 d2) true (R.bc false)) (R.bc false)) (R.bc false) = true
  rw [r1, r2, r3]
  rfl
end Go.Proofs.Ytaidgkokaeojhaa
