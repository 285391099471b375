/- The law FiltWithin over floats alone. -/
import Derived.Test.YtjckbmajacakaaaCm
namespace Go.Proofs.Ytjckbmajacakaaa
open Go.Ev

theorem awake20 : S7_0 R = true := by kernel_rfl

/-- What a filter weighs of a distance: not below nought; of nought more than that. -/
theorem weighs (k : Bool) {a h : Fl} {q : Rat} (hh : fv h q) (q0 : 1 / 1024 ≤ q) (q8 : q ≤ 8) (hnn : nn a) :
    R.fge (R.fite (R.bite (R.bite (R.bnot (S22_0 R a)) (R.bc true) (R.fgt a h)) (R.bc true) (R.feq h (R.fc 0))) (R.fc 0)
      (R.fite k (R.fdiv (R.fc 4607182418800017408) (R.fmul (R.fc 4611686018427387904) h)) (R.fdiv (R.fsub (R.fc 4607182418800017408) (R.fdiv a h)) h))) (R.fc 0) = true ∧
    (fv a 0 → R.fgt (R.fite (R.bite (R.bite (R.bnot (S22_0 R a)) (R.bc true) (R.fgt a h)) (R.bc true) (R.feq h (R.fc 0))) (R.fc 0)
      (R.fite k (R.fdiv (R.fc 4607182418800017408) (R.fmul (R.fc 4611686018427387904) h)) (R.fdiv (R.fsub (R.fc 4607182418800017408) (R.fdiv a h)) h))) (R.fc 0) = true) := by
  have hqpos : 0 < q := by grind
  have hqne : q ≠ 0 := by grind
  have hz : R.feq h (R.fc 0) = false := by
    rw [fv_feq hh fv_zero]
    exact decide_eq_false (by grind)
  have eighth : repQ (1 / 8) := fv_rep fv_eighth
  have sixteenth : repQ (1 / 16) := fv_rep (fvc (b := 4589168020290535424) (e := -56) 1018 56 (1 / 16) (by decide +kernel : f64.read 4589168020290535424 = .number false 4503599627370496 (-56)) (by decide) (by decide) (by decide +kernel))
  -- what divides by the width
  have over : ∀ {x y : Fl} {p d : Rat}, fv x p → fv y d → 0 < d → 0 ≤ p → p ≤ d * 1024 → ∃ r, fv (R.fdiv x y) r ∧ rnds r (p / d) ∧ p / d * d = p ∧ 0 ≤ p / d := by
    intro x y p d hx hy hd hp hpd
    have e : p / d * d = p := Rat.div_mul_cancel (Rat.ne_of_gt hd)
    have l0 : 0 ≤ p / d := Rat.le_of_mul_le_mul_right (by rw [Rat.zero_mul, e]; exact hp) hd
    have l1 : p / d ≤ 1024 := Rat.le_of_mul_le_mul_right (by rw [e, Rat.mul_comm]; exact hpd) hd
    obtain ⟨r, hr, rr⟩ := div_val hx hy (Rat.ne_of_gt hd) (by grind) l1
    exact ⟨r, hr, rr, e, l0⟩
  have le1 : ∀ {p d : Rat}, 0 < d → p / d * d = p → p ≤ d → p / d ≤ 1 := by
    intro p d hd e h
    exact Rat.le_of_mul_le_mul_right (by rw [e, Rat.one_mul]; exact h) hd
  rw [hz]
  have zero_ok : R.fge (R.fc 0) (R.fc 0) = true := by kernel_rfl
  have flat : ∃ r, fv (R.fdiv (R.fc 4607182418800017408) (R.fmul (R.fc 4611686018427387904) h)) r ∧ 1 / 16 ≤ r := by
    obtain ⟨t, ht, rt⟩ := mul_val fv_two hh (by grind) (by grind)
    have two' : repQ (2 * q) := by
      exact repQ_twice hh ⟨by grind, by grind⟩
    have et := rt.exact two'
    subst et
    obtain ⟨r, hr, rr, e, l0⟩ := over fv_one ht (by grind) (by decide) (by grind)
    refine ⟨r, hr, rr.ge _ sixteenth ?_⟩
    refine Rat.le_of_mul_le_mul_right (c := 2 * q) ?_ (by grind)
    rw [e]
    grind
  cases hn : S22_0 R a with
  | false =>
    refine ⟨zero_ok, fun h0 => ?_⟩
    obtain ⟨i, hi, _⟩ := h0
    rw [vfinNum hi] at hn; cases hn
  | true =>
    obtain ⟨i, hi⟩ := vnumFin hn
    obtain ⟨p, hp, ep⟩ := fv_of_fin hi
    have p0 : 0 ≤ p := by
      have := hnn i hi.1
      refine Rat.le_of_mul_le_mul_right ?_ (pw_pos 1074)
      rw [Rat.zero_mul, ep]
      exact Rat.intCast_nonneg.2 this
    rw [fv_fgt hp hh]
    by_cases g : q < p
    · rw [decide_eq_true g]
      refine ⟨zero_ok, fun h0 => ?_⟩
      have := fv_unique hp h0
      grind
    · rw [decide_eq_false g]
      have g' : p ≤ q := Rat.not_lt.1 g
      cases k with
      | true =>
        obtain ⟨r, hr, r0⟩ := flat
        constructor
        · show R.fge (R.fdiv (R.fc 4607182418800017408) (R.fmul (R.fc 4611686018427387904) h)) (R.fc 0) = true
          rw [fv_fge hr fv_zero]
          exact decide_eq_true (by grind)
        · intro _
          show R.fgt (R.fdiv (R.fc 4607182418800017408) (R.fmul (R.fc 4611686018427387904) h)) (R.fc 0) = true
          rw [fv_fgt hr fv_zero]
          exact decide_eq_true (by grind)
      | false =>
        obtain ⟨u, hu, ru, eu, u0⟩ := over hp hh hqpos p0 (by grind)
        have u1 : u ≤ 1 := ru.le 1 (fv_rep fv_one) (le1 hqpos eu g')
        have u0' : 0 ≤ u := ru.ge 0 (fv_rep fv_zero) u0
        obtain ⟨v, hv, rv⟩ := sub_val fv_one hu (by grind) (by grind)
        have v0 : 0 ≤ v := rv.ge 0 (fv_rep fv_zero) (by grind)
        have v1 : v ≤ 1 := rv.le 1 (fv_rep fv_one) (by grind)
        obtain ⟨r, hr, rr, er, r0⟩ := over hv hh hqpos v0 (by grind)
        constructor
        · show R.fge (R.fdiv (R.fsub (R.fc 4607182418800017408) (R.fdiv a h)) h) (R.fc 0) = true
          rw [fv_fge hr fv_zero]
          exact decide_eq_true (rr.ge 0 (fv_rep fv_zero) r0)
        · intro h0
          have e0 := fv_unique hp h0
          subst e0
          have ez : (0 : Rat) / q = 0 := by grind
          rw [ez] at ru
          have e1 := ru.exact (fv_rep fv_zero)
          subst e1
          have e2 : v = 1 := by
            have := rv.exact (by rw [show (1 : Rat) - 0 = 1 by grind]; exact fv_rep fv_one)
            grind
          subst e2
          show R.fgt (R.fdiv (R.fsub (R.fc 4607182418800017408) (R.fdiv a h)) h) (R.fc 0) = true
          rw [fv_fgt hr fv_zero]
          refine decide_eq_true ?_
          have : 1 / 8 ≤ r := by
            refine rr.ge _ eighth ?_
            refine Rat.le_of_mul_le_mul_right (c := q) ?_ hqpos
            rw [er]
            grind
          grind

theorem law_FiltWithin (x0 _x1 _x2 : Int) (x3 x4 _x5 x6 : Fl) (_k0 : okInt .i64 x0) (_k1 : okInt .i64 _x1) (_k2 : okInt .i64 _x2) : O4 R x0 x3 x6 = true ∧ S4_0 R x0 x3 x4 x6 = true := by
  unfold O4 S4_0
  rw [awake20]
  have off : ∀ u : Fl, R.bite (R.zeq x0 (R.zc 1)) (R.bc true) (R.zeq x0 (R.zc 2)) = true →
      R.fite (R.bite (R.zeq x0 (R.zc 1)) (R.bc true) (R.zeq x0 (R.zc 2))) (R.fite (R.zeq x0 (R.zc 1)) (R.fmul (R.fsub (R.fmul (R.fc 4611686018427387904) (S20_0 R u)) (R.fc 4607182418800017408)) x3) (R.fmul (S21_0 R u) x3)) (R.fc 0) = S12_0 R x0 x3 u := by
    intro u h
    rw [h, cleanE, (tentVal u).1]
    rfl
  cases hk : R.bite (R.zeq x0 (R.zc 1)) (R.bc true) (R.zeq x0 (R.zc 2)) with
  | false =>
    have kk : R.bite (R.bnot (R.zeq x0 (R.zc 1))) (R.bnot (R.zeq x0 (R.zc 2))) (R.bc false) = true := by
      revert hk
      generalize R.zeq x0 (R.zc 1) = a
      generalize R.zeq x0 (R.zc 2) = b
      cases a <;> cases b <;> intro hk <;> first | rfl | cases hk
    have right : S8_0 R x0 x3 = false := by
      unfold S8_0
      rw [hk]
      generalize R.fge x3 (R.fc 4562146422526312448) = a
      generalize R.fle x3 (R.fc 4620693217682128896) = b
      cases a <;> cases b <;> rfl
    rw [kk, right]
    exact ⟨rfl, rfl⟩
  | true =>
    have kk : R.bite (R.bnot (R.zeq x0 (R.zc 1))) (R.bnot (R.zeq x0 (R.zc 2))) (R.bc false) = false := by
      revert hk
      generalize R.zeq x0 (R.zc 1) = a
      generalize R.zeq x0 (R.zc 2) = b
      cases a <;> cases b <;> intro hk <;> first | rfl | cases hk
    have o4 := off x4 hk
    rw [hk] at o4
    have right : S8_0 R x0 x3 = R.bite (R.bite (R.bc true) (R.fge x3 (R.fc 4562146422526312448)) (R.bc false)) (R.fle x3 (R.fc 4620693217682128896)) (R.bc false) := by
      unfold S8_0
      rw [hk]
    rw [kk, right, o4]
    cases h1 : R.fge x3 (R.fc 4562146422526312448) with
    | false => exact ⟨rfl, rfl⟩
    | true =>
      cases h2 : R.fle x3 (R.fc 4620693217682128896) with
      | false => exact ⟨rfl, rfl⟩
      | true =>
        refine ⟨rfl, ?_⟩
        obtain ⟨q, hq, q0, q8⟩ := halfVal h1 h2
        obtain ⟨o, ho, oa, ob⟩ := offsetVal x0 x4 hq q0 q8
        have n1 := distNn (S12_0 R x0 x3 x4)
        have n2 := distNn x6
        have n3 := distNn (R.fc 0)
        have z3 : fv (R.fite (R.flt (R.fc 0) (R.fc 0)) (R.fsub (R.fc 0) (R.fc 0)) (R.fc 0)) 0 := by
          have : R.flt (R.fc 0) (R.fc 0) = false := by kernel_rfl
          rw [this]
          exact fv_zero
        have w1 := (weighs (R.zeq x0 (R.zc 1)) hq q0 q8 n1).1
        have w2 := (weighs (R.zeq x0 (R.zc 1)) hq q0 q8 n2).1
        have w3 := (weighs (R.zeq x0 (R.zc 1)) hq q0 q8 n3).2 z3
        rw [w1, w2, w3]
        obtain ⟨m, hm, rm⟩ := sub_val fv_zero hq (by grind) (by grind)
        have em : m = -q := by
          have := rm.exact (by rw [show (0 : Rat) - q = -q by grind]; exact repQ_neg (fv_rep hq))
          grind
        subst em
        have b1 : R.fge (S12_0 R x0 x3 x4) (R.fsub (R.fc 0) x3) = true := by
          rw [fv_fge ho hm]; exact decide_eq_true oa
        have b2 : R.fle (S12_0 R x0 x3 x4) x3 = true := by
          rw [fv_fle ho hq]; exact decide_eq_true ob
        rw [b1, b2]
        rfl
end Go.Proofs.Ytjckbmajacakaaa
