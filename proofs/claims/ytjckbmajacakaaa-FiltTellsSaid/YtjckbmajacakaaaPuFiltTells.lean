/- The law FiltTells over floats alone. -/
import Derived.Test.YtjckbmajacakaaaCm
namespace Go.Proofs.Ytjckbmajacakaaa
open Go.Ev

theorem awake20 : S7_0 R = true := by kernel_rfl

theorem intVal {n : Int} (h : okInt .i64 n) : ∃ r, fv (R.i2f n) r ∧ -18446744073709551616 ≤ r ∧ r ≤ 18446744073709551616 := by
  have a : IntKind.i64.min = -9223372036854775808 := by decide
  have b : IntKind.i64.max = 9223372036854775807 := by decide
  have h1 : (-9223372036854775808 : Int) ≤ n := a ▸ h.1
  have h2 : n ≤ 9223372036854775808 := by have := h.2; rw [b] at this; omega
  have g1 := Rat.intCast_le_intCast.2 h1
  have g2 := Rat.intCast_le_intCast.2 h2
  have e : pw 63 = 9223372036854775808 := by unfold pw; rfl
  have l : pw 63 ≤ pw 1000 := pw_le (by decide)
  rw [e] at l
  obtain ⟨r, hr, rr⟩ := fv_int (n := n) (by grind) (by grind)
  have hb := rr.bound 9223372036854775808 (by grind) (by grind) (by decide)
  exact ⟨r, hr, by grind, by grind⟩

theorem placeVal {n : Int} (h : okInt .i64 n) {o : Fl} {q : Rat} (ho : fv o q) (q0 : -8 ≤ q) (q1 : q ≤ 8) : R.feq (R.fadd (R.fadd (R.i2f n) (R.fc 4602678819172646912)) o) (R.fadd (R.fadd (R.i2f n) (R.fc 4602678819172646912)) o) = true := by
  obtain ⟨r, hr, r0, r1⟩ := intVal h
  have e : pw 66 = 73786976294838206464 := by unfold pw; rfl
  have l : pw 66 ≤ pw 1000 := pw_le (by decide)
  rw [e] at l
  obtain ⟨s, hs, rs⟩ := fv_add hr fv_half (by grind) (by grind)
  have hb := rs.bound 18446744073709551617 (by grind) (by grind) (by decide)
  obtain ⟨t, ht, _⟩ := fv_add hs ho (by grind) (by grind)
  exact fv_num ht

/-- The weight, either way. -/
theorem weightSame (k : Int) (d : Fl) {h : Fl} {q : Rat} (hh : fv h q) (q0 : 1 / 1024 ≤ q) :
    R.fite (R.bite (R.bite (R.bnot (S22_0 R (R.fite (R.flt d (R.fc 0)) (R.fsub (R.fc 0) d) d))) (R.bc true) (R.fgt (R.fite (R.flt d (R.fc 0)) (R.fsub (R.fc 0) d) d) h)) (R.bc true) (R.feq h (R.fc 0))) (R.fc 0)
      (R.fite (R.zeq k (R.zc 1)) (R.fdiv (R.fc 4607182418800017408) (R.fmul (R.fc 4611686018427387904) h)) (R.fdiv (R.fsub (R.fc 4607182418800017408) (R.fdiv (R.fite (R.flt d (R.fc 0)) (R.fsub (R.fc 0) d) d) h)) h)) = S16_0 R k h d := by
  unfold S16_0
  have hnn := distNn d
  generalize R.fite (R.flt d (R.fc 0)) (R.fsub (R.fc 0) d) d = a at *
  have hz : R.feq h (R.fc 0) = false := by
    rw [fv_feq hh fv_zero]
    exact decide_eq_false (by grind)
  rw [hz]
  cases hn : S22_0 R a with
  | false =>
    have : R.fle a h = false := by
      cases hle : R.fle a h with
      | false => rfl
      | true =>
        obtain ⟨i, j, e1, e2, e3⟩ := (fle_iff _ _).1 hle
        obtain ⟨j', hj, _⟩ := id hh
        rw [hj.1] at e2; cases e2
        have i0 := hnn i e1
        have hf : fin a i := ⟨e1, by have := topKey_pos; omega, by have := hj.2; omega⟩
        rw [vfinNum hf] at hn
        exact nomatch hn
    rw [this]; rfl
  | true =>
    obtain ⟨k', hk'⟩ := vnumFin hn
    obtain ⟨p, hp, _⟩ := fv_of_fin hk'
    rw [fv_fgt hp hh, fv_fle hp hh]
    by_cases g : p ≤ q
    · rw [decide_eq_true g, decide_eq_false (Rat.not_lt.2 g)]; rfl
    · rw [decide_eq_false g, decide_eq_true (Rat.not_le.1 g)]; rfl

theorem law_FiltTells (x0 x1 x2 : Int) (x3 x4 x5 x6 : Fl) (_k0 : okInt .i64 x0) (k1 : okInt .i64 x1) (k2 : okInt .i64 x2) : S3_0 R x0 x1 x2 x3 x4 x5 x6 = true := by
  unfold S3_0
  rw [awake20]
  have zs : R.zeq x0 x0 = true := by show (x0 == x0) = true; simp
  rw [zs]
  have off : ∀ u : Fl, R.bite (R.zeq x0 (R.zc 1)) (R.bc true) (R.zeq x0 (R.zc 2)) = true →
      R.fite (R.bite (R.zeq x0 (R.zc 1)) (R.bc true) (R.zeq x0 (R.zc 2))) (R.fite (R.zeq x0 (R.zc 1)) (R.fmul (R.fsub (R.fmul (R.fc 4611686018427387904) (S20_0 R u)) (R.fc 4607182418800017408)) x3) (R.fmul (S21_0 R u) x3)) (R.fc 0) = S12_0 R x0 x3 u := by
    intro u h
    rw [h, cleanE, (tentVal u).1]
    rfl
  cases hk : R.bite (R.zeq x0 (R.zc 1)) (R.bc true) (R.zeq x0 (R.zc 2)) with
  | false =>
    have kk : R.bite (R.bnot (R.zeq x0 (R.zc 1))) (R.bnot (R.zeq x0 (R.zc 2))) (R.bc false) = true := by
      revert hk
      generalize R.zeq x0 (R.zc 1) = a
      generalize R.zeq x0 (R.zc 2) = b
      cases a <;> cases b <;> intro hk <;> first | rfl | cases hk
    rw [kk]
    rfl
  | true =>
    have kk : R.bite (R.bnot (R.zeq x0 (R.zc 1))) (R.bnot (R.zeq x0 (R.zc 2))) (R.bc false) = false := by
      revert hk
      generalize R.zeq x0 (R.zc 1) = a
      generalize R.zeq x0 (R.zc 2) = b
      cases a <;> cases b <;> intro hk <;> first | rfl | cases hk
    have o4 := off x4 hk
    have o5 := off x5 hk
    rw [hk] at o4 o5
    rw [kk, o4, o5]
    have right : S8_0 R x0 x3 = R.bite (R.bite (R.bc true) (R.fge x3 (R.fc 4562146422526312448)) (R.bc false)) (R.fle x3 (R.fc 4620693217682128896)) (R.bc false) := by
      unfold S8_0
      rw [hk]
    rw [right]
    cases h1 : R.fge x3 (R.fc 4562146422526312448) with
    | false => rfl
    | true =>
      cases h2 : R.fle x3 (R.fc 4620693217682128896) with
      | false => rfl
      | true =>
        obtain ⟨q, hq, q0, q8⟩ := halfVal h1 h2
        obtain ⟨o, ho, oa, ob⟩ := offsetVal x0 x4 hq q0 q8
        obtain ⟨p, hp, pa, pb⟩ := offsetVal x0 x5 hq q0 q8
        rw [fv_num hq, fv_num ho, placeVal k1 ho (by grind) (by grind), placeVal k2 hp (by grind) (by grind), weightSame x0 x6 hq q0, sameE, same_self]
        rfl
end Go.Proofs.Ytjckbmajacakaaa
