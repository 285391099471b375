/- What the laws of this seat have in common: the program's functions and the reference's, held against each other. -/
import Derived.Test.YtjckbmajacakaaaSp
import Derived.Test.YtjckbmajacakaaaEv5
namespace Go.Proofs.Ytjckbmajacakaaa
open Go.Ev

theorem sameE (x y : Fl) : S14_0 R x y = same x y := rfl
theorem cleanE (a : Fl) : S20_0 R a = S18_0 R a := clean_eq a
theorem sel {α : Type} {b : Bool} {x y : α} : (if (!b) = true then y else x) = (if b = true then x else y) := by cases b <;> rfl
theorem ge_some {x y : Fl} (h : (ford x y == some .gt || ford x y == some .eq) = true) : ford x x = some .eq := by
  cases g : ford x y with
  | none => rw [g] at h; cases h
  | some o => exact (ford_some g).1
theorem one_nn : nn (cls 4607182418800017408) := by
  intro k h
  rw [cls_key] at h
  exact key_unsigned (by decide +kernel) h
theorem two_nn : nn (cls 4611686018427387904) := by
  intro k h
  rw [cls_key] at h
  exact key_unsigned (by decide +kernel) h
theorem eighth_nn : nn (cls 4593671619917905920) := by
  intro k h
  rw [cls_key] at h
  exact key_unsigned (by decide +kernel) h
theorem gt_nn {x : Fl} (h : (ford x (cls 0) == some .gt) = true) : nn x := by
  obtain ⟨a, b, h1, h2, h3⟩ := (fgt_iff _ _).1 h
  rw [fkey_zero] at h2; cases h2
  intro k hk; rw [h1] at hk; cases hk; omega
theorem sq_nn (x : Fl) : nn (R.fmul x x) := nn_sq x
theorem one_or_not (a : Fl) : R.fite (R.fle a (R.fc 4607182418800017408)) a (R.fc 4607182418800017408) = R.fite (R.bite (R.fgt a (R.fc 4607182418800017408)) (R.bc true) (R.bnot (R.feq a a))) (R.fc 4607182418800017408) a := by
  show (if (ford a (cls 4607182418800017408) == some .lt || ford a (cls 4607182418800017408) == some .eq) then a else cls 4607182418800017408) = (if (if (ford a (cls 4607182418800017408) == some .gt) then true else !(ford a a == some .eq) : Bool) then cls 4607182418800017408 else a)
  cases h : ford a (cls 4607182418800017408) with
  | none =>
    rcases ford_none h with g | g
    · rw [g]; rfl
    · rw [one_self] at g; cases g
  | some o => rw [(ford_some h).1]; cases o <;> rfl
theorem not_both (c : Fl) (h : R.flt c (R.fc 0) = true) : R.bite (R.fgt c (R.fc 4607182418800017408)) (R.bc true) (R.bnot (R.feq c c)) = false := by
  obtain ⟨a, b, h1, h2, h3⟩ := (flt_iff _ _).1 h
  have h2' : fkey (cls 0) = some b := h2
  rw [fkey_zero] at h2'; cases h2'
  have e1 : R.feq c c = true := (feq_iff _ _).2 ⟨a, a, h1, h1, rfl⟩
  have e2 : R.fgt c (R.fc 4607182418800017408) = false := by
    cases g : R.fgt c (R.fc 4607182418800017408) with
    | false => rfl
    | true =>
      obtain ⟨a', b', g1, g2, g3⟩ := (fgt_iff _ _).1 g
      rw [h1] at g1; cases g1
      have := one_nn b' g2
      omega
  rw [e1, e2]; rfl
theorem finPos {b m : Nat} {e : Int} (h : f64.read b = .number false m e) (hm : m ≠ 0) : ∃ k, fin (cls b) k ∧ 0 < k := by
  have hb := key_bound h
  refine ⟨_, ⟨by rw [cls_key, h]; rfl, hb.2, hb.1⟩, ?_⟩
  rw [Ieee.signed]
  have : 0 < m <<< (e + 1074).toNat := by rw [Nat.shiftLeft_eq]; exact Nat.mul_pos (Nat.pos_of_ne_zero hm) (Nat.two_pow_pos _)
  generalize m <<< (e + 1074).toNat = M at this ⊢
  simp only [Bool.false_eq_true, if_false]
  omega
theorem maxFin : ∃ k, fin (cls 4697254411347427328) k ∧ 0 < k ∧ flint (cls 4697254411347427328) = some 1048576 := by
  obtain ⟨k, h, p⟩ := finPos (b := 4697254411347427328) (by decide +kernel : f64.read 4697254411347427328 = .number false 4503599627370496 (-32)) (by decide)
  exact ⟨k, h, p, by kernel_rfl⟩
theorem oneFin : ∃ k, fin (cls 4607182418800017408) k ∧ 0 < k ∧ flint (cls 4607182418800017408) = some 1 := by
  obtain ⟨k, h, p⟩ := finPos (b := 4607182418800017408) (by decide +kernel : f64.read 4607182418800017408 = .number false 4503599627370496 (-52)) (by decide)
  exact ⟨k, h, p, by kernel_rfl⟩
/-- A light's number below the greatest one has a whole part. -/
theorem partOk {m : Fl} {s : Int} (hm : nk m s) (h : R.fge m (R.fc 4697254411347427328) = false) : ∃ i, flint m = some i ∧ 0 ≤ i ∧ i ≤ 1048576 ∧ fin m s := by
  obtain ⟨k, hk, p, fl⟩ := maxFin
  have hlt : s < k := by
    refine Int.not_le.1 fun g => ?_
    have : R.fge m (R.fc 4697254411347427328) = true := (fge_iff _ _).2 ⟨s, k, hm.1, hk.1, g⟩
    rw [h] at this; cases this
  have hf : fin m s := nk_fin hm (by have := hk.2.2; omega)
  obtain ⟨i, j, e1, e2, e3, e4⟩ := flint_mono hf hk hm.2 (Int.le_of_lt hlt)
  rw [fl] at e2; cases e2
  exact ⟨i, e1, e3, e4, hf⟩
theorem iokOf {m : Fl} {i : Int} (h : flint m = some i) (h0 : 0 ≤ i) (h1 : i ≤ 1048576) : R.f2iok .i64 m = true ∧ R.f2i .i64 m = i := by
  constructor
  · show (match flint m with | some n => decide (IntKind.i64.min ≤ n ∧ n ≤ IntKind.i64.max) | none => false) = true
    rw [h]
    have a : IntKind.i64.min = -9223372036854775808 := by decide
    have b : IntKind.i64.max = 9223372036854775807 := by decide
    simp only [a, b, decide_eq_true_eq]
    omega
  · show (flint m).getD 0 = i
    rw [h]; rfl
theorem cleanVal (a : Fl) : ∃ q, fv (S18_0 R a) q ∧ 0 ≤ q ∧ q < 1 := by
  rw [← cleanE]
  unfold S20_0
  cases h1 : R.fge a (R.fc 0) with
  | false => exact ⟨0, fv_zero, by decide, by decide⟩
  | true =>
    cases h2 : R.flt a (R.fc 4607182418800017408) with
    | false => exact ⟨0, fv_zero, by decide, by decide⟩
    | true => exact unit_val h1 h2
theorem tentVal (a : Fl) : S21_0 R a = S19_0 R a ∧ ∃ q, fv (S19_0 R a) q ∧ -1 ≤ q ∧ q ≤ 1 := by
  obtain ⟨c, hc, c0, c1⟩ := cleanVal a
  unfold S21_0 S19_0
  rw [cleanE, two_mul]
  obtain ⟨w, hw, rw'⟩ := add_val hc hc (by grind) (by grind)
  have w0 : 0 ≤ w := rw'.ge 0 (fv_rep fv_zero) (by grind)
  have w2 : w ≤ 2 := rw'.le 2 (fv_rep fv_two) (by grind)
  generalize R.fadd (S18_0 R a) (S18_0 R a) = W at *
  have hlt := fv_flt hw fv_one
  have hge := fv_fge hw fv_one
  have hs : ∀ x : Fl, S23_0 R x = R.fsqrt x := fun _ => rfl
  rw [hs, hs, hlt, hge]
  by_cases g : w < 1
  · have g' : ¬ (1 : Rat) ≤ w := Rat.not_le.2 g
    rw [decide_eq_true g, decide_eq_false g']
    refine ⟨rfl, ?_⟩
    obtain ⟨s, hs1, sq⟩ := sqrt_val hw w0 (by grind)
    have s1 : s ≤ 1 := sq.le 1 (fv_rep fv_one) (by decide) (by grind)
    have s0 := sq.nonneg
    obtain ⟨r, hr, rr⟩ := sub_val hs1 fv_one (by grind) (by grind)
    exact ⟨r, hr, rr.ge (-1) (repQ_neg (fv_rep fv_one)) (by grind), rr.le 1 (fv_rep fv_one) (by grind)⟩
  · have g' : (1 : Rat) ≤ w := Rat.not_lt.1 g
    rw [decide_eq_false g, decide_eq_true g']
    refine ⟨rfl, ?_⟩
    obtain ⟨d, hd, rd⟩ := sub_val fv_two hw (by grind) (by grind)
    have d0 : 0 ≤ d := rd.ge 0 (fv_rep fv_zero) (by grind)
    have d1 : d ≤ 1 := rd.le 1 (fv_rep fv_one) (by grind)
    obtain ⟨s, hs1, sq⟩ := sqrt_val hd d0 (by grind)
    have s1 : s ≤ 1 := sq.le 1 (fv_rep fv_one) (by decide) (by grind)
    have s0 := sq.nonneg
    obtain ⟨r, hr, rr⟩ := sub_val fv_one hs1 (by grind) (by grind)
    exact ⟨r, hr, rr.ge (-1) (repQ_neg (fv_rep fv_one)) (by grind), rr.le 1 (fv_rep fv_one) (by grind)⟩
theorem halfVal {h : Fl} (h1 : R.fge h (R.fc 4562146422526312448) = true) (h2 : R.fle h (R.fc 4620693217682128896) = true) : ∃ q, fv h q ∧ 1 / 1024 ≤ q ∧ q ≤ 8 := by
  have least : fv (R.fc 4562146422526312448) (1 / 1024) := fvc 1012 62 (1 / 1024) (by decide +kernel : f64.read 4562146422526312448 = .number false 4503599627370496 (-62)) (by decide) (by decide) (by decide +kernel)
  exact fv_between least fv_eight h1 h2
theorem offsetVal (k : Int) (u : Fl) {h : Fl} {q : Rat} (hh : fv h q) (q0 : 1 / 1024 ≤ q) (q8 : q ≤ 8) : ∃ o, fv (S12_0 R k h u) o ∧ -q ≤ o ∧ o ≤ q := by
  unfold S12_0
  have times : ∀ {t : Fl} {p : Rat}, fv t p → -1 ≤ p → p ≤ 1 → ∃ o, fv (R.fmul t h) o ∧ -q ≤ o ∧ o ≤ q := by
    intro t p ht p0 p1
    have m1 := Rat.mul_le_mul_of_nonneg_right p0 (show 0 ≤ q by grind)
    have m2 := Rat.mul_le_mul_of_nonneg_right p1 (show 0 ≤ q by grind)
    obtain ⟨o, ho, ro⟩ := mul_val ht hh (by grind) (by grind)
    exact ⟨o, ho, ro.ge (-q) (repQ_neg (fv_rep hh)) (by grind), ro.le q (fv_rep hh) (by grind)⟩
  cases R.zeq k (R.zc 1) with
  | true =>
    obtain ⟨c, hc, c0, c1⟩ := cleanVal u
    rw [two_mul]
    obtain ⟨w, hw, rw'⟩ := add_val hc hc (by grind) (by grind)
    have w0 : 0 ≤ w := rw'.ge 0 (fv_rep fv_zero) (by grind)
    have w2 : w ≤ 2 := rw'.le 2 (fv_rep fv_two) (by grind)
    obtain ⟨t, ht, rt⟩ := sub_val hw fv_one (by grind) (by grind)
    exact times ht (rt.ge (-1) (repQ_neg (fv_rep fv_one)) (by grind)) (rt.le 1 (fv_rep fv_one) (by grind))
  | false =>
    obtain ⟨p, hp, p0, p1⟩ := (tentVal u).2
    exact times hp p0 p1
theorem distNn (d : Fl) : nn (R.fite (R.flt d (R.fc 0)) (R.fsub (R.fc 0) d) d) := by
  cases h : R.flt d (R.fc 0) with
  | true =>
    obtain ⟨a, b, e1, e2, e3⟩ := (flt_iff _ _).1 h
    have e2' : fkey (cls 0) = some b := e2
    rw [fkey_zero] at e2'; cases e2'
    intro k hk
    exact key_from_zero e1 e3 hk
  | false =>
    intro k hk
    refine Int.not_lt.1 fun g => ?_
    have : R.flt d (R.fc 0) = true := (flt_iff _ _).2 ⟨k, 0, hk, fkey_zero, g⟩
    rw [h] at this; cases this
theorem vnumFin {a : Fl} (h : S22_0 R a = true) : ∃ k, fin a k := (vnum_iff a).1 h
theorem vfinNum {a : Fl} {k : Int} (h : fin a k) : S22_0 R a = true := (vnum_iff a).2 ⟨k, h⟩

end Go.Proofs.Ytjckbmajacakaaa
