/- What the laws of this seat have in common: the program's functions and the reference's, held against each other. -/
import Derived.Test.YtmlkkfijlgkmfaaSp
import Derived.Test.YtmlkkfijlgkmfaaEv5
namespace Go.Proofs.Ytmlkkfijlgkmfaa
open Go.Ev

theorem sameE (x y : Fl) : S20_0 R x y = same x y := rfl
theorem numberE (x : Fl) : S28_0 R x = S29_0 R x := number_iff x
theorem cleanE (a : Fl) : S26_0 R a = S17_0 R a := clean_eq a
theorem sel {α : Type} {b : Bool} {x y : α} : (if (!b) = true then y else x) = (if b = true then x else y) := by cases b <;> rfl
theorem ge_some {x y : Fl} (h : (ford x y == some .gt || ford x y == some .eq) = true) : ford x x = some .eq := by
  cases g : ford x y with
  | none => rw [g] at h; cases h
  | some o => exact (ford_some g).1
theorem rgbIsRefl (a b c : Fl) : S10_0 R a b c a b c = true := by
  simp only [S10_0, sameE, same_self, if_true]
theorem numKey {a : Fl} (h : S29_0 R a = true) : ∃ k, fkey a = some k := by
  have h' : (R.feq (R.fsub a a) (cls 0)) = true := h
  rw [← number_iff] at h'
  cases g : R.fge a (cls lowBits) with
  | false => rw [g] at h'; cases h'
  | true =>
    obtain ⟨k, _, h1, _⟩ := (fge_iff _ _).1 g
    exact ⟨k, h1⟩
theorem one_nn : nn (cls 4607182418800017408) := by
  intro k h
  rw [cls_key] at h
  exact key_unsigned (by decide +kernel) h
theorem two_nn : nn (cls 4611686018427387904) := by
  intro k h
  rw [cls_key] at h
  exact key_unsigned (by decide +kernel) h
theorem eighth_nn : nn (cls 4593671619917905920) := by
  intro k h
  rw [cls_key] at h
  exact key_unsigned (by decide +kernel) h
theorem gt_nn {x : Fl} (h : (ford x (cls 0) == some .gt) = true) : nn x := by
  obtain ⟨a, b, h1, h2, h3⟩ := (fgt_iff _ _).1 h
  rw [fkey_zero] at h2; cases h2
  intro k hk; rw [h1] at hk; cases hk; omega
theorem sq_nn (x : Fl) : nn (R.fmul x x) := nn_sq x
theorem one_or_not (a : Fl) : R.fite (R.fle a (R.fc 4607182418800017408)) a (R.fc 4607182418800017408) = R.fite (R.bite (R.fgt a (R.fc 4607182418800017408)) (R.bc true) (R.bnot (R.feq a a))) (R.fc 4607182418800017408) a := by
  show (if (ford a (cls 4607182418800017408) == some .lt || ford a (cls 4607182418800017408) == some .eq) then a else cls 4607182418800017408) = (if (if (ford a (cls 4607182418800017408) == some .gt) then true else !(ford a a == some .eq) : Bool) then cls 4607182418800017408 else a)
  cases h : ford a (cls 4607182418800017408) with
  | none =>
    rcases ford_none h with g | g
    · rw [g]; rfl
    · rw [one_self] at g; cases g
  | some o => rw [(ford_some h).1]; cases o <;> rfl
theorem not_both (c : Fl) (h : R.flt c (R.fc 0) = true) : R.bite (R.fgt c (R.fc 4607182418800017408)) (R.bc true) (R.bnot (R.feq c c)) = false := by
  obtain ⟨a, b, h1, h2, h3⟩ := (flt_iff _ _).1 h
  have h2' : fkey (cls 0) = some b := h2
  rw [fkey_zero] at h2'; cases h2'
  have e1 : R.feq c c = true := (feq_iff _ _).2 ⟨a, a, h1, h1, rfl⟩
  have e2 : R.fgt c (R.fc 4607182418800017408) = false := by
    cases g : R.fgt c (R.fc 4607182418800017408) with
    | false => rfl
    | true =>
      obtain ⟨a', b', g1, g2, g3⟩ := (fgt_iff _ _).1 g
      rw [h1] at g1; cases g1
      have := one_nn b' g2
      omega
  rw [e1, e2]; rfl
theorem finPos {b m : Nat} {e : Int} (h : f64.read b = .number false m e) (hm : m ≠ 0) : ∃ k, fin (cls b) k ∧ 0 < k := by
  have hb := key_bound h
  refine ⟨_, ⟨by rw [cls_key, h]; rfl, hb.2, hb.1⟩, ?_⟩
  rw [Ieee.signed]
  have : 0 < m <<< (e + 1074).toNat := by rw [Nat.shiftLeft_eq]; exact Nat.mul_pos (Nat.pos_of_ne_zero hm) (Nat.two_pow_pos _)
  generalize m <<< (e + 1074).toNat = M at this ⊢
  simp only [Bool.false_eq_true, if_false]
  omega
theorem numFin {a : Fl} (h : S29_0 R a = true) : ∃ k, fin a k := (rnum_iff a).1 h
theorem goodE (a b c : Fl) : S18_0 R a b c = S21_0 R a b c := by
  unfold S18_0 S21_0 S27_0
  rw [numberE, numberE, numberE]
  generalize S29_0 R a = p
  generalize S29_0 R b = q
  generalize S29_0 R c = r
  generalize R.fge a (R.fc 0) = u
  generalize R.fge b (R.fc 0) = v
  generalize R.fge c (R.fc 0) = w
  cases p <;> cases q <;> cases r <;> cases u <;> cases v <;> cases w <;> rfl
theorem goodFin {a b c : Fl} (h : S21_0 R a b c = true) : (∃ k, fin a k ∧ 0 ≤ k) ∧ (∃ k, fin b k ∧ 0 ≤ k) ∧ (∃ k, fin c k ∧ 0 ≤ k) := by
  have one : ∀ x : Fl, S29_0 R x = true → R.fge x (R.fc 0) = true → ∃ k, fin x k ∧ 0 ≤ k := by
    intro x h1 h2
    obtain ⟨k, hk⟩ := numFin h1
    obtain ⟨i, j, g1, g2, g3⟩ := (fge_iff _ _).1 h2
    rw [hk.1] at g1; cases g1
    have g2' : fkey (cls 0) = some j := g2
    rw [fkey_zero] at g2'; cases g2'
    exact ⟨k, hk, g3⟩
  unfold S21_0 at h
  revert h
  have oa := one a
  have ob := one b
  have oc := one c
  generalize S29_0 R a = p at *
  generalize S29_0 R b = q at *
  generalize S29_0 R c = r at *
  generalize R.fge a (R.fc 0) = u at *
  generalize R.fge b (R.fc 0) = v at *
  generalize R.fge c (R.fc 0) = w at *
  intro h
  cases p <;> cases q <;> cases r <;> cases u <;> cases v <;> cases w <;> first | (cases h; done) | exact ⟨oa rfl rfl, ob rfl rfl, oc rfl rfl⟩
theorem maxFin : ∃ k, fin (cls 4697254411347427328) k ∧ 0 < k ∧ flint (cls 4697254411347427328) = some 1048576 := by
  obtain ⟨k, h, p⟩ := finPos (b := 4697254411347427328) (by decide +kernel : f64.read 4697254411347427328 = .number false 4503599627370496 (-32)) (by decide)
  exact ⟨k, h, p, by kernel_rfl⟩
theorem oneFin : ∃ k, fin (cls 4607182418800017408) k ∧ 0 < k ∧ flint (cls 4607182418800017408) = some 1 := by
  obtain ⟨k, h, p⟩ := finPos (b := 4607182418800017408) (by decide +kernel : f64.read 4607182418800017408 = .number false 4503599627370496 (-52)) (by decide)
  exact ⟨k, h, p, by kernel_rfl⟩
/-- A light's number below the greatest one has a whole part. -/
theorem partOk {m : Fl} {s : Int} (hm : nk m s) (h : R.fge m (R.fc 4697254411347427328) = false) : ∃ i, flint m = some i ∧ 0 ≤ i ∧ i ≤ 1048576 ∧ fin m s := by
  obtain ⟨k, hk, p, fl⟩ := maxFin
  have hlt : s < k := by
    refine Int.not_le.1 fun g => ?_
    have : R.fge m (R.fc 4697254411347427328) = true := (fge_iff _ _).2 ⟨s, k, hm.1, hk.1, g⟩
    rw [h] at this; cases this
  have hf : fin m s := nk_fin hm (by have := hk.2.2; omega)
  obtain ⟨i, j, e1, e2, e3, e4⟩ := flint_mono hf hk hm.2 (Int.le_of_lt hlt)
  rw [fl] at e2; cases e2
  exact ⟨i, e1, e3, e4, hf⟩
theorem iokOf {m : Fl} {i : Int} (h : flint m = some i) (h0 : 0 ≤ i) (h1 : i ≤ 1048576) : R.f2iok .i64 m = true ∧ R.f2i .i64 m = i := by
  constructor
  · show (match flint m with | some n => decide (IntKind.i64.min ≤ n ∧ n ≤ IntKind.i64.max) | none => false) = true
    rw [h]
    have a : IntKind.i64.min = -9223372036854775808 := by decide
    have b : IntKind.i64.max = 9223372036854775807 := by decide
    simp only [a, b, decide_eq_true_eq]
    omega
  · show (flint m).getD 0 = i
    rw [h]; rfl
theorem cleanVal (a : Fl) : ∃ q, fv (S17_0 R a) q ∧ 0 ≤ q ∧ q < 1 := by
  rw [← cleanE]
  unfold S26_0
  cases h1 : R.fge a (R.fc 0) with
  | false => exact ⟨0, fv_zero, by decide, by decide⟩
  | true =>
    cases h2 : R.flt a (R.fc 4607182418800017408) with
    | false => exact ⟨0, fv_zero, by decide, by decide⟩
    | true => exact unit_val h1 h2
theorem halfVal {h : Fl} (h1 : R.fge h (R.fc 4562146422526312448) = true) (h2 : R.fle h (R.fc 4620693217682128896) = true) : ∃ q, fv h q ∧ 1 / 1024 ≤ q ∧ q ≤ 8 := by
  have least : fv (R.fc 4562146422526312448) (1 / 1024) := fvc 1012 62 (1 / 1024) (by decide +kernel : f64.read 4562146422526312448 = .number false 4503599627370496 (-62)) (by decide) (by decide) (by decide +kernel)
  exact fv_between least fv_eight h1 h2
theorem finNum {a : Fl} {k : Int} (h : fin a k) : S29_0 R a = true := (rnum_iff a).2 ⟨k, h⟩
theorem distNn (d : Fl) : nn (R.fite (R.flt d (R.fc 0)) (R.fsub (R.fc 0) d) d) := by
  cases h : R.flt d (R.fc 0) with
  | true =>
    obtain ⟨a, b, e1, e2, e3⟩ := (flt_iff _ _).1 h
    have e2' : fkey (cls 0) = some b := e2
    rw [fkey_zero] at e2'; cases e2'
    intro k hk
    exact key_from_zero e1 e3 hk
  | false =>
    intro k hk
    refine Int.not_lt.1 fun g => ?_
    have : R.flt d (R.fc 0) = true := (flt_iff _ _).2 ⟨k, 0, hk, fkey_zero, g⟩
    rw [h] at this; cases this
theorem vnumFin {a : Fl} (h : S28_0 R a = true) : ∃ k, fin a k := (vnum_iff a).1 h
theorem vfinNum {a : Fl} {k : Int} (h : fin a k) : S28_0 R a = true := (vnum_iff a).2 ⟨k, h⟩
theorem eightVal (a : Fl) : ∃ w k, fv (R.fmul (S17_0 R a) (R.fc 4620693217682128896)) w ∧ flint (R.fmul (S17_0 R a) (R.fc 4620693217682128896)) = some k ∧ 0 ≤ k ∧ k ≤ 7 ∧ ((k : Int) : Rat) ≤ w ∧ w < ((k + 1 : Int) : Rat) := by
  obtain ⟨c, hc, c0, c1⟩ := cleanVal a
  obtain ⟨w, hw, rw'⟩ := mul_val hc fv_eight (by grind) (by grind)
  have h8 : repQ (c * 8) := by
    have a1 := repQ_twice (fv_rep hc) ⟨by grind, by grind⟩
    have a2 := repQ_twice a1 ⟨by grind, by grind⟩
    have a3 := repQ_twice a2 ⟨by grind, by grind⟩
    have e : 2 * (2 * (2 * c)) = c * 8 := by grind
    rw [e] at a3
    exact a3
  have ew := rw'.exact h8
  have f1 := Rat.floor_le w
  have f2 := Rat.lt_floor_add_one w
  have k0 : 0 ≤ w.floor := Rat.le_floor_iff.2 (by show (((0 : Int)) : Rat) ≤ w; rw [show ((0 : Int) : Rat) = 0 from rfl]; grind)
  have k7 : w.floor < 8 := Rat.floor_lt_iff.2 (by show w < ((8 : Int) : Rat); rw [show ((8 : Int) : Rat) = 8 from rfl]; grind)
  exact ⟨w, w.floor, hw, fv_trunc hw k0 f1 f2, k0, by omega, f1, f2⟩
theorem smallInt (j : Int) (h0 : 0 ≤ j) (h8 : j ≤ 8) : fv (R.i2f j) ((j : Int) : Rat) := by
  have : j = 0 ∨ j = 1 ∨ j = 2 ∨ j = 3 ∨ j = 4 ∨ j = 5 ∨ j = 6 ∨ j = 7 ∨ j = 8 := by omega
  have three : fv (R.fc 4613937818241073152) 3 := fvc 1023 51 3 (by decide +kernel : f64.read 4613937818241073152 = .number false 6755399441055744 (-51)) (by decide) (by decide) (by decide +kernel)
  have four : fv (R.fc 4616189618054758400) 4 := fvc 1024 50 4 (by decide +kernel : f64.read 4616189618054758400 = .number false 4503599627370496 (-50)) (by decide) (by decide) (by decide +kernel)
  have five : fv (R.fc 4617315517961601024) 5 := fvc 1024 50 5 (by decide +kernel : f64.read 4617315517961601024 = .number false 5629499534213120 (-50)) (by decide) (by decide) (by decide +kernel)
  have six : fv (R.fc 4618441417868443648) 6 := fvc 1024 50 6 (by decide +kernel : f64.read 4618441417868443648 = .number false 6755399441055744 (-50)) (by decide) (by decide) (by decide +kernel)
  have seven : fv (R.fc 4619567317775286272) 7 := fvc 1024 50 7 (by decide +kernel : f64.read 4619567317775286272 = .number false 7881299347898368 (-50)) (by decide) (by decide) (by decide +kernel)
  rcases this with rfl | rfl | rfl | rfl | rfl | rfl | rfl | rfl | rfl
  · exact (show R.i2f 0 = R.fc 0 by decide +kernel) ▸ fv_zero
  · exact (show R.i2f 1 = R.fc 4607182418800017408 by decide +kernel) ▸ fv_one
  · exact (show R.i2f 2 = R.fc 4611686018427387904 by decide +kernel) ▸ fv_two
  · exact (show R.i2f 3 = R.fc 4613937818241073152 by decide +kernel) ▸ three
  · exact (show R.i2f 4 = R.fc 4616189618054758400 by decide +kernel) ▸ four
  · exact (show R.i2f 5 = R.fc 4617315517961601024 by decide +kernel) ▸ five
  · exact (show R.i2f 6 = R.fc 4618441417868443648 by decide +kernel) ▸ six
  · exact (show R.i2f 7 = R.fc 4619567317775286272 by decide +kernel) ▸ seven
  · exact (show R.i2f 8 = R.fc 4620693217682128896 by decide +kernel) ▸ fv_eight
/-- What 1, and what is left, come to by the root: a direction of length 1, nearly. -/
theorem turnVal {F : Fl} {f : Rat} (hf : fv F f) (f0 : 0 ≤ f) (f1 : f ≤ 1) : ∃ q d c s, fv (R.fadd (R.fc 4607182418800017408) (R.fmul F F)) q ∧ fv (R.fsqrt (R.fadd (R.fc 4607182418800017408) (R.fmul F F))) d ∧
    fv (R.fdiv (R.fc 4607182418800017408) (R.fsqrt (R.fadd (R.fc 4607182418800017408) (R.fmul F F)))) c ∧ fv (R.fdiv F (R.fsqrt (R.fadd (R.fc 4607182418800017408) (R.fmul F F)))) s ∧
    1 ≤ q ∧ q ≤ 2 ∧ (1 + f * f - 1 / 281474976710656 ≤ q ∧ q ≤ 1 + f * f + 1 / 281474976710656) ∧ 1 ≤ d ∧ d ≤ 3 / 2 ∧ (1 - 1 / 281474976710656 ≤ c * d ∧ c * d ≤ 1 + 1 / 281474976710656) ∧ (f - 1 / 281474976710656 ≤ s * d ∧ s * d ≤ f + 1 / 281474976710656) ∧
    0 ≤ c ∧ c ≤ 1 ∧ 0 ≤ s ∧ s ≤ 1 ∧ 1 / 2 ≤ c ∧ (1 - 1 / 1099511627776 / 8 ≤ c * c + s * s ∧ c * c + s * s ≤ 1 + 1 / 1099511627776 / 8) := by
  obtain ⟨ff0, ff1⟩ := mul_abs (show -1 ≤ f by grind) f1 (show -1 ≤ f by grind) f1
  have ffn : 0 ≤ f * f := Rat.mul_nonneg f0 f0
  obtain ⟨p, hp, rp⟩ := mul_val hf hf (by grind) (by grind)
  have p0 : 0 ≤ p := rp.ge 0 (fv_rep fv_zero) ffn
  have p1 : p ≤ 1 := rp.le 1 (fv_rep fv_one) (by grind)
  have pn := rp.near4 (by grind) (by grind)
  obtain ⟨q, hq, rq⟩ := add_val fv_one hp (by grind) (by grind)
  have q1 : 1 ≤ q := rq.ge 1 (fv_rep fv_one) (by grind)
  have q2 : q ≤ 2 := rq.le 2 (fv_rep fv_two) (by grind)
  have qn := rq.near4 (by grind) (by grind)
  obtain ⟨d, hd, sd⟩ := sqrt_val hq (by grind) (by grind)
  have d1 : 1 ≤ d := sd.ge 1 (fv_rep fv_one) (by decide) (by grind)
  have threehalf : repQ (3 / 2) := fv_rep (fvc (b := 4609434218613702656) (e := -52) 1022 52 (3 / 2) (by decide +kernel : f64.read 4609434218613702656 = .number false 6755399441055744 (-52)) (by decide) (by decide) (by decide +kernel))
  have d2 : d ≤ 3 / 2 := sd.le (3 / 2) threehalf (by grind) (by grind)
  have dn := sd.near
  have e50 : pw 50 = 1125899906842624 := by unfold pw; rw [show (2 : Nat) ^ 50 = 1125899906842624 by decide]; rfl
  rw [e50] at dn
  have dpos : 0 < d := by grind
  have dne : d ≠ 0 := by grind
  have ec : 1 / d * d = 1 := Rat.div_mul_cancel dne
  have es : f / d * d = f := Rat.div_mul_cancel dne
  have c0' : 0 ≤ 1 / d := Rat.le_of_mul_le_mul_right (by rw [Rat.zero_mul, ec]; decide) dpos
  have c1' : 1 / d ≤ 1 := Rat.le_of_mul_le_mul_right (by rw [ec, Rat.one_mul]; exact d1) dpos
  have s0' : 0 ≤ f / d := Rat.le_of_mul_le_mul_right (by rw [Rat.zero_mul, es]; exact f0) dpos
  have s1' : f / d ≤ 1 := Rat.le_of_mul_le_mul_right (by rw [es, Rat.one_mul]; grind) dpos
  have chalf : 1 / 2 ≤ 1 / d := Rat.le_of_mul_le_mul_right (by rw [ec]; grind) dpos
  obtain ⟨c, hc, rc⟩ := div_val fv_one hd dne (by grind) (by grind)
  obtain ⟨s, hs, rs⟩ := div_val hf hd dne (by grind) (by grind)
  have c0 : 0 ≤ c := rc.ge 0 (fv_rep fv_zero) c0'
  have c1 : c ≤ 1 := rc.le 1 (fv_rep fv_one) c1'
  have s0 : 0 ≤ s := rs.ge 0 (fv_rep fv_zero) s0'
  have s1 : s ≤ 1 := rs.le 1 (fv_rep fv_one) s1'
  have ch : 1 / 2 ≤ c := rc.ge (1 / 2) (fv_rep fv_half) chalf
  have cn := rc.near4 (by grind) (by grind)
  have sn := rs.near4 (by grind) (by grind)
  have t1 := mul_abs (u := c - 1 / d) (a := 1 / 562949953421312) (v := d) (b := 3 / 2) (by grind) (by grind) (by grind) d2
  have t2 := mul_abs (u := s - f / d) (a := 1 / 562949953421312) (v := d) (b := 3 / 2) (by grind) (by grind) (by grind) d2
  have cd : 1 - 1 / 281474976710656 ≤ c * d ∧ c * d ≤ 1 + 1 / 281474976710656 := by constructor <;> grind
  have sdd : f - 1 / 281474976710656 ≤ s * d ∧ s * d ≤ f + 1 / 281474976710656 := by constructor <;> grind
  have k1 := sq_near (x := c * d) (y := 1) (e := 1 / 281474976710656) (by grind) (by grind) (by grind) (by grind) (by grind) (by grind)
  have k2 := sq_near (x := s * d) (y := f) (e := 1 / 281474976710656) (by grind) (by grind) (by grind) f1 (by grind) (by grind)
  refine ⟨q, d, c, s, hq, hd, hc, hs, q1, q2, ⟨by grind, by grind⟩, d1, d2, cd, sdd, c0, c1, s0, s1, ch, ?_⟩
  -- (c c + s s) d d is nearly 1 + f f, which is nearly d d
  have dd1 : 1 ≤ d * d := by
    have := Rat.mul_le_mul_of_nonneg_right d1 (Rat.le_of_lt dpos)
    grind
  have ddp : 0 < d * d := Rat.mul_pos dpos dpos
  have e1 : (c * c + s * s) * (d * d) = c * d * (c * d) + s * d * (s * d) := by grind
  constructor
  · refine Rat.le_of_mul_le_mul_right (c := d * d) ?_ ddp
    rw [e1]
    generalize c * d * (c * d) = u at *
    generalize s * d * (s * d) = v at *
    generalize d * d = z at *
    grind
  · refine Rat.le_of_mul_le_mul_right (c := d * d) ?_ ddp
    rw [e1]
    generalize c * d * (c * d) = u at *
    generalize s * d * (s * d) = v at *
    generalize d * d = z at *
    grind
theorem negVal {x : Fl} {p : Rat} (h : fv x p) (h1 : -1024 ≤ p) (h2 : p ≤ 1024) : fv (R.fsub (R.fc 0) x) (-p) := by
  obtain ⟨r, hr, rr⟩ := sub_val fv_zero h (by grind) (by grind)
  have : r = -p := by
    have := rr.exact (by rw [show (0 : Rat) - p = -p by grind]; exact repQ_neg (fv_rep h))
    grind
  rw [← this]
  exact hr
/-- The length of what is of length 1, nearly. -/
theorem lenVal {x y : Fl} {p q : Rat} (hx : fv x p) (hy : fv y q) (p0 : -1 ≤ p) (p1 : p ≤ 1) (q0 : -1 ≤ q) (q1 : q ≤ 1) : ∃ n, fv (R.fadd (R.fmul x x) (R.fmul y y)) n ∧ p * p + q * q - 1 / 1099511627776 / 64 ≤ n ∧ n ≤ p * p + q * q + 1 / 1099511627776 / 64 ∧ 0 ≤ n := by
  obtain ⟨a1, a2⟩ := mul_abs p0 p1 p0 p1
  obtain ⟨b1, b2⟩ := mul_abs q0 q1 q0 q1
  have pp0 : 0 ≤ p * p := by
    by_cases h : 0 ≤ p
    · exact Rat.mul_nonneg h h
    · have := Rat.mul_nonneg (a := -p) (b := -p) (by grind) (by grind)
      grind
  have qq0 : 0 ≤ q * q := by
    by_cases h : 0 ≤ q
    · exact Rat.mul_nonneg h h
    · have := Rat.mul_nonneg (a := -q) (b := -q) (by grind) (by grind)
      grind
  obtain ⟨u, hu, ru⟩ := mul_val hx hx (by grind) (by grind)
  obtain ⟨v, hv, rv⟩ := mul_val hy hy (by grind) (by grind)
  have un := ru.near4 (by grind) (by grind)
  have vn := rv.near4 (by grind) (by grind)
  have u0 : 0 ≤ u := ru.ge 0 (fv_rep fv_zero) pp0
  have v0 : 0 ≤ v := rv.ge 0 (fv_rep fv_zero) qq0
  have u1 : u ≤ 1 := ru.le 1 (fv_rep fv_one) (by grind)
  have v1 : v ≤ 1 := rv.le 1 (fv_rep fv_one) (by grind)
  obtain ⟨n, hn, rn⟩ := add_val hu hv (by grind) (by grind)
  have nn' := rn.near4 (by grind) (by grind)
  exact ⟨n, hn, by grind, by grind, rn.ge 0 (fv_rep fv_zero) (by grind)⟩
/-- What is left of a draw's height, by what it is worth. -/
theorem heightVal (a : Fl) : ∃ c z, fv (S17_0 R a) c ∧ fv (R.fsqrt (R.fsub (R.fc 4607182418800017408) (S17_0 R a))) z ∧ 0 ≤ c ∧ c < 1 ∧ 0 ≤ z ∧ z ≤ 1 ∧ (1 - c - 1 / 281474976710656 ≤ z * z ∧ z * z ≤ 1 - c + 1 / 281474976710656) := by
  obtain ⟨c, hc, c0, c1⟩ := cleanVal a
  obtain ⟨v, hv, rv⟩ := sub_val fv_one hc (by grind) (by grind)
  have v0 : 0 ≤ v := rv.ge 0 (fv_rep fv_zero) (by grind)
  have v1 : v ≤ 1 := rv.le 1 (fv_rep fv_one) (by grind)
  have vn := rv.near4 (by grind) (by grind)
  obtain ⟨z, hz, sz⟩ := sqrt_val hv v0 (by grind)
  have z1 : z ≤ 1 := sz.le 1 (fv_rep fv_one) (by decide) (by grind)
  have zn := sz.near
  have e50 : pw 50 = 1125899906842624 := by unfold pw; rw [show (2 : Nat) ^ 50 = 1125899906842624 by decide]; rfl
  rw [e50] at zn
  exact ⟨c, z, hc, hz, c0, c1, sz.nonneg, z1, by grind, by grind⟩
/-- The length of three parts. -/
theorem dotVal {x y z : Fl} {p q s : Rat} (hx : fv x p) (hy : fv y q) (hz : fv z s) (p0 : -1 ≤ p) (p1 : p ≤ 1) (q0 : -1 ≤ q) (q1 : q ≤ 1) (s0 : -1 ≤ s) (s1 : s ≤ 1) :
    ∃ n, fv (R.fadd (R.fadd (R.fmul x x) (R.fmul y y)) (R.fmul z z)) n ∧ p * p + q * q + s * s - 1 / 1099511627776 / 16 ≤ n ∧ n ≤ p * p + q * q + s * s + 1 / 1099511627776 / 16 := by
  obtain ⟨m, hm, ma, mb, m0⟩ := lenVal hx hy p0 p1 q0 q1
  obtain ⟨a1, a2⟩ := mul_abs p0 p1 p0 p1
  obtain ⟨b1, b2⟩ := mul_abs q0 q1 q0 q1
  obtain ⟨c1, c2⟩ := mul_abs s0 s1 s0 s1
  obtain ⟨v, hv, rv⟩ := mul_val hz hz (by grind) (by grind)
  have vn := rv.near4 (by grind) (by grind)
  obtain ⟨n, hn, rn⟩ := add_val hm hv (by grind) (by grind)
  have nn' := rn.near4 (by grind) (by grind)
  exact ⟨n, hn, by grind, by grind⟩
/-- A quotient of the lesser by the greater is not above that of the greater. -/
theorem div_le {x u y : Fl} {p q d s c : Rat} (hx : fv x p) (hu : fv u q) (hy : fv y d) (p0 : 0 ≤ p) (pq : p ≤ q) (d0 : 0 < d) (hs : fv (R.fdiv x y) s) (hc : fv (R.fdiv u y) c) : s ≤ c := by
  have key : ∀ {x : Fl} {p : Rat}, fv x p → 0 ≤ p → ∃ k, nk x k ∧ p * pw 1074 = (k : Rat) := by
    rintro x p ⟨k, hk, e⟩ h0
    refine ⟨k, ⟨hk.1, ?_⟩, e⟩
    have := Rat.mul_nonneg h0 (Rat.le_of_lt (pw_pos 1074))
    rw [e] at this
    exact Rat.intCast_nonneg.1 this
  obtain ⟨i, ni, ei⟩ := key hx p0
  obtain ⟨j, nj, ej⟩ := key hu (Rat.le_trans p0 pq)
  obtain ⟨k, hk, ek⟩ := id hy
  have hk0 : 0 < k := by
    have := Rat.mul_pos d0 (pw_pos 1074)
    rw [ek] at this
    exact Rat.intCast_pos.1 this
  have hij : i ≤ j := by
    have := Rat.mul_le_mul_of_nonneg_right pq (Rat.le_of_lt (pw_pos 1074))
    rw [ei, ej] at this
    exact Rat.intCast_le_intCast.1 this
  obtain ⟨m, n, hm, hn, hmn⟩ := div_mono ni nj hk hk0 hij
  obtain ⟨a, ha, ea⟩ := hs
  obtain ⟨b, hb, eb⟩ := hc
  have e1 : a = m := Option.some.inj (ha.1.symm.trans hm.1)
  have e2 : b = n := Option.some.inj (hb.1.symm.trans hn.1)
  subst e1 e2
  have := Rat.intCast_le_intCast.2 hmn
  rw [← ea, ← eb] at this
  exact Rat.le_of_mul_le_mul_right this (pw_pos 1074)
/-- A density by how far a direction is, by what it is worth. -/
theorem densVal {G : Fl} {g : Rat} (hg : fv G g) (g0 : 0 ≤ g) (g1 : g ≤ 1) : ∃ p, fv (R.fmul (R.fadd (R.fc 4607182418800017408) (R.fmul G G)) (R.fc 4593671619917905920)) p ∧ 1 / 8 ≤ p ∧ p ≤ 1 / 4 ∧
    (1 + g * g - 1 / 35184372088832 ≤ p * 8 ∧ p * 8 ≤ 1 + g * g + 1 / 35184372088832) := by
  obtain ⟨a1, a2⟩ := mul_abs (show -1 ≤ g by grind) g1 (show -1 ≤ g by grind) g1
  have gg0 : 0 ≤ g * g := Rat.mul_nonneg g0 g0
  obtain ⟨u, hu, ru⟩ := mul_val hg hg (by grind) (by grind)
  have u0 : 0 ≤ u := ru.ge 0 (fv_rep fv_zero) gg0
  have u1 : u ≤ 1 := ru.le 1 (fv_rep fv_one) (by grind)
  have un := ru.near4 (by grind) (by grind)
  obtain ⟨q, hq, rq⟩ := add_val fv_one hu (by grind) (by grind)
  have q1 : 1 ≤ q := rq.ge 1 (fv_rep fv_one) (by grind)
  have q2 : q ≤ 2 := rq.le 2 (fv_rep fv_two) (by grind)
  have qn := rq.near4 (by grind) (by grind)
  obtain ⟨p, hp, rp⟩ := mul_val hq fv_eighth (by grind) (by grind)
  have pn := rp.near4 (by grind) (by grind)
  exact ⟨p, hp, rp.ge (1 / 8) (fv_rep fv_eighth) (by grind), rp.le (1 / 4) (fv_rep fv_quarter) (by grind), by grind, by grind⟩
end Go.Proofs.Ytmlkkfijlgkmfaa
