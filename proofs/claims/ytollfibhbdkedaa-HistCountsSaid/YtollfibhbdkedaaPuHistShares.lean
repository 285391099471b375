/- The law of shares. -/
import Derived.Test.YtollfibhbdkedaaAw
import Derived.Test.YtollfibhbdkedaaEv5
namespace Go.Proofs.Ytollfibhbdkedaa
open Go.Ev

set_option maxRecDepth 20000

/-- Out of its numbers the row again. -/
theorem retab {x : Row} (h : okAr 256 .i64 x) : ((List.range 256).map fun i => [CV.z (R.lz x (R.zc (Int.ofNat i)) 0)] : Row) = x := by
  apply List.ext_getElem?
  intro i
  rw [List.getElem?_map]
  by_cases hi : i < 256
  · obtain ⟨v, hg, _, hz⟩ := okAr_get h hi
    rw [List.getElem?_range hi, hg]
    show some [CV.z (R.lz x (i : Int) 0)] = _
    rw [hz]
  · rw [List.getElem?_eq_none (by rw [List.length_range]; omega), List.getElem?_eq_none (by rw [h.1]; omega)]; rfl

theorem row3 {x : Row} (h : okAr 256 .i64 x) : WS3_0_0 R x = x := by
  have e : WS3_0_0 R x = ((List.range 256).map fun i => [CV.z (R.lz x (R.zc (Int.ofNat i)) 0)] : Row) := by kernel_rfl
  rw [e, retab h]

/-- What has nothing before it, and what nothing behind it. -/
theorem bel_none {h : Row} {t : Nat} (g : ∀ j, j < t → at_ h j ≤ 0) : ∀ m, m ≤ t → bel h m = 0
  | 0, _ => rfl
  | m + 1, hm => by
    have h1 := bel_none g m (by omega)
    have h2 := g m (by omega)
    have h3 : cap (at_ h m) = 0 := by unfold cap; rw [if_pos h2]
    simp only [bel, h1, h3]; rfl

theorem bel_rest {h : Row} {t : Nat} (ht : t ≤ 256) (g : ∀ j, j < t → at_ h (255 - j) ≤ 0) : ∀ m, m ≤ t → bel h (256 - m) = bel h 256
  | 0, _ => rfl
  | m + 1, hm => by
    have h1 := bel_rest ht g m (by omega)
    have h2 := g m (by omega)
    have h3 : cap (at_ h (255 - m)) = 0 := by unfold cap; rw [if_pos h2]
    have e : 256 - m = (255 - m) + 1 := by omega
    rw [e] at h1
    have e2 : 256 - (m + 1) = 255 - m := by omega
    rw [e2, ← h1]
    show _ = bel h (255 - m) + cap (at_ h (255 - m))
    rw [h3, Int.add_zero]

theorem mulB {x y : Int} (h1 : 0 ≤ x ∧ x ≤ 274877906944) (h2 : 0 ≤ y ∧ y ≤ 1048576) : R.zmul .i64 x y = x * y ∧ 0 ≤ x * y := by
  have a := Int.mul_nonneg h1.1 h2.1
  have b : x * y ≤ 274877906944 * 1048576 := Int.mul_le_mul h1.2 h2.2 h2.1 (by decide)
  exact ⟨zmul64 (x := x) (y := y) ⟨by omega, by omega⟩, a⟩

theorem shares_core (x0 : Row) (x1 : Int) (x2 : Int) (x3 : Int) (_k0 : okAr 256 .i64 x0) (_k1 : okInt .i64 x1) (_k2 : okInt .i64 x2) (_k3 : okInt .i64 x3) (ow : O11 R = true) (sw : S11_0 R = true) : O3 R x0 x1 x2 x3 = true ∧ S3_0 R x0 x1 x2 x3 = true := by
  have r0 := row3 _k0
  have r0' : WO3_1 R x0 = x0 := r0
  obtain ⟨a3, b3⟩ := all3 x0
  obtain ⟨a10, b10⟩ := all10 x0
  have hA := bel_b x0 256
  obtain ⟨a4, b4⟩ := bel4 x0 (cl_le x3)
  obtain ⟨a11, b11⟩ := bel11 x0 x3
  -- the page's names
  have w1 : WS3_0_1 R x0 x3 = [.z (bel x0 (cl x3)), .z (cl x3 : Int)] := by unfold WS3_0_1; rw [clE, r0]; exact b4
  have w2 : WS3_0_2 R x0 x3 = [.z (bel x0 (cl x3)), .z (cl x3 : Int)] := by unfold WS3_0_2; rw [r0]; exact b11
  have w3 : WS3_0_3 R x0 = [.z (bel x0 256), .z (256 : Int)] := by unfold WS3_0_3; rw [r0]; exact b3
  have w4 : WS3_0_4 R x0 = [.z (bel x0 256), .z (256 : Int)] := by unfold WS3_0_4; rw [r0]; exact b10
  have n3 : nthZ (D := R) [.z (bel x0 256), .z (256 : Int)] 0 = bel x0 256 := rfl
  have eb : R.zeq (bel x0 (cl x3)) (bel x0 (cl x3)) = true := zeqT rfl
  have ea : R.zeq (bel x0 256) (bel x0 256) = true := zeqT rfl
  have nb : nthZ (D := R) [.z (bel x0 (cl x3)), .z (cl x3 : Int)] 0 = bel x0 (cl x3) := rfl
  obtain ⟨t6, s6, g6, e6, a6, b6⟩ := first6 x0
  obtain ⟨t7, s7, g7, e7, a7, b7⟩ := first7 x0
  obtain ⟨t9, s9, g9, e9, a9, b9⟩ := first9 x0 x2 x1 (bel x0 256)
  have w6 : WS3_0_6 R x0 = [.z (R.zc 0), .z (t6 : Int)] := by unfold WS3_0_6; rw [r0]; exact b6
  have w8 : WS3_0_8 R x0 = [.z (R.zc 0), .z (t7 : Int)] := by unfold WS3_0_8; rw [r0]; exact b7
  have w13 : WS3_0_13 R x0 x1 x2 = [.z (R.zc 0), .z (t9 : Int)] := by unfold WS3_0_13; rw [r0, w3]; exact b9
  have n6 : nthZ (D := R) [.z (R.zc 0), .z (t6 : Int)] 1 = (t6 : Int) := rfl
  have n7 : nthZ (D := R) [.z (R.zc 0), .z (t7 : Int)] 1 = (t7 : Int) := rfl
  have n9 : nthZ (D := R) [.z (R.zc 0), .z (t9 : Int)] 1 = (t9 : Int) := rfl
  -- the code's names are the same
  have o0 : WO3_0 R x1 x2 = WS3_0_12 R x1 x2 := rfl
  have o2 : WO3_2 R x0 = true := by unfold WO3_2; rw [r0']; exact a3
  have o3 : WO3_3 R x0 = [.z (bel x0 256), .z (256 : Int)] := w3
  have o4 : WO3_4 R x0 x1 x2 = true := by unfold WO3_4; rw [r0', o3]; exact a9
  have o5 : WO3_5 R x0 = true := by unfold WO3_5; rw [r0']; exact a10
  have o6 : WO3_6 R x0 = true := by unfold WO3_6; rw [r0']; exact a6
  have o7 : WO3_7 R x0 = true := by unfold WO3_7; rw [r0']; exact a7
  have o8 : WO3_8 R x0 x3 = true := by unfold WO3_8; rw [clE, r0']; exact a4
  have o9 : WO3_9 R x0 x3 = true := by unfold WO3_9; rw [r0']; exact a11
  have o10 : WO3_10 R x0 x3 = [.z (bel x0 (cl x3)), .z (cl x3 : Int)] := w1
  have o11 : WO3_11 R x0 x3 = [.z (bel x0 (cl x3)), .z (cl x3 : Int)] := w2
  have o12 : WO3_12 R x0 = [.z (bel x0 256), .z (256 : Int)] := w4
  have o23 : WO3_23 R x0 = true := by unfold WO3_23; rw [r0']; exact (bel11 x0 _).1
  have o20 : WO3_20 R x0 = true := by unfold WO3_20; rw [r0']; exact (bel11 x0 _).1
  have o29 : WO3_29 R x0 x1 x2 = true := by unfold WO3_29; rw [r0']; exact (bel11 x0 _).1
  have o31 : WO3_31 R x0 x1 x2 = true := by unfold WO3_31; rw [r0']; exact (bel11 x0 _).1
  generalize hAA : bel x0 256 = A at *
  by_cases hz : A = 0
  · -- nothing at all
    have z0 : R.zeq A (R.zc 0) = true := zeqT hz
    have z1 : R.zlt (R.zc 0) A = false := zltF (show ¬ (0 : Int) < A by omega)
    have w5 : WS3_0_5 R x0 = false := by unfold WS3_0_5; rw [w3, n3, z0]; rfl
    have w7 : WS3_0_7 R x0 = 0 := by unfold WS3_0_7; rw [w3, n3, z0]; rfl
    have w9 : WS3_0_9 R x0 = 0 := by unfold WS3_0_9; rw [w3, n3, z0]; rfl
    have o13 : WO3_13 R x0 = false := w5
    have o15 : WO3_15 R x0 = 0 := w7
    have o18 : WO3_18 R x0 = 0 := w9
    cases hb : WS3_0_12 R x1 x2 with
    | true =>
      have w14 : WS3_0_14 R x0 x1 x2 = 0 := by unfold WS3_0_14; rw [hb]; rfl
      have w16 : WS3_0_16 R x0 x1 x2 = 3 := by unfold WS3_0_16; rw [hb]; rfl
      have w15 : WS3_0_15 R x0 x1 x2 = true := by unfold WS3_0_15; rw [sw, w14]; rfl
      constructor
      · unfold O3 WO3_32
        rw [o0, hb, o2, o3, n3, z0, o5, o8, o9, o10, o11, nb, eb, o12, n3, ea, o13, z1, o15, o18, ow]
        rfl
      · unfold S3_0
        rw [w1, w2, nb, eb, w3, w4, n3, ea, w5, z1, w7, w9, hb, w15, w16]
        rfl
    | false =>
      have w14 : WS3_0_14 R x0 x1 x2 = 0 := by unfold WS3_0_14; rw [hb, w3, n3, z0]; rfl
      have w16 : WS3_0_16 R x0 x1 x2 = 8 := by unfold WS3_0_16; rw [hb, w3, n3, z0]; rfl
      have w15 : WS3_0_15 R x0 x1 x2 = true := by unfold WS3_0_15; rw [sw, w14]; rfl
      constructor
      · unfold O3 WO3_32
        rw [o0, hb, o2, o3, n3, z0, o5, o8, o9, o10, o11, nb, eb, o12, n3, ea, o13, z1, o15, o18, z0, ow]
        rfl
      · unfold S3_0
        rw [w1, w2, nb, eb, w3, w4, n3, ea, w5, z1, w7, w9, hb, z0, w15, w16]
        rfl
  · have hpos : 0 < A := by omega
    have z0 : R.zeq A (R.zc 0) = false := zeqF hz
    have z1 : R.zlt (R.zc 0) A = true := zltT hpos
    have f6 : t6 < 256 ∧ 0 < at_ x0 t6 := by
      rcases e6 with e | e
      · exfalso
        have := bel_none g6 256 (by omega)
        omega
      · exact e
    have f7 : t7 < 256 ∧ 0 < at_ x0 (255 - t7) := by
      rcases e7 with e | e
      · exfalso
        have q := bel_rest s7 g7 256 (by omega)
        rw [Nat.sub_self, hAA, show bel x0 0 = 0 from rfl] at q
        omega
      · exact e
    have l6 : R.zlt (t6 : Int) (R.zc 256) = true := zltT (show (t6 : Int) < 256 by omega)
    have l7 : R.zlt (t7 : Int) (R.zc 256) = true := zltT (show (t7 : Int) < 256 by omega)
    have w5 : WS3_0_5 R x0 = true := by unfold WS3_0_5; rw [w3, n3, z0]; rfl
    have w7 : WS3_0_7 R x0 = (t6 : Int) := by unfold WS3_0_7; rw [w3, n3, z0, w6, n6, l6]; rfl
    have w9 : WS3_0_9 R x0 = ((255 - t7 : Nat) : Int) := by unfold WS3_0_9; rw [w3, n3, z0, w8, n7, l7]; exact sub255 (by omega)
    have c6 : R.zle (at_ x0 t6) (R.zc 0) = false := zleF (show ¬ at_ x0 t6 ≤ 0 by omega)
    have c7 : R.zle (at_ x0 (255 - t7)) (R.zc 0) = false := zleF (show ¬ at_ x0 (255 - t7) ≤ 0 by omega)
    have q6 : R.lz x0 (t6 : Int) 0 = at_ x0 t6 := rfl
    have q7 : R.lz x0 ((255 - t7 : Nat) : Int) 0 = at_ x0 (255 - t7) := rfl
    have y6 : bel x0 (cl (t6 : Int)) = 0 := by rw [cl_nat (by omega)]; exact bel_none g6 t6 (Nat.le_refl _)
    have w10 : WS3_0_10 R x0 = [.z 0, .z (cl (t6 : Int) : Int)] := by unfold WS3_0_10; rw [w7, r0, (bel11 x0 _).2, y6]
    have s7' : R.zadd .i64 ((255 - t7 : Nat) : Int) (R.zc 1) = ((256 - t7 : Nat) : Int) := by rw [suc (by omega), show 255 - t7 + 1 = 256 - t7 by omega]
    have y7 : bel x0 (cl ((256 - t7 : Nat) : Int)) = A := by rw [cl_nat (by omega), bel_rest s7 g7 t7 (Nat.le_refl _), hAA]
    have w11 : WS3_0_11 R x0 = [.z A, .z (cl ((256 - t7 : Nat) : Int) : Int)] := by unfold WS3_0_11; rw [w9, s7', r0, (bel11 x0 _).2, y7]
    have n10 : nthZ (D := R) [.z 0, .z (cl (t6 : Int) : Int)] 0 = 0 := rfl
    have n11 : nthZ (D := R) [.z A, .z (cl ((256 - t7 : Nat) : Int) : Int)] 0 = A := rfl
    have o13 : WO3_13 R x0 = true := w5
    have o15 : WO3_15 R x0 = (t6 : Int) := w7
    have o18 : WO3_18 R x0 = ((255 - t7 : Nat) : Int) := w9
    have o16 : WO3_16 R x0 = false := by unfold WO3_16; rw [r0', o15, q6, c6]
    have o19 : WO3_19 R x0 = false := by unfold WO3_19; rw [r0', o18, q7, c7]
    have o21 : WO3_21 R x0 = [.z 0, .z (cl (t6 : Int) : Int)] := w10
    have o24 : WO3_24 R x0 = [.z A, .z (cl ((256 - t7 : Nat) : Int) : Int)] := w11
    have ez : R.zeq 0 (R.zc 0) = true := rfl
    have o22 : WO3_22 R x0 = false := by unfold WO3_22; rw [o21, n10, ez]; rfl
    have i6 : R.zle (R.zc 0) (t6 : Int) = true := zleT (show (0 : Int) ≤ t6 by omega)
    have i7 : R.zle (R.zc 0) ((255 - t7 : Nat) : Int) = true := zleT (show (0 : Int) ≤ ((255 - t7 : Nat) : Int) by omega)
    have i7' : R.zlt ((255 - t7 : Nat) : Int) (R.zc 256) = true := zltT (show ((255 - t7 : Nat) : Int) < 256 by omega)
    cases hb : WS3_0_12 R x1 x2 with
    | true =>
      have w14 : WS3_0_14 R x0 x1 x2 = 0 := by unfold WS3_0_14; rw [hb]; rfl
      have w16 : WS3_0_16 R x0 x1 x2 = 3 := by unfold WS3_0_16; rw [hb]; rfl
      have w15 : WS3_0_15 R x0 x1 x2 = true := by unfold WS3_0_15; rw [sw, w14]; rfl
      constructor
      · unfold O3 WO3_32
        rw [o0, hb, o2, o3, n3, z0, o5, o6, o7, o8, o9, o10, o11, nb, eb, o12, n3, ea, o13, z1, o15, o18, i6, l6, i7, i7', o16, o19, o20, o22, o23, o24, n11, ea, ow]
        rfl
      · unfold S3_0
        rw [w1, w2, nb, eb, w3, w4, n3, ea, w5, z1, r0, w7, w9, q6, q7, c6, c7, w10, n10, ez, w11, n11, ea, hb, w15, w16]
        rfl
    | false =>
      have hden : 1 ≤ x2 ∧ x2 ≤ 1048576 ∧ 0 ≤ x1 ∧ x1 ≤ x2 := by
        have hb' : (if (if (if decide (x2 < 1) = true then true else decide ((1048576 : Int) < x2)) = true then true else decide (x1 < 0)) = true then true else decide (x2 < x1)) = false := hb
        grind
      have mA := mulB (x := A) (y := x1) ⟨by omega, by omega⟩ ⟨by omega, by omega⟩
      have mA' : R.zmul .i64 x1 A = x1 * A := by
        have := zmul64 (x := x1) (y := A) (by rw [Int.mul_comm]; have := mA.2; have b : A * x1 ≤ 274877906944 * 1048576 := Int.mul_le_mul (by omega) (by omega) (by omega) (by decide); omega)
        exact this
      have mb : ∀ m, m ≤ 256 → R.zmul .i64 (bel x0 m) x2 = bel x0 m * x2 := fun m hm => by
        have := bel_b x0 m
        exact (mulB (x := bel x0 m) (y := x2) ⟨by omega, by omega⟩ ⟨by omega, by omega⟩).1
      have f9 : t9 < 256 ∧ R.zle (R.zmul .i64 x1 A) (R.zmul .i64 (bel x0 (t9 + 1)) x2) = true := by
        rcases e9 with e | e
        · exfalso
          have h255 := g9 255 (by omega)
          rw [mA', mb 256 (by omega), hAA] at h255
          have : x1 * A ≤ A * x2 := by rw [Int.mul_comm x1 A]; exact Int.mul_le_mul_of_nonneg_left hden.2.2.2 (by omega)
          rw [zleT this] at h255; cases h255
        · exact e
      have l9 : R.zlt (t9 : Int) (R.zc 256) = true := zltT (show (t9 : Int) < 256 by omega)
      have w14 : WS3_0_14 R x0 x1 x2 = (t9 : Int) := by unfold WS3_0_14; rw [hb, w3, n3, z0, w13, n9, l9]; rfl
      have w16 : WS3_0_16 R x0 x1 x2 = 0 := by unfold WS3_0_16; rw [hb, w3, n3, z0]; rfl
      have w17 : WS3_0_17 R x0 x1 x2 = [.z (bel x0 (t9 + 1)), .z ((t9 + 1 : Nat) : Int)] := by
        unfold WS3_0_17; rw [w14, suc (by omega), r0, (bel11 x0 _).2, cl_nat (by omega)]
      have w18 : WS3_0_18 R x0 x1 x2 = [.z (bel x0 t9), .z (t9 : Int)] := by
        unfold WS3_0_18; rw [w14, r0, (bel11 x0 _).2, cl_nat (by omega)]
      have n17 : nthZ (D := R) [.z (bel x0 (t9 + 1)), .z ((t9 + 1 : Nat) : Int)] 0 = bel x0 (t9 + 1) := rfl
      have n18 : nthZ (D := R) [.z (bel x0 t9), .z (t9 : Int)] 0 = bel x0 t9 := rfl
      have last : R.bite (R.zeq (t9 : Int) (R.zc 0)) (R.bc true) (R.zlt (R.zmul .i64 (bel x0 t9) x2) (R.zmul .i64 x1 A)) = true := by
        by_cases e : t9 = 0
        · rw [zeqT (show (t9 : Int) = R.zc 0 from show (t9 : Int) = 0 by omega)]; rfl
        · rw [zeqF (show (t9 : Int) ≠ R.zc 0 from show (t9 : Int) ≠ 0 by omega)]
          have hp := g9 (t9 - 1) (by omega)
          rw [show t9 - 1 + 1 = t9 by omega, mA', mb t9 (by omega)] at hp
          have hp' : ¬ x1 * A ≤ bel x0 t9 * x2 := of_decide_eq_false hp
          rw [mA', mb t9 (by omega), zltT (by omega)]; rfl
      have o25 : WO3_25 R x0 x1 x2 = true := by unfold WO3_25; rw [sw, o0, hb, o3, n3, z0]; rfl
      have o27 : WO3_27 R x0 x1 x2 = (t9 : Int) := w14
      have o30 : WO3_30 R x0 x1 x2 = [.z (bel x0 (t9 + 1)), .z ((t9 + 1 : Nat) : Int)] := w17
      constructor
      · unfold O3 WO3_32
        rw [o0, hb, o2, o3, n3, z0, o4, o5, o6, o7, o8, o9, o10, o11, nb, eb, o12, n3, ea, o13, z1, o15, o18, i6, l6, i7, i7', o16, o19, o20, o22, o23, o24, n11, ea, z0, ow, o25, o29, o30, n17, f9.2, o27, o31]
        cases R.zeq (t9 : Int) (R.zc 0) <;> rfl
      · unfold S3_0
        rw [w1, w2, nb, eb, w3, w4, n3, ea, w5, z1, r0, w7, w9, q6, q7, c6, c7, w10, n10, ez, w11, n11, ea, hb, z0, sw, w16, w17, n17, f9.2, w14, w18, n18, last]
        rfl

theorem law_HistShares (x0 : Row) (x1 : Int) (x2 : Int) (x3 : Int) (_k0 : okAr 256 .i64 x0) (_k1 : okInt .i64 x1) (_k2 : okInt .i64 x2) (_k3 : okInt .i64 x3) : O3 R x0 x1 x2 x3 = true ∧ S3_0 R x0 x1 x2 x3 = true :=
  shares_core x0 x1 x2 x3 _k0 _k1 _k2 _k3 aw_O11 aw_S11_0

end Go.Proofs.Ytollfibhbdkedaa
