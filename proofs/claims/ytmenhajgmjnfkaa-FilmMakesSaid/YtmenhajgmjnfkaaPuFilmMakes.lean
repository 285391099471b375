/- The law FilmMakes over floats and numbers alone. -/
import Derived.Test.YtmenhajgmjnfkaaAw
namespace Go.Proofs.Ytmenhajgmjnfkaa
open Go.Ev

theorem zmul_b {a b : Int} (h : 0 ≤ a ∧ a ≤ 8192 ∧ 0 ≤ b ∧ b ≤ 8192) : 0 ≤ a * b ∧ a * b ≤ 67108864 := by
  obtain ⟨h1, h2, h3, h4⟩ := h
  refine ⟨Int.mul_nonneg h1 h3, ?_⟩
  calc a * b ≤ 8192 * 8192 := Int.mul_le_mul h2 h4 h3 (by decide)
    _ = 67108864 := by decide

theorem room {l : Row} (h : l.length ≤ 1073741824) : R.zle (R.llen l) (R.zc 1073741824) = true := by
  show decide ((l.length : Int) ≤ 1073741824) = true
  exact decide_eq_true (by omega)

/-- A row of nothing but zeroes. -/
theorem zeros (n : Int) (i : Nat) (hi : (i : Int) < n) : (R.lrep n [.f (R.fc 0), .f (R.fc 0), .f (R.fc 0), .z (R.zc 0), .z (R.zc 0)])[i]? = some [.f (cls 0), .f (cls 0), .f (cls 0), .z 0, .z 0] := by
  show (List.replicate n.toNat _)[i]? = _
  rw [List.getElem?_replicate, if_pos (by omega)]

theorem law_FilmMakes (x0 : Int) (x1 : Int) (_k0 : okInt .i64 x0) (_k1 : okInt .i64 x1) : O3 R x0 x1 = true ∧ S3_0 R x0 x1 = true := by
  have ow := aw_O7
  have sw := aw_S7_0
  by_cases h : x0 < 1 ∨ x1 < 1 ∨ 8192 < x0 ∨ 8192 < x1
  · have e0 : WS3_0_0 R x0 x1 = true := by
      show (if decide ((if x1 < x0 then x1 else x0) < 1) = true then true else decide (8192 < if x1 > x0 then x1 else x0)) = true
      simp only [decide_eq_true_eq, Bool.if_true_left, Bool.or_eq_true]
      split <;> split <;> omega
    have e1 : WS3_0_1 R x0 x1 = true := by
      show (if (if (if decide (x0 < 1) = true then true else decide (x1 < 1)) = true then true else decide (8192 < x0)) = true then true else decide (8192 < x1)) = true
      simp only [decide_eq_true_eq, Bool.if_true_left, Bool.or_eq_true]
      omega
    have e2 : WO3_0 R x0 x1 = true := e1
    constructor
    · unfold O3 WO3_1 WO3_2
      have e0' : R.bite (R.zlt (R.zmin x0 x1) (R.zc 1)) (R.bc true) (R.zlt (R.zc 8192) (R.zmax x0 x1)) = true := e0
      rw [e0', e2, ow]
      rfl
    · unfold S3_0 WS3_0_2 WS3_0_3
      rw [e0, e1, sw]
      rfl
  · have hb := zmul_b (a := x0) (b := x1) ⟨by omega, by omega, by omega, by omega⟩
    have em : R.zmul .i64 x0 x1 = x0 * x1 := zmul64 ⟨by omega, by omega⟩
    have e0 : WS3_0_0 R x0 x1 = false := by
      show (if decide ((if x1 < x0 then x1 else x0) < 1) = true then true else decide (8192 < if x1 > x0 then x1 else x0)) = false
      grind
    have e1 : WS3_0_1 R x0 x1 = false := by
      show (if (if (if decide (x0 < 1) = true then true else decide (x1 < 1)) = true then true else decide (8192 < x0)) = true then true else decide (8192 < x1)) = false
      grind
    have e2 : WO3_0 R x0 x1 = false := e1
    have e0' : R.bite (R.zlt (R.zmin x0 x1) (R.zc 1)) (R.bc true) (R.zlt (R.zc 8192) (R.zmax x0 x1)) = false := e0
    by_cases hm : 65536 < x0 * x1
    · have e3 : R.zlt (R.zc 65536) (x0 * x1) = true := decide_eq_true hm
      have e4 : R.zle (R.zc 0) (x0 * x1) = true := decide_eq_true hb.1
      have e5 : R.zle (x0 * x1) (R.zc 1073741824) = true := decide_eq_true (by show x0 * x1 ≤ 1073741824; omega)
      constructor
      · unfold O3 WO3_1 WO3_2
        rw [e0', e2, ow, em, e3]
        rfl
      · unfold S3_0 WS3_0_2 WS3_0_3
        rw [e0, e1, sw, em, e3]
        rfl
    · have e3 : R.zlt (R.zc 65536) (x0 * x1) = false := decide_eq_false hm
      have e4 : R.zle (R.zc 0) (x0 * x1) = true := decide_eq_true hb.1
      have e5 : R.zle (x0 * x1) (R.zc 1073741824) = true := decide_eq_true (by show x0 * x1 ≤ 1073741824; omega)
      have p1 : 1 ≤ x0 * x1 := by
        have := Int.mul_le_mul (show (1 : Int) ≤ x0 by omega) (show (1 : Int) ≤ x1 by omega) (by decide) (by omega)
        omega
      have px : x0 ≤ x0 * x1 := by
        have := Int.mul_le_mul_of_nonneg_left (show (1 : Int) ≤ x1 by omega) (show 0 ≤ x0 by omega)
        omega
      have z0 : R.zmul .i64 (R.zc 0) x0 = 0 := (zmul64 (x := 0) (y := x0) ⟨by omega, by omega⟩).trans (Int.zero_mul _)
      have z1 : R.zmul .i64 (R.zc 1) x0 = x0 := (zmul64 (x := 1) (y := x0) ⟨by omega, by omega⟩).trans (Int.one_mul _)
      have z3 : R.zmul .i64 (R.zc 3) x0 = 3 * x0 := zmul64 (x := 3) (y := x0) ⟨by omega, by omega⟩
      have w6 : WS3_0_6 R x0 = 0 := by unfold WS3_0_6; rw [z0]; rfl
      have w10 : WS3_0_10 R x0 = x0 := by
        unfold WS3_0_10; rw [z0, z1]; exact (zsub64 (x := x0) (y := 0) ⟨by omega, by omega⟩).trans (Int.sub_zero _)
      have w4 : WS3_0_4 R x0 x1 = false := by
        show (if decide (x0 ≤ 0) = true then true else decide (x1 ≤ 0)) = false
        grind
      have row : ∀ i : Nat, (i : Int) < x0 * x1 → (WS3_0_5 R x0 x1)[i]? = some [.f (cls 0), .f (cls 0), .f (cls 0), .z 0, .z 0] := fun i hi => by
        unfold WS3_0_5; rw [em]; exact zeros _ i hi
      have cf : ∀ (i : Nat) (j : Nat), (i : Int) < x0 * x1 → j < 3 → R.lf (WS3_0_5 R x0 x1) (i : Int) j = cls 0 := fun i j hi hj => by
        show Row.fl _ _ _ = _
        unfold Row.fl Row.cell
        rw [Int.toNat_natCast, row i hi]
        match j, hj with
        | 0, _ => rfl
        | 1, _ => rfl
        | 2, _ => rfl
      have cz : ∀ (i : Nat) (j : Nat), (i : Int) < x0 * x1 → 3 ≤ j → j < 5 → R.lz (WS3_0_5 R x0 x1) (i : Int) j = 0 := fun i j hi hj hj2 => by
        show Row.int _ _ _ = _
        unfold Row.int Row.cell
        rw [Int.toNat_natCast, row i hi]
        match j, hj, hj2 with
        | 3, _, _ => rfl
        | 4, _, _ => rfl
      -- the row's loop
      have m0 : S24_0 R (cls 0) 0 0 = cls 0 ∧ S24_1 R (cls 0) 0 0 = cls 0 ∧ S24_2 R (cls 0) 0 0 = cls 0 := ⟨rfl, rfl, rfl⟩
      have p := ends_path (step := G0 R (R.zc 0) x0 x0 (WS3_0_5 R x0 x1)) (p := [.l [], .z (R.zc 0)])
        (fun i => [.l (List.replicate (3 * i) [.f (cls 0)]), .z (i : Int)]) x0.toNat rfl (fun i hi => by
          have hc : R.zlt (i : Int) x0 = true := decide_eq_true (by omega)
          have hc0 : R.zle (R.zc 0) (i : Int) = true := decide_eq_true (by show (0 : Int) ≤ i; omega)
          have hi2 : (i : Int) < x0 * x1 := by omega
          have ha : R.zadd .i64 (R.zc 0) (i : Int) = (i : Int) := (zadd64 (x := 0) (y := (i : Int)) ⟨by omega, by omega⟩).trans (Int.zero_add _)
          have ha1 : R.zadd .i64 (i : Int) (R.zc 1) = ((i + 1 : Nat) : Int) := (zadd64 (x := (i : Int)) (y := 1) ⟨by omega, by omega⟩).trans rfl
          have hl : R.lapp (List.replicate (3 * i) [.f (cls 0)]) [[.f (cls 0)], [.f (cls 0)], [.f (cls 0)]] = List.replicate (3 * (i + 1)) [.f (cls 0)] := by
            show _ ++ _ = _
            have : 3 * (i + 1) = 3 * i + 3 := by omega
            rw [this, ← List.replicate_append_replicate]; rfl
          have hr : R.zle (R.llen (List.replicate (3 * (i + 1)) [.f (cls 0)])) (R.zc 1073741824) = true := by
            exact room (by rw [List.length_replicate]; omega)
          show (C0 R x0 (i : Int), O0_ R (R.zc 0) x0 x0 (WS3_0_5 R x0 x1) (List.replicate (3 * i) [.f (cls 0)]) (i : Int), [PV.l (N0_0 R (R.zc 0) (WS3_0_5 R x0 x1) (List.replicate (3 * i) [.f (cls 0)]) (i : Int)), .z (N0_1 R (i : Int))]) = _
          unfold C0 O0_ N0_0 N0_1
          rw [ha, hc, hc0, cf i 0 hi2 (by omega), cf i 1 hi2 (by omega), cf i 2 hi2 (by omega), cz i 3 hi2 (by omega) (by omega), cz i 4 hi2 (by omega) (by omega), m0.1, m0.2.1, m0.2.2, hl, hr, ha1]
          rfl)
        (by show decide (((x0.toNat : Nat) : Int) < x0) = false; exact decide_eq_false (by omega))
      have eE : E0 R (R.zc 0) x0 x0 (WS3_0_5 R x0 x1) R.lnil (R.zc 0) = true := p.1
      have eL : L0 R (R.zc 0) x0 x0 (WS3_0_5 R x0 x1) R.lnil (R.zc 0) = [.l (List.replicate (3 * x0.toNat) [.f (cls 0)]), .z ((x0.toNat : Nat) : Int)] := p.2
      have w11 : WS3_0_11 R x0 x1 = [.l (List.replicate (3 * x0.toNat) [.f (cls 0)]), .z ((x0.toNat : Nat) : Int)] := by
        unfold WS3_0_11; rw [z0, w10]; exact eL
      have o10 : WO3_10 R x0 x1 = true := by
        have : WO3_9 R x0 = x0 := w10
        unfold WO3_10; rw [z0, this]; exact eE
      have w7 : WS3_0_7 R x0 x1 = 0 := by unfold WS3_0_7; rw [w4, w6]; exact cz 0 3 (by omega) (by omega) (by omega)
      have w8 : WS3_0_8 R x0 x1 = 0 := by unfold WS3_0_8; rw [w4, w6]; exact cz 0 4 (by omega) (by omega) (by omega)
      have c0 := cf 0 0 (by omega) (by omega)
      have c1 := cf 0 1 (by omega) (by omega)
      have c2 := cf 0 2 (by omega) (by omega)
      have n1 : R.zle x1 (R.zc 0) = false := decide_eq_false (by show ¬ x1 ≤ 0; omega)
      have n2 : R.zlt x1 (R.zc 1) = false := decide_eq_false (by show ¬ x1 < 1; omega)
      have q0 : R.zeq x0 x0 = true := by show (x0 == x0) = true; simp
      have q1 : R.zeq x1 x1 = true := by show (x1 == x1) = true; simp
      have fin : R.zeq (R.llen (nthL [.l (List.replicate (3 * x0.toNat) [.f (cls 0)]), .z ((x0.toNat : Nat) : Int)] 0)) (3 * x0) = true := by
        show (((List.replicate (3 * x0.toNat) [CV.f (cls 0)] : Row).length : Nat) : Int) == 3 * x0
        rw [List.length_replicate, beq_iff_eq]; omega
      have fz : R.feq (cls 0) (R.fc 0) = true := by kernel_rfl
      have f0 : R.fite false (R.fc 0) (R.lf (WS3_0_5 R x0 x1) 0 0) = cls 0 := c0
      have f1 : R.fite false (R.fc 0) (R.lf (WS3_0_5 R x0 x1) 0 1) = cls 0 := c1
      have f2 : R.fite false (R.fc 0) (R.lf (WS3_0_5 R x0 x1) 0 2) = cls 0 := c2
      constructor
      · have o6 : WO3_6 R x0 x1 = WS3_0_5 R x0 x1 := rfl
        have o4 : WO3_4 R x0 x1 = false := w4
        have o5 : WO3_5 R x0 = 0 := w6
        have o7 : WO3_7 R x0 x1 = 0 := w7
        have o8 : WO3_8 R x0 x1 = 0 := w8
        have o3 : WO3_3 R x0 x1 = true := by unfold WO3_3; rw [sw, q0, q1]; rfl
        have t0 : R.zle (R.zc 0) 0 = true := rfl
        have t1 : R.zlt 0 (x0 * x1) = true := decide_eq_true (by omega)
        have t2 : R.zle 0 x0 = true := decide_eq_true (by omega)
        have t3 : R.zle x0 x0 = true := decide_eq_true (by omega)
        have t4 : R.zle x0 (x0 * x1) = true := decide_eq_true px
        unfold O3 WO3_1 WO3_2
        rw [e0', e2, ow, em, e3, e4, e5, o3, o4, o5, o6, o7, o8, f0, f1, f2, m0.1, m0.2.1, m0.2.2, fz, n1, n2, z0, z1, o10, t0, t1, t2, t3, t4]
        rfl
      · unfold S3_0
        rw [e0, e1, em, e3, sw, q0, q1, w4, w6, w7, w8, f0, f1, f2, m0.1, m0.2.1, m0.2.2, fz, n1, n2, w11, z3, fin]
        rfl

end Go.Proofs.Ytmenhajgmjnfkaa
