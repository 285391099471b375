/- The law AliasMakes over rows and floats alone. -/
import Derived.Test.YtpgjkadicdccnaaPuAliasRight
import Derived.Test.YtpgjkadicdccnaaEv5
namespace Go.Proofs.Ytpgjkadicdccnaa
open Go.Ev

theorem pw_big : (2147483648 : Rat) ≤ pw 1000 := Rat.le_trans (show (2147483648 : Rat) ≤ pw 31 by unfold pw; decide +kernel) (pw_le (by decide))

/-- A small number is the float of it. -/
theorem fv_small {n : Int} (h1 : 0 ≤ n) (h2 : n ≤ 2147483648) : fv (R.i2f n) (n : Rat) := by
  obtain ⟨k, rfl⟩ : ∃ k : Nat, n = (k : Int) := ⟨n.toNat, by omega⟩
  have e : ((k : Int) : Rat) = (k : Rat) := rfl
  have a : (0 : Rat) ≤ (k : Rat) := Rat.natCast_nonneg
  have b : (k : Rat) ≤ 2147483648 := by
    have : (k : Rat) ≤ ((2147483648 : Nat) : Rat) := Rat.natCast_le_natCast.2 (by omega)
    exact this
  obtain ⟨r, h, hr⟩ := fv_int (n := (k : Int)) (by have := pw_big; have := pw_pos 1000; rw [e]; generalize pw 1000 = z at *; grind) (Rat.le_trans b pw_big)
  have := hr.exact (repQ_dyadic (n := k) (j := 0) (by omega) (by decide) (by rw [pw_zero, Rat.mul_one]; exact e))
  rw [this] at h
  exact h

theorem frac_self {a b : Int} (h0 : 0 ≤ a) (h1 : a ≤ b) (h2 : 0 < b) (h3 : b ≤ 1073741824) : R.feq (R.fdiv (R.i2f a) (R.i2f b)) (R.fdiv (R.i2f a) (R.i2f b)) = true := by
  have x := fv_small h0 (show a ≤ 2147483648 by omega)
  have y := fv_small (show 0 ≤ b by omega) (show b ≤ 2147483648 by omega)
  have ra : (0 : Rat) ≤ (a : Rat) := Rat.intCast_le_intCast.2 h0
  have rab : (a : Rat) ≤ (b : Rat) := Rat.intCast_le_intCast.2 h1
  have rb : (0 : Rat) < (b : Rat) := Rat.intCast_lt_intCast.2 h2
  have q0 : (0 : Rat) ≤ (a : Rat) / (b : Rat) := by rw [Rat.div_def]; exact Rat.mul_nonneg ra (Rat.le_of_lt (Rat.inv_pos.2 rb))
  have q1 : (a : Rat) / (b : Rat) ≤ 1 := by
    rw [Rat.div_def]
    have := Rat.mul_le_mul_of_nonneg_right rab (Rat.le_of_lt (Rat.inv_pos.2 rb))
    rw [Rat.mul_inv_cancel _ (Rat.ne_of_gt rb)] at this
    exact this
  obtain ⟨r, hr, _⟩ := div_val x y (Rat.ne_of_gt rb) (by grind) (by grind)
  exact fv_num hr

section
variable {n : Nat} {S : Int} {W : Vals} {s : St}

theorem sameE (h : Wts n S W) (w : Row) (hw : Num w W n) :
    E12 R (n : Int) S (n : Int) w (n : Int) S (n : Int) (mk2 n s.T s.A) w (mk2 n s.T s.A) (R.bc false) (R.zc 0) = true ∧
    L12 R (n : Int) S (n : Int) w (n : Int) S (n : Int) (mk2 n s.T s.A) w (mk2 n s.T s.A) (R.bc false) (R.zc 0) = [.b false, .z (n : Int)] := by
  have hn := h.n2
  refine ends_path (step := G12 R (n : Int) S (n : Int) w (n : Int) S (n : Int) (mk2 n s.T s.A) w (mk2 n s.T s.A)) (p := [.b (R.bc false), .z (R.zc 0)]) (fun k => [.b false, .z (k : Int)]) n rfl (fun k hk => ?_) ?_
  · have hc : R.zlt (k : Int) (n : Int) = true := zltT (by omega)
    have hwk := h.w k hk
    have hle : W k ≤ S := by have := sm_ge (f := W) (n := n) (fun i hi => (h.w i hi).1) k hk; have := h.s; omega
    have n0 : R.bnot (R.bite (R.zle (R.zc 0) (k : Int)) (R.zlt (k : Int) (n : Int)) (R.bc false)) = false := by rw [zge0, hc]; rfl
    have w0 : WC12_0 R (n : Int) (k : Int) = false := n0
    have w1 : WC12_1 R (n : Int) (k : Int) = true := by unfold WC12_1; rw [zge0, hc]; rfl
    have w2 : WC12_2 R (n : Int) (k : Int) = true := w1
    have w6 : WC12_6 R (n : Int) (k : Int) = true := w1
    have w5 : WC12_5 R (n : Int) (k : Int) = true := by unfold WC12_5; rw [w0, zge0, hc]; rfl
    have zz : ∀ x : Int, R.bnot (R.zeq x x) = false := fun x => by rw [zqi, decide_eq_true rfl]; rfl
    have u : ∀ x y : Int, R.zite false x y = y := fun _ _ => rfl
    have w3 : WC12_3 R (n : Int) (mk2 n s.T s.A) (mk2 n s.T s.A) (k : Int) = false := by unfold WC12_3; rw [w0, u, zz]
    have w4 : WC12_4 R (n : Int) (mk2 n s.T s.A) (mk2 n s.T s.A) (k : Int) = false := by unfold WC12_4; rw [w0, u, zz]
    have w7 : WC12_7 R w (n : Int) w (k : Int) = false := by unfold WC12_7; rw [w0, u, zz]
    have hC : C12 R (n : Int) S (n : Int) w (n : Int) S (n : Int) (mk2 n s.T s.A) w (mk2 n s.T s.A) (k : Int) = true := by
      unfold C12
      rw [w0, w1, w2, w3, w4, w5, w6, w7, hc, hw k hk]
      have : R.fite false (R.fc 0) (R.fdiv (R.i2f (W k)) (R.i2f S)) = R.fdiv (R.i2f (W k)) (R.i2f S) := rfl
      rw [this, frac_self hwk.1 hle h.pos h.top]
      rfl
    have hO : O12_ R (n : Int) (n : Int) w (n : Int) (n : Int) (mk2 n s.T s.A) w (mk2 n s.T s.A) (k : Int) = true := by
      unfold O12_
      rw [n0, u, u, u, zz, zz, zz, zge0, hc]; rfl
    show (C12 R (n : Int) S (n : Int) w (n : Int) S (n : Int) (mk2 n s.T s.A) w (mk2 n s.T s.A) (k : Int), O12_ R (n : Int) (n : Int) w (n : Int) (n : Int) (mk2 n s.T s.A) w (mk2 n s.T s.A) (k : Int), [PV.b false, .z (N12_1 R (k : Int))]) = _
    unfold N12_1
    rw [hC, hO, suc (by omega)]
  · show C12 R (n : Int) S (n : Int) w (n : Int) S (n : Int) (mk2 n s.T s.A) w (mk2 n s.T s.A) (n : Int) = false
    unfold C12
    rw [zltF (show ¬ (n : Int) < (n : Int) by omega)]; rfl

end

theorem lsub_all (l : Row) : R.lsub l (R.zc 0) (R.llen l) = l := by
  show (l.drop (0 : Int).toNat).take (((l.length : Nat) : Int) - 0).toNat = l
  simp

theorem law_AliasMakes (x0 : Row) (x1 : Int) (_k0 : okRow [.z .i64] x0) (_k1 : okInt .i64 x1) : O5 R x0 x1 = true ∧ S5_0 R x0 x1 = true := by
  have ow := aw_O7
  have sw := aw_S7_0
  have w8 : WS5_0_8 R = true := by unfold WS5_0_8; rw [sw]; rfl
  obtain ⟨n, hn⟩ : ∃ n, x0.length = n := ⟨_, rfl⟩
  have len : R.llen x0 = (n : Int) := by show ((x0.length : Nat) : Int) = _; rw [hn]
  by_cases hbig : 1100 < n
  · have e1 : R.zlt (R.zc 1100) (n : Int) = true := zltT (show (1100 : Int) < (n : Int) by omega)
    unfold O5 S5_0 WO5_0
    rw [len, e1, ow, sw]; exact ⟨rfl, rfl⟩
  have e1 : R.zlt (R.zc 1100) (n : Int) = false := zltF (show ¬ (1100 : Int) < (n : Int) by omega)
  by_cases hmid : 60 < n ∧ n ≤ 1024
  · have e2 : R.zlt (R.zc 60) (n : Int) = true := zltT (show (60 : Int) < (n : Int) by omega)
    have e3 : R.zle (n : Int) (R.zc 1024) = true := zleT (show (n : Int) ≤ 1024 by omega)
    unfold O5 S5_0 WO5_0
    rw [len, e1, e2, e3, ow, sw]; exact ⟨rfl, rfl⟩
  have d0 : R.bite (R.zlt (R.zc 1100) (n : Int)) (R.bc true) (R.bite (R.zlt (R.zc 60) (n : Int)) (R.zle (n : Int) (R.zc 1024)) (R.bc false)) = false := by
    rw [e1]
    by_cases h60 : 60 < n
    · rw [zltT (show R.zc 60 < (n : Int) from show (60 : Int) < (n : Int) by omega), zleF (show ¬ (n : Int) ≤ R.zc 1024 from show ¬ (n : Int) ≤ 1024 by omega)]; rfl
    · rw [zltF (show ¬ R.zc 60 < (n : Int) from show ¬ (60 : Int) < (n : Int) by omega)]; rfl
  have o0 : WO5_0 R x0 = false := by unfold WO5_0; rw [len]; exact d0
  let W : Vals := fun i => R.lz x0 (i : Int) 0
  have hnum : Num x0 W n := fun i _ => rfl
  obtain ⟨m, m1, m2, m3⟩ := firstOff W n
  obtain ⟨c1, c2⟩ := chkE (by omega) hnum m1 m2 m3
  obtain ⟨t1, t2⟩ := totE (by omega) hnum m1 m2 m3
  have s0 : WS5_0_0 R x0 = [.z 0, .z 0, .z (sm W m), .z (m : Int)] := by unfold WS5_0_0; rw [len]; exact c2
  have s4 : WS5_0_4 R x0 = [.z 0, .z (sm W m), .z (m : Int)] := by unfold WS5_0_4; rw [len]; exact t2
  have o1 : WO5_1 R x0 = true := by unfold WO5_1; rw [len]; exact c1
  have o5 : WO5_5 R x0 = true := by unfold WO5_5; rw [len]; exact t1
  have zn : R.zeq (n : Int) (R.zc 0) = decide (n = 0) := zq0 n
  by_cases hbg : 1024 < n
  · have e4 : R.zlt (R.zc 1024) (n : Int) = true := zltT (show (1024 : Int) < (n : Int) by omega)
    have s3 : WS5_0_3 R x0 = 4 := by unfold WS5_0_3; rw [len, e4]; rfl
    have s7 : WS5_0_7 R x0 = true := by unfold WS5_0_7; rw [len, e4]; rfl
    have o3 : R.zite (R.zlt (R.zc 1024) (n : Int)) (R.zc 4) (R.zite (WO5_3 R x0) (R.zc 2) (R.zite (WO5_4 R x0) (R.zite (R.zeq (n : Int) (R.zc 0)) (R.zc 2) (R.zc 13)) (R.zc 0))) = 4 := by rw [e4]; rfl
    have o9 : WO5_9 R x0 = true := by unfold WO5_9; rw [len, e4, ow]; rfl
    have o10 : WO5_10 R x0 = true := by unfold WO5_10; rw [len, e4]; rfl
    constructor
    · unfold O5
      rw [len, o3, o0, o5, o9, o10, e4]; rfl
    · unfold S5_0
      rw [len, d0, s3, s7, w8, e4]; rfl
  have e4 : R.zlt (R.zc 1024) (n : Int) = false := zltF (show ¬ (1024 : Int) < (n : Int) by omega)
  by_cases hbad : m < n
  · have s1 : WS5_0_1 R x0 = true := by unfold WS5_0_1; rw [s0, len]; exact zltT (show (m : Int) < (n : Int) by omega)
    have s3 : WS5_0_3 R x0 = 2 := by unfold WS5_0_3; rw [len, e4, s1]; rfl
    have s5 : WS5_0_5 R x0 = -1 := by
      unfold WS5_0_5; rw [s4, len, show R.zlt (nthZ ([.z 0, .z (sm W m), .z (m : Int)] : List (PD R)) 2) (n : Int) = true from zltT (show (m : Int) < (n : Int) by omega)]; rfl
    have s6 : WS5_0_6 R x0 = true := by unfold WS5_0_6; rw [len, s5]; cases R.zeq (n : Int) (R.zc 0) <;> rfl
    have s7 : WS5_0_7 R x0 = true := by unfold WS5_0_7; rw [len, e4, s6]; rfl
    have o3 : WO5_3 R x0 = true := s1
    have o8 : WO5_8 R x0 = true := s6
    have o9 : WO5_9 R x0 = true := by unfold WO5_9; rw [len, e4, o8, ow]; rfl
    have o10 : WO5_10 R x0 = true := s7
    constructor
    · unfold O5
      rw [len, o0, o1, o3, o5, o9, o10, e4]; rfl
    · unfold S5_0
      rw [len, d0, s3, s7, s6, w8, e4]; rfl
  have hm : m = n := by omega
  subst hm
  have nn : R.zlt (m : Int) (m : Int) = false := zltF (by omega)
  have s1 : WS5_0_1 R x0 = false := by unfold WS5_0_1; rw [s0, len]; exact nn
  have s5 : WS5_0_5 R x0 = sm W m := by
    unfold WS5_0_5; rw [s4, len, show R.zlt (nthZ ([.z 0, .z (sm W m), .z (m : Int)] : List (PD R)) 2) (m : Int) = false from nn]; rfl
  have o3 : WO5_3 R x0 = false := s1
  have pos := (Fine.sum m2).1
  have l0 : R.zlt (sm W m) (R.zc 0) = false := zltF (show ¬ sm W m < 0 by omega)
  by_cases hz : m = 0
  · have z1 : R.zeq (m : Int) (R.zc 0) = true := by rw [zn]; exact decide_eq_true hz
    have s2 : WS5_0_2 R x0 = true := by unfold WS5_0_2; rw [len, z1]; rfl
    have s3 : WS5_0_3 R x0 = 2 := by unfold WS5_0_3; rw [len, e4, s1, s2, z1]; rfl
    have s6 : WS5_0_6 R x0 = true := by unfold WS5_0_6; rw [len, z1]; rfl
    have s7 : WS5_0_7 R x0 = true := by unfold WS5_0_7; rw [len, e4, s6]; rfl
    have o4 : WO5_4 R x0 = true := s2
    have o8 : WO5_8 R x0 = true := s6
    have o9 : WO5_9 R x0 = true := by unfold WO5_9; rw [len, e4, o8, ow]; rfl
    have o10 : WO5_10 R x0 = true := s7
    constructor
    · unfold O5
      rw [len, o0, o1, o3, o4, o5, o9, o10, e4, z1]; rfl
    · unfold S5_0
      rw [len, d0, s3, s7, s6, w8, e4]; rfl
  have z1 : R.zeq (m : Int) (R.zc 0) = false := by rw [zn]; exact decide_eq_false hz
  have s6 : WS5_0_6 R x0 = false := by unfold WS5_0_6; rw [len, z1, s5, l0]; rfl
  have o8 : WO5_8 R x0 = false := s6
  have o7 : WO5_7 R x0 = sm W m := s5
  by_cases hz2 : sm W m = 0
  · have z2 : R.zeq (sm W m) (R.zc 0) = true := (zqi _ _).trans (decide_eq_true hz2)
    have s2 : WS5_0_2 R x0 = true := by unfold WS5_0_2; rw [len, z1, s0]; exact z2
    have s3 : WS5_0_3 R x0 = 13 := by unfold WS5_0_3; rw [len, e4, s1, s2, z1]; rfl
    have s7 : WS5_0_7 R x0 = true := by unfold WS5_0_7; rw [len, e4, s6, s5, z2]; rfl
    have o4 : WO5_4 R x0 = true := s2
    have o9 : WO5_9 R x0 = true := by unfold WO5_9; rw [len, e4, o8, o7, z2, ow]; rfl
    have o10 : WO5_10 R x0 = true := s7
    constructor
    · unfold O5
      rw [len, o0, o1, o3, o4, o5, o9, o10, e4, z1]; rfl
    · unfold S5_0
      rw [len, d0, s3, s7, s6, w8, e4]; rfl
  have hw : Wts m (sm W m) W := ⟨by omega, by omega, m2, rfl, by omega⟩
  have z2 : R.zeq (sm W m) (R.zc 0) = false := (zqi _ _).trans (decide_eq_false hz2)
  have s2 : WS5_0_2 R x0 = false := by unfold WS5_0_2; rw [len, z1, s0]; exact z2
  have s3 : WS5_0_3 R x0 = 0 := by unfold WS5_0_3; rw [len, e4, s1, s2]; rfl
  have s7 : WS5_0_7 R x0 = false := by unfold WS5_0_7; rw [len, e4, s6, s5, z2]; rfl
  have s9 : WS5_0_9 R x0 = (m : Int) := by unfold WS5_0_9; rw [lsub_all, len]
  have s10 : WS5_0_10 R x0 = sm W m := by unfold WS5_0_10; rw [len, e4, s1, s2, s0]; rfl
  obtain ⟨r1, r2⟩ := refE hw hnum
  obtain ⟨n1, n2⟩ := newE hw hnum
  obtain ⟨s, v, hg, ⟨p1, p2⟩, q1, q2⟩ := pairsE hw
  have s11 : WS5_0_11 R x0 = [.l (mk2 m (st0 m (sm W m) W).T (st0 m (sm W m) W).A), .l (mk1 m (st0 m (sm W m) W).H), .l (mkl (st0 m (sm W m) W).lt), .l (mkl (st0 m (sm W m) W).hv), .z (m : Int)] := by
    unfold WS5_0_11; rw [len, s5]; exact r2
  have s12 : WS5_0_12 R x0 = e11 m s := by unfold WS5_0_12; rw [s5, s11]; exact q2
  have s13 : WS5_0_13 R x0 = [.l (mkl (st0 m (sm W m) W).lt), .l (mkl (st0 m (sm W m) W).hv), .z (m : Int), .l (mk2 m (st0 m (sm W m) W).T (st0 m (sm W m) W).A), .l (mk1 m (st0 m (sm W m) W).H)] := by
    unfold WS5_0_13; rw [len, s10]; exact n2
  have s14 : WS5_0_14 R x0 = e2 m s := by unfold WS5_0_14; rw [len, s10, s13]; exact p2
  obtain ⟨a1, a2⟩ := sameE (s := s) hw x0 hnum
  have cl : R.llen (nthL (WS5_0_12 R x0) 0) = (m : Int) := by rw [s12]; show (((mk2 m s.T s.A).length : Nat) : Int) = _; rw [mk2_len]
  have cr : nthL (WS5_0_12 R x0) 0 = mk2 m s.T s.A := by rw [s12]; rfl
  have la : R.lsub x0 (R.zc 0) (m : Int) = x0 := by rw [← len]; exact lsub_all x0
  have s15 : WS5_0_15 R x0 = [.b false, .z (m : Int)] := by
    unfold WS5_0_15; rw [cl, cr, s14, s5, s9, s10, len, la]; exact a2
  have o4 : WO5_4 R x0 = false := s2
  have o9 : WO5_9 R x0 = true := by unfold WO5_9; rw [len, e4, o8, o7, z2]; rfl
  have o10 : WO5_10 R x0 = false := s7
  have o11 : WO5_11 R x0 = true := by unfold WO5_11; rw [len, o7]; exact r1
  have o12 : WO5_12 R x0 = _ := s11
  have o13 : WO5_13 R x0 = true := by unfold WO5_13; rw [o12, o7]; exact q1
  have o14 : WO5_14 R x0 = (m : Int) := s9
  have rn : R.zle (m : Int) (R.zc 1073741824) = true := zleT (show (m : Int) ≤ 1073741824 by omega)
  have o15 : WO5_15 R x0 = true := by unfold WO5_15; rw [len, zge0, rn]; rfl
  have o16 : WO5_16 R x0 = sm W m := s10
  have o18 : WO5_18 R x0 = true := by unfold WO5_18; rw [len, o16]; show E6 R (m : Int) (m : Int) (m : Int) x0 (sm W m) (m : Int) (m : Int) R.lnil R.lnil (R.zc 0) (WO5_17 R x0) _ = true; unfold WO5_17; rw [len]; exact n1
  have o19 : WO5_19 R x0 = _ := s13
  have o20 : WO5_20 R x0 = true := by unfold WO5_20; rw [len, o16, o19]; exact p1
  have o23 : WO5_23 R x0 = true := by
    have : WO5_23 R x0 = E12 R (R.llen x0) (WS5_0_5 R x0) (R.llen (nthL (WS5_0_12 R x0) 0)) x0 (WS5_0_9 R x0) (WS5_0_10 R x0) (R.llen x0) (nthL (WS5_0_12 R x0) 0) (R.lsub x0 (R.zc 0) (R.llen x0)) (nthL (WS5_0_14 R x0) 3) (R.bc false) (R.zc 0) := rfl
    rw [this, cl, cr, s14, s5, s9, s10, len, la]; exact a1
  have o24 : WO5_24 R x0 = [.b false, .z (m : Int)] := s15
  have qq : R.zlt (nthZ ([.b false, .z (m : Int)] : List (PD R)) 1) (m : Int) = false := nn
  have em : R.zeq (m : Int) (m : Int) = true := by rw [zqi]; exact decide_eq_true rfl
  have es : R.zeq (sm W m) (sm W m) = true := by rw [zqi]; exact decide_eq_true rfl
  by_cases hin : 0 ≤ x1 ∧ x1 < (m : Int)
  · have b1 : R.zle (R.zc 0) x1 = true := zleT hin.1
    have b2 : R.zlt x1 (m : Int) = true := zltT hin.2
    have o25 : WO5_25 R x0 x1 = false := by unfold WO5_25; rw [o14, b1, b2]; rfl
    have o26 : WO5_26 R x0 x1 = true := by unfold WO5_26; rw [len, b1, b2]; rfl
    constructor
    · unfold O5
      rw [len, o0, o1, o3, o4, o5, o9, o10, o11, o13, o14, o15, o16, o18, o20, o23, o24, o25, o26, o7, qq, em, es, e4, rn, b1, b2, ow, sw]; rfl
    · unfold S5_0
      rw [len, d0, s3, s7, s9, s10, s5, s15, qq, em, es, sw, b1, b2]; rfl
  · have s16 : WS5_0_16 R x0 x1 = true := by
      unfold WS5_0_16; rw [s9]
      by_cases h1 : 0 ≤ x1
      · rw [zleT (show R.zc 0 ≤ x1 from h1), zltF (show ¬ x1 < (m : Int) by omega)]; rfl
      · rw [zleF (show ¬ R.zc 0 ≤ x1 from h1)]; rfl
    have s18 : WS5_0_18 R x0 x1 = true := by unfold WS5_0_18; rw [s16]; kernel_rfl
    have o25 : WO5_25 R x0 x1 = true := s16
    have o27 : WO5_27 R x0 x1 = true := by unfold WO5_27; rw [o25]; rfl
    have o28 : WO5_28 R x0 x1 = true := by
      unfold WO5_28; rw [o27]
      generalize R.zeq _ (R.zc 0) = g1
      generalize R.zeq _ (R.zc (-1)) = g2
      generalize R.zeq _ (R.zc 0) = g3
      cases g1 <;> cases g2 <;> cases g3 <;> rfl
    constructor
    · unfold O5
      rw [len, o0, o1, o3, o4, o5, o9, o10, o11, o13, o14, o15, o16, o18, o20, o23, o24, o25, o28, o7, qq, em, es, e4, rn, ow, sw]
      cases R.zle (R.zc 0) x1 <;> cases R.zlt x1 (m : Int) <;> rfl
    · unfold S5_0
      rw [len, d0, s3, s7, s9, s10, s5, s15, s18, qq, em, es, sw]
      cases R.zle (R.zc 0) x1 <;> cases R.zlt x1 (m : Int) <;> rfl

end Go.Proofs.Ytpgjkadicdccnaa
