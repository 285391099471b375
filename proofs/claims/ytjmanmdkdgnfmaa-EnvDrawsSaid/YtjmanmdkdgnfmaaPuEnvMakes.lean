/- The law EnvMakes over rows and floats alone. -/
import Derived.Test.YtjmanmdkdgnfmaaAl
namespace Go.Proofs.Ytjmanmdkdgnfmaa
open Go.Ev

theorem zq0 (k : Nat) : R.zeq (k : Int) (R.zc 0) = decide (k = 0) := by
  show ((k : Int) == 0) = decide (k = 0)
  by_cases e : k = 0
  · rw [decide_eq_true e, beq_iff_eq]; omega
  · rw [decide_eq_false e, beq_eq_false_iff_ne]; omega
theorem zqi (x y : Int) : R.zeq x y = decide (x = y) := by
  show (x == y) = decide (x = y)
  by_cases e : x = y
  · rw [decide_eq_true e, beq_iff_eq]; exact e
  · rw [decide_eq_false e, beq_eq_false_iff_ne]; exact e
theorem lsub_all (l : Row) : R.lsub l (R.zc 0) (R.llen l) = l := by
  show (l.drop (0 : Int).toNat).take (((l.length : Nat) : Int) - 0).toNat = l
  simp

/-- Whether a cell's light may be, and its weight. -/
noncomputable def okAt (x : Row) (i : Nat) : Bool := S28_0 R (R.lf x (i : Int) 0) (R.lf x (i : Int) 1) (R.lf x (i : Int) 2)
noncomputable def wAt (x : Row) : Vals := fun i => S29_0 R (R.lf x (i : Int) 0) (R.lf x (i : Int) 1) (R.lf x (i : Int) 2)

theorem wAt_fine (x : Row) (m : Nat) : Fine (wAt x) m := fun i _ => by
  obtain ⟨_, _, _, a, b, _⟩ := weightE (R.lf x (i : Int) 0) (R.lf x (i : Int) 1) (R.lf x (i : Int) 2)
  exact ⟨a, b⟩

theorem firstDark (x : Row) : ∀ n, ∃ m, m ≤ n ∧ (∀ i, i < m → okAt x i = true) ∧ (m = n ∨ m < n ∧ okAt x m = false)
  | 0 => ⟨0, Nat.le_refl _, fun i hi => by omega, .inl rfl⟩
  | n + 1 => by
    obtain ⟨m, h1, h2, h3⟩ := firstDark x n
    rcases h3 with e | ⟨h3, h4⟩
    · subst e
      cases hb : okAt x m with
      | false => exact ⟨m, by omega, h2, .inr ⟨by omega, hb⟩⟩
      | true =>
        refine ⟨m + 1, Nat.le_refl _, fun i hi => ?_, .inl rfl⟩
        by_cases e : i = m
        · subst e; exact hb
        · exact h2 i (by omega)
    · exact ⟨m, by omega, h2, .inr ⟨by omega, h4⟩⟩

section
variable {x : Row} {n m : Nat} (hn : n ≤ 1024) (hm : m ≤ n) (h1 : ∀ i, i < m → okAt x i = true) (h2 : m = n ∨ m < n ∧ okAt x m = false)
include hn hm h1 h2

theorem cellsE : E1 R (n : Int) (n : Int) x R.lnil (R.zc 0) (R.zc 0) = true ∧ L1 R (n : Int) (n : Int) x R.lnil (R.zc 0) (R.zc 0) = [.l (mk1 m (wAt x)), .z 0, .z (m : Int)] := by
  refine ends_path (step := G1 R (n : Int) (n : Int) x) (p := [.l R.lnil, .z (R.zc 0), .z (R.zc 0)]) (fun k => [.l (mk1 k (wAt x)), .z 0, .z (k : Int)]) m rfl (fun k hk => ?_) ?_
  · have hc : R.zlt (k : Int) (n : Int) = true := zltT (by omega)
    obtain ⟨w1, _, w3, w4, w5, _⟩ := weightE (R.lf x (k : Int) 0) (R.lf x (k : Int) 1) (R.lf x (k : Int) 2)
    have hg : S25_0 R (R.lf x (k : Int) 0) (R.lf x (k : Int) 1) (R.lf x (k : Int) 2) = true := (goodE _ _ _).trans (h1 k hk)
    have ha : R.lapp (mk1 k (wAt x)) [[.z (S29_0 R (R.lf x (k : Int) 0) (R.lf x (k : Int) 1) (R.lf x (k : Int) 2))]] = mk1 (k + 1) (wAt x) := mk1_snoc k (wAt x)
    have hr := room (l := mk1 (k + 1) (wAt x)) (by rw [mk1_len]; omega)
    show (C1 R (n : Int) (n : Int) x (mk1 k (wAt x)) (k : Int), O1_ R (n : Int) (n : Int) x (mk1 k (wAt x)) (k : Int), [PV.l (N1_0 R x (mk1 k (wAt x)) (k : Int)), .z 0, .z (N1_2 R (k : Int))]) = _
    unfold C1 O1_ N1_0 N1_2
    rw [hg, w1, w3, ha, hr, hc, zge0, suc (by omega)]; rfl
  · show C1 R (n : Int) (n : Int) x (mk1 m (wAt x)) (m : Int) = false
    unfold C1
    rcases h2 with e | ⟨e, hb⟩
    · rw [zltF (show ¬ (m : Int) < (n : Int) by omega)]; rfl
    · have hg : S25_0 R (R.lf x (m : Int) 0) (R.lf x (m : Int) 1) (R.lf x (m : Int) 2) = false := (goodE _ _ _).trans hb
      rw [hg, zltT (show (m : Int) < (n : Int) by omega), zge0]; rfl

theorem mayE : E5 R (n : Int) x (R.bc false) (R.zc 0) = true ∧ L5 R (n : Int) x (R.bc false) (R.zc 0) = [.b false, .z (m : Int)] := by
  refine ends_path (step := G5 R (n : Int) x) (p := [.b (R.bc false), .z (R.zc 0)]) (fun k => [.b false, .z (k : Int)]) m rfl (fun k hk => ?_) ?_
  · have hc : R.zlt (k : Int) (n : Int) = true := zltT (by omega)
    have hg : S28_0 R (R.lf x (k : Int) 0) (R.lf x (k : Int) 1) (R.lf x (k : Int) 2) = true := h1 k hk
    show (C5 R (n : Int) x (k : Int), O5_ R (n : Int) (k : Int), [PV.b false, .z (N5_1 R (k : Int))]) = _
    unfold C5 O5_ N5_1
    rw [hg, hc, zge0, suc (by omega)]; rfl
  · show C5 R (n : Int) x (m : Int) = false
    unfold C5
    rcases h2 with e | ⟨e, hb⟩
    · rw [zltF (show ¬ (m : Int) < (n : Int) by omega)]; rfl
    · have hg : S28_0 R (R.lf x (m : Int) 0) (R.lf x (m : Int) 1) (R.lf x (m : Int) 2) = false := hb
      rw [hg, zltT (show (m : Int) < (n : Int) by omega), zge0]; rfl

end

theorem weightsE {x : Row} {n : Nat} (hn : n ≤ 1024) : E6 R (n : Int) x R.lnil (R.zc 0) = true ∧ L6 R (n : Int) x R.lnil (R.zc 0) = [.l (mk1 n (wAt x)), .z (n : Int)] := by
  refine ends_path (step := G6 R (n : Int) x) (p := [.l R.lnil, .z (R.zc 0)]) (fun k => [.l (mk1 k (wAt x)), .z (k : Int)]) n rfl (fun k hk => ?_) (zltF (show ¬ (n : Int) < (n : Int) by omega))
  have hc : R.zlt (k : Int) (n : Int) = true := zltT (by omega)
  obtain ⟨_, w2, _⟩ := weightE (R.lf x (k : Int) 0) (R.lf x (k : Int) 1) (R.lf x (k : Int) 2)
  have ha : R.lapp (mk1 k (wAt x)) [[.z (S29_0 R (R.lf x (k : Int) 0) (R.lf x (k : Int) 1) (R.lf x (k : Int) 2))]] = mk1 (k + 1) (wAt x) := mk1_snoc k (wAt x)
  have hr := room (l := mk1 (k + 1) (wAt x)) (by rw [mk1_len]; omega)
  show (C6 R (n : Int) (k : Int), O6_ R (n : Int) x (mk1 k (wAt x)) (k : Int), [PV.l (N6_0 R x (mk1 k (wAt x)) (k : Int)), .z (N6_1 R (k : Int))]) = _
  unfold C6 O6_ N6_0 N6_1
  rw [w2, ha, hr, hc, zge0, suc (by omega)]; rfl

theorem mk1_llen (n : Nat) (f : Vals) : R.llen (mk1 n f) = (n : Int) := by show (((mk1 n f).length : Nat) : Int) = _; rw [mk1_len]

theorem law_EnvMakes (x0 : Int) (x1 : Row) (_k0 : okInt .i64 x0) (_k1 : okRow [.f, .f, .f] x1) : O3 R x0 x1 = true ∧ S3_0 R x0 x1 = true := by
  have ow := aw_O7
  have sw := aw_S7_0
  obtain ⟨n, hlen⟩ : ∃ n, x1.length = n := ⟨_, rfl⟩
  have len : R.llen x1 = (n : Int) := by show ((x1.length : Nat) : Int) = _; rw [hlen]
  by_cases hbig : 200 < n
  · have e1 : R.zlt (R.zc 200) (n : Int) = true := zltT (show (200 : Int) < (n : Int) by omega)
    unfold O3 S3_0
    rw [len, e1, ow, sw]; exact ⟨rfl, rfl⟩
  have e1 : R.zlt (R.zc 200) (n : Int) = false := zltF (show ¬ (200 : Int) < (n : Int) by omega)
  have hn : n ≤ 1024 := by omega
  obtain ⟨m, m1, m2, m3⟩ := firstDark x1 n
  obtain ⟨c1, c2⟩ := cellsE hn m1 m2 m3
  obtain ⟨y1, y2⟩ := mayE hn m1 m2 m3
  obtain ⟨g1, g2⟩ := weightsE (x := x1) hn
  obtain ⟨t1, t2⟩ := totE (w := mk1 n (wAt x1)) (n := n) (m := n) (by omega) (fun i hi => mk1_at _ hi) (Nat.le_refl _) (wAt_fine x1 n) (.inl rfl)
  have s1 : WS3_0_1 R x1 = [.b false, .z (m : Int)] := by unfold WS3_0_1; rw [len]; exact y2
  have s3 : WS3_0_3 R = true := by unfold WS3_0_3; rw [sw]; rfl
  have s5 : WS3_0_5 R x1 = [.l (mk1 m (wAt x1)), .z 0, .z (m : Int)] := by unfold WS3_0_5; rw [len]; exact c2
  have s11 : WS3_0_11 R x1 = [.l (mk1 n (wAt x1)), .z (n : Int)] := by unfold WS3_0_11; rw [len]; exact g2
  have r11 : nthL (WS3_0_11 R x1) 0 = mk1 n (wAt x1) := by rw [s11]; rfl
  have nn : R.zlt (n : Int) (n : Int) = false := zltF (by omega)
  have s12 : WS3_0_12 R x1 = [.z 0, .z (sm (wAt x1) n), .z (n : Int)] := by unfold WS3_0_12; rw [r11, mk1_llen]; exact t2
  have s13 : WS3_0_13 R x1 = sm (wAt x1) n := by
    unfold WS3_0_13; rw [s12, r11, mk1_llen, show R.zlt (nthZ ([.z 0, .z (sm (wAt x1) n), .z (n : Int)] : List (PD R)) 2) (n : Int) = false from nn]; rfl
  have o1 : WO3_1 R x1 = true := by unfold WO3_1; rw [len]; exact y1
  have o2 : WO3_2 R x1 = [.b false, .z (m : Int)] := s1
  have o4 : WO3_4 R x1 = true := by unfold WO3_4; rw [len]; exact g1
  have o6 : WO3_6 R x1 = true := by
    have : WO3_6 R x1 = E7 R (R.llen (nthL (WS3_0_11 R x1) 0)) (nthL (WS3_0_11 R x1) 0) (R.zc 0) (R.zc 0) (R.zc 0) := rfl
    rw [this, r11, mk1_llen]; exact t1
  have o7 : WO3_7 R x0 x1 = true := by
    unfold WO3_7; rw [o1, o4, o6, ow]; cases WO3_0 R x0 x1 <;> cases WO3_3 R x0 x1 <;> rfl
  have o8 : WO3_8 R x1 = true := by unfold WO3_8; rw [len]; exact c1
  have o9 : WO3_9 R x1 = [.l (mk1 m (wAt x1)), .z 0, .z (m : Int)] := s5
  have rl : R.zle (R.llen (R.lsub x1 (R.zc 0) (n : Int))) (R.zc 1073741824) = true := by rw [← len, lsub_all, len]; exact zleT (show (n : Int) ≤ 1073741824 by omega)
  cases h0 : WS3_0_0 R x0 x1 with
  | true =>
    have s2 : WS3_0_2 R x0 x1 = true := by unfold WS3_0_2; rw [h0]; rfl
    have o0 : WO3_0 R x0 x1 = true := h0
    constructor
    · unfold O3; rw [len, e1, o0, o7]; rfl
    · unfold S3_0 WS3_0_4; rw [len, e1, h0, s2, s3]; rfl
  | false =>
    have o0 : WO3_0 R x0 x1 = false := h0
    by_cases hmn : m < n
    · have lt : R.zlt (m : Int) (n : Int) = true := zltT (by omega)
      have q1 : R.zlt (nthZ ([.b false, .z (m : Int)] : List (PD R)) 1) (n : Int) = true := lt
      have q2 : R.zlt (nthZ ([.l (mk1 m (wAt x1)), .z 0, .z (m : Int)] : List (PD R)) 2) (n : Int) = true := lt
      have s2 : WS3_0_2 R x0 x1 = true := by unfold WS3_0_2; rw [h0, s1, len, q1]; rfl
      constructor
      · unfold O3; rw [len, e1, o0, o7, o8, o9, q2]; rfl
      · unfold S3_0 WS3_0_4; rw [len, e1, h0, s2, s3, s5, q2]; rfl
    have hm : m = n := by omega
    subst hm
    have q1 : R.zlt (nthZ ([.b false, .z (m : Int)] : List (PD R)) 1) (m : Int) = false := nn
    have q2 : R.zlt (nthZ ([.l (mk1 m (wAt x1)), .z 0, .z (m : Int)] : List (PD R)) 2) (m : Int) = false := nn
    have s2 : WS3_0_2 R x0 x1 = false := by unfold WS3_0_2; rw [h0, s1, len, q1]; rfl
    -- eight cells at least
    have h8 : 1 ≤ m := by
      by_cases hz : m = 0
      · exfalso
        unfold WS3_0_0 at h0
        rw [len, hz] at h0
        by_cases a : x0 < 1
        · rw [zltT (show x0 < R.zc 1 from a)] at h0; cases h0
        · by_cases b : 16 < x0
          · rw [zltF (show ¬ x0 < R.zc 1 from a), zltT (show R.zc 16 < x0 from b)] at h0; cases h0
          · have hm8 : R.zmul .i64 (R.zc 8) x0 = 8 * x0 := zmul64 (x := 8) (y := x0) ⟨by omega, by omega⟩
            rw [hm8, zqi, decide_eq_false (show ¬ ((0 : Nat) : Int) = 8 * x0 by omega)] at h0
            generalize R.bite (R.zlt x0 (R.zc 1)) (R.bc true) (R.zlt (R.zc 16) x0) = z at h0
            cases z <;> cases h0
      · omega
    have hnum : Num (mk1 m (wAt x1)) (wAt x1) m := fun i hi => mk1_at _ hi
    have hfine := wAt_fine x1 m
    obtain ⟨k1, k2⟩ := chkE (n := m) (m := m) (by omega) hnum (Nat.le_refl _) hfine (.inl rfl)
    have r5 : nthL (WS3_0_5 R x1) 0 = mk1 m (wAt x1) := by rw [s5]; rfl
    have l5 : R.llen (nthL (WS3_0_5 R x1) 0) = (m : Int) := by rw [r5, mk1_llen]
    have s6 : WS3_0_6 R x1 = false := by unfold WS3_0_6; rw [l5]; exact zltF (show ¬ (1024 : Int) < (m : Int) by omega)
    have s7 : WS3_0_7 R x1 = [.z 0, .z 0, .z (sm (wAt x1) m), .z (m : Int)] := by unfold WS3_0_7; rw [l5, r5]; exact k2
    have s8 : WS3_0_8 R x1 = false := by unfold WS3_0_8; rw [l5, s7]; exact nn
    have s9 : WS3_0_9 R x1 = false := by unfold WS3_0_9; rw [l5, zq0]; exact decide_eq_false (by omega)
    have o10 : WO3_10 R x1 = false := s6
    have o11 : WO3_11 R x1 = true := by
      have : WO3_11 R x1 = E2 R (R.llen (nthL (WS3_0_5 R x1) 0)) (R.llen (nthL (WS3_0_5 R x1) 0)) (nthL (WS3_0_5 R x1) 0) (R.zc 0) (R.zc 0) (R.zc 0) (R.zc 0) := rfl
      rw [this, l5, r5]; exact k1
    have o13 : WO3_13 R x1 = false := s8
    have o14 : WO3_14 R x1 = false := s9
    by_cases hz : sm (wAt x1) m = 0
    · have z2 : R.zeq (sm (wAt x1) m) (R.zc 0) = true := (zqi _ _).trans (decide_eq_true hz)
      have s10 : WS3_0_10 R x1 = true := by unfold WS3_0_10; rw [s9, s7]; exact z2
      have o15 : WO3_15 R x1 = true := s10
      constructor
      · unfold O3; rw [len, e1, o0, o7, o8, o9, q2, rl, o10, o11, o13, o14, o15]; rfl
      · unfold S3_0; rw [len, e1, h0, s5, q2, s6, s8, s9, s10, s2, s3, s13, hz]; rfl
    · have z2 : R.zeq (sm (wAt x1) m) (R.zc 0) = false := (zqi _ _).trans (decide_eq_false hz)
      have es : R.zeq (sm (wAt x1) m) (sm (wAt x1) m) = true := by rw [zqi]; exact decide_eq_true rfl
      have s10 : WS3_0_10 R x1 = false := by unfold WS3_0_10; rw [s9, s7]; exact z2
      have o15 : WO3_15 R x1 = false := s10
      have hw : Wts m (sm (wAt x1) m) (wAt x1) := ⟨h8, hn, hfine, rfl, by have := (Fine.sum hfine).1; omega⟩
      obtain ⟨n1, n2⟩ := newE hw hnum
      obtain ⟨s, v, hg, ⟨p1, p2⟩, _⟩ := pairsE hw
      have ol : R.llen (nthL (WO3_9 R x1) 0) = (m : Int) := l5
      have orr : nthL (WO3_9 R x1) 0 = mk1 m (wAt x1) := r5
      have rn : R.zle (m : Int) (R.zc 1073741824) = true := zleT (show (m : Int) ≤ 1073741824 by omega)
      have o16 : WO3_16 R x1 = true := by unfold WO3_16; rw [ol]; exact rn
      have o17 : WO3_17 R x1 = true := by unfold WO3_17; rw [ol, zge0, o16]; rfl
      have o12 : WO3_12 R x1 = _ := s7
      have o18 : WO3_18 R x1 = sm (wAt x1) m := by unfold WO3_18; rw [o10, o13, o15, o12]; rfl
      have o21 : WO3_21 R x1 = true := by unfold WO3_21 WO3_19 WO3_20; rw [ol, orr, o18]; exact n1
      have o22 : WO3_22 R x1 = _ := (by unfold WO3_22 WO3_19 WO3_20; rw [ol, orr, o18]; exact n2 : WO3_22 R x1 = [.l (mkl (st0 m (sm (wAt x1) m) (wAt x1)).lt), .l (mkl (st0 m (sm (wAt x1) m) (wAt x1)).hv), .z (m : Int), .l (mk2 m (st0 m (sm (wAt x1) m) (wAt x1)).T (st0 m (sm (wAt x1) m) (wAt x1)).A), .l (mk1 m (st0 m (sm (wAt x1) m) (wAt x1)).H)])
      have o23 : WO3_23 R x1 = true := by unfold WO3_23; rw [ol, o18, o22]; exact p1
      have d15 : nthZ (WS3_0_7 R x1) 2 = sm (wAt x1) m := by rw [s7]; rfl
      constructor
      · unfold O3; rw [len, e1, o0, o7, o8, o9, q2, rl, o10, o11, o13, o14, o15, o16, o17, o21, o23]; rfl
      · unfold S3_0; rw [len, e1, h0, s6, s8, s9, s10, s2, s3, s13, d15, z2, s5, q2]
        have : R.zite false (R.zc 0) (R.zite false (R.zc 0) (R.zite false (R.zc 0) (sm (wAt x1) m))) = sm (wAt x1) m := rfl
        rw [this, es]; rfl

end Go.Proofs.Ytjmanmdkdgnfmaa
