/- The law AliasRight over rows alone. -/
import Derived.Test.YtpgjkadicdccnaaAl
namespace Go.Proofs.Ytpgjkadicdccnaa
open Go.Ev

theorem row_int {k : IntKind} {l : Row} (h : okRow [.z k] l) {i : Nat} (hi : i < l.length) : okInt k (R.lz l (i : Int) 0) := by
  have hm : l[i] ∈ l := List.getElem_mem hi
  have hf := h.1 _ hm
  show okInt k (Row.int l (i : Int) 0)
  unfold Row.int Row.cell
  rw [Int.toNat_natCast, List.getElem?_eq_getElem hi]
  generalize l[i] = e at hf
  match e, hf with
  | [.z x], hf => exact hf.1

theorem cap {S : Int} (h : S ≤ 1073741824) (h0 : 0 ≤ S) {k : Nat} (hk : k ≤ 1024) : (k : Int) * S ≤ 1099511627776 := by
  calc (k : Int) * S ≤ 1024 * 1073741824 := Int.mul_le_mul (by omega) h h0 (by decide)
    _ = 1099511627776 := by decide

section
variable {n : Nat} {S : Int} {W : Vals} {s : St}

/-- How often each option is meant by the first columns. -/
def gotTo (S : Int) (s : St) (k : Nat) : Vals := fun j => (if j < k then s.T j else 0) + sm (fun i => if s.A i = (j : Int) then S - s.T i else 0) k

theorem got_rng (h : Wts n S W) (v : Inv n S W s) {k : Nat} (hk : k ≤ n) {j : Nat} (hj : j < n) : 0 ≤ gotTo S s k j ∧ gotTo S s k j ≤ 2199023255552 := by
  have hS := h.top
  have hp := h.pos
  have hn := h.n2
  obtain ⟨a, b, _, _⟩ := v.rng j hj
  have h1 : 0 ≤ sm (fun i => if s.A i = (j : Int) then S - s.T i else 0) k := sm_nonneg fun i hi => by
    have := v.rng i (by omega)
    split <;> omega
  have h2 : sm (fun i => if s.A i = (j : Int) then S - s.T i else 0) k ≤ (k : Int) * S := sm_bound fun i hi => by
    have := v.rng i (by omega)
    split <;> omega
  have h3 := cap hS (by omega) (k := k) (by omega)
  unfold gotTo
  split <;> omega

theorem gotE (h : Wts n S W) (v : Inv n S W s) : E7 R (n : Int) S (n : Int) (n : Int) (n : Int) (mk2 n s.T s.A) (R.bc false) (R.zc 0) (R.lrep (n : Int) [.z (R.zc 0)]) = true ∧
    L7 R (n : Int) S (n : Int) (n : Int) (n : Int) (mk2 n s.T s.A) (R.bc false) (R.zc 0) (R.lrep (n : Int) [.z (R.zc 0)]) = [.b false, .z (n : Int), .l (mk1 n (gotTo S s n))] := by
  have hn := h.n2
  have hS := h.top
  have hp := h.pos
  refine ends_path (step := G7 R (n : Int) S (n : Int) (n : Int) (n : Int) (mk2 n s.T s.A)) (p := [.b (R.bc false), .z (R.zc 0), .l (R.lrep (n : Int) [.z (R.zc 0)])]) (fun k => [.b false, .z (k : Int), .l (mk1 n (gotTo S s k))]) n ?_ (fun k hk => ?_) ?_
  · have : R.lrep (n : Int) [.z (R.zc 0)] = mk1 n (gotTo S s 0) := (rep1 n).trans (mk1_congr fun i _ => by unfold gotTo; rw [if_neg (by omega)]; rfl)
    rw [this]; rfl
  · obtain ⟨t0, t1, a0, a1⟩ := v.rng k hk
    have g1 := got_rng h v (k := k) (by omega) hk
    have hc : R.zlt (k : Int) (n : Int) = true := zltT (by omega)
    obtain ⟨a, ha⟩ : ∃ a : Nat, s.A k = (a : Int) := ⟨(s.A k).toNat, by omega⟩
    have han : a < n := by omega
    have p1 : R.lput (mk1 n (gotTo S s k)) (k : Int) 0 [.z (gotTo S s k k + s.T k)] = mk1 n (upd (gotTo S s k) k (gotTo S s k k + s.T k)) := mk1_put _ _ hk
    have e1 : R.zadd .i64 (gotTo S s k k) (s.T k) = gotTo S s k k + s.T k := zadd64 ⟨by omega, by omega⟩
    have e2 : R.zsub .i64 S (s.T k) = S - s.T k := zsub64 ⟨by omega, by omega⟩
    have g2 : 0 ≤ upd (gotTo S s k) k (gotTo S s k k + s.T k) a ∧ upd (gotTo S s k) k (gotTo S s k k + s.T k) a ≤ 3300000000000 := by
      by_cases e : a = k
      · subst e; rw [upd_at]; omega
      · rw [upd_ne _ _ e]; have := got_rng h v (k := k) (by omega) han; omega
    have e3 : R.zadd .i64 (upd (gotTo S s k) k (gotTo S s k k + s.T k) a) (S - s.T k) = upd (gotTo S s k) k (gotTo S s k k + s.T k) a + (S - s.T k) := zadd64 ⟨by omega, by omega⟩
    have p2 : R.lput (mk1 n (upd (gotTo S s k) k (gotTo S s k k + s.T k))) (a : Int) 0 [.z (upd (gotTo S s k) k (gotTo S s k k + s.T k) a + (S - s.T k))] = mk1 n (gotTo S s (k + 1)) := by
      rw [mk1_put _ _ han]
      refine mk1_congr fun j hj => ?_
      have hs : gotTo S s (k + 1) j = (if j < k + 1 then s.T j else 0) + (sm (fun i => if s.A i = (j : Int) then S - s.T i else 0) k + (if s.A k = (j : Int) then S - s.T k else 0)) := rfl
      have hg : gotTo S s k j = (if j < k then s.T j else 0) + sm (fun i => if s.A i = (j : Int) then S - s.T i else 0) k := rfl
      rw [hs]
      by_cases ea : j = a
      · subst ea
        rw [upd_at, if_pos ha]
        by_cases ek : j = k
        · subst ek; rw [upd_at, hg, if_neg (by omega), if_pos (by omega)]; omega
        · rw [upd_ne _ _ ek, hg]
          by_cases el : j < k
          · rw [if_pos el, if_pos (by omega)]; omega
          · rw [if_neg el, if_neg (by omega)]; omega
      · rw [upd_ne _ _ ea, if_neg (show ¬ s.A k = (j : Int) by omega)]
        by_cases ek : j = k
        · subst ek; rw [upd_at, hg, if_neg (by omega), if_pos (by omega)]; omega
        · rw [upd_ne _ _ ek, hg]
          by_cases el : j < k
          · rw [if_pos el, if_pos (by omega)]; omega
          · rw [if_neg el, if_neg (by omega)]; omega
    have w0 : WC7_0 R (n : Int) (k : Int) = false := by unfold WC7_0; rw [zge0, hc]; rfl
    have w1 : WC7_1 R (n : Int) (k : Int) = true := by unfold WC7_1; rw [zge0, hc]; rfl
    have w5 : WC7_5 R (n : Int) (k : Int) = true := w1
    have w2 : WC7_2 R (n : Int) (mk2 n s.T s.A) (k : Int) = s.T k := by unfold WC7_2; rw [w0, mk2_at0 _ _ hk]; rfl
    have w3 : WC7_3 R (n : Int) (mk2 n s.T s.A) (k : Int) = (a : Int) := by unfold WC7_3; rw [w0, mk2_at1 _ _ hk, ha]; rfl
    have n0 : R.bnot (R.bite (R.zle (R.zc 0) (k : Int)) (R.zlt (k : Int) (n : Int)) (R.bc false)) = false := w0
    have q1 : R.zlt (s.T k) (R.zc 0) = false := zltF (show ¬ s.T k < 0 by omega)
    have q2 : R.zlt S (s.T k) = false := zltF (by omega)
    have q3 : R.zlt (a : Int) (R.zc 0) = false := zltF (show ¬ (a : Int) < 0 by omega)
    have q4 : R.zle (n : Int) (a : Int) = false := zleF (by omega)
    have q5 : R.zlt (a : Int) (n : Int) = true := zltT (by omega)
    have w4 : WC7_4 R (n : Int) S (n : Int) (mk2 n s.T s.A) (k : Int) = false := by
      unfold WC7_4; rw [w2, w3, q1, q2, q3, q4]; rfl
    have w6 : WC7_6 R (n : Int) (n : Int) (mk2 n s.T s.A) (k : Int) = true := by unfold WC7_6; rw [w3, zge0, q5]; rfl
    have hC : C7 R (n : Int) S (n : Int) (n : Int) (n : Int) (mk2 n s.T s.A) (k : Int) = true := by
      unfold C7; rw [w0, w1, w4, w5, w6, hc]; rfl
    have u2 : ∀ x : Int, R.zite false (R.zc 0) x = x := fun _ => rfl
    have u3 : ∀ x : Int, R.zite false (R.zc (-1)) x = x := fun _ => rfl
    have hO : O7_ R (n : Int) S (n : Int) (n : Int) (n : Int) (mk2 n s.T s.A) (k : Int) = true := by
      unfold O7_; rw [n0, u2, u3, mk2_at0 _ _ hk, mk2_at1 _ _ hk, ha, zge0, zge0, hc, q1, q2, q3, q4, q5]; rfl
    have hN : N7_2 R S (n : Int) (mk2 n s.T s.A) (k : Int) (mk1 n (gotTo S s k)) = mk1 n (gotTo S s (k + 1)) := by
      unfold N7_2
      rw [n0, u2, u3, mk2_at0 _ _ hk, mk2_at1 _ _ hk, ha, mk1_at _ hk, e1, p1, mk1_at _ han, e2, e3, p2]
    show (C7 R (n : Int) S (n : Int) (n : Int) (n : Int) (mk2 n s.T s.A) (k : Int), O7_ R (n : Int) S (n : Int) (n : Int) (n : Int) (mk2 n s.T s.A) (k : Int), [PV.b false, .z (N7_1 R (k : Int)), .l (N7_2 R S (n : Int) (mk2 n s.T s.A) (k : Int) (mk1 n (gotTo S s k)))]) = _
    unfold N7_1
    rw [hC, hO, hN, suc (by omega)]
  · show C7 R (n : Int) S (n : Int) (n : Int) (n : Int) (mk2 n s.T s.A) (n : Int) = false
    unfold C7
    rw [zltF (show ¬ (n : Int) < (n : Int) by omega)]; rfl

theorem got_all (h : Wts n S W) (v : Inv n S W s) (hg : go s = false) (w : Row) (hw : Num w W n) :
    E8 R (n : Int) (n : Int) w (mk1 n (gotTo S s n)) (R.bc false) (R.zc 0) = true ∧ L8 R (n : Int) (n : Int) w (mk1 n (gotTo S s n)) (R.bc false) (R.zc 0) = [.b false, .z (n : Int)] := by
  have hn := h.n2
  refine ends_path (step := G8 R (n : Int) (n : Int) w (mk1 n (gotTo S s n))) (p := [.b (R.bc false), .z (R.zc 0)]) (fun k => [.b false, .z (k : Int)]) n rfl (fun k hk => ?_) ?_
  · have hc : R.zlt (k : Int) (n : Int) = true := zltT (by omega)
    have hf := v.fin hg k hk
    have hgot : gotTo S s n k = W k * n := by unfold gotTo; rw [if_pos hk]; exact hf
    have z1 : R.zeq (W k * n) (W k * n) = true := by show (_ == _) = true; simp
    show (C8 R (n : Int) (n : Int) w (mk1 n (gotTo S s n)) (k : Int), O8_ R (n : Int) (n : Int) (k : Int), [PV.b false, .z (N8_1 R (k : Int))]) = _
    unfold C8 O8_ N8_1
    rw [mk1_at _ hk, hgot, hw k hk, mulW h hk, z1, hc, zge0, suc (by omega)]; rfl
  · show C8 R (n : Int) (n : Int) w (mk1 n (gotTo S s n)) (n : Int) = false
    unfold C8
    rw [zltF (show ¬ (n : Int) < (n : Int) by omega)]; rfl

end

theorem takeE {x : Row} (k0 : okRow [.z .u16] x) : ∃ m W, m ≤ 30 ∧ Fine W m ∧
    E4 R (R.llen x) x R.lnil (R.zc 0) (R.zc 0) = true ∧ L4 R (R.llen x) x R.lnil (R.zc 0) (R.zc 0) = [.l (mk1 m W), .z (sm W m), .z (m : Int)] := by
  let W : Vals := fun i => R.lz x (i : Int) 0
  let m := if x.length < 30 then x.length else 30
  have hm : m ≤ 30 := by show (if x.length < 30 then x.length else 30) ≤ 30; split <;> omega
  have hmx : m ≤ x.length := by show (if x.length < 30 then x.length else 30) ≤ x.length; split <;> omega
  have hW : ∀ i, i < m → 0 ≤ W i ∧ W i ≤ 65535 := fun i hi => row_int k0 (show i < x.length by omega)
  have hend : m = x.length ∨ m = 30 := by show (if x.length < 30 then x.length else 30) = x.length ∨ (if x.length < 30 then x.length else 30) = 30; split <;> simp
  refine ⟨m, W, hm, fun i hi => by have := hW i hi; omega, ?_⟩
  refine ends_path (step := G4 R (R.llen x) x) (p := [.l R.lnil, .z (R.zc 0), .z (R.zc 0)]) (fun k => [.l (mk1 k W), .z (sm W k), .z (k : Int)]) m rfl (fun k hk => ?_) ?_
  · have hw := hW k hk
    have hc : R.zlt (k : Int) (R.llen x) = true := zltT (show (k : Int) < ((x.length : Nat) : Int) by omega)
    have hc2 : R.zlt (k : Int) (R.zc 30) = true := zltT (show (k : Int) < 30 by omega)
    have hcv : R.zconv .i64 (R.lz x (k : Int) 0) = W k := zconv64 (x := W k) ⟨by omega, by omega⟩
    obtain ⟨s1, s2⟩ := Fine.sum (W := W) (m := k) fun i hi => by have := hW i (by omega); omega
    have ha : R.zadd .i64 (sm W k) (W k) = sm W k + W k := zadd64 ⟨by omega, by omega⟩
    have hap : R.lapp (mk1 k W) [[.z (W k)]] = mk1 (k + 1) W := mk1_snoc k W
    have hr := room (l := mk1 (k + 1) W) (by rw [mk1_len]; omega)
    show (C4 R (R.llen x) (k : Int), O4_ R (R.llen x) x (mk1 k W) (k : Int), [PV.l (N4_0 R x (mk1 k W) (k : Int)), .z (N4_1 R x (sm W k) (k : Int)), .z (N4_2 R (k : Int))]) = _
    unfold C4 O4_ N4_0 N4_1 N4_2
    rw [hcv, hap, hr, ha, hc, hc2, zge0, suc (by omega)]; rfl
  · show C4 R (R.llen x) (m : Int) = false
    unfold C4
    rcases hend with e | e
    · rw [zltF (show ¬ (m : Int) < R.llen x from show ¬ (m : Int) < ((x.length : Nat) : Int) by omega)]; rfl
    · rw [zltF (show ¬ (m : Int) < R.zc 30 from show ¬ (m : Int) < 30 by omega)]; cases R.zlt (m : Int) (R.llen x) <;> rfl

theorem zq0 (k : Nat) : R.zeq (k : Int) (R.zc 0) = decide (k = 0) := by
  show ((k : Int) == 0) = decide (k = 0)
  by_cases e : k = 0
  · rw [decide_eq_true e, beq_iff_eq]; omega
  · rw [decide_eq_false e, beq_eq_false_iff_ne]; omega
theorem zqi (x y : Int) : R.zeq x y = decide (x = y) := by
  show (x == y) = decide (x = y)
  by_cases e : x = y
  · rw [decide_eq_true e, beq_iff_eq]; exact e
  · rw [decide_eq_false e, beq_eq_false_iff_ne]; exact e

theorem law_AliasRight (x0 : Row) (k0 : okRow [.z .u16] x0) : O3 R x0 = true ∧ S3_0 R x0 = true := by
  have ow := aw_O7
  have sw := aw_S7_0
  obtain ⟨n, W, hn, hf, t1, t2⟩ := takeE k0
  have s0 : WS3_0_0 R x0 = [.l (mk1 n W), .z (sm W n), .z (n : Int)] := t2
  have o1 : WO3_1 R x0 = [.l (mk1 n W), .z (sm W n), .z (n : Int)] := t2
  have o0 : WO3_0 R x0 = true := t1
  have len : R.llen (mk1 n W) = (n : Int) := by show (((mk1 n W).length : Nat) : Int) = _; rw [mk1_len]
  have sl : R.llen (nthL (WS3_0_0 R x0) 0) = (n : Int) := by rw [s0]; exact len
  have sr : nthL (WS3_0_0 R x0) 0 = mk1 n W := by rw [s0]; rfl
  have sz : nthZ (WS3_0_0 R x0) 1 = sm W n := by rw [s0]; rfl
  have hnum : Num (mk1 n W) W n := fun i hi => mk1_at W hi
  obtain ⟨c1, c2⟩ := chkE (n := n) (m := n) (by omega) hnum (Nat.le_refl _) hf (.inl rfl)
  have s1 : WS3_0_1 R x0 = false := by unfold WS3_0_1; rw [sl]; exact zltF (show ¬ (1024 : Int) < (n : Int) by omega)
  have s2 : WS3_0_2 R x0 = [.z 0, .z 0, .z (sm W n), .z (n : Int)] := by unfold WS3_0_2; rw [sl, sr]; exact c2
  have s3 : WS3_0_3 R x0 = false := by unfold WS3_0_3; rw [sl, s2]; exact zltF (show ¬ (n : Int) < (n : Int) by omega)
  have s4 : WS3_0_4 R x0 = decide (n = 0) := by unfold WS3_0_4; rw [sl]; exact zq0 n
  have o3 : WO3_3 R x0 = true := by
    have : WO3_3 R x0 = E5 R (R.llen (nthL (WS3_0_0 R x0) 0)) (R.llen (nthL (WS3_0_0 R x0) 0)) (nthL (WS3_0_0 R x0) 0) (R.zc 0) (R.zc 0) (R.zc 0) (R.zc 0) := rfl
    rw [this, sl, sr]; exact c1
  have o2 : WO3_2 R x0 = false := s1
  have o5 : WO3_5 R x0 = false := s3
  have o6 : WO3_6 R x0 = decide (n = 0) := s4
  have ol : R.llen (nthL (WO3_1 R x0) 0) = (n : Int) := sl
  by_cases hz : n = 0 ∨ sm W n = 0
  · have s5 : WS3_0_5 R x0 = true := by
      unfold WS3_0_5; rw [s4, s2]
      by_cases e : n = 0
      · rw [decide_eq_true e]; rfl
      · rw [decide_eq_false e, show nthZ ([.z 0, .z 0, .z (sm W n), .z (n : Int)] : List (PD R)) 2 = 0 by rcases hz with q | q; exact absurd q e; exact q]; rfl
    have s7 : WS3_0_7 R x0 = true := by
      unfold WS3_0_7; rw [s4, sz]
      by_cases e : n = 0
      · rw [decide_eq_true e]; rfl
      · rw [decide_eq_false e, show sm W n = 0 by rcases hz with q | q; exact absurd q e; exact q]; rfl
    have s6 : WS3_0_6 R x0 = true := by
      unfold WS3_0_6; rw [s1, s3, s5, s4]
      cases decide (n = 0) <;> rfl
    have o7 : WO3_7 R x0 = true := s5
    have o8 : WO3_8 R x0 = true := s7
    constructor
    · unfold O3
      rw [o0, o2, o3, o5, o6, o7, o8, ow]
      cases decide (n = 0) <;> rfl
    · unfold S3_0
      rw [s6, s7, sw]; rfl
  · have hS0 : 0 < sm W n := by have := (Fine.sum hf).1; omega
    have hw : Wts n (sm W n) W := ⟨by omega, by omega, hf, rfl, hS0⟩
    have d0 : decide (n = 0) = false := decide_eq_false (by omega)
    have z0 : R.zeq (sm W n) (R.zc 0) = false := (zqi _ _).trans (decide_eq_false (show ¬ sm W n = 0 by omega))
    have s5 : WS3_0_5 R x0 = false := by unfold WS3_0_5; rw [s4, s2, d0]; exact z0
    have s7 : WS3_0_7 R x0 = false := by unfold WS3_0_7; rw [s4, sz, d0]; exact z0
    have s6 : WS3_0_6 R x0 = false := by unfold WS3_0_6; rw [s1, s3, s5, s4]; rfl
    have s8 : WS3_0_8 R x0 = sm W n := by unfold WS3_0_8; rw [s1, s3, s5, s2]; rfl
    have s9 : WS3_0_9 R x0 = R.lrep (n : Int) [.z (R.zc 0)] := by unfold WS3_0_9; rw [sl]
    obtain ⟨n1, n2⟩ := newE hw hnum
    have s10 : WS3_0_10 R x0 = [.l (mkl (st0 n (sm W n) W).lt), .l (mkl (st0 n (sm W n) W).hv), .z (n : Int), .l (mk2 n (st0 n (sm W n) W).T (st0 n (sm W n) W).A), .l (mk1 n (st0 n (sm W n) W).H)] := by
      unfold WS3_0_10; rw [sl, sr, s8, s9]; exact n2
    obtain ⟨s, v, hg, ⟨p1, p2⟩, _⟩ := pairsE hw
    have s11 : WS3_0_11 R x0 = e2 n s := by unfold WS3_0_11; rw [sl, s8, s10]; exact p2
    obtain ⟨g1, g2⟩ := gotE hw v
    have s12 : WS3_0_12 R x0 = [.b false, .z (n : Int), .l (mk1 n (gotTo (sm W n) s n))] := by unfold WS3_0_12; rw [sl, sz, s9, s11]; exact g2
    obtain ⟨a1, a2⟩ := got_all hw v hg (mk1 n W) hnum
    have s13 : WS3_0_13 R x0 = [.b false, .z (n : Int)] := by unfold WS3_0_13; rw [sl, sr, s12]; exact a2
    have o7 : WO3_7 R x0 = false := s5
    have o8 : WO3_8 R x0 = false := s7
    have rn : R.zle (n : Int) (R.zc 1073741824) = true := zleT (show (n : Int) ≤ 1073741824 by omega)
    have o9 : WO3_9 R x0 = true := by unfold WO3_9; rw [ol]; exact rn
    have o10 : WO3_10 R x0 = true := by unfold WO3_10; rw [ol, zge0, o9]; rfl
    have o14 : WO3_14 R x0 = true := by
      have : WO3_14 R x0 = E6 R (R.llen (nthL (WS3_0_0 R x0) 0)) (R.llen (nthL (WS3_0_0 R x0) 0)) (R.llen (nthL (WS3_0_0 R x0) 0)) (nthL (WS3_0_0 R x0) 0) (WS3_0_8 R x0) (R.llen (nthL (WS3_0_0 R x0) 0)) (R.llen (nthL (WS3_0_0 R x0) 0)) R.lnil R.lnil (R.zc 0) (R.lrep (R.llen (nthL (WS3_0_0 R x0) 0)) [.z (R.zc 0), .z (R.zc 0)]) (WS3_0_9 R x0) := rfl
      rw [this, sl, sr, s8, s9]; exact n1
    have o16 : WO3_16 R x0 = true := by
      have : WO3_16 R x0 = E2 R (WS3_0_8 R x0) (R.llen (nthL (WS3_0_0 R x0) 0)) (R.llen (nthL (WS3_0_0 R x0) 0)) (nthL (WS3_0_10 R x0) 0) (nthL (WS3_0_10 R x0) 1) (nthL (WS3_0_10 R x0) 4) (nthL (WS3_0_10 R x0) 3) := rfl
      rw [this, sl, s8, s10]; exact p1
    have o18 : WO3_18 R x0 = true := by
      have : WO3_18 R x0 = E7 R (R.llen (nthL (WS3_0_0 R x0) 0)) (nthZ (WS3_0_0 R x0) 1) (R.llen (nthL (WS3_0_0 R x0) 0)) (R.llen (nthL (WS3_0_0 R x0) 0)) (R.llen (nthL (WS3_0_0 R x0) 0)) (nthL (WS3_0_11 R x0) 3) (R.bc false) (R.zc 0) (WS3_0_9 R x0) := rfl
      rw [this, sl, sz, s9, s11]; exact g1
    have o19 : WO3_19 R x0 = [.b false, .z (n : Int), .l (mk1 n (gotTo (sm W n) s n))] := s12
    have o20 : WO3_20 R x0 = true := by
      have : WO3_20 R x0 = E8 R (R.llen (nthL (WS3_0_0 R x0) 0)) (R.llen (nthL (WS3_0_0 R x0) 0)) (nthL (WS3_0_0 R x0) 0) (nthL (WS3_0_12 R x0) 2) (nthB (WS3_0_12 R x0) 0) (R.zc 0) := rfl
      rw [this, sl, sr, s12]; exact a1
    have o21 : WO3_21 R x0 = [.b false, .z (n : Int)] := s13
    have nn : R.zlt (n : Int) (n : Int) = false := zltF (by omega)
    have q12 : R.zlt (nthZ ([.b false, .z (n : Int), .l (mk1 n (gotTo (sm W n) s n))] : List (PD R)) 1) (n : Int) = false := nn
    have q13 : R.zlt (nthZ ([.b false, .z (n : Int)] : List (PD R)) 1) (n : Int) = false := nn
    constructor
    · unfold O3
      rw [o0, o2, o3, o5, o6, o7, o8, o9, o10, o14, o16, o18, o19, o20, o21, ol, q12, q13, ow]
      rfl
    · unfold S3_0
      rw [s6, s7, s12, s13, sl, q12, q13, sw]; rfl

end Go.Proofs.Ytpgjkadicdccnaa
