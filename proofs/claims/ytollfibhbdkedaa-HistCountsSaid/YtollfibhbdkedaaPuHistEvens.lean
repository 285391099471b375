/- The law of the curve that makes all as frequent. -/
import Derived.Test.YtollfibhbdkedaaPuHistShares
namespace Go.Proofs.Ytollfibhbdkedaa
open Go.Ev

set_option maxRecDepth 20000

abbrev Vals := Nat → Int
def upd (f : Vals) (i : Nat) (v : Int) : Vals := fun j => if j = i then v else f j
def mk1 (n : Nat) (f : Vals) : Row := (List.range n).map fun i => [.z (f i)]
theorem mk1_congr {n : Nat} {f g : Vals} (h : ∀ i, i < n → f i = g i) : mk1 n f = mk1 n g := by
  unfold mk1
  exact List.map_congr_left fun i hi => by rw [h i (List.mem_range.1 hi)]
theorem mk1_at {n i : Nat} (f : Vals) (h : i < n) : R.lz (mk1 n f) (i : Int) 0 = f i := by
  show Row.int (mk1 n f) (i : Int) 0 = _
  unfold Row.int Row.cell mk1
  simp [h]
theorem mk1_put {n i : Nat} (f : Vals) (v : Int) (_h : i < n) : R.lput (mk1 n f) (i : Int) 0 [.z v] = mk1 n (upd f i v) := by
  show Row.put (mk1 n f) (i : Int) 0 [.z v] = _
  unfold Row.put
  apply List.ext_getElem?
  intro k
  rw [Int.toNat_natCast, List.getElem?_modify]
  unfold mk1 upd layOn
  by_cases hk : k < n
  · by_cases e : i = k
    · subst e; simp [hk]
    · have e' : ¬ k = i := fun q => e q.symm
      simp [hk, e, e']
  · have : (List.range n)[k]? = none := by simp; omega
    simp [this]

/-- The number that stands for another. -/
noncomputable def ev_ (h : Row) (A : Int) (i : Nat) : Int := if 0 < A then bel h (i + 1) * 255 / A else (i : Int)

theorem ev_mono (h : Row) {A : Int} {i : Nat} : ev_ h A i ≤ ev_ h A (i + 1) := by
  unfold ev_
  by_cases hp : 0 < A
  · rw [if_pos hp, if_pos hp]
    exact Int.ediv_le_ediv hp (Int.mul_le_mul_of_nonneg_right (bel_mono h (by omega)) (by decide))
  · rw [if_neg hp, if_neg hp]; omega

theorem evq {h : Row} {A : Int} (hp : 0 < A) {j : Nat} (hj : j < 256) : R.zquo .i64 (R.zmul .i64 (bel h (j + 1)) (R.zc 255)) A = ev_ h A j := by
  have b := bel_b h (j + 1)
  have m : R.zmul .i64 (bel h (j + 1)) (R.zc 255) = bel h (j + 1) * 255 := zmul64 (x := bel h (j + 1)) (y := 255) ⟨by omega, by omega⟩
  rw [m]
  unfold ev_
  rw [if_pos hp]
  exact zquo64 (x := bel h (j + 1) * 255) (y := A) ⟨by omega, by omega, by omega⟩

theorem even17 (h : Row) (A : Int) : E17 R A h (R.zc 0) (R.lrep (R.zc 256) [.z (R.zc 0)]) = true ∧ L17 R A h (R.zc 0) (R.lrep (R.zc 256) [.z (R.zc 0)]) = [.z (256 : Int), .l (mk1 256 (ev_ h A))] := by
  have e0 : R.lrep (R.zc 256) [.z (R.zc 0)] = mk1 256 (fun i => if i < 0 then ev_ h A i else 0) := by
    have : R.lrep (R.zc 256) [.z (R.zc 0)] = mk1 256 (fun _ => 0) := by kernel_rfl
    rw [this]
    exact mk1_congr fun i _ => by rw [if_neg (by omega)]
  have e1 : mk1 256 (ev_ h A) = mk1 256 (fun i => if i < 256 then ev_ h A i else 0) := mk1_congr fun i hi => by rw [if_pos hi]
  rw [e0, e1]
  refine ends_path (step := G17 R A h) (p := [.z (R.zc 0), .l (mk1 256 (fun i => if i < 0 then ev_ h A i else 0))]) (fun j => [.z (j : Int), .l (mk1 256 (fun i => if i < j then ev_ h A i else 0))]) 256 rfl (fun j hj => ?_) rfl
  have b1 : R.zlt (j : Int) (R.zc 256) = true := zltT (show (j : Int) < 256 by omega)
  have b2 : R.zle (R.zc 0) (j : Int) = true := zleT (show (0 : Int) ≤ j by omega)
  obtain ⟨x1, x2⟩ := bel4 h (m := j + 1) (by omega)
  have n0 : nthZ (D := R) [.z (bel h (j + 1)), .z ((j + 1 : Nat) : Int)] 0 = bel h (j + 1) := rfl
  show (C17 R (j : Int), O17_ R A h (j : Int), [PV.z (N17_0 R (j : Int)), .l (N17_1 R A h (j : Int) (mk1 256 (fun i => if i < j then ev_ h A i else 0)))]) = _
  unfold C17 O17_ WO17__0 WO17__1 N17_0 N17_1
  have p1 := mk1_put (fun i => if i < j then ev_ h A i else 0) (j : Int) hj
  rw [suc (by omega), clE, cl_nat (by omega), x1, x2, n0, b1, b2, p1]
  by_cases hp : 0 < A
  · have z0 : R.zeq A (R.zc 0) = false := zeqF (show A ≠ 0 by omega)
    have p2 := mk1_put (upd (fun i => if i < j then ev_ h A i else 0) j (j : Int)) (ev_ h A j) hj
    rw [zltT (show (R.zc 0) < A from hp), z0, evq hp hj, p2]
    have : mk1 256 (upd (upd (fun i => if i < j then ev_ h A i else 0) j (j : Int)) j (ev_ h A j)) = mk1 256 (fun i => if i < j + 1 then ev_ h A i else 0) := mk1_congr fun i _ => by
      unfold upd
      by_cases e : i = j
      · subst e; rw [if_pos rfl, if_pos (by omega)]
      · rw [if_neg e, if_neg e]
        show (if i < j then ev_ h A i else 0) = _
        by_cases l : i < j
        · rw [if_pos l, if_pos (by omega)]
        · rw [if_neg l, if_neg (by omega)]
    rw [this]; rfl
  · rw [zltF (show ¬ (R.zc 0) < A from hp)]
    have : mk1 256 (upd (fun i => if i < j then ev_ h A i else 0) j (j : Int)) = mk1 256 (fun i => if i < j + 1 then ev_ h A i else 0) := mk1_congr fun i _ => by
      unfold upd
      by_cases e : i = j
      · subst e; rw [if_pos rfl, if_pos (by omega)]; unfold ev_; rw [if_neg hp]
      · rw [if_neg e]
        show (if i < j then ev_ h A i else 0) = _
        by_cases l : i < j
        · rw [if_pos l, if_pos (by omega)]
        · rw [if_neg l, if_neg (by omega)]
    rw [this]; rfl

theorem law18 (h : Row) (A : Int) : E18 R A h (mk1 256 (ev_ h A)) (R.bc false) (R.zc 0) = true ∧ L18 R A h (mk1 256 (ev_ h A)) (R.bc false) (R.zc 0) = [.b false, .z (256 : Int)] := by
  refine ends_path (step := G18 R A h (mk1 256 (ev_ h A))) (p := [.b (R.bc false), .z (R.zc 0)]) (fun j => [.b false, .z (j : Int)]) 256 rfl (fun j hj => ?_) rfl
  have b1 : R.zlt (j : Int) (R.zc 256) = true := zltT (show (j : Int) < 256 by omega)
  have b2 : R.zle (R.zc 0) (j : Int) = true := zleT (show (0 : Int) ≤ j by omega)
  obtain ⟨x1, x2⟩ := bel11 h ((j + 1 : Nat) : Int)
  rw [cl_nat (show j + 1 ≤ 256 by omega)] at x2
  have n0 : nthZ (D := R) [.z (bel h (j + 1)), .z ((j + 1 : Nat) : Int)] 0 = bel h (j + 1) := rfl
  have y1 : R.lz (mk1 256 (ev_ h A)) (j : Int) 0 = ev_ h A j := mk1_at _ hj
  have y2 : R.zeq (ev_ h A j) (ev_ h A j) = true := zeqT rfl
  have y3 : R.zite (R.zlt (R.zc 0) A) (R.zquo .i64 (R.zmul .i64 (bel h (j + 1)) (R.zc 255)) A) (j : Int) = ev_ h A j := by
    by_cases hp : 0 < A
    · rw [zltT (show (R.zc 0) < A from hp), evq hp hj]; rfl
    · rw [zltF (show ¬ (R.zc 0) < A from hp)]; unfold ev_; rw [if_neg hp]; rfl
  have y4 : R.bite (R.zlt (R.zc 0) A) (R.band true (R.bnot (R.zeq A (R.zc 0)))) (R.bc true) = true := by
    by_cases hp : 0 < A
    · rw [zltT (show (R.zc 0) < A from hp), zeqF (show A ≠ R.zc 0 from show A ≠ 0 by omega)]; rfl
    · rw [zltF (show ¬ (R.zc 0) < A from hp)]; rfl
  show (C18 R A h (mk1 256 (ev_ h A)) (j : Int), O18_ R A h (mk1 256 (ev_ h A)) (j : Int), [PV.b (N18_0 R false (j : Int)), .z (N18_1 R (j : Int))]) = _
  unfold C18 O18_ WO18__0 WO18__1 WO18__2 N18_0 N18_1
  rw [suc (by omega), x1, x2, n0, b1, b2, y1, y3, y4, y2]
  by_cases hj0 : 0 < j
  · have b3 : R.zlt (R.zc 0) (j : Int) = true := zltT (show (0 : Int) < j by omega)
    have q0 : R.zsub .i64 (j : Int) (R.zc 1) = ((j - 1 : Nat) : Int) := (zsub64 (x := (j : Int)) (y := 1) ⟨by omega, by omega⟩).trans (show (j : Int) - 1 = ((j - 1 : Nat) : Int) by omega)
    have q1 : R.lz (mk1 256 (ev_ h A)) ((j - 1 : Nat) : Int) 0 = ev_ h A (j - 1) := mk1_at _ (by omega)
    have q2 : R.zlt (ev_ h A j) (ev_ h A (j - 1)) = false := zltF (by
      have := ev_mono h (A := A) (i := j - 1)
      rw [show j - 1 + 1 = j by omega] at this
      omega)
    have q3 : R.zlt ((j - 1 : Nat) : Int) (R.zc 256) = true := zltT (show ((j - 1 : Nat) : Int) < 256 by omega)
    have q4 : R.zle (R.zc 0) ((j - 1 : Nat) : Int) = true := zleT (show (0 : Int) ≤ ((j - 1 : Nat) : Int) by omega)
    rw [b3, q0, q1, q2, q3, q4]; rfl
  · rw [zltF (show ¬ (R.zc 0) < (j : Int) from show ¬ (0 : Int) < j by omega)]; rfl

/-- A number as a byte. -/
def cb (a : Int) : Int := if a ≤ 0 then 0 else if 255 ≤ a then 255 else a
theorem cb_b (a : Int) : 0 ≤ cb a ∧ cb a ≤ 255 := by unfold cb; split <;> (try split) <;> omega
theorem cb_mono {a b : Int} (h : a ≤ b) : cb a ≤ cb b := by unfold cb; grind
theorem cbE (a : Int) : S28_0 R a = cb a := by
  show (if (255 : Int) < (if (0 : Int) > a then 0 else a) then 255 else (if (0 : Int) > a then 0 else a)) = cb a
  unfold cb; grind
theorem cbE' (a : Int) : S29_0 R a = cb a := by
  show (if decide ((0 : Int) < (if decide (a < 255) = true then a else 255)) = true then (if decide (a < 255) = true then a else 255) else 0) = cb a
  unfold cb; grind

/-- The curve between two ends. -/
def str (a b c : Int) : Int := if cb c ≤ cb a then 0 else if cb b ≤ cb c then 255 else 255 * (cb c - cb a) / (cb b - cb a)

theorem str_mid {a b c : Int} (h1 : ¬ cb c ≤ cb a) (h2 : ¬ cb b ≤ cb c) : R.zquo .i64 (R.zmul .i64 (R.zc 255) (R.zsub .i64 (cb c) (cb a))) (R.zsub .i64 (cb b) (cb a)) = 255 * (cb c - cb a) / (cb b - cb a) ∧ R.zeq (R.zsub .i64 (cb b) (cb a)) (R.zc 0) = false := by
  have ha := cb_b a
  have hb := cb_b b
  have hc := cb_b c
  have e1 : R.zsub .i64 (cb c) (cb a) = cb c - cb a := zsub64 (x := cb c) (y := cb a) ⟨by omega, by omega⟩
  have e2 : R.zsub .i64 (cb b) (cb a) = cb b - cb a := zsub64 (x := cb b) (y := cb a) ⟨by omega, by omega⟩
  have e3 : R.zmul .i64 (R.zc 255) (cb c - cb a) = 255 * (cb c - cb a) := zmul64 (x := 255) (y := cb c - cb a) ⟨by omega, by omega⟩
  rw [e1, e2, e3]
  exact ⟨zquo64 (x := 255 * (cb c - cb a)) (y := cb b - cb a) ⟨by omega, by omega, by omega⟩, zeqF (show cb b - cb a ≠ 0 by omega)⟩

theorem strE (a b c : Int) : O17 R a b c = true ∧ S17_0 R a b c = str a b c := by
  unfold O17 S17_0 str
  rw [cbE, cbE, cbE]
  by_cases h1 : cb c ≤ cb a
  · rw [zleT h1, if_pos h1]; exact ⟨rfl, rfl⟩
  · rw [zleF h1, if_neg h1]
    by_cases h2 : cb b ≤ cb c
    · rw [zleT h2, if_pos h2]; exact ⟨rfl, rfl⟩
    · rw [zleF h2, if_neg h2, (str_mid h1 h2).1, (str_mid h1 h2).2]; exact ⟨rfl, rfl⟩

theorem strE' (a b c : Int) : O18 R a b c = true ∧ S18_0 R a b c = str a b c := by
  unfold O18 S18_0 str
  rw [cbE', cbE', cbE']
  by_cases h1 : cb c ≤ cb a
  · rw [zleT h1, if_pos h1]; exact ⟨rfl, rfl⟩
  · rw [zleF h1, if_neg h1]
    by_cases h2 : cb b ≤ cb c
    · rw [zleT h2, if_pos h2]; exact ⟨rfl, rfl⟩
    · rw [zleF h2, if_neg h2, (str_mid h1 h2).1, (str_mid h1 h2).2]; exact ⟨rfl, rfl⟩

theorem str_b (a b c : Int) : 0 ≤ str a b c ∧ str a b c ≤ 255 := by
  have ha := cb_b a
  have hb := cb_b b
  have hc := cb_b c
  unfold str
  split
  · omega
  · split
    · omega
    · refine ⟨Int.ediv_nonneg (by omega) (by omega), Int.ediv_le_of_le_mul (by omega) ?_⟩
      exact Int.mul_le_mul_of_nonneg_left (by omega) (by decide)

theorem str_mono (a b : Int) {c d : Int} (h : c ≤ d) : str a b c ≤ str a b d := by
  have hm := cb_mono h
  have k1 := str_b a b c
  have k2 := str_b a b d
  by_cases h1 : cb c ≤ cb a
  · have : str a b c = 0 := by unfold str; rw [if_pos h1]
    omega
  · by_cases h2 : cb b ≤ cb d
    · have : str a b d = 255 := by unfold str; rw [if_neg (by omega), if_pos h2]
      omega
    · unfold str
      rw [if_neg h1, if_neg (by omega), if_neg (by omega), if_neg h2]
      exact Int.ediv_le_ediv (by omega) (Int.mul_le_mul_of_nonneg_left (by omega) (by decide))

theorem row5 {x : Row} (h : okAr 256 .i64 x) : WS5_0_0 R x = x := by
  have e : WS5_0_0 R x = ((List.range 256).map fun i => [CV.z (R.lz x (R.zc (Int.ofNat i)) 0)] : Row) := by kernel_rfl
  rw [e, retab h]

theorem law_HistEvens (x0 : Row) (x1 : Int) (x2 : Int) (x3 : Int) (_k0 : okAr 256 .i64 x0) (_k1 : okInt .i64 x1) (_k2 : okInt .i64 x2) (_k3 : okInt .i64 x3) : O5 R x0 x1 x2 x3 = true ∧ S5_0 R x0 x1 x2 x3 = true := by
  have r0 := row5 _k0
  have r0' : WO5_0 R x0 = x0 := r0
  obtain ⟨a3, b3⟩ := all3 x0
  obtain ⟨a10, b10⟩ := all10 x0
  have n3 : nthZ (D := R) [.z (bel x0 256), .z (256 : Int)] 0 = bel x0 256 := rfl
  have w1 : WS5_0_1 R x0 = [.z (bel x0 256), .z (256 : Int)] := by unfold WS5_0_1; rw [r0]; exact b10
  have w2 : WS5_0_2 R x0 = [.z (bel x0 256), .z (256 : Int)] := by unfold WS5_0_2; rw [r0]; exact b3
  generalize bel x0 256 = A at *
  obtain ⟨a17, b17⟩ := even17 x0 A
  obtain ⟨a18, b18⟩ := law18 x0 A
  have w3 : WS5_0_3 R x0 = [.z (256 : Int), .l (mk1 256 (ev_ x0 A))] := by unfold WS5_0_3; rw [w2, n3, r0]; exact b17
  have n17 : nthL (D := R) [.z (256 : Int), .l (mk1 256 (ev_ x0 A))] 1 = mk1 256 (ev_ x0 A) := rfl
  have w4 : WS5_0_4 R x0 = [.b false, .z (256 : Int)] := by unfold WS5_0_4; rw [w1, n3, r0, w3, n17]; exact b18
  have o1 : WO5_1 R x0 = true := by unfold WO5_1; rw [r0']; exact a3
  have o2 : WO5_2 R x0 = [.z A, .z (256 : Int)] := w2
  have o3 : WO5_3 R x0 = true := by unfold WO5_3; rw [o2, n3, r0']; exact a17
  have o4 : WO5_4 R x0 = true := by unfold WO5_4; rw [r0']; exact a10
  have o5 : WO5_5 R x0 = [.z A, .z (256 : Int)] := w1
  have o6 : WO5_6 R x0 = [.z (256 : Int), .l (mk1 256 (ev_ x0 A))] := w3
  have o7 : WO5_7 R x0 = true := by unfold WO5_7; rw [o5, n3, r0', o6, n17]; exact a18
  have o8 : WO5_8 R x0 = [.b false, .z (256 : Int)] := w4
  have n4 : nthZ (D := R) [.b false, .z (256 : Int)] 1 = 256 := rfl
  have c4 : R.zlt (256 : Int) (R.zc 256) = false := rfl
  have s1 := strE x1 x2 x3
  have s2 := strE' x1 x2 x3
  have s3 := strE x1 x2 (R.zadd .i64 x3 (R.zc 1))
  have e : R.zeq (str x1 x2 x3) (str x1 x2 x3) = true := zeqT rfl
  have last : R.bite (R.zle (R.zc 1152921504606846976) x3) (R.bc true) (R.bite (R.zlt x3 (R.zc 0)) (R.bc true) (R.zle (str x1 x2 x3) (str x1 x2 (R.zadd .i64 x3 (R.zc 1))))) = true := by
    by_cases h1 : (1152921504606846976 : Int) ≤ x3
    · rw [zleT (show R.zc 1152921504606846976 ≤ x3 from h1)]; rfl
    · by_cases h2 : x3 < 0
      · rw [zltT (show x3 < R.zc 0 from h2), zleF (show ¬ R.zc 1152921504606846976 ≤ x3 from h1)]; rfl
      · have : R.zadd .i64 x3 (R.zc 1) = x3 + 1 := zadd64 (x := x3) (y := 1) ⟨by omega, by omega⟩
        rw [this, zleT (str_mono x1 x2 (show x3 ≤ x3 + 1 by omega)), zltF (show ¬ x3 < R.zc 0 from h2), zleF (show ¬ R.zc 1152921504606846976 ≤ x3 from h1)]; rfl
  constructor
  · unfold O5
    rw [o1, o3, o4, o7, o8, n4, c4, aw_O11, aw_S11_0, s1.1, s1.2, s2.1, s2.2, s3.1, e]
    cases R.zle (R.zc 1152921504606846976) x3 <;> cases R.zlt x3 (R.zc 0) <;> rfl
  · unfold S5_0
    rw [w4, n4, c4, aw_S11_0, s1.2, s2.2, s3.2, e, last]
    rfl

end Go.Proofs.Ytollfibhbdkedaa
