/- The law of FilmTakes over numbers: the film's pixels and the page's go in step, sample by sample; so do their images, rows and drops. -/
import Derived.Test.YtmenhajgmjnfkaaAw
import Derived.Test.YtmenhajgmjnfkaaEv5
namespace Go.Proofs.Ytmenhajgmjnfkaa
open Go.Ev

theorem ite_t (x y : Bool) : R.bite true x y = x := rfl
theorem ite_f (x y : Bool) : R.bite false x y = y := rfl
theorem fit_t (x y : Fl) : R.fite true x y = x := rfl
theorem fit_f (x y : Fl) : R.fite false x y = y := rfl
theorem zit_t (x y : Int) : R.zite true x y = x := rfl
theorem zit_f (x y : Int) : R.zite false x y = y := rfl
theorem lit_t (x y : Row) : R.lite true x y = x := rfl
theorem lit_f (x y : Row) : R.lite false x y = y := rfl
theorem and_t (x : Bool) : R.band true x = x := by cases x <;> rfl
theorem and_f (x : Bool) : R.band false x = false := rfl
theorem and_tr (x : Bool) : R.band x true = x := by cases x <;> rfl
theorem bc_t : R.bc true = true := rfl
theorem bc_f : R.bc false = false := rfl
theorem not_t : R.bnot true = false := rfl
theorem not_f : R.bnot false = true := rfl

theorem zltT {a b : Int} (h : a < b) : R.zlt a b = true := decide_eq_true h
theorem zltF {a b : Int} (h : ¬ a < b) : R.zlt a b = false := decide_eq_false h
theorem zleT {a b : Int} (h : a ≤ b) : R.zle a b = true := decide_eq_true h
theorem zleF {a b : Int} (h : ¬ a ≤ b) : R.zle a b = false := decide_eq_false h
theorem zeqT {a b : Int} (h : a = b) : R.zeq a b = true := by subst h; show (a == a) = true; simp
theorem zeqF {a b : Int} (h : a ≠ b) : R.zeq a b = false := by show (a == b) = false; simpa using h

theorem roomT {l : Row} (h : l.length ≤ 1073741824) : R.zle (R.llen l) (R.zc 1073741824) = true := by
  show decide ((l.length : Int) ≤ 1073741824) = true
  exact decide_eq_true (by omega)

/-- A pixel: a sum, how many were taken, how many dropped. -/
abbrev pxe (s0 s1 s2 : Fl) (t d : Int) : List Cell := [.f s0, .f s1, .f s2, .z t, .z d]

/-- Pixels as they may be behind so many samples. -/
structure Px (l : Row) (n : Nat) (k : Int) : Prop where
  len : l.length = n
  px : ∀ i, i < n → ∃ s0 s1 s2 t d, l[i]? = some (pxe s0 s1 s2 t d) ∧ S18_0 R s0 s1 s2 = true ∧ 0 ≤ t ∧ 0 ≤ d ∧ t + d ≤ k

section
variable {l : Row} {i : Nat} {s0 s1 s2 : Fl} {t d : Int}

theorem cellAt (h : l[i]? = some (pxe s0 s1 s2 t d)) (j : Nat) : Row.cell l (i : Int) j = (pxe s0 s1 s2 t d)[j]? := by
  unfold Row.cell; rw [Int.toNat_natCast, h]; rfl
theorem rf0 (h : l[i]? = some (pxe s0 s1 s2 t d)) : R.lf l (i : Int) 0 = s0 := by show Row.fl l _ _ = _; unfold Row.fl; rw [cellAt h]; rfl
theorem rf1 (h : l[i]? = some (pxe s0 s1 s2 t d)) : R.lf l (i : Int) 1 = s1 := by show Row.fl l _ _ = _; unfold Row.fl; rw [cellAt h]; rfl
theorem rf2 (h : l[i]? = some (pxe s0 s1 s2 t d)) : R.lf l (i : Int) 2 = s2 := by show Row.fl l _ _ = _; unfold Row.fl; rw [cellAt h]; rfl
theorem rz3 (h : l[i]? = some (pxe s0 s1 s2 t d)) : R.lz l (i : Int) 3 = t := by show Row.int l _ _ = _; unfold Row.int; rw [cellAt h]; rfl
theorem rz4 (h : l[i]? = some (pxe s0 s1 s2 t d)) : R.lz l (i : Int) 4 = d := by show Row.int l _ _ = _; unfold Row.int; rw [cellAt h]; rfl

theorem putAt {e : List Cell} (h : l[i]? = some e) (o : Nat) (cs : List Cell) : R.lput l (i : Int) o cs = l.set i (layOn o cs e) := by
  show l.modify (i : Int).toNat _ = _
  rw [Int.toNat_natCast]
  apply List.ext_getElem?
  intro j
  rw [List.getElem?_modify, List.getElem?_set]
  obtain ⟨hi, he⟩ := List.getElem?_eq_some_iff.1 h
  by_cases e' : i = j
  · subst e'; simp [hi, he]
  · simp [e']

theorem getSet {e e' : List Cell} (h : l[i]? = some e) : (l.set i e')[i]? = some e' := by
  have hi : i < l.length := (List.getElem?_eq_some_iff.1 h).1
  simp [hi]
end

theorem numE (x : Fl) : S40_0 R x = S31_0 R x := number_iff x

theorem goodE (a b c : Fl) : S28_0 R a b c = S18_0 R a b c := by
  unfold S28_0 S39_0 S18_0
  rw [numE, numE, numE]
  cases S31_0 R a <;> cases S31_0 R b <;> cases S31_0 R c <;> cases R.fge a (R.fc 0) <;> cases R.fge b (R.fc 0) <;> cases R.fge c (R.fc 0) <;> rfl

theorem good_iff {a b c : Fl} : S18_0 R a b c = true ↔ (S31_0 R a = true ∧ R.fge a (R.fc 0) = true) ∧ (S31_0 R b = true ∧ R.fge b (R.fc 0) = true) ∧ (S31_0 R c = true ∧ R.fge c (R.fc 0) = true) := by
  unfold S18_0
  cases S31_0 R a <;> cases S31_0 R b <;> cases S31_0 R c <;> cases R.fge a (R.fc 0) <;> cases R.fge b (R.fc 0) <;> cases R.fge c (R.fc 0) <;> simp

theorem num_self {a : Fl} (h : S31_0 R a = true) : R.feq a a = true := by
  obtain ⟨k, hk⟩ := (rnum_iff a).1 h
  obtain ⟨q, hq, _⟩ := fv_of_fin hk
  exact fv_num hq

theorem good_self {a b c : Fl} (h : S18_0 R a b c = true) : R.feq a a = true ∧ R.feq b b = true ∧ R.feq c c = true := by
  obtain ⟨⟨h1, _⟩, ⟨h2, _⟩, ⟨h3, _⟩⟩ := good_iff.1 h
  exact ⟨num_self h1, num_self h2, num_self h3⟩

theorem pw_more : (1099511627776 : Rat) ≤ pw 1000 := Rat.le_trans (show (1099511627776 : Rat) ≤ pw 40 by unfold pw; decide +kernel) (pw_le (by decide))

theorem fv_nat {k : Nat} (h : k ≤ 1099511627776) : fv (R.i2f (k : Int)) (k : Rat) := by
  have e : ((k : Int) : Rat) = (k : Rat) := rfl
  have a : (0 : Rat) ≤ (k : Rat) := Rat.natCast_nonneg
  have b : (k : Rat) ≤ 1099511627776 := by
    have : (k : Rat) ≤ ((1099511627776 : Nat) : Rat) := Rat.natCast_le_natCast.2 h
    exact this
  obtain ⟨r, h, hr⟩ := fv_int (n := (k : Int)) (by have := pw_more; have := pw_pos 1000; rw [e]; generalize pw 1000 = z at *; grind) (Rat.le_trans b pw_more)
  have := hr.exact (repQ_dyadic (n := k) (j := 0) (by omega) (by decide) (by rw [pw_zero, Rat.mul_one]; exact e))
  rw [this] at h
  exact h

/-- One divided by so many lies from nought to one. -/
theorem inv_val {n : Nat} (h1 : 1 ≤ n) (h2 : n ≤ 1000) : ∃ r, fv (R.fdiv (R.fc 4607182418800017408) (R.i2f (n : Int))) r ∧ 0 ≤ r ∧ r ≤ 1 := by
  have hn := fv_nat (k := n) (by omega)
  have n1 : (1 : Rat) ≤ (n : Rat) := by
    have : ((1 : Nat) : Rat) ≤ (n : Rat) := Rat.natCast_le_natCast.2 h1
    exact this
  have n0 : (0 : Rat) < (n : Rat) := by grind
  have u0 : (0 : Rat) ≤ 1 / (n : Rat) := by
    rw [Rat.div_def, Rat.one_mul]; exact Rat.le_of_lt (Rat.inv_pos.2 n0)
  have u1 : 1 / (n : Rat) ≤ 1 := by
    rw [Rat.div_def, Rat.one_mul] at u0 ⊢
    have e : (n : Rat) * (n : Rat)⁻¹ = 1 := Rat.mul_inv_cancel _ (by grind)
    have := Rat.mul_le_mul_of_nonneg_right n1 u0
    rw [Rat.one_mul, e] at this
    exact this
  obtain ⟨r, hr, rr⟩ := div_val fv_one hn (by grind) (by grind) (by grind)
  refine ⟨r, hr, rr.ge 0 ?_ u0, rr.le 1 ?_ u1⟩
  · exact fv_rep fv_zero
  · exact fv_rep fv_one

/-- Of a good colour a part. -/
theorem part_good {s u : Fl} {q : Rat} (h1 : S31_0 R s = true) (h2 : R.fge s (R.fc 0) = true) (hu : fv u q) (q0 : 0 ≤ q) (q1 : q ≤ 1) : S31_0 R (R.fmul s u) = true ∧ R.fge (R.fmul s u) (R.fc 0) = true := by
  obtain ⟨a, ha⟩ := (rnum_iff s).1 h1
  obtain ⟨p, hp, ep⟩ := fv_of_fin ha
  have p0 : 0 ≤ p := by
    rw [fv_fge hp fv_zero] at h2; exact of_decide_eq_true h2
  obtain ⟨b, hb, eb⟩ := hu
  have z := pw_pos 1074
  have a0 : 0 ≤ a := by
    have : (0 : Rat) ≤ (a : Rat) := by rw [← ep]; exact Rat.mul_nonneg p0 (Rat.le_of_lt z)
    exact Rat.intCast_nonneg.1 this
  have b0 : 0 ≤ b := by
    have : (0 : Rat) ≤ (b : Rat) := by rw [← eb]; exact Rat.mul_nonneg q0 (Rat.le_of_lt z)
    exact Rat.intCast_nonneg.1 this
  have b1 : b ≤ ((2 ^ 1074 : Nat) : Int) := by
    have h : (b : Rat) ≤ ((((2 ^ 1074 : Nat) : Int)) : Rat) := by
      rw [← eb]
      have e : ((((2 ^ 1074 : Nat) : Int)) : Rat) = pw 1074 := by unfold pw; rfl
      rw [e]
      have := Rat.mul_le_mul_of_nonneg_right q1 (Rat.le_of_lt z)
      rw [Rat.one_mul] at this
      exact this
    exact Rat.intCast_le_intCast.1 h
  have hk := key_mul ha hb
  have ra := fin_rep ha
  have k1 : rndL 1074 (a * b) ≤ a := rndL_le 1074 ra (Int.mul_le_mul_of_nonneg_left b1 a0)
  have k0 : 0 ≤ rndL 1074 (a * b) := rndL_nonneg _ (Int.mul_nonneg a0 b0)
  have hb2 := rep_bound ra
  have tp := topKey_pos
  have hf : fin (R.fmul s u) (rndL 1074 (a * b)) := ⟨hk, by omega, by omega⟩
  refine ⟨(rnum_iff _).2 ⟨_, hf⟩, ?_⟩
  obtain ⟨w, hw, ew⟩ := fv_of_fin hf
  rw [fv_fge hw fv_zero]
  refine decide_eq_true ?_
  have : (0 : Rat) ≤ ((rndL 1074 (a * b) : Int) : Rat) := Rat.intCast_nonneg.2 k0
  rw [← ew] at this
  rcases Rat.le_total (a := 0) (b := w) with g | g
  · exact g
  · have h3 := Rat.mul_le_mul_of_nonneg_right g (Rat.le_of_lt z)
    rw [Rat.zero_mul] at h3
    rcases Rat.mul_eq_zero.1 (Rat.le_antisymm h3 this) with e | e
    · rw [e]; exact Rat.le_refl
    · exact absurd e (Rat.ne_of_gt z)

/-- The mean of a pixel that may be is good, asked either way. -/
theorem mean_good {s0 s1 s2 : Fl} {n : Nat} (h : S18_0 R s0 s1 s2 = true) (h1 : 1 ≤ n) (h2 : n ≤ 1000) :
    S18_0 R (R.fmul s0 (R.fdiv (R.fc 4607182418800017408) (R.i2f (n : Int)))) (R.fmul s1 (R.fdiv (R.fc 4607182418800017408) (R.i2f (n : Int)))) (R.fmul s2 (R.fdiv (R.fc 4607182418800017408) (R.i2f (n : Int)))) = true := by
  obtain ⟨r, hr, r0, r1⟩ := inv_val h1 h2
  obtain ⟨⟨a1, a2⟩, ⟨b1, b2⟩, ⟨c1, c2⟩⟩ := good_iff.1 h
  exact good_iff.2 ⟨part_good a1 a2 hr r0 r1, part_good b1 b2 hr r0 r1, part_good c1 c2 hr r0 r1⟩

/-- A pixel behind a sample. -/
noncomputable def nxt (s0 s1 s2 : Fl) (t d : Int) (c0 c1 c2 : Fl) : List Cell :=
  if S18_0 R c0 c1 c2 = true ∧ S18_0 R (R.fadd s0 c0) (R.fadd s1 c1) (R.fadd s2 c2) = true then pxe (R.fadd s0 c0) (R.fadd s1 c1) (R.fadd s2 c2) (t + 1) d else pxe s0 s1 s2 t (d + 1)

section
variable {x2 l : Row} {i a b n : Nat} {len : Int}

theorem step_out (hi : (i : Int) < len) (h80 : i < 80) {X Y : Int} (hX : R.lz x2 (i : Int) 0 = X) (hY : R.lz x2 (i : Int) 1 = Y) (bb : Bool)
    (ho : X < 0 ∨ Y < 0 ∨ (a : Int) ≤ X ∨ (b : Int) ≤ Y) : G1 R len (a : Int) (b : Int) x2 (a : Int) (b : Int) (n : Int) [.l l, .b bb, .z (i : Int), .l l] = (true, true, [.l l, .b bb, .z ((i + 1 : Nat) : Int), .l l]) := by
  have c1 : R.zlt (i : Int) len = true := zltT hi
  have c2 : R.zlt (i : Int) (R.zc 80) = true := zltT (show (i : Int) < 80 by omega)
  have c3 : R.zle (R.zc 0) (i : Int) = true := zleT (show (0 : Int) ≤ i by omega)
  have h0 : WC1_0 R x2 (a : Int) (b : Int) (i : Int) = true := by
    unfold WC1_0
    rw [hX, hY]
    show (if (if (if decide (X < 0) = true then true else decide (Y < 0)) = true then true else decide ((a : Int) ≤ X)) = true then true else decide ((b : Int) ≤ Y)) = true
    simp only [decide_eq_true_eq, Bool.if_true_left, Bool.or_eq_true]
    omega
  have hin : R.bite (R.bite (R.bite (R.zle (R.zc 0) X) (R.zle (R.zc 0) Y) (R.bc false)) (R.zlt X (a : Int)) (R.bc false)) (R.zlt Y (b : Int)) (R.bc false) = false := by
    show (if (if (if decide (0 ≤ X) = true then decide (0 ≤ Y) else false) = true then decide (X < (a : Int)) else false) = true then decide (Y < (b : Int)) else false) = false
    grind
  have h2 : WC1_2 R x2 (a : Int) (b : Int) (n : Int) (i : Int) = true := by unfold WC1_2; rw [h0]; rfl
  have h3 : WC1_3 R (a : Int) (b : Int) x2 (i : Int) = true := by unfold WC1_3; rw [hX, hY, hin]; rfl
  have h4 : WC1_4 R x2 (a : Int) (b : Int) (i : Int) = 3 := by unfold WC1_4; rw [h0]; rfl
  have h5 : WC1_5 R x2 (a : Int) (b : Int) (i : Int) = false := by unfold WC1_5; rw [h4]; rfl
  have h10 : WC1_10 R x2 (a : Int) (b : Int) (i : Int) l = l := by unfold WC1_10; rw [h0]; rfl
  have h11 : WC1_11 R x2 (a : Int) (b : Int) (i : Int) l = 0 := by unfold WC1_11; rw [h0]; rfl
  have h12 : WC1_12 R x2 (a : Int) (b : Int) (i : Int) l = 0 := by unfold WC1_12; rw [h0]; rfl
  have h13 : WC1_13 R x2 (a : Int) (b : Int) (i : Int) l = false := by unfold WC1_13; rw [h11, h12]; rfl
  have e0 : WO1__0 R len (i : Int) = true := by unfold WO1__0; rw [c3, c1]; rfl
  have e3 : WO1__3 R x2 (a : Int) (b : Int) (n : Int) (i : Int) = true := h2
  have e4 : WO1__4 R (a : Int) (b : Int) x2 (i : Int) = true := h3
  have e6 : WO1__6 R x2 (a : Int) (b : Int) (i : Int) = false := h5
  have e15 : WO1__15 R x2 (a : Int) (b : Int) (i : Int) l = false := h13
  have e7 : WO1__7 R (a : Int) (b : Int) x2 (a : Int) (b : Int) (n : Int) (i : Int) = true := by unfold WO1__7; rw [e4, e6, e3]; rfl
  have e16 : WO1__16 R (a : Int) (b : Int) x2 (a : Int) (b : Int) (i : Int) l = false := by unfold WO1__16; rw [e4, e6, e15]; rfl
  have e17 : WO1__17 R (a : Int) (b : Int) x2 (a : Int) (b : Int) (i : Int) l = true := by unfold WO1__17; rw [e4, e6, e15]; rfl
  have hC : C1 R len (a : Int) (b : Int) x2 (a : Int) (b : Int) (n : Int) l (i : Int) l = true := by
    unfold C1
    rw [c1, c2, c3, h2, h3, h5, h13]
    rfl
  have hO : O1_ R len (a : Int) (b : Int) x2 (a : Int) (b : Int) (n : Int) l (i : Int) l = true := by
    unfold O1_ WO1__38
    rw [c1, c2, e0, e3, e7, e16, e17]
    rfl
  have k0 : WN1_0_0 R x2 (a : Int) (b : Int) (i : Int) = true := h0
  have k1 : WN1_1_0 R x2 (a : Int) (b : Int) (i : Int) = true := h0
  have k3 : WN1_3_0 R x2 (a : Int) (b : Int) (i : Int) = true := h0
  have k6 : WN1_3_6 R x2 (a : Int) (b : Int) (i : Int) l = l := h10
  have n0 : N1_0 R (a : Int) (b : Int) x2 (a : Int) (b : Int) l (i : Int) l = l := by
    unfold N1_0
    rw [k0, hX, hY, hin]
    rfl
  have n1 : N1_1 R (a : Int) (b : Int) x2 (a : Int) (b : Int) bb (i : Int) l = bb := by
    unfold N1_1
    rw [k1, hX, hY, hin]
    rfl
  have n3 : N1_3 R (a : Int) (b : Int) x2 (a : Int) (b : Int) (i : Int) l = l := by
    unfold N1_3
    rw [k3, k6, hX, hY, hin]
    rfl
  have n2 : N1_2 R (i : Int) = ((i + 1 : Nat) : Int) := (zadd64 (x := (i : Int)) (y := 1) ⟨by omega, by omega⟩).trans rfl
  show (C1 R len (a : Int) (b : Int) x2 (a : Int) (b : Int) (n : Int) l (i : Int) l, O1_ R len (a : Int) (b : Int) x2 (a : Int) (b : Int) (n : Int) l (i : Int) l, [PV.l (N1_0 R (a : Int) (b : Int) x2 (a : Int) (b : Int) l (i : Int) l), .b (N1_1 R (a : Int) (b : Int) x2 (a : Int) (b : Int) bb (i : Int) l), .z (N1_2 R (i : Int)), .l (N1_3 R (a : Int) (b : Int) x2 (a : Int) (b : Int) (i : Int) l)]) = _
  rw [hC, hO, n0, n1, n2, n3]

theorem step_in (hi : (i : Int) < len) (h80 : i < 80) {X Y : Nat} (hX : R.lz x2 (i : Int) 0 = (X : Int)) (hY : R.lz x2 (i : Int) 1 = (Y : Int)) (bb : Bool) (ha : a ≤ 6) (hb : b ≤ 6)
    (hXa : X < a) (hYb : Y < b) (hn : n = a * b) (hl : l.length = n) {c0 c1 c2 : Fl} (hc0 : R.lf x2 (i : Int) 2 = c0) (hc1 : R.lf x2 (i : Int) 3 = c1) (hc2 : R.lf x2 (i : Int) 4 = c2)
    {s0 s1 s2 : Fl} {t d : Int} (he : l[Y * a + X]? = some (pxe s0 s1 s2 t d)) (hg : S18_0 R s0 s1 s2 = true) (ht : 0 ≤ t) (hd : 0 ≤ d) (htd : t + d ≤ i) :
    G1 R len (a : Int) (b : Int) x2 (a : Int) (b : Int) (n : Int) [.l l, .b bb, .z (i : Int), .l l] = (true, true, [.l (l.set (Y * a + X) (nxt s0 s1 s2 t d c0 c1 c2)), .b bb, .z ((i + 1 : Nat) : Int), .l (l.set (Y * a + X) (nxt s0 s1 s2 t d c0 c1 c2))]) := by
  have c1' : R.zlt (i : Int) len = true := zltT hi
  have c2' : R.zlt (i : Int) (R.zc 80) = true := zltT (show (i : Int) < 80 by omega)
  have c3' : R.zle (R.zc 0) (i : Int) = true := zleT (show (0 : Int) ≤ i by omega)
  have hkn : Y * a + X < n := by
    have : (Y + 1) * a ≤ b * a := Nat.mul_le_mul_right _ hYb
    rw [hn, Nat.mul_comm a b]
    rw [Nat.add_mul, Nat.one_mul] at this
    omega
  have hn36 : n ≤ 36 := by
    rw [hn]; exact Nat.le_trans (Nat.mul_le_mul ha hb) (by decide)
  have h0 : WC1_0 R x2 (a : Int) (b : Int) (i : Int) = false := by
    unfold WC1_0
    rw [hX, hY]
    show (if (if (if decide ((X : Int) < 0) = true then true else decide ((Y : Int) < 0)) = true then true else decide ((a : Int) ≤ X)) = true then true else decide ((b : Int) ≤ Y)) = false
    grind
  have hin : R.bite (R.bite (R.bite (R.zle (R.zc 0) (X : Int)) (R.zle (R.zc 0) (Y : Int)) (R.bc false)) (R.zlt (X : Int) (a : Int)) (R.bc false)) (R.zlt (Y : Int) (b : Int)) (R.bc false) = true := by
    show (if (if (if decide (0 ≤ (X : Int)) = true then decide (0 ≤ (Y : Int)) else false) = true then decide ((X : Int) < (a : Int)) else false) = true then decide ((Y : Int) < (b : Int)) else false) = true
    grind
  have hk : R.zadd .i64 (R.zmul .i64 (Y : Int) (a : Int)) (X : Int) = ((Y * a + X : Nat) : Int) := by
    have e1 : R.zmul .i64 (Y : Int) (a : Int) = ((Y * a : Nat) : Int) := (zmul64 (x := (Y : Int)) (y := (a : Int)) (by
      have : ((Y : Int) * (a : Int)) = ((Y * a : Nat) : Int) := (Int.natCast_mul Y a).symm
      rw [this]; omega)).trans (Int.natCast_mul Y a).symm
    rw [e1]
    exact (zadd64 (x := ((Y * a : Nat) : Int)) (y := (X : Int)) ⟨by omega, by omega⟩).trans (Int.natCast_add _ _).symm
  generalize hK : Y * a + X = K at *
  have h1 : WC1_1 R x2 (a : Int) (i : Int) = (K : Int) := by unfold WC1_1; rw [hX, hY]; exact hk
  have z0 : R.zle (R.zc 0) (K : Int) = true := zleT (show (0 : Int) ≤ K by omega)
  have z1 : R.zlt (K : Int) (n : Int) = true := zltT (by omega)
  have h2 : WC1_2 R x2 (a : Int) (b : Int) (n : Int) (i : Int) = true := by unfold WC1_2; rw [h0, h1, z0, z1]; rfl
  have h3 : WC1_3 R (a : Int) (b : Int) x2 (i : Int) = false := by unfold WC1_3; rw [hX, hY, hin]; rfl
  have h4 : WC1_4 R x2 (a : Int) (b : Int) (i : Int) = 0 := by unfold WC1_4; rw [h0]; rfl
  have h5 : WC1_5 R x2 (a : Int) (b : Int) (i : Int) = true := by unfold WC1_5; rw [h4]; rfl
  have f0 := rf0 he
  have f1 := rf1 he
  have f2 := rf2 he
  have f3 := rz3 he
  have f4 := rz4 he
  have ll : R.lcat R.lnil l = l := rfl
  have a1 : R.zadd .i64 t (R.zc 1) = t + 1 := zadd64 (x := t) (y := 1) ⟨by omega, by omega⟩
  have a2 : R.zadd .i64 d (R.zc 1) = d + 1 := zadd64 (x := d) (y := 1) ⟨by omega, by omega⟩
  -- the new pixel, by the film and by the page
  have h6 : WC1_6 R x2 (a : Int) (i : Int) l = R.fadd s0 c0 := by unfold WC1_6; rw [h1, f0, hc0]; rfl
  have h7 : WC1_7 R x2 (a : Int) (i : Int) l = R.fadd s1 c1 := by unfold WC1_7; rw [h1, f1, hc1]; rfl
  have h8 : WC1_8 R x2 (a : Int) (i : Int) l = R.fadd s2 c2 := by unfold WC1_8; rw [h1, f2, hc2]; rfl
  have h9 : WC1_9 R x2 (a : Int) (i : Int) l = l.set K (pxe (R.fadd s0 c0) (R.fadd s1 c1) (R.fadd s2 c2) t d) := by
    unfold WC1_9; rw [h1, h6, h7, h8, putAt he]; rfl
  have h10 : WC1_10 R x2 (a : Int) (b : Int) (i : Int) l = l.set K (nxt s0 s1 s2 t d c0 c1 c2) := by
    unfold WC1_10 nxt
    rw [h0, h1, h6, h7, h8, h9, hc0, hc1, hc2, goodE, goodE, rz3 (getSet he), f4, a1, a2, putAt (getSet he), putAt he, List.set_set]
    cases S18_0 R c0 c1 c2 <;> cases S18_0 R (R.fadd s0 c0) (R.fadd s1 c1) (R.fadd s2 c2) <;> rfl
  have h14 : WC1_14 R (a : Int) x2 (i : Int) = (K : Int) := h1
  have h17 : WC1_17 R (a : Int) x2 l (i : Int) = l.set K (nxt s0 s1 s2 t d c0 c1 c2) := by
    unfold WC1_17
    rw [h14, f0, f1, f2, f3, f4, hc0, hc1, hc2, ll, putAt he]
    unfold S15_0 S15_1 S15_2 S15_3 S15_4 nxt
    rw [a1, a2, show S29_0 R s0 c0 = R.fadd s0 c0 from rfl, show S29_1 R s1 c1 = R.fadd s1 c1 from rfl, show S29_2 R s2 c2 = R.fadd s2 c2 from rfl]
    cases S18_0 R c0 c1 c2 <;> cases S18_0 R (R.fadd s0 c0) (R.fadd s1 c1) (R.fadd s2 c2) <;> rfl
  obtain ⟨u0, u1, u2, t', d', hne, hug, ht', hd', hpos, hbd⟩ : ∃ u0 u1 u2 t' d', nxt s0 s1 s2 t d c0 c1 c2 = pxe u0 u1 u2 t' d' ∧ S18_0 R u0 u1 u2 = true ∧ 0 ≤ t' ∧ 0 ≤ d' ∧ 1 ≤ t' + d' ∧ t' + d' ≤ i + 1 := by
    unfold nxt
    split
    · rename_i h; exact ⟨_, _, _, _, _, rfl, h.2, by omega, hd, by omega, by omega⟩
    · exact ⟨_, _, _, _, _, rfl, hg, ht, by omega, by omega, by omega⟩
  rw [hne] at h10 h17 ⊢
  have hs := getSet (e' := pxe u0 u1 u2 t' d') he
  have h11 : WC1_11 R x2 (a : Int) (b : Int) (i : Int) l = t' := by unfold WC1_11; rw [h0, h10, h1]; exact rz3 hs
  have h12 : WC1_12 R x2 (a : Int) (b : Int) (i : Int) l = d' := by unfold WC1_12; rw [h0, h10, h1]; exact rz4 hs
  have h15 : WC1_15 R (a : Int) x2 l (i : Int) = true := by
    unfold WC1_15; rw [h14, z0, ll, show R.llen l = (n : Int) from congrArg Int.ofNat hl, z1]; rfl
  have h16 : WC1_16 R x2 (a : Int) (b : Int) (i : Int) l = u0 := by unfold WC1_16; rw [h0, h10, h1]; exact rf0 hs
  have h18 : WC1_18 R (a : Int) x2 l (i : Int) = u0 := by unfold WC1_18; rw [h17, h14]; exact rf0 hs
  have h19 : WC1_19 R x2 (a : Int) (b : Int) (i : Int) l = u1 := by unfold WC1_19; rw [h0, h10, h1]; exact rf1 hs
  have h20 : WC1_20 R (a : Int) x2 l (i : Int) = u1 := by unfold WC1_20; rw [h17, h14]; exact rf1 hs
  have h21 : WC1_21 R x2 (a : Int) (b : Int) (i : Int) l = u2 := by unfold WC1_21; rw [h0, h10, h1]; exact rf2 hs
  have h22 : WC1_22 R (a : Int) x2 l (i : Int) = u2 := by unfold WC1_22; rw [h17, h14]; exact rf2 hs
  have h23 : WC1_23 R (a : Int) x2 l (i : Int) = t' := by unfold WC1_23; rw [h17, h14]; exact rz3 hs
  have h24 : WC1_24 R (a : Int) x2 l (i : Int) = d' := by unfold WC1_24; rw [h17, h14]; exact rz4 hs
  obtain ⟨N, hN⟩ : ∃ N : Nat, t' + d' = (N : Int) := ⟨(t' + d').toNat, by omega⟩
  have htn : R.zadd .i64 t' d' = (N : Int) := (zadd64 (x := t') (y := d') ⟨by omega, by omega⟩).trans hN
  have hz : R.zeq (N : Int) (R.zc 0) = false := zeqF (show (N : Int) ≠ 0 by omega)
  have hm := mean_good (n := N) hug (by omega) (by omega)
  generalize hv : R.fdiv (R.fc 4607182418800017408) (R.i2f (N : Int)) = v at hm
  have m0 : ∀ x, S24_0 R x t' d' = R.fmul x v := fun x => by unfold S24_0; rw [htn, hz, hv]; rfl
  have m1 : ∀ x, S24_1 R x t' d' = R.fmul x v := fun x => by unfold S24_1; rw [htn, hz, hv]; rfl
  have m2 : ∀ x, S24_2 R x t' d' = R.fmul x v := fun x => by unfold S24_2; rw [htn, hz, hv]; rfl
  have p0 : ∀ x, S17_0 R x t' d' = R.fmul x v := fun x => by unfold S17_0; rw [htn, hz, hv]; rfl
  have p1 : ∀ x, S17_1 R x t' d' = R.fmul x v := fun x => by unfold S17_1; rw [htn, hz, hv]; rfl
  have p2 : ∀ x, S17_2 R x t' d' = R.fmul x v := fun x => by unfold S17_2; rw [htn, hz, hv]; rfl
  have h25 : WC1_25 R x2 (a : Int) (b : Int) (i : Int) l = R.fmul u0 v := by unfold WC1_25; rw [h16, h11, h12]; exact m0 _
  have h26 : WC1_26 R x2 (a : Int) (b : Int) (i : Int) l = R.fmul u1 v := by unfold WC1_26; rw [h19, h11, h12]; exact m1 _
  have h27 : WC1_27 R x2 (a : Int) (b : Int) (i : Int) l = R.fmul u2 v := by unfold WC1_27; rw [h21, h11, h12]; exact m2 _
  obtain ⟨g0, g1, g2⟩ := good_self hug
  obtain ⟨q0, q1, q2⟩ := good_self hm
  have zt : R.zeq t' t' = true := zeqT rfl
  have zd : R.zeq d' d' = true := zeqT rfl
  have rm : R.zle (R.llen l) (R.zc 1073741824) = true := roomT (by omega)
  have ln : R.zlt (K : Int) (R.llen l) = true := zltT (show (K : Int) < (l.length : Int) by omega)
  have h28 : WC1_28 R (a : Int) x2 (a : Int) (b : Int) (n : Int) l (i : Int) l = true := by
    unfold WC1_28
    rw [h14, z0, ln, ll, rm, h15, h2, h4, h16, h18, h19, h20, h21, h22, h11, h12, h23, h24, h25, h26, h27, p0, p1, p2, g0, g1, g2, q0, q1, q2, zt, zd, hm]
    rfl
  have hC : C1 R len (a : Int) (b : Int) x2 (a : Int) (b : Int) (n : Int) l (i : Int) l = true := by
    unfold C1
    rw [c1', c2', c3', h2, h3, h5, h28]
    generalize WC1_13 R _ _ _ _ _ = w
    cases w <;> rfl
  have e0 : WO1__0 R len (i : Int) = true := by unfold WO1__0; rw [c3', c1']; rfl
  have e3 : WO1__3 R x2 (a : Int) (b : Int) (n : Int) (i : Int) = true := h2
  have e4 : WO1__4 R (a : Int) (b : Int) x2 (i : Int) = false := h3
  have e5 : WO1__5 R x2 (a : Int) (b : Int) (i : Int) = 0 := h4
  have e7 : WO1__7 R (a : Int) (b : Int) x2 (a : Int) (b : Int) (n : Int) (i : Int) = true := by unfold WO1__7; rw [e4]; rfl
  have e16 : WO1__16 R (a : Int) (b : Int) x2 (a : Int) (b : Int) (i : Int) l = false := by unfold WO1__16; rw [e4]; rfl
  have e17 : WO1__17 R (a : Int) (b : Int) x2 (a : Int) (b : Int) (i : Int) l = false := by unfold WO1__17; rw [e4]; rfl
  have e18 : WO1__18 R (a : Int) x2 (i : Int) = (K : Int) := h14
  have e19 : WO1__19 R (a : Int) x2 l (i : Int) = true := by unfold WO1__19; rw [e18, z0, ln]; rfl
  have e20 : WO1__20 R (a : Int) x2 l (i : Int) = true := h15
  have e21 : WO1__21 R (a : Int) x2 l (i : Int) = true := by unfold WO1__21; rw [e20, ll, rm]; rfl
  have e22 : WO1__22 R x2 (a : Int) (b : Int) (i : Int) = false := by unfold WO1__22; rw [e5]; rfl
  have e23 : WO1__23 R x2 (a : Int) (b : Int) (i : Int) l = u0 := h16
  have e25 : WO1__25 R (a : Int) x2 l (i : Int) = u0 := h18
  have e26 : WO1__26 R x2 (a : Int) (b : Int) (i : Int) l = u1 := h19
  have e27 : WO1__27 R (a : Int) x2 l (i : Int) = u1 := h20
  have e28 : WO1__28 R x2 (a : Int) (b : Int) (i : Int) l = u2 := h21
  have e29 : WO1__29 R (a : Int) x2 l (i : Int) = u2 := h22
  have e13 : WO1__13 R x2 (a : Int) (b : Int) (i : Int) l = t' := h11
  have e14 : WO1__14 R x2 (a : Int) (b : Int) (i : Int) l = d' := h12
  have e31 : WO1__31 R (a : Int) x2 l (i : Int) = t' := h23
  have e33 : WO1__33 R (a : Int) x2 l (i : Int) = d' := h24
  have e30 : WO1__30 R (a : Int) x2 (a : Int) (b : Int) l (i : Int) l = false := by unfold WO1__30; rw [e23, e25, e26, e27, e28, e29, g0, g1, g2]; rfl
  have e32 : WO1__32 R (a : Int) x2 (a : Int) (b : Int) l (i : Int) l = false := by unfold WO1__32; rw [e13, e31, zt]; rfl
  have e34 : WO1__34 R (a : Int) x2 (a : Int) (b : Int) l (i : Int) l = false := by unfold WO1__34; rw [e14, e33, zd]; rfl
  have e35 : WO1__35 R x2 (a : Int) (b : Int) (i : Int) l = R.fmul u0 v := h25
  have e36 : WO1__36 R x2 (a : Int) (b : Int) (i : Int) l = R.fmul u1 v := h26
  have e37 : WO1__37 R x2 (a : Int) (b : Int) (i : Int) l = R.fmul u2 v := h27
  have hO : O1_ R len (a : Int) (b : Int) x2 (a : Int) (b : Int) (n : Int) l (i : Int) l = true := by
    unfold O1_ WO1__38
    rw [c1', c2', e0, e3, e7, e16, e17, e19, e20, e21, e22, e30, e32, e34, e35, e36, e37, e25, e27, e29, e31, e33, p0, p1, p2, q0, q1, q2, hm]
    rfl
  have k7 : WN1_0_7 R (a : Int) x2 (i : Int) = (K : Int) := h14
  have k17 : R.lput (R.lcat R.lnil l) (WN1_0_7 R (a : Int) x2 (i : Int)) 0 [.f (S15_0 R (R.lf l (WN1_0_7 R (a : Int) x2 (i : Int)) 0) (R.lf l (WN1_0_7 R (a : Int) x2 (i : Int)) 1) (R.lf l (WN1_0_7 R (a : Int) x2 (i : Int)) 2) (R.lf x2 (i : Int) 2) (R.lf x2 (i : Int) 3) (R.lf x2 (i : Int) 4)), .f (S15_1 R (R.lf l (WN1_0_7 R (a : Int) x2 (i : Int)) 0) (R.lf l (WN1_0_7 R (a : Int) x2 (i : Int)) 1) (R.lf l (WN1_0_7 R (a : Int) x2 (i : Int)) 2) (R.lf x2 (i : Int) 2) (R.lf x2 (i : Int) 3) (R.lf x2 (i : Int) 4)), .f (S15_2 R (R.lf l (WN1_0_7 R (a : Int) x2 (i : Int)) 0) (R.lf l (WN1_0_7 R (a : Int) x2 (i : Int)) 1) (R.lf l (WN1_0_7 R (a : Int) x2 (i : Int)) 2) (R.lf x2 (i : Int) 2) (R.lf x2 (i : Int) 3) (R.lf x2 (i : Int) 4)), .z (S15_3 R (R.lf l (WN1_0_7 R (a : Int) x2 (i : Int)) 0) (R.lf l (WN1_0_7 R (a : Int) x2 (i : Int)) 1) (R.lf l (WN1_0_7 R (a : Int) x2 (i : Int)) 2) (R.lz l (WN1_0_7 R (a : Int) x2 (i : Int)) 3) (R.lf x2 (i : Int) 2) (R.lf x2 (i : Int) 3) (R.lf x2 (i : Int) 4)), .z (S15_4 R (R.lf l (WN1_0_7 R (a : Int) x2 (i : Int)) 0) (R.lf l (WN1_0_7 R (a : Int) x2 (i : Int)) 1) (R.lf l (WN1_0_7 R (a : Int) x2 (i : Int)) 2) (R.lz l (WN1_0_7 R (a : Int) x2 (i : Int)) 4) (R.lf x2 (i : Int) 2) (R.lf x2 (i : Int) 3) (R.lf x2 (i : Int) 4))] = l.set K (pxe u0 u1 u2 t' d') := h17
  have n0 : N1_0 R (a : Int) (b : Int) x2 (a : Int) (b : Int) l (i : Int) l = l.set K (pxe u0 u1 u2 t' d') := by
    unfold N1_0
    rw [hX, hY, hin, not_t, and_f, lit_f]
    exact k17
  have n1 : N1_1 R (a : Int) (b : Int) x2 (a : Int) (b : Int) bb (i : Int) l = bb := by
    unfold N1_1
    rw [hX, hY, hin]
    rfl
  have k6 : WN1_3_6 R x2 (a : Int) (b : Int) (i : Int) l = l.set K (pxe u0 u1 u2 t' d') := h10
  have n3 : N1_3 R (a : Int) (b : Int) x2 (a : Int) (b : Int) (i : Int) l = l.set K (pxe u0 u1 u2 t' d') := by
    unfold N1_3
    rw [k6, hX, hY, hin]
    rfl
  have n2 : N1_2 R (i : Int) = ((i + 1 : Nat) : Int) := (zadd64 (x := (i : Int)) (y := 1) ⟨by omega, by omega⟩).trans rfl
  show (C1 R len (a : Int) (b : Int) x2 (a : Int) (b : Int) (n : Int) l (i : Int) l, O1_ R len (a : Int) (b : Int) x2 (a : Int) (b : Int) (n : Int) l (i : Int) l, [PV.l (N1_0 R (a : Int) (b : Int) x2 (a : Int) (b : Int) l (i : Int) l), .b (N1_1 R (a : Int) (b : Int) x2 (a : Int) (b : Int) bb (i : Int) l), .z (N1_2 R (i : Int)), .l (N1_3 R (a : Int) (b : Int) x2 (a : Int) (b : Int) (i : Int) l)]) = _
  rw [hC, hO, n0, n1, n2, n3]

end

/-- The main loop: the film's pixels and the page's are the same. -/
theorem main_loop {x2 l0 : Row} {a b n : Nat} (ha : a ≤ 6) (hb : b ≤ 6) (hn : n = a * b) (h0 : Px l0 n 0) :
    ∃ (l : Row) (i : Nat), E1 R (R.llen x2) (a : Int) (b : Int) x2 (a : Int) (b : Int) (n : Int) l0 (R.bc false) (R.zc 0) l0 = true ∧
      L1 R (R.llen x2) (a : Int) (b : Int) x2 (a : Int) (b : Int) (n : Int) l0 (R.bc false) (R.zc 0) l0 = [.l l, .b false, .z (i : Int), .l l] ∧ Px l n i ∧ i ≤ 80 ∧
      R.bite (R.zlt (i : Int) (R.llen x2)) (R.zlt (i : Int) (R.zc 80)) (R.bc false) = false := by
  have C1_false : ∀ (i : Nat) (l f : Row), ¬ ((i : Int) < R.llen x2 ∧ i < 80) → C1 R (R.llen x2) (a : Int) (b : Int) x2 (a : Int) (b : Int) (n : Int) l (i : Int) f = false := by
    intro i l f h
    unfold C1
    by_cases g : (i : Int) < R.llen x2
    · rw [zltF (show ¬ (i : Int) < R.zc 80 from fun e => h ⟨g, by have : (i : Int) < 80 := e; omega⟩), zltT g]; rfl
    · rw [zltF g]; rfl
  obtain ⟨g1, ⟨l, i, e, hp, h80⟩, g3⟩ := ends_inv (step := G1 R (R.llen x2) (a : Int) (b : Int) x2 (a : Int) (b : Int) (n : Int)) (p := [.l l0, .b false, .z (R.zc 0), .l l0])
    (fun p => ∃ (l : Row) (i : Nat), p = [.l l, .b false, .z (i : Int), .l l] ∧ Px l n i ∧ i ≤ 80) (fun p => 100 - (nthZ (D := R) p 2).toNat)
    ⟨l0, 0, rfl, h0, by omega⟩ (by
      rintro q ⟨l, i, rfl, hp, h80⟩ hc
      have hi : (i : Int) < R.llen x2 ∧ i < 80 := by
        by_cases h : (i : Int) < R.llen x2 ∧ i < 80
        · exact h
        · have := C1_false i l l h
          have hc' : C1 R (R.llen x2) (a : Int) (b : Int) x2 (a : Int) (b : Int) (n : Int) l (i : Int) l = true := hc
          rw [this] at hc'; cases hc'
      have mu : 100 - (nthZ (D := R) [.l l, .b false, .z ((i + 1 : Nat) : Int), .l l] 2).toNat < 100 - (nthZ (D := R) [.l l, .b false, .z (i : Int), .l l] 2).toNat := by
        show 100 - ((i + 1 : Nat) : Int).toNat < 100 - (i : Int).toNat
        omega
      obtain ⟨V, hX⟩ : ∃ V : Int, R.lz x2 (i : Int) 0 = V := ⟨_, rfl⟩
      obtain ⟨W, hY⟩ : ∃ W : Int, R.lz x2 (i : Int) 1 = W := ⟨_, rfl⟩
      by_cases ho : V < 0 ∨ W < 0 ∨ (a : Int) ≤ V ∨ (b : Int) ≤ W
      · have hs := step_out (l := l) (n := n) hi.1 hi.2 hX hY false ho
        rw [hs]
        exact ⟨rfl, ⟨l, i + 1, rfl, ⟨hp.len, fun j hj => by
          obtain ⟨s0, s1, s2, t, d, k1, k2, k3, k4, k5⟩ := hp.px j hj
          exact ⟨s0, s1, s2, t, d, k1, k2, k3, k4, by omega⟩⟩, by omega⟩, mu⟩
      · obtain ⟨X, rfl⟩ : ∃ X : Nat, V = (X : Int) := ⟨V.toNat, by omega⟩
        obtain ⟨Y, rfl⟩ : ∃ Y : Nat, W = (Y : Int) := ⟨W.toNat, by omega⟩
        have hXa : X < a := by omega
        have hYb : Y < b := by omega
        have hkn : Y * a + X < n := by
          have : (Y + 1) * a ≤ b * a := Nat.mul_le_mul_right _ hYb
          rw [hn, Nat.mul_comm a b]
          rw [Nat.add_mul, Nat.one_mul] at this
          omega
        obtain ⟨s0, s1, s2, t, d, k1, k2, k3, k4, k5⟩ := hp.px _ hkn
        have hs := step_in hi.1 hi.2 hX hY false ha hb hXa hYb hn hp.len rfl rfl rfl k1 k2 k3 k4 k5
        rw [hs]
        refine ⟨rfl, ⟨_, i + 1, rfl, ⟨by rw [List.length_set]; exact hp.len, fun j hj => ?_⟩, by omega⟩, mu⟩
        by_cases e : Y * a + X = j
        · subst e
          have hg := getSet (e' := nxt s0 s1 s2 t d (R.lf x2 (i : Int) 2) (R.lf x2 (i : Int) 3) (R.lf x2 (i : Int) 4)) k1
          rw [hg]
          unfold nxt
          split
          · rename_i h; exact ⟨_, _, _, _, _, rfl, h.2, by omega, k4, by omega⟩
          · exact ⟨_, _, _, _, _, rfl, k2, k3, by omega, by omega⟩
        · obtain ⟨s0', s1', s2', t', d', q1, q2, q3, q4, q5⟩ := hp.px j hj
          exact ⟨s0', s1', s2', t', d', by rw [List.getElem?_set_ne e]; exact q1, q2, q3, q4, by omega⟩)
  have e' : L1 R (R.llen x2) (a : Int) (b : Int) x2 (a : Int) (b : Int) (n : Int) l0 (R.bc false) (R.zc 0) l0 = [.l l, .b false, .z (i : Int), .l l] := e
  refine ⟨l, i, g1, e', hp, h80, ?_⟩
  rw [e] at g3
  by_cases h : (i : Int) < R.llen x2 ∧ i < 80
  · exfalso
    -- it would go on
    obtain ⟨V, hX⟩ : ∃ V : Int, R.lz x2 (i : Int) 0 = V := ⟨_, rfl⟩
    obtain ⟨W, hY⟩ : ∃ W : Int, R.lz x2 (i : Int) 1 = W := ⟨_, rfl⟩
    by_cases ho : V < 0 ∨ W < 0 ∨ (a : Int) ≤ V ∨ (b : Int) ≤ W
    · rw [step_out (l := l) (n := n) h.1 h.2 hX hY false ho] at g3; cases g3
    · obtain ⟨X, rfl⟩ : ∃ X : Nat, V = (X : Int) := ⟨V.toNat, by omega⟩
      obtain ⟨Y, rfl⟩ : ∃ Y : Nat, W = (Y : Int) := ⟨W.toNat, by omega⟩
      have hXa : X < a := by omega
      have hYb : Y < b := by omega
      have hkn : Y * a + X < n := by
        have : (Y + 1) * a ≤ b * a := Nat.mul_le_mul_right _ hYb
        rw [hn, Nat.mul_comm a b]
        rw [Nat.add_mul, Nat.one_mul] at this
        omega
      obtain ⟨s0, s1, s2, t, d, k1, k2, k3, k4, k5⟩ := hp.px _ hkn
      rw [step_in h.1 h.2 hX hY false ha hb hXa hYb hn hp.len rfl rfl rfl k1 k2 k3 k4 k5] at g3
      cases g3
  · by_cases g : (i : Int) < R.llen x2
    · rw [zltF (show ¬ (i : Int) < R.zc 80 from fun e => h ⟨g, by have : (i : Int) < 80 := e; omega⟩), zltT g]; rfl
    · rw [zltF g]; rfl

/-- A pixel's mean, three cells; and how many were dropped. -/
noncomputable def mc : List Cell → Row
  | [.f s0, .f s1, .f s2, .z t, .z d] => [[.f (S24_0 R s0 t d)], [.f (S24_1 R s1 t d)], [.f (S24_2 R s2 t d)]]
  | _ => []
noncomputable def img (l : Row) (B : Nat) : Nat → Row
  | 0 => []
  | j + 1 => img l B j ++ mc (l.getD (B + j) [])
def dc : List Cell → Row
  | [_, _, _, _, .z d] => [[.z d]]
  | _ => []
def drs (l : Row) (B : Nat) : Nat → Row
  | 0 => []
  | j + 1 => drs l B j ++ dc (l.getD (B + j) [])

theorem mc_len (e : List Cell) : (mc e).length ≤ 3 := by
  unfold mc; split <;> simp
theorem img_len (l : Row) (B : Nat) : ∀ j, (img l B j).length ≤ 3 * j
  | 0 => by simp [img]
  | j + 1 => by
    have := img_len l B j
    have := mc_len (l.getD (B + j) [])
    simp only [img, List.length_append]; omega
theorem dc_len (e : List Cell) : (dc e).length ≤ 1 := by
  unfold dc; split <;> simp
theorem drs_len (l : Row) (B : Nat) : ∀ j, (drs l B j).length ≤ j
  | 0 => by simp [drs]
  | j + 1 => by
    have := drs_len l B j
    have := dc_len (l.getD (B + j) [])
    simp only [drs, List.length_append]; omega

theorem add_nat {x y : Nat} (h : x + y ≤ 1000000) : R.zadd .i64 (x : Int) (y : Int) = ((x + y : Nat) : Int) := (zadd64 (x := (x : Int)) (y := (y : Int)) ⟨by omega, by omega⟩).trans (Int.natCast_add x y).symm
theorem suc {i : Nat} (h : i ≤ 1000000) : R.zadd .i64 (i : Int) (R.zc 1) = ((i + 1 : Nat) : Int) := (zadd64 (x := (i : Int)) (y := 1) ⟨by omega, by omega⟩).trans rfl
theorem mul_nat {x y : Nat} (h : x * y ≤ 1000000) : R.zmul .i64 (x : Int) (y : Int) = ((x * y : Nat) : Int) := (zmul64 (x := (x : Int)) (y := (y : Int)) (by rw [← Int.natCast_mul]; omega)).trans (Int.natCast_mul x y).symm
theorem sub_nat {x y : Nat} (h : y ≤ x) (h2 : x ≤ 1000000) : R.zsub .i64 (x : Int) (y : Int) = ((x - y : Nat) : Int) := (zsub64 (x := (x : Int)) (y := (y : Int)) ⟨by omega, by omega⟩).trans (show (x : Int) - (y : Int) = ((x - y : Nat) : Int) by omega)

section
variable {l : Row} {n k : Nat} (hp : Px l n k) (hn : n ≤ 36)
include hp hn

omit hn in
theorem at_ {j : Nat} (hj : j < n) : ∃ s0 s1 s2 t d, l[j]? = some (pxe s0 s1 s2 t d) ∧ l.getD j [] = pxe s0 s1 s2 t d := by
  obtain ⟨s0, s1, s2, t, d, h, _⟩ := hp.px j hj
  exact ⟨s0, s1, s2, t, d, h, by rw [List.getD_eq_getElem?_getD, h]; rfl⟩

theorem img0 {B m : Nat} (hB : B + m ≤ n) : E0 R (B : Int) (m : Int) (m : Int) l R.lnil (R.zc 0) = true ∧ L0 R (B : Int) (m : Int) (m : Int) l R.lnil (R.zc 0) = [.l (img l B m), .z (m : Int)] := by
  refine ends_path (step := G0 R (B : Int) (m : Int) (m : Int) l) (p := [.l [], .z (R.zc 0)]) (fun j => [.l (img l B j), .z (j : Int)]) m rfl (fun j hj => ?_) ?_
  · obtain ⟨s0, s1, s2, t, d, h, hg⟩ := at_ hp (j := B + j) (by omega)
    have b1 : R.zlt (j : Int) (m : Int) = true := zltT (by omega)
    have b2 : R.zle (R.zc 0) (j : Int) = true := zleT (show (0 : Int) ≤ j by omega)
    have hl := img_len l B (j + 1)
    have hi : R.lapp (img l B j) [[.f (S24_0 R s0 t d)], [.f (S24_1 R s1 t d)], [.f (S24_2 R s2 t d)]] = img l B (j + 1) := by
      show _ = img l B j ++ mc (l.getD (B + j) [])
      rw [hg]; rfl
    show (C0 R (m : Int) (j : Int), O0_ R (B : Int) (m : Int) (m : Int) l (img l B j) (j : Int), [PV.l (N0_0 R (B : Int) l (img l B j) (j : Int)), .z (N0_1 R (j : Int))]) = _
    unfold C0 O0_ N0_0 N0_1
    rw [add_nat (by omega), suc (by omega), rf0 h, rf1 h, rf2 h, rz3 h, rz4 h, hi, roomT (by omega), b1, b2]
    rfl
  · show C0 R (m : Int) (m : Int) = false
    exact zltF (by omega)

theorem img4 : E4 R (n : Int) l R.lnil (R.zc 0) = true ∧ L4 R (n : Int) l R.lnil (R.zc 0) = [.l (img l 0 n), .z (n : Int)] := by
  refine ends_path (step := G4 R (n : Int) l) (p := [.l [], .z (R.zc 0)]) (fun j => [.l (img l 0 j), .z (j : Int)]) n rfl (fun j hj => ?_) ?_
  · obtain ⟨s0, s1, s2, t, d, h, hg⟩ := at_ hp (j := j) hj
    have b1 : R.zlt (j : Int) (n : Int) = true := zltT (by omega)
    have b2 : R.zle (R.zc 0) (j : Int) = true := zleT (show (0 : Int) ≤ j by omega)
    have hl := img_len l 0 (j + 1)
    have hi : R.lapp (img l 0 j) [[.f (S17_0 R s0 t d)], [.f (S17_1 R s1 t d)], [.f (S17_2 R s2 t d)]] = img l 0 (j + 1) := by
      show _ = img l 0 j ++ mc (l.getD (0 + j) [])
      rw [Nat.zero_add, hg]; rfl
    show (C4 R (n : Int) (j : Int), O4_ R (n : Int) l (img l 0 j) (j : Int), [PV.l (N4_0 R l (img l 0 j) (j : Int)), .z (N4_1 R (j : Int))]) = _
    unfold C4 O4_ N4_0 N4_1
    rw [suc (by omega), rf0 h, rf1 h, rf2 h, rz3 h, rz4 h, hi, roomT (by omega), b1, b2]
    rfl
  · show C4 R (n : Int) (n : Int) = false
    exact zltF (by omega)

theorem img6 {B m : Nat} (hB : B + m ≤ n) : E6 R (B : Int) (m : Int) l R.lnil (R.zc 0) = true ∧ L6 R (B : Int) (m : Int) l R.lnil (R.zc 0) = [.l (img l B m), .z (m : Int)] := by
  refine ends_path (step := G6 R (B : Int) (m : Int) l) (p := [.l [], .z (R.zc 0)]) (fun j => [.l (img l B j), .z (j : Int)]) m rfl (fun j hj => ?_) ?_
  · obtain ⟨s0, s1, s2, t, d, h, hg⟩ := at_ hp (j := B + j) (by omega)
    have b1 : R.zlt (j : Int) (m : Int) = true := zltT (by omega)
    have b2 : R.zle (R.zc 0) (j : Int) = true := zleT (show (0 : Int) ≤ j by omega)
    have hl := img_len l B (j + 1)
    have hi : R.lapp (img l B j) [[.f (S17_0 R s0 t d)], [.f (S17_1 R s1 t d)], [.f (S17_2 R s2 t d)]] = img l B (j + 1) := by
      show _ = img l B j ++ mc (l.getD (B + j) [])
      rw [hg]; rfl
    show (C6 R (m : Int) (j : Int), O6_ R (B : Int) (m : Int) l (img l B j) (j : Int), [PV.l (N6_0 R (B : Int) l (img l B j) (j : Int)), .z (N6_1 R (j : Int))]) = _
    unfold C6 O6_ N6_0 N6_1
    rw [add_nat (by omega), suc (by omega), rf0 h, rf1 h, rf2 h, rz3 h, rz4 h, hi, roomT (by omega), b1, b2]
    rfl
  · show C6 R (m : Int) (m : Int) = false
    exact zltF (by omega)

theorem drops : E2 R (R.zc 0) (n : Int) (n : Int) l R.lnil (R.zc 0) = true ∧ L2 R (R.zc 0) (n : Int) (n : Int) l R.lnil (R.zc 0) = [.l (drs l 0 n), .z (n : Int)] := by
  refine ends_path (step := G2 R (R.zc 0) (n : Int) (n : Int) l) (p := [.l [], .z (R.zc 0)]) (fun j => [.l (drs l 0 j), .z (j : Int)]) n rfl (fun j hj => ?_) ?_
  · obtain ⟨s0, s1, s2, t, d, h, hg⟩ := at_ hp (j := j) hj
    have b1 : R.zlt (j : Int) (n : Int) = true := zltT (by omega)
    have b2 : R.zle (R.zc 0) (j : Int) = true := zleT (show (0 : Int) ≤ j by omega)
    have hl := drs_len l 0 (j + 1)
    have h0 : R.zadd .i64 (R.zc 0) (j : Int) = (j : Int) := (zadd64 (x := 0) (y := (j : Int)) ⟨by omega, by omega⟩).trans (Int.zero_add _)
    have hi : R.lapp (drs l 0 j) [[.z d]] = drs l 0 (j + 1) := by
      show _ = drs l 0 j ++ dc (l.getD (0 + j) [])
      rw [Nat.zero_add, hg]; rfl
    show (C2 R (n : Int) (j : Int), O2_ R (R.zc 0) (n : Int) (n : Int) l (drs l 0 j) (j : Int), [PV.l (N2_0 R (R.zc 0) l (drs l 0 j) (j : Int)), .z (N2_1 R (j : Int))]) = _
    unfold C2 O2_ N2_0 N2_1
    rw [h0, suc (by omega), rz4 h, hi, roomT (by omega), b1, b2]
    rfl
  · show C2 R (n : Int) (n : Int) = false
    exact zltF (by omega)

omit hn in
theorem drs_at : ∀ j, j ≤ n → (drs l 0 j).length = j ∧ ∀ i, i < j → (drs l 0 j)[i]? = some [.z (R.lz l (i : Int) 4)]
  | 0, _ => ⟨rfl, fun i hi => by omega⟩
  | j + 1, hj => by
    obtain ⟨h1, h2⟩ := drs_at j (by omega)
    obtain ⟨s0, s1, s2, t, d, h, hg⟩ := at_ hp (j := j) hj
    have e : drs l 0 (j + 1) = drs l 0 j ++ [[.z d]] := by
      show drs l 0 j ++ dc (l.getD (0 + j) []) = _
      rw [Nat.zero_add, hg]; rfl
    rw [e]
    refine ⟨by simp [h1], fun i hi => ?_⟩
    by_cases ei : i = j
    · subst ei
      rw [List.getElem?_append_right (by omega), h1, Nat.sub_self, rz4 h]; rfl
    · rw [List.getElem?_append_left (by omega)]; exact h2 i (by omega)

theorem same3 : E3 R (n : Int) (n : Int) l (drs l 0 n) false (R.zc 0) = true ∧ L3 R (n : Int) (n : Int) l (drs l 0 n) false (R.zc 0) = [.b false, .z (n : Int)] := by
  refine ends_path (step := G3 R (n : Int) (n : Int) l (drs l 0 n)) (p := [.b false, .z (R.zc 0)]) (fun j => [.b false, .z (j : Int)]) n rfl (fun j hj => ?_) ?_
  · have b1 : R.zlt (j : Int) (n : Int) = true := zltT (by omega)
    have b2 : R.zle (R.zc 0) (j : Int) = true := zleT (show (0 : Int) ≤ j by omega)
    have b3 : R.zle (n : Int) (j : Int) = false := zleF (by omega)
    have hd : R.lz (drs l 0 n) (j : Int) 0 = R.lz l (j : Int) 4 := by
      show Row.int (drs l 0 n) (j : Int) 0 = _
      unfold Row.int Row.cell
      rw [Int.toNat_natCast, (drs_at hp n (Nat.le_refl _)).2 j hj]; rfl
    have b4 : R.zeq (R.lz l (j : Int) 4) (R.lz l (j : Int) 4) = true := zeqT rfl
    show (C3 R (n : Int) (n : Int) l (drs l 0 n) (j : Int), O3_ R (n : Int) (n : Int) (j : Int), [PV.b false, .z (N3_1 R (j : Int))]) = _
    unfold C3 O3_ N3_1
    rw [suc (by omega), hd, b1, b2, b3, b4]
    rfl
  · show C3 R (n : Int) (n : Int) l (drs l 0 n) (n : Int) = false
    unfold C3
    rw [zltF (show ¬ (n : Int) < (n : Int) by omega)]; rfl
end

/-- Floats are the same as themselves, whatever they are. -/
theorem same5 {M : Row} (hM : M.length ≤ 1000) : E5 R (R.llen M) (R.llen M) M M (R.bc false) (R.zc 0) = true ∧ L5 R (R.llen M) (R.llen M) M M (R.bc false) (R.zc 0) = [.b false, .z (R.llen M)] := by
  refine ends_path (step := G5 R (R.llen M) (R.llen M) M M) (p := [.b false, .z (R.zc 0)]) (fun j => [.b false, .z (j : Int)]) M.length rfl (fun j hj => ?_) ?_
  · have b1 : R.zlt (j : Int) (R.llen M) = true := zltT (show (j : Int) < (M.length : Int) by omega)
    have b2 : R.zle (R.zc 0) (j : Int) = true := zleT (show (0 : Int) ≤ j by omega)
    have b3 : ∀ x, S34_0 R x x = true := fun x => by unfold S34_0; cases R.feq x x <;> rfl
    show (C5 R (R.llen M) (R.llen M) M M (j : Int), O5_ R (R.llen M) (R.llen M) (j : Int), [PV.b false, .z (N5_1 R (j : Int))]) = _
    unfold C5 O5_ N5_1
    rw [suc (by omega), b1, b2, b3]
    rfl
  · show C5 R (R.llen M) (R.llen M) M M ((M.length : Nat) : Int) = false
    unfold C5
    rw [zltF (show ¬ ((M.length : Nat) : Int) < R.llen M from Int.lt_irrefl _)]; rfl

/-- A side of the film. -/
theorem side {x : Int} (h : okInt .u8 x) : ∃ a : Nat, 1 ≤ a ∧ a ≤ 6 ∧ R.zadd .i64 (R.zconv .i64 (R.zrem .u8 x (R.zc 6))) (R.zc 1) = (a : Int) := by
  have h0 : 0 ≤ x := h.1
  have e : R.zrem .u8 x (R.zc 6) = x % 6 := by
    show x.tmod 6 = x % 6
    exact Int.tmod_eq_emod_of_nonneg h0
  obtain ⟨r, hr⟩ : ∃ r : Int, x % 6 = r := ⟨_, rfl⟩
  have b : 0 ≤ r ∧ r < 6 := by omega
  rw [e, hr, zconv64 (x := r) ⟨by omega, by omega⟩]
  refine ⟨(r + 1).toNat, by omega, by omega, ?_⟩
  exact (zadd64 (x := r) (y := 1) ⟨by omega, by omega⟩).trans (show r + 1 = (((r + 1).toNat : Nat) : Int) by omega)

theorem law_FilmTakes (x0 : Int) (x1 : Int) (x2 : Row) (_k0 : okInt .u8 x0) (_k1 : okInt .u8 x1) (_k2 : okRow [.z .i64, .z .i64, .f, .f, .f] x2) : O4 R x0 x1 x2 = true ∧ S4_0 R x0 x1 x2 = true := by
  obtain ⟨a, a1, a6, hA⟩ := side _k0
  obtain ⟨b, b1, b6, hB⟩ := side _k1
  have hA' : WS4_0_0 R x0 = (a : Int) := hA
  have hB' : WS4_0_1 R x1 = (b : Int) := hB
  have oA : WO4_0 R x0 = (a : Int) := hA
  have oB : WO4_1 R x1 = (b : Int) := hB
  have n36 : a * b ≤ 36 := Nat.le_trans (Nat.mul_le_mul a6 b6) (by decide)
  have n1 : 1 ≤ a * b := Nat.le_trans (by decide) (Nat.mul_le_mul a1 b1)
  have mab : R.zmul .i64 (a : Int) (b : Int) = ((a * b : Nat) : Int) := mul_nat (by omega)
  have mba : R.zmul .i64 (b : Int) (a : Int) = ((a * b : Nat) : Int) := by rw [mul_nat (by rw [Nat.mul_comm]; omega), Nat.mul_comm]
  have m0a : R.zmul .i64 (R.zc 0) (a : Int) = R.zc 0 := (zmul64 (x := 0) (y := (a : Int)) ⟨by omega, by omega⟩).trans (Int.zero_mul _)
  have hprod : (b - 1) * a + a = a * b := by
    have : (b - 1 + 1) * a = (b - 1) * a + a := by rw [Nat.add_mul, Nat.one_mul]
    rw [← this, Nat.sub_add_cancel b1, Nat.mul_comm]
  have hprod2 : (b + 1) * a = a * b + a := by rw [Nat.add_mul, Nat.one_mul, Nat.mul_comm b a]
  have hb1 : R.zsub .i64 (b : Int) (R.zc 1) = ((b - 1 : Nat) : Int) := sub_nat (x := b) (y := 1) b1 (by omega)
  have hbs : R.zadd .i64 ((b - 1 : Nat) : Int) (R.zc 1) = (b : Int) := by rw [suc (by omega), Nat.sub_add_cancel b1]
  have mb1 : R.zmul .i64 ((b - 1 : Nat) : Int) (a : Int) = (((b - 1) * a : Nat) : Int) := mul_nat (by omega)
  have hbp : R.zadd .i64 (b : Int) (R.zc 1) = ((b + 1 : Nat) : Int) := suc (by omega)
  -- the first pixels
  have l0 : Px (R.lrep ((a * b : Nat) : Int) [.f (R.fc 0), .f (R.fc 0), .f (R.fc 0), .z (R.zc 0), .z (R.zc 0)]) (a * b) 0 := by
    refine ⟨by show (List.replicate _ _).length = _; rw [List.length_replicate]; exact Int.toNat_natCast _, fun i hi => ⟨R.fc 0, R.fc 0, R.fc 0, 0, 0, ?_, by kernel_rfl, by omega, by omega, by omega⟩⟩
    show (List.replicate ((a * b : Nat) : Int).toNat _)[i]? = _
    rw [Int.toNat_natCast, List.getElem?_replicate, if_pos hi]
  obtain ⟨l, i, e1, e2, hp, _, hend⟩ := main_loop (x2 := x2) a6 b6 rfl l0
  have hlen : R.llen l = ((a * b : Nat) : Int) := congrArg Int.ofNat hp.len
  have hn := n36
  generalize hN : a * b = n at *
  obtain ⟨d1, d2⟩ := drops hp hn
  obtain ⟨dl, _⟩ := drs_at hp n (Nat.le_refl _)
  have dlen : R.llen (drs l 0 n) = (n : Int) := congrArg Int.ofNat dl
  obtain ⟨t1, t2⟩ := same3 hp hn
  obtain ⟨i1, i2⟩ := img0 hp hn (B := 0) (m := n) (by omega)
  obtain ⟨j1, j2⟩ := img4 hp hn
  have il := img_len l 0 n
  obtain ⟨s1, s2⟩ := same5 (M := img l 0 n) (by omega)
  obtain ⟨r1, r2⟩ := img0 hp hn (B := (b - 1) * a) (m := a) (by omega)
  obtain ⟨v1, v2⟩ := img6 hp hn (B := (b - 1) * a) (m := a) (by omega)
  have rl := img_len l ((b - 1) * a) a
  obtain ⟨y1, y2⟩ := same5 (M := img l ((b - 1) * a) a) (by omega)
  have z0 : R.zsub .i64 (n : Int) (R.zc 0) = (n : Int) := sub_nat (x := n) (y := 0) (by omega) (by omega)
  have zr : R.zsub .i64 (n : Int) (((b - 1) * a : Nat) : Int) = (a : Int) := by
    rw [sub_nat (by omega) (by omega), show n - (b - 1) * a = a by omega]
  have bb : R.zlt (b : Int) (b : Int) = false := zltF (by omega)
  have ble : R.zle (b : Int) (b : Int) = true := zleT (by omega)
  have ow := aw_O7
  have sw := aw_S7_0
  have mm : R.bite (R.bite (R.zlt (R.zmin (a : Int) (b : Int)) (R.zc 1)) (R.bc true) (R.zlt (R.zc 8192) (R.zmax (a : Int) (b : Int)))) (R.bc true) (R.zlt (R.zc 65536) (n : Int)) = false := by
    show (if (if decide ((if (b : Int) < a then (b : Int) else a) < 1) = true then true else decide ((8192 : Int) < if (b : Int) > a then (b : Int) else a)) = true then true else decide ((65536 : Int) < (n : Int))) = false
    grind
  have q0 : R.zle (R.zc 0) (n : Int) = true := zleT (show (0 : Int) ≤ n by omega)
  have q1 : R.zle (n : Int) (R.zc 1073741824) = true := zleT (show (n : Int) ≤ 1073741824 by omega)
  have qn : R.zle (n : Int) (n : Int) = true := zleT (by omega)
  have q00 : R.zle (R.zc 0) (R.zc 0) = true := rfl
  have c1 : R.zlt ((b - 1 : Nat) : Int) (R.zc 0) = false := zltF (show ¬ ((b - 1 : Nat) : Int) < 0 by omega)
  have c2 : R.zle (b : Int) ((b - 1 : Nat) : Int) = false := zleF (by omega)
  have c3 : R.zle (R.zc 0) (((b - 1) * a : Nat) : Int) = true := zleT (show (0 : Int) ≤ (((b - 1) * a : Nat) : Int) by omega)
  have c4 : R.zle (((b - 1) * a : Nat) : Int) (n : Int) = true := zleT (by omega)
  have nn0 : R.zlt (n : Int) (n : Int) = false := zltF (by omega)
  have lmi : R.zlt (R.llen (img l 0 n)) (R.llen (img l 0 n)) = false := zltF (Int.lt_irrefl _)
  have lmr : R.zlt (R.llen (img l ((b - 1) * a) a)) (R.llen (img l ((b - 1) * a) a)) = false := zltF (Int.lt_irrefl _)
  have emi : R.zeq (R.llen (img l 0 n)) (R.llen (img l 0 n)) = true := zeqT rfl
  have emr : R.zeq (R.llen (img l ((b - 1) * a) a)) (R.llen (img l ((b - 1) * a) a)) = true := zeqT rfl
  have enn : R.zeq (n : Int) (n : Int) = true := zeqT rfl
  have b0 : R.zlt (b : Int) (R.zc 0) = false := zltF (show ¬ (b : Int) < 0 by omega)
  -- the page's names
  have w2 : WS4_0_2 R x0 x1 = (n : Int) := by unfold WS4_0_2; rw [hA', hB']; exact mab
  have w3 : WS4_0_3 R x0 x1 = R.lrep (n : Int) [.f (R.fc 0), .f (R.fc 0), .f (R.fc 0), .z (R.zc 0), .z (R.zc 0)] := by unfold WS4_0_3; rw [w2]
  have w4 : WS4_0_4 R x0 x1 x2 = [.l l, .b false, .z (i : Int), .l l] := by unfold WS4_0_4; rw [hA', hB', w2, w3]; exact e2
  have w5 : WS4_0_5 R x0 x1 = (n : Int) := by unfold WS4_0_5; rw [hA', hB']; exact mba
  have w6 : WS4_0_6 R x0 x1 = (n : Int) := by unfold WS4_0_6; rw [w5, hA', m0a, z0]
  have w7 : WS4_0_7 R x0 x1 x2 = [.l (drs l 0 n), .z (n : Int)] := by unfold WS4_0_7; rw [hA', m0a, w6, w4]; exact d2
  have w8 : WS4_0_8 R x0 x1 x2 = drs l 0 n := by unfold WS4_0_8; rw [hB', bb, w7]; rfl
  have w9 : WS4_0_9 R x0 x1 x2 = [.b false, .z (n : Int)] := by
    unfold WS4_0_9; rw [w4, w8]
    show L3 R (R.llen l) (R.llen (drs l 0 n)) l (drs l 0 n) false (R.zc 0) = _
    rw [hlen, dlen]; exact t2
  have w10 : WS4_0_10 R x0 x1 x2 = [.l (img l 0 n), .z (n : Int)] := by unfold WS4_0_10; rw [hA', m0a, w6, w4]; exact i2
  have w11 : WS4_0_11 R x0 x1 x2 = img l 0 n := by unfold WS4_0_11; rw [hB', bb, w10]; rfl
  have w12 : WS4_0_12 R x0 x1 x2 = [.l (img l 0 n), .z (n : Int)] := by
    unfold WS4_0_12; rw [w4]
    show L4 R (R.llen l) l R.lnil (R.zc 0) = _
    rw [hlen]; exact j2
  have w13 : WS4_0_13 R x0 x1 x2 = [.b false, .z (R.llen (img l 0 n))] := by unfold WS4_0_13; rw [w11, w12]; exact s2
  have w14 : WS4_0_14 R x1 = false := by unfold WS4_0_14; rw [hB', hb1, c1]
  have w15 : WS4_0_15 R x1 = (b : Int) := by unfold WS4_0_15; rw [hB', hb1, hbs]
  have w16 : WS4_0_16 R x0 x1 = (((b - 1) * a : Nat) : Int) := by unfold WS4_0_16; rw [hA', hB', hb1, mb1]
  have w17 : WS4_0_17 R x0 x1 = (a : Int) := by unfold WS4_0_17; rw [w15, hA', mba, w16, zr]
  have w18 : WS4_0_18 R x0 x1 x2 = [.l (img l ((b - 1) * a) a), .z (a : Int)] := by unfold WS4_0_18; rw [w16, w17, w4]; exact r2
  have w19 : WS4_0_19 R x0 x1 x2 = img l ((b - 1) * a) a := by unfold WS4_0_19; rw [w14, w15, hB', hb1, c2, bb, w18]; rfl
  have w20 : WS4_0_20 R x0 x1 x2 = [.l (img l ((b - 1) * a) a), .z (a : Int)] := by
    unfold WS4_0_20; rw [w16, w4]
    show L6 R _ (R.zsub .i64 (R.llen l) _) l R.lnil (R.zc 0) = _
    rw [hlen, zr]; exact v2
  have w21 : WS4_0_21 R x0 x1 x2 = [.b false, .z (R.llen (img l ((b - 1) * a) a))] := by unfold WS4_0_21; rw [w19, w20]; exact y2
  constructor
  · have o2 : WO4_2 R x0 x1 = true := by unfold WO4_2; rw [oA, oB, mab, q0, q1]; rfl
    have o3 : WO4_3 R x0 x1 = R.lrep (n : Int) [.f (R.fc 0), .f (R.fc 0), .f (R.fc 0), .z (R.zc 0), .z (R.zc 0)] := w3
    have o4 : WO4_4 R x0 x1 x2 = true := by unfold WO4_4; rw [oA, oB, mab, o3]; exact e1
    have o5 : WO4_5 R x0 x1 x2 = [.l l, .b false, .z (i : Int), .l l] := w4
    have o6 : WO4_6 R x0 x1 = true := by unfold WO4_6; rw [oA, oB, m0a, mba, mab, q00, q0, qn]; rfl
    have o7 : WO4_7 R x0 x1 = (n : Int) := w6
    have o8 : WO4_8 R x0 x1 x2 = true := by unfold WO4_8; rw [oA, m0a, o7, o5]; exact d1
    have o10 : WO4_10 R x0 x1 x2 = drs l 0 n := w8
    have o11 : WO4_11 R x0 x1 x2 = true := by
      unfold WO4_11; rw [o5, o10]
      show E3 R (R.llen l) (R.llen (drs l 0 n)) l (drs l 0 n) false (R.zc 0) = _
      rw [hlen, dlen]; exact t1
    have o12 : WO4_12 R x0 x1 x2 = [.b false, .z (n : Int)] := w9
    have o13 : WO4_13 R x1 = false := w14
    have o14 : WO4_14 R x1 = false := by unfold WO4_14; rw [o13, oB, hb1, c2]; rfl
    have o15 : WO4_15 R x1 = (b : Int) := w15
    have o16 : WO4_16 R x1 = false := by unfold WO4_16; rw [o13, o15, oB, bb]; rfl
    have o17 : WO4_17 R x0 x1 = (((b - 1) * a : Nat) : Int) := w16
    have o18 : WO4_18 R x0 x1 = (a : Int) := w17
    have o19 : WO4_19 R x0 x1 x2 = true := by unfold WO4_19; rw [o17, o18, o5]; exact r1
    have o20 : WO4_20 R x0 x1 x2 = true := by unfold WO4_20; rw [oA, m0a, o7, o5]; exact i1
    have o21 : WO4_21 R x0 x1 x2 = true := by
      unfold WO4_21; rw [o5]
      show E4 R (R.llen l) l R.lnil (R.zc 0) = _
      rw [hlen]; exact j1
    have o23 : WO4_23 R x0 x1 x2 = img l 0 n := w11
    have o24 : WO4_24 R x0 x1 x2 = [.l (img l 0 n), .z (n : Int)] := w12
    have o25 : WO4_25 R x0 x1 x2 = false := by
      unfold WO4_25; rw [o23, o24]
      show R.bnot (R.zeq (R.llen (img l 0 n)) (R.llen (img l 0 n))) = _
      rw [emi]; rfl
    have o26 : WO4_26 R x0 x1 x2 = true := by unfold WO4_26; rw [o23, o24]; exact s1
    have o27 : WO4_27 R x0 x1 x2 = [.b false, .z (R.llen (img l 0 n))] := w13
    have o28 : WO4_28 R x0 x1 x2 = true := by
      unfold WO4_28; rw [o25, o27, o23, o10, o5]
      show R.bite (R.bite false (R.bc false) (R.bite (R.zlt (R.llen (img l 0 n)) (R.llen (img l 0 n))) (R.bc false) (R.bc true))) (R.zeq (R.llen (drs l 0 n)) (R.llen l)) (R.bc false) = true
      rw [lmi, dlen, hlen, enn]; rfl
    have o29 : WO4_29 R x0 x1 x2 = (a : Int) := by
      unfold WO4_29; rw [o5, o17]
      show R.zsub .i64 (R.llen l) _ = _
      rw [hlen, zr]
    have o30 : WO4_30 R x0 x1 x2 = true := by unfold WO4_30; rw [o17, o29, o5]; exact v1
    have o31 : WO4_31 R x0 x1 x2 = [.l (img l ((b - 1) * a) a), .z (a : Int)] := w18
    have o32 : WO4_32 R x0 x1 x2 = img l ((b - 1) * a) a := by unfold WO4_32; rw [o14, o16, o31]; rfl
    have o33 : WO4_33 R x0 x1 x2 = [.l (img l ((b - 1) * a) a), .z (a : Int)] := by unfold WO4_33; rw [o17, o29, o5]; exact v2
    have o34 : WO4_34 R x0 x1 x2 = false := by
      unfold WO4_34; rw [o32, o33]
      show R.bnot (R.zeq (R.llen (img l ((b - 1) * a) a)) (R.llen (img l ((b - 1) * a) a))) = _
      rw [emr]; rfl
    have o35 : WO4_35 R x0 x1 x2 = true := by unfold WO4_35; rw [o32, o33]; exact y1
    have o36 : WO4_36 R x0 x1 x2 = [.b false, .z (R.llen (img l ((b - 1) * a) a))] := by unfold WO4_36; rw [o32, o33]; exact y2
    have o40 : WO4_40 R x0 x1 x2 = true := by
      unfold WO4_40
      rw [o14, o16, o17, o15, oA, oB, mba, mab, c3, c4, qn, o19, bb, o6, o20, o21, o25, o26, o28, o5]
      show R.band (R.band true true) (R.band _ (R.band (R.bite true (R.band (R.band true (R.zle (((b - 1) * a : Nat) : Int) (R.llen l))) _) _) _)) = true
      rw [hlen, c4, o30, o34, o35, o36, o32, b0, ble]
      show R.band true (R.band _ (R.band _ (R.bite (R.bite true (R.bite false (R.bc false) (R.bite (R.zlt (R.llen (img l ((b - 1) * a) a)) (R.llen (img l ((b - 1) * a) a))) (R.bc false) (R.bc true))) _) _ _))) = true
      rw [lmr]
      rfl
    unfold O4
    rw [oA, oB, mab, mm, o2, ow, sw, o4, o5]
    show R.band _ (R.bite false _ (R.band true (R.band true (R.bite (R.bnot true) _ (R.band true (R.band true (R.bite (R.bite (R.zlt (i : Int) (R.llen x2)) (R.zlt (i : Int) (R.zc 80)) (R.bc false)) _ _))))))) = true
    rw [hend, bb, o6, o8, o11, o12]
    show R.band _ (R.bite false _ (R.band true (R.band true (R.bite (R.bnot true) _ (R.band true (R.band true (R.bite false _ (R.band _ (R.band true (R.bite (R.zlt (n : Int) (R.llen l)) _ _)))))))))) = true
    rw [hlen, nn0, o40]
    rfl
  · unfold S4_0
    rw [hA', hB', w2, mm, sw, w4, w9, w11, w12, w13, w8, w19, w20, w21]
    show R.bite false _ (R.bite (R.bnot true) _ (R.bite (R.bite (R.zlt (i : Int) (R.llen x2)) (R.zlt (i : Int) (R.zc 80)) (R.bc false)) _ (R.bite (R.zlt (n : Int) (R.llen l)) _ (R.bite (R.bite (R.bite (R.bite (R.bnot (R.zeq (R.llen (img l 0 n)) (R.llen (img l 0 n)))) _ (R.bite (R.zlt (R.llen (img l 0 n)) (R.llen (img l 0 n))) _ _)) (R.zeq (R.llen (drs l 0 n)) (R.llen l)) _) (R.bite (R.bnot (R.zeq (R.llen (img l ((b - 1) * a) a)) (R.llen (img l ((b - 1) * a) a)))) _ (R.bite (R.zlt (R.llen (img l ((b - 1) * a) a)) (R.llen (img l ((b - 1) * a) a))) _ _)) _) _ _)))) = true
    rw [hend, hlen, dlen, nn0, emi, emr, lmi, lmr, enn, b0, ble]
    rfl

end Go.Proofs.Ytmenhajgmjnfkaa
