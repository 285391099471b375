/- The numbers of lights, by the two curves. -/
import Derived.Test.YtnehhebdbibecaaPuToneMakes
namespace Go.Proofs.Ytnehhebdbibecaa
open Go.Ev

theorem zl255 {c : Nat} (h : c < 255) : R.zlt (c : Int) (255 : Int) = true := by
  have key : ∀ b : Int, (c : Int) < b → R.zlt (c : Int) b = true := fun b hb => decide_eq_true hb
  exact key 255 (by omega)

/-- No end up to one is bad. -/
noncomputable def okTo (l : Row) : Nat → Bool
  | 0 => true
  | n + 1 => if bad l n = true then false else okTo l n

theorem okTo_all {l : Row} : ∀ {n}, okTo l n = true → ∀ i, i < n → bad l i = false
  | 0, _, i, hi => by omega
  | n + 1, h, i, hi => by
    unfold okTo at h
    cases hb : bad l n with
    | true => rw [hb, if_pos rfl] at h; cases h
    | false =>
      rw [hb, if_neg (by simp)] at h
      by_cases e : i = n
      · subst e; exact hb
      · exact okTo_all h i (by omega)

theorem good0 : okTo rowLit5_0 255 = true := by kernel_rfl
theorem good1 : okTo rowLit5_1 255 = true := by kernel_rfl

/-- The row of a curve. -/
structure Ends (l : Row) : Prop where
  len : l.length = 255
  good : ∀ i, i < 255 → bad l i = false

theorem ends0 : Ends rowLit5_0 := ⟨by kernel_rfl, okTo_all good0⟩
theorem ends1 : Ends rowLit5_1 := ⟨by kernel_rfl, okTo_all good1⟩

section
variable {l : Row} (h : Ends l)
include h

theorem Ends.mono : Mono l 255 := goodMono h.good

theorem Ends.key (i : Nat) (hi : i < 255) : ∃ k, fkey (el l i) = some k ∧ 0 < k := by
  have hb := h.good i hi
  cases hg : R.fgt (el l i) (R.fc 0) with
  | false => unfold bad at hb; rw [hg] at hb; cases hb
  | true =>
    obtain ⟨a, b, h1, h2, h3⟩ := (fgt_iff _ _).1 hg
    rw [show fkey (R.fc 0) = some 0 from fkey_zero] at h2; cases h2
    exact ⟨a, h1, h3⟩

theorem Ends.step (i : Nat) (h0 : 0 < i) (hi : i < 255) : R.fle (el l i) (el l (i - 1)) = false := by
  have hb := h.good i hi
  have h1 : R.zlt (R.zc 0) (i : Int) = true := decide_eq_true (show (0 : Int) < (i : Int) by omega)
  unfold bad at hb
  rw [h1] at hb
  cases hf : R.fle (el l i) (el l (i - 1)) with
  | false => rfl
  | true =>
    rw [hf] at hb
    generalize R.bite (R.bnot (R.fgt (el l i) (R.fc 0))) (R.bc true) (R.bnot (S18_0 R (el l i))) = z at hb
    cases z <;> cases hb

theorem Ends.self (i : Nat) (hi : i < 255) : R.feq (el l i) (el l i) = true := by
  obtain ⟨k, hk, _⟩ := h.key i hi
  exact (feq_iff _ _).2 ⟨k, k, hk, hk, rfl⟩

theorem Ends.fself (i : Nat) (hi : i < 255) : R.fle (el l i) (el l i) = true := by
  obtain ⟨k, hk, _⟩ := h.key i hi
  exact (fle_iff _ _).2 ⟨k, k, hk, hk, Int.le_refl _⟩

theorem Ends.split (x : Fl) : (∀ i, i < cnt l x 255 → R.fle (el l i) x = true) ∧ ∀ i, cnt l x 255 ≤ i → i < 255 → R.fle (el l i) x = false := by
  have hm := h.mono
  have key : ∀ n, n ≤ 255 → (∀ i, i < cnt l x n → R.fle (el l i) x = true) ∧ ∀ i, cnt l x n ≤ i → i < n → R.fle (el l i) x = false := by
    intro n
    induction n with
    | zero => intro _; exact ⟨fun i hi => absurd hi (Nat.not_lt_zero _), fun i _ hi => absurd hi (Nat.not_lt_zero _)⟩
    | succ n ih =>
      intro hn
      obtain ⟨h1, h2⟩ := ih (by omega)
      have hle := cnt_le l x n
      have hu : cnt l x (n + 1) = if R.fle (el l n) x = true then cnt l x n + 1 else cnt l x n := rfl
      by_cases e : R.fle (el l n) x = true
      · have he : cnt l x n = n := by
          by_cases hc : cnt l x n < n
          · exfalso
            have a := h2 (cnt l x n) (Nat.le_refl _) hc
            have b := hm (cnt l x n) n hc (by omega) x e
            rw [a] at b; cases b
          · omega
        rw [hu, if_pos e, he]
        exact ⟨fun i hi => by
          by_cases ei : i = n
          · subst ei; exact e
          · exact h1 i (by omega), fun i a b => by omega⟩
      · rw [hu, if_neg e]
        refine ⟨h1, fun i a b => ?_⟩
        by_cases ei : i = n
        · subst ei
          cases hf : R.fle (el l i) x with
          | false => rfl
          | true => exact absurd hf e
        · exact h2 i a (by omega)
  exact key 255 (Nat.le_refl _)

theorem Ends.at0 : cnt l (R.fc 0) 255 = 0 := by
  refine cnt_split 255 (by omega) (fun i hi => by omega) fun i _ hi => ?_
  obtain ⟨k, hk, h0⟩ := h.key i hi
  cases hf : R.fle (el l i) (R.fc 0) with
  | false => rfl
  | true =>
    obtain ⟨a, b, h1, h2, h3⟩ := (fle_iff _ _).1 hf
    rw [show fkey (R.fc 0) = some 0 from fkey_zero] at h2; cases h2
    rw [hk] at h1; cases h1
    omega

theorem Ends.at (k : Nat) (h0 : 0 < k) (hk : k ≤ 255) : cnt l (el l (k - 1)) 255 = k := by
  have hm := h.mono
  refine cnt_split 255 hk (fun i hi => ?_) fun i hki hi => ?_
  · by_cases e : i = k - 1
    · subst e; exact h.fself _ (by omega)
    · exact hm i (k - 1) (by omega) (by omega) _ (h.fself _ (by omega))
  · cases hf : R.fle (el l i) (el l (k - 1)) with
    | false => rfl
    | true =>
      have hs := h.step k h0 (by omega)
      by_cases e : i = k
      · subst e; rw [hs] at hf; cases hf
      · have := hm k i (by omega) hi _ hf
        rw [hs] at this; cases this

end

/-- The numbers of the first lights. -/
noncomputable def nums (l a : Row) (n : Nat) : Row := (List.range n).map fun i => [.z (cnt l (el a i) 255 : Int)]

theorem nums_len (l a : Row) (n : Nat) : (nums l a n).length = n := by unfold nums; simp

theorem nums_at (l a : Row) {n i : Nat} (hi : i < n) : R.lz (nums l a n) (i : Int) 0 = (cnt l (el a i) 255 : Int) := by
  show Row.int (nums l a n) (i : Int) 0 = _
  unfold Row.int Row.cell nums
  simp [hi]

theorem conv8 {n : Nat} (h : n ≤ 255) : R.zconv .u8 (n : Int) = (n : Int) := by
  show (IntKind.wrap .u8 (n : Int)) = _
  unfold IntKind.wrap
  simp [IntKind.bits, IntKind.signed]
  omega

theorem conv64 {n : Nat} (h : n ≤ 255) : R.zconv .i64 (n : Int) = (n : Int) := zconv64 ⟨by omega, by omega⟩

theorem bytesE {l a : Row} (h : Ends l) {n : Nat} (hn : n ≤ 100) :
    E7 R (n : Int) (n : Int) (255 : Int) a l R.lnil (R.zc 0) = true ∧ L7 R (n : Int) (n : Int) (255 : Int) a l R.lnil (R.zc 0) = [.l (nums l a n), .z (n : Int)] := by
  refine ends_path (step := G7 R (n : Int) (n : Int) (255 : Int) a l) (p := [.l R.lnil, .z (R.zc 0)]) (fun i => [.l (nums l a i), .z (i : Int)]) n rfl (fun i hi => ?_) (by show decide ((n : Int) < (n : Int)) = false; exact decide_eq_false (by omega))
  have hc : R.zlt (i : Int) (n : Int) = true := decide_eq_true (by omega)
  have h0 : R.zle (R.zc 0) (i : Int) = true := decide_eq_true (show (0 : Int) ≤ (i : Int) by omega)
  have ha : R.zadd .i64 (i : Int) (R.zc 1) = ((i + 1 : Nat) : Int) := (zadd64 (x := (i : Int)) (y := 1) ⟨by omega, by omega⟩).trans rfl
  have hle := cnt_le l (el a i) 255
  have hb := byteE (l := l) (n := 255) (by omega) h.mono (el a i)
  have w0 : WO7__0 R (255 : Int) a l (i : Int) = true := hb.1
  have w1 : WO7__1 R (255 : Int) a l (i : Int) = [.z (cnt l (el a i) 255 : Int), .z (cnt l (el a i) 255 : Int)] := hb.2
  have w2 : L2 R (R.lf a (i : Int) 0) (255 : Int) l (R.zc 0) (255 : Int) = [.z (cnt l (el a i) 255 : Int), .z (cnt l (el a i) 255 : Int)] := hb.2
  have hsucc : R.lapp (nums l a i) [[.z (cnt l (el a i) 255 : Int)]] = nums l a (i + 1) := by
    show nums l a i ++ _ = _
    unfold nums
    rw [List.range_succ, List.map_append]; rfl
  have hroom : R.zle (R.llen (nums l a (i + 1))) (R.zc 1073741824) = true := by
    show decide (((nums l a (i + 1)).length : Int) ≤ 1073741824) = true
    rw [nums_len]
    exact decide_eq_true (by omega)
  show (C7 R (n : Int) (i : Int), O7_ R (n : Int) (n : Int) (255 : Int) a l (nums l a i) (i : Int), [PV.l (N7_0 R (255 : Int) a l (nums l a i) (i : Int)), .z (N7_1 R (i : Int))]) = (true, true, [PV.l (nums l a (i + 1)), .z ((i + 1 : Nat) : Int)])
  have c8 := conv8 (n := cnt l (el a i) 255) hle
  have e8 : R.zconv .u8 (nthZ [PV.z (cnt l (el a i) 255 : Int), .z (cnt l (el a i) 255 : Int)] 0) = (cnt l (el a i) 255 : Int) := c8
  unfold C7 O7_ N7_0 N7_1
  rw [w0, w1, w2, e8, hsucc, hroom, hc, h0, ha]
  rfl

theorem lawE {l a : Row} (h : Ends l) {n : Nat} (hn : n ≤ 100) :
    E8 R (n : Int) (255 : Int) (n : Int) a (255 : Int) l (nums l a n) l (R.bc false) (R.zc 0) = true ∧ L8 R (n : Int) (255 : Int) (n : Int) a (255 : Int) l (nums l a n) l (R.bc false) (R.zc 0) = [.b false, .z (n : Int)] := by
  refine ends_path (step := G8 R (n : Int) (255 : Int) (n : Int) a (255 : Int) l (nums l a n) l) (p := [.b (R.bc false), .z (R.zc 0)]) (fun i => [.b false, .z (i : Int)]) n rfl (fun i hi => ?_) ?_
  rotate_left
  · show C8 R (n : Int) (255 : Int) (n : Int) a (255 : Int) l (nums l a n) l (n : Int) = false
    have hc : R.zlt (n : Int) (n : Int) = false := decide_eq_false (by omega)
    unfold C8
    rw [hc]; rfl
  have hc : R.zlt (i : Int) (n : Int) = true := decide_eq_true (by omega)
  have h0 : R.zle (R.zc 0) (i : Int) = true := decide_eq_true (show (0 : Int) ≤ (i : Int) by omega)
  have ha : R.zadd .i64 (i : Int) (R.zc 1) = ((i + 1 : Nat) : Int) := (zadd64 (x := (i : Int)) (y := 1) ⟨by omega, by omega⟩).trans rfl
  have hle := cnt_le l (el a i) 255
  have hb := byteE (l := l) (n := 255) (by omega) h.mono (el a i)
  have hcn := countE (l := l) (n := 255) (by omega) (el a i)
  obtain ⟨sp1, sp2⟩ := h.split (el a i)
  have hcv : R.zconv .i64 (R.lz (nums l a n) (i : Int) 0) = (cnt l (el a i) 255 : Int) := by rw [nums_at l a hi]; exact conv64 hle
  -- the values that the conditions read
  have hhi : ∀ x0 : R.fge (el a i) (R.fc 0) = true, cnt l (el a i) 255 < 255 → R.flt (el a i) (el l (cnt l (el a i) 255)) = true := by
    intro x0 hlt
    have := sp2 _ (Nat.le_refl _) hlt
    obtain ⟨p, q, p1, p2, p3⟩ := (fge_iff _ _).1 x0
    obtain ⟨k, k1, _⟩ := h.key _ hlt
    by_cases hpk : p < k
    · exact (flt_iff _ _).2 ⟨p, k, p1, k1, hpk⟩
    · have t := (fle_iff (el l (cnt l (el a i) 255)) (el a i)).2 ⟨k, p, k1, p1, by omega⟩
      have t' : R.fle (el l (cnt l (el a i) 255)) (el a i) = true := t
      rw [t'] at this; cases this
  have hlo0 : ∀ x0 : R.fge (el a i) (R.fc 0) = true, R.fle (R.fc 0) (el a i) = true := by
    intro x0
    obtain ⟨p, q, p1, p2, p3⟩ := (fge_iff _ _).1 x0
    exact (fle_iff _ _).2 ⟨q, p, p2, p1, by omega⟩
  have e1 : R.zlt (cnt l (el a i) 255 : Int) (R.zc 0) = false := decide_eq_false (show ¬ ((cnt l (el a i) 255 : Nat) : Int) < 0 by omega)
  have e2 : R.zlt (255 : Int) (cnt l (el a i) 255 : Int) = false := decide_eq_false (by omega)
  have ef : R.lf a (i : Int) 0 = el a i := rfl
  generalize hcc : cnt l (el a i) 255 = c at *
  generalize hx : el a i = x at *
  have eself : R.zeq (c : Int) (c : Int) = true := by show (_ == _) = true; simp
  have w2 : WC8_2 R (255 : Int) a l (i : Int) = [.z (c : Int), .z ((255 : Nat) : Int)] := by unfold WC8_2; rw [ef]; exact hcn.2
  have w1 : WC8_1 R (255 : Int) a l (i : Int) = true := by unfold WC8_1; rw [ef]; exact hcn.1
  have v2 : WO8__2 R (255 : Int) a l (i : Int) = [.z (c : Int), .z ((255 : Nat) : Int)] := w2
  have v1 : WO8__1 R (255 : Int) a l (i : Int) = true := w1
  have w3 : WC8_3 R (255 : Int) a (255 : Int) l (i : Int) = false := by unfold WC8_3; rw [w2]; exact e2
  have w4 : WC8_4 R (255 : Int) a (255 : Int) l (i : Int) = false := by
    unfold WC8_4; rw [w3, w2]; have : R.zlt (nthZ [PV.z (c : Int), .z ((255 : Nat) : Int)] 0) (R.zc 0) = false := e1
    rw [this]; rfl
  have w13 : WC8_13 R a (255 : Int) l (i : Int) = true := by unfold WC8_13; rw [ef]; exact hb.1
  have w14 : WC8_14 R a (255 : Int) l (i : Int) = [.z (c : Int), .z (c : Int)] := by unfold WC8_14; rw [ef]; exact hb.2
  have w15 : WC8_15 R (255 : Int) a (255 : Int) l l (i : Int) = false := by
    unfold WC8_15; rw [w14, w2]; show (!(R.zeq (c : Int) (c : Int))) = false; rw [eself]; rfl
  have w16 : WC8_16 R (255 : Int) a (255 : Int) l (nums l a n) l (i : Int) = false := by
    unfold WC8_16; rw [w15, hcv, w2]; show (!(R.zeq (c : Int) (c : Int))) = false; rw [eself]; rfl
  have w0 : WC8_0 R (n : Int) (i : Int) = true := by unfold WC8_0; rw [h0, hc]; rfl
  have w10 : WC8_10 R (255 : Int) a l (i : Int) = ((c + 1 : Nat) : Int) := by
    unfold WC8_10; rw [w2]; exact (zadd64 (x := (c : Int)) (y := 1) ⟨by omega, by omega⟩).trans rfl
  have w12 : WC8_12 R (255 : Int) a l (i : Int) = (c : Int) := by
    unfold WC8_12; rw [w10]; exact (zsub64 (x := ((c + 1 : Nat) : Int)) (y := 1) ⟨by omega, by omega⟩).trans (show ((c + 1 : Nat) : Int) - 1 = (c : Int) by omega)
  have w5 : WC8_5 R (255 : Int) a (255 : Int) l (i : Int) = decide (c = 255) := by
    unfold WC8_5; rw [w2]
    show (((c : Nat) : Int) == 255) = decide (c = 255)
    by_cases e : c = 255
    · rw [decide_eq_true e, beq_iff_eq]; omega
    · rw [decide_eq_false e, beq_eq_false_iff_ne]; omega
  have w9 : WC8_9 R (255 : Int) a (255 : Int) l (i : Int) = decide (c = 255) := by
    unfold WC8_9; rw [w4, w5]; rfl
  have w6 : WC8_6 R (255 : Int) a (255 : Int) l (i : Int) = decide (c < 1) := by
    unfold WC8_6; rw [w3, w2]
    show (if decide (((c : Nat) : Int) < 1) = true then true else false) = _
    by_cases e : c < 1
    · rw [decide_eq_true e, decide_eq_true (by omega)]; rfl
    · rw [decide_eq_false e, decide_eq_false (by omega)]; rfl
  have w7 : 0 < c → WC8_7 R (255 : Int) a l (i : Int) = ((c - 1 : Nat) : Int) := by
    intro hcp
    unfold WC8_7; rw [w2]; exact sub1 hcp (by omega)
  have w8 : WC8_8 R (255 : Int) a (255 : Int) l (i : Int) = true := by
    unfold WC8_8; rw [w6]
    by_cases e : c < 1
    · rw [decide_eq_true e]; rfl
    · rw [decide_eq_false e, w7 (by omega)]
      have u1 : R.zle (R.zc 0) ((c - 1 : Nat) : Int) = true := decide_eq_true (show (0 : Int) ≤ ((c - 1 : Nat) : Int) by omega)
      have u2 : R.zlt ((c - 1 : Nat) : Int) (255 : Int) = true := zl255 (by omega)
      rw [u1, u2]; rfl
  have w17 : R.fge x (R.fc 0) = true → R.fle (WC8_17 R (255 : Int) a (255 : Int) l l (i : Int)) x = true := by
    intro x0
    unfold WC8_17; rw [w6]
    by_cases e : c < 1
    · rw [decide_eq_true e]; exact hlo0 x0
    · rw [decide_eq_false e, w7 (by omega)]; exact sp1 (c - 1) (by omega)
  have w18 : R.fge x (R.fc 0) = true → WC8_18 R (255 : Int) a (255 : Int) l l (i : Int) = true := by
    intro x0
    unfold WC8_18; rw [w9, w4, ef]
    have := w17 x0
    cases decide (c = 255) <;> exact this
  have w11 : c < 255 → WC8_11 R (255 : Int) a (255 : Int) l (i : Int) = false := by
    intro hcl
    unfold WC8_11; rw [w10]
    have u1 : R.zlt ((c + 1 : Nat) : Int) (R.zc 1) = false := decide_eq_false (show ¬ ((c + 1 : Nat) : Int) < 1 by omega)
    have u2 : R.zlt (255 : Int) ((c + 1 : Nat) : Int) = false := decide_eq_false (show ¬ (255 : Int) < ((c + 1 : Nat) : Int) by omega)
    rw [u1, u2]; rfl
  have ew : R.zle (R.zc 0) (c : Int) = true := decide_eq_true (show (0 : Int) ≤ (c : Int) by omega)
  have q255 : R.zeq (nthZ [PV.z (c : Int), .z ((255 : Nat) : Int)] 0) (R.zc 255) = decide (c = 255) := by
    show (((c : Nat) : Int) == 255) = decide (c = 255)
    by_cases e : c = 255
    · rw [decide_eq_true e, beq_iff_eq]; omega
    · rw [decide_eq_false e, beq_eq_false_iff_ne]; omega
  have hC : C8 R (n : Int) (255 : Int) (n : Int) a (255 : Int) l (nums l a n) l (i : Int) = true := by
    unfold C8
    rw [hc, w0, w1, w4, w5, w8, w9, w12, w13, w15, w16, w2, q255, ef, ew, h0]
    cases hg : R.fge x (R.fc 0) with
    | false =>
      by_cases e : c = 255
      · rw [decide_eq_true e]; rfl
      · have u : R.zlt (c : Int) (255 : Int) = true := zl255 (by omega)
        rw [decide_eq_false e, w11 (by omega), u]; rfl
    | true =>
      rw [w18 hg]
      by_cases e : c = 255
      · rw [decide_eq_true e]
        generalize R.flt x _ = z
        cases z <;> rfl
      · have u : R.zlt (c : Int) (255 : Int) = true := zl255 (by omega)
        rw [decide_eq_false e, w11 (by omega), u]
        have hq : R.flt x (R.lf l (c : Int) 0) = true := hhi hg (by omega)
        have : R.flt x (R.fite false (R.fite false (R.fc 0) (R.fc 9218868437227405312)) (R.fite false (R.fc 0) (R.lf l (c : Int) 0))) = true := hq
        rw [this]; rfl
  have hO : O8_ R (n : Int) (255 : Int) (n : Int) a (255 : Int) l (nums l a n) l (i : Int) = true := by
    have x4 : WO8__4 R (255 : Int) a (255 : Int) l (i : Int) = false := w4
    have x5 : WO8__5 R (255 : Int) a (255 : Int) l (i : Int) = decide (c = 255) := w5
    have x8 : WO8__8 R (255 : Int) a (255 : Int) l (i : Int) = true := w8
    have x9 : WO8__9 R (255 : Int) a (255 : Int) l (i : Int) = decide (c = 255) := w9
    have x0 : WO8__0 R (n : Int) (i : Int) = true := w0
    have x12 : WO8__12 R a (255 : Int) l (i : Int) = true := w13
    have x14 : WO8__14 R (255 : Int) a (255 : Int) l l (i : Int) = false := w15
    have x10 : WO8__10 R (255 : Int) a l (i : Int) = ((c + 1 : Nat) : Int) := w10
    have x11 : WO8__11 R (255 : Int) a l (i : Int) = (c : Int) := w12
    have y2 : R.zeq (R.zconv .i64 (R.lz (nums l a n) (i : Int) 0)) (nthZ [PV.z (c : Int), .z ((255 : Nat) : Int)] 0) = true := by rw [hcv]; exact eself
    unfold O8_
    rw [hc, h0, x0, v1, x4, x5, x8, x9, x10, x11, x12, x14, v2, y2, ef, ew]
    have u1 : R.zlt ((c + 1 : Nat) : Int) (R.zc 1) = false := decide_eq_false (show ¬ ((c + 1 : Nat) : Int) < 1 by omega)
    generalize R.fle _ x = z2
    by_cases e : c = 255
    · rw [decide_eq_true e]
      cases R.fge x (R.fc 0) <;> cases z2 <;> rfl
    · have u2 : R.zlt (255 : Int) ((c + 1 : Nat) : Int) = false := decide_eq_false (show ¬ (255 : Int) < ((c + 1 : Nat) : Int) by omega)
      have u : R.zlt (c : Int) (255 : Int) = true := zl255 (by omega)
      rw [decide_eq_false e, u1, u2, u]
      cases R.fge x (R.fc 0) <;> cases z2 <;> rfl
  show (C8 R (n : Int) (255 : Int) (n : Int) a (255 : Int) l (nums l a n) l (i : Int), O8_ R (n : Int) (255 : Int) (n : Int) a (255 : Int) l (nums l a n) l (i : Int), [PV.b false, .z (N8_1 R (i : Int))]) = _
  unfold N8_1
  rw [hC, hO, ha]

theorem tab0 : E0 R R.lnil (R.zc 0) = true ∧ L0 R R.lnil (R.zc 0) = [.l rowLit5_0, .z 255] := runL_sound (n := 3000) (q := ([.l rowLit5_0, .z 255] : List (PD R))) (by kernel_rfl)
theorem tab1 : E1 R R.lnil (R.zc 0) = true ∧ L1 R R.lnil (R.zc 0) = [.l rowLit5_1, .z 255] := runL_sound (n := 3000) (q := ([.l rowLit5_1, .z 255] : List (PD R))) (by kernel_rfl)
theorem ref0 : E6 R false R.lnil (R.zc 1) = true ∧ L6 R false R.lnil (R.zc 1) = [.l rowLit5_0, .z 256] := runL_sound (n := 3000) (q := ([.l rowLit5_0, .z 256] : List (PD R))) (by kernel_rfl)
theorem ref1 : E6 R true R.lnil (R.zc 1) = true ∧ L6 R true R.lnil (R.zc 1) = [.l rowLit5_1, .z 256] := runL_sound (n := 3000) (q := ([.l rowLit5_1, .z 256] : List (PD R))) (by kernel_rfl)

theorem z0 : R.feq (R.fc 0) (R.fc 0) = true := by kernel_rfl

theorem outb {x b : Int} (h : x < 0 ∨ b < x) : R.bite (R.zlt x (R.zc 0)) (R.bc true) (R.zlt b x) = true := by
  show (if decide (x < 0) = true then true else decide (b < x)) = true
  by_cases e : x < 0
  · simp [e]
  · simp [e]; omega
theorem inb {x b c : Int} (h : ¬ x < c ∧ ¬ b < x) : R.bite (R.zlt x c) (R.bc true) (R.zlt b x) = false := by
  show (if decide (x < c) = true then true else decide (b < x)) = false
  simp [h.1, h.2]
theorem outc {x b c : Int} (h : x < c ∨ b < x) : R.bite (R.zlt x c) (R.bc true) (R.zlt b x) = true := by
  show (if decide (x < c) = true then true else decide (b < x)) = true
  by_cases e : x < c
  · simp [e]
  · simp [e]; omega
theorem zq (k c : Nat) : R.zeq (k : Int) (c : Int) = decide (k = c) := by
  show ((k : Int) == (c : Int)) = decide (k = c)
  by_cases e : k = c
  · rw [decide_eq_true e, beq_iff_eq]; omega
  · rw [decide_eq_false e, beq_eq_false_iff_ne]; omega
theorem zl {a b : Nat} (h : a < b) : R.zlt (a : Int) (b : Int) = true := decide_eq_true (by omega)
theorem zln {a b : Nat} (h : ¬ a < b) : R.zlt (a : Int) (b : Int) = false := decide_eq_false (by omega)
theorem zge0 (a : Nat) : R.zle (R.zc 0) (a : Int) = true := decide_eq_true (show (0 : Int) ≤ (a : Int) by omega)

theorem part_true (x1 : Row) (x2 : Int) : O4 R true x1 x2 = true ∧ S4_0 R true x1 x2 = true := by
  have h := ends1
  have sw := aw_S5_0
  have ow := aw_O5
  have t1 : WS4_0_1 R = [.l rowLit5_1, .z 255] := tab1.2
  have u1 : WO4_1 R = true := tab1.1
  have u0 : E0 R R.lnil (R.zc 0) = true := tab0.1
  have t3 : WS4_0_3 R true = [.l rowLit5_1, .z 256] := ref1.2
  have u2 : WO4_2 R true = true := ref1.1
  have u4 : WO4_4 R = [.l rowLit5_1, .z 255] := t1
  have u7 : WO4_7 R true = [.l rowLit5_1, .z 256] := t3
  generalize rowLit5_1 = T at *
  obtain ⟨n, hn, n0⟩ : ∃ n : Nat, n ≤ 100 ∧ WS4_0_0 R x1 = (n : Int) := by
    show ∃ n : Nat, n ≤ 100 ∧ (if decide ((100 : Int) < (x1.length : Int)) = true then (100 : Int) else (x1.length : Int)) = (n : Int)
    by_cases e : 100 < x1.length
    · exact ⟨100, Nat.le_refl _, by rw [decide_eq_true (by omega)]; rfl⟩
    · exact ⟨x1.length, by omega, by rw [decide_eq_false (by omega)]; rfl⟩
  have m0 : WO4_3 R x1 = (n : Int) := n0
  have r0 : R.bite (R.zlt (R.zc 100) (R.llen x1)) (R.band (R.zle (R.zc 0) (R.zc 100)) (R.zle (R.zc 100) (R.llen x1))) (R.bc true) = true := by
    show (if decide ((100 : Int) < (x1.length : Int)) = true then (decide ((0 : Int) ≤ 100) && decide ((100 : Int) ≤ (x1.length : Int))) else true) = true
    by_cases e : 100 < x1.length
    · rw [decide_eq_true (show (100 : Int) < (x1.length : Int) by omega), decide_eq_true (show (100 : Int) ≤ (x1.length : Int) by omega)]; rfl
    · rw [decide_eq_false (show ¬ (100 : Int) < (x1.length : Int) by omega)]; rfl
  have len : R.llen T = ((255 : Nat) : Int) := by show ((T.length : Nat) : Int) = _; rw [h.len]
  have tl : R.llen (nthL (WS4_0_1 R) 0) = ((255 : Nat) : Int) := by rw [t1]; exact len
  have tr : nthL (WS4_0_1 R) 0 = T := by rw [t1]; rfl
  have fl : R.llen (nthL (WS4_0_3 R true) 0) = ((255 : Nat) : Int) := by rw [t3]; exact len
  have fr : nthL (WS4_0_3 R true) 0 = T := by rw [t3]; rfl
  have t2 : WS4_0_2 R x1 = [.l (nums T x1 n), .z (n : Int)] := by unfold WS4_0_2; rw [tl, tr, n0]; exact (bytesE h hn).2
  have u5 : WO4_5 R x1 = true := by unfold WO4_5; rw [u4, m0]; show E7 R (n : Int) (n : Int) (R.llen T) x1 T R.lnil (R.zc 0) = true; rw [len]; exact (bytesE h hn).1
  have u6 : WO4_6 R x1 = [.l (nums T x1 n), .z (n : Int)] := t2
  have bl : R.llen (nthL (WS4_0_2 R x1) 0) = (n : Int) := by rw [t2]; show (((nums T x1 n).length : Nat) : Int) = _; rw [nums_len]
  have br : nthL (WS4_0_2 R x1) 0 = nums T x1 n := by rw [t2]; rfl
  have t4 : WS4_0_4 R true x1 = [.b false, .z (n : Int)] := by unfold WS4_0_4; rw [tl, tr, fl, fr, bl, br, n0]; exact (lawE h hn).2
  have u8 : WO4_8 R true x1 = true := by
    have : WO4_8 R true x1 = E8 R (WS4_0_0 R x1) (R.llen (nthL (WS4_0_3 R true) 0)) (R.llen (nthL (WS4_0_2 R x1) 0)) x1 (R.llen (nthL (WS4_0_1 R) 0)) (nthL (WS4_0_3 R true) 0) (nthL (WS4_0_2 R x1) 0) (nthL (WS4_0_1 R) 0) (R.bc false) (R.zc 0) := rfl
    rw [this, tl, tr, fl, fr, bl, br, n0]; exact (lawE h hn).1
  have u9 : WO4_9 R true x1 = [.b false, .z (n : Int)] := t4
  have q1 : R.zeq (R.llen (nthL (WS4_0_2 R x1) 0)) (n : Int) = true := by rw [bl, zq]; exact decide_eq_true rfl
  have q1' : R.zeq (R.llen (nthL (WO4_6 R x1) 0)) (n : Int) = true := q1
  have q2 : R.zlt (nthZ (WS4_0_4 R true x1) 1) (n : Int) = false := by rw [t4]; exact zln (a := n) (b := n) (by omega)
  have q2' : R.zlt (nthZ (WO4_9 R true x1) 1) (n : Int) = false := q2
  have ul : R.llen (nthL (WO4_4 R) 0) = ((255 : Nat) : Int) := tl
  have ul7 : R.llen (nthL (WO4_7 R true) 0) = ((255 : Nat) : Int) := fl
  by_cases out : x2 < 0 ∨ 255 < x2
  · have w5 : WS4_0_5 R x2 = true := outb (b := 255) out
    have w6 : WS4_0_6 R x2 = true := by unfold WS4_0_6; rw [tl]; exact outb (by omega)
    have w7 : WS4_0_7 R x2 = true := by unfold WS4_0_7; rw [w6]; rfl
    have wc : R.bite (R.zlt x2 (R.zc 1)) (R.bc true) (R.zlt ((255 : Nat) : Int) x2) = true := outc (c := 1) (by omega)
    have w8 : WS4_0_8 R x2 = R.fc 0 := by unfold WS4_0_8; rw [tl, wc]; rfl
    have w9 : WS4_0_9 R x2 = R.fc 0 := by unfold WS4_0_9; rw [w7, w6]; rfl
    have w12 : WS4_0_12 R x2 = R.fc 0 := by unfold WS4_0_12; rw [w7, w6]; rfl
    have v10 : WO4_10 R x2 = true := w6
    have v14 : WO4_14 R x2 = true := w7
    have v18 : WO4_18 R x2 = true := w5
    have v11 : WO4_11 R x2 = true := by unfold WO4_11; rw [ul]; exact wc
    have v13 : WO4_13 R x2 = true := by unfold WO4_13; rw [v11]; rfl
    constructor
    · unfold O4 WO4_44 WO4_0
      rw [r0, u0, u1, u2, u5, m0, q1', u8, q2', v10, v14, v18, v13, ow]
      generalize R.bite (R.bite (S5_0 R) (R.feq (WO4_20 R x2) (R.fc 0)) (R.bc false)) _ _ = g
      cases g <;> rfl
    · unfold S4_0
      rw [n0, q1, q2, w5, w8, w9, w12, sw, z0]
      rfl
  · obtain ⟨k, rfl⟩ : ∃ k : Nat, x2 = (k : Int) := ⟨x2.toNat, by omega⟩
    have hk : k ≤ 255 := by omega
    have w5 : WS4_0_5 R (k : Int) = false := inb (b := 255) (c := 0) (by omega)
    have w6 : WS4_0_6 R (k : Int) = false := by unfold WS4_0_6; rw [tl]; exact inb (c := 0) (by omega)
    have w7 : WS4_0_7 R (k : Int) = decide (k = 255) := by unfold WS4_0_7; rw [w6, tl, zq]; rfl
    have am : 0 < k → R.zsub .i64 (k : Int) (R.zc 1) = ((k - 1 : Nat) : Int) := fun hp => sub1 hp (by omega)
    have ap : R.zadd .i64 (k : Int) (R.zc 1) = ((k + 1 : Nat) : Int) := (zadd64 (x := (k : Int)) (y := 1) ⟨by omega, by omega⟩).trans rfl
    have asb : R.zsub .i64 ((k + 1 : Nat) : Int) (R.zc 1) = (k : Int) := (zsub64 (x := ((k + 1 : Nat) : Int)) (y := 1) ⟨by omega, by omega⟩).trans (show ((k + 1 : Nat) : Int) - 1 = (k : Int) by omega)
    have w10 : WS4_0_10 R (k : Int) = false := by unfold WS4_0_10; rw [ap]; exact zln (a := k + 1) (b := 1) (by omega)
    have w11 : WS4_0_11 R (k : Int) = (k : Int) := by unfold WS4_0_11; rw [ap]; exact asb
    obtain ⟨lo, l1, l2, l3, l4⟩ : ∃ lo : Fl, WS4_0_8 R (k : Int) = lo ∧ WS4_0_13 R true (k : Int) = lo ∧ cnt T lo 255 = k ∧ R.feq lo lo = true := by
      by_cases e : k = 0
      · subst e
        exact ⟨R.fc 0, rfl, rfl, h.at0, z0⟩
      · refine ⟨el T (k - 1), ?_, ?_, h.at k (by omega) hk, h.self _ (by omega)⟩
        · unfold WS4_0_8; rw [tl, inb (c := R.zc 1) (show ¬ (k : Int) < 1 ∧ ¬ ((255 : Nat) : Int) < (k : Int) by omega), am (by omega), tr]; rfl
        · unfold WS4_0_13
          have : R.zlt (R.zc 0) (k : Int) = true := zl (a := 0) (b := k) (by omega)
          rw [this, am (by omega), fr]; rfl
    have w9 : WS4_0_9 R (k : Int) = lo := by unfold WS4_0_9; rw [w6, l1]; cases WS4_0_7 R (k : Int) <;> rfl
    have be := byteE (l := T) (n := 255) (by omega) h.mono lo
    rw [l3] at be
    have w14 : WS4_0_14 R (k : Int) = [.z (k : Int), .z (k : Int)] := by unfold WS4_0_14; rw [w9, tl, tr]; exact be.2
    have v10 : WO4_10 R (k : Int) = false := w6
    have v14 : WO4_14 R (k : Int) = decide (k = 255) := w7
    have v18 : WO4_18 R (k : Int) = false := w5
    have v12 : 0 < k → WO4_12 R (k : Int) = true := fun hp => by unfold WO4_12; rw [am hp]; exact zge0 _
    have v13 : WO4_13 R (k : Int) = true := by
      unfold WO4_13 WO4_11
      rw [ul]
      by_cases e : k = 0
      · subst e; rfl
      · rw [inb (c := R.zc 1) (show ¬ (k : Int) < 1 ∧ ¬ ((255 : Nat) : Int) < (k : Int) by omega), v12 (by omega), am (by omega), zl (a := k - 1) (b := 255) (by omega)]; rfl
    have v21 : WO4_21 R true (k : Int) = true := by
      unfold WO4_21
      rw [ul7]
      by_cases e : k = 0
      · subst e; rfl
      · have : R.zlt (R.zc 0) (k : Int) = true := zl (a := 0) (b := k) (by omega)
        rw [this, v12 (by omega), am (by omega), zl (a := k - 1) (b := 255) (by omega)]; rfl
    have v17 : WO4_17 R (k : Int) = (k : Int) := w11
    have v25 : WO4_25 R (k : Int) = true := by
      have : WO4_25 R (k : Int) = E2 R (WS4_0_9 R (k : Int)) (R.llen (nthL (WS4_0_1 R) 0)) (nthL (WS4_0_1 R) 0) (R.zc 0) (R.llen (nthL (WS4_0_1 R) 0)) := rfl
      rw [this, w9, tl, tr]; exact be.1
    have v27 : WO4_27 R true (k : Int) = true := by
      unfold WO4_27
      rw [show R.zeq (k : Int) (R.zc 255) = decide (k = 255) from zq k 255, ul7, zge0]
      by_cases e : k = 255
      · rw [decide_eq_true e]; rfl
      · rw [decide_eq_false e, zl (a := k) (b := 255) (by omega)]; rfl
    have v16 : k < 255 → WO4_16 R (k : Int) = false := fun hp => by
      have : WO4_16 R (k : Int) = R.bite (WS4_0_10 R (k : Int)) (R.bc true) (R.zlt (R.llen (nthL (WS4_0_1 R) 0)) (R.zadd .i64 (k : Int) (R.zc 1))) := rfl
      rw [this, w10, tl, ap, zln (a := 255) (b := k + 1) (by omega)]; rfl
    constructor
    · unfold O4 WO4_44 WO4_0
      rw [r0, u0, u1, u2, u5, m0, q1', u8, q2', v10, v14, v18, v13, v21, v25, v27, v17, ow, ul, zge0]
      generalize WO4_23 R true (k : Int) = g1
      generalize WO4_24 R true (k : Int) = g2
      generalize R.zeq (nthZ (WO4_26 R (k : Int)) 0) (k : Int) = g3
      generalize R.zeq (k : Int) ((255 : Nat) : Int) = g4
      by_cases e : k = 255
      · rw [decide_eq_true e]
        cases g1 <;> cases g2 <;> cases g3 <;> cases g4 <;> rfl
      · rw [decide_eq_false e, v16 (by omega), zl (a := k) (b := 255) (by omega)]
        cases g1 <;> cases g2 <;> cases g3 <;> cases g4 <;> rfl
    · unfold S4_0
      have q14 : R.zeq (nthZ ([.z (k : Int), .z (k : Int)] : List (PD R)) 0) (k : Int) = true := by
        show R.zeq (k : Int) (k : Int) = true
        rw [zq]; exact decide_eq_true rfl
      rw [n0, q1, q2, w5, w9, l1, l2, l4, w14, q14, sw, show R.zeq (k : Int) (R.zc 255) = decide (k = 255) from zq k 255, fr]
      by_cases e : k = 255
      · rw [decide_eq_true e]; rfl
      · have w12 : WS4_0_12 R (k : Int) = el T k := by
          unfold WS4_0_12
          rw [w7, decide_eq_false e, w10, w11, tl, ap, zln (a := 255) (b := k + 1) (by omega), tr]; rfl
        have q : R.feq (el T k) (R.lf T (k : Int) 0) = true := h.self k (by omega)
        rw [w12, decide_eq_false e, q]; rfl

theorem part_false (x1 : Row) (x2 : Int) : O4 R false x1 x2 = true ∧ S4_0 R false x1 x2 = true := by
  have h := ends0
  have sw := aw_S5_0
  have ow := aw_O5
  have t1 : WS4_0_15 R = [.l rowLit5_0, .z 255] := tab0.2
  have u1 : WO4_0 R = true := tab0.1
  have u0 : E0 R R.lnil (R.zc 0) = true := tab0.1
  have t3 : WS4_0_3 R false = [.l rowLit5_0, .z 256] := ref0.2
  have u2 : WO4_2 R false = true := ref0.1
  have u4 : WO4_28 R = [.l rowLit5_0, .z 255] := t1
  have u7 : WO4_7 R false = [.l rowLit5_0, .z 256] := t3
  generalize rowLit5_0 = T at *
  obtain ⟨n, hn, n0⟩ : ∃ n : Nat, n ≤ 100 ∧ WS4_0_0 R x1 = (n : Int) := by
    show ∃ n : Nat, n ≤ 100 ∧ (if decide ((100 : Int) < (x1.length : Int)) = true then (100 : Int) else (x1.length : Int)) = (n : Int)
    by_cases e : 100 < x1.length
    · exact ⟨100, Nat.le_refl _, by rw [decide_eq_true (by omega)]; rfl⟩
    · exact ⟨x1.length, by omega, by rw [decide_eq_false (by omega)]; rfl⟩
  have m0 : WO4_3 R x1 = (n : Int) := n0
  have r0 : R.bite (R.zlt (R.zc 100) (R.llen x1)) (R.band (R.zle (R.zc 0) (R.zc 100)) (R.zle (R.zc 100) (R.llen x1))) (R.bc true) = true := by
    show (if decide ((100 : Int) < (x1.length : Int)) = true then (decide ((0 : Int) ≤ 100) && decide ((100 : Int) ≤ (x1.length : Int))) else true) = true
    by_cases e : 100 < x1.length
    · rw [decide_eq_true (show (100 : Int) < (x1.length : Int) by omega), decide_eq_true (show (100 : Int) ≤ (x1.length : Int) by omega)]; rfl
    · rw [decide_eq_false (show ¬ (100 : Int) < (x1.length : Int) by omega)]; rfl
  have len : R.llen T = ((255 : Nat) : Int) := by show ((T.length : Nat) : Int) = _; rw [h.len]
  have tl : R.llen (nthL (WS4_0_15 R) 0) = ((255 : Nat) : Int) := by rw [t1]; exact len
  have tr : nthL (WS4_0_15 R) 0 = T := by rw [t1]; rfl
  have fl : R.llen (nthL (WS4_0_3 R false) 0) = ((255 : Nat) : Int) := by rw [t3]; exact len
  have fr : nthL (WS4_0_3 R false) 0 = T := by rw [t3]; rfl
  have t2 : WS4_0_16 R x1 = [.l (nums T x1 n), .z (n : Int)] := by unfold WS4_0_16; rw [tl, tr, n0]; exact (bytesE h hn).2
  have u5 : WO4_29 R x1 = true := by unfold WO4_29; rw [u4, m0]; show E7 R (n : Int) (n : Int) (R.llen T) x1 T R.lnil (R.zc 0) = true; rw [len]; exact (bytesE h hn).1
  have u6 : WO4_30 R x1 = [.l (nums T x1 n), .z (n : Int)] := t2
  have bl : R.llen (nthL (WS4_0_16 R x1) 0) = (n : Int) := by rw [t2]; show (((nums T x1 n).length : Nat) : Int) = _; rw [nums_len]
  have br : nthL (WS4_0_16 R x1) 0 = nums T x1 n := by rw [t2]; rfl
  have t4 : WS4_0_17 R false x1 = [.b false, .z (n : Int)] := by unfold WS4_0_17; rw [tl, tr, fl, fr, bl, br, n0]; exact (lawE h hn).2
  have u8 : WO4_31 R false x1 = true := by
    have : WO4_31 R false x1 = E8 R (WS4_0_0 R x1) (R.llen (nthL (WS4_0_3 R false) 0)) (R.llen (nthL (WS4_0_16 R x1) 0)) x1 (R.llen (nthL (WS4_0_15 R) 0)) (nthL (WS4_0_3 R false) 0) (nthL (WS4_0_16 R x1) 0) (nthL (WS4_0_15 R) 0) (R.bc false) (R.zc 0) := rfl
    rw [this, tl, tr, fl, fr, bl, br, n0]; exact (lawE h hn).1
  have u9 : WO4_32 R false x1 = [.b false, .z (n : Int)] := t4
  have q1 : R.zeq (R.llen (nthL (WS4_0_16 R x1) 0)) (n : Int) = true := by rw [bl, zq]; exact decide_eq_true rfl
  have q1' : R.zeq (R.llen (nthL (WO4_30 R x1) 0)) (n : Int) = true := q1
  have q2 : R.zlt (nthZ (WS4_0_17 R false x1) 1) (n : Int) = false := by rw [t4]; exact zln (a := n) (b := n) (by omega)
  have q2' : R.zlt (nthZ (WO4_32 R false x1) 1) (n : Int) = false := q2
  have ul : R.llen (nthL (WO4_28 R) 0) = ((255 : Nat) : Int) := tl
  have ul7 : R.llen (nthL (WO4_7 R false) 0) = ((255 : Nat) : Int) := fl
  by_cases out : x2 < 0 ∨ 255 < x2
  · have w5 : WS4_0_5 R x2 = true := outb (b := 255) out
    have w6 : WS4_0_19 R x2 = true := by unfold WS4_0_19 WS4_0_18; rw [tl]; exact outb (by omega)
    have w7 : WS4_0_20 R x2 = true := by unfold WS4_0_20; rw [w6]; rfl
    have wc : R.bite (R.zlt x2 (R.zc 1)) (R.bc true) (R.zlt ((255 : Nat) : Int) x2) = true := outc (c := 1) (by omega)
    have w8 : WS4_0_21 R x2 = R.fc 0 := by unfold WS4_0_21; unfold WS4_0_18; rw [tl, wc]; rfl
    have w9 : WS4_0_22 R x2 = R.fc 0 := by unfold WS4_0_22; rw [w7, w6]; rfl
    have w12 : WS4_0_23 R x2 = R.fc 0 := by unfold WS4_0_23; rw [w7, w6]; rfl
    have v10 : WO4_33 R x2 = true := w6
    have v14 : WO4_36 R x2 = true := w7
    have v18 : WO4_18 R x2 = true := w5
    have v11 : WO4_34 R x2 = true := by unfold WO4_34; rw [ul]; exact wc
    have v13 : WO4_35 R x2 = true := by unfold WO4_35; rw [v11]; rfl
    constructor
    · unfold O4 WO4_44 WO4_0
      rw [r0, u0, u2, u5, m0, q1', u8, q2', v10, v14, v18, v13, ow]
      generalize R.bite (R.bite (S5_0 R) (R.feq (WO4_39 R x2) (R.fc 0)) (R.bc false)) _ _ = g
      cases g <;> rfl
    · unfold S4_0
      rw [n0, q1, q2, w5, w8, w9, w12, sw, z0]
      rfl
  · obtain ⟨k, rfl⟩ : ∃ k : Nat, x2 = (k : Int) := ⟨x2.toNat, by omega⟩
    have hk : k ≤ 255 := by omega
    have w5 : WS4_0_5 R (k : Int) = false := inb (b := 255) (c := 0) (by omega)
    have w6 : WS4_0_19 R (k : Int) = false := by unfold WS4_0_19 WS4_0_18; rw [tl]; exact inb (c := 0) (by omega)
    have w7 : WS4_0_20 R (k : Int) = decide (k = 255) := by unfold WS4_0_20; rw [w6, tl, zq]; rfl
    have am : 0 < k → R.zsub .i64 (k : Int) (R.zc 1) = ((k - 1 : Nat) : Int) := fun hp => sub1 hp (by omega)
    have ap : R.zadd .i64 (k : Int) (R.zc 1) = ((k + 1 : Nat) : Int) := (zadd64 (x := (k : Int)) (y := 1) ⟨by omega, by omega⟩).trans rfl
    have asb : R.zsub .i64 ((k + 1 : Nat) : Int) (R.zc 1) = (k : Int) := (zsub64 (x := ((k + 1 : Nat) : Int)) (y := 1) ⟨by omega, by omega⟩).trans (show ((k + 1 : Nat) : Int) - 1 = (k : Int) by omega)
    have w10 : WS4_0_10 R (k : Int) = false := by unfold WS4_0_10; rw [ap]; exact zln (a := k + 1) (b := 1) (by omega)
    have w11 : WS4_0_11 R (k : Int) = (k : Int) := by unfold WS4_0_11; rw [ap]; exact asb
    obtain ⟨lo, l1, l2, l3, l4⟩ : ∃ lo : Fl, WS4_0_21 R (k : Int) = lo ∧ WS4_0_13 R false (k : Int) = lo ∧ cnt T lo 255 = k ∧ R.feq lo lo = true := by
      by_cases e : k = 0
      · subst e
        exact ⟨R.fc 0, rfl, rfl, h.at0, z0⟩
      · refine ⟨el T (k - 1), ?_, ?_, h.at k (by omega) hk, h.self _ (by omega)⟩
        · unfold WS4_0_21; unfold WS4_0_18; rw [tl, inb (c := R.zc 1) (show ¬ (k : Int) < 1 ∧ ¬ ((255 : Nat) : Int) < (k : Int) by omega), am (by omega), tr]; rfl
        · unfold WS4_0_13
          have : R.zlt (R.zc 0) (k : Int) = true := zl (a := 0) (b := k) (by omega)
          rw [this, am (by omega), fr]; rfl
    have w9 : WS4_0_22 R (k : Int) = lo := by unfold WS4_0_22; rw [w6, l1]; cases WS4_0_20 R (k : Int) <;> rfl
    have be := byteE (l := T) (n := 255) (by omega) h.mono lo
    rw [l3] at be
    have w14 : WS4_0_24 R (k : Int) = [.z (k : Int), .z (k : Int)] := by unfold WS4_0_24; rw [w9, tl, tr]; exact be.2
    have v10 : WO4_33 R (k : Int) = false := w6
    have v14 : WO4_36 R (k : Int) = decide (k = 255) := w7
    have v18 : WO4_18 R (k : Int) = false := w5
    have v12 : 0 < k → WO4_12 R (k : Int) = true := fun hp => by unfold WO4_12; rw [am hp]; exact zge0 _
    have v13 : WO4_35 R (k : Int) = true := by
      unfold WO4_35 WO4_34
      rw [ul]
      by_cases e : k = 0
      · subst e; rfl
      · rw [inb (c := R.zc 1) (show ¬ (k : Int) < 1 ∧ ¬ ((255 : Nat) : Int) < (k : Int) by omega), v12 (by omega), am (by omega), zl (a := k - 1) (b := 255) (by omega)]; rfl
    have v21 : WO4_21 R false (k : Int) = true := by
      unfold WO4_21
      rw [ul7]
      by_cases e : k = 0
      · subst e; rfl
      · have : R.zlt (R.zc 0) (k : Int) = true := zl (a := 0) (b := k) (by omega)
        rw [this, v12 (by omega), am (by omega), zl (a := k - 1) (b := 255) (by omega)]; rfl
    have v17 : WO4_17 R (k : Int) = (k : Int) := w11
    have v25 : WO4_42 R (k : Int) = true := by
      have : WO4_42 R (k : Int) = E2 R (WS4_0_22 R (k : Int)) (R.llen (nthL (WS4_0_15 R) 0)) (nthL (WS4_0_15 R) 0) (R.zc 0) (R.llen (nthL (WS4_0_15 R) 0)) := rfl
      rw [this, w9, tl, tr]; exact be.1
    have v27 : WO4_27 R false (k : Int) = true := by
      unfold WO4_27
      rw [show R.zeq (k : Int) (R.zc 255) = decide (k = 255) from zq k 255, ul7, zge0]
      by_cases e : k = 255
      · rw [decide_eq_true e]; rfl
      · rw [decide_eq_false e, zl (a := k) (b := 255) (by omega)]; rfl
    have v16 : k < 255 → WO4_37 R (k : Int) = false := fun hp => by
      have : WO4_37 R (k : Int) = R.bite (WS4_0_10 R (k : Int)) (R.bc true) (R.zlt (R.llen (nthL (WS4_0_15 R) 0)) (R.zadd .i64 (k : Int) (R.zc 1))) := rfl
      rw [this, w10, tl, ap, zln (a := 255) (b := k + 1) (by omega)]; rfl
    constructor
    · unfold O4 WO4_44 WO4_0
      rw [r0, u0, u2, u5, m0, q1', u8, q2', v10, v14, v18, v13, v21, v25, v27, v17, ow, ul, zge0]
      generalize WO4_40 R false (k : Int) = g1
      generalize WO4_41 R false (k : Int) = g2
      generalize R.zeq (nthZ (WO4_43 R (k : Int)) 0) (k : Int) = g3
      generalize R.zeq (k : Int) ((255 : Nat) : Int) = g4
      by_cases e : k = 255
      · rw [decide_eq_true e]
        cases g1 <;> cases g2 <;> cases g3 <;> cases g4 <;> rfl
      · rw [decide_eq_false e, v16 (by omega), zl (a := k) (b := 255) (by omega)]
        cases g1 <;> cases g2 <;> cases g3 <;> cases g4 <;> rfl
    · unfold S4_0
      have q14 : R.zeq (nthZ ([.z (k : Int), .z (k : Int)] : List (PD R)) 0) (k : Int) = true := by
        show R.zeq (k : Int) (k : Int) = true
        rw [zq]; exact decide_eq_true rfl
      rw [n0, q1, q2, w5, w9, l1, l2, l4, w14, q14, sw, show R.zeq (k : Int) (R.zc 255) = decide (k = 255) from zq k 255, fr]
      by_cases e : k = 255
      · rw [decide_eq_true e]; rfl
      · have w12 : WS4_0_23 R (k : Int) = el T k := by
          unfold WS4_0_23
          rw [w7, decide_eq_false e, w10, w11, tl, ap, zln (a := 255) (b := k + 1) (by omega), tr]; rfl
        have q : R.feq (el T k) (R.lf T (k : Int) 0) = true := h.self k (by omega)
        rw [w12, decide_eq_false e, q]; rfl

theorem law_ToneBytes (x0 : Bool) (x1 : Row) (x2 : Int) (_k1 : okRow [.f] x1) (_k2 : okInt .i64 x2) : O4 R x0 x1 x2 = true ∧ S4_0 R x0 x1 x2 = true := by
  cases x0
  · exact part_false x1 x2
  · exact part_true x1 x2

end Go.Proofs.Ytnehhebdbibecaa
