/- How counts add up, and where the first is. -/
import Derived.Test.YtollfibhbdkedaaSp
namespace Go.Proofs.Ytollfibhbdkedaa
open Go.Ev

set_option maxRecDepth 20000

theorem and_t (x : Bool) : R.band true x = x := by cases x <;> rfl
theorem zltT {a b : Int} (h : a < b) : R.zlt a b = true := decide_eq_true h
theorem zltF {a b : Int} (h : ¬ a < b) : R.zlt a b = false := decide_eq_false h
theorem zleT {a b : Int} (h : a ≤ b) : R.zle a b = true := decide_eq_true h
theorem zleF {a b : Int} (h : ¬ a ≤ b) : R.zle a b = false := decide_eq_false h
theorem zeqT {a b : Int} (h : a = b) : R.zeq a b = true := by subst h; show (a == a) = true; simp
theorem zeqF {a b : Int} (h : a ≠ b) : R.zeq a b = false := by show (a == b) = false; simpa using h
theorem suc {i : Nat} (h : i ≤ 1000000) : R.zadd .i64 (i : Int) (R.zc 1) = ((i + 1 : Nat) : Int) := (zadd64 (x := (i : Int)) (y := 1) ⟨by omega, by omega⟩).trans rfl

/-- A count, as it counts. -/
def cap (n : Int) : Int := if n ≤ 0 then 0 else if 1073741824 ≤ n then 1073741824 else n

theorem cap_b (n : Int) : 0 ≤ cap n ∧ cap n ≤ 1073741824 := by unfold cap; split <;> (try split) <;> omega
theorem cap_pos {n : Int} : 0 < cap n ↔ 0 < n := by unfold cap; split <;> (try split) <;> omega

theorem capE (n : Int) : S24_0 R n = cap n := by
  show (if (1073741824 : Int) < (if (0 : Int) > n then 0 else n) then 1073741824 else (if (0 : Int) > n then 0 else n)) = cap n
  unfold cap
  grind
theorem countE (n : Int) : S21_0 R n = cap n := by
  show (if decide (n < 0) = true then (0 : Int) else (if decide (n < 1073741824) = true then n else 1073741824)) = cap n
  unfold cap
  grind

/-- The number at a place. -/
noncomputable def at_ (h : Row) (i : Nat) : Int := R.lz h (i : Int) 0

/-- How many are below. -/
noncomputable def bel (h : Row) : Nat → Int
  | 0 => 0
  | m + 1 => bel h m + cap (at_ h m)

theorem bel_b (h : Row) : ∀ m, 0 ≤ bel h m ∧ bel h m ≤ 1073741824 * (m : Int)
  | 0 => by simp [bel]
  | m + 1 => by
    have := bel_b h m
    have := cap_b (at_ h m)
    simp only [bel]
    omega

theorem bel_mono (h : Row) {a b : Nat} (hab : a ≤ b) : bel h a ≤ bel h b := by
  induction b with
  | zero => have : a = 0 := by omega
            subst this; exact Int.le_refl _
  | succ b ih =>
    by_cases e : a = b + 1
    · subst e; exact Int.le_refl _
    · have := ih (by omega)
      have := cap_b (at_ h b)
      simp only [bel]; omega

/-- A number between nought and 256. -/
def cl (a : Int) : Nat := if a ≤ 0 then 0 else if 256 ≤ a then 256 else a.toNat

theorem cl_le (a : Int) : cl a ≤ 256 := by unfold cl; split <;> (try split) <;> omega
theorem clE (a : Int) : R.zmin (R.zmax a (R.zc 0)) (R.zc 256) = (cl a : Int) := by
  show (if (256 : Int) < (if (0 : Int) > a then 0 else a) then 256 else (if (0 : Int) > a then 0 else a)) = (cl a : Int)
  by_cases h1 : a ≤ 0
  · have e : cl a = 0 := by unfold cl; rw [if_pos h1]
    rw [e]; split <;> split at * <;> omega
  · by_cases h2 : 256 ≤ a
    · have e : cl a = 256 := by unfold cl; rw [if_neg h1, if_pos h2]
      rw [e]; split <;> split at * <;> omega
    · have e : (cl a : Int) = a := by unfold cl; rw [if_neg h1, if_neg h2]; omega
      rw [e]; split <;> split at * <;> omega
theorem cl_nat {m : Nat} (h : m ≤ 256) : cl (m : Int) = m := by unfold cl; split <;> (try split) <;> omega

section
variable (h : Row)

theorem addB {j : Nat} (hj : j < 256) : R.zadd .i64 (bel h j) (cap (at_ h j)) = bel h (j + 1) := by
  have b1 := bel_b h j
  have b2 := cap_b (at_ h j)
  exact zadd64 (x := bel h j) (y := cap (at_ h j)) ⟨by omega, by omega⟩

theorem all3 : E3 R h (R.zc 0) (R.zc 0) = true ∧ L3 R h (R.zc 0) (R.zc 0) = [.z (bel h 256), .z (256 : Int)] := by
  refine ends_path (step := G3 R h) (p := [.z (R.zc 0), .z (R.zc 0)]) (fun j => [.z (bel h j), .z (j : Int)]) 256 rfl (fun j hj => ?_) rfl
  have b1 : R.zlt (j : Int) (R.zc 256) = true := zltT (show (j : Int) < 256 by omega)
  have b2 : R.zle (R.zc 0) (j : Int) = true := zleT (show (0 : Int) ≤ j by omega)
  show (C3 R (j : Int), O3_ R (j : Int), [PV.z (N3_0 R h (bel h j) (j : Int)), .z (N3_1 R (j : Int))]) = _
  unfold C3 O3_ N3_0 N3_1
  rw [capE, show R.lz h (j : Int) 0 = at_ h j from rfl, addB h hj, suc (by omega), b1, b2]
  rfl

theorem all10 : E10 R h (R.zc 0) (R.zc 0) = true ∧ L10 R h (R.zc 0) (R.zc 0) = [.z (bel h 256), .z (256 : Int)] := by
  refine ends_path (step := G10 R h) (p := [.z (R.zc 0), .z (R.zc 0)]) (fun j => [.z (bel h j), .z (j : Int)]) 256 rfl (fun j hj => ?_) rfl
  have b1 : R.zlt (j : Int) (R.zc 256) = true := zltT (show (j : Int) < 256 by omega)
  have b2 : R.zle (R.zc 0) (j : Int) = true := zleT (show (0 : Int) ≤ j by omega)
  show (C10 R (j : Int), O10_ R (j : Int), [PV.z (N10_0 R h (bel h j) (j : Int)), .z (N10_1 R (j : Int))]) = _
  unfold C10 O10_ N10_0 N10_1
  rw [countE, show R.lz h (j : Int) 0 = at_ h j from rfl, addB h hj, suc (by omega), b1, b2]
  rfl

theorem bel4 {m : Nat} (hm : m ≤ 256) : E4 R (m : Int) h (R.zc 0) (R.zc 0) = true ∧ L4 R (m : Int) h (R.zc 0) (R.zc 0) = [.z (bel h m), .z (m : Int)] := by
  refine ends_path (step := G4 R (m : Int) h) (p := [.z (R.zc 0), .z (R.zc 0)]) (fun j => [.z (bel h j), .z (j : Int)]) m rfl (fun j hj => ?_) (zltF (Int.lt_irrefl _))
  have b0 : R.zlt (j : Int) (m : Int) = true := zltT (by omega)
  have b1 : R.zlt (j : Int) (R.zc 256) = true := zltT (show (j : Int) < 256 by omega)
  have b2 : R.zle (R.zc 0) (j : Int) = true := zleT (show (0 : Int) ≤ j by omega)
  show (C4 R (m : Int) (j : Int), O4_ R (m : Int) (j : Int), [PV.z (N4_0 R h (bel h j) (j : Int)), .z (N4_1 R (j : Int))]) = _
  unfold C4 O4_ N4_0 N4_1
  rw [capE, show R.lz h (j : Int) 0 = at_ h j from rfl, addB h (by omega), suc (by omega), b0, b1, b2]
  rfl

theorem bel8 : E8 R h (R.zc 0) (R.zc 0) = true ∧ L8 R h (R.zc 0) (R.zc 0) = [.z (bel h 255), .z (255 : Int)] := by
  refine ends_path (step := G8 R h) (p := [.z (R.zc 0), .z (R.zc 0)]) (fun j => [.z (bel h j), .z (j : Int)]) 255 rfl (fun j hj => ?_) rfl
  have b0 : R.zlt (j : Int) (R.zc 255) = true := zltT (show (j : Int) < 255 by omega)
  have b1 : R.zlt (j : Int) (R.zc 256) = true := zltT (show (j : Int) < 256 by omega)
  have b2 : R.zle (R.zc 0) (j : Int) = true := zleT (show (0 : Int) ≤ j by omega)
  show (C8 R (j : Int), O8_ R (j : Int), [PV.z (N8_0 R h (bel h j) (j : Int)), .z (N8_1 R (j : Int))]) = _
  unfold C8 O8_ N8_0 N8_1
  rw [capE, show R.lz h (j : Int) 0 = at_ h j from rfl, addB h (by omega), suc (by omega), b0, b1, b2]
  rfl

theorem bel11 (a : Int) : E11 R a h (R.zc 0) (R.zc 0) = true ∧ L11 R a h (R.zc 0) (R.zc 0) = [.z (bel h (cl a)), .z (cl a : Int)] := by
  have hc := cl_le a
  refine ends_path (step := G11 R a h) (p := [.z (R.zc 0), .z (R.zc 0)]) (fun j => [.z (bel h j), .z (j : Int)]) (cl a) rfl (fun j hj => ?_) ?_
  · have hja : (j : Int) < a := by
      unfold cl at hj; split at hj <;> (try split at hj) <;> omega
    have b0 : R.zlt (j : Int) a = true := zltT hja
    have b1 : R.zlt (j : Int) (R.zc 256) = true := zltT (show (j : Int) < 256 by omega)
    have b2 : R.zle (R.zc 0) (j : Int) = true := zleT (show (0 : Int) ≤ j by omega)
    show (C11 R a (j : Int), O11_ R a (j : Int), [PV.z (N11_0 R h (bel h j) (j : Int)), .z (N11_1 R (j : Int))]) = _
    unfold C11 O11_ N11_0 N11_1
    rw [countE, show R.lz h (j : Int) 0 = at_ h j from rfl, addB h (by omega), suc (by omega), b0, b1, b2]
    rfl
  · show C11 R a (cl a : Int) = false
    unfold C11
    by_cases e : (cl a : Int) < 256
    · have : ¬ (cl a : Int) < a := by
        by_cases h1 : a ≤ 0
        · omega
        · by_cases h2 : 256 ≤ a
          · have e2 : cl a = 256 := by unfold cl; rw [if_neg h1, if_pos h2]
            omega
          · have e2 : (cl a : Int) = a := by unfold cl; rw [if_neg h1, if_neg h2]; omega
            omega
      rw [zltT (show (cl a : Int) < R.zc 256 from e), zltF this]; rfl
    · rw [zltF (show ¬ (cl a : Int) < R.zc 256 from e)]; rfl
end

/-- The first of which something is so. -/
theorem firstOf (P : Nat → Bool) : ∀ n, ∃ t, t ≤ n ∧ (∀ j, j < t → P j = false) ∧ (t = n ∨ t < n ∧ P t = true)
  | 0 => ⟨0, Nat.le_refl _, fun i hi => by omega, .inl rfl⟩
  | n + 1 => by
    obtain ⟨m, h1, h2, h3⟩ := firstOf P n
    rcases h3 with e | ⟨h3, h4⟩
    · subst e
      cases hb : P m with
      | true => exact ⟨m, by omega, h2, .inr ⟨by omega, hb⟩⟩
      | false =>
        refine ⟨m + 1, Nat.le_refl _, fun i hi => ?_, .inl rfl⟩
        by_cases e : i = m
        · subst e; exact hb
        · exact h2 i (by omega)
    · exact ⟨m, by omega, h2, .inr ⟨by omega, h4⟩⟩

section
variable (h : Row)

theorem first6 : ∃ t : Nat, t ≤ 256 ∧ (∀ j, j < t → at_ h j ≤ 0) ∧ (t = 256 ∨ t < 256 ∧ 0 < at_ h t) ∧
    E6 R h (R.zc 0) (R.zc 0) = true ∧ L6 R h (R.zc 0) (R.zc 0) = [.z (R.zc 0), .z (t : Int)] := by
  obtain ⟨t, t1, t2, t3⟩ := firstOf (fun j => decide (0 < at_ h j)) 256
  refine ⟨t, t1, fun j hj => by have := t2 j hj; simpa using this, t3.imp id fun g => ⟨g.1, by simpa using g.2⟩, ?_⟩
  refine ends_path (step := G6 R h) (p := [.z (R.zc 0), .z (R.zc 0)]) (fun j => [.z (R.zc 0), .z (j : Int)]) t rfl (fun j hj => ?_) ?_
  · have b1 : R.zlt (j : Int) (R.zc 256) = true := zltT (show (j : Int) < 256 by omega)
    have b2 : R.zle (R.zc 0) (j : Int) = true := zleT (show (0 : Int) ≤ j by omega)
    have b3 : R.zlt (R.zc 0) (at_ h j) = false := t2 j hj
    show (C6 R h (j : Int), O6_ R (j : Int), [PV.z (R.zc 0), .z (N6_1 R (j : Int))]) = _
    unfold C6 O6_ N6_1
    rw [show R.lz h (j : Int) 0 = at_ h j from rfl, suc (by omega), b1, b2, b3]
    rfl
  · show C6 R h (t : Int) = false
    unfold C6
    rcases t3 with e | ⟨g1, g2⟩
    · rw [zltF (show ¬ (t : Int) < R.zc 256 from show ¬ (t : Int) < 256 by omega)]; rfl
    · have b1 : R.zlt (t : Int) (R.zc 256) = true := zltT (show (t : Int) < 256 by omega)
      have b2 : R.zle (R.zc 0) (t : Int) = true := zleT (show (0 : Int) ≤ t by omega)
      have b3 : R.zlt (R.zc 0) (at_ h t) = true := g2
      rw [show R.lz h (t : Int) 0 = at_ h t from rfl, b1, b2, b3]; rfl

theorem sub255 {j : Nat} (hj : j ≤ 255) : R.zsub .i64 (R.zc 255) (j : Int) = ((255 - j : Nat) : Int) := (zsub64 (x := 255) (y := (j : Int)) ⟨by omega, by omega⟩).trans (show (255 : Int) - (j : Int) = ((255 - j : Nat) : Int) by omega)

theorem first7 : ∃ t : Nat, t ≤ 256 ∧ (∀ j, j < t → at_ h (255 - j) ≤ 0) ∧ (t = 256 ∨ t < 256 ∧ 0 < at_ h (255 - t)) ∧
    E7 R h (R.zc 0) (R.zc 0) = true ∧ L7 R h (R.zc 0) (R.zc 0) = [.z (R.zc 0), .z (t : Int)] := by
  obtain ⟨t, t1, t2, t3⟩ := firstOf (fun j => decide (0 < at_ h (255 - j))) 256
  refine ⟨t, t1, fun j hj => by have := t2 j hj; simpa using this, t3.imp id fun g => ⟨g.1, by simpa using g.2⟩, ?_⟩
  refine ends_path (step := G7 R h) (p := [.z (R.zc 0), .z (R.zc 0)]) (fun j => [.z (R.zc 0), .z (j : Int)]) t rfl (fun j hj => ?_) ?_
  · have b0 : R.zlt (j : Int) (R.zc 256) = true := zltT (show (j : Int) < 256 by omega)
    have b1 : R.zlt ((255 - j : Nat) : Int) (R.zc 256) = true := zltT (show ((255 - j : Nat) : Int) < 256 by omega)
    have b2 : R.zle (R.zc 0) ((255 - j : Nat) : Int) = true := zleT (show (0 : Int) ≤ ((255 - j : Nat) : Int) by omega)
    have b3 : R.zlt (R.zc 0) (at_ h (255 - j)) = false := t2 j hj
    show (C7 R h (j : Int), O7_ R (j : Int), [PV.z (R.zc 0), .z (N7_1 R (j : Int))]) = _
    unfold C7 O7_ N7_1
    rw [sub255 (by omega), show R.lz h ((255 - j : Nat) : Int) 0 = at_ h (255 - j) from rfl, suc (by omega), b0, b1, b2, b3]
    rfl
  · show C7 R h (t : Int) = false
    unfold C7
    rcases t3 with e | ⟨g1, g2⟩
    · rw [zltF (show ¬ (t : Int) < R.zc 256 from show ¬ (t : Int) < 256 by omega)]; rfl
    · have b0 : R.zlt (t : Int) (R.zc 256) = true := zltT (show (t : Int) < 256 by omega)
      have b1 : R.zlt ((255 - t : Nat) : Int) (R.zc 256) = true := zltT (show ((255 - t : Nat) : Int) < 256 by omega)
      have b2 : R.zle (R.zc 0) ((255 - t : Nat) : Int) = true := zleT (show (0 : Int) ≤ ((255 - t : Nat) : Int) by omega)
      have b3 : R.zlt (R.zc 0) (at_ h (255 - t)) = true := g2
      rw [sub255 (by omega), show R.lz h ((255 - t : Nat) : Int) 0 = at_ h (255 - t) from rfl, b0, b1, b2, b3]; rfl

/-- Up to where a share is. -/
theorem first9 (den num A : Int) : ∃ t : Nat, t ≤ 256 ∧ (∀ j, j < t → R.zle (R.zmul .i64 num A) (R.zmul .i64 (bel h (j + 1)) den) = false) ∧ (t = 256 ∨ t < 256 ∧ R.zle (R.zmul .i64 num A) (R.zmul .i64 (bel h (t + 1)) den) = true) ∧
    E9 R h den num A (R.zc 0) (R.zc 0) = true ∧ L9 R h den num A (R.zc 0) (R.zc 0) = [.z (R.zc 0), .z (t : Int)] := by
  obtain ⟨t, t1, t2, t3⟩ := firstOf (fun j => R.zle (R.zmul .i64 num A) (R.zmul .i64 (bel h (j + 1)) den)) 256
  refine ⟨t, t1, t2, t3, ?_⟩
  refine ends_path (step := G9 R h den num A) (p := [.z (R.zc 0), .z (R.zc 0)]) (fun j => [.z (R.zc 0), .z (j : Int)]) t rfl (fun j hj => ?_) ?_
  · have b1 : R.zlt (j : Int) (R.zc 256) = true := zltT (show (j : Int) < 256 by omega)
    obtain ⟨e1, e2⟩ := bel4 h (m := j + 1) (by omega)
    show (C9 R h den num A (j : Int), O9_ R h (j : Int), [PV.z (R.zc 0), .z (N9_1 R (j : Int))]) = _
    unfold C9 O9_ N9_1 WO9__0
    rw [suc (by omega), clE, cl_nat (by omega), e1, e2, b1]
    show (R.band true (R.bite true (R.bnot (R.zle (R.zmul .i64 num A) (R.zmul .i64 (bel h (j + 1)) den))) (R.bc true)), _) = _
    rw [t2 j hj]
    rfl
  · show C9 R h den num A (t : Int) = false
    unfold C9
    rcases t3 with e | ⟨g1, g2⟩
    · rw [zltF (show ¬ (t : Int) < R.zc 256 from show ¬ (t : Int) < 256 by omega)]; rfl
    · obtain ⟨e1, e2⟩ := bel4 h (m := t + 1) (by omega)
      rw [suc (by omega), clE, cl_nat (by omega), e1, e2, zltT (show (t : Int) < R.zc 256 from show (t : Int) < 256 by omega)]
      show R.band true (R.bite true (R.bnot (R.zle (R.zmul .i64 num A) (R.zmul .i64 (bel h (t + 1)) den))) (R.bc true)) = _
      rw [g2]; rfl

/-- The same for a half. -/
theorem first5 (A : Int) : ∃ t : Nat, t ≤ 256 ∧ (∀ j, j < t → R.zle (R.zmul .i64 (R.zc 1) A) (R.zmul .i64 (bel h (j + 1)) (R.zc 2)) = false) ∧ (t = 256 ∨ t < 256 ∧ R.zle (R.zmul .i64 (R.zc 1) A) (R.zmul .i64 (bel h (t + 1)) (R.zc 2)) = true) ∧
    E5 R h A (R.zc 0) (R.zc 0) = true ∧ L5 R h A (R.zc 0) (R.zc 0) = [.z (R.zc 0), .z (t : Int)] := by
  obtain ⟨t, t1, t2, t3⟩ := firstOf (fun j => R.zle (R.zmul .i64 (R.zc 1) A) (R.zmul .i64 (bel h (j + 1)) (R.zc 2))) 256
  refine ⟨t, t1, t2, t3, ?_⟩
  refine ends_path (step := G5 R h A) (p := [.z (R.zc 0), .z (R.zc 0)]) (fun j => [.z (R.zc 0), .z (j : Int)]) t rfl (fun j hj => ?_) ?_
  · have b1 : R.zlt (j : Int) (R.zc 256) = true := zltT (show (j : Int) < 256 by omega)
    obtain ⟨e1, e2⟩ := bel4 h (m := j + 1) (by omega)
    show (C5 R h A (j : Int), O5_ R h (j : Int), [PV.z (R.zc 0), .z (N5_1 R (j : Int))]) = _
    unfold C5 O5_ N5_1 WO5__0
    rw [suc (by omega), clE, cl_nat (by omega), e1, e2, b1]
    show (R.band true (R.bite true (R.bnot (R.zle (R.zmul .i64 (R.zc 1) A) (R.zmul .i64 (bel h (j + 1)) (R.zc 2)))) (R.bc true)), _) = _
    rw [t2 j hj]
    rfl
  · show C5 R h A (t : Int) = false
    unfold C5
    rcases t3 with e | ⟨g1, g2⟩
    · rw [zltF (show ¬ (t : Int) < R.zc 256 from show ¬ (t : Int) < 256 by omega)]; rfl
    · obtain ⟨e1, e2⟩ := bel4 h (m := t + 1) (by omega)
      rw [suc (by omega), clE, cl_nat (by omega), e1, e2, zltT (show (t : Int) < R.zc 256 from show (t : Int) < 256 by omega)]
      show R.band true (R.bite true (R.bnot (R.zle (R.zmul .i64 (R.zc 1) A) (R.zmul .i64 (bel h (t + 1)) (R.zc 2)))) (R.bc true)) = _
      rw [g2]; rfl
end

end Go.Proofs.Ytollfibhbdkedaa
