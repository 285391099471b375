/- Searches and counts in rows of ends. -/
import Derived.Test.YtnehhebdbibecaaAw
import Derived.Test.YtnehhebdbibecaaEv5
namespace Go.Proofs.Ytnehhebdbibecaa
open Go.Ev

/-- An element of a row of one float each. -/
noncomputable def el (l : Row) (i : Nat) : Fl := R.lf l (i : Int) 0

/-- How many of the first elements are not above a light. -/
noncomputable def cnt (l : Row) (x : Fl) : Nat → Nat
  | 0 => 0
  | n + 1 => if R.fle (el l n) x = true then cnt l x n + 1 else cnt l x n

theorem cnt_le (l : Row) (x : Fl) : ∀ n, cnt l x n ≤ n
  | 0 => Nat.le_refl _
  | n + 1 => by
    have := cnt_le l x n
    unfold cnt
    split <;> omega

/-- What is not above a light is followed by nothing but what is above. -/
def Mono (l : Row) (n : Nat) : Prop := ∀ i j, i < j → j < n → ∀ x, R.fle (el l j) x = true → R.fle (el l i) x = true

theorem cnt_split {l : Row} {x : Fl} {m : Nat} : ∀ n, m ≤ n → (∀ i, i < m → R.fle (el l i) x = true) → (∀ i, m ≤ i → i < n → R.fle (el l i) x = false) → cnt l x n = m
  | 0, h, _, _ => by have : m = 0 := by omega
                     subst this; rfl
  | n + 1, h, h1, h2 => by
    unfold cnt
    by_cases e : m = n + 1
    · subst e
      rw [if_pos (h1 n (by omega))]
      have : cnt l x n = n := by
        have key : ∀ k, k ≤ n → cnt l x k = k := by
          intro k
          induction k with
          | zero => intro _; rfl
          | succ k ih => intro hk; unfold cnt; rw [if_pos (h1 k (by omega)), ih (by omega)]
        exact key n (Nat.le_refl _)
      rw [this]
    · rw [if_neg (by rw [h2 n (by omega) (by omega)]; simp), cnt_split n (by omega) h1 fun i a b => h2 i a (by omega)]

theorem zq2 {a b : Int} (h0 : 0 ≤ a) (h1 : 0 ≤ b) (h2 : a + b ≤ 9223372036854775807) : R.zquo .i64 (R.zadd .i64 a b) (R.zc 2) = (a + b) / 2 := by
  rw [zadd64 ⟨by omega, h2⟩]
  exact zquo64 (x := a + b) (y := 2) ⟨by omega, h2, by omega⟩

/-- The search by halves. -/
theorem byteE {l : Row} {n : Nat} (hn : n ≤ 1000000) (hm : Mono l n) (x : Fl) : E2 R x (n : Int) l (R.zc 0) (n : Int) = true ∧ L2 R x (n : Int) l (R.zc 0) (n : Int) = [.z (cnt l x n : Int), .z (cnt l x n : Int)] := by
  have key := ends_inv (step := G2 R x (n : Int) l) (p := [.z (R.zc 0), .z (n : Int)])
    (fun p => ∃ a b : Nat, p = [.z (a : Int), .z (b : Int)] ∧ a ≤ b ∧ b ≤ n ∧ (∀ i, i < a → R.fle (el l i) x = true) ∧ ∀ i, b ≤ i → i < n → R.fle (el l i) x = false)
    (fun p => ((nthZ p 1 : Int) - (nthZ p 0 : Int)).toNat)
    ⟨0, n, rfl, by omega, Nat.le_refl _, fun i hi => by omega, fun i a b => by omega⟩
    (by
      rintro p ⟨a, b, rfl, h1, h2, h3, h4⟩ hc
      have hq : R.zquo .i64 (R.zadd .i64 (a : Int) (b : Int)) (R.zc 2) = (((a + b) / 2 : Nat) : Int) := (zq2 (by omega) (by omega) (by omega)).trans (show ((a : Int) + (b : Int)) / 2 = (((a + b) / 2 : Nat) : Int) by omega)
      have hab : a < b := by
        by_cases h : a < b
        · exact h
        · exfalso
          have hc' : C2 R (n : Int) (a : Int) (b : Int) = true := hc
          have e : R.zle (b : Int) (a : Int) = true := decide_eq_true (by omega)
          unfold C2 at hc'
          rw [e] at hc'
          cases hc'
      have e1 : R.zle (b : Int) (a : Int) = false := decide_eq_false (by omega)
      have e2 : R.zle (R.zc 0) (((a + b) / 2 : Nat) : Int) = true := decide_eq_true (show (0 : Int) ≤ (((a + b) / 2 : Nat) : Int) by omega)
      have e3 : R.zlt (((a + b) / 2 : Nat) : Int) (n : Int) = true := decide_eq_true (by omega)
      have ok : O2_ R (n : Int) (a : Int) (b : Int) = true := by
        unfold O2_
        rw [hq, e1, e2, e3]
        rfl
      have hadd : R.zadd .i64 (((a + b) / 2 : Nat) : Int) (R.zc 1) = (((a + b) / 2 + 1 : Nat) : Int) := (zadd64 (x := (((a + b) / 2 : Nat) : Int)) (y := 1) ⟨by omega, by omega⟩).trans rfl
      refine ⟨ok, ?_⟩
      show (∃ a' b' : Nat, [PV.z (N2_0 R x l (a : Int) (b : Int)), .z (N2_1 R x l (a : Int) (b : Int))] = [.z (a' : Int), .z (b' : Int)] ∧ _) ∧ ((N2_1 R x l (a : Int) (b : Int) : Int) - (N2_0 R x l (a : Int) (b : Int) : Int)).toNat < ((b : Int) - (a : Int)).toNat
      unfold N2_0 N2_1
      rw [hq, hadd]
      cases hf : R.fle (R.lf l (((a + b) / 2 : Nat) : Int) 0) x with
      | true =>
        refine ⟨⟨(a + b) / 2 + 1, b, rfl, by omega, h2, fun i hi => ?_, h4⟩, ?_⟩
        · by_cases e : i = (a + b) / 2
          · subst e; exact hf
          · exact hm i ((a + b) / 2) (by omega) (by omega) x hf
        · show ((b : Int) - (((a + b) / 2 + 1 : Nat) : Int)).toNat < _
          omega
      | false =>
        refine ⟨⟨a, (a + b) / 2, rfl, by omega, by omega, h3, fun i hi hin => ?_⟩, ?_⟩
        · by_cases e : i = (a + b) / 2
          · subst e; exact hf
          · cases hg : R.fle (el l i) x with
            | false => rfl
            | true =>
              have := hm ((a + b) / 2) i (by omega) hin x hg
              have hf' : R.fle (el l ((a + b) / 2)) x = false := hf
              rw [hf'] at this; cases this
        · show ((((a + b) / 2 : Nat) : Int) - (a : Int)).toNat < _
          omega)
  obtain ⟨k1, ⟨a, b, k2, k3, k4, k5, k6⟩, k7⟩ := key
  refine ⟨k1, ?_⟩
  have hL : L2 R x (n : Int) l (R.zc 0) (n : Int) = [.z (a : Int), .z (b : Int)] := k2
  have hba : b ≤ a := by
    by_cases h : b ≤ a
    · exact h
    · exfalso
      have k2' : lastP (G2 R x (n : Int) l) [.z (R.zc 0), .z (n : Int)] = [.z (a : Int), .z (b : Int)] := k2
      rw [k2'] at k7
      have hc' : C2 R (n : Int) (a : Int) (b : Int) = false := k7
      have e1 : R.zle (b : Int) (a : Int) = false := decide_eq_false (by omega)
      unfold C2 at hc'
      rw [e1] at hc'
      generalize R.band (R.bnot (R.zeq (R.zc 2) (R.zc 0))) _ = z at hc'
      cases z <;> cases hc'
  have e : a = b := by omega
  subst e
  have hcnt := cnt_split n k4 k5 k6
  rw [hL, hcnt]


/-- The count. -/
theorem countE {l : Row} {n : Nat} (hn : n ≤ 1000000) (x : Fl) : E5 R (n : Int) x l (R.zc 0) (R.zc 0) = true ∧ L5 R (n : Int) x l (R.zc 0) (R.zc 0) = [.z (cnt l x n : Int), .z (n : Int)] := by
  have p := ends_path (step := G5 R (n : Int) x l) (p := [.z (R.zc 0), .z (R.zc 0)]) (fun i => [.z (cnt l x i : Int), .z (i : Int)]) n rfl (fun i hi => by
      have hc : R.zlt (i : Int) (n : Int) = true := decide_eq_true (by omega)
      have h0 : R.zle (R.zc 0) (i : Int) = true := decide_eq_true (show (0 : Int) ≤ (i : Int) by omega)
      have ha : R.zadd .i64 (i : Int) (R.zc 1) = ((i + 1 : Nat) : Int) := (zadd64 (x := (i : Int)) (y := 1) ⟨by omega, by omega⟩).trans rfl
      have hle := cnt_le l x i
      have hb : R.zadd .i64 (cnt l x i : Int) (R.zc 1) = ((cnt l x i + 1 : Nat) : Int) := (zadd64 (x := (cnt l x i : Int)) (y := 1) ⟨by omega, by omega⟩).trans rfl
      show (C5 R (n : Int) (i : Int), O5_ R (n : Int) (i : Int), [PV.z (N5_0 R x l (cnt l x i : Int) (i : Int)), .z (N5_1 R (i : Int))]) = (true, true, [PV.z ((cnt l x (i + 1) : Nat) : Int), .z ((i + 1 : Nat) : Int)])
      unfold C5 O5_ N5_0 N5_1
      rw [hc, h0, ha, hb]
      have hs : cnt l x (i + 1) = if R.fle (R.lf l (i : Int) 0) x = true then cnt l x i + 1 else cnt l x i := rfl
      rw [hs]
      cases R.fle (R.lf l (i : Int) 0) x <;> rfl)
    (by show decide ((n : Int) < (n : Int)) = false; exact decide_eq_false (by omega))
  exact p

/-- Of a greater light the count is not less. -/
theorem cnt_mono {l : Row} {x y : Fl} (h : R.fle x y = true) : ∀ n, cnt l x n ≤ cnt l y n
  | 0 => Nat.le_refl _
  | n + 1 => by
    have ih := cnt_mono (l := l) h n
    unfold cnt
    by_cases e : R.fle (el l n) x = true
    · have : R.fle (el l n) y = true := by
        obtain ⟨a, b, h1, h2, h3⟩ := (fle_iff _ _).1 e
        obtain ⟨c, d, k1, k2, k3⟩ := (fle_iff _ _).1 h
        rw [h2] at k1; cases k1
        exact (fle_iff _ _).2 ⟨a, d, h1, k2, by omega⟩
      rw [if_pos e, if_pos this]; omega
    · rw [if_neg e]; split <;> omega

/-- An end that may not be. -/
noncomputable def bad (l : Row) (i : Nat) : Bool := R.bite (R.bite (R.bnot (R.fgt (el l i) (R.fc 0))) (R.bc true) (R.bnot (S18_0 R (el l i)))) (R.bc true) (R.bite (R.zlt (R.zc 0) (i : Int)) (R.fle (el l i) (el l (i - 1))) (R.bc false))

theorem bad19 (l : Row) (i : Nat) : bad l i = R.bite (R.bnot (S19_0 R (el l i))) (R.bc true) (R.bite (R.fle (el l i) (R.fc 0)) (R.bc true) (R.band (R.zlt (R.zc 0) (i : Int)) (R.fle (el l i) (el l (i - 1))))) := by
  have hn : S18_0 R (el l i) = S19_0 R (el l i) := number_iff _
  unfold bad
  rw [hn]
  generalize R.fle (el l i) (el l (i - 1)) = u
  generalize R.zlt (R.zc 0) (i : Int) = v
  cases hs : S19_0 R (el l i) with
  | false => cases R.fgt (el l i) (R.fc 0) <;> rfl
  | true =>
    have hfin : ∃ k, fkey (el l i) = some k := by
      have hs' : R.feq (R.fsub (el l i) (el l i)) (R.fc 0) = true := hs
      cases hk : fkey (el l i) with
      | some k => exact ⟨k, rfl⟩
      | none =>
        exfalso
        have := (feq_iff _ _).1 hs'
        obtain ⟨a, b, h1, _⟩ := this
        have hnone : fkey (R.fsub (el l i) (el l i)) = none := by
          cases he : el l i with
          | none => rfl
          | some b =>
            rw [he] at hk
            obtain ⟨s, t, hb⟩ := key_none_nan hk
            show fkey (match f64.sub b b with | some r => cls r | none => none) = none
            unfold Ieee.Format.sub
            rw [hb]; rfl
        rw [hnone] at h1; cases h1
    obtain ⟨k, hk⟩ := hfin
    have hg : R.fgt (el l i) (R.fc 0) = decide (0 < k) := by
      cases hd : R.fgt (el l i) (R.fc 0) with
      | true =>
        obtain ⟨a, b, h1, h2, h3⟩ := (fgt_iff _ _).1 hd
        rw [hk] at h1; cases h1
        rw [show fkey (R.fc 0) = some 0 from fkey_zero] at h2; cases h2
        exact (decide_eq_true h3).symm
      | false =>
        by_cases h : 0 < k
        · exfalso
          have := (fgt_iff (el l i) (R.fc 0)).2 ⟨k, 0, hk, fkey_zero, h⟩
          have hd' : (ford (el l i) (R.fc 0) == some .gt) = false := hd
          rw [this] at hd'; cases hd'
        · exact (decide_eq_false h).symm
    have hl : R.fle (el l i) (R.fc 0) = decide (k ≤ 0) := by
      cases hd : R.fle (el l i) (R.fc 0) with
      | true =>
        obtain ⟨a, b, h1, h2, h3⟩ := (fle_iff _ _).1 hd
        rw [hk] at h1; cases h1
        rw [show fkey (R.fc 0) = some 0 from fkey_zero] at h2; cases h2
        exact (decide_eq_true h3).symm
      | false =>
        by_cases h : k ≤ 0
        · exfalso
          have := (fle_iff (el l i) (R.fc 0)).2 ⟨k, 0, hk, fkey_zero, h⟩
          have hd' : (ford (el l i) (R.fc 0) == some .lt || ford (el l i) (R.fc 0) == some .eq) = false := hd
          rw [this] at hd'; cases hd'
        · exact (decide_eq_false h).symm
    rw [hg, hl]
    by_cases h : 0 < k
    · rw [decide_eq_true h, decide_eq_false (by omega)]
      cases v <;> cases u <;> rfl
    · rw [decide_eq_false h, decide_eq_true (by omega)]
      rfl

end Go.Proofs.Ytnehhebdbibecaa
