/- The law ToneMakes over rows and floats alone. -/
import Derived.Test.YtnehhebdbibecaaTn
namespace Go.Proofs.Ytnehhebdbibecaa
open Go.Ev

theorem firstBad (l : Row) : ∀ n, ∃ m, m ≤ n ∧ (∀ i, i < m → bad l i = false) ∧ (m = n ∨ m < n ∧ bad l m = true)
  | 0 => ⟨0, Nat.le_refl _, fun i hi => by omega, .inl rfl⟩
  | n + 1 => by
    obtain ⟨m, h1, h2, h3⟩ := firstBad l n
    rcases h3 with rfl | ⟨h3, h4⟩
    · cases hb : bad l m with
      | true => exact ⟨m, by omega, h2, .inr ⟨by omega, hb⟩⟩
      | false =>
        refine ⟨m + 1, Nat.le_refl _, fun i hi => ?_, .inl rfl⟩
        by_cases e : i = m
        · subst e; exact hb
        · exact h2 i (by omega)
    · exact ⟨m, by omega, h2, .inr ⟨by omega, h4⟩⟩

theorem sub1 {i : Nat} (h : 0 < i) (h2 : i ≤ 1000000) : R.zsub .i64 (i : Int) (R.zc 1) = ((i - 1 : Nat) : Int) :=
  (zsub64 (x := (i : Int)) (y := 1) ⟨by omega, by omega⟩).trans (show (i : Int) - 1 = ((i - 1 : Nat) : Int) by omega)

theorem c3E {l : Row} {n i : Nat} (hn : n ≤ 1000000) (hi : i < n) : C3 R (n : Int) (n : Int) (n : Int) l (i : Int) = !bad l i ∧ O3_ R (n : Int) (n : Int) (n : Int) l (i : Int) = true := by
  have hc : R.zlt (i : Int) (n : Int) = true := decide_eq_true (by omega)
  have h0 : R.zle (R.zc 0) (i : Int) = true := decide_eq_true (show (0 : Int) ≤ (i : Int) by omega)
  unfold C3 O3_ bad el
  rw [hc, h0]
  by_cases hz : i = 0
  · subst hz
    have : R.zlt (R.zc 0) ((0 : Nat) : Int) = false := rfl
    rw [this]
    generalize R.fgt _ _ = a
    generalize S18_0 R _ = b
    cases a <;> cases b <;> exact ⟨rfl, rfl⟩
  · have h1 : R.zlt (R.zc 0) (i : Int) = true := decide_eq_true (show (0 : Int) < (i : Int) by omega)
    have h2 : R.zle (R.zc 0) ((i - 1 : Nat) : Int) = true := decide_eq_true (show (0 : Int) ≤ ((i - 1 : Nat) : Int) by omega)
    have h3 : R.zlt ((i - 1 : Nat) : Int) (n : Int) = true := decide_eq_true (by omega)
    rw [sub1 (by omega) (by omega), h1, h2, h3]
    generalize R.fgt _ _ = a
    generalize S18_0 R _ = b
    generalize R.fle _ _ = c
    cases a <;> cases b <;> cases c <;> exact ⟨rfl, rfl⟩

theorem c4E {l : Row} {n i : Nat} (hn : n ≤ 1000000) (hi : i < n) : C4 R (n : Int) l (i : Int) = !bad l i ∧ O4_ R (n : Int) l (i : Int) = true := by
  have hc : R.zlt (i : Int) (n : Int) = true := decide_eq_true (by omega)
  have h0 : R.zle (R.zc 0) (i : Int) = true := decide_eq_true (show (0 : Int) ≤ (i : Int) by omega)
  rw [bad19]
  unfold C4 O4_ el
  rw [hc, h0]
  by_cases hz : i = 0
  · subst hz
    have : R.zlt (R.zc 0) ((0 : Nat) : Int) = false := rfl
    rw [this]
    generalize S19_0 R _ = a
    generalize R.fle (R.lf l _ 0) (R.fc 0) = b
    cases a <;> cases b <;> exact ⟨rfl, rfl⟩
  · have h1 : R.zlt (R.zc 0) (i : Int) = true := decide_eq_true (show (0 : Int) < (i : Int) by omega)
    have h2 : R.zle (R.zc 0) ((i - 1 : Nat) : Int) = true := decide_eq_true (show (0 : Int) ≤ ((i - 1 : Nat) : Int) by omega)
    have h3 : R.zlt ((i - 1 : Nat) : Int) (n : Int) = true := decide_eq_true (by omega)
    rw [sub1 (by omega) (by omega), h1, h2, h3]
    generalize S19_0 R _ = a
    generalize R.fle (R.lf l _ 0) (R.fc 0) = b
    generalize R.fle (R.lf l _ 0) (R.lf l _ 0) = c
    cases a <;> cases b <;> cases c <;> exact ⟨rfl, rfl⟩

theorem newE {l : Row} {n m : Nat} (hn : n ≤ 1000000) (hm : m ≤ n) (h1 : ∀ i, i < m → bad l i = false) (h2 : m = n ∨ m < n ∧ bad l m = true) :
    E3 R (n : Int) (n : Int) (n : Int) l (R.zc 0) (R.zc 0) = true ∧ L3 R (n : Int) (n : Int) (n : Int) l (R.zc 0) (R.zc 0) = [.z 0, .z (m : Int)] := by
  refine ends_path (step := G3 R (n : Int) (n : Int) (n : Int) l) (p := [.z (R.zc 0), .z (R.zc 0)]) (fun i => [.z 0, .z (i : Int)]) m rfl (fun i hi => ?_) ?_
  · obtain ⟨e1, e2⟩ := c3E (l := l) hn (show i < n by omega)
    have ha : R.zadd .i64 (i : Int) (R.zc 1) = ((i + 1 : Nat) : Int) := (zadd64 (x := (i : Int)) (y := 1) ⟨by omega, by omega⟩).trans rfl
    show (C3 R (n : Int) (n : Int) (n : Int) l (i : Int), O3_ R (n : Int) (n : Int) (n : Int) l (i : Int), [PV.z 0, .z (N3_1 R (i : Int))]) = _
    unfold N3_1
    rw [e1, e2, h1 i hi, ha]; rfl
  · show C3 R (n : Int) (n : Int) (n : Int) l (m : Int) = false
    rcases h2 with rfl | ⟨h2, h3⟩
    · have hc : R.zlt (m : Int) (m : Int) = false := decide_eq_false (by omega)
      unfold C3
      rw [hc]; rfl
    · rw [(c3E hn h2).1, h3]; rfl

theorem rightE {l : Row} {n m : Nat} (hn : n ≤ 1000000) (hm : m ≤ n) (h1 : ∀ i, i < m → bad l i = false) (h2 : m = n ∨ m < n ∧ bad l m = true) :
    E4 R (n : Int) l (R.bc false) (R.zc 0) = true ∧ L4 R (n : Int) l (R.bc false) (R.zc 0) = [.b false, .z (m : Int)] := by
  refine ends_path (step := G4 R (n : Int) l) (p := [.b (R.bc false), .z (R.zc 0)]) (fun i => [.b false, .z (i : Int)]) m rfl (fun i hi => ?_) ?_
  · obtain ⟨e1, e2⟩ := c4E (l := l) hn (show i < n by omega)
    have ha : R.zadd .i64 (i : Int) (R.zc 1) = ((i + 1 : Nat) : Int) := (zadd64 (x := (i : Int)) (y := 1) ⟨by omega, by omega⟩).trans rfl
    have hb : N4_0 R false (i : Int) = false := by unfold N4_0; cases R.zlt (R.zc 0) (i : Int) <;> rfl
    show (C4 R (n : Int) l (i : Int), O4_ R (n : Int) l (i : Int), [PV.b (N4_0 R false (i : Int)), .z (N4_1 R (i : Int))]) = _
    unfold N4_1
    rw [e1, e2, h1 i hi, ha, hb]; rfl
  · show C4 R (n : Int) l (m : Int) = false
    rcases h2 with rfl | ⟨h2, h3⟩
    · have hc : R.zlt (m : Int) (m : Int) = false := decide_eq_false (by omega)
      unfold C4
      rw [hc]; rfl
    · rw [(c4E hn h2).1, h3]; rfl

/-- Ends that may be rise. -/
theorem goodMono {l : Row} {n : Nat} (h : ∀ i, i < n → bad l i = false) : Mono l n := by
  have hk : ∀ i, i < n → ∃ k, fkey (el l i) = some k := by
    intro i hi
    have hb := h i hi
    cases hg : R.fgt (el l i) (R.fc 0) with
    | false =>
      unfold bad at hb
      rw [hg] at hb
      cases hb
    | true =>
      obtain ⟨a, b, h1, _⟩ := (fgt_iff _ _).1 hg
      exact ⟨a, h1⟩
  have hs : ∀ i, 0 < i → i < n → ∀ a b, fkey (el l (i - 1)) = some a → fkey (el l i) = some b → a < b := by
    intro i h0 hi a b ha hb
    have hbad := h i hi
    have h1 : R.zlt (R.zc 0) (i : Int) = true := decide_eq_true (show (0 : Int) < (i : Int) by omega)
    unfold bad at hbad
    rw [h1] at hbad
    by_cases hab : a < b
    · exact hab
    · exfalso
      have hf : R.fle (el l i) (el l (i - 1)) = true := (fle_iff _ _).2 ⟨b, a, hb, ha, by omega⟩
      rw [hf] at hbad
      generalize R.bite (R.bnot (R.fgt (el l i) (R.fc 0))) (R.bc true) (R.bnot (S18_0 R (el l i))) = z at hbad
      cases z <;> cases hbad
  have hlt : ∀ d i, i + (d + 1) < n → ∀ a b, fkey (el l i) = some a → fkey (el l (i + (d + 1))) = some b → a < b := by
    intro d
    induction d with
    | zero => intro i hi a b ha hb; exact hs (i + 1) (by omega) hi a b ha hb
    | succ d ih =>
      intro i hi a b ha hb
      obtain ⟨c, hc⟩ := hk (i + (d + 1)) (by omega)
      have h1 := ih i (by omega) a c ha hc
      have h2 := hs (i + (d + 1 + 1)) (by omega) hi c b hc hb
      omega
  intro i j hij hj x hx
  obtain ⟨a, b, h1, h2, h3⟩ := (fle_iff _ _).1 hx
  obtain ⟨k, hki⟩ := hk i (by omega)
  have := hlt (j - i - 1) i (by omega) k a hki (by have : i + (j - i - 1 + 1) = j := by omega
                                                   rw [this]; exact h1)
  exact (fle_iff _ _).2 ⟨k, b, hki, h2, by omega⟩

theorem lsub_all (l : Row) : R.lsub l (R.zc 0) (R.llen l) = l := by
  show (l.drop (0 : Int).toNat).take (((l.length : Nat) : Int) - 0).toNat = l
  simp

theorem law_ToneMakes (x0 : Row) (x1 x2 : Fl) (_k0 : okRow [.f] x0) : O3 R x0 x1 x2 = true ∧ S3_0 R x0 x1 x2 = true := by
  have ow := aw_O5
  have sw := aw_S5_0
  have s0 : WS3_0_0 R = true := by unfold WS3_0_0; rw [sw]; rfl
  by_cases h300 : 300 < x0.length
  · have e : R.zlt (R.zc 300) (R.llen x0) = true := decide_eq_true (show (300 : Int) < (x0.length : Int) by omega)
    unfold O3 S3_0
    rw [e, ow, sw]
    exact ⟨rfl, rfl⟩
  · have e : R.zlt (R.zc 300) (R.llen x0) = false := decide_eq_false (show ¬ (300 : Int) < (x0.length : Int) by omega)
    by_cases h255 : x0.length = 255
    · have e2 : R.zeq (R.llen x0) (R.zc 255) = true := by
        show (((x0.length : Nat) : Int) == 255) = true
        rw [h255]; rfl
      obtain ⟨m, m1, m2, m3⟩ := firstBad x0 x0.length
      obtain ⟨n1, n2⟩ := newE (l := x0) (n := x0.length) (by omega) m1 m2 m3
      obtain ⟨r1, r2⟩ := rightE (l := x0) (n := x0.length) (by omega) m1 m2 m3
      have w1 : WS3_0_1 R x0 = [.z 0, .z (m : Int)] := n2
      have w2 : WS3_0_2 R x0 = [.b false, .z (m : Int)] := r2
      have v1 : WO3_1 R x0 = true := r1
      have v5 : WO3_5 R x0 = true := n1
      have v6 : WO3_6 R x0 = [.z 0, .z (m : Int)] := n2
      have v2 : WO3_2 R x0 = [.b false, .z (m : Int)] := r2
      have v7 : R.zle (WO3_7 R x0) (R.zc 1073741824) = true := by
        unfold WO3_7; rw [lsub_all]
        exact decide_eq_true (show (x0.length : Int) ≤ 1073741824 by omega)
      rcases m3 with hm | ⟨hm, hb⟩
      · -- good
        have z1 : R.zlt (m : Int) (R.llen x0) = false := decide_eq_false (show ¬ (m : Int) < (x0.length : Int) by omega)
        have z2 : R.zlt (nthZ [PV.z (0 : Int), .z (m : Int)] 1) (R.llen x0) = false := z1
        have z3 : R.zlt (nthZ [PV.b false, .z (m : Int)] 1) (R.llen x0) = false := z1
        have mono : Mono x0 x0.length := goodMono fun i hi => m2 i (by omega)
        have b1 := byteE (l := x0) (n := x0.length) (by omega) mono x1
        have b2 := byteE (l := x0) (n := x0.length) (by omega) mono x2
        have c1 := countE (l := x0) (n := x0.length) (by omega) x1
        have w5 : WS3_0_5 R x0 x1 = [.z (cnt x0 x1 x0.length : Int), .z (cnt x0 x1 x0.length : Int)] := by
          unfold WS3_0_5 WS3_0_4; rw [lsub_all]; exact b1.2
        have w7 : WS3_0_7 R x0 x2 = [.z (cnt x0 x2 x0.length : Int), .z (cnt x0 x2 x0.length : Int)] := by
          unfold WS3_0_7 WS3_0_4; rw [lsub_all]; exact b2.2
        have w6 : WS3_0_6 R x0 x1 = [.z (cnt x0 x1 x0.length : Int), .z (x0.length : Int)] := c1.2
        have v8 : WO3_8 R x0 x1 = true := by unfold WO3_8 WO3_7; rw [lsub_all]; exact b1.1
        have v12 : WO3_12 R x0 x2 = true := by unfold WO3_12 WO3_7; rw [lsub_all]; exact b2.1
        have v9 : WO3_9 R x0 x1 = true := c1.1
        have eq1 : R.zeq (cnt x0 x1 x0.length : Int) (cnt x0 x1 x0.length : Int) = true := by show (_ == _) = true; simp
        constructor
        · unfold O3 WO3_0 WO3_3
          rw [e, e2, v1, v2, v5, v6, v7, v8, v9, v12, z2, z3, ow, sw]
          generalize R.zeq (nthZ (WO3_10 R x0 x1) 0) (nthZ (WO3_11 R x0 x1) 0) = u
          cases u <;> cases R.fle x1 x2 <;> rfl
        · unfold S3_0 WS3_0_3
          rw [e, e2, w1, w2, w5, w6, w7, z2, z3, sw]
          have q : R.zeq (nthZ [PV.z (cnt x0 x1 x0.length : Int), .z (cnt x0 x1 x0.length : Int)] 0) (nthZ [PV.z (cnt x0 x1 x0.length : Int), .z (x0.length : Int)] 0) = true := eq1
          rw [q]
          cases hle : R.fle x1 x2 with
          | false => rfl
          | true =>
            have := cnt_mono (l := x0) hle x0.length
            have q2 : R.zle (nthZ [PV.z (cnt x0 x1 x0.length : Int), .z (cnt x0 x1 x0.length : Int)] 0) (nthZ [PV.z (cnt x0 x2 x0.length : Int), .z (cnt x0 x2 x0.length : Int)] 0) = true := decide_eq_true (show (cnt x0 x1 x0.length : Int) ≤ (cnt x0 x2 x0.length : Int) by omega)
            rw [q2]; rfl
      · have z1 : R.zlt (m : Int) (R.llen x0) = true := decide_eq_true (show (m : Int) < (x0.length : Int) by omega)
        have z2 : R.zlt (nthZ [PV.z (0 : Int), .z (m : Int)] 1) (R.llen x0) = true := z1
        have z3 : R.zlt (nthZ [PV.b false, .z (m : Int)] 1) (R.llen x0) = true := z1
        constructor
        · unfold O3 WO3_4 WO3_0 WO3_3
          rw [e, e2, v1, v2, v5, v6, z2, z3, ow]
          rfl
        · unfold S3_0 WS3_0_3
          rw [e, e2, w1, w2, z2, z3, s0]
          rfl
    · have e2 : R.zeq (R.llen x0) (R.zc 255) = false := by
        show (((x0.length : Nat) : Int) == 255) = false
        rw [beq_eq_false_iff_ne]; omega
      unfold O3 S3_0 WO3_4 WO3_0
      rw [e, e2, ow, s0]
      exact ⟨rfl, rfl⟩

end Go.Proofs.Ytnehhebdbibecaa
