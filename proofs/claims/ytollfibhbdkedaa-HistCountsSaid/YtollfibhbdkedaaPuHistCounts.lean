/- The law of the counts. -/
import Derived.Test.YtollfibhbdkedaaPuHistEvens
import Derived.Test.YtollfibhbdkedaaEv5
namespace Go.Proofs.Ytollfibhbdkedaa
open Go.Ev

set_option maxRecDepth 20000

/-- An element of a row of one float each. -/
noncomputable def el (l : Row) (i : Nat) : Fl := R.lf l (i : Int) 0

/-- How many of the first elements are not above a light. -/
noncomputable def cnt (l : Row) (x : Fl) : Nat → Nat
  | 0 => 0
  | n + 1 => if R.fle (el l n) x = true then cnt l x n + 1 else cnt l x n

theorem cnt_le (l : Row) (x : Fl) : ∀ n, cnt l x n ≤ n
  | 0 => Nat.le_refl _
  | n + 1 => by
    have := cnt_le l x n
    unfold cnt
    split <;> omega

/-- What is not above a light is followed by nothing but what is above. -/
def Mono (l : Row) (n : Nat) : Prop := ∀ i j, i < j → j < n → ∀ x, R.fle (el l j) x = true → R.fle (el l i) x = true

theorem cnt_split {l : Row} {x : Fl} {m : Nat} : ∀ n, m ≤ n → (∀ i, i < m → R.fle (el l i) x = true) → (∀ i, m ≤ i → i < n → R.fle (el l i) x = false) → cnt l x n = m
  | 0, h, _, _ => by have : m = 0 := by omega
                     subst this; rfl
  | n + 1, h, h1, h2 => by
    unfold cnt
    by_cases e : m = n + 1
    · subst e
      rw [if_pos (h1 n (by omega))]
      have : cnt l x n = n := by
        have key : ∀ k, k ≤ n → cnt l x k = k := by
          intro k
          induction k with
          | zero => intro _; rfl
          | succ k ih => intro hk; unfold cnt; rw [if_pos (h1 k (by omega)), ih (by omega)]
        exact key n (Nat.le_refl _)
      rw [this]
    · rw [if_neg (by rw [h2 n (by omega) (by omega)]; simp), cnt_split n (by omega) h1 fun i a b => h2 i a (by omega)]

theorem zq2 {a b : Int} (h0 : 0 ≤ a) (h1 : 0 ≤ b) (h2 : a + b ≤ 9223372036854775807) : R.zquo .i64 (R.zadd .i64 a b) (R.zc 2) = (a + b) / 2 := by
  rw [zadd64 ⟨by omega, h2⟩]
  exact zquo64 (x := a + b) (y := 2) ⟨by omega, h2, by omega⟩

/-- The search by halves. -/
theorem byteE {l : Row} {n : Nat} (hn : n ≤ 1000000) (hm : Mono l n) (x : Fl) : E1 R x (n : Int) l (R.zc 0) (n : Int) = true ∧ L1 R x (n : Int) l (R.zc 0) (n : Int) = [.z (cnt l x n : Int), .z (cnt l x n : Int)] := by
  have key := ends_inv (step := G1 R x (n : Int) l) (p := [.z (R.zc 0), .z (n : Int)])
    (fun p => ∃ a b : Nat, p = [.z (a : Int), .z (b : Int)] ∧ a ≤ b ∧ b ≤ n ∧ (∀ i, i < a → R.fle (el l i) x = true) ∧ ∀ i, b ≤ i → i < n → R.fle (el l i) x = false)
    (fun p => ((nthZ p 1 : Int) - (nthZ p 0 : Int)).toNat)
    ⟨0, n, rfl, by omega, Nat.le_refl _, fun i hi => by omega, fun i a b => by omega⟩
    (by
      rintro p ⟨a, b, rfl, h1, h2, h3, h4⟩ hc
      have hq : R.zquo .i64 (R.zadd .i64 (a : Int) (b : Int)) (R.zc 2) = (((a + b) / 2 : Nat) : Int) := (zq2 (by omega) (by omega) (by omega)).trans (show ((a : Int) + (b : Int)) / 2 = (((a + b) / 2 : Nat) : Int) by omega)
      have hab : a < b := by
        by_cases h : a < b
        · exact h
        · exfalso
          have hc' : C1 R (n : Int) (a : Int) (b : Int) = true := hc
          have e : R.zle (b : Int) (a : Int) = true := decide_eq_true (by omega)
          unfold C1 at hc'
          rw [e] at hc'
          cases hc'
      have e1 : R.zle (b : Int) (a : Int) = false := decide_eq_false (by omega)
      have e2 : R.zle (R.zc 0) (((a + b) / 2 : Nat) : Int) = true := decide_eq_true (show (0 : Int) ≤ (((a + b) / 2 : Nat) : Int) by omega)
      have e3 : R.zlt (((a + b) / 2 : Nat) : Int) (n : Int) = true := decide_eq_true (by omega)
      have ok : O1_ R (n : Int) (a : Int) (b : Int) = true := by
        unfold O1_
        rw [hq, e1, e2, e3]
        rfl
      have hadd : R.zadd .i64 (((a + b) / 2 : Nat) : Int) (R.zc 1) = (((a + b) / 2 + 1 : Nat) : Int) := (zadd64 (x := (((a + b) / 2 : Nat) : Int)) (y := 1) ⟨by omega, by omega⟩).trans rfl
      refine ⟨ok, ?_⟩
      show (∃ a' b' : Nat, [PV.z (N1_0 R x l (a : Int) (b : Int)), .z (N1_1 R x l (a : Int) (b : Int))] = [.z (a' : Int), .z (b' : Int)] ∧ _) ∧ ((N1_1 R x l (a : Int) (b : Int) : Int) - (N1_0 R x l (a : Int) (b : Int) : Int)).toNat < ((b : Int) - (a : Int)).toNat
      unfold N1_0 N1_1
      rw [hq, hadd]
      cases hf : R.fle (R.lf l (((a + b) / 2 : Nat) : Int) 0) x with
      | true =>
        refine ⟨⟨(a + b) / 2 + 1, b, rfl, by omega, h2, fun i hi => ?_, h4⟩, ?_⟩
        · by_cases e : i = (a + b) / 2
          · subst e; exact hf
          · exact hm i ((a + b) / 2) (by omega) (by omega) x hf
        · show ((b : Int) - (((a + b) / 2 + 1 : Nat) : Int)).toNat < _
          omega
      | false =>
        refine ⟨⟨a, (a + b) / 2, rfl, by omega, by omega, h3, fun i hi hin => ?_⟩, ?_⟩
        · by_cases e : i = (a + b) / 2
          · subst e; exact hf
          · cases hg : R.fle (el l i) x with
            | false => rfl
            | true =>
              have := hm ((a + b) / 2) i (by omega) hin x hg
              have hf' : R.fle (el l ((a + b) / 2)) x = false := hf
              rw [hf'] at this; cases this
        · show ((((a + b) / 2 : Nat) : Int) - (a : Int)).toNat < _
          omega)
  obtain ⟨k1, ⟨a, b, k2, k3, k4, k5, k6⟩, k7⟩ := key
  refine ⟨k1, ?_⟩
  have hL : L1 R x (n : Int) l (R.zc 0) (n : Int) = [.z (a : Int), .z (b : Int)] := k2
  have hba : b ≤ a := by
    by_cases h : b ≤ a
    · exact h
    · exfalso
      have k2' : lastP (G1 R x (n : Int) l) [.z (R.zc 0), .z (n : Int)] = [.z (a : Int), .z (b : Int)] := k2
      rw [k2'] at k7
      have hc' : C1 R (n : Int) (a : Int) (b : Int) = false := k7
      have e1 : R.zle (b : Int) (a : Int) = false := decide_eq_false (by omega)
      unfold C1 at hc'
      rw [e1] at hc'
      generalize R.band (R.bnot (R.zeq (R.zc 2) (R.zc 0))) _ = z at hc'
      cases z <;> cases hc'
  have e : a = b := by omega
  subst e
  have hcnt := cnt_split n k4 k5 k6
  rw [hL, hcnt]


/-- The count. -/
theorem cntE {l : Row} {n : Nat} (hn : n ≤ 1000000) (x : Fl) : E13 R (n : Int) x l (R.zc 0) (R.zc 0) = true ∧ L13 R (n : Int) x l (R.zc 0) (R.zc 0) = [.z (cnt l x n : Int), .z (n : Int)] := by
  have p := ends_path (step := G13 R (n : Int) x l) (p := [.z (R.zc 0), .z (R.zc 0)]) (fun i => [.z (cnt l x i : Int), .z (i : Int)]) n rfl (fun i hi => by
      have hc : R.zlt (i : Int) (n : Int) = true := decide_eq_true (by omega)
      have h0 : R.zle (R.zc 0) (i : Int) = true := decide_eq_true (show (0 : Int) ≤ (i : Int) by omega)
      have ha : R.zadd .i64 (i : Int) (R.zc 1) = ((i + 1 : Nat) : Int) := (zadd64 (x := (i : Int)) (y := 1) ⟨by omega, by omega⟩).trans rfl
      have hle := cnt_le l x i
      have hb : R.zadd .i64 (cnt l x i : Int) (R.zc 1) = ((cnt l x i + 1 : Nat) : Int) := (zadd64 (x := (cnt l x i : Int)) (y := 1) ⟨by omega, by omega⟩).trans rfl
      show (C13 R (n : Int) (i : Int), O13_ R (n : Int) (i : Int), [PV.z (N13_0 R x l (cnt l x i : Int) (i : Int)), .z (N13_1 R (i : Int))]) = (true, true, [PV.z ((cnt l x (i + 1) : Nat) : Int), .z ((i + 1 : Nat) : Int)])
      unfold C13 O13_ N13_0 N13_1
      rw [hc, h0, ha, hb]
      have hs : cnt l x (i + 1) = if R.fle (R.lf l (i : Int) 0) x = true then cnt l x i + 1 else cnt l x i := rfl
      rw [hs]
      cases R.fle (R.lf l (i : Int) 0) x <;> rfl)
    (by show decide ((n : Int) < (n : Int)) = false; exact decide_eq_false (by omega))
  exact p

/-- That it goes up. -/
noncomputable def goesUp (l : Row) : Nat → Bool
  | 0 => true
  | n + 1 => R.fle (el l n) (el l (n + 1)) && goesUp l n

theorem goesUp_at {l : Row} : ∀ {n}, goesUp l n = true → ∀ i, i < n → R.fle (el l i) (el l (i + 1)) = true
  | 0, _, i, hi => by omega
  | n + 1, h, i, hi => by
    unfold goesUp at h
    obtain ⟨h1, h2⟩ := (Bool.and_eq_true _ _).mp h
    by_cases e : i = n
    · subst e; exact h1
    · exact goesUp_at h2 i (by omega)

theorem edges_up : goesUp edges 254 = true := by kernel_rfl

theorem edges_mono : Mono edges 255 := by
  have key : ∀ d i x, i + d < 255 → R.fle (el edges (i + d)) x = true → R.fle (el edges i) x = true := by
    intro d
    induction d with
    | zero => intro i x _ h; exact h
    | succ d ih =>
      intro i x hi h
      have h1 := goesUp_at edges_up (i + d) (by omega)
      obtain ⟨a, b, e1, e2, e3⟩ := (fle_iff _ _).1 h1
      obtain ⟨a', b', f1, f2, f3⟩ := (fle_iff _ _).1 h
      have e2' : fkey (el edges (i + (d + 1))) = some b := e2
      rw [e2'] at f1; cases f1
      exact ih i x (by omega) ((fle_iff _ _).2 ⟨a, b', e1, f2, by omega⟩)
  intro i j hij hj x hx
  refine key (j - i) i x (by omega) ?_
  rw [show i + (j - i) = j by omega]; exact hx

/-- Where a sample goes. -/
noncomputable def bn (x : Row) (i : Nat) : Nat := cnt edges (el x i) 255
theorem bn_le (x : Row) (i : Nat) : bn x i ≤ 255 := cnt_le _ _ _
theorem bnE (x : Row) (i : Nat) : E1 R (R.lf x (i : Int) 0) (255 : Int) edges (R.zc 0) (255 : Int) = true ∧ L1 R (R.lf x (i : Int) 0) (255 : Int) edges (R.zc 0) (255 : Int) = [.z (bn x i : Int), .z (bn x i : Int)] :=
  byteE (l := edges) (n := 255) (by omega) edges_mono (el x i)
theorem bnE' (x : Row) (i : Nat) : E13 R (255 : Int) (R.lf x (i : Int) 0) edges (R.zc 0) (R.zc 0) = true ∧ L13 R (255 : Int) (R.lf x (i : Int) 0) edges (R.zc 0) (R.zc 0) = [.z (bn x i : Int), .z (255 : Int)] :=
  cntE (l := edges) (n := 255) (by omega) (el x i)

/-- How many of the first samples go there. -/
noncomputable def hn (x : Row) (i : Nat) : Nat → Int
  | 0 => 0
  | n + 1 => hn x i n + (if bn x n = i then 1 else 0)
theorem hn_b (x : Row) (i : Nat) : ∀ n, 0 ≤ hn x i n ∧ hn x i n ≤ (n : Int)
  | 0 => ⟨Int.le_refl _, Int.le_refl _⟩
  | n + 1 => by
    have := hn_b x i n
    unfold hn
    split <;> omega
theorem hn_upd (x : Row) (n : Nat) : upd (fun i => hn x i n) (bn x n) (hn x (bn x n) n + 1) = fun i => hn x i (n + 1) := by
  funext i
  unfold upd
  show _ = hn x i n + (if bn x n = i then 1 else 0)
  by_cases e : i = bn x n
  · subst e; rw [if_pos rfl, if_pos rfl]
  · rw [if_neg e, if_neg (fun q => e q.symm), Int.add_zero]

theorem put_hn (x : Row) {n : Nat} (h : n ≤ 1000) : R.lput (mk1 256 fun i => hn x i n) (bn x n : Int) 0 [.z (R.zadd .i64 (R.lz (mk1 256 fun i => hn x i n) (bn x n : Int) 0) (R.zc 1))] = mk1 256 fun i => hn x i (n + 1) := by
  have hb := bn_le x n
  have hh := hn_b x (bn x n) n
  rw [mk1_at _ (show bn x n < 256 by omega)]
  have e : R.zadd .i64 (hn x (bn x n) n) (R.zc 1) = hn x (bn x n) n + 1 := zadd64 (x := hn x (bn x n) n) (y := 1) ⟨by omega, by omega⟩
  rw [e, mk1_put _ _ (show bn x n < 256 by omega), hn_upd]

theorem none256 (x : Row) : R.lrep (R.zc 256) [.z (R.zc 0)] = mk1 256 fun i => hn x i 0 := by
  have : R.lrep (R.zc 256) [.z (R.zc 0)] = mk1 256 (fun _ => 0) := by kernel_rfl
  rw [this]; rfl

theorem cnt15 (x : Row) {n : Nat} (h : n ≤ 1000) : E15 R (n : Int) (n : Int) x (255 : Int) edges (R.zc 0) (R.lrep (R.zc 256) [.z (R.zc 0)]) = true ∧ L15 R (n : Int) (n : Int) x (255 : Int) edges (R.zc 0) (R.lrep (R.zc 256) [.z (R.zc 0)]) = [.z (n : Int), .l (mk1 256 fun i => hn x i n)] := by
  rw [none256 x]
  refine ends_path (step := G15 R (n : Int) (n : Int) x (255 : Int) edges) (p := [.z (R.zc 0), .l (mk1 256 fun i => hn x i 0)]) (fun j => [.z (j : Int), .l (mk1 256 fun i => hn x i j)]) n rfl (fun j hj => ?_) (zltF (Int.lt_irrefl _))
  have b0 : R.zlt (j : Int) (n : Int) = true := zltT (by omega)
  have b2 : R.zle (R.zc 0) (j : Int) = true := zleT (show (0 : Int) ≤ j by omega)
  obtain ⟨x1, x2⟩ := bnE x j
  have hb := bn_le x j
  have c1 : R.zle (R.zc 0) (bn x j : Int) = true := zleT (show (0 : Int) ≤ (bn x j : Int) by omega)
  have c2 : R.zlt (bn x j : Int) (R.zc 256) = true := zltT (show (bn x j : Int) < 256 by omega)
  have n0 : nthZ (D := R) [.z (bn x j : Int), .z (bn x j : Int)] 0 = (bn x j : Int) := rfl
  show (C15 R (n : Int) (j : Int), O15_ R (n : Int) (n : Int) x (255 : Int) edges (j : Int), [PV.z (N15_0 R (j : Int)), .l (N15_1 R x (255 : Int) edges (j : Int) (mk1 256 fun i => hn x i j))]) = _
  unfold C15 O15_ N15_0 N15_1 WO15__2 WO15__1 WO15__0
  rw [x1, x2, n0, b0, b2, c1, c2, put_hn x (by omega), suc (by omega)]
  rfl

theorem cnt14 (x : Row) {n : Nat} (h : n ≤ 1000) : E14 R (n : Int) (255 : Int) x edges (R.zc 0) (R.lrep (R.zc 256) [.z (R.zc 0)]) = true ∧ L14 R (n : Int) (255 : Int) x edges (R.zc 0) (R.lrep (R.zc 256) [.z (R.zc 0)]) = [.z (n : Int), .l (mk1 256 fun i => hn x i n)] := by
  rw [none256 x]
  refine ends_path (step := G14 R (n : Int) (255 : Int) x edges) (p := [.z (R.zc 0), .l (mk1 256 fun i => hn x i 0)]) (fun j => [.z (j : Int), .l (mk1 256 fun i => hn x i j)]) n rfl (fun j hj => ?_) (zltF (Int.lt_irrefl _))
  have b0 : R.zlt (j : Int) (n : Int) = true := zltT (by omega)
  have b2 : R.zle (R.zc 0) (j : Int) = true := zleT (show (0 : Int) ≤ j by omega)
  obtain ⟨x1, x2⟩ := bnE' x j
  have hb := bn_le x j
  have c1 : R.zle (R.zc 0) (bn x j : Int) = true := zleT (show (0 : Int) ≤ (bn x j : Int) by omega)
  have c2 : R.zlt (bn x j : Int) (R.zc 256) = true := zltT (show (bn x j : Int) < 256 by omega)
  have n0 : nthZ (D := R) [.z (bn x j : Int), .z (255 : Int)] 0 = (bn x j : Int) := rfl
  show (C14 R (n : Int) (j : Int), O14_ R (n : Int) (255 : Int) x edges (j : Int), [PV.z (N14_0 R (j : Int)), .l (N14_1 R (255 : Int) x edges (j : Int) (mk1 256 fun i => hn x i j))]) = _
  unfold C14 O14_ N14_0 N14_1 WO14__2 WO14__1 WO14__0
  rw [x1, x2, n0, b0, b2, c1, c2, put_hn x (by omega), suc (by omega)]
  rfl

theorem cap_id {a : Int} (h : 0 ≤ a ∧ a ≤ 1000) : cap a = a := by unfold cap; split <;> (try split) <;> omega

theorem mer16 (f g : Vals) (hf : ∀ i, 0 ≤ f i ∧ f i ≤ 1000) (hg : ∀ i, 0 ≤ g i ∧ g i ≤ 1000) : E16 R (mk1 256 g) (R.zc 0) (mk1 256 f) = true ∧ L16 R (mk1 256 g) (R.zc 0) (mk1 256 f) = [.z (256 : Int), .l (mk1 256 fun i => f i + g i)] := by
  have e0 : mk1 256 f = mk1 256 (fun i => if i < 0 then f i + g i else f i) := mk1_congr fun i _ => by rw [if_neg (by omega)]
  have e1 : mk1 256 (fun i => f i + g i) = mk1 256 (fun i => if i < 256 then f i + g i else f i) := mk1_congr fun i hi => by rw [if_pos hi]
  rw [e0, e1]
  refine ends_path (step := G16 R (mk1 256 g)) (p := [.z (R.zc 0), .l (mk1 256 (fun i => if i < 0 then f i + g i else f i))]) (fun j => [.z (j : Int), .l (mk1 256 (fun i => if i < j then f i + g i else f i))]) 256 rfl (fun j hj => ?_) rfl
  have b1 : R.zlt (j : Int) (R.zc 256) = true := zltT (show (j : Int) < 256 by omega)
  have b2 : R.zle (R.zc 0) (j : Int) = true := zleT (show (0 : Int) ≤ j by omega)
  have hfj := hf j
  have hgj := hg j
  have p1 : R.lz (mk1 256 (fun i => if i < j then f i + g i else f i)) (j : Int) 0 = f j := by rw [mk1_at _ hj, if_neg (by omega)]
  have p2 : R.lz (mk1 256 g) (j : Int) 0 = g j := mk1_at _ hj
  have p3 : R.zadd .i64 (f j) (g j) = f j + g j := zadd64 (x := f j) (y := g j) ⟨by omega, by omega⟩
  have p4 : mk1 256 (upd (fun i => if i < j then f i + g i else f i) j (f j + g j)) = mk1 256 (fun i => if i < j + 1 then f i + g i else f i) := mk1_congr fun i _ => by
    unfold upd
    by_cases e : i = j
    · subst e; rw [if_pos rfl, if_pos (by omega)]
    · rw [if_neg e]
      show (if i < j then f i + g i else f i) = _
      by_cases l : i < j
      · rw [if_pos l, if_pos (by omega)]
      · rw [if_neg l, if_neg (by omega)]
  show (C16 R (j : Int), O16_ R (j : Int), [PV.z (N16_0 R (j : Int)), .l (N16_1 R (mk1 256 g) (j : Int) (mk1 256 (fun i => if i < j then f i + g i else f i)))]) = _
  unfold C16 O16_ N16_0 N16_1
  rw [p1, p2, capE, capE, cap_id hfj, cap_id hgj, p3, mk1_put _ _ hj, p4, suc (by omega), b1, b2]
  rfl

/-- The sum of the first. -/
def sm (f : Vals) : Nat → Int
  | 0 => 0
  | m + 1 => sm f m + f m
theorem sm_ind (f : Vals) (b : Nat) : ∀ m, sm (fun i => f i + (if b = i then 1 else 0)) m = sm f m + (if b < m then 1 else 0)
  | 0 => rfl
  | m + 1 => by
    show sm (fun i => f i + (if b = i then 1 else 0)) m + (f m + (if b = m then 1 else 0)) = sm f m + f m + _
    rw [sm_ind f b m]
    by_cases e : b = m
    · subst e; rw [if_neg (by omega), if_pos rfl, if_pos (by omega)]; omega
    · rw [if_neg e]
      by_cases l : b < m
      · rw [if_pos l, if_pos (by omega)]; omega
      · rw [if_neg l, if_neg (by omega)]; omega
theorem sm_nil : ∀ m, sm (fun _ => 0) m = 0
  | 0 => rfl
  | m + 1 => by show sm _ m + 0 = 0; rw [sm_nil m]; rfl
theorem sm_hn (x : Row) {m : Nat} (hm : 256 ≤ m) : ∀ n, sm (fun i => hn x i n) m = (n : Int)
  | 0 => sm_nil m
  | n + 1 => by
    have h := sm_ind (fun i => hn x i n) (bn x n) m
    have hb := bn_le x n
    rw [sm_hn x hm n, if_pos (by omega)] at h
    exact h
theorem bel_sm (f : Vals) (hf : ∀ i, 0 ≤ f i ∧ f i ≤ 1000) : ∀ m, m ≤ 256 → bel (mk1 256 f) m = sm f m
  | 0, _ => rfl
  | m + 1, h => by
    show bel (mk1 256 f) m + cap (at_ (mk1 256 f) m) = sm f m + f m
    rw [bel_sm f hf m (by omega), show at_ (mk1 256 f) m = f m from mk1_at _ (by omega), cap_id (hf m)]

theorem el_congr {l m : Row} {i j : Nat} (h : l[i]? = m[j]?) : el l i = el m j := by
  show Row.fl l (i : Int) 0 = Row.fl m (j : Int) 0
  unfold Row.fl Row.cell
  rw [Int.toNat_natCast, Int.toNat_natCast, h]

theorem hn_left {l m : Row} {a : Nat} (h : ∀ j, j < a → l[j]? = m[j]?) (i : Nat) : ∀ n, n ≤ a → hn l i n = hn m i n
  | 0, _ => rfl
  | n + 1, hn' => by
    show hn l i n + (if bn l n = i then 1 else 0) = hn m i n + (if bn m n = i then 1 else 0)
    have e : bn l n = bn m n := by unfold bn; rw [el_congr (h n (by omega))]
    rw [hn_left h i n (by omega), e]
theorem hn_right {l m : Row} {a b : Nat} (h : ∀ j, j < b → l[a + j]? = m[j]?) (i : Nat) : ∀ n, n ≤ b → hn l i (a + n) = hn l i a + hn m i n
  | 0, _ => (Int.add_zero _).symm
  | n + 1, hn' => by
    show hn l i (a + n) + (if bn l (a + n) = i then 1 else 0) = hn l i a + (hn m i n + (if bn m n = i then 1 else 0))
    have e : bn l (a + n) = bn m n := by unfold bn; rw [el_congr (h n (by omega))]
    rw [hn_right h i n (by omega), e]
    omega

theorem zz (x : Int) : R.zeq x x = true := zeqT rfl

theorem tab0 : E0 R R.lnil (R.zc 0) = true ∧ L0 R R.lnil (R.zc 0) = [.l edges, .z 255] := runL_sound (n := 3000) (q := ([.l edges, .z 255] : List (PD R))) (by kernel_rfl)
theorem tab12 : E12 R R.lnil (R.zc 1) = true ∧ L12 R R.lnil (R.zc 1) = [.l edges, .z 256] := runL_sound (n := 3000) (q := ([.l edges, .z 256] : List (PD R))) (by kernel_rfl)

/-- As many as are looked at. -/
def lim (x : Row) : Nat := if 100 < x.length then 100 else x.length
theorem lim_le (x : Row) : lim x ≤ 100 ∧ lim x ≤ x.length := by unfold lim; split <;> omega
theorem limE (x : Row) : R.zite (R.zlt (R.zc 100) (R.llen x)) (R.zc 100) (R.llen x) = (lim x : Int) ∧ R.bite (R.zlt (R.zc 100) (R.llen x)) (R.band (R.zle (R.zc 0) (R.zc 100)) (R.zle (R.zc 100) (R.llen x))) (R.bc true) = true := by
  unfold lim
  by_cases h : 100 < x.length
  · have h1 : R.zlt (R.zc 100) (R.llen x) = true := zltT (show (100 : Int) < (x.length : Int) by omega)
    have h2 : R.zle (R.zc 100) (R.llen x) = true := zleT (show (100 : Int) ≤ (x.length : Int) by omega)
    rw [h1, h2, if_pos h]; exact ⟨rfl, rfl⟩
  · have h1 : R.zlt (R.zc 100) (R.llen x) = false := zltF (show ¬ (100 : Int) < (x.length : Int) by omega)
    rw [h1, if_neg h]; exact ⟨rfl, rfl⟩

theorem law_HistCounts (x0 : Row) (x1 : Row) (_k0 : okRow [.f] x0) (_k1 : okRow [.f] x1) : O4 R x0 x1 = true ∧ S4_0 R x0 x1 = true := by
  obtain ⟨l0, l0'⟩ := lim_le x0
  obtain ⟨l1, l1'⟩ := lim_le x1
  obtain ⟨le0, ls0⟩ := limE x0
  obtain ⟨le1, ls1⟩ := limE x1
  have el : R.llen (nthL (D := R) [.l edges, .z (255 : Int)] 0) = (255 : Int) := by kernel_rfl
  have er : nthL (D := R) [.l edges, .z (255 : Int)] 0 = edges := rfl
  have el' : R.llen (nthL (D := R) [.l edges, .z (256 : Int)] 0) = (255 : Int) := by kernel_rfl
  have er' : nthL (D := R) [.l edges, .z (256 : Int)] 0 = edges := rfl
  -- the two rows as one
  have hX : ∃ X : Row, WS4_0_25 R x0 x1 = X ∧ X.length = lim x0 + lim x1 ∧ (∀ j, j < lim x0 → X[j]? = x0[j]?) ∧ (∀ j, j < lim x1 → X[lim x0 + j]? = x1[j]?) := by
    refine ⟨x0.take (lim x0) ++ x1.take (lim x1), ?_, by simp; omega, fun j hj => ?_, fun j hj => ?_⟩
    · have q0 : WS4_0_0 R x0 = (lim x0 : Int) := le0
      have q1 : WS4_0_22 R x1 = (lim x1 : Int) := le1
      unfold WS4_0_25
      rw [q0, q1]
      show (([] ++ (x0.drop (0 : Int).toNat).take ((lim x0 : Int) - 0).toNat) ++ (x1.drop (0 : Int).toNat).take ((lim x1 : Int) - 0).toNat) = _
      simp
    · rw [List.getElem?_append_left (by simp; omega), List.getElem?_take, if_pos hj]
    · rw [List.getElem?_append_right (by simp; omega), List.length_take, Nat.min_eq_left l0', Nat.add_sub_cancel_left, List.getElem?_take, if_pos hj]
  obtain ⟨X, eX, lX, hX0, hX1⟩ := hX
  generalize hn0 : lim x0 = n0 at *
  generalize hn1 : lim x1 = n1 at *
  obtain ⟨a0, b0⟩ := cnt15 x0 (n := n0) (by omega)
  obtain ⟨a0', b0'⟩ := cnt14 x0 (n := n0) (by omega)
  obtain ⟨a1, b1⟩ := cnt15 x1 (n := n1) (by omega)
  obtain ⟨a2, b2⟩ := cnt15 X (n := n0 + n1) (by omega)
  have bd0 : ∀ i, 0 ≤ hn x0 i n0 ∧ hn x0 i n0 ≤ 1000 := fun i => by have := hn_b x0 i n0; omega
  have bd1 : ∀ i, 0 ≤ hn x1 i n1 ∧ hn x1 i n1 ≤ 1000 := fun i => by have := hn_b x1 i n1; omega
  have bd2 : ∀ i, 0 ≤ hn X i (n0 + n1) ∧ hn X i (n0 + n1) ≤ 1000 := fun i => by have := hn_b X i (n0 + n1); omega
  obtain ⟨a3, b3⟩ := mer16 (fun i => hn x0 i n0) (fun i => hn x1 i n1) bd0 bd1
  have same : (mk1 256 fun i => hn x0 i n0 + hn x1 i n1) = mk1 256 fun i => hn X i (n0 + n1) := mk1_congr fun i _ => by
    rw [hn_right hX1 i n1 (Nat.le_refl _), hn_left hX0 i n0 (Nat.le_refl _)]
  have tot : bel (mk1 256 fun i => hn X i (n0 + n1)) 256 = ((n0 + n1 : Nat) : Int) := by rw [bel_sm _ bd2 256 (Nat.le_refl _), sm_hn X (Nat.le_refl _)]
  rw [same] at b3
  have m0 : nthL (D := R) [.z (n0 : Int), .l (mk1 256 fun i => hn x0 i n0)] 1 = mk1 256 fun i => hn x0 i n0 := rfl
  have m1 : nthL (D := R) [.z (n1 : Int), .l (mk1 256 fun i => hn x1 i n1)] 1 = mk1 256 fun i => hn x1 i n1 := rfl
  have m2 : nthL (D := R) [.z ((n0 + n1 : Nat) : Int), .l (mk1 256 fun i => hn X i (n0 + n1))] 1 = mk1 256 fun i => hn X i (n0 + n1) := rfl
  have m3 : nthL (D := R) [.z (256 : Int), .l (mk1 256 fun i => hn X i (n0 + n1))] 1 = mk1 256 fun i => hn X i (n0 + n1) := rfl
  obtain ⟨a4, b4⟩ := all3 (mk1 256 fun i => hn X i (n0 + n1))
  rw [tot] at b4
  generalize (mk1 256 fun i => hn x0 i n0) = H0 at *
  generalize (mk1 256 fun i => hn x1 i n1) = H1 at *
  generalize (mk1 256 fun i => hn X i (n0 + n1)) = H2 at *
  have w0 : WS4_0_0 R x0 = (n0 : Int) := le0
  have w22 : WS4_0_22 R x1 = (n1 : Int) := le1
  have w1 : WS4_0_1 R = [.l edges, .z (255 : Int)] := tab0.2
  have w3 : WS4_0_3 R = [.l edges, .z (256 : Int)] := tab12.2
  have w2 : WS4_0_2 R x0 = [.z (n0 : Int), .l H0] := by unfold WS4_0_2; rw [w0, w1, el, er]; exact b0
  have w4 : WS4_0_4 R x0 = [.z (n0 : Int), .l H0] := by unfold WS4_0_4; rw [w0, w3, el', er']; exact b0'
  have w23 : WS4_0_23 R x1 = [.z (n1 : Int), .l H1] := by unfold WS4_0_23; rw [w22, w1, el, er]; exact b1
  have w24 : WS4_0_24 R x0 x1 = [.z (256 : Int), .l H2] := by unfold WS4_0_24; rw [w23, w2, m1, m0]; exact b3
  have lX' : R.llen X = ((n0 + n1 : Nat) : Int) := by show (X.length : Int) = _; rw [lX]
  have w26 : WS4_0_26 R x0 x1 = [.z ((n0 + n1 : Nat) : Int), .l H2] := by unfold WS4_0_26; rw [eX, lX', w1, el, er]; exact b2
  have w45 : WS4_0_45 R x0 x1 = [.z ((n0 + n1 : Nat) : Int), .z (256 : Int)] := by unfold WS4_0_45; rw [w24, m3]; exact b4
  have n45 : nthZ (D := R) [.z ((n0 + n1 : Nat) : Int), .z (256 : Int)] 0 = ((n0 + n1 : Nat) : Int) := rfl
  have sum : R.zadd .i64 (n0 : Int) (n1 : Int) = ((n0 + n1 : Nat) : Int) := (zadd64 (x := (n0 : Int)) (y := (n1 : Int)) ⟨by omega, by omega⟩).trans (show (n0 : Int) + (n1 : Int) = ((n0 + n1 : Nat) : Int) by omega)
  -- the code's names are the same
  have o0 : WO4_0 R = true := tab12.1
  have o1 : WO4_1 R x0 = (n0 : Int) := le0
  have o2 : WO4_2 R = [.l edges, .z (256 : Int)] := tab12.2
  have o3 : WO4_3 R x0 = true := by unfold WO4_3; rw [o1, o2, el', er']; exact a0'
  have o4 : WO4_4 R = true := tab0.1
  have o5 : WO4_5 R = [.l edges, .z (255 : Int)] := tab0.2
  have o6 : WO4_6 R x0 = true := by unfold WO4_6; rw [o1, o5, el, er]; exact a0
  have o7 : WO4_7 R x1 = (n1 : Int) := le1
  have o8 : WO4_8 R x1 = true := by unfold WO4_8; rw [o7, o5, el, er]; exact a1
  have o9 : WO4_9 R x1 = [.z (n1 : Int), .l H1] := w23
  have o10 : WO4_10 R x0 = [.z (n0 : Int), .l H0] := w2
  have o11 : WO4_11 R x0 x1 = true := by unfold WO4_11; rw [o9, o10, m1, m0]; exact a3
  have o12 : WO4_12 R x0 = [.z (n0 : Int), .l H0] := w4
  have o31 : WO4_31 R x0 x1 = X := eX
  have o30 : R.zle (R.llen (WO4_30 R x0)) (R.zc 1073741824) = true := by
    unfold WO4_30
    rw [o1]
    refine zleT ?_
    show ((([] ++ (x0.drop (0 : Int).toNat).take ((n0 : Int) - 0).toNat) : Row).length : Int) ≤ 1073741824
    simp
    omega
  have o31' : R.zle ((n0 + n1 : Nat) : Int) (R.zc 1073741824) = true := zleT (show ((n0 + n1 : Nat) : Int) ≤ 1073741824 by omega)
  have o32 : WO4_32 R x0 x1 = true := by unfold WO4_32; rw [o31, lX', o5, el, er]; exact a2
  have o33 : WO4_33 R x0 x1 = [.z (256 : Int), .l H2] := w24
  have o34 : WO4_34 R x0 x1 = [.z ((n0 + n1 : Nat) : Int), .l H2] := w26
  have o53 : WO4_53 R x0 x1 = true := by unfold WO4_53; rw [o33, m3]; exact a4
  have c5 : WS4_0_5 R x0 = true := by unfold WS4_0_5; rw [w2, w4, m0]; simp only [beq_self_eq_true, Bool.and_self]
  have c6 : WS4_0_6 R x0 = true := by unfold WS4_0_6; rw [w2, w4, m0, c5]; simp only [beq_self_eq_true, Bool.and_self]
  have c7 : WS4_0_7 R x0 = true := by unfold WS4_0_7; rw [w2, w4, m0, c6]; simp only [beq_self_eq_true, Bool.and_self]
  have c8 : WS4_0_8 R x0 = true := by unfold WS4_0_8; rw [w2, w4, m0, c7]; simp only [beq_self_eq_true, Bool.and_self]
  have c9 : WS4_0_9 R x0 = true := by unfold WS4_0_9; rw [w2, w4, m0, c8]; simp only [beq_self_eq_true, Bool.and_self]
  have c10 : WS4_0_10 R x0 = true := by unfold WS4_0_10; rw [w2, w4, m0, c9]; simp only [beq_self_eq_true, Bool.and_self]
  have c11 : WS4_0_11 R x0 = true := by unfold WS4_0_11; rw [w2, w4, m0, c10]; simp only [beq_self_eq_true, Bool.and_self]
  have c12 : WS4_0_12 R x0 = true := by unfold WS4_0_12; rw [w2, w4, m0, c11]; simp only [beq_self_eq_true, Bool.and_self]
  have c13 : WS4_0_13 R x0 = true := by unfold WS4_0_13; rw [w2, w4, m0, c12]; simp only [beq_self_eq_true, Bool.and_self]
  have c14 : WS4_0_14 R x0 = true := by unfold WS4_0_14; rw [w2, w4, m0, c13]; simp only [beq_self_eq_true, Bool.and_self]
  have c15 : WS4_0_15 R x0 = true := by unfold WS4_0_15; rw [w2, w4, m0, c14]; simp only [beq_self_eq_true, Bool.and_self]
  have c16 : WS4_0_16 R x0 = true := by unfold WS4_0_16; rw [w2, w4, m0, c15]; simp only [beq_self_eq_true, Bool.and_self]
  have c17 : WS4_0_17 R x0 = true := by unfold WS4_0_17; rw [w2, w4, m0, c16]; simp only [beq_self_eq_true, Bool.and_self]
  have c18 : WS4_0_18 R x0 = true := by unfold WS4_0_18; rw [w2, w4, m0, c17]; simp only [beq_self_eq_true, Bool.and_self]
  have c19 : WS4_0_19 R x0 = true := by unfold WS4_0_19; rw [w2, w4, m0, c18]; simp only [beq_self_eq_true, Bool.and_self]
  have c20 : WS4_0_20 R x0 = true := by unfold WS4_0_20; rw [w2, w4, m0, c19]; simp only [beq_self_eq_true, Bool.and_self]
  have c21 : WS4_0_21 R x0 = true := by unfold WS4_0_21; rw [w2, w4, m0, c20]; simp only [beq_self_eq_true, Bool.and_self]
  have c27 : WS4_0_27 R x0 x1 = true := by unfold WS4_0_27; rw [w24, w26, m3, m2]; simp only [beq_self_eq_true, Bool.and_self]
  have c28 : WS4_0_28 R x0 x1 = true := by unfold WS4_0_28; rw [w24, w26, m3, m2, c27]; simp only [beq_self_eq_true, Bool.and_self]
  have c29 : WS4_0_29 R x0 x1 = true := by unfold WS4_0_29; rw [w24, w26, m3, m2, c28]; simp only [beq_self_eq_true, Bool.and_self]
  have c30 : WS4_0_30 R x0 x1 = true := by unfold WS4_0_30; rw [w24, w26, m3, m2, c29]; simp only [beq_self_eq_true, Bool.and_self]
  have c31 : WS4_0_31 R x0 x1 = true := by unfold WS4_0_31; rw [w24, w26, m3, m2, c30]; simp only [beq_self_eq_true, Bool.and_self]
  have c32 : WS4_0_32 R x0 x1 = true := by unfold WS4_0_32; rw [w24, w26, m3, m2, c31]; simp only [beq_self_eq_true, Bool.and_self]
  have c33 : WS4_0_33 R x0 x1 = true := by unfold WS4_0_33; rw [w24, w26, m3, m2, c32]; simp only [beq_self_eq_true, Bool.and_self]
  have c34 : WS4_0_34 R x0 x1 = true := by unfold WS4_0_34; rw [w24, w26, m3, m2, c33]; simp only [beq_self_eq_true, Bool.and_self]
  have c35 : WS4_0_35 R x0 x1 = true := by unfold WS4_0_35; rw [w24, w26, m3, m2, c34]; simp only [beq_self_eq_true, Bool.and_self]
  have c36 : WS4_0_36 R x0 x1 = true := by unfold WS4_0_36; rw [w24, w26, m3, m2, c35]; simp only [beq_self_eq_true, Bool.and_self]
  have c37 : WS4_0_37 R x0 x1 = true := by unfold WS4_0_37; rw [w24, w26, m3, m2, c36]; simp only [beq_self_eq_true, Bool.and_self]
  have c38 : WS4_0_38 R x0 x1 = true := by unfold WS4_0_38; rw [w24, w26, m3, m2, c37]; simp only [beq_self_eq_true, Bool.and_self]
  have c39 : WS4_0_39 R x0 x1 = true := by unfold WS4_0_39; rw [w24, w26, m3, m2, c38]; simp only [beq_self_eq_true, Bool.and_self]
  have c40 : WS4_0_40 R x0 x1 = true := by unfold WS4_0_40; rw [w24, w26, m3, m2, c39]; simp only [beq_self_eq_true, Bool.and_self]
  have c41 : WS4_0_41 R x0 x1 = true := by unfold WS4_0_41; rw [w24, w26, m3, m2, c40]; simp only [beq_self_eq_true, Bool.and_self]
  have c42 : WS4_0_42 R x0 x1 = true := by unfold WS4_0_42; rw [w24, w26, m3, m2, c41]; simp only [beq_self_eq_true, Bool.and_self]
  have c43 : WS4_0_43 R x0 x1 = true := by unfold WS4_0_43; rw [w24, w26, m3, m2, c42]; simp only [beq_self_eq_true, Bool.and_self]
  have c44 : WS4_0_44 R x0 x1 = true := by unfold WS4_0_44; rw [w24, w26, m3, m2, c43]; simp only [beq_self_eq_true, Bool.and_self]
  have d13 : WO4_13 R x0 = true := by unfold WO4_13; rw [o10, o12, m0]; simp only [beq_self_eq_true, Bool.and_self]
  have d14 : WO4_14 R x0 = true := by unfold WO4_14; rw [o10, o12, m0, d13]; simp only [beq_self_eq_true, Bool.and_self]
  have d15 : WO4_15 R x0 = true := by unfold WO4_15; rw [o10, o12, m0, d14]; simp only [beq_self_eq_true, Bool.and_self]
  have d16 : WO4_16 R x0 = true := by unfold WO4_16; rw [o10, o12, m0, d15]; simp only [beq_self_eq_true, Bool.and_self]
  have d17 : WO4_17 R x0 = true := by unfold WO4_17; rw [o10, o12, m0, d16]; simp only [beq_self_eq_true, Bool.and_self]
  have d18 : WO4_18 R x0 = true := by unfold WO4_18; rw [o10, o12, m0, d17]; simp only [beq_self_eq_true, Bool.and_self]
  have d19 : WO4_19 R x0 = true := by unfold WO4_19; rw [o10, o12, m0, d18]; simp only [beq_self_eq_true, Bool.and_self]
  have d20 : WO4_20 R x0 = true := by unfold WO4_20; rw [o10, o12, m0, d19]; simp only [beq_self_eq_true, Bool.and_self]
  have d21 : WO4_21 R x0 = true := by unfold WO4_21; rw [o10, o12, m0, d20]; simp only [beq_self_eq_true, Bool.and_self]
  have d22 : WO4_22 R x0 = true := by unfold WO4_22; rw [o10, o12, m0, d21]; simp only [beq_self_eq_true, Bool.and_self]
  have d23 : WO4_23 R x0 = true := by unfold WO4_23; rw [o10, o12, m0, d22]; simp only [beq_self_eq_true, Bool.and_self]
  have d24 : WO4_24 R x0 = true := by unfold WO4_24; rw [o10, o12, m0, d23]; simp only [beq_self_eq_true, Bool.and_self]
  have d25 : WO4_25 R x0 = true := by unfold WO4_25; rw [o10, o12, m0, d24]; simp only [beq_self_eq_true, Bool.and_self]
  have d26 : WO4_26 R x0 = true := by unfold WO4_26; rw [o10, o12, m0, d25]; simp only [beq_self_eq_true, Bool.and_self]
  have d27 : WO4_27 R x0 = true := by unfold WO4_27; rw [o10, o12, m0, d26]; simp only [beq_self_eq_true, Bool.and_self]
  have d28 : WO4_28 R x0 = true := by unfold WO4_28; rw [o10, o12, m0, d27]; simp only [beq_self_eq_true, Bool.and_self]
  have d29 : WO4_29 R x0 = true := by unfold WO4_29; rw [o10, o12, m0, d28]; simp only [beq_self_eq_true, Bool.and_self]
  have d35 : WO4_35 R x0 x1 = true := by unfold WO4_35; rw [o33, o34, m3, m2]; simp only [beq_self_eq_true, Bool.and_self]
  have d36 : WO4_36 R x0 x1 = true := by unfold WO4_36; rw [o33, o34, m3, m2, d35]; simp only [beq_self_eq_true, Bool.and_self]
  have d37 : WO4_37 R x0 x1 = true := by unfold WO4_37; rw [o33, o34, m3, m2, d36]; simp only [beq_self_eq_true, Bool.and_self]
  have d38 : WO4_38 R x0 x1 = true := by unfold WO4_38; rw [o33, o34, m3, m2, d37]; simp only [beq_self_eq_true, Bool.and_self]
  have d39 : WO4_39 R x0 x1 = true := by unfold WO4_39; rw [o33, o34, m3, m2, d38]; simp only [beq_self_eq_true, Bool.and_self]
  have d40 : WO4_40 R x0 x1 = true := by unfold WO4_40; rw [o33, o34, m3, m2, d39]; simp only [beq_self_eq_true, Bool.and_self]
  have d41 : WO4_41 R x0 x1 = true := by unfold WO4_41; rw [o33, o34, m3, m2, d40]; simp only [beq_self_eq_true, Bool.and_self]
  have d42 : WO4_42 R x0 x1 = true := by unfold WO4_42; rw [o33, o34, m3, m2, d41]; simp only [beq_self_eq_true, Bool.and_self]
  have d43 : WO4_43 R x0 x1 = true := by unfold WO4_43; rw [o33, o34, m3, m2, d42]; simp only [beq_self_eq_true, Bool.and_self]
  have d44 : WO4_44 R x0 x1 = true := by unfold WO4_44; rw [o33, o34, m3, m2, d43]; simp only [beq_self_eq_true, Bool.and_self]
  have d45 : WO4_45 R x0 x1 = true := by unfold WO4_45; rw [o33, o34, m3, m2, d44]; simp only [beq_self_eq_true, Bool.and_self]
  have d46 : WO4_46 R x0 x1 = true := by unfold WO4_46; rw [o33, o34, m3, m2, d45]; simp only [beq_self_eq_true, Bool.and_self]
  have d47 : WO4_47 R x0 x1 = true := by unfold WO4_47; rw [o33, o34, m3, m2, d46]; simp only [beq_self_eq_true, Bool.and_self]
  have d48 : WO4_48 R x0 x1 = true := by unfold WO4_48; rw [o33, o34, m3, m2, d47]; simp only [beq_self_eq_true, Bool.and_self]
  have d49 : WO4_49 R x0 x1 = true := by unfold WO4_49; rw [o33, o34, m3, m2, d48]; simp only [beq_self_eq_true, Bool.and_self]
  have d50 : WO4_50 R x0 x1 = true := by unfold WO4_50; rw [o33, o34, m3, m2, d49]; simp only [beq_self_eq_true, Bool.and_self]
  have d51 : WO4_51 R x0 x1 = true := by unfold WO4_51; rw [o33, o34, m3, m2, d50]; simp only [beq_self_eq_true, Bool.and_self]
  have d52 : WO4_52 R x0 x1 = true := by unfold WO4_52; rw [o33, o34, m3, m2, d51]; simp only [beq_self_eq_true, Bool.and_self]
  constructor
  · unfold O4
    rw [ls0, ls1, o0, o3, o4, o6, o8, o11, aw_O11, aw_S11_0, d29, o10, o12, m0, zz, o30, o31, lX', o31', o32, d52, o33, o34, m3, m2, zz, zz, zz, o53]
    rfl
  · unfold S4_0
    rw [aw_S11_0, c21, w2, w4, m0, zz, c44, w24, w26, m3, m2, zz, zz, zz, zz, w45, n45, w0, w22, sum, zz]
    rfl

end Go.Proofs.Ytollfibhbdkedaa
