/- The law of which lights there are. -/
import Derived.Test.YtachcmfgjjoimaaAw
namespace Go.Proofs.Ytachcmfgjjoimaa
open Go.Ev

theorem num1 (n : Nat) (f : Vals) : Num (mk1 n f) f n := fun _ hi => mk1_at f hi

theorem chk1 {n : Nat} {f : Vals} (hn : n ≤ 1024) (hf : Fine f n) : E2 R (n : Int) (n : Int) (mk1 n f) (R.zc 0) (R.zc 0) (R.zc 0) (R.zc 0) = true ∧ L2 R (n : Int) (n : Int) (mk1 n f) (R.zc 0) (R.zc 0) (R.zc 0) (R.zc 0) = [.z 0, .z 0, .z (sm f n), .z (n : Int)] :=
  chkE (by omega) (num1 n f) (Nat.le_refl _) hf (.inl rfl)
theorem tot1 {n : Nat} {f : Vals} (hn : n ≤ 1024) (hf : Fine f n) : E15 R (n : Int) (mk1 n f) (R.zc 0) (R.zc 0) (R.zc 0) = true ∧ L15 R (n : Int) (mk1 n f) (R.zc 0) (R.zc 0) (R.zc 0) = [.z 0, .z (sm f n), .z (n : Int)] :=
  totE (by omega) (num1 n f) (Nat.le_refl _) hf (.inl rfl)

/-- A table that is there. -/
theorem tabE {n : Nat} {S : Int} {f : Vals} (h : Wts n S f) : ∃ r : List (PD R), L3 R (n : Int) (n : Int) (n : Int) (mk1 n f) S (n : Int) (n : Int) R.lnil R.lnil (R.zc 0) (R.lrep (n : Int) [.z (R.zc 0), .z (R.zc 0)]) (R.lrep (n : Int) [.z (R.zc 0)]) = r ∧
    E3 R (n : Int) (n : Int) (n : Int) (mk1 n f) S (n : Int) (n : Int) R.lnil R.lnil (R.zc 0) (R.lrep (n : Int) [.z (R.zc 0), .z (R.zc 0)]) (R.lrep (n : Int) [.z (R.zc 0)]) = true ∧
    ∃ s : St, Inv n S f s ∧ go s = false ∧ E4 R S (n : Int) (n : Int) (nthL r 0) (nthL r 1) (nthL r 4) (nthL r 3) = true ∧ L4 R S (n : Int) (n : Int) (nthL r 0) (nthL r 1) (nthL r 4) (nthL r 3) = e2 n s := by
  obtain ⟨a, b⟩ := newE h (num1 n f)
  obtain ⟨s, s1, s2, s3, s4⟩ := pairsE h
  exact ⟨_, b, a, s, s1, s2, s3, s4⟩

/-- Is a table of these weights nil? -/
def nilT (n : Nat) (S : Int) : Bool := decide (n = 0 ∨ S = 0)

theorem flagE {n : Nat} (hn : n ≤ 1024) (S : Int) : R.bnot (R.zeq (R.zite (R.zlt (R.zc 1024) (n : Int)) (R.zc 4) (R.zite (R.zlt (n : Int) (n : Int)) (R.zc 2) (R.zite (R.bite (R.zeq (n : Int) (R.zc 0)) (R.bc true) (R.zeq S (R.zc 0))) (R.zite (R.zeq (n : Int) (R.zc 0)) (R.zc 2) (R.zc 13)) (R.zc 0)))) (R.zc 0)) = nilT n S := by
  rw [zltF (show ¬ R.zc 1024 < (n : Int) from show ¬ (1024 : Int) < (n : Int) by omega), zltF (Int.lt_irrefl (n : Int)), zq0]
  unfold nilT
  by_cases h : n = 0
  · simp only [h, true_or, decide_true]; rfl
  · by_cases g : S = 0
    · rw [decide_eq_false h, zeqT (show S = R.zc 0 from g), decide_eq_true (.inr g)]; rfl
    · rw [decide_eq_false h, zeqF (show S ≠ R.zc 0 from g), decide_eq_false (by rintro (q | q) <;> contradiction)]; rfl

theorem totalE {n : Nat} (hn : n ≤ 1024) {S : Int} (h0 : n = 0 → S = 0) : R.zite (R.zlt (R.zc 1024) (n : Int)) (R.zc 0) (R.zite (R.zlt (n : Int) (n : Int)) (R.zc 0) (R.zite (R.bite (R.zeq (n : Int) (R.zc 0)) (R.bc true) (R.zeq S (R.zc 0))) (R.zc 0) S)) = S := by
  rw [zltF (show ¬ R.zc 1024 < (n : Int) from show ¬ (1024 : Int) < (n : Int) by omega), zltF (Int.lt_irrefl (n : Int)), zq0, zqi]
  by_cases h : n = 0
  · rw [decide_eq_true h, h0 h]; rfl
  · by_cases g : S = 0
    · rw [decide_eq_false h, decide_eq_true (show S = R.zc 0 from g), g]; rfl
    · rw [decide_eq_false h, decide_eq_false (show ¬ S = R.zc 0 from g)]; rfl

theorem wts {n : Nat} {f : Vals} (hn : n ≤ 1024) (hf : Fine f n) (h : nilT n (sm f n) = false) : Wts n (sm f n) f := by
  have h' : ¬ (n = 0 ∨ sm f n = 0) := of_decide_eq_false h
  have := hf.sum.1
  exact ⟨by omega, hn, hf, rfl, by omega⟩

/-- Of an environment: whether there is one, and its weight. -/
structure EnvF (x2 : Int) (x3 : Row) (x4 : Bool) (E : Bool) (ew : Int) : Prop where
  lo : 0 ≤ ew
  hi : ew ≤ 1048576
  may : (R.bite x4 (WO3_3 R x2 x3) (R.bc true)) = true
  new : (R.bite (R.bite x4 (WO3_5 R x2 x3) (R.bc false)) (R.bite (WO3_1 R x2 x3) (R.bc true) (R.band (WO3_6 R x3) (R.bite (WO3_8 R x3) (R.bc true) (R.band (R.zle (R.llen (R.lsub x3 (R.zc 0) (R.llen x3))) (R.zc 1073741824)) (R.band (R.bite (WO3_9 R x3) (R.bc true) (WO3_10 R x3)) (R.bite (WO3_15 R x3) (R.bc true) (R.band (WO3_16 R x3) (R.band (WO3_17 R x3) (R.band (WO3_17 R x3) (R.band (WO3_21 R x3) (WO3_23 R x3))))))))))) (R.bc true)) = true
  no : WO3_24 R x2 x3 x4 = false
  is : WO3_29 R x2 x3 x4 = E
  may4 : x4 = true → WO3_3 R x2 x3 = true
  is4 : x4 = true → WO3_5 R x2 x3 = E
  sky : E = true → x4 = true
  d1 : E = true → WO3_1 R x2 x3 = false
  d8 : E = true → WO3_8 R x3 = false
  code : E = true → (R.zmin (R.zite (R.bnot (WO3_29 R x2 x3 x4)) (R.zc 0) (R.zite (R.bnot (R.bnot (WO3_15 R x3))) (R.zc 0) (WO3_18 R x3))) (R.zc 1048576)) = ew
  ref : E = true → (S49_0 R (R.zite (R.zlt (nthZ (WO3_60 R x3) 2) (R.llen (nthL (WO3_57 R x3) 0))) (R.zc (-1)) (nthZ (WO3_60 R x3) 1)) (R.zc 1048576)) = ew
  w : E = true → WO3_56 R x3 = true ∧ WO3_58 R x3 = true

theorem envE (x2 : Int) (x3 : Row) (x4 : Bool) : ∃ E ew, EnvF x2 x3 x4 E ew := by
  by_cases h4 : x4 = true
  case neg =>
    have h4' : x4 = false := by simpa using h4
    subst h4'
    exact ⟨false, 0, by decide, by decide, rfl, rfl, rfl, rfl, fun h => (nomatch h), fun h => (nomatch h), fun h => (nomatch h), fun h => (nomatch h), fun h => (nomatch h), fun h => (nomatch h), fun h => (nomatch h), fun h => (nomatch h)⟩
  subst h4
  by_cases h1 : WO3_1 R x2 x3 = true
  · refine ⟨false, 0, by decide, by decide, ?_, ?_, ?_, ?_, fun _ => ?_, fun _ => ?_, fun h => (nomatch h), fun h => (nomatch h), fun h => (nomatch h), fun h => (nomatch h), fun h => (nomatch h), fun h => (nomatch h)⟩
    · unfold WO3_3; rw [h1]; rfl
    · unfold WO3_5; rw [h1]; rfl
    · unfold WO3_24 WO3_5; rw [h1]; rfl
    · unfold WO3_29 WO3_5; rw [h1]; rfl
    · unfold WO3_3; rw [h1]; rfl
    · unfold WO3_5; rw [h1]; rfl
  have h1' : WO3_1 R x2 x3 = false := by simpa using h1
  obtain ⟨c, hc⟩ : ∃ c : Nat, x3.length = c := ⟨_, rfl⟩
  have hl : R.llen x3 = (c : Int) := by show ((x3.length : Nat) : Int) = _; rw [hc]
  have hc128 : c ≤ 128 := by
    have g := h1'
    unfold WO3_1 at g
    by_cases a : x2 < 1
    · rw [zltT (show x2 < R.zc 1 from a)] at g; cases g
    · by_cases b : (16 : Int) < x2
      · rw [zltF (show ¬ x2 < R.zc 1 from a), zltT (show R.zc 16 < x2 from b)] at g; cases g
      · have e : R.zmul .i64 (R.zc 8) x2 = 8 * x2 := zmul64 (x := 8) (y := x2) ⟨by omega, by omega⟩
        rw [zltF (show ¬ x2 < R.zc 1 from a), zltF (show ¬ R.zc 16 < x2 from b), e, hl, zqi] at g
        by_cases q : (c : Int) = 8 * x2
        · omega
        · rw [decide_eq_false q] at g; cases g
  obtain ⟨m, m1, m2, m3⟩ := firstNot (fun i => okAt x3 i = true) c
  obtain ⟨a7, b7⟩ := mayE (x := x3) (n := c) (m := m) (by omega) m1 m2 m3
  obtain ⟨a8, b8⟩ := cellsE (x := x3) (n := c) (m := m) (by omega) m1 m2 m3
  have w2 : WO3_2 R x3 = true := by unfold WO3_2; rw [hl]; exact a7
  have w3 : WO3_3 R x2 x3 = true := by unfold WO3_3; rw [h1', w2]; rfl
  have w4 : WO3_4 R x3 = [.b false, .z (m : Int)] := by unfold WO3_4; rw [hl]; exact b7
  have w6 : WO3_6 R x3 = true := by unfold WO3_6; rw [hl]; exact a8
  have w7 : WO3_7 R x3 = [.l (mk1 m (wAt x3)), .z 0, .z (m : Int)] := by unfold WO3_7; rw [hl]; exact b8
  have n4 : nthZ (D := R) [.b false, .z (m : Int)] 1 = (m : Int) := rfl
  have n7 : nthZ (D := R) [.l (mk1 m (wAt x3)), .z 0, .z (m : Int)] 2 = (m : Int) := rfl
  have r7 : nthL (D := R) [.l (mk1 m (wAt x3)), .z 0, .z (m : Int)] 0 = mk1 m (wAt x3) := rfl
  rcases m3 with e | ⟨e, _⟩
  case inr =>
    have z : R.zlt (m : Int) (c : Int) = true := zltT (by omega)
    have w5 : WO3_5 R x2 x3 = false := by unfold WO3_5; rw [h1', w4, n4, hl, z]; rfl
    refine ⟨false, 0, by decide, by decide, ?_, ?_, ?_, ?_, fun _ => w3, fun _ => w5, fun h => (nomatch h), fun h => (nomatch h), fun h => (nomatch h), fun h => (nomatch h), fun h => (nomatch h), fun h => (nomatch h)⟩
    · rw [w3]; rfl
    · rw [w5]; rfl
    · unfold WO3_24; rw [w5]; rfl
    · unfold WO3_29; rw [w5]; rfl
  subst e
  have hf := wAt_fine x3 m
  have z : R.zlt (m : Int) (m : Int) = false := zltF (Int.lt_irrefl _)
  have w5 : WO3_5 R x2 x3 = true := by unfold WO3_5; rw [h1', w4, n4, hl, z]; rfl
  have w8 : WO3_8 R x3 = false := by unfold WO3_8; rw [w7, n7, hl, z]
  obtain ⟨a2, b2⟩ := chk1 (n := m) (f := wAt x3) (by omega) hf
  have n2 : nthZ (D := R) [.z 0, .z 0, .z (sm (wAt x3) m), .z (m : Int)] 2 = sm (wAt x3) m := rfl
  have n3 : nthZ (D := R) [.z 0, .z 0, .z (sm (wAt x3) m), .z (m : Int)] 3 = (m : Int) := rfl
  have w9 : WO3_9 R x3 = R.zlt (R.zc 1024) (m : Int) := by unfold WO3_9; rw [w7, r7, mk1_llen]
  have w10 : WO3_10 R x3 = true := by unfold WO3_10; rw [w7, r7, mk1_llen]; exact a2
  have w11 : WO3_11 R x3 = [.z 0, .z 0, .z (sm (wAt x3) m), .z (m : Int)] := by unfold WO3_11; rw [w7, r7, mk1_llen]; exact b2
  have w12 : WO3_12 R x3 = R.zlt (m : Int) (m : Int) := by unfold WO3_12; rw [w11, n3, w7, r7, mk1_llen]
  have w13 : WO3_13 R x3 = R.zeq (m : Int) (R.zc 0) := by unfold WO3_13; rw [w7, r7, mk1_llen]
  have w14 : WO3_14 R x3 = R.bite (R.zeq (m : Int) (R.zc 0)) (R.bc true) (R.zeq (sm (wAt x3) m) (R.zc 0)) := by unfold WO3_14; rw [w13, w11, n2]
  have w15 : WO3_15 R x3 = nilT m (sm (wAt x3) m) := by unfold WO3_15; rw [w9, w12, w14, w13]; exact flagE (by omega) _
  have w18 : WO3_18 R x3 = sm (wAt x3) m := by unfold WO3_18; rw [w9, w12, w14, w11, n2]; exact totalE (by omega) (fun e => by subst e; rfl)
  have w16 : WO3_16 R x3 = true := by unfold WO3_16; rw [w7, r7, mk1_llen]; exact zleT (show (m : Int) ≤ 1073741824 by omega)
  have w17 : WO3_17 R x3 = true := by unfold WO3_17; rw [w16, w7, r7, mk1_llen, zge0]; rfl
  obtain ⟨a14, b14⟩ := weightsE (x := x3) (n := m) (by omega)
  obtain ⟨a15, b15⟩ := tot1 (n := m) (f := wAt x3) (by omega) hf
  have w56 : WO3_56 R x3 = true := by unfold WO3_56; rw [hl]; exact a14
  have w57 : WO3_57 R x3 = [.l (mk1 m (wAt x3)), .z (m : Int)] := by unfold WO3_57; rw [hl]; exact b14
  have r57 : nthL (D := R) [.l (mk1 m (wAt x3)), .z (m : Int)] 0 = mk1 m (wAt x3) := rfl
  have w58 : WO3_58 R x3 = true := by unfold WO3_58; rw [w57, r57, mk1_llen]; exact a15
  have w60 : WO3_60 R x3 = [.z 0, .z (sm (wAt x3) m), .z (m : Int)] := by unfold WO3_60; rw [w57, r57, mk1_llen]; exact b15
  have n60 : nthZ (D := R) [.z 0, .z (sm (wAt x3) m), .z (m : Int)] 2 = (m : Int) := rfl
  have n61 : nthZ (D := R) [.z 0, .z (sm (wAt x3) m), .z (m : Int)] 1 = sm (wAt x3) m := rfl
  have hs := hf.sum
  have len : R.zle (R.llen (R.lsub x3 (R.zc 0) (R.llen x3))) (R.zc 1073741824) = true := by rw [lsub_all, hl]; exact zleT (show (m : Int) ≤ 1073741824 by omega)
  refine ⟨true, if sm (wAt x3) m < 1048576 then sm (wAt x3) m else 1048576, by split <;> omega, by split <;> omega, ?_, ?_, ?_, ?_, fun _ => w3, fun _ => w5, fun _ => rfl, fun _ => h1', fun _ => w8, fun _ => ?_, fun _ => ?_, fun _ => ⟨w56, w58⟩⟩
  · rw [w3]; rfl
  · rw [w5, h1', w6, w8, len, w9, w10, w15, w16, w17]
    cases hn : nilT m (sm (wAt x3) m) with
    | true => cases R.zlt (R.zc 1024) (m : Int) <;> rfl
    | false =>
      obtain ⟨r, q1, q2, s, _, _, q5, _⟩ := tabE (wts (n := m) (f := wAt x3) (by omega) hf hn)
      have w19 : WO3_19 R x3 = R.lrep (m : Int) [.z (R.zc 0), .z (R.zc 0)] := by unfold WO3_19; rw [w7, r7, mk1_llen]
      have w20 : WO3_20 R x3 = R.lrep (m : Int) [.z (R.zc 0)] := by unfold WO3_20; rw [w7, r7, mk1_llen]
      have w21 : WO3_21 R x3 = true := by unfold WO3_21; rw [w7, r7, mk1_llen, w18, w19, w20]; exact q2
      have w22 : WO3_22 R x3 = r := by unfold WO3_22; rw [w7, r7, mk1_llen, w18, w19, w20]; exact q1
      have w23 : WO3_23 R x3 = true := by unfold WO3_23; rw [w18, w7, r7, mk1_llen, w22]; exact q5
      rw [w21, w23]
      cases R.zlt (R.zc 1024) (m : Int) <;> rfl
  · unfold WO3_24; rw [w5, h1', w8]; rfl
  · unfold WO3_29; rw [w5, h1', w8]; rfl
  · have w29 : WO3_29 R x2 x3 true = true := by unfold WO3_29; rw [w5, h1', w8]; rfl
    rw [w29, w15, w18]
    have key : ∀ t : Int, R.zmin t (R.zc 1048576) = if t < 1048576 then t else 1048576 := fun t => by
      show (if (1048576 : Int) < t then (1048576 : Int) else t) = _
      split <;> split <;> omega
    cases hn : nilT m (sm (wAt x3) m) with
    | false => exact key _
    | true =>
      have h0 : sm (wAt x3) m = 0 := by
        have : m = 0 ∨ sm (wAt x3) m = 0 := of_decide_eq_true hn
        rcases this with e | e
        · subst e; rfl
        · exact e
      rw [h0]; rfl
  · rw [w60, n60, n61, w57, r57, mk1_llen, z]
    show R.zite (R.zlt (sm (wAt x3) m) (R.zc 1048576)) (sm (wAt x3) m) (R.zc 1048576) = _
    by_cases q : sm (wAt x3) m < 1048576
    · rw [zltT (show sm (wAt x3) m < R.zc 1048576 from q), if_pos q]; rfl
    · rw [zltF (show ¬ sm (wAt x3) m < R.zc 1048576 from q), if_neg q]; rfl

/-- What the rows of weights are. -/
theorem ext_row {n : Nat} {g : Vals} {ew : Int} : R.lapp (mk1 n g) [[.z ew]] = mk1 (n + 1) (fun i => if i < n then g i else ew) := by
  have e : mk1 n g = mk1 n (fun i => if i < n then g i else ew) := mk1_congr fun i hi => by rw [if_pos hi]
  rw [e]
  have := mk1_snoc n (fun i => if i < n then g i else ew)
  rw [show (if n < n then g n else ew) = ew from if_neg (Nat.lt_irrefl _)] at this
  exact this
theorem ext_same {n : Nat} {g : Vals} {ew : Int} : mk1 n g = mk1 n (fun i => if i < n then g i else ew) := mk1_congr fun i hi => by rw [if_pos hi]

theorem flE (N : Nat) (S : Int) : R.bite (R.zeq (N : Int) (R.zc 0)) (R.bc true) (R.zeq S (R.zc 0)) = nilT N S := by
  rw [zq0]
  unfold nilT
  by_cases g1 : N = 0
  · rw [decide_eq_true g1, decide_eq_true (.inl g1)]; rfl
  · by_cases g2 : S = 0
    · rw [decide_eq_false g1, zeqT (show S = R.zc 0 from g2), decide_eq_true (.inr g2)]; rfl
    · rw [decide_eq_false g1, zeqF (show S ≠ R.zc 0 from g2), decide_eq_false (by rintro (q | q) <;> contradiction)]; rfl

theorem feq00 : R.feq (R.fc 0) (R.fc 0) = true := by kernel_rfl

theorem law_LightMakes (x0 : Row) (x1 : Row) (x2 : Int) (x3 : Row) (x4 : Bool) (x5 : Fl) (x6 : Int) (_k0 : okRow [.f, .f, .f, .f, .f, .f, .f, .f, .f] x0) (_k1 : okRow [.z .i64, .f, .f, .f] x1) (_k2 : okInt .i64 x2) (_k3 : okRow [.f, .f, .f] x3) (_k6 : okInt .i64 x6) : O3 R x0 x1 x2 x3 x4 x5 x6 = true ∧ S3_0 R x0 x1 x2 x3 x4 x5 x6 = true := by
  have ow := aw_O6
  have sw := aw_S6_0
  obtain ⟨n, hn⟩ : ∃ n : Nat, x1.length = n := ⟨_, rfl⟩
  have hl : R.llen x1 = (n : Int) := by show ((x1.length : Nat) : Int) = _; rw [hn]
  by_cases h600 : 600 < n
  · have z : R.zlt (R.zc 600) (n : Int) = true := zltT (show (600 : Int) < (n : Int) by omega)
    unfold O3 S3_0
    rw [hl, z, ow, sw]
    exact ⟨rfl, rfl⟩
  have z600 : R.zlt (R.zc 600) (n : Int) = false := zltF (show ¬ (600 : Int) < (n : Int) by omega)
  obtain ⟨E, ew, F⟩ := envE x2 x3 x4
  obtain ⟨a6, b6⟩ := fewE x0
  have hTl := fewT_len x0 (lim x0)
  have hlim := (lim_le x0).1
  generalize fewT x0 (lim x0) = T at *
  obtain ⟨L, hL⟩ : ∃ L : Nat, T.length = L := ⟨_, rfl⟩
  have hLl : R.llen T = (L : Int) := by show ((T.length : Nat) : Int) = _; rw [hL]
  have w25 : WO3_25 R x0 = [.l T, .z (lim x0 : Int)] := b6
  have r25 : nthL (D := R) [.l T, .z (lim x0 : Int)] 0 = T := rfl
  have w0 : WO3_0 R x0 = true := a6
  -- where nothing is made
  have ends : ∀ k : Int, (k = 4 ∨ k = 2) → WO3_51 R x0 x1 = k → WO3_52 R x0 x1 = false → WO3_54 R x0 x1 = false → WO3_62 R x0 x1 x2 x3 x4 = true → O3 R x0 x1 x2 x3 x4 x5 x6 = true ∧ S3_0 R x0 x1 x2 x3 x4 x5 x6 = true := by
    intro k hk e51 e52 e54 e62
    have e53 : WO3_53 R x0 x1 = true := by
      unfold WO3_53; rw [e51]
      rcases hk with rfl | rfl <;> rfl
    have e63 : WO3_63 R x0 x1 x2 x3 x4 = true := by unfold WO3_63; rw [F.no, e54, e53]; rfl
    have e64 : WO3_64 R x0 x1 x2 x3 x4 = k := by unfold WO3_64; rw [F.no, e54, e51]; rfl
    have e65 : WO3_65 R x0 x1 x2 x3 x4 = true := by
      unfold WO3_65; rw [e64]
      rcases hk with rfl | rfl <;> rfl
    have z8 : R.zeq k (R.zc 8) = false := by rcases hk with rfl | rfl <;> rfl
    have z0 : R.bnot (R.zeq k (R.zc 0)) = true := by rcases hk with rfl | rfl <;> rfl
    constructor
    · unfold O3
      rw [hl, z600, w0, F.may, F.new, F.no, e62, e63, e64, e65, z8, ow]; rfl
    · unfold S3_0
      rw [hl, z600, show WS3_0_15 R x0 x1 x2 x3 x4 = true from e63, show WS3_0_16 R x0 x1 x2 x3 x4 = k from e64, z8, z0, sw]; rfl
  by_cases h512 : 512 < n
  · have z512 : R.zlt (R.zc 512) (n : Int) = true := zltT (show (512 : Int) < (n : Int) by omega)
    have e51 : WO3_51 R x0 x1 = 4 := by unfold WO3_51; rw [hl, z512]; rfl
    have e52 : WO3_52 R x0 x1 = false := by unfold WO3_52; rw [hl, z512]; rfl
    have e53 : WO3_53 R x0 x1 = true := by unfold WO3_53; rw [e51]; rfl
    have e54 : WO3_54 R x0 x1 = false := by unfold WO3_54; rw [e51, e52, e53, hl, z512]; rfl
    exact ends 4 (.inl rfl) e51 e52 e54 (by unfold WO3_62; rw [hl, z512, e54, e53]; rfl)
  have z512 : R.zlt (R.zc 512) (n : Int) = false := zltF (show ¬ (512 : Int) < (n : Int) by omega)
  obtain ⟨m, m1, m2, m3⟩ := firstNot (fun i => Ok L x1 i) n
  obtain ⟨a10, b10⟩ := newLE (t := T) (e := x1) (L := L) (n := n) (m := m) (by omega) m1 m2 m3
  obtain ⟨a12, b12⟩ := mayLE (e := x1) (L := L) (n := n) (m := m) (by omega) m1 m2 m3
  have w26 : WO3_26 R x0 x1 = true := by unfold WO3_26; rw [w25, r25, hLl, hl]; exact a10
  have w27 : WO3_27 R x0 x1 = [.l (mk1 m (wE T x1)), .z 0, .z (m : Int)] := by unfold WO3_27; rw [w25, r25, hLl, hl]; exact b10
  have n27 : nthZ (D := R) [.l (mk1 m (wE T x1)), .z 0, .z (m : Int)] 2 = (m : Int) := rfl
  have r27 : nthL (D := R) [.l (mk1 m (wE T x1)), .z 0, .z (m : Int)] 0 = mk1 m (wE T x1) := rfl
  have w49 : WO3_49 R x0 x1 = true := by unfold WO3_49; rw [w25, r25, hLl, hl]; exact a12
  have w50 : WO3_50 R x0 x1 = [.z 0, .z (m : Int)] := by unfold WO3_50; rw [w25, r25, hLl, hl]; exact b12
  have n50 : nthZ (D := R) [.z 0, .z (m : Int)] 1 = (m : Int) := rfl
  rcases m3 with e | ⟨e, _⟩
  case inr =>
    have z : R.zlt (m : Int) (n : Int) = true := zltT (by omega)
    have w28 : WO3_28 R x0 x1 = true := by unfold WO3_28; rw [w27, n27, hl, z]
    have e51 : WO3_51 R x0 x1 = 2 := by unfold WO3_51; rw [hl, z512, w50, n50, z]; rfl
    have e52 : WO3_52 R x0 x1 = false := by unfold WO3_52; rw [hl, z512, w28]; rfl
    have e53 : WO3_53 R x0 x1 = true := by unfold WO3_53; rw [e51]; rfl
    have e54 : WO3_54 R x0 x1 = false := by unfold WO3_54; rw [e51, e52, e53, hl, z512, w28]; rfl
    exact ends 2 (.inr rfl) e51 e52 e54 (by unfold WO3_62; rw [hl, z512, e54, e53, w26, w28, w49]; rfl)
  subst e
  have z : R.zlt (m : Int) (m : Int) = false := zltF (Int.lt_irrefl _)
  have w28 : WO3_28 R x0 x1 = false := by unfold WO3_28; rw [w27, n27, hl, z]
  have w51 : WO3_51 R x0 x1 = 0 := by unfold WO3_51; rw [hl, z512, w50, n50, z]; rfl
  have w52 : WO3_52 R x0 x1 = true := by unfold WO3_52; rw [hl, z512, w28]; rfl
  have w53 : WO3_53 R x0 x1 = false := by unfold WO3_53; rw [w51]; rfl
  have w54 : WO3_54 R x0 x1 = false := by unfold WO3_54; rw [w51, w52, w53, hl, z512, w28]; rfl
  have w63 : WO3_63 R x0 x1 x2 x3 x4 = false := by unfold WO3_63; rw [F.no, w54, w53]; rfl
  obtain ⟨a13, b13⟩ := weighE (t := T) (e := x1) (L := L) (n := m) (by omega) m2
  have w55 : WO3_55 R x0 x1 = true := by unfold WO3_55; rw [w25, r25, hLl, hl]; exact a13
  have w59 : WO3_59 R x0 x1 = [.l (mk1 m (wE T x1)), .z (m : Int)] := by unfold WO3_59; rw [w25, r25, hLl, hl]; exact b13
  have r59 : nthL (D := R) [.l (mk1 m (wE T x1)), .z (m : Int)] 0 = mk1 m (wE T x1) := rfl
  -- the row of all weights
  obtain ⟨f, hf0⟩ : ∃ f : Vals, f = fun i => if i < m then wE T x1 i else ew := ⟨_, rfl⟩
  obtain ⟨N, hN⟩ : ∃ N : Nat, N = if E = true then m + 1 else m := ⟨_, rfl⟩
  have hN1 : N ≤ 513 := by rw [hN]; split <;> omega
  have hfine : Fine f N := fun i _ => by
    rw [hf0]
    show 0 ≤ (if i < m then wE T x1 i else ew) ∧ (if i < m then wE T x1 i else ew) ≤ 1048576
    split
    · exact wE_fine T x1 (i + 1) i (by omega)
    · exact ⟨F.lo, F.hi⟩
  have w29 := F.is
  have w30 : E = true → WO3_30 R x0 x1 x2 x3 x4 = mk1 N f := fun hE => by
    unfold WO3_30; rw [F.code hE, w27, r27, ext_row, hN, if_pos hE, hf0]
  have w61 : E = true → WO3_61 R x0 x1 x3 = mk1 N f := fun hE => by
    unfold WO3_61; rw [F.ref hE, w59, r59, ext_row, hN, if_pos hE, hf0]
  have flat : E = false → mk1 m (wE T x1) = mk1 N f := fun hE => by rw [hN, if_neg (by rw [hE]; simp), hf0]; exact ext_same
  have w33 : WO3_33 R x0 x1 x2 x3 x4 = mk1 N f := by
    unfold WO3_33; rw [w29]
    cases hE : E with
    | true => exact w30 hE
    | false => rw [w27, r27]; exact flat hE
  have w67 : x4 = true → WO3_67 R x0 x1 x2 x3 = mk1 N f := fun h4 => by
    unfold WO3_67; rw [F.is4 h4]
    cases hE : E with
    | true => exact w61 hE
    | false => rw [w59, r59]; exact flat hE
  have w59' : x4 = false → mk1 m (wE T x1) = mk1 N f := fun h4 => flat (by
    cases hE : E with
    | true => have := F.sky hE; rw [h4] at this; cases this
    | false => rfl)
  obtain ⟨S, hS⟩ : ∃ S : Int, sm f N = S := ⟨_, rfl⟩
  obtain ⟨a2, b2⟩ := chk1 (n := N) (f := f) (by omega) hfine
  obtain ⟨a15, b15⟩ := tot1 (n := N) (f := f) (by omega) hfine
  rw [hS] at b2 b15
  have n2 : nthZ (D := R) [.z 0, .z 0, .z S, .z (N : Int)] 2 = S := rfl
  have n3 : nthZ (D := R) [.z 0, .z 0, .z S, .z (N : Int)] 3 = (N : Int) := rfl
  have z' : R.zlt (N : Int) (N : Int) = false := zltF (Int.lt_irrefl _)
  have w34 : WO3_34 R x0 x1 x2 x3 x4 = R.zlt (R.zc 1024) (N : Int) := by unfold WO3_34; rw [w33, mk1_llen]
  have z1024 : R.zlt (R.zc 1024) (N : Int) = false := zltF (show ¬ (1024 : Int) < (N : Int) by omega)
  have w35 : WO3_35 R x0 x1 x2 x3 x4 = true := by unfold WO3_35; rw [w33, mk1_llen]; exact a2
  have w36 : WO3_36 R x0 x1 x2 x3 x4 = [.z 0, .z 0, .z S, .z (N : Int)] := by unfold WO3_36; rw [w33, mk1_llen]; exact b2
  have w37 : WO3_37 R x0 x1 x2 x3 x4 = R.zlt (N : Int) (N : Int) := by unfold WO3_37; rw [w36, n3, w33, mk1_llen]
  have w38 : WO3_38 R x0 x1 x2 x3 x4 = R.zeq (N : Int) (R.zc 0) := by unfold WO3_38; rw [w33, mk1_llen]
  have w39 : WO3_39 R x0 x1 x2 x3 x4 = R.bite (R.zeq (N : Int) (R.zc 0)) (R.bc true) (R.zeq S (R.zc 0)) := by unfold WO3_39; rw [w38, w36, n2]
  have w40 : WO3_40 R x0 x1 x2 x3 x4 = nilT N S := by unfold WO3_40; rw [w34, w37, w39, w38]; exact flagE (by omega) S
  have w43 : WO3_43 R x0 x1 x2 x3 x4 = S := by unfold WO3_43; rw [w34, w37, w39, w36, n2]; exact totalE (by omega) (fun e => by rw [← hS, e]; rfl)
  have w41 : WO3_41 R x0 x1 x2 x3 x4 = true := by unfold WO3_41; rw [w33, mk1_llen]; exact zleT (show (N : Int) ≤ 1073741824 by omega)
  have w42 : WO3_42 R x0 x1 x2 x3 x4 = true := by unfold WO3_42; rw [w41, w33, mk1_llen, zge0]; rfl
  have w31 : WO3_31 R x0 = (L : Int) := by unfold WO3_31; rw [w25, r25, lsub_all, cat_nil, hLl]
  have w32 : WO3_32 R x1 = (m : Int) := by unfold WO3_32; rw [lsub_all, cat_nil, hl]
  have l31 : R.zle (L : Int) (R.zc 1073741824) = true := zleT (show (L : Int) ≤ 1073741824 by omega)
  have l32 : R.zle (m : Int) (R.zc 1073741824) = true := zleT (show (m : Int) ≤ 1073741824 by omega)
  have lN : R.zle (N : Int) (R.zc 1073741824) = true := zleT (show (N : Int) ≤ 1073741824 by omega)
  -- the table
  have tab : nilT N S = false → ∃ r : List (PD R), WO3_46 R x0 x1 x2 x3 x4 = true ∧ WO3_47 R x0 x1 x2 x3 x4 = r ∧ WO3_48 R x0 x1 x2 x3 x4 = true ∧ ∃ s : St, Inv N S f s ∧ go s = false ∧ WO3_91 R x0 x1 x2 x3 x4 = e2 N s := fun hn' => by
    obtain ⟨r, q1, q2, s, q3, q4, q5, q6⟩ := tabE (n := N) (S := S) (f := f) (by rw [← hS]; rw [← hS] at hn'; exact wts (by omega) hfine hn')
    have w44 : WO3_44 R x0 x1 x2 x3 x4 = R.lrep (N : Int) [.z (R.zc 0), .z (R.zc 0)] := by unfold WO3_44; rw [w33, mk1_llen]
    have w45 : WO3_45 R x0 x1 x2 x3 x4 = R.lrep (N : Int) [.z (R.zc 0)] := by unfold WO3_45; rw [w33, mk1_llen]
    have w46 : WO3_46 R x0 x1 x2 x3 x4 = true := by unfold WO3_46; rw [w33, mk1_llen, w43, w44, w45]; exact q2
    have w47 : WO3_47 R x0 x1 x2 x3 x4 = r := by unfold WO3_47; rw [w33, mk1_llen, w43, w44, w45]; exact q1
    have w48 : WO3_48 R x0 x1 x2 x3 x4 = true := by unfold WO3_48; rw [w43, w33, mk1_llen, w47]; exact q5
    exact ⟨r, w46, w47, w48, s, q3, q4, by unfold WO3_91; rw [w43, w33, mk1_llen, w47]; exact q6⟩
  have w62 : WO3_62 R x0 x1 x2 x3 x4 = true := by
    have t1 : R.bite (R.zeq (L : Int) (R.zc 0)) (R.band (R.zeq (L : Int) (R.zc 0)) (R.zeq (L : Int) (R.zc 0))) (R.bc true) = true := by cases R.zeq (L : Int) (R.zc 0) <;> rfl
    have t2 : R.bite (R.zeq (m : Int) (R.zc 0)) (R.band (R.zeq (m : Int) (R.zc 0)) (R.zeq (m : Int) (R.zc 0))) (R.bc true) = true := by cases R.zeq (m : Int) (R.zc 0) <;> rfl
    have t3 : R.bite (nilT N S) (R.bc true) (R.band true (R.band true (R.band true (R.band (WO3_46 R x0 x1 x2 x3 x4) (WO3_48 R x0 x1 x2 x3 x4))))) = true := by
      cases hn' : nilT N S with
      | true => rfl
      | false =>
        obtain ⟨r, g1, _, g3, _⟩ := tab hn'
        rw [g1, g3]; rfl
    unfold WO3_62
    rw [hl, z512, w26, w28, w49, w54, w53, w55, w31, w32, w25, r25, hLl, l31, l32, t1, t2, w34, z1024, w35, w40, w41, w42, t3, w29]
    cases hE : E with
    | true =>
      have h4 := F.sky hE
      obtain ⟨q1, q2⟩ := F.w hE
      rw [w30 hE, w61 hE, mk1_llen, lN, F.may4 h4, F.is4 h4, F.d1 hE, F.d8 hE, hE, h4, q1, q2]
      cases WO3_15 R x3 <;> rfl
    | false =>
      cases h4 : x4 with
      | true => rw [F.may4 h4, F.is4 h4, hE]; rfl
      | false => rfl
  have w69 : WO3_69 R x0 x1 = true := by unfold WO3_69; rw [hl, z512, w28]; rfl
  have w70 : WO3_70 R x0 x1 = true := by unfold WO3_70; rw [w52, w69]; rfl
  have w71 : WO3_71 R x0 x1 x2 x3 x4 = E := by unfold WO3_71; rw [w52, w29]; rfl
  have w72 : WO3_72 R x0 x1 x2 x3 x4 = true := by unfold WO3_72; rw [w52, w70, w71, w29]; cases E <;> rfl
  have w73 : WO3_73 R x0 x1 x2 x3 x4 = (N : Int) := by
    unfold WO3_73; rw [w71, w52, w32, suc (by omega), hN]
    cases E <;> rfl
  have zN : R.bnot (R.zeq (N : Int) (N : Int)) = false := by rw [zeqT rfl]; rfl
  have w77 : WO3_77 R x0 x1 x2 x3 x4 = nilT N S := by unfold WO3_77; rw [w40]; cases nilT N S <;> rfl
  have w78 : WO3_78 R x0 x1 x2 x3 x4 = R.bnot (nilT N S) := by unfold WO3_78; rw [hl, z512, w28, w40]; cases nilT N S <;> rfl
  have w79 : WO3_79 R x0 x1 x2 x3 x4 = R.bnot (nilT N S) := by unfold WO3_79; rw [w40, w78]; cases nilT N S <;> rfl
  have w80 : WO3_80 R x0 x1 x2 x3 x4 = true := by unfold WO3_80; rw [w77, w79]; cases nilT N S <;> rfl
  have w81 : WO3_81 R x0 x1 x2 x3 x4 = true := by unfold WO3_81; rw [w80]; rfl
  have w82 : WO3_82 R x0 x1 x2 x3 x4 = R.zite (nilT N S) (R.zc 0) (N : Int) := by unfold WO3_82; rw [w77, w33, mk1_llen]
  have w83 : WO3_83 R x0 x1 x2 x3 x4 = R.zmul .i64 (R.zite (nilT N S) (R.zc 0) (N : Int)) (R.zite (nilT N S) (R.zc 0) S) := by unfold WO3_83; rw [w82, w77, w43]
  have w84 : WO3_84 R x0 x1 x2 x3 x4 x5 = R.fmul (clean x5) (R.i2f (WO3_83 R x0 x1 x2 x3 x4)) := rfl
  have w85 : WO3_85 R x0 x1 x2 x3 x4 x5 = numOf x5 (WO3_83 R x0 x1 x2 x3 x4) := rfl
  -- what both rows of the reference come to
  have n74 : nthZ (D := R) [.z 0, .z S, .z (N : Int)] 2 = (N : Int) := rfl
  have n75 : nthZ (D := R) [.z 0, .z S, .z (N : Int)] 1 = S := rfl
  have fl := flE N S
  have w68 : x4 = true → WO3_68 R x0 x1 x2 x3 = true := fun h4 => by unfold WO3_68; rw [w67 h4, mk1_llen]; exact a15
  have w74 : x4 = true → WO3_74 R x0 x1 x2 x3 = [.z 0, .z S, .z (N : Int)] := fun h4 => by unfold WO3_74; rw [w67 h4, mk1_llen]; exact b15
  have w75 : x4 = true → WO3_75 R x0 x1 x2 x3 = S := fun h4 => by unfold WO3_75; rw [w74 h4, n74, n75, w67 h4, mk1_llen, z']; rfl
  have w76 : x4 = true → WO3_76 R x0 x1 x2 x3 = nilT N S := fun h4 => by unfold WO3_76; rw [w67 h4, mk1_llen, w75 h4]; exact fl
  have w104 : x4 = false → WO3_104 R x0 x1 = true := fun h4 => by unfold WO3_104; rw [w59, r59, w59' h4, mk1_llen]; exact a15
  have w105 : x4 = false → WO3_105 R x0 x1 = [.z 0, .z S, .z (N : Int)] := fun h4 => by unfold WO3_105; rw [w59, r59, w59' h4, mk1_llen]; exact b15
  have w106 : x4 = false → WO3_106 R x0 x1 = S := fun h4 => by unfold WO3_106; rw [w105 h4, n74, n75, w59, r59, w59' h4, mk1_llen, z']; rfl
  have w107 : x4 = false → WO3_107 R x0 x1 = nilT N S := fun h4 => by unfold WO3_107; rw [w59, r59, w59' h4, mk1_llen, w106 h4]; exact fl
  -- the code's names are the page's
  have s15 : WS3_0_15 R x0 x1 x2 x3 x4 = false := w63
  have s6 : WS3_0_6 R x2 x3 x4 = false := F.no
  have s14 : WS3_0_14 R x0 x1 = false := w54
  have s13 : WS3_0_13 R x0 x1 = false := w53
  have s12 : WS3_0_12 R x0 x1 = true := w52
  have s19 : WS3_0_19 R x0 x1 x2 x3 x4 = (N : Int) := w73
  have s20 : WS3_0_20 R x0 x1 = [.l (mk1 m (wE T x1)), .z (m : Int)] := w59
  have s23 : x4 = true → WS3_0_23 R x0 x1 x2 x3 = mk1 N f := w67
  have s25 : x4 = true → WS3_0_25 R x0 x1 x2 x3 = S := w75
  have s54 : x4 = false → WS3_0_54 R x0 x1 = S := w106
  have s39 : WS3_0_39 R x0 x1 x2 x3 x4 = R.zite (nilT N S) (R.zc 0) (N : Int) := w82
  cases hn' : nilT N S with
  | true =>
    have m0 : R.zmul .i64 (R.zite true (R.zc 0) (N : Int)) (R.zite true (R.zc 0) S) = R.zc 0 := rfl
    rw [hn'] at w77 w78 w79 w82 w83 w76 w107 s39 fl
    rw [m0] at w83
    rw [w83] at w84 w85
    have neg : numOf x5 (R.zc 0) < 0 := by
      have key : ∀ t : Int, (if (-1 : Int) < t then (-1 : Int) else t) < 0 := fun t => by split <;> omega
      exact key _
    have w86 : WO3_86 R x0 x1 x2 x3 x4 x5 = true := by unfold WO3_86; rw [w85]; exact zltT neg
    have w87 : WO3_87 R x0 x1 x2 x3 x4 x5 = true := by unfold WO3_87; rw [w86]; rfl
    have w93 : WO3_93 R x0 x1 x2 x3 x4 x5 = true := by unfold WO3_93; rw [w52, w69, w81, w84, none_ok, w86, w87]; rfl
    have w94 : WO3_94 R x0 x1 x2 x3 x4 x5 = R.zc (-1) := by unfold WO3_94; rw [w52, w87]; rfl
    have w96 : WO3_96 R x0 x1 x2 x3 x4 x5 = true := by unfold WO3_96; rw [ow, sw, w93, w94, w52, w69, w80, w82]; rfl
    have s46 : WS3_0_46 R x0 x1 x2 x3 x4 x5 = R.zc (-1) := w94
    have s47 : WS3_0_47 R x0 x1 x2 x3 x4 x5 = true := by
      unfold WS3_0_47; rw [sw, s46, s12, s39]
      show R.bite true (R.feq (R.fc 0) (R.fc 0)) (R.bc false) = true
      rw [feq00]; rfl
    constructor
    · unfold O3
      rw [hl, z600, w0, F.may, F.new, F.no, w62, w63]
      show WO3_112 R x0 x1 x2 x3 x4 x5 x6 = true
      unfold WO3_112
      rw [w63, F.no, w54, w53]
      cases h4 : x4 with
      | true =>
        have := w68 h4; have := w72; have := w73; have := w76 h4; have := w67 h4; have := w96
        subst h4
        rw [w68 rfl, w72, w73, w67 rfl, mk1_llen, zN, w76 rfl, w96]; rfl
      | false =>
        subst h4
        rw [w104 rfl, w72, w73, w59, r59, w59' rfl, mk1_llen, zN, w107 rfl, w96]; rfl
    · unfold S3_0
      rw [hl, z600, s15]
      show WS3_0_56 R x0 x1 x2 x3 x4 x5 x6 = true
      unfold WS3_0_56
      rw [s15, s6, s14, s13, s19]
      cases h4 : x4 with
      | true => subst h4; rw [s23 rfl, mk1_llen, zN, s25 rfl, fl, s47]; rfl
      | false => subst h4; rw [s20, r59, w59' rfl, mk1_llen, zN, s54 rfl, fl, s47]; rfl
  | false =>
    obtain ⟨r, g1, g2, g3, s, v, hg, w91⟩ := tab hn'
    have hW : Wts N S f := by rw [← hS]; rw [← hS] at hn'; exact wts (by omega) hfine hn'
    have htop := hW.top
    have hpos := hW.pos
    have hM := cap htop (by omega) (show N ≤ 1024 by omega)
    obtain ⟨M, hMe⟩ : ∃ M : Nat, (N : Int) * S = (M : Int) := ⟨((N : Int) * S).toNat, by have : 0 ≤ (N : Int) * S := Int.mul_nonneg (by omega) (by omega); omega⟩
    have hM1 : 1 ≤ M := by
      have h1 := hW.n1
      have : 1 * 1 ≤ (N : Int) * S := Int.mul_le_mul (by omega) (by omega) (by omega) (by omega)
      omega
    have mM : R.zmul .i64 (R.zite false (R.zc 0) (N : Int)) (R.zite false (R.zc 0) S) = (M : Int) := by
      show R.zmul .i64 (N : Int) S = _
      rw [← hMe]; exact zmul64 ⟨by omega, by omega⟩
    rw [hn'] at w77 w78 w79 w82 w83 w76 w107 s39 fl
    rw [mM] at w83
    rw [w83] at w84 w85
    obtain ⟨o1, o2, o3⟩ := numOf_ok x5 hM1 (show M ≤ 1099511627776 by omega)
    generalize hu : numOf x5 (M : Int) = u at *
    obtain ⟨⟨i, i1, i2⟩, ⟨j, j1, j2, j3⟩⟩ := meant_ok hW v hg o2 (by rw [hMe]; exact o3)
    have zb : R.bnot false = true := rfl
    rw [zb] at w78 w79
    have w86 : WO3_86 R x0 x1 x2 x3 x4 x5 = false := by unfold WO3_86; rw [w85]; exact zltF (show ¬ u < 0 by omega)
    have w87 : WO3_87 R x0 x1 x2 x3 x4 x5 = false := by unfold WO3_87; rw [w86, w83, w85]; exact zleF (show ¬ (M : Int) ≤ u by omega)
    have w88 : WO3_88 R x0 x1 x2 x3 x4 = true := by unfold WO3_88; rw [w43, zeqF (show S ≠ R.zc 0 from show S ≠ 0 by omega)]; rfl
    have w89 : WO3_89 R x0 x1 x2 x3 x4 x5 = (i : Int) := by unfold WO3_89; rw [w85, w43]; exact i1
    have w90 : WO3_90 R x0 x1 x2 x3 x4 x5 = true := by unfold WO3_90; rw [w89, w33, mk1_llen, zge0, zltT (show (i : Int) < (N : Int) by omega)]; rfl
    have r91 : nthL (e2 N s) 3 = mk2 N s.T s.A := rfl
    have w93 : WO3_93 R x0 x1 x2 x3 x4 x5 = true := by
      unfold WO3_93; rw [w52, w69, w81, w84, o1, w86, w87, w40, hn', w78, w88, w90]
      cases WO3_92 R x0 x1 x2 x3 x4 x5 <;> rfl
    have w94 : WO3_94 R x0 x1 x2 x3 x4 x5 = (j : Int) := by
      have : R.zite (WO3_92 R x0 x1 x2 x3 x4 x5) (WO3_89 R x0 x1 x2 x3 x4 x5) (R.lz (nthL (WO3_91 R x0 x1 x2 x3 x4) 3) (WO3_89 R x0 x1 x2 x3 x4 x5) 1) = (j : Int) := by
        unfold WO3_92; rw [w91, r91, w89, w85, w43, ← j1]; unfold meant; rw [i1]
      unfold WO3_94; rw [w52, w87, this]; rfl
    have w95 : WO3_95 R x0 x1 x2 x3 x4 = true := by unfold WO3_95; rw [w78, w79]; rfl
    obtain ⟨a17, b17⟩ := chanceE (n := N) (by omega) (S := S) (w := mk1 N f) (fun k hk => by
      rw [mk1_at f hk]
      exact frac_self (hfine k hk).1 (by rw [← hS]; exact sm_ge (fun q hq => (hfine q hq).1) k hk) hpos htop)
    have n17 : nthZ (D := R) [.b false, .z (N : Int)] 1 = (N : Int) := rfl
    have w99 : WO3_99 R x0 x1 x2 x3 x4 x5 = true := by unfold WO3_99; rw [w94]; exact zge0 j
    have w100 : WO3_100 R x0 x1 x2 x3 x4 x5 = true := by unfold WO3_100; rw [sw, w99]; rfl
    have zj : R.zlt (j : Int) (N : Int) = true := zltT (by omega)
    have zw : R.zlt (R.zc 0) (R.lz (mk1 N f) (j : Int) 0) = true := by rw [mk1_at f j2]; exact zltT (show (0 : Int) < f j from j3)
    have w103 : WO3_103 R x0 x1 x2 x3 x4 x6 = true := by
      unfold WO3_103; rw [w52, w69, w80, w82, w40, hn', w78, w33, mk1_llen, w95]
      show R.bite false (R.bc true) (R.band true (R.band true (R.band (R.bite (R.zle (R.zc 0) x6) true (R.bc true)) (R.bite (R.bnot (R.bite (R.zle (R.zc 0) x6) (R.zlt x6 (N : Int)) (R.bc false))) (R.bc true) (R.band (R.bnot false) (R.band true (R.band (R.band (R.zle (R.zc 0) x6) (R.zlt x6 (N : Int))) true))))))) = true
      cases R.zle (R.zc 0) x6 <;> cases R.zlt x6 (N : Int) <;> rfl
    have last : R.bite (R.zle (R.zc 0) x6) (R.bite (R.zlt x6 (N : Int)) (R.bc true) true) true = true := by cases R.zle (R.zc 0) x6 <;> cases R.zlt x6 (N : Int) <;> rfl
    have s46 : WS3_0_46 R x0 x1 x2 x3 x4 x5 = (j : Int) := w94
    have s51 : WS3_0_51 R x0 x1 x2 x3 x4 x5 = true := w100
    have s52 : R.bite (R.zle (R.zc 0) x6) (R.bite (R.zlt x6 (N : Int)) (R.bc true) (WS3_0_52 R x0 x1 x2 x3 x4 x6)) (WS3_0_52 R x0 x1 x2 x3 x4 x6) = true := by
      unfold WS3_0_52; rw [s12, s39]
      show R.bite (R.zle (R.zc 0) x6) (R.bite (R.zlt x6 (N : Int)) (R.bc true) (R.feq (R.fite (R.bnot true) (R.fc 0) (R.fite (R.bnot (R.bite (R.zle (R.zc 0) x6) (R.zlt x6 (N : Int)) (R.bc false))) (R.fc 0) _)) (R.fc 0))) (R.feq (R.fite (R.bnot true) (R.fc 0) (R.fite (R.bnot (R.bite (R.zle (R.zc 0) x6) (R.zlt x6 (N : Int)) (R.bc false))) (R.fc 0) _)) (R.fc 0)) = true
      cases R.zle (R.zc 0) x6 with
      | false => exact feq00
      | true =>
        cases R.zlt x6 (N : Int) with
        | true => rfl
        | false => exact feq00
    constructor
    · unfold O3
      rw [hl, z600, w0, F.may, F.new, F.no, w62, w63]
      show WO3_112 R x0 x1 x2 x3 x4 x5 x6 = true
      unfold WO3_112
      rw [w63, F.no, w54, w53]
      cases h4 : x4 with
      | true =>
        subst h4
        have w97 : WO3_97 R x0 x1 x2 x3 true = true := by unfold WO3_97; rw [w52, w67 rfl, mk1_llen, w75 rfl, w69, w40, hn', w78, w33, mk1_llen, w43]; exact a17
        have w98 : WO3_98 R x0 x1 x2 x3 true = [.b false, .z (N : Int)] := by unfold WO3_98; rw [w52, w67 rfl, mk1_llen, w75 rfl, w69, w40, hn', w78, w33, mk1_llen, w43]; exact b17
        have w101 : WO3_101 R x0 x1 x2 x3 true x5 = true := by unfold WO3_101; rw [w94, w67 rfl, mk1_llen, zj]
        have w102 : WO3_102 R x0 x1 x2 x3 true x5 = true := by unfold WO3_102; rw [w100, w101]; rfl
        rw [w68 rfl, w72, w73, w67 rfl, mk1_llen, zN, w76 rfl, w97, w98, n17, z', w93, ow, w102, w99, w101, w94, zw, w103, last]; rfl
      | false =>
        subst h4
        have w108 : WO3_108 R x0 x1 x2 x3 false = true := by unfold WO3_108; rw [w52, w59, r59, w59' rfl, mk1_llen, w106 rfl, w69, w40, hn', w78, w33, mk1_llen, w43]; exact a17
        have w109 : WO3_109 R x0 x1 x2 x3 false = [.b false, .z (N : Int)] := by unfold WO3_109; rw [w52, w59, r59, w59' rfl, mk1_llen, w106 rfl, w69, w40, hn', w78, w33, mk1_llen, w43]; exact b17
        have w110 : WO3_110 R x0 x1 x2 x3 false x5 = true := by unfold WO3_110; rw [w94, w59, r59, w59' rfl, mk1_llen, zj]
        have w111 : WO3_111 R x0 x1 x2 x3 false x5 = true := by unfold WO3_111; rw [w100, w110]; rfl
        rw [w104 rfl, w72, w73, w59, r59, w59' rfl, mk1_llen, zN, w107 rfl, w108, w109, n17, z', w93, ow, w111, w99, w110, w94, zw, w103, last]; rfl
    · unfold S3_0
      rw [hl, z600, s15]
      show WS3_0_56 R x0 x1 x2 x3 x4 x5 x6 = true
      unfold WS3_0_56
      rw [s15, s6, s14, s13, s19]
      cases h4 : x4 with
      | true =>
        subst h4
        have s50 : WS3_0_50 R x0 x1 x2 x3 true = [.b false, .z (N : Int)] := by
          unfold WS3_0_50; rw [s12, s23 rfl, mk1_llen, s25 rfl, show WS3_0_48 R x0 x1 = true from w69, show WS3_0_37 R x0 x1 x2 x3 true = false from w40.trans hn', show WS3_0_49 R x0 x1 x2 x3 true = true from w78, show WS3_0_31 R x0 x1 x2 x3 true = mk1 N f from w33, mk1_llen, show WS3_0_40 R x0 x1 x2 x3 true = S from w43]; exact b17
        rw [s23 rfl, mk1_llen, zN, s25 rfl, fl, s50, n17, z', s51, s46, zj, zw, s52]; rfl
      | false =>
        subst h4
        have s55 : WS3_0_55 R x0 x1 x2 x3 false = [.b false, .z (N : Int)] := by
          unfold WS3_0_55; rw [s12, s20, r59, w59' rfl, mk1_llen, s54 rfl, show WS3_0_48 R x0 x1 = true from w69, show WS3_0_37 R x0 x1 x2 x3 false = false from w40.trans hn', show WS3_0_49 R x0 x1 x2 x3 false = true from w78, show WS3_0_31 R x0 x1 x2 x3 false = mk1 N f from w33, mk1_llen, show WS3_0_40 R x0 x1 x2 x3 false = S from w43]; exact b17
        rw [s20, r59, w59' rfl, mk1_llen, zN, s54 rfl, fl, s55, n17, z', s51, s46, zj, zw, s52]; rfl

end Go.Proofs.Ytachcmfgjjoimaa
