/- How lights are built. -/
import Derived.Test.YtachcmfgjjoimaaPuLightMakes
namespace Go.Proofs.Ytachcmfgjjoimaa
open Go.Ev

/-- Lights that could not be made. -/
structure NoB (x0 x1 : Row) (x2 : Int) (x3 : Row) (x4 : Bool) (k : Int) : Prop where
  k42 : k = 4 ∨ k = 2
  w51 : WO3_51 R x0 x1 = k
  w52 : WO3_52 R x0 x1 = false
  w53 : WO3_53 R x0 x1 = true
  w54 : WO3_54 R x0 x1 = false
  w62 : WO3_62 R x0 x1 x2 x3 x4 = true
  w63 : WO3_63 R x0 x1 x2 x3 x4 = true
  w64 : WO3_64 R x0 x1 x2 x3 x4 = k
  w65 : WO3_65 R x0 x1 x2 x3 x4 = true
  z8 : R.zeq k (R.zc 8) = false
  z0 : R.bnot (R.zeq k (R.zc 0)) = true

/-- Lights that were made. -/
structure Bld (x0 x1 : Row) (x2 : Int) (x3 : Row) (x4 : Bool) (E : Bool) (n L : Nat) (T : Row) (N : Nat) (f : Vals) (S : Int) : Prop where
  len : R.llen x1 = (n : Int)
  n512 : n ≤ 512
  z512 : R.zlt (R.zc 512) (n : Int) = false
  few : T = fewT x0 (lim x0)
  lenT : R.llen T = (L : Int)
  l20 : L ≤ 20
  ok : ∀ i, i < n → Ok L x1 i
  w25 : WO3_25 R x0 = [.l T, .z (lim x0 : Int)]
  w28 : WO3_28 R x0 x1 = false
  w31 : WO3_31 R x0 = (L : Int)
  w32 : WO3_32 R x1 = (n : Int)
  w33 : WO3_33 R x0 x1 x2 x3 x4 = mk1 N f
  w40 : WO3_40 R x0 x1 x2 x3 x4 = nilT N S
  w43 : WO3_43 R x0 x1 x2 x3 x4 = S
  w51 : WO3_51 R x0 x1 = 0
  w52 : WO3_52 R x0 x1 = true
  w53 : WO3_53 R x0 x1 = false
  w54 : WO3_54 R x0 x1 = false
  w59 : WO3_59 R x0 x1 = [.l (mk1 n (wE T x1)), .z (n : Int)]
  w62 : WO3_62 R x0 x1 x2 x3 x4 = true
  w63 : WO3_63 R x0 x1 x2 x3 x4 = false
  w67 : x4 = true → WO3_67 R x0 x1 x2 x3 = mk1 N f
  flat : x4 = false → mk1 n (wE T x1) = mk1 N f
  hN : N = if E = true then n + 1 else n
  fi : ∀ i, i < n → f i = wE T x1 i
  fine : Fine f N
  sum : sm f N = S
  a15 : E15 R (N : Int) (mk1 N f) (R.zc 0) (R.zc 0) (R.zc 0) = true
  b15 : L15 R (N : Int) (mk1 N f) (R.zc 0) (R.zc 0) (R.zc 0) = [.z 0, .z S, .z (N : Int)]

theorem buildE (x0 x1 : Row) (x2 : Int) (x3 : Row) (x4 : Bool) : WO3_0 R x0 = true ∧ ∃ E ew, EnvF x2 x3 x4 E ew ∧ ((∃ k, NoB x0 x1 x2 x3 x4 k) ∨ ∃ n L T N f S, Bld x0 x1 x2 x3 x4 E n L T N f S) := by
  obtain ⟨n, hn⟩ : ∃ n : Nat, x1.length = n := ⟨_, rfl⟩
  have hl : R.llen x1 = (n : Int) := by show ((x1.length : Nat) : Int) = _; rw [hn]
  obtain ⟨E, ew, F⟩ := envE x2 x3 x4
  obtain ⟨a6, b6⟩ := fewE x0
  have hTl := fewT_len x0 (lim x0)
  have hlim := (lim_le x0).1
  generalize hfew : fewT x0 (lim x0) = T at *
  obtain ⟨L, hL⟩ : ∃ L : Nat, T.length = L := ⟨_, rfl⟩
  have hLl : R.llen T = (L : Int) := by show ((T.length : Nat) : Int) = _; rw [hL]
  have w25 : WO3_25 R x0 = [.l T, .z (lim x0 : Int)] := b6
  have r25 : nthL (D := R) [.l T, .z (lim x0 : Int)] 0 = T := rfl
  have w0 : WO3_0 R x0 = true := a6
  refine ⟨w0, E, ew, F, ?_⟩
  have ends : ∀ k : Int, (k = 4 ∨ k = 2) → WO3_51 R x0 x1 = k → WO3_52 R x0 x1 = false → WO3_54 R x0 x1 = false → WO3_62 R x0 x1 x2 x3 x4 = true → NoB x0 x1 x2 x3 x4 k := by
    intro k hk e51 e52 e54 e62
    have e53 : WO3_53 R x0 x1 = true := by
      unfold WO3_53; rw [e51]
      rcases hk with rfl | rfl <;> rfl
    have e63 : WO3_63 R x0 x1 x2 x3 x4 = true := by unfold WO3_63; rw [F.no, e54, e53]; rfl
    have e64 : WO3_64 R x0 x1 x2 x3 x4 = k := by unfold WO3_64; rw [F.no, e54, e51]; rfl
    have e65 : WO3_65 R x0 x1 x2 x3 x4 = true := by
      unfold WO3_65; rw [e64]
      rcases hk with rfl | rfl <;> rfl
    exact ⟨hk, e51, e52, e53, e54, e62, e63, e64, e65, by rcases hk with rfl | rfl <;> rfl, by rcases hk with rfl | rfl <;> rfl⟩
  by_cases h512 : 512 < n
  · have z512 : R.zlt (R.zc 512) (n : Int) = true := zltT (show (512 : Int) < (n : Int) by omega)
    have e51 : WO3_51 R x0 x1 = 4 := by unfold WO3_51; rw [hl, z512]; rfl
    have e52 : WO3_52 R x0 x1 = false := by unfold WO3_52; rw [hl, z512]; rfl
    have e53 : WO3_53 R x0 x1 = true := by unfold WO3_53; rw [e51]; rfl
    have e54 : WO3_54 R x0 x1 = false := by unfold WO3_54; rw [e51, e52, e53, hl, z512]; rfl
    exact .inl ⟨4, ends 4 (.inl rfl) e51 e52 e54 (by unfold WO3_62; rw [hl, z512, e54, e53]; rfl)⟩
  have z512 : R.zlt (R.zc 512) (n : Int) = false := zltF (show ¬ (512 : Int) < (n : Int) by omega)
  obtain ⟨m, m1, m2, m3⟩ := firstNot (fun i => Ok L x1 i) n
  obtain ⟨a10, b10⟩ := newLE (t := T) (e := x1) (L := L) (n := n) (m := m) (by omega) m1 m2 m3
  obtain ⟨a12, b12⟩ := mayLE (e := x1) (L := L) (n := n) (m := m) (by omega) m1 m2 m3
  have w26 : WO3_26 R x0 x1 = true := by unfold WO3_26; rw [w25, r25, hLl, hl]; exact a10
  have w27 : WO3_27 R x0 x1 = [.l (mk1 m (wE T x1)), .z 0, .z (m : Int)] := by unfold WO3_27; rw [w25, r25, hLl, hl]; exact b10
  have n27 : nthZ (D := R) [.l (mk1 m (wE T x1)), .z 0, .z (m : Int)] 2 = (m : Int) := rfl
  have r27 : nthL (D := R) [.l (mk1 m (wE T x1)), .z 0, .z (m : Int)] 0 = mk1 m (wE T x1) := rfl
  have w49 : WO3_49 R x0 x1 = true := by unfold WO3_49; rw [w25, r25, hLl, hl]; exact a12
  have w50 : WO3_50 R x0 x1 = [.z 0, .z (m : Int)] := by unfold WO3_50; rw [w25, r25, hLl, hl]; exact b12
  have n50 : nthZ (D := R) [.z 0, .z (m : Int)] 1 = (m : Int) := rfl
  rcases m3 with e | ⟨e, _⟩
  case inr =>
    have z : R.zlt (m : Int) (n : Int) = true := zltT (by omega)
    have w28 : WO3_28 R x0 x1 = true := by unfold WO3_28; rw [w27, n27, hl, z]
    have e51 : WO3_51 R x0 x1 = 2 := by unfold WO3_51; rw [hl, z512, w50, n50, z]; rfl
    have e52 : WO3_52 R x0 x1 = false := by unfold WO3_52; rw [hl, z512, w28]; rfl
    have e53 : WO3_53 R x0 x1 = true := by unfold WO3_53; rw [e51]; rfl
    have e54 : WO3_54 R x0 x1 = false := by unfold WO3_54; rw [e51, e52, e53, hl, z512, w28]; rfl
    exact .inl ⟨2, ends 2 (.inr rfl) e51 e52 e54 (by unfold WO3_62; rw [hl, z512, e54, e53, w26, w28, w49]; rfl)⟩
  subst e
  have z : R.zlt (m : Int) (m : Int) = false := zltF (Int.lt_irrefl _)
  have w28 : WO3_28 R x0 x1 = false := by unfold WO3_28; rw [w27, n27, hl, z]
  have w51 : WO3_51 R x0 x1 = 0 := by unfold WO3_51; rw [hl, z512, w50, n50, z]; rfl
  have w52 : WO3_52 R x0 x1 = true := by unfold WO3_52; rw [hl, z512, w28]; rfl
  have w53 : WO3_53 R x0 x1 = false := by unfold WO3_53; rw [w51]; rfl
  have w54 : WO3_54 R x0 x1 = false := by unfold WO3_54; rw [w51, w52, w53, hl, z512, w28]; rfl
  have w63 : WO3_63 R x0 x1 x2 x3 x4 = false := by unfold WO3_63; rw [F.no, w54, w53]; rfl
  obtain ⟨a13, b13⟩ := weighE (t := T) (e := x1) (L := L) (n := m) (by omega) m2
  have w55 : WO3_55 R x0 x1 = true := by unfold WO3_55; rw [w25, r25, hLl, hl]; exact a13
  have w59 : WO3_59 R x0 x1 = [.l (mk1 m (wE T x1)), .z (m : Int)] := by unfold WO3_59; rw [w25, r25, hLl, hl]; exact b13
  have r59 : nthL (D := R) [.l (mk1 m (wE T x1)), .z (m : Int)] 0 = mk1 m (wE T x1) := rfl
  -- the row of all weights
  obtain ⟨f, hf0⟩ : ∃ f : Vals, f = fun i => if i < m then wE T x1 i else ew := ⟨_, rfl⟩
  obtain ⟨N, hN⟩ : ∃ N : Nat, N = if E = true then m + 1 else m := ⟨_, rfl⟩
  have hN1 : N ≤ 513 := by rw [hN]; split <;> omega
  have hfine : Fine f N := fun i _ => by
    rw [hf0]
    show 0 ≤ (if i < m then wE T x1 i else ew) ∧ (if i < m then wE T x1 i else ew) ≤ 1048576
    split
    · exact wE_fine T x1 (i + 1) i (by omega)
    · exact ⟨F.lo, F.hi⟩
  have w29 := F.is
  have w30 : E = true → WO3_30 R x0 x1 x2 x3 x4 = mk1 N f := fun hE => by
    unfold WO3_30; rw [F.code hE, w27, r27, ext_row, hN, if_pos hE, hf0]
  have w61 : E = true → WO3_61 R x0 x1 x3 = mk1 N f := fun hE => by
    unfold WO3_61; rw [F.ref hE, w59, r59, ext_row, hN, if_pos hE, hf0]
  have flat : E = false → mk1 m (wE T x1) = mk1 N f := fun hE => by rw [hN, if_neg (by rw [hE]; simp), hf0]; exact ext_same
  have w33 : WO3_33 R x0 x1 x2 x3 x4 = mk1 N f := by
    unfold WO3_33; rw [w29]
    cases hE : E with
    | true => exact w30 hE
    | false => rw [w27, r27]; exact flat hE
  have w67 : x4 = true → WO3_67 R x0 x1 x2 x3 = mk1 N f := fun h4 => by
    unfold WO3_67; rw [F.is4 h4]
    cases hE : E with
    | true => exact w61 hE
    | false => rw [w59, r59]; exact flat hE
  have w59' : x4 = false → mk1 m (wE T x1) = mk1 N f := fun h4 => flat (by
    cases hE : E with
    | true => have := F.sky hE; rw [h4] at this; cases this
    | false => rfl)
  obtain ⟨S, hS⟩ : ∃ S : Int, sm f N = S := ⟨_, rfl⟩
  obtain ⟨a2, b2⟩ := chk1 (n := N) (f := f) (by omega) hfine
  obtain ⟨a15, b15⟩ := tot1 (n := N) (f := f) (by omega) hfine
  rw [hS] at b2 b15
  have n2 : nthZ (D := R) [.z 0, .z 0, .z S, .z (N : Int)] 2 = S := rfl
  have n3 : nthZ (D := R) [.z 0, .z 0, .z S, .z (N : Int)] 3 = (N : Int) := rfl
  have z' : R.zlt (N : Int) (N : Int) = false := zltF (Int.lt_irrefl _)
  have w34 : WO3_34 R x0 x1 x2 x3 x4 = R.zlt (R.zc 1024) (N : Int) := by unfold WO3_34; rw [w33, mk1_llen]
  have z1024 : R.zlt (R.zc 1024) (N : Int) = false := zltF (show ¬ (1024 : Int) < (N : Int) by omega)
  have w35 : WO3_35 R x0 x1 x2 x3 x4 = true := by unfold WO3_35; rw [w33, mk1_llen]; exact a2
  have w36 : WO3_36 R x0 x1 x2 x3 x4 = [.z 0, .z 0, .z S, .z (N : Int)] := by unfold WO3_36; rw [w33, mk1_llen]; exact b2
  have w37 : WO3_37 R x0 x1 x2 x3 x4 = R.zlt (N : Int) (N : Int) := by unfold WO3_37; rw [w36, n3, w33, mk1_llen]
  have w38 : WO3_38 R x0 x1 x2 x3 x4 = R.zeq (N : Int) (R.zc 0) := by unfold WO3_38; rw [w33, mk1_llen]
  have w39 : WO3_39 R x0 x1 x2 x3 x4 = R.bite (R.zeq (N : Int) (R.zc 0)) (R.bc true) (R.zeq S (R.zc 0)) := by unfold WO3_39; rw [w38, w36, n2]
  have w40 : WO3_40 R x0 x1 x2 x3 x4 = nilT N S := by unfold WO3_40; rw [w34, w37, w39, w38]; exact flagE (by omega) S
  have w43 : WO3_43 R x0 x1 x2 x3 x4 = S := by unfold WO3_43; rw [w34, w37, w39, w36, n2]; exact totalE (by omega) (fun e => by rw [← hS, e]; rfl)
  have w41 : WO3_41 R x0 x1 x2 x3 x4 = true := by unfold WO3_41; rw [w33, mk1_llen]; exact zleT (show (N : Int) ≤ 1073741824 by omega)
  have w42 : WO3_42 R x0 x1 x2 x3 x4 = true := by unfold WO3_42; rw [w41, w33, mk1_llen, zge0]; rfl
  have w31 : WO3_31 R x0 = (L : Int) := by unfold WO3_31; rw [w25, r25, lsub_all, cat_nil, hLl]
  have w32 : WO3_32 R x1 = (m : Int) := by unfold WO3_32; rw [lsub_all, cat_nil, hl]
  have l31 : R.zle (L : Int) (R.zc 1073741824) = true := zleT (show (L : Int) ≤ 1073741824 by omega)
  have l32 : R.zle (m : Int) (R.zc 1073741824) = true := zleT (show (m : Int) ≤ 1073741824 by omega)
  have lN : R.zle (N : Int) (R.zc 1073741824) = true := zleT (show (N : Int) ≤ 1073741824 by omega)
  -- the table
  have tab : nilT N S = false → ∃ r : List (PD R), WO3_46 R x0 x1 x2 x3 x4 = true ∧ WO3_47 R x0 x1 x2 x3 x4 = r ∧ WO3_48 R x0 x1 x2 x3 x4 = true ∧ ∃ s : St, Inv N S f s ∧ go s = false ∧ WO3_91 R x0 x1 x2 x3 x4 = e2 N s := fun hn' => by
    obtain ⟨r, q1, q2, s, q3, q4, q5, q6⟩ := tabE (n := N) (S := S) (f := f) (by rw [← hS]; rw [← hS] at hn'; exact wts (by omega) hfine hn')
    have w44 : WO3_44 R x0 x1 x2 x3 x4 = R.lrep (N : Int) [.z (R.zc 0), .z (R.zc 0)] := by unfold WO3_44; rw [w33, mk1_llen]
    have w45 : WO3_45 R x0 x1 x2 x3 x4 = R.lrep (N : Int) [.z (R.zc 0)] := by unfold WO3_45; rw [w33, mk1_llen]
    have w46 : WO3_46 R x0 x1 x2 x3 x4 = true := by unfold WO3_46; rw [w33, mk1_llen, w43, w44, w45]; exact q2
    have w47 : WO3_47 R x0 x1 x2 x3 x4 = r := by unfold WO3_47; rw [w33, mk1_llen, w43, w44, w45]; exact q1
    have w48 : WO3_48 R x0 x1 x2 x3 x4 = true := by unfold WO3_48; rw [w43, w33, mk1_llen, w47]; exact q5
    exact ⟨r, w46, w47, w48, s, q3, q4, by unfold WO3_91; rw [w43, w33, mk1_llen, w47]; exact q6⟩
  have w62 : WO3_62 R x0 x1 x2 x3 x4 = true := by
    have t1 : R.bite (R.zeq (L : Int) (R.zc 0)) (R.band (R.zeq (L : Int) (R.zc 0)) (R.zeq (L : Int) (R.zc 0))) (R.bc true) = true := by cases R.zeq (L : Int) (R.zc 0) <;> rfl
    have t2 : R.bite (R.zeq (m : Int) (R.zc 0)) (R.band (R.zeq (m : Int) (R.zc 0)) (R.zeq (m : Int) (R.zc 0))) (R.bc true) = true := by cases R.zeq (m : Int) (R.zc 0) <;> rfl
    have t3 : R.bite (nilT N S) (R.bc true) (R.band true (R.band true (R.band true (R.band (WO3_46 R x0 x1 x2 x3 x4) (WO3_48 R x0 x1 x2 x3 x4))))) = true := by
      cases hn' : nilT N S with
      | true => rfl
      | false =>
        obtain ⟨r, g1, _, g3, _⟩ := tab hn'
        rw [g1, g3]; rfl
    unfold WO3_62
    rw [hl, z512, w26, w28, w49, w54, w53, w55, w31, w32, w25, r25, hLl, l31, l32, t1, t2, w34, z1024, w35, w40, w41, w42, t3, w29]
    cases hE : E with
    | true =>
      have h4 := F.sky hE
      obtain ⟨q1, q2⟩ := F.w hE
      rw [w30 hE, w61 hE, mk1_llen, lN, F.may4 h4, F.is4 h4, F.d1 hE, F.d8 hE, hE, h4, q1, q2]
      cases WO3_15 R x3 <;> rfl
    | false =>
      cases h4 : x4 with
      | true => rw [F.may4 h4, F.is4 h4, hE]; rfl
      | false => rfl
  refine .inr ⟨m, L, T, N, f, S, ?_⟩
  exact { len := hl, n512 := by omega, z512 := z512, few := hfew.symm, lenT := hLl, l20 := by omega, ok := m2, w25 := w25, w28 := w28, w31 := w31, w32 := w32, w33 := w33, w40 := w40, w43 := w43, w51 := w51, w52 := w52, w53 := w53, w54 := w54, w59 := w59, w62 := w62, w63 := w63, w67 := w67, flat := w59', hN := hN, fi := fun i hi => by rw [hf0]; exact if_pos hi, fine := hfine, sum := hS, a15 := a15, b15 := b15 }

end Go.Proofs.Ytachcmfgjjoimaa
