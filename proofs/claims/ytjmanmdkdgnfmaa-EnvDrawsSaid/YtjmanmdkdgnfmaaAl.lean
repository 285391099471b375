/- The alias method over rows: pairs of options. -/
import Derived.Test.YtjmanmdkdgnfmaaWg
namespace Go.Proofs.Ytjmanmdkdgnfmaa
open Go.Ev

abbrev Vals := Nat → Int
def upd (f : Vals) (i : Nat) (v : Int) : Vals := fun j => if j = i then v else f j
theorem upd_at (f : Vals) (i : Nat) (v : Int) : upd f i v i = v := by unfold upd; rw [if_pos rfl]
theorem upd_ne (f : Vals) {i j : Nat} (v : Int) (h : j ≠ i) : upd f i v j = f j := by unfold upd; rw [if_neg h]

/-- A row of numbers, of which the last one is the list's first. -/
def mkl (l : List Nat) : Row := l.reverse.map fun (i : Nat) => [.z (i : Int)]
def mk1 (n : Nat) (f : Vals) : Row := (List.range n).map fun i => [.z (f i)]
def mk2 (n : Nat) (f g : Vals) : Row := (List.range n).map fun i => [.z (f i), .z (g i)]

theorem mkl_cons (i : Nat) (l : List Nat) : mkl (i :: l) = mkl l ++ [[.z (i : Int)]] := by unfold mkl; simp
theorem mkl_len (l : List Nat) : (mkl l).length = l.length := by unfold mkl; simp
theorem mk1_len (n : Nat) (f : Vals) : (mk1 n f).length = n := by unfold mk1; simp
theorem mk2_len (n : Nat) (f g : Vals) : (mk2 n f g).length = n := by unfold mk2; simp
theorem mk1_congr {n : Nat} {f g : Vals} (h : ∀ i, i < n → f i = g i) : mk1 n f = mk1 n g := by
  unfold mk1
  exact List.map_congr_left fun i hi => by rw [h i (List.mem_range.1 hi)]
theorem mk2_congr {n : Nat} {f g f' g' : Vals} (h : ∀ i, i < n → f i = f' i ∧ g i = g' i) : mk2 n f g = mk2 n f' g' := by
  unfold mk2
  exact List.map_congr_left fun i hi => by rw [(h i (List.mem_range.1 hi)).1, (h i (List.mem_range.1 hi)).2]
theorem mk1_snoc (n : Nat) (f : Vals) : mk1 n f ++ [[.z (f n)]] = mk1 (n + 1) f := by
  unfold mk1; rw [List.range_succ, List.map_append]; rfl
theorem mk2_snoc (n : Nat) (f g : Vals) : mk2 n f g ++ [[.z (f n), .z (g n)]] = mk2 (n + 1) f g := by
  unfold mk2; rw [List.range_succ, List.map_append]; rfl

theorem mk1_at {n i : Nat} (f : Vals) (h : i < n) : R.lz (mk1 n f) (i : Int) 0 = f i := by
  show Row.int (mk1 n f) (i : Int) 0 = _
  unfold Row.int Row.cell mk1
  simp [h]
theorem mk2_at0 {n i : Nat} (f g : Vals) (h : i < n) : R.lz (mk2 n f g) (i : Int) 0 = f i := by
  show Row.int (mk2 n f g) (i : Int) 0 = _
  unfold Row.int Row.cell mk2
  simp [h]
theorem mk2_at1 {n i : Nat} (f g : Vals) (h : i < n) : R.lz (mk2 n f g) (i : Int) 1 = g i := by
  show Row.int (mk2 n f g) (i : Int) 1 = _
  unfold Row.int Row.cell mk2
  simp [h]
theorem mkl_at (i : Nat) (l : List Nat) : R.lz (mkl (i :: l)) ((l.length : Nat) : Int) 0 = (i : Int) := by
  show Row.int (mkl (i :: l)) _ 0 = _
  rw [mkl_cons]
  unfold Row.int Row.cell
  have : (mkl l ++ [[Go.Ev.CV.z (i : Int)]])[((l.length : Nat) : Int).toNat]? = some [.z (i : Int)] := by
    rw [Int.toNat_natCast, List.getElem?_append_right (by rw [mkl_len]; exact Nat.le_refl _), mkl_len, Nat.sub_self]; rfl
  rw [this]; rfl
theorem mkl_sub (i : Nat) (l : List Nat) : R.lsub (mkl (i :: l)) (R.zc 0) ((l.length : Nat) : Int) = mkl l := by
  show ((mkl (i :: l)).drop (0 : Int).toNat).take (((l.length : Nat) : Int) - 0).toNat = mkl l
  rw [mkl_cons]
  simp
  rw [← mkl_len l]
  simp

theorem mk1_put {n i : Nat} (f : Vals) (v : Int) (_h : i < n) : R.lput (mk1 n f) (i : Int) 0 [.z v] = mk1 n (upd f i v) := by
  show Row.put (mk1 n f) (i : Int) 0 [.z v] = _
  unfold Row.put
  apply List.ext_getElem?
  intro k
  rw [Int.toNat_natCast, List.getElem?_modify]
  unfold mk1 upd layOn
  by_cases hk : k < n
  · by_cases e : i = k
    · subst e; simp [hk]
    · have e' : ¬ k = i := fun q => e q.symm
      simp [hk, e, e']
  · have : (List.range n)[k]? = none := by simp; omega
    simp [this]
theorem mk2_put {n i : Nat} (f g : Vals) (v w : Int) (_h : i < n) : R.lput (mk2 n f g) (i : Int) 0 [.z v, .z w] = mk2 n (upd f i v) (upd g i w) := by
  show Row.put (mk2 n f g) (i : Int) 0 [.z v, .z w] = _
  unfold Row.put
  apply List.ext_getElem?
  intro k
  rw [Int.toNat_natCast, List.getElem?_modify]
  unfold mk2 upd layOn
  by_cases hk : k < n
  · by_cases e : i = k
    · subst e; simp [hk]
    · have e' : ¬ k = i := fun q => e q.symm
      simp [hk, e, e']
  · have : (List.range n)[k]? = none := by simp; omega
    simp [this]
theorem rep1 (n : Nat) : R.lrep (n : Int) [.z (R.zc 0)] = mk1 n fun _ => 0 := by
  show List.replicate (n : Int).toNat _ = _
  rw [Int.toNat_natCast]
  unfold mk1
  apply List.ext_getElem?
  intro k
  by_cases hk : k < n
  · simp [hk]
  · have : (List.range n)[k]? = none := by simp; omega
    simp [this]; omega
theorem rep2 (n : Nat) : R.lrep (n : Int) [.z (R.zc 0), .z (R.zc 0)] = mk2 n (fun _ => 0) fun _ => 0 := by
  show List.replicate (n : Int).toNat _ = _
  rw [Int.toNat_natCast]
  unfold mk2
  apply List.ext_getElem?
  intro k
  by_cases hk : k < n
  · simp [hk]
  · have : (List.range n)[k]? = none := by simp; omega
    simp [this]; omega

/-- Sums. -/
def sm (f : Vals) : Nat → Int
  | 0 => 0
  | n + 1 => sm f n + f n
theorem sm_congr {f g : Vals} : ∀ {n : Nat}, (∀ i, i < n → f i = g i) → sm f n = sm g n
  | 0, _ => rfl
  | n + 1, h => by unfold sm; rw [sm_congr fun i hi => h i (by omega), h n (by omega)]
theorem sm_upd {f : Vals} {i : Nat} {v : Int} : ∀ {n : Nat}, i < n → sm (upd f i v) n = sm f n + (v - f i)
  | 0, h => by omega
  | n + 1, h => by
    unfold sm
    by_cases e : i = n
    · subst e
      rw [upd_at, sm_congr (g := f) fun j hj => upd_ne f v (by omega)]
      omega
    · rw [sm_upd (by omega), upd_ne f v (by omega)]; omega
theorem sm_zero {f : Vals} : ∀ {n : Nat}, (∀ i, i < n → f i = 0) → sm f n = 0
  | 0, _ => rfl
  | n + 1, h => by unfold sm; rw [sm_zero fun i hi => h i (by omega), h n (by omega)]; rfl
theorem sm_nonneg {f : Vals} : ∀ {n : Nat}, (∀ i, i < n → 0 ≤ f i) → 0 ≤ sm f n
  | 0, _ => Int.le_refl _
  | n + 1, h => by unfold sm; have := sm_nonneg (f := f) (n := n) fun i hi => h i (by omega); have := h n (by omega); omega
theorem sm_ge {f : Vals} : ∀ {n : Nat}, (∀ i, i < n → 0 ≤ f i) → ∀ i, i < n → f i ≤ sm f n
  | 0, _, i, hi => by omega
  | n + 1, h, i, hi => by
    unfold sm
    have := h n (by omega)
    by_cases e : i = n
    · subst e; have := sm_nonneg (f := f) (n := i) fun j hj => h j (by omega); omega
    · have := sm_ge (f := f) (n := n) (fun j hj => h j (by omega)) i (by omega); omega
theorem sm_all {f : Vals} {n : Nat} (h : ∀ i, i < n → 0 ≤ f i) (h0 : sm f n = 0) : ∀ i, i < n → f i = 0 := fun i hi => by
  have := sm_ge h i hi; have := h i hi; omega
theorem sm_neg {f : Vals} : ∀ {n : Nat}, sm (fun i => -f i) n = -sm f n
  | 0 => rfl
  | n + 1 => by unfold sm; rw [sm_neg]; omega
theorem sm_lin {f : Vals} {a b : Int} : ∀ {n : Nat}, sm (fun i => f i * a - b) n = sm f n * a - (n : Int) * b
  | 0 => by simp [sm]
  | n + 1 => by
    unfold sm
    rw [sm_lin, Int.add_mul, show ((n + 1 : Nat) : Int) = (n : Int) + 1 by omega, Int.add_mul]
    omega
theorem sm_bound {f : Vals} {a : Int} : ∀ {n : Nat}, (∀ i, i < n → f i ≤ a) → sm f n ≤ (n : Int) * a
  | 0, _ => by simp [sm]
  | n + 1, h => by
    unfold sm
    have := sm_bound (f := f) (a := a) (n := n) fun i hi => h i (by omega)
    have := h n (by omega)
    rw [show ((n + 1 : Nat) : Int) = (n : Int) + 1 by omega, Int.add_mul]
    omega

/-- How far the columns are. -/
structure St where
  lt : List Nat
  hv : List Nat
  H : Vals
  T : Vals
  A : Vals

def nx (S : Int) : St → St
  | ⟨l :: ls, h :: hs, H, T, A⟩ =>
    if H h - (S - H l) < S then ⟨h :: ls, hs, upd H h (H h - (S - H l)), upd T l (H l), upd A l (h : Int)⟩
    else ⟨ls, h :: hs, upd H h (H h - (S - H l)), upd T l (H l), upd A l (h : Int)⟩
  | s => s

theorem nx_lt {S : Int} {l h : Nat} {ls hs : List Nat} {H T A : Vals} (hc : H h - (S - H l) < S) : nx S ⟨l :: ls, h :: hs, H, T, A⟩ = ⟨h :: ls, hs, upd H h (H h - (S - H l)), upd T l (H l), upd A l (h : Int)⟩ := by
  show (if H h - (S - H l) < S then _ else _) = _
  rw [if_pos hc]
theorem nx_ge {S : Int} {l h : Nat} {ls hs : List Nat} {H T A : Vals} (hc : ¬ H h - (S - H l) < S) : nx S ⟨l :: ls, h :: hs, H, T, A⟩ = ⟨ls, h :: hs, upd H h (H h - (S - H l)), upd T l (H l), upd A l (h : Int)⟩ := by
  show (if H h - (S - H l) < S then _ else _) = _
  rw [if_neg hc]

def go (s : St) : Bool := match s.lt, s.hv with
  | _ :: _, _ :: _ => true
  | _, _ => false

structure Inv (n : Nat) (S : Int) (W : Vals) (s : St) : Prop where
  nodup : (s.lt ++ s.hv).Nodup
  ltn : ∀ i, i ∈ s.lt → i < n ∧ 0 ≤ s.H i ∧ s.H i < S
  hvn : ∀ i, i ∈ s.hv → i < n ∧ S ≤ s.H i
  alive : ∀ i, i ∈ s.lt ++ s.hv → s.T i = S ∧ s.A i = (i : Int)
  done : ∀ i, i < n → i ∉ s.lt ++ s.hv → s.T i = s.H i ∧ 0 ≤ s.H i ∧ s.H i < S
  rng : ∀ i, i < n → 0 ≤ s.T i ∧ s.T i ≤ S ∧ 0 ≤ s.A i ∧ s.A i < (n : Int)
  top : ∀ i, i < n → s.H i ≤ 1099511627776
  mean : ∀ j, j < n → s.H j + sm (fun i => if s.A i = (j : Int) then S - s.T i else 0) n = W j * n
  bal : sm (fun i => if i ∈ s.lt ++ s.hv then s.H i - S else 0) n = 0
  few : s.lt.length + s.hv.length ≤ n

theorem Inv.step {n : Nat} {S : Int} {W : Vals} {l h : Nat} {ls hs : List Nat} {H T A : Vals} (i : Inv n S W ⟨l :: ls, h :: hs, H, T, A⟩) : Inv n S W (nx S ⟨l :: ls, h :: hs, H, T, A⟩) := by
  obtain ⟨nodup, ltn, hvn, alive, done, rng, top, mean, bal, few⟩ := i
  have hl := ltn l List.mem_cons_self
  have hh := hvn h List.mem_cons_self
  simp only at hl hh
  have nd := nodup
  simp only [List.cons_append, List.nodup_cons, List.nodup_append, List.mem_append, List.mem_cons, not_or] at nd
  have hlh : l ≠ h := nd.1.2.1
  have al := alive l (by simp)
  have ah := alive h (by simp)
  simp only at al ah
  have hHl : upd H h (H h - (S - H l)) l = H l := upd_ne H _ hlh
  -- what is common to both ways
  have key : ∀ lt hv : List Nat, (∀ i, i ∈ lt ++ hv ↔ i ∈ (l :: ls) ++ (h :: hs) ∧ i ≠ l) → (lt ++ hv).Nodup →
      (∀ i, i ∈ lt → i < n ∧ 0 ≤ upd H h (H h - (S - H l)) i ∧ upd H h (H h - (S - H l)) i < S) →
      (∀ i, i ∈ hv → i < n ∧ S ≤ upd H h (H h - (S - H l)) i) → lt.length + hv.length ≤ n →
      Inv n S W ⟨lt, hv, upd H h (H h - (S - H l)), upd T l (H l), upd A l (h : Int)⟩ := by
    intro lt hv hmem hnd h1 h2 h3
    refine ⟨hnd, h1, h2, fun i hi => ?_, fun i hi hn => ?_, fun i hi => ?_, fun i hi => ?_, fun j hj => ?_, ?_, h3⟩
    · obtain ⟨m1, m2⟩ := (hmem i).1 hi
      exact ⟨(upd_ne T _ m2).trans (alive i m1).1, (upd_ne A _ m2).trans (alive i m1).2⟩
    · simp only at hn ⊢
      by_cases e : i = l
      · subst e; rw [upd_at, hHl]; exact ⟨rfl, hl.2⟩
      · have hm : i ∉ (l :: ls) ++ (h :: hs) := fun q => hn ((hmem i).2 ⟨q, e⟩)
        have hih : i ≠ h := fun q => hm (by subst q; simp)
        rw [upd_ne T _ e, upd_ne H _ hih]
        exact done i hi hm
    · simp only
      by_cases e : i = l
      · subst e; rw [upd_at, upd_at]; exact ⟨hl.2.1, by omega, by omega, by omega⟩
      · rw [upd_ne T _ e, upd_ne A _ e]; exact rng i hi
    · simp only
      by_cases e : i = h
      · subst e; rw [upd_at]; have := top i hi; simp only at this; omega
      · rw [upd_ne H _ e]; exact top i hi
    · simp only
      have hm := mean j hj
      simp only at hm
      have hfun : sm (fun i => if upd A l (h : Int) i = (j : Int) then S - upd T l (H l) i else 0) n = sm (upd (fun i => if A i = (j : Int) then S - T i else 0) l (if (h : Int) = (j : Int) then S - H l else 0)) n := by
        refine sm_congr fun i _ => ?_
        by_cases e : i = l
        · subst e; rw [upd_at, upd_at, upd_at]
        · rw [upd_ne A _ e, upd_ne T _ e, upd_ne _ _ e]
      rw [hfun, sm_upd hl.1]
      have hz : (if A l = (j : Int) then S - T l else 0) = 0 := by rw [al.1]; split <;> omega
      rw [hz]
      by_cases e : j = h
      · subst e; rw [upd_at, if_pos rfl]; omega
      · rw [upd_ne H _ e, if_neg (by omega)]; omega
    · simp only
      have hfun : sm (fun i => if i ∈ lt ++ hv then upd H h (H h - (S - H l)) i - S else 0) n = sm (upd (upd (fun i => if i ∈ (l :: ls) ++ (h :: hs) then H i - S else 0) l 0) h (H h - S - (S - H l))) n := by
        refine sm_congr fun i _ => ?_
        by_cases e : i = h
        · subst e
          rw [upd_at, upd_at, if_pos ((hmem i).2 ⟨by simp, fun q => hlh q.symm⟩)]; omega
        · rw [upd_ne _ _ e, upd_ne _ _ e]
          by_cases e2 : i = l
          · subst e2
            rw [upd_at, if_neg fun q => ((hmem i).1 q).2 rfl]
          · rw [upd_ne _ _ e2]
            by_cases m : i ∈ (l :: ls) ++ (h :: hs)
            · rw [if_pos ((hmem i).2 ⟨m, e2⟩), if_pos m]
            · rw [if_neg fun q => m ((hmem i).1 q).1, if_neg m]
      rw [hfun, sm_upd hh.1, sm_upd hl.1, upd_ne _ _ (Ne.symm hlh), if_pos (show h ∈ (l :: ls) ++ (h :: hs) by simp), if_pos (show l ∈ (l :: ls) ++ (h :: hs) by simp)]
      have hb : sm (fun i => if i ∈ (l :: ls) ++ (h :: hs) then H i - S else 0) n = 0 := bal
      rw [hb]; omega
  have few' : ls.length + 1 + (hs.length + 1) ≤ n := few
  by_cases hc : H h - (S - H l) < S
  · rw [nx_lt hc]
    refine key _ _ (fun i => ?_) ?_ (fun i hi => ?_) (fun i hi => ?_) (by simp only [List.length_cons]; omega)
    · simp only [List.cons_append, List.mem_cons, List.mem_append]
      constructor
      · rintro (rfl | q | q)
        · exact ⟨.inr (.inr (.inl rfl)), Ne.symm hlh⟩
        · exact ⟨.inr (.inl q), fun e => nd.1.1 (e ▸ q)⟩
        · exact ⟨.inr (.inr (.inr q)), fun e => nd.1.2.2 (e ▸ q)⟩
      · rintro ⟨q | q | q | q, e⟩
        · exact absurd q e
        · exact .inr (.inl q)
        · exact .inl q
        · exact .inr (.inr q)
    · simp only [List.cons_append, List.nodup_cons, List.nodup_append, List.mem_append, not_or]
      obtain ⟨_, p2, ⟨p3, p4⟩, p5⟩ := nd
      refine ⟨⟨fun q => (p5 h q h (.inl rfl)) rfl, p3⟩, p2, p4, fun a ha b hb => p5 a ha b (.inr hb)⟩
    · rcases List.mem_cons.1 hi with rfl | q
      · rw [upd_at]; exact ⟨hh.1, by omega, hc⟩
      · have hne : i ≠ h := fun e => nd.2.2.2 i q h (.inl rfl) e
        rw [upd_ne H _ hne]; exact ltn i (List.mem_cons_of_mem _ q)
    · have hne : i ≠ h := fun e => nd.2.2.1.1 (e ▸ hi)
      rw [upd_ne H _ hne]; exact hvn i (List.mem_cons_of_mem _ hi)
  · rw [nx_ge hc]
    refine key _ _ (fun i => ?_) ?_ (fun i hi => ?_) (fun i hi => ?_) (by simp only [List.length_cons]; omega)
    · simp only [List.cons_append, List.mem_cons, List.mem_append]
      constructor
      · rintro (q | rfl | q)
        · exact ⟨.inr (.inl q), fun e => nd.1.1 (e ▸ q)⟩
        · exact ⟨.inr (.inr (.inl rfl)), Ne.symm hlh⟩
        · exact ⟨.inr (.inr (.inr q)), fun e => nd.1.2.2 (e ▸ q)⟩
      · rintro ⟨q | q | q | q, e⟩
        · exact absurd q e
        · exact .inl q
        · exact .inr (.inl q)
        · exact .inr (.inr q)
    · exact (List.nodup_cons.1 nodup).2
    · have hne : i ≠ h := fun e => nd.2.2.2 i hi h (.inl rfl) e
      rw [upd_ne H _ hne]; exact ltn i (List.mem_cons_of_mem _ hi)
    · rcases List.mem_cons.1 hi with rfl | q
      · rw [upd_at]; exact ⟨hh.1, by omega⟩
      · have hne : i ≠ h := fun e => nd.2.2.1.1 (e ▸ q)
        rw [upd_ne H _ hne]; exact hvn i (List.mem_cons_of_mem _ q)

def itS (S : Int) : Nat → St → St
  | 0, s => s
  | k + 1, s => itS S k (nx S s)

theorem itS_succ (S : Int) : ∀ (k : Nat) (s : St), itS S (k + 1) s = nx S (itS S k s)
  | 0, _ => rfl
  | k + 1, s => by show itS S (k + 1) (nx S s) = _; rw [itS_succ S k]; rfl

theorem run {n : Nat} {S : Int} {W : Vals} : ∀ (m : Nat) (s : St), s.lt.length + s.hv.length ≤ m → Inv n S W s → ∃ k, (∀ i, i < k → go (itS S i s) = true ∧ Inv n S W (itS S i s)) ∧ go (itS S k s) = false ∧ Inv n S W (itS S k s)
  | 0, s, hm, hi => ⟨0, fun i h => by omega, by
      obtain ⟨lt, hv, H, T, A⟩ := s
      have : lt = [] := by cases lt with
        | nil => rfl
        | cons _ _ => simp at hm
      subst this; rfl, hi⟩
  | m + 1, s, hm, hi => by
    cases hg : go s with
    | false => exact ⟨0, fun i h => by omega, hg, hi⟩
    | true =>
      obtain ⟨lt, hv, H, T, A⟩ := s
      match lt, hv, hg, hm, hi with
      | l :: ls, h :: hs, hg, hm, hi =>
        have hn := hi.step
        obtain ⟨k, k1, k2, k3⟩ := run m (nx S ⟨l :: ls, h :: hs, H, T, A⟩) (by
          simp only [List.length_cons] at hm
          by_cases hc : H h - (S - H l) < S
          · rw [nx_lt hc]
            show (h :: ls).length + hs.length ≤ m
            rw [List.length_cons]; omega
          · rw [nx_ge hc]
            show ls.length + (h :: hs).length ≤ m
            rw [List.length_cons]; omega) hn
        refine ⟨k + 1, fun i h => ?_, k2, k3⟩
        cases i with
        | zero => exact ⟨hg, hi⟩
        | succ i => exact k1 i (by omega)

/-- Behind the last pair each option is meant by as many numbers as it should. -/
theorem Inv.fin {n : Nat} {S : Int} {W : Vals} {s : St} (i : Inv n S W s) (hg : go s = false) : ∀ j, j < n → s.T j + sm (fun i => if s.A i = (j : Int) then S - s.T i else 0) n = W j * n := by
  intro j hj
  have hT : s.T j = s.H j := by
    by_cases m : j ∈ s.lt ++ s.hv
    · rw [(i.alive j m).1]
      have hb := i.bal
      cases hlt : s.lt with
      | nil =>
        have := sm_all (f := fun i => if i ∈ s.lt ++ s.hv then s.H i - S else 0) (n := n) (fun k hk => by
          split
          · rename_i q
            rw [hlt] at q
            have := i.hvn k q
            omega
          · omega) hb j hj
        simp only [if_pos m] at this
        omega
      | cons a b =>
        have hhv : s.hv = [] := by
          unfold go at hg
          rw [hlt] at hg
          cases h : s.hv with
          | nil => rfl
          | cons _ _ => rw [h] at hg; cases hg
        have hb' : sm (fun k => -(if k ∈ s.lt ++ s.hv then s.H k - S else 0)) n = 0 := by rw [sm_neg (f := fun k => if k ∈ s.lt ++ s.hv then s.H k - S else 0), hb]; rfl
        have := sm_all (n := n) (fun k hk => by
          split
          · rename_i q
            rw [hhv, List.append_nil] at q
            have := i.ltn k q
            omega
          · omega) hb' j hj
        simp only [if_pos m] at this
        omega
    · exact (i.done j hj m).1
  rw [hT]
  exact i.mean j hj

/-- How it begins. -/
def ltOf (n : Nat) (S : Int) (W : Vals) : Nat → List Nat
  | 0 => []
  | k + 1 => if W k * n < S then k :: ltOf n S W k else ltOf n S W k
def hvOf (n : Nat) (S : Int) (W : Vals) : Nat → List Nat
  | 0 => []
  | k + 1 => if W k * n < S then hvOf n S W k else k :: hvOf n S W k
def st0 (n : Nat) (S : Int) (W : Vals) : St := ⟨ltOf n S W n, hvOf n S W n, fun i => W i * n, fun _ => S, fun i => (i : Int)⟩

theorem mem_lt {n : Nat} {S : Int} {W : Vals} {i : Nat} : ∀ {k : Nat}, i ∈ ltOf n S W k ↔ i < k ∧ W i * n < S
  | 0 => by simp [ltOf]
  | k + 1 => by
    unfold ltOf
    by_cases e : i = k
    · subst e
      have := mem_lt (n := n) (S := S) (W := W) (i := i) (k := i)
      split <;> simp_all
    · have := mem_lt (n := n) (S := S) (W := W) (i := i) (k := k)
      split
      · rw [List.mem_cons, this]; constructor
        · rintro (q | q)
          · exact absurd q e
          · exact ⟨by omega, q.2⟩
        · exact fun q => .inr ⟨by omega, q.2⟩
      · rw [this]; exact ⟨fun q => ⟨by omega, q.2⟩, fun q => ⟨by omega, q.2⟩⟩
theorem mem_hv {n : Nat} {S : Int} {W : Vals} {i : Nat} : ∀ {k : Nat}, i ∈ hvOf n S W k ↔ i < k ∧ S ≤ W i * n
  | 0 => by simp [hvOf]
  | k + 1 => by
    unfold hvOf
    by_cases e : i = k
    · subst e
      have := mem_hv (n := n) (S := S) (W := W) (i := i) (k := i)
      split
      · rw [this]; constructor <;> intro q <;> omega
      · rw [List.mem_cons]; constructor
        · intro _; exact ⟨by omega, by omega⟩
        · intro _; exact .inl rfl
    · have := mem_hv (n := n) (S := S) (W := W) (i := i) (k := k)
      split
      · rw [this]; exact ⟨fun q => ⟨by omega, q.2⟩, fun q => ⟨by omega, q.2⟩⟩
      · rw [List.mem_cons, this]; constructor
        · rintro (q | q)
          · exact absurd q e
          · exact ⟨by omega, q.2⟩
        · exact fun q => .inr ⟨by omega, q.2⟩
theorem nd_lt {n : Nat} {S : Int} {W : Vals} : ∀ {k : Nat}, (ltOf n S W k).Nodup
  | 0 => by simp [ltOf]
  | k + 1 => by
    unfold ltOf
    split
    · exact List.nodup_cons.2 ⟨fun q => by have := (mem_lt.1 q).1; omega, nd_lt⟩
    · exact nd_lt
theorem nd_hv {n : Nat} {S : Int} {W : Vals} : ∀ {k : Nat}, (hvOf n S W k).Nodup
  | 0 => by simp [hvOf]
  | k + 1 => by
    unfold hvOf
    split
    · exact nd_hv
    · exact List.nodup_cons.2 ⟨fun q => by have := (mem_hv.1 q).1; omega, nd_hv⟩
theorem len_lh {n : Nat} {S : Int} {W : Vals} : ∀ {k : Nat}, (ltOf n S W k).length + (hvOf n S W k).length = k
  | 0 => rfl
  | k + 1 => by
    have := len_lh (n := n) (S := S) (W := W) (k := k)
    unfold ltOf hvOf
    split <;> simp only [List.length_cons] <;> omega

/-- Weights of a total. -/
structure Wts (n : Nat) (S : Int) (W : Vals) : Prop where
  n1 : 1 ≤ n
  n2 : n ≤ 1024
  w : ∀ i, i < n → 0 ≤ W i ∧ W i ≤ 1048576
  s : sm W n = S
  pos : 0 < S

theorem Wts.top {n : Nat} {S : Int} {W : Vals} (h : Wts n S W) : S ≤ 1073741824 := by
  have := sm_bound (f := W) (n := n) (a := 1048576) fun i hi => (h.w i hi).2
  have e := h.s
  have : (n : Int) * 1048576 ≤ 1024 * 1048576 := Int.mul_le_mul_of_nonneg_right (by have := h.n2; omega) (by decide)
  omega
theorem Wts.prod {n : Nat} {S : Int} {W : Vals} (h : Wts n S W) {i : Nat} (hi : i < n) : 0 ≤ W i * n ∧ W i * n ≤ 1073741824 := by
  obtain ⟨a, b⟩ := h.w i hi
  refine ⟨Int.mul_nonneg a (by omega), ?_⟩
  calc W i * n ≤ 1048576 * 1024 := Int.mul_le_mul b (by have := h.n2; omega) (by omega) (by decide)
    _ = 1073741824 := by decide

theorem Wts.inv0 {n : Nat} {S : Int} {W : Vals} (h : Wts n S W) : Inv n S W (st0 n S W) := by
  have hall : ∀ i, i < n → i ∈ ltOf n S W n ++ hvOf n S W n := fun i hi => by
    rw [List.mem_append, mem_lt, mem_hv]
    by_cases e : W i * n < S
    · exact .inl ⟨hi, e⟩
    · exact .inr ⟨hi, by omega⟩
  have htop := h.top
  have hpos := h.pos
  refine ⟨?_, fun i hi => ?_, fun i hi => ?_, fun i hi => ⟨rfl, rfl⟩, fun i hi hn => absurd (hall i hi) hn, fun i hi => ?_, fun i hi => ?_, fun j hj => ?_, ?_, ?_⟩
  · show (ltOf n S W n ++ hvOf n S W n).Nodup
    rw [List.nodup_append]
    refine ⟨nd_lt, nd_hv, fun a ha b hb e => ?_⟩
    subst e
    have := (mem_lt.1 ha).2
    have := (mem_hv.1 hb).2
    omega
  · obtain ⟨a, b⟩ := mem_lt.1 hi
    exact ⟨a, (h.prod a).1, b⟩
  · obtain ⟨a, b⟩ := mem_hv.1 hi
    exact ⟨a, b⟩
  · show 0 ≤ S ∧ S ≤ S ∧ 0 ≤ (i : Int) ∧ (i : Int) < (n : Int)
    omega
  · show W i * n ≤ _
    have := (h.prod hi).2; omega
  · show W j * n + sm (fun i => if (i : Int) = (j : Int) then S - S else 0) n = W j * n
    rw [sm_zero fun i _ => by split <;> omega]; omega
  · show sm (fun i => if i ∈ ltOf n S W n ++ hvOf n S W n then W i * n - S else 0) n = 0
    rw [sm_congr (g := fun i => W i * n - S) fun i hi => if_pos (hall i hi), sm_lin, h.s, Int.mul_comm]
    omega
  · show (ltOf n S W n).length + (hvOf n S W n).length ≤ n
    rw [len_lh]; exact Nat.le_refl _

/-- A row's numbers. -/
def Num (w : Row) (W : Vals) (n : Nat) : Prop := ∀ i, i < n → R.lz w (i : Int) 0 = W i

theorem zltT {a b : Int} (h : a < b) : R.zlt a b = true := decide_eq_true h
theorem zltF {a b : Int} (h : ¬ a < b) : R.zlt a b = false := decide_eq_false h
theorem zleT {a b : Int} (h : a ≤ b) : R.zle a b = true := decide_eq_true h
theorem zleF {a b : Int} (h : ¬ a ≤ b) : R.zle a b = false := decide_eq_false h
theorem zge0 (a : Nat) : R.zle (R.zc 0) (a : Int) = true := zleT (show (0 : Int) ≤ (a : Int) by omega)
theorem suc {i : Nat} (h : i ≤ 1000000) : R.zadd .i64 (i : Int) (R.zc 1) = ((i + 1 : Nat) : Int) := (zadd64 (x := (i : Int)) (y := 1) ⟨by omega, by omega⟩).trans rfl
theorem room {l : Row} (h : l.length ≤ 1073741824) : R.zle (R.llen l) (R.zc 1073741824) = true := zleT (show ((l.length : Nat) : Int) ≤ 1073741824 by omega)

/-- No weight that may not be, up to one. -/
def Fine (W : Vals) (m : Nat) : Prop := ∀ i, i < m → 0 ≤ W i ∧ W i ≤ 1048576

theorem Fine.sum {W : Vals} : ∀ {m : Nat}, Fine W m → 0 ≤ sm W m ∧ sm W m ≤ (m : Int) * 1048576
  | _, h => ⟨sm_nonneg fun i hi => (h i hi).1, sm_bound fun i hi => (h i hi).2⟩

theorem chkE {w : Row} {W : Vals} {n m : Nat} (hn : n ≤ 2000) (hw : Num w W n) (hm : m ≤ n) (h1 : Fine W m) (h2 : m = n ∨ m < n ∧ (W m < 0 ∨ 1048576 < W m)) :
    E2 R (n : Int) (n : Int) w (R.zc 0) (R.zc 0) (R.zc 0) (R.zc 0) = true ∧ L2 R (n : Int) (n : Int) w (R.zc 0) (R.zc 0) (R.zc 0) (R.zc 0) = [.z 0, .z 0, .z (sm W m), .z (m : Int)] := by
  refine ends_path (step := G2 R (n : Int) (n : Int) w) (p := [.z (R.zc 0), .z (R.zc 0), .z (R.zc 0), .z (R.zc 0)]) (fun i => [.z 0, .z 0, .z (sm W i), .z (i : Int)]) m rfl (fun i hi => ?_) ?_
  · have hc : R.zlt (i : Int) (n : Int) = true := zltT (by omega)
    have hb := h1 i hi
    have e1 : R.zlt (W i) (R.zc 0) = false := zltF (show ¬ W i < 0 by omega)
    have e2 : R.zlt (R.zc 1048576) (W i) = false := zltF (show ¬ 1048576 < W i by omega)
    obtain ⟨s1, s2⟩ := Fine.sum (W := W) (m := i) fun j hj => h1 j (by omega)
    have ea : R.zadd .i64 (sm W i) (W i) = sm W i + W i := zadd64 ⟨by omega, by omega⟩
    show (C2 R (n : Int) (n : Int) w (i : Int), O2_ R (n : Int) (n : Int) (i : Int), [PV.z 0, .z 0, .z (N2_2 R w (sm W i) (i : Int)), .z (N2_3 R (i : Int))]) = _
    unfold C2 O2_ N2_2 N2_3
    rw [hw i (by omega), hc, zge0, e1, e2, ea, suc (by omega)]
    rfl
  · show C2 R (n : Int) (n : Int) w (m : Int) = false
    unfold C2
    rcases h2 with e | ⟨e, hb⟩
    · rw [zltF (show ¬ (m : Int) < (n : Int) by omega)]; rfl
    · rw [hw m e, zltT (show (m : Int) < (n : Int) by omega), zge0]
      by_cases h : W m < 0
      · rw [zltT (show W m < R.zc 0 from h)]; rfl
      · rw [zltF (show ¬ W m < R.zc 0 from h), zltT (a := R.zc 1048576) (show (1048576 : Int) < W m by omega)]; rfl

theorem totE {w : Row} {W : Vals} {n m : Nat} (hn : n ≤ 2000) (hw : Num w W n) (hm : m ≤ n) (h1 : Fine W m) (h2 : m = n ∨ m < n ∧ (W m < 0 ∨ 1048576 < W m)) :
    E7 R (n : Int) w (R.zc 0) (R.zc 0) (R.zc 0) = true ∧ L7 R (n : Int) w (R.zc 0) (R.zc 0) (R.zc 0) = [.z 0, .z (sm W m), .z (m : Int)] := by
  refine ends_path (step := G7 R (n : Int) w) (p := [.z (R.zc 0), .z (R.zc 0), .z (R.zc 0)]) (fun i => [.z 0, .z (sm W i), .z (i : Int)]) m rfl (fun i hi => ?_) ?_
  · have hc : R.zlt (i : Int) (n : Int) = true := zltT (by omega)
    have hb := h1 i hi
    have e1 : R.zlt (W i) (R.zc 0) = false := zltF (show ¬ W i < 0 by omega)
    have e2 : R.zlt (R.zc 1048576) (W i) = false := zltF (show ¬ 1048576 < W i by omega)
    obtain ⟨s1, s2⟩ := Fine.sum (W := W) (m := i) fun j hj => h1 j (by omega)
    have ea : R.zadd .i64 (sm W i) (W i) = sm W i + W i := zadd64 ⟨by omega, by omega⟩
    show (C7 R (n : Int) w (i : Int), O7_ R (n : Int) w (i : Int), [PV.z 0, .z (N7_1 R w (sm W i) (i : Int)), .z (N7_2 R (i : Int))]) = _
    unfold C7 O7_ N7_1 N7_2
    rw [hw i (by omega), hc, zge0, e1, e2, ea, suc (by omega)]
    rfl
  · show C7 R (n : Int) w (m : Int) = false
    unfold C7
    rcases h2 with e | ⟨e, hb⟩
    · rw [zltF (show ¬ (m : Int) < (n : Int) by omega)]; rfl
    · rw [hw m e, zltT (show (m : Int) < (n : Int) by omega), zge0]
      by_cases h : W m < 0
      · rw [zltT (show W m < R.zc 0 from h)]; rfl
      · rw [zltF (show ¬ W m < R.zc 0 from h), zltT (a := R.zc 1048576) (show (1048576 : Int) < W m by omega)]; rfl

theorem firstOff (W : Vals) : ∀ n, ∃ m, m ≤ n ∧ Fine W m ∧ (m = n ∨ m < n ∧ (W m < 0 ∨ 1048576 < W m))
  | 0 => ⟨0, Nat.le_refl _, fun i hi => by omega, .inl rfl⟩
  | n + 1 => by
    obtain ⟨m, h1, h2, h3⟩ := firstOff W n
    rcases h3 with e | ⟨h3, h4⟩
    · subst e
      by_cases hb : W m < 0 ∨ 1048576 < W m
      · exact ⟨m, by omega, h2, .inr ⟨by omega, hb⟩⟩
      · refine ⟨m + 1, Nat.le_refl _, fun i hi => ?_, .inl rfl⟩
        by_cases e : i = m
        · subst e; omega
        · exact h2 i (by omega)
    · exact ⟨m, by omega, h2, .inr ⟨by omega, h4⟩⟩

section
variable {w : Row} {W : Vals} {n : Nat} {S : Int}

theorem mulW (h : Wts n S W) {k : Nat} (hk : k < n) : R.zmul .i64 (W k) (n : Int) = W k * n := by
  have := h.prod hk
  exact zmul64 ⟨by omega, by omega⟩

theorem len_lt (k : Nat) : (ltOf n S W k).length ≤ k := by have := len_lh (n := n) (S := S) (W := W) (k := k); omega
theorem len_hv (k : Nat) : (hvOf n S W k).length ≤ k := by have := len_lh (n := n) (S := S) (W := W) (k := k); omega

/-- The first loop of alias.New. -/
theorem newE (h : Wts n S W) (hw : Num w W n) :
    E3 R (n : Int) (n : Int) (n : Int) w S (n : Int) (n : Int) R.lnil R.lnil (R.zc 0) (R.lrep (n : Int) [.z (R.zc 0), .z (R.zc 0)]) (R.lrep (n : Int) [.z (R.zc 0)]) = true ∧
    L3 R (n : Int) (n : Int) (n : Int) w S (n : Int) (n : Int) R.lnil R.lnil (R.zc 0) (R.lrep (n : Int) [.z (R.zc 0), .z (R.zc 0)]) (R.lrep (n : Int) [.z (R.zc 0)]) =
      [.l (mkl (st0 n S W).lt), .l (mkl (st0 n S W).hv), .z (n : Int), .l (mk2 n (st0 n S W).T (st0 n S W).A), .l (mk1 n (st0 n S W).H)] := by
  have hn := h.n2
  let f : Nat → List (PD R) := fun k => [.l (mkl (ltOf n S W k)), .l (mkl (hvOf n S W k)), .z (k : Int), .l (mk2 n (fun i => if i < k then S else 0) fun i => if i < k then (i : Int) else 0), .l (mk1 n fun i => if i < k then W i * n else 0)]
  have key := ends_path (step := G3 R (n : Int) (n : Int) (n : Int) w S (n : Int) (n : Int)) (p := [.l R.lnil, .l R.lnil, .z (R.zc 0), .l (R.lrep (n : Int) [.z (R.zc 0), .z (R.zc 0)]), .l (R.lrep (n : Int) [.z (R.zc 0)])]) f n ?_ (fun k hk => ?_) ?_
  · refine ⟨key.1, key.2.trans ?_⟩
    show f n = _
    simp only [f]
    rw [show (mk2 n (fun i => if i < n then S else 0) fun i => if i < n then (i : Int) else 0) = mk2 n (st0 n S W).T (st0 n S W).A from mk2_congr fun i hi => ⟨if_pos hi, if_pos hi⟩, show (mk1 n fun i => if i < n then W i * n else 0) = mk1 n (st0 n S W).H from mk1_congr fun i hi => if_pos hi]
    rfl
  · have a1 : R.lrep (n : Int) [.z (R.zc 0)] = mk1 n fun i => if i < 0 then W i * n else 0 := (rep1 n).trans (mk1_congr fun i _ => (if_neg (by omega)).symm)
    have a2 : R.lrep (n : Int) [.z (R.zc 0), .z (R.zc 0)] = mk2 n (fun i => if i < 0 then S else 0) fun i => if i < 0 then (i : Int) else 0 := (rep2 n).trans (mk2_congr fun i _ => ⟨(if_neg (by omega)).symm, (if_neg (by omega)).symm⟩)
    rw [a1, a2]
    rfl
  · have hc : R.zlt (k : Int) (n : Int) = true := zltT (by omega)
    have hp : R.lput (mk1 n fun i => if i < k then W i * n else 0) (k : Int) 0 [.z (W k * n)] = mk1 n fun i => if i < k + 1 then W i * n else 0 := by
      rw [mk1_put _ _ hk]
      refine mk1_congr fun i _ => ?_
      by_cases e : i = k
      · subst e; rw [upd_at, if_pos (by omega)]
      · rw [upd_ne _ _ e]
        by_cases e2 : i < k
        · rw [if_pos e2, if_pos (by omega)]
        · rw [if_neg e2, if_neg (by omega)]
    have hq : R.lput (mk2 n (fun i => if i < k then S else 0) fun i => if i < k then (i : Int) else 0) (k : Int) 0 [.z S, .z (k : Int)] = mk2 n (fun i => if i < k + 1 then S else 0) fun i => if i < k + 1 then (i : Int) else 0 := by
      rw [mk2_put _ _ _ _ hk]
      refine mk2_congr fun i _ => ?_
      by_cases e : i = k
      · subst e; rw [upd_at, upd_at, if_pos (by omega), if_pos (by omega)]; exact ⟨rfl, rfl⟩
      · rw [upd_ne _ _ e, upd_ne _ _ e]
        by_cases e2 : i < k
        · rw [if_pos e2, if_pos (by omega), if_pos e2, if_pos (by omega)]; exact ⟨rfl, rfl⟩
        · rw [if_neg e2, if_neg (by omega), if_neg e2, if_neg (by omega)]; exact ⟨rfl, rfl⟩
    have hat : R.lz (mk1 n fun i => if i < k + 1 then W i * n else 0) (k : Int) 0 = W k * n := by rw [mk1_at _ hk, if_pos (by omega)]
    have l1 := len_lt (n := n) (S := S) (W := W) k
    have l2 := len_hv (n := n) (S := S) (W := W) k
    have al : R.zle (R.llen (R.lapp (mkl (ltOf n S W k)) [[.z (k : Int)]])) (R.zc 1073741824) = true := by
      show R.zle (R.llen (mkl (ltOf n S W k) ++ [[.z (k : Int)]])) _ = true
      rw [← mkl_cons]; exact room (by rw [mkl_len, List.length_cons]; omega)
    have ah : R.zle (R.llen (R.lapp (mkl (hvOf n S W k)) [[.z (k : Int)]])) (R.zc 1073741824) = true := by
      show R.zle (R.llen (mkl (hvOf n S W k) ++ [[.z (k : Int)]])) _ = true
      rw [← mkl_cons]; exact room (by rw [mkl_len, List.length_cons]; omega)
    simp only [f]
    generalize hT : (mk2 n (fun i => if i < k then S else 0) fun i => if i < k then (i : Int) else 0) = T at hq
    generalize hH : (mk1 n fun i => if i < k then W i * n else 0) = H at hp
    show (C3 R (n : Int) (k : Int), O3_ R (n : Int) (n : Int) (n : Int) w S (n : Int) (n : Int) (mkl (ltOf n S W k)) (mkl (hvOf n S W k)) (k : Int) H,
      [PV.l (N3_0 R (n : Int) w S (mkl (ltOf n S W k)) (k : Int) H), .l (N3_1 R (n : Int) w S (mkl (hvOf n S W k)) (k : Int) H), .z (N3_2 R (n : Int) w S (k : Int) H), .l (N3_3 R (n : Int) w S (k : Int) T H), .l (N3_4 R (n : Int) w S (k : Int) H)]) = _
    unfold C3 O3_ N3_0 N3_1 N3_2 N3_3 N3_4
    rw [hw k hk, mulW h hk, hp, hat, hq, hc, zge0, al, ah, suc (by omega)]
    by_cases e : W k * n < S
    · rw [zltT e, show ltOf n S W (k + 1) = k :: ltOf n S W k from if_pos e, show hvOf n S W (k + 1) = hvOf n S W k from if_pos e, mkl_cons]; rfl
    · rw [zltF e, show ltOf n S W (k + 1) = ltOf n S W k from if_neg e, show hvOf n S W (k + 1) = k :: hvOf n S W k from if_neg e, mkl_cons]; rfl
  · exact zltF (show ¬ (n : Int) < (n : Int) by omega)

/-- The first loop of R08.New. -/
theorem refE (h : Wts n S W) (hw : Num w W n) :
    E10 R (n : Int) S w R.lnil R.lnil R.lnil R.lnil (R.zc 0) = true ∧
    L10 R (n : Int) S w R.lnil R.lnil R.lnil R.lnil (R.zc 0) =
      [.l (mk2 n (st0 n S W).T (st0 n S W).A), .l (mk1 n (st0 n S W).H), .l (mkl (st0 n S W).lt), .l (mkl (st0 n S W).hv), .z (n : Int)] := by
  have hn := h.n2
  let f : Nat → List (PD R) := fun k => [.l (mk2 k (st0 n S W).T (st0 n S W).A), .l (mk1 k (st0 n S W).H), .l (mkl (ltOf n S W k)), .l (mkl (hvOf n S W k)), .z (k : Int)]
  refine ends_path (step := G10 R (n : Int) S w) (p := [.l R.lnil, .l R.lnil, .l R.lnil, .l R.lnil, .z (R.zc 0)]) f n rfl (fun k hk => ?_) (zltF (show ¬ (n : Int) < (n : Int) by omega))
  have hc : R.zlt (k : Int) (n : Int) = true := zltT (by omega)
  have l1 := len_lt (n := n) (S := S) (W := W) k
  have l2 := len_hv (n := n) (S := S) (W := W) k
  have al : R.zle (R.llen (R.lapp (mkl (ltOf n S W k)) [[.z (k : Int)]])) (R.zc 1073741824) = true := by
    show R.zle (R.llen (mkl (ltOf n S W k) ++ [[.z (k : Int)]])) _ = true
    rw [← mkl_cons]; exact room (by rw [mkl_len, List.length_cons]; omega)
  have ah : R.zle (R.llen (R.lapp (mkl (hvOf n S W k)) [[.z (k : Int)]])) (R.zc 1073741824) = true := by
    show R.zle (R.llen (mkl (hvOf n S W k) ++ [[.z (k : Int)]])) _ = true
    rw [← mkl_cons]; exact room (by rw [mkl_len, List.length_cons]; omega)
  have p1 : R.lapp (mk1 k (st0 n S W).H) [[.z (W k * n)]] = mk1 (k + 1) (st0 n S W).H := mk1_snoc k (st0 n S W).H
  have p2 : R.lapp (mk2 k (st0 n S W).T (st0 n S W).A) [[.z S, .z (k : Int)]] = mk2 (k + 1) (st0 n S W).T (st0 n S W).A := mk2_snoc k (st0 n S W).T (st0 n S W).A
  have r1 := room (l := mk1 (k + 1) (st0 n S W).H) (by rw [mk1_len]; omega)
  have r2 := room (l := mk2 (k + 1) (st0 n S W).T (st0 n S W).A) (by rw [mk2_len]; omega)
  simp only [f]
  show (C10 R (n : Int) (k : Int), O10_ R (n : Int) S w (mk2 k (st0 n S W).T (st0 n S W).A) (mk1 k (st0 n S W).H) (mkl (ltOf n S W k)) (mkl (hvOf n S W k)) (k : Int),
    [PV.l (N10_0 R (n : Int) S w (mk2 k (st0 n S W).T (st0 n S W).A) (k : Int)), .l (N10_1 R (n : Int) S w (mk1 k (st0 n S W).H) (k : Int)), .l (N10_2 R (n : Int) S w (mkl (ltOf n S W k)) (k : Int)), .l (N10_3 R (n : Int) S w (mkl (hvOf n S W k)) (k : Int)), .z (N10_4 R (n : Int) S w (k : Int))]) = _
  unfold C10 O10_ N10_0 N10_1 N10_2 N10_3 N10_4
  rw [hw k hk, mulW h hk, p1, p2, r1, r2, hc, zge0, al, ah, suc (by omega)]
  by_cases e : W k * n < S
  · rw [zltT e, show ltOf n S W (k + 1) = k :: ltOf n S W k from if_pos e, show hvOf n S W (k + 1) = hvOf n S W k from if_pos e, mkl_cons]; rfl
  · rw [zltF e, show ltOf n S W (k + 1) = ltOf n S W k from if_neg e, show hvOf n S W (k + 1) = k :: hvOf n S W k from if_neg e, mkl_cons]; rfl

end

def e2 (n : Nat) (s : St) : List (PD R) := [.l (mkl s.lt), .l (mkl s.hv), .l (mk1 n s.H), .l (mk2 n s.T s.A)]
def e11 (n : Nat) (s : St) : List (PD R) := [.l (mk2 n s.T s.A), .l (mk1 n s.H), .l (mkl s.lt), .l (mkl s.hv)]

theorem gt0 (i : Nat) (l : List Nat) : R.zlt (R.zc 0) (R.llen (mkl (i :: l))) = true := zltT (show (0 : Int) < (((mkl (i :: l)).length : Nat) : Int) by rw [mkl_len, List.length_cons]; omega)
theorem gt0n : R.zlt (R.zc 0) (R.llen (mkl [])) = false := rfl
theorem len1 (i : Nat) (l : List Nat) (h : l.length ≤ 1024) : R.zsub .i64 (R.llen (mkl (i :: l))) (R.zc 1) = ((l.length : Nat) : Int) := by
  have : R.llen (mkl (i :: l)) = ((l.length + 1 : Nat) : Int) := by show (((mkl (i :: l)).length : Nat) : Int) = _; rw [mkl_len, List.length_cons]
  rw [this]
  exact (zsub64 (x := ((l.length + 1 : Nat) : Int)) (y := 1) ⟨by omega, by omega⟩).trans (show ((l.length + 1 : Nat) : Int) - 1 = ((l.length : Nat) : Int) by omega)

section
variable {n : Nat} {S : Int} {W : Vals}

/-- One pair of alias.New. -/
theorem pairE (hn : n ≤ 1024) (hS : 0 < S ∧ S ≤ 1073741824) {s : St} (i : Inv n S W s) (hg : go s = true) : G4 R S (n : Int) (n : Int) (e2 n s) = (true, true, e2 n (nx S s)) ∧ G11 R S (e11 n s) = (true, true, e11 n (nx S s)) := by
  obtain ⟨lt, hv, H, T, A⟩ := s
  match lt, hv, hg, i with
  | l :: ls, h :: hs, hg, i =>
    have few : ls.length + 1 + (hs.length + 1) ≤ n := i.few
    obtain ⟨hl, hl0, hl1⟩ := i.ltn l List.mem_cons_self
    obtain ⟨hh, hh0⟩ := i.hvn h List.mem_cons_self
    have htop := i.top h hh
    simp only at hl0 hl1 hh0 htop
    have hb : R.zsub .i64 S (H l) = S - H l := zsub64 ⟨by omega, by omega⟩
    have hb2 : R.zsub .i64 (H h) (S - H l) = H h - (S - H l) := zsub64 ⟨by omega, by omega⟩
    have hp := mk1_put H (H h - (S - H l)) hh
    have hq := mk2_put T A (H l) (h : Int) hl
    have hat : R.lz (mk1 n (upd H h (H h - (S - H l)))) (h : Int) 0 = H h - (S - H l) := by rw [mk1_at _ hh, upd_at]
    have c1 : R.zlt (l : Int) (n : Int) = true := zltT (by omega)
    have c2 : R.zlt (h : Int) (n : Int) = true := zltT (by omega)
    have k1 : R.zle (((ls.length : Nat)) : Int) (R.llen (mkl (l :: ls))) = true := zleT (show ((ls.length : Nat) : Int) ≤ (((mkl (l :: ls)).length : Nat) : Int) by rw [mkl_len, List.length_cons]; omega)
    have k2 : R.zle (((hs.length : Nat)) : Int) (R.llen (mkl (h :: hs))) = true := zleT (show ((hs.length : Nat) : Int) ≤ (((mkl (h :: hs)).length : Nat) : Int) by rw [mkl_len, List.length_cons]; omega)
    have k1' : R.zlt (((ls.length : Nat)) : Int) (R.llen (mkl (l :: ls))) = true := zltT (show ((ls.length : Nat) : Int) < (((mkl (l :: ls)).length : Nat) : Int) by rw [mkl_len, List.length_cons]; omega)
    have k2' : R.zlt (((hs.length : Nat)) : Int) (R.llen (mkl (h :: hs))) = true := zltT (show ((hs.length : Nat) : Int) < (((mkl (h :: hs)).length : Nat) : Int) by rw [mkl_len, List.length_cons]; omega)
    have al : R.lapp (mkl ls) [[.z (h : Int)]] = mkl (h :: ls) := (mkl_cons h ls).symm
    have ah : R.lapp (mkl hs) [[.z (h : Int)]] = mkl (h :: hs) := (mkl_cons h hs).symm
    have r1 := room (l := mkl (h :: ls)) (by rw [mkl_len, List.length_cons]; omega)
    have r2 := room (l := mkl (h :: hs)) (by rw [mkl_len, List.length_cons]; omega)
    have z1 : ∀ a : Nat, R.zeq (a : Int) (a : Int) = true := fun a => by show (_ == _) = true; simp
    constructor
    · show (C4 R (mkl (l :: ls)) (mkl (h :: hs)), O4_ R S (n : Int) (n : Int) (mkl (l :: ls)) (mkl (h :: hs)) (mk1 n H),
        [PV.l (N4_0 R S (mkl (l :: ls)) (mkl (h :: hs)) (mk1 n H)), .l (N4_1 R S (mkl (l :: ls)) (mkl (h :: hs)) (mk1 n H)), .l (N4_2 R S (mkl (l :: ls)) (mkl (h :: hs)) (mk1 n H)), .l (N4_3 R S (mkl (l :: ls)) (mkl (h :: hs)) (mk1 n H) (mk2 n T A))]) = _
      unfold C4 O4_ N4_0 N4_1 N4_2 N4_3 WO4__0 WO4__1 WO4__6 WO4__5 WO4__3 WO4__4 WO4__2
      rw [gt0, gt0, len1 l ls (by omega), len1 h hs (by omega), mkl_at, mkl_at, mk1_at H hl, mk1_at H hh, hb, hb2, hp, hat, hq, c1, c2, k1, k2, k1', k2', mkl_sub, mkl_sub, al, ah, r1, r2]
      rw [zge0 ls.length, zge0 hs.length, zge0 l, zge0 h, z1 ls.length, z1 hs.length]
      by_cases hc : H h - (S - H l) < S
      · rw [zltT hc, zleF (show ¬ S ≤ H h - (S - H l) by omega), nx_lt hc]; rfl
      · rw [zltF hc, zleT (show S ≤ H h - (S - H l) by omega), nx_ge hc]; rfl
    · have cn : ∀ x : Row, R.lcat R.lnil x = x := fun x => List.nil_append x
      have rh := room (l := mk1 n H) (by rw [mk1_len]; omega)
      have rc := room (l := mk2 n T A) (by rw [mk2_len]; omega)
      have rl := room (l := mkl ls) (by rw [mkl_len]; omega)
      have rs := room (l := mkl hs) (by rw [mkl_len]; omega)
      have q1 : R.llen (mk1 n H) = (n : Int) := by show (((mk1 n H).length : Nat) : Int) = _; rw [mk1_len]
      have q2 : R.llen (mk2 n T A) = (n : Int) := by show (((mk2 n T A).length : Nat) : Int) = _; rw [mk2_len]
      rw [q1] at rh
      rw [q2] at rc
      show (C11 R (mkl (l :: ls)) (mkl (h :: hs)), O11_ R S (mk2 n T A) (mk1 n H) (mkl (l :: ls)) (mkl (h :: hs)),
        [PV.l (N11_0 R S (mk2 n T A) (mk1 n H) (mkl (l :: ls)) (mkl (h :: hs))), .l (N11_1 R S (mk1 n H) (mkl (l :: ls)) (mkl (h :: hs))), .l (N11_2 R S (mk1 n H) (mkl (l :: ls)) (mkl (h :: hs))), .l (N11_3 R S (mk1 n H) (mkl (l :: ls)) (mkl (h :: hs)))]) = _
      unfold C11 O11_ N11_0 N11_1 N11_2 N11_3 WO11__0 WO11__1 WO11__4 WO11__5 WO11__3 WO11__2
      rw [cn (mk2 n T A), cn (mk1 n H), gt0, gt0, len1 l ls (by omega), len1 h hs (by omega), mkl_at, mkl_at, mk1_at H hl, mk1_at H hh, hb, hb2, hp, hq, q1, q2, c1, c2, k1, k2, k1', k2', mkl_sub, mkl_sub, rh]
      rw [cn (mkl ls), rl, zge0 ls.length, zge0 hs.length, zge0 l, zge0 h]
      try rw [cn (mkl hs), rs]
      try rw [al, r1]
      by_cases hc : H h - (S - H l) < S
      · rw [zltT hc, nx_lt hc]; rfl
      · rw [zltF hc, nx_ge hc]; rfl

theorem pairsE (h : Wts n S W) : ∃ s : St, Inv n S W s ∧ go s = false ∧
    (E4 R S (n : Int) (n : Int) (mkl (st0 n S W).lt) (mkl (st0 n S W).hv) (mk1 n (st0 n S W).H) (mk2 n (st0 n S W).T (st0 n S W).A) = true ∧
     L4 R S (n : Int) (n : Int) (mkl (st0 n S W).lt) (mkl (st0 n S W).hv) (mk1 n (st0 n S W).H) (mk2 n (st0 n S W).T (st0 n S W).A) = e2 n s) ∧
    (E11 R S (mk2 n (st0 n S W).T (st0 n S W).A) (mk1 n (st0 n S W).H) (mkl (st0 n S W).lt) (mkl (st0 n S W).hv) = true ∧
     L11 R S (mk2 n (st0 n S W).T (st0 n S W).A) (mk1 n (st0 n S W).H) (mkl (st0 n S W).lt) (mkl (st0 n S W).hv) = e11 n s) := by
  obtain ⟨k, k1, k2, k3⟩ := run _ (st0 n S W) (Nat.le_refl _) h.inv0
  have hS : 0 < S ∧ S ≤ 1073741824 := ⟨h.pos, h.top⟩
  have stop : ∀ s : St, go s = false → R.bite (R.zlt (R.zc 0) (R.llen (mkl s.lt))) (R.zlt (R.zc 0) (R.llen (mkl s.hv))) (R.bc false) = false := by
    rintro ⟨lt, hv, H, T, A⟩ hg
    match lt, hv, hg with
    | [], _, _ => rfl
    | l :: ls, [], _ => show R.bite (R.zlt (R.zc 0) (R.llen (mkl (l :: ls)))) (R.zlt (R.zc 0) (R.llen (mkl []))) (R.bc false) = false; rw [gt0, gt0n]; rfl
    | _ :: _, _ :: _, hg => cases hg
  refine ⟨itS S k (st0 n S W), k3, k2, ?_, ?_⟩
  · exact ends_path (step := G4 R S (n : Int) (n : Int)) (p := e2 n (st0 n S W)) (fun i => e2 n (itS S i (st0 n S W))) k rfl
      (fun i hi => by rw [itS_succ]; exact (pairE h.n2 hS (k1 i hi).2 (k1 i hi).1).1) (stop _ k2)
  · exact ends_path (step := G11 R S) (p := e11 n (st0 n S W)) (fun i => e11 n (itS S i (st0 n S W))) k rfl
      (fun i hi => by rw [itS_succ]; exact (pairE h.n2 hS (k1 i hi).2 (k1 i hi).1).2) (stop _ k2)

end

end Go.Proofs.Ytjmanmdkdgnfmaa
