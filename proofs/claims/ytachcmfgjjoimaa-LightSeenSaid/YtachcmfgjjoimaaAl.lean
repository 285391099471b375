/- Weights, tables and the loops that make them. -/
import Derived.Test.YtachcmfgjjoimaaSp
import Derived.Test.YtachcmfgjjoimaaEv5
namespace Go.Proofs.Ytachcmfgjjoimaa
open Go.Ev

theorem numberE (x : Fl) : S69_0 R x = S57_0 R x := number_iff x

theorem finPos {b m : Nat} {e : Int} (h : f64.read b = .number false m e) (hm : m ≠ 0) : ∃ k, fin (cls b) k ∧ 0 < k := by
  have hb := key_bound h
  refine ⟨_, ⟨by rw [cls_key, h]; rfl, hb.2, hb.1⟩, ?_⟩
  rw [Ieee.signed]
  have : 0 < m <<< (e + 1074).toNat := by rw [Nat.shiftLeft_eq]; exact Nat.mul_pos (Nat.pos_of_ne_zero hm) (Nat.two_pow_pos _)
  generalize m <<< (e + 1074).toNat = M at this ⊢
  simp only [Bool.false_eq_true, if_false]
  omega

theorem numFin {a : Fl} (h : S57_0 R a = true) : ∃ k, fin a k := (rnum_iff a).1 h

theorem goodE (a b c : Fl) : S39_0 R a b c = S28_0 R a b c := by
  unfold S39_0 S28_0 S68_0
  rw [numberE, numberE, numberE]
  generalize S57_0 R a = p
  generalize S57_0 R b = q
  generalize S57_0 R c = r
  generalize R.fge a (R.fc 0) = u
  generalize R.fge b (R.fc 0) = v
  generalize R.fge c (R.fc 0) = w
  cases p <;> cases q <;> cases r <;> cases u <;> cases v <;> cases w <;> rfl

theorem goodFin {a b c : Fl} (h : S28_0 R a b c = true) : (∃ k, fin a k ∧ 0 ≤ k) ∧ (∃ k, fin b k ∧ 0 ≤ k) ∧ (∃ k, fin c k ∧ 0 ≤ k) := by
  have one : ∀ x : Fl, S57_0 R x = true → R.fge x (R.fc 0) = true → ∃ k, fin x k ∧ 0 ≤ k := by
    intro x h1 h2
    obtain ⟨k, hk⟩ := numFin h1
    obtain ⟨i, j, g1, g2, g3⟩ := (fge_iff _ _).1 h2
    rw [hk.1] at g1; cases g1
    have g2' : fkey (cls 0) = some j := g2
    rw [fkey_zero] at g2'; cases g2'
    exact ⟨k, hk, g3⟩
  unfold S28_0 at h
  revert h
  have oa := one a
  have ob := one b
  have oc := one c
  generalize S57_0 R a = p at *
  generalize S57_0 R b = q at *
  generalize S57_0 R c = r at *
  generalize R.fge a (R.fc 0) = u at *
  generalize R.fge b (R.fc 0) = v at *
  generalize R.fge c (R.fc 0) = w at *
  intro h
  cases p <;> cases q <;> cases r <;> cases u <;> cases v <;> cases w <;> first | (cases h; done) | exact ⟨oa rfl rfl, ob rfl rfl, oc rfl rfl⟩

theorem meanKey {a b c : Fl} {i j k : Int} (ha : nk a i) (hb : nk b j) (hc : nk c k) : ∃ s, nk (R.fmul (S76_0 R a b c) (R.fc 4625196817309499392)) s := by
  unfold S76_0
  obtain ⟨s1, h1, _⟩ := nk_add ha hb
  obtain ⟨s2, h2, _⟩ := nk_add h1 hc
  obtain ⟨k3, h3, p3⟩ := finPos (b := 4613937818241073152) (by decide +kernel : f64.read 4613937818241073152 = .number false 6755399441055744 (-51)) (by decide)
  obtain ⟨k16, h16, p16⟩ := finPos (b := 4625196817309499392) (by decide +kernel : f64.read 4625196817309499392 = .number false 4503599627370496 (-48)) (by decide)
  obtain ⟨s3, h4, _⟩ := nk_div h2 h3 p3
  obtain ⟨s4, h5, _⟩ := nk_mul h4 h16 p16
  exact ⟨s4, h5⟩

theorem maxFin : ∃ k, fin (cls 4697254411347427328) k ∧ 0 < k ∧ flint (cls 4697254411347427328) = some 1048576 := by
  obtain ⟨k, h, p⟩ := finPos (b := 4697254411347427328) (by decide +kernel : f64.read 4697254411347427328 = .number false 4503599627370496 (-32)) (by decide)
  exact ⟨k, h, p, by kernel_rfl⟩

theorem oneFin : ∃ k, fin (cls 4607182418800017408) k ∧ 0 < k ∧ flint (cls 4607182418800017408) = some 1 := by
  obtain ⟨k, h, p⟩ := finPos (b := 4607182418800017408) (by decide +kernel : f64.read 4607182418800017408 = .number false 4503599627370496 (-52)) (by decide)
  exact ⟨k, h, p, by kernel_rfl⟩

/-- A light's number below the greatest one has a whole part. -/
theorem partOk {m : Fl} {s : Int} (hm : nk m s) (h : R.fge m (R.fc 4697254411347427328) = false) : ∃ i, flint m = some i ∧ 0 ≤ i ∧ i ≤ 1048576 ∧ fin m s := by
  obtain ⟨k, hk, p, fl⟩ := maxFin
  have hlt : s < k := by
    refine Int.not_le.1 fun g => ?_
    have : R.fge m (R.fc 4697254411347427328) = true := (fge_iff _ _).2 ⟨s, k, hm.1, hk.1, g⟩
    rw [h] at this; cases this
  have hf : fin m s := nk_fin hm (by have := hk.2.2; omega)
  obtain ⟨i, j, e1, e2, e3, e4⟩ := flint_mono hf hk hm.2 (Int.le_of_lt hlt)
  rw [fl] at e2; cases e2
  exact ⟨i, e1, e3, e4, hf⟩

theorem iokOf {m : Fl} {i : Int} (h : flint m = some i) (h0 : 0 ≤ i) (h1 : i ≤ 1048576) : R.f2iok .i64 m = true ∧ R.f2i .i64 m = i := by
  constructor
  · show (match flint m with | some n => decide (IntKind.i64.min ≤ n ∧ n ≤ IntKind.i64.max) | none => false) = true
    rw [h]
    have a : IntKind.i64.min = -9223372036854775808 := by decide
    have b : IntKind.i64.max = 9223372036854775807 := by decide
    simp only [a, b, decide_eq_true_eq]
    omega
  · show (flint m).getD 0 = i
    rw [h]; rfl

theorem blackE (a b c : Fl) : S74_0 R a b c = (if R.feq a (R.fc 0) then if R.feq b (R.fc 0) then R.feq c (R.fc 0) else false else false) := by
  unfold S74_0
  generalize R.feq a (R.fc 0) = u
  generalize R.feq b (R.fc 0) = v
  generalize R.feq c (R.fc 0) = w
  cases u <;> cases v <;> cases w <;> rfl

theorem weightE (a b c : Fl) : O45 R a b c = true ∧ O46 R a b c = true ∧ S45_0 R a b c = S46_0 R a b c ∧ 0 ≤ S46_0 R a b c ∧ S46_0 R a b c ≤ 1048576 ∧
    (S28_0 R a b c = true → (0 < S46_0 R a b c ↔ S74_0 R a b c = false)) := by
  have hm : S75_0 R a b c = S76_0 R a b c := rfl
  unfold O45 O46 S45_0 S46_0
  rw [goodE, hm]
  have hbk := blackE a b c
  generalize S74_0 R a b c = bk at *
  have hbk' : R.bite (R.feq a (R.fc 0)) (R.bite (R.feq b (R.fc 0)) (R.feq c (R.fc 0)) (R.bc false)) (R.bc false) = bk := hbk.symm
  rw [hbk']
  cases hg : S28_0 R a b c with
  | false => exact ⟨rfl, rfl, rfl, (by decide : (0 : Int) ≤ 0), (by decide : (0 : Int) ≤ 1048576), fun h => by cases h⟩
  | true =>
    cases bk with
    | true => exact ⟨rfl, rfl, rfl, (by decide : (0 : Int) ≤ 0), (by decide : (0 : Int) ≤ 1048576), fun _ => ⟨fun h => absurd h (by decide : ¬ (0 : Int) < 0), fun h => by cases h⟩⟩
    | false =>
      obtain ⟨⟨i, hi, i0⟩, ⟨j, hj, j0⟩, ⟨k, hk, k0⟩⟩ := goodFin hg
      obtain ⟨s, hs⟩ := meanKey ⟨hi.1, i0⟩ ⟨hj.1, j0⟩ ⟨hk.1, k0⟩
      generalize R.fmul (S76_0 R a b c) (R.fc 4625196817309499392) = m at *
      cases hge : R.fge m (R.fc 4697254411347427328) with
      | true => exact ⟨rfl, rfl, rfl, (by decide : (0 : Int) ≤ 1048576), (by decide : (1048576 : Int) ≤ 1048576), fun _ => ⟨fun _ => rfl, fun _ => (by decide : (0 : Int) < 1048576)⟩⟩
      | false =>
        obtain ⟨n, hn, n0, n1, hf⟩ := partOk hs hge
        obtain ⟨o1, o2⟩ := iokOf hn n0 n1
        obtain ⟨k1, hk1, p1, f1⟩ := oneFin
        rw [o1, o2]
        cases hlt : R.flt m (R.fc 4607182418800017408) with
        | true =>
          obtain ⟨x, y, e1, e2, e3⟩ := (flt_iff _ _).1 hlt
          rw [hs.1] at e1; cases e1
          have e2' : fkey (cls 4607182418800017408) = some y := e2
          rw [hk1.1] at e2'; cases e2'
          obtain ⟨i', j', q1, q2, q3, q4⟩ := flint_mono hf hk1 hs.2 (Int.le_of_lt e3)
          rw [hn] at q1; cases q1
          rw [f1] at q2; cases q2
          refine ⟨rfl, rfl, ?_, (by decide : (0 : Int) ≤ 1), (by decide : (1 : Int) ≤ 1048576), fun _ => ⟨fun _ => rfl, fun _ => (by decide : (0 : Int) < 1)⟩⟩
          show (if (1 : Int) > n then (1 : Int) else n) = 1
          split <;> omega
        | false =>
          have hle : k1 ≤ s := by
            refine Int.not_lt.1 fun g => ?_
            have : R.flt m (R.fc 4607182418800017408) = true := (flt_iff _ _).2 ⟨s, k1, hs.1, hk1.1, g⟩
            rw [hlt] at this; cases this
          obtain ⟨i', j', q1, q2, q3, q4⟩ := flint_mono hk1 hf (Int.le_of_lt p1) hle
          rw [hn] at q2; cases q2
          rw [f1] at q1; cases q1
          refine ⟨rfl, rfl, ?_, n0, n1, fun _ => ⟨fun _ => rfl, fun _ => ?_⟩⟩
          · show (if (1 : Int) > n then (1 : Int) else n) = n
            split <;> omega
          · show (0 : Int) < n
            omega

abbrev Vals := Nat → Int
def upd (f : Vals) (i : Nat) (v : Int) : Vals := fun j => if j = i then v else f j
theorem upd_at (f : Vals) (i : Nat) (v : Int) : upd f i v i = v := by unfold upd; rw [if_pos rfl]
theorem upd_ne (f : Vals) {i j : Nat} (v : Int) (h : j ≠ i) : upd f i v j = f j := by unfold upd; rw [if_neg h]

/-- A row of numbers, of which the last one is the list's first. -/
def mkl (l : List Nat) : Row := l.reverse.map fun (i : Nat) => [.z (i : Int)]
def mk1 (n : Nat) (f : Vals) : Row := (List.range n).map fun i => [.z (f i)]
def mk2 (n : Nat) (f g : Vals) : Row := (List.range n).map fun i => [.z (f i), .z (g i)]

theorem mkl_cons (i : Nat) (l : List Nat) : mkl (i :: l) = mkl l ++ [[.z (i : Int)]] := by unfold mkl; simp
theorem mkl_len (l : List Nat) : (mkl l).length = l.length := by unfold mkl; simp
theorem mk1_len (n : Nat) (f : Vals) : (mk1 n f).length = n := by unfold mk1; simp
theorem mk2_len (n : Nat) (f g : Vals) : (mk2 n f g).length = n := by unfold mk2; simp
theorem mk1_congr {n : Nat} {f g : Vals} (h : ∀ i, i < n → f i = g i) : mk1 n f = mk1 n g := by
  unfold mk1
  exact List.map_congr_left fun i hi => by rw [h i (List.mem_range.1 hi)]
theorem mk2_congr {n : Nat} {f g f' g' : Vals} (h : ∀ i, i < n → f i = f' i ∧ g i = g' i) : mk2 n f g = mk2 n f' g' := by
  unfold mk2
  exact List.map_congr_left fun i hi => by rw [(h i (List.mem_range.1 hi)).1, (h i (List.mem_range.1 hi)).2]
theorem mk1_snoc (n : Nat) (f : Vals) : mk1 n f ++ [[.z (f n)]] = mk1 (n + 1) f := by
  unfold mk1; rw [List.range_succ, List.map_append]; rfl
theorem mk2_snoc (n : Nat) (f g : Vals) : mk2 n f g ++ [[.z (f n), .z (g n)]] = mk2 (n + 1) f g := by
  unfold mk2; rw [List.range_succ, List.map_append]; rfl

theorem mk1_at {n i : Nat} (f : Vals) (h : i < n) : R.lz (mk1 n f) (i : Int) 0 = f i := by
  show Row.int (mk1 n f) (i : Int) 0 = _
  unfold Row.int Row.cell mk1
  simp [h]
theorem mk2_at0 {n i : Nat} (f g : Vals) (h : i < n) : R.lz (mk2 n f g) (i : Int) 0 = f i := by
  show Row.int (mk2 n f g) (i : Int) 0 = _
  unfold Row.int Row.cell mk2
  simp [h]
theorem mk2_at1 {n i : Nat} (f g : Vals) (h : i < n) : R.lz (mk2 n f g) (i : Int) 1 = g i := by
  show Row.int (mk2 n f g) (i : Int) 1 = _
  unfold Row.int Row.cell mk2
  simp [h]
theorem mkl_at (i : Nat) (l : List Nat) : R.lz (mkl (i :: l)) ((l.length : Nat) : Int) 0 = (i : Int) := by
  show Row.int (mkl (i :: l)) _ 0 = _
  rw [mkl_cons]
  unfold Row.int Row.cell
  have : (mkl l ++ [[Go.Ev.CV.z (i : Int)]])[((l.length : Nat) : Int).toNat]? = some [.z (i : Int)] := by
    rw [Int.toNat_natCast, List.getElem?_append_right (by rw [mkl_len]; exact Nat.le_refl _), mkl_len, Nat.sub_self]; rfl
  rw [this]; rfl
theorem mkl_sub (i : Nat) (l : List Nat) : R.lsub (mkl (i :: l)) (R.zc 0) ((l.length : Nat) : Int) = mkl l := by
  show ((mkl (i :: l)).drop (0 : Int).toNat).take (((l.length : Nat) : Int) - 0).toNat = mkl l
  rw [mkl_cons]
  simp
  rw [← mkl_len l]
  simp

theorem mk1_put {n i : Nat} (f : Vals) (v : Int) (_h : i < n) : R.lput (mk1 n f) (i : Int) 0 [.z v] = mk1 n (upd f i v) := by
  show Row.put (mk1 n f) (i : Int) 0 [.z v] = _
  unfold Row.put
  apply List.ext_getElem?
  intro k
  rw [Int.toNat_natCast, List.getElem?_modify]
  unfold mk1 upd layOn
  by_cases hk : k < n
  · by_cases e : i = k
    · subst e; simp [hk]
    · have e' : ¬ k = i := fun q => e q.symm
      simp [hk, e, e']
  · have : (List.range n)[k]? = none := by simp; omega
    simp [this]
theorem mk2_put {n i : Nat} (f g : Vals) (v w : Int) (_h : i < n) : R.lput (mk2 n f g) (i : Int) 0 [.z v, .z w] = mk2 n (upd f i v) (upd g i w) := by
  show Row.put (mk2 n f g) (i : Int) 0 [.z v, .z w] = _
  unfold Row.put
  apply List.ext_getElem?
  intro k
  rw [Int.toNat_natCast, List.getElem?_modify]
  unfold mk2 upd layOn
  by_cases hk : k < n
  · by_cases e : i = k
    · subst e; simp [hk]
    · have e' : ¬ k = i := fun q => e q.symm
      simp [hk, e, e']
  · have : (List.range n)[k]? = none := by simp; omega
    simp [this]
theorem rep1 (n : Nat) : R.lrep (n : Int) [.z (R.zc 0)] = mk1 n fun _ => 0 := by
  show List.replicate (n : Int).toNat _ = _
  rw [Int.toNat_natCast]
  unfold mk1
  apply List.ext_getElem?
  intro k
  by_cases hk : k < n
  · simp [hk]
  · have : (List.range n)[k]? = none := by simp; omega
    simp [this]; omega
theorem rep2 (n : Nat) : R.lrep (n : Int) [.z (R.zc 0), .z (R.zc 0)] = mk2 n (fun _ => 0) fun _ => 0 := by
  show List.replicate (n : Int).toNat _ = _
  rw [Int.toNat_natCast]
  unfold mk2
  apply List.ext_getElem?
  intro k
  by_cases hk : k < n
  · simp [hk]
  · have : (List.range n)[k]? = none := by simp; omega
    simp [this]; omega

/-- Sums. -/
def sm (f : Vals) : Nat → Int
  | 0 => 0
  | n + 1 => sm f n + f n
theorem sm_congr {f g : Vals} : ∀ {n : Nat}, (∀ i, i < n → f i = g i) → sm f n = sm g n
  | 0, _ => rfl
  | n + 1, h => by unfold sm; rw [sm_congr fun i hi => h i (by omega), h n (by omega)]
theorem sm_upd {f : Vals} {i : Nat} {v : Int} : ∀ {n : Nat}, i < n → sm (upd f i v) n = sm f n + (v - f i)
  | 0, h => by omega
  | n + 1, h => by
    unfold sm
    by_cases e : i = n
    · subst e
      rw [upd_at, sm_congr (g := f) fun j hj => upd_ne f v (by omega)]
      omega
    · rw [sm_upd (by omega), upd_ne f v (by omega)]; omega
theorem sm_zero {f : Vals} : ∀ {n : Nat}, (∀ i, i < n → f i = 0) → sm f n = 0
  | 0, _ => rfl
  | n + 1, h => by unfold sm; rw [sm_zero fun i hi => h i (by omega), h n (by omega)]; rfl
theorem sm_nonneg {f : Vals} : ∀ {n : Nat}, (∀ i, i < n → 0 ≤ f i) → 0 ≤ sm f n
  | 0, _ => Int.le_refl _
  | n + 1, h => by unfold sm; have := sm_nonneg (f := f) (n := n) fun i hi => h i (by omega); have := h n (by omega); omega
theorem sm_ge {f : Vals} : ∀ {n : Nat}, (∀ i, i < n → 0 ≤ f i) → ∀ i, i < n → f i ≤ sm f n
  | 0, _, i, hi => by omega
  | n + 1, h, i, hi => by
    unfold sm
    have := h n (by omega)
    by_cases e : i = n
    · subst e; have := sm_nonneg (f := f) (n := i) fun j hj => h j (by omega); omega
    · have := sm_ge (f := f) (n := n) (fun j hj => h j (by omega)) i (by omega); omega
theorem sm_all {f : Vals} {n : Nat} (h : ∀ i, i < n → 0 ≤ f i) (h0 : sm f n = 0) : ∀ i, i < n → f i = 0 := fun i hi => by
  have := sm_ge h i hi; have := h i hi; omega
theorem sm_neg {f : Vals} : ∀ {n : Nat}, sm (fun i => -f i) n = -sm f n
  | 0 => rfl
  | n + 1 => by unfold sm; rw [sm_neg]; omega
theorem sm_lin {f : Vals} {a b : Int} : ∀ {n : Nat}, sm (fun i => f i * a - b) n = sm f n * a - (n : Int) * b
  | 0 => by simp [sm]
  | n + 1 => by
    unfold sm
    rw [sm_lin, Int.add_mul, show ((n + 1 : Nat) : Int) = (n : Int) + 1 by omega, Int.add_mul]
    omega
theorem sm_bound {f : Vals} {a : Int} : ∀ {n : Nat}, (∀ i, i < n → f i ≤ a) → sm f n ≤ (n : Int) * a
  | 0, _ => by simp [sm]
  | n + 1, h => by
    unfold sm
    have := sm_bound (f := f) (a := a) (n := n) fun i hi => h i (by omega)
    have := h n (by omega)
    rw [show ((n + 1 : Nat) : Int) = (n : Int) + 1 by omega, Int.add_mul]
    omega

/-- How far the columns are. -/
structure St where
  lt : List Nat
  hv : List Nat
  H : Vals
  T : Vals
  A : Vals

def nx (S : Int) : St → St
  | ⟨l :: ls, h :: hs, H, T, A⟩ =>
    if H h - (S - H l) < S then ⟨h :: ls, hs, upd H h (H h - (S - H l)), upd T l (H l), upd A l (h : Int)⟩
    else ⟨ls, h :: hs, upd H h (H h - (S - H l)), upd T l (H l), upd A l (h : Int)⟩
  | s => s

theorem nx_lt {S : Int} {l h : Nat} {ls hs : List Nat} {H T A : Vals} (hc : H h - (S - H l) < S) : nx S ⟨l :: ls, h :: hs, H, T, A⟩ = ⟨h :: ls, hs, upd H h (H h - (S - H l)), upd T l (H l), upd A l (h : Int)⟩ := by
  show (if H h - (S - H l) < S then _ else _) = _
  rw [if_pos hc]
theorem nx_ge {S : Int} {l h : Nat} {ls hs : List Nat} {H T A : Vals} (hc : ¬ H h - (S - H l) < S) : nx S ⟨l :: ls, h :: hs, H, T, A⟩ = ⟨ls, h :: hs, upd H h (H h - (S - H l)), upd T l (H l), upd A l (h : Int)⟩ := by
  show (if H h - (S - H l) < S then _ else _) = _
  rw [if_neg hc]

def go (s : St) : Bool := match s.lt, s.hv with
  | _ :: _, _ :: _ => true
  | _, _ => false

structure Inv (n : Nat) (S : Int) (W : Vals) (s : St) : Prop where
  nodup : (s.lt ++ s.hv).Nodup
  ltn : ∀ i, i ∈ s.lt → i < n ∧ 0 ≤ s.H i ∧ s.H i < S
  hvn : ∀ i, i ∈ s.hv → i < n ∧ S ≤ s.H i
  alive : ∀ i, i ∈ s.lt ++ s.hv → s.T i = S ∧ s.A i = (i : Int)
  done : ∀ i, i < n → i ∉ s.lt ++ s.hv → s.T i = s.H i ∧ 0 ≤ s.H i ∧ s.H i < S
  rng : ∀ i, i < n → 0 ≤ s.T i ∧ s.T i ≤ S ∧ 0 ≤ s.A i ∧ s.A i < (n : Int)
  top : ∀ i, i < n → s.H i ≤ 1099511627776
  mean : ∀ j, j < n → s.H j + sm (fun i => if s.A i = (j : Int) then S - s.T i else 0) n = W j * n
  bal : sm (fun i => if i ∈ s.lt ++ s.hv then s.H i - S else 0) n = 0
  few : s.lt.length + s.hv.length ≤ n

theorem Inv.step {n : Nat} {S : Int} {W : Vals} {l h : Nat} {ls hs : List Nat} {H T A : Vals} (i : Inv n S W ⟨l :: ls, h :: hs, H, T, A⟩) : Inv n S W (nx S ⟨l :: ls, h :: hs, H, T, A⟩) := by
  obtain ⟨nodup, ltn, hvn, alive, done, rng, top, mean, bal, few⟩ := i
  have hl := ltn l List.mem_cons_self
  have hh := hvn h List.mem_cons_self
  simp only at hl hh
  have nd := nodup
  simp only [List.cons_append, List.nodup_cons, List.nodup_append, List.mem_append, List.mem_cons, not_or] at nd
  have hlh : l ≠ h := nd.1.2.1
  have al := alive l (by simp)
  have ah := alive h (by simp)
  simp only at al ah
  have hHl : upd H h (H h - (S - H l)) l = H l := upd_ne H _ hlh
  -- what is common to both ways
  have key : ∀ lt hv : List Nat, (∀ i, i ∈ lt ++ hv ↔ i ∈ (l :: ls) ++ (h :: hs) ∧ i ≠ l) → (lt ++ hv).Nodup →
      (∀ i, i ∈ lt → i < n ∧ 0 ≤ upd H h (H h - (S - H l)) i ∧ upd H h (H h - (S - H l)) i < S) →
      (∀ i, i ∈ hv → i < n ∧ S ≤ upd H h (H h - (S - H l)) i) → lt.length + hv.length ≤ n →
      Inv n S W ⟨lt, hv, upd H h (H h - (S - H l)), upd T l (H l), upd A l (h : Int)⟩ := by
    intro lt hv hmem hnd h1 h2 h3
    refine ⟨hnd, h1, h2, fun i hi => ?_, fun i hi hn => ?_, fun i hi => ?_, fun i hi => ?_, fun j hj => ?_, ?_, h3⟩
    · obtain ⟨m1, m2⟩ := (hmem i).1 hi
      exact ⟨(upd_ne T _ m2).trans (alive i m1).1, (upd_ne A _ m2).trans (alive i m1).2⟩
    · simp only at hn ⊢
      by_cases e : i = l
      · subst e; rw [upd_at, hHl]; exact ⟨rfl, hl.2⟩
      · have hm : i ∉ (l :: ls) ++ (h :: hs) := fun q => hn ((hmem i).2 ⟨q, e⟩)
        have hih : i ≠ h := fun q => hm (by subst q; simp)
        rw [upd_ne T _ e, upd_ne H _ hih]
        exact done i hi hm
    · simp only
      by_cases e : i = l
      · subst e; rw [upd_at, upd_at]; exact ⟨hl.2.1, by omega, by omega, by omega⟩
      · rw [upd_ne T _ e, upd_ne A _ e]; exact rng i hi
    · simp only
      by_cases e : i = h
      · subst e; rw [upd_at]; have := top i hi; simp only at this; omega
      · rw [upd_ne H _ e]; exact top i hi
    · simp only
      have hm := mean j hj
      simp only at hm
      have hfun : sm (fun i => if upd A l (h : Int) i = (j : Int) then S - upd T l (H l) i else 0) n = sm (upd (fun i => if A i = (j : Int) then S - T i else 0) l (if (h : Int) = (j : Int) then S - H l else 0)) n := by
        refine sm_congr fun i _ => ?_
        by_cases e : i = l
        · subst e; rw [upd_at, upd_at, upd_at]
        · rw [upd_ne A _ e, upd_ne T _ e, upd_ne _ _ e]
      rw [hfun, sm_upd hl.1]
      have hz : (if A l = (j : Int) then S - T l else 0) = 0 := by rw [al.1]; split <;> omega
      rw [hz]
      by_cases e : j = h
      · subst e; rw [upd_at, if_pos rfl]; omega
      · rw [upd_ne H _ e, if_neg (by omega)]; omega
    · simp only
      have hfun : sm (fun i => if i ∈ lt ++ hv then upd H h (H h - (S - H l)) i - S else 0) n = sm (upd (upd (fun i => if i ∈ (l :: ls) ++ (h :: hs) then H i - S else 0) l 0) h (H h - S - (S - H l))) n := by
        refine sm_congr fun i _ => ?_
        by_cases e : i = h
        · subst e
          rw [upd_at, upd_at, if_pos ((hmem i).2 ⟨by simp, fun q => hlh q.symm⟩)]; omega
        · rw [upd_ne _ _ e, upd_ne _ _ e]
          by_cases e2 : i = l
          · subst e2
            rw [upd_at, if_neg fun q => ((hmem i).1 q).2 rfl]
          · rw [upd_ne _ _ e2]
            by_cases m : i ∈ (l :: ls) ++ (h :: hs)
            · rw [if_pos ((hmem i).2 ⟨m, e2⟩), if_pos m]
            · rw [if_neg fun q => m ((hmem i).1 q).1, if_neg m]
      rw [hfun, sm_upd hh.1, sm_upd hl.1, upd_ne _ _ (Ne.symm hlh), if_pos (show h ∈ (l :: ls) ++ (h :: hs) by simp), if_pos (show l ∈ (l :: ls) ++ (h :: hs) by simp)]
      have hb : sm (fun i => if i ∈ (l :: ls) ++ (h :: hs) then H i - S else 0) n = 0 := bal
      rw [hb]; omega
  have few' : ls.length + 1 + (hs.length + 1) ≤ n := few
  by_cases hc : H h - (S - H l) < S
  · rw [nx_lt hc]
    refine key _ _ (fun i => ?_) ?_ (fun i hi => ?_) (fun i hi => ?_) (by simp only [List.length_cons]; omega)
    · simp only [List.cons_append, List.mem_cons, List.mem_append]
      constructor
      · rintro (rfl | q | q)
        · exact ⟨.inr (.inr (.inl rfl)), Ne.symm hlh⟩
        · exact ⟨.inr (.inl q), fun e => nd.1.1 (e ▸ q)⟩
        · exact ⟨.inr (.inr (.inr q)), fun e => nd.1.2.2 (e ▸ q)⟩
      · rintro ⟨q | q | q | q, e⟩
        · exact absurd q e
        · exact .inr (.inl q)
        · exact .inl q
        · exact .inr (.inr q)
    · simp only [List.cons_append, List.nodup_cons, List.nodup_append, List.mem_append, not_or]
      obtain ⟨_, p2, ⟨p3, p4⟩, p5⟩ := nd
      refine ⟨⟨fun q => (p5 h q h (.inl rfl)) rfl, p3⟩, p2, p4, fun a ha b hb => p5 a ha b (.inr hb)⟩
    · rcases List.mem_cons.1 hi with rfl | q
      · rw [upd_at]; exact ⟨hh.1, by omega, hc⟩
      · have hne : i ≠ h := fun e => nd.2.2.2 i q h (.inl rfl) e
        rw [upd_ne H _ hne]; exact ltn i (List.mem_cons_of_mem _ q)
    · have hne : i ≠ h := fun e => nd.2.2.1.1 (e ▸ hi)
      rw [upd_ne H _ hne]; exact hvn i (List.mem_cons_of_mem _ hi)
  · rw [nx_ge hc]
    refine key _ _ (fun i => ?_) ?_ (fun i hi => ?_) (fun i hi => ?_) (by simp only [List.length_cons]; omega)
    · simp only [List.cons_append, List.mem_cons, List.mem_append]
      constructor
      · rintro (q | rfl | q)
        · exact ⟨.inr (.inl q), fun e => nd.1.1 (e ▸ q)⟩
        · exact ⟨.inr (.inr (.inl rfl)), Ne.symm hlh⟩
        · exact ⟨.inr (.inr (.inr q)), fun e => nd.1.2.2 (e ▸ q)⟩
      · rintro ⟨q | q | q | q, e⟩
        · exact absurd q e
        · exact .inl q
        · exact .inr (.inl q)
        · exact .inr (.inr q)
    · exact (List.nodup_cons.1 nodup).2
    · have hne : i ≠ h := fun e => nd.2.2.2 i hi h (.inl rfl) e
      rw [upd_ne H _ hne]; exact ltn i (List.mem_cons_of_mem _ hi)
    · rcases List.mem_cons.1 hi with rfl | q
      · rw [upd_at]; exact ⟨hh.1, by omega⟩
      · have hne : i ≠ h := fun e => nd.2.2.1.1 (e ▸ q)
        rw [upd_ne H _ hne]; exact hvn i (List.mem_cons_of_mem _ q)

def itS (S : Int) : Nat → St → St
  | 0, s => s
  | k + 1, s => itS S k (nx S s)

theorem itS_succ (S : Int) : ∀ (k : Nat) (s : St), itS S (k + 1) s = nx S (itS S k s)
  | 0, _ => rfl
  | k + 1, s => by show itS S (k + 1) (nx S s) = _; rw [itS_succ S k]; rfl

theorem run {n : Nat} {S : Int} {W : Vals} : ∀ (m : Nat) (s : St), s.lt.length + s.hv.length ≤ m → Inv n S W s → ∃ k, (∀ i, i < k → go (itS S i s) = true ∧ Inv n S W (itS S i s)) ∧ go (itS S k s) = false ∧ Inv n S W (itS S k s)
  | 0, s, hm, hi => ⟨0, fun i h => by omega, by
      obtain ⟨lt, hv, H, T, A⟩ := s
      have : lt = [] := by cases lt with
        | nil => rfl
        | cons _ _ => simp at hm
      subst this; rfl, hi⟩
  | m + 1, s, hm, hi => by
    cases hg : go s with
    | false => exact ⟨0, fun i h => by omega, hg, hi⟩
    | true =>
      obtain ⟨lt, hv, H, T, A⟩ := s
      match lt, hv, hg, hm, hi with
      | l :: ls, h :: hs, hg, hm, hi =>
        have hn := hi.step
        obtain ⟨k, k1, k2, k3⟩ := run m (nx S ⟨l :: ls, h :: hs, H, T, A⟩) (by
          simp only [List.length_cons] at hm
          by_cases hc : H h - (S - H l) < S
          · rw [nx_lt hc]
            show (h :: ls).length + hs.length ≤ m
            rw [List.length_cons]; omega
          · rw [nx_ge hc]
            show ls.length + (h :: hs).length ≤ m
            rw [List.length_cons]; omega) hn
        refine ⟨k + 1, fun i h => ?_, k2, k3⟩
        cases i with
        | zero => exact ⟨hg, hi⟩
        | succ i => exact k1 i (by omega)

/-- Behind the last pair each option is meant by as many numbers as it should. -/
theorem Inv.fin {n : Nat} {S : Int} {W : Vals} {s : St} (i : Inv n S W s) (hg : go s = false) : ∀ j, j < n → s.T j + sm (fun i => if s.A i = (j : Int) then S - s.T i else 0) n = W j * n := by
  intro j hj
  have hT : s.T j = s.H j := by
    by_cases m : j ∈ s.lt ++ s.hv
    · rw [(i.alive j m).1]
      have hb := i.bal
      cases hlt : s.lt with
      | nil =>
        have := sm_all (f := fun i => if i ∈ s.lt ++ s.hv then s.H i - S else 0) (n := n) (fun k hk => by
          split
          · rename_i q
            rw [hlt] at q
            have := i.hvn k q
            omega
          · omega) hb j hj
        simp only [if_pos m] at this
        omega
      | cons a b =>
        have hhv : s.hv = [] := by
          unfold go at hg
          rw [hlt] at hg
          cases h : s.hv with
          | nil => rfl
          | cons _ _ => rw [h] at hg; cases hg
        have hb' : sm (fun k => -(if k ∈ s.lt ++ s.hv then s.H k - S else 0)) n = 0 := by rw [sm_neg (f := fun k => if k ∈ s.lt ++ s.hv then s.H k - S else 0), hb]; rfl
        have := sm_all (n := n) (fun k hk => by
          split
          · rename_i q
            rw [hhv, List.append_nil] at q
            have := i.ltn k q
            omega
          · omega) hb' j hj
        simp only [if_pos m] at this
        omega
    · exact (i.done j hj m).1
  rw [hT]
  exact i.mean j hj

/-- How it begins. -/
def ltOf (n : Nat) (S : Int) (W : Vals) : Nat → List Nat
  | 0 => []
  | k + 1 => if W k * n < S then k :: ltOf n S W k else ltOf n S W k
def hvOf (n : Nat) (S : Int) (W : Vals) : Nat → List Nat
  | 0 => []
  | k + 1 => if W k * n < S then hvOf n S W k else k :: hvOf n S W k
def st0 (n : Nat) (S : Int) (W : Vals) : St := ⟨ltOf n S W n, hvOf n S W n, fun i => W i * n, fun _ => S, fun i => (i : Int)⟩

theorem mem_lt {n : Nat} {S : Int} {W : Vals} {i : Nat} : ∀ {k : Nat}, i ∈ ltOf n S W k ↔ i < k ∧ W i * n < S
  | 0 => by simp [ltOf]
  | k + 1 => by
    unfold ltOf
    by_cases e : i = k
    · subst e
      have := mem_lt (n := n) (S := S) (W := W) (i := i) (k := i)
      split <;> simp_all
    · have := mem_lt (n := n) (S := S) (W := W) (i := i) (k := k)
      split
      · rw [List.mem_cons, this]; constructor
        · rintro (q | q)
          · exact absurd q e
          · exact ⟨by omega, q.2⟩
        · exact fun q => .inr ⟨by omega, q.2⟩
      · rw [this]; exact ⟨fun q => ⟨by omega, q.2⟩, fun q => ⟨by omega, q.2⟩⟩
theorem mem_hv {n : Nat} {S : Int} {W : Vals} {i : Nat} : ∀ {k : Nat}, i ∈ hvOf n S W k ↔ i < k ∧ S ≤ W i * n
  | 0 => by simp [hvOf]
  | k + 1 => by
    unfold hvOf
    by_cases e : i = k
    · subst e
      have := mem_hv (n := n) (S := S) (W := W) (i := i) (k := i)
      split
      · rw [this]; constructor <;> intro q <;> omega
      · rw [List.mem_cons]; constructor
        · intro _; exact ⟨by omega, by omega⟩
        · intro _; exact .inl rfl
    · have := mem_hv (n := n) (S := S) (W := W) (i := i) (k := k)
      split
      · rw [this]; exact ⟨fun q => ⟨by omega, q.2⟩, fun q => ⟨by omega, q.2⟩⟩
      · rw [List.mem_cons, this]; constructor
        · rintro (q | q)
          · exact absurd q e
          · exact ⟨by omega, q.2⟩
        · exact fun q => .inr ⟨by omega, q.2⟩
theorem nd_lt {n : Nat} {S : Int} {W : Vals} : ∀ {k : Nat}, (ltOf n S W k).Nodup
  | 0 => by simp [ltOf]
  | k + 1 => by
    unfold ltOf
    split
    · exact List.nodup_cons.2 ⟨fun q => by have := (mem_lt.1 q).1; omega, nd_lt⟩
    · exact nd_lt
theorem nd_hv {n : Nat} {S : Int} {W : Vals} : ∀ {k : Nat}, (hvOf n S W k).Nodup
  | 0 => by simp [hvOf]
  | k + 1 => by
    unfold hvOf
    split
    · exact nd_hv
    · exact List.nodup_cons.2 ⟨fun q => by have := (mem_hv.1 q).1; omega, nd_hv⟩
theorem len_lh {n : Nat} {S : Int} {W : Vals} : ∀ {k : Nat}, (ltOf n S W k).length + (hvOf n S W k).length = k
  | 0 => rfl
  | k + 1 => by
    have := len_lh (n := n) (S := S) (W := W) (k := k)
    unfold ltOf hvOf
    split <;> simp only [List.length_cons] <;> omega

/-- Weights of a total. -/
structure Wts (n : Nat) (S : Int) (W : Vals) : Prop where
  n1 : 1 ≤ n
  n2 : n ≤ 1024
  w : ∀ i, i < n → 0 ≤ W i ∧ W i ≤ 1048576
  s : sm W n = S
  pos : 0 < S

theorem Wts.top {n : Nat} {S : Int} {W : Vals} (h : Wts n S W) : S ≤ 1073741824 := by
  have := sm_bound (f := W) (n := n) (a := 1048576) fun i hi => (h.w i hi).2
  have e := h.s
  have : (n : Int) * 1048576 ≤ 1024 * 1048576 := Int.mul_le_mul_of_nonneg_right (by have := h.n2; omega) (by decide)
  omega
theorem Wts.prod {n : Nat} {S : Int} {W : Vals} (h : Wts n S W) {i : Nat} (hi : i < n) : 0 ≤ W i * n ∧ W i * n ≤ 1073741824 := by
  obtain ⟨a, b⟩ := h.w i hi
  refine ⟨Int.mul_nonneg a (by omega), ?_⟩
  calc W i * n ≤ 1048576 * 1024 := Int.mul_le_mul b (by have := h.n2; omega) (by omega) (by decide)
    _ = 1073741824 := by decide

theorem Wts.inv0 {n : Nat} {S : Int} {W : Vals} (h : Wts n S W) : Inv n S W (st0 n S W) := by
  have hall : ∀ i, i < n → i ∈ ltOf n S W n ++ hvOf n S W n := fun i hi => by
    rw [List.mem_append, mem_lt, mem_hv]
    by_cases e : W i * n < S
    · exact .inl ⟨hi, e⟩
    · exact .inr ⟨hi, by omega⟩
  have htop := h.top
  have hpos := h.pos
  refine ⟨?_, fun i hi => ?_, fun i hi => ?_, fun i hi => ⟨rfl, rfl⟩, fun i hi hn => absurd (hall i hi) hn, fun i hi => ?_, fun i hi => ?_, fun j hj => ?_, ?_, ?_⟩
  · show (ltOf n S W n ++ hvOf n S W n).Nodup
    rw [List.nodup_append]
    refine ⟨nd_lt, nd_hv, fun a ha b hb e => ?_⟩
    subst e
    have := (mem_lt.1 ha).2
    have := (mem_hv.1 hb).2
    omega
  · obtain ⟨a, b⟩ := mem_lt.1 hi
    exact ⟨a, (h.prod a).1, b⟩
  · obtain ⟨a, b⟩ := mem_hv.1 hi
    exact ⟨a, b⟩
  · show 0 ≤ S ∧ S ≤ S ∧ 0 ≤ (i : Int) ∧ (i : Int) < (n : Int)
    omega
  · show W i * n ≤ _
    have := (h.prod hi).2; omega
  · show W j * n + sm (fun i => if (i : Int) = (j : Int) then S - S else 0) n = W j * n
    rw [sm_zero fun i _ => by split <;> omega]; omega
  · show sm (fun i => if i ∈ ltOf n S W n ++ hvOf n S W n then W i * n - S else 0) n = 0
    rw [sm_congr (g := fun i => W i * n - S) fun i hi => if_pos (hall i hi), sm_lin, h.s, Int.mul_comm]
    omega
  · show (ltOf n S W n).length + (hvOf n S W n).length ≤ n
    rw [len_lh]; exact Nat.le_refl _

/-- A row's numbers. -/
def Num (w : Row) (W : Vals) (n : Nat) : Prop := ∀ i, i < n → R.lz w (i : Int) 0 = W i

theorem zltT {a b : Int} (h : a < b) : R.zlt a b = true := decide_eq_true h
theorem zltF {a b : Int} (h : ¬ a < b) : R.zlt a b = false := decide_eq_false h
theorem zleT {a b : Int} (h : a ≤ b) : R.zle a b = true := decide_eq_true h
theorem zleF {a b : Int} (h : ¬ a ≤ b) : R.zle a b = false := decide_eq_false h
theorem zge0 (a : Nat) : R.zle (R.zc 0) (a : Int) = true := zleT (show (0 : Int) ≤ (a : Int) by omega)
theorem suc {i : Nat} (h : i ≤ 1000000) : R.zadd .i64 (i : Int) (R.zc 1) = ((i + 1 : Nat) : Int) := (zadd64 (x := (i : Int)) (y := 1) ⟨by omega, by omega⟩).trans rfl
theorem room {l : Row} (h : l.length ≤ 1073741824) : R.zle (R.llen l) (R.zc 1073741824) = true := zleT (show ((l.length : Nat) : Int) ≤ 1073741824 by omega)

/-- No weight that may not be, up to one. -/
def Fine (W : Vals) (m : Nat) : Prop := ∀ i, i < m → 0 ≤ W i ∧ W i ≤ 1048576

theorem Fine.sum {W : Vals} : ∀ {m : Nat}, Fine W m → 0 ≤ sm W m ∧ sm W m ≤ (m : Int) * 1048576
  | _, h => ⟨sm_nonneg fun i hi => (h i hi).1, sm_bound fun i hi => (h i hi).2⟩

theorem chkE {w : Row} {W : Vals} {n m : Nat} (hn : n ≤ 2000) (hw : Num w W n) (hm : m ≤ n) (h1 : Fine W m) (h2 : m = n ∨ m < n ∧ (W m < 0 ∨ 1048576 < W m)) :
    E2 R (n : Int) (n : Int) w (R.zc 0) (R.zc 0) (R.zc 0) (R.zc 0) = true ∧ L2 R (n : Int) (n : Int) w (R.zc 0) (R.zc 0) (R.zc 0) (R.zc 0) = [.z 0, .z 0, .z (sm W m), .z (m : Int)] := by
  refine ends_path (step := G2 R (n : Int) (n : Int) w) (p := [.z (R.zc 0), .z (R.zc 0), .z (R.zc 0), .z (R.zc 0)]) (fun i => [.z 0, .z 0, .z (sm W i), .z (i : Int)]) m rfl (fun i hi => ?_) ?_
  · have hc : R.zlt (i : Int) (n : Int) = true := zltT (by omega)
    have hb := h1 i hi
    have e1 : R.zlt (W i) (R.zc 0) = false := zltF (show ¬ W i < 0 by omega)
    have e2 : R.zlt (R.zc 1048576) (W i) = false := zltF (show ¬ 1048576 < W i by omega)
    obtain ⟨s1, s2⟩ := Fine.sum (W := W) (m := i) fun j hj => h1 j (by omega)
    have ea : R.zadd .i64 (sm W i) (W i) = sm W i + W i := zadd64 ⟨by omega, by omega⟩
    show (C2 R (n : Int) (n : Int) w (i : Int), O2_ R (n : Int) (n : Int) (i : Int), [PV.z 0, .z 0, .z (N2_2 R w (sm W i) (i : Int)), .z (N2_3 R (i : Int))]) = _
    unfold C2 O2_ N2_2 N2_3
    rw [hw i (by omega), hc, zge0, e1, e2, ea, suc (by omega)]
    rfl
  · show C2 R (n : Int) (n : Int) w (m : Int) = false
    unfold C2
    rcases h2 with e | ⟨e, hb⟩
    · rw [zltF (show ¬ (m : Int) < (n : Int) by omega)]; rfl
    · rw [hw m e, zltT (show (m : Int) < (n : Int) by omega), zge0]
      by_cases h : W m < 0
      · rw [zltT (show W m < R.zc 0 from h)]; rfl
      · rw [zltF (show ¬ W m < R.zc 0 from h), zltT (a := R.zc 1048576) (show (1048576 : Int) < W m by omega)]; rfl

theorem totE {w : Row} {W : Vals} {n m : Nat} (hn : n ≤ 2000) (hw : Num w W n) (hm : m ≤ n) (h1 : Fine W m) (h2 : m = n ∨ m < n ∧ (W m < 0 ∨ 1048576 < W m)) :
    E15 R (n : Int) w (R.zc 0) (R.zc 0) (R.zc 0) = true ∧ L15 R (n : Int) w (R.zc 0) (R.zc 0) (R.zc 0) = [.z 0, .z (sm W m), .z (m : Int)] := by
  refine ends_path (step := G15 R (n : Int) w) (p := [.z (R.zc 0), .z (R.zc 0), .z (R.zc 0)]) (fun i => [.z 0, .z (sm W i), .z (i : Int)]) m rfl (fun i hi => ?_) ?_
  · have hc : R.zlt (i : Int) (n : Int) = true := zltT (by omega)
    have hb := h1 i hi
    have e1 : R.zlt (W i) (R.zc 0) = false := zltF (show ¬ W i < 0 by omega)
    have e2 : R.zlt (R.zc 1048576) (W i) = false := zltF (show ¬ 1048576 < W i by omega)
    obtain ⟨s1, s2⟩ := Fine.sum (W := W) (m := i) fun j hj => h1 j (by omega)
    have ea : R.zadd .i64 (sm W i) (W i) = sm W i + W i := zadd64 ⟨by omega, by omega⟩
    show (C15 R (n : Int) w (i : Int), O15_ R (n : Int) w (i : Int), [PV.z 0, .z (N15_1 R w (sm W i) (i : Int)), .z (N15_2 R (i : Int))]) = _
    unfold C15 O15_ N15_1 N15_2
    rw [hw i (by omega), hc, zge0, e1, e2, ea, suc (by omega)]
    rfl
  · show C15 R (n : Int) w (m : Int) = false
    unfold C15
    rcases h2 with e | ⟨e, hb⟩
    · rw [zltF (show ¬ (m : Int) < (n : Int) by omega)]; rfl
    · rw [hw m e, zltT (show (m : Int) < (n : Int) by omega), zge0]
      by_cases h : W m < 0
      · rw [zltT (show W m < R.zc 0 from h)]; rfl
      · rw [zltF (show ¬ W m < R.zc 0 from h), zltT (a := R.zc 1048576) (show (1048576 : Int) < W m by omega)]; rfl

theorem firstOff (W : Vals) : ∀ n, ∃ m, m ≤ n ∧ Fine W m ∧ (m = n ∨ m < n ∧ (W m < 0 ∨ 1048576 < W m))
  | 0 => ⟨0, Nat.le_refl _, fun i hi => by omega, .inl rfl⟩
  | n + 1 => by
    obtain ⟨m, h1, h2, h3⟩ := firstOff W n
    rcases h3 with e | ⟨h3, h4⟩
    · subst e
      by_cases hb : W m < 0 ∨ 1048576 < W m
      · exact ⟨m, by omega, h2, .inr ⟨by omega, hb⟩⟩
      · refine ⟨m + 1, Nat.le_refl _, fun i hi => ?_, .inl rfl⟩
        by_cases e : i = m
        · subst e; omega
        · exact h2 i (by omega)
    · exact ⟨m, by omega, h2, .inr ⟨by omega, h4⟩⟩

section
variable {w : Row} {W : Vals} {n : Nat} {S : Int}

theorem mulW (h : Wts n S W) {k : Nat} (hk : k < n) : R.zmul .i64 (W k) (n : Int) = W k * n := by
  have := h.prod hk
  exact zmul64 ⟨by omega, by omega⟩

theorem len_lt (k : Nat) : (ltOf n S W k).length ≤ k := by have := len_lh (n := n) (S := S) (W := W) (k := k); omega
theorem len_hv (k : Nat) : (hvOf n S W k).length ≤ k := by have := len_lh (n := n) (S := S) (W := W) (k := k); omega

/-- The first loop of alias.New. -/
theorem newE (h : Wts n S W) (hw : Num w W n) :
    E3 R (n : Int) (n : Int) (n : Int) w S (n : Int) (n : Int) R.lnil R.lnil (R.zc 0) (R.lrep (n : Int) [.z (R.zc 0), .z (R.zc 0)]) (R.lrep (n : Int) [.z (R.zc 0)]) = true ∧
    L3 R (n : Int) (n : Int) (n : Int) w S (n : Int) (n : Int) R.lnil R.lnil (R.zc 0) (R.lrep (n : Int) [.z (R.zc 0), .z (R.zc 0)]) (R.lrep (n : Int) [.z (R.zc 0)]) =
      [.l (mkl (st0 n S W).lt), .l (mkl (st0 n S W).hv), .z (n : Int), .l (mk2 n (st0 n S W).T (st0 n S W).A), .l (mk1 n (st0 n S W).H)] := by
  have hn := h.n2
  let f : Nat → List (PD R) := fun k => [.l (mkl (ltOf n S W k)), .l (mkl (hvOf n S W k)), .z (k : Int), .l (mk2 n (fun i => if i < k then S else 0) fun i => if i < k then (i : Int) else 0), .l (mk1 n fun i => if i < k then W i * n else 0)]
  have key := ends_path (step := G3 R (n : Int) (n : Int) (n : Int) w S (n : Int) (n : Int)) (p := [.l R.lnil, .l R.lnil, .z (R.zc 0), .l (R.lrep (n : Int) [.z (R.zc 0), .z (R.zc 0)]), .l (R.lrep (n : Int) [.z (R.zc 0)])]) f n ?_ (fun k hk => ?_) ?_
  · refine ⟨key.1, key.2.trans ?_⟩
    show f n = _
    simp only [f]
    rw [show (mk2 n (fun i => if i < n then S else 0) fun i => if i < n then (i : Int) else 0) = mk2 n (st0 n S W).T (st0 n S W).A from mk2_congr fun i hi => ⟨if_pos hi, if_pos hi⟩, show (mk1 n fun i => if i < n then W i * n else 0) = mk1 n (st0 n S W).H from mk1_congr fun i hi => if_pos hi]
    rfl
  · have a1 : R.lrep (n : Int) [.z (R.zc 0)] = mk1 n fun i => if i < 0 then W i * n else 0 := (rep1 n).trans (mk1_congr fun i _ => (if_neg (by omega)).symm)
    have a2 : R.lrep (n : Int) [.z (R.zc 0), .z (R.zc 0)] = mk2 n (fun i => if i < 0 then S else 0) fun i => if i < 0 then (i : Int) else 0 := (rep2 n).trans (mk2_congr fun i _ => ⟨(if_neg (by omega)).symm, (if_neg (by omega)).symm⟩)
    rw [a1, a2]
    rfl
  · have hc : R.zlt (k : Int) (n : Int) = true := zltT (by omega)
    have hp : R.lput (mk1 n fun i => if i < k then W i * n else 0) (k : Int) 0 [.z (W k * n)] = mk1 n fun i => if i < k + 1 then W i * n else 0 := by
      rw [mk1_put _ _ hk]
      refine mk1_congr fun i _ => ?_
      by_cases e : i = k
      · subst e; rw [upd_at, if_pos (by omega)]
      · rw [upd_ne _ _ e]
        by_cases e2 : i < k
        · rw [if_pos e2, if_pos (by omega)]
        · rw [if_neg e2, if_neg (by omega)]
    have hq : R.lput (mk2 n (fun i => if i < k then S else 0) fun i => if i < k then (i : Int) else 0) (k : Int) 0 [.z S, .z (k : Int)] = mk2 n (fun i => if i < k + 1 then S else 0) fun i => if i < k + 1 then (i : Int) else 0 := by
      rw [mk2_put _ _ _ _ hk]
      refine mk2_congr fun i _ => ?_
      by_cases e : i = k
      · subst e; rw [upd_at, upd_at, if_pos (by omega), if_pos (by omega)]; exact ⟨rfl, rfl⟩
      · rw [upd_ne _ _ e, upd_ne _ _ e]
        by_cases e2 : i < k
        · rw [if_pos e2, if_pos (by omega), if_pos e2, if_pos (by omega)]; exact ⟨rfl, rfl⟩
        · rw [if_neg e2, if_neg (by omega), if_neg e2, if_neg (by omega)]; exact ⟨rfl, rfl⟩
    have hat : R.lz (mk1 n fun i => if i < k + 1 then W i * n else 0) (k : Int) 0 = W k * n := by rw [mk1_at _ hk, if_pos (by omega)]
    have l1 := len_lt (n := n) (S := S) (W := W) k
    have l2 := len_hv (n := n) (S := S) (W := W) k
    have al : R.zle (R.llen (R.lapp (mkl (ltOf n S W k)) [[.z (k : Int)]])) (R.zc 1073741824) = true := by
      show R.zle (R.llen (mkl (ltOf n S W k) ++ [[.z (k : Int)]])) _ = true
      rw [← mkl_cons]; exact room (by rw [mkl_len, List.length_cons]; omega)
    have ah : R.zle (R.llen (R.lapp (mkl (hvOf n S W k)) [[.z (k : Int)]])) (R.zc 1073741824) = true := by
      show R.zle (R.llen (mkl (hvOf n S W k) ++ [[.z (k : Int)]])) _ = true
      rw [← mkl_cons]; exact room (by rw [mkl_len, List.length_cons]; omega)
    simp only [f]
    generalize hT : (mk2 n (fun i => if i < k then S else 0) fun i => if i < k then (i : Int) else 0) = T at hq
    generalize hH : (mk1 n fun i => if i < k then W i * n else 0) = H at hp
    show (C3 R (n : Int) (k : Int), O3_ R (n : Int) (n : Int) (n : Int) w S (n : Int) (n : Int) (mkl (ltOf n S W k)) (mkl (hvOf n S W k)) (k : Int) H,
      [PV.l (N3_0 R (n : Int) w S (mkl (ltOf n S W k)) (k : Int) H), .l (N3_1 R (n : Int) w S (mkl (hvOf n S W k)) (k : Int) H), .z (N3_2 R (k : Int)), .l (N3_3 R S (k : Int) T), .l (N3_4 R (n : Int) w (k : Int) H)]) = _
    unfold C3 O3_ N3_0 N3_1 N3_2 N3_3 N3_4
    rw [hw k hk, mulW h hk, hp, hat, hq, hc, zge0, al, ah, suc (by omega)]
    by_cases e : W k * n < S
    · rw [zltT e, show ltOf n S W (k + 1) = k :: ltOf n S W k from if_pos e, show hvOf n S W (k + 1) = hvOf n S W k from if_pos e, mkl_cons]; rfl
    · rw [zltF e, show ltOf n S W (k + 1) = ltOf n S W k from if_neg e, show hvOf n S W (k + 1) = k :: hvOf n S W k from if_neg e, mkl_cons]; rfl
  · exact zltF (show ¬ (n : Int) < (n : Int) by omega)

end

def e2 (n : Nat) (s : St) : List (PD R) := [.l (mkl s.lt), .l (mkl s.hv), .l (mk1 n s.H), .l (mk2 n s.T s.A)]

theorem gt0 (i : Nat) (l : List Nat) : R.zlt (R.zc 0) (R.llen (mkl (i :: l))) = true := zltT (show (0 : Int) < (((mkl (i :: l)).length : Nat) : Int) by rw [mkl_len, List.length_cons]; omega)
theorem gt0n : R.zlt (R.zc 0) (R.llen (mkl [])) = false := rfl
theorem len1 (i : Nat) (l : List Nat) (h : l.length ≤ 1024) : R.zsub .i64 (R.llen (mkl (i :: l))) (R.zc 1) = ((l.length : Nat) : Int) := by
  have : R.llen (mkl (i :: l)) = ((l.length + 1 : Nat) : Int) := by show (((mkl (i :: l)).length : Nat) : Int) = _; rw [mkl_len, List.length_cons]
  rw [this]
  exact (zsub64 (x := ((l.length + 1 : Nat) : Int)) (y := 1) ⟨by omega, by omega⟩).trans (show ((l.length + 1 : Nat) : Int) - 1 = ((l.length : Nat) : Int) by omega)

section
variable {n : Nat} {S : Int} {W : Vals}

/-- One pair of alias.New. -/
theorem pairE (hn : n ≤ 1024) (hS : 0 < S ∧ S ≤ 1073741824) {s : St} (i : Inv n S W s) (hg : go s = true) : G4 R S (n : Int) (n : Int) (e2 n s) = (true, true, e2 n (nx S s)) := by
  obtain ⟨lt, hv, H, T, A⟩ := s
  match lt, hv, hg, i with
  | l :: ls, h :: hs, hg, i =>
    have few : ls.length + 1 + (hs.length + 1) ≤ n := i.few
    obtain ⟨hl, hl0, hl1⟩ := i.ltn l List.mem_cons_self
    obtain ⟨hh, hh0⟩ := i.hvn h List.mem_cons_self
    have htop := i.top h hh
    simp only at hl0 hl1 hh0 htop
    have hb : R.zsub .i64 S (H l) = S - H l := zsub64 ⟨by omega, by omega⟩
    have hb2 : R.zsub .i64 (H h) (S - H l) = H h - (S - H l) := zsub64 ⟨by omega, by omega⟩
    have hp := mk1_put H (H h - (S - H l)) hh
    have hq := mk2_put T A (H l) (h : Int) hl
    have hat : R.lz (mk1 n (upd H h (H h - (S - H l)))) (h : Int) 0 = H h - (S - H l) := by rw [mk1_at _ hh, upd_at]
    have c1 : R.zlt (l : Int) (n : Int) = true := zltT (by omega)
    have c2 : R.zlt (h : Int) (n : Int) = true := zltT (by omega)
    have k1 : R.zle (((ls.length : Nat)) : Int) (R.llen (mkl (l :: ls))) = true := zleT (show ((ls.length : Nat) : Int) ≤ (((mkl (l :: ls)).length : Nat) : Int) by rw [mkl_len, List.length_cons]; omega)
    have k2 : R.zle (((hs.length : Nat)) : Int) (R.llen (mkl (h :: hs))) = true := zleT (show ((hs.length : Nat) : Int) ≤ (((mkl (h :: hs)).length : Nat) : Int) by rw [mkl_len, List.length_cons]; omega)
    have k1' : R.zlt (((ls.length : Nat)) : Int) (R.llen (mkl (l :: ls))) = true := zltT (show ((ls.length : Nat) : Int) < (((mkl (l :: ls)).length : Nat) : Int) by rw [mkl_len, List.length_cons]; omega)
    have k2' : R.zlt (((hs.length : Nat)) : Int) (R.llen (mkl (h :: hs))) = true := zltT (show ((hs.length : Nat) : Int) < (((mkl (h :: hs)).length : Nat) : Int) by rw [mkl_len, List.length_cons]; omega)
    have al : R.lapp (mkl ls) [[.z (h : Int)]] = mkl (h :: ls) := (mkl_cons h ls).symm
    have ah : R.lapp (mkl hs) [[.z (h : Int)]] = mkl (h :: hs) := (mkl_cons h hs).symm
    have r1 := room (l := mkl (h :: ls)) (by rw [mkl_len, List.length_cons]; omega)
    have r2 := room (l := mkl (h :: hs)) (by rw [mkl_len, List.length_cons]; omega)
    have z1 : ∀ a : Nat, R.zeq (a : Int) (a : Int) = true := fun a => by show (_ == _) = true; simp
    · show (C4 R (mkl (l :: ls)) (mkl (h :: hs)), O4_ R S (n : Int) (n : Int) (mkl (l :: ls)) (mkl (h :: hs)) (mk1 n H),
        [PV.l (N4_0 R S (mkl (l :: ls)) (mkl (h :: hs)) (mk1 n H)), .l (N4_1 R S (mkl (l :: ls)) (mkl (h :: hs)) (mk1 n H)), .l (N4_2 R S (mkl (l :: ls)) (mkl (h :: hs)) (mk1 n H)), .l (N4_3 R S (mkl (l :: ls)) (mkl (h :: hs)) (mk1 n H) (mk2 n T A))]) = _
      unfold C4 O4_ N4_0 N4_1 N4_2 N4_3 WO4__0 WO4__1 WO4__6 WO4__5 WO4__3 WO4__4 WO4__2
      rw [gt0, gt0, len1 l ls (by omega), len1 h hs (by omega), mkl_at, mkl_at, mk1_at H hl, mk1_at H hh, hb, hb2, hp, hat, hq, c1, c2, k1, k2, k1', k2', mkl_sub, mkl_sub, al, ah, r1, r2]
      rw [zge0 ls.length, zge0 hs.length, zge0 l, zge0 h, z1 ls.length, z1 hs.length]
      by_cases hc : H h - (S - H l) < S
      · rw [zltT hc, zleF (show ¬ S ≤ H h - (S - H l) by omega), nx_lt hc]; rfl
      · rw [zltF hc, zleT (show S ≤ H h - (S - H l) by omega), nx_ge hc]; rfl
theorem pairsE (h : Wts n S W) : ∃ s : St, Inv n S W s ∧ go s = false ∧
    (E4 R S (n : Int) (n : Int) (mkl (st0 n S W).lt) (mkl (st0 n S W).hv) (mk1 n (st0 n S W).H) (mk2 n (st0 n S W).T (st0 n S W).A) = true ∧
     L4 R S (n : Int) (n : Int) (mkl (st0 n S W).lt) (mkl (st0 n S W).hv) (mk1 n (st0 n S W).H) (mk2 n (st0 n S W).T (st0 n S W).A) = e2 n s) := by
  obtain ⟨k, k1, k2, k3⟩ := run _ (st0 n S W) (Nat.le_refl _) h.inv0
  have hS : 0 < S ∧ S ≤ 1073741824 := ⟨h.pos, h.top⟩
  have stop : ∀ s : St, go s = false → R.bite (R.zlt (R.zc 0) (R.llen (mkl s.lt))) (R.zlt (R.zc 0) (R.llen (mkl s.hv))) (R.bc false) = false := by
    rintro ⟨lt, hv, H, T, A⟩ hg
    match lt, hv, hg with
    | [], _, _ => rfl
    | l :: ls, [], _ => show R.bite (R.zlt (R.zc 0) (R.llen (mkl (l :: ls)))) (R.zlt (R.zc 0) (R.llen (mkl []))) (R.bc false) = false; rw [gt0, gt0n]; rfl
    | _ :: _, _ :: _, hg => cases hg
  refine ⟨itS S k (st0 n S W), k3, k2, ?_⟩
  · exact ends_path (step := G4 R S (n : Int) (n : Int)) (p := e2 n (st0 n S W)) (fun i => e2 n (itS S i (st0 n S W))) k rfl
      (fun i hi => by rw [itS_succ]; exact (pairE h.n2 hS (k1 i hi).2 (k1 i hi).1)) (stop _ k2)

end

theorem zq0 (k : Nat) : R.zeq (k : Int) (R.zc 0) = decide (k = 0) := by
  show ((k : Int) == 0) = decide (k = 0)
  by_cases e : k = 0
  · rw [decide_eq_true e, beq_iff_eq]; omega
  · rw [decide_eq_false e, beq_eq_false_iff_ne]; omega
theorem zqi (x y : Int) : R.zeq x y = decide (x = y) := by
  show (x == y) = decide (x = y)
  by_cases e : x = y
  · rw [decide_eq_true e, beq_iff_eq]; exact e
  · rw [decide_eq_false e, beq_eq_false_iff_ne]; exact e
theorem zeqT {a b : Int} (h : a = b) : R.zeq a b = true := by rw [zqi]; exact decide_eq_true h
theorem zeqF {a b : Int} (h : a ≠ b) : R.zeq a b = false := by rw [zqi]; exact decide_eq_false h
theorem lsub_all (l : Row) : R.lsub l (R.zc 0) (R.llen l) = l := by
  show (l.drop (0 : Int).toNat).take (((l.length : Nat) : Int) - 0).toNat = l
  simp
theorem cat_nil (l : Row) : R.lcat R.lnil l = l := rfl
theorem mk1_llen (n : Nat) (f : Vals) : R.llen (mk1 n f) = (n : Int) := by show (((mk1 n f).length : Nat) : Int) = _; rw [mk1_len]

/-- Up to where something is so. -/
theorem firstNot (P : Nat → Prop) : ∀ n, ∃ m, m ≤ n ∧ (∀ i, i < m → P i) ∧ (m = n ∨ m < n ∧ ¬ P m)
  | 0 => ⟨0, Nat.le_refl _, fun i hi => by omega, .inl rfl⟩
  | n + 1 => by
    obtain ⟨m, h1, h2, h3⟩ := firstNot P n
    rcases h3 with e | ⟨h3, h4⟩
    · subst e
      by_cases hb : P m
      · refine ⟨m + 1, Nat.le_refl _, fun i hi => ?_, .inl rfl⟩
        by_cases e : i = m
        · subst e; exact hb
        · exact h2 i (by omega)
      · exact ⟨m, by omega, h2, .inr ⟨by omega, hb⟩⟩
    · exact ⟨m, by omega, h2, .inr ⟨by omega, h4⟩⟩

/-- Whether a cell's light may be, and its weight. -/
noncomputable def okAt (x : Row) (i : Nat) : Bool := S28_0 R (R.lf x (i : Int) 0) (R.lf x (i : Int) 1) (R.lf x (i : Int) 2)
noncomputable def wAt (x : Row) : Vals := fun i => S46_0 R (R.lf x (i : Int) 0) (R.lf x (i : Int) 1) (R.lf x (i : Int) 2)

theorem wAt_fine (x : Row) (m : Nat) : Fine (wAt x) m := fun i _ => by
  obtain ⟨_, _, _, a, b, _⟩ := weightE (R.lf x (i : Int) 0) (R.lf x (i : Int) 1) (R.lf x (i : Int) 2)
  exact ⟨a, b⟩

section
variable {x : Row} {n m : Nat} (hn : n ≤ 1024) (hm : m ≤ n) (h1 : ∀ i, i < m → okAt x i = true) (h2 : m = n ∨ m < n ∧ ¬ okAt x m = true)
include hn hm h1 h2

theorem cellsE : E8 R (n : Int) (n : Int) x R.lnil (R.zc 0) (R.zc 0) = true ∧ L8 R (n : Int) (n : Int) x R.lnil (R.zc 0) (R.zc 0) = [.l (mk1 m (wAt x)), .z 0, .z (m : Int)] := by
  refine ends_path (step := G8 R (n : Int) (n : Int) x) (p := [.l R.lnil, .z (R.zc 0), .z (R.zc 0)]) (fun k => [.l (mk1 k (wAt x)), .z 0, .z (k : Int)]) m rfl (fun k hk => ?_) ?_
  · have hc : R.zlt (k : Int) (n : Int) = true := zltT (by omega)
    obtain ⟨w1, _, w3, w4, w5, _⟩ := weightE (R.lf x (k : Int) 0) (R.lf x (k : Int) 1) (R.lf x (k : Int) 2)
    have hg : S39_0 R (R.lf x (k : Int) 0) (R.lf x (k : Int) 1) (R.lf x (k : Int) 2) = true := (goodE _ _ _).trans (h1 k hk)
    have ha : R.lapp (mk1 k (wAt x)) [[.z (S46_0 R (R.lf x (k : Int) 0) (R.lf x (k : Int) 1) (R.lf x (k : Int) 2))]] = mk1 (k + 1) (wAt x) := mk1_snoc k (wAt x)
    have hr := room (l := mk1 (k + 1) (wAt x)) (by rw [mk1_len]; omega)
    show (C8 R (n : Int) (n : Int) x (mk1 k (wAt x)) (k : Int), O8_ R (n : Int) (n : Int) x (mk1 k (wAt x)) (k : Int), [PV.l (N8_0 R x (mk1 k (wAt x)) (k : Int)), .z 0, .z (N8_2 R (k : Int))]) = _
    unfold C8 O8_ N8_0 N8_2
    rw [hg, w1, w3, ha, hr, hc, zge0, suc (by omega)]; rfl
  · show C8 R (n : Int) (n : Int) x (mk1 m (wAt x)) (m : Int) = false
    unfold C8
    rcases h2 with e | ⟨e, hb⟩
    · rw [zltF (show ¬ (m : Int) < (n : Int) by omega)]; rfl
    · have hb' : okAt x m = false := by simpa using hb
      have hg : S39_0 R (R.lf x (m : Int) 0) (R.lf x (m : Int) 1) (R.lf x (m : Int) 2) = false := (goodE _ _ _).trans hb'
      rw [hg, zltT (show (m : Int) < (n : Int) by omega), zge0]; rfl

theorem mayE : E7 R x (n : Int) (R.bc false) (R.zc 0) = true ∧ L7 R x (n : Int) (R.bc false) (R.zc 0) = [.b false, .z (m : Int)] := by
  refine ends_path (step := G7 R x (n : Int)) (p := [.b (R.bc false), .z (R.zc 0)]) (fun k => [.b false, .z (k : Int)]) m rfl (fun k hk => ?_) ?_
  · have hc : R.zlt (k : Int) (n : Int) = true := zltT (by omega)
    have hg : S28_0 R (R.lf x (k : Int) 0) (R.lf x (k : Int) 1) (R.lf x (k : Int) 2) = true := h1 k hk
    show (C7 R x (n : Int) (k : Int), O7_ R (n : Int) (k : Int), [PV.b false, .z (N7_1 R (k : Int))]) = _
    unfold C7 O7_ N7_1
    rw [hg, hc, zge0, suc (by omega)]; rfl
  · show C7 R x (n : Int) (m : Int) = false
    unfold C7
    rcases h2 with e | ⟨e, hb⟩
    · rw [zltF (show ¬ (m : Int) < (n : Int) by omega)]; rfl
    · have hg : S28_0 R (R.lf x (m : Int) 0) (R.lf x (m : Int) 1) (R.lf x (m : Int) 2) = false := by
        have : okAt x m = false := by simpa using hb
        exact this
      rw [hg, zltT (show (m : Int) < (n : Int) by omega), zge0]; rfl
end

theorem weightsE {x : Row} {n : Nat} (hn : n ≤ 1024) : E14 R x (n : Int) R.lnil (R.zc 0) = true ∧ L14 R x (n : Int) R.lnil (R.zc 0) = [.l (mk1 n (wAt x)), .z (n : Int)] := by
  refine ends_path (step := G14 R x (n : Int)) (p := [.l R.lnil, .z (R.zc 0)]) (fun k => [.l (mk1 k (wAt x)), .z (k : Int)]) n rfl (fun k hk => ?_) (zltF (show ¬ (n : Int) < (n : Int) by omega))
  have hc : R.zlt (k : Int) (n : Int) = true := zltT (by omega)
  obtain ⟨_, w2, _⟩ := weightE (R.lf x (k : Int) 0) (R.lf x (k : Int) 1) (R.lf x (k : Int) 2)
  have ha : R.lapp (mk1 k (wAt x)) [[.z (S46_0 R (R.lf x (k : Int) 0) (R.lf x (k : Int) 1) (R.lf x (k : Int) 2))]] = mk1 (k + 1) (wAt x) := mk1_snoc k (wAt x)
  have hr := room (l := mk1 (k + 1) (wAt x)) (by rw [mk1_len]; omega)
  show (C14 R (n : Int) (k : Int), O14_ R x (n : Int) (mk1 k (wAt x)) (k : Int), [PV.l (N14_0 R x (mk1 k (wAt x)) (k : Int)), .z (N14_1 R (k : Int))]) = _
  unfold C14 O14_ N14_0 N14_1
  rw [w2, ha, hr, hc, zge0, suc (by omega)]; rfl

/-- The triangles that may be, of the first. -/
noncomputable def tOk (x : Row) (i : Nat) : Bool := S29_0 R (R.lf x (i : Int) 0) (R.lf x (i : Int) 1) (R.lf x (i : Int) 2) (R.lf x (i : Int) 3) (R.lf x (i : Int) 4) (R.lf x (i : Int) 5) (R.lf x (i : Int) 6) (R.lf x (i : Int) 7) (R.lf x (i : Int) 8)
noncomputable def tOf (x : Row) (i : Nat) : List Cell := [.f (R.lf x (i : Int) 0), .f (R.lf x (i : Int) 1), .f (R.lf x (i : Int) 2), .f (R.lf x (i : Int) 3), .f (R.lf x (i : Int) 4), .f (R.lf x (i : Int) 5), .f (R.lf x (i : Int) 6), .f (R.lf x (i : Int) 7), .f (R.lf x (i : Int) 8)]
noncomputable def fewT (x : Row) : Nat → Row
  | 0 => []
  | n + 1 => if tOk x n = true then fewT x n ++ [tOf x n] else fewT x n
theorem fewT_len (x : Row) : ∀ n, (fewT x n).length ≤ n
  | 0 => Nat.le_refl _
  | n + 1 => by
    have := fewT_len x n
    unfold fewT
    split
    · rw [List.length_append, List.length_singleton]; omega
    · omega

/-- As many as are looked at. -/
def lim (x : Row) : Nat := if x.length < 20 then x.length else 20
theorem lim_le (x : Row) : lim x ≤ 20 ∧ lim x ≤ x.length := by unfold lim; split <;> omega

theorem fewE (x : Row) : E6 R (R.llen x) x R.lnil (R.zc 0) = true ∧ L6 R (R.llen x) x R.lnil (R.zc 0) = [.l (fewT x (lim x)), .z (lim x : Int)] := by
  obtain ⟨l1, l2⟩ := lim_le x
  refine ends_path (step := G6 R (R.llen x) x) (p := [.l R.lnil, .z (R.zc 0)]) (fun k => [.l (fewT x k), .z (k : Int)]) (lim x) rfl (fun k hk => ?_) ?_
  · have c1 : R.zlt (k : Int) (R.llen x) = true := zltT (show (k : Int) < (x.length : Int) by omega)
    have c2 : R.zlt (k : Int) (R.zc 20) = true := zltT (show (k : Int) < 20 by omega)
    have hl := fewT_len x k
    have hr : R.zle (R.llen (R.lapp (fewT x k) [tOf x k])) (R.zc 1073741824) = true := room (l := fewT x k ++ [tOf x k]) (by rw [List.length_append, List.length_singleton]; omega)
    show (C6 R (R.llen x) (k : Int), O6_ R (R.llen x) x (fewT x k) (k : Int), [PV.l (N6_0 R x (fewT x k) (k : Int)), .z (N6_1 R (k : Int))]) = _
    unfold C6 O6_ N6_0 N6_1
    have e1 : fewT x (k + 1) = if tOk x k = true then fewT x k ++ [tOf x k] else fewT x k := rfl
    rw [c1, c2, zge0, suc (by omega), e1]
    show (R.bite true true (R.bc false), R.bite (R.bite true true (R.bc false)) (R.band (R.band true true) (R.bite (tOk x k) (R.band (R.band true true) (R.zle (R.llen (R.lapp (fewT x k) [tOf x k])) (R.zc 1073741824))) (R.bc true))) (R.bc true), [PV.l (R.lite (tOk x k) (R.lapp (fewT x k) [tOf x k]) (fewT x k)), PV.z ((k + 1 : Nat) : Int)]) = _
    rw [hr]
    cases tOk x k <;> rfl
  · show C6 R (R.llen x) (lim x : Int) = false
    unfold C6
    by_cases h : x.length < 20
    · have : lim x = x.length := if_pos h
      rw [this, zltF (show ¬ (x.length : Int) < R.llen x from Int.lt_irrefl _)]; rfl
    · have : lim x = 20 := if_neg h
      rw [this, zltF (show ¬ ((20 : Nat) : Int) < R.zc 20 from show ¬ (20 : Int) < 20 by omega)]
      cases R.zlt ((20 : Nat) : Int) (R.llen x) <;> rfl

/-- Which triangle it is of. -/
noncomputable def tri (e : Row) (i : Nat) : Int := R.lz e (i : Int) 0

theorem findE {e : Row} {n : Nat} (hn : n ≤ 1024) (v : Int) {j : Nat} (hj : j ≤ n) (h1 : ∀ i, i < j → tri e i ≠ v) (h2 : j = n ∨ j < n ∧ tri e j = v) :
    E9 R (n : Int) (n : Int) e v (R.zc 0) (R.zc 0) = true ∧ L9 R (n : Int) (n : Int) e v (R.zc 0) (R.zc 0) = [.z 0, .z (j : Int)] := by
  refine ends_path (step := G9 R (n : Int) (n : Int) e v) (p := [.z (R.zc 0), .z (R.zc 0)]) (fun k => [.z 0, .z (k : Int)]) j rfl (fun k hk => ?_) ?_
  · have c1 : R.zlt (k : Int) (n : Int) = true := zltT (by omega)
    have c2 : R.zeq (tri e k) v = false := zeqF (h1 k hk)
    show (C9 R (n : Int) (n : Int) e v (k : Int), O9_ R (n : Int) (n : Int) (k : Int), [PV.z 0, .z (N9_1 R (k : Int))]) = _
    unfold C9 O9_ N9_1
    rw [show R.lz e (k : Int) 0 = tri e k from rfl, c1, c2, zge0, suc (by omega)]; rfl
  · show C9 R (n : Int) (n : Int) e v (j : Int) = false
    unfold C9
    rcases h2 with q | ⟨q, hv⟩
    · rw [zltF (show ¬ (j : Int) < (n : Int) by omega)]; rfl
    · rw [show R.lz e (j : Int) 0 = tri e j from rfl, zltT (show (j : Int) < (n : Int) by omega), zge0, zeqT hv]; rfl

theorem dupE {e : Row} {n k : Nat} (hn : n ≤ 1024) (hk : k < n) (r : Int) {j : Nat} (hj : j ≤ k) (h1 : ∀ i, i < j → tri e i ≠ tri e k) (h2 : j = k ∨ j < k ∧ tri e j = tri e k) :
    E11 R (n : Int) (k : Int) e r (R.zc 0) = true ∧ L11 R (n : Int) (k : Int) e r (R.zc 0) = [.z r, .z (j : Int)] := by
  have a1 : R.zlt (k : Int) (n : Int) = true := zltT (by omega)
  refine ends_path (step := G11 R (n : Int) (k : Int) e) (p := [.z r, .z (R.zc 0)]) (fun i => [.z r, .z (i : Int)]) j rfl (fun i hi => ?_) ?_
  · have c1 : R.zlt (i : Int) (n : Int) = true := zltT (by omega)
    have c0 : R.zlt (i : Int) (k : Int) = true := zltT (by omega)
    have c2 : R.zeq (tri e i) (tri e k) = false := zeqF (h1 i hi)
    show (C11 R (n : Int) (k : Int) e (i : Int), O11_ R (n : Int) (k : Int) (i : Int), [PV.z r, .z (N11_1 R (i : Int))]) = _
    unfold C11 O11_ N11_1
    rw [show R.lz e (i : Int) 0 = tri e i from rfl, show R.lz e (k : Int) 0 = tri e k from rfl, c1, c0, c2, a1, zge0, zge0, suc (by omega)]; rfl
  · show C11 R (n : Int) (k : Int) e (j : Int) = false
    unfold C11
    rcases h2 with q | ⟨q, hv⟩
    · rw [zltF (show ¬ (j : Int) < (k : Int) by omega)]; rfl
    · rw [show R.lz e (j : Int) 0 = tri e j from rfl, show R.lz e (k : Int) 0 = tri e k from rfl, zltT (show (j : Int) < (k : Int) by omega), zltT (show (j : Int) < (n : Int) by omega), zge0, zge0, a1, zeqT hv]; rfl

/-- Whether a light may be. -/
structure Ok (L : Nat) (e : Row) (i : Nat) : Prop where
  lo : 0 ≤ tri e i
  hi : tri e i < (L : Int)
  good : S28_0 R (R.lf e (i : Int) 1) (R.lf e (i : Int) 2) (R.lf e (i : Int) 3) = true
  new : ∀ k, k < i → tri e k ≠ tri e i

/-- Its weight. -/
noncomputable def areaOf (t e : Row) (i : Nat) : Fl := S48_0 R (R.lf t (tri e i) 0) (R.lf t (tri e i) 1) (R.lf t (tri e i) 2) (R.lf t (tri e i) 3) (R.lf t (tri e i) 4) (R.lf t (tri e i) 5) (R.lf t (tri e i) 6) (R.lf t (tri e i) 7) (R.lf t (tri e i) 8)
noncomputable def wE (t e : Row) : Vals := fun i => S46_0 R (S47_0 R (R.lf e (i : Int) 1) (areaOf t e i)) (S47_1 R (R.lf e (i : Int) 2) (areaOf t e i)) (S47_2 R (R.lf e (i : Int) 3) (areaOf t e i))

theorem wE_fine (t e : Row) (m : Nat) : Fine (wE t e) m := fun i _ => by
  obtain ⟨_, _, _, a, b, _⟩ := weightE (S47_0 R (R.lf e (i : Int) 1) (areaOf t e i)) (S47_1 R (R.lf e (i : Int) 2) (areaOf t e i)) (S47_2 R (R.lf e (i : Int) 3) (areaOf t e i))
  exact ⟨a, b⟩

theorem wE_code (t e : Row) (i : Nat) : O40 R (R.lf t (tri e i) 0) (R.lf t (tri e i) 1) (R.lf t (tri e i) 2) (R.lf t (tri e i) 3) (R.lf t (tri e i) 4) (R.lf t (tri e i) 5) (R.lf t (tri e i) 6) (R.lf t (tri e i) 7) (R.lf t (tri e i) 8) (R.lf e (i : Int) 1) (R.lf e (i : Int) 2) (R.lf e (i : Int) 3) = true ∧
    S40_0 R (R.lf t (tri e i) 0) (R.lf t (tri e i) 1) (R.lf t (tri e i) 2) (R.lf t (tri e i) 3) (R.lf t (tri e i) 4) (R.lf t (tri e i) 5) (R.lf t (tri e i) 6) (R.lf t (tri e i) 7) (R.lf t (tri e i) 8) (R.lf e (i : Int) 1) (R.lf e (i : Int) 2) (R.lf e (i : Int) 3) = wE t e i := by
  obtain ⟨w1, _, w3, _⟩ := weightE (S47_0 R (R.lf e (i : Int) 1) (areaOf t e i)) (S47_1 R (R.lf e (i : Int) 2) (areaOf t e i)) (S47_2 R (R.lf e (i : Int) 3) (areaOf t e i))
  exact ⟨w1, w3⟩

section
variable {t e : Row} {L n m : Nat} (hn : n ≤ 1024) (hm : m ≤ n) (h1 : ∀ i, i < m → Ok L e i) (h2 : m = n ∨ m < n ∧ ¬ Ok L e m)
include hn hm h1 h2

theorem newLE : E10 R (L : Int) (n : Int) (n : Int) (n : Int) t e R.lnil (R.zc 0) (R.zc 0) = true ∧ L10 R (L : Int) (n : Int) (n : Int) (n : Int) t e R.lnil (R.zc 0) (R.zc 0) = [.l (mk1 m (wE t e)), .z 0, .z (m : Int)] := by
  refine ends_path (step := G10 R (L : Int) (n : Int) (n : Int) (n : Int) t e) (p := [.l R.lnil, .z (R.zc 0), .z (R.zc 0)]) (fun k => [.l (mk1 k (wE t e)), .z 0, .z (k : Int)]) m rfl (fun k hk => ?_) ?_
  · have o := h1 k hk
    have c1 : R.zlt (k : Int) (n : Int) = true := zltT (by omega)
    have hg : S39_0 R (R.lf e (k : Int) 1) (R.lf e (k : Int) 2) (R.lf e (k : Int) 3) = true := (goodE _ _ _).trans o.good
    obtain ⟨f1, f2⟩ := findE (e := e) hn (tri e k) (j := k) (by omega) (fun i hi => o.new i hi) (.inr ⟨by omega, rfl⟩)
    have d0 : R.zlt (tri e k) (R.zc 0) = false := zltF (show ¬ tri e k < 0 from by have := o.lo; omega)
    have d1 : R.zle (L : Int) (tri e k) = false := zleF (by have := o.hi; omega)
    have d2 : R.zle (R.zc 0) (tri e k) = true := zleT o.lo
    have d3 : R.zlt (tri e k) (L : Int) = true := zltT o.hi
    obtain ⟨w1, w2⟩ := wE_code t e k
    have ha : R.lapp (mk1 k (wE t e)) [[.z (wE t e k)]] = mk1 (k + 1) (wE t e) := mk1_snoc k (wE t e)
    have hr := room (l := mk1 (k + 1) (wE t e)) (by rw [mk1_len]; omega)
    have z1 : R.zeq (k : Int) (k : Int) = true := zeqT rfl
    have n1 : nthZ (D := R) [.z 0, .z (k : Int)] 1 = (k : Int) := rfl
    show (C10 R (L : Int) (n : Int) (n : Int) (n : Int) t e (mk1 k (wE t e)) (k : Int), O10_ R (L : Int) (n : Int) (n : Int) (n : Int) t e (mk1 k (wE t e)) (k : Int), [PV.l (N10_0 R t e (mk1 k (wE t e)) (k : Int)), .z 0, .z (N10_2 R (k : Int))]) = _
    unfold C10 O10_ N10_0 N10_2 WC10_3 WC10_2 WC10_1 WC10_0 WO10__2 WO10__1 WO10__0
    rw [show R.lz e (k : Int) 0 = tri e k from rfl, w1, w2, ha, hr, f1, f2, n1, c1, hg, d0, d1, d2, d3, zge0, suc (by omega)]
    show (R.band true (R.bite (R.band (R.band true true) (R.band true (R.bite (R.bnot (R.zeq (k : Int) (k : Int))) (R.bc true) true))) (R.bnot (R.bnot (R.zeq (k : Int) (k : Int)))) (R.bc true)), R.bite true (R.band (R.band true true) (R.band true (R.bite (R.bnot (R.zeq (k : Int) (k : Int))) (R.bc true) true))) (R.bc true), _) = _
    rw [z1]; rfl
  · show C10 R (L : Int) (n : Int) (n : Int) (n : Int) t e (mk1 m (wE t e)) (m : Int) = false
    unfold C10
    rcases h2 with q | ⟨q, hb⟩
    · rw [zltF (show ¬ (m : Int) < (n : Int) by omega)]; rfl
    · have c1 : R.zlt (m : Int) (n : Int) = true := zltT (by omega)
      have bad : WC10_3 R (L : Int) (n : Int) e (m : Int) = true ∧ (R.bite (WC10_0 R (L : Int) e (m : Int)) (R.bc true) (WC10_1 R (n : Int) e (m : Int))) = true := by
        by_cases b0 : WC10_0 R (L : Int) e (m : Int) = true
        · unfold WC10_3; rw [b0]; exact ⟨rfl, rfl⟩
        · have b0' : WC10_0 R (L : Int) e (m : Int) = false := by simpa using b0
          obtain ⟨j, j1, j2, j3⟩ := firstNot (fun i => tri e i ≠ tri e m) m
          have j3' : j < m ∧ tri e j = tri e m := by
            rcases j3 with r | ⟨r, s⟩
            · exfalso
              apply hb
              have b0'' := b0'
              unfold WC10_0 at b0''
              rw [show R.lz e (m : Int) 0 = tri e m from rfl, goodE] at b0''
              by_cases x1 : tri e m < 0
              · rw [zltT (show tri e m < R.zc 0 from x1)] at b0''; cases b0''
              · by_cases x2 : (L : Int) ≤ tri e m
                · rw [zltF (show ¬ tri e m < R.zc 0 from x1), zleT x2] at b0''; cases b0''
                · cases hg : S28_0 R (R.lf e (m : Int) 1) (R.lf e (m : Int) 2) (R.lf e (m : Int) 3) with
                  | true => exact ⟨by omega, by omega, hg, fun k hk => j2 k (by omega)⟩
                  | false => rw [zltF (show ¬ tri e m < R.zc 0 from x1), zleF x2, hg] at b0''; cases b0''
            · exact ⟨r, Classical.not_not.1 s⟩
          obtain ⟨f1, f2⟩ := findE (e := e) hn (tri e m) (j := j) (by omega) j2 (.inr ⟨by omega, j3'.2⟩)
          have z1 : R.zeq (j : Int) (m : Int) = false := zeqF (by omega)
          have c2 : R.zlt (j : Int) (n : Int) = true := zltT (by omega)
          have n1 : nthZ (D := R) [.z 0, .z (j : Int)] 1 = (j : Int) := rfl
          unfold WC10_3 WC10_2 WC10_1
          rw [b0', show R.lz e (m : Int) 0 = tri e m from rfl, f1, f2, n1, c2]
          show R.bite false (R.bc true) (R.bnot (R.zeq (j : Int) (m : Int))) = true ∧ _
          rw [z1]; exact ⟨rfl, rfl⟩
      rw [bad.1, bad.2, c1, zge0]; rfl

theorem mayLE : E12 R (L : Int) (n : Int) e (R.zc 0) (R.zc 0) = true ∧ L12 R (L : Int) (n : Int) e (R.zc 0) (R.zc 0) = [.z 0, .z (m : Int)] := by
  refine ends_path (step := G12 R (L : Int) (n : Int) e) (p := [.z (R.zc 0), .z (R.zc 0)]) (fun k => [.z 0, .z (k : Int)]) m rfl (fun k hk => ?_) ?_
  · have o := h1 k hk
    have c1 : R.zlt (k : Int) (n : Int) = true := zltT (by omega)
    obtain ⟨f1, f2⟩ := dupE (e := e) hn (show k < n by omega) 0 (j := k) (by omega) (fun i hi => o.new i hi) (.inl rfl)
    have d0 : R.zlt (tri e k) (R.zc 0) = false := zltF (show ¬ tri e k < 0 from by have := o.lo; omega)
    have d1 : R.zle (L : Int) (tri e k) = false := zleF (by have := o.hi; omega)
    have z1 : R.zlt (k : Int) (k : Int) = false := zltF (Int.lt_irrefl _)
    have n1 : nthZ (D := R) [.z 0, .z (k : Int)] 1 = (k : Int) := rfl
    have n0 : nthZ (D := R) [.z 0, .z (k : Int)] 0 = 0 := rfl
    show (C12 R (L : Int) (n : Int) e 0 (k : Int), O12_ R (L : Int) (n : Int) e 0 (k : Int), [PV.z (N12_0 R (n : Int) e 0 (k : Int)), .z (N12_1 R (k : Int))]) = _
    unfold C12 O12_ N12_0 N12_1 WO12__0 WO12__1 WO12__2
    rw [show R.lz e (k : Int) 0 = tri e k from rfl, f1, f2, n1, n0, c1, z1, o.good, d0, d1, zge0, suc (by omega)]
    rfl
  · show C12 R (L : Int) (n : Int) e 0 (m : Int) = false
    unfold C12
    rcases h2 with q | ⟨q, hb⟩
    · rw [zltF (show ¬ (m : Int) < (n : Int) by omega)]; rfl
    · have c1 : R.zlt (m : Int) (n : Int) = true := zltT (by omega)
      obtain ⟨j, j1, j2, j3⟩ := firstNot (fun i => tri e i ≠ tri e m) m
      have j4 : j = m ∨ j < m ∧ tri e j = tri e m := j3.imp id fun g => ⟨g.1, Classical.not_not.1 g.2⟩
      obtain ⟨f1, f2⟩ := dupE (e := e) hn q 0 j1 j2 j4
      have n1 : nthZ (D := R) [.z 0, .z (j : Int)] 1 = (j : Int) := rfl
      rw [show R.lz e (m : Int) 0 = tri e m from rfl, f1, f2, n1, c1, zge0]
      by_cases x1 : tri e m < 0
      · rw [zltT (show tri e m < R.zc 0 from x1)]; rfl
      · by_cases x2 : (L : Int) ≤ tri e m
        · rw [zltF (show ¬ tri e m < R.zc 0 from x1), zleT x2]; rfl
        · rw [zltF (show ¬ tri e m < R.zc 0 from x1), zleF x2]
          cases hg : S28_0 R (R.lf e (m : Int) 1) (R.lf e (m : Int) 2) (R.lf e (m : Int) 3) with
          | false => rfl
          | true =>
            have hj : j < m := by
              rcases j4 with r | r
              · exact absurd ⟨by omega, by omega, hg, fun k hk => j2 k (by omega)⟩ hb
              · exact r.1
            rw [zltT (show (j : Int) < (m : Int) by omega)]; rfl
end

theorem weighE {t e : Row} {L n : Nat} (hn : n ≤ 1024) (h : ∀ i, i < n → Ok L e i) : E13 R (L : Int) (n : Int) t e R.lnil (R.zc 0) = true ∧ L13 R (L : Int) (n : Int) t e R.lnil (R.zc 0) = [.l (mk1 n (wE t e)), .z (n : Int)] := by
  refine ends_path (step := G13 R (L : Int) (n : Int) t e) (p := [.l R.lnil, .z (R.zc 0)]) (fun k => [.l (mk1 k (wE t e)), .z (k : Int)]) n rfl (fun k hk => ?_) (zltF (show ¬ (n : Int) < (n : Int) by omega))
  have o := h k hk
  have c1 : R.zlt (k : Int) (n : Int) = true := zltT (by omega)
  have d2 : R.zle (R.zc 0) (tri e k) = true := zleT o.lo
  have d3 : R.zlt (tri e k) (L : Int) = true := zltT o.hi
  obtain ⟨_, w2, _⟩ := weightE (S47_0 R (R.lf e (k : Int) 1) (areaOf t e k)) (S47_1 R (R.lf e (k : Int) 2) (areaOf t e k)) (S47_2 R (R.lf e (k : Int) 3) (areaOf t e k))
  have ha : R.lapp (mk1 k (wE t e)) [[.z (wE t e k)]] = mk1 (k + 1) (wE t e) := mk1_snoc k (wE t e)
  have hr := room (l := mk1 (k + 1) (wE t e)) (by rw [mk1_len]; omega)
  show (C13 R (n : Int) (k : Int), O13_ R (L : Int) (n : Int) t e (mk1 k (wE t e)) (k : Int), [PV.l (R.lapp (mk1 k (wE t e)) [[.z (wE t e k)]]), .z (N13_1 R (k : Int))]) = _
  unfold C13 O13_ N13_1
  rw [show S46_0 R (WO13__2 R t e (k : Int)) (WO13__3 R t e (k : Int)) (WO13__4 R t e (k : Int)) = wE t e k from rfl, show O46 R (WO13__2 R t e (k : Int)) (WO13__3 R t e (k : Int)) (WO13__4 R t e (k : Int)) = true from w2]
  unfold WO13__0
  rw [show R.lz e (k : Int) 0 = tri e k from rfl, ha, hr, c1, d2, d3, zge0, suc (by omega)]
  rfl

theorem chanceE {n : Nat} (hn : n ≤ 1024) {S : Int} {w : Row} (hs : ∀ i, i < n → R.feq (R.fdiv (R.i2f (R.lz w (i : Int) 0)) (R.i2f S)) (R.fdiv (R.i2f (R.lz w (i : Int) 0)) (R.i2f S)) = true) :
    E17 R true (n : Int) S true true w true (n : Int) S true w (R.bc false) (R.zc 0) = true ∧ L17 R true (n : Int) S true true w true (n : Int) S true w (R.bc false) (R.zc 0) = [.b false, .z (n : Int)] := by
  refine ends_path (step := G17 R true (n : Int) S true true w true (n : Int) S true w) (p := [.b (R.bc false), .z (R.zc 0)]) (fun k => [.b false, .z (k : Int)]) n rfl (fun k hk => ?_) ?_
  · have c1 : R.zlt (k : Int) (n : Int) = true := zltT (by omega)
    have h := hs k hk
    show (C17 R true (n : Int) S true true w true (n : Int) S true w (k : Int), O17_ R true (n : Int) true true true (n : Int) true (k : Int), [PV.b false, .z (N17_1 R (k : Int))]) = _
    unfold C17 O17_ N17_1
    rw [c1, zge0, suc (by omega)]
    have e : R.zlt (k : Int) (R.zite (R.bnot true) (R.zc 0) (n : Int)) = true := c1
    have h2 : R.feq (R.fite (R.bnot true) (R.fc 0) (R.fite (R.bnot (R.bite true true (R.bc false))) (R.fc 0) (R.fdiv (R.i2f (R.lz w (k : Int) 0)) (R.i2f S)))) (R.fdiv (R.i2f (R.lz w (k : Int) 0)) (R.i2f S)) = true := h
    rw [e, h2]; rfl
  · show C17 R true (n : Int) S true true w true (n : Int) S true w (n : Int) = false
    unfold C17
    rw [zltF (Int.lt_irrefl (n : Int))]; rfl

theorem cap {S : Int} (h : S ≤ 1073741824) (h0 : 0 ≤ S) {k : Nat} (hk : k ≤ 1024) : (k : Int) * S ≤ 1099511627776 := by
  calc (k : Int) * S ≤ 1024 * 1073741824 := Int.mul_le_mul (by omega) h h0 (by decide)
    _ = 1099511627776 := by decide

theorem pw_big : (2147483648 : Rat) ≤ pw 1000 := Rat.le_trans (show (2147483648 : Rat) ≤ pw 31 by unfold pw; decide +kernel) (pw_le (by decide))

/-- A small number is the float of it. -/
theorem fv_small {n : Int} (h1 : 0 ≤ n) (h2 : n ≤ 2147483648) : fv (R.i2f n) (n : Rat) := by
  obtain ⟨k, rfl⟩ : ∃ k : Nat, n = (k : Int) := ⟨n.toNat, by omega⟩
  have e : ((k : Int) : Rat) = (k : Rat) := rfl
  have a : (0 : Rat) ≤ (k : Rat) := Rat.natCast_nonneg
  have b : (k : Rat) ≤ 2147483648 := by
    have : (k : Rat) ≤ ((2147483648 : Nat) : Rat) := Rat.natCast_le_natCast.2 (by omega)
    exact this
  obtain ⟨r, h, hr⟩ := fv_int (n := (k : Int)) (by have := pw_big; have := pw_pos 1000; rw [e]; generalize pw 1000 = z at *; grind) (Rat.le_trans b pw_big)
  have := hr.exact (repQ_dyadic (n := k) (j := 0) (by omega) (by decide) (by rw [pw_zero, Rat.mul_one]; exact e))
  rw [this] at h
  exact h

theorem frac_self {a b : Int} (h0 : 0 ≤ a) (h1 : a ≤ b) (h2 : 0 < b) (h3 : b ≤ 1073741824) : R.feq (R.fdiv (R.i2f a) (R.i2f b)) (R.fdiv (R.i2f a) (R.i2f b)) = true := by
  have x := fv_small h0 (show a ≤ 2147483648 by omega)
  have y := fv_small (show 0 ≤ b by omega) (show b ≤ 2147483648 by omega)
  have ra : (0 : Rat) ≤ (a : Rat) := Rat.intCast_le_intCast.2 h0
  have rab : (a : Rat) ≤ (b : Rat) := Rat.intCast_le_intCast.2 h1
  have rb : (0 : Rat) < (b : Rat) := Rat.intCast_lt_intCast.2 h2
  have q0 : (0 : Rat) ≤ (a : Rat) / (b : Rat) := by rw [Rat.div_def]; exact Rat.mul_nonneg ra (Rat.le_of_lt (Rat.inv_pos.2 rb))
  have q1 : (a : Rat) / (b : Rat) ≤ 1 := by
    rw [Rat.div_def]
    have := Rat.mul_le_mul_of_nonneg_right rab (Rat.le_of_lt (Rat.inv_pos.2 rb))
    rw [Rat.mul_inv_cancel _ (Rat.ne_of_gt rb)] at this
    exact this
  obtain ⟨r, hr, _⟩ := div_val x y (Rat.ne_of_gt rb) (by grind) (by grind)
  exact fv_num hr

theorem pw_more : (1099511627776 : Rat) ≤ pw 1000 := Rat.le_trans (show (1099511627776 : Rat) ≤ pw 40 by unfold pw; decide +kernel) (pw_le (by decide))

/-- A number is the float of it. -/
theorem fv_nat {k : Nat} (h : k ≤ 1099511627776) : fv (R.i2f (k : Int)) (k : Rat) := by
  have e : ((k : Int) : Rat) = (k : Rat) := rfl
  have a : (0 : Rat) ≤ (k : Rat) := Rat.natCast_nonneg
  have b : (k : Rat) ≤ 1099511627776 := by
    have : (k : Rat) ≤ ((1099511627776 : Nat) : Rat) := Rat.natCast_le_natCast.2 h
    exact this
  obtain ⟨r, h, hr⟩ := fv_int (n := (k : Int)) (by have := pw_more; have := pw_pos 1000; rw [e]; generalize pw 1000 = z at *; grind) (Rat.le_trans b pw_more)
  have := hr.exact (repQ_dyadic (n := k) (j := 0) (by omega) (by decide) (by rw [pw_zero, Rat.mul_one]; exact e))
  rw [this] at h
  exact h

/-- The draw, such as it is taken. -/
noncomputable def clean (x : Fl) : Fl := R.fite (R.bnot (R.bite (R.fge x (R.fc 0)) (R.flt x (R.fc 4607182418800017408)) (R.bc false))) (R.fc 0) x

theorem clean_val (x : Fl) : ∃ p, fv (clean x) p ∧ 0 ≤ p ∧ p ≤ 1 := by
  unfold clean
  cases h1 : R.fge x (R.fc 0) with
  | false => exact ⟨0, fv_zero, Rat.le_refl, by decide⟩
  | true =>
    cases h2 : R.flt x (R.fc 4607182418800017408) with
    | false => exact ⟨0, fv_zero, Rat.le_refl, by decide⟩
    | true =>
      obtain ⟨q, a, b, c⟩ := unit_val h1 h2
      exact ⟨q, a, b, Rat.le_of_lt c⟩

/-- The number that a draw gives of so many. -/
theorem draw_num {x : Fl} {M : Nat} (hM : M ≤ 1099511627776) : ∃ k : Nat, flint (R.fmul (clean x) (R.i2f (M : Int))) = some (k : Int) ∧ k ≤ M := by
  obtain ⟨p, hp, p0, p1⟩ := clean_val x
  have hq := fv_nat hM
  have m0 : (0 : Rat) ≤ (M : Rat) := Rat.natCast_nonneg
  have mb : (M : Rat) ≤ 1099511627776 := by
    have : (M : Rat) ≤ ((1099511627776 : Nat) : Rat) := Rat.natCast_le_natCast.2 hM
    exact this
  have v0 : 0 ≤ p * (M : Rat) := Rat.mul_nonneg p0 m0
  have v1 : p * (M : Rat) ≤ (M : Rat) := by
    have := Rat.mul_le_mul_of_nonneg_right p1 m0
    rw [Rat.one_mul] at this
    exact this
  obtain ⟨r, hr, hrn⟩ := fv_mul hp hq (by have := pw_pos 1000; generalize pw 1000 = z at *; grind) (Rat.le_trans v1 (Rat.le_trans mb pw_more))
  have r0 : 0 ≤ r := hrn.ge 0 (fv_rep fv_zero) v0
  have r1 : r ≤ (M : Rat) := hrn.le (M : Rat) (fv_rep hq) v1
  obtain ⟨a, ha, ea⟩ := hr
  have a0 : 0 ≤ a := by
    have : (0 : Rat) ≤ (a : Rat) := by rw [← ea]; exact Rat.mul_nonneg r0 (Rat.le_of_lt (pw_pos _))
    exact Rat.intCast_nonneg.1 this
  have e := flint_nonneg ha a0
  have pp : ∀ n : Nat, (0 : Int) < ((2 ^ n : Nat) : Int) := fun n => Int.natCast_pos.2 (Nat.two_pow_pos n)
  have pp := pp 1074
  have pq := pw_int 1074
  generalize ((2 ^ 1074 : Nat) : Int) = P at *
  have a1 : a ≤ (M : Int) * P := by
    have h : (a : Rat) ≤ (((M : Int) * P : Int) : Rat) := by
      rw [← ea, Rat.intCast_mul, pq]
      exact Rat.mul_le_mul_of_nonneg_right r1 (Rat.le_of_lt (pw_pos _))
    exact Rat.intCast_le_intCast.1 h
  have d0 : 0 ≤ a / P := Int.ediv_nonneg a0 (by omega)
  have d1 : a / P ≤ (M : Int) := by
    have := Int.ediv_le_ediv pp a1
    rw [Int.mul_ediv_cancel _ (by omega)] at this
    exact this
  exact ⟨(a / P).toNat, by rw [e]; congr 1; omega, by omega⟩

theorem zremN {a b : Int} (h : 0 ≤ a) : R.zrem .i64 a b = a % b := Int.tmod_eq_emod_of_nonneg h

section
variable {n : Nat} {S : Int} {W : Vals} {s : St}

/-- What a number means. -/
noncomputable def meant (S : Int) (t : Row) (u : Int) : Int := R.zite (R.zlt (R.zrem .i64 u S) (R.lz t (R.zquo .i64 u S) 0)) (R.zquo .i64 u S) (R.lz t (R.zquo .i64 u S) 1)

theorem meant_ok (h : Wts n S W) (v : Inv n S W s) (hg : go s = false) {u : Int} (h0 : 0 ≤ u) (h1 : u < (n : Int) * S) :
    (∃ i : Nat, R.zquo .i64 u S = (i : Int) ∧ i < n) ∧ ∃ j : Nat, meant S (mk2 n s.T s.A) u = (j : Int) ∧ j < n ∧ 0 < W j := by
  have hp := h.pos
  have htop := h.top
  have hn := h.n2
  have hub : (n : Int) * S ≤ 1099511627776 := cap htop (by omega) hn
  have hq : R.zquo .i64 u S = u / S := zquo64 ⟨h0, by omega, by omega⟩
  have d0 : 0 ≤ u / S := Int.ediv_nonneg h0 (by omega)
  have d1 : u / S < (n : Int) := Int.ediv_lt_of_lt_mul hp h1
  obtain ⟨i, hi⟩ : ∃ i : Nat, u / S = (i : Int) := ⟨(u / S).toNat, by omega⟩
  have hin : i < n := by omega
  refine ⟨⟨i, hq.trans hi, hin⟩, ?_⟩
  have r0 : 0 ≤ u % S := Int.emod_nonneg u (by omega)
  have r1 : u % S < S := Int.emod_lt_of_pos u hp
  obtain ⟨t0, t1, a0, a1⟩ := v.rng i hin
  have cn : ∀ j k, k < n → 0 ≤ (fun i => if s.A i = (j : Int) then S - s.T i else 0) k := fun j k hk => by
    have := v.rng k hk
    show 0 ≤ if s.A k = (j : Int) then S - s.T k else 0
    split <;> omega
  unfold meant
  rw [hq, hi, zremN h0, mk2_at0 _ _ hin, mk2_at1 _ _ hin]
  by_cases e : u % S < s.T i
  · refine ⟨i, by rw [zltT e]; rfl, hin, ?_⟩
    have hf := v.fin hg i hin
    have := sm_nonneg (f := fun k => if s.A k = (i : Int) then S - s.T k else 0) (n := n) (cn i)
    by_cases hw : 0 < W i
    · exact hw
    · have : W i = 0 := by have := (h.w i hin).1; omega
      rw [this] at hf; omega
  · obtain ⟨j, hj⟩ : ∃ j : Nat, s.A i = (j : Int) := ⟨(s.A i).toNat, by omega⟩
    have hjn : j < n := by omega
    refine ⟨j, by rw [zltF e]; exact hj, hjn, ?_⟩
    have hf := v.fin hg j hjn
    have hg1 := sm_ge (f := fun k => if s.A k = (j : Int) then S - s.T k else 0) (n := n) (cn j) i hin
    simp only [hj, if_true] at hg1
    have := (v.rng j hjn).1
    by_cases hw : 0 < W j
    · exact hw
    · have hw0 : W j = 0 := by have := (h.w j hjn).1; omega
      rw [hw0] at hf; omega

end

theorem zlt_not_zle (a b : Int) : R.zle a b = !R.zlt b a := by
  by_cases e : a ≤ b
  · rw [zleT e, zltF (by omega)]; rfl
  · rw [zleF e, zltT (by omega)]; rfl

/-- The number that a draw gives, at most the last one. -/
noncomputable def numOf (x : Fl) (M : Int) : Int := R.zmin (R.f2i .i64 (R.fmul (clean x) (R.i2f M))) (R.zsub .i64 M (R.zc 1))

theorem numOf_ok (x : Fl) {M : Nat} (h0 : 1 ≤ M) (h1 : M ≤ 1099511627776) : R.f2iok .i64 (R.fmul (clean x) (R.i2f (M : Int))) = true ∧ 0 ≤ numOf x (M : Int) ∧ numOf x (M : Int) < (M : Int) := by
  obtain ⟨k, hk, hkM⟩ := draw_num (x := x) h1
  have e1 : R.f2i .i64 (R.fmul (clean x) (R.i2f (M : Int))) = (k : Int) := by show (flint _).getD 0 = _; rw [hk]; rfl
  have e2 : R.zsub .i64 (M : Int) (R.zc 1) = (M : Int) - 1 := zsub64 (x := (M : Int)) (y := 1) ⟨by omega, by omega⟩
  have e3 : R.f2iok .i64 (R.fmul (clean x) (R.i2f (M : Int))) = true := by
    show (match flint (R.fmul (clean x) (R.i2f (M : Int))) with | some n => decide (IntKind.i64.min ≤ n ∧ n ≤ IntKind.i64.max) | none => false) = true
    rw [hk]
    have hmin : IntKind.i64.min = -9223372036854775808 := by decide
    have hmax : IntKind.i64.max = 9223372036854775807 := by decide
    exact decide_eq_true (by rw [hmin, hmax]; omega)
  have e4 : numOf x (M : Int) = if (M : Int) - 1 < (k : Int) then (M : Int) - 1 else (k : Int) := by unfold numOf; rw [e1, e2]
  refine ⟨e3, ?_, ?_⟩
  · rw [e4]; split <;> omega
  · rw [e4]; split <;> omega

theorem none_ok (x : Fl) : R.f2iok .i64 (R.fmul (clean x) (R.i2f (R.zc 0))) = true := by
  obtain ⟨k, hk, hkM⟩ := draw_num (x := x) (M := 0) (by omega)
  show (match flint (R.fmul (clean x) (R.i2f (0 : Int))) with | some n => decide (IntKind.i64.min ≤ n ∧ n ≤ IntKind.i64.max) | none => false) = true
  have hk' : flint (R.fmul (clean x) (R.i2f (0 : Int))) = some (k : Int) := hk
  rw [hk']
  have hmin : IntKind.i64.min = -9223372036854775808 := by decide
  have hmax : IntKind.i64.max = 9223372036854775807 := by decide
  exact decide_eq_true (by rw [hmin, hmax]; omega)

end Go.Proofs.Ytachcmfgjjoimaa
