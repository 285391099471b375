/- The law RouletteEven over floats alone. -/
import Derived.Test.YtmlkkfijlgkmfaaCm
namespace Go.Proofs.Ytmlkkfijlgkmfaa
open Go.Ev

theorem awake26 : S9_0 R = true := by kernel_rfl

/-- What is added up over a row of plays. -/
def playSum (Ch X : Fl) (l : List Int) (s : Fl) : Fl := l.foldl (fun s i => S23_0 R s (R.fite (R.flt (S26_0 R (R.fdiv (R.i2f i) (R.i2f (R.zc 64)))) Ch) X (R.fc 0))) s
def plays : List Int := [0, 1, 2, 3, 4, 5, 6, 7, 8, 9, 10, 11, 12, 13, 14, 15, 16, 17, 18, 19, 20, 21, 22, 23, 24, 25, 26, 27, 28, 29, 30, 31, 32, 33, 34, 35, 36, 37, 38, 39, 40, 41, 42, 43, 44, 45, 46, 47, 48, 49, 50, 51, 52, 53, 54, 55, 56, 57, 58, 59, 60, 61, 62, 63]

/-- How many of the plays go on, at a chance. -/
def goOn (q : Rat) : List Int → Nat
  | [] => 0
  | i :: l => (if ((i : Int) : Rat) < q * 64 then 1 else 0) + goOn q l

theorem cleanOf {a : Fl} {q : Rat} (h : fv a q) (h0 : 0 ≤ q) (h1 : q < 1) : fv (S26_0 R a) q := by
  unfold S26_0
  rw [fv_fge h fv_zero, fv_flt h fv_one, decide_eq_true h0, decide_eq_true h1]
  exact h

theorem intQ (n : Int) (h0 : 0 ≤ n) (h1 : n ≤ 64) : fv (R.i2f n) ((n : Int) : Rat) := by
  have g0 := Rat.intCast_le_intCast.2 h0
  have g1 := Rat.intCast_le_intCast.2 h1
  have c0 : ((0 : Int) : Rat) = 0 := rfl
  have c1 : ((64 : Int) : Rat) = 64 := rfl
  rw [c0] at g0
  rw [c1] at g1
  obtain ⟨s1, s2⟩ := small (v := ((n : Int) : Rat)) (by grind) (by grind)
  obtain ⟨r, hr, rr⟩ := fv_int (n := n) s1 s2
  have : repQ ((n : Int) : Rat) := by
    refine repQ_dyadic (n := n.toNat) (j := 0) ?_ (by decide) ?_
    · have : (2 : Nat) ^ 53 = 9007199254740992 := by decide
      rw [this]; omega
    · rw [pw_zero, Rat.mul_one, ← Rat.intCast_natCast, Int.toNat_of_nonneg h0]
  have e := rr.exact this
  rw [← e]
  exact hr

theorem sixtyFourth (n : Int) (h0 : 0 ≤ n) (h1 : n ≤ 64) {x : Fl} (hx : fv x ((n : Int) : Rat)) {y : Fl} (hy : fv y 64) : fv (R.fdiv x y) (((n : Int) : Rat) / 64) := by
  have g0 := Rat.intCast_le_intCast.2 h0
  have g1 := Rat.intCast_le_intCast.2 h1
  have c0 : ((0 : Int) : Rat) = 0 := rfl
  have c1 : ((64 : Int) : Rat) = 64 := rfl
  rw [c0] at g0
  rw [c1] at g1
  have e : ((n : Int) : Rat) / 64 * 64 = ((n : Int) : Rat) := Rat.div_mul_cancel (by decide)
  obtain ⟨r, hr, rr⟩ := div_val hx hy (by decide) (by grind) (by grind)
  have : repQ (((n : Int) : Rat) / 64) := by
    refine repQ_dyadic (n := n.toNat) (j := 6) ?_ (by decide) ?_
    · have : (2 : Nat) ^ 53 = 9007199254740992 := by decide
      rw [this]; omega
    · have : pw 6 = 64 := by unfold pw; rfl
      rw [this, e, ← Rat.intCast_natCast, Int.toNat_of_nonneg h0]
  rw [← rr.exact this]
  exact hr

theorem near256 {r v : Rat} (h : rnds r v) (h1 : -256 ≤ v) (h2 : v ≤ 256) : v - 1 / 8796093022208 ≤ r ∧ r ≤ v + 1 / 8796093022208 := by
  obtain ⟨n1, n2⟩ := h.near 256 h1 h2
  rw [e52] at n1 n2
  have t := tiny_small
  have t0 := tiny_pos
  constructor <;> grind

theorem sumVal {Ch X : Fl} {q x : Rat} (hCh : fv Ch q) (hX : fv X x) (x0 : 0 ≤ x) (x1 : x ≤ 2) : ∀ (l : List Int), (∀ i ∈ l, 0 ≤ i ∧ i < 64) → ∀ (s : Fl) (v V e : Rat), fv s v → V - e ≤ v → v ≤ V + e → 0 ≤ V → V + 2 * (l.length : Rat) ≤ 200 → 0 ≤ e → e + (l.length : Rat) / 8796093022208 ≤ 1 →
    ∃ w, fv (playSum Ch X l s) w ∧ V + (goOn q l : Rat) * x - (e + (l.length : Rat) / 8796093022208) ≤ w ∧ w ≤ V + (goOn q l : Rat) * x + (e + (l.length : Rat) / 8796093022208)
  | [], _, s, v, V, e, hs, h1, h2, _, _, _, _ => by
    refine ⟨v, hs, ?_, ?_⟩
    · have a : ((goOn q [] : Nat) : Rat) = 0 := rfl
      have b : ((([] : List Int).length : Nat) : Rat) = 0 := rfl
      rw [a, b]; grind
    · have a : ((goOn q [] : Nat) : Rat) = 0 := rfl
      have b : ((([] : List Int).length : Nat) : Rat) = 0 := rfl
      rw [a, b]; grind
  | i :: l, hl, s, v, V, e, hs, h1, h2, V0, hV, e0, he => by
    obtain ⟨i0, i1⟩ := hl i List.mem_cons_self
    have len : (((i :: l).length : Nat) : Rat) = (l.length : Rat) + 1 := by rw [List.length_cons, Rat.natCast_add]; rfl
    have l0 : 0 ≤ (l.length : Rat) := Rat.natCast_nonneg
    rw [len] at hV he ⊢
    have g0 := Rat.intCast_le_intCast.2 i0
    have g1 := Rat.intCast_lt_intCast.2 i1
    have c0 : ((0 : Int) : Rat) = 0 := rfl
    have c1 : ((64 : Int) : Rat) = 64 := rfl
    rw [c0] at g0
    rw [c1] at g1
    have hc : fv (S26_0 R (R.fdiv (R.i2f i) (R.i2f (R.zc 64)))) (((i : Int) : Rat) / 64) := cleanOf (sixtyFourth i i0 (by omega) (intQ i i0 (by omega)) (intQ 64 (by decide) (by decide))) (by grind) (by grind)
    have hlt : R.flt (S26_0 R (R.fdiv (R.i2f i) (R.i2f (R.zc 64)))) Ch = decide (((i : Int) : Rat) < q * 64) := by
      rw [fv_flt hc hCh]
      refine decide_eq_decide.2 ?_
      have e6 : ((i : Int) : Rat) / 64 * 64 = ((i : Int) : Rat) := Rat.div_mul_cancel (by decide)
      constructor <;> intro h <;> grind
    show ∃ w, fv (playSum Ch X l (S23_0 R s (R.fite (R.flt (S26_0 R (R.fdiv (R.i2f i) (R.i2f (R.zc 64)))) Ch) X (R.fc 0)))) w ∧ _
    rw [hlt]
    have hadd : ∀ a b : Fl, S23_0 R a b = R.fadd a b := fun _ _ => rfl
    rw [hadd]
    have step : ∀ {Y : Fl} {y : Rat}, fv Y y → 0 ≤ y → y ≤ 2 → ∃ w, fv (R.fadd s Y) w ∧ V + y - (e + 1 / 8796093022208) ≤ w ∧ w ≤ V + y + (e + 1 / 8796093022208) := by
      intro Y y hY y0 y2
      obtain ⟨w, hw, rw'⟩ := add_val hs hY (by grind) (by grind)
      have := near256 rw' (by grind) (by grind)
      exact ⟨w, hw, by grind, by grind⟩
    by_cases g : ((i : Int) : Rat) < q * 64
    · have e1 : goOn q (i :: l) = 1 + goOn q l := by show (if _ then 1 else 0) + goOn q l = _; rw [if_pos g]
      obtain ⟨w, hw, w1, w2⟩ := step hX x0 x1
      obtain ⟨z, hz, z1, z2⟩ := sumVal hCh hX x0 x1 l (fun j hj => hl j (List.mem_cons_of_mem _ hj)) (R.fadd s X) w (V + x) (e + 1 / 8796093022208) hw w1 w2 (by grind) (by grind) (by grind) (by grind)
      rw [decide_eq_true g, e1, Rat.natCast_add]
      refine ⟨z, hz, ?_, ?_⟩
      · have : ((1 : Nat) : Rat) = 1 := rfl
        rw [this]; grind
      · have : ((1 : Nat) : Rat) = 1 := rfl
        rw [this]; grind
    · have e1 : goOn q (i :: l) = goOn q l := by show (if _ then 1 else 0) + goOn q l = _; rw [if_neg g, Nat.zero_add]
      obtain ⟨w, hw, w1, w2⟩ := step fv_zero (by decide) (by decide)
      obtain ⟨z, hz, z1, z2⟩ := sumVal hCh hX x0 x1 l (fun j hj => hl j (List.mem_cons_of_mem _ hj)) (R.fadd s (R.fc 0)) w V (e + 1 / 8796093022208) hw (by grind) (by grind) (by grind) (by grind) (by grind) (by grind)
      rw [decide_eq_false g, e1]
      exact ⟨z, hz, by grind, by grind⟩

theorem goOn_part : ∀ p : Fin 65, goOn (((p.val : Nat) : Rat) / 64) plays = p.val := by decide +kernel

/-- The mean of 64 plays of a channel: what it was, nearly; at a chance of 1, or of a whole number of parts. -/
theorem channel {Ch C : Fl} {q c : Rat} {p : Nat} (hCh : fv Ch q) (hC : fv C c) (c0 : 0 ≤ c) (cq : c ≤ q) (hp : p ≤ 64) (hp4 : 4 ≤ p) (hq : q * 64 = (p : Rat)) : S15_0 R (S24_0 R (playSum Ch (S24_0 R C (R.fdiv (R.fc 4607182418800017408) Ch)) plays (R.fc 0)) (R.fdiv (R.fc 4607182418800017408) (R.i2f (R.zc 64)))) C = true := by
  have p0 := natQ_le.2 hp
  have p4 := natQ_le.2 hp4
  have e64 : ((64 : Nat) : Rat) = 64 := rfl
  have e4 : ((4 : Nat) : Rat) = 4 := rfl
  rw [e64] at p0
  rw [e4] at p4
  have q0 : 1 / 16 ≤ q := by grind
  have q1 : q ≤ 1 := by grind
  have qne : q ≠ 0 := by grind
  have qpos : 0 < q := by grind
  have sc : ∀ x y : Fl, S24_0 R x y = R.fmul x y := fun _ _ => rfl
  rw [sc, sc]
  have er : 1 / q * q = 1 := Rat.div_mul_cancel qne
  have r0 : 1 ≤ 1 / q := Rat.le_of_mul_le_mul_right (by rw [er, Rat.one_mul]; exact q1) qpos
  have r1 : 1 / q ≤ 16 := Rat.le_of_mul_le_mul_right (by rw [er]; grind) qpos
  obtain ⟨w, hw, rw'⟩ := div_val fv_one hCh qne (by grind) (by grind)
  have wn := near256 rw' (by grind) (by grind)
  obtain ⟨m1, m2⟩ := mul_abs (u := c) (a := 1) (v := w - 1 / q) (b := 1 / 8796093022208) (by grind) (by grind) (by grind) (by grind)
  have ec : c * (1 / q) ≤ 1 := Rat.le_of_mul_le_mul_right (c := q) (by rw [Rat.mul_assoc, er]; grind) qpos
  have ec0 : 0 ≤ c * (1 / q) := Rat.mul_nonneg c0 (by grind)
  have ecw : c * w = c * (1 / q) + c * (w - 1 / q) := by grind
  obtain ⟨x, hx, rx⟩ := mul_val hC hw (by grind) (by grind)
  have xn := near256 rx (by grind) (by grind)
  have x0 : 0 ≤ x := rx.ge 0 (fv_rep fv_zero) (Rat.mul_nonneg c0 (by grind))
  have hall : ∀ i ∈ plays, (0 : Int) ≤ i ∧ i < 64 := by decide
  have lenp : ((plays.length : Nat) : Rat) = 64 := rfl
  obtain ⟨s, hs, s1, s2⟩ := sumVal hCh hx x0 (by grind) plays hall (R.fc 0) 0 0 0 fv_zero (by grind) (by grind) (by grind) (by rw [lenp]; grind) (by grind) (by rw [lenp]; grind)
  rw [lenp] at s1 s2
  have hgo : (goOn q plays : Rat) = (p : Rat) := by
    have e : q = ((p : Nat) : Rat) / 64 := by grind
    rw [e]
    exact congrArg (fun n : Nat => (n : Rat)) (goOn_part ⟨p, by omega⟩)
  rw [hgo] at s1 s2
  -- p x is nearly 64 c
  have k1 := Rat.mul_le_mul_of_nonneg_left xn.1 (show 0 ≤ (p : Rat) by grind)
  have k2 := Rat.mul_le_mul_of_nonneg_left xn.2 (show 0 ≤ (p : Rat) by grind)
  have epc : (p : Rat) * (c * (1 / q)) = 64 * c := by
    rw [← hq]
    have : q * 64 * (c * (1 / q)) = 64 * c * (1 / q * q) := by grind
    rw [this, er]
    grind
  obtain ⟨j1, j2⟩ := mul_abs (u := (p : Rat)) (a := 64) (v := c * (w - 1 / q)) (b := 1 * (1 / 8796093022208)) (by grind) p0 m1 m2
  have px : 64 * c - 1 / 34359738368 ≤ (p : Rat) * x ∧ (p : Rat) * x ≤ 64 * c + 1 / 34359738368 := by
    generalize (p : Rat) * x = px at *
    constructor <;> grind
  have h64 : fv (R.fdiv (R.fc 4607182418800017408) (R.i2f (R.zc 64))) (1 / 64) := by
    have := sixtyFourth 1 (by decide) (by decide) (x := R.fc 4607182418800017408) fv_one (intQ 64 (by decide) (by decide))
    exact this
  obtain ⟨m, hm, rm⟩ := mul_val hs h64 (by grind) (by grind)
  have mn := near256 rm (by grind) (by grind)
  obtain ⟨d, hd, rd⟩ := sub_val hm hC (by grind) (by grind)
  have eps : fv (R.fc 4472074429978902528) (1 / 1073741824) := fvc 992 82 (1 / 1073741824) (by decide +kernel : f64.read 4472074429978902528 = .number false 4503599627370496 (-82)) (by decide) (by decide) (by decide +kernel)
  have neps : fv (R.fc 13695446466833678336) (-(1 / 1073741824)) := fvcn 992 82 (1 / 1073741824) (by decide +kernel : f64.read 13695446466833678336 = .number true 4503599627370496 (-82)) (by decide) (by decide) (by decide +kernel)
  unfold S15_0
  rw [fv_fle hd eps, fv_fge hd neps, decide_eq_true (rd.le _ (fv_rep eps) (by grind)), decide_eq_true (rd.ge _ (fv_rep neps) (by grind))]
  rfl

/-- The chance of a path whose greatest colour is the first one. -/
theorem chanceOf {a b c : Fl} {p q r : Rat} (k : Int) (ha : fv a p) (hb : fv b q) (hc : fv c r) (p0 : 1 / 16 ≤ p) (p1 : p ≤ 1) (q0 : 0 ≤ q) (qp : q ≤ p) (r0 : 0 ≤ r) (rp : r ≤ p) : fv (S8_0 R a b c k) 1 ∨ fv (S8_0 R a b c k) p := by
  have hm : fv (S19_0 R a b c) p := by
    unfold S19_0
    rw [fv_fgt hb ha, decide_eq_false (Rat.not_lt.2 qp)]
    show fv (R.fite (R.fgt c a) c a) p
    rw [fv_fgt hc ha, decide_eq_false (Rat.not_lt.2 rp)]
    exact ha
  have hg : S18_0 R a b c = true := by
    have one : ∀ {x : Fl} {u : Rat}, fv x u → 0 ≤ u → S27_0 R x = true := by
      intro x u hx h0
      unfold S27_0
      obtain ⟨i, hi, _⟩ := id hx
      rw [fv_fge hx fv_zero, decide_eq_true h0, vfinNum hi]
      rfl
    unfold S18_0
    rw [one ha (by grind), one hb q0, one hc r0]
    rfl
  have sixteenth : fv (R.fc 4589168020290535424) (1 / 16) := fvc 1018 56 (1 / 16) (by decide +kernel : f64.read 4589168020290535424 = .number false 4503599627370496 (-56)) (by decide) (by decide) (by decide +kernel)
  unfold S8_0
  rw [hg]
  cases R.zlt k (R.zc 3) with
  | true => exact .inl fv_one
  | false =>
    right
    have h1 := fv_min (fv_max hm sixteenth) fv_one
    rw [if_neg (show ¬ p < 1 / 16 by grind)] at h1
    have e : (if p < 1 then p else 1) = p := by
      by_cases g : p < 1
      · rw [if_pos g]
      · rw [if_neg g]; grind
    rw [e] at h1
    exact h1

theorem law_RouletteEven (x0 x1 x2 x3 : Int) (k0 : okInt .u8 x0) (k1 : okInt .u8 x1) (k2 : okInt .u8 x2) (_k3 : okInt .i64 x3) : O5 R x0 = true ∧ S5_0 R x0 x1 x2 x3 = true := by
  have mn : IntKind.u8.min = 0 := by decide
  have mx : IntKind.u8.max = 255 := by decide
  unfold okInt at k0 k1 k2
  rw [mn, mx] at k0 k1 k2
  have conv : ∀ n : Int, 0 ≤ n → n ≤ 255 → R.zconv .i64 n = n := fun n h0 h1 => i64_fits (by omega) (by omega)
  obtain ⟨P, hP⟩ : ∃ P : Int, R.zadd .i64 (R.zrem .i64 (R.zconv .i64 x0) (R.zc 61)) (R.zc 4) = P := ⟨_, rfl⟩
  have hP2 : P = x0.tmod 61 + 4 := by
    rw [← hP, conv x0 k0.1 k0.2]
    show IntKind.i64.wrap (x0.tmod 61 + 4) = _
    have h1 := Int.tmod_nonneg 61 k0.1
    have h2 := Int.tmod_lt_of_pos x0 (b := 61) (by decide)
    exact i64_fits (by omega) (by omega)
  have h1 := Int.tmod_nonneg 61 k0.1
  have h2 := Int.tmod_lt_of_pos x0 (b := 61) (by decide)
  have P4 : 4 ≤ P := by omega
  have P64 : P ≤ 64 := by omega
  have rest : ∀ n : Int, 0 ≤ n → n ≤ 255 → ∃ m : Int, R.zrem .i64 (R.zconv .i64 n) P = m ∧ 0 ≤ m ∧ m < P := by
    intro n n0 n1
    rw [conv n n0 n1]
    exact ⟨_, rfl, Int.tmod_nonneg P n0, Int.tmod_lt_of_pos n (by omega)⟩
  obtain ⟨G, hG, G0, G1⟩ := rest x1 k1.1 k1.2
  obtain ⟨B, hB, B0, B1⟩ := rest x2 k2.1 k2.2
  have big : fv (R.fc 4634204016564240384) 64 := fvc 1028 46 64 (by decide +kernel : f64.read 4634204016564240384 = .number false 4503599627370496 (-46)) (by decide) (by decide) (by decide +kernel)
  have vP := sixtyFourth P (by omega) P64 (intQ P (by omega) P64) big
  have vG := sixtyFourth G G0 (by omega) (intQ G G0 (by omega)) big
  have vB := sixtyFourth B B0 (by omega) (intQ B B0 (by omega)) big
  have okE : O5 R x0 = true := by
    unfold O5
    rw [hP]
    have : R.zeq P (R.zc 0) = false := by
      show (P == (0 : Int)) = false
      have : P ≠ 0 := by omega
      simpa using this
    rw [this]
    rfl
  refine ⟨okE, ?_⟩
  have shape : S5_0 R x0 x1 x2 x3 =
      R.bite (R.bite (R.bite (S9_0 R)
        (S15_0 R (S24_0 R (playSum (S8_0 R (R.fdiv (R.i2f (R.zadd .i64 (R.zrem .i64 (R.zconv .i64 x0) (R.zc 61)) (R.zc 4))) (R.fc 4634204016564240384)) (R.fdiv (R.i2f (R.zrem .i64 (R.zconv .i64 x1) (R.zadd .i64 (R.zrem .i64 (R.zconv .i64 x0) (R.zc 61)) (R.zc 4)))) (R.fc 4634204016564240384)) (R.fdiv (R.i2f (R.zrem .i64 (R.zconv .i64 x2) (R.zadd .i64 (R.zrem .i64 (R.zconv .i64 x0) (R.zc 61)) (R.zc 4)))) (R.fc 4634204016564240384)) x3)
          (S24_0 R (R.fdiv (R.i2f (R.zadd .i64 (R.zrem .i64 (R.zconv .i64 x0) (R.zc 61)) (R.zc 4))) (R.fc 4634204016564240384)) (R.fdiv (R.fc 4607182418800017408) (S8_0 R (R.fdiv (R.i2f (R.zadd .i64 (R.zrem .i64 (R.zconv .i64 x0) (R.zc 61)) (R.zc 4))) (R.fc 4634204016564240384)) (R.fdiv (R.i2f (R.zrem .i64 (R.zconv .i64 x1) (R.zadd .i64 (R.zrem .i64 (R.zconv .i64 x0) (R.zc 61)) (R.zc 4)))) (R.fc 4634204016564240384)) (R.fdiv (R.i2f (R.zrem .i64 (R.zconv .i64 x2) (R.zadd .i64 (R.zrem .i64 (R.zconv .i64 x0) (R.zc 61)) (R.zc 4)))) (R.fc 4634204016564240384)) x3))) plays (R.fc 0)) (R.fdiv (R.fc 4607182418800017408) (R.i2f (R.zc 64)))) (R.fdiv (R.i2f (R.zadd .i64 (R.zrem .i64 (R.zconv .i64 x0) (R.zc 61)) (R.zc 4))) (R.fc 4634204016564240384))) (R.bc false))
        (S15_0 R (S24_1 R (playSum (S8_0 R (R.fdiv (R.i2f (R.zadd .i64 (R.zrem .i64 (R.zconv .i64 x0) (R.zc 61)) (R.zc 4))) (R.fc 4634204016564240384)) (R.fdiv (R.i2f (R.zrem .i64 (R.zconv .i64 x1) (R.zadd .i64 (R.zrem .i64 (R.zconv .i64 x0) (R.zc 61)) (R.zc 4)))) (R.fc 4634204016564240384)) (R.fdiv (R.i2f (R.zrem .i64 (R.zconv .i64 x2) (R.zadd .i64 (R.zrem .i64 (R.zconv .i64 x0) (R.zc 61)) (R.zc 4)))) (R.fc 4634204016564240384)) x3)
          (S24_0 R (R.fdiv (R.i2f (R.zrem .i64 (R.zconv .i64 x1) (R.zadd .i64 (R.zrem .i64 (R.zconv .i64 x0) (R.zc 61)) (R.zc 4)))) (R.fc 4634204016564240384)) (R.fdiv (R.fc 4607182418800017408) (S8_0 R (R.fdiv (R.i2f (R.zadd .i64 (R.zrem .i64 (R.zconv .i64 x0) (R.zc 61)) (R.zc 4))) (R.fc 4634204016564240384)) (R.fdiv (R.i2f (R.zrem .i64 (R.zconv .i64 x1) (R.zadd .i64 (R.zrem .i64 (R.zconv .i64 x0) (R.zc 61)) (R.zc 4)))) (R.fc 4634204016564240384)) (R.fdiv (R.i2f (R.zrem .i64 (R.zconv .i64 x2) (R.zadd .i64 (R.zrem .i64 (R.zconv .i64 x0) (R.zc 61)) (R.zc 4)))) (R.fc 4634204016564240384)) x3))) plays (R.fc 0)) (R.fdiv (R.fc 4607182418800017408) (R.i2f (R.zc 64)))) (R.fdiv (R.i2f (R.zrem .i64 (R.zconv .i64 x1) (R.zadd .i64 (R.zrem .i64 (R.zconv .i64 x0) (R.zc 61)) (R.zc 4)))) (R.fc 4634204016564240384))) (R.bc false))
        (S15_0 R (S24_2 R (playSum (S8_0 R (R.fdiv (R.i2f (R.zadd .i64 (R.zrem .i64 (R.zconv .i64 x0) (R.zc 61)) (R.zc 4))) (R.fc 4634204016564240384)) (R.fdiv (R.i2f (R.zrem .i64 (R.zconv .i64 x1) (R.zadd .i64 (R.zrem .i64 (R.zconv .i64 x0) (R.zc 61)) (R.zc 4)))) (R.fc 4634204016564240384)) (R.fdiv (R.i2f (R.zrem .i64 (R.zconv .i64 x2) (R.zadd .i64 (R.zrem .i64 (R.zconv .i64 x0) (R.zc 61)) (R.zc 4)))) (R.fc 4634204016564240384)) x3)
          (S24_0 R (R.fdiv (R.i2f (R.zrem .i64 (R.zconv .i64 x2) (R.zadd .i64 (R.zrem .i64 (R.zconv .i64 x0) (R.zc 61)) (R.zc 4)))) (R.fc 4634204016564240384)) (R.fdiv (R.fc 4607182418800017408) (S8_0 R (R.fdiv (R.i2f (R.zadd .i64 (R.zrem .i64 (R.zconv .i64 x0) (R.zc 61)) (R.zc 4))) (R.fc 4634204016564240384)) (R.fdiv (R.i2f (R.zrem .i64 (R.zconv .i64 x1) (R.zadd .i64 (R.zrem .i64 (R.zconv .i64 x0) (R.zc 61)) (R.zc 4)))) (R.fc 4634204016564240384)) (R.fdiv (R.i2f (R.zrem .i64 (R.zconv .i64 x2) (R.zadd .i64 (R.zrem .i64 (R.zconv .i64 x0) (R.zc 61)) (R.zc 4)))) (R.fc 4634204016564240384)) x3))) plays (R.fc 0)) (R.fdiv (R.fc 4607182418800017408) (R.i2f (R.zc 64)))) (R.fdiv (R.i2f (R.zrem .i64 (R.zconv .i64 x2) (R.zadd .i64 (R.zrem .i64 (R.zconv .i64 x0) (R.zc 61)) (R.zc 4)))) (R.fc 4634204016564240384))) (R.bc false) := rfl
  rw [shape, hP, hG, hB, awake26]
  have s12 : ∀ x y : Fl, S24_1 R x y = S24_0 R x y ∧ S24_2 R x y = S24_0 R x y := fun _ _ => ⟨rfl, rfl⟩
  rw [(s12 _ _).1, (s12 _ _).2]
  have c4 := Rat.intCast_le_intCast.2 P4
  have c64 := Rat.intCast_le_intCast.2 P64
  have cG0 := Rat.intCast_le_intCast.2 G0
  have cG1 := Rat.intCast_lt_intCast.2 G1
  have cB0 := Rat.intCast_le_intCast.2 B0
  have cB1 := Rat.intCast_lt_intCast.2 B1
  have n0 : ((0 : Int) : Rat) = 0 := rfl
  have n4 : ((4 : Int) : Rat) = 4 := rfl
  have n64 : ((64 : Int) : Rat) = 64 := rfl
  rw [n4] at c4
  rw [n64] at c64
  rw [n0] at cG0 cB0
  have nat : ((P.toNat : Nat) : Rat) = ((P : Int) : Rat) := by rw [← Rat.intCast_natCast, Int.toNat_of_nonneg (by omega)]
  have hch := chanceOf x3 vP vG vB (by grind) (by grind) (by grind) (by grind) (by grind) (by grind)
  rcases hch with hch | hch
  · have one : ((64 : Nat) : Rat) = 64 := rfl
    have l0 := channel (p := 64) hch vP (by grind) (by grind) (by decide) (by decide) (by rw [one]; grind)
    have l1 := channel (p := 64) hch vG (by grind) (by grind) (by decide) (by decide) (by rw [one]; grind)
    have l2 := channel (p := 64) hch vB (by grind) (by grind) (by decide) (by decide) (by rw [one]; grind)
    rw [l0, l1, l2]
    rfl
  · have l0 := channel (p := P.toNat) hch vP (by grind) Rat.le_refl (by omega) (by omega) (by rw [nat]; grind)
    have l1 := channel (p := P.toNat) hch vG (by grind) (by grind) (by omega) (by omega) (by rw [nat]; grind)
    have l2 := channel (p := P.toNat) hch vB (by grind) (by grind) (by omega) (by omega) (by rw [nat]; grind)
    rw [l0, l1, l2]
    rfl
end Go.Proofs.Ytmlkkfijlgkmfaa
