/- How floats are rounded, and what they are worth as rational numbers. -/
import Derived.Test.YtachcmfgjjoimaaEv4
/- Rounding: to the nearest, in order, and exact where it can be. -/
namespace Go.Ev
open Ieee

/-- X / 2^l to the nearest whole number, between two the even one. -/
def rne (X l : Nat) : Nat := X / 2 ^ l + (if 2 ^ l < 2 * (X % 2 ^ l) ∨ (2 ^ l = 2 * (X % 2 ^ l) ∧ X / 2 ^ l % 2 = 1) then 1 else 0)

def lev (l0 X : Nat) : Nat := max (X.log2 - 52) l0

/-- The rung of X. -/
def rgN (l0 X : Nat) : Nat := (lev l0 X - l0) * 2 ^ 52 + rne X (lev l0 X)

/-- What a rung is worth. -/
def rvN (t : Nat) : Nat := if t < 2 ^ 52 then t else (2 ^ 52 + t % 2 ^ 52) * 2 ^ (t / 2 ^ 52 - 1)

theorem rne_lower (X l : Nat) : X / 2 ^ l ≤ rne X l := Nat.le_add_right _ _
theorem rne_upper (X l : Nat) : rne X l ≤ X / 2 ^ l + 1 := by
  unfold rne; split <;> omega

theorem rne_mono {X Y : Nat} (l : Nat) (h : X ≤ Y) : rne X l ≤ rne Y l := by
  have hq : X / 2 ^ l ≤ Y / 2 ^ l := Nat.div_le_div_right h
  rcases Nat.lt_or_eq_of_le hq with hq | hq
  · exact Nat.le_trans (rne_upper X l) (Nat.le_trans hq (rne_lower Y l))
  · have hX := Nat.div_add_mod X (2 ^ l)
    have hY := Nat.div_add_mod Y (2 ^ l)
    rw [hq] at hX
    have hr : X % 2 ^ l ≤ Y % 2 ^ l := by omega
    unfold rne
    rw [hq]
    have hrY : Y % 2 ^ l < 2 ^ l := Nat.mod_lt _ (Nat.two_pow_pos l)
    by_cases c : 2 ^ l < 2 * (X % 2 ^ l) ∨ (2 ^ l = 2 * (X % 2 ^ l) ∧ Y / 2 ^ l % 2 = 1)
    · rw [if_pos c]
      by_cases d : 2 ^ l < 2 * (Y % 2 ^ l) ∨ (2 ^ l = 2 * (Y % 2 ^ l) ∧ Y / 2 ^ l % 2 = 1)
      · rw [if_pos d]; exact Nat.le_refl _
      · exfalso
        apply d
        rcases c with c | ⟨c1, c2⟩
        · exact .inl (by omega)
        · rcases Nat.lt_or_eq_of_le hr with g | g
          · exact .inl (by omega)
          · exact .inr ⟨by omega, c2⟩
    · rw [if_neg c]; omega

theorem rne_exact (q l : Nat) : rne (q * 2 ^ l) l = q := by
  unfold rne
  have h1 : q * 2 ^ l / 2 ^ l = q := Nat.mul_div_cancel _ (Nat.two_pow_pos l)
  have h2 : q * 2 ^ l % 2 ^ l = 0 := Nat.mul_mod_left _ _
  have h3 := Nat.two_pow_pos l
  rw [h1, h2, if_neg (by omega)]; rfl

theorem rne_shift (X l k : Nat) : rne (X * 2 ^ k) (l + k) = rne X l := by
  have hk := Nat.two_pow_pos k
  have e : 2 ^ (l + k) = 2 ^ l * 2 ^ k := Nat.pow_add 2 l k
  have h1 : X * 2 ^ k / 2 ^ (l + k) = X / 2 ^ l := by rw [e, Nat.mul_div_mul_right _ _ hk]
  have h2 : X * 2 ^ k % 2 ^ (l + k) = X % 2 ^ l * 2 ^ k := by rw [e, Nat.mul_mod_mul_right]
  unfold rne
  rw [h1, h2, e]
  have c : (2 ^ l * 2 ^ k < 2 * (X % 2 ^ l * 2 ^ k) ∨ (2 ^ l * 2 ^ k = 2 * (X % 2 ^ l * 2 ^ k) ∧ X / 2 ^ l % 2 = 1)) ↔ (2 ^ l < 2 * (X % 2 ^ l) ∨ (2 ^ l = 2 * (X % 2 ^ l) ∧ X / 2 ^ l % 2 = 1)) := by
    have a : 2 * (X % 2 ^ l * 2 ^ k) = 2 * (X % 2 ^ l) * 2 ^ k := by rw [Nat.mul_assoc]
    rw [a, Nat.mul_lt_mul_right hk, Nat.mul_left_inj (Nat.ne_of_gt hk)]
  by_cases h : (2 ^ l < 2 * (X % 2 ^ l) ∨ (2 ^ l = 2 * (X % 2 ^ l) ∧ X / 2 ^ l % 2 = 1))
  · rw [if_pos h, if_pos (c.2 h)]
  · rw [if_neg h, if_neg (fun g => h (c.1 g))]

theorem lev_mono {X Y : Nat} (l0 : Nat) (h : X ≤ Y) : lev l0 X ≤ lev l0 Y := by
  have : X.log2 ≤ Y.log2 := by
    by_cases hx : X = 0
    · subst hx; simp
    · exact (Nat.le_log2 (by omega)).2 (Nat.le_trans (Nat.log2_self_le hx) h)
  unfold lev
  omega

theorem lev_ge (l0 X : Nat) : l0 ≤ lev l0 X := Nat.le_max_right _ _

theorem div_lt_lev (l0 X : Nat) : X / 2 ^ lev l0 X < 2 ^ 53 := by
  rw [Nat.div_lt_iff_lt_mul (Nat.two_pow_pos _), ← Nat.pow_add]
  have h1 : X < 2 ^ (X.log2 + 1) := Nat.lt_log2_self
  refine Nat.lt_of_lt_of_le h1 (Nat.pow_le_pow_right (by decide) ?_)
  unfold lev
  omega

theorem rne_le_lev (l0 X : Nat) : rne X (lev l0 X) ≤ 2 ^ 53 := by
  have := div_lt_lev l0 X
  have := rne_upper X (lev l0 X)
  omega

theorem rne_ge_lev {l0 X : Nat} (h : l0 < lev l0 X) : 2 ^ 52 ≤ rne X (lev l0 X) := by
  refine Nat.le_trans ?_ (rne_lower _ _)
  rw [Nat.le_div_iff_mul_le (Nat.two_pow_pos _), ← Nat.pow_add]
  have hl : lev l0 X = X.log2 - 52 := by unfold lev at h ⊢; omega
  have hp : 52 < X.log2 := by unfold lev at h; omega
  have hx : X ≠ 0 := fun e => by subst e; simp at hp
  refine Nat.le_trans (Nat.pow_le_pow_right (by decide) ?_) (Nat.log2_self_le hx)
  omega

theorem rgN_mono {X Y : Nat} (l0 : Nat) (h : X ≤ Y) : rgN l0 X ≤ rgN l0 Y := by
  have hl := lev_mono l0 h
  have g1 := lev_ge l0 X
  unfold rgN
  rcases Nat.lt_or_eq_of_le hl with hl | hl
  · have a := rne_le_lev l0 X
    have b : 2 ^ 52 ≤ rne Y (lev l0 Y) := rne_ge_lev (by omega)
    have c : (lev l0 X - l0 + 1) * 2 ^ 52 ≤ (lev l0 Y - l0) * 2 ^ 52 := Nat.mul_le_mul_right _ (by omega)
    have d : (2 : Nat) ^ 53 = 2 ^ 52 + 2 ^ 52 := by decide
    rw [Nat.add_mul] at c
    omega
  · rw [hl]
    exact Nat.add_le_add_left (rne_mono _ h) _

theorem log2_mul_pow {X : Nat} (k : Nat) (h : X ≠ 0) : (X * 2 ^ k).log2 = X.log2 + k := by
  have hk := Nat.two_pow_pos k
  have hne : X * 2 ^ k ≠ 0 := Nat.mul_ne_zero h (Nat.ne_of_gt hk)
  apply Nat.le_antisymm
  · have : X * 2 ^ k < 2 ^ (X.log2 + k + 1) := by
      have h1 : X < 2 ^ (X.log2 + 1) := Nat.lt_log2_self
      have e : 2 ^ (X.log2 + k + 1) = 2 ^ (X.log2 + 1) * 2 ^ k := by rw [← Nat.pow_add]; congr 1; omega
      rw [e]
      exact Nat.mul_lt_mul_of_pos_right h1 hk
    exact Nat.le_of_lt_succ ((Nat.log2_lt hne).2 this)
  · refine (Nat.le_log2 hne).2 ?_
    rw [Nat.pow_add]
    exact Nat.mul_le_mul_right _ (Nat.log2_self_le h)

theorem rgN_shift (l0 X k : Nat) : rgN (l0 + k) (X * 2 ^ k) = rgN l0 X := by
  by_cases h : X = 0
  · subst h
    unfold rgN rne lev
    simp
  · have e : lev (l0 + k) (X * 2 ^ k) = lev l0 X + k ∨ (lev (l0 + k) (X * 2 ^ k) = lev l0 X + k) := by
      left
      unfold lev
      rw [log2_mul_pow k h]
      omega
    have e := e.elim id id
    unfold rgN
    rw [e, rne_shift]
    congr 2
    omega

theorem rgN_rvN0 (t : Nat) : rgN 0 (rvN t) = t := by
  unfold rvN
  split
  · rename_i h
    have hl : lev 0 t = 0 := by
      unfold lev
      by_cases h0 : t = 0
      · subst h0; simp
      · have := (Nat.log2_lt h0).2 h
        omega
    unfold rgN
    rw [hl]
    have := rne_exact t 0
    simp only [Nat.pow_zero, Nat.mul_one] at this
    rw [this]; simp
  · rename_i h
    have hb : 1 ≤ t / 2 ^ 52 := (Nat.le_div_iff_mul_le (Nat.two_pow_pos 52)).2 (by omega)
    have hf : t % 2 ^ 52 < 2 ^ 52 := Nat.mod_lt _ (Nat.two_pow_pos 52)
    have ht := Nat.div_add_mod t (2 ^ 52)
    generalize t / 2 ^ 52 = b at hb ht
    generalize t % 2 ^ 52 = f at hf ht
    have hlog : (2 ^ 52 + f).log2 = 52 := by
      apply Nat.le_antisymm
      · exact Nat.le_of_lt_succ ((Nat.log2_lt (by omega)).2 (by omega))
      · exact (Nat.le_log2 (by omega)).2 (by omega)
    have hl : lev 0 ((2 ^ 52 + f) * 2 ^ (b - 1)) = b - 1 := by
      unfold lev
      rw [log2_mul_pow _ (by omega), hlog]
      omega
    unfold rgN
    rw [hl, rne_exact]
    have : (b - 1 - 0) * 2 ^ 52 + 2 ^ 52 = b * 2 ^ 52 := by
      obtain ⟨c, rfl⟩ : ∃ c, b = c + 1 := ⟨b - 1, by omega⟩
      simp [Nat.add_mul]
    omega

theorem rgN_rvN (l t : Nat) : rgN l (rvN t * 2 ^ l) = t := by
  have := rgN_shift 0 (rvN t) l
  rw [Nat.zero_add] at this
  rw [this, rgN_rvN0]

theorem rvN_lt {s t : Nat} (h : s < t) : rvN s < rvN t := by
  refine Nat.not_le.1 fun g => ?_
  have := rgN_mono 0 g
  rw [rgN_rvN0, rgN_rvN0] at this
  omega

theorem rvN_le {s t : Nat} (h : s ≤ t) : rvN s ≤ rvN t := by
  rcases Nat.lt_or_eq_of_le h with h | h
  · exact Nat.le_of_lt (rvN_lt h)
  · rw [h]; exact Nat.le_refl _

end Go.Ev
/- What is written of a number: its rung by rounding; and its place. -/
namespace Go.Ev
open Ieee

def sg (neg : Bool) (n : Nat) : Int := if neg then -(n : Int) else n

theorem infRung_eq : f64.infRung = 2047 * 2 ^ 52 := by decide +kernel
theorem signWeight_eq : f64.signWeight = 2 ^ 63 := by decide +kernel
theorem binade_eq : f64.binade = 2 ^ 52 := rfl
theorem least_eq : f64.leastPlace = -1074 := by decide +kernel

theorem read_word (neg : Bool) {r : Nat} (h : r ≤ f64.infRung) : f64.read (f64.word neg r) = if r < 2 ^ 52 then .number neg r (-1074) else if r < f64.infRung then .number neg (2 ^ 52 + r % 2 ^ 52) (-1074 + (r / 2 ^ 52 - 1 : Nat)) else .infinity neg := by
  have hi := infRung_eq
  have h1 : (f64.word neg r / f64.signWeight % 2 == 1) = neg := by
    unfold Format.word
    rw [signWeight_eq]
    cases neg
    · simp only [Bool.false_eq_true, if_false]
      rw [Nat.div_eq_of_lt (by omega)]; rfl
    · simp only [if_true]
      rw [Nat.add_div_left _ (by decide), Nat.div_eq_of_lt (by omega)]; rfl
  have h2 : f64.word neg r % f64.signWeight = r := by
    unfold Format.word
    rw [signWeight_eq]
    cases neg
    · simp only [Bool.false_eq_true, if_false]
      exact Nat.mod_eq_of_lt (by omega)
    · simp only [if_true]
      rw [Nat.add_mod_left]
      exact Nat.mod_eq_of_lt (by omega)
  unfold Format.read
  simp only [h1, h2, binade_eq, least_eq]
  split
  · rfl
  · split
    · rfl
    · rw [if_pos (by omega)]

theorem signed_sg (neg : Bool) (m k : Nat) : signed neg m k = sg neg (m * 2 ^ k) := by
  unfold signed sg
  rw [Nat.shiftLeft_eq]

theorem key_word (neg : Bool) {r : Nat} (h : r ≤ f64.infRung) : dkey (f64.read (f64.word neg r)) = some (sg neg (if r < f64.infRung then rvN r else topNat)) := by
  have hi := infRung_eq
  rw [read_word neg h]
  unfold rvN
  by_cases h1 : r < 2 ^ 52
  · rw [if_pos h1, if_pos (by omega), if_pos h1]
    simp only [dkey, signed_sg]
    have : ((-1074 : Int) + 1074).toNat = 0 := by decide
    rw [this]; simp
  · rw [if_neg h1, if_neg h1]
    by_cases h2 : r < f64.infRung
    · rw [if_pos h2, if_pos h2]
      simp only [dkey, signed_sg]
      have : ((-1074 : Int) + ((r / 2 ^ 52 - 1 : Nat) : Int) + 1074).toNat = r / 2 ^ 52 - 1 := by omega
      rw [this]
    · rw [if_neg h2, if_neg h2]
      cases neg <;> simp [dkey, sg, topKey]

theorem cut_even (neg : Bool) (n d : Nat) : Toward.even.cut neg n d = rne n d := by
  have hcut : ∀ g, g = 2 ^ d → n / g + (decide (g < 2 * (n % g)) || (g == 2 * (n % g) && n / g % 2 == 1)).toNat = rne n d := by
    intro g hg
    subst hg
    unfold rne
    congr 1
    by_cases c : 2 ^ d < 2 * (n % 2 ^ d) ∨ (2 ^ d = 2 * (n % 2 ^ d) ∧ n / 2 ^ d % 2 = 1)
    · rw [if_pos c]
      have : (decide (2 ^ d < 2 * (n % 2 ^ d)) || (2 ^ d == 2 * (n % 2 ^ d) && n / 2 ^ d % 2 == 1)) = true := by
        rw [Bool.or_eq_true, Bool.and_eq_true, decide_eq_true_eq, beq_iff_eq, beq_iff_eq]; exact c
      rw [this]; rfl
    · rw [if_neg c]
      have : (decide (2 ^ d < 2 * (n % 2 ^ d)) || (2 ^ d == 2 * (n % 2 ^ d) && n / 2 ^ d % 2 == 1)) = false := by
        rw [← Bool.not_eq_true, Bool.or_eq_true, Bool.and_eq_true, decide_eq_true_eq, beq_iff_eq, beq_iff_eq]; exact c
      rw [this]; rfl
  unfold Toward.cut
  simp only [Nat.one_shiftLeft]
  by_cases h : d ≤ n.log2 + 2
  · rw [Nat.min_eq_left h]
    exact hcut _ rfl
  · rw [Nat.min_eq_right (by omega)]
    -- all of it is dropped
    have hn : n < 2 ^ (n.log2 + 1) := Nat.lt_log2_self
    have hg : 2 ^ (n.log2 + 2) = 2 * 2 ^ (n.log2 + 1) := by rw [Nat.pow_succ]; omega
    have hg2 : 2 ^ (n.log2 + 2) ≤ 2 ^ d := Nat.pow_le_pow_right (by decide) (by omega)
    generalize 2 ^ (n.log2 + 1) = p at hn hg
    generalize 2 ^ (n.log2 + 2) = q at hg hg2
    have a1 : n / q = 0 := Nat.div_eq_of_lt (by omega)
    have a2 : n % q = n := Nat.mod_eq_of_lt (by omega)
    have b1 : n / 2 ^ d = 0 := Nat.div_eq_of_lt (by omega)
    have b2 : n % 2 ^ d = n := Nat.mod_eq_of_lt (by omega)
    unfold rne
    rw [a1, a2, b1, b2, if_neg (by omega)]
    have : (decide (q < 2 * n) || (q == 2 * n && 0 % 2 == 1)) = false := by
      rw [← Bool.not_eq_true, Bool.or_eq_true, Bool.and_eq_true, decide_eq_true_eq, beq_iff_eq]; omega
    rw [this]; rfl

theorem nearest_rung (neg : Bool) {mag : Nat} {place B : Int} (hm : mag ≠ 0) (h1 : B ≤ place) (h2 : B ≤ -1074) :
    f64.nearest neg mag place = f64.word neg (min (rgN (-1074 - B).toNat (mag * 2 ^ (place - B).toNat)) f64.infRung) := by
  have hfb : (f64.fractionBits : Int) = 52 := rfl
  unfold Format.nearest
  rw [if_neg hm]
  simp only [cut_even, binade_eq, least_eq, hfb]
  generalize hlast : max (place + (mag.log2 : Int) - 52) (-1074) = last
  have hlev : lev (-1074 - B).toNat (mag * 2 ^ (place - B).toNat) = (last - B).toNat := by
    unfold lev
    rw [log2_mul_pow _ hm]
    omega
  have key : (last - -1074).toNat * 2 ^ 52 + rne (mag <<< (place - last).toNat) (last - place).toNat = rgN (-1074 - B).toNat (mag * 2 ^ (place - B).toNat) := by
    unfold rgN
    rw [hlev]
    have e1 : (last - -1074).toNat = (last - B).toNat - (-1074 - B).toNat := by omega
    rw [e1]
    have e4 : rne (mag <<< (place - last).toNat) (last - place).toNat = rne (mag * 2 ^ (place - B).toNat) (last - B).toNat := by
      by_cases hc : last ≤ place
      · have e2 : (last - place).toNat = 0 := by omega
        have e3 : (place - B).toNat = (place - last).toNat + (last - B).toNat := by omega
        rw [e2, e3, Nat.pow_add, ← Nat.mul_assoc, rne_exact, Nat.shiftLeft_eq]
        have := rne_exact (mag * 2 ^ (place - last).toNat) 0
        rw [Nat.pow_zero, Nat.mul_one] at this
        exact this
      · have e2 : (place - last).toNat = 0 := by omega
        have e3 : (last - B).toNat = (last - place).toNat + (place - B).toNat := by omega
        rw [e2, e3, rne_shift, Nat.shiftLeft_zero]
    rw [e4]
  rw [key]

end Go.Ev
/- Places of sums, products and whole numbers. -/
namespace Go.Ev
open Ieee

noncomputable def capR (t : Nat) : Nat := if t < f64.infRung then rvN t else topNat

/-- What z / 2^l (both in places) is rounded to. -/
noncomputable def rndL (l : Nat) (z : Int) : Int := sg (decide (z < 0)) (capR (rgN l z.natAbs))

theorem rvN_top {t : Nat} (h : t < f64.infRung) : rvN t < topNat := by
  have hi := infRung_eq
  unfold rvN
  split
  · rename_i h1
    have := topNat_spec.2 t 0 (by omega) (by omega)
    simpa using this
  · have hb : t / 2 ^ 52 < 2047 := by
      rw [Nat.div_lt_iff_lt_mul (Nat.two_pow_pos 52)]
      omega
    have hf : t % 2 ^ 52 < 2 ^ 52 := Nat.mod_lt _ (Nat.two_pow_pos 52)
    have := topNat_spec.2 (2 ^ 52 + t % 2 ^ 52) (t / 2 ^ 52 - 1) (by omega) (by omega)
    rwa [Nat.shiftLeft_eq] at this

theorem capR_mono {s t : Nat} (h : s ≤ t) : capR s ≤ capR t := by
  unfold capR
  split
  · rename_i h1
    split
    · exact rvN_le h
    · exact Nat.le_of_lt (rvN_top h1)
  · rename_i h1
    rw [if_neg (by omega)]
    exact Nat.le_refl _

theorem rgN_zero (l : Nat) : rgN l 0 = 0 := by
  unfold rgN rne lev
  simp

theorem capR_zero : capR 0 = 0 := by
  unfold capR
  rw [infRung_eq, if_pos (by decide)]
  rfl

theorem rndL_zero (l : Nat) : rndL l 0 = 0 := by
  unfold rndL
  rw [Int.natAbs_zero, rgN_zero, capR_zero]
  rfl

theorem rndL_mono (l : Nat) {x y : Int} (h : x ≤ y) : rndL l x ≤ rndL l y := by
  unfold rndL sg
  by_cases hx : x < 0 <;> by_cases hy : y < 0
  · have := capR_mono (rgN_mono l (show y.natAbs ≤ x.natAbs by omega))
    simp only [hx, hy, decide_true, if_true]
    omega
  · simp only [hx, hy, decide_true, decide_false, if_true, Bool.false_eq_true, if_false]
    omega
  · omega
  · have := capR_mono (rgN_mono l (show x.natAbs ≤ y.natAbs by omega))
    simp only [hx, hy, decide_false, Bool.false_eq_true, if_false]
    omega

/-- The place of what is written of a number. -/
theorem key_nearest (neg : Bool) {mag : Nat} {place B : Int} (h1 : B ≤ place) (h2 : B ≤ -1074) :
    dkey (f64.read (f64.nearest neg mag place)) = some (rndL (-1074 - B).toNat (sg neg (mag * 2 ^ (place - B).toNat))) := by
  have hi := infRung_eq
  by_cases hm : mag = 0
  · subst hm
    have e0 : f64.nearest neg 0 place = f64.word neg 0 := by unfold Format.nearest; rw [if_pos rfl]
    have e1 : sg neg (0 * 2 ^ (place - B).toNat) = 0 := by unfold sg; cases neg <;> simp
    rw [e0, key_word neg (Nat.zero_le _), e1, rndL_zero, if_pos (by omega)]
    have : rvN 0 = 0 := rfl
    rw [this]
    unfold sg
    cases neg <;> rfl
  · rw [nearest_rung neg hm h1 h2]
    have hpos : 0 < mag * 2 ^ (place - B).toNat := Nat.mul_pos (by omega) (Nat.two_pow_pos _)
    generalize mag * 2 ^ (place - B).toNat = X at hpos
    generalize (-1074 - B).toNat = l
    rw [key_word neg (Nat.min_le_right _ _)]
    have e1 : (sg neg X).natAbs = X := by unfold sg; cases neg <;> simp
    have e2 : decide (sg neg X < 0) = neg := by
      unfold sg
      cases neg
      · simp
      · simp; omega
    unfold rndL
    rw [e1, e2]
    congr 2
    unfold capR
    by_cases h : rgN l X < f64.infRung
    · rw [Nat.min_eq_left (by omega), if_pos h]
    · rw [Nat.min_eq_right (by omega), if_neg (Nat.lt_irrefl _), if_neg h]

end Go.Ev
/- Sums and products of floats that are numbers, by their places. -/
namespace Go.Ev
open Ieee

/-- A number, not beyond all numbers, by its place. -/
def fin (x : Fl) (a : Int) : Prop := fkey x = some a ∧ -topKey < a ∧ a < topKey

theorem fin_read {b : Nat} {a : Int} (h : fin (some b) a) : ∃ s m e, f64.read b = .number s m e ∧ -1074 ≤ e ∧ a = sg s (m * 2 ^ (e + 1074).toNat) := by
  obtain ⟨h1, h2, h3⟩ := h
  have h1' : dkey (f64.read b) = some a := h1
  cases hb : f64.read b with
  | nan s t => rw [hb] at h1'; simp [dkey] at h1'
  | infinity s =>
    rw [hb] at h1'
    simp only [dkey, Option.some.injEq] at h1'
    exfalso
    cases s <;> simp at h1' <;> omega
  | number s m e =>
    rw [hb] at h1'
    simp only [dkey, Option.some.injEq, signed_sg] at h1'
    exact ⟨s, m, e, rfl, (read_number hb).2.1, h1'.symm⟩

theorem sg_mul (s : Bool) (m k : Nat) : sg s (m * k) = sg s m * (k : Int) := by
  unfold sg
  cases s <;> simp [Int.neg_mul]

theorem sg_total {T : Int} {neg : Bool} (hn : T ≠ 0 → neg = decide (T < 0)) (k : Nat) : sg neg (T.natAbs * k) = T * (k : Int) := by
  rw [sg_mul]
  congr 1
  by_cases h : T = 0
  · subst h; unfold sg; cases neg <;> simp
  · rw [hn h]
    unfold sg
    by_cases g : T < 0
    · simp [g]; omega
    · simp [g]; omega

theorem key_add {x y : Fl} {a b : Int} (hx : fin x a) (hy : fin y b) : fkey (R.fadd x y) = some (rndL 0 (a + b)) := by
  cases x with
  | none => cases hx.1
  | some p =>
    cases y with
    | none => cases hy.1
    | some q =>
      obtain ⟨s, m, i, hp, hi, ha⟩ := fin_read hx
      obtain ⟨t, n, j, hq, hj, hb⟩ := fin_read hy
      show fkey (match f64.add p q with | some r => cls r | none => none) = _
      unfold Format.add
      rw [hp, hq]
      simp only [Datum.sum, Option.map_some, cls_key]
      show dkey (f64.read (f64.nearest _ _ _)) = _
      rw [key_nearest _ (B := -1074) (by omega) (by omega)]
      have e0 : ((-1074 : Int) - -1074).toNat = 0 := by decide
      have e1 : (min i j - -1074).toNat = (min i j + 1074).toNat := by omega
      rw [e0, e1, sg_total (fun h => by rw [if_neg h])]
      congr 2
      have ei : (i + 1074).toNat = (i - min i j).toNat + (min i j + 1074).toNat := by omega
      have ej : (j + 1074).toNat = (j - min i j).toNat + (min i j + 1074).toNat := by omega
      rw [ha, hb, ei, ej, Nat.pow_add, Nat.pow_add, ← Nat.mul_assoc, ← Nat.mul_assoc, sg_mul, sg_mul t, signed_sg, signed_sg, Int.add_mul]

theorem fin_opp {q : Nat} {t : Bool} {n : Nat} {j : Int} (hq : f64.read q = .number t n j) : (f64.read q).opposite = .number (!t) n j := by rw [hq]; rfl

theorem sg_not (t : Bool) (n : Nat) : sg (!t) n = -(sg t n) := by unfold sg; cases t <;> simp

theorem key_sub {x y : Fl} {a b : Int} (hx : fin x a) (hy : fin y b) : fkey (R.fsub x y) = some (rndL 0 (a - b)) := by
  cases x with
  | none => cases hx.1
  | some p =>
    cases y with
    | none => cases hy.1
    | some q =>
      obtain ⟨s, m, i, hp, hi, ha⟩ := fin_read hx
      obtain ⟨t, n, j, hq, hj, hb⟩ := fin_read hy
      show fkey (match f64.sub p q with | some r => cls r | none => none) = _
      unfold Format.sub
      rw [fin_opp hq, hp]
      simp only [Datum.sum, Option.map_some, cls_key]
      show dkey (f64.read (f64.nearest _ _ _)) = _
      rw [key_nearest _ (B := -1074) (by omega) (by omega)]
      have e0 : ((-1074 : Int) - -1074).toNat = 0 := by decide
      have e1 : (min i j - -1074).toNat = (min i j + 1074).toNat := by omega
      rw [e0, e1, sg_total (fun h => by rw [if_neg h])]
      congr 2
      have ei : (i + 1074).toNat = (i - min i j).toNat + (min i j + 1074).toNat := by omega
      have ej : (j + 1074).toNat = (j - min i j).toNat + (min i j + 1074).toNat := by omega
      rw [ha, hb, ei, ej, Nat.pow_add, Nat.pow_add, ← Nat.mul_assoc, ← Nat.mul_assoc, sg_mul, sg_mul t, signed_sg, signed_sg, sg_not, Int.add_mul, Int.neg_mul, sg_mul, sg_mul, ← Int.sub_eq_add_neg]

theorem sg_sg (s t : Bool) (m n : Nat) : sg s m * sg t n = sg (s ^^ t) (m * n) := by
  unfold sg
  cases s <;> cases t <;> simp [Int.neg_mul, Int.mul_neg]

theorem key_mul {x y : Fl} {a b : Int} (hx : fin x a) (hy : fin y b) : fkey (R.fmul x y) = some (rndL 1074 (a * b)) := by
  cases x with
  | none => cases hx.1
  | some p =>
    cases y with
    | none => cases hy.1
    | some q =>
      obtain ⟨s, m, i, hp, hi, ha⟩ := fin_read hx
      obtain ⟨t, n, j, hq, hj, hb⟩ := fin_read hy
      show fkey (match f64.mul p q with | some r => cls r | none => none) = _
      unfold Format.mul
      rw [hp, hq]
      simp only [Datum.product, Option.map_some, cls_key]
      show dkey (f64.read (f64.nearest _ _ _)) = _
      rw [key_nearest _ (B := -2148) (by omega) (by omega)]
      have e0 : ((-1074 : Int) - -2148).toNat = 1074 := by decide
      have e1 : (i + j - -2148).toNat = (i + 1074).toNat + (j + 1074).toNat := by omega
      rw [e0, e1, ha, hb, sg_sg]
      congr 3
      rw [Nat.pow_add, Nat.mul_mul_mul_comm]

/-- The place of a whole number. -/
theorem key_int (n : Int) : fkey (R.i2f n) = some (rndL 0 (n * (2 ^ 1074 : Nat))) := by
  show fkey (cls (FloatKind.f64.nearest n)) = _
  rw [cls_key]
  show dkey (f64.read (f64.nearest _ _ _)) = _
  rw [key_nearest _ (B := -1074) (by omega) (by omega)]
  have e0 : ((-1074 : Int) - -1074).toNat = 0 := by decide
  have e1 : ((0 : Int) - -1074).toNat = 1074 := by decide
  rw [e0, e1, sg_total (fun _ => rfl)]

end Go.Ev
/- What is rounded: exact where it can be, near at any rate. -/
namespace Go.Ev
open Ieee

theorem rvN_rung {v q : Nat} (hq : q ≤ 2 ^ 53) (h : v = 0 ∨ 2 ^ 52 ≤ q) : rvN (v * 2 ^ 52 + q) = q * 2 ^ v := by
  have p52 : (2 : Nat) ^ 52 = 4503599627370496 := by decide
  have p53 : (2 : Nat) ^ 53 = 9007199254740992 := by decide
  unfold rvN
  rw [p52] at h ⊢
  rw [p53] at hq
  by_cases h1 : v * 4503599627370496 + q < 4503599627370496
  · rw [if_pos h1]
    have : v = 0 := by omega
    subst this; rw [Nat.pow_zero]; omega
  · rw [if_neg h1]
    by_cases h2 : q < 9007199254740992
    · have hq2 : 4503599627370496 ≤ q := by omega
      have e1 : (v * 4503599627370496 + q) / 4503599627370496 - 1 = v := by omega
      have e2 : 4503599627370496 + (v * 4503599627370496 + q) % 4503599627370496 = q := by omega
      rw [e1, e2]
    · have hq2 : q = 9007199254740992 := by omega
      subst hq2
      have e1 : (v * 4503599627370496 + 9007199254740992) / 4503599627370496 - 1 = v + 1 := by omega
      have e2 : 4503599627370496 + (v * 4503599627370496 + 9007199254740992) % 4503599627370496 = 4503599627370496 := by omega
      rw [e1, e2, Nat.pow_succ]
      generalize 2 ^ v = t
      omega

/-- What the rung is worth, at the finer scale. -/
theorem rvN_rgN (l X : Nat) : rvN (rgN l X) * 2 ^ l = rne X (lev l X) * 2 ^ lev l X := by
  unfold rgN
  have hl := lev_ge l X
  have hq := rne_le_lev l X
  have h : lev l X - l = 0 ∨ 2 ^ 52 ≤ rne X (lev l X) := by
    by_cases g : l < lev l X
    · exact .inr (rne_ge_lev g)
    · exact .inl (by omega)
  rw [rvN_rung hq h, Nat.mul_assoc, ← Nat.pow_add]
  congr 2
  omega

/-- A whole number is rounded by half a unit at most. -/
theorem rne_near (X l : Nat) : 2 * (rne X l * 2 ^ l) ≤ 2 * X + 2 ^ l ∧ 2 * X ≤ 2 * (rne X l * 2 ^ l) + 2 ^ l := by
  have h1 := Nat.div_add_mod X (2 ^ l)
  have h2 : X % 2 ^ l < 2 ^ l := Nat.mod_lt _ (Nat.two_pow_pos l)
  unfold rne
  rw [Nat.mul_comm] at h1
  split
  · rename_i c
    rw [Nat.add_mul, Nat.one_mul]
    generalize X / 2 ^ l * 2 ^ l = q at *
    omega
  · rename_i c
    rw [Nat.add_zero]
    have c' : 2 * (X % 2 ^ l) ≤ 2 ^ l := by
      refine Nat.not_lt.1 fun g => c (.inl g)
    generalize X / 2 ^ l * 2 ^ l = q at *
    omega

/-- A place that a float has. -/
def rep (a : Int) : Prop := ∃ t, t < f64.infRung ∧ a.natAbs = rvN t

theorem rep_neg {a : Int} (h : rep a) : rep (-a) := by
  obtain ⟨t, h1, h2⟩ := h
  exact ⟨t, h1, by rw [Int.natAbs_neg]; exact h2⟩

theorem rep_bound {a : Int} (h : rep a) : -topKey < a ∧ a < topKey := by
  obtain ⟨t, h1, h2⟩ := h
  have := rvN_top h1
  unfold topKey
  omega

theorem fin_rep {x : Fl} {a : Int} (h : fin x a) : rep a := by
  cases x with
  | none => cases h.1
  | some b =>
    obtain ⟨s, m, e, hb, he, ha⟩ := fin_read h
    have hi := infRung_eq
    unfold Format.read at hb
    simp only [binade_eq, least_eq] at hb
    generalize b % f64.signWeight = r at hb
    have key : a.natAbs = m * 2 ^ (e + 1074).toNat := by
      rw [ha]
      generalize m * 2 ^ (e + 1074).toNat = M
      unfold sg; cases s <;> simp
    split at hb
    · rename_i h1
      injection hb with g1 g2 g3
      refine ⟨r, by omega, ?_⟩
      rw [key, ← g2, ← g3]
      unfold rvN
      rw [if_pos h1]
      have : ((-1074 : Int) + 1074).toNat = 0 := by decide
      rw [this]; simp
    · rename_i h1
      split at hb
      · rename_i h2
        injection hb with g1 g2 g3
        refine ⟨r, h2, ?_⟩
        rw [key, ← g2, ← g3]
        unfold rvN
        rw [if_neg h1]
        have : ((-1074 : Int) + ((r / 2 ^ 52 - 1 : Nat) : Int) + 1074).toNat = r / 2 ^ 52 - 1 := by omega
        rw [this]
      · split at hb <;> cases hb

theorem rep_fin {x : Fl} {a : Int} (h : fkey x = some a) (hr : rep a) : fin x a := ⟨h, rep_bound hr⟩

theorem rndL_rep (l : Nat) {a : Int} (h : rep a) : rndL l (a * (2 ^ l : Nat)) = a := by
  obtain ⟨t, h1, h2⟩ := h
  have hp : (0 : Int) < ((2 ^ l : Nat) : Int) := by have := Nat.two_pow_pos l; omega
  unfold rndL
  rw [Int.natAbs_mul, Int.natAbs_natCast, h2, rgN_rvN]
  unfold capR
  rw [if_pos h1, ← h2]
  have : decide (a * ((2 ^ l : Nat) : Int) < 0) = decide (a < 0) := by
    by_cases g : a < 0
    · have : a * ((2 ^ l : Nat) : Int) < 0 := Int.mul_neg_of_neg_of_pos g hp
      simp only [g, this]
    · have : ¬ a * ((2 ^ l : Nat) : Int) < 0 := by
        have := Int.mul_nonneg (Int.not_lt.1 g) (Int.le_of_lt hp)
        omega
      simp only [g, this]
  rw [this]
  unfold sg
  by_cases g : a < 0
  · simp [g]; omega
  · simp [g]; omega

theorem rndL_le (l : Nat) {z c : Int} (hc : rep c) (h : z ≤ c * (2 ^ l : Nat)) : rndL l z ≤ c := by
  have := rndL_mono l h
  rwa [rndL_rep l hc] at this

theorem le_rndL (l : Nat) {z c : Int} (hc : rep c) (h : c * (2 ^ l : Nat) ≤ z) : c ≤ rndL l z := by
  have := rndL_mono l h
  rwa [rndL_rep l hc] at this

/-- Between two places that floats have it stays, and is one that a float has. -/
theorem sg_top_not (b : Bool) (h1 : -topKey < sg b topNat) (h2 : sg b topNat < topKey) : False := by
  unfold topKey at h1 h2
  cases b with
  | true => exact Int.lt_irrefl _ h1
  | false => exact Int.lt_irrefl _ h2
theorem sg_natAbs (b : Bool) (M : Nat) : (sg b M).natAbs = M := by
  unfold sg
  cases b <;> simp
theorem rep_sg (b : Bool) {t : Nat} (h : t < f64.infRung) : rep (sg b (rvN t)) := ⟨t, h, sg_natAbs b _⟩
theorem rndL_rep_of {l : Nat} {z : Int} (h1 : -topKey < rndL l z) (h2 : rndL l z < topKey) : rep (rndL l z) := by
  unfold rndL capR at h1 h2 ⊢
  split at h1
  · rename_i hlt
    rw [if_pos hlt]
    exact rep_sg _ hlt
  · rename_i hlt
    rw [if_neg hlt] at h2
    exact (sg_top_not _ h1 h2).elim

end Go.Ev
/- What floats are worth, as rational numbers: sums, differences, products, and how they are rounded. -/
namespace Go.Ev
open Ieee

/-- The n-th power of two. -/
@[irreducible] def pw (n : Nat) : Rat := ((2 ^ n : Nat) : Rat)

theorem pw_eq (n : Nat) : ((2 ^ n : Nat) : Rat) = pw n := by unfold pw; rfl
theorem pw_int (n : Nat) : (((2 ^ n : Nat) : Int) : Rat) = pw n := by unfold pw; rfl
theorem pw_pos (n : Nat) : 0 < pw n := by unfold pw; exact Rat.natCast_pos.2 (Nat.two_pow_pos n)
theorem pw_add (m n : Nat) : pw (m + n) = pw m * pw n := by unfold pw; rw [Nat.pow_add, Rat.natCast_mul]
theorem pw_le {m n : Nat} (h : m ≤ n) : pw m ≤ pw n := by unfold pw; exact Rat.natCast_le_natCast.2 (Nat.pow_le_pow_right (by decide) h)
theorem pw_one : pw 1 = 2 := by unfold pw; rfl
theorem pw_zero : pw 0 = 1 := by unfold pw; rfl

/-- x is a number, worth q. -/
def fv (x : Fl) (q : Rat) : Prop := ∃ a : Int, fin x a ∧ q * pw 1074 = (a : Rat)

/-- q is what some float is worth. -/
def repQ (q : Rat) : Prop := ∃ a : Int, rep a ∧ q * pw 1074 = (a : Rat)

theorem fv_rep {x : Fl} {q : Rat} (h : fv x q) : repQ q := by
  obtain ⟨a, h1, h2⟩ := h
  exact ⟨a, fin_rep h1, h2⟩

theorem repQ_neg {q : Rat} (h : repQ q) : repQ (-q) := by
  obtain ⟨a, h1, h2⟩ := h
  exact ⟨-a, rep_neg h1, by rw [Rat.neg_mul, h2, Rat.intCast_neg]⟩

def tiny : Rat := (pw 1075)⁻¹
theorem tiny_pos : 0 < tiny := Rat.inv_pos.2 (pw_pos _)

/-- r is v, rounded to what a float is worth. -/
structure rnds (r v : Rat) : Prop where
  le : ∀ c, repQ c → v ≤ c → r ≤ c
  ge : ∀ c, repQ c → c ≤ v → c ≤ r
  near : ∀ B, -B ≤ v → v ≤ B → v - (B / pw 52 + tiny) ≤ r ∧ r ≤ v + (B / pw 52 + tiny)

theorem rnds.exact {r v : Rat} (h : rnds r v) (hv : repQ v) : r = v := Rat.le_antisymm (h.le v hv Rat.le_refl) (h.ge v hv Rat.le_refl)

theorem lev_near (l X : Nat) : 2 ^ 52 * 2 ^ lev l X ≤ X + 2 ^ (l + 52) := by
  unfold lev
  rcases Nat.le_total (X.log2 - 52) l with h | h
  · rw [Nat.max_eq_right h, ← Nat.pow_add, Nat.add_comm 52 l]
    exact Nat.le_add_left _ _
  · rw [Nat.max_eq_left h, ← Nat.pow_add]
    by_cases hx : X.log2 ≤ 52
    · have e : X.log2 - 52 = 0 := by omega
      rw [e] at h ⊢
      have : l = 0 := by omega
      subst this
      exact Nat.le_add_left _ _
    · have hne : X ≠ 0 := fun e => by subst e; simp at hx
      have e : 52 + (X.log2 - 52) = X.log2 := by omega
      rw [e]
      exact Nat.le_trans (Nat.log2_self_le hne) (Nat.le_add_right _ _)

/-- How far a whole number is from what its rung is worth. -/
theorem rgN_near (l X : Nat) : 2 ^ 53 * (rvN (rgN l X) * 2 ^ l) ≤ 2 ^ 53 * X + X + 2 ^ (l + 52) ∧ 2 ^ 53 * X ≤ 2 ^ 53 * (rvN (rgN l X) * 2 ^ l) + X + 2 ^ (l + 52) := by
  rw [rvN_rgN]
  have h1 := rne_near X (lev l X)
  have h2 := lev_near l X
  generalize rne X (lev l X) * 2 ^ lev l X = q at *
  generalize 2 ^ lev l X = t at *
  have e : (2 : Nat) ^ 53 = 2 * 2 ^ 52 := by decide
  have e2 : (2 : Nat) ^ 52 = 4503599627370496 := by decide
  rw [e, e2] at *
  omega

/-- So great are numbers at least before they are beyond all numbers. -/
theorem rgN_small {l X : Nat} (h : X ≤ 2 ^ (2074 + l)) : rgN l X < f64.infRung := by
  have e0 : rvN (2023 * 2 ^ 52) = 2 ^ 2074 := by
    unfold rvN
    rw [if_neg (by decide +kernel)]
    decide +kernel
  generalize 2074 = n at h e0
  have h1 : X ≤ rvN (2023 * 2 ^ 52) * 2 ^ l := by rw [e0, ← Nat.pow_add]; exact h
  have h2 := rgN_mono l h1
  rw [rgN_rvN] at h2
  rw [infRung_eq]
  omega

theorem rndL_small {l : Nat} {z : Int} (h : z.natAbs ≤ 2 ^ (2074 + l)) : rndL l z = sg (decide (z < 0)) (rvN (rgN l z.natAbs)) := by
  unfold rndL capR
  rw [if_pos (rgN_small h)]

theorem rndL_fin {l : Nat} {z : Int} (h : z.natAbs ≤ 2 ^ (2074 + l)) : -topKey < rndL l z ∧ rndL l z < topKey := by
  rw [rndL_small h]
  have := rvN_top (rgN_small h)
  unfold sg topKey
  split <;> omega

theorem rndL_near {l : Nat} {z : Int} (h : z.natAbs ≤ 2 ^ (2074 + l)) :
    2 ^ 53 * (rndL l z * (2 ^ l : Nat)) ≤ 2 ^ 53 * z + z.natAbs + (2 ^ (l + 52) : Nat) ∧ 2 ^ 53 * z ≤ 2 ^ 53 * (rndL l z * (2 ^ l : Nat)) + z.natAbs + (2 ^ (l + 52) : Nat) := by
  rw [rndL_small h, ← sg_mul]
  obtain ⟨h1, h2⟩ := rgN_near l z.natAbs
  have e : (2 : Nat) ^ 53 = 9007199254740992 := by decide
  rw [e] at h1 h2
  have e' : (2 : Int) ^ 53 = 9007199254740992 := by decide
  rw [e']
  generalize rvN (rgN l z.natAbs) * 2 ^ l = q at *
  generalize 2 ^ (l + 52) = t at *
  unfold sg
  by_cases g : z < 0
  · simp only [g, decide_true, if_true]; omega
  · simp only [g, decide_false, Bool.false_eq_true, if_false]; omega

theorem natAbs_le_of_cast {z : Int} {n : Nat} {v : Rat} (e : v * pw n = (z : Rat)) {m : Nat} (h1 : -pw m ≤ v) (h2 : v ≤ pw m) : z.natAbs ≤ 2 ^ (m + n) := by
  have hp := pw_pos n
  have g1 := Rat.mul_le_mul_of_nonneg_right h1 (Rat.le_of_lt hp)
  have g2 := Rat.mul_le_mul_of_nonneg_right h2 (Rat.le_of_lt hp)
  rw [e, ← pw_add] at g2
  rw [e, Rat.neg_mul, ← pw_add] at g1
  have k2 : z ≤ ((2 ^ (m + n) : Nat) : Int) := Rat.intCast_le_intCast.1 (by rw [pw_int]; exact g2)
  have k1 : -((2 ^ (m + n) : Nat) : Int) ≤ z := Rat.intCast_le_intCast.1 (by rw [Rat.intCast_neg, pw_int]; exact g1)
  generalize 2 ^ (m + n) = t at *
  omega

/-- How far what is rounded is from what it was. -/
theorem near_rndL {l : Nat} {z : Int} {v r : Rat} (e : v * pw (1074 + l) = (z : Rat)) (er : r * pw 1074 = ((rndL l z : Int) : Rat)) (h1 : -pw 1000 ≤ v) (h2 : v ≤ pw 1000) (B : Rat) (hB1 : -B ≤ v) (hB2 : v ≤ B) :
    v - (B / pw 53 + tiny) ≤ r ∧ r ≤ v + (B / pw 53 + tiny) := by
  have hz : z.natAbs ≤ 2 ^ (2074 + l) := by
    have := natAbs_le_of_cast e h1 h2
    rw [show 2074 + l = 1000 + (1074 + l) by omega]
    exact this
  obtain ⟨n1, n2⟩ := rndL_near hz
  clear hz
  have hp : 0 < pw (1074 + l) := pw_pos _
  have hBz : ((z.natAbs : Int) : Rat) ≤ B * pw (1074 + l) := by
    have g1 := Rat.mul_le_mul_of_nonneg_right hB1 (Rat.le_of_lt hp)
    have g2 := Rat.mul_le_mul_of_nonneg_right hB2 (Rat.le_of_lt hp)
    rw [e] at g1 g2
    by_cases g : z < 0
    · have : (z.natAbs : Int) = -z := by omega
      rw [this, Rat.intCast_neg]
      rw [Rat.neg_mul] at g1
      exact Rat.neg_le_iff.1 g1
    · have : (z.natAbs : Int) = z := by omega
      rw [this]; exact g2
  have m1 := Rat.intCast_le_intCast.2 n1
  have m2 := Rat.intCast_le_intCast.2 n2
  have p53 : (2 : Int) ^ 53 = 9007199254740992 := by decide
  rw [p53] at m1 m2
  simp only [Rat.intCast_add, Rat.intCast_mul, Rat.intCast_natCast, Rat.intCast_ofNat] at m1 m2 hBz
  have q1 : ((2 ^ l : Nat) : Rat) = pw l := pw_eq l
  have q2 : ((2 ^ (l + 52) : Nat) : Rat) = pw l * pw 52 := by rw [pw_eq, pw_add]
  rw [q1, q2, ← er, ← e, pw_add] at m1 m2
  rw [pw_add] at hBz hp
  have hl := pw_pos l
  have hk := pw_pos 1074
  have e53 : pw 53 = 9007199254740992 := by unfold pw; rw [show (2 : Nat) ^ 53 = 9007199254740992 by decide]; rfl
  have e52 : pw 52 = 4503599627370496 := by unfold pw; rw [show (2 : Nat) ^ 52 = 4503599627370496 by decide]; rfl
  have et : tiny * (pw 1074 * 2) = 1 := by
    have : pw 1075 = pw 1074 * 2 := by rw [show 1075 = 1074 + 1 from rfl, pw_add, pw_one]
    unfold tiny
    rw [this]
    exact Rat.inv_mul_cancel _ (by rw [← this]; exact Rat.ne_of_gt (pw_pos _))
  rw [e53]
  rw [e52] at m1 m2
  have hkl : 0 < pw 1074 * pw l := Rat.mul_pos hk hl
  have ediv : B / 9007199254740992 * 9007199254740992 = B := Rat.div_mul_cancel (by decide)
  generalize B / 9007199254740992 = C at *
  subst ediv
  generalize pw 1074 = K at *
  generalize pw l = L at *
  generalize ((z.natAbs : Nat) : Rat) = A at *
  have hT : tiny * (K * L) * 2 = L := by rw [Rat.mul_assoc, Rat.mul_comm (K * L) 2, ← Rat.mul_assoc 2, Rat.mul_comm 2 K, ← Rat.mul_assoc, et, Rat.one_mul]
  constructor
  · refine Rat.le_of_mul_le_mul_right ?_ hkl
    grind
  · refine Rat.le_of_mul_le_mul_right ?_ hkl
    grind

/-- What is rounded of a whole number of places (by 2^l), in rational numbers. -/
theorem rnds_rndL {l : Nat} {z : Int} {v r : Rat} (e : v * pw (1074 + l) = (z : Rat)) (er : r * pw 1074 = ((rndL l z : Int) : Rat)) (h1 : -pw 1000 ≤ v) (h2 : v ≤ pw 1000) : rnds r v where
  le c hc hle := by
    obtain ⟨a, ha, ec⟩ := hc
    have hp := pw_pos 1074
    have hz : z ≤ a * (2 ^ l : Nat) := Rat.intCast_le_intCast.1 (by
      rw [Rat.intCast_mul, ← e, ← ec, pw_int, pw_add]
      have := Rat.mul_le_mul_of_nonneg_right hle (Rat.le_of_lt (Rat.mul_pos hp (pw_pos l)))
      rw [Rat.mul_assoc]
      exact this)
    have := rndL_le l ha hz
    have := Rat.intCast_le_intCast.2 this
    rw [← er, ← ec] at this
    exact Rat.le_of_mul_le_mul_right this hp
  ge c hc hle := by
    obtain ⟨a, ha, ec⟩ := hc
    have hp := pw_pos 1074
    have hz : a * (2 ^ l : Nat) ≤ z := Rat.intCast_le_intCast.1 (by
      rw [Rat.intCast_mul, ← e, ← ec, pw_int, pw_add]
      have := Rat.mul_le_mul_of_nonneg_right hle (Rat.le_of_lt (Rat.mul_pos hp (pw_pos l)))
      rw [Rat.mul_assoc]
      exact this)
    have := le_rndL l ha hz
    have := Rat.intCast_le_intCast.2 this
    rw [← er, ← ec] at this
    exact Rat.le_of_mul_le_mul_right this hp
  near B hB1 hB2 := by
    obtain ⟨n1, n2⟩ := near_rndL e er h1 h2 B hB1 hB2
    have hB : B / pw 53 ≤ B / pw 52 := by
      have e53 : pw 53 = 9007199254740992 := by unfold pw; rw [show (2 : Nat) ^ 53 = 9007199254740992 by decide]; rfl
      have e52 : pw 52 = 4503599627370496 := by unfold pw; rw [show (2 : Nat) ^ 52 = 4503599627370496 by decide]; rfl
      rw [e53, e52]
      grind
    constructor
    · grind
    · grind

theorem fv_wrap {x : Fl} {l : Nat} {z : Int} {v : Rat} (hk : fkey x = some (rndL l z)) (e : v * pw (1074 + l) = (z : Rat)) (h1 : -pw 1000 ≤ v) (h2 : v ≤ pw 1000) : ∃ r, fv x r ∧ r * pw 1074 = ((rndL l z : Int) : Rat) := by
  have hz : z.natAbs ≤ 2 ^ (2074 + l) := by
    have := natAbs_le_of_cast e h1 h2
    rw [show 2074 + l = 1000 + (1074 + l) by omega]
    exact this
  have hp := pw_pos 1074
  have er : ((rndL l z : Int) : Rat) / pw 1074 * pw 1074 = ((rndL l z : Int) : Rat) := Rat.div_mul_cancel (Rat.ne_of_gt hp)
  exact ⟨((rndL l z : Int) : Rat) / pw 1074, ⟨_, ⟨hk, rndL_fin hz⟩, er⟩, er⟩

theorem fv_of_key {x : Fl} {l : Nat} {z : Int} {v : Rat} (hk : fkey x = some (rndL l z)) (e : v * pw (1074 + l) = (z : Rat)) (h1 : -pw 1000 ≤ v) (h2 : v ≤ pw 1000) : ∃ r, fv x r ∧ rnds r v := by
  obtain ⟨r, hr, er⟩ := fv_wrap hk e h1 h2
  exact ⟨r, hr, rnds_rndL e er h1 h2⟩

theorem fv_add {x y : Fl} {p q : Rat} (hx : fv x p) (hy : fv y q) (h1 : -pw 1000 ≤ p + q) (h2 : p + q ≤ pw 1000) : ∃ r, fv (R.fadd x y) r ∧ rnds r (p + q) := by
  obtain ⟨a, ha, ea⟩ := hx
  obtain ⟨b, hb, eb⟩ := hy
  exact fv_of_key (key_add ha hb) (by rw [Nat.add_zero, Rat.add_mul, ea, eb, Rat.intCast_add]) h1 h2

theorem fv_sub {x y : Fl} {p q : Rat} (hx : fv x p) (hy : fv y q) (h1 : -pw 1000 ≤ p - q) (h2 : p - q ≤ pw 1000) : ∃ r, fv (R.fsub x y) r ∧ rnds r (p - q) := by
  obtain ⟨a, ha, ea⟩ := hx
  obtain ⟨b, hb, eb⟩ := hy
  exact fv_of_key (key_sub ha hb) (by rw [Nat.add_zero, Rat.sub_eq_add_neg, Rat.add_mul, Rat.neg_mul, ea, eb, Rat.intCast_sub, Rat.sub_eq_add_neg]) h1 h2

theorem fv_mul {x y : Fl} {p q : Rat} (hx : fv x p) (hy : fv y q) (h1 : -pw 1000 ≤ p * q) (h2 : p * q ≤ pw 1000) : ∃ r, fv (R.fmul x y) r ∧ rnds r (p * q) := by
  obtain ⟨a, ha, ea⟩ := hx
  obtain ⟨b, hb, eb⟩ := hy
  refine fv_of_key (key_mul ha hb) ?_ h1 h2
  rw [pw_add, Rat.intCast_mul, ← ea, ← eb]
  grind

theorem int_scaled (n : Int) (k : Nat) : (n : Rat) * pw (k + 0) = ((n * (2 ^ k : Nat) : Int) : Rat) := by rw [Nat.add_zero, Rat.intCast_mul, pw_int]

theorem fv_int {n : Int} (h1 : -pw 1000 ≤ (n : Rat)) (h2 : (n : Rat) ≤ pw 1000) : ∃ r, fv (R.i2f n) r ∧ rnds r (n : Rat) := fv_of_key (key_int n) (int_scaled n _) h1 h2

theorem fv_unique {x : Fl} {p q : Rat} (h : fv x p) (g : fv x q) : p = q := by
  obtain ⟨a, ha, ea⟩ := h
  obtain ⟨b, hb, eb⟩ := g
  have : a = b := Option.some.inj (ha.1.symm.trans hb.1)
  subst this
  have hp := pw_pos 1074
  have e := ea.trans eb.symm
  exact Rat.le_antisymm (Rat.le_of_mul_le_mul_right (e ▸ Rat.le_refl) hp) (Rat.le_of_mul_le_mul_right (e ▸ Rat.le_refl) hp)

/-- Orders of floats are those of what they are worth. -/
theorem fv_key_le {x y : Fl} {p q : Rat} (hx : fv x p) (hy : fv y q) : ∃ a b, fkey x = some a ∧ fkey y = some b ∧ (p ≤ q ↔ a ≤ b) := by
  obtain ⟨a, ha, ea⟩ := hx
  obtain ⟨b, hb, eb⟩ := hy
  have hp := pw_pos 1074
  refine ⟨a, b, ha.1, hb.1, ⟨fun h => ?_, fun h => ?_⟩⟩
  · have := Rat.mul_le_mul_of_nonneg_right h (Rat.le_of_lt hp)
    rw [ea, eb] at this
    exact Rat.intCast_le_intCast.1 this
  · have := Rat.intCast_le_intCast.2 h
    rw [← ea, ← eb] at this
    exact Rat.le_of_mul_le_mul_right this hp

theorem fv_fle {x y : Fl} {p q : Rat} (hx : fv x p) (hy : fv y q) : R.fle x y = decide (p ≤ q) := by
  obtain ⟨a, b, h1, h2, h3⟩ := fv_key_le hx hy
  rw [Bool.eq_iff_iff, decide_eq_true_iff, h3]
  refine (fle_iff x y).trans ⟨fun ⟨c, d, e1, e2, e3⟩ => ?_, fun h => ⟨a, b, h1, h2, h⟩⟩
  rw [h1] at e1; rw [h2] at e2; cases e1; cases e2; exact e3

theorem fv_flt {x y : Fl} {p q : Rat} (hx : fv x p) (hy : fv y q) : R.flt x y = decide (p < q) := by
  obtain ⟨a, b, h1, h2, h3⟩ := fv_key_le hy hx
  rw [Bool.eq_iff_iff, decide_eq_true_iff, ← Rat.not_le, h3]
  refine (flt_iff x y).trans ⟨fun ⟨c, d, e1, e2, e3⟩ => ?_, fun h => ⟨b, a, h2, h1, by omega⟩⟩
  rw [h2] at e1; rw [h1] at e2; cases e1; cases e2; omega

theorem fv_fge {x y : Fl} {p q : Rat} (hx : fv x p) (hy : fv y q) : R.fge x y = decide (q ≤ p) := by rw [fge_fle]; exact fv_fle hy hx
theorem fv_fgt {x y : Fl} {p q : Rat} (hx : fv x p) (hy : fv y q) : R.fgt x y = decide (q < p) := by rw [fgt_flt]; exact fv_flt hy hx

theorem fv_feq {x y : Fl} {p q : Rat} (hx : fv x p) (hy : fv y q) : R.feq x y = decide (p = q) := by
  obtain ⟨a, b, h1, h2, h3⟩ := fv_key_le hx hy
  obtain ⟨c, d, g1, g2, g3⟩ := fv_key_le hy hx
  rw [h2] at g1; rw [h1] at g2; cases g1; cases g2
  rw [Bool.eq_iff_iff, decide_eq_true_iff, Rat.le_antisymm_iff, h3, g3]
  refine (feq_iff x y).trans ⟨fun ⟨c, d, e1, e2, e3⟩ => ?_, fun h => ⟨a, b, h1, h2, by omega⟩⟩
  rw [h1] at e1; rw [h2] at e2; cases e1; cases e2; omega

/-- A constant, by how its bits read. -/
theorem fv_const {b : Nat} {s : Bool} {m : Nat} {e : Int} (h : f64.read b = .number s m e) {k : Nat} {j : Nat} (he : e + 1074 = (k : Int)) (hj : k + j = 1074) : fv (cls b) ((sg s m : Int) / pw j) := by
  have hb := key_bound h
  rw [signed_sg] at hb
  have hk : (e + 1074).toNat = k := by omega
  rw [hk] at hb
  refine ⟨sg s (m * 2 ^ k), ⟨?_, hb.2, hb.1⟩, ?_⟩
  · rw [cls_key, h]
    simp only [dkey, signed_sg, hk]
  · rw [← hj, Nat.add_comm, pw_add, ← Rat.mul_assoc, Rat.div_mul_cancel (Rat.ne_of_gt (pw_pos j)), sg_mul, Rat.intCast_mul, pw_int]

end Go.Ev
/- What quotients, square roots and whole parts of floats are worth. -/
namespace Go.Ev
open Ieee

theorem cut_zero (neg : Bool) (n d : Nat) : Toward.zero.cut neg n d = n / 2 ^ d := by
  unfold Toward.cut
  simp only [Bool.toNat_false, Nat.add_zero, Nat.one_shiftLeft]
  rcases Nat.le_total d (n.log2 + 2) with h | h
  · rw [Nat.min_eq_left h]
  · rw [Nat.min_eq_right h]
    have h1 : n < 2 ^ (n.log2 + 2) := Nat.lt_of_lt_of_le Nat.lt_log2_self (Nat.pow_le_pow_right (by decide) (by omega))
    rw [Nat.div_eq_of_lt h1, Nat.div_eq_of_lt (Nat.lt_of_lt_of_le h1 (Nat.pow_le_pow_right (by decide) h))]

/-- The whole part of what is not below nought. -/
theorem flint_nonneg {x : Fl} {a : Int} (h : fin x a) (h0 : 0 ≤ a) : flint x = some (a / ((2 ^ 1074 : Nat) : Int)) := by
  cases x with
  | none => cases h.1
  | some b =>
    obtain ⟨s, m, e, hb, he, ha⟩ := fin_read h
    show (f64.read b).toInt .zero = _
    rw [hb]
    simp only [Datum.toInt, Datum.integral, cut_zero]
    rw [signed_sg, Nat.pow_zero, Nat.mul_one, Nat.shiftLeft_eq]
    congr 1
    have key : m * 2 ^ e.toNat / 2 ^ (-e).toNat = m * 2 ^ (e + 1074).toNat / 2 ^ 1074 := by
      generalize hK : 1074 = K at he ⊢
      rcases Int.le_total 0 e with g | g
      · have e1 : (-e).toNat = 0 := by omega
        have e2 : (e + ((K : Nat) : Int)).toNat = e.toNat + K := by omega
        have e3 : (e + (1074 : Int)).toNat = e.toNat + K := by omega
        rw [e1, e3, Nat.pow_zero, Nat.div_one, Nat.pow_add, ← Nat.mul_assoc, Nat.mul_div_cancel _ (Nat.two_pow_pos K)]
      · have e1 : e.toNat = 0 := by omega
        have e3 : K = (e + 1074).toNat + (-e).toNat := by omega
        rw [e1, Nat.pow_zero, Nat.mul_one]
        conv => rhs; rw [e3, Nat.pow_add, Nat.mul_comm m, Nat.mul_div_mul_left _ _ (Nat.two_pow_pos _)]
    rw [key]
    generalize hM : m * 2 ^ (e + 1074).toNat = M at *
    cases s with
    | false =>
      have e1 : a = (M : Int) := ha
      subst e1
      show ((M / 2 ^ 1074 : Nat) : Int) = _
      exact Int.natCast_ediv _ _
    | true =>
      have e1 : a = -(M : Int) := ha
      have : M = 0 := by omega
      subst this
      subst e1
      generalize 2 ^ 1074 = P
      simp [sg]

theorem floor_place {q : Rat} {a k : Int} {n : Nat} (ea : q * pw n = (a : Rat)) (h1 : (k : Rat) ≤ q) (h2 : q < ((k + 1 : Int) : Rat)) : a / ((2 ^ n : Nat) : Int) = k ∧ (0 ≤ k → 0 ≤ a) := by
  have hp := pw_pos n
  have g1 := Rat.mul_le_mul_of_nonneg_right h1 (Rat.le_of_lt hp)
  have g2 := Rat.mul_lt_mul_of_pos_right h2 hp
  rw [ea] at g1 g2
  have e1 : pw n = (((2 ^ n : Nat) : Int) : Rat) := (pw_int n).symm
  rw [e1, ← Rat.intCast_mul] at g1 g2
  have k1 := Rat.intCast_le_intCast.1 g1
  have k2 := Rat.intCast_lt_intCast.1 g2
  have hP : (0 : Int) < ((2 ^ n : Nat) : Int) := Int.natCast_pos.2 (Nat.two_pow_pos n)
  refine ⟨Int.le_antisymm (Int.le_of_lt_add_one (Int.ediv_lt_of_lt_mul hP k2)) (Int.le_ediv_of_mul_le hP k1), fun h0 => Int.le_trans (Int.mul_nonneg h0 (Int.le_of_lt hP)) k1⟩

/-- The whole part of a number that is not below nought. -/
theorem fv_trunc {x : Fl} {q : Rat} (h : fv x q) {k : Int} (h0 : 0 ≤ k) (h1 : (k : Rat) ≤ q) (h2 : q < ((k + 1 : Int) : Rat)) : flint x = some k := by
  obtain ⟨a, ha, ea⟩ := h
  obtain ⟨g1, g2⟩ := floor_place ea h1 h2
  rw [flint_nonneg ha (g2 h0), g1]

theorem rep_dvd {a : Int} (h : rep a) {k : Nat} (hk : 2 ^ (53 + k) ≤ a.natAbs) : ∃ C, a.natAbs = C * 2 ^ k := by
  obtain ⟨t, h1, h2⟩ := h
  rw [h2] at hk ⊢
  unfold rvN at hk ⊢
  split
  · rename_i g
    rw [if_pos g] at hk
    have : 2 ^ 52 ≤ 2 ^ (53 + k) := Nat.pow_le_pow_right (by decide) (by omega)
    omega
  · rename_i g
    rw [if_neg g] at hk
    have hf : t % 2 ^ 52 < 2 ^ 52 := Nat.mod_lt _ (Nat.two_pow_pos 52)
    generalize t / 2 ^ 52 - 1 = e at *
    generalize t % 2 ^ 52 = f at *
    have hlt : (2 ^ 52 + f) * 2 ^ e < 2 ^ (53 + e) := by
      rw [Nat.pow_add]
      refine Nat.mul_lt_mul_of_pos_right ?_ (Nat.two_pow_pos e)
      have : (2 : Nat) ^ 53 = 2 ^ 52 + 2 ^ 52 := by decide
      omega
    have hle : 53 + k < 53 + e := (Nat.pow_lt_pow_iff_right (by decide)).1 (Nat.lt_of_le_of_lt hk hlt)
    refine ⟨(2 ^ 52 + f) * 2 ^ (e - k), ?_⟩
    rw [Nat.mul_assoc, ← Nat.pow_add]
    congr 2
    omega

theorem rep_grid {a : Int} (h : rep a) {l g : Nat} (hk : 2 ^ 53 * 2 ^ g ≤ a.natAbs * 2 ^ l) : ∃ C, a.natAbs * 2 ^ l = C * 2 ^ g := by
  rcases Nat.le_total g l with hl | hl
  · refine ⟨a.natAbs * 2 ^ (l - g), ?_⟩
    rw [Nat.mul_assoc, ← Nat.pow_add]
    congr 2
    omega
  · have e : g = (g - l) + l := by omega
    have h1 : 2 ^ (53 + (g - l)) ≤ a.natAbs := by
      refine Nat.le_of_mul_le_mul_right ?_ (Nat.two_pow_pos l)
      rw [← Nat.pow_add, show 53 + (g - l) + l = 53 + g by omega, Nat.pow_add]
      exact hk
    obtain ⟨C, hC⟩ := rep_dvd h h1
    refine ⟨C, ?_⟩
    rw [hC, Nat.mul_assoc, ← Nat.pow_add]
    congr 2
    omega

def quoM (D n : Nat) : Nat := 2 * (D / n) + (D % n != 0).toNat

theorem quoM_le {D n C : Nat} (h : D ≤ C * n) : quoM D n ≤ 2 * C := by
  have h1 := Nat.div_add_mod D n
  have h2 : D / n ≤ C := Nat.div_le_of_le_mul (by rw [Nat.mul_comm]; exact h)
  unfold quoM
  rcases Nat.lt_or_eq_of_le h2 with g | g
  · have : (D % n != 0).toNat ≤ 1 := Bool.toNat_le _
    omega
  · have : D % n = 0 := by
      rw [g, Nat.mul_comm n C] at h1
      omega
    rw [this, g]
    simp

theorem quoM_ge {D n C : Nat} (hn : 0 < n) (h : C * n ≤ D) : 2 * C ≤ quoM D n := by
  have : C ≤ D / n := (Nat.le_div_iff_mul_le hn).2 h
  unfold quoM
  omega

theorem quoM_near {D n : Nat} (hn : 0 < n) : quoM D n * n ≤ 2 * D + n ∧ 2 * D ≤ quoM D n * n + n := by
  have h1 := Nat.div_add_mod D n
  have h2 : D % n < n := Nat.mod_lt _ hn
  unfold quoM
  rw [Nat.add_mul, Nat.mul_assoc, Nat.mul_comm (D / n) n]
  generalize n * (D / n) = Q at *
  by_cases g : D % n = 0
  · rw [g] at h1 ⊢
    simp
    omega
  · have : (D % n != 0) = true := by simpa using g
    rw [this]
    simp
    omega

/-- The quotient as it is written, held against what floats are worth. -/
theorem quo_grid {D n g l : Nat} (hn : 0 < n) (hD : 2 ^ 53 * n ≤ D) {a : Int} (ha : rep a) :
    (D * 2 ^ (g + 1) ≤ a.natAbs * 2 ^ l * n → quoM D n * 2 ^ g ≤ a.natAbs * 2 ^ l) ∧ (a.natAbs * 2 ^ l * n ≤ D * 2 ^ (g + 1) → a.natAbs * 2 ^ l ≤ quoM D n * 2 ^ g) := by
  have hg : 0 < 2 ^ (g + 1) := Nat.two_pow_pos _
  have e2 : (2 : Nat) ^ (g + 1) = 2 * 2 ^ g := by rw [Nat.pow_succ, Nat.mul_comm]
  have grid : 2 ^ 53 * 2 ^ (g + 1) ≤ a.natAbs * 2 ^ l → ∃ C, a.natAbs * 2 ^ l = C * 2 ^ (g + 1) := fun h => rep_grid ha h
  generalize a.natAbs * 2 ^ l = A at *
  constructor
  · intro h
    have h1 : 2 ^ 53 * 2 ^ (g + 1) ≤ A := by
      refine Nat.le_of_mul_le_mul_right ?_ hn
      refine Nat.le_trans ?_ h
      rw [Nat.mul_right_comm]
      exact Nat.mul_le_mul_right _ hD
    obtain ⟨C, rfl⟩ := grid h1
    have h2 : D ≤ C * n := by
      refine Nat.le_of_mul_le_mul_right ?_ hg
      rw [Nat.mul_right_comm]
      exact h
    have := Nat.mul_le_mul_right (2 ^ g) (quoM_le h2)
    rw [e2]
    calc quoM D n * 2 ^ g ≤ 2 * C * 2 ^ g := this
      _ = C * (2 * 2 ^ g) := by rw [Nat.mul_comm 2 C, Nat.mul_assoc]
  · intro h
    by_cases h1 : 2 ^ 53 * 2 ^ (g + 1) ≤ A
    · obtain ⟨C, rfl⟩ := grid h1
      have h2 : C * n ≤ D := by
        refine Nat.le_of_mul_le_mul_right ?_ hg
        rw [Nat.mul_right_comm] at h
        exact h
      have := Nat.mul_le_mul_right (2 ^ g) (quoM_ge hn h2)
      rw [e2]
      calc C * (2 * 2 ^ g) = 2 * C * 2 ^ g := by rw [Nat.mul_comm 2 C, Nat.mul_assoc]
        _ ≤ quoM D n * 2 ^ g := this
    · have h3 : 2 * 2 ^ 53 ≤ quoM D n := quoM_ge hn hD
      have h4 := Nat.mul_le_mul_right (2 ^ g) h3
      rw [Nat.mul_right_comm, Nat.mul_comm _ (2 ^ 53), ← e2] at h4
      omega

/-- The same with signs, in rational numbers: what stands before and behind both stays so. -/
theorem sides {v v' : Rat} (h0 : 0 ≤ v) (h0' : 0 ≤ v') (h : ∀ c, repQ c → 0 ≤ c → (v ≤ c → v' ≤ c) ∧ (c ≤ v → c ≤ v')) :
    (∀ c, repQ c → (v ≤ c → v' ≤ c) ∧ (c ≤ v → c ≤ v')) ∧ (∀ c, repQ c → (-v ≤ c → -v' ≤ c) ∧ (c ≤ -v → c ≤ -v')) := by
  have pos : ∀ c, repQ c → (v ≤ c → v' ≤ c) ∧ (c ≤ v → c ≤ v') := by
    intro c hc
    by_cases g : 0 ≤ c
    · exact h c hc g
    · have g' : c < 0 := Rat.not_le.1 g
      constructor
      · intro hv; exact absurd (Rat.le_trans h0 hv) g
      · intro _; exact Rat.le_trans (Rat.le_of_lt g') h0'
  refine ⟨pos, fun c hc => ?_⟩
  have := pos (-c) (repQ_neg hc)
  constructor
  · intro hv; exact Rat.neg_le_iff.1 (this.2 (Rat.neg_le_iff.1 hv))
  · intro hv; exact Rat.le_neg_iff.1 (this.1 (Rat.le_neg_iff.1 hv))

/-- What is near what was asked is rounded, and still near. -/
theorem rnds_via {l : Nat} {z : Int} {v v' r : Rat} (e : v' * pw (1074 + l) = (z : Rat)) (er : r * pw 1074 = ((rndL l z : Int) : Rat)) 
    (hs : ∀ c, repQ c → (v ≤ c → v' ≤ c) ∧ (c ≤ v → c ≤ v')) (hn : ∀ B, -B ≤ v → v ≤ B → v - B / pw 54 ≤ v' ∧ v' ≤ v + B / pw 54) (b1 : -pw 1000 ≤ v') (b2 : v' ≤ pw 1000) : rnds r v where
  le c hc hle := (rnds_rndL e er b1 b2).le c hc ((hs c hc).1 hle)
  ge c hc hle := (rnds_rndL e er b1 b2).ge c hc ((hs c hc).2 hle)
  near B hB1 hB2 := by
    obtain ⟨n1, n2⟩ := hn B hB1 hB2
    have e54 : pw 54 = 18014398509481984 := by unfold pw; rw [show (2 : Nat) ^ 54 = 18014398509481984 by decide]; rfl
    have e53 : pw 53 = 9007199254740992 := by unfold pw; rw [show (2 : Nat) ^ 53 = 9007199254740992 by decide]; rfl
    have e52 : pw 52 = 4503599627370496 := by unfold pw; rw [show (2 : Nat) ^ 52 = 4503599627370496 by decide]; rfl
    rw [e54] at n1 n2
    have hB : 0 ≤ B := by grind
    obtain ⟨k1, k2⟩ := near_rndL e er b1 b2 (B + B / 18014398509481984) (by grind) (by grind)
    rw [e53] at k1 k2
    rw [e52]
    constructor
    · grind
    · grind

end Go.Ev
/- Quotients of floats that are numbers, by what they are worth. -/
namespace Go.Ev
open Ieee

def sgQ (b : Bool) : Rat := if b then -1 else 1

theorem sg_cast (b : Bool) (n : Nat) : ((sg b n : Int) : Rat) = sgQ b * (n : Rat) := by
  unfold sg sgQ
  cases b with
  | true =>
    simp only [if_true]
    rw [Rat.intCast_neg, Rat.intCast_natCast, Rat.neg_mul, Rat.one_mul]
  | false =>
    simp only [Bool.false_eq_true, if_false]
    rw [Rat.intCast_natCast, Rat.one_mul]

theorem fv_read {b : Nat} {q : Rat} (h : fv (some b) q) : ∃ s m e, f64.read b = .number s m e ∧ -1074 ≤ e ∧ m < 2 ^ 53 ∧ q * pw 1074 = sgQ s * ((m : Rat) * pw (e + 1074).toNat) := by
  obtain ⟨a, ha, ea⟩ := h
  obtain ⟨s, m, e, hb, he, h3⟩ := fin_read ha
  refine ⟨s, m, e, hb, he, (read_number hb).1, ?_⟩
  rw [ea, h3, sg_cast, Rat.natCast_mul, pw_eq]

theorem natQ_le {m n : Nat} : (m : Rat) ≤ (n : Rat) ↔ m ≤ n := Rat.natCast_le_natCast

/-- What a row of places (a whole number, at a finer scale) is worth, held against another: by whole numbers. -/
theorem scaled_le {u : Rat} {X n w : Nat} (e : u * ((n : Rat) * pw w) = (X : Rat)) (hn : 0 < n) {c : Rat} {Y : Nat} (ec : c * pw w = (Y : Rat)) : (u ≤ c ↔ X ≤ Y * n) ∧ (c ≤ u ↔ Y * n ≤ X) := by
  have hp : 0 < (n : Rat) * pw w := Rat.mul_pos (Rat.natCast_pos.2 hn) (pw_pos w)
  have e2 : c * ((n : Rat) * pw w) = ((Y * n : Nat) : Rat) := by
    rw [Rat.natCast_mul, ← ec]; grind
  constructor
  · constructor
    · intro h
      have := Rat.mul_le_mul_of_nonneg_right h (Rat.le_of_lt hp)
      rw [e, e2] at this
      exact natQ_le.1 this
    · intro h
      refine Rat.le_of_mul_le_mul_right ?_ hp
      rw [e, e2]
      exact natQ_le.2 h
  · constructor
    · intro h
      have := Rat.mul_le_mul_of_nonneg_right h (Rat.le_of_lt hp)
      rw [e, e2] at this
      exact natQ_le.1 this
    · intro h
      refine Rat.le_of_mul_le_mul_right ?_ hp
      rw [e, e2]
      exact natQ_le.2 h

theorem repQ_nat {c : Rat} (h : repQ c) (h0 : 0 ≤ c) (l : Nat) : ∃ a : Int, rep a ∧ c * pw (1074 + l) = ((a.natAbs * 2 ^ l : Nat) : Rat) := by
  obtain ⟨a, ha, ea⟩ := h
  refine ⟨a, ha, ?_⟩
  have hnn : (0 : Int) ≤ a := by
    have := Rat.mul_nonneg h0 (Rat.le_of_lt (pw_pos 1074))
    rw [ea] at this
    exact Rat.intCast_nonneg.1 this
  have e : ((a.natAbs : Int) : Rat) = (a : Rat) := by rw [Int.natAbs_of_nonneg hnn]
  rw [Rat.intCast_natCast] at e
  rw [pw_add, ← Rat.mul_assoc, ea, Rat.natCast_mul, e, pw_eq]

theorem sgQ_xor (s t : Bool) : sgQ (s ^^ t) * sgQ t = sgQ s := by
  cases s <;> cases t <;> unfold sgQ <;> simp <;> grind

theorem quo_near {D n w g : Nat} {u u' : Rat} (hn : 0 < n) (hD : 2 ^ 53 * n ≤ D) (eu : u * ((n : Rat) * pw w) = ((D * 2 ^ (g + 1) : Nat) : Rat)) (eu' : u' * pw w = ((quoM D n * 2 ^ g : Nat) : Rat)) :
    u - u / pw 54 ≤ u' ∧ u' ≤ u + u / pw 54 := by
  obtain ⟨h1, h2⟩ := quoM_near (D := D) hn
  have e54 : pw 54 = 18014398509481984 := by unfold pw; rw [show (2 : Nat) ^ 54 = 18014398509481984 by decide]; rfl
  have e53 : (2 : Nat) ^ 53 = 9007199254740992 := by decide
  rw [e53] at hD
  rw [e54]
  have hn' : 0 < (n : Rat) := Rat.natCast_pos.2 hn
  have hp : 0 < (n : Rat) * pw w := Rat.mul_pos hn' (pw_pos w)
  have hg := pw_pos g
  have k1 := natQ_le.2 h1
  have k2 := natQ_le.2 h2
  have k3 := natQ_le.2 hD
  have eg : ((2 ^ g : Nat) : Rat) = pw g := pw_eq g
  have eg1 : ((2 ^ (g + 1) : Nat) : Rat) = pw g * 2 := by rw [pw_eq, pw_add, pw_one]
  simp only [Rat.natCast_mul, Rat.natCast_add, eg, eg1, Rat.natCast_ofNat] at k1 k2 k3 eu eu'
  generalize (quoM D n : Rat) = M at *
  generalize (D : Rat) = d at *
  generalize (n : Rat) = N at *
  generalize pw w = W at *
  generalize pw g = G at *
  have m1 := Rat.mul_le_mul_of_nonneg_right k1 (Rat.le_of_lt hg)
  have m2 := Rat.mul_le_mul_of_nonneg_right k2 (Rat.le_of_lt hg)
  have m3 := Rat.mul_le_mul_of_nonneg_right k3 (Rat.le_of_lt hg)
  have f1 : u' * (N * W) = M * N * G := by grind
  constructor
  · refine Rat.le_of_mul_le_mul_right ?_ hp
    grind
  · refine Rat.le_of_mul_le_mul_right ?_ hp
    grind

theorem fv_div {x y : Fl} {p q : Rat} (hx : fv x p) (hy : fv y q) (hq : q ≠ 0) (h1 : -pw 999 ≤ p / q) (h2 : p / q ≤ pw 999) : ∃ r, fv (R.fdiv x y) r ∧ rnds r (p / q) := by
  cases x with
  | none => obtain ⟨_, h, _⟩ := hx; cases h.1
  | some P =>
    cases y with
    | none => obtain ⟨_, h, _⟩ := hy; cases h.1
    | some Q =>
      obtain ⟨s, m, i, hP, hi, hm, ep⟩ := fv_read hx
      obtain ⟨t, n, j, hQ, hj, hn, eq⟩ := fv_read hy
      have hn0 : n ≠ 0 := by
        intro e
        subst e
        have hp := pw_pos 1074
        have : q * pw 1074 = 0 := by rw [eq]; simp
        rcases Rat.mul_eq_zero.1 this with g | g
        · exact hq g
        · exact absurd g (Rat.ne_of_gt hp)
      have hnp : 0 < n := Nat.pos_of_ne_zero hn0
      obtain ⟨more, hmore⟩ : ∃ k : Nat, k = 54 + n.log2 - m.log2 := ⟨_, rfl⟩
      obtain ⟨D, hDd⟩ : ∃ D : Nat, D = m <<< more := ⟨_, rfl⟩
      have hdiv : f64.div P Q = some (f64.nearest (s ^^ t) (quoM D n) (i - j - more - 1)) := by
        unfold Format.div
        rw [hP, hQ]
        have e54 : f64.fractionBits + 2 = 54 := rfl
        simp only [Datum.quotient, if_neg hn0, e54, ← hmore, ← hDd]
        rfl
      show ∃ r, fv (match f64.div P Q with | some r => cls r | none => none) r ∧ _
      rw [hdiv]
      simp only
      have hkey : ∀ B : Int, B ≤ i - j - more - 1 → B ≤ -1074 → fkey (cls (f64.nearest (s ^^ t) (quoM D n) (i - j - more - 1))) = some (rndL (-1074 - B).toNat (sg (s ^^ t) (quoM D n * 2 ^ ((i - j - more - 1) - B).toNat))) := by
        intro B g1 g2
        rw [cls_key]
        exact key_nearest _ g1 g2
      obtain ⟨B, hB⟩ : ∃ B : Int, B = min (i - j - more - 1) (-1074) := ⟨_, rfl⟩
      have hk := hkey B (by omega) (by omega)
      obtain ⟨l, hl⟩ : ∃ l : Nat, l = (-1074 - B).toNat := ⟨_, rfl⟩
      obtain ⟨g, hg⟩ : ∃ g : Nat, g = ((i - j - more - 1) - B).toNat := ⟨_, rfl⟩
      rw [← hl, ← hg] at hk
      -- what is asked and what is written, without signs
      have hW := pw_pos (1074 + l)
      have hnQ : (0 : Rat) < (n : Rat) := Rat.natCast_pos.2 hnp
      have hnW : 0 < (n : Rat) * pw (1074 + l) := Rat.mul_pos hnQ hW
      obtain ⟨u, eu⟩ : ∃ u : Rat, u * ((n : Rat) * pw (1074 + l)) = ((D * 2 ^ (g + 1) : Nat) : Rat) := ⟨_, Rat.div_mul_cancel (Rat.ne_of_gt hnW)⟩
      obtain ⟨u', eu'⟩ : ∃ u' : Rat, u' * pw (1074 + l) = ((quoM D n * 2 ^ g : Nat) : Rat) := ⟨_, Rat.div_mul_cancel (Rat.ne_of_gt hW)⟩
      have u0 : 0 ≤ u := Rat.le_of_mul_le_mul_right (by rw [Rat.zero_mul, eu]; exact Rat.natCast_nonneg) hnW
      have u0' : 0 ≤ u' := Rat.le_of_mul_le_mul_right (by rw [Rat.zero_mul, eu']; exact Rat.natCast_nonneg) hW
      have ev : p / q = sgQ (s ^^ t) * u := by
        have e1 : p = sgQ (s ^^ t) * u * q := by
          have hp := pw_pos 1074
          have key : (m : Rat) * pw (i + 1074).toNat = u * ((n : Rat) * pw (j + 1074).toNat) := by
            have hm2 : (D : Rat) = (m : Rat) * pw more := by rw [hDd, Nat.shiftLeft_eq, Rat.natCast_mul, pw_eq]
            have he : pw (i + 1074).toNat * pw (1074 + l) = pw more * pw (g + 1) * pw (j + 1074).toNat := by
              rw [← pw_add, ← pw_add, ← pw_add]
              congr 1
              omega
            rw [Rat.natCast_mul, hm2] at eu
            have e2 : ((2 ^ (g + 1) : Nat) : Rat) = pw (g + 1) := pw_eq _
            rw [e2] at eu
            have a1 : (m : Rat) * pw (i + 1074).toNat * pw (1074 + l) = u * ((n : Rat) * pw (j + 1074).toNat) * pw (1074 + l) := by grind
            exact Rat.le_antisymm (Rat.le_of_mul_le_mul_right (a1 ▸ Rat.le_refl) hW) (Rat.le_of_mul_le_mul_right (a1 ▸ Rat.le_refl) hW)
          have a2 : p * pw 1074 = sgQ (s ^^ t) * u * q * pw 1074 := by
            rw [Rat.mul_assoc _ q, eq, ep, key]
            have := sgQ_xor s t
            generalize sgQ (s ^^ t) = A at *
            generalize sgQ t = B at *
            generalize sgQ s = C at *
            subst this
            grind
          exact Rat.le_antisymm (Rat.le_of_mul_le_mul_right (a2 ▸ Rat.le_refl) hp) (Rat.le_of_mul_le_mul_right (a2 ▸ Rat.le_refl) hp)
        rw [e1, Rat.mul_div_cancel hq]
      have ev' : (sgQ (s ^^ t) * u') * pw (1074 + l) = ((sg (s ^^ t) (quoM D n * 2 ^ g) : Int) : Rat) := by rw [sg_cast, Rat.mul_assoc, eu']
      have hub : u ≤ pw 999 := by
        rw [ev] at h1 h2
        unfold sgQ at h1 h2
        split at h1
        · rename_i hs
          rw [if_pos hs] at h2
          grind
        · rename_i hs
          rw [if_neg hs] at h2
          grind
      have e54 : pw 54 = 18014398509481984 := by unfold pw; rw [show (2 : Nat) ^ 54 = 18014398509481984 by decide]; rfl
      have e1000 : pw 1000 = pw 999 * 2 := by rw [show 1000 = 999 + 1 from rfl, pw_add, pw_one]
      -- near, and on the same side of what floats are worth
      have main : (∀ c, repQ c → 0 ≤ c → (u ≤ c → u' ≤ c) ∧ (c ≤ u → c ≤ u')) ∧ u - u / pw 54 ≤ u' ∧ u' ≤ u + u / pw 54 := by
        by_cases hm0 : m = 0
        · have hD0 : D = 0 := by rw [hDd, hm0, Nat.zero_shiftLeft]
          have hq0 : quoM D n = 0 := by rw [hD0]; unfold quoM; simp
          have z1 : u = 0 := by
            rw [hD0, Nat.zero_mul] at eu
            rcases Rat.mul_eq_zero.1 eu with h | h
            · exact h
            · exact absurd h (Rat.ne_of_gt hnW)
          have z2 : u' = 0 := by
            rw [hq0, Nat.zero_mul] at eu'
            rcases Rat.mul_eq_zero.1 eu' with h | h
            · exact h
            · exact absurd h (Rat.ne_of_gt hW)
          rw [z1, z2, e54]
          refine ⟨fun c _ _ => ⟨id, id⟩, by grind, by grind⟩
        · have hD : 2 ^ 53 * n ≤ D := by
            have l1 : 2 ^ m.log2 ≤ m := Nat.log2_self_le hm0
            have l2 : n < 2 ^ (n.log2 + 1) := Nat.lt_log2_self
            have l3 : m.log2 < 53 := (Nat.log2_lt hm0).2 hm
            rw [hDd, Nat.shiftLeft_eq]
            refine Nat.le_trans (Nat.mul_le_mul_left _ (Nat.le_of_lt l2)) (Nat.le_trans ?_ (Nat.mul_le_mul_right _ l1))
            rw [← Nat.pow_add, ← Nat.pow_add]
            exact Nat.pow_le_pow_right (by decide) (by omega)
          refine ⟨fun c hc h0 => ?_, quo_near hnp hD eu eu'⟩
          obtain ⟨a, ha, ec⟩ := repQ_nat hc h0 l
          obtain ⟨g1, g2⟩ := quo_grid (g := g) (l := l) hnp hD ha
          obtain ⟨k1, k2⟩ := scaled_le eu hnp ec
          have eu1 : u' * (((1 : Nat) : Rat) * pw (1074 + l)) = ((quoM D n * 2 ^ g : Nat) : Rat) := by rw [← eu']; grind
          obtain ⟨j1, j2⟩ := scaled_le eu1 (by decide) ec
          rw [Nat.mul_one] at j1 j2
          exact ⟨fun h => j1.2 (g1 (k1.1 h)), fun h => j2.2 (g2 (k2.1 h))⟩
      obtain ⟨mside, mn1, mn2⟩ := main
      rw [e54] at mn1 mn2
      obtain ⟨s1, s2⟩ := sides u0 u0' mside
      have b' : u' ≤ pw 1000 := by rw [e1000]; have := pw_pos 999; grind
      have bv : -pw 1000 ≤ sgQ (s ^^ t) * u' ∧ sgQ (s ^^ t) * u' ≤ pw 1000 := by
        have := pw_pos 1000
        unfold sgQ
        split <;> constructor <;> grind
      obtain ⟨r, hr, er⟩ := fv_wrap hk ev' bv.1 bv.2
      refine ⟨r, hr, ?_⟩
      rw [ev]
      refine rnds_via ev' er ?_ ?_ bv.1 bv.2
      · cases hst : (s ^^ t) with
        | true => simpa only [sgQ, if_true, Rat.neg_mul, Rat.one_mul] using s2
        | false => simpa only [sgQ, Bool.false_eq_true, if_false, Rat.one_mul] using s1
      · intro C hC1 hC2
        rw [e54]
        revert hC1 hC2
        unfold sgQ
        split <;> intro hC1 hC2 <;> constructor <;> grind

end Go.Ev
/- Square roots of floats, by what they are worth. -/
namespace Go.Ev
open Ieee

theorem rootFrom_spec (n : Nat) : ∀ todo root : Nat, root * root ≤ n → n < (root + 2 ^ todo) * (root + 2 ^ todo) →
    Datum.rootFrom n todo root * Datum.rootFrom n todo root ≤ n ∧ n < (Datum.rootFrom n todo root + 1) * (Datum.rootFrom n todo root + 1)
  | 0, root, h1, h2 => by
    simp only [Datum.rootFrom]
    exact ⟨h1, by simpa using h2⟩
  | todo + 1, root, h1, h2 => by
    simp only [Datum.rootFrom, Nat.one_shiftLeft]
    split
    · rename_i h
      refine rootFrom_spec n todo _ h ?_
      have e : root + 2 ^ todo + 2 ^ todo = root + 2 ^ (todo + 1) := by rw [Nat.pow_succ]; omega
      rw [e]; exact h2
    · rename_i h
      exact rootFrom_spec n todo _ h1 (by omega)

theorem rootFrom_right (n : Nat) : Datum.rootFrom n (n.log2 / 2 + 1) 0 * Datum.rootFrom n (n.log2 / 2 + 1) 0 ≤ n ∧ n < (Datum.rootFrom n (n.log2 / 2 + 1) 0 + 1) * (Datum.rootFrom n (n.log2 / 2 + 1) 0 + 1) := by
  refine rootFrom_spec n _ 0 (by simp) ?_
  rw [Nat.zero_add, ← Nat.pow_add]
  exact Nat.lt_of_lt_of_le Nat.lt_log2_self (Nat.pow_le_pow_right (by decide) (by omega))

def rootM (w N : Nat) : Nat := 2 * w + (w * w != N).toNat

theorem rootM_le {w N : Nat} (h1 : w * w ≤ N) {C : Nat} (h : N ≤ C * C) : rootM w N ≤ 2 * C := by
  have hw : w ≤ C := Nat.mul_self_le_mul_self_iff.1 (Nat.le_trans h1 h)
  unfold rootM
  rcases Nat.lt_or_eq_of_le hw with g | g
  · have : (w * w != N).toNat ≤ 1 := Bool.toNat_le _
    omega
  · subst g
    have : w * w = N := Nat.le_antisymm h1 h
    rw [this]
    simp

theorem rootM_ge {w N : Nat} (h2 : N < (w + 1) * (w + 1)) {C : Nat} (h : C * C ≤ N) : 2 * C ≤ rootM w N := by
  have hw : C < w + 1 := Nat.mul_self_lt_mul_self_iff.1 (Nat.lt_of_le_of_lt h h2)
  unfold rootM
  omega

theorem root_grid {w N g : Nat} (h1 : w * w ≤ N) (h2 : N < (w + 1) * (w + 1)) (hw : 2 ^ 53 ≤ w) {a : Int} (ha : rep a) :
    (N * (2 ^ (g + 1) * 2 ^ (g + 1)) ≤ a.natAbs * a.natAbs → rootM w N * 2 ^ g ≤ a.natAbs) ∧ (a.natAbs * a.natAbs ≤ N * (2 ^ (g + 1) * 2 ^ (g + 1)) → a.natAbs ≤ rootM w N * 2 ^ g) := by
  have hg : 0 < 2 ^ (g + 1) := Nat.two_pow_pos _
  have e2 : (2 : Nat) ^ (g + 1) = 2 * 2 ^ g := by rw [Nat.pow_succ, Nat.mul_comm]
  have grid : 2 ^ 53 * 2 ^ (g + 1) ≤ a.natAbs → ∃ C, a.natAbs = C * 2 ^ (g + 1) := fun h => by
    have := rep_grid ha (l := 0) (g := g + 1) (by rw [Nat.pow_zero, Nat.mul_one]; exact h)
    rw [Nat.pow_zero, Nat.mul_one] at this
    exact this
  generalize a.natAbs = A at *
  generalize hT : 2 ^ (g + 1) = T at *
  constructor
  · intro h
    have hA : w * T ≤ A := by
      refine Nat.mul_self_le_mul_self_iff.1 (Nat.le_trans ?_ h)
      have : w * T * (w * T) = w * w * (T * T) := by simp only [Nat.mul_assoc, Nat.mul_left_comm]
      rw [this]
      exact Nat.mul_le_mul_right _ h1
    obtain ⟨C, rfl⟩ := grid (Nat.le_trans (Nat.mul_le_mul_right _ hw) hA)
    have h3 : N ≤ C * C := by
      refine Nat.le_of_mul_le_mul_right ?_ (Nat.mul_pos hg hg)
      have : C * C * (T * T) = C * T * (C * T) := by simp only [Nat.mul_assoc, Nat.mul_left_comm]
      rw [this]; exact h
    have := Nat.mul_le_mul_right (2 ^ g) (rootM_le h1 h3)
    rw [e2, ← Nat.mul_assoc, Nat.mul_comm C 2]
    exact this
  · intro h
    by_cases h3 : 2 ^ 53 * T ≤ A
    · obtain ⟨C, rfl⟩ := grid h3
      have h4 : C * C ≤ N := by
        refine Nat.le_of_mul_le_mul_right ?_ (Nat.mul_pos hg hg)
        have : C * C * (T * T) = C * T * (C * T) := by simp only [Nat.mul_assoc, Nat.mul_left_comm]
        rw [this]; exact h
      have := Nat.mul_le_mul_right (2 ^ g) (rootM_ge h2 h4)
      rw [e2, ← Nat.mul_assoc, Nat.mul_comm C 2]
      exact this
    · have h4 : 2 ^ 53 * T ≤ w * T := Nat.mul_le_mul_right _ hw
      have h5 : 2 * w ≤ rootM w N := by unfold rootM; omega
      have h6 := Nat.mul_le_mul_right (2 ^ g) h5
      have h7 : 2 * w * 2 ^ g = w * T := by rw [e2, Nat.mul_comm 2 w, Nat.mul_assoc]
      omega

theorem rootM_near {w N : Nat} (h1 : w * w ≤ N) (h2 : N < (w + 1) * (w + 1)) (hw : 2 ^ 53 ≤ w) :
    2 ^ 53 * (rootM w N * rootM w N) ≤ 2 ^ 53 * (4 * N) + 4 * N ∧ 2 ^ 53 * (4 * N) ≤ 2 ^ 53 * (rootM w N * rootM w N) + 4 * N := by
  have h3 : 2 ^ 53 * w ≤ N := Nat.le_trans (Nat.mul_le_mul_right _ hw) h1
  have e : (w + 1) * (w + 1) = w * w + 2 * w + 1 := by rw [Nat.add_mul, Nat.mul_add]; omega
  rw [e] at h2
  unfold rootM
  by_cases g : w * w = N
  · have : (w * w != N).toNat = 0 := by rw [g]; simp
    rw [this, Nat.add_zero]
    have e2 : 2 * w * (2 * w) = 4 * (w * w) := by rw [Nat.mul_mul_mul_comm]
    rw [e2, g]
    omega
  · have : (w * w != N).toNat = 1 := by simp [g]
    rw [this]
    have e2 : (2 * w + 1) * (2 * w + 1) = 4 * (w * w) + 4 * w + 1 := by
      rw [Nat.add_mul, Nat.mul_add, Nat.mul_mul_mul_comm]; omega
    rw [e2]
    generalize w * w = W at *
    have e53 : (2 : Nat) ^ 53 = 9007199254740992 := by decide
    rw [e53] at *
    omega

/-- r is the square root of p, as near as floats are. -/
structure sqrtOf (r p : Rat) : Prop where
  nonneg : 0 ≤ r
  le : ∀ c, repQ c → 0 ≤ c → p ≤ c * c → r ≤ c
  ge : ∀ c, repQ c → 0 ≤ c → c * c ≤ p → c ≤ r
  near : p - p / pw 50 ≤ r * r ∧ r * r ≤ p + p / pw 50

theorem repQ_zero : repQ 0 := ⟨0, ⟨0, by rw [infRung_eq]; decide, rfl⟩, by rw [Rat.zero_mul]; rfl⟩

theorem repQ_abs {c : Rat} (h : repQ c) (h0 : 0 ≤ c) : ∃ a : Int, rep a ∧ c * pw 1074 = ((a.natAbs : Nat) : Rat) := by
  obtain ⟨a, ha, ea⟩ := repQ_nat h h0 0
  rw [Nat.pow_zero, Nat.mul_one] at ea
  exact ⟨a, ha, ea⟩

theorem fv_sqrt {x : Fl} {p : Rat} (hx : fv x p) (h0 : 0 ≤ p) (h1 : p ≤ pw 100) : ∃ r, fv (R.fsqrt x) r ∧ sqrtOf r p := by
  cases x with
  | none => obtain ⟨_, h, _⟩ := hx; cases h.1
  | some P =>
    obtain ⟨s, m, i, hP, hi, hm, ep⟩ := fv_read hx
    have hK := pw_pos 1074
    show ∃ r, fv (match f64.sqrt P with | some r => cls r | none => none) r ∧ _
    by_cases hm0 : m = 0
    · have hsq : f64.sqrt P = some (f64.nearest s m i) := by
        unfold Format.sqrt
        rw [hP]
        simp only [Datum.root, if_pos hm0]
        rfl
      rw [hsq]
      simp only
      have hp0 : p = 0 := by
        subst hm0
        have : p * pw 1074 = 0 := by rw [ep]; simp
        rcases Rat.mul_eq_zero.1 this with g | g
        · exact g
        · exact absurd g (Rat.ne_of_gt hK)
      have hk : fkey (cls (f64.nearest s m i)) = some 0 := by
        rw [cls_key, key_nearest s hi (by omega), hm0, Nat.zero_mul]
        have : sg s 0 = 0 := by cases s <;> rfl
        rw [this, rndL_zero]
      refine ⟨0, ⟨0, ⟨hk, by have := topKey_pos; omega, topKey_pos⟩, by rw [Rat.zero_mul]; rfl⟩, ?_⟩
      rw [hp0]
      exact ⟨Rat.le_refl, fun c _ hc _ => hc, fun c hc h0c hcc => by
        have := Rat.mul_nonneg h0c h0c
        have e := Rat.le_antisymm hcc this
        rcases Rat.mul_eq_zero.1 e with g | g <;> (rw [g]; exact Rat.le_refl), by grind, by grind⟩
    · have hmp : 0 < m := Nat.pos_of_ne_zero hm0
      have hs : s = false := by
        cases s with
        | false => rfl
        | true =>
          have h2 : 0 ≤ p * pw 1074 := Rat.mul_nonneg h0 (Rat.le_of_lt hK)
          have h3 : 0 < (m : Rat) * pw (i + 1074).toNat := Rat.mul_pos (Rat.natCast_pos.2 hmp) (pw_pos _)
          rw [ep] at h2
          unfold sgQ at h2
          grind
      subst hs
      obtain ⟨more, hmore⟩ : ∃ k : Nat, k = (2 * 54 - m.log2) + ((i - ((2 * 54 - m.log2 : Nat) : Int)) % 2).toNat := ⟨_, rfl⟩
      obtain ⟨N, hN⟩ : ∃ N : Nat, N = m <<< more := ⟨_, rfl⟩
      obtain ⟨w, hw⟩ : ∃ w : Nat, w = Datum.rootFrom N (N.log2 / 2 + 1) 0 := ⟨_, rfl⟩
      have hsq : f64.sqrt P = some (f64.nearest false (rootM w N) ((i - more) / 2 - 1)) := by
        unfold Format.sqrt
        rw [hP]
        have e54 : f64.fractionBits + 2 = 54 := rfl
        simp only [Datum.root, if_neg hm0, e54, Bool.false_eq_true, if_false, ← hmore, ← hN, ← hw]
        rfl
      rw [hsq]
      simp only
      obtain ⟨w1, w2⟩ := rootFrom_right N
      rw [← hw] at w1 w2
      have l3 : m.log2 < 53 := (Nat.log2_lt hm0).2 hm
      have hN108 : 2 ^ 108 ≤ N := by
        have l1 : 2 ^ m.log2 ≤ m := Nat.log2_self_le hm0
        rw [hN, Nat.shiftLeft_eq]
        refine Nat.le_trans ?_ (Nat.mul_le_mul_right _ l1)
        rw [← Nat.pow_add]
        exact Nat.pow_le_pow_right (by decide) (by omega)
      have hw53 : 2 ^ 53 ≤ w := by
        have : 2 ^ 54 < w + 1 := Nat.mul_self_lt_mul_self_iff.1 (Nat.lt_of_le_of_lt (by rw [← Nat.pow_add]; exact hN108) w2)
        have e : (2 : Nat) ^ 54 = 2 * 2 ^ 53 := by decide
        omega
      obtain ⟨g, hg⟩ : ∃ g : Nat, (g : Int) = (i - more) / 2 - 1 + 1074 := ⟨((i - more) / 2 - 1 + 1074).toNat, by omega⟩
      have hk : fkey (cls (f64.nearest false (rootM w N) ((i - more) / 2 - 1))) = some (rndL 0 (sg false (rootM w N * 2 ^ g))) := by
        rw [cls_key, key_nearest false (B := -1074) (by omega) (by omega)]
        have e0 : ((-1074 : Int) - -1074).toNat = 0 := by decide
        have e1 : ((i - more) / 2 - 1 - -1074).toNat = g := by omega
        rw [e0, e1]
      obtain ⟨u, eu⟩ : ∃ u : Rat, u * pw 1074 = ((rootM w N * 2 ^ g : Nat) : Rat) := ⟨_, Rat.div_mul_cancel (Rat.ne_of_gt hK)⟩
      have e50 : pw 50 = 1125899906842624 := by unfold pw; rw [show (2 : Nat) ^ 50 = 1125899906842624 by decide]; rfl
      have e53 : pw 53 = 9007199254740992 := by unfold pw; rw [show (2 : Nat) ^ 53 = 9007199254740992 by decide]; rfl
      have u0 : 0 ≤ u := Rat.le_of_mul_le_mul_right (by rw [Rat.zero_mul, eu]; exact Rat.natCast_nonneg) hK
      have epp : p * (pw 1074 * pw 1074) = ((N * (2 ^ (g + 1) * 2 ^ (g + 1)) : Nat) : Rat) := by
        rw [← Rat.mul_assoc, ep, hN, Nat.shiftLeft_eq]
        simp only [Rat.natCast_mul, pw_eq, sgQ, Bool.false_eq_true, if_false, Rat.one_mul]
        rw [Rat.mul_assoc, Rat.mul_assoc, ← pw_add, ← pw_add, ← pw_add]
        congr 2
        omega
      have euu : u * u * (pw 1074 * pw 1074) = ((rootM w N * rootM w N * (2 ^ g * 2 ^ g) : Nat) : Rat) := by
        have : u * u * (pw 1074 * pw 1074) = (u * pw 1074) * (u * pw 1074) := by grind
        rw [this, eu]
        simp only [Rat.natCast_mul]
        grind
      have hKK : 0 < pw 1074 * pw 1074 := Rat.mul_pos hK hK
      have unear : p - p / 9007199254740992 ≤ u * u ∧ u * u ≤ p + p / 9007199254740992 := by
        obtain ⟨n1, n2⟩ := rootM_near w1 w2 hw53
        have m1 := natQ_le.2 (Nat.mul_le_mul_right (2 ^ g * 2 ^ g) n1)
        have m2 := natQ_le.2 (Nat.mul_le_mul_right (2 ^ g * 2 ^ g) n2)
        have e2 : N * (2 ^ (g + 1) * 2 ^ (g + 1)) = 4 * N * (2 ^ g * 2 ^ g) := by
          rw [Nat.pow_succ]
          generalize 2 ^ g = G
          simp only [Nat.mul_assoc, Nat.mul_left_comm, Nat.mul_comm]
        rw [e2] at epp
        have e3 : (2 : Nat) ^ 53 = 9007199254740992 := by decide
        rw [e3] at m1 m2
        have s1 : 9007199254740992 * (rootM w N * rootM w N) * (2 ^ g * 2 ^ g) = 9007199254740992 * (rootM w N * rootM w N * (2 ^ g * 2 ^ g)) := Nat.mul_assoc _ _ _
        have s2 : (9007199254740992 * (4 * N) + 4 * N) * (2 ^ g * 2 ^ g) = 9007199254740992 * (4 * N * (2 ^ g * 2 ^ g)) + 4 * N * (2 ^ g * 2 ^ g) := by rw [Nat.add_mul, Nat.mul_assoc 9007199254740992]
        have s3 : 9007199254740992 * (4 * N) * (2 ^ g * 2 ^ g) = 9007199254740992 * (4 * N * (2 ^ g * 2 ^ g)) := Nat.mul_assoc _ _ _
        have s4 : (9007199254740992 * (rootM w N * rootM w N) + 4 * N) * (2 ^ g * 2 ^ g) = 9007199254740992 * (rootM w N * rootM w N * (2 ^ g * 2 ^ g)) + 4 * N * (2 ^ g * 2 ^ g) := by rw [Nat.add_mul, Nat.mul_assoc 9007199254740992]
        rw [s1, s2] at m1
        rw [s3, s4] at m2
        rw [Rat.natCast_add, Rat.natCast_mul 9007199254740992, Rat.natCast_mul 9007199254740992, ← epp, ← euu, Rat.natCast_ofNat] at m1 m2
        generalize pw 1074 * pw 1074 = Z at *
        constructor
        · refine Rat.le_of_mul_le_mul_right ?_ hKK
          grind
        · refine Rat.le_of_mul_le_mul_right ?_ hKK
          grind
      have p0 : 0 ≤ p := h0
      have ub : u ≤ pw 1000 := by
        have k1 : pw 102 ≤ pw 1000 := pw_le (by decide)
        have k2 : pw 102 = pw 100 * (2 * 2) := by rw [show 102 = 100 + (1 + 1) from rfl, pw_add, pw_add, pw_one]
        have k3 : pw 0 ≤ pw 100 := pw_le (by decide)
        rw [pw_zero] at k3
        refine Rat.not_lt.1 fun hlt => ?_
        have k4 : 1 ≤ u := by grind
        have k5 : u * 1 ≤ u * u := Rat.mul_le_mul_of_nonneg_left k4 u0
        grind
      have ev' : u * pw (1074 + 0) = ((sg false (rootM w N * 2 ^ g) : Int) : Rat) := by
        rw [Nat.add_zero, eu]
        show _ = (((rootM w N * 2 ^ g : Nat) : Int) : Rat)
        rw [Rat.intCast_natCast]
      have ub' : -pw 1000 ≤ u := by have := pw_pos 1000; grind
      obtain ⟨r, hr, er⟩ := fv_wrap hk ev' ub' ub
      have hrn := rnds_rndL ev' er ub' ub
      obtain ⟨rn1, rn2⟩ := near_rndL ev' er ub' ub u (by grind) Rat.le_refl
      have side : ∀ c, repQ c → 0 ≤ c → (p ≤ c * c → u ≤ c) ∧ (c * c ≤ p → c ≤ u) := by
        intro c hc hc0
        obtain ⟨a, ha, ec⟩ := repQ_abs hc hc0
        obtain ⟨g1, g2⟩ := root_grid (g := g) w1 w2 hw53 ha
        have ecc : c * c * (pw 1074 * pw 1074) = ((a.natAbs * a.natAbs : Nat) : Rat) := by
          rw [Rat.natCast_mul, ← ec]; grind
        constructor
        · intro h
          have h2 := Rat.mul_le_mul_of_nonneg_right h (Rat.le_of_lt hKK)
          rw [epp, ecc] at h2
          refine Rat.le_of_mul_le_mul_right ?_ hK
          rw [eu, ec]
          exact natQ_le.2 (g1 (natQ_le.1 h2))
        · intro h
          have h2 := Rat.mul_le_mul_of_nonneg_right h (Rat.le_of_lt hKK)
          rw [epp, ecc] at h2
          refine Rat.le_of_mul_le_mul_right ?_ hK
          rw [eu, ec]
          exact natQ_le.2 (g2 (natQ_le.1 h2))
      refine ⟨r, hr, hrn.ge 0 repQ_zero u0, fun c hc hc0 h => hrn.le c hc ((side c hc hc0).1 h), fun c hc hc0 h => hrn.ge c hc ((side c hc hc0).2 h), ?_⟩
      -- near
      have htiny : tiny ≤ u / 36028797018963968 := by
        have t1 : tiny * (pw 1074 * 2) = 1 := by
          have : pw 1075 = pw 1074 * 2 := by rw [show 1075 = 1074 + 1 from rfl, pw_add, pw_one]
          unfold tiny
          rw [this]
          exact Rat.inv_mul_cancel _ (by rw [← this]; exact Rat.ne_of_gt (pw_pos _))
        have t2 : (18014398509481984 : Rat) ≤ u * pw 1074 := by
          rw [eu]
          have : 18014398509481984 ≤ rootM w N * 2 ^ g := by
            have a1 : 18014398509481984 ≤ rootM w N := by
              have e : (2 : Nat) ^ 53 = 9007199254740992 := by decide
              unfold rootM
              omega
            exact Nat.le_trans a1 (Nat.le_mul_of_pos_right _ (Nat.two_pow_pos g))
          have := natQ_le.2 this
          rwa [Rat.natCast_ofNat] at this
        refine Rat.le_of_mul_le_mul_right ?_ hK
        grind
      rw [e53] at rn1 rn2
      rw [e50]
      have q1 : r ≤ u * (1 + 1 / 4503599627370496) := by grind
      have q2 : u * (1 - 1 / 4503599627370496) ≤ r := by grind
      have q3 : 0 ≤ u * (1 - 1 / 4503599627370496) := by grind
      have q4 : 0 ≤ r := Rat.le_trans q3 q2
      have a1 : r * r ≤ u * (1 + 1 / 4503599627370496) * (u * (1 + 1 / 4503599627370496)) := Rat.le_trans (Rat.mul_le_mul_of_nonneg_left q1 q4) (Rat.mul_le_mul_of_nonneg_right q1 (Rat.le_trans q4 q1))
      have a2 : u * (1 - 1 / 4503599627370496) * (u * (1 - 1 / 4503599627370496)) ≤ r * r := Rat.le_trans (Rat.mul_le_mul_of_nonneg_left q2 q3) (Rat.mul_le_mul_of_nonneg_right q2 q4)
      have a3 : u * (1 + 1 / 4503599627370496) * (u * (1 + 1 / 4503599627370496)) = u * u * ((1 + 1 / 4503599627370496) * (1 + 1 / 4503599627370496)) := by grind
      have a4 : u * (1 - 1 / 4503599627370496) * (u * (1 - 1 / 4503599627370496)) = u * u * ((1 - 1 / 4503599627370496) * (1 - 1 / 4503599627370496)) := by grind
      rw [a3] at a1
      rw [a4] at a2
      generalize u * u = U at *
      generalize r * r = Q at *
      constructor
      · grind
      · grind

end Go.Ev
/- Quotients keep order; numbers that are not below nought, the infinite one among them. -/
namespace Go.Ev
open Ieee

/-- X / d to the nearest whole number, between two the even one. -/
def rneD (X d : Nat) : Nat := X / d + (if d < 2 * (X % d) ∨ (d = 2 * (X % d) ∧ X / d % 2 = 1) then 1 else 0)

theorem rneD_lower (X d : Nat) : X / d ≤ rneD X d := Nat.le_add_right _ _
theorem rneD_upper (X d : Nat) : rneD X d ≤ X / d + 1 := by unfold rneD; split <;> omega

theorem rneD_mono {X d Y e : Nat} (hd : 0 < d) (he : 0 < e) (h : X * e ≤ Y * d) : rneD X d ≤ rneD Y e := by
  have h1 := Nat.div_add_mod X d
  have h2 := Nat.div_add_mod Y e
  have hq : X / d ≤ Y / e := by
    rw [Nat.le_div_iff_mul_le he]
    refine Nat.le_of_mul_le_mul_right ?_ hd
    calc X / d * e * d = d * (X / d) * e := by rw [Nat.mul_right_comm, Nat.mul_comm (X / d) d]
      _ ≤ X * e := Nat.mul_le_mul_right _ (Nat.mul_div_le X d)
      _ ≤ Y * d := h
  rcases Nat.lt_or_eq_of_le hq with g | g
  · exact Nat.le_trans (rneD_upper X d) (Nat.le_trans g (rneD_lower Y e))
  · have hr : X % d * e ≤ Y % e * d := by
      have a1 : X * e = d * (X / d) * e + X % d * e := by rw [← Nat.add_mul, h1]
      have a2 : Y * d = e * (Y / e) * d + Y % e * d := by rw [← Nat.add_mul, h2]
      have a3 : d * (X / d) * e = e * (Y / e) * d := by rw [g]; simp only [Nat.mul_left_comm, Nat.mul_comm]
      omega
    unfold rneD
    rw [g]
    by_cases c : d < 2 * (X % d) ∨ (d = 2 * (X % d) ∧ Y / e % 2 = 1)
    · rw [if_pos c]
      have : e < 2 * (Y % e) ∨ (e = 2 * (Y % e) ∧ Y / e % 2 = 1) := by
        rcases c with c | ⟨c1, c2⟩
        · left
          have b1 : d * e < 2 * (X % d) * e := Nat.mul_lt_mul_of_pos_right c he
          refine Nat.lt_of_mul_lt_mul_right (a := d) ?_
          calc e * d = d * e := Nat.mul_comm _ _
            _ < 2 * (X % d) * e := b1
            _ = 2 * (X % d * e) := Nat.mul_assoc _ _ _
            _ ≤ 2 * (Y % e * d) := Nat.mul_le_mul_left _ hr
            _ = 2 * (Y % e) * d := (Nat.mul_assoc _ _ _).symm
        · have b1 : e ≤ 2 * (Y % e) := by
            refine Nat.le_of_mul_le_mul_right ?_ hd
            calc e * d = d * e := Nat.mul_comm _ _
              _ = 2 * (X % d) * e := by rw [← c1]
              _ = 2 * (X % d * e) := Nat.mul_assoc _ _ _
              _ ≤ 2 * (Y % e * d) := Nat.mul_le_mul_left _ hr
              _ = 2 * (Y % e) * d := (Nat.mul_assoc _ _ _).symm
          rcases Nat.lt_or_eq_of_le b1 with b | b
          · exact .inl b
          · exact .inr ⟨b, c2⟩
      rw [if_pos this]
      exact Nat.le_refl _
    · rw [if_neg c]
      exact Nat.le_add_right _ _

/-- The rung of X / n. -/
def rgQ (l X n : Nat) : Nat := (lev l (X / n) - l) * 2 ^ 52 + rneD X (n * 2 ^ lev l (X / n))

theorem rgQ_mono {l X n Y k : Nat} (hn : 0 < n) (hk : 0 < k) (h : X * k ≤ Y * n) : rgQ l X n ≤ rgQ l Y k := by
  have hq : X / n ≤ Y / k := by
    rw [Nat.le_div_iff_mul_le hk]
    refine Nat.le_of_mul_le_mul_right ?_ hn
    calc X / n * k * n = n * (X / n) * k := by rw [Nat.mul_right_comm, Nat.mul_comm (X / n) n]
      _ ≤ X * k := Nat.mul_le_mul_right _ (Nat.mul_div_le X n)
      _ ≤ Y * n := h
  have hl := lev_mono l hq
  have g1 := lev_ge l (X / n)
  unfold rgQ
  have up : rneD X (n * 2 ^ lev l (X / n)) ≤ 2 ^ 53 := by
    have := rneD_upper X (n * 2 ^ lev l (X / n))
    have h2 := div_lt_lev l (X / n)
    rw [Nat.div_div_eq_div_mul] at h2
    omega
  rcases Nat.lt_or_eq_of_le hl with hl | hl
  · have lo : 2 ^ 52 ≤ rneD Y (k * 2 ^ lev l (Y / k)) := by
      refine Nat.le_trans ?_ (rneD_lower _ _)
      rw [← Nat.div_div_eq_div_mul, Nat.le_div_iff_mul_le (Nat.two_pow_pos _), ← Nat.pow_add]
      have hlev : lev l (Y / k) = (Y / k).log2 - 52 := by unfold lev at hl ⊢; omega
      have hp : 52 < (Y / k).log2 := by unfold lev at hl; omega
      have hx : Y / k ≠ 0 := fun e => by rw [e] at hp; simp at hp
      refine Nat.le_trans (Nat.pow_le_pow_right (by decide) ?_) (Nat.log2_self_le hx)
      omega
    have c : (lev l (X / n) - l + 1) * 2 ^ 52 ≤ (lev l (Y / k) - l) * 2 ^ 52 := Nat.mul_le_mul_right _ (by omega)
    have d : (2 : Nat) ^ 53 = 2 ^ 52 + 2 ^ 52 := by decide
    rw [Nat.add_mul] at c
    omega
  · rw [hl]
    refine Nat.add_le_add_left (rneD_mono (Nat.mul_pos hn (Nat.two_pow_pos _)) (Nat.mul_pos hk (Nat.two_pow_pos _)) ?_) _
    calc X * (k * 2 ^ lev l (Y / k)) = X * k * 2 ^ lev l (Y / k) := (Nat.mul_assoc _ _ _).symm
      _ ≤ Y * n * 2 ^ lev l (Y / k) := Nat.mul_le_mul_right _ h
      _ = Y * (n * 2 ^ lev l (Y / k)) := Nat.mul_assoc _ _ _

theorem log2_eq {x k : Nat} (h1 : 2 ^ k ≤ x) (h2 : x < 2 ^ (k + 1)) : x.log2 = k := by
  have hx : x ≠ 0 := by have := Nat.two_pow_pos k; omega
  exact Nat.le_antisymm (Nat.le_of_lt_succ ((Nat.log2_lt hx).2 h2)) ((Nat.le_log2 hx).2 h1)

/-- What is written of a quotient is rounded as the quotient itself. -/
theorem quo_rung {D n g l : Nat} (hn : 0 < n) (hD : 2 ^ 53 * n ≤ D) : rgN l (quoM D n * 2 ^ g) = rgQ l (D * 2 ^ (g + 1)) n := by
  have hq : 2 ^ 53 ≤ D / n := (Nat.le_div_iff_mul_le hn).2 hD
  have hq0 : D / n ≠ 0 := by have := Nat.two_pow_pos 53; omega
  have hr := Nat.mod_lt D hn
  have h1 := Nat.div_add_mod D n
  have hs : (D % n != 0).toNat ≤ 1 := Bool.toNat_le _
  have la := Nat.log2_self_le hq0
  have lb : D / n < 2 ^ ((D / n).log2 + 1) := Nat.lt_log2_self
  have lc : 53 ≤ (D / n).log2 := (Nat.le_log2 hq0).2 hq
  -- the levels are the same
  have e1 : (quoM D n * 2 ^ g).log2 = (D / n).log2 + 1 + g := by
    have hM : quoM D n ≠ 0 := by unfold quoM; omega
    rw [log2_mul_pow g hM]
    congr 1
    apply log2_eq
    · unfold quoM; rw [Nat.pow_succ]; omega
    · unfold quoM
      rw [Nat.pow_succ] at lb ⊢
      rw [Nat.pow_succ]
      omega
  have e2 : (D * 2 ^ (g + 1) / n).log2 = (D / n).log2 + 1 + g := by
    apply log2_eq
    · rw [Nat.le_div_iff_mul_le hn, Nat.add_assoc, Nat.add_comm 1 g, Nat.pow_add, Nat.mul_right_comm]
      refine Nat.mul_le_mul_right _ ?_
      exact Nat.le_trans (Nat.mul_le_mul_right n la) (Nat.div_mul_le_self D n)
    · rw [Nat.div_lt_iff_lt_mul hn, show (D / n).log2 + 1 + g + 1 = ((D / n).log2 + 1) + (g + 1) by omega, Nat.pow_add 2 ((D / n).log2 + 1), Nat.mul_right_comm]
      refine Nat.mul_lt_mul_of_pos_right ?_ (Nat.two_pow_pos _)
      exact (Nat.div_lt_iff_lt_mul hn).1 lb
  have el : lev l (D * 2 ^ (g + 1) / n) = lev l (quoM D n * 2 ^ g) := by unfold lev; rw [e1, e2]
  have hlev : g + 2 ≤ lev l (quoM D n * 2 ^ g) := by unfold lev; rw [e1]; omega
  unfold rgN rgQ
  rw [el]
  congr 1
  obtain ⟨t, ht⟩ : ∃ t, lev l (quoM D n * 2 ^ g) = g + (t + 2) := ⟨lev l (quoM D n * 2 ^ g) - (g + 2), by omega⟩
  rw [ht]
  have r1 : rne (quoM D n * 2 ^ g) (g + (t + 2)) = rne (quoM D n) (t + 2) := by rw [Nat.add_comm g]; exact rne_shift _ _ _
  have hG : 0 < 2 ^ (g + 1) := Nat.two_pow_pos _
  have r2 : rneD (D * 2 ^ (g + 1)) (n * 2 ^ (g + (t + 2))) = rneD D (n * 2 ^ (t + 1)) := by
    have e : n * 2 ^ (g + (t + 2)) = n * 2 ^ (t + 1) * 2 ^ (g + 1) := by rw [Nat.mul_assoc, ← Nat.pow_add]; congr 2; omega
    have hd : 0 < n * 2 ^ (t + 1) := Nat.mul_pos hn (Nat.two_pow_pos _)
    apply Nat.le_antisymm
    · refine rneD_mono (by rw [e]; exact Nat.mul_pos hd hG) hd ?_
      rw [e]; simp only [Nat.mul_assoc, Nat.mul_left_comm, Nat.mul_comm, Nat.le_refl]
    · refine rneD_mono hd (by rw [e]; exact Nat.mul_pos hd hG) ?_
      rw [e]; simp only [Nat.mul_assoc, Nat.mul_left_comm, Nat.mul_comm, Nat.le_refl]
  rw [r1, r2]
  -- at whole numbers: 2 q + s over 4 T against D over 2 n T
  unfold rne rneD
  have hT : 0 < 2 ^ t := Nat.two_pow_pos t
  have p1 : (2 : Nat) ^ (t + 1) = 2 * 2 ^ t := by rw [Nat.pow_succ, Nat.mul_comm]
  have p2 : (2 : Nat) ^ (t + 2) = 4 * 2 ^ t := by rw [Nat.pow_add, Nat.mul_comm]
  rw [p1, p2]
  generalize 2 ^ t = T at *
  have hM : quoM D n = 2 * (D / n) + (D % n != 0).toNat := rfl
  have hd2 : D / (n * (2 * T)) = D / n / (2 * T) := (Nat.div_div_eq_div_mul _ _ _).symm
  have hq2 := Nat.div_add_mod (D / n) (2 * T)
  have hm2 : D / n % (2 * T) < 2 * T := Nat.mod_lt _ (by omega)
  have dq : quoM D n / (4 * T) = D / n / (2 * T) ∧ quoM D n % (4 * T) = 2 * (D / n % (2 * T)) + (D % n != 0).toNat := by
    have hdiv : quoM D n = (4 * T) * (D / n / (2 * T)) + (2 * (D / n % (2 * T)) + (D % n != 0).toNat) := by
      have e4 : 4 * T * (D / n / (2 * T)) = 2 * (2 * T * (D / n / (2 * T))) := by
        rw [← Nat.mul_assoc 2 (2 * T), ← Nat.mul_assoc 2 2 T]
      rw [hM, e4]
      omega
    have hlt : 2 * (D / n % (2 * T)) + (D % n != 0).toNat < 4 * T := by omega
    constructor
    · rw [hdiv, Nat.mul_add_div (by omega), Nat.div_eq_of_lt hlt, Nat.add_zero]
    · rw [hdiv, Nat.mul_add_mod_self_left, Nat.mod_eq_of_lt hlt]
  have dm : D % (n * (2 * T)) = n * (D / n % (2 * T)) + D % n := by
    have := Nat.mod_mul (x := D) (a := n) (b := 2 * T)
    omega
  rw [dq.1, dq.2, hd2, dm]
  generalize hb : D / n % (2 * T) = b at *
  generalize D / n / (2 * T) = Q at *
  have hsr : (D % n != 0).toNat = 0 ∧ D % n = 0 ∨ (D % n != 0).toNat = 1 ∧ 0 < D % n := by
    by_cases g : D % n = 0
    · left; rw [g]; exact ⟨rfl, rfl⟩
    · right
      have : (D % n != 0) = true := by simpa using g
      rw [this]; exact ⟨rfl, Nat.pos_of_ne_zero g⟩
  generalize hrr : D % n = r at *
  generalize (r != 0).toNat = s at *
  have big : (4 * T < 2 * (2 * b + s)) ↔ (n * (2 * T) < 2 * (n * b + r)) := by
    rcases hsr with ⟨e1, e2⟩ | ⟨e1, e2⟩
    · rw [e1, e2]
      have : n * (2 * T) < 2 * (n * b + 0) ↔ n * T < n * b := by
        rw [Nat.add_zero, Nat.mul_left_comm]
        omega
      rw [this, Nat.mul_lt_mul_left hn]
      omega
    · rw [e1]
      have : n * (2 * T) < 2 * (n * b + r) ↔ T ≤ b := by
        rw [Nat.mul_left_comm]
        constructor
        · intro h
          refine Nat.not_lt.1 fun hb => ?_
          have : n * (b + 1) ≤ n * T := Nat.mul_le_mul_left _ hb
          rw [Nat.mul_add, Nat.mul_one] at this
          omega
        · intro h
          have : n * T ≤ n * b := Nat.mul_le_mul_left _ h
          omega
      rw [this]
      omega
  have tie : (4 * T = 2 * (2 * b + s)) ↔ (n * (2 * T) = 2 * (n * b + r)) := by
    rcases hsr with ⟨e1, e2⟩ | ⟨e1, e2⟩
    · rw [e1, e2]
      have : n * (2 * T) = 2 * (n * b + 0) ↔ n * T = n * b := by
        rw [Nat.add_zero, Nat.mul_left_comm]
        omega
      rw [this, Nat.mul_left_cancel_iff hn]
      omega
    · rw [e1]
      constructor
      · intro h; omega
      · intro h
        exfalso
        have h' : n * T = n * b + r := by
          rw [Nat.mul_left_comm] at h
          omega
        have : n * b < n * T := by omega
        have hbT : b < T := Nat.lt_of_mul_lt_mul_left this
        have : n * (b + 1) ≤ n * T := Nat.mul_le_mul_left _ hbT
        rw [Nat.mul_add, Nat.mul_one] at this
        omega
  by_cases c : 4 * T < 2 * (2 * b + s) ∨ (4 * T = 2 * (2 * b + s) ∧ Q % 2 = 1)
  · rw [if_pos c, if_pos (c.imp big.1 fun h => ⟨tie.1 h.1, h.2⟩)]
  · rw [if_neg c, if_neg (fun h => c (h.imp big.2 fun h => ⟨tie.2 h.1, h.2⟩))]

end Go.Ev
/- Numbers that are not below nought, the infinite one among them: sums, products, quotients, and their order. -/
namespace Go.Ev
open Ieee

/-- Not below nought, and no no-number. -/
def nk (x : Fl) (k : Int) : Prop := fkey x = some k ∧ 0 ≤ k

theorem key_le_top {x : Fl} {k : Int} (h : fkey x = some k) : k ≤ topKey ∧ -topKey ≤ k := by
  have tp := topKey_pos
  cases x with
  | none => cases h
  | some b =>
    have h' : dkey (f64.read b) = some k := h
    cases hb : f64.read b with
    | nan s t => rw [hb] at h'; simp [dkey] at h'
    | infinity s =>
      rw [hb] at h'
      simp only [dkey, Option.some.injEq] at h'
      cases s <;> simp at h' <;> omega
    | number s m e =>
      have := key_bound hb
      rw [hb] at h'
      simp only [dkey, Option.some.injEq] at h'
      omega

theorem nk_fin {x : Fl} {k : Int} (h : nk x k) (hk : k < topKey) : fin x k := ⟨h.1, by have := topKey_pos; have := h.2; omega, hk⟩

theorem top_inf {b : Nat} (h : fkey (some b) = some topKey) : f64.read b = .infinity false := by
  have tp := topKey_pos
  have h' : dkey (f64.read b) = some topKey := h
  cases hb : f64.read b with
  | nan s t => rw [hb] at h'; simp [dkey] at h'
  | infinity s =>
    rw [hb] at h'
    simp only [dkey, Option.some.injEq] at h'
    cases s with
    | false => rfl
    | true => simp at h'; omega
  | number s m e =>
    have := key_bound hb
    rw [hb] at h'
    simp only [dkey, Option.some.injEq] at h'
    omega

theorem key_write_inf : fkey (cls (f64.write (.infinity false))) = some topKey := by
  rw [cls_key]
  show dkey (f64.read (f64.word false f64.infRung)) = _
  rw [key_word false (Nat.le_refl _), if_neg (Nat.lt_irrefl _)]
  rfl

theorem nk_or {x : Fl} {k : Int} (h : nk x k) : fin x k ∨ k = topKey := by
  have := (key_le_top h.1).1
  rcases Int.lt_or_eq_of_le this with g | g
  · exact .inl (nk_fin h g)
  · exact .inr g

theorem rndL_nonneg (l : Nat) {z : Int} (h : 0 ≤ z) : 0 ≤ rndL l z := by
  have := rndL_mono l h
  rwa [rndL_zero] at this

theorem nk_add {x y : Fl} {a b : Int} (hx : nk x a) (hy : nk y b) : ∃ c, nk (R.fadd x y) c ∧ (c = topKey ∧ (a = topKey ∨ b = topKey) ∨ fin x a ∧ fin y b ∧ c = rndL 0 (a + b)) := by
  have tp := topKey_pos
  have fini : fin x a → fin y b → ∃ c, nk (R.fadd x y) c ∧ (c = topKey ∧ (a = topKey ∨ b = topKey) ∨ fin x a ∧ fin y b ∧ c = rndL 0 (a + b)) := fun h1 h2 =>
    ⟨_, ⟨key_add h1 h2, rndL_nonneg 0 (by have := hx.2; have := hy.2; omega)⟩, .inr ⟨h1, h2, rfl⟩⟩
  cases x with
  | none => cases hx.1
  | some p =>
    cases y with
    | none => cases hy.1
    | some q =>
      rcases nk_or hx with h1 | h1
      · rcases nk_or hy with h2 | h2
        · exact fini h1 h2
        · subst h2
          have hq := top_inf hy.1
          obtain ⟨s, m, e, hp, _, _⟩ := fin_read h1
          refine ⟨topKey, ⟨?_, Int.le_of_lt tp⟩, .inl ⟨rfl, .inr rfl⟩⟩
          show fkey (match f64.add p q with | some r => cls r | none => none) = _
          unfold Format.add
          rw [hp, hq]
          exact key_write_inf
      · subst h1
        have hp := top_inf hx.1
        refine ⟨topKey, ⟨?_, Int.le_of_lt tp⟩, .inl ⟨rfl, .inl rfl⟩⟩
        show fkey (match f64.add p q with | some r => cls r | none => none) = _
        unfold Format.add
        rw [hp]
        rcases nk_or hy with h2 | h2
        · obtain ⟨s, m, e, hq, _, _⟩ := fin_read h2
          rw [hq]
          exact key_write_inf
        · subst h2
          have hq := top_inf hy.1
          rw [hq]
          exact key_write_inf

theorem add_mono {x y u v : Fl} {a b c d : Int} (hx : nk x a) (hy : nk y b) (hu : nk u c) (hv : nk v d) (h1 : a ≤ c) (h2 : b ≤ d) :
    ∃ k j, nk (R.fadd x y) k ∧ nk (R.fadd u v) j ∧ k ≤ j := by
  obtain ⟨k, hk, ck⟩ := nk_add hx hy
  obtain ⟨j, hj, cj⟩ := nk_add hu hv
  refine ⟨k, j, hk, hj, ?_⟩
  rcases cj with ⟨rfl, _⟩ | ⟨fu, fv', rfl⟩
  · exact (key_le_top hk.1).1
  · rcases ck with ⟨_, e | e⟩ | ⟨_, _, rfl⟩
    · have := fu.2.2; omega
    · have := fv'.2.2; omega
    · exact rndL_mono 0 (by omega)

/-- A sum of two that are not below nought is not below either. -/
theorem add_ge {x y : Fl} {a b : Int} (hx : nk x a) (hy : nk y b) : ∃ k, nk (R.fadd x y) k ∧ a ≤ k ∧ b ≤ k := by
  obtain ⟨k, hk, ck⟩ := nk_add hx hy
  refine ⟨k, hk, ?_⟩
  rcases ck with ⟨rfl, _⟩ | ⟨f1, f2, rfl⟩
  · exact ⟨(key_le_top hx.1).1, (key_le_top hy.1).1⟩
  · have p0 : ((2 ^ 0 : Nat) : Int) = 1 := rfl
    have h1 := hx.2
    have h2 := hy.2
    exact ⟨le_rndL 0 (fin_rep f1) (by rw [p0]; omega), le_rndL 0 (fin_rep f2) (by rw [p0]; omega)⟩

theorem nk_mul {x y : Fl} {a b : Int} (hx : nk x a) (hy : fin y b) (hb : 0 < b) : ∃ c, nk (R.fmul x y) c ∧ (c = topKey ∧ a = topKey ∨ fin x a ∧ c = rndL 1074 (a * b)) := by
  have tp := topKey_pos
  rcases nk_or hx with h1 | h1
  · exact ⟨_, ⟨key_mul h1 hy, rndL_nonneg _ (Int.mul_nonneg hx.2 (Int.le_of_lt hb))⟩, .inr ⟨h1, rfl⟩⟩
  · subst h1
    refine ⟨topKey, ⟨?_, Int.le_of_lt tp⟩, .inl ⟨rfl, rfl⟩⟩
    cases x with
    | none => cases hx.1
    | some p =>
      cases y with
      | none => cases hy.1
      | some q =>
        have hp := top_inf hx.1
        obtain ⟨t, n, j, hq, _, he⟩ := fin_read hy
        have hn : n ≠ 0 := by
          intro e; subst e
          rw [Nat.zero_mul] at he
          unfold sg at he
          cases t <;> simp at he <;> omega
        have ht : t = false := by
          cases t with
          | false => rfl
          | true =>
            generalize n * 2 ^ (j + 1074).toNat = M at he
            unfold sg at he
            simp only [if_true] at he
            omega
        show fkey (match f64.mul p q with | some r => cls r | none => none) = _
        unfold Format.mul
        rw [hp, hq, ht]
        simp only [Datum.product, if_neg hn]
        exact key_write_inf

theorem mul_mono {x u y : Fl} {a c b : Int} (hx : nk x a) (hu : nk u c) (hy : fin y b) (hb : 0 < b) (h : a ≤ c) : ∃ k j, nk (R.fmul x y) k ∧ nk (R.fmul u y) j ∧ k ≤ j := by
  obtain ⟨k, hk, ck⟩ := nk_mul hx hy hb
  obtain ⟨j, hj, cj⟩ := nk_mul hu hy hb
  refine ⟨k, j, hk, hj, ?_⟩
  rcases cj with ⟨rfl, _⟩ | ⟨fu, rfl⟩
  · exact (key_le_top hk.1).1
  · rcases ck with ⟨_, e⟩ | ⟨_, rfl⟩
    · have := fu.2.2; omega
    · exact rndL_mono _ (Int.mul_le_mul_of_nonneg_right h (Int.le_of_lt hb))

theorem sg_pos {s : Bool} {n : Nat} {a : Int} (h : a = sg s n) (h0 : 0 < a) : s = false ∧ n ≠ 0 ∧ a.toNat = n := by
  unfold sg at h
  cases s with
  | false =>
    have h' : a = (n : Int) := h
    exact ⟨rfl, by omega, by omega⟩
  | true =>
    have h' : a = -(n : Int) := h
    exfalso; omega

theorem sg_eq_zero {s : Bool} {n : Nat} (h : sg s n = 0) : n = 0 := by
  unfold sg at h
  cases s with
  | false =>
    have h' : (n : Int) = 0 := h
    omega
  | true =>
    have h' : -(n : Int) = 0 := h
    omega

theorem mul_five (m n a b c : Nat) : m * a * b * (n * c) = m * n * (a * b * c) := by
  simp only [Nat.mul_assoc, Nat.mul_left_comm]
theorem mul_four (m n a b : Nat) : m * a * b * n = m * n * (a * b) := by
  simp only [Nat.mul_comm, Nat.mul_left_comm]

theorem div_key {x y : Fl} {a b : Int} (hx : fin x a) (ha : 0 < a) (hy : fin y b) (hb : 0 < b) :
    ∃ L : Nat, ∀ l, L ≤ l → ∃ X n, 0 < n ∧ fkey (R.fdiv x y) = some ((capR (rgQ l X n) : Nat) : Int) ∧ X * b.toNat = a.toNat * 2 ^ (1074 + l) * n := by
  cases x with
  | none => cases hx.1
  | some P =>
    cases y with
    | none => cases hy.1
    | some Q =>
      obtain ⟨s, m, i, hP, hi, ea⟩ := fin_read hx
      obtain ⟨t, n, j, hQ, hj, eb⟩ := fin_read hy
      obtain ⟨rfl, hm2, ea'⟩ := sg_pos ea ha
      obtain ⟨rfl, hn2, eb'⟩ := sg_pos eb hb
      have hm0 : m ≠ 0 := fun e => hm2 (by rw [e, Nat.zero_mul])
      have hn0 : n ≠ 0 := fun e => hn2 (by rw [e, Nat.zero_mul])
      have hnp : 0 < n := Nat.pos_of_ne_zero hn0
      obtain ⟨more, hmore⟩ : ∃ k : Nat, k = 54 + n.log2 - m.log2 := ⟨_, rfl⟩
      obtain ⟨D, hDd⟩ : ∃ D : Nat, D = m <<< more := ⟨_, rfl⟩
      have hdiv : f64.div P Q = some (f64.nearest false (quoM D n) (i - j - more - 1)) := by
        unfold Format.div
        rw [hP, hQ]
        have e54 : f64.fractionBits + 2 = 54 := rfl
        simp only [Datum.quotient, if_neg hn0, e54, ← hmore, ← hDd]
        rfl
      have hD : 2 ^ 53 * n ≤ D := by
        have l1 : 2 ^ m.log2 ≤ m := Nat.log2_self_le hm0
        have l2 : n < 2 ^ (n.log2 + 1) := Nat.lt_log2_self
        have l3 : m.log2 < 53 := (Nat.log2_lt hm0).2 (read_number hP).1
        rw [hDd, Nat.shiftLeft_eq]
        refine Nat.le_trans (Nat.mul_le_mul_left _ (Nat.le_of_lt l2)) (Nat.le_trans ?_ (Nat.mul_le_mul_right _ l1))
        rw [← Nat.pow_add, ← Nat.pow_add]
        exact Nat.pow_le_pow_right (by decide) (by omega)
      refine ⟨(-1074 - (i - j - more - 1)).toNat, fun l hl => ?_⟩
      obtain ⟨g, hg⟩ : ∃ g : Nat, (g : Int) = i - j - more - 1 + 1074 + l := ⟨(i - j - more - 1 + 1074 + l).toNat, by omega⟩
      refine ⟨D * 2 ^ (g + 1), n, hnp, ?_, ?_⟩
      · show fkey (match f64.div P Q with | some r => cls r | none => none) = _
        rw [hdiv]
        simp only
        rw [cls_key, key_nearest false (B := -1074 - l) (by omega) (by omega)]
        have e0 : ((-1074 : Int) - (-1074 - (l : Int))).toNat = l := by omega
        have e1 : (i - j - more - 1 - (-1074 - (l : Int))).toNat = g := by omega
        rw [e0, e1]
        refine congrArg some ?_
        show rndL l ((quoM D n * 2 ^ g : Nat) : Int) = _
        unfold rndL
        have hd : decide (((quoM D n * 2 ^ g : Nat) : Int) < 0) = false := by
          rw [decide_eq_false_iff_not]; omega
        rw [hd, Int.natAbs_natCast, quo_rung hnp hD]
        rfl
      · rw [ea', eb', hDd, Nat.shiftLeft_eq]
        refine (mul_five _ _ _ _ _).trans (Eq.trans ?_ (mul_four _ _ _ _).symm)
        rw [← Nat.pow_add, ← Nat.pow_add, ← Nat.pow_add]
        have : more + (g + 1) + (j + 1074).toNat = (i + 1074).toNat + (1074 + l) := by omega
        rw [this]

theorem div_zero_key {x y : Fl} {b : Int} (hx : fin x 0) (hy : fin y b) (hb : 0 < b) : fkey (R.fdiv x y) = some 0 := by
  cases x with
  | none => cases hx.1
  | some P =>
    cases y with
    | none => cases hy.1
    | some Q =>
      obtain ⟨s, m, i, hP, hi, ea⟩ := fin_read hx
      obtain ⟨t, n, j, hQ, hj, eb⟩ := fin_read hy
      obtain ⟨rfl, hn2, _⟩ := sg_pos eb hb
      have hn0 : n ≠ 0 := fun e => hn2 (by rw [e, Nat.zero_mul])
      have hm0 : m = 0 := by
        have : m * 2 ^ (i + 1074).toNat = 0 := sg_eq_zero ea.symm
        rcases Nat.mul_eq_zero.1 this with h | h
        · exact h
        · have := Nat.two_pow_pos (i + 1074).toNat; omega
      subst hm0
      show fkey (match f64.div P Q with | some r => cls r | none => none) = _
      have hdiv : ∃ pl, f64.div P Q = some (f64.nearest (s ^^ false) 0 pl) := by
        unfold Format.div
        rw [hP, hQ]
        simp only [Datum.quotient, if_neg hn0, Nat.zero_shiftLeft, Nat.zero_div, Nat.zero_mod]
        exact ⟨_, rfl⟩
      obtain ⟨pl, hdiv⟩ := hdiv
      rw [hdiv]
      simp only
      rw [cls_key, key_nearest _ (B := min pl (-1074)) (by omega) (by omega), Nat.zero_mul]
      have : sg (s ^^ false) 0 = 0 := by cases s <;> rfl
      rw [this, rndL_zero]

theorem nk_div {x y : Fl} {a b : Int} (hx : nk x a) (hy : fin y b) (hb : 0 < b) : ∃ c, nk (R.fdiv x y) c ∧ (a = topKey → c = topKey) := by
  have tp := topKey_pos
  rcases nk_or hx with h1 | h1
  · have hlt := h1.2.2
    rcases Int.lt_or_eq_of_le hx.2 with g | g
    · obtain ⟨L, h⟩ := div_key h1 g hy hb
      obtain ⟨X, n, _, hk, _⟩ := h L (Nat.le_refl _)
      exact ⟨_, ⟨hk, Int.natCast_nonneg _⟩, fun e => by omega⟩
    · subst g
      exact ⟨0, ⟨div_zero_key h1 hy hb, Int.le_refl _⟩, fun e => by omega⟩
  · subst h1
    refine ⟨topKey, ⟨?_, Int.le_of_lt tp⟩, fun _ => rfl⟩
    cases x with
    | none => cases hx.1
    | some p =>
      cases y with
      | none => cases hy.1
      | some q =>
        have hp := top_inf hx.1
        obtain ⟨t, n, j, hq, _, he⟩ := fin_read hy
        obtain ⟨rfl, _, _⟩ := sg_pos he hb
        show fkey (match f64.div p q with | some r => cls r | none => none) = _
        unfold Format.div
        rw [hp, hq]
        exact key_write_inf

theorem div_mono {x u y : Fl} {a c b : Int} (hx : nk x a) (hu : nk u c) (hy : fin y b) (hb : 0 < b) (h : a ≤ c) : ∃ k j, nk (R.fdiv x y) k ∧ nk (R.fdiv u y) j ∧ k ≤ j := by
  obtain ⟨k, hk, _⟩ := nk_div hx hy hb
  obtain ⟨j, hj, cj⟩ := nk_div hu hy hb
  refine ⟨k, j, hk, hj, ?_⟩
  rcases nk_or hu with fu | rfl
  · have fx : fin x a := nk_fin hx (by have := fu.2.2; omega)
    rcases Int.lt_or_eq_of_le hx.2 with g | g
    · obtain ⟨L1, h1⟩ := div_key fx g hy hb
      obtain ⟨L2, h2⟩ := div_key fu (by omega) hy hb
      obtain ⟨X, n, hn, e1, q1⟩ := h1 (max L1 L2) (Nat.le_max_left _ _)
      obtain ⟨Y, n2, hn2, e2, q2⟩ := h2 (max L1 L2) (Nat.le_max_right _ _)
      rw [hk.1] at e1
      rw [hj.1] at e2
      cases e1
      cases e2
      refine Int.ofNat_le.2 (capR_mono (rgQ_mono hn hn2 ?_))
      have hbp : 0 < b.toNat := by omega
      refine Nat.le_of_mul_le_mul_right ?_ hbp
      have hac : a.toNat ≤ c.toNat := by omega
      generalize 2 ^ (1074 + max L1 L2) = W at *
      calc X * n2 * b.toNat = X * b.toNat * n2 := Nat.mul_right_comm _ _ _
        _ = a.toNat * W * n * n2 := by rw [q1]
        _ ≤ c.toNat * W * n * n2 := Nat.mul_le_mul_right _ (Nat.mul_le_mul_right _ (Nat.mul_le_mul_right _ hac))
        _ = c.toNat * W * n2 * n := Nat.mul_right_comm _ _ _
        _ = Y * b.toNat * n := by rw [q2]
        _ = Y * n * b.toNat := Nat.mul_right_comm _ _ _
    · subst g
      have := (hk.1.symm.trans (div_zero_key fx hy hb))
      cases this
      exact hj.2
  · rw [cj rfl]
    exact (key_le_top hk.1).1

theorem ediv_pow_le {a b : Int} (n : Nat) (h : a ≤ b) : a / ((2 ^ n : Nat) : Int) ≤ b / ((2 ^ n : Nat) : Int) := Int.ediv_le_ediv (Int.natCast_pos.2 (Nat.two_pow_pos n)) h
theorem ediv_pow_nonneg {a : Int} (n : Nat) (h : 0 ≤ a) : 0 ≤ a / ((2 ^ n : Nat) : Int) := Int.ediv_nonneg h (Int.natCast_nonneg _)

set_option exponentiation.threshold 3000 in
/-- A whole part of a number from nought on keeps order. -/
theorem flint_mono {x y : Fl} {a b : Int} (hx : fin x a) (hy : fin y b) (h0 : 0 ≤ a) (h : a ≤ b) : ∃ i j, flint x = some i ∧ flint y = some j ∧ 0 ≤ i ∧ i ≤ j :=
  ⟨_, _, flint_nonneg hx h0, flint_nonneg hy (by omega), ediv_pow_nonneg _ h0, ediv_pow_le _ h⟩

end Go.Ev
/- Products and reciprocals, infinite numbers among them: their signs and their order. -/
namespace Go.Ev
open Ieee

theorem sg_ne {s : Bool} {n : Nat} {a : Int} (h : a = sg s n) (h0 : a ≠ 0) : s = decide (a < 0) ∧ n ≠ 0 ∧ a.natAbs = n := by
  unfold sg at h
  cases s with
  | false =>
    have h' : a = (n : Int) := h
    have : ¬ a < 0 := by omega
    exact ⟨by simp [this], by omega, by omega⟩
  | true =>
    have h' : a = -(n : Int) := h
    have : a < 0 := by omega
    exact ⟨by simp [this], by omega, by omega⟩

theorem rndL_sg (l : Nat) (s : Bool) {M : Nat} (h : M ≠ 0) : rndL l (sg s M) = sg s (capR (rgN l M)) := by
  unfold rndL
  cases s with
  | false =>
    have h1 : sg false M = (M : Int) := rfl
    have h2 : decide ((M : Int) < 0) = false := by rw [decide_eq_false_iff_not]; omega
    rw [h1, h2, Int.natAbs_natCast]
  | true =>
    have h1 : sg true M = -(M : Int) := rfl
    have h2 : decide (-(M : Int) < 0) = true := by rw [decide_eq_true_iff]; omega
    rw [h1, h2, Int.natAbs_neg, Int.natAbs_natCast]

theorem div_key_sg {x y : Fl} {a b : Int} (hx : fin x a) (ha : a ≠ 0) (hy : fin y b) (hb : b ≠ 0) :
    ∃ L : Nat, ∀ l, L ≤ l → ∃ X n, 0 < n ∧ fkey (R.fdiv x y) = some (sg (decide (a < 0) ^^ decide (b < 0)) (capR (rgQ l X n))) ∧ X * b.natAbs = a.natAbs * 2 ^ (1074 + l) * n := by
  cases x with
  | none => cases hx.1
  | some P =>
    cases y with
    | none => cases hy.1
    | some Q =>
      obtain ⟨s, m, i, hP, hi, ea⟩ := fin_read hx
      obtain ⟨t, n, j, hQ, hj, eb⟩ := fin_read hy
      obtain ⟨es, hm2, ea'⟩ := sg_ne ea ha
      obtain ⟨et, hn2, eb'⟩ := sg_ne eb hb
      rw [← es, ← et]
      have hm0 : m ≠ 0 := fun e => hm2 (by rw [e, Nat.zero_mul])
      have hn0 : n ≠ 0 := fun e => hn2 (by rw [e, Nat.zero_mul])
      have hnp : 0 < n := Nat.pos_of_ne_zero hn0
      obtain ⟨more, hmore⟩ : ∃ k : Nat, k = 54 + n.log2 - m.log2 := ⟨_, rfl⟩
      obtain ⟨D, hDd⟩ : ∃ D : Nat, D = m <<< more := ⟨_, rfl⟩
      have hdiv : f64.div P Q = some (f64.nearest (s ^^ t) (quoM D n) (i - j - more - 1)) := by
        unfold Format.div
        rw [hP, hQ]
        have e54 : f64.fractionBits + 2 = 54 := rfl
        simp only [Datum.quotient, if_neg hn0, e54, ← hmore, ← hDd]
        rfl
      have hD : 2 ^ 53 * n ≤ D := by
        have l1 : 2 ^ m.log2 ≤ m := Nat.log2_self_le hm0
        have l2 : n < 2 ^ (n.log2 + 1) := Nat.lt_log2_self
        have l3 : m.log2 < 53 := (Nat.log2_lt hm0).2 (read_number hP).1
        rw [hDd, Nat.shiftLeft_eq]
        refine Nat.le_trans (Nat.mul_le_mul_left _ (Nat.le_of_lt l2)) (Nat.le_trans ?_ (Nat.mul_le_mul_right _ l1))
        rw [← Nat.pow_add, ← Nat.pow_add]
        exact Nat.pow_le_pow_right (by decide) (by omega)
      have hM : quoM D n ≠ 0 := by
        have : 2 * 2 ^ 53 ≤ quoM D n := quoM_ge hnp hD
        have p := Nat.two_pow_pos 53
        omega
      refine ⟨(-1074 - (i - j - more - 1)).toNat, fun l hl => ?_⟩
      obtain ⟨g, hg⟩ : ∃ g : Nat, (g : Int) = i - j - more - 1 + 1074 + l := ⟨(i - j - more - 1 + 1074 + l).toNat, by omega⟩
      refine ⟨D * 2 ^ (g + 1), n, hnp, ?_, ?_⟩
      · show fkey (match f64.div P Q with | some r => cls r | none => none) = _
        rw [hdiv]
        simp only
        rw [cls_key, key_nearest _ (B := -1074 - l) (by omega) (by omega)]
        have e0 : ((-1074 : Int) - (-1074 - (l : Int))).toNat = l := by omega
        have e1 : (i - j - more - 1 - (-1074 - (l : Int))).toNat = g := by omega
        rw [e0, e1]
        refine congrArg some ?_
        rw [rndL_sg l _ (Nat.mul_ne_zero hM (Nat.ne_of_gt (Nat.two_pow_pos g))), quo_rung hnp hD]
      · rw [ea', eb', hDd, Nat.shiftLeft_eq]
        refine (mul_five _ _ _ _ _).trans (Eq.trans ?_ (mul_four _ _ _ _).symm)
        rw [← Nat.pow_add, ← Nat.pow_add, ← Nat.pow_add]
        have : more + (g + 1) + (j + 1074).toNat = (i + 1074).toNat + (1074 + l) := by omega
        rw [this]

set_option exponentiation.threshold 3000 in
theorem rvN_bound {t : Nat} (h : t < f64.infRung) : rvN t ≤ 2 ^ 2098 := by
  have e : 2098 = 53 + 2045 := rfl
  rw [e]
  rw [infRung_eq] at h
  unfold rvN
  split
  · rename_i g
    exact Nat.le_of_lt (Nat.lt_of_lt_of_le g (Nat.pow_le_pow_right (by decide) (by decide)))
  · have hb : t / 2 ^ 52 < 2047 := by
      rw [Nat.div_lt_iff_lt_mul (Nat.two_pow_pos 52)]
      exact h
    have hf : t % 2 ^ 52 < 2 ^ 52 := Nat.mod_lt _ (Nat.two_pow_pos 52)
    have h1 : 2 ^ 52 + t % 2 ^ 52 ≤ 2 ^ 53 := by
      have : (2 : Nat) ^ 53 = 2 ^ 52 + 2 ^ 52 := by decide
      omega
    rw [Nat.pow_add]
    exact Nat.mul_le_mul h1 (Nat.pow_le_pow_right (by decide) (by omega))

theorem key_one : fin (cls 4607182418800017408) ((2 ^ 1074 : Nat) : Int) := by
  have h : f64.read 4607182418800017408 = .number false 4503599627370496 (-52) := by decide +kernel
  have hb := key_bound h
  rw [signed_sg] at hb
  have e : (4503599627370496 : Nat) * 2 ^ ((-52 : Int) + 1074).toNat = 2 ^ 1074 := by decide +kernel
  rw [e] at hb
  refine ⟨?_, hb.2, hb.1⟩
  rw [cls_key, h]
  simp only [dkey]
  rw [signed_sg, e]
  rfl

theorem pow_shift (a L n : Nat) : 2 ^ a * 2 ^ (a + L) * n = 2 ^ L * n * 2 ^ (a + a) := by
  have : 2 ^ a * 2 ^ (a + L) = 2 ^ L * 2 ^ (a + a) := by
    rw [← Nat.pow_add, ← Nat.pow_add]
    congr 1
    omega
  rw [this, Nat.mul_right_comm]

theorem cap_pos {L X n : Nat} (hn : 0 < n) (h : 2 ^ L * n ≤ X) : 0 < capR (rgQ L X n) := by
  have hr := rgQ_mono (l := L) (X := 2 ^ L) (n := 1) Nat.one_pos hn (by rw [Nat.mul_one]; exact h)
  have h1r : 1 ≤ rgQ L (2 ^ L) 1 := by
    unfold rgQ
    rw [Nat.div_one, Nat.one_mul]
    have : rgN L (rvN 1 * 2 ^ L) = 1 := rgN_rvN L 1
    have e1 : rvN 1 = 1 := rfl
    rw [e1, Nat.one_mul] at this
    unfold rgN rne at this
    unfold rneD
    omega
  have h3 := capR_mono (Nat.le_trans h1r hr)
  have e1 : capR 1 = 1 := by
    unfold capR
    rw [infRung_eq, if_pos (by decide)]
    rfl
  rw [e1] at h3
  exact h3

set_option exponentiation.threshold 3000 in
theorem recip_room {k X n L : Nat} (hk : 0 < k) (hkb : k ≤ 2 ^ 2098) (q : X * k = 2 ^ 1074 * 2 ^ (1074 + L) * n) : 2 ^ L * n ≤ X := by
  refine Nat.le_of_mul_le_mul_right ?_ hk
  rw [q, pow_shift]
  exact Nat.mul_le_mul_left _ (Nat.le_trans hkb (Nat.pow_le_pow_right (by decide) (by decide)))

theorem sg_sign (t : Bool) {c : Nat} (hc : 0 < c) : sg t c ≠ 0 ∧ (sg t c < 0 ↔ t = true) := by
  cases t with
  | false =>
    have e : sg false c = (c : Int) := rfl
    rw [e]
    exact ⟨by omega, ⟨fun h => absurd h (by omega), fun h => nomatch h⟩⟩
  | true =>
    have e : sg true c = -(c : Int) := rfl
    rw [e]
    exact ⟨by omega, ⟨fun _ => rfl, fun _ => by omega⟩⟩

theorem recip_core {o d : Fl} {k p : Int} (h1 : fin o p) (hp : 0 < p) (hd : fin d k) (hk : k ≠ 0) (room : ∀ X n L, X * k.natAbs = p.natAbs * 2 ^ (1074 + L) * n → 2 ^ L * n ≤ X) :
    ∃ j, fkey (R.fdiv o d) = some j ∧ j ≠ 0 ∧ (j < 0 ↔ k < 0) := by
  obtain ⟨L, h⟩ := div_key_sg h1 (Int.ne_of_gt hp) hd hk
  obtain ⟨X, n, hn, e, q⟩ := h L (Nat.le_refl _)
  have hs : decide (p < 0) = false := decide_eq_false (Int.not_lt.2 (Int.le_of_lt hp))
  rw [hs, Bool.false_xor] at e
  have hc : 0 < capR (rgQ L X n) := cap_pos hn (room X n L q)
  have := sg_sign (decide (k < 0)) hc
  exact ⟨_, e, this.1, this.2.trans decide_eq_true_iff⟩

set_option exponentiation.threshold 3000 in
theorem key_small {d : Fl} {k : Int} (hd : fin d k) : k.natAbs ≤ 2 ^ 2098 := by
  obtain ⟨t, ht, hk2⟩ := fin_rep hd
  rw [hk2]
  exact rvN_bound ht

set_option exponentiation.threshold 3000 in
/-- The reciprocal of a number that is not nought has a sign: that number's. -/
theorem recip_sign {d : Fl} {k : Int} (hd : fin d k) (hk : k ≠ 0) : ∃ j, fkey (R.fdiv (cls 4607182418800017408) d) = some j ∧ j ≠ 0 ∧ (j < 0 ↔ k < 0) :=
  recip_core key_one (Int.natCast_pos.2 (Nat.two_pow_pos _)) hd hk fun _ _ _ q => recip_room (Int.natAbs_pos.2 hk) (key_small hd) q

theorem bot_inf {b : Nat} (h : fkey (some b) = some (-topKey)) : f64.read b = .infinity true := by
  have tp := topKey_pos
  have h' : dkey (f64.read b) = some (-topKey) := h
  cases hb : f64.read b with
  | nan s t => rw [hb] at h'; simp [dkey] at h'
  | infinity s =>
    rw [hb] at h'
    simp only [dkey, Option.some.injEq] at h'
    cases s with
    | true => rfl
    | false => simp at h'; omega
  | number s m e =>
    have := key_bound hb
    rw [hb] at h'
    simp only [dkey, Option.some.injEq] at h'
    omega

theorem key_write_infs (s : Bool) : fkey (cls (f64.write (.infinity s))) = some (if s then -topKey else topKey) := by
  rw [cls_key]
  show dkey (f64.read (f64.word s f64.infRung)) = _
  rw [key_word s (Nat.le_refl _), if_neg (Nat.lt_irrefl _)]
  cases s <;> rfl

/-- A product of any two that are no no-numbers, the second not nought. -/
theorem mul_any {x y : Fl} {a b : Int} (hx : fkey x = some a) (hy : fkey y = some b) (hb : b ≠ 0) :
    (fin x a ∧ fin y b ∧ fkey (R.fmul x y) = some (rndL 1074 (a * b))) ∨
    (a = 0 ∧ (b = topKey ∨ b = -topKey) ∧ fkey (R.fmul x y) = none) ∨
    (a ≠ 0 ∧ (a = topKey ∨ a = -topKey ∨ b = topKey ∨ b = -topKey) ∧ fkey (R.fmul x y) = some (if (decide (a < 0) ^^ decide (b < 0)) then -topKey else topKey)) := by
  have tp := topKey_pos
  have la := key_le_top hx
  have lb := key_le_top hy
  by_cases hf : fin x a ∧ fin y b
  · exact .inl ⟨hf.1, hf.2, key_mul hf.1 hf.2⟩
  · right
    cases x with
    | none => cases hx
    | some p =>
      cases y with
      | none => cases hy
      | some q =>
        have signOf : ∀ {w : Nat} {c : Int}, fkey (some w) = some c → (∃ s m e, f64.read w = .number s m e ∧ c = sg s (m * 2 ^ (e + 1074).toNat) ∧ fin (some w) c) ∨ ∃ s, f64.read w = .infinity s ∧ c = (if s then -topKey else topKey) := by
          intro w c h
          have l := key_le_top h
          by_cases h1 : c = topKey
          · subst h1; exact .inr ⟨false, top_inf h, rfl⟩
          · by_cases h2 : c = -topKey
            · subst h2; exact .inr ⟨true, bot_inf h, rfl⟩
            · have hfin : fin (some w) c := ⟨h, by omega, by omega⟩
              obtain ⟨s, m, e, h3, _, h4⟩ := fin_read hfin
              exact .inl ⟨s, m, e, h3, h4, hfin⟩
        have infSign : ∀ s : Bool, (s = decide ((if s then -topKey else topKey) < 0)) := by
          intro s
          cases s
          · simp; omega
          · simp; omega
        rcases signOf hx with ⟨s, m, e, h1, h2, h3⟩ | ⟨s, h1, h2⟩
        · rcases signOf hy with ⟨t, n, j, g1, g2, g3⟩ | ⟨t, g1, g2⟩
          · exact absurd ⟨h3, g3⟩ hf
          · have hbt : b = topKey ∨ b = -topKey := by rw [g2]; cases t <;> simp
            by_cases ha0 : a = 0
            · left
              refine ⟨ha0, hbt, ?_⟩
              have hm0 : m = 0 := by
                rw [ha0] at h2
                have := sg_eq_zero h2.symm
                rcases Nat.mul_eq_zero.1 this with h | h
                · exact h
                · have := Nat.two_pow_pos (e + 1074).toNat; omega
              show fkey (match f64.mul p q with | some r => cls r | none => none) = _
              unfold Format.mul
              rw [h1, g1]
              simp only [Datum.product, if_pos hm0]
              rfl
            · right
              refine ⟨ha0, by rcases hbt with h | h <;> simp [h], ?_⟩
              obtain ⟨es, hm2, _⟩ := sg_ne h2 ha0
              have hm0 : m ≠ 0 := fun e => hm2 (by rw [e, Nat.zero_mul])
              have et : t = decide (b < 0) := by rw [g2]; exact infSign t
              show fkey (match f64.mul p q with | some r => cls r | none => none) = _
              unfold Format.mul
              rw [h1, g1]
              simp only [Datum.product, if_neg hm0]
              rw [← es, ← et, Bool.xor_comm s t]
              exact key_write_infs _
        · have hat : a = topKey ∨ a = -topKey := by rw [h2]; cases s <;> simp
          have ha0 : a ≠ 0 := by omega
          right
          refine ⟨ha0, by rcases hat with h | h <;> simp [h], ?_⟩
          have es : s = decide (a < 0) := by rw [h2]; exact infSign s
          show fkey (match f64.mul p q with | some r => cls r | none => none) = _
          unfold Format.mul
          rcases signOf hy with ⟨t, n, j, g1, g2, g3⟩ | ⟨t, g1, g2⟩
          · obtain ⟨et, hn2, _⟩ := sg_ne g2 hb
            have hn0 : n ≠ 0 := fun e => hn2 (by rw [e, Nat.zero_mul])
            rw [h1, g1]
            simp only [Datum.product, if_neg hn0]
            rw [← es, ← et]
            exact key_write_infs _
          · have et : t = decide (b < 0) := by rw [g2]; exact infSign t
            rw [h1, g1]
            simp only [Datum.product]
            rw [← es, ← et]
            exact key_write_infs _

/-- Products with one number above nought keep order; where one is none, the other is none, or beyond all numbers. -/
theorem mul_up {x y i : Fl} {a b k : Int} (hx : fkey x = some a) (hy : fkey y = some b) (hi : fkey i = some k) (hk : 0 < k) (h : a ≤ b) :
    (∀ p q, fkey (R.fmul x i) = some p → fkey (R.fmul y i) = some q → p ≤ q) ∧
    (fkey (R.fmul x i) = none → fkey (R.fmul y i) = none ∨ fkey (R.fmul y i) = some topKey) ∧
    (fkey (R.fmul y i) = none → fkey (R.fmul x i) = none ∨ fkey (R.fmul x i) = some (-topKey)) := by
  have tp := topKey_pos
  have dk : decide (k < 0) = false := by rw [decide_eq_false_iff_not]; omega
  rcases mul_any hx hi (by omega) with ⟨f1, f2, e1⟩ | ⟨z1, t1, e1⟩ | ⟨z1, t1, e1⟩
  · have b1 := f2.2.2
    have b1' := f1.2
    rcases mul_any hy hi (by omega) with ⟨g1, g2, e2⟩ | ⟨z2, t2, e2⟩ | ⟨z2, t2, e2⟩
    · rw [e1, e2]
      refine ⟨fun p q hp hq => ?_, fun h => (by cases h), fun h => (by cases h)⟩
      cases hp; cases hq
      exact rndL_mono _ (Int.mul_le_mul_of_nonneg_right h (Int.le_of_lt hk))
    · omega
    · have hlb := key_le_top hy
      have : b = topKey := by omega
      have db : decide (b < 0) = false := by rw [decide_eq_false_iff_not]; omega
      rw [dk, db] at e2
      rw [e1, e2]
      refine ⟨fun p q hp hq => ?_, fun h => (by cases h), fun h => (by cases h)⟩
      cases hq
      have := (key_le_top (e1.trans hp)).1
      simpa using this
  · subst z1
    rw [e1]
    refine ⟨fun p q hp => (by cases hp), fun _ => ?_, fun _ => .inl rfl⟩
    rcases mul_any hy hi (by omega) with ⟨g1, g2, e2⟩ | ⟨z2, t2, e2⟩ | ⟨z2, t2, e2⟩
    · have := g2.2; omega
    · exact .inl e2
    · have db : decide (b < 0) = false := by rw [decide_eq_false_iff_not]; omega
      rw [dk, db] at e2
      exact .inr e2
  · rw [e1, dk]
    by_cases ha : a < 0
    · have da : decide (a < 0) = true := by simpa using ha
      rw [da]
      refine ⟨fun p q hp hq => ?_, fun h => (by cases h), fun _ => .inr rfl⟩
      cases hp
      have := (key_le_top hq).2
      simpa using this
    · have da : decide (a < 0) = false := by simpa using ha
      have db : decide (b < 0) = false := by rw [decide_eq_false_iff_not]; omega
      have hlb := key_le_top hy
      rw [da]
      rcases mul_any hy hi (by omega) with ⟨g1, g2, e2⟩ | ⟨z2, t2, e2⟩ | ⟨z2, t2, e2⟩
      · have := g2.2.2; have := g1.2.2; omega
      · omega
      · rw [e2, dk, db]
        refine ⟨fun p q hp hq => ?_, fun h => (by cases h), fun h => (by cases h)⟩
        cases hp; cases hq
        exact Int.le_refl _

/-- With one below nought they turn it. -/
theorem mul_down {x y i : Fl} {a b k : Int} (hx : fkey x = some a) (hy : fkey y = some b) (hi : fkey i = some k) (hk : k < 0) (h : a ≤ b) :
    (∀ p q, fkey (R.fmul x i) = some p → fkey (R.fmul y i) = some q → q ≤ p) ∧
    (fkey (R.fmul x i) = none → fkey (R.fmul y i) = none ∨ fkey (R.fmul y i) = some (-topKey)) ∧
    (fkey (R.fmul y i) = none → fkey (R.fmul x i) = none ∨ fkey (R.fmul x i) = some topKey) := by
  have tp := topKey_pos
  have dk : decide (k < 0) = true := by simpa using hk
  have hlb := key_le_top hy
  have hla := key_le_top hx
  rcases mul_any hx hi (by omega) with ⟨f1, f2, e1⟩ | ⟨z1, t1, e1⟩ | ⟨z1, t1, e1⟩
  · have b1 := f2.2
    have b1' := f1.2
    rcases mul_any hy hi (by omega) with ⟨g1, g2, e2⟩ | ⟨z2, t2, e2⟩ | ⟨z2, t2, e2⟩
    · rw [e1, e2]
      refine ⟨fun p q hp hq => ?_, fun h => (by cases h), fun h => (by cases h)⟩
      cases hp; cases hq
      exact rndL_mono _ (Int.mul_le_mul_of_nonpos_right h (Int.le_of_lt hk))
    · omega
    · have : b = topKey := by omega
      have db : decide (b < 0) = false := by rw [decide_eq_false_iff_not]; omega
      rw [dk, db] at e2
      rw [e1, e2]
      refine ⟨fun p q hp hq => ?_, fun h => (by cases h), fun h => (by cases h)⟩
      cases hq
      have := (key_le_top (e1.trans hp)).2
      simpa using this
  · subst z1
    rw [e1]
    refine ⟨fun p q hp => (by cases hp), fun _ => ?_, fun _ => .inl rfl⟩
    rcases mul_any hy hi (by omega) with ⟨g1, g2, e2⟩ | ⟨z2, t2, e2⟩ | ⟨z2, t2, e2⟩
    · have := g2.2; omega
    · exact .inl e2
    · have db : decide (b < 0) = false := by rw [decide_eq_false_iff_not]; omega
      rw [dk, db] at e2
      exact .inr e2
  · rw [e1, dk]
    by_cases ha : a < 0
    · have da : decide (a < 0) = true := by simpa using ha
      rw [da]
      refine ⟨fun p q hp hq => ?_, fun h => (by cases h), fun _ => .inr rfl⟩
      cases hp
      have := (key_le_top hq).1
      simpa using this
    · have da : decide (a < 0) = false := by simpa using ha
      have db : decide (b < 0) = false := by rw [decide_eq_false_iff_not]; omega
      rw [da]
      rcases mul_any hy hi (by omega) with ⟨g1, g2, e2⟩ | ⟨z2, t2, e2⟩ | ⟨z2, t2, e2⟩
      · have := g2.2; have := g1.2; omega
      · omega
      · rw [e2, dk, db]
        refine ⟨fun p q hp hq => ?_, fun h => (by cases h), fun h => (by cases h)⟩
        cases hp; cases hq
        exact Int.le_refl _

end Go.Ev
/- Small facts on what floats are worth: constants, draws, twice a number, bounds. -/
namespace Go.Ev
open Ieee

theorem fv_of_fin {x : Fl} {a : Int} (h : fin x a) : ∃ q, fv x q ∧ q * pw 1074 = (a : Rat) := by
  have e : (a : Rat) / pw 1074 * pw 1074 = (a : Rat) := Rat.div_mul_cancel (Rat.ne_of_gt (pw_pos _))
  exact ⟨_, ⟨a, h, e⟩, e⟩

theorem fv_zero : fv (R.fc 0) 0 := ⟨0, ⟨fkey_zero, by have := topKey_pos; omega, topKey_pos⟩, by rw [Rat.zero_mul]; rfl⟩

theorem fvc {b m : Nat} {e : Int} (k j : Nat) (q : Rat) (h : f64.read b = .number false m e) (he : e + 1074 = (k : Int)) (hj : k + j = 1074) (hq : q * ((2 ^ j : Nat) : Rat) = (m : Rat)) : fv (R.fc b) q := by
  have h1 := fv_const h he hj
  have e1 : ((sg false m : Int) : Rat) / pw j = q := by
    show (((m : Nat) : Int) : Rat) / pw j = q
    rw [Rat.intCast_natCast, ← hq, pw_eq]
    exact Rat.mul_div_cancel (Rat.ne_of_gt (pw_pos j))
  rw [e1] at h1
  exact h1

theorem fvcn {b m : Nat} {e : Int} (k j : Nat) (q : Rat) (h : f64.read b = .number true m e) (he : e + 1074 = (k : Int)) (hj : k + j = 1074) (hq : q * ((2 ^ j : Nat) : Rat) = (m : Rat)) : fv (R.fc b) (-q) := by
  have h1 := fv_const h he hj
  have e1 : ((sg true m : Int) : Rat) / pw j = -q := by
    show ((-((m : Nat) : Int) : Int) : Rat) / pw j = -q
    rw [Rat.intCast_neg, Rat.intCast_natCast, ← hq, pw_eq, ← Rat.neg_mul]
    exact Rat.mul_div_cancel (Rat.ne_of_gt (pw_pos j))
  rw [e1] at h1
  exact h1

theorem fv_one : fv (R.fc 4607182418800017408) 1 := fvc 1022 52 1 (by decide +kernel : f64.read 4607182418800017408 = .number false 4503599627370496 (-52)) (by decide) (by decide) (by decide +kernel)
theorem fv_two : fv (R.fc 4611686018427387904) 2 := fvc 1023 51 2 (by decide +kernel : f64.read 4611686018427387904 = .number false 4503599627370496 (-51)) (by decide) (by decide) (by decide +kernel)
theorem fv_half : fv (R.fc 4602678819172646912) (1 / 2) := fvc 1021 53 (1 / 2) (by decide +kernel : f64.read 4602678819172646912 = .number false 4503599627370496 (-53)) (by decide) (by decide) (by decide +kernel)
theorem fv_quarter : fv (R.fc 4598175219545276416) (1 / 4) := fvc 1020 54 (1 / 4) (by decide +kernel : f64.read 4598175219545276416 = .number false 4503599627370496 (-54)) (by decide) (by decide) (by decide +kernel)
theorem fv_eighth : fv (R.fc 4593671619917905920) (1 / 8) := fvc 1019 55 (1 / 8) (by decide +kernel : f64.read 4593671619917905920 = .number false 4503599627370496 (-55)) (by decide) (by decide) (by decide +kernel)
theorem fv_eight : fv (R.fc 4620693217682128896) 8 := fvc 1025 49 8 (by decide +kernel : f64.read 4620693217682128896 = .number false 4503599627370496 (-49)) (by decide) (by decide) (by decide +kernel)

theorem fv_num {x : Fl} {q : Rat} (h : fv x q) : R.feq x x = true := by rw [fv_feq h h]; simp

/-- What lies between two numbers is a number. -/
theorem fv_between {x y z : Fl} {p q : Rat} (hy : fv y p) (hz : fv z q) (h1 : R.fge x y = true) (h2 : R.fle x z = true) : ∃ r, fv x r ∧ p ≤ r ∧ r ≤ q := by
  obtain ⟨a, b, e1, e2, e3⟩ := (fge_iff _ _).1 h1
  obtain ⟨c, d, g1, g2, g3⟩ := (fle_iff _ _).1 h2
  rw [e1] at g1; cases g1
  obtain ⟨p', hp, _⟩ := id hy
  obtain ⟨q', hq, _⟩ := id hz
  rw [hp.1] at e2; cases e2
  rw [hq.1] at g2; cases g2
  have hf : fin x a := ⟨e1, by have := hp.2; omega, by have := hq.2; omega⟩
  obtain ⟨r, hr, _⟩ := fv_of_fin hf
  refine ⟨r, hr, ?_, ?_⟩
  · have := fv_fge hr hy
    rw [h1] at this
    exact of_decide_eq_true this.symm
  · have := fv_fle hr hz
    rw [h2] at this
    exact of_decide_eq_true this.symm

theorem flt_fle {x y : Fl} (h : R.flt x y = true) : R.fle x y = true := by
  obtain ⟨a, b, e1, e2, e3⟩ := (flt_iff _ _).1 h
  exact (fle_iff _ _).2 ⟨a, b, e1, e2, Int.le_of_lt e3⟩

theorem unit_val {a : Fl} (h1 : R.fge a (R.fc 0) = true) (h2 : R.flt a (R.fc 4607182418800017408) = true) : ∃ q, fv a q ∧ 0 ≤ q ∧ q < 1 := by
  obtain ⟨r, hr, r0, r1⟩ := fv_between fv_zero fv_one h1 (flt_fle h2)
  refine ⟨r, hr, r0, ?_⟩
  have := fv_flt hr fv_one
  rw [h2] at this
  exact of_decide_eq_true this.symm

theorem pw_ge (q : Rat) (h : q ≤ 1024) {n : Nat} (hn : 10 ≤ n) : q ≤ pw n ∧ -pw n ≤ -q := by
  have h1 : pw 10 ≤ pw n := pw_le hn
  have e : pw 10 = 1024 := by unfold pw; rfl
  rw [e] at h1
  constructor <;> grind

/-- Between bounds that are no greater than 1024 nothing is beyond all numbers. -/
theorem small {v : Rat} (h1 : -1024 ≤ v) (h2 : v ≤ 1024) : -pw 1000 ≤ v ∧ v ≤ pw 1000 := by
  have h := pw_ge 1024 Rat.le_refl (n := 1000) (by decide)
  constructor <;> grind

theorem small' {v : Rat} (h1 : -1024 ≤ v) (h2 : v ≤ 1024) : -pw 999 ≤ v ∧ v ≤ pw 999 := by
  have h := pw_ge 1024 Rat.le_refl (n := 999) (by decide)
  constructor <;> grind

theorem add_val {x y : Fl} {p q : Rat} (hx : fv x p) (hy : fv y q) (h1 : -1024 ≤ p + q) (h2 : p + q ≤ 1024) : ∃ r, fv (R.fadd x y) r ∧ rnds r (p + q) := fv_add hx hy (small h1 h2).1 (small h1 h2).2
theorem sub_val {x y : Fl} {p q : Rat} (hx : fv x p) (hy : fv y q) (h1 : -1024 ≤ p - q) (h2 : p - q ≤ 1024) : ∃ r, fv (R.fsub x y) r ∧ rnds r (p - q) := fv_sub hx hy (small h1 h2).1 (small h1 h2).2
theorem mul_val {x y : Fl} {p q : Rat} (hx : fv x p) (hy : fv y q) (h1 : -1024 ≤ p * q) (h2 : p * q ≤ 1024) : ∃ r, fv (R.fmul x y) r ∧ rnds r (p * q) := fv_mul hx hy (small h1 h2).1 (small h1 h2).2
theorem div_val {x y : Fl} {p q : Rat} (hx : fv x p) (hy : fv y q) (hq : q ≠ 0) (h1 : -1024 ≤ p / q) (h2 : p / q ≤ 1024) : ∃ r, fv (R.fdiv x y) r ∧ rnds r (p / q) := fv_div hx hy hq (small' h1 h2).1 (small' h1 h2).2
theorem sqrt_val {x : Fl} {p : Rat} (hx : fv x p) (h0 : 0 ≤ p) (h1 : p ≤ 1024) : ∃ r, fv (R.fsqrt x) r ∧ sqrtOf r p := fv_sqrt hx h0 (Rat.le_trans h1 (pw_ge 1024 Rat.le_refl (n := 100) (by decide)).1)

theorem tiny_small : tiny * 1152921504606846976 ≤ 1 := by
  have h : pw 60 ≤ pw 1075 := pw_le (by decide)
  have e : pw 60 = 1152921504606846976 := by unfold pw; rw [show (2 : Nat) ^ 60 = 1152921504606846976 by decide]; rfl
  rw [e] at h
  have t : tiny * pw 1075 = 1 := by unfold tiny; exact Rat.inv_mul_cancel _ (Rat.ne_of_gt (pw_pos _))
  have := Rat.mul_le_mul_of_nonneg_left h (Rat.le_of_lt tiny_pos)
  rw [t] at this
  exact this

theorem e52 : pw 52 = 4503599627370496 := by unfold pw; rw [show (2 : Nat) ^ 52 = 4503599627370496 by decide]; rfl

theorem rnds.bound {r v : Rat} (h : rnds r v) (B : Rat) (h1 : -B ≤ v) (h2 : v ≤ B) (hB : 1 ≤ B) : -(2 * B) ≤ r ∧ r ≤ 2 * B := by
  obtain ⟨n1, n2⟩ := h.near B h1 h2
  rw [e52] at n1 n2
  have t := tiny_small
  have t0 := tiny_pos
  constructor <;> grind

/-- A number is what lies between the least and the greatest float; or, asked otherwise, what taken from itself is nought. -/
theorem vnum_iff (x : Fl) : R.bite (R.fge x (R.fc 18442240474082181119)) (R.fle x (R.fc 9218868437227405311)) (R.bc false) = true ↔ ∃ k, fin x k := by
  constructor
  · intro h
    have h' : (if R.fge x (cls lowBits) then R.fle x (cls topBits) else false) = true := h
    cases g : R.fge x (cls lowBits) with
    | false => rw [g] at h'; cases h'
    | true =>
      rw [g] at h'
      obtain ⟨k, lo, h1, h2, h3⟩ := (fge_iff _ _).1 g
      obtain ⟨k', hi, g1, g2, g3⟩ := (fle_iff _ _).1 h'
      rw [h1] at g1; cases g1
      have e1 := key_bound read_low
      have e2 := key_bound read_top
      rw [cls_key, read_low] at h2
      rw [cls_key, read_top] at g2
      simp only [dkey, Option.some.injEq] at h2 g2
      exact ⟨k, h1, by omega, by omega⟩
  · rintro ⟨k, h⟩
    show (if R.fge x (cls lowBits) then R.fle x (cls topBits) else false) = true
    rw [number_iff]
    obtain ⟨q, hq, _⟩ := fv_of_fin h
    obtain ⟨r, hr, rr⟩ := sub_val hq hq (by grind) (by grind)
    have e : r = 0 := by
      have := rr.exact (by rw [Rat.sub_self]; exact fv_rep fv_zero)
      rw [Rat.sub_self] at this
      exact this
    subst e
    show R.feq (R.fsub x x) (R.fc 0) = true
    rw [fv_feq hr fv_zero]
    simp

theorem rnum_iff (x : Fl) : R.feq (R.fsub x x) (R.fc 0) = true ↔ ∃ k, fin x k := by
  rw [← vnum_iff]
  show R.feq (R.fsub x x) (cls 0) = true ↔ (if R.fge x (cls lowBits) then R.fle x (cls topBits) else false) = true
  rw [number_iff]

theorem rvN_twice {t : Nat} (h : t < 2045 * 2 ^ 52) : ∃ u, u < f64.infRung ∧ rvN u = 2 * rvN t := by
  have p52 : (2 : Nat) ^ 52 = 4503599627370496 := by decide
  rw [infRung_eq]
  unfold rvN
  rw [p52] at *
  by_cases h1 : t < 4503599627370496
  · by_cases h2 : 2 * t < 4503599627370496
    · exact ⟨2 * t, by omega, by rw [if_pos h1, if_pos h2]⟩
    · refine ⟨2 * t, by omega, ?_⟩
      rw [if_pos h1, if_neg h2]
      have e1 : 2 * t / 4503599627370496 - 1 = 0 := by omega
      rw [e1]
      omega
  · refine ⟨t + 4503599627370496, by omega, ?_⟩
    rw [if_neg h1, if_neg (by omega)]
    have e1 : (t + 4503599627370496) / 4503599627370496 - 1 = (t / 4503599627370496 - 1) + 1 := by omega
    have e2 : (t + 4503599627370496) % 4503599627370496 = t % 4503599627370496 := by omega
    rw [e1, e2, Nat.pow_succ]
    generalize 2 ^ (t / 4503599627370496 - 1) = T
    rw [← Nat.mul_assoc, Nat.mul_comm]

set_option exponentiation.threshold 3000 in
/-- Twice what a float is worth, if that is not too great, is what some float is worth. -/
theorem repQ_twice {q : Rat} (h : repQ q) (h1 : -1024 ≤ q ∧ q ≤ 1024) : repQ (2 * q) := by
  obtain ⟨a, ha, ea⟩ := h
  obtain ⟨t, ht, et⟩ := id ha
  have hs : a.natAbs ≤ 2 ^ (10 + 1074) := by
    have e : pw 10 = 1024 := by unfold pw; rfl
    exact natAbs_le_of_cast ea (by rw [e]; exact h1.1) (by rw [e]; exact h1.2)
  have ht' : t < 2045 * 2 ^ 52 := by
    refine Nat.not_le.1 fun g => ?_
    have h2 := rvN_le g
    rw [← et] at h2
    have h3 : 2 ^ (11 + 1074) ≤ rvN (2045 * 2 ^ 52) := by
      have : rvN (2045 * 2 ^ 52) = 2 ^ 52 * 2 ^ 2044 := by decide +kernel
      rw [this, ← Nat.pow_add]
      exact Nat.pow_le_pow_right (by decide) (by decide)
    have h4 : 2 ^ (10 + 1074) < 2 ^ (11 + 1074) := (Nat.pow_lt_pow_iff_right (by decide)).2 (by decide)
    exact absurd (Nat.le_trans h3 (Nat.le_trans h2 hs)) (Nat.not_le.2 h4)
  obtain ⟨u, hu, eu⟩ := rvN_twice ht'
  refine ⟨2 * a, ⟨u, hu, ?_⟩, ?_⟩
  · rw [Int.natAbs_mul, eu, et]; rfl
  · rw [Rat.mul_assoc, ea, Rat.intCast_mul]; rfl

/-- Products of what lies within bounds. -/
theorem mul_abs {u v a b : Rat} (h1 : -a ≤ u) (h2 : u ≤ a) (h3 : -b ≤ v) (h4 : v ≤ b) : -(a * b) ≤ u * v ∧ u * v ≤ a * b := by
  have p1 : 0 ≤ (a - u) * (b + v) := Rat.mul_nonneg (by grind) (by grind)
  have p2 : 0 ≤ (a + u) * (b - v) := Rat.mul_nonneg (by grind) (by grind)
  have p3 : 0 ≤ (a - u) * (b - v) := Rat.mul_nonneg (by grind) (by grind)
  have p4 : 0 ≤ (a + u) * (b + v) := Rat.mul_nonneg (by grind) (by grind)
  constructor <;> grind

/-- Squares of two that are near are near. -/
theorem sq_near {x y e : Rat} (h1 : -e ≤ x - y) (h2 : x - y ≤ e) (h3 : -1 ≤ y) (h4 : y ≤ 1) (he : 0 ≤ e) (he1 : e ≤ 1) : y * y - 3 * e ≤ x * x ∧ x * x ≤ y * y + 3 * e := by
  obtain ⟨p1, p2⟩ := mul_abs h1 h2 h3 h4
  obtain ⟨p3, p4⟩ := mul_abs h1 h2 h1 h2
  obtain ⟨p5, p6⟩ := mul_abs (show -1 ≤ e by grind) he1 (show -e ≤ e by grind) (Rat.le_refl (a := e))
  constructor <;> grind

/-- What is rounded, within bounds of at most 4, is near. -/
theorem rnds.near4 {r v : Rat} (h : rnds r v) (h1 : -4 ≤ v) (h2 : v ≤ 4) : v - 1 / 562949953421312 ≤ r ∧ r ≤ v + 1 / 562949953421312 := by
  obtain ⟨n1, n2⟩ := h.near 4 h1 h2
  rw [e52] at n1 n2
  have t := tiny_small
  have t0 := tiny_pos
  constructor <;> grind

/-- Twice a number is that number and itself. -/
theorem two_mul (x : Fl) : R.fmul (R.fc 4611686018427387904) x = R.fadd x x := by
  have h2 : f64.read 4611686018427387904 = .number false 4503599627370496 (-51) := by decide +kernel
  have c2 : cls 4611686018427387904 = some 4611686018427387904 := by decide +kernel
  show R.fmul (cls 4611686018427387904) x = R.fadd x x
  rw [c2]
  cases x with
  | none => rfl
  | some b =>
    show (match f64.mul 4611686018427387904 b with | some r => cls r | none => none) = (match f64.add b b with | some r => cls r | none => none)
    have e : f64.mul 4611686018427387904 b = f64.add b b := by
      unfold Format.mul Format.add
      rw [h2]
      cases hb : f64.read b with
      | nan s t => rfl
      | infinity s => simp [Datum.product, Datum.sum]
      | number s m i =>
        have hs : Datum.sum (.number s m i) (.number s m i) = some (.number s (2 * m) i) := by
          simp only [Datum.sum, Int.min_self, Int.sub_self, Int.toNat_zero]
          rw [signed_sg, Nat.pow_zero, Nat.mul_one]
          cases s with
          | false =>
            have e1 : sg false m + sg false m = ((2 * m : Nat) : Int) := by show (m : Int) + (m : Int) = _; omega
            rw [e1, Int.natAbs_natCast]
            have : (if ((2 * m : Nat) : Int) = 0 then (false && false) else decide (((2 * m : Nat) : Int) < 0)) = false := by
              split
              · rfl
              · rw [decide_eq_false_iff_not]; omega
            rw [this]
          | true =>
            have e1 : sg true m + sg true m = -((2 * m : Nat) : Int) := by show -(m : Int) + -(m : Int) = _; omega
            rw [e1, Int.natAbs_neg, Int.natAbs_natCast]
            have : (if -((2 * m : Nat) : Int) = 0 then (true && true) else decide (-((2 * m : Nat) : Int) < 0)) = true := by
              split
              · rfl
              · rw [decide_eq_true_iff]; omega
            rw [this]
        have hp : Datum.product (.number false 4503599627370496 (-51)) (.number s m i) = some (.number s (4503599627370496 * m) (-51 + i)) := by
          simp only [Datum.product, Bool.false_xor]
        rw [hs, hp]
        simp only [Option.map_some]
        congr 1
        show f64.nearest s (4503599627370496 * m) (-51 + i) = f64.nearest s (2 * m) i
        by_cases hm : m = 0
        · subst hm
          unfold Format.nearest
          rw [if_pos (by rfl), if_pos (by rfl)]
        · have n1 : 4503599627370496 * m ≠ 0 := by omega
          have n2 : 2 * m ≠ 0 := by omega
          obtain ⟨B, hB⟩ : ∃ B : Int, B = min (-51 + i) (-1074) := ⟨_, rfl⟩
          rw [nearest_rung s n1 (B := B) (by omega) (by omega), nearest_rung s n2 (B := B) (by omega) (by omega)]
          have e3 : (i - B).toNat = 51 + (-51 + i - B).toNat := by omega
          have e4 : 4503599627370496 * m * 2 ^ (-51 + i - B).toNat = 2 * m * 2 ^ (i - B).toNat := by
            rw [e3, Nat.pow_add]
            have : (2 : Nat) ^ 51 = 2251799813685248 := by decide
            rw [this]
            generalize 2 ^ (-51 + i - B).toNat = T
            rw [← Nat.mul_assoc, Nat.mul_right_comm 2 m, Nat.mul_right_comm]
          rw [e4]
    rw [e]

/-- A difference from a number that is no nought is never the other nought. -/
theorem sub_zero {a : Nat} {y : Fl} {m : Nat} {i : Int} (ha : f64.read a = .number false m i) (h : fkey (R.fsub (some a) y) = some 0) : R.fsub (some a) y = some 0 := by
  have tp := topKey_pos
  cases y with
  | none => cases h
  | some b =>
    have h' : fkey (match f64.sub a b with | some r => cls r | none => none) = some 0 := h
    show (match f64.sub a b with | some r => cls r | none => none) = some 0
    unfold Format.sub at h' ⊢
    rw [ha] at h' ⊢
    cases hb : f64.read b with
    | nan s t => rw [hb] at h'; cases h'
    | infinity s =>
      rw [hb] at h'
      simp only [Datum.opposite, Datum.sum, Option.map_some] at h'
      rw [key_write_infs] at h'
      exfalso
      revert h'
      cases (!s) <;> simp <;> omega
    | number s n j =>
      rw [hb] at h'
      simp only [Datum.opposite, Datum.sum, Option.map_some] at h' ⊢
      generalize hT : signed false m (i - min i j).toNat + signed (!s) n (j - min i j).toNat = T at h' ⊢
      have hk : ∀ neg : Bool, fkey (cls (f64.nearest neg T.natAbs (min i j))) = some 0 → T = 0 := by
        intro neg hk
        have hj := (read_number hb).2.1
        have hi := (read_number ha).2.1
        rw [cls_key, key_nearest neg (B := -1074) (by omega) (by omega)] at hk
        have e0 : ((-1074 : Int) - -1074).toNat = 0 := by decide
        rw [e0] at hk
        have e1 := Option.some.inj hk
        unfold rndL at e1
        have e2 := sg_eq_zero e1
        refine Classical.byContradiction fun hne => ?_
        have hpos : 1 ≤ (sg neg (T.natAbs * 2 ^ (min i j - -1074).toNat)).natAbs := by
          rw [sg_natAbs]
          exact Nat.mul_pos (Int.natAbs_pos.2 hne) (Nat.two_pow_pos _)
        have e3 := capR_mono (rgN_mono 0 hpos)
        have e4 : capR (rgN 0 1) = 1 := by
          have : rgN 0 (rvN 1 * 2 ^ 0) = 1 := rgN_rvN 0 1
          have e5 : rvN 1 * 2 ^ 0 = 1 := rfl
          rw [e5] at this
          rw [this]
          unfold capR
          rw [infRung_eq, if_pos (by decide)]
          rfl
        omega
      have hT0 : T = 0 := hk _ h'
      rw [hT0, if_pos rfl, Bool.false_and]
      show cls (f64.nearest false 0 (min i j)) = some 0
      unfold Format.nearest
      rw [if_pos rfl]
      exact cls_zero

theorem one_cls : R.fc 4607182418800017408 = some 4607182418800017408 := by decide +kernel
theorem one_read : f64.read 4607182418800017408 = .number false 4503599627370496 (-52) := by decide +kernel

theorem cls_ok {r b : Nat} (h : cls r = some b) : isNaN b = false := by
  unfold cls at h
  split at h
  · cases h
  · rename_i g
    cases h
    simpa using g

theorem sub_ok {x y : Fl} {b : Nat} (h : R.fsub x y = some b) : isNaN b = false := by
  cases x with
  | none => cases h
  | some p =>
    cases y with
    | none => cases h
    | some q =>
      have h' : (match f64.sub p q with | some r => cls r | none => none) = some b := h
      cases hs : f64.sub p q with
      | none => rw [hs] at h'; cases h'
      | some r => rw [hs] at h'; exact cls_ok h'

/-- The greater one of nought and what is left of 1, asked either way. -/
theorem max_left (y : Fl) : R.fmax (R.fc 0) (R.fsub (R.fc 4607182418800017408) y) = R.fite (R.flt (R.fsub (R.fc 4607182418800017408) y) (R.fc 0)) (R.fc 0) (R.fsub (R.fc 4607182418800017408) y) := by
  have hz : fkey (R.fsub (R.fc 4607182418800017408) y) = some 0 → R.fsub (R.fc 4607182418800017408) y = some 0 := by
    rw [one_cls]
    exact sub_zero one_read
  have hok : ∀ b, R.fsub (R.fc 4607182418800017408) y = some b → isNaN b = false := fun b hb => sub_ok hb
  generalize R.fsub (R.fc 4607182418800017408) y = v at hz hok
  have c0 : R.fc 0 = some 0 := cls_zero
  rw [c0]
  cases v with
  | none => rfl
  | some b =>
    show (match f64.order 0 b with | none => none | some .lt => some b | some .gt => some 0 | some .eq => some (if (f64.read 0).neg then b else 0)) = (if (f64.order b 0 == some .lt) = true then some 0 else some b)
    have hs : f64.order 0 b = (f64.order b 0).map Ordering.swap := ford_swap (some b) (some 0)
    rw [hs]
    cases ho : f64.order b 0 with
    | none =>
      have hn : ford (some b) (some 0) = none := ho
      rcases ford_none hn with g | g
      · have g' : (f64.read b).order (f64.read b) = none := g
        have h2 : isNaN b = true := (order_none g').elim id id
        rw [hok b rfl] at h2
        cases h2
      · have : ford (cls 0) (cls 0) = none := by rw [cls_zero]; exact g
        rw [zero_self] at this; cases this
    | some o =>
      cases o with
      | lt => rfl
      | gt => rfl
      | eq =>
        have hk : fkey (some b) = some 0 := by
          have h1 : R.feq (some b) (some 0) = true := by show (ford (some b) (some 0) == some .eq) = true; rw [show ford (some b) (some 0) = some .eq from ho]; rfl
          obtain ⟨p, q, e1, e2, e3⟩ := (feq_iff _ _).1 h1
          have e4 : fkey (some 0) = some 0 := by rw [← cls_zero]; exact fkey_zero
          rw [e4] at e2; cases e2
          rw [e1, e3]
        have := hz hk
        cases this
        rfl

theorem i64_fits {n : Int} (h0 : -9223372036854775808 ≤ n) (h1 : n ≤ 9223372036854775807) : IntKind.i64.wrap n = n := by
  have e1 : (2 : Int) ^ 64 = 18446744073709551616 := by decide
  have e2 : (2 : Int) ^ (64 - 1) = 9223372036854775808 := by decide
  unfold IntKind.wrap
  simp only [IntKind.bits, IntKind.signed, Bool.true_and, e1, e2]
  by_cases h : n % 18446744073709551616 ≥ 9223372036854775808
  · rw [decide_eq_true h, if_pos rfl]; omega
  · rw [decide_eq_false h, if_neg (by decide)]; omega

theorem tiny_less : tiny * 1329227995784915872903807060280344576 ≤ 1 := by
  have h : pw 120 ≤ pw 1075 := pw_le (by decide)
  have e : pw 120 = 1329227995784915872903807060280344576 := by unfold pw; rw [show (2 : Nat) ^ 120 = 1329227995784915872903807060280344576 by decide]; rfl
  rw [e] at h
  have t : tiny * pw 1075 = 1 := by unfold tiny; exact Rat.inv_mul_cancel _ (Rat.ne_of_gt (pw_pos _))
  have := Rat.mul_le_mul_of_nonneg_left h (Rat.le_of_lt tiny_pos)
  rw [t] at this
  exact this

/-- What some float above nought is worth is not less than twice the least half. -/
theorem fv_tiny {x : Fl} {q : Rat} (h : fv x q) (h0 : 0 < q) : 2 * tiny ≤ q := by
  obtain ⟨a, ha, ea⟩ := h
  have hW := pw_pos 1074
  have h1 : 0 < a := by
    have := Rat.mul_pos h0 hW
    rw [ea] at this
    exact Rat.intCast_pos.1 this
  have h2 : (1 : Rat) ≤ q * pw 1074 := by
    rw [ea]
    exact Rat.intCast_le_intCast.2 (show (1 : Int) ≤ a by omega)
  have t : tiny * (pw 1074 * 2) = 1 := by
    have : pw 1075 = pw 1074 * 2 := by rw [show 1075 = 1074 + 1 from rfl, pw_add, pw_one]
    unfold tiny
    rw [this]
    exact Rat.inv_mul_cancel _ (by rw [← this]; exact Rat.ne_of_gt (pw_pos _))
  refine Rat.le_of_mul_le_mul_right ?_ hW
  grind

theorem rndL_neg (l : Nat) (z : Int) : rndL l (-z) = -rndL l z := by
  by_cases h0 : z = 0
  · subst h0; rw [Int.neg_zero, rndL_zero]; rfl
  · unfold rndL
    rw [Int.natAbs_neg]
    by_cases h : z < 0
    · have h2 : ¬ -z < 0 := by omega
      simp only [h, h2, decide_true, decide_false]
      unfold sg; simp
    · have h2 : -z < 0 := by omega
      simp only [h, h2, decide_true, decide_false]
      unfold sg; simp

theorem mul_neg_val {x x' y : Fl} {p q u : Rat} (hx : fv x p) (hx' : fv x' (-p)) (hy : fv y q) (hu : fv (R.fmul x y) u) : fv (R.fmul x' y) (-u) := by
  obtain ⟨a, ha, ea⟩ := hx
  obtain ⟨a', ha', ea'⟩ := hx'
  obtain ⟨b, hb, _⟩ := hy
  obtain ⟨k, hk, ek⟩ := hu
  have e1 : a' = -a := by
    have : ((a' : Int) : Rat) = ((-a : Int) : Rat) := by rw [← ea', Rat.intCast_neg, ← ea, Rat.neg_mul]
    exact Rat.intCast_inj.1 this
  have e2 : k = rndL 1074 (a * b) := Option.some.inj (hk.1.symm.trans (key_mul ha hb))
  have e3 : fkey (R.fmul x' y) = some (-k) := by
    rw [key_mul ha' hb, e1, Int.neg_mul, rndL_neg, ← e2]
  exact ⟨-k, ⟨e3, by have := hk.2; omega, by have := hk.2; omega⟩, by rw [Rat.neg_mul, ek, Rat.intCast_neg]⟩

theorem fv_nk {x : Fl} {p : Rat} (h : fv x p) (h0 : 0 ≤ p) : ∃ k, nk x k ∧ p * pw 1074 = (k : Rat) := by
  obtain ⟨k, hk, e⟩ := h
  refine ⟨k, ⟨hk.1, ?_⟩, e⟩
  have := Rat.mul_nonneg h0 (Rat.le_of_lt (pw_pos 1074))
  rw [e] at this
  exact Rat.intCast_nonneg.1 this

/-- A product of the lesser is not above that of the greater. -/
theorem mul_le_val {x u y : Fl} {p q d s c : Rat} (hx : fv x p) (hu : fv u q) (hy : fv y d) (p0 : 0 ≤ p) (pq : p ≤ q) (d0 : 0 < d) (hs : fv (R.fmul x y) s) (hc : fv (R.fmul u y) c) : s ≤ c := by
  obtain ⟨i, ni, ei⟩ := fv_nk hx p0
  obtain ⟨j, nj, ej⟩ := fv_nk hu (Rat.le_trans p0 pq)
  obtain ⟨k, hk, ek⟩ := id hy
  have hk0 : 0 < k := by
    have := Rat.mul_pos d0 (pw_pos 1074)
    rw [ek] at this
    exact Rat.intCast_pos.1 this
  have hij : i ≤ j := by
    have := Rat.mul_le_mul_of_nonneg_right pq (Rat.le_of_lt (pw_pos 1074))
    rw [ei, ej] at this
    exact Rat.intCast_le_intCast.1 this
  obtain ⟨m, n, hm, hn, hmn⟩ := mul_mono ni nj hk hk0 hij
  obtain ⟨a, ha, ea⟩ := hs
  obtain ⟨b, hb, eb⟩ := hc
  have e1 : a = m := Option.some.inj (ha.1.symm.trans hm.1)
  have e2 : b = n := Option.some.inj (hb.1.symm.trans hn.1)
  subst e1 e2
  have := Rat.intCast_le_intCast.2 hmn
  rw [← ea, ← eb] at this
  exact Rat.le_of_mul_le_mul_right this (pw_pos 1074)

/-- Without a sign. -/
def uns (x : Fl) : Prop := ∀ b, x = some b → (∀ s m e, f64.read b = .number s m e → s = false) ∧ (∀ s, f64.read b = .infinity s → s = false)

theorem uns_word {r : Nat} (h : r < f64.signWeight) : uns (cls r) := by
  intro b hb
  have e : r = b := by
    unfold cls at hb
    split at hb
    · cases hb
    · exact Option.some.inj hb
  subst e
  have hn : (r / f64.signWeight % 2 == 1) = false := by rw [Nat.div_eq_of_lt h]; rfl
  unfold Format.read
  simp only [hn]
  constructor
  · intro s m e h1
    split at h1
    · cases h1; rfl
    · split at h1
      · cases h1; rfl
      · split at h1 <;> cases h1
  · intro s h1
    split at h1
    · cases h1
    · split at h1
      · cases h1
      · split at h1
        · cases h1; rfl
        · cases h1

theorem uns_none : uns none := fun b h => by cases h

theorem uns_prod {a b : Nat} (h : ∀ d, (f64.read a).product (f64.read b) = some d → (∀ s m e, d = .number s m e → s = false) ∧ (∀ s, d = .infinity s → s = false) ∧ d.isNaN = false) : uns (R.fmul (some a) (some b)) := by
  show uns (match f64.mul a b with | some r => cls r | none => none)
  unfold Format.mul
  cases hd : (f64.read a).product (f64.read b) with
  | none => exact uns_none
  | some d =>
    obtain ⟨h1, h2, h3⟩ := h d hd
    cases d with
    | nan s t => cases h3
    | infinity s =>
      have := h2 s rfl
      subst this
      exact uns_word write_inf
    | number s m e =>
      have := h1 s m e rfl
      subst this
      exact uns_word (nearest_unsigned m e)

theorem uns_mul {x y : Fl} (hx : uns x) (hy : uns y) : uns (R.fmul x y) := by
  cases x with
  | none => exact uns_none
  | some a =>
    cases y with
    | none => exact uns_none
    | some b =>
      obtain ⟨x1, x2⟩ := hx a rfl
      obtain ⟨y1, y2⟩ := hy b rfl
      refine uns_prod fun d hd => ?_
      cases ha : f64.read a with
      | nan s t => rw [ha] at hd; cases hb : f64.read b <;> rw [hb] at hd <;> simp [Datum.product] at hd
      | infinity s =>
        have := x2 s ha; subst this
        cases hb : f64.read b with
        | nan s t => rw [ha, hb] at hd; simp [Datum.product] at hd
        | infinity t =>
          have := y2 t hb; subst this
          rw [ha, hb] at hd
          simp only [Datum.product, Option.some.injEq] at hd
          subst hd
          exact ⟨fun _ _ _ h => (by cases h), fun _ h => (by cases h; rfl), rfl⟩
        | number t n j =>
          have := y1 t n j hb; subst this
          rw [ha, hb] at hd
          simp only [Datum.product] at hd
          split at hd
          · cases hd
          · cases hd
            exact ⟨fun _ _ _ h => (by cases h), fun _ h => (by cases h; rfl), rfl⟩
      | number s m i =>
        have := x1 s m i ha; subst this
        cases hb : f64.read b with
        | nan s t => rw [ha, hb] at hd; simp [Datum.product] at hd
        | infinity t =>
          have := y2 t hb; subst this
          rw [ha, hb] at hd
          simp only [Datum.product] at hd
          split at hd
          · cases hd
          · cases hd
            exact ⟨fun _ _ _ h => (by cases h), fun _ h => (by cases h; rfl), rfl⟩
        | number t n j =>
          have := y1 t n j hb; subst this
          rw [ha, hb] at hd
          simp only [Datum.product, Option.some.injEq] at hd
          subst hd
          exact ⟨fun _ _ _ h => (by cases h; rfl), fun _ h => (by cases h), rfl⟩

theorem uns_sq (x : Fl) : uns (R.fmul x x) := by
  cases x with
  | none => exact uns_none
  | some a =>
    refine uns_prod fun d hd => ?_
    cases ha : f64.read a with
    | nan s t => rw [ha] at hd; simp [Datum.product] at hd
    | infinity s =>
      rw [ha] at hd
      simp only [Datum.product, Option.some.injEq, Bool.xor_self] at hd
      subst hd
      exact ⟨fun _ _ _ h => (by cases h), fun _ h => (by cases h; rfl), rfl⟩
    | number s m i =>
      rw [ha] at hd
      simp only [Datum.product, Option.some.injEq, Bool.xor_self] at hd
      subst hd
      exact ⟨fun _ _ _ h => (by cases h; rfl), fun _ h => (by cases h), rfl⟩

theorem uns_gt {x : Fl} (h : R.fgt x (R.fc 0) = true) : uns x := by
  obtain ⟨a, b, h1, h2, h3⟩ := (fgt_iff _ _).1 h
  have h2' : fkey (cls 0) = some b := h2
  rw [fkey_zero] at h2'; cases h2'
  intro w hw
  subst hw
  have h1' : dkey (f64.read w) = some a := h1
  constructor
  · intro s m e hr
    rw [hr] at h1'
    simp only [dkey, Option.some.injEq] at h1'
    cases s with
    | false => rfl
    | true =>
      rw [signed_sg] at h1'
      have : sg true (m * 2 ^ (e + 1074).toNat) ≤ 0 := by
        show -((m * 2 ^ (e + 1074).toNat : Nat) : Int) ≤ 0
        omega
      omega
  · intro s hr
    have tp := topKey_pos
    rw [hr] at h1'
    simp only [dkey, Option.some.injEq] at h1'
    cases s with
    | false => rfl
    | true => simp at h1'; omega

theorem nn_div {x y : Fl} (hx : nn x) (hy : uns y) : nn (R.fdiv x y) := by
  cases x with
  | none => exact fun k h => by cases h
  | some a =>
    cases y with
    | none => exact fun k h => by cases h
    | some b =>
      obtain ⟨y1, y2⟩ := hy b rfl
      intro k hk
      have hk' : fkey (match f64.div a b with | some r => cls r | none => none) = some k := hk
      unfold Format.div at hk'
      cases ha : f64.read a with
      | nan s t => rw [ha] at hk'; cases h : f64.read b <;> rw [h] at hk' <;> simp [Datum.quotient, fkey] at hk'
      | infinity s =>
        have := inf_of_nn hx ha; subst this
        cases hb : f64.read b with
        | nan s t => rw [ha, hb] at hk'; simp [Datum.quotient, fkey] at hk'
        | infinity t => rw [ha, hb] at hk'; simp [Datum.quotient, fkey] at hk'
        | number t n j =>
          have := y1 t n j hb; subst this
          rw [ha, hb] at hk'
          simp only [Datum.quotient, Option.map_some, cls_key, Bool.xor_self] at hk'
          exact inf_nn hk'
      | number s m i =>
        have hs := sign_of_nn hx ha
        cases hb : f64.read b with
        | nan s t => rw [ha, hb] at hk'; simp [Datum.quotient, fkey] at hk'
        | infinity t =>
          have := y2 t hb; subst this
          rw [ha, hb] at hk'
          simp only [Datum.quotient, Option.map_some, cls_key] at hk'
          exact nearest_nn (fun _ => rfl) hk'
        | number t n j =>
          have := y1 t n j hb; subst this
          rw [ha, hb] at hk'
          simp only [Datum.quotient] at hk'
          by_cases hn : n = 0
          · rw [if_pos hn] at hk'
            by_cases hm : m = 0
            · rw [if_pos hm] at hk'
              simp [fkey] at hk'
            · rw [if_neg hm] at hk'
              have : s = false := by
                cases s with
                | false => rfl
                | true => exact absurd (hs rfl) hm
              subst this
              simp only [Option.map_some, cls_key, Bool.xor_self] at hk'
              exact inf_nn hk'
          · rw [if_neg hn] at hk'
            simp only [Option.map_some, cls_key] at hk'
            refine nearest_nn (fun hxor => ?_) hk'
            have : s = true := by cases s <;> first | rfl | cases hxor
            subst this
            rw [hs rfl]
            simp

theorem nn_zero_mul (z : Fl) : nn (R.fmul (R.fc 0) z) := by
  cases z with
  | none => exact fun k h => by cases h
  | some b =>
    intro k hk
    have c0 : R.fc 0 = some 0 := cls_zero
    rw [c0] at hk
    have hk' : fkey (match f64.mul 0 b with | some r => cls r | none => none) = some k := hk
    unfold Format.mul at hk'
    rw [read_zero] at hk'
    cases hb : f64.read b with
    | nan s t => rw [hb] at hk'; simp [Datum.product, fkey] at hk'
    | infinity t => rw [hb] at hk'; simp [Datum.product, fkey] at hk'
    | number t n j =>
      rw [hb] at hk'
      simp only [Datum.product, Option.map_some, cls_key, Nat.zero_mul] at hk'
      exact nearest_nn (fun _ => rfl) hk'

theorem fv_max {x y : Fl} {p q : Rat} (hx : fv x p) (hy : fv y q) : fv (R.fmax x y) (if p < q then q else p) := by
  cases x with
  | none => obtain ⟨_, h, _⟩ := hx; cases h.1
  | some a =>
    cases y with
    | none => obtain ⟨_, h, _⟩ := hy; cases h.1
    | some b =>
      show fv (match f64.order a b with | none => none | some .lt => some b | some .gt => some a | some .eq => some (if (f64.read a).neg then b else a)) _
      have hl := fv_flt hx hy
      have he := fv_feq hx hy
      have hg := fv_fgt hx hy
      have el : R.flt (some a) (some b) = (f64.order a b == some .lt) := rfl
      have ee : R.feq (some a) (some b) = (f64.order a b == some .eq) := rfl
      have eg : R.fgt (some a) (some b) = (f64.order a b == some .gt) := rfl
      rw [el] at hl
      rw [ee] at he
      rw [eg] at hg
      cases ho : f64.order a b with
      | none =>
        rw [ho] at hl he hg
        have h1 : ¬ p < q := of_decide_eq_false hl.symm
        have h2 : ¬ p = q := of_decide_eq_false he.symm
        have h3 : ¬ q < p := of_decide_eq_false hg.symm
        exact absurd (Rat.le_antisymm (Rat.not_lt.1 h3) (Rat.not_lt.1 h1)) h2
      | some o =>
        rw [ho] at hl he
        cases o with
        | lt =>
          have h1 : p < q := of_decide_eq_true hl.symm
          rw [if_pos h1]; exact hy
        | gt =>
          have h1 : ¬ p < q := of_decide_eq_false hl.symm
          rw [if_neg h1]; exact hx
        | eq =>
          have h1 : ¬ p < q := of_decide_eq_false hl.symm
          have h2 : p = q := of_decide_eq_true he.symm
          rw [if_neg h1]
          subst h2
          show fv (some (if (f64.read a).neg then b else a)) p
          cases (f64.read a).neg
          · exact hx
          · exact hy

theorem fv_min {x y : Fl} {p q : Rat} (hx : fv x p) (hy : fv y q) : fv (R.fmin x y) (if p < q then p else q) := by
  cases x with
  | none => obtain ⟨_, h, _⟩ := hx; cases h.1
  | some a =>
    cases y with
    | none => obtain ⟨_, h, _⟩ := hy; cases h.1
    | some b =>
      show fv (match f64.order a b with | none => none | some .lt => some a | some .gt => some b | some .eq => some (if (f64.read a).neg then a else b)) _
      have hl := fv_flt hx hy
      have he := fv_feq hx hy
      have hg := fv_fgt hx hy
      have el : R.flt (some a) (some b) = (f64.order a b == some .lt) := rfl
      have ee : R.feq (some a) (some b) = (f64.order a b == some .eq) := rfl
      have eg : R.fgt (some a) (some b) = (f64.order a b == some .gt) := rfl
      rw [el] at hl
      rw [ee] at he
      rw [eg] at hg
      cases ho : f64.order a b with
      | none =>
        rw [ho] at hl he hg
        have h1 : ¬ p < q := of_decide_eq_false hl.symm
        have h2 : ¬ p = q := of_decide_eq_false he.symm
        have h3 : ¬ q < p := of_decide_eq_false hg.symm
        exact absurd (Rat.le_antisymm (Rat.not_lt.1 h3) (Rat.not_lt.1 h1)) h2
      | some o =>
        rw [ho] at hl he
        cases o with
        | lt =>
          have h1 : p < q := of_decide_eq_true hl.symm
          rw [if_pos h1]; exact hx
        | gt =>
          have h1 : ¬ p < q := of_decide_eq_false hl.symm
          rw [if_neg h1]; exact hy
        | eq =>
          have h1 : ¬ p < q := of_decide_eq_false hl.symm
          have h2 : p = q := of_decide_eq_true he.symm
          rw [if_neg h1]
          subst h2
          show fv (some (if (f64.read a).neg then a else b)) p
          cases (f64.read a).neg
          · exact hy
          · exact hx

theorem key_none_nan {b : Nat} (h : fkey (some b) = none) : ∃ s t, f64.read b = .nan s t := by
  have h' : dkey (f64.read b) = none := h
  cases hb : f64.read b with
  | nan s t => exact ⟨s, t, rfl⟩
  | infinity s => rw [hb] at h'; cases h'
  | number s m e => rw [hb] at h'; cases h'

theorem mul_none {x y : Fl} (h : fkey x = none) : fkey (R.fmul x y) = none := by
  cases x with
  | none => rfl
  | some a =>
    cases y with
    | none => rfl
    | some b =>
      obtain ⟨s, t, ha⟩ := key_none_nan h
      show fkey (match f64.mul a b with | some r => cls r | none => none) = none
      unfold Format.mul
      rw [ha]
      cases f64.read b <;> rfl

/-- Products by two that have one place have one place. -/
theorem mul_key_congr {x y z : Fl} {b : Int} (hy : fkey y = some b) (hz : fkey z = some b) (hb : b ≠ 0) : fkey (R.fmul x y) = fkey (R.fmul x z) := by
  cases hx : fkey x with
  | none => rw [mul_none hx, mul_none hx]
  | some a =>
    rcases mul_any hx hy hb with ⟨f1, f2, e1⟩ | ⟨z1, t1, e1⟩ | ⟨z1, t1, e1⟩
    · rw [e1]
      have : fin z b := ⟨hz, f2.2⟩
      rw [key_mul f1 this]
    · rcases mul_any hx hz hb with ⟨g1, g2, e2⟩ | ⟨z2, t2, e2⟩ | ⟨z2, t2, e2⟩
      · have := g2.2; omega
      · rw [e1, e2]
      · exact absurd z1 z2
    · rcases mul_any hx hz hb with ⟨g1, g2, e2⟩ | ⟨z2, t2, e2⟩ | ⟨z2, t2, e2⟩
      · have := g1.2; have := g2.2; omega
      · exact absurd z2 z1
      · rw [e1, e2]

theorem same_of_key {x y : Fl} (h : fkey x = fkey y) : same x y = true := by
  unfold same
  rw [ford_key, ford_key, ford_key, h]
  cases fkey y with
  | none => rfl
  | some k => simp

set_option exponentiation.threshold 3000 in
/-- A whole number of few digits, over a power of two, is what some float is worth. -/
theorem repQ_dyadic {n j : Nat} (hn : n < 2 ^ 53) (hj : j ≤ 1000) {q : Rat} (hq : q * pw j = (n : Rat)) : repQ q := by
  have e1074 : 1074 = j + (1074 - j) := by omega
  refine ⟨((n * 2 ^ (1074 - j) : Nat) : Int), ?_, ?_⟩
  · by_cases h0 : n = 0
    · subst h0
      exact ⟨0, by rw [infRung_eq]; decide, by rw [Nat.zero_mul]; rfl⟩
    · have l1 : n.log2 < 53 := (Nat.log2_lt h0).2 hn
      have l2 := Nat.log2_self_le h0
      have l3 : n < 2 ^ (n.log2 + 1) := Nat.lt_log2_self
      have e52 : (2 : Nat) ^ 52 = 2 ^ n.log2 * 2 ^ (52 - n.log2) := by rw [← Nat.pow_add]; congr 1; omega
      have e53 : (2 : Nat) ^ 53 = 2 ^ (n.log2 + 1) * 2 ^ (52 - n.log2) := by rw [← Nat.pow_add]; congr 1; omega
      have hp := Nat.two_pow_pos (52 - n.log2)
      have m1 : 2 ^ 52 ≤ n * 2 ^ (52 - n.log2) := by rw [e52]; exact Nat.mul_le_mul_right _ l2
      have m2 : n * 2 ^ (52 - n.log2) < 2 ^ 53 := by rw [e53]; exact Nat.mul_lt_mul_of_pos_right l3 hp
      refine ⟨(1074 - j - (52 - n.log2)) * 2 ^ 52 + n * 2 ^ (52 - n.log2), ?_, ?_⟩
      · rw [infRung_eq]
        have p52 : (2 : Nat) ^ 52 = 4503599627370496 := by decide
        have p53 : (2 : Nat) ^ 53 = 9007199254740992 := by decide
        rw [p52] at *
        rw [p53] at *
        omega
      · rw [rvN_rung (Nat.le_of_lt m2) (.inr m1), Int.natAbs_natCast, Nat.mul_assoc, ← Nat.pow_add]
        congr 2
        omega
  · rw [e1074, pw_add, ← Rat.mul_assoc, hq, Rat.intCast_natCast, Rat.natCast_mul, pw_eq]
    congr 2
    omega

end Go.Ev
