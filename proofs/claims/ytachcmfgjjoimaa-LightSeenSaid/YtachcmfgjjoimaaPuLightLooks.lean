/- The law of which light any triangle is. -/
import Derived.Test.YtachcmfgjjoimaaBd
import Derived.Test.YtachcmfgjjoimaaSpb
namespace Go.Proofs.Ytachcmfgjjoimaa
open Go.Ev

theorem find19 {e : Row} {n : Nat} (hn : n ≤ 1024) (v : Int) {j : Nat} (hj : j ≤ n) (h1 : ∀ i, i < j → tri e i ≠ v) (h2 : j = n ∨ j < n ∧ tri e j = v) :
    E19 R (n : Int) (n : Int) true e v (R.zc 0) (R.zc 0) = true ∧ L19 R (n : Int) (n : Int) true e v (R.zc 0) (R.zc 0) = [.z 0, .z (j : Int)] := by
  refine ends_path (step := G19 R (n : Int) (n : Int) true e v) (p := [.z (R.zc 0), .z (R.zc 0)]) (fun k => [.z 0, .z (k : Int)]) j rfl (fun k hk => ?_) ?_
  · have c1 : R.zlt (k : Int) (n : Int) = true := zltT (by omega)
    have c2 : R.zeq (tri e k) v = false := zeqF (h1 k hk)
    show (C19 R (n : Int) (n : Int) true e v (k : Int), O19_ R (n : Int) (n : Int) true (k : Int), [PV.z 0, .z (N19_1 R (k : Int))]) = _
    unfold C19 O19_ N19_1
    rw [show R.lz e (k : Int) 0 = tri e k from rfl, c1, c2, zge0, suc (by omega)]; rfl
  · show C19 R (n : Int) (n : Int) true e v (j : Int) = false
    unfold C19
    rcases h2 with q | ⟨q, hv⟩
    · rw [zltF (show ¬ (j : Int) < (n : Int) by omega)]; rfl
    · rw [show R.lz e (j : Int) 0 = tri e j from rfl, zltT (show (j : Int) < (n : Int) by omega), zge0, zeqT hv]; rfl

theorem goodSelf {a b c : Fl} (h : S28_0 R a b c = true) : R.feq a a = true ∧ R.feq b b = true ∧ R.feq c c = true := by
  obtain ⟨⟨i, hi, _⟩, ⟨j, hj, _⟩, ⟨k, hk, _⟩⟩ := goodFin h
  exact ⟨(feq_iff _ _).2 ⟨i, i, hi.1, hi.1, rfl⟩, (feq_iff _ _).2 ⟨j, j, hj.1, hj.1, rfl⟩, (feq_iff _ _).2 ⟨k, k, hk.1, hk.1, rfl⟩⟩

/-- The last light of a triangle. -/
noncomputable def lastT (e : Row) (t : Int) : Nat → Int
  | 0 => -1
  | k + 1 => if tri e k = t then (k : Int) else lastT e t k

theorem lastT_none {e : Row} {t : Int} : ∀ {k : Nat}, (∀ i, i < k → tri e i ≠ t) → lastT e t k = -1
  | 0, _ => rfl
  | k + 1, h => by
    unfold lastT
    rw [if_neg (h k (by omega)), lastT_none fun i hi => h i (by omega)]
theorem lastT_at {e : Row} {t : Int} {j L : Nat} (hj : tri e j = t) : ∀ {k : Nat}, j < k → (∀ i, i < k → Ok L e i) → lastT e t k = (j : Int)
  | 0, h, _ => by omega
  | k + 1, h, ho => by
    unfold lastT
    by_cases q : k = j
    · subst q; rw [if_pos hj]
    · have := (ho k (by omega)).new j (by omega)
      rw [if_neg (by rw [← hj]; exact fun g => this g.symm), lastT_at hj (by omega) fun i hi => ho i (by omega)]

section
variable {e : Row} {n L : Nat} (hn : n ≤ 1024) (ho : ∀ i, i < n → Ok L e i) (t : Int)
include hn ho

theorem looksE : E20 R t true e (n : Int) true (n : Int) true e (R.bc false) (R.zc (-1)) (R.zc 0) = true ∧ L20 R t true e (n : Int) true (n : Int) true e (R.bc false) (R.zc (-1)) (R.zc 0) = [.b false, .z (lastT e t n), .z (n : Int)] := by
  refine ends_path (step := G20 R t true e (n : Int) true (n : Int) true e) (p := [.b (R.bc false), .z (R.zc (-1)), .z (R.zc 0)]) (fun k => [.b false, .z (lastT e t k), .z (k : Int)]) n rfl (fun k hk => ?_) ?_
  · have o := ho k hk
    have c1 : R.zlt (k : Int) (n : Int) = true := zltT (by omega)
    have c2 : R.zlt (k : Int) (R.zc 0) = false := zltF (show ¬ (k : Int) < 0 by omega)
    have c3 : R.zle (n : Int) (k : Int) = false := zleF (by omega)
    obtain ⟨f1, f2⟩ := find19 (e := e) hn (tri e k) (j := k) (by omega) (fun i hi => o.new i hi) (.inr ⟨hk, rfl⟩)
    obtain ⟨g1, g2, g3⟩ := goodSelf o.good
    have z0 : R.zeq (tri e k) (tri e k) = true := zeqT rfl
    have z1 : R.zeq (k : Int) (k : Int) = true := zeqT rfl
    have n1 : nthZ (D := R) [.z 0, .z (k : Int)] 1 = (k : Int) := rfl
    have hz : R.lz e (k : Int) 0 = tri e k := rfl
    have b0 : WC20_0 R (n : Int) (k : Int) = true := by unfold WC20_0; rw [c1, zge0]; rfl
    have b1 : WC20_1 R true (k : Int) = false := by unfold WC20_1; rw [c2]; rfl
    have b2 : WC20_2 R true (n : Int) (k : Int) = false := by unfold WC20_2; rw [b1, c3]; rfl
    have b3 : WC20_3 R true (n : Int) (k : Int) = false := by unfold WC20_3; rw [b2]; rfl
    have same : R.band (R.zeq (R.zite false (R.zc 0) (tri e k)) (tri e k)) (R.band (R.feq (R.fite false (R.fc 0) (R.lf e (k : Int) 1)) (R.lf e (k : Int) 1)) (R.band (R.feq (R.fite false (R.fc 0) (R.lf e (k : Int) 2)) (R.lf e (k : Int) 2)) (R.band (R.feq (R.fite false (R.fc 0) (R.lf e (k : Int) 3)) (R.lf e (k : Int) 3)) (R.bc true)))) = true := by
      show R.band (R.zeq (tri e k) (tri e k)) (R.band (R.feq (R.lf e (k : Int) 1) (R.lf e (k : Int) 1)) (R.band (R.feq (R.lf e (k : Int) 2) (R.lf e (k : Int) 2)) (R.band (R.feq (R.lf e (k : Int) 3) (R.lf e (k : Int) 3)) (R.bc true)))) = true
      rw [z0, g1, g2, g3]; rfl
    have b4 : WC20_4 R true e (n : Int) e (k : Int) = false := by unfold WC20_4; rw [b2, hz, same]; rfl
    have b5 : WC20_5 R e (n : Int) true e (k : Int) = true := by unfold WC20_5; rw [hz]; exact f1
    have b6 : WC20_6 R e (n : Int) true e (k : Int) = [.z 0, .z (k : Int)] := by unfold WC20_6; rw [hz]; exact f2
    have o0 : WO20__0 R (n : Int) (k : Int) = true := b0
    have o1 : WO20__1 R true (k : Int) = false := b1
    have o2 : WO20__2 R true (n : Int) (k : Int) = false := b2
    have o3 : WO20__3 R e (n : Int) true e (k : Int) = true := b5
    show (C20 R true e (n : Int) true (n : Int) true e (k : Int), O20_ R true e (n : Int) true (n : Int) true e (k : Int), [PV.b false, .z (N20_1 R t e (lastT e t k) (k : Int)), .z (N20_2 R (k : Int))]) = _
    have hN : N20_1 R t e (lastT e t k) (k : Int) = lastT e t (k + 1) := by
      unfold N20_1
      rw [hz]
      show _ = if tri e k = t then (k : Int) else lastT e t k
      by_cases q : tri e k = t
      · rw [zeqT q, if_pos q]; rfl
      · rw [zeqF q, if_neg q]; rfl
    have hC : C20 R true e (n : Int) true (n : Int) true e (k : Int) = true := by
      unfold C20; rw [b0, b1, b2, b3, b4, b5, b6, n1, c1, zge0]
      show R.band true (R.bite (R.band true (R.band (R.band (R.bite false (R.bc true) (R.band true true)) (R.bite false (R.bc true) (R.band true (R.band true (R.band (R.band true true) true))))) (R.bite false (R.bc true) (R.band true (R.bite false (R.bc true) (R.band true (R.bite (R.bnot true) (R.bc true) (R.band true (R.band true true))))))))) (R.bnot (R.bite false (R.bc true) (R.bite false (R.bc true) (R.bnot (R.zeq (k : Int) (k : Int)))))) (R.bc true)) = true
      rw [z1]; rfl
    have hO : O20_ R true e (n : Int) true (n : Int) true e (k : Int) = true := by
      unfold O20_; rw [o0, o1, o2, o3, hz, same, c1, zge0]; rfl
    rw [hC, hO, hN, show N20_2 R (k : Int) = ((k + 1 : Nat) : Int) from suc (by omega)]
  · show C20 R true e (n : Int) true (n : Int) true e (n : Int) = false
    unfold C20
    rw [zltF (Int.lt_irrefl (n : Int))]; rfl

theorem ofE : ∃ j : Nat, E19 R (n : Int) (n : Int) true e t (R.zc 0) (R.zc 0) = true ∧ L19 R (n : Int) (n : Int) true e t (R.zc 0) (R.zc 0) = [.z 0, .z (j : Int)] ∧ R.zite (R.zlt (j : Int) (n : Int)) (j : Int) (R.zc (-1)) = lastT e t n := by
  obtain ⟨j, j1, j2, j3⟩ := firstNot (fun i => tri e i ≠ t) n
  obtain ⟨f1, f2⟩ := find19 (e := e) hn t (j := j) j1 j2 (j3.imp id fun g => ⟨g.1, Classical.not_not.1 g.2⟩)
  refine ⟨j, f1, f2, ?_⟩
  rcases j3 with q | ⟨q, hv⟩
  · subst q; rw [zltF (Int.lt_irrefl _), lastT_none j2]; rfl
  · rw [zltT (show (j : Int) < (n : Int) by omega), lastT_at (Classical.not_not.1 hv) q ho]; rfl
end

theorem law_LightLooks (x0 : Row) (x1 : Row) (x2 : Int) (x3 : Row) (x4 : Bool) (x5 : Int) (_k0 : okRow [.f, .f, .f, .f, .f, .f, .f, .f, .f] x0) (_k1 : okRow [.z .i64, .f, .f, .f] x1) (_k2 : okInt .i64 x2) (_k3 : okRow [.f, .f, .f] x3) (_k5 : okInt .i64 x5) : O4 R x0 x1 x2 x3 x4 x5 = true ∧ S4_0 R x0 x1 x2 x3 x4 x5 = true := by
  have ow := aw_O6
  have sw := aw_S6_0
  obtain ⟨w0, E, ew, F, G⟩ := buildE x0 x1 x2 x3 x4
  have hO : ∀ b : Bool, R.bite (WO3_63 R x0 x1 x2 x3 x4) (R.bite (R.zeq (WO3_64 R x0 x1 x2 x3 x4) (R.zc 8)) (R.bc true) (R.band (R.bite (WO3_65 R x0 x1 x2 x3 x4) (O6 R) (R.bc true)) (R.bite (WO3_65 R x0 x1 x2 x3 x4) (R.bc true) (R.band (WO4_64 R x1) (R.bite (R.zlt (nthZ (WO4_65 R x1) 2) (R.llen x1)) (R.bc true) (R.band (R.bite x4 (WO3_3 R x2 x3) (R.bc true)) (O6 R))))))) (R.bite b (WO4_72 R x0 x1 x2 x3 x4 x5) (WO4_72 R x0 x1 x2 x3 x4 x5)) = true → WO3_62 R x0 x1 x2 x3 x4 = true → b = R.band (R.bnot (WO3_63 R x0 x1 x2 x3 x4)) (R.band (R.bnot (WO3_24 R x2 x3 x4)) (R.band (R.bnot (WO3_54 R x0 x1)) (R.band (R.bnot (WO3_53 R x0 x1)) x4))) → O4 R x0 x1 x2 x3 x4 x5 = true := by
    intro b h1 h2 hb
    have e : O4 R x0 x1 x2 x3 x4 x5 = R.band (R.band (WO3_0 R x0) (R.band (R.bite x4 (WO3_3 R x2 x3) (R.bc true)) (R.band (R.bite (R.bite x4 (WO3_5 R x2 x3) (R.bc false)) (R.bite (WO3_1 R x2 x3) (R.bc true) (R.band (WO3_6 R x3) (R.bite (WO3_8 R x3) (R.bc true) (R.band (R.zle (R.llen (R.lsub x3 (R.zc 0) (R.llen x3))) (R.zc 1073741824)) (R.band (R.bite (WO3_9 R x3) (R.bc true) (WO3_10 R x3)) (R.bite (WO3_15 R x3) (R.bc true) (R.band (WO3_16 R x3) (R.band (WO3_17 R x3) (R.band (WO3_17 R x3) (R.band (WO3_21 R x3) (WO3_23 R x3))))))))))) (R.bc true)) (R.bite (WO3_24 R x2 x3 x4) (R.bc true) (WO3_62 R x0 x1 x2 x3 x4))))) (R.bite (WO3_63 R x0 x1 x2 x3 x4) (R.bite (R.zeq (WO3_64 R x0 x1 x2 x3 x4) (R.zc 8)) (R.bc true) (R.band (R.bite (WO3_65 R x0 x1 x2 x3 x4) (O6 R) (R.bc true)) (R.bite (WO3_65 R x0 x1 x2 x3 x4) (R.bc true) (R.band (WO4_64 R x1) (R.bite (R.zlt (nthZ (WO4_65 R x1) 2) (R.llen x1)) (R.bc true) (R.band (R.bite x4 (WO3_3 R x2 x3) (R.bc true)) (O6 R))))))) (R.bite (R.band (R.bnot (WO3_63 R x0 x1 x2 x3 x4)) (R.band (R.bnot (WO3_24 R x2 x3 x4)) (R.band (R.bnot (WO3_54 R x0 x1)) (R.band (R.bnot (WO3_53 R x0 x1)) x4)))) (WO4_72 R x0 x1 x2 x3 x4 x5) (WO4_72 R x0 x1 x2 x3 x4 x5))) := rfl
    have hA : R.band (WO3_0 R x0) (R.band (R.bite x4 (WO3_3 R x2 x3) (R.bc true)) (R.band (R.bite (R.bite x4 (WO3_5 R x2 x3) (R.bc false)) (R.bite (WO3_1 R x2 x3) (R.bc true) (R.band (WO3_6 R x3) (R.bite (WO3_8 R x3) (R.bc true) (R.band (R.zle (R.llen (R.lsub x3 (R.zc 0) (R.llen x3))) (R.zc 1073741824)) (R.band (R.bite (WO3_9 R x3) (R.bc true) (WO3_10 R x3)) (R.bite (WO3_15 R x3) (R.bc true) (R.band (WO3_16 R x3) (R.band (WO3_17 R x3) (R.band (WO3_17 R x3) (R.band (WO3_21 R x3) (WO3_23 R x3))))))))))) (R.bc true)) (R.bite (WO3_24 R x2 x3 x4) (R.bc true) (WO3_62 R x0 x1 x2 x3 x4)))) = true := by rw [w0, F.may, F.new, F.no, h2]; rfl
    rw [e, hA, ← hb, h1]; rfl
  have s2 : WS4_0_2 R x2 x3 x4 = E := by
    show R.bite x4 (WO3_5 R x2 x3) (R.bc false) = E
    cases h4 : x4 with
    | true => rw [F.is4 h4]; rfl
    | false =>
      cases hE : E with
      | true => have := F.sky hE; rw [h4] at this; cases this
      | false => rfl
  have s5 : WS4_0_5 R x2 x3 x4 = false := F.no
  rcases G with ⟨k, B⟩ | ⟨n, L, T, N, f, S, B⟩
  · constructor
    · exact hO _ (by rw [B.w63, B.w64, B.w65, B.z8, ow]; rfl) B.w62 rfl
    · unfold S4_0
      rw [show WS4_0_14 R x0 x1 x2 x3 x4 = true from B.w63, show WS4_0_15 R x0 x1 x2 x3 x4 = k from B.w64, B.z8, B.z0, sw]; rfl
  obtain ⟨a20, b20⟩ := looksE (e := x1) (n := n) (by have := B.n512; omega) B.ok x5
  obtain ⟨j, a19, b19, e19⟩ := ofE (e := x1) (n := n) (by have := B.n512; omega) B.ok x5
  have s11 : WS4_0_11 R x0 x1 = true := B.w52
  have s18 : WS4_0_18 R x0 x1 = true := by
    show R.bite (R.zlt (R.zc 512) (R.llen x1)) (R.bc false) (R.bite (WO3_28 R x0 x1) (R.bc false) (R.bc true)) = true
    rw [B.len, B.z512, B.w28]; rfl
  have s19 : WS4_0_19 R x1 = x1 := by unfold WS4_0_19; rw [lsub_all, cat_nil]
  have s20 : WS4_0_20 R x0 x1 x5 = [.b false, .z (lastT x1 x5 n), .z (n : Int)] := by unfold WS4_0_20; rw [s11, s18, s19, B.len]; exact b20
  have s21 : WS4_0_21 R x0 x1 x5 = [.z 0, .z (j : Int)] := by unfold WS4_0_21; rw [s18, s19, B.len]; exact b19
  have s22 : WS4_0_22 R x2 x3 x4 = E := F.is
  have s23 : WS4_0_23 R x0 x1 x2 x3 x4 = R.bnot E := by unfold WS4_0_23; rw [s11, s22]; rfl
  have s24 : WS4_0_24 R x0 x1 x2 x3 x4 = R.zite (R.bnot E) (R.zc (-1)) (n : Int) := by unfold WS4_0_24; rw [s23, s19, B.len]
  have n20 : nthZ (D := R) [.b false, .z (lastT x1 x5 n), .z (n : Int)] 2 = (n : Int) := rfl
  have m20 : nthZ (D := R) [.b false, .z (lastT x1 x5 n), .z (n : Int)] 1 = lastT x1 x5 n := rfl
  have n21 : nthZ (D := R) [.z 0, .z (j : Int)] 1 = (j : Int) := rfl
  have z : R.zlt (n : Int) (n : Int) = false := zltF (Int.lt_irrefl _)
  have zn0 : R.zlt (n : Int) (R.zc 0) = false := zltF (show ¬ (n : Int) < 0 by omega)
  have znn : R.zle (n : Int) (n : Int) = true := zleT (Int.le_refl _)
  have eqn : R.zeq (n : Int) (n : Int) = true := zeqT rfl
  have eql : R.zeq (lastT x1 x5 n) (lastT x1 x5 n) = true := zeqT rfl
  -- the code's names are the page's
  have v52 : WO4_52 R x0 x1 = true := s11
  have v66 : WO4_66 R x0 x1 = true := s18
  have v32 : WO4_32 R x1 = x1 := s19
  have v29 : WO4_29 R x2 x3 x4 = E := s22
  have v69 : WO4_69 R x0 x1 = true := by unfold WO4_69; rw [v52, v66]; rfl
  have v67 : WO4_67 R x0 x1 x5 = true := by unfold WO4_67; rw [v52, v66, v32, B.len]; exact a20
  have v68 : WO4_68 R x0 x1 x5 = [.b false, .z (lastT x1 x5 n), .z (n : Int)] := s20
  have v70 : WO4_70 R x0 x1 = false := by unfold WO4_70; rw [v52, B.len, zn0]; rfl
  have v71 : WO4_71 R x0 x1 x5 = true := by unfold WO4_71; rw [v66, v32, B.len]; exact a19
  have vm : R.bite x4 (WO4_3 R x2 x3) (R.bc true) = true := F.may
  have v72 : WO4_72 R x0 x1 x2 x3 x4 x5 = true := by
    unfold WO4_72
    rw [v67, v68, n20, B.len, z, v52, v69, v29, v66, vm, v70, v32, B.len, znn, ow, sw, v71]
    cases E <;> rfl
  constructor
  · refine hO _ ?_ B.w62 rfl
    rw [B.w63, v72]
    generalize R.band (R.bnot false) _ = q
    cases q <;> rfl
  · have s26 : WS4_0_26 R x0 x1 x2 x3 x4 x5 = true := by
      unfold WS4_0_26 WS4_0_25
      rw [s20, n20, m20, B.len, z, sw, s11, s21, n21, s19, B.len, e19, s23, s22, s2, s24, zn0, znn]
      cases E with
      | true =>
        show R.bite false (R.bc false) (R.bite (R.bite (R.bite (R.bite true (R.zeq (lastT x1 x5 n) (lastT x1 x5 n)) (R.bc false)) (R.beq true true) (R.bc false)) (R.bite true (R.bite (R.zeq (n : Int) (n : Int)) (R.bc true) _) _) (R.bc false)) _ (R.bc false)) = true
        rw [eql, eqn]; rfl
      | false =>
        show R.bite false (R.bc false) (R.bite (R.bite (R.bite (R.bite true (R.zeq (lastT x1 x5 n) (lastT x1 x5 n)) (R.bc false)) (R.beq false false) (R.bc false)) _ (R.bc false)) _ (R.bc false)) = true
        rw [eql]; rfl
    unfold S4_0
    rw [show WS4_0_14 R x0 x1 x2 x3 x4 = false from B.w63, s26]
    generalize R.band (R.bnot false) _ = q
    cases q <;> rfl

end Go.Proofs.Ytachcmfgjjoimaa
