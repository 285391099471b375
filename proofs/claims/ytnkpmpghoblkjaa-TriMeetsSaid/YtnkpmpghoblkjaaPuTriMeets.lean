/- The law TriMeets over floats alone. -/
import Derived.Test.YtnkpmpghoblkjaaCm
namespace Go.Proofs.Ytnkpmpghoblkjaa
open Go.Ev

theorem det_bad (d : Fl) : (if (ford d (cls 0) == some .eq) then true else !(ford d d == some .eq) : Bool) = (if (ford d (cls 0) == some .lt) then false else !(ford d (cls 0) == some .gt) : Bool) := by
  cases h : ford d (cls 0) with
  | none =>
    rcases ford_none h with g | g
    · rw [g]; rfl
    · rw [zero_self] at g; cases g
  | some o => rw [(ford_some h).1]; cases o <;> rfl

theorem law_TriMeets (x0 x1 x2 x3 x4 x5 x6 x7 x8 x9 x10 x11 x12 x13 x14 : Fl) : S3_0 R x0 x1 x2 x3 x4 x5 x6 x7 x8 x9 x10 x11 x12 x13 x14 = true := by
  have n0 : S29_0 R = cls 0 ∧ S29_1 R = cls 0 ∧ S29_2 R = cls 0 := ⟨rfl, rfl, rfl⟩
  simp only [S3_0, S6_0, S6_1, S6_2, S6_3, S6_4, S7_0, S7_1, S7_2, S7_3, awake10, throughE, boxOfE, dotE, crossE, edgesE, subE, n0, det_bad]
  generalize S9_2 R _ _ _ _ _ _ x9 x10 x11 x12 x13 x14 = ok
  generalize S9_0 R _ _ _ _ _ _ x9 x10 x11 x12 x13 x14 = near
  generalize S9_1 R _ _ _ _ _ _ x9 x10 x11 x12 x13 x14 = far
  generalize S17_0 R (S21_0 R x3 x0) (S21_1 R x4 x1) (S21_2 R x5 x2) _ _ _ = det
  generalize lift2 f64.mul (S17_0 R (S21_0 R x6 x0) (S21_1 R x7 x1) (S21_2 R x8 x2) _ _ _) (lift2 f64.div (cls 4607182418800017408) det) = t
  generalize lift2 f64.mul (S17_0 R (S21_0 R x9 x0) (S21_1 R x10 x1) (S21_2 R x11 x2) _ _ _) (lift2 f64.div (cls 4607182418800017408) det) = u
  generalize lift2 f64.mul (S17_0 R x12 x13 x14 _ _ _) (lift2 f64.div (cls 4607182418800017408) det) = v
  generalize (if (ford det (cls 0) == some .lt) = true then false else !(ford det (cls 0) == some .gt)) = bad
  generalize (ford (lift2 f64.add u v) (cls 4607182418800017408) == some .lt || ford (lift2 f64.add u v) (cls 4607182418800017408) == some .eq) = b1
  generalize (ford u (cls 4607182418800017408) == some .lt || ford u (cls 4607182418800017408) == some .eq) = b2
  generalize hu : (ford u (cls 0) == some .gt || ford u (cls 0) == some .eq) = b3
  generalize hv : (ford v (cls 0) == some .gt || ford v (cls 0) == some .eq) = b4
  generalize ht : (ford t near == some .gt || ford t near == some .eq) = b5
  generalize hf : (ford t far == some .lt || ford t far == some .eq) = b6
  generalize (ford t (cls 0) == some .gt) = b7
  cases ok
  · simp [zero_self]
  cases bad
  case true => simp [zero_self]
  cases b3
  · simp [zero_self]
  cases b2
  · simp [zero_self]
  cases b4
  · simp [zero_self]
  cases b1
  · simp [zero_self]
  cases b5
  · simp [zero_self]
  cases b6
  · simp [zero_self]
  cases b7
  · simp [zero_self]
  have e1 := ge_some hu
  have e2 := ge_some hv
  have e3 := ge_some ht
  simp [e1, e2, e3]
  exact ⟨by simpa using ht, by simpa using hf⟩
end Go.Proofs.Ytnkpmpghoblkjaa
