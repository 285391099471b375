/- The law TriBetter over floats alone. -/
import Derived.Test.YtnkpmpghoblkjaaCm
namespace Go.Proofs.Ytnkpmpghoblkjaa
open Go.Ev

theorem betterE (a0 : Int) (a1 a2 a3 : Fl) (a4 : Int) (a5 a6 a7 : Fl) : S11_0 R a0 a1 a2 a3 a4 a5 a6 a7 = S12_0 R a0 a1 a4 a5 := by
  simp only [S11_0, S12_0]
  generalize (ford a2 a6 == some .eq && (ford a3 a7 == some .eq && true)) = E
  by_cases e : a0 = a4
  · subst e
    have h1 : decide (a0 < a0) = false := by simp
    have h2 : (a0 == a0) = true := by simp
    rw [h1, h2]
    generalize decide (a0 < 0) = b0
    cases ford a1 a5 with
    | none => cases b0 <;> cases E <;> rfl
    | some o => cases o <;> cases b0 <;> cases E <;> rfl
  · have h2 : (a0 == a4) = false := by simpa using e
    rw [h2]
    generalize decide (a0 < 0) = b0
    generalize decide (a4 < 0) = b4
    generalize decide (a0 < a4) = bl
    cases ford a1 a5 with
    | none => cases b0 <;> cases b4 <;> cases bl <;> rfl
    | some o => cases o <;> cases b0 <;> cases b4 <;> cases bl <;> rfl

theorem better_iff (a0 : Int) (a1 : Fl) (a4 : Int) (a5 : Fl) : S12_0 R a0 a1 a4 a5 = true ↔ ¬ a0 < 0 ∧ (a4 < 0 ∨ (∃ a b, fkey a1 = some a ∧ fkey a5 = some b ∧ a < b) ∨ ((∃ a b, fkey a1 = some a ∧ fkey a5 = some b ∧ a = b) ∧ a0 < a4)) := by
  rw [← flt_iff, ← feq_iff]
  simp only [S12_0]
  by_cases n0 : a0 < 0 <;> by_cases n4 : a4 < 0 <;> by_cases l : a0 < a4 <;> cases (ford a1 a5 == some .lt) <;> cases (ford a1 a5 == some .eq) <;> simp [n0, n4, l]

theorem law_TriBetter (x0 : Int) (x1 x2 x3 : Fl) (x4 : Int) (x5 x6 x7 : Fl) (x8 : Int) (x9 x10 x11 : Fl) (_k0 : okInt .i64 x0) (_k4 : okInt .i64 x4) (_k8 : okInt .i64 x8) : S4_0 R x0 x1 x2 x3 x4 x5 x6 x7 x8 x9 x10 x11 = true := by
  simp only [S4_0, betterE, awake10]
  have haa : S12_0 R x0 x1 x0 x1 = false := by
    cases h : S12_0 R x0 x1 x0 x1 with
    | false => rfl
    | true =>
      exfalso
      obtain ⟨h1, h2 | ⟨a, b, e1, e2, e3⟩ | ⟨_, e3⟩⟩ := (better_iff _ _ _ _).1 h
      · omega
      · rw [e1] at e2; cases e2; omega
      · omega
  have hasym : S12_0 R x0 x1 x4 x5 = true → S12_0 R x4 x5 x0 x1 = true → False := fun h g => by
    obtain ⟨h1, h2⟩ := (better_iff _ _ _ _).1 h
    obtain ⟨g1, g2⟩ := (better_iff _ _ _ _).1 g
    rcases h2 with h2 | ⟨a, b, e1, e2, e3⟩ | ⟨⟨a, b, e1, e2, e3⟩, e4⟩ <;> rcases g2 with g2 | ⟨c, d, k1, k2, k3⟩ | ⟨⟨c, d, k1, k2, k3⟩, k4⟩ <;> first | omega | skip
    all_goals (rw [e1] at k2; rw [e2] at k1; cases k1; cases k2; omega)
  have htrans : S12_0 R x0 x1 x4 x5 = true → S12_0 R x4 x5 x8 x9 = true → S12_0 R x0 x1 x8 x9 = true := fun h g => by
    obtain ⟨h1, h2⟩ := (better_iff _ _ _ _).1 h
    obtain ⟨g1, g2⟩ := (better_iff _ _ _ _).1 g
    refine (better_iff _ _ _ _).2 ⟨h1, ?_⟩
    rcases g2 with g2 | ⟨c, d, k1, k2, k3⟩ | ⟨⟨c, d, k1, k2, k3⟩, k4⟩
    · exact .inl g2
    · rcases h2 with h2 | ⟨a, b, e1, e2, e3⟩ | ⟨⟨a, b, e1, e2, e3⟩, e4⟩
      · omega
      · rw [e2] at k1; cases k1; exact .inr (.inl ⟨a, d, e1, k2, by omega⟩)
      · rw [e2] at k1; cases k1; exact .inr (.inl ⟨a, d, e1, k2, by omega⟩)
    · rcases h2 with h2 | ⟨a, b, e1, e2, e3⟩ | ⟨⟨a, b, e1, e2, e3⟩, e4⟩
      · omega
      · rw [e2] at k1; cases k1; exact .inr (.inl ⟨a, d, e1, k2, by omega⟩)
      · rw [e2] at k1; cases k1; exact .inr (.inr ⟨⟨a, d, e1, k2, by omega⟩, by omega⟩)
  rw [haa]
  cases hab : S12_0 R x0 x1 x4 x5 <;> cases hba : S12_0 R x4 x5 x0 x1 <;> cases hbc : S12_0 R x4 x5 x8 x9 <;> cases hac : S12_0 R x0 x1 x8 x9 <;> first | rfl | skip
  all_goals first
    | exact (hasym hab hba).elim
    | (have := htrans hab hbc; rw [hac] at this; cases this)
end Go.Proofs.Ytnkpmpghoblkjaa
