/- The plain part: what the program's and the reference's Moved compute is the same. -/
import Derived.Test.YtfbokdbaondjdaaPFnExactMovedx2
namespace Go.Proofs.Ytfbokdbaondjdaa.Pure
open Go.RowKit Go.Proofs.Ytfbokdbaondjdaa.PFnExactMoved Go.Proofs.YtfbokdbaondjdaaW.PrintWords

theorem mov_in (a b c : Int) : spec_l1In.f a b c = some (decide (b ≤ a ∧ a ≤ c)) := by
  unfold spec_l1In.f
  by_cases h : b ≤ a
  · rw [if_pos h]; simp [h]
  · rw [if_neg h]; simp [h]
theorem mov_in' (a b c : Int) : impl_in.f a b c = some (decide (b ≤ a ∧ a ≤ c)) := by
  unfold impl_in.f
  by_cases h : b ≤ a
  · rw [if_pos h]; simp [h]
  · rw [if_neg h]; simp [h]

theorem mov_ship (a b c d e f : Int) : ∃ r, spec_ShipOk.f a b c d e f = some r ∧ impl_ShipOk.f a b c d e f = some r := by
  unfold spec_ShipOk.f impl_ShipOk.f
  simp only [mov_in, mov_in', Option.bind_some]
  repeat' split
  all_goals exact ⟨_, rfl, rfl⟩

theorem mov_same (a b c d e f m : Int) : ∃ r, spec_Moved.f 1 a b c d e f m = some r ∧ impl_Moved.f 1 a b c d e f m = some r := by
  obtain ⟨r, h1, h2⟩ := mov_ship a b c d e f
  unfold spec_Moved.f impl_Moved.f
  simp only [h1, h2, Option.bind_some, mov_in, mov_in']
  have key : ∀ x : Bool, ∃ r, spec_Moved.j0 1 m x a b c d e f = some r ∧ impl_Moved.j0 1 m x a b c d e f = some r := by
    intro x
    simp only [spec_Moved.j0, impl_Moved.j0]
    cases x
    · simp only [Bool.false_eq_true, if_false]
      rw [Int.mul_comm m c, Int.mul_comm m d]
      obtain ⟨s, h3, h4⟩ := mov_ship (wrap64 (a + wrap64 (c * m))) (wrap64 (b + wrap64 (d * m))) c d e f
      simp only [h3, h4, Option.bind_some]
      split <;> exact ⟨_, rfl, rfl⟩
    · exact ⟨_, rfl, rfl⟩
  cases r
  · exact key true
  · exact key _

theorem FnExactMoved : ∀ (a0_0 : Int) (a0_1 : Int) (a0_2 : Int) (a0_3 : Int) (a0_4 : Int) (a0_5 : Int) (a1 : Int), ∃ k, laws_FnExactMoved.f k a0_0 a0_1 a0_2 a0_3 a0_4 a0_5 a1 = some true := by
  intro a b c d e f m
  obtain ⟨r, h1, h2⟩ := mov_same a b c d e f m
  refine ⟨1, ?_⟩
  unfold laws_FnExactMoved.f laws_toShip.f laws_eqShip.f
  simp only [Option.bind_some, h1, h2]
  simp
end Go.Proofs.Ytfbokdbaondjdaa.Pure
