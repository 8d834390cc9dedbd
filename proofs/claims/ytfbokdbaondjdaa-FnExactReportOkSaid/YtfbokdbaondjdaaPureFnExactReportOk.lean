/- The plain part: what the program's and the reference's ReportOk compute is the same. -/
import Derived.Test.YtfbokdbaondjdaaPFnExactReportOkx1
namespace Go.Proofs.Ytfbokdbaondjdaa.Pure
open Go.RowKit Go.Proofs.Ytfbokdbaondjdaa.PFnExactReportOk Go.Proofs.YtfbokdbaondjdaaW.PrintWords

theorem rep_in (a b c : Int) : spec_l1In.f a b c = some (decide (b ≤ a ∧ a ≤ c)) := by
  unfold spec_l1In.f
  by_cases h : b ≤ a
  · rw [if_pos h]; simp [h]
  · rw [if_neg h]; simp [h]
theorem rep_in' (a b c : Int) : impl_in.f a b c = some (decide (b ≤ a ∧ a ≤ c)) := by
  unfold impl_in.f
  by_cases h : b ≤ a
  · rw [if_pos h]; simp [h]
  · rw [if_neg h]; simp [h]

theorem rep_same (a b c d e f : Int) : ∃ r, spec_ReportOk.f a b c d e f = some r ∧ impl_ReportOk.f a b c d e f = some r := by
  unfold spec_ReportOk.f impl_ReportOk.f impl_idOk.f impl_slotOk.f
  simp only [rep_in, rep_in', Option.bind_some]
  repeat' split
  all_goals exact ⟨_, rfl, rfl⟩

theorem FnExactReportOk : ∀ (a0_0 : Int) (a0_1 : Int) (a0_2 : Int) (a0_3 : Int) (a0_4 : Int) (a0_5 : Int), laws_FnExactReportOk.f a0_0 a0_1 a0_2 a0_3 a0_4 a0_5 = some true := by
  intro a b c d e f
  obtain ⟨r, h1, h2⟩ := rep_same a b c d e f
  unfold laws_FnExactReportOk.f laws_toReport.f
  simp only [Option.bind_some, h1, h2]
  simp
end Go.Proofs.Ytfbokdbaondjdaa.Pure
