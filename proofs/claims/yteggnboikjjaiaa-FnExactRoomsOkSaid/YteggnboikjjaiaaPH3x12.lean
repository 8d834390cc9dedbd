-- printed for this claim out of the translation
import Derived.Test.YteggnboikjjaiaaPH3x0
namespace Go.Proofs.Yteggnboikjjaiaa.PH3
open Go.RowKit Go.Proofs.YteggnboikjjaiaaW.PrintWords Go.Proofs.YteggnboikjjaiaaW.PrintLast Go.Proofs.YteggnboikjjaiaaW.PrintMore
attribute [local go_sem] max2_int min2_int max_two min_two max_three min_three max_four min_four   -- for this text's walks alone
set_option linter.unusedVariables false
set_option linter.unusedSimpArgs false

/-! ### spec_HullOk: function 24 -/
def spec_HullOk.f (a0_0 : Int) (a0_1 : Int) (l0_2 : List (List Int)) : Option (Bool) := some (Hp.okHull a0_0 a0_1 l0_2)
theorem spec_HullOk.calls (a0_0 : Int) (a0_1 : Int) (A0_2 : Option Addr) (c0_2 : Nat) (l0_2 : List (List Int)) (r : Bool) (w : World) (hr0_2 : Kd.C (Kd.slice 3 (Kd.int .i64)) w A0_2 l0_2.length l0_2) (hc0_2 : l0_2.length ≤ c0_2) (h : spec_HullOk.f a0_0 a0_1 l0_2 = some r) :
    Calls Try.prog 24 #[.agg #[.int .i64 a0_0, .int .i64 a0_1, .slice A0_2 l0_2.length c0_2]] w fun e w' => e = .returned (.bool r) ∧ Below w.heap.size w w' := by
  obtain ⟨k, hk⟩ : ∃ k, PH1.spec_HullOk.f k a0_0 a0_1 l0_2 = some r := by
    rw [← h]
    exact Ev.rounds (Hp.spec_ok a0_0 a0_1 l0_2 hr0_2.2.1 (Op.rows_le hr0_2))
  exact PH1.spec_HullOk.calls k a0_0 a0_1 A0_2 c0_2 l0_2 r w hr0_2 hc0_2 hk

end Go.Proofs.Yteggnboikjjaiaa.PH3
