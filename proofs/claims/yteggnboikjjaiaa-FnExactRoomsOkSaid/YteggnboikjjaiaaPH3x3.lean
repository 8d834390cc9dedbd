-- printed for this claim out of the translation
import Derived.Test.YteggnboikjjaiaaPH3x0
namespace Go.Proofs.Yteggnboikjjaiaa.PH3
open Go.RowKit Go.Proofs.YteggnboikjjaiaaW.PrintWords Go.Proofs.YteggnboikjjaiaaW.PrintLast Go.Proofs.YteggnboikjjaiaaW.PrintMore
attribute [local go_sem] max2_int min2_int max_two min_two max_three min_three max_four min_four   -- for this text's walks alone
set_option linter.unusedVariables false
set_option linter.unusedSimpArgs false

/-! ### laws_szHull: function 23 -/
def laws_szHull.f (a0_0 : Int) (a0_1 : Int) (l0_2 : List (List Int)) (a1 : Int) : Option (Int) := if 0 ≤ a1 ∧ a1 ≤ 1048576 then some (Hp.szOf (Hp.sizeH l0_2) a1) else none
theorem laws_szHull.calls (a0_0 : Int) (a0_1 : Int) (A0_2 : Option Addr) (c0_2 : Nat) (l0_2 : List (List Int)) (a1 : Int) (r : Int) (w : World) (hr0_2 : Kd.C (Kd.slice 3 (Kd.int .i64)) w A0_2 l0_2.length l0_2) (hc0_2 : l0_2.length ≤ c0_2) (h : laws_szHull.f a0_0 a0_1 l0_2 a1 = some r) :
    Calls Try.prog 23 #[.agg #[.int .i64 a0_0, .int .i64 a0_1, .slice A0_2 l0_2.length c0_2], .int .i64 a1] w fun e w' => e = .returned (.int .i64 r) ∧ Below w.heap.size w w' := by
  obtain ⟨k, hk⟩ : ∃ k, PH1.laws_szHull.f k a0_0 a0_1 l0_2 a1 = some r := by
    unfold laws_szHull.f at h
    split at h
    · next hb =>
      rw [← h]
      exact Ev.rounds (Hp.szHull a0_0 a0_1 l0_2 a1 hb.1 hb.2 hr0_2.2.1 (Op.rows_le hr0_2))
    · cases h
  exact PH1.laws_szHull.calls k a0_0 a0_1 A0_2 c0_2 l0_2 a1 r w hr0_2 hc0_2 hk

end Go.Proofs.Yteggnboikjjaiaa.PH3
