-- printed for this claim out of the translation
import Derived.Test.YteggnboikjjaiaaPH3x0
namespace Go.Proofs.Yteggnboikjjaiaa.PH3
open Go.RowKit Go.Proofs.YteggnboikjjaiaaW.PrintWords Go.Proofs.YteggnboikjjaiaaW.PrintLast Go.Proofs.YteggnboikjjaiaaW.PrintMore
attribute [local go_sem] max2_int min2_int max_two min_two max_three min_three max_four min_four   -- for this text's walks alone
set_option linter.unusedVariables false
set_option linter.unusedSimpArgs false

/-! ### laws_toHull: function 25 -/
def laws_toHull.f (a0_0 : Int) (a0_1 : Int) (l0_2 : List (List Int)) : Option (Int × Int × List (List Int)) := if Hp.sizeH l0_2 ≤ 1048576 then some (a0_0, a0_1, l0_2) else none
theorem laws_toHull.calls (a0_0 : Int) (a0_1 : Int) (A0_2 : Option Addr) (c0_2 : Nat) (l0_2 : List (List Int)) (r1 : Int) (r2 : Int) (r3 : List (List Int)) (w : World) (hr0_2 : Kd.C (Kd.slice 3 (Kd.int .i64)) w A0_2 l0_2.length l0_2) (hc0_2 : l0_2.length ≤ c0_2) (h : laws_toHull.f a0_0 a0_1 l0_2 = some (r1, r2, r3)) :
    Calls Try.prog 25 #[.agg #[.int .i64 a0_0, .int .i64 a0_1, .slice A0_2 l0_2.length c0_2]] w fun e w' => ∃ v2_ : Value, e = .returned (.agg #[.int .i64 r1, .int .i64 r2, v2_]) ∧ Kd.S (Kd.slice 3 (Kd.int .i64)) 45 w' w.heap.size (fun _ => True) v2_ r3 ∧ Below w.heap.size w w' := by
  obtain ⟨k, hk⟩ : ∃ k, PH1.laws_toHull.f k a0_0 a0_1 l0_2 = some (r1, r2, r3) := by
    unfold laws_toHull.f at h
    split at h
    · next hb =>
      rw [← h]
      exact Ev.rounds (Hp.toHull a0_0 a0_1 l0_2 (by unfold Hp.sizeH at hb; omega) (fun x hx => by have := Hp.row_le l0_2 x hx; unfold Hp.sizeH at hb; omega))
    · cases h
  exact PH1.laws_toHull.calls k a0_0 a0_1 A0_2 c0_2 l0_2 r1 r2 r3 w hr0_2 hc0_2 hk

end Go.Proofs.Yteggnboikjjaiaa.PH3
