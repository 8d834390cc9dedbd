/- The plain part for the law MassesOk. -/
import Derived.Test.YteggnboikjjaiaaHqMa
import Derived.Test.YteggnboikjjaiaaPH2x51
namespace Go.Proofs.Yteggnboikjjaiaa.Pure
open Go.RowKit Go.Proofs.Yteggnboikjjaiaa.PH2 Go.Proofs.YteggnboikjjaiaaW.PrintWords Go.Proofs.Yteggnboikjjaiaa.Hp Go.Proofs.Yteggnboikjjaiaa.Hq
theorem FnExactMassesOk : ∀ (l0 : List (S71)), l0.length ≤ maxLen → ∃ k, laws_FnExactMassesOk.f k l0 = some true := by
  intro l hn
  have hm : maxLen = 9223372036854775807 := rfl
  refine Ev.rounds (g := fun k => laws_FnExactMassesOk.f k l) ?_
  unfold laws_FnExactMassesOk.f
  rw [szMassS l 1048576 (by omega) (by omega) (by omega)]
  simp only [Option.bind_some]
  unfold szOf
  by_cases h : (l.length : Int) ≤ 1048576
  · refine Ev.congr (fun k => by rw [if_pos h, if_neg (by omega)]) ?_
    have hl : l.length ≤ 1048576 := by omega
    have hl2 : (l.map cvMass).length ≤ 9223372036854775807 := by rw [List.length_map]; omega
    refine Ev.bind (toMassS l hl) (Ev.bind (spec_MassesOk_ok _ hl2) (Ev.bind (toMassS l hl) ?_))
    unfold impl_MassesOk.f
    simp only [Option.bind_some, bne_self_eq_false, Bool.false_eq_true, if_false]
    exact Ev.bind (toMassS l hl) (Ev.bind (eqMassS _ hl2) (Ev.const fun _ => by rw [if_pos rfl]))
  · exact Ev.const fun k => by rw [if_neg h, if_pos (by omega)]
end Go.Proofs.Yteggnboikjjaiaa.Pure
