/- The plain part: what the program's and the reference's HullOk compute is the same. -/
import Derived.Test.YteggnboikjjaiaaHp
namespace Go.Proofs.Yteggnboikjjaiaa.Pure
open Go.RowKit Go.Proofs.Yteggnboikjjaiaa.PH1 Go.Proofs.YteggnboikjjaiaaW.PrintWords Go.Proofs.Yteggnboikjjaiaa.Hp
theorem FnExactHullOk : ∀ (a0_0 : Int) (a0_1 : Int) (l0_2 : List (List Int)), l0_2.length ≤ 9223372036854775807 → (∀ x ∈ l0_2, x.length ≤ 9223372036854775807) → ∃ k, laws_FnExactHullOk.f k a0_0 a0_1 l0_2 = some true := by
  intro a b l hn hr
  refine Ev.rounds (g := fun k => laws_FnExactHullOk.f k a b l) ?_
  unfold laws_FnExactHullOk.f
  refine Ev.bind (szHull a b l 1048576 (by omega) (by omega) hn hr) ?_
  by_cases hs : sizeH l ≤ 1048576
  · have e : szOf (sizeH l) 1048576 = 1048576 - (sizeH l : Int) := by unfold szOf; rw [if_pos (by omega)]
    have hl : l.length ≤ 1048576 := by unfold sizeH at hs; omega
    have hx : ∀ x ∈ l, x.length ≤ 1048576 := fun x hx => by have := row_le l x hx; unfold sizeH at hs; omega
    refine Ev.congr (fun k => by rw [e, if_neg (by omega)]) ?_
    refine Ev.bind (toHull a b l hl hx) (Ev.bind (spec_ok a b l hn hr) (Ev.bind (toHull a b l hl hx) (Ev.bind (impl_ok a b l hn) ?_)))
    refine Ev.congr (fun k => by rw [if_neg (by simp)]) ?_
    exact Ev.bind (toHull a b l hl hx) (Ev.bind (eqHull a b l hl hx) (Ev.const fun _ => by rw [if_pos rfl]))
  · have e : szOf (sizeH l) 1048576 = -1 := by unfold szOf; rw [if_neg (by omega)]
    exact Ev.const fun k => by rw [e, if_pos (by omega)]
end Go.Proofs.Yteggnboikjjaiaa.Pure
