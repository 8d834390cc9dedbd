-- printed for this claim out of the translation
import Derived.Test.YteggnboikjjaiaaPH2x0
namespace Go.Proofs.Yteggnboikjjaiaa.PH2
open Go.RowKit Go.Proofs.YteggnboikjjaiaaW.PrintWords Go.Proofs.YteggnboikjjaiaaW.PrintLast Go.Proofs.YteggnboikjjaiaaW.PrintMore
attribute [local go_sem] max2_int min2_int max_two min_two max_three min_three max_four min_four   -- for this text's walks alone
set_option linter.unusedVariables false
set_option linter.unusedSimpArgs false

/-! ### impl_MassesOk: function 18 -/
def impl_MassesOk.f (l0 : List S68) : Option (Bool) := some (decide ((l0.length : Int) ≤ 40) && l0.all fun x => Cf.ok_MassesOk x.f0 x.f1 x.f2)
instance : Inhabited S68 := ⟨z68⟩
theorem impl_MassesOk.calls (A0 : Option Addr) (c0 : Nat) (l0 : List S68) (r : Bool) (w : World) (hr0 : Kd.C k68 w A0 l0.length l0) (hc0 : l0.length ≤ c0) (h : impl_MassesOk.f l0 = some r) :
    Calls Try.prog 18 #[.slice A0 l0.length c0] w fun e w' => e = .returned (.bool r) ∧ Below w.heap.size w w' := by
  obtain rfl := Option.some.inj h
  refine Cf.MassesOk_any (fun x : S68 => x.f0) (fun x => x.f1) (fun x => x.f2) A0 c0 l0 w hr0.2.1 (fun j hj => ?_)
  obtain ⟨ad, cs, e, hl, hK, hc⟩ := Kd.C_get hr0 z68 (j : Int) (by omega) (by omega)
  obtain rfl := k68_open hK
  refine ⟨ad, e, fun i v hi => ?_⟩
  have e2 : l0.getD (j : Int).toNat z68 = l0[j]! := by simp [List.getD_eq_getElem?_getD, hj]
  rw [e2] at hc
  have := hc i v hi
  rwa [Int.toNat_natCast] at this

end Go.Proofs.Yteggnboikjjaiaa.PH2
