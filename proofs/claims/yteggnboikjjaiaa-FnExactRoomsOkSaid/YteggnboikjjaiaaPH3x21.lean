-- printed for this claim out of the translation
import Derived.Test.YteggnboikjjaiaaPH3x0
namespace Go.Proofs.Yteggnboikjjaiaa.PH3
open Go.RowKit Go.Proofs.YteggnboikjjaiaaW.PrintWords Go.Proofs.YteggnboikjjaiaaW.PrintLast Go.Proofs.YteggnboikjjaiaaW.PrintMore
attribute [local go_sem] max2_int min2_int max_two min_two max_three min_three max_four min_four   -- for this text's walks alone
set_option linter.unusedVariables false
set_option linter.unusedSimpArgs false

/-! ### impl_RoomsOk: function 49 -/
instance : Inhabited S84 := ⟨z84⟩
def impl_RoomsOk.f (a0_0 : Int) (a0_1 : Int) (l0_2 : List (List Int)) (l1 : List S84) : Option (Bool) := some (Hp.okHull a0_0 a0_1 l0_2 && (decide ((l1.length : Int) ≤ 8) && Rm.roomsFrom l0_2.length [] (Rm.triples (fun x : S84 => x.f0) (fun x => x.f1) (fun x => x.f2) l1)))
theorem impl_RoomsOk.calls (a0_0 : Int) (a0_1 : Int) (A0_2 : Option Addr) (c0_2 : Nat) (l0_2 : List (List Int)) (A1 : Option Addr) (c1 : Nat) (l1 : List S84) (r : Bool) (w : World) (hr0_2 : Kd.C (Kd.slice 3 (Kd.int .i64)) w A0_2 l0_2.length l0_2) (hc0_2 : l0_2.length ≤ c0_2) (hr1 : Kd.C k84 w A1 l1.length l1) (hc1 : l1.length ≤ c1) (h : impl_RoomsOk.f a0_0 a0_1 l0_2 l1 = some r) :
    Calls Try.prog 49 #[.agg #[.int .i64 a0_0, .int .i64 a0_1, .slice A0_2 l0_2.length c0_2], .slice A1 l1.length c1] w fun e w' => e = .returned (.bool r) ∧ Below w.heap.size w w' := by
  obtain rfl := Option.some.inj h
  refine Rm.rooms_any (fun x : S84 => x.f0) (fun x => x.f1) (fun x => x.f2) a0_0 a0_1 A0_2 c0_2 l0_2 A1 c1 l1 w hr0_2 hc0_2 ⟨fun j hj => ?_⟩ hr1.2.1
  obtain ⟨ad, cs, e, hl, hK, hc⟩ := Kd.C_get hr1 z84 (j : Int) (by omega) (by omega)
  obtain rfl := k84_open hK
  have e2 : l1.getD (j : Int).toNat z84 = l1[j]! := by simp [List.getD_eq_getElem?_getD, hj]
  rw [e2] at hc
  have h0 := hc 0 _ rfl
  have h1 := hc 1 _ rfl
  have h2 := hc 2 _ rfl
  rw [Int.toNat_natCast] at h0 h1 h2
  rw [show k84.sz = 3 from rfl] at h0 h1 h2
  rw [Rm.add_at] at h1 h2
  exact ⟨ad, e, h0, h1, h2⟩

end Go.Proofs.Yteggnboikjjaiaa.PH3
