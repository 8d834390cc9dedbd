/- The plain part for Height4. -/
import Derived.Test.YteggnboikjjaiaaHqPl
import Derived.Test.YteggnboikjjaiaaPH2x36
import Derived.Test.YteggnboikjjaiaaPH2x37
import Derived.Test.YteggnboikjjaiaaPH2x38
namespace Go.Proofs.Yteggnboikjjaiaa.Hq
open Go.RowKit Go.Proofs.Yteggnboikjjaiaa.PH2 Go.Proofs.YteggnboikjjaiaaW.PrintWords Go.Proofs.Yteggnboikjjaiaa.Hp Go.Proofs.Yteggnboikjjaiaa.Cf Go.Proofs.Yteggnboikjjaiaa.Pl
set_option linter.unusedVariables false
set_option linter.unusedSimpArgs false
def heF (s r : Int) (l : List (List Int)) : Nat → Int
  | 0 => 0
  | i + 1 => wrap64 (heF s r l i + wrap64 (wrap64 (wrap64 (r * wrap64 (planeF s r l i + planeF s r l ((i + 1 : Nat) : Int))) * r) * wrap64 (wrap64 (2 * (i : Int)) + 1)))
theorem he_spec_loop (s r : Int) (l : List (List Int)) (M : Nat) (hM : M < 9223372036854775807) (d : Nat) : ∀ i : Nat, i + d = M → Ev (fun k => spec_Height4.l0 k M (heF s r l i) i s r l) (heF s r l M) := by
  induction d with
  | zero =>
    intro i hd
    refine Ev.ret fun k => ?_
    simp only [spec_Height4.l0]
    rw [if_neg (by omega)]
    have : i = M := by omega
    rw [this]
  | succ d ih =>
    intro i hd
    refine Ev.step (f := fun k => (spec_Plane.f k s r l i).bind fun t => (spec_Plane.f k s r l ((i + 1 : Nat) : Int)).bind fun u => spec_Height4.l0 k M (wrap64 (heF s r l i + wrap64 (wrap64 (wrap64 (r * wrap64 (t + u)) * r) * wrap64 (wrap64 (2 * (i : Int)) + 1)))) ((i + 1 : Nat) : Int) s r l) (fun k => ?_)
      (Ev.bind (plane_spec s r i l) (Ev.bind (plane_spec s r _ l) (ih (i + 1) (by omega))))
    simp only [spec_Height4.l0]
    rw [if_pos (by omega), wk (n := M) (by omega) (by omega)]
theorem he_impl_loop (s r : Int) (l : List (List Int)) (M : Nat) (hM : M < 9223372036854775807) (d : Nat) : ∀ i : Nat, i + d = M → Ev (fun k => impl_Height4.l0 k (heF s r l i) M i s r l) (heF s r l M) := by
  induction d with
  | zero =>
    intro i hd
    refine Ev.ret fun k => ?_
    simp only [impl_Height4.l0]
    rw [if_neg (by omega)]
    have : i = M := by omega
    rw [this]
  | succ d ih =>
    intro i hd
    refine Ev.step (f := fun k => impl_Height4.l0 k (heF s r l (i + 1)) M ((i + 1 : Nat) : Int) s r l) (fun k => ?_) (ih (i + 1) (by omega))
    simp only [impl_Height4.l0]
    unfold impl_Plane.f
    rw [if_pos (by omega), wk (n := M) (by omega) (by omega)]
    rfl
def heightF (s r : Int) (l : List (List Int)) (m : Int) : Int := if okWater s r l m = true then heF s r l m.toNat else 0
theorem height_spec (s r m : Int) (l : List (List Int)) : Ev (fun k => spec_Height4.f k s r l m) (heightF s r l m) := by
  unfold spec_Height4.f heightF
  rw [swater]
  simp only [Option.bind_some]
  cases hw : okWater s r l m
  · exact Ev.const fun _ => by simp
  · obtain ⟨M, rfl, hM, ho⟩ := okWater_facts hw
    have hL := okHull_len ho
    simp only [if_true, Int.toNat_natCast]
    exact he_spec_loop s r l M (by omega) M 0 (by omega)
theorem height_impl (s r m : Int) (l : List (List Int)) : Ev (fun k => impl_Height4.f k s r l m) (heightF s r l m) := by
  unfold impl_Height4.f heightF impl_waterOk.f
  simp only [Option.bind_some]
  cases hw : okWater s r l m
  · exact Ev.const fun _ => by simp
  · obtain ⟨M, rfl, hM, ho⟩ := okWater_facts hw
    have hL := okHull_len ho
    simp only [if_true, Int.toNat_natCast]
    exact he_impl_loop s r l M (by omega) M 0 (by omega)
end Go.Proofs.Yteggnboikjjaiaa.Hq
namespace Go.Proofs.Yteggnboikjjaiaa.Pure
open Go.RowKit Go.Proofs.Yteggnboikjjaiaa.PH2 Go.Proofs.YteggnboikjjaiaaW.PrintWords Go.Proofs.Yteggnboikjjaiaa.Hp Go.Proofs.Yteggnboikjjaiaa.Hq
theorem FnExactHeight4 : ∀ (a0_0 : Int) (a0_1 : Int) (l0_2 : List (List Int)) (a1 : Int), ∃ k, laws_FnExactHeight4.f k a0_0 a0_1 l0_2 a1 = some true := by
  intro a b l m
  refine Ev.rounds (g := fun k => laws_FnExactHeight4.f k a b l m) ?_
  exact hull_law (fun k x y z => spec_Height4.f k x y z m) (fun k x y z => impl_Height4.f k x y z m) a b l _ (fun _ => height_spec a b m l) (fun _ => height_impl a b m l)
end Go.Proofs.Yteggnboikjjaiaa.Pure
