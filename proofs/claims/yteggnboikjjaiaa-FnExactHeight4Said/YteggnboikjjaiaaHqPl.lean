/- The plain part for Plane and Inertia3. -/
import Derived.Test.YteggnboikjjaiaaHq
import Derived.Test.YteggnboikjjaiaaPH2x13
import Derived.Test.YteggnboikjjaiaaPH2x21
import Derived.Test.YteggnboikjjaiaaPH2x22
namespace Go.Proofs.Yteggnboikjjaiaa.Hq
open Go.RowKit Go.Proofs.Yteggnboikjjaiaa.PH2 Go.Proofs.YteggnboikjjaiaaW.PrintWords Go.Proofs.Yteggnboikjjaiaa.Hp Go.Proofs.Yteggnboikjjaiaa.Cf Go.Proofs.Yteggnboikjjaiaa.Pl
set_option linter.unusedVariables false
set_option linter.unusedSimpArgs false
theorem plane_loop {s r : Int} {l : List (List Int)} (ho : okHull s r l = true) (M : Nat) (hM : M < (l.headD []).length) (d : Nat) : ∀ i : Nat, i + 1 + d = l.length → Ev (fun k => spec_Plane.l0 k M (stripAcc addG s l M i) i s r l) (stripAcc addG s l M (l.length - 1)) := by
  have hL := okHull_len ho
  have hrow : ∀ k : Nat, k < l.length → ((rd_L1 l (k : Int)).length : Int) = ((l.headD []).length : Int) := fun k hk => by rw [rdL_getD, hL.2.2.1 k hk]
  induction d with
  | zero =>
    intro i hd
    refine Ev.ret fun k => ?_
    simp only [spec_Plane.l0]
    rw [wk (n := l.length) (by omega) (by omega), if_neg (by omega)]
    have : i = l.length - 1 := by omega
    rw [this]
  | succ d ih =>
    intro i hd
    refine Ev.step (f := fun k => spec_Plane.l0 k M (stripAcc addG s l M (i + 1)) ((i + 1 : Nat) : Int) s r l) (fun k => ?_) (ih (i + 1) (by omega))
    simp only [spec_Plane.l0]
    rw [wk (n := l.length) (by omega) (by omega), if_pos (by omega), if_pos (by omega), if_pos (by omega), if_pos (by omega), hrow i (by omega), if_pos (by omega), if_pos (by omega), hrow (i + 1) (by omega), if_pos (by omega), rd_cell, rd_cell]
    rfl
theorem plane_spec (s r m : Int) (l : List (List Int)) : Ev (fun k => spec_Plane.f k s r l m) (planeF s r l m) := by
  unfold spec_Plane.f planeF
  rw [swater]
  simp only [Option.bind_some]
  cases hw : okWater s r l m
  · exact Ev.const fun _ => by simp
  · obtain ⟨M, rfl, hM, ho⟩ := okWater_facts hw
    have hL := okHull_len ho
    simp only [if_true, Int.toNat_natCast]
    exact plane_loop ho M hM (l.length - 1) 0 (by omega)
end Go.Proofs.Yteggnboikjjaiaa.Hq
namespace Go.Proofs.Yteggnboikjjaiaa.Pure
open Go.RowKit Go.Proofs.Yteggnboikjjaiaa.PH2 Go.Proofs.YteggnboikjjaiaaW.PrintWords Go.Proofs.Yteggnboikjjaiaa.Hp Go.Proofs.Yteggnboikjjaiaa.Hq
theorem FnExactPlane : ∀ (a0_0 : Int) (a0_1 : Int) (l0_2 : List (List Int)) (a1 : Int), ∃ k, laws_FnExactPlane.f k a0_0 a0_1 l0_2 a1 = some true := by
  intro a b l m
  refine Ev.rounds (g := fun k => laws_FnExactPlane.f k a b l m) ?_
  exact hull_law (fun k x y z => spec_Plane.f k x y z m) (fun k x y z => impl_Plane.f x y z m) a b l _ (fun _ => plane_spec a b m l) (fun _ => Ev.const fun _ => rfl)
end Go.Proofs.Yteggnboikjjaiaa.Pure
