/- The plain part for Along4. -/
import Derived.Test.YteggnboikjjaiaaHqSt
import Derived.Test.YteggnboikjjaiaaPH2x33
import Derived.Test.YteggnboikjjaiaaPH2x34
import Derived.Test.YteggnboikjjaiaaPH2x35
namespace Go.Proofs.Yteggnboikjjaiaa.Hq
open Go.RowKit Go.Proofs.Yteggnboikjjaiaa.PH2 Go.Proofs.YteggnboikjjaiaaW.PrintWords Go.Proofs.Yteggnboikjjaiaa.Hp Go.Proofs.Yteggnboikjjaiaa.Cf Go.Proofs.Yteggnboikjjaiaa.Pl
set_option linter.unusedVariables false
set_option linter.unusedSimpArgs false
def alongL (s : Int) : Nat → Int → List Int → Int
  | _, acc, [] => acc
  | i, acc, x :: t => alongL s (i + 1) (wrap64 (acc + wrap64 (wrap64 (x * s) * wrap64 (wrap64 (2 * (i : Int)) + 1)))) t
theorem along_spec_loop (s r : Int) (h : List (List Int)) (l : List Int) (hn : l.length ≤ 9223372036854775807) (d : Nat) : ∀ (i : Nat) (acc : Int), i + d = l.length → Ev (fun k => spec_Along4.l0 k l acc i s r h) (alongL s i acc (l.drop i)) := by
  induction d with
  | zero =>
    intro i acc hd
    refine Ev.ret fun k => ?_
    simp only [spec_Along4.l0]
    rw [if_neg (by omega), List.drop_of_length_le (by omega)]
    rfl
  | succ d ih =>
    intro i acc hd
    have hi : i < l.length := by omega
    rw [drop_at l i hi]
    refine Ev.step (fun k => ?_) (ih (i + 1) _ (by omega))
    simp only [spec_Along4.l0]
    rw [if_pos (by omega), if_pos (by omega), rd_at l i hi, wk (n := l.length) (by omega) hn]
theorem along_impl_loop (s r : Int) (h : List (List Int)) (l : List Int) (hn : l.length ≤ 9223372036854775807) (d : Nat) : ∀ (i : Nat) (acc : Int), i + d = l.length → Ev (fun k => impl_Along4.l0 k acc l l.length i s r h) (alongL s i acc (l.drop i)) := by
  induction d with
  | zero =>
    intro i acc hd
    refine Ev.ret fun k => ?_
    simp only [impl_Along4.l0]
    rw [if_neg (by omega), List.drop_of_length_le (by omega)]
    rfl
  | succ d ih =>
    intro i acc hd
    have hi : i < l.length := by omega
    rw [drop_at l i hi]
    refine Ev.step (fun k => ?_) (ih (i + 1) _ (by omega))
    simp only [impl_Along4.l0]
    rw [if_pos (by omega), if_pos (by omega), if_pos (by omega), rd_at l i hi, wk (n := l.length) (by omega) hn]
theorem strips2_len' (s r m : Int) (l : List (List Int)) : (strips2F s r l m).length ≤ 12 := by
  unfold strips2F
  cases hw : okWater s r l m
  · simp
  · obtain ⟨M, rfl, hM, ho⟩ := okWater_facts hw
    have hL := okHull_len ho
    simp [stripsL]
    omega
end Go.Proofs.Yteggnboikjjaiaa.Hq
namespace Go.Proofs.Yteggnboikjjaiaa.Pure
open Go.RowKit Go.Proofs.Yteggnboikjjaiaa.PH2 Go.Proofs.YteggnboikjjaiaaW.PrintWords Go.Proofs.Yteggnboikjjaiaa.Hp Go.Proofs.Yteggnboikjjaiaa.Hq
theorem FnExactAlong4 : ∀ (a0_0 : Int) (a0_1 : Int) (l0_2 : List (List Int)) (a1 : Int), ∃ k, laws_FnExactAlong4.f k a0_0 a0_1 l0_2 a1 = some true := by
  intro a b l m
  refine Ev.rounds (g := fun k => laws_FnExactAlong4.f k a b l m) ?_
  have h := strips2_len' a b m l
  refine hull_law (fun k x y z => spec_Along4.f k x y z m) (fun k x y z => impl_Along4.f k x y z m) a b l (alongL a 0 0 (strips2F a b l m)) (fun _ => ?_) (fun _ => ?_)
  · unfold spec_Along4.f
    have h2 := along_spec_loop a b l (strips2F a b l m) (by omega) (strips2F a b l m).length 0 0 (by omega)
    rw [List.drop_zero] at h2
    exact Ev.bind (strips2_spec a b m l) h2
  · unfold impl_Along4.f
    have h2 := along_impl_loop a b l (strips2F a b l m) (by omega) (strips2F a b l m).length 0 0 (by omega)
    rw [List.drop_zero] at h2
    exact Ev.bind (strips2_impl a b m l) h2
end Go.Proofs.Yteggnboikjjaiaa.Pure
