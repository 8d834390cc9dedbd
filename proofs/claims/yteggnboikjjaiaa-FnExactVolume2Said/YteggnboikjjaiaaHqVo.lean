/- The plain part for Volume2, Along4 and Afloat. -/
import Derived.Test.YteggnboikjjaiaaHqSt
import Derived.Test.YteggnboikjjaiaaPH2x27
import Derived.Test.YteggnboikjjaiaaPH2x28
import Derived.Test.YteggnboikjjaiaaPH2x30
import Derived.Test.YteggnboikjjaiaaPH2x31
import Derived.Test.YteggnboikjjaiaaPH2x32
namespace Go.Proofs.Yteggnboikjjaiaa.Hq
open Go.RowKit Go.Proofs.Yteggnboikjjaiaa.PH2 Go.Proofs.YteggnboikjjaiaaW.PrintWords Go.Proofs.Yteggnboikjjaiaa.Hp Go.Proofs.Yteggnboikjjaiaa.Cf Go.Proofs.Yteggnboikjjaiaa.Pl
set_option linter.unusedVariables false
set_option linter.unusedSimpArgs false
def sumL (acc : Int) : List Int → Int
  | [] => acc
  | x :: t => sumL (wrap64 (acc + x)) t
theorem sum_spec_loop (l : List Int) (hn : l.length ≤ 9223372036854775807) (d : Nat) : ∀ (i : Nat) (acc : Int), i + d = l.length → Ev (fun k => spec_l1Sum.l0 k l acc i) (sumL acc (l.drop i)) := by
  induction d with
  | zero =>
    intro i acc hd
    refine Ev.ret fun k => ?_
    simp only [spec_l1Sum.l0]
    rw [if_neg (by omega), List.drop_of_length_le (by omega)]
    rfl
  | succ d ih =>
    intro i acc hd
    have hi : i < l.length := by omega
    rw [drop_at l i hi]
    refine Ev.step (f := fun k => spec_l1Sum.l0 k l (wrap64 (acc + l[i])) ((i + 1 : Nat) : Int)) (fun k => ?_) (ih (i + 1) _ (by omega))
    simp only [spec_l1Sum.l0]
    rw [if_pos (by omega), if_pos (by omega), rd_at l i hi, wk (n := l.length) (by omega) hn]
theorem sum_impl_loop (l : List Int) (hn : l.length ≤ 9223372036854775807) (d : Nat) : ∀ (i : Nat) (acc : Int), i + d = l.length → Ev (fun k => impl_sumOf.l0 k acc l l.length i) (sumL acc (l.drop i)) := by
  induction d with
  | zero =>
    intro i acc hd
    refine Ev.ret fun k => ?_
    simp only [impl_sumOf.l0]
    rw [if_neg (by omega), List.drop_of_length_le (by omega)]
    rfl
  | succ d ih =>
    intro i acc hd
    have hi : i < l.length := by omega
    rw [drop_at l i hi]
    refine Ev.step (f := fun k => impl_sumOf.l0 k (wrap64 (acc + l[i])) l l.length ((i + 1 : Nat) : Int)) (fun k => ?_) (ih (i + 1) _ (by omega))
    simp only [impl_sumOf.l0]
    rw [if_pos (by omega), if_pos (by omega), if_pos (by omega), rd_at l i hi, wk (n := l.length) (by omega) hn]
theorem strips2_len (s r m : Int) (l : List (List Int)) : (strips2F s r l m).length ≤ 12 := by
  unfold strips2F
  cases hw : okWater s r l m
  · simp
  · obtain ⟨M, rfl, hM, ho⟩ := okWater_facts hw
    have hL := okHull_len ho
    simp [stripsL]
    omega
def volF (s r : Int) (l : List (List Int)) (m : Int) : Int := sumL 0 (strips2F s r l m)
theorem vol_spec (s r m : Int) (l : List (List Int)) : Ev (fun k => spec_Volume2.f k s r l m) (volF s r l m) := by
  unfold spec_Volume2.f volF spec_l1Sum.f
  have h := strips2_len s r m l
  have h2 := sum_spec_loop (strips2F s r l m) (by omega) (strips2F s r l m).length 0 0 (by omega)
  rw [List.drop_zero] at h2
  exact Ev.bind (strips2_spec s r m l) (Ev.bind h2 (Ev.const fun _ => rfl))
theorem vol_impl (s r m : Int) (l : List (List Int)) : Ev (fun k => impl_Volume2.f k s r l m) (volF s r l m) := by
  unfold impl_Volume2.f volF impl_sumOf.f
  have h := strips2_len s r m l
  have h2 := sum_impl_loop (strips2F s r l m) (by omega) (strips2F s r l m).length 0 0 (by omega)
  rw [List.drop_zero] at h2
  exact Ev.bind (strips2_impl s r m l) (Ev.bind h2 (Ev.const fun _ => rfl))
end Go.Proofs.Yteggnboikjjaiaa.Hq
namespace Go.Proofs.Yteggnboikjjaiaa.Pure
open Go.RowKit Go.Proofs.Yteggnboikjjaiaa.PH2 Go.Proofs.YteggnboikjjaiaaW.PrintWords Go.Proofs.Yteggnboikjjaiaa.Hp Go.Proofs.Yteggnboikjjaiaa.Hq
theorem FnExactVolume2 : ∀ (a0_0 : Int) (a0_1 : Int) (l0_2 : List (List Int)) (a1 : Int), ∃ k, laws_FnExactVolume2.f k a0_0 a0_1 l0_2 a1 = some true := by
  intro a b l m
  refine Ev.rounds (g := fun k => laws_FnExactVolume2.f k a b l m) ?_
  exact hull_law (fun k x y z => spec_Volume2.f k x y z m) (fun k x y z => impl_Volume2.f k x y z m) a b l _ (fun _ => vol_spec a b m l) (fun _ => vol_impl a b m l)
end Go.Proofs.Yteggnboikjjaiaa.Pure
