/- The plain part for LoadOf. -/
import Derived.Test.YteggnboikjjaiaaHqMa
import Derived.Test.YteggnboikjjaiaaPH2x52
import Derived.Test.YteggnboikjjaiaaPH2x53
import Derived.Test.YteggnboikjjaiaaPH2x54
import Derived.Test.YteggnboikjjaiaaPH2x55
namespace Go.Proofs.Yteggnboikjjaiaa.Hq
open Go.RowKit Go.Proofs.Yteggnboikjjaiaa.PH2 Go.Proofs.YteggnboikjjaiaaW.PrintWords Go.Proofs.Yteggnboikjjaiaa.Hp Go.Proofs.Yteggnboikjjaiaa.Cf
set_option linter.unusedVariables false
set_option linter.unusedSimpArgs false
def loadL (a b c : Int) : List S68 → Int × Int × Int
  | [] => (a, b, c)
  | x :: t => loadL (wrap64 (a + x.f0)) (wrap64 (b + wrap64 (x.f0 * x.f1))) (wrap64 (c + wrap64 (x.f0 * x.f2))) t
theorem load_spec_loop (l : List S68) (hn : l.length ≤ 9223372036854775807) (d : Nat) : ∀ (i : Nat) (a b c : Int), i + d = l.length →
    Ev (fun k => spec_LoadOf.l0 k l i a b c) ((loadL a b c (l.drop i)).1, (loadL a b c (l.drop i)).2.1, (loadL a b c (l.drop i)).2.2, true) := by
  induction d with
  | zero =>
    intro i a b c hd
    refine Ev.ret fun k => ?_
    simp only [spec_LoadOf.l0]
    rw [if_neg (by omega), List.drop_of_length_le (by omega)]
    rfl
  | succ d ih =>
    intro i a b c hd
    have hi : i < l.length := by omega
    rw [drop_at l i hi]
    refine Ev.step (fun k => ?_) (ih (i + 1) _ _ _ (by omega))
    simp only [spec_LoadOf.l0]
    rw [if_pos (by omega), if_pos (by omega), rdsMass l i hi, wk (n := l.length) (by omega) hn]
theorem load_impl_loop (l : List S68) (hn : l.length ≤ 9223372036854775807) (d : Nat) : ∀ (i : Nat) (a b c : Int), i + d = l.length →
    Ev (fun k => impl_LoadOf.l0 k l l.length i a b c) ((loadL a b c (l.drop i)).1, (loadL a b c (l.drop i)).2.1, (loadL a b c (l.drop i)).2.2, true) := by
  induction d with
  | zero =>
    intro i a b c hd
    refine Ev.ret fun k => ?_
    simp only [impl_LoadOf.l0]
    rw [if_neg (by omega), List.drop_of_length_le (by omega)]
    rfl
  | succ d ih =>
    intro i a b c hd
    have hi : i < l.length := by omega
    rw [drop_at l i hi]
    refine Ev.step (fun k => ?_) (ih (i + 1) _ _ _ (by omega))
    simp only [impl_LoadOf.l0]
    rw [if_pos (by omega), if_pos (by omega), if_pos (by omega), rdsMass l i hi, wk (n := l.length) (by omega) hn]
def okMs (l : List S68) : Bool := decide ((l.length : Int) ≤ 40) && l.all fun x => ok_MassesOk x.f0 x.f1 x.f2
def loadF (l : List S68) : Int × Int × Int × Bool := if okMs l = true then ((loadL 0 0 0 l).1, (loadL 0 0 0 l).2.1, (loadL 0 0 0 l).2.2, true) else (0, 0, 0, false)
theorem load_spec (l : List S68) (hn : l.length ≤ 9223372036854775807) : Ev (fun k => spec_LoadOf.f k l) (loadF l) := by
  unfold spec_LoadOf.f loadF
  refine Ev.bind (spec_MassesOk_ok l hn) ?_
  show Ev (fun n => if okMs l = true then _ else _) _
  cases h : okMs l
  · exact Ev.const fun _ => by simp
  · simp only [if_true]
    have := load_spec_loop l hn l.length 0 0 0 0 (by omega)
    rw [List.drop_zero] at this
    exact this
theorem load_impl (l : List S68) (hn : l.length ≤ 9223372036854775807) : Ev (fun k => impl_LoadOf.f k l) (loadF l) := by
  unfold impl_LoadOf.f loadF impl_MassesOk.f
  simp only [Option.bind_some]
  show Ev (fun n => if okMs l = true then _ else _) _
  cases h : okMs l
  · exact Ev.const fun _ => by simp
  · simp only [if_true]
    have := load_impl_loop l hn l.length 0 0 0 0 (by omega)
    rw [List.drop_zero] at this
    exact this
end Go.Proofs.Yteggnboikjjaiaa.Hq
namespace Go.Proofs.Yteggnboikjjaiaa.Pure
open Go.RowKit Go.Proofs.Yteggnboikjjaiaa.PH2 Go.Proofs.YteggnboikjjaiaaW.PrintWords Go.Proofs.Yteggnboikjjaiaa.Hp Go.Proofs.Yteggnboikjjaiaa.Hq
theorem FnExactLoadOf : ∀ (l0 : List (S71)), l0.length ≤ maxLen → ∃ k, laws_FnExactLoadOf.f k l0 = some true := by
  intro l hn
  have hm : maxLen = 9223372036854775807 := rfl
  refine Ev.rounds (g := fun k => laws_FnExactLoadOf.f k l) ?_
  unfold laws_FnExactLoadOf.f
  rw [szMassS l 1048576 (by omega) (by omega) (by omega)]
  simp only [Option.bind_some]
  unfold szOf
  by_cases h : (l.length : Int) ≤ 1048576
  · refine Ev.congr (fun k => by rw [if_pos h, if_neg (by omega)]) ?_
    have hl : l.length ≤ 1048576 := by omega
    have hl2 : (l.map cvMass).length ≤ 9223372036854775807 := by rw [List.length_map]; omega
    refine Ev.bind (toMassS l hl) (Ev.bind (load_spec _ hl2) (Ev.bind (toMassS l hl) (Ev.bind (load_impl _ hl2) ?_)))
    unfold laws_eqLoad.f
    simp only [if_true, Option.bind_some, bne_self_eq_false]
    refine Ev.step (f := fun k => (laws_toMassS.f k l).bind fun t398 => ((laws_eqMassS.f k (l.map cvMass) t398).bind fun t401 => (if t401 = true then (some true) else (some false)))) (fun k => ?_) (Ev.bind (toMassS l hl) (Ev.bind (eqMassS _ hl2) (Ev.const fun _ => by rw [if_pos rfl])))
    simp only [laws_FnExactLoadOf.j0, Bool.false_eq_true, if_false]
  · exact Ev.const fun k => by rw [if_neg h, if_pos (by omega)]
end Go.Proofs.Yteggnboikjjaiaa.Pure
