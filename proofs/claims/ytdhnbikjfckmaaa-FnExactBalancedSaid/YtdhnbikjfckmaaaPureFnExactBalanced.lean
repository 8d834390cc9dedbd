/- The plain part: what the program's and the reference's Balanced compute is the same. -/
import Derived.Test.YtdhnbikjfckmaaaSh
import Derived.Test.YtdhnbikjfckmaaaPD1x21
import Derived.Test.YtdhnbikjfckmaaaPD1x22
import Derived.Test.YtdhnbikjfckmaaaPD1x23
namespace Go.Proofs.Ytdhnbikjfckmaaa.Dc
open Go.RowKit Go.Proofs.Ytdhnbikjfckmaaa.PD1 Go.Proofs.YtdhnbikjfckmaaaW.PrintWords
set_option linter.unusedSimpArgs false
set_option linter.unusedVariables false
theorem balanced_both (w b : List Int) (st : Int) (hw : w.length ≤ 9223372036854775807) (hb : b.length ≤ 9223372036854775807) : ∃ r, Ev (fun k => spec_Balanced.f k w b st) r ∧ Ev (fun k => impl_Balanced.f k w b st) r := by
  have s1 := shear_spec w b hw hb
  have s2 := bend_spec w b st hw hb
  have p1 := shear_impl w b
  have p2 := bend_impl w b st
  unfold spec_Balanced.f impl_Balanced.f
  cases ho : okShear w b
  · have e1 : shearF w b = ([], false) := by unfold shearF; rw [ho]; rfl
    have e2 : bendF w b st = ([], false) := by unfold bendF; rw [ho]; rfl
    rw [e1] at s1 p1
    rw [e2] at s2 p2
    exact ⟨false, Ev.bind s1 (Ev.bind s2 (Ev.const fun _ => by simp)), Ev.bind p2 (Ev.const fun _ => by simp)⟩
  · have e1 : shearF w b = (upTo (sAt w b) (w.length + 1), true) := by unfold shearF; rw [ho]; rfl
    have hl : w.length ≤ 40 := by unfold okShear at ho; simp only [Bool.and_eq_true, decide_eq_true_eq] at ho; exact ho.2.1
    by_cases h : 1 ≤ st ∧ st ≤ 100
    · have e2 : bendF w b st = (upTo (bAt st (upTo (sAt w b) (w.length + 1))) (w.length + 1), true) := by unfold bendF; rw [ho, if_pos h]; rfl
      rw [e1] at s1 p1
      rw [e2] at s2 p2
      by_cases hz : w.length = 0
      · refine ⟨false, Ev.bind s1 (Ev.bind s2 (Ev.const fun _ => ?_)), Ev.bind p2 (Ev.const fun _ => ?_)⟩
        · rw [if_pos rfl, if_pos rfl, if_neg (by omega)]
        · rw [if_pos rfl, if_pos (by omega)]
      · have l1 : ((upTo (sAt w b) (w.length + 1)).length : Int) = w.length + 1 := by rw [upTo_len]; omega
        have l2 : ((upTo (bAt st (upTo (sAt w b) (w.length + 1))) (w.length + 1)).length : Int) = w.length + 1 := by rw [upTo_len]; omega
        generalize upTo (bAt st (upTo (sAt w b) (w.length + 1))) (w.length + 1) = X at *
        generalize upTo (sAt w b) (w.length + 1) = Y at *
        by_cases hr : rd Y (w.length : Int) = 0
        · refine ⟨rd X (w.length : Int) == 0, Ev.bind s1 (Ev.bind s2 (Ev.const fun _ => ?_)), Ev.bind p2 (Ev.congr (fun _ => by rw [if_pos rfl, if_neg (by omega)]) (Ev.bind p1 (Ev.const fun _ => ?_)))⟩
          · dsimp only
            rw [if_pos rfl, if_pos rfl, if_pos (by omega), if_pos (by omega), if_pos (by omega), if_pos hr, if_pos (by omega)]
          · dsimp only
            rw [if_pos (by omega), if_pos (by omega), if_pos hr, if_pos (by omega)]
        · refine ⟨false, Ev.bind s1 (Ev.bind s2 (Ev.const fun _ => ?_)), Ev.bind p2 (Ev.congr (fun _ => by rw [if_pos rfl, if_neg (by omega)]) (Ev.bind p1 (Ev.const fun _ => ?_)))⟩
          · dsimp only
            rw [if_pos rfl, if_pos rfl, if_pos (by omega), if_pos (by omega), if_pos (by omega), if_neg hr]
          · dsimp only
            rw [if_pos (by omega), if_pos (by omega), if_neg hr]
    · have e2 : bendF w b st = ([], false) := by unfold bendF; rw [ho, if_neg h]; rfl
      rw [e1] at s1 p1
      rw [e2] at s2 p2
      exact ⟨false, Ev.bind s1 (Ev.bind s2 (Ev.const fun _ => by simp)), Ev.bind p2 (Ev.const fun _ => by simp)⟩
end Go.Proofs.Ytdhnbikjfckmaaa.Dc
namespace Go.Proofs.Ytdhnbikjfckmaaa.Pure
open Go.RowKit Go.Proofs.Ytdhnbikjfckmaaa.PD1 Go.Proofs.YtdhnbikjfckmaaaW.PrintWords Go.Proofs.Ytdhnbikjfckmaaa.Dc
theorem FnExactBalanced : laws_FnExactBalanced.Pure := by
  intro w b st _ _ _ _ _ _ _
  refine Ev.rounds (g := fun k => laws_FnExactBalanced.f k w b st) ?_
  unfold laws_FnExactBalanced.f
  by_cases h : (w.length : Int) > 1048576
  · exact Ev.const fun k => by rw [if_pos h]
  · by_cases h' : (b.length : Int) > 1048576
    · exact Ev.const fun k => by rw [if_neg h, if_pos h']
    · have hl : w.length ≤ 1048576 := by omega
      have hm : b.length ≤ 1048576 := by omega
      obtain ⟨r, s, p⟩ := balanced_both w b st (by omega) (by omega)
      refine Ev.congr (fun k => by rw [if_neg h, if_neg h']) (Ev.bind (toIntS w hl) (Ev.bind (toIntS b hm) (Ev.bind (a := r) s (Ev.bind (toIntS w hl) (Ev.bind (toIntS b hm) (Ev.bind (a := r) p ?_))))))
      simp only [bne_self_eq_false, Bool.false_eq_true, if_false]
      exact Ev.bind (toIntS w hl) (Ev.bind (eqIntS w (by omega)) (Ev.yes rfl (Ev.bind (toIntS b hm) (Ev.bind (eqIntS b (by omega)) (Ev.yes rfl (Ev.const fun _ => rfl))))))
end Go.Proofs.Ytdhnbikjfckmaaa.Pure
