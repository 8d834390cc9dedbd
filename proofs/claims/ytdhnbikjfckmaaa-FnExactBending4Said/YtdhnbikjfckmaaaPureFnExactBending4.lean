/- The plain part: what the program's and the reference's Bending4 compute is the same. -/
import Derived.Test.YtdhnbikjfckmaaaSh
import Derived.Test.YtdhnbikjfckmaaaPD1x20
namespace Go.Proofs.Ytdhnbikjfckmaaa.Pure
open Go.RowKit Go.Proofs.Ytdhnbikjfckmaaa.PD1 Go.Proofs.YtdhnbikjfckmaaaW.PrintWords Go.Proofs.Ytdhnbikjfckmaaa.Dc
set_option linter.unusedSimpArgs false
set_option linter.unusedVariables false
theorem FnExactBending4 : laws_FnExactBending4.Pure := by
  intro w b st _ _ _ _ _ _ _
  refine Ev.rounds (g := fun k => laws_FnExactBending4.f k w b st) ?_
  unfold laws_FnExactBending4.f
  by_cases h : (w.length : Int) > 1048576
  · exact Ev.const fun k => by rw [if_pos h]
  · by_cases h' : (b.length : Int) > 1048576
    · exact Ev.const fun k => by rw [if_neg h, if_pos h']
    · have hl : w.length ≤ 1048576 := by omega
      have hm : b.length ≤ 1048576 := by omega
      have s := bend_spec w b st (by omega) (by omega)
      have p := bend_impl w b st
      have hx := bend_len w b st
      generalize bendF w b st = x at s p hx
      refine Ev.congr (fun k => by rw [if_neg h, if_neg h']) (Ev.bind (toIntS w hl) (Ev.bind (toIntS b hm) (Ev.bind (a := x) s (Ev.bind (toIntS w hl) (Ev.bind (toIntS b hm) (Ev.bind (a := x) p (Ev.bind (eqIntS x.1 (by omega)) ?_)))))))
      simp only [if_true, bne_self_eq_false]
      refine Ev.step (f := fun k => (laws_toIntS.f k w).bind fun t176 => ((laws_eqIntS.f k w t176).bind fun t179 => (if t179 = true then ((laws_toIntS.f k b).bind fun t180 => ((laws_eqIntS.f k b t180).bind fun t183 => (if t183 = true then ((laws_markIntS.f k w 1).bind fun bt184 => ((laws_markIntS.f k b bt184.1).bind fun bt186 => (if bt186.1 < 0 then (laws_FnExactBending4.j1 k w b st x.1 x.2 x.1 true) else ((laws_eqIntS.f k x.1 x.1).bind fun t188 => (if t188 = true then (laws_FnExactBending4.j1 k w b st x.1 x.2 x.1 (x.2 != x.2)) else (laws_FnExactBending4.j1 k w b st x.1 x.2 x.1 true)))))) else (some false)))) else (some false)))) (fun k => ?_) ?_
      · simp only [laws_FnExactBending4.j0, Bool.false_eq_true, if_false]
      · refine Ev.bind (toIntS w hl) (Ev.bind (eqIntS w (by omega)) (Ev.yes rfl (Ev.bind (toIntS b hm) (Ev.bind (eqIntS b (by omega)) (Ev.yes rfl ?_)))))
        refine Ev.bind (markI w 1 (by omega) (by omega) (by omega)) (Ev.bind (markI b (1 + w.length) (by omega) (by omega) (by omega)) (Ev.no (by omega) (Ev.bind (eqIntS x.1 (by omega)) (Ev.yes rfl ?_))))
        simp only [bne_self_eq_false]
        refine Ev.step (f := fun k => (laws_markIntS.f k x.1 1).bind fun bt189 => ((laws_heldIntS.f k bt189.2 1).bind fun t191 => (if t191 < 0 then (some false) else (if t191 = bt189.1 then ((laws_toIntS.f k w).bind fun t192 => ((laws_toIntS.f k b).bind fun t195 => ((impl_Bending4.f k t192 t195 st).bind fun bt198 => ((laws_eqIntS.f k bt198.1 x.1).bind fun t202 => (if t202 = true then (laws_FnExactBending4.j2 k bt189.2 bt189.1 (bt198.2 != x.2)) else (laws_FnExactBending4.j2 k bt189.2 bt189.1 true)))))) else (some false))))) (fun k => ?_) ?_
        · simp only [laws_FnExactBending4.j1, Bool.false_eq_true, if_false]
        · refine Ev.bind (markI x.1 1 (by omega) (by omega) (by omega)) (Ev.bind (heldI x.1.length 1 (by omega) (by omega) (by omega)) (Ev.no (by omega) (Ev.yes rfl ?_)))
          refine Ev.bind (toIntS w hl) (Ev.bind (toIntS b hm) (Ev.bind (a := x) p (Ev.bind (eqIntS x.1 (by omega)) (Ev.yes rfl ?_))))
          simp only [bne_self_eq_false]
          refine Ev.step (f := fun k => (laws_heldIntS.f k (marks 1 x.1.length) 1).bind fun t203 => (if t203 < 0 then (some false) else (if t203 = 1 + (x.1.length : Int) then (some true) else (some false)))) (fun k => ?_) (Ev.bind (heldI x.1.length 1 (by omega) (by omega) (by omega)) (Ev.no (by omega) (Ev.yes rfl (Ev.const fun _ => rfl))))
          simp only [laws_FnExactBending4.j2, Bool.false_eq_true, if_false]
end Go.Proofs.Ytdhnbikjfckmaaa.Pure
