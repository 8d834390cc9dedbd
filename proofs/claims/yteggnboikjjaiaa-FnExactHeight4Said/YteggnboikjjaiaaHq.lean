/- The plain part for hulls, second print: water lines, strips, volumes, heights. -/
import Derived.Test.YteggnboikjjaiaaPH2x12
import Derived.Test.YteggnboikjjaiaaPH2x19
import Derived.Test.YteggnboikjjaiaaPH2x3
import Derived.Test.YteggnboikjjaiaaPH2x6
import Derived.Test.YteggnboikjjaiaaPH2x9
namespace Go.Proofs.Yteggnboikjjaiaa.Hq
open Go.RowKit Go.Proofs.Yteggnboikjjaiaa.PH2 Go.Proofs.YteggnboikjjaiaaW.PrintWords Go.Proofs.Yteggnboikjjaiaa.Hp Go.Proofs.Yteggnboikjjaiaa.Cf Go.Proofs.Yteggnboikjjaiaa.Pl
set_option linter.unusedVariables false
set_option linter.unusedSimpArgs false

theorem w64 (x : Int) (h0 : -9223372036854775808 ≤ x) (h1 : x < 9223372036854775808) : wrap64 x = x := by
  unfold wrap64
  omega
theorem hull_law (S I : Nat → Int → Int → List (List Int) → Option Int) (a b : Int) (l : List (List Int)) (v : Int) (hS : sizeH l ≤ 1048576 → Ev (fun k => S k a b l) v) (hI : sizeH l ≤ 1048576 → Ev (fun k => I k a b l) v) :
    Ev (fun k => (laws_szHull.f a b l 1048576).bind fun t132 => (if t132 < 0 then (some true) else ((laws_toHull.f a b l).bind fun bt133 => ((S k bt133.1 bt133.2.1 bt133.2.2).bind fun t138 => ((laws_toHull.f a b l).bind fun bt139 => ((I k bt139.1 bt139.2.1 bt139.2.2).bind fun t145 => (if t145 = t138 then ((laws_toHull.f a b l).bind fun bt146 => ((laws_eqHull.f bt139.1 bt139.2.1 bt139.2.2 bt146.1 bt146.2.1 bt146.2.2).bind fun t151 => (if t151 = true then (some true) else (some false)))) else (some false))))))) ) true := by
  by_cases hs : sizeH l ≤ 1048576
  · have e1 : laws_szHull.f a b l 1048576 = some (1048576 - (sizeH l : Int)) := by
      unfold laws_szHull.f szOf
      rw [if_pos (by omega), if_pos (by omega)]
    have e2 : laws_toHull.f a b l = some (a, b, l) := by unfold laws_toHull.f; rw [if_pos hs]
    have e3 : laws_eqHull.f a b l a b l = some true := by unfold laws_eqHull.f; rw [if_pos ⟨rfl, rfl, rfl, hs⟩]
    refine Ev.congr (f := fun k => (S k a b l).bind fun t138 => (I k a b l).bind fun t145 => if t145 = t138 then some true else some false) (fun k => ?_) (Ev.bind (hS hs) (Ev.bind (hI hs) (Ev.const fun _ => by rw [if_pos rfl])))
    rw [e1, e2]
    simp only [Option.bind_some, e3, if_true]
    rw [if_neg (by omega)]
  · refine Ev.const fun k => ?_
    have e1 : laws_szHull.f a b l 1048576 = some (-1) := by
      unfold laws_szHull.f szOf
      rw [if_pos (by omega), if_neg (by omega)]
    rw [e1]
    simp

theorem rdL_getD (l : List (List Int)) (i : Nat) : rd_L1 l (i : Int) = l.getD i [] := by simp [rd_L1]
theorem rd_cell (l : List (List Int)) (i m : Nat) : rd (rd_L1 l (i : Int)) (m : Int) = cellAt l m i := by rw [rdL_getD]; simp [rd, cellAt]
theorem swater (s r : Int) (l : List (List Int)) (m : Int) : spec_l1Water.f s r l m = some (okWater s r l m) := by
  unfold spec_l1Water.f spec_HullOk.f okWater
  cases ho : okHull s r l
  · simp
  · have hL := okHull_len ho
    have e : rd_L1 l 0 = l.headD [] := by cases l <;> simp [rd_L1]
    simp only [Option.bind_some, if_true, Bool.true_and]
    rw [if_pos (by omega), e]
    unfold spec_l1In.f
    rw [w64 _ (by omega) (by omega)]
    rfl
theorem okWater_facts {s r : Int} {l : List (List Int)} {m : Int} (h : okWater s r l m = true) : ∃ M : Nat, m = (M : Int) ∧ M < (l.headD []).length ∧ okHull s r l = true := by
  unfold okWater at h
  simp only [Bool.and_eq_true, decide_eq_true_eq] at h
  exact ⟨m.toNat, by omega, by omega, h.1⟩
theorem cell_bd {s r : Int} {l : List (List Int)} (h : okHull s r l = true) (m k : Nat) (hk : k < l.length) (hm : m < (l.headD []).length) : 0 ≤ cellAt l m k ∧ cellAt l m k ≤ 50 := by
  have hL := (okHull_len h).2.2.1 k hk
  unfold okHull at h
  simp only [Bool.and_eq_true, decide_eq_true_eq] at h
  have := List.all_eq_true.1 h.2.2.2 _ (List.getElem_mem hk)
  unfold okRow at this
  simp only [Bool.and_eq_true, decide_eq_true_eq] at this
  have hm' : m < l[k].length := by rw [List.getD_eq_getElem?_getD, List.getElem?_eq_getElem hk] at hL; simp only [Option.getD_some] at hL; omega
  have h2 := List.all_eq_true.1 this.2 _ (List.getElem_mem hm')
  simp only [Bool.and_eq_true, decide_eq_true_eq] at h2
  have e : cellAt l m k = l[k][m] := by unfold cellAt; simp [hk, hm']
  rw [e]
  exact h2
end Go.Proofs.Yteggnboikjjaiaa.Hq
