/- The plain part for shear and bending: both loops lay the same lists. -/
import Derived.Test.YtdhnbikjfckmaaaDc
import Derived.Test.YtdhnbikjfckmaaaPD1x13
import Derived.Test.YtdhnbikjfckmaaaPD1x17
import Derived.Test.YtdhnbikjfckmaaaPD1x19
import Derived.Test.YtdhnbikjfckmaaaPD1x9
namespace Go.Proofs.Ytdhnbikjfckmaaa.Dc
open Go.RowKit Go.Proofs.Ytdhnbikjfckmaaa.PD1 Go.Proofs.YtdhnbikjfckmaaaW.PrintWords
set_option linter.unusedVariables false
set_option linter.unusedSimpArgs false
def upTo (f : Nat → Int) (n : Nat) : List Int := (List.range n).map f
theorem upTo_len (f : Nat → Int) (n : Nat) : (upTo f n).length = n := by simp [upTo]
theorem upTo_succ (f : Nat → Int) (n : Nat) : upTo f (n + 1) = upTo f n ++ [f n] := by unfold upTo; rw [List.range_succ, List.map_append]; rfl
theorem rd_upTo (f : Nat → Int) (n i : Nat) (R : List Int) (h : i < n) : rd (upTo f n ++ R) (i : Int) = f i := by simp [rd, upTo, List.getElem?_append, h]
theorem rd_upTo0 (f : Nat → Int) (n i : Nat) (h : i < n) : rd (upTo f n) (i : Int) = f i := by simp [rd, upTo, h]
def sAt (w b : List Int) : Nat → Int
  | 0 => 0
  | i + 1 => wrap64 (wrap64 (sAt w b i + wrap64 (2 * rd w i)) - rd b i)
theorem shear_spec_loop (w b : List Int) (hn : w.length ≤ 1048576) (hb : w.length = b.length) (d : Nat) : ∀ i : Nat, i + d = w.length → Ev (fun k => spec_Shear2.l0 k w b (upTo (sAt w b) (i + 1)) i) (upTo (sAt w b) (w.length + 1), true) := by
  induction d with
  | zero =>
    intro i hd
    refine Ev.ret fun k => ?_
    have : i = w.length := by omega
    subst this
    simp only [spec_Shear2.l0]
    rw [if_neg (by omega)]
  | succ d ih =>
    intro i hd
    refine Ev.step (f := fun k => spec_Shear2.l0 k w b (upTo (sAt w b) (i + 1 + 1)) ((i + 1 : Nat) : Int)) (fun k => ?_) (ih (i + 1) (by omega))
    simp only [spec_Shear2.l0]
    rw [if_pos (by omega), if_pos (by omega), if_pos (by rw [upTo_len]; omega), if_pos (by omega), if_pos (by rw [upTo_len]; omega), wk (n := w.length) (by omega) (by omega), rd_upTo0 _ _ _ (by omega), upTo_succ _ (i + 1)]
    rfl
theorem shear_impl_loop (w b : List Int) (hn : w.length ≤ 1048576) (hb : w.length = b.length) (d : Nat) : ∀ i : Nat, i + d = w.length → Ev (fun k => impl_Shear2.l0 k b (upTo (sAt w b) (i + 1) ++ List.replicate (w.length - i) 0) w w.length i) (upTo (sAt w b) (w.length + 1), true) := by
  induction d with
  | zero =>
    intro i hd
    refine Ev.ret fun k => ?_
    have : i = w.length := by omega
    subst this
    simp only [impl_Shear2.l0]
    rw [if_neg (by omega), Nat.sub_self]
    simp
  | succ d ih =>
    intro i hd
    refine Ev.step (f := fun k => impl_Shear2.l0 k b (upTo (sAt w b) (i + 1 + 1) ++ List.replicate (w.length - (i + 1)) 0) w w.length ((i + 1 : Nat) : Int)) (fun k => ?_) (ih (i + 1) (by omega))
    have hlen : (upTo (sAt w b) (i + 1) ++ List.replicate (w.length - i) 0).length = w.length + 1 := by simp [upTo_len]; omega
    have e1 : w.length - i = (w.length - (i + 1)) + 1 := by omega
    simp only [impl_Shear2.l0]
    rw [if_pos (by omega), if_pos (by omega), if_pos (by omega), if_pos (by omega), if_pos (by omega), wk (n := w.length) (by omega) (by omega), if_pos (by omega), if_pos (by omega), rd_upTo _ _ _ _ (by omega), Int.toNat_natCast, e1, List.replicate_succ, set_mid _ _ _ _ _ (upTo_len _ _), upTo_succ _ (i + 1), List.append_assoc]
    rfl
def okShear (w b : List Int) : Bool := decide (w.length = b.length) && (decide (w.length ≤ 40) && (allB w 0 1000000 && allB b 0 2000000))
def shearF (w b : List Int) : List Int × Bool := if okShear w b = true then (upTo (sAt w b) (w.length + 1), true) else ([], false)
theorem shear_spec (w b : List Int) (hw : w.length ≤ 9223372036854775807) (hb : b.length ≤ 9223372036854775807) : Ev (fun k => spec_Shear2.f k w b) (shearF w b) := by
  have no : Ev (fun k => spec_Shear2.j0 k w b true) ([], false) := Ev.ret fun k => by simp only [spec_Shear2.j0, if_true]
  unfold spec_Shear2.f shearF okShear
  by_cases h1 : w.length = b.length
  · refine Ev.congr (fun k => by rw [if_pos (by omega)]) ?_
    by_cases h2 : w.length ≤ 40
    · refine Ev.congr (fun k => by rw [if_neg (by omega)]) ?_
      rw [decide_eq_true h1, decide_eq_true h2, Bool.true_and, Bool.true_and]
      refine Ev.bind (all_spec w 0 1000000 hw) ?_
      cases h3 : allB w 0 1000000
      · exact no
      · refine Ev.congr (fun k => by rw [if_pos rfl]) (Ev.bind (all_spec b 0 2000000 hb) ?_)
        cases h4 : allB b 0 2000000
        · exact no
        · refine Ev.step (f := fun k => spec_Shear2.l0 k w b (upTo (sAt w b) 1) ((0 : Nat) : Int)) (fun k => ?_) (shear_spec_loop w b (by omega) h1 w.length 0 (by omega))
          simp only [spec_Shear2.j0, Bool.not_true, Bool.false_eq_true, if_false]
          rfl
    · refine Ev.congr (fun k => by rw [if_pos (by omega)]) ?_
      rw [decide_eq_false h2, Bool.false_and, Bool.and_false]
      exact no
  · refine Ev.congr (fun k => by rw [if_neg (by omega)]) ?_
    rw [decide_eq_false h1, Bool.false_and]
    exact no
theorem shear_impl (w b : List Int) : Ev (fun k => impl_Shear2.f k w b) (shearF w b) := by
  have no : Ev (fun k => impl_Shear2.j0 k w b true) ([], false) := Ev.ret fun k => by simp only [impl_Shear2.j0, if_true]
  unfold impl_Shear2.f shearF okShear
  by_cases h2 : w.length ≤ 40
  · refine Ev.congr (fun k => by rw [if_neg (by omega)]) ?_
    by_cases h1 : w.length = b.length
    · refine Ev.congr (fun k => by rw [if_pos (by omega)]) ?_
      rw [decide_eq_true h1, decide_eq_true h2, Bool.true_and, Bool.true_and, all_impl, all_impl]
      simp only [Option.bind_some]
      cases h3 : allB w 0 1000000
      · exact no
      · cases h4 : allB b 0 2000000
        · exact no
        · have e0 : wrap64 ((w.length : Int) + 1) = ((w.length + 1 : Nat) : Int) := by rw [w64 _ (by omega) (by omega)]; omega
          refine Ev.step (f := fun k => impl_Shear2.l0 k b (upTo (sAt w b) (0 + 1) ++ List.replicate (w.length - 0) 0) w w.length ((0 : Nat) : Int)) (fun k => ?_) (shear_impl_loop w b (by omega) h1 w.length 0 (by omega))
          simp only [impl_Shear2.j0, Bool.not_true, Bool.false_eq_true, if_false]
          have e3 : (0 : Int) ≤ ((w.length + 1 : Nat) : Int) := by omega
          have e4 : w.length + 1 ≤ 35184372088832 := by omega
          rw [e0, Int.toNat_natCast, if_pos e3, if_pos e4, List.replicate_succ]
          rfl
    · refine Ev.congr (fun k => by rw [if_neg (by omega)]) ?_
      rw [decide_eq_false h1, Bool.false_and]
      exact no
  · refine Ev.congr (fun k => by rw [if_pos (by omega)]) ?_
    rw [decide_eq_false h2, Bool.false_and, Bool.and_false]
    exact no
theorem shear_len (w b : List Int) : (shearF w b).1.length ≤ 41 := by
  unfold shearF okShear
  split
  · rename_i h
    simp only [Bool.and_eq_true, decide_eq_true_eq] at h
    rw [upTo_len]
    omega
  · simp
/-! ### Bending -/
def bAt (st : Int) (S : List Int) : Nat → Int
  | 0 => 0
  | i + 1 => wrap64 (bAt st S i + wrap64 (st * wrap64 (rd S i + rd S ((i + 1 : Nat) : Int))))
theorem bend_spec_loop (st : Int) (S : List Int) (hn : S.length ≤ 1048576) (d : Nat) : ∀ i : Nat, i + 1 + d = S.length → Ev (fun k => spec_Bending4.l0 k st S (upTo (bAt st S) (i + 1)) i) (upTo (bAt st S) S.length, true) := by
  induction d with
  | zero =>
    intro i hd
    refine Ev.ret fun k => ?_
    simp only [spec_Bending4.l0]
    rw [wk (n := S.length) (by omega) (by omega), if_neg (by omega)]
    have : i + 1 = S.length := by omega
    rw [this]
  | succ d ih =>
    intro i hd
    refine Ev.step (f := fun k => spec_Bending4.l0 k st S (upTo (bAt st S) (i + 1 + 1)) ((i + 1 : Nat) : Int)) (fun k => ?_) (ih (i + 1) (by omega))
    simp only [spec_Bending4.l0]
    rw [wk (n := S.length) (by omega) (by omega), if_pos (by omega), if_pos (by omega), if_pos (by rw [upTo_len]; omega), if_pos (by omega), if_pos (by omega), if_pos (by rw [upTo_len]; omega), rd_upTo0 _ _ _ (by omega), upTo_succ _ (i + 1)]
    rfl
theorem bend_impl_loop (st : Int) (S : List Int) (hn : S.length ≤ 1048576) (d : Nat) : ∀ i : Nat, i + 1 + d = S.length → Ev (fun k => impl_Bending4.l0 k st S (upTo (bAt st S) (i + 1) ++ List.replicate (S.length - (i + 1)) 0) ((i + 1 : Nat) : Int)) (upTo (bAt st S) S.length, true) := by
  induction d with
  | zero =>
    intro i hd
    refine Ev.ret fun k => ?_
    have : i + 1 = S.length := by omega
    simp only [impl_Bending4.l0]
    rw [if_neg (by omega), this, Nat.sub_self]
    simp
  | succ d ih =>
    intro i hd
    refine Ev.step (f := fun k => impl_Bending4.l0 k st S (upTo (bAt st S) (i + 1 + 1) ++ List.replicate (S.length - (i + 1 + 1)) 0) ((i + 1 + 1 : Nat) : Int)) (fun k => ?_) (ih (i + 1) (by omega))
    have hlen : (upTo (bAt st S) (i + 1) ++ List.replicate (S.length - (i + 1)) 0).length = S.length := by simp [upTo_len]; omega
    have e1 : S.length - (i + 1) = (S.length - (i + 1 + 1)) + 1 := by omega
    have e2 : wrap64 (((i + 1 : Nat) : Int) - 1) = (i : Int) := by rw [w64 _ (by omega) (by omega)]; omega
    simp only [impl_Bending4.l0]
    rw [if_pos (by omega), e2, if_pos (by omega), if_pos (by omega), if_pos (by omega), if_pos (by omega), if_pos (by omega), wk (i := i + 1) (n := S.length) (by omega) (by omega), rd_upTo _ _ _ _ (by omega), Int.toNat_natCast, e1, List.replicate_succ, set_mid _ _ _ _ _ (upTo_len _ _), upTo_succ _ (i + 1), List.append_assoc]
    rfl
def bendF (w b : List Int) (st : Int) : List Int × Bool := if okShear w b = true then (if 1 ≤ st ∧ st ≤ 100 then (upTo (bAt st (upTo (sAt w b) (w.length + 1))) (w.length + 1), true) else ([], false)) else ([], false)
theorem bend_spec (w b : List Int) (st : Int) (hw : w.length ≤ 9223372036854775807) (hb : b.length ≤ 9223372036854775807) : Ev (fun k => spec_Bending4.f k w b st) (bendF w b st) := by
  have no : ∀ S, Ev (fun k => spec_Bending4.j0 k st S true) ([], false) := fun S => Ev.ret fun k => by simp only [spec_Bending4.j0, if_true]
  unfold spec_Bending4.f bendF
  refine Ev.bind (shear_spec w b hw hb) ?_
  unfold shearF
  cases ho : okShear w b
  · exact no _
  · simp only [if_true]
    rw [in_spec]
    simp only [Option.bind_some]
    by_cases h : 1 ≤ st ∧ st ≤ 100
    · have hl : w.length ≤ 40 := by unfold okShear at ho; simp only [Bool.and_eq_true, decide_eq_true_eq] at ho; exact ho.2.1
      rw [if_pos h, decide_eq_true h]
      have := bend_spec_loop st (upTo (sAt w b) (w.length + 1)) (by rw [upTo_len]; omega) w.length 0 (by rw [upTo_len]; omega)
      rw [upTo_len] at this
      refine Ev.step (fun k => ?_) this
      simp only [spec_Bending4.j0, Bool.not_true, Bool.false_eq_true, if_false]
      rfl
    · rw [if_neg h, decide_eq_false h]
      exact no _
theorem bend_impl (w b : List Int) (st : Int) : Ev (fun k => impl_Bending4.f k w b st) (bendF w b st) := by
  have no : ∀ S, Ev (fun k => impl_Bending4.j0 k st S true) ([], false) := fun S => Ev.ret fun k => by simp only [impl_Bending4.j0, if_true]
  unfold impl_Bending4.f bendF
  refine Ev.bind (shear_impl w b) ?_
  unfold shearF
  cases ho : okShear w b
  · exact no _
  · simp only [if_true]
    rw [in_impl]
    simp only [Option.bind_some]
    by_cases h : 1 ≤ st ∧ st ≤ 100
    · have hl : w.length ≤ 40 := by unfold okShear at ho; simp only [Bool.and_eq_true, decide_eq_true_eq] at ho; exact ho.2.1
      rw [if_pos h, decide_eq_true h]
      have := bend_impl_loop st (upTo (sAt w b) (w.length + 1)) (by rw [upTo_len]; omega) w.length 0 (by rw [upTo_len]; omega)
      rw [upTo_len] at this
      refine Ev.step (fun k => ?_) this
      simp only [impl_Bending4.j0, Bool.not_true, Bool.false_eq_true, if_false]
      rw [if_pos (by omega), if_pos (by rw [upTo_len]; omega), Int.toNat_natCast, upTo_len, List.replicate_succ]
      rfl
    · rw [if_neg h, decide_eq_false h]
      exact no _
theorem bend_len (w b : List Int) (st : Int) : (bendF w b st).1.length ≤ 41 := by
  unfold bendF
  split
  · rename_i h
    unfold okShear at h
    simp only [Bool.and_eq_true, decide_eq_true_eq] at h
    split
    · rw [upTo_len]; omega
    · simp
  · simp
end Go.Proofs.Ytdhnbikjfckmaaa.Dc
