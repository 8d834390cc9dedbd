/- The plain part for masses: copies, equality, the checks. -/
import Derived.Test.YteggnboikjjaiaaHp
import Derived.Test.YteggnboikjjaiaaMs
import Derived.Test.YteggnboikjjaiaaPH2x10
import Derived.Test.YteggnboikjjaiaaPH2x42
import Derived.Test.YteggnboikjjaiaaPH2x43
import Derived.Test.YteggnboikjjaiaaPH2x44
import Derived.Test.YteggnboikjjaiaaPH2x45
import Derived.Test.YteggnboikjjaiaaPH2x48
import Derived.Test.YteggnboikjjaiaaPH2x49
import Derived.Test.YteggnboikjjaiaaPH2x50
namespace Go.Proofs.Yteggnboikjjaiaa.Hq
open Go.RowKit Go.Proofs.Yteggnboikjjaiaa.PH2 Go.Proofs.YteggnboikjjaiaaW.PrintWords Go.Proofs.Yteggnboikjjaiaa.Hp Go.Proofs.Yteggnboikjjaiaa.Cf
set_option linter.unusedVariables false
set_option linter.unusedSimpArgs false

def cvMass (x : S71) : S68 := ⟨x.f0, x.f1, x.f2⟩
theorem rdlMass (l : List S71) (i : Nat) (h : i < l.length) : rd_T71 l (i : Int) = l[i] := by simp [rd_T71, h]
theorem rdsMass (l : List S68) (i : Nat) (h : i < l.length) : rd_T68 l (i : Int) = l[i] := by simp [rd_T68, h]
theorem toMass_loop (l : List S71) (hn : l.length ≤ 9223372036854775807) (d : Nat) : ∀ (i : Nat) (xs : List S68), xs.length = l.length → i + d = l.length → xs.take i = (l.map cvMass).take i → Ev (fun k => laws_toMassS.l0 k l xs i) (l.map cvMass) := by
  induction d with
  | zero =>
    intro i xs hl hd ht
    refine Ev.ret fun k => ?_
    simp only [laws_toMassS.l0]
    rw [if_neg (by omega)]
    rw [List.take_of_length_le (by omega), List.take_of_length_le (by simp; omega)] at ht
    exact congrArg some ht
  | succ d ih =>
    intro i xs hl hd ht
    have hi : i < l.length := by omega
    refine Ev.step (f := fun k => laws_toMassS.l0 k l (xs.set i (cvMass l[i])) ((i + 1 : Nat) : Int)) (fun k => ?_) (ih (i + 1) (xs.set i (cvMass l[i])) (by simpa using hl) (by omega) ?_)
    · simp only [laws_toMassS.l0]
      rw [if_pos (by omega), if_pos (by omega)]
      simp only [laws_toMass.f, Option.bind_some]
      rw [if_pos (by omega), wk (n := l.length) (by omega) hn, Int.toNat_natCast, rdlMass l i hi]
      rfl
    · rw [List.take_succ_eq_append_getElem (by simp; omega), List.take_succ_eq_append_getElem (by simp; omega)]
      congr 1
      · rw [List.take_set_of_le (Nat.le_refl i)]; exact ht
      · simp
theorem toMassS (l : List S71) (hn : l.length ≤ 1048576) : Ev (fun k => laws_toMassS.f k l) (l.map cvMass) := by
  refine Ev.congr (f := fun k => laws_toMassS.l0 k l (List.replicate l.length z68) ((0 : Nat) : Int)) (fun k => ?_) (toMass_loop l (by omega) l.length 0 _ (by simp) (by omega) (by simp))
  unfold laws_toMassS.f
  rw [if_pos (by omega), if_pos (by simp; omega), Int.toNat_natCast]
  rfl
theorem eqMass_loop (l : List S68) (hn : l.length ≤ 9223372036854775807) (d : Nat) : ∀ (i : Nat), i + d = l.length → Ev (fun k => laws_eqMassS.l0 k l l i) true := by
  induction d with
  | zero =>
    intro i hd
    refine Ev.ret fun k => ?_
    simp only [laws_eqMassS.l0]
    rw [if_neg (by omega)]
  | succ d ih =>
    intro i hd
    refine Ev.step (f := fun k => laws_eqMassS.l0 k l l ((i + 1 : Nat) : Int)) (fun k => ?_) (ih (i + 1) (by omega))
    simp only [laws_eqMassS.l0]
    rw [if_pos (by omega), if_pos (by omega), if_pos (by omega)]
    simp only [laws_eqMass.f, if_true, Option.bind_some]
    rw [wk (n := l.length) (by omega) hn]
theorem eqMassS (l : List S68) (hn : l.length ≤ 9223372036854775807) : Ev (fun k => laws_eqMassS.f k l l) true := by
  refine Ev.congr (f := fun k => laws_eqMassS.l0 k l l ((0 : Nat) : Int)) (fun k => ?_) (eqMass_loop l hn l.length 0 (by omega))
  unfold laws_eqMassS.f
  rw [if_pos rfl]
  rfl
theorem szMassS (l : List S71) (m : Int) (h0 : 0 ≤ m) (h1 : m ≤ 1048576) (hn : l.length ≤ 9223372036854775807) : laws_szMassS.f l m = some (szOf l.length m) := by
  unfold laws_szMassS.f szOf
  have e : wrap64 (m - (l.length : Int)) = m - l.length := by unfold wrap64; omega
  rw [e]
  by_cases h : (l.length : Int) ≤ m
  · rw [if_pos h, if_neg (by omega)]
  · rw [if_neg h, if_pos (by omega)]

theorem spec_MassesOk_loop (l : List S68) (hn : l.length ≤ 9223372036854775807) (d : Nat) : ∀ i : Nat, i + d = l.length → Ev (fun k => spec_MassesOk.l0 k l i) ((l.drop i).all (fun x => ok_MassesOk x.f0 x.f1 x.f2) && decide ((l.length : Int) ≤ 40)) := by
  induction d with
  | zero =>
    intro i hd
    refine Ev.ret fun k => ?_
    simp only [spec_MassesOk.l0]
    rw [if_neg (by omega), List.drop_of_length_le (by omega)]
    simp
  | succ d ih =>
    intro i hd
    have hi : i < l.length := by omega
    rw [drop_at l i hi, List.all_cons, Bool.and_assoc]
    by_cases t0 : 0 ≤ l[i].f0 ∧ l[i].f0 ≤ 10000
    ·
      by_cases t1 : (-1200) ≤ l[i].f1 ∧ l[i].f1 ≤ 2400
      ·
        by_cases t2 : 0 ≤ l[i].f2 ∧ l[i].f2 ≤ 1000
        ·
          refine Ev.step (f := fun k => spec_MassesOk.l0 k l ((i + 1 : Nat) : Int)) (fun k => ?_) ?_
          · simp only [spec_MassesOk.l0]
            rw [if_pos (by omega), if_pos (by omega), rdsMass l i hi]
            unfold spec_l1In.f
            simp only [t0, t1, t2, and_self, decide_true, Option.bind_some, if_true]
            rw [wk (n := l.length) (by omega) hn]
          · have e : ok_MassesOk l[i].f0 l[i].f1 l[i].f2 = true := by unfold ok_MassesOk; simp [t0, t1, t2]
            rw [e, Bool.true_and]
            exact ih (i + 1) (by omega)
        · refine Ev.ret fun k => ?_
          simp only [spec_MassesOk.l0]
          rw [if_pos (by omega), if_pos (by omega), rdsMass l i hi]
          unfold spec_l1In.f
          have e : ok_MassesOk l[i].f0 l[i].f1 l[i].f2 = false := by
            unfold ok_MassesOk
            have : (decide (0 ≤ l[i].f2) && decide (l[i].f2 ≤ 1000)) = false := by rw [← Bool.decide_and]; exact decide_eq_false t2
            rw [this]; simp
          rw [e]
          simp [t0, t1, t2]
      · refine Ev.ret fun k => ?_
        simp only [spec_MassesOk.l0]
        rw [if_pos (by omega), if_pos (by omega), rdsMass l i hi]
        unfold spec_l1In.f
        have e : ok_MassesOk l[i].f0 l[i].f1 l[i].f2 = false := by
          unfold ok_MassesOk
          have : (decide ((-1200) ≤ l[i].f1) && decide (l[i].f1 ≤ 2400)) = false := by rw [← Bool.decide_and]; exact decide_eq_false t1
          rw [this]; simp
        rw [e]
        simp [t0, t1]
    · refine Ev.ret fun k => ?_
      simp only [spec_MassesOk.l0]
      rw [if_pos (by omega), if_pos (by omega), rdsMass l i hi]
      unfold spec_l1In.f
      have e : ok_MassesOk l[i].f0 l[i].f1 l[i].f2 = false := by
        unfold ok_MassesOk
        have : (decide (0 ≤ l[i].f0) && decide (l[i].f0 ≤ 10000)) = false := by rw [← Bool.decide_and]; exact decide_eq_false t0
        rw [this]; simp
      rw [e]
      simp [t0]

theorem spec_MassesOk_ok (l : List S68) (hn : l.length ≤ 9223372036854775807) : Ev (fun k => spec_MassesOk.f k l) (decide ((l.length : Int) ≤ 40) && l.all fun x => ok_MassesOk x.f0 x.f1 x.f2) := by
  rw [Bool.and_comm]
  have := spec_MassesOk_loop l hn l.length 0 (by omega)
  rw [List.drop_zero] at this
  exact this
end Go.Proofs.Yteggnboikjjaiaa.Hq
