/- The plain part: what the program's and the reference's SeaOk compute is the same. -/
import Derived.Test.YtdhnbikjfckmaaaDc
import Derived.Test.YtdhnbikjfckmaaaPD1x24
import Derived.Test.YtdhnbikjfckmaaaPD1x25
import Derived.Test.YtdhnbikjfckmaaaPD1x26
import Derived.Test.YtdhnbikjfckmaaaPD1x27
import Derived.Test.YtdhnbikjfckmaaaPD1x28
import Derived.Test.YtdhnbikjfckmaaaPD1x29
import Derived.Test.YtdhnbikjfckmaaaPD1x30
import Derived.Test.YtdhnbikjfckmaaaPD1x31
import Derived.Test.YtdhnbikjfckmaaaPD1x32
import Derived.Test.YtdhnbikjfckmaaaPD1x33
import Derived.Test.YtdhnbikjfckmaaaPD1x34
import Derived.Test.YtdhnbikjfckmaaaPD1x35
namespace Go.Proofs.Ytdhnbikjfckmaaa.Dc
open Go.RowKit Go.Proofs.Ytdhnbikjfckmaaa.PD1 Go.Proofs.YtdhnbikjfckmaaaW.PrintWords
set_option linter.unusedVariables false
set_option linter.unusedSimpArgs false
def szOf (n : Nat) (m : Int) : Int := if (n : Int) ≤ m then m - n else -1

def cvClosed (x : S77) : S71 := ⟨x.f0, x.f1, x.f2, x.f3, x.f4, x.f5⟩
theorem rdlClosed (l : List S77) (i : Nat) (h : i < l.length) : rd_T77 l (i : Int) = l[i] := by simp [rd_T77, h]
theorem rdsClosed (l : List S71) (i : Nat) (h : i < l.length) : rd_T71 l (i : Int) = l[i] := by simp [rd_T71, h]
theorem toClosed_loop (l : List S77) (hn : l.length ≤ 9223372036854775807) (d : Nat) : ∀ (i : Nat) (xs : List S71), xs.length = l.length → i + d = l.length → xs.take i = (l.map cvClosed).take i → Ev (fun k => laws_toClosedS.l0 k l xs i) (l.map cvClosed) := by
  induction d with
  | zero =>
    intro i xs hl hd ht
    refine Ev.ret fun k => ?_
    simp only [laws_toClosedS.l0]
    rw [if_neg (by omega)]
    rw [List.take_of_length_le (by omega), List.take_of_length_le (by simp; omega)] at ht
    exact congrArg some ht
  | succ d ih =>
    intro i xs hl hd ht
    have hi : i < l.length := by omega
    refine Ev.step (f := fun k => laws_toClosedS.l0 k l (xs.set i (cvClosed l[i])) ((i + 1 : Nat) : Int)) (fun k => ?_) (ih (i + 1) (xs.set i (cvClosed l[i])) (by simpa using hl) (by omega) ?_)
    · simp only [laws_toClosedS.l0]
      rw [if_pos (by omega), if_pos (by omega)]
      simp only [laws_toClosed.f, Option.bind_some]
      rw [if_pos (by omega), wk (n := l.length) (by omega) hn, Int.toNat_natCast, rdlClosed l i hi]
      rfl
    · rw [List.take_succ_eq_append_getElem (by simp; omega), List.take_succ_eq_append_getElem (by simp; omega)]
      congr 1
      · rw [List.take_set_of_le (Nat.le_refl i)]; exact ht
      · simp
theorem toClosedS (l : List S77) (hn : l.length ≤ 1048576) : Ev (fun k => laws_toClosedS.f k l) (l.map cvClosed) := by
  refine Ev.congr (f := fun k => laws_toClosedS.l0 k l (List.replicate l.length z71) ((0 : Nat) : Int)) (fun k => ?_) (toClosed_loop l (by omega) l.length 0 _ (by simp) (by omega) (by simp))
  unfold laws_toClosedS.f
  rw [if_pos (by omega), if_pos (by simp; omega), Int.toNat_natCast]
  rfl
theorem eqClosed_loop (l : List S71) (hn : l.length ≤ 9223372036854775807) (d : Nat) : ∀ (i : Nat), i + d = l.length → Ev (fun k => laws_eqClosedS.l0 k l l i) true := by
  induction d with
  | zero =>
    intro i hd
    refine Ev.ret fun k => ?_
    simp only [laws_eqClosedS.l0]
    rw [if_neg (by omega)]
  | succ d ih =>
    intro i hd
    refine Ev.step (f := fun k => laws_eqClosedS.l0 k l l ((i + 1 : Nat) : Int)) (fun k => ?_) (ih (i + 1) (by omega))
    simp only [laws_eqClosedS.l0]
    rw [if_pos (by omega), if_pos (by omega), if_pos (by omega)]
    simp only [laws_eqClosed.f, if_true, Option.bind_some]
    rw [wk (n := l.length) (by omega) hn]
theorem eqClosedS (l : List S71) (hn : l.length ≤ 9223372036854775807) : Ev (fun k => laws_eqClosedS.f k l l) true := by
  refine Ev.congr (f := fun k => laws_eqClosedS.l0 k l l ((0 : Nat) : Int)) (fun k => ?_) (eqClosed_loop l hn l.length 0 (by omega))
  unfold laws_eqClosedS.f
  rw [if_pos rfl]
  rfl
theorem szClosedS (l : List S77) (m : Int) (h0 : 0 ≤ m) (h1 : m ≤ 1048576) (hn : l.length ≤ 9223372036854775807) : laws_szClosedS.f l m = some (szOf l.length m) := by
  unfold laws_szClosedS.f szOf
  have e : wrap64 (m - (l.length : Int)) = m - l.length := by unfold wrap64; omega
  rw [e]
  by_cases h : (l.length : Int) ≤ m
  · rw [if_pos h, if_neg (by omega)]
  · rw [if_neg h, if_pos (by omega)]

theorem szIntS (l : List Int) (m : Int) (h0 : 0 ≤ m) (h1 : m ≤ 1048576) (hn : l.length ≤ 9223372036854775807) : laws_szIntS.f l m = some (szOf l.length m) := by
  unfold laws_szIntS.f szOf
  have e : wrap64 (m - (l.length : Int)) = m - l.length := by unfold wrap64; omega
  rw [e]
  by_cases h : (l.length : Int) ≤ m
  · rw [if_pos h, if_neg (by omega)]
  · rw [if_neg h, if_pos (by omega)]
def okC (c : S71) : Bool := decide (0 ≤ c.f0 ∧ c.f0 ≤ c.f2) && (decide (0 ≤ c.f1 ∧ c.f1 ≤ c.f3) && (decide (c.f2 ≤ 11) && (decide (c.f3 ≤ 11) && (decide (0 ≤ c.f4 ∧ c.f4 ≤ c.f5) && decide (c.f5 ≤ 1000000)))))
theorem sea_spec_loop (a b : Int) (cs : List Int) (l : List S71) (hn : l.length ≤ 9223372036854775807) (d : Nat) : ∀ i : Nat, i + d = l.length → Ev (fun k => spec_SeaOk.l0 k i a b cs l) ((l.drop i).all okC) := by
  induction d with
  | zero =>
    intro i hd
    refine Ev.ret fun k => ?_
    simp only [spec_SeaOk.l0]
    rw [if_neg (by omega), List.drop_of_length_le (by omega)]
    rfl
  | succ d ih =>
    intro i hd
    have hi : i < l.length := by omega
    rw [drop_at l i hi, List.all_cons]
    have hrow : ∀ k, spec_SeaOk.l0 (k + 1) i a b cs l = if okC l[i] = true then spec_SeaOk.l0 k ((i + 1 : Nat) : Int) a b cs l else some false := by
      intro k
      simp only [spec_SeaOk.l0]
      rw [if_pos (by omega), if_pos (by omega), rdsClosed l i hi, in_spec, in_spec, in_spec, wk (n := l.length) (by omega) hn]
      simp only [Option.bind_some]
      unfold okC
      by_cases h1 : 0 ≤ l[i].f0 ∧ l[i].f0 ≤ l[i].f2
      · by_cases h2 : 0 ≤ l[i].f1 ∧ l[i].f1 ≤ l[i].f3
        · by_cases h3 : l[i].f2 ≤ 11
          · by_cases h4 : l[i].f3 ≤ 11
            · by_cases h5 : 0 ≤ l[i].f4 ∧ l[i].f4 ≤ l[i].f5
              · by_cases h6 : l[i].f5 ≤ 1000000
                · rw [if_pos (by simpa using h1), if_pos (by simpa using h2), if_neg (by omega), if_neg (by omega), if_pos (by simpa using h5), if_neg (by omega), if_pos (by simp [h1, h2, h3, h4, h5, h6])]
                · rw [if_pos (by simpa using h1), if_pos (by simpa using h2), if_neg (by omega), if_neg (by omega), if_pos (by simpa using h5), if_pos (by omega), if_neg (by simp [h6])]
              · rw [if_pos (by simpa using h1), if_pos (by simpa using h2), if_neg (by omega), if_neg (by omega), if_neg (by simpa using h5), if_neg (by simp only [h5, decide_false, Bool.false_and, Bool.and_false]; simp)]
            · rw [if_pos (by simpa using h1), if_pos (by simpa using h2), if_neg (by omega), if_pos (by omega), if_neg (by simp only [h4, decide_false, Bool.false_and, Bool.and_false]; simp)]
          · rw [if_pos (by simpa using h1), if_pos (by simpa using h2), if_pos (by omega), if_neg (by simp only [h3, decide_false, Bool.false_and, Bool.and_false]; simp)]
        · rw [if_pos (by simpa using h1), if_neg (by simpa using h2), if_neg (by simp only [h2, decide_false, Bool.false_and, Bool.and_false]; simp)]
      · rw [if_neg (by simpa using h1), if_neg (by simp only [h1, decide_false, Bool.false_and, Bool.and_false]; simp)]
    cases ho : okC l[i]
    · exact Ev.ret fun k => by rw [hrow, ho]; simp
    · rw [Bool.true_and]
      exact Ev.step (fun k => by rw [hrow, ho, if_pos rfl]) (ih (i + 1) (by omega))
theorem sea_impl_loop (l : List S71) (hn : l.length ≤ 9223372036854775807) (d : Nat) : ∀ i : Nat, i + d = l.length → Ev (fun k => impl_SeaOk.l0 k l l.length i) ((l.drop i).all okC) := by
  induction d with
  | zero =>
    intro i hd
    refine Ev.ret fun k => ?_
    simp only [impl_SeaOk.l0]
    rw [if_neg (by omega), List.drop_of_length_le (by omega)]
    rfl
  | succ d ih =>
    intro i hd
    have hi : i < l.length := by omega
    rw [drop_at l i hi, List.all_cons]
    have hrow : ∀ k, impl_SeaOk.l0 (k + 1) l l.length i = if okC l[i] = true then impl_SeaOk.l0 k l l.length ((i + 1 : Nat) : Int) else some false := by
      intro k
      simp only [impl_SeaOk.l0]
      rw [if_pos (by omega), if_pos (by omega), if_pos (by omega), rdsClosed l i hi, in_impl, in_impl, in_impl, wk (n := l.length) (by omega) hn]
      simp only [Option.bind_some]
      unfold okC
      by_cases h1 : 0 ≤ l[i].f0 ∧ l[i].f0 ≤ l[i].f2
      · by_cases h3 : l[i].f2 ≤ 11
        · by_cases h2 : 0 ≤ l[i].f1 ∧ l[i].f1 ≤ l[i].f3
          · by_cases h4 : l[i].f3 ≤ 11
            · by_cases h5 : 0 ≤ l[i].f4 ∧ l[i].f4 ≤ l[i].f5
              · by_cases h6 : l[i].f5 ≤ 1000000
                · rw [if_pos (by simpa using h1), if_neg (by omega), if_pos (by simpa using h2), if_neg (by omega), if_pos (by simpa using h5), if_neg (by omega), if_pos (by simp [h1, h2, h3, h4, h5, h6])]
                · rw [if_pos (by simpa using h1), if_neg (by omega), if_pos (by simpa using h2), if_neg (by omega), if_pos (by simpa using h5), if_pos (by omega), if_neg (by simp [h6])]
              · rw [if_pos (by simpa using h1), if_neg (by omega), if_pos (by simpa using h2), if_neg (by omega), if_neg (by simpa using h5), if_neg (by simp only [h5, decide_false, Bool.false_and, Bool.and_false]; simp)]
            · rw [if_pos (by simpa using h1), if_neg (by omega), if_pos (by simpa using h2), if_pos (by omega), if_neg (by simp only [h4, decide_false, Bool.false_and, Bool.and_false]; simp)]
          · rw [if_pos (by simpa using h1), if_neg (by omega), if_neg (by simpa using h2), if_neg (by simp only [h2, decide_false, Bool.false_and, Bool.and_false]; simp)]
        · rw [if_pos (by simpa using h1), if_pos (by omega), if_neg (by simp only [h3, decide_false, Bool.false_and, Bool.and_false]; simp)]
      · rw [if_neg (by simpa using h1), if_neg (by simp only [h1, decide_false, Bool.false_and, Bool.and_false]; simp)]
    cases ho : okC l[i]
    · exact Ev.ret fun k => by rw [hrow, ho]; simp
    · rw [Bool.true_and]
      exact Ev.step (fun k => by rw [hrow, ho, if_pos rfl]) (ih (i + 1) (by omega))
def okSea (a b : Int) (cs : List Int) (l : List S71) : Bool := decide (1 ≤ a ∧ a ≤ 12) && (decide (1 ≤ b ∧ b ≤ 12) && (decide ((cs.length : Int) = wrap64 (a * b)) && (decide (l.length ≤ 10) && (allB cs 0 1000 && l.all okC))))
theorem sea_spec (a b : Int) (cs : List Int) (l : List S71) (hc : cs.length ≤ 9223372036854775807) (hn : l.length ≤ 9223372036854775807) : Ev (fun k => spec_SeaOk.f k a b cs l) (okSea a b cs l) := by
  have no : Ev (fun k => spec_SeaOk.j0 k true a b cs l) false := Ev.ret fun k => by simp only [spec_SeaOk.j0, if_true]
  unfold spec_SeaOk.f okSea
  simp only [in_spec, Option.bind_some]
  by_cases h1 : 1 ≤ a ∧ a ≤ 12
  · by_cases h2 : 1 ≤ b ∧ b ≤ 12
    · by_cases h3 : (cs.length : Int) = wrap64 (a * b)
      · by_cases h4 : l.length ≤ 10
        · rw [decide_eq_true h1, decide_eq_true h2, decide_eq_true h3, decide_eq_true h4]
          simp only [Bool.true_and]
          refine Ev.yes (by simp) (Ev.yes (by simp) (Ev.yes h3 (Ev.no (by omega) (Ev.bind (all_spec cs 0 1000 hc) ?_))))
          cases h5 : allB cs 0 1000
          · exact no
          · refine Ev.step (f := fun k => spec_SeaOk.l0 k ((0 : Nat) : Int) a b cs l) (fun k => ?_) (by have := sea_spec_loop a b cs l hn l.length 0 (by omega); rwa [List.drop_zero] at this)
            simp only [spec_SeaOk.j0, Bool.not_true, Bool.false_eq_true, if_false]
            rfl
        · rw [decide_eq_true h1, decide_eq_true h2, decide_eq_true h3, decide_eq_false h4]
          simp only [Bool.true_and, Bool.false_and]
          exact Ev.yes (by simp) (Ev.yes (by simp) (Ev.yes h3 (Ev.yes (by omega) no)))
      · rw [decide_eq_true h1, decide_eq_true h2, decide_eq_false h3]
        simp only [Bool.true_and, Bool.false_and]
        exact Ev.yes (by simp) (Ev.yes (by simp) (Ev.no h3 no))
    · rw [decide_eq_true h1, decide_eq_false h2]
      simp only [Bool.true_and, Bool.false_and]
      exact Ev.yes (by simp) (Ev.no (by simp) no)
  · rw [decide_eq_false h1]
    simp only [Bool.false_and]
    exact Ev.no (by simp) no
theorem sea_impl (a b : Int) (cs : List Int) (l : List S71) (hn : l.length ≤ 9223372036854775807) : Ev (fun k => impl_SeaOk.f k a b cs l) (okSea a b cs l) := by
  have no : Ev (fun k => impl_SeaOk.j0 k true a b cs l) false := Ev.ret fun k => by simp only [impl_SeaOk.j0, if_true]
  unfold impl_SeaOk.f okSea
  simp only [in_impl, all_impl, Option.bind_some]
  by_cases h1 : 1 ≤ a ∧ a ≤ 12
  · by_cases h2 : 1 ≤ b ∧ b ≤ 12
    · by_cases h3 : (cs.length : Int) = wrap64 (a * b)
      · rw [decide_eq_true h1, decide_eq_true h2, decide_eq_true h3]
        simp only [Bool.true_and]
        refine Ev.yes (by simp) (Ev.yes (by simp) (Ev.yes h3 ?_))
        cases h5 : allB cs 0 1000
        · rw [Bool.false_and, Bool.and_false]
          exact Ev.no (by simp) no
        · refine Ev.yes (by simp) ?_
          by_cases h4 : l.length ≤ 10
          · rw [decide_eq_true h4, decide_eq_false (by omega)]
            simp only [Bool.true_and]
            refine Ev.step (f := fun k => impl_SeaOk.l0 k l l.length ((0 : Nat) : Int)) (fun k => ?_) (by have := sea_impl_loop l hn l.length 0 (by omega); rwa [List.drop_zero] at this)
            simp only [impl_SeaOk.j0, Bool.false_eq_true, if_false]
            rfl
          · rw [decide_eq_false h4, decide_eq_true (by omega)]
            simp only [Bool.false_and]
            exact no
      · rw [decide_eq_true h1, decide_eq_true h2, decide_eq_false h3]
        simp only [Bool.true_and, Bool.false_and]
        exact Ev.yes (by simp) (Ev.yes (by simp) (Ev.no h3 no))
    · rw [decide_eq_true h1, decide_eq_false h2]
      simp only [Bool.true_and, Bool.false_and]
      exact Ev.yes (by simp) (Ev.no (by simp) no)
  · rw [decide_eq_false h1]
    simp only [Bool.false_and]
    exact Ev.no (by simp) no
end Go.Proofs.Ytdhnbikjfckmaaa.Dc
namespace Go.Proofs.Ytdhnbikjfckmaaa.Pure
open Go.RowKit Go.Proofs.Ytdhnbikjfckmaaa.PD1 Go.Proofs.YtdhnbikjfckmaaaW.PrintWords Go.Proofs.Ytdhnbikjfckmaaa.Dc
theorem FnExactSeaOk : ∀ (a0_0 : Int) (a0_1 : Int) (l0_2 : List Int) (l0_3 : List (S77)), l0_2.length ≤ 9223372036854775807 → l0_3.length ≤ 9223372036854775807 → ∃ k, laws_FnExactSeaOk.f k a0_0 a0_1 l0_2 l0_3 = some true := by
  intro a b cs l hc hn
  refine Ev.rounds (g := fun k => laws_FnExactSeaOk.f k a b cs l) ?_
  unfold laws_FnExactSeaOk.f laws_szSea.f
  rw [szIntS cs 1048576 (by omega) (by omega) hc]
  simp only [Option.bind_some]
  by_cases h1 : (cs.length : Int) ≤ 1048576
  · have e1 : szOf cs.length 1048576 = 1048576 - cs.length := by unfold szOf; rw [if_pos h1]
    rw [e1, if_neg (by omega), szClosedS l _ (by omega) (by omega) hn]
    simp only [Option.bind_some]
    by_cases h2 : (l.length : Int) ≤ 1048576 - cs.length
    · have e2 : szOf l.length (1048576 - (cs.length : Int)) = 1048576 - cs.length - l.length := by unfold szOf; rw [if_pos h2]
      rw [e2, if_neg (by omega)]
      simp only [Option.bind_some]
      have hl1 : cs.length ≤ 1048576 := by omega
      have hl2 : l.length ≤ 1048576 := by omega
      have hl3 : (l.map cvClosed).length ≤ 9223372036854775807 := by rw [List.length_map]; exact hn
      have tS : Ev (fun k => laws_toSea.f k a b cs l) (a, b, cs, l.map cvClosed) := by
        unfold laws_toSea.f
        exact Ev.bind (toIntS cs hl1) (Ev.bind (toClosedS l hl2) (Ev.const fun _ => rfl))
      have eS : Ev (fun k => laws_eqSea.f k a b cs (l.map cvClosed) a b cs (l.map cvClosed)) true := by
        unfold laws_eqSea.f
        exact Ev.yes (by simp) (Ev.yes (by simp) (Ev.bind (eqIntS cs hc) (Ev.yes (by simp) (Ev.bind (eqClosedS _ hl3) (Ev.yes (by simp) (Ev.const fun _ => rfl))))))
      refine Ev.no (by omega) (Ev.bind tS (Ev.bind (sea_spec a b cs (l.map cvClosed) hc hl3) (Ev.bind tS (Ev.bind (sea_impl a b cs (l.map cvClosed) hl3) ?_))))
      exact Ev.no (by simp) (Ev.bind tS (Ev.bind eS (Ev.yes (by simp) (Ev.const fun _ => rfl))))
    · have e2 : szOf l.length (1048576 - (cs.length : Int)) = -1 := by unfold szOf; rw [if_neg h2]
      rw [e2]
      exact Ev.const fun _ => by simp
  · have e1 : szOf cs.length 1048576 = -1 := by unfold szOf; rw [if_neg h1]
    rw [e1]
    exact Ev.const fun _ => by simp
end Go.Proofs.Ytdhnbikjfckmaaa.Pure
