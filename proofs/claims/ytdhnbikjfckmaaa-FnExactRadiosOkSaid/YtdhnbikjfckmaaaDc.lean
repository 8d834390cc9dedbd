/- The plain part, what the laws of this seat share: copies, equality, marks, bounds. -/
import Derived.Test.YtdhnbikjfckmaaaPD1x12
import Derived.Test.YtdhnbikjfckmaaaPD1x14
import Derived.Test.YtdhnbikjfckmaaaPD1x15
import Derived.Test.YtdhnbikjfckmaaaPD1x18
import Derived.Test.YtdhnbikjfckmaaaPD1x3
import Derived.Test.YtdhnbikjfckmaaaPD1x5
import Derived.Test.YtdhnbikjfckmaaaPD1x7
import Derived.Test.YtdhnbikjfckmaaaPD1x8
namespace Go.Proofs.Ytdhnbikjfckmaaa.Dc
open Go.RowKit Go.Proofs.Ytdhnbikjfckmaaa.PD1 Go.Proofs.YtdhnbikjfckmaaaW.PrintWords
set_option linter.unusedVariables false
set_option linter.unusedSimpArgs false

theorem Ev.ret {α : Type} {g : Nat → Option α} {r : α} (h : ∀ k, g (k + 1) = some r) : Ev g r := ⟨1, fun k hk => by obtain ⟨m, rfl⟩ : ∃ m, k = m + 1 := ⟨k - 1, by omega⟩; exact h m⟩
theorem Ev.const {α : Type} {g : Nat → Option α} {r : α} (h : ∀ k, g k = some r) : Ev g r := ⟨0, fun k _ => h k⟩
theorem Ev.yes {α : Type} {c : Prop} [Decidable c] {g f : Nat → Option α} {r : α} (hc : c) (h : Ev g r) : Ev (fun k => if c then g k else f k) r := Ev.congr (fun k => if_pos hc) h
theorem Ev.no {α : Type} {c : Prop} [Decidable c] {g f : Nat → Option α} {r : α} (hc : ¬ c) (h : Ev f r) : Ev (fun k => if c then g k else f k) r := Ev.congr (fun k => if_neg hc) h
theorem wk {i n : Nat} (h : i < n) (hn : n ≤ 9223372036854775807) : wrap64 ((i : Int) + 1) = ((i + 1 : Nat) : Int) := by
  unfold wrap64
  omega
theorem drop_at {α : Type} (l : List α) (i : Nat) (h : i < l.length) : l.drop i = l[i] :: l.drop (i + 1) := List.drop_eq_getElem_cons h
theorem rd_at (l : List Int) (i : Nat) (h : i < l.length) : rd l (i : Int) = l[i] := by simp [rd, h]
/-! ### Copies -/
theorem toIntS_loop (l : List Int) (hn : l.length ≤ 9223372036854775807) (d : Nat) : ∀ (i : Nat) (xs : List Int), xs.length = l.length → i + d = l.length → xs.take i = l.take i → Ev (fun k => laws_toIntS.l0 k l xs i) l := by
  induction d with
  | zero =>
    intro i xs hl hd ht
    refine Ev.ret fun k => ?_
    simp only [laws_toIntS.l0]
    rw [if_neg (by omega), List.take_of_length_le (by omega), List.take_of_length_le (by omega)] at *
    exact congrArg some ht
  | succ d ih =>
    intro i xs hl hd ht
    refine Ev.step (f := fun k => laws_toIntS.l0 k l (xs.set i (rd l i)) ((i + 1 : Nat) : Int)) (fun k => ?_) (ih (i + 1) _ (by simpa using hl) (by omega) ?_)
    · simp only [laws_toIntS.l0]
      rw [if_pos (by omega), if_pos (by omega), if_pos (by omega), wk (n := l.length) (by omega) hn, Int.toNat_natCast]
    · have hi : i < l.length := by omega
      rw [List.take_succ_eq_append_getElem (by simp; omega), List.take_succ_eq_append_getElem hi]
      congr 1
      · rw [List.take_set_of_le (Nat.le_refl i)]; exact ht
      · simp [rd, hi]
theorem toIntS (l : List Int) (hn : l.length ≤ 1048576) : Ev (fun k => laws_toIntS.f k l) l := by
  refine Ev.congr (f := fun k => laws_toIntS.l0 k l (List.replicate l.length 0) ((0 : Nat) : Int)) (fun k => ?_) (toIntS_loop l (by omega) l.length 0 _ (by simp) (by omega) (by simp))
  unfold laws_toIntS.f
  rw [if_pos (by omega), if_pos (by simp; omega), Int.toNat_natCast]
  rfl
/-! ### Equality -/
theorem eqIntS_loop (l : List Int) (hn : l.length ≤ 9223372036854775807) (d : Nat) : ∀ (i : Nat), i + d = l.length → Ev (fun k => laws_eqIntS.l0 k l l i) true := by
  induction d with
  | zero =>
    intro i hd
    refine Ev.ret fun k => ?_
    simp only [laws_eqIntS.l0]
    rw [if_neg (by omega)]
  | succ d ih =>
    intro i hd
    refine Ev.step (f := fun k => laws_eqIntS.l0 k l l ((i + 1 : Nat) : Int)) (fun k => ?_) (ih (i + 1) (by omega))
    simp only [laws_eqIntS.l0]
    rw [if_pos (by omega), if_pos (by omega), if_pos (by omega), if_pos trivial, wk (n := l.length) (by omega) hn]
theorem eqIntS (l : List Int) (hn : l.length ≤ 9223372036854775807) : Ev (fun k => laws_eqIntS.f k l l) true := by
  refine Ev.congr (f := fun k => laws_eqIntS.l0 k l l ((0 : Nat) : Int)) (fun k => ?_) (eqIntS_loop l hn l.length 0 (by omega))
  unfold laws_eqIntS.f
  rw [if_pos rfl]
  rfl
theorem w64 (x : Int) (h0 : -9223372036854775808 ≤ x) (h1 : x < 9223372036854775808) : wrap64 x = x := by
  unfold wrap64
  omega
theorem wf64 {x : Int} (h : (Lit.int .i64 x).wf = true) : -9223372036854775808 ≤ x ∧ x ≤ 9223372036854775807 := by
  simp [Lit.wf, IntKind.min, IntKind.max, IntKind.signed, IntKind.bits] at h
  omega
/-! ### Marks -/
def marks (a : Int) (n : Nat) : List Int := (List.range n).map fun i : Nat => a + (i : Int)
theorem set_mid (A : List Int) (x y : Int) (B : List Int) (i : Nat) (h : A.length = i) : (A ++ x :: B).set i y = A ++ y :: B := by subst h; simp
theorem rd_mid (A : List Int) (x : Int) (B : List Int) (i : Nat) (h : A.length = i) : rd (A ++ x :: B) (i : Int) = x := by subst h; simp [rd]
theorem marks_len (a : Int) (n : Nat) : (marks a n).length = n := by simp [marks]
theorem mark_loop (l : List Int) (a : Int) (h0 : 0 ≤ a) (h1 : a ≤ 4000000000000000000) (hn : l.length ≤ 4000000000000000000) (d : Nat) : ∀ i : Nat, i + d = l.length → Ev (fun k => laws_markIntS.l0 k (marks a i ++ l.drop i) (a + i) i) (a + l.length, marks a l.length) := by
  induction d with
  | zero =>
    intro i hd
    refine Ev.ret fun k => ?_
    have : i = l.length := by omega
    subst this
    simp only [laws_markIntS.l0]
    rw [if_neg (by simp [marks])]
    simp
  | succ d ih =>
    intro i hd
    have hi : i < l.length := by omega
    refine Ev.step (f := fun k => laws_markIntS.l0 k (marks a (i + 1) ++ l.drop (i + 1)) (a + ((i + 1 : Nat) : Int)) ((i + 1 : Nat) : Int)) (fun k => ?_) (ih (i + 1) (by omega))
    simp only [laws_markIntS.l0]
    rw [if_pos (by simp [marks]; omega), if_pos (by omega), wk (n := l.length) (by omega) (by omega), Int.toNat_natCast, drop_at l i hi, set_mid _ _ _ _ _ (marks_len a i)]
    have e1 : wrap64 (a + (i : Int) + 1) = a + ((i + 1 : Nat) : Int) := by rw [w64 _ (by omega) (by omega)]; omega
    have e2 : marks a (i + 1) = marks a i ++ [a + (i : Int)] := by unfold marks; rw [List.range_succ, List.map_append]; rfl
    rw [e1, e2, List.append_assoc]
    rfl
theorem markI (l : List Int) (a : Int) (h0 : 0 ≤ a) (h1 : a ≤ 4000000000000000000) (hn : l.length ≤ 4000000000000000000) : Ev (fun k => laws_markIntS.f k l a) (a + l.length, marks a l.length) := by
  refine Ev.congr (fun k => ?_) (mark_loop l a h0 h1 hn l.length 0 (by omega))
  unfold laws_markIntS.f
  simp [marks]
theorem rd_marks (a : Int) (n i : Nat) (h : i < n) : rd (marks a n) (i : Int) = a + i := by simp [rd, marks, h]
theorem held_loop (n : Nat) (a : Int) (h0 : 0 ≤ a) (h1 : a ≤ 4000000000000000000) (hn : n ≤ 4000000000000000000) (d : Nat) : ∀ i : Nat, i + d = n → Ev (fun k => laws_heldIntS.l0 k (marks a n) (a + i) i) (a + n) := by
  induction d with
  | zero =>
    intro i hd
    refine Ev.ret fun k => ?_
    have : i = n := by omega
    subst this
    simp only [laws_heldIntS.l0]
    rw [if_neg (by rw [marks_len]; omega)]
  | succ d ih =>
    intro i hd
    refine Ev.step (f := fun k => laws_heldIntS.l0 k (marks a n) (a + ((i + 1 : Nat) : Int)) ((i + 1 : Nat) : Int)) (fun k => ?_) (ih (i + 1) (by omega))
    simp only [laws_heldIntS.l0]
    have e1 : wrap64 (a + (i : Int) + 1) = a + ((i + 1 : Nat) : Int) := by rw [w64 _ (by omega) (by omega)]; omega
    rw [if_pos (by rw [marks_len]; omega), if_pos (by omega), rd_marks a n i (by omega), if_pos rfl, e1, wk (n := n) (by omega) (by omega)]
theorem heldI (n : Nat) (a : Int) (h0 : 0 ≤ a) (h1 : a ≤ 4000000000000000000) (hn : n ≤ 4000000000000000000) : Ev (fun k => laws_heldIntS.f k (marks a n) a) (a + n) := by
  refine Ev.congr (fun k => ?_) (held_loop n a h0 h1 hn n 0 (by omega))
  unfold laws_heldIntS.f
  simp
/-! ### Bounds of a list -/
def allB (l : List Int) (a b : Int) : Bool := l.all fun x => decide (a ≤ x) && decide (x ≤ b)
theorem in_spec (a b c : Int) : spec_l1In.f a b c = some (decide (b ≤ a ∧ a ≤ c)) := by
  unfold spec_l1In.f
  by_cases h : b ≤ a
  · rw [if_pos h]; simp [h]
  · rw [if_neg h]; simp [h]
theorem in_impl (a b c : Int) : impl_in.f a b c = some (decide (b ≤ a ∧ a ≤ c)) := by
  unfold impl_in.f
  by_cases h : b ≤ a
  · rw [if_pos h]; simp [h]
  · rw [if_neg h]; simp [h]
theorem all_loop (l : List Int) (a b : Int) (hn : l.length ≤ 9223372036854775807) (d : Nat) : ∀ i : Nat, i + d = l.length → Ev (fun k => spec_l3All.l0 k l a b i) (allB (l.drop i) a b) := by
  induction d with
  | zero =>
    intro i hd
    refine Ev.ret fun k => ?_
    simp only [spec_l3All.l0]
    rw [if_neg (by omega), List.drop_of_length_le (by omega)]
    rfl
  | succ d ih =>
    intro i hd
    have hi : i < l.length := by omega
    rw [drop_at l i hi]
    by_cases h : a ≤ l[i] ∧ l[i] ≤ b
    · have e : allB (l[i] :: l.drop (i + 1)) a b = allB (l.drop (i + 1)) a b := by unfold allB; rw [List.all_cons]; simp [h]
      rw [e]
      refine Ev.step (f := fun k => spec_l3All.l0 k l a b ((i + 1 : Nat) : Int)) (fun k => ?_) (ih (i + 1) (by omega))
      simp only [spec_l3All.l0]
      rw [if_pos (by omega), if_pos (by omega), in_spec, rd_at l i hi, decide_eq_true h]
      simp only [Option.bind_some, if_true]
      rw [wk (n := l.length) (by omega) hn]
    · have e : allB (l[i] :: l.drop (i + 1)) a b = false := by
        unfold allB
        rw [List.all_cons]
        have : (decide (a ≤ l[i]) && decide (l[i] ≤ b)) = false := by rw [← Bool.decide_and]; exact decide_eq_false h
        rw [this, Bool.false_and]
      rw [e]
      refine Ev.ret fun k => ?_
      simp only [spec_l3All.l0]
      rw [if_pos (by omega), if_pos (by omega), in_spec, rd_at l i hi, decide_eq_false h]
      simp
theorem all_spec (l : List Int) (a b : Int) (hn : l.length ≤ 9223372036854775807) : Ev (fun k => spec_l3All.f k l a b) (allB l a b) := by
  have := all_loop l a b hn l.length 0 (by omega)
  rw [List.drop_zero] at this
  exact this
theorem all_impl (l : List Int) (a b : Int) : impl_all.f l a b = some (allB l a b) := rfl
end Go.Proofs.Ytdhnbikjfckmaaa.Dc
