/- The plain part for hulls: what the printed functions of the first print compute, in closed form. -/
import Derived.Test.YteggnboikjjaiaaPH1x1
import Derived.Test.YteggnboikjjaiaaPH1x2
import Derived.Test.YteggnboikjjaiaaPH1x3
import Derived.Test.YteggnboikjjaiaaPH1x4
namespace Go.Proofs.Yteggnboikjjaiaa.Hp
open Go.RowKit Go.Proofs.Yteggnboikjjaiaa.PH1 Go.Proofs.YteggnboikjjaiaaW.PrintWords
set_option linter.unusedVariables false
set_option linter.unusedSimpArgs false

theorem Ev.ret {α : Type} {g : Nat → Option α} {r : α} (h : ∀ k, g (k + 1) = some r) : Ev g r := ⟨1, fun k hk => by obtain ⟨m, rfl⟩ : ∃ m, k = m + 1 := ⟨k - 1, by omega⟩; exact h m⟩
theorem Ev.const {α : Type} {g : Nat → Option α} {r : α} (h : ∀ k, g k = some r) : Ev g r := ⟨0, fun k _ => h k⟩
theorem wk {i n : Nat} (h : i < n) (hn : n ≤ 9223372036854775807) : wrap64 ((i : Int) + 1) = ((i + 1 : Nat) : Int) := by
  unfold wrap64
  omega
theorem drop_at {α : Type} (l : List α) (i : Nat) (h : i < l.length) : l.drop i = l[i] :: l.drop (i + 1) := List.drop_eq_getElem_cons h
theorem rd_at (l : List Int) (i : Nat) (h : i < l.length) : rd l (i : Int) = l[i] := by simp [rd, h]
theorem rdL_at (l : List (List Int)) (i : Nat) (h : i < l.length) : rd_L1 l (i : Int) = l[i] := by simp [rd_L1, h]

/-! ### Copies -/
theorem toIntS_loop (l : List Int) (hn : l.length ≤ 9223372036854775807) (d : Nat) : ∀ (i : Nat) (xs : List Int), xs.length = l.length → i + d = l.length → xs.take i = l.take i → Ev (fun k => laws_toIntS.l0 k l xs i) l := by
  induction d with
  | zero =>
    intro i xs hl hd ht
    refine Ev.ret fun k => ?_
    simp only [laws_toIntS.l0]
    rw [if_neg (by omega), List.take_of_length_le (by omega), List.take_of_length_le (by omega)] at *
    exact congrArg some ht
  | succ d ih =>
    intro i xs hl hd ht
    refine Ev.step (f := fun k => laws_toIntS.l0 k l (xs.set i (rd l i)) ((i + 1 : Nat) : Int)) (fun k => ?_) (ih (i + 1) _ (by simpa using hl) (by omega) ?_)
    · simp only [laws_toIntS.l0]
      rw [if_pos (by omega), if_pos (by omega), if_pos (by omega), wk (n := l.length) (by omega) hn, Int.toNat_natCast]
    · have hi : i < l.length := by omega
      rw [List.take_succ_eq_append_getElem (by simp; omega), List.take_succ_eq_append_getElem hi]
      congr 1
      · rw [List.take_set_of_le (Nat.le_refl i)]; exact ht
      · simp [rd, hi]
theorem toIntS (l : List Int) (hn : l.length ≤ 1048576) : Ev (fun k => laws_toIntS.f k l) l := by
  refine Ev.congr (f := fun k => laws_toIntS.l0 k l (List.replicate l.length 0) ((0 : Nat) : Int)) (fun k => ?_) (toIntS_loop l (by omega) l.length 0 _ (by simp) (by omega) (by simp))
  unfold laws_toIntS.f
  rw [if_pos (by omega), if_pos (by simp; omega), Int.toNat_natCast]
  rfl
theorem toIntSS_loop (l : List (List Int)) (hn : l.length ≤ 9223372036854775807) (hr : ∀ x ∈ l, x.length ≤ 1048576) (d : Nat) : ∀ (i : Nat) (xs : List (List Int)), xs.length = l.length → i + d = l.length → xs.take i = l.take i → Ev (fun k => laws_toIntSS.l0 k l xs i) l := by
  induction d with
  | zero =>
    intro i xs hl hd ht
    refine Ev.ret fun k => ?_
    simp only [laws_toIntSS.l0]
    rw [if_neg (by omega), List.take_of_length_le (by omega), List.take_of_length_le (by omega)] at *
    exact congrArg some ht
  | succ d ih =>
    intro i xs hl hd ht
    have hi : i < l.length := by omega
    refine Ev.step (f := fun k => (laws_toIntS.f k l[i]).bind fun t => if (i : Int) < (xs.length : Int) then laws_toIntSS.l0 k l (xs.set i t) ((i + 1 : Nat) : Int) else none) (fun k => ?_) (Ev.bind (a := l[i]) (toIntS _ (hr _ (List.getElem_mem hi))) (Ev.congr (f := fun k => laws_toIntSS.l0 k l (xs.set i l[i]) ((i + 1 : Nat) : Int)) (fun k => by rw [if_pos (by omega)]) (ih (i + 1) (xs.set i l[i]) (by simpa using hl) (by omega) ?_)))
    · simp only [laws_toIntSS.l0]
      rw [if_pos (by omega), if_pos (by omega), wk (n := l.length) (by omega) hn, Int.toNat_natCast, rdL_at l i hi]
    · rw [List.take_succ_eq_append_getElem (by simp; omega), List.take_succ_eq_append_getElem hi]
      congr 1
      · rw [List.take_set_of_le (Nat.le_refl i)]; exact ht
      · simp [hi]
theorem toIntSS (l : List (List Int)) (hn : l.length ≤ 1048576) (hr : ∀ x ∈ l, x.length ≤ 1048576) : Ev (fun k => laws_toIntSS.f k l) l := by
  refine Ev.congr (f := fun k => laws_toIntSS.l0 k l (List.replicate l.length []) ((0 : Nat) : Int)) (fun k => ?_) (toIntSS_loop l (by omega) hr l.length 0 _ (by simp) (by omega) (by simp))
  unfold laws_toIntSS.f
  rw [if_pos (by omega), if_pos (by simp; omega), Int.toNat_natCast]
  rfl
theorem toHull (a b : Int) (l : List (List Int)) (hn : l.length ≤ 1048576) (hr : ∀ x ∈ l, x.length ≤ 1048576) : Ev (fun k => laws_toHull.f k a b l) (a, b, l) := by
  unfold laws_toHull.f
  exact Ev.bind (toIntSS l hn hr) (Ev.const fun _ => rfl)

/-! ### Equality -/
theorem eqIntS_loop (l : List Int) (hn : l.length ≤ 9223372036854775807) (d : Nat) : ∀ (i : Nat), i + d = l.length → Ev (fun k => laws_eqIntS.l0 k l l i) true := by
  induction d with
  | zero =>
    intro i hd
    refine Ev.ret fun k => ?_
    simp only [laws_eqIntS.l0]
    rw [if_neg (by omega)]
  | succ d ih =>
    intro i hd
    refine Ev.step (f := fun k => laws_eqIntS.l0 k l l ((i + 1 : Nat) : Int)) (fun k => ?_) (ih (i + 1) (by omega))
    simp only [laws_eqIntS.l0]
    rw [if_pos (by omega), if_pos (by omega), if_pos (by omega), if_pos trivial, wk (n := l.length) (by omega) hn]
theorem eqIntS (l : List Int) (hn : l.length ≤ 9223372036854775807) : Ev (fun k => laws_eqIntS.f k l l) true := by
  refine Ev.congr (f := fun k => laws_eqIntS.l0 k l l ((0 : Nat) : Int)) (fun k => ?_) (eqIntS_loop l hn l.length 0 (by omega))
  unfold laws_eqIntS.f
  rw [if_pos rfl]
  rfl
theorem eqIntSS_loop (l : List (List Int)) (hn : l.length ≤ 9223372036854775807) (hr : ∀ x ∈ l, x.length ≤ 9223372036854775807) (d : Nat) : ∀ (i : Nat), i + d = l.length → Ev (fun k => laws_eqIntSS.l0 k l l i) true := by
  induction d with
  | zero =>
    intro i hd
    refine Ev.ret fun k => ?_
    simp only [laws_eqIntSS.l0]
    rw [if_neg (by omega)]
  | succ d ih =>
    intro i hd
    have hi : i < l.length := by omega
    refine Ev.step (f := fun k => (laws_eqIntS.f k l[i] l[i]).bind fun t => if t = true then laws_eqIntSS.l0 k l l ((i + 1 : Nat) : Int) else some false) (fun k => ?_) (Ev.bind (a := true) (eqIntS _ (hr _ (List.getElem_mem hi))) (Ev.congr (f := fun k => laws_eqIntSS.l0 k l l ((i + 1 : Nat) : Int)) (fun k => by rw [if_pos rfl]) (ih (i + 1) (by omega))))
    simp only [laws_eqIntSS.l0]
    rw [if_pos (by omega), if_pos (by omega), if_pos (by omega), wk (n := l.length) (by omega) hn, rdL_at l i hi]
theorem eqHull (a b : Int) (l : List (List Int)) (hn : l.length ≤ 1048576) (hr : ∀ x ∈ l, x.length ≤ 1048576) : Ev (fun k => laws_eqHull.f k a b l a b l) true := by
  refine Ev.congr (f := fun k => (laws_eqIntSS.l0 k l l ((0 : Nat) : Int)).bind fun t => if t = true then some true else some false) (fun k => ?_) (Ev.bind (a := true) (eqIntSS_loop l (by omega) (fun x hx => by have := hr x hx; omega) l.length 0 (by omega)) (Ev.const fun k => by rw [if_pos rfl]))
  unfold laws_eqHull.f laws_eqIntSS.f
  rw [if_pos rfl, if_pos rfl, if_pos rfl]
  rfl

/-! ### The size -/
def totL (l : List (List Int)) : Nat := (l.map List.length).sum
theorem sz_loop (l : List (List Int)) (hn : l.length ≤ 9223372036854775807) (hr : ∀ x ∈ l, x.length ≤ 9223372036854775807) (d : Nat) : ∀ (i : Nat) (m : Int), i + d = l.length → 0 ≤ m → m ≤ 1048576 →
    Ev (fun k => laws_szIntSS.l0 k l m i) (if (totL (l.drop i) : Int) ≤ m then m - totL (l.drop i) else -1) := by
  induction d with
  | zero =>
    intro i m hd h0 h1
    refine Ev.ret fun k => ?_
    simp only [laws_szIntSS.l0]
    rw [if_neg (by omega), List.drop_of_length_le (by omega), if_pos (by simpa [totL] using h0)]
    simp [totL]
  | succ d ih =>
    intro i m hd h0 h1
    have hi : i < l.length := by omega
    have ht : totL (l.drop i) = l[i].length + totL (l.drop (i + 1)) := by unfold totL; rw [drop_at l i hi, List.map_cons, List.sum_cons]
    have hx := hr _ (List.getElem_mem hi)
    have hw : wrap64 (m - (l[i].length : Int)) = m - l[i].length := by unfold wrap64; omega
    by_cases hneg : m - (l[i].length : Int) < 0
    · refine Ev.ret fun k => ?_
      simp only [laws_szIntSS.l0]
      rw [if_pos (by omega), if_pos (by omega), rdL_at l i hi]
      unfold laws_szIntS.f
      rw [hw, if_pos hneg, if_neg (by omega)]
      simp
    · have := ih (i + 1) (m - l[i].length) (by omega) (by omega) (by omega)
      have e : (if (totL (l.drop i) : Int) ≤ m then m - totL (l.drop i) else -1) = (if (totL (l.drop (i + 1)) : Int) ≤ m - l[i].length then m - l[i].length - totL (l.drop (i + 1)) else -1) := by
        rw [ht]; split <;> split <;> omega
      rw [e]
      refine Ev.step (f := fun k => laws_szIntSS.l0 k l (m - l[i].length) ((i + 1 : Nat) : Int)) (fun k => ?_) this
      simp only [laws_szIntSS.l0]
      rw [if_pos (by omega), if_pos (by omega), rdL_at l i hi]
      unfold laws_szIntS.f
      rw [hw, if_neg hneg]
      simp only [Option.bind_some]
      rw [if_neg hneg, wk (n := l.length) (by omega) hn]
def sizeH (l : List (List Int)) : Nat := l.length + totL l
def szOf (n : Nat) (m : Int) : Int := if (n : Int) ≤ m then m - n else -1
theorem szHull (a b : Int) (l : List (List Int)) (m : Int) (h0 : 0 ≤ m) (h1 : m ≤ 1048576) (hn : l.length ≤ 9223372036854775807) (hr : ∀ x ∈ l, x.length ≤ 9223372036854775807) : Ev (fun k => laws_szHull.f k a b l m) (szOf (sizeH l) m) := by
  have hw : wrap64 (m - (l.length : Int)) = m - l.length := by unfold wrap64; omega
  unfold laws_szHull.f laws_szIntSS.f szOf sizeH
  by_cases hneg : m - (l.length : Int) < 0
  · refine Ev.const fun k => ?_
    rw [hw, if_pos hneg, if_neg (by omega)]
    simp
  · have := sz_loop l hn hr l.length 0 (m - l.length) (by omega) (by omega) (by omega)
    rw [List.drop_zero] at this
    refine Ev.congr (f := fun k => (laws_szIntSS.l0 k l (m - l.length) ((0 : Nat) : Int)).bind fun t => if t < 0 then some (-1) else some t) (fun k => by rw [hw, if_neg hneg]; rfl) (Ev.bind this (Ev.const fun k => ?_))
    by_cases h : (totL l : Int) ≤ m - l.length
    · have h2 : ((l.length + totL l : Nat) : Int) ≤ m := by omega
      simp only [if_pos h, if_pos h2]
      rw [if_neg (by omega)]
      congr 1
      omega
    · have h2 : ¬ ((l.length + totL l : Nat) : Int) ≤ m := by omega
      simp only [if_neg h, if_neg h2]
      rfl
theorem row_le (l : List (List Int)) : ∀ x ∈ l, x.length ≤ totL l := by
  intro x hx
  induction l with
  | nil => cases hx
  | cons y l ih =>
    have e : totL (y :: l) = y.length + totL l := by simp [totL]
    rcases List.mem_cons.1 hx with rfl | hx
    · omega
    · have := ih hx; omega

/-! ### HullOk -/
def okRow (n : Nat) (l : List Int) : Bool := decide (l.length = n) && l.all fun x => decide (0 ≤ x) && decide (x ≤ 50)
def okHull (s r : Int) (h : List (List Int)) : Bool :=
  (decide (1 ≤ s ∧ s ≤ 100) && decide (1 ≤ r ∧ r ≤ 20)) && (decide (2 ≤ h.length ∧ h.length ≤ 12) && (decide (2 ≤ (h.headD []).length ∧ (h.headD []).length ≤ 10) && h.all (okRow (h.headD []).length)))
theorem in_impl (a b c : Int) : impl_in.f a b c = some (decide (b ≤ a ∧ a ≤ c)) := by
  unfold impl_in.f
  by_cases h : b ≤ a
  · rw [if_pos h]; simp [h]
  · rw [if_neg h]; simp [h]
theorem in_spec (a b c : Int) : spec_l1In.f a b c = some (decide (b ≤ a ∧ a ≤ c)) := by
  unfold spec_l1In.f
  by_cases h : b ≤ a
  · rw [if_pos h]; simp [h]
  · rw [if_neg h]; simp [h]
theorem impl_loop (h : List (List Int)) (hn : h.length ≤ 9223372036854775807) (h0 : 0 < h.length) (s r : Int) (d : Nat) : ∀ i : Nat, i + d = h.length → Ev (fun k => impl_HullOk.l0 k h h.length i s r h) ((h.drop i).all (okRow (h.headD []).length)) := by
  have hh : rd_L1 h 0 = h.headD [] := by cases h <;> simp [rd_L1]
  induction d with
  | zero =>
    intro i hd
    refine Ev.ret fun k => ?_
    simp only [impl_HullOk.l0]
    rw [if_neg (by omega), List.drop_of_length_le (by omega)]
    rfl
  | succ d ih =>
    intro i hd
    have hi : i < h.length := by omega
    rw [drop_at h i hi]
    by_cases h1 : h[i].length = (h.headD []).length
    · cases h2 : h[i].all fun x => decide (0 ≤ x) && decide (x ≤ 50)
      · refine Ev.ret fun k => ?_
        simp only [impl_HullOk.l0]
        rw [if_pos (by omega), if_pos (by omega), if_pos (by omega), if_pos (by omega), hh, rdL_at h i hi, if_pos (by omega)]
        unfold impl_all.f
        rw [h2]
        simp only [Option.bind_some, Bool.false_eq_true, if_false]
        have : okRow (h.headD []).length h[i] = false := by unfold okRow; rw [h2]; simp
        rw [List.all_cons, this, Bool.false_and]
      · refine Ev.step (f := fun k => impl_HullOk.l0 k h h.length ((i + 1 : Nat) : Int) s r h) (fun k => ?_) ?_
        · simp only [impl_HullOk.l0]
          rw [if_pos (by omega), if_pos (by omega), if_pos (by omega), if_pos (by omega), hh, rdL_at h i hi, if_pos (by omega)]
          unfold impl_all.f
          rw [h2]
          simp only [Option.bind_some, if_true]
          rw [wk (n := h.length) (by omega) hn]
        · have := ih (i + 1) (by omega)
          have e : (h[i] :: h.drop (i + 1)).all (okRow (h.headD []).length) = (h.drop (i + 1)).all (okRow (h.headD []).length) := by
            rw [List.all_cons]
            have : okRow (h.headD []).length h[i] = true := by unfold okRow; rw [h2, decide_eq_true h1]; rfl
            rw [this, Bool.true_and]
          rw [e]
          exact this
    · refine Ev.ret fun k => ?_
      simp only [impl_HullOk.l0]
      rw [if_pos (by omega), if_pos (by omega), if_pos (by omega), if_pos (by omega), hh, rdL_at h i hi, if_neg (by omega)]
      have : okRow (h.headD []).length h[i] = false := by unfold okRow; rw [decide_eq_false h1, Bool.false_and]
      rw [List.all_cons, this, Bool.false_and]
theorem impl_ok (s r : Int) (h : List (List Int)) (hn : h.length ≤ 9223372036854775807) : Ev (fun k => impl_HullOk.f k s r h) (okHull s r h) := by
  unfold impl_HullOk.f
  simp only [in_impl, Option.bind_some]
  unfold okHull
  have no : Ev (fun k => impl_HullOk.j0 k true s r h) false := Ev.ret fun k => by simp only [impl_HullOk.j0, if_true]
  by_cases h1 : 1 ≤ s ∧ s ≤ 100
  · by_cases h2 : 1 ≤ r ∧ r ≤ 20
    · by_cases h3 : 2 ≤ h.length ∧ h.length ≤ 12
      · have h3' : (2 : Int) ≤ (h.length : Int) ∧ (h.length : Int) ≤ 12 := by omega
        have hh : rd_L1 h 0 = h.headD [] := by cases h <;> simp [rd_L1]
        have h5 : (0 : Int) < (h.length : Int) := by omega
        simp only [h1, h2, h3, h3', and_self, decide_true, if_true, hh, h5, Bool.true_and]
        by_cases h4 : 2 ≤ (h.headD []).length ∧ (h.headD []).length ≤ 10
        · have h4' : (2 : Int) ≤ ((h.headD []).length : Int) ∧ ((h.headD []).length : Int) ≤ 10 := by omega
          simp only [h4, h4', and_self, decide_true, Bool.not_true, Bool.true_and]
          refine Ev.step (f := fun k => impl_HullOk.l0 k h h.length ((0 : Nat) : Int) s r h) (fun k => ?_) (by have := impl_loop h hn (by omega) s r h.length 0 (by omega); rwa [List.drop_zero] at this)
          simp only [impl_HullOk.j0, Bool.false_eq_true, if_false]
          rfl
        · have h4' : ¬ ((2 : Int) ≤ ((h.headD []).length : Int) ∧ ((h.headD []).length : Int) ≤ 10) := by omega
          simp only [h4, h4', decide_false, Bool.not_false, Bool.false_and]
          exact no
      · have h3' : ¬ ((2 : Int) ≤ (h.length : Int) ∧ (h.length : Int) ≤ 12) := by omega
        simp only [h1, h2, h3, h3', and_self, decide_true, decide_false, if_true, Bool.false_eq_true, if_false, Bool.true_and, Bool.false_and]
        exact no
    · simp only [h1, h2, and_self, decide_true, decide_false, if_true, Bool.false_eq_true, if_false, Bool.and_false, Bool.false_and]
      exact no
  · simp only [h1, decide_false, Bool.false_eq_true, if_false, Bool.false_and]
    exact no
theorem spec_loop (h : List (List Int)) (hn : h.length ≤ 9223372036854775807) (h0 : 0 < h.length) (hr : ∀ x ∈ h, x.length ≤ 9223372036854775807) (s r : Int) (d : Nat) : ∀ i : Nat, i + d = h.length →
    Ev (fun k => spec_HullOk.l0 k i s r h) ((h.drop i).all (fun l => decide (2 ≤ (h.headD []).length ∧ (h.headD []).length ≤ 10) && okRow (h.headD []).length l)) := by
  have hh : rd_L1 h 0 = h.headD [] := by cases h <;> simp [rd_L1]
  induction d with
  | zero =>
    intro i hd
    refine Ev.ret fun k => ?_
    simp only [spec_HullOk.l0]
    rw [if_neg (by omega), List.drop_of_length_le (by omega)]
    rfl
  | succ d ih =>
    intro i hd
    have hi : i < h.length := by omega
    rw [drop_at h i hi, List.all_cons]
    have hx := hr _ (List.getElem_mem hi)
    by_cases h1 : h[i].length = (h.headD []).length
    · by_cases h4 : 2 ≤ (h.headD []).length ∧ (h.headD []).length ≤ 10
      · have h4' : (2 : Int) ≤ (h[i].length : Int) ∧ (h[i].length : Int) ≤ 10 := by omega
        -- the row's elements
        have inner : ∀ (e j : Nat), j + e = h[i].length → Ev (fun k => spec_HullOk.l1 k i j s r h) (((h[i].drop j).all fun x => decide (0 ≤ x) && decide (x ≤ 50)) && ((h.drop (i + 1)).all (fun l => decide (2 ≤ (h.headD []).length ∧ (h.headD []).length ≤ 10) && okRow (h.headD []).length l))) := by
          intro e
          induction e with
          | zero =>
            intro j hj
            rw [List.drop_of_length_le (by omega)]
            simp only [List.all_nil, Bool.true_and]
            refine Ev.step (f := fun k => spec_HullOk.l0 k ((i + 1 : Nat) : Int) s r h) (fun k => ?_) (ih (i + 1) (by omega))
            simp only [spec_HullOk.l1]
            rw [if_pos (by omega), if_pos (by omega), rdL_at h i hi, if_neg (by omega), wk (n := h.length) (by omega) hn]
          | succ e ihe =>
            intro j hj
            have hj' : j < h[i].length := by omega
            rw [drop_at h[i] j hj', List.all_cons]
            by_cases hb : 0 ≤ h[i][j] ∧ h[i][j] ≤ 50
            · refine Ev.step (f := fun k => spec_HullOk.l1 k i ((j + 1 : Nat) : Int) s r h) (fun k => ?_) ?_
              · simp only [spec_HullOk.l1]
                rw [if_pos (by omega), if_pos (by omega), rdL_at h i hi, if_pos (by omega), if_pos (by omega), in_spec, rd_at h[i] j hj']
                simp only [hb, and_self, decide_true, Option.bind_some, if_true]
                rw [wk (n := h[i].length) (by omega) hx]
              · have := ihe (j + 1) (by omega)
                simpa [hb] using this
            · refine Ev.ret fun k => ?_
              simp only [spec_HullOk.l1]
              rw [if_pos (by omega), if_pos (by omega), rdL_at h i hi, if_pos (by omega), if_pos (by omega), in_spec, rd_at h[i] j hj']
              have e2 : (decide (0 ≤ h[i][j]) && decide (h[i][j] ≤ 50)) = false := by
                rw [← Bool.decide_and]; exact decide_eq_false hb
              rw [e2, decide_eq_false hb]
              simp
        refine Ev.step (f := fun k => spec_HullOk.j2 k i false s r h) (fun k => ?_) (Ev.step (f := fun k => spec_HullOk.l1 k i ((0 : Nat) : Int) s r h) (fun k => ?_) ?_)
        · simp only [spec_HullOk.l0]
          rw [if_pos (by omega), if_pos (by omega), if_pos (by omega), hh, rdL_at h i hi, if_pos (by omega), in_spec]
          simp only [h4', and_self, decide_true, Option.bind_some, Bool.not_true]
        · simp only [spec_HullOk.j2, Bool.false_eq_true, if_false]
          rfl
        · have := inner h[i].length 0 (by omega)
          rw [List.drop_zero] at this
          have e3 : (decide (2 ≤ (h.headD []).length ∧ (h.headD []).length ≤ 10) && okRow (h.headD []).length h[i]) = (h[i].all fun x => decide (0 ≤ x) && decide (x ≤ 50)) := by
            unfold okRow; rw [decide_eq_true h4, decide_eq_true h1]; simp
          rw [e3]
          exact this
      · have h4' : ¬ ((2 : Int) ≤ (h[i].length : Int) ∧ (h[i].length : Int) ≤ 10) := by omega
        refine Ev.step (f := fun k => spec_HullOk.j2 k i true s r h) (fun k => ?_) (Ev.ret fun k => ?_)
        · simp only [spec_HullOk.l0]
          rw [if_pos (by omega), if_pos (by omega), if_pos (by omega), hh, rdL_at h i hi, if_pos (by omega), in_spec]
          simp only [h4', decide_false, Option.bind_some, Bool.not_false]
        · simp only [spec_HullOk.j2, if_true]
          rw [decide_eq_false h4]
          simp
    · refine Ev.step (f := fun k => spec_HullOk.j2 k i true s r h) (fun k => ?_) (Ev.ret fun k => ?_)
      · simp only [spec_HullOk.l0]
        rw [if_pos (by omega), if_pos (by omega), if_pos (by omega), hh, rdL_at h i hi, if_neg (by omega)]
      · simp only [spec_HullOk.j2, if_true]
        unfold okRow
        rw [decide_eq_false h1, Bool.false_and, Bool.and_false, Bool.false_and]
theorem spec_ok (s r : Int) (h : List (List Int)) (hn : h.length ≤ 9223372036854775807) (hr : ∀ x ∈ h, x.length ≤ 9223372036854775807) : Ev (fun k => spec_HullOk.f k s r h) (okHull s r h) := by
  unfold spec_HullOk.f
  simp only [in_spec, Option.bind_some]
  unfold okHull
  have no : Ev (fun k => spec_HullOk.j0 k true s r h) false := Ev.ret fun k => by simp only [spec_HullOk.j0, if_true]
  by_cases h1 : 1 ≤ s ∧ s ≤ 100
  · by_cases h2 : 1 ≤ r ∧ r ≤ 20
    · by_cases h3 : 2 ≤ h.length ∧ h.length ≤ 12
      · have h3' : (2 : Int) ≤ (h.length : Int) ∧ (h.length : Int) ≤ 12 := by omega
        simp only [h1, h2, h3, h3', and_self, decide_true, if_true, Bool.not_true, Bool.true_and]
        refine Ev.step (f := fun k => spec_HullOk.l0 k ((0 : Nat) : Int) s r h) (fun k => ?_) ?_
        · simp only [spec_HullOk.j0, Bool.false_eq_true, if_false]
          rfl
        · have := spec_loop h hn (by omega) hr s r h.length 0 (by omega)
          rw [List.drop_zero] at this
          have e : (h.all fun l => decide (2 ≤ (h.headD []).length ∧ (h.headD []).length ≤ 10) && okRow (h.headD []).length l) = (decide (2 ≤ (h.headD []).length ∧ (h.headD []).length ≤ 10) && h.all (okRow (h.headD []).length)) := by
            cases decide (2 ≤ (h.headD []).length ∧ (h.headD []).length ≤ 10)
            · simp only [Bool.false_and]
              cases h with
              | nil => simp at h3
              | cons x t => simp
            · simp
          rw [← e]
          exact this
      · have h3' : ¬ ((2 : Int) ≤ (h.length : Int) ∧ (h.length : Int) ≤ 12) := by omega
        simp only [h1, h2, h3, h3', and_self, decide_true, decide_false, if_true, Bool.not_false, Bool.false_and, Bool.and_false]
        exact no
    · simp only [h1, h2, and_self, decide_true, decide_false, if_true, Bool.false_eq_true, if_false, Bool.and_false, Bool.false_and]
      exact no
  · simp only [h1, decide_false, Bool.false_eq_true, if_false, Bool.false_and]
    exact no
end Go.Proofs.Yteggnboikjjaiaa.Hp
