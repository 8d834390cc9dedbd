/- The plain part: what the program's and the reference's WindowFor compute is the same. -/
import Derived.Test.YtfbokdbaondjdaaQWindowFor1
import Derived.Test.YtfbokdbaondjdaaQWindowFor2
import Derived.Test.YtfbokdbaondjdaaQWindowFor3
namespace Go.Proofs.Ytfbokdbaondjdaa.Pure
open Go.RowKit Go.Proofs.Ytfbokdbaondjdaa.PFnExactWindowFor Go.Proofs.YtfbokdbaondjdaaW.PrintWords

theorem wf_in (a b c : Int) : spec_l1In.f a b c = some (decide (b ≤ a ∧ a ≤ c)) := by
  unfold spec_l1In.f
  by_cases h : b ≤ a
  · rw [if_pos h]; simp [h]
  · rw [if_neg h]; simp [h]
theorem wf_in' (a b c : Int) : impl_in.f a b c = some (decide (b ≤ a ∧ a ≤ c)) := by
  unfold impl_in.f
  by_cases h : b ≤ a
  · rw [if_pos h]; simp [h]
  · rw [if_neg h]; simp [h]
theorem wf_wrap {i n : Nat} (h : i < n) (hn : n ≤ maxLen) : wrap64 ((i : Int) + 1) = ((i + 1 : Nat) : Int) := by
  have : maxLen = 9223372036854775807 := rfl
  unfold wrap64
  omega
theorem wf_wrap' {i n : Nat} (h : i < n) (hn : n ≤ maxLen) (h0 : 0 < i) : wrap64 ((i : Int) - 1) = ((i - 1 : Nat) : Int) := by
  have : maxLen = 9223372036854775807 := rfl
  unfold wrap64
  omega

/-! ### The copy -/
def conv (x : S100) : S98 := ⟨x.f0, x.f1⟩
theorem copy_loop (l : List S100) (hn : l.length ≤ maxLen) (d : Nat) : ∀ (k i : Nat) (xs : List S98), xs.length = l.length → i + d = l.length → d < k → xs.take i = (l.map conv).take i →
    laws_toWindowS.l0 k l xs i = some (l.map conv) := by
  induction d with
  | zero =>
    intro k i xs hl hd hk ht
    obtain ⟨k, rfl⟩ : ∃ m, k = m + 1 := ⟨k - 1, by omega⟩
    simp only [laws_toWindowS.l0]
    rw [if_neg (by omega)]
    congr 1
    rw [List.take_of_length_le (by omega), List.take_of_length_le (by simp; omega)] at ht
    exact ht
  | succ d ih =>
    intro k i xs hl hd hk ht
    obtain ⟨k, rfl⟩ : ∃ m, k = m + 1 := ⟨k - 1, by omega⟩
    simp only [laws_toWindowS.l0]
    rw [if_pos (by omega), if_pos (by omega)]
    simp only [laws_toWindow.f, Option.bind_some]
    rw [if_pos (by omega), wf_wrap (n := l.length) (by omega) hn]
    refine ih k (i + 1) _ (by simpa using hl) (by omega) (by omega) ?_
    rw [Int.toNat_natCast]
    have hi : i < l.length := by omega
    rw [List.take_succ_eq_append_getElem (by simp; omega), List.take_succ_eq_append_getElem (by simp; omega)]
    congr 1
    · rw [List.take_set_of_le (Nat.le_refl i)]; exact ht
    · simp [conv, rd_T100, hi]
theorem copy_all (l : List S100) (hn : l.length ≤ 1048576) (k : Nat) (hk : l.length < k) : laws_toWindowS.f k l = some (l.map conv) := by
  have hm : maxLen = 9223372036854775807 := rfl
  unfold laws_toWindowS.f
  rw [if_pos (by omega), if_pos (by simp; omega)]
  exact copy_loop l (by omega) l.length k 0 _ (by simp) (by omega) hk (by simp)

/-! ### Equal windows -/
theorem eq_loop (xs : List S98) (hn : xs.length ≤ maxLen) (d : Nat) : ∀ (k i : Nat), i + d = xs.length → d < k → laws_eqWindowS.l0 k xs xs i = some true := by
  induction d with
  | zero =>
    intro k i hd hk
    obtain ⟨k, rfl⟩ : ∃ m, k = m + 1 := ⟨k - 1, by omega⟩
    simp only [laws_eqWindowS.l0]
    rw [if_neg (by omega)]
  | succ d ih =>
    intro k i hd hk
    obtain ⟨k, rfl⟩ : ∃ m, k = m + 1 := ⟨k - 1, by omega⟩
    simp only [laws_eqWindowS.l0]
    rw [if_pos (by omega), if_pos (by omega), if_pos (by omega)]
    simp only [laws_eqWindow.f, if_true, Option.bind_some]
    rw [wf_wrap (n := xs.length) (by omega) hn]
    exact ih k (i + 1) (by omega) (by omega)

/-! ### The checks -/
def okAt (xs : List S98) (j : Nat) : Prop :=
  0 ≤ (rd_T98 xs j).f0 ∧ (rd_T98 xs j).f0 ≤ (rd_T98 xs j).f1 ∧ (rd_T98 xs j).f1 < 1500 ∧ (0 < j → ¬ (rd_T98 xs j).f0 < wrap64 ((rd_T98 xs ((j - 1 : Nat) : Int)).f1 + 2))
theorem spec_checks (xs : List S98) (hn : xs.length ≤ maxLen) (d : Nat) : ∀ (k i : Nat), i + d = xs.length → d < k →
    ∃ b, spec_l5Windows.l0 k xs i = some b ∧ (b = true ↔ ∀ j, i ≤ j → j < xs.length → okAt xs j) := by
  induction d with
  | zero =>
    intro k i hd hk
    obtain ⟨k, rfl⟩ : ∃ m, k = m + 1 := ⟨k - 1, by omega⟩
    refine ⟨true, ?_, fun _ j h1 h2 => by omega, fun _ => rfl⟩
    simp only [spec_l5Windows.l0]
    rw [if_neg (by omega)]
  | succ d ih =>
    intro k i hd hk
    obtain ⟨k, rfl⟩ : ∃ m, k = m + 1 := ⟨k - 1, by omega⟩
    obtain ⟨b, hb, hiff⟩ := ih k (i + 1) (by omega) (by omega)
    have next : (b = true ↔ ∀ j, i + 1 ≤ j → j < xs.length → okAt xs j) := hiff
    have bad : ¬ okAt xs i → ¬ ∀ j, i ≤ j → j < xs.length → okAt xs j := fun h h' => h (h' i (Nat.le_refl _) (by omega))
    have good : okAt xs i → ((∀ j, i + 1 ≤ j → j < xs.length → okAt xs j) ↔ ∀ j, i ≤ j → j < xs.length → okAt xs j) := fun h =>
      ⟨fun h' j h1 h2 => by
        rcases Nat.eq_or_lt_of_le h1 with rfl | h3
        · exact h
        · exact h' j h3 h2, fun h' j h1 h2 => h' j (by omega) h2⟩
    simp only [spec_l5Windows.l0]
    rw [if_pos (by omega), if_pos (by omega), wf_in]
    simp only [Option.bind_some, decide_eq_true_eq]
    by_cases h1 : 0 ≤ (rd_T98 xs i).f0 ∧ (rd_T98 xs i).f0 ≤ (rd_T98 xs i).f1
    · rw [if_pos h1]
      by_cases h2 : (rd_T98 xs i).f1 ≥ 1500
      · rw [if_pos h2]
        exact ⟨false, rfl, by simp, fun h => absurd h (bad (fun ho => by have := ho.2.2.1; omega))⟩
      · rw [if_neg h2]
        by_cases h3 : (i : Int) > 0
        · rw [if_pos h3, wf_wrap' (n := xs.length) (by omega) hn (by omega), if_pos (by omega), if_pos (by omega)]
          by_cases h4 : (rd_T98 xs i).f0 < wrap64 ((rd_T98 xs ((i - 1 : Nat) : Int)).f1 + 2)
          · rw [if_pos h4]
            exact ⟨false, rfl, by simp, fun h => absurd h (bad (fun ho => ho.2.2.2 (by omega) h4))⟩
          · rw [if_neg h4, wf_wrap (n := xs.length) (by omega) hn]
            exact ⟨b, hb, next.trans (good ⟨h1.1, h1.2, by omega, fun _ => h4⟩)⟩
        · rw [if_neg h3, wf_wrap (n := xs.length) (by omega) hn]
          exact ⟨b, hb, next.trans (good ⟨h1.1, h1.2, by omega, fun h => by omega⟩)⟩
    · rw [if_neg h1]
      exact ⟨false, rfl, by simp, fun h => absurd h (bad (fun ho => h1 ⟨ho.1, ho.2.1⟩))⟩

theorem impl_checks (xs : List S98) (hn : xs.length ≤ maxLen) (a m : Int) (R : Option (Int × Bool)) (K : Nat) (hR : ∀ k, K ≤ k → impl_WindowFor.l1 k a m xs xs.length 0 = R) (d : Nat) : ∀ (k i : Nat), i + d = xs.length → d + K < k →
    ((∀ j, i ≤ j → j < xs.length → okAt xs j) → impl_WindowFor.l0 k xs a m xs xs.length i = R) ∧ (¬ (∀ j, i ≤ j → j < xs.length → okAt xs j) → impl_WindowFor.l0 k xs a m xs xs.length i = some (-1, false)) := by
  induction d with
  | zero =>
    intro k i hd hk
    obtain ⟨k, rfl⟩ : ∃ m, k = m + 1 := ⟨k - 1, by omega⟩
    refine ⟨fun _ => ?_, fun h => absurd (fun j h1 h2 => by omega) h⟩
    simp only [impl_WindowFor.l0]
    rw [if_neg (by omega)]
    exact hR k (by omega)
  | succ d ih =>
    intro k i hd hk
    obtain ⟨k, rfl⟩ : ∃ m, k = m + 1 := ⟨k - 1, by omega⟩
    obtain ⟨ih1, ih2⟩ := ih k (i + 1) (by omega) (by omega)
    have bad : ¬ okAt xs i → ¬ ∀ j, i ≤ j → j < xs.length → okAt xs j := fun h h' => h (h' i (Nat.le_refl _) (by omega))
    have good : okAt xs i → ((∀ j, i + 1 ≤ j → j < xs.length → okAt xs j) ↔ ∀ j, i ≤ j → j < xs.length → okAt xs j) := fun h =>
      ⟨fun h' j h1 h2 => by
        rcases Nat.eq_or_lt_of_le h1 with rfl | h3
        · exact h
        · exact h' j h3 h2, fun h' j h1 h2 => h' j (by omega) h2⟩
    have fin : ∀ X : Option (Int × Bool), ¬ okAt xs i → X = some (-1, false) → ((∀ j, i ≤ j → j < xs.length → okAt xs j) → X = R) ∧ (¬ (∀ j, i ≤ j → j < xs.length → okAt xs j) → X = some (-1, false)) :=
      fun X h hX => ⟨fun h' => absurd h' (bad h), fun _ => hX⟩
    have fin2 : okAt xs i → ((∀ j, i ≤ j → j < xs.length → okAt xs j) → impl_WindowFor.l0 k xs a m xs xs.length ((i + 1 : Nat) : Int) = R) ∧ (¬ (∀ j, i ≤ j → j < xs.length → okAt xs j) → impl_WindowFor.l0 k xs a m xs xs.length ((i + 1 : Nat) : Int) = some (-1, false)) :=
      fun h => ⟨fun h' => ih1 ((good h).2 h'), fun h' => ih2 (fun h'' => h' ((good h).1 h''))⟩
    simp only [impl_WindowFor.l0]
    rw [if_pos (by omega), if_pos (by omega), if_pos (by omega)]
    by_cases h1 : (rd_T98 xs i).f0 > (rd_T98 xs i).f1
    · rw [if_pos h1]; exact fin _ (fun ho => by have := ho.2.1; omega) rfl
    · rw [if_neg h1]
      by_cases h2 : (rd_T98 xs i).f0 < 0
      · rw [if_pos h2]; exact fin _ (fun ho => by have := ho.1; omega) rfl
      · rw [if_neg h2]
        by_cases h3 : (rd_T98 xs i).f1 > 1499
        · rw [if_pos h3]; exact fin _ (fun ho => by have := ho.2.2.1; omega) rfl
        · rw [if_neg h3]
          by_cases h4 : (i : Int) > 0
          · rw [if_pos h4, wf_wrap' (n := xs.length) (by omega) hn (by omega), if_pos (by omega), if_pos (by omega)]
            by_cases h5 : (rd_T98 xs i).f0 < wrap64 ((rd_T98 xs ((i - 1 : Nat) : Int)).f1 + 2)
            · rw [if_pos h5]; exact fin _ (fun ho => ho.2.2.2 (by omega) h5) rfl
            · rw [if_neg h5, wf_wrap (n := xs.length) (by omega) hn]
              exact fin2 ⟨by omega, by omega, by omega, fun _ => h5⟩
          · rw [if_neg h4, wf_wrap (n := xs.length) (by omega) hn]
            exact fin2 ⟨by omega, by omega, by omega, fun h => by omega⟩

/-! ### The search -/
theorem same_search (xs : List S98) (a m : Int) : ∀ (k : Nat) (i : Int), impl_WindowFor.l1 k a m xs xs.length i = spec_WindowFor.l0 k xs a m i := by
  intro k
  induction k with
  | zero => intro i; rfl
  | succ k ih =>
    intro i
    simp only [impl_WindowFor.l1, spec_WindowFor.l0]
    by_cases h1 : i < (xs.length : Int)
    · rw [if_pos h1, if_pos h1]
      by_cases h2 : 0 ≤ i
      · rw [if_pos h2, if_pos h2, if_pos h1]
        by_cases h3 : (rd_T98 xs i).f0 < a
        · have e : mx a (rd_T98 xs i).f0 = a := by unfold mx; omega
          rw [if_pos h3, e, ih]
        · have e : mx a (rd_T98 xs i).f0 = (rd_T98 xs i).f0 := by unfold mx; omega
          rw [if_neg h3, e, ih]
      · simp [h1, h2]
    · rw [if_neg h1, if_neg h1]
theorem search_ends (xs : List S98) (hn : xs.length ≤ maxLen) (a m : Int) (d : Nat) : ∀ (i : Nat), i + d = xs.length → ∃ r, ∀ k, d < k → spec_WindowFor.l0 k xs a m i = some r := by
  induction d with
  | zero =>
    intro i hd
    refine ⟨(-1, false), fun k hk => ?_⟩
    obtain ⟨k, rfl⟩ : ∃ m, k = m + 1 := ⟨k - 1, by omega⟩
    simp only [spec_WindowFor.l0]
    rw [if_neg (by omega)]
  | succ d ih =>
    intro i hd
    obtain ⟨r, hr⟩ := ih (i + 1) (by omega)
    by_cases h3 : (rd_T98 xs i).f0 < a
    · by_cases h4 : wrap64 (wrap64 (a + m) - 1) ≤ (rd_T98 xs i).f1
      · refine ⟨(a, true), fun k hk => ?_⟩
        obtain ⟨k, rfl⟩ : ∃ m, k = m + 1 := ⟨k - 1, by omega⟩
        simp only [spec_WindowFor.l0]
        rw [if_pos (by omega), if_pos (by omega), if_pos h3, if_pos h4]
      · refine ⟨r, fun k hk => ?_⟩
        obtain ⟨k, rfl⟩ : ∃ m, k = m + 1 := ⟨k - 1, by omega⟩
        simp only [spec_WindowFor.l0]
        rw [if_pos (by omega), if_pos (by omega), if_pos h3, if_neg h4, wf_wrap (n := xs.length) (by omega) hn]
        exact hr k (by omega)
    · by_cases h4 : wrap64 (wrap64 ((rd_T98 xs i).f0 + m) - 1) ≤ (rd_T98 xs i).f1
      · refine ⟨((rd_T98 xs i).f0, true), fun k hk => ?_⟩
        obtain ⟨k, rfl⟩ : ∃ m, k = m + 1 := ⟨k - 1, by omega⟩
        simp only [spec_WindowFor.l0]
        rw [if_pos (by omega), if_pos (by omega), if_neg h3, if_pos h4]
      · refine ⟨r, fun k hk => ?_⟩
        obtain ⟨k, rfl⟩ : ∃ m, k = m + 1 := ⟨k - 1, by omega⟩
        simp only [spec_WindowFor.l0]
        rw [if_pos (by omega), if_pos (by omega), if_neg h3, if_neg h4, wf_wrap (n := xs.length) (by omega) hn]
        exact hr k (by omega)

theorem both (xs : List S98) (hn : xs.length ≤ maxLen) (a m : Int) : ∃ r, ∀ k, xs.length * 2 + 8 < k → spec_WindowFor.f k xs a m = some r ∧ impl_WindowFor.f k xs a m = some r := by
  obtain ⟨r, hr⟩ := search_ends xs hn a m xs.length 0 (by omega)
  have hI := impl_checks xs hn a m (some r) (xs.length + 1) (fun k hk => by rw [same_search]; exact hr k (by omega)) xs.length
  by_cases hok : ∀ j, 0 ≤ j → j < xs.length → okAt xs j
  · by_cases ha : 0 ≤ a ∧ a ≤ 1500
    · by_cases hm : 1 ≤ m ∧ m ≤ 1500
      · refine ⟨r, fun k hk => ?_⟩
        obtain ⟨k, rfl⟩ : ∃ m, k = m + 1 := ⟨k - 1, by omega⟩
        obtain ⟨b, hb, hiff⟩ := spec_checks xs hn xs.length (k + 1) 0 (by omega) (by omega)
        obtain rfl : b = true := hiff.2 hok
        have h1 := (hI k 0 (by omega) (by omega)).1 hok
        have h2 := hr k (by omega)
        unfold spec_WindowFor.f impl_WindowFor.f spec_l5Windows.f
        have hb' : spec_l5Windows.l0 (k + 1) xs 0 = some true := hb
        rw [hb', wf_in, wf_in, wf_in', wf_in']
        simp only [Option.bind_some, ha, hm, and_self, decide_true, if_true, spec_WindowFor.j0, impl_WindowFor.j0, Bool.not_true, Bool.false_eq_true, if_false]
        exact ⟨h2, h1⟩
      · refine ⟨(-1, false), fun k hk => ?_⟩
        obtain ⟨k, rfl⟩ : ∃ m, k = m + 1 := ⟨k - 1, by omega⟩
        obtain ⟨b, hb, hiff⟩ := spec_checks xs hn xs.length (k + 1) 0 (by omega) (by omega)
        have hb' : spec_l5Windows.l0 (k + 1) xs 0 = some b := hb
        unfold spec_WindowFor.f impl_WindowFor.f spec_l5Windows.f
        rw [hb', wf_in, wf_in, wf_in', wf_in']
        cases b <;> simp [ha, hm, spec_WindowFor.j0, impl_WindowFor.j0]
    · refine ⟨(-1, false), fun k hk => ?_⟩
      obtain ⟨k, rfl⟩ : ∃ m, k = m + 1 := ⟨k - 1, by omega⟩
      obtain ⟨b, hb, hiff⟩ := spec_checks xs hn xs.length (k + 1) 0 (by omega) (by omega)
      have hb' : spec_l5Windows.l0 (k + 1) xs 0 = some b := hb
      unfold spec_WindowFor.f impl_WindowFor.f spec_l5Windows.f
      rw [hb', wf_in, wf_in, wf_in', wf_in']
      cases b <;> simp [ha, spec_WindowFor.j0, impl_WindowFor.j0]
  · refine ⟨(-1, false), fun k hk => ?_⟩
    obtain ⟨k, rfl⟩ : ∃ m, k = m + 1 := ⟨k - 1, by omega⟩
    obtain ⟨b, hb, hiff⟩ := spec_checks xs hn xs.length (k + 1) 0 (by omega) (by omega)
    obtain rfl : b = false := by
      cases b with
      | false => rfl
      | true => exact absurd (hiff.1 rfl) hok
    have h1 := (hI k 0 (by omega) (by omega)).2 hok
    have hb' : spec_l5Windows.l0 (k + 1) xs 0 = some false := hb
    unfold spec_WindowFor.f impl_WindowFor.f spec_l5Windows.f
    rw [hb', wf_in', wf_in']
    simp only [Option.bind_some, Bool.false_eq_true, if_false, spec_WindowFor.j0, if_true, true_and]
    by_cases ha : 0 ≤ a ∧ a ≤ 1500
    · by_cases hm : 1 ≤ m ∧ m ≤ 1500
      · simp only [ha, hm, and_self, decide_true, if_true, Bool.not_true, impl_WindowFor.j0, Bool.false_eq_true, if_false]
        exact h1
      · simp [ha, hm, impl_WindowFor.j0]
    · simp [ha, impl_WindowFor.j0]

theorem FnExactWindowFor : ∀ (l0 : List (S100)) (a1 : Int) (a2 : Int), l0.length ≤ maxLen → ∃ k, laws_FnExactWindowFor.f k l0 a1 a2 = some true := by
  intro l a m hn
  have hmx : maxLen = 9223372036854775807 := rfl
  by_cases hbig : (1048576 : Int) < l.length
  · refine ⟨1, ?_⟩
    unfold laws_FnExactWindowFor.f laws_szWindowS.f
    have e : wrap64 (1048576 - (l.length : Int)) = 1048576 - (l.length : Int) := by unfold wrap64; omega
    rw [e, if_pos (by omega)]
    simp
  · have hl : l.length ≤ 1048576 := by omega
    obtain ⟨r, hr⟩ := both (l.map conv) (by simpa using hn) a m
    refine ⟨l.length * 2 + 10, ?_⟩
    obtain ⟨h1, h2⟩ := hr (l.length * 2 + 10) (by simp)
    have e : wrap64 (1048576 - (l.length : Int)) = 1048576 - (l.length : Int) := by unfold wrap64; omega
    unfold laws_FnExactWindowFor.f laws_szWindowS.f
    rw [e, if_neg (by omega), copy_all l hl _ (by omega)]
    simp only [Option.bind_some]
    rw [if_neg (by omega), h1, h2]
    simp only [Option.bind_some, if_true, bne_self_eq_false]
    have hk : l.length * 2 + 10 = (l.length * 2 + 9) + 1 := rfl
    rw [hk]
    simp only [laws_FnExactWindowFor.j0, Bool.false_eq_true, if_false]
    rw [copy_all l hl _ (by omega)]
    simp only [Option.bind_some]
    have h3 := eq_loop (l.map conv) (by simpa using hn) (l.map conv).length (l.length * 2 + 9) 0 (by omega) (by simp; omega)
    have h4 : laws_eqWindowS.l0 (l.length * 2 + 9) (l.map conv) (l.map conv) 0 = some true := h3
    unfold laws_eqWindowS.f
    rw [if_pos rfl, h4]
    rfl
end Go.Proofs.Ytfbokdbaondjdaa.Pure
