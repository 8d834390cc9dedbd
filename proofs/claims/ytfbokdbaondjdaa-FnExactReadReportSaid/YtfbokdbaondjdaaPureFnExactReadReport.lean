/- The plain part: what the program's and the reference's ReadReport compute is the same. -/
import Derived.Test.YtfbokdbaondjdaaQReadReport5
import Derived.Test.YtfbokdbaondjdaaQReadReport1
import Derived.Test.YtfbokdbaondjdaaQReadReport2
import Derived.Test.YtfbokdbaondjdaaQReadReport3
import Derived.Test.YtfbokdbaondjdaaQReadReport4
namespace Go.Proofs.Ytfbokdbaondjdaa.Pure
set_option linter.unusedVariables false
open Go.RowKit Go.Proofs.Ytfbokdbaondjdaa.PFnExactReadReport Go.Proofs.YtfbokdbaondjdaaW.PrintWords

theorem rr_in (a b c : Int) : spec_l1In.f a b c = some (decide (b ≤ a ∧ a ≤ c)) := by
  unfold spec_l1In.f
  by_cases h : b ≤ a
  · rw [if_pos h]; simp [h]
  · rw [if_neg h]; simp [h]
theorem rr_in' (a b c : Int) : impl_in.f a b c = some (decide (b ≤ a ∧ a ≤ c)) := by
  unfold impl_in.f
  by_cases h : b ≤ a
  · rw [if_pos h]; simp [h]
  · rw [if_neg h]; simp [h]
theorem rr_ok (a b c d e f : Int) : ∃ r, spec_ReportOk.f a b c d e f = some r ∧ impl_ReportOk.f a b c d e f = some r := by
  unfold spec_ReportOk.f impl_ReportOk.f impl_idOk.f impl_slotOk.f
  simp only [rr_in, rr_in', Option.bind_some]
  repeat' split
  all_goals exact ⟨_, rfl, rfl⟩

/-! ### The copy; equality -/
theorem rr_wrap {i n : Nat} (h : i < n) (hn : n ≤ maxLen) : wrap64 ((i : Int) + 1) = ((i + 1 : Nat) : Int) := by
  have : maxLen = 9223372036854775807 := rfl
  unfold wrap64
  omega
theorem rr_copy_loop (l : List Int) (hn : l.length ≤ maxLen) (d : Nat) : ∀ (k i : Nat) (xs : List Int), xs.length = l.length → i + d = l.length → d < k → xs.take i = l.take i → laws_toByteS.l0 k l xs i = some l := by
  induction d with
  | zero =>
    intro k i xs hl hd hk ht
    obtain ⟨k, rfl⟩ : ∃ m, k = m + 1 := ⟨k - 1, by omega⟩
    simp only [laws_toByteS.l0]
    rw [if_neg (by omega)]
    congr 1
    rw [List.take_of_length_le (by omega), List.take_of_length_le (by omega)] at ht
    exact ht
  | succ d ih =>
    intro k i xs hl hd hk ht
    obtain ⟨k, rfl⟩ : ∃ m, k = m + 1 := ⟨k - 1, by omega⟩
    simp only [laws_toByteS.l0]
    rw [if_pos (by omega), if_pos (by omega), if_pos (by omega), rr_wrap (n := l.length) (by omega) hn]
    refine ih k (i + 1) _ (by simpa using hl) (by omega) (by omega) ?_
    rw [Int.toNat_natCast]
    have hi : i < l.length := by omega
    rw [List.take_succ_eq_append_getElem (by simp; omega), List.take_succ_eq_append_getElem hi]
    congr 1
    · rw [List.take_set_of_le (Nat.le_refl i)]; exact ht
    · simp [rd, hi]
theorem rr_copy (l : List Int) (hn : l.length ≤ 1048576) (k : Nat) (hk : l.length < k) : laws_toByteS.f k l = some l := by
  have hm : maxLen = 9223372036854775807 := rfl
  unfold laws_toByteS.f
  rw [if_pos (by omega), if_pos (by simp; omega)]
  exact rr_copy_loop l (by omega) l.length k 0 _ (by simp) (by omega) hk (by simp)
theorem rr_eq_loop (xs : List Int) (hn : xs.length ≤ maxLen) (d : Nat) : ∀ (k i : Nat), i + d = xs.length → d < k → laws_eqByteS.l0 k xs xs i = some true := by
  induction d with
  | zero =>
    intro k i hd hk
    obtain ⟨k, rfl⟩ : ∃ m, k = m + 1 := ⟨k - 1, by omega⟩
    simp only [laws_eqByteS.l0]
    rw [if_neg (by omega)]
  | succ d ih =>
    intro k i hd hk
    obtain ⟨k, rfl⟩ : ∃ m, k = m + 1 := ⟨k - 1, by omega⟩
    simp only [laws_eqByteS.l0]
    rw [if_pos (by omega), if_pos (by omega), if_pos (by omega), if_pos trivial, rr_wrap (n := xs.length) (by omega) hn]
    exact ih k (i + 1) (by omega) (by omega)

/-! ### The check -/
theorem rd_take (l : List Int) (i : Int) (h0 : 0 ≤ i) (h : i < 14) : rd (l.take 14) i = rd l i := by
  unfold rd
  rw [List.getD_eq_getElem?_getD, List.getElem?_take_of_lt (by omega), ← List.getD_eq_getElem?_getD]
theorem rr_check (l : List Int) (hl : l.length = 16) : ∀ (k : Nat), (∀ (n i : Int), impl_frameCheck.l0 k n (l.take 14) 14 i = spec_l9Check.l0 k l n i) ∧ (∀ (n i c : Int), impl_frameCheck.l1 k n (l.take 14) 14 i c = spec_l9Check.l1 k l n i c) := by
  intro k
  induction k with
  | zero => exact ⟨fun _ _ => rfl, fun _ _ _ => rfl⟩
  | succ k ih =>
    obtain ⟨ih0, ih1⟩ := ih
    refine ⟨fun n i => ?_, fun n i c => ?_⟩
    · simp only [impl_frameCheck.l0, spec_l9Check.l0]
      by_cases h1 : i < 14
      · by_cases h2 : 0 ≤ i
        · have h3 : i < ((l.take 14).length : Int) := by simp [hl]; omega
          have h4 : i < (l.length : Int) := by omega
          rw [if_pos h1, if_pos h2, if_pos h3, if_pos h1, if_pos h2, if_pos h4, ih1, rd_take l i h2 h1]
        · simp [h1, h2]
      · simp [h1]
    · simp only [impl_frameCheck.l1, spec_l9Check.l1]
      rw [Int.mul_comm n 2, ih1, ih1, ih0]
theorem rr_l1_ends (l : List Int) (i : Int) (D : Nat) (h0 : ∀ n, ∃ r, ∀ k, D < k → spec_l9Check.l0 k l n (wrap64 (i + 1)) = some r) (e : Nat) : ∀ (c : Nat) (n : Int), c + e = 8 → ∃ r, ∀ k, D + e + 1 < k → spec_l9Check.l1 k l n i c = some r := by
  induction e with
  | zero =>
    intro c n hc
    obtain ⟨r, hr⟩ := h0 n
    refine ⟨r, fun k hk => ?_⟩
    obtain ⟨k, rfl⟩ : ∃ m, k = m + 1 := ⟨k - 1, by omega⟩
    simp only [spec_l9Check.l1]
    rw [if_neg (by omega)]
    exact hr k (by omega)
  | succ e ih =>
    intro c n hc
    have e1 : wrap64 ((c : Int) + 1) = ((c + 1 : Nat) : Int) := by unfold wrap64; omega
    by_cases h : wrap64 (2 * n) > 65535
    · obtain ⟨r, hr⟩ := ih (c + 1) (Go.bits .xor .i64 (Go.bits .and .i64 (wrap64 (2 * n)) 65535) 4129) (by omega)
      refine ⟨r, fun k hk => ?_⟩
      obtain ⟨k, rfl⟩ : ∃ m, k = m + 1 := ⟨k - 1, by omega⟩
      simp only [spec_l9Check.l1]
      rw [if_pos (by omega), if_pos h, e1]
      exact hr k (by omega)
    · obtain ⟨r, hr⟩ := ih (c + 1) (wrap64 (2 * n)) (by omega)
      refine ⟨r, fun k hk => ?_⟩
      obtain ⟨k, rfl⟩ : ∃ m, k = m + 1 := ⟨k - 1, by omega⟩
      simp only [spec_l9Check.l1]
      rw [if_pos (by omega), if_neg h, e1]
      exact hr k (by omega)
theorem rr_l0_ends (l : List Int) (hl : l.length = 16) (d : Nat) : ∀ (i : Nat) (n : Int), i + d = 14 → ∃ r, ∀ k, d * 12 < k → spec_l9Check.l0 k l n i = some r := by
  induction d with
  | zero =>
    intro i n hi
    refine ⟨n, fun k hk => ?_⟩
    obtain ⟨k, rfl⟩ : ∃ m, k = m + 1 := ⟨k - 1, by omega⟩
    simp only [spec_l9Check.l0]
    rw [if_neg (by omega)]
  | succ d ih =>
    intro i n hi
    have e1 : wrap64 ((i : Int) + 1) = ((i + 1 : Nat) : Int) := by unfold wrap64; omega
    obtain ⟨r, hr⟩ := rr_l1_ends l i (d * 12) (fun n => by rw [e1]; exact ih (i + 1) n (by omega)) 8 0 (Go.bits .xor .i64 n (wrap64 ((wrap64 (rd l i)) * 256))) (by omega)
    refine ⟨r, fun k hk => ?_⟩
    obtain ⟨k, rfl⟩ : ∃ m, k = m + 1 := ⟨k - 1, by omega⟩
    simp only [spec_l9Check.l0]
    rw [if_pos (by omega), if_pos (by omega), if_pos (by omega)]
    exact hr k (by omega)

/-! ### Bytes put together -/
theorem or_add (x y : Int) (i : Nat) (hx : 0 ≤ x) (hx1 : x < 1099511627776) (hd : x % 2 ^ i = 0) (hy : 0 ≤ y) (hy1 : y < 2 ^ i) (hy2 : y < 1099511627776) : Go.bits .or .i64 x y = x + y := by
  refine bits_join .i64 40 (by decide) ?_ i x y hx hd (by simpa using hx1) hy hy1 (by simpa using hy2)
  intro n h0 h1
  have h1 : n < 1099511627776 := by simpa using h1
  rw [IntKind.wrap_i64]
  omega
theorem rr_byte (l : List Int) (hb : ∀ x ∈ l, (Lit.int .u8 x).wf = true) (i : Int) : 0 ≤ rd l i ∧ rd l i < 256 := by
  unfold rd
  rw [List.getD_eq_getElem?_getD]
  by_cases h : i.toNat < l.length
  · rw [List.getElem?_eq_getElem h]
    have := hb _ (List.getElem_mem h)
    simp [Lit.wf, IntKind.min, IntKind.max, IntKind.signed, IntKind.bits] at this
    simp only [Option.getD_some]
    omega
  · rw [List.getElem?_eq_none (by omega)]
    simp
theorem rr_w (x m : Int) (h0 : 0 ≤ x) (h1 : x < 256) (hm : m ≤ 16777216) (hm0 : 0 ≤ m) : wrap64 (x * m) = x * m := by
  have : 0 ≤ x * m := Int.mul_nonneg h0 hm0
  have : x * m ≤ 256 * 16777216 := Int.mul_le_mul (by omega) hm hm0 (by omega)
  unfold wrap64
  omega
theorem rr_w1 (x : Int) (h0 : 0 ≤ x) (h1 : x < 1099511627776) : wrap64 x = x := by
  unfold wrap64
  omega
theorem rd_drop (l : List Int) (n : Nat) (i : Int) (h0 : 0 ≤ i) : rd (l.drop n) i = rd l (n + i) := by
  unfold rd
  rw [List.getD_eq_getElem?_getD, List.getElem?_drop, ← List.getD_eq_getElem?_getD]
  congr 1
  omega
theorem rr_three (l : List Int) (hl : l.length = 16) (hb : ∀ x ∈ l, (Lit.int .u8 x).wf = true) (j : Nat) (hj : j ≤ 8) : ∃ r, spec_l9Three.f l j = some r ∧ impl_number24.f (l.drop j) = some r := by
  unfold spec_l9Three.f impl_number24.f
  have e1 : wrap64 ((j : Int) + 1) = (j : Int) + 1 := by unfold wrap64; omega
  have e2 : wrap64 ((j : Int) + 2) = (j : Int) + 2 := by unfold wrap64; omega
  have ld : ((l.drop j).length : Int) = 16 - j := by rw [List.length_drop, hl]; omega
  rw [e1, e2, ld, hl, rd_drop l j 0 (by omega), rd_drop l j 1 (by omega), rd_drop l j 2 (by omega), Int.add_zero]
  obtain ⟨a0, a1⟩ := rr_byte l hb j
  obtain ⟨b0, b1⟩ := rr_byte l hb (j + 1)
  obtain ⟨c0, c1⟩ := rr_byte l hb (j + 2)
  generalize rd l j = a at *
  generalize rd l (j + 1) = b at *
  generalize rd l (j + 2) = c at *
  rw [rr_w1 a a0 (by omega), rr_w1 b b0 (by omega), rr_w1 c c0 (by omega), rr_w a _ a0 a1 (by omega) (by omega), rr_w b _ b0 b1 (by omega) (by omega)]
  rw [or_add (a * 65536) (b * 256) 16 (by omega) (by omega) (by omega) (by omega) (by omega) (by omega)]
  rw [or_add (a * 65536 + b * 256) c 8 (by omega) (by omega) (by omega) (by omega) (by omega) (by omega)]
  rw [rr_w1 (a * 65536 + b * 256) (by omega) (by omega), rr_w1 (a * 65536 + b * 256 + c) (by omega) (by omega)]
  have p1 : (0 : Int) ≤ j := by omega
  have p2 : (j : Int) < (16 : Nat) := by omega
  have p3 : (0 : Int) ≤ j + 1 := by omega
  have p4 : (j : Int) + 1 < (16 : Nat) := by omega
  have p5 : (0 : Int) ≤ j + 2 := by omega
  have p6 : (j : Int) + 2 < (16 : Nat) := by omega
  have p7 : (0 : Int) < 16 - j := by omega
  have p8 : (1 : Int) < 16 - j := by omega
  have p9 : (2 : Int) < 16 - j := by omega
  simp only [p1, p2, p3, p4, p5, p6, p7, p8, p9, if_true]
  by_cases hz : a * 65536 + b * 256 + c > 8388607
  · exact ⟨_, by rw [if_pos hz], by rw [if_pos hz]⟩
  · exact ⟨_, by rw [if_neg hz], by rw [if_neg hz]⟩

theorem rr_check_both (l : List Int) (hl : l.length = 16) : ∃ r, ∀ k, 168 < k → spec_l9Check.f k l = some r ∧ impl_frameCheck.f k (l.take 14) = some r := by
  obtain ⟨r, hr⟩ := rr_l0_ends l hl 14 0 65535 (by omega)
  refine ⟨r, fun k hk => ?_⟩
  have h := hr k (by omega)
  have h' : spec_l9Check.f k l = some r := h
  refine ⟨h', ?_⟩
  unfold impl_frameCheck.f
  have e : ((l.take 14).length : Int) = 14 := by rw [List.length_take, hl]; rfl
  rw [e, ((rr_check l hl k).1 65535 0)]
  exact h

theorem rr_same (l : List Int) (hl : l.length ≤ 1048576) (hb : ∀ x ∈ l, (Lit.int .u8 x).wf = true) : ∃ r, ∀ k, 168 < k → spec_ReadReport.f k l = some r ∧ impl_ReadReport.f k l = some r := by
  by_cases h16 : l.length = 16
  · obtain ⟨c, hc⟩ := rr_check_both l h16
    obtain ⟨t5, s5, i5⟩ := rr_three l h16 hb 5 (by omega)
    obtain ⟨t8, s8, i8⟩ := rr_three l h16 hb 8 (by omega)
    have hn : (l.length : Int) = 16 := by omega
    have B := rr_byte l hb
    have ec : Go.bits .or .i64 (wrap64 ((wrap64 (rd l 14)) * 256)) (wrap64 (rd l 15)) = wrap64 ((wrap64 ((wrap64 (rd l 14)) * 256)) + (wrap64 (rd l 15))) := by
      obtain ⟨a0, a1⟩ := B 14
      obtain ⟨b0, b1⟩ := B 15
      rw [rr_w1 _ a0 (by omega), rr_w1 _ b0 (by omega), rr_w _ _ a0 a1 (by omega) (by omega), rr_w1 (_ + _) (by omega) (by omega)]
      exact or_add _ _ 8 (by omega) (by omega) (by omega) (by omega) (by omega) (by omega)
    have ei : Go.bits .or .i64 (Go.bits .or .i64 (Go.bits .or .i64 (wrap64 ((wrap64 (rd l 1)) * 16777216)) (wrap64 ((wrap64 (rd l 2)) * 65536))) (wrap64 ((wrap64 (rd l 3)) * 256))) (wrap64 (rd l 4)) = wrap64 ((wrap64 ((wrap64 ((wrap64 ((wrap64 (rd l 1)) * 16777216)) + (wrap64 ((wrap64 (rd l 2)) * 65536)))) + (wrap64 ((wrap64 (rd l 3)) * 256)))) + (wrap64 (rd l 4))) := by
      obtain ⟨a0, a1⟩ := B 1
      obtain ⟨b0, b1⟩ := B 2
      obtain ⟨c0, c1⟩ := B 3
      obtain ⟨d0, d1⟩ := B 4
      generalize rd l 1 = a at *
      generalize rd l 2 = b at *
      generalize rd l 3 = c at *
      generalize rd l 4 = d at *
      rw [rr_w1 a a0 (by omega), rr_w1 b b0 (by omega), rr_w1 c c0 (by omega), rr_w1 d d0 (by omega), rr_w a _ a0 a1 (by omega) (by omega), rr_w b _ b0 b1 (by omega) (by omega), rr_w c _ c0 c1 (by omega) (by omega)]
      rw [or_add (a * 16777216) (b * 65536) 24 (by omega) (by omega) (by omega) (by omega) (by omega) (by omega)]
      rw [or_add (a * 16777216 + b * 65536) (c * 256) 16 (by omega) (by omega) (by omega) (by omega) (by omega) (by omega)]
      rw [or_add (a * 16777216 + b * 65536 + c * 256) d 8 (by omega) (by omega) (by omega) (by omega) (by omega) (by omega)]
      rw [rr_w1 (a * 16777216 + b * 65536) (by omega) (by omega), rr_w1 (a * 16777216 + b * 65536 + c * 256) (by omega) (by omega), rr_w1 (a * 16777216 + b * 65536 + c * 256 + d) (by omega) (by omega)]
    obtain ⟨ok, so, io⟩ := rr_ok (wrap64 (rd l 0)) (wrap64 ((wrap64 ((wrap64 ((wrap64 ((wrap64 (rd l 1)) * 16777216)) + (wrap64 ((wrap64 (rd l 2)) * 65536)))) + (wrap64 ((wrap64 (rd l 3)) * 256)))) + (wrap64 (rd l 4)))) t5 t8 (wrap64 (rd l 11)) (wrap64 (rd l 12))
    have e : ∃ r, ∀ k, 168 < k → impl_ReadReport.f k l = some r ∧ spec_ReadReport.f k l = impl_ReadReport.f k l := by
      refine ⟨if c = wrap64 ((wrap64 ((wrap64 (rd l 14)) * 256)) + (wrap64 (rd l 15))) then (if rd l 13 = 0 then (if ok = true then (wrap64 (rd l 0), wrap64 ((wrap64 ((wrap64 ((wrap64 ((wrap64 (rd l 1)) * 16777216)) + (wrap64 ((wrap64 (rd l 2)) * 65536)))) + (wrap64 ((wrap64 (rd l 3)) * 256)))) + (wrap64 (rd l 4))), t5, t8, wrap64 (rd l 11), wrap64 (rd l 12), 0) else (0, 0, 0, 0, 0, 0, 3)) else (0, 0, 0, 0, 0, 0, 3)) else (0, 0, 0, 0, 0, 0, 2), fun k hk => ?_⟩
      obtain ⟨c1, c2⟩ := hc k hk
      have s5' : spec_l9Three.f l 5 = some t5 := s5
      have s8' : spec_l9Three.f l 8 = some t8 := s8
      unfold spec_ReadReport.f impl_ReadReport.f
      rw [ei, ec, c1, c2, s5', s8', i5, i8, hn]
      simp only [Option.bind_some]
      rw [so, io]
      simp only [Option.bind_some]
      generalize wrap64 ((wrap64 ((wrap64 (rd l 14)) * 256)) + (wrap64 (rd l 15))) = q
      by_cases hq : c = q
      · by_cases h13 : rd l 13 = 0
        · cases ok <;> simp [hq, h13]
        · simp [hq, h13]
      · simp [hq]
    obtain ⟨r, hr⟩ := e
    exact ⟨r, fun k hk => ⟨(hr k hk).2.trans (hr k hk).1, (hr k hk).1⟩⟩
  · refine ⟨(0, 0, 0, 0, 0, 0, 1), fun k _ => ?_⟩
    unfold spec_ReadReport.f impl_ReadReport.f
    rw [if_neg (by omega), if_neg (by omega)]
    exact ⟨rfl, rfl⟩

theorem rr_eqself (l : List Int) (hl : l.length ≤ 1048576) (k : Nat) (hk : l.length < k) : laws_eqByteS.f k l l = some true := by
  have hm : maxLen = 9223372036854775807 := rfl
  unfold laws_eqByteS.f
  rw [if_pos rfl]
  exact rr_eq_loop l (by omega) l.length k 0 (by omega) hk

theorem FnExactReadReport : laws_FnExactReadReport.Pure := by
  intro l hm _ hb
  by_cases hl : (l.length : Int) > 1048576
  · exact ⟨0, by unfold laws_FnExactReadReport.f; rw [if_pos hl]⟩
  · obtain ⟨r, hr⟩ := rr_same l (by omega) hb
    refine ⟨l.length + 200, ?_⟩
    obtain ⟨h1, h2⟩ := hr (l.length + 200) (by omega)
    unfold laws_FnExactReadReport.f
    rw [if_neg hl, rr_copy l (by omega) _ (by omega)]
    simp only [Option.bind_some]
    rw [h1]
    simp only [Option.bind_some]
    rw [h2]
    simp only [Option.bind_some]
    have he : laws_eqReport.f r.1 r.2.1 r.2.2.1 r.2.2.2.1 r.2.2.2.2.1 r.2.2.2.2.2.1 r.1 r.2.1 r.2.2.1 r.2.2.2.1 r.2.2.2.2.1 r.2.2.2.2.2.1 = some true := by
      unfold laws_eqReport.f
      simp
    rw [he]
    simp only [Option.bind_some, if_true, bne_self_eq_false]
    show laws_FnExactReadReport.j0 ((l.length + 199) + 1) l l false = some true
    simp only [laws_FnExactReadReport.j0]
    rw [if_neg (by decide), rr_copy l (by omega) _ (by omega)]
    simp only [Option.bind_some]
    rw [rr_eqself l (by omega) _ (by omega)]
    simp
end Go.Proofs.Ytfbokdbaondjdaa.Pure
