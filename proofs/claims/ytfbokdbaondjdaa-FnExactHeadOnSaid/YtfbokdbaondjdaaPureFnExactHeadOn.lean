/- The plain part: what the program's and the reference's HeadOn compute is the same. -/
import Derived.Test.YtfbokdbaondjdaaQHeadOn6
import Derived.Test.YtfbokdbaondjdaaQHeadOn5
import Derived.Test.YtfbokdbaondjdaaQHeadOn1
import Derived.Test.YtfbokdbaondjdaaQHeadOn2
import Derived.Test.YtfbokdbaondjdaaQHeadOn3
import Derived.Test.YtfbokdbaondjdaaQHeadOn4
namespace Go.Proofs.Ytfbokdbaondjdaa.Pure
open Go.RowKit Go.Proofs.Ytfbokdbaondjdaa.PFnExactHeadOn Go.Proofs.YtfbokdbaondjdaaW.PrintWords
set_option linter.unusedVariables false

theorem beh_in (a b c : Int) : spec_l1In.f a b c = some (decide (b ≤ a ∧ a ≤ c)) := by
  unfold spec_l1In.f
  by_cases h : b ≤ a
  · rw [if_pos h]; simp [h]
  · rw [if_neg h]; simp [h]
theorem beh_in' (a b c : Int) : impl_in.f a b c = some (decide (b ≤ a ∧ a ≤ c)) := by
  unfold impl_in.f
  by_cases h : b ≤ a
  · rw [if_pos h]; simp [h]
  · rw [if_neg h]; simp [h]
theorem beh_ship (a b c d e f : Int) : ∃ r, spec_ShipOk.f a b c d e f = some r ∧ impl_ShipOk.f a b c d e f = some r ∧ (r = true → (-100000 ≤ a ∧ a ≤ 100000) ∧ (-100000 ≤ b ∧ b ≤ 100000) ∧ (-1000 ≤ c ∧ c ≤ 1000) ∧ (-1000 ≤ d ∧ d ≤ 1000)) := by
  unfold spec_ShipOk.f impl_ShipOk.f
  simp only [beh_in, beh_in', Option.bind_some]
  repeat' split
  all_goals simp_all

theorem w64 (x : Int) (h0 : -9223372036854775808 ≤ x) (h1 : x < 9223372036854775808) : wrap64 x = x := by
  unfold wrap64
  omega
theorem u64w (x : Int) (h0 : 0 ≤ x) (h1 : x < 18446744073709551616) : IntKind.u64.wrap x = x := by
  have : IntKind.u64.wrap x = x % 18446744073709551616 := by simp [IntKind.wrap, IntKind.bits, IntKind.signed]
  omega
theorem prod (a b m n : Int) (ha : -m ≤ a ∧ a ≤ m) (hb : -n ≤ b ∧ b ≤ n) : -(m * n) ≤ a * b ∧ a * b ≤ m * n := by
  have e1 : 0 ≤ (m - a) * (n + b) := Int.mul_nonneg (by omega) (by omega)
  have e2 : 0 ≤ (m + a) * (n - b) := Int.mul_nonneg (by omega) (by omega)
  have e3 : 0 ≤ (m - a) * (n - b) := Int.mul_nonneg (by omega) (by omega)
  have e4 : 0 ≤ (m + a) * (n + b) := Int.mul_nonneg (by omega) (by omega)
  have f1 : (m - a) * (n + b) = m * n + m * b - a * n - a * b := by grind
  have f2 : (m + a) * (n - b) = m * n - m * b + a * n - a * b := by grind
  have f3 : (m - a) * (n - b) = m * n - m * b - a * n + a * b := by grind
  have f4 : (m + a) * (n + b) = m * n + m * b + a * n + a * b := by grind
  omega
theorem sq (a m : Int) (ha : -m ≤ a ∧ a ≤ m) : 0 ≤ a * a ∧ a * a ≤ m * m := by
  have h1 := prod a a m m ha ha
  have h2 : 0 ≤ a * a := by
    rcases Int.le_total 0 a with h | h
    · exact Int.mul_nonneg h h
    · exact Int.mul_nonneg_of_nonpos_of_nonpos h h
  omega
theorem least1 (a b : Int) (ha : -400000000 ≤ a ∧ a ≤ 400000000) (hb : -400000000 ≤ b ∧ b ≤ 400000000) : spec_l8Least.f a 100 b 1 = some (decide (100 * (a * a) ≤ b * b)) := by
  have hA := sq a 400000000 ha
  have hB := sq b 400000000 hb
  unfold spec_l8Least.f
  generalize a * a = A at *
  generalize b * b = B at *
  rw [w64 A (by omega) (by omega), w64 B (by omega) (by omega)]
  simp only [Int.tdiv_eq_ediv_of_nonneg hA.1, Int.tdiv_eq_ediv_of_nonneg hB.1, Int.tmod_eq_emod_of_nonneg hA.1, Int.tmod_eq_emod_of_nonneg hB.1]
  rw [w64 (A / 1048576) (by omega) (by omega), w64 (B / 1048576) (by omega) (by omega)]
  rw [w64 (100 * (A / 1048576)) (by omega) (by omega), w64 (1 * (B / 1048576)) (by omega) (by omega)]
  rw [w64 (100 * (A % 1048576)) (by omega) (by omega), w64 (1 * (B % 1048576)) (by omega) (by omega)]
  have pA : (0 : Int) ≤ 100 * (A % 1048576) := by omega
  have pB : (0 : Int) ≤ 1 * (B % 1048576) := by omega
  simp only [Int.tdiv_eq_ediv_of_nonneg pA, Int.tdiv_eq_ediv_of_nonneg pB, Int.tmod_eq_emod_of_nonneg pA, Int.tmod_eq_emod_of_nonneg pB]
  rw [w64 (100 * (A % 1048576) / 1048576) (by omega) (by omega), w64 (1 * (B % 1048576) / 1048576) (by omega) (by omega)]
  rw [w64 (100 * (A / 1048576) + 100 * (A % 1048576) / 1048576) (by omega) (by omega), w64 (1 * (B / 1048576) + 1 * (B % 1048576) / 1048576) (by omega) (by omega)]
  split
  · congr 1
    apply decide_eq_decide.2
    omega
  · congr 1
    apply decide_eq_decide.2
    omega
theorem square (a : Int) (ha : -400000000 ≤ a ∧ a ≤ 400000000) : impl_square.f a = some (a * a) := by
  have hA := sq a 400000000 ha
  unfold impl_square.f impl_size.f
  by_cases h : a < 0
  · rw [if_pos h]
    simp only [Option.bind_some]
    rw [w64 (-a) (by omega) (by omega), u64w (-a) (by omega) (by omega)]
    have e : -a * -a = a * a := by grind
    rw [e, u64w (a * a) (by omega) (by omega)]
  · rw [if_neg h]
    simp only [Option.bind_some]
    rw [u64w a (by omega) (by omega), u64w (a * a) (by omega) (by omega)]

theorem ahead_same (a b c d e f a' b' c' d' e' f' : Int) (A1 : -100000 ≤ a ∧ a ≤ 100000) (A2 : -100000 ≤ b ∧ b ≤ 100000) (A3 : -1000 ≤ c ∧ c ≤ 1000) (A4 : -1000 ≤ d ∧ d ≤ 1000) (B1 : -100000 ≤ a' ∧ a' ≤ 100000) (B2 : -100000 ≤ b' ∧ b' ≤ 100000) : ∃ r, spec_l8Ahead.f a b c d e f a' b' c' d' e' f' = some r ∧ impl_ahead.f (wrap64 (a' - a)) (wrap64 (b' - b)) c d = some r := by
  unfold spec_l8Ahead.f impl_ahead.f spec_l8Bearing.f spec_l8Way.f spec_l8Dot.f spec_l8Cross.f impl_vec_dot.f impl_vec_cross.f
  simp only [Option.bind_some]
  rw [w64 (a' - a) (by omega) (by omega), w64 (b' - b) (by omega) (by omega)]
  have D1 : -200000 ≤ a' - a ∧ a' - a ≤ 200000 := by omega
  have D2 : -200000 ≤ b' - b ∧ b' - b ≤ 200000 := by omega
  have p1 := prod _ _ _ _ D1 A4
  have p2 := prod _ _ _ _ D2 A3
  have p3 := prod _ _ _ _ D1 A3
  have p4 := prod _ _ _ _ D2 A4
  generalize (a' - a) * d = q1 at *
  generalize (b' - b) * c = q2 at *
  generalize (a' - a) * c = q3 at *
  generalize (b' - b) * d = q4 at *
  rw [w64 q1 (by omega) (by omega), w64 q2 (by omega) (by omega), w64 q3 (by omega) (by omega), w64 q4 (by omega) (by omega)]
  rw [w64 (q1 - q2) (by omega) (by omega), w64 (q3 + q4) (by omega) (by omega)]
  have hc : -400000000 ≤ q1 - q2 ∧ q1 - q2 ≤ 400000000 := by omega
  have hd : -400000000 ≤ q3 + q4 ∧ q3 + q4 ≤ 400000000 := by omega
  rw [least1 _ _ hc hd, square _ hc, square _ hd]
  have hA := sq _ _ hc
  have hB := sq _ _ hd
  simp only [Option.bind_some]
  generalize (q1 - q2) * (q1 - q2) = X at *
  generalize (q3 + q4) * (q3 + q4) = Y at *
  rw [u64w (X * 100) (by omega) (by omega)]
  split
  · refine ⟨_, rfl, ?_⟩
    congr 1
    apply decide_eq_decide.2
    omega
  · exact ⟨_, rfl, rfl⟩

theorem beh_j (x : Bool) (a b c d e f a' b' c' d' e' f' : Int) (h : x = false → ((-100000 ≤ a ∧ a ≤ 100000) ∧ (-100000 ≤ b ∧ b ≤ 100000) ∧ (-1000 ≤ c ∧ c ≤ 1000) ∧ (-1000 ≤ d ∧ d ≤ 1000)) ∧ ((-100000 ≤ a' ∧ a' ≤ 100000) ∧ (-100000 ≤ b' ∧ b' ≤ 100000) ∧ (-1000 ≤ c' ∧ c' ≤ 1000) ∧ (-1000 ≤ d' ∧ d' ≤ 1000))) : ∃ r, spec_HeadOn.j0 1 x a b c d e f a' b' c' d' e' f' = some r ∧ impl_HeadOn.j0 1 x a b c d e f a' b' c' d' e' f' = some r := by
  simp only [spec_HeadOn.j0, impl_HeadOn.j0]
  cases x
  · obtain ⟨⟨A1, A2, A3, A4⟩, B1, B2, B3, B4⟩ := h rfl
    simp only [Bool.false_eq_true, if_false]
    obtain ⟨r1, s1, i1⟩ := ahead_same a b c d e f a' b' c' d' e' f' A1 A2 A3 A4 B1 B2
    obtain ⟨r2, s2, i2⟩ := ahead_same a' b' c' d' e' f' a b c d e f B1 B2 B3 B4 A1 A2
    unfold spec_l8Way.f spec_l8Cross.f spec_l8Dot.f impl_bearing.f impl_Ship_way.f impl_vec_dot.f impl_vec_cross.f
    simp only [Option.bind_some]
    rw [s1, s2, i1]
    simp only [Option.bind_some]
    rw [i2]
    simp only [Option.bind_some]
    have p1 := prod _ _ _ _ A3 B4
    have p2 := prod _ _ _ _ A4 B3
    have p3 := prod _ _ _ _ A3 B3
    have p4 := prod _ _ _ _ A4 B4
    generalize c * d' = q1 at *
    generalize d * c' = q2 at *
    generalize c * c' = q3 at *
    generalize d * d' = q4 at *
    rw [w64 q1 (by omega) (by omega), w64 q2 (by omega) (by omega), w64 q3 (by omega) (by omega), w64 q4 (by omega) (by omega)]
    rw [w64 (q1 - q2) (by omega) (by omega), w64 (q3 + q4) (by omega) (by omega)]
    have hc : -400000000 ≤ q1 - q2 ∧ q1 - q2 ≤ 400000000 := by omega
    have hd : -400000000 ≤ q3 + q4 ∧ q3 + q4 ≤ 400000000 := by omega
    rw [least1 _ _ hc hd, square _ hc, square _ hd]
    have hA := sq _ _ hc
    have hB := sq _ _ hd
    simp only [Option.bind_some]
    generalize (q1 - q2) * (q1 - q2) = X at *
    generalize (q3 + q4) * (q3 + q4) = Y at *
    rw [u64w (X * 100) (by omega) (by omega)]
    by_cases hn : q3 + q4 < 0
    · rw [if_pos hn, if_pos hn]
      by_cases hm : X * 100 ≤ Y
      · rw [if_pos hm, if_pos (by rw [decide_eq_true_eq]; omega)]
        cases r1 <;> exact ⟨_, rfl, rfl⟩
      · rw [if_neg hm, if_neg (by rw [decide_eq_true_eq]; omega)]
        exact ⟨_, rfl, rfl⟩
    · rw [if_neg hn, if_neg hn]
      exact ⟨_, rfl, rfl⟩
  · exact ⟨_, rfl, rfl⟩

theorem beh_same (a b c d e f a' b' c' d' e' f' : Int) : ∃ r, spec_HeadOn.f 1 a b c d e f a' b' c' d' e' f' = some r ∧ impl_HeadOn.f 1 a b c d e f a' b' c' d' e' f' = some r := by
  obtain ⟨r, h1, h2, h3⟩ := beh_ship a b c d e f
  obtain ⟨r', h1', h2', h3'⟩ := beh_ship a' b' c' d' e' f'
  unfold spec_HeadOn.f impl_HeadOn.f
  rw [h1, h2, h1', h2']
  simp only [Option.bind_some]
  cases r
  · simp only [Bool.false_eq_true, if_false]
    exact beh_j _ _ _ _ _ _ _ _ _ _ _ _ _ (by simp)
  · simp only [if_true]
    refine beh_j _ _ _ _ _ _ _ _ _ _ _ _ _ (fun h => ⟨h3 rfl, h3' (by simpa using h)⟩)

theorem FnExactHeadOn : ∀ (a0_0 : Int) (a0_1 : Int) (a0_2 : Int) (a0_3 : Int) (a0_4 : Int) (a0_5 : Int) (a1_0 : Int) (a1_1 : Int) (a1_2 : Int) (a1_3 : Int) (a1_4 : Int) (a1_5 : Int), ∃ k, laws_FnExactHeadOn.f k a0_0 a0_1 a0_2 a0_3 a0_4 a0_5 a1_0 a1_1 a1_2 a1_3 a1_4 a1_5 = some true := by
  intro a b c d e f a' b' c' d' e' f'
  obtain ⟨r, h1, h2⟩ := beh_same a b c d e f a' b' c' d' e' f'
  refine ⟨1, ?_⟩
  unfold laws_FnExactHeadOn.f laws_toShip.f
  simp only [Option.bind_some, h1, h2]
  simp
end Go.Proofs.Ytfbokdbaondjdaa.Pure
