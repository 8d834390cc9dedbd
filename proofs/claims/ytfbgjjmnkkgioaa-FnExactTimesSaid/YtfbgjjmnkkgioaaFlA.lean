/- Contracts of the functions over floats. -/
import Derived.Test.YtfbgjjmnkkgioaaProg
import Derived.Test.YtfbgjjmnkkgioaaFloat
import Derived.KernelRfl
import Derived.Deep.RegionHeld3
namespace Go.Proofs.Ytfbgjjmnkkgioaa.Fl
open Go Go.RowKit
set_option linter.unusedVariables false
set_option linter.unusedSimpArgs false

theorem toWave_any (a b : Nat) (w : World) : Calls Try.prog 16 #[.agg #[.float .f64 a, .float .f64 b]] w fun e w' => e = .returned (.agg #[.float .f64 a, .float .f64 b]) ∧ Below w.heap.size w w' := by
  go_enter Try.func16, Try.ntmps16
  go_wp2
  all_goals exact bodyPost_ret (v := .agg #[.float .f64 a, .float .f64 b]) (by simp [results, Try.results16, go_sem]) rfl ⟨rfl, (by repeat (first | exact Below.refl _ _ | apply below_al | apply below_drewN | refine below_st ?_ (by simp; try omega) _))⟩

theorem toSmall_any (a b : Nat) (w : World) : Calls Try.prog 22 #[.agg #[.float .f32 a, .float .f32 b]] w fun e w' => e = .returned (.agg #[.float .f32 a, .float .f32 b]) ∧ Below w.heap.size w w' := by
  go_enter Try.func22, Try.ntmps22
  go_wp2
  all_goals exact bodyPost_ret (v := .agg #[.float .f32 a, .float .f32 b]) (by simp [results, Try.results22, go_sem]) rfl ⟨rfl, (by repeat (first | exact Below.refl _ _ | apply below_al | apply below_drewN | refine below_st ?_ (by simp; try omega) _))⟩

theorem alike_spec (a b c d : Nat) (w : World) : Calls Try.prog 15 #[.agg #[.float .f64 a, .float .f64 b], .agg #[.float .f64 c, .float .f64 d]] w
    fun e w' => e = .returned (.bool (FloatKind.f64.format.order a c == some .eq && FloatKind.f64.format.order b d == some .eq)) ∧ Below w.heap.size w w' := by
  go_enter Try.func15, Try.ntmps15
  go_wp2
  all_goals (go_ret; exact ⟨by simp [*], (by repeat (first | exact Below.refl _ _ | apply below_al | apply below_drewN | refine below_st ?_ (by simp; try omega) _))⟩)

theorem alike_impl (a b c d : Nat) (w : World) : Calls Try.prog 17 #[.agg #[.float .f64 a, .float .f64 b], .agg #[.float .f64 c, .float .f64 d]] w
    fun e w' => e = .returned (.bool (FloatKind.f64.format.order a c == some .eq && FloatKind.f64.format.order b d == some .eq)) ∧ Below w.heap.size w w' := by
  go_enter Try.func17, Try.ntmps17
  go_wp2
  all_goals (go_ret; exact ⟨by simp [*], (by repeat (first | exact Below.refl _ _ | apply below_al | apply below_drewN | refine below_st ?_ (by simp; try omega) _))⟩)

theorem barred_spec (a b : Nat) (w : World) : Calls Try.prog 18 #[.agg #[.float .f64 a, .float .f64 b]] w (PairOf .f64 a (Op.negFloat .f64 b) w) := by
  go_enter Try.func18, Try.ntmps18
  go_wp2
  all_goals exact bodyPost_ret (v := .agg #[.float .f64 a, .float .f64 (Op.negFloat .f64 b)]) (by simp [results, Try.results18, go_sem]) rfl ⟨_, _, rfl, Same.refl _ _, Same.refl _ _, (by repeat (first | exact Below.refl _ _ | apply below_al | apply below_drewN | refine below_st ?_ (by simp; try omega) _))⟩

theorem barred_impl (a b : Nat) (w : World) : Calls Try.prog 19 #[.agg #[.float .f64 a, .float .f64 b]] w (PairOf .f64 a (Op.negFloat .f64 b) w) := by
  go_enter Try.func19, Try.ntmps19
  go_wp2
  all_goals exact bodyPost_ret (v := .agg #[.float .f64 a, .float .f64 (Op.negFloat .f64 b)]) (by simp [results, Try.results19, go_sem]) rfl ⟨_, _, rfl, Same.refl _ _, Same.refl _ _, (by repeat (first | exact Below.refl _ _ | apply below_al | apply below_drewN | refine below_st ?_ (by simp; try omega) _))⟩

theorem AddSmall_spec (a b c d : Nat) (w : World) : Calls Try.prog 21 #[.agg #[.float .f32 a, .float .f32 b], .agg #[.float .f32 c, .float .f32 d]] w (PairOf .f32 (fP .add .f32 a c) (fP .add .f32 b d) w) := by
  go_enter Try.func21, Try.ntmps21
  go_wp2
  all_goals (refine ret_val ?_ rfl; simp [results, Try.results21, go_sem]; exact ⟨_, _, rfl, fAr_same (Same.refl _ _) (Same.refl _ _) _, fAr_same (Same.refl _ _) (Same.refl _ _) _, (by repeat (first | exact Below.refl _ _ | apply below_al | apply below_drewN | refine below_st ?_ (by simp; try omega) _))⟩)

theorem AddSmall_impl (a b c d : Nat) (w : World) : Calls Try.prog 23 #[.agg #[.float .f32 a, .float .f32 b], .agg #[.float .f32 c, .float .f32 d]] w (PairOf .f32 (fP .add .f32 a c) (fP .add .f32 b d) w) := by
  go_enter Try.func23, Try.ntmps23
  go_wp2
  all_goals (refine ret_val ?_ rfl; simp [results, Try.results23, go_sem]; exact ⟨_, _, rfl, fAr_same (Same.refl _ _) (Same.refl _ _) _, fAr_same (Same.refl _ _) (Same.refl _ _) _, (by repeat (first | exact Below.refl _ _ | apply below_al | apply below_drewN | refine below_st ?_ (by simp; try omega) _))⟩)

theorem LessSmall_spec (a b c d : Nat) (w : World) : Calls Try.prog 27 #[.agg #[.float .f32 a, .float .f32 b], .agg #[.float .f32 c, .float .f32 d]] w (PairOf .f32 (fP .sub .f32 a c) (fP .sub .f32 b d) w) := by
  go_enter Try.func27, Try.ntmps27
  go_wp2
  all_goals (refine ret_val ?_ rfl; simp [results, Try.results27, go_sem]; exact ⟨_, _, rfl, fAr_same (Same.refl _ _) (Same.refl _ _) _, fAr_same (Same.refl _ _) (Same.refl _ _) _, (by repeat (first | exact Below.refl _ _ | apply below_al | apply below_drewN | refine below_st ?_ (by simp; try omega) _))⟩)

theorem LessSmall_impl (a b c d : Nat) (w : World) : Calls Try.prog 28 #[.agg #[.float .f32 a, .float .f32 b], .agg #[.float .f32 c, .float .f32 d]] w (PairOf .f32 (fP .sub .f32 a c) (fP .sub .f32 b d) w) := by
  go_enter Try.func28, Try.ntmps28
  go_wp2
  all_goals (refine ret_val ?_ rfl; simp [results, Try.results28, go_sem]; exact ⟨_, _, rfl, fAr_same (Same.refl _ _) (Same.refl _ _) _, fAr_same (Same.refl _ _) (Same.refl _ _) _, (by repeat (first | exact Below.refl _ _ | apply below_al | apply below_drewN | refine below_st ?_ (by simp; try omega) _))⟩)

theorem great_spec (a b : Nat) (w : World) : Calls Try.prog 25 #[.agg #[.float .f32 a, .float .f32 b]] w (PairOf .f64 (gP a) (gP b) w) := by
  have u32 := Try.underlying32
  have u64 := Try.underlying23
  go_enter Try.func25, Try.ntmps25
  go_wp2
  all_goals (refine ret_val ?_ rfl; simp [results, Try.results25, go_sem]; exact ⟨_, _, rfl, gW_same (Same.refl _ _) _, gW_same (Same.refl _ _) _, (by repeat (first | exact Below.refl _ _ | apply below_al | apply below_drewN | refine below_st ?_ (by simp; try omega) _))⟩)

theorem great_impl (a b : Nat) (w : World) : Calls Try.prog 26 #[.agg #[.float .f32 a, .float .f32 b]] w (PairOf .f64 (gP a) (gP b) w) := by
  have u32 := Try.underlying32
  have u64 := Try.underlying23
  go_enter Try.func26, Try.ntmps26
  go_wp2
  all_goals (refine ret_val ?_ rfl; simp [results, Try.results26, go_sem]; exact ⟨_, _, rfl, gW_same (Same.refl _ _) _, gW_same (Same.refl _ _) _, (by repeat (first | exact Below.refl _ _ | apply below_al | apply below_drewN | refine below_st ?_ (by simp; try omega) _))⟩)

theorem by_any (a b : Nat) (w : World) : Calls Try.prog 50 #[.float .f64 a, .float .f64 b] w fun e w' => e = .returned (.float .f64 (fAr .mul .f64 a b w)) ∧ w.drewN (fN .mul .f64 a b) = w' := by
  go_enter Try.func50, Try.ntmps50
  go_wp2
  all_goals (go_ret; exact ⟨rfl, rfl⟩)

theorem addWave_any (a b c d : Nat) (w : World) : Calls Try.prog 51 #[.agg #[.float .f64 a, .float .f64 b], .agg #[.float .f64 c, .float .f64 d]] w (PairOf .f64 (fP .add .f64 a c) (fP .add .f64 b d) w) := by
  go_enter Try.func51, Try.ntmps51
  go_wp2
  all_goals (refine ret_val ?_ rfl; simp [results, Try.results51, go_sem]; exact ⟨_, _, rfl, fAr_same (Same.refl _ _) (Same.refl _ _) _, fAr_same (Same.refl _ _) (Same.refl _ _) _, (by repeat (first | exact Below.refl _ _ | apply below_al | apply below_drewN | refine below_st ?_ (by simp; try omega) _))⟩)

theorem times_spec (a b c d : Nat) (w : World) : Calls Try.prog 31 #[.agg #[.float .f64 a, .float .f64 b], .agg #[.float .f64 c, .float .f64 d]] w (PairOf .f64 (fP .sub .f64 (fP .mul .f64 a c) (fP .mul .f64 b d)) (fP .add .f64 (fP .mul .f64 a d) (fP .mul .f64 b c)) w) := by
  go_enter Try.func31, Try.ntmps31
  go_wp2
  all_goals (refine ret_val ?_ rfl; simp [results, Try.results31, go_sem]; exact ⟨_, _, rfl, fAr_same (fAr_same (Same.refl _ _) (Same.refl _ _) _) (fAr_same (Same.refl _ _) (Same.refl _ _) _) _, fAr_same (fAr_same (Same.refl _ _) (Same.refl _ _) _) (fAr_same (Same.refl _ _) (Same.refl _ _) _) _, (by repeat (first | exact Below.refl _ _ | apply below_al | apply below_drewN | refine below_st ?_ (by simp; try omega) _))⟩)

theorem sameFloat_any {a b : Nat} (h : Same .f64 a b) (w : World) : Calls Try.prog 48 #[.float .f64 a, .float .f64 b] w fun e w' => e = .returned (.bool true) ∧ ∃ n, w' = w.drewN n := by
  cases hn : nanB .f64 a with
  | true =>
    have hb : nanB .f64 b = true := by
      rcases h with rfl | h
      · exact hn
      · exact h.2
    have h1 := order_nan_l a hn
    have h2 := order_nan_l b hb
    clear h hn hb
    go_enter Try.func48, Try.ntmps48
    go_wp2
    all_goals (go_ret; exact ⟨rfl, 0, rfl⟩)
  | false =>
    obtain rfl : a = b := by
      rcases h with h | h
      · exact h
      · rw [h.1] at hn; cases hn
    have h1 := order_self hn
    obtain ⟨r, hr⟩ := quo_one hn
    have hq := fun (w : World) (t : TypeId) => run_float_arith (P := Try.prog) w .quo t .f64 4607182418800017408 a r hr
    clear h hn hr
    go_enter Try.func48, Try.ntmps48
    go_wp2
    all_goals (go_ret; exact ⟨by simp, 0, rfl⟩)

theorem eqWave_any {a b c d : Nat} (h1 : Same .f64 a c) (h2 : Same .f64 b d) (w : World) : Calls Try.prog 20 #[.agg #[.float .f64 a, .float .f64 b], .agg #[.float .f64 c, .float .f64 d]] w fun e w' => e = .returned (.bool true) ∧ Below w.heap.size w w' := by
  go_enter Try.func20, Try.ntmps20
  go_wp2_with (go_at_call 48; first | ((with_reducible refine (sameFloat_any h1 _).mono ?_); rintro e w' ⟨rfl, n, rfl⟩) | ((with_reducible refine (sameFloat_any h2 _).mono ?_); rintro e w' ⟨rfl, n, rfl⟩))
  all_goals (go_ret; exact ⟨rfl, (by repeat (first | exact Below.refl _ _ | apply below_al | apply below_drewN | refine below_st ?_ (by simp; try omega) _))⟩)

theorem eqSmall_any {a b c d : Nat} (h1 : Same .f32 a c) (h2 : Same .f32 b d) (w : World) : Calls Try.prog 24 #[.agg #[.float .f32 a, .float .f32 b], .agg #[.float .f32 c, .float .f32 d]] w fun e w' => e = .returned (.bool true) ∧ Below w.heap.size w w' := by
  have u32 := Try.underlying32
  have u64 := Try.underlying23
  have g1 := fun w w' : World => (gW_same h1 w).trans (gW_same (Same.refl _ c) w').symm
  have g2 := fun w w' : World => (gW_same h2 w).trans (gW_same (Same.refl _ d) w').symm
  go_enter Try.func24, Try.ntmps24
  go_wp2_with (go_at_call 48; first | ((with_reducible refine (sameFloat_any (g1 _ _) _).mono ?_); rintro e w' ⟨rfl, n, rfl⟩) | ((with_reducible refine (sameFloat_any (g2 _ _) _).mono ?_); rintro e w' ⟨rfl, n, rfl⟩))
  all_goals (go_ret; exact ⟨rfl, (by repeat (first | exact Below.refl _ _ | apply below_al | apply below_drewN | refine below_st ?_ (by simp; try omega) _))⟩)

end Go.Proofs.Ytfbgjjmnkkgioaa.Fl
