/- The laws over floats without loops, walked. -/
import Derived.Test.YtfbgjjmnkkgioaaFlA
import Derived.Deep.DeepCutAuto
import Derived.Test.YtfbgjjmnkkgioaaReg
namespace Go.Proofs.Ytfbgjjmnkkgioaa.Fl
open Go Go.RowKit Go.Proofs.Ytfbgjjmnkkgioaa.Reg
set_option linter.unusedVariables false
set_option linter.unusedSimpArgs false

theorem law_Barred (a b : Nat) (w : World) : Calls Try.prog 5 #[.agg #[.float .f64 a, .float .f64 b]] w fun e w' => e = .returned (.bool true) ∧ Below w.heap.size w w' := by
  go_enter Try.func5, Try.ntmps5
  go_wp2_with fail
  with_reducible refine (toWave_any _ _ _).mono ?_
  rintro e w1 ⟨rfl, hb1⟩
  obtain ⟨hc1, hf1⟩ := below_cells hb1
  have hz1 := hb1.size
  simp at hz1
  have l1 : w.heap.size < w1.heap.size := by omega
  go_wp2_with fail
  with_reducible refine (barred_spec _ _ _).mono ?_
  rintro e w2 ⟨r2, i2, rfl, hr2, hi2, hb2⟩
  obtain ⟨hc2, hf2⟩ := below_cells hb2
  have hz2 := hb2.size
  have l2 : w.heap.size < w2.heap.size := by omega
  go_wp2_with fail
  with_reducible refine (toWave_any _ _ _).mono ?_
  rintro e w3 ⟨rfl, hb3⟩
  obtain ⟨hc3, hf3⟩ := below_cells hb3
  have hz3 := hb3.size
  simp at hz3
  have l3 : w.heap.size < w3.heap.size := by omega
  have m3 : w2.heap.size < w3.heap.size := by omega
  go_wp2_with fail
  with_reducible refine (barred_impl _ _ _).mono ?_
  rintro e w4 ⟨r4, i4, rfl, hr4, hi4, hb4⟩
  obtain ⟨hc4, hf4⟩ := below_cells hb4
  have hz4 := hb4.size
  have l4 : w.heap.size < w4.heap.size := by omega
  have m4 : w2.heap.size < w4.heap.size := by omega
  go_wp2_with fail
  with_reducible refine (eqWave_any (hr4.trans hr2.symm) (hi4.trans hi2.symm) _).mono ?_
  rintro e w5 ⟨rfl, hb5⟩
  go_wp2_with fail
  go_ret
  refine ⟨rfl, ?_⟩
  have e1 := (below_al (Below.refl w.heap.size w) (.cells #[.float .f64 a, .float .f64 b] 25)).trans (hb1.mono (by simp))
  have e2 := below_al (e1.trans (hb2.mono (by omega))) (.cells #[.float .f64 r2, .float .f64 i2] 27)
  have e3 := e2.trans (hb3.mono (by simp; omega))
  have e4 := below_al (e3.trans (hb4.mono (by omega))) (.cells #[.float .f64 r4, .float .f64 i4] 27)
  exact e4.trans (hb5.mono (by simp; omega))

theorem law_Great (a b : Nat) (w : World) : Calls Try.prog 7 #[.agg #[.float .f32 a, .float .f32 b]] w fun e w' => e = .returned (.bool true) ∧ Below w.heap.size w w' := by
  go_enter Try.func7, Try.ntmps7
  go_wp2_with fail
  with_reducible refine (toSmall_any _ _ _).mono ?_
  rintro e w1 ⟨rfl, hb1⟩
  obtain ⟨hc1, hf1⟩ := below_cells hb1
  have hz1 := hb1.size
  simp at hz1
  have l1 : w.heap.size < w1.heap.size := by omega
  go_wp2_with fail
  with_reducible refine (great_spec _ _ _).mono ?_
  rintro e w2 ⟨r2, i2, rfl, hr2, hi2, hb2⟩
  obtain ⟨hc2, hf2⟩ := below_cells hb2
  have hz2 := hb2.size
  have l2 : w.heap.size < w2.heap.size := by omega
  go_wp2_with fail
  with_reducible refine (toSmall_any _ _ _).mono ?_
  rintro e w3 ⟨rfl, hb3⟩
  obtain ⟨hc3, hf3⟩ := below_cells hb3
  have hz3 := hb3.size
  simp at hz3
  have l3 : w.heap.size < w3.heap.size := by omega
  have m3 : w2.heap.size < w3.heap.size := by omega
  go_wp2_with fail
  with_reducible refine (great_impl _ _ _).mono ?_
  rintro e w4 ⟨r4, i4, rfl, hr4, hi4, hb4⟩
  obtain ⟨hc4, hf4⟩ := below_cells hb4
  have hz4 := hb4.size
  have l4 : w.heap.size < w4.heap.size := by omega
  have m4 : w2.heap.size < w4.heap.size := by omega
  go_wp2_with fail
  with_reducible refine (eqWave_any (hr4.trans hr2.symm) (hi4.trans hi2.symm) _).mono ?_
  rintro e w5 ⟨rfl, hb5⟩
  go_wp2_with fail
  go_ret
  refine ⟨rfl, ?_⟩
  have e1 := (below_al (Below.refl w.heap.size w) (.cells #[.float .f32 a, .float .f32 b] 34)).trans (hb1.mono (by simp))
  have e2 := below_al (e1.trans (hb2.mono (by omega))) (.cells #[.float .f64 r2, .float .f64 i2] 27)
  have e3 := e2.trans (hb3.mono (by simp; omega))
  have e4 := below_al (e3.trans (hb4.mono (by omega))) (.cells #[.float .f64 r4, .float .f64 i4] 27)
  exact e4.trans (hb5.mono (by simp; omega))

set_option maxHeartbeats 8000000 in
theorem law_Alike (a b c d : Nat) (w : World) : Calls Try.prog 4 #[.agg #[.float .f64 a, .float .f64 b], .agg #[.float .f64 c, .float .f64 d]] w fun e w' => e = .returned (.bool true) ∧ Below w.heap.size w w' := by
  go_enter Try.func4, Try.ntmps4
  go_upto_region 1 with fail
  have hb0 := below_al (below_al (Below.refl w.heap.size w) (.cells #[.float .f64 a, .float .f64 b] 25)) (.cells #[.float .f64 c, .float .f64 d] 25)
  have c0 : ((w.alloc (.cells #[.float .f64 a, .float .f64 b] 25)).alloc (.cells #[.float .f64 c, .float .f64 d] 25)).cell? ⟨w.heap.size, 0, none⟩ = some (.float .f64 a) := by go_simp
  have c1 : ((w.alloc (.cells #[.float .f64 a, .float .f64 b] 25)).alloc (.cells #[.float .f64 c, .float .f64 d] 25)).cell? ⟨w.heap.size, 1, none⟩ = some (.float .f64 b) := by go_simp
  have c2 : ((w.alloc (.cells #[.float .f64 a, .float .f64 b] 25)).alloc (.cells #[.float .f64 c, .float .f64 d] 25)).cell? ⟨w.heap.size + 1, 0, none⟩ = some (.float .f64 c) := by go_simp
  have c3 : ((w.alloc (.cells #[.float .f64 a, .float .f64 b] 25)).alloc (.cells #[.float .f64 c, .float .f64 d] 25)).cell? ⟨w.heap.size + 1, 1, none⟩ = some (.float .f64 d) := by go_simp
  have l1 : w.heap.size + 1 < ((w.alloc (.cells #[.float .f64 a, .float .f64 b] 25)).alloc (.cells #[.float .f64 c, .float .f64 d] 25)).heap.size := by simp
  generalize (w.alloc (.cells #[.float .f64 a, .float .f64 b] 25)).alloc (.cells #[.float .f64 c, .float .f64 d] 25) = W0 at hb0 c0 c1 c2 c3 l1 ⊢
  go_region_held3 (fun w' => w'.cell? ⟨w.heap.size, 0, none⟩ = some (.float .f64 a) ∧ w'.cell? ⟨w.heap.size, 1, none⟩ = some (.float .f64 b) ∧ w'.cell? ⟨w.heap.size + 1, 0, none⟩ = some (.float .f64 c) ∧ w'.cell? ⟨w.heap.size + 1, 1, none⟩ = some (.float .f64 d) ∧ w.heap.size + 1 < w'.heap.size ∧ Below w.heap.size w w')
    (first | exact ⟨c0, c1, c2, c3, l1, below_drewN hb0 1⟩ | (go_keep; done) | (go_split_ands; (repeat' apply And.intro); all_goals first | assumption | exact l1 | exact (hc _ _ (by first | omega | (simp; omega))).trans (by assumption) | (refine Below.trans ?_ (hb.mono (by first | omega | (simp; omega))); assumption) | (apply cell_al; assumption) | (apply below_al; assumption) | (refine cell_st ?_ (cell_st ?_ ?_) <;> first | assumption | omega | (simp; omega)) | (refine below_st (below_st ?_ ?_ _) ?_ _ <;> first | assumption | omega | (simp; omega)) | (simp; omega)))
    (first | (go_at_call 16; (with_reducible refine (toWave_any _ _ _).mono ?_); rintro e w1 ⟨rfl, hb⟩; obtain ⟨hc, hf⟩ := below_cells hb; have hz := hb.size; (try simp at hz); go_split_ands; have l1 : w.heap.size + 1 < w1.heap.size := (by omega); have c0 : w1.cell? ⟨w.heap.size, 0, none⟩ = some (.float .f64 a) := (hc _ _ (by first | omega | (simp; omega))).trans (by assumption); have c1 : w1.cell? ⟨w.heap.size, 1, none⟩ = some (.float .f64 b) := (hc _ _ (by first | omega | (simp; omega))).trans (by assumption); have c2 : w1.cell? ⟨w.heap.size + 1, 0, none⟩ = some (.float .f64 c) := (hc _ _ (by first | omega | (simp; omega))).trans (by assumption); have c3 : w1.cell? ⟨w.heap.size + 1, 1, none⟩ = some (.float .f64 d) := (hc _ _ (by first | omega | (simp; omega))).trans (by assumption); have hb0 : Below w.heap.size w w1 := Below.trans (by assumption) (hb.mono (by first | omega | (simp; omega)))) | (go_at_call 15; (with_reducible refine (alike_spec _ _ _ _ _).mono ?_); rintro e w1 ⟨rfl, hb⟩; obtain ⟨hc, hf⟩ := below_cells hb; have hz := hb.size; (try simp at hz); go_split_ands; have l1 : w.heap.size + 1 < w1.heap.size := (by omega); have c0 : w1.cell? ⟨w.heap.size, 0, none⟩ = some (.float .f64 a) := (hc _ _ (by first | omega | (simp; omega))).trans (by assumption); have c1 : w1.cell? ⟨w.heap.size, 1, none⟩ = some (.float .f64 b) := (hc _ _ (by first | omega | (simp; omega))).trans (by assumption); have c2 : w1.cell? ⟨w.heap.size + 1, 0, none⟩ = some (.float .f64 c) := (hc _ _ (by first | omega | (simp; omega))).trans (by assumption); have c3 : w1.cell? ⟨w.heap.size + 1, 1, none⟩ = some (.float .f64 d) := (hc _ _ (by first | omega | (simp; omega))).trans (by assumption); have hb0 : Below w.heap.size w w1 := Below.trans (by assumption) (hb.mono (by first | omega | (simp; omega)))))
  obtain ⟨c0, c1, c2, c3, l1, hb0⟩ := ‹_ ∧ _›
  go_upto_region 2 with fail
  go_region_held3 (fun w' => w'.cell? ⟨w.heap.size, 0, none⟩ = some (.float .f64 a) ∧ w'.cell? ⟨w.heap.size, 1, none⟩ = some (.float .f64 b) ∧ w'.cell? ⟨w.heap.size + 1, 0, none⟩ = some (.float .f64 c) ∧ w'.cell? ⟨w.heap.size + 1, 1, none⟩ = some (.float .f64 d) ∧ w.heap.size + 1 < w'.heap.size ∧ Below w.heap.size w w')
    (first | exact ⟨c0, c1, c2, c3, l1, below_drewN hb0 1⟩ | (go_keep; done) | (go_split_ands; (repeat' apply And.intro); all_goals first | assumption | exact l1 | exact (hc _ _ (by first | omega | (simp; omega))).trans (by assumption) | (refine Below.trans ?_ (hb.mono (by first | omega | (simp; omega))); assumption) | (apply cell_al; assumption) | (apply below_al; assumption) | (refine cell_st ?_ (cell_st ?_ ?_) <;> first | assumption | omega | (simp; omega)) | (refine below_st (below_st ?_ ?_ _) ?_ _ <;> first | assumption | omega | (simp; omega)) | (simp; omega)))
    (first | (go_at_call 16; (with_reducible refine (toWave_any _ _ _).mono ?_); rintro e w1 ⟨rfl, hb⟩; obtain ⟨hc, hf⟩ := below_cells hb; have hz := hb.size; (try simp at hz); go_split_ands; have l1 : w.heap.size + 1 < w1.heap.size := (by omega); have c0 : w1.cell? ⟨w.heap.size, 0, none⟩ = some (.float .f64 a) := (hc _ _ (by first | omega | (simp; omega))).trans (by assumption); have c1 : w1.cell? ⟨w.heap.size, 1, none⟩ = some (.float .f64 b) := (hc _ _ (by first | omega | (simp; omega))).trans (by assumption); have c2 : w1.cell? ⟨w.heap.size + 1, 0, none⟩ = some (.float .f64 c) := (hc _ _ (by first | omega | (simp; omega))).trans (by assumption); have c3 : w1.cell? ⟨w.heap.size + 1, 1, none⟩ = some (.float .f64 d) := (hc _ _ (by first | omega | (simp; omega))).trans (by assumption); have hb0 : Below w.heap.size w w1 := Below.trans (by assumption) (hb.mono (by first | omega | (simp; omega)))) | (go_at_call 17; (with_reducible refine (alike_impl _ _ _ _ _).mono ?_); rintro e w1 ⟨rfl, hb⟩; obtain ⟨hc, hf⟩ := below_cells hb; have hz := hb.size; (try simp at hz); go_split_ands; have l1 : w.heap.size + 1 < w1.heap.size := (by omega); have c0 : w1.cell? ⟨w.heap.size, 0, none⟩ = some (.float .f64 a) := (hc _ _ (by first | omega | (simp; omega))).trans (by assumption); have c1 : w1.cell? ⟨w.heap.size, 1, none⟩ = some (.float .f64 b) := (hc _ _ (by first | omega | (simp; omega))).trans (by assumption); have c2 : w1.cell? ⟨w.heap.size + 1, 0, none⟩ = some (.float .f64 c) := (hc _ _ (by first | omega | (simp; omega))).trans (by assumption); have c3 : w1.cell? ⟨w.heap.size + 1, 1, none⟩ = some (.float .f64 d) := (hc _ _ (by first | omega | (simp; omega))).trans (by assumption); have hb0 : Below w.heap.size w w1 := Below.trans (by assumption) (hb.mono (by first | omega | (simp; omega)))))
  obtain ⟨c0, c1, c2, c3, l1, hb0⟩ := ‹_ ∧ _›
  go_wp2_with fail
  all_goals (go_ret; exact ⟨rfl, by assumption⟩)

set_option maxHeartbeats 8000000 in
theorem law_AddSmall (a b c d : Nat) (w : World) : Calls Try.prog 6 #[.agg #[.float .f32 a, .float .f32 b], .agg #[.float .f32 c, .float .f32 d]] w fun e w' => e = .returned (.bool true) ∧ Below w.heap.size w w' := by
  go_enter Try.func6, Try.ntmps6
  go_upto_region 1 with fail
  have hb0 := below_al (below_al (Below.refl w.heap.size w) (.cells #[.float .f32 a, .float .f32 b] 34)) (.cells #[.float .f32 c, .float .f32 d] 34)
  have c0 : ((w.alloc (.cells #[.float .f32 a, .float .f32 b] 34)).alloc (.cells #[.float .f32 c, .float .f32 d] 34)).cell? ⟨w.heap.size, 0, none⟩ = some (.float .f32 a) := by go_simp
  have c1 : ((w.alloc (.cells #[.float .f32 a, .float .f32 b] 34)).alloc (.cells #[.float .f32 c, .float .f32 d] 34)).cell? ⟨w.heap.size, 1, none⟩ = some (.float .f32 b) := by go_simp
  have c2 : ((w.alloc (.cells #[.float .f32 a, .float .f32 b] 34)).alloc (.cells #[.float .f32 c, .float .f32 d] 34)).cell? ⟨w.heap.size + 1, 0, none⟩ = some (.float .f32 c) := by go_simp
  have c3 : ((w.alloc (.cells #[.float .f32 a, .float .f32 b] 34)).alloc (.cells #[.float .f32 c, .float .f32 d] 34)).cell? ⟨w.heap.size + 1, 1, none⟩ = some (.float .f32 d) := by go_simp
  have l1 : w.heap.size + 1 < ((w.alloc (.cells #[.float .f32 a, .float .f32 b] 34)).alloc (.cells #[.float .f32 c, .float .f32 d] 34)).heap.size := by simp
  generalize (w.alloc (.cells #[.float .f32 a, .float .f32 b] 34)).alloc (.cells #[.float .f32 c, .float .f32 d] 34) = W0 at hb0 c0 c1 c2 c3 l1 ⊢
  refine region_list (by kernel_rfl) [7, 8, 9, 10, 11, 5] [undef, undef, undef, undef, undef, undef] [fun v _ => v = .agg #[.float .f32 a, .float .f32 b], fun v _ => v = .agg #[.float .f32 a, .float .f32 b], fun v _ => v = .agg #[.float .f32 c, .float .f32 d], fun v _ => v = .agg #[.float .f32 c, .float .f32 d],
      fun v _ => ∃ r i : Nat, v = .agg #[.float .f32 r, .float .f32 i] ∧ Same .f32 r (fP .add .f32 a c) ∧ Same .f32 i (fP .add .f32 b d),
      fun v w' => ∃ g : Nat, v = .pointer (some ⟨g, 0, none⟩) ∧ W0.heap.size ≤ g ∧ g < w'.heap.size ∧ w'.heap[g]? = some (.cells #[.float .f32 0, .float .f32 0] 35 (0, 0))] (by kernel_rfl) rfl rfl
    ⟨fun _ _ _ h _ => h, fun _ _ _ h _ => h, fun _ _ _ h _ => h, fun _ _ _ h _ => h, fun _ _ _ h _ => h, fun _ _ _ ⟨g, h1, h2, h3, h4⟩ hb => ⟨g, h1, h2, Nat.lt_of_lt_of_le h3 hb.size, (hb.block g h3).trans h4⟩, trivial⟩ (steps_cons ?_ (steps_cons ?_ (steps_cons ?_ (steps_cons ?_ (steps_cons ?_ (steps_cons ?_ (steps_one ?_)))))))
  · intro vs hl
    obtain ⟨v0, v1, v2, v3, v4, v5, rfl⟩ := len6 hl
    clear hl
    intro w1 hb hd K hK
    have e0 : w1.cell? ⟨w.heap.size, 0, none⟩ = some (.float .f32 a) := (hb.cell (p := ⟨w.heap.size, 0, none⟩) (by simp; omega)).trans c0
    have e1 : w1.cell? ⟨w.heap.size, 1, none⟩ = some (.float .f32 b) := (hb.cell (p := ⟨w.heap.size, 1, none⟩) (by simp; omega)).trans c1
    simp only [fill, Act.put, List.zip_cons_cons, List.zip_nil_right, List.zip_nil_left, List.foldl_cons, List.foldl_nil, List.setIfInBounds_toArray, List.set_cons_zero, List.set_cons_succ] at hK ⊢
    refine ⟨?_⟩
    go_simp
    exact hK _ _ (Below.refl _ _) rfl
  · intro vs hl
    obtain ⟨v0, v1, v2, v3, v4, v5, rfl⟩ := len6 hl
    clear hl
    intro w1 hb hd K hK
    obtain ⟨h0, _⟩ := hd
    obtain rfl : v0 = .agg #[.float .f32 a, .float .f32 b] := h0
    simp only [fill, Act.put, List.zip_cons_cons, List.zip_nil_right, List.zip_nil_left, List.foldl_cons, List.foldl_nil, List.setIfInBounds_toArray, List.set_cons_zero, List.set_cons_succ] at hK ⊢
    refine ⟨?_⟩
    go_simp
    refine (toSmall_any _ _ _).mono ?_
    rintro e w2 ⟨rfl, hb2⟩
    exact hK _ _ hb2 rfl
  · intro vs hl
    obtain ⟨v0, v1, v2, v3, v4, v5, rfl⟩ := len6 hl
    clear hl
    intro w1 hb hd K hK
    have e2 : w1.cell? ⟨w.heap.size + 1, 0, none⟩ = some (.float .f32 c) := (hb.cell (p := ⟨w.heap.size + 1, 0, none⟩) (by simp; omega)).trans c2
    have e3 : w1.cell? ⟨w.heap.size + 1, 1, none⟩ = some (.float .f32 d) := (hb.cell (p := ⟨w.heap.size + 1, 1, none⟩) (by simp; omega)).trans c3
    simp only [fill, Act.put, List.zip_cons_cons, List.zip_nil_right, List.zip_nil_left, List.foldl_cons, List.foldl_nil, List.setIfInBounds_toArray, List.set_cons_zero, List.set_cons_succ] at hK ⊢
    refine ⟨?_⟩
    go_simp
    exact hK _ _ (Below.refl _ _) rfl
  · intro vs hl
    obtain ⟨v0, v1, v2, v3, v4, v5, rfl⟩ := len6 hl
    clear hl
    intro w1 hb hd K hK
    obtain ⟨h2, _⟩ := hd
    obtain rfl : v2 = .agg #[.float .f32 c, .float .f32 d] := h2
    simp only [fill, Act.put, List.zip_cons_cons, List.zip_nil_right, List.zip_nil_left, List.foldl_cons, List.foldl_nil, List.setIfInBounds_toArray, List.set_cons_zero, List.set_cons_succ] at hK ⊢
    refine ⟨?_⟩
    go_simp
    refine (toSmall_any _ _ _).mono ?_
    rintro e w2 ⟨rfl, hb2⟩
    exact hK _ _ hb2 rfl
  · intro vs hl
    obtain ⟨v0, v1, v2, v3, v4, v5, rfl⟩ := len6 hl
    clear hl
    intro w1 hb hd K hK
    obtain ⟨h1, h3, _⟩ := hd
    obtain rfl : v1 = .agg #[.float .f32 a, .float .f32 b] := h1
    obtain rfl : v3 = .agg #[.float .f32 c, .float .f32 d] := h3
    simp only [fill, Act.put, List.zip_cons_cons, List.zip_nil_right, List.zip_nil_left, List.foldl_cons, List.foldl_nil, List.setIfInBounds_toArray, List.set_cons_zero, List.set_cons_succ] at hK ⊢
    refine ⟨?_⟩
    go_simp
    refine (AddSmall_spec _ _ _ _ _).mono ?_
    rintro e w2 ⟨r, i, rfl, hr, hi, hb2⟩
    exact hK _ _ hb2 ⟨r, i, rfl, hr, hi⟩
  · intro vs hl
    obtain ⟨v0, v1, v2, v3, v4, v5, rfl⟩ := len6 hl
    clear hl
    intro w1 hb hd K hK
    simp only [fill, Act.put, List.zip_cons_cons, List.zip_nil_right, List.zip_nil_left, List.foldl_cons, List.foldl_nil, List.setIfInBounds_toArray, List.set_cons_zero, List.set_cons_succ] at hK ⊢
    refine ⟨?_⟩
    go_simp
    exact hK _ _ (below_al (Below.refl _ _) _) ⟨_, rfl, hb.size, by simp, heap_alloc_new _ _⟩
  · unfold LastOk
    intro vs hl
    obtain ⟨v0, v1, v2, v3, v4, v5, rfl⟩ := len6 hl
    clear hl
    intro w1 hb hd K hK
    obtain ⟨h0, h1, h2, h3, h4, h5, _⟩ := hd
    obtain rfl : v0 = .agg #[.float .f32 a, .float .f32 b] := h0
    obtain rfl : v1 = .agg #[.float .f32 a, .float .f32 b] := h1
    obtain rfl : v2 = .agg #[.float .f32 c, .float .f32 d] := h2
    obtain rfl : v3 = .agg #[.float .f32 c, .float .f32 d] := h3
    obtain ⟨r5, i5, rfl, hr5, hi5⟩ := h4
    obtain ⟨g5, rfl, hg1, hg2, hg3⟩ := h5
    have hbl : Below w.heap.size w w1 := Below.trans (show Below w.heap.size w W0.drew from below_drewN hb0 1) (hb.mono hb0.size)
    have hl1 : w.heap.size + 1 < w1.heap.size := Nat.lt_of_lt_of_le l1 hb.size
    have hgg : w.heap.size + 1 < g5 := Nat.lt_of_lt_of_le l1 hg1
    have e0 : w1.cell? ⟨w.heap.size, 0, none⟩ = some (.float .f32 a) := (hb.cell (p := ⟨w.heap.size, 0, none⟩) (by simp; omega)).trans c0
    have e1 : w1.cell? ⟨w.heap.size, 1, none⟩ = some (.float .f32 b) := (hb.cell (p := ⟨w.heap.size, 1, none⟩) (by simp; omega)).trans c1
    have e2 : w1.cell? ⟨w.heap.size + 1, 0, none⟩ = some (.float .f32 c) := (hb.cell (p := ⟨w.heap.size + 1, 0, none⟩) (by simp; omega)).trans c2
    have e3 : w1.cell? ⟨w.heap.size + 1, 1, none⟩ = some (.float .f32 d) := (hb.cell (p := ⟨w.heap.size + 1, 1, none⟩) (by simp; omega)).trans c3
    have cg0 : w1.cell? ⟨g5, 0, none⟩ = some (.float .f32 0) := blk_cell hg3 0
    have cg1 : w1.cell? ⟨g5, 1, none⟩ = some (.float .f32 0) := blk_cell hg3 1
    have fg0 : w1.frozen? ⟨g5, 0, none⟩ = false := blk_free hg3 0
    have fg1 : w1.frozen? ⟨g5, 1, none⟩ = false := blk_free hg3 1
    have k0 : ((w1.setCell ⟨g5, 0, none⟩ (.float .f32 r5)).setCell ⟨g5, 1, none⟩ (.float .f32 i5)).cell? ⟨w.heap.size, 0, none⟩ = some (.float .f32 a) := cell_st (by simp; omega) (cell_st (by simp; omega) e0)
    have k1 : ((w1.setCell ⟨g5, 0, none⟩ (.float .f32 r5)).setCell ⟨g5, 1, none⟩ (.float .f32 i5)).cell? ⟨w.heap.size, 1, none⟩ = some (.float .f32 b) := cell_st (by simp; omega) (cell_st (by simp; omega) e1)
    have k2 : ((w1.setCell ⟨g5, 0, none⟩ (.float .f32 r5)).setCell ⟨g5, 1, none⟩ (.float .f32 i5)).cell? ⟨w.heap.size + 1, 0, none⟩ = some (.float .f32 c) := cell_st (by simp; omega) (cell_st (by simp; omega) e2)
    have k3 : ((w1.setCell ⟨g5, 0, none⟩ (.float .f32 r5)).setCell ⟨g5, 1, none⟩ (.float .f32 i5)).cell? ⟨w.heap.size + 1, 1, none⟩ = some (.float .f32 d) := cell_st (by simp; omega) (cell_st (by simp; omega) e3)
    have yg50 : ((w1.setCell ⟨g5, 0, none⟩ (.float .f32 r5)).setCell ⟨g5, 1, none⟩ (.float .f32 i5)).cell? ⟨g5, 0, none⟩ = some (.float .f32 r5) := by
      rw [World.cell?_setCell_other _ _ _ _ (by simp), World.cell?_setCell_same _ _ _ cg0]
    have yg51 : ((w1.setCell ⟨g5, 0, none⟩ (.float .f32 r5)).setCell ⟨g5, 1, none⟩ (.float .f32 i5)).cell? ⟨g5, 1, none⟩ = some (.float .f32 i5) := World.cell?_setCell_same _ _ _ (u := .float .f32 0) (by rw [World.cell?_setCell_other _ _ _ _ (by simp)]; exact cg1)
    have sg5 : g5 < ((w1.setCell ⟨g5, 0, none⟩ (.float .f32 r5)).setCell ⟨g5, 1, none⟩ (.float .f32 i5)).heap.size := by simpa using hg2
    have l1' : w.heap.size + 1 < ((w1.setCell ⟨g5, 0, none⟩ (.float .f32 r5)).setCell ⟨g5, 1, none⟩ (.float .f32 i5)).heap.size := by simpa using hl1
    have hb0' : Below w.heap.size w ((w1.setCell ⟨g5, 0, none⟩ (.float .f32 r5)).setCell ⟨g5, 1, none⟩ (.float .f32 i5)) := below_st (below_st hbl (by simp; omega) _) (by simp; omega) _
    simp only [fill, Act.put, List.zip_cons_cons, List.zip_nil_right, List.zip_nil_left, List.foldl_cons, List.foldl_nil, List.setIfInBounds_toArray, List.set_cons_zero, List.set_cons_succ] at hK ⊢
    refine ⟨?_⟩
    go_simp
    refine hK _ _ ?_
    clear hK
    generalize ((w1.setCell ⟨g5, 0, none⟩ (.float .f32 r5)).setCell ⟨g5, 1, none⟩ (.float .f32 i5)) = W1 at k0 k1 k2 k3  yg50 yg51 sg5 l1' hb0' ⊢
    clear e0 e1 e2 e3 cg0 cg1 fg0 fg1 hg3 hg2 hg1 hl1 hbl hb c0 c1 c2 c3 l1 hb0
    have c0 := k0
    have c1 := k1
    have c2 := k2
    have c3 := k3
    have l1 := l1'
    have hb0 := hb0'
    clear k0 k1 k2 k3 l1' hb0'
    go_upto_region 2 with fail
    refine region_list (by kernel_rfl) [12, 13, 14, 15, 16, 6] [undef, undef, undef, undef, undef, undef] [fun v _ => v = .agg #[.float .f32 a, .float .f32 b], fun v _ => v = .agg #[.float .f32 a, .float .f32 b], fun v _ => v = .agg #[.float .f32 c, .float .f32 d], fun v _ => v = .agg #[.float .f32 c, .float .f32 d],
        fun v _ => ∃ r i : Nat, v = .agg #[.float .f32 r, .float .f32 i] ∧ Same .f32 r (fP .add .f32 a c) ∧ Same .f32 i (fP .add .f32 b d),
        fun v w' => ∃ g : Nat, v = .pointer (some ⟨g, 0, none⟩) ∧ W1.heap.size ≤ g ∧ g < w'.heap.size ∧ w'.heap[g]? = some (.cells #[.float .f32 0, .float .f32 0] 35 (0, 0))] (by kernel_rfl) rfl rfl
      ⟨fun _ _ _ h _ => h, fun _ _ _ h _ => h, fun _ _ _ h _ => h, fun _ _ _ h _ => h, fun _ _ _ h _ => h, fun _ _ _ ⟨g, h1, h2, h3, h4⟩ hb => ⟨g, h1, h2, Nat.lt_of_lt_of_le h3 hb.size, (hb.block g h3).trans h4⟩, trivial⟩ (steps_cons ?_ (steps_cons ?_ (steps_cons ?_ (steps_cons ?_ (steps_cons ?_ (steps_cons ?_ (steps_one ?_)))))))
    · intro vs hl
      obtain ⟨v0, v1, v2, v3, v4, v5, rfl⟩ := len6 hl
      clear hl
      intro w1 hb hd K hK
      have e0 : w1.cell? ⟨w.heap.size, 0, none⟩ = some (.float .f32 a) := (hb.cell (p := ⟨w.heap.size, 0, none⟩) (by simp; omega)).trans c0
      have e1 : w1.cell? ⟨w.heap.size, 1, none⟩ = some (.float .f32 b) := (hb.cell (p := ⟨w.heap.size, 1, none⟩) (by simp; omega)).trans c1
      simp only [fill, Act.put, List.zip_cons_cons, List.zip_nil_right, List.zip_nil_left, List.foldl_cons, List.foldl_nil, List.setIfInBounds_toArray, List.set_cons_zero, List.set_cons_succ] at hK ⊢
      refine ⟨?_⟩
      go_simp
      exact hK _ _ (Below.refl _ _) rfl
    · intro vs hl
      obtain ⟨v0, v1, v2, v3, v4, v5, rfl⟩ := len6 hl
      clear hl
      intro w1 hb hd K hK
      obtain ⟨h0, _⟩ := hd
      obtain rfl : v0 = .agg #[.float .f32 a, .float .f32 b] := h0
      simp only [fill, Act.put, List.zip_cons_cons, List.zip_nil_right, List.zip_nil_left, List.foldl_cons, List.foldl_nil, List.setIfInBounds_toArray, List.set_cons_zero, List.set_cons_succ] at hK ⊢
      refine ⟨?_⟩
      go_simp
      refine (toSmall_any _ _ _).mono ?_
      rintro e w2 ⟨rfl, hb2⟩
      exact hK _ _ hb2 rfl
    · intro vs hl
      obtain ⟨v0, v1, v2, v3, v4, v5, rfl⟩ := len6 hl
      clear hl
      intro w1 hb hd K hK
      have e2 : w1.cell? ⟨w.heap.size + 1, 0, none⟩ = some (.float .f32 c) := (hb.cell (p := ⟨w.heap.size + 1, 0, none⟩) (by simp; omega)).trans c2
      have e3 : w1.cell? ⟨w.heap.size + 1, 1, none⟩ = some (.float .f32 d) := (hb.cell (p := ⟨w.heap.size + 1, 1, none⟩) (by simp; omega)).trans c3
      simp only [fill, Act.put, List.zip_cons_cons, List.zip_nil_right, List.zip_nil_left, List.foldl_cons, List.foldl_nil, List.setIfInBounds_toArray, List.set_cons_zero, List.set_cons_succ] at hK ⊢
      refine ⟨?_⟩
      go_simp
      exact hK _ _ (Below.refl _ _) rfl
    · intro vs hl
      obtain ⟨v0, v1, v2, v3, v4, v5, rfl⟩ := len6 hl
      clear hl
      intro w1 hb hd K hK
      obtain ⟨h2, _⟩ := hd
      obtain rfl : v2 = .agg #[.float .f32 c, .float .f32 d] := h2
      simp only [fill, Act.put, List.zip_cons_cons, List.zip_nil_right, List.zip_nil_left, List.foldl_cons, List.foldl_nil, List.setIfInBounds_toArray, List.set_cons_zero, List.set_cons_succ] at hK ⊢
      refine ⟨?_⟩
      go_simp
      refine (toSmall_any _ _ _).mono ?_
      rintro e w2 ⟨rfl, hb2⟩
      exact hK _ _ hb2 rfl
    · intro vs hl
      obtain ⟨v0, v1, v2, v3, v4, v5, rfl⟩ := len6 hl
      clear hl
      intro w1 hb hd K hK
      obtain ⟨h1, h3, _⟩ := hd
      obtain rfl : v1 = .agg #[.float .f32 a, .float .f32 b] := h1
      obtain rfl : v3 = .agg #[.float .f32 c, .float .f32 d] := h3
      simp only [fill, Act.put, List.zip_cons_cons, List.zip_nil_right, List.zip_nil_left, List.foldl_cons, List.foldl_nil, List.setIfInBounds_toArray, List.set_cons_zero, List.set_cons_succ] at hK ⊢
      refine ⟨?_⟩
      go_simp
      refine (AddSmall_impl _ _ _ _ _).mono ?_
      rintro e w2 ⟨r, i, rfl, hr, hi, hb2⟩
      exact hK _ _ hb2 ⟨r, i, rfl, hr, hi⟩
    · intro vs hl
      obtain ⟨v0, v1, v2, v3, v4, v5, rfl⟩ := len6 hl
      clear hl
      intro w1 hb hd K hK
      simp only [fill, Act.put, List.zip_cons_cons, List.zip_nil_right, List.zip_nil_left, List.foldl_cons, List.foldl_nil, List.setIfInBounds_toArray, List.set_cons_zero, List.set_cons_succ] at hK ⊢
      refine ⟨?_⟩
      go_simp
      exact hK _ _ (below_al (Below.refl _ _) _) ⟨_, rfl, hb.size, by simp, heap_alloc_new _ _⟩
    · unfold LastOk
      intro vs hl
      obtain ⟨v0, v1, v2, v3, v4, v5, rfl⟩ := len6 hl
      clear hl
      intro w1 hb hd K hK
      obtain ⟨h0, h1, h2, h3, h4, h5, _⟩ := hd
      obtain rfl : v0 = .agg #[.float .f32 a, .float .f32 b] := h0
      obtain rfl : v1 = .agg #[.float .f32 a, .float .f32 b] := h1
      obtain rfl : v2 = .agg #[.float .f32 c, .float .f32 d] := h2
      obtain rfl : v3 = .agg #[.float .f32 c, .float .f32 d] := h3
      obtain ⟨r6, i6, rfl, hr6, hi6⟩ := h4
      obtain ⟨g6, rfl, hg1, hg2, hg3⟩ := h5
      have hbl : Below w.heap.size w w1 := Below.trans (show Below w.heap.size w W1.drew from below_drewN hb0 1) (hb.mono hb0.size)
      have hl1 : w.heap.size + 1 < w1.heap.size := Nat.lt_of_lt_of_le l1 hb.size
      have hgg : w.heap.size + 1 < g6 := Nat.lt_of_lt_of_le l1 hg1
      have e0 : w1.cell? ⟨w.heap.size, 0, none⟩ = some (.float .f32 a) := (hb.cell (p := ⟨w.heap.size, 0, none⟩) (by simp; omega)).trans c0
      have e1 : w1.cell? ⟨w.heap.size, 1, none⟩ = some (.float .f32 b) := (hb.cell (p := ⟨w.heap.size, 1, none⟩) (by simp; omega)).trans c1
      have e2 : w1.cell? ⟨w.heap.size + 1, 0, none⟩ = some (.float .f32 c) := (hb.cell (p := ⟨w.heap.size + 1, 0, none⟩) (by simp; omega)).trans c2
      have e3 : w1.cell? ⟨w.heap.size + 1, 1, none⟩ = some (.float .f32 d) := (hb.cell (p := ⟨w.heap.size + 1, 1, none⟩) (by simp; omega)).trans c3
      have xg50 : w1.cell? ⟨g5, 0, none⟩ = some (.float .f32 r5) := (hb.cell (p := ⟨g5, 0, none⟩) (by simp; omega)).trans yg50
      have xg51 : w1.cell? ⟨g5, 1, none⟩ = some (.float .f32 i5) := (hb.cell (p := ⟨g5, 1, none⟩) (by simp; omega)).trans yg51
      have zg5 : g5 < w1.heap.size := Nat.lt_of_lt_of_le sg5 hb.size
      have neg5 : g5 < g6 := Nat.lt_of_lt_of_le sg5 hg1
      have cg0 : w1.cell? ⟨g6, 0, none⟩ = some (.float .f32 0) := blk_cell hg3 0
      have cg1 : w1.cell? ⟨g6, 1, none⟩ = some (.float .f32 0) := blk_cell hg3 1
      have fg0 : w1.frozen? ⟨g6, 0, none⟩ = false := blk_free hg3 0
      have fg1 : w1.frozen? ⟨g6, 1, none⟩ = false := blk_free hg3 1
      have k0 : ((w1.setCell ⟨g6, 0, none⟩ (.float .f32 r6)).setCell ⟨g6, 1, none⟩ (.float .f32 i6)).cell? ⟨w.heap.size, 0, none⟩ = some (.float .f32 a) := cell_st (by simp; omega) (cell_st (by simp; omega) e0)
      have k1 : ((w1.setCell ⟨g6, 0, none⟩ (.float .f32 r6)).setCell ⟨g6, 1, none⟩ (.float .f32 i6)).cell? ⟨w.heap.size, 1, none⟩ = some (.float .f32 b) := cell_st (by simp; omega) (cell_st (by simp; omega) e1)
      have k2 : ((w1.setCell ⟨g6, 0, none⟩ (.float .f32 r6)).setCell ⟨g6, 1, none⟩ (.float .f32 i6)).cell? ⟨w.heap.size + 1, 0, none⟩ = some (.float .f32 c) := cell_st (by simp; omega) (cell_st (by simp; omega) e2)
      have k3 : ((w1.setCell ⟨g6, 0, none⟩ (.float .f32 r6)).setCell ⟨g6, 1, none⟩ (.float .f32 i6)).cell? ⟨w.heap.size + 1, 1, none⟩ = some (.float .f32 d) := cell_st (by simp; omega) (cell_st (by simp; omega) e3)
      have ug50 : ((w1.setCell ⟨g6, 0, none⟩ (.float .f32 r6)).setCell ⟨g6, 1, none⟩ (.float .f32 i6)).cell? ⟨g5, 0, none⟩ = some (.float .f32 r5) := cell_st (by simp; omega) (cell_st (by simp; omega) xg50)
      have ug51 : ((w1.setCell ⟨g6, 0, none⟩ (.float .f32 r6)).setCell ⟨g6, 1, none⟩ (.float .f32 i6)).cell? ⟨g5, 1, none⟩ = some (.float .f32 i5) := cell_st (by simp; omega) (cell_st (by simp; omega) xg51)
      have tg5 : g5 < ((w1.setCell ⟨g6, 0, none⟩ (.float .f32 r6)).setCell ⟨g6, 1, none⟩ (.float .f32 i6)).heap.size := by simpa using zg5
      have yg60 : ((w1.setCell ⟨g6, 0, none⟩ (.float .f32 r6)).setCell ⟨g6, 1, none⟩ (.float .f32 i6)).cell? ⟨g6, 0, none⟩ = some (.float .f32 r6) := by
        rw [World.cell?_setCell_other _ _ _ _ (by simp), World.cell?_setCell_same _ _ _ cg0]
      have yg61 : ((w1.setCell ⟨g6, 0, none⟩ (.float .f32 r6)).setCell ⟨g6, 1, none⟩ (.float .f32 i6)).cell? ⟨g6, 1, none⟩ = some (.float .f32 i6) := World.cell?_setCell_same _ _ _ (u := .float .f32 0) (by rw [World.cell?_setCell_other _ _ _ _ (by simp)]; exact cg1)
      have sg6 : g6 < ((w1.setCell ⟨g6, 0, none⟩ (.float .f32 r6)).setCell ⟨g6, 1, none⟩ (.float .f32 i6)).heap.size := by simpa using hg2
      have l1' : w.heap.size + 1 < ((w1.setCell ⟨g6, 0, none⟩ (.float .f32 r6)).setCell ⟨g6, 1, none⟩ (.float .f32 i6)).heap.size := by simpa using hl1
      have hb0' : Below w.heap.size w ((w1.setCell ⟨g6, 0, none⟩ (.float .f32 r6)).setCell ⟨g6, 1, none⟩ (.float .f32 i6)) := below_st (below_st hbl (by simp; omega) _) (by simp; omega) _
      simp only [fill, Act.put, List.zip_cons_cons, List.zip_nil_right, List.zip_nil_left, List.foldl_cons, List.foldl_nil, List.setIfInBounds_toArray, List.set_cons_zero, List.set_cons_succ] at hK ⊢
      refine ⟨?_⟩
      go_simp
      refine hK _ _ ?_
      clear hK
      generalize ((w1.setCell ⟨g6, 0, none⟩ (.float .f32 r6)).setCell ⟨g6, 1, none⟩ (.float .f32 i6)) = W2 at k0 k1 k2 k3 ug50 ug51 tg5 yg60 yg61 sg6 l1' hb0' ⊢
      clear e0 e1 e2 e3 cg0 cg1 fg0 fg1 hg3 hg2 hg1 hl1 hbl hb c0 c1 c2 c3 l1 hb0
      go_wp2_with (go_at_call 24; (with_reducible refine (eqSmall_any (hr6.trans hr5.symm) (hi6.trans hi5.symm) _).mono ?_); rintro e w9 ⟨rfl, hb9⟩)
      go_ret
      exact ⟨rfl, hb0'.trans (hb9.mono hb0'.size)⟩

set_option maxHeartbeats 8000000 in
theorem law_LessSmall (a b c d : Nat) (w : World) : Calls Try.prog 8 #[.agg #[.float .f32 a, .float .f32 b], .agg #[.float .f32 c, .float .f32 d]] w fun e w' => e = .returned (.bool true) ∧ Below w.heap.size w w' := by
  go_enter Try.func8, Try.ntmps8
  go_upto_region 1 with fail
  have hb0 := below_al (below_al (Below.refl w.heap.size w) (.cells #[.float .f32 a, .float .f32 b] 34)) (.cells #[.float .f32 c, .float .f32 d] 34)
  have c0 : ((w.alloc (.cells #[.float .f32 a, .float .f32 b] 34)).alloc (.cells #[.float .f32 c, .float .f32 d] 34)).cell? ⟨w.heap.size, 0, none⟩ = some (.float .f32 a) := by go_simp
  have c1 : ((w.alloc (.cells #[.float .f32 a, .float .f32 b] 34)).alloc (.cells #[.float .f32 c, .float .f32 d] 34)).cell? ⟨w.heap.size, 1, none⟩ = some (.float .f32 b) := by go_simp
  have c2 : ((w.alloc (.cells #[.float .f32 a, .float .f32 b] 34)).alloc (.cells #[.float .f32 c, .float .f32 d] 34)).cell? ⟨w.heap.size + 1, 0, none⟩ = some (.float .f32 c) := by go_simp
  have c3 : ((w.alloc (.cells #[.float .f32 a, .float .f32 b] 34)).alloc (.cells #[.float .f32 c, .float .f32 d] 34)).cell? ⟨w.heap.size + 1, 1, none⟩ = some (.float .f32 d) := by go_simp
  have l1 : w.heap.size + 1 < ((w.alloc (.cells #[.float .f32 a, .float .f32 b] 34)).alloc (.cells #[.float .f32 c, .float .f32 d] 34)).heap.size := by simp
  generalize (w.alloc (.cells #[.float .f32 a, .float .f32 b] 34)).alloc (.cells #[.float .f32 c, .float .f32 d] 34) = W0 at hb0 c0 c1 c2 c3 l1 ⊢
  refine region_list (by kernel_rfl) [7, 8, 9, 10, 11, 5] [undef, undef, undef, undef, undef, undef] [fun v _ => v = .agg #[.float .f32 a, .float .f32 b], fun v _ => v = .agg #[.float .f32 a, .float .f32 b], fun v _ => v = .agg #[.float .f32 c, .float .f32 d], fun v _ => v = .agg #[.float .f32 c, .float .f32 d],
      fun v _ => ∃ r i : Nat, v = .agg #[.float .f32 r, .float .f32 i] ∧ Same .f32 r (fP .sub .f32 a c) ∧ Same .f32 i (fP .sub .f32 b d),
      fun v w' => ∃ g : Nat, v = .pointer (some ⟨g, 0, none⟩) ∧ W0.heap.size ≤ g ∧ g < w'.heap.size ∧ w'.heap[g]? = some (.cells #[.float .f32 0, .float .f32 0] 35 (0, 0))] (by kernel_rfl) rfl rfl
    ⟨fun _ _ _ h _ => h, fun _ _ _ h _ => h, fun _ _ _ h _ => h, fun _ _ _ h _ => h, fun _ _ _ h _ => h, fun _ _ _ ⟨g, h1, h2, h3, h4⟩ hb => ⟨g, h1, h2, Nat.lt_of_lt_of_le h3 hb.size, (hb.block g h3).trans h4⟩, trivial⟩ (steps_cons ?_ (steps_cons ?_ (steps_cons ?_ (steps_cons ?_ (steps_cons ?_ (steps_cons ?_ (steps_one ?_)))))))
  · intro vs hl
    obtain ⟨v0, v1, v2, v3, v4, v5, rfl⟩ := len6 hl
    clear hl
    intro w1 hb hd K hK
    have e0 : w1.cell? ⟨w.heap.size, 0, none⟩ = some (.float .f32 a) := (hb.cell (p := ⟨w.heap.size, 0, none⟩) (by simp; omega)).trans c0
    have e1 : w1.cell? ⟨w.heap.size, 1, none⟩ = some (.float .f32 b) := (hb.cell (p := ⟨w.heap.size, 1, none⟩) (by simp; omega)).trans c1
    simp only [fill, Act.put, List.zip_cons_cons, List.zip_nil_right, List.zip_nil_left, List.foldl_cons, List.foldl_nil, List.setIfInBounds_toArray, List.set_cons_zero, List.set_cons_succ] at hK ⊢
    refine ⟨?_⟩
    go_simp
    exact hK _ _ (Below.refl _ _) rfl
  · intro vs hl
    obtain ⟨v0, v1, v2, v3, v4, v5, rfl⟩ := len6 hl
    clear hl
    intro w1 hb hd K hK
    obtain ⟨h0, _⟩ := hd
    obtain rfl : v0 = .agg #[.float .f32 a, .float .f32 b] := h0
    simp only [fill, Act.put, List.zip_cons_cons, List.zip_nil_right, List.zip_nil_left, List.foldl_cons, List.foldl_nil, List.setIfInBounds_toArray, List.set_cons_zero, List.set_cons_succ] at hK ⊢
    refine ⟨?_⟩
    go_simp
    refine (toSmall_any _ _ _).mono ?_
    rintro e w2 ⟨rfl, hb2⟩
    exact hK _ _ hb2 rfl
  · intro vs hl
    obtain ⟨v0, v1, v2, v3, v4, v5, rfl⟩ := len6 hl
    clear hl
    intro w1 hb hd K hK
    have e2 : w1.cell? ⟨w.heap.size + 1, 0, none⟩ = some (.float .f32 c) := (hb.cell (p := ⟨w.heap.size + 1, 0, none⟩) (by simp; omega)).trans c2
    have e3 : w1.cell? ⟨w.heap.size + 1, 1, none⟩ = some (.float .f32 d) := (hb.cell (p := ⟨w.heap.size + 1, 1, none⟩) (by simp; omega)).trans c3
    simp only [fill, Act.put, List.zip_cons_cons, List.zip_nil_right, List.zip_nil_left, List.foldl_cons, List.foldl_nil, List.setIfInBounds_toArray, List.set_cons_zero, List.set_cons_succ] at hK ⊢
    refine ⟨?_⟩
    go_simp
    exact hK _ _ (Below.refl _ _) rfl
  · intro vs hl
    obtain ⟨v0, v1, v2, v3, v4, v5, rfl⟩ := len6 hl
    clear hl
    intro w1 hb hd K hK
    obtain ⟨h2, _⟩ := hd
    obtain rfl : v2 = .agg #[.float .f32 c, .float .f32 d] := h2
    simp only [fill, Act.put, List.zip_cons_cons, List.zip_nil_right, List.zip_nil_left, List.foldl_cons, List.foldl_nil, List.setIfInBounds_toArray, List.set_cons_zero, List.set_cons_succ] at hK ⊢
    refine ⟨?_⟩
    go_simp
    refine (toSmall_any _ _ _).mono ?_
    rintro e w2 ⟨rfl, hb2⟩
    exact hK _ _ hb2 rfl
  · intro vs hl
    obtain ⟨v0, v1, v2, v3, v4, v5, rfl⟩ := len6 hl
    clear hl
    intro w1 hb hd K hK
    obtain ⟨h1, h3, _⟩ := hd
    obtain rfl : v1 = .agg #[.float .f32 a, .float .f32 b] := h1
    obtain rfl : v3 = .agg #[.float .f32 c, .float .f32 d] := h3
    simp only [fill, Act.put, List.zip_cons_cons, List.zip_nil_right, List.zip_nil_left, List.foldl_cons, List.foldl_nil, List.setIfInBounds_toArray, List.set_cons_zero, List.set_cons_succ] at hK ⊢
    refine ⟨?_⟩
    go_simp
    refine (LessSmall_spec _ _ _ _ _).mono ?_
    rintro e w2 ⟨r, i, rfl, hr, hi, hb2⟩
    exact hK _ _ hb2 ⟨r, i, rfl, hr, hi⟩
  · intro vs hl
    obtain ⟨v0, v1, v2, v3, v4, v5, rfl⟩ := len6 hl
    clear hl
    intro w1 hb hd K hK
    simp only [fill, Act.put, List.zip_cons_cons, List.zip_nil_right, List.zip_nil_left, List.foldl_cons, List.foldl_nil, List.setIfInBounds_toArray, List.set_cons_zero, List.set_cons_succ] at hK ⊢
    refine ⟨?_⟩
    go_simp
    exact hK _ _ (below_al (Below.refl _ _) _) ⟨_, rfl, hb.size, by simp, heap_alloc_new _ _⟩
  · unfold LastOk
    intro vs hl
    obtain ⟨v0, v1, v2, v3, v4, v5, rfl⟩ := len6 hl
    clear hl
    intro w1 hb hd K hK
    obtain ⟨h0, h1, h2, h3, h4, h5, _⟩ := hd
    obtain rfl : v0 = .agg #[.float .f32 a, .float .f32 b] := h0
    obtain rfl : v1 = .agg #[.float .f32 a, .float .f32 b] := h1
    obtain rfl : v2 = .agg #[.float .f32 c, .float .f32 d] := h2
    obtain rfl : v3 = .agg #[.float .f32 c, .float .f32 d] := h3
    obtain ⟨r5, i5, rfl, hr5, hi5⟩ := h4
    obtain ⟨g5, rfl, hg1, hg2, hg3⟩ := h5
    have hbl : Below w.heap.size w w1 := Below.trans (show Below w.heap.size w W0.drew from below_drewN hb0 1) (hb.mono hb0.size)
    have hl1 : w.heap.size + 1 < w1.heap.size := Nat.lt_of_lt_of_le l1 hb.size
    have hgg : w.heap.size + 1 < g5 := Nat.lt_of_lt_of_le l1 hg1
    have e0 : w1.cell? ⟨w.heap.size, 0, none⟩ = some (.float .f32 a) := (hb.cell (p := ⟨w.heap.size, 0, none⟩) (by simp; omega)).trans c0
    have e1 : w1.cell? ⟨w.heap.size, 1, none⟩ = some (.float .f32 b) := (hb.cell (p := ⟨w.heap.size, 1, none⟩) (by simp; omega)).trans c1
    have e2 : w1.cell? ⟨w.heap.size + 1, 0, none⟩ = some (.float .f32 c) := (hb.cell (p := ⟨w.heap.size + 1, 0, none⟩) (by simp; omega)).trans c2
    have e3 : w1.cell? ⟨w.heap.size + 1, 1, none⟩ = some (.float .f32 d) := (hb.cell (p := ⟨w.heap.size + 1, 1, none⟩) (by simp; omega)).trans c3
    have cg0 : w1.cell? ⟨g5, 0, none⟩ = some (.float .f32 0) := blk_cell hg3 0
    have cg1 : w1.cell? ⟨g5, 1, none⟩ = some (.float .f32 0) := blk_cell hg3 1
    have fg0 : w1.frozen? ⟨g5, 0, none⟩ = false := blk_free hg3 0
    have fg1 : w1.frozen? ⟨g5, 1, none⟩ = false := blk_free hg3 1
    have k0 : ((w1.setCell ⟨g5, 0, none⟩ (.float .f32 r5)).setCell ⟨g5, 1, none⟩ (.float .f32 i5)).cell? ⟨w.heap.size, 0, none⟩ = some (.float .f32 a) := cell_st (by simp; omega) (cell_st (by simp; omega) e0)
    have k1 : ((w1.setCell ⟨g5, 0, none⟩ (.float .f32 r5)).setCell ⟨g5, 1, none⟩ (.float .f32 i5)).cell? ⟨w.heap.size, 1, none⟩ = some (.float .f32 b) := cell_st (by simp; omega) (cell_st (by simp; omega) e1)
    have k2 : ((w1.setCell ⟨g5, 0, none⟩ (.float .f32 r5)).setCell ⟨g5, 1, none⟩ (.float .f32 i5)).cell? ⟨w.heap.size + 1, 0, none⟩ = some (.float .f32 c) := cell_st (by simp; omega) (cell_st (by simp; omega) e2)
    have k3 : ((w1.setCell ⟨g5, 0, none⟩ (.float .f32 r5)).setCell ⟨g5, 1, none⟩ (.float .f32 i5)).cell? ⟨w.heap.size + 1, 1, none⟩ = some (.float .f32 d) := cell_st (by simp; omega) (cell_st (by simp; omega) e3)
    have yg50 : ((w1.setCell ⟨g5, 0, none⟩ (.float .f32 r5)).setCell ⟨g5, 1, none⟩ (.float .f32 i5)).cell? ⟨g5, 0, none⟩ = some (.float .f32 r5) := by
      rw [World.cell?_setCell_other _ _ _ _ (by simp), World.cell?_setCell_same _ _ _ cg0]
    have yg51 : ((w1.setCell ⟨g5, 0, none⟩ (.float .f32 r5)).setCell ⟨g5, 1, none⟩ (.float .f32 i5)).cell? ⟨g5, 1, none⟩ = some (.float .f32 i5) := World.cell?_setCell_same _ _ _ (u := .float .f32 0) (by rw [World.cell?_setCell_other _ _ _ _ (by simp)]; exact cg1)
    have sg5 : g5 < ((w1.setCell ⟨g5, 0, none⟩ (.float .f32 r5)).setCell ⟨g5, 1, none⟩ (.float .f32 i5)).heap.size := by simpa using hg2
    have l1' : w.heap.size + 1 < ((w1.setCell ⟨g5, 0, none⟩ (.float .f32 r5)).setCell ⟨g5, 1, none⟩ (.float .f32 i5)).heap.size := by simpa using hl1
    have hb0' : Below w.heap.size w ((w1.setCell ⟨g5, 0, none⟩ (.float .f32 r5)).setCell ⟨g5, 1, none⟩ (.float .f32 i5)) := below_st (below_st hbl (by simp; omega) _) (by simp; omega) _
    simp only [fill, Act.put, List.zip_cons_cons, List.zip_nil_right, List.zip_nil_left, List.foldl_cons, List.foldl_nil, List.setIfInBounds_toArray, List.set_cons_zero, List.set_cons_succ] at hK ⊢
    refine ⟨?_⟩
    go_simp
    refine hK _ _ ?_
    clear hK
    generalize ((w1.setCell ⟨g5, 0, none⟩ (.float .f32 r5)).setCell ⟨g5, 1, none⟩ (.float .f32 i5)) = W1 at k0 k1 k2 k3  yg50 yg51 sg5 l1' hb0' ⊢
    clear e0 e1 e2 e3 cg0 cg1 fg0 fg1 hg3 hg2 hg1 hl1 hbl hb c0 c1 c2 c3 l1 hb0
    have c0 := k0
    have c1 := k1
    have c2 := k2
    have c3 := k3
    have l1 := l1'
    have hb0 := hb0'
    clear k0 k1 k2 k3 l1' hb0'
    go_upto_region 2 with fail
    refine region_list (by kernel_rfl) [12, 13, 14, 15, 16, 6] [undef, undef, undef, undef, undef, undef] [fun v _ => v = .agg #[.float .f32 a, .float .f32 b], fun v _ => v = .agg #[.float .f32 a, .float .f32 b], fun v _ => v = .agg #[.float .f32 c, .float .f32 d], fun v _ => v = .agg #[.float .f32 c, .float .f32 d],
        fun v _ => ∃ r i : Nat, v = .agg #[.float .f32 r, .float .f32 i] ∧ Same .f32 r (fP .sub .f32 a c) ∧ Same .f32 i (fP .sub .f32 b d),
        fun v w' => ∃ g : Nat, v = .pointer (some ⟨g, 0, none⟩) ∧ W1.heap.size ≤ g ∧ g < w'.heap.size ∧ w'.heap[g]? = some (.cells #[.float .f32 0, .float .f32 0] 35 (0, 0))] (by kernel_rfl) rfl rfl
      ⟨fun _ _ _ h _ => h, fun _ _ _ h _ => h, fun _ _ _ h _ => h, fun _ _ _ h _ => h, fun _ _ _ h _ => h, fun _ _ _ ⟨g, h1, h2, h3, h4⟩ hb => ⟨g, h1, h2, Nat.lt_of_lt_of_le h3 hb.size, (hb.block g h3).trans h4⟩, trivial⟩ (steps_cons ?_ (steps_cons ?_ (steps_cons ?_ (steps_cons ?_ (steps_cons ?_ (steps_cons ?_ (steps_one ?_)))))))
    · intro vs hl
      obtain ⟨v0, v1, v2, v3, v4, v5, rfl⟩ := len6 hl
      clear hl
      intro w1 hb hd K hK
      have e0 : w1.cell? ⟨w.heap.size, 0, none⟩ = some (.float .f32 a) := (hb.cell (p := ⟨w.heap.size, 0, none⟩) (by simp; omega)).trans c0
      have e1 : w1.cell? ⟨w.heap.size, 1, none⟩ = some (.float .f32 b) := (hb.cell (p := ⟨w.heap.size, 1, none⟩) (by simp; omega)).trans c1
      simp only [fill, Act.put, List.zip_cons_cons, List.zip_nil_right, List.zip_nil_left, List.foldl_cons, List.foldl_nil, List.setIfInBounds_toArray, List.set_cons_zero, List.set_cons_succ] at hK ⊢
      refine ⟨?_⟩
      go_simp
      exact hK _ _ (Below.refl _ _) rfl
    · intro vs hl
      obtain ⟨v0, v1, v2, v3, v4, v5, rfl⟩ := len6 hl
      clear hl
      intro w1 hb hd K hK
      obtain ⟨h0, _⟩ := hd
      obtain rfl : v0 = .agg #[.float .f32 a, .float .f32 b] := h0
      simp only [fill, Act.put, List.zip_cons_cons, List.zip_nil_right, List.zip_nil_left, List.foldl_cons, List.foldl_nil, List.setIfInBounds_toArray, List.set_cons_zero, List.set_cons_succ] at hK ⊢
      refine ⟨?_⟩
      go_simp
      refine (toSmall_any _ _ _).mono ?_
      rintro e w2 ⟨rfl, hb2⟩
      exact hK _ _ hb2 rfl
    · intro vs hl
      obtain ⟨v0, v1, v2, v3, v4, v5, rfl⟩ := len6 hl
      clear hl
      intro w1 hb hd K hK
      have e2 : w1.cell? ⟨w.heap.size + 1, 0, none⟩ = some (.float .f32 c) := (hb.cell (p := ⟨w.heap.size + 1, 0, none⟩) (by simp; omega)).trans c2
      have e3 : w1.cell? ⟨w.heap.size + 1, 1, none⟩ = some (.float .f32 d) := (hb.cell (p := ⟨w.heap.size + 1, 1, none⟩) (by simp; omega)).trans c3
      simp only [fill, Act.put, List.zip_cons_cons, List.zip_nil_right, List.zip_nil_left, List.foldl_cons, List.foldl_nil, List.setIfInBounds_toArray, List.set_cons_zero, List.set_cons_succ] at hK ⊢
      refine ⟨?_⟩
      go_simp
      exact hK _ _ (Below.refl _ _) rfl
    · intro vs hl
      obtain ⟨v0, v1, v2, v3, v4, v5, rfl⟩ := len6 hl
      clear hl
      intro w1 hb hd K hK
      obtain ⟨h2, _⟩ := hd
      obtain rfl : v2 = .agg #[.float .f32 c, .float .f32 d] := h2
      simp only [fill, Act.put, List.zip_cons_cons, List.zip_nil_right, List.zip_nil_left, List.foldl_cons, List.foldl_nil, List.setIfInBounds_toArray, List.set_cons_zero, List.set_cons_succ] at hK ⊢
      refine ⟨?_⟩
      go_simp
      refine (toSmall_any _ _ _).mono ?_
      rintro e w2 ⟨rfl, hb2⟩
      exact hK _ _ hb2 rfl
    · intro vs hl
      obtain ⟨v0, v1, v2, v3, v4, v5, rfl⟩ := len6 hl
      clear hl
      intro w1 hb hd K hK
      obtain ⟨h1, h3, _⟩ := hd
      obtain rfl : v1 = .agg #[.float .f32 a, .float .f32 b] := h1
      obtain rfl : v3 = .agg #[.float .f32 c, .float .f32 d] := h3
      simp only [fill, Act.put, List.zip_cons_cons, List.zip_nil_right, List.zip_nil_left, List.foldl_cons, List.foldl_nil, List.setIfInBounds_toArray, List.set_cons_zero, List.set_cons_succ] at hK ⊢
      refine ⟨?_⟩
      go_simp
      refine (LessSmall_impl _ _ _ _ _).mono ?_
      rintro e w2 ⟨r, i, rfl, hr, hi, hb2⟩
      exact hK _ _ hb2 ⟨r, i, rfl, hr, hi⟩
    · intro vs hl
      obtain ⟨v0, v1, v2, v3, v4, v5, rfl⟩ := len6 hl
      clear hl
      intro w1 hb hd K hK
      simp only [fill, Act.put, List.zip_cons_cons, List.zip_nil_right, List.zip_nil_left, List.foldl_cons, List.foldl_nil, List.setIfInBounds_toArray, List.set_cons_zero, List.set_cons_succ] at hK ⊢
      refine ⟨?_⟩
      go_simp
      exact hK _ _ (below_al (Below.refl _ _) _) ⟨_, rfl, hb.size, by simp, heap_alloc_new _ _⟩
    · unfold LastOk
      intro vs hl
      obtain ⟨v0, v1, v2, v3, v4, v5, rfl⟩ := len6 hl
      clear hl
      intro w1 hb hd K hK
      obtain ⟨h0, h1, h2, h3, h4, h5, _⟩ := hd
      obtain rfl : v0 = .agg #[.float .f32 a, .float .f32 b] := h0
      obtain rfl : v1 = .agg #[.float .f32 a, .float .f32 b] := h1
      obtain rfl : v2 = .agg #[.float .f32 c, .float .f32 d] := h2
      obtain rfl : v3 = .agg #[.float .f32 c, .float .f32 d] := h3
      obtain ⟨r6, i6, rfl, hr6, hi6⟩ := h4
      obtain ⟨g6, rfl, hg1, hg2, hg3⟩ := h5
      have hbl : Below w.heap.size w w1 := Below.trans (show Below w.heap.size w W1.drew from below_drewN hb0 1) (hb.mono hb0.size)
      have hl1 : w.heap.size + 1 < w1.heap.size := Nat.lt_of_lt_of_le l1 hb.size
      have hgg : w.heap.size + 1 < g6 := Nat.lt_of_lt_of_le l1 hg1
      have e0 : w1.cell? ⟨w.heap.size, 0, none⟩ = some (.float .f32 a) := (hb.cell (p := ⟨w.heap.size, 0, none⟩) (by simp; omega)).trans c0
      have e1 : w1.cell? ⟨w.heap.size, 1, none⟩ = some (.float .f32 b) := (hb.cell (p := ⟨w.heap.size, 1, none⟩) (by simp; omega)).trans c1
      have e2 : w1.cell? ⟨w.heap.size + 1, 0, none⟩ = some (.float .f32 c) := (hb.cell (p := ⟨w.heap.size + 1, 0, none⟩) (by simp; omega)).trans c2
      have e3 : w1.cell? ⟨w.heap.size + 1, 1, none⟩ = some (.float .f32 d) := (hb.cell (p := ⟨w.heap.size + 1, 1, none⟩) (by simp; omega)).trans c3
      have xg50 : w1.cell? ⟨g5, 0, none⟩ = some (.float .f32 r5) := (hb.cell (p := ⟨g5, 0, none⟩) (by simp; omega)).trans yg50
      have xg51 : w1.cell? ⟨g5, 1, none⟩ = some (.float .f32 i5) := (hb.cell (p := ⟨g5, 1, none⟩) (by simp; omega)).trans yg51
      have zg5 : g5 < w1.heap.size := Nat.lt_of_lt_of_le sg5 hb.size
      have neg5 : g5 < g6 := Nat.lt_of_lt_of_le sg5 hg1
      have cg0 : w1.cell? ⟨g6, 0, none⟩ = some (.float .f32 0) := blk_cell hg3 0
      have cg1 : w1.cell? ⟨g6, 1, none⟩ = some (.float .f32 0) := blk_cell hg3 1
      have fg0 : w1.frozen? ⟨g6, 0, none⟩ = false := blk_free hg3 0
      have fg1 : w1.frozen? ⟨g6, 1, none⟩ = false := blk_free hg3 1
      have k0 : ((w1.setCell ⟨g6, 0, none⟩ (.float .f32 r6)).setCell ⟨g6, 1, none⟩ (.float .f32 i6)).cell? ⟨w.heap.size, 0, none⟩ = some (.float .f32 a) := cell_st (by simp; omega) (cell_st (by simp; omega) e0)
      have k1 : ((w1.setCell ⟨g6, 0, none⟩ (.float .f32 r6)).setCell ⟨g6, 1, none⟩ (.float .f32 i6)).cell? ⟨w.heap.size, 1, none⟩ = some (.float .f32 b) := cell_st (by simp; omega) (cell_st (by simp; omega) e1)
      have k2 : ((w1.setCell ⟨g6, 0, none⟩ (.float .f32 r6)).setCell ⟨g6, 1, none⟩ (.float .f32 i6)).cell? ⟨w.heap.size + 1, 0, none⟩ = some (.float .f32 c) := cell_st (by simp; omega) (cell_st (by simp; omega) e2)
      have k3 : ((w1.setCell ⟨g6, 0, none⟩ (.float .f32 r6)).setCell ⟨g6, 1, none⟩ (.float .f32 i6)).cell? ⟨w.heap.size + 1, 1, none⟩ = some (.float .f32 d) := cell_st (by simp; omega) (cell_st (by simp; omega) e3)
      have ug50 : ((w1.setCell ⟨g6, 0, none⟩ (.float .f32 r6)).setCell ⟨g6, 1, none⟩ (.float .f32 i6)).cell? ⟨g5, 0, none⟩ = some (.float .f32 r5) := cell_st (by simp; omega) (cell_st (by simp; omega) xg50)
      have ug51 : ((w1.setCell ⟨g6, 0, none⟩ (.float .f32 r6)).setCell ⟨g6, 1, none⟩ (.float .f32 i6)).cell? ⟨g5, 1, none⟩ = some (.float .f32 i5) := cell_st (by simp; omega) (cell_st (by simp; omega) xg51)
      have tg5 : g5 < ((w1.setCell ⟨g6, 0, none⟩ (.float .f32 r6)).setCell ⟨g6, 1, none⟩ (.float .f32 i6)).heap.size := by simpa using zg5
      have yg60 : ((w1.setCell ⟨g6, 0, none⟩ (.float .f32 r6)).setCell ⟨g6, 1, none⟩ (.float .f32 i6)).cell? ⟨g6, 0, none⟩ = some (.float .f32 r6) := by
        rw [World.cell?_setCell_other _ _ _ _ (by simp), World.cell?_setCell_same _ _ _ cg0]
      have yg61 : ((w1.setCell ⟨g6, 0, none⟩ (.float .f32 r6)).setCell ⟨g6, 1, none⟩ (.float .f32 i6)).cell? ⟨g6, 1, none⟩ = some (.float .f32 i6) := World.cell?_setCell_same _ _ _ (u := .float .f32 0) (by rw [World.cell?_setCell_other _ _ _ _ (by simp)]; exact cg1)
      have sg6 : g6 < ((w1.setCell ⟨g6, 0, none⟩ (.float .f32 r6)).setCell ⟨g6, 1, none⟩ (.float .f32 i6)).heap.size := by simpa using hg2
      have l1' : w.heap.size + 1 < ((w1.setCell ⟨g6, 0, none⟩ (.float .f32 r6)).setCell ⟨g6, 1, none⟩ (.float .f32 i6)).heap.size := by simpa using hl1
      have hb0' : Below w.heap.size w ((w1.setCell ⟨g6, 0, none⟩ (.float .f32 r6)).setCell ⟨g6, 1, none⟩ (.float .f32 i6)) := below_st (below_st hbl (by simp; omega) _) (by simp; omega) _
      simp only [fill, Act.put, List.zip_cons_cons, List.zip_nil_right, List.zip_nil_left, List.foldl_cons, List.foldl_nil, List.setIfInBounds_toArray, List.set_cons_zero, List.set_cons_succ] at hK ⊢
      refine ⟨?_⟩
      go_simp
      refine hK _ _ ?_
      clear hK
      generalize ((w1.setCell ⟨g6, 0, none⟩ (.float .f32 r6)).setCell ⟨g6, 1, none⟩ (.float .f32 i6)) = W2 at k0 k1 k2 k3 ug50 ug51 tg5 yg60 yg61 sg6 l1' hb0' ⊢
      clear e0 e1 e2 e3 cg0 cg1 fg0 fg1 hg3 hg2 hg1 hl1 hbl hb c0 c1 c2 c3 l1 hb0
      go_wp2_with (go_at_call 24; (with_reducible refine (eqSmall_any (hr6.trans hr5.symm) (hi6.trans hi5.symm) _).mono ?_); rintro e w9 ⟨rfl, hb9⟩)
      go_ret
      exact ⟨rfl, hb0'.trans (hb9.mono hb0'.size)⟩

end Go.Proofs.Ytfbgjjmnkkgioaa.Fl
