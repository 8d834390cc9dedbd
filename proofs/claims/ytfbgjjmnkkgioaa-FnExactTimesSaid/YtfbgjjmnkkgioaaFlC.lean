/- The law of the product. -/
import Derived.Test.YtfbgjjmnkkgioaaFlT
import Derived.Deep.DeepCutAuto
namespace Go.Proofs.Ytfbgjjmnkkgioaa.Fl
open Go Go.RowKit Go.Proofs.Ytfbgjjmnkkgioaa.Reg
set_option linter.unusedVariables false
set_option linter.unusedSimpArgs false

set_option maxHeartbeats 8000000 in
theorem law_Times (a b c d : Nat) (w : World) : Calls Try.prog 10 #[.agg #[.float .f64 a, .float .f64 b], .agg #[.float .f64 c, .float .f64 d]] w fun e w' => e = .returned (.bool true) ∧ Below w.heap.size w w' := by
  go_enter Try.func10, Try.ntmps10
  go_upto_region 1 with fail
  have hb0 := below_al (below_al (Below.refl w.heap.size w) (.cells #[.float .f64 a, .float .f64 b] 25)) (.cells #[.float .f64 c, .float .f64 d] 25)
  have c0 : ((w.alloc (.cells #[.float .f64 a, .float .f64 b] 25)).alloc (.cells #[.float .f64 c, .float .f64 d] 25)).cell? ⟨w.heap.size, 0, none⟩ = some (.float .f64 a) := by go_simp
  have c1 : ((w.alloc (.cells #[.float .f64 a, .float .f64 b] 25)).alloc (.cells #[.float .f64 c, .float .f64 d] 25)).cell? ⟨w.heap.size, 1, none⟩ = some (.float .f64 b) := by go_simp
  have c2 : ((w.alloc (.cells #[.float .f64 a, .float .f64 b] 25)).alloc (.cells #[.float .f64 c, .float .f64 d] 25)).cell? ⟨w.heap.size + 1, 0, none⟩ = some (.float .f64 c) := by go_simp
  have c3 : ((w.alloc (.cells #[.float .f64 a, .float .f64 b] 25)).alloc (.cells #[.float .f64 c, .float .f64 d] 25)).cell? ⟨w.heap.size + 1, 1, none⟩ = some (.float .f64 d) := by go_simp
  have l1 : w.heap.size + 1 < ((w.alloc (.cells #[.float .f64 a, .float .f64 b] 25)).alloc (.cells #[.float .f64 c, .float .f64 d] 25)).heap.size := by simp
  generalize (w.alloc (.cells #[.float .f64 a, .float .f64 b] 25)).alloc (.cells #[.float .f64 c, .float .f64 d] 25) = W0 at hb0 c0 c1 c2 c3 l1 ⊢
  refine region_list (by kernel_rfl) [7, 8, 9, 10, 11, 5] [undef, undef, undef, undef, undef, undef] [fun v _ => v = .agg #[.float .f64 a, .float .f64 b], fun v _ => v = .agg #[.float .f64 a, .float .f64 b], fun v _ => v = .agg #[.float .f64 c, .float .f64 d], fun v _ => v = .agg #[.float .f64 c, .float .f64 d],
      fun v _ => ∃ r i : Nat, v = .agg #[.float .f64 r, .float .f64 i] ∧ Same .f64 r (fP .sub .f64 (fP .mul .f64 a c) (fP .mul .f64 b d)) ∧ Same .f64 i (fP .add .f64 (fP .mul .f64 a d) (fP .mul .f64 b c)),
      fun v w' => ∃ g : Nat, v = .pointer (some ⟨g, 0, none⟩) ∧ W0.heap.size ≤ g ∧ g < w'.heap.size ∧ w'.heap[g]? = some (.cells #[.float .f64 0, .float .f64 0] 27 (0, 0))] (by kernel_rfl) rfl rfl
    ⟨fun _ _ _ h _ => h, fun _ _ _ h _ => h, fun _ _ _ h _ => h, fun _ _ _ h _ => h, fun _ _ _ h _ => h, fun _ _ _ ⟨g, h1, h2, h3, h4⟩ hb => ⟨g, h1, h2, Nat.lt_of_lt_of_le h3 hb.size, (hb.block g h3).trans h4⟩, trivial⟩ (steps_cons ?_ (steps_cons ?_ (steps_cons ?_ (steps_cons ?_ (steps_cons ?_ (steps_cons ?_ (steps_one ?_)))))))
  · intro vs hl
    obtain ⟨v0, v1, v2, v3, v4, v5, rfl⟩ := len6 hl
    clear hl
    intro w1 hb hd K hK
    have e0 : w1.cell? ⟨w.heap.size, 0, none⟩ = some (.float .f64 a) := (hb.cell (p := ⟨w.heap.size, 0, none⟩) (by simp; omega)).trans c0
    have e1 : w1.cell? ⟨w.heap.size, 1, none⟩ = some (.float .f64 b) := (hb.cell (p := ⟨w.heap.size, 1, none⟩) (by simp; omega)).trans c1
    simp only [fill, Act.put, List.zip_cons_cons, List.zip_nil_right, List.zip_nil_left, List.foldl_cons, List.foldl_nil, List.setIfInBounds_toArray, List.set_cons_zero, List.set_cons_succ] at hK ⊢
    refine ⟨?_⟩
    go_simp
    exact hK _ _ (Below.refl _ _) rfl
  · intro vs hl
    obtain ⟨v0, v1, v2, v3, v4, v5, rfl⟩ := len6 hl
    clear hl
    intro w1 hb hd K hK
    obtain ⟨h0, _⟩ := hd
    obtain rfl : v0 = .agg #[.float .f64 a, .float .f64 b] := h0
    simp only [fill, Act.put, List.zip_cons_cons, List.zip_nil_right, List.zip_nil_left, List.foldl_cons, List.foldl_nil, List.setIfInBounds_toArray, List.set_cons_zero, List.set_cons_succ] at hK ⊢
    refine ⟨?_⟩
    go_simp
    refine (toWave_any _ _ _).mono ?_
    rintro e w2 ⟨rfl, hb2⟩
    exact hK _ _ hb2 rfl
  · intro vs hl
    obtain ⟨v0, v1, v2, v3, v4, v5, rfl⟩ := len6 hl
    clear hl
    intro w1 hb hd K hK
    have e2 : w1.cell? ⟨w.heap.size + 1, 0, none⟩ = some (.float .f64 c) := (hb.cell (p := ⟨w.heap.size + 1, 0, none⟩) (by simp; omega)).trans c2
    have e3 : w1.cell? ⟨w.heap.size + 1, 1, none⟩ = some (.float .f64 d) := (hb.cell (p := ⟨w.heap.size + 1, 1, none⟩) (by simp; omega)).trans c3
    simp only [fill, Act.put, List.zip_cons_cons, List.zip_nil_right, List.zip_nil_left, List.foldl_cons, List.foldl_nil, List.setIfInBounds_toArray, List.set_cons_zero, List.set_cons_succ] at hK ⊢
    refine ⟨?_⟩
    go_simp
    exact hK _ _ (Below.refl _ _) rfl
  · intro vs hl
    obtain ⟨v0, v1, v2, v3, v4, v5, rfl⟩ := len6 hl
    clear hl
    intro w1 hb hd K hK
    obtain ⟨h2, _⟩ := hd
    obtain rfl : v2 = .agg #[.float .f64 c, .float .f64 d] := h2
    simp only [fill, Act.put, List.zip_cons_cons, List.zip_nil_right, List.zip_nil_left, List.foldl_cons, List.foldl_nil, List.setIfInBounds_toArray, List.set_cons_zero, List.set_cons_succ] at hK ⊢
    refine ⟨?_⟩
    go_simp
    refine (toWave_any _ _ _).mono ?_
    rintro e w2 ⟨rfl, hb2⟩
    exact hK _ _ hb2 rfl
  · intro vs hl
    obtain ⟨v0, v1, v2, v3, v4, v5, rfl⟩ := len6 hl
    clear hl
    intro w1 hb hd K hK
    obtain ⟨h1, h3, _⟩ := hd
    obtain rfl : v1 = .agg #[.float .f64 a, .float .f64 b] := h1
    obtain rfl : v3 = .agg #[.float .f64 c, .float .f64 d] := h3
    simp only [fill, Act.put, List.zip_cons_cons, List.zip_nil_right, List.zip_nil_left, List.foldl_cons, List.foldl_nil, List.setIfInBounds_toArray, List.set_cons_zero, List.set_cons_succ] at hK ⊢
    refine ⟨?_⟩
    go_simp
    refine (times_spec _ _ _ _ _).mono ?_
    rintro e w2 ⟨r, i, rfl, hr, hi, hb2⟩
    exact hK _ _ hb2 ⟨r, i, rfl, hr, hi⟩
  · intro vs hl
    obtain ⟨v0, v1, v2, v3, v4, v5, rfl⟩ := len6 hl
    clear hl
    intro w1 hb hd K hK
    simp only [fill, Act.put, List.zip_cons_cons, List.zip_nil_right, List.zip_nil_left, List.foldl_cons, List.foldl_nil, List.setIfInBounds_toArray, List.set_cons_zero, List.set_cons_succ] at hK ⊢
    refine ⟨?_⟩
    go_simp
    exact hK _ _ (below_al (Below.refl _ _) _) ⟨_, rfl, hb.size, by simp, heap_alloc_new _ _⟩
  · unfold LastOk
    intro vs hl
    obtain ⟨v0, v1, v2, v3, v4, v5, rfl⟩ := len6 hl
    clear hl
    intro w1 hb hd K hK
    obtain ⟨h0, h1, h2, h3, h4, h5, _⟩ := hd
    obtain rfl : v0 = .agg #[.float .f64 a, .float .f64 b] := h0
    obtain rfl : v1 = .agg #[.float .f64 a, .float .f64 b] := h1
    obtain rfl : v2 = .agg #[.float .f64 c, .float .f64 d] := h2
    obtain rfl : v3 = .agg #[.float .f64 c, .float .f64 d] := h3
    obtain ⟨r5, i5, rfl, hr5, hi5⟩ := h4
    obtain ⟨g5, rfl, hg1, hg2, hg3⟩ := h5
    have hbl : Below w.heap.size w w1 := Below.trans (show Below w.heap.size w W0.drew from below_drewN hb0 1) (hb.mono hb0.size)
    have hl1 : w.heap.size + 1 < w1.heap.size := Nat.lt_of_lt_of_le l1 hb.size
    have hgg : w.heap.size + 1 < g5 := Nat.lt_of_lt_of_le l1 hg1
    have e0 : w1.cell? ⟨w.heap.size, 0, none⟩ = some (.float .f64 a) := (hb.cell (p := ⟨w.heap.size, 0, none⟩) (by simp; omega)).trans c0
    have e1 : w1.cell? ⟨w.heap.size, 1, none⟩ = some (.float .f64 b) := (hb.cell (p := ⟨w.heap.size, 1, none⟩) (by simp; omega)).trans c1
    have e2 : w1.cell? ⟨w.heap.size + 1, 0, none⟩ = some (.float .f64 c) := (hb.cell (p := ⟨w.heap.size + 1, 0, none⟩) (by simp; omega)).trans c2
    have e3 : w1.cell? ⟨w.heap.size + 1, 1, none⟩ = some (.float .f64 d) := (hb.cell (p := ⟨w.heap.size + 1, 1, none⟩) (by simp; omega)).trans c3
    have cg0 : w1.cell? ⟨g5, 0, none⟩ = some (.float .f64 0) := blk_cell hg3 0
    have cg1 : w1.cell? ⟨g5, 1, none⟩ = some (.float .f64 0) := blk_cell hg3 1
    have fg0 : w1.frozen? ⟨g5, 0, none⟩ = false := blk_free hg3 0
    have fg1 : w1.frozen? ⟨g5, 1, none⟩ = false := blk_free hg3 1
    have k0 : ((w1.setCell ⟨g5, 0, none⟩ (.float .f64 r5)).setCell ⟨g5, 1, none⟩ (.float .f64 i5)).cell? ⟨w.heap.size, 0, none⟩ = some (.float .f64 a) := cell_st (by simp; omega) (cell_st (by simp; omega) e0)
    have k1 : ((w1.setCell ⟨g5, 0, none⟩ (.float .f64 r5)).setCell ⟨g5, 1, none⟩ (.float .f64 i5)).cell? ⟨w.heap.size, 1, none⟩ = some (.float .f64 b) := cell_st (by simp; omega) (cell_st (by simp; omega) e1)
    have k2 : ((w1.setCell ⟨g5, 0, none⟩ (.float .f64 r5)).setCell ⟨g5, 1, none⟩ (.float .f64 i5)).cell? ⟨w.heap.size + 1, 0, none⟩ = some (.float .f64 c) := cell_st (by simp; omega) (cell_st (by simp; omega) e2)
    have k3 : ((w1.setCell ⟨g5, 0, none⟩ (.float .f64 r5)).setCell ⟨g5, 1, none⟩ (.float .f64 i5)).cell? ⟨w.heap.size + 1, 1, none⟩ = some (.float .f64 d) := cell_st (by simp; omega) (cell_st (by simp; omega) e3)
    have yg50 : ((w1.setCell ⟨g5, 0, none⟩ (.float .f64 r5)).setCell ⟨g5, 1, none⟩ (.float .f64 i5)).cell? ⟨g5, 0, none⟩ = some (.float .f64 r5) := by
      rw [World.cell?_setCell_other _ _ _ _ (by simp), World.cell?_setCell_same _ _ _ cg0]
    have yg51 : ((w1.setCell ⟨g5, 0, none⟩ (.float .f64 r5)).setCell ⟨g5, 1, none⟩ (.float .f64 i5)).cell? ⟨g5, 1, none⟩ = some (.float .f64 i5) := World.cell?_setCell_same _ _ _ (u := .float .f64 0) (by rw [World.cell?_setCell_other _ _ _ _ (by simp)]; exact cg1)
    have sg5 : g5 < ((w1.setCell ⟨g5, 0, none⟩ (.float .f64 r5)).setCell ⟨g5, 1, none⟩ (.float .f64 i5)).heap.size := by simpa using hg2
    have l1' : w.heap.size + 1 < ((w1.setCell ⟨g5, 0, none⟩ (.float .f64 r5)).setCell ⟨g5, 1, none⟩ (.float .f64 i5)).heap.size := by simpa using hl1
    have hb0' : Below w.heap.size w ((w1.setCell ⟨g5, 0, none⟩ (.float .f64 r5)).setCell ⟨g5, 1, none⟩ (.float .f64 i5)) := below_st (below_st hbl (by simp; omega) _) (by simp; omega) _
    simp only [fill, Act.put, List.zip_cons_cons, List.zip_nil_right, List.zip_nil_left, List.foldl_cons, List.foldl_nil, List.setIfInBounds_toArray, List.set_cons_zero, List.set_cons_succ] at hK ⊢
    refine ⟨?_⟩
    go_simp
    refine hK _ _ ?_
    clear hK
    generalize ((w1.setCell ⟨g5, 0, none⟩ (.float .f64 r5)).setCell ⟨g5, 1, none⟩ (.float .f64 i5)) = W1 at k0 k1 k2 k3  yg50 yg51 sg5 l1' hb0' ⊢
    clear e0 e1 e2 e3 cg0 cg1 fg0 fg1 hg3 hg2 hg1 hl1 hbl hb c0 c1 c2 c3 l1 hb0
    have c0 := k0
    have c1 := k1
    have c2 := k2
    have c3 := k3
    have l1 := l1'
    have hb0 := hb0'
    clear k0 k1 k2 k3 l1' hb0'
    go_upto_region 2 with fail
    refine region_list (by kernel_rfl) [12, 13, 14, 15, 16, 6] [undef, undef, undef, undef, undef, undef] [fun v _ => v = .agg #[.float .f64 a, .float .f64 b], fun v _ => v = .agg #[.float .f64 a, .float .f64 b], fun v _ => v = .agg #[.float .f64 c, .float .f64 d], fun v _ => v = .agg #[.float .f64 c, .float .f64 d],
        fun v _ => ∃ r i : Nat, v = .agg #[.float .f64 r, .float .f64 i] ∧ Same .f64 r (fP .sub .f64 (fP .mul .f64 a c) (fP .mul .f64 b d)) ∧ Same .f64 i (fP .add .f64 (fP .mul .f64 a d) (fP .mul .f64 b c)),
        fun v w' => ∃ g : Nat, v = .pointer (some ⟨g, 0, none⟩) ∧ W1.heap.size ≤ g ∧ g < w'.heap.size ∧ w'.heap[g]? = some (.cells #[.float .f64 0, .float .f64 0] 27 (0, 0))] (by kernel_rfl) rfl rfl
      ⟨fun _ _ _ h _ => h, fun _ _ _ h _ => h, fun _ _ _ h _ => h, fun _ _ _ h _ => h, fun _ _ _ h _ => h, fun _ _ _ ⟨g, h1, h2, h3, h4⟩ hb => ⟨g, h1, h2, Nat.lt_of_lt_of_le h3 hb.size, (hb.block g h3).trans h4⟩, trivial⟩ (steps_cons ?_ (steps_cons ?_ (steps_cons ?_ (steps_cons ?_ (steps_cons ?_ (steps_cons ?_ (steps_one ?_)))))))
    · intro vs hl
      obtain ⟨v0, v1, v2, v3, v4, v5, rfl⟩ := len6 hl
      clear hl
      intro w1 hb hd K hK
      have e0 : w1.cell? ⟨w.heap.size, 0, none⟩ = some (.float .f64 a) := (hb.cell (p := ⟨w.heap.size, 0, none⟩) (by simp; omega)).trans c0
      have e1 : w1.cell? ⟨w.heap.size, 1, none⟩ = some (.float .f64 b) := (hb.cell (p := ⟨w.heap.size, 1, none⟩) (by simp; omega)).trans c1
      simp only [fill, Act.put, List.zip_cons_cons, List.zip_nil_right, List.zip_nil_left, List.foldl_cons, List.foldl_nil, List.setIfInBounds_toArray, List.set_cons_zero, List.set_cons_succ] at hK ⊢
      refine ⟨?_⟩
      go_simp
      exact hK _ _ (Below.refl _ _) rfl
    · intro vs hl
      obtain ⟨v0, v1, v2, v3, v4, v5, rfl⟩ := len6 hl
      clear hl
      intro w1 hb hd K hK
      obtain ⟨h0, _⟩ := hd
      obtain rfl : v0 = .agg #[.float .f64 a, .float .f64 b] := h0
      simp only [fill, Act.put, List.zip_cons_cons, List.zip_nil_right, List.zip_nil_left, List.foldl_cons, List.foldl_nil, List.setIfInBounds_toArray, List.set_cons_zero, List.set_cons_succ] at hK ⊢
      refine ⟨?_⟩
      go_simp
      refine (toWave_any _ _ _).mono ?_
      rintro e w2 ⟨rfl, hb2⟩
      exact hK _ _ hb2 rfl
    · intro vs hl
      obtain ⟨v0, v1, v2, v3, v4, v5, rfl⟩ := len6 hl
      clear hl
      intro w1 hb hd K hK
      have e2 : w1.cell? ⟨w.heap.size + 1, 0, none⟩ = some (.float .f64 c) := (hb.cell (p := ⟨w.heap.size + 1, 0, none⟩) (by simp; omega)).trans c2
      have e3 : w1.cell? ⟨w.heap.size + 1, 1, none⟩ = some (.float .f64 d) := (hb.cell (p := ⟨w.heap.size + 1, 1, none⟩) (by simp; omega)).trans c3
      simp only [fill, Act.put, List.zip_cons_cons, List.zip_nil_right, List.zip_nil_left, List.foldl_cons, List.foldl_nil, List.setIfInBounds_toArray, List.set_cons_zero, List.set_cons_succ] at hK ⊢
      refine ⟨?_⟩
      go_simp
      exact hK _ _ (Below.refl _ _) rfl
    · intro vs hl
      obtain ⟨v0, v1, v2, v3, v4, v5, rfl⟩ := len6 hl
      clear hl
      intro w1 hb hd K hK
      obtain ⟨h2, _⟩ := hd
      obtain rfl : v2 = .agg #[.float .f64 c, .float .f64 d] := h2
      simp only [fill, Act.put, List.zip_cons_cons, List.zip_nil_right, List.zip_nil_left, List.foldl_cons, List.foldl_nil, List.setIfInBounds_toArray, List.set_cons_zero, List.set_cons_succ] at hK ⊢
      refine ⟨?_⟩
      go_simp
      refine (toWave_any _ _ _).mono ?_
      rintro e w2 ⟨rfl, hb2⟩
      exact hK _ _ hb2 rfl
    · intro vs hl
      obtain ⟨v0, v1, v2, v3, v4, v5, rfl⟩ := len6 hl
      clear hl
      intro w1 hb hd K hK
      obtain ⟨h1, h3, _⟩ := hd
      obtain rfl : v1 = .agg #[.float .f64 a, .float .f64 b] := h1
      obtain rfl : v3 = .agg #[.float .f64 c, .float .f64 d] := h3
      simp only [fill, Act.put, List.zip_cons_cons, List.zip_nil_right, List.zip_nil_left, List.foldl_cons, List.foldl_nil, List.setIfInBounds_toArray, List.set_cons_zero, List.set_cons_succ] at hK ⊢
      refine ⟨?_⟩
      go_simp
      refine (times_impl _ _ _ _ _).mono ?_
      rintro e w2 ⟨r, i, rfl, hr, hi, hb2⟩
      exact hK _ _ hb2 ⟨r, i, rfl, hr, hi⟩
    · intro vs hl
      obtain ⟨v0, v1, v2, v3, v4, v5, rfl⟩ := len6 hl
      clear hl
      intro w1 hb hd K hK
      simp only [fill, Act.put, List.zip_cons_cons, List.zip_nil_right, List.zip_nil_left, List.foldl_cons, List.foldl_nil, List.setIfInBounds_toArray, List.set_cons_zero, List.set_cons_succ] at hK ⊢
      refine ⟨?_⟩
      go_simp
      exact hK _ _ (below_al (Below.refl _ _) _) ⟨_, rfl, hb.size, by simp, heap_alloc_new _ _⟩
    · unfold LastOk
      intro vs hl
      obtain ⟨v0, v1, v2, v3, v4, v5, rfl⟩ := len6 hl
      clear hl
      intro w1 hb hd K hK
      obtain ⟨h0, h1, h2, h3, h4, h5, _⟩ := hd
      obtain rfl : v0 = .agg #[.float .f64 a, .float .f64 b] := h0
      obtain rfl : v1 = .agg #[.float .f64 a, .float .f64 b] := h1
      obtain rfl : v2 = .agg #[.float .f64 c, .float .f64 d] := h2
      obtain rfl : v3 = .agg #[.float .f64 c, .float .f64 d] := h3
      obtain ⟨r6, i6, rfl, hr6, hi6⟩ := h4
      obtain ⟨g6, rfl, hg1, hg2, hg3⟩ := h5
      have hbl : Below w.heap.size w w1 := Below.trans (show Below w.heap.size w W1.drew from below_drewN hb0 1) (hb.mono hb0.size)
      have hl1 : w.heap.size + 1 < w1.heap.size := Nat.lt_of_lt_of_le l1 hb.size
      have hgg : w.heap.size + 1 < g6 := Nat.lt_of_lt_of_le l1 hg1
      have e0 : w1.cell? ⟨w.heap.size, 0, none⟩ = some (.float .f64 a) := (hb.cell (p := ⟨w.heap.size, 0, none⟩) (by simp; omega)).trans c0
      have e1 : w1.cell? ⟨w.heap.size, 1, none⟩ = some (.float .f64 b) := (hb.cell (p := ⟨w.heap.size, 1, none⟩) (by simp; omega)).trans c1
      have e2 : w1.cell? ⟨w.heap.size + 1, 0, none⟩ = some (.float .f64 c) := (hb.cell (p := ⟨w.heap.size + 1, 0, none⟩) (by simp; omega)).trans c2
      have e3 : w1.cell? ⟨w.heap.size + 1, 1, none⟩ = some (.float .f64 d) := (hb.cell (p := ⟨w.heap.size + 1, 1, none⟩) (by simp; omega)).trans c3
      have xg50 : w1.cell? ⟨g5, 0, none⟩ = some (.float .f64 r5) := (hb.cell (p := ⟨g5, 0, none⟩) (by simp; omega)).trans yg50
      have xg51 : w1.cell? ⟨g5, 1, none⟩ = some (.float .f64 i5) := (hb.cell (p := ⟨g5, 1, none⟩) (by simp; omega)).trans yg51
      have zg5 : g5 < w1.heap.size := Nat.lt_of_lt_of_le sg5 hb.size
      have neg5 : g5 < g6 := Nat.lt_of_lt_of_le sg5 hg1
      have cg0 : w1.cell? ⟨g6, 0, none⟩ = some (.float .f64 0) := blk_cell hg3 0
      have cg1 : w1.cell? ⟨g6, 1, none⟩ = some (.float .f64 0) := blk_cell hg3 1
      have fg0 : w1.frozen? ⟨g6, 0, none⟩ = false := blk_free hg3 0
      have fg1 : w1.frozen? ⟨g6, 1, none⟩ = false := blk_free hg3 1
      have k0 : ((w1.setCell ⟨g6, 0, none⟩ (.float .f64 r6)).setCell ⟨g6, 1, none⟩ (.float .f64 i6)).cell? ⟨w.heap.size, 0, none⟩ = some (.float .f64 a) := cell_st (by simp; omega) (cell_st (by simp; omega) e0)
      have k1 : ((w1.setCell ⟨g6, 0, none⟩ (.float .f64 r6)).setCell ⟨g6, 1, none⟩ (.float .f64 i6)).cell? ⟨w.heap.size, 1, none⟩ = some (.float .f64 b) := cell_st (by simp; omega) (cell_st (by simp; omega) e1)
      have k2 : ((w1.setCell ⟨g6, 0, none⟩ (.float .f64 r6)).setCell ⟨g6, 1, none⟩ (.float .f64 i6)).cell? ⟨w.heap.size + 1, 0, none⟩ = some (.float .f64 c) := cell_st (by simp; omega) (cell_st (by simp; omega) e2)
      have k3 : ((w1.setCell ⟨g6, 0, none⟩ (.float .f64 r6)).setCell ⟨g6, 1, none⟩ (.float .f64 i6)).cell? ⟨w.heap.size + 1, 1, none⟩ = some (.float .f64 d) := cell_st (by simp; omega) (cell_st (by simp; omega) e3)
      have ug50 : ((w1.setCell ⟨g6, 0, none⟩ (.float .f64 r6)).setCell ⟨g6, 1, none⟩ (.float .f64 i6)).cell? ⟨g5, 0, none⟩ = some (.float .f64 r5) := cell_st (by simp; omega) (cell_st (by simp; omega) xg50)
      have ug51 : ((w1.setCell ⟨g6, 0, none⟩ (.float .f64 r6)).setCell ⟨g6, 1, none⟩ (.float .f64 i6)).cell? ⟨g5, 1, none⟩ = some (.float .f64 i5) := cell_st (by simp; omega) (cell_st (by simp; omega) xg51)
      have tg5 : g5 < ((w1.setCell ⟨g6, 0, none⟩ (.float .f64 r6)).setCell ⟨g6, 1, none⟩ (.float .f64 i6)).heap.size := by simpa using zg5
      have yg60 : ((w1.setCell ⟨g6, 0, none⟩ (.float .f64 r6)).setCell ⟨g6, 1, none⟩ (.float .f64 i6)).cell? ⟨g6, 0, none⟩ = some (.float .f64 r6) := by
        rw [World.cell?_setCell_other _ _ _ _ (by simp), World.cell?_setCell_same _ _ _ cg0]
      have yg61 : ((w1.setCell ⟨g6, 0, none⟩ (.float .f64 r6)).setCell ⟨g6, 1, none⟩ (.float .f64 i6)).cell? ⟨g6, 1, none⟩ = some (.float .f64 i6) := World.cell?_setCell_same _ _ _ (u := .float .f64 0) (by rw [World.cell?_setCell_other _ _ _ _ (by simp)]; exact cg1)
      have sg6 : g6 < ((w1.setCell ⟨g6, 0, none⟩ (.float .f64 r6)).setCell ⟨g6, 1, none⟩ (.float .f64 i6)).heap.size := by simpa using hg2
      have l1' : w.heap.size + 1 < ((w1.setCell ⟨g6, 0, none⟩ (.float .f64 r6)).setCell ⟨g6, 1, none⟩ (.float .f64 i6)).heap.size := by simpa using hl1
      have hb0' : Below w.heap.size w ((w1.setCell ⟨g6, 0, none⟩ (.float .f64 r6)).setCell ⟨g6, 1, none⟩ (.float .f64 i6)) := below_st (below_st hbl (by simp; omega) _) (by simp; omega) _
      simp only [fill, Act.put, List.zip_cons_cons, List.zip_nil_right, List.zip_nil_left, List.foldl_cons, List.foldl_nil, List.setIfInBounds_toArray, List.set_cons_zero, List.set_cons_succ] at hK ⊢
      refine ⟨?_⟩
      go_simp
      refine hK _ _ ?_
      clear hK
      generalize ((w1.setCell ⟨g6, 0, none⟩ (.float .f64 r6)).setCell ⟨g6, 1, none⟩ (.float .f64 i6)) = W2 at k0 k1 k2 k3 ug50 ug51 tg5 yg60 yg61 sg6 l1' hb0' ⊢
      clear e0 e1 e2 e3 cg0 cg1 fg0 fg1 hg3 hg2 hg1 hl1 hbl hb c0 c1 c2 c3 l1 hb0
      go_wp2_with (go_at_call 20; (with_reducible refine (eqWave_any (hr6.trans hr5.symm) (hi6.trans hi5.symm) _).mono ?_); rintro e w9 ⟨rfl, hb9⟩)
      go_ret
      exact ⟨rfl, hb0'.trans (hb9.mono hb0'.size)⟩

end Go.Proofs.Ytfbgjjmnkkgioaa.Fl
