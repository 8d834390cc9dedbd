/- The program's product of two complex numbers. -/
import Derived.Test.YtfbgjjmnkkgioaaFlA
import Derived.Test.YtfbgjjmnkkgioaaReg
import Derived.Deep.DeepCutAuto
namespace Go.Proofs.Ytfbgjjmnkkgioaa.Fl
open Go Go.RowKit Go.Proofs.Ytfbgjjmnkkgioaa.Reg
set_option linter.unusedVariables false
set_option linter.unusedSimpArgs false

set_option maxHeartbeats 8000000 in
theorem times_impl (a b c d : Nat) (w : World) : Calls Try.prog 32 #[.agg #[.float .f64 a, .float .f64 b], .agg #[.float .f64 c, .float .f64 d]] w (PairOf .f64 (fP .sub .f64 (fP .mul .f64 a c) (fP .mul .f64 b d)) (fP .add .f64 (fP .mul .f64 a d) (fP .mul .f64 b c)) w) := by
  go_enter Try.func32, Try.ntmps32
  go_upto_region 1 with fail
  have hb0 := below_al (below_al (below_al (Below.refl w.heap.size w) (.cells #[.float .f64 a, .float .f64 b] 27)) (.cells #[.float .f64 c, .float .f64 d] 27)) (.cells #[.float .f64 0, .float .f64 0] 27)
  have c0 : (((w.alloc (.cells #[.float .f64 a, .float .f64 b] 27)).alloc (.cells #[.float .f64 c, .float .f64 d] 27)).alloc (.cells #[.float .f64 0, .float .f64 0] 27)).cell? ⟨w.heap.size, 0, none⟩ = some (.float .f64 a) := by go_simp
  have c1 : (((w.alloc (.cells #[.float .f64 a, .float .f64 b] 27)).alloc (.cells #[.float .f64 c, .float .f64 d] 27)).alloc (.cells #[.float .f64 0, .float .f64 0] 27)).cell? ⟨w.heap.size, 1, none⟩ = some (.float .f64 b) := by go_simp
  have c2 : (((w.alloc (.cells #[.float .f64 a, .float .f64 b] 27)).alloc (.cells #[.float .f64 c, .float .f64 d] 27)).alloc (.cells #[.float .f64 0, .float .f64 0] 27)).cell? ⟨w.heap.size + 1, 0, none⟩ = some (.float .f64 c) := by go_simp
  have c3 : (((w.alloc (.cells #[.float .f64 a, .float .f64 b] 27)).alloc (.cells #[.float .f64 c, .float .f64 d] 27)).alloc (.cells #[.float .f64 0, .float .f64 0] 27)).cell? ⟨w.heap.size + 1, 1, none⟩ = some (.float .f64 d) := by go_simp
  have hB : (((w.alloc (.cells #[.float .f64 a, .float .f64 b] 27)).alloc (.cells #[.float .f64 c, .float .f64 d] 27)).alloc (.cells #[.float .f64 0, .float .f64 0] 27)).heap[w.heap.size + 1 + 1]? = some (.cells #[.float .f64 0, .float .f64 0] 27 (0, 0)) := heap_alloc_at _ _ _ (by simp)
  have l1 : w.heap.size + 1 + 1 < (((w.alloc (.cells #[.float .f64 a, .float .f64 b] 27)).alloc (.cells #[.float .f64 c, .float .f64 d] 27)).alloc (.cells #[.float .f64 0, .float .f64 0] 27)).heap.size := by simp
  generalize ((w.alloc (.cells #[.float .f64 a, .float .f64 b] 27)).alloc (.cells #[.float .f64 c, .float .f64 d] 27)).alloc (.cells #[.float .f64 0, .float .f64 0] 27) = W0 at hb0 c0 c1 c2 c3 hB l1 ⊢
  refine region_list (by kernel_rfl) [5, 6, 7, 8, 9, 10, 11, 12, 13, 14, 15, 16, 17, 18, 19, 20, 21, 22, 23, 24, 25, 26, 27] [undef, undef, undef, undef, undef, undef, undef, undef, undef, undef, undef, undef, undef, undef, undef, undef, undef, undef, undef, undef, undef, undef, undef] [fun v _ => v = .pointer (some ⟨w.heap.size, 0, none⟩),
      fun v _ => v = .float .f64 a,
      fun v _ => v = .pointer (some ⟨w.heap.size + 1, 0, none⟩),
      fun v _ => v = .float .f64 c,
      fun v _ => ∃ m : Nat, v = .float .f64 m ∧ Same .f64 m (fP .mul .f64 a c),
      fun v _ => v = .pointer (some ⟨w.heap.size, 1, none⟩),
      fun v _ => v = .float .f64 b,
      fun v _ => v = .pointer (some ⟨w.heap.size + 1, 1, none⟩),
      fun v _ => v = .float .f64 d,
      fun v _ => ∃ m : Nat, v = .float .f64 m ∧ Same .f64 m (fP .mul .f64 b d),
      fun v _ => ∃ m : Nat, v = .float .f64 m ∧ Same .f64 m (fP .sub .f64 (fP .mul .f64 a c) (fP .mul .f64 b d)),
      fun v _ => v = .pointer (some ⟨w.heap.size, 0, none⟩),
      fun v _ => v = .float .f64 a,
      fun v _ => v = .pointer (some ⟨w.heap.size + 1, 1, none⟩),
      fun v _ => v = .float .f64 d,
      fun v _ => ∃ m : Nat, v = .float .f64 m ∧ Same .f64 m (fP .mul .f64 a d),
      fun v _ => v = .pointer (some ⟨w.heap.size, 1, none⟩),
      fun v _ => v = .float .f64 b,
      fun v _ => v = .pointer (some ⟨w.heap.size + 1, 0, none⟩),
      fun v _ => v = .float .f64 c,
      fun v _ => ∃ m : Nat, v = .float .f64 m ∧ Same .f64 m (fP .mul .f64 b c),
      fun v _ => ∃ m : Nat, v = .float .f64 m ∧ Same .f64 m (fP .add .f64 (fP .mul .f64 a d) (fP .mul .f64 b c)),
      fun v _ => ∃ r i : Nat, v = .agg #[.float .f64 r, .float .f64 i] ∧ Same .f64 r (fP .sub .f64 (fP .mul .f64 a c) (fP .mul .f64 b d)) ∧ Same .f64 i (fP .add .f64 (fP .mul .f64 a d) (fP .mul .f64 b c))] (by kernel_rfl) rfl (by kernel_rfl)
    ⟨fun _ _ _ h _ => h, fun _ _ _ h _ => h, fun _ _ _ h _ => h, fun _ _ _ h _ => h, fun _ _ _ h _ => h, fun _ _ _ h _ => h, fun _ _ _ h _ => h, fun _ _ _ h _ => h, fun _ _ _ h _ => h, fun _ _ _ h _ => h, fun _ _ _ h _ => h, fun _ _ _ h _ => h, fun _ _ _ h _ => h, fun _ _ _ h _ => h, fun _ _ _ h _ => h, fun _ _ _ h _ => h, fun _ _ _ h _ => h, fun _ _ _ h _ => h, fun _ _ _ h _ => h, fun _ _ _ h _ => h, fun _ _ _ h _ => h, fun _ _ _ h _ => h, fun _ _ _ h _ => h, trivial⟩ (steps_cons ?_ (steps_cons ?_ (steps_cons ?_ (steps_cons ?_ (steps_cons ?_ (steps_cons ?_ (steps_cons ?_ (steps_cons ?_ (steps_cons ?_ (steps_cons ?_ (steps_cons ?_ (steps_cons ?_ (steps_cons ?_ (steps_cons ?_ (steps_cons ?_ (steps_cons ?_ (steps_cons ?_ (steps_cons ?_ (steps_cons ?_ (steps_cons ?_ (steps_cons ?_ (steps_cons ?_ (steps_cons ?_ (steps_one ?_))))))))))))))))))))))))
  · intro vs hl
    obtain ⟨v0, v1, v2, v3, v4, v5, v6, v7, v8, v9, v10, v11, v12, v13, v14, v15, v16, v17, v18, v19, v20, v21, v22, rfl⟩ := len23 hl
    clear hl
    intro w1 hb hd K hK
    simp only [fill, Act.put, List.zip_cons_cons, List.zip_nil_right, List.zip_nil_left, List.foldl_cons, List.foldl_nil, List.setIfInBounds_toArray, List.set_cons_zero, List.set_cons_succ] at hK ⊢
    refine ⟨?_⟩
    go_simp
    exact hK _ _ (Below.refl _ _) rfl
  · intro vs hl
    obtain ⟨v0, v1, v2, v3, v4, v5, v6, v7, v8, v9, v10, v11, v12, v13, v14, v15, v16, v17, v18, v19, v20, v21, v22, rfl⟩ := len23 hl
    clear hl
    intro w1 hb hd K hK
    obtain ⟨h0, _⟩ := hd
    obtain rfl : v0 = .pointer (some ⟨w.heap.size, 0, none⟩) := h0
    have e : w1.cell? ⟨w.heap.size, 0, none⟩ = some (.float .f64 a) := (hb.cell (p := ⟨w.heap.size, 0, none⟩) (by simp; omega)).trans c0
    simp only [fill, Act.put, List.zip_cons_cons, List.zip_nil_right, List.zip_nil_left, List.foldl_cons, List.foldl_nil, List.setIfInBounds_toArray, List.set_cons_zero, List.set_cons_succ] at hK ⊢
    refine ⟨?_⟩
    go_simp
    exact hK _ _ (Below.refl _ _) rfl
  · intro vs hl
    obtain ⟨v0, v1, v2, v3, v4, v5, v6, v7, v8, v9, v10, v11, v12, v13, v14, v15, v16, v17, v18, v19, v20, v21, v22, rfl⟩ := len23 hl
    clear hl
    intro w1 hb hd K hK
    simp only [fill, Act.put, List.zip_cons_cons, List.zip_nil_right, List.zip_nil_left, List.foldl_cons, List.foldl_nil, List.setIfInBounds_toArray, List.set_cons_zero, List.set_cons_succ] at hK ⊢
    refine ⟨?_⟩
    go_simp
    exact hK _ _ (Below.refl _ _) rfl
  · intro vs hl
    obtain ⟨v0, v1, v2, v3, v4, v5, v6, v7, v8, v9, v10, v11, v12, v13, v14, v15, v16, v17, v18, v19, v20, v21, v22, rfl⟩ := len23 hl
    clear hl
    intro w1 hb hd K hK
    obtain ⟨h2, _⟩ := hd
    obtain rfl : v2 = .pointer (some ⟨w.heap.size + 1, 0, none⟩) := h2
    have e : w1.cell? ⟨w.heap.size + 1, 0, none⟩ = some (.float .f64 c) := (hb.cell (p := ⟨w.heap.size + 1, 0, none⟩) (by simp; omega)).trans c2
    simp only [fill, Act.put, List.zip_cons_cons, List.zip_nil_right, List.zip_nil_left, List.foldl_cons, List.foldl_nil, List.setIfInBounds_toArray, List.set_cons_zero, List.set_cons_succ] at hK ⊢
    refine ⟨?_⟩
    go_simp
    exact hK _ _ (Below.refl _ _) rfl
  · intro vs hl
    obtain ⟨v0, v1, v2, v3, v4, v5, v6, v7, v8, v9, v10, v11, v12, v13, v14, v15, v16, v17, v18, v19, v20, v21, v22, rfl⟩ := len23 hl
    clear hl
    intro w1 hb hd K hK
    obtain ⟨h1, h3, _⟩ := hd
    obtain rfl : v1 = .float .f64 a := h1
    obtain rfl : v3 = .float .f64 c := h3
    simp only [fill, Act.put, List.zip_cons_cons, List.zip_nil_right, List.zip_nil_left, List.foldl_cons, List.foldl_nil, List.setIfInBounds_toArray, List.set_cons_zero, List.set_cons_succ] at hK ⊢
    refine ⟨?_⟩
    go_simp
    refine (by_any _ _ _).mono ?_
    rintro e w2 ⟨rfl, rfl⟩
    exact hK _ _ (below_drewN (Below.refl _ _) _) ⟨_, rfl, fAr_same (Same.refl _ _) (Same.refl _ _) _⟩
  · intro vs hl
    obtain ⟨v0, v1, v2, v3, v4, v5, v6, v7, v8, v9, v10, v11, v12, v13, v14, v15, v16, v17, v18, v19, v20, v21, v22, rfl⟩ := len23 hl
    clear hl
    intro w1 hb hd K hK
    simp only [fill, Act.put, List.zip_cons_cons, List.zip_nil_right, List.zip_nil_left, List.foldl_cons, List.foldl_nil, List.setIfInBounds_toArray, List.set_cons_zero, List.set_cons_succ] at hK ⊢
    refine ⟨?_⟩
    go_simp
    exact hK _ _ (Below.refl _ _) rfl
  · intro vs hl
    obtain ⟨v0, v1, v2, v3, v4, v5, v6, v7, v8, v9, v10, v11, v12, v13, v14, v15, v16, v17, v18, v19, v20, v21, v22, rfl⟩ := len23 hl
    clear hl
    intro w1 hb hd K hK
    obtain ⟨h5, _⟩ := hd
    obtain rfl : v5 = .pointer (some ⟨w.heap.size, 1, none⟩) := h5
    have e : w1.cell? ⟨w.heap.size, 1, none⟩ = some (.float .f64 b) := (hb.cell (p := ⟨w.heap.size, 1, none⟩) (by simp; omega)).trans c1
    simp only [fill, Act.put, List.zip_cons_cons, List.zip_nil_right, List.zip_nil_left, List.foldl_cons, List.foldl_nil, List.setIfInBounds_toArray, List.set_cons_zero, List.set_cons_succ] at hK ⊢
    refine ⟨?_⟩
    go_simp
    exact hK _ _ (Below.refl _ _) rfl
  · intro vs hl
    obtain ⟨v0, v1, v2, v3, v4, v5, v6, v7, v8, v9, v10, v11, v12, v13, v14, v15, v16, v17, v18, v19, v20, v21, v22, rfl⟩ := len23 hl
    clear hl
    intro w1 hb hd K hK
    simp only [fill, Act.put, List.zip_cons_cons, List.zip_nil_right, List.zip_nil_left, List.foldl_cons, List.foldl_nil, List.setIfInBounds_toArray, List.set_cons_zero, List.set_cons_succ] at hK ⊢
    refine ⟨?_⟩
    go_simp
    exact hK _ _ (Below.refl _ _) rfl
  · intro vs hl
    obtain ⟨v0, v1, v2, v3, v4, v5, v6, v7, v8, v9, v10, v11, v12, v13, v14, v15, v16, v17, v18, v19, v20, v21, v22, rfl⟩ := len23 hl
    clear hl
    intro w1 hb hd K hK
    obtain ⟨h7, _⟩ := hd
    obtain rfl : v7 = .pointer (some ⟨w.heap.size + 1, 1, none⟩) := h7
    have e : w1.cell? ⟨w.heap.size + 1, 1, none⟩ = some (.float .f64 d) := (hb.cell (p := ⟨w.heap.size + 1, 1, none⟩) (by simp; omega)).trans c3
    simp only [fill, Act.put, List.zip_cons_cons, List.zip_nil_right, List.zip_nil_left, List.foldl_cons, List.foldl_nil, List.setIfInBounds_toArray, List.set_cons_zero, List.set_cons_succ] at hK ⊢
    refine ⟨?_⟩
    go_simp
    exact hK _ _ (Below.refl _ _) rfl
  · intro vs hl
    obtain ⟨v0, v1, v2, v3, v4, v5, v6, v7, v8, v9, v10, v11, v12, v13, v14, v15, v16, v17, v18, v19, v20, v21, v22, rfl⟩ := len23 hl
    clear hl
    intro w1 hb hd K hK
    obtain ⟨h6, h8, _⟩ := hd
    obtain rfl : v6 = .float .f64 b := h6
    obtain rfl : v8 = .float .f64 d := h8
    simp only [fill, Act.put, List.zip_cons_cons, List.zip_nil_right, List.zip_nil_left, List.foldl_cons, List.foldl_nil, List.setIfInBounds_toArray, List.set_cons_zero, List.set_cons_succ] at hK ⊢
    refine ⟨?_⟩
    go_simp
    refine (by_any _ _ _).mono ?_
    rintro e w2 ⟨rfl, rfl⟩
    exact hK _ _ (below_drewN (Below.refl _ _) _) ⟨_, rfl, fAr_same (Same.refl _ _) (Same.refl _ _) _⟩
  · intro vs hl
    obtain ⟨v0, v1, v2, v3, v4, v5, v6, v7, v8, v9, v10, v11, v12, v13, v14, v15, v16, v17, v18, v19, v20, v21, v22, rfl⟩ := len23 hl
    clear hl
    intro w1 hb hd K hK
    obtain ⟨h4, h9, _⟩ := hd
    obtain ⟨m4, rfl, hm4⟩ := h4
    obtain ⟨m9, rfl, hm9⟩ := h9
    simp only [fill, Act.put, List.zip_cons_cons, List.zip_nil_right, List.zip_nil_left, List.foldl_cons, List.foldl_nil, List.setIfInBounds_toArray, List.set_cons_zero, List.set_cons_succ] at hK ⊢
    refine ⟨?_⟩
    go_simp
    exact hK _ _ (below_drewN (Below.refl _ _) _) ⟨_, rfl, fAr_same hm4 hm9 _⟩
  · intro vs hl
    obtain ⟨v0, v1, v2, v3, v4, v5, v6, v7, v8, v9, v10, v11, v12, v13, v14, v15, v16, v17, v18, v19, v20, v21, v22, rfl⟩ := len23 hl
    clear hl
    intro w1 hb hd K hK
    simp only [fill, Act.put, List.zip_cons_cons, List.zip_nil_right, List.zip_nil_left, List.foldl_cons, List.foldl_nil, List.setIfInBounds_toArray, List.set_cons_zero, List.set_cons_succ] at hK ⊢
    refine ⟨?_⟩
    go_simp
    exact hK _ _ (Below.refl _ _) rfl
  · intro vs hl
    obtain ⟨v0, v1, v2, v3, v4, v5, v6, v7, v8, v9, v10, v11, v12, v13, v14, v15, v16, v17, v18, v19, v20, v21, v22, rfl⟩ := len23 hl
    clear hl
    intro w1 hb hd K hK
    obtain ⟨h11, _⟩ := hd
    obtain rfl : v11 = .pointer (some ⟨w.heap.size, 0, none⟩) := h11
    have e : w1.cell? ⟨w.heap.size, 0, none⟩ = some (.float .f64 a) := (hb.cell (p := ⟨w.heap.size, 0, none⟩) (by simp; omega)).trans c0
    simp only [fill, Act.put, List.zip_cons_cons, List.zip_nil_right, List.zip_nil_left, List.foldl_cons, List.foldl_nil, List.setIfInBounds_toArray, List.set_cons_zero, List.set_cons_succ] at hK ⊢
    refine ⟨?_⟩
    go_simp
    exact hK _ _ (Below.refl _ _) rfl
  · intro vs hl
    obtain ⟨v0, v1, v2, v3, v4, v5, v6, v7, v8, v9, v10, v11, v12, v13, v14, v15, v16, v17, v18, v19, v20, v21, v22, rfl⟩ := len23 hl
    clear hl
    intro w1 hb hd K hK
    simp only [fill, Act.put, List.zip_cons_cons, List.zip_nil_right, List.zip_nil_left, List.foldl_cons, List.foldl_nil, List.setIfInBounds_toArray, List.set_cons_zero, List.set_cons_succ] at hK ⊢
    refine ⟨?_⟩
    go_simp
    exact hK _ _ (Below.refl _ _) rfl
  · intro vs hl
    obtain ⟨v0, v1, v2, v3, v4, v5, v6, v7, v8, v9, v10, v11, v12, v13, v14, v15, v16, v17, v18, v19, v20, v21, v22, rfl⟩ := len23 hl
    clear hl
    intro w1 hb hd K hK
    obtain ⟨h13, _⟩ := hd
    obtain rfl : v13 = .pointer (some ⟨w.heap.size + 1, 1, none⟩) := h13
    have e : w1.cell? ⟨w.heap.size + 1, 1, none⟩ = some (.float .f64 d) := (hb.cell (p := ⟨w.heap.size + 1, 1, none⟩) (by simp; omega)).trans c3
    simp only [fill, Act.put, List.zip_cons_cons, List.zip_nil_right, List.zip_nil_left, List.foldl_cons, List.foldl_nil, List.setIfInBounds_toArray, List.set_cons_zero, List.set_cons_succ] at hK ⊢
    refine ⟨?_⟩
    go_simp
    exact hK _ _ (Below.refl _ _) rfl
  · intro vs hl
    obtain ⟨v0, v1, v2, v3, v4, v5, v6, v7, v8, v9, v10, v11, v12, v13, v14, v15, v16, v17, v18, v19, v20, v21, v22, rfl⟩ := len23 hl
    clear hl
    intro w1 hb hd K hK
    obtain ⟨h12, h14, _⟩ := hd
    obtain rfl : v12 = .float .f64 a := h12
    obtain rfl : v14 = .float .f64 d := h14
    simp only [fill, Act.put, List.zip_cons_cons, List.zip_nil_right, List.zip_nil_left, List.foldl_cons, List.foldl_nil, List.setIfInBounds_toArray, List.set_cons_zero, List.set_cons_succ] at hK ⊢
    refine ⟨?_⟩
    go_simp
    refine (by_any _ _ _).mono ?_
    rintro e w2 ⟨rfl, rfl⟩
    exact hK _ _ (below_drewN (Below.refl _ _) _) ⟨_, rfl, fAr_same (Same.refl _ _) (Same.refl _ _) _⟩
  · intro vs hl
    obtain ⟨v0, v1, v2, v3, v4, v5, v6, v7, v8, v9, v10, v11, v12, v13, v14, v15, v16, v17, v18, v19, v20, v21, v22, rfl⟩ := len23 hl
    clear hl
    intro w1 hb hd K hK
    simp only [fill, Act.put, List.zip_cons_cons, List.zip_nil_right, List.zip_nil_left, List.foldl_cons, List.foldl_nil, List.setIfInBounds_toArray, List.set_cons_zero, List.set_cons_succ] at hK ⊢
    refine ⟨?_⟩
    go_simp
    exact hK _ _ (Below.refl _ _) rfl
  · intro vs hl
    obtain ⟨v0, v1, v2, v3, v4, v5, v6, v7, v8, v9, v10, v11, v12, v13, v14, v15, v16, v17, v18, v19, v20, v21, v22, rfl⟩ := len23 hl
    clear hl
    intro w1 hb hd K hK
    obtain ⟨h16, _⟩ := hd
    obtain rfl : v16 = .pointer (some ⟨w.heap.size, 1, none⟩) := h16
    have e : w1.cell? ⟨w.heap.size, 1, none⟩ = some (.float .f64 b) := (hb.cell (p := ⟨w.heap.size, 1, none⟩) (by simp; omega)).trans c1
    simp only [fill, Act.put, List.zip_cons_cons, List.zip_nil_right, List.zip_nil_left, List.foldl_cons, List.foldl_nil, List.setIfInBounds_toArray, List.set_cons_zero, List.set_cons_succ] at hK ⊢
    refine ⟨?_⟩
    go_simp
    exact hK _ _ (Below.refl _ _) rfl
  · intro vs hl
    obtain ⟨v0, v1, v2, v3, v4, v5, v6, v7, v8, v9, v10, v11, v12, v13, v14, v15, v16, v17, v18, v19, v20, v21, v22, rfl⟩ := len23 hl
    clear hl
    intro w1 hb hd K hK
    simp only [fill, Act.put, List.zip_cons_cons, List.zip_nil_right, List.zip_nil_left, List.foldl_cons, List.foldl_nil, List.setIfInBounds_toArray, List.set_cons_zero, List.set_cons_succ] at hK ⊢
    refine ⟨?_⟩
    go_simp
    exact hK _ _ (Below.refl _ _) rfl
  · intro vs hl
    obtain ⟨v0, v1, v2, v3, v4, v5, v6, v7, v8, v9, v10, v11, v12, v13, v14, v15, v16, v17, v18, v19, v20, v21, v22, rfl⟩ := len23 hl
    clear hl
    intro w1 hb hd K hK
    obtain ⟨h18, _⟩ := hd
    obtain rfl : v18 = .pointer (some ⟨w.heap.size + 1, 0, none⟩) := h18
    have e : w1.cell? ⟨w.heap.size + 1, 0, none⟩ = some (.float .f64 c) := (hb.cell (p := ⟨w.heap.size + 1, 0, none⟩) (by simp; omega)).trans c2
    simp only [fill, Act.put, List.zip_cons_cons, List.zip_nil_right, List.zip_nil_left, List.foldl_cons, List.foldl_nil, List.setIfInBounds_toArray, List.set_cons_zero, List.set_cons_succ] at hK ⊢
    refine ⟨?_⟩
    go_simp
    exact hK _ _ (Below.refl _ _) rfl
  · intro vs hl
    obtain ⟨v0, v1, v2, v3, v4, v5, v6, v7, v8, v9, v10, v11, v12, v13, v14, v15, v16, v17, v18, v19, v20, v21, v22, rfl⟩ := len23 hl
    clear hl
    intro w1 hb hd K hK
    obtain ⟨h17, h19, _⟩ := hd
    obtain rfl : v17 = .float .f64 b := h17
    obtain rfl : v19 = .float .f64 c := h19
    simp only [fill, Act.put, List.zip_cons_cons, List.zip_nil_right, List.zip_nil_left, List.foldl_cons, List.foldl_nil, List.setIfInBounds_toArray, List.set_cons_zero, List.set_cons_succ] at hK ⊢
    refine ⟨?_⟩
    go_simp
    refine (by_any _ _ _).mono ?_
    rintro e w2 ⟨rfl, rfl⟩
    exact hK _ _ (below_drewN (Below.refl _ _) _) ⟨_, rfl, fAr_same (Same.refl _ _) (Same.refl _ _) _⟩
  · intro vs hl
    obtain ⟨v0, v1, v2, v3, v4, v5, v6, v7, v8, v9, v10, v11, v12, v13, v14, v15, v16, v17, v18, v19, v20, v21, v22, rfl⟩ := len23 hl
    clear hl
    intro w1 hb hd K hK
    obtain ⟨h15, h20, _⟩ := hd
    obtain ⟨m15, rfl, hm15⟩ := h15
    obtain ⟨m20, rfl, hm20⟩ := h20
    simp only [fill, Act.put, List.zip_cons_cons, List.zip_nil_right, List.zip_nil_left, List.foldl_cons, List.foldl_nil, List.setIfInBounds_toArray, List.set_cons_zero, List.set_cons_succ] at hK ⊢
    refine ⟨?_⟩
    go_simp
    exact hK _ _ (below_drewN (Below.refl _ _) _) ⟨_, rfl, fAr_same hm15 hm20 _⟩
  · intro vs hl
    obtain ⟨v0, v1, v2, v3, v4, v5, v6, v7, v8, v9, v10, v11, v12, v13, v14, v15, v16, v17, v18, v19, v20, v21, v22, rfl⟩ := len23 hl
    clear hl
    intro w1 hb hd K hK
    obtain ⟨h10, h21, _⟩ := hd
    obtain ⟨m10, rfl, hm10⟩ := h10
    obtain ⟨m21, rfl, hm21⟩ := h21
    simp only [fill, Act.put, List.zip_cons_cons, List.zip_nil_right, List.zip_nil_left, List.foldl_cons, List.foldl_nil, List.setIfInBounds_toArray, List.set_cons_zero, List.set_cons_succ] at hK ⊢
    refine ⟨?_⟩
    go_simp
    exact hK _ _ (Below.refl _ _) ⟨_, _, rfl, hm10, hm21⟩
  · unfold LastOk
    intro vs hl
    obtain ⟨v0, v1, v2, v3, v4, v5, v6, v7, v8, v9, v10, v11, v12, v13, v14, v15, v16, v17, v18, v19, v20, v21, v22, rfl⟩ := len23 hl
    clear hl
    intro w1 hb hd K hK
    obtain ⟨h0, h1, h2, h3, h4, h5, h6, h7, h8, h9, h10, h11, h12, h13, h14, h15, h16, h17, h18, h19, h20, h21, h22, _⟩ := hd
    obtain ⟨r, i, rfl, hr, hi⟩ := h22
    have hbl : Below w.heap.size w w1 := Below.trans (show Below w.heap.size w W0.drew from below_drewN hb0 1) (hb.mono hb0.size)
    have hB1 : w1.heap[w.heap.size + 1 + 1]? = some (.cells #[.float .f64 0, .float .f64 0] 27 (0, 0)) := (hb.block _ l1).trans hB
    have cg0 : w1.cell? ⟨w.heap.size + 1 + 1, 0, none⟩ = some (.float .f64 0) := blk_cell hB1 0
    have cg1 : w1.cell? ⟨w.heap.size + 1 + 1, 1, none⟩ = some (.float .f64 0) := blk_cell hB1 1
    have fg0 : w1.frozen? ⟨w.heap.size + 1 + 1, 0, none⟩ = false := blk_free hB1 0
    have fg1 : w1.frozen? ⟨w.heap.size + 1 + 1, 1, none⟩ = false := blk_free hB1 1
    have y0 : ((w1.setCell ⟨w.heap.size + 1 + 1, 0, none⟩ (.float .f64 r)).setCell ⟨w.heap.size + 1 + 1, 1, none⟩ (.float .f64 i)).cell? ⟨w.heap.size + 1 + 1, 0, none⟩ = some (.float .f64 r) := by
      rw [World.cell?_setCell_other _ _ _ _ (by simp), World.cell?_setCell_same _ _ _ cg0]
    have y1 : ((w1.setCell ⟨w.heap.size + 1 + 1, 0, none⟩ (.float .f64 r)).setCell ⟨w.heap.size + 1 + 1, 1, none⟩ (.float .f64 i)).cell? ⟨w.heap.size + 1 + 1, 1, none⟩ = some (.float .f64 i) := World.cell?_setCell_same _ _ _ (u := .float .f64 0) (by rw [World.cell?_setCell_other _ _ _ _ (by simp)]; exact cg1)
    have hb0' : Below w.heap.size w ((w1.setCell ⟨w.heap.size + 1 + 1, 0, none⟩ (.float .f64 r)).setCell ⟨w.heap.size + 1 + 1, 1, none⟩ (.float .f64 i)) := below_st (below_st hbl (by simp; omega) _) (by simp; omega) _
    simp only [fill, Act.put, List.zip_cons_cons, List.zip_nil_right, List.zip_nil_left, List.foldl_cons, List.foldl_nil, List.setIfInBounds_toArray, List.set_cons_zero, List.set_cons_succ] at hK ⊢
    refine ⟨?_⟩
    go_simp
    refine hK _ _ ?_
    clear hK
    generalize ((w1.setCell ⟨w.heap.size + 1 + 1, 0, none⟩ (.float .f64 r)).setCell ⟨w.heap.size + 1 + 1, 1, none⟩ (.float .f64 i)) = W1 at y0 y1 hb0' ⊢
    clear cg0 cg1 fg0 fg1 hB1 hbl hb c0 c1 c2 c3 l1 hb0
    go_wp2
    refine ret_val ?_ rfl
    simp [results, Try.results32, go_sem, y0, y1]
    exact ⟨_, _, rfl, hr, hi, hb0'⟩

end Go.Proofs.Ytfbgjjmnkkgioaa.Fl
