import Derived.Test.YtphfmcdkldcmiaaBFnExactOver1
import Derived.Test.YtphfmcdkldcmiaaBFnExactOver0
import Derived.ProofKit
import Derived.Deep.Slices
import Derived.SizedLaws
import Derived.Laws.Cover2
/- Over, by the program. -/
namespace Go.Proofs.Ytphfmcdkldcmiaa.Fl
open Go Go.RowKit Go.Proofs.YtphfmcdkldcmiaaW.PrintWords Go.Proofs.YtphfmcdkldcmiaaW.PrintLast Go.Proofs.YtphfmcdkldcmiaaW.PrintMore Go.Proofs.Ytphfmcdkldcmiaa.Rg Go.Proofs.Ytphfmcdkldcmiaa.Rs
set_option linter.unusedVariables false
set_option linter.unusedSimpArgs false
attribute [local go_sem] run_fquo
set_option maxHeartbeats 8000000 in
set_option maxRecDepth 100000 in
theorem over_impl_b0 (p q c d : Nat) (hp : p < 18446744073709551616) (hq : q < 18446744073709551616) (hc : c < 18446744073709551616) (hd : d < 18446744073709551616) (hF : (finB p && finB q && finB c && finB d) = false) (w : World) :
    Calls Try.prog 43 #[.agg #[.float .f64 p, .float .f64 q], .agg #[.float .f64 c, .float .f64 d]] w fun e w' => OvIs p q c d e ∧ Below w.heap.size w w' := by
  have HX := Aside0.mk (show ∀ j : Nat, j < 4 → rf [p, q, c, d] j < 18446744073709551616 from fun j hj => by
    match j, hj with
    | 0, _ => exact hp
    | 1, _ => exact hq
    | 2, _ => exact hc
    | 3, _ => exact hd)
  have hC := C_four (((w.alloc (.cells #[.float .f64 p, .float .f64 q] 26)).alloc (.cells #[.float .f64 c, .float .f64 d] 26)).alloc (.cells #[.float .f64 0, .float .f64 0] 26)) p q c d 23
  rw [show (((w.alloc (.cells #[.float .f64 p, .float .f64 q] 26)).alloc (.cells #[.float .f64 c, .float .f64 d] 26)).alloc (.cells #[.float .f64 0, .float .f64 0] 26)).heap.size = w.heap.size + 1 + 1 + 1 from by simp] at hC
  have ct := Aside0.mk (finite_any (some ⟨w.heap.size + 1 + 1 + 1, 0, none⟩) 4 [p, q, c, d] 4 _ hC (by omega) HX.out)
  clear hC HX
  have hall : [p, q, c, d].all finB = (finB p && finB q && finB c && finB d) := by simp [Bool.and_assoc]
  rw [hall, hF] at ct
  clear hall
  have hok := Aside0.mk (show ovOk p q c d = false by unfold ovOk eqB; rw [hF]; simp [])
  clear hp hq hF
  go_enter Try.func43, Try.ntmps43
  go_wp2_with (go_at_call 67; refine ct.out.mono ?_; rintro e w1 ⟨rfl, hb1⟩; have hbq : Below w.heap.size w w1 := (below_al (below_al (below_al (below_al (Below.refl w.heap.size w) _) _) _) _).trans (hb1.mono (by simp; omega)); have BA : Blk w1 (w.heap.size) 26 #[.float .f64 p, .float .f64 q] := ((((Blk.new w _ _).alloc _).alloc _).alloc _).below hb1; have BB : Blk w1 (w.heap.size + 1) 26 #[.float .f64 c, .float .f64 d] := (((Blk.newAt _ _ (by simp)).alloc _).alloc _).below hb1; have BZ : Blk w1 (w.heap.size + 1 + 1) 26 #[.float .f64 0, .float .f64 0] := ((Blk.newAt _ _ (by simp)).alloc _).below hb1; obtain ⟨qa0, qa1⟩ := BA.two; obtain ⟨qb0, qb1⟩ := BB.two; obtain ⟨qz0, qz1⟩ := BZ.two; have fz0 := BZ.free 0; have fz1 := BZ.free 1; have HB := Aside0.mk hbq; clear hb1 hbq ct)
  have y0 : ∀ a b : Value, ((w1.setCell ⟨w.heap.size + 1 + 1, 0, none⟩ a).setCell ⟨w.heap.size + 1 + 1, 1, none⟩ b).cell? ⟨w.heap.size + 1 + 1, 0, none⟩ = some a := fun a b => by rw [World.cell?_setCell_other _ _ _ _ (by simp), World.cell?_setCell_same _ _ _ qz0]
  have y1 : ∀ a b : Value, ((w1.setCell ⟨w.heap.size + 1 + 1, 0, none⟩ a).setCell ⟨w.heap.size + 1 + 1, 1, none⟩ b).cell? ⟨w.heap.size + 1 + 1, 1, none⟩ = some b := fun a b => World.cell?_setCell_same _ _ _ (u := .float .f64 0) (by rw [World.cell?_setCell_other _ _ _ _ (by simp)]; exact qz1)
  refine ret_val ?_ rfl; simp [results, Try.results43, go_sem, y0, y1]
  exact ⟨⟨0, 0, by rw [hok.out], by rw [hok.out]; exact Same.refl _ _, by rw [hok.out]; exact Same.refl _ _⟩, by repeat (first | exact HB.out | apply below_drewN | refine below_st ?_ (by simp; try omega) _)⟩
set_option maxHeartbeats 8000000 in
set_option maxRecDepth 100000 in
theorem over_impl_b1 (p q c d : Nat) (hp : p < 18446744073709551616) (hq : q < 18446744073709551616) (hc : c < 18446744073709551616) (hd : d < 18446744073709551616) (hF : (finB p && finB q && finB c && finB d) = true) (g1 : (FloatKind.f64.format.order c 0 == some .eq) = true) (g2 : (FloatKind.f64.format.order d 0 == some .eq) = true) (w : World) :
    Calls Try.prog 43 #[.agg #[.float .f64 p, .float .f64 q], .agg #[.float .f64 c, .float .f64 d]] w fun e w' => OvIs p q c d e ∧ Below w.heap.size w w' := by
  have HX := Aside0.mk (show ∀ j : Nat, j < 4 → rf [p, q, c, d] j < 18446744073709551616 from fun j hj => by
    match j, hj with
    | 0, _ => exact hp
    | 1, _ => exact hq
    | 2, _ => exact hc
    | 3, _ => exact hd)
  have hC := C_four (((w.alloc (.cells #[.float .f64 p, .float .f64 q] 26)).alloc (.cells #[.float .f64 c, .float .f64 d] 26)).alloc (.cells #[.float .f64 0, .float .f64 0] 26)) p q c d 23
  rw [show (((w.alloc (.cells #[.float .f64 p, .float .f64 q] 26)).alloc (.cells #[.float .f64 c, .float .f64 d] 26)).alloc (.cells #[.float .f64 0, .float .f64 0] 26)).heap.size = w.heap.size + 1 + 1 + 1 from by simp] at hC
  have ct := Aside0.mk (finite_any (some ⟨w.heap.size + 1 + 1 + 1, 0, none⟩) 4 [p, q, c, d] 4 _ hC (by omega) HX.out)
  clear hC HX
  have hall : [p, q, c, d].all finB = (finB p && finB q && finB c && finB d) := by simp [Bool.and_assoc]
  rw [hall, hF] at ct
  clear hall
  have hok := Aside0.mk (show ovOk p q c d = false by unfold ovOk eqB; rw [hF]; simp [g1, g2])
  clear hp hq hF
  go_enter Try.func43, Try.ntmps43
  go_wp2_with (go_at_call 67; refine ct.out.mono ?_; rintro e w1 ⟨rfl, hb1⟩; have hbq : Below w.heap.size w w1 := (below_al (below_al (below_al (below_al (Below.refl w.heap.size w) _) _) _) _).trans (hb1.mono (by simp; omega)); have BA : Blk w1 (w.heap.size) 26 #[.float .f64 p, .float .f64 q] := ((((Blk.new w _ _).alloc _).alloc _).alloc _).below hb1; have BB : Blk w1 (w.heap.size + 1) 26 #[.float .f64 c, .float .f64 d] := (((Blk.newAt _ _ (by simp)).alloc _).alloc _).below hb1; have BZ : Blk w1 (w.heap.size + 1 + 1) 26 #[.float .f64 0, .float .f64 0] := ((Blk.newAt _ _ (by simp)).alloc _).below hb1; obtain ⟨qa0, qa1⟩ := BA.two; obtain ⟨qb0, qb1⟩ := BB.two; obtain ⟨qz0, qz1⟩ := BZ.two; have fz0 := BZ.free 0; have fz1 := BZ.free 1; have HB := Aside0.mk hbq; clear hb1 hbq ct)
  have y0 : ∀ a b : Value, ((w1.setCell ⟨w.heap.size + 1 + 1, 0, none⟩ a).setCell ⟨w.heap.size + 1 + 1, 1, none⟩ b).cell? ⟨w.heap.size + 1 + 1, 0, none⟩ = some a := fun a b => by rw [World.cell?_setCell_other _ _ _ _ (by simp), World.cell?_setCell_same _ _ _ qz0]
  have y1 : ∀ a b : Value, ((w1.setCell ⟨w.heap.size + 1 + 1, 0, none⟩ a).setCell ⟨w.heap.size + 1 + 1, 1, none⟩ b).cell? ⟨w.heap.size + 1 + 1, 1, none⟩ = some b := fun a b => World.cell?_setCell_same _ _ _ (u := .float .f64 0) (by rw [World.cell?_setCell_other _ _ _ _ (by simp)]; exact qz1)
  refine ret_val ?_ rfl; simp [results, Try.results43, go_sem, y0, y1]
  exact ⟨⟨0, 0, by rw [hok.out], by rw [hok.out]; exact Same.refl _ _, by rw [hok.out]; exact Same.refl _ _⟩, by repeat (first | exact HB.out | apply below_drewN | refine below_st ?_ (by simp; try omega) _)⟩
set_option maxHeartbeats 8000000 in
set_option maxRecDepth 100000 in
theorem over_impl_g0t (p q c d : Nat) (hp : p < 18446744073709551616) (hq : q < 18446744073709551616) (hc : c < 18446744073709551616) (hd : d < 18446744073709551616) (hF : (finB p && finB q && finB c && finB d) = true) (g1 : (FloatKind.f64.format.order c 0 == some .eq) = false) (hg : (FloatKind.f64.format.order (absF c) (absF d) == some .gt || FloatKind.f64.format.order (absF c) (absF d) == some .eq) = true) (w : World) :
    Calls Try.prog 43 #[.agg #[.float .f64 p, .float .f64 q], .agg #[.float .f64 c, .float .f64 d]] w fun e w' => OvIs p q c d e ∧ Below w.heap.size w w' := by
  have HX := Aside0.mk (show ∀ j : Nat, j < 4 → rf [p, q, c, d] j < 18446744073709551616 from fun j hj => by
    match j, hj with
    | 0, _ => exact hp
    | 1, _ => exact hq
    | 2, _ => exact hc
    | 3, _ => exact hd)
  have hC := C_four (((w.alloc (.cells #[.float .f64 p, .float .f64 q] 26)).alloc (.cells #[.float .f64 c, .float .f64 d] 26)).alloc (.cells #[.float .f64 0, .float .f64 0] 26)) p q c d 23
  rw [show (((w.alloc (.cells #[.float .f64 p, .float .f64 q] 26)).alloc (.cells #[.float .f64 c, .float .f64 d] 26)).alloc (.cells #[.float .f64 0, .float .f64 0] 26)).heap.size = w.heap.size + 1 + 1 + 1 from by simp] at hC
  have ct := Aside0.mk (finite_any (some ⟨w.heap.size + 1 + 1 + 1, 0, none⟩) 4 [p, q, c, d] 4 _ hC (by omega) HX.out)
  clear hC HX
  have hall : [p, q, c, d].all finB = (finB p && finB q && finB c && finB d) := by simp [Bool.and_assoc]
  rw [hall, hF] at ct
  clear hall
  have hok := Aside0.mk (show ovOk p q c d = true by unfold ovOk eqB; rw [hF]; simp [g1])
  have hre := Aside0.mk (show ovRe p q c d = _ by unfold ovRe geB2; rw [hg])
  have him := Aside0.mk (show ovIm p q c d = _ by unfold ovIm geB2; rw [hg])
  clear hp hq hF
  go_enter Try.func43, Try.ntmps43
  go_upto_region 3 with (go_at_call 67; refine ct.out.mono ?_; rintro e w1 ⟨rfl, hb1⟩; have hbq : Below w.heap.size w w1 := (below_al (below_al (below_al (below_al (Below.refl w.heap.size w) _) _) _) _).trans (hb1.mono (by simp; omega)); have BA : Blk w1 (w.heap.size) 26 #[.float .f64 p, .float .f64 q] := ((((Blk.new w _ _).alloc _).alloc _).alloc _).below hb1; have BB : Blk w1 (w.heap.size + 1) 26 #[.float .f64 c, .float .f64 d] := (((Blk.newAt _ _ (by simp)).alloc _).alloc _).below hb1; have BZ : Blk w1 (w.heap.size + 1 + 1) 26 #[.float .f64 0, .float .f64 0] := ((Blk.newAt _ _ (by simp)).alloc _).below hb1; obtain ⟨qa0, qa1⟩ := BA.two; obtain ⟨qb0, qb1⟩ := BB.two; obtain ⟨qz0, qz1⟩ := BZ.two; have fz0 := BZ.free 0; have fz1 := BZ.free 1; have HB := Aside0.mk hbq; clear hb1 hbq ct)
  go_quiet (((go_at_call 69; first | exact Calls.quiet_of_same (abs_any c hc _) | exact Calls.quiet_of_same (abs_any d hd _))))
  replace BA := BA.drewN nq
  replace BB := BB.drewN nq
  replace BZ := BZ.drewN nq
  replace HB := Aside0.mk (below_drewN HB.out nq)
  clear qa0 qa1 qb0 qb1 qz0 qz1 fz0 fz1
  have hbq := HB.out
  generalize w1.drewN nq = W4 at BA BB BZ hbq ⊢
  replace HB := Aside0.mk hbq
  clear hbq
  obtain ⟨qa0, qa1⟩ := BA.two
  obtain ⟨qb0, qb1⟩ := BB.two
  obtain ⟨qz0, qz1⟩ := BZ.two
  have fz0 := BZ.free 0
  have fz1 := BZ.free 1
  go_upto_region 5 with fail
  have hr6 : Same .f64 (fAr .quo .f64 d c W4) (fP .quo .f64 d c) := fAr_same (Same.refl _ _) (Same.refl _ _) _
  generalize fAr .quo .f64 d c W4 = r6 at hr6 ⊢
  replace BA := BA.drewN (fN .quo .f64 d c)
  replace BB := BB.drewN (fN .quo .f64 d c)
  replace BZ := BZ.drewN (fN .quo .f64 d c)
  replace HB := Aside0.mk (below_drewN HB.out (fN .quo .f64 d c))
  clear qa0 qa1 qb0 qb1 qz0 qz1 fz0 fz1
  have hbq := HB.out
  generalize W4.drewN (fN .quo .f64 d c) = W5 at BA BB BZ hbq ⊢
  replace HB := Aside0.mk hbq
  clear hbq
  obtain ⟨qa0, qa1⟩ := BA.two
  obtain ⟨qb0, qb1⟩ := BB.two
  obtain ⟨qz0, qz1⟩ := BZ.two
  have fz0 := BZ.free 0
  have fz1 := BZ.free 1
  clear qa0 qa1 qb0 qb1 qz0 qz1 fz0 fz1
  replace BA := BA.drew
  replace BB := BB.drew
  replace BZ := BZ.drew
  refine region_list (by kernel_rfl) [44, 45, 46, 47, 48, 49, 50] [undef, undef, undef, undef, undef, undef, undef] [fun v _ => v = .pointer (some ⟨w.heap.size + 1, 0, none⟩), fun v _ => v = .float .f64 c, fun v _ => v = .float .f64 r6, fun v _ => v = .pointer (some ⟨w.heap.size + 1, 1, none⟩), fun v _ => v = .float .f64 d, fun v _ => ∃ m : Nat, v = .float .f64 m ∧ Same .f64 m (fP .mul .f64 (fP .quo .f64 d c) d), fun v _ => ∃ m : Nat, v = .float .f64 m ∧ Same .f64 m (fP .add .f64 c (fP .mul .f64 (fP .quo .f64 d c) d))] (by kernel_rfl) rfl (by kernel_rfl) ⟨fun _ _ _ h _ => h, fun _ _ _ h _ => h, fun _ _ _ h _ => h, fun _ _ _ h _ => h, fun _ _ _ h _ => h, fun _ _ _ h _ => h, fun _ _ _ h _ => h, trivial⟩ (steps_plain rfl ?_ (steps_plain rfl ?_ (steps_plain rfl ?_ (steps_plain rfl ?_ (steps_plain rfl ?_ (steps_plain rfl ?_ (steps_plain rfl ?_ (steps_one ?_))))))))
  · intro vs hl
    obtain ⟨v0, v1, v2, v3, v4, v5, v6, rfl⟩ := len7 hl
    clear hl
    intro w1 hb hd K hK
    simp only [fill, Act.put, List.zip_cons_cons, List.zip_nil_right, List.zip_nil_left, List.foldl_cons, List.foldl_nil, List.setIfInBounds_toArray, List.set_cons_zero, List.set_cons_succ] at hK ⊢
    refine ⟨?_⟩
    go_simp
    exact hK _ _ (Below.refl _ _) rfl
  · intro vs hl
    obtain ⟨v0, v1, v2, v3, v4, v5, v6, rfl⟩ := len7 hl
    clear hl
    intro w1 hb hd K hK
    obtain ⟨h0, _⟩ := hd
    obtain rfl : v0 = .pointer (some ⟨w.heap.size + 1, 0, none⟩) := h0
    obtain ⟨l0, l1⟩ := (BB.below hb).two
    simp only [fill, Act.put, List.zip_cons_cons, List.zip_nil_right, List.zip_nil_left, List.foldl_cons, List.foldl_nil, List.setIfInBounds_toArray, List.set_cons_zero, List.set_cons_succ] at hK ⊢
    refine ⟨?_⟩
    go_simp
    exact hK _ _ (Below.refl _ _) rfl
  · intro vs hl
    obtain ⟨v0, v1, v2, v3, v4, v5, v6, rfl⟩ := len7 hl
    clear hl
    intro w1 hb hd K hK
    simp only [fill, Act.put, List.zip_cons_cons, List.zip_nil_right, List.zip_nil_left, List.foldl_cons, List.foldl_nil, List.setIfInBounds_toArray, List.set_cons_zero, List.set_cons_succ] at hK ⊢
    refine ⟨?_⟩
    go_simp
    exact hK _ _ (Below.refl _ _) rfl
  · intro vs hl
    obtain ⟨v0, v1, v2, v3, v4, v5, v6, rfl⟩ := len7 hl
    clear hl
    intro w1 hb hd K hK
    simp only [fill, Act.put, List.zip_cons_cons, List.zip_nil_right, List.zip_nil_left, List.foldl_cons, List.foldl_nil, List.setIfInBounds_toArray, List.set_cons_zero, List.set_cons_succ] at hK ⊢
    refine ⟨?_⟩
    go_simp
    exact hK _ _ (Below.refl _ _) rfl
  · intro vs hl
    obtain ⟨v0, v1, v2, v3, v4, v5, v6, rfl⟩ := len7 hl
    clear hl
    intro w1 hb hd K hK
    obtain ⟨h3, _⟩ := hd
    obtain rfl : v3 = .pointer (some ⟨w.heap.size + 1, 1, none⟩) := h3
    obtain ⟨l0, l1⟩ := (BB.below hb).two
    simp only [fill, Act.put, List.zip_cons_cons, List.zip_nil_right, List.zip_nil_left, List.foldl_cons, List.foldl_nil, List.setIfInBounds_toArray, List.set_cons_zero, List.set_cons_succ] at hK ⊢
    refine ⟨?_⟩
    go_simp
    exact hK _ _ (Below.refl _ _) rfl
  · intro vs hl
    obtain ⟨v0, v1, v2, v3, v4, v5, v6, rfl⟩ := len7 hl
    clear hl
    intro w1 hb hd K hK
    obtain ⟨h2, h4, _⟩ := hd
    obtain rfl : v2 = .float .f64 r6 := h2
    obtain rfl : v4 = .float .f64 d := h4
    simp only [fill, Act.put, List.zip_cons_cons, List.zip_nil_right, List.zip_nil_left, List.foldl_cons, List.foldl_nil, List.setIfInBounds_toArray, List.set_cons_zero, List.set_cons_succ] at hK ⊢
    refine ⟨?_⟩
    go_simp
    refine (by_any _ _ _).mono ?_
    rintro e w2 ⟨rfl, rfl⟩
    exact hK _ _ (below_drewN (Below.refl _ _) _) ⟨_, rfl, fAr_same hr6 (Same.refl _ _) _⟩
  · intro vs hl
    obtain ⟨v0, v1, v2, v3, v4, v5, v6, rfl⟩ := len7 hl
    clear hl
    intro w1 hb hd K hK
    obtain ⟨h1, h5, _⟩ := hd
    obtain rfl : v1 = .float .f64 c := h1
    obtain ⟨m5, rfl, hm5⟩ := h5
    simp only [fill, Act.put, List.zip_cons_cons, List.zip_nil_right, List.zip_nil_left, List.foldl_cons, List.foldl_nil, List.setIfInBounds_toArray, List.set_cons_zero, List.set_cons_succ] at hK ⊢
    refine ⟨?_⟩
    go_simp
    exact hK _ _ (below_drewN (Below.refl _ _) _) ⟨_, rfl, fAr_same (Same.refl _ _) hm5 _⟩
  · unfold LastOk
    intro vs hl
    obtain ⟨v0, v1, v2, v3, v4, v5, v6, rfl⟩ := len7 hl
    clear hl
    intro W6 hb hd K hK
    obtain ⟨h0, h1, h2, h3, h4, h5, h6, _⟩ := hd
    obtain ⟨d7, rfl, hd7⟩ := h6
    have hbq := HB.out.trans ((Below.trans (show Below W5.heap.size W5 W5.drew from pw_below_drewN (Below.refl _ _) 1) hb).mono HB.out.size)
    replace HB := Aside0.mk hbq
    replace BA := BA.below hb
    replace BB := BB.below hb
    replace BZ := BZ.below hb
    clear hb hbq h0 h1 h2 h3 h4 h5
    simp only [fill, Act.put, List.zip_cons_cons, List.zip_nil_right, List.zip_nil_left, List.foldl_cons, List.foldl_nil, List.setIfInBounds_toArray, List.set_cons_zero, List.set_cons_succ] at hK ⊢
    refine ⟨?_⟩
    go_simp
    refine hK _ _ ?_
    clear hK
    go_upto_region 6 with fail
    have hbq := HB.out
    clear HB
    replace BA := BA.drew
    replace BB := BB.drew
    replace BZ := BZ.drew
    refine region_list2 (by kernel_rfl) [51, 52, 53, 54, 55, 56, 57, 58, 59, 60, 61, 62, 63, 64, 65, 66, 67, 68, 69] [undef, undef, undef, undef, undef, undef, undef, undef, undef, undef, undef, undef, undef, undef, undef, undef, undef, undef, undef] [fun v _ => v = .pointer (some ⟨w.heap.size, 0, none⟩), fun v _ => v = .float .f64 p, fun v _ => v = .pointer (some ⟨w.heap.size, 1, none⟩), fun v _ => v = .float .f64 q, fun v _ => v = .float .f64 r6, fun v _ => ∃ m : Nat, v = .float .f64 m ∧ Same .f64 m (fP .mul .f64 q (fP .quo .f64 d c)), fun v _ => ∃ m : Nat, v = .float .f64 m ∧ Same .f64 m (fP .add .f64 p (fP .mul .f64 q (fP .quo .f64 d c))), fun v _ => v = .float .f64 d7, fun v _ => ∃ m : Nat, v = .float .f64 m ∧ Same .f64 m (fP .quo .f64 (fP .add .f64 p (fP .mul .f64 q (fP .quo .f64 d c))) (fP .add .f64 c (fP .mul .f64 (fP .quo .f64 d c) d))), fun v _ => v = .pointer (some ⟨w.heap.size, 1, none⟩), fun v _ => v = .float .f64 q, fun v _ => v = .pointer (some ⟨w.heap.size, 0, none⟩), fun v _ => v = .float .f64 p, fun v _ => v = .float .f64 r6, fun v _ => ∃ m : Nat, v = .float .f64 m ∧ Same .f64 m (fP .mul .f64 p (fP .quo .f64 d c)), fun v _ => ∃ m : Nat, v = .float .f64 m ∧ Same .f64 m (fP .sub .f64 q (fP .mul .f64 p (fP .quo .f64 d c))), fun v _ => v = .float .f64 d7, fun v _ => ∃ m : Nat, v = .float .f64 m ∧ Same .f64 m (fP .quo .f64 (fP .sub .f64 q (fP .mul .f64 p (fP .quo .f64 d c))) (fP .add .f64 c (fP .mul .f64 (fP .quo .f64 d c) d))), fun v _ => ∃ r i : Nat, v = .agg #[.float .f64 r, .float .f64 i] ∧ Same .f64 r (fP .quo .f64 (fP .add .f64 p (fP .mul .f64 q (fP .quo .f64 d c))) (fP .add .f64 c (fP .mul .f64 (fP .quo .f64 d c) d))) ∧ Same .f64 i (fP .quo .f64 (fP .sub .f64 q (fP .mul .f64 p (fP .quo .f64 d c))) (fP .add .f64 c (fP .mul .f64 (fP .quo .f64 d c) d)))] (by kernel_rfl) rfl (by kernel_rfl) ⟨fun _ _ _ h _ => h, fun _ _ _ h _ => h, fun _ _ _ h _ => h, fun _ _ _ h _ => h, fun _ _ _ h _ => h, fun _ _ _ h _ => h, fun _ _ _ h _ => h, fun _ _ _ h _ => h, fun _ _ _ h _ => h, fun _ _ _ h _ => h, fun _ _ _ h _ => h, fun _ _ _ h _ => h, fun _ _ _ h _ => h, fun _ _ _ h _ => h, fun _ _ _ h _ => h, fun _ _ _ h _ => h, fun _ _ _ h _ => h, fun _ _ _ h _ => h, fun _ _ _ h _ => h, trivial⟩ (steps2_cons rfl ?_ (steps2_cons rfl ?_ (steps2_cons rfl ?_ (steps2_cons rfl ?_ (steps2_cons rfl ?_ (steps2_cons rfl ?_ (steps2_cons rfl ?_ (steps2_cons rfl ?_ (steps2_cons rfl ?_ (steps2_cons rfl ?_ (steps2_cons rfl ?_ (steps2_cons rfl ?_ (steps2_cons rfl ?_ (steps2_cons rfl ?_ (steps2_cons rfl ?_ (steps2_cons rfl ?_ (steps2_cons rfl ?_ (steps2_cons rfl ?_ (steps2_cons rfl ?_ (steps2_two ?_))))))))))))))))))))
    · intro vs hl
      obtain ⟨v0, v1, v2, v3, v4, v5, v6, v7, v8, v9, v10, v11, v12, v13, v14, v15, v16, v17, v18, rfl⟩ := len19 hl
      clear hl
      intro w1 hb hd K hK
      simp only [fill, Act.put, List.zip_cons_cons, List.zip_nil_right, List.zip_nil_left, List.foldl_cons, List.foldl_nil, List.setIfInBounds_toArray, List.set_cons_zero, List.set_cons_succ] at hK ⊢
      refine ⟨?_⟩
      go_simp
      exact hK _ _ (Below.refl _ _) rfl
    · intro vs hl
      obtain ⟨v0, v1, v2, v3, v4, v5, v6, v7, v8, v9, v10, v11, v12, v13, v14, v15, v16, v17, v18, rfl⟩ := len19 hl
      clear hl
      intro w1 hb hd K hK
      obtain ⟨h0, _⟩ := hd
      obtain rfl : v0 = .pointer (some ⟨w.heap.size, 0, none⟩) := h0
      obtain ⟨l0, l1⟩ := (BA.below hb).two
      simp only [fill, Act.put, List.zip_cons_cons, List.zip_nil_right, List.zip_nil_left, List.foldl_cons, List.foldl_nil, List.setIfInBounds_toArray, List.set_cons_zero, List.set_cons_succ] at hK ⊢
      refine ⟨?_⟩
      go_simp
      exact hK _ _ (Below.refl _ _) rfl
    · intro vs hl
      obtain ⟨v0, v1, v2, v3, v4, v5, v6, v7, v8, v9, v10, v11, v12, v13, v14, v15, v16, v17, v18, rfl⟩ := len19 hl
      clear hl
      intro w1 hb hd K hK
      simp only [fill, Act.put, List.zip_cons_cons, List.zip_nil_right, List.zip_nil_left, List.foldl_cons, List.foldl_nil, List.setIfInBounds_toArray, List.set_cons_zero, List.set_cons_succ] at hK ⊢
      refine ⟨?_⟩
      go_simp
      exact hK _ _ (Below.refl _ _) rfl
    · intro vs hl
      obtain ⟨v0, v1, v2, v3, v4, v5, v6, v7, v8, v9, v10, v11, v12, v13, v14, v15, v16, v17, v18, rfl⟩ := len19 hl
      clear hl
      intro w1 hb hd K hK
      obtain ⟨h2, _⟩ := hd
      obtain rfl : v2 = .pointer (some ⟨w.heap.size, 1, none⟩) := h2
      obtain ⟨l0, l1⟩ := (BA.below hb).two
      simp only [fill, Act.put, List.zip_cons_cons, List.zip_nil_right, List.zip_nil_left, List.foldl_cons, List.foldl_nil, List.setIfInBounds_toArray, List.set_cons_zero, List.set_cons_succ] at hK ⊢
      refine ⟨?_⟩
      go_simp
      exact hK _ _ (Below.refl _ _) rfl
    · intro vs hl
      obtain ⟨v0, v1, v2, v3, v4, v5, v6, v7, v8, v9, v10, v11, v12, v13, v14, v15, v16, v17, v18, rfl⟩ := len19 hl
      clear hl
      intro w1 hb hd K hK
      simp only [fill, Act.put, List.zip_cons_cons, List.zip_nil_right, List.zip_nil_left, List.foldl_cons, List.foldl_nil, List.setIfInBounds_toArray, List.set_cons_zero, List.set_cons_succ] at hK ⊢
      refine ⟨?_⟩
      go_simp
      exact hK _ _ (Below.refl _ _) rfl
    · intro vs hl
      obtain ⟨v0, v1, v2, v3, v4, v5, v6, v7, v8, v9, v10, v11, v12, v13, v14, v15, v16, v17, v18, rfl⟩ := len19 hl
      clear hl
      intro w1 hb hd K hK
      obtain ⟨h3, h4, _⟩ := hd
      obtain rfl : v3 = .float .f64 q := h3
      obtain rfl : v4 = .float .f64 r6 := h4
      simp only [fill, Act.put, List.zip_cons_cons, List.zip_nil_right, List.zip_nil_left, List.foldl_cons, List.foldl_nil, List.setIfInBounds_toArray, List.set_cons_zero, List.set_cons_succ] at hK ⊢
      refine ⟨?_⟩
      go_simp
      refine (by_any _ _ _).mono ?_
      rintro e w2 ⟨rfl, rfl⟩
      exact hK _ _ (below_drewN (Below.refl _ _) _) ⟨_, rfl, fAr_same (Same.refl _ _) hr6 _⟩
    · intro vs hl
      obtain ⟨v0, v1, v2, v3, v4, v5, v6, v7, v8, v9, v10, v11, v12, v13, v14, v15, v16, v17, v18, rfl⟩ := len19 hl
      clear hl
      intro w1 hb hd K hK
      obtain ⟨h1, h5, _⟩ := hd
      obtain rfl : v1 = .float .f64 p := h1
      obtain ⟨m5, rfl, hm5⟩ := h5
      simp only [fill, Act.put, List.zip_cons_cons, List.zip_nil_right, List.zip_nil_left, List.foldl_cons, List.foldl_nil, List.setIfInBounds_toArray, List.set_cons_zero, List.set_cons_succ] at hK ⊢
      refine ⟨?_⟩
      go_simp
      exact hK _ _ (below_drewN (Below.refl _ _) _) ⟨_, rfl, fAr_same (Same.refl _ _) hm5 _⟩
    · intro vs hl
      obtain ⟨v0, v1, v2, v3, v4, v5, v6, v7, v8, v9, v10, v11, v12, v13, v14, v15, v16, v17, v18, rfl⟩ := len19 hl
      clear hl
      intro w1 hb hd K hK
      simp only [fill, Act.put, List.zip_cons_cons, List.zip_nil_right, List.zip_nil_left, List.foldl_cons, List.foldl_nil, List.setIfInBounds_toArray, List.set_cons_zero, List.set_cons_succ] at hK ⊢
      refine ⟨?_⟩
      go_simp
      exact hK _ _ (Below.refl _ _) rfl
    · intro vs hl
      obtain ⟨v0, v1, v2, v3, v4, v5, v6, v7, v8, v9, v10, v11, v12, v13, v14, v15, v16, v17, v18, rfl⟩ := len19 hl
      clear hl
      intro w1 hb hd K hK
      obtain ⟨h6, h7, _⟩ := hd
      obtain ⟨m6, rfl, hm6⟩ := h6
      obtain rfl : v7 = .float .f64 d7 := h7
      simp only [fill, Act.put, List.zip_cons_cons, List.zip_nil_right, List.zip_nil_left, List.foldl_cons, List.foldl_nil, List.setIfInBounds_toArray, List.set_cons_zero, List.set_cons_succ] at hK ⊢
      refine ⟨?_⟩
      go_simp
      exact hK _ _ (below_drewN (Below.refl _ _) _) ⟨_, rfl, fAr_same hm6 hd7 _⟩
    · intro vs hl
      obtain ⟨v0, v1, v2, v3, v4, v5, v6, v7, v8, v9, v10, v11, v12, v13, v14, v15, v16, v17, v18, rfl⟩ := len19 hl
      clear hl
      intro w1 hb hd K hK
      simp only [fill, Act.put, List.zip_cons_cons, List.zip_nil_right, List.zip_nil_left, List.foldl_cons, List.foldl_nil, List.setIfInBounds_toArray, List.set_cons_zero, List.set_cons_succ] at hK ⊢
      refine ⟨?_⟩
      go_simp
      exact hK _ _ (Below.refl _ _) rfl
    · intro vs hl
      obtain ⟨v0, v1, v2, v3, v4, v5, v6, v7, v8, v9, v10, v11, v12, v13, v14, v15, v16, v17, v18, rfl⟩ := len19 hl
      clear hl
      intro w1 hb hd K hK
      obtain ⟨h9, _⟩ := hd
      obtain rfl : v9 = .pointer (some ⟨w.heap.size, 1, none⟩) := h9
      obtain ⟨l0, l1⟩ := (BA.below hb).two
      simp only [fill, Act.put, List.zip_cons_cons, List.zip_nil_right, List.zip_nil_left, List.foldl_cons, List.foldl_nil, List.setIfInBounds_toArray, List.set_cons_zero, List.set_cons_succ] at hK ⊢
      refine ⟨?_⟩
      go_simp
      exact hK _ _ (Below.refl _ _) rfl
    · intro vs hl
      obtain ⟨v0, v1, v2, v3, v4, v5, v6, v7, v8, v9, v10, v11, v12, v13, v14, v15, v16, v17, v18, rfl⟩ := len19 hl
      clear hl
      intro w1 hb hd K hK
      simp only [fill, Act.put, List.zip_cons_cons, List.zip_nil_right, List.zip_nil_left, List.foldl_cons, List.foldl_nil, List.setIfInBounds_toArray, List.set_cons_zero, List.set_cons_succ] at hK ⊢
      refine ⟨?_⟩
      go_simp
      exact hK _ _ (Below.refl _ _) rfl
    · intro vs hl
      obtain ⟨v0, v1, v2, v3, v4, v5, v6, v7, v8, v9, v10, v11, v12, v13, v14, v15, v16, v17, v18, rfl⟩ := len19 hl
      clear hl
      intro w1 hb hd K hK
      obtain ⟨h11, _⟩ := hd
      obtain rfl : v11 = .pointer (some ⟨w.heap.size, 0, none⟩) := h11
      obtain ⟨l0, l1⟩ := (BA.below hb).two
      simp only [fill, Act.put, List.zip_cons_cons, List.zip_nil_right, List.zip_nil_left, List.foldl_cons, List.foldl_nil, List.setIfInBounds_toArray, List.set_cons_zero, List.set_cons_succ] at hK ⊢
      refine ⟨?_⟩
      go_simp
      exact hK _ _ (Below.refl _ _) rfl
    · intro vs hl
      obtain ⟨v0, v1, v2, v3, v4, v5, v6, v7, v8, v9, v10, v11, v12, v13, v14, v15, v16, v17, v18, rfl⟩ := len19 hl
      clear hl
      intro w1 hb hd K hK
      simp only [fill, Act.put, List.zip_cons_cons, List.zip_nil_right, List.zip_nil_left, List.foldl_cons, List.foldl_nil, List.setIfInBounds_toArray, List.set_cons_zero, List.set_cons_succ] at hK ⊢
      refine ⟨?_⟩
      go_simp
      exact hK _ _ (Below.refl _ _) rfl
    · intro vs hl
      obtain ⟨v0, v1, v2, v3, v4, v5, v6, v7, v8, v9, v10, v11, v12, v13, v14, v15, v16, v17, v18, rfl⟩ := len19 hl
      clear hl
      intro w1 hb hd K hK
      obtain ⟨h12, h13, h5, _⟩ := hd
      obtain rfl : v12 = .float .f64 p := h12
      obtain rfl : v13 = .float .f64 r6 := h13
      obtain ⟨m5, rfl, hm5⟩ := h5
      simp only [fill, Act.put, List.zip_cons_cons, List.zip_nil_right, List.zip_nil_left, List.foldl_cons, List.foldl_nil, List.setIfInBounds_toArray, List.set_cons_zero, List.set_cons_succ] at hK ⊢
      refine ⟨?_⟩
      go_simp
      refine (by_any _ _ _).mono ?_
      rintro e w2 ⟨rfl, rfl⟩
      exact hK _ _ (below_drewN (Below.refl _ _) _) ⟨_, rfl, fAr_same (Same.refl _ _) hr6 _⟩
    · intro vs hl
      obtain ⟨v0, v1, v2, v3, v4, v5, v6, v7, v8, v9, v10, v11, v12, v13, v14, v15, v16, v17, v18, rfl⟩ := len19 hl
      clear hl
      intro w1 hb hd K hK
      obtain ⟨h10, h14, _⟩ := hd
      obtain rfl : v10 = .float .f64 q := h10
      obtain ⟨m14, rfl, hm14⟩ := h14
      simp only [fill, Act.put, List.zip_cons_cons, List.zip_nil_right, List.zip_nil_left, List.foldl_cons, List.foldl_nil, List.setIfInBounds_toArray, List.set_cons_zero, List.set_cons_succ] at hK ⊢
      refine ⟨?_⟩
      go_simp
      exact hK _ _ (below_drewN (Below.refl _ _) _) ⟨_, rfl, fAr_same (Same.refl _ _) hm14 _⟩
    · intro vs hl
      obtain ⟨v0, v1, v2, v3, v4, v5, v6, v7, v8, v9, v10, v11, v12, v13, v14, v15, v16, v17, v18, rfl⟩ := len19 hl
      clear hl
      intro w1 hb hd K hK
      simp only [fill, Act.put, List.zip_cons_cons, List.zip_nil_right, List.zip_nil_left, List.foldl_cons, List.foldl_nil, List.setIfInBounds_toArray, List.set_cons_zero, List.set_cons_succ] at hK ⊢
      refine ⟨?_⟩
      go_simp
      exact hK _ _ (Below.refl _ _) rfl
    · intro vs hl
      obtain ⟨v0, v1, v2, v3, v4, v5, v6, v7, v8, v9, v10, v11, v12, v13, v14, v15, v16, v17, v18, rfl⟩ := len19 hl
      clear hl
      intro w1 hb hd K hK
      obtain ⟨h15, h16, _⟩ := hd
      obtain ⟨m15, rfl, hm15⟩ := h15
      obtain rfl : v16 = .float .f64 d7 := h16
      simp only [fill, Act.put, List.zip_cons_cons, List.zip_nil_right, List.zip_nil_left, List.foldl_cons, List.foldl_nil, List.setIfInBounds_toArray, List.set_cons_zero, List.set_cons_succ] at hK ⊢
      refine ⟨?_⟩
      go_simp
      exact hK _ _ (below_drewN (Below.refl _ _) _) ⟨_, rfl, fAr_same hm15 hd7 _⟩
    · intro vs hl
      obtain ⟨v0, v1, v2, v3, v4, v5, v6, v7, v8, v9, v10, v11, v12, v13, v14, v15, v16, v17, v18, rfl⟩ := len19 hl
      clear hl
      intro w1 hb hd K hK
      obtain ⟨h8, h17, _⟩ := hd
      obtain ⟨m8, rfl, hm8⟩ := h8
      obtain ⟨m17, rfl, hm17⟩ := h17
      simp only [fill, Act.put, List.zip_cons_cons, List.zip_nil_right, List.zip_nil_left, List.foldl_cons, List.foldl_nil, List.setIfInBounds_toArray, List.set_cons_zero, List.set_cons_succ] at hK ⊢
      refine ⟨?_⟩
      go_simp
      exact hK _ _ (Below.refl _ _) ⟨_, _, rfl, hm8, hm17⟩
    · unfold TailOk
      intro vs hl
      obtain ⟨v0, v1, v2, v3, v4, v5, v6, v7, v8, v9, v10, v11, v12, v13, v14, v15, v16, v17, v18, rfl⟩ := len19 hl
      clear hl
      intro w1 hb hd K hK
      obtain ⟨h0, h1, h2, h3, h4, h5, h6, h7, h8, h9, h10, h11, h12, h13, h14, h15, h16, h17, h18, _⟩ := hd
      obtain ⟨r, i, rfl, hr, hi⟩ := h18
      have HE := Aside0.mk (hbq.trans ((Below.trans (show Below W6.heap.size W6 W6.drew from pw_below_drewN (Below.refl _ _) 1) hb).mono hbq.size))
      obtain ⟨z0, z1⟩ := (BZ.below hb).two
      have fz0 := (BZ.below hb).free 0
      have fz1 := (BZ.below hb).free 1
      have y0 : ∀ a b : Value, ((w1.setCell ⟨w.heap.size + 1 + 1, 0, none⟩ a).setCell ⟨w.heap.size + 1 + 1, 1, none⟩ b).cell? ⟨w.heap.size + 1 + 1, 0, none⟩ = some a := fun a b => by rw [World.cell?_setCell_other _ _ _ _ (by simp), World.cell?_setCell_same _ _ _ z0]
      have y1 : ∀ a b : Value, ((w1.setCell ⟨w.heap.size + 1 + 1, 0, none⟩ a).setCell ⟨w.heap.size + 1 + 1, 1, none⟩ b).cell? ⟨w.heap.size + 1 + 1, 1, none⟩ = some b := fun a b => World.cell?_setCell_same _ _ _ (u := .float .f64 0) (by rw [World.cell?_setCell_other _ _ _ _ (by simp)]; exact z1)
      clear BA BB BZ hb hbq h0 h1 h2 h3 h4 h5 h6 h7 h8 h9 h10 h11 h12 h13 h14 h15 h16 h17
      simp only [fill, Act.put, List.zip_cons_cons, List.zip_nil_right, List.zip_nil_left, List.foldl_cons, List.foldl_nil, List.setIfInBounds_toArray, List.set_cons_zero, List.set_cons_succ] at hK ⊢
      refine ⟨?_⟩
      go_simp
      refine hK _ _ (fun K2 hK2 => ?_)
      clear hK
      go_simp
      refine hK2 _ _ ?_
      clear hK2
      go_wp2
      refine ret_val ?_ rfl; simp [results, Try.results43, go_sem, y0, y1]
      refine ⟨⟨r, i, by rw [hok.out], ?_, ?_⟩, below_st (below_st HE.out (by simp; omega) _) (by simp; omega) _⟩
      · rw [hok.out, if_pos rfl, hre.out]; exact hr
      · rw [hok.out, if_pos rfl, him.out]; exact hi
set_option maxHeartbeats 8000000 in
set_option maxRecDepth 100000 in
theorem over_impl_g1t (p q c d : Nat) (hp : p < 18446744073709551616) (hq : q < 18446744073709551616) (hc : c < 18446744073709551616) (hd : d < 18446744073709551616) (hF : (finB p && finB q && finB c && finB d) = true) (g1 : (FloatKind.f64.format.order c 0 == some .eq) = true) (g2 : (FloatKind.f64.format.order d 0 == some .eq) = false) (hg : (FloatKind.f64.format.order (absF c) (absF d) == some .gt || FloatKind.f64.format.order (absF c) (absF d) == some .eq) = true) (w : World) :
    Calls Try.prog 43 #[.agg #[.float .f64 p, .float .f64 q], .agg #[.float .f64 c, .float .f64 d]] w fun e w' => OvIs p q c d e ∧ Below w.heap.size w w' := by
  have HX := Aside0.mk (show ∀ j : Nat, j < 4 → rf [p, q, c, d] j < 18446744073709551616 from fun j hj => by
    match j, hj with
    | 0, _ => exact hp
    | 1, _ => exact hq
    | 2, _ => exact hc
    | 3, _ => exact hd)
  have hC := C_four (((w.alloc (.cells #[.float .f64 p, .float .f64 q] 26)).alloc (.cells #[.float .f64 c, .float .f64 d] 26)).alloc (.cells #[.float .f64 0, .float .f64 0] 26)) p q c d 23
  rw [show (((w.alloc (.cells #[.float .f64 p, .float .f64 q] 26)).alloc (.cells #[.float .f64 c, .float .f64 d] 26)).alloc (.cells #[.float .f64 0, .float .f64 0] 26)).heap.size = w.heap.size + 1 + 1 + 1 from by simp] at hC
  have ct := Aside0.mk (finite_any (some ⟨w.heap.size + 1 + 1 + 1, 0, none⟩) 4 [p, q, c, d] 4 _ hC (by omega) HX.out)
  clear hC HX
  have hall : [p, q, c, d].all finB = (finB p && finB q && finB c && finB d) := by simp [Bool.and_assoc]
  rw [hall, hF] at ct
  clear hall
  have hok := Aside0.mk (show ovOk p q c d = true by unfold ovOk eqB; rw [hF]; simp [g1, g2])
  have hre := Aside0.mk (show ovRe p q c d = _ by unfold ovRe geB2; rw [hg])
  have him := Aside0.mk (show ovIm p q c d = _ by unfold ovIm geB2; rw [hg])
  clear hp hq hF
  go_enter Try.func43, Try.ntmps43
  go_upto_region 3 with (go_at_call 67; refine ct.out.mono ?_; rintro e w1 ⟨rfl, hb1⟩; have hbq : Below w.heap.size w w1 := (below_al (below_al (below_al (below_al (Below.refl w.heap.size w) _) _) _) _).trans (hb1.mono (by simp; omega)); have BA : Blk w1 (w.heap.size) 26 #[.float .f64 p, .float .f64 q] := ((((Blk.new w _ _).alloc _).alloc _).alloc _).below hb1; have BB : Blk w1 (w.heap.size + 1) 26 #[.float .f64 c, .float .f64 d] := (((Blk.newAt _ _ (by simp)).alloc _).alloc _).below hb1; have BZ : Blk w1 (w.heap.size + 1 + 1) 26 #[.float .f64 0, .float .f64 0] := ((Blk.newAt _ _ (by simp)).alloc _).below hb1; obtain ⟨qa0, qa1⟩ := BA.two; obtain ⟨qb0, qb1⟩ := BB.two; obtain ⟨qz0, qz1⟩ := BZ.two; have fz0 := BZ.free 0; have fz1 := BZ.free 1; have HB := Aside0.mk hbq; clear hb1 hbq ct)
  go_quiet (((go_at_call 69; first | exact Calls.quiet_of_same (abs_any c hc _) | exact Calls.quiet_of_same (abs_any d hd _))))
  replace BA := BA.drewN nq
  replace BB := BB.drewN nq
  replace BZ := BZ.drewN nq
  replace HB := Aside0.mk (below_drewN HB.out nq)
  clear qa0 qa1 qb0 qb1 qz0 qz1 fz0 fz1
  have hbq := HB.out
  generalize w1.drewN nq = W4 at BA BB BZ hbq ⊢
  replace HB := Aside0.mk hbq
  clear hbq
  obtain ⟨qa0, qa1⟩ := BA.two
  obtain ⟨qb0, qb1⟩ := BB.two
  obtain ⟨qz0, qz1⟩ := BZ.two
  have fz0 := BZ.free 0
  have fz1 := BZ.free 1
  go_upto_region 5 with fail
  have hr6 : Same .f64 (fAr .quo .f64 d c W4) (fP .quo .f64 d c) := fAr_same (Same.refl _ _) (Same.refl _ _) _
  generalize fAr .quo .f64 d c W4 = r6 at hr6 ⊢
  replace BA := BA.drewN (fN .quo .f64 d c)
  replace BB := BB.drewN (fN .quo .f64 d c)
  replace BZ := BZ.drewN (fN .quo .f64 d c)
  replace HB := Aside0.mk (below_drewN HB.out (fN .quo .f64 d c))
  clear qa0 qa1 qb0 qb1 qz0 qz1 fz0 fz1
  have hbq := HB.out
  generalize W4.drewN (fN .quo .f64 d c) = W5 at BA BB BZ hbq ⊢
  replace HB := Aside0.mk hbq
  clear hbq
  obtain ⟨qa0, qa1⟩ := BA.two
  obtain ⟨qb0, qb1⟩ := BB.two
  obtain ⟨qz0, qz1⟩ := BZ.two
  have fz0 := BZ.free 0
  have fz1 := BZ.free 1
  clear qa0 qa1 qb0 qb1 qz0 qz1 fz0 fz1
  replace BA := BA.drew
  replace BB := BB.drew
  replace BZ := BZ.drew
  refine region_list (by kernel_rfl) [44, 45, 46, 47, 48, 49, 50] [undef, undef, undef, undef, undef, undef, undef] [fun v _ => v = .pointer (some ⟨w.heap.size + 1, 0, none⟩), fun v _ => v = .float .f64 c, fun v _ => v = .float .f64 r6, fun v _ => v = .pointer (some ⟨w.heap.size + 1, 1, none⟩), fun v _ => v = .float .f64 d, fun v _ => ∃ m : Nat, v = .float .f64 m ∧ Same .f64 m (fP .mul .f64 (fP .quo .f64 d c) d), fun v _ => ∃ m : Nat, v = .float .f64 m ∧ Same .f64 m (fP .add .f64 c (fP .mul .f64 (fP .quo .f64 d c) d))] (by kernel_rfl) rfl (by kernel_rfl) ⟨fun _ _ _ h _ => h, fun _ _ _ h _ => h, fun _ _ _ h _ => h, fun _ _ _ h _ => h, fun _ _ _ h _ => h, fun _ _ _ h _ => h, fun _ _ _ h _ => h, trivial⟩ (steps_plain rfl ?_ (steps_plain rfl ?_ (steps_plain rfl ?_ (steps_plain rfl ?_ (steps_plain rfl ?_ (steps_plain rfl ?_ (steps_plain rfl ?_ (steps_one ?_))))))))
  · intro vs hl
    obtain ⟨v0, v1, v2, v3, v4, v5, v6, rfl⟩ := len7 hl
    clear hl
    intro w1 hb hd K hK
    simp only [fill, Act.put, List.zip_cons_cons, List.zip_nil_right, List.zip_nil_left, List.foldl_cons, List.foldl_nil, List.setIfInBounds_toArray, List.set_cons_zero, List.set_cons_succ] at hK ⊢
    refine ⟨?_⟩
    go_simp
    exact hK _ _ (Below.refl _ _) rfl
  · intro vs hl
    obtain ⟨v0, v1, v2, v3, v4, v5, v6, rfl⟩ := len7 hl
    clear hl
    intro w1 hb hd K hK
    obtain ⟨h0, _⟩ := hd
    obtain rfl : v0 = .pointer (some ⟨w.heap.size + 1, 0, none⟩) := h0
    obtain ⟨l0, l1⟩ := (BB.below hb).two
    simp only [fill, Act.put, List.zip_cons_cons, List.zip_nil_right, List.zip_nil_left, List.foldl_cons, List.foldl_nil, List.setIfInBounds_toArray, List.set_cons_zero, List.set_cons_succ] at hK ⊢
    refine ⟨?_⟩
    go_simp
    exact hK _ _ (Below.refl _ _) rfl
  · intro vs hl
    obtain ⟨v0, v1, v2, v3, v4, v5, v6, rfl⟩ := len7 hl
    clear hl
    intro w1 hb hd K hK
    simp only [fill, Act.put, List.zip_cons_cons, List.zip_nil_right, List.zip_nil_left, List.foldl_cons, List.foldl_nil, List.setIfInBounds_toArray, List.set_cons_zero, List.set_cons_succ] at hK ⊢
    refine ⟨?_⟩
    go_simp
    exact hK _ _ (Below.refl _ _) rfl
  · intro vs hl
    obtain ⟨v0, v1, v2, v3, v4, v5, v6, rfl⟩ := len7 hl
    clear hl
    intro w1 hb hd K hK
    simp only [fill, Act.put, List.zip_cons_cons, List.zip_nil_right, List.zip_nil_left, List.foldl_cons, List.foldl_nil, List.setIfInBounds_toArray, List.set_cons_zero, List.set_cons_succ] at hK ⊢
    refine ⟨?_⟩
    go_simp
    exact hK _ _ (Below.refl _ _) rfl
  · intro vs hl
    obtain ⟨v0, v1, v2, v3, v4, v5, v6, rfl⟩ := len7 hl
    clear hl
    intro w1 hb hd K hK
    obtain ⟨h3, _⟩ := hd
    obtain rfl : v3 = .pointer (some ⟨w.heap.size + 1, 1, none⟩) := h3
    obtain ⟨l0, l1⟩ := (BB.below hb).two
    simp only [fill, Act.put, List.zip_cons_cons, List.zip_nil_right, List.zip_nil_left, List.foldl_cons, List.foldl_nil, List.setIfInBounds_toArray, List.set_cons_zero, List.set_cons_succ] at hK ⊢
    refine ⟨?_⟩
    go_simp
    exact hK _ _ (Below.refl _ _) rfl
  · intro vs hl
    obtain ⟨v0, v1, v2, v3, v4, v5, v6, rfl⟩ := len7 hl
    clear hl
    intro w1 hb hd K hK
    obtain ⟨h2, h4, _⟩ := hd
    obtain rfl : v2 = .float .f64 r6 := h2
    obtain rfl : v4 = .float .f64 d := h4
    simp only [fill, Act.put, List.zip_cons_cons, List.zip_nil_right, List.zip_nil_left, List.foldl_cons, List.foldl_nil, List.setIfInBounds_toArray, List.set_cons_zero, List.set_cons_succ] at hK ⊢
    refine ⟨?_⟩
    go_simp
    refine (by_any _ _ _).mono ?_
    rintro e w2 ⟨rfl, rfl⟩
    exact hK _ _ (below_drewN (Below.refl _ _) _) ⟨_, rfl, fAr_same hr6 (Same.refl _ _) _⟩
  · intro vs hl
    obtain ⟨v0, v1, v2, v3, v4, v5, v6, rfl⟩ := len7 hl
    clear hl
    intro w1 hb hd K hK
    obtain ⟨h1, h5, _⟩ := hd
    obtain rfl : v1 = .float .f64 c := h1
    obtain ⟨m5, rfl, hm5⟩ := h5
    simp only [fill, Act.put, List.zip_cons_cons, List.zip_nil_right, List.zip_nil_left, List.foldl_cons, List.foldl_nil, List.setIfInBounds_toArray, List.set_cons_zero, List.set_cons_succ] at hK ⊢
    refine ⟨?_⟩
    go_simp
    exact hK _ _ (below_drewN (Below.refl _ _) _) ⟨_, rfl, fAr_same (Same.refl _ _) hm5 _⟩
  · unfold LastOk
    intro vs hl
    obtain ⟨v0, v1, v2, v3, v4, v5, v6, rfl⟩ := len7 hl
    clear hl
    intro W6 hb hd K hK
    obtain ⟨h0, h1, h2, h3, h4, h5, h6, _⟩ := hd
    obtain ⟨d7, rfl, hd7⟩ := h6
    have hbq := HB.out.trans ((Below.trans (show Below W5.heap.size W5 W5.drew from pw_below_drewN (Below.refl _ _) 1) hb).mono HB.out.size)
    replace HB := Aside0.mk hbq
    replace BA := BA.below hb
    replace BB := BB.below hb
    replace BZ := BZ.below hb
    clear hb hbq h0 h1 h2 h3 h4 h5
    simp only [fill, Act.put, List.zip_cons_cons, List.zip_nil_right, List.zip_nil_left, List.foldl_cons, List.foldl_nil, List.setIfInBounds_toArray, List.set_cons_zero, List.set_cons_succ] at hK ⊢
    refine ⟨?_⟩
    go_simp
    refine hK _ _ ?_
    clear hK
    go_upto_region 6 with fail
    have hbq := HB.out
    clear HB
    replace BA := BA.drew
    replace BB := BB.drew
    replace BZ := BZ.drew
    refine region_list2 (by kernel_rfl) [51, 52, 53, 54, 55, 56, 57, 58, 59, 60, 61, 62, 63, 64, 65, 66, 67, 68, 69] [undef, undef, undef, undef, undef, undef, undef, undef, undef, undef, undef, undef, undef, undef, undef, undef, undef, undef, undef] [fun v _ => v = .pointer (some ⟨w.heap.size, 0, none⟩), fun v _ => v = .float .f64 p, fun v _ => v = .pointer (some ⟨w.heap.size, 1, none⟩), fun v _ => v = .float .f64 q, fun v _ => v = .float .f64 r6, fun v _ => ∃ m : Nat, v = .float .f64 m ∧ Same .f64 m (fP .mul .f64 q (fP .quo .f64 d c)), fun v _ => ∃ m : Nat, v = .float .f64 m ∧ Same .f64 m (fP .add .f64 p (fP .mul .f64 q (fP .quo .f64 d c))), fun v _ => v = .float .f64 d7, fun v _ => ∃ m : Nat, v = .float .f64 m ∧ Same .f64 m (fP .quo .f64 (fP .add .f64 p (fP .mul .f64 q (fP .quo .f64 d c))) (fP .add .f64 c (fP .mul .f64 (fP .quo .f64 d c) d))), fun v _ => v = .pointer (some ⟨w.heap.size, 1, none⟩), fun v _ => v = .float .f64 q, fun v _ => v = .pointer (some ⟨w.heap.size, 0, none⟩), fun v _ => v = .float .f64 p, fun v _ => v = .float .f64 r6, fun v _ => ∃ m : Nat, v = .float .f64 m ∧ Same .f64 m (fP .mul .f64 p (fP .quo .f64 d c)), fun v _ => ∃ m : Nat, v = .float .f64 m ∧ Same .f64 m (fP .sub .f64 q (fP .mul .f64 p (fP .quo .f64 d c))), fun v _ => v = .float .f64 d7, fun v _ => ∃ m : Nat, v = .float .f64 m ∧ Same .f64 m (fP .quo .f64 (fP .sub .f64 q (fP .mul .f64 p (fP .quo .f64 d c))) (fP .add .f64 c (fP .mul .f64 (fP .quo .f64 d c) d))), fun v _ => ∃ r i : Nat, v = .agg #[.float .f64 r, .float .f64 i] ∧ Same .f64 r (fP .quo .f64 (fP .add .f64 p (fP .mul .f64 q (fP .quo .f64 d c))) (fP .add .f64 c (fP .mul .f64 (fP .quo .f64 d c) d))) ∧ Same .f64 i (fP .quo .f64 (fP .sub .f64 q (fP .mul .f64 p (fP .quo .f64 d c))) (fP .add .f64 c (fP .mul .f64 (fP .quo .f64 d c) d)))] (by kernel_rfl) rfl (by kernel_rfl) ⟨fun _ _ _ h _ => h, fun _ _ _ h _ => h, fun _ _ _ h _ => h, fun _ _ _ h _ => h, fun _ _ _ h _ => h, fun _ _ _ h _ => h, fun _ _ _ h _ => h, fun _ _ _ h _ => h, fun _ _ _ h _ => h, fun _ _ _ h _ => h, fun _ _ _ h _ => h, fun _ _ _ h _ => h, fun _ _ _ h _ => h, fun _ _ _ h _ => h, fun _ _ _ h _ => h, fun _ _ _ h _ => h, fun _ _ _ h _ => h, fun _ _ _ h _ => h, fun _ _ _ h _ => h, trivial⟩ (steps2_cons rfl ?_ (steps2_cons rfl ?_ (steps2_cons rfl ?_ (steps2_cons rfl ?_ (steps2_cons rfl ?_ (steps2_cons rfl ?_ (steps2_cons rfl ?_ (steps2_cons rfl ?_ (steps2_cons rfl ?_ (steps2_cons rfl ?_ (steps2_cons rfl ?_ (steps2_cons rfl ?_ (steps2_cons rfl ?_ (steps2_cons rfl ?_ (steps2_cons rfl ?_ (steps2_cons rfl ?_ (steps2_cons rfl ?_ (steps2_cons rfl ?_ (steps2_cons rfl ?_ (steps2_two ?_))))))))))))))))))))
    · intro vs hl
      obtain ⟨v0, v1, v2, v3, v4, v5, v6, v7, v8, v9, v10, v11, v12, v13, v14, v15, v16, v17, v18, rfl⟩ := len19 hl
      clear hl
      intro w1 hb hd K hK
      simp only [fill, Act.put, List.zip_cons_cons, List.zip_nil_right, List.zip_nil_left, List.foldl_cons, List.foldl_nil, List.setIfInBounds_toArray, List.set_cons_zero, List.set_cons_succ] at hK ⊢
      refine ⟨?_⟩
      go_simp
      exact hK _ _ (Below.refl _ _) rfl
    · intro vs hl
      obtain ⟨v0, v1, v2, v3, v4, v5, v6, v7, v8, v9, v10, v11, v12, v13, v14, v15, v16, v17, v18, rfl⟩ := len19 hl
      clear hl
      intro w1 hb hd K hK
      obtain ⟨h0, _⟩ := hd
      obtain rfl : v0 = .pointer (some ⟨w.heap.size, 0, none⟩) := h0
      obtain ⟨l0, l1⟩ := (BA.below hb).two
      simp only [fill, Act.put, List.zip_cons_cons, List.zip_nil_right, List.zip_nil_left, List.foldl_cons, List.foldl_nil, List.setIfInBounds_toArray, List.set_cons_zero, List.set_cons_succ] at hK ⊢
      refine ⟨?_⟩
      go_simp
      exact hK _ _ (Below.refl _ _) rfl
    · intro vs hl
      obtain ⟨v0, v1, v2, v3, v4, v5, v6, v7, v8, v9, v10, v11, v12, v13, v14, v15, v16, v17, v18, rfl⟩ := len19 hl
      clear hl
      intro w1 hb hd K hK
      simp only [fill, Act.put, List.zip_cons_cons, List.zip_nil_right, List.zip_nil_left, List.foldl_cons, List.foldl_nil, List.setIfInBounds_toArray, List.set_cons_zero, List.set_cons_succ] at hK ⊢
      refine ⟨?_⟩
      go_simp
      exact hK _ _ (Below.refl _ _) rfl
    · intro vs hl
      obtain ⟨v0, v1, v2, v3, v4, v5, v6, v7, v8, v9, v10, v11, v12, v13, v14, v15, v16, v17, v18, rfl⟩ := len19 hl
      clear hl
      intro w1 hb hd K hK
      obtain ⟨h2, _⟩ := hd
      obtain rfl : v2 = .pointer (some ⟨w.heap.size, 1, none⟩) := h2
      obtain ⟨l0, l1⟩ := (BA.below hb).two
      simp only [fill, Act.put, List.zip_cons_cons, List.zip_nil_right, List.zip_nil_left, List.foldl_cons, List.foldl_nil, List.setIfInBounds_toArray, List.set_cons_zero, List.set_cons_succ] at hK ⊢
      refine ⟨?_⟩
      go_simp
      exact hK _ _ (Below.refl _ _) rfl
    · intro vs hl
      obtain ⟨v0, v1, v2, v3, v4, v5, v6, v7, v8, v9, v10, v11, v12, v13, v14, v15, v16, v17, v18, rfl⟩ := len19 hl
      clear hl
      intro w1 hb hd K hK
      simp only [fill, Act.put, List.zip_cons_cons, List.zip_nil_right, List.zip_nil_left, List.foldl_cons, List.foldl_nil, List.setIfInBounds_toArray, List.set_cons_zero, List.set_cons_succ] at hK ⊢
      refine ⟨?_⟩
      go_simp
      exact hK _ _ (Below.refl _ _) rfl
    · intro vs hl
      obtain ⟨v0, v1, v2, v3, v4, v5, v6, v7, v8, v9, v10, v11, v12, v13, v14, v15, v16, v17, v18, rfl⟩ := len19 hl
      clear hl
      intro w1 hb hd K hK
      obtain ⟨h3, h4, _⟩ := hd
      obtain rfl : v3 = .float .f64 q := h3
      obtain rfl : v4 = .float .f64 r6 := h4
      simp only [fill, Act.put, List.zip_cons_cons, List.zip_nil_right, List.zip_nil_left, List.foldl_cons, List.foldl_nil, List.setIfInBounds_toArray, List.set_cons_zero, List.set_cons_succ] at hK ⊢
      refine ⟨?_⟩
      go_simp
      refine (by_any _ _ _).mono ?_
      rintro e w2 ⟨rfl, rfl⟩
      exact hK _ _ (below_drewN (Below.refl _ _) _) ⟨_, rfl, fAr_same (Same.refl _ _) hr6 _⟩
    · intro vs hl
      obtain ⟨v0, v1, v2, v3, v4, v5, v6, v7, v8, v9, v10, v11, v12, v13, v14, v15, v16, v17, v18, rfl⟩ := len19 hl
      clear hl
      intro w1 hb hd K hK
      obtain ⟨h1, h5, _⟩ := hd
      obtain rfl : v1 = .float .f64 p := h1
      obtain ⟨m5, rfl, hm5⟩ := h5
      simp only [fill, Act.put, List.zip_cons_cons, List.zip_nil_right, List.zip_nil_left, List.foldl_cons, List.foldl_nil, List.setIfInBounds_toArray, List.set_cons_zero, List.set_cons_succ] at hK ⊢
      refine ⟨?_⟩
      go_simp
      exact hK _ _ (below_drewN (Below.refl _ _) _) ⟨_, rfl, fAr_same (Same.refl _ _) hm5 _⟩
    · intro vs hl
      obtain ⟨v0, v1, v2, v3, v4, v5, v6, v7, v8, v9, v10, v11, v12, v13, v14, v15, v16, v17, v18, rfl⟩ := len19 hl
      clear hl
      intro w1 hb hd K hK
      simp only [fill, Act.put, List.zip_cons_cons, List.zip_nil_right, List.zip_nil_left, List.foldl_cons, List.foldl_nil, List.setIfInBounds_toArray, List.set_cons_zero, List.set_cons_succ] at hK ⊢
      refine ⟨?_⟩
      go_simp
      exact hK _ _ (Below.refl _ _) rfl
    · intro vs hl
      obtain ⟨v0, v1, v2, v3, v4, v5, v6, v7, v8, v9, v10, v11, v12, v13, v14, v15, v16, v17, v18, rfl⟩ := len19 hl
      clear hl
      intro w1 hb hd K hK
      obtain ⟨h6, h7, _⟩ := hd
      obtain ⟨m6, rfl, hm6⟩ := h6
      obtain rfl : v7 = .float .f64 d7 := h7
      simp only [fill, Act.put, List.zip_cons_cons, List.zip_nil_right, List.zip_nil_left, List.foldl_cons, List.foldl_nil, List.setIfInBounds_toArray, List.set_cons_zero, List.set_cons_succ] at hK ⊢
      refine ⟨?_⟩
      go_simp
      exact hK _ _ (below_drewN (Below.refl _ _) _) ⟨_, rfl, fAr_same hm6 hd7 _⟩
    · intro vs hl
      obtain ⟨v0, v1, v2, v3, v4, v5, v6, v7, v8, v9, v10, v11, v12, v13, v14, v15, v16, v17, v18, rfl⟩ := len19 hl
      clear hl
      intro w1 hb hd K hK
      simp only [fill, Act.put, List.zip_cons_cons, List.zip_nil_right, List.zip_nil_left, List.foldl_cons, List.foldl_nil, List.setIfInBounds_toArray, List.set_cons_zero, List.set_cons_succ] at hK ⊢
      refine ⟨?_⟩
      go_simp
      exact hK _ _ (Below.refl _ _) rfl
    · intro vs hl
      obtain ⟨v0, v1, v2, v3, v4, v5, v6, v7, v8, v9, v10, v11, v12, v13, v14, v15, v16, v17, v18, rfl⟩ := len19 hl
      clear hl
      intro w1 hb hd K hK
      obtain ⟨h9, _⟩ := hd
      obtain rfl : v9 = .pointer (some ⟨w.heap.size, 1, none⟩) := h9
      obtain ⟨l0, l1⟩ := (BA.below hb).two
      simp only [fill, Act.put, List.zip_cons_cons, List.zip_nil_right, List.zip_nil_left, List.foldl_cons, List.foldl_nil, List.setIfInBounds_toArray, List.set_cons_zero, List.set_cons_succ] at hK ⊢
      refine ⟨?_⟩
      go_simp
      exact hK _ _ (Below.refl _ _) rfl
    · intro vs hl
      obtain ⟨v0, v1, v2, v3, v4, v5, v6, v7, v8, v9, v10, v11, v12, v13, v14, v15, v16, v17, v18, rfl⟩ := len19 hl
      clear hl
      intro w1 hb hd K hK
      simp only [fill, Act.put, List.zip_cons_cons, List.zip_nil_right, List.zip_nil_left, List.foldl_cons, List.foldl_nil, List.setIfInBounds_toArray, List.set_cons_zero, List.set_cons_succ] at hK ⊢
      refine ⟨?_⟩
      go_simp
      exact hK _ _ (Below.refl _ _) rfl
    · intro vs hl
      obtain ⟨v0, v1, v2, v3, v4, v5, v6, v7, v8, v9, v10, v11, v12, v13, v14, v15, v16, v17, v18, rfl⟩ := len19 hl
      clear hl
      intro w1 hb hd K hK
      obtain ⟨h11, _⟩ := hd
      obtain rfl : v11 = .pointer (some ⟨w.heap.size, 0, none⟩) := h11
      obtain ⟨l0, l1⟩ := (BA.below hb).two
      simp only [fill, Act.put, List.zip_cons_cons, List.zip_nil_right, List.zip_nil_left, List.foldl_cons, List.foldl_nil, List.setIfInBounds_toArray, List.set_cons_zero, List.set_cons_succ] at hK ⊢
      refine ⟨?_⟩
      go_simp
      exact hK _ _ (Below.refl _ _) rfl
    · intro vs hl
      obtain ⟨v0, v1, v2, v3, v4, v5, v6, v7, v8, v9, v10, v11, v12, v13, v14, v15, v16, v17, v18, rfl⟩ := len19 hl
      clear hl
      intro w1 hb hd K hK
      simp only [fill, Act.put, List.zip_cons_cons, List.zip_nil_right, List.zip_nil_left, List.foldl_cons, List.foldl_nil, List.setIfInBounds_toArray, List.set_cons_zero, List.set_cons_succ] at hK ⊢
      refine ⟨?_⟩
      go_simp
      exact hK _ _ (Below.refl _ _) rfl
    · intro vs hl
      obtain ⟨v0, v1, v2, v3, v4, v5, v6, v7, v8, v9, v10, v11, v12, v13, v14, v15, v16, v17, v18, rfl⟩ := len19 hl
      clear hl
      intro w1 hb hd K hK
      obtain ⟨h12, h13, h5, _⟩ := hd
      obtain rfl : v12 = .float .f64 p := h12
      obtain rfl : v13 = .float .f64 r6 := h13
      obtain ⟨m5, rfl, hm5⟩ := h5
      simp only [fill, Act.put, List.zip_cons_cons, List.zip_nil_right, List.zip_nil_left, List.foldl_cons, List.foldl_nil, List.setIfInBounds_toArray, List.set_cons_zero, List.set_cons_succ] at hK ⊢
      refine ⟨?_⟩
      go_simp
      refine (by_any _ _ _).mono ?_
      rintro e w2 ⟨rfl, rfl⟩
      exact hK _ _ (below_drewN (Below.refl _ _) _) ⟨_, rfl, fAr_same (Same.refl _ _) hr6 _⟩
    · intro vs hl
      obtain ⟨v0, v1, v2, v3, v4, v5, v6, v7, v8, v9, v10, v11, v12, v13, v14, v15, v16, v17, v18, rfl⟩ := len19 hl
      clear hl
      intro w1 hb hd K hK
      obtain ⟨h10, h14, _⟩ := hd
      obtain rfl : v10 = .float .f64 q := h10
      obtain ⟨m14, rfl, hm14⟩ := h14
      simp only [fill, Act.put, List.zip_cons_cons, List.zip_nil_right, List.zip_nil_left, List.foldl_cons, List.foldl_nil, List.setIfInBounds_toArray, List.set_cons_zero, List.set_cons_succ] at hK ⊢
      refine ⟨?_⟩
      go_simp
      exact hK _ _ (below_drewN (Below.refl _ _) _) ⟨_, rfl, fAr_same (Same.refl _ _) hm14 _⟩
    · intro vs hl
      obtain ⟨v0, v1, v2, v3, v4, v5, v6, v7, v8, v9, v10, v11, v12, v13, v14, v15, v16, v17, v18, rfl⟩ := len19 hl
      clear hl
      intro w1 hb hd K hK
      simp only [fill, Act.put, List.zip_cons_cons, List.zip_nil_right, List.zip_nil_left, List.foldl_cons, List.foldl_nil, List.setIfInBounds_toArray, List.set_cons_zero, List.set_cons_succ] at hK ⊢
      refine ⟨?_⟩
      go_simp
      exact hK _ _ (Below.refl _ _) rfl
    · intro vs hl
      obtain ⟨v0, v1, v2, v3, v4, v5, v6, v7, v8, v9, v10, v11, v12, v13, v14, v15, v16, v17, v18, rfl⟩ := len19 hl
      clear hl
      intro w1 hb hd K hK
      obtain ⟨h15, h16, _⟩ := hd
      obtain ⟨m15, rfl, hm15⟩ := h15
      obtain rfl : v16 = .float .f64 d7 := h16
      simp only [fill, Act.put, List.zip_cons_cons, List.zip_nil_right, List.zip_nil_left, List.foldl_cons, List.foldl_nil, List.setIfInBounds_toArray, List.set_cons_zero, List.set_cons_succ] at hK ⊢
      refine ⟨?_⟩
      go_simp
      exact hK _ _ (below_drewN (Below.refl _ _) _) ⟨_, rfl, fAr_same hm15 hd7 _⟩
    · intro vs hl
      obtain ⟨v0, v1, v2, v3, v4, v5, v6, v7, v8, v9, v10, v11, v12, v13, v14, v15, v16, v17, v18, rfl⟩ := len19 hl
      clear hl
      intro w1 hb hd K hK
      obtain ⟨h8, h17, _⟩ := hd
      obtain ⟨m8, rfl, hm8⟩ := h8
      obtain ⟨m17, rfl, hm17⟩ := h17
      simp only [fill, Act.put, List.zip_cons_cons, List.zip_nil_right, List.zip_nil_left, List.foldl_cons, List.foldl_nil, List.setIfInBounds_toArray, List.set_cons_zero, List.set_cons_succ] at hK ⊢
      refine ⟨?_⟩
      go_simp
      exact hK _ _ (Below.refl _ _) ⟨_, _, rfl, hm8, hm17⟩
    · unfold TailOk
      intro vs hl
      obtain ⟨v0, v1, v2, v3, v4, v5, v6, v7, v8, v9, v10, v11, v12, v13, v14, v15, v16, v17, v18, rfl⟩ := len19 hl
      clear hl
      intro w1 hb hd K hK
      obtain ⟨h0, h1, h2, h3, h4, h5, h6, h7, h8, h9, h10, h11, h12, h13, h14, h15, h16, h17, h18, _⟩ := hd
      obtain ⟨r, i, rfl, hr, hi⟩ := h18
      have HE := Aside0.mk (hbq.trans ((Below.trans (show Below W6.heap.size W6 W6.drew from pw_below_drewN (Below.refl _ _) 1) hb).mono hbq.size))
      obtain ⟨z0, z1⟩ := (BZ.below hb).two
      have fz0 := (BZ.below hb).free 0
      have fz1 := (BZ.below hb).free 1
      have y0 : ∀ a b : Value, ((w1.setCell ⟨w.heap.size + 1 + 1, 0, none⟩ a).setCell ⟨w.heap.size + 1 + 1, 1, none⟩ b).cell? ⟨w.heap.size + 1 + 1, 0, none⟩ = some a := fun a b => by rw [World.cell?_setCell_other _ _ _ _ (by simp), World.cell?_setCell_same _ _ _ z0]
      have y1 : ∀ a b : Value, ((w1.setCell ⟨w.heap.size + 1 + 1, 0, none⟩ a).setCell ⟨w.heap.size + 1 + 1, 1, none⟩ b).cell? ⟨w.heap.size + 1 + 1, 1, none⟩ = some b := fun a b => World.cell?_setCell_same _ _ _ (u := .float .f64 0) (by rw [World.cell?_setCell_other _ _ _ _ (by simp)]; exact z1)
      clear BA BB BZ hb hbq h0 h1 h2 h3 h4 h5 h6 h7 h8 h9 h10 h11 h12 h13 h14 h15 h16 h17
      simp only [fill, Act.put, List.zip_cons_cons, List.zip_nil_right, List.zip_nil_left, List.foldl_cons, List.foldl_nil, List.setIfInBounds_toArray, List.set_cons_zero, List.set_cons_succ] at hK ⊢
      refine ⟨?_⟩
      go_simp
      refine hK _ _ (fun K2 hK2 => ?_)
      clear hK
      go_simp
      refine hK2 _ _ ?_
      clear hK2
      go_wp2
      refine ret_val ?_ rfl; simp [results, Try.results43, go_sem, y0, y1]
      refine ⟨⟨r, i, by rw [hok.out], ?_, ?_⟩, below_st (below_st HE.out (by simp; omega) _) (by simp; omega) _⟩
      · rw [hok.out, if_pos rfl, hre.out]; exact hr
      · rw [hok.out, if_pos rfl, him.out]; exact hi
set_option maxHeartbeats 8000000 in
set_option maxRecDepth 100000 in
theorem over_impl_g0f (p q c d : Nat) (hp : p < 18446744073709551616) (hq : q < 18446744073709551616) (hc : c < 18446744073709551616) (hd : d < 18446744073709551616) (hF : (finB p && finB q && finB c && finB d) = true) (g1 : (FloatKind.f64.format.order c 0 == some .eq) = false) (hg : (FloatKind.f64.format.order (absF c) (absF d) == some .gt || FloatKind.f64.format.order (absF c) (absF d) == some .eq) = false) (w : World) :
    Calls Try.prog 43 #[.agg #[.float .f64 p, .float .f64 q], .agg #[.float .f64 c, .float .f64 d]] w fun e w' => OvIs p q c d e ∧ Below w.heap.size w w' := by
  have HX := Aside0.mk (show ∀ j : Nat, j < 4 → rf [p, q, c, d] j < 18446744073709551616 from fun j hj => by
    match j, hj with
    | 0, _ => exact hp
    | 1, _ => exact hq
    | 2, _ => exact hc
    | 3, _ => exact hd)
  have hC := C_four (((w.alloc (.cells #[.float .f64 p, .float .f64 q] 26)).alloc (.cells #[.float .f64 c, .float .f64 d] 26)).alloc (.cells #[.float .f64 0, .float .f64 0] 26)) p q c d 23
  rw [show (((w.alloc (.cells #[.float .f64 p, .float .f64 q] 26)).alloc (.cells #[.float .f64 c, .float .f64 d] 26)).alloc (.cells #[.float .f64 0, .float .f64 0] 26)).heap.size = w.heap.size + 1 + 1 + 1 from by simp] at hC
  have ct := Aside0.mk (finite_any (some ⟨w.heap.size + 1 + 1 + 1, 0, none⟩) 4 [p, q, c, d] 4 _ hC (by omega) HX.out)
  clear hC HX
  have hall : [p, q, c, d].all finB = (finB p && finB q && finB c && finB d) := by simp [Bool.and_assoc]
  rw [hall, hF] at ct
  clear hall
  have hok := Aside0.mk (show ovOk p q c d = true by unfold ovOk eqB; rw [hF]; simp [g1])
  have hre := Aside0.mk (show ovRe p q c d = _ by unfold ovRe geB2; rw [hg])
  have him := Aside0.mk (show ovIm p q c d = _ by unfold ovIm geB2; rw [hg])
  clear hp hq hF
  go_enter Try.func43, Try.ntmps43
  go_upto_region 3 with (go_at_call 67; refine ct.out.mono ?_; rintro e w1 ⟨rfl, hb1⟩; have hbq : Below w.heap.size w w1 := (below_al (below_al (below_al (below_al (Below.refl w.heap.size w) _) _) _) _).trans (hb1.mono (by simp; omega)); have BA : Blk w1 (w.heap.size) 26 #[.float .f64 p, .float .f64 q] := ((((Blk.new w _ _).alloc _).alloc _).alloc _).below hb1; have BB : Blk w1 (w.heap.size + 1) 26 #[.float .f64 c, .float .f64 d] := (((Blk.newAt _ _ (by simp)).alloc _).alloc _).below hb1; have BZ : Blk w1 (w.heap.size + 1 + 1) 26 #[.float .f64 0, .float .f64 0] := ((Blk.newAt _ _ (by simp)).alloc _).below hb1; obtain ⟨qa0, qa1⟩ := BA.two; obtain ⟨qb0, qb1⟩ := BB.two; obtain ⟨qz0, qz1⟩ := BZ.two; have fz0 := BZ.free 0; have fz1 := BZ.free 1; have HB := Aside0.mk hbq; clear hb1 hbq ct)
  go_quiet (((go_at_call 69; first | exact Calls.quiet_of_same (abs_any c hc _) | exact Calls.quiet_of_same (abs_any d hd _))))
  replace BA := BA.drewN nq
  replace BB := BB.drewN nq
  replace BZ := BZ.drewN nq
  replace HB := Aside0.mk (below_drewN HB.out nq)
  clear qa0 qa1 qb0 qb1 qz0 qz1 fz0 fz1
  have hbq := HB.out
  generalize w1.drewN nq = W4 at BA BB BZ hbq ⊢
  replace HB := Aside0.mk hbq
  clear hbq
  obtain ⟨qa0, qa1⟩ := BA.two
  obtain ⟨qb0, qb1⟩ := BB.two
  obtain ⟨qz0, qz1⟩ := BZ.two
  have fz0 := BZ.free 0
  have fz1 := BZ.free 1
  go_upto_region 8 with fail
  have hr6 : Same .f64 (fAr .quo .f64 c d W4) (fP .quo .f64 c d) := fAr_same (Same.refl _ _) (Same.refl _ _) _
  generalize fAr .quo .f64 c d W4 = r6 at hr6 ⊢
  replace BA := BA.drewN (fN .quo .f64 c d)
  replace BB := BB.drewN (fN .quo .f64 c d)
  replace BZ := BZ.drewN (fN .quo .f64 c d)
  replace HB := Aside0.mk (below_drewN HB.out (fN .quo .f64 c d))
  clear qa0 qa1 qb0 qb1 qz0 qz1 fz0 fz1
  have hbq := HB.out
  generalize W4.drewN (fN .quo .f64 c d) = W5 at BA BB BZ hbq ⊢
  replace HB := Aside0.mk hbq
  clear hbq
  obtain ⟨qa0, qa1⟩ := BA.two
  obtain ⟨qb0, qb1⟩ := BB.two
  obtain ⟨qz0, qz1⟩ := BZ.two
  have fz0 := BZ.free 0
  have fz1 := BZ.free 1
  clear qa0 qa1 qb0 qb1 qz0 qz1 fz0 fz1
  replace BA := BA.drew
  replace BB := BB.drew
  replace BZ := BZ.drew
  refine region_list (by kernel_rfl) [75, 76, 77, 78, 79, 80, 81] [undef, undef, undef, undef, undef, undef, undef] [fun v _ => v = .pointer (some ⟨w.heap.size + 1, 1, none⟩), fun v _ => v = .float .f64 d, fun v _ => v = .float .f64 r6, fun v _ => v = .pointer (some ⟨w.heap.size + 1, 0, none⟩), fun v _ => v = .float .f64 c, fun v _ => ∃ m : Nat, v = .float .f64 m ∧ Same .f64 m (fP .mul .f64 (fP .quo .f64 c d) c), fun v _ => ∃ m : Nat, v = .float .f64 m ∧ Same .f64 m (fP .add .f64 d (fP .mul .f64 (fP .quo .f64 c d) c))] (by kernel_rfl) rfl (by kernel_rfl) ⟨fun _ _ _ h _ => h, fun _ _ _ h _ => h, fun _ _ _ h _ => h, fun _ _ _ h _ => h, fun _ _ _ h _ => h, fun _ _ _ h _ => h, fun _ _ _ h _ => h, trivial⟩ (steps_plain rfl ?_ (steps_plain rfl ?_ (steps_plain rfl ?_ (steps_plain rfl ?_ (steps_plain rfl ?_ (steps_plain rfl ?_ (steps_plain rfl ?_ (steps_one ?_))))))))
  · intro vs hl
    obtain ⟨v0, v1, v2, v3, v4, v5, v6, rfl⟩ := len7 hl
    clear hl
    intro w1 hb hd K hK
    simp only [fill, Act.put, List.zip_cons_cons, List.zip_nil_right, List.zip_nil_left, List.foldl_cons, List.foldl_nil, List.setIfInBounds_toArray, List.set_cons_zero, List.set_cons_succ] at hK ⊢
    refine ⟨?_⟩
    go_simp
    exact hK _ _ (Below.refl _ _) rfl
  · intro vs hl
    obtain ⟨v0, v1, v2, v3, v4, v5, v6, rfl⟩ := len7 hl
    clear hl
    intro w1 hb hd K hK
    obtain ⟨h0, _⟩ := hd
    obtain rfl : v0 = .pointer (some ⟨w.heap.size + 1, 1, none⟩) := h0
    obtain ⟨l0, l1⟩ := (BB.below hb).two
    simp only [fill, Act.put, List.zip_cons_cons, List.zip_nil_right, List.zip_nil_left, List.foldl_cons, List.foldl_nil, List.setIfInBounds_toArray, List.set_cons_zero, List.set_cons_succ] at hK ⊢
    refine ⟨?_⟩
    go_simp
    exact hK _ _ (Below.refl _ _) rfl
  · intro vs hl
    obtain ⟨v0, v1, v2, v3, v4, v5, v6, rfl⟩ := len7 hl
    clear hl
    intro w1 hb hd K hK
    simp only [fill, Act.put, List.zip_cons_cons, List.zip_nil_right, List.zip_nil_left, List.foldl_cons, List.foldl_nil, List.setIfInBounds_toArray, List.set_cons_zero, List.set_cons_succ] at hK ⊢
    refine ⟨?_⟩
    go_simp
    exact hK _ _ (Below.refl _ _) rfl
  · intro vs hl
    obtain ⟨v0, v1, v2, v3, v4, v5, v6, rfl⟩ := len7 hl
    clear hl
    intro w1 hb hd K hK
    simp only [fill, Act.put, List.zip_cons_cons, List.zip_nil_right, List.zip_nil_left, List.foldl_cons, List.foldl_nil, List.setIfInBounds_toArray, List.set_cons_zero, List.set_cons_succ] at hK ⊢
    refine ⟨?_⟩
    go_simp
    exact hK _ _ (Below.refl _ _) rfl
  · intro vs hl
    obtain ⟨v0, v1, v2, v3, v4, v5, v6, rfl⟩ := len7 hl
    clear hl
    intro w1 hb hd K hK
    obtain ⟨h3, _⟩ := hd
    obtain rfl : v3 = .pointer (some ⟨w.heap.size + 1, 0, none⟩) := h3
    obtain ⟨l0, l1⟩ := (BB.below hb).two
    simp only [fill, Act.put, List.zip_cons_cons, List.zip_nil_right, List.zip_nil_left, List.foldl_cons, List.foldl_nil, List.setIfInBounds_toArray, List.set_cons_zero, List.set_cons_succ] at hK ⊢
    refine ⟨?_⟩
    go_simp
    exact hK _ _ (Below.refl _ _) rfl
  · intro vs hl
    obtain ⟨v0, v1, v2, v3, v4, v5, v6, rfl⟩ := len7 hl
    clear hl
    intro w1 hb hd K hK
    obtain ⟨h2, h4, _⟩ := hd
    obtain rfl : v2 = .float .f64 r6 := h2
    obtain rfl : v4 = .float .f64 c := h4
    simp only [fill, Act.put, List.zip_cons_cons, List.zip_nil_right, List.zip_nil_left, List.foldl_cons, List.foldl_nil, List.setIfInBounds_toArray, List.set_cons_zero, List.set_cons_succ] at hK ⊢
    refine ⟨?_⟩
    go_simp
    refine (by_any _ _ _).mono ?_
    rintro e w2 ⟨rfl, rfl⟩
    exact hK _ _ (below_drewN (Below.refl _ _) _) ⟨_, rfl, fAr_same hr6 (Same.refl _ _) _⟩
  · intro vs hl
    obtain ⟨v0, v1, v2, v3, v4, v5, v6, rfl⟩ := len7 hl
    clear hl
    intro w1 hb hd K hK
    obtain ⟨h1, h5, _⟩ := hd
    obtain rfl : v1 = .float .f64 d := h1
    obtain ⟨m5, rfl, hm5⟩ := h5
    simp only [fill, Act.put, List.zip_cons_cons, List.zip_nil_right, List.zip_nil_left, List.foldl_cons, List.foldl_nil, List.setIfInBounds_toArray, List.set_cons_zero, List.set_cons_succ] at hK ⊢
    refine ⟨?_⟩
    go_simp
    exact hK _ _ (below_drewN (Below.refl _ _) _) ⟨_, rfl, fAr_same (Same.refl _ _) hm5 _⟩
  · unfold LastOk
    intro vs hl
    obtain ⟨v0, v1, v2, v3, v4, v5, v6, rfl⟩ := len7 hl
    clear hl
    intro W6 hb hd K hK
    obtain ⟨h0, h1, h2, h3, h4, h5, h6, _⟩ := hd
    obtain ⟨d7, rfl, hd7⟩ := h6
    have hbq := HB.out.trans ((Below.trans (show Below W5.heap.size W5 W5.drew from pw_below_drewN (Below.refl _ _) 1) hb).mono HB.out.size)
    replace HB := Aside0.mk hbq
    replace BA := BA.below hb
    replace BB := BB.below hb
    replace BZ := BZ.below hb
    clear hb hbq h0 h1 h2 h3 h4 h5
    simp only [fill, Act.put, List.zip_cons_cons, List.zip_nil_right, List.zip_nil_left, List.foldl_cons, List.foldl_nil, List.setIfInBounds_toArray, List.set_cons_zero, List.set_cons_succ] at hK ⊢
    refine ⟨?_⟩
    go_simp
    refine hK _ _ ?_
    clear hK
    go_upto_region 9 with fail
    have hbq := HB.out
    clear HB
    replace BA := BA.drew
    replace BB := BB.drew
    replace BZ := BZ.drew
    refine region_list2 (by kernel_rfl) [82, 83, 84, 85, 86, 87, 88, 89, 90, 91, 92, 93, 94, 95, 96, 97, 98, 99, 100] [undef, undef, undef, undef, undef, undef, undef, undef, undef, undef, undef, undef, undef, undef, undef, undef, undef, undef, undef] [fun v _ => v = .pointer (some ⟨w.heap.size, 0, none⟩), fun v _ => v = .float .f64 p, fun v _ => v = .float .f64 r6, fun v _ => ∃ m : Nat, v = .float .f64 m ∧ Same .f64 m (fP .mul .f64 p (fP .quo .f64 c d)), fun v _ => v = .pointer (some ⟨w.heap.size, 1, none⟩), fun v _ => v = .float .f64 q, fun v _ => ∃ m : Nat, v = .float .f64 m ∧ Same .f64 m (fP .add .f64 (fP .mul .f64 p (fP .quo .f64 c d)) q), fun v _ => v = .float .f64 d7, fun v _ => ∃ m : Nat, v = .float .f64 m ∧ Same .f64 m (fP .quo .f64 (fP .add .f64 (fP .mul .f64 p (fP .quo .f64 c d)) q) (fP .add .f64 d (fP .mul .f64 (fP .quo .f64 c d) c))), fun v _ => v = .pointer (some ⟨w.heap.size, 1, none⟩), fun v _ => v = .float .f64 q, fun v _ => v = .float .f64 r6, fun v _ => ∃ m : Nat, v = .float .f64 m ∧ Same .f64 m (fP .mul .f64 q (fP .quo .f64 c d)), fun v _ => v = .pointer (some ⟨w.heap.size, 0, none⟩), fun v _ => v = .float .f64 p, fun v _ => ∃ m : Nat, v = .float .f64 m ∧ Same .f64 m (fP .sub .f64 (fP .mul .f64 q (fP .quo .f64 c d)) p), fun v _ => v = .float .f64 d7, fun v _ => ∃ m : Nat, v = .float .f64 m ∧ Same .f64 m (fP .quo .f64 (fP .sub .f64 (fP .mul .f64 q (fP .quo .f64 c d)) p) (fP .add .f64 d (fP .mul .f64 (fP .quo .f64 c d) c))), fun v _ => ∃ r i : Nat, v = .agg #[.float .f64 r, .float .f64 i] ∧ Same .f64 r (fP .quo .f64 (fP .add .f64 (fP .mul .f64 p (fP .quo .f64 c d)) q) (fP .add .f64 d (fP .mul .f64 (fP .quo .f64 c d) c))) ∧ Same .f64 i (fP .quo .f64 (fP .sub .f64 (fP .mul .f64 q (fP .quo .f64 c d)) p) (fP .add .f64 d (fP .mul .f64 (fP .quo .f64 c d) c)))] (by kernel_rfl) rfl (by kernel_rfl) ⟨fun _ _ _ h _ => h, fun _ _ _ h _ => h, fun _ _ _ h _ => h, fun _ _ _ h _ => h, fun _ _ _ h _ => h, fun _ _ _ h _ => h, fun _ _ _ h _ => h, fun _ _ _ h _ => h, fun _ _ _ h _ => h, fun _ _ _ h _ => h, fun _ _ _ h _ => h, fun _ _ _ h _ => h, fun _ _ _ h _ => h, fun _ _ _ h _ => h, fun _ _ _ h _ => h, fun _ _ _ h _ => h, fun _ _ _ h _ => h, fun _ _ _ h _ => h, fun _ _ _ h _ => h, trivial⟩ (steps2_cons rfl ?_ (steps2_cons rfl ?_ (steps2_cons rfl ?_ (steps2_cons rfl ?_ (steps2_cons rfl ?_ (steps2_cons rfl ?_ (steps2_cons rfl ?_ (steps2_cons rfl ?_ (steps2_cons rfl ?_ (steps2_cons rfl ?_ (steps2_cons rfl ?_ (steps2_cons rfl ?_ (steps2_cons rfl ?_ (steps2_cons rfl ?_ (steps2_cons rfl ?_ (steps2_cons rfl ?_ (steps2_cons rfl ?_ (steps2_cons rfl ?_ (steps2_cons rfl ?_ (steps2_two ?_))))))))))))))))))))
    · intro vs hl
      obtain ⟨v0, v1, v2, v3, v4, v5, v6, v7, v8, v9, v10, v11, v12, v13, v14, v15, v16, v17, v18, rfl⟩ := len19 hl
      clear hl
      intro w1 hb hd K hK
      simp only [fill, Act.put, List.zip_cons_cons, List.zip_nil_right, List.zip_nil_left, List.foldl_cons, List.foldl_nil, List.setIfInBounds_toArray, List.set_cons_zero, List.set_cons_succ] at hK ⊢
      refine ⟨?_⟩
      go_simp
      exact hK _ _ (Below.refl _ _) rfl
    · intro vs hl
      obtain ⟨v0, v1, v2, v3, v4, v5, v6, v7, v8, v9, v10, v11, v12, v13, v14, v15, v16, v17, v18, rfl⟩ := len19 hl
      clear hl
      intro w1 hb hd K hK
      obtain ⟨h0, _⟩ := hd
      obtain rfl : v0 = .pointer (some ⟨w.heap.size, 0, none⟩) := h0
      obtain ⟨l0, l1⟩ := (BA.below hb).two
      simp only [fill, Act.put, List.zip_cons_cons, List.zip_nil_right, List.zip_nil_left, List.foldl_cons, List.foldl_nil, List.setIfInBounds_toArray, List.set_cons_zero, List.set_cons_succ] at hK ⊢
      refine ⟨?_⟩
      go_simp
      exact hK _ _ (Below.refl _ _) rfl
    · intro vs hl
      obtain ⟨v0, v1, v2, v3, v4, v5, v6, v7, v8, v9, v10, v11, v12, v13, v14, v15, v16, v17, v18, rfl⟩ := len19 hl
      clear hl
      intro w1 hb hd K hK
      simp only [fill, Act.put, List.zip_cons_cons, List.zip_nil_right, List.zip_nil_left, List.foldl_cons, List.foldl_nil, List.setIfInBounds_toArray, List.set_cons_zero, List.set_cons_succ] at hK ⊢
      refine ⟨?_⟩
      go_simp
      exact hK _ _ (Below.refl _ _) rfl
    · intro vs hl
      obtain ⟨v0, v1, v2, v3, v4, v5, v6, v7, v8, v9, v10, v11, v12, v13, v14, v15, v16, v17, v18, rfl⟩ := len19 hl
      clear hl
      intro w1 hb hd K hK
      obtain ⟨h1, h2, _⟩ := hd
      obtain rfl : v1 = .float .f64 p := h1
      obtain rfl : v2 = .float .f64 r6 := h2
      simp only [fill, Act.put, List.zip_cons_cons, List.zip_nil_right, List.zip_nil_left, List.foldl_cons, List.foldl_nil, List.setIfInBounds_toArray, List.set_cons_zero, List.set_cons_succ] at hK ⊢
      refine ⟨?_⟩
      go_simp
      refine (by_any _ _ _).mono ?_
      rintro e w2 ⟨rfl, rfl⟩
      exact hK _ _ (below_drewN (Below.refl _ _) _) ⟨_, rfl, fAr_same (Same.refl _ _) hr6 _⟩
    · intro vs hl
      obtain ⟨v0, v1, v2, v3, v4, v5, v6, v7, v8, v9, v10, v11, v12, v13, v14, v15, v16, v17, v18, rfl⟩ := len19 hl
      clear hl
      intro w1 hb hd K hK
      simp only [fill, Act.put, List.zip_cons_cons, List.zip_nil_right, List.zip_nil_left, List.foldl_cons, List.foldl_nil, List.setIfInBounds_toArray, List.set_cons_zero, List.set_cons_succ] at hK ⊢
      refine ⟨?_⟩
      go_simp
      exact hK _ _ (Below.refl _ _) rfl
    · intro vs hl
      obtain ⟨v0, v1, v2, v3, v4, v5, v6, v7, v8, v9, v10, v11, v12, v13, v14, v15, v16, v17, v18, rfl⟩ := len19 hl
      clear hl
      intro w1 hb hd K hK
      obtain ⟨h4, _⟩ := hd
      obtain rfl : v4 = .pointer (some ⟨w.heap.size, 1, none⟩) := h4
      obtain ⟨l0, l1⟩ := (BA.below hb).two
      simp only [fill, Act.put, List.zip_cons_cons, List.zip_nil_right, List.zip_nil_left, List.foldl_cons, List.foldl_nil, List.setIfInBounds_toArray, List.set_cons_zero, List.set_cons_succ] at hK ⊢
      refine ⟨?_⟩
      go_simp
      exact hK _ _ (Below.refl _ _) rfl
    · intro vs hl
      obtain ⟨v0, v1, v2, v3, v4, v5, v6, v7, v8, v9, v10, v11, v12, v13, v14, v15, v16, v17, v18, rfl⟩ := len19 hl
      clear hl
      intro w1 hb hd K hK
      obtain ⟨h3, h5, _⟩ := hd
      obtain ⟨m3, rfl, hm3⟩ := h3
      obtain rfl : v5 = .float .f64 q := h5
      simp only [fill, Act.put, List.zip_cons_cons, List.zip_nil_right, List.zip_nil_left, List.foldl_cons, List.foldl_nil, List.setIfInBounds_toArray, List.set_cons_zero, List.set_cons_succ] at hK ⊢
      refine ⟨?_⟩
      go_simp
      exact hK _ _ (below_drewN (Below.refl _ _) _) ⟨_, rfl, fAr_same hm3 (Same.refl _ _) _⟩
    · intro vs hl
      obtain ⟨v0, v1, v2, v3, v4, v5, v6, v7, v8, v9, v10, v11, v12, v13, v14, v15, v16, v17, v18, rfl⟩ := len19 hl
      clear hl
      intro w1 hb hd K hK
      simp only [fill, Act.put, List.zip_cons_cons, List.zip_nil_right, List.zip_nil_left, List.foldl_cons, List.foldl_nil, List.setIfInBounds_toArray, List.set_cons_zero, List.set_cons_succ] at hK ⊢
      refine ⟨?_⟩
      go_simp
      exact hK _ _ (Below.refl _ _) rfl
    · intro vs hl
      obtain ⟨v0, v1, v2, v3, v4, v5, v6, v7, v8, v9, v10, v11, v12, v13, v14, v15, v16, v17, v18, rfl⟩ := len19 hl
      clear hl
      intro w1 hb hd K hK
      obtain ⟨h6, h7, _⟩ := hd
      obtain ⟨m6, rfl, hm6⟩ := h6
      obtain rfl : v7 = .float .f64 d7 := h7
      simp only [fill, Act.put, List.zip_cons_cons, List.zip_nil_right, List.zip_nil_left, List.foldl_cons, List.foldl_nil, List.setIfInBounds_toArray, List.set_cons_zero, List.set_cons_succ] at hK ⊢
      refine ⟨?_⟩
      go_simp
      exact hK _ _ (below_drewN (Below.refl _ _) _) ⟨_, rfl, fAr_same hm6 hd7 _⟩
    · intro vs hl
      obtain ⟨v0, v1, v2, v3, v4, v5, v6, v7, v8, v9, v10, v11, v12, v13, v14, v15, v16, v17, v18, rfl⟩ := len19 hl
      clear hl
      intro w1 hb hd K hK
      simp only [fill, Act.put, List.zip_cons_cons, List.zip_nil_right, List.zip_nil_left, List.foldl_cons, List.foldl_nil, List.setIfInBounds_toArray, List.set_cons_zero, List.set_cons_succ] at hK ⊢
      refine ⟨?_⟩
      go_simp
      exact hK _ _ (Below.refl _ _) rfl
    · intro vs hl
      obtain ⟨v0, v1, v2, v3, v4, v5, v6, v7, v8, v9, v10, v11, v12, v13, v14, v15, v16, v17, v18, rfl⟩ := len19 hl
      clear hl
      intro w1 hb hd K hK
      obtain ⟨h9, _⟩ := hd
      obtain rfl : v9 = .pointer (some ⟨w.heap.size, 1, none⟩) := h9
      obtain ⟨l0, l1⟩ := (BA.below hb).two
      simp only [fill, Act.put, List.zip_cons_cons, List.zip_nil_right, List.zip_nil_left, List.foldl_cons, List.foldl_nil, List.setIfInBounds_toArray, List.set_cons_zero, List.set_cons_succ] at hK ⊢
      refine ⟨?_⟩
      go_simp
      exact hK _ _ (Below.refl _ _) rfl
    · intro vs hl
      obtain ⟨v0, v1, v2, v3, v4, v5, v6, v7, v8, v9, v10, v11, v12, v13, v14, v15, v16, v17, v18, rfl⟩ := len19 hl
      clear hl
      intro w1 hb hd K hK
      simp only [fill, Act.put, List.zip_cons_cons, List.zip_nil_right, List.zip_nil_left, List.foldl_cons, List.foldl_nil, List.setIfInBounds_toArray, List.set_cons_zero, List.set_cons_succ] at hK ⊢
      refine ⟨?_⟩
      go_simp
      exact hK _ _ (Below.refl _ _) rfl
    · intro vs hl
      obtain ⟨v0, v1, v2, v3, v4, v5, v6, v7, v8, v9, v10, v11, v12, v13, v14, v15, v16, v17, v18, rfl⟩ := len19 hl
      clear hl
      intro w1 hb hd K hK
      obtain ⟨h10, h11, h3, _⟩ := hd
      obtain rfl : v10 = .float .f64 q := h10
      obtain rfl : v11 = .float .f64 r6 := h11
      obtain ⟨m3, rfl, hm3⟩ := h3
      simp only [fill, Act.put, List.zip_cons_cons, List.zip_nil_right, List.zip_nil_left, List.foldl_cons, List.foldl_nil, List.setIfInBounds_toArray, List.set_cons_zero, List.set_cons_succ] at hK ⊢
      refine ⟨?_⟩
      go_simp
      refine (by_any _ _ _).mono ?_
      rintro e w2 ⟨rfl, rfl⟩
      exact hK _ _ (below_drewN (Below.refl _ _) _) ⟨_, rfl, fAr_same (Same.refl _ _) hr6 _⟩
    · intro vs hl
      obtain ⟨v0, v1, v2, v3, v4, v5, v6, v7, v8, v9, v10, v11, v12, v13, v14, v15, v16, v17, v18, rfl⟩ := len19 hl
      clear hl
      intro w1 hb hd K hK
      simp only [fill, Act.put, List.zip_cons_cons, List.zip_nil_right, List.zip_nil_left, List.foldl_cons, List.foldl_nil, List.setIfInBounds_toArray, List.set_cons_zero, List.set_cons_succ] at hK ⊢
      refine ⟨?_⟩
      go_simp
      exact hK _ _ (Below.refl _ _) rfl
    · intro vs hl
      obtain ⟨v0, v1, v2, v3, v4, v5, v6, v7, v8, v9, v10, v11, v12, v13, v14, v15, v16, v17, v18, rfl⟩ := len19 hl
      clear hl
      intro w1 hb hd K hK
      obtain ⟨h13, _⟩ := hd
      obtain rfl : v13 = .pointer (some ⟨w.heap.size, 0, none⟩) := h13
      obtain ⟨l0, l1⟩ := (BA.below hb).two
      simp only [fill, Act.put, List.zip_cons_cons, List.zip_nil_right, List.zip_nil_left, List.foldl_cons, List.foldl_nil, List.setIfInBounds_toArray, List.set_cons_zero, List.set_cons_succ] at hK ⊢
      refine ⟨?_⟩
      go_simp
      exact hK _ _ (Below.refl _ _) rfl
    · intro vs hl
      obtain ⟨v0, v1, v2, v3, v4, v5, v6, v7, v8, v9, v10, v11, v12, v13, v14, v15, v16, v17, v18, rfl⟩ := len19 hl
      clear hl
      intro w1 hb hd K hK
      obtain ⟨h12, h14, _⟩ := hd
      obtain ⟨m12, rfl, hm12⟩ := h12
      obtain rfl : v14 = .float .f64 p := h14
      simp only [fill, Act.put, List.zip_cons_cons, List.zip_nil_right, List.zip_nil_left, List.foldl_cons, List.foldl_nil, List.setIfInBounds_toArray, List.set_cons_zero, List.set_cons_succ] at hK ⊢
      refine ⟨?_⟩
      go_simp
      exact hK _ _ (below_drewN (Below.refl _ _) _) ⟨_, rfl, fAr_same hm12 (Same.refl _ _) _⟩
    · intro vs hl
      obtain ⟨v0, v1, v2, v3, v4, v5, v6, v7, v8, v9, v10, v11, v12, v13, v14, v15, v16, v17, v18, rfl⟩ := len19 hl
      clear hl
      intro w1 hb hd K hK
      simp only [fill, Act.put, List.zip_cons_cons, List.zip_nil_right, List.zip_nil_left, List.foldl_cons, List.foldl_nil, List.setIfInBounds_toArray, List.set_cons_zero, List.set_cons_succ] at hK ⊢
      refine ⟨?_⟩
      go_simp
      exact hK _ _ (Below.refl _ _) rfl
    · intro vs hl
      obtain ⟨v0, v1, v2, v3, v4, v5, v6, v7, v8, v9, v10, v11, v12, v13, v14, v15, v16, v17, v18, rfl⟩ := len19 hl
      clear hl
      intro w1 hb hd K hK
      obtain ⟨h15, h16, _⟩ := hd
      obtain ⟨m15, rfl, hm15⟩ := h15
      obtain rfl : v16 = .float .f64 d7 := h16
      simp only [fill, Act.put, List.zip_cons_cons, List.zip_nil_right, List.zip_nil_left, List.foldl_cons, List.foldl_nil, List.setIfInBounds_toArray, List.set_cons_zero, List.set_cons_succ] at hK ⊢
      refine ⟨?_⟩
      go_simp
      exact hK _ _ (below_drewN (Below.refl _ _) _) ⟨_, rfl, fAr_same hm15 hd7 _⟩
    · intro vs hl
      obtain ⟨v0, v1, v2, v3, v4, v5, v6, v7, v8, v9, v10, v11, v12, v13, v14, v15, v16, v17, v18, rfl⟩ := len19 hl
      clear hl
      intro w1 hb hd K hK
      obtain ⟨h8, h17, _⟩ := hd
      obtain ⟨m8, rfl, hm8⟩ := h8
      obtain ⟨m17, rfl, hm17⟩ := h17
      simp only [fill, Act.put, List.zip_cons_cons, List.zip_nil_right, List.zip_nil_left, List.foldl_cons, List.foldl_nil, List.setIfInBounds_toArray, List.set_cons_zero, List.set_cons_succ] at hK ⊢
      refine ⟨?_⟩
      go_simp
      exact hK _ _ (Below.refl _ _) ⟨_, _, rfl, hm8, hm17⟩
    · unfold TailOk
      intro vs hl
      obtain ⟨v0, v1, v2, v3, v4, v5, v6, v7, v8, v9, v10, v11, v12, v13, v14, v15, v16, v17, v18, rfl⟩ := len19 hl
      clear hl
      intro w1 hb hd K hK
      obtain ⟨h0, h1, h2, h3, h4, h5, h6, h7, h8, h9, h10, h11, h12, h13, h14, h15, h16, h17, h18, _⟩ := hd
      obtain ⟨r, i, rfl, hr, hi⟩ := h18
      have HE := Aside0.mk (hbq.trans ((Below.trans (show Below W6.heap.size W6 W6.drew from pw_below_drewN (Below.refl _ _) 1) hb).mono hbq.size))
      obtain ⟨z0, z1⟩ := (BZ.below hb).two
      have fz0 := (BZ.below hb).free 0
      have fz1 := (BZ.below hb).free 1
      have y0 : ∀ a b : Value, ((w1.setCell ⟨w.heap.size + 1 + 1, 0, none⟩ a).setCell ⟨w.heap.size + 1 + 1, 1, none⟩ b).cell? ⟨w.heap.size + 1 + 1, 0, none⟩ = some a := fun a b => by rw [World.cell?_setCell_other _ _ _ _ (by simp), World.cell?_setCell_same _ _ _ z0]
      have y1 : ∀ a b : Value, ((w1.setCell ⟨w.heap.size + 1 + 1, 0, none⟩ a).setCell ⟨w.heap.size + 1 + 1, 1, none⟩ b).cell? ⟨w.heap.size + 1 + 1, 1, none⟩ = some b := fun a b => World.cell?_setCell_same _ _ _ (u := .float .f64 0) (by rw [World.cell?_setCell_other _ _ _ _ (by simp)]; exact z1)
      clear BA BB BZ hb hbq h0 h1 h2 h3 h4 h5 h6 h7 h8 h9 h10 h11 h12 h13 h14 h15 h16 h17
      simp only [fill, Act.put, List.zip_cons_cons, List.zip_nil_right, List.zip_nil_left, List.foldl_cons, List.foldl_nil, List.setIfInBounds_toArray, List.set_cons_zero, List.set_cons_succ] at hK ⊢
      refine ⟨?_⟩
      go_simp
      refine hK _ _ (fun K2 hK2 => ?_)
      clear hK
      go_simp
      refine hK2 _ _ ?_
      clear hK2
      go_wp2
      refine ret_val ?_ rfl; simp [results, Try.results43, go_sem, y0, y1]
      refine ⟨⟨r, i, by rw [hok.out], ?_, ?_⟩, below_st (below_st HE.out (by simp; omega) _) (by simp; omega) _⟩
      · rw [hok.out, if_pos rfl, hre.out]; exact hr
      · rw [hok.out, if_pos rfl, him.out]; exact hi
set_option maxHeartbeats 8000000 in
set_option maxRecDepth 100000 in
theorem over_impl_g1f (p q c d : Nat) (hp : p < 18446744073709551616) (hq : q < 18446744073709551616) (hc : c < 18446744073709551616) (hd : d < 18446744073709551616) (hF : (finB p && finB q && finB c && finB d) = true) (g1 : (FloatKind.f64.format.order c 0 == some .eq) = true) (g2 : (FloatKind.f64.format.order d 0 == some .eq) = false) (hg : (FloatKind.f64.format.order (absF c) (absF d) == some .gt || FloatKind.f64.format.order (absF c) (absF d) == some .eq) = false) (w : World) :
    Calls Try.prog 43 #[.agg #[.float .f64 p, .float .f64 q], .agg #[.float .f64 c, .float .f64 d]] w fun e w' => OvIs p q c d e ∧ Below w.heap.size w w' := by
  have HX := Aside0.mk (show ∀ j : Nat, j < 4 → rf [p, q, c, d] j < 18446744073709551616 from fun j hj => by
    match j, hj with
    | 0, _ => exact hp
    | 1, _ => exact hq
    | 2, _ => exact hc
    | 3, _ => exact hd)
  have hC := C_four (((w.alloc (.cells #[.float .f64 p, .float .f64 q] 26)).alloc (.cells #[.float .f64 c, .float .f64 d] 26)).alloc (.cells #[.float .f64 0, .float .f64 0] 26)) p q c d 23
  rw [show (((w.alloc (.cells #[.float .f64 p, .float .f64 q] 26)).alloc (.cells #[.float .f64 c, .float .f64 d] 26)).alloc (.cells #[.float .f64 0, .float .f64 0] 26)).heap.size = w.heap.size + 1 + 1 + 1 from by simp] at hC
  have ct := Aside0.mk (finite_any (some ⟨w.heap.size + 1 + 1 + 1, 0, none⟩) 4 [p, q, c, d] 4 _ hC (by omega) HX.out)
  clear hC HX
  have hall : [p, q, c, d].all finB = (finB p && finB q && finB c && finB d) := by simp [Bool.and_assoc]
  rw [hall, hF] at ct
  clear hall
  have hok := Aside0.mk (show ovOk p q c d = true by unfold ovOk eqB; rw [hF]; simp [g1, g2])
  have hre := Aside0.mk (show ovRe p q c d = _ by unfold ovRe geB2; rw [hg])
  have him := Aside0.mk (show ovIm p q c d = _ by unfold ovIm geB2; rw [hg])
  clear hp hq hF
  go_enter Try.func43, Try.ntmps43
  go_upto_region 3 with (go_at_call 67; refine ct.out.mono ?_; rintro e w1 ⟨rfl, hb1⟩; have hbq : Below w.heap.size w w1 := (below_al (below_al (below_al (below_al (Below.refl w.heap.size w) _) _) _) _).trans (hb1.mono (by simp; omega)); have BA : Blk w1 (w.heap.size) 26 #[.float .f64 p, .float .f64 q] := ((((Blk.new w _ _).alloc _).alloc _).alloc _).below hb1; have BB : Blk w1 (w.heap.size + 1) 26 #[.float .f64 c, .float .f64 d] := (((Blk.newAt _ _ (by simp)).alloc _).alloc _).below hb1; have BZ : Blk w1 (w.heap.size + 1 + 1) 26 #[.float .f64 0, .float .f64 0] := ((Blk.newAt _ _ (by simp)).alloc _).below hb1; obtain ⟨qa0, qa1⟩ := BA.two; obtain ⟨qb0, qb1⟩ := BB.two; obtain ⟨qz0, qz1⟩ := BZ.two; have fz0 := BZ.free 0; have fz1 := BZ.free 1; have HB := Aside0.mk hbq; clear hb1 hbq ct)
  go_quiet (((go_at_call 69; first | exact Calls.quiet_of_same (abs_any c hc _) | exact Calls.quiet_of_same (abs_any d hd _))))
  replace BA := BA.drewN nq
  replace BB := BB.drewN nq
  replace BZ := BZ.drewN nq
  replace HB := Aside0.mk (below_drewN HB.out nq)
  clear qa0 qa1 qb0 qb1 qz0 qz1 fz0 fz1
  have hbq := HB.out
  generalize w1.drewN nq = W4 at BA BB BZ hbq ⊢
  replace HB := Aside0.mk hbq
  clear hbq
  obtain ⟨qa0, qa1⟩ := BA.two
  obtain ⟨qb0, qb1⟩ := BB.two
  obtain ⟨qz0, qz1⟩ := BZ.two
  have fz0 := BZ.free 0
  have fz1 := BZ.free 1
  go_upto_region 8 with fail
  have hr6 : Same .f64 (fAr .quo .f64 c d W4) (fP .quo .f64 c d) := fAr_same (Same.refl _ _) (Same.refl _ _) _
  generalize fAr .quo .f64 c d W4 = r6 at hr6 ⊢
  replace BA := BA.drewN (fN .quo .f64 c d)
  replace BB := BB.drewN (fN .quo .f64 c d)
  replace BZ := BZ.drewN (fN .quo .f64 c d)
  replace HB := Aside0.mk (below_drewN HB.out (fN .quo .f64 c d))
  clear qa0 qa1 qb0 qb1 qz0 qz1 fz0 fz1
  have hbq := HB.out
  generalize W4.drewN (fN .quo .f64 c d) = W5 at BA BB BZ hbq ⊢
  replace HB := Aside0.mk hbq
  clear hbq
  obtain ⟨qa0, qa1⟩ := BA.two
  obtain ⟨qb0, qb1⟩ := BB.two
  obtain ⟨qz0, qz1⟩ := BZ.two
  have fz0 := BZ.free 0
  have fz1 := BZ.free 1
  clear qa0 qa1 qb0 qb1 qz0 qz1 fz0 fz1
  replace BA := BA.drew
  replace BB := BB.drew
  replace BZ := BZ.drew
  refine region_list (by kernel_rfl) [75, 76, 77, 78, 79, 80, 81] [undef, undef, undef, undef, undef, undef, undef] [fun v _ => v = .pointer (some ⟨w.heap.size + 1, 1, none⟩), fun v _ => v = .float .f64 d, fun v _ => v = .float .f64 r6, fun v _ => v = .pointer (some ⟨w.heap.size + 1, 0, none⟩), fun v _ => v = .float .f64 c, fun v _ => ∃ m : Nat, v = .float .f64 m ∧ Same .f64 m (fP .mul .f64 (fP .quo .f64 c d) c), fun v _ => ∃ m : Nat, v = .float .f64 m ∧ Same .f64 m (fP .add .f64 d (fP .mul .f64 (fP .quo .f64 c d) c))] (by kernel_rfl) rfl (by kernel_rfl) ⟨fun _ _ _ h _ => h, fun _ _ _ h _ => h, fun _ _ _ h _ => h, fun _ _ _ h _ => h, fun _ _ _ h _ => h, fun _ _ _ h _ => h, fun _ _ _ h _ => h, trivial⟩ (steps_plain rfl ?_ (steps_plain rfl ?_ (steps_plain rfl ?_ (steps_plain rfl ?_ (steps_plain rfl ?_ (steps_plain rfl ?_ (steps_plain rfl ?_ (steps_one ?_))))))))
  · intro vs hl
    obtain ⟨v0, v1, v2, v3, v4, v5, v6, rfl⟩ := len7 hl
    clear hl
    intro w1 hb hd K hK
    simp only [fill, Act.put, List.zip_cons_cons, List.zip_nil_right, List.zip_nil_left, List.foldl_cons, List.foldl_nil, List.setIfInBounds_toArray, List.set_cons_zero, List.set_cons_succ] at hK ⊢
    refine ⟨?_⟩
    go_simp
    exact hK _ _ (Below.refl _ _) rfl
  · intro vs hl
    obtain ⟨v0, v1, v2, v3, v4, v5, v6, rfl⟩ := len7 hl
    clear hl
    intro w1 hb hd K hK
    obtain ⟨h0, _⟩ := hd
    obtain rfl : v0 = .pointer (some ⟨w.heap.size + 1, 1, none⟩) := h0
    obtain ⟨l0, l1⟩ := (BB.below hb).two
    simp only [fill, Act.put, List.zip_cons_cons, List.zip_nil_right, List.zip_nil_left, List.foldl_cons, List.foldl_nil, List.setIfInBounds_toArray, List.set_cons_zero, List.set_cons_succ] at hK ⊢
    refine ⟨?_⟩
    go_simp
    exact hK _ _ (Below.refl _ _) rfl
  · intro vs hl
    obtain ⟨v0, v1, v2, v3, v4, v5, v6, rfl⟩ := len7 hl
    clear hl
    intro w1 hb hd K hK
    simp only [fill, Act.put, List.zip_cons_cons, List.zip_nil_right, List.zip_nil_left, List.foldl_cons, List.foldl_nil, List.setIfInBounds_toArray, List.set_cons_zero, List.set_cons_succ] at hK ⊢
    refine ⟨?_⟩
    go_simp
    exact hK _ _ (Below.refl _ _) rfl
  · intro vs hl
    obtain ⟨v0, v1, v2, v3, v4, v5, v6, rfl⟩ := len7 hl
    clear hl
    intro w1 hb hd K hK
    simp only [fill, Act.put, List.zip_cons_cons, List.zip_nil_right, List.zip_nil_left, List.foldl_cons, List.foldl_nil, List.setIfInBounds_toArray, List.set_cons_zero, List.set_cons_succ] at hK ⊢
    refine ⟨?_⟩
    go_simp
    exact hK _ _ (Below.refl _ _) rfl
  · intro vs hl
    obtain ⟨v0, v1, v2, v3, v4, v5, v6, rfl⟩ := len7 hl
    clear hl
    intro w1 hb hd K hK
    obtain ⟨h3, _⟩ := hd
    obtain rfl : v3 = .pointer (some ⟨w.heap.size + 1, 0, none⟩) := h3
    obtain ⟨l0, l1⟩ := (BB.below hb).two
    simp only [fill, Act.put, List.zip_cons_cons, List.zip_nil_right, List.zip_nil_left, List.foldl_cons, List.foldl_nil, List.setIfInBounds_toArray, List.set_cons_zero, List.set_cons_succ] at hK ⊢
    refine ⟨?_⟩
    go_simp
    exact hK _ _ (Below.refl _ _) rfl
  · intro vs hl
    obtain ⟨v0, v1, v2, v3, v4, v5, v6, rfl⟩ := len7 hl
    clear hl
    intro w1 hb hd K hK
    obtain ⟨h2, h4, _⟩ := hd
    obtain rfl : v2 = .float .f64 r6 := h2
    obtain rfl : v4 = .float .f64 c := h4
    simp only [fill, Act.put, List.zip_cons_cons, List.zip_nil_right, List.zip_nil_left, List.foldl_cons, List.foldl_nil, List.setIfInBounds_toArray, List.set_cons_zero, List.set_cons_succ] at hK ⊢
    refine ⟨?_⟩
    go_simp
    refine (by_any _ _ _).mono ?_
    rintro e w2 ⟨rfl, rfl⟩
    exact hK _ _ (below_drewN (Below.refl _ _) _) ⟨_, rfl, fAr_same hr6 (Same.refl _ _) _⟩
  · intro vs hl
    obtain ⟨v0, v1, v2, v3, v4, v5, v6, rfl⟩ := len7 hl
    clear hl
    intro w1 hb hd K hK
    obtain ⟨h1, h5, _⟩ := hd
    obtain rfl : v1 = .float .f64 d := h1
    obtain ⟨m5, rfl, hm5⟩ := h5
    simp only [fill, Act.put, List.zip_cons_cons, List.zip_nil_right, List.zip_nil_left, List.foldl_cons, List.foldl_nil, List.setIfInBounds_toArray, List.set_cons_zero, List.set_cons_succ] at hK ⊢
    refine ⟨?_⟩
    go_simp
    exact hK _ _ (below_drewN (Below.refl _ _) _) ⟨_, rfl, fAr_same (Same.refl _ _) hm5 _⟩
  · unfold LastOk
    intro vs hl
    obtain ⟨v0, v1, v2, v3, v4, v5, v6, rfl⟩ := len7 hl
    clear hl
    intro W6 hb hd K hK
    obtain ⟨h0, h1, h2, h3, h4, h5, h6, _⟩ := hd
    obtain ⟨d7, rfl, hd7⟩ := h6
    have hbq := HB.out.trans ((Below.trans (show Below W5.heap.size W5 W5.drew from pw_below_drewN (Below.refl _ _) 1) hb).mono HB.out.size)
    replace HB := Aside0.mk hbq
    replace BA := BA.below hb
    replace BB := BB.below hb
    replace BZ := BZ.below hb
    clear hb hbq h0 h1 h2 h3 h4 h5
    simp only [fill, Act.put, List.zip_cons_cons, List.zip_nil_right, List.zip_nil_left, List.foldl_cons, List.foldl_nil, List.setIfInBounds_toArray, List.set_cons_zero, List.set_cons_succ] at hK ⊢
    refine ⟨?_⟩
    go_simp
    refine hK _ _ ?_
    clear hK
    go_upto_region 9 with fail
    have hbq := HB.out
    clear HB
    replace BA := BA.drew
    replace BB := BB.drew
    replace BZ := BZ.drew
    refine region_list2 (by kernel_rfl) [82, 83, 84, 85, 86, 87, 88, 89, 90, 91, 92, 93, 94, 95, 96, 97, 98, 99, 100] [undef, undef, undef, undef, undef, undef, undef, undef, undef, undef, undef, undef, undef, undef, undef, undef, undef, undef, undef] [fun v _ => v = .pointer (some ⟨w.heap.size, 0, none⟩), fun v _ => v = .float .f64 p, fun v _ => v = .float .f64 r6, fun v _ => ∃ m : Nat, v = .float .f64 m ∧ Same .f64 m (fP .mul .f64 p (fP .quo .f64 c d)), fun v _ => v = .pointer (some ⟨w.heap.size, 1, none⟩), fun v _ => v = .float .f64 q, fun v _ => ∃ m : Nat, v = .float .f64 m ∧ Same .f64 m (fP .add .f64 (fP .mul .f64 p (fP .quo .f64 c d)) q), fun v _ => v = .float .f64 d7, fun v _ => ∃ m : Nat, v = .float .f64 m ∧ Same .f64 m (fP .quo .f64 (fP .add .f64 (fP .mul .f64 p (fP .quo .f64 c d)) q) (fP .add .f64 d (fP .mul .f64 (fP .quo .f64 c d) c))), fun v _ => v = .pointer (some ⟨w.heap.size, 1, none⟩), fun v _ => v = .float .f64 q, fun v _ => v = .float .f64 r6, fun v _ => ∃ m : Nat, v = .float .f64 m ∧ Same .f64 m (fP .mul .f64 q (fP .quo .f64 c d)), fun v _ => v = .pointer (some ⟨w.heap.size, 0, none⟩), fun v _ => v = .float .f64 p, fun v _ => ∃ m : Nat, v = .float .f64 m ∧ Same .f64 m (fP .sub .f64 (fP .mul .f64 q (fP .quo .f64 c d)) p), fun v _ => v = .float .f64 d7, fun v _ => ∃ m : Nat, v = .float .f64 m ∧ Same .f64 m (fP .quo .f64 (fP .sub .f64 (fP .mul .f64 q (fP .quo .f64 c d)) p) (fP .add .f64 d (fP .mul .f64 (fP .quo .f64 c d) c))), fun v _ => ∃ r i : Nat, v = .agg #[.float .f64 r, .float .f64 i] ∧ Same .f64 r (fP .quo .f64 (fP .add .f64 (fP .mul .f64 p (fP .quo .f64 c d)) q) (fP .add .f64 d (fP .mul .f64 (fP .quo .f64 c d) c))) ∧ Same .f64 i (fP .quo .f64 (fP .sub .f64 (fP .mul .f64 q (fP .quo .f64 c d)) p) (fP .add .f64 d (fP .mul .f64 (fP .quo .f64 c d) c)))] (by kernel_rfl) rfl (by kernel_rfl) ⟨fun _ _ _ h _ => h, fun _ _ _ h _ => h, fun _ _ _ h _ => h, fun _ _ _ h _ => h, fun _ _ _ h _ => h, fun _ _ _ h _ => h, fun _ _ _ h _ => h, fun _ _ _ h _ => h, fun _ _ _ h _ => h, fun _ _ _ h _ => h, fun _ _ _ h _ => h, fun _ _ _ h _ => h, fun _ _ _ h _ => h, fun _ _ _ h _ => h, fun _ _ _ h _ => h, fun _ _ _ h _ => h, fun _ _ _ h _ => h, fun _ _ _ h _ => h, fun _ _ _ h _ => h, trivial⟩ (steps2_cons rfl ?_ (steps2_cons rfl ?_ (steps2_cons rfl ?_ (steps2_cons rfl ?_ (steps2_cons rfl ?_ (steps2_cons rfl ?_ (steps2_cons rfl ?_ (steps2_cons rfl ?_ (steps2_cons rfl ?_ (steps2_cons rfl ?_ (steps2_cons rfl ?_ (steps2_cons rfl ?_ (steps2_cons rfl ?_ (steps2_cons rfl ?_ (steps2_cons rfl ?_ (steps2_cons rfl ?_ (steps2_cons rfl ?_ (steps2_cons rfl ?_ (steps2_cons rfl ?_ (steps2_two ?_))))))))))))))))))))
    · intro vs hl
      obtain ⟨v0, v1, v2, v3, v4, v5, v6, v7, v8, v9, v10, v11, v12, v13, v14, v15, v16, v17, v18, rfl⟩ := len19 hl
      clear hl
      intro w1 hb hd K hK
      simp only [fill, Act.put, List.zip_cons_cons, List.zip_nil_right, List.zip_nil_left, List.foldl_cons, List.foldl_nil, List.setIfInBounds_toArray, List.set_cons_zero, List.set_cons_succ] at hK ⊢
      refine ⟨?_⟩
      go_simp
      exact hK _ _ (Below.refl _ _) rfl
    · intro vs hl
      obtain ⟨v0, v1, v2, v3, v4, v5, v6, v7, v8, v9, v10, v11, v12, v13, v14, v15, v16, v17, v18, rfl⟩ := len19 hl
      clear hl
      intro w1 hb hd K hK
      obtain ⟨h0, _⟩ := hd
      obtain rfl : v0 = .pointer (some ⟨w.heap.size, 0, none⟩) := h0
      obtain ⟨l0, l1⟩ := (BA.below hb).two
      simp only [fill, Act.put, List.zip_cons_cons, List.zip_nil_right, List.zip_nil_left, List.foldl_cons, List.foldl_nil, List.setIfInBounds_toArray, List.set_cons_zero, List.set_cons_succ] at hK ⊢
      refine ⟨?_⟩
      go_simp
      exact hK _ _ (Below.refl _ _) rfl
    · intro vs hl
      obtain ⟨v0, v1, v2, v3, v4, v5, v6, v7, v8, v9, v10, v11, v12, v13, v14, v15, v16, v17, v18, rfl⟩ := len19 hl
      clear hl
      intro w1 hb hd K hK
      simp only [fill, Act.put, List.zip_cons_cons, List.zip_nil_right, List.zip_nil_left, List.foldl_cons, List.foldl_nil, List.setIfInBounds_toArray, List.set_cons_zero, List.set_cons_succ] at hK ⊢
      refine ⟨?_⟩
      go_simp
      exact hK _ _ (Below.refl _ _) rfl
    · intro vs hl
      obtain ⟨v0, v1, v2, v3, v4, v5, v6, v7, v8, v9, v10, v11, v12, v13, v14, v15, v16, v17, v18, rfl⟩ := len19 hl
      clear hl
      intro w1 hb hd K hK
      obtain ⟨h1, h2, _⟩ := hd
      obtain rfl : v1 = .float .f64 p := h1
      obtain rfl : v2 = .float .f64 r6 := h2
      simp only [fill, Act.put, List.zip_cons_cons, List.zip_nil_right, List.zip_nil_left, List.foldl_cons, List.foldl_nil, List.setIfInBounds_toArray, List.set_cons_zero, List.set_cons_succ] at hK ⊢
      refine ⟨?_⟩
      go_simp
      refine (by_any _ _ _).mono ?_
      rintro e w2 ⟨rfl, rfl⟩
      exact hK _ _ (below_drewN (Below.refl _ _) _) ⟨_, rfl, fAr_same (Same.refl _ _) hr6 _⟩
    · intro vs hl
      obtain ⟨v0, v1, v2, v3, v4, v5, v6, v7, v8, v9, v10, v11, v12, v13, v14, v15, v16, v17, v18, rfl⟩ := len19 hl
      clear hl
      intro w1 hb hd K hK
      simp only [fill, Act.put, List.zip_cons_cons, List.zip_nil_right, List.zip_nil_left, List.foldl_cons, List.foldl_nil, List.setIfInBounds_toArray, List.set_cons_zero, List.set_cons_succ] at hK ⊢
      refine ⟨?_⟩
      go_simp
      exact hK _ _ (Below.refl _ _) rfl
    · intro vs hl
      obtain ⟨v0, v1, v2, v3, v4, v5, v6, v7, v8, v9, v10, v11, v12, v13, v14, v15, v16, v17, v18, rfl⟩ := len19 hl
      clear hl
      intro w1 hb hd K hK
      obtain ⟨h4, _⟩ := hd
      obtain rfl : v4 = .pointer (some ⟨w.heap.size, 1, none⟩) := h4
      obtain ⟨l0, l1⟩ := (BA.below hb).two
      simp only [fill, Act.put, List.zip_cons_cons, List.zip_nil_right, List.zip_nil_left, List.foldl_cons, List.foldl_nil, List.setIfInBounds_toArray, List.set_cons_zero, List.set_cons_succ] at hK ⊢
      refine ⟨?_⟩
      go_simp
      exact hK _ _ (Below.refl _ _) rfl
    · intro vs hl
      obtain ⟨v0, v1, v2, v3, v4, v5, v6, v7, v8, v9, v10, v11, v12, v13, v14, v15, v16, v17, v18, rfl⟩ := len19 hl
      clear hl
      intro w1 hb hd K hK
      obtain ⟨h3, h5, _⟩ := hd
      obtain ⟨m3, rfl, hm3⟩ := h3
      obtain rfl : v5 = .float .f64 q := h5
      simp only [fill, Act.put, List.zip_cons_cons, List.zip_nil_right, List.zip_nil_left, List.foldl_cons, List.foldl_nil, List.setIfInBounds_toArray, List.set_cons_zero, List.set_cons_succ] at hK ⊢
      refine ⟨?_⟩
      go_simp
      exact hK _ _ (below_drewN (Below.refl _ _) _) ⟨_, rfl, fAr_same hm3 (Same.refl _ _) _⟩
    · intro vs hl
      obtain ⟨v0, v1, v2, v3, v4, v5, v6, v7, v8, v9, v10, v11, v12, v13, v14, v15, v16, v17, v18, rfl⟩ := len19 hl
      clear hl
      intro w1 hb hd K hK
      simp only [fill, Act.put, List.zip_cons_cons, List.zip_nil_right, List.zip_nil_left, List.foldl_cons, List.foldl_nil, List.setIfInBounds_toArray, List.set_cons_zero, List.set_cons_succ] at hK ⊢
      refine ⟨?_⟩
      go_simp
      exact hK _ _ (Below.refl _ _) rfl
    · intro vs hl
      obtain ⟨v0, v1, v2, v3, v4, v5, v6, v7, v8, v9, v10, v11, v12, v13, v14, v15, v16, v17, v18, rfl⟩ := len19 hl
      clear hl
      intro w1 hb hd K hK
      obtain ⟨h6, h7, _⟩ := hd
      obtain ⟨m6, rfl, hm6⟩ := h6
      obtain rfl : v7 = .float .f64 d7 := h7
      simp only [fill, Act.put, List.zip_cons_cons, List.zip_nil_right, List.zip_nil_left, List.foldl_cons, List.foldl_nil, List.setIfInBounds_toArray, List.set_cons_zero, List.set_cons_succ] at hK ⊢
      refine ⟨?_⟩
      go_simp
      exact hK _ _ (below_drewN (Below.refl _ _) _) ⟨_, rfl, fAr_same hm6 hd7 _⟩
    · intro vs hl
      obtain ⟨v0, v1, v2, v3, v4, v5, v6, v7, v8, v9, v10, v11, v12, v13, v14, v15, v16, v17, v18, rfl⟩ := len19 hl
      clear hl
      intro w1 hb hd K hK
      simp only [fill, Act.put, List.zip_cons_cons, List.zip_nil_right, List.zip_nil_left, List.foldl_cons, List.foldl_nil, List.setIfInBounds_toArray, List.set_cons_zero, List.set_cons_succ] at hK ⊢
      refine ⟨?_⟩
      go_simp
      exact hK _ _ (Below.refl _ _) rfl
    · intro vs hl
      obtain ⟨v0, v1, v2, v3, v4, v5, v6, v7, v8, v9, v10, v11, v12, v13, v14, v15, v16, v17, v18, rfl⟩ := len19 hl
      clear hl
      intro w1 hb hd K hK
      obtain ⟨h9, _⟩ := hd
      obtain rfl : v9 = .pointer (some ⟨w.heap.size, 1, none⟩) := h9
      obtain ⟨l0, l1⟩ := (BA.below hb).two
      simp only [fill, Act.put, List.zip_cons_cons, List.zip_nil_right, List.zip_nil_left, List.foldl_cons, List.foldl_nil, List.setIfInBounds_toArray, List.set_cons_zero, List.set_cons_succ] at hK ⊢
      refine ⟨?_⟩
      go_simp
      exact hK _ _ (Below.refl _ _) rfl
    · intro vs hl
      obtain ⟨v0, v1, v2, v3, v4, v5, v6, v7, v8, v9, v10, v11, v12, v13, v14, v15, v16, v17, v18, rfl⟩ := len19 hl
      clear hl
      intro w1 hb hd K hK
      simp only [fill, Act.put, List.zip_cons_cons, List.zip_nil_right, List.zip_nil_left, List.foldl_cons, List.foldl_nil, List.setIfInBounds_toArray, List.set_cons_zero, List.set_cons_succ] at hK ⊢
      refine ⟨?_⟩
      go_simp
      exact hK _ _ (Below.refl _ _) rfl
    · intro vs hl
      obtain ⟨v0, v1, v2, v3, v4, v5, v6, v7, v8, v9, v10, v11, v12, v13, v14, v15, v16, v17, v18, rfl⟩ := len19 hl
      clear hl
      intro w1 hb hd K hK
      obtain ⟨h10, h11, h3, _⟩ := hd
      obtain rfl : v10 = .float .f64 q := h10
      obtain rfl : v11 = .float .f64 r6 := h11
      obtain ⟨m3, rfl, hm3⟩ := h3
      simp only [fill, Act.put, List.zip_cons_cons, List.zip_nil_right, List.zip_nil_left, List.foldl_cons, List.foldl_nil, List.setIfInBounds_toArray, List.set_cons_zero, List.set_cons_succ] at hK ⊢
      refine ⟨?_⟩
      go_simp
      refine (by_any _ _ _).mono ?_
      rintro e w2 ⟨rfl, rfl⟩
      exact hK _ _ (below_drewN (Below.refl _ _) _) ⟨_, rfl, fAr_same (Same.refl _ _) hr6 _⟩
    · intro vs hl
      obtain ⟨v0, v1, v2, v3, v4, v5, v6, v7, v8, v9, v10, v11, v12, v13, v14, v15, v16, v17, v18, rfl⟩ := len19 hl
      clear hl
      intro w1 hb hd K hK
      simp only [fill, Act.put, List.zip_cons_cons, List.zip_nil_right, List.zip_nil_left, List.foldl_cons, List.foldl_nil, List.setIfInBounds_toArray, List.set_cons_zero, List.set_cons_succ] at hK ⊢
      refine ⟨?_⟩
      go_simp
      exact hK _ _ (Below.refl _ _) rfl
    · intro vs hl
      obtain ⟨v0, v1, v2, v3, v4, v5, v6, v7, v8, v9, v10, v11, v12, v13, v14, v15, v16, v17, v18, rfl⟩ := len19 hl
      clear hl
      intro w1 hb hd K hK
      obtain ⟨h13, _⟩ := hd
      obtain rfl : v13 = .pointer (some ⟨w.heap.size, 0, none⟩) := h13
      obtain ⟨l0, l1⟩ := (BA.below hb).two
      simp only [fill, Act.put, List.zip_cons_cons, List.zip_nil_right, List.zip_nil_left, List.foldl_cons, List.foldl_nil, List.setIfInBounds_toArray, List.set_cons_zero, List.set_cons_succ] at hK ⊢
      refine ⟨?_⟩
      go_simp
      exact hK _ _ (Below.refl _ _) rfl
    · intro vs hl
      obtain ⟨v0, v1, v2, v3, v4, v5, v6, v7, v8, v9, v10, v11, v12, v13, v14, v15, v16, v17, v18, rfl⟩ := len19 hl
      clear hl
      intro w1 hb hd K hK
      obtain ⟨h12, h14, _⟩ := hd
      obtain ⟨m12, rfl, hm12⟩ := h12
      obtain rfl : v14 = .float .f64 p := h14
      simp only [fill, Act.put, List.zip_cons_cons, List.zip_nil_right, List.zip_nil_left, List.foldl_cons, List.foldl_nil, List.setIfInBounds_toArray, List.set_cons_zero, List.set_cons_succ] at hK ⊢
      refine ⟨?_⟩
      go_simp
      exact hK _ _ (below_drewN (Below.refl _ _) _) ⟨_, rfl, fAr_same hm12 (Same.refl _ _) _⟩
    · intro vs hl
      obtain ⟨v0, v1, v2, v3, v4, v5, v6, v7, v8, v9, v10, v11, v12, v13, v14, v15, v16, v17, v18, rfl⟩ := len19 hl
      clear hl
      intro w1 hb hd K hK
      simp only [fill, Act.put, List.zip_cons_cons, List.zip_nil_right, List.zip_nil_left, List.foldl_cons, List.foldl_nil, List.setIfInBounds_toArray, List.set_cons_zero, List.set_cons_succ] at hK ⊢
      refine ⟨?_⟩
      go_simp
      exact hK _ _ (Below.refl _ _) rfl
    · intro vs hl
      obtain ⟨v0, v1, v2, v3, v4, v5, v6, v7, v8, v9, v10, v11, v12, v13, v14, v15, v16, v17, v18, rfl⟩ := len19 hl
      clear hl
      intro w1 hb hd K hK
      obtain ⟨h15, h16, _⟩ := hd
      obtain ⟨m15, rfl, hm15⟩ := h15
      obtain rfl : v16 = .float .f64 d7 := h16
      simp only [fill, Act.put, List.zip_cons_cons, List.zip_nil_right, List.zip_nil_left, List.foldl_cons, List.foldl_nil, List.setIfInBounds_toArray, List.set_cons_zero, List.set_cons_succ] at hK ⊢
      refine ⟨?_⟩
      go_simp
      exact hK _ _ (below_drewN (Below.refl _ _) _) ⟨_, rfl, fAr_same hm15 hd7 _⟩
    · intro vs hl
      obtain ⟨v0, v1, v2, v3, v4, v5, v6, v7, v8, v9, v10, v11, v12, v13, v14, v15, v16, v17, v18, rfl⟩ := len19 hl
      clear hl
      intro w1 hb hd K hK
      obtain ⟨h8, h17, _⟩ := hd
      obtain ⟨m8, rfl, hm8⟩ := h8
      obtain ⟨m17, rfl, hm17⟩ := h17
      simp only [fill, Act.put, List.zip_cons_cons, List.zip_nil_right, List.zip_nil_left, List.foldl_cons, List.foldl_nil, List.setIfInBounds_toArray, List.set_cons_zero, List.set_cons_succ] at hK ⊢
      refine ⟨?_⟩
      go_simp
      exact hK _ _ (Below.refl _ _) ⟨_, _, rfl, hm8, hm17⟩
    · unfold TailOk
      intro vs hl
      obtain ⟨v0, v1, v2, v3, v4, v5, v6, v7, v8, v9, v10, v11, v12, v13, v14, v15, v16, v17, v18, rfl⟩ := len19 hl
      clear hl
      intro w1 hb hd K hK
      obtain ⟨h0, h1, h2, h3, h4, h5, h6, h7, h8, h9, h10, h11, h12, h13, h14, h15, h16, h17, h18, _⟩ := hd
      obtain ⟨r, i, rfl, hr, hi⟩ := h18
      have HE := Aside0.mk (hbq.trans ((Below.trans (show Below W6.heap.size W6 W6.drew from pw_below_drewN (Below.refl _ _) 1) hb).mono hbq.size))
      obtain ⟨z0, z1⟩ := (BZ.below hb).two
      have fz0 := (BZ.below hb).free 0
      have fz1 := (BZ.below hb).free 1
      have y0 : ∀ a b : Value, ((w1.setCell ⟨w.heap.size + 1 + 1, 0, none⟩ a).setCell ⟨w.heap.size + 1 + 1, 1, none⟩ b).cell? ⟨w.heap.size + 1 + 1, 0, none⟩ = some a := fun a b => by rw [World.cell?_setCell_other _ _ _ _ (by simp), World.cell?_setCell_same _ _ _ z0]
      have y1 : ∀ a b : Value, ((w1.setCell ⟨w.heap.size + 1 + 1, 0, none⟩ a).setCell ⟨w.heap.size + 1 + 1, 1, none⟩ b).cell? ⟨w.heap.size + 1 + 1, 1, none⟩ = some b := fun a b => World.cell?_setCell_same _ _ _ (u := .float .f64 0) (by rw [World.cell?_setCell_other _ _ _ _ (by simp)]; exact z1)
      clear BA BB BZ hb hbq h0 h1 h2 h3 h4 h5 h6 h7 h8 h9 h10 h11 h12 h13 h14 h15 h16 h17
      simp only [fill, Act.put, List.zip_cons_cons, List.zip_nil_right, List.zip_nil_left, List.foldl_cons, List.foldl_nil, List.setIfInBounds_toArray, List.set_cons_zero, List.set_cons_succ] at hK ⊢
      refine ⟨?_⟩
      go_simp
      refine hK _ _ (fun K2 hK2 => ?_)
      clear hK
      go_simp
      refine hK2 _ _ ?_
      clear hK2
      go_wp2
      refine ret_val ?_ rfl; simp [results, Try.results43, go_sem, y0, y1]
      refine ⟨⟨r, i, by rw [hok.out], ?_, ?_⟩, below_st (below_st HE.out (by simp; omega) _) (by simp; omega) _⟩
      · rw [hok.out, if_pos rfl, hre.out]; exact hr
      · rw [hok.out, if_pos rfl, him.out]; exact hi
set_option maxHeartbeats 8000000 in
set_option maxRecDepth 100000 in
theorem over_impl (p q c d : Nat) (hp : p < 18446744073709551616) (hq : q < 18446744073709551616) (hc : c < 18446744073709551616) (hd : d < 18446744073709551616) (w : World) :
    Calls Try.prog 43 #[.agg #[.float .f64 p, .float .f64 q], .agg #[.float .f64 c, .float .f64 d]] w fun e w' => OvIs p q c d e ∧ Below w.heap.size w w' := by
  cases hF : (finB p && finB q && finB c && finB d) with
  | false => exact over_impl_b0 p q c d hp hq hc hd hF w
  | true =>
    cases hg : (FloatKind.f64.format.order (absF c) (absF d) == some .gt || FloatKind.f64.format.order (absF c) (absF d) == some .eq) with
    | true =>
      cases g1 : (FloatKind.f64.format.order c 0 == some .eq) with
      | false => exact over_impl_g0t p q c d hp hq hc hd hF g1 hg w
      | true =>
        cases g2 : (FloatKind.f64.format.order d 0 == some .eq) with
        | false => exact over_impl_g1t p q c d hp hq hc hd hF g1 g2 hg w
        | true => exact over_impl_b1 p q c d hp hq hc hd hF g1 g2 w
    | false =>
      cases g1 : (FloatKind.f64.format.order c 0 == some .eq) with
      | false => exact over_impl_g0f p q c d hp hq hc hd hF g1 hg w
      | true =>
        cases g2 : (FloatKind.f64.format.order d 0 == some .eq) with
        | false => exact over_impl_g1f p q c d hp hq hc hd hF g1 g2 hg w
        | true => exact over_impl_b1 p q c d hp hq hc hd hF g1 g2 w
end Go.Proofs.Ytphfmcdkldcmiaa.Fl
/- The law of Over. -/
namespace Go.Proofs.Ytphfmcdkldcmiaa.Fl
open Go Go.RowKit Go.Proofs.YtphfmcdkldcmiaaW.PrintWords Go.Proofs.YtphfmcdkldcmiaaW.PrintLast Go.Proofs.YtphfmcdkldcmiaaW.PrintMore Go.Proofs.Ytphfmcdkldcmiaa.Rg Go.Proofs.Ytphfmcdkldcmiaa.Rs
set_option linter.unusedVariables false
set_option linter.unusedSimpArgs false
set_option maxHeartbeats 8000000 in
set_option maxRecDepth 100000 in
theorem law_Over_true (p q c d RE IM : Nat) (w : World) (ys : ∀ W : World, Calls Try.prog 42 #[.agg #[.float .f64 p, .float .f64 q], .agg #[.float .f64 c, .float .f64 d]] W fun e w' => (∃ r i : Nat, e = .returned (.tuple #[.agg #[.float .f64 r, .float .f64 i], .bool true]) ∧ Same .f64 r RE ∧ Same .f64 i IM) ∧ Below W.heap.size W w') (yg : ∀ W : World, Calls Try.prog 43 #[.agg #[.float .f64 p, .float .f64 q], .agg #[.float .f64 c, .float .f64 d]] W fun e w' => (∃ r i : Nat, e = .returned (.tuple #[.agg #[.float .f64 r, .float .f64 i], .bool true]) ∧ Same .f64 r RE ∧ Same .f64 i IM) ∧ Below W.heap.size W w') :
    Calls Try.prog 9 #[.agg #[.float .f64 p, .float .f64 q], .agg #[.float .f64 c, .float .f64 d]] w fun e w' => e = .returned (.bool true) ∧ Below w.heap.size w w' := by
  have Hys := Aside0.mk ys
  have Hyg := Aside0.mk yg
  clear ys yg
  go_enter Try.func9, Try.ntmps9
  go_upto_region 1 with fail
  have BA : Blk ((w.alloc (.cells #[.float .f64 p, .float .f64 q] 25)).alloc (.cells #[.float .f64 c, .float .f64 d] 25)) (w.heap.size) 25 #[.float .f64 p, .float .f64 q] := (Blk.new w 25 #[.float .f64 p, .float .f64 q]).alloc (.cells #[.float .f64 c, .float .f64 d] 25)
  have BB : Blk ((w.alloc (.cells #[.float .f64 p, .float .f64 q] 25)).alloc (.cells #[.float .f64 c, .float .f64 d] 25)) (w.heap.size + 1) 25 #[.float .f64 c, .float .f64 d] := Blk.newAt 25 #[.float .f64 c, .float .f64 d] (by simp)
  have hb0 : Below w.heap.size w ((w.alloc (.cells #[.float .f64 p, .float .f64 q] 25)).alloc (.cells #[.float .f64 c, .float .f64 d] 25)) := ((Below.refl w.heap.size w).alloc (by simp) (.cells #[.float .f64 p, .float .f64 q] 25)).alloc (by simp) (.cells #[.float .f64 c, .float .f64 d] 25)
  generalize ((w.alloc (.cells #[.float .f64 p, .float .f64 q] 25)).alloc (.cells #[.float .f64 c, .float .f64 d] 25)) = W0 at BA BB hb0 ⊢
  have HB := Aside0.mk hb0
  clear hb0
  replace BA := BA.drew
  replace BB := BB.drew
  refine region_sp (by kernel_rfl) [some 10, some 11, some 12, some 13, some 14, some 9, some 15, some 16, some 5, none, some 6] [undef, undef, undef, undef, undef, undef, undef, undef, undef, undef, undef] [Sp.val (fun v => v = .agg #[.float .f64 p, .float .f64 q]), Sp.val (fun v => v = .agg #[.float .f64 p, .float .f64 q]), Sp.val (fun v => v = .agg #[.float .f64 c, .float .f64 d]), Sp.val (fun v => v = .agg #[.float .f64 c, .float .f64 d]), Sp.val (fun v => ∃ (r1_4 : Nat) (i1_4 : Nat), v = .tuple #[.agg #[.float .f64 r1_4, .float .f64 i1_4], .bool true] ∧ Same .f64 r1_4 RE ∧ Same .f64 i1_4 IM), Sp.val (fun v => ∃ (r1_5 : Nat) (i1_5 : Nat), v = .tuple #[.agg #[.float .f64 r1_5, .float .f64 i1_5], .bool true] ∧ Same .f64 r1_5 RE ∧ Same .f64 i1_5 IM), Sp.val (fun v => ∃ (r1_6 : Nat) (i1_6 : Nat), v = .agg #[.float .f64 r1_6, .float .f64 i1_6] ∧ Same .f64 r1_6 RE ∧ Same .f64 i1_6 IM), Sp.val (fun v => v = .bool true), Sp.new 26 #[.float .f64 0, .float .f64 0] 9 (fun cs => ∃ ra1 ia1 : Nat, cs = #[.float .f64 ra1, .float .f64 ia1] ∧ Same .f64 ra1 RE ∧ Same .f64 ia1 IM), Sp.put 8, Sp.val (fun v => v = .bool true)] (by kernel_rfl) rfl (by kernel_rfl) ⟨?_, ?_, ?_, ?_, ?_, ?_, ?_, ?_, ?_, ?_, ?_, trivial⟩ ?_
  · intro vs hl u1 hb hd
    obtain ⟨v0, v1, v2, v3, v4, v5, v6, v7, v8, v9, v10, rfl⟩ := len11 hl
    clear hl
    intro K hK
    obtain ⟨l0, l1⟩ := (BA.below hb).two
    simp only [fs, fo, fz, Act.put, s1, s2, s3] at hK ⊢
    refine ⟨?_⟩
    go_simp
    exact hK _ _ (Below.refl _ _) rfl
  · intro vs hl u1 hb hd
    obtain ⟨v0, v1, v2, v3, v4, v5, v6, v7, v8, v9, v10, rfl⟩ := len11 hl
    clear hl
    obtain ⟨kh0, _⟩ := hd
    obtain rfl : v0 = .agg #[.float .f64 p, .float .f64 q] := kh0
    intro K hK
    simp only [fs, fo, fz, Act.put, s1, s2, s3] at hK ⊢
    refine ⟨?_⟩
    go_simp
    refine (toWave_any _ _ _).mono ?_
    rintro e w2 ⟨rfl, hb2⟩
    exact hK _ _ hb2 rfl
  · intro vs hl u1 hb hd
    obtain ⟨v0, v1, v2, v3, v4, v5, v6, v7, v8, v9, v10, rfl⟩ := len11 hl
    clear hl
    intro K hK
    obtain ⟨l0, l1⟩ := (BB.below hb).two
    simp only [fs, fo, fz, Act.put, s1, s2, s3] at hK ⊢
    refine ⟨?_⟩
    go_simp
    exact hK _ _ (Below.refl _ _) rfl
  · intro vs hl u1 hb hd
    obtain ⟨v0, v1, v2, v3, v4, v5, v6, v7, v8, v9, v10, rfl⟩ := len11 hl
    clear hl
    obtain ⟨kh2, kh1, _⟩ := hd
    obtain rfl : v2 = .agg #[.float .f64 c, .float .f64 d] := kh2
    obtain rfl : v1 = .agg #[.float .f64 p, .float .f64 q] := kh1
    intro K hK
    simp only [fs, fo, fz, Act.put, s1, s2, s3] at hK ⊢
    refine ⟨?_⟩
    go_simp
    refine (toWave_any _ _ _).mono ?_
    rintro e w2 ⟨rfl, hb2⟩
    exact hK _ _ hb2 rfl
  · intro vs hl u1 hb hd
    obtain ⟨v0, v1, v2, v3, v4, v5, v6, v7, v8, v9, v10, rfl⟩ := len11 hl
    clear hl
    obtain ⟨kh1, kh3, _, _⟩ := hd
    obtain rfl : v1 = .agg #[.float .f64 p, .float .f64 q] := kh1
    obtain rfl : v3 = .agg #[.float .f64 c, .float .f64 d] := kh3
    intro K hK
    simp only [fs, fo, fz, Act.put, s1, s2, s3] at hK ⊢
    refine ⟨?_⟩
    go_simp
    refine (Hys.out _).mono ?_
    rintro e w2 ⟨⟨r1_4, i1_4, rfl, hq0, hq1⟩, hb2⟩
    exact hK _ _ hb2 ⟨r1_4, i1_4, rfl, hq0, hq1⟩
  · intro vs hl u1 hb hd
    obtain ⟨v0, v1, v2, v3, v4, v5, v6, v7, v8, v9, v10, rfl⟩ := len11 hl
    clear hl
    obtain ⟨kh4, _⟩ := hd
    obtain ⟨r1_4, i1_4, rfl, kf4_0, kf4_1⟩ := kh4
    intro K hK
    simp only [fs, fo, fz, Act.put, s1, s2, s3] at hK ⊢
    refine ⟨?_⟩
    go_simp
    exact hK _ _ (Below.refl _ _) ⟨_, _, rfl, kf4_0, kf4_1⟩
  · intro vs hl u1 hb hd
    obtain ⟨v0, v1, v2, v3, v4, v5, v6, v7, v8, v9, v10, rfl⟩ := len11 hl
    clear hl
    obtain ⟨kh5, _⟩ := hd
    obtain ⟨r1_5, i1_5, rfl, kf5_0, kf5_1⟩ := kh5
    intro K hK
    simp only [fs, fo, fz, Act.put, s1, s2, s3] at hK ⊢
    refine ⟨?_⟩
    go_simp
    exact hK _ _ (Below.refl _ _) ⟨_, _, rfl, kf5_0, kf5_1⟩
  · intro vs hl u1 hb hd
    obtain ⟨v0, v1, v2, v3, v4, v5, v6, v7, v8, v9, v10, rfl⟩ := len11 hl
    clear hl
    obtain ⟨kh5, _⟩ := hd
    obtain ⟨r1_5, i1_5, rfl, kf5_0, kf5_1⟩ := kh5
    intro K hK
    simp only [fs, fo, fz, Act.put, s1, s2, s3] at hK ⊢
    refine ⟨?_⟩
    go_simp
    exact hK _ _ (Below.refl _ _) rfl
  · intro vs hl u1 hb hd
    obtain ⟨v0, v1, v2, v3, v4, v5, v6, v7, v8, v9, v10, rfl⟩ := len11 hl
    clear hl
    intro K hK
    simp only [fs, fo, fz, Act.put, s1, s2, s3] at hK ⊢
    refine ⟨?_⟩
    go_simp
    exact hK
  · intro vs hl u1 hb hd
    obtain ⟨v0, v1, v2, v3, v4, v5, v6, v7, v8, v9, v10, rfl⟩ := len11 hl
    clear hl
    obtain ⟨kh8, kh6, kh4, kh0, kh1, kh2, kh3, _, kh5, _, _, _⟩ := hd
    obtain ⟨g1_8, rfl, ka8, kb8, kc8, kd8, ke8⟩ := kh8
    obtain ⟨r1_6, i1_6, rfl, kf6_0, kf6_1⟩ := kh6
    obtain ⟨r1_4, i1_4, rfl, kf4_0, kf4_1⟩ := kh4
    obtain rfl : v0 = .agg #[.float .f64 p, .float .f64 q] := kh0
    obtain rfl : v1 = .agg #[.float .f64 p, .float .f64 q] := kh1
    obtain rfl : v2 = .agg #[.float .f64 c, .float .f64 d] := kh2
    obtain rfl : v3 = .agg #[.float .f64 c, .float .f64 d] := kh3
    obtain ⟨r1_5, i1_5, rfl, kf5_0, kf5_1⟩ := kh5
    intro g hg hcs K hK
    cases hg
    obtain ⟨l0, l1⟩ := (Blk.mk hcs).two
    have m0 := (Blk.mk hcs).free 0
    have m1 := (Blk.mk hcs).free 1
    simp only [fs, fo, fz, Act.put, s1, s2, s3] at hK ⊢
    refine ⟨?_⟩
    go_simp
    exact hK _ (filled2 hcs ⟨_, _, rfl, kf6_0, kf6_1⟩)
  · intro vs hl u1 hb hd
    obtain ⟨v0, v1, v2, v3, v4, v5, v6, v7, v8, v9, v10, rfl⟩ := len11 hl
    clear hl
    obtain ⟨kh7, _, kh0, kh1, kh2, kh3, kh4, kh5, kh6, _, kh8, _, _⟩ := hd
    obtain rfl : v7 = .bool true := kh7
    obtain rfl : v0 = .agg #[.float .f64 p, .float .f64 q] := kh0
    obtain rfl : v1 = .agg #[.float .f64 p, .float .f64 q] := kh1
    obtain rfl : v2 = .agg #[.float .f64 c, .float .f64 d] := kh2
    obtain rfl : v3 = .agg #[.float .f64 c, .float .f64 d] := kh3
    obtain ⟨r1_4, i1_4, rfl, kf4_0, kf4_1⟩ := kh4
    obtain ⟨r1_5, i1_5, rfl, kf5_0, kf5_1⟩ := kh5
    obtain ⟨r1_6, i1_6, rfl, kf6_0, kf6_1⟩ := kh6
    obtain ⟨g1_8, rfl, ka8, kb8, kc8, kd8, ke8⟩ := kh8
    intro K hK
    simp only [fs, fo, fz, Act.put, s1, s2, s3] at hK ⊢
    refine ⟨?_⟩
    go_simp
    exact hK _ _ (Below.refl _ _) rfl
  · intro vs hl w1 hb hd ha
    obtain ⟨v0, v1, v2, v3, v4, v5, v6, v7, v8, v9, v10, rfl⟩ := len11 hl
    clear hl
    obtain ⟨kh0, kh1, kh2, kh3, kh4, kh5, kh6, kh7, kh8, kh9, kh10, _⟩ := hd
    obtain rfl : v0 = .agg #[.float .f64 p, .float .f64 q] := kh0
    obtain rfl : v1 = .agg #[.float .f64 p, .float .f64 q] := kh1
    obtain rfl : v2 = .agg #[.float .f64 c, .float .f64 d] := kh2
    obtain rfl : v3 = .agg #[.float .f64 c, .float .f64 d] := kh3
    obtain ⟨r1_4, i1_4, rfl, kf4_0, kf4_1⟩ := kh4
    obtain ⟨r1_5, i1_5, rfl, kf5_0, kf5_1⟩ := kh5
    obtain ⟨r1_6, i1_6, rfl, kf6_0, kf6_1⟩ := kh6
    obtain rfl : v7 = .bool true := kh7
    obtain ⟨g1_8, rfl, ka8, kb8, kc8, kd8, ke8⟩ := kh8
    clear ke8 kd8 kc8
    obtain ⟨g_, hg_, _, _, cs_, hcs_, hq_⟩ := kh9
    cases hg_
    obtain ⟨ra1, ia1, rfl, qh1_0, qh1_1⟩ := hq_
    have B1_8 := Blk.mk hcs_
    clear hcs_
    obtain rfl : v10 = .bool true := kh10
    clear ha
    simp only [fs, fo, fz, Act.put, s1, s2, s3]
    replace BA := BA.below hb
    replace BB := BB.below hb
    replace HB := Aside0.mk (HB.out.trans ((Below.trans (show Below W0.heap.size W0 W0.drew from pw_below_drewN (Below.refl _ _) 1) hb).mono HB.out.size))
    clear hb
    go_upto_region 2 with fail
    replace BA := BA.drew
    replace BB := BB.drew
    replace B1_8 := B1_8.drew
    refine region_sp (by kernel_rfl) [some 18, some 19, some 20, some 21, some 22, some 17, some 23, some 24, some 7, none, some 8] [undef, undef, undef, undef, undef, undef, undef, undef, undef, undef, undef] [Sp.val (fun v => v = .agg #[.float .f64 p, .float .f64 q]), Sp.val (fun v => v = .agg #[.float .f64 p, .float .f64 q]), Sp.val (fun v => v = .agg #[.float .f64 c, .float .f64 d]), Sp.val (fun v => v = .agg #[.float .f64 c, .float .f64 d]), Sp.val (fun v => ∃ (r2_4 : Nat) (i2_4 : Nat), v = .tuple #[.agg #[.float .f64 r2_4, .float .f64 i2_4], .bool true] ∧ Same .f64 r2_4 RE ∧ Same .f64 i2_4 IM), Sp.val (fun v => ∃ (r2_5 : Nat) (i2_5 : Nat), v = .tuple #[.agg #[.float .f64 r2_5, .float .f64 i2_5], .bool true] ∧ Same .f64 r2_5 RE ∧ Same .f64 i2_5 IM), Sp.val (fun v => ∃ (r2_6 : Nat) (i2_6 : Nat), v = .agg #[.float .f64 r2_6, .float .f64 i2_6] ∧ Same .f64 r2_6 RE ∧ Same .f64 i2_6 IM), Sp.val (fun v => v = .bool true), Sp.new 26 #[.float .f64 0, .float .f64 0] 9 (fun cs => ∃ ra2 ia2 : Nat, cs = #[.float .f64 ra2, .float .f64 ia2] ∧ Same .f64 ra2 RE ∧ Same .f64 ia2 IM), Sp.put 8, Sp.val (fun v => v = .bool true)] (by kernel_rfl) rfl (by kernel_rfl) ⟨?_, ?_, ?_, ?_, ?_, ?_, ?_, ?_, ?_, ?_, ?_, trivial⟩ ?_
    · intro vs hl u1 hb hd
      obtain ⟨v0, v1, v2, v3, v4, v5, v6, v7, v8, v9, v10, rfl⟩ := len11 hl
      clear hl
      intro K hK
      obtain ⟨l0, l1⟩ := (BA.below hb).two
      simp only [fs, fo, fz, Act.put, s1, s2, s3] at hK ⊢
      refine ⟨?_⟩
      go_simp
      exact hK _ _ (Below.refl _ _) rfl
    · intro vs hl u1 hb hd
      obtain ⟨v0, v1, v2, v3, v4, v5, v6, v7, v8, v9, v10, rfl⟩ := len11 hl
      clear hl
      obtain ⟨kh0, _⟩ := hd
      obtain rfl : v0 = .agg #[.float .f64 p, .float .f64 q] := kh0
      intro K hK
      simp only [fs, fo, fz, Act.put, s1, s2, s3] at hK ⊢
      refine ⟨?_⟩
      go_simp
      refine (toWave_any _ _ _).mono ?_
      rintro e w2 ⟨rfl, hb2⟩
      exact hK _ _ hb2 rfl
    · intro vs hl u1 hb hd
      obtain ⟨v0, v1, v2, v3, v4, v5, v6, v7, v8, v9, v10, rfl⟩ := len11 hl
      clear hl
      intro K hK
      obtain ⟨l0, l1⟩ := (BB.below hb).two
      simp only [fs, fo, fz, Act.put, s1, s2, s3] at hK ⊢
      refine ⟨?_⟩
      go_simp
      exact hK _ _ (Below.refl _ _) rfl
    · intro vs hl u1 hb hd
      obtain ⟨v0, v1, v2, v3, v4, v5, v6, v7, v8, v9, v10, rfl⟩ := len11 hl
      clear hl
      obtain ⟨kh2, kh1, _⟩ := hd
      obtain rfl : v2 = .agg #[.float .f64 c, .float .f64 d] := kh2
      obtain rfl : v1 = .agg #[.float .f64 p, .float .f64 q] := kh1
      intro K hK
      simp only [fs, fo, fz, Act.put, s1, s2, s3] at hK ⊢
      refine ⟨?_⟩
      go_simp
      refine (toWave_any _ _ _).mono ?_
      rintro e w2 ⟨rfl, hb2⟩
      exact hK _ _ hb2 rfl
    · intro vs hl u1 hb hd
      obtain ⟨v0, v1, v2, v3, v4, v5, v6, v7, v8, v9, v10, rfl⟩ := len11 hl
      clear hl
      obtain ⟨kh1, kh3, _, _⟩ := hd
      obtain rfl : v1 = .agg #[.float .f64 p, .float .f64 q] := kh1
      obtain rfl : v3 = .agg #[.float .f64 c, .float .f64 d] := kh3
      intro K hK
      simp only [fs, fo, fz, Act.put, s1, s2, s3] at hK ⊢
      refine ⟨?_⟩
      go_simp
      refine (Hyg.out _).mono ?_
      rintro e w2 ⟨⟨r2_4, i2_4, rfl, hq0, hq1⟩, hb2⟩
      exact hK _ _ hb2 ⟨r2_4, i2_4, rfl, hq0, hq1⟩
    · intro vs hl u1 hb hd
      obtain ⟨v0, v1, v2, v3, v4, v5, v6, v7, v8, v9, v10, rfl⟩ := len11 hl
      clear hl
      obtain ⟨kh4, _⟩ := hd
      obtain ⟨r2_4, i2_4, rfl, kf4_0, kf4_1⟩ := kh4
      intro K hK
      simp only [fs, fo, fz, Act.put, s1, s2, s3] at hK ⊢
      refine ⟨?_⟩
      go_simp
      exact hK _ _ (Below.refl _ _) ⟨_, _, rfl, kf4_0, kf4_1⟩
    · intro vs hl u1 hb hd
      obtain ⟨v0, v1, v2, v3, v4, v5, v6, v7, v8, v9, v10, rfl⟩ := len11 hl
      clear hl
      obtain ⟨kh5, _⟩ := hd
      obtain ⟨r2_5, i2_5, rfl, kf5_0, kf5_1⟩ := kh5
      intro K hK
      simp only [fs, fo, fz, Act.put, s1, s2, s3] at hK ⊢
      refine ⟨?_⟩
      go_simp
      exact hK _ _ (Below.refl _ _) ⟨_, _, rfl, kf5_0, kf5_1⟩
    · intro vs hl u1 hb hd
      obtain ⟨v0, v1, v2, v3, v4, v5, v6, v7, v8, v9, v10, rfl⟩ := len11 hl
      clear hl
      obtain ⟨kh5, _⟩ := hd
      obtain ⟨r2_5, i2_5, rfl, kf5_0, kf5_1⟩ := kh5
      intro K hK
      simp only [fs, fo, fz, Act.put, s1, s2, s3] at hK ⊢
      refine ⟨?_⟩
      go_simp
      exact hK _ _ (Below.refl _ _) rfl
    · intro vs hl u1 hb hd
      obtain ⟨v0, v1, v2, v3, v4, v5, v6, v7, v8, v9, v10, rfl⟩ := len11 hl
      clear hl
      intro K hK
      simp only [fs, fo, fz, Act.put, s1, s2, s3] at hK ⊢
      refine ⟨?_⟩
      go_simp
      exact hK
    · intro vs hl u1 hb hd
      obtain ⟨v0, v1, v2, v3, v4, v5, v6, v7, v8, v9, v10, rfl⟩ := len11 hl
      clear hl
      obtain ⟨kh8, kh6, kh4, kh0, kh1, kh2, kh3, _, kh5, _, _, _⟩ := hd
      obtain ⟨g2_8, rfl, ka8, kb8, kc8, kd8, ke8⟩ := kh8
      obtain ⟨r2_6, i2_6, rfl, kf6_0, kf6_1⟩ := kh6
      obtain ⟨r2_4, i2_4, rfl, kf4_0, kf4_1⟩ := kh4
      obtain rfl : v0 = .agg #[.float .f64 p, .float .f64 q] := kh0
      obtain rfl : v1 = .agg #[.float .f64 p, .float .f64 q] := kh1
      obtain rfl : v2 = .agg #[.float .f64 c, .float .f64 d] := kh2
      obtain rfl : v3 = .agg #[.float .f64 c, .float .f64 d] := kh3
      obtain ⟨r2_5, i2_5, rfl, kf5_0, kf5_1⟩ := kh5
      intro g hg hcs K hK
      cases hg
      obtain ⟨l0, l1⟩ := (Blk.mk hcs).two
      have m0 := (Blk.mk hcs).free 0
      have m1 := (Blk.mk hcs).free 1
      simp only [fs, fo, fz, Act.put, s1, s2, s3] at hK ⊢
      refine ⟨?_⟩
      go_simp
      exact hK _ (filled2 hcs ⟨_, _, rfl, kf6_0, kf6_1⟩)
    · intro vs hl u1 hb hd
      obtain ⟨v0, v1, v2, v3, v4, v5, v6, v7, v8, v9, v10, rfl⟩ := len11 hl
      clear hl
      obtain ⟨kh7, _, kh0, kh1, kh2, kh3, kh4, kh5, kh6, _, kh8, _, _⟩ := hd
      obtain rfl : v7 = .bool true := kh7
      obtain rfl : v0 = .agg #[.float .f64 p, .float .f64 q] := kh0
      obtain rfl : v1 = .agg #[.float .f64 p, .float .f64 q] := kh1
      obtain rfl : v2 = .agg #[.float .f64 c, .float .f64 d] := kh2
      obtain rfl : v3 = .agg #[.float .f64 c, .float .f64 d] := kh3
      obtain ⟨r2_4, i2_4, rfl, kf4_0, kf4_1⟩ := kh4
      obtain ⟨r2_5, i2_5, rfl, kf5_0, kf5_1⟩ := kh5
      obtain ⟨r2_6, i2_6, rfl, kf6_0, kf6_1⟩ := kh6
      obtain ⟨g2_8, rfl, ka8, kb8, kc8, kd8, ke8⟩ := kh8
      intro K hK
      simp only [fs, fo, fz, Act.put, s1, s2, s3] at hK ⊢
      refine ⟨?_⟩
      go_simp
      exact hK _ _ (Below.refl _ _) rfl
    · intro vs hl w2 hb hd ha
      obtain ⟨v0, v1, v2, v3, v4, v5, v6, v7, v8, v9, v10, rfl⟩ := len11 hl
      clear hl
      obtain ⟨kh0, kh1, kh2, kh3, kh4, kh5, kh6, kh7, kh8, kh9, kh10, _⟩ := hd
      obtain rfl : v0 = .agg #[.float .f64 p, .float .f64 q] := kh0
      obtain rfl : v1 = .agg #[.float .f64 p, .float .f64 q] := kh1
      obtain rfl : v2 = .agg #[.float .f64 c, .float .f64 d] := kh2
      obtain rfl : v3 = .agg #[.float .f64 c, .float .f64 d] := kh3
      obtain ⟨r2_4, i2_4, rfl, kf4_0, kf4_1⟩ := kh4
      obtain ⟨r2_5, i2_5, rfl, kf5_0, kf5_1⟩ := kh5
      obtain ⟨r2_6, i2_6, rfl, kf6_0, kf6_1⟩ := kh6
      obtain rfl : v7 = .bool true := kh7
      obtain ⟨g2_8, rfl, ka8, kb8, kc8, kd8, ke8⟩ := kh8
      clear ke8 kd8 kc8
      obtain ⟨g_, hg_, _, _, cs_, hcs_, hq_⟩ := kh9
      cases hg_
      obtain ⟨ra2, ia2, rfl, qh2_0, qh2_1⟩ := hq_
      have B2_8 := Blk.mk hcs_
      clear hcs_
      obtain rfl : v10 = .bool true := kh10
      clear ha
      simp only [fs, fo, fz, Act.put, s1, s2, s3]
      replace BA := BA.below hb
      replace BB := BB.below hb
      replace B1_8 := B1_8.below hb
      replace HB := Aside0.mk (HB.out.trans ((Below.trans (show Below w1.heap.size w1 w1.drew from pw_below_drewN (Below.refl _ _) 1) hb).mono HB.out.size))
      clear hb
      obtain ⟨qBA0, qBA1⟩ := BA.two
      have zBA := BA.lt
      obtain ⟨qBB0, qBB1⟩ := BB.two
      have zBB := BB.lt
      obtain ⟨qB1_80, qB1_81⟩ := B1_8.two
      have zB1_8 := B1_8.lt
      obtain ⟨qB2_80, qB2_81⟩ := B2_8.two
      have zB2_8 := B2_8.lt
      go_wp2_with fail
      refine (eqWave_any (qh2_0.trans qh1_0.symm) (qh2_1.trans qh1_1.symm) _).mono ?_
      rintro e w3 ⟨rfl, hb⟩
      clear qBA0 qBA1 zBA
      clear qBB0 qBB1 zBB
      clear qB1_80 qB1_81 zB1_8
      clear qB2_80 qB2_81 zB2_8
      replace BA := BA.below hb
      replace BB := BB.below hb
      replace B1_8 := B1_8.below hb
      replace B2_8 := B2_8.below hb
      replace HB := Aside0.mk (HB.out.trans (hb.mono HB.out.size))
      clear hb
      go_wp2
      go_ret
      exact ⟨rfl, HB.out⟩
set_option maxHeartbeats 8000000 in
set_option maxRecDepth 100000 in
theorem law_Over_false (p q c d RE IM : Nat) (w : World) (ys : ∀ W : World, Calls Try.prog 42 #[.agg #[.float .f64 p, .float .f64 q], .agg #[.float .f64 c, .float .f64 d]] W fun e w' => (∃ r i : Nat, e = .returned (.tuple #[.agg #[.float .f64 r, .float .f64 i], .bool false]) ∧ Same .f64 r RE ∧ Same .f64 i IM) ∧ Below W.heap.size W w') (yg : ∀ W : World, Calls Try.prog 43 #[.agg #[.float .f64 p, .float .f64 q], .agg #[.float .f64 c, .float .f64 d]] W fun e w' => (∃ r i : Nat, e = .returned (.tuple #[.agg #[.float .f64 r, .float .f64 i], .bool false]) ∧ Same .f64 r RE ∧ Same .f64 i IM) ∧ Below W.heap.size W w') :
    Calls Try.prog 9 #[.agg #[.float .f64 p, .float .f64 q], .agg #[.float .f64 c, .float .f64 d]] w fun e w' => e = .returned (.bool true) ∧ Below w.heap.size w w' := by
  have Hys := Aside0.mk ys
  have Hyg := Aside0.mk yg
  clear ys yg
  go_enter Try.func9, Try.ntmps9
  go_upto_region 1 with fail
  have BA : Blk ((w.alloc (.cells #[.float .f64 p, .float .f64 q] 25)).alloc (.cells #[.float .f64 c, .float .f64 d] 25)) (w.heap.size) 25 #[.float .f64 p, .float .f64 q] := (Blk.new w 25 #[.float .f64 p, .float .f64 q]).alloc (.cells #[.float .f64 c, .float .f64 d] 25)
  have BB : Blk ((w.alloc (.cells #[.float .f64 p, .float .f64 q] 25)).alloc (.cells #[.float .f64 c, .float .f64 d] 25)) (w.heap.size + 1) 25 #[.float .f64 c, .float .f64 d] := Blk.newAt 25 #[.float .f64 c, .float .f64 d] (by simp)
  have hb0 : Below w.heap.size w ((w.alloc (.cells #[.float .f64 p, .float .f64 q] 25)).alloc (.cells #[.float .f64 c, .float .f64 d] 25)) := ((Below.refl w.heap.size w).alloc (by simp) (.cells #[.float .f64 p, .float .f64 q] 25)).alloc (by simp) (.cells #[.float .f64 c, .float .f64 d] 25)
  generalize ((w.alloc (.cells #[.float .f64 p, .float .f64 q] 25)).alloc (.cells #[.float .f64 c, .float .f64 d] 25)) = W0 at BA BB hb0 ⊢
  have HB := Aside0.mk hb0
  clear hb0
  replace BA := BA.drew
  replace BB := BB.drew
  refine region_sp (by kernel_rfl) [some 10, some 11, some 12, some 13, some 14, some 9, some 15, some 16, some 5, none, some 6] [undef, undef, undef, undef, undef, undef, undef, undef, undef, undef, undef] [Sp.val (fun v => v = .agg #[.float .f64 p, .float .f64 q]), Sp.val (fun v => v = .agg #[.float .f64 p, .float .f64 q]), Sp.val (fun v => v = .agg #[.float .f64 c, .float .f64 d]), Sp.val (fun v => v = .agg #[.float .f64 c, .float .f64 d]), Sp.val (fun v => ∃ (r1_4 : Nat) (i1_4 : Nat), v = .tuple #[.agg #[.float .f64 r1_4, .float .f64 i1_4], .bool false] ∧ Same .f64 r1_4 RE ∧ Same .f64 i1_4 IM), Sp.val (fun v => ∃ (r1_5 : Nat) (i1_5 : Nat), v = .tuple #[.agg #[.float .f64 r1_5, .float .f64 i1_5], .bool false] ∧ Same .f64 r1_5 RE ∧ Same .f64 i1_5 IM), Sp.val (fun v => ∃ (r1_6 : Nat) (i1_6 : Nat), v = .agg #[.float .f64 r1_6, .float .f64 i1_6] ∧ Same .f64 r1_6 RE ∧ Same .f64 i1_6 IM), Sp.val (fun v => v = .bool false), Sp.new 26 #[.float .f64 0, .float .f64 0] 9 (fun cs => ∃ ra1 ia1 : Nat, cs = #[.float .f64 ra1, .float .f64 ia1] ∧ Same .f64 ra1 RE ∧ Same .f64 ia1 IM), Sp.put 8, Sp.val (fun v => v = .bool false)] (by kernel_rfl) rfl (by kernel_rfl) ⟨?_, ?_, ?_, ?_, ?_, ?_, ?_, ?_, ?_, ?_, ?_, trivial⟩ ?_
  · intro vs hl u1 hb hd
    obtain ⟨v0, v1, v2, v3, v4, v5, v6, v7, v8, v9, v10, rfl⟩ := len11 hl
    clear hl
    intro K hK
    obtain ⟨l0, l1⟩ := (BA.below hb).two
    simp only [fs, fo, fz, Act.put, s1, s2, s3] at hK ⊢
    refine ⟨?_⟩
    go_simp
    exact hK _ _ (Below.refl _ _) rfl
  · intro vs hl u1 hb hd
    obtain ⟨v0, v1, v2, v3, v4, v5, v6, v7, v8, v9, v10, rfl⟩ := len11 hl
    clear hl
    obtain ⟨kh0, _⟩ := hd
    obtain rfl : v0 = .agg #[.float .f64 p, .float .f64 q] := kh0
    intro K hK
    simp only [fs, fo, fz, Act.put, s1, s2, s3] at hK ⊢
    refine ⟨?_⟩
    go_simp
    refine (toWave_any _ _ _).mono ?_
    rintro e w2 ⟨rfl, hb2⟩
    exact hK _ _ hb2 rfl
  · intro vs hl u1 hb hd
    obtain ⟨v0, v1, v2, v3, v4, v5, v6, v7, v8, v9, v10, rfl⟩ := len11 hl
    clear hl
    intro K hK
    obtain ⟨l0, l1⟩ := (BB.below hb).two
    simp only [fs, fo, fz, Act.put, s1, s2, s3] at hK ⊢
    refine ⟨?_⟩
    go_simp
    exact hK _ _ (Below.refl _ _) rfl
  · intro vs hl u1 hb hd
    obtain ⟨v0, v1, v2, v3, v4, v5, v6, v7, v8, v9, v10, rfl⟩ := len11 hl
    clear hl
    obtain ⟨kh2, kh1, _⟩ := hd
    obtain rfl : v2 = .agg #[.float .f64 c, .float .f64 d] := kh2
    obtain rfl : v1 = .agg #[.float .f64 p, .float .f64 q] := kh1
    intro K hK
    simp only [fs, fo, fz, Act.put, s1, s2, s3] at hK ⊢
    refine ⟨?_⟩
    go_simp
    refine (toWave_any _ _ _).mono ?_
    rintro e w2 ⟨rfl, hb2⟩
    exact hK _ _ hb2 rfl
  · intro vs hl u1 hb hd
    obtain ⟨v0, v1, v2, v3, v4, v5, v6, v7, v8, v9, v10, rfl⟩ := len11 hl
    clear hl
    obtain ⟨kh1, kh3, _, _⟩ := hd
    obtain rfl : v1 = .agg #[.float .f64 p, .float .f64 q] := kh1
    obtain rfl : v3 = .agg #[.float .f64 c, .float .f64 d] := kh3
    intro K hK
    simp only [fs, fo, fz, Act.put, s1, s2, s3] at hK ⊢
    refine ⟨?_⟩
    go_simp
    refine (Hys.out _).mono ?_
    rintro e w2 ⟨⟨r1_4, i1_4, rfl, hq0, hq1⟩, hb2⟩
    exact hK _ _ hb2 ⟨r1_4, i1_4, rfl, hq0, hq1⟩
  · intro vs hl u1 hb hd
    obtain ⟨v0, v1, v2, v3, v4, v5, v6, v7, v8, v9, v10, rfl⟩ := len11 hl
    clear hl
    obtain ⟨kh4, _⟩ := hd
    obtain ⟨r1_4, i1_4, rfl, kf4_0, kf4_1⟩ := kh4
    intro K hK
    simp only [fs, fo, fz, Act.put, s1, s2, s3] at hK ⊢
    refine ⟨?_⟩
    go_simp
    exact hK _ _ (Below.refl _ _) ⟨_, _, rfl, kf4_0, kf4_1⟩
  · intro vs hl u1 hb hd
    obtain ⟨v0, v1, v2, v3, v4, v5, v6, v7, v8, v9, v10, rfl⟩ := len11 hl
    clear hl
    obtain ⟨kh5, _⟩ := hd
    obtain ⟨r1_5, i1_5, rfl, kf5_0, kf5_1⟩ := kh5
    intro K hK
    simp only [fs, fo, fz, Act.put, s1, s2, s3] at hK ⊢
    refine ⟨?_⟩
    go_simp
    exact hK _ _ (Below.refl _ _) ⟨_, _, rfl, kf5_0, kf5_1⟩
  · intro vs hl u1 hb hd
    obtain ⟨v0, v1, v2, v3, v4, v5, v6, v7, v8, v9, v10, rfl⟩ := len11 hl
    clear hl
    obtain ⟨kh5, _⟩ := hd
    obtain ⟨r1_5, i1_5, rfl, kf5_0, kf5_1⟩ := kh5
    intro K hK
    simp only [fs, fo, fz, Act.put, s1, s2, s3] at hK ⊢
    refine ⟨?_⟩
    go_simp
    exact hK _ _ (Below.refl _ _) rfl
  · intro vs hl u1 hb hd
    obtain ⟨v0, v1, v2, v3, v4, v5, v6, v7, v8, v9, v10, rfl⟩ := len11 hl
    clear hl
    intro K hK
    simp only [fs, fo, fz, Act.put, s1, s2, s3] at hK ⊢
    refine ⟨?_⟩
    go_simp
    exact hK
  · intro vs hl u1 hb hd
    obtain ⟨v0, v1, v2, v3, v4, v5, v6, v7, v8, v9, v10, rfl⟩ := len11 hl
    clear hl
    obtain ⟨kh8, kh6, kh4, kh0, kh1, kh2, kh3, _, kh5, _, _, _⟩ := hd
    obtain ⟨g1_8, rfl, ka8, kb8, kc8, kd8, ke8⟩ := kh8
    obtain ⟨r1_6, i1_6, rfl, kf6_0, kf6_1⟩ := kh6
    obtain ⟨r1_4, i1_4, rfl, kf4_0, kf4_1⟩ := kh4
    obtain rfl : v0 = .agg #[.float .f64 p, .float .f64 q] := kh0
    obtain rfl : v1 = .agg #[.float .f64 p, .float .f64 q] := kh1
    obtain rfl : v2 = .agg #[.float .f64 c, .float .f64 d] := kh2
    obtain rfl : v3 = .agg #[.float .f64 c, .float .f64 d] := kh3
    obtain ⟨r1_5, i1_5, rfl, kf5_0, kf5_1⟩ := kh5
    intro g hg hcs K hK
    cases hg
    obtain ⟨l0, l1⟩ := (Blk.mk hcs).two
    have m0 := (Blk.mk hcs).free 0
    have m1 := (Blk.mk hcs).free 1
    simp only [fs, fo, fz, Act.put, s1, s2, s3] at hK ⊢
    refine ⟨?_⟩
    go_simp
    exact hK _ (filled2 hcs ⟨_, _, rfl, kf6_0, kf6_1⟩)
  · intro vs hl u1 hb hd
    obtain ⟨v0, v1, v2, v3, v4, v5, v6, v7, v8, v9, v10, rfl⟩ := len11 hl
    clear hl
    obtain ⟨kh7, _, kh0, kh1, kh2, kh3, kh4, kh5, kh6, _, kh8, _, _⟩ := hd
    obtain rfl : v7 = .bool false := kh7
    obtain rfl : v0 = .agg #[.float .f64 p, .float .f64 q] := kh0
    obtain rfl : v1 = .agg #[.float .f64 p, .float .f64 q] := kh1
    obtain rfl : v2 = .agg #[.float .f64 c, .float .f64 d] := kh2
    obtain rfl : v3 = .agg #[.float .f64 c, .float .f64 d] := kh3
    obtain ⟨r1_4, i1_4, rfl, kf4_0, kf4_1⟩ := kh4
    obtain ⟨r1_5, i1_5, rfl, kf5_0, kf5_1⟩ := kh5
    obtain ⟨r1_6, i1_6, rfl, kf6_0, kf6_1⟩ := kh6
    obtain ⟨g1_8, rfl, ka8, kb8, kc8, kd8, ke8⟩ := kh8
    intro K hK
    simp only [fs, fo, fz, Act.put, s1, s2, s3] at hK ⊢
    refine ⟨?_⟩
    go_simp
    exact hK _ _ (Below.refl _ _) rfl
  · intro vs hl w1 hb hd ha
    obtain ⟨v0, v1, v2, v3, v4, v5, v6, v7, v8, v9, v10, rfl⟩ := len11 hl
    clear hl
    obtain ⟨kh0, kh1, kh2, kh3, kh4, kh5, kh6, kh7, kh8, kh9, kh10, _⟩ := hd
    obtain rfl : v0 = .agg #[.float .f64 p, .float .f64 q] := kh0
    obtain rfl : v1 = .agg #[.float .f64 p, .float .f64 q] := kh1
    obtain rfl : v2 = .agg #[.float .f64 c, .float .f64 d] := kh2
    obtain rfl : v3 = .agg #[.float .f64 c, .float .f64 d] := kh3
    obtain ⟨r1_4, i1_4, rfl, kf4_0, kf4_1⟩ := kh4
    obtain ⟨r1_5, i1_5, rfl, kf5_0, kf5_1⟩ := kh5
    obtain ⟨r1_6, i1_6, rfl, kf6_0, kf6_1⟩ := kh6
    obtain rfl : v7 = .bool false := kh7
    obtain ⟨g1_8, rfl, ka8, kb8, kc8, kd8, ke8⟩ := kh8
    clear ke8 kd8 kc8
    obtain ⟨g_, hg_, _, _, cs_, hcs_, hq_⟩ := kh9
    cases hg_
    obtain ⟨ra1, ia1, rfl, qh1_0, qh1_1⟩ := hq_
    have B1_8 := Blk.mk hcs_
    clear hcs_
    obtain rfl : v10 = .bool false := kh10
    clear ha
    simp only [fs, fo, fz, Act.put, s1, s2, s3]
    replace BA := BA.below hb
    replace BB := BB.below hb
    replace HB := Aside0.mk (HB.out.trans ((Below.trans (show Below W0.heap.size W0 W0.drew from pw_below_drewN (Below.refl _ _) 1) hb).mono HB.out.size))
    clear hb
    go_upto_region 2 with fail
    replace BA := BA.drew
    replace BB := BB.drew
    replace B1_8 := B1_8.drew
    refine region_sp (by kernel_rfl) [some 18, some 19, some 20, some 21, some 22, some 17, some 23, some 24, some 7, none, some 8] [undef, undef, undef, undef, undef, undef, undef, undef, undef, undef, undef] [Sp.val (fun v => v = .agg #[.float .f64 p, .float .f64 q]), Sp.val (fun v => v = .agg #[.float .f64 p, .float .f64 q]), Sp.val (fun v => v = .agg #[.float .f64 c, .float .f64 d]), Sp.val (fun v => v = .agg #[.float .f64 c, .float .f64 d]), Sp.val (fun v => ∃ (r2_4 : Nat) (i2_4 : Nat), v = .tuple #[.agg #[.float .f64 r2_4, .float .f64 i2_4], .bool false] ∧ Same .f64 r2_4 RE ∧ Same .f64 i2_4 IM), Sp.val (fun v => ∃ (r2_5 : Nat) (i2_5 : Nat), v = .tuple #[.agg #[.float .f64 r2_5, .float .f64 i2_5], .bool false] ∧ Same .f64 r2_5 RE ∧ Same .f64 i2_5 IM), Sp.val (fun v => ∃ (r2_6 : Nat) (i2_6 : Nat), v = .agg #[.float .f64 r2_6, .float .f64 i2_6] ∧ Same .f64 r2_6 RE ∧ Same .f64 i2_6 IM), Sp.val (fun v => v = .bool false), Sp.new 26 #[.float .f64 0, .float .f64 0] 9 (fun cs => ∃ ra2 ia2 : Nat, cs = #[.float .f64 ra2, .float .f64 ia2] ∧ Same .f64 ra2 RE ∧ Same .f64 ia2 IM), Sp.put 8, Sp.val (fun v => v = .bool false)] (by kernel_rfl) rfl (by kernel_rfl) ⟨?_, ?_, ?_, ?_, ?_, ?_, ?_, ?_, ?_, ?_, ?_, trivial⟩ ?_
    · intro vs hl u1 hb hd
      obtain ⟨v0, v1, v2, v3, v4, v5, v6, v7, v8, v9, v10, rfl⟩ := len11 hl
      clear hl
      intro K hK
      obtain ⟨l0, l1⟩ := (BA.below hb).two
      simp only [fs, fo, fz, Act.put, s1, s2, s3] at hK ⊢
      refine ⟨?_⟩
      go_simp
      exact hK _ _ (Below.refl _ _) rfl
    · intro vs hl u1 hb hd
      obtain ⟨v0, v1, v2, v3, v4, v5, v6, v7, v8, v9, v10, rfl⟩ := len11 hl
      clear hl
      obtain ⟨kh0, _⟩ := hd
      obtain rfl : v0 = .agg #[.float .f64 p, .float .f64 q] := kh0
      intro K hK
      simp only [fs, fo, fz, Act.put, s1, s2, s3] at hK ⊢
      refine ⟨?_⟩
      go_simp
      refine (toWave_any _ _ _).mono ?_
      rintro e w2 ⟨rfl, hb2⟩
      exact hK _ _ hb2 rfl
    · intro vs hl u1 hb hd
      obtain ⟨v0, v1, v2, v3, v4, v5, v6, v7, v8, v9, v10, rfl⟩ := len11 hl
      clear hl
      intro K hK
      obtain ⟨l0, l1⟩ := (BB.below hb).two
      simp only [fs, fo, fz, Act.put, s1, s2, s3] at hK ⊢
      refine ⟨?_⟩
      go_simp
      exact hK _ _ (Below.refl _ _) rfl
    · intro vs hl u1 hb hd
      obtain ⟨v0, v1, v2, v3, v4, v5, v6, v7, v8, v9, v10, rfl⟩ := len11 hl
      clear hl
      obtain ⟨kh2, kh1, _⟩ := hd
      obtain rfl : v2 = .agg #[.float .f64 c, .float .f64 d] := kh2
      obtain rfl : v1 = .agg #[.float .f64 p, .float .f64 q] := kh1
      intro K hK
      simp only [fs, fo, fz, Act.put, s1, s2, s3] at hK ⊢
      refine ⟨?_⟩
      go_simp
      refine (toWave_any _ _ _).mono ?_
      rintro e w2 ⟨rfl, hb2⟩
      exact hK _ _ hb2 rfl
    · intro vs hl u1 hb hd
      obtain ⟨v0, v1, v2, v3, v4, v5, v6, v7, v8, v9, v10, rfl⟩ := len11 hl
      clear hl
      obtain ⟨kh1, kh3, _, _⟩ := hd
      obtain rfl : v1 = .agg #[.float .f64 p, .float .f64 q] := kh1
      obtain rfl : v3 = .agg #[.float .f64 c, .float .f64 d] := kh3
      intro K hK
      simp only [fs, fo, fz, Act.put, s1, s2, s3] at hK ⊢
      refine ⟨?_⟩
      go_simp
      refine (Hyg.out _).mono ?_
      rintro e w2 ⟨⟨r2_4, i2_4, rfl, hq0, hq1⟩, hb2⟩
      exact hK _ _ hb2 ⟨r2_4, i2_4, rfl, hq0, hq1⟩
    · intro vs hl u1 hb hd
      obtain ⟨v0, v1, v2, v3, v4, v5, v6, v7, v8, v9, v10, rfl⟩ := len11 hl
      clear hl
      obtain ⟨kh4, _⟩ := hd
      obtain ⟨r2_4, i2_4, rfl, kf4_0, kf4_1⟩ := kh4
      intro K hK
      simp only [fs, fo, fz, Act.put, s1, s2, s3] at hK ⊢
      refine ⟨?_⟩
      go_simp
      exact hK _ _ (Below.refl _ _) ⟨_, _, rfl, kf4_0, kf4_1⟩
    · intro vs hl u1 hb hd
      obtain ⟨v0, v1, v2, v3, v4, v5, v6, v7, v8, v9, v10, rfl⟩ := len11 hl
      clear hl
      obtain ⟨kh5, _⟩ := hd
      obtain ⟨r2_5, i2_5, rfl, kf5_0, kf5_1⟩ := kh5
      intro K hK
      simp only [fs, fo, fz, Act.put, s1, s2, s3] at hK ⊢
      refine ⟨?_⟩
      go_simp
      exact hK _ _ (Below.refl _ _) ⟨_, _, rfl, kf5_0, kf5_1⟩
    · intro vs hl u1 hb hd
      obtain ⟨v0, v1, v2, v3, v4, v5, v6, v7, v8, v9, v10, rfl⟩ := len11 hl
      clear hl
      obtain ⟨kh5, _⟩ := hd
      obtain ⟨r2_5, i2_5, rfl, kf5_0, kf5_1⟩ := kh5
      intro K hK
      simp only [fs, fo, fz, Act.put, s1, s2, s3] at hK ⊢
      refine ⟨?_⟩
      go_simp
      exact hK _ _ (Below.refl _ _) rfl
    · intro vs hl u1 hb hd
      obtain ⟨v0, v1, v2, v3, v4, v5, v6, v7, v8, v9, v10, rfl⟩ := len11 hl
      clear hl
      intro K hK
      simp only [fs, fo, fz, Act.put, s1, s2, s3] at hK ⊢
      refine ⟨?_⟩
      go_simp
      exact hK
    · intro vs hl u1 hb hd
      obtain ⟨v0, v1, v2, v3, v4, v5, v6, v7, v8, v9, v10, rfl⟩ := len11 hl
      clear hl
      obtain ⟨kh8, kh6, kh4, kh0, kh1, kh2, kh3, _, kh5, _, _, _⟩ := hd
      obtain ⟨g2_8, rfl, ka8, kb8, kc8, kd8, ke8⟩ := kh8
      obtain ⟨r2_6, i2_6, rfl, kf6_0, kf6_1⟩ := kh6
      obtain ⟨r2_4, i2_4, rfl, kf4_0, kf4_1⟩ := kh4
      obtain rfl : v0 = .agg #[.float .f64 p, .float .f64 q] := kh0
      obtain rfl : v1 = .agg #[.float .f64 p, .float .f64 q] := kh1
      obtain rfl : v2 = .agg #[.float .f64 c, .float .f64 d] := kh2
      obtain rfl : v3 = .agg #[.float .f64 c, .float .f64 d] := kh3
      obtain ⟨r2_5, i2_5, rfl, kf5_0, kf5_1⟩ := kh5
      intro g hg hcs K hK
      cases hg
      obtain ⟨l0, l1⟩ := (Blk.mk hcs).two
      have m0 := (Blk.mk hcs).free 0
      have m1 := (Blk.mk hcs).free 1
      simp only [fs, fo, fz, Act.put, s1, s2, s3] at hK ⊢
      refine ⟨?_⟩
      go_simp
      exact hK _ (filled2 hcs ⟨_, _, rfl, kf6_0, kf6_1⟩)
    · intro vs hl u1 hb hd
      obtain ⟨v0, v1, v2, v3, v4, v5, v6, v7, v8, v9, v10, rfl⟩ := len11 hl
      clear hl
      obtain ⟨kh7, _, kh0, kh1, kh2, kh3, kh4, kh5, kh6, _, kh8, _, _⟩ := hd
      obtain rfl : v7 = .bool false := kh7
      obtain rfl : v0 = .agg #[.float .f64 p, .float .f64 q] := kh0
      obtain rfl : v1 = .agg #[.float .f64 p, .float .f64 q] := kh1
      obtain rfl : v2 = .agg #[.float .f64 c, .float .f64 d] := kh2
      obtain rfl : v3 = .agg #[.float .f64 c, .float .f64 d] := kh3
      obtain ⟨r2_4, i2_4, rfl, kf4_0, kf4_1⟩ := kh4
      obtain ⟨r2_5, i2_5, rfl, kf5_0, kf5_1⟩ := kh5
      obtain ⟨r2_6, i2_6, rfl, kf6_0, kf6_1⟩ := kh6
      obtain ⟨g2_8, rfl, ka8, kb8, kc8, kd8, ke8⟩ := kh8
      intro K hK
      simp only [fs, fo, fz, Act.put, s1, s2, s3] at hK ⊢
      refine ⟨?_⟩
      go_simp
      exact hK _ _ (Below.refl _ _) rfl
    · intro vs hl w2 hb hd ha
      obtain ⟨v0, v1, v2, v3, v4, v5, v6, v7, v8, v9, v10, rfl⟩ := len11 hl
      clear hl
      obtain ⟨kh0, kh1, kh2, kh3, kh4, kh5, kh6, kh7, kh8, kh9, kh10, _⟩ := hd
      obtain rfl : v0 = .agg #[.float .f64 p, .float .f64 q] := kh0
      obtain rfl : v1 = .agg #[.float .f64 p, .float .f64 q] := kh1
      obtain rfl : v2 = .agg #[.float .f64 c, .float .f64 d] := kh2
      obtain rfl : v3 = .agg #[.float .f64 c, .float .f64 d] := kh3
      obtain ⟨r2_4, i2_4, rfl, kf4_0, kf4_1⟩ := kh4
      obtain ⟨r2_5, i2_5, rfl, kf5_0, kf5_1⟩ := kh5
      obtain ⟨r2_6, i2_6, rfl, kf6_0, kf6_1⟩ := kh6
      obtain rfl : v7 = .bool false := kh7
      obtain ⟨g2_8, rfl, ka8, kb8, kc8, kd8, ke8⟩ := kh8
      clear ke8 kd8 kc8
      obtain ⟨g_, hg_, _, _, cs_, hcs_, hq_⟩ := kh9
      cases hg_
      obtain ⟨ra2, ia2, rfl, qh2_0, qh2_1⟩ := hq_
      have B2_8 := Blk.mk hcs_
      clear hcs_
      obtain rfl : v10 = .bool false := kh10
      clear ha
      simp only [fs, fo, fz, Act.put, s1, s2, s3]
      replace BA := BA.below hb
      replace BB := BB.below hb
      replace B1_8 := B1_8.below hb
      replace HB := Aside0.mk (HB.out.trans ((Below.trans (show Below w1.heap.size w1 w1.drew from pw_below_drewN (Below.refl _ _) 1) hb).mono HB.out.size))
      clear hb
      obtain ⟨qBA0, qBA1⟩ := BA.two
      have zBA := BA.lt
      obtain ⟨qBB0, qBB1⟩ := BB.two
      have zBB := BB.lt
      obtain ⟨qB1_80, qB1_81⟩ := B1_8.two
      have zB1_8 := B1_8.lt
      obtain ⟨qB2_80, qB2_81⟩ := B2_8.two
      have zB2_8 := B2_8.lt
      go_wp2_with fail
      refine (eqWave_any (qh2_0.trans qh1_0.symm) (qh2_1.trans qh1_1.symm) _).mono ?_
      rintro e w3 ⟨rfl, hb⟩
      clear qBA0 qBA1 zBA
      clear qBB0 qBB1 zBB
      clear qB1_80 qB1_81 zB1_8
      clear qB2_80 qB2_81 zB2_8
      replace BA := BA.below hb
      replace BB := BB.below hb
      replace B1_8 := B1_8.below hb
      replace B2_8 := B2_8.below hb
      replace HB := Aside0.mk (HB.out.trans (hb.mono HB.out.size))
      clear hb
      go_wp2
      go_ret
      exact ⟨rfl, HB.out⟩
set_option maxHeartbeats 8000000 in
theorem row_Over (p q c d : Nat) (w : World) (hp0 : (Lit.float .f64 p).wf = true) (hq0 : (Lit.float .f64 q).wf = true) (hc0 : (Lit.float .f64 c).wf = true) (hd0 : (Lit.float .f64 d).wf = true) :
    Calls Try.prog 9 #[.agg #[.float .f64 p, .float .f64 q], .agg #[.float .f64 c, .float .f64 d]] w fun e w' => e = .returned (.bool true) ∧ Below w.heap.size w w' := by
  have hp : p < 18446744073709551616 := of_decide_eq_true hp0
  have hq : q < 18446744073709551616 := of_decide_eq_true hq0
  have hc : c < 18446744073709551616 := of_decide_eq_true hc0
  have hd : d < 18446744073709551616 := of_decide_eq_true hd0
  have c1 := fun w => over_spec p q c d hc hd w
  have c2 := fun w => over_impl p q c d hp hq hc hd w
  unfold OvIs at c1 c2
  generalize ovOk p q c d = ok at c1 c2
  generalize (if ok = true then ovRe p q c d else 0) = RE at c1 c2
  generalize (if ok = true then ovIm p q c d else 0) = IM at c1 c2
  cases ok with
  | true => exact law_Over_true p q c d RE IM w c1 c2
  | false => exact law_Over_false p q c d RE IM w c1 c2
end Go.Proofs.Ytphfmcdkldcmiaa.Fl
/- Arguments that came in, read as plain data of the print's kinds: a struct by its fields, a slice by its elements. -/
namespace Go.Proofs.Ytphfmcdkldcmiaa.Op
open Go.ChangeShapes Go.WideShapes Go.Deep Go.Proofs.YtphfmcdkldcmiaaW.PrintWords

/-- Whatever the data's reader takes of type t is a value of the kind d, and Q holds of it. -/
def Opens {α : Type} (P : Program) (d : Kd α) (t : TypeId) (Q : α → Prop) : Prop :=
  ∀ (H : Type) (enc : TypeId × Value → H) (w : World) (base : Nat) (spare : Nat → Bool) (held : Bool) (fuel : Nat) (cs : List Value) (x : DataW H × List MemPlace),
    DataW.trod enc P w base spare held fuel t cs = some x → ∃ a : α, d.K w a cs ∧ Q a

theorem opens_int {P : Program} {t : TypeId} {k : IntKind} (ht : P.underlying t = some (.int k)) : Opens P (Kd.int k) t (fun n => (Lit.int k n).wf = true) := by
  intro H enc w base spare held fuel cs x h
  cases fuel with
  | zero => simp [DataW.trod] at h
  | succ n =>
    simp only [DataW.trod, ht] at h
    split at h <;> simp_all
    exact ⟨_, rfl, h.1.2⟩

theorem opens_bool {P : Program} {t : TypeId} (ht : P.underlying t = some .bool) : Opens P Kd.bool t (fun _ => True) := by
  intro H enc w base spare held fuel cs x h
  cases fuel with
  | zero => simp [DataW.trod] at h
  | succ n =>
    simp only [DataW.trod, ht] at h
    split at h <;> first | (simp_all; done) | exact ⟨_, rfl, trivial⟩

theorem fmt_one (k : FloatKind) (x : Nat) : (Value.float k x).oneCell' = true := rfl
/-- Floats, by their bits. -/
def kfloat (k : FloatKind) : Kd Nat := Kd.scalar (Value.float k) (fmt_one k)
theorem opens_float {P : Program} {t : TypeId} {k : FloatKind} (ht : P.underlying t = some (.float k)) : Opens P (kfloat k) t (fun n => (Lit.float k n).wf = true) := by
  intro H enc w base spare held fuel cs x h
  cases fuel with
  | zero => simp [DataW.trod] at h
  | succ n =>
    simp only [DataW.trod, ht] at h
    split at h <;> simp_all
    exact ⟨_, rfl, h.1.2⟩

theorem opens_slice {P : Program} {α : Type} {d : Kd α} {t e : TypeId} {Q : α → Prop} (ht : P.underlying t = some (.slice e)) (hc : P.cellsOf e = d.sz) (hd : Opens P d e Q) :
    Opens P (Kd.slice e d) t (fun xs => xs.length ≤ maxLen ∧ ∀ x ∈ xs, Q x) := by
  intro H enc w base spare held fuel cs x h
  rcases open_slice ht h with ⟨rfl, _⟩ | ⟨a, len, cap, m, n, D, Pl, rfl, hb, hl, hm, hmm, rfl, hx⟩
  · exact ⟨[], ⟨none, 0, rfl, Nat.le_refl _, Kd.C_nil _ _⟩, Nat.zero_le _, fun x hx => by cases hx⟩
  · have hle : len ≤ m := by rw [hmm]; split <;> omega
    have key : ∀ i, i < len → ∃ z : α, Q z ∧ ∃ c, c.length = d.sz ∧ d.K w z c ∧ ∀ j u, c[j]? = some u → w.cell? (a.add (i * d.sz + j)) = some u := by
      intro i hi
      obtain ⟨cs', h1, h2⟩ := hx i (by omega)
      obtain ⟨z, hz, hq⟩ := hd H enc w base spare held n cs' _ h2
      refine ⟨z, hq, cs', d.K_len hz, hz, fun j u hj => ?_⟩
      rw [hc] at h1
      have hlt : j < d.sz := by
        have := (List.getElem?_eq_some_iff.1 hj).1
        have := (World.cells?_some h1).2.1
        omega
      have := (World.cells?_some h1).2.2 j hlt
      rw [Deep.add_add, hj] at this
      exact this
    have hex : ∃ xs : List α, xs.length = len ∧ ∀ i z, xs[i]? = some z → Q z ∧ ∃ c, c.length = d.sz ∧ d.K w z c ∧ ∀ j u, c[j]? = some u → w.cell? (a.add (i * d.sz + j)) = some u := by
      clear hx h hmm
      revert key
      generalize len = L
      intro key
      induction L with
      | zero => exact ⟨[], rfl, fun i z hz => by simp at hz⟩
      | succ L ih =>
        obtain ⟨xs, hlen, hxs⟩ := ih (fun i hi => key i (by omega))
        obtain ⟨z, hz⟩ := key L (by omega)
        refine ⟨xs ++ [z], by simp [hlen], fun i y hy => ?_⟩
        by_cases hi : i < xs.length
        · rw [List.getElem?_append_left hi] at hy
          exact hxs i y hy
        · have hlt : i < (xs ++ [z]).length := (List.getElem?_eq_some_iff.1 hy).1
          simp at hlt
          obtain rfl : i = L := by omega
          rw [List.getElem?_append_right (by omega), hlen, Nat.sub_self] at hy
          cases hy
          exact hz
    obtain ⟨xs, hlen, hxs⟩ := hex
    refine ⟨xs, ⟨some a, cap, by rw [hlen], by omega, ⟨rfl, ?_, fun _ => ⟨a, rfl, fun j p hj => (hxs j p hj).2⟩⟩⟩, by omega, fun z hz => ?_⟩
    · have : maxLen = 9223372036854775807 := rfl
      omega
    · obtain ⟨i, hi⟩ := List.getElem?_of_mem hz
      exact (hxs i z hi).1

/-- The fields from offset 'off' on, as a kind. -/
def Fields {α : Type} (P : Program) (d : Kd α) (fs : List Field) (off : Nat) (Q : α → Prop) : Prop :=
  ∀ (H : Type) (enc : TypeId × Value → H) (w : World) (base : Nat) (spare : Nat → Bool) (held : Bool) (fuel : Nat) (cs : List Value) (xs : List (DataW H × List MemPlace)),
    fs.mapM (fun f => DataW.trod enc P w base spare held fuel f.type ((cs.drop f.offset).take (P.cellsOf f.type))) = some xs → off + d.sz ≤ cs.length → ∃ a : α, d.K w a ((cs.drop off).take d.sz) ∧ Q a

theorem fields_one {P : Program} {α : Type} {d : Kd α} {f : Field} {off : Nat} {Q : α → Prop} (ho : f.offset = off) (hc : P.cellsOf f.type = d.sz) (hd : Opens P d f.type Q) : Fields P d [f] off Q := by
  intro H enc w base spare held fuel cs xs h hl
  simp only [List.mapM_cons, List.mapM_nil, Option.bind_eq_bind, Option.pure_def] at h
  obtain ⟨y, hy, _⟩ := Option.bind_eq_some_iff.1 h
  rw [hc, ho] at hy
  exact hd H enc w base spare held fuel _ _ hy

theorem fields_cons {P : Program} {α β : Type} {d : Kd α} {d' : Kd β} {f : Field} {fs : List Field} {off : Nat} {Q : α → Prop} {Q' : β → Prop} (ho : f.offset = off) (hc : P.cellsOf f.type = d.sz)
    (hd : Opens P d f.type Q) (hr : Fields P d' fs (off + d.sz) Q') : Fields P (Kd.pair d d') (f :: fs) off (fun x => Q x.1 ∧ Q' x.2) := by
  intro H enc w base spare held fuel cs xs h hl
  have hsz : (Kd.pair d d').sz = d.sz + d'.sz := rfl
  rw [hsz] at hl
  simp only [List.mapM_cons, Option.bind_eq_bind, Option.pure_def] at h
  obtain ⟨y, hy, h⟩ := Option.bind_eq_some_iff.1 h
  obtain ⟨ys, hys, _⟩ := Option.bind_eq_some_iff.1 h
  rw [hc, ho] at hy
  obtain ⟨a, ha, hqa⟩ := hd H enc w base spare held fuel _ _ hy
  obtain ⟨b, hb, hqb⟩ := hr H enc w base spare held fuel cs ys hys (by omega)
  refine ⟨(a, b), ⟨(cs.drop off).take d.sz, (cs.drop (off + d.sz)).take d'.sz, ?_, ha, hb⟩, hqa, hqb⟩
  rw [hsz, List.take_add, List.drop_drop]

theorem opens_struct {P : Program} {α β : Type} {d : Kd α} {t : TypeId} {fs : Array Field} {Q : α → Prop} (f : β → α) (g : α → β) (hfg : ∀ a, f (g a) = a) (ht : P.underlying t = some (.struct fs)) (hc : P.cellsOf t = d.sz)
    (hr : Fields P d fs.toList 0 Q) : Opens P (Kd.iso d f) t (fun b => Q (f b)) := by
  intro H enc w base spare held fuel cs x h
  cases fuel with
  | zero => simp [DataW.trod] at h
  | succ n =>
    have hh : (if cs.length = P.cellsOf t then (fs.toList.mapM fun f => DataW.trod enc P w base spare held n f.type ((cs.drop f.offset).take (P.cellsOf f.type))).map fun xs => (DataW.agg (xs.map (·.1)), xs.flatMap (·.2)) else none) = some x := by
      rw [← h]
      simp only [DataW.trod, ht]
    split at hh
    · rename_i hlen
      obtain ⟨xs, hxs, _⟩ := Option.map_eq_some_iff.1 hh
      obtain ⟨a, ha, hq⟩ := hr H enc w base spare held n cs xs hxs (by omega)
      refine ⟨g a, ?_, by show Q (f (g a)); rw [hfg]; exact hq⟩
      show d.K w (f (g a)) cs
      rw [hfg]
      rw [List.drop_zero, List.take_of_length_le (by omega)] at ha
      exact ha
    · cases hh

/-! ### Of a whole argument -/
theorem arg_int {P : Program} {t : TypeId} {k : IntKind} {H : Type} {enc : TypeId × Value → H} {w : World} {r : Reach} {b0 base : Nat} {spare : Nat → Bool} {held : Bool} {v : Value} {x : DataW H} {ps : List MemPlace}
    (ht : P.underlying t = some (.int k)) (hv : Value.okWide P w r b0 t v) (h : DataW.Trod enc P w base spare held t v x ps) : ∃ n : Int, v = .int k n ∧ (Lit.int k n).wf = true := by
  obtain ⟨n, rfl, _, _, wn⟩ := open_int ht hv h
  exact ⟨n, rfl, wn⟩
theorem arg_bool {P : Program} {t : TypeId} {H : Type} {enc : TypeId × Value → H} {w : World} {r : Reach} {b0 base : Nat} {spare : Nat → Bool} {held : Bool} {v : Value} {x : DataW H} {ps : List MemPlace}
    (ht : P.underlying t = some .bool) (hv : Value.okWide P w r b0 t v) (h : DataW.Trod enc P w base spare held t v x ps) : ∃ b : Bool, v = .bool b := by
  obtain ⟨b, rfl, _, _⟩ := RowKit.open_bool ht hv h
  exact ⟨b, rfl⟩
theorem arg_float {P : Program} {t : TypeId} {k : FloatKind} {H : Type} {enc : TypeId × Value → H} {w : World} {r : Reach} {b0 base : Nat} {spare : Nat → Bool} {held : Bool} {v : Value} {x : DataW H} {ps : List MemPlace}
    (ht : P.underlying t = some (.float k)) (hv : Value.okWide P w r b0 t v) (h : DataW.Trod enc P w base spare held t v x ps) : ∃ n : Nat, v = .float k n ∧ (Lit.float k n).wf = true := by
  obtain ⟨n, rfl, _, _, wn⟩ := open_float ht hv h
  exact ⟨n, rfl, wn⟩
theorem arr_eq {cs : Array Value} {l : List Value} (h : cs.toList = l) : cs = l.toArray := by rw [← h]
/-- A struct by value. -/
theorem arg_struct {P : Program} {α : Type} {d : Kd α} {t : TypeId} {fs : Array Field} {Q : α → Prop} {H : Type} {enc : TypeId × Value → H} {w : World} {r : Reach} {b0 base : Nat} {spare : Nat → Bool} {held : Bool} {v : Value} {x : DataW H} {ps : List MemPlace}
    (ht : P.underlying t = some (.struct fs)) (hd : Opens P d t Q) (hv : Value.okWide P w r b0 t v) (h : DataW.Trod enc P w base spare held t v x ps) : ∃ (a : α) (cs : Array Value), v = .agg cs ∧ d.K w a cs.toList ∧ Q a := by
  obtain ⟨cs, rfl, _⟩ := okWide_struct ht hv
  obtain ⟨fuel, hf⟩ := h
  obtain ⟨a, ha, hq⟩ := hd H enc w base spare held fuel _ _ hf
  exact ⟨a, cs, rfl, ha, hq⟩

/-- A slice. -/
theorem arg_slice {P : Program} {α : Type} {d : Kd α} {t e : TypeId} {Q : α → Prop} {H : Type} {enc : TypeId × Value → H} {w : World} {r : Reach} {b0 base : Nat} {spare : Nat → Bool} {held : Bool} {v : Value} {x : DataW H} {ps : List MemPlace}
    (ht : P.underlying t = some (.slice e)) (hc : P.cellsOf e = d.sz) (hd : Opens P d e Q) (hv : Value.okWide P w r b0 t v) (h : DataW.Trod enc P w base spare held t v x ps) :
    ∃ (xs : List α) (A : Option Addr) (c : Nat), v = .slice A xs.length c ∧ xs.length ≤ c ∧ d.C w A xs.length xs ∧ xs.length ≤ maxLen ∧ ∀ z ∈ xs, Q z := by
  obtain ⟨a0, len, cap, rfl⟩ := okWide_slice ht hv
  obtain ⟨fuel, hf⟩ := h
  obtain ⟨xs, ⟨A, c, hA, hl, hC⟩, hm, hq⟩ := opens_slice ht hc hd H enc w base spare held fuel _ _ hf
  simp only [Value.cells, List.cons.injEq, Value.slice.injEq, and_true] at hA
  obtain ⟨rfl, rfl, rfl⟩ := hA
  exact ⟨xs, _, _, rfl, hl, hC, hm, hq⟩
theorem rows_le {α : Type} {e : Nat} {d : Kd α} {w : World} {A : Option Addr} {n : Nat} {xs : List (List α)} (h : Kd.C (Kd.slice e d) w A n xs) : ∀ x ∈ xs, x.length ≤ 9223372036854775807 := by
  intro x hx
  obtain ⟨j, hj, rfl⟩ := List.getElem_of_mem hx
  have hn := h.1
  obtain ⟨ad, _, hc⟩ := h.2.2 (by omega)
  obtain ⟨c, _, hk, _⟩ := hc j _ (List.getElem?_eq_getElem hj)
  obtain ⟨A', c', _, _, hC⟩ := hk
  exact hC.2.1
end Go.Proofs.Ytphfmcdkldcmiaa.Op
