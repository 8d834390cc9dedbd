import Derived.Test.YtfbokdbaondjdaaBFnExactDuties2
import Derived.Test.YtfbokdbaondjdaaBFnExactDuties3
-- printed for this claim out of the translation
namespace Go.Proofs.Ytfbokdbaondjdaa.PV1
open Go.RowKit Go.Proofs.YtfbokdbaondjdaaW.PrintWords Go.Proofs.YtfbokdbaondjdaaW.PrintLast Go.Proofs.YtfbokdbaondjdaaW.PrintMore Go.Proofs.Ytfbokdbaondjdaa.Cz Go.Proofs.Ytfbokdbaondjdaa.Cz
attribute [local go_sem] max2_int min2_int max_two min_two max_three min_three max_four min_four
set_option linter.unusedVariables false
set_option linter.unusedSimpArgs false

theorem s5_0 {p : Prop} (h : p := by repeat (first | (with_reducible first | exact HB.out | apply below_alloc | apply pw_below_drewN | apply below_drew1) | exact HB.out)) : p := h
theorem s5_1 {p : Prop} (h : p := by (try simp only [List.map_toArray, List.map_cons, List.map_nil]); first | done | rfl | (simp only [List.length_drop, List.length_take]; rfl)) : p := h
theorem s5_2 {p : Prop} (h : p := by repeat (first | (with_reducible first | exact HB.out | apply below_alloc | apply pw_below_drewN | apply below_drew1 | refine below_set ?_ GE169.out | refine below_set ?_ GE170.out) | exact HB.out)) : p := h
theorem s5_3 {p : Prop} (h : p := by repeat (first | (with_reducible first | exact HB.out | apply below_alloc | apply pw_below_drewN | apply below_drew1 | refine below_set ?_ GE178.out | refine below_set ?_ GE179.out) | exact HB.out)) : p := h
theorem s5_4 {p : Prop} (h : p := by repeat (first | (with_reducible first | exact HB.out | apply below_alloc | apply pw_below_drewN | apply below_drew1 | refine below_set ?_ GE181.out | refine below_set ?_ GE182.out) | exact HB.out)) : p := h
/-! ### spec_ShipOk: function 15 -/
def spec_ShipOk.f (a0_0 : Int) (a0_1 : Int) (a0_2 : Int) (a0_3 : Int) (a0_4 : Int) (a0_5 : Int) : Option (Bool) := (spec_l1In.f a0_0 (-100000) 100000).bind fun t161 => (if t161 = true then ((spec_l1In.f a0_1 (-100000) 100000).bind fun t162 => (if t162 = true then ((spec_l1In.f a0_2 (-1000) 1000).bind fun t163 => (if t163 = true then ((spec_l1In.f a0_3 (-1000) 1000).bind fun t164 => (if t164 = true then (if a0_2 = 0 then (if a0_3 = 0 then (some false) else ((spec_l1In.f a0_4 1 5).bind fun t165 => (if t165 = true then ((spec_l1In.f a0_5 0 1000).bind fun t166 => (some t166)) else (some false)))) else ((spec_l1In.f a0_4 1 5).bind fun t167 => (if t167 = true then ((spec_l1In.f a0_5 0 1000).bind fun t168 => (some t168)) else (some false)))) else (some false))) else (some false))) else (some false))) else (some false))
set_option maxHeartbeats 8000000 in
set_option maxRecDepth 100000 in
theorem spec_ShipOk.calls (a0_0 : Int) (a0_1 : Int) (a0_2 : Int) (a0_3 : Int) (a0_4 : Int) (a0_5 : Int) (r : Bool) (w : World) (h : spec_ShipOk.f a0_0 a0_1 a0_2 a0_3 a0_4 a0_5 = some r) :
  Calls Try.prog 15 #[.agg #[.int .i64 a0_0, .int .i64 a0_1, .int .i64 a0_2, .int .i64 a0_3, .int .i64 a0_4, .int .i64 a0_5]] w fun e w' => e = .returned (.bool r) ∧ Below w.heap.size w w' := by
 have hu25 := Try.underlying25
 have HB := Aside0.mk (Below.refl w.heap.size w)
 have H : ((spec_l1In.f a0_0 (-100000) 100000).bind fun t161 => (if t161 = true then ((spec_l1In.f a0_1 (-100000) 100000).bind fun t162 => (if t162 = true then ((spec_l1In.f a0_2 (-1000) 1000).bind fun t163 => (if t163 = true then ((spec_l1In.f a0_3 (-1000) 1000).bind fun t164 => (if t164 = true then (if a0_2 = 0 then (if a0_3 = 0 then (some false) else ((spec_l1In.f a0_4 1 5).bind fun t165 => (if t165 = true then ((spec_l1In.f a0_5 0 1000).bind fun t166 => (some t166)) else (some false)))) else ((spec_l1In.f a0_4 1 5).bind fun t167 => (if t167 = true then ((spec_l1In.f a0_5 0 1000).bind fun t168 => (some t168)) else (some false)))) else (some false))) else (some false))) else (some false))) else (some false))) = some r := h
 clear h
 replace H := Option.bind_eq_some_iff.mp H
 obtain ⟨t161, A20, H⟩ := H
 replace H : (if t161 = true then ((spec_l1In.f a0_1 (-100000) 100000).bind fun t162 => (if t162 = true then ((spec_l1In.f a0_2 (-1000) 1000).bind fun t163 => (if t163 = true then ((spec_l1In.f a0_3 (-1000) 1000).bind fun t164 => (if t164 = true then (if a0_2 = 0 then (if a0_3 = 0 then (some false) else ((spec_l1In.f a0_4 1 5).bind fun t165 => (if t165 = true then ((spec_l1In.f a0_5 0 1000).bind fun t166 => (some t166)) else (some false)))) else ((spec_l1In.f a0_4 1 5).bind fun t167 => (if t167 = true then ((spec_l1In.f a0_5 0 1000).bind fun t168 => (some t168)) else (some false)))) else (some false))) else (some false))) else (some false))) else (some false)) = some r := H
 have A2 := Aside0.mk A20
 clear A20
 by_cases c3 : t161 = true
 ·subst c3
  have H1 : ((spec_l1In.f a0_1 (-100000) 100000).bind fun t162 => (if t162 = true then ((spec_l1In.f a0_2 (-1000) 1000).bind fun t163 => (if t163 = true then ((spec_l1In.f a0_3 (-1000) 1000).bind fun t164 => (if t164 = true then (if a0_2 = 0 then (if a0_3 = 0 then (some false) else ((spec_l1In.f a0_4 1 5).bind fun t165 => (if t165 = true then ((spec_l1In.f a0_5 0 1000).bind fun t166 => (some t166)) else (some false)))) else ((spec_l1In.f a0_4 1 5).bind fun t167 => (if t167 = true then ((spec_l1In.f a0_5 0 1000).bind fun t168 => (some t168)) else (some false)))) else (some false))) else (some false))) else (some false))) = some r := by rw [if_pos rfl] at H; exact H
  clear H
  have H := H1
  clear H1
  replace H := Option.bind_eq_some_iff.mp H
  obtain ⟨t162, A40, H⟩ := H
  replace H : (if t162 = true then ((spec_l1In.f a0_2 (-1000) 1000).bind fun t163 => (if t163 = true then ((spec_l1In.f a0_3 (-1000) 1000).bind fun t164 => (if t164 = true then (if a0_2 = 0 then (if a0_3 = 0 then (some false) else ((spec_l1In.f a0_4 1 5).bind fun t165 => (if t165 = true then ((spec_l1In.f a0_5 0 1000).bind fun t166 => (some t166)) else (some false)))) else ((spec_l1In.f a0_4 1 5).bind fun t167 => (if t167 = true then ((spec_l1In.f a0_5 0 1000).bind fun t168 => (some t168)) else (some false)))) else (some false))) else (some false))) else (some false)) = some r := H
  have A4 := Aside0.mk A40
  clear A40
  by_cases c5 : t162 = true
  ·subst c5
   have H1 : ((spec_l1In.f a0_2 (-1000) 1000).bind fun t163 => (if t163 = true then ((spec_l1In.f a0_3 (-1000) 1000).bind fun t164 => (if t164 = true then (if a0_2 = 0 then (if a0_3 = 0 then (some false) else ((spec_l1In.f a0_4 1 5).bind fun t165 => (if t165 = true then ((spec_l1In.f a0_5 0 1000).bind fun t166 => (some t166)) else (some false)))) else ((spec_l1In.f a0_4 1 5).bind fun t167 => (if t167 = true then ((spec_l1In.f a0_5 0 1000).bind fun t168 => (some t168)) else (some false)))) else (some false))) else (some false))) = some r := by rw [if_pos rfl] at H; exact H
   clear H
   have H := H1
   clear H1
   replace H := Option.bind_eq_some_iff.mp H
   obtain ⟨t163, A60, H⟩ := H
   replace H : (if t163 = true then ((spec_l1In.f a0_3 (-1000) 1000).bind fun t164 => (if t164 = true then (if a0_2 = 0 then (if a0_3 = 0 then (some false) else ((spec_l1In.f a0_4 1 5).bind fun t165 => (if t165 = true then ((spec_l1In.f a0_5 0 1000).bind fun t166 => (some t166)) else (some false)))) else ((spec_l1In.f a0_4 1 5).bind fun t167 => (if t167 = true then ((spec_l1In.f a0_5 0 1000).bind fun t168 => (some t168)) else (some false)))) else (some false))) else (some false)) = some r := H
   have A6 := Aside0.mk A60
   clear A60
   by_cases c7 : t163 = true
   ·subst c7
    have H1 : ((spec_l1In.f a0_3 (-1000) 1000).bind fun t164 => (if t164 = true then (if a0_2 = 0 then (if a0_3 = 0 then (some false) else ((spec_l1In.f a0_4 1 5).bind fun t165 => (if t165 = true then ((spec_l1In.f a0_5 0 1000).bind fun t166 => (some t166)) else (some false)))) else ((spec_l1In.f a0_4 1 5).bind fun t167 => (if t167 = true then ((spec_l1In.f a0_5 0 1000).bind fun t168 => (some t168)) else (some false)))) else (some false))) = some r := by rw [if_pos rfl] at H; exact H
    clear H
    have H := H1
    clear H1
    replace H := Option.bind_eq_some_iff.mp H
    obtain ⟨t164, A80, H⟩ := H
    replace H : (if t164 = true then (if a0_2 = 0 then (if a0_3 = 0 then (some false) else ((spec_l1In.f a0_4 1 5).bind fun t165 => (if t165 = true then ((spec_l1In.f a0_5 0 1000).bind fun t166 => (some t166)) else (some false)))) else ((spec_l1In.f a0_4 1 5).bind fun t167 => (if t167 = true then ((spec_l1In.f a0_5 0 1000).bind fun t168 => (some t168)) else (some false)))) else (some false)) = some r := H
    have A8 := Aside0.mk A80
    clear A80
    by_cases c9 : t164 = true
    ·subst c9
     have H1 : (if a0_2 = 0 then (if a0_3 = 0 then (some false) else ((spec_l1In.f a0_4 1 5).bind fun t165 => (if t165 = true then ((spec_l1In.f a0_5 0 1000).bind fun t166 => (some t166)) else (some false)))) else ((spec_l1In.f a0_4 1 5).bind fun t167 => (if t167 = true then ((spec_l1In.f a0_5 0 1000).bind fun t168 => (some t168)) else (some false)))) = some r := by rw [if_pos rfl] at H; exact H
     clear H
     have H := H1
     clear H1
     by_cases c10 : a0_2 = 0
     ·rw [if_pos c10] at H
      have c10b0 : (a0_2 == 0) = true := beq_iff_eq.mpr c10
      have c10b1 : (a0_2 != 0) = false := bne_eq_false_iff_eq.mpr c10
      clear c10
      by_cases c11 : a0_3 = 0
      ·rw [if_pos c11] at H
       have c11b0 : (a0_3 == 0) = true := beq_iff_eq.mpr c11
       have c11b1 : (a0_3 != 0) = false := bne_eq_false_iff_eq.mpr c11
       clear c11
       obtain rfl := Option.some.inj H
       go_enter Try.func15, Try.ntmps15
       go_wp2_with (first | ((with_reducible refine gate_dst (N := 1) rfl ?_); refine box_event ?hg (N := 1) ?hd (cs := #[.int .i64 a0_0, .int .i64 a0_1, .int .i64 a0_2, .int .i64 a0_3, .int .i64 a0_4, .int .i64 a0_5]) (t := 25) ?hr ?_; (case hd => rfl); (case hg => rfl); (case hr => first | (go_simp; done) | (go_simp; rfl)); intro gb160 hg w1 hbox hb; have n0_ := Aside0.mk (below_step s5_0 hb); have n1_ := Aside0.mk (hbox); have n2_ := Aside0.mk (ns hg s5_0 : w.heap.size ≤ gb160); have n3_ := Aside0.mk (ns hg s5_0 : w.heap.size ≤ gb160); clear HB; have HB := n0_; have BK160 := n1_; have GW160 := n2_; have GE160 := n3_; clear n0_ n1_ n2_ n3_; clear hb hbox hg; have hcz13_0 : w1.cell? ⟨gb160, 0, none⟩ = some (.int .i64 a0_0) := bc BK160.out 0; have hcz13_1 : w1.cell? ⟨gb160, 1, none⟩ = some (.int .i64 a0_1) := bc BK160.out 1; have hcz13_2 : w1.cell? ⟨gb160, 2, none⟩ = some (.int .i64 a0_2) := bc BK160.out 2; have hcz13_3 : w1.cell? ⟨gb160, 3, none⟩ = some (.int .i64 a0_3) := bc BK160.out 3; have hcz13_4 : w1.cell? ⟨gb160, 4, none⟩ = some (.int .i64 a0_4) := bc BK160.out 4; have hcz13_5 : w1.cell? ⟨gb160, 5, none⟩ = some (.int .i64 a0_5) := bc BK160.out 5; have hfz13_0 := blk_frozen BK160.out 0; have hfz13_1 := blk_frozen BK160.out 1; have hfz13_2 := blk_frozen BK160.out 2; have hfz13_3 := blk_frozen BK160.out 3; have hfz13_4 := blk_frozen BK160.out 4; have hfz13_5 := blk_frozen BK160.out 5) | ((with_reducible refine gate_callee (f := 55) rfl ?_); refine goesL_ (some 5) rfl rfl Try.func55 (by kernel_rfl) rfl #[.int .i64 a0_0, .int .i64 (-100000), .int .i64 100000] rfl s5_1 ?_; (with_reducible refine (spec_l1In.calls a0_0 (-100000) 100000 true _ A2.out).mono ?_); rintro e w' ⟨rfl, ⟨nd, rfl⟩⟩; refine ⟨_, rfl, ?_⟩) | (go_at_call 55; (with_reducible refine (spec_l1In.calls a0_1 (-100000) 100000 true _ A4.out).mono ?_); rintro e w' ⟨rfl, ⟨nd, rfl⟩⟩) | (go_at_call 55; (with_reducible refine (spec_l1In.calls a0_2 (-1000) 1000 true _ A6.out).mono ?_); rintro e w' ⟨rfl, ⟨nd, rfl⟩⟩) | (go_at_call 55; (with_reducible refine (spec_l1In.calls a0_3 (-1000) 1000 true _ A8.out).mono ?_); rintro e w' ⟨rfl, ⟨nd, rfl⟩⟩))
       go_ret
       exact ⟨by first | rfl | (simp [errW_none, errW_some] <;> rfl) | (simp [*, errW_none, errW_some] <;> rfl), by repeat (first | (with_reducible first | exact HB.out | apply below_alloc | apply pw_below_drewN | apply below_drew1 | refine below_set ?_ GE160.out) | exact HB.out)⟩
      ·rw [if_neg c11] at H
       have c11b0 : (a0_3 == 0) = false := beq_eq_false_iff_ne.mpr c11
       have c11b1 : (a0_3 != 0) = true := bne_iff_ne.mpr c11
       replace H := Option.bind_eq_some_iff.mp H
       obtain ⟨t165, A140, H⟩ := H
       replace H : (if t165 = true then ((spec_l1In.f a0_5 0 1000).bind fun t166 => (some t166)) else (some false)) = some r := H
       have A14 := Aside0.mk A140
       clear A140
       by_cases c15 : t165 = true
       ·subst c15
        have H1 : ((spec_l1In.f a0_5 0 1000).bind fun t166 => (some t166)) = some r := by rw [if_pos rfl] at H; exact H
        clear H
        have H := H1
        clear H1
        replace H := Option.bind_eq_some_iff.mp H
        obtain ⟨t166, A160, H⟩ := H
        replace H : (some t166) = some r := H
        have A16 := Aside0.mk A160
        clear A160
        obtain rfl := Option.some.inj H
        go_enter Try.func15, Try.ntmps15
        go_wp2_with (first | ((with_reducible refine gate_dst (N := 1) rfl ?_); refine box_event ?hg (N := 1) ?hd (cs := #[.int .i64 a0_0, .int .i64 a0_1, .int .i64 a0_2, .int .i64 a0_3, .int .i64 a0_4, .int .i64 a0_5]) (t := 25) ?hr ?_; (case hd => rfl); (case hg => rfl); (case hr => first | (go_simp; done) | (go_simp; rfl)); intro gb160 hg w1 hbox hb; have n0_ := Aside0.mk (below_step s5_0 hb); have n1_ := Aside0.mk (hbox); have n2_ := Aside0.mk (ns hg s5_0 : w.heap.size ≤ gb160); have n3_ := Aside0.mk (ns hg s5_0 : w.heap.size ≤ gb160); clear HB; have HB := n0_; have BK160 := n1_; have GW160 := n2_; have GE160 := n3_; clear n0_ n1_ n2_ n3_; clear hb hbox hg; have hcz18_0 : w1.cell? ⟨gb160, 0, none⟩ = some (.int .i64 a0_0) := bc BK160.out 0; have hcz18_1 : w1.cell? ⟨gb160, 1, none⟩ = some (.int .i64 a0_1) := bc BK160.out 1; have hcz18_2 : w1.cell? ⟨gb160, 2, none⟩ = some (.int .i64 a0_2) := bc BK160.out 2; have hcz18_3 : w1.cell? ⟨gb160, 3, none⟩ = some (.int .i64 a0_3) := bc BK160.out 3; have hcz18_4 : w1.cell? ⟨gb160, 4, none⟩ = some (.int .i64 a0_4) := bc BK160.out 4; have hcz18_5 : w1.cell? ⟨gb160, 5, none⟩ = some (.int .i64 a0_5) := bc BK160.out 5; have hfz18_0 := blk_frozen BK160.out 0; have hfz18_1 := blk_frozen BK160.out 1; have hfz18_2 := blk_frozen BK160.out 2; have hfz18_3 := blk_frozen BK160.out 3; have hfz18_4 := blk_frozen BK160.out 4; have hfz18_5 := blk_frozen BK160.out 5) | ((with_reducible refine gate_callee (f := 55) rfl ?_); refine goesL_ (some 5) rfl rfl Try.func55 (by kernel_rfl) rfl #[.int .i64 a0_0, .int .i64 (-100000), .int .i64 100000] rfl s5_1 ?_; (with_reducible refine (spec_l1In.calls a0_0 (-100000) 100000 true _ A2.out).mono ?_); rintro e w' ⟨rfl, ⟨nd, rfl⟩⟩; refine ⟨_, rfl, ?_⟩) | (go_at_call 55; (with_reducible refine (spec_l1In.calls a0_1 (-100000) 100000 true _ A4.out).mono ?_); rintro e w' ⟨rfl, ⟨nd, rfl⟩⟩) | (go_at_call 55; (with_reducible refine (spec_l1In.calls a0_2 (-1000) 1000 true _ A6.out).mono ?_); rintro e w' ⟨rfl, ⟨nd, rfl⟩⟩) | (go_at_call 55; (with_reducible refine (spec_l1In.calls a0_3 (-1000) 1000 true _ A8.out).mono ?_); rintro e w' ⟨rfl, ⟨nd, rfl⟩⟩) | (go_at_call 55; (with_reducible refine (spec_l1In.calls a0_4 1 5 true _ A14.out).mono ?_); rintro e w' ⟨rfl, ⟨nd, rfl⟩⟩) | (go_at_call 55; (with_reducible refine (spec_l1In.calls a0_5 0 1000 t166 _ A16.out).mono ?_); rintro e w' ⟨rfl, ⟨nd, rfl⟩⟩))
        go_ret
        exact ⟨by first | rfl | (simp [errW_none, errW_some] <;> rfl) | (simp [*, errW_none, errW_some] <;> rfl), by repeat (first | (with_reducible first | exact HB.out | apply below_alloc | apply pw_below_drewN | apply below_drew1 | refine below_set ?_ GE160.out) | exact HB.out)⟩
       ·replace c15 := Bool.eq_false_iff.mpr c15
        subst c15
        have H1 : (some false) = some r := by rw [if_neg (show ¬ (false = true) by decide)] at H; exact H
        clear H
        have H := H1
        clear H1
        obtain rfl := Option.some.inj H
        go_enter Try.func15, Try.ntmps15
        go_wp2_with (first | ((with_reducible refine gate_dst (N := 1) rfl ?_); refine box_event ?hg (N := 1) ?hd (cs := #[.int .i64 a0_0, .int .i64 a0_1, .int .i64 a0_2, .int .i64 a0_3, .int .i64 a0_4, .int .i64 a0_5]) (t := 25) ?hr ?_; (case hd => rfl); (case hg => rfl); (case hr => first | (go_simp; done) | (go_simp; rfl)); intro gb160 hg w1 hbox hb; have n0_ := Aside0.mk (below_step s5_0 hb); have n1_ := Aside0.mk (hbox); have n2_ := Aside0.mk (ns hg s5_0 : w.heap.size ≤ gb160); have n3_ := Aside0.mk (ns hg s5_0 : w.heap.size ≤ gb160); clear HB; have HB := n0_; have BK160 := n1_; have GW160 := n2_; have GE160 := n3_; clear n0_ n1_ n2_ n3_; clear hb hbox hg; have hcz20_0 : w1.cell? ⟨gb160, 0, none⟩ = some (.int .i64 a0_0) := bc BK160.out 0; have hcz20_1 : w1.cell? ⟨gb160, 1, none⟩ = some (.int .i64 a0_1) := bc BK160.out 1; have hcz20_2 : w1.cell? ⟨gb160, 2, none⟩ = some (.int .i64 a0_2) := bc BK160.out 2; have hcz20_3 : w1.cell? ⟨gb160, 3, none⟩ = some (.int .i64 a0_3) := bc BK160.out 3; have hcz20_4 : w1.cell? ⟨gb160, 4, none⟩ = some (.int .i64 a0_4) := bc BK160.out 4; have hcz20_5 : w1.cell? ⟨gb160, 5, none⟩ = some (.int .i64 a0_5) := bc BK160.out 5; have hfz20_0 := blk_frozen BK160.out 0; have hfz20_1 := blk_frozen BK160.out 1; have hfz20_2 := blk_frozen BK160.out 2; have hfz20_3 := blk_frozen BK160.out 3; have hfz20_4 := blk_frozen BK160.out 4; have hfz20_5 := blk_frozen BK160.out 5) | ((with_reducible refine gate_callee (f := 55) rfl ?_); refine goesL_ (some 5) rfl rfl Try.func55 (by kernel_rfl) rfl #[.int .i64 a0_0, .int .i64 (-100000), .int .i64 100000] rfl s5_1 ?_; (with_reducible refine (spec_l1In.calls a0_0 (-100000) 100000 true _ A2.out).mono ?_); rintro e w' ⟨rfl, ⟨nd, rfl⟩⟩; refine ⟨_, rfl, ?_⟩) | (go_at_call 55; (with_reducible refine (spec_l1In.calls a0_1 (-100000) 100000 true _ A4.out).mono ?_); rintro e w' ⟨rfl, ⟨nd, rfl⟩⟩) | (go_at_call 55; (with_reducible refine (spec_l1In.calls a0_2 (-1000) 1000 true _ A6.out).mono ?_); rintro e w' ⟨rfl, ⟨nd, rfl⟩⟩) | (go_at_call 55; (with_reducible refine (spec_l1In.calls a0_3 (-1000) 1000 true _ A8.out).mono ?_); rintro e w' ⟨rfl, ⟨nd, rfl⟩⟩) | (go_at_call 55; (with_reducible refine (spec_l1In.calls a0_4 1 5 false _ A14.out).mono ?_); rintro e w' ⟨rfl, ⟨nd, rfl⟩⟩))
        go_ret
        exact ⟨by first | rfl | (simp [errW_none, errW_some] <;> rfl) | (simp [*, errW_none, errW_some] <;> rfl), by repeat (first | (with_reducible first | exact HB.out | apply below_alloc | apply pw_below_drewN | apply below_drew1 | refine below_set ?_ GE160.out) | exact HB.out)⟩
     ·rw [if_neg c10] at H
      have c10b0 : (a0_2 == 0) = false := beq_eq_false_iff_ne.mpr c10
      have c10b1 : (a0_2 != 0) = true := bne_iff_ne.mpr c10
      replace H := Option.bind_eq_some_iff.mp H
      obtain ⟨t167, A210, H⟩ := H
      replace H : (if t167 = true then ((spec_l1In.f a0_5 0 1000).bind fun t168 => (some t168)) else (some false)) = some r := H
      have A21 := Aside0.mk A210
      clear A210
      by_cases c22 : t167 = true
      ·subst c22
       have H1 : ((spec_l1In.f a0_5 0 1000).bind fun t168 => (some t168)) = some r := by rw [if_pos rfl] at H; exact H
       clear H
       have H := H1
       clear H1
       replace H := Option.bind_eq_some_iff.mp H
       obtain ⟨t168, A230, H⟩ := H
       replace H : (some t168) = some r := H
       have A23 := Aside0.mk A230
       clear A230
       obtain rfl := Option.some.inj H
       go_enter Try.func15, Try.ntmps15
       go_wp2_with (first | ((with_reducible refine gate_dst (N := 1) rfl ?_); refine box_event ?hg (N := 1) ?hd (cs := #[.int .i64 a0_0, .int .i64 a0_1, .int .i64 a0_2, .int .i64 a0_3, .int .i64 a0_4, .int .i64 a0_5]) (t := 25) ?hr ?_; (case hd => rfl); (case hg => rfl); (case hr => first | (go_simp; done) | (go_simp; rfl)); intro gb160 hg w1 hbox hb; have n0_ := Aside0.mk (below_step s5_0 hb); have n1_ := Aside0.mk (hbox); have n2_ := Aside0.mk (ns hg s5_0 : w.heap.size ≤ gb160); have n3_ := Aside0.mk (ns hg s5_0 : w.heap.size ≤ gb160); clear HB; have HB := n0_; have BK160 := n1_; have GW160 := n2_; have GE160 := n3_; clear n0_ n1_ n2_ n3_; clear hb hbox hg; have hcz25_0 : w1.cell? ⟨gb160, 0, none⟩ = some (.int .i64 a0_0) := bc BK160.out 0; have hcz25_1 : w1.cell? ⟨gb160, 1, none⟩ = some (.int .i64 a0_1) := bc BK160.out 1; have hcz25_2 : w1.cell? ⟨gb160, 2, none⟩ = some (.int .i64 a0_2) := bc BK160.out 2; have hcz25_3 : w1.cell? ⟨gb160, 3, none⟩ = some (.int .i64 a0_3) := bc BK160.out 3; have hcz25_4 : w1.cell? ⟨gb160, 4, none⟩ = some (.int .i64 a0_4) := bc BK160.out 4; have hcz25_5 : w1.cell? ⟨gb160, 5, none⟩ = some (.int .i64 a0_5) := bc BK160.out 5; have hfz25_0 := blk_frozen BK160.out 0; have hfz25_1 := blk_frozen BK160.out 1; have hfz25_2 := blk_frozen BK160.out 2; have hfz25_3 := blk_frozen BK160.out 3; have hfz25_4 := blk_frozen BK160.out 4; have hfz25_5 := blk_frozen BK160.out 5) | ((with_reducible refine gate_callee (f := 55) rfl ?_); refine goesL_ (some 5) rfl rfl Try.func55 (by kernel_rfl) rfl #[.int .i64 a0_0, .int .i64 (-100000), .int .i64 100000] rfl s5_1 ?_; (with_reducible refine (spec_l1In.calls a0_0 (-100000) 100000 true _ A2.out).mono ?_); rintro e w' ⟨rfl, ⟨nd, rfl⟩⟩; refine ⟨_, rfl, ?_⟩) | (go_at_call 55; (with_reducible refine (spec_l1In.calls a0_1 (-100000) 100000 true _ A4.out).mono ?_); rintro e w' ⟨rfl, ⟨nd, rfl⟩⟩) | (go_at_call 55; (with_reducible refine (spec_l1In.calls a0_2 (-1000) 1000 true _ A6.out).mono ?_); rintro e w' ⟨rfl, ⟨nd, rfl⟩⟩) | (go_at_call 55; (with_reducible refine (spec_l1In.calls a0_3 (-1000) 1000 true _ A8.out).mono ?_); rintro e w' ⟨rfl, ⟨nd, rfl⟩⟩) | (go_at_call 55; (with_reducible refine (spec_l1In.calls a0_4 1 5 true _ A21.out).mono ?_); rintro e w' ⟨rfl, ⟨nd, rfl⟩⟩) | (go_at_call 55; (with_reducible refine (spec_l1In.calls a0_5 0 1000 t168 _ A23.out).mono ?_); rintro e w' ⟨rfl, ⟨nd, rfl⟩⟩))
       go_ret
       exact ⟨by first | rfl | (simp [errW_none, errW_some] <;> rfl) | (simp [*, errW_none, errW_some] <;> rfl), by repeat (first | (with_reducible first | exact HB.out | apply below_alloc | apply pw_below_drewN | apply below_drew1 | refine below_set ?_ GE160.out) | exact HB.out)⟩
      ·replace c22 := Bool.eq_false_iff.mpr c22
       subst c22
       have H1 : (some false) = some r := by rw [if_neg (show ¬ (false = true) by decide)] at H; exact H
       clear H
       have H := H1
       clear H1
       obtain rfl := Option.some.inj H
       go_enter Try.func15, Try.ntmps15
       go_wp2_with (first | ((with_reducible refine gate_dst (N := 1) rfl ?_); refine box_event ?hg (N := 1) ?hd (cs := #[.int .i64 a0_0, .int .i64 a0_1, .int .i64 a0_2, .int .i64 a0_3, .int .i64 a0_4, .int .i64 a0_5]) (t := 25) ?hr ?_; (case hd => rfl); (case hg => rfl); (case hr => first | (go_simp; done) | (go_simp; rfl)); intro gb160 hg w1 hbox hb; have n0_ := Aside0.mk (below_step s5_0 hb); have n1_ := Aside0.mk (hbox); have n2_ := Aside0.mk (ns hg s5_0 : w.heap.size ≤ gb160); have n3_ := Aside0.mk (ns hg s5_0 : w.heap.size ≤ gb160); clear HB; have HB := n0_; have BK160 := n1_; have GW160 := n2_; have GE160 := n3_; clear n0_ n1_ n2_ n3_; clear hb hbox hg; have hcz27_0 : w1.cell? ⟨gb160, 0, none⟩ = some (.int .i64 a0_0) := bc BK160.out 0; have hcz27_1 : w1.cell? ⟨gb160, 1, none⟩ = some (.int .i64 a0_1) := bc BK160.out 1; have hcz27_2 : w1.cell? ⟨gb160, 2, none⟩ = some (.int .i64 a0_2) := bc BK160.out 2; have hcz27_3 : w1.cell? ⟨gb160, 3, none⟩ = some (.int .i64 a0_3) := bc BK160.out 3; have hcz27_4 : w1.cell? ⟨gb160, 4, none⟩ = some (.int .i64 a0_4) := bc BK160.out 4; have hcz27_5 : w1.cell? ⟨gb160, 5, none⟩ = some (.int .i64 a0_5) := bc BK160.out 5; have hfz27_0 := blk_frozen BK160.out 0; have hfz27_1 := blk_frozen BK160.out 1; have hfz27_2 := blk_frozen BK160.out 2; have hfz27_3 := blk_frozen BK160.out 3; have hfz27_4 := blk_frozen BK160.out 4; have hfz27_5 := blk_frozen BK160.out 5) | ((with_reducible refine gate_callee (f := 55) rfl ?_); refine goesL_ (some 5) rfl rfl Try.func55 (by kernel_rfl) rfl #[.int .i64 a0_0, .int .i64 (-100000), .int .i64 100000] rfl s5_1 ?_; (with_reducible refine (spec_l1In.calls a0_0 (-100000) 100000 true _ A2.out).mono ?_); rintro e w' ⟨rfl, ⟨nd, rfl⟩⟩; refine ⟨_, rfl, ?_⟩) | (go_at_call 55; (with_reducible refine (spec_l1In.calls a0_1 (-100000) 100000 true _ A4.out).mono ?_); rintro e w' ⟨rfl, ⟨nd, rfl⟩⟩) | (go_at_call 55; (with_reducible refine (spec_l1In.calls a0_2 (-1000) 1000 true _ A6.out).mono ?_); rintro e w' ⟨rfl, ⟨nd, rfl⟩⟩) | (go_at_call 55; (with_reducible refine (spec_l1In.calls a0_3 (-1000) 1000 true _ A8.out).mono ?_); rintro e w' ⟨rfl, ⟨nd, rfl⟩⟩) | (go_at_call 55; (with_reducible refine (spec_l1In.calls a0_4 1 5 false _ A21.out).mono ?_); rintro e w' ⟨rfl, ⟨nd, rfl⟩⟩))
       go_ret
       exact ⟨by first | rfl | (simp [errW_none, errW_some] <;> rfl) | (simp [*, errW_none, errW_some] <;> rfl), by repeat (first | (with_reducible first | exact HB.out | apply below_alloc | apply pw_below_drewN | apply below_drew1 | refine below_set ?_ GE160.out) | exact HB.out)⟩
    ·replace c9 := Bool.eq_false_iff.mpr c9
     subst c9
     have H1 : (some false) = some r := by rw [if_neg (show ¬ (false = true) by decide)] at H; exact H
     clear H
     have H := H1
     clear H1
     obtain rfl := Option.some.inj H
     go_enter Try.func15, Try.ntmps15
     go_wp2_with (first | ((with_reducible refine gate_dst (N := 1) rfl ?_); refine box_event ?hg (N := 1) ?hd (cs := #[.int .i64 a0_0, .int .i64 a0_1, .int .i64 a0_2, .int .i64 a0_3, .int .i64 a0_4, .int .i64 a0_5]) (t := 25) ?hr ?_; (case hd => rfl); (case hg => rfl); (case hr => first | (go_simp; done) | (go_simp; rfl)); intro gb160 hg w1 hbox hb; have n0_ := Aside0.mk (below_step s5_0 hb); have n1_ := Aside0.mk (hbox); have n2_ := Aside0.mk (ns hg s5_0 : w.heap.size ≤ gb160); have n3_ := Aside0.mk (ns hg s5_0 : w.heap.size ≤ gb160); clear HB; have HB := n0_; have BK160 := n1_; have GW160 := n2_; have GE160 := n3_; clear n0_ n1_ n2_ n3_; clear hb hbox hg; have hcz29_0 : w1.cell? ⟨gb160, 0, none⟩ = some (.int .i64 a0_0) := bc BK160.out 0; have hcz29_1 : w1.cell? ⟨gb160, 1, none⟩ = some (.int .i64 a0_1) := bc BK160.out 1; have hcz29_2 : w1.cell? ⟨gb160, 2, none⟩ = some (.int .i64 a0_2) := bc BK160.out 2; have hcz29_3 : w1.cell? ⟨gb160, 3, none⟩ = some (.int .i64 a0_3) := bc BK160.out 3; have hcz29_4 : w1.cell? ⟨gb160, 4, none⟩ = some (.int .i64 a0_4) := bc BK160.out 4; have hcz29_5 : w1.cell? ⟨gb160, 5, none⟩ = some (.int .i64 a0_5) := bc BK160.out 5; have hfz29_0 := blk_frozen BK160.out 0; have hfz29_1 := blk_frozen BK160.out 1; have hfz29_2 := blk_frozen BK160.out 2; have hfz29_3 := blk_frozen BK160.out 3; have hfz29_4 := blk_frozen BK160.out 4; have hfz29_5 := blk_frozen BK160.out 5) | ((with_reducible refine gate_callee (f := 55) rfl ?_); refine goesL_ (some 5) rfl rfl Try.func55 (by kernel_rfl) rfl #[.int .i64 a0_0, .int .i64 (-100000), .int .i64 100000] rfl s5_1 ?_; (with_reducible refine (spec_l1In.calls a0_0 (-100000) 100000 true _ A2.out).mono ?_); rintro e w' ⟨rfl, ⟨nd, rfl⟩⟩; refine ⟨_, rfl, ?_⟩) | (go_at_call 55; (with_reducible refine (spec_l1In.calls a0_1 (-100000) 100000 true _ A4.out).mono ?_); rintro e w' ⟨rfl, ⟨nd, rfl⟩⟩) | (go_at_call 55; (with_reducible refine (spec_l1In.calls a0_2 (-1000) 1000 true _ A6.out).mono ?_); rintro e w' ⟨rfl, ⟨nd, rfl⟩⟩) | (go_at_call 55; (with_reducible refine (spec_l1In.calls a0_3 (-1000) 1000 false _ A8.out).mono ?_); rintro e w' ⟨rfl, ⟨nd, rfl⟩⟩))
     go_ret
     exact ⟨by first | rfl | (simp [errW_none, errW_some] <;> rfl) | (simp [*, errW_none, errW_some] <;> rfl), by repeat (first | (with_reducible first | exact HB.out | apply below_alloc | apply pw_below_drewN | apply below_drew1 | refine below_set ?_ GE160.out) | exact HB.out)⟩
   ·replace c7 := Bool.eq_false_iff.mpr c7
    subst c7
    have H1 : (some false) = some r := by rw [if_neg (show ¬ (false = true) by decide)] at H; exact H
    clear H
    have H := H1
    clear H1
    obtain rfl := Option.some.inj H
    go_enter Try.func15, Try.ntmps15
    go_wp2_with (first | ((with_reducible refine gate_dst (N := 1) rfl ?_); refine box_event ?hg (N := 1) ?hd (cs := #[.int .i64 a0_0, .int .i64 a0_1, .int .i64 a0_2, .int .i64 a0_3, .int .i64 a0_4, .int .i64 a0_5]) (t := 25) ?hr ?_; (case hd => rfl); (case hg => rfl); (case hr => first | (go_simp; done) | (go_simp; rfl)); intro gb160 hg w1 hbox hb; have n0_ := Aside0.mk (below_step s5_0 hb); have n1_ := Aside0.mk (hbox); have n2_ := Aside0.mk (ns hg s5_0 : w.heap.size ≤ gb160); have n3_ := Aside0.mk (ns hg s5_0 : w.heap.size ≤ gb160); clear HB; have HB := n0_; have BK160 := n1_; have GW160 := n2_; have GE160 := n3_; clear n0_ n1_ n2_ n3_; clear hb hbox hg; have hcz31_0 : w1.cell? ⟨gb160, 0, none⟩ = some (.int .i64 a0_0) := bc BK160.out 0; have hcz31_1 : w1.cell? ⟨gb160, 1, none⟩ = some (.int .i64 a0_1) := bc BK160.out 1; have hcz31_2 : w1.cell? ⟨gb160, 2, none⟩ = some (.int .i64 a0_2) := bc BK160.out 2; have hcz31_3 : w1.cell? ⟨gb160, 3, none⟩ = some (.int .i64 a0_3) := bc BK160.out 3; have hcz31_4 : w1.cell? ⟨gb160, 4, none⟩ = some (.int .i64 a0_4) := bc BK160.out 4; have hcz31_5 : w1.cell? ⟨gb160, 5, none⟩ = some (.int .i64 a0_5) := bc BK160.out 5; have hfz31_0 := blk_frozen BK160.out 0; have hfz31_1 := blk_frozen BK160.out 1; have hfz31_2 := blk_frozen BK160.out 2; have hfz31_3 := blk_frozen BK160.out 3; have hfz31_4 := blk_frozen BK160.out 4; have hfz31_5 := blk_frozen BK160.out 5) | ((with_reducible refine gate_callee (f := 55) rfl ?_); refine goesL_ (some 5) rfl rfl Try.func55 (by kernel_rfl) rfl #[.int .i64 a0_0, .int .i64 (-100000), .int .i64 100000] rfl s5_1 ?_; (with_reducible refine (spec_l1In.calls a0_0 (-100000) 100000 true _ A2.out).mono ?_); rintro e w' ⟨rfl, ⟨nd, rfl⟩⟩; refine ⟨_, rfl, ?_⟩) | (go_at_call 55; (with_reducible refine (spec_l1In.calls a0_1 (-100000) 100000 true _ A4.out).mono ?_); rintro e w' ⟨rfl, ⟨nd, rfl⟩⟩) | (go_at_call 55; (with_reducible refine (spec_l1In.calls a0_2 (-1000) 1000 false _ A6.out).mono ?_); rintro e w' ⟨rfl, ⟨nd, rfl⟩⟩))
    go_ret
    exact ⟨by first | rfl | (simp [errW_none, errW_some] <;> rfl) | (simp [*, errW_none, errW_some] <;> rfl), by repeat (first | (with_reducible first | exact HB.out | apply below_alloc | apply pw_below_drewN | apply below_drew1 | refine below_set ?_ GE160.out) | exact HB.out)⟩
  ·replace c5 := Bool.eq_false_iff.mpr c5
   subst c5
   have H1 : (some false) = some r := by rw [if_neg (show ¬ (false = true) by decide)] at H; exact H
   clear H
   have H := H1
   clear H1
   obtain rfl := Option.some.inj H
   go_enter Try.func15, Try.ntmps15
   go_wp2_with (first | ((with_reducible refine gate_dst (N := 1) rfl ?_); refine box_event ?hg (N := 1) ?hd (cs := #[.int .i64 a0_0, .int .i64 a0_1, .int .i64 a0_2, .int .i64 a0_3, .int .i64 a0_4, .int .i64 a0_5]) (t := 25) ?hr ?_; (case hd => rfl); (case hg => rfl); (case hr => first | (go_simp; done) | (go_simp; rfl)); intro gb160 hg w1 hbox hb; have n0_ := Aside0.mk (below_step s5_0 hb); have n1_ := Aside0.mk (hbox); have n2_ := Aside0.mk (ns hg s5_0 : w.heap.size ≤ gb160); have n3_ := Aside0.mk (ns hg s5_0 : w.heap.size ≤ gb160); clear HB; have HB := n0_; have BK160 := n1_; have GW160 := n2_; have GE160 := n3_; clear n0_ n1_ n2_ n3_; clear hb hbox hg; have hcz33_0 : w1.cell? ⟨gb160, 0, none⟩ = some (.int .i64 a0_0) := bc BK160.out 0; have hcz33_1 : w1.cell? ⟨gb160, 1, none⟩ = some (.int .i64 a0_1) := bc BK160.out 1; have hcz33_2 : w1.cell? ⟨gb160, 2, none⟩ = some (.int .i64 a0_2) := bc BK160.out 2; have hcz33_3 : w1.cell? ⟨gb160, 3, none⟩ = some (.int .i64 a0_3) := bc BK160.out 3; have hcz33_4 : w1.cell? ⟨gb160, 4, none⟩ = some (.int .i64 a0_4) := bc BK160.out 4; have hcz33_5 : w1.cell? ⟨gb160, 5, none⟩ = some (.int .i64 a0_5) := bc BK160.out 5; have hfz33_0 := blk_frozen BK160.out 0; have hfz33_1 := blk_frozen BK160.out 1; have hfz33_2 := blk_frozen BK160.out 2; have hfz33_3 := blk_frozen BK160.out 3; have hfz33_4 := blk_frozen BK160.out 4; have hfz33_5 := blk_frozen BK160.out 5) | ((with_reducible refine gate_callee (f := 55) rfl ?_); refine goesL_ (some 5) rfl rfl Try.func55 (by kernel_rfl) rfl #[.int .i64 a0_0, .int .i64 (-100000), .int .i64 100000] rfl s5_1 ?_; (with_reducible refine (spec_l1In.calls a0_0 (-100000) 100000 true _ A2.out).mono ?_); rintro e w' ⟨rfl, ⟨nd, rfl⟩⟩; refine ⟨_, rfl, ?_⟩) | (go_at_call 55; (with_reducible refine (spec_l1In.calls a0_1 (-100000) 100000 false _ A4.out).mono ?_); rintro e w' ⟨rfl, ⟨nd, rfl⟩⟩))
   go_ret
   exact ⟨by first | rfl | (simp [errW_none, errW_some] <;> rfl) | (simp [*, errW_none, errW_some] <;> rfl), by repeat (first | (with_reducible first | exact HB.out | apply below_alloc | apply pw_below_drewN | apply below_drew1 | refine below_set ?_ GE160.out) | exact HB.out)⟩
 ·replace c3 := Bool.eq_false_iff.mpr c3
  subst c3
  have H1 : (some false) = some r := by rw [if_neg (show ¬ (false = true) by decide)] at H; exact H
  clear H
  have H := H1
  clear H1
  obtain rfl := Option.some.inj H
  go_enter Try.func15, Try.ntmps15
  go_wp2_with (first | ((with_reducible refine gate_dst (N := 1) rfl ?_); refine box_event ?hg (N := 1) ?hd (cs := #[.int .i64 a0_0, .int .i64 a0_1, .int .i64 a0_2, .int .i64 a0_3, .int .i64 a0_4, .int .i64 a0_5]) (t := 25) ?hr ?_; (case hd => rfl); (case hg => rfl); (case hr => first | (go_simp; done) | (go_simp; rfl)); intro gb160 hg w1 hbox hb; have n0_ := Aside0.mk (below_step s5_0 hb); have n1_ := Aside0.mk (hbox); have n2_ := Aside0.mk (ns hg s5_0 : w.heap.size ≤ gb160); have n3_ := Aside0.mk (ns hg s5_0 : w.heap.size ≤ gb160); clear HB; have HB := n0_; have BK160 := n1_; have GW160 := n2_; have GE160 := n3_; clear n0_ n1_ n2_ n3_; clear hb hbox hg; have hcz35_0 : w1.cell? ⟨gb160, 0, none⟩ = some (.int .i64 a0_0) := bc BK160.out 0; have hcz35_1 : w1.cell? ⟨gb160, 1, none⟩ = some (.int .i64 a0_1) := bc BK160.out 1; have hcz35_2 : w1.cell? ⟨gb160, 2, none⟩ = some (.int .i64 a0_2) := bc BK160.out 2; have hcz35_3 : w1.cell? ⟨gb160, 3, none⟩ = some (.int .i64 a0_3) := bc BK160.out 3; have hcz35_4 : w1.cell? ⟨gb160, 4, none⟩ = some (.int .i64 a0_4) := bc BK160.out 4; have hcz35_5 : w1.cell? ⟨gb160, 5, none⟩ = some (.int .i64 a0_5) := bc BK160.out 5; have hfz35_0 := blk_frozen BK160.out 0; have hfz35_1 := blk_frozen BK160.out 1; have hfz35_2 := blk_frozen BK160.out 2; have hfz35_3 := blk_frozen BK160.out 3; have hfz35_4 := blk_frozen BK160.out 4; have hfz35_5 := blk_frozen BK160.out 5) | ((with_reducible refine gate_callee (f := 55) rfl ?_); refine goesL_ (some 5) rfl rfl Try.func55 (by kernel_rfl) rfl #[.int .i64 a0_0, .int .i64 (-100000), .int .i64 100000] rfl s5_1 ?_; (with_reducible refine (spec_l1In.calls a0_0 (-100000) 100000 false _ A2.out).mono ?_); rintro e w' ⟨rfl, ⟨nd, rfl⟩⟩; refine ⟨_, rfl, ?_⟩))
  go_ret
  exact ⟨by first | rfl | (simp [errW_none, errW_some] <;> rfl) | (simp [*, errW_none, errW_some] <;> rfl), by repeat (first | (with_reducible first | exact HB.out | apply below_alloc | apply pw_below_drewN | apply below_drew1 | refine below_set ?_ GE160.out) | exact HB.out)⟩

/-! ### spec_l8Bearing: function 65 -/
def spec_l8Bearing.f (a0_0 : Int) (a0_1 : Int) (a0_2 : Int) (a0_3 : Int) (a0_4 : Int) (a0_5 : Int) (a1_0 : Int) (a1_1 : Int) (a1_2 : Int) (a1_3 : Int) (a1_4 : Int) (a1_5 : Int) : Option (Int × Int) := some (wrap64 (a1_0 - a0_0), wrap64 (a1_1 - a0_1))
set_option maxHeartbeats 8000000 in
set_option maxRecDepth 100000 in
theorem spec_l8Bearing.calls (a0_0 : Int) (a0_1 : Int) (a0_2 : Int) (a0_3 : Int) (a0_4 : Int) (a0_5 : Int) (a1_0 : Int) (a1_1 : Int) (a1_2 : Int) (a1_3 : Int) (a1_4 : Int) (a1_5 : Int) (r1 : Int) (r2 : Int) (w : World) (h : spec_l8Bearing.f a0_0 a0_1 a0_2 a0_3 a0_4 a0_5 a1_0 a1_1 a1_2 a1_3 a1_4 a1_5 = some (r1, r2)) :
  Calls Try.prog 65 #[.agg #[.int .i64 a0_0, .int .i64 a0_1, .int .i64 a0_2, .int .i64 a0_3, .int .i64 a0_4, .int .i64 a0_5], .agg #[.int .i64 a1_0, .int .i64 a1_1, .int .i64 a1_2, .int .i64 a1_3, .int .i64 a1_4, .int .i64 a1_5]] w fun e w' => e = .returned (.agg #[.int .i64 r1, .int .i64 r2]) ∧ Below w.heap.size w w' := by
 have hu25 := Try.underlying25
 have hu83 := Try.underlying83
 have HB := Aside0.mk (Below.refl w.heap.size w)
 have H : (some (wrap64 (a1_0 - a0_0), wrap64 (a1_1 - a0_1))) = some (r1, r2) := h
 clear h
 simp only [Option.some.injEq, Prod.mk.injEq] at H
 obtain ⟨rfl, rfl⟩ := H
 go_enter Try.func65, Try.ntmps65
 go_wp2_with (first | ((with_reducible refine gate_dst (N := 2) rfl ?_); refine box_event ?hg (N := 2) ?hd (cs := #[.int .i64 a0_0, .int .i64 a0_1, .int .i64 a0_2, .int .i64 a0_3, .int .i64 a0_4, .int .i64 a0_5]) (t := 25) ?hr ?_; (case hd => rfl); (case hg => rfl); (case hr => first | (go_simp; done) | (go_simp; rfl)); intro gb169 hg w1 hbox hb; have n0_ := Aside0.mk (below_step s5_0 hb); have n1_ := Aside0.mk (hbox); have n2_ := Aside0.mk (ns hg s5_0 : w.heap.size ≤ gb169); have n3_ := Aside0.mk (ns hg s5_0 : w.heap.size ≤ gb169); clear HB; have HB := n0_; have BK169 := n1_; have GW169 := n2_; have GE169 := n3_; clear n0_ n1_ n2_ n3_; clear hb hbox hg) | ((with_reducible refine gate_dst (N := 3) rfl ?_); refine box_event ?hg (N := 3) ?hd (cs := #[.int .i64 a1_0, .int .i64 a1_1, .int .i64 a1_2, .int .i64 a1_3, .int .i64 a1_4, .int .i64 a1_5]) (t := 25) ?hr ?_; (case hd => rfl); (case hg => rfl); (case hr => first | (go_simp; done) | (go_simp; rfl)); intro gb170 hg w2 hbox hb; have n0_ := Aside0.mk (bb (zk BK169.out) hb); have n1_ := Aside0.mk (below_step (by repeat (first | (with_reducible first | exact HB.out | apply below_alloc | apply pw_below_drewN | apply below_drew1 | refine below_set ?_ GE169.out) | exact HB.out)) hb); have n2_ := Aside0.mk (hbox); have n3_ := Aside0.mk (ns hg (by repeat (first | (with_reducible first | exact HB.out | apply below_alloc | apply pw_below_drewN | apply below_drew1 | refine below_set ?_ GE169.out) | exact HB.out)) : w.heap.size ≤ gb170); have n4_ := Aside0.mk (ns hg (by repeat (first | (with_reducible first | exact HB.out | apply below_alloc | apply pw_below_drewN | apply below_drew1 | refine below_set ?_ GE169.out) | exact HB.out)) : w.heap.size ≤ gb170); have n5_ := Aside0.mk ((nlt hg (zk BK169.out) : gb169 ≠ gb170)); have n6_ := Aside0.mk ((ngt hg (zk BK169.out) : gb170 ≠ gb169)); clear BK169; clear HB; have BK169 := n0_; have HB := n1_; have BK170 := n2_; have GW170 := n3_; have GE170 := n4_; have NB169_170 := n5_; have NB170_169 := n6_; clear n0_ n1_ n2_ n3_ n4_ n5_ n6_; clear hb hbox hg) | ((with_reducible refine gate_dst (N := 4) rfl ?_); refine box_event ?hg (N := 4) ?hd (cs := #[.int .i64 0, .int .i64 0]) (t := 83) ?hr ?_; (case hd => rfl); (case hg => rfl); (case hr => first | (go_simp; done) | (go_simp; rfl)); intro gb171 hg w3 hbox hb; have n0_ := Aside0.mk (bb (zk BK169.out) hb); have n1_ := Aside0.mk (bb (zk BK170.out) hb); have n2_ := Aside0.mk (below_step s5_2 hb); have n3_ := Aside0.mk (hbox); have n4_ := Aside0.mk (ns hg s5_2 : w.heap.size ≤ gb171); have n5_ := Aside0.mk (ns hg s5_2 : w.heap.size ≤ gb171); have n6_ := Aside0.mk ((nlt hg (zk BK169.out) : gb169 ≠ gb171)); have n7_ := Aside0.mk ((ngt hg (zk BK169.out) : gb171 ≠ gb169)); have n8_ := Aside0.mk ((nlt hg (zk BK170.out) : gb170 ≠ gb171)); have n9_ := Aside0.mk ((ngt hg (zk BK170.out) : gb171 ≠ gb170)); clear BK169; clear BK170; clear HB; have BK169 := n0_; have BK170 := n1_; have HB := n2_; have BK171 := n3_; have GW171 := n4_; have GE171 := n5_; have NB169_171 := n6_; have NB171_169 := n7_; have NB170_171 := n8_; have NB171_170 := n9_; clear n0_ n1_ n2_ n3_ n4_ n5_ n6_ n7_ n8_ n9_; clear hb hbox hg; have hnb6 := NB170_169.out; have hnc6 := NB169_170.out; have hnb7 := NB170_171.out; have hnc7 := NB171_170.out; have hcz8_0 : w3.cell? ⟨gb170, 0, none⟩ = some (.int .i64 a1_0) := bc BK170.out 0; have hcz8_1 : w3.cell? ⟨gb170, 1, none⟩ = some (.int .i64 a1_1) := bc BK170.out 1; have hcz8_2 : w3.cell? ⟨gb170, 2, none⟩ = some (.int .i64 a1_2) := bc BK170.out 2; have hcz8_3 : w3.cell? ⟨gb170, 3, none⟩ = some (.int .i64 a1_3) := bc BK170.out 3; have hcz8_4 : w3.cell? ⟨gb170, 4, none⟩ = some (.int .i64 a1_4) := bc BK170.out 4; have hcz8_5 : w3.cell? ⟨gb170, 5, none⟩ = some (.int .i64 a1_5) := bc BK170.out 5; have hfz8_0 := blk_frozen BK170.out 0; have hfz8_1 := blk_frozen BK170.out 1; have hfz8_2 := blk_frozen BK170.out 2; have hfz8_3 := blk_frozen BK170.out 3; have hfz8_4 := blk_frozen BK170.out 4; have hfz8_5 := blk_frozen BK170.out 5; have hnb9 := NB169_171.out; have hnc9 := NB171_169.out; have hcz10_0 : w3.cell? ⟨gb169, 0, none⟩ = some (.int .i64 a0_0) := bc BK169.out 0; have hcz10_1 : w3.cell? ⟨gb169, 1, none⟩ = some (.int .i64 a0_1) := bc BK169.out 1; have hcz10_2 : w3.cell? ⟨gb169, 2, none⟩ = some (.int .i64 a0_2) := bc BK169.out 2; have hcz10_3 : w3.cell? ⟨gb169, 3, none⟩ = some (.int .i64 a0_3) := bc BK169.out 3; have hcz10_4 : w3.cell? ⟨gb169, 4, none⟩ = some (.int .i64 a0_4) := bc BK169.out 4; have hcz10_5 : w3.cell? ⟨gb169, 5, none⟩ = some (.int .i64 a0_5) := bc BK169.out 5; have hfz10_0 := blk_frozen BK169.out 0; have hfz10_1 := blk_frozen BK169.out 1; have hfz10_2 := blk_frozen BK169.out 2; have hfz10_3 := blk_frozen BK169.out 3; have hfz10_4 := blk_frozen BK169.out 4; have hfz10_5 := blk_frozen BK169.out 5; have hcz11_0 : w3.cell? ⟨gb171, 0, none⟩ = some (.int .i64 0) := bc BK171.out 0; have hcz11_1 : w3.cell? ⟨gb171, 1, none⟩ = some (.int .i64 0) := bc BK171.out 1; have hfz11_0 := blk_frozen BK171.out 0; have hfz11_1 := blk_frozen BK171.out 1))
 refine bodyPost_ret (results_cell_row rfl _ _ gb171 83 #[.int .i64 (wrap64 (a1_0 - a0_0)), .int .i64 (wrap64 (a1_1 - a0_1))] (0, 0) _ rfl (by (with_reducible repeat (first | refine blk_drewN ?_ _ | refine blk_drew ?_ | refine blk_alloc ?_ _)); refine blk_put (cs := #[.int .i64 (wrap64 (a1_0 - a0_0)), .int .i64 0]) ?_ 1 _ rfl; (with_reducible repeat (first | refine blk_drewN ?_ _ | refine blk_drew ?_ | refine blk_alloc ?_ _)); refine blk_put (cs := #[.int .i64 0, .int .i64 0]) ?_ 0 _ rfl; (with_reducible repeat (first | refine blk_drewN ?_ _ | refine blk_drew ?_ | refine blk_alloc ?_ _)); exact BK171.out) Try.underlying83 rfl (by kernel_rfl)) rfl ?_
 exact ⟨by first | rfl | (simp [errW_none, errW_some] <;> rfl) | (simp [*, errW_none, errW_some] <;> rfl), by repeat (first | (with_reducible first | exact HB.out | apply below_alloc | apply pw_below_drewN | apply below_drew1 | refine below_set ?_ GE169.out | refine below_set ?_ GE170.out | refine below_set ?_ GE171.out) | exact HB.out)⟩

/-! ### spec_l8Way: function 66 -/
def spec_l8Way.f (a0_0 : Int) (a0_1 : Int) (a0_2 : Int) (a0_3 : Int) (a0_4 : Int) (a0_5 : Int) : Option (Int × Int) := some (a0_2, a0_3)
set_option maxHeartbeats 8000000 in
set_option maxRecDepth 100000 in
theorem spec_l8Way.calls (a0_0 : Int) (a0_1 : Int) (a0_2 : Int) (a0_3 : Int) (a0_4 : Int) (a0_5 : Int) (r1 : Int) (r2 : Int) (w : World) (h : spec_l8Way.f a0_0 a0_1 a0_2 a0_3 a0_4 a0_5 = some (r1, r2)) :
  Calls Try.prog 66 #[.agg #[.int .i64 a0_0, .int .i64 a0_1, .int .i64 a0_2, .int .i64 a0_3, .int .i64 a0_4, .int .i64 a0_5]] w fun e w' => e = .returned (.agg #[.int .i64 r1, .int .i64 r2]) ∧ Below w.heap.size w w' := by
 have hu25 := Try.underlying25
 have hu83 := Try.underlying83
 have HB := Aside0.mk (Below.refl w.heap.size w)
 have H : (some (a0_2, a0_3)) = some (r1, r2) := h
 clear h
 simp only [Option.some.injEq, Prod.mk.injEq] at H
 obtain ⟨rfl, rfl⟩ := H
 go_enter Try.func66, Try.ntmps66
 go_wp2_with (first | ((with_reducible refine gate_dst (N := 1) rfl ?_); refine box_event ?hg (N := 1) ?hd (cs := #[.int .i64 a0_0, .int .i64 a0_1, .int .i64 a0_2, .int .i64 a0_3, .int .i64 a0_4, .int .i64 a0_5]) (t := 25) ?hr ?_; (case hd => rfl); (case hg => rfl); (case hr => first | (go_simp; done) | (go_simp; rfl)); intro gb172 hg w1 hbox hb; have n0_ := Aside0.mk (below_step s5_0 hb); have n1_ := Aside0.mk (hbox); have n2_ := Aside0.mk (ns hg s5_0 : w.heap.size ≤ gb172); have n3_ := Aside0.mk (ns hg s5_0 : w.heap.size ≤ gb172); clear HB; have HB := n0_; have BK172 := n1_; have GW172 := n2_; have GE172 := n3_; clear n0_ n1_ n2_ n3_; clear hb hbox hg) | ((with_reducible refine gate_dst (N := 2) rfl ?_); refine box_event ?hg (N := 2) ?hd (cs := #[.int .i64 0, .int .i64 0]) (t := 83) ?hr ?_; (case hd => rfl); (case hg => rfl); (case hr => first | (go_simp; done) | (go_simp; rfl)); intro gb173 hg w2 hbox hb; have n0_ := Aside0.mk (bb (zk BK172.out) hb); have n1_ := Aside0.mk (below_step (by repeat (first | (with_reducible first | exact HB.out | apply below_alloc | apply pw_below_drewN | apply below_drew1 | refine below_set ?_ GE172.out) | exact HB.out)) hb); have n2_ := Aside0.mk (hbox); have n3_ := Aside0.mk (ns hg (by repeat (first | (with_reducible first | exact HB.out | apply below_alloc | apply pw_below_drewN | apply below_drew1 | refine below_set ?_ GE172.out) | exact HB.out)) : w.heap.size ≤ gb173); have n4_ := Aside0.mk (ns hg (by repeat (first | (with_reducible first | exact HB.out | apply below_alloc | apply pw_below_drewN | apply below_drew1 | refine below_set ?_ GE172.out) | exact HB.out)) : w.heap.size ≤ gb173); have n5_ := Aside0.mk ((nlt hg (zk BK172.out) : gb172 ≠ gb173)); have n6_ := Aside0.mk ((ngt hg (zk BK172.out) : gb173 ≠ gb172)); clear BK172; clear HB; have BK172 := n0_; have HB := n1_; have BK173 := n2_; have GW173 := n3_; have GE173 := n4_; have NB172_173 := n5_; have NB173_172 := n6_; clear n0_ n1_ n2_ n3_ n4_ n5_ n6_; clear hb hbox hg; have hnb4 := NB172_173.out; have hnc4 := NB173_172.out; have hcz5_0 : w2.cell? ⟨gb172, 0, none⟩ = some (.int .i64 a0_0) := bc BK172.out 0; have hcz5_1 : w2.cell? ⟨gb172, 1, none⟩ = some (.int .i64 a0_1) := bc BK172.out 1; have hcz5_2 : w2.cell? ⟨gb172, 2, none⟩ = some (.int .i64 a0_2) := bc BK172.out 2; have hcz5_3 : w2.cell? ⟨gb172, 3, none⟩ = some (.int .i64 a0_3) := bc BK172.out 3; have hcz5_4 : w2.cell? ⟨gb172, 4, none⟩ = some (.int .i64 a0_4) := bc BK172.out 4; have hcz5_5 : w2.cell? ⟨gb172, 5, none⟩ = some (.int .i64 a0_5) := bc BK172.out 5; have hfz5_0 := blk_frozen BK172.out 0; have hfz5_1 := blk_frozen BK172.out 1; have hfz5_2 := blk_frozen BK172.out 2; have hfz5_3 := blk_frozen BK172.out 3; have hfz5_4 := blk_frozen BK172.out 4; have hfz5_5 := blk_frozen BK172.out 5; have hcz6_0 : w2.cell? ⟨gb173, 0, none⟩ = some (.int .i64 0) := bc BK173.out 0; have hcz6_1 : w2.cell? ⟨gb173, 1, none⟩ = some (.int .i64 0) := bc BK173.out 1; have hfz6_0 := blk_frozen BK173.out 0; have hfz6_1 := blk_frozen BK173.out 1))
 refine bodyPost_ret (results_cell_row rfl _ _ gb173 83 #[.int .i64 a0_2, .int .i64 a0_3] (0, 0) _ rfl (by (with_reducible repeat (first | refine blk_drewN ?_ _ | refine blk_drew ?_ | refine blk_alloc ?_ _)); refine blk_put (cs := #[.int .i64 a0_2, .int .i64 0]) ?_ 1 _ rfl; (with_reducible repeat (first | refine blk_drewN ?_ _ | refine blk_drew ?_ | refine blk_alloc ?_ _)); refine blk_put (cs := #[.int .i64 0, .int .i64 0]) ?_ 0 _ rfl; (with_reducible repeat (first | refine blk_drewN ?_ _ | refine blk_drew ?_ | refine blk_alloc ?_ _)); exact BK173.out) Try.underlying83 rfl (by kernel_rfl)) rfl ?_
 exact ⟨by first | rfl | (simp [errW_none, errW_some] <;> rfl) | (simp [*, errW_none, errW_some] <;> rfl), by repeat (first | (with_reducible first | exact HB.out | apply below_alloc | apply pw_below_drewN | apply below_drew1 | refine below_set ?_ GE172.out | refine below_set ?_ GE173.out) | exact HB.out)⟩

/-! ### spec_l8Cross: function 67 -/
def spec_l8Cross.f (a0_0 : Int) (a0_1 : Int) (a1_0 : Int) (a1_1 : Int) : Option (Int) := some (wrap64 ((wrap64 (a0_0 * a1_1)) - (wrap64 (a0_1 * a1_0))))
set_option maxHeartbeats 8000000 in
set_option maxRecDepth 100000 in
theorem spec_l8Cross.calls (a0_0 : Int) (a0_1 : Int) (a1_0 : Int) (a1_1 : Int) (r : Int) (w : World) (h : spec_l8Cross.f a0_0 a0_1 a1_0 a1_1 = some r) :
  Calls Try.prog 67 #[.agg #[.int .i64 a0_0, .int .i64 a0_1], .agg #[.int .i64 a1_0, .int .i64 a1_1]] w fun e w' => e = .returned (.int .i64 r) ∧ Below w.heap.size w w' := by
 have hu83 := Try.underlying83
 have HB := Aside0.mk (Below.refl w.heap.size w)
 have H : (some (wrap64 ((wrap64 (a0_0 * a1_1)) - (wrap64 (a0_1 * a1_0))))) = some r := h
 clear h
 obtain rfl := Option.some.inj H
 go_enter Try.func67, Try.ntmps67
 go_wp2_with (first | ((with_reducible refine gate_dst (N := 2) rfl ?_); refine box_event ?hg (N := 2) ?hd (cs := #[.int .i64 a0_0, .int .i64 a0_1]) (t := 83) ?hr ?_; (case hd => rfl); (case hg => rfl); (case hr => first | (go_simp; done) | (go_simp; rfl)); intro gb174 hg w1 hbox hb; have n0_ := Aside0.mk (below_step s5_0 hb); have n1_ := Aside0.mk (hbox); have n2_ := Aside0.mk (ns hg s5_0 : w.heap.size ≤ gb174); have n3_ := Aside0.mk (ns hg s5_0 : w.heap.size ≤ gb174); clear HB; have HB := n0_; have BK174 := n1_; have GW174 := n2_; have GE174 := n3_; clear n0_ n1_ n2_ n3_; clear hb hbox hg) | ((with_reducible refine gate_dst (N := 3) rfl ?_); refine box_event ?hg (N := 3) ?hd (cs := #[.int .i64 a1_0, .int .i64 a1_1]) (t := 83) ?hr ?_; (case hd => rfl); (case hg => rfl); (case hr => first | (go_simp; done) | (go_simp; rfl)); intro gb175 hg w2 hbox hb; have n0_ := Aside0.mk (bb (zk BK174.out) hb); have n1_ := Aside0.mk (below_step (by repeat (first | (with_reducible first | exact HB.out | apply below_alloc | apply pw_below_drewN | apply below_drew1 | refine below_set ?_ GE174.out) | exact HB.out)) hb); have n2_ := Aside0.mk (hbox); have n3_ := Aside0.mk (ns hg (by repeat (first | (with_reducible first | exact HB.out | apply below_alloc | apply pw_below_drewN | apply below_drew1 | refine below_set ?_ GE174.out) | exact HB.out)) : w.heap.size ≤ gb175); have n4_ := Aside0.mk (ns hg (by repeat (first | (with_reducible first | exact HB.out | apply below_alloc | apply pw_below_drewN | apply below_drew1 | refine below_set ?_ GE174.out) | exact HB.out)) : w.heap.size ≤ gb175); have n5_ := Aside0.mk ((nlt hg (zk BK174.out) : gb174 ≠ gb175)); have n6_ := Aside0.mk ((ngt hg (zk BK174.out) : gb175 ≠ gb174)); clear BK174; clear HB; have BK174 := n0_; have HB := n1_; have BK175 := n2_; have GW175 := n3_; have GE175 := n4_; have NB174_175 := n5_; have NB175_174 := n6_; clear n0_ n1_ n2_ n3_ n4_ n5_ n6_; clear hb hbox hg; have hnb5 := NB174_175.out; have hnc5 := NB175_174.out; have hcz6_0 : w2.cell? ⟨gb174, 0, none⟩ = some (.int .i64 a0_0) := bc BK174.out 0; have hcz6_1 : w2.cell? ⟨gb174, 1, none⟩ = some (.int .i64 a0_1) := bc BK174.out 1; have hfz6_0 := blk_frozen BK174.out 0; have hfz6_1 := blk_frozen BK174.out 1; have hcz7_0 : w2.cell? ⟨gb175, 0, none⟩ = some (.int .i64 a1_0) := bc BK175.out 0; have hcz7_1 : w2.cell? ⟨gb175, 1, none⟩ = some (.int .i64 a1_1) := bc BK175.out 1; have hfz7_0 := blk_frozen BK175.out 0; have hfz7_1 := blk_frozen BK175.out 1))
 go_ret
 exact ⟨by first | rfl | (simp [errW_none, errW_some] <;> rfl) | (simp [*, errW_none, errW_some] <;> rfl), by repeat (first | (with_reducible first | exact HB.out | apply below_alloc | apply pw_below_drewN | apply below_drew1 | refine below_set ?_ GE174.out | refine below_set ?_ GE175.out) | exact HB.out)⟩

/-! ### spec_l8Dot: function 68 -/
def spec_l8Dot.f (a0_0 : Int) (a0_1 : Int) (a1_0 : Int) (a1_1 : Int) : Option (Int) := some (wrap64 ((wrap64 (a0_0 * a1_0)) + (wrap64 (a0_1 * a1_1))))
set_option maxHeartbeats 8000000 in
set_option maxRecDepth 100000 in
theorem spec_l8Dot.calls (a0_0 : Int) (a0_1 : Int) (a1_0 : Int) (a1_1 : Int) (r : Int) (w : World) (h : spec_l8Dot.f a0_0 a0_1 a1_0 a1_1 = some r) :
  Calls Try.prog 68 #[.agg #[.int .i64 a0_0, .int .i64 a0_1], .agg #[.int .i64 a1_0, .int .i64 a1_1]] w fun e w' => e = .returned (.int .i64 r) ∧ Below w.heap.size w w' := by
 have hu83 := Try.underlying83
 have HB := Aside0.mk (Below.refl w.heap.size w)
 have H : (some (wrap64 ((wrap64 (a0_0 * a1_0)) + (wrap64 (a0_1 * a1_1))))) = some r := h
 clear h
 obtain rfl := Option.some.inj H
 go_enter Try.func68, Try.ntmps68
 go_wp2_with (first | ((with_reducible refine gate_dst (N := 2) rfl ?_); refine box_event ?hg (N := 2) ?hd (cs := #[.int .i64 a0_0, .int .i64 a0_1]) (t := 83) ?hr ?_; (case hd => rfl); (case hg => rfl); (case hr => first | (go_simp; done) | (go_simp; rfl)); intro gb176 hg w1 hbox hb; have n0_ := Aside0.mk (below_step s5_0 hb); have n1_ := Aside0.mk (hbox); have n2_ := Aside0.mk (ns hg s5_0 : w.heap.size ≤ gb176); have n3_ := Aside0.mk (ns hg s5_0 : w.heap.size ≤ gb176); clear HB; have HB := n0_; have BK176 := n1_; have GW176 := n2_; have GE176 := n3_; clear n0_ n1_ n2_ n3_; clear hb hbox hg) | ((with_reducible refine gate_dst (N := 3) rfl ?_); refine box_event ?hg (N := 3) ?hd (cs := #[.int .i64 a1_0, .int .i64 a1_1]) (t := 83) ?hr ?_; (case hd => rfl); (case hg => rfl); (case hr => first | (go_simp; done) | (go_simp; rfl)); intro gb177 hg w2 hbox hb; have n0_ := Aside0.mk (bb (zk BK176.out) hb); have n1_ := Aside0.mk (below_step (by repeat (first | (with_reducible first | exact HB.out | apply below_alloc | apply pw_below_drewN | apply below_drew1 | refine below_set ?_ GE176.out) | exact HB.out)) hb); have n2_ := Aside0.mk (hbox); have n3_ := Aside0.mk (ns hg (by repeat (first | (with_reducible first | exact HB.out | apply below_alloc | apply pw_below_drewN | apply below_drew1 | refine below_set ?_ GE176.out) | exact HB.out)) : w.heap.size ≤ gb177); have n4_ := Aside0.mk (ns hg (by repeat (first | (with_reducible first | exact HB.out | apply below_alloc | apply pw_below_drewN | apply below_drew1 | refine below_set ?_ GE176.out) | exact HB.out)) : w.heap.size ≤ gb177); have n5_ := Aside0.mk ((nlt hg (zk BK176.out) : gb176 ≠ gb177)); have n6_ := Aside0.mk ((ngt hg (zk BK176.out) : gb177 ≠ gb176)); clear BK176; clear HB; have BK176 := n0_; have HB := n1_; have BK177 := n2_; have GW177 := n3_; have GE177 := n4_; have NB176_177 := n5_; have NB177_176 := n6_; clear n0_ n1_ n2_ n3_ n4_ n5_ n6_; clear hb hbox hg; have hnb5 := NB176_177.out; have hnc5 := NB177_176.out; have hcz6_0 : w2.cell? ⟨gb176, 0, none⟩ = some (.int .i64 a0_0) := bc BK176.out 0; have hcz6_1 : w2.cell? ⟨gb176, 1, none⟩ = some (.int .i64 a0_1) := bc BK176.out 1; have hfz6_0 := blk_frozen BK176.out 0; have hfz6_1 := blk_frozen BK176.out 1; have hcz7_0 : w2.cell? ⟨gb177, 0, none⟩ = some (.int .i64 a1_0) := bc BK177.out 0; have hcz7_1 : w2.cell? ⟨gb177, 1, none⟩ = some (.int .i64 a1_1) := bc BK177.out 1; have hfz7_0 := blk_frozen BK177.out 0; have hfz7_1 := blk_frozen BK177.out 1))
 go_ret
 exact ⟨by first | rfl | (simp [errW_none, errW_some] <;> rfl) | (simp [*, errW_none, errW_some] <;> rfl), by repeat (first | (with_reducible first | exact HB.out | apply below_alloc | apply pw_below_drewN | apply below_drew1 | refine below_set ?_ GE176.out | refine below_set ?_ GE177.out) | exact HB.out)⟩

/-! ### spec_l8Least: function 69 -/
def spec_l8Least.f (a0 : Int) (a1 : Int) (a2 : Int) (a3 : Int) : Option (Bool) := if (wrap64 ((wrap64 (a1 * (wrap64 (Int.tdiv (wrap64 (a0 * a0)) 1048576)))) + (wrap64 (Int.tdiv (wrap64 (a1 * (Int.tmod (wrap64 (a0 * a0)) 1048576))) 1048576)))) = (wrap64 ((wrap64 (a3 * (wrap64 (Int.tdiv (wrap64 (a2 * a2)) 1048576)))) + (wrap64 (Int.tdiv (wrap64 (a3 * (Int.tmod (wrap64 (a2 * a2)) 1048576))) 1048576)))) then (some (decide ((Int.tmod (wrap64 (a1 * (Int.tmod (wrap64 (a0 * a0)) 1048576))) 1048576) ≤ (Int.tmod (wrap64 (a3 * (Int.tmod (wrap64 (a2 * a2)) 1048576))) 1048576)))) else (some (decide ((wrap64 ((wrap64 (a1 * (wrap64 (Int.tdiv (wrap64 (a0 * a0)) 1048576)))) + (wrap64 (Int.tdiv (wrap64 (a1 * (Int.tmod (wrap64 (a0 * a0)) 1048576))) 1048576)))) < (wrap64 ((wrap64 (a3 * (wrap64 (Int.tdiv (wrap64 (a2 * a2)) 1048576)))) + (wrap64 (Int.tdiv (wrap64 (a3 * (Int.tmod (wrap64 (a2 * a2)) 1048576))) 1048576)))))))
set_option maxHeartbeats 8000000 in
set_option maxRecDepth 100000 in
theorem spec_l8Least.calls (a0 : Int) (a1 : Int) (a2 : Int) (a3 : Int) (r : Bool) (w : World) (h : spec_l8Least.f a0 a1 a2 a3 = some r) :
  Calls Try.prog 69 #[.int .i64 a0, .int .i64 a1, .int .i64 a2, .int .i64 a3] w fun e w' => e = .returned (.bool r) ∧ Drawn0 w w' := by
 have H : (if (wrap64 ((wrap64 (a1 * (wrap64 (Int.tdiv (wrap64 (a0 * a0)) 1048576)))) + (wrap64 (Int.tdiv (wrap64 (a1 * (Int.tmod (wrap64 (a0 * a0)) 1048576))) 1048576)))) = (wrap64 ((wrap64 (a3 * (wrap64 (Int.tdiv (wrap64 (a2 * a2)) 1048576)))) + (wrap64 (Int.tdiv (wrap64 (a3 * (Int.tmod (wrap64 (a2 * a2)) 1048576))) 1048576)))) then (some (decide ((Int.tmod (wrap64 (a1 * (Int.tmod (wrap64 (a0 * a0)) 1048576))) 1048576) ≤ (Int.tmod (wrap64 (a3 * (Int.tmod (wrap64 (a2 * a2)) 1048576))) 1048576)))) else (some (decide ((wrap64 ((wrap64 (a1 * (wrap64 (Int.tdiv (wrap64 (a0 * a0)) 1048576)))) + (wrap64 (Int.tdiv (wrap64 (a1 * (Int.tmod (wrap64 (a0 * a0)) 1048576))) 1048576)))) < (wrap64 ((wrap64 (a3 * (wrap64 (Int.tdiv (wrap64 (a2 * a2)) 1048576)))) + (wrap64 (Int.tdiv (wrap64 (a3 * (Int.tmod (wrap64 (a2 * a2)) 1048576))) 1048576)))))))) = some r := h
 clear h
 by_cases c5 : (wrap64 ((wrap64 (a1 * (wrap64 (Int.tdiv (wrap64 (a0 * a0)) 1048576)))) + (wrap64 (Int.tdiv (wrap64 (a1 * (Int.tmod (wrap64 (a0 * a0)) 1048576))) 1048576)))) = (wrap64 ((wrap64 (a3 * (wrap64 (Int.tdiv (wrap64 (a2 * a2)) 1048576)))) + (wrap64 (Int.tdiv (wrap64 (a3 * (Int.tmod (wrap64 (a2 * a2)) 1048576))) 1048576))))
 ·rw [if_pos c5] at H
  have c5b0 : ((wrap64 ((wrap64 (a1 * (wrap64 (Int.tdiv (wrap64 (a0 * a0)) 1048576)))) + (wrap64 (Int.tdiv (wrap64 (a1 * (Int.tmod (wrap64 (a0 * a0)) 1048576))) 1048576)))) == (wrap64 ((wrap64 (a3 * (wrap64 (Int.tdiv (wrap64 (a2 * a2)) 1048576)))) + (wrap64 (Int.tdiv (wrap64 (a3 * (Int.tmod (wrap64 (a2 * a2)) 1048576))) 1048576))))) = true := beq_iff_eq.mpr c5
  have c5b1 : ((wrap64 ((wrap64 (a1 * (wrap64 (Int.tdiv (wrap64 (a0 * a0)) 1048576)))) + (wrap64 (Int.tdiv (wrap64 (a1 * (Int.tmod (wrap64 (a0 * a0)) 1048576))) 1048576)))) != (wrap64 ((wrap64 (a3 * (wrap64 (Int.tdiv (wrap64 (a2 * a2)) 1048576)))) + (wrap64 (Int.tdiv (wrap64 (a3 * (Int.tmod (wrap64 (a2 * a2)) 1048576))) 1048576))))) = false := bne_eq_false_iff_eq.mpr c5
  clear c5
  obtain rfl := Option.some.inj H
  go_enter Try.func69, Try.ntmps69
  go_wp2
  go_ret
  exact ⟨by first | rfl | (simp; done) | (simp [*]; done), by repeat (first | exact Drawn0.refl _ | apply Drawn0.step)⟩
 ·rw [if_neg c5] at H
  have c5b0 : ((wrap64 ((wrap64 (a1 * (wrap64 (Int.tdiv (wrap64 (a0 * a0)) 1048576)))) + (wrap64 (Int.tdiv (wrap64 (a1 * (Int.tmod (wrap64 (a0 * a0)) 1048576))) 1048576)))) == (wrap64 ((wrap64 (a3 * (wrap64 (Int.tdiv (wrap64 (a2 * a2)) 1048576)))) + (wrap64 (Int.tdiv (wrap64 (a3 * (Int.tmod (wrap64 (a2 * a2)) 1048576))) 1048576))))) = false := beq_eq_false_iff_ne.mpr c5
  have c5b1 : ((wrap64 ((wrap64 (a1 * (wrap64 (Int.tdiv (wrap64 (a0 * a0)) 1048576)))) + (wrap64 (Int.tdiv (wrap64 (a1 * (Int.tmod (wrap64 (a0 * a0)) 1048576))) 1048576)))) != (wrap64 ((wrap64 (a3 * (wrap64 (Int.tdiv (wrap64 (a2 * a2)) 1048576)))) + (wrap64 (Int.tdiv (wrap64 (a3 * (Int.tmod (wrap64 (a2 * a2)) 1048576))) 1048576))))) = true := bne_iff_ne.mpr c5
  obtain rfl := Option.some.inj H
  go_enter Try.func69, Try.ntmps69
  go_wp2
  go_ret
  exact ⟨by first | rfl | (simp; done) | (simp [*]; done), by repeat (first | exact Drawn0.refl _ | apply Drawn0.step)⟩

/-! ### spec_Behind: function 28 -/
def spec_Behind.f (k : Nat) (a0_0 : Int) (a0_1 : Int) (a0_2 : Int) (a0_3 : Int) (a0_4 : Int) (a0_5 : Int) (a1_0 : Int) (a1_1 : Int) (a1_2 : Int) (a1_3 : Int) (a1_4 : Int) (a1_5 : Int) : Option (Bool) := (spec_ShipOk.f a0_0 a0_1 a0_2 a0_3 a0_4 a0_5).bind fun s1 => (spec_ShipOk.f a1_0 a1_1 a1_2 a1_3 a1_4 a1_5).bind fun s2 => (spec_l8Bearing.f a1_0 a1_1 a1_2 a1_3 a1_4 a1_5 a0_0 a0_1 a0_2 a0_3 a0_4 a0_5).bind fun b => (spec_l8Cross.f b.1 b.2 a1_2 a1_3).bind fun c => (spec_l8Dot.f b.1 b.2 a1_2 a1_3).bind fun d => (spec_l8Least.f c 5 d 29).bind fun le => some (s1 && s2 && (decide (d < 0) && le))
theorem spec_Behind.mono : ∀ a0_0 a0_1 a0_2 a0_3 a0_4 a0_5 a1_0 a1_1 a1_2 a1_3 a1_4 a1_5 k, LeO (spec_Behind.f k a0_0 a0_1 a0_2 a0_3 a0_4 a0_5 a1_0 a1_1 a1_2 a1_3 a1_4 a1_5) (spec_Behind.f (k + 1) a0_0 a0_1 a0_2 a0_3 a0_4 a0_5 a1_0 a1_1 a1_2 a1_3 a1_4 a1_5) := fun _ _ _ _ _ _ _ _ _ _ _ _ _ => LeO.refl _
theorem spec_Behind.calls (k : Nat) (a0_0 : Int) (a0_1 : Int) (a0_2 : Int) (a0_3 : Int) (a0_4 : Int) (a0_5 : Int) (a1_0 : Int) (a1_1 : Int) (a1_2 : Int) (a1_3 : Int) (a1_4 : Int) (a1_5 : Int) (r : Bool) (w : World) (h : spec_Behind.f k a0_0 a0_1 a0_2 a0_3 a0_4 a0_5 a1_0 a1_1 a1_2 a1_3 a1_4 a1_5 = some r) :
  Calls Try.prog 28 #[.agg #[.int .i64 a0_0, .int .i64 a0_1, .int .i64 a0_2, .int .i64 a0_3, .int .i64 a0_4, .int .i64 a0_5], .agg #[.int .i64 a1_0, .int .i64 a1_1, .int .i64 a1_2, .int .i64 a1_3, .int .i64 a1_4, .int .i64 a1_5]] w fun e w' => e = .returned (.bool r) ∧ Below w.heap.size w w' := by
 unfold spec_Behind.f at h
 obtain ⟨s1, e0, h⟩ := Option.bind_eq_some_iff.mp h
 obtain ⟨s2, e1, h⟩ := Option.bind_eq_some_iff.mp h
 obtain ⟨b, e2, h⟩ := Option.bind_eq_some_iff.mp h
 obtain ⟨c, e3, h⟩ := Option.bind_eq_some_iff.mp h
 obtain ⟨d, e4, h⟩ := Option.bind_eq_some_iff.mp h
 obtain ⟨le, e5, h⟩ := Option.bind_eq_some_iff.mp h
 obtain rfl := Option.some.inj h
 exact Ah.behind_any a0_0 a0_1 a0_2 a0_3 a0_4 a0_5 a1_0 a1_1 a1_2 a1_3 a1_4 a1_5 b.1 b.2 d c s1 s2 le w (fun W => spec_ShipOk.calls a0_0 a0_1 a0_2 a0_3 a0_4 a0_5 s1 W e0) (fun W => spec_ShipOk.calls a1_0 a1_1 a1_2 a1_3 a1_4 a1_5 s2 W e1) (fun W => spec_l8Bearing.calls a1_0 a1_1 a1_2 a1_3 a1_4 a1_5 a0_0 a0_1 a0_2 a0_3 a0_4 a0_5 b.1 b.2 W e2) (fun W => spec_l8Way.calls a1_0 a1_1 a1_2 a1_3 a1_4 a1_5 a1_2 a1_3 W rfl) (fun W => spec_l8Cross.calls b.1 b.2 a1_2 a1_3 c W e3) (fun W => spec_l8Dot.calls b.1 b.2 a1_2 a1_3 d W e4) (fun W => (spec_l8Least.calls c 5 d 29 le W e5).mono fun _ _ q => ⟨q.1, q.2.below⟩)

/-! ### spec_l8Ahead: function 75 -/
def spec_l8Ahead.f (a0_0 : Int) (a0_1 : Int) (a0_2 : Int) (a0_3 : Int) (a0_4 : Int) (a0_5 : Int) (a1_0 : Int) (a1_1 : Int) (a1_2 : Int) (a1_3 : Int) (a1_4 : Int) (a1_5 : Int) : Option (Bool) := (spec_l8Bearing.f a0_0 a0_1 a0_2 a0_3 a0_4 a0_5 a1_0 a1_1 a1_2 a1_3 a1_4 a1_5).bind fun b => (spec_l8Dot.f b.1 b.2 a0_2 a0_3).bind fun d => (spec_l8Cross.f b.1 b.2 a0_2 a0_3).bind fun c => (spec_l8Least.f c 100 d 1).bind fun le => some (decide (d > 0) && le)
theorem spec_l8Ahead.calls (a0_0 : Int) (a0_1 : Int) (a0_2 : Int) (a0_3 : Int) (a0_4 : Int) (a0_5 : Int) (a1_0 : Int) (a1_1 : Int) (a1_2 : Int) (a1_3 : Int) (a1_4 : Int) (a1_5 : Int) (r : Bool) (w : World) (h : spec_l8Ahead.f a0_0 a0_1 a0_2 a0_3 a0_4 a0_5 a1_0 a1_1 a1_2 a1_3 a1_4 a1_5 = some r) :
  Calls Try.prog 75 #[.agg #[.int .i64 a0_0, .int .i64 a0_1, .int .i64 a0_2, .int .i64 a0_3, .int .i64 a0_4, .int .i64 a0_5], .agg #[.int .i64 a1_0, .int .i64 a1_1, .int .i64 a1_2, .int .i64 a1_3, .int .i64 a1_4, .int .i64 a1_5]] w fun e w' => e = .returned (.bool r) ∧ Below w.heap.size w w' := by
 unfold spec_l8Ahead.f at h
 obtain ⟨b, e0, h⟩ := Option.bind_eq_some_iff.mp h
 obtain ⟨d, e1, h⟩ := Option.bind_eq_some_iff.mp h
 obtain ⟨c, e2, h⟩ := Option.bind_eq_some_iff.mp h
 obtain ⟨le, e3, h⟩ := Option.bind_eq_some_iff.mp h
 obtain rfl := Option.some.inj h
 exact Ah.ahead_any a0_0 a0_1 a0_2 a0_3 a0_4 a0_5 a1_0 a1_1 a1_2 a1_3 a1_4 a1_5 b.1 b.2 d c le w (fun W => spec_l8Bearing.calls a0_0 a0_1 a0_2 a0_3 a0_4 a0_5 a1_0 a1_1 a1_2 a1_3 a1_4 a1_5 b.1 b.2 W e0) (fun W => spec_l8Way.calls a0_0 a0_1 a0_2 a0_3 a0_4 a0_5 a0_2 a0_3 W rfl) (fun W => spec_l8Dot.calls b.1 b.2 a0_2 a0_3 d W e1) (fun W => spec_l8Cross.calls b.1 b.2 a0_2 a0_3 c W e2) (fun W => (spec_l8Least.calls c 100 d 1 le W e3).mono fun _ _ q => ⟨q.1, q.2.below⟩)

/-! ### spec_HeadOn: function 30 -/
def spec_HeadOn.f (k : Nat) (a0_0 : Int) (a0_1 : Int) (a0_2 : Int) (a0_3 : Int) (a0_4 : Int) (a0_5 : Int) (a1_0 : Int) (a1_1 : Int) (a1_2 : Int) (a1_3 : Int) (a1_4 : Int) (a1_5 : Int) : Option (Bool) := (spec_ShipOk.f a0_0 a0_1 a0_2 a0_3 a0_4 a0_5).bind fun s1 => (spec_ShipOk.f a1_0 a1_1 a1_2 a1_3 a1_4 a1_5).bind fun s2 => (spec_l8Dot.f a0_2 a0_3 a1_2 a1_3).bind fun d => (spec_l8Cross.f a0_2 a0_3 a1_2 a1_3).bind fun c => (spec_l8Least.f c 100 d 1).bind fun le => (spec_l8Ahead.f a0_0 a0_1 a0_2 a0_3 a0_4 a0_5 a1_0 a1_1 a1_2 a1_3 a1_4 a1_5).bind fun h1 => (spec_l8Ahead.f a1_0 a1_1 a1_2 a1_3 a1_4 a1_5 a0_0 a0_1 a0_2 a0_3 a0_4 a0_5).bind fun h2 => some (s1 && s2 && (decide (d < 0) && le && h1 && h2))
theorem spec_HeadOn.mono : ∀ a0_0 a0_1 a0_2 a0_3 a0_4 a0_5 a1_0 a1_1 a1_2 a1_3 a1_4 a1_5 k, LeO (spec_HeadOn.f k a0_0 a0_1 a0_2 a0_3 a0_4 a0_5 a1_0 a1_1 a1_2 a1_3 a1_4 a1_5) (spec_HeadOn.f (k + 1) a0_0 a0_1 a0_2 a0_3 a0_4 a0_5 a1_0 a1_1 a1_2 a1_3 a1_4 a1_5) := fun _ _ _ _ _ _ _ _ _ _ _ _ _ => LeO.refl _
theorem spec_HeadOn.calls (k : Nat) (a0_0 : Int) (a0_1 : Int) (a0_2 : Int) (a0_3 : Int) (a0_4 : Int) (a0_5 : Int) (a1_0 : Int) (a1_1 : Int) (a1_2 : Int) (a1_3 : Int) (a1_4 : Int) (a1_5 : Int) (r : Bool) (w : World) (h : spec_HeadOn.f k a0_0 a0_1 a0_2 a0_3 a0_4 a0_5 a1_0 a1_1 a1_2 a1_3 a1_4 a1_5 = some r) :
  Calls Try.prog 30 #[.agg #[.int .i64 a0_0, .int .i64 a0_1, .int .i64 a0_2, .int .i64 a0_3, .int .i64 a0_4, .int .i64 a0_5], .agg #[.int .i64 a1_0, .int .i64 a1_1, .int .i64 a1_2, .int .i64 a1_3, .int .i64 a1_4, .int .i64 a1_5]] w fun e w' => e = .returned (.bool r) ∧ Below w.heap.size w w' := by
 unfold spec_HeadOn.f at h
 obtain ⟨s1, e0, h⟩ := Option.bind_eq_some_iff.mp h
 obtain ⟨s2, e1, h⟩ := Option.bind_eq_some_iff.mp h
 obtain ⟨d, e2, h⟩ := Option.bind_eq_some_iff.mp h
 obtain ⟨c, e3, h⟩ := Option.bind_eq_some_iff.mp h
 obtain ⟨le, e4, h⟩ := Option.bind_eq_some_iff.mp h
 obtain ⟨h1, e5, h⟩ := Option.bind_eq_some_iff.mp h
 obtain ⟨h2, e6, h⟩ := Option.bind_eq_some_iff.mp h
 obtain rfl := Option.some.inj h
 exact Ai.headon_any a0_0 a0_1 a0_2 a0_3 a0_4 a0_5 a1_0 a1_1 a1_2 a1_3 a1_4 a1_5 d c s1 s2 le h1 h2 w (fun W => spec_ShipOk.calls a0_0 a0_1 a0_2 a0_3 a0_4 a0_5 s1 W e0) (fun W => spec_ShipOk.calls a1_0 a1_1 a1_2 a1_3 a1_4 a1_5 s2 W e1) (fun W => spec_l8Way.calls a0_0 a0_1 a0_2 a0_3 a0_4 a0_5 a0_2 a0_3 W rfl) (fun W => spec_l8Way.calls a1_0 a1_1 a1_2 a1_3 a1_4 a1_5 a1_2 a1_3 W rfl) (fun W => spec_l8Dot.calls a0_2 a0_3 a1_2 a1_3 d W e2) (fun W => spec_l8Cross.calls a0_2 a0_3 a1_2 a1_3 c W e3) (fun W => (spec_l8Least.calls c 100 d 1 le W e4).mono fun _ _ q => ⟨q.1, q.2.below⟩) (fun W => spec_l8Ahead.calls a0_0 a0_1 a0_2 a0_3 a0_4 a0_5 a1_0 a1_1 a1_2 a1_3 a1_4 a1_5 h1 W e5) (fun W => spec_l8Ahead.calls a1_0 a1_1 a1_2 a1_3 a1_4 a1_5 a0_0 a0_1 a0_2 a0_3 a0_4 a0_5 h2 W e6)

/-! ### spec_l8Diff: function 80 -/
def spec_l8Diff.f (a0_0 : Int) (a0_1 : Int) (a0_2 : Int) (a0_3 : Int) (a0_4 : Int) (a0_5 : Int) (a1_0 : Int) (a1_1 : Int) (a1_2 : Int) (a1_3 : Int) (a1_4 : Int) (a1_5 : Int) : Option (Int × Int) := some (wrap64 (a1_2 - a0_2), wrap64 (a1_3 - a0_3))
set_option maxHeartbeats 8000000 in
set_option maxRecDepth 100000 in
theorem spec_l8Diff.calls (a0_0 : Int) (a0_1 : Int) (a0_2 : Int) (a0_3 : Int) (a0_4 : Int) (a0_5 : Int) (a1_0 : Int) (a1_1 : Int) (a1_2 : Int) (a1_3 : Int) (a1_4 : Int) (a1_5 : Int) (r1 : Int) (r2 : Int) (w : World) (h : spec_l8Diff.f a0_0 a0_1 a0_2 a0_3 a0_4 a0_5 a1_0 a1_1 a1_2 a1_3 a1_4 a1_5 = some (r1, r2)) :
  Calls Try.prog 80 #[.agg #[.int .i64 a0_0, .int .i64 a0_1, .int .i64 a0_2, .int .i64 a0_3, .int .i64 a0_4, .int .i64 a0_5], .agg #[.int .i64 a1_0, .int .i64 a1_1, .int .i64 a1_2, .int .i64 a1_3, .int .i64 a1_4, .int .i64 a1_5]] w fun e w' => e = .returned (.agg #[.int .i64 r1, .int .i64 r2]) ∧ Below w.heap.size w w' := by
 have hu25 := Try.underlying25
 have hu83 := Try.underlying83
 have HB := Aside0.mk (Below.refl w.heap.size w)
 have H : (some (wrap64 (a1_2 - a0_2), wrap64 (a1_3 - a0_3))) = some (r1, r2) := h
 clear h
 simp only [Option.some.injEq, Prod.mk.injEq] at H
 obtain ⟨rfl, rfl⟩ := H
 go_enter Try.func80, Try.ntmps80
 go_wp2_with (first | ((with_reducible refine gate_dst (N := 2) rfl ?_); refine box_event ?hg (N := 2) ?hd (cs := #[.int .i64 a0_0, .int .i64 a0_1, .int .i64 a0_2, .int .i64 a0_3, .int .i64 a0_4, .int .i64 a0_5]) (t := 25) ?hr ?_; (case hd => rfl); (case hg => rfl); (case hr => first | (go_simp; done) | (go_simp; rfl)); intro gb178 hg w1 hbox hb; have n0_ := Aside0.mk (below_step s5_0 hb); have n1_ := Aside0.mk (hbox); have n2_ := Aside0.mk (ns hg s5_0 : w.heap.size ≤ gb178); have n3_ := Aside0.mk (ns hg s5_0 : w.heap.size ≤ gb178); clear HB; have HB := n0_; have BK178 := n1_; have GW178 := n2_; have GE178 := n3_; clear n0_ n1_ n2_ n3_; clear hb hbox hg) | ((with_reducible refine gate_dst (N := 3) rfl ?_); refine box_event ?hg (N := 3) ?hd (cs := #[.int .i64 a1_0, .int .i64 a1_1, .int .i64 a1_2, .int .i64 a1_3, .int .i64 a1_4, .int .i64 a1_5]) (t := 25) ?hr ?_; (case hd => rfl); (case hg => rfl); (case hr => first | (go_simp; done) | (go_simp; rfl)); intro gb179 hg w2 hbox hb; have n0_ := Aside0.mk (bb (zk BK178.out) hb); have n1_ := Aside0.mk (below_step (by repeat (first | (with_reducible first | exact HB.out | apply below_alloc | apply pw_below_drewN | apply below_drew1 | refine below_set ?_ GE178.out) | exact HB.out)) hb); have n2_ := Aside0.mk (hbox); have n3_ := Aside0.mk (ns hg (by repeat (first | (with_reducible first | exact HB.out | apply below_alloc | apply pw_below_drewN | apply below_drew1 | refine below_set ?_ GE178.out) | exact HB.out)) : w.heap.size ≤ gb179); have n4_ := Aside0.mk (ns hg (by repeat (first | (with_reducible first | exact HB.out | apply below_alloc | apply pw_below_drewN | apply below_drew1 | refine below_set ?_ GE178.out) | exact HB.out)) : w.heap.size ≤ gb179); have n5_ := Aside0.mk ((nlt hg (zk BK178.out) : gb178 ≠ gb179)); have n6_ := Aside0.mk ((ngt hg (zk BK178.out) : gb179 ≠ gb178)); clear BK178; clear HB; have BK178 := n0_; have HB := n1_; have BK179 := n2_; have GW179 := n3_; have GE179 := n4_; have NB178_179 := n5_; have NB179_178 := n6_; clear n0_ n1_ n2_ n3_ n4_ n5_ n6_; clear hb hbox hg) | ((with_reducible refine gate_dst (N := 4) rfl ?_); refine box_event ?hg (N := 4) ?hd (cs := #[.int .i64 0, .int .i64 0]) (t := 83) ?hr ?_; (case hd => rfl); (case hg => rfl); (case hr => first | (go_simp; done) | (go_simp; rfl)); intro gb180 hg w3 hbox hb; have n0_ := Aside0.mk (bb (zk BK178.out) hb); have n1_ := Aside0.mk (bb (zk BK179.out) hb); have n2_ := Aside0.mk (below_step s5_3 hb); have n3_ := Aside0.mk (hbox); have n4_ := Aside0.mk (ns hg s5_3 : w.heap.size ≤ gb180); have n5_ := Aside0.mk (ns hg s5_3 : w.heap.size ≤ gb180); have n6_ := Aside0.mk ((nlt hg (zk BK178.out) : gb178 ≠ gb180)); have n7_ := Aside0.mk ((ngt hg (zk BK178.out) : gb180 ≠ gb178)); have n8_ := Aside0.mk ((nlt hg (zk BK179.out) : gb179 ≠ gb180)); have n9_ := Aside0.mk ((ngt hg (zk BK179.out) : gb180 ≠ gb179)); clear BK178; clear BK179; clear HB; have BK178 := n0_; have BK179 := n1_; have HB := n2_; have BK180 := n3_; have GW180 := n4_; have GE180 := n5_; have NB178_180 := n6_; have NB180_178 := n7_; have NB179_180 := n8_; have NB180_179 := n9_; clear n0_ n1_ n2_ n3_ n4_ n5_ n6_ n7_ n8_ n9_; clear hb hbox hg; have hnb6 := NB179_178.out; have hnc6 := NB178_179.out; have hnb7 := NB179_180.out; have hnc7 := NB180_179.out; have hcz8_0 : w3.cell? ⟨gb179, 0, none⟩ = some (.int .i64 a1_0) := bc BK179.out 0; have hcz8_1 : w3.cell? ⟨gb179, 1, none⟩ = some (.int .i64 a1_1) := bc BK179.out 1; have hcz8_2 : w3.cell? ⟨gb179, 2, none⟩ = some (.int .i64 a1_2) := bc BK179.out 2; have hcz8_3 : w3.cell? ⟨gb179, 3, none⟩ = some (.int .i64 a1_3) := bc BK179.out 3; have hcz8_4 : w3.cell? ⟨gb179, 4, none⟩ = some (.int .i64 a1_4) := bc BK179.out 4; have hcz8_5 : w3.cell? ⟨gb179, 5, none⟩ = some (.int .i64 a1_5) := bc BK179.out 5; have hfz8_0 := blk_frozen BK179.out 0; have hfz8_1 := blk_frozen BK179.out 1; have hfz8_2 := blk_frozen BK179.out 2; have hfz8_3 := blk_frozen BK179.out 3; have hfz8_4 := blk_frozen BK179.out 4; have hfz8_5 := blk_frozen BK179.out 5; have hnb9 := NB178_180.out; have hnc9 := NB180_178.out; have hcz10_0 : w3.cell? ⟨gb178, 0, none⟩ = some (.int .i64 a0_0) := bc BK178.out 0; have hcz10_1 : w3.cell? ⟨gb178, 1, none⟩ = some (.int .i64 a0_1) := bc BK178.out 1; have hcz10_2 : w3.cell? ⟨gb178, 2, none⟩ = some (.int .i64 a0_2) := bc BK178.out 2; have hcz10_3 : w3.cell? ⟨gb178, 3, none⟩ = some (.int .i64 a0_3) := bc BK178.out 3; have hcz10_4 : w3.cell? ⟨gb178, 4, none⟩ = some (.int .i64 a0_4) := bc BK178.out 4; have hcz10_5 : w3.cell? ⟨gb178, 5, none⟩ = some (.int .i64 a0_5) := bc BK178.out 5; have hfz10_0 := blk_frozen BK178.out 0; have hfz10_1 := blk_frozen BK178.out 1; have hfz10_2 := blk_frozen BK178.out 2; have hfz10_3 := blk_frozen BK178.out 3; have hfz10_4 := blk_frozen BK178.out 4; have hfz10_5 := blk_frozen BK178.out 5; have hcz11_0 : w3.cell? ⟨gb180, 0, none⟩ = some (.int .i64 0) := bc BK180.out 0; have hcz11_1 : w3.cell? ⟨gb180, 1, none⟩ = some (.int .i64 0) := bc BK180.out 1; have hfz11_0 := blk_frozen BK180.out 0; have hfz11_1 := blk_frozen BK180.out 1))
 refine bodyPost_ret (results_cell_row rfl _ _ gb180 83 #[.int .i64 (wrap64 (a1_2 - a0_2)), .int .i64 (wrap64 (a1_3 - a0_3))] (0, 0) _ rfl (by (with_reducible repeat (first | refine blk_drewN ?_ _ | refine blk_drew ?_ | refine blk_alloc ?_ _)); refine blk_put (cs := #[.int .i64 (wrap64 (a1_2 - a0_2)), .int .i64 0]) ?_ 1 _ rfl; (with_reducible repeat (first | refine blk_drewN ?_ _ | refine blk_drew ?_ | refine blk_alloc ?_ _)); refine blk_put (cs := #[.int .i64 0, .int .i64 0]) ?_ 0 _ rfl; (with_reducible repeat (first | refine blk_drewN ?_ _ | refine blk_drew ?_ | refine blk_alloc ?_ _)); exact BK180.out) Try.underlying83 rfl (by kernel_rfl)) rfl ?_
 exact ⟨by first | rfl | (simp [errW_none, errW_some] <;> rfl) | (simp [*, errW_none, errW_some] <;> rfl), by repeat (first | (with_reducible first | exact HB.out | apply below_alloc | apply pw_below_drewN | apply below_drew1 | refine below_set ?_ GE178.out | refine below_set ?_ GE179.out | refine below_set ?_ GE180.out) | exact HB.out)⟩

/-! ### spec_l8Right: function 87 -/
def spec_l8Right.f (a0_0 : Int) (a0_1 : Int) (a0_2 : Int) (a0_3 : Int) (a0_4 : Int) (a0_5 : Int) (a1_0 : Int) (a1_1 : Int) (a1_2 : Int) (a1_3 : Int) (a1_4 : Int) (a1_5 : Int) : Option (Bool) := (spec_l8Way.f a0_0 a0_1 a0_2 a0_3 a0_4 a0_5).bind fun bt183 => ((spec_l8Bearing.f a0_0 a0_1 a0_2 a0_3 a0_4 a0_5 a1_0 a1_1 a1_2 a1_3 a1_4 a1_5).bind fun bt185 => ((spec_l8Cross.f bt183.1 bt183.2 bt185.1 bt185.2).bind fun t187 => (some (decide (t187 < 0)))))
def spec_l8Right.T1 : Bool × List (List Nat × List Nat) := (true, [([], []), ([0], [0]), ([], []), ([], []), ([2, 3, 1], [2, 3]), ([1, 4, 4], [1, 4]), ([5], [5]), ([6, 5, 0, 1, 2, 3, 4, 5, 6], [6])])
def spec_l8Right.B1 : List Nat := [0, 1, 0, 0, 15, 31, 63, 127]
theorem spec_l8Right.tab1 : rtab .any (opsOf Try.f87 1) = spec_l8Right.T1 := by kernel_rfl
theorem spec_l8Right.bits1 : waitsOk spec_l8Right.T1.2 spec_l8Right.B1 = true := by kernel_rfl
set_option maxHeartbeats 8000000 in
set_option maxRecDepth 100000 in
theorem spec_l8Right.calls (a0_0 : Int) (a0_1 : Int) (a0_2 : Int) (a0_3 : Int) (a0_4 : Int) (a0_5 : Int) (a1_0 : Int) (a1_1 : Int) (a1_2 : Int) (a1_3 : Int) (a1_4 : Int) (a1_5 : Int) (r : Bool) (w : World) (h : spec_l8Right.f a0_0 a0_1 a0_2 a0_3 a0_4 a0_5 a1_0 a1_1 a1_2 a1_3 a1_4 a1_5 = some r) :
  Calls Try.prog 87 #[.agg #[.int .i64 a0_0, .int .i64 a0_1, .int .i64 a0_2, .int .i64 a0_3, .int .i64 a0_4, .int .i64 a0_5], .agg #[.int .i64 a1_0, .int .i64 a1_1, .int .i64 a1_2, .int .i64 a1_3, .int .i64 a1_4, .int .i64 a1_5]] w fun e w' => e = .returned (.bool r) ∧ Below w.heap.size w w' := by
 have hu25 := Try.underlying25
 have HB := Aside0.mk (Below.refl w.heap.size w)
 have H : ((spec_l8Way.f a0_0 a0_1 a0_2 a0_3 a0_4 a0_5).bind fun bt183 => ((spec_l8Bearing.f a0_0 a0_1 a0_2 a0_3 a0_4 a0_5 a1_0 a1_1 a1_2 a1_3 a1_4 a1_5).bind fun bt185 => ((spec_l8Cross.f bt183.1 bt183.2 bt185.1 bt185.2).bind fun t187 => (some (decide (t187 < 0)))))) = some r := h
 clear h
 replace H := Option.bind_eq_some_iff.mp H
 obtain ⟨⟨t183, t184⟩, A30, H⟩ := H
 replace H : ((spec_l8Bearing.f a0_0 a0_1 a0_2 a0_3 a0_4 a0_5 a1_0 a1_1 a1_2 a1_3 a1_4 a1_5).bind fun bt185 => ((spec_l8Cross.f t183 t184 bt185.1 bt185.2).bind fun t187 => (some (decide (t187 < 0))))) = some r := H
 have A3 := Aside0.mk A30
 clear A30
 replace H := Option.bind_eq_some_iff.mp H
 obtain ⟨⟨t185, t186⟩, A40, H⟩ := H
 replace H : ((spec_l8Cross.f t183 t184 t185 t186).bind fun t187 => (some (decide (t187 < 0)))) = some r := H
 have A4 := Aside0.mk A40
 clear A40
 replace H := Option.bind_eq_some_iff.mp H
 obtain ⟨t187, A50, H⟩ := H
 replace H : (some (decide (t187 < 0))) = some r := H
 have A5 := Aside0.mk A50
 clear A50
 obtain rfl := Option.some.inj H
 go_enter Try.func87, Try.ntmps87
 try go_wp2_with (first | ((with_reducible refine gate_dst (N := 2) rfl ?_); refine box_event ?hg (N := 2) ?hd (cs := #[.int .i64 a0_0, .int .i64 a0_1, .int .i64 a0_2, .int .i64 a0_3, .int .i64 a0_4, .int .i64 a0_5]) (t := 25) ?hr ?_; (case hd => rfl); (case hg => rfl); (case hr => first | (go_simp; done) | (go_simp; rfl)); intro gb181 hg w1 hbox hb; have n0_ := Aside0.mk (below_step s5_0 hb); have n1_ := Aside0.mk (hbox); have n2_ := Aside0.mk (ns hg s5_0 : w.heap.size ≤ gb181); have n3_ := Aside0.mk (ns hg s5_0 : w.heap.size ≤ gb181); clear HB; have HB := n0_; have BK181 := n1_; have GW181 := n2_; have GE181 := n3_; clear n0_ n1_ n2_ n3_; clear hb hbox hg) | ((with_reducible refine gate_dst (N := 3) rfl ?_); refine box_event ?hg (N := 3) ?hd (cs := #[.int .i64 a1_0, .int .i64 a1_1, .int .i64 a1_2, .int .i64 a1_3, .int .i64 a1_4, .int .i64 a1_5]) (t := 25) ?hr ?_; (case hd => rfl); (case hg => rfl); (case hr => first | (go_simp; done) | (go_simp; rfl)); intro gb182 hg w2 hbox hb; have n0_ := Aside0.mk (bb (zk BK181.out) hb); have n1_ := Aside0.mk (below_step (by repeat (first | (with_reducible first | exact HB.out | apply below_alloc | apply pw_below_drewN | apply below_drew1 | refine below_set ?_ GE181.out) | exact HB.out)) hb); have n2_ := Aside0.mk (hbox); have n3_ := Aside0.mk (ns hg (by repeat (first | (with_reducible first | exact HB.out | apply below_alloc | apply pw_below_drewN | apply below_drew1 | refine below_set ?_ GE181.out) | exact HB.out)) : w.heap.size ≤ gb182); have n4_ := Aside0.mk (ns hg (by repeat (first | (with_reducible first | exact HB.out | apply below_alloc | apply pw_below_drewN | apply below_drew1 | refine below_set ?_ GE181.out) | exact HB.out)) : w.heap.size ≤ gb182); have n5_ := Aside0.mk ((nlt hg (zk BK181.out) : gb181 ≠ gb182)); have n6_ := Aside0.mk ((ngt hg (zk BK181.out) : gb182 ≠ gb181)); clear BK181; clear HB; have BK181 := n0_; have HB := n1_; have BK182 := n2_; have GW182 := n3_; have GE182 := n4_; have NB181_182 := n5_; have NB182_181 := n6_; clear n0_ n1_ n2_ n3_ n4_ n5_ n6_; clear hb hbox hg))
 have n0_ := Aside0.mk (blk_drew BK181.out)
 have n1_ := Aside0.mk (blk_drew BK182.out)
 have n2_ := Aside0.mk (below_drew1 HB.out)
 clear BK181 BK182 HB
 have BK181 := n0_
 have BK182 := n1_
 have HB := n2_
 clear n0_ n1_ n2_
 refine start_ (n := 8) (S := fun w' => w'.cell? ⟨gb181, 0, none⟩ = some (.int .i64 a0_0) ∧ w'.cell? ⟨gb181, 1, none⟩ = some (.int .i64 a0_1) ∧ w'.cell? ⟨gb181, 2, none⟩ = some (.int .i64 a0_2) ∧ w'.cell? ⟨gb181, 3, none⟩ = some (.int .i64 a0_3) ∧ w'.cell? ⟨gb181, 4, none⟩ = some (.int .i64 a0_4) ∧ w'.cell? ⟨gb181, 5, none⟩ = some (.int .i64 a0_5) ∧ w'.cell? ⟨gb182, 0, none⟩ = some (.int .i64 a1_0) ∧ w'.cell? ⟨gb182, 1, none⟩ = some (.int .i64 a1_1) ∧ w'.cell? ⟨gb182, 2, none⟩ = some (.int .i64 a1_2) ∧ w'.cell? ⟨gb182, 3, none⟩ = some (.int .i64 a1_3) ∧ w'.cell? ⟨gb182, 4, none⟩ = some (.int .i64 a1_4) ∧ w'.cell? ⟨gb182, 5, none⟩ = some (.int .i64 a1_5)) (ds := []) #[false, false, false, false, false, false, false, false] (by kernel_rfl) rfl rfl ⟨bc BK181.out 0, bc BK181.out 1, bc BK181.out 2, bc BK181.out 3, bc BK181.out 4, bc BK181.out 5, bc BK182.out 0, bc BK182.out 1, bc BK182.out 2, bc BK182.out 3, bc BK182.out 4, bc BK182.out 5⟩ (fun hHeld => ?_); refine with_tabW spec_l8Right.tab1 spec_l8Right.bits1 (fun HT_ HW_ => ?_)
 generalize w2.drew = w3 at BK181 BK182 HB hHeld ⊢
 refine take_ (i := 0) (N := some 5) (v := ?_) (a' := ?_) (bz 8 1) rfl rfl (take_ofW HT_.out HW_.out (by kernel_rfl)) (fun _ _ _ h => h) (Or.inl ⟨by rfl, ?_⟩) hHeld ?_ ?_
 rotate_left
 ·rintro w' ⟨s0, s1, s2, s3, s4, s5, s6, s7, s8, s9, s10, s11⟩
  go_simp
  with_reducible rfl
 rotate_left
 ·simp only [Act.put, y1, y2, y3, i64_w, i32_w]
  rfl
 refine take_ (i := 2) (N := some 7) (v := ?_) (a' := ?_) (bz 8 5) rfl rfl (take_ofW HT_.out HW_.out (by kernel_rfl)) (fun _ _ _ h => h) (Or.inl ⟨by rfl, ?_⟩) hHeld ?_ ?_
 rotate_left
 ·rintro w' ⟨s0, s1, s2, s3, s4, s5, s6, s7, s8, s9, s10, s11⟩
  go_simp
  with_reducible rfl
 rotate_left
 ·simp only [Act.put, y1, y2, y3, i64_w, i32_w]
  rfl
 refine take_ (i := 3) (N := some 8) (v := ?_) (a' := ?_) (bz 8 13) rfl rfl (take_ofW HT_.out HW_.out (by kernel_rfl)) (fun _ _ _ h => h) (Or.inl ⟨by rfl, ?_⟩) hHeld ?_ ?_
 rotate_left
 ·rintro w' ⟨s0, s1, s2, s3, s4, s5, s6, s7, s8, s9, s10, s11⟩
  go_simp
  with_reducible rfl
 rotate_left
 ·simp only [Act.put, y1, y2, y3, i64_w, i32_w]
  rfl
 refine one_ (i := 1) (N := some 6) (bz 8 15) rfl rfl (one_of HT_.out (by kernel_rfl)) (by decide) (fun K hK => ?_)
 refine goes_ Try.func66 (by kernel_rfl) rfl #[.agg #[.int .i64 a0_0, .int .i64 a0_1, .int .i64 a0_2, .int .i64 a0_3, .int .i64 a0_4, .int .i64 a0_5]] (by rfl) rfl rfl s5_1 ?_
 with_reducible refine (spec_l8Way.calls a0_0 a0_1 a0_2 a0_3 a0_4 a0_5 t183 t184 _ A3.out).mono ?_
 rintro e w4 ⟨rfl, hb⟩
 refine ⟨_, rfl, ?_⟩
 have n0_ := Aside0.mk (bb (zk BK181.out) hb)
 have n1_ := Aside0.mk (bb (zk BK182.out) hb)
 have n2_ := Aside0.mk (below_step s5_4 hb)
 clear BK181 BK182 HB
 have BK181 := n0_
 have BK182 := n1_
 have HB := n2_
 clear n0_ n1_ n2_
 (try clear hb)
 (try clear hb2)
 (try clear hk)
 (try clear hi)
 refine hK.out _ _ ⟨bc BK181.out 0, bc BK181.out 1, bc BK181.out 2, bc BK181.out 3, bc BK181.out 4, bc BK181.out 5, bc BK182.out 0, bc BK182.out 1, bc BK182.out 2, bc BK182.out 3, bc BK182.out 4, bc BK182.out 5⟩ (fun hHeld => ?_)
 clear hK K
 refine norm_ (a' := ?_) ?_ ?_
 rotate_left
 ·show Act.put _ (some 6) _ = _
  simp only [Act.put, y1, y2, y3, i64_w, i32_w]
  rfl
 refine one_ (i := 4) (N := some 9) (bz 8 31) rfl rfl (one_of HT_.out (by kernel_rfl)) (by decide) (fun K hK => ?_)
 refine goes_ Try.func65 (by kernel_rfl) rfl #[.agg #[.int .i64 a0_0, .int .i64 a0_1, .int .i64 a0_2, .int .i64 a0_3, .int .i64 a0_4, .int .i64 a0_5], .agg #[.int .i64 a1_0, .int .i64 a1_1, .int .i64 a1_2, .int .i64 a1_3, .int .i64 a1_4, .int .i64 a1_5]] (by rfl) rfl rfl s5_1 ?_
 with_reducible refine (spec_l8Bearing.calls a0_0 a0_1 a0_2 a0_3 a0_4 a0_5 a1_0 a1_1 a1_2 a1_3 a1_4 a1_5 t185 t186 _ A4.out).mono ?_
 rintro e w5 ⟨rfl, hb⟩
 refine ⟨_, rfl, ?_⟩
 have n0_ := Aside0.mk (bb (zk BK181.out) hb)
 have n1_ := Aside0.mk (bb (zk BK182.out) hb)
 have n2_ := Aside0.mk (below_step s5_4 hb)
 clear BK181 BK182 HB
 have BK181 := n0_
 have BK182 := n1_
 have HB := n2_
 clear n0_ n1_ n2_
 (try clear hb)
 (try clear hb2)
 (try clear hk)
 (try clear hi)
 refine hK.out _ _ ⟨bc BK181.out 0, bc BK181.out 1, bc BK181.out 2, bc BK181.out 3, bc BK181.out 4, bc BK181.out 5, bc BK182.out 0, bc BK182.out 1, bc BK182.out 2, bc BK182.out 3, bc BK182.out 4, bc BK182.out 5⟩ (fun hHeld => ?_)
 clear hK K
 refine norm_ (a' := ?_) ?_ ?_
 rotate_left
 ·show Act.put _ (some 9) _ = _
  simp only [Act.put, y1, y2, y3, i64_w, i32_w]
  rfl
 refine one_ (i := 5) (N := some 10) (bz 8 63) rfl rfl (one_of HT_.out (by kernel_rfl)) (by decide) (fun K hK => ?_)
 refine goes_ Try.func67 (by kernel_rfl) rfl #[.agg #[.int .i64 t183, .int .i64 t184], .agg #[.int .i64 t185, .int .i64 t186]] (by rfl) rfl rfl s5_1 ?_
 with_reducible refine (spec_l8Cross.calls t183 t184 t185 t186 t187 _ A5.out).mono ?_
 rintro e w6 ⟨rfl, hb⟩
 refine ⟨_, rfl, ?_⟩
 have n0_ := Aside0.mk (bb (zk BK181.out) hb)
 have n1_ := Aside0.mk (bb (zk BK182.out) hb)
 have n2_ := Aside0.mk (below_step s5_4 hb)
 clear BK181 BK182 HB
 have BK181 := n0_
 have BK182 := n1_
 have HB := n2_
 clear n0_ n1_ n2_
 (try clear hb)
 (try clear hb2)
 (try clear hk)
 (try clear hi)
 refine hK.out _ _ ⟨bc BK181.out 0, bc BK181.out 1, bc BK181.out 2, bc BK181.out 3, bc BK181.out 4, bc BK181.out 5, bc BK182.out 0, bc BK182.out 1, bc BK182.out 2, bc BK182.out 3, bc BK182.out 4, bc BK182.out 5⟩ (fun hHeld => ?_)
 clear hK K
 refine norm_ (a' := ?_) ?_ ?_
 rotate_left
 ·show Act.put _ (some 10) _ = _
  simp only [Act.put, y1, y2, y3, i64_w, i32_w]
  rfl
 refine pure_ (i := 6) (N := some 11) (v := ?_) (a' := ?_) (bz 8 127) rfl rfl (any_of HT_.out (by kernel_rfl)) (fun _ _ _ h => h) (Or.inl ⟨by rfl, ?_⟩) ?_ ?_
 rotate_left
 ·intro w'
  go_simp
  with_reducible rfl
 rotate_left
 ·simp only [Act.put, y1, y2, y3, i64_w, i32_w]
  rfl
 refine pure_ (i := 7) (N := some 4) (v := ?_) (a' := ?_) (bz 8 255) rfl rfl (any_of HT_.out (by kernel_rfl)) (fun _ _ _ h => h) (Or.inl ⟨by rfl, ?_⟩) ?_ ?_
 rotate_left
 ·intro w'
  go_simp
  with_reducible rfl
 rotate_left
 ·simp only [Act.put, y1, y2, y3, i64_w, i32_w]
  rfl
 refine done_ (done_of HT_.out (by kernel_rfl)) ?_
 try go_wp2
 go_ret
 exact ⟨by first | rfl | (simp [errW_none, errW_some] <;> rfl) | (simp [*, errW_none, errW_some] <;> rfl), by repeat (first | (with_reducible first | exact HB.out | apply below_alloc | apply pw_below_drewN | apply below_drew1 | refine below_set ?_ GE181.out | refine below_set ?_ GE182.out) | exact HB.out)⟩

end Go.Proofs.Ytfbokdbaondjdaa.PV1
-- printed for this claim out of the translation
namespace Go.Proofs.Ytfbokdbaondjdaa.PV1
open Go.RowKit Go.Proofs.YtfbokdbaondjdaaW.PrintWords Go.Proofs.YtfbokdbaondjdaaW.PrintLast Go.Proofs.YtfbokdbaondjdaaW.PrintMore Go.Proofs.Ytfbokdbaondjdaa.Cz Go.Proofs.Ytfbokdbaondjdaa.Cz
attribute [local go_sem] max2_int min2_int max_two min_two max_three min_three max_four min_four
set_option linter.unusedVariables false
set_option linter.unusedSimpArgs false

theorem s6_0 {p : Prop} (h : p := by repeat (first | (with_reducible first | exact HB.out | apply below_alloc | apply pw_below_drewN | apply below_drew1 | refine below_set ?_ GE188.out | refine below_set ?_ GE189.out | refine below_set ?_ GE194.out) | exact HB.out)) : p := h
theorem s6_1 {p : Prop} (h : p := by repeat (first | (with_reducible first | exact HB.out | apply below_alloc | apply pw_below_drewN | apply below_drew1 | refine below_set ?_ GE188.out | refine below_set ?_ GE189.out) | exact HB.out)) : p := h
theorem s6_2 {p : Prop} (h : p := by (try simp only [List.map_toArray, List.map_cons, List.map_nil]); first | done | rfl | (simp only [List.length_drop, List.length_take]; rfl)) : p := h
theorem s6_3 {p : Prop} (h : p := by first | rfl | (simp; done) | (simp [*]; done)) : p := h
set_option maxRecDepth 100000 in
theorem t6_0 {p : Prop} (h : p := by
 simp only [Act.put, y1, y2, y3, i64_w, i32_w]
 rfl) : p := h
set_option maxRecDepth 100000 in
theorem t6_1 {p : Prop} (h : p := by
 rintro w' ⟨s0, s1, s2, s3, s4, s5, s6, s7, s8, s9, s10, s11, s12, s13⟩
 go_simp
 with_reducible rfl) : p := h
/-! ### spec_Duty: function 45 -/
mutual
def spec_Duty.j0 : Nat → Bool → Int → Int → Int → Int → Int → Int → Int → Int → Int → Int → Int → Int → Option (Int)
 | 0, _, _, _, _, _, _, _, _, _, _, _, _, _ => none
 | k + 1, x15, x189000, x189001, x189002, x189003, x189004, x189005, x190000, x190001, x190002, x190003, x190004, x190005 => if x15 = true then (some 4) else ((spec_l8Bearing.f x189000 x189001 x189002 x189003 x189004 x189005 x190000 x190001 x190002 x190003 x190004 x190005).bind fun bt192 => ((spec_l8Diff.f x189000 x189001 x189002 x189003 x189004 x189005 x190000 x190001 x190002 x190003 x190004 x190005).bind fun bt195 => ((spec_l8Dot.f bt192.1 bt192.2 bt195.1 bt195.2).bind fun t197 => (if t197 ≥ 0 then (some 0) else ((spec_Behind.f k x189000 x189001 x189002 x189003 x189004 x189005 x190000 x190001 x190002 x190003 x190004 x190005).bind fun t198 => ((spec_Behind.f k x190000 x190001 x190002 x190003 x190004 x190005 x189000 x189001 x189002 x189003 x189004 x189005).bind fun t199 => (if t198 = true then (spec_Duty.j1 k t198 t199 (!t199) x189000 x189001 x189002 x189003 x189004 x189005 x190000 x190001 x190002 x190003 x190004 x190005) else (spec_Duty.j1 k t198 t199 false x189000 x189001 x189002 x189003 x189004 x189005 x190000 x190001 x190002 x190003 x190004 x190005))))))))
def spec_Duty.j3 : Nat → Int → Int → Int → Int → Int → Int → Int → Int → Int → Int → Int → Int → Option (Int)
 | 0, _, _, _, _, _, _, _, _, _, _, _, _ => none
 | k + 1, x189000, x189001, x189002, x189003, x189004, x189005, x190000, x190001, x190002, x190003, x190004, x190005 => (spec_l8Right.f x189000 x189001 x189002 x189003 x189004 x189005 x190000 x190001 x190002 x190003 x190004 x190005).bind fun t201 => ((spec_l8Right.f x190000 x190001 x190002 x190003 x190004 x190005 x189000 x189001 x189002 x189003 x189004 x189005).bind fun t202 => (if t201 = true then (spec_Duty.j4 k t201 t202 (!t202) x189000 x189001 x189002 x189003 x189004 x189005 x190000 x190001 x190002 x190003 x190004 x190005) else (spec_Duty.j4 k t201 t202 false x189000 x189001 x189002 x189003 x189004 x189005 x190000 x190001 x190002 x190003 x190004 x190005)))
def spec_Duty.j4 : Nat → Bool → Bool → Bool → Int → Int → Int → Int → Int → Int → Int → Int → Int → Int → Int → Int → Option (Int)
 | 0, _, _, _, _, _, _, _, _, _, _, _, _, _, _, _ => none
 | k + 1, x6, x7, x70, x189000, x189001, x189002, x189003, x189004, x189005, x190000, x190001, x190002, x190003, x190004, x190005 => if x70 = true then (some 2) else (if x7 = true then (spec_Duty.j5 k (!x6) x189000 x189001 x189002 x189003 x189004 x189005 x190000 x190001 x190002 x190003 x190004 x190005) else (spec_Duty.j5 k false x189000 x189001 x189002 x189003 x189004 x189005 x190000 x190001 x190002 x190003 x190004 x190005))
def spec_Duty.j5 : Nat → Bool → Int → Int → Int → Int → Int → Int → Int → Int → Int → Int → Int → Int → Option (Int)
 | 0, _, _, _, _, _, _, _, _, _, _, _, _, _ => none
 | k + 1, x76, x189000, x189001, x189002, x189003, x189004, x189005, x190000, x190001, x190002, x190003, x190004, x190005 => if x76 = true then (some 1) else (if x189005 < x190005 then (some 2) else (if x189005 > x190005 then (some 1) else (some 3)))
def spec_Duty.j1 : Nat → Bool → Bool → Bool → Int → Int → Int → Int → Int → Int → Int → Int → Int → Int → Int → Int → Option (Int)
 | 0, _, _, _, _, _, _, _, _, _, _, _, _, _, _, _ => none
 | k + 1, x6, x7, x31, x189000, x189001, x189002, x189003, x189004, x189005, x190000, x190001, x190002, x190003, x190004, x190005 => if x31 = true then (some 2) else (if x7 = true then (spec_Duty.j2 k (!x6) x189000 x189001 x189002 x189003 x189004 x189005 x190000 x190001 x190002 x190003 x190004 x190005) else (spec_Duty.j2 k false x189000 x189001 x189002 x189003 x189004 x189005 x190000 x190001 x190002 x190003 x190004 x190005))
def spec_Duty.j2 : Nat → Bool → Int → Int → Int → Int → Int → Int → Int → Int → Int → Int → Int → Int → Option (Int)
 | 0, _, _, _, _, _, _, _, _, _, _, _, _, _ => none
 | k + 1, x37, x189000, x189001, x189002, x189003, x189004, x189005, x190000, x190001, x190002, x190003, x190004, x190005 => if x37 = true then (some 1) else (if x189004 < x190004 then (some 2) else (if x189004 > x190004 then (some 1) else ((spec_HeadOn.f k x189000 x189001 x189002 x189003 x189004 x189005 x190000 x190001 x190002 x190003 x190004 x190005).bind fun t200 => (if t200 = true then (if x189004 = 1 then (some 3) else (spec_Duty.j3 k x189000 x189001 x189002 x189003 x189004 x189005 x190000 x190001 x190002 x190003 x190004 x190005)) else (spec_Duty.j3 k x189000 x189001 x189002 x189003 x189004 x189005 x190000 x190001 x190002 x190003 x190004 x190005)))))
end
def spec_Duty.f (k : Nat) (a0_0 : Int) (a0_1 : Int) (a0_2 : Int) (a0_3 : Int) (a0_4 : Int) (a0_5 : Int) (a1_0 : Int) (a1_1 : Int) (a1_2 : Int) (a1_3 : Int) (a1_4 : Int) (a1_5 : Int) : Option (Int) := (spec_ShipOk.f a0_0 a0_1 a0_2 a0_3 a0_4 a0_5).bind fun t190 => (if t190 = true then ((spec_ShipOk.f a1_0 a1_1 a1_2 a1_3 a1_4 a1_5).bind fun t191 => (spec_Duty.j0 k (!t191) a0_0 a0_1 a0_2 a0_3 a0_4 a0_5 a1_0 a1_1 a1_2 a1_3 a1_4 a1_5)) else (spec_Duty.j0 k true a0_0 a0_1 a0_2 a0_3 a0_4 a0_5 a1_0 a1_1 a1_2 a1_3 a1_4 a1_5))
theorem spec_Duty.mono_l : ∀ k, (∀ y0 y1 y2 y3 y4 y5 y6 y7 y8 y9 y10 y11 y12, LeO (spec_Duty.j0 k y0 y1 y2 y3 y4 y5 y6 y7 y8 y9 y10 y11 y12) (spec_Duty.j0 (k + 1) y0 y1 y2 y3 y4 y5 y6 y7 y8 y9 y10 y11 y12)) ∧ (∀ y0 y1 y2 y3 y4 y5 y6 y7 y8 y9 y10 y11, LeO (spec_Duty.j3 k y0 y1 y2 y3 y4 y5 y6 y7 y8 y9 y10 y11) (spec_Duty.j3 (k + 1) y0 y1 y2 y3 y4 y5 y6 y7 y8 y9 y10 y11)) ∧ (∀ y0 y1 y2 y3 y4 y5 y6 y7 y8 y9 y10 y11 y12 y13 y14, LeO (spec_Duty.j4 k y0 y1 y2 y3 y4 y5 y6 y7 y8 y9 y10 y11 y12 y13 y14) (spec_Duty.j4 (k + 1) y0 y1 y2 y3 y4 y5 y6 y7 y8 y9 y10 y11 y12 y13 y14)) ∧ (∀ y0 y1 y2 y3 y4 y5 y6 y7 y8 y9 y10 y11 y12, LeO (spec_Duty.j5 k y0 y1 y2 y3 y4 y5 y6 y7 y8 y9 y10 y11 y12) (spec_Duty.j5 (k + 1) y0 y1 y2 y3 y4 y5 y6 y7 y8 y9 y10 y11 y12)) ∧ (∀ y0 y1 y2 y3 y4 y5 y6 y7 y8 y9 y10 y11 y12 y13 y14, LeO (spec_Duty.j1 k y0 y1 y2 y3 y4 y5 y6 y7 y8 y9 y10 y11 y12 y13 y14) (spec_Duty.j1 (k + 1) y0 y1 y2 y3 y4 y5 y6 y7 y8 y9 y10 y11 y12 y13 y14)) ∧ (∀ y0 y1 y2 y3 y4 y5 y6 y7 y8 y9 y10 y11 y12, LeO (spec_Duty.j2 k y0 y1 y2 y3 y4 y5 y6 y7 y8 y9 y10 y11 y12) (spec_Duty.j2 (k + 1) y0 y1 y2 y3 y4 y5 y6 y7 y8 y9 y10 y11 y12))
 | 0 => ⟨fun _ _ _ _ _ _ _ _ _ _ _ _ _ r h => by simp [spec_Duty.j0] at h, fun _ _ _ _ _ _ _ _ _ _ _ _ r h => by simp [spec_Duty.j3] at h, fun _ _ _ _ _ _ _ _ _ _ _ _ _ _ _ r h => by simp [spec_Duty.j4] at h, fun _ _ _ _ _ _ _ _ _ _ _ _ _ r h => by simp [spec_Duty.j5] at h, fun _ _ _ _ _ _ _ _ _ _ _ _ _ _ _ r h => by simp [spec_Duty.j1] at h, fun _ _ _ _ _ _ _ _ _ _ _ _ _ r h => by simp [spec_Duty.j2] at h⟩
 | k + 1 => by
  obtain ⟨ih0, ih1, ih2, ih3, ih4, ih5⟩ := spec_Duty.mono_l k
  refine ⟨?_, ?_, ?_, ?_, ?_, ?_⟩
  ·intro y0 y1 y2 y3 y4 y5 y6 y7 y8 y9 y10 y11 y12
   unfold spec_Duty.j0
   repeat' first
   | (with_reducible exact ih0 _ _ _ _ _ _ _ _ _ _ _ _ _)
   | (with_reducible exact ih1 _ _ _ _ _ _ _ _ _ _ _ _)
   | (with_reducible exact ih2 _ _ _ _ _ _ _ _ _ _ _ _ _ _ _)
   | (with_reducible exact ih3 _ _ _ _ _ _ _ _ _ _ _ _ _)
   | (with_reducible exact ih4 _ _ _ _ _ _ _ _ _ _ _ _ _ _ _)
   | (with_reducible exact ih5 _ _ _ _ _ _ _ _ _ _ _ _ _)
   | (with_reducible exact spec_Behind.mono _ _ _ _ _ _ _ _ _ _ _ _ _)
   | (with_reducible exact spec_HeadOn.mono _ _ _ _ _ _ _ _ _ _ _ _ _)
   | (with_reducible exact LeO.refl _)
   | (with_reducible exact LeO.none _)
   | (with_reducible refine LeO.ite ?_ ?_)
   | (with_reducible refine LeO.bind ?_ (fun _ => ?_))
   | exact ih0 _ _ _ _ _ _ _ _ _ _ _ _ _
   | exact ih1 _ _ _ _ _ _ _ _ _ _ _ _
   | exact ih2 _ _ _ _ _ _ _ _ _ _ _ _ _ _ _
   | exact ih3 _ _ _ _ _ _ _ _ _ _ _ _ _
   | exact ih4 _ _ _ _ _ _ _ _ _ _ _ _ _ _ _
   | exact ih5 _ _ _ _ _ _ _ _ _ _ _ _ _
   | exact spec_Behind.mono _ _ _ _ _ _ _ _ _ _ _ _ _
   | exact spec_HeadOn.mono _ _ _ _ _ _ _ _ _ _ _ _ _
   | exact LeO.none _
   | refine LeO.ite ?_ ?_
   | refine LeO.bind ?_ (fun _ => ?_)
  ·intro y0 y1 y2 y3 y4 y5 y6 y7 y8 y9 y10 y11
   unfold spec_Duty.j3
   repeat' first
   | (with_reducible exact ih0 _ _ _ _ _ _ _ _ _ _ _ _ _)
   | (with_reducible exact ih1 _ _ _ _ _ _ _ _ _ _ _ _)
   | (with_reducible exact ih2 _ _ _ _ _ _ _ _ _ _ _ _ _ _ _)
   | (with_reducible exact ih3 _ _ _ _ _ _ _ _ _ _ _ _ _)
   | (with_reducible exact ih4 _ _ _ _ _ _ _ _ _ _ _ _ _ _ _)
   | (with_reducible exact ih5 _ _ _ _ _ _ _ _ _ _ _ _ _)
   | (with_reducible exact spec_Behind.mono _ _ _ _ _ _ _ _ _ _ _ _ _)
   | (with_reducible exact spec_HeadOn.mono _ _ _ _ _ _ _ _ _ _ _ _ _)
   | (with_reducible exact LeO.refl _)
   | (with_reducible exact LeO.none _)
   | (with_reducible refine LeO.ite ?_ ?_)
   | (with_reducible refine LeO.bind ?_ (fun _ => ?_))
   | exact ih0 _ _ _ _ _ _ _ _ _ _ _ _ _
   | exact ih1 _ _ _ _ _ _ _ _ _ _ _ _
   | exact ih2 _ _ _ _ _ _ _ _ _ _ _ _ _ _ _
   | exact ih3 _ _ _ _ _ _ _ _ _ _ _ _ _
   | exact ih4 _ _ _ _ _ _ _ _ _ _ _ _ _ _ _
   | exact ih5 _ _ _ _ _ _ _ _ _ _ _ _ _
   | exact spec_Behind.mono _ _ _ _ _ _ _ _ _ _ _ _ _
   | exact spec_HeadOn.mono _ _ _ _ _ _ _ _ _ _ _ _ _
   | exact LeO.none _
   | refine LeO.ite ?_ ?_
   | refine LeO.bind ?_ (fun _ => ?_)
  ·intro y0 y1 y2 y3 y4 y5 y6 y7 y8 y9 y10 y11 y12 y13 y14
   unfold spec_Duty.j4
   repeat' first
   | (with_reducible exact ih0 _ _ _ _ _ _ _ _ _ _ _ _ _)
   | (with_reducible exact ih1 _ _ _ _ _ _ _ _ _ _ _ _)
   | (with_reducible exact ih2 _ _ _ _ _ _ _ _ _ _ _ _ _ _ _)
   | (with_reducible exact ih3 _ _ _ _ _ _ _ _ _ _ _ _ _)
   | (with_reducible exact ih4 _ _ _ _ _ _ _ _ _ _ _ _ _ _ _)
   | (with_reducible exact ih5 _ _ _ _ _ _ _ _ _ _ _ _ _)
   | (with_reducible exact spec_Behind.mono _ _ _ _ _ _ _ _ _ _ _ _ _)
   | (with_reducible exact spec_HeadOn.mono _ _ _ _ _ _ _ _ _ _ _ _ _)
   | (with_reducible exact LeO.refl _)
   | (with_reducible exact LeO.none _)
   | (with_reducible refine LeO.ite ?_ ?_)
   | (with_reducible refine LeO.bind ?_ (fun _ => ?_))
   | exact ih0 _ _ _ _ _ _ _ _ _ _ _ _ _
   | exact ih1 _ _ _ _ _ _ _ _ _ _ _ _
   | exact ih2 _ _ _ _ _ _ _ _ _ _ _ _ _ _ _
   | exact ih3 _ _ _ _ _ _ _ _ _ _ _ _ _
   | exact ih4 _ _ _ _ _ _ _ _ _ _ _ _ _ _ _
   | exact ih5 _ _ _ _ _ _ _ _ _ _ _ _ _
   | exact spec_Behind.mono _ _ _ _ _ _ _ _ _ _ _ _ _
   | exact spec_HeadOn.mono _ _ _ _ _ _ _ _ _ _ _ _ _
   | exact LeO.none _
   | refine LeO.ite ?_ ?_
   | refine LeO.bind ?_ (fun _ => ?_)
  ·intro y0 y1 y2 y3 y4 y5 y6 y7 y8 y9 y10 y11 y12
   unfold spec_Duty.j5
   repeat' first
   | (with_reducible exact ih0 _ _ _ _ _ _ _ _ _ _ _ _ _)
   | (with_reducible exact ih1 _ _ _ _ _ _ _ _ _ _ _ _)
   | (with_reducible exact ih2 _ _ _ _ _ _ _ _ _ _ _ _ _ _ _)
   | (with_reducible exact ih3 _ _ _ _ _ _ _ _ _ _ _ _ _)
   | (with_reducible exact ih4 _ _ _ _ _ _ _ _ _ _ _ _ _ _ _)
   | (with_reducible exact ih5 _ _ _ _ _ _ _ _ _ _ _ _ _)
   | (with_reducible exact spec_Behind.mono _ _ _ _ _ _ _ _ _ _ _ _ _)
   | (with_reducible exact spec_HeadOn.mono _ _ _ _ _ _ _ _ _ _ _ _ _)
   | (with_reducible exact LeO.refl _)
   | (with_reducible exact LeO.none _)
   | (with_reducible refine LeO.ite ?_ ?_)
   | (with_reducible refine LeO.bind ?_ (fun _ => ?_))
   | exact ih0 _ _ _ _ _ _ _ _ _ _ _ _ _
   | exact ih1 _ _ _ _ _ _ _ _ _ _ _ _
   | exact ih2 _ _ _ _ _ _ _ _ _ _ _ _ _ _ _
   | exact ih3 _ _ _ _ _ _ _ _ _ _ _ _ _
   | exact ih4 _ _ _ _ _ _ _ _ _ _ _ _ _ _ _
   | exact ih5 _ _ _ _ _ _ _ _ _ _ _ _ _
   | exact spec_Behind.mono _ _ _ _ _ _ _ _ _ _ _ _ _
   | exact spec_HeadOn.mono _ _ _ _ _ _ _ _ _ _ _ _ _
   | exact LeO.none _
   | refine LeO.ite ?_ ?_
   | refine LeO.bind ?_ (fun _ => ?_)
  ·intro y0 y1 y2 y3 y4 y5 y6 y7 y8 y9 y10 y11 y12 y13 y14
   unfold spec_Duty.j1
   repeat' first
   | (with_reducible exact ih0 _ _ _ _ _ _ _ _ _ _ _ _ _)
   | (with_reducible exact ih1 _ _ _ _ _ _ _ _ _ _ _ _)
   | (with_reducible exact ih2 _ _ _ _ _ _ _ _ _ _ _ _ _ _ _)
   | (with_reducible exact ih3 _ _ _ _ _ _ _ _ _ _ _ _ _)
   | (with_reducible exact ih4 _ _ _ _ _ _ _ _ _ _ _ _ _ _ _)
   | (with_reducible exact ih5 _ _ _ _ _ _ _ _ _ _ _ _ _)
   | (with_reducible exact spec_Behind.mono _ _ _ _ _ _ _ _ _ _ _ _ _)
   | (with_reducible exact spec_HeadOn.mono _ _ _ _ _ _ _ _ _ _ _ _ _)
   | (with_reducible exact LeO.refl _)
   | (with_reducible exact LeO.none _)
   | (with_reducible refine LeO.ite ?_ ?_)
   | (with_reducible refine LeO.bind ?_ (fun _ => ?_))
   | exact ih0 _ _ _ _ _ _ _ _ _ _ _ _ _
   | exact ih1 _ _ _ _ _ _ _ _ _ _ _ _
   | exact ih2 _ _ _ _ _ _ _ _ _ _ _ _ _ _ _
   | exact ih3 _ _ _ _ _ _ _ _ _ _ _ _ _
   | exact ih4 _ _ _ _ _ _ _ _ _ _ _ _ _ _ _
   | exact ih5 _ _ _ _ _ _ _ _ _ _ _ _ _
   | exact spec_Behind.mono _ _ _ _ _ _ _ _ _ _ _ _ _
   | exact spec_HeadOn.mono _ _ _ _ _ _ _ _ _ _ _ _ _
   | exact LeO.none _
   | refine LeO.ite ?_ ?_
   | refine LeO.bind ?_ (fun _ => ?_)
  ·intro y0 y1 y2 y3 y4 y5 y6 y7 y8 y9 y10 y11 y12
   unfold spec_Duty.j2
   repeat' first
   | (with_reducible exact ih0 _ _ _ _ _ _ _ _ _ _ _ _ _)
   | (with_reducible exact ih1 _ _ _ _ _ _ _ _ _ _ _ _)
   | (with_reducible exact ih2 _ _ _ _ _ _ _ _ _ _ _ _ _ _ _)
   | (with_reducible exact ih3 _ _ _ _ _ _ _ _ _ _ _ _ _)
   | (with_reducible exact ih4 _ _ _ _ _ _ _ _ _ _ _ _ _ _ _)
   | (with_reducible exact ih5 _ _ _ _ _ _ _ _ _ _ _ _ _)
   | (with_reducible exact spec_Behind.mono _ _ _ _ _ _ _ _ _ _ _ _ _)
   | (with_reducible exact spec_HeadOn.mono _ _ _ _ _ _ _ _ _ _ _ _ _)
   | (with_reducible exact LeO.refl _)
   | (with_reducible exact LeO.none _)
   | (with_reducible refine LeO.ite ?_ ?_)
   | (with_reducible refine LeO.bind ?_ (fun _ => ?_))
   | exact ih0 _ _ _ _ _ _ _ _ _ _ _ _ _
   | exact ih1 _ _ _ _ _ _ _ _ _ _ _ _
   | exact ih2 _ _ _ _ _ _ _ _ _ _ _ _ _ _ _
   | exact ih3 _ _ _ _ _ _ _ _ _ _ _ _ _
   | exact ih4 _ _ _ _ _ _ _ _ _ _ _ _ _ _ _
   | exact ih5 _ _ _ _ _ _ _ _ _ _ _ _ _
   | exact spec_Behind.mono _ _ _ _ _ _ _ _ _ _ _ _ _
   | exact spec_HeadOn.mono _ _ _ _ _ _ _ _ _ _ _ _ _
   | exact LeO.none _
   | refine LeO.ite ?_ ?_
   | refine LeO.bind ?_ (fun _ => ?_)
theorem spec_Duty.mono : ∀ a0 a1 a2 a3 a4 a5 a6 a7 a8 a9 a10 a11 k, LeO (spec_Duty.f k a0 a1 a2 a3 a4 a5 a6 a7 a8 a9 a10 a11) (spec_Duty.f (k + 1) a0 a1 a2 a3 a4 a5 a6 a7 a8 a9 a10 a11) := by
 intro a0 a1 a2 a3 a4 a5 a6 a7 a8 a9 a10 a11 k
 obtain ⟨ih0, ih1, ih2, ih3, ih4, ih5⟩ := spec_Duty.mono_l k
 unfold spec_Duty.f
 repeat' first
   | (with_reducible exact ih0 _ _ _ _ _ _ _ _ _ _ _ _ _)
   | (with_reducible exact ih1 _ _ _ _ _ _ _ _ _ _ _ _)
   | (with_reducible exact ih2 _ _ _ _ _ _ _ _ _ _ _ _ _ _ _)
   | (with_reducible exact ih3 _ _ _ _ _ _ _ _ _ _ _ _ _)
   | (with_reducible exact ih4 _ _ _ _ _ _ _ _ _ _ _ _ _ _ _)
   | (with_reducible exact ih5 _ _ _ _ _ _ _ _ _ _ _ _ _)
   | (with_reducible exact spec_Behind.mono _ _ _ _ _ _ _ _ _ _ _ _ _)
   | (with_reducible exact spec_HeadOn.mono _ _ _ _ _ _ _ _ _ _ _ _ _)
   | (with_reducible exact LeO.refl _)
   | (with_reducible exact LeO.none _)
   | (with_reducible refine LeO.ite ?_ ?_)
   | (with_reducible refine LeO.bind ?_ (fun _ => ?_))
   | exact ih0 _ _ _ _ _ _ _ _ _ _ _ _ _
   | exact ih1 _ _ _ _ _ _ _ _ _ _ _ _
   | exact ih2 _ _ _ _ _ _ _ _ _ _ _ _ _ _ _
   | exact ih3 _ _ _ _ _ _ _ _ _ _ _ _ _
   | exact ih4 _ _ _ _ _ _ _ _ _ _ _ _ _ _ _
   | exact ih5 _ _ _ _ _ _ _ _ _ _ _ _ _
   | exact spec_Behind.mono _ _ _ _ _ _ _ _ _ _ _ _ _
   | exact spec_HeadOn.mono _ _ _ _ _ _ _ _ _ _ _ _ _
   | exact LeO.none _
   | refine LeO.ite ?_ ?_
   | refine LeO.bind ?_ (fun _ => ?_)
def spec_Duty.T6 : Bool × List (List Nat × List Nat) := (true, [([], []), ([], []), ([0, 1], [0, 1]), ([], []), ([], []), ([3, 4, 2], [3, 4]), ([2, 5, 0, 1, 2], [2]), ([5, 6, 0, 1, 2, 3, 4, 5, 6], [5])])
def spec_Duty.B6 : List Nat := [0, 0, 3, 0, 0, 31, 63, 127]
theorem spec_Duty.tab6 : rtab .any (opsOf Try.f45 6) = spec_Duty.T6 := by kernel_rfl
theorem spec_Duty.bits6 : waitsOk spec_Duty.T6.2 spec_Duty.B6 = true := by kernel_rfl
set_option maxHeartbeats 8000000 in
set_option maxRecDepth 100000 in
theorem spec_Duty.calls (k : Nat) (a0_0 : Int) (a0_1 : Int) (a0_2 : Int) (a0_3 : Int) (a0_4 : Int) (a0_5 : Int) (a1_0 : Int) (a1_1 : Int) (a1_2 : Int) (a1_3 : Int) (a1_4 : Int) (a1_5 : Int) (r : Int) (w : World) (h : spec_Duty.f k a0_0 a0_1 a0_2 a0_3 a0_4 a0_5 a1_0 a1_1 a1_2 a1_3 a1_4 a1_5 = some r) :
  Calls Try.prog 45 #[.agg #[.int .i64 a0_0, .int .i64 a0_1, .int .i64 a0_2, .int .i64 a0_3, .int .i64 a0_4, .int .i64 a0_5], .agg #[.int .i64 a1_0, .int .i64 a1_1, .int .i64 a1_2, .int .i64 a1_3, .int .i64 a1_4, .int .i64 a1_5]] w fun e w' => e = .returned (.int .i64 r) ∧ Below w.heap.size w w' := by
 have hu25 := Try.underlying25
 have hu83 := Try.underlying83
 have HB := Aside0.mk (Below.refl w.heap.size w)
 have H : ((spec_ShipOk.f a0_0 a0_1 a0_2 a0_3 a0_4 a0_5).bind fun t190 => (if t190 = true then ((spec_ShipOk.f a1_0 a1_1 a1_2 a1_3 a1_4 a1_5).bind fun t191 => (spec_Duty.j0 k (!t191) a0_0 a0_1 a0_2 a0_3 a0_4 a0_5 a1_0 a1_1 a1_2 a1_3 a1_4 a1_5)) else (spec_Duty.j0 k true a0_0 a0_1 a0_2 a0_3 a0_4 a0_5 a1_0 a1_1 a1_2 a1_3 a1_4 a1_5))) = some r := h
 clear h
 have HC3 := Aside0.mk H
 clear H
 go_enter Try.func45, Try.ntmps45
 go_upto_region 1 with (first | ((with_reducible refine gate_dst (N := 2) rfl ?_); refine box_event ?hg (N := 2) ?hd (cs := #[.int .i64 a0_0, .int .i64 a0_1, .int .i64 a0_2, .int .i64 a0_3, .int .i64 a0_4, .int .i64 a0_5]) (t := 25) ?hr ?_; (case hd => rfl); (case hg => rfl); (case hr => first | (go_simp; done) | (go_simp; rfl)); intro gb188 hg w1 hbox hb; have n0_ := Aside0.mk (below_step (by repeat (first | (with_reducible first | exact HB.out | apply below_alloc | apply pw_below_drewN | apply below_drew1) | exact HB.out)) hb); have n1_ := Aside0.mk (hbox); have n2_ := Aside0.mk (ns hg (by repeat (first | (with_reducible first | exact HB.out | apply below_alloc | apply pw_below_drewN | apply below_drew1) | exact HB.out)) : w.heap.size ≤ gb188); have n3_ := Aside0.mk (ns hg (by repeat (first | (with_reducible first | exact HB.out | apply below_alloc | apply pw_below_drewN | apply below_drew1) | exact HB.out)) : w.heap.size ≤ gb188); clear HB; have HB := n0_; have BK188 := n1_; have GW188 := n2_; have GE188 := n3_; clear n0_ n1_ n2_ n3_; clear hb hbox hg) | ((with_reducible refine gate_dst (N := 3) rfl ?_); refine box_event ?hg (N := 3) ?hd (cs := #[.int .i64 a1_0, .int .i64 a1_1, .int .i64 a1_2, .int .i64 a1_3, .int .i64 a1_4, .int .i64 a1_5]) (t := 25) ?hr ?_; (case hd => rfl); (case hg => rfl); (case hr => first | (go_simp; done) | (go_simp; rfl)); intro gb189 hg w2 hbox hb; have n0_ := Aside0.mk (bb (zk BK188.out) hb); have n1_ := Aside0.mk (below_step (by repeat (first | (with_reducible first | exact HB.out | apply below_alloc | apply pw_below_drewN | apply below_drew1 | refine below_set ?_ GE188.out) | exact HB.out)) hb); have n2_ := Aside0.mk (hbox); have n3_ := Aside0.mk (ns hg (by repeat (first | (with_reducible first | exact HB.out | apply below_alloc | apply pw_below_drewN | apply below_drew1 | refine below_set ?_ GE188.out) | exact HB.out)) : w.heap.size ≤ gb189); have n4_ := Aside0.mk (ns hg (by repeat (first | (with_reducible first | exact HB.out | apply below_alloc | apply pw_below_drewN | apply below_drew1 | refine below_set ?_ GE188.out) | exact HB.out)) : w.heap.size ≤ gb189); have n5_ := Aside0.mk ((nlt hg (zk BK188.out) : gb188 ≠ gb189)); have n6_ := Aside0.mk ((ngt hg (zk BK188.out) : gb189 ≠ gb188)); clear BK188; clear HB; have BK188 := n0_; have HB := n1_; have BK189 := n2_; have GW189 := n3_; have GE189 := n4_; have NB188_189 := n5_; have NB189_188 := n6_; clear n0_ n1_ n2_ n3_ n4_ n5_ n6_; clear hb hbox hg))
 (try simp only [Act.put, List.setIfInBounds_toArray, List.set_cons_zero, List.set_cons_succ])
 go_cut [15] (fun v15 wc => ∃ (kq : Nat) (x15_2 : Bool), v15 = .bool x15_2 ∧ Aside0 (spec_Duty.j0 kq x15_2 a0_0 a0_1 a0_2 a0_3 a0_4 a0_5 a1_0 a1_1 a1_2 a1_3 a1_4 a1_5 = some r) ∧ Aside0 (kq ≤ k) ∧ Aside0 (wc.heap[gb188]? = some (.cells #[.int .i64 a0_0, .int .i64 a0_1, .int .i64 a0_2, .int .i64 a0_3, .int .i64 a0_4, .int .i64 a0_5] 25 (0, 0))) ∧ Aside0 (wc.heap[gb189]? = some (.cells #[.int .i64 a1_0, .int .i64 a1_1, .int .i64 a1_2, .int .i64 a1_3, .int .i64 a1_4, .int .i64 a1_5] 25 (0, 0))) ∧ Aside0 (Below w.heap.size w wc))
 case first =>
  have H := HC3.out
  clear HC3
  replace H := Option.bind_eq_some_iff.mp H
  obtain ⟨t190, A60, H⟩ := H
  replace H : (if t190 = true then ((spec_ShipOk.f a1_0 a1_1 a1_2 a1_3 a1_4 a1_5).bind fun t191 => (spec_Duty.j0 k (!t191) a0_0 a0_1 a0_2 a0_3 a0_4 a0_5 a1_0 a1_1 a1_2 a1_3 a1_4 a1_5)) else (spec_Duty.j0 k true a0_0 a0_1 a0_2 a0_3 a0_4 a0_5 a1_0 a1_1 a1_2 a1_3 a1_4 a1_5)) = some r := H
  have A6 := Aside0.mk A60
  clear A60
  by_cases c7 : t190 = true
  ·subst c7
   have H1 : ((spec_ShipOk.f a1_0 a1_1 a1_2 a1_3 a1_4 a1_5).bind fun t191 => (spec_Duty.j0 k (!t191) a0_0 a0_1 a0_2 a0_3 a0_4 a0_5 a1_0 a1_1 a1_2 a1_3 a1_4 a1_5)) = some r := by rw [if_pos rfl] at H; exact H
   clear H
   have H := H1
   clear H1
   replace H := Option.bind_eq_some_iff.mp H
   obtain ⟨t191, A80, H⟩ := H
   replace H : (spec_Duty.j0 k (!t191) a0_0 a0_1 a0_2 a0_3 a0_4 a0_5 a1_0 a1_1 a1_2 a1_3 a1_4 a1_5) = some r := H
   have A8 := Aside0.mk A80
   clear A80
   have H' := Aside0.mk H
   clear H
   have hnb9 := NB188_189.out
   have hnc9 := NB189_188.out
   have hcz10_0 : w2.cell? ⟨gb188, 0, none⟩ = some (.int .i64 a0_0) := bc BK188.out 0
   have hcz10_1 : w2.cell? ⟨gb188, 1, none⟩ = some (.int .i64 a0_1) := bc BK188.out 1
   have hcz10_2 : w2.cell? ⟨gb188, 2, none⟩ = some (.int .i64 a0_2) := bc BK188.out 2
   have hcz10_3 : w2.cell? ⟨gb188, 3, none⟩ = some (.int .i64 a0_3) := bc BK188.out 3
   have hcz10_4 : w2.cell? ⟨gb188, 4, none⟩ = some (.int .i64 a0_4) := bc BK188.out 4
   have hcz10_5 : w2.cell? ⟨gb188, 5, none⟩ = some (.int .i64 a0_5) := bc BK188.out 5
   have hfz10_0 := blk_frozen BK188.out 0
   have hfz10_1 := blk_frozen BK188.out 1
   have hfz10_2 := blk_frozen BK188.out 2
   have hfz10_3 := blk_frozen BK188.out 3
   have hfz10_4 := blk_frozen BK188.out 4
   have hfz10_5 := blk_frozen BK188.out 5
   go_wp2_with (first | ((with_reducible refine gate_callee (f := 15) rfl ?_); refine goesL_ (some 9) rfl rfl Try.func15 (by kernel_rfl) rfl #[.agg #[.int .i64 a0_0, .int .i64 a0_1, .int .i64 a0_2, .int .i64 a0_3, .int .i64 a0_4, .int .i64 a0_5]] rfl s6_2 ?_; (with_reducible refine (spec_ShipOk.calls a0_0 a0_1 a0_2 a0_3 a0_4 a0_5 true _ A6.out).mono ?_); rintro e w3 ⟨rfl, hb⟩; refine ⟨_, rfl, ?_⟩; have n0_ := Aside0.mk (bb (zk BK188.out) hb); have n1_ := Aside0.mk (bb (zk BK189.out) hb); have n2_ := Aside0.mk (below_step s6_1 hb); clear BK188; clear BK189; clear HB; have BK188 := n0_; have BK189 := n1_; have HB := n2_; clear n0_ n1_ n2_; (try clear hb); (try clear hb2); (try clear hk); (try clear hi); have hcz12_0 : w3.cell? ⟨gb189, 0, none⟩ = some (.int .i64 a1_0) := bc BK189.out 0; have hcz12_1 : w3.cell? ⟨gb189, 1, none⟩ = some (.int .i64 a1_1) := bc BK189.out 1; have hcz12_2 : w3.cell? ⟨gb189, 2, none⟩ = some (.int .i64 a1_2) := bc BK189.out 2; have hcz12_3 : w3.cell? ⟨gb189, 3, none⟩ = some (.int .i64 a1_3) := bc BK189.out 3; have hcz12_4 : w3.cell? ⟨gb189, 4, none⟩ = some (.int .i64 a1_4) := bc BK189.out 4; have hcz12_5 : w3.cell? ⟨gb189, 5, none⟩ = some (.int .i64 a1_5) := bc BK189.out 5; have hfz12_0 := blk_frozen BK189.out 0; have hfz12_1 := blk_frozen BK189.out 1; have hfz12_2 := blk_frozen BK189.out 2; have hfz12_3 := blk_frozen BK189.out 3; have hfz12_4 := blk_frozen BK189.out 4; have hfz12_5 := blk_frozen BK189.out 5) | (go_at_call 15; (with_reducible refine (spec_ShipOk.calls a1_0 a1_1 a1_2 a1_3 a1_4 a1_5 t191 _ A8.out).mono ?_); rintro e w4 ⟨rfl, hb⟩; have n0_ := Aside0.mk (bb (zk BK188.out) hb); have n1_ := Aside0.mk (bb (zk BK189.out) hb); have n2_ := Aside0.mk (below_step s6_1 hb); clear BK188; clear BK189; clear HB; have BK188 := n0_; have BK189 := n1_; have HB := n2_; clear n0_ n1_ n2_; (try clear hb); (try clear hb2); (try clear hk); (try clear hi)))
   go_meet
   case rel => exact ⟨_, (!t191), s6_3, H', ⟨by first | omega | exact Nat.le_refl _⟩, ⟨by (with_reducible repeat (first | refine blk_drewN ?_ _ | refine blk_drew ?_ | refine blk_alloc ?_ _)); exact BK188.out⟩, ⟨by (with_reducible repeat (first | refine blk_drewN ?_ _ | refine blk_drew ?_ | refine blk_alloc ?_ _)); exact BK189.out⟩, ⟨by repeat (first | (with_reducible first | exact HB.out | apply below_alloc | apply pw_below_drewN | apply below_drew1 | refine below_set ?_ GE188.out | refine below_set ?_ GE189.out) | exact HB.out)⟩⟩
  ·replace c7 := Bool.eq_false_iff.mpr c7
   subst c7
   have H1 : (spec_Duty.j0 k true a0_0 a0_1 a0_2 a0_3 a0_4 a0_5 a1_0 a1_1 a1_2 a1_3 a1_4 a1_5) = some r := by rw [if_neg (show ¬ (false = true) by decide)] at H; exact H
   clear H
   have H := H1
   clear H1
   have H' := Aside0.mk H
   clear H
   have hnb14 := NB188_189.out
   have hnc14 := NB189_188.out
   have hcz15_0 : w2.cell? ⟨gb188, 0, none⟩ = some (.int .i64 a0_0) := bc BK188.out 0
   have hcz15_1 : w2.cell? ⟨gb188, 1, none⟩ = some (.int .i64 a0_1) := bc BK188.out 1
   have hcz15_2 : w2.cell? ⟨gb188, 2, none⟩ = some (.int .i64 a0_2) := bc BK188.out 2
   have hcz15_3 : w2.cell? ⟨gb188, 3, none⟩ = some (.int .i64 a0_3) := bc BK188.out 3
   have hcz15_4 : w2.cell? ⟨gb188, 4, none⟩ = some (.int .i64 a0_4) := bc BK188.out 4
   have hcz15_5 : w2.cell? ⟨gb188, 5, none⟩ = some (.int .i64 a0_5) := bc BK188.out 5
   have hfz15_0 := blk_frozen BK188.out 0
   have hfz15_1 := blk_frozen BK188.out 1
   have hfz15_2 := blk_frozen BK188.out 2
   have hfz15_3 := blk_frozen BK188.out 3
   have hfz15_4 := blk_frozen BK188.out 4
   have hfz15_5 := blk_frozen BK188.out 5
   go_wp2_with (first | ((with_reducible refine gate_callee (f := 15) rfl ?_); refine goesL_ (some 9) rfl rfl Try.func15 (by kernel_rfl) rfl #[.agg #[.int .i64 a0_0, .int .i64 a0_1, .int .i64 a0_2, .int .i64 a0_3, .int .i64 a0_4, .int .i64 a0_5]] rfl s6_2 ?_; (with_reducible refine (spec_ShipOk.calls a0_0 a0_1 a0_2 a0_3 a0_4 a0_5 false _ A6.out).mono ?_); rintro e w3 ⟨rfl, hb⟩; refine ⟨_, rfl, ?_⟩; have n0_ := Aside0.mk (bb (zk BK188.out) hb); have n1_ := Aside0.mk (bb (zk BK189.out) hb); have n2_ := Aside0.mk (below_step s6_1 hb); clear BK188; clear BK189; clear HB; have BK188 := n0_; have BK189 := n1_; have HB := n2_; clear n0_ n1_ n2_; (try clear hb); (try clear hb2); (try clear hk); (try clear hi)))
   go_meet
   case rel => exact ⟨_, (true), s6_3, H', ⟨by first | omega | exact Nat.le_refl _⟩, ⟨by (with_reducible repeat (first | refine blk_drewN ?_ _ | refine blk_drew ?_ | refine blk_alloc ?_ _)); exact BK188.out⟩, ⟨by (with_reducible repeat (first | refine blk_drewN ?_ _ | refine blk_drew ?_ | refine blk_alloc ?_ _)); exact BK189.out⟩, ⟨by repeat (first | (with_reducible first | exact HB.out | apply below_alloc | apply pw_below_drewN | apply below_drew1 | refine below_set ?_ GE188.out | refine below_set ?_ GE189.out) | exact HB.out)⟩⟩
 case rest =>
  clear HC3
  (try clear c1); (try clear p2); (try clear c4); (try clear c7); (try clear c9); (try clear c14); (try clear c15); (try clear hcz10_0); (try clear hcz10_1); (try clear hcz10_2); (try clear hcz10_3); (try clear hcz10_4); (try clear hcz10_5); (try clear hcz12_0); (try clear hcz12_1); (try clear hcz12_2); (try clear hcz12_3); (try clear hcz12_4); (try clear hcz12_5); (try clear hcz15_0); (try clear hcz15_1); (try clear hcz15_2); (try clear hcz15_3); (try clear hcz15_4); (try clear hcz15_5); (try clear hfz10_0); (try clear hfz10_1); (try clear hfz10_2); (try clear hfz10_3); (try clear hfz10_4); (try clear hfz10_5); (try clear hfz12_0); (try clear hfz12_1); (try clear hfz12_2); (try clear hfz12_3); (try clear hfz12_4); (try clear hfz12_5); (try clear hfz15_0); (try clear hfz15_1); (try clear hfz15_2); (try clear hfz15_3); (try clear hfz15_4); (try clear hfz15_5)
  obtain ⟨kq, x15_2, rfl, HA, HJ2, BK188, BK189, HB⟩ := hcut
  cases kq with
  | zero => exact absurd HA.out (by simp [spec_Duty.j0])
  | succ kj2 =>
   have H := HA.out
   clear HA
   simp only [spec_Duty.j0] at H
   by_cases c17 : x15_2 = true
   ·subst c17
    have H1 : (some 4) = some r := by rw [if_pos rfl] at H; exact H
    clear H
    have H := H1
    clear H1
    obtain rfl := Option.some.inj H
    go_wp2
    go_ret
    exact ⟨by first | rfl | (simp [errW_none, errW_some] <;> rfl) | (simp [*, errW_none, errW_some] <;> rfl), by repeat (first | (with_reducible first | exact HB.out | apply below_alloc | apply pw_below_drewN | apply below_drew1 | refine below_set ?_ GE188.out | refine below_set ?_ GE189.out) | exact HB.out)⟩
   ·replace c17 := Bool.eq_false_iff.mpr c17
    subst c17
    have H1 : ((spec_l8Bearing.f a0_0 a0_1 a0_2 a0_3 a0_4 a0_5 a1_0 a1_1 a1_2 a1_3 a1_4 a1_5).bind fun bt192 => ((spec_l8Diff.f a0_0 a0_1 a0_2 a0_3 a0_4 a0_5 a1_0 a1_1 a1_2 a1_3 a1_4 a1_5).bind fun bt195 => ((spec_l8Dot.f bt192.1 bt192.2 bt195.1 bt195.2).bind fun t197 => (if t197 ≥ 0 then (some 0) else ((spec_Behind.f kj2 a0_0 a0_1 a0_2 a0_3 a0_4 a0_5 a1_0 a1_1 a1_2 a1_3 a1_4 a1_5).bind fun t198 => ((spec_Behind.f kj2 a1_0 a1_1 a1_2 a1_3 a1_4 a1_5 a0_0 a0_1 a0_2 a0_3 a0_4 a0_5).bind fun t199 => (if t198 = true then (spec_Duty.j1 kj2 t198 t199 (!t199) a0_0 a0_1 a0_2 a0_3 a0_4 a0_5 a1_0 a1_1 a1_2 a1_3 a1_4 a1_5) else (spec_Duty.j1 kj2 t198 t199 false a0_0 a0_1 a0_2 a0_3 a0_4 a0_5 a1_0 a1_1 a1_2 a1_3 a1_4 a1_5)))))))) = some r := by rw [if_neg (show ¬ (false = true) by decide)] at H; exact H
    clear H
    have H := H1
    clear H1
    replace H := Option.bind_eq_some_iff.mp H
    obtain ⟨⟨t192, t193⟩, A180, H⟩ := H
    replace H : ((spec_l8Diff.f a0_0 a0_1 a0_2 a0_3 a0_4 a0_5 a1_0 a1_1 a1_2 a1_3 a1_4 a1_5).bind fun bt195 => ((spec_l8Dot.f t192 t193 bt195.1 bt195.2).bind fun t197 => (if t197 ≥ 0 then (some 0) else ((spec_Behind.f kj2 a0_0 a0_1 a0_2 a0_3 a0_4 a0_5 a1_0 a1_1 a1_2 a1_3 a1_4 a1_5).bind fun t198 => ((spec_Behind.f kj2 a1_0 a1_1 a1_2 a1_3 a1_4 a1_5 a0_0 a0_1 a0_2 a0_3 a0_4 a0_5).bind fun t199 => (if t198 = true then (spec_Duty.j1 kj2 t198 t199 (!t199) a0_0 a0_1 a0_2 a0_3 a0_4 a0_5 a1_0 a1_1 a1_2 a1_3 a1_4 a1_5) else (spec_Duty.j1 kj2 t198 t199 false a0_0 a0_1 a0_2 a0_3 a0_4 a0_5 a1_0 a1_1 a1_2 a1_3 a1_4 a1_5))))))) = some r := H
    have A18 := Aside0.mk A180
    clear A180
    replace H := Option.bind_eq_some_iff.mp H
    obtain ⟨⟨t195, t196⟩, A190, H⟩ := H
    replace H : ((spec_l8Dot.f t192 t193 t195 t196).bind fun t197 => (if t197 ≥ 0 then (some 0) else ((spec_Behind.f kj2 a0_0 a0_1 a0_2 a0_3 a0_4 a0_5 a1_0 a1_1 a1_2 a1_3 a1_4 a1_5).bind fun t198 => ((spec_Behind.f kj2 a1_0 a1_1 a1_2 a1_3 a1_4 a1_5 a0_0 a0_1 a0_2 a0_3 a0_4 a0_5).bind fun t199 => (if t198 = true then (spec_Duty.j1 kj2 t198 t199 (!t199) a0_0 a0_1 a0_2 a0_3 a0_4 a0_5 a1_0 a1_1 a1_2 a1_3 a1_4 a1_5) else (spec_Duty.j1 kj2 t198 t199 false a0_0 a0_1 a0_2 a0_3 a0_4 a0_5 a1_0 a1_1 a1_2 a1_3 a1_4 a1_5)))))) = some r := H
    have A19 := Aside0.mk A190
    clear A190
    replace H := Option.bind_eq_some_iff.mp H
    obtain ⟨t197, A200, H⟩ := H
    replace H : (if t197 ≥ 0 then (some 0) else ((spec_Behind.f kj2 a0_0 a0_1 a0_2 a0_3 a0_4 a0_5 a1_0 a1_1 a1_2 a1_3 a1_4 a1_5).bind fun t198 => ((spec_Behind.f kj2 a1_0 a1_1 a1_2 a1_3 a1_4 a1_5 a0_0 a0_1 a0_2 a0_3 a0_4 a0_5).bind fun t199 => (if t198 = true then (spec_Duty.j1 kj2 t198 t199 (!t199) a0_0 a0_1 a0_2 a0_3 a0_4 a0_5 a1_0 a1_1 a1_2 a1_3 a1_4 a1_5) else (spec_Duty.j1 kj2 t198 t199 false a0_0 a0_1 a0_2 a0_3 a0_4 a0_5 a1_0 a1_1 a1_2 a1_3 a1_4 a1_5))))) = some r := H
    have A20 := Aside0.mk A200
    clear A200
    by_cases c21 : t197 ≥ 0
    ·rw [if_pos c21] at H
     have c21b0 : decide (0 ≤ t197) = true := decide_eq_true c21
     clear c21
     obtain rfl := Option.some.inj H
     have hnb22 := NB188_189.out
     have hnc22 := NB189_188.out
     have hcz23_0 : wc.cell? ⟨gb188, 0, none⟩ = some (.int .i64 a0_0) := bc BK188.out 0
     have hcz23_1 : wc.cell? ⟨gb188, 1, none⟩ = some (.int .i64 a0_1) := bc BK188.out 1
     have hcz23_2 : wc.cell? ⟨gb188, 2, none⟩ = some (.int .i64 a0_2) := bc BK188.out 2
     have hcz23_3 : wc.cell? ⟨gb188, 3, none⟩ = some (.int .i64 a0_3) := bc BK188.out 3
     have hcz23_4 : wc.cell? ⟨gb188, 4, none⟩ = some (.int .i64 a0_4) := bc BK188.out 4
     have hcz23_5 : wc.cell? ⟨gb188, 5, none⟩ = some (.int .i64 a0_5) := bc BK188.out 5
     have hfz23_0 := blk_frozen BK188.out 0
     have hfz23_1 := blk_frozen BK188.out 1
     have hfz23_2 := blk_frozen BK188.out 2
     have hfz23_3 := blk_frozen BK188.out 3
     have hfz23_4 := blk_frozen BK188.out 4
     have hfz23_5 := blk_frozen BK188.out 5
     have hcz24_0 : wc.cell? ⟨gb189, 0, none⟩ = some (.int .i64 a1_0) := bc BK189.out 0
     have hcz24_1 : wc.cell? ⟨gb189, 1, none⟩ = some (.int .i64 a1_1) := bc BK189.out 1
     have hcz24_2 : wc.cell? ⟨gb189, 2, none⟩ = some (.int .i64 a1_2) := bc BK189.out 2
     have hcz24_3 : wc.cell? ⟨gb189, 3, none⟩ = some (.int .i64 a1_3) := bc BK189.out 3
     have hcz24_4 : wc.cell? ⟨gb189, 4, none⟩ = some (.int .i64 a1_4) := bc BK189.out 4
     have hcz24_5 : wc.cell? ⟨gb189, 5, none⟩ = some (.int .i64 a1_5) := bc BK189.out 5
     have hfz24_0 := blk_frozen BK189.out 0
     have hfz24_1 := blk_frozen BK189.out 1
     have hfz24_2 := blk_frozen BK189.out 2
     have hfz24_3 := blk_frozen BK189.out 3
     have hfz24_4 := blk_frozen BK189.out 4
     have hfz24_5 := blk_frozen BK189.out 5
     try go_wp2_with (first | ((with_reducible refine gate_callee (f := 65) rfl ?_); refine goesL_ (some 18) rfl rfl Try.func65 (by kernel_rfl) rfl #[.agg #[.int .i64 a0_0, .int .i64 a0_1, .int .i64 a0_2, .int .i64 a0_3, .int .i64 a0_4, .int .i64 a0_5], .agg #[.int .i64 a1_0, .int .i64 a1_1, .int .i64 a1_2, .int .i64 a1_3, .int .i64 a1_4, .int .i64 a1_5]] rfl s6_2 ?_; (with_reducible refine (spec_l8Bearing.calls a0_0 a0_1 a0_2 a0_3 a0_4 a0_5 a1_0 a1_1 a1_2 a1_3 a1_4 a1_5 t192 t193 _ A18.out).mono ?_); rintro e w3 ⟨rfl, hb⟩; refine ⟨_, rfl, ?_⟩; have n0_ := Aside0.mk (bb (zk BK188.out) hb); have n1_ := Aside0.mk (bb (zk BK189.out) hb); have n2_ := Aside0.mk (below_step s6_1 hb); clear BK188; clear BK189; clear HB; have BK188 := n0_; have BK189 := n1_; have HB := n2_; clear n0_ n1_ n2_; (try clear hb); (try clear hb2); (try clear hk); (try clear hi)) | ((with_reducible refine gate_dst (N := 5) rfl ?_); refine box_event ?hg (N := 5) ?hd (cs := #[.int .i64 0, .int .i64 0]) (t := 83) ?hr ?_; (case hd => rfl); (case hg => rfl); (case hr => first | (go_simp; done) | (go_simp; rfl)); intro gb194 hg w4 hbox hb; have n0_ := Aside0.mk (bb (zk BK188.out) hb); have n1_ := Aside0.mk (bb (zk BK189.out) hb); have n2_ := Aside0.mk (below_step s6_1 hb); have n3_ := Aside0.mk (hbox); have n4_ := Aside0.mk (ns hg s6_1 : w.heap.size ≤ gb194); have n5_ := Aside0.mk (ns hg s6_1 : w.heap.size ≤ gb194); have n6_ := Aside0.mk ((nlt hg (zk BK188.out) : gb188 ≠ gb194)); have n7_ := Aside0.mk ((ngt hg (zk BK188.out) : gb194 ≠ gb188)); have n8_ := Aside0.mk ((nlt hg (zk BK189.out) : gb189 ≠ gb194)); have n9_ := Aside0.mk ((ngt hg (zk BK189.out) : gb194 ≠ gb189)); clear BK188; clear BK189; clear HB; have BK188 := n0_; have BK189 := n1_; have HB := n2_; have BK194 := n3_; have GW194 := n4_; have GE194 := n5_; have NB188_194 := n6_; have NB194_188 := n7_; have NB189_194 := n8_; have NB194_189 := n9_; clear n0_ n1_ n2_ n3_ n4_ n5_ n6_ n7_ n8_ n9_; clear hb hbox hg; have hnb27 := NB194_188.out; have hnc27 := NB188_194.out; have hnb28 := NB194_189.out; have hnc28 := NB189_194.out; have hcz29_0 : w4.cell? ⟨gb194, 0, none⟩ = some (.int .i64 0) := bc BK194.out 0; have hcz29_1 : w4.cell? ⟨gb194, 1, none⟩ = some (.int .i64 0) := bc BK194.out 1; have hfz29_0 := blk_frozen BK194.out 0; have hfz29_1 := blk_frozen BK194.out 1))
     have n0_ : Aside0 (((w4.setCell ⟨gb194, 0, none⟩ (.int .i64 t192)).setCell ⟨gb194, 1, none⟩ (.int .i64 t193)).heap[gb188]? = some (.cells #[.int .i64 a0_0, .int .i64 a0_1, .int .i64 a0_2, .int .i64 a0_3, .int .i64 a0_4, .int .i64 a0_5] 25 (0, 0))) := ⟨by (with_reducible repeat (first | refine blk_drewN ?_ _ | refine blk_drew ?_ | refine blk_alloc ?_ _)); refine blk_far ?_ NB188_194.out _; (with_reducible repeat (first | refine blk_drewN ?_ _ | refine blk_drew ?_ | refine blk_alloc ?_ _)); refine blk_far ?_ NB188_194.out _; (with_reducible repeat (first | refine blk_drewN ?_ _ | refine blk_drew ?_ | refine blk_alloc ?_ _)); exact BK188.out⟩
     have n1_ : Aside0 (((w4.setCell ⟨gb194, 0, none⟩ (.int .i64 t192)).setCell ⟨gb194, 1, none⟩ (.int .i64 t193)).heap[gb189]? = some (.cells #[.int .i64 a1_0, .int .i64 a1_1, .int .i64 a1_2, .int .i64 a1_3, .int .i64 a1_4, .int .i64 a1_5] 25 (0, 0))) := ⟨by (with_reducible repeat (first | refine blk_drewN ?_ _ | refine blk_drew ?_ | refine blk_alloc ?_ _)); refine blk_far ?_ NB189_194.out _; (with_reducible repeat (first | refine blk_drewN ?_ _ | refine blk_drew ?_ | refine blk_alloc ?_ _)); refine blk_far ?_ NB189_194.out _; (with_reducible repeat (first | refine blk_drewN ?_ _ | refine blk_drew ?_ | refine blk_alloc ?_ _)); exact BK189.out⟩
     have n2_ : Aside0 (((w4.setCell ⟨gb194, 0, none⟩ (.int .i64 t192)).setCell ⟨gb194, 1, none⟩ (.int .i64 t193)).heap[gb194]? = some (.cells #[.int .i64 t192, .int .i64 t193] 83 (0, 0))) := ⟨by (with_reducible repeat (first | refine blk_drewN ?_ _ | refine blk_drew ?_ | refine blk_alloc ?_ _)); refine blk_put (cs := #[.int .i64 t192, .int .i64 0]) ?_ 1 _ rfl; (with_reducible repeat (first | refine blk_drewN ?_ _ | refine blk_drew ?_ | refine blk_alloc ?_ _)); refine blk_put (cs := #[.int .i64 0, .int .i64 0]) ?_ 0 _ rfl; (with_reducible repeat (first | refine blk_drewN ?_ _ | refine blk_drew ?_ | refine blk_alloc ?_ _)); exact BK194.out⟩
     have n3_ : Aside0 (Below w.heap.size w ((w4.setCell ⟨gb194, 0, none⟩ (.int .i64 t192)).setCell ⟨gb194, 1, none⟩ (.int .i64 t193))) := ⟨by repeat (first | (with_reducible first | exact HB.out | apply below_alloc | apply pw_below_drewN | apply below_drew1 | refine below_set ?_ GE188.out | refine below_set ?_ GE189.out | refine below_set ?_ GE194.out) | exact HB.out)⟩
     (try clear BK188)
     (try clear BK189)
     (try clear BK194)
     (try clear HB)
     generalize ((w4.setCell ⟨gb194, 0, none⟩ (.int .i64 t192)).setCell ⟨gb194, 1, none⟩ (.int .i64 t193)) = w5 at n0_ n1_ n2_ n3_ ⊢
     have BK188 := n0_
     have BK189 := n1_
     have BK194 := n2_
     have HB := n3_
     clear n0_ n1_ n2_ n3_
     have n0_ := Aside0.mk (blk_drew BK188.out)
     have n1_ := Aside0.mk (blk_drew BK189.out)
     have n2_ := Aside0.mk (blk_drew BK194.out)
     have n3_ := Aside0.mk (below_drew1 HB.out)
     clear BK188 BK189 BK194 HB
     have BK188 := n0_
     have BK189 := n1_
     have BK194 := n2_
     have HB := n3_
     clear n0_ n1_ n2_ n3_
     refine start_ (n := 6) (S := fun w' => w'.cell? ⟨gb194, 0, none⟩ = some (.int .i64 t192) ∧ w'.cell? ⟨gb194, 1, none⟩ = some (.int .i64 t193) ∧ w'.cell? ⟨gb188, 0, none⟩ = some (.int .i64 a0_0) ∧ w'.cell? ⟨gb188, 1, none⟩ = some (.int .i64 a0_1) ∧ w'.cell? ⟨gb188, 2, none⟩ = some (.int .i64 a0_2) ∧ w'.cell? ⟨gb188, 3, none⟩ = some (.int .i64 a0_3) ∧ w'.cell? ⟨gb188, 4, none⟩ = some (.int .i64 a0_4) ∧ w'.cell? ⟨gb188, 5, none⟩ = some (.int .i64 a0_5) ∧ w'.cell? ⟨gb189, 0, none⟩ = some (.int .i64 a1_0) ∧ w'.cell? ⟨gb189, 1, none⟩ = some (.int .i64 a1_1) ∧ w'.cell? ⟨gb189, 2, none⟩ = some (.int .i64 a1_2) ∧ w'.cell? ⟨gb189, 3, none⟩ = some (.int .i64 a1_3) ∧ w'.cell? ⟨gb189, 4, none⟩ = some (.int .i64 a1_4) ∧ w'.cell? ⟨gb189, 5, none⟩ = some (.int .i64 a1_5)) (ds := []) #[false, false, false, false, false, false] (by kernel_rfl) rfl rfl ⟨bc BK194.out 0, bc BK194.out 1, bc BK188.out 0, bc BK188.out 1, bc BK188.out 2, bc BK188.out 3, bc BK188.out 4, bc BK188.out 5, bc BK189.out 0, bc BK189.out 1, bc BK189.out 2, bc BK189.out 3, bc BK189.out 4, bc BK189.out 5⟩ (fun hHeld => ?_)
     generalize w5.drew = w6 at BK188 BK189 BK194 HB hHeld ⊢
     refine take_ (i := 0) (N := some 19) (v := ?_) (a' := ?_) (bz 6 1) rfl rfl (by kernel_rfl) (fun _ _ _ h => h) (Or.inl ⟨by rfl, ?_⟩) hHeld ?_ ?_
     rotate_left
     ·exact t6_1
     rotate_left
     ·exact t6_0
     refine take_ (i := 1) (N := some 20) (v := ?_) (a' := ?_) (bz 6 3) rfl rfl (by kernel_rfl) (fun _ _ _ h => h) (Or.inl ⟨by rfl, ?_⟩) hHeld ?_ ?_
     rotate_left
     ·exact t6_1
     rotate_left
     ·exact t6_0
     refine take_ (i := 2) (N := some 21) (v := ?_) (a' := ?_) (bz 6 7) rfl rfl (by kernel_rfl) (fun _ _ _ h => h) (Or.inl ⟨by rfl, ?_⟩) hHeld ?_ ?_
     rotate_left
     ·exact t6_1
     rotate_left
     ·exact t6_0
     refine one_ (i := 3) (N := some 22) (bz 6 15) rfl rfl (by kernel_rfl) (by decide) (fun K hK => ?_)
     refine goes_ Try.func80 (by kernel_rfl) rfl #[.agg #[.int .i64 a0_0, .int .i64 a0_1, .int .i64 a0_2, .int .i64 a0_3, .int .i64 a0_4, .int .i64 a0_5], .agg #[.int .i64 a1_0, .int .i64 a1_1, .int .i64 a1_2, .int .i64 a1_3, .int .i64 a1_4, .int .i64 a1_5]] (by rfl) rfl rfl s6_2 ?_
     with_reducible refine (spec_l8Diff.calls a0_0 a0_1 a0_2 a0_3 a0_4 a0_5 a1_0 a1_1 a1_2 a1_3 a1_4 a1_5 t195 t196 _ A19.out).mono ?_
     rintro e w7 ⟨rfl, hb⟩
     refine ⟨_, rfl, ?_⟩
     have n0_ := Aside0.mk (bb (zk BK188.out) hb)
     have n1_ := Aside0.mk (bb (zk BK189.out) hb)
     have n2_ := Aside0.mk (bb (zk BK194.out) hb)
     have n3_ := Aside0.mk (below_step s6_0 hb)
     clear BK188 BK189 BK194 HB
     have BK188 := n0_
     have BK189 := n1_
     have BK194 := n2_
     have HB := n3_
     clear n0_ n1_ n2_ n3_
     (try clear hb)
     (try clear hb2)
     (try clear hk)
     (try clear hi)
     refine hK.out _ _ ⟨bc BK194.out 0, bc BK194.out 1, bc BK188.out 0, bc BK188.out 1, bc BK188.out 2, bc BK188.out 3, bc BK188.out 4, bc BK188.out 5, bc BK189.out 0, bc BK189.out 1, bc BK189.out 2, bc BK189.out 3, bc BK189.out 4, bc BK189.out 5⟩ (fun hHeld => ?_)
     clear hK K
     refine norm_ (a' := ?_) ?_ ?_
     rotate_left
     ·show Act.put _ (some 22) _ = _
      simp only [Act.put, y1, y2, y3, i64_w, i32_w]
      rfl
     refine one_ (i := 4) (N := some 23) (bz 6 31) rfl rfl (by kernel_rfl) (by decide) (fun K hK => ?_)
     refine goes_ Try.func68 (by kernel_rfl) rfl #[.agg #[.int .i64 t192, .int .i64 t193], .agg #[.int .i64 t195, .int .i64 t196]] (by rfl) rfl rfl s6_2 ?_
     with_reducible refine (spec_l8Dot.calls t192 t193 t195 t196 t197 _ A20.out).mono ?_
     rintro e w8 ⟨rfl, hb⟩
     refine ⟨_, rfl, ?_⟩
     have n0_ := Aside0.mk (bb (zk BK188.out) hb)
     have n1_ := Aside0.mk (bb (zk BK189.out) hb)
     have n2_ := Aside0.mk (bb (zk BK194.out) hb)
     have n3_ := Aside0.mk (below_step s6_0 hb)
     clear BK188 BK189 BK194 HB
     have BK188 := n0_
     have BK189 := n1_
     have BK194 := n2_
     have HB := n3_
     clear n0_ n1_ n2_ n3_
     (try clear hb)
     (try clear hb2)
     (try clear hk)
     (try clear hi)
     refine hK.out _ _ ⟨bc BK194.out 0, bc BK194.out 1, bc BK188.out 0, bc BK188.out 1, bc BK188.out 2, bc BK188.out 3, bc BK188.out 4, bc BK188.out 5, bc BK189.out 0, bc BK189.out 1, bc BK189.out 2, bc BK189.out 3, bc BK189.out 4, bc BK189.out 5⟩ (fun hHeld => ?_)
     clear hK K
     refine norm_ (a' := ?_) ?_ ?_
     rotate_left
     ·show Act.put _ (some 23) _ = _
      simp only [Act.put, y1, y2, y3, i64_w, i32_w]
      rfl
     refine pure_ (i := 5) (N := some 24) (v := ?_) (a' := ?_) (bz 6 63) rfl rfl (by kernel_rfl) (fun _ _ _ h => h) (Or.inl ⟨by rfl, ?_⟩) ?_ ?_
     rotate_left
     ·intro w'
      go_simp
      with_reducible rfl
     rotate_left
     ·exact t6_0
     refine done_ (by kernel_rfl) ?_
     try go_wp2
     go_ret
     exact ⟨by first | rfl | (simp [errW_none, errW_some] <;> rfl) | (simp [*, errW_none, errW_some] <;> rfl), by repeat (first | (with_reducible first | exact HB.out | apply below_alloc | apply pw_below_drewN | apply below_drew1 | refine below_set ?_ GE188.out | refine below_set ?_ GE189.out | refine below_set ?_ GE194.out) | exact HB.out)⟩
    ·rw [if_neg c21] at H
     have c21b0 : decide (0 ≤ t197) = false := decide_eq_false c21
     clear c21
     replace H := Option.bind_eq_some_iff.mp H
     obtain ⟨t198, A340, H⟩ := H
     replace H : ((spec_Behind.f kj2 a1_0 a1_1 a1_2 a1_3 a1_4 a1_5 a0_0 a0_1 a0_2 a0_3 a0_4 a0_5).bind fun t199 => (if t198 = true then (spec_Duty.j1 kj2 t198 t199 (!t199) a0_0 a0_1 a0_2 a0_3 a0_4 a0_5 a1_0 a1_1 a1_2 a1_3 a1_4 a1_5) else (spec_Duty.j1 kj2 t198 t199 false a0_0 a0_1 a0_2 a0_3 a0_4 a0_5 a1_0 a1_1 a1_2 a1_3 a1_4 a1_5))) = some r := H
     have A34 := Aside0.mk A340
     clear A340
     replace H := Option.bind_eq_some_iff.mp H
     obtain ⟨t199, A350, H⟩ := H
     replace H : (if t198 = true then (spec_Duty.j1 kj2 t198 t199 (!t199) a0_0 a0_1 a0_2 a0_3 a0_4 a0_5 a1_0 a1_1 a1_2 a1_3 a1_4 a1_5) else (spec_Duty.j1 kj2 t198 t199 false a0_0 a0_1 a0_2 a0_3 a0_4 a0_5 a1_0 a1_1 a1_2 a1_3 a1_4 a1_5)) = some r := H
     have A35 := Aside0.mk A350
     clear A350
     have HC36 := Aside0.mk H
     clear H
     have hnb37 := NB188_189.out
     have hnc37 := NB189_188.out
     have hcz38_0 : wc.cell? ⟨gb188, 0, none⟩ = some (.int .i64 a0_0) := bc BK188.out 0
     have hcz38_1 : wc.cell? ⟨gb188, 1, none⟩ = some (.int .i64 a0_1) := bc BK188.out 1
     have hcz38_2 : wc.cell? ⟨gb188, 2, none⟩ = some (.int .i64 a0_2) := bc BK188.out 2
     have hcz38_3 : wc.cell? ⟨gb188, 3, none⟩ = some (.int .i64 a0_3) := bc BK188.out 3
     have hcz38_4 : wc.cell? ⟨gb188, 4, none⟩ = some (.int .i64 a0_4) := bc BK188.out 4
     have hcz38_5 : wc.cell? ⟨gb188, 5, none⟩ = some (.int .i64 a0_5) := bc BK188.out 5
     have hfz38_0 := blk_frozen BK188.out 0
     have hfz38_1 := blk_frozen BK188.out 1
     have hfz38_2 := blk_frozen BK188.out 2
     have hfz38_3 := blk_frozen BK188.out 3
     have hfz38_4 := blk_frozen BK188.out 4
     have hfz38_5 := blk_frozen BK188.out 5
     have hcz39_0 : wc.cell? ⟨gb189, 0, none⟩ = some (.int .i64 a1_0) := bc BK189.out 0
     have hcz39_1 : wc.cell? ⟨gb189, 1, none⟩ = some (.int .i64 a1_1) := bc BK189.out 1
     have hcz39_2 : wc.cell? ⟨gb189, 2, none⟩ = some (.int .i64 a1_2) := bc BK189.out 2
     have hcz39_3 : wc.cell? ⟨gb189, 3, none⟩ = some (.int .i64 a1_3) := bc BK189.out 3
     have hcz39_4 : wc.cell? ⟨gb189, 4, none⟩ = some (.int .i64 a1_4) := bc BK189.out 4
     have hcz39_5 : wc.cell? ⟨gb189, 5, none⟩ = some (.int .i64 a1_5) := bc BK189.out 5
     have hfz39_0 := blk_frozen BK189.out 0
     have hfz39_1 := blk_frozen BK189.out 1
     have hfz39_2 := blk_frozen BK189.out 2
     have hfz39_3 := blk_frozen BK189.out 3
     have hfz39_4 := blk_frozen BK189.out 4
     have hfz39_5 := blk_frozen BK189.out 5
     try go_wp2_with (first | ((with_reducible refine gate_callee (f := 65) rfl ?_); refine goesL_ (some 18) rfl rfl Try.func65 (by kernel_rfl) rfl #[.agg #[.int .i64 a0_0, .int .i64 a0_1, .int .i64 a0_2, .int .i64 a0_3, .int .i64 a0_4, .int .i64 a0_5], .agg #[.int .i64 a1_0, .int .i64 a1_1, .int .i64 a1_2, .int .i64 a1_3, .int .i64 a1_4, .int .i64 a1_5]] rfl s6_2 ?_; (with_reducible refine (spec_l8Bearing.calls a0_0 a0_1 a0_2 a0_3 a0_4 a0_5 a1_0 a1_1 a1_2 a1_3 a1_4 a1_5 t192 t193 _ A18.out).mono ?_); rintro e w3 ⟨rfl, hb⟩; refine ⟨_, rfl, ?_⟩; have n0_ := Aside0.mk (bb (zk BK188.out) hb); have n1_ := Aside0.mk (bb (zk BK189.out) hb); have n2_ := Aside0.mk (below_step s6_1 hb); clear BK188; clear BK189; clear HB; have BK188 := n0_; have BK189 := n1_; have HB := n2_; clear n0_ n1_ n2_; (try clear hb); (try clear hb2); (try clear hk); (try clear hi)) | ((with_reducible refine gate_dst (N := 5) rfl ?_); refine box_event ?hg (N := 5) ?hd (cs := #[.int .i64 0, .int .i64 0]) (t := 83) ?hr ?_; (case hd => rfl); (case hg => rfl); (case hr => first | (go_simp; done) | (go_simp; rfl)); intro gb194 hg w4 hbox hb; have n0_ := Aside0.mk (bb (zk BK188.out) hb); have n1_ := Aside0.mk (bb (zk BK189.out) hb); have n2_ := Aside0.mk (below_step s6_1 hb); have n3_ := Aside0.mk (hbox); have n4_ := Aside0.mk (ns hg s6_1 : w.heap.size ≤ gb194); have n5_ := Aside0.mk (ns hg s6_1 : w.heap.size ≤ gb194); have n6_ := Aside0.mk ((nlt hg (zk BK188.out) : gb188 ≠ gb194)); have n7_ := Aside0.mk ((ngt hg (zk BK188.out) : gb194 ≠ gb188)); have n8_ := Aside0.mk ((nlt hg (zk BK189.out) : gb189 ≠ gb194)); have n9_ := Aside0.mk ((ngt hg (zk BK189.out) : gb194 ≠ gb189)); clear BK188; clear BK189; clear HB; have BK188 := n0_; have BK189 := n1_; have HB := n2_; have BK194 := n3_; have GW194 := n4_; have GE194 := n5_; have NB188_194 := n6_; have NB194_188 := n7_; have NB189_194 := n8_; have NB194_189 := n9_; clear n0_ n1_ n2_ n3_ n4_ n5_ n6_ n7_ n8_ n9_; clear hb hbox hg; have hnb42 := NB194_188.out; have hnc42 := NB188_194.out; have hnb43 := NB194_189.out; have hnc43 := NB189_194.out; have hcz44_0 : w4.cell? ⟨gb194, 0, none⟩ = some (.int .i64 0) := bc BK194.out 0; have hcz44_1 : w4.cell? ⟨gb194, 1, none⟩ = some (.int .i64 0) := bc BK194.out 1; have hfz44_0 := blk_frozen BK194.out 0; have hfz44_1 := blk_frozen BK194.out 1))
     have n0_ : Aside0 (((w4.setCell ⟨gb194, 0, none⟩ (.int .i64 t192)).setCell ⟨gb194, 1, none⟩ (.int .i64 t193)).heap[gb188]? = some (.cells #[.int .i64 a0_0, .int .i64 a0_1, .int .i64 a0_2, .int .i64 a0_3, .int .i64 a0_4, .int .i64 a0_5] 25 (0, 0))) := ⟨by (with_reducible repeat (first | refine blk_drewN ?_ _ | refine blk_drew ?_ | refine blk_alloc ?_ _)); refine blk_far ?_ NB188_194.out _; (with_reducible repeat (first | refine blk_drewN ?_ _ | refine blk_drew ?_ | refine blk_alloc ?_ _)); refine blk_far ?_ NB188_194.out _; (with_reducible repeat (first | refine blk_drewN ?_ _ | refine blk_drew ?_ | refine blk_alloc ?_ _)); exact BK188.out⟩
     have n1_ : Aside0 (((w4.setCell ⟨gb194, 0, none⟩ (.int .i64 t192)).setCell ⟨gb194, 1, none⟩ (.int .i64 t193)).heap[gb189]? = some (.cells #[.int .i64 a1_0, .int .i64 a1_1, .int .i64 a1_2, .int .i64 a1_3, .int .i64 a1_4, .int .i64 a1_5] 25 (0, 0))) := ⟨by (with_reducible repeat (first | refine blk_drewN ?_ _ | refine blk_drew ?_ | refine blk_alloc ?_ _)); refine blk_far ?_ NB189_194.out _; (with_reducible repeat (first | refine blk_drewN ?_ _ | refine blk_drew ?_ | refine blk_alloc ?_ _)); refine blk_far ?_ NB189_194.out _; (with_reducible repeat (first | refine blk_drewN ?_ _ | refine blk_drew ?_ | refine blk_alloc ?_ _)); exact BK189.out⟩
     have n2_ : Aside0 (((w4.setCell ⟨gb194, 0, none⟩ (.int .i64 t192)).setCell ⟨gb194, 1, none⟩ (.int .i64 t193)).heap[gb194]? = some (.cells #[.int .i64 t192, .int .i64 t193] 83 (0, 0))) := ⟨by (with_reducible repeat (first | refine blk_drewN ?_ _ | refine blk_drew ?_ | refine blk_alloc ?_ _)); refine blk_put (cs := #[.int .i64 t192, .int .i64 0]) ?_ 1 _ rfl; (with_reducible repeat (first | refine blk_drewN ?_ _ | refine blk_drew ?_ | refine blk_alloc ?_ _)); refine blk_put (cs := #[.int .i64 0, .int .i64 0]) ?_ 0 _ rfl; (with_reducible repeat (first | refine blk_drewN ?_ _ | refine blk_drew ?_ | refine blk_alloc ?_ _)); exact BK194.out⟩
     have n3_ : Aside0 (Below w.heap.size w ((w4.setCell ⟨gb194, 0, none⟩ (.int .i64 t192)).setCell ⟨gb194, 1, none⟩ (.int .i64 t193))) := ⟨by repeat (first | (with_reducible first | exact HB.out | apply below_alloc | apply pw_below_drewN | apply below_drew1 | refine below_set ?_ GE188.out | refine below_set ?_ GE189.out | refine below_set ?_ GE194.out) | exact HB.out)⟩
     (try clear BK188)
     (try clear BK189)
     (try clear BK194)
     (try clear HB)
     generalize ((w4.setCell ⟨gb194, 0, none⟩ (.int .i64 t192)).setCell ⟨gb194, 1, none⟩ (.int .i64 t193)) = w5 at n0_ n1_ n2_ n3_ ⊢
     have BK188 := n0_
     have BK189 := n1_
     have BK194 := n2_
     have HB := n3_
     clear n0_ n1_ n2_ n3_
     have n0_ := Aside0.mk (blk_drew BK188.out)
     have n1_ := Aside0.mk (blk_drew BK189.out)
     have n2_ := Aside0.mk (blk_drew BK194.out)
     have n3_ := Aside0.mk (below_drew1 HB.out)
     clear BK188 BK189 BK194 HB
     have BK188 := n0_
     have BK189 := n1_
     have BK194 := n2_
     have HB := n3_
     clear n0_ n1_ n2_ n3_
     refine start_ (n := 6) (S := fun w' => w'.cell? ⟨gb194, 0, none⟩ = some (.int .i64 t192) ∧ w'.cell? ⟨gb194, 1, none⟩ = some (.int .i64 t193) ∧ w'.cell? ⟨gb188, 0, none⟩ = some (.int .i64 a0_0) ∧ w'.cell? ⟨gb188, 1, none⟩ = some (.int .i64 a0_1) ∧ w'.cell? ⟨gb188, 2, none⟩ = some (.int .i64 a0_2) ∧ w'.cell? ⟨gb188, 3, none⟩ = some (.int .i64 a0_3) ∧ w'.cell? ⟨gb188, 4, none⟩ = some (.int .i64 a0_4) ∧ w'.cell? ⟨gb188, 5, none⟩ = some (.int .i64 a0_5) ∧ w'.cell? ⟨gb189, 0, none⟩ = some (.int .i64 a1_0) ∧ w'.cell? ⟨gb189, 1, none⟩ = some (.int .i64 a1_1) ∧ w'.cell? ⟨gb189, 2, none⟩ = some (.int .i64 a1_2) ∧ w'.cell? ⟨gb189, 3, none⟩ = some (.int .i64 a1_3) ∧ w'.cell? ⟨gb189, 4, none⟩ = some (.int .i64 a1_4) ∧ w'.cell? ⟨gb189, 5, none⟩ = some (.int .i64 a1_5)) (ds := []) #[false, false, false, false, false, false] (by kernel_rfl) rfl rfl ⟨bc BK194.out 0, bc BK194.out 1, bc BK188.out 0, bc BK188.out 1, bc BK188.out 2, bc BK188.out 3, bc BK188.out 4, bc BK188.out 5, bc BK189.out 0, bc BK189.out 1, bc BK189.out 2, bc BK189.out 3, bc BK189.out 4, bc BK189.out 5⟩ (fun hHeld => ?_)
     generalize w5.drew = w6 at BK188 BK189 BK194 HB hHeld ⊢
     refine take_ (i := 0) (N := some 19) (v := ?_) (a' := ?_) (bz 6 1) rfl rfl (by kernel_rfl) (fun _ _ _ h => h) (Or.inl ⟨by rfl, ?_⟩) hHeld ?_ ?_
     rotate_left
     ·exact t6_1
     rotate_left
     ·exact t6_0
     refine take_ (i := 1) (N := some 20) (v := ?_) (a' := ?_) (bz 6 3) rfl rfl (by kernel_rfl) (fun _ _ _ h => h) (Or.inl ⟨by rfl, ?_⟩) hHeld ?_ ?_
     rotate_left
     ·exact t6_1
     rotate_left
     ·exact t6_0
     refine take_ (i := 2) (N := some 21) (v := ?_) (a' := ?_) (bz 6 7) rfl rfl (by kernel_rfl) (fun _ _ _ h => h) (Or.inl ⟨by rfl, ?_⟩) hHeld ?_ ?_
     rotate_left
     ·exact t6_1
     rotate_left
     ·exact t6_0
     refine one_ (i := 3) (N := some 22) (bz 6 15) rfl rfl (by kernel_rfl) (by decide) (fun K hK => ?_)
     refine goes_ Try.func80 (by kernel_rfl) rfl #[.agg #[.int .i64 a0_0, .int .i64 a0_1, .int .i64 a0_2, .int .i64 a0_3, .int .i64 a0_4, .int .i64 a0_5], .agg #[.int .i64 a1_0, .int .i64 a1_1, .int .i64 a1_2, .int .i64 a1_3, .int .i64 a1_4, .int .i64 a1_5]] (by rfl) rfl rfl s6_2 ?_
     with_reducible refine (spec_l8Diff.calls a0_0 a0_1 a0_2 a0_3 a0_4 a0_5 a1_0 a1_1 a1_2 a1_3 a1_4 a1_5 t195 t196 _ A19.out).mono ?_
     rintro e w7 ⟨rfl, hb⟩
     refine ⟨_, rfl, ?_⟩
     have n0_ := Aside0.mk (bb (zk BK188.out) hb)
     have n1_ := Aside0.mk (bb (zk BK189.out) hb)
     have n2_ := Aside0.mk (bb (zk BK194.out) hb)
     have n3_ := Aside0.mk (below_step s6_0 hb)
     clear BK188 BK189 BK194 HB
     have BK188 := n0_
     have BK189 := n1_
     have BK194 := n2_
     have HB := n3_
     clear n0_ n1_ n2_ n3_
     (try clear hb)
     (try clear hb2)
     (try clear hk)
     (try clear hi)
     refine hK.out _ _ ⟨bc BK194.out 0, bc BK194.out 1, bc BK188.out 0, bc BK188.out 1, bc BK188.out 2, bc BK188.out 3, bc BK188.out 4, bc BK188.out 5, bc BK189.out 0, bc BK189.out 1, bc BK189.out 2, bc BK189.out 3, bc BK189.out 4, bc BK189.out 5⟩ (fun hHeld => ?_)
     clear hK K
     refine norm_ (a' := ?_) ?_ ?_
     rotate_left
     ·show Act.put _ (some 22) _ = _
      simp only [Act.put, y1, y2, y3, i64_w, i32_w]
      rfl
     refine one_ (i := 4) (N := some 23) (bz 6 31) rfl rfl (by kernel_rfl) (by decide) (fun K hK => ?_)
     refine goes_ Try.func68 (by kernel_rfl) rfl #[.agg #[.int .i64 t192, .int .i64 t193], .agg #[.int .i64 t195, .int .i64 t196]] (by rfl) rfl rfl s6_2 ?_
     with_reducible refine (spec_l8Dot.calls t192 t193 t195 t196 t197 _ A20.out).mono ?_
     rintro e w8 ⟨rfl, hb⟩
     refine ⟨_, rfl, ?_⟩
     have n0_ := Aside0.mk (bb (zk BK188.out) hb)
     have n1_ := Aside0.mk (bb (zk BK189.out) hb)
     have n2_ := Aside0.mk (bb (zk BK194.out) hb)
     have n3_ := Aside0.mk (below_step s6_0 hb)
     clear BK188 BK189 BK194 HB
     have BK188 := n0_
     have BK189 := n1_
     have BK194 := n2_
     have HB := n3_
     clear n0_ n1_ n2_ n3_
     (try clear hb)
     (try clear hb2)
     (try clear hk)
     (try clear hi)
     refine hK.out _ _ ⟨bc BK194.out 0, bc BK194.out 1, bc BK188.out 0, bc BK188.out 1, bc BK188.out 2, bc BK188.out 3, bc BK188.out 4, bc BK188.out 5, bc BK189.out 0, bc BK189.out 1, bc BK189.out 2, bc BK189.out 3, bc BK189.out 4, bc BK189.out 5⟩ (fun hHeld => ?_)
     clear hK K
     refine norm_ (a' := ?_) ?_ ?_
     rotate_left
     ·show Act.put _ (some 23) _ = _
      simp only [Act.put, y1, y2, y3, i64_w, i32_w]
      rfl
     refine pure_ (i := 5) (N := some 24) (v := ?_) (a' := ?_) (bz 6 63) rfl rfl (by kernel_rfl) (fun _ _ _ h => h) (Or.inl ⟨by rfl, ?_⟩) ?_ ?_
     rotate_left
     ·intro w'
      go_simp
      with_reducible rfl
     rotate_left
     ·exact t6_0
     refine done_ (by kernel_rfl) ?_
     try go_wp2
     have n0_ := Aside0.mk (blk_drew BK188.out)
     have n1_ := Aside0.mk (blk_drew BK189.out)
     have n2_ := Aside0.mk (blk_drew BK194.out)
     have n3_ := Aside0.mk (below_drew1 HB.out)
     clear BK188 BK189 BK194 HB
     have BK188 := n0_
     have BK189 := n1_
     have BK194 := n2_
     have HB := n3_
     clear n0_ n1_ n2_ n3_
     refine start_ (n := 8) (S := fun w' => w'.cell? ⟨gb188, 0, none⟩ = some (.int .i64 a0_0) ∧ w'.cell? ⟨gb188, 1, none⟩ = some (.int .i64 a0_1) ∧ w'.cell? ⟨gb188, 2, none⟩ = some (.int .i64 a0_2) ∧ w'.cell? ⟨gb188, 3, none⟩ = some (.int .i64 a0_3) ∧ w'.cell? ⟨gb188, 4, none⟩ = some (.int .i64 a0_4) ∧ w'.cell? ⟨gb188, 5, none⟩ = some (.int .i64 a0_5) ∧ w'.cell? ⟨gb189, 0, none⟩ = some (.int .i64 a1_0) ∧ w'.cell? ⟨gb189, 1, none⟩ = some (.int .i64 a1_1) ∧ w'.cell? ⟨gb189, 2, none⟩ = some (.int .i64 a1_2) ∧ w'.cell? ⟨gb189, 3, none⟩ = some (.int .i64 a1_3) ∧ w'.cell? ⟨gb189, 4, none⟩ = some (.int .i64 a1_4) ∧ w'.cell? ⟨gb189, 5, none⟩ = some (.int .i64 a1_5)) (ds := []) #[false, false, false, false, false, false, false, false] (by kernel_rfl) rfl rfl ⟨bc BK188.out 0, bc BK188.out 1, bc BK188.out 2, bc BK188.out 3, bc BK188.out 4, bc BK188.out 5, bc BK189.out 0, bc BK189.out 1, bc BK189.out 2, bc BK189.out 3, bc BK189.out 4, bc BK189.out 5⟩ (fun hHeld => ?_); refine with_tabW spec_Duty.tab6 spec_Duty.bits6 (fun HT_ HW_ => ?_)
     generalize w8.drew = w9 at BK188 BK189 BK194 HB hHeld ⊢
     refine take_ (i := 0) (N := some 25) (v := ?_) (a' := ?_) (bz 8 1) rfl rfl (take_ofW HT_.out HW_.out (by kernel_rfl)) (fun _ _ _ h => h) (Or.inl ⟨by rfl, ?_⟩) hHeld ?_ ?_
     rotate_left
     ·rintro w' ⟨s0, s1, s2, s3, s4, s5, s6, s7, s8, s9, s10, s11⟩
      go_simp
      with_reducible rfl
     rotate_left
     ·exact t6_0
     refine take_ (i := 1) (N := some 26) (v := ?_) (a' := ?_) (bz 8 3) rfl rfl (take_ofW HT_.out HW_.out (by kernel_rfl)) (fun _ _ _ h => h) (Or.inl ⟨by rfl, ?_⟩) hHeld ?_ ?_
     rotate_left
     ·rintro w' ⟨s0, s1, s2, s3, s4, s5, s6, s7, s8, s9, s10, s11⟩
      go_simp
      with_reducible rfl
     rotate_left
     ·exact t6_0
     refine take_ (i := 3) (N := some 28) (v := ?_) (a' := ?_) (bz 8 11) rfl rfl (take_ofW HT_.out HW_.out (by kernel_rfl)) (fun _ _ _ h => h) (Or.inl ⟨by rfl, ?_⟩) hHeld ?_ ?_
     rotate_left
     ·rintro w' ⟨s0, s1, s2, s3, s4, s5, s6, s7, s8, s9, s10, s11⟩
      go_simp
      with_reducible rfl
     rotate_left
     ·exact t6_0
     refine take_ (i := 4) (N := some 29) (v := ?_) (a' := ?_) (bz 8 27) rfl rfl (take_ofW HT_.out HW_.out (by kernel_rfl)) (fun _ _ _ h => h) (Or.inl ⟨by rfl, ?_⟩) hHeld ?_ ?_
     rotate_left
     ·rintro w' ⟨s0, s1, s2, s3, s4, s5, s6, s7, s8, s9, s10, s11⟩
      go_simp
      with_reducible rfl
     rotate_left
     ·exact t6_0
     refine one_ (i := 2) (N := some 27) (bz 8 31) rfl rfl (one_of HT_.out (by kernel_rfl)) (by decide) (fun K hK => ?_)
     refine goes_ Try.func28 (by kernel_rfl) rfl #[.agg #[.int .i64 a0_0, .int .i64 a0_1, .int .i64 a0_2, .int .i64 a0_3, .int .i64 a0_4, .int .i64 a0_5], .agg #[.int .i64 a1_0, .int .i64 a1_1, .int .i64 a1_2, .int .i64 a1_3, .int .i64 a1_4, .int .i64 a1_5]] (by rfl) rfl rfl s6_2 ?_
     with_reducible refine (spec_Behind.calls kj2 a0_0 a0_1 a0_2 a0_3 a0_4 a0_5 a1_0 a1_1 a1_2 a1_3 a1_4 a1_5 t198 _ A34.out).mono ?_
     rintro e w10 ⟨rfl, hb⟩
     refine ⟨_, rfl, ?_⟩
     have n0_ := Aside0.mk (bb (zk BK188.out) hb)
     have n1_ := Aside0.mk (bb (zk BK189.out) hb)
     have n2_ := Aside0.mk (bb (zk BK194.out) hb)
     have n3_ := Aside0.mk (below_step s6_0 hb)
     clear BK188 BK189 BK194 HB
     have BK188 := n0_
     have BK189 := n1_
     have BK194 := n2_
     have HB := n3_
     clear n0_ n1_ n2_ n3_
     (try clear hb)
     (try clear hb2)
     (try clear hk)
     (try clear hi)
     refine hK.out _ _ ⟨bc BK188.out 0, bc BK188.out 1, bc BK188.out 2, bc BK188.out 3, bc BK188.out 4, bc BK188.out 5, bc BK189.out 0, bc BK189.out 1, bc BK189.out 2, bc BK189.out 3, bc BK189.out 4, bc BK189.out 5⟩ (fun hHeld => ?_)
     clear hK K
     refine norm_ (a' := ?_) ?_ ?_
     rotate_left
     ·show Act.put _ (some 27) _ = _
      simp only [Act.put, y1, y2, y3, i64_w, i32_w]
      rfl
     refine one_ (i := 5) (N := some 30) (bz 8 63) rfl rfl (one_of HT_.out (by kernel_rfl)) (by decide) (fun K hK => ?_)
     refine goes_ Try.func28 (by kernel_rfl) rfl #[.agg #[.int .i64 a1_0, .int .i64 a1_1, .int .i64 a1_2, .int .i64 a1_3, .int .i64 a1_4, .int .i64 a1_5], .agg #[.int .i64 a0_0, .int .i64 a0_1, .int .i64 a0_2, .int .i64 a0_3, .int .i64 a0_4, .int .i64 a0_5]] (by rfl) rfl rfl s6_2 ?_
     with_reducible refine (spec_Behind.calls kj2 a1_0 a1_1 a1_2 a1_3 a1_4 a1_5 a0_0 a0_1 a0_2 a0_3 a0_4 a0_5 t199 _ A35.out).mono ?_
     rintro e w11 ⟨rfl, hb⟩
     refine ⟨_, rfl, ?_⟩
     have n0_ := Aside0.mk (bb (zk BK188.out) hb)
     have n1_ := Aside0.mk (bb (zk BK189.out) hb)
     have n2_ := Aside0.mk (bb (zk BK194.out) hb)
     have n3_ := Aside0.mk (below_step s6_0 hb)
     clear BK188 BK189 BK194 HB
     have BK188 := n0_
     have BK189 := n1_
     have BK194 := n2_
     have HB := n3_
     clear n0_ n1_ n2_ n3_
     (try clear hb)
     (try clear hb2)
     (try clear hk)
     (try clear hi)
     refine hK.out _ _ ⟨bc BK188.out 0, bc BK188.out 1, bc BK188.out 2, bc BK188.out 3, bc BK188.out 4, bc BK188.out 5, bc BK189.out 0, bc BK189.out 1, bc BK189.out 2, bc BK189.out 3, bc BK189.out 4, bc BK189.out 5⟩ (fun hHeld => ?_)
     clear hK K
     refine norm_ (a' := ?_) ?_ ?_
     rotate_left
     ·show Act.put _ (some 30) _ = _
      simp only [Act.put, y1, y2, y3, i64_w, i32_w]
      rfl
     refine pure_ (i := 6) (N := some 6) (v := ?_) (a' := ?_) (bz 8 127) rfl rfl (any_of HT_.out (by kernel_rfl)) (fun _ _ _ h => h) (Or.inl ⟨by rfl, ?_⟩) ?_ ?_
     rotate_left
     ·intro w'
      go_simp
      with_reducible rfl
     rotate_left
     ·exact t6_0
     refine pure_ (i := 7) (N := some 7) (v := ?_) (a' := ?_) (bz 8 255) rfl rfl (any_of HT_.out (by kernel_rfl)) (fun _ _ _ h => h) (Or.inl ⟨by rfl, ?_⟩) ?_ ?_
     rotate_left
     ·intro w'
      go_simp
      with_reducible rfl
     rotate_left
     ·exact t6_0
     refine done_ (done_of HT_.out (by kernel_rfl)) ?_
     go_upto_block 0 with (fail)
     go_cut [] (fun wc => ∃ (kq : Nat), Aside0 (spec_Duty.j3 kq a0_0 a0_1 a0_2 a0_3 a0_4 a0_5 a1_0 a1_1 a1_2 a1_3 a1_4 a1_5 = some r) ∧ Aside0 (kq ≤ kj2) ∧ Aside0 (wc.heap[gb188]? = some (.cells #[.int .i64 a0_0, .int .i64 a0_1, .int .i64 a0_2, .int .i64 a0_3, .int .i64 a0_4, .int .i64 a0_5] 25 (0, 0))) ∧ Aside0 (wc.heap[gb189]? = some (.cells #[.int .i64 a1_0, .int .i64 a1_1, .int .i64 a1_2, .int .i64 a1_3, .int .i64 a1_4, .int .i64 a1_5] 25 (0, 0))) ∧ Aside0 (wc.heap[gb194]? = some (.cells #[.int .i64 t192, .int .i64 t193] 83 (0, 0))) ∧ Aside0 (Below w.heap.size w wc))
     case first =>
      have H := HC36.out
      clear HC36
      have HC52 := Aside0.mk H
      clear H
      go_upto_region 7 with (fail)
      go_cut [31] (fun v31 wc => ∃ (kq : Nat) (x31_51 : Bool), v31 = .bool x31_51 ∧ Aside0 (spec_Duty.j1 kq t198 t199 x31_51 a0_0 a0_1 a0_2 a0_3 a0_4 a0_5 a1_0 a1_1 a1_2 a1_3 a1_4 a1_5 = some r) ∧ Aside0 (kq ≤ kj2) ∧ Aside0 (wc.heap[gb188]? = some (.cells #[.int .i64 a0_0, .int .i64 a0_1, .int .i64 a0_2, .int .i64 a0_3, .int .i64 a0_4, .int .i64 a0_5] 25 (0, 0))) ∧ Aside0 (wc.heap[gb189]? = some (.cells #[.int .i64 a1_0, .int .i64 a1_1, .int .i64 a1_2, .int .i64 a1_3, .int .i64 a1_4, .int .i64 a1_5] 25 (0, 0))) ∧ Aside0 (wc.heap[gb194]? = some (.cells #[.int .i64 t192, .int .i64 t193] 83 (0, 0))) ∧ Aside0 (Below w.heap.size w wc))
      case first =>
       have H := HC52.out
       clear HC52
       by_cases c53 : t198 = true
       ·subst c53
        have H1 : (spec_Duty.j1 kj2 true t199 (!t199) a0_0 a0_1 a0_2 a0_3 a0_4 a0_5 a1_0 a1_1 a1_2 a1_3 a1_4 a1_5) = some r := by rw [if_pos rfl] at H; exact H
        clear H
        have H := H1
        clear H1
        have H' := Aside0.mk H
        clear H
        go_wp2
        go_meet
        case rel => exact ⟨_, (!t199), s6_3, H', ⟨by have := HJ2.out; first | omega | exact Nat.le_refl _⟩, ⟨by (with_reducible repeat (first | refine blk_drewN ?_ _ | refine blk_drew ?_ | refine blk_alloc ?_ _)); exact BK188.out⟩, ⟨by (with_reducible repeat (first | refine blk_drewN ?_ _ | refine blk_drew ?_ | refine blk_alloc ?_ _)); exact BK189.out⟩, ⟨by (with_reducible repeat (first | refine blk_drewN ?_ _ | refine blk_drew ?_ | refine blk_alloc ?_ _)); exact BK194.out⟩, ⟨by repeat (first | (with_reducible first | exact HB.out | apply below_alloc | apply pw_below_drewN | apply below_drew1 | refine below_set ?_ GE188.out | refine below_set ?_ GE189.out | refine below_set ?_ GE194.out) | exact HB.out)⟩⟩
       ·replace c53 := Bool.eq_false_iff.mpr c53
        subst c53
        have H1 : (spec_Duty.j1 kj2 false t199 false a0_0 a0_1 a0_2 a0_3 a0_4 a0_5 a1_0 a1_1 a1_2 a1_3 a1_4 a1_5) = some r := by rw [if_neg (show ¬ (false = true) by decide)] at H; exact H
        clear H
        have H := H1
        clear H1
        have H' := Aside0.mk H
        clear H
        go_wp2
        go_meet
        case rel => exact ⟨_, (false), s6_3, H', ⟨by have := HJ2.out; first | omega | exact Nat.le_refl _⟩, ⟨by (with_reducible repeat (first | refine blk_drewN ?_ _ | refine blk_drew ?_ | refine blk_alloc ?_ _)); exact BK188.out⟩, ⟨by (with_reducible repeat (first | refine blk_drewN ?_ _ | refine blk_drew ?_ | refine blk_alloc ?_ _)); exact BK189.out⟩, ⟨by (with_reducible repeat (first | refine blk_drewN ?_ _ | refine blk_drew ?_ | refine blk_alloc ?_ _)); exact BK194.out⟩, ⟨by repeat (first | (with_reducible first | exact HB.out | apply below_alloc | apply pw_below_drewN | apply below_drew1 | refine below_set ?_ GE188.out | refine below_set ?_ GE189.out | refine below_set ?_ GE194.out) | exact HB.out)⟩⟩
      case rest =>
       clear HC52
       (try clear c1); (try clear c2); (try clear p2); (try clear c3); (try clear c4); (try clear c5); (try clear c6); (try clear c7); (try clear c8); (try clear c9); (try clear c14); (try clear c15); (try clear c17); (try clear c21); (try clear c21b0); (try clear c22); (try clear c27); (try clear c28); (try clear c37); (try clear c42); (try clear c43); (try clear c53); (try clear hcz10_0); (try clear hcz10_1); (try clear hcz10_2); (try clear hcz10_3); (try clear hcz10_4); (try clear hcz10_5); (try clear hcz12_0); (try clear hcz12_1); (try clear hcz12_2); (try clear hcz12_3); (try clear hcz12_4); (try clear hcz12_5); (try clear hcz15_0); (try clear hcz15_1); (try clear hcz15_2); (try clear hcz15_3); (try clear hcz15_4); (try clear hcz15_5); (try clear hcz23_0); (try clear hcz23_1); (try clear hcz23_2); (try clear hcz23_3); (try clear hcz23_4); (try clear hcz23_5); (try clear hcz24_0); (try clear hcz24_1); (try clear hcz24_2); (try clear hcz24_3); (try clear hcz24_4); (try clear hcz24_5); (try clear hcz29_0); (try clear hcz29_1); (try clear hcz38_0); (try clear hcz38_1); (try clear hcz38_2); (try clear hcz38_3); (try clear hcz38_4); (try clear hcz38_5); (try clear hcz39_0); (try clear hcz39_1); (try clear hcz39_2); (try clear hcz39_3); (try clear hcz39_4); (try clear hcz39_5); (try clear hcz44_0); (try clear hcz44_1); (try clear hfz10_0); (try clear hfz10_1); (try clear hfz10_2); (try clear hfz10_3); (try clear hfz10_4); (try clear hfz10_5); (try clear hfz12_0); (try clear hfz12_1); (try clear hfz12_2); (try clear hfz12_3); (try clear hfz12_4); (try clear hfz12_5); (try clear hfz15_0); (try clear hfz15_1); (try clear hfz15_2); (try clear hfz15_3); (try clear hfz15_4); (try clear hfz15_5); (try clear hfz23_0); (try clear hfz23_1); (try clear hfz23_2); (try clear hfz23_3); (try clear hfz23_4); (try clear hfz23_5); (try clear hfz24_0); (try clear hfz24_1); (try clear hfz24_2); (try clear hfz24_3); (try clear hfz24_4); (try clear hfz24_5); (try clear hfz29_0); (try clear hfz29_1); (try clear hfz38_0); (try clear hfz38_1); (try clear hfz38_2); (try clear hfz38_3); (try clear hfz38_4); (try clear hfz38_5); (try clear hfz39_0); (try clear hfz39_1); (try clear hfz39_2); (try clear hfz39_3); (try clear hfz39_4); (try clear hfz39_5); (try clear hfz44_0); (try clear hfz44_1); (try clear p2)
       obtain ⟨kq, x31_51, rfl, HA, HJ51, BK188, BK189, BK194, HB⟩ := hcut
       cases kq with
       | zero => exact absurd HA.out (by simp [spec_Duty.j1])
       | succ kj51 =>
        have H := HA.out
        clear HA
        simp only [spec_Duty.j1] at H
        by_cases c54 : x31_51 = true
        ·subst c54
         have H1 : (some 2) = some r := by rw [if_pos rfl] at H; exact H
         clear H
         have H := H1
         clear H1
         obtain rfl := Option.some.inj H
         go_wp2
         go_ret
         exact ⟨by first | rfl | (simp [errW_none, errW_some] <;> rfl) | (simp [*, errW_none, errW_some] <;> rfl), by repeat (first | (with_reducible first | exact HB.out | apply below_alloc | apply pw_below_drewN | apply below_drew1 | refine below_set ?_ GE188.out | refine below_set ?_ GE189.out | refine below_set ?_ GE194.out) | exact HB.out)⟩
        ·replace c54 := Bool.eq_false_iff.mpr c54
         subst c54
         have H1 : (if t199 = true then (spec_Duty.j2 kj51 (!t198) a0_0 a0_1 a0_2 a0_3 a0_4 a0_5 a1_0 a1_1 a1_2 a1_3 a1_4 a1_5) else (spec_Duty.j2 kj51 false a0_0 a0_1 a0_2 a0_3 a0_4 a0_5 a1_0 a1_1 a1_2 a1_3 a1_4 a1_5)) = some r := by rw [if_neg (show ¬ (false = true) by decide)] at H; exact H
         clear H
         have H := H1
         clear H1
         have HC55 := Aside0.mk H
         clear H
         go_upto_region 9 with (fail)
         go_cut [37] (fun v37 wc => ∃ (kq : Nat) (x37_54 : Bool), v37 = .bool x37_54 ∧ Aside0 (spec_Duty.j2 kq x37_54 a0_0 a0_1 a0_2 a0_3 a0_4 a0_5 a1_0 a1_1 a1_2 a1_3 a1_4 a1_5 = some r) ∧ Aside0 (kq ≤ kj51) ∧ Aside0 (wc.heap[gb188]? = some (.cells #[.int .i64 a0_0, .int .i64 a0_1, .int .i64 a0_2, .int .i64 a0_3, .int .i64 a0_4, .int .i64 a0_5] 25 (0, 0))) ∧ Aside0 (wc.heap[gb189]? = some (.cells #[.int .i64 a1_0, .int .i64 a1_1, .int .i64 a1_2, .int .i64 a1_3, .int .i64 a1_4, .int .i64 a1_5] 25 (0, 0))) ∧ Aside0 (wc.heap[gb194]? = some (.cells #[.int .i64 t192, .int .i64 t193] 83 (0, 0))) ∧ Aside0 (Below w.heap.size w wc))
         case first =>
          have H := HC55.out
          clear HC55
          by_cases c56 : t199 = true
          ·subst c56
           have H1 : (spec_Duty.j2 kj51 (!t198) a0_0 a0_1 a0_2 a0_3 a0_4 a0_5 a1_0 a1_1 a1_2 a1_3 a1_4 a1_5) = some r := by rw [if_pos rfl] at H; exact H
           clear H
           have H := H1
           clear H1
           have H' := Aside0.mk H
           clear H
           go_wp2
           go_meet
           case rel => exact ⟨_, (!t198), s6_3, H', ⟨by have := HJ2.out; have := HJ51.out; first | omega | exact Nat.le_refl _⟩, ⟨by (with_reducible repeat (first | refine blk_drewN ?_ _ | refine blk_drew ?_ | refine blk_alloc ?_ _)); exact BK188.out⟩, ⟨by (with_reducible repeat (first | refine blk_drewN ?_ _ | refine blk_drew ?_ | refine blk_alloc ?_ _)); exact BK189.out⟩, ⟨by (with_reducible repeat (first | refine blk_drewN ?_ _ | refine blk_drew ?_ | refine blk_alloc ?_ _)); exact BK194.out⟩, ⟨by repeat (first | (with_reducible first | exact HB.out | apply below_alloc | apply pw_below_drewN | apply below_drew1 | refine below_set ?_ GE188.out | refine below_set ?_ GE189.out | refine below_set ?_ GE194.out) | exact HB.out)⟩⟩
          ·replace c56 := Bool.eq_false_iff.mpr c56
           subst c56
           have H1 : (spec_Duty.j2 kj51 false a0_0 a0_1 a0_2 a0_3 a0_4 a0_5 a1_0 a1_1 a1_2 a1_3 a1_4 a1_5) = some r := by rw [if_neg (show ¬ (false = true) by decide)] at H; exact H
           clear H
           have H := H1
           clear H1
           have H' := Aside0.mk H
           clear H
           go_wp2
           go_meet
           case rel => exact ⟨_, (false), s6_3, H', ⟨by have := HJ2.out; have := HJ51.out; first | omega | exact Nat.le_refl _⟩, ⟨by (with_reducible repeat (first | refine blk_drewN ?_ _ | refine blk_drew ?_ | refine blk_alloc ?_ _)); exact BK188.out⟩, ⟨by (with_reducible repeat (first | refine blk_drewN ?_ _ | refine blk_drew ?_ | refine blk_alloc ?_ _)); exact BK189.out⟩, ⟨by (with_reducible repeat (first | refine blk_drewN ?_ _ | refine blk_drew ?_ | refine blk_alloc ?_ _)); exact BK194.out⟩, ⟨by repeat (first | (with_reducible first | exact HB.out | apply below_alloc | apply pw_below_drewN | apply below_drew1 | refine below_set ?_ GE188.out | refine below_set ?_ GE189.out | refine below_set ?_ GE194.out) | exact HB.out)⟩⟩
         case rest =>
          clear HC55
          (try clear c1); (try clear c2); (try clear p2); (try clear c3); (try clear c4); (try clear c5); (try clear c6); (try clear c7); (try clear c8); (try clear c9); (try clear c14); (try clear c15); (try clear c17); (try clear c21); (try clear c21b0); (try clear c22); (try clear c27); (try clear c28); (try clear c37); (try clear c42); (try clear c43); (try clear c53); (try clear c54); (try clear c56); (try clear hcz10_0); (try clear hcz10_1); (try clear hcz10_2); (try clear hcz10_3); (try clear hcz10_4); (try clear hcz10_5); (try clear hcz12_0); (try clear hcz12_1); (try clear hcz12_2); (try clear hcz12_3); (try clear hcz12_4); (try clear hcz12_5); (try clear hcz15_0); (try clear hcz15_1); (try clear hcz15_2); (try clear hcz15_3); (try clear hcz15_4); (try clear hcz15_5); (try clear hcz23_0); (try clear hcz23_1); (try clear hcz23_2); (try clear hcz23_3); (try clear hcz23_4); (try clear hcz23_5); (try clear hcz24_0); (try clear hcz24_1); (try clear hcz24_2); (try clear hcz24_3); (try clear hcz24_4); (try clear hcz24_5); (try clear hcz29_0); (try clear hcz29_1); (try clear hcz38_0); (try clear hcz38_1); (try clear hcz38_2); (try clear hcz38_3); (try clear hcz38_4); (try clear hcz38_5); (try clear hcz39_0); (try clear hcz39_1); (try clear hcz39_2); (try clear hcz39_3); (try clear hcz39_4); (try clear hcz39_5); (try clear hcz44_0); (try clear hcz44_1); (try clear hfz10_0); (try clear hfz10_1); (try clear hfz10_2); (try clear hfz10_3); (try clear hfz10_4); (try clear hfz10_5); (try clear hfz12_0); (try clear hfz12_1); (try clear hfz12_2); (try clear hfz12_3); (try clear hfz12_4); (try clear hfz12_5); (try clear hfz15_0); (try clear hfz15_1); (try clear hfz15_2); (try clear hfz15_3); (try clear hfz15_4); (try clear hfz15_5); (try clear hfz23_0); (try clear hfz23_1); (try clear hfz23_2); (try clear hfz23_3); (try clear hfz23_4); (try clear hfz23_5); (try clear hfz24_0); (try clear hfz24_1); (try clear hfz24_2); (try clear hfz24_3); (try clear hfz24_4); (try clear hfz24_5); (try clear hfz29_0); (try clear hfz29_1); (try clear hfz38_0); (try clear hfz38_1); (try clear hfz38_2); (try clear hfz38_3); (try clear hfz38_4); (try clear hfz38_5); (try clear hfz39_0); (try clear hfz39_1); (try clear hfz39_2); (try clear hfz39_3); (try clear hfz39_4); (try clear hfz39_5); (try clear hfz44_0); (try clear hfz44_1); (try clear p2)
          obtain ⟨kq, x37_54, rfl, HA, HJ54, BK188, BK189, BK194, HB⟩ := hcut
          cases kq with
          | zero => exact absurd HA.out (by simp [spec_Duty.j2])
          | succ kj54 =>
           have H := HA.out
           clear HA
           simp only [spec_Duty.j2] at H
           by_cases c57 : x37_54 = true
           ·subst c57
            have H1 : (some 1) = some r := by rw [if_pos rfl] at H; exact H
            clear H
            have H := H1
            clear H1
            obtain rfl := Option.some.inj H
            go_wp2
            go_ret
            exact ⟨by first | rfl | (simp [errW_none, errW_some] <;> rfl) | (simp [*, errW_none, errW_some] <;> rfl), by repeat (first | (with_reducible first | exact HB.out | apply below_alloc | apply pw_below_drewN | apply below_drew1 | refine below_set ?_ GE188.out | refine below_set ?_ GE189.out | refine below_set ?_ GE194.out) | exact HB.out)⟩
           ·replace c57 := Bool.eq_false_iff.mpr c57
            subst c57
            have H1 : (if a0_4 < a1_4 then (some 2) else (if a0_4 > a1_4 then (some 1) else ((spec_HeadOn.f kj54 a0_0 a0_1 a0_2 a0_3 a0_4 a0_5 a1_0 a1_1 a1_2 a1_3 a1_4 a1_5).bind fun t200 => (if t200 = true then (if a0_4 = 1 then (some 3) else (spec_Duty.j3 kj54 a0_0 a0_1 a0_2 a0_3 a0_4 a0_5 a1_0 a1_1 a1_2 a1_3 a1_4 a1_5)) else (spec_Duty.j3 kj54 a0_0 a0_1 a0_2 a0_3 a0_4 a0_5 a1_0 a1_1 a1_2 a1_3 a1_4 a1_5))))) = some r := by rw [if_neg (show ¬ (false = true) by decide)] at H; exact H
            clear H
            have H := H1
            clear H1
            by_cases c58 : a0_4 < a1_4
            ·rw [if_pos c58] at H
             have c58b0 : decide (a0_4 < a1_4) = true := decide_eq_true c58
             clear c58
             obtain rfl := Option.some.inj H
             have hnb59 := NB188_189.out
             have hnc59 := NB189_188.out
             have hnb60 := NB188_194.out
             have hnc60 := NB194_188.out
             have hcz61_0 : wc.cell? ⟨gb188, 0, none⟩ = some (.int .i64 a0_0) := bc BK188.out 0
             have hcz61_1 : wc.cell? ⟨gb188, 1, none⟩ = some (.int .i64 a0_1) := bc BK188.out 1
             have hcz61_2 : wc.cell? ⟨gb188, 2, none⟩ = some (.int .i64 a0_2) := bc BK188.out 2
             have hcz61_3 : wc.cell? ⟨gb188, 3, none⟩ = some (.int .i64 a0_3) := bc BK188.out 3
             have hcz61_4 : wc.cell? ⟨gb188, 4, none⟩ = some (.int .i64 a0_4) := bc BK188.out 4
             have hcz61_5 : wc.cell? ⟨gb188, 5, none⟩ = some (.int .i64 a0_5) := bc BK188.out 5
             have hfz61_0 := blk_frozen BK188.out 0
             have hfz61_1 := blk_frozen BK188.out 1
             have hfz61_2 := blk_frozen BK188.out 2
             have hfz61_3 := blk_frozen BK188.out 3
             have hfz61_4 := blk_frozen BK188.out 4
             have hfz61_5 := blk_frozen BK188.out 5
             have hnb62 := NB189_194.out
             have hnc62 := NB194_189.out
             have hcz63_0 : wc.cell? ⟨gb189, 0, none⟩ = some (.int .i64 a1_0) := bc BK189.out 0
             have hcz63_1 : wc.cell? ⟨gb189, 1, none⟩ = some (.int .i64 a1_1) := bc BK189.out 1
             have hcz63_2 : wc.cell? ⟨gb189, 2, none⟩ = some (.int .i64 a1_2) := bc BK189.out 2
             have hcz63_3 : wc.cell? ⟨gb189, 3, none⟩ = some (.int .i64 a1_3) := bc BK189.out 3
             have hcz63_4 : wc.cell? ⟨gb189, 4, none⟩ = some (.int .i64 a1_4) := bc BK189.out 4
             have hcz63_5 : wc.cell? ⟨gb189, 5, none⟩ = some (.int .i64 a1_5) := bc BK189.out 5
             have hfz63_0 := blk_frozen BK189.out 0
             have hfz63_1 := blk_frozen BK189.out 1
             have hfz63_2 := blk_frozen BK189.out 2
             have hfz63_3 := blk_frozen BK189.out 3
             have hfz63_4 := blk_frozen BK189.out 4
             have hfz63_5 := blk_frozen BK189.out 5
             go_wp2
             go_ret
             exact ⟨by first | rfl | (simp [errW_none, errW_some] <;> rfl) | (simp [*, errW_none, errW_some] <;> rfl), by repeat (first | (with_reducible first | exact HB.out | apply below_alloc | apply pw_below_drewN | apply below_drew1 | refine below_set ?_ GE188.out | refine below_set ?_ GE189.out | refine below_set ?_ GE194.out) | exact HB.out)⟩
            ·rw [if_neg c58] at H
             have c58b0 : decide (a0_4 < a1_4) = false := decide_eq_false c58
             clear c58
             by_cases c64 : a0_4 > a1_4
             ·rw [if_pos c64] at H
              have c64b0 : decide (a1_4 < a0_4) = true := decide_eq_true c64
              clear c64
              obtain rfl := Option.some.inj H
              have hnb65 := NB188_189.out
              have hnc65 := NB189_188.out
              have hnb66 := NB188_194.out
              have hnc66 := NB194_188.out
              have hcz67_0 : wc.cell? ⟨gb188, 0, none⟩ = some (.int .i64 a0_0) := bc BK188.out 0
              have hcz67_1 : wc.cell? ⟨gb188, 1, none⟩ = some (.int .i64 a0_1) := bc BK188.out 1
              have hcz67_2 : wc.cell? ⟨gb188, 2, none⟩ = some (.int .i64 a0_2) := bc BK188.out 2
              have hcz67_3 : wc.cell? ⟨gb188, 3, none⟩ = some (.int .i64 a0_3) := bc BK188.out 3
              have hcz67_4 : wc.cell? ⟨gb188, 4, none⟩ = some (.int .i64 a0_4) := bc BK188.out 4
              have hcz67_5 : wc.cell? ⟨gb188, 5, none⟩ = some (.int .i64 a0_5) := bc BK188.out 5
              have hfz67_0 := blk_frozen BK188.out 0
              have hfz67_1 := blk_frozen BK188.out 1
              have hfz67_2 := blk_frozen BK188.out 2
              have hfz67_3 := blk_frozen BK188.out 3
              have hfz67_4 := blk_frozen BK188.out 4
              have hfz67_5 := blk_frozen BK188.out 5
              have hnb68 := NB189_194.out
              have hnc68 := NB194_189.out
              have hcz69_0 : wc.cell? ⟨gb189, 0, none⟩ = some (.int .i64 a1_0) := bc BK189.out 0
              have hcz69_1 : wc.cell? ⟨gb189, 1, none⟩ = some (.int .i64 a1_1) := bc BK189.out 1
              have hcz69_2 : wc.cell? ⟨gb189, 2, none⟩ = some (.int .i64 a1_2) := bc BK189.out 2
              have hcz69_3 : wc.cell? ⟨gb189, 3, none⟩ = some (.int .i64 a1_3) := bc BK189.out 3
              have hcz69_4 : wc.cell? ⟨gb189, 4, none⟩ = some (.int .i64 a1_4) := bc BK189.out 4
              have hcz69_5 : wc.cell? ⟨gb189, 5, none⟩ = some (.int .i64 a1_5) := bc BK189.out 5
              have hfz69_0 := blk_frozen BK189.out 0
              have hfz69_1 := blk_frozen BK189.out 1
              have hfz69_2 := blk_frozen BK189.out 2
              have hfz69_3 := blk_frozen BK189.out 3
              have hfz69_4 := blk_frozen BK189.out 4
              have hfz69_5 := blk_frozen BK189.out 5
              go_wp2
              go_ret
              exact ⟨by first | rfl | (simp [errW_none, errW_some] <;> rfl) | (simp [*, errW_none, errW_some] <;> rfl), by repeat (first | (with_reducible first | exact HB.out | apply below_alloc | apply pw_below_drewN | apply below_drew1 | refine below_set ?_ GE188.out | refine below_set ?_ GE189.out | refine below_set ?_ GE194.out) | exact HB.out)⟩
             ·rw [if_neg c64] at H
              have c64b0 : decide (a1_4 < a0_4) = false := decide_eq_false c64
              clear c64
              replace H := Option.bind_eq_some_iff.mp H
              obtain ⟨t200, A700, H⟩ := H
              replace H : (if t200 = true then (if a0_4 = 1 then (some 3) else (spec_Duty.j3 kj54 a0_0 a0_1 a0_2 a0_3 a0_4 a0_5 a1_0 a1_1 a1_2 a1_3 a1_4 a1_5)) else (spec_Duty.j3 kj54 a0_0 a0_1 a0_2 a0_3 a0_4 a0_5 a1_0 a1_1 a1_2 a1_3 a1_4 a1_5)) = some r := H
              have A70 := Aside0.mk A700
              clear A700
              by_cases c71 : t200 = true
              ·subst c71
               have H1 : (if a0_4 = 1 then (some 3) else (spec_Duty.j3 kj54 a0_0 a0_1 a0_2 a0_3 a0_4 a0_5 a1_0 a1_1 a1_2 a1_3 a1_4 a1_5)) = some r := by rw [if_pos rfl] at H; exact H
               clear H
               have H := H1
               clear H1
               by_cases c72 : a0_4 = 1
               ·rw [if_pos c72] at H
                have c72b0 : (a0_4 == 1) = true := beq_iff_eq.mpr c72
                have c72b1 : (a0_4 != 1) = false := bne_eq_false_iff_eq.mpr c72
                clear c72
                obtain rfl := Option.some.inj H
                have hnb73 := NB188_189.out
                have hnc73 := NB189_188.out
                have hnb74 := NB188_194.out
                have hnc74 := NB194_188.out
                have hcz75_0 : wc.cell? ⟨gb188, 0, none⟩ = some (.int .i64 a0_0) := bc BK188.out 0
                have hcz75_1 : wc.cell? ⟨gb188, 1, none⟩ = some (.int .i64 a0_1) := bc BK188.out 1
                have hcz75_2 : wc.cell? ⟨gb188, 2, none⟩ = some (.int .i64 a0_2) := bc BK188.out 2
                have hcz75_3 : wc.cell? ⟨gb188, 3, none⟩ = some (.int .i64 a0_3) := bc BK188.out 3
                have hcz75_4 : wc.cell? ⟨gb188, 4, none⟩ = some (.int .i64 a0_4) := bc BK188.out 4
                have hcz75_5 : wc.cell? ⟨gb188, 5, none⟩ = some (.int .i64 a0_5) := bc BK188.out 5
                have hfz75_0 := blk_frozen BK188.out 0
                have hfz75_1 := blk_frozen BK188.out 1
                have hfz75_2 := blk_frozen BK188.out 2
                have hfz75_3 := blk_frozen BK188.out 3
                have hfz75_4 := blk_frozen BK188.out 4
                have hfz75_5 := blk_frozen BK188.out 5
                have hnb76 := NB189_194.out
                have hnc76 := NB194_189.out
                have hcz77_0 : wc.cell? ⟨gb189, 0, none⟩ = some (.int .i64 a1_0) := bc BK189.out 0
                have hcz77_1 : wc.cell? ⟨gb189, 1, none⟩ = some (.int .i64 a1_1) := bc BK189.out 1
                have hcz77_2 : wc.cell? ⟨gb189, 2, none⟩ = some (.int .i64 a1_2) := bc BK189.out 2
                have hcz77_3 : wc.cell? ⟨gb189, 3, none⟩ = some (.int .i64 a1_3) := bc BK189.out 3
                have hcz77_4 : wc.cell? ⟨gb189, 4, none⟩ = some (.int .i64 a1_4) := bc BK189.out 4
                have hcz77_5 : wc.cell? ⟨gb189, 5, none⟩ = some (.int .i64 a1_5) := bc BK189.out 5
                have hfz77_0 := blk_frozen BK189.out 0
                have hfz77_1 := blk_frozen BK189.out 1
                have hfz77_2 := blk_frozen BK189.out 2
                have hfz77_3 := blk_frozen BK189.out 3
                have hfz77_4 := blk_frozen BK189.out 4
                have hfz77_5 := blk_frozen BK189.out 5
                go_wp2_with (first | ((with_reducible refine gate_callee (f := 30) rfl ?_); refine goesL_ (some 58) rfl rfl Try.func30 (by kernel_rfl) rfl #[.agg #[.int .i64 a0_0, .int .i64 a0_1, .int .i64 a0_2, .int .i64 a0_3, .int .i64 a0_4, .int .i64 a0_5], .agg #[.int .i64 a1_0, .int .i64 a1_1, .int .i64 a1_2, .int .i64 a1_3, .int .i64 a1_4, .int .i64 a1_5]] rfl s6_2 ?_; (with_reducible refine (spec_HeadOn.calls kj54 a0_0 a0_1 a0_2 a0_3 a0_4 a0_5 a1_0 a1_1 a1_2 a1_3 a1_4 a1_5 true _ A70.out).mono ?_); rintro e w12 ⟨rfl, hb⟩; refine ⟨_, rfl, ?_⟩; have n0_ := Aside0.mk (bb (zk BK188.out) hb); have n1_ := Aside0.mk (bb (zk BK189.out) hb); have n2_ := Aside0.mk (bb (zk BK194.out) hb); have n3_ := Aside0.mk (below_step s6_0 hb); clear BK188; clear BK189; clear BK194; clear HB; have BK188 := n0_; have BK189 := n1_; have BK194 := n2_; have HB := n3_; clear n0_ n1_ n2_ n3_; (try clear hb); (try clear hb2); (try clear hk); (try clear hi); have hcz79_0 : w12.cell? ⟨gb188, 0, none⟩ = some (.int .i64 a0_0) := bc BK188.out 0; have hcz79_1 : w12.cell? ⟨gb188, 1, none⟩ = some (.int .i64 a0_1) := bc BK188.out 1; have hcz79_2 : w12.cell? ⟨gb188, 2, none⟩ = some (.int .i64 a0_2) := bc BK188.out 2; have hcz79_3 : w12.cell? ⟨gb188, 3, none⟩ = some (.int .i64 a0_3) := bc BK188.out 3; have hcz79_4 : w12.cell? ⟨gb188, 4, none⟩ = some (.int .i64 a0_4) := bc BK188.out 4; have hcz79_5 : w12.cell? ⟨gb188, 5, none⟩ = some (.int .i64 a0_5) := bc BK188.out 5; have hfz79_0 := blk_frozen BK188.out 0; have hfz79_1 := blk_frozen BK188.out 1; have hfz79_2 := blk_frozen BK188.out 2; have hfz79_3 := blk_frozen BK188.out 3; have hfz79_4 := blk_frozen BK188.out 4; have hfz79_5 := blk_frozen BK188.out 5))
                go_ret
                exact ⟨by first | rfl | (simp [errW_none, errW_some] <;> rfl) | (simp [*, errW_none, errW_some] <;> rfl), by repeat (first | (with_reducible first | exact HB.out | apply below_alloc | apply pw_below_drewN | apply below_drew1 | refine below_set ?_ GE188.out | refine below_set ?_ GE189.out | refine below_set ?_ GE194.out) | exact HB.out)⟩
               ·rw [if_neg c72] at H
                have c72b0 : (a0_4 == 1) = false := beq_eq_false_iff_ne.mpr c72
                have c72b1 : (a0_4 != 1) = true := bne_iff_ne.mpr c72
                have H' := Aside0.mk H
                clear H
                have hnb80 := NB188_189.out
                have hnc80 := NB189_188.out
                have hnb81 := NB188_194.out
                have hnc81 := NB194_188.out
                have hcz82_0 : wc.cell? ⟨gb188, 0, none⟩ = some (.int .i64 a0_0) := bc BK188.out 0
                have hcz82_1 : wc.cell? ⟨gb188, 1, none⟩ = some (.int .i64 a0_1) := bc BK188.out 1
                have hcz82_2 : wc.cell? ⟨gb188, 2, none⟩ = some (.int .i64 a0_2) := bc BK188.out 2
                have hcz82_3 : wc.cell? ⟨gb188, 3, none⟩ = some (.int .i64 a0_3) := bc BK188.out 3
                have hcz82_4 : wc.cell? ⟨gb188, 4, none⟩ = some (.int .i64 a0_4) := bc BK188.out 4
                have hcz82_5 : wc.cell? ⟨gb188, 5, none⟩ = some (.int .i64 a0_5) := bc BK188.out 5
                have hfz82_0 := blk_frozen BK188.out 0
                have hfz82_1 := blk_frozen BK188.out 1
                have hfz82_2 := blk_frozen BK188.out 2
                have hfz82_3 := blk_frozen BK188.out 3
                have hfz82_4 := blk_frozen BK188.out 4
                have hfz82_5 := blk_frozen BK188.out 5
                have hnb83 := NB189_194.out
                have hnc83 := NB194_189.out
                have hcz84_0 : wc.cell? ⟨gb189, 0, none⟩ = some (.int .i64 a1_0) := bc BK189.out 0
                have hcz84_1 : wc.cell? ⟨gb189, 1, none⟩ = some (.int .i64 a1_1) := bc BK189.out 1
                have hcz84_2 : wc.cell? ⟨gb189, 2, none⟩ = some (.int .i64 a1_2) := bc BK189.out 2
                have hcz84_3 : wc.cell? ⟨gb189, 3, none⟩ = some (.int .i64 a1_3) := bc BK189.out 3
                have hcz84_4 : wc.cell? ⟨gb189, 4, none⟩ = some (.int .i64 a1_4) := bc BK189.out 4
                have hcz84_5 : wc.cell? ⟨gb189, 5, none⟩ = some (.int .i64 a1_5) := bc BK189.out 5
                have hfz84_0 := blk_frozen BK189.out 0
                have hfz84_1 := blk_frozen BK189.out 1
                have hfz84_2 := blk_frozen BK189.out 2
                have hfz84_3 := blk_frozen BK189.out 3
                have hfz84_4 := blk_frozen BK189.out 4
                have hfz84_5 := blk_frozen BK189.out 5
                go_wp2_with (first | ((with_reducible refine gate_callee (f := 30) rfl ?_); refine goesL_ (some 58) rfl rfl Try.func30 (by kernel_rfl) rfl #[.agg #[.int .i64 a0_0, .int .i64 a0_1, .int .i64 a0_2, .int .i64 a0_3, .int .i64 a0_4, .int .i64 a0_5], .agg #[.int .i64 a1_0, .int .i64 a1_1, .int .i64 a1_2, .int .i64 a1_3, .int .i64 a1_4, .int .i64 a1_5]] rfl s6_2 ?_; (with_reducible refine (spec_HeadOn.calls kj54 a0_0 a0_1 a0_2 a0_3 a0_4 a0_5 a1_0 a1_1 a1_2 a1_3 a1_4 a1_5 true _ A70.out).mono ?_); rintro e w12 ⟨rfl, hb⟩; refine ⟨_, rfl, ?_⟩; have n0_ := Aside0.mk (bb (zk BK188.out) hb); have n1_ := Aside0.mk (bb (zk BK189.out) hb); have n2_ := Aside0.mk (bb (zk BK194.out) hb); have n3_ := Aside0.mk (below_step s6_0 hb); clear BK188; clear BK189; clear BK194; clear HB; have BK188 := n0_; have BK189 := n1_; have BK194 := n2_; have HB := n3_; clear n0_ n1_ n2_ n3_; (try clear hb); (try clear hb2); (try clear hk); (try clear hi); have hcz86_0 : w12.cell? ⟨gb188, 0, none⟩ = some (.int .i64 a0_0) := bc BK188.out 0; have hcz86_1 : w12.cell? ⟨gb188, 1, none⟩ = some (.int .i64 a0_1) := bc BK188.out 1; have hcz86_2 : w12.cell? ⟨gb188, 2, none⟩ = some (.int .i64 a0_2) := bc BK188.out 2; have hcz86_3 : w12.cell? ⟨gb188, 3, none⟩ = some (.int .i64 a0_3) := bc BK188.out 3; have hcz86_4 : w12.cell? ⟨gb188, 4, none⟩ = some (.int .i64 a0_4) := bc BK188.out 4; have hcz86_5 : w12.cell? ⟨gb188, 5, none⟩ = some (.int .i64 a0_5) := bc BK188.out 5; have hfz86_0 := blk_frozen BK188.out 0; have hfz86_1 := blk_frozen BK188.out 1; have hfz86_2 := blk_frozen BK188.out 2; have hfz86_3 := blk_frozen BK188.out 3; have hfz86_4 := blk_frozen BK188.out 4; have hfz86_5 := blk_frozen BK188.out 5))
                go_meet
                case rel => exact ⟨_, H', ⟨by have := HJ2.out; have := HJ51.out; have := HJ54.out; first | omega | exact Nat.le_refl _⟩, ⟨by (with_reducible repeat (first | refine blk_drewN ?_ _ | refine blk_drew ?_ | refine blk_alloc ?_ _)); exact BK188.out⟩, ⟨by (with_reducible repeat (first | refine blk_drewN ?_ _ | refine blk_drew ?_ | refine blk_alloc ?_ _)); exact BK189.out⟩, ⟨by (with_reducible repeat (first | refine blk_drewN ?_ _ | refine blk_drew ?_ | refine blk_alloc ?_ _)); exact BK194.out⟩, ⟨by repeat (first | (with_reducible first | exact HB.out | apply below_alloc | apply pw_below_drewN | apply below_drew1 | refine below_set ?_ GE188.out | refine below_set ?_ GE189.out | refine below_set ?_ GE194.out) | exact HB.out)⟩⟩
              ·replace c71 := Bool.eq_false_iff.mpr c71
               subst c71
               have H1 : (spec_Duty.j3 kj54 a0_0 a0_1 a0_2 a0_3 a0_4 a0_5 a1_0 a1_1 a1_2 a1_3 a1_4 a1_5) = some r := by rw [if_neg (show ¬ (false = true) by decide)] at H; exact H
               clear H
               have H := H1
               clear H1
               have H' := Aside0.mk H
               clear H
               have hnb87 := NB188_189.out
               have hnc87 := NB189_188.out
               have hnb88 := NB188_194.out
               have hnc88 := NB194_188.out
               have hcz89_0 : wc.cell? ⟨gb188, 0, none⟩ = some (.int .i64 a0_0) := bc BK188.out 0
               have hcz89_1 : wc.cell? ⟨gb188, 1, none⟩ = some (.int .i64 a0_1) := bc BK188.out 1
               have hcz89_2 : wc.cell? ⟨gb188, 2, none⟩ = some (.int .i64 a0_2) := bc BK188.out 2
               have hcz89_3 : wc.cell? ⟨gb188, 3, none⟩ = some (.int .i64 a0_3) := bc BK188.out 3
               have hcz89_4 : wc.cell? ⟨gb188, 4, none⟩ = some (.int .i64 a0_4) := bc BK188.out 4
               have hcz89_5 : wc.cell? ⟨gb188, 5, none⟩ = some (.int .i64 a0_5) := bc BK188.out 5
               have hfz89_0 := blk_frozen BK188.out 0
               have hfz89_1 := blk_frozen BK188.out 1
               have hfz89_2 := blk_frozen BK188.out 2
               have hfz89_3 := blk_frozen BK188.out 3
               have hfz89_4 := blk_frozen BK188.out 4
               have hfz89_5 := blk_frozen BK188.out 5
               have hnb90 := NB189_194.out
               have hnc90 := NB194_189.out
               have hcz91_0 : wc.cell? ⟨gb189, 0, none⟩ = some (.int .i64 a1_0) := bc BK189.out 0
               have hcz91_1 : wc.cell? ⟨gb189, 1, none⟩ = some (.int .i64 a1_1) := bc BK189.out 1
               have hcz91_2 : wc.cell? ⟨gb189, 2, none⟩ = some (.int .i64 a1_2) := bc BK189.out 2
               have hcz91_3 : wc.cell? ⟨gb189, 3, none⟩ = some (.int .i64 a1_3) := bc BK189.out 3
               have hcz91_4 : wc.cell? ⟨gb189, 4, none⟩ = some (.int .i64 a1_4) := bc BK189.out 4
               have hcz91_5 : wc.cell? ⟨gb189, 5, none⟩ = some (.int .i64 a1_5) := bc BK189.out 5
               have hfz91_0 := blk_frozen BK189.out 0
               have hfz91_1 := blk_frozen BK189.out 1
               have hfz91_2 := blk_frozen BK189.out 2
               have hfz91_3 := blk_frozen BK189.out 3
               have hfz91_4 := blk_frozen BK189.out 4
               have hfz91_5 := blk_frozen BK189.out 5
               go_wp2_with (first | ((with_reducible refine gate_callee (f := 30) rfl ?_); refine goesL_ (some 58) rfl rfl Try.func30 (by kernel_rfl) rfl #[.agg #[.int .i64 a0_0, .int .i64 a0_1, .int .i64 a0_2, .int .i64 a0_3, .int .i64 a0_4, .int .i64 a0_5], .agg #[.int .i64 a1_0, .int .i64 a1_1, .int .i64 a1_2, .int .i64 a1_3, .int .i64 a1_4, .int .i64 a1_5]] rfl s6_2 ?_; (with_reducible refine (spec_HeadOn.calls kj54 a0_0 a0_1 a0_2 a0_3 a0_4 a0_5 a1_0 a1_1 a1_2 a1_3 a1_4 a1_5 false _ A70.out).mono ?_); rintro e w12 ⟨rfl, hb⟩; refine ⟨_, rfl, ?_⟩; have n0_ := Aside0.mk (bb (zk BK188.out) hb); have n1_ := Aside0.mk (bb (zk BK189.out) hb); have n2_ := Aside0.mk (bb (zk BK194.out) hb); have n3_ := Aside0.mk (below_step s6_0 hb); clear BK188; clear BK189; clear BK194; clear HB; have BK188 := n0_; have BK189 := n1_; have BK194 := n2_; have HB := n3_; clear n0_ n1_ n2_ n3_; (try clear hb); (try clear hb2); (try clear hk); (try clear hi)))
               go_meet
               case rel => exact ⟨_, H', ⟨by have := HJ2.out; have := HJ51.out; have := HJ54.out; first | omega | exact Nat.le_refl _⟩, ⟨by (with_reducible repeat (first | refine blk_drewN ?_ _ | refine blk_drew ?_ | refine blk_alloc ?_ _)); exact BK188.out⟩, ⟨by (with_reducible repeat (first | refine blk_drewN ?_ _ | refine blk_drew ?_ | refine blk_alloc ?_ _)); exact BK189.out⟩, ⟨by (with_reducible repeat (first | refine blk_drewN ?_ _ | refine blk_drew ?_ | refine blk_alloc ?_ _)); exact BK194.out⟩, ⟨by repeat (first | (with_reducible first | exact HB.out | apply below_alloc | apply pw_below_drewN | apply below_drew1 | refine below_set ?_ GE188.out | refine below_set ?_ GE189.out | refine below_set ?_ GE194.out) | exact HB.out)⟩⟩
     case rest =>
      clear HC36
      (try clear c1); (try clear c2); (try clear p2); (try clear c3); (try clear c4); (try clear c5); (try clear c6); (try clear c7); (try clear c8); (try clear c9); (try clear c14); (try clear c15); (try clear c17); (try clear c21); (try clear c21b0); (try clear c22); (try clear c27); (try clear c28); (try clear c30); (try clear c37); (try clear c42); (try clear c43); (try clear c53); (try clear c54); (try clear c56); (try clear c57); (try clear c58); (try clear c58b0); (try clear c59); (try clear c60); (try clear c62); (try clear c64); (try clear c64b0); (try clear c65); (try clear c66); (try clear c68); (try clear c71); (try clear c72); (try clear c72b0); (try clear c72b1); (try clear c73); (try clear c74); (try clear c76); (try clear c80); (try clear c81); (try clear c83); (try clear c87); (try clear c88); (try clear c90); (try clear hcz10_0); (try clear hcz10_1); (try clear hcz10_2); (try clear hcz10_3); (try clear hcz10_4); (try clear hcz10_5); (try clear hcz12_0); (try clear hcz12_1); (try clear hcz12_2); (try clear hcz12_3); (try clear hcz12_4); (try clear hcz12_5); (try clear hcz15_0); (try clear hcz15_1); (try clear hcz15_2); (try clear hcz15_3); (try clear hcz15_4); (try clear hcz15_5); (try clear hcz23_0); (try clear hcz23_1); (try clear hcz23_2); (try clear hcz23_3); (try clear hcz23_4); (try clear hcz23_5); (try clear hcz24_0); (try clear hcz24_1); (try clear hcz24_2); (try clear hcz24_3); (try clear hcz24_4); (try clear hcz24_5); (try clear hcz29_0); (try clear hcz29_1); (try clear hcz38_0); (try clear hcz38_1); (try clear hcz38_2); (try clear hcz38_3); (try clear hcz38_4); (try clear hcz38_5); (try clear hcz39_0); (try clear hcz39_1); (try clear hcz39_2); (try clear hcz39_3); (try clear hcz39_4); (try clear hcz39_5); (try clear hcz44_0); (try clear hcz44_1); (try clear hcz61_0); (try clear hcz61_1); (try clear hcz61_2); (try clear hcz61_3); (try clear hcz61_4); (try clear hcz61_5); (try clear hcz63_0); (try clear hcz63_1); (try clear hcz63_2); (try clear hcz63_3); (try clear hcz63_4); (try clear hcz63_5); (try clear hcz67_0); (try clear hcz67_1); (try clear hcz67_2); (try clear hcz67_3); (try clear hcz67_4); (try clear hcz67_5); (try clear hcz69_0); (try clear hcz69_1); (try clear hcz69_2); (try clear hcz69_3); (try clear hcz69_4); (try clear hcz69_5); (try clear hcz75_0); (try clear hcz75_1); (try clear hcz75_2); (try clear hcz75_3); (try clear hcz75_4); (try clear hcz75_5); (try clear hcz77_0); (try clear hcz77_1); (try clear hcz77_2); (try clear hcz77_3); (try clear hcz77_4); (try clear hcz77_5); (try clear hcz79_0); (try clear hcz79_1); (try clear hcz79_2); (try clear hcz79_3); (try clear hcz79_4); (try clear hcz79_5); (try clear hcz82_0); (try clear hcz82_1); (try clear hcz82_2); (try clear hcz82_3); (try clear hcz82_4); (try clear hcz82_5); (try clear hcz84_0); (try clear hcz84_1); (try clear hcz84_2); (try clear hcz84_3); (try clear hcz84_4); (try clear hcz84_5); (try clear hcz86_0); (try clear hcz86_1); (try clear hcz86_2); (try clear hcz86_3); (try clear hcz86_4); (try clear hcz86_5); (try clear hcz89_0); (try clear hcz89_1); (try clear hcz89_2); (try clear hcz89_3); (try clear hcz89_4); (try clear hcz89_5); (try clear hcz91_0); (try clear hcz91_1); (try clear hcz91_2); (try clear hcz91_3); (try clear hcz91_4); (try clear hcz91_5); (try clear hfz10_0); (try clear hfz10_1); (try clear hfz10_2); (try clear hfz10_3); (try clear hfz10_4); (try clear hfz10_5); (try clear hfz12_0); (try clear hfz12_1); (try clear hfz12_2); (try clear hfz12_3); (try clear hfz12_4); (try clear hfz12_5); (try clear hfz15_0); (try clear hfz15_1); (try clear hfz15_2); (try clear hfz15_3); (try clear hfz15_4); (try clear hfz15_5); (try clear hfz23_0); (try clear hfz23_1); (try clear hfz23_2); (try clear hfz23_3); (try clear hfz23_4); (try clear hfz23_5); (try clear hfz24_0); (try clear hfz24_1); (try clear hfz24_2); (try clear hfz24_3); (try clear hfz24_4); (try clear hfz24_5); (try clear hfz29_0); (try clear hfz29_1); (try clear hfz38_0); (try clear hfz38_1); (try clear hfz38_2); (try clear hfz38_3); (try clear hfz38_4); (try clear hfz38_5); (try clear hfz39_0); (try clear hfz39_1); (try clear hfz39_2); (try clear hfz39_3); (try clear hfz39_4); (try clear hfz39_5); (try clear hfz44_0); (try clear hfz44_1); (try clear hfz61_0); (try clear hfz61_1); (try clear hfz61_2); (try clear hfz61_3); (try clear hfz61_4); (try clear hfz61_5); (try clear hfz63_0); (try clear hfz63_1); (try clear hfz63_2); (try clear hfz63_3); (try clear hfz63_4); (try clear hfz63_5); (try clear hfz67_0); (try clear hfz67_1); (try clear hfz67_2); (try clear hfz67_3); (try clear hfz67_4); (try clear hfz67_5); (try clear hfz69_0); (try clear hfz69_1); (try clear hfz69_2); (try clear hfz69_3); (try clear hfz69_4); (try clear hfz69_5); (try clear hfz75_0); (try clear hfz75_1); (try clear hfz75_2); (try clear hfz75_3); (try clear hfz75_4); (try clear hfz75_5); (try clear hfz77_0); (try clear hfz77_1); (try clear hfz77_2); (try clear hfz77_3); (try clear hfz77_4); (try clear hfz77_5); (try clear hfz79_0); (try clear hfz79_1); (try clear hfz79_2); (try clear hfz79_3); (try clear hfz79_4); (try clear hfz79_5); (try clear hfz82_0); (try clear hfz82_1); (try clear hfz82_2); (try clear hfz82_3); (try clear hfz82_4); (try clear hfz82_5); (try clear hfz84_0); (try clear hfz84_1); (try clear hfz84_2); (try clear hfz84_3); (try clear hfz84_4); (try clear hfz84_5); (try clear hfz86_0); (try clear hfz86_1); (try clear hfz86_2); (try clear hfz86_3); (try clear hfz86_4); (try clear hfz86_5); (try clear hfz89_0); (try clear hfz89_1); (try clear hfz89_2); (try clear hfz89_3); (try clear hfz89_4); (try clear hfz89_5); (try clear hfz91_0); (try clear hfz91_1); (try clear hfz91_2); (try clear hfz91_3); (try clear hfz91_4); (try clear hfz91_5); (try clear p2)
      obtain ⟨kq, HA, HJ35, BK188, BK189, BK194, HB⟩ := hcut
      cases kq with
      | zero => exact absurd HA.out (by simp [spec_Duty.j3])
      | succ kj35 =>
       have H := HA.out
       clear HA
       simp only [spec_Duty.j3] at H
       replace H := Option.bind_eq_some_iff.mp H
       obtain ⟨t201, A930, H⟩ := H
       replace H : ((spec_l8Right.f a1_0 a1_1 a1_2 a1_3 a1_4 a1_5 a0_0 a0_1 a0_2 a0_3 a0_4 a0_5).bind fun t202 => (if t201 = true then (spec_Duty.j4 kj35 t201 t202 (!t202) a0_0 a0_1 a0_2 a0_3 a0_4 a0_5 a1_0 a1_1 a1_2 a1_3 a1_4 a1_5) else (spec_Duty.j4 kj35 t201 t202 false a0_0 a0_1 a0_2 a0_3 a0_4 a0_5 a1_0 a1_1 a1_2 a1_3 a1_4 a1_5))) = some r := H
       have A93 := Aside0.mk A930
       clear A930
       replace H := Option.bind_eq_some_iff.mp H
       obtain ⟨t202, A940, H⟩ := H
       replace H : (if t201 = true then (spec_Duty.j4 kj35 t201 t202 (!t202) a0_0 a0_1 a0_2 a0_3 a0_4 a0_5 a1_0 a1_1 a1_2 a1_3 a1_4 a1_5) else (spec_Duty.j4 kj35 t201 t202 false a0_0 a0_1 a0_2 a0_3 a0_4 a0_5 a1_0 a1_1 a1_2 a1_3 a1_4 a1_5)) = some r := H
       have A94 := Aside0.mk A940
       clear A940
       have HC95 := Aside0.mk H
       clear H
       have hnb96 := NB188_189.out
       have hnc96 := NB189_188.out
       have hnb97 := NB188_194.out
       have hnc97 := NB194_188.out
       have hcz98_0 : wc.cell? ⟨gb188, 0, none⟩ = some (.int .i64 a0_0) := bc BK188.out 0
       have hcz98_1 : wc.cell? ⟨gb188, 1, none⟩ = some (.int .i64 a0_1) := bc BK188.out 1
       have hcz98_2 : wc.cell? ⟨gb188, 2, none⟩ = some (.int .i64 a0_2) := bc BK188.out 2
       have hcz98_3 : wc.cell? ⟨gb188, 3, none⟩ = some (.int .i64 a0_3) := bc BK188.out 3
       have hcz98_4 : wc.cell? ⟨gb188, 4, none⟩ = some (.int .i64 a0_4) := bc BK188.out 4
       have hcz98_5 : wc.cell? ⟨gb188, 5, none⟩ = some (.int .i64 a0_5) := bc BK188.out 5
       have hfz98_0 := blk_frozen BK188.out 0
       have hfz98_1 := blk_frozen BK188.out 1
       have hfz98_2 := blk_frozen BK188.out 2
       have hfz98_3 := blk_frozen BK188.out 3
       have hfz98_4 := blk_frozen BK188.out 4
       have hfz98_5 := blk_frozen BK188.out 5
       have hnb99 := NB189_194.out
       have hnc99 := NB194_189.out
       have hcz100_0 : wc.cell? ⟨gb189, 0, none⟩ = some (.int .i64 a1_0) := bc BK189.out 0
       have hcz100_1 : wc.cell? ⟨gb189, 1, none⟩ = some (.int .i64 a1_1) := bc BK189.out 1
       have hcz100_2 : wc.cell? ⟨gb189, 2, none⟩ = some (.int .i64 a1_2) := bc BK189.out 2
       have hcz100_3 : wc.cell? ⟨gb189, 3, none⟩ = some (.int .i64 a1_3) := bc BK189.out 3
       have hcz100_4 : wc.cell? ⟨gb189, 4, none⟩ = some (.int .i64 a1_4) := bc BK189.out 4
       have hcz100_5 : wc.cell? ⟨gb189, 5, none⟩ = some (.int .i64 a1_5) := bc BK189.out 5
       have hfz100_0 := blk_frozen BK189.out 0
       have hfz100_1 := blk_frozen BK189.out 1
       have hfz100_2 := blk_frozen BK189.out 2
       have hfz100_3 := blk_frozen BK189.out 3
       have hfz100_4 := blk_frozen BK189.out 4
       have hfz100_5 := blk_frozen BK189.out 5
       go_upto_region 19 with (first | ((with_reducible refine gate_callee (f := 87) rfl ?_); refine goesL_ (some 66) rfl rfl Try.func87 (by kernel_rfl) rfl #[.agg #[.int .i64 a0_0, .int .i64 a0_1, .int .i64 a0_2, .int .i64 a0_3, .int .i64 a0_4, .int .i64 a0_5], .agg #[.int .i64 a1_0, .int .i64 a1_1, .int .i64 a1_2, .int .i64 a1_3, .int .i64 a1_4, .int .i64 a1_5]] rfl s6_2 ?_; (with_reducible refine (spec_l8Right.calls a0_0 a0_1 a0_2 a0_3 a0_4 a0_5 a1_0 a1_1 a1_2 a1_3 a1_4 a1_5 t201 _ A93.out).mono ?_); rintro e w12 ⟨rfl, hb⟩; refine ⟨_, rfl, ?_⟩; have n0_ := Aside0.mk (bb (zk BK188.out) hb); have n1_ := Aside0.mk (bb (zk BK189.out) hb); have n2_ := Aside0.mk (bb (zk BK194.out) hb); have n3_ := Aside0.mk (below_step s6_0 hb); clear BK188; clear BK189; clear BK194; clear HB; have BK188 := n0_; have BK189 := n1_; have BK194 := n2_; have HB := n3_; clear n0_ n1_ n2_ n3_; (try clear hb); (try clear hb2); (try clear hk); (try clear hi); have hcz102_0 : w12.cell? ⟨gb189, 0, none⟩ = some (.int .i64 a1_0) := bc BK189.out 0; have hcz102_1 : w12.cell? ⟨gb189, 1, none⟩ = some (.int .i64 a1_1) := bc BK189.out 1; have hcz102_2 : w12.cell? ⟨gb189, 2, none⟩ = some (.int .i64 a1_2) := bc BK189.out 2; have hcz102_3 : w12.cell? ⟨gb189, 3, none⟩ = some (.int .i64 a1_3) := bc BK189.out 3; have hcz102_4 : w12.cell? ⟨gb189, 4, none⟩ = some (.int .i64 a1_4) := bc BK189.out 4; have hcz102_5 : w12.cell? ⟨gb189, 5, none⟩ = some (.int .i64 a1_5) := bc BK189.out 5; have hfz102_0 := blk_frozen BK189.out 0; have hfz102_1 := blk_frozen BK189.out 1; have hfz102_2 := blk_frozen BK189.out 2; have hfz102_3 := blk_frozen BK189.out 3; have hfz102_4 := blk_frozen BK189.out 4; have hfz102_5 := blk_frozen BK189.out 5; have hcz103_0 : w12.cell? ⟨gb188, 0, none⟩ = some (.int .i64 a0_0) := bc BK188.out 0; have hcz103_1 : w12.cell? ⟨gb188, 1, none⟩ = some (.int .i64 a0_1) := bc BK188.out 1; have hcz103_2 : w12.cell? ⟨gb188, 2, none⟩ = some (.int .i64 a0_2) := bc BK188.out 2; have hcz103_3 : w12.cell? ⟨gb188, 3, none⟩ = some (.int .i64 a0_3) := bc BK188.out 3; have hcz103_4 : w12.cell? ⟨gb188, 4, none⟩ = some (.int .i64 a0_4) := bc BK188.out 4; have hcz103_5 : w12.cell? ⟨gb188, 5, none⟩ = some (.int .i64 a0_5) := bc BK188.out 5; have hfz103_0 := blk_frozen BK188.out 0; have hfz103_1 := blk_frozen BK188.out 1; have hfz103_2 := blk_frozen BK188.out 2; have hfz103_3 := blk_frozen BK188.out 3; have hfz103_4 := blk_frozen BK188.out 4; have hfz103_5 := blk_frozen BK188.out 5) | ((with_reducible refine gate_callee (f := 87) rfl ?_); refine goesL_ (some 69) rfl rfl Try.func87 (by kernel_rfl) rfl #[.agg #[.int .i64 a1_0, .int .i64 a1_1, .int .i64 a1_2, .int .i64 a1_3, .int .i64 a1_4, .int .i64 a1_5], .agg #[.int .i64 a0_0, .int .i64 a0_1, .int .i64 a0_2, .int .i64 a0_3, .int .i64 a0_4, .int .i64 a0_5]] rfl s6_2 ?_; (with_reducible refine (spec_l8Right.calls a1_0 a1_1 a1_2 a1_3 a1_4 a1_5 a0_0 a0_1 a0_2 a0_3 a0_4 a0_5 t202 _ A94.out).mono ?_); rintro e w13 ⟨rfl, hb⟩; refine ⟨_, rfl, ?_⟩; have n0_ := Aside0.mk (bb (zk BK188.out) hb); have n1_ := Aside0.mk (bb (zk BK189.out) hb); have n2_ := Aside0.mk (bb (zk BK194.out) hb); have n3_ := Aside0.mk (below_step s6_0 hb); clear BK188; clear BK189; clear BK194; clear HB; have BK188 := n0_; have BK189 := n1_; have BK194 := n2_; have HB := n3_; clear n0_ n1_ n2_ n3_; (try clear hb); (try clear hb2); (try clear hk); (try clear hi)))
       (try simp only [Act.put, List.setIfInBounds_toArray, List.set_cons_zero, List.set_cons_succ])
       go_cut [70] (fun v70 wc => ∃ (kq : Nat) (x70_94 : Bool), v70 = .bool x70_94 ∧ Aside0 (spec_Duty.j4 kq t201 t202 x70_94 a0_0 a0_1 a0_2 a0_3 a0_4 a0_5 a1_0 a1_1 a1_2 a1_3 a1_4 a1_5 = some r) ∧ Aside0 (kq ≤ kj35) ∧ Aside0 (wc.heap[gb188]? = some (.cells #[.int .i64 a0_0, .int .i64 a0_1, .int .i64 a0_2, .int .i64 a0_3, .int .i64 a0_4, .int .i64 a0_5] 25 (0, 0))) ∧ Aside0 (wc.heap[gb189]? = some (.cells #[.int .i64 a1_0, .int .i64 a1_1, .int .i64 a1_2, .int .i64 a1_3, .int .i64 a1_4, .int .i64 a1_5] 25 (0, 0))) ∧ Aside0 (wc.heap[gb194]? = some (.cells #[.int .i64 t192, .int .i64 t193] 83 (0, 0))) ∧ Aside0 (Below w.heap.size w wc))
       case first =>
        have H := HC95.out
        clear HC95
        by_cases c105 : t201 = true
        ·subst c105
         have H1 : (spec_Duty.j4 kj35 true t202 (!t202) a0_0 a0_1 a0_2 a0_3 a0_4 a0_5 a1_0 a1_1 a1_2 a1_3 a1_4 a1_5) = some r := by rw [if_pos rfl] at H; exact H
         clear H
         have H := H1
         clear H1
         have H' := Aside0.mk H
         clear H
         go_wp2
         go_meet
         case rel => exact ⟨_, (!t202), s6_3, H', ⟨by have := HJ2.out; have := HJ35.out; first | omega | exact Nat.le_refl _⟩, ⟨by (with_reducible repeat (first | refine blk_drewN ?_ _ | refine blk_drew ?_ | refine blk_alloc ?_ _)); exact BK188.out⟩, ⟨by (with_reducible repeat (first | refine blk_drewN ?_ _ | refine blk_drew ?_ | refine blk_alloc ?_ _)); exact BK189.out⟩, ⟨by (with_reducible repeat (first | refine blk_drewN ?_ _ | refine blk_drew ?_ | refine blk_alloc ?_ _)); exact BK194.out⟩, ⟨by repeat (first | (with_reducible first | exact HB.out | apply below_alloc | apply pw_below_drewN | apply below_drew1 | refine below_set ?_ GE188.out | refine below_set ?_ GE189.out | refine below_set ?_ GE194.out) | exact HB.out)⟩⟩
        ·replace c105 := Bool.eq_false_iff.mpr c105
         subst c105
         have H1 : (spec_Duty.j4 kj35 false t202 false a0_0 a0_1 a0_2 a0_3 a0_4 a0_5 a1_0 a1_1 a1_2 a1_3 a1_4 a1_5) = some r := by rw [if_neg (show ¬ (false = true) by decide)] at H; exact H
         clear H
         have H := H1
         clear H1
         have H' := Aside0.mk H
         clear H
         go_wp2
         go_meet
         case rel => exact ⟨_, (false), s6_3, H', ⟨by have := HJ2.out; have := HJ35.out; first | omega | exact Nat.le_refl _⟩, ⟨by (with_reducible repeat (first | refine blk_drewN ?_ _ | refine blk_drew ?_ | refine blk_alloc ?_ _)); exact BK188.out⟩, ⟨by (with_reducible repeat (first | refine blk_drewN ?_ _ | refine blk_drew ?_ | refine blk_alloc ?_ _)); exact BK189.out⟩, ⟨by (with_reducible repeat (first | refine blk_drewN ?_ _ | refine blk_drew ?_ | refine blk_alloc ?_ _)); exact BK194.out⟩, ⟨by repeat (first | (with_reducible first | exact HB.out | apply below_alloc | apply pw_below_drewN | apply below_drew1 | refine below_set ?_ GE188.out | refine below_set ?_ GE189.out | refine below_set ?_ GE194.out) | exact HB.out)⟩⟩
       case rest =>
        clear HC95
        (try clear c1); (try clear c2); (try clear p2); (try clear c3); (try clear c4); (try clear c5); (try clear c6); (try clear c7); (try clear c8); (try clear c9); (try clear c10); (try clear c14); (try clear c15); (try clear c17); (try clear c21); (try clear c21b0); (try clear c22); (try clear c27); (try clear c28); (try clear c30); (try clear c37); (try clear c42); (try clear c43); (try clear c53); (try clear c54); (try clear c56); (try clear c57); (try clear c58); (try clear c58b0); (try clear c59); (try clear c60); (try clear c62); (try clear c64); (try clear c64b0); (try clear c65); (try clear c66); (try clear c68); (try clear c71); (try clear c72); (try clear c72b0); (try clear c72b1); (try clear c73); (try clear c74); (try clear c76); (try clear c80); (try clear c81); (try clear c83); (try clear c87); (try clear c88); (try clear c90); (try clear c96); (try clear c97); (try clear c99); (try clear c105); (try clear hcz100_0); (try clear hcz100_1); (try clear hcz100_2); (try clear hcz100_3); (try clear hcz100_4); (try clear hcz100_5); (try clear hcz102_0); (try clear hcz102_1); (try clear hcz102_2); (try clear hcz102_3); (try clear hcz102_4); (try clear hcz102_5); (try clear hcz103_0); (try clear hcz103_1); (try clear hcz103_2); (try clear hcz103_3); (try clear hcz103_4); (try clear hcz103_5); (try clear hcz10_0); (try clear hcz10_1); (try clear hcz10_2); (try clear hcz10_3); (try clear hcz10_4); (try clear hcz10_5); (try clear hcz12_0); (try clear hcz12_1); (try clear hcz12_2); (try clear hcz12_3); (try clear hcz12_4); (try clear hcz12_5); (try clear hcz15_0); (try clear hcz15_1); (try clear hcz15_2); (try clear hcz15_3); (try clear hcz15_4); (try clear hcz15_5); (try clear hcz23_0); (try clear hcz23_1); (try clear hcz23_2); (try clear hcz23_3); (try clear hcz23_4); (try clear hcz23_5); (try clear hcz24_0); (try clear hcz24_1); (try clear hcz24_2); (try clear hcz24_3); (try clear hcz24_4); (try clear hcz24_5); (try clear hcz29_0); (try clear hcz29_1); (try clear hcz38_0); (try clear hcz38_1); (try clear hcz38_2); (try clear hcz38_3); (try clear hcz38_4); (try clear hcz38_5); (try clear hcz39_0); (try clear hcz39_1); (try clear hcz39_2); (try clear hcz39_3); (try clear hcz39_4); (try clear hcz39_5); (try clear hcz44_0); (try clear hcz44_1); (try clear hcz61_0); (try clear hcz61_1); (try clear hcz61_2); (try clear hcz61_3); (try clear hcz61_4); (try clear hcz61_5); (try clear hcz63_0); (try clear hcz63_1); (try clear hcz63_2); (try clear hcz63_3); (try clear hcz63_4); (try clear hcz63_5); (try clear hcz67_0); (try clear hcz67_1); (try clear hcz67_2); (try clear hcz67_3); (try clear hcz67_4); (try clear hcz67_5); (try clear hcz69_0); (try clear hcz69_1); (try clear hcz69_2); (try clear hcz69_3); (try clear hcz69_4); (try clear hcz69_5); (try clear hcz75_0); (try clear hcz75_1); (try clear hcz75_2); (try clear hcz75_3); (try clear hcz75_4); (try clear hcz75_5); (try clear hcz77_0); (try clear hcz77_1); (try clear hcz77_2); (try clear hcz77_3); (try clear hcz77_4); (try clear hcz77_5); (try clear hcz79_0); (try clear hcz79_1); (try clear hcz79_2); (try clear hcz79_3); (try clear hcz79_4); (try clear hcz79_5); (try clear hcz82_0); (try clear hcz82_1); (try clear hcz82_2); (try clear hcz82_3); (try clear hcz82_4); (try clear hcz82_5); (try clear hcz84_0); (try clear hcz84_1); (try clear hcz84_2); (try clear hcz84_3); (try clear hcz84_4); (try clear hcz84_5); (try clear hcz86_0); (try clear hcz86_1); (try clear hcz86_2); (try clear hcz86_3); (try clear hcz86_4); (try clear hcz86_5); (try clear hcz89_0); (try clear hcz89_1); (try clear hcz89_2); (try clear hcz89_3); (try clear hcz89_4); (try clear hcz89_5); (try clear hcz91_0); (try clear hcz91_1); (try clear hcz91_2); (try clear hcz91_3); (try clear hcz91_4); (try clear hcz91_5); (try clear hcz98_0); (try clear hcz98_1); (try clear hcz98_2); (try clear hcz98_3); (try clear hcz98_4); (try clear hcz98_5); (try clear hfz100_0); (try clear hfz100_1); (try clear hfz100_2); (try clear hfz100_3); (try clear hfz100_4); (try clear hfz100_5); (try clear hfz102_0); (try clear hfz102_1); (try clear hfz102_2); (try clear hfz102_3); (try clear hfz102_4); (try clear hfz102_5); (try clear hfz103_0); (try clear hfz103_1); (try clear hfz103_2); (try clear hfz103_3); (try clear hfz103_4); (try clear hfz103_5); (try clear hfz10_0); (try clear hfz10_1); (try clear hfz10_2); (try clear hfz10_3); (try clear hfz10_4); (try clear hfz10_5); (try clear hfz12_0); (try clear hfz12_1); (try clear hfz12_2); (try clear hfz12_3); (try clear hfz12_4); (try clear hfz12_5); (try clear hfz15_0); (try clear hfz15_1); (try clear hfz15_2); (try clear hfz15_3); (try clear hfz15_4); (try clear hfz15_5); (try clear hfz23_0); (try clear hfz23_1); (try clear hfz23_2); (try clear hfz23_3); (try clear hfz23_4); (try clear hfz23_5); (try clear hfz24_0); (try clear hfz24_1); (try clear hfz24_2); (try clear hfz24_3); (try clear hfz24_4); (try clear hfz24_5); (try clear hfz29_0); (try clear hfz29_1); (try clear hfz38_0); (try clear hfz38_1); (try clear hfz38_2); (try clear hfz38_3); (try clear hfz38_4); (try clear hfz38_5); (try clear hfz39_0); (try clear hfz39_1); (try clear hfz39_2); (try clear hfz39_3); (try clear hfz39_4); (try clear hfz39_5); (try clear hfz44_0); (try clear hfz44_1); (try clear hfz61_0); (try clear hfz61_1); (try clear hfz61_2); (try clear hfz61_3); (try clear hfz61_4); (try clear hfz61_5); (try clear hfz63_0); (try clear hfz63_1); (try clear hfz63_2); (try clear hfz63_3); (try clear hfz63_4); (try clear hfz63_5); (try clear hfz67_0); (try clear hfz67_1); (try clear hfz67_2); (try clear hfz67_3); (try clear hfz67_4); (try clear hfz67_5); (try clear hfz69_0); (try clear hfz69_1); (try clear hfz69_2); (try clear hfz69_3); (try clear hfz69_4); (try clear hfz69_5); (try clear hfz75_0); (try clear hfz75_1); (try clear hfz75_2); (try clear hfz75_3); (try clear hfz75_4); (try clear hfz75_5); (try clear hfz77_0); (try clear hfz77_1); (try clear hfz77_2); (try clear hfz77_3); (try clear hfz77_4); (try clear hfz77_5); (try clear hfz79_0); (try clear hfz79_1); (try clear hfz79_2); (try clear hfz79_3); (try clear hfz79_4); (try clear hfz79_5); (try clear hfz82_0); (try clear hfz82_1); (try clear hfz82_2); (try clear hfz82_3); (try clear hfz82_4); (try clear hfz82_5); (try clear hfz84_0); (try clear hfz84_1); (try clear hfz84_2); (try clear hfz84_3); (try clear hfz84_4); (try clear hfz84_5); (try clear hfz86_0); (try clear hfz86_1); (try clear hfz86_2); (try clear hfz86_3); (try clear hfz86_4); (try clear hfz86_5); (try clear hfz89_0); (try clear hfz89_1); (try clear hfz89_2); (try clear hfz89_3); (try clear hfz89_4); (try clear hfz89_5); (try clear hfz91_0); (try clear hfz91_1); (try clear hfz91_2); (try clear hfz91_3); (try clear hfz91_4); (try clear hfz91_5); (try clear hfz98_0); (try clear hfz98_1); (try clear hfz98_2); (try clear hfz98_3); (try clear hfz98_4); (try clear hfz98_5); (try clear p2)
        obtain ⟨kq, x70_94, rfl, HA, HJ94, BK188, BK189, BK194, HB⟩ := hcut
        cases kq with
        | zero => exact absurd HA.out (by simp [spec_Duty.j4])
        | succ kj94 =>
         have H := HA.out
         clear HA
         simp only [spec_Duty.j4] at H
         by_cases c106 : x70_94 = true
         ·subst c106
          have H1 : (some 2) = some r := by rw [if_pos rfl] at H; exact H
          clear H
          have H := H1
          clear H1
          obtain rfl := Option.some.inj H
          go_wp2
          go_ret
          exact ⟨by first | rfl | (simp [errW_none, errW_some] <;> rfl) | (simp [*, errW_none, errW_some] <;> rfl), by repeat (first | (with_reducible first | exact HB.out | apply below_alloc | apply pw_below_drewN | apply below_drew1 | refine below_set ?_ GE188.out | refine below_set ?_ GE189.out | refine below_set ?_ GE194.out) | exact HB.out)⟩
         ·replace c106 := Bool.eq_false_iff.mpr c106
          subst c106
          have H1 : (if t202 = true then (spec_Duty.j5 kj94 (!t201) a0_0 a0_1 a0_2 a0_3 a0_4 a0_5 a1_0 a1_1 a1_2 a1_3 a1_4 a1_5) else (spec_Duty.j5 kj94 false a0_0 a0_1 a0_2 a0_3 a0_4 a0_5 a1_0 a1_1 a1_2 a1_3 a1_4 a1_5)) = some r := by rw [if_neg (show ¬ (false = true) by decide)] at H; exact H
          clear H
          have H := H1
          clear H1
          have HC107 := Aside0.mk H
          clear H
          go_upto_region 21 with (fail)
          go_cut [76] (fun v76 wc => ∃ (kq : Nat) (x76_106 : Bool), v76 = .bool x76_106 ∧ Aside0 (spec_Duty.j5 kq x76_106 a0_0 a0_1 a0_2 a0_3 a0_4 a0_5 a1_0 a1_1 a1_2 a1_3 a1_4 a1_5 = some r) ∧ Aside0 (kq ≤ kj94) ∧ Aside0 (wc.heap[gb188]? = some (.cells #[.int .i64 a0_0, .int .i64 a0_1, .int .i64 a0_2, .int .i64 a0_3, .int .i64 a0_4, .int .i64 a0_5] 25 (0, 0))) ∧ Aside0 (wc.heap[gb189]? = some (.cells #[.int .i64 a1_0, .int .i64 a1_1, .int .i64 a1_2, .int .i64 a1_3, .int .i64 a1_4, .int .i64 a1_5] 25 (0, 0))) ∧ Aside0 (wc.heap[gb194]? = some (.cells #[.int .i64 t192, .int .i64 t193] 83 (0, 0))) ∧ Aside0 (Below w.heap.size w wc))
          case first =>
           have H := HC107.out
           clear HC107
           by_cases c108 : t202 = true
           ·subst c108
            have H1 : (spec_Duty.j5 kj94 (!t201) a0_0 a0_1 a0_2 a0_3 a0_4 a0_5 a1_0 a1_1 a1_2 a1_3 a1_4 a1_5) = some r := by rw [if_pos rfl] at H; exact H
            clear H
            have H := H1
            clear H1
            have H' := Aside0.mk H
            clear H
            go_wp2
            go_meet
            case rel => exact ⟨_, (!t201), s6_3, H', ⟨by have := HJ2.out; have := HJ35.out; have := HJ94.out; first | omega | exact Nat.le_refl _⟩, ⟨by (with_reducible repeat (first | refine blk_drewN ?_ _ | refine blk_drew ?_ | refine blk_alloc ?_ _)); exact BK188.out⟩, ⟨by (with_reducible repeat (first | refine blk_drewN ?_ _ | refine blk_drew ?_ | refine blk_alloc ?_ _)); exact BK189.out⟩, ⟨by (with_reducible repeat (first | refine blk_drewN ?_ _ | refine blk_drew ?_ | refine blk_alloc ?_ _)); exact BK194.out⟩, ⟨by repeat (first | (with_reducible first | exact HB.out | apply below_alloc | apply pw_below_drewN | apply below_drew1 | refine below_set ?_ GE188.out | refine below_set ?_ GE189.out | refine below_set ?_ GE194.out) | exact HB.out)⟩⟩
           ·replace c108 := Bool.eq_false_iff.mpr c108
            subst c108
            have H1 : (spec_Duty.j5 kj94 false a0_0 a0_1 a0_2 a0_3 a0_4 a0_5 a1_0 a1_1 a1_2 a1_3 a1_4 a1_5) = some r := by rw [if_neg (show ¬ (false = true) by decide)] at H; exact H
            clear H
            have H := H1
            clear H1
            have H' := Aside0.mk H
            clear H
            go_wp2
            go_meet
            case rel => exact ⟨_, (false), s6_3, H', ⟨by have := HJ2.out; have := HJ35.out; have := HJ94.out; first | omega | exact Nat.le_refl _⟩, ⟨by (with_reducible repeat (first | refine blk_drewN ?_ _ | refine blk_drew ?_ | refine blk_alloc ?_ _)); exact BK188.out⟩, ⟨by (with_reducible repeat (first | refine blk_drewN ?_ _ | refine blk_drew ?_ | refine blk_alloc ?_ _)); exact BK189.out⟩, ⟨by (with_reducible repeat (first | refine blk_drewN ?_ _ | refine blk_drew ?_ | refine blk_alloc ?_ _)); exact BK194.out⟩, ⟨by repeat (first | (with_reducible first | exact HB.out | apply below_alloc | apply pw_below_drewN | apply below_drew1 | refine below_set ?_ GE188.out | refine below_set ?_ GE189.out | refine below_set ?_ GE194.out) | exact HB.out)⟩⟩
          case rest =>
           clear HC107
           (try clear c1); (try clear c2); (try clear p2); (try clear c3); (try clear c4); (try clear c5); (try clear c6); (try clear c7); (try clear c8); (try clear c9); (try clear c10); (try clear c14); (try clear c15); (try clear c17); (try clear c21); (try clear c21b0); (try clear c22); (try clear c27); (try clear c28); (try clear c30); (try clear c37); (try clear c42); (try clear c43); (try clear c53); (try clear c54); (try clear c56); (try clear c57); (try clear c58); (try clear c58b0); (try clear c59); (try clear c60); (try clear c62); (try clear c64); (try clear c64b0); (try clear c65); (try clear c66); (try clear c68); (try clear c71); (try clear c72); (try clear c72b0); (try clear c72b1); (try clear c73); (try clear c74); (try clear c76); (try clear c80); (try clear c81); (try clear c83); (try clear c87); (try clear c88); (try clear c90); (try clear c96); (try clear c97); (try clear c99); (try clear c105); (try clear c106); (try clear c108); (try clear hcz100_0); (try clear hcz100_1); (try clear hcz100_2); (try clear hcz100_3); (try clear hcz100_4); (try clear hcz100_5); (try clear hcz102_0); (try clear hcz102_1); (try clear hcz102_2); (try clear hcz102_3); (try clear hcz102_4); (try clear hcz102_5); (try clear hcz103_0); (try clear hcz103_1); (try clear hcz103_2); (try clear hcz103_3); (try clear hcz103_4); (try clear hcz103_5); (try clear hcz10_0); (try clear hcz10_1); (try clear hcz10_2); (try clear hcz10_3); (try clear hcz10_4); (try clear hcz10_5); (try clear hcz12_0); (try clear hcz12_1); (try clear hcz12_2); (try clear hcz12_3); (try clear hcz12_4); (try clear hcz12_5); (try clear hcz15_0); (try clear hcz15_1); (try clear hcz15_2); (try clear hcz15_3); (try clear hcz15_4); (try clear hcz15_5); (try clear hcz23_0); (try clear hcz23_1); (try clear hcz23_2); (try clear hcz23_3); (try clear hcz23_4); (try clear hcz23_5); (try clear hcz24_0); (try clear hcz24_1); (try clear hcz24_2); (try clear hcz24_3); (try clear hcz24_4); (try clear hcz24_5); (try clear hcz29_0); (try clear hcz29_1); (try clear hcz38_0); (try clear hcz38_1); (try clear hcz38_2); (try clear hcz38_3); (try clear hcz38_4); (try clear hcz38_5); (try clear hcz39_0); (try clear hcz39_1); (try clear hcz39_2); (try clear hcz39_3); (try clear hcz39_4); (try clear hcz39_5); (try clear hcz44_0); (try clear hcz44_1); (try clear hcz61_0); (try clear hcz61_1); (try clear hcz61_2); (try clear hcz61_3); (try clear hcz61_4); (try clear hcz61_5); (try clear hcz63_0); (try clear hcz63_1); (try clear hcz63_2); (try clear hcz63_3); (try clear hcz63_4); (try clear hcz63_5); (try clear hcz67_0); (try clear hcz67_1); (try clear hcz67_2); (try clear hcz67_3); (try clear hcz67_4); (try clear hcz67_5); (try clear hcz69_0); (try clear hcz69_1); (try clear hcz69_2); (try clear hcz69_3); (try clear hcz69_4); (try clear hcz69_5); (try clear hcz75_0); (try clear hcz75_1); (try clear hcz75_2); (try clear hcz75_3); (try clear hcz75_4); (try clear hcz75_5); (try clear hcz77_0); (try clear hcz77_1); (try clear hcz77_2); (try clear hcz77_3); (try clear hcz77_4); (try clear hcz77_5); (try clear hcz79_0); (try clear hcz79_1); (try clear hcz79_2); (try clear hcz79_3); (try clear hcz79_4); (try clear hcz79_5); (try clear hcz82_0); (try clear hcz82_1); (try clear hcz82_2); (try clear hcz82_3); (try clear hcz82_4); (try clear hcz82_5); (try clear hcz84_0); (try clear hcz84_1); (try clear hcz84_2); (try clear hcz84_3); (try clear hcz84_4); (try clear hcz84_5); (try clear hcz86_0); (try clear hcz86_1); (try clear hcz86_2); (try clear hcz86_3); (try clear hcz86_4); (try clear hcz86_5); (try clear hcz89_0); (try clear hcz89_1); (try clear hcz89_2); (try clear hcz89_3); (try clear hcz89_4); (try clear hcz89_5); (try clear hcz91_0); (try clear hcz91_1); (try clear hcz91_2); (try clear hcz91_3); (try clear hcz91_4); (try clear hcz91_5); (try clear hcz98_0); (try clear hcz98_1); (try clear hcz98_2); (try clear hcz98_3); (try clear hcz98_4); (try clear hcz98_5); (try clear hfz100_0); (try clear hfz100_1); (try clear hfz100_2); (try clear hfz100_3); (try clear hfz100_4); (try clear hfz100_5); (try clear hfz102_0); (try clear hfz102_1); (try clear hfz102_2); (try clear hfz102_3); (try clear hfz102_4); (try clear hfz102_5); (try clear hfz103_0); (try clear hfz103_1); (try clear hfz103_2); (try clear hfz103_3); (try clear hfz103_4); (try clear hfz103_5); (try clear hfz10_0); (try clear hfz10_1); (try clear hfz10_2); (try clear hfz10_3); (try clear hfz10_4); (try clear hfz10_5); (try clear hfz12_0); (try clear hfz12_1); (try clear hfz12_2); (try clear hfz12_3); (try clear hfz12_4); (try clear hfz12_5); (try clear hfz15_0); (try clear hfz15_1); (try clear hfz15_2); (try clear hfz15_3); (try clear hfz15_4); (try clear hfz15_5); (try clear hfz23_0); (try clear hfz23_1); (try clear hfz23_2); (try clear hfz23_3); (try clear hfz23_4); (try clear hfz23_5); (try clear hfz24_0); (try clear hfz24_1); (try clear hfz24_2); (try clear hfz24_3); (try clear hfz24_4); (try clear hfz24_5); (try clear hfz29_0); (try clear hfz29_1); (try clear hfz38_0); (try clear hfz38_1); (try clear hfz38_2); (try clear hfz38_3); (try clear hfz38_4); (try clear hfz38_5); (try clear hfz39_0); (try clear hfz39_1); (try clear hfz39_2); (try clear hfz39_3); (try clear hfz39_4); (try clear hfz39_5); (try clear hfz44_0); (try clear hfz44_1); (try clear hfz61_0); (try clear hfz61_1); (try clear hfz61_2); (try clear hfz61_3); (try clear hfz61_4); (try clear hfz61_5); (try clear hfz63_0); (try clear hfz63_1); (try clear hfz63_2); (try clear hfz63_3); (try clear hfz63_4); (try clear hfz63_5); (try clear hfz67_0); (try clear hfz67_1); (try clear hfz67_2); (try clear hfz67_3); (try clear hfz67_4); (try clear hfz67_5); (try clear hfz69_0); (try clear hfz69_1); (try clear hfz69_2); (try clear hfz69_3); (try clear hfz69_4); (try clear hfz69_5); (try clear hfz75_0); (try clear hfz75_1); (try clear hfz75_2); (try clear hfz75_3); (try clear hfz75_4); (try clear hfz75_5); (try clear hfz77_0); (try clear hfz77_1); (try clear hfz77_2); (try clear hfz77_3); (try clear hfz77_4); (try clear hfz77_5); (try clear hfz79_0); (try clear hfz79_1); (try clear hfz79_2); (try clear hfz79_3); (try clear hfz79_4); (try clear hfz79_5); (try clear hfz82_0); (try clear hfz82_1); (try clear hfz82_2); (try clear hfz82_3); (try clear hfz82_4); (try clear hfz82_5); (try clear hfz84_0); (try clear hfz84_1); (try clear hfz84_2); (try clear hfz84_3); (try clear hfz84_4); (try clear hfz84_5); (try clear hfz86_0); (try clear hfz86_1); (try clear hfz86_2); (try clear hfz86_3); (try clear hfz86_4); (try clear hfz86_5); (try clear hfz89_0); (try clear hfz89_1); (try clear hfz89_2); (try clear hfz89_3); (try clear hfz89_4); (try clear hfz89_5); (try clear hfz91_0); (try clear hfz91_1); (try clear hfz91_2); (try clear hfz91_3); (try clear hfz91_4); (try clear hfz91_5); (try clear hfz98_0); (try clear hfz98_1); (try clear hfz98_2); (try clear hfz98_3); (try clear hfz98_4); (try clear hfz98_5); (try clear p2)
           obtain ⟨kq, x76_106, rfl, HA, HJ106, BK188, BK189, BK194, HB⟩ := hcut
           cases kq with
           | zero => exact absurd HA.out (by simp [spec_Duty.j5])
           | succ kj106 =>
            have H := HA.out
            clear HA
            simp only [spec_Duty.j5] at H
            by_cases c109 : x76_106 = true
            ·subst c109
             have H1 : (some 1) = some r := by rw [if_pos rfl] at H; exact H
             clear H
             have H := H1
             clear H1
             obtain rfl := Option.some.inj H
             go_wp2
             go_ret
             exact ⟨by first | rfl | (simp [errW_none, errW_some] <;> rfl) | (simp [*, errW_none, errW_some] <;> rfl), by repeat (first | (with_reducible first | exact HB.out | apply below_alloc | apply pw_below_drewN | apply below_drew1 | refine below_set ?_ GE188.out | refine below_set ?_ GE189.out | refine below_set ?_ GE194.out) | exact HB.out)⟩
            ·replace c109 := Bool.eq_false_iff.mpr c109
             subst c109
             have H1 : (if a0_5 < a1_5 then (some 2) else (if a0_5 > a1_5 then (some 1) else (some 3))) = some r := by rw [if_neg (show ¬ (false = true) by decide)] at H; exact H
             clear H
             have H := H1
             clear H1
             by_cases c110 : a0_5 < a1_5
             ·rw [if_pos c110] at H
              have c110b0 : decide (a0_5 < a1_5) = true := decide_eq_true c110
              clear c110
              obtain rfl := Option.some.inj H
              have hnb111 := NB188_189.out
              have hnc111 := NB189_188.out
              have hnb112 := NB188_194.out
              have hnc112 := NB194_188.out
              have hcz113_0 : wc.cell? ⟨gb188, 0, none⟩ = some (.int .i64 a0_0) := bc BK188.out 0
              have hcz113_1 : wc.cell? ⟨gb188, 1, none⟩ = some (.int .i64 a0_1) := bc BK188.out 1
              have hcz113_2 : wc.cell? ⟨gb188, 2, none⟩ = some (.int .i64 a0_2) := bc BK188.out 2
              have hcz113_3 : wc.cell? ⟨gb188, 3, none⟩ = some (.int .i64 a0_3) := bc BK188.out 3
              have hcz113_4 : wc.cell? ⟨gb188, 4, none⟩ = some (.int .i64 a0_4) := bc BK188.out 4
              have hcz113_5 : wc.cell? ⟨gb188, 5, none⟩ = some (.int .i64 a0_5) := bc BK188.out 5
              have hfz113_0 := blk_frozen BK188.out 0
              have hfz113_1 := blk_frozen BK188.out 1
              have hfz113_2 := blk_frozen BK188.out 2
              have hfz113_3 := blk_frozen BK188.out 3
              have hfz113_4 := blk_frozen BK188.out 4
              have hfz113_5 := blk_frozen BK188.out 5
              have hnb114 := NB189_194.out
              have hnc114 := NB194_189.out
              have hcz115_0 : wc.cell? ⟨gb189, 0, none⟩ = some (.int .i64 a1_0) := bc BK189.out 0
              have hcz115_1 : wc.cell? ⟨gb189, 1, none⟩ = some (.int .i64 a1_1) := bc BK189.out 1
              have hcz115_2 : wc.cell? ⟨gb189, 2, none⟩ = some (.int .i64 a1_2) := bc BK189.out 2
              have hcz115_3 : wc.cell? ⟨gb189, 3, none⟩ = some (.int .i64 a1_3) := bc BK189.out 3
              have hcz115_4 : wc.cell? ⟨gb189, 4, none⟩ = some (.int .i64 a1_4) := bc BK189.out 4
              have hcz115_5 : wc.cell? ⟨gb189, 5, none⟩ = some (.int .i64 a1_5) := bc BK189.out 5
              have hfz115_0 := blk_frozen BK189.out 0
              have hfz115_1 := blk_frozen BK189.out 1
              have hfz115_2 := blk_frozen BK189.out 2
              have hfz115_3 := blk_frozen BK189.out 3
              have hfz115_4 := blk_frozen BK189.out 4
              have hfz115_5 := blk_frozen BK189.out 5
              go_wp2
              go_ret
              exact ⟨by first | rfl | (simp [errW_none, errW_some] <;> rfl) | (simp [*, errW_none, errW_some] <;> rfl), by repeat (first | (with_reducible first | exact HB.out | apply below_alloc | apply pw_below_drewN | apply below_drew1 | refine below_set ?_ GE188.out | refine below_set ?_ GE189.out | refine below_set ?_ GE194.out) | exact HB.out)⟩
             ·rw [if_neg c110] at H
              have c110b0 : decide (a0_5 < a1_5) = false := decide_eq_false c110
              clear c110
              by_cases c116 : a0_5 > a1_5
              ·rw [if_pos c116] at H
               have c116b0 : decide (a1_5 < a0_5) = true := decide_eq_true c116
               clear c116
               obtain rfl := Option.some.inj H
               have hnb117 := NB188_189.out
               have hnc117 := NB189_188.out
               have hnb118 := NB188_194.out
               have hnc118 := NB194_188.out
               have hcz119_0 : wc.cell? ⟨gb188, 0, none⟩ = some (.int .i64 a0_0) := bc BK188.out 0
               have hcz119_1 : wc.cell? ⟨gb188, 1, none⟩ = some (.int .i64 a0_1) := bc BK188.out 1
               have hcz119_2 : wc.cell? ⟨gb188, 2, none⟩ = some (.int .i64 a0_2) := bc BK188.out 2
               have hcz119_3 : wc.cell? ⟨gb188, 3, none⟩ = some (.int .i64 a0_3) := bc BK188.out 3
               have hcz119_4 : wc.cell? ⟨gb188, 4, none⟩ = some (.int .i64 a0_4) := bc BK188.out 4
               have hcz119_5 : wc.cell? ⟨gb188, 5, none⟩ = some (.int .i64 a0_5) := bc BK188.out 5
               have hfz119_0 := blk_frozen BK188.out 0
               have hfz119_1 := blk_frozen BK188.out 1
               have hfz119_2 := blk_frozen BK188.out 2
               have hfz119_3 := blk_frozen BK188.out 3
               have hfz119_4 := blk_frozen BK188.out 4
               have hfz119_5 := blk_frozen BK188.out 5
               have hnb120 := NB189_194.out
               have hnc120 := NB194_189.out
               have hcz121_0 : wc.cell? ⟨gb189, 0, none⟩ = some (.int .i64 a1_0) := bc BK189.out 0
               have hcz121_1 : wc.cell? ⟨gb189, 1, none⟩ = some (.int .i64 a1_1) := bc BK189.out 1
               have hcz121_2 : wc.cell? ⟨gb189, 2, none⟩ = some (.int .i64 a1_2) := bc BK189.out 2
               have hcz121_3 : wc.cell? ⟨gb189, 3, none⟩ = some (.int .i64 a1_3) := bc BK189.out 3
               have hcz121_4 : wc.cell? ⟨gb189, 4, none⟩ = some (.int .i64 a1_4) := bc BK189.out 4
               have hcz121_5 : wc.cell? ⟨gb189, 5, none⟩ = some (.int .i64 a1_5) := bc BK189.out 5
               have hfz121_0 := blk_frozen BK189.out 0
               have hfz121_1 := blk_frozen BK189.out 1
               have hfz121_2 := blk_frozen BK189.out 2
               have hfz121_3 := blk_frozen BK189.out 3
               have hfz121_4 := blk_frozen BK189.out 4
               have hfz121_5 := blk_frozen BK189.out 5
               go_wp2
               go_ret
               exact ⟨by first | rfl | (simp [errW_none, errW_some] <;> rfl) | (simp [*, errW_none, errW_some] <;> rfl), by repeat (first | (with_reducible first | exact HB.out | apply below_alloc | apply pw_below_drewN | apply below_drew1 | refine below_set ?_ GE188.out | refine below_set ?_ GE189.out | refine below_set ?_ GE194.out) | exact HB.out)⟩
              ·rw [if_neg c116] at H
               have c116b0 : decide (a1_5 < a0_5) = false := decide_eq_false c116
               clear c116
               obtain rfl := Option.some.inj H
               have hnb122 := NB188_189.out
               have hnc122 := NB189_188.out
               have hnb123 := NB188_194.out
               have hnc123 := NB194_188.out
               have hcz124_0 : wc.cell? ⟨gb188, 0, none⟩ = some (.int .i64 a0_0) := bc BK188.out 0
               have hcz124_1 : wc.cell? ⟨gb188, 1, none⟩ = some (.int .i64 a0_1) := bc BK188.out 1
               have hcz124_2 : wc.cell? ⟨gb188, 2, none⟩ = some (.int .i64 a0_2) := bc BK188.out 2
               have hcz124_3 : wc.cell? ⟨gb188, 3, none⟩ = some (.int .i64 a0_3) := bc BK188.out 3
               have hcz124_4 : wc.cell? ⟨gb188, 4, none⟩ = some (.int .i64 a0_4) := bc BK188.out 4
               have hcz124_5 : wc.cell? ⟨gb188, 5, none⟩ = some (.int .i64 a0_5) := bc BK188.out 5
               have hfz124_0 := blk_frozen BK188.out 0
               have hfz124_1 := blk_frozen BK188.out 1
               have hfz124_2 := blk_frozen BK188.out 2
               have hfz124_3 := blk_frozen BK188.out 3
               have hfz124_4 := blk_frozen BK188.out 4
               have hfz124_5 := blk_frozen BK188.out 5
               have hnb125 := NB189_194.out
               have hnc125 := NB194_189.out
               have hcz126_0 : wc.cell? ⟨gb189, 0, none⟩ = some (.int .i64 a1_0) := bc BK189.out 0
               have hcz126_1 : wc.cell? ⟨gb189, 1, none⟩ = some (.int .i64 a1_1) := bc BK189.out 1
               have hcz126_2 : wc.cell? ⟨gb189, 2, none⟩ = some (.int .i64 a1_2) := bc BK189.out 2
               have hcz126_3 : wc.cell? ⟨gb189, 3, none⟩ = some (.int .i64 a1_3) := bc BK189.out 3
               have hcz126_4 : wc.cell? ⟨gb189, 4, none⟩ = some (.int .i64 a1_4) := bc BK189.out 4
               have hcz126_5 : wc.cell? ⟨gb189, 5, none⟩ = some (.int .i64 a1_5) := bc BK189.out 5
               have hfz126_0 := blk_frozen BK189.out 0
               have hfz126_1 := blk_frozen BK189.out 1
               have hfz126_2 := blk_frozen BK189.out 2
               have hfz126_3 := blk_frozen BK189.out 3
               have hfz126_4 := blk_frozen BK189.out 4
               have hfz126_5 := blk_frozen BK189.out 5
               go_wp2
               go_ret
               exact ⟨by first | rfl | (simp [errW_none, errW_some] <;> rfl) | (simp [*, errW_none, errW_some] <;> rfl), by repeat (first | (with_reducible first | exact HB.out | apply below_alloc | apply pw_below_drewN | apply below_drew1 | refine below_set ?_ GE188.out | refine below_set ?_ GE189.out | refine below_set ?_ GE194.out) | exact HB.out)⟩

end Go.Proofs.Ytfbokdbaondjdaa.PV1
