import Derived.Test.YtfbokdbaondjdaaBFnExactDuties2
-- printed for this claim out of the translation
namespace Go.Proofs.Ytfbokdbaondjdaa.PV1
open Go.RowKit Go.Proofs.YtfbokdbaondjdaaW.PrintWords Go.Proofs.YtfbokdbaondjdaaW.PrintLast Go.Proofs.YtfbokdbaondjdaaW.PrintMore Go.Proofs.Ytfbokdbaondjdaa.Cz Go.Proofs.Ytfbokdbaondjdaa.Cz
attribute [local go_sem] max2_int min2_int max_two min_two max_three min_three max_four min_four
set_option linter.unusedVariables false
set_option linter.unusedSimpArgs false

attribute [local go_sem high] eqA89
theorem s2_0 {p : Prop} (h : p := by repeat (first | (with_reducible first | exact HB.out | apply below_alloc | apply pw_below_drewN | apply below_drew1) | exact HB.out)) : p := h
theorem s2_1 {p : Prop} (h : p := by (try simp only [List.map_toArray, List.map_cons, List.map_nil]); first | done | rfl | (simp only [List.length_drop, List.length_take]; rfl)) : p := h
theorem s2_2 {p : Prop} (h : p := by repeat (first | (with_reducible first | exact HB.out | apply below_alloc | apply pw_below_drewN | apply below_drew1 | refine below_set ?_ GE128.out | refine below_set ?_ GE129.out) | exact HB.out)) : p := h
theorem s2_3 {p : Prop} (h : p := by repeat (first | (with_reducible first | exact HB.out | apply below_alloc | apply pw_below_drewN | apply below_drew1 | refine below_set ?_ GE121.out) | exact HB.out)) : p := h
theorem s2_4 {p : Prop} (h : p := by repeat (first | (with_reducible first | exact HB.out | apply below_alloc | apply pw_below_drewN | apply below_drew1 | refine below_set ?_ GE128.out) | exact HB.out)) : p := h
theorem s2_5 {p : Prop} (h : p := by repeat (first | (with_reducible first | exact HB.out | apply below_alloc | apply pw_below_drewN | apply below_drew1 | refine below_set ?_ GE121.out | refine below_set ?_ GE122.out) | exact HB.out)) : p := h
theorem s2_6 {p : Prop} (h : p := by repeat (first | (with_reducible first | exact HB.out | apply below_alloc | apply pw_below_drewN | apply below_drew1 | refine below_set ?_ GE110.out | refine below_set ?_ GE111.out) | exact HB.out)) : p := h
set_option maxRecDepth 100000 in
theorem t2_0 {p : Prop} (h : p := by
 simp only [Act.put, y1, y2, y3, i64_w, i32_w]
 rfl) : p := h
set_option maxRecDepth 100000 in
theorem t2_1 {p : Prop} (h : p := by
 rintro w' ⟨s0, s1, s2, s3⟩
 go_simp
 with_reducible rfl) : p := h
/-! ### impl_in: function 56 -/
def impl_in.f (a0 : Int) (a1 : Int) (a2 : Int) : Option (Bool) := if a0 ≥ a1 then (some (decide (a0 ≤ a2))) else (some false)
set_option maxHeartbeats 8000000 in
set_option maxRecDepth 100000 in
theorem impl_in.calls (a0 : Int) (a1 : Int) (a2 : Int) (r : Bool) (w : World) (h : impl_in.f a0 a1 a2 = some r) :
  Calls Try.prog 56 #[.int .i64 a0, .int .i64 a1, .int .i64 a2] w fun e w' => e = .returned (.bool r) ∧ Drawn0 w w' := by
 have H : (if a0 ≥ a1 then (some (decide (a0 ≤ a2))) else (some false)) = some r := h
 clear h
 by_cases c4 : a0 ≥ a1
 ·rw [if_pos c4] at H
  have c4b0 : decide (a1 ≤ a0) = true := decide_eq_true c4
  clear c4
  obtain rfl := Option.some.inj H
  go_enter Try.func56, Try.ntmps56
  go_wp2
  go_ret
  exact ⟨by first | rfl | (simp; done) | (simp [*]; done), by repeat (first | exact Drawn0.refl _ | apply Drawn0.step)⟩
 ·rw [if_neg c4] at H
  have c4b0 : decide (a1 ≤ a0) = false := decide_eq_false c4
  clear c4
  obtain rfl := Option.some.inj H
  go_enter Try.func56, Try.ntmps56
  go_wp2
  go_ret
  exact ⟨by first | rfl | (simp; done) | (simp [*]; done), by repeat (first | exact Drawn0.refl _ | apply Drawn0.step)⟩

/-! ### impl_ShipOk: function 17 -/
def impl_ShipOk.f (a0_0 : Int) (a0_1 : Int) (a0_2 : Int) (a0_3 : Int) (a0_4 : Int) (a0_5 : Int) : Option (Bool) := (impl_in.f a0_0 (-100000) 100000).bind fun t102 => (if t102 = true then ((impl_in.f a0_1 (-100000) 100000).bind fun t103 => (if t103 = true then ((impl_in.f a0_2 (-1000) 1000).bind fun t104 => (if t104 = true then ((impl_in.f a0_3 (-1000) 1000).bind fun t105 => (if t105 = true then (if a0_2 = 0 then (if a0_3 = 0 then (some false) else ((impl_in.f a0_4 1 5).bind fun t106 => (if t106 = true then ((impl_in.f a0_5 0 1000).bind fun t107 => (some t107)) else (some false)))) else ((impl_in.f a0_4 1 5).bind fun t108 => (if t108 = true then ((impl_in.f a0_5 0 1000).bind fun t109 => (some t109)) else (some false)))) else (some false))) else (some false))) else (some false))) else (some false))
set_option maxHeartbeats 8000000 in
set_option maxRecDepth 100000 in
theorem impl_ShipOk.calls (a0_0 : Int) (a0_1 : Int) (a0_2 : Int) (a0_3 : Int) (a0_4 : Int) (a0_5 : Int) (r : Bool) (w : World) (h : impl_ShipOk.f a0_0 a0_1 a0_2 a0_3 a0_4 a0_5 = some r) :
  Calls Try.prog 17 #[.agg #[.int .i64 a0_0, .int .i64 a0_1, .int .i64 a0_2, .int .i64 a0_3, .int .i64 a0_4, .int .i64 a0_5]] w fun e w' => e = .returned (.bool r) ∧ Below w.heap.size w w' := by
 have hu25 := Try.underlying25
 have HB := Aside0.mk (Below.refl w.heap.size w)
 have H : ((impl_in.f a0_0 (-100000) 100000).bind fun t102 => (if t102 = true then ((impl_in.f a0_1 (-100000) 100000).bind fun t103 => (if t103 = true then ((impl_in.f a0_2 (-1000) 1000).bind fun t104 => (if t104 = true then ((impl_in.f a0_3 (-1000) 1000).bind fun t105 => (if t105 = true then (if a0_2 = 0 then (if a0_3 = 0 then (some false) else ((impl_in.f a0_4 1 5).bind fun t106 => (if t106 = true then ((impl_in.f a0_5 0 1000).bind fun t107 => (some t107)) else (some false)))) else ((impl_in.f a0_4 1 5).bind fun t108 => (if t108 = true then ((impl_in.f a0_5 0 1000).bind fun t109 => (some t109)) else (some false)))) else (some false))) else (some false))) else (some false))) else (some false))) = some r := h
 clear h
 replace H := Option.bind_eq_some_iff.mp H
 obtain ⟨t102, A20, H⟩ := H
 replace H : (if t102 = true then ((impl_in.f a0_1 (-100000) 100000).bind fun t103 => (if t103 = true then ((impl_in.f a0_2 (-1000) 1000).bind fun t104 => (if t104 = true then ((impl_in.f a0_3 (-1000) 1000).bind fun t105 => (if t105 = true then (if a0_2 = 0 then (if a0_3 = 0 then (some false) else ((impl_in.f a0_4 1 5).bind fun t106 => (if t106 = true then ((impl_in.f a0_5 0 1000).bind fun t107 => (some t107)) else (some false)))) else ((impl_in.f a0_4 1 5).bind fun t108 => (if t108 = true then ((impl_in.f a0_5 0 1000).bind fun t109 => (some t109)) else (some false)))) else (some false))) else (some false))) else (some false))) else (some false)) = some r := H
 have A2 := Aside0.mk A20
 clear A20
 by_cases c3 : t102 = true
 ·subst c3
  have H1 : ((impl_in.f a0_1 (-100000) 100000).bind fun t103 => (if t103 = true then ((impl_in.f a0_2 (-1000) 1000).bind fun t104 => (if t104 = true then ((impl_in.f a0_3 (-1000) 1000).bind fun t105 => (if t105 = true then (if a0_2 = 0 then (if a0_3 = 0 then (some false) else ((impl_in.f a0_4 1 5).bind fun t106 => (if t106 = true then ((impl_in.f a0_5 0 1000).bind fun t107 => (some t107)) else (some false)))) else ((impl_in.f a0_4 1 5).bind fun t108 => (if t108 = true then ((impl_in.f a0_5 0 1000).bind fun t109 => (some t109)) else (some false)))) else (some false))) else (some false))) else (some false))) = some r := by rw [if_pos rfl] at H; exact H
  clear H
  have H := H1
  clear H1
  replace H := Option.bind_eq_some_iff.mp H
  obtain ⟨t103, A40, H⟩ := H
  replace H : (if t103 = true then ((impl_in.f a0_2 (-1000) 1000).bind fun t104 => (if t104 = true then ((impl_in.f a0_3 (-1000) 1000).bind fun t105 => (if t105 = true then (if a0_2 = 0 then (if a0_3 = 0 then (some false) else ((impl_in.f a0_4 1 5).bind fun t106 => (if t106 = true then ((impl_in.f a0_5 0 1000).bind fun t107 => (some t107)) else (some false)))) else ((impl_in.f a0_4 1 5).bind fun t108 => (if t108 = true then ((impl_in.f a0_5 0 1000).bind fun t109 => (some t109)) else (some false)))) else (some false))) else (some false))) else (some false)) = some r := H
  have A4 := Aside0.mk A40
  clear A40
  by_cases c5 : t103 = true
  ·subst c5
   have H1 : ((impl_in.f a0_2 (-1000) 1000).bind fun t104 => (if t104 = true then ((impl_in.f a0_3 (-1000) 1000).bind fun t105 => (if t105 = true then (if a0_2 = 0 then (if a0_3 = 0 then (some false) else ((impl_in.f a0_4 1 5).bind fun t106 => (if t106 = true then ((impl_in.f a0_5 0 1000).bind fun t107 => (some t107)) else (some false)))) else ((impl_in.f a0_4 1 5).bind fun t108 => (if t108 = true then ((impl_in.f a0_5 0 1000).bind fun t109 => (some t109)) else (some false)))) else (some false))) else (some false))) = some r := by rw [if_pos rfl] at H; exact H
   clear H
   have H := H1
   clear H1
   replace H := Option.bind_eq_some_iff.mp H
   obtain ⟨t104, A60, H⟩ := H
   replace H : (if t104 = true then ((impl_in.f a0_3 (-1000) 1000).bind fun t105 => (if t105 = true then (if a0_2 = 0 then (if a0_3 = 0 then (some false) else ((impl_in.f a0_4 1 5).bind fun t106 => (if t106 = true then ((impl_in.f a0_5 0 1000).bind fun t107 => (some t107)) else (some false)))) else ((impl_in.f a0_4 1 5).bind fun t108 => (if t108 = true then ((impl_in.f a0_5 0 1000).bind fun t109 => (some t109)) else (some false)))) else (some false))) else (some false)) = some r := H
   have A6 := Aside0.mk A60
   clear A60
   by_cases c7 : t104 = true
   ·subst c7
    have H1 : ((impl_in.f a0_3 (-1000) 1000).bind fun t105 => (if t105 = true then (if a0_2 = 0 then (if a0_3 = 0 then (some false) else ((impl_in.f a0_4 1 5).bind fun t106 => (if t106 = true then ((impl_in.f a0_5 0 1000).bind fun t107 => (some t107)) else (some false)))) else ((impl_in.f a0_4 1 5).bind fun t108 => (if t108 = true then ((impl_in.f a0_5 0 1000).bind fun t109 => (some t109)) else (some false)))) else (some false))) = some r := by rw [if_pos rfl] at H; exact H
    clear H
    have H := H1
    clear H1
    replace H := Option.bind_eq_some_iff.mp H
    obtain ⟨t105, A80, H⟩ := H
    replace H : (if t105 = true then (if a0_2 = 0 then (if a0_3 = 0 then (some false) else ((impl_in.f a0_4 1 5).bind fun t106 => (if t106 = true then ((impl_in.f a0_5 0 1000).bind fun t107 => (some t107)) else (some false)))) else ((impl_in.f a0_4 1 5).bind fun t108 => (if t108 = true then ((impl_in.f a0_5 0 1000).bind fun t109 => (some t109)) else (some false)))) else (some false)) = some r := H
    have A8 := Aside0.mk A80
    clear A80
    by_cases c9 : t105 = true
    ·subst c9
     have H1 : (if a0_2 = 0 then (if a0_3 = 0 then (some false) else ((impl_in.f a0_4 1 5).bind fun t106 => (if t106 = true then ((impl_in.f a0_5 0 1000).bind fun t107 => (some t107)) else (some false)))) else ((impl_in.f a0_4 1 5).bind fun t108 => (if t108 = true then ((impl_in.f a0_5 0 1000).bind fun t109 => (some t109)) else (some false)))) = some r := by rw [if_pos rfl] at H; exact H
     clear H
     have H := H1
     clear H1
     by_cases c10 : a0_2 = 0
     ·rw [if_pos c10] at H
      have c10b0 : (a0_2 == 0) = true := beq_iff_eq.mpr c10
      have c10b1 : (a0_2 != 0) = false := bne_eq_false_iff_eq.mpr c10
      clear c10
      by_cases c11 : a0_3 = 0
      ·rw [if_pos c11] at H
       have c11b0 : (a0_3 == 0) = true := beq_iff_eq.mpr c11
       have c11b1 : (a0_3 != 0) = false := bne_eq_false_iff_eq.mpr c11
       clear c11
       obtain rfl := Option.some.inj H
       go_enter Try.func17, Try.ntmps17
       go_wp2_with (first | ((with_reducible refine gate_dst (N := 1) rfl ?_); refine box_event ?hg (N := 1) ?hd (cs := #[.int .i64 a0_0, .int .i64 a0_1, .int .i64 a0_2, .int .i64 a0_3, .int .i64 a0_4, .int .i64 a0_5]) (t := 25) ?hr ?_; (case hd => rfl); (case hg => rfl); (case hr => first | (go_simp; done) | (go_simp; rfl)); intro gb101 hg w1 hbox hb; have n0_ := Aside0.mk (below_step s2_0 hb); have n1_ := Aside0.mk (hbox); have n2_ := Aside0.mk (ns hg s2_0 : w.heap.size ≤ gb101); have n3_ := Aside0.mk (ns hg s2_0 : w.heap.size ≤ gb101); clear HB; have HB := n0_; have BK101 := n1_; have GW101 := n2_; have GE101 := n3_; clear n0_ n1_ n2_ n3_; clear hb hbox hg; have hcz13_0 : w1.cell? ⟨gb101, 0, none⟩ = some (.int .i64 a0_0) := bc BK101.out 0; have hcz13_1 : w1.cell? ⟨gb101, 1, none⟩ = some (.int .i64 a0_1) := bc BK101.out 1; have hcz13_2 : w1.cell? ⟨gb101, 2, none⟩ = some (.int .i64 a0_2) := bc BK101.out 2; have hcz13_3 : w1.cell? ⟨gb101, 3, none⟩ = some (.int .i64 a0_3) := bc BK101.out 3; have hcz13_4 : w1.cell? ⟨gb101, 4, none⟩ = some (.int .i64 a0_4) := bc BK101.out 4; have hcz13_5 : w1.cell? ⟨gb101, 5, none⟩ = some (.int .i64 a0_5) := bc BK101.out 5; have hfz13_0 := blk_frozen BK101.out 0; have hfz13_1 := blk_frozen BK101.out 1; have hfz13_2 := blk_frozen BK101.out 2; have hfz13_3 := blk_frozen BK101.out 3; have hfz13_4 := blk_frozen BK101.out 4; have hfz13_5 := blk_frozen BK101.out 5) | ((with_reducible refine gate_callee (f := 56) rfl ?_); refine goesL_ (some 5) rfl rfl Try.func56 (by kernel_rfl) rfl #[.int .i64 a0_0, .int .i64 (-100000), .int .i64 100000] rfl s2_1 ?_; (with_reducible refine (impl_in.calls a0_0 (-100000) 100000 true _ A2.out).mono ?_); rintro e w' ⟨rfl, ⟨nd, rfl⟩⟩; refine ⟨_, rfl, ?_⟩) | (go_at_call 56; (with_reducible refine (impl_in.calls a0_1 (-100000) 100000 true _ A4.out).mono ?_); rintro e w' ⟨rfl, ⟨nd, rfl⟩⟩) | (go_at_call 56; (with_reducible refine (impl_in.calls a0_2 (-1000) 1000 true _ A6.out).mono ?_); rintro e w' ⟨rfl, ⟨nd, rfl⟩⟩) | (go_at_call 56; (with_reducible refine (impl_in.calls a0_3 (-1000) 1000 true _ A8.out).mono ?_); rintro e w' ⟨rfl, ⟨nd, rfl⟩⟩))
       go_ret
       exact ⟨by first | rfl | (simp [errW_none, errW_some] <;> rfl) | (simp [*, errW_none, errW_some] <;> rfl), by repeat (first | (with_reducible first | exact HB.out | apply below_alloc | apply pw_below_drewN | apply below_drew1 | refine below_set ?_ GE101.out) | exact HB.out)⟩
      ·rw [if_neg c11] at H
       have c11b0 : (a0_3 == 0) = false := beq_eq_false_iff_ne.mpr c11
       have c11b1 : (a0_3 != 0) = true := bne_iff_ne.mpr c11
       replace H := Option.bind_eq_some_iff.mp H
       obtain ⟨t106, A140, H⟩ := H
       replace H : (if t106 = true then ((impl_in.f a0_5 0 1000).bind fun t107 => (some t107)) else (some false)) = some r := H
       have A14 := Aside0.mk A140
       clear A140
       by_cases c15 : t106 = true
       ·subst c15
        have H1 : ((impl_in.f a0_5 0 1000).bind fun t107 => (some t107)) = some r := by rw [if_pos rfl] at H; exact H
        clear H
        have H := H1
        clear H1
        replace H := Option.bind_eq_some_iff.mp H
        obtain ⟨t107, A160, H⟩ := H
        replace H : (some t107) = some r := H
        have A16 := Aside0.mk A160
        clear A160
        obtain rfl := Option.some.inj H
        go_enter Try.func17, Try.ntmps17
        go_wp2_with (first | ((with_reducible refine gate_dst (N := 1) rfl ?_); refine box_event ?hg (N := 1) ?hd (cs := #[.int .i64 a0_0, .int .i64 a0_1, .int .i64 a0_2, .int .i64 a0_3, .int .i64 a0_4, .int .i64 a0_5]) (t := 25) ?hr ?_; (case hd => rfl); (case hg => rfl); (case hr => first | (go_simp; done) | (go_simp; rfl)); intro gb101 hg w1 hbox hb; have n0_ := Aside0.mk (below_step s2_0 hb); have n1_ := Aside0.mk (hbox); have n2_ := Aside0.mk (ns hg s2_0 : w.heap.size ≤ gb101); have n3_ := Aside0.mk (ns hg s2_0 : w.heap.size ≤ gb101); clear HB; have HB := n0_; have BK101 := n1_; have GW101 := n2_; have GE101 := n3_; clear n0_ n1_ n2_ n3_; clear hb hbox hg; have hcz18_0 : w1.cell? ⟨gb101, 0, none⟩ = some (.int .i64 a0_0) := bc BK101.out 0; have hcz18_1 : w1.cell? ⟨gb101, 1, none⟩ = some (.int .i64 a0_1) := bc BK101.out 1; have hcz18_2 : w1.cell? ⟨gb101, 2, none⟩ = some (.int .i64 a0_2) := bc BK101.out 2; have hcz18_3 : w1.cell? ⟨gb101, 3, none⟩ = some (.int .i64 a0_3) := bc BK101.out 3; have hcz18_4 : w1.cell? ⟨gb101, 4, none⟩ = some (.int .i64 a0_4) := bc BK101.out 4; have hcz18_5 : w1.cell? ⟨gb101, 5, none⟩ = some (.int .i64 a0_5) := bc BK101.out 5; have hfz18_0 := blk_frozen BK101.out 0; have hfz18_1 := blk_frozen BK101.out 1; have hfz18_2 := blk_frozen BK101.out 2; have hfz18_3 := blk_frozen BK101.out 3; have hfz18_4 := blk_frozen BK101.out 4; have hfz18_5 := blk_frozen BK101.out 5) | ((with_reducible refine gate_callee (f := 56) rfl ?_); refine goesL_ (some 5) rfl rfl Try.func56 (by kernel_rfl) rfl #[.int .i64 a0_0, .int .i64 (-100000), .int .i64 100000] rfl s2_1 ?_; (with_reducible refine (impl_in.calls a0_0 (-100000) 100000 true _ A2.out).mono ?_); rintro e w' ⟨rfl, ⟨nd, rfl⟩⟩; refine ⟨_, rfl, ?_⟩) | (go_at_call 56; (with_reducible refine (impl_in.calls a0_1 (-100000) 100000 true _ A4.out).mono ?_); rintro e w' ⟨rfl, ⟨nd, rfl⟩⟩) | (go_at_call 56; (with_reducible refine (impl_in.calls a0_2 (-1000) 1000 true _ A6.out).mono ?_); rintro e w' ⟨rfl, ⟨nd, rfl⟩⟩) | (go_at_call 56; (with_reducible refine (impl_in.calls a0_3 (-1000) 1000 true _ A8.out).mono ?_); rintro e w' ⟨rfl, ⟨nd, rfl⟩⟩) | (go_at_call 56; (with_reducible refine (impl_in.calls a0_4 1 5 true _ A14.out).mono ?_); rintro e w' ⟨rfl, ⟨nd, rfl⟩⟩) | (go_at_call 56; (with_reducible refine (impl_in.calls a0_5 0 1000 t107 _ A16.out).mono ?_); rintro e w' ⟨rfl, ⟨nd, rfl⟩⟩))
        go_ret
        exact ⟨by first | rfl | (simp [errW_none, errW_some] <;> rfl) | (simp [*, errW_none, errW_some] <;> rfl), by repeat (first | (with_reducible first | exact HB.out | apply below_alloc | apply pw_below_drewN | apply below_drew1 | refine below_set ?_ GE101.out) | exact HB.out)⟩
       ·replace c15 := Bool.eq_false_iff.mpr c15
        subst c15
        have H1 : (some false) = some r := by rw [if_neg (show ¬ (false = true) by decide)] at H; exact H
        clear H
        have H := H1
        clear H1
        obtain rfl := Option.some.inj H
        go_enter Try.func17, Try.ntmps17
        go_wp2_with (first | ((with_reducible refine gate_dst (N := 1) rfl ?_); refine box_event ?hg (N := 1) ?hd (cs := #[.int .i64 a0_0, .int .i64 a0_1, .int .i64 a0_2, .int .i64 a0_3, .int .i64 a0_4, .int .i64 a0_5]) (t := 25) ?hr ?_; (case hd => rfl); (case hg => rfl); (case hr => first | (go_simp; done) | (go_simp; rfl)); intro gb101 hg w1 hbox hb; have n0_ := Aside0.mk (below_step s2_0 hb); have n1_ := Aside0.mk (hbox); have n2_ := Aside0.mk (ns hg s2_0 : w.heap.size ≤ gb101); have n3_ := Aside0.mk (ns hg s2_0 : w.heap.size ≤ gb101); clear HB; have HB := n0_; have BK101 := n1_; have GW101 := n2_; have GE101 := n3_; clear n0_ n1_ n2_ n3_; clear hb hbox hg; have hcz20_0 : w1.cell? ⟨gb101, 0, none⟩ = some (.int .i64 a0_0) := bc BK101.out 0; have hcz20_1 : w1.cell? ⟨gb101, 1, none⟩ = some (.int .i64 a0_1) := bc BK101.out 1; have hcz20_2 : w1.cell? ⟨gb101, 2, none⟩ = some (.int .i64 a0_2) := bc BK101.out 2; have hcz20_3 : w1.cell? ⟨gb101, 3, none⟩ = some (.int .i64 a0_3) := bc BK101.out 3; have hcz20_4 : w1.cell? ⟨gb101, 4, none⟩ = some (.int .i64 a0_4) := bc BK101.out 4; have hcz20_5 : w1.cell? ⟨gb101, 5, none⟩ = some (.int .i64 a0_5) := bc BK101.out 5; have hfz20_0 := blk_frozen BK101.out 0; have hfz20_1 := blk_frozen BK101.out 1; have hfz20_2 := blk_frozen BK101.out 2; have hfz20_3 := blk_frozen BK101.out 3; have hfz20_4 := blk_frozen BK101.out 4; have hfz20_5 := blk_frozen BK101.out 5) | ((with_reducible refine gate_callee (f := 56) rfl ?_); refine goesL_ (some 5) rfl rfl Try.func56 (by kernel_rfl) rfl #[.int .i64 a0_0, .int .i64 (-100000), .int .i64 100000] rfl s2_1 ?_; (with_reducible refine (impl_in.calls a0_0 (-100000) 100000 true _ A2.out).mono ?_); rintro e w' ⟨rfl, ⟨nd, rfl⟩⟩; refine ⟨_, rfl, ?_⟩) | (go_at_call 56; (with_reducible refine (impl_in.calls a0_1 (-100000) 100000 true _ A4.out).mono ?_); rintro e w' ⟨rfl, ⟨nd, rfl⟩⟩) | (go_at_call 56; (with_reducible refine (impl_in.calls a0_2 (-1000) 1000 true _ A6.out).mono ?_); rintro e w' ⟨rfl, ⟨nd, rfl⟩⟩) | (go_at_call 56; (with_reducible refine (impl_in.calls a0_3 (-1000) 1000 true _ A8.out).mono ?_); rintro e w' ⟨rfl, ⟨nd, rfl⟩⟩) | (go_at_call 56; (with_reducible refine (impl_in.calls a0_4 1 5 false _ A14.out).mono ?_); rintro e w' ⟨rfl, ⟨nd, rfl⟩⟩))
        go_ret
        exact ⟨by first | rfl | (simp [errW_none, errW_some] <;> rfl) | (simp [*, errW_none, errW_some] <;> rfl), by repeat (first | (with_reducible first | exact HB.out | apply below_alloc | apply pw_below_drewN | apply below_drew1 | refine below_set ?_ GE101.out) | exact HB.out)⟩
     ·rw [if_neg c10] at H
      have c10b0 : (a0_2 == 0) = false := beq_eq_false_iff_ne.mpr c10
      have c10b1 : (a0_2 != 0) = true := bne_iff_ne.mpr c10
      replace H := Option.bind_eq_some_iff.mp H
      obtain ⟨t108, A210, H⟩ := H
      replace H : (if t108 = true then ((impl_in.f a0_5 0 1000).bind fun t109 => (some t109)) else (some false)) = some r := H
      have A21 := Aside0.mk A210
      clear A210
      by_cases c22 : t108 = true
      ·subst c22
       have H1 : ((impl_in.f a0_5 0 1000).bind fun t109 => (some t109)) = some r := by rw [if_pos rfl] at H; exact H
       clear H
       have H := H1
       clear H1
       replace H := Option.bind_eq_some_iff.mp H
       obtain ⟨t109, A230, H⟩ := H
       replace H : (some t109) = some r := H
       have A23 := Aside0.mk A230
       clear A230
       obtain rfl := Option.some.inj H
       go_enter Try.func17, Try.ntmps17
       go_wp2_with (first | ((with_reducible refine gate_dst (N := 1) rfl ?_); refine box_event ?hg (N := 1) ?hd (cs := #[.int .i64 a0_0, .int .i64 a0_1, .int .i64 a0_2, .int .i64 a0_3, .int .i64 a0_4, .int .i64 a0_5]) (t := 25) ?hr ?_; (case hd => rfl); (case hg => rfl); (case hr => first | (go_simp; done) | (go_simp; rfl)); intro gb101 hg w1 hbox hb; have n0_ := Aside0.mk (below_step s2_0 hb); have n1_ := Aside0.mk (hbox); have n2_ := Aside0.mk (ns hg s2_0 : w.heap.size ≤ gb101); have n3_ := Aside0.mk (ns hg s2_0 : w.heap.size ≤ gb101); clear HB; have HB := n0_; have BK101 := n1_; have GW101 := n2_; have GE101 := n3_; clear n0_ n1_ n2_ n3_; clear hb hbox hg; have hcz25_0 : w1.cell? ⟨gb101, 0, none⟩ = some (.int .i64 a0_0) := bc BK101.out 0; have hcz25_1 : w1.cell? ⟨gb101, 1, none⟩ = some (.int .i64 a0_1) := bc BK101.out 1; have hcz25_2 : w1.cell? ⟨gb101, 2, none⟩ = some (.int .i64 a0_2) := bc BK101.out 2; have hcz25_3 : w1.cell? ⟨gb101, 3, none⟩ = some (.int .i64 a0_3) := bc BK101.out 3; have hcz25_4 : w1.cell? ⟨gb101, 4, none⟩ = some (.int .i64 a0_4) := bc BK101.out 4; have hcz25_5 : w1.cell? ⟨gb101, 5, none⟩ = some (.int .i64 a0_5) := bc BK101.out 5; have hfz25_0 := blk_frozen BK101.out 0; have hfz25_1 := blk_frozen BK101.out 1; have hfz25_2 := blk_frozen BK101.out 2; have hfz25_3 := blk_frozen BK101.out 3; have hfz25_4 := blk_frozen BK101.out 4; have hfz25_5 := blk_frozen BK101.out 5) | ((with_reducible refine gate_callee (f := 56) rfl ?_); refine goesL_ (some 5) rfl rfl Try.func56 (by kernel_rfl) rfl #[.int .i64 a0_0, .int .i64 (-100000), .int .i64 100000] rfl s2_1 ?_; (with_reducible refine (impl_in.calls a0_0 (-100000) 100000 true _ A2.out).mono ?_); rintro e w' ⟨rfl, ⟨nd, rfl⟩⟩; refine ⟨_, rfl, ?_⟩) | (go_at_call 56; (with_reducible refine (impl_in.calls a0_1 (-100000) 100000 true _ A4.out).mono ?_); rintro e w' ⟨rfl, ⟨nd, rfl⟩⟩) | (go_at_call 56; (with_reducible refine (impl_in.calls a0_2 (-1000) 1000 true _ A6.out).mono ?_); rintro e w' ⟨rfl, ⟨nd, rfl⟩⟩) | (go_at_call 56; (with_reducible refine (impl_in.calls a0_3 (-1000) 1000 true _ A8.out).mono ?_); rintro e w' ⟨rfl, ⟨nd, rfl⟩⟩) | (go_at_call 56; (with_reducible refine (impl_in.calls a0_4 1 5 true _ A21.out).mono ?_); rintro e w' ⟨rfl, ⟨nd, rfl⟩⟩) | (go_at_call 56; (with_reducible refine (impl_in.calls a0_5 0 1000 t109 _ A23.out).mono ?_); rintro e w' ⟨rfl, ⟨nd, rfl⟩⟩))
       go_ret
       exact ⟨by first | rfl | (simp [errW_none, errW_some] <;> rfl) | (simp [*, errW_none, errW_some] <;> rfl), by repeat (first | (with_reducible first | exact HB.out | apply below_alloc | apply pw_below_drewN | apply below_drew1 | refine below_set ?_ GE101.out) | exact HB.out)⟩
      ·replace c22 := Bool.eq_false_iff.mpr c22
       subst c22
       have H1 : (some false) = some r := by rw [if_neg (show ¬ (false = true) by decide)] at H; exact H
       clear H
       have H := H1
       clear H1
       obtain rfl := Option.some.inj H
       go_enter Try.func17, Try.ntmps17
       go_wp2_with (first | ((with_reducible refine gate_dst (N := 1) rfl ?_); refine box_event ?hg (N := 1) ?hd (cs := #[.int .i64 a0_0, .int .i64 a0_1, .int .i64 a0_2, .int .i64 a0_3, .int .i64 a0_4, .int .i64 a0_5]) (t := 25) ?hr ?_; (case hd => rfl); (case hg => rfl); (case hr => first | (go_simp; done) | (go_simp; rfl)); intro gb101 hg w1 hbox hb; have n0_ := Aside0.mk (below_step s2_0 hb); have n1_ := Aside0.mk (hbox); have n2_ := Aside0.mk (ns hg s2_0 : w.heap.size ≤ gb101); have n3_ := Aside0.mk (ns hg s2_0 : w.heap.size ≤ gb101); clear HB; have HB := n0_; have BK101 := n1_; have GW101 := n2_; have GE101 := n3_; clear n0_ n1_ n2_ n3_; clear hb hbox hg; have hcz27_0 : w1.cell? ⟨gb101, 0, none⟩ = some (.int .i64 a0_0) := bc BK101.out 0; have hcz27_1 : w1.cell? ⟨gb101, 1, none⟩ = some (.int .i64 a0_1) := bc BK101.out 1; have hcz27_2 : w1.cell? ⟨gb101, 2, none⟩ = some (.int .i64 a0_2) := bc BK101.out 2; have hcz27_3 : w1.cell? ⟨gb101, 3, none⟩ = some (.int .i64 a0_3) := bc BK101.out 3; have hcz27_4 : w1.cell? ⟨gb101, 4, none⟩ = some (.int .i64 a0_4) := bc BK101.out 4; have hcz27_5 : w1.cell? ⟨gb101, 5, none⟩ = some (.int .i64 a0_5) := bc BK101.out 5; have hfz27_0 := blk_frozen BK101.out 0; have hfz27_1 := blk_frozen BK101.out 1; have hfz27_2 := blk_frozen BK101.out 2; have hfz27_3 := blk_frozen BK101.out 3; have hfz27_4 := blk_frozen BK101.out 4; have hfz27_5 := blk_frozen BK101.out 5) | ((with_reducible refine gate_callee (f := 56) rfl ?_); refine goesL_ (some 5) rfl rfl Try.func56 (by kernel_rfl) rfl #[.int .i64 a0_0, .int .i64 (-100000), .int .i64 100000] rfl s2_1 ?_; (with_reducible refine (impl_in.calls a0_0 (-100000) 100000 true _ A2.out).mono ?_); rintro e w' ⟨rfl, ⟨nd, rfl⟩⟩; refine ⟨_, rfl, ?_⟩) | (go_at_call 56; (with_reducible refine (impl_in.calls a0_1 (-100000) 100000 true _ A4.out).mono ?_); rintro e w' ⟨rfl, ⟨nd, rfl⟩⟩) | (go_at_call 56; (with_reducible refine (impl_in.calls a0_2 (-1000) 1000 true _ A6.out).mono ?_); rintro e w' ⟨rfl, ⟨nd, rfl⟩⟩) | (go_at_call 56; (with_reducible refine (impl_in.calls a0_3 (-1000) 1000 true _ A8.out).mono ?_); rintro e w' ⟨rfl, ⟨nd, rfl⟩⟩) | (go_at_call 56; (with_reducible refine (impl_in.calls a0_4 1 5 false _ A21.out).mono ?_); rintro e w' ⟨rfl, ⟨nd, rfl⟩⟩))
       go_ret
       exact ⟨by first | rfl | (simp [errW_none, errW_some] <;> rfl) | (simp [*, errW_none, errW_some] <;> rfl), by repeat (first | (with_reducible first | exact HB.out | apply below_alloc | apply pw_below_drewN | apply below_drew1 | refine below_set ?_ GE101.out) | exact HB.out)⟩
    ·replace c9 := Bool.eq_false_iff.mpr c9
     subst c9
     have H1 : (some false) = some r := by rw [if_neg (show ¬ (false = true) by decide)] at H; exact H
     clear H
     have H := H1
     clear H1
     obtain rfl := Option.some.inj H
     go_enter Try.func17, Try.ntmps17
     go_wp2_with (first | ((with_reducible refine gate_dst (N := 1) rfl ?_); refine box_event ?hg (N := 1) ?hd (cs := #[.int .i64 a0_0, .int .i64 a0_1, .int .i64 a0_2, .int .i64 a0_3, .int .i64 a0_4, .int .i64 a0_5]) (t := 25) ?hr ?_; (case hd => rfl); (case hg => rfl); (case hr => first | (go_simp; done) | (go_simp; rfl)); intro gb101 hg w1 hbox hb; have n0_ := Aside0.mk (below_step s2_0 hb); have n1_ := Aside0.mk (hbox); have n2_ := Aside0.mk (ns hg s2_0 : w.heap.size ≤ gb101); have n3_ := Aside0.mk (ns hg s2_0 : w.heap.size ≤ gb101); clear HB; have HB := n0_; have BK101 := n1_; have GW101 := n2_; have GE101 := n3_; clear n0_ n1_ n2_ n3_; clear hb hbox hg; have hcz29_0 : w1.cell? ⟨gb101, 0, none⟩ = some (.int .i64 a0_0) := bc BK101.out 0; have hcz29_1 : w1.cell? ⟨gb101, 1, none⟩ = some (.int .i64 a0_1) := bc BK101.out 1; have hcz29_2 : w1.cell? ⟨gb101, 2, none⟩ = some (.int .i64 a0_2) := bc BK101.out 2; have hcz29_3 : w1.cell? ⟨gb101, 3, none⟩ = some (.int .i64 a0_3) := bc BK101.out 3; have hcz29_4 : w1.cell? ⟨gb101, 4, none⟩ = some (.int .i64 a0_4) := bc BK101.out 4; have hcz29_5 : w1.cell? ⟨gb101, 5, none⟩ = some (.int .i64 a0_5) := bc BK101.out 5; have hfz29_0 := blk_frozen BK101.out 0; have hfz29_1 := blk_frozen BK101.out 1; have hfz29_2 := blk_frozen BK101.out 2; have hfz29_3 := blk_frozen BK101.out 3; have hfz29_4 := blk_frozen BK101.out 4; have hfz29_5 := blk_frozen BK101.out 5) | ((with_reducible refine gate_callee (f := 56) rfl ?_); refine goesL_ (some 5) rfl rfl Try.func56 (by kernel_rfl) rfl #[.int .i64 a0_0, .int .i64 (-100000), .int .i64 100000] rfl s2_1 ?_; (with_reducible refine (impl_in.calls a0_0 (-100000) 100000 true _ A2.out).mono ?_); rintro e w' ⟨rfl, ⟨nd, rfl⟩⟩; refine ⟨_, rfl, ?_⟩) | (go_at_call 56; (with_reducible refine (impl_in.calls a0_1 (-100000) 100000 true _ A4.out).mono ?_); rintro e w' ⟨rfl, ⟨nd, rfl⟩⟩) | (go_at_call 56; (with_reducible refine (impl_in.calls a0_2 (-1000) 1000 true _ A6.out).mono ?_); rintro e w' ⟨rfl, ⟨nd, rfl⟩⟩) | (go_at_call 56; (with_reducible refine (impl_in.calls a0_3 (-1000) 1000 false _ A8.out).mono ?_); rintro e w' ⟨rfl, ⟨nd, rfl⟩⟩))
     go_ret
     exact ⟨by first | rfl | (simp [errW_none, errW_some] <;> rfl) | (simp [*, errW_none, errW_some] <;> rfl), by repeat (first | (with_reducible first | exact HB.out | apply below_alloc | apply pw_below_drewN | apply below_drew1 | refine below_set ?_ GE101.out) | exact HB.out)⟩
   ·replace c7 := Bool.eq_false_iff.mpr c7
    subst c7
    have H1 : (some false) = some r := by rw [if_neg (show ¬ (false = true) by decide)] at H; exact H
    clear H
    have H := H1
    clear H1
    obtain rfl := Option.some.inj H
    go_enter Try.func17, Try.ntmps17
    go_wp2_with (first | ((with_reducible refine gate_dst (N := 1) rfl ?_); refine box_event ?hg (N := 1) ?hd (cs := #[.int .i64 a0_0, .int .i64 a0_1, .int .i64 a0_2, .int .i64 a0_3, .int .i64 a0_4, .int .i64 a0_5]) (t := 25) ?hr ?_; (case hd => rfl); (case hg => rfl); (case hr => first | (go_simp; done) | (go_simp; rfl)); intro gb101 hg w1 hbox hb; have n0_ := Aside0.mk (below_step s2_0 hb); have n1_ := Aside0.mk (hbox); have n2_ := Aside0.mk (ns hg s2_0 : w.heap.size ≤ gb101); have n3_ := Aside0.mk (ns hg s2_0 : w.heap.size ≤ gb101); clear HB; have HB := n0_; have BK101 := n1_; have GW101 := n2_; have GE101 := n3_; clear n0_ n1_ n2_ n3_; clear hb hbox hg; have hcz31_0 : w1.cell? ⟨gb101, 0, none⟩ = some (.int .i64 a0_0) := bc BK101.out 0; have hcz31_1 : w1.cell? ⟨gb101, 1, none⟩ = some (.int .i64 a0_1) := bc BK101.out 1; have hcz31_2 : w1.cell? ⟨gb101, 2, none⟩ = some (.int .i64 a0_2) := bc BK101.out 2; have hcz31_3 : w1.cell? ⟨gb101, 3, none⟩ = some (.int .i64 a0_3) := bc BK101.out 3; have hcz31_4 : w1.cell? ⟨gb101, 4, none⟩ = some (.int .i64 a0_4) := bc BK101.out 4; have hcz31_5 : w1.cell? ⟨gb101, 5, none⟩ = some (.int .i64 a0_5) := bc BK101.out 5; have hfz31_0 := blk_frozen BK101.out 0; have hfz31_1 := blk_frozen BK101.out 1; have hfz31_2 := blk_frozen BK101.out 2; have hfz31_3 := blk_frozen BK101.out 3; have hfz31_4 := blk_frozen BK101.out 4; have hfz31_5 := blk_frozen BK101.out 5) | ((with_reducible refine gate_callee (f := 56) rfl ?_); refine goesL_ (some 5) rfl rfl Try.func56 (by kernel_rfl) rfl #[.int .i64 a0_0, .int .i64 (-100000), .int .i64 100000] rfl s2_1 ?_; (with_reducible refine (impl_in.calls a0_0 (-100000) 100000 true _ A2.out).mono ?_); rintro e w' ⟨rfl, ⟨nd, rfl⟩⟩; refine ⟨_, rfl, ?_⟩) | (go_at_call 56; (with_reducible refine (impl_in.calls a0_1 (-100000) 100000 true _ A4.out).mono ?_); rintro e w' ⟨rfl, ⟨nd, rfl⟩⟩) | (go_at_call 56; (with_reducible refine (impl_in.calls a0_2 (-1000) 1000 false _ A6.out).mono ?_); rintro e w' ⟨rfl, ⟨nd, rfl⟩⟩))
    go_ret
    exact ⟨by first | rfl | (simp [errW_none, errW_some] <;> rfl) | (simp [*, errW_none, errW_some] <;> rfl), by repeat (first | (with_reducible first | exact HB.out | apply below_alloc | apply pw_below_drewN | apply below_drew1 | refine below_set ?_ GE101.out) | exact HB.out)⟩
  ·replace c5 := Bool.eq_false_iff.mpr c5
   subst c5
   have H1 : (some false) = some r := by rw [if_neg (show ¬ (false = true) by decide)] at H; exact H
   clear H
   have H := H1
   clear H1
   obtain rfl := Option.some.inj H
   go_enter Try.func17, Try.ntmps17
   go_wp2_with (first | ((with_reducible refine gate_dst (N := 1) rfl ?_); refine box_event ?hg (N := 1) ?hd (cs := #[.int .i64 a0_0, .int .i64 a0_1, .int .i64 a0_2, .int .i64 a0_3, .int .i64 a0_4, .int .i64 a0_5]) (t := 25) ?hr ?_; (case hd => rfl); (case hg => rfl); (case hr => first | (go_simp; done) | (go_simp; rfl)); intro gb101 hg w1 hbox hb; have n0_ := Aside0.mk (below_step s2_0 hb); have n1_ := Aside0.mk (hbox); have n2_ := Aside0.mk (ns hg s2_0 : w.heap.size ≤ gb101); have n3_ := Aside0.mk (ns hg s2_0 : w.heap.size ≤ gb101); clear HB; have HB := n0_; have BK101 := n1_; have GW101 := n2_; have GE101 := n3_; clear n0_ n1_ n2_ n3_; clear hb hbox hg; have hcz33_0 : w1.cell? ⟨gb101, 0, none⟩ = some (.int .i64 a0_0) := bc BK101.out 0; have hcz33_1 : w1.cell? ⟨gb101, 1, none⟩ = some (.int .i64 a0_1) := bc BK101.out 1; have hcz33_2 : w1.cell? ⟨gb101, 2, none⟩ = some (.int .i64 a0_2) := bc BK101.out 2; have hcz33_3 : w1.cell? ⟨gb101, 3, none⟩ = some (.int .i64 a0_3) := bc BK101.out 3; have hcz33_4 : w1.cell? ⟨gb101, 4, none⟩ = some (.int .i64 a0_4) := bc BK101.out 4; have hcz33_5 : w1.cell? ⟨gb101, 5, none⟩ = some (.int .i64 a0_5) := bc BK101.out 5; have hfz33_0 := blk_frozen BK101.out 0; have hfz33_1 := blk_frozen BK101.out 1; have hfz33_2 := blk_frozen BK101.out 2; have hfz33_3 := blk_frozen BK101.out 3; have hfz33_4 := blk_frozen BK101.out 4; have hfz33_5 := blk_frozen BK101.out 5) | ((with_reducible refine gate_callee (f := 56) rfl ?_); refine goesL_ (some 5) rfl rfl Try.func56 (by kernel_rfl) rfl #[.int .i64 a0_0, .int .i64 (-100000), .int .i64 100000] rfl s2_1 ?_; (with_reducible refine (impl_in.calls a0_0 (-100000) 100000 true _ A2.out).mono ?_); rintro e w' ⟨rfl, ⟨nd, rfl⟩⟩; refine ⟨_, rfl, ?_⟩) | (go_at_call 56; (with_reducible refine (impl_in.calls a0_1 (-100000) 100000 false _ A4.out).mono ?_); rintro e w' ⟨rfl, ⟨nd, rfl⟩⟩))
   go_ret
   exact ⟨by first | rfl | (simp [errW_none, errW_some] <;> rfl) | (simp [*, errW_none, errW_some] <;> rfl), by repeat (first | (with_reducible first | exact HB.out | apply below_alloc | apply pw_below_drewN | apply below_drew1 | refine below_set ?_ GE101.out) | exact HB.out)⟩
 ·replace c3 := Bool.eq_false_iff.mpr c3
  subst c3
  have H1 : (some false) = some r := by rw [if_neg (show ¬ (false = true) by decide)] at H; exact H
  clear H
  have H := H1
  clear H1
  obtain rfl := Option.some.inj H
  go_enter Try.func17, Try.ntmps17
  go_wp2_with (first | ((with_reducible refine gate_dst (N := 1) rfl ?_); refine box_event ?hg (N := 1) ?hd (cs := #[.int .i64 a0_0, .int .i64 a0_1, .int .i64 a0_2, .int .i64 a0_3, .int .i64 a0_4, .int .i64 a0_5]) (t := 25) ?hr ?_; (case hd => rfl); (case hg => rfl); (case hr => first | (go_simp; done) | (go_simp; rfl)); intro gb101 hg w1 hbox hb; have n0_ := Aside0.mk (below_step s2_0 hb); have n1_ := Aside0.mk (hbox); have n2_ := Aside0.mk (ns hg s2_0 : w.heap.size ≤ gb101); have n3_ := Aside0.mk (ns hg s2_0 : w.heap.size ≤ gb101); clear HB; have HB := n0_; have BK101 := n1_; have GW101 := n2_; have GE101 := n3_; clear n0_ n1_ n2_ n3_; clear hb hbox hg; have hcz35_0 : w1.cell? ⟨gb101, 0, none⟩ = some (.int .i64 a0_0) := bc BK101.out 0; have hcz35_1 : w1.cell? ⟨gb101, 1, none⟩ = some (.int .i64 a0_1) := bc BK101.out 1; have hcz35_2 : w1.cell? ⟨gb101, 2, none⟩ = some (.int .i64 a0_2) := bc BK101.out 2; have hcz35_3 : w1.cell? ⟨gb101, 3, none⟩ = some (.int .i64 a0_3) := bc BK101.out 3; have hcz35_4 : w1.cell? ⟨gb101, 4, none⟩ = some (.int .i64 a0_4) := bc BK101.out 4; have hcz35_5 : w1.cell? ⟨gb101, 5, none⟩ = some (.int .i64 a0_5) := bc BK101.out 5; have hfz35_0 := blk_frozen BK101.out 0; have hfz35_1 := blk_frozen BK101.out 1; have hfz35_2 := blk_frozen BK101.out 2; have hfz35_3 := blk_frozen BK101.out 3; have hfz35_4 := blk_frozen BK101.out 4; have hfz35_5 := blk_frozen BK101.out 5) | ((with_reducible refine gate_callee (f := 56) rfl ?_); refine goesL_ (some 5) rfl rfl Try.func56 (by kernel_rfl) rfl #[.int .i64 a0_0, .int .i64 (-100000), .int .i64 100000] rfl s2_1 ?_; (with_reducible refine (impl_in.calls a0_0 (-100000) 100000 false _ A2.out).mono ?_); rintro e w' ⟨rfl, ⟨nd, rfl⟩⟩; refine ⟨_, rfl, ?_⟩))
  go_ret
  exact ⟨by first | rfl | (simp [errW_none, errW_some] <;> rfl) | (simp [*, errW_none, errW_some] <;> rfl), by repeat (first | (with_reducible first | exact HB.out | apply below_alloc | apply pw_below_drewN | apply below_drew1 | refine below_set ?_ GE101.out) | exact HB.out)⟩

/-! ### impl_bearing: function 70 -/
def impl_bearing.f (a0_0 : Int) (a0_1 : Int) (a0_2 : Int) (a0_3 : Int) (a0_4 : Int) (a0_5 : Int) (a1_0 : Int) (a1_1 : Int) (a1_2 : Int) (a1_3 : Int) (a1_4 : Int) (a1_5 : Int) : Option (Int × Int) := some (wrap64 (a0_0 - a1_0), wrap64 (a0_1 - a1_1))
set_option maxHeartbeats 8000000 in
set_option maxRecDepth 100000 in
theorem impl_bearing.calls (a0_0 : Int) (a0_1 : Int) (a0_2 : Int) (a0_3 : Int) (a0_4 : Int) (a0_5 : Int) (a1_0 : Int) (a1_1 : Int) (a1_2 : Int) (a1_3 : Int) (a1_4 : Int) (a1_5 : Int) (r1 : Int) (r2 : Int) (w : World) (h : impl_bearing.f a0_0 a0_1 a0_2 a0_3 a0_4 a0_5 a1_0 a1_1 a1_2 a1_3 a1_4 a1_5 = some (r1, r2)) :
  Calls Try.prog 70 #[.agg #[.int .i64 a0_0, .int .i64 a0_1, .int .i64 a0_2, .int .i64 a0_3, .int .i64 a0_4, .int .i64 a0_5], .agg #[.int .i64 a1_0, .int .i64 a1_1, .int .i64 a1_2, .int .i64 a1_3, .int .i64 a1_4, .int .i64 a1_5]] w fun e w' => e = .returned (.agg #[.int .i64 r1, .int .i64 r2]) ∧ Below w.heap.size w w' := by
 have hu25 := Try.underlying25
 have hu89 := Try.underlying89
 have HB := Aside0.mk (Below.refl w.heap.size w)
 have H : (some (wrap64 (a0_0 - a1_0), wrap64 (a0_1 - a1_1))) = some (r1, r2) := h
 clear h
 simp only [Option.some.injEq, Prod.mk.injEq] at H
 obtain ⟨rfl, rfl⟩ := H
 go_enter Try.func70, Try.ntmps70
 go_wp2_with (first | ((with_reducible refine gate_dst (N := 2) rfl ?_); refine box_event ?hg (N := 2) ?hd (cs := #[.int .i64 a0_0, .int .i64 a0_1, .int .i64 a0_2, .int .i64 a0_3, .int .i64 a0_4, .int .i64 a0_5]) (t := 25) ?hr ?_; (case hd => rfl); (case hg => rfl); (case hr => first | (go_simp; done) | (go_simp; rfl)); intro gb110 hg w1 hbox hb; have n0_ := Aside0.mk (below_step s2_0 hb); have n1_ := Aside0.mk (hbox); have n2_ := Aside0.mk (ns hg s2_0 : w.heap.size ≤ gb110); have n3_ := Aside0.mk (ns hg s2_0 : w.heap.size ≤ gb110); clear HB; have HB := n0_; have BK110 := n1_; have GW110 := n2_; have GE110 := n3_; clear n0_ n1_ n2_ n3_; clear hb hbox hg) | ((with_reducible refine gate_dst (N := 3) rfl ?_); refine box_event ?hg (N := 3) ?hd (cs := #[.int .i64 a1_0, .int .i64 a1_1, .int .i64 a1_2, .int .i64 a1_3, .int .i64 a1_4, .int .i64 a1_5]) (t := 25) ?hr ?_; (case hd => rfl); (case hg => rfl); (case hr => first | (go_simp; done) | (go_simp; rfl)); intro gb111 hg w2 hbox hb; have n0_ := Aside0.mk (bb (zk BK110.out) hb); have n1_ := Aside0.mk (below_step (by repeat (first | (with_reducible first | exact HB.out | apply below_alloc | apply pw_below_drewN | apply below_drew1 | refine below_set ?_ GE110.out) | exact HB.out)) hb); have n2_ := Aside0.mk (hbox); have n3_ := Aside0.mk (ns hg (by repeat (first | (with_reducible first | exact HB.out | apply below_alloc | apply pw_below_drewN | apply below_drew1 | refine below_set ?_ GE110.out) | exact HB.out)) : w.heap.size ≤ gb111); have n4_ := Aside0.mk (ns hg (by repeat (first | (with_reducible first | exact HB.out | apply below_alloc | apply pw_below_drewN | apply below_drew1 | refine below_set ?_ GE110.out) | exact HB.out)) : w.heap.size ≤ gb111); have n5_ := Aside0.mk ((nlt hg (zk BK110.out) : gb110 ≠ gb111)); have n6_ := Aside0.mk ((ngt hg (zk BK110.out) : gb111 ≠ gb110)); clear BK110; clear HB; have BK110 := n0_; have HB := n1_; have BK111 := n2_; have GW111 := n3_; have GE111 := n4_; have NB110_111 := n5_; have NB111_110 := n6_; clear n0_ n1_ n2_ n3_ n4_ n5_ n6_; clear hb hbox hg) | ((with_reducible refine gate_dst (N := 4) rfl ?_); refine box_event ?hg (N := 4) ?hd (cs := #[.int .i64 0, .int .i64 0]) (t := 89) ?hr ?_; (case hd => rfl); (case hg => rfl); (case hr => first | (go_simp; done) | (go_simp; rfl)); intro gb112 hg w3 hbox hb; have n0_ := Aside0.mk (bb (zk BK110.out) hb); have n1_ := Aside0.mk (bb (zk BK111.out) hb); have n2_ := Aside0.mk (below_step s2_6 hb); have n3_ := Aside0.mk (hbox); have n4_ := Aside0.mk (ns hg s2_6 : w.heap.size ≤ gb112); have n5_ := Aside0.mk (ns hg s2_6 : w.heap.size ≤ gb112); have n6_ := Aside0.mk ((nlt hg (zk BK110.out) : gb110 ≠ gb112)); have n7_ := Aside0.mk ((ngt hg (zk BK110.out) : gb112 ≠ gb110)); have n8_ := Aside0.mk ((nlt hg (zk BK111.out) : gb111 ≠ gb112)); have n9_ := Aside0.mk ((ngt hg (zk BK111.out) : gb112 ≠ gb111)); clear BK110; clear BK111; clear HB; have BK110 := n0_; have BK111 := n1_; have HB := n2_; have BK112 := n3_; have GW112 := n4_; have GE112 := n5_; have NB110_112 := n6_; have NB112_110 := n7_; have NB111_112 := n8_; have NB112_111 := n9_; clear n0_ n1_ n2_ n3_ n4_ n5_ n6_ n7_ n8_ n9_; clear hb hbox hg; have hnb6 := NB110_111.out; have hnc6 := NB111_110.out; have hnb7 := NB110_112.out; have hnc7 := NB112_110.out; have hcz8_0 : w3.cell? ⟨gb110, 0, none⟩ = some (.int .i64 a0_0) := bc BK110.out 0; have hcz8_1 : w3.cell? ⟨gb110, 1, none⟩ = some (.int .i64 a0_1) := bc BK110.out 1; have hcz8_2 : w3.cell? ⟨gb110, 2, none⟩ = some (.int .i64 a0_2) := bc BK110.out 2; have hcz8_3 : w3.cell? ⟨gb110, 3, none⟩ = some (.int .i64 a0_3) := bc BK110.out 3; have hcz8_4 : w3.cell? ⟨gb110, 4, none⟩ = some (.int .i64 a0_4) := bc BK110.out 4; have hcz8_5 : w3.cell? ⟨gb110, 5, none⟩ = some (.int .i64 a0_5) := bc BK110.out 5; have hfz8_0 := blk_frozen BK110.out 0; have hfz8_1 := blk_frozen BK110.out 1; have hfz8_2 := blk_frozen BK110.out 2; have hfz8_3 := blk_frozen BK110.out 3; have hfz8_4 := blk_frozen BK110.out 4; have hfz8_5 := blk_frozen BK110.out 5; have hnb9 := NB111_112.out; have hnc9 := NB112_111.out; have hcz10_0 : w3.cell? ⟨gb111, 0, none⟩ = some (.int .i64 a1_0) := bc BK111.out 0; have hcz10_1 : w3.cell? ⟨gb111, 1, none⟩ = some (.int .i64 a1_1) := bc BK111.out 1; have hcz10_2 : w3.cell? ⟨gb111, 2, none⟩ = some (.int .i64 a1_2) := bc BK111.out 2; have hcz10_3 : w3.cell? ⟨gb111, 3, none⟩ = some (.int .i64 a1_3) := bc BK111.out 3; have hcz10_4 : w3.cell? ⟨gb111, 4, none⟩ = some (.int .i64 a1_4) := bc BK111.out 4; have hcz10_5 : w3.cell? ⟨gb111, 5, none⟩ = some (.int .i64 a1_5) := bc BK111.out 5; have hfz10_0 := blk_frozen BK111.out 0; have hfz10_1 := blk_frozen BK111.out 1; have hfz10_2 := blk_frozen BK111.out 2; have hfz10_3 := blk_frozen BK111.out 3; have hfz10_4 := blk_frozen BK111.out 4; have hfz10_5 := blk_frozen BK111.out 5; have hcz11_0 : w3.cell? ⟨gb112, 0, none⟩ = some (.int .i64 0) := bc BK112.out 0; have hcz11_1 : w3.cell? ⟨gb112, 1, none⟩ = some (.int .i64 0) := bc BK112.out 1; have hfz11_0 := blk_frozen BK112.out 0; have hfz11_1 := blk_frozen BK112.out 1))
 refine bodyPost_ret (results_cell_row rfl _ _ gb112 89 #[.int .i64 (wrap64 (a0_0 - a1_0)), .int .i64 (wrap64 (a0_1 - a1_1))] (0, 0) _ rfl (by (with_reducible repeat (first | refine blk_drewN ?_ _ | refine blk_drew ?_ | refine blk_alloc ?_ _)); refine blk_put (cs := #[.int .i64 (wrap64 (a0_0 - a1_0)), .int .i64 0]) ?_ 1 _ rfl; (with_reducible repeat (first | refine blk_drewN ?_ _ | refine blk_drew ?_ | refine blk_alloc ?_ _)); refine blk_put (cs := #[.int .i64 0, .int .i64 0]) ?_ 0 _ rfl; (with_reducible repeat (first | refine blk_drewN ?_ _ | refine blk_drew ?_ | refine blk_alloc ?_ _)); exact BK112.out) Try.underlying89 rfl (by kernel_rfl)) rfl ?_
 exact ⟨by first | rfl | (simp [errW_none, errW_some] <;> rfl) | (simp [*, errW_none, errW_some] <;> rfl), by repeat (first | (with_reducible first | exact HB.out | apply below_alloc | apply pw_below_drewN | apply below_drew1 | refine below_set ?_ GE110.out | refine below_set ?_ GE111.out | refine below_set ?_ GE112.out) | exact HB.out)⟩

/-! ### impl_Ship_way: function 71 -/
def impl_Ship_way.f (a0_0 : Int) (a0_1 : Int) (a0_2 : Int) (a0_3 : Int) (a0_4 : Int) (a0_5 : Int) : Option (Int × Int) := some (a0_2, a0_3)
set_option maxHeartbeats 8000000 in
set_option maxRecDepth 100000 in
theorem impl_Ship_way.calls (a0_0 : Int) (a0_1 : Int) (a0_2 : Int) (a0_3 : Int) (a0_4 : Int) (a0_5 : Int) (r1 : Int) (r2 : Int) (w : World) (h : impl_Ship_way.f a0_0 a0_1 a0_2 a0_3 a0_4 a0_5 = some (r1, r2)) :
  Calls Try.prog 71 #[.agg #[.int .i64 a0_0, .int .i64 a0_1, .int .i64 a0_2, .int .i64 a0_3, .int .i64 a0_4, .int .i64 a0_5]] w fun e w' => e = .returned (.agg #[.int .i64 r1, .int .i64 r2]) ∧ Below w.heap.size w w' := by
 have hu25 := Try.underlying25
 have hu89 := Try.underlying89
 have HB := Aside0.mk (Below.refl w.heap.size w)
 have H : (some (a0_2, a0_3)) = some (r1, r2) := h
 clear h
 simp only [Option.some.injEq, Prod.mk.injEq] at H
 obtain ⟨rfl, rfl⟩ := H
 go_enter Try.func71, Try.ntmps71
 go_wp2_with (first | ((with_reducible refine gate_dst (N := 1) rfl ?_); refine box_event ?hg (N := 1) ?hd (cs := #[.int .i64 a0_0, .int .i64 a0_1, .int .i64 a0_2, .int .i64 a0_3, .int .i64 a0_4, .int .i64 a0_5]) (t := 25) ?hr ?_; (case hd => rfl); (case hg => rfl); (case hr => first | (go_simp; done) | (go_simp; rfl)); intro gb113 hg w1 hbox hb; have n0_ := Aside0.mk (below_step s2_0 hb); have n1_ := Aside0.mk (hbox); have n2_ := Aside0.mk (ns hg s2_0 : w.heap.size ≤ gb113); have n3_ := Aside0.mk (ns hg s2_0 : w.heap.size ≤ gb113); clear HB; have HB := n0_; have BK113 := n1_; have GW113 := n2_; have GE113 := n3_; clear n0_ n1_ n2_ n3_; clear hb hbox hg) | ((with_reducible refine gate_dst (N := 2) rfl ?_); refine box_event ?hg (N := 2) ?hd (cs := #[.int .i64 0, .int .i64 0]) (t := 89) ?hr ?_; (case hd => rfl); (case hg => rfl); (case hr => first | (go_simp; done) | (go_simp; rfl)); intro gb114 hg w2 hbox hb; have n0_ := Aside0.mk (bb (zk BK113.out) hb); have n1_ := Aside0.mk (below_step (by repeat (first | (with_reducible first | exact HB.out | apply below_alloc | apply pw_below_drewN | apply below_drew1 | refine below_set ?_ GE113.out) | exact HB.out)) hb); have n2_ := Aside0.mk (hbox); have n3_ := Aside0.mk (ns hg (by repeat (first | (with_reducible first | exact HB.out | apply below_alloc | apply pw_below_drewN | apply below_drew1 | refine below_set ?_ GE113.out) | exact HB.out)) : w.heap.size ≤ gb114); have n4_ := Aside0.mk (ns hg (by repeat (first | (with_reducible first | exact HB.out | apply below_alloc | apply pw_below_drewN | apply below_drew1 | refine below_set ?_ GE113.out) | exact HB.out)) : w.heap.size ≤ gb114); have n5_ := Aside0.mk ((nlt hg (zk BK113.out) : gb113 ≠ gb114)); have n6_ := Aside0.mk ((ngt hg (zk BK113.out) : gb114 ≠ gb113)); clear BK113; clear HB; have BK113 := n0_; have HB := n1_; have BK114 := n2_; have GW114 := n3_; have GE114 := n4_; have NB113_114 := n5_; have NB114_113 := n6_; clear n0_ n1_ n2_ n3_ n4_ n5_ n6_; clear hb hbox hg; have hnb4 := NB113_114.out; have hnc4 := NB114_113.out; have hcz5_0 : w2.cell? ⟨gb113, 0, none⟩ = some (.int .i64 a0_0) := bc BK113.out 0; have hcz5_1 : w2.cell? ⟨gb113, 1, none⟩ = some (.int .i64 a0_1) := bc BK113.out 1; have hcz5_2 : w2.cell? ⟨gb113, 2, none⟩ = some (.int .i64 a0_2) := bc BK113.out 2; have hcz5_3 : w2.cell? ⟨gb113, 3, none⟩ = some (.int .i64 a0_3) := bc BK113.out 3; have hcz5_4 : w2.cell? ⟨gb113, 4, none⟩ = some (.int .i64 a0_4) := bc BK113.out 4; have hcz5_5 : w2.cell? ⟨gb113, 5, none⟩ = some (.int .i64 a0_5) := bc BK113.out 5; have hfz5_0 := blk_frozen BK113.out 0; have hfz5_1 := blk_frozen BK113.out 1; have hfz5_2 := blk_frozen BK113.out 2; have hfz5_3 := blk_frozen BK113.out 3; have hfz5_4 := blk_frozen BK113.out 4; have hfz5_5 := blk_frozen BK113.out 5; have hcz6_0 : w2.cell? ⟨gb114, 0, none⟩ = some (.int .i64 0) := bc BK114.out 0; have hcz6_1 : w2.cell? ⟨gb114, 1, none⟩ = some (.int .i64 0) := bc BK114.out 1; have hfz6_0 := blk_frozen BK114.out 0; have hfz6_1 := blk_frozen BK114.out 1))
 refine bodyPost_ret (results_cell_row rfl _ _ gb114 89 #[.int .i64 a0_2, .int .i64 a0_3] (0, 0) _ rfl (by (with_reducible repeat (first | refine blk_drewN ?_ _ | refine blk_drew ?_ | refine blk_alloc ?_ _)); refine blk_put (cs := #[.int .i64 a0_2, .int .i64 0]) ?_ 1 _ rfl; (with_reducible repeat (first | refine blk_drewN ?_ _ | refine blk_drew ?_ | refine blk_alloc ?_ _)); refine blk_put (cs := #[.int .i64 0, .int .i64 0]) ?_ 0 _ rfl; (with_reducible repeat (first | refine blk_drewN ?_ _ | refine blk_drew ?_ | refine blk_alloc ?_ _)); exact BK114.out) Try.underlying89 rfl (by kernel_rfl)) rfl ?_
 exact ⟨by first | rfl | (simp [errW_none, errW_some] <;> rfl) | (simp [*, errW_none, errW_some] <;> rfl), by repeat (first | (with_reducible first | exact HB.out | apply below_alloc | apply pw_below_drewN | apply below_drew1 | refine below_set ?_ GE113.out | refine below_set ?_ GE114.out) | exact HB.out)⟩

/-! ### impl_vec_dot: function 72 -/
def impl_vec_dot.f (a0_0 : Int) (a0_1 : Int) (a1_0 : Int) (a1_1 : Int) : Option (Int) := some (wrap64 ((wrap64 (a0_0 * a1_0)) + (wrap64 (a0_1 * a1_1))))
set_option maxHeartbeats 8000000 in
set_option maxRecDepth 100000 in
theorem impl_vec_dot.calls (a0_0 : Int) (a0_1 : Int) (a1_0 : Int) (a1_1 : Int) (r : Int) (w : World) (h : impl_vec_dot.f a0_0 a0_1 a1_0 a1_1 = some r) :
  Calls Try.prog 72 #[.agg #[.int .i64 a0_0, .int .i64 a0_1], .agg #[.int .i64 a1_0, .int .i64 a1_1]] w fun e w' => e = .returned (.int .i64 r) ∧ Below w.heap.size w w' := by
 have hu89 := Try.underlying89
 have HB := Aside0.mk (Below.refl w.heap.size w)
 have H : (some (wrap64 ((wrap64 (a0_0 * a1_0)) + (wrap64 (a0_1 * a1_1))))) = some r := h
 clear h
 obtain rfl := Option.some.inj H
 go_enter Try.func72, Try.ntmps72
 go_wp2_with (first | ((with_reducible refine gate_dst (N := 2) rfl ?_); refine box_event ?hg (N := 2) ?hd (cs := #[.int .i64 a0_0, .int .i64 a0_1]) (t := 89) ?hr ?_; (case hd => rfl); (case hg => rfl); (case hr => first | (go_simp; done) | (go_simp; rfl)); intro gb115 hg w1 hbox hb; have n0_ := Aside0.mk (below_step s2_0 hb); have n1_ := Aside0.mk (hbox); have n2_ := Aside0.mk (ns hg s2_0 : w.heap.size ≤ gb115); have n3_ := Aside0.mk (ns hg s2_0 : w.heap.size ≤ gb115); clear HB; have HB := n0_; have BK115 := n1_; have GW115 := n2_; have GE115 := n3_; clear n0_ n1_ n2_ n3_; clear hb hbox hg) | ((with_reducible refine gate_dst (N := 3) rfl ?_); refine box_event ?hg (N := 3) ?hd (cs := #[.int .i64 a1_0, .int .i64 a1_1]) (t := 89) ?hr ?_; (case hd => rfl); (case hg => rfl); (case hr => first | (go_simp; done) | (go_simp; rfl)); intro gb116 hg w2 hbox hb; have n0_ := Aside0.mk (bb (zk BK115.out) hb); have n1_ := Aside0.mk (below_step (by repeat (first | (with_reducible first | exact HB.out | apply below_alloc | apply pw_below_drewN | apply below_drew1 | refine below_set ?_ GE115.out) | exact HB.out)) hb); have n2_ := Aside0.mk (hbox); have n3_ := Aside0.mk (ns hg (by repeat (first | (with_reducible first | exact HB.out | apply below_alloc | apply pw_below_drewN | apply below_drew1 | refine below_set ?_ GE115.out) | exact HB.out)) : w.heap.size ≤ gb116); have n4_ := Aside0.mk (ns hg (by repeat (first | (with_reducible first | exact HB.out | apply below_alloc | apply pw_below_drewN | apply below_drew1 | refine below_set ?_ GE115.out) | exact HB.out)) : w.heap.size ≤ gb116); have n5_ := Aside0.mk ((nlt hg (zk BK115.out) : gb115 ≠ gb116)); have n6_ := Aside0.mk ((ngt hg (zk BK115.out) : gb116 ≠ gb115)); clear BK115; clear HB; have BK115 := n0_; have HB := n1_; have BK116 := n2_; have GW116 := n3_; have GE116 := n4_; have NB115_116 := n5_; have NB116_115 := n6_; clear n0_ n1_ n2_ n3_ n4_ n5_ n6_; clear hb hbox hg; have hnb5 := NB115_116.out; have hnc5 := NB116_115.out; have hcz6_0 : w2.cell? ⟨gb115, 0, none⟩ = some (.int .i64 a0_0) := bc BK115.out 0; have hcz6_1 : w2.cell? ⟨gb115, 1, none⟩ = some (.int .i64 a0_1) := bc BK115.out 1; have hfz6_0 := blk_frozen BK115.out 0; have hfz6_1 := blk_frozen BK115.out 1; have hcz7_0 : w2.cell? ⟨gb116, 0, none⟩ = some (.int .i64 a1_0) := bc BK116.out 0; have hcz7_1 : w2.cell? ⟨gb116, 1, none⟩ = some (.int .i64 a1_1) := bc BK116.out 1; have hfz7_0 := blk_frozen BK116.out 0; have hfz7_1 := blk_frozen BK116.out 1))
 go_ret
 exact ⟨by first | rfl | (simp [errW_none, errW_some] <;> rfl) | (simp [*, errW_none, errW_some] <;> rfl), by repeat (first | (with_reducible first | exact HB.out | apply below_alloc | apply pw_below_drewN | apply below_drew1 | refine below_set ?_ GE115.out | refine below_set ?_ GE116.out) | exact HB.out)⟩

/-! ### impl_size: function 94 -/
def impl_size.f (a0 : Int) : Option (Int) := if a0 < 0 then (some (wrap64 (-a0))) else (some a0)
set_option maxHeartbeats 8000000 in
set_option maxRecDepth 100000 in
theorem impl_size.calls (a0 : Int) (r : Int) (w : World) (h : impl_size.f a0 = some r) :
  Calls Try.prog 94 #[.int .i64 a0] w fun e w' => e = .returned (.int .i64 r) ∧ Drawn0 w w' := by
 have H : (if a0 < 0 then (some (wrap64 (-a0))) else (some a0)) = some r := h
 clear h
 by_cases c2 : a0 < 0
 ·rw [if_pos c2] at H
  have c2b0 : decide (a0 < 0) = true := decide_eq_true c2
  clear c2
  obtain rfl := Option.some.inj H
  go_enter Try.func94, Try.ntmps94
  go_wp2
  go_ret
  exact ⟨by first | rfl | (simp; done) | (simp [*]; done), by repeat (first | exact Drawn0.refl _ | apply Drawn0.step)⟩
 ·rw [if_neg c2] at H
  have c2b0 : decide (a0 < 0) = false := decide_eq_false c2
  clear c2
  obtain rfl := Option.some.inj H
  go_enter Try.func94, Try.ntmps94
  go_wp2
  go_ret
  exact ⟨by first | rfl | (simp; done) | (simp [*]; done), by repeat (first | exact Drawn0.refl _ | apply Drawn0.step)⟩

/-! ### impl_square: function 73 -/
def impl_square.f (a0 : Int) : Option (Int) := (impl_size.f a0).bind fun t117 => ((impl_size.f a0).bind fun t118 => (some (IntKind.u64.wrap ((IntKind.u64.wrap (t117)) * (IntKind.u64.wrap (t118))))))
set_option maxHeartbeats 8000000 in
set_option maxRecDepth 100000 in
theorem impl_square.calls (a0 : Int) (r : Int) (w : World) (h : impl_square.f a0 = some r) :
  Calls Try.prog 73 #[.int .i64 a0] w fun e w' => e = .returned (.int .u64 r) ∧ Drawn0 w w' := by
 have H : ((impl_size.f a0).bind fun t117 => ((impl_size.f a0).bind fun t118 => (some (IntKind.u64.wrap ((IntKind.u64.wrap (t117)) * (IntKind.u64.wrap (t118))))))) = some r := h
 clear h
 replace H := Option.bind_eq_some_iff.mp H
 obtain ⟨t117, A20, H⟩ := H
 replace H : ((impl_size.f a0).bind fun t118 => (some (IntKind.u64.wrap ((IntKind.u64.wrap (t117)) * (IntKind.u64.wrap (t118)))))) = some r := H
 have A2 := Aside0.mk A20
 clear A20
 replace H := Option.bind_eq_some_iff.mp H
 obtain ⟨t118, A30, H⟩ := H
 replace H : (some (IntKind.u64.wrap ((IntKind.u64.wrap (t117)) * (IntKind.u64.wrap (t118))))) = some r := H
 have A3 := Aside0.mk A30
 clear A30
 obtain rfl := Option.some.inj H
 go_enter Try.func73, Try.ntmps73
 go_wp2_with (first | ((with_reducible refine gate_callee (f := 94) rfl ?_); refine goesL_ (some 4) rfl rfl Try.func94 (by kernel_rfl) rfl #[.int .i64 a0] rfl s2_1 ?_; (with_reducible refine (impl_size.calls a0 t117 _ A2.out).mono ?_); rintro e w' ⟨rfl, ⟨nd, rfl⟩⟩; refine ⟨_, rfl, ?_⟩) | ((with_reducible refine gate_callee (f := 94) rfl ?_); refine goesL_ (some 7) rfl rfl Try.func94 (by kernel_rfl) rfl #[.int .i64 a0] rfl s2_1 ?_; (with_reducible refine (impl_size.calls a0 t118 _ A3.out).mono ?_); rintro e w' ⟨rfl, ⟨nd, rfl⟩⟩; refine ⟨_, rfl, ?_⟩))
 go_ret
 exact ⟨by first | rfl | (simp; done) | (simp [*]; done), by repeat (first | exact Drawn0.refl _ | apply Drawn0.step)⟩

/-! ### impl_vec_cross: function 74 -/
def impl_vec_cross.f (a0_0 : Int) (a0_1 : Int) (a1_0 : Int) (a1_1 : Int) : Option (Int) := some (wrap64 ((wrap64 (a0_0 * a1_1)) - (wrap64 (a0_1 * a1_0))))
set_option maxHeartbeats 8000000 in
set_option maxRecDepth 100000 in
theorem impl_vec_cross.calls (a0_0 : Int) (a0_1 : Int) (a1_0 : Int) (a1_1 : Int) (r : Int) (w : World) (h : impl_vec_cross.f a0_0 a0_1 a1_0 a1_1 = some r) :
  Calls Try.prog 74 #[.agg #[.int .i64 a0_0, .int .i64 a0_1], .agg #[.int .i64 a1_0, .int .i64 a1_1]] w fun e w' => e = .returned (.int .i64 r) ∧ Below w.heap.size w w' := by
 have hu89 := Try.underlying89
 have HB := Aside0.mk (Below.refl w.heap.size w)
 have H : (some (wrap64 ((wrap64 (a0_0 * a1_1)) - (wrap64 (a0_1 * a1_0))))) = some r := h
 clear h
 obtain rfl := Option.some.inj H
 go_enter Try.func74, Try.ntmps74
 go_wp2_with (first | ((with_reducible refine gate_dst (N := 2) rfl ?_); refine box_event ?hg (N := 2) ?hd (cs := #[.int .i64 a0_0, .int .i64 a0_1]) (t := 89) ?hr ?_; (case hd => rfl); (case hg => rfl); (case hr => first | (go_simp; done) | (go_simp; rfl)); intro gb119 hg w1 hbox hb; have n0_ := Aside0.mk (below_step s2_0 hb); have n1_ := Aside0.mk (hbox); have n2_ := Aside0.mk (ns hg s2_0 : w.heap.size ≤ gb119); have n3_ := Aside0.mk (ns hg s2_0 : w.heap.size ≤ gb119); clear HB; have HB := n0_; have BK119 := n1_; have GW119 := n2_; have GE119 := n3_; clear n0_ n1_ n2_ n3_; clear hb hbox hg) | ((with_reducible refine gate_dst (N := 3) rfl ?_); refine box_event ?hg (N := 3) ?hd (cs := #[.int .i64 a1_0, .int .i64 a1_1]) (t := 89) ?hr ?_; (case hd => rfl); (case hg => rfl); (case hr => first | (go_simp; done) | (go_simp; rfl)); intro gb120 hg w2 hbox hb; have n0_ := Aside0.mk (bb (zk BK119.out) hb); have n1_ := Aside0.mk (below_step (by repeat (first | (with_reducible first | exact HB.out | apply below_alloc | apply pw_below_drewN | apply below_drew1 | refine below_set ?_ GE119.out) | exact HB.out)) hb); have n2_ := Aside0.mk (hbox); have n3_ := Aside0.mk (ns hg (by repeat (first | (with_reducible first | exact HB.out | apply below_alloc | apply pw_below_drewN | apply below_drew1 | refine below_set ?_ GE119.out) | exact HB.out)) : w.heap.size ≤ gb120); have n4_ := Aside0.mk (ns hg (by repeat (first | (with_reducible first | exact HB.out | apply below_alloc | apply pw_below_drewN | apply below_drew1 | refine below_set ?_ GE119.out) | exact HB.out)) : w.heap.size ≤ gb120); have n5_ := Aside0.mk ((nlt hg (zk BK119.out) : gb119 ≠ gb120)); have n6_ := Aside0.mk ((ngt hg (zk BK119.out) : gb120 ≠ gb119)); clear BK119; clear HB; have BK119 := n0_; have HB := n1_; have BK120 := n2_; have GW120 := n3_; have GE120 := n4_; have NB119_120 := n5_; have NB120_119 := n6_; clear n0_ n1_ n2_ n3_ n4_ n5_ n6_; clear hb hbox hg; have hnb5 := NB119_120.out; have hnc5 := NB120_119.out; have hcz6_0 : w2.cell? ⟨gb119, 0, none⟩ = some (.int .i64 a0_0) := bc BK119.out 0; have hcz6_1 : w2.cell? ⟨gb119, 1, none⟩ = some (.int .i64 a0_1) := bc BK119.out 1; have hfz6_0 := blk_frozen BK119.out 0; have hfz6_1 := blk_frozen BK119.out 1; have hcz7_0 : w2.cell? ⟨gb120, 0, none⟩ = some (.int .i64 a1_0) := bc BK120.out 0; have hcz7_1 : w2.cell? ⟨gb120, 1, none⟩ = some (.int .i64 a1_1) := bc BK120.out 1; have hfz7_0 := blk_frozen BK120.out 0; have hfz7_1 := blk_frozen BK120.out 1))
 go_ret
 exact ⟨by first | rfl | (simp [errW_none, errW_some] <;> rfl) | (simp [*, errW_none, errW_some] <;> rfl), by repeat (first | (with_reducible first | exact HB.out | apply below_alloc | apply pw_below_drewN | apply below_drew1 | refine below_set ?_ GE119.out | refine below_set ?_ GE120.out) | exact HB.out)⟩

/-! ### impl_Behind: function 29 -/
def impl_Behind.f (k : Nat) (a0_0 : Int) (a0_1 : Int) (a0_2 : Int) (a0_3 : Int) (a0_4 : Int) (a0_5 : Int) (a1_0 : Int) (a1_1 : Int) (a1_2 : Int) (a1_3 : Int) (a1_4 : Int) (a1_5 : Int) : Option (Bool) := (impl_ShipOk.f a0_0 a0_1 a0_2 a0_3 a0_4 a0_5).bind fun s1 => (impl_ShipOk.f a1_0 a1_1 a1_2 a1_3 a1_4 a1_5).bind fun s2 => (impl_bearing.f a0_0 a0_1 a0_2 a0_3 a0_4 a0_5 a1_0 a1_1 a1_2 a1_3 a1_4 a1_5).bind fun b => (impl_vec_dot.f b.1 b.2 a1_2 a1_3).bind fun d => (impl_vec_cross.f b.1 b.2 a1_2 a1_3).bind fun c => (impl_square.f c).bind fun q1 => (impl_square.f d).bind fun q2 => some (s1 && s2 && (decide (d < 0) && decide (IntKind.u64.wrap (q1 * 5) ≤ IntKind.u64.wrap (q2 * 29))))
theorem impl_Behind.mono : ∀ a0_0 a0_1 a0_2 a0_3 a0_4 a0_5 a1_0 a1_1 a1_2 a1_3 a1_4 a1_5 k, LeO (impl_Behind.f k a0_0 a0_1 a0_2 a0_3 a0_4 a0_5 a1_0 a1_1 a1_2 a1_3 a1_4 a1_5) (impl_Behind.f (k + 1) a0_0 a0_1 a0_2 a0_3 a0_4 a0_5 a1_0 a1_1 a1_2 a1_3 a1_4 a1_5) := fun _ _ _ _ _ _ _ _ _ _ _ _ _ => LeO.refl _
theorem impl_Behind.calls (k : Nat) (a0_0 : Int) (a0_1 : Int) (a0_2 : Int) (a0_3 : Int) (a0_4 : Int) (a0_5 : Int) (a1_0 : Int) (a1_1 : Int) (a1_2 : Int) (a1_3 : Int) (a1_4 : Int) (a1_5 : Int) (r : Bool) (w : World) (h : impl_Behind.f k a0_0 a0_1 a0_2 a0_3 a0_4 a0_5 a1_0 a1_1 a1_2 a1_3 a1_4 a1_5 = some r) :
  Calls Try.prog 29 #[.agg #[.int .i64 a0_0, .int .i64 a0_1, .int .i64 a0_2, .int .i64 a0_3, .int .i64 a0_4, .int .i64 a0_5], .agg #[.int .i64 a1_0, .int .i64 a1_1, .int .i64 a1_2, .int .i64 a1_3, .int .i64 a1_4, .int .i64 a1_5]] w fun e w' => e = .returned (.bool r) ∧ Below w.heap.size w w' := by
 unfold impl_Behind.f at h
 obtain ⟨s1, e0, h⟩ := Option.bind_eq_some_iff.mp h
 obtain ⟨s2, e1, h⟩ := Option.bind_eq_some_iff.mp h
 obtain ⟨b, e2, h⟩ := Option.bind_eq_some_iff.mp h
 obtain ⟨d, e3, h⟩ := Option.bind_eq_some_iff.mp h
 obtain ⟨c, e4, h⟩ := Option.bind_eq_some_iff.mp h
 obtain ⟨q1, e5, h⟩ := Option.bind_eq_some_iff.mp h
 obtain ⟨q2, e6, h⟩ := Option.bind_eq_some_iff.mp h
 obtain rfl := Option.some.inj h
 exact Ai.ibehind_any a0_0 a0_1 a0_2 a0_3 a0_4 a0_5 a1_0 a1_1 a1_2 a1_3 a1_4 a1_5 b.1 b.2 d c q1 q2 s1 s2 w (fun W => impl_ShipOk.calls a0_0 a0_1 a0_2 a0_3 a0_4 a0_5 s1 W e0) (fun W => impl_ShipOk.calls a1_0 a1_1 a1_2 a1_3 a1_4 a1_5 s2 W e1) (fun W => impl_bearing.calls a0_0 a0_1 a0_2 a0_3 a0_4 a0_5 a1_0 a1_1 a1_2 a1_3 a1_4 a1_5 b.1 b.2 W e2) (fun W => impl_Ship_way.calls a1_0 a1_1 a1_2 a1_3 a1_4 a1_5 a1_2 a1_3 W rfl) (fun W => impl_vec_dot.calls b.1 b.2 a1_2 a1_3 d W e3) (fun W => impl_vec_cross.calls b.1 b.2 a1_2 a1_3 c W e4) (fun W => (impl_square.calls c q1 W e5).mono fun _ _ q => ⟨q.1, q.2.below⟩) (fun W => (impl_square.calls d q2 W e6).mono fun _ _ q => ⟨q.1, q.2.below⟩)

/-! ### impl_ahead: function 76 -/
def impl_ahead.f (a0_0 : Int) (a0_1 : Int) (a1_0 : Int) (a1_1 : Int) : Option (Bool) := (impl_vec_dot.f a0_0 a0_1 a1_0 a1_1).bind fun t123 => (if t123 > 0 then ((impl_vec_cross.f a0_0 a0_1 a1_0 a1_1).bind fun t124 => ((impl_square.f t124).bind fun t125 => ((impl_vec_dot.f a0_0 a0_1 a1_0 a1_1).bind fun t126 => ((impl_square.f t126).bind fun t127 => (some (decide ((IntKind.u64.wrap (t125 * 100)) ≤ t127))))))) else (some false))
def impl_ahead.T1 : Bool × List (List Nat × List Nat) := (true, [([], []), ([], []), ([0, 1], [0, 1]), ([2], [2]), ([3, 2], [3]), ([4], [4]), ([4], [4]), ([5, 6, 4, 4], [4, 5, 6]), ([7, 7, 4], [4, 7]), ([8, 4], [4, 8]), ([4], [4]), ([4], [4]), ([10, 11, 8, 4], [4, 10, 11]), ([12, 12, 4], [4, 12]), ([9, 13, 4], [4, 9, 13]), ([4, 14], [4, 14]), ([15, 13, 0, 1, 2, 3, 4, 5, 6, 7, 8, 9, 10, 11, 12, 13, 14, 15], [15])])
def impl_ahead.B1 : List Nat := [0, 0, 3, 7, 15, 31, 31, 127, 255, 511, 31, 31, 3583, 7679, 16383, 32767, 65535]
theorem impl_ahead.tab1 : rtab .any (opsOf Try.f76 1) = impl_ahead.T1 := by kernel_rfl
theorem impl_ahead.bits1 : waitsOk impl_ahead.T1.2 impl_ahead.B1 = true := by kernel_rfl
set_option maxHeartbeats 8000000 in
set_option maxRecDepth 100000 in
theorem impl_ahead.calls (a0_0 : Int) (a0_1 : Int) (a1_0 : Int) (a1_1 : Int) (r : Bool) (w : World) (h : impl_ahead.f a0_0 a0_1 a1_0 a1_1 = some r) :
  Calls Try.prog 76 #[.agg #[.int .i64 a0_0, .int .i64 a0_1], .agg #[.int .i64 a1_0, .int .i64 a1_1]] w fun e w' => e = .returned (.bool r) ∧ Below w.heap.size w w' := by
 have hu89 := Try.underlying89
 have HB := Aside0.mk (Below.refl w.heap.size w)
 have H : ((impl_vec_dot.f a0_0 a0_1 a1_0 a1_1).bind fun t123 => (if t123 > 0 then ((impl_vec_cross.f a0_0 a0_1 a1_0 a1_1).bind fun t124 => ((impl_square.f t124).bind fun t125 => ((impl_vec_dot.f a0_0 a0_1 a1_0 a1_1).bind fun t126 => ((impl_square.f t126).bind fun t127 => (some (decide ((IntKind.u64.wrap (t125 * 100)) ≤ t127))))))) else (some false))) = some r := h
 clear h
 replace H := Option.bind_eq_some_iff.mp H
 obtain ⟨t123, A30, H⟩ := H
 replace H : (if t123 > 0 then ((impl_vec_cross.f a0_0 a0_1 a1_0 a1_1).bind fun t124 => ((impl_square.f t124).bind fun t125 => ((impl_vec_dot.f a0_0 a0_1 a1_0 a1_1).bind fun t126 => ((impl_square.f t126).bind fun t127 => (some (decide ((IntKind.u64.wrap (t125 * 100)) ≤ t127))))))) else (some false)) = some r := H
 have A3 := Aside0.mk A30
 clear A30
 by_cases c4 : t123 > 0
 ·rw [if_pos c4] at H
  have c4b0 : decide (0 < t123) = true := decide_eq_true c4
  clear c4
  replace H := Option.bind_eq_some_iff.mp H
  obtain ⟨t124, A50, H⟩ := H
  replace H : ((impl_square.f t124).bind fun t125 => ((impl_vec_dot.f a0_0 a0_1 a1_0 a1_1).bind fun t126 => ((impl_square.f t126).bind fun t127 => (some (decide ((IntKind.u64.wrap (t125 * 100)) ≤ t127)))))) = some r := H
  have A5 := Aside0.mk A50
  clear A50
  replace H := Option.bind_eq_some_iff.mp H
  obtain ⟨t125, A60, H⟩ := H
  replace H : ((impl_vec_dot.f a0_0 a0_1 a1_0 a1_1).bind fun t126 => ((impl_square.f t126).bind fun t127 => (some (decide ((IntKind.u64.wrap (t125 * 100)) ≤ t127))))) = some r := H
  have A6 := Aside0.mk A60
  clear A60
  replace H := Option.bind_eq_some_iff.mp H
  obtain ⟨t126, A70, H⟩ := H
  replace H : ((impl_square.f t126).bind fun t127 => (some (decide ((IntKind.u64.wrap (t125 * 100)) ≤ t127)))) = some r := H
  have A7 := Aside0.mk A70
  clear A70
  replace H := Option.bind_eq_some_iff.mp H
  obtain ⟨t127, A80, H⟩ := H
  replace H : (some (decide ((IntKind.u64.wrap (t125 * 100)) ≤ t127))) = some r := H
  have A8 := Aside0.mk A80
  clear A80
  obtain rfl := Option.some.inj H
  go_enter Try.func76, Try.ntmps76
  try go_wp2_with (first | ((with_reducible refine gate_dst (N := 2) rfl ?_); refine box_event ?hg (N := 2) ?hd (cs := #[.int .i64 a0_0, .int .i64 a0_1]) (t := 89) ?hr ?_; (case hd => rfl); (case hg => rfl); (case hr => first | (go_simp; done) | (go_simp; rfl)); intro gb121 hg w1 hbox hb; have n0_ := Aside0.mk (below_step s2_0 hb); have n1_ := Aside0.mk (hbox); have n2_ := Aside0.mk (ns hg s2_0 : w.heap.size ≤ gb121); have n3_ := Aside0.mk (ns hg s2_0 : w.heap.size ≤ gb121); clear HB; have HB := n0_; have BK121 := n1_; have GW121 := n2_; have GE121 := n3_; clear n0_ n1_ n2_ n3_; clear hb hbox hg) | ((with_reducible refine gate_dst (N := 3) rfl ?_); refine box_event ?hg (N := 3) ?hd (cs := #[.int .i64 a1_0, .int .i64 a1_1]) (t := 89) ?hr ?_; (case hd => rfl); (case hg => rfl); (case hr => first | (go_simp; done) | (go_simp; rfl)); intro gb122 hg w2 hbox hb; have n0_ := Aside0.mk (bb (zk BK121.out) hb); have n1_ := Aside0.mk (below_step s2_3 hb); have n2_ := Aside0.mk (hbox); have n3_ := Aside0.mk (ns hg s2_3 : w.heap.size ≤ gb122); have n4_ := Aside0.mk (ns hg s2_3 : w.heap.size ≤ gb122); have n5_ := Aside0.mk ((nlt hg (zk BK121.out) : gb121 ≠ gb122)); have n6_ := Aside0.mk ((ngt hg (zk BK121.out) : gb122 ≠ gb121)); clear BK121; clear HB; have BK121 := n0_; have HB := n1_; have BK122 := n2_; have GW122 := n3_; have GE122 := n4_; have NB121_122 := n5_; have NB122_121 := n6_; clear n0_ n1_ n2_ n3_ n4_ n5_ n6_; clear hb hbox hg))
  have n0_ := Aside0.mk (blk_drew BK121.out)
  have n1_ := Aside0.mk (blk_drew BK122.out)
  have n2_ := Aside0.mk (below_drew1 HB.out)
  clear BK121 BK122 HB
  have BK121 := n0_
  have BK122 := n1_
  have HB := n2_
  clear n0_ n1_ n2_
  refine start_ (n := 17) (S := fun w' => w'.cell? ⟨gb121, 0, none⟩ = some (.int .i64 a0_0) ∧ w'.cell? ⟨gb121, 1, none⟩ = some (.int .i64 a0_1) ∧ w'.cell? ⟨gb122, 0, none⟩ = some (.int .i64 a1_0) ∧ w'.cell? ⟨gb122, 1, none⟩ = some (.int .i64 a1_1)) (ds := []) #[false, false, false, false, false, false, false, false, false, false, false, false, false, false, false, false, false] (by kernel_rfl) rfl rfl ⟨bc BK121.out 0, bc BK121.out 1, bc BK122.out 0, bc BK122.out 1⟩ (fun hHeld => ?_); refine with_tabW impl_ahead.tab1 impl_ahead.bits1 (fun HT_ HW_ => ?_)
  generalize w2.drew = w3 at BK121 BK122 HB hHeld ⊢
  refine take_ (i := 0) (N := some 5) (v := ?_) (a' := ?_) (bz 17 1) rfl rfl (take_ofW HT_.out HW_.out (by kernel_rfl)) (fun _ _ _ h => h) (Or.inl ⟨by rfl, ?_⟩) hHeld ?_ ?_
  rotate_left
  ·exact t2_1
  rotate_left
  ·exact t2_0
  refine take_ (i := 1) (N := some 6) (v := ?_) (a' := ?_) (bz 17 3) rfl rfl (take_ofW HT_.out HW_.out (by kernel_rfl)) (fun _ _ _ h => h) (Or.inl ⟨by rfl, ?_⟩) hHeld ?_ ?_
  rotate_left
  ·exact t2_1
  rotate_left
  ·exact t2_0
  refine one_ (i := 2) (N := some 7) (bz 17 7) rfl rfl (one_of HT_.out (by kernel_rfl)) (by decide) (fun K hK => ?_)
  refine goes_ Try.func72 (by kernel_rfl) rfl #[.agg #[.int .i64 a0_0, .int .i64 a0_1], .agg #[.int .i64 a1_0, .int .i64 a1_1]] (by rfl) rfl rfl s2_1 ?_
  with_reducible refine (impl_vec_dot.calls a0_0 a0_1 a1_0 a1_1 t123 _ A3.out).mono ?_
  rintro e w4 ⟨rfl, hb⟩
  refine ⟨_, rfl, ?_⟩
  have n0_ := Aside0.mk (bb (zk BK121.out) hb)
  have n1_ := Aside0.mk (bb (zk BK122.out) hb)
  have n2_ := Aside0.mk (below_step s2_5 hb)
  clear BK121 BK122 HB
  have BK121 := n0_
  have BK122 := n1_
  have HB := n2_
  clear n0_ n1_ n2_
  (try clear hb)
  (try clear hb2)
  (try clear hk)
  (try clear hi)
  refine hK.out _ _ ⟨bc BK121.out 0, bc BK121.out 1, bc BK122.out 0, bc BK122.out 1⟩ (fun hHeld => ?_)
  clear hK K
  refine norm_ (a' := ?_) ?_ ?_
  rotate_left
  ·show Act.put _ (some 7) _ = _
   simp only [Act.put, y1, y2, y3, i64_w, i32_w]
   rfl
  refine pure_ (i := 3) (N := some 8) (v := ?_) (a' := ?_) (bz 17 15) rfl rfl (any_of HT_.out (by kernel_rfl)) (fun _ _ _ h => h) (Or.inl ⟨by rfl, ?_⟩) ?_ ?_
  rotate_left
  ·intro w'
   go_simp
   with_reducible rfl
  rotate_left
  ·exact t2_0
  refine pure_ (i := 4) (N := some 9) (v := ?_) (a' := ?_) (bz 17 31) rfl rfl (any_of HT_.out (by kernel_rfl)) (fun _ _ _ h => h) (Or.inl ⟨by rfl, ?_⟩) ?_ ?_
  rotate_left
  ·intro w'
   go_simp
   with_reducible rfl
  rotate_left
  ·exact t2_0
  refine take_ (i := 5) (N := some 10) (v := ?_) (a' := ?_) (bz 17 63) rfl rfl (take_ofW HT_.out HW_.out (by kernel_rfl)) (fun _ _ _ h => h) (Or.inl ⟨by rfl, ?_⟩) hHeld ?_ ?_
  rotate_left
  ·exact t2_1
  rotate_left
  ·exact t2_0
  refine take_ (i := 6) (N := some 11) (v := ?_) (a' := ?_) (bz 17 127) rfl rfl (take_ofW HT_.out HW_.out (by kernel_rfl)) (fun _ _ _ h => h) (Or.inl ⟨by rfl, ?_⟩) hHeld ?_ ?_
  rotate_left
  ·exact t2_1
  rotate_left
  ·exact t2_0
  refine take_ (i := 10) (N := some 15) (v := ?_) (a' := ?_) (bz 17 1151) rfl rfl (take_ofW HT_.out HW_.out (by kernel_rfl)) (fun _ _ _ h => h) (Or.inl ⟨by rfl, ?_⟩) hHeld ?_ ?_
  rotate_left
  ·exact t2_1
  rotate_left
  ·exact t2_0
  refine take_ (i := 11) (N := some 16) (v := ?_) (a' := ?_) (bz 17 3199) rfl rfl (take_ofW HT_.out HW_.out (by kernel_rfl)) (fun _ _ _ h => h) (Or.inl ⟨by rfl, ?_⟩) hHeld ?_ ?_
  rotate_left
  ·exact t2_1
  rotate_left
  ·exact t2_0
  refine one_ (i := 7) (N := some 12) (bz 17 3327) rfl rfl (one_of HT_.out (by kernel_rfl)) (by decide) (fun K hK => ?_)
  refine goes_ Try.func74 (by kernel_rfl) rfl #[.agg #[.int .i64 a0_0, .int .i64 a0_1], .agg #[.int .i64 a1_0, .int .i64 a1_1]] (by rfl) rfl rfl s2_1 ?_
  with_reducible refine (impl_vec_cross.calls a0_0 a0_1 a1_0 a1_1 t124 _ A5.out).mono ?_
  rintro e w5 ⟨rfl, hb⟩
  refine ⟨_, rfl, ?_⟩
  have n0_ := Aside0.mk (bb (zk BK121.out) hb)
  have n1_ := Aside0.mk (bb (zk BK122.out) hb)
  have n2_ := Aside0.mk (below_step s2_5 hb)
  clear BK121 BK122 HB
  have BK121 := n0_
  have BK122 := n1_
  have HB := n2_
  clear n0_ n1_ n2_
  (try clear hb)
  (try clear hb2)
  (try clear hk)
  (try clear hi)
  refine hK.out _ _ ⟨bc BK121.out 0, bc BK121.out 1, bc BK122.out 0, bc BK122.out 1⟩ (fun hHeld => ?_)
  clear hK K
  refine norm_ (a' := ?_) ?_ ?_
  rotate_left
  ·show Act.put _ (some 12) _ = _
   simp only [Act.put, y1, y2, y3, i64_w, i32_w]
   rfl
  refine one_ (i := 8) (N := some 13) (bz 17 3583) rfl rfl (one_of HT_.out (by kernel_rfl)) (by decide) (fun K hK => ?_)
  refine goes_ Try.func73 (by kernel_rfl) rfl #[.int .i64 t124] (by rfl) rfl rfl s2_1 ?_
  with_reducible refine (impl_square.calls t124 t125 _ A6.out).mono ?_
  rintro e w' ⟨rfl, ⟨nd, rfl⟩⟩
  refine ⟨_, rfl, ?_⟩
  refine hK.out _ _ ⟨bc BK121.out 0, bc BK121.out 1, bc BK122.out 0, bc BK122.out 1⟩ (fun hHeld => ?_)
  clear hK K
  refine norm_ (a' := ?_) ?_ ?_
  rotate_left
  ·show Act.put _ (some 13) _ = _
   simp only [Act.put, y1, y2, y3, i64_w, i32_w]
   rfl
  refine pure_ (i := 9) (N := some 14) (v := ?_) (a' := ?_) (bz 17 4095) rfl rfl (any_of HT_.out (by kernel_rfl)) (fun _ _ _ h => h) (Or.inl ⟨by rfl, ?_⟩) ?_ ?_
  rotate_left
  ·intro w'
   go_simp
   with_reducible rfl
  rotate_left
  ·exact t2_0
  refine one_ (i := 12) (N := some 17) (bz 17 8191) rfl rfl (one_of HT_.out (by kernel_rfl)) (by decide) (fun K hK => ?_)
  refine goes_ Try.func72 (by kernel_rfl) rfl #[.agg #[.int .i64 a0_0, .int .i64 a0_1], .agg #[.int .i64 a1_0, .int .i64 a1_1]] (by rfl) rfl rfl s2_1 ?_
  with_reducible refine (impl_vec_dot.calls a0_0 a0_1 a1_0 a1_1 t126 _ A7.out).mono ?_
  rintro e w6 ⟨rfl, hb⟩
  refine ⟨_, rfl, ?_⟩
  have n0_ := Aside0.mk (bb (zk BK121.out) hb)
  have n1_ := Aside0.mk (bb (zk BK122.out) hb)
  have n2_ := Aside0.mk (below_step s2_5 hb)
  clear BK121 BK122 HB
  have BK121 := n0_
  have BK122 := n1_
  have HB := n2_
  clear n0_ n1_ n2_
  (try clear hb)
  (try clear hb2)
  (try clear hk)
  (try clear hi)
  refine hK.out _ _ ⟨bc BK121.out 0, bc BK121.out 1, bc BK122.out 0, bc BK122.out 1⟩ (fun hHeld => ?_)
  clear hK K
  refine norm_ (a' := ?_) ?_ ?_
  rotate_left
  ·show Act.put _ (some 17) _ = _
   simp only [Act.put, y1, y2, y3, i64_w, i32_w]
   rfl
  refine one_ (i := 13) (N := some 18) (bz 17 16383) rfl rfl (one_of HT_.out (by kernel_rfl)) (by decide) (fun K hK => ?_)
  refine goes_ Try.func73 (by kernel_rfl) rfl #[.int .i64 t126] (by rfl) rfl rfl s2_1 ?_
  with_reducible refine (impl_square.calls t126 t127 _ A8.out).mono ?_
  rintro e w' ⟨rfl, ⟨nd, rfl⟩⟩
  refine ⟨_, rfl, ?_⟩
  refine hK.out _ _ ⟨bc BK121.out 0, bc BK121.out 1, bc BK122.out 0, bc BK122.out 1⟩ (fun hHeld => ?_)
  clear hK K
  refine norm_ (a' := ?_) ?_ ?_
  rotate_left
  ·show Act.put _ (some 18) _ = _
   simp only [Act.put, y1, y2, y3, i64_w, i32_w]
   rfl
  refine pure_ (i := 14) (N := some 19) (v := ?_) (a' := ?_) (bz 17 32767) rfl rfl (any_of HT_.out (by kernel_rfl)) (fun _ _ _ h => h) (Or.inl ⟨by rfl, ?_⟩) ?_ ?_
  rotate_left
  ·intro w'
   go_simp
   with_reducible rfl
  rotate_left
  ·exact t2_0
  refine pure_ (i := 15) (N := some 20) (v := ?_) (a' := ?_) (bz 17 65535) rfl rfl (any_of HT_.out (by kernel_rfl)) (fun _ _ _ h => h) (Or.inl ⟨by rfl, ?_⟩) ?_ ?_
  rotate_left
  ·intro w'
   go_simp
   with_reducible rfl
  rotate_left
  ·exact t2_0
  refine pure_ (i := 16) (N := some 4) (v := ?_) (a' := ?_) (bz 17 131071) rfl rfl (any_of HT_.out (by kernel_rfl)) (fun _ _ _ h => h) (Or.inl ⟨by rfl, ?_⟩) ?_ ?_
  rotate_left
  ·intro w'
   go_simp
   with_reducible rfl
  rotate_left
  ·exact t2_0
  refine done_ (done_of HT_.out (by kernel_rfl)) ?_
  try go_wp2
  go_ret
  exact ⟨by first | rfl | (simp [errW_none, errW_some] <;> rfl) | (simp [*, errW_none, errW_some] <;> rfl), by repeat (first | (with_reducible first | exact HB.out | apply below_alloc | apply pw_below_drewN | apply below_drew1 | refine below_set ?_ GE121.out | refine below_set ?_ GE122.out) | exact HB.out)⟩
 ·rw [if_neg c4] at H
  have c4b0 : decide (0 < t123) = false := decide_eq_false c4
  clear c4
  obtain rfl := Option.some.inj H
  go_enter Try.func76, Try.ntmps76
  try go_wp2_with (first | ((with_reducible refine gate_dst (N := 2) rfl ?_); refine box_event ?hg (N := 2) ?hd (cs := #[.int .i64 a0_0, .int .i64 a0_1]) (t := 89) ?hr ?_; (case hd => rfl); (case hg => rfl); (case hr => first | (go_simp; done) | (go_simp; rfl)); intro gb121 hg w1 hbox hb; have n0_ := Aside0.mk (below_step s2_0 hb); have n1_ := Aside0.mk (hbox); have n2_ := Aside0.mk (ns hg s2_0 : w.heap.size ≤ gb121); have n3_ := Aside0.mk (ns hg s2_0 : w.heap.size ≤ gb121); clear HB; have HB := n0_; have BK121 := n1_; have GW121 := n2_; have GE121 := n3_; clear n0_ n1_ n2_ n3_; clear hb hbox hg) | ((with_reducible refine gate_dst (N := 3) rfl ?_); refine box_event ?hg (N := 3) ?hd (cs := #[.int .i64 a1_0, .int .i64 a1_1]) (t := 89) ?hr ?_; (case hd => rfl); (case hg => rfl); (case hr => first | (go_simp; done) | (go_simp; rfl)); intro gb122 hg w2 hbox hb; have n0_ := Aside0.mk (bb (zk BK121.out) hb); have n1_ := Aside0.mk (below_step s2_3 hb); have n2_ := Aside0.mk (hbox); have n3_ := Aside0.mk (ns hg s2_3 : w.heap.size ≤ gb122); have n4_ := Aside0.mk (ns hg s2_3 : w.heap.size ≤ gb122); have n5_ := Aside0.mk ((nlt hg (zk BK121.out) : gb121 ≠ gb122)); have n6_ := Aside0.mk ((ngt hg (zk BK121.out) : gb122 ≠ gb121)); clear BK121; clear HB; have BK121 := n0_; have HB := n1_; have BK122 := n2_; have GW122 := n3_; have GE122 := n4_; have NB121_122 := n5_; have NB122_121 := n6_; clear n0_ n1_ n2_ n3_ n4_ n5_ n6_; clear hb hbox hg))
  have n0_ := Aside0.mk (blk_drew BK121.out)
  have n1_ := Aside0.mk (blk_drew BK122.out)
  have n2_ := Aside0.mk (below_drew1 HB.out)
  clear BK121 BK122 HB
  have BK121 := n0_
  have BK122 := n1_
  have HB := n2_
  clear n0_ n1_ n2_
  refine start_ (n := 17) (S := fun w' => w'.cell? ⟨gb121, 0, none⟩ = some (.int .i64 a0_0) ∧ w'.cell? ⟨gb121, 1, none⟩ = some (.int .i64 a0_1) ∧ w'.cell? ⟨gb122, 0, none⟩ = some (.int .i64 a1_0) ∧ w'.cell? ⟨gb122, 1, none⟩ = some (.int .i64 a1_1)) (ds := []) #[false, false, false, false, false, false, false, false, false, false, false, false, false, false, false, false, false] (by kernel_rfl) rfl rfl ⟨bc BK121.out 0, bc BK121.out 1, bc BK122.out 0, bc BK122.out 1⟩ (fun hHeld => ?_); refine with_tabW impl_ahead.tab1 impl_ahead.bits1 (fun HT_ HW_ => ?_)
  generalize w2.drew = w3 at BK121 BK122 HB hHeld ⊢
  refine take_ (i := 0) (N := some 5) (v := ?_) (a' := ?_) (bz 17 1) rfl rfl (take_ofW HT_.out HW_.out (by kernel_rfl)) (fun _ _ _ h => h) (Or.inl ⟨by rfl, ?_⟩) hHeld ?_ ?_
  rotate_left
  ·exact t2_1
  rotate_left
  ·exact t2_0
  refine take_ (i := 1) (N := some 6) (v := ?_) (a' := ?_) (bz 17 3) rfl rfl (take_ofW HT_.out HW_.out (by kernel_rfl)) (fun _ _ _ h => h) (Or.inl ⟨by rfl, ?_⟩) hHeld ?_ ?_
  rotate_left
  ·exact t2_1
  rotate_left
  ·exact t2_0
  refine one_ (i := 2) (N := some 7) (bz 17 7) rfl rfl (one_of HT_.out (by kernel_rfl)) (by decide) (fun K hK => ?_)
  refine goes_ Try.func72 (by kernel_rfl) rfl #[.agg #[.int .i64 a0_0, .int .i64 a0_1], .agg #[.int .i64 a1_0, .int .i64 a1_1]] (by rfl) rfl rfl s2_1 ?_
  with_reducible refine (impl_vec_dot.calls a0_0 a0_1 a1_0 a1_1 t123 _ A3.out).mono ?_
  rintro e w4 ⟨rfl, hb⟩
  refine ⟨_, rfl, ?_⟩
  have n0_ := Aside0.mk (bb (zk BK121.out) hb)
  have n1_ := Aside0.mk (bb (zk BK122.out) hb)
  have n2_ := Aside0.mk (below_step s2_5 hb)
  clear BK121 BK122 HB
  have BK121 := n0_
  have BK122 := n1_
  have HB := n2_
  clear n0_ n1_ n2_
  (try clear hb)
  (try clear hb2)
  (try clear hk)
  (try clear hi)
  refine hK.out _ _ ⟨bc BK121.out 0, bc BK121.out 1, bc BK122.out 0, bc BK122.out 1⟩ (fun hHeld => ?_)
  clear hK K
  refine norm_ (a' := ?_) ?_ ?_
  rotate_left
  ·show Act.put _ (some 7) _ = _
   simp only [Act.put, y1, y2, y3, i64_w, i32_w]
   rfl
  refine pure_ (i := 3) (N := some 8) (v := ?_) (a' := ?_) (bz 17 15) rfl rfl (any_of HT_.out (by kernel_rfl)) (fun _ _ _ h => h) (Or.inl ⟨by rfl, ?_⟩) ?_ ?_
  rotate_left
  ·intro w'
   go_simp
   with_reducible rfl
  rotate_left
  ·exact t2_0
  refine pure_ (i := 4) (N := some 9) (v := ?_) (a' := ?_) (bz 17 31) rfl rfl (any_of HT_.out (by kernel_rfl)) (fun _ _ _ h => h) (Or.inl ⟨by rfl, ?_⟩) ?_ ?_
  rotate_left
  ·intro w'
   go_simp
   with_reducible rfl
  rotate_left
  ·exact t2_0
  refine pure_ (i := 5) (N := some 10) (v := undef) (a' := ?_) (bz 17 63) rfl rfl (any_of HT_.out (by kernel_rfl)) (fun _ _ _ h => h) (Or.inr ⟨by rfl, rfl⟩) ?_ ?_
  rotate_left
  ·exact t2_0
  refine pure_ (i := 6) (N := some 11) (v := undef) (a' := ?_) (bz 17 127) rfl rfl (any_of HT_.out (by kernel_rfl)) (fun _ _ _ h => h) (Or.inr ⟨by rfl, rfl⟩) ?_ ?_
  rotate_left
  ·exact t2_0
  refine pure_ (i := 7) (N := some 12) (v := undef) (a' := ?_) (bz 17 255) rfl rfl (any_of HT_.out (by kernel_rfl)) (fun _ _ _ h => h) (Or.inr ⟨by rfl, rfl⟩) ?_ ?_
  rotate_left
  ·exact t2_0
  refine pure_ (i := 8) (N := some 13) (v := undef) (a' := ?_) (bz 17 511) rfl rfl (any_of HT_.out (by kernel_rfl)) (fun _ _ _ h => h) (Or.inr ⟨by rfl, rfl⟩) ?_ ?_
  rotate_left
  ·exact t2_0
  refine pure_ (i := 9) (N := some 14) (v := undef) (a' := ?_) (bz 17 1023) rfl rfl (any_of HT_.out (by kernel_rfl)) (fun _ _ _ h => h) (Or.inr ⟨by rfl, rfl⟩) ?_ ?_
  rotate_left
  ·exact t2_0
  refine pure_ (i := 10) (N := some 15) (v := undef) (a' := ?_) (bz 17 2047) rfl rfl (any_of HT_.out (by kernel_rfl)) (fun _ _ _ h => h) (Or.inr ⟨by rfl, rfl⟩) ?_ ?_
  rotate_left
  ·exact t2_0
  refine pure_ (i := 11) (N := some 16) (v := undef) (a' := ?_) (bz 17 4095) rfl rfl (any_of HT_.out (by kernel_rfl)) (fun _ _ _ h => h) (Or.inr ⟨by rfl, rfl⟩) ?_ ?_
  rotate_left
  ·exact t2_0
  refine pure_ (i := 12) (N := some 17) (v := undef) (a' := ?_) (bz 17 8191) rfl rfl (any_of HT_.out (by kernel_rfl)) (fun _ _ _ h => h) (Or.inr ⟨by rfl, rfl⟩) ?_ ?_
  rotate_left
  ·exact t2_0
  refine pure_ (i := 13) (N := some 18) (v := undef) (a' := ?_) (bz 17 16383) rfl rfl (any_of HT_.out (by kernel_rfl)) (fun _ _ _ h => h) (Or.inr ⟨by rfl, rfl⟩) ?_ ?_
  rotate_left
  ·exact t2_0
  refine pure_ (i := 14) (N := some 19) (v := undef) (a' := ?_) (bz 17 32767) rfl rfl (any_of HT_.out (by kernel_rfl)) (fun _ _ _ h => h) (Or.inr ⟨by rfl, rfl⟩) ?_ ?_
  rotate_left
  ·exact t2_0
  refine pure_ (i := 15) (N := some 20) (v := ?_) (a' := ?_) (bz 17 65535) rfl rfl (any_of HT_.out (by kernel_rfl)) (fun _ _ _ h => h) (Or.inl ⟨by rfl, ?_⟩) ?_ ?_
  rotate_left
  ·intro w'
   go_simp
   with_reducible rfl
  rotate_left
  ·exact t2_0
  refine pure_ (i := 16) (N := some 4) (v := ?_) (a' := ?_) (bz 17 131071) rfl rfl (any_of HT_.out (by kernel_rfl)) (fun _ _ _ h => h) (Or.inl ⟨by rfl, ?_⟩) ?_ ?_
  rotate_left
  ·intro w'
   go_simp
   with_reducible rfl
  rotate_left
  ·exact t2_0
  refine done_ (done_of HT_.out (by kernel_rfl)) ?_
  try go_wp2
  go_ret
  exact ⟨by first | rfl | (simp [errW_none, errW_some] <;> rfl) | (simp [*, errW_none, errW_some] <;> rfl), by repeat (first | (with_reducible first | exact HB.out | apply below_alloc | apply pw_below_drewN | apply below_drew1 | refine below_set ?_ GE121.out | refine below_set ?_ GE122.out) | exact HB.out)⟩

/-! ### impl_HeadOn: function 31 -/
def impl_HeadOn.f (k : Nat) (a0_0 : Int) (a0_1 : Int) (a0_2 : Int) (a0_3 : Int) (a0_4 : Int) (a0_5 : Int) (a1_0 : Int) (a1_1 : Int) (a1_2 : Int) (a1_3 : Int) (a1_4 : Int) (a1_5 : Int) : Option (Bool) := (impl_ShipOk.f a0_0 a0_1 a0_2 a0_3 a0_4 a0_5).bind fun s1 => (impl_ShipOk.f a1_0 a1_1 a1_2 a1_3 a1_4 a1_5).bind fun s2 => (impl_vec_dot.f a0_2 a0_3 a1_2 a1_3).bind fun d => (impl_vec_cross.f a0_2 a0_3 a1_2 a1_3).bind fun c => (impl_square.f c).bind fun q1 => (impl_square.f d).bind fun q2 => (impl_bearing.f a1_0 a1_1 a1_2 a1_3 a1_4 a1_5 a0_0 a0_1 a0_2 a0_3 a0_4 a0_5).bind fun m => (impl_ahead.f m.1 m.2 a0_2 a0_3).bind fun h1 => (impl_bearing.f a0_0 a0_1 a0_2 a0_3 a0_4 a0_5 a1_0 a1_1 a1_2 a1_3 a1_4 a1_5).bind fun n => (impl_ahead.f n.1 n.2 a1_2 a1_3).bind fun h2 => some (s1 && s2 && (decide (d < 0) && decide (IntKind.u64.wrap (q1 * 100) ≤ q2) && h1 && h2))
theorem impl_HeadOn.mono : ∀ a0_0 a0_1 a0_2 a0_3 a0_4 a0_5 a1_0 a1_1 a1_2 a1_3 a1_4 a1_5 k, LeO (impl_HeadOn.f k a0_0 a0_1 a0_2 a0_3 a0_4 a0_5 a1_0 a1_1 a1_2 a1_3 a1_4 a1_5) (impl_HeadOn.f (k + 1) a0_0 a0_1 a0_2 a0_3 a0_4 a0_5 a1_0 a1_1 a1_2 a1_3 a1_4 a1_5) := fun _ _ _ _ _ _ _ _ _ _ _ _ _ => LeO.refl _
theorem impl_HeadOn.calls (k : Nat) (a0_0 : Int) (a0_1 : Int) (a0_2 : Int) (a0_3 : Int) (a0_4 : Int) (a0_5 : Int) (a1_0 : Int) (a1_1 : Int) (a1_2 : Int) (a1_3 : Int) (a1_4 : Int) (a1_5 : Int) (r : Bool) (w : World) (h : impl_HeadOn.f k a0_0 a0_1 a0_2 a0_3 a0_4 a0_5 a1_0 a1_1 a1_2 a1_3 a1_4 a1_5 = some r) :
  Calls Try.prog 31 #[.agg #[.int .i64 a0_0, .int .i64 a0_1, .int .i64 a0_2, .int .i64 a0_3, .int .i64 a0_4, .int .i64 a0_5], .agg #[.int .i64 a1_0, .int .i64 a1_1, .int .i64 a1_2, .int .i64 a1_3, .int .i64 a1_4, .int .i64 a1_5]] w fun e w' => e = .returned (.bool r) ∧ Below w.heap.size w w' := by
 unfold impl_HeadOn.f at h
 obtain ⟨s1, e0, h⟩ := Option.bind_eq_some_iff.mp h
 obtain ⟨s2, e1, h⟩ := Option.bind_eq_some_iff.mp h
 obtain ⟨d, e2, h⟩ := Option.bind_eq_some_iff.mp h
 obtain ⟨c, e3, h⟩ := Option.bind_eq_some_iff.mp h
 obtain ⟨q1, e4, h⟩ := Option.bind_eq_some_iff.mp h
 obtain ⟨q2, e5, h⟩ := Option.bind_eq_some_iff.mp h
 obtain ⟨m, e6, h⟩ := Option.bind_eq_some_iff.mp h
 obtain ⟨h1, e7, h⟩ := Option.bind_eq_some_iff.mp h
 obtain ⟨n, e8, h⟩ := Option.bind_eq_some_iff.mp h
 obtain ⟨h2, e9, h⟩ := Option.bind_eq_some_iff.mp h
 obtain rfl := Option.some.inj h
 exact Ai.iheadon_any a0_0 a0_1 a0_2 a0_3 a0_4 a0_5 a1_0 a1_1 a1_2 a1_3 a1_4 a1_5 d c q1 q2 m.1 m.2 n.1 n.2 s1 s2 h1 h2 w (fun W => impl_ShipOk.calls a0_0 a0_1 a0_2 a0_3 a0_4 a0_5 s1 W e0) (fun W => impl_ShipOk.calls a1_0 a1_1 a1_2 a1_3 a1_4 a1_5 s2 W e1) (fun W => impl_Ship_way.calls a0_0 a0_1 a0_2 a0_3 a0_4 a0_5 a0_2 a0_3 W rfl) (fun W => impl_Ship_way.calls a1_0 a1_1 a1_2 a1_3 a1_4 a1_5 a1_2 a1_3 W rfl) (fun W => impl_vec_dot.calls a0_2 a0_3 a1_2 a1_3 d W e2) (fun W => impl_vec_cross.calls a0_2 a0_3 a1_2 a1_3 c W e3) (fun W => (impl_square.calls c q1 W e4).mono fun _ _ q => ⟨q.1, q.2.below⟩) (fun W => (impl_square.calls d q2 W e5).mono fun _ _ q => ⟨q.1, q.2.below⟩) (fun W => impl_bearing.calls a1_0 a1_1 a1_2 a1_3 a1_4 a1_5 a0_0 a0_1 a0_2 a0_3 a0_4 a0_5 m.1 m.2 W e6) (fun W => impl_ahead.calls m.1 m.2 a0_2 a0_3 h1 W e7) (fun W => impl_bearing.calls a0_0 a0_1 a0_2 a0_3 a0_4 a0_5 a1_0 a1_1 a1_2 a1_3 a1_4 a1_5 n.1 n.2 W e8) (fun W => impl_ahead.calls n.1 n.2 a1_2 a1_3 h2 W e9)

/-! ### impl_closing: function 63 -/
def impl_closing.f (a0_0 : Int) (a0_1 : Int) (a0_2 : Int) (a0_3 : Int) (a0_4 : Int) (a0_5 : Int) (a1_0 : Int) (a1_1 : Int) (a1_2 : Int) (a1_3 : Int) (a1_4 : Int) (a1_5 : Int) : Option (Bool) := (impl_bearing.f a1_0 a1_1 a1_2 a1_3 a1_4 a1_5 a0_0 a0_1 a0_2 a0_3 a0_4 a0_5).bind fun bt130 => (if (!(bt130.1 == 0) || (!(bt130.2 == 0))) = true then ((impl_vec_dot.f bt130.1 bt130.2 (wrap64 (a1_2 - a0_2)) (wrap64 (a1_3 - a0_3))).bind fun t133 => (some (decide (t133 < 0)))) else (some false))
set_option maxHeartbeats 8000000 in
set_option maxRecDepth 100000 in
theorem impl_closing.calls (a0_0 : Int) (a0_1 : Int) (a0_2 : Int) (a0_3 : Int) (a0_4 : Int) (a0_5 : Int) (a1_0 : Int) (a1_1 : Int) (a1_2 : Int) (a1_3 : Int) (a1_4 : Int) (a1_5 : Int) (r : Bool) (w : World) (h : impl_closing.f a0_0 a0_1 a0_2 a0_3 a0_4 a0_5 a1_0 a1_1 a1_2 a1_3 a1_4 a1_5 = some r) :
  Calls Try.prog 63 #[.agg #[.int .i64 a0_0, .int .i64 a0_1, .int .i64 a0_2, .int .i64 a0_3, .int .i64 a0_4, .int .i64 a0_5], .agg #[.int .i64 a1_0, .int .i64 a1_1, .int .i64 a1_2, .int .i64 a1_3, .int .i64 a1_4, .int .i64 a1_5]] w fun e w' => e = .returned (.bool r) ∧ Below w.heap.size w w' := by
 have hu25 := Try.underlying25
 have hu89 := Try.underlying89
 have HB := Aside0.mk (Below.refl w.heap.size w)
 have H : ((impl_bearing.f a1_0 a1_1 a1_2 a1_3 a1_4 a1_5 a0_0 a0_1 a0_2 a0_3 a0_4 a0_5).bind fun bt130 => (if (!(bt130.1 == 0) || (!(bt130.2 == 0))) = true then ((impl_vec_dot.f bt130.1 bt130.2 (wrap64 (a1_2 - a0_2)) (wrap64 (a1_3 - a0_3))).bind fun t133 => (some (decide (t133 < 0)))) else (some false))) = some r := h
 clear h
 replace H := Option.bind_eq_some_iff.mp H
 obtain ⟨⟨t130, t131⟩, A30, H⟩ := H
 replace H : (if (!(t130 == 0) || (!(t131 == 0))) = true then ((impl_vec_dot.f t130 t131 (wrap64 (a1_2 - a0_2)) (wrap64 (a1_3 - a0_3))).bind fun t133 => (some (decide (t133 < 0)))) else (some false)) = some r := H
 have A3 := Aside0.mk A30
 clear A30
 by_cases c4 : (!(t130 == 0) || (!(t131 == 0))) = true
 ·rw [if_pos c4] at H
  have c4b0 : (!(t130 == 0) || (!(t131 == 0))) = true := c4
  clear c4
  replace H := Option.bind_eq_some_iff.mp H
  obtain ⟨t133, A50, H⟩ := H
  replace H : (some (decide (t133 < 0))) = some r := H
  have A5 := Aside0.mk A50
  clear A50
  obtain rfl := Option.some.inj H
  go_enter Try.func63, Try.ntmps63
  go_wp2_with (first | ((with_reducible refine gate_dst (N := 2) rfl ?_); refine box_event ?hg (N := 2) ?hd (cs := #[.int .i64 a0_0, .int .i64 a0_1, .int .i64 a0_2, .int .i64 a0_3, .int .i64 a0_4, .int .i64 a0_5]) (t := 25) ?hr ?_; (case hd => rfl); (case hg => rfl); (case hr => first | (go_simp; done) | (go_simp; rfl)); intro gb128 hg w1 hbox hb; have n0_ := Aside0.mk (below_step s2_0 hb); have n1_ := Aside0.mk (hbox); have n2_ := Aside0.mk (ns hg s2_0 : w.heap.size ≤ gb128); have n3_ := Aside0.mk (ns hg s2_0 : w.heap.size ≤ gb128); clear HB; have HB := n0_; have BK128 := n1_; have GW128 := n2_; have GE128 := n3_; clear n0_ n1_ n2_ n3_; clear hb hbox hg) | ((with_reducible refine gate_dst (N := 3) rfl ?_); refine box_event ?hg (N := 3) ?hd (cs := #[.int .i64 a1_0, .int .i64 a1_1, .int .i64 a1_2, .int .i64 a1_3, .int .i64 a1_4, .int .i64 a1_5]) (t := 25) ?hr ?_; (case hd => rfl); (case hg => rfl); (case hr => first | (go_simp; done) | (go_simp; rfl)); intro gb129 hg w2 hbox hb; have n0_ := Aside0.mk (bb (zk BK128.out) hb); have n1_ := Aside0.mk (below_step s2_4 hb); have n2_ := Aside0.mk (hbox); have n3_ := Aside0.mk (ns hg s2_4 : w.heap.size ≤ gb129); have n4_ := Aside0.mk (ns hg s2_4 : w.heap.size ≤ gb129); have n5_ := Aside0.mk ((nlt hg (zk BK128.out) : gb128 ≠ gb129)); have n6_ := Aside0.mk ((ngt hg (zk BK128.out) : gb129 ≠ gb128)); clear BK128; clear HB; have BK128 := n0_; have HB := n1_; have BK129 := n2_; have GW129 := n3_; have GE129 := n4_; have NB128_129 := n5_; have NB129_128 := n6_; clear n0_ n1_ n2_ n3_ n4_ n5_ n6_; clear hb hbox hg; have hnb8 := NB129_128.out; have hnc8 := NB128_129.out; have hcz9_0 : w2.cell? ⟨gb129, 0, none⟩ = some (.int .i64 a1_0) := bc BK129.out 0; have hcz9_1 : w2.cell? ⟨gb129, 1, none⟩ = some (.int .i64 a1_1) := bc BK129.out 1; have hcz9_2 : w2.cell? ⟨gb129, 2, none⟩ = some (.int .i64 a1_2) := bc BK129.out 2; have hcz9_3 : w2.cell? ⟨gb129, 3, none⟩ = some (.int .i64 a1_3) := bc BK129.out 3; have hcz9_4 : w2.cell? ⟨gb129, 4, none⟩ = some (.int .i64 a1_4) := bc BK129.out 4; have hcz9_5 : w2.cell? ⟨gb129, 5, none⟩ = some (.int .i64 a1_5) := bc BK129.out 5; have hfz9_0 := blk_frozen BK129.out 0; have hfz9_1 := blk_frozen BK129.out 1; have hfz9_2 := blk_frozen BK129.out 2; have hfz9_3 := blk_frozen BK129.out 3; have hfz9_4 := blk_frozen BK129.out 4; have hfz9_5 := blk_frozen BK129.out 5; have hcz10_0 : w2.cell? ⟨gb128, 0, none⟩ = some (.int .i64 a0_0) := bc BK128.out 0; have hcz10_1 : w2.cell? ⟨gb128, 1, none⟩ = some (.int .i64 a0_1) := bc BK128.out 1; have hcz10_2 : w2.cell? ⟨gb128, 2, none⟩ = some (.int .i64 a0_2) := bc BK128.out 2; have hcz10_3 : w2.cell? ⟨gb128, 3, none⟩ = some (.int .i64 a0_3) := bc BK128.out 3; have hcz10_4 : w2.cell? ⟨gb128, 4, none⟩ = some (.int .i64 a0_4) := bc BK128.out 4; have hcz10_5 : w2.cell? ⟨gb128, 5, none⟩ = some (.int .i64 a0_5) := bc BK128.out 5; have hfz10_0 := blk_frozen BK128.out 0; have hfz10_1 := blk_frozen BK128.out 1; have hfz10_2 := blk_frozen BK128.out 2; have hfz10_3 := blk_frozen BK128.out 3; have hfz10_4 := blk_frozen BK128.out 4; have hfz10_5 := blk_frozen BK128.out 5) | ((with_reducible refine gate_callee (f := 70) rfl ?_); refine goesL_ (some 8) rfl rfl Try.func70 (by kernel_rfl) rfl #[.agg #[.int .i64 a1_0, .int .i64 a1_1, .int .i64 a1_2, .int .i64 a1_3, .int .i64 a1_4, .int .i64 a1_5], .agg #[.int .i64 a0_0, .int .i64 a0_1, .int .i64 a0_2, .int .i64 a0_3, .int .i64 a0_4, .int .i64 a0_5]] rfl s2_1 ?_; (with_reducible refine (impl_bearing.calls a1_0 a1_1 a1_2 a1_3 a1_4 a1_5 a0_0 a0_1 a0_2 a0_3 a0_4 a0_5 t130 t131 _ A3.out).mono ?_); rintro e w3 ⟨rfl, hb⟩; refine ⟨_, rfl, ?_⟩; have n0_ := Aside0.mk (bb (zk BK128.out) hb); have n1_ := Aside0.mk (bb (zk BK129.out) hb); have n2_ := Aside0.mk (below_step s2_2 hb); clear BK128; clear BK129; clear HB; have BK128 := n0_; have BK129 := n1_; have HB := n2_; clear n0_ n1_ n2_; (try clear hb); (try clear hb2); (try clear hk); (try clear hi)) | ((with_reducible refine gate_dst (N := 5) rfl ?_); refine box_event ?hg (N := 5) ?hd (cs := #[.int .i64 0, .int .i64 0]) (t := 89) ?hr ?_; (case hd => rfl); (case hg => rfl); (case hr => first | (go_simp; done) | (go_simp; rfl)); intro gb132 hg w4 hbox hb; have n0_ := Aside0.mk (bb (zk BK128.out) hb); have n1_ := Aside0.mk (bb (zk BK129.out) hb); have n2_ := Aside0.mk (below_step s2_2 hb); have n3_ := Aside0.mk (hbox); have n4_ := Aside0.mk (ns hg s2_2 : w.heap.size ≤ gb132); have n5_ := Aside0.mk (ns hg s2_2 : w.heap.size ≤ gb132); have n6_ := Aside0.mk ((nlt hg (zk BK128.out) : gb128 ≠ gb132)); have n7_ := Aside0.mk ((ngt hg (zk BK128.out) : gb132 ≠ gb128)); have n8_ := Aside0.mk ((nlt hg (zk BK129.out) : gb129 ≠ gb132)); have n9_ := Aside0.mk ((ngt hg (zk BK129.out) : gb132 ≠ gb129)); clear BK128; clear BK129; clear HB; have BK128 := n0_; have BK129 := n1_; have HB := n2_; have BK132 := n3_; have GW132 := n4_; have GE132 := n5_; have NB128_132 := n6_; have NB132_128 := n7_; have NB129_132 := n8_; have NB132_129 := n9_; clear n0_ n1_ n2_ n3_ n4_ n5_ n6_ n7_ n8_ n9_; clear hb hbox hg; have hnb13 := NB132_128.out; have hnc13 := NB128_132.out; have hnb14 := NB132_129.out; have hnc14 := NB129_132.out; have hcz15_0 : w4.cell? ⟨gb132, 0, none⟩ = some (.int .i64 0) := bc BK132.out 0; have hcz15_1 : w4.cell? ⟨gb132, 1, none⟩ = some (.int .i64 0) := bc BK132.out 1; have hfz15_0 := blk_frozen BK132.out 0; have hfz15_1 := blk_frozen BK132.out 1; have hcz16_0 : w4.cell? ⟨gb129, 0, none⟩ = some (.int .i64 a1_0) := bc BK129.out 0; have hcz16_1 : w4.cell? ⟨gb129, 1, none⟩ = some (.int .i64 a1_1) := bc BK129.out 1; have hcz16_2 : w4.cell? ⟨gb129, 2, none⟩ = some (.int .i64 a1_2) := bc BK129.out 2; have hcz16_3 : w4.cell? ⟨gb129, 3, none⟩ = some (.int .i64 a1_3) := bc BK129.out 3; have hcz16_4 : w4.cell? ⟨gb129, 4, none⟩ = some (.int .i64 a1_4) := bc BK129.out 4; have hcz16_5 : w4.cell? ⟨gb129, 5, none⟩ = some (.int .i64 a1_5) := bc BK129.out 5; have hfz16_0 := blk_frozen BK129.out 0; have hfz16_1 := blk_frozen BK129.out 1; have hfz16_2 := blk_frozen BK129.out 2; have hfz16_3 := blk_frozen BK129.out 3; have hfz16_4 := blk_frozen BK129.out 4; have hfz16_5 := blk_frozen BK129.out 5; have hcz17_0 : w4.cell? ⟨gb128, 0, none⟩ = some (.int .i64 a0_0) := bc BK128.out 0; have hcz17_1 : w4.cell? ⟨gb128, 1, none⟩ = some (.int .i64 a0_1) := bc BK128.out 1; have hcz17_2 : w4.cell? ⟨gb128, 2, none⟩ = some (.int .i64 a0_2) := bc BK128.out 2; have hcz17_3 : w4.cell? ⟨gb128, 3, none⟩ = some (.int .i64 a0_3) := bc BK128.out 3; have hcz17_4 : w4.cell? ⟨gb128, 4, none⟩ = some (.int .i64 a0_4) := bc BK128.out 4; have hcz17_5 : w4.cell? ⟨gb128, 5, none⟩ = some (.int .i64 a0_5) := bc BK128.out 5; have hfz17_0 := blk_frozen BK128.out 0; have hfz17_1 := blk_frozen BK128.out 1; have hfz17_2 := blk_frozen BK128.out 2; have hfz17_3 := blk_frozen BK128.out 3; have hfz17_4 := blk_frozen BK128.out 4; have hfz17_5 := blk_frozen BK128.out 5) | (go_at_call 72; (with_reducible refine (impl_vec_dot.calls t130 t131 (wrap64 (a1_2 - a0_2)) (wrap64 (a1_3 - a0_3)) t133 _ A5.out).mono ?_); rintro e w5 ⟨rfl, hb⟩; have n0_ := Aside0.mk (blk_below (g := gb128) (o := .cells #[.int .i64 a0_0, .int .i64 a0_1, .int .i64 a0_2, .int .i64 a0_3, .int .i64 a0_4, .int .i64 a0_5] 25 (0, 0)) (by (with_reducible repeat (first | refine blk_drewN ?_ _ | refine blk_drew ?_ | refine blk_alloc ?_ _)); refine blk_far ?_ NB128_132.out _; (with_reducible repeat (first | refine blk_drewN ?_ _ | refine blk_drew ?_ | refine blk_alloc ?_ _)); refine blk_far ?_ NB128_132.out _; (with_reducible repeat (first | refine blk_drewN ?_ _ | refine blk_drew ?_ | refine blk_alloc ?_ _)); exact BK128.out) hb); have n1_ := Aside0.mk (blk_below (g := gb129) (o := .cells #[.int .i64 a1_0, .int .i64 a1_1, .int .i64 a1_2, .int .i64 a1_3, .int .i64 a1_4, .int .i64 a1_5] 25 (0, 0)) (by (with_reducible repeat (first | refine blk_drewN ?_ _ | refine blk_drew ?_ | refine blk_alloc ?_ _)); refine blk_far ?_ NB129_132.out _; (with_reducible repeat (first | refine blk_drewN ?_ _ | refine blk_drew ?_ | refine blk_alloc ?_ _)); refine blk_far ?_ NB129_132.out _; (with_reducible repeat (first | refine blk_drewN ?_ _ | refine blk_drew ?_ | refine blk_alloc ?_ _)); exact BK129.out) hb); have n2_ := Aside0.mk (blk_below (g := gb132) (o := .cells #[.int .i64 t130, .int .i64 t131] 89 (0, 0)) (by (with_reducible repeat (first | refine blk_drewN ?_ _ | refine blk_drew ?_ | refine blk_alloc ?_ _)); refine blk_put (cs := #[.int .i64 t130, .int .i64 0]) ?_ 1 _ rfl; (with_reducible repeat (first | refine blk_drewN ?_ _ | refine blk_drew ?_ | refine blk_alloc ?_ _)); refine blk_put (cs := #[.int .i64 0, .int .i64 0]) ?_ 0 _ rfl; (with_reducible repeat (first | refine blk_drewN ?_ _ | refine blk_drew ?_ | refine blk_alloc ?_ _)); exact BK132.out) hb); have n3_ := Aside0.mk (below_step (by repeat (first | (with_reducible first | exact HB.out | apply below_alloc | apply pw_below_drewN | apply below_drew1 | refine below_set ?_ GE128.out | refine below_set ?_ GE129.out | refine below_set ?_ GE132.out) | exact HB.out)) hb); clear BK128; clear BK129; clear BK132; clear HB; have BK128 := n0_; have BK129 := n1_; have BK132 := n2_; have HB := n3_; clear n0_ n1_ n2_ n3_; (try clear hb); (try clear hb2); (try clear hk); (try clear hi)))
  go_ret
  exact ⟨by first | rfl | (simp [errW_none, errW_some] <;> rfl) | (simp [*, errW_none, errW_some] <;> rfl), by repeat (first | (with_reducible first | exact HB.out | apply below_alloc | apply pw_below_drewN | apply below_drew1 | refine below_set ?_ GE128.out | refine below_set ?_ GE129.out | refine below_set ?_ GE132.out) | exact HB.out)⟩
 ·rw [if_neg c4] at H
  have c4b0 : (!(t130 == 0) || (!(t131 == 0))) = false := by simpa using c4
  clear c4
  obtain rfl := Option.some.inj H
  go_enter Try.func63, Try.ntmps63
  go_wp2_with (first | ((with_reducible refine gate_dst (N := 2) rfl ?_); refine box_event ?hg (N := 2) ?hd (cs := #[.int .i64 a0_0, .int .i64 a0_1, .int .i64 a0_2, .int .i64 a0_3, .int .i64 a0_4, .int .i64 a0_5]) (t := 25) ?hr ?_; (case hd => rfl); (case hg => rfl); (case hr => first | (go_simp; done) | (go_simp; rfl)); intro gb128 hg w1 hbox hb; have n0_ := Aside0.mk (below_step s2_0 hb); have n1_ := Aside0.mk (hbox); have n2_ := Aside0.mk (ns hg s2_0 : w.heap.size ≤ gb128); have n3_ := Aside0.mk (ns hg s2_0 : w.heap.size ≤ gb128); clear HB; have HB := n0_; have BK128 := n1_; have GW128 := n2_; have GE128 := n3_; clear n0_ n1_ n2_ n3_; clear hb hbox hg) | ((with_reducible refine gate_dst (N := 3) rfl ?_); refine box_event ?hg (N := 3) ?hd (cs := #[.int .i64 a1_0, .int .i64 a1_1, .int .i64 a1_2, .int .i64 a1_3, .int .i64 a1_4, .int .i64 a1_5]) (t := 25) ?hr ?_; (case hd => rfl); (case hg => rfl); (case hr => first | (go_simp; done) | (go_simp; rfl)); intro gb129 hg w2 hbox hb; have n0_ := Aside0.mk (bb (zk BK128.out) hb); have n1_ := Aside0.mk (below_step s2_4 hb); have n2_ := Aside0.mk (hbox); have n3_ := Aside0.mk (ns hg s2_4 : w.heap.size ≤ gb129); have n4_ := Aside0.mk (ns hg s2_4 : w.heap.size ≤ gb129); have n5_ := Aside0.mk ((nlt hg (zk BK128.out) : gb128 ≠ gb129)); have n6_ := Aside0.mk ((ngt hg (zk BK128.out) : gb129 ≠ gb128)); clear BK128; clear HB; have BK128 := n0_; have HB := n1_; have BK129 := n2_; have GW129 := n3_; have GE129 := n4_; have NB128_129 := n5_; have NB129_128 := n6_; clear n0_ n1_ n2_ n3_ n4_ n5_ n6_; clear hb hbox hg; have hnb21 := NB129_128.out; have hnc21 := NB128_129.out; have hcz22_0 : w2.cell? ⟨gb129, 0, none⟩ = some (.int .i64 a1_0) := bc BK129.out 0; have hcz22_1 : w2.cell? ⟨gb129, 1, none⟩ = some (.int .i64 a1_1) := bc BK129.out 1; have hcz22_2 : w2.cell? ⟨gb129, 2, none⟩ = some (.int .i64 a1_2) := bc BK129.out 2; have hcz22_3 : w2.cell? ⟨gb129, 3, none⟩ = some (.int .i64 a1_3) := bc BK129.out 3; have hcz22_4 : w2.cell? ⟨gb129, 4, none⟩ = some (.int .i64 a1_4) := bc BK129.out 4; have hcz22_5 : w2.cell? ⟨gb129, 5, none⟩ = some (.int .i64 a1_5) := bc BK129.out 5; have hfz22_0 := blk_frozen BK129.out 0; have hfz22_1 := blk_frozen BK129.out 1; have hfz22_2 := blk_frozen BK129.out 2; have hfz22_3 := blk_frozen BK129.out 3; have hfz22_4 := blk_frozen BK129.out 4; have hfz22_5 := blk_frozen BK129.out 5; have hcz23_0 : w2.cell? ⟨gb128, 0, none⟩ = some (.int .i64 a0_0) := bc BK128.out 0; have hcz23_1 : w2.cell? ⟨gb128, 1, none⟩ = some (.int .i64 a0_1) := bc BK128.out 1; have hcz23_2 : w2.cell? ⟨gb128, 2, none⟩ = some (.int .i64 a0_2) := bc BK128.out 2; have hcz23_3 : w2.cell? ⟨gb128, 3, none⟩ = some (.int .i64 a0_3) := bc BK128.out 3; have hcz23_4 : w2.cell? ⟨gb128, 4, none⟩ = some (.int .i64 a0_4) := bc BK128.out 4; have hcz23_5 : w2.cell? ⟨gb128, 5, none⟩ = some (.int .i64 a0_5) := bc BK128.out 5; have hfz23_0 := blk_frozen BK128.out 0; have hfz23_1 := blk_frozen BK128.out 1; have hfz23_2 := blk_frozen BK128.out 2; have hfz23_3 := blk_frozen BK128.out 3; have hfz23_4 := blk_frozen BK128.out 4; have hfz23_5 := blk_frozen BK128.out 5) | ((with_reducible refine gate_callee (f := 70) rfl ?_); refine goesL_ (some 8) rfl rfl Try.func70 (by kernel_rfl) rfl #[.agg #[.int .i64 a1_0, .int .i64 a1_1, .int .i64 a1_2, .int .i64 a1_3, .int .i64 a1_4, .int .i64 a1_5], .agg #[.int .i64 a0_0, .int .i64 a0_1, .int .i64 a0_2, .int .i64 a0_3, .int .i64 a0_4, .int .i64 a0_5]] rfl s2_1 ?_; (with_reducible refine (impl_bearing.calls a1_0 a1_1 a1_2 a1_3 a1_4 a1_5 a0_0 a0_1 a0_2 a0_3 a0_4 a0_5 t130 t131 _ A3.out).mono ?_); rintro e w3 ⟨rfl, hb⟩; refine ⟨_, rfl, ?_⟩; have n0_ := Aside0.mk (bb (zk BK128.out) hb); have n1_ := Aside0.mk (bb (zk BK129.out) hb); have n2_ := Aside0.mk (below_step s2_2 hb); clear BK128; clear BK129; clear HB; have BK128 := n0_; have BK129 := n1_; have HB := n2_; clear n0_ n1_ n2_; (try clear hb); (try clear hb2); (try clear hk); (try clear hi)) | ((with_reducible refine gate_dst (N := 5) rfl ?_); refine box_event ?hg (N := 5) ?hd (cs := #[.int .i64 0, .int .i64 0]) (t := 89) ?hr ?_; (case hd => rfl); (case hg => rfl); (case hr => first | (go_simp; done) | (go_simp; rfl)); intro gb132 hg w4 hbox hb; have n0_ := Aside0.mk (bb (zk BK128.out) hb); have n1_ := Aside0.mk (bb (zk BK129.out) hb); have n2_ := Aside0.mk (below_step s2_2 hb); have n3_ := Aside0.mk (hbox); have n4_ := Aside0.mk (ns hg s2_2 : w.heap.size ≤ gb132); have n5_ := Aside0.mk (ns hg s2_2 : w.heap.size ≤ gb132); have n6_ := Aside0.mk ((nlt hg (zk BK128.out) : gb128 ≠ gb132)); have n7_ := Aside0.mk ((ngt hg (zk BK128.out) : gb132 ≠ gb128)); have n8_ := Aside0.mk ((nlt hg (zk BK129.out) : gb129 ≠ gb132)); have n9_ := Aside0.mk ((ngt hg (zk BK129.out) : gb132 ≠ gb129)); clear BK128; clear BK129; clear HB; have BK128 := n0_; have BK129 := n1_; have HB := n2_; have BK132 := n3_; have GW132 := n4_; have GE132 := n5_; have NB128_132 := n6_; have NB132_128 := n7_; have NB129_132 := n8_; have NB132_129 := n9_; clear n0_ n1_ n2_ n3_ n4_ n5_ n6_ n7_ n8_ n9_; clear hb hbox hg; have hnb26 := NB132_128.out; have hnc26 := NB128_132.out; have hnb27 := NB132_129.out; have hnc27 := NB129_132.out; have hcz28_0 : w4.cell? ⟨gb132, 0, none⟩ = some (.int .i64 0) := bc BK132.out 0; have hcz28_1 : w4.cell? ⟨gb132, 1, none⟩ = some (.int .i64 0) := bc BK132.out 1; have hfz28_0 := blk_frozen BK132.out 0; have hfz28_1 := blk_frozen BK132.out 1))
  go_ret
  exact ⟨by first | rfl | (simp [errW_none, errW_some] <;> rfl) | (simp [*, errW_none, errW_some] <;> rfl), by repeat (first | (with_reducible first | exact HB.out | apply below_alloc | apply pw_below_drewN | apply below_drew1 | refine below_set ?_ GE128.out | refine below_set ?_ GE129.out | refine below_set ?_ GE132.out) | exact HB.out)⟩

end Go.Proofs.Ytfbokdbaondjdaa.PV1
-- printed for this claim out of the translation
namespace Go.Proofs.Ytfbokdbaondjdaa.PV1
open Go.RowKit Go.Proofs.YtfbokdbaondjdaaW.PrintWords Go.Proofs.YtfbokdbaondjdaaW.PrintLast Go.Proofs.YtfbokdbaondjdaaW.PrintMore Go.Proofs.Ytfbokdbaondjdaa.Cz
attribute [local go_sem] max2_int min2_int max_two min_two max_three min_three max_four min_four
set_option linter.unusedVariables false
set_option linter.unusedSimpArgs false

/-! ### impl_right: function 64 -/
def impl_right.f (a0_0 : Int) (a0_1 : Int) (a0_2 : Int) (a0_3 : Int) (a0_4 : Int) (a0_5 : Int) (a1_0 : Int) (a1_1 : Int) (a1_2 : Int) (a1_3 : Int) (a1_4 : Int) (a1_5 : Int) : Option (Bool) := (impl_Ship_way.f a0_0 a0_1 a0_2 a0_3 a0_4 a0_5).bind fun bt136 => ((impl_bearing.f a1_0 a1_1 a1_2 a1_3 a1_4 a1_5 a0_0 a0_1 a0_2 a0_3 a0_4 a0_5).bind fun bt138 => ((impl_vec_cross.f bt136.1 bt136.2 bt138.1 bt138.2).bind fun t140 => (some (decide (t140 < 0)))))
def impl_right.T1 : Bool × List (List Nat × List Nat) := (true, [([], []), ([0], [0]), ([], []), ([], []), ([2, 3, 1], [2, 3]), ([1, 4, 4], [1, 4]), ([5], [5]), ([6, 5, 0, 1, 2, 3, 4, 5, 6], [6])])
def impl_right.B1 : List Nat := [0, 1, 0, 0, 15, 31, 63, 127]
theorem impl_right.tab1 : rtab .any (opsOf Try.f64 1) = impl_right.T1 := by kernel_rfl
theorem impl_right.bits1 : waitsOk impl_right.T1.2 impl_right.B1 = true := by kernel_rfl
set_option maxHeartbeats 8000000 in
set_option maxRecDepth 100000 in
theorem impl_right.calls (a0_0 : Int) (a0_1 : Int) (a0_2 : Int) (a0_3 : Int) (a0_4 : Int) (a0_5 : Int) (a1_0 : Int) (a1_1 : Int) (a1_2 : Int) (a1_3 : Int) (a1_4 : Int) (a1_5 : Int) (r : Bool) (w : World) (h : impl_right.f a0_0 a0_1 a0_2 a0_3 a0_4 a0_5 a1_0 a1_1 a1_2 a1_3 a1_4 a1_5 = some r) :
  Calls Try.prog 64 #[.agg #[.int .i64 a0_0, .int .i64 a0_1, .int .i64 a0_2, .int .i64 a0_3, .int .i64 a0_4, .int .i64 a0_5], .agg #[.int .i64 a1_0, .int .i64 a1_1, .int .i64 a1_2, .int .i64 a1_3, .int .i64 a1_4, .int .i64 a1_5]] w fun e w' => e = .returned (.bool r) ∧ Below w.heap.size w w' := by
 have hu25 := Try.underlying25
 have HB := Aside0.mk (Below.refl w.heap.size w)
 have H : ((impl_Ship_way.f a0_0 a0_1 a0_2 a0_3 a0_4 a0_5).bind fun bt136 => ((impl_bearing.f a1_0 a1_1 a1_2 a1_3 a1_4 a1_5 a0_0 a0_1 a0_2 a0_3 a0_4 a0_5).bind fun bt138 => ((impl_vec_cross.f bt136.1 bt136.2 bt138.1 bt138.2).bind fun t140 => (some (decide (t140 < 0)))))) = some r := h
 clear h
 replace H := Option.bind_eq_some_iff.mp H
 obtain ⟨⟨t136, t137⟩, A30, H⟩ := H
 replace H : ((impl_bearing.f a1_0 a1_1 a1_2 a1_3 a1_4 a1_5 a0_0 a0_1 a0_2 a0_3 a0_4 a0_5).bind fun bt138 => ((impl_vec_cross.f t136 t137 bt138.1 bt138.2).bind fun t140 => (some (decide (t140 < 0))))) = some r := H
 have A3 := Aside0.mk A30
 clear A30
 replace H := Option.bind_eq_some_iff.mp H
 obtain ⟨⟨t138, t139⟩, A40, H⟩ := H
 replace H : ((impl_vec_cross.f t136 t137 t138 t139).bind fun t140 => (some (decide (t140 < 0)))) = some r := H
 have A4 := Aside0.mk A40
 clear A40
 replace H := Option.bind_eq_some_iff.mp H
 obtain ⟨t140, A50, H⟩ := H
 replace H : (some (decide (t140 < 0))) = some r := H
 have A5 := Aside0.mk A50
 clear A50
 obtain rfl := Option.some.inj H
 go_enter Try.func64, Try.ntmps64
 try go_wp2_with (first | ((with_reducible refine gate_dst (N := 2) rfl ?_); refine box_event ?hg (N := 2) ?hd (cs := #[.int .i64 a0_0, .int .i64 a0_1, .int .i64 a0_2, .int .i64 a0_3, .int .i64 a0_4, .int .i64 a0_5]) (t := 25) ?hr ?_; (case hd => rfl); (case hg => rfl); (case hr => first | (go_simp; done) | (go_simp; rfl)); intro gb134 hg w6 hbox hb; have n0_ := Aside0.mk (below_step (by repeat (first | (with_reducible first | exact HB.out | apply below_alloc | apply pw_below_drewN | apply below_drew1) | exact HB.out)) hb); have n1_ := Aside0.mk (hbox); have n2_ := Aside0.mk ((by rw [hg]; exact (below_size (by repeat (first | (with_reducible first | exact HB.out | apply below_alloc | apply pw_below_drewN | apply below_drew1) | exact HB.out))) : w.heap.size ≤ gb134)); have n3_ := Aside0.mk ((by rw [hg]; exact (below_size (by repeat (first | (with_reducible first | exact HB.out | apply below_alloc | apply pw_below_drewN | apply below_drew1) | exact HB.out))) : w.heap.size ≤ gb134)); clear HB; have HB := n0_; have BK134 := n1_; have GW134 := n2_; have GE134 := n3_; clear n0_ n1_ n2_ n3_; clear hb hbox hg) | ((with_reducible refine gate_dst (N := 3) rfl ?_); refine box_event ?hg (N := 3) ?hd (cs := #[.int .i64 a1_0, .int .i64 a1_1, .int .i64 a1_2, .int .i64 a1_3, .int .i64 a1_4, .int .i64 a1_5]) (t := 25) ?hr ?_; (case hd => rfl); (case hg => rfl); (case hr => first | (go_simp; done) | (go_simp; rfl)); intro gb135 hg w7 hbox hb; have n0_ := Aside0.mk (blk_below (g := gb134) (o := .cells #[.int .i64 a0_0, .int .i64 a0_1, .int .i64 a0_2, .int .i64 a0_3, .int .i64 a0_4, .int .i64 a0_5] 25 (0, 0)) (by (with_reducible repeat (first | refine z1 ?_ _ | refine z2 ?_ | refine z3 ?_ _)); exact BK134.out) hb); have n1_ := Aside0.mk (below_step (by repeat (first | (with_reducible first | exact HB.out | apply below_alloc | apply pw_below_drewN | apply below_drew1 | refine below_set ?_ GE134.out) | exact HB.out)) hb); have n2_ := Aside0.mk (hbox); have n3_ := Aside0.mk ((by rw [hg]; exact (below_size (by repeat (first | (with_reducible first | exact HB.out | apply below_alloc | apply pw_below_drewN | apply below_drew1 | refine below_set ?_ GE134.out) | exact HB.out))) : w.heap.size ≤ gb135)); have n4_ := Aside0.mk ((by rw [hg]; exact (below_size (by repeat (first | (with_reducible first | exact HB.out | apply below_alloc | apply pw_below_drewN | apply below_drew1 | refine below_set ?_ GE134.out) | exact HB.out))) : w.heap.size ≤ gb135)); have n5_ := Aside0.mk ((by rw [hg]; exact Nat.ne_of_lt (blk_lt (g := gb134) (o := .cells #[.int .i64 a0_0, .int .i64 a0_1, .int .i64 a0_2, .int .i64 a0_3, .int .i64 a0_4, .int .i64 a0_5] 25 (0, 0)) (by (with_reducible repeat (first | refine z1 ?_ _ | refine z2 ?_ | refine z3 ?_ _)); exact BK134.out)) : gb134 ≠ gb135)); have n6_ := Aside0.mk ((by rw [hg]; exact Nat.ne_of_gt (blk_lt (g := gb134) (o := .cells #[.int .i64 a0_0, .int .i64 a0_1, .int .i64 a0_2, .int .i64 a0_3, .int .i64 a0_4, .int .i64 a0_5] 25 (0, 0)) (by (with_reducible repeat (first | refine z1 ?_ _ | refine z2 ?_ | refine z3 ?_ _)); exact BK134.out)) : gb135 ≠ gb134)); clear BK134; clear HB; have BK134 := n0_; have HB := n1_; have BK135 := n2_; have GW135 := n3_; have GE135 := n4_; have NB134_135 := n5_; have NB135_134 := n6_; clear n0_ n1_ n2_ n3_ n4_ n5_ n6_; clear hb hbox hg))
 have n0_ := Aside0.mk (blk_drew BK134.out)
 have n1_ := Aside0.mk (blk_drew BK135.out)
 have n2_ := Aside0.mk (below_drew1 HB.out)
 clear BK134 BK135 HB
 have BK134 := n0_
 have BK135 := n1_
 have HB := n2_
 clear n0_ n1_ n2_
 refine start_ (n := 8) (S := fun w' => w'.cell? ⟨gb134, 0, none⟩ = some (.int .i64 a0_0) ∧ w'.cell? ⟨gb134, 1, none⟩ = some (.int .i64 a0_1) ∧ w'.cell? ⟨gb134, 2, none⟩ = some (.int .i64 a0_2) ∧ w'.cell? ⟨gb134, 3, none⟩ = some (.int .i64 a0_3) ∧ w'.cell? ⟨gb134, 4, none⟩ = some (.int .i64 a0_4) ∧ w'.cell? ⟨gb134, 5, none⟩ = some (.int .i64 a0_5) ∧ w'.cell? ⟨gb135, 0, none⟩ = some (.int .i64 a1_0) ∧ w'.cell? ⟨gb135, 1, none⟩ = some (.int .i64 a1_1) ∧ w'.cell? ⟨gb135, 2, none⟩ = some (.int .i64 a1_2) ∧ w'.cell? ⟨gb135, 3, none⟩ = some (.int .i64 a1_3) ∧ w'.cell? ⟨gb135, 4, none⟩ = some (.int .i64 a1_4) ∧ w'.cell? ⟨gb135, 5, none⟩ = some (.int .i64 a1_5)) (ds := []) #[false, false, false, false, false, false, false, false] (by kernel_rfl) rfl rfl ⟨(blk_cell BK134.out 0).trans rfl, (blk_cell BK134.out 1).trans rfl, (blk_cell BK134.out 2).trans rfl, (blk_cell BK134.out 3).trans rfl, (blk_cell BK134.out 4).trans rfl, (blk_cell BK134.out 5).trans rfl, (blk_cell BK135.out 0).trans rfl, (blk_cell BK135.out 1).trans rfl, (blk_cell BK135.out 2).trans rfl, (blk_cell BK135.out 3).trans rfl, (blk_cell BK135.out 4).trans rfl, (blk_cell BK135.out 5).trans rfl⟩ (fun hHeld => ?_); refine with_tabW impl_right.tab1 impl_right.bits1 (fun HT_ HW_ => ?_)
 generalize w7.drew = w8 at BK134 BK135 HB hHeld ⊢
 refine take_ (i := 0) (N := some 5) (v := ?_) (a' := ?_) (bz 8 1) rfl rfl (take_ofW HT_.out HW_.out (by kernel_rfl)) (fun _ _ _ h => h) (Or.inl ⟨by rfl, ?_⟩) hHeld ?_ ?_
 rotate_left
 ·rintro w' ⟨s0, s1, s2, s3, s4, s5, s6, s7, s8, s9, s10, s11⟩
  go_simp
  with_reducible rfl
 rotate_left
 ·simp only [Act.put, y1, y2, y3, i64_w, i32_w]
  rfl
 refine take_ (i := 2) (N := some 7) (v := ?_) (a' := ?_) (bz 8 5) rfl rfl (take_ofW HT_.out HW_.out (by kernel_rfl)) (fun _ _ _ h => h) (Or.inl ⟨by rfl, ?_⟩) hHeld ?_ ?_
 rotate_left
 ·rintro w' ⟨s0, s1, s2, s3, s4, s5, s6, s7, s8, s9, s10, s11⟩
  go_simp
  with_reducible rfl
 rotate_left
 ·simp only [Act.put, y1, y2, y3, i64_w, i32_w]
  rfl
 refine take_ (i := 3) (N := some 8) (v := ?_) (a' := ?_) (bz 8 13) rfl rfl (take_ofW HT_.out HW_.out (by kernel_rfl)) (fun _ _ _ h => h) (Or.inl ⟨by rfl, ?_⟩) hHeld ?_ ?_
 rotate_left
 ·rintro w' ⟨s0, s1, s2, s3, s4, s5, s6, s7, s8, s9, s10, s11⟩
  go_simp
  with_reducible rfl
 rotate_left
 ·simp only [Act.put, y1, y2, y3, i64_w, i32_w]
  rfl
 refine one_ (i := 1) (N := some 6) (bz 8 15) rfl rfl (one_of HT_.out (by kernel_rfl)) (by decide) (fun K hK => ?_)
 refine goes_ Try.func71 (by kernel_rfl) rfl #[.agg #[.int .i64 a0_0, .int .i64 a0_1, .int .i64 a0_2, .int .i64 a0_3, .int .i64 a0_4, .int .i64 a0_5]] (by rfl) rfl rfl (by (try simp only [List.map_toArray, List.map_cons, List.map_nil]); first | done | rfl | (simp only [List.length_drop, List.length_take]; rfl)) ?_
 with_reducible refine (impl_Ship_way.calls a0_0 a0_1 a0_2 a0_3 a0_4 a0_5 t136 t137 _ A3.out).mono ?_
 rintro e w9 ⟨rfl, hb⟩
 refine ⟨_, rfl, ?_⟩
 have n0_ := Aside0.mk (blk_below (g := gb134) (o := .cells #[.int .i64 a0_0, .int .i64 a0_1, .int .i64 a0_2, .int .i64 a0_3, .int .i64 a0_4, .int .i64 a0_5] 25 (0, 0)) (by (with_reducible repeat (first | refine z1 ?_ _ | refine z2 ?_ | refine z3 ?_ _)); exact BK134.out) hb)
 have n1_ := Aside0.mk (blk_below (g := gb135) (o := .cells #[.int .i64 a1_0, .int .i64 a1_1, .int .i64 a1_2, .int .i64 a1_3, .int .i64 a1_4, .int .i64 a1_5] 25 (0, 0)) (by (with_reducible repeat (first | refine z1 ?_ _ | refine z2 ?_ | refine z3 ?_ _)); exact BK135.out) hb)
 have n2_ := Aside0.mk (below_step (by repeat (first | (with_reducible first | exact HB.out | apply below_alloc | apply pw_below_drewN | apply below_drew1 | refine below_set ?_ GE134.out | refine below_set ?_ GE135.out) | exact HB.out)) hb)
 clear BK134 BK135 HB
 have BK134 := n0_
 have BK135 := n1_
 have HB := n2_
 clear n0_ n1_ n2_
 (try clear hb)
 (try clear hb2)
 (try clear hk)
 (try clear hi)
 refine hK.out _ _ ⟨(blk_cell BK134.out 0).trans rfl, (blk_cell BK134.out 1).trans rfl, (blk_cell BK134.out 2).trans rfl, (blk_cell BK134.out 3).trans rfl, (blk_cell BK134.out 4).trans rfl, (blk_cell BK134.out 5).trans rfl, (blk_cell BK135.out 0).trans rfl, (blk_cell BK135.out 1).trans rfl, (blk_cell BK135.out 2).trans rfl, (blk_cell BK135.out 3).trans rfl, (blk_cell BK135.out 4).trans rfl, (blk_cell BK135.out 5).trans rfl⟩ (fun hHeld => ?_)
 clear hK K
 refine norm_ (a' := ?_) ?_ ?_
 rotate_left
 ·show Act.put _ (some 6) _ = _
  simp only [Act.put, y1, y2, y3, i64_w, i32_w]
  rfl
 refine one_ (i := 4) (N := some 9) (bz 8 31) rfl rfl (one_of HT_.out (by kernel_rfl)) (by decide) (fun K hK => ?_)
 refine goes_ Try.func70 (by kernel_rfl) rfl #[.agg #[.int .i64 a1_0, .int .i64 a1_1, .int .i64 a1_2, .int .i64 a1_3, .int .i64 a1_4, .int .i64 a1_5], .agg #[.int .i64 a0_0, .int .i64 a0_1, .int .i64 a0_2, .int .i64 a0_3, .int .i64 a0_4, .int .i64 a0_5]] (by rfl) rfl rfl (by (try simp only [List.map_toArray, List.map_cons, List.map_nil]); first | done | rfl | (simp only [List.length_drop, List.length_take]; rfl)) ?_
 with_reducible refine (impl_bearing.calls a1_0 a1_1 a1_2 a1_3 a1_4 a1_5 a0_0 a0_1 a0_2 a0_3 a0_4 a0_5 t138 t139 _ A4.out).mono ?_
 rintro e w10 ⟨rfl, hb⟩
 refine ⟨_, rfl, ?_⟩
 have n0_ := Aside0.mk (blk_below (g := gb134) (o := .cells #[.int .i64 a0_0, .int .i64 a0_1, .int .i64 a0_2, .int .i64 a0_3, .int .i64 a0_4, .int .i64 a0_5] 25 (0, 0)) (by (with_reducible repeat (first | refine z1 ?_ _ | refine z2 ?_ | refine z3 ?_ _)); exact BK134.out) hb)
 have n1_ := Aside0.mk (blk_below (g := gb135) (o := .cells #[.int .i64 a1_0, .int .i64 a1_1, .int .i64 a1_2, .int .i64 a1_3, .int .i64 a1_4, .int .i64 a1_5] 25 (0, 0)) (by (with_reducible repeat (first | refine z1 ?_ _ | refine z2 ?_ | refine z3 ?_ _)); exact BK135.out) hb)
 have n2_ := Aside0.mk (below_step (by repeat (first | (with_reducible first | exact HB.out | apply below_alloc | apply pw_below_drewN | apply below_drew1 | refine below_set ?_ GE134.out | refine below_set ?_ GE135.out) | exact HB.out)) hb)
 clear BK134 BK135 HB
 have BK134 := n0_
 have BK135 := n1_
 have HB := n2_
 clear n0_ n1_ n2_
 (try clear hb)
 (try clear hb2)
 (try clear hk)
 (try clear hi)
 refine hK.out _ _ ⟨(blk_cell BK134.out 0).trans rfl, (blk_cell BK134.out 1).trans rfl, (blk_cell BK134.out 2).trans rfl, (blk_cell BK134.out 3).trans rfl, (blk_cell BK134.out 4).trans rfl, (blk_cell BK134.out 5).trans rfl, (blk_cell BK135.out 0).trans rfl, (blk_cell BK135.out 1).trans rfl, (blk_cell BK135.out 2).trans rfl, (blk_cell BK135.out 3).trans rfl, (blk_cell BK135.out 4).trans rfl, (blk_cell BK135.out 5).trans rfl⟩ (fun hHeld => ?_)
 clear hK K
 refine norm_ (a' := ?_) ?_ ?_
 rotate_left
 ·show Act.put _ (some 9) _ = _
  simp only [Act.put, y1, y2, y3, i64_w, i32_w]
  rfl
 refine one_ (i := 5) (N := some 10) (bz 8 63) rfl rfl (one_of HT_.out (by kernel_rfl)) (by decide) (fun K hK => ?_)
 refine goes_ Try.func74 (by kernel_rfl) rfl #[.agg #[.int .i64 t136, .int .i64 t137], .agg #[.int .i64 t138, .int .i64 t139]] (by rfl) rfl rfl (by (try simp only [List.map_toArray, List.map_cons, List.map_nil]); first | done | rfl | (simp only [List.length_drop, List.length_take]; rfl)) ?_
 with_reducible refine (impl_vec_cross.calls t136 t137 t138 t139 t140 _ A5.out).mono ?_
 rintro e w11 ⟨rfl, hb⟩
 refine ⟨_, rfl, ?_⟩
 have n0_ := Aside0.mk (blk_below (g := gb134) (o := .cells #[.int .i64 a0_0, .int .i64 a0_1, .int .i64 a0_2, .int .i64 a0_3, .int .i64 a0_4, .int .i64 a0_5] 25 (0, 0)) (by (with_reducible repeat (first | refine z1 ?_ _ | refine z2 ?_ | refine z3 ?_ _)); exact BK134.out) hb)
 have n1_ := Aside0.mk (blk_below (g := gb135) (o := .cells #[.int .i64 a1_0, .int .i64 a1_1, .int .i64 a1_2, .int .i64 a1_3, .int .i64 a1_4, .int .i64 a1_5] 25 (0, 0)) (by (with_reducible repeat (first | refine z1 ?_ _ | refine z2 ?_ | refine z3 ?_ _)); exact BK135.out) hb)
 have n2_ := Aside0.mk (below_step (by repeat (first | (with_reducible first | exact HB.out | apply below_alloc | apply pw_below_drewN | apply below_drew1 | refine below_set ?_ GE134.out | refine below_set ?_ GE135.out) | exact HB.out)) hb)
 clear BK134 BK135 HB
 have BK134 := n0_
 have BK135 := n1_
 have HB := n2_
 clear n0_ n1_ n2_
 (try clear hb)
 (try clear hb2)
 (try clear hk)
 (try clear hi)
 refine hK.out _ _ ⟨(blk_cell BK134.out 0).trans rfl, (blk_cell BK134.out 1).trans rfl, (blk_cell BK134.out 2).trans rfl, (blk_cell BK134.out 3).trans rfl, (blk_cell BK134.out 4).trans rfl, (blk_cell BK134.out 5).trans rfl, (blk_cell BK135.out 0).trans rfl, (blk_cell BK135.out 1).trans rfl, (blk_cell BK135.out 2).trans rfl, (blk_cell BK135.out 3).trans rfl, (blk_cell BK135.out 4).trans rfl, (blk_cell BK135.out 5).trans rfl⟩ (fun hHeld => ?_)
 clear hK K
 refine norm_ (a' := ?_) ?_ ?_
 rotate_left
 ·show Act.put _ (some 10) _ = _
  simp only [Act.put, y1, y2, y3, i64_w, i32_w]
  rfl
 refine pure_ (i := 6) (N := some 11) (v := ?_) (a' := ?_) (bz 8 127) rfl rfl (any_of HT_.out (by kernel_rfl)) (fun _ _ _ h => h) (Or.inl ⟨by rfl, ?_⟩) ?_ ?_
 rotate_left
 ·intro w'
  go_simp
  with_reducible rfl
 rotate_left
 ·simp only [Act.put, y1, y2, y3, i64_w, i32_w]
  rfl
 refine pure_ (i := 7) (N := some 4) (v := ?_) (a' := ?_) (bz 8 255) rfl rfl (any_of HT_.out (by kernel_rfl)) (fun _ _ _ h => h) (Or.inl ⟨by rfl, ?_⟩) ?_ ?_
 rotate_left
 ·intro w'
  go_simp
  with_reducible rfl
 rotate_left
 ·simp only [Act.put, y1, y2, y3, i64_w, i32_w]
  rfl
 refine done_ (done_of HT_.out (by kernel_rfl)) ?_
 try go_wp2
 go_ret
 exact ⟨by first | rfl | (simp [errW_none, errW_some] <;> rfl) | (simp [*, errW_none, errW_some] <;> rfl), by repeat (first | (with_reducible first | exact HB.out | apply below_alloc | apply pw_below_drewN | apply below_drew1 | refine below_set ?_ GE134.out | refine below_set ?_ GE135.out) | exact HB.out)⟩

/-! ### impl_Duty: function 23 -/
def impl_Duty.f (k : Nat) (a0_0 : Int) (a0_1 : Int) (a0_2 : Int) (a0_3 : Int) (a0_4 : Int) (a0_5 : Int) (a1_0 : Int) (a1_1 : Int) (a1_2 : Int) (a1_3 : Int) (a1_4 : Int) (a1_5 : Int) : Option (Int) := (impl_ShipOk.f a0_0 a0_1 a0_2 a0_3 a0_4 a0_5).bind fun s1 => (impl_ShipOk.f a1_0 a1_1 a1_2 a1_3 a1_4 a1_5).bind fun s2 => (impl_closing.f a0_0 a0_1 a0_2 a0_3 a0_4 a0_5 a1_0 a1_1 a1_2 a1_3 a1_4 a1_5).bind fun cl => (impl_Behind.f k a0_0 a0_1 a0_2 a0_3 a0_4 a0_5 a1_0 a1_1 a1_2 a1_3 a1_4 a1_5).bind fun x1 => (impl_Behind.f k a1_0 a1_1 a1_2 a1_3 a1_4 a1_5 a0_0 a0_1 a0_2 a0_3 a0_4 a0_5).bind fun x2 => (impl_HeadOn.f k a0_0 a0_1 a0_2 a0_3 a0_4 a0_5 a1_0 a1_1 a1_2 a1_3 a1_4 a1_5).bind fun ho => (impl_right.f a0_0 a0_1 a0_2 a0_3 a0_4 a0_5 a1_0 a1_1 a1_2 a1_3 a1_4 a1_5).bind fun r1 => (impl_right.f a1_0 a1_1 a1_2 a1_3 a1_4 a1_5 a0_0 a0_1 a0_2 a0_3 a0_4 a0_5).bind fun r2 => some (Du.dutyF s1 s2 cl x1 x2 ho r1 r2 a0_4 a1_4 a0_5 a1_5)
theorem impl_Duty.mono : ∀ a0_0 a0_1 a0_2 a0_3 a0_4 a0_5 a1_0 a1_1 a1_2 a1_3 a1_4 a1_5 k, LeO (impl_Duty.f k a0_0 a0_1 a0_2 a0_3 a0_4 a0_5 a1_0 a1_1 a1_2 a1_3 a1_4 a1_5) (impl_Duty.f (k + 1) a0_0 a0_1 a0_2 a0_3 a0_4 a0_5 a1_0 a1_1 a1_2 a1_3 a1_4 a1_5) := by
 intro a0_0 a0_1 a0_2 a0_3 a0_4 a0_5 a1_0 a1_1 a1_2 a1_3 a1_4 a1_5 k
 exact LeO.bind (LeO.refl _) (fun _ => LeO.bind (LeO.refl _) (fun _ => LeO.bind (LeO.refl _) (fun _ => LeO.bind (impl_Behind.mono a0_0 a0_1 a0_2 a0_3 a0_4 a0_5 a1_0 a1_1 a1_2 a1_3 a1_4 a1_5 k) (fun _ => LeO.bind (impl_Behind.mono a1_0 a1_1 a1_2 a1_3 a1_4 a1_5 a0_0 a0_1 a0_2 a0_3 a0_4 a0_5 k) (fun _ => LeO.bind (impl_HeadOn.mono a0_0 a0_1 a0_2 a0_3 a0_4 a0_5 a1_0 a1_1 a1_2 a1_3 a1_4 a1_5 k) (fun _ => LeO.bind (LeO.refl _) (fun _ => LeO.bind (LeO.refl _) (fun _ => LeO.refl _))))))))
theorem impl_Duty.calls (k : Nat) (a0_0 : Int) (a0_1 : Int) (a0_2 : Int) (a0_3 : Int) (a0_4 : Int) (a0_5 : Int) (a1_0 : Int) (a1_1 : Int) (a1_2 : Int) (a1_3 : Int) (a1_4 : Int) (a1_5 : Int) (r : Int) (w : World) (h : impl_Duty.f k a0_0 a0_1 a0_2 a0_3 a0_4 a0_5 a1_0 a1_1 a1_2 a1_3 a1_4 a1_5 = some r) :
  Calls Try.prog 23 #[.agg #[.int .i64 a0_0, .int .i64 a0_1, .int .i64 a0_2, .int .i64 a0_3, .int .i64 a0_4, .int .i64 a0_5], .agg #[.int .i64 a1_0, .int .i64 a1_1, .int .i64 a1_2, .int .i64 a1_3, .int .i64 a1_4, .int .i64 a1_5]] w fun e w' => e = .returned (.int .i64 r) ∧ Below w.heap.size w w' := by
 unfold impl_Duty.f at h
 obtain ⟨s1, e0, h⟩ := Option.bind_eq_some_iff.mp h
 obtain ⟨s2, e1, h⟩ := Option.bind_eq_some_iff.mp h
 obtain ⟨cl, e2, h⟩ := Option.bind_eq_some_iff.mp h
 obtain ⟨x1, e3, h⟩ := Option.bind_eq_some_iff.mp h
 obtain ⟨x2, e4, h⟩ := Option.bind_eq_some_iff.mp h
 obtain ⟨ho, e5, h⟩ := Option.bind_eq_some_iff.mp h
 obtain ⟨r1, e6, h⟩ := Option.bind_eq_some_iff.mp h
 obtain ⟨r2, e7, h⟩ := Option.bind_eq_some_iff.mp h
 obtain rfl := Option.some.inj h
 exact Du.duty_any a0_0 a0_1 a0_2 a0_3 a0_4 a0_5 a1_0 a1_1 a1_2 a1_3 a1_4 a1_5 s1 s2 cl x1 x2 ho r1 r2 w (fun W => impl_ShipOk.calls a0_0 a0_1 a0_2 a0_3 a0_4 a0_5 s1 W e0) (fun W => impl_ShipOk.calls a1_0 a1_1 a1_2 a1_3 a1_4 a1_5 s2 W e1) (fun W => impl_closing.calls a0_0 a0_1 a0_2 a0_3 a0_4 a0_5 a1_0 a1_1 a1_2 a1_3 a1_4 a1_5 cl W e2) (fun W => impl_Behind.calls k a0_0 a0_1 a0_2 a0_3 a0_4 a0_5 a1_0 a1_1 a1_2 a1_3 a1_4 a1_5 x1 W e3) (fun W => impl_Behind.calls k a1_0 a1_1 a1_2 a1_3 a1_4 a1_5 a0_0 a0_1 a0_2 a0_3 a0_4 a0_5 x2 W e4) (fun W => impl_HeadOn.calls k a0_0 a0_1 a0_2 a0_3 a0_4 a0_5 a1_0 a1_1 a1_2 a1_3 a1_4 a1_5 ho W e5) (fun W => impl_right.calls a0_0 a0_1 a0_2 a0_3 a0_4 a0_5 a1_0 a1_1 a1_2 a1_3 a1_4 a1_5 r1 W e6) (fun W => impl_right.calls a1_0 a1_1 a1_2 a1_3 a1_4 a1_5 a0_0 a0_1 a0_2 a0_3 a0_4 a0_5 r2 W e7)

end Go.Proofs.Ytfbokdbaondjdaa.PV1
-- printed for this claim out of the translation
namespace Go.Proofs.Ytfbokdbaondjdaa.PV1
open Go.RowKit Go.Proofs.YtfbokdbaondjdaaW.PrintWords Go.Proofs.YtfbokdbaondjdaaW.PrintLast Go.Proofs.YtfbokdbaondjdaaW.PrintMore Go.Proofs.Ytfbokdbaondjdaa.Cz Go.Proofs.Ytfbokdbaondjdaa.Cz
attribute [local go_sem] max2_int min2_int max_two min_two max_three min_three max_four min_four
set_option linter.unusedVariables false
set_option linter.unusedSimpArgs false

theorem s4_0 {p : Prop} (h : p := by repeat (first | (with_reducible first | exact HB.out | apply below_alloc | apply pw_below_drewN | apply below_drew1) | exact HB.out)) : p := h
theorem s4_1 {p : Prop} (h : p := by first | (with_reducible assumption) | assumption) : p := h
theorem s4_2 {p : Prop} (h : p := by repeat (first | (with_reducible first | exact HB.out | apply below_alloc | apply pw_below_drewN | apply below_drew1 | refine below_set ?_ GE148.out) | exact HB.out)) : p := h
/-! ### impl_Duties: function 24 -/
mutual
def impl_Duties.l0 : Nat → List (S25) → List (S25) → Int → Int → Option ((List (List Int)) × Bool)
 | 0, _, _, _, _ => none
 | k + 1, x0, x14, x15, x16 => if x16 < x15 then (if 0 ≤ x16 then (if x16 < (x14.length : Int) then ((impl_ShipOk.f ((rd_T25 x14 x16).f0) ((rd_T25 x14 x16).f1) ((rd_T25 x14 x16).f2) ((rd_T25 x14 x16).f3) ((rd_T25 x14 x16).f4) ((rd_T25 x14 x16).f5)).bind fun t143 => (if t143 = true then (impl_Duties.l0 k x0 x14 x15 (wrap64 (x16 + 1))) else (some (([] : List (List Int)), false)))) else (none)) else (none)) else (if 0 ≤ (x0.length : Int) then (if ((x0.length : Int) : Int).toNat ≤ 11728124029610 then (impl_Duties.l1 k x0 (List.replicate ((x0.length : Int) : Int).toNat []) x0 (x0.length : Int) 0) else (none)) else (none))
def impl_Duties.l1 : Nat → List (S25) → List (List Int) → List (S25) → Int → Int → Option ((List (List Int)) × Bool)
 | 0, _, _, _, _, _ => none
 | k + 1, x0, x6, x27, x28, x29 => if x29 < x28 then (if 0 ≤ x29 then (if x29 < (x27.length : Int) then (if 0 ≤ (x0.length : Int) then (if ((x0.length : Int) : Int).toNat ≤ 35184372088832 then (if x29 < (x6.length : Int) then (impl_Duties.l2 k x0 (x6.set (x29 : Int).toNat (List.replicate ((x0.length : Int) : Int).toNat 0)) x29 x27 x28 x29 x0 (x0.length : Int) 0 ((rd_T25 x27 x29).f0) ((rd_T25 x27 x29).f1) ((rd_T25 x27 x29).f2) ((rd_T25 x27 x29).f3) ((rd_T25 x27 x29).f4) ((rd_T25 x27 x29).f5)) else (none)) else (none)) else (none)) else (none)) else (none)) else (some (x6, true))
def impl_Duties.l2 : Nat → List (S25) → List (List Int) → Int → List (S25) → Int → Int → List (S25) → Int → Int → Int → Int → Int → Int → Int → Int → Option ((List (List Int)) × Bool)
 | 0, _, _, _, _, _, _, _, _, _, _, _, _, _, _, _ => none
 | k + 1, x0, x6, x7, x27, x28, x29, x40, x41, x42, x149000, x149001, x149002, x149003, x149004, x149005 => if x42 < x41 then (if 0 ≤ x42 then (if x42 < (x40.length : Int) then (if x7 = x42 then (impl_Duties.l2 k x0 x6 x7 x27 x28 x29 x40 x41 (wrap64 (x42 + 1)) x149000 x149001 x149002 x149003 x149004 x149005) else (if 0 ≤ x7 then (if x7 < (x6.length : Int) then ((impl_Duty.f k x149000 x149001 x149002 x149003 x149004 x149005 ((rd_T25 x40 x42).f0) ((rd_T25 x40 x42).f1) ((rd_T25 x40 x42).f2) ((rd_T25 x40 x42).f3) ((rd_T25 x40 x42).f4) ((rd_T25 x40 x42).f5)).bind fun t156 => (if x42 < ((rd_L3 x6 x7).length : Int) then (impl_Duties.l2 k x0 (x6.set (x7 : Int).toNat ((rd_L3 x6 x7).set (x42 : Int).toNat t156)) x7 x27 x28 x29 x40 x41 (wrap64 (x42 + 1)) x149000 x149001 x149002 x149003 x149004 x149005) else (none))) else (none)) else (none))) else (none)) else (none)) else (impl_Duties.l1 k x0 x6 x27 x28 (wrap64 (x29 + 1)))
end
def impl_Duties.f (k : Nat) (l0 : List (S25)) : Option ((List (List Int)) × Bool) := if (l0.length : Int) > 20 then (some (([] : List (List Int)), false)) else (impl_Duties.l0 k l0 l0 (l0.length : Int) 0)
theorem impl_Duties.mono_l : ∀ k, (∀ y0 y1 y2 y3, LeO (impl_Duties.l0 k y0 y1 y2 y3) (impl_Duties.l0 (k + 1) y0 y1 y2 y3)) ∧ (∀ y0 y1 y2 y3 y4, LeO (impl_Duties.l1 k y0 y1 y2 y3 y4) (impl_Duties.l1 (k + 1) y0 y1 y2 y3 y4)) ∧ (∀ y0 y1 y2 y3 y4 y5 y6 y7 y8 y9 y10 y11 y12 y13 y14, LeO (impl_Duties.l2 k y0 y1 y2 y3 y4 y5 y6 y7 y8 y9 y10 y11 y12 y13 y14) (impl_Duties.l2 (k + 1) y0 y1 y2 y3 y4 y5 y6 y7 y8 y9 y10 y11 y12 y13 y14))
 | 0 => ⟨fun _ _ _ _ r h => by simp [impl_Duties.l0] at h, fun _ _ _ _ _ r h => by simp [impl_Duties.l1] at h, fun _ _ _ _ _ _ _ _ _ _ _ _ _ _ _ r h => by simp [impl_Duties.l2] at h⟩
 | k + 1 => by
  obtain ⟨ih0, ih1, ih2⟩ := impl_Duties.mono_l k
  refine ⟨?_, ?_, ?_⟩
  ·intro y0 y1 y2 y3
   unfold impl_Duties.l0
   repeat' first
   | (with_reducible exact ih0 _ _ _ _)
   | (with_reducible exact ih1 _ _ _ _ _)
   | (with_reducible exact ih2 _ _ _ _ _ _ _ _ _ _ _ _ _ _ _)
   | (with_reducible exact impl_Duty.mono _ _ _ _ _ _ _ _ _ _ _ _ _)
   | (with_reducible exact LeO.refl _)
   | (with_reducible exact LeO.none _)
   | (with_reducible refine LeO.ite ?_ ?_)
   | (with_reducible refine LeO.bind ?_ (fun _ => ?_))
   | exact ih0 _ _ _ _
   | exact ih1 _ _ _ _ _
   | exact ih2 _ _ _ _ _ _ _ _ _ _ _ _ _ _ _
   | exact impl_Duty.mono _ _ _ _ _ _ _ _ _ _ _ _ _
   | exact LeO.none _
   | refine LeO.ite ?_ ?_
   | refine LeO.bind ?_ (fun _ => ?_)
  ·intro y0 y1 y2 y3 y4
   unfold impl_Duties.l1
   repeat' first
   | (with_reducible exact ih0 _ _ _ _)
   | (with_reducible exact ih1 _ _ _ _ _)
   | (with_reducible exact ih2 _ _ _ _ _ _ _ _ _ _ _ _ _ _ _)
   | (with_reducible exact impl_Duty.mono _ _ _ _ _ _ _ _ _ _ _ _ _)
   | (with_reducible exact LeO.refl _)
   | (with_reducible exact LeO.none _)
   | (with_reducible refine LeO.ite ?_ ?_)
   | (with_reducible refine LeO.bind ?_ (fun _ => ?_))
   | exact ih0 _ _ _ _
   | exact ih1 _ _ _ _ _
   | exact ih2 _ _ _ _ _ _ _ _ _ _ _ _ _ _ _
   | exact impl_Duty.mono _ _ _ _ _ _ _ _ _ _ _ _ _
   | exact LeO.none _
   | refine LeO.ite ?_ ?_
   | refine LeO.bind ?_ (fun _ => ?_)
  ·intro y0 y1 y2 y3 y4 y5 y6 y7 y8 y9 y10 y11 y12 y13 y14
   unfold impl_Duties.l2
   repeat' first
   | (with_reducible exact ih0 _ _ _ _)
   | (with_reducible exact ih1 _ _ _ _ _)
   | (with_reducible exact ih2 _ _ _ _ _ _ _ _ _ _ _ _ _ _ _)
   | (with_reducible exact impl_Duty.mono _ _ _ _ _ _ _ _ _ _ _ _ _)
   | (with_reducible exact LeO.refl _)
   | (with_reducible exact LeO.none _)
   | (with_reducible refine LeO.ite ?_ ?_)
   | (with_reducible refine LeO.bind ?_ (fun _ => ?_))
   | exact ih0 _ _ _ _
   | exact ih1 _ _ _ _ _
   | exact ih2 _ _ _ _ _ _ _ _ _ _ _ _ _ _ _
   | exact impl_Duty.mono _ _ _ _ _ _ _ _ _ _ _ _ _
   | exact LeO.none _
   | refine LeO.ite ?_ ?_
   | refine LeO.bind ?_ (fun _ => ?_)
theorem impl_Duties.mono : ∀ a0 k, LeO (impl_Duties.f k a0) (impl_Duties.f (k + 1) a0) := by
 intro a0 k
 obtain ⟨ih0, ih1, ih2⟩ := impl_Duties.mono_l k
 unfold impl_Duties.f
 repeat' first
   | (with_reducible exact ih0 _ _ _ _)
   | (with_reducible exact ih1 _ _ _ _ _)
   | (with_reducible exact ih2 _ _ _ _ _ _ _ _ _ _ _ _ _ _ _)
   | (with_reducible exact impl_Duty.mono _ _ _ _ _ _ _ _ _ _ _ _ _)
   | (with_reducible exact LeO.refl _)
   | (with_reducible exact LeO.none _)
   | (with_reducible refine LeO.ite ?_ ?_)
   | (with_reducible refine LeO.bind ?_ (fun _ => ?_))
   | exact ih0 _ _ _ _
   | exact ih1 _ _ _ _ _
   | exact ih2 _ _ _ _ _ _ _ _ _ _ _ _ _ _ _
   | exact impl_Duty.mono _ _ _ _ _ _ _ _ _ _ _ _ _
   | exact LeO.none _
   | refine LeO.ite ?_ ?_
   | refine LeO.bind ?_ (fun _ => ?_)
def impl_Duties.T18 : Bool × List (List Nat × List Nat) := (true, [([], []), ([], []), ([0, 1], [0, 1]), ([2], [2]), ([], []), ([], []), ([], []), ([5, 6], [5, 6]), ([3, 4, 0, 1, 2, 3, 4, 5, 6, 7], [3, 4]), ([8, 7, 7, 0, 1, 2, 3, 4, 5, 6, 7], [7, 8])])
def impl_Duties.B18 : List Nat := [0, 0, 3, 7, 0, 0, 0, 96, 255, 511]
theorem impl_Duties.tab18 : rtab .any (opsOf Try.f24 18) = impl_Duties.T18 := by kernel_rfl
theorem impl_Duties.bits18 : waitsOk impl_Duties.T18.2 impl_Duties.B18 = true := by kernel_rfl
set_option maxHeartbeats 8000000 in
set_option maxRecDepth 100000 in
theorem impl_Duties.calls (k : Nat) (A0 : Option Addr) (c0 : Nat) (l0 : List (S25)) (r1 : List (List Int)) (r2 : Bool) (w : World) (hr0 : Kd.C k25 w A0 l0.length l0) (hc0 : l0.length ≤ c0) (h : impl_Duties.f k l0 = some (r1, r2)) :
  Calls Try.prog 24 #[.slice A0 l0.length c0] w fun e w' => ∃ v0_ : Value, e = .returned (.tuple #[v0_, .bool r2]) ∧ Kd.S (Kd.slice 3 (Kd.int .i64)) 43 w' w.heap.size (fun _ => True) v0_ r1 ∧ Below w.heap.size w w' := by
 have hu25 := Try.underlying25
 have HR0 := Aside0.mk hr0
 have HC0 := Aside0.mk hc0
 clear hr0 hc0
 have HB := Aside0.mk (Below.refl w.heap.size w)
 have H : (if (l0.length : Int) > 20 then (some (([] : List (List Int)), false)) else (impl_Duties.l0 k l0 l0 (l0.length : Int) 0)) = some (r1, r2) := h
 clear h
 by_cases c2 : (l0.length : Int) > 20
 ·rw [if_pos c2] at H
  have c2b0 : decide (20 < (l0.length : Int)) = true := decide_eq_true c2
  (try simp only [hl6_3] at c2b0)
  have c2b1 : decide (20 < l0.length) = true := decide_eq_true (by omega)
  (try simp only [hl6_3] at c2b1)
  clear c2
  simp only [Option.some.injEq, Prod.mk.injEq] at H
  obtain ⟨rfl, rfl⟩ := H
  go_enter Try.func24, Try.ntmps24
  go_wp2
  go_ret2
  exact ⟨_, by first | rfl | (simp [errW_none, errW_some] <;> rfl) | (simp [*, errW_none, errW_some] <;> rfl), by first | exact Kd.S_nil _ _ _ _ _ | exact Kd.N_nil _ _ _ _ _ | exact Kd.V_nil _ _ _ _ _ | exact Kd.Q_nil _ _ _ _ _ | exact Kd.R_nil _ _ _ _ _, by repeat (first | (with_reducible first | exact HB.out | apply below_alloc | apply pw_below_drewN | apply below_drew1) | exact HB.out)⟩
 ·rw [if_neg c2] at H
  have c2b0 : decide (20 < (l0.length : Int)) = false := decide_eq_false c2
  (try simp only [hl6_3] at c2b0)
  have c2b1 : decide (20 < l0.length) = false := decide_eq_false (by omega)
  (try simp only [hl6_3] at c2b1)
  clear c2
  have H' := Aside0.mk H
  clear H
  go_enter Try.func24, Try.ntmps24
  go_wp2
  go_loopg [16] k (fun kq v16 w' => ∃ (x16_1 : Int), v16 = .int .i64 x16_1 ∧ Aside0 (impl_Duties.l0 kq l0 l0 (l0.length : Int) x16_1 = some (r1, r2)) ∧ Aside0 (kq ≤ k) ∧ Aside0 (Below w.heap.size w w'))
  case atStart => exact ⟨(0), (by first | rfl | (simp; done) | (simp [*]; done)), H', ⟨Nat.le_refl _⟩, ⟨by repeat (first | (with_reducible first | exact HB.out | apply below_alloc | apply pw_below_drewN | apply below_drew1) | exact HB.out)⟩⟩
  case round =>
   clear H'
   (try clear c2); (try clear c2b0); (try clear c2b1); (try clear p2)
   obtain ⟨x16_1, rfl, HA, HK1, HB⟩ := hrel
   cases gk with
   | zero => exact absurd HA.out (by simp [impl_Duties.l0])
   | succ k1 =>
    have H := HA.out
    clear HA
    simp only [impl_Duties.l0] at H
    by_cases c3 : x16_1 < (l0.length : Int)
    ·rw [if_pos c3] at H
     have c3b0 : decide (x16_1 < (l0.length : Int)) = true := decide_eq_true c3
     (try simp only [hl6_3] at c3b0)
     clear c3
     by_cases c4 : 0 ≤ x16_1
     ·rw [if_pos c4] at H
      have c4b0 : decide (0 ≤ x16_1) = true := decide_eq_true c4
      clear c4
      by_cases c5 : x16_1 < (l0.length : Int)
      ·rw [if_pos c5] at H
       have c5b0 : decide (x16_1 < (l0.length : Int)) = true := decide_eq_true c5
       (try simp only [hl6_3] at c5b0)
       clear c5
       replace H := Option.bind_eq_some_iff.mp H
       obtain ⟨t143, A60, H⟩ := H
       replace H : (if t143 = true then (impl_Duties.l0 k1 l0 l0 (l0.length : Int) (wrap64 (x16_1 + 1))) else (some (([] : List (List Int)), false))) = some (r1, r2) := H
       have A6 := Aside0.mk A60
       clear A60
       by_cases c7 : t143 = true
       ·subst c7
        have H1 : (impl_Duties.l0 k1 l0 l0 (l0.length : Int) (wrap64 (x16_1 + 1))) = some (r1, r2) := by rw [if_pos rfl] at H; exact H
        clear H
        have H := H1
        clear H1
        have H' := Aside0.mk H
        clear H
        have p141 : 0 ≤ (x16_1 : Int) := of_decide_eq_true s4_1
        have q141 : x16_1 < (l0.length : Int) := of_decide_eq_true s4_1
        obtain ⟨ad141, e141, hx141_0, hx141_1, hx141_2, hx141_3, hx141_4, hx141_5⟩ := at_T25 HR0.out x16_1 p141 q141
        cases e141
        replace hx141_0 := (HB.out.cell (World.block_lt_of_cell? w _ hx141_0)).trans hx141_0
        replace hx141_1 := (HB.out.cell (World.block_lt_of_cell? w _ hx141_1)).trans hx141_1
        replace hx141_2 := (HB.out.cell (World.block_lt_of_cell? w _ hx141_2)).trans hx141_2
        replace hx141_3 := (HB.out.cell (World.block_lt_of_cell? w _ hx141_3)).trans hx141_3
        replace hx141_4 := (HB.out.cell (World.block_lt_of_cell? w _ hx141_4)).trans hx141_4
        replace hx141_5 := (HB.out.cell (World.block_lt_of_cell? w _ hx141_5)).trans hx141_5
        replace p141 := eq_true p141
        replace q141 := eq_true q141
        go_wp2_with (first | ((with_reducible refine gate_dst (N := 5) rfl ?_); refine box_event ?hg (N := 5) ?hd (cs := #[.int .i64 0, .int .i64 0, .int .i64 0, .int .i64 0, .int .i64 0, .int .i64 0]) (t := 25) ?hr ?_; (case hd => rfl); (case hg => rfl); (case hr => first | (go_simp; done) | (go_simp; rfl)); intro gb142 hg w1 hbox hb; have n0_ := Aside0.mk (below_step s4_0 hb); have n1_ := Aside0.mk (hbox); have n2_ := Aside0.mk (ns hg s4_0 : w.heap.size ≤ gb142); have n3_ := Aside0.mk (ns hg s4_0 : w.heap.size ≤ gb142); clear HB; have HB := n0_; have BK142 := n1_; have GW142 := n2_; have GE142 := n3_; clear n0_ n1_ n2_ n3_; clear hb hbox hg; have hcz9_0 : w1.cell? ⟨gb142, 0, none⟩ = some (.int .i64 0) := bc BK142.out 0; have hcz9_1 : w1.cell? ⟨gb142, 1, none⟩ = some (.int .i64 0) := bc BK142.out 1; have hcz9_2 : w1.cell? ⟨gb142, 2, none⟩ = some (.int .i64 0) := bc BK142.out 2; have hcz9_3 : w1.cell? ⟨gb142, 3, none⟩ = some (.int .i64 0) := bc BK142.out 3; have hcz9_4 : w1.cell? ⟨gb142, 4, none⟩ = some (.int .i64 0) := bc BK142.out 4; have hcz9_5 : w1.cell? ⟨gb142, 5, none⟩ = some (.int .i64 0) := bc BK142.out 5; have hfz9_0 := blk_frozen BK142.out 0; have hfz9_1 := blk_frozen BK142.out 1; have hfz9_2 := blk_frozen BK142.out 2; have hfz9_3 := blk_frozen BK142.out 3; have hfz9_4 := blk_frozen BK142.out 4; have hfz9_5 := blk_frozen BK142.out 5) | ((with_reducible refine gate_callee (f := 17) rfl ?_); refine goesL_ (some 21) rfl rfl Try.func17 (by kernel_rfl) rfl #[.agg #[.int .i64 ((rd_T25 l0 x16_1).f0), .int .i64 ((rd_T25 l0 x16_1).f1), .int .i64 ((rd_T25 l0 x16_1).f2), .int .i64 ((rd_T25 l0 x16_1).f3), .int .i64 ((rd_T25 l0 x16_1).f4), .int .i64 ((rd_T25 l0 x16_1).f5)]] rfl (by (try simp only [List.map_toArray, List.map_cons, List.map_nil]); first | done | rfl | (simp only [List.length_drop, List.length_take]; rfl)) ?_; (with_reducible refine (impl_ShipOk.calls ((rd_T25 l0 x16_1).f0) ((rd_T25 l0 x16_1).f1) ((rd_T25 l0 x16_1).f2) ((rd_T25 l0 x16_1).f3) ((rd_T25 l0 x16_1).f4) ((rd_T25 l0 x16_1).f5) true _ A6.out).mono ?_); rintro e w2 ⟨rfl, hb⟩; refine ⟨_, rfl, ?_⟩; have n0_ := Aside0.mk (blk_below (g := gb142) (o := .cells #[.int .i64 ((rd_T25 l0 x16_1).f0), .int .i64 ((rd_T25 l0 x16_1).f1), .int .i64 ((rd_T25 l0 x16_1).f2), .int .i64 ((rd_T25 l0 x16_1).f3), .int .i64 ((rd_T25 l0 x16_1).f4), .int .i64 ((rd_T25 l0 x16_1).f5)] 25 (0, 0)) (by (with_reducible repeat (first | refine blk_drewN ?_ _ | refine blk_drew ?_ | refine blk_alloc ?_ _)); refine blk_put (cs := #[.int .i64 ((rd_T25 l0 x16_1).f0), .int .i64 ((rd_T25 l0 x16_1).f1), .int .i64 ((rd_T25 l0 x16_1).f2), .int .i64 ((rd_T25 l0 x16_1).f3), .int .i64 ((rd_T25 l0 x16_1).f4), .int .i64 0]) ?_ 5 _ rfl; (with_reducible repeat (first | refine blk_drewN ?_ _ | refine blk_drew ?_ | refine blk_alloc ?_ _)); refine blk_put (cs := #[.int .i64 ((rd_T25 l0 x16_1).f0), .int .i64 ((rd_T25 l0 x16_1).f1), .int .i64 ((rd_T25 l0 x16_1).f2), .int .i64 ((rd_T25 l0 x16_1).f3), .int .i64 0, .int .i64 0]) ?_ 4 _ rfl; (with_reducible repeat (first | refine blk_drewN ?_ _ | refine blk_drew ?_ | refine blk_alloc ?_ _)); refine blk_put (cs := #[.int .i64 ((rd_T25 l0 x16_1).f0), .int .i64 ((rd_T25 l0 x16_1).f1), .int .i64 ((rd_T25 l0 x16_1).f2), .int .i64 0, .int .i64 0, .int .i64 0]) ?_ 3 _ rfl; (with_reducible repeat (first | refine blk_drewN ?_ _ | refine blk_drew ?_ | refine blk_alloc ?_ _)); refine blk_put (cs := #[.int .i64 ((rd_T25 l0 x16_1).f0), .int .i64 ((rd_T25 l0 x16_1).f1), .int .i64 0, .int .i64 0, .int .i64 0, .int .i64 0]) ?_ 2 _ rfl; (with_reducible repeat (first | refine blk_drewN ?_ _ | refine blk_drew ?_ | refine blk_alloc ?_ _)); refine blk_put (cs := #[.int .i64 ((rd_T25 l0 x16_1).f0), .int .i64 0, .int .i64 0, .int .i64 0, .int .i64 0, .int .i64 0]) ?_ 1 _ rfl; (with_reducible repeat (first | refine blk_drewN ?_ _ | refine blk_drew ?_ | refine blk_alloc ?_ _)); refine blk_put (cs := #[.int .i64 0, .int .i64 0, .int .i64 0, .int .i64 0, .int .i64 0, .int .i64 0]) ?_ 0 _ rfl; (with_reducible repeat (first | refine blk_drewN ?_ _ | refine blk_drew ?_ | refine blk_alloc ?_ _)); exact BK142.out) hb); have n1_ := Aside0.mk (below_step (by repeat (first | (with_reducible first | exact HB.out | apply below_alloc | apply pw_below_drewN | apply below_drew1 | refine below_set ?_ GE142.out) | exact HB.out)) hb); clear BK142; clear HB; have BK142 := n0_; have HB := n1_; clear n0_ n1_; (try clear hb); (try clear hb2); (try clear hk); (try clear hi)))
        go_roundg k1
        case measure => have := HK1.out; omega
        case rel => exact ⟨(wrap64 (x16_1 + 1)), (by first | rfl | (simp; done) | (simp [*]; done)), H', ⟨by have := HK1.out; omega⟩, ⟨by repeat (first | (with_reducible first | exact HB.out | apply below_alloc | apply pw_below_drewN | apply below_drew1 | refine below_set ?_ GE142.out) | exact HB.out)⟩⟩
       ·replace c7 := Bool.eq_false_iff.mpr c7
        subst c7
        have H1 : (some (([] : List (List Int)), false)) = some (r1, r2) := by rw [if_neg (show ¬ (false = true) by decide)] at H; exact H
        clear H
        have H := H1
        clear H1
        simp only [Option.some.injEq, Prod.mk.injEq] at H
        obtain ⟨rfl, rfl⟩ := H
        have p141 : 0 ≤ (x16_1 : Int) := of_decide_eq_true s4_1
        have q141 : x16_1 < (l0.length : Int) := of_decide_eq_true s4_1
        obtain ⟨ad141, e141, hx141_0, hx141_1, hx141_2, hx141_3, hx141_4, hx141_5⟩ := at_T25 HR0.out x16_1 p141 q141
        cases e141
        replace hx141_0 := (HB.out.cell (World.block_lt_of_cell? w _ hx141_0)).trans hx141_0
        replace hx141_1 := (HB.out.cell (World.block_lt_of_cell? w _ hx141_1)).trans hx141_1
        replace hx141_2 := (HB.out.cell (World.block_lt_of_cell? w _ hx141_2)).trans hx141_2
        replace hx141_3 := (HB.out.cell (World.block_lt_of_cell? w _ hx141_3)).trans hx141_3
        replace hx141_4 := (HB.out.cell (World.block_lt_of_cell? w _ hx141_4)).trans hx141_4
        replace hx141_5 := (HB.out.cell (World.block_lt_of_cell? w _ hx141_5)).trans hx141_5
        replace p141 := eq_true p141
        replace q141 := eq_true q141
        go_wp2_with (first | ((with_reducible refine gate_dst (N := 5) rfl ?_); refine box_event ?hg (N := 5) ?hd (cs := #[.int .i64 0, .int .i64 0, .int .i64 0, .int .i64 0, .int .i64 0, .int .i64 0]) (t := 25) ?hr ?_; (case hd => rfl); (case hg => rfl); (case hr => first | (go_simp; done) | (go_simp; rfl)); intro gb142 hg w1 hbox hb; have n0_ := Aside0.mk (below_step s4_0 hb); have n1_ := Aside0.mk (hbox); have n2_ := Aside0.mk (ns hg s4_0 : w.heap.size ≤ gb142); have n3_ := Aside0.mk (ns hg s4_0 : w.heap.size ≤ gb142); clear HB; have HB := n0_; have BK142 := n1_; have GW142 := n2_; have GE142 := n3_; clear n0_ n1_ n2_ n3_; clear hb hbox hg; have hcz12_0 : w1.cell? ⟨gb142, 0, none⟩ = some (.int .i64 0) := bc BK142.out 0; have hcz12_1 : w1.cell? ⟨gb142, 1, none⟩ = some (.int .i64 0) := bc BK142.out 1; have hcz12_2 : w1.cell? ⟨gb142, 2, none⟩ = some (.int .i64 0) := bc BK142.out 2; have hcz12_3 : w1.cell? ⟨gb142, 3, none⟩ = some (.int .i64 0) := bc BK142.out 3; have hcz12_4 : w1.cell? ⟨gb142, 4, none⟩ = some (.int .i64 0) := bc BK142.out 4; have hcz12_5 : w1.cell? ⟨gb142, 5, none⟩ = some (.int .i64 0) := bc BK142.out 5; have hfz12_0 := blk_frozen BK142.out 0; have hfz12_1 := blk_frozen BK142.out 1; have hfz12_2 := blk_frozen BK142.out 2; have hfz12_3 := blk_frozen BK142.out 3; have hfz12_4 := blk_frozen BK142.out 4; have hfz12_5 := blk_frozen BK142.out 5) | ((with_reducible refine gate_callee (f := 17) rfl ?_); refine goesL_ (some 21) rfl rfl Try.func17 (by kernel_rfl) rfl #[.agg #[.int .i64 ((rd_T25 l0 x16_1).f0), .int .i64 ((rd_T25 l0 x16_1).f1), .int .i64 ((rd_T25 l0 x16_1).f2), .int .i64 ((rd_T25 l0 x16_1).f3), .int .i64 ((rd_T25 l0 x16_1).f4), .int .i64 ((rd_T25 l0 x16_1).f5)]] rfl (by (try simp only [List.map_toArray, List.map_cons, List.map_nil]); first | done | rfl | (simp only [List.length_drop, List.length_take]; rfl)) ?_; (with_reducible refine (impl_ShipOk.calls ((rd_T25 l0 x16_1).f0) ((rd_T25 l0 x16_1).f1) ((rd_T25 l0 x16_1).f2) ((rd_T25 l0 x16_1).f3) ((rd_T25 l0 x16_1).f4) ((rd_T25 l0 x16_1).f5) false _ A6.out).mono ?_); rintro e w2 ⟨rfl, hb⟩; refine ⟨_, rfl, ?_⟩; have n0_ := Aside0.mk (blk_below (g := gb142) (o := .cells #[.int .i64 ((rd_T25 l0 x16_1).f0), .int .i64 ((rd_T25 l0 x16_1).f1), .int .i64 ((rd_T25 l0 x16_1).f2), .int .i64 ((rd_T25 l0 x16_1).f3), .int .i64 ((rd_T25 l0 x16_1).f4), .int .i64 ((rd_T25 l0 x16_1).f5)] 25 (0, 0)) (by (with_reducible repeat (first | refine blk_drewN ?_ _ | refine blk_drew ?_ | refine blk_alloc ?_ _)); refine blk_put (cs := #[.int .i64 ((rd_T25 l0 x16_1).f0), .int .i64 ((rd_T25 l0 x16_1).f1), .int .i64 ((rd_T25 l0 x16_1).f2), .int .i64 ((rd_T25 l0 x16_1).f3), .int .i64 ((rd_T25 l0 x16_1).f4), .int .i64 0]) ?_ 5 _ rfl; (with_reducible repeat (first | refine blk_drewN ?_ _ | refine blk_drew ?_ | refine blk_alloc ?_ _)); refine blk_put (cs := #[.int .i64 ((rd_T25 l0 x16_1).f0), .int .i64 ((rd_T25 l0 x16_1).f1), .int .i64 ((rd_T25 l0 x16_1).f2), .int .i64 ((rd_T25 l0 x16_1).f3), .int .i64 0, .int .i64 0]) ?_ 4 _ rfl; (with_reducible repeat (first | refine blk_drewN ?_ _ | refine blk_drew ?_ | refine blk_alloc ?_ _)); refine blk_put (cs := #[.int .i64 ((rd_T25 l0 x16_1).f0), .int .i64 ((rd_T25 l0 x16_1).f1), .int .i64 ((rd_T25 l0 x16_1).f2), .int .i64 0, .int .i64 0, .int .i64 0]) ?_ 3 _ rfl; (with_reducible repeat (first | refine blk_drewN ?_ _ | refine blk_drew ?_ | refine blk_alloc ?_ _)); refine blk_put (cs := #[.int .i64 ((rd_T25 l0 x16_1).f0), .int .i64 ((rd_T25 l0 x16_1).f1), .int .i64 0, .int .i64 0, .int .i64 0, .int .i64 0]) ?_ 2 _ rfl; (with_reducible repeat (first | refine blk_drewN ?_ _ | refine blk_drew ?_ | refine blk_alloc ?_ _)); refine blk_put (cs := #[.int .i64 ((rd_T25 l0 x16_1).f0), .int .i64 0, .int .i64 0, .int .i64 0, .int .i64 0, .int .i64 0]) ?_ 1 _ rfl; (with_reducible repeat (first | refine blk_drewN ?_ _ | refine blk_drew ?_ | refine blk_alloc ?_ _)); refine blk_put (cs := #[.int .i64 0, .int .i64 0, .int .i64 0, .int .i64 0, .int .i64 0, .int .i64 0]) ?_ 0 _ rfl; (with_reducible repeat (first | refine blk_drewN ?_ _ | refine blk_drew ?_ | refine blk_alloc ?_ _)); exact BK142.out) hb); have n1_ := Aside0.mk (below_step (by repeat (first | (with_reducible first | exact HB.out | apply below_alloc | apply pw_below_drewN | apply below_drew1 | refine below_set ?_ GE142.out) | exact HB.out)) hb); clear BK142; clear HB; have BK142 := n0_; have HB := n1_; clear n0_ n1_; (try clear hb); (try clear hb2); (try clear hk); (try clear hi)))
        go_ret2
        exact ⟨_, by first | rfl | (simp [errW_none, errW_some] <;> rfl) | (simp [*, errW_none, errW_some] <;> rfl), by first | exact Kd.S_nil _ _ _ _ _ | exact Kd.N_nil _ _ _ _ _ | exact Kd.V_nil _ _ _ _ _ | exact Kd.Q_nil _ _ _ _ _ | exact Kd.R_nil _ _ _ _ _, by repeat (first | (with_reducible first | exact HB.out | apply below_alloc | apply pw_below_drewN | apply below_drew1 | refine below_set ?_ GE142.out) | exact HB.out)⟩
      ·rw [if_neg c5] at H
       exact absurd H (by simp)
     ·rw [if_neg c4] at H
      exact absurd H (by simp)
    ·rw [if_neg c3] at H
     have c3b0 : decide (x16_1 < (l0.length : Int)) = false := decide_eq_false c3
     (try simp only [hl6_3] at c3b0)
     clear c3
     by_cases c14 : 0 ≤ (l0.length : Int)
     ·rw [if_pos c14] at H
      have c14b0 := eq_true c14
      have c14b1 : decide (0 ≤ (l0.length : Int)) = true := decide_eq_true c14
      (try simp only [hl6_3] at c14b1)
      clear c14
      by_cases c15 : ((l0.length : Int) : Int).toNat ≤ 11728124029610
      ·rw [if_pos c15] at H
       have c15b0 := eq_true c15
       have c15b1 : decide (((l0.length : Int) : Int).toNat ≤ 11728124029610) = true := decide_eq_true c15
       (try simp only [hl6_3] at c15b1)
       clear c15
       obtain ⟨y144, hy144⟩ : ∃ y_ : List (List Int), y_ = (List.replicate ((l0.length : Int) : Int).toNat []) := ⟨_, rfl⟩
       replace H : (impl_Duties.l1 k1 l0 y144 l0 (l0.length : Int) 0) = some (r1, r2) := by first | (rw [hy144]; with_reducible exact H) | (have H2_ := (Option.bind_some _ _).symm.trans H; rw [hy144]; with_reducible exact H2_) | (have H2_ := (Option.bind_some _ _).symm.trans H; with_reducible exact H2_) | with_reducible exact H | (rw [hy144]; exact H) | exact H
       have Ny144 := Aside0.mk hy144
       clear hy144
       have H' := Aside0.mk H
       clear H
       go_wp2_with (first | ((with_reducible refine gate_dst (N := 26) rfl ?_); refine Kd.S_make (Kd.slice 3 (Kd.int .i64)) _ 43 rfl (N := 26) rfl 39 _ _ rfl (l0.length : Int) rfl rfl Try.underlying39 (.slice none 0 0) 24 info43 rfl (by decide) (by omega) [] (ok := fun _ => True) (okp := fun _ => True) ⟨_, rfl, Kd.R_nil _ _ _ _ _⟩ (fun _ hk => hk) trivial (of_decide_eq_true s4_1) (Nat.le_trans (Nat.mul_le_mul_right _ (of_decide_eq_true s4_1 : (l0.length : Int).toNat ≤ 11728124029610)) (by omega)) (Below.refl _ _) (Nat.le_refl _) ?_; intro v145 w1 ho17 hb hg_ hnew_; clear hg_ hnew_; (first | rw [← Ny144.out] at ho17 | (simp only [Int.reduceToNat] at ho17; rw [← Ny144.out] at ho17)); have n0_ := Aside0.mk (Kd.S_lower ho17 (below_size s4_0)); have n1_ := Aside0.mk (below_step s4_0 hb); clear HB; have HO146 := n0_; have HB := n1_; clear n0_ n1_; clear hb ho17))
       go_loopg [29] k1 (fun kq v29 w' => ∃ (x6_2 : List (List Int)) (x29_2 : Int), v29 = .int .i64 x29_2 ∧ Aside0 (impl_Duties.l1 kq l0 x6_2 l0 (l0.length : Int) x29_2 = some (r1, r2)) ∧ Aside0 (kq ≤ k1) ∧ Aside0 (Kd.S (Kd.slice 3 (Kd.int .i64)) 43 w' w.heap.size (fun _ => True) v145 x6_2) ∧ Aside0 (Below w.heap.size w w'))
       case atStart => exact ⟨(y144), (0), (by first | rfl | (simp; done) | (simp [*]; done)), H', ⟨Nat.le_refl _⟩, ⟨by (with_reducible repeat (first | apply Kd.S_alloc | apply Kd.S_drewN | apply Kd.S_drew)); exact HO146.out⟩, ⟨by repeat (first | (with_reducible first | exact HB.out | apply below_alloc | apply pw_below_drewN | apply below_drew1) | exact HB.out)⟩⟩
       case round =>
        clear H'
        (try clear c1); (try clear p1); (try clear q1); (try clear hx1); (try clear c2); (try clear c2b0); (try clear c2b1); (try clear p2); (try clear c3); (try clear c3b0); (try clear c4); (try clear c4b0); (try clear c5); (try clear c5b0); (try clear p6); (try clear c7); (try clear c14); (try clear c14b0); (try clear c14b1); (try clear p14); (try clear q14); (try clear hx14); (try clear c15); (try clear c15b0); (try clear c15b1); (try clear c17); (try clear hcz12_0); (try clear hcz12_1); (try clear hcz12_2); (try clear hcz12_3); (try clear hcz12_4); (try clear hcz12_5); (try clear hcz9_0); (try clear hcz9_1); (try clear hcz9_2); (try clear hcz9_3); (try clear hcz9_4); (try clear hcz9_5); (try clear hfz12_0); (try clear hfz12_1); (try clear hfz12_2); (try clear hfz12_3); (try clear hfz12_4); (try clear hfz12_5); (try clear hfz9_0); (try clear hfz9_1); (try clear hfz9_2); (try clear hfz9_3); (try clear hfz9_4); (try clear hfz9_5); (try clear hx141_0); (try clear hx141_1); (try clear hx141_2); (try clear hx141_3); (try clear hx141_4); (try clear hx141_5); (try clear p141); (try clear p2); (try clear q141)
        obtain ⟨x6_2, x29_2, rfl, HA, HK2, HO_6, HB⟩ := hrel
        cases gk with
        | zero => exact absurd HA.out (by simp [impl_Duties.l1])
        | succ k2 =>
         have H := HA.out
         clear HA
         simp only [impl_Duties.l1] at H
         by_cases c18 : x29_2 < (l0.length : Int)
         ·rw [if_pos c18] at H
          have c18b0 : decide (x29_2 < (l0.length : Int)) = true := decide_eq_true c18
          (try simp only [hl6_3] at c18b0)
          clear c18
          by_cases c19 : 0 ≤ x29_2
          ·rw [if_pos c19] at H
           have c19b0 : decide (0 ≤ x29_2) = true := decide_eq_true c19
           clear c19
           by_cases c20 : x29_2 < (l0.length : Int)
           ·rw [if_pos c20] at H
            have c20b0 : decide (x29_2 < (l0.length : Int)) = true := decide_eq_true c20
            (try simp only [hl6_3] at c20b0)
            clear c20
            by_cases c21 : 0 ≤ (l0.length : Int)
            ·rw [if_pos c21] at H
             have c21b0 := eq_true c21
             have c21b1 : decide (0 ≤ (l0.length : Int)) = true := decide_eq_true c21
             (try simp only [hl6_3] at c21b1)
             clear c21
             by_cases c22 : ((l0.length : Int) : Int).toNat ≤ 35184372088832
             ·rw [if_pos c22] at H
              have c22b0 := eq_true c22
              have c22b1 : decide (((l0.length : Int) : Int).toNat ≤ 35184372088832) = true := decide_eq_true c22
              (try simp only [hl6_3] at c22b1)
              clear c22
              obtain ⟨y149, hy149⟩ : ∃ y_ : List Int, y_ = (List.replicate ((l0.length : Int) : Int).toNat 0) := ⟨_, rfl⟩
              replace H : (if x29_2 < (x6_2.length : Int) then (impl_Duties.l2 k2 l0 (x6_2.set (x29_2 : Int).toNat y149) x29_2 l0 (l0.length : Int) x29_2 l0 (l0.length : Int) 0 ((rd_T25 l0 x29_2).f0) ((rd_T25 l0 x29_2).f1) ((rd_T25 l0 x29_2).f2) ((rd_T25 l0 x29_2).f3) ((rd_T25 l0 x29_2).f4) ((rd_T25 l0 x29_2).f5)) else (none)) = some (r1, r2) := by first | (rw [hy149]; with_reducible exact H) | (have H2_ := (Option.bind_some _ _).symm.trans H; rw [hy149]; with_reducible exact H2_) | (have H2_ := (Option.bind_some _ _).symm.trans H; with_reducible exact H2_) | with_reducible exact H | (rw [hy149]; exact H) | exact H
              have Ny149 := Aside0.mk hy149
              clear hy149
              by_cases c23 : x29_2 < (x6_2.length : Int)
              ·rw [if_pos c23] at H
               have c23b0 : decide (x29_2 < (x6_2.length : Int)) = true := decide_eq_true c23
               (try simp only [hl6_3] at c23b0)
               clear c23
               obtain ⟨y152, hy152⟩ : ∃ y_ : List (List Int), y_ = (x6_2.set (x29_2 : Int).toNat y149) := ⟨_, rfl⟩
               replace H : (impl_Duties.l2 k2 l0 y152 x29_2 l0 (l0.length : Int) x29_2 l0 (l0.length : Int) 0 ((rd_T25 l0 x29_2).f0) ((rd_T25 l0 x29_2).f1) ((rd_T25 l0 x29_2).f2) ((rd_T25 l0 x29_2).f3) ((rd_T25 l0 x29_2).f4) ((rd_T25 l0 x29_2).f5)) = some (r1, r2) := by first | (rw [hy152]; with_reducible exact H) | (have H2_ := (Option.bind_some _ _).symm.trans H; rw [hy152]; with_reducible exact H2_) | (have H2_ := (Option.bind_some _ _).symm.trans H; with_reducible exact H2_) | with_reducible exact H | (rw [hy152]; exact H) | exact H
               have Ny152 := Aside0.mk hy152
               clear hy152
               have H' := Aside0.mk H
               clear H
               have p147 : 0 ≤ (x29_2 : Int) := of_decide_eq_true s4_1
               have q147 : x29_2 < (l0.length : Int) := of_decide_eq_true s4_1
               obtain ⟨ad147, e147, hx147_0, hx147_1, hx147_2, hx147_3, hx147_4, hx147_5⟩ := at_T25 HR0.out x29_2 p147 q147
               cases e147
               replace hx147_0 := (HB.out.cell (World.block_lt_of_cell? w _ hx147_0)).trans hx147_0
               replace hx147_1 := (HB.out.cell (World.block_lt_of_cell? w _ hx147_1)).trans hx147_1
               replace hx147_2 := (HB.out.cell (World.block_lt_of_cell? w _ hx147_2)).trans hx147_2
               replace hx147_3 := (HB.out.cell (World.block_lt_of_cell? w _ hx147_3)).trans hx147_3
               replace hx147_4 := (HB.out.cell (World.block_lt_of_cell? w _ hx147_4)).trans hx147_4
               replace hx147_5 := (HB.out.cell (World.block_lt_of_cell? w _ hx147_5)).trans hx147_5
               replace p147 := eq_true p147
               replace q147 := eq_true q147
               go_wp2_with (first | ((with_reducible refine gate_dst (N := 8) rfl ?_); refine box_event ?hg (N := 8) ?hd (cs := #[.int .i64 0, .int .i64 0, .int .i64 0, .int .i64 0, .int .i64 0, .int .i64 0]) (t := 25) ?hr ?_; (case hd => rfl); (case hg => rfl); (case hr => first | (go_simp; done) | (go_simp; rfl)); intro gb148 hg w2 hbox hb; have n0_ := Aside0.mk (Kd.S_below (by (with_reducible repeat (first | apply Kd.S_alloc | apply Kd.S_drewN | apply Kd.S_drew)); exact HO_6.out) hb); have n1_ := Aside0.mk (below_step s4_0 hb); have n2_ := Aside0.mk (hbox); have n3_ := Aside0.mk (ns hg s4_0 : w.heap.size ≤ gb148); have n4_ := Aside0.mk (ns hg s4_0 : w.heap.size ≤ gb148); clear HO_6; clear HB; have HO_6 := n0_; have HB := n1_; have BK148 := n2_; have GW148 := n3_; have GE148 := n4_; clear n0_ n1_ n2_ n3_ n4_; clear hb hbox hg; have hcz26_0 : w2.cell? ⟨gb148, 0, none⟩ = some (.int .i64 0) := bc BK148.out 0; have hcz26_1 : w2.cell? ⟨gb148, 1, none⟩ = some (.int .i64 0) := bc BK148.out 1; have hcz26_2 : w2.cell? ⟨gb148, 2, none⟩ = some (.int .i64 0) := bc BK148.out 2; have hcz26_3 : w2.cell? ⟨gb148, 3, none⟩ = some (.int .i64 0) := bc BK148.out 3; have hcz26_4 : w2.cell? ⟨gb148, 4, none⟩ = some (.int .i64 0) := bc BK148.out 4; have hcz26_5 : w2.cell? ⟨gb148, 5, none⟩ = some (.int .i64 0) := bc BK148.out 5; have hfz26_0 := blk_frozen BK148.out 0; have hfz26_1 := blk_frozen BK148.out 1; have hfz26_2 := blk_frozen BK148.out 2; have hfz26_3 := blk_frozen BK148.out 3; have hfz26_4 := blk_frozen BK148.out 4; have hfz26_5 := blk_frozen BK148.out 5) | ((with_reducible refine gate_dst (N := 38) rfl ?_); refine Kd.R_make (Kd.int .i64) _ 3 rfl (N := 38) rfl 43 _ _ rfl (l0.length : Int) rfl rfl Try.underlying43 (.int .i64 0) 8 info3 rfl (by decide) (by omega) 0 (ok := fun _ => True) (okp := fun _ => True) rfl (fun _ hk => hk) trivial (of_decide_eq_true s4_1) (Nat.le_trans (Nat.mul_le_mul_right _ (of_decide_eq_true s4_1 : (l0.length : Int).toNat ≤ 35184372088832)) (by omega)) (Below.refl _ _) (Nat.le_refl _) ?_; intro v150 w3 ho28 hb hg_ hnew_; (try have HZ_v150 := Aside0.mk (Kd.R_slice ho28)); clear hg_ hnew_; (first | rw [← Ny149.out] at ho28 | (simp only [Int.reduceToNat] at ho28; rw [← Ny149.out] at ho28)); have n0_ := Aside0.mk (Kd.S_elder' (by (with_reducible repeat (first | apply Kd.S_alloc | apply Kd.S_drewN | apply Kd.S_drew)); exact (Kd.S_mono (Kd.S_far (p := ⟨gb148, 5, none⟩) (Kd.S_far (p := ⟨gb148, 4, none⟩) (Kd.S_far (p := ⟨gb148, 3, none⟩) (Kd.S_far (p := ⟨gb148, 2, none⟩) (Kd.S_far (p := ⟨gb148, 1, none⟩) (Kd.S_far (p := ⟨gb148, 0, none⟩) (Kd.S_types HO_6.out BK148.out (by decide)) (fun _ hk => hk.2) (.int .i64 ((rd_T25 l0 x29_2).f0))) (fun _ hk => hk.2) (.int .i64 ((rd_T25 l0 x29_2).f1))) (fun _ hk => hk.2) (.int .i64 ((rd_T25 l0 x29_2).f2))) (fun _ hk => hk.2) (.int .i64 ((rd_T25 l0 x29_2).f3))) (fun _ hk => hk.2) (.int .i64 ((rd_T25 l0 x29_2).f4))) (fun _ hk => hk.2) (.int .i64 ((rd_T25 l0 x29_2).f5))) (fun _ h_ => h_.1))) (Kd.R_base ho28) hb); have n1_ := Aside0.mk (Kd.R_lower ho28 (below_size s4_2)); have n2_ := Aside0.mk (blk_below (g := gb148) (o := .cells #[.int .i64 ((rd_T25 l0 x29_2).f0), .int .i64 ((rd_T25 l0 x29_2).f1), .int .i64 ((rd_T25 l0 x29_2).f2), .int .i64 ((rd_T25 l0 x29_2).f3), .int .i64 ((rd_T25 l0 x29_2).f4), .int .i64 ((rd_T25 l0 x29_2).f5)] 25 (0, 0)) (by (with_reducible repeat (first | refine blk_drewN ?_ _ | refine blk_drew ?_ | refine blk_alloc ?_ _)); refine blk_put (cs := #[.int .i64 ((rd_T25 l0 x29_2).f0), .int .i64 ((rd_T25 l0 x29_2).f1), .int .i64 ((rd_T25 l0 x29_2).f2), .int .i64 ((rd_T25 l0 x29_2).f3), .int .i64 ((rd_T25 l0 x29_2).f4), .int .i64 0]) ?_ 5 _ rfl; (with_reducible repeat (first | refine blk_drewN ?_ _ | refine blk_drew ?_ | refine blk_alloc ?_ _)); refine blk_put (cs := #[.int .i64 ((rd_T25 l0 x29_2).f0), .int .i64 ((rd_T25 l0 x29_2).f1), .int .i64 ((rd_T25 l0 x29_2).f2), .int .i64 ((rd_T25 l0 x29_2).f3), .int .i64 0, .int .i64 0]) ?_ 4 _ rfl; (with_reducible repeat (first | refine blk_drewN ?_ _ | refine blk_drew ?_ | refine blk_alloc ?_ _)); refine blk_put (cs := #[.int .i64 ((rd_T25 l0 x29_2).f0), .int .i64 ((rd_T25 l0 x29_2).f1), .int .i64 ((rd_T25 l0 x29_2).f2), .int .i64 0, .int .i64 0, .int .i64 0]) ?_ 3 _ rfl; (with_reducible repeat (first | refine blk_drewN ?_ _ | refine blk_drew ?_ | refine blk_alloc ?_ _)); refine blk_put (cs := #[.int .i64 ((rd_T25 l0 x29_2).f0), .int .i64 ((rd_T25 l0 x29_2).f1), .int .i64 0, .int .i64 0, .int .i64 0, .int .i64 0]) ?_ 2 _ rfl; (with_reducible repeat (first | refine blk_drewN ?_ _ | refine blk_drew ?_ | refine blk_alloc ?_ _)); refine blk_put (cs := #[.int .i64 ((rd_T25 l0 x29_2).f0), .int .i64 0, .int .i64 0, .int .i64 0, .int .i64 0, .int .i64 0]) ?_ 1 _ rfl; (with_reducible repeat (first | refine blk_drewN ?_ _ | refine blk_drew ?_ | refine blk_alloc ?_ _)); refine blk_put (cs := #[.int .i64 0, .int .i64 0, .int .i64 0, .int .i64 0, .int .i64 0, .int .i64 0]) ?_ 0 _ rfl; (with_reducible repeat (first | refine blk_drewN ?_ _ | refine blk_drew ?_ | refine blk_alloc ?_ _)); exact BK148.out) hb); have n3_ := Aside0.mk (below_step s4_2 hb); clear HO_6; clear BK148; clear HB; have HO_6 := n0_; have HO151 := n1_; have BK148 := n2_; have HB := n3_; clear n0_ n1_ n2_ n3_; clear hb ho28; have p24 : 0 ≤ (x29_2 : Int) := of_decide_eq_true s4_1; have q24 : (x29_2 : Int) < ((x6_2.length : Int) : Int) := of_decide_eq_true s4_1; obtain ⟨go24, co24, eo24, gb24, gl24, cl24, HG24⟩ := Kd.S_form HO_6.out (by omega); (first | cases eo24 | (injection eo24 with ea_ en_ ec_; (first | subst ea_ | (injection ea_ with ea_; subst ea_)); subst ec_; clear en_)); have GB24 := Aside0.mk gb24; have GG24 := Aside0.mk HG24; clear gb24 gl24 HG24; obtain ⟨_, ce24, hcl24, hM24, hcc24, hfr24, _, _⟩ := Kd.S_elem HO_6.out [] (x29_2 : Int) p24 q24; obtain ⟨ve24_0, rfl, ge24_0⟩ := hM24; have hx24_0 := hcc24 0 _ rfl; have hf24_0 := hfr24 0; (try simp only [show ((Kd.slice 3 (Kd.int .i64))).sz = 1 from rfl, Nat.mul_one, Nat.add_zero] at hx24_0); (try simp only [show ((Kd.slice 3 (Kd.int .i64))).sz = 1 from rfl, Nat.mul_one, Nat.add_zero] at hf24_0); (try clear hcl24); (try clear hcc24); (try clear hfr24); (try clear hM24); replace p24 := eq_true p24; replace q24 := eq_true q24; have n_ := Aside0.mk (Kd.S_mono (ok' := (fun k_ => some k_ ≠ (v150 : Value).ownBlock)) HO_6.out (fun k_ hk => hk.2)); clear HO_6; have HO_6 := n_; clear n_; have HX29 := Aside0.mk (show Kd.S (Kd.slice 3 (Kd.int .i64)) 43 w3 w.heap.size (fun k_ => ((fun _ => True)) k_ ∧ ¬ ((fun k_ => some k_ = (v150 : Value).ownBlock)) k_) (.slice (some ⟨go24, 0, none⟩) x6_2.length co24) x6_2 from (by (with_reducible repeat (first | apply Kd.S_alloc | apply Kd.S_drewN | apply Kd.S_drew)); exact Kd.S_mono HO_6.out (fun k_ hk => ⟨trivial, fun e_ => hk e_⟩))); obtain ⟨oki29, ce29, hcl29, hM29, hcc29, hfr29, hoki29, hH29⟩ := Kd.S_elem HX29.out [] (x29_2 : Int) (of_decide_eq_true s4_1) (by have h_ : (x29_2 : Int) < ((x6_2.length : Int) : Int) := of_decide_eq_true s4_1; first | exact h_ | (have e_ := (Kd.S_reads' HO_6.out).1; omega) | simpa using h_); obtain ⟨ve29_0, rfl, ge29_0⟩ := hM29; have HP29 := Kd.S_seg hH29 (of_decide_eq_true s4_1) (by have h_ : (x29_2 : Int) < ((x6_2.length : Int) : Int) := of_decide_eq_true s4_1; first | exact h_ | (have e_ := (Kd.S_reads' HO_6.out).1; omega) | simpa using h_) (seg := [v150]) (j := 0) (show 1 ≤ 1 from by decide) (x' := y149) (Kd.M_row (Kd.R_mono (Kd.R_tight rfl (Kd.R_mono (ok' := fun k_ => ((fun _ => True)) k_ ∧ k_ ≠ go24) (Kd.R_apart' (HO151.out) (Kd.S_typed HO_6.out) (by decide)) (fun k_ hk => ⟨trivial, fun e_ => (hk.2) (by rw [e_]; rfl)⟩))) (fun _ h_ => Or.inr (h_)))) (fun _ hk => hk) (fun k_ hk_ => ((Kd.R_mono (ok' := fun k_ => ((fun _ => True)) k_ ∧ k_ ≠ go24) (Kd.R_apart' (HO151.out) (Kd.S_typed HO_6.out) (by decide)) (fun k_ hk => ⟨trivial, fun e_ => (hk.2) (by rw [e_]; rfl)⟩))).1 k_ hk_.symm); have hx29_0 := hcc29 0 _ rfl; (try simp only [show ((Kd.slice 3 (Kd.int .i64))).sz = 1 from rfl, Nat.mul_one, Nat.add_zero] at hx29_0); have hf29_0 := hfr29 0; (try simp only [show ((Kd.slice 3 (Kd.int .i64))).sz = 1 from rfl, Nat.mul_one, Nat.add_zero] at hf29_0); (try clear hcl29); (try clear hcc29); (try clear hfr29); (try clear hM29); (try clear hoki29); (try clear hH29); (try simp only [show ((Kd.slice 3 (Kd.int .i64))).sz = 1 from rfl, Nat.mul_one, Nat.add_zero] at HP29)) | ((with_reducible refine gate_store (t := 43) (p := 39) rfl ?_); refine store_event (t := 43) (p := 39) (v := ?vo_w30) (w1 := (w3.setCell ⟨go24, (x29_2 : Int).toNat, none⟩ (v150))) ?hg ?ho ?hn ?hr ?_; (case ho => rfl); (case hg => rfl); (case hn => rfl); (case hr => (try (obtain ⟨Az_, cz_, ez_⟩ := HZ_v150.out; subst ez_)); first | (go_simp; done) | (go_simp; rfl)); intro w4 hw; have hg : w3.grownBy w4 (some go24) := (by rw [hw]; exact HP29.2); have hp_ : Kd.S (Kd.slice 3 (Kd.int .i64)) 43 w4 w.heap.size (fun _ => True) (.slice (some ⟨go24, 0, none⟩) x6_2.length co24) y152 := (by rw [hw, Ny152.out]; exact HP29.1); clear HP29; have n0_ := Aside0.mk (hp_); have n1_ := Aside0.mk (blk_grown (g := gb148) (o := .cells #[.int .i64 ((rd_T25 l0 x29_2).f0), .int .i64 ((rd_T25 l0 x29_2).f1), .int .i64 ((rd_T25 l0 x29_2).f2), .int .i64 ((rd_T25 l0 x29_2).f3), .int .i64 ((rd_T25 l0 x29_2).f4), .int .i64 ((rd_T25 l0 x29_2).f5)] 25 (0, 0)) (zk BK148.out) hg (Kd.S_ne HO_6.out BK148.out (by decide))); have n2_ := Aside0.mk ((by rw [hw]; exact below_set (HB.out) GB24.out : Below w.heap.size w w4)); clear HO_6; clear BK148; clear HB; clear HO151; have HO_6 := n0_; have BK148 := n1_; have HB := n2_; clear n0_ n1_ n2_; clear hg hw hp_))
               go_loopg [42] k2 (fun kq v42 w' => ∃ (x6_3 : List (List Int)) (x42_3 : Int), v42 = .int .i64 x42_3 ∧ Aside0 (impl_Duties.l2 kq l0 x6_3 x29_2 l0 (l0.length : Int) x29_2 l0 (l0.length : Int) x42_3 ((rd_T25 l0 x29_2).f0) ((rd_T25 l0 x29_2).f1) ((rd_T25 l0 x29_2).f2) ((rd_T25 l0 x29_2).f3) ((rd_T25 l0 x29_2).f4) ((rd_T25 l0 x29_2).f5) = some (r1, r2)) ∧ Aside0 (kq ≤ k2) ∧ Aside0 (Kd.S (Kd.slice 3 (Kd.int .i64)) 43 w' w.heap.size (fun _ => True) (.slice (some ⟨go24, 0, none⟩) x6_2.length co24) x6_3) ∧ Aside0 (w'.heap[gb148]? = some (.cells #[.int .i64 ((rd_T25 l0 x29_2).f0), .int .i64 ((rd_T25 l0 x29_2).f1), .int .i64 ((rd_T25 l0 x29_2).f2), .int .i64 ((rd_T25 l0 x29_2).f3), .int .i64 ((rd_T25 l0 x29_2).f4), .int .i64 ((rd_T25 l0 x29_2).f5)] 25 (0, 0))) ∧ Aside0 (Below w.heap.size w w'))
               case atStart => exact ⟨(y152), (0), (by first | rfl | (simp; done) | (simp [*]; done)), H', ⟨Nat.le_refl _⟩, ⟨by (with_reducible repeat (first | apply Kd.S_alloc | apply Kd.S_drewN | apply Kd.S_drew)); exact HO_6.out⟩, ⟨by (with_reducible repeat (first | refine blk_drewN ?_ _ | refine blk_drew ?_ | refine blk_alloc ?_ _)); exact BK148.out⟩, ⟨by repeat (first | (with_reducible first | exact HB.out | apply below_alloc | apply pw_below_drewN | apply below_drew1 | refine below_set ?_ GE148.out) | exact HB.out)⟩⟩
               case round =>
                clear H'
                (try clear c1); (try clear p1); (try clear q1); (try clear hx1); (try clear c2); (try clear c2b0); (try clear c2b1); (try clear p2); (try clear q2); (try clear hx2); (try clear hf2); (try clear c3); (try clear c3b0); (try clear c4); (try clear c4b0); (try clear c5); (try clear c5b0); (try clear p6); (try clear c7); (try clear c14); (try clear c14b0); (try clear c14b1); (try clear p14); (try clear q14); (try clear hx14); (try clear c15); (try clear c15b0); (try clear c15b1); (try clear c17); (try clear c18); (try clear c18b0); (try clear c19); (try clear c19b0); (try clear c20); (try clear c20b0); (try clear c21); (try clear c21b0); (try clear c21b1); (try clear c22); (try clear c22b0); (try clear c22b1); (try clear c23); (try clear c23b0); (try clear c24); (try clear p24); (try clear q24); (try clear hx24); (try clear hf24); (try clear c29); (try clear hx29); (try clear hf29); (try clear hcz12_0); (try clear hcz12_1); (try clear hcz12_2); (try clear hcz12_3); (try clear hcz12_4); (try clear hcz12_5); (try clear hcz26_0); (try clear hcz26_1); (try clear hcz26_2); (try clear hcz26_3); (try clear hcz26_4); (try clear hcz26_5); (try clear hcz9_0); (try clear hcz9_1); (try clear hcz9_2); (try clear hcz9_3); (try clear hcz9_4); (try clear hcz9_5); (try clear hfz12_0); (try clear hfz12_1); (try clear hfz12_2); (try clear hfz12_3); (try clear hfz12_4); (try clear hfz12_5); (try clear hfz26_0); (try clear hfz26_1); (try clear hfz26_2); (try clear hfz26_3); (try clear hfz26_4); (try clear hfz26_5); (try clear hfz9_0); (try clear hfz9_1); (try clear hfz9_2); (try clear hfz9_3); (try clear hfz9_4); (try clear hfz9_5); (try clear hx141_0); (try clear hx141_1); (try clear hx141_2); (try clear hx141_3); (try clear hx141_4); (try clear hx141_5); (try clear hx147_0); (try clear hx147_1); (try clear hx147_2); (try clear hx147_3); (try clear hx147_4); (try clear hx147_5); (try clear hx24_0); (try clear hx29_0); (try clear p1); (try clear p14); (try clear p141); (try clear p147); (try clear p2); (try clear p24); (try clear p6); (try clear q1); (try clear q14); (try clear q141); (try clear q147); (try clear q24)
                obtain ⟨x6_3, x42_3, rfl, HA, HK3, HO_6, BK148, HB⟩ := hrel
                have hl6_3 := (Kd.S_reads' HO_6.out).1
                rw [hl6_3] at HO_6
                (try simp only [hl6_3])
                (try simp only [hl6_3] at BK148)
                cases gk with
                | zero => exact absurd HA.out (by simp [impl_Duties.l2])
                | succ k3 =>
                 have H := HA.out
                 clear HA
                 simp only [impl_Duties.l2] at H
                 by_cases c31 : x42_3 < (l0.length : Int)
                 ·rw [if_pos c31] at H
                  have c31b0 : decide (x42_3 < (l0.length : Int)) = true := decide_eq_true c31
                  (try simp only [hl6_3] at c31b0)
                  clear c31
                  by_cases c32 : 0 ≤ x42_3
                  ·rw [if_pos c32] at H
                   have c32b0 : decide (0 ≤ x42_3) = true := decide_eq_true c32
                   clear c32
                   by_cases c33 : x42_3 < (l0.length : Int)
                   ·rw [if_pos c33] at H
                    have c33b0 : decide (x42_3 < (l0.length : Int)) = true := decide_eq_true c33
                    (try simp only [hl6_3] at c33b0)
                    clear c33
                    by_cases c34 : x29_2 = x42_3
                    ·rw [if_pos c34] at H
                     have c34b0 : (x29_2 == x42_3) = true := beq_iff_eq.mpr c34
                     have c34b1 : (x29_2 != x42_3) = false := bne_eq_false_iff_eq.mpr c34
                     clear c34
                     have H' := Aside0.mk H
                     clear H
                     have p153 : 0 ≤ (x42_3 : Int) := of_decide_eq_true s4_1
                     have q153 : x42_3 < (l0.length : Int) := of_decide_eq_true s4_1
                     obtain ⟨ad153, e153, hx153_0, hx153_1, hx153_2, hx153_3, hx153_4, hx153_5⟩ := at_T25 HR0.out x42_3 p153 q153
                     obtain rfl : ad147 = ad153 := (by injection e153)
                     replace hx153_0 := (HB.out.cell (World.block_lt_of_cell? w _ hx153_0)).trans hx153_0
                     replace hx153_1 := (HB.out.cell (World.block_lt_of_cell? w _ hx153_1)).trans hx153_1
                     replace hx153_2 := (HB.out.cell (World.block_lt_of_cell? w _ hx153_2)).trans hx153_2
                     replace hx153_3 := (HB.out.cell (World.block_lt_of_cell? w _ hx153_3)).trans hx153_3
                     replace hx153_4 := (HB.out.cell (World.block_lt_of_cell? w _ hx153_4)).trans hx153_4
                     replace hx153_5 := (HB.out.cell (World.block_lt_of_cell? w _ hx153_5)).trans hx153_5
                     replace p153 := eq_true p153
                     replace q153 := eq_true q153
                     go_wp2_with (first | ((with_reducible refine gate_dst (N := 10) rfl ?_); refine box_event ?hg (N := 10) ?hd (cs := #[.int .i64 0, .int .i64 0, .int .i64 0, .int .i64 0, .int .i64 0, .int .i64 0]) (t := 25) ?hr ?_; (case hd => rfl); (case hg => rfl); (case hr => first | (go_simp; done) | (go_simp; rfl)); intro gb154 hg w5 hbox hb; have n0_ := Aside0.mk (Kd.S_below (by (with_reducible repeat (first | apply Kd.S_alloc | apply Kd.S_drewN | apply Kd.S_drew)); exact HO_6.out) hb); have n1_ := Aside0.mk (blk_below (g := gb148) (o := .cells #[.int .i64 ((rd_T25 l0 x29_2).f0), .int .i64 ((rd_T25 l0 x29_2).f1), .int .i64 ((rd_T25 l0 x29_2).f2), .int .i64 ((rd_T25 l0 x29_2).f3), .int .i64 ((rd_T25 l0 x29_2).f4), .int .i64 ((rd_T25 l0 x29_2).f5)] 25 (0, 0)) (zk BK148.out) hb); have n2_ := Aside0.mk (below_step s4_2 hb); have n3_ := Aside0.mk (hbox); have n4_ := Aside0.mk (ns hg s4_2 : w.heap.size ≤ gb154); have n5_ := Aside0.mk (ns hg s4_2 : w.heap.size ≤ gb154); have n6_ := Aside0.mk ((by rw [hg]; exact Nat.ne_of_lt (blk_lt (g := gb148) (o := .cells #[.int .i64 ((rd_T25 l0 x29_2).f0), .int .i64 ((rd_T25 l0 x29_2).f1), .int .i64 ((rd_T25 l0 x29_2).f2), .int .i64 ((rd_T25 l0 x29_2).f3), .int .i64 ((rd_T25 l0 x29_2).f4), .int .i64 ((rd_T25 l0 x29_2).f5)] 25 (0, 0)) (zk BK148.out)) : gb148 ≠ gb154)); have n7_ := Aside0.mk ((by rw [hg]; exact Nat.ne_of_gt (blk_lt (g := gb148) (o := .cells #[.int .i64 ((rd_T25 l0 x29_2).f0), .int .i64 ((rd_T25 l0 x29_2).f1), .int .i64 ((rd_T25 l0 x29_2).f2), .int .i64 ((rd_T25 l0 x29_2).f3), .int .i64 ((rd_T25 l0 x29_2).f4), .int .i64 ((rd_T25 l0 x29_2).f5)] 25 (0, 0)) (zk BK148.out)) : gb154 ≠ gb148)); clear HO_6; clear BK148; clear HB; have HO_6 := n0_; have BK148 := n1_; have HB := n2_; have BK154 := n3_; have GW154 := n4_; have GE154 := n5_; have NB148_154 := n6_; have NB154_148 := n7_; clear n0_ n1_ n2_ n3_ n4_ n5_ n6_ n7_; clear hb hbox hg; have hnb36 := NB154_148.out; have hnc36 := NB148_154.out; have hcz37_0 : w5.cell? ⟨gb154, 0, none⟩ = some (.int .i64 0) := bc BK154.out 0; have hcz37_1 : w5.cell? ⟨gb154, 1, none⟩ = some (.int .i64 0) := bc BK154.out 1; have hcz37_2 : w5.cell? ⟨gb154, 2, none⟩ = some (.int .i64 0) := bc BK154.out 2; have hcz37_3 : w5.cell? ⟨gb154, 3, none⟩ = some (.int .i64 0) := bc BK154.out 3; have hcz37_4 : w5.cell? ⟨gb154, 4, none⟩ = some (.int .i64 0) := bc BK154.out 4; have hcz37_5 : w5.cell? ⟨gb154, 5, none⟩ = some (.int .i64 0) := bc BK154.out 5; have hfz37_0 := blk_frozen BK154.out 0; have hfz37_1 := blk_frozen BK154.out 1; have hfz37_2 := blk_frozen BK154.out 2; have hfz37_3 := blk_frozen BK154.out 3; have hfz37_4 := blk_frozen BK154.out 4; have hfz37_5 := blk_frozen BK154.out 5))
                     (try simp only [← hl6_3])
                     go_roundg k3
                     case measure => have := HK1.out; have := HK2.out; have := HK3.out; omega
                     case rel => exact ⟨(x6_3), (wrap64 (x42_3 + 1)), (by first | rfl | (simp; done) | (simp [*]; done)), H', ⟨by have := HK1.out; have := HK2.out; have := HK3.out; omega⟩, ⟨by (try simp only [hl6_3]); (with_reducible repeat (first | apply Kd.S_alloc | apply Kd.S_drewN | apply Kd.S_drew)); exact Kd.S_mono (Kd.S_far (p := ⟨gb154, 5, none⟩) (Kd.S_far (p := ⟨gb154, 4, none⟩) (Kd.S_far (p := ⟨gb154, 3, none⟩) (Kd.S_far (p := ⟨gb154, 2, none⟩) (Kd.S_far (p := ⟨gb154, 1, none⟩) (Kd.S_far (p := ⟨gb154, 0, none⟩) (Kd.S_types HO_6.out BK154.out (by decide)) (fun _ hk => hk.2) (.int .i64 ((rd_T25 l0 x42_3).f0))) (fun _ hk => hk.2) (.int .i64 ((rd_T25 l0 x42_3).f1))) (fun _ hk => hk.2) (.int .i64 ((rd_T25 l0 x42_3).f2))) (fun _ hk => hk.2) (.int .i64 ((rd_T25 l0 x42_3).f3))) (fun _ hk => hk.2) (.int .i64 ((rd_T25 l0 x42_3).f4))) (fun _ hk => hk.2) (.int .i64 ((rd_T25 l0 x42_3).f5))) (fun _ hk => trivial)⟩, ⟨by (try simp only [hl6_3]); (with_reducible repeat (first | refine blk_drewN ?_ _ | refine blk_drew ?_ | refine blk_alloc ?_ _)); refine blk_far ?_ NB148_154.out _; (with_reducible repeat (first | refine blk_drewN ?_ _ | refine blk_drew ?_ | refine blk_alloc ?_ _)); refine blk_far ?_ NB148_154.out _; (with_reducible repeat (first | refine blk_drewN ?_ _ | refine blk_drew ?_ | refine blk_alloc ?_ _)); refine blk_far ?_ NB148_154.out _; (with_reducible repeat (first | refine blk_drewN ?_ _ | refine blk_drew ?_ | refine blk_alloc ?_ _)); refine blk_far ?_ NB148_154.out _; (with_reducible repeat (first | refine blk_drewN ?_ _ | refine blk_drew ?_ | refine blk_alloc ?_ _)); refine blk_far ?_ NB148_154.out _; (with_reducible repeat (first | refine blk_drewN ?_ _ | refine blk_drew ?_ | refine blk_alloc ?_ _)); refine blk_far ?_ NB148_154.out _; (with_reducible repeat (first | refine blk_drewN ?_ _ | refine blk_drew ?_ | refine blk_alloc ?_ _)); exact BK148.out⟩, ⟨by repeat (first | (with_reducible first | exact HB.out | apply below_alloc | apply pw_below_drewN | apply below_drew1 | refine below_set ?_ GE148.out | refine below_set ?_ GE154.out) | exact HB.out)⟩⟩
                    ·rw [if_neg c34] at H
                     have c34b0 : (x29_2 == x42_3) = false := beq_eq_false_iff_ne.mpr c34
                     have c34b1 : (x29_2 != x42_3) = true := bne_iff_ne.mpr c34
                     by_cases c38 : 0 ≤ x29_2
                     ·rw [if_pos c38] at H
                      have c38b0 : decide (0 ≤ x29_2) = true := decide_eq_true c38
                      clear c38
                      by_cases c39 : x29_2 < (x6_3.length : Int)
                      ·rw [if_pos c39] at H
                       have c39b0 : decide (x29_2 < (x6_3.length : Int)) = true := decide_eq_true c39
                       (try simp only [hl6_3] at c39b0)
                       clear c39
                       replace H := Option.bind_eq_some_iff.mp H
                       obtain ⟨t156, A400, H⟩ := H
                       replace H : (if x42_3 < ((rd_L3 x6_3 x29_2).length : Int) then (impl_Duties.l2 k3 l0 (x6_3.set (x29_2 : Int).toNat ((rd_L3 x6_3 x29_2).set (x42_3 : Int).toNat t156)) x29_2 l0 (l0.length : Int) x29_2 l0 (l0.length : Int) (wrap64 (x42_3 + 1)) ((rd_T25 l0 x29_2).f0) ((rd_T25 l0 x29_2).f1) ((rd_T25 l0 x29_2).f2) ((rd_T25 l0 x29_2).f3) ((rd_T25 l0 x29_2).f4) ((rd_T25 l0 x29_2).f5)) else (none)) = some (r1, r2) := H
                       have A40 := Aside0.mk A400
                       clear A400
                       by_cases c41 : x42_3 < ((rd_L3 x6_3 x29_2).length : Int)
                       ·rw [if_pos c41] at H
                        have c41b0 : decide (x42_3 < ((rd_L3 x6_3 x29_2).length : Int)) = true := decide_eq_true c41
                        (try simp only [hl6_3] at c41b0)
                        clear c41
                        obtain ⟨y157, hy157⟩ : ∃ y_ : List Int, y_ = ((rd_L3 x6_3 x29_2).set (x42_3 : Int).toNat t156) := ⟨_, rfl⟩
                        replace H : (impl_Duties.l2 k3 l0 (x6_3.set (x29_2 : Int).toNat y157) x29_2 l0 (l0.length : Int) x29_2 l0 (l0.length : Int) (wrap64 (x42_3 + 1)) ((rd_T25 l0 x29_2).f0) ((rd_T25 l0 x29_2).f1) ((rd_T25 l0 x29_2).f2) ((rd_T25 l0 x29_2).f3) ((rd_T25 l0 x29_2).f4) ((rd_T25 l0 x29_2).f5)) = some (r1, r2) := by first | (rw [hy157]; with_reducible exact H) | (have H2_ := (Option.bind_some _ _).symm.trans H; rw [hy157]; with_reducible exact H2_) | (have H2_ := (Option.bind_some _ _).symm.trans H; with_reducible exact H2_) | with_reducible exact H | (rw [hy157]; exact H) | exact H
                        have Ny157 := Aside0.mk hy157
                        clear hy157
                        obtain ⟨y159, hy159⟩ : ∃ y_ : List (List Int), y_ = (x6_3.set (x29_2 : Int).toNat y157) := ⟨_, rfl⟩
                        replace H : (impl_Duties.l2 k3 l0 y159 x29_2 l0 (l0.length : Int) x29_2 l0 (l0.length : Int) (wrap64 (x42_3 + 1)) ((rd_T25 l0 x29_2).f0) ((rd_T25 l0 x29_2).f1) ((rd_T25 l0 x29_2).f2) ((rd_T25 l0 x29_2).f3) ((rd_T25 l0 x29_2).f4) ((rd_T25 l0 x29_2).f5)) = some (r1, r2) := by first | (rw [hy159]; with_reducible exact H) | (have H2_ := (Option.bind_some _ _).symm.trans H; rw [hy159]; with_reducible exact H2_) | (have H2_ := (Option.bind_some _ _).symm.trans H; with_reducible exact H2_) | with_reducible exact H | (rw [hy159]; exact H) | exact H
                        have Ny159 := Aside0.mk hy159
                        clear hy159
                        have H' := Aside0.mk H
                        clear H
                        have p153 : 0 ≤ (x42_3 : Int) := of_decide_eq_true s4_1
                        have q153 : x42_3 < (l0.length : Int) := of_decide_eq_true s4_1
                        obtain ⟨ad153, e153, hx153_0, hx153_1, hx153_2, hx153_3, hx153_4, hx153_5⟩ := at_T25 HR0.out x42_3 p153 q153
                        obtain rfl : ad147 = ad153 := (by injection e153)
                        replace hx153_0 := (HB.out.cell (World.block_lt_of_cell? w _ hx153_0)).trans hx153_0
                        replace hx153_1 := (HB.out.cell (World.block_lt_of_cell? w _ hx153_1)).trans hx153_1
                        replace hx153_2 := (HB.out.cell (World.block_lt_of_cell? w _ hx153_2)).trans hx153_2
                        replace hx153_3 := (HB.out.cell (World.block_lt_of_cell? w _ hx153_3)).trans hx153_3
                        replace hx153_4 := (HB.out.cell (World.block_lt_of_cell? w _ hx153_4)).trans hx153_4
                        replace hx153_5 := (HB.out.cell (World.block_lt_of_cell? w _ hx153_5)).trans hx153_5
                        replace p153 := eq_true p153
                        replace q153 := eq_true q153
                        try go_wp2_with (first | ((with_reducible refine gate_dst (N := 10) rfl ?_); refine box_event ?hg (N := 10) ?hd (cs := #[.int .i64 0, .int .i64 0, .int .i64 0, .int .i64 0, .int .i64 0, .int .i64 0]) (t := 25) ?hr ?_; (case hd => rfl); (case hg => rfl); (case hr => first | (go_simp; done) | (go_simp; rfl)); intro gb154 hg w5 hbox hb; have n0_ := Aside0.mk (Kd.S_below (by (with_reducible repeat (first | apply Kd.S_alloc | apply Kd.S_drewN | apply Kd.S_drew)); exact HO_6.out) hb); have n1_ := Aside0.mk (blk_below (g := gb148) (o := .cells #[.int .i64 ((rd_T25 l0 x29_2).f0), .int .i64 ((rd_T25 l0 x29_2).f1), .int .i64 ((rd_T25 l0 x29_2).f2), .int .i64 ((rd_T25 l0 x29_2).f3), .int .i64 ((rd_T25 l0 x29_2).f4), .int .i64 ((rd_T25 l0 x29_2).f5)] 25 (0, 0)) (zk BK148.out) hb); have n2_ := Aside0.mk (below_step s4_2 hb); have n3_ := Aside0.mk (hbox); have n4_ := Aside0.mk (ns hg s4_2 : w.heap.size ≤ gb154); have n5_ := Aside0.mk (ns hg s4_2 : w.heap.size ≤ gb154); have n6_ := Aside0.mk ((by rw [hg]; exact Nat.ne_of_lt (blk_lt (g := gb148) (o := .cells #[.int .i64 ((rd_T25 l0 x29_2).f0), .int .i64 ((rd_T25 l0 x29_2).f1), .int .i64 ((rd_T25 l0 x29_2).f2), .int .i64 ((rd_T25 l0 x29_2).f3), .int .i64 ((rd_T25 l0 x29_2).f4), .int .i64 ((rd_T25 l0 x29_2).f5)] 25 (0, 0)) (zk BK148.out)) : gb148 ≠ gb154)); have n7_ := Aside0.mk ((by rw [hg]; exact Nat.ne_of_gt (blk_lt (g := gb148) (o := .cells #[.int .i64 ((rd_T25 l0 x29_2).f0), .int .i64 ((rd_T25 l0 x29_2).f1), .int .i64 ((rd_T25 l0 x29_2).f2), .int .i64 ((rd_T25 l0 x29_2).f3), .int .i64 ((rd_T25 l0 x29_2).f4), .int .i64 ((rd_T25 l0 x29_2).f5)] 25 (0, 0)) (zk BK148.out)) : gb154 ≠ gb148)); clear HO_6; clear BK148; clear HB; have HO_6 := n0_; have BK148 := n1_; have HB := n2_; have BK154 := n3_; have GW154 := n4_; have GE154 := n5_; have NB148_154 := n6_; have NB154_148 := n7_; clear n0_ n1_ n2_ n3_ n4_ n5_ n6_ n7_; clear hb hbox hg; have hnb44 := NB154_148.out; have hnc44 := NB148_154.out; have hcz45_0 : w5.cell? ⟨gb154, 0, none⟩ = some (.int .i64 0) := bc BK154.out 0; have hcz45_1 : w5.cell? ⟨gb154, 1, none⟩ = some (.int .i64 0) := bc BK154.out 1; have hcz45_2 : w5.cell? ⟨gb154, 2, none⟩ = some (.int .i64 0) := bc BK154.out 2; have hcz45_3 : w5.cell? ⟨gb154, 3, none⟩ = some (.int .i64 0) := bc BK154.out 3; have hcz45_4 : w5.cell? ⟨gb154, 4, none⟩ = some (.int .i64 0) := bc BK154.out 4; have hcz45_5 : w5.cell? ⟨gb154, 5, none⟩ = some (.int .i64 0) := bc BK154.out 5; have hfz45_0 := blk_frozen BK154.out 0; have hfz45_1 := blk_frozen BK154.out 1; have hfz45_2 := blk_frozen BK154.out 2; have hfz45_3 := blk_frozen BK154.out 3; have hfz45_4 := blk_frozen BK154.out 4; have hfz45_5 := blk_frozen BK154.out 5))
                        have n0_ : Aside0 (Kd.S (Kd.slice 3 (Kd.int .i64)) 43 ((((((w5.setCell ⟨gb154, 0, none⟩ (.int .i64 ((rd_T25 l0 x42_3).f0))).setCell ⟨gb154, 1, none⟩ (.int .i64 ((rd_T25 l0 x42_3).f1))).setCell ⟨gb154, 2, none⟩ (.int .i64 ((rd_T25 l0 x42_3).f2))).setCell ⟨gb154, 3, none⟩ (.int .i64 ((rd_T25 l0 x42_3).f3))).setCell ⟨gb154, 4, none⟩ (.int .i64 ((rd_T25 l0 x42_3).f4))).setCell ⟨gb154, 5, none⟩ (.int .i64 ((rd_T25 l0 x42_3).f5))) w.heap.size (fun _ => True) (.slice (some ⟨go24, 0, none⟩) x6_3.length co24) x6_3) := ⟨by (with_reducible repeat (first | apply Kd.S_alloc | apply Kd.S_drewN | apply Kd.S_drew)); exact Kd.S_mono (Kd.S_far (p := ⟨gb154, 5, none⟩) (Kd.S_far (p := ⟨gb154, 4, none⟩) (Kd.S_far (p := ⟨gb154, 3, none⟩) (Kd.S_far (p := ⟨gb154, 2, none⟩) (Kd.S_far (p := ⟨gb154, 1, none⟩) (Kd.S_far (p := ⟨gb154, 0, none⟩) (Kd.S_types HO_6.out BK154.out (by decide)) (fun _ hk => hk.2) (.int .i64 ((rd_T25 l0 x42_3).f0))) (fun _ hk => hk.2) (.int .i64 ((rd_T25 l0 x42_3).f1))) (fun _ hk => hk.2) (.int .i64 ((rd_T25 l0 x42_3).f2))) (fun _ hk => hk.2) (.int .i64 ((rd_T25 l0 x42_3).f3))) (fun _ hk => hk.2) (.int .i64 ((rd_T25 l0 x42_3).f4))) (fun _ hk => hk.2) (.int .i64 ((rd_T25 l0 x42_3).f5))) (fun _ hk => trivial)⟩
                        have n1_ : Aside0 (((((((w5.setCell ⟨gb154, 0, none⟩ (.int .i64 ((rd_T25 l0 x42_3).f0))).setCell ⟨gb154, 1, none⟩ (.int .i64 ((rd_T25 l0 x42_3).f1))).setCell ⟨gb154, 2, none⟩ (.int .i64 ((rd_T25 l0 x42_3).f2))).setCell ⟨gb154, 3, none⟩ (.int .i64 ((rd_T25 l0 x42_3).f3))).setCell ⟨gb154, 4, none⟩ (.int .i64 ((rd_T25 l0 x42_3).f4))).setCell ⟨gb154, 5, none⟩ (.int .i64 ((rd_T25 l0 x42_3).f5))).heap[gb148]? = some (.cells #[.int .i64 ((rd_T25 l0 x29_2).f0), .int .i64 ((rd_T25 l0 x29_2).f1), .int .i64 ((rd_T25 l0 x29_2).f2), .int .i64 ((rd_T25 l0 x29_2).f3), .int .i64 ((rd_T25 l0 x29_2).f4), .int .i64 ((rd_T25 l0 x29_2).f5)] 25 (0, 0))) := ⟨by (with_reducible repeat (first | refine blk_drewN ?_ _ | refine blk_drew ?_ | refine blk_alloc ?_ _)); refine blk_far ?_ NB148_154.out _; (with_reducible repeat (first | refine blk_drewN ?_ _ | refine blk_drew ?_ | refine blk_alloc ?_ _)); refine blk_far ?_ NB148_154.out _; (with_reducible repeat (first | refine blk_drewN ?_ _ | refine blk_drew ?_ | refine blk_alloc ?_ _)); refine blk_far ?_ NB148_154.out _; (with_reducible repeat (first | refine blk_drewN ?_ _ | refine blk_drew ?_ | refine blk_alloc ?_ _)); refine blk_far ?_ NB148_154.out _; (with_reducible repeat (first | refine blk_drewN ?_ _ | refine blk_drew ?_ | refine blk_alloc ?_ _)); refine blk_far ?_ NB148_154.out _; (with_reducible repeat (first | refine blk_drewN ?_ _ | refine blk_drew ?_ | refine blk_alloc ?_ _)); refine blk_far ?_ NB148_154.out _; (with_reducible repeat (first | refine blk_drewN ?_ _ | refine blk_drew ?_ | refine blk_alloc ?_ _)); exact BK148.out⟩
                        have n2_ : Aside0 (((((((w5.setCell ⟨gb154, 0, none⟩ (.int .i64 ((rd_T25 l0 x42_3).f0))).setCell ⟨gb154, 1, none⟩ (.int .i64 ((rd_T25 l0 x42_3).f1))).setCell ⟨gb154, 2, none⟩ (.int .i64 ((rd_T25 l0 x42_3).f2))).setCell ⟨gb154, 3, none⟩ (.int .i64 ((rd_T25 l0 x42_3).f3))).setCell ⟨gb154, 4, none⟩ (.int .i64 ((rd_T25 l0 x42_3).f4))).setCell ⟨gb154, 5, none⟩ (.int .i64 ((rd_T25 l0 x42_3).f5))).heap[gb154]? = some (.cells #[.int .i64 ((rd_T25 l0 x42_3).f0), .int .i64 ((rd_T25 l0 x42_3).f1), .int .i64 ((rd_T25 l0 x42_3).f2), .int .i64 ((rd_T25 l0 x42_3).f3), .int .i64 ((rd_T25 l0 x42_3).f4), .int .i64 ((rd_T25 l0 x42_3).f5)] 25 (0, 0))) := ⟨by (with_reducible repeat (first | refine blk_drewN ?_ _ | refine blk_drew ?_ | refine blk_alloc ?_ _)); refine blk_put (cs := #[.int .i64 ((rd_T25 l0 x42_3).f0), .int .i64 ((rd_T25 l0 x42_3).f1), .int .i64 ((rd_T25 l0 x42_3).f2), .int .i64 ((rd_T25 l0 x42_3).f3), .int .i64 ((rd_T25 l0 x42_3).f4), .int .i64 0]) ?_ 5 _ rfl; (with_reducible repeat (first | refine blk_drewN ?_ _ | refine blk_drew ?_ | refine blk_alloc ?_ _)); refine blk_put (cs := #[.int .i64 ((rd_T25 l0 x42_3).f0), .int .i64 ((rd_T25 l0 x42_3).f1), .int .i64 ((rd_T25 l0 x42_3).f2), .int .i64 ((rd_T25 l0 x42_3).f3), .int .i64 0, .int .i64 0]) ?_ 4 _ rfl; (with_reducible repeat (first | refine blk_drewN ?_ _ | refine blk_drew ?_ | refine blk_alloc ?_ _)); refine blk_put (cs := #[.int .i64 ((rd_T25 l0 x42_3).f0), .int .i64 ((rd_T25 l0 x42_3).f1), .int .i64 ((rd_T25 l0 x42_3).f2), .int .i64 0, .int .i64 0, .int .i64 0]) ?_ 3 _ rfl; (with_reducible repeat (first | refine blk_drewN ?_ _ | refine blk_drew ?_ | refine blk_alloc ?_ _)); refine blk_put (cs := #[.int .i64 ((rd_T25 l0 x42_3).f0), .int .i64 ((rd_T25 l0 x42_3).f1), .int .i64 0, .int .i64 0, .int .i64 0, .int .i64 0]) ?_ 2 _ rfl; (with_reducible repeat (first | refine blk_drewN ?_ _ | refine blk_drew ?_ | refine blk_alloc ?_ _)); refine blk_put (cs := #[.int .i64 ((rd_T25 l0 x42_3).f0), .int .i64 0, .int .i64 0, .int .i64 0, .int .i64 0, .int .i64 0]) ?_ 1 _ rfl; (with_reducible repeat (first | refine blk_drewN ?_ _ | refine blk_drew ?_ | refine blk_alloc ?_ _)); refine blk_put (cs := #[.int .i64 0, .int .i64 0, .int .i64 0, .int .i64 0, .int .i64 0, .int .i64 0]) ?_ 0 _ rfl; (with_reducible repeat (first | refine blk_drewN ?_ _ | refine blk_drew ?_ | refine blk_alloc ?_ _)); exact BK154.out⟩
                        have n3_ : Aside0 (Below w.heap.size w ((((((w5.setCell ⟨gb154, 0, none⟩ (.int .i64 ((rd_T25 l0 x42_3).f0))).setCell ⟨gb154, 1, none⟩ (.int .i64 ((rd_T25 l0 x42_3).f1))).setCell ⟨gb154, 2, none⟩ (.int .i64 ((rd_T25 l0 x42_3).f2))).setCell ⟨gb154, 3, none⟩ (.int .i64 ((rd_T25 l0 x42_3).f3))).setCell ⟨gb154, 4, none⟩ (.int .i64 ((rd_T25 l0 x42_3).f4))).setCell ⟨gb154, 5, none⟩ (.int .i64 ((rd_T25 l0 x42_3).f5)))) := ⟨by repeat (first | (with_reducible first | exact HB.out | apply below_alloc | apply pw_below_drewN | apply below_drew1 | refine below_set ?_ GE148.out | refine below_set ?_ GE154.out) | exact HB.out)⟩
                        (try clear HO_6)
                        (try clear BK148)
                        (try clear BK154)
                        (try clear HB)
                        generalize ((((((w5.setCell ⟨gb154, 0, none⟩ (.int .i64 ((rd_T25 l0 x42_3).f0))).setCell ⟨gb154, 1, none⟩ (.int .i64 ((rd_T25 l0 x42_3).f1))).setCell ⟨gb154, 2, none⟩ (.int .i64 ((rd_T25 l0 x42_3).f2))).setCell ⟨gb154, 3, none⟩ (.int .i64 ((rd_T25 l0 x42_3).f3))).setCell ⟨gb154, 4, none⟩ (.int .i64 ((rd_T25 l0 x42_3).f4))).setCell ⟨gb154, 5, none⟩ (.int .i64 ((rd_T25 l0 x42_3).f5))) = w6 at n0_ n1_ n2_ n3_ ⊢
                        have HO_6 := n0_
                        have BK148 := n1_
                        have BK154 := n2_
                        have HB := n3_
                        clear n0_ n1_ n2_ n3_
                        have n0_ := Aside0.mk (Kd.S_drew HO_6.out)
                        have n1_ := Aside0.mk (blk_drew BK148.out)
                        have n2_ := Aside0.mk (blk_drew BK154.out)
                        have n3_ := Aside0.mk (below_drew1 HB.out)
                        clear HO_6 BK148 BK154 HB
                        have HO_6 := n0_
                        have BK148 := n1_
                        have BK154 := n2_
                        have HB := n3_
                        clear n0_ n1_ n2_ n3_
                        have p155 : 0 ≤ (x29_2 : Int) := of_decide_eq_true s4_1
                        have q155 : x29_2 < (x6_3.length : Int) := of_decide_eq_true s4_1
                        obtain ⟨ad155, A155_0, c155_0, e155, hx155_0, hl155_0, hi155_0⟩ := at_L3 (Kd.S_reads' HO_6.out).2.2 x29_2 p155 q155
                        obtain rfl : (⟨go24, 0, none⟩ : Addr) = ad155 := (by injection e155)
                        obtain ⟨ce155, hce155, hMe155, hcc155⟩ := Kd.S_get HO_6.out [] x29_2 p155 (by first | exact q155 | exact of_decide_eq_true s4_1 | (have e_ := (Kd.S_reads' HO_6.out).1; omega))
                        obtain ⟨ve155_0, rfl, ge155_0⟩ := hMe155
                        have hv155_0 := hcc155 0 _ rfl
                        rw [Nat.add_zero, show ((Kd.slice 3 (Kd.int .i64))).sz = 1 from rfl, Nat.mul_one] at hv155_0
                        replace hv155_0 := Option.some.inj (hv155_0.symm.trans hx155_0)
                        rw [hv155_0] at ge155_0
                        have HL155_0 := Aside0.mk (show Kd.R (Kd.int .i64) 3 _ _ _ _ (rd_L3 x6_3 x29_2) from ge155_0)
                        clear hv155_0 ge155_0
                        have HX155_0 := Aside0.mk hx155_0
                        clear hcc155 hce155
                        (first | simp only [add_plain] at hx155_0 | simp only [add_at] at hx155_0 | simp only [Addr.add, Nat.zero_add] at hx155_0 | skip)
                        have HR155_0 := Aside0.mk hi155_0
                        have HC155_0 := Aside0.mk hl155_0
                        clear hi155_0 hl155_0
                        replace p155 := eq_true p155
                        replace q155 := eq_true q155
                        refine start_ (n := 10) (S := fun w' => w'.cell? ⟨gb148, 0, none⟩ = some (.int .i64 ((rd_T25 l0 x29_2).f0)) ∧ w'.cell? ⟨gb148, 1, none⟩ = some (.int .i64 ((rd_T25 l0 x29_2).f1)) ∧ w'.cell? ⟨gb148, 2, none⟩ = some (.int .i64 ((rd_T25 l0 x29_2).f2)) ∧ w'.cell? ⟨gb148, 3, none⟩ = some (.int .i64 ((rd_T25 l0 x29_2).f3)) ∧ w'.cell? ⟨gb148, 4, none⟩ = some (.int .i64 ((rd_T25 l0 x29_2).f4)) ∧ w'.cell? ⟨gb148, 5, none⟩ = some (.int .i64 ((rd_T25 l0 x29_2).f5)) ∧ w'.cell? ⟨gb154, 0, none⟩ = some (.int .i64 ((rd_T25 l0 x42_3).f0)) ∧ w'.cell? ⟨gb154, 1, none⟩ = some (.int .i64 ((rd_T25 l0 x42_3).f1)) ∧ w'.cell? ⟨gb154, 2, none⟩ = some (.int .i64 ((rd_T25 l0 x42_3).f2)) ∧ w'.cell? ⟨gb154, 3, none⟩ = some (.int .i64 ((rd_T25 l0 x42_3).f3)) ∧ w'.cell? ⟨gb154, 4, none⟩ = some (.int .i64 ((rd_T25 l0 x42_3).f4)) ∧ w'.cell? ⟨gb154, 5, none⟩ = some (.int .i64 ((rd_T25 l0 x42_3).f5)) ∧ w'.cell? ⟨go24, (x29_2).toNat, none⟩ = some (.slice A155_0 (rd_L3 x6_3 x29_2).length c155_0)) (ds := [9]) #[false, false, false, false, false, false, false, false, false, false] (by kernel_rfl) rfl rfl ⟨bc BK148.out 0, bc BK148.out 1, bc BK148.out 2, bc BK148.out 3, bc BK148.out 4, bc BK148.out 5, bc BK154.out 0, bc BK154.out 1, bc BK154.out 2, bc BK154.out 3, bc BK154.out 4, bc BK154.out 5, hx155_0⟩ (fun hHeld => ?_); refine with_tabW impl_Duties.tab18 impl_Duties.bits18 (fun HT_ HW_ => ?_)
                        generalize w6.drew = w7 at HO_6 BK148 BK154 HB HL155_0 HR155_0 HX155_0 hx155_0 hHeld ⊢
                        refine pure_ (i := 0) (N := some 50) (v := ?_) (a' := ?_) (bz 10 1) rfl rfl (any_of HT_.out (by kernel_rfl)) (fun _ _ _ h => h) (Or.inl ⟨by rfl, ?_⟩) ?_ ?_
                        rotate_left
                        ·intro w'
                         go_simp
                         with_reducible rfl
                        rotate_left
                        ·simp only [Act.put, y1, y2, y3, i64_w, i32_w]
                         rfl
                        refine pure_ (i := 1) (N := some 51) (v := ?_) (a' := ?_) (bz 10 3) rfl rfl (any_of HT_.out (by kernel_rfl)) (fun _ _ _ h => h) (Or.inl ⟨by rfl, ?_⟩) ?_ ?_
                        rotate_left
                        ·intro w'
                         go_simp
                         with_reducible rfl
                        rotate_left
                        ·simp only [Act.put, y1, y2, y3, i64_w, i32_w]
                         rfl
                        refine pure_ (i := 2) (N := some 52) (v := ?_) (a' := ?_) (bz 10 7) rfl rfl (any_of HT_.out (by kernel_rfl)) (fun _ _ _ h => h) (Or.inl ⟨by rfl, ?_⟩) ?_ ?_
                        rotate_left
                        ·intro w'
                         go_simp
                         with_reducible rfl
                        rotate_left
                        ·simp only [Act.put, y1, y2, y3, i64_w, i32_w]
                         rfl
                        refine pure_ (i := 4) (N := some 54) (v := ?_) (a' := ?_) (bz 10 23) rfl rfl (any_of HT_.out (by kernel_rfl)) (fun _ _ _ h => h) (Or.inl ⟨by rfl, ?_⟩) ?_ ?_
                        rotate_left
                        ·intro w'
                         go_simp
                         with_reducible rfl
                        rotate_left
                        ·simp only [Act.put, y1, y2, y3, i64_w, i32_w]
                         rfl
                        refine take_ (i := 3) (N := some 53) (v := ?_) (a' := ?_) (bz 10 31) rfl rfl (take_ofW HT_.out HW_.out (by kernel_rfl)) (fun _ _ _ h => h) (Or.inl ⟨by rfl, ?_⟩) hHeld ?_ ?_
                        rotate_left
                        ·rintro w' ⟨s0, s1, s2, s3, s4, s5, s6, s7, s8, s9, s10, s11, s12⟩
                         go_simp
                         with_reducible rfl
                        rotate_left
                        ·simp only [Act.put, y1, y2, y3, i64_w, i32_w]
                         rfl
                        refine take_ (i := 5) (N := some 55) (v := ?_) (a' := ?_) (bz 10 63) rfl rfl (take_ofW HT_.out HW_.out (by kernel_rfl)) (fun _ _ _ h => h) (Or.inl ⟨by rfl, ?_⟩) hHeld ?_ ?_
                        rotate_left
                        ·rintro w' ⟨s0, s1, s2, s3, s4, s5, s6, s7, s8, s9, s10, s11, s12⟩
                         go_simp
                         with_reducible rfl
                        rotate_left
                        ·simp only [Act.put, y1, y2, y3, i64_w, i32_w]
                         rfl
                        refine take_ (i := 6) (N := some 56) (v := ?_) (a' := ?_) (bz 10 127) rfl rfl (take_ofW HT_.out HW_.out (by kernel_rfl)) (fun _ _ _ h => h) (Or.inl ⟨by rfl, ?_⟩) hHeld ?_ ?_
                        rotate_left
                        ·rintro w' ⟨s0, s1, s2, s3, s4, s5, s6, s7, s8, s9, s10, s11, s12⟩
                         go_simp
                         with_reducible rfl
                        rotate_left
                        ·simp only [Act.put, y1, y2, y3, i64_w, i32_w]
                         rfl
                        refine one_ (i := 7) (N := some 57) (bz 10 255) rfl rfl (one_of HT_.out (by kernel_rfl)) (by decide) (fun K hK => ?_)
                        refine goes_ Try.func23 (by kernel_rfl) rfl #[.agg #[.int .i64 ((rd_T25 l0 x29_2).f0), .int .i64 ((rd_T25 l0 x29_2).f1), .int .i64 ((rd_T25 l0 x29_2).f2), .int .i64 ((rd_T25 l0 x29_2).f3), .int .i64 ((rd_T25 l0 x29_2).f4), .int .i64 ((rd_T25 l0 x29_2).f5)], .agg #[.int .i64 ((rd_T25 l0 x42_3).f0), .int .i64 ((rd_T25 l0 x42_3).f1), .int .i64 ((rd_T25 l0 x42_3).f2), .int .i64 ((rd_T25 l0 x42_3).f3), .int .i64 ((rd_T25 l0 x42_3).f4), .int .i64 ((rd_T25 l0 x42_3).f5)]] (by rfl) rfl rfl (by (try simp only [List.map_toArray, List.map_cons, List.map_nil]); first | done | rfl | (simp only [List.length_drop, List.length_take]; rfl)) ?_
                        with_reducible refine (impl_Duty.calls k3 ((rd_T25 l0 x29_2).f0) ((rd_T25 l0 x29_2).f1) ((rd_T25 l0 x29_2).f2) ((rd_T25 l0 x29_2).f3) ((rd_T25 l0 x29_2).f4) ((rd_T25 l0 x29_2).f5) ((rd_T25 l0 x42_3).f0) ((rd_T25 l0 x42_3).f1) ((rd_T25 l0 x42_3).f2) ((rd_T25 l0 x42_3).f3) ((rd_T25 l0 x42_3).f4) ((rd_T25 l0 x42_3).f5) t156 _ A40.out).mono ?_
                        rintro e w8 ⟨rfl, hb⟩
                        have HS12_ := (hb.cell (World.block_lt_of_cell? _ _ (hHeld.2.2.2.2.2.2.2.2.2.2.2.2))).trans (hHeld.2.2.2.2.2.2.2.2.2.2.2.2)
                        refine ⟨_, rfl, ?_⟩
                        have n0_ := Aside0.mk (Kd.S_below (by (with_reducible repeat (first | apply Kd.S_alloc | apply Kd.S_drewN | apply Kd.S_drew)); exact HO_6.out) hb)
                        have n1_ := Aside0.mk (Kd.R_below (by (with_reducible repeat (first | apply Kd.R_alloc | apply Kd.R_drewN | apply Kd.R_drew)); exact HL155_0.out) hb)
                        have n2_ := Aside0.mk (blk_below (g := gb148) (o := .cells #[.int .i64 ((rd_T25 l0 x29_2).f0), .int .i64 ((rd_T25 l0 x29_2).f1), .int .i64 ((rd_T25 l0 x29_2).f2), .int .i64 ((rd_T25 l0 x29_2).f3), .int .i64 ((rd_T25 l0 x29_2).f4), .int .i64 ((rd_T25 l0 x29_2).f5)] 25 (0, 0)) (zk BK148.out) hb)
                        have n3_ := Aside0.mk (blk_below (g := gb154) (o := .cells #[.int .i64 ((rd_T25 l0 x42_3).f0), .int .i64 ((rd_T25 l0 x42_3).f1), .int .i64 ((rd_T25 l0 x42_3).f2), .int .i64 ((rd_T25 l0 x42_3).f3), .int .i64 ((rd_T25 l0 x42_3).f4), .int .i64 ((rd_T25 l0 x42_3).f5)] 25 (0, 0)) (zk BK154.out) hb)
                        have n4_ := Aside0.mk (Kd.C_below (by repeat (first | (with_reducible exact HR155_0.out) | (with_reducible refine Kd.C_alloc ?_ _) | (with_reducible refine Kd.C_drewN ?_ _) | (with_reducible refine Kd.C_drew ?_) | exact HR155_0.out)) hb)
                        have n5_ := Aside0.mk (pw_cell_below hb HX155_0.out)
                        have n6_ := Aside0.mk (below_step (by repeat (first | (with_reducible first | exact HB.out | apply below_alloc | apply pw_below_drewN | apply below_drew1 | refine below_set ?_ GE148.out | refine below_set ?_ GE154.out) | exact HB.out)) hb)
                        clear HO_6 HL155_0 BK148 BK154 HR155_0 HX155_0 HB
                        have HO_6 := n0_
                        have HL155_0 := n1_
                        have BK148 := n2_
                        have BK154 := n3_
                        have HR155_0 := n4_
                        have HX155_0 := n5_
                        have HB := n6_
                        clear n0_ n1_ n2_ n3_ n4_ n5_ n6_
                        (try clear hb)
                        (try clear hb2)
                        (try clear hk)
                        (try clear hi)
                        have p42 : 0 ≤ (x42_3 : Int) := of_decide_eq_true s4_1
                        have q42 : (x42_3 : Int) < (((rd_L3 x6_3 x29_2).length : Int) : Int) := of_decide_eq_true s4_1
                        obtain ⟨go42, co42, eo42, gb42, gl42, cl42, HG42⟩ := Kd.R_form HL155_0.out (by omega)
                        (first | cases eo42 | (injection eo42 with ea_ en_ ec_; (first | subst ea_ | (injection ea_ with ea_; subst ea_)); subst ec_; clear en_))
                        have GB42 := Aside0.mk gb42
                        have GG42 := Aside0.mk HG42
                        clear gb42 gl42 HG42
                        obtain ⟨hx42_0, hf42_0⟩ := Kd.R_celln 0 HL155_0.out (x42_3 : Int) p42 q42
                        replace p42 := eq_true p42
                        replace q42 := eq_true q42
                        have hq49 : (x29_2 : Int) < (x6_3.length : Int) := (by have h_ : (x29_2 : Int) < ((x6_3.length : Int) : Int) := of_decide_eq_true s4_1; first | exact h_ | (have e_ := (Kd.S_reads' HO_6.out).1; omega) | simpa only [List.length_set, List.length_set] using h_)
                        obtain ⟨oki49, ce49, hcl49, hM49, hcc49, hok49, hbk49⟩ := Kd.S_borrow HO_6.out [] (x29_2 : Int) (of_decide_eq_true s4_1) hq49
                        obtain ⟨ve49_0, rfl, ge49_0⟩ := hM49
                        have hv49 := hcc49 0 _ rfl
                        rw [Nat.add_zero, show ((Kd.slice 3 (Kd.int .i64))).sz = 1 from rfl, Nat.mul_one] at hv49
                        replace hv49 := Option.some.inj (hv49.symm.trans HX155_0.out)
                        subst hv49
                        clear hcc49 hcl49
                        replace ge49_0 := (show Kd.R (Kd.int .i64) 3 _ _ _ _ (rd_L3 x6_3 x29_2) from ge49_0)
                        have HP49 := Kd.R_putg ge49_0 (x42_3 : Int) t156
                        rw [← Ny157.out] at HP49
                        have HS49 := hbk49 HP49.2 (fun k_ e_ => by injection e_ with e_; subst e_; exact ge49_0.1 _ rfl) (x' := y157) (Kd.M_row HP49.1)
                        rw [← Ny159.out] at HS49
                        have HQ49 := Aside0.mk HS49
                        clear HP49 HS49 hbk49 hok49
                        refine hK.out _ _ ⟨bc BK148.out 0, bc BK148.out 1, bc BK148.out 2, bc BK148.out 3, bc BK148.out 4, bc BK148.out 5, bc BK154.out 0, bc BK154.out 1, bc BK154.out 2, bc BK154.out 3, bc BK154.out 4, bc BK154.out 5, HS12_⟩ (fun hHeld => ?_)
                        clear hK K
                        refine norm_ (a' := ?_) ?_ ?_
                        rotate_left
                        ·show Act.put _ (some 57) _ = _
                         simp only [Act.put, y1, y2, y3, i64_w, i32_w]
                         rfl
                        refine pure_ (i := 8) (N := some 58) (v := ?_) (a' := ?_) (bz 10 511) rfl rfl (any_of HT_.out (by kernel_rfl)) (fun _ _ _ h => h) (Or.inl ⟨by rfl, ?_⟩) ?_ ?_
                        rotate_left
                        ·intro w'
                         go_simp
                         with_reducible rfl
                        rotate_left
                        ·simp only [Act.put, y1, y2, y3, i64_w, i32_w]
                         rfl
                        refine last_ (i := 9) (N := none) (bz 10 1023) rfl rfl (one_of HT_.out (by kernel_rfl)) (by decide) (fun K hK => ?_)
                        refine skip_ (w1 := ?_) (by rfl) rfl ?_ ?_
                        rotate_left
                        ·go_simp
                         rfl
                        refine hK.out _ _ ?_
                        clear hK K
                        refine done_ (done_of HT_.out (by kernel_rfl)) ?_
                        try go_wp2
                        (try simp only [← hl6_3])
                        go_roundg k3
                        case measure => have := HK1.out; have := HK2.out; have := HK3.out; omega
                        case rel => exact ⟨(y159), (wrap64 (x42_3 + 1)), (by first | rfl | (simp; done) | (simp [*]; done)), H', ⟨by have := HK1.out; have := HK2.out; have := HK3.out; omega⟩, ⟨by (try simp only [hl6_3]); (with_reducible repeat (first | apply Kd.S_alloc | apply Kd.S_drewN | apply Kd.S_drew)); exact HQ49.out⟩, ⟨by (try simp only [hl6_3]); (with_reducible repeat (first | refine blk_drewN ?_ _ | refine blk_drew ?_ | refine blk_alloc ?_ _)); refine blk_far ?_ (by have h_ := Kd.R_ne HL155_0.out BK148.out (by decide); intro e_; exact h_ (by rw [e_]; rfl)) _; (with_reducible repeat (first | refine blk_drewN ?_ _ | refine blk_drew ?_ | refine blk_alloc ?_ _)); exact BK148.out⟩, ⟨by repeat (first | (with_reducible first | exact HB.out | apply below_alloc | apply pw_below_drewN | apply below_drew1 | refine below_set ?_ GB42.out | refine below_set ?_ GE148.out | refine below_set ?_ GE154.out) | exact HB.out)⟩⟩
                       ·rw [if_neg c41] at H
                        exact absurd H (by simp)
                      ·rw [if_neg c39] at H
                       exact absurd H (by simp)
                     ·rw [if_neg c38] at H
                      exact absurd H (by simp)
                   ·rw [if_neg c33] at H
                    exact absurd H (by simp)
                  ·rw [if_neg c32] at H
                   exact absurd H (by simp)
                 ·rw [if_neg c31] at H
                  have c31b0 : decide (x42_3 < (l0.length : Int)) = false := decide_eq_false c31
                  (try simp only [hl6_3] at c31b0)
                  clear c31
                  have H' := Aside0.mk H
                  clear H
                  go_wp2
                  (try simp only [← hl6_3])
                  go_roundg k3
                  case measure => have := HK1.out; have := HK2.out; have := HK3.out; omega
                  case rel => exact ⟨(x6_3), (wrap64 (x29_2 + 1)), (by first | rfl | (simp; done) | (simp [*]; done)), H', ⟨by have := HK1.out; have := HK2.out; have := HK3.out; omega⟩, ⟨by (try simp only [hl6_3]); (with_reducible repeat (first | apply Kd.S_alloc | apply Kd.S_drewN | apply Kd.S_drew)); exact HO_6.out⟩, ⟨by repeat (first | (with_reducible first | exact HB.out | apply below_alloc | apply pw_below_drewN | apply below_drew1 | refine below_set ?_ GE148.out) | exact HB.out)⟩⟩
              ·rw [if_neg c23] at H
               exact absurd H (by simp)
             ·rw [if_neg c22] at H
              exact absurd H (by simp)
            ·rw [if_neg c21] at H
             exact absurd H (by simp)
           ·rw [if_neg c20] at H
            exact absurd H (by simp)
          ·rw [if_neg c19] at H
           exact absurd H (by simp)
         ·rw [if_neg c18] at H
          have c18b0 : decide (x29_2 < (l0.length : Int)) = false := decide_eq_false c18
          (try simp only [hl6_3] at c18b0)
          clear c18
          simp only [Option.some.injEq, Prod.mk.injEq] at H
          obtain ⟨rfl, rfl⟩ := H
          go_wp2
          go_ret2
          exact ⟨_, by first | rfl | (simp [errW_none, errW_some] <;> rfl) | (simp [*, errW_none, errW_some] <;> rfl), by (with_reducible repeat (first | apply Kd.S_alloc | apply Kd.S_drewN | apply Kd.S_drew)); exact HO_6.out, by repeat (first | (with_reducible first | exact HB.out | apply below_alloc | apply pw_below_drewN | apply below_drew1) | exact HB.out)⟩
      ·rw [if_neg c15] at H
       exact absurd H (by simp)
     ·rw [if_neg c14] at H
      exact absurd H (by simp)

/-! ### laws_szShipS: function 47 -/
def laws_szShipS.f (l0 : List (S23)) (a1 : Int) : Option (Int) := if (wrap64 (a1 - (l0.length : Int))) < 0 then (some (-1)) else (some (wrap64 (a1 - (l0.length : Int))))
set_option maxHeartbeats 8000000 in
set_option maxRecDepth 100000 in
theorem laws_szShipS.calls (A0 : Option Addr) (c0 : Nat) (l0 : List (S23)) (a1 : Int) (r : Int) (w : World) (hr0 : Kd.C k23 w A0 l0.length l0) (hc0 : l0.length ≤ c0) (h : laws_szShipS.f l0 a1 = some r) :
  Calls Try.prog 47 #[.slice A0 l0.length c0, .int .i64 a1] w fun e w' => e = .returned (.int .i64 r) ∧ Drawn0 w w' := by
 have HR0 := Aside0.mk hr0
 have HC0 := Aside0.mk hc0
 clear hr0 hc0
 have H : (if (wrap64 (a1 - (l0.length : Int))) < 0 then (some (-1)) else (some (wrap64 (a1 - (l0.length : Int))))) = some r := h
 clear h
 by_cases c3 : (wrap64 (a1 - (l0.length : Int))) < 0
 ·rw [if_pos c3] at H
  have c3b0 : decide ((wrap64 (a1 - (l0.length : Int))) < 0) = true := decide_eq_true c3
  (try simp only [hl6_3] at c3b0)
  clear c3
  obtain rfl := Option.some.inj H
  go_enter Try.func47, Try.ntmps47
  go_wp2
  go_ret
  exact ⟨by first | rfl | (simp; done) | (simp [*]; done), by repeat (first | exact Drawn0.refl _ | apply Drawn0.step)⟩
 ·rw [if_neg c3] at H
  have c3b0 : decide ((wrap64 (a1 - (l0.length : Int))) < 0) = false := decide_eq_false c3
  (try simp only [hl6_3] at c3b0)
  clear c3
  obtain rfl := Option.some.inj H
  go_enter Try.func47, Try.ntmps47
  go_wp2
  go_ret
  exact ⟨by first | rfl | (simp; done) | (simp [*]; done), by repeat (first | exact Drawn0.refl _ | apply Drawn0.step)⟩

/-! ### spec_l1In: function 55 -/
def spec_l1In.f (a0 : Int) (a1 : Int) (a2 : Int) : Option (Bool) := if a0 ≥ a1 then (some (decide (a0 ≤ a2))) else (some false)
set_option maxHeartbeats 8000000 in
set_option maxRecDepth 100000 in
theorem spec_l1In.calls (a0 : Int) (a1 : Int) (a2 : Int) (r : Bool) (w : World) (h : spec_l1In.f a0 a1 a2 = some r) :
  Calls Try.prog 55 #[.int .i64 a0, .int .i64 a1, .int .i64 a2] w fun e w' => e = .returned (.bool r) ∧ Drawn0 w w' := by
 have H : (if a0 ≥ a1 then (some (decide (a0 ≤ a2))) else (some false)) = some r := h
 clear h
 by_cases c4 : a0 ≥ a1
 ·rw [if_pos c4] at H
  have c4b0 : decide (a1 ≤ a0) = true := decide_eq_true c4
  clear c4
  obtain rfl := Option.some.inj H
  go_enter Try.func55, Try.ntmps55
  go_wp2
  go_ret
  exact ⟨by first | rfl | (simp; done) | (simp [*]; done), by repeat (first | exact Drawn0.refl _ | apply Drawn0.step)⟩
 ·rw [if_neg c4] at H
  have c4b0 : decide (a1 ≤ a0) = false := decide_eq_false c4
  clear c4
  obtain rfl := Option.some.inj H
  go_enter Try.func55, Try.ntmps55
  go_wp2
  go_ret
  exact ⟨by first | rfl | (simp; done) | (simp [*]; done), by repeat (first | exact Drawn0.refl _ | apply Drawn0.step)⟩

end Go.Proofs.Ytfbokdbaondjdaa.PV1
