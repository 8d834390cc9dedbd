import Derived.Test.YtfbokdbaondjdaaBFnExactClosest2
import Derived.Test.YtfbokdbaondjdaaBFnExactClosest1
-- printed for this claim out of the translation
namespace Go.Proofs.Ytfbokdbaondjdaa.PV1
open Go.RowKit Go.Proofs.YtfbokdbaondjdaaW.PrintWords Go.Proofs.YtfbokdbaondjdaaW.PrintLast Go.Proofs.YtfbokdbaondjdaaW.PrintMore Go.Proofs.Ytfbokdbaondjdaa.Cz Go.Proofs.Ytfbokdbaondjdaa.Cz
attribute [local go_sem] max2_int min2_int max_two min_two max_three min_three max_four min_four
set_option linter.unusedVariables false
set_option linter.unusedSimpArgs false

attribute [local go_sem high] eqA89
theorem s2_0 {p : Prop} (h : p := by repeat (first | (with_reducible first | exact HB.out | apply below_alloc | apply pw_below_drewN | apply below_drew1) | exact HB.out)) : p := h
theorem s2_1 {p : Prop} (h : p := by (try simp only [List.map_toArray, List.map_cons, List.map_nil]); first | done | rfl | (simp only [List.length_drop, List.length_take]; rfl)) : p := h
theorem s2_2 {p : Prop} (h : p := by repeat (first | (with_reducible first | exact HB.out | apply below_alloc | apply pw_below_drewN | apply below_drew1 | refine below_set ?_ GE128.out | refine below_set ?_ GE129.out) | exact HB.out)) : p := h
theorem s2_3 {p : Prop} (h : p := by repeat (first | (with_reducible first | exact HB.out | apply below_alloc | apply pw_below_drewN | apply below_drew1 | refine below_set ?_ GE121.out) | exact HB.out)) : p := h
theorem s2_4 {p : Prop} (h : p := by repeat (first | (with_reducible first | exact HB.out | apply below_alloc | apply pw_below_drewN | apply below_drew1 | refine below_set ?_ GE128.out) | exact HB.out)) : p := h
theorem s2_5 {p : Prop} (h : p := by repeat (first | (with_reducible first | exact HB.out | apply below_alloc | apply pw_below_drewN | apply below_drew1 | refine below_set ?_ GE121.out | refine below_set ?_ GE122.out) | exact HB.out)) : p := h
theorem s2_6 {p : Prop} (h : p := by repeat (first | (with_reducible first | exact HB.out | apply below_alloc | apply pw_below_drewN | apply below_drew1 | refine below_set ?_ GE110.out | refine below_set ?_ GE111.out) | exact HB.out)) : p := h
set_option maxRecDepth 100000 in
theorem t2_0 {p : Prop} (h : p := by
 simp only [Act.put, y1, y2, y3, i64_w, i32_w]
 rfl) : p := h
set_option maxRecDepth 100000 in
theorem t2_1 {p : Prop} (h : p := by
 rintro w' ⟨s0, s1, s2, s3⟩
 go_simp
 with_reducible rfl) : p := h
/-! ### impl_in: function 56 -/
def impl_in.f (a0 : Int) (a1 : Int) (a2 : Int) : Option (Bool) := if a0 ≥ a1 then (some (decide (a0 ≤ a2))) else (some false)
set_option maxHeartbeats 8000000 in
set_option maxRecDepth 100000 in
theorem impl_in.calls (a0 : Int) (a1 : Int) (a2 : Int) (r : Bool) (w : World) (h : impl_in.f a0 a1 a2 = some r) :
  Calls Try.prog 56 #[.int .i64 a0, .int .i64 a1, .int .i64 a2] w fun e w' => e = .returned (.bool r) ∧ Drawn0 w w' := by
 have H : (if a0 ≥ a1 then (some (decide (a0 ≤ a2))) else (some false)) = some r := h
 clear h
 by_cases c4 : a0 ≥ a1
 ·rw [if_pos c4] at H
  have c4b0 : decide (a1 ≤ a0) = true := decide_eq_true c4
  clear c4
  obtain rfl := Option.some.inj H
  go_enter Try.func56, Try.ntmps56
  go_wp2
  go_ret
  exact ⟨by first | rfl | (simp; done) | (simp [*]; done), by repeat (first | exact Drawn0.refl _ | apply Drawn0.step)⟩
 ·rw [if_neg c4] at H
  have c4b0 : decide (a1 ≤ a0) = false := decide_eq_false c4
  clear c4
  obtain rfl := Option.some.inj H
  go_enter Try.func56, Try.ntmps56
  go_wp2
  go_ret
  exact ⟨by first | rfl | (simp; done) | (simp [*]; done), by repeat (first | exact Drawn0.refl _ | apply Drawn0.step)⟩

/-! ### impl_ShipOk: function 17 -/
def impl_ShipOk.f (a0_0 : Int) (a0_1 : Int) (a0_2 : Int) (a0_3 : Int) (a0_4 : Int) (a0_5 : Int) : Option (Bool) := (impl_in.f a0_0 (-100000) 100000).bind fun t102 => (if t102 = true then ((impl_in.f a0_1 (-100000) 100000).bind fun t103 => (if t103 = true then ((impl_in.f a0_2 (-1000) 1000).bind fun t104 => (if t104 = true then ((impl_in.f a0_3 (-1000) 1000).bind fun t105 => (if t105 = true then (if a0_2 = 0 then (if a0_3 = 0 then (some false) else ((impl_in.f a0_4 1 5).bind fun t106 => (if t106 = true then ((impl_in.f a0_5 0 1000).bind fun t107 => (some t107)) else (some false)))) else ((impl_in.f a0_4 1 5).bind fun t108 => (if t108 = true then ((impl_in.f a0_5 0 1000).bind fun t109 => (some t109)) else (some false)))) else (some false))) else (some false))) else (some false))) else (some false))
set_option maxHeartbeats 8000000 in
set_option maxRecDepth 100000 in
theorem impl_ShipOk.calls (a0_0 : Int) (a0_1 : Int) (a0_2 : Int) (a0_3 : Int) (a0_4 : Int) (a0_5 : Int) (r : Bool) (w : World) (h : impl_ShipOk.f a0_0 a0_1 a0_2 a0_3 a0_4 a0_5 = some r) :
  Calls Try.prog 17 #[.agg #[.int .i64 a0_0, .int .i64 a0_1, .int .i64 a0_2, .int .i64 a0_3, .int .i64 a0_4, .int .i64 a0_5]] w fun e w' => e = .returned (.bool r) ∧ Below w.heap.size w w' := by
 have hu25 := Try.underlying25
 have HB := Aside0.mk (Below.refl w.heap.size w)
 have H : ((impl_in.f a0_0 (-100000) 100000).bind fun t102 => (if t102 = true then ((impl_in.f a0_1 (-100000) 100000).bind fun t103 => (if t103 = true then ((impl_in.f a0_2 (-1000) 1000).bind fun t104 => (if t104 = true then ((impl_in.f a0_3 (-1000) 1000).bind fun t105 => (if t105 = true then (if a0_2 = 0 then (if a0_3 = 0 then (some false) else ((impl_in.f a0_4 1 5).bind fun t106 => (if t106 = true then ((impl_in.f a0_5 0 1000).bind fun t107 => (some t107)) else (some false)))) else ((impl_in.f a0_4 1 5).bind fun t108 => (if t108 = true then ((impl_in.f a0_5 0 1000).bind fun t109 => (some t109)) else (some false)))) else (some false))) else (some false))) else (some false))) else (some false))) = some r := h
 clear h
 replace H := Option.bind_eq_some_iff.mp H
 obtain ⟨t102, A20, H⟩ := H
 replace H : (if t102 = true then ((impl_in.f a0_1 (-100000) 100000).bind fun t103 => (if t103 = true then ((impl_in.f a0_2 (-1000) 1000).bind fun t104 => (if t104 = true then ((impl_in.f a0_3 (-1000) 1000).bind fun t105 => (if t105 = true then (if a0_2 = 0 then (if a0_3 = 0 then (some false) else ((impl_in.f a0_4 1 5).bind fun t106 => (if t106 = true then ((impl_in.f a0_5 0 1000).bind fun t107 => (some t107)) else (some false)))) else ((impl_in.f a0_4 1 5).bind fun t108 => (if t108 = true then ((impl_in.f a0_5 0 1000).bind fun t109 => (some t109)) else (some false)))) else (some false))) else (some false))) else (some false))) else (some false)) = some r := H
 have A2 := Aside0.mk A20
 clear A20
 by_cases c3 : t102 = true
 ·subst c3
  have H1 : ((impl_in.f a0_1 (-100000) 100000).bind fun t103 => (if t103 = true then ((impl_in.f a0_2 (-1000) 1000).bind fun t104 => (if t104 = true then ((impl_in.f a0_3 (-1000) 1000).bind fun t105 => (if t105 = true then (if a0_2 = 0 then (if a0_3 = 0 then (some false) else ((impl_in.f a0_4 1 5).bind fun t106 => (if t106 = true then ((impl_in.f a0_5 0 1000).bind fun t107 => (some t107)) else (some false)))) else ((impl_in.f a0_4 1 5).bind fun t108 => (if t108 = true then ((impl_in.f a0_5 0 1000).bind fun t109 => (some t109)) else (some false)))) else (some false))) else (some false))) else (some false))) = some r := by rw [if_pos rfl] at H; exact H
  clear H
  have H := H1
  clear H1
  replace H := Option.bind_eq_some_iff.mp H
  obtain ⟨t103, A40, H⟩ := H
  replace H : (if t103 = true then ((impl_in.f a0_2 (-1000) 1000).bind fun t104 => (if t104 = true then ((impl_in.f a0_3 (-1000) 1000).bind fun t105 => (if t105 = true then (if a0_2 = 0 then (if a0_3 = 0 then (some false) else ((impl_in.f a0_4 1 5).bind fun t106 => (if t106 = true then ((impl_in.f a0_5 0 1000).bind fun t107 => (some t107)) else (some false)))) else ((impl_in.f a0_4 1 5).bind fun t108 => (if t108 = true then ((impl_in.f a0_5 0 1000).bind fun t109 => (some t109)) else (some false)))) else (some false))) else (some false))) else (some false)) = some r := H
  have A4 := Aside0.mk A40
  clear A40
  by_cases c5 : t103 = true
  ·subst c5
   have H1 : ((impl_in.f a0_2 (-1000) 1000).bind fun t104 => (if t104 = true then ((impl_in.f a0_3 (-1000) 1000).bind fun t105 => (if t105 = true then (if a0_2 = 0 then (if a0_3 = 0 then (some false) else ((impl_in.f a0_4 1 5).bind fun t106 => (if t106 = true then ((impl_in.f a0_5 0 1000).bind fun t107 => (some t107)) else (some false)))) else ((impl_in.f a0_4 1 5).bind fun t108 => (if t108 = true then ((impl_in.f a0_5 0 1000).bind fun t109 => (some t109)) else (some false)))) else (some false))) else (some false))) = some r := by rw [if_pos rfl] at H; exact H
   clear H
   have H := H1
   clear H1
   replace H := Option.bind_eq_some_iff.mp H
   obtain ⟨t104, A60, H⟩ := H
   replace H : (if t104 = true then ((impl_in.f a0_3 (-1000) 1000).bind fun t105 => (if t105 = true then (if a0_2 = 0 then (if a0_3 = 0 then (some false) else ((impl_in.f a0_4 1 5).bind fun t106 => (if t106 = true then ((impl_in.f a0_5 0 1000).bind fun t107 => (some t107)) else (some false)))) else ((impl_in.f a0_4 1 5).bind fun t108 => (if t108 = true then ((impl_in.f a0_5 0 1000).bind fun t109 => (some t109)) else (some false)))) else (some false))) else (some false)) = some r := H
   have A6 := Aside0.mk A60
   clear A60
   by_cases c7 : t104 = true
   ·subst c7
    have H1 : ((impl_in.f a0_3 (-1000) 1000).bind fun t105 => (if t105 = true then (if a0_2 = 0 then (if a0_3 = 0 then (some false) else ((impl_in.f a0_4 1 5).bind fun t106 => (if t106 = true then ((impl_in.f a0_5 0 1000).bind fun t107 => (some t107)) else (some false)))) else ((impl_in.f a0_4 1 5).bind fun t108 => (if t108 = true then ((impl_in.f a0_5 0 1000).bind fun t109 => (some t109)) else (some false)))) else (some false))) = some r := by rw [if_pos rfl] at H; exact H
    clear H
    have H := H1
    clear H1
    replace H := Option.bind_eq_some_iff.mp H
    obtain ⟨t105, A80, H⟩ := H
    replace H : (if t105 = true then (if a0_2 = 0 then (if a0_3 = 0 then (some false) else ((impl_in.f a0_4 1 5).bind fun t106 => (if t106 = true then ((impl_in.f a0_5 0 1000).bind fun t107 => (some t107)) else (some false)))) else ((impl_in.f a0_4 1 5).bind fun t108 => (if t108 = true then ((impl_in.f a0_5 0 1000).bind fun t109 => (some t109)) else (some false)))) else (some false)) = some r := H
    have A8 := Aside0.mk A80
    clear A80
    by_cases c9 : t105 = true
    ·subst c9
     have H1 : (if a0_2 = 0 then (if a0_3 = 0 then (some false) else ((impl_in.f a0_4 1 5).bind fun t106 => (if t106 = true then ((impl_in.f a0_5 0 1000).bind fun t107 => (some t107)) else (some false)))) else ((impl_in.f a0_4 1 5).bind fun t108 => (if t108 = true then ((impl_in.f a0_5 0 1000).bind fun t109 => (some t109)) else (some false)))) = some r := by rw [if_pos rfl] at H; exact H
     clear H
     have H := H1
     clear H1
     by_cases c10 : a0_2 = 0
     ·rw [if_pos c10] at H
      have c10b0 : (a0_2 == 0) = true := beq_iff_eq.mpr c10
      have c10b1 : (a0_2 != 0) = false := bne_eq_false_iff_eq.mpr c10
      clear c10
      by_cases c11 : a0_3 = 0
      ·rw [if_pos c11] at H
       have c11b0 : (a0_3 == 0) = true := beq_iff_eq.mpr c11
       have c11b1 : (a0_3 != 0) = false := bne_eq_false_iff_eq.mpr c11
       clear c11
       obtain rfl := Option.some.inj H
       go_enter Try.func17, Try.ntmps17
       go_wp2_with (first | ((with_reducible refine gate_dst (N := 1) rfl ?_); refine box_event ?hg (N := 1) ?hd (cs := #[.int .i64 a0_0, .int .i64 a0_1, .int .i64 a0_2, .int .i64 a0_3, .int .i64 a0_4, .int .i64 a0_5]) (t := 25) ?hr ?_; (case hd => rfl); (case hg => rfl); (case hr => first | (go_simp; done) | (go_simp; rfl)); intro gb101 hg w1 hbox hb; have n0_ := Aside0.mk (below_step s2_0 hb); have n1_ := Aside0.mk (hbox); have n2_ := Aside0.mk (ns hg s2_0 : w.heap.size ≤ gb101); have n3_ := Aside0.mk (ns hg s2_0 : w.heap.size ≤ gb101); clear HB; have HB := n0_; have BK101 := n1_; have GW101 := n2_; have GE101 := n3_; clear n0_ n1_ n2_ n3_; clear hb hbox hg; have hcz13_0 : w1.cell? ⟨gb101, 0, none⟩ = some (.int .i64 a0_0) := bc BK101.out 0; have hcz13_1 : w1.cell? ⟨gb101, 1, none⟩ = some (.int .i64 a0_1) := bc BK101.out 1; have hcz13_2 : w1.cell? ⟨gb101, 2, none⟩ = some (.int .i64 a0_2) := bc BK101.out 2; have hcz13_3 : w1.cell? ⟨gb101, 3, none⟩ = some (.int .i64 a0_3) := bc BK101.out 3; have hcz13_4 : w1.cell? ⟨gb101, 4, none⟩ = some (.int .i64 a0_4) := bc BK101.out 4; have hcz13_5 : w1.cell? ⟨gb101, 5, none⟩ = some (.int .i64 a0_5) := bc BK101.out 5; have hfz13_0 := blk_frozen BK101.out 0; have hfz13_1 := blk_frozen BK101.out 1; have hfz13_2 := blk_frozen BK101.out 2; have hfz13_3 := blk_frozen BK101.out 3; have hfz13_4 := blk_frozen BK101.out 4; have hfz13_5 := blk_frozen BK101.out 5) | ((with_reducible refine gate_callee (f := 56) rfl ?_); refine goesL_ (some 5) rfl rfl Try.func56 (by kernel_rfl) rfl #[.int .i64 a0_0, .int .i64 (-100000), .int .i64 100000] rfl s2_1 ?_; (with_reducible refine (impl_in.calls a0_0 (-100000) 100000 true _ A2.out).mono ?_); rintro e w' ⟨rfl, ⟨nd, rfl⟩⟩; refine ⟨_, rfl, ?_⟩) | (go_at_call 56; (with_reducible refine (impl_in.calls a0_1 (-100000) 100000 true _ A4.out).mono ?_); rintro e w' ⟨rfl, ⟨nd, rfl⟩⟩) | (go_at_call 56; (with_reducible refine (impl_in.calls a0_2 (-1000) 1000 true _ A6.out).mono ?_); rintro e w' ⟨rfl, ⟨nd, rfl⟩⟩) | (go_at_call 56; (with_reducible refine (impl_in.calls a0_3 (-1000) 1000 true _ A8.out).mono ?_); rintro e w' ⟨rfl, ⟨nd, rfl⟩⟩))
       go_ret
       exact ⟨by first | rfl | (simp [errW_none, errW_some] <;> rfl) | (simp [*, errW_none, errW_some] <;> rfl), by repeat (first | (with_reducible first | exact HB.out | apply below_alloc | apply pw_below_drewN | apply below_drew1 | refine below_set ?_ GE101.out) | exact HB.out)⟩
      ·rw [if_neg c11] at H
       have c11b0 : (a0_3 == 0) = false := beq_eq_false_iff_ne.mpr c11
       have c11b1 : (a0_3 != 0) = true := bne_iff_ne.mpr c11
       replace H := Option.bind_eq_some_iff.mp H
       obtain ⟨t106, A140, H⟩ := H
       replace H : (if t106 = true then ((impl_in.f a0_5 0 1000).bind fun t107 => (some t107)) else (some false)) = some r := H
       have A14 := Aside0.mk A140
       clear A140
       by_cases c15 : t106 = true
       ·subst c15
        have H1 : ((impl_in.f a0_5 0 1000).bind fun t107 => (some t107)) = some r := by rw [if_pos rfl] at H; exact H
        clear H
        have H := H1
        clear H1
        replace H := Option.bind_eq_some_iff.mp H
        obtain ⟨t107, A160, H⟩ := H
        replace H : (some t107) = some r := H
        have A16 := Aside0.mk A160
        clear A160
        obtain rfl := Option.some.inj H
        go_enter Try.func17, Try.ntmps17
        go_wp2_with (first | ((with_reducible refine gate_dst (N := 1) rfl ?_); refine box_event ?hg (N := 1) ?hd (cs := #[.int .i64 a0_0, .int .i64 a0_1, .int .i64 a0_2, .int .i64 a0_3, .int .i64 a0_4, .int .i64 a0_5]) (t := 25) ?hr ?_; (case hd => rfl); (case hg => rfl); (case hr => first | (go_simp; done) | (go_simp; rfl)); intro gb101 hg w1 hbox hb; have n0_ := Aside0.mk (below_step s2_0 hb); have n1_ := Aside0.mk (hbox); have n2_ := Aside0.mk (ns hg s2_0 : w.heap.size ≤ gb101); have n3_ := Aside0.mk (ns hg s2_0 : w.heap.size ≤ gb101); clear HB; have HB := n0_; have BK101 := n1_; have GW101 := n2_; have GE101 := n3_; clear n0_ n1_ n2_ n3_; clear hb hbox hg; have hcz18_0 : w1.cell? ⟨gb101, 0, none⟩ = some (.int .i64 a0_0) := bc BK101.out 0; have hcz18_1 : w1.cell? ⟨gb101, 1, none⟩ = some (.int .i64 a0_1) := bc BK101.out 1; have hcz18_2 : w1.cell? ⟨gb101, 2, none⟩ = some (.int .i64 a0_2) := bc BK101.out 2; have hcz18_3 : w1.cell? ⟨gb101, 3, none⟩ = some (.int .i64 a0_3) := bc BK101.out 3; have hcz18_4 : w1.cell? ⟨gb101, 4, none⟩ = some (.int .i64 a0_4) := bc BK101.out 4; have hcz18_5 : w1.cell? ⟨gb101, 5, none⟩ = some (.int .i64 a0_5) := bc BK101.out 5; have hfz18_0 := blk_frozen BK101.out 0; have hfz18_1 := blk_frozen BK101.out 1; have hfz18_2 := blk_frozen BK101.out 2; have hfz18_3 := blk_frozen BK101.out 3; have hfz18_4 := blk_frozen BK101.out 4; have hfz18_5 := blk_frozen BK101.out 5) | ((with_reducible refine gate_callee (f := 56) rfl ?_); refine goesL_ (some 5) rfl rfl Try.func56 (by kernel_rfl) rfl #[.int .i64 a0_0, .int .i64 (-100000), .int .i64 100000] rfl s2_1 ?_; (with_reducible refine (impl_in.calls a0_0 (-100000) 100000 true _ A2.out).mono ?_); rintro e w' ⟨rfl, ⟨nd, rfl⟩⟩; refine ⟨_, rfl, ?_⟩) | (go_at_call 56; (with_reducible refine (impl_in.calls a0_1 (-100000) 100000 true _ A4.out).mono ?_); rintro e w' ⟨rfl, ⟨nd, rfl⟩⟩) | (go_at_call 56; (with_reducible refine (impl_in.calls a0_2 (-1000) 1000 true _ A6.out).mono ?_); rintro e w' ⟨rfl, ⟨nd, rfl⟩⟩) | (go_at_call 56; (with_reducible refine (impl_in.calls a0_3 (-1000) 1000 true _ A8.out).mono ?_); rintro e w' ⟨rfl, ⟨nd, rfl⟩⟩) | (go_at_call 56; (with_reducible refine (impl_in.calls a0_4 1 5 true _ A14.out).mono ?_); rintro e w' ⟨rfl, ⟨nd, rfl⟩⟩) | (go_at_call 56; (with_reducible refine (impl_in.calls a0_5 0 1000 t107 _ A16.out).mono ?_); rintro e w' ⟨rfl, ⟨nd, rfl⟩⟩))
        go_ret
        exact ⟨by first | rfl | (simp [errW_none, errW_some] <;> rfl) | (simp [*, errW_none, errW_some] <;> rfl), by repeat (first | (with_reducible first | exact HB.out | apply below_alloc | apply pw_below_drewN | apply below_drew1 | refine below_set ?_ GE101.out) | exact HB.out)⟩
       ·replace c15 := Bool.eq_false_iff.mpr c15
        subst c15
        have H1 : (some false) = some r := by rw [if_neg (show ¬ (false = true) by decide)] at H; exact H
        clear H
        have H := H1
        clear H1
        obtain rfl := Option.some.inj H
        go_enter Try.func17, Try.ntmps17
        go_wp2_with (first | ((with_reducible refine gate_dst (N := 1) rfl ?_); refine box_event ?hg (N := 1) ?hd (cs := #[.int .i64 a0_0, .int .i64 a0_1, .int .i64 a0_2, .int .i64 a0_3, .int .i64 a0_4, .int .i64 a0_5]) (t := 25) ?hr ?_; (case hd => rfl); (case hg => rfl); (case hr => first | (go_simp; done) | (go_simp; rfl)); intro gb101 hg w1 hbox hb; have n0_ := Aside0.mk (below_step s2_0 hb); have n1_ := Aside0.mk (hbox); have n2_ := Aside0.mk (ns hg s2_0 : w.heap.size ≤ gb101); have n3_ := Aside0.mk (ns hg s2_0 : w.heap.size ≤ gb101); clear HB; have HB := n0_; have BK101 := n1_; have GW101 := n2_; have GE101 := n3_; clear n0_ n1_ n2_ n3_; clear hb hbox hg; have hcz20_0 : w1.cell? ⟨gb101, 0, none⟩ = some (.int .i64 a0_0) := bc BK101.out 0; have hcz20_1 : w1.cell? ⟨gb101, 1, none⟩ = some (.int .i64 a0_1) := bc BK101.out 1; have hcz20_2 : w1.cell? ⟨gb101, 2, none⟩ = some (.int .i64 a0_2) := bc BK101.out 2; have hcz20_3 : w1.cell? ⟨gb101, 3, none⟩ = some (.int .i64 a0_3) := bc BK101.out 3; have hcz20_4 : w1.cell? ⟨gb101, 4, none⟩ = some (.int .i64 a0_4) := bc BK101.out 4; have hcz20_5 : w1.cell? ⟨gb101, 5, none⟩ = some (.int .i64 a0_5) := bc BK101.out 5; have hfz20_0 := blk_frozen BK101.out 0; have hfz20_1 := blk_frozen BK101.out 1; have hfz20_2 := blk_frozen BK101.out 2; have hfz20_3 := blk_frozen BK101.out 3; have hfz20_4 := blk_frozen BK101.out 4; have hfz20_5 := blk_frozen BK101.out 5) | ((with_reducible refine gate_callee (f := 56) rfl ?_); refine goesL_ (some 5) rfl rfl Try.func56 (by kernel_rfl) rfl #[.int .i64 a0_0, .int .i64 (-100000), .int .i64 100000] rfl s2_1 ?_; (with_reducible refine (impl_in.calls a0_0 (-100000) 100000 true _ A2.out).mono ?_); rintro e w' ⟨rfl, ⟨nd, rfl⟩⟩; refine ⟨_, rfl, ?_⟩) | (go_at_call 56; (with_reducible refine (impl_in.calls a0_1 (-100000) 100000 true _ A4.out).mono ?_); rintro e w' ⟨rfl, ⟨nd, rfl⟩⟩) | (go_at_call 56; (with_reducible refine (impl_in.calls a0_2 (-1000) 1000 true _ A6.out).mono ?_); rintro e w' ⟨rfl, ⟨nd, rfl⟩⟩) | (go_at_call 56; (with_reducible refine (impl_in.calls a0_3 (-1000) 1000 true _ A8.out).mono ?_); rintro e w' ⟨rfl, ⟨nd, rfl⟩⟩) | (go_at_call 56; (with_reducible refine (impl_in.calls a0_4 1 5 false _ A14.out).mono ?_); rintro e w' ⟨rfl, ⟨nd, rfl⟩⟩))
        go_ret
        exact ⟨by first | rfl | (simp [errW_none, errW_some] <;> rfl) | (simp [*, errW_none, errW_some] <;> rfl), by repeat (first | (with_reducible first | exact HB.out | apply below_alloc | apply pw_below_drewN | apply below_drew1 | refine below_set ?_ GE101.out) | exact HB.out)⟩
     ·rw [if_neg c10] at H
      have c10b0 : (a0_2 == 0) = false := beq_eq_false_iff_ne.mpr c10
      have c10b1 : (a0_2 != 0) = true := bne_iff_ne.mpr c10
      replace H := Option.bind_eq_some_iff.mp H
      obtain ⟨t108, A210, H⟩ := H
      replace H : (if t108 = true then ((impl_in.f a0_5 0 1000).bind fun t109 => (some t109)) else (some false)) = some r := H
      have A21 := Aside0.mk A210
      clear A210
      by_cases c22 : t108 = true
      ·subst c22
       have H1 : ((impl_in.f a0_5 0 1000).bind fun t109 => (some t109)) = some r := by rw [if_pos rfl] at H; exact H
       clear H
       have H := H1
       clear H1
       replace H := Option.bind_eq_some_iff.mp H
       obtain ⟨t109, A230, H⟩ := H
       replace H : (some t109) = some r := H
       have A23 := Aside0.mk A230
       clear A230
       obtain rfl := Option.some.inj H
       go_enter Try.func17, Try.ntmps17
       go_wp2_with (first | ((with_reducible refine gate_dst (N := 1) rfl ?_); refine box_event ?hg (N := 1) ?hd (cs := #[.int .i64 a0_0, .int .i64 a0_1, .int .i64 a0_2, .int .i64 a0_3, .int .i64 a0_4, .int .i64 a0_5]) (t := 25) ?hr ?_; (case hd => rfl); (case hg => rfl); (case hr => first | (go_simp; done) | (go_simp; rfl)); intro gb101 hg w1 hbox hb; have n0_ := Aside0.mk (below_step s2_0 hb); have n1_ := Aside0.mk (hbox); have n2_ := Aside0.mk (ns hg s2_0 : w.heap.size ≤ gb101); have n3_ := Aside0.mk (ns hg s2_0 : w.heap.size ≤ gb101); clear HB; have HB := n0_; have BK101 := n1_; have GW101 := n2_; have GE101 := n3_; clear n0_ n1_ n2_ n3_; clear hb hbox hg; have hcz25_0 : w1.cell? ⟨gb101, 0, none⟩ = some (.int .i64 a0_0) := bc BK101.out 0; have hcz25_1 : w1.cell? ⟨gb101, 1, none⟩ = some (.int .i64 a0_1) := bc BK101.out 1; have hcz25_2 : w1.cell? ⟨gb101, 2, none⟩ = some (.int .i64 a0_2) := bc BK101.out 2; have hcz25_3 : w1.cell? ⟨gb101, 3, none⟩ = some (.int .i64 a0_3) := bc BK101.out 3; have hcz25_4 : w1.cell? ⟨gb101, 4, none⟩ = some (.int .i64 a0_4) := bc BK101.out 4; have hcz25_5 : w1.cell? ⟨gb101, 5, none⟩ = some (.int .i64 a0_5) := bc BK101.out 5; have hfz25_0 := blk_frozen BK101.out 0; have hfz25_1 := blk_frozen BK101.out 1; have hfz25_2 := blk_frozen BK101.out 2; have hfz25_3 := blk_frozen BK101.out 3; have hfz25_4 := blk_frozen BK101.out 4; have hfz25_5 := blk_frozen BK101.out 5) | ((with_reducible refine gate_callee (f := 56) rfl ?_); refine goesL_ (some 5) rfl rfl Try.func56 (by kernel_rfl) rfl #[.int .i64 a0_0, .int .i64 (-100000), .int .i64 100000] rfl s2_1 ?_; (with_reducible refine (impl_in.calls a0_0 (-100000) 100000 true _ A2.out).mono ?_); rintro e w' ⟨rfl, ⟨nd, rfl⟩⟩; refine ⟨_, rfl, ?_⟩) | (go_at_call 56; (with_reducible refine (impl_in.calls a0_1 (-100000) 100000 true _ A4.out).mono ?_); rintro e w' ⟨rfl, ⟨nd, rfl⟩⟩) | (go_at_call 56; (with_reducible refine (impl_in.calls a0_2 (-1000) 1000 true _ A6.out).mono ?_); rintro e w' ⟨rfl, ⟨nd, rfl⟩⟩) | (go_at_call 56; (with_reducible refine (impl_in.calls a0_3 (-1000) 1000 true _ A8.out).mono ?_); rintro e w' ⟨rfl, ⟨nd, rfl⟩⟩) | (go_at_call 56; (with_reducible refine (impl_in.calls a0_4 1 5 true _ A21.out).mono ?_); rintro e w' ⟨rfl, ⟨nd, rfl⟩⟩) | (go_at_call 56; (with_reducible refine (impl_in.calls a0_5 0 1000 t109 _ A23.out).mono ?_); rintro e w' ⟨rfl, ⟨nd, rfl⟩⟩))
       go_ret
       exact ⟨by first | rfl | (simp [errW_none, errW_some] <;> rfl) | (simp [*, errW_none, errW_some] <;> rfl), by repeat (first | (with_reducible first | exact HB.out | apply below_alloc | apply pw_below_drewN | apply below_drew1 | refine below_set ?_ GE101.out) | exact HB.out)⟩
      ·replace c22 := Bool.eq_false_iff.mpr c22
       subst c22
       have H1 : (some false) = some r := by rw [if_neg (show ¬ (false = true) by decide)] at H; exact H
       clear H
       have H := H1
       clear H1
       obtain rfl := Option.some.inj H
       go_enter Try.func17, Try.ntmps17
       go_wp2_with (first | ((with_reducible refine gate_dst (N := 1) rfl ?_); refine box_event ?hg (N := 1) ?hd (cs := #[.int .i64 a0_0, .int .i64 a0_1, .int .i64 a0_2, .int .i64 a0_3, .int .i64 a0_4, .int .i64 a0_5]) (t := 25) ?hr ?_; (case hd => rfl); (case hg => rfl); (case hr => first | (go_simp; done) | (go_simp; rfl)); intro gb101 hg w1 hbox hb; have n0_ := Aside0.mk (below_step s2_0 hb); have n1_ := Aside0.mk (hbox); have n2_ := Aside0.mk (ns hg s2_0 : w.heap.size ≤ gb101); have n3_ := Aside0.mk (ns hg s2_0 : w.heap.size ≤ gb101); clear HB; have HB := n0_; have BK101 := n1_; have GW101 := n2_; have GE101 := n3_; clear n0_ n1_ n2_ n3_; clear hb hbox hg; have hcz27_0 : w1.cell? ⟨gb101, 0, none⟩ = some (.int .i64 a0_0) := bc BK101.out 0; have hcz27_1 : w1.cell? ⟨gb101, 1, none⟩ = some (.int .i64 a0_1) := bc BK101.out 1; have hcz27_2 : w1.cell? ⟨gb101, 2, none⟩ = some (.int .i64 a0_2) := bc BK101.out 2; have hcz27_3 : w1.cell? ⟨gb101, 3, none⟩ = some (.int .i64 a0_3) := bc BK101.out 3; have hcz27_4 : w1.cell? ⟨gb101, 4, none⟩ = some (.int .i64 a0_4) := bc BK101.out 4; have hcz27_5 : w1.cell? ⟨gb101, 5, none⟩ = some (.int .i64 a0_5) := bc BK101.out 5; have hfz27_0 := blk_frozen BK101.out 0; have hfz27_1 := blk_frozen BK101.out 1; have hfz27_2 := blk_frozen BK101.out 2; have hfz27_3 := blk_frozen BK101.out 3; have hfz27_4 := blk_frozen BK101.out 4; have hfz27_5 := blk_frozen BK101.out 5) | ((with_reducible refine gate_callee (f := 56) rfl ?_); refine goesL_ (some 5) rfl rfl Try.func56 (by kernel_rfl) rfl #[.int .i64 a0_0, .int .i64 (-100000), .int .i64 100000] rfl s2_1 ?_; (with_reducible refine (impl_in.calls a0_0 (-100000) 100000 true _ A2.out).mono ?_); rintro e w' ⟨rfl, ⟨nd, rfl⟩⟩; refine ⟨_, rfl, ?_⟩) | (go_at_call 56; (with_reducible refine (impl_in.calls a0_1 (-100000) 100000 true _ A4.out).mono ?_); rintro e w' ⟨rfl, ⟨nd, rfl⟩⟩) | (go_at_call 56; (with_reducible refine (impl_in.calls a0_2 (-1000) 1000 true _ A6.out).mono ?_); rintro e w' ⟨rfl, ⟨nd, rfl⟩⟩) | (go_at_call 56; (with_reducible refine (impl_in.calls a0_3 (-1000) 1000 true _ A8.out).mono ?_); rintro e w' ⟨rfl, ⟨nd, rfl⟩⟩) | (go_at_call 56; (with_reducible refine (impl_in.calls a0_4 1 5 false _ A21.out).mono ?_); rintro e w' ⟨rfl, ⟨nd, rfl⟩⟩))
       go_ret
       exact ⟨by first | rfl | (simp [errW_none, errW_some] <;> rfl) | (simp [*, errW_none, errW_some] <;> rfl), by repeat (first | (with_reducible first | exact HB.out | apply below_alloc | apply pw_below_drewN | apply below_drew1 | refine below_set ?_ GE101.out) | exact HB.out)⟩
    ·replace c9 := Bool.eq_false_iff.mpr c9
     subst c9
     have H1 : (some false) = some r := by rw [if_neg (show ¬ (false = true) by decide)] at H; exact H
     clear H
     have H := H1
     clear H1
     obtain rfl := Option.some.inj H
     go_enter Try.func17, Try.ntmps17
     go_wp2_with (first | ((with_reducible refine gate_dst (N := 1) rfl ?_); refine box_event ?hg (N := 1) ?hd (cs := #[.int .i64 a0_0, .int .i64 a0_1, .int .i64 a0_2, .int .i64 a0_3, .int .i64 a0_4, .int .i64 a0_5]) (t := 25) ?hr ?_; (case hd => rfl); (case hg => rfl); (case hr => first | (go_simp; done) | (go_simp; rfl)); intro gb101 hg w1 hbox hb; have n0_ := Aside0.mk (below_step s2_0 hb); have n1_ := Aside0.mk (hbox); have n2_ := Aside0.mk (ns hg s2_0 : w.heap.size ≤ gb101); have n3_ := Aside0.mk (ns hg s2_0 : w.heap.size ≤ gb101); clear HB; have HB := n0_; have BK101 := n1_; have GW101 := n2_; have GE101 := n3_; clear n0_ n1_ n2_ n3_; clear hb hbox hg; have hcz29_0 : w1.cell? ⟨gb101, 0, none⟩ = some (.int .i64 a0_0) := bc BK101.out 0; have hcz29_1 : w1.cell? ⟨gb101, 1, none⟩ = some (.int .i64 a0_1) := bc BK101.out 1; have hcz29_2 : w1.cell? ⟨gb101, 2, none⟩ = some (.int .i64 a0_2) := bc BK101.out 2; have hcz29_3 : w1.cell? ⟨gb101, 3, none⟩ = some (.int .i64 a0_3) := bc BK101.out 3; have hcz29_4 : w1.cell? ⟨gb101, 4, none⟩ = some (.int .i64 a0_4) := bc BK101.out 4; have hcz29_5 : w1.cell? ⟨gb101, 5, none⟩ = some (.int .i64 a0_5) := bc BK101.out 5; have hfz29_0 := blk_frozen BK101.out 0; have hfz29_1 := blk_frozen BK101.out 1; have hfz29_2 := blk_frozen BK101.out 2; have hfz29_3 := blk_frozen BK101.out 3; have hfz29_4 := blk_frozen BK101.out 4; have hfz29_5 := blk_frozen BK101.out 5) | ((with_reducible refine gate_callee (f := 56) rfl ?_); refine goesL_ (some 5) rfl rfl Try.func56 (by kernel_rfl) rfl #[.int .i64 a0_0, .int .i64 (-100000), .int .i64 100000] rfl s2_1 ?_; (with_reducible refine (impl_in.calls a0_0 (-100000) 100000 true _ A2.out).mono ?_); rintro e w' ⟨rfl, ⟨nd, rfl⟩⟩; refine ⟨_, rfl, ?_⟩) | (go_at_call 56; (with_reducible refine (impl_in.calls a0_1 (-100000) 100000 true _ A4.out).mono ?_); rintro e w' ⟨rfl, ⟨nd, rfl⟩⟩) | (go_at_call 56; (with_reducible refine (impl_in.calls a0_2 (-1000) 1000 true _ A6.out).mono ?_); rintro e w' ⟨rfl, ⟨nd, rfl⟩⟩) | (go_at_call 56; (with_reducible refine (impl_in.calls a0_3 (-1000) 1000 false _ A8.out).mono ?_); rintro e w' ⟨rfl, ⟨nd, rfl⟩⟩))
     go_ret
     exact ⟨by first | rfl | (simp [errW_none, errW_some] <;> rfl) | (simp [*, errW_none, errW_some] <;> rfl), by repeat (first | (with_reducible first | exact HB.out | apply below_alloc | apply pw_below_drewN | apply below_drew1 | refine below_set ?_ GE101.out) | exact HB.out)⟩
   ·replace c7 := Bool.eq_false_iff.mpr c7
    subst c7
    have H1 : (some false) = some r := by rw [if_neg (show ¬ (false = true) by decide)] at H; exact H
    clear H
    have H := H1
    clear H1
    obtain rfl := Option.some.inj H
    go_enter Try.func17, Try.ntmps17
    go_wp2_with (first | ((with_reducible refine gate_dst (N := 1) rfl ?_); refine box_event ?hg (N := 1) ?hd (cs := #[.int .i64 a0_0, .int .i64 a0_1, .int .i64 a0_2, .int .i64 a0_3, .int .i64 a0_4, .int .i64 a0_5]) (t := 25) ?hr ?_; (case hd => rfl); (case hg => rfl); (case hr => first | (go_simp; done) | (go_simp; rfl)); intro gb101 hg w1 hbox hb; have n0_ := Aside0.mk (below_step s2_0 hb); have n1_ := Aside0.mk (hbox); have n2_ := Aside0.mk (ns hg s2_0 : w.heap.size ≤ gb101); have n3_ := Aside0.mk (ns hg s2_0 : w.heap.size ≤ gb101); clear HB; have HB := n0_; have BK101 := n1_; have GW101 := n2_; have GE101 := n3_; clear n0_ n1_ n2_ n3_; clear hb hbox hg; have hcz31_0 : w1.cell? ⟨gb101, 0, none⟩ = some (.int .i64 a0_0) := bc BK101.out 0; have hcz31_1 : w1.cell? ⟨gb101, 1, none⟩ = some (.int .i64 a0_1) := bc BK101.out 1; have hcz31_2 : w1.cell? ⟨gb101, 2, none⟩ = some (.int .i64 a0_2) := bc BK101.out 2; have hcz31_3 : w1.cell? ⟨gb101, 3, none⟩ = some (.int .i64 a0_3) := bc BK101.out 3; have hcz31_4 : w1.cell? ⟨gb101, 4, none⟩ = some (.int .i64 a0_4) := bc BK101.out 4; have hcz31_5 : w1.cell? ⟨gb101, 5, none⟩ = some (.int .i64 a0_5) := bc BK101.out 5; have hfz31_0 := blk_frozen BK101.out 0; have hfz31_1 := blk_frozen BK101.out 1; have hfz31_2 := blk_frozen BK101.out 2; have hfz31_3 := blk_frozen BK101.out 3; have hfz31_4 := blk_frozen BK101.out 4; have hfz31_5 := blk_frozen BK101.out 5) | ((with_reducible refine gate_callee (f := 56) rfl ?_); refine goesL_ (some 5) rfl rfl Try.func56 (by kernel_rfl) rfl #[.int .i64 a0_0, .int .i64 (-100000), .int .i64 100000] rfl s2_1 ?_; (with_reducible refine (impl_in.calls a0_0 (-100000) 100000 true _ A2.out).mono ?_); rintro e w' ⟨rfl, ⟨nd, rfl⟩⟩; refine ⟨_, rfl, ?_⟩) | (go_at_call 56; (with_reducible refine (impl_in.calls a0_1 (-100000) 100000 true _ A4.out).mono ?_); rintro e w' ⟨rfl, ⟨nd, rfl⟩⟩) | (go_at_call 56; (with_reducible refine (impl_in.calls a0_2 (-1000) 1000 false _ A6.out).mono ?_); rintro e w' ⟨rfl, ⟨nd, rfl⟩⟩))
    go_ret
    exact ⟨by first | rfl | (simp [errW_none, errW_some] <;> rfl) | (simp [*, errW_none, errW_some] <;> rfl), by repeat (first | (with_reducible first | exact HB.out | apply below_alloc | apply pw_below_drewN | apply below_drew1 | refine below_set ?_ GE101.out) | exact HB.out)⟩
  ·replace c5 := Bool.eq_false_iff.mpr c5
   subst c5
   have H1 : (some false) = some r := by rw [if_neg (show ¬ (false = true) by decide)] at H; exact H
   clear H
   have H := H1
   clear H1
   obtain rfl := Option.some.inj H
   go_enter Try.func17, Try.ntmps17
   go_wp2_with (first | ((with_reducible refine gate_dst (N := 1) rfl ?_); refine box_event ?hg (N := 1) ?hd (cs := #[.int .i64 a0_0, .int .i64 a0_1, .int .i64 a0_2, .int .i64 a0_3, .int .i64 a0_4, .int .i64 a0_5]) (t := 25) ?hr ?_; (case hd => rfl); (case hg => rfl); (case hr => first | (go_simp; done) | (go_simp; rfl)); intro gb101 hg w1 hbox hb; have n0_ := Aside0.mk (below_step s2_0 hb); have n1_ := Aside0.mk (hbox); have n2_ := Aside0.mk (ns hg s2_0 : w.heap.size ≤ gb101); have n3_ := Aside0.mk (ns hg s2_0 : w.heap.size ≤ gb101); clear HB; have HB := n0_; have BK101 := n1_; have GW101 := n2_; have GE101 := n3_; clear n0_ n1_ n2_ n3_; clear hb hbox hg; have hcz33_0 : w1.cell? ⟨gb101, 0, none⟩ = some (.int .i64 a0_0) := bc BK101.out 0; have hcz33_1 : w1.cell? ⟨gb101, 1, none⟩ = some (.int .i64 a0_1) := bc BK101.out 1; have hcz33_2 : w1.cell? ⟨gb101, 2, none⟩ = some (.int .i64 a0_2) := bc BK101.out 2; have hcz33_3 : w1.cell? ⟨gb101, 3, none⟩ = some (.int .i64 a0_3) := bc BK101.out 3; have hcz33_4 : w1.cell? ⟨gb101, 4, none⟩ = some (.int .i64 a0_4) := bc BK101.out 4; have hcz33_5 : w1.cell? ⟨gb101, 5, none⟩ = some (.int .i64 a0_5) := bc BK101.out 5; have hfz33_0 := blk_frozen BK101.out 0; have hfz33_1 := blk_frozen BK101.out 1; have hfz33_2 := blk_frozen BK101.out 2; have hfz33_3 := blk_frozen BK101.out 3; have hfz33_4 := blk_frozen BK101.out 4; have hfz33_5 := blk_frozen BK101.out 5) | ((with_reducible refine gate_callee (f := 56) rfl ?_); refine goesL_ (some 5) rfl rfl Try.func56 (by kernel_rfl) rfl #[.int .i64 a0_0, .int .i64 (-100000), .int .i64 100000] rfl s2_1 ?_; (with_reducible refine (impl_in.calls a0_0 (-100000) 100000 true _ A2.out).mono ?_); rintro e w' ⟨rfl, ⟨nd, rfl⟩⟩; refine ⟨_, rfl, ?_⟩) | (go_at_call 56; (with_reducible refine (impl_in.calls a0_1 (-100000) 100000 false _ A4.out).mono ?_); rintro e w' ⟨rfl, ⟨nd, rfl⟩⟩))
   go_ret
   exact ⟨by first | rfl | (simp [errW_none, errW_some] <;> rfl) | (simp [*, errW_none, errW_some] <;> rfl), by repeat (first | (with_reducible first | exact HB.out | apply below_alloc | apply pw_below_drewN | apply below_drew1 | refine below_set ?_ GE101.out) | exact HB.out)⟩
 ·replace c3 := Bool.eq_false_iff.mpr c3
  subst c3
  have H1 : (some false) = some r := by rw [if_neg (show ¬ (false = true) by decide)] at H; exact H
  clear H
  have H := H1
  clear H1
  obtain rfl := Option.some.inj H
  go_enter Try.func17, Try.ntmps17
  go_wp2_with (first | ((with_reducible refine gate_dst (N := 1) rfl ?_); refine box_event ?hg (N := 1) ?hd (cs := #[.int .i64 a0_0, .int .i64 a0_1, .int .i64 a0_2, .int .i64 a0_3, .int .i64 a0_4, .int .i64 a0_5]) (t := 25) ?hr ?_; (case hd => rfl); (case hg => rfl); (case hr => first | (go_simp; done) | (go_simp; rfl)); intro gb101 hg w1 hbox hb; have n0_ := Aside0.mk (below_step s2_0 hb); have n1_ := Aside0.mk (hbox); have n2_ := Aside0.mk (ns hg s2_0 : w.heap.size ≤ gb101); have n3_ := Aside0.mk (ns hg s2_0 : w.heap.size ≤ gb101); clear HB; have HB := n0_; have BK101 := n1_; have GW101 := n2_; have GE101 := n3_; clear n0_ n1_ n2_ n3_; clear hb hbox hg; have hcz35_0 : w1.cell? ⟨gb101, 0, none⟩ = some (.int .i64 a0_0) := bc BK101.out 0; have hcz35_1 : w1.cell? ⟨gb101, 1, none⟩ = some (.int .i64 a0_1) := bc BK101.out 1; have hcz35_2 : w1.cell? ⟨gb101, 2, none⟩ = some (.int .i64 a0_2) := bc BK101.out 2; have hcz35_3 : w1.cell? ⟨gb101, 3, none⟩ = some (.int .i64 a0_3) := bc BK101.out 3; have hcz35_4 : w1.cell? ⟨gb101, 4, none⟩ = some (.int .i64 a0_4) := bc BK101.out 4; have hcz35_5 : w1.cell? ⟨gb101, 5, none⟩ = some (.int .i64 a0_5) := bc BK101.out 5; have hfz35_0 := blk_frozen BK101.out 0; have hfz35_1 := blk_frozen BK101.out 1; have hfz35_2 := blk_frozen BK101.out 2; have hfz35_3 := blk_frozen BK101.out 3; have hfz35_4 := blk_frozen BK101.out 4; have hfz35_5 := blk_frozen BK101.out 5) | ((with_reducible refine gate_callee (f := 56) rfl ?_); refine goesL_ (some 5) rfl rfl Try.func56 (by kernel_rfl) rfl #[.int .i64 a0_0, .int .i64 (-100000), .int .i64 100000] rfl s2_1 ?_; (with_reducible refine (impl_in.calls a0_0 (-100000) 100000 false _ A2.out).mono ?_); rintro e w' ⟨rfl, ⟨nd, rfl⟩⟩; refine ⟨_, rfl, ?_⟩))
  go_ret
  exact ⟨by first | rfl | (simp [errW_none, errW_some] <;> rfl) | (simp [*, errW_none, errW_some] <;> rfl), by repeat (first | (with_reducible first | exact HB.out | apply below_alloc | apply pw_below_drewN | apply below_drew1 | refine below_set ?_ GE101.out) | exact HB.out)⟩

/-! ### impl_bearing: function 70 -/
def impl_bearing.f (a0_0 : Int) (a0_1 : Int) (a0_2 : Int) (a0_3 : Int) (a0_4 : Int) (a0_5 : Int) (a1_0 : Int) (a1_1 : Int) (a1_2 : Int) (a1_3 : Int) (a1_4 : Int) (a1_5 : Int) : Option (Int × Int) := some (wrap64 (a0_0 - a1_0), wrap64 (a0_1 - a1_1))
set_option maxHeartbeats 8000000 in
set_option maxRecDepth 100000 in
theorem impl_bearing.calls (a0_0 : Int) (a0_1 : Int) (a0_2 : Int) (a0_3 : Int) (a0_4 : Int) (a0_5 : Int) (a1_0 : Int) (a1_1 : Int) (a1_2 : Int) (a1_3 : Int) (a1_4 : Int) (a1_5 : Int) (r1 : Int) (r2 : Int) (w : World) (h : impl_bearing.f a0_0 a0_1 a0_2 a0_3 a0_4 a0_5 a1_0 a1_1 a1_2 a1_3 a1_4 a1_5 = some (r1, r2)) :
  Calls Try.prog 70 #[.agg #[.int .i64 a0_0, .int .i64 a0_1, .int .i64 a0_2, .int .i64 a0_3, .int .i64 a0_4, .int .i64 a0_5], .agg #[.int .i64 a1_0, .int .i64 a1_1, .int .i64 a1_2, .int .i64 a1_3, .int .i64 a1_4, .int .i64 a1_5]] w fun e w' => e = .returned (.agg #[.int .i64 r1, .int .i64 r2]) ∧ Below w.heap.size w w' := by
 have hu25 := Try.underlying25
 have hu89 := Try.underlying89
 have HB := Aside0.mk (Below.refl w.heap.size w)
 have H : (some (wrap64 (a0_0 - a1_0), wrap64 (a0_1 - a1_1))) = some (r1, r2) := h
 clear h
 simp only [Option.some.injEq, Prod.mk.injEq] at H
 obtain ⟨rfl, rfl⟩ := H
 go_enter Try.func70, Try.ntmps70
 go_wp2_with (first | ((with_reducible refine gate_dst (N := 2) rfl ?_); refine box_event ?hg (N := 2) ?hd (cs := #[.int .i64 a0_0, .int .i64 a0_1, .int .i64 a0_2, .int .i64 a0_3, .int .i64 a0_4, .int .i64 a0_5]) (t := 25) ?hr ?_; (case hd => rfl); (case hg => rfl); (case hr => first | (go_simp; done) | (go_simp; rfl)); intro gb110 hg w1 hbox hb; have n0_ := Aside0.mk (below_step s2_0 hb); have n1_ := Aside0.mk (hbox); have n2_ := Aside0.mk (ns hg s2_0 : w.heap.size ≤ gb110); have n3_ := Aside0.mk (ns hg s2_0 : w.heap.size ≤ gb110); clear HB; have HB := n0_; have BK110 := n1_; have GW110 := n2_; have GE110 := n3_; clear n0_ n1_ n2_ n3_; clear hb hbox hg) | ((with_reducible refine gate_dst (N := 3) rfl ?_); refine box_event ?hg (N := 3) ?hd (cs := #[.int .i64 a1_0, .int .i64 a1_1, .int .i64 a1_2, .int .i64 a1_3, .int .i64 a1_4, .int .i64 a1_5]) (t := 25) ?hr ?_; (case hd => rfl); (case hg => rfl); (case hr => first | (go_simp; done) | (go_simp; rfl)); intro gb111 hg w2 hbox hb; have n0_ := Aside0.mk (bb (zk BK110.out) hb); have n1_ := Aside0.mk (below_step (by repeat (first | (with_reducible first | exact HB.out | apply below_alloc | apply pw_below_drewN | apply below_drew1 | refine below_set ?_ GE110.out) | exact HB.out)) hb); have n2_ := Aside0.mk (hbox); have n3_ := Aside0.mk (ns hg (by repeat (first | (with_reducible first | exact HB.out | apply below_alloc | apply pw_below_drewN | apply below_drew1 | refine below_set ?_ GE110.out) | exact HB.out)) : w.heap.size ≤ gb111); have n4_ := Aside0.mk (ns hg (by repeat (first | (with_reducible first | exact HB.out | apply below_alloc | apply pw_below_drewN | apply below_drew1 | refine below_set ?_ GE110.out) | exact HB.out)) : w.heap.size ≤ gb111); have n5_ := Aside0.mk ((nlt hg (zk BK110.out) : gb110 ≠ gb111)); have n6_ := Aside0.mk ((ngt hg (zk BK110.out) : gb111 ≠ gb110)); clear BK110; clear HB; have BK110 := n0_; have HB := n1_; have BK111 := n2_; have GW111 := n3_; have GE111 := n4_; have NB110_111 := n5_; have NB111_110 := n6_; clear n0_ n1_ n2_ n3_ n4_ n5_ n6_; clear hb hbox hg) | ((with_reducible refine gate_dst (N := 4) rfl ?_); refine box_event ?hg (N := 4) ?hd (cs := #[.int .i64 0, .int .i64 0]) (t := 89) ?hr ?_; (case hd => rfl); (case hg => rfl); (case hr => first | (go_simp; done) | (go_simp; rfl)); intro gb112 hg w3 hbox hb; have n0_ := Aside0.mk (bb (zk BK110.out) hb); have n1_ := Aside0.mk (bb (zk BK111.out) hb); have n2_ := Aside0.mk (below_step s2_6 hb); have n3_ := Aside0.mk (hbox); have n4_ := Aside0.mk (ns hg s2_6 : w.heap.size ≤ gb112); have n5_ := Aside0.mk (ns hg s2_6 : w.heap.size ≤ gb112); have n6_ := Aside0.mk ((nlt hg (zk BK110.out) : gb110 ≠ gb112)); have n7_ := Aside0.mk ((ngt hg (zk BK110.out) : gb112 ≠ gb110)); have n8_ := Aside0.mk ((nlt hg (zk BK111.out) : gb111 ≠ gb112)); have n9_ := Aside0.mk ((ngt hg (zk BK111.out) : gb112 ≠ gb111)); clear BK110; clear BK111; clear HB; have BK110 := n0_; have BK111 := n1_; have HB := n2_; have BK112 := n3_; have GW112 := n4_; have GE112 := n5_; have NB110_112 := n6_; have NB112_110 := n7_; have NB111_112 := n8_; have NB112_111 := n9_; clear n0_ n1_ n2_ n3_ n4_ n5_ n6_ n7_ n8_ n9_; clear hb hbox hg; have hnb6 := NB110_111.out; have hnc6 := NB111_110.out; have hnb7 := NB110_112.out; have hnc7 := NB112_110.out; have hcz8_0 : w3.cell? ⟨gb110, 0, none⟩ = some (.int .i64 a0_0) := bc BK110.out 0; have hcz8_1 : w3.cell? ⟨gb110, 1, none⟩ = some (.int .i64 a0_1) := bc BK110.out 1; have hcz8_2 : w3.cell? ⟨gb110, 2, none⟩ = some (.int .i64 a0_2) := bc BK110.out 2; have hcz8_3 : w3.cell? ⟨gb110, 3, none⟩ = some (.int .i64 a0_3) := bc BK110.out 3; have hcz8_4 : w3.cell? ⟨gb110, 4, none⟩ = some (.int .i64 a0_4) := bc BK110.out 4; have hcz8_5 : w3.cell? ⟨gb110, 5, none⟩ = some (.int .i64 a0_5) := bc BK110.out 5; have hfz8_0 := blk_frozen BK110.out 0; have hfz8_1 := blk_frozen BK110.out 1; have hfz8_2 := blk_frozen BK110.out 2; have hfz8_3 := blk_frozen BK110.out 3; have hfz8_4 := blk_frozen BK110.out 4; have hfz8_5 := blk_frozen BK110.out 5; have hnb9 := NB111_112.out; have hnc9 := NB112_111.out; have hcz10_0 : w3.cell? ⟨gb111, 0, none⟩ = some (.int .i64 a1_0) := bc BK111.out 0; have hcz10_1 : w3.cell? ⟨gb111, 1, none⟩ = some (.int .i64 a1_1) := bc BK111.out 1; have hcz10_2 : w3.cell? ⟨gb111, 2, none⟩ = some (.int .i64 a1_2) := bc BK111.out 2; have hcz10_3 : w3.cell? ⟨gb111, 3, none⟩ = some (.int .i64 a1_3) := bc BK111.out 3; have hcz10_4 : w3.cell? ⟨gb111, 4, none⟩ = some (.int .i64 a1_4) := bc BK111.out 4; have hcz10_5 : w3.cell? ⟨gb111, 5, none⟩ = some (.int .i64 a1_5) := bc BK111.out 5; have hfz10_0 := blk_frozen BK111.out 0; have hfz10_1 := blk_frozen BK111.out 1; have hfz10_2 := blk_frozen BK111.out 2; have hfz10_3 := blk_frozen BK111.out 3; have hfz10_4 := blk_frozen BK111.out 4; have hfz10_5 := blk_frozen BK111.out 5; have hcz11_0 : w3.cell? ⟨gb112, 0, none⟩ = some (.int .i64 0) := bc BK112.out 0; have hcz11_1 : w3.cell? ⟨gb112, 1, none⟩ = some (.int .i64 0) := bc BK112.out 1; have hfz11_0 := blk_frozen BK112.out 0; have hfz11_1 := blk_frozen BK112.out 1))
 refine bodyPost_ret (results_cell_row rfl _ _ gb112 89 #[.int .i64 (wrap64 (a0_0 - a1_0)), .int .i64 (wrap64 (a0_1 - a1_1))] (0, 0) _ rfl (by (with_reducible repeat (first | refine blk_drewN ?_ _ | refine blk_drew ?_ | refine blk_alloc ?_ _)); refine blk_put (cs := #[.int .i64 (wrap64 (a0_0 - a1_0)), .int .i64 0]) ?_ 1 _ rfl; (with_reducible repeat (first | refine blk_drewN ?_ _ | refine blk_drew ?_ | refine blk_alloc ?_ _)); refine blk_put (cs := #[.int .i64 0, .int .i64 0]) ?_ 0 _ rfl; (with_reducible repeat (first | refine blk_drewN ?_ _ | refine blk_drew ?_ | refine blk_alloc ?_ _)); exact BK112.out) Try.underlying89 rfl (by kernel_rfl)) rfl ?_
 exact ⟨by first | rfl | (simp [errW_none, errW_some] <;> rfl) | (simp [*, errW_none, errW_some] <;> rfl), by repeat (first | (with_reducible first | exact HB.out | apply below_alloc | apply pw_below_drewN | apply below_drew1 | refine below_set ?_ GE110.out | refine below_set ?_ GE111.out | refine below_set ?_ GE112.out) | exact HB.out)⟩

/-! ### impl_Ship_way: function 71 -/
def impl_Ship_way.f (a0_0 : Int) (a0_1 : Int) (a0_2 : Int) (a0_3 : Int) (a0_4 : Int) (a0_5 : Int) : Option (Int × Int) := some (a0_2, a0_3)
set_option maxHeartbeats 8000000 in
set_option maxRecDepth 100000 in
theorem impl_Ship_way.calls (a0_0 : Int) (a0_1 : Int) (a0_2 : Int) (a0_3 : Int) (a0_4 : Int) (a0_5 : Int) (r1 : Int) (r2 : Int) (w : World) (h : impl_Ship_way.f a0_0 a0_1 a0_2 a0_3 a0_4 a0_5 = some (r1, r2)) :
  Calls Try.prog 71 #[.agg #[.int .i64 a0_0, .int .i64 a0_1, .int .i64 a0_2, .int .i64 a0_3, .int .i64 a0_4, .int .i64 a0_5]] w fun e w' => e = .returned (.agg #[.int .i64 r1, .int .i64 r2]) ∧ Below w.heap.size w w' := by
 have hu25 := Try.underlying25
 have hu89 := Try.underlying89
 have HB := Aside0.mk (Below.refl w.heap.size w)
 have H : (some (a0_2, a0_3)) = some (r1, r2) := h
 clear h
 simp only [Option.some.injEq, Prod.mk.injEq] at H
 obtain ⟨rfl, rfl⟩ := H
 go_enter Try.func71, Try.ntmps71
 go_wp2_with (first | ((with_reducible refine gate_dst (N := 1) rfl ?_); refine box_event ?hg (N := 1) ?hd (cs := #[.int .i64 a0_0, .int .i64 a0_1, .int .i64 a0_2, .int .i64 a0_3, .int .i64 a0_4, .int .i64 a0_5]) (t := 25) ?hr ?_; (case hd => rfl); (case hg => rfl); (case hr => first | (go_simp; done) | (go_simp; rfl)); intro gb113 hg w1 hbox hb; have n0_ := Aside0.mk (below_step s2_0 hb); have n1_ := Aside0.mk (hbox); have n2_ := Aside0.mk (ns hg s2_0 : w.heap.size ≤ gb113); have n3_ := Aside0.mk (ns hg s2_0 : w.heap.size ≤ gb113); clear HB; have HB := n0_; have BK113 := n1_; have GW113 := n2_; have GE113 := n3_; clear n0_ n1_ n2_ n3_; clear hb hbox hg) | ((with_reducible refine gate_dst (N := 2) rfl ?_); refine box_event ?hg (N := 2) ?hd (cs := #[.int .i64 0, .int .i64 0]) (t := 89) ?hr ?_; (case hd => rfl); (case hg => rfl); (case hr => first | (go_simp; done) | (go_simp; rfl)); intro gb114 hg w2 hbox hb; have n0_ := Aside0.mk (bb (zk BK113.out) hb); have n1_ := Aside0.mk (below_step (by repeat (first | (with_reducible first | exact HB.out | apply below_alloc | apply pw_below_drewN | apply below_drew1 | refine below_set ?_ GE113.out) | exact HB.out)) hb); have n2_ := Aside0.mk (hbox); have n3_ := Aside0.mk (ns hg (by repeat (first | (with_reducible first | exact HB.out | apply below_alloc | apply pw_below_drewN | apply below_drew1 | refine below_set ?_ GE113.out) | exact HB.out)) : w.heap.size ≤ gb114); have n4_ := Aside0.mk (ns hg (by repeat (first | (with_reducible first | exact HB.out | apply below_alloc | apply pw_below_drewN | apply below_drew1 | refine below_set ?_ GE113.out) | exact HB.out)) : w.heap.size ≤ gb114); have n5_ := Aside0.mk ((nlt hg (zk BK113.out) : gb113 ≠ gb114)); have n6_ := Aside0.mk ((ngt hg (zk BK113.out) : gb114 ≠ gb113)); clear BK113; clear HB; have BK113 := n0_; have HB := n1_; have BK114 := n2_; have GW114 := n3_; have GE114 := n4_; have NB113_114 := n5_; have NB114_113 := n6_; clear n0_ n1_ n2_ n3_ n4_ n5_ n6_; clear hb hbox hg; have hnb4 := NB113_114.out; have hnc4 := NB114_113.out; have hcz5_0 : w2.cell? ⟨gb113, 0, none⟩ = some (.int .i64 a0_0) := bc BK113.out 0; have hcz5_1 : w2.cell? ⟨gb113, 1, none⟩ = some (.int .i64 a0_1) := bc BK113.out 1; have hcz5_2 : w2.cell? ⟨gb113, 2, none⟩ = some (.int .i64 a0_2) := bc BK113.out 2; have hcz5_3 : w2.cell? ⟨gb113, 3, none⟩ = some (.int .i64 a0_3) := bc BK113.out 3; have hcz5_4 : w2.cell? ⟨gb113, 4, none⟩ = some (.int .i64 a0_4) := bc BK113.out 4; have hcz5_5 : w2.cell? ⟨gb113, 5, none⟩ = some (.int .i64 a0_5) := bc BK113.out 5; have hfz5_0 := blk_frozen BK113.out 0; have hfz5_1 := blk_frozen BK113.out 1; have hfz5_2 := blk_frozen BK113.out 2; have hfz5_3 := blk_frozen BK113.out 3; have hfz5_4 := blk_frozen BK113.out 4; have hfz5_5 := blk_frozen BK113.out 5; have hcz6_0 : w2.cell? ⟨gb114, 0, none⟩ = some (.int .i64 0) := bc BK114.out 0; have hcz6_1 : w2.cell? ⟨gb114, 1, none⟩ = some (.int .i64 0) := bc BK114.out 1; have hfz6_0 := blk_frozen BK114.out 0; have hfz6_1 := blk_frozen BK114.out 1))
 refine bodyPost_ret (results_cell_row rfl _ _ gb114 89 #[.int .i64 a0_2, .int .i64 a0_3] (0, 0) _ rfl (by (with_reducible repeat (first | refine blk_drewN ?_ _ | refine blk_drew ?_ | refine blk_alloc ?_ _)); refine blk_put (cs := #[.int .i64 a0_2, .int .i64 0]) ?_ 1 _ rfl; (with_reducible repeat (first | refine blk_drewN ?_ _ | refine blk_drew ?_ | refine blk_alloc ?_ _)); refine blk_put (cs := #[.int .i64 0, .int .i64 0]) ?_ 0 _ rfl; (with_reducible repeat (first | refine blk_drewN ?_ _ | refine blk_drew ?_ | refine blk_alloc ?_ _)); exact BK114.out) Try.underlying89 rfl (by kernel_rfl)) rfl ?_
 exact ⟨by first | rfl | (simp [errW_none, errW_some] <;> rfl) | (simp [*, errW_none, errW_some] <;> rfl), by repeat (first | (with_reducible first | exact HB.out | apply below_alloc | apply pw_below_drewN | apply below_drew1 | refine below_set ?_ GE113.out | refine below_set ?_ GE114.out) | exact HB.out)⟩

/-! ### impl_vec_dot: function 72 -/
def impl_vec_dot.f (a0_0 : Int) (a0_1 : Int) (a1_0 : Int) (a1_1 : Int) : Option (Int) := some (wrap64 ((wrap64 (a0_0 * a1_0)) + (wrap64 (a0_1 * a1_1))))
set_option maxHeartbeats 8000000 in
set_option maxRecDepth 100000 in
theorem impl_vec_dot.calls (a0_0 : Int) (a0_1 : Int) (a1_0 : Int) (a1_1 : Int) (r : Int) (w : World) (h : impl_vec_dot.f a0_0 a0_1 a1_0 a1_1 = some r) :
  Calls Try.prog 72 #[.agg #[.int .i64 a0_0, .int .i64 a0_1], .agg #[.int .i64 a1_0, .int .i64 a1_1]] w fun e w' => e = .returned (.int .i64 r) ∧ Below w.heap.size w w' := by
 have hu89 := Try.underlying89
 have HB := Aside0.mk (Below.refl w.heap.size w)
 have H : (some (wrap64 ((wrap64 (a0_0 * a1_0)) + (wrap64 (a0_1 * a1_1))))) = some r := h
 clear h
 obtain rfl := Option.some.inj H
 go_enter Try.func72, Try.ntmps72
 go_wp2_with (first | ((with_reducible refine gate_dst (N := 2) rfl ?_); refine box_event ?hg (N := 2) ?hd (cs := #[.int .i64 a0_0, .int .i64 a0_1]) (t := 89) ?hr ?_; (case hd => rfl); (case hg => rfl); (case hr => first | (go_simp; done) | (go_simp; rfl)); intro gb115 hg w1 hbox hb; have n0_ := Aside0.mk (below_step s2_0 hb); have n1_ := Aside0.mk (hbox); have n2_ := Aside0.mk (ns hg s2_0 : w.heap.size ≤ gb115); have n3_ := Aside0.mk (ns hg s2_0 : w.heap.size ≤ gb115); clear HB; have HB := n0_; have BK115 := n1_; have GW115 := n2_; have GE115 := n3_; clear n0_ n1_ n2_ n3_; clear hb hbox hg) | ((with_reducible refine gate_dst (N := 3) rfl ?_); refine box_event ?hg (N := 3) ?hd (cs := #[.int .i64 a1_0, .int .i64 a1_1]) (t := 89) ?hr ?_; (case hd => rfl); (case hg => rfl); (case hr => first | (go_simp; done) | (go_simp; rfl)); intro gb116 hg w2 hbox hb; have n0_ := Aside0.mk (bb (zk BK115.out) hb); have n1_ := Aside0.mk (below_step (by repeat (first | (with_reducible first | exact HB.out | apply below_alloc | apply pw_below_drewN | apply below_drew1 | refine below_set ?_ GE115.out) | exact HB.out)) hb); have n2_ := Aside0.mk (hbox); have n3_ := Aside0.mk (ns hg (by repeat (first | (with_reducible first | exact HB.out | apply below_alloc | apply pw_below_drewN | apply below_drew1 | refine below_set ?_ GE115.out) | exact HB.out)) : w.heap.size ≤ gb116); have n4_ := Aside0.mk (ns hg (by repeat (first | (with_reducible first | exact HB.out | apply below_alloc | apply pw_below_drewN | apply below_drew1 | refine below_set ?_ GE115.out) | exact HB.out)) : w.heap.size ≤ gb116); have n5_ := Aside0.mk ((nlt hg (zk BK115.out) : gb115 ≠ gb116)); have n6_ := Aside0.mk ((ngt hg (zk BK115.out) : gb116 ≠ gb115)); clear BK115; clear HB; have BK115 := n0_; have HB := n1_; have BK116 := n2_; have GW116 := n3_; have GE116 := n4_; have NB115_116 := n5_; have NB116_115 := n6_; clear n0_ n1_ n2_ n3_ n4_ n5_ n6_; clear hb hbox hg; have hnb5 := NB115_116.out; have hnc5 := NB116_115.out; have hcz6_0 : w2.cell? ⟨gb115, 0, none⟩ = some (.int .i64 a0_0) := bc BK115.out 0; have hcz6_1 : w2.cell? ⟨gb115, 1, none⟩ = some (.int .i64 a0_1) := bc BK115.out 1; have hfz6_0 := blk_frozen BK115.out 0; have hfz6_1 := blk_frozen BK115.out 1; have hcz7_0 : w2.cell? ⟨gb116, 0, none⟩ = some (.int .i64 a1_0) := bc BK116.out 0; have hcz7_1 : w2.cell? ⟨gb116, 1, none⟩ = some (.int .i64 a1_1) := bc BK116.out 1; have hfz7_0 := blk_frozen BK116.out 0; have hfz7_1 := blk_frozen BK116.out 1))
 go_ret
 exact ⟨by first | rfl | (simp [errW_none, errW_some] <;> rfl) | (simp [*, errW_none, errW_some] <;> rfl), by repeat (first | (with_reducible first | exact HB.out | apply below_alloc | apply pw_below_drewN | apply below_drew1 | refine below_set ?_ GE115.out | refine below_set ?_ GE116.out) | exact HB.out)⟩

/-! ### impl_size: function 94 -/
def impl_size.f (a0 : Int) : Option (Int) := if a0 < 0 then (some (wrap64 (-a0))) else (some a0)
set_option maxHeartbeats 8000000 in
set_option maxRecDepth 100000 in
theorem impl_size.calls (a0 : Int) (r : Int) (w : World) (h : impl_size.f a0 = some r) :
  Calls Try.prog 94 #[.int .i64 a0] w fun e w' => e = .returned (.int .i64 r) ∧ Drawn0 w w' := by
 have H : (if a0 < 0 then (some (wrap64 (-a0))) else (some a0)) = some r := h
 clear h
 by_cases c2 : a0 < 0
 ·rw [if_pos c2] at H
  have c2b0 : decide (a0 < 0) = true := decide_eq_true c2
  clear c2
  obtain rfl := Option.some.inj H
  go_enter Try.func94, Try.ntmps94
  go_wp2
  go_ret
  exact ⟨by first | rfl | (simp; done) | (simp [*]; done), by repeat (first | exact Drawn0.refl _ | apply Drawn0.step)⟩
 ·rw [if_neg c2] at H
  have c2b0 : decide (a0 < 0) = false := decide_eq_false c2
  clear c2
  obtain rfl := Option.some.inj H
  go_enter Try.func94, Try.ntmps94
  go_wp2
  go_ret
  exact ⟨by first | rfl | (simp; done) | (simp [*]; done), by repeat (first | exact Drawn0.refl _ | apply Drawn0.step)⟩

/-! ### impl_square: function 73 -/
def impl_square.f (a0 : Int) : Option (Int) := (impl_size.f a0).bind fun t117 => ((impl_size.f a0).bind fun t118 => (some (IntKind.u64.wrap ((IntKind.u64.wrap (t117)) * (IntKind.u64.wrap (t118))))))
set_option maxHeartbeats 8000000 in
set_option maxRecDepth 100000 in
theorem impl_square.calls (a0 : Int) (r : Int) (w : World) (h : impl_square.f a0 = some r) :
  Calls Try.prog 73 #[.int .i64 a0] w fun e w' => e = .returned (.int .u64 r) ∧ Drawn0 w w' := by
 have H : ((impl_size.f a0).bind fun t117 => ((impl_size.f a0).bind fun t118 => (some (IntKind.u64.wrap ((IntKind.u64.wrap (t117)) * (IntKind.u64.wrap (t118))))))) = some r := h
 clear h
 replace H := Option.bind_eq_some_iff.mp H
 obtain ⟨t117, A20, H⟩ := H
 replace H : ((impl_size.f a0).bind fun t118 => (some (IntKind.u64.wrap ((IntKind.u64.wrap (t117)) * (IntKind.u64.wrap (t118)))))) = some r := H
 have A2 := Aside0.mk A20
 clear A20
 replace H := Option.bind_eq_some_iff.mp H
 obtain ⟨t118, A30, H⟩ := H
 replace H : (some (IntKind.u64.wrap ((IntKind.u64.wrap (t117)) * (IntKind.u64.wrap (t118))))) = some r := H
 have A3 := Aside0.mk A30
 clear A30
 obtain rfl := Option.some.inj H
 go_enter Try.func73, Try.ntmps73
 go_wp2_with (first | ((with_reducible refine gate_callee (f := 94) rfl ?_); refine goesL_ (some 4) rfl rfl Try.func94 (by kernel_rfl) rfl #[.int .i64 a0] rfl s2_1 ?_; (with_reducible refine (impl_size.calls a0 t117 _ A2.out).mono ?_); rintro e w' ⟨rfl, ⟨nd, rfl⟩⟩; refine ⟨_, rfl, ?_⟩) | ((with_reducible refine gate_callee (f := 94) rfl ?_); refine goesL_ (some 7) rfl rfl Try.func94 (by kernel_rfl) rfl #[.int .i64 a0] rfl s2_1 ?_; (with_reducible refine (impl_size.calls a0 t118 _ A3.out).mono ?_); rintro e w' ⟨rfl, ⟨nd, rfl⟩⟩; refine ⟨_, rfl, ?_⟩))
 go_ret
 exact ⟨by first | rfl | (simp; done) | (simp [*]; done), by repeat (first | exact Drawn0.refl _ | apply Drawn0.step)⟩

/-! ### impl_vec_cross: function 74 -/
def impl_vec_cross.f (a0_0 : Int) (a0_1 : Int) (a1_0 : Int) (a1_1 : Int) : Option (Int) := some (wrap64 ((wrap64 (a0_0 * a1_1)) - (wrap64 (a0_1 * a1_0))))
set_option maxHeartbeats 8000000 in
set_option maxRecDepth 100000 in
theorem impl_vec_cross.calls (a0_0 : Int) (a0_1 : Int) (a1_0 : Int) (a1_1 : Int) (r : Int) (w : World) (h : impl_vec_cross.f a0_0 a0_1 a1_0 a1_1 = some r) :
  Calls Try.prog 74 #[.agg #[.int .i64 a0_0, .int .i64 a0_1], .agg #[.int .i64 a1_0, .int .i64 a1_1]] w fun e w' => e = .returned (.int .i64 r) ∧ Below w.heap.size w w' := by
 have hu89 := Try.underlying89
 have HB := Aside0.mk (Below.refl w.heap.size w)
 have H : (some (wrap64 ((wrap64 (a0_0 * a1_1)) - (wrap64 (a0_1 * a1_0))))) = some r := h
 clear h
 obtain rfl := Option.some.inj H
 go_enter Try.func74, Try.ntmps74
 go_wp2_with (first | ((with_reducible refine gate_dst (N := 2) rfl ?_); refine box_event ?hg (N := 2) ?hd (cs := #[.int .i64 a0_0, .int .i64 a0_1]) (t := 89) ?hr ?_; (case hd => rfl); (case hg => rfl); (case hr => first | (go_simp; done) | (go_simp; rfl)); intro gb119 hg w1 hbox hb; have n0_ := Aside0.mk (below_step s2_0 hb); have n1_ := Aside0.mk (hbox); have n2_ := Aside0.mk (ns hg s2_0 : w.heap.size ≤ gb119); have n3_ := Aside0.mk (ns hg s2_0 : w.heap.size ≤ gb119); clear HB; have HB := n0_; have BK119 := n1_; have GW119 := n2_; have GE119 := n3_; clear n0_ n1_ n2_ n3_; clear hb hbox hg) | ((with_reducible refine gate_dst (N := 3) rfl ?_); refine box_event ?hg (N := 3) ?hd (cs := #[.int .i64 a1_0, .int .i64 a1_1]) (t := 89) ?hr ?_; (case hd => rfl); (case hg => rfl); (case hr => first | (go_simp; done) | (go_simp; rfl)); intro gb120 hg w2 hbox hb; have n0_ := Aside0.mk (bb (zk BK119.out) hb); have n1_ := Aside0.mk (below_step (by repeat (first | (with_reducible first | exact HB.out | apply below_alloc | apply pw_below_drewN | apply below_drew1 | refine below_set ?_ GE119.out) | exact HB.out)) hb); have n2_ := Aside0.mk (hbox); have n3_ := Aside0.mk (ns hg (by repeat (first | (with_reducible first | exact HB.out | apply below_alloc | apply pw_below_drewN | apply below_drew1 | refine below_set ?_ GE119.out) | exact HB.out)) : w.heap.size ≤ gb120); have n4_ := Aside0.mk (ns hg (by repeat (first | (with_reducible first | exact HB.out | apply below_alloc | apply pw_below_drewN | apply below_drew1 | refine below_set ?_ GE119.out) | exact HB.out)) : w.heap.size ≤ gb120); have n5_ := Aside0.mk ((nlt hg (zk BK119.out) : gb119 ≠ gb120)); have n6_ := Aside0.mk ((ngt hg (zk BK119.out) : gb120 ≠ gb119)); clear BK119; clear HB; have BK119 := n0_; have HB := n1_; have BK120 := n2_; have GW120 := n3_; have GE120 := n4_; have NB119_120 := n5_; have NB120_119 := n6_; clear n0_ n1_ n2_ n3_ n4_ n5_ n6_; clear hb hbox hg; have hnb5 := NB119_120.out; have hnc5 := NB120_119.out; have hcz6_0 : w2.cell? ⟨gb119, 0, none⟩ = some (.int .i64 a0_0) := bc BK119.out 0; have hcz6_1 : w2.cell? ⟨gb119, 1, none⟩ = some (.int .i64 a0_1) := bc BK119.out 1; have hfz6_0 := blk_frozen BK119.out 0; have hfz6_1 := blk_frozen BK119.out 1; have hcz7_0 : w2.cell? ⟨gb120, 0, none⟩ = some (.int .i64 a1_0) := bc BK120.out 0; have hcz7_1 : w2.cell? ⟨gb120, 1, none⟩ = some (.int .i64 a1_1) := bc BK120.out 1; have hfz7_0 := blk_frozen BK120.out 0; have hfz7_1 := blk_frozen BK120.out 1))
 go_ret
 exact ⟨by first | rfl | (simp [errW_none, errW_some] <;> rfl) | (simp [*, errW_none, errW_some] <;> rfl), by repeat (first | (with_reducible first | exact HB.out | apply below_alloc | apply pw_below_drewN | apply below_drew1 | refine below_set ?_ GE119.out | refine below_set ?_ GE120.out) | exact HB.out)⟩

/-! ### impl_Behind: function 29 -/
def impl_Behind.f (k : Nat) (a0_0 : Int) (a0_1 : Int) (a0_2 : Int) (a0_3 : Int) (a0_4 : Int) (a0_5 : Int) (a1_0 : Int) (a1_1 : Int) (a1_2 : Int) (a1_3 : Int) (a1_4 : Int) (a1_5 : Int) : Option (Bool) := (impl_ShipOk.f a0_0 a0_1 a0_2 a0_3 a0_4 a0_5).bind fun s1 => (impl_ShipOk.f a1_0 a1_1 a1_2 a1_3 a1_4 a1_5).bind fun s2 => (impl_bearing.f a0_0 a0_1 a0_2 a0_3 a0_4 a0_5 a1_0 a1_1 a1_2 a1_3 a1_4 a1_5).bind fun b => (impl_vec_dot.f b.1 b.2 a1_2 a1_3).bind fun d => (impl_vec_cross.f b.1 b.2 a1_2 a1_3).bind fun c => (impl_square.f c).bind fun q1 => (impl_square.f d).bind fun q2 => some (s1 && s2 && (decide (d < 0) && decide (IntKind.u64.wrap (q1 * 5) ≤ IntKind.u64.wrap (q2 * 29))))
theorem impl_Behind.mono : ∀ a0_0 a0_1 a0_2 a0_3 a0_4 a0_5 a1_0 a1_1 a1_2 a1_3 a1_4 a1_5 k, LeO (impl_Behind.f k a0_0 a0_1 a0_2 a0_3 a0_4 a0_5 a1_0 a1_1 a1_2 a1_3 a1_4 a1_5) (impl_Behind.f (k + 1) a0_0 a0_1 a0_2 a0_3 a0_4 a0_5 a1_0 a1_1 a1_2 a1_3 a1_4 a1_5) := fun _ _ _ _ _ _ _ _ _ _ _ _ _ => LeO.refl _
theorem impl_Behind.calls (k : Nat) (a0_0 : Int) (a0_1 : Int) (a0_2 : Int) (a0_3 : Int) (a0_4 : Int) (a0_5 : Int) (a1_0 : Int) (a1_1 : Int) (a1_2 : Int) (a1_3 : Int) (a1_4 : Int) (a1_5 : Int) (r : Bool) (w : World) (h : impl_Behind.f k a0_0 a0_1 a0_2 a0_3 a0_4 a0_5 a1_0 a1_1 a1_2 a1_3 a1_4 a1_5 = some r) :
  Calls Try.prog 29 #[.agg #[.int .i64 a0_0, .int .i64 a0_1, .int .i64 a0_2, .int .i64 a0_3, .int .i64 a0_4, .int .i64 a0_5], .agg #[.int .i64 a1_0, .int .i64 a1_1, .int .i64 a1_2, .int .i64 a1_3, .int .i64 a1_4, .int .i64 a1_5]] w fun e w' => e = .returned (.bool r) ∧ Below w.heap.size w w' := by
 unfold impl_Behind.f at h
 obtain ⟨s1, e0, h⟩ := Option.bind_eq_some_iff.mp h
 obtain ⟨s2, e1, h⟩ := Option.bind_eq_some_iff.mp h
 obtain ⟨b, e2, h⟩ := Option.bind_eq_some_iff.mp h
 obtain ⟨d, e3, h⟩ := Option.bind_eq_some_iff.mp h
 obtain ⟨c, e4, h⟩ := Option.bind_eq_some_iff.mp h
 obtain ⟨q1, e5, h⟩ := Option.bind_eq_some_iff.mp h
 obtain ⟨q2, e6, h⟩ := Option.bind_eq_some_iff.mp h
 obtain rfl := Option.some.inj h
 exact Ai.ibehind_any a0_0 a0_1 a0_2 a0_3 a0_4 a0_5 a1_0 a1_1 a1_2 a1_3 a1_4 a1_5 b.1 b.2 d c q1 q2 s1 s2 w (fun W => impl_ShipOk.calls a0_0 a0_1 a0_2 a0_3 a0_4 a0_5 s1 W e0) (fun W => impl_ShipOk.calls a1_0 a1_1 a1_2 a1_3 a1_4 a1_5 s2 W e1) (fun W => impl_bearing.calls a0_0 a0_1 a0_2 a0_3 a0_4 a0_5 a1_0 a1_1 a1_2 a1_3 a1_4 a1_5 b.1 b.2 W e2) (fun W => impl_Ship_way.calls a1_0 a1_1 a1_2 a1_3 a1_4 a1_5 a1_2 a1_3 W rfl) (fun W => impl_vec_dot.calls b.1 b.2 a1_2 a1_3 d W e3) (fun W => impl_vec_cross.calls b.1 b.2 a1_2 a1_3 c W e4) (fun W => (impl_square.calls c q1 W e5).mono fun _ _ q => ⟨q.1, q.2.below⟩) (fun W => (impl_square.calls d q2 W e6).mono fun _ _ q => ⟨q.1, q.2.below⟩)

end Go.Proofs.Ytfbokdbaondjdaa.PV1
-- printed for this claim out of the translation
namespace Go.Proofs.Ytfbokdbaondjdaa.PV1
open Go.RowKit Go.Proofs.YtfbokdbaondjdaaW.PrintWords Go.Proofs.YtfbokdbaondjdaaW.PrintLast Go.Proofs.YtfbokdbaondjdaaW.PrintMore Go.Proofs.Ytfbokdbaondjdaa.Cz
attribute [local go_sem] max2_int min2_int max_two min_two max_three min_three max_four min_four
set_option linter.unusedVariables false
set_option linter.unusedSimpArgs false

/-! ### impl_right: function 64 -/
def impl_right.f (a0_0 : Int) (a0_1 : Int) (a0_2 : Int) (a0_3 : Int) (a0_4 : Int) (a0_5 : Int) (a1_0 : Int) (a1_1 : Int) (a1_2 : Int) (a1_3 : Int) (a1_4 : Int) (a1_5 : Int) : Option (Bool) := (impl_Ship_way.f a0_0 a0_1 a0_2 a0_3 a0_4 a0_5).bind fun bt136 => ((impl_bearing.f a1_0 a1_1 a1_2 a1_3 a1_4 a1_5 a0_0 a0_1 a0_2 a0_3 a0_4 a0_5).bind fun bt138 => ((impl_vec_cross.f bt136.1 bt136.2 bt138.1 bt138.2).bind fun t140 => (some (decide (t140 < 0)))))
def impl_right.T1 : Bool × List (List Nat × List Nat) := (true, [([], []), ([0], [0]), ([], []), ([], []), ([2, 3, 1], [2, 3]), ([1, 4, 4], [1, 4]), ([5], [5]), ([6, 5, 0, 1, 2, 3, 4, 5, 6], [6])])
def impl_right.B1 : List Nat := [0, 1, 0, 0, 15, 31, 63, 127]
theorem impl_right.tab1 : rtab .any (opsOf Try.f64 1) = impl_right.T1 := by kernel_rfl
theorem impl_right.bits1 : waitsOk impl_right.T1.2 impl_right.B1 = true := by kernel_rfl
set_option maxHeartbeats 8000000 in
set_option maxRecDepth 100000 in
theorem impl_right.calls (a0_0 : Int) (a0_1 : Int) (a0_2 : Int) (a0_3 : Int) (a0_4 : Int) (a0_5 : Int) (a1_0 : Int) (a1_1 : Int) (a1_2 : Int) (a1_3 : Int) (a1_4 : Int) (a1_5 : Int) (r : Bool) (w : World) (h : impl_right.f a0_0 a0_1 a0_2 a0_3 a0_4 a0_5 a1_0 a1_1 a1_2 a1_3 a1_4 a1_5 = some r) :
  Calls Try.prog 64 #[.agg #[.int .i64 a0_0, .int .i64 a0_1, .int .i64 a0_2, .int .i64 a0_3, .int .i64 a0_4, .int .i64 a0_5], .agg #[.int .i64 a1_0, .int .i64 a1_1, .int .i64 a1_2, .int .i64 a1_3, .int .i64 a1_4, .int .i64 a1_5]] w fun e w' => e = .returned (.bool r) ∧ Below w.heap.size w w' := by
 have hu25 := Try.underlying25
 have HB := Aside0.mk (Below.refl w.heap.size w)
 have H : ((impl_Ship_way.f a0_0 a0_1 a0_2 a0_3 a0_4 a0_5).bind fun bt136 => ((impl_bearing.f a1_0 a1_1 a1_2 a1_3 a1_4 a1_5 a0_0 a0_1 a0_2 a0_3 a0_4 a0_5).bind fun bt138 => ((impl_vec_cross.f bt136.1 bt136.2 bt138.1 bt138.2).bind fun t140 => (some (decide (t140 < 0)))))) = some r := h
 clear h
 replace H := Option.bind_eq_some_iff.mp H
 obtain ⟨⟨t136, t137⟩, A30, H⟩ := H
 replace H : ((impl_bearing.f a1_0 a1_1 a1_2 a1_3 a1_4 a1_5 a0_0 a0_1 a0_2 a0_3 a0_4 a0_5).bind fun bt138 => ((impl_vec_cross.f t136 t137 bt138.1 bt138.2).bind fun t140 => (some (decide (t140 < 0))))) = some r := H
 have A3 := Aside0.mk A30
 clear A30
 replace H := Option.bind_eq_some_iff.mp H
 obtain ⟨⟨t138, t139⟩, A40, H⟩ := H
 replace H : ((impl_vec_cross.f t136 t137 t138 t139).bind fun t140 => (some (decide (t140 < 0)))) = some r := H
 have A4 := Aside0.mk A40
 clear A40
 replace H := Option.bind_eq_some_iff.mp H
 obtain ⟨t140, A50, H⟩ := H
 replace H : (some (decide (t140 < 0))) = some r := H
 have A5 := Aside0.mk A50
 clear A50
 obtain rfl := Option.some.inj H
 go_enter Try.func64, Try.ntmps64
 try go_wp2_with (first | ((with_reducible refine gate_dst (N := 2) rfl ?_); refine box_event ?hg (N := 2) ?hd (cs := #[.int .i64 a0_0, .int .i64 a0_1, .int .i64 a0_2, .int .i64 a0_3, .int .i64 a0_4, .int .i64 a0_5]) (t := 25) ?hr ?_; (case hd => rfl); (case hg => rfl); (case hr => first | (go_simp; done) | (go_simp; rfl)); intro gb134 hg w6 hbox hb; have n0_ := Aside0.mk (below_step (by repeat (first | (with_reducible first | exact HB.out | apply below_alloc | apply pw_below_drewN | apply below_drew1) | exact HB.out)) hb); have n1_ := Aside0.mk (hbox); have n2_ := Aside0.mk ((by rw [hg]; exact (below_size (by repeat (first | (with_reducible first | exact HB.out | apply below_alloc | apply pw_below_drewN | apply below_drew1) | exact HB.out))) : w.heap.size ≤ gb134)); have n3_ := Aside0.mk ((by rw [hg]; exact (below_size (by repeat (first | (with_reducible first | exact HB.out | apply below_alloc | apply pw_below_drewN | apply below_drew1) | exact HB.out))) : w.heap.size ≤ gb134)); clear HB; have HB := n0_; have BK134 := n1_; have GW134 := n2_; have GE134 := n3_; clear n0_ n1_ n2_ n3_; clear hb hbox hg) | ((with_reducible refine gate_dst (N := 3) rfl ?_); refine box_event ?hg (N := 3) ?hd (cs := #[.int .i64 a1_0, .int .i64 a1_1, .int .i64 a1_2, .int .i64 a1_3, .int .i64 a1_4, .int .i64 a1_5]) (t := 25) ?hr ?_; (case hd => rfl); (case hg => rfl); (case hr => first | (go_simp; done) | (go_simp; rfl)); intro gb135 hg w7 hbox hb; have n0_ := Aside0.mk (blk_below (g := gb134) (o := .cells #[.int .i64 a0_0, .int .i64 a0_1, .int .i64 a0_2, .int .i64 a0_3, .int .i64 a0_4, .int .i64 a0_5] 25 (0, 0)) (by (with_reducible repeat (first | refine z1 ?_ _ | refine z2 ?_ | refine z3 ?_ _)); exact BK134.out) hb); have n1_ := Aside0.mk (below_step (by repeat (first | (with_reducible first | exact HB.out | apply below_alloc | apply pw_below_drewN | apply below_drew1 | refine below_set ?_ GE134.out) | exact HB.out)) hb); have n2_ := Aside0.mk (hbox); have n3_ := Aside0.mk ((by rw [hg]; exact (below_size (by repeat (first | (with_reducible first | exact HB.out | apply below_alloc | apply pw_below_drewN | apply below_drew1 | refine below_set ?_ GE134.out) | exact HB.out))) : w.heap.size ≤ gb135)); have n4_ := Aside0.mk ((by rw [hg]; exact (below_size (by repeat (first | (with_reducible first | exact HB.out | apply below_alloc | apply pw_below_drewN | apply below_drew1 | refine below_set ?_ GE134.out) | exact HB.out))) : w.heap.size ≤ gb135)); have n5_ := Aside0.mk ((by rw [hg]; exact Nat.ne_of_lt (blk_lt (g := gb134) (o := .cells #[.int .i64 a0_0, .int .i64 a0_1, .int .i64 a0_2, .int .i64 a0_3, .int .i64 a0_4, .int .i64 a0_5] 25 (0, 0)) (by (with_reducible repeat (first | refine z1 ?_ _ | refine z2 ?_ | refine z3 ?_ _)); exact BK134.out)) : gb134 ≠ gb135)); have n6_ := Aside0.mk ((by rw [hg]; exact Nat.ne_of_gt (blk_lt (g := gb134) (o := .cells #[.int .i64 a0_0, .int .i64 a0_1, .int .i64 a0_2, .int .i64 a0_3, .int .i64 a0_4, .int .i64 a0_5] 25 (0, 0)) (by (with_reducible repeat (first | refine z1 ?_ _ | refine z2 ?_ | refine z3 ?_ _)); exact BK134.out)) : gb135 ≠ gb134)); clear BK134; clear HB; have BK134 := n0_; have HB := n1_; have BK135 := n2_; have GW135 := n3_; have GE135 := n4_; have NB134_135 := n5_; have NB135_134 := n6_; clear n0_ n1_ n2_ n3_ n4_ n5_ n6_; clear hb hbox hg))
 have n0_ := Aside0.mk (blk_drew BK134.out)
 have n1_ := Aside0.mk (blk_drew BK135.out)
 have n2_ := Aside0.mk (below_drew1 HB.out)
 clear BK134 BK135 HB
 have BK134 := n0_
 have BK135 := n1_
 have HB := n2_
 clear n0_ n1_ n2_
 refine start_ (n := 8) (S := fun w' => w'.cell? ⟨gb134, 0, none⟩ = some (.int .i64 a0_0) ∧ w'.cell? ⟨gb134, 1, none⟩ = some (.int .i64 a0_1) ∧ w'.cell? ⟨gb134, 2, none⟩ = some (.int .i64 a0_2) ∧ w'.cell? ⟨gb134, 3, none⟩ = some (.int .i64 a0_3) ∧ w'.cell? ⟨gb134, 4, none⟩ = some (.int .i64 a0_4) ∧ w'.cell? ⟨gb134, 5, none⟩ = some (.int .i64 a0_5) ∧ w'.cell? ⟨gb135, 0, none⟩ = some (.int .i64 a1_0) ∧ w'.cell? ⟨gb135, 1, none⟩ = some (.int .i64 a1_1) ∧ w'.cell? ⟨gb135, 2, none⟩ = some (.int .i64 a1_2) ∧ w'.cell? ⟨gb135, 3, none⟩ = some (.int .i64 a1_3) ∧ w'.cell? ⟨gb135, 4, none⟩ = some (.int .i64 a1_4) ∧ w'.cell? ⟨gb135, 5, none⟩ = some (.int .i64 a1_5)) (ds := []) #[false, false, false, false, false, false, false, false] (by kernel_rfl) rfl rfl ⟨(blk_cell BK134.out 0).trans rfl, (blk_cell BK134.out 1).trans rfl, (blk_cell BK134.out 2).trans rfl, (blk_cell BK134.out 3).trans rfl, (blk_cell BK134.out 4).trans rfl, (blk_cell BK134.out 5).trans rfl, (blk_cell BK135.out 0).trans rfl, (blk_cell BK135.out 1).trans rfl, (blk_cell BK135.out 2).trans rfl, (blk_cell BK135.out 3).trans rfl, (blk_cell BK135.out 4).trans rfl, (blk_cell BK135.out 5).trans rfl⟩ (fun hHeld => ?_); refine with_tabW impl_right.tab1 impl_right.bits1 (fun HT_ HW_ => ?_)
 generalize w7.drew = w8 at BK134 BK135 HB hHeld ⊢
 refine take_ (i := 0) (N := some 5) (v := ?_) (a' := ?_) (bz 8 1) rfl rfl (take_ofW HT_.out HW_.out (by kernel_rfl)) (fun _ _ _ h => h) (Or.inl ⟨by rfl, ?_⟩) hHeld ?_ ?_
 rotate_left
 ·rintro w' ⟨s0, s1, s2, s3, s4, s5, s6, s7, s8, s9, s10, s11⟩
  go_simp
  with_reducible rfl
 rotate_left
 ·simp only [Act.put, y1, y2, y3, i64_w, i32_w]
  rfl
 refine take_ (i := 2) (N := some 7) (v := ?_) (a' := ?_) (bz 8 5) rfl rfl (take_ofW HT_.out HW_.out (by kernel_rfl)) (fun _ _ _ h => h) (Or.inl ⟨by rfl, ?_⟩) hHeld ?_ ?_
 rotate_left
 ·rintro w' ⟨s0, s1, s2, s3, s4, s5, s6, s7, s8, s9, s10, s11⟩
  go_simp
  with_reducible rfl
 rotate_left
 ·simp only [Act.put, y1, y2, y3, i64_w, i32_w]
  rfl
 refine take_ (i := 3) (N := some 8) (v := ?_) (a' := ?_) (bz 8 13) rfl rfl (take_ofW HT_.out HW_.out (by kernel_rfl)) (fun _ _ _ h => h) (Or.inl ⟨by rfl, ?_⟩) hHeld ?_ ?_
 rotate_left
 ·rintro w' ⟨s0, s1, s2, s3, s4, s5, s6, s7, s8, s9, s10, s11⟩
  go_simp
  with_reducible rfl
 rotate_left
 ·simp only [Act.put, y1, y2, y3, i64_w, i32_w]
  rfl
 refine one_ (i := 1) (N := some 6) (bz 8 15) rfl rfl (one_of HT_.out (by kernel_rfl)) (by decide) (fun K hK => ?_)
 refine goes_ Try.func71 (by kernel_rfl) rfl #[.agg #[.int .i64 a0_0, .int .i64 a0_1, .int .i64 a0_2, .int .i64 a0_3, .int .i64 a0_4, .int .i64 a0_5]] (by rfl) rfl rfl (by (try simp only [List.map_toArray, List.map_cons, List.map_nil]); first | done | rfl | (simp only [List.length_drop, List.length_take]; rfl)) ?_
 with_reducible refine (impl_Ship_way.calls a0_0 a0_1 a0_2 a0_3 a0_4 a0_5 t136 t137 _ A3.out).mono ?_
 rintro e w9 ⟨rfl, hb⟩
 refine ⟨_, rfl, ?_⟩
 have n0_ := Aside0.mk (blk_below (g := gb134) (o := .cells #[.int .i64 a0_0, .int .i64 a0_1, .int .i64 a0_2, .int .i64 a0_3, .int .i64 a0_4, .int .i64 a0_5] 25 (0, 0)) (by (with_reducible repeat (first | refine z1 ?_ _ | refine z2 ?_ | refine z3 ?_ _)); exact BK134.out) hb)
 have n1_ := Aside0.mk (blk_below (g := gb135) (o := .cells #[.int .i64 a1_0, .int .i64 a1_1, .int .i64 a1_2, .int .i64 a1_3, .int .i64 a1_4, .int .i64 a1_5] 25 (0, 0)) (by (with_reducible repeat (first | refine z1 ?_ _ | refine z2 ?_ | refine z3 ?_ _)); exact BK135.out) hb)
 have n2_ := Aside0.mk (below_step (by repeat (first | (with_reducible first | exact HB.out | apply below_alloc | apply pw_below_drewN | apply below_drew1 | refine below_set ?_ GE134.out | refine below_set ?_ GE135.out) | exact HB.out)) hb)
 clear BK134 BK135 HB
 have BK134 := n0_
 have BK135 := n1_
 have HB := n2_
 clear n0_ n1_ n2_
 (try clear hb)
 (try clear hb2)
 (try clear hk)
 (try clear hi)
 refine hK.out _ _ ⟨(blk_cell BK134.out 0).trans rfl, (blk_cell BK134.out 1).trans rfl, (blk_cell BK134.out 2).trans rfl, (blk_cell BK134.out 3).trans rfl, (blk_cell BK134.out 4).trans rfl, (blk_cell BK134.out 5).trans rfl, (blk_cell BK135.out 0).trans rfl, (blk_cell BK135.out 1).trans rfl, (blk_cell BK135.out 2).trans rfl, (blk_cell BK135.out 3).trans rfl, (blk_cell BK135.out 4).trans rfl, (blk_cell BK135.out 5).trans rfl⟩ (fun hHeld => ?_)
 clear hK K
 refine norm_ (a' := ?_) ?_ ?_
 rotate_left
 ·show Act.put _ (some 6) _ = _
  simp only [Act.put, y1, y2, y3, i64_w, i32_w]
  rfl
 refine one_ (i := 4) (N := some 9) (bz 8 31) rfl rfl (one_of HT_.out (by kernel_rfl)) (by decide) (fun K hK => ?_)
 refine goes_ Try.func70 (by kernel_rfl) rfl #[.agg #[.int .i64 a1_0, .int .i64 a1_1, .int .i64 a1_2, .int .i64 a1_3, .int .i64 a1_4, .int .i64 a1_5], .agg #[.int .i64 a0_0, .int .i64 a0_1, .int .i64 a0_2, .int .i64 a0_3, .int .i64 a0_4, .int .i64 a0_5]] (by rfl) rfl rfl (by (try simp only [List.map_toArray, List.map_cons, List.map_nil]); first | done | rfl | (simp only [List.length_drop, List.length_take]; rfl)) ?_
 with_reducible refine (impl_bearing.calls a1_0 a1_1 a1_2 a1_3 a1_4 a1_5 a0_0 a0_1 a0_2 a0_3 a0_4 a0_5 t138 t139 _ A4.out).mono ?_
 rintro e w10 ⟨rfl, hb⟩
 refine ⟨_, rfl, ?_⟩
 have n0_ := Aside0.mk (blk_below (g := gb134) (o := .cells #[.int .i64 a0_0, .int .i64 a0_1, .int .i64 a0_2, .int .i64 a0_3, .int .i64 a0_4, .int .i64 a0_5] 25 (0, 0)) (by (with_reducible repeat (first | refine z1 ?_ _ | refine z2 ?_ | refine z3 ?_ _)); exact BK134.out) hb)
 have n1_ := Aside0.mk (blk_below (g := gb135) (o := .cells #[.int .i64 a1_0, .int .i64 a1_1, .int .i64 a1_2, .int .i64 a1_3, .int .i64 a1_4, .int .i64 a1_5] 25 (0, 0)) (by (with_reducible repeat (first | refine z1 ?_ _ | refine z2 ?_ | refine z3 ?_ _)); exact BK135.out) hb)
 have n2_ := Aside0.mk (below_step (by repeat (first | (with_reducible first | exact HB.out | apply below_alloc | apply pw_below_drewN | apply below_drew1 | refine below_set ?_ GE134.out | refine below_set ?_ GE135.out) | exact HB.out)) hb)
 clear BK134 BK135 HB
 have BK134 := n0_
 have BK135 := n1_
 have HB := n2_
 clear n0_ n1_ n2_
 (try clear hb)
 (try clear hb2)
 (try clear hk)
 (try clear hi)
 refine hK.out _ _ ⟨(blk_cell BK134.out 0).trans rfl, (blk_cell BK134.out 1).trans rfl, (blk_cell BK134.out 2).trans rfl, (blk_cell BK134.out 3).trans rfl, (blk_cell BK134.out 4).trans rfl, (blk_cell BK134.out 5).trans rfl, (blk_cell BK135.out 0).trans rfl, (blk_cell BK135.out 1).trans rfl, (blk_cell BK135.out 2).trans rfl, (blk_cell BK135.out 3).trans rfl, (blk_cell BK135.out 4).trans rfl, (blk_cell BK135.out 5).trans rfl⟩ (fun hHeld => ?_)
 clear hK K
 refine norm_ (a' := ?_) ?_ ?_
 rotate_left
 ·show Act.put _ (some 9) _ = _
  simp only [Act.put, y1, y2, y3, i64_w, i32_w]
  rfl
 refine one_ (i := 5) (N := some 10) (bz 8 63) rfl rfl (one_of HT_.out (by kernel_rfl)) (by decide) (fun K hK => ?_)
 refine goes_ Try.func74 (by kernel_rfl) rfl #[.agg #[.int .i64 t136, .int .i64 t137], .agg #[.int .i64 t138, .int .i64 t139]] (by rfl) rfl rfl (by (try simp only [List.map_toArray, List.map_cons, List.map_nil]); first | done | rfl | (simp only [List.length_drop, List.length_take]; rfl)) ?_
 with_reducible refine (impl_vec_cross.calls t136 t137 t138 t139 t140 _ A5.out).mono ?_
 rintro e w11 ⟨rfl, hb⟩
 refine ⟨_, rfl, ?_⟩
 have n0_ := Aside0.mk (blk_below (g := gb134) (o := .cells #[.int .i64 a0_0, .int .i64 a0_1, .int .i64 a0_2, .int .i64 a0_3, .int .i64 a0_4, .int .i64 a0_5] 25 (0, 0)) (by (with_reducible repeat (first | refine z1 ?_ _ | refine z2 ?_ | refine z3 ?_ _)); exact BK134.out) hb)
 have n1_ := Aside0.mk (blk_below (g := gb135) (o := .cells #[.int .i64 a1_0, .int .i64 a1_1, .int .i64 a1_2, .int .i64 a1_3, .int .i64 a1_4, .int .i64 a1_5] 25 (0, 0)) (by (with_reducible repeat (first | refine z1 ?_ _ | refine z2 ?_ | refine z3 ?_ _)); exact BK135.out) hb)
 have n2_ := Aside0.mk (below_step (by repeat (first | (with_reducible first | exact HB.out | apply below_alloc | apply pw_below_drewN | apply below_drew1 | refine below_set ?_ GE134.out | refine below_set ?_ GE135.out) | exact HB.out)) hb)
 clear BK134 BK135 HB
 have BK134 := n0_
 have BK135 := n1_
 have HB := n2_
 clear n0_ n1_ n2_
 (try clear hb)
 (try clear hb2)
 (try clear hk)
 (try clear hi)
 refine hK.out _ _ ⟨(blk_cell BK134.out 0).trans rfl, (blk_cell BK134.out 1).trans rfl, (blk_cell BK134.out 2).trans rfl, (blk_cell BK134.out 3).trans rfl, (blk_cell BK134.out 4).trans rfl, (blk_cell BK134.out 5).trans rfl, (blk_cell BK135.out 0).trans rfl, (blk_cell BK135.out 1).trans rfl, (blk_cell BK135.out 2).trans rfl, (blk_cell BK135.out 3).trans rfl, (blk_cell BK135.out 4).trans rfl, (blk_cell BK135.out 5).trans rfl⟩ (fun hHeld => ?_)
 clear hK K
 refine norm_ (a' := ?_) ?_ ?_
 rotate_left
 ·show Act.put _ (some 10) _ = _
  simp only [Act.put, y1, y2, y3, i64_w, i32_w]
  rfl
 refine pure_ (i := 6) (N := some 11) (v := ?_) (a' := ?_) (bz 8 127) rfl rfl (any_of HT_.out (by kernel_rfl)) (fun _ _ _ h => h) (Or.inl ⟨by rfl, ?_⟩) ?_ ?_
 rotate_left
 ·intro w'
  go_simp
  with_reducible rfl
 rotate_left
 ·simp only [Act.put, y1, y2, y3, i64_w, i32_w]
  rfl
 refine pure_ (i := 7) (N := some 4) (v := ?_) (a' := ?_) (bz 8 255) rfl rfl (any_of HT_.out (by kernel_rfl)) (fun _ _ _ h => h) (Or.inl ⟨by rfl, ?_⟩) ?_ ?_
 rotate_left
 ·intro w'
  go_simp
  with_reducible rfl
 rotate_left
 ·simp only [Act.put, y1, y2, y3, i64_w, i32_w]
  rfl
 refine done_ (done_of HT_.out (by kernel_rfl)) ?_
 try go_wp2
 go_ret
 exact ⟨by first | rfl | (simp [errW_none, errW_some] <;> rfl) | (simp [*, errW_none, errW_some] <;> rfl), by repeat (first | (with_reducible first | exact HB.out | apply below_alloc | apply pw_below_drewN | apply below_drew1 | refine below_set ?_ GE134.out | refine below_set ?_ GE135.out) | exact HB.out)⟩

end Go.Proofs.Ytfbokdbaondjdaa.PV1
-- printed for this claim out of the translation
namespace Go.Proofs.Ytfbokdbaondjdaa.PV1
open Go.RowKit Go.Proofs.YtfbokdbaondjdaaW.PrintWords Go.Proofs.YtfbokdbaondjdaaW.PrintLast Go.Proofs.YtfbokdbaondjdaaW.PrintMore Go.Proofs.Ytfbokdbaondjdaa.Cz Go.Proofs.Ytfbokdbaondjdaa.Cz
attribute [local go_sem] max2_int min2_int max_two min_two max_three min_three max_four min_four
set_option linter.unusedVariables false
set_option linter.unusedSimpArgs false

theorem s4_0 {p : Prop} (h : p := by repeat (first | (with_reducible first | exact HB.out | apply below_alloc | apply pw_below_drewN | apply below_drew1) | exact HB.out)) : p := h
theorem s4_1 {p : Prop} (h : p := by first | (with_reducible assumption) | assumption) : p := h
theorem s4_2 {p : Prop} (h : p := by repeat (first | (with_reducible first | exact HB.out | apply below_alloc | apply pw_below_drewN | apply below_drew1 | refine below_set ?_ GE148.out) | exact HB.out)) : p := h
/-! ### spec_l1In: function 55 -/
def spec_l1In.f (a0 : Int) (a1 : Int) (a2 : Int) : Option (Bool) := if a0 ≥ a1 then (some (decide (a0 ≤ a2))) else (some false)
set_option maxHeartbeats 8000000 in
set_option maxRecDepth 100000 in
theorem spec_l1In.calls (a0 : Int) (a1 : Int) (a2 : Int) (r : Bool) (w : World) (h : spec_l1In.f a0 a1 a2 = some r) :
  Calls Try.prog 55 #[.int .i64 a0, .int .i64 a1, .int .i64 a2] w fun e w' => e = .returned (.bool r) ∧ Drawn0 w w' := by
 have H : (if a0 ≥ a1 then (some (decide (a0 ≤ a2))) else (some false)) = some r := h
 clear h
 by_cases c4 : a0 ≥ a1
 ·rw [if_pos c4] at H
  have c4b0 : decide (a1 ≤ a0) = true := decide_eq_true c4
  clear c4
  obtain rfl := Option.some.inj H
  go_enter Try.func55, Try.ntmps55
  go_wp2
  go_ret
  exact ⟨by first | rfl | (simp; done) | (simp [*]; done), by repeat (first | exact Drawn0.refl _ | apply Drawn0.step)⟩
 ·rw [if_neg c4] at H
  have c4b0 : decide (a1 ≤ a0) = false := decide_eq_false c4
  clear c4
  obtain rfl := Option.some.inj H
  go_enter Try.func55, Try.ntmps55
  go_wp2
  go_ret
  exact ⟨by first | rfl | (simp; done) | (simp [*]; done), by repeat (first | exact Drawn0.refl _ | apply Drawn0.step)⟩

end Go.Proofs.Ytfbokdbaondjdaa.PV1
-- printed for this claim out of the translation
namespace Go.Proofs.Ytfbokdbaondjdaa.PV1
open Go.RowKit Go.Proofs.YtfbokdbaondjdaaW.PrintWords Go.Proofs.YtfbokdbaondjdaaW.PrintLast Go.Proofs.YtfbokdbaondjdaaW.PrintMore Go.Proofs.Ytfbokdbaondjdaa.Cz Go.Proofs.Ytfbokdbaondjdaa.Cz
attribute [local go_sem] max2_int min2_int max_two min_two max_three min_three max_four min_four
set_option linter.unusedVariables false
set_option linter.unusedSimpArgs false

theorem s5_0 {p : Prop} (h : p := by repeat (first | (with_reducible first | exact HB.out | apply below_alloc | apply pw_below_drewN | apply below_drew1) | exact HB.out)) : p := h
theorem s5_1 {p : Prop} (h : p := by (try simp only [List.map_toArray, List.map_cons, List.map_nil]); first | done | rfl | (simp only [List.length_drop, List.length_take]; rfl)) : p := h
theorem s5_2 {p : Prop} (h : p := by repeat (first | (with_reducible first | exact HB.out | apply below_alloc | apply pw_below_drewN | apply below_drew1 | refine below_set ?_ GE169.out | refine below_set ?_ GE170.out) | exact HB.out)) : p := h
theorem s5_3 {p : Prop} (h : p := by repeat (first | (with_reducible first | exact HB.out | apply below_alloc | apply pw_below_drewN | apply below_drew1 | refine below_set ?_ GE178.out | refine below_set ?_ GE179.out) | exact HB.out)) : p := h
theorem s5_4 {p : Prop} (h : p := by repeat (first | (with_reducible first | exact HB.out | apply below_alloc | apply pw_below_drewN | apply below_drew1 | refine below_set ?_ GE181.out | refine below_set ?_ GE182.out) | exact HB.out)) : p := h
/-! ### spec_ShipOk: function 15 -/
def spec_ShipOk.f (a0_0 : Int) (a0_1 : Int) (a0_2 : Int) (a0_3 : Int) (a0_4 : Int) (a0_5 : Int) : Option (Bool) := (spec_l1In.f a0_0 (-100000) 100000).bind fun t161 => (if t161 = true then ((spec_l1In.f a0_1 (-100000) 100000).bind fun t162 => (if t162 = true then ((spec_l1In.f a0_2 (-1000) 1000).bind fun t163 => (if t163 = true then ((spec_l1In.f a0_3 (-1000) 1000).bind fun t164 => (if t164 = true then (if a0_2 = 0 then (if a0_3 = 0 then (some false) else ((spec_l1In.f a0_4 1 5).bind fun t165 => (if t165 = true then ((spec_l1In.f a0_5 0 1000).bind fun t166 => (some t166)) else (some false)))) else ((spec_l1In.f a0_4 1 5).bind fun t167 => (if t167 = true then ((spec_l1In.f a0_5 0 1000).bind fun t168 => (some t168)) else (some false)))) else (some false))) else (some false))) else (some false))) else (some false))
set_option maxHeartbeats 8000000 in
set_option maxRecDepth 100000 in
theorem spec_ShipOk.calls (a0_0 : Int) (a0_1 : Int) (a0_2 : Int) (a0_3 : Int) (a0_4 : Int) (a0_5 : Int) (r : Bool) (w : World) (h : spec_ShipOk.f a0_0 a0_1 a0_2 a0_3 a0_4 a0_5 = some r) :
  Calls Try.prog 15 #[.agg #[.int .i64 a0_0, .int .i64 a0_1, .int .i64 a0_2, .int .i64 a0_3, .int .i64 a0_4, .int .i64 a0_5]] w fun e w' => e = .returned (.bool r) ∧ Below w.heap.size w w' := by
 have hu25 := Try.underlying25
 have HB := Aside0.mk (Below.refl w.heap.size w)
 have H : ((spec_l1In.f a0_0 (-100000) 100000).bind fun t161 => (if t161 = true then ((spec_l1In.f a0_1 (-100000) 100000).bind fun t162 => (if t162 = true then ((spec_l1In.f a0_2 (-1000) 1000).bind fun t163 => (if t163 = true then ((spec_l1In.f a0_3 (-1000) 1000).bind fun t164 => (if t164 = true then (if a0_2 = 0 then (if a0_3 = 0 then (some false) else ((spec_l1In.f a0_4 1 5).bind fun t165 => (if t165 = true then ((spec_l1In.f a0_5 0 1000).bind fun t166 => (some t166)) else (some false)))) else ((spec_l1In.f a0_4 1 5).bind fun t167 => (if t167 = true then ((spec_l1In.f a0_5 0 1000).bind fun t168 => (some t168)) else (some false)))) else (some false))) else (some false))) else (some false))) else (some false))) = some r := h
 clear h
 replace H := Option.bind_eq_some_iff.mp H
 obtain ⟨t161, A20, H⟩ := H
 replace H : (if t161 = true then ((spec_l1In.f a0_1 (-100000) 100000).bind fun t162 => (if t162 = true then ((spec_l1In.f a0_2 (-1000) 1000).bind fun t163 => (if t163 = true then ((spec_l1In.f a0_3 (-1000) 1000).bind fun t164 => (if t164 = true then (if a0_2 = 0 then (if a0_3 = 0 then (some false) else ((spec_l1In.f a0_4 1 5).bind fun t165 => (if t165 = true then ((spec_l1In.f a0_5 0 1000).bind fun t166 => (some t166)) else (some false)))) else ((spec_l1In.f a0_4 1 5).bind fun t167 => (if t167 = true then ((spec_l1In.f a0_5 0 1000).bind fun t168 => (some t168)) else (some false)))) else (some false))) else (some false))) else (some false))) else (some false)) = some r := H
 have A2 := Aside0.mk A20
 clear A20
 by_cases c3 : t161 = true
 ·subst c3
  have H1 : ((spec_l1In.f a0_1 (-100000) 100000).bind fun t162 => (if t162 = true then ((spec_l1In.f a0_2 (-1000) 1000).bind fun t163 => (if t163 = true then ((spec_l1In.f a0_3 (-1000) 1000).bind fun t164 => (if t164 = true then (if a0_2 = 0 then (if a0_3 = 0 then (some false) else ((spec_l1In.f a0_4 1 5).bind fun t165 => (if t165 = true then ((spec_l1In.f a0_5 0 1000).bind fun t166 => (some t166)) else (some false)))) else ((spec_l1In.f a0_4 1 5).bind fun t167 => (if t167 = true then ((spec_l1In.f a0_5 0 1000).bind fun t168 => (some t168)) else (some false)))) else (some false))) else (some false))) else (some false))) = some r := by rw [if_pos rfl] at H; exact H
  clear H
  have H := H1
  clear H1
  replace H := Option.bind_eq_some_iff.mp H
  obtain ⟨t162, A40, H⟩ := H
  replace H : (if t162 = true then ((spec_l1In.f a0_2 (-1000) 1000).bind fun t163 => (if t163 = true then ((spec_l1In.f a0_3 (-1000) 1000).bind fun t164 => (if t164 = true then (if a0_2 = 0 then (if a0_3 = 0 then (some false) else ((spec_l1In.f a0_4 1 5).bind fun t165 => (if t165 = true then ((spec_l1In.f a0_5 0 1000).bind fun t166 => (some t166)) else (some false)))) else ((spec_l1In.f a0_4 1 5).bind fun t167 => (if t167 = true then ((spec_l1In.f a0_5 0 1000).bind fun t168 => (some t168)) else (some false)))) else (some false))) else (some false))) else (some false)) = some r := H
  have A4 := Aside0.mk A40
  clear A40
  by_cases c5 : t162 = true
  ·subst c5
   have H1 : ((spec_l1In.f a0_2 (-1000) 1000).bind fun t163 => (if t163 = true then ((spec_l1In.f a0_3 (-1000) 1000).bind fun t164 => (if t164 = true then (if a0_2 = 0 then (if a0_3 = 0 then (some false) else ((spec_l1In.f a0_4 1 5).bind fun t165 => (if t165 = true then ((spec_l1In.f a0_5 0 1000).bind fun t166 => (some t166)) else (some false)))) else ((spec_l1In.f a0_4 1 5).bind fun t167 => (if t167 = true then ((spec_l1In.f a0_5 0 1000).bind fun t168 => (some t168)) else (some false)))) else (some false))) else (some false))) = some r := by rw [if_pos rfl] at H; exact H
   clear H
   have H := H1
   clear H1
   replace H := Option.bind_eq_some_iff.mp H
   obtain ⟨t163, A60, H⟩ := H
   replace H : (if t163 = true then ((spec_l1In.f a0_3 (-1000) 1000).bind fun t164 => (if t164 = true then (if a0_2 = 0 then (if a0_3 = 0 then (some false) else ((spec_l1In.f a0_4 1 5).bind fun t165 => (if t165 = true then ((spec_l1In.f a0_5 0 1000).bind fun t166 => (some t166)) else (some false)))) else ((spec_l1In.f a0_4 1 5).bind fun t167 => (if t167 = true then ((spec_l1In.f a0_5 0 1000).bind fun t168 => (some t168)) else (some false)))) else (some false))) else (some false)) = some r := H
   have A6 := Aside0.mk A60
   clear A60
   by_cases c7 : t163 = true
   ·subst c7
    have H1 : ((spec_l1In.f a0_3 (-1000) 1000).bind fun t164 => (if t164 = true then (if a0_2 = 0 then (if a0_3 = 0 then (some false) else ((spec_l1In.f a0_4 1 5).bind fun t165 => (if t165 = true then ((spec_l1In.f a0_5 0 1000).bind fun t166 => (some t166)) else (some false)))) else ((spec_l1In.f a0_4 1 5).bind fun t167 => (if t167 = true then ((spec_l1In.f a0_5 0 1000).bind fun t168 => (some t168)) else (some false)))) else (some false))) = some r := by rw [if_pos rfl] at H; exact H
    clear H
    have H := H1
    clear H1
    replace H := Option.bind_eq_some_iff.mp H
    obtain ⟨t164, A80, H⟩ := H
    replace H : (if t164 = true then (if a0_2 = 0 then (if a0_3 = 0 then (some false) else ((spec_l1In.f a0_4 1 5).bind fun t165 => (if t165 = true then ((spec_l1In.f a0_5 0 1000).bind fun t166 => (some t166)) else (some false)))) else ((spec_l1In.f a0_4 1 5).bind fun t167 => (if t167 = true then ((spec_l1In.f a0_5 0 1000).bind fun t168 => (some t168)) else (some false)))) else (some false)) = some r := H
    have A8 := Aside0.mk A80
    clear A80
    by_cases c9 : t164 = true
    ·subst c9
     have H1 : (if a0_2 = 0 then (if a0_3 = 0 then (some false) else ((spec_l1In.f a0_4 1 5).bind fun t165 => (if t165 = true then ((spec_l1In.f a0_5 0 1000).bind fun t166 => (some t166)) else (some false)))) else ((spec_l1In.f a0_4 1 5).bind fun t167 => (if t167 = true then ((spec_l1In.f a0_5 0 1000).bind fun t168 => (some t168)) else (some false)))) = some r := by rw [if_pos rfl] at H; exact H
     clear H
     have H := H1
     clear H1
     by_cases c10 : a0_2 = 0
     ·rw [if_pos c10] at H
      have c10b0 : (a0_2 == 0) = true := beq_iff_eq.mpr c10
      have c10b1 : (a0_2 != 0) = false := bne_eq_false_iff_eq.mpr c10
      clear c10
      by_cases c11 : a0_3 = 0
      ·rw [if_pos c11] at H
       have c11b0 : (a0_3 == 0) = true := beq_iff_eq.mpr c11
       have c11b1 : (a0_3 != 0) = false := bne_eq_false_iff_eq.mpr c11
       clear c11
       obtain rfl := Option.some.inj H
       go_enter Try.func15, Try.ntmps15
       go_wp2_with (first | ((with_reducible refine gate_dst (N := 1) rfl ?_); refine box_event ?hg (N := 1) ?hd (cs := #[.int .i64 a0_0, .int .i64 a0_1, .int .i64 a0_2, .int .i64 a0_3, .int .i64 a0_4, .int .i64 a0_5]) (t := 25) ?hr ?_; (case hd => rfl); (case hg => rfl); (case hr => first | (go_simp; done) | (go_simp; rfl)); intro gb160 hg w1 hbox hb; have n0_ := Aside0.mk (below_step s5_0 hb); have n1_ := Aside0.mk (hbox); have n2_ := Aside0.mk (ns hg s5_0 : w.heap.size ≤ gb160); have n3_ := Aside0.mk (ns hg s5_0 : w.heap.size ≤ gb160); clear HB; have HB := n0_; have BK160 := n1_; have GW160 := n2_; have GE160 := n3_; clear n0_ n1_ n2_ n3_; clear hb hbox hg; have hcz13_0 : w1.cell? ⟨gb160, 0, none⟩ = some (.int .i64 a0_0) := bc BK160.out 0; have hcz13_1 : w1.cell? ⟨gb160, 1, none⟩ = some (.int .i64 a0_1) := bc BK160.out 1; have hcz13_2 : w1.cell? ⟨gb160, 2, none⟩ = some (.int .i64 a0_2) := bc BK160.out 2; have hcz13_3 : w1.cell? ⟨gb160, 3, none⟩ = some (.int .i64 a0_3) := bc BK160.out 3; have hcz13_4 : w1.cell? ⟨gb160, 4, none⟩ = some (.int .i64 a0_4) := bc BK160.out 4; have hcz13_5 : w1.cell? ⟨gb160, 5, none⟩ = some (.int .i64 a0_5) := bc BK160.out 5; have hfz13_0 := blk_frozen BK160.out 0; have hfz13_1 := blk_frozen BK160.out 1; have hfz13_2 := blk_frozen BK160.out 2; have hfz13_3 := blk_frozen BK160.out 3; have hfz13_4 := blk_frozen BK160.out 4; have hfz13_5 := blk_frozen BK160.out 5) | ((with_reducible refine gate_callee (f := 55) rfl ?_); refine goesL_ (some 5) rfl rfl Try.func55 (by kernel_rfl) rfl #[.int .i64 a0_0, .int .i64 (-100000), .int .i64 100000] rfl s5_1 ?_; (with_reducible refine (spec_l1In.calls a0_0 (-100000) 100000 true _ A2.out).mono ?_); rintro e w' ⟨rfl, ⟨nd, rfl⟩⟩; refine ⟨_, rfl, ?_⟩) | (go_at_call 55; (with_reducible refine (spec_l1In.calls a0_1 (-100000) 100000 true _ A4.out).mono ?_); rintro e w' ⟨rfl, ⟨nd, rfl⟩⟩) | (go_at_call 55; (with_reducible refine (spec_l1In.calls a0_2 (-1000) 1000 true _ A6.out).mono ?_); rintro e w' ⟨rfl, ⟨nd, rfl⟩⟩) | (go_at_call 55; (with_reducible refine (spec_l1In.calls a0_3 (-1000) 1000 true _ A8.out).mono ?_); rintro e w' ⟨rfl, ⟨nd, rfl⟩⟩))
       go_ret
       exact ⟨by first | rfl | (simp [errW_none, errW_some] <;> rfl) | (simp [*, errW_none, errW_some] <;> rfl), by repeat (first | (with_reducible first | exact HB.out | apply below_alloc | apply pw_below_drewN | apply below_drew1 | refine below_set ?_ GE160.out) | exact HB.out)⟩
      ·rw [if_neg c11] at H
       have c11b0 : (a0_3 == 0) = false := beq_eq_false_iff_ne.mpr c11
       have c11b1 : (a0_3 != 0) = true := bne_iff_ne.mpr c11
       replace H := Option.bind_eq_some_iff.mp H
       obtain ⟨t165, A140, H⟩ := H
       replace H : (if t165 = true then ((spec_l1In.f a0_5 0 1000).bind fun t166 => (some t166)) else (some false)) = some r := H
       have A14 := Aside0.mk A140
       clear A140
       by_cases c15 : t165 = true
       ·subst c15
        have H1 : ((spec_l1In.f a0_5 0 1000).bind fun t166 => (some t166)) = some r := by rw [if_pos rfl] at H; exact H
        clear H
        have H := H1
        clear H1
        replace H := Option.bind_eq_some_iff.mp H
        obtain ⟨t166, A160, H⟩ := H
        replace H : (some t166) = some r := H
        have A16 := Aside0.mk A160
        clear A160
        obtain rfl := Option.some.inj H
        go_enter Try.func15, Try.ntmps15
        go_wp2_with (first | ((with_reducible refine gate_dst (N := 1) rfl ?_); refine box_event ?hg (N := 1) ?hd (cs := #[.int .i64 a0_0, .int .i64 a0_1, .int .i64 a0_2, .int .i64 a0_3, .int .i64 a0_4, .int .i64 a0_5]) (t := 25) ?hr ?_; (case hd => rfl); (case hg => rfl); (case hr => first | (go_simp; done) | (go_simp; rfl)); intro gb160 hg w1 hbox hb; have n0_ := Aside0.mk (below_step s5_0 hb); have n1_ := Aside0.mk (hbox); have n2_ := Aside0.mk (ns hg s5_0 : w.heap.size ≤ gb160); have n3_ := Aside0.mk (ns hg s5_0 : w.heap.size ≤ gb160); clear HB; have HB := n0_; have BK160 := n1_; have GW160 := n2_; have GE160 := n3_; clear n0_ n1_ n2_ n3_; clear hb hbox hg; have hcz18_0 : w1.cell? ⟨gb160, 0, none⟩ = some (.int .i64 a0_0) := bc BK160.out 0; have hcz18_1 : w1.cell? ⟨gb160, 1, none⟩ = some (.int .i64 a0_1) := bc BK160.out 1; have hcz18_2 : w1.cell? ⟨gb160, 2, none⟩ = some (.int .i64 a0_2) := bc BK160.out 2; have hcz18_3 : w1.cell? ⟨gb160, 3, none⟩ = some (.int .i64 a0_3) := bc BK160.out 3; have hcz18_4 : w1.cell? ⟨gb160, 4, none⟩ = some (.int .i64 a0_4) := bc BK160.out 4; have hcz18_5 : w1.cell? ⟨gb160, 5, none⟩ = some (.int .i64 a0_5) := bc BK160.out 5; have hfz18_0 := blk_frozen BK160.out 0; have hfz18_1 := blk_frozen BK160.out 1; have hfz18_2 := blk_frozen BK160.out 2; have hfz18_3 := blk_frozen BK160.out 3; have hfz18_4 := blk_frozen BK160.out 4; have hfz18_5 := blk_frozen BK160.out 5) | ((with_reducible refine gate_callee (f := 55) rfl ?_); refine goesL_ (some 5) rfl rfl Try.func55 (by kernel_rfl) rfl #[.int .i64 a0_0, .int .i64 (-100000), .int .i64 100000] rfl s5_1 ?_; (with_reducible refine (spec_l1In.calls a0_0 (-100000) 100000 true _ A2.out).mono ?_); rintro e w' ⟨rfl, ⟨nd, rfl⟩⟩; refine ⟨_, rfl, ?_⟩) | (go_at_call 55; (with_reducible refine (spec_l1In.calls a0_1 (-100000) 100000 true _ A4.out).mono ?_); rintro e w' ⟨rfl, ⟨nd, rfl⟩⟩) | (go_at_call 55; (with_reducible refine (spec_l1In.calls a0_2 (-1000) 1000 true _ A6.out).mono ?_); rintro e w' ⟨rfl, ⟨nd, rfl⟩⟩) | (go_at_call 55; (with_reducible refine (spec_l1In.calls a0_3 (-1000) 1000 true _ A8.out).mono ?_); rintro e w' ⟨rfl, ⟨nd, rfl⟩⟩) | (go_at_call 55; (with_reducible refine (spec_l1In.calls a0_4 1 5 true _ A14.out).mono ?_); rintro e w' ⟨rfl, ⟨nd, rfl⟩⟩) | (go_at_call 55; (with_reducible refine (spec_l1In.calls a0_5 0 1000 t166 _ A16.out).mono ?_); rintro e w' ⟨rfl, ⟨nd, rfl⟩⟩))
        go_ret
        exact ⟨by first | rfl | (simp [errW_none, errW_some] <;> rfl) | (simp [*, errW_none, errW_some] <;> rfl), by repeat (first | (with_reducible first | exact HB.out | apply below_alloc | apply pw_below_drewN | apply below_drew1 | refine below_set ?_ GE160.out) | exact HB.out)⟩
       ·replace c15 := Bool.eq_false_iff.mpr c15
        subst c15
        have H1 : (some false) = some r := by rw [if_neg (show ¬ (false = true) by decide)] at H; exact H
        clear H
        have H := H1
        clear H1
        obtain rfl := Option.some.inj H
        go_enter Try.func15, Try.ntmps15
        go_wp2_with (first | ((with_reducible refine gate_dst (N := 1) rfl ?_); refine box_event ?hg (N := 1) ?hd (cs := #[.int .i64 a0_0, .int .i64 a0_1, .int .i64 a0_2, .int .i64 a0_3, .int .i64 a0_4, .int .i64 a0_5]) (t := 25) ?hr ?_; (case hd => rfl); (case hg => rfl); (case hr => first | (go_simp; done) | (go_simp; rfl)); intro gb160 hg w1 hbox hb; have n0_ := Aside0.mk (below_step s5_0 hb); have n1_ := Aside0.mk (hbox); have n2_ := Aside0.mk (ns hg s5_0 : w.heap.size ≤ gb160); have n3_ := Aside0.mk (ns hg s5_0 : w.heap.size ≤ gb160); clear HB; have HB := n0_; have BK160 := n1_; have GW160 := n2_; have GE160 := n3_; clear n0_ n1_ n2_ n3_; clear hb hbox hg; have hcz20_0 : w1.cell? ⟨gb160, 0, none⟩ = some (.int .i64 a0_0) := bc BK160.out 0; have hcz20_1 : w1.cell? ⟨gb160, 1, none⟩ = some (.int .i64 a0_1) := bc BK160.out 1; have hcz20_2 : w1.cell? ⟨gb160, 2, none⟩ = some (.int .i64 a0_2) := bc BK160.out 2; have hcz20_3 : w1.cell? ⟨gb160, 3, none⟩ = some (.int .i64 a0_3) := bc BK160.out 3; have hcz20_4 : w1.cell? ⟨gb160, 4, none⟩ = some (.int .i64 a0_4) := bc BK160.out 4; have hcz20_5 : w1.cell? ⟨gb160, 5, none⟩ = some (.int .i64 a0_5) := bc BK160.out 5; have hfz20_0 := blk_frozen BK160.out 0; have hfz20_1 := blk_frozen BK160.out 1; have hfz20_2 := blk_frozen BK160.out 2; have hfz20_3 := blk_frozen BK160.out 3; have hfz20_4 := blk_frozen BK160.out 4; have hfz20_5 := blk_frozen BK160.out 5) | ((with_reducible refine gate_callee (f := 55) rfl ?_); refine goesL_ (some 5) rfl rfl Try.func55 (by kernel_rfl) rfl #[.int .i64 a0_0, .int .i64 (-100000), .int .i64 100000] rfl s5_1 ?_; (with_reducible refine (spec_l1In.calls a0_0 (-100000) 100000 true _ A2.out).mono ?_); rintro e w' ⟨rfl, ⟨nd, rfl⟩⟩; refine ⟨_, rfl, ?_⟩) | (go_at_call 55; (with_reducible refine (spec_l1In.calls a0_1 (-100000) 100000 true _ A4.out).mono ?_); rintro e w' ⟨rfl, ⟨nd, rfl⟩⟩) | (go_at_call 55; (with_reducible refine (spec_l1In.calls a0_2 (-1000) 1000 true _ A6.out).mono ?_); rintro e w' ⟨rfl, ⟨nd, rfl⟩⟩) | (go_at_call 55; (with_reducible refine (spec_l1In.calls a0_3 (-1000) 1000 true _ A8.out).mono ?_); rintro e w' ⟨rfl, ⟨nd, rfl⟩⟩) | (go_at_call 55; (with_reducible refine (spec_l1In.calls a0_4 1 5 false _ A14.out).mono ?_); rintro e w' ⟨rfl, ⟨nd, rfl⟩⟩))
        go_ret
        exact ⟨by first | rfl | (simp [errW_none, errW_some] <;> rfl) | (simp [*, errW_none, errW_some] <;> rfl), by repeat (first | (with_reducible first | exact HB.out | apply below_alloc | apply pw_below_drewN | apply below_drew1 | refine below_set ?_ GE160.out) | exact HB.out)⟩
     ·rw [if_neg c10] at H
      have c10b0 : (a0_2 == 0) = false := beq_eq_false_iff_ne.mpr c10
      have c10b1 : (a0_2 != 0) = true := bne_iff_ne.mpr c10
      replace H := Option.bind_eq_some_iff.mp H
      obtain ⟨t167, A210, H⟩ := H
      replace H : (if t167 = true then ((spec_l1In.f a0_5 0 1000).bind fun t168 => (some t168)) else (some false)) = some r := H
      have A21 := Aside0.mk A210
      clear A210
      by_cases c22 : t167 = true
      ·subst c22
       have H1 : ((spec_l1In.f a0_5 0 1000).bind fun t168 => (some t168)) = some r := by rw [if_pos rfl] at H; exact H
       clear H
       have H := H1
       clear H1
       replace H := Option.bind_eq_some_iff.mp H
       obtain ⟨t168, A230, H⟩ := H
       replace H : (some t168) = some r := H
       have A23 := Aside0.mk A230
       clear A230
       obtain rfl := Option.some.inj H
       go_enter Try.func15, Try.ntmps15
       go_wp2_with (first | ((with_reducible refine gate_dst (N := 1) rfl ?_); refine box_event ?hg (N := 1) ?hd (cs := #[.int .i64 a0_0, .int .i64 a0_1, .int .i64 a0_2, .int .i64 a0_3, .int .i64 a0_4, .int .i64 a0_5]) (t := 25) ?hr ?_; (case hd => rfl); (case hg => rfl); (case hr => first | (go_simp; done) | (go_simp; rfl)); intro gb160 hg w1 hbox hb; have n0_ := Aside0.mk (below_step s5_0 hb); have n1_ := Aside0.mk (hbox); have n2_ := Aside0.mk (ns hg s5_0 : w.heap.size ≤ gb160); have n3_ := Aside0.mk (ns hg s5_0 : w.heap.size ≤ gb160); clear HB; have HB := n0_; have BK160 := n1_; have GW160 := n2_; have GE160 := n3_; clear n0_ n1_ n2_ n3_; clear hb hbox hg; have hcz25_0 : w1.cell? ⟨gb160, 0, none⟩ = some (.int .i64 a0_0) := bc BK160.out 0; have hcz25_1 : w1.cell? ⟨gb160, 1, none⟩ = some (.int .i64 a0_1) := bc BK160.out 1; have hcz25_2 : w1.cell? ⟨gb160, 2, none⟩ = some (.int .i64 a0_2) := bc BK160.out 2; have hcz25_3 : w1.cell? ⟨gb160, 3, none⟩ = some (.int .i64 a0_3) := bc BK160.out 3; have hcz25_4 : w1.cell? ⟨gb160, 4, none⟩ = some (.int .i64 a0_4) := bc BK160.out 4; have hcz25_5 : w1.cell? ⟨gb160, 5, none⟩ = some (.int .i64 a0_5) := bc BK160.out 5; have hfz25_0 := blk_frozen BK160.out 0; have hfz25_1 := blk_frozen BK160.out 1; have hfz25_2 := blk_frozen BK160.out 2; have hfz25_3 := blk_frozen BK160.out 3; have hfz25_4 := blk_frozen BK160.out 4; have hfz25_5 := blk_frozen BK160.out 5) | ((with_reducible refine gate_callee (f := 55) rfl ?_); refine goesL_ (some 5) rfl rfl Try.func55 (by kernel_rfl) rfl #[.int .i64 a0_0, .int .i64 (-100000), .int .i64 100000] rfl s5_1 ?_; (with_reducible refine (spec_l1In.calls a0_0 (-100000) 100000 true _ A2.out).mono ?_); rintro e w' ⟨rfl, ⟨nd, rfl⟩⟩; refine ⟨_, rfl, ?_⟩) | (go_at_call 55; (with_reducible refine (spec_l1In.calls a0_1 (-100000) 100000 true _ A4.out).mono ?_); rintro e w' ⟨rfl, ⟨nd, rfl⟩⟩) | (go_at_call 55; (with_reducible refine (spec_l1In.calls a0_2 (-1000) 1000 true _ A6.out).mono ?_); rintro e w' ⟨rfl, ⟨nd, rfl⟩⟩) | (go_at_call 55; (with_reducible refine (spec_l1In.calls a0_3 (-1000) 1000 true _ A8.out).mono ?_); rintro e w' ⟨rfl, ⟨nd, rfl⟩⟩) | (go_at_call 55; (with_reducible refine (spec_l1In.calls a0_4 1 5 true _ A21.out).mono ?_); rintro e w' ⟨rfl, ⟨nd, rfl⟩⟩) | (go_at_call 55; (with_reducible refine (spec_l1In.calls a0_5 0 1000 t168 _ A23.out).mono ?_); rintro e w' ⟨rfl, ⟨nd, rfl⟩⟩))
       go_ret
       exact ⟨by first | rfl | (simp [errW_none, errW_some] <;> rfl) | (simp [*, errW_none, errW_some] <;> rfl), by repeat (first | (with_reducible first | exact HB.out | apply below_alloc | apply pw_below_drewN | apply below_drew1 | refine below_set ?_ GE160.out) | exact HB.out)⟩
      ·replace c22 := Bool.eq_false_iff.mpr c22
       subst c22
       have H1 : (some false) = some r := by rw [if_neg (show ¬ (false = true) by decide)] at H; exact H
       clear H
       have H := H1
       clear H1
       obtain rfl := Option.some.inj H
       go_enter Try.func15, Try.ntmps15
       go_wp2_with (first | ((with_reducible refine gate_dst (N := 1) rfl ?_); refine box_event ?hg (N := 1) ?hd (cs := #[.int .i64 a0_0, .int .i64 a0_1, .int .i64 a0_2, .int .i64 a0_3, .int .i64 a0_4, .int .i64 a0_5]) (t := 25) ?hr ?_; (case hd => rfl); (case hg => rfl); (case hr => first | (go_simp; done) | (go_simp; rfl)); intro gb160 hg w1 hbox hb; have n0_ := Aside0.mk (below_step s5_0 hb); have n1_ := Aside0.mk (hbox); have n2_ := Aside0.mk (ns hg s5_0 : w.heap.size ≤ gb160); have n3_ := Aside0.mk (ns hg s5_0 : w.heap.size ≤ gb160); clear HB; have HB := n0_; have BK160 := n1_; have GW160 := n2_; have GE160 := n3_; clear n0_ n1_ n2_ n3_; clear hb hbox hg; have hcz27_0 : w1.cell? ⟨gb160, 0, none⟩ = some (.int .i64 a0_0) := bc BK160.out 0; have hcz27_1 : w1.cell? ⟨gb160, 1, none⟩ = some (.int .i64 a0_1) := bc BK160.out 1; have hcz27_2 : w1.cell? ⟨gb160, 2, none⟩ = some (.int .i64 a0_2) := bc BK160.out 2; have hcz27_3 : w1.cell? ⟨gb160, 3, none⟩ = some (.int .i64 a0_3) := bc BK160.out 3; have hcz27_4 : w1.cell? ⟨gb160, 4, none⟩ = some (.int .i64 a0_4) := bc BK160.out 4; have hcz27_5 : w1.cell? ⟨gb160, 5, none⟩ = some (.int .i64 a0_5) := bc BK160.out 5; have hfz27_0 := blk_frozen BK160.out 0; have hfz27_1 := blk_frozen BK160.out 1; have hfz27_2 := blk_frozen BK160.out 2; have hfz27_3 := blk_frozen BK160.out 3; have hfz27_4 := blk_frozen BK160.out 4; have hfz27_5 := blk_frozen BK160.out 5) | ((with_reducible refine gate_callee (f := 55) rfl ?_); refine goesL_ (some 5) rfl rfl Try.func55 (by kernel_rfl) rfl #[.int .i64 a0_0, .int .i64 (-100000), .int .i64 100000] rfl s5_1 ?_; (with_reducible refine (spec_l1In.calls a0_0 (-100000) 100000 true _ A2.out).mono ?_); rintro e w' ⟨rfl, ⟨nd, rfl⟩⟩; refine ⟨_, rfl, ?_⟩) | (go_at_call 55; (with_reducible refine (spec_l1In.calls a0_1 (-100000) 100000 true _ A4.out).mono ?_); rintro e w' ⟨rfl, ⟨nd, rfl⟩⟩) | (go_at_call 55; (with_reducible refine (spec_l1In.calls a0_2 (-1000) 1000 true _ A6.out).mono ?_); rintro e w' ⟨rfl, ⟨nd, rfl⟩⟩) | (go_at_call 55; (with_reducible refine (spec_l1In.calls a0_3 (-1000) 1000 true _ A8.out).mono ?_); rintro e w' ⟨rfl, ⟨nd, rfl⟩⟩) | (go_at_call 55; (with_reducible refine (spec_l1In.calls a0_4 1 5 false _ A21.out).mono ?_); rintro e w' ⟨rfl, ⟨nd, rfl⟩⟩))
       go_ret
       exact ⟨by first | rfl | (simp [errW_none, errW_some] <;> rfl) | (simp [*, errW_none, errW_some] <;> rfl), by repeat (first | (with_reducible first | exact HB.out | apply below_alloc | apply pw_below_drewN | apply below_drew1 | refine below_set ?_ GE160.out) | exact HB.out)⟩
    ·replace c9 := Bool.eq_false_iff.mpr c9
     subst c9
     have H1 : (some false) = some r := by rw [if_neg (show ¬ (false = true) by decide)] at H; exact H
     clear H
     have H := H1
     clear H1
     obtain rfl := Option.some.inj H
     go_enter Try.func15, Try.ntmps15
     go_wp2_with (first | ((with_reducible refine gate_dst (N := 1) rfl ?_); refine box_event ?hg (N := 1) ?hd (cs := #[.int .i64 a0_0, .int .i64 a0_1, .int .i64 a0_2, .int .i64 a0_3, .int .i64 a0_4, .int .i64 a0_5]) (t := 25) ?hr ?_; (case hd => rfl); (case hg => rfl); (case hr => first | (go_simp; done) | (go_simp; rfl)); intro gb160 hg w1 hbox hb; have n0_ := Aside0.mk (below_step s5_0 hb); have n1_ := Aside0.mk (hbox); have n2_ := Aside0.mk (ns hg s5_0 : w.heap.size ≤ gb160); have n3_ := Aside0.mk (ns hg s5_0 : w.heap.size ≤ gb160); clear HB; have HB := n0_; have BK160 := n1_; have GW160 := n2_; have GE160 := n3_; clear n0_ n1_ n2_ n3_; clear hb hbox hg; have hcz29_0 : w1.cell? ⟨gb160, 0, none⟩ = some (.int .i64 a0_0) := bc BK160.out 0; have hcz29_1 : w1.cell? ⟨gb160, 1, none⟩ = some (.int .i64 a0_1) := bc BK160.out 1; have hcz29_2 : w1.cell? ⟨gb160, 2, none⟩ = some (.int .i64 a0_2) := bc BK160.out 2; have hcz29_3 : w1.cell? ⟨gb160, 3, none⟩ = some (.int .i64 a0_3) := bc BK160.out 3; have hcz29_4 : w1.cell? ⟨gb160, 4, none⟩ = some (.int .i64 a0_4) := bc BK160.out 4; have hcz29_5 : w1.cell? ⟨gb160, 5, none⟩ = some (.int .i64 a0_5) := bc BK160.out 5; have hfz29_0 := blk_frozen BK160.out 0; have hfz29_1 := blk_frozen BK160.out 1; have hfz29_2 := blk_frozen BK160.out 2; have hfz29_3 := blk_frozen BK160.out 3; have hfz29_4 := blk_frozen BK160.out 4; have hfz29_5 := blk_frozen BK160.out 5) | ((with_reducible refine gate_callee (f := 55) rfl ?_); refine goesL_ (some 5) rfl rfl Try.func55 (by kernel_rfl) rfl #[.int .i64 a0_0, .int .i64 (-100000), .int .i64 100000] rfl s5_1 ?_; (with_reducible refine (spec_l1In.calls a0_0 (-100000) 100000 true _ A2.out).mono ?_); rintro e w' ⟨rfl, ⟨nd, rfl⟩⟩; refine ⟨_, rfl, ?_⟩) | (go_at_call 55; (with_reducible refine (spec_l1In.calls a0_1 (-100000) 100000 true _ A4.out).mono ?_); rintro e w' ⟨rfl, ⟨nd, rfl⟩⟩) | (go_at_call 55; (with_reducible refine (spec_l1In.calls a0_2 (-1000) 1000 true _ A6.out).mono ?_); rintro e w' ⟨rfl, ⟨nd, rfl⟩⟩) | (go_at_call 55; (with_reducible refine (spec_l1In.calls a0_3 (-1000) 1000 false _ A8.out).mono ?_); rintro e w' ⟨rfl, ⟨nd, rfl⟩⟩))
     go_ret
     exact ⟨by first | rfl | (simp [errW_none, errW_some] <;> rfl) | (simp [*, errW_none, errW_some] <;> rfl), by repeat (first | (with_reducible first | exact HB.out | apply below_alloc | apply pw_below_drewN | apply below_drew1 | refine below_set ?_ GE160.out) | exact HB.out)⟩
   ·replace c7 := Bool.eq_false_iff.mpr c7
    subst c7
    have H1 : (some false) = some r := by rw [if_neg (show ¬ (false = true) by decide)] at H; exact H
    clear H
    have H := H1
    clear H1
    obtain rfl := Option.some.inj H
    go_enter Try.func15, Try.ntmps15
    go_wp2_with (first | ((with_reducible refine gate_dst (N := 1) rfl ?_); refine box_event ?hg (N := 1) ?hd (cs := #[.int .i64 a0_0, .int .i64 a0_1, .int .i64 a0_2, .int .i64 a0_3, .int .i64 a0_4, .int .i64 a0_5]) (t := 25) ?hr ?_; (case hd => rfl); (case hg => rfl); (case hr => first | (go_simp; done) | (go_simp; rfl)); intro gb160 hg w1 hbox hb; have n0_ := Aside0.mk (below_step s5_0 hb); have n1_ := Aside0.mk (hbox); have n2_ := Aside0.mk (ns hg s5_0 : w.heap.size ≤ gb160); have n3_ := Aside0.mk (ns hg s5_0 : w.heap.size ≤ gb160); clear HB; have HB := n0_; have BK160 := n1_; have GW160 := n2_; have GE160 := n3_; clear n0_ n1_ n2_ n3_; clear hb hbox hg; have hcz31_0 : w1.cell? ⟨gb160, 0, none⟩ = some (.int .i64 a0_0) := bc BK160.out 0; have hcz31_1 : w1.cell? ⟨gb160, 1, none⟩ = some (.int .i64 a0_1) := bc BK160.out 1; have hcz31_2 : w1.cell? ⟨gb160, 2, none⟩ = some (.int .i64 a0_2) := bc BK160.out 2; have hcz31_3 : w1.cell? ⟨gb160, 3, none⟩ = some (.int .i64 a0_3) := bc BK160.out 3; have hcz31_4 : w1.cell? ⟨gb160, 4, none⟩ = some (.int .i64 a0_4) := bc BK160.out 4; have hcz31_5 : w1.cell? ⟨gb160, 5, none⟩ = some (.int .i64 a0_5) := bc BK160.out 5; have hfz31_0 := blk_frozen BK160.out 0; have hfz31_1 := blk_frozen BK160.out 1; have hfz31_2 := blk_frozen BK160.out 2; have hfz31_3 := blk_frozen BK160.out 3; have hfz31_4 := blk_frozen BK160.out 4; have hfz31_5 := blk_frozen BK160.out 5) | ((with_reducible refine gate_callee (f := 55) rfl ?_); refine goesL_ (some 5) rfl rfl Try.func55 (by kernel_rfl) rfl #[.int .i64 a0_0, .int .i64 (-100000), .int .i64 100000] rfl s5_1 ?_; (with_reducible refine (spec_l1In.calls a0_0 (-100000) 100000 true _ A2.out).mono ?_); rintro e w' ⟨rfl, ⟨nd, rfl⟩⟩; refine ⟨_, rfl, ?_⟩) | (go_at_call 55; (with_reducible refine (spec_l1In.calls a0_1 (-100000) 100000 true _ A4.out).mono ?_); rintro e w' ⟨rfl, ⟨nd, rfl⟩⟩) | (go_at_call 55; (with_reducible refine (spec_l1In.calls a0_2 (-1000) 1000 false _ A6.out).mono ?_); rintro e w' ⟨rfl, ⟨nd, rfl⟩⟩))
    go_ret
    exact ⟨by first | rfl | (simp [errW_none, errW_some] <;> rfl) | (simp [*, errW_none, errW_some] <;> rfl), by repeat (first | (with_reducible first | exact HB.out | apply below_alloc | apply pw_below_drewN | apply below_drew1 | refine below_set ?_ GE160.out) | exact HB.out)⟩
  ·replace c5 := Bool.eq_false_iff.mpr c5
   subst c5
   have H1 : (some false) = some r := by rw [if_neg (show ¬ (false = true) by decide)] at H; exact H
   clear H
   have H := H1
   clear H1
   obtain rfl := Option.some.inj H
   go_enter Try.func15, Try.ntmps15
   go_wp2_with (first | ((with_reducible refine gate_dst (N := 1) rfl ?_); refine box_event ?hg (N := 1) ?hd (cs := #[.int .i64 a0_0, .int .i64 a0_1, .int .i64 a0_2, .int .i64 a0_3, .int .i64 a0_4, .int .i64 a0_5]) (t := 25) ?hr ?_; (case hd => rfl); (case hg => rfl); (case hr => first | (go_simp; done) | (go_simp; rfl)); intro gb160 hg w1 hbox hb; have n0_ := Aside0.mk (below_step s5_0 hb); have n1_ := Aside0.mk (hbox); have n2_ := Aside0.mk (ns hg s5_0 : w.heap.size ≤ gb160); have n3_ := Aside0.mk (ns hg s5_0 : w.heap.size ≤ gb160); clear HB; have HB := n0_; have BK160 := n1_; have GW160 := n2_; have GE160 := n3_; clear n0_ n1_ n2_ n3_; clear hb hbox hg; have hcz33_0 : w1.cell? ⟨gb160, 0, none⟩ = some (.int .i64 a0_0) := bc BK160.out 0; have hcz33_1 : w1.cell? ⟨gb160, 1, none⟩ = some (.int .i64 a0_1) := bc BK160.out 1; have hcz33_2 : w1.cell? ⟨gb160, 2, none⟩ = some (.int .i64 a0_2) := bc BK160.out 2; have hcz33_3 : w1.cell? ⟨gb160, 3, none⟩ = some (.int .i64 a0_3) := bc BK160.out 3; have hcz33_4 : w1.cell? ⟨gb160, 4, none⟩ = some (.int .i64 a0_4) := bc BK160.out 4; have hcz33_5 : w1.cell? ⟨gb160, 5, none⟩ = some (.int .i64 a0_5) := bc BK160.out 5; have hfz33_0 := blk_frozen BK160.out 0; have hfz33_1 := blk_frozen BK160.out 1; have hfz33_2 := blk_frozen BK160.out 2; have hfz33_3 := blk_frozen BK160.out 3; have hfz33_4 := blk_frozen BK160.out 4; have hfz33_5 := blk_frozen BK160.out 5) | ((with_reducible refine gate_callee (f := 55) rfl ?_); refine goesL_ (some 5) rfl rfl Try.func55 (by kernel_rfl) rfl #[.int .i64 a0_0, .int .i64 (-100000), .int .i64 100000] rfl s5_1 ?_; (with_reducible refine (spec_l1In.calls a0_0 (-100000) 100000 true _ A2.out).mono ?_); rintro e w' ⟨rfl, ⟨nd, rfl⟩⟩; refine ⟨_, rfl, ?_⟩) | (go_at_call 55; (with_reducible refine (spec_l1In.calls a0_1 (-100000) 100000 false _ A4.out).mono ?_); rintro e w' ⟨rfl, ⟨nd, rfl⟩⟩))
   go_ret
   exact ⟨by first | rfl | (simp [errW_none, errW_some] <;> rfl) | (simp [*, errW_none, errW_some] <;> rfl), by repeat (first | (with_reducible first | exact HB.out | apply below_alloc | apply pw_below_drewN | apply below_drew1 | refine below_set ?_ GE160.out) | exact HB.out)⟩
 ·replace c3 := Bool.eq_false_iff.mpr c3
  subst c3
  have H1 : (some false) = some r := by rw [if_neg (show ¬ (false = true) by decide)] at H; exact H
  clear H
  have H := H1
  clear H1
  obtain rfl := Option.some.inj H
  go_enter Try.func15, Try.ntmps15
  go_wp2_with (first | ((with_reducible refine gate_dst (N := 1) rfl ?_); refine box_event ?hg (N := 1) ?hd (cs := #[.int .i64 a0_0, .int .i64 a0_1, .int .i64 a0_2, .int .i64 a0_3, .int .i64 a0_4, .int .i64 a0_5]) (t := 25) ?hr ?_; (case hd => rfl); (case hg => rfl); (case hr => first | (go_simp; done) | (go_simp; rfl)); intro gb160 hg w1 hbox hb; have n0_ := Aside0.mk (below_step s5_0 hb); have n1_ := Aside0.mk (hbox); have n2_ := Aside0.mk (ns hg s5_0 : w.heap.size ≤ gb160); have n3_ := Aside0.mk (ns hg s5_0 : w.heap.size ≤ gb160); clear HB; have HB := n0_; have BK160 := n1_; have GW160 := n2_; have GE160 := n3_; clear n0_ n1_ n2_ n3_; clear hb hbox hg; have hcz35_0 : w1.cell? ⟨gb160, 0, none⟩ = some (.int .i64 a0_0) := bc BK160.out 0; have hcz35_1 : w1.cell? ⟨gb160, 1, none⟩ = some (.int .i64 a0_1) := bc BK160.out 1; have hcz35_2 : w1.cell? ⟨gb160, 2, none⟩ = some (.int .i64 a0_2) := bc BK160.out 2; have hcz35_3 : w1.cell? ⟨gb160, 3, none⟩ = some (.int .i64 a0_3) := bc BK160.out 3; have hcz35_4 : w1.cell? ⟨gb160, 4, none⟩ = some (.int .i64 a0_4) := bc BK160.out 4; have hcz35_5 : w1.cell? ⟨gb160, 5, none⟩ = some (.int .i64 a0_5) := bc BK160.out 5; have hfz35_0 := blk_frozen BK160.out 0; have hfz35_1 := blk_frozen BK160.out 1; have hfz35_2 := blk_frozen BK160.out 2; have hfz35_3 := blk_frozen BK160.out 3; have hfz35_4 := blk_frozen BK160.out 4; have hfz35_5 := blk_frozen BK160.out 5) | ((with_reducible refine gate_callee (f := 55) rfl ?_); refine goesL_ (some 5) rfl rfl Try.func55 (by kernel_rfl) rfl #[.int .i64 a0_0, .int .i64 (-100000), .int .i64 100000] rfl s5_1 ?_; (with_reducible refine (spec_l1In.calls a0_0 (-100000) 100000 false _ A2.out).mono ?_); rintro e w' ⟨rfl, ⟨nd, rfl⟩⟩; refine ⟨_, rfl, ?_⟩))
  go_ret
  exact ⟨by first | rfl | (simp [errW_none, errW_some] <;> rfl) | (simp [*, errW_none, errW_some] <;> rfl), by repeat (first | (with_reducible first | exact HB.out | apply below_alloc | apply pw_below_drewN | apply below_drew1 | refine below_set ?_ GE160.out) | exact HB.out)⟩

/-! ### spec_l8Bearing: function 65 -/
def spec_l8Bearing.f (a0_0 : Int) (a0_1 : Int) (a0_2 : Int) (a0_3 : Int) (a0_4 : Int) (a0_5 : Int) (a1_0 : Int) (a1_1 : Int) (a1_2 : Int) (a1_3 : Int) (a1_4 : Int) (a1_5 : Int) : Option (Int × Int) := some (wrap64 (a1_0 - a0_0), wrap64 (a1_1 - a0_1))
set_option maxHeartbeats 8000000 in
set_option maxRecDepth 100000 in
theorem spec_l8Bearing.calls (a0_0 : Int) (a0_1 : Int) (a0_2 : Int) (a0_3 : Int) (a0_4 : Int) (a0_5 : Int) (a1_0 : Int) (a1_1 : Int) (a1_2 : Int) (a1_3 : Int) (a1_4 : Int) (a1_5 : Int) (r1 : Int) (r2 : Int) (w : World) (h : spec_l8Bearing.f a0_0 a0_1 a0_2 a0_3 a0_4 a0_5 a1_0 a1_1 a1_2 a1_3 a1_4 a1_5 = some (r1, r2)) :
  Calls Try.prog 65 #[.agg #[.int .i64 a0_0, .int .i64 a0_1, .int .i64 a0_2, .int .i64 a0_3, .int .i64 a0_4, .int .i64 a0_5], .agg #[.int .i64 a1_0, .int .i64 a1_1, .int .i64 a1_2, .int .i64 a1_3, .int .i64 a1_4, .int .i64 a1_5]] w fun e w' => e = .returned (.agg #[.int .i64 r1, .int .i64 r2]) ∧ Below w.heap.size w w' := by
 have hu25 := Try.underlying25
 have hu83 := Try.underlying83
 have HB := Aside0.mk (Below.refl w.heap.size w)
 have H : (some (wrap64 (a1_0 - a0_0), wrap64 (a1_1 - a0_1))) = some (r1, r2) := h
 clear h
 simp only [Option.some.injEq, Prod.mk.injEq] at H
 obtain ⟨rfl, rfl⟩ := H
 go_enter Try.func65, Try.ntmps65
 go_wp2_with (first | ((with_reducible refine gate_dst (N := 2) rfl ?_); refine box_event ?hg (N := 2) ?hd (cs := #[.int .i64 a0_0, .int .i64 a0_1, .int .i64 a0_2, .int .i64 a0_3, .int .i64 a0_4, .int .i64 a0_5]) (t := 25) ?hr ?_; (case hd => rfl); (case hg => rfl); (case hr => first | (go_simp; done) | (go_simp; rfl)); intro gb169 hg w1 hbox hb; have n0_ := Aside0.mk (below_step s5_0 hb); have n1_ := Aside0.mk (hbox); have n2_ := Aside0.mk (ns hg s5_0 : w.heap.size ≤ gb169); have n3_ := Aside0.mk (ns hg s5_0 : w.heap.size ≤ gb169); clear HB; have HB := n0_; have BK169 := n1_; have GW169 := n2_; have GE169 := n3_; clear n0_ n1_ n2_ n3_; clear hb hbox hg) | ((with_reducible refine gate_dst (N := 3) rfl ?_); refine box_event ?hg (N := 3) ?hd (cs := #[.int .i64 a1_0, .int .i64 a1_1, .int .i64 a1_2, .int .i64 a1_3, .int .i64 a1_4, .int .i64 a1_5]) (t := 25) ?hr ?_; (case hd => rfl); (case hg => rfl); (case hr => first | (go_simp; done) | (go_simp; rfl)); intro gb170 hg w2 hbox hb; have n0_ := Aside0.mk (bb (zk BK169.out) hb); have n1_ := Aside0.mk (below_step (by repeat (first | (with_reducible first | exact HB.out | apply below_alloc | apply pw_below_drewN | apply below_drew1 | refine below_set ?_ GE169.out) | exact HB.out)) hb); have n2_ := Aside0.mk (hbox); have n3_ := Aside0.mk (ns hg (by repeat (first | (with_reducible first | exact HB.out | apply below_alloc | apply pw_below_drewN | apply below_drew1 | refine below_set ?_ GE169.out) | exact HB.out)) : w.heap.size ≤ gb170); have n4_ := Aside0.mk (ns hg (by repeat (first | (with_reducible first | exact HB.out | apply below_alloc | apply pw_below_drewN | apply below_drew1 | refine below_set ?_ GE169.out) | exact HB.out)) : w.heap.size ≤ gb170); have n5_ := Aside0.mk ((nlt hg (zk BK169.out) : gb169 ≠ gb170)); have n6_ := Aside0.mk ((ngt hg (zk BK169.out) : gb170 ≠ gb169)); clear BK169; clear HB; have BK169 := n0_; have HB := n1_; have BK170 := n2_; have GW170 := n3_; have GE170 := n4_; have NB169_170 := n5_; have NB170_169 := n6_; clear n0_ n1_ n2_ n3_ n4_ n5_ n6_; clear hb hbox hg) | ((with_reducible refine gate_dst (N := 4) rfl ?_); refine box_event ?hg (N := 4) ?hd (cs := #[.int .i64 0, .int .i64 0]) (t := 83) ?hr ?_; (case hd => rfl); (case hg => rfl); (case hr => first | (go_simp; done) | (go_simp; rfl)); intro gb171 hg w3 hbox hb; have n0_ := Aside0.mk (bb (zk BK169.out) hb); have n1_ := Aside0.mk (bb (zk BK170.out) hb); have n2_ := Aside0.mk (below_step s5_2 hb); have n3_ := Aside0.mk (hbox); have n4_ := Aside0.mk (ns hg s5_2 : w.heap.size ≤ gb171); have n5_ := Aside0.mk (ns hg s5_2 : w.heap.size ≤ gb171); have n6_ := Aside0.mk ((nlt hg (zk BK169.out) : gb169 ≠ gb171)); have n7_ := Aside0.mk ((ngt hg (zk BK169.out) : gb171 ≠ gb169)); have n8_ := Aside0.mk ((nlt hg (zk BK170.out) : gb170 ≠ gb171)); have n9_ := Aside0.mk ((ngt hg (zk BK170.out) : gb171 ≠ gb170)); clear BK169; clear BK170; clear HB; have BK169 := n0_; have BK170 := n1_; have HB := n2_; have BK171 := n3_; have GW171 := n4_; have GE171 := n5_; have NB169_171 := n6_; have NB171_169 := n7_; have NB170_171 := n8_; have NB171_170 := n9_; clear n0_ n1_ n2_ n3_ n4_ n5_ n6_ n7_ n8_ n9_; clear hb hbox hg; have hnb6 := NB170_169.out; have hnc6 := NB169_170.out; have hnb7 := NB170_171.out; have hnc7 := NB171_170.out; have hcz8_0 : w3.cell? ⟨gb170, 0, none⟩ = some (.int .i64 a1_0) := bc BK170.out 0; have hcz8_1 : w3.cell? ⟨gb170, 1, none⟩ = some (.int .i64 a1_1) := bc BK170.out 1; have hcz8_2 : w3.cell? ⟨gb170, 2, none⟩ = some (.int .i64 a1_2) := bc BK170.out 2; have hcz8_3 : w3.cell? ⟨gb170, 3, none⟩ = some (.int .i64 a1_3) := bc BK170.out 3; have hcz8_4 : w3.cell? ⟨gb170, 4, none⟩ = some (.int .i64 a1_4) := bc BK170.out 4; have hcz8_5 : w3.cell? ⟨gb170, 5, none⟩ = some (.int .i64 a1_5) := bc BK170.out 5; have hfz8_0 := blk_frozen BK170.out 0; have hfz8_1 := blk_frozen BK170.out 1; have hfz8_2 := blk_frozen BK170.out 2; have hfz8_3 := blk_frozen BK170.out 3; have hfz8_4 := blk_frozen BK170.out 4; have hfz8_5 := blk_frozen BK170.out 5; have hnb9 := NB169_171.out; have hnc9 := NB171_169.out; have hcz10_0 : w3.cell? ⟨gb169, 0, none⟩ = some (.int .i64 a0_0) := bc BK169.out 0; have hcz10_1 : w3.cell? ⟨gb169, 1, none⟩ = some (.int .i64 a0_1) := bc BK169.out 1; have hcz10_2 : w3.cell? ⟨gb169, 2, none⟩ = some (.int .i64 a0_2) := bc BK169.out 2; have hcz10_3 : w3.cell? ⟨gb169, 3, none⟩ = some (.int .i64 a0_3) := bc BK169.out 3; have hcz10_4 : w3.cell? ⟨gb169, 4, none⟩ = some (.int .i64 a0_4) := bc BK169.out 4; have hcz10_5 : w3.cell? ⟨gb169, 5, none⟩ = some (.int .i64 a0_5) := bc BK169.out 5; have hfz10_0 := blk_frozen BK169.out 0; have hfz10_1 := blk_frozen BK169.out 1; have hfz10_2 := blk_frozen BK169.out 2; have hfz10_3 := blk_frozen BK169.out 3; have hfz10_4 := blk_frozen BK169.out 4; have hfz10_5 := blk_frozen BK169.out 5; have hcz11_0 : w3.cell? ⟨gb171, 0, none⟩ = some (.int .i64 0) := bc BK171.out 0; have hcz11_1 : w3.cell? ⟨gb171, 1, none⟩ = some (.int .i64 0) := bc BK171.out 1; have hfz11_0 := blk_frozen BK171.out 0; have hfz11_1 := blk_frozen BK171.out 1))
 refine bodyPost_ret (results_cell_row rfl _ _ gb171 83 #[.int .i64 (wrap64 (a1_0 - a0_0)), .int .i64 (wrap64 (a1_1 - a0_1))] (0, 0) _ rfl (by (with_reducible repeat (first | refine blk_drewN ?_ _ | refine blk_drew ?_ | refine blk_alloc ?_ _)); refine blk_put (cs := #[.int .i64 (wrap64 (a1_0 - a0_0)), .int .i64 0]) ?_ 1 _ rfl; (with_reducible repeat (first | refine blk_drewN ?_ _ | refine blk_drew ?_ | refine blk_alloc ?_ _)); refine blk_put (cs := #[.int .i64 0, .int .i64 0]) ?_ 0 _ rfl; (with_reducible repeat (first | refine blk_drewN ?_ _ | refine blk_drew ?_ | refine blk_alloc ?_ _)); exact BK171.out) Try.underlying83 rfl (by kernel_rfl)) rfl ?_
 exact ⟨by first | rfl | (simp [errW_none, errW_some] <;> rfl) | (simp [*, errW_none, errW_some] <;> rfl), by repeat (first | (with_reducible first | exact HB.out | apply below_alloc | apply pw_below_drewN | apply below_drew1 | refine below_set ?_ GE169.out | refine below_set ?_ GE170.out | refine below_set ?_ GE171.out) | exact HB.out)⟩

/-! ### spec_l8Way: function 66 -/
def spec_l8Way.f (a0_0 : Int) (a0_1 : Int) (a0_2 : Int) (a0_3 : Int) (a0_4 : Int) (a0_5 : Int) : Option (Int × Int) := some (a0_2, a0_3)
set_option maxHeartbeats 8000000 in
set_option maxRecDepth 100000 in
theorem spec_l8Way.calls (a0_0 : Int) (a0_1 : Int) (a0_2 : Int) (a0_3 : Int) (a0_4 : Int) (a0_5 : Int) (r1 : Int) (r2 : Int) (w : World) (h : spec_l8Way.f a0_0 a0_1 a0_2 a0_3 a0_4 a0_5 = some (r1, r2)) :
  Calls Try.prog 66 #[.agg #[.int .i64 a0_0, .int .i64 a0_1, .int .i64 a0_2, .int .i64 a0_3, .int .i64 a0_4, .int .i64 a0_5]] w fun e w' => e = .returned (.agg #[.int .i64 r1, .int .i64 r2]) ∧ Below w.heap.size w w' := by
 have hu25 := Try.underlying25
 have hu83 := Try.underlying83
 have HB := Aside0.mk (Below.refl w.heap.size w)
 have H : (some (a0_2, a0_3)) = some (r1, r2) := h
 clear h
 simp only [Option.some.injEq, Prod.mk.injEq] at H
 obtain ⟨rfl, rfl⟩ := H
 go_enter Try.func66, Try.ntmps66
 go_wp2_with (first | ((with_reducible refine gate_dst (N := 1) rfl ?_); refine box_event ?hg (N := 1) ?hd (cs := #[.int .i64 a0_0, .int .i64 a0_1, .int .i64 a0_2, .int .i64 a0_3, .int .i64 a0_4, .int .i64 a0_5]) (t := 25) ?hr ?_; (case hd => rfl); (case hg => rfl); (case hr => first | (go_simp; done) | (go_simp; rfl)); intro gb172 hg w1 hbox hb; have n0_ := Aside0.mk (below_step s5_0 hb); have n1_ := Aside0.mk (hbox); have n2_ := Aside0.mk (ns hg s5_0 : w.heap.size ≤ gb172); have n3_ := Aside0.mk (ns hg s5_0 : w.heap.size ≤ gb172); clear HB; have HB := n0_; have BK172 := n1_; have GW172 := n2_; have GE172 := n3_; clear n0_ n1_ n2_ n3_; clear hb hbox hg) | ((with_reducible refine gate_dst (N := 2) rfl ?_); refine box_event ?hg (N := 2) ?hd (cs := #[.int .i64 0, .int .i64 0]) (t := 83) ?hr ?_; (case hd => rfl); (case hg => rfl); (case hr => first | (go_simp; done) | (go_simp; rfl)); intro gb173 hg w2 hbox hb; have n0_ := Aside0.mk (bb (zk BK172.out) hb); have n1_ := Aside0.mk (below_step (by repeat (first | (with_reducible first | exact HB.out | apply below_alloc | apply pw_below_drewN | apply below_drew1 | refine below_set ?_ GE172.out) | exact HB.out)) hb); have n2_ := Aside0.mk (hbox); have n3_ := Aside0.mk (ns hg (by repeat (first | (with_reducible first | exact HB.out | apply below_alloc | apply pw_below_drewN | apply below_drew1 | refine below_set ?_ GE172.out) | exact HB.out)) : w.heap.size ≤ gb173); have n4_ := Aside0.mk (ns hg (by repeat (first | (with_reducible first | exact HB.out | apply below_alloc | apply pw_below_drewN | apply below_drew1 | refine below_set ?_ GE172.out) | exact HB.out)) : w.heap.size ≤ gb173); have n5_ := Aside0.mk ((nlt hg (zk BK172.out) : gb172 ≠ gb173)); have n6_ := Aside0.mk ((ngt hg (zk BK172.out) : gb173 ≠ gb172)); clear BK172; clear HB; have BK172 := n0_; have HB := n1_; have BK173 := n2_; have GW173 := n3_; have GE173 := n4_; have NB172_173 := n5_; have NB173_172 := n6_; clear n0_ n1_ n2_ n3_ n4_ n5_ n6_; clear hb hbox hg; have hnb4 := NB172_173.out; have hnc4 := NB173_172.out; have hcz5_0 : w2.cell? ⟨gb172, 0, none⟩ = some (.int .i64 a0_0) := bc BK172.out 0; have hcz5_1 : w2.cell? ⟨gb172, 1, none⟩ = some (.int .i64 a0_1) := bc BK172.out 1; have hcz5_2 : w2.cell? ⟨gb172, 2, none⟩ = some (.int .i64 a0_2) := bc BK172.out 2; have hcz5_3 : w2.cell? ⟨gb172, 3, none⟩ = some (.int .i64 a0_3) := bc BK172.out 3; have hcz5_4 : w2.cell? ⟨gb172, 4, none⟩ = some (.int .i64 a0_4) := bc BK172.out 4; have hcz5_5 : w2.cell? ⟨gb172, 5, none⟩ = some (.int .i64 a0_5) := bc BK172.out 5; have hfz5_0 := blk_frozen BK172.out 0; have hfz5_1 := blk_frozen BK172.out 1; have hfz5_2 := blk_frozen BK172.out 2; have hfz5_3 := blk_frozen BK172.out 3; have hfz5_4 := blk_frozen BK172.out 4; have hfz5_5 := blk_frozen BK172.out 5; have hcz6_0 : w2.cell? ⟨gb173, 0, none⟩ = some (.int .i64 0) := bc BK173.out 0; have hcz6_1 : w2.cell? ⟨gb173, 1, none⟩ = some (.int .i64 0) := bc BK173.out 1; have hfz6_0 := blk_frozen BK173.out 0; have hfz6_1 := blk_frozen BK173.out 1))
 refine bodyPost_ret (results_cell_row rfl _ _ gb173 83 #[.int .i64 a0_2, .int .i64 a0_3] (0, 0) _ rfl (by (with_reducible repeat (first | refine blk_drewN ?_ _ | refine blk_drew ?_ | refine blk_alloc ?_ _)); refine blk_put (cs := #[.int .i64 a0_2, .int .i64 0]) ?_ 1 _ rfl; (with_reducible repeat (first | refine blk_drewN ?_ _ | refine blk_drew ?_ | refine blk_alloc ?_ _)); refine blk_put (cs := #[.int .i64 0, .int .i64 0]) ?_ 0 _ rfl; (with_reducible repeat (first | refine blk_drewN ?_ _ | refine blk_drew ?_ | refine blk_alloc ?_ _)); exact BK173.out) Try.underlying83 rfl (by kernel_rfl)) rfl ?_
 exact ⟨by first | rfl | (simp [errW_none, errW_some] <;> rfl) | (simp [*, errW_none, errW_some] <;> rfl), by repeat (first | (with_reducible first | exact HB.out | apply below_alloc | apply pw_below_drewN | apply below_drew1 | refine below_set ?_ GE172.out | refine below_set ?_ GE173.out) | exact HB.out)⟩

/-! ### spec_l8Cross: function 67 -/
def spec_l8Cross.f (a0_0 : Int) (a0_1 : Int) (a1_0 : Int) (a1_1 : Int) : Option (Int) := some (wrap64 ((wrap64 (a0_0 * a1_1)) - (wrap64 (a0_1 * a1_0))))
set_option maxHeartbeats 8000000 in
set_option maxRecDepth 100000 in
theorem spec_l8Cross.calls (a0_0 : Int) (a0_1 : Int) (a1_0 : Int) (a1_1 : Int) (r : Int) (w : World) (h : spec_l8Cross.f a0_0 a0_1 a1_0 a1_1 = some r) :
  Calls Try.prog 67 #[.agg #[.int .i64 a0_0, .int .i64 a0_1], .agg #[.int .i64 a1_0, .int .i64 a1_1]] w fun e w' => e = .returned (.int .i64 r) ∧ Below w.heap.size w w' := by
 have hu83 := Try.underlying83
 have HB := Aside0.mk (Below.refl w.heap.size w)
 have H : (some (wrap64 ((wrap64 (a0_0 * a1_1)) - (wrap64 (a0_1 * a1_0))))) = some r := h
 clear h
 obtain rfl := Option.some.inj H
 go_enter Try.func67, Try.ntmps67
 go_wp2_with (first | ((with_reducible refine gate_dst (N := 2) rfl ?_); refine box_event ?hg (N := 2) ?hd (cs := #[.int .i64 a0_0, .int .i64 a0_1]) (t := 83) ?hr ?_; (case hd => rfl); (case hg => rfl); (case hr => first | (go_simp; done) | (go_simp; rfl)); intro gb174 hg w1 hbox hb; have n0_ := Aside0.mk (below_step s5_0 hb); have n1_ := Aside0.mk (hbox); have n2_ := Aside0.mk (ns hg s5_0 : w.heap.size ≤ gb174); have n3_ := Aside0.mk (ns hg s5_0 : w.heap.size ≤ gb174); clear HB; have HB := n0_; have BK174 := n1_; have GW174 := n2_; have GE174 := n3_; clear n0_ n1_ n2_ n3_; clear hb hbox hg) | ((with_reducible refine gate_dst (N := 3) rfl ?_); refine box_event ?hg (N := 3) ?hd (cs := #[.int .i64 a1_0, .int .i64 a1_1]) (t := 83) ?hr ?_; (case hd => rfl); (case hg => rfl); (case hr => first | (go_simp; done) | (go_simp; rfl)); intro gb175 hg w2 hbox hb; have n0_ := Aside0.mk (bb (zk BK174.out) hb); have n1_ := Aside0.mk (below_step (by repeat (first | (with_reducible first | exact HB.out | apply below_alloc | apply pw_below_drewN | apply below_drew1 | refine below_set ?_ GE174.out) | exact HB.out)) hb); have n2_ := Aside0.mk (hbox); have n3_ := Aside0.mk (ns hg (by repeat (first | (with_reducible first | exact HB.out | apply below_alloc | apply pw_below_drewN | apply below_drew1 | refine below_set ?_ GE174.out) | exact HB.out)) : w.heap.size ≤ gb175); have n4_ := Aside0.mk (ns hg (by repeat (first | (with_reducible first | exact HB.out | apply below_alloc | apply pw_below_drewN | apply below_drew1 | refine below_set ?_ GE174.out) | exact HB.out)) : w.heap.size ≤ gb175); have n5_ := Aside0.mk ((nlt hg (zk BK174.out) : gb174 ≠ gb175)); have n6_ := Aside0.mk ((ngt hg (zk BK174.out) : gb175 ≠ gb174)); clear BK174; clear HB; have BK174 := n0_; have HB := n1_; have BK175 := n2_; have GW175 := n3_; have GE175 := n4_; have NB174_175 := n5_; have NB175_174 := n6_; clear n0_ n1_ n2_ n3_ n4_ n5_ n6_; clear hb hbox hg; have hnb5 := NB174_175.out; have hnc5 := NB175_174.out; have hcz6_0 : w2.cell? ⟨gb174, 0, none⟩ = some (.int .i64 a0_0) := bc BK174.out 0; have hcz6_1 : w2.cell? ⟨gb174, 1, none⟩ = some (.int .i64 a0_1) := bc BK174.out 1; have hfz6_0 := blk_frozen BK174.out 0; have hfz6_1 := blk_frozen BK174.out 1; have hcz7_0 : w2.cell? ⟨gb175, 0, none⟩ = some (.int .i64 a1_0) := bc BK175.out 0; have hcz7_1 : w2.cell? ⟨gb175, 1, none⟩ = some (.int .i64 a1_1) := bc BK175.out 1; have hfz7_0 := blk_frozen BK175.out 0; have hfz7_1 := blk_frozen BK175.out 1))
 go_ret
 exact ⟨by first | rfl | (simp [errW_none, errW_some] <;> rfl) | (simp [*, errW_none, errW_some] <;> rfl), by repeat (first | (with_reducible first | exact HB.out | apply below_alloc | apply pw_below_drewN | apply below_drew1 | refine below_set ?_ GE174.out | refine below_set ?_ GE175.out) | exact HB.out)⟩

/-! ### spec_l8Dot: function 68 -/
def spec_l8Dot.f (a0_0 : Int) (a0_1 : Int) (a1_0 : Int) (a1_1 : Int) : Option (Int) := some (wrap64 ((wrap64 (a0_0 * a1_0)) + (wrap64 (a0_1 * a1_1))))
set_option maxHeartbeats 8000000 in
set_option maxRecDepth 100000 in
theorem spec_l8Dot.calls (a0_0 : Int) (a0_1 : Int) (a1_0 : Int) (a1_1 : Int) (r : Int) (w : World) (h : spec_l8Dot.f a0_0 a0_1 a1_0 a1_1 = some r) :
  Calls Try.prog 68 #[.agg #[.int .i64 a0_0, .int .i64 a0_1], .agg #[.int .i64 a1_0, .int .i64 a1_1]] w fun e w' => e = .returned (.int .i64 r) ∧ Below w.heap.size w w' := by
 have hu83 := Try.underlying83
 have HB := Aside0.mk (Below.refl w.heap.size w)
 have H : (some (wrap64 ((wrap64 (a0_0 * a1_0)) + (wrap64 (a0_1 * a1_1))))) = some r := h
 clear h
 obtain rfl := Option.some.inj H
 go_enter Try.func68, Try.ntmps68
 go_wp2_with (first | ((with_reducible refine gate_dst (N := 2) rfl ?_); refine box_event ?hg (N := 2) ?hd (cs := #[.int .i64 a0_0, .int .i64 a0_1]) (t := 83) ?hr ?_; (case hd => rfl); (case hg => rfl); (case hr => first | (go_simp; done) | (go_simp; rfl)); intro gb176 hg w1 hbox hb; have n0_ := Aside0.mk (below_step s5_0 hb); have n1_ := Aside0.mk (hbox); have n2_ := Aside0.mk (ns hg s5_0 : w.heap.size ≤ gb176); have n3_ := Aside0.mk (ns hg s5_0 : w.heap.size ≤ gb176); clear HB; have HB := n0_; have BK176 := n1_; have GW176 := n2_; have GE176 := n3_; clear n0_ n1_ n2_ n3_; clear hb hbox hg) | ((with_reducible refine gate_dst (N := 3) rfl ?_); refine box_event ?hg (N := 3) ?hd (cs := #[.int .i64 a1_0, .int .i64 a1_1]) (t := 83) ?hr ?_; (case hd => rfl); (case hg => rfl); (case hr => first | (go_simp; done) | (go_simp; rfl)); intro gb177 hg w2 hbox hb; have n0_ := Aside0.mk (bb (zk BK176.out) hb); have n1_ := Aside0.mk (below_step (by repeat (first | (with_reducible first | exact HB.out | apply below_alloc | apply pw_below_drewN | apply below_drew1 | refine below_set ?_ GE176.out) | exact HB.out)) hb); have n2_ := Aside0.mk (hbox); have n3_ := Aside0.mk (ns hg (by repeat (first | (with_reducible first | exact HB.out | apply below_alloc | apply pw_below_drewN | apply below_drew1 | refine below_set ?_ GE176.out) | exact HB.out)) : w.heap.size ≤ gb177); have n4_ := Aside0.mk (ns hg (by repeat (first | (with_reducible first | exact HB.out | apply below_alloc | apply pw_below_drewN | apply below_drew1 | refine below_set ?_ GE176.out) | exact HB.out)) : w.heap.size ≤ gb177); have n5_ := Aside0.mk ((nlt hg (zk BK176.out) : gb176 ≠ gb177)); have n6_ := Aside0.mk ((ngt hg (zk BK176.out) : gb177 ≠ gb176)); clear BK176; clear HB; have BK176 := n0_; have HB := n1_; have BK177 := n2_; have GW177 := n3_; have GE177 := n4_; have NB176_177 := n5_; have NB177_176 := n6_; clear n0_ n1_ n2_ n3_ n4_ n5_ n6_; clear hb hbox hg; have hnb5 := NB176_177.out; have hnc5 := NB177_176.out; have hcz6_0 : w2.cell? ⟨gb176, 0, none⟩ = some (.int .i64 a0_0) := bc BK176.out 0; have hcz6_1 : w2.cell? ⟨gb176, 1, none⟩ = some (.int .i64 a0_1) := bc BK176.out 1; have hfz6_0 := blk_frozen BK176.out 0; have hfz6_1 := blk_frozen BK176.out 1; have hcz7_0 : w2.cell? ⟨gb177, 0, none⟩ = some (.int .i64 a1_0) := bc BK177.out 0; have hcz7_1 : w2.cell? ⟨gb177, 1, none⟩ = some (.int .i64 a1_1) := bc BK177.out 1; have hfz7_0 := blk_frozen BK177.out 0; have hfz7_1 := blk_frozen BK177.out 1))
 go_ret
 exact ⟨by first | rfl | (simp [errW_none, errW_some] <;> rfl) | (simp [*, errW_none, errW_some] <;> rfl), by repeat (first | (with_reducible first | exact HB.out | apply below_alloc | apply pw_below_drewN | apply below_drew1 | refine below_set ?_ GE176.out | refine below_set ?_ GE177.out) | exact HB.out)⟩

/-! ### spec_l8Least: function 69 -/
def spec_l8Least.f (a0 : Int) (a1 : Int) (a2 : Int) (a3 : Int) : Option (Bool) := if (wrap64 ((wrap64 (a1 * (wrap64 (Int.tdiv (wrap64 (a0 * a0)) 1048576)))) + (wrap64 (Int.tdiv (wrap64 (a1 * (Int.tmod (wrap64 (a0 * a0)) 1048576))) 1048576)))) = (wrap64 ((wrap64 (a3 * (wrap64 (Int.tdiv (wrap64 (a2 * a2)) 1048576)))) + (wrap64 (Int.tdiv (wrap64 (a3 * (Int.tmod (wrap64 (a2 * a2)) 1048576))) 1048576)))) then (some (decide ((Int.tmod (wrap64 (a1 * (Int.tmod (wrap64 (a0 * a0)) 1048576))) 1048576) ≤ (Int.tmod (wrap64 (a3 * (Int.tmod (wrap64 (a2 * a2)) 1048576))) 1048576)))) else (some (decide ((wrap64 ((wrap64 (a1 * (wrap64 (Int.tdiv (wrap64 (a0 * a0)) 1048576)))) + (wrap64 (Int.tdiv (wrap64 (a1 * (Int.tmod (wrap64 (a0 * a0)) 1048576))) 1048576)))) < (wrap64 ((wrap64 (a3 * (wrap64 (Int.tdiv (wrap64 (a2 * a2)) 1048576)))) + (wrap64 (Int.tdiv (wrap64 (a3 * (Int.tmod (wrap64 (a2 * a2)) 1048576))) 1048576)))))))
set_option maxHeartbeats 8000000 in
set_option maxRecDepth 100000 in
theorem spec_l8Least.calls (a0 : Int) (a1 : Int) (a2 : Int) (a3 : Int) (r : Bool) (w : World) (h : spec_l8Least.f a0 a1 a2 a3 = some r) :
  Calls Try.prog 69 #[.int .i64 a0, .int .i64 a1, .int .i64 a2, .int .i64 a3] w fun e w' => e = .returned (.bool r) ∧ Drawn0 w w' := by
 have H : (if (wrap64 ((wrap64 (a1 * (wrap64 (Int.tdiv (wrap64 (a0 * a0)) 1048576)))) + (wrap64 (Int.tdiv (wrap64 (a1 * (Int.tmod (wrap64 (a0 * a0)) 1048576))) 1048576)))) = (wrap64 ((wrap64 (a3 * (wrap64 (Int.tdiv (wrap64 (a2 * a2)) 1048576)))) + (wrap64 (Int.tdiv (wrap64 (a3 * (Int.tmod (wrap64 (a2 * a2)) 1048576))) 1048576)))) then (some (decide ((Int.tmod (wrap64 (a1 * (Int.tmod (wrap64 (a0 * a0)) 1048576))) 1048576) ≤ (Int.tmod (wrap64 (a3 * (Int.tmod (wrap64 (a2 * a2)) 1048576))) 1048576)))) else (some (decide ((wrap64 ((wrap64 (a1 * (wrap64 (Int.tdiv (wrap64 (a0 * a0)) 1048576)))) + (wrap64 (Int.tdiv (wrap64 (a1 * (Int.tmod (wrap64 (a0 * a0)) 1048576))) 1048576)))) < (wrap64 ((wrap64 (a3 * (wrap64 (Int.tdiv (wrap64 (a2 * a2)) 1048576)))) + (wrap64 (Int.tdiv (wrap64 (a3 * (Int.tmod (wrap64 (a2 * a2)) 1048576))) 1048576)))))))) = some r := h
 clear h
 by_cases c5 : (wrap64 ((wrap64 (a1 * (wrap64 (Int.tdiv (wrap64 (a0 * a0)) 1048576)))) + (wrap64 (Int.tdiv (wrap64 (a1 * (Int.tmod (wrap64 (a0 * a0)) 1048576))) 1048576)))) = (wrap64 ((wrap64 (a3 * (wrap64 (Int.tdiv (wrap64 (a2 * a2)) 1048576)))) + (wrap64 (Int.tdiv (wrap64 (a3 * (Int.tmod (wrap64 (a2 * a2)) 1048576))) 1048576))))
 ·rw [if_pos c5] at H
  have c5b0 : ((wrap64 ((wrap64 (a1 * (wrap64 (Int.tdiv (wrap64 (a0 * a0)) 1048576)))) + (wrap64 (Int.tdiv (wrap64 (a1 * (Int.tmod (wrap64 (a0 * a0)) 1048576))) 1048576)))) == (wrap64 ((wrap64 (a3 * (wrap64 (Int.tdiv (wrap64 (a2 * a2)) 1048576)))) + (wrap64 (Int.tdiv (wrap64 (a3 * (Int.tmod (wrap64 (a2 * a2)) 1048576))) 1048576))))) = true := beq_iff_eq.mpr c5
  have c5b1 : ((wrap64 ((wrap64 (a1 * (wrap64 (Int.tdiv (wrap64 (a0 * a0)) 1048576)))) + (wrap64 (Int.tdiv (wrap64 (a1 * (Int.tmod (wrap64 (a0 * a0)) 1048576))) 1048576)))) != (wrap64 ((wrap64 (a3 * (wrap64 (Int.tdiv (wrap64 (a2 * a2)) 1048576)))) + (wrap64 (Int.tdiv (wrap64 (a3 * (Int.tmod (wrap64 (a2 * a2)) 1048576))) 1048576))))) = false := bne_eq_false_iff_eq.mpr c5
  clear c5
  obtain rfl := Option.some.inj H
  go_enter Try.func69, Try.ntmps69
  go_wp2
  go_ret
  exact ⟨by first | rfl | (simp; done) | (simp [*]; done), by repeat (first | exact Drawn0.refl _ | apply Drawn0.step)⟩
 ·rw [if_neg c5] at H
  have c5b0 : ((wrap64 ((wrap64 (a1 * (wrap64 (Int.tdiv (wrap64 (a0 * a0)) 1048576)))) + (wrap64 (Int.tdiv (wrap64 (a1 * (Int.tmod (wrap64 (a0 * a0)) 1048576))) 1048576)))) == (wrap64 ((wrap64 (a3 * (wrap64 (Int.tdiv (wrap64 (a2 * a2)) 1048576)))) + (wrap64 (Int.tdiv (wrap64 (a3 * (Int.tmod (wrap64 (a2 * a2)) 1048576))) 1048576))))) = false := beq_eq_false_iff_ne.mpr c5
  have c5b1 : ((wrap64 ((wrap64 (a1 * (wrap64 (Int.tdiv (wrap64 (a0 * a0)) 1048576)))) + (wrap64 (Int.tdiv (wrap64 (a1 * (Int.tmod (wrap64 (a0 * a0)) 1048576))) 1048576)))) != (wrap64 ((wrap64 (a3 * (wrap64 (Int.tdiv (wrap64 (a2 * a2)) 1048576)))) + (wrap64 (Int.tdiv (wrap64 (a3 * (Int.tmod (wrap64 (a2 * a2)) 1048576))) 1048576))))) = true := bne_iff_ne.mpr c5
  obtain rfl := Option.some.inj H
  go_enter Try.func69, Try.ntmps69
  go_wp2
  go_ret
  exact ⟨by first | rfl | (simp; done) | (simp [*]; done), by repeat (first | exact Drawn0.refl _ | apply Drawn0.step)⟩

/-! ### spec_Behind: function 28 -/
def spec_Behind.f (k : Nat) (a0_0 : Int) (a0_1 : Int) (a0_2 : Int) (a0_3 : Int) (a0_4 : Int) (a0_5 : Int) (a1_0 : Int) (a1_1 : Int) (a1_2 : Int) (a1_3 : Int) (a1_4 : Int) (a1_5 : Int) : Option (Bool) := (spec_ShipOk.f a0_0 a0_1 a0_2 a0_3 a0_4 a0_5).bind fun s1 => (spec_ShipOk.f a1_0 a1_1 a1_2 a1_3 a1_4 a1_5).bind fun s2 => (spec_l8Bearing.f a1_0 a1_1 a1_2 a1_3 a1_4 a1_5 a0_0 a0_1 a0_2 a0_3 a0_4 a0_5).bind fun b => (spec_l8Cross.f b.1 b.2 a1_2 a1_3).bind fun c => (spec_l8Dot.f b.1 b.2 a1_2 a1_3).bind fun d => (spec_l8Least.f c 5 d 29).bind fun le => some (s1 && s2 && (decide (d < 0) && le))
theorem spec_Behind.mono : ∀ a0_0 a0_1 a0_2 a0_3 a0_4 a0_5 a1_0 a1_1 a1_2 a1_3 a1_4 a1_5 k, LeO (spec_Behind.f k a0_0 a0_1 a0_2 a0_3 a0_4 a0_5 a1_0 a1_1 a1_2 a1_3 a1_4 a1_5) (spec_Behind.f (k + 1) a0_0 a0_1 a0_2 a0_3 a0_4 a0_5 a1_0 a1_1 a1_2 a1_3 a1_4 a1_5) := fun _ _ _ _ _ _ _ _ _ _ _ _ _ => LeO.refl _
theorem spec_Behind.calls (k : Nat) (a0_0 : Int) (a0_1 : Int) (a0_2 : Int) (a0_3 : Int) (a0_4 : Int) (a0_5 : Int) (a1_0 : Int) (a1_1 : Int) (a1_2 : Int) (a1_3 : Int) (a1_4 : Int) (a1_5 : Int) (r : Bool) (w : World) (h : spec_Behind.f k a0_0 a0_1 a0_2 a0_3 a0_4 a0_5 a1_0 a1_1 a1_2 a1_3 a1_4 a1_5 = some r) :
  Calls Try.prog 28 #[.agg #[.int .i64 a0_0, .int .i64 a0_1, .int .i64 a0_2, .int .i64 a0_3, .int .i64 a0_4, .int .i64 a0_5], .agg #[.int .i64 a1_0, .int .i64 a1_1, .int .i64 a1_2, .int .i64 a1_3, .int .i64 a1_4, .int .i64 a1_5]] w fun e w' => e = .returned (.bool r) ∧ Below w.heap.size w w' := by
 unfold spec_Behind.f at h
 obtain ⟨s1, e0, h⟩ := Option.bind_eq_some_iff.mp h
 obtain ⟨s2, e1, h⟩ := Option.bind_eq_some_iff.mp h
 obtain ⟨b, e2, h⟩ := Option.bind_eq_some_iff.mp h
 obtain ⟨c, e3, h⟩ := Option.bind_eq_some_iff.mp h
 obtain ⟨d, e4, h⟩ := Option.bind_eq_some_iff.mp h
 obtain ⟨le, e5, h⟩ := Option.bind_eq_some_iff.mp h
 obtain rfl := Option.some.inj h
 exact Ah.behind_any a0_0 a0_1 a0_2 a0_3 a0_4 a0_5 a1_0 a1_1 a1_2 a1_3 a1_4 a1_5 b.1 b.2 d c s1 s2 le w (fun W => spec_ShipOk.calls a0_0 a0_1 a0_2 a0_3 a0_4 a0_5 s1 W e0) (fun W => spec_ShipOk.calls a1_0 a1_1 a1_2 a1_3 a1_4 a1_5 s2 W e1) (fun W => spec_l8Bearing.calls a1_0 a1_1 a1_2 a1_3 a1_4 a1_5 a0_0 a0_1 a0_2 a0_3 a0_4 a0_5 b.1 b.2 W e2) (fun W => spec_l8Way.calls a1_0 a1_1 a1_2 a1_3 a1_4 a1_5 a1_2 a1_3 W rfl) (fun W => spec_l8Cross.calls b.1 b.2 a1_2 a1_3 c W e3) (fun W => spec_l8Dot.calls b.1 b.2 a1_2 a1_3 d W e4) (fun W => (spec_l8Least.calls c 5 d 29 le W e5).mono fun _ _ q => ⟨q.1, q.2.below⟩)

/-! ### spec_l8Ahead: function 75 -/
def spec_l8Ahead.f (a0_0 : Int) (a0_1 : Int) (a0_2 : Int) (a0_3 : Int) (a0_4 : Int) (a0_5 : Int) (a1_0 : Int) (a1_1 : Int) (a1_2 : Int) (a1_3 : Int) (a1_4 : Int) (a1_5 : Int) : Option (Bool) := (spec_l8Bearing.f a0_0 a0_1 a0_2 a0_3 a0_4 a0_5 a1_0 a1_1 a1_2 a1_3 a1_4 a1_5).bind fun b => (spec_l8Dot.f b.1 b.2 a0_2 a0_3).bind fun d => (spec_l8Cross.f b.1 b.2 a0_2 a0_3).bind fun c => (spec_l8Least.f c 100 d 1).bind fun le => some (decide (d > 0) && le)
theorem spec_l8Ahead.calls (a0_0 : Int) (a0_1 : Int) (a0_2 : Int) (a0_3 : Int) (a0_4 : Int) (a0_5 : Int) (a1_0 : Int) (a1_1 : Int) (a1_2 : Int) (a1_3 : Int) (a1_4 : Int) (a1_5 : Int) (r : Bool) (w : World) (h : spec_l8Ahead.f a0_0 a0_1 a0_2 a0_3 a0_4 a0_5 a1_0 a1_1 a1_2 a1_3 a1_4 a1_5 = some r) :
  Calls Try.prog 75 #[.agg #[.int .i64 a0_0, .int .i64 a0_1, .int .i64 a0_2, .int .i64 a0_3, .int .i64 a0_4, .int .i64 a0_5], .agg #[.int .i64 a1_0, .int .i64 a1_1, .int .i64 a1_2, .int .i64 a1_3, .int .i64 a1_4, .int .i64 a1_5]] w fun e w' => e = .returned (.bool r) ∧ Below w.heap.size w w' := by
 unfold spec_l8Ahead.f at h
 obtain ⟨b, e0, h⟩ := Option.bind_eq_some_iff.mp h
 obtain ⟨d, e1, h⟩ := Option.bind_eq_some_iff.mp h
 obtain ⟨c, e2, h⟩ := Option.bind_eq_some_iff.mp h
 obtain ⟨le, e3, h⟩ := Option.bind_eq_some_iff.mp h
 obtain rfl := Option.some.inj h
 exact Ah.ahead_any a0_0 a0_1 a0_2 a0_3 a0_4 a0_5 a1_0 a1_1 a1_2 a1_3 a1_4 a1_5 b.1 b.2 d c le w (fun W => spec_l8Bearing.calls a0_0 a0_1 a0_2 a0_3 a0_4 a0_5 a1_0 a1_1 a1_2 a1_3 a1_4 a1_5 b.1 b.2 W e0) (fun W => spec_l8Way.calls a0_0 a0_1 a0_2 a0_3 a0_4 a0_5 a0_2 a0_3 W rfl) (fun W => spec_l8Dot.calls b.1 b.2 a0_2 a0_3 d W e1) (fun W => spec_l8Cross.calls b.1 b.2 a0_2 a0_3 c W e2) (fun W => (spec_l8Least.calls c 100 d 1 le W e3).mono fun _ _ q => ⟨q.1, q.2.below⟩)

/-! ### spec_HeadOn: function 30 -/
def spec_HeadOn.f (k : Nat) (a0_0 : Int) (a0_1 : Int) (a0_2 : Int) (a0_3 : Int) (a0_4 : Int) (a0_5 : Int) (a1_0 : Int) (a1_1 : Int) (a1_2 : Int) (a1_3 : Int) (a1_4 : Int) (a1_5 : Int) : Option (Bool) := (spec_ShipOk.f a0_0 a0_1 a0_2 a0_3 a0_4 a0_5).bind fun s1 => (spec_ShipOk.f a1_0 a1_1 a1_2 a1_3 a1_4 a1_5).bind fun s2 => (spec_l8Dot.f a0_2 a0_3 a1_2 a1_3).bind fun d => (spec_l8Cross.f a0_2 a0_3 a1_2 a1_3).bind fun c => (spec_l8Least.f c 100 d 1).bind fun le => (spec_l8Ahead.f a0_0 a0_1 a0_2 a0_3 a0_4 a0_5 a1_0 a1_1 a1_2 a1_3 a1_4 a1_5).bind fun h1 => (spec_l8Ahead.f a1_0 a1_1 a1_2 a1_3 a1_4 a1_5 a0_0 a0_1 a0_2 a0_3 a0_4 a0_5).bind fun h2 => some (s1 && s2 && (decide (d < 0) && le && h1 && h2))
theorem spec_HeadOn.mono : ∀ a0_0 a0_1 a0_2 a0_3 a0_4 a0_5 a1_0 a1_1 a1_2 a1_3 a1_4 a1_5 k, LeO (spec_HeadOn.f k a0_0 a0_1 a0_2 a0_3 a0_4 a0_5 a1_0 a1_1 a1_2 a1_3 a1_4 a1_5) (spec_HeadOn.f (k + 1) a0_0 a0_1 a0_2 a0_3 a0_4 a0_5 a1_0 a1_1 a1_2 a1_3 a1_4 a1_5) := fun _ _ _ _ _ _ _ _ _ _ _ _ _ => LeO.refl _
theorem spec_HeadOn.calls (k : Nat) (a0_0 : Int) (a0_1 : Int) (a0_2 : Int) (a0_3 : Int) (a0_4 : Int) (a0_5 : Int) (a1_0 : Int) (a1_1 : Int) (a1_2 : Int) (a1_3 : Int) (a1_4 : Int) (a1_5 : Int) (r : Bool) (w : World) (h : spec_HeadOn.f k a0_0 a0_1 a0_2 a0_3 a0_4 a0_5 a1_0 a1_1 a1_2 a1_3 a1_4 a1_5 = some r) :
  Calls Try.prog 30 #[.agg #[.int .i64 a0_0, .int .i64 a0_1, .int .i64 a0_2, .int .i64 a0_3, .int .i64 a0_4, .int .i64 a0_5], .agg #[.int .i64 a1_0, .int .i64 a1_1, .int .i64 a1_2, .int .i64 a1_3, .int .i64 a1_4, .int .i64 a1_5]] w fun e w' => e = .returned (.bool r) ∧ Below w.heap.size w w' := by
 unfold spec_HeadOn.f at h
 obtain ⟨s1, e0, h⟩ := Option.bind_eq_some_iff.mp h
 obtain ⟨s2, e1, h⟩ := Option.bind_eq_some_iff.mp h
 obtain ⟨d, e2, h⟩ := Option.bind_eq_some_iff.mp h
 obtain ⟨c, e3, h⟩ := Option.bind_eq_some_iff.mp h
 obtain ⟨le, e4, h⟩ := Option.bind_eq_some_iff.mp h
 obtain ⟨h1, e5, h⟩ := Option.bind_eq_some_iff.mp h
 obtain ⟨h2, e6, h⟩ := Option.bind_eq_some_iff.mp h
 obtain rfl := Option.some.inj h
 exact Ai.headon_any a0_0 a0_1 a0_2 a0_3 a0_4 a0_5 a1_0 a1_1 a1_2 a1_3 a1_4 a1_5 d c s1 s2 le h1 h2 w (fun W => spec_ShipOk.calls a0_0 a0_1 a0_2 a0_3 a0_4 a0_5 s1 W e0) (fun W => spec_ShipOk.calls a1_0 a1_1 a1_2 a1_3 a1_4 a1_5 s2 W e1) (fun W => spec_l8Way.calls a0_0 a0_1 a0_2 a0_3 a0_4 a0_5 a0_2 a0_3 W rfl) (fun W => spec_l8Way.calls a1_0 a1_1 a1_2 a1_3 a1_4 a1_5 a1_2 a1_3 W rfl) (fun W => spec_l8Dot.calls a0_2 a0_3 a1_2 a1_3 d W e2) (fun W => spec_l8Cross.calls a0_2 a0_3 a1_2 a1_3 c W e3) (fun W => (spec_l8Least.calls c 100 d 1 le W e4).mono fun _ _ q => ⟨q.1, q.2.below⟩) (fun W => spec_l8Ahead.calls a0_0 a0_1 a0_2 a0_3 a0_4 a0_5 a1_0 a1_1 a1_2 a1_3 a1_4 a1_5 h1 W e5) (fun W => spec_l8Ahead.calls a1_0 a1_1 a1_2 a1_3 a1_4 a1_5 a0_0 a0_1 a0_2 a0_3 a0_4 a0_5 h2 W e6)

/-! ### spec_l8Diff: function 80 -/
def spec_l8Diff.f (a0_0 : Int) (a0_1 : Int) (a0_2 : Int) (a0_3 : Int) (a0_4 : Int) (a0_5 : Int) (a1_0 : Int) (a1_1 : Int) (a1_2 : Int) (a1_3 : Int) (a1_4 : Int) (a1_5 : Int) : Option (Int × Int) := some (wrap64 (a1_2 - a0_2), wrap64 (a1_3 - a0_3))
set_option maxHeartbeats 8000000 in
set_option maxRecDepth 100000 in
theorem spec_l8Diff.calls (a0_0 : Int) (a0_1 : Int) (a0_2 : Int) (a0_3 : Int) (a0_4 : Int) (a0_5 : Int) (a1_0 : Int) (a1_1 : Int) (a1_2 : Int) (a1_3 : Int) (a1_4 : Int) (a1_5 : Int) (r1 : Int) (r2 : Int) (w : World) (h : spec_l8Diff.f a0_0 a0_1 a0_2 a0_3 a0_4 a0_5 a1_0 a1_1 a1_2 a1_3 a1_4 a1_5 = some (r1, r2)) :
  Calls Try.prog 80 #[.agg #[.int .i64 a0_0, .int .i64 a0_1, .int .i64 a0_2, .int .i64 a0_3, .int .i64 a0_4, .int .i64 a0_5], .agg #[.int .i64 a1_0, .int .i64 a1_1, .int .i64 a1_2, .int .i64 a1_3, .int .i64 a1_4, .int .i64 a1_5]] w fun e w' => e = .returned (.agg #[.int .i64 r1, .int .i64 r2]) ∧ Below w.heap.size w w' := by
 have hu25 := Try.underlying25
 have hu83 := Try.underlying83
 have HB := Aside0.mk (Below.refl w.heap.size w)
 have H : (some (wrap64 (a1_2 - a0_2), wrap64 (a1_3 - a0_3))) = some (r1, r2) := h
 clear h
 simp only [Option.some.injEq, Prod.mk.injEq] at H
 obtain ⟨rfl, rfl⟩ := H
 go_enter Try.func80, Try.ntmps80
 go_wp2_with (first | ((with_reducible refine gate_dst (N := 2) rfl ?_); refine box_event ?hg (N := 2) ?hd (cs := #[.int .i64 a0_0, .int .i64 a0_1, .int .i64 a0_2, .int .i64 a0_3, .int .i64 a0_4, .int .i64 a0_5]) (t := 25) ?hr ?_; (case hd => rfl); (case hg => rfl); (case hr => first | (go_simp; done) | (go_simp; rfl)); intro gb178 hg w1 hbox hb; have n0_ := Aside0.mk (below_step s5_0 hb); have n1_ := Aside0.mk (hbox); have n2_ := Aside0.mk (ns hg s5_0 : w.heap.size ≤ gb178); have n3_ := Aside0.mk (ns hg s5_0 : w.heap.size ≤ gb178); clear HB; have HB := n0_; have BK178 := n1_; have GW178 := n2_; have GE178 := n3_; clear n0_ n1_ n2_ n3_; clear hb hbox hg) | ((with_reducible refine gate_dst (N := 3) rfl ?_); refine box_event ?hg (N := 3) ?hd (cs := #[.int .i64 a1_0, .int .i64 a1_1, .int .i64 a1_2, .int .i64 a1_3, .int .i64 a1_4, .int .i64 a1_5]) (t := 25) ?hr ?_; (case hd => rfl); (case hg => rfl); (case hr => first | (go_simp; done) | (go_simp; rfl)); intro gb179 hg w2 hbox hb; have n0_ := Aside0.mk (bb (zk BK178.out) hb); have n1_ := Aside0.mk (below_step (by repeat (first | (with_reducible first | exact HB.out | apply below_alloc | apply pw_below_drewN | apply below_drew1 | refine below_set ?_ GE178.out) | exact HB.out)) hb); have n2_ := Aside0.mk (hbox); have n3_ := Aside0.mk (ns hg (by repeat (first | (with_reducible first | exact HB.out | apply below_alloc | apply pw_below_drewN | apply below_drew1 | refine below_set ?_ GE178.out) | exact HB.out)) : w.heap.size ≤ gb179); have n4_ := Aside0.mk (ns hg (by repeat (first | (with_reducible first | exact HB.out | apply below_alloc | apply pw_below_drewN | apply below_drew1 | refine below_set ?_ GE178.out) | exact HB.out)) : w.heap.size ≤ gb179); have n5_ := Aside0.mk ((nlt hg (zk BK178.out) : gb178 ≠ gb179)); have n6_ := Aside0.mk ((ngt hg (zk BK178.out) : gb179 ≠ gb178)); clear BK178; clear HB; have BK178 := n0_; have HB := n1_; have BK179 := n2_; have GW179 := n3_; have GE179 := n4_; have NB178_179 := n5_; have NB179_178 := n6_; clear n0_ n1_ n2_ n3_ n4_ n5_ n6_; clear hb hbox hg) | ((with_reducible refine gate_dst (N := 4) rfl ?_); refine box_event ?hg (N := 4) ?hd (cs := #[.int .i64 0, .int .i64 0]) (t := 83) ?hr ?_; (case hd => rfl); (case hg => rfl); (case hr => first | (go_simp; done) | (go_simp; rfl)); intro gb180 hg w3 hbox hb; have n0_ := Aside0.mk (bb (zk BK178.out) hb); have n1_ := Aside0.mk (bb (zk BK179.out) hb); have n2_ := Aside0.mk (below_step s5_3 hb); have n3_ := Aside0.mk (hbox); have n4_ := Aside0.mk (ns hg s5_3 : w.heap.size ≤ gb180); have n5_ := Aside0.mk (ns hg s5_3 : w.heap.size ≤ gb180); have n6_ := Aside0.mk ((nlt hg (zk BK178.out) : gb178 ≠ gb180)); have n7_ := Aside0.mk ((ngt hg (zk BK178.out) : gb180 ≠ gb178)); have n8_ := Aside0.mk ((nlt hg (zk BK179.out) : gb179 ≠ gb180)); have n9_ := Aside0.mk ((ngt hg (zk BK179.out) : gb180 ≠ gb179)); clear BK178; clear BK179; clear HB; have BK178 := n0_; have BK179 := n1_; have HB := n2_; have BK180 := n3_; have GW180 := n4_; have GE180 := n5_; have NB178_180 := n6_; have NB180_178 := n7_; have NB179_180 := n8_; have NB180_179 := n9_; clear n0_ n1_ n2_ n3_ n4_ n5_ n6_ n7_ n8_ n9_; clear hb hbox hg; have hnb6 := NB179_178.out; have hnc6 := NB178_179.out; have hnb7 := NB179_180.out; have hnc7 := NB180_179.out; have hcz8_0 : w3.cell? ⟨gb179, 0, none⟩ = some (.int .i64 a1_0) := bc BK179.out 0; have hcz8_1 : w3.cell? ⟨gb179, 1, none⟩ = some (.int .i64 a1_1) := bc BK179.out 1; have hcz8_2 : w3.cell? ⟨gb179, 2, none⟩ = some (.int .i64 a1_2) := bc BK179.out 2; have hcz8_3 : w3.cell? ⟨gb179, 3, none⟩ = some (.int .i64 a1_3) := bc BK179.out 3; have hcz8_4 : w3.cell? ⟨gb179, 4, none⟩ = some (.int .i64 a1_4) := bc BK179.out 4; have hcz8_5 : w3.cell? ⟨gb179, 5, none⟩ = some (.int .i64 a1_5) := bc BK179.out 5; have hfz8_0 := blk_frozen BK179.out 0; have hfz8_1 := blk_frozen BK179.out 1; have hfz8_2 := blk_frozen BK179.out 2; have hfz8_3 := blk_frozen BK179.out 3; have hfz8_4 := blk_frozen BK179.out 4; have hfz8_5 := blk_frozen BK179.out 5; have hnb9 := NB178_180.out; have hnc9 := NB180_178.out; have hcz10_0 : w3.cell? ⟨gb178, 0, none⟩ = some (.int .i64 a0_0) := bc BK178.out 0; have hcz10_1 : w3.cell? ⟨gb178, 1, none⟩ = some (.int .i64 a0_1) := bc BK178.out 1; have hcz10_2 : w3.cell? ⟨gb178, 2, none⟩ = some (.int .i64 a0_2) := bc BK178.out 2; have hcz10_3 : w3.cell? ⟨gb178, 3, none⟩ = some (.int .i64 a0_3) := bc BK178.out 3; have hcz10_4 : w3.cell? ⟨gb178, 4, none⟩ = some (.int .i64 a0_4) := bc BK178.out 4; have hcz10_5 : w3.cell? ⟨gb178, 5, none⟩ = some (.int .i64 a0_5) := bc BK178.out 5; have hfz10_0 := blk_frozen BK178.out 0; have hfz10_1 := blk_frozen BK178.out 1; have hfz10_2 := blk_frozen BK178.out 2; have hfz10_3 := blk_frozen BK178.out 3; have hfz10_4 := blk_frozen BK178.out 4; have hfz10_5 := blk_frozen BK178.out 5; have hcz11_0 : w3.cell? ⟨gb180, 0, none⟩ = some (.int .i64 0) := bc BK180.out 0; have hcz11_1 : w3.cell? ⟨gb180, 1, none⟩ = some (.int .i64 0) := bc BK180.out 1; have hfz11_0 := blk_frozen BK180.out 0; have hfz11_1 := blk_frozen BK180.out 1))
 refine bodyPost_ret (results_cell_row rfl _ _ gb180 83 #[.int .i64 (wrap64 (a1_2 - a0_2)), .int .i64 (wrap64 (a1_3 - a0_3))] (0, 0) _ rfl (by (with_reducible repeat (first | refine blk_drewN ?_ _ | refine blk_drew ?_ | refine blk_alloc ?_ _)); refine blk_put (cs := #[.int .i64 (wrap64 (a1_2 - a0_2)), .int .i64 0]) ?_ 1 _ rfl; (with_reducible repeat (first | refine blk_drewN ?_ _ | refine blk_drew ?_ | refine blk_alloc ?_ _)); refine blk_put (cs := #[.int .i64 0, .int .i64 0]) ?_ 0 _ rfl; (with_reducible repeat (first | refine blk_drewN ?_ _ | refine blk_drew ?_ | refine blk_alloc ?_ _)); exact BK180.out) Try.underlying83 rfl (by kernel_rfl)) rfl ?_
 exact ⟨by first | rfl | (simp [errW_none, errW_some] <;> rfl) | (simp [*, errW_none, errW_some] <;> rfl), by repeat (first | (with_reducible first | exact HB.out | apply below_alloc | apply pw_below_drewN | apply below_drew1 | refine below_set ?_ GE178.out | refine below_set ?_ GE179.out | refine below_set ?_ GE180.out) | exact HB.out)⟩

/-! ### spec_l8Right: function 87 -/
def spec_l8Right.f (a0_0 : Int) (a0_1 : Int) (a0_2 : Int) (a0_3 : Int) (a0_4 : Int) (a0_5 : Int) (a1_0 : Int) (a1_1 : Int) (a1_2 : Int) (a1_3 : Int) (a1_4 : Int) (a1_5 : Int) : Option (Bool) := (spec_l8Way.f a0_0 a0_1 a0_2 a0_3 a0_4 a0_5).bind fun bt183 => ((spec_l8Bearing.f a0_0 a0_1 a0_2 a0_3 a0_4 a0_5 a1_0 a1_1 a1_2 a1_3 a1_4 a1_5).bind fun bt185 => ((spec_l8Cross.f bt183.1 bt183.2 bt185.1 bt185.2).bind fun t187 => (some (decide (t187 < 0)))))
def spec_l8Right.T1 : Bool × List (List Nat × List Nat) := (true, [([], []), ([0], [0]), ([], []), ([], []), ([2, 3, 1], [2, 3]), ([1, 4, 4], [1, 4]), ([5], [5]), ([6, 5, 0, 1, 2, 3, 4, 5, 6], [6])])
def spec_l8Right.B1 : List Nat := [0, 1, 0, 0, 15, 31, 63, 127]
theorem spec_l8Right.tab1 : rtab .any (opsOf Try.f87 1) = spec_l8Right.T1 := by kernel_rfl
theorem spec_l8Right.bits1 : waitsOk spec_l8Right.T1.2 spec_l8Right.B1 = true := by kernel_rfl
set_option maxHeartbeats 8000000 in
set_option maxRecDepth 100000 in
theorem spec_l8Right.calls (a0_0 : Int) (a0_1 : Int) (a0_2 : Int) (a0_3 : Int) (a0_4 : Int) (a0_5 : Int) (a1_0 : Int) (a1_1 : Int) (a1_2 : Int) (a1_3 : Int) (a1_4 : Int) (a1_5 : Int) (r : Bool) (w : World) (h : spec_l8Right.f a0_0 a0_1 a0_2 a0_3 a0_4 a0_5 a1_0 a1_1 a1_2 a1_3 a1_4 a1_5 = some r) :
  Calls Try.prog 87 #[.agg #[.int .i64 a0_0, .int .i64 a0_1, .int .i64 a0_2, .int .i64 a0_3, .int .i64 a0_4, .int .i64 a0_5], .agg #[.int .i64 a1_0, .int .i64 a1_1, .int .i64 a1_2, .int .i64 a1_3, .int .i64 a1_4, .int .i64 a1_5]] w fun e w' => e = .returned (.bool r) ∧ Below w.heap.size w w' := by
 have hu25 := Try.underlying25
 have HB := Aside0.mk (Below.refl w.heap.size w)
 have H : ((spec_l8Way.f a0_0 a0_1 a0_2 a0_3 a0_4 a0_5).bind fun bt183 => ((spec_l8Bearing.f a0_0 a0_1 a0_2 a0_3 a0_4 a0_5 a1_0 a1_1 a1_2 a1_3 a1_4 a1_5).bind fun bt185 => ((spec_l8Cross.f bt183.1 bt183.2 bt185.1 bt185.2).bind fun t187 => (some (decide (t187 < 0)))))) = some r := h
 clear h
 replace H := Option.bind_eq_some_iff.mp H
 obtain ⟨⟨t183, t184⟩, A30, H⟩ := H
 replace H : ((spec_l8Bearing.f a0_0 a0_1 a0_2 a0_3 a0_4 a0_5 a1_0 a1_1 a1_2 a1_3 a1_4 a1_5).bind fun bt185 => ((spec_l8Cross.f t183 t184 bt185.1 bt185.2).bind fun t187 => (some (decide (t187 < 0))))) = some r := H
 have A3 := Aside0.mk A30
 clear A30
 replace H := Option.bind_eq_some_iff.mp H
 obtain ⟨⟨t185, t186⟩, A40, H⟩ := H
 replace H : ((spec_l8Cross.f t183 t184 t185 t186).bind fun t187 => (some (decide (t187 < 0)))) = some r := H
 have A4 := Aside0.mk A40
 clear A40
 replace H := Option.bind_eq_some_iff.mp H
 obtain ⟨t187, A50, H⟩ := H
 replace H : (some (decide (t187 < 0))) = some r := H
 have A5 := Aside0.mk A50
 clear A50
 obtain rfl := Option.some.inj H
 go_enter Try.func87, Try.ntmps87
 try go_wp2_with (first | ((with_reducible refine gate_dst (N := 2) rfl ?_); refine box_event ?hg (N := 2) ?hd (cs := #[.int .i64 a0_0, .int .i64 a0_1, .int .i64 a0_2, .int .i64 a0_3, .int .i64 a0_4, .int .i64 a0_5]) (t := 25) ?hr ?_; (case hd => rfl); (case hg => rfl); (case hr => first | (go_simp; done) | (go_simp; rfl)); intro gb181 hg w1 hbox hb; have n0_ := Aside0.mk (below_step s5_0 hb); have n1_ := Aside0.mk (hbox); have n2_ := Aside0.mk (ns hg s5_0 : w.heap.size ≤ gb181); have n3_ := Aside0.mk (ns hg s5_0 : w.heap.size ≤ gb181); clear HB; have HB := n0_; have BK181 := n1_; have GW181 := n2_; have GE181 := n3_; clear n0_ n1_ n2_ n3_; clear hb hbox hg) | ((with_reducible refine gate_dst (N := 3) rfl ?_); refine box_event ?hg (N := 3) ?hd (cs := #[.int .i64 a1_0, .int .i64 a1_1, .int .i64 a1_2, .int .i64 a1_3, .int .i64 a1_4, .int .i64 a1_5]) (t := 25) ?hr ?_; (case hd => rfl); (case hg => rfl); (case hr => first | (go_simp; done) | (go_simp; rfl)); intro gb182 hg w2 hbox hb; have n0_ := Aside0.mk (bb (zk BK181.out) hb); have n1_ := Aside0.mk (below_step (by repeat (first | (with_reducible first | exact HB.out | apply below_alloc | apply pw_below_drewN | apply below_drew1 | refine below_set ?_ GE181.out) | exact HB.out)) hb); have n2_ := Aside0.mk (hbox); have n3_ := Aside0.mk (ns hg (by repeat (first | (with_reducible first | exact HB.out | apply below_alloc | apply pw_below_drewN | apply below_drew1 | refine below_set ?_ GE181.out) | exact HB.out)) : w.heap.size ≤ gb182); have n4_ := Aside0.mk (ns hg (by repeat (first | (with_reducible first | exact HB.out | apply below_alloc | apply pw_below_drewN | apply below_drew1 | refine below_set ?_ GE181.out) | exact HB.out)) : w.heap.size ≤ gb182); have n5_ := Aside0.mk ((nlt hg (zk BK181.out) : gb181 ≠ gb182)); have n6_ := Aside0.mk ((ngt hg (zk BK181.out) : gb182 ≠ gb181)); clear BK181; clear HB; have BK181 := n0_; have HB := n1_; have BK182 := n2_; have GW182 := n3_; have GE182 := n4_; have NB181_182 := n5_; have NB182_181 := n6_; clear n0_ n1_ n2_ n3_ n4_ n5_ n6_; clear hb hbox hg))
 have n0_ := Aside0.mk (blk_drew BK181.out)
 have n1_ := Aside0.mk (blk_drew BK182.out)
 have n2_ := Aside0.mk (below_drew1 HB.out)
 clear BK181 BK182 HB
 have BK181 := n0_
 have BK182 := n1_
 have HB := n2_
 clear n0_ n1_ n2_
 refine start_ (n := 8) (S := fun w' => w'.cell? ⟨gb181, 0, none⟩ = some (.int .i64 a0_0) ∧ w'.cell? ⟨gb181, 1, none⟩ = some (.int .i64 a0_1) ∧ w'.cell? ⟨gb181, 2, none⟩ = some (.int .i64 a0_2) ∧ w'.cell? ⟨gb181, 3, none⟩ = some (.int .i64 a0_3) ∧ w'.cell? ⟨gb181, 4, none⟩ = some (.int .i64 a0_4) ∧ w'.cell? ⟨gb181, 5, none⟩ = some (.int .i64 a0_5) ∧ w'.cell? ⟨gb182, 0, none⟩ = some (.int .i64 a1_0) ∧ w'.cell? ⟨gb182, 1, none⟩ = some (.int .i64 a1_1) ∧ w'.cell? ⟨gb182, 2, none⟩ = some (.int .i64 a1_2) ∧ w'.cell? ⟨gb182, 3, none⟩ = some (.int .i64 a1_3) ∧ w'.cell? ⟨gb182, 4, none⟩ = some (.int .i64 a1_4) ∧ w'.cell? ⟨gb182, 5, none⟩ = some (.int .i64 a1_5)) (ds := []) #[false, false, false, false, false, false, false, false] (by kernel_rfl) rfl rfl ⟨bc BK181.out 0, bc BK181.out 1, bc BK181.out 2, bc BK181.out 3, bc BK181.out 4, bc BK181.out 5, bc BK182.out 0, bc BK182.out 1, bc BK182.out 2, bc BK182.out 3, bc BK182.out 4, bc BK182.out 5⟩ (fun hHeld => ?_); refine with_tabW spec_l8Right.tab1 spec_l8Right.bits1 (fun HT_ HW_ => ?_)
 generalize w2.drew = w3 at BK181 BK182 HB hHeld ⊢
 refine take_ (i := 0) (N := some 5) (v := ?_) (a' := ?_) (bz 8 1) rfl rfl (take_ofW HT_.out HW_.out (by kernel_rfl)) (fun _ _ _ h => h) (Or.inl ⟨by rfl, ?_⟩) hHeld ?_ ?_
 rotate_left
 ·rintro w' ⟨s0, s1, s2, s3, s4, s5, s6, s7, s8, s9, s10, s11⟩
  go_simp
  with_reducible rfl
 rotate_left
 ·simp only [Act.put, y1, y2, y3, i64_w, i32_w]
  rfl
 refine take_ (i := 2) (N := some 7) (v := ?_) (a' := ?_) (bz 8 5) rfl rfl (take_ofW HT_.out HW_.out (by kernel_rfl)) (fun _ _ _ h => h) (Or.inl ⟨by rfl, ?_⟩) hHeld ?_ ?_
 rotate_left
 ·rintro w' ⟨s0, s1, s2, s3, s4, s5, s6, s7, s8, s9, s10, s11⟩
  go_simp
  with_reducible rfl
 rotate_left
 ·simp only [Act.put, y1, y2, y3, i64_w, i32_w]
  rfl
 refine take_ (i := 3) (N := some 8) (v := ?_) (a' := ?_) (bz 8 13) rfl rfl (take_ofW HT_.out HW_.out (by kernel_rfl)) (fun _ _ _ h => h) (Or.inl ⟨by rfl, ?_⟩) hHeld ?_ ?_
 rotate_left
 ·rintro w' ⟨s0, s1, s2, s3, s4, s5, s6, s7, s8, s9, s10, s11⟩
  go_simp
  with_reducible rfl
 rotate_left
 ·simp only [Act.put, y1, y2, y3, i64_w, i32_w]
  rfl
 refine one_ (i := 1) (N := some 6) (bz 8 15) rfl rfl (one_of HT_.out (by kernel_rfl)) (by decide) (fun K hK => ?_)
 refine goes_ Try.func66 (by kernel_rfl) rfl #[.agg #[.int .i64 a0_0, .int .i64 a0_1, .int .i64 a0_2, .int .i64 a0_3, .int .i64 a0_4, .int .i64 a0_5]] (by rfl) rfl rfl s5_1 ?_
 with_reducible refine (spec_l8Way.calls a0_0 a0_1 a0_2 a0_3 a0_4 a0_5 t183 t184 _ A3.out).mono ?_
 rintro e w4 ⟨rfl, hb⟩
 refine ⟨_, rfl, ?_⟩
 have n0_ := Aside0.mk (bb (zk BK181.out) hb)
 have n1_ := Aside0.mk (bb (zk BK182.out) hb)
 have n2_ := Aside0.mk (below_step s5_4 hb)
 clear BK181 BK182 HB
 have BK181 := n0_
 have BK182 := n1_
 have HB := n2_
 clear n0_ n1_ n2_
 (try clear hb)
 (try clear hb2)
 (try clear hk)
 (try clear hi)
 refine hK.out _ _ ⟨bc BK181.out 0, bc BK181.out 1, bc BK181.out 2, bc BK181.out 3, bc BK181.out 4, bc BK181.out 5, bc BK182.out 0, bc BK182.out 1, bc BK182.out 2, bc BK182.out 3, bc BK182.out 4, bc BK182.out 5⟩ (fun hHeld => ?_)
 clear hK K
 refine norm_ (a' := ?_) ?_ ?_
 rotate_left
 ·show Act.put _ (some 6) _ = _
  simp only [Act.put, y1, y2, y3, i64_w, i32_w]
  rfl
 refine one_ (i := 4) (N := some 9) (bz 8 31) rfl rfl (one_of HT_.out (by kernel_rfl)) (by decide) (fun K hK => ?_)
 refine goes_ Try.func65 (by kernel_rfl) rfl #[.agg #[.int .i64 a0_0, .int .i64 a0_1, .int .i64 a0_2, .int .i64 a0_3, .int .i64 a0_4, .int .i64 a0_5], .agg #[.int .i64 a1_0, .int .i64 a1_1, .int .i64 a1_2, .int .i64 a1_3, .int .i64 a1_4, .int .i64 a1_5]] (by rfl) rfl rfl s5_1 ?_
 with_reducible refine (spec_l8Bearing.calls a0_0 a0_1 a0_2 a0_3 a0_4 a0_5 a1_0 a1_1 a1_2 a1_3 a1_4 a1_5 t185 t186 _ A4.out).mono ?_
 rintro e w5 ⟨rfl, hb⟩
 refine ⟨_, rfl, ?_⟩
 have n0_ := Aside0.mk (bb (zk BK181.out) hb)
 have n1_ := Aside0.mk (bb (zk BK182.out) hb)
 have n2_ := Aside0.mk (below_step s5_4 hb)
 clear BK181 BK182 HB
 have BK181 := n0_
 have BK182 := n1_
 have HB := n2_
 clear n0_ n1_ n2_
 (try clear hb)
 (try clear hb2)
 (try clear hk)
 (try clear hi)
 refine hK.out _ _ ⟨bc BK181.out 0, bc BK181.out 1, bc BK181.out 2, bc BK181.out 3, bc BK181.out 4, bc BK181.out 5, bc BK182.out 0, bc BK182.out 1, bc BK182.out 2, bc BK182.out 3, bc BK182.out 4, bc BK182.out 5⟩ (fun hHeld => ?_)
 clear hK K
 refine norm_ (a' := ?_) ?_ ?_
 rotate_left
 ·show Act.put _ (some 9) _ = _
  simp only [Act.put, y1, y2, y3, i64_w, i32_w]
  rfl
 refine one_ (i := 5) (N := some 10) (bz 8 63) rfl rfl (one_of HT_.out (by kernel_rfl)) (by decide) (fun K hK => ?_)
 refine goes_ Try.func67 (by kernel_rfl) rfl #[.agg #[.int .i64 t183, .int .i64 t184], .agg #[.int .i64 t185, .int .i64 t186]] (by rfl) rfl rfl s5_1 ?_
 with_reducible refine (spec_l8Cross.calls t183 t184 t185 t186 t187 _ A5.out).mono ?_
 rintro e w6 ⟨rfl, hb⟩
 refine ⟨_, rfl, ?_⟩
 have n0_ := Aside0.mk (bb (zk BK181.out) hb)
 have n1_ := Aside0.mk (bb (zk BK182.out) hb)
 have n2_ := Aside0.mk (below_step s5_4 hb)
 clear BK181 BK182 HB
 have BK181 := n0_
 have BK182 := n1_
 have HB := n2_
 clear n0_ n1_ n2_
 (try clear hb)
 (try clear hb2)
 (try clear hk)
 (try clear hi)
 refine hK.out _ _ ⟨bc BK181.out 0, bc BK181.out 1, bc BK181.out 2, bc BK181.out 3, bc BK181.out 4, bc BK181.out 5, bc BK182.out 0, bc BK182.out 1, bc BK182.out 2, bc BK182.out 3, bc BK182.out 4, bc BK182.out 5⟩ (fun hHeld => ?_)
 clear hK K
 refine norm_ (a' := ?_) ?_ ?_
 rotate_left
 ·show Act.put _ (some 10) _ = _
  simp only [Act.put, y1, y2, y3, i64_w, i32_w]
  rfl
 refine pure_ (i := 6) (N := some 11) (v := ?_) (a' := ?_) (bz 8 127) rfl rfl (any_of HT_.out (by kernel_rfl)) (fun _ _ _ h => h) (Or.inl ⟨by rfl, ?_⟩) ?_ ?_
 rotate_left
 ·intro w'
  go_simp
  with_reducible rfl
 rotate_left
 ·simp only [Act.put, y1, y2, y3, i64_w, i32_w]
  rfl
 refine pure_ (i := 7) (N := some 4) (v := ?_) (a' := ?_) (bz 8 255) rfl rfl (any_of HT_.out (by kernel_rfl)) (fun _ _ _ h => h) (Or.inl ⟨by rfl, ?_⟩) ?_ ?_
 rotate_left
 ·intro w'
  go_simp
  with_reducible rfl
 rotate_left
 ·simp only [Act.put, y1, y2, y3, i64_w, i32_w]
  rfl
 refine done_ (done_of HT_.out (by kernel_rfl)) ?_
 try go_wp2
 go_ret
 exact ⟨by first | rfl | (simp [errW_none, errW_some] <;> rfl) | (simp [*, errW_none, errW_some] <;> rfl), by repeat (first | (with_reducible first | exact HB.out | apply below_alloc | apply pw_below_drewN | apply below_drew1 | refine below_set ?_ GE181.out | refine below_set ?_ GE182.out) | exact HB.out)⟩

end Go.Proofs.Ytfbokdbaondjdaa.PV1
/- The plain part for Duty: Behind. -/
namespace Go.Proofs.Ytfbokdbaondjdaa.Bh
open Go.RowKit Go.Proofs.Ytfbokdbaondjdaa.PV1 Go.Proofs.YtfbokdbaondjdaaW.PrintWords
set_option linter.unusedVariables false
theorem beh_in (a b c : Int) : spec_l1In.f a b c = some (decide (b ≤ a ∧ a ≤ c)) := by
  unfold spec_l1In.f
  by_cases h : b ≤ a
  · rw [if_pos h]; simp [h]
  · rw [if_neg h]; simp [h]
theorem beh_in' (a b c : Int) : impl_in.f a b c = some (decide (b ≤ a ∧ a ≤ c)) := by
  unfold impl_in.f
  by_cases h : b ≤ a
  · rw [if_pos h]; simp [h]
  · rw [if_neg h]; simp [h]
theorem beh_ship (a b c d e f : Int) : ∃ r, spec_ShipOk.f a b c d e f = some r ∧ impl_ShipOk.f a b c d e f = some r ∧ (r = true → (-100000 ≤ a ∧ a ≤ 100000) ∧ (-100000 ≤ b ∧ b ≤ 100000) ∧ (-1000 ≤ c ∧ c ≤ 1000) ∧ (-1000 ≤ d ∧ d ≤ 1000)) := by
  unfold spec_ShipOk.f impl_ShipOk.f
  simp only [beh_in, beh_in', Option.bind_some]
  repeat' split
  all_goals simp_all

theorem w64 (x : Int) (h0 : -9223372036854775808 ≤ x) (h1 : x < 9223372036854775808) : wrap64 x = x := by
  unfold wrap64
  omega
theorem u64w (x : Int) (h0 : 0 ≤ x) (h1 : x < 18446744073709551616) : IntKind.u64.wrap x = x := by
  have : IntKind.u64.wrap x = x % 18446744073709551616 := by simp [IntKind.wrap, IntKind.bits, IntKind.signed]
  omega
theorem prod (a b m n : Int) (ha : -m ≤ a ∧ a ≤ m) (hb : -n ≤ b ∧ b ≤ n) : -(m * n) ≤ a * b ∧ a * b ≤ m * n := by
  have e1 : 0 ≤ (m - a) * (n + b) := Int.mul_nonneg (by omega) (by omega)
  have e2 : 0 ≤ (m + a) * (n - b) := Int.mul_nonneg (by omega) (by omega)
  have e3 : 0 ≤ (m - a) * (n - b) := Int.mul_nonneg (by omega) (by omega)
  have e4 : 0 ≤ (m + a) * (n + b) := Int.mul_nonneg (by omega) (by omega)
  have f1 : (m - a) * (n + b) = m * n + m * b - a * n - a * b := by grind
  have f2 : (m + a) * (n - b) = m * n - m * b + a * n - a * b := by grind
  have f3 : (m - a) * (n - b) = m * n - m * b - a * n + a * b := by grind
  have f4 : (m + a) * (n + b) = m * n + m * b + a * n + a * b := by grind
  omega
theorem sq (a m : Int) (ha : -m ≤ a ∧ a ≤ m) : 0 ≤ a * a ∧ a * a ≤ m * m := by
  have h1 := prod a a m m ha ha
  have h2 : 0 ≤ a * a := by
    rcases Int.le_total 0 a with h | h
    · exact Int.mul_nonneg h h
    · exact Int.mul_nonneg_of_nonpos_of_nonpos h h
  omega
theorem least (a b : Int) (ha : -400000000 ≤ a ∧ a ≤ 400000000) (hb : -400000000 ≤ b ∧ b ≤ 400000000) : spec_l8Least.f a 5 b 29 = some (decide (5 * (a * a) ≤ 29 * (b * b))) := by
  have hA := sq a 400000000 ha
  have hB := sq b 400000000 hb
  unfold spec_l8Least.f
  generalize a * a = A at *
  generalize b * b = B at *
  rw [w64 A (by omega) (by omega), w64 B (by omega) (by omega)]
  simp only [Int.tdiv_eq_ediv_of_nonneg hA.1, Int.tdiv_eq_ediv_of_nonneg hB.1, Int.tmod_eq_emod_of_nonneg hA.1, Int.tmod_eq_emod_of_nonneg hB.1]
  rw [w64 (A / 1048576) (by omega) (by omega), w64 (B / 1048576) (by omega) (by omega)]
  rw [w64 (5 * (A / 1048576)) (by omega) (by omega), w64 (29 * (B / 1048576)) (by omega) (by omega)]
  rw [w64 (5 * (A % 1048576)) (by omega) (by omega), w64 (29 * (B % 1048576)) (by omega) (by omega)]
  have pA : (0 : Int) ≤ 5 * (A % 1048576) := by omega
  have pB : (0 : Int) ≤ 29 * (B % 1048576) := by omega
  simp only [Int.tdiv_eq_ediv_of_nonneg pA, Int.tdiv_eq_ediv_of_nonneg pB, Int.tmod_eq_emod_of_nonneg pA, Int.tmod_eq_emod_of_nonneg pB]
  rw [w64 (5 * (A % 1048576) / 1048576) (by omega) (by omega), w64 (29 * (B % 1048576) / 1048576) (by omega) (by omega)]
  rw [w64 (5 * (A / 1048576) + 5 * (A % 1048576) / 1048576) (by omega) (by omega), w64 (29 * (B / 1048576) + 29 * (B % 1048576) / 1048576) (by omega) (by omega)]
  split
  · congr 1
    apply decide_eq_decide.2
    omega
  · congr 1
    apply decide_eq_decide.2
    omega
theorem square (a : Int) (ha : -400000000 ≤ a ∧ a ≤ 400000000) : impl_square.f a = some (a * a) := by
  have hA := sq a 400000000 ha
  unfold impl_square.f impl_size.f
  by_cases h : a < 0
  · rw [if_pos h]
    simp only [Option.bind_some]
    rw [w64 (-a) (by omega) (by omega), u64w (-a) (by omega) (by omega)]
    have e : -a * -a = a * a := by grind
    rw [e, u64w (a * a) (by omega) (by omega)]
  · rw [if_neg h]
    simp only [Option.bind_some]
    rw [u64w a (by omega) (by omega), u64w (a * a) (by omega) (by omega)]

def leastV (a p b q : Int) : Bool := (spec_l8Least.f a p b q).getD false
theorem least_eq (a p b q : Int) : spec_l8Least.f a p b q = some (leastV a p b q) := by
  unfold leastV
  unfold spec_l8Least.f
  split <;> rfl
def squareV (a : Int) : Int := (impl_square.f a).getD 0
theorem square_eq (a : Int) : impl_square.f a = some (squareV a) := by
  unfold squareV
  unfold impl_square.f impl_size.f
  split <;> rfl
theorem beh_same (k : Nat) (a b c d e f a' b' c' d' e' f' : Int) : ∃ r, spec_Behind.f k a b c d e f a' b' c' d' e' f' = some r ∧ impl_Behind.f k a b c d e f a' b' c' d' e' f' = some r := by
  obtain ⟨r, h1, h2, h3⟩ := beh_ship a b c d e f
  obtain ⟨r', h1', h2', h3'⟩ := beh_ship a' b' c' d' e' f'
  unfold spec_Behind.f impl_Behind.f
  rw [h1, h2, h1', h2']
  unfold spec_l8Bearing.f spec_l8Cross.f spec_l8Dot.f impl_bearing.f impl_vec_dot.f impl_vec_cross.f
  simp only [Option.bind_some]
  cases hr : (r && r') with
  | false =>
    simp only [least_eq, square_eq, Option.bind_some, Bool.false_and]
    exact ⟨_, rfl, rfl⟩
  | true =>
    simp only [Bool.true_and]
    obtain ⟨hr1, hr2⟩ := Bool.and_eq_true_iff.1 hr
    obtain ⟨A1, A2, A3, A4⟩ := h3 hr1
    obtain ⟨B1, B2, B3, B4⟩ := h3' hr2
    rw [w64 (a - a') (by omega) (by omega), w64 (b - b') (by omega) (by omega)]
    have D1 : -200000 ≤ a - a' ∧ a - a' ≤ 200000 := by omega
    have D2 : -200000 ≤ b - b' ∧ b - b' ≤ 200000 := by omega
    have p1 := prod _ _ _ _ D1 B4
    have p2 := prod _ _ _ _ D2 B3
    have p3 := prod _ _ _ _ D1 B3
    have p4 := prod _ _ _ _ D2 B4
    generalize (a - a') * d' = q1 at *
    generalize (b - b') * c' = q2 at *
    generalize (a - a') * c' = q3 at *
    generalize (b - b') * d' = q4 at *
    rw [w64 q1 (by omega) (by omega), w64 q2 (by omega) (by omega), w64 q3 (by omega) (by omega), w64 q4 (by omega) (by omega)]
    rw [w64 (q1 - q2) (by omega) (by omega), w64 (q3 + q4) (by omega) (by omega)]
    have hc : -400000000 ≤ q1 - q2 ∧ q1 - q2 ≤ 400000000 := by omega
    have hd : -400000000 ≤ q3 + q4 ∧ q3 + q4 ≤ 400000000 := by omega
    rw [least _ _ hc hd, square _ hc, square _ hd]
    have hA := sq _ _ hc
    have hB := sq _ _ hd
    simp only [Option.bind_some]
    generalize (q1 - q2) * (q1 - q2) = X at *
    generalize (q3 + q4) * (q3 + q4) = Y at *
    rw [u64w (X * 5) (by omega) (by omega), u64w (Y * 29) (by omega) (by omega)]
    refine ⟨_, rfl, ?_⟩
    have e1 : decide (X * 5 ≤ Y * 29) = decide (5 * X ≤ 29 * Y) := decide_eq_decide.2 (by omega)
    rw [e1]
end Go.Proofs.Ytfbokdbaondjdaa.Bh
-- printed for this claim out of the translation
namespace Go.Proofs.Ytfbokdbaondjdaa.PV1
open Go.RowKit Go.Proofs.YtfbokdbaondjdaaW.PrintWords Go.Proofs.YtfbokdbaondjdaaW.PrintLast Go.Proofs.YtfbokdbaondjdaaW.PrintMore Go.Proofs.Ytfbokdbaondjdaa.Cz Go.Proofs.Ytfbokdbaondjdaa.Cz
attribute [local go_sem] max2_int min2_int max_two min_two max_three min_three max_four min_four
set_option linter.unusedVariables false
set_option linter.unusedSimpArgs false

theorem s14_0 {p : Prop} (h : p := by repeat (first | (with_reducible first | exact HB.out | apply below_alloc | apply pw_below_drewN | apply below_drew1) | exact HB.out)) : p := h
set_option maxRecDepth 100000 in
theorem t14_0 {p : Prop} (h : p := by
 simp only [Act.put, y1, y2, y3, i64_w, i32_w]
 rfl) : p := h
set_option maxRecDepth 100000 in
theorem t14_1 {p : Prop} (h : p := by
 intro w'
 go_simp
 with_reducible rfl) : p := h
/-! ### spec_l2Gcd: function 95 -/
def spec_l2Gcd.l0 : Nat → Int → Int → Option (Int)
 | 0, _, _ => none
 | k + 1, x0, x1 => if x1 = 0 then (if x0 < 0 then (some (wrap64 (-x0))) else (some x0)) else (spec_l2Gcd.l0 k x1 (Int.tmod x0 x1))
def spec_l2Gcd.f (k : Nat) (a0 : Int) (a1 : Int) : Option (Int) := spec_l2Gcd.l0 k a0 a1
theorem spec_l2Gcd.mono_l : ∀ k, (∀ y0 y1, LeO (spec_l2Gcd.l0 k y0 y1) (spec_l2Gcd.l0 (k + 1) y0 y1))
 | 0 => fun _ _ r h => by simp [spec_l2Gcd.l0] at h
 | k + 1 => by
  have ih0 := spec_l2Gcd.mono_l k
  ·intro y0 y1
   unfold spec_l2Gcd.l0
   repeat' first
   | (with_reducible exact ih0 _ _)
   | (with_reducible exact LeO.refl _)
   | (with_reducible exact LeO.none _)
   | (with_reducible refine LeO.ite ?_ ?_)
   | (with_reducible refine LeO.bind ?_ (fun _ => ?_))
   | exact ih0 _ _
   | exact LeO.none _
   | refine LeO.ite ?_ ?_
   | refine LeO.bind ?_ (fun _ => ?_)
theorem spec_l2Gcd.mono : ∀ a0 a1 k, LeO (spec_l2Gcd.f k a0 a1) (spec_l2Gcd.f (k + 1) a0 a1) := by
 intro a0 a1 k
 have ih0 := spec_l2Gcd.mono_l k
 unfold spec_l2Gcd.f
 repeat' first
   | (with_reducible exact ih0 _ _)
   | (with_reducible exact LeO.refl _)
   | (with_reducible exact LeO.none _)
   | (with_reducible refine LeO.ite ?_ ?_)
   | (with_reducible refine LeO.bind ?_ (fun _ => ?_))
   | exact ih0 _ _
   | exact LeO.none _
   | refine LeO.ite ?_ ?_
   | refine LeO.bind ?_ (fun _ => ?_)
set_option maxHeartbeats 8000000 in
set_option maxRecDepth 100000 in
theorem spec_l2Gcd.calls (k : Nat) (a0 : Int) (a1 : Int) (r : Int) (w : World) (h : spec_l2Gcd.f k a0 a1 = some r) :
  Calls Try.prog 95 #[.int .i64 a0, .int .i64 a1] w fun e w' => e = .returned (.int .i64 r) ∧ Drawn0 w w' := by
 have H : (spec_l2Gcd.l0 k a0 a1) = some r := h
 clear h
 have H' := Aside0.mk H
 clear H
 go_enter Try.func95, Try.ntmps95
 go_wp2
 go_loopg [0, 1] k (fun kq v0 v1 w' => ∃ (x0_1 : Int) (x1_1 : Int), v0 = .int .i64 x0_1 ∧ v1 = .int .i64 x1_1 ∧ Aside0 (spec_l2Gcd.l0 kq x0_1 x1_1 = some r) ∧ Aside0 (kq ≤ k) ∧ Drawn0 w w')
 case atStart => exact ⟨(a0), (a1), (by first | rfl | (simp; done) | (simp [*]; done)), (by first | rfl | (simp; done) | (simp [*]; done)), H', ⟨Nat.le_refl _⟩, by repeat (first | exact Drawn0.refl _ | apply Drawn0.step)⟩
 case round =>
  clear H'
  (try clear p2)
  obtain ⟨x0_1, x1_1, rfl, rfl, HA, HK1, ⟨m1, rfl⟩⟩ := hrel
  cases gk with
  | zero => exact absurd HA.out (by simp [spec_l2Gcd.l0])
  | succ k1 =>
   have H := HA.out
   clear HA
   simp only [spec_l2Gcd.l0] at H
   by_cases c3 : x1_1 = 0
   ·rw [if_pos c3] at H
    have c3b0 : (x1_1 == 0) = true := beq_iff_eq.mpr c3
    have c3b1 : (x1_1 != 0) = false := bne_eq_false_iff_eq.mpr c3
    clear c3
    by_cases c4 : x0_1 < 0
    ·rw [if_pos c4] at H
     have c4b0 : decide (x0_1 < 0) = true := decide_eq_true c4
     clear c4
     obtain rfl := Option.some.inj H
     go_wp2
     go_ret
     exact ⟨by first | rfl | (simp; done) | (simp [*]; done), by repeat (first | exact Drawn0.refl _ | apply Drawn0.step)⟩
    ·rw [if_neg c4] at H
     have c4b0 : decide (x0_1 < 0) = false := decide_eq_false c4
     clear c4
     obtain rfl := Option.some.inj H
     go_wp2
     go_ret
     exact ⟨by first | rfl | (simp; done) | (simp [*]; done), by repeat (first | exact Drawn0.refl _ | apply Drawn0.step)⟩
   ·rw [if_neg c3] at H
    have c3b0 : (x1_1 == 0) = false := beq_eq_false_iff_ne.mpr c3
    have c3b1 : (x1_1 != 0) = true := bne_iff_ne.mpr c3
    have H' := Aside0.mk H
    clear H
    go_wp2
    go_roundg k1
    case measure => have := HK1.out; omega
    case rel => exact ⟨(x1_1), (Int.tmod x0_1 x1_1), (by first | rfl | (simp; done) | (simp [*]; done)), (by first | rfl | (simp; done) | (simp [*]; done)), H', ⟨by have := HK1.out; omega⟩, by repeat (first | exact Drawn0.refl _ | apply Drawn0.step)⟩

/-! ### spec_l2Frac: function 81 -/
def spec_l2Frac.f (k : Nat) (a0 : Int) (a1 : Int) : Option (Int × Int) := if a1 < 0 then ((spec_l2Gcd.f k (wrap64 (-a0)) (wrap64 (-a1))).bind fun t516 => (if t516 = 0 then (none) else (some (wrap64 (Int.tdiv (wrap64 (-a0)) t516), wrap64 (Int.tdiv (wrap64 (-a1)) t516))))) else ((spec_l2Gcd.f k a0 a1).bind fun t517 => (if t517 = 0 then (none) else (some (wrap64 (Int.tdiv a0 t517), wrap64 (Int.tdiv a1 t517)))))
theorem spec_l2Frac.mono : ∀ a0 a1 k, LeO (spec_l2Frac.f k a0 a1) (spec_l2Frac.f (k + 1) a0 a1) := by
 intro a0 a1 k
 unfold spec_l2Frac.f
 repeat' first
   | (with_reducible exact spec_l2Gcd.mono _ _ _)
   | (with_reducible exact LeO.refl _)
   | (with_reducible exact LeO.none _)
   | (with_reducible refine LeO.ite ?_ ?_)
   | (with_reducible refine LeO.bind ?_ (fun _ => ?_))
   | exact spec_l2Gcd.mono _ _ _
   | exact LeO.none _
   | refine LeO.ite ?_ ?_
   | refine LeO.bind ?_ (fun _ => ?_)
def spec_l2Frac.T5 : Bool × List (List Nat × List Nat) := (true, [([], []), ([], []), ([0, 1], [0, 1]), ([], []), ([], []), ([3, 4], [3, 4]), ([2, 5], [2, 5]), ([6, 0, 1, 2, 3, 4, 5, 6], [6])])
def spec_l2Frac.B5 : List Nat := [0, 0, 3, 0, 0, 24, 63, 127]
theorem spec_l2Frac.tab5 : rtab .any (opsOf Try.f81 5) = spec_l2Frac.T5 := by kernel_rfl
theorem spec_l2Frac.bits5 : waitsOk spec_l2Frac.T5.2 spec_l2Frac.B5 = true := by kernel_rfl
set_option maxHeartbeats 8000000 in
set_option maxRecDepth 100000 in
theorem spec_l2Frac.calls (k : Nat) (a0 : Int) (a1 : Int) (r1 : Int) (r2 : Int) (w : World) (h : spec_l2Frac.f k a0 a1 = some (r1, r2)) :
  Calls Try.prog 81 #[.int .i64 a0, .int .i64 a1] w fun e w' => e = .returned (.agg #[.int .i64 r1, .int .i64 r2]) ∧ Below w.heap.size w w' := by
 have hu58 := Try.underlying58
 have HB := Aside0.mk (Below.refl w.heap.size w)
 have H : (if a1 < 0 then ((spec_l2Gcd.f k (wrap64 (-a0)) (wrap64 (-a1))).bind fun t516 => (if t516 = 0 then (none) else (some (wrap64 (Int.tdiv (wrap64 (-a0)) t516), wrap64 (Int.tdiv (wrap64 (-a1)) t516))))) else ((spec_l2Gcd.f k a0 a1).bind fun t517 => (if t517 = 0 then (none) else (some (wrap64 (Int.tdiv a0 t517), wrap64 (Int.tdiv a1 t517)))))) = some (r1, r2) := h
 clear h
 by_cases c3 : a1 < 0
 ·rw [if_pos c3] at H
  have c3b0 : decide (a1 < 0) = true := decide_eq_true c3
  clear c3
  replace H := Option.bind_eq_some_iff.mp H
  obtain ⟨t516, A40, H⟩ := H
  replace H : (if t516 = 0 then (none) else (some (wrap64 (Int.tdiv (wrap64 (-a0)) t516), wrap64 (Int.tdiv (wrap64 (-a1)) t516)))) = some (r1, r2) := H
  have A4 := Aside0.mk A40
  clear A40
  by_cases c5 : t516 = 0
  ·rw [if_pos c5] at H
   exact absurd H (by simp)
  ·rw [if_neg c5] at H
   have c5b0 : (t516 == 0) = false := beq_eq_false_iff_ne.mpr c5
   have c5b1 : (t516 != 0) = true := bne_iff_ne.mpr c5
   simp only [Option.some.injEq, Prod.mk.injEq] at H
   obtain ⟨rfl, rfl⟩ := H
   go_enter Try.func81, Try.ntmps81
   try go_wp2_with (first | ((with_reducible refine gate_dst (N := 4) rfl ?_); refine box_event ?hg (N := 4) ?hd (cs := #[.int .i64 0, .int .i64 0]) (t := 58) ?hr ?_; (case hd => rfl); (case hg => rfl); (case hr => first | (go_simp; done) | (go_simp; rfl)); intro gb515 hg w1 hbox hb; have n0_ := Aside0.mk (below_step s14_0 hb); have n1_ := Aside0.mk (hbox); have n2_ := Aside0.mk (ns hg s14_0 : w.heap.size ≤ gb515); have n3_ := Aside0.mk (ns hg s14_0 : w.heap.size ≤ gb515); clear HB; have HB := n0_; have BK515 := n1_; have GW515 := n2_; have GE515 := n3_; clear n0_ n1_ n2_ n3_; clear hb hbox hg) | ((with_reducible refine gate_callee (f := 95) rfl ?_); refine goesL_ (some 14) rfl rfl Try.func95 (by kernel_rfl) rfl #[.int .i64 (wrap64 (-a0)), .int .i64 (wrap64 (-a1))] rfl (by (try simp only [List.map_toArray, List.map_cons, List.map_nil]); first | done | rfl | (simp only [List.length_drop, List.length_take]; rfl)) ?_; (with_reducible refine (spec_l2Gcd.calls k (wrap64 (-a0)) (wrap64 (-a1)) t516 _ A4.out).mono ?_); rintro e w' ⟨rfl, ⟨nd, rfl⟩⟩; refine ⟨_, rfl, ?_⟩; (try (rw [drewN_self w1]; generalize hq_ : World.drewN w1 _ = w1; have n0_ : Aside0 (w1.heap[gb515]? = some (.cells #[.int .i64 0, .int .i64 0] 58 (0, 0))) := ⟨by rw [← hq_]; exact (zk BK515.out)⟩; have n1_ : Aside0 (Below w.heap.size w w1) := ⟨by rw [← hq_]; exact (by repeat (first | (with_reducible first | exact HB.out | apply below_alloc | apply pw_below_drewN | apply below_drew1 | refine below_set ?_ GE515.out) | exact HB.out))⟩; clear BK515 HB hq_; have BK515 := n0_; have HB := n1_; clear n0_ n1_))))
   have n0_ := Aside0.mk (blk_drew BK515.out)
   have n1_ := Aside0.mk (below_drew1 HB.out)
   clear BK515 HB
   have BK515 := n0_
   have HB := n1_
   clear n0_ n1_
   refine start_ (n := 8) (S := fun w' => True) (ds := []) #[false, false, false, false, false, false, false, false] (by kernel_rfl) rfl rfl trivial (fun hHeld => ?_); refine with_tabW spec_l2Frac.tab5 spec_l2Frac.bits5 (fun HT_ HW_ => ?_)
   generalize w1.drew = w2 at BK515 HB hHeld ⊢
   refine pure_ (i := 0) (N := some 15) (v := ?_) (a' := ?_) (bz 8 1) rfl rfl (any_of HT_.out (by kernel_rfl)) (fun _ _ _ h => h) (Or.inl ⟨by rfl, ?_⟩) ?_ ?_
   rotate_left
   ·exact t14_1
   rotate_left
   ·exact t14_0
   refine pure_ (i := 1) (N := some 16) (v := ?_) (a' := ?_) (bz 8 3) rfl rfl (any_of HT_.out (by kernel_rfl)) (fun _ _ _ h => h) (Or.inl ⟨by rfl, ?_⟩) ?_ ?_
   rotate_left
   ·exact t14_1
   rotate_left
   ·exact t14_0
   refine pure_ (i := 2) (N := some 17) (v := ?_) (a' := ?_) (bz 8 7) rfl rfl (any_of HT_.out (by kernel_rfl)) (fun _ _ _ h => h) (Or.inl ⟨by rfl, ?_⟩) ?_ ?_
   rotate_left
   ·exact t14_1
   rotate_left
   ·exact t14_0
   refine pure_ (i := 3) (N := some 18) (v := ?_) (a' := ?_) (bz 8 15) rfl rfl (any_of HT_.out (by kernel_rfl)) (fun _ _ _ h => h) (Or.inl ⟨by rfl, ?_⟩) ?_ ?_
   rotate_left
   ·exact t14_1
   rotate_left
   ·exact t14_0
   refine pure_ (i := 4) (N := some 19) (v := ?_) (a' := ?_) (bz 8 31) rfl rfl (any_of HT_.out (by kernel_rfl)) (fun _ _ _ h => h) (Or.inl ⟨by rfl, ?_⟩) ?_ ?_
   rotate_left
   ·exact t14_1
   rotate_left
   ·exact t14_0
   refine pure_ (i := 5) (N := some 20) (v := ?_) (a' := ?_) (bz 8 63) rfl rfl (any_of HT_.out (by kernel_rfl)) (fun _ _ _ h => h) (Or.inl ⟨by rfl, ?_⟩) ?_ ?_
   rotate_left
   ·exact t14_1
   rotate_left
   ·exact t14_0
   refine pure_ (i := 6) (N := some 21) (v := ?_) (a' := ?_) (bz 8 127) rfl rfl (any_of HT_.out (by kernel_rfl)) (fun _ _ _ h => h) (Or.inl ⟨by rfl, ?_⟩) ?_ ?_
   rotate_left
   ·exact t14_1
   rotate_left
   ·exact t14_0
   refine one_ (i := 7) (N := none) (bz 8 255) rfl rfl (one_of HT_.out (by kernel_rfl)) (by decide) (fun K hK => ?_)
   have hs8 : w2.cell? ⟨gb515, 0, none⟩ = some (.int .i64 0) := bc BK515.out 0
   have hfs8 := blk_frozen BK515.out 0
   have hs9 : w2.cell? ⟨gb515, 1, none⟩ = some (.int .i64 0) := bc BK515.out 1
   have hfs9 := blk_frozen BK515.out 1
   refine skip_ (w1 := ?_) (by rfl) rfl ?_ ?_
   rotate_left
   ·go_simp
    rfl
   refine hK.out _ _ trivial (fun hHeld => ?_)
   clear hK K
   refine done_ (done_of HT_.out (by kernel_rfl)) ?_
   try go_wp2
   refine bodyPost_ret (results_cell_row rfl _ _ gb515 58 #[.int .i64 (wrap64 (Int.tdiv (wrap64 (-a0)) t516)), .int .i64 (wrap64 (Int.tdiv (wrap64 (-a1)) t516))] (0, 0) _ rfl (by (with_reducible repeat (first | refine blk_drewN ?_ _ | refine blk_drew ?_ | refine blk_alloc ?_ _)); refine blk_put (cs := #[.int .i64 (wrap64 (Int.tdiv (wrap64 (-a0)) t516)), .int .i64 0]) ?_ 1 _ rfl; (with_reducible repeat (first | refine blk_drewN ?_ _ | refine blk_drew ?_ | refine blk_alloc ?_ _)); refine blk_put (cs := #[.int .i64 0, .int .i64 0]) ?_ 0 _ rfl; (with_reducible repeat (first | refine blk_drewN ?_ _ | refine blk_drew ?_ | refine blk_alloc ?_ _)); exact BK515.out) Try.underlying58 rfl (by kernel_rfl)) rfl ?_
   exact ⟨by first | rfl | (simp [errW_none, errW_some] <;> rfl) | (simp [*, errW_none, errW_some] <;> rfl), by repeat (first | (with_reducible first | exact HB.out | apply below_alloc | apply pw_below_drewN | apply below_drew1 | refine below_set ?_ GE515.out) | exact HB.out)⟩
 ·rw [if_neg c3] at H
  have c3b0 : decide (a1 < 0) = false := decide_eq_false c3
  clear c3
  replace H := Option.bind_eq_some_iff.mp H
  obtain ⟨t517, A100, H⟩ := H
  replace H : (if t517 = 0 then (none) else (some (wrap64 (Int.tdiv a0 t517), wrap64 (Int.tdiv a1 t517)))) = some (r1, r2) := H
  have A10 := Aside0.mk A100
  clear A100
  by_cases c11 : t517 = 0
  ·rw [if_pos c11] at H
   exact absurd H (by simp)
  ·rw [if_neg c11] at H
   have c11b0 : (t517 == 0) = false := beq_eq_false_iff_ne.mpr c11
   have c11b1 : (t517 != 0) = true := bne_iff_ne.mpr c11
   simp only [Option.some.injEq, Prod.mk.injEq] at H
   obtain ⟨rfl, rfl⟩ := H
   go_enter Try.func81, Try.ntmps81
   try go_wp2_with (first | ((with_reducible refine gate_dst (N := 4) rfl ?_); refine box_event ?hg (N := 4) ?hd (cs := #[.int .i64 0, .int .i64 0]) (t := 58) ?hr ?_; (case hd => rfl); (case hg => rfl); (case hr => first | (go_simp; done) | (go_simp; rfl)); intro gb515 hg w1 hbox hb; have n0_ := Aside0.mk (below_step s14_0 hb); have n1_ := Aside0.mk (hbox); have n2_ := Aside0.mk (ns hg s14_0 : w.heap.size ≤ gb515); have n3_ := Aside0.mk (ns hg s14_0 : w.heap.size ≤ gb515); clear HB; have HB := n0_; have BK515 := n1_; have GW515 := n2_; have GE515 := n3_; clear n0_ n1_ n2_ n3_; clear hb hbox hg) | ((with_reducible refine gate_callee (f := 95) rfl ?_); refine goesL_ (some 14) rfl rfl Try.func95 (by kernel_rfl) rfl #[.int .i64 a0, .int .i64 a1] rfl (by (try simp only [List.map_toArray, List.map_cons, List.map_nil]); first | done | rfl | (simp only [List.length_drop, List.length_take]; rfl)) ?_; (with_reducible refine (spec_l2Gcd.calls k a0 a1 t517 _ A10.out).mono ?_); rintro e w' ⟨rfl, ⟨nd, rfl⟩⟩; refine ⟨_, rfl, ?_⟩; (try (rw [drewN_self w1]; generalize hq_ : World.drewN w1 _ = w1; have n0_ : Aside0 (w1.heap[gb515]? = some (.cells #[.int .i64 0, .int .i64 0] 58 (0, 0))) := ⟨by rw [← hq_]; exact (zk BK515.out)⟩; have n1_ : Aside0 (Below w.heap.size w w1) := ⟨by rw [← hq_]; exact (by repeat (first | (with_reducible first | exact HB.out | apply below_alloc | apply pw_below_drewN | apply below_drew1 | refine below_set ?_ GE515.out) | exact HB.out))⟩; clear BK515 HB hq_; have BK515 := n0_; have HB := n1_; clear n0_ n1_))))
   have n0_ := Aside0.mk (blk_drew BK515.out)
   have n1_ := Aside0.mk (below_drew1 HB.out)
   clear BK515 HB
   have BK515 := n0_
   have HB := n1_
   clear n0_ n1_
   refine start_ (n := 8) (S := fun w' => True) (ds := []) #[false, false, false, false, false, false, false, false] (by kernel_rfl) rfl rfl trivial (fun hHeld => ?_); refine with_tabW spec_l2Frac.tab5 spec_l2Frac.bits5 (fun HT_ HW_ => ?_)
   generalize w1.drew = w2 at BK515 HB hHeld ⊢
   refine pure_ (i := 0) (N := some 15) (v := ?_) (a' := ?_) (bz 8 1) rfl rfl (any_of HT_.out (by kernel_rfl)) (fun _ _ _ h => h) (Or.inl ⟨by rfl, ?_⟩) ?_ ?_
   rotate_left
   ·exact t14_1
   rotate_left
   ·exact t14_0
   refine pure_ (i := 1) (N := some 16) (v := ?_) (a' := ?_) (bz 8 3) rfl rfl (any_of HT_.out (by kernel_rfl)) (fun _ _ _ h => h) (Or.inl ⟨by rfl, ?_⟩) ?_ ?_
   rotate_left
   ·exact t14_1
   rotate_left
   ·exact t14_0
   refine pure_ (i := 2) (N := some 17) (v := ?_) (a' := ?_) (bz 8 7) rfl rfl (any_of HT_.out (by kernel_rfl)) (fun _ _ _ h => h) (Or.inl ⟨by rfl, ?_⟩) ?_ ?_
   rotate_left
   ·exact t14_1
   rotate_left
   ·exact t14_0
   refine pure_ (i := 3) (N := some 18) (v := ?_) (a' := ?_) (bz 8 15) rfl rfl (any_of HT_.out (by kernel_rfl)) (fun _ _ _ h => h) (Or.inl ⟨by rfl, ?_⟩) ?_ ?_
   rotate_left
   ·exact t14_1
   rotate_left
   ·exact t14_0
   refine pure_ (i := 4) (N := some 19) (v := ?_) (a' := ?_) (bz 8 31) rfl rfl (any_of HT_.out (by kernel_rfl)) (fun _ _ _ h => h) (Or.inl ⟨by rfl, ?_⟩) ?_ ?_
   rotate_left
   ·exact t14_1
   rotate_left
   ·exact t14_0
   refine pure_ (i := 5) (N := some 20) (v := ?_) (a' := ?_) (bz 8 63) rfl rfl (any_of HT_.out (by kernel_rfl)) (fun _ _ _ h => h) (Or.inl ⟨by rfl, ?_⟩) ?_ ?_
   rotate_left
   ·exact t14_1
   rotate_left
   ·exact t14_0
   refine pure_ (i := 6) (N := some 21) (v := ?_) (a' := ?_) (bz 8 127) rfl rfl (any_of HT_.out (by kernel_rfl)) (fun _ _ _ h => h) (Or.inl ⟨by rfl, ?_⟩) ?_ ?_
   rotate_left
   ·exact t14_1
   rotate_left
   ·exact t14_0
   refine one_ (i := 7) (N := none) (bz 8 255) rfl rfl (one_of HT_.out (by kernel_rfl)) (by decide) (fun K hK => ?_)
   have hs14 : w2.cell? ⟨gb515, 0, none⟩ = some (.int .i64 0) := bc BK515.out 0
   have hfs14 := blk_frozen BK515.out 0
   have hs15 : w2.cell? ⟨gb515, 1, none⟩ = some (.int .i64 0) := bc BK515.out 1
   have hfs15 := blk_frozen BK515.out 1
   refine skip_ (w1 := ?_) (by rfl) rfl ?_ ?_
   rotate_left
   ·go_simp
    rfl
   refine hK.out _ _ trivial (fun hHeld => ?_)
   clear hK K
   refine done_ (done_of HT_.out (by kernel_rfl)) ?_
   try go_wp2
   refine bodyPost_ret (results_cell_row rfl _ _ gb515 58 #[.int .i64 (wrap64 (Int.tdiv a0 t517)), .int .i64 (wrap64 (Int.tdiv a1 t517))] (0, 0) _ rfl (by (with_reducible repeat (first | refine blk_drewN ?_ _ | refine blk_drew ?_ | refine blk_alloc ?_ _)); refine blk_put (cs := #[.int .i64 (wrap64 (Int.tdiv a0 t517)), .int .i64 0]) ?_ 1 _ rfl; (with_reducible repeat (first | refine blk_drewN ?_ _ | refine blk_drew ?_ | refine blk_alloc ?_ _)); refine blk_put (cs := #[.int .i64 0, .int .i64 0]) ?_ 0 _ rfl; (with_reducible repeat (first | refine blk_drewN ?_ _ | refine blk_drew ?_ | refine blk_alloc ?_ _)); exact BK515.out) Try.underlying58 rfl (by kernel_rfl)) rfl ?_
   exact ⟨by first | rfl | (simp [errW_none, errW_some] <;> rfl) | (simp [*, errW_none, errW_some] <;> rfl), by repeat (first | (with_reducible first | exact HB.out | apply below_alloc | apply pw_below_drewN | apply below_drew1 | refine below_set ?_ GE515.out) | exact HB.out)⟩

end Go.Proofs.Ytfbokdbaondjdaa.PV1
