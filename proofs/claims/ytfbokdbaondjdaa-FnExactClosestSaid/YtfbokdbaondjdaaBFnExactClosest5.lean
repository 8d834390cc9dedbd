import Derived.Test.YtfbokdbaondjdaaBFnExactClosest2
import Derived.Test.YtfbokdbaondjdaaBFnExactClosest3
import Derived.Test.YtfbokdbaondjdaaBFnExactClosest4
-- printed for this claim out of the translation
namespace Go.Proofs.Ytfbokdbaondjdaa.PV1
open Go.RowKit Go.Proofs.YtfbokdbaondjdaaW.PrintWords Go.Proofs.YtfbokdbaondjdaaW.PrintLast Go.Proofs.YtfbokdbaondjdaaW.PrintMore Go.Proofs.Ytfbokdbaondjdaa.Cz Go.Proofs.Ytfbokdbaondjdaa.Cz
attribute [local go_sem] max2_int min2_int max_two min_two max_three min_three max_four min_four
set_option linter.unusedVariables false
set_option linter.unusedSimpArgs false

attribute [local go_sem high] eqA89
theorem s17_0 {p : Prop} (h : p := by repeat (first | (with_reducible first | exact HB.out | apply below_alloc | apply pw_below_drewN | apply below_drew1 | refine below_set ?_ GE545.out | refine below_set ?_ GE546.out | refine below_set ?_ GE547.out | refine below_set ?_ GE548.out) | exact HB.out)) : p := h
theorem s17_1 {p : Prop} (h : p := by repeat (first | (with_reducible first | exact HB.out | apply below_alloc | apply pw_below_drewN | apply below_drew1 | refine below_set ?_ GE545.out | refine below_set ?_ GE546.out | refine below_set ?_ GE547.out | refine below_set ?_ GE548.out | refine below_set ?_ GE553.out | refine below_set ?_ GE554.out) | exact HB.out)) : p := h
theorem s17_2 {p : Prop} (h : p := by repeat (first | (with_reducible first | exact HB.out | apply below_alloc | apply pw_below_drewN | apply below_drew1 | refine below_set ?_ GE545.out | refine below_set ?_ GE546.out | refine below_set ?_ GE547.out | refine below_set ?_ GE548.out | refine below_set ?_ GE553.out) | exact HB.out)) : p := h
theorem s17_3 {p : Prop} (h : p := by repeat (first | (with_reducible first | exact HB.out | apply below_alloc | apply pw_below_drewN | apply below_drew1 | refine below_set ?_ GE545.out | refine below_set ?_ GE546.out | refine below_set ?_ GE547.out | refine below_set ?_ GE548.out | refine below_set ?_ GE554.out) | exact HB.out)) : p := h
theorem s17_4 {p : Prop} (h : p := by (try simp only [List.map_toArray, List.map_cons, List.map_nil]); first | done | rfl | (simp only [List.length_drop, List.length_take]; rfl)) : p := h
theorem s17_5 {p : Prop} (h : p := by first | (simp only [putAll, Act.put, y1, y2, y3]; done) | (simp only [putAll, Act.put, y1, y2, y3]; rfl)) : p := h
theorem s17_6 {p : Prop} (h : p := by repeat (first | (with_reducible first | exact HB.out | apply below_alloc | apply pw_below_drewN | apply below_drew1 | refine below_set ?_ GE545.out | refine below_set ?_ GE546.out | refine below_set ?_ GE547.out) | exact HB.out)) : p := h
theorem s17_7 {p : Prop} (h : p := by repeat (first | (with_reducible first | exact HB.out | apply below_alloc | apply pw_below_drewN | apply below_drew1 | refine below_set ?_ GE545.out | refine below_set ?_ GE546.out) | exact HB.out)) : p := h
set_option maxRecDepth 100000 in
theorem t17_0 {p : Prop} (h : p := by
 simp only [Act.put, y1, y2, y3, i64_w, i32_w]
 rfl) : p := h
set_option maxRecDepth 100000 in
theorem t17_1 {p : Prop} (h : p := by
 rintro w' ⟨s0, s1, s2, s3, s4, s5, s6, s7, s8, s9, s10, s11⟩
 go_simp
 with_reducible rfl) : p := h
/-! ### impl_Closest: function 38 -/
mutual
def impl_Closest.j0 : Nat → Bool → Int → Int → Int → Int → Int → Int → Int → Int → Int → Int → Int → Int → Option (Int × Int × Int × Int × Bool)
 | 0, _, _, _, _, _, _, _, _, _, _, _, _, _ => none
 | k + 1, x18, x546000, x546001, x546002, x546003, x546004, x546005, x547000, x547001, x547002, x547003, x547004, x547005 => if x18 = true then (some (0, 0, 0, 0, false)) else ((impl_bearing.f x547000 x547001 x547002 x547003 x547004 x547005 x546000 x546001 x546002 x546003 x546004 x546005).bind fun bt551 => ((impl_vec_dot.f bt551.1 bt551.2 (wrap64 (x547002 - x546002)) (wrap64 (x547003 - x546003))).bind fun t555 => (if ((wrap64 (x547002 - x546002)) == 0 && ((wrap64 (x547003 - x546003)) == 0)) = true then (impl_Closest.j1 k (wrap64 (-t555)) true bt551.1 bt551.2 (wrap64 (x547002 - x546002)) (wrap64 (x547003 - x546003))) else (impl_Closest.j1 k (wrap64 (-t555)) (decide ((wrap64 (-t555)) < 0)) bt551.1 bt551.2 (wrap64 (x547002 - x546002)) (wrap64 (x547003 - x546003))))))
def impl_Closest.j1 : Nat → Int → Bool → Int → Int → Int → Int → Option (Int × Int × Int × Int × Bool)
 | 0, _, _, _, _, _, _ => none
 | k + 1, x9, x45, x554000, x554001, x555000, x555001 => if x45 = true then ((impl_vec_dot.f x554000 x554001 x554000 x554001).bind fun t556 => (some (0, 1, t556, 1, true))) else ((impl_vec_cross.f x554000 x554001 x555000 x555001).bind fun t557 => ((impl_vec_dot.f x555000 x555001 x555000 x555001).bind fun t558 => ((impl_fracOf.f k x9 t558).bind fun bt559 => ((impl_vec_dot.f x555000 x555001 x555000 x555001).bind fun t561 => ((impl_fracOf.f k (wrap64 (t557 * t557)) t561).bind fun bt562 => (some (bt559.1, bt559.2, bt562.1, bt562.2, true)))))))
end
def impl_Closest.f (k : Nat) (a0_0 : Int) (a0_1 : Int) (a0_2 : Int) (a0_3 : Int) (a0_4 : Int) (a0_5 : Int) (a1_0 : Int) (a1_1 : Int) (a1_2 : Int) (a1_3 : Int) (a1_4 : Int) (a1_5 : Int) : Option (Int × Int × Int × Int × Bool) := (impl_ShipOk.f a0_0 a0_1 a0_2 a0_3 a0_4 a0_5).bind fun t549 => (if t549 = true then ((impl_ShipOk.f a1_0 a1_1 a1_2 a1_3 a1_4 a1_5).bind fun t550 => (impl_Closest.j0 k (!t550) a0_0 a0_1 a0_2 a0_3 a0_4 a0_5 a1_0 a1_1 a1_2 a1_3 a1_4 a1_5)) else (impl_Closest.j0 k true a0_0 a0_1 a0_2 a0_3 a0_4 a0_5 a1_0 a1_1 a1_2 a1_3 a1_4 a1_5))
theorem impl_Closest.mono_l : ∀ k, (∀ y0 y1 y2 y3 y4 y5 y6 y7 y8 y9 y10 y11 y12, LeO (impl_Closest.j0 k y0 y1 y2 y3 y4 y5 y6 y7 y8 y9 y10 y11 y12) (impl_Closest.j0 (k + 1) y0 y1 y2 y3 y4 y5 y6 y7 y8 y9 y10 y11 y12)) ∧ (∀ y0 y1 y2 y3 y4 y5, LeO (impl_Closest.j1 k y0 y1 y2 y3 y4 y5) (impl_Closest.j1 (k + 1) y0 y1 y2 y3 y4 y5))
 | 0 => ⟨fun _ _ _ _ _ _ _ _ _ _ _ _ _ r h => by simp [impl_Closest.j0] at h, fun _ _ _ _ _ _ r h => by simp [impl_Closest.j1] at h⟩
 | k + 1 => by
  obtain ⟨ih0, ih1⟩ := impl_Closest.mono_l k
  refine ⟨?_, ?_⟩
  ·intro y0 y1 y2 y3 y4 y5 y6 y7 y8 y9 y10 y11 y12
   unfold impl_Closest.j0
   repeat' first
   | (with_reducible exact ih0 _ _ _ _ _ _ _ _ _ _ _ _ _)
   | (with_reducible exact ih1 _ _ _ _ _ _)
   | (with_reducible exact impl_fracOf.mono _ _ _)
   | (with_reducible exact LeO.refl _)
   | (with_reducible exact LeO.none _)
   | (with_reducible refine LeO.ite ?_ ?_)
   | (with_reducible refine LeO.bind ?_ (fun _ => ?_))
   | exact ih0 _ _ _ _ _ _ _ _ _ _ _ _ _
   | exact ih1 _ _ _ _ _ _
   | exact impl_fracOf.mono _ _ _
   | exact LeO.none _
   | refine LeO.ite ?_ ?_
   | refine LeO.bind ?_ (fun _ => ?_)
  ·intro y0 y1 y2 y3 y4 y5
   unfold impl_Closest.j1
   repeat' first
   | (with_reducible exact ih0 _ _ _ _ _ _ _ _ _ _ _ _ _)
   | (with_reducible exact ih1 _ _ _ _ _ _)
   | (with_reducible exact impl_fracOf.mono _ _ _)
   | (with_reducible exact LeO.refl _)
   | (with_reducible exact LeO.none _)
   | (with_reducible refine LeO.ite ?_ ?_)
   | (with_reducible refine LeO.bind ?_ (fun _ => ?_))
   | exact ih0 _ _ _ _ _ _ _ _ _ _ _ _ _
   | exact ih1 _ _ _ _ _ _
   | exact impl_fracOf.mono _ _ _
   | exact LeO.none _
   | refine LeO.ite ?_ ?_
   | refine LeO.bind ?_ (fun _ => ?_)
theorem impl_Closest.mono : ∀ a0 a1 a2 a3 a4 a5 a6 a7 a8 a9 a10 a11 k, LeO (impl_Closest.f k a0 a1 a2 a3 a4 a5 a6 a7 a8 a9 a10 a11) (impl_Closest.f (k + 1) a0 a1 a2 a3 a4 a5 a6 a7 a8 a9 a10 a11) := by
 intro a0 a1 a2 a3 a4 a5 a6 a7 a8 a9 a10 a11 k
 obtain ⟨ih0, ih1⟩ := impl_Closest.mono_l k
 unfold impl_Closest.f
 repeat' first
   | (with_reducible exact ih0 _ _ _ _ _ _ _ _ _ _ _ _ _)
   | (with_reducible exact ih1 _ _ _ _ _ _)
   | (with_reducible exact impl_fracOf.mono _ _ _)
   | (with_reducible exact LeO.refl _)
   | (with_reducible exact LeO.none _)
   | (with_reducible refine LeO.ite ?_ ?_)
   | (with_reducible refine LeO.bind ?_ (fun _ => ?_))
   | exact ih0 _ _ _ _ _ _ _ _ _ _ _ _ _
   | exact ih1 _ _ _ _ _ _
   | exact impl_fracOf.mono _ _ _
   | exact LeO.none _
   | refine LeO.ite ?_ ?_
   | refine LeO.bind ?_ (fun _ => ?_)
def impl_Closest.T3 : Bool × List (List Nat × List Nat) := (true, [([], []), ([], []), ([0, 1], [0, 1]), ([], []), ([3], [3]), ([], []), ([5], [5]), ([4, 6], [4, 6]), ([], []), ([8], [8]), ([], []), ([10], [10]), ([9, 11], [9, 11]), ([7, 12], [7, 12]), ([], []), ([], []), ([14, 2, 2, 0, 1, 2, 14, 15], [2, 14]), ([15, 13, 16, 0, 1, 2, 3, 4, 5, 6, 7, 8, 9, 10, 11, 12, 13, 14, 15, 16], [13, 15])])
def impl_Closest.B3 : List Nat := [0, 0, 3, 0, 8, 0, 32, 120, 0, 256, 0, 1024, 3840, 8184, 0, 0, 49159, 131071]
theorem impl_Closest.tab3 : rtab .any (opsOf Try.f38 3) = impl_Closest.T3 := by kernel_rfl
theorem impl_Closest.bits3 : waitsOk impl_Closest.T3.2 impl_Closest.B3 = true := by kernel_rfl
def impl_Closest.T8 : Bool × List (List Nat × List Nat) := (true, [([], []), ([], []), ([], []), ([1, 2], [1, 2]), ([0, 3, 3], [0, 3]), ([], []), ([], []), ([5, 6], [5, 6]), ([], []), ([], []), ([8, 9, 4], [8, 9]), ([7, 10, 10], [7, 10]), ([4, 11, 0, 1, 2, 3, 4], [4]), ([11, 12, 0, 1, 2, 3, 4, 5, 6, 7, 8, 9, 10, 11, 12], [11]), ([13, 0, 1, 2, 3, 4, 5, 6, 7, 8, 9, 10, 11, 12, 13], [])])
def impl_Closest.B8 : List Nat := [0, 0, 0, 6, 15, 0, 0, 96, 0, 0, 799, 2047, 4095, 8191, 16383]
theorem impl_Closest.tab8 : rtab .any (opsOf Try.f38 8) = impl_Closest.T8 := by kernel_rfl
theorem impl_Closest.bits8 : waitsOk impl_Closest.T8.2 impl_Closest.B8 = true := by kernel_rfl
set_option maxHeartbeats 8000000 in
set_option maxRecDepth 100000 in
theorem impl_Closest.calls (k : Nat) (a0_0 : Int) (a0_1 : Int) (a0_2 : Int) (a0_3 : Int) (a0_4 : Int) (a0_5 : Int) (a1_0 : Int) (a1_1 : Int) (a1_2 : Int) (a1_3 : Int) (a1_4 : Int) (a1_5 : Int) (r1 : Int) (r2 : Int) (r3 : Int) (r4 : Int) (r5 : Bool) (w : World) (h : impl_Closest.f k a0_0 a0_1 a0_2 a0_3 a0_4 a0_5 a1_0 a1_1 a1_2 a1_3 a1_4 a1_5 = some (r1, r2, r3, r4, r5)) :
  Calls Try.prog 38 #[.agg #[.int .i64 a0_0, .int .i64 a0_1, .int .i64 a0_2, .int .i64 a0_3, .int .i64 a0_4, .int .i64 a0_5], .agg #[.int .i64 a1_0, .int .i64 a1_1, .int .i64 a1_2, .int .i64 a1_3, .int .i64 a1_4, .int .i64 a1_5]] w fun e w' => e = .returned (.tuple #[.agg #[.int .i64 r1, .int .i64 r2], .agg #[.int .i64 r3, .int .i64 r4], .bool r5]) ∧ Below w.heap.size w w' := by
 have hu25 := Try.underlying25
 have hu58 := Try.underlying58
 have hu89 := Try.underlying89
 have HB := Aside0.mk (Below.refl w.heap.size w)
 have H : ((impl_ShipOk.f a0_0 a0_1 a0_2 a0_3 a0_4 a0_5).bind fun t549 => (if t549 = true then ((impl_ShipOk.f a1_0 a1_1 a1_2 a1_3 a1_4 a1_5).bind fun t550 => (impl_Closest.j0 k (!t550) a0_0 a0_1 a0_2 a0_3 a0_4 a0_5 a1_0 a1_1 a1_2 a1_3 a1_4 a1_5)) else (impl_Closest.j0 k true a0_0 a0_1 a0_2 a0_3 a0_4 a0_5 a1_0 a1_1 a1_2 a1_3 a1_4 a1_5))) = some (r1, r2, r3, r4, r5) := h
 clear h
 have HC3 := Aside0.mk H
 clear H
 go_enter Try.func38, Try.ntmps38
 go_upto_region 1 with (first | ((with_reducible refine gate_dst (N := 2) rfl ?_); refine box_event ?hg (N := 2) ?hd (cs := #[.int .i64 a0_0, .int .i64 a0_1, .int .i64 a0_2, .int .i64 a0_3, .int .i64 a0_4, .int .i64 a0_5]) (t := 25) ?hr ?_; (case hd => rfl); (case hg => rfl); (case hr => first | (go_simp; done) | (go_simp; rfl)); intro gb545 hg w1 hbox hb; have n0_ := Aside0.mk (below_step (by repeat (first | (with_reducible first | exact HB.out | apply below_alloc | apply pw_below_drewN | apply below_drew1) | exact HB.out)) hb); have n1_ := Aside0.mk (hbox); have n2_ := Aside0.mk (ns hg (by repeat (first | (with_reducible first | exact HB.out | apply below_alloc | apply pw_below_drewN | apply below_drew1) | exact HB.out)) : w.heap.size ≤ gb545); have n3_ := Aside0.mk (ns hg (by repeat (first | (with_reducible first | exact HB.out | apply below_alloc | apply pw_below_drewN | apply below_drew1) | exact HB.out)) : w.heap.size ≤ gb545); clear HB; have HB := n0_; have BK545 := n1_; have GW545 := n2_; have GE545 := n3_; clear n0_ n1_ n2_ n3_; clear hb hbox hg) | ((with_reducible refine gate_dst (N := 3) rfl ?_); refine box_event ?hg (N := 3) ?hd (cs := #[.int .i64 a1_0, .int .i64 a1_1, .int .i64 a1_2, .int .i64 a1_3, .int .i64 a1_4, .int .i64 a1_5]) (t := 25) ?hr ?_; (case hd => rfl); (case hg => rfl); (case hr => first | (go_simp; done) | (go_simp; rfl)); intro gb546 hg w2 hbox hb; have n0_ := Aside0.mk (bb (zk BK545.out) hb); have n1_ := Aside0.mk (below_step (by repeat (first | (with_reducible first | exact HB.out | apply below_alloc | apply pw_below_drewN | apply below_drew1 | refine below_set ?_ GE545.out) | exact HB.out)) hb); have n2_ := Aside0.mk (hbox); have n3_ := Aside0.mk (ns hg (by repeat (first | (with_reducible first | exact HB.out | apply below_alloc | apply pw_below_drewN | apply below_drew1 | refine below_set ?_ GE545.out) | exact HB.out)) : w.heap.size ≤ gb546); have n4_ := Aside0.mk (ns hg (by repeat (first | (with_reducible first | exact HB.out | apply below_alloc | apply pw_below_drewN | apply below_drew1 | refine below_set ?_ GE545.out) | exact HB.out)) : w.heap.size ≤ gb546); have n5_ := Aside0.mk ((nlt hg (zk BK545.out) : gb545 ≠ gb546)); have n6_ := Aside0.mk ((ngt hg (zk BK545.out) : gb546 ≠ gb545)); clear BK545; clear HB; have BK545 := n0_; have HB := n1_; have BK546 := n2_; have GW546 := n3_; have GE546 := n4_; have NB545_546 := n5_; have NB546_545 := n6_; clear n0_ n1_ n2_ n3_ n4_ n5_ n6_; clear hb hbox hg) | ((with_reducible refine gate_dst (N := 4) rfl ?_); refine box_event ?hg (N := 4) ?hd (cs := #[.int .i64 0, .int .i64 0]) (t := 58) ?hr ?_; (case hd => rfl); (case hg => rfl); (case hr => first | (go_simp; done) | (go_simp; rfl)); intro gb547 hg w3 hbox hb; have n0_ := Aside0.mk (bb (zk BK545.out) hb); have n1_ := Aside0.mk (bb (zk BK546.out) hb); have n2_ := Aside0.mk (below_step s17_7 hb); have n3_ := Aside0.mk (hbox); have n4_ := Aside0.mk (ns hg s17_7 : w.heap.size ≤ gb547); have n5_ := Aside0.mk (ns hg s17_7 : w.heap.size ≤ gb547); have n6_ := Aside0.mk ((nlt hg (zk BK545.out) : gb545 ≠ gb547)); have n7_ := Aside0.mk ((ngt hg (zk BK545.out) : gb547 ≠ gb545)); have n8_ := Aside0.mk ((nlt hg (zk BK546.out) : gb546 ≠ gb547)); have n9_ := Aside0.mk ((ngt hg (zk BK546.out) : gb547 ≠ gb546)); clear BK545; clear BK546; clear HB; have BK545 := n0_; have BK546 := n1_; have HB := n2_; have BK547 := n3_; have GW547 := n4_; have GE547 := n5_; have NB545_547 := n6_; have NB547_545 := n7_; have NB546_547 := n8_; have NB547_546 := n9_; clear n0_ n1_ n2_ n3_ n4_ n5_ n6_ n7_ n8_ n9_; clear hb hbox hg) | ((with_reducible refine gate_dst (N := 5) rfl ?_); refine box_event ?hg (N := 5) ?hd (cs := #[.int .i64 0, .int .i64 0]) (t := 58) ?hr ?_; (case hd => rfl); (case hg => rfl); (case hr => first | (go_simp; done) | (go_simp; rfl)); intro gb548 hg w4 hbox hb; have n0_ := Aside0.mk (bb (zk BK545.out) hb); have n1_ := Aside0.mk (bb (zk BK546.out) hb); have n2_ := Aside0.mk (bb (zk BK547.out) hb); have n3_ := Aside0.mk (below_step s17_6 hb); have n4_ := Aside0.mk (hbox); have n5_ := Aside0.mk (ns hg s17_6 : w.heap.size ≤ gb548); have n6_ := Aside0.mk (ns hg s17_6 : w.heap.size ≤ gb548); have n7_ := Aside0.mk ((nlt hg (zk BK545.out) : gb545 ≠ gb548)); have n8_ := Aside0.mk ((ngt hg (zk BK545.out) : gb548 ≠ gb545)); have n9_ := Aside0.mk ((nlt hg (zk BK546.out) : gb546 ≠ gb548)); have n10_ := Aside0.mk ((ngt hg (zk BK546.out) : gb548 ≠ gb546)); have n11_ := Aside0.mk ((nlt hg (zk BK547.out) : gb547 ≠ gb548)); have n12_ := Aside0.mk ((ngt hg (zk BK547.out) : gb548 ≠ gb547)); clear BK545; clear BK546; clear BK547; clear HB; have BK545 := n0_; have BK546 := n1_; have BK547 := n2_; have HB := n3_; have BK548 := n4_; have GW548 := n5_; have GE548 := n6_; have NB545_548 := n7_; have NB548_545 := n8_; have NB546_548 := n9_; have NB548_546 := n10_; have NB547_548 := n11_; have NB548_547 := n12_; clear n0_ n1_ n2_ n3_ n4_ n5_ n6_ n7_ n8_ n9_ n10_ n11_ n12_; clear hb hbox hg))
 (try simp only [Act.put, List.setIfInBounds_toArray, List.set_cons_zero, List.set_cons_succ])
 go_cut [18] (fun v18 wc => ∃ (kq : Nat) (x18_2 : Bool), v18 = .bool x18_2 ∧ Aside0 (impl_Closest.j0 kq x18_2 a0_0 a0_1 a0_2 a0_3 a0_4 a0_5 a1_0 a1_1 a1_2 a1_3 a1_4 a1_5 = some (r1, r2, r3, r4, r5)) ∧ Aside0 (kq ≤ k) ∧ Aside0 (wc.heap[gb545]? = some (.cells #[.int .i64 a0_0, .int .i64 a0_1, .int .i64 a0_2, .int .i64 a0_3, .int .i64 a0_4, .int .i64 a0_5] 25 (0, 0))) ∧ Aside0 (wc.heap[gb546]? = some (.cells #[.int .i64 a1_0, .int .i64 a1_1, .int .i64 a1_2, .int .i64 a1_3, .int .i64 a1_4, .int .i64 a1_5] 25 (0, 0))) ∧ Aside0 (wc.heap[gb547]? = some (.cells #[.int .i64 0, .int .i64 0] 58 (0, 0))) ∧ Aside0 (wc.heap[gb548]? = some (.cells #[.int .i64 0, .int .i64 0] 58 (0, 0))) ∧ Aside0 (Below w.heap.size w wc))
 case first =>
  have H := HC3.out
  clear HC3
  replace H := Option.bind_eq_some_iff.mp H
  obtain ⟨t549, A80, H⟩ := H
  replace H : (if t549 = true then ((impl_ShipOk.f a1_0 a1_1 a1_2 a1_3 a1_4 a1_5).bind fun t550 => (impl_Closest.j0 k (!t550) a0_0 a0_1 a0_2 a0_3 a0_4 a0_5 a1_0 a1_1 a1_2 a1_3 a1_4 a1_5)) else (impl_Closest.j0 k true a0_0 a0_1 a0_2 a0_3 a0_4 a0_5 a1_0 a1_1 a1_2 a1_3 a1_4 a1_5)) = some (r1, r2, r3, r4, r5) := H
  have A8 := Aside0.mk A80
  clear A80
  by_cases c9 : t549 = true
  ·subst c9
   have H1 : ((impl_ShipOk.f a1_0 a1_1 a1_2 a1_3 a1_4 a1_5).bind fun t550 => (impl_Closest.j0 k (!t550) a0_0 a0_1 a0_2 a0_3 a0_4 a0_5 a1_0 a1_1 a1_2 a1_3 a1_4 a1_5)) = some (r1, r2, r3, r4, r5) := by rw [if_pos rfl] at H; exact H
   clear H
   have H := H1
   clear H1
   replace H := Option.bind_eq_some_iff.mp H
   obtain ⟨t550, A100, H⟩ := H
   replace H : (impl_Closest.j0 k (!t550) a0_0 a0_1 a0_2 a0_3 a0_4 a0_5 a1_0 a1_1 a1_2 a1_3 a1_4 a1_5) = some (r1, r2, r3, r4, r5) := H
   have A10 := Aside0.mk A100
   clear A100
   have H' := Aside0.mk H
   clear H
   have hnb11 := NB545_546.out
   have hnc11 := NB546_545.out
   have hnb12 := NB545_547.out
   have hnc12 := NB547_545.out
   have hnb13 := NB545_548.out
   have hnc13 := NB548_545.out
   have hcz14_0 : w4.cell? ⟨gb545, 0, none⟩ = some (.int .i64 a0_0) := bc BK545.out 0
   have hcz14_1 : w4.cell? ⟨gb545, 1, none⟩ = some (.int .i64 a0_1) := bc BK545.out 1
   have hcz14_2 : w4.cell? ⟨gb545, 2, none⟩ = some (.int .i64 a0_2) := bc BK545.out 2
   have hcz14_3 : w4.cell? ⟨gb545, 3, none⟩ = some (.int .i64 a0_3) := bc BK545.out 3
   have hcz14_4 : w4.cell? ⟨gb545, 4, none⟩ = some (.int .i64 a0_4) := bc BK545.out 4
   have hcz14_5 : w4.cell? ⟨gb545, 5, none⟩ = some (.int .i64 a0_5) := bc BK545.out 5
   have hfz14_0 := blk_frozen BK545.out 0
   have hfz14_1 := blk_frozen BK545.out 1
   have hfz14_2 := blk_frozen BK545.out 2
   have hfz14_3 := blk_frozen BK545.out 3
   have hfz14_4 := blk_frozen BK545.out 4
   have hfz14_5 := blk_frozen BK545.out 5
   go_wp2_with (first | ((with_reducible refine gate_callee (f := 17) rfl ?_); refine goesL_ (some 12) rfl rfl Try.func17 (by kernel_rfl) rfl #[.agg #[.int .i64 a0_0, .int .i64 a0_1, .int .i64 a0_2, .int .i64 a0_3, .int .i64 a0_4, .int .i64 a0_5]] rfl s17_4 ?_; (with_reducible refine (impl_ShipOk.calls a0_0 a0_1 a0_2 a0_3 a0_4 a0_5 true _ A8.out).mono ?_); rintro e w5 ⟨rfl, hb⟩; refine ⟨_, rfl, ?_⟩; have n0_ := Aside0.mk (bb (zk BK545.out) hb); have n1_ := Aside0.mk (bb (zk BK546.out) hb); have n2_ := Aside0.mk (bb (zk BK547.out) hb); have n3_ := Aside0.mk (bb (zk BK548.out) hb); have n4_ := Aside0.mk (below_step s17_0 hb); clear BK545; clear BK546; clear BK547; clear BK548; clear HB; have BK545 := n0_; have BK546 := n1_; have BK547 := n2_; have BK548 := n3_; have HB := n4_; clear n0_ n1_ n2_ n3_ n4_; (try clear hb); (try clear hb2); (try clear hk); (try clear hi); have hnb16 := NB546_547.out; have hnc16 := NB547_546.out; have hnb17 := NB546_548.out; have hnc17 := NB548_546.out; have hcz18_0 : w5.cell? ⟨gb546, 0, none⟩ = some (.int .i64 a1_0) := bc BK546.out 0; have hcz18_1 : w5.cell? ⟨gb546, 1, none⟩ = some (.int .i64 a1_1) := bc BK546.out 1; have hcz18_2 : w5.cell? ⟨gb546, 2, none⟩ = some (.int .i64 a1_2) := bc BK546.out 2; have hcz18_3 : w5.cell? ⟨gb546, 3, none⟩ = some (.int .i64 a1_3) := bc BK546.out 3; have hcz18_4 : w5.cell? ⟨gb546, 4, none⟩ = some (.int .i64 a1_4) := bc BK546.out 4; have hcz18_5 : w5.cell? ⟨gb546, 5, none⟩ = some (.int .i64 a1_5) := bc BK546.out 5; have hfz18_0 := blk_frozen BK546.out 0; have hfz18_1 := blk_frozen BK546.out 1; have hfz18_2 := blk_frozen BK546.out 2; have hfz18_3 := blk_frozen BK546.out 3; have hfz18_4 := blk_frozen BK546.out 4; have hfz18_5 := blk_frozen BK546.out 5) | (go_at_call 17; (with_reducible refine (impl_ShipOk.calls a1_0 a1_1 a1_2 a1_3 a1_4 a1_5 t550 _ A10.out).mono ?_); rintro e w6 ⟨rfl, hb⟩; have n0_ := Aside0.mk (bb (zk BK545.out) hb); have n1_ := Aside0.mk (bb (zk BK546.out) hb); have n2_ := Aside0.mk (bb (zk BK547.out) hb); have n3_ := Aside0.mk (bb (zk BK548.out) hb); have n4_ := Aside0.mk (below_step s17_0 hb); clear BK545; clear BK546; clear BK547; clear BK548; clear HB; have BK545 := n0_; have BK546 := n1_; have BK547 := n2_; have BK548 := n3_; have HB := n4_; clear n0_ n1_ n2_ n3_ n4_; (try clear hb); (try clear hb2); (try clear hk); (try clear hi)))
   go_meet
   case rel => exact ⟨_, (!t550), (by first | rfl | (simp; done) | (simp [*]; done)), H', ⟨by first | omega | exact Nat.le_refl _⟩, ⟨by (with_reducible repeat (first | refine blk_drewN ?_ _ | refine blk_drew ?_ | refine blk_alloc ?_ _)); exact BK545.out⟩, ⟨by (with_reducible repeat (first | refine blk_drewN ?_ _ | refine blk_drew ?_ | refine blk_alloc ?_ _)); exact BK546.out⟩, ⟨by (with_reducible repeat (first | refine blk_drewN ?_ _ | refine blk_drew ?_ | refine blk_alloc ?_ _)); exact BK547.out⟩, ⟨by (with_reducible repeat (first | refine blk_drewN ?_ _ | refine blk_drew ?_ | refine blk_alloc ?_ _)); exact BK548.out⟩, ⟨by repeat (first | (with_reducible first | exact HB.out | apply below_alloc | apply pw_below_drewN | apply below_drew1 | refine below_set ?_ GE545.out | refine below_set ?_ GE546.out | refine below_set ?_ GE547.out | refine below_set ?_ GE548.out) | exact HB.out)⟩⟩
  ·replace c9 := Bool.eq_false_iff.mpr c9
   subst c9
   have H1 : (impl_Closest.j0 k true a0_0 a0_1 a0_2 a0_3 a0_4 a0_5 a1_0 a1_1 a1_2 a1_3 a1_4 a1_5) = some (r1, r2, r3, r4, r5) := by rw [if_neg (show ¬ (false = true) by decide)] at H; exact H
   clear H
   have H := H1
   clear H1
   have H' := Aside0.mk H
   clear H
   have hnb20 := NB545_546.out
   have hnc20 := NB546_545.out
   have hnb21 := NB545_547.out
   have hnc21 := NB547_545.out
   have hnb22 := NB545_548.out
   have hnc22 := NB548_545.out
   have hcz23_0 : w4.cell? ⟨gb545, 0, none⟩ = some (.int .i64 a0_0) := bc BK545.out 0
   have hcz23_1 : w4.cell? ⟨gb545, 1, none⟩ = some (.int .i64 a0_1) := bc BK545.out 1
   have hcz23_2 : w4.cell? ⟨gb545, 2, none⟩ = some (.int .i64 a0_2) := bc BK545.out 2
   have hcz23_3 : w4.cell? ⟨gb545, 3, none⟩ = some (.int .i64 a0_3) := bc BK545.out 3
   have hcz23_4 : w4.cell? ⟨gb545, 4, none⟩ = some (.int .i64 a0_4) := bc BK545.out 4
   have hcz23_5 : w4.cell? ⟨gb545, 5, none⟩ = some (.int .i64 a0_5) := bc BK545.out 5
   have hfz23_0 := blk_frozen BK545.out 0
   have hfz23_1 := blk_frozen BK545.out 1
   have hfz23_2 := blk_frozen BK545.out 2
   have hfz23_3 := blk_frozen BK545.out 3
   have hfz23_4 := blk_frozen BK545.out 4
   have hfz23_5 := blk_frozen BK545.out 5
   go_wp2_with (first | ((with_reducible refine gate_callee (f := 17) rfl ?_); refine goesL_ (some 12) rfl rfl Try.func17 (by kernel_rfl) rfl #[.agg #[.int .i64 a0_0, .int .i64 a0_1, .int .i64 a0_2, .int .i64 a0_3, .int .i64 a0_4, .int .i64 a0_5]] rfl s17_4 ?_; (with_reducible refine (impl_ShipOk.calls a0_0 a0_1 a0_2 a0_3 a0_4 a0_5 false _ A8.out).mono ?_); rintro e w5 ⟨rfl, hb⟩; refine ⟨_, rfl, ?_⟩; have n0_ := Aside0.mk (bb (zk BK545.out) hb); have n1_ := Aside0.mk (bb (zk BK546.out) hb); have n2_ := Aside0.mk (bb (zk BK547.out) hb); have n3_ := Aside0.mk (bb (zk BK548.out) hb); have n4_ := Aside0.mk (below_step s17_0 hb); clear BK545; clear BK546; clear BK547; clear BK548; clear HB; have BK545 := n0_; have BK546 := n1_; have BK547 := n2_; have BK548 := n3_; have HB := n4_; clear n0_ n1_ n2_ n3_ n4_; (try clear hb); (try clear hb2); (try clear hk); (try clear hi)))
   go_meet
   case rel => exact ⟨_, (true), (by first | rfl | (simp; done) | (simp [*]; done)), H', ⟨by first | omega | exact Nat.le_refl _⟩, ⟨by (with_reducible repeat (first | refine blk_drewN ?_ _ | refine blk_drew ?_ | refine blk_alloc ?_ _)); exact BK545.out⟩, ⟨by (with_reducible repeat (first | refine blk_drewN ?_ _ | refine blk_drew ?_ | refine blk_alloc ?_ _)); exact BK546.out⟩, ⟨by (with_reducible repeat (first | refine blk_drewN ?_ _ | refine blk_drew ?_ | refine blk_alloc ?_ _)); exact BK547.out⟩, ⟨by (with_reducible repeat (first | refine blk_drewN ?_ _ | refine blk_drew ?_ | refine blk_alloc ?_ _)); exact BK548.out⟩, ⟨by repeat (first | (with_reducible first | exact HB.out | apply below_alloc | apply pw_below_drewN | apply below_drew1 | refine below_set ?_ GE545.out | refine below_set ?_ GE546.out | refine below_set ?_ GE547.out | refine below_set ?_ GE548.out) | exact HB.out)⟩⟩
 case rest =>
  clear HC3
  (try clear c1); (try clear c2); (try clear p2); (try clear c3); (try clear c9); (try clear c11); (try clear c12); (try clear c13); (try clear c16); (try clear c17); (try clear c20); (try clear c21); (try clear c22); (try clear hcz14_0); (try clear hcz14_1); (try clear hcz14_2); (try clear hcz14_3); (try clear hcz14_4); (try clear hcz14_5); (try clear hcz18_0); (try clear hcz18_1); (try clear hcz18_2); (try clear hcz18_3); (try clear hcz18_4); (try clear hcz18_5); (try clear hcz23_0); (try clear hcz23_1); (try clear hcz23_2); (try clear hcz23_3); (try clear hcz23_4); (try clear hcz23_5); (try clear hfz14_0); (try clear hfz14_1); (try clear hfz14_2); (try clear hfz14_3); (try clear hfz14_4); (try clear hfz14_5); (try clear hfz18_0); (try clear hfz18_1); (try clear hfz18_2); (try clear hfz18_3); (try clear hfz18_4); (try clear hfz18_5); (try clear hfz23_0); (try clear hfz23_1); (try clear hfz23_2); (try clear hfz23_3); (try clear hfz23_4); (try clear hfz23_5)
  obtain ⟨kq, x18_2, rfl, HA, HJ2, BK545, BK546, BK547, BK548, HB⟩ := hcut
  cases kq with
  | zero => exact absurd HA.out (by simp [impl_Closest.j0])
  | succ kj2 =>
   have H := HA.out
   clear HA
   simp only [impl_Closest.j0] at H
   by_cases c25 : x18_2 = true
   ·subst c25
    have H1 : (some (0, 0, 0, 0, false)) = some (r1, r2, r3, r4, r5) := by rw [if_pos rfl] at H; exact H
    clear H
    have H := H1
    clear H1
    simp only [Option.some.injEq, Prod.mk.injEq] at H
    obtain ⟨rfl, rfl, rfl, rfl, rfl⟩ := H
    have hnb26 := NB547_545.out
    have hnc26 := NB545_547.out
    have hnb27 := NB547_546.out
    have hnc27 := NB546_547.out
    have hnb28 := NB547_548.out
    have hnc28 := NB548_547.out
    have hcz29_0 : wc.cell? ⟨gb547, 0, none⟩ = some (.int .i64 0) := bc BK547.out 0
    have hcz29_1 : wc.cell? ⟨gb547, 1, none⟩ = some (.int .i64 0) := bc BK547.out 1
    have hfz29_0 := blk_frozen BK547.out 0
    have hfz29_1 := blk_frozen BK547.out 1
    have hnb30 := NB548_545.out
    have hnc30 := NB545_548.out
    have hnb31 := NB548_546.out
    have hnc31 := NB546_548.out
    have hcz32_0 : wc.cell? ⟨gb548, 0, none⟩ = some (.int .i64 0) := bc BK548.out 0
    have hcz32_1 : wc.cell? ⟨gb548, 1, none⟩ = some (.int .i64 0) := bc BK548.out 1
    have hfz32_0 := blk_frozen BK548.out 0
    have hfz32_1 := blk_frozen BK548.out 1
    go_wp2
    refine bodyPost_ret (results_list (rs := [.cell 4 58, .cell 5 58, .tmp 6]) rfl (by simp) (.cell gb547 58 #[.int .i64 0, .int .i64 0] (0, 0) _ rfl (by (with_reducible repeat (first | refine blk_drewN ?_ _ | refine blk_drew ?_ | refine blk_alloc ?_ _)); refine blk_far ?_ NB547_548.out _; (with_reducible repeat (first | refine blk_drewN ?_ _ | refine blk_drew ?_ | refine blk_alloc ?_ _)); refine blk_far ?_ NB547_548.out _; (with_reducible repeat (first | refine blk_drewN ?_ _ | refine blk_drew ?_ | refine blk_alloc ?_ _)); refine blk_put (cs := #[.int .i64 0, .int .i64 0]) ?_ 1 _ rfl; (with_reducible repeat (first | refine blk_drewN ?_ _ | refine blk_drew ?_ | refine blk_alloc ?_ _)); refine blk_put (cs := #[.int .i64 0, .int .i64 0]) ?_ 0 _ rfl; (with_reducible repeat (first | refine blk_drewN ?_ _ | refine blk_drew ?_ | refine blk_alloc ?_ _)); exact BK547.out) Try.underlying58 rfl (by kernel_rfl) (.cell gb548 58 #[.int .i64 0, .int .i64 0] (0, 0) _ rfl (by (with_reducible repeat (first | refine blk_drewN ?_ _ | refine blk_drew ?_ | refine blk_alloc ?_ _)); refine blk_put (cs := #[.int .i64 0, .int .i64 0]) ?_ 1 _ rfl; (with_reducible repeat (first | refine blk_drewN ?_ _ | refine blk_drew ?_ | refine blk_alloc ?_ _)); refine blk_put (cs := #[.int .i64 0, .int .i64 0]) ?_ 0 _ rfl; (with_reducible repeat (first | refine blk_drewN ?_ _ | refine blk_drew ?_ | refine blk_alloc ?_ _)); refine blk_far ?_ NB548_547.out _; (with_reducible repeat (first | refine blk_drewN ?_ _ | refine blk_drew ?_ | refine blk_alloc ?_ _)); refine blk_far ?_ NB548_547.out _; (with_reducible repeat (first | refine blk_drewN ?_ _ | refine blk_drew ?_ | refine blk_alloc ?_ _)); exact BK548.out) Try.underlying58 rfl (by kernel_rfl) (.tmp .nil)))) rfl ?_
    exact ⟨by first | rfl | (simp [errW_none, errW_some] <;> rfl) | (simp [*, errW_none, errW_some] <;> rfl), by repeat (first | (with_reducible first | exact HB.out | apply below_alloc | apply pw_below_drewN | apply below_drew1 | refine below_set ?_ GE545.out | refine below_set ?_ GE546.out | refine below_set ?_ GE547.out | refine below_set ?_ GE548.out) | exact HB.out)⟩
   ·replace c25 := Bool.eq_false_iff.mpr c25
    subst c25
    have H1 : ((impl_bearing.f a1_0 a1_1 a1_2 a1_3 a1_4 a1_5 a0_0 a0_1 a0_2 a0_3 a0_4 a0_5).bind fun bt551 => ((impl_vec_dot.f bt551.1 bt551.2 (wrap64 (a1_2 - a0_2)) (wrap64 (a1_3 - a0_3))).bind fun t555 => (if ((wrap64 (a1_2 - a0_2)) == 0 && ((wrap64 (a1_3 - a0_3)) == 0)) = true then (impl_Closest.j1 kj2 (wrap64 (-t555)) true bt551.1 bt551.2 (wrap64 (a1_2 - a0_2)) (wrap64 (a1_3 - a0_3))) else (impl_Closest.j1 kj2 (wrap64 (-t555)) (decide ((wrap64 (-t555)) < 0)) bt551.1 bt551.2 (wrap64 (a1_2 - a0_2)) (wrap64 (a1_3 - a0_3)))))) = some (r1, r2, r3, r4, r5) := by rw [if_neg (show ¬ (false = true) by decide)] at H; exact H
    clear H
    have H := H1
    clear H1
    replace H := Option.bind_eq_some_iff.mp H
    obtain ⟨⟨t551, t552⟩, A330, H⟩ := H
    replace H : ((impl_vec_dot.f t551 t552 (wrap64 (a1_2 - a0_2)) (wrap64 (a1_3 - a0_3))).bind fun t555 => (if ((wrap64 (a1_2 - a0_2)) == 0 && ((wrap64 (a1_3 - a0_3)) == 0)) = true then (impl_Closest.j1 kj2 (wrap64 (-t555)) true t551 t552 (wrap64 (a1_2 - a0_2)) (wrap64 (a1_3 - a0_3))) else (impl_Closest.j1 kj2 (wrap64 (-t555)) (decide ((wrap64 (-t555)) < 0)) t551 t552 (wrap64 (a1_2 - a0_2)) (wrap64 (a1_3 - a0_3))))) = some (r1, r2, r3, r4, r5) := H
    have A33 := Aside0.mk A330
    clear A330
    replace H := Option.bind_eq_some_iff.mp H
    obtain ⟨t555, A340, H⟩ := H
    replace H : (if ((wrap64 (a1_2 - a0_2)) == 0 && ((wrap64 (a1_3 - a0_3)) == 0)) = true then (impl_Closest.j1 kj2 (wrap64 (-t555)) true t551 t552 (wrap64 (a1_2 - a0_2)) (wrap64 (a1_3 - a0_3))) else (impl_Closest.j1 kj2 (wrap64 (-t555)) (decide ((wrap64 (-t555)) < 0)) t551 t552 (wrap64 (a1_2 - a0_2)) (wrap64 (a1_3 - a0_3)))) = some (r1, r2, r3, r4, r5) := H
    have A34 := Aside0.mk A340
    clear A340
    have HC35 := Aside0.mk H
    clear H
    try go_wp2
    have n0_ := Aside0.mk (blk_drew BK545.out)
    have n1_ := Aside0.mk (blk_drew BK546.out)
    have n2_ := Aside0.mk (blk_drew BK547.out)
    have n3_ := Aside0.mk (blk_drew BK548.out)
    have n4_ := Aside0.mk (below_drew1 HB.out)
    clear BK545 BK546 BK547 BK548 HB
    have BK545 := n0_
    have BK546 := n1_
    have BK547 := n2_
    have BK548 := n3_
    have HB := n4_
    clear n0_ n1_ n2_ n3_ n4_
    refine start_ (n := 18) (S := fun w' => w'.cell? ⟨gb546, 0, none⟩ = some (.int .i64 a1_0) ∧ w'.cell? ⟨gb546, 1, none⟩ = some (.int .i64 a1_1) ∧ w'.cell? ⟨gb546, 2, none⟩ = some (.int .i64 a1_2) ∧ w'.cell? ⟨gb546, 3, none⟩ = some (.int .i64 a1_3) ∧ w'.cell? ⟨gb546, 4, none⟩ = some (.int .i64 a1_4) ∧ w'.cell? ⟨gb546, 5, none⟩ = some (.int .i64 a1_5) ∧ w'.cell? ⟨gb545, 0, none⟩ = some (.int .i64 a0_0) ∧ w'.cell? ⟨gb545, 1, none⟩ = some (.int .i64 a0_1) ∧ w'.cell? ⟨gb545, 2, none⟩ = some (.int .i64 a0_2) ∧ w'.cell? ⟨gb545, 3, none⟩ = some (.int .i64 a0_3) ∧ w'.cell? ⟨gb545, 4, none⟩ = some (.int .i64 a0_4) ∧ w'.cell? ⟨gb545, 5, none⟩ = some (.int .i64 a0_5)) (ds := []) #[false, false, false, false, false, false, false, false, false, false, false, false, false, false, false, false, false, false] (by kernel_rfl) rfl rfl ⟨bc BK546.out 0, bc BK546.out 1, bc BK546.out 2, bc BK546.out 3, bc BK546.out 4, bc BK546.out 5, bc BK545.out 0, bc BK545.out 1, bc BK545.out 2, bc BK545.out 3, bc BK545.out 4, bc BK545.out 5⟩ (fun hHeld => ?_); refine with_tabW impl_Closest.tab3 impl_Closest.bits3 (fun HT_ HW_ => ?_)
    generalize wc.drew = w5 at BK545 BK546 BK547 BK548 HB hHeld ⊢
    refine pure_ (i := 3) (N := some 24) (v := ?_) (a' := ?_) (bz 18 8) rfl rfl (any_of HT_.out (by kernel_rfl)) (fun _ _ _ h => h) (Or.inl ⟨by rfl, ?_⟩) ?_ ?_
    rotate_left
    ·intro w'
     go_simp
     with_reducible rfl
    rotate_left
    ·exact t17_0
    refine pure_ (i := 5) (N := some 26) (v := ?_) (a' := ?_) (bz 18 40) rfl rfl (any_of HT_.out (by kernel_rfl)) (fun _ _ _ h => h) (Or.inl ⟨by rfl, ?_⟩) ?_ ?_
    rotate_left
    ·intro w'
     go_simp
     with_reducible rfl
    rotate_left
    ·exact t17_0
    refine pure_ (i := 8) (N := some 29) (v := ?_) (a' := ?_) (bz 18 296) rfl rfl (any_of HT_.out (by kernel_rfl)) (fun _ _ _ h => h) (Or.inl ⟨by rfl, ?_⟩) ?_ ?_
    rotate_left
    ·intro w'
     go_simp
     with_reducible rfl
    rotate_left
    ·exact t17_0
    refine pure_ (i := 10) (N := some 31) (v := ?_) (a' := ?_) (bz 18 1320) rfl rfl (any_of HT_.out (by kernel_rfl)) (fun _ _ _ h => h) (Or.inl ⟨by rfl, ?_⟩) ?_ ?_
    rotate_left
    ·intro w'
     go_simp
     with_reducible rfl
    rotate_left
    ·exact t17_0
    refine take_ (i := 0) (N := some 21) (v := ?_) (a' := ?_) (bz 18 1321) rfl rfl (take_ofW HT_.out HW_.out (by kernel_rfl)) (fun _ _ _ h => h) (Or.inl ⟨by rfl, ?_⟩) hHeld ?_ ?_
    rotate_left
    ·exact t17_1
    rotate_left
    ·exact t17_0
    refine take_ (i := 1) (N := some 22) (v := ?_) (a' := ?_) (bz 18 1323) rfl rfl (take_ofW HT_.out HW_.out (by kernel_rfl)) (fun _ _ _ h => h) (Or.inl ⟨by rfl, ?_⟩) hHeld ?_ ?_
    rotate_left
    ·exact t17_1
    rotate_left
    ·exact t17_0
    refine take_ (i := 4) (N := some 25) (v := ?_) (a' := ?_) (bz 18 1339) rfl rfl (take_ofW HT_.out HW_.out (by kernel_rfl)) (fun _ _ _ h => h) (Or.inl ⟨by rfl, ?_⟩) hHeld ?_ ?_
    rotate_left
    ·exact t17_1
    rotate_left
    ·exact t17_0
    refine take_ (i := 6) (N := some 27) (v := ?_) (a' := ?_) (bz 18 1403) rfl rfl (take_ofW HT_.out HW_.out (by kernel_rfl)) (fun _ _ _ h => h) (Or.inl ⟨by rfl, ?_⟩) hHeld ?_ ?_
    rotate_left
    ·exact t17_1
    rotate_left
    ·exact t17_0
    refine pure_ (i := 7) (N := some 28) (v := ?_) (a' := ?_) (bz 18 1531) rfl rfl (any_of HT_.out (by kernel_rfl)) (fun _ _ _ h => h) (Or.inl ⟨by rfl, ?_⟩) ?_ ?_
    rotate_left
    ·intro w'
     go_simp
     with_reducible rfl
    rotate_left
    ·exact t17_0
    refine take_ (i := 9) (N := some 30) (v := ?_) (a' := ?_) (bz 18 2043) rfl rfl (take_ofW HT_.out HW_.out (by kernel_rfl)) (fun _ _ _ h => h) (Or.inl ⟨by rfl, ?_⟩) hHeld ?_ ?_
    rotate_left
    ·exact t17_1
    rotate_left
    ·exact t17_0
    refine take_ (i := 11) (N := some 32) (v := ?_) (a' := ?_) (bz 18 4091) rfl rfl (take_ofW HT_.out HW_.out (by kernel_rfl)) (fun _ _ _ h => h) (Or.inl ⟨by rfl, ?_⟩) hHeld ?_ ?_
    rotate_left
    ·exact t17_1
    rotate_left
    ·exact t17_0
    refine pure_ (i := 12) (N := some 33) (v := ?_) (a' := ?_) (bz 18 8187) rfl rfl (any_of HT_.out (by kernel_rfl)) (fun _ _ _ h => h) (Or.inl ⟨by rfl, ?_⟩) ?_ ?_
    rotate_left
    ·intro w'
     go_simp
     with_reducible rfl
    rotate_left
    ·exact t17_0
    refine pure_ (i := 13) (N := some 34) (v := ?_) (a' := ?_) (bz 18 16379) rfl rfl (any_of HT_.out (by kernel_rfl)) (fun _ _ _ h => h) (Or.inl ⟨by rfl, ?_⟩) ?_ ?_
    rotate_left
    ·intro w'
     go_simp
     with_reducible rfl
    rotate_left
    ·exact t17_0
    refine join_ (σ := Nat × Nat) 2 (bz 18 65535) (fun s_ => [(23, .agg #[.int .i64 t551, .int .i64 t552]), (7, .pointer (some ⟨s_.1, 0, none⟩)), (8, .pointer (some ⟨s_.2, 0, none⟩))]) (fun s_ w' => (w'.cell? ⟨gb546, 0, none⟩ = some (.int .i64 a1_0) ∧ w'.cell? ⟨gb546, 1, none⟩ = some (.int .i64 a1_1) ∧ w'.cell? ⟨gb546, 2, none⟩ = some (.int .i64 a1_2) ∧ w'.cell? ⟨gb546, 3, none⟩ = some (.int .i64 a1_3) ∧ w'.cell? ⟨gb546, 4, none⟩ = some (.int .i64 a1_4) ∧ w'.cell? ⟨gb546, 5, none⟩ = some (.int .i64 a1_5) ∧ w'.cell? ⟨gb545, 0, none⟩ = some (.int .i64 a0_0) ∧ w'.cell? ⟨gb545, 1, none⟩ = some (.int .i64 a0_1) ∧ w'.cell? ⟨gb545, 2, none⟩ = some (.int .i64 a0_2) ∧ w'.cell? ⟨gb545, 3, none⟩ = some (.int .i64 a0_3) ∧ w'.cell? ⟨gb545, 4, none⟩ = some (.int .i64 a0_4) ∧ w'.cell? ⟨gb545, 5, none⟩ = some (.int .i64 a0_5)) ∧ (w'.heap[gb545]? = some (.cells #[.int .i64 a0_0, .int .i64 a0_1, .int .i64 a0_2, .int .i64 a0_3, .int .i64 a0_4, .int .i64 a0_5] 25 (0, 0))) ∧ (w'.heap[gb546]? = some (.cells #[.int .i64 a1_0, .int .i64 a1_1, .int .i64 a1_2, .int .i64 a1_3, .int .i64 a1_4, .int .i64 a1_5] 25 (0, 0))) ∧ (w'.heap[gb547]? = some (.cells #[.int .i64 0, .int .i64 0] 58 (0, 0))) ∧ (w'.heap[gb548]? = some (.cells #[.int .i64 0, .int .i64 0] 58 (0, 0))) ∧ (w'.heap[s_.1]? = some (.cells #[.int .i64 0, .int .i64 0] 89 (0, 0))) ∧ (w'.heap[s_.2]? = some (.cells #[.int .i64 0, .int .i64 0] 89 (0, 0))) ∧ (w.heap.size ≤ s_.1) ∧ (w.heap.size ≤ s_.1) ∧ (gb545 ≠ s_.1) ∧ (s_.1 ≠ gb545) ∧ (gb546 ≠ s_.1) ∧ (s_.1 ≠ gb546) ∧ (gb547 ≠ s_.1) ∧ (s_.1 ≠ gb547) ∧ (gb548 ≠ s_.1) ∧ (s_.1 ≠ gb548) ∧ (s_.2 ≠ s_.1) ∧ (s_.1 ≠ s_.2) ∧ (w.heap.size ≤ s_.2) ∧ (w.heap.size ≤ s_.2) ∧ (gb545 ≠ s_.2) ∧ (s_.2 ≠ gb545) ∧ (gb546 ≠ s_.2) ∧ (s_.2 ≠ gb546) ∧ (gb547 ≠ s_.2) ∧ (s_.2 ≠ gb547) ∧ (gb548 ≠ s_.2) ∧ (s_.2 ≠ gb548) ∧ (Below w.heap.size w w')) ?_ ?_
    rotate_left
    ·intro hJ2_14_15
     refine join_ (σ := Nat) 3 (bz 18 32767) (fun s_ => [(23, .agg #[.int .i64 t551, .int .i64 t552]), (7, .pointer (some ⟨s_, 0, none⟩))]) (fun s_ w' => (w'.cell? ⟨gb546, 0, none⟩ = some (.int .i64 a1_0) ∧ w'.cell? ⟨gb546, 1, none⟩ = some (.int .i64 a1_1) ∧ w'.cell? ⟨gb546, 2, none⟩ = some (.int .i64 a1_2) ∧ w'.cell? ⟨gb546, 3, none⟩ = some (.int .i64 a1_3) ∧ w'.cell? ⟨gb546, 4, none⟩ = some (.int .i64 a1_4) ∧ w'.cell? ⟨gb546, 5, none⟩ = some (.int .i64 a1_5) ∧ w'.cell? ⟨gb545, 0, none⟩ = some (.int .i64 a0_0) ∧ w'.cell? ⟨gb545, 1, none⟩ = some (.int .i64 a0_1) ∧ w'.cell? ⟨gb545, 2, none⟩ = some (.int .i64 a0_2) ∧ w'.cell? ⟨gb545, 3, none⟩ = some (.int .i64 a0_3) ∧ w'.cell? ⟨gb545, 4, none⟩ = some (.int .i64 a0_4) ∧ w'.cell? ⟨gb545, 5, none⟩ = some (.int .i64 a0_5)) ∧ (w'.heap[gb545]? = some (.cells #[.int .i64 a0_0, .int .i64 a0_1, .int .i64 a0_2, .int .i64 a0_3, .int .i64 a0_4, .int .i64 a0_5] 25 (0, 0))) ∧ (w'.heap[gb546]? = some (.cells #[.int .i64 a1_0, .int .i64 a1_1, .int .i64 a1_2, .int .i64 a1_3, .int .i64 a1_4, .int .i64 a1_5] 25 (0, 0))) ∧ (w'.heap[gb547]? = some (.cells #[.int .i64 0, .int .i64 0] 58 (0, 0))) ∧ (w'.heap[gb548]? = some (.cells #[.int .i64 0, .int .i64 0] 58 (0, 0))) ∧ (w'.heap[s_]? = some (.cells #[.int .i64 0, .int .i64 0] 89 (0, 0))) ∧ (w.heap.size ≤ s_) ∧ (w.heap.size ≤ s_) ∧ (gb545 ≠ s_) ∧ (s_ ≠ gb545) ∧ (gb546 ≠ s_) ∧ (s_ ≠ gb546) ∧ (gb547 ≠ s_) ∧ (s_ ≠ gb547) ∧ (gb548 ≠ s_) ∧ (s_ ≠ gb548) ∧ (Below w.heap.size w w')) ?_ ?_
     rotate_left
     ·intro hJ2_14
      refine join_ (σ := Nat) 3 (bz 18 49151) (fun s_ => [(23, .agg #[.int .i64 t551, .int .i64 t552]), (8, .pointer (some ⟨s_, 0, none⟩))]) (fun s_ w' => (w'.cell? ⟨gb546, 0, none⟩ = some (.int .i64 a1_0) ∧ w'.cell? ⟨gb546, 1, none⟩ = some (.int .i64 a1_1) ∧ w'.cell? ⟨gb546, 2, none⟩ = some (.int .i64 a1_2) ∧ w'.cell? ⟨gb546, 3, none⟩ = some (.int .i64 a1_3) ∧ w'.cell? ⟨gb546, 4, none⟩ = some (.int .i64 a1_4) ∧ w'.cell? ⟨gb546, 5, none⟩ = some (.int .i64 a1_5) ∧ w'.cell? ⟨gb545, 0, none⟩ = some (.int .i64 a0_0) ∧ w'.cell? ⟨gb545, 1, none⟩ = some (.int .i64 a0_1) ∧ w'.cell? ⟨gb545, 2, none⟩ = some (.int .i64 a0_2) ∧ w'.cell? ⟨gb545, 3, none⟩ = some (.int .i64 a0_3) ∧ w'.cell? ⟨gb545, 4, none⟩ = some (.int .i64 a0_4) ∧ w'.cell? ⟨gb545, 5, none⟩ = some (.int .i64 a0_5)) ∧ (w'.heap[gb545]? = some (.cells #[.int .i64 a0_0, .int .i64 a0_1, .int .i64 a0_2, .int .i64 a0_3, .int .i64 a0_4, .int .i64 a0_5] 25 (0, 0))) ∧ (w'.heap[gb546]? = some (.cells #[.int .i64 a1_0, .int .i64 a1_1, .int .i64 a1_2, .int .i64 a1_3, .int .i64 a1_4, .int .i64 a1_5] 25 (0, 0))) ∧ (w'.heap[gb547]? = some (.cells #[.int .i64 0, .int .i64 0] 58 (0, 0))) ∧ (w'.heap[gb548]? = some (.cells #[.int .i64 0, .int .i64 0] 58 (0, 0))) ∧ (w'.heap[s_]? = some (.cells #[.int .i64 0, .int .i64 0] 89 (0, 0))) ∧ (w.heap.size ≤ s_) ∧ (w.heap.size ≤ s_) ∧ (gb545 ≠ s_) ∧ (s_ ≠ gb545) ∧ (gb546 ≠ s_) ∧ (s_ ≠ gb546) ∧ (gb547 ≠ s_) ∧ (s_ ≠ gb547) ∧ (gb548 ≠ s_) ∧ (s_ ≠ gb548) ∧ (Below w.heap.size w w')) ?_ ?_
      rotate_left
      ·intro hJ2_15
       refine join_ (σ := Nat × Nat) 3 (bz 18 65531) (fun s_ => [(7, .pointer (some ⟨s_.1, 0, none⟩)), (8, .pointer (some ⟨s_.2, 0, none⟩))]) (fun s_ w' => (w'.cell? ⟨gb546, 0, none⟩ = some (.int .i64 a1_0) ∧ w'.cell? ⟨gb546, 1, none⟩ = some (.int .i64 a1_1) ∧ w'.cell? ⟨gb546, 2, none⟩ = some (.int .i64 a1_2) ∧ w'.cell? ⟨gb546, 3, none⟩ = some (.int .i64 a1_3) ∧ w'.cell? ⟨gb546, 4, none⟩ = some (.int .i64 a1_4) ∧ w'.cell? ⟨gb546, 5, none⟩ = some (.int .i64 a1_5) ∧ w'.cell? ⟨gb545, 0, none⟩ = some (.int .i64 a0_0) ∧ w'.cell? ⟨gb545, 1, none⟩ = some (.int .i64 a0_1) ∧ w'.cell? ⟨gb545, 2, none⟩ = some (.int .i64 a0_2) ∧ w'.cell? ⟨gb545, 3, none⟩ = some (.int .i64 a0_3) ∧ w'.cell? ⟨gb545, 4, none⟩ = some (.int .i64 a0_4) ∧ w'.cell? ⟨gb545, 5, none⟩ = some (.int .i64 a0_5)) ∧ (w'.heap[gb545]? = some (.cells #[.int .i64 a0_0, .int .i64 a0_1, .int .i64 a0_2, .int .i64 a0_3, .int .i64 a0_4, .int .i64 a0_5] 25 (0, 0))) ∧ (w'.heap[gb546]? = some (.cells #[.int .i64 a1_0, .int .i64 a1_1, .int .i64 a1_2, .int .i64 a1_3, .int .i64 a1_4, .int .i64 a1_5] 25 (0, 0))) ∧ (w'.heap[gb547]? = some (.cells #[.int .i64 0, .int .i64 0] 58 (0, 0))) ∧ (w'.heap[gb548]? = some (.cells #[.int .i64 0, .int .i64 0] 58 (0, 0))) ∧ (w'.heap[s_.1]? = some (.cells #[.int .i64 0, .int .i64 0] 89 (0, 0))) ∧ (w'.heap[s_.2]? = some (.cells #[.int .i64 0, .int .i64 0] 89 (0, 0))) ∧ (w.heap.size ≤ s_.1) ∧ (w.heap.size ≤ s_.1) ∧ (gb545 ≠ s_.1) ∧ (s_.1 ≠ gb545) ∧ (gb546 ≠ s_.1) ∧ (s_.1 ≠ gb546) ∧ (gb547 ≠ s_.1) ∧ (s_.1 ≠ gb547) ∧ (gb548 ≠ s_.1) ∧ (s_.1 ≠ gb548) ∧ (s_.2 ≠ s_.1) ∧ (s_.1 ≠ s_.2) ∧ (w.heap.size ≤ s_.2) ∧ (w.heap.size ≤ s_.2) ∧ (gb545 ≠ s_.2) ∧ (s_.2 ≠ gb545) ∧ (gb546 ≠ s_.2) ∧ (s_.2 ≠ gb546) ∧ (gb547 ≠ s_.2) ∧ (s_.2 ≠ gb547) ∧ (gb548 ≠ s_.2) ∧ (s_.2 ≠ gb548) ∧ (Below w.heap.size w w')) ?_ ?_
       rotate_left
       ·intro hJ14_15
        refine join_ (σ := Unit) 4 (bz 18 16383) (fun s_ => [(23, .agg #[.int .i64 t551, .int .i64 t552])]) (fun s_ w' => (w'.cell? ⟨gb546, 0, none⟩ = some (.int .i64 a1_0) ∧ w'.cell? ⟨gb546, 1, none⟩ = some (.int .i64 a1_1) ∧ w'.cell? ⟨gb546, 2, none⟩ = some (.int .i64 a1_2) ∧ w'.cell? ⟨gb546, 3, none⟩ = some (.int .i64 a1_3) ∧ w'.cell? ⟨gb546, 4, none⟩ = some (.int .i64 a1_4) ∧ w'.cell? ⟨gb546, 5, none⟩ = some (.int .i64 a1_5) ∧ w'.cell? ⟨gb545, 0, none⟩ = some (.int .i64 a0_0) ∧ w'.cell? ⟨gb545, 1, none⟩ = some (.int .i64 a0_1) ∧ w'.cell? ⟨gb545, 2, none⟩ = some (.int .i64 a0_2) ∧ w'.cell? ⟨gb545, 3, none⟩ = some (.int .i64 a0_3) ∧ w'.cell? ⟨gb545, 4, none⟩ = some (.int .i64 a0_4) ∧ w'.cell? ⟨gb545, 5, none⟩ = some (.int .i64 a0_5)) ∧ (w'.heap[gb545]? = some (.cells #[.int .i64 a0_0, .int .i64 a0_1, .int .i64 a0_2, .int .i64 a0_3, .int .i64 a0_4, .int .i64 a0_5] 25 (0, 0))) ∧ (w'.heap[gb546]? = some (.cells #[.int .i64 a1_0, .int .i64 a1_1, .int .i64 a1_2, .int .i64 a1_3, .int .i64 a1_4, .int .i64 a1_5] 25 (0, 0))) ∧ (w'.heap[gb547]? = some (.cells #[.int .i64 0, .int .i64 0] 58 (0, 0))) ∧ (w'.heap[gb548]? = some (.cells #[.int .i64 0, .int .i64 0] 58 (0, 0))) ∧ (Below w.heap.size w w')) ?_ ?_
        rotate_left
        ·intro hJ2
         refine join_ (σ := Nat) 4 (bz 18 32763) (fun s_ => [(7, .pointer (some ⟨s_, 0, none⟩))]) (fun s_ w' => (w'.cell? ⟨gb546, 0, none⟩ = some (.int .i64 a1_0) ∧ w'.cell? ⟨gb546, 1, none⟩ = some (.int .i64 a1_1) ∧ w'.cell? ⟨gb546, 2, none⟩ = some (.int .i64 a1_2) ∧ w'.cell? ⟨gb546, 3, none⟩ = some (.int .i64 a1_3) ∧ w'.cell? ⟨gb546, 4, none⟩ = some (.int .i64 a1_4) ∧ w'.cell? ⟨gb546, 5, none⟩ = some (.int .i64 a1_5) ∧ w'.cell? ⟨gb545, 0, none⟩ = some (.int .i64 a0_0) ∧ w'.cell? ⟨gb545, 1, none⟩ = some (.int .i64 a0_1) ∧ w'.cell? ⟨gb545, 2, none⟩ = some (.int .i64 a0_2) ∧ w'.cell? ⟨gb545, 3, none⟩ = some (.int .i64 a0_3) ∧ w'.cell? ⟨gb545, 4, none⟩ = some (.int .i64 a0_4) ∧ w'.cell? ⟨gb545, 5, none⟩ = some (.int .i64 a0_5)) ∧ (w'.heap[gb545]? = some (.cells #[.int .i64 a0_0, .int .i64 a0_1, .int .i64 a0_2, .int .i64 a0_3, .int .i64 a0_4, .int .i64 a0_5] 25 (0, 0))) ∧ (w'.heap[gb546]? = some (.cells #[.int .i64 a1_0, .int .i64 a1_1, .int .i64 a1_2, .int .i64 a1_3, .int .i64 a1_4, .int .i64 a1_5] 25 (0, 0))) ∧ (w'.heap[gb547]? = some (.cells #[.int .i64 0, .int .i64 0] 58 (0, 0))) ∧ (w'.heap[gb548]? = some (.cells #[.int .i64 0, .int .i64 0] 58 (0, 0))) ∧ (w'.heap[s_]? = some (.cells #[.int .i64 0, .int .i64 0] 89 (0, 0))) ∧ (w.heap.size ≤ s_) ∧ (w.heap.size ≤ s_) ∧ (gb545 ≠ s_) ∧ (s_ ≠ gb545) ∧ (gb546 ≠ s_) ∧ (s_ ≠ gb546) ∧ (gb547 ≠ s_) ∧ (s_ ≠ gb547) ∧ (gb548 ≠ s_) ∧ (s_ ≠ gb548) ∧ (Below w.heap.size w w')) ?_ ?_
         rotate_left
         ·intro hJ14
          refine join_ (σ := Nat) 4 (bz 18 49147) (fun s_ => [(8, .pointer (some ⟨s_, 0, none⟩))]) (fun s_ w' => (w'.cell? ⟨gb546, 0, none⟩ = some (.int .i64 a1_0) ∧ w'.cell? ⟨gb546, 1, none⟩ = some (.int .i64 a1_1) ∧ w'.cell? ⟨gb546, 2, none⟩ = some (.int .i64 a1_2) ∧ w'.cell? ⟨gb546, 3, none⟩ = some (.int .i64 a1_3) ∧ w'.cell? ⟨gb546, 4, none⟩ = some (.int .i64 a1_4) ∧ w'.cell? ⟨gb546, 5, none⟩ = some (.int .i64 a1_5) ∧ w'.cell? ⟨gb545, 0, none⟩ = some (.int .i64 a0_0) ∧ w'.cell? ⟨gb545, 1, none⟩ = some (.int .i64 a0_1) ∧ w'.cell? ⟨gb545, 2, none⟩ = some (.int .i64 a0_2) ∧ w'.cell? ⟨gb545, 3, none⟩ = some (.int .i64 a0_3) ∧ w'.cell? ⟨gb545, 4, none⟩ = some (.int .i64 a0_4) ∧ w'.cell? ⟨gb545, 5, none⟩ = some (.int .i64 a0_5)) ∧ (w'.heap[gb545]? = some (.cells #[.int .i64 a0_0, .int .i64 a0_1, .int .i64 a0_2, .int .i64 a0_3, .int .i64 a0_4, .int .i64 a0_5] 25 (0, 0))) ∧ (w'.heap[gb546]? = some (.cells #[.int .i64 a1_0, .int .i64 a1_1, .int .i64 a1_2, .int .i64 a1_3, .int .i64 a1_4, .int .i64 a1_5] 25 (0, 0))) ∧ (w'.heap[gb547]? = some (.cells #[.int .i64 0, .int .i64 0] 58 (0, 0))) ∧ (w'.heap[gb548]? = some (.cells #[.int .i64 0, .int .i64 0] 58 (0, 0))) ∧ (w'.heap[s_]? = some (.cells #[.int .i64 0, .int .i64 0] 89 (0, 0))) ∧ (w.heap.size ≤ s_) ∧ (w.heap.size ≤ s_) ∧ (gb545 ≠ s_) ∧ (s_ ≠ gb545) ∧ (gb546 ≠ s_) ∧ (s_ ≠ gb546) ∧ (gb547 ≠ s_) ∧ (s_ ≠ gb547) ∧ (gb548 ≠ s_) ∧ (s_ ≠ gb548) ∧ (Below w.heap.size w w')) ?_ ?_
          rotate_left
          ·intro hJ15
           refine three_ (i := 2) (j := 14) (k := 15) (Ni := some 23) (Nj := some 7) (Nk := some 8) (bz 18 16383) (bz 18 32763) (bz 18 49147) rfl rfl rfl rfl rfl rfl (three_of HT_.out (by kernel_rfl)) (by decide) (by decide) (by decide) (fun K hK => ?_) (fun K hK => ?_) (fun K hK => ?_)
           ·skip
            refine goes_ Try.func70 (by kernel_rfl) rfl #[.agg #[.int .i64 a1_0, .int .i64 a1_1, .int .i64 a1_2, .int .i64 a1_3, .int .i64 a1_4, .int .i64 a1_5], .agg #[.int .i64 a0_0, .int .i64 a0_1, .int .i64 a0_2, .int .i64 a0_3, .int .i64 a0_4, .int .i64 a0_5]] (by rfl) rfl rfl s17_4 ?_
            with_reducible refine (impl_bearing.calls a1_0 a1_1 a1_2 a1_3 a1_4 a1_5 a0_0 a0_1 a0_2 a0_3 a0_4 a0_5 t551 t552 _ A33.out).mono ?_
            rintro e w6 ⟨rfl, hb⟩
            refine ⟨_, rfl, ?_⟩
            have n0_ := Aside0.mk (bb (zk BK545.out) hb)
            have n1_ := Aside0.mk (bb (zk BK546.out) hb)
            have n2_ := Aside0.mk (bb (zk BK547.out) hb)
            have n3_ := Aside0.mk (bb (zk BK548.out) hb)
            have n4_ := Aside0.mk (below_step s17_0 hb)
            clear BK545 BK546 BK547 BK548 HB
            have BK545 := n0_
            have BK546 := n1_
            have BK547 := n2_
            have BK548 := n3_
            have HB := n4_
            clear n0_ n1_ n2_ n3_ n4_
            (try clear hb)
            (try clear hb2)
            (try clear hk)
            (try clear hi)
            refine hK.out _ _ ⟨bc BK546.out 0, bc BK546.out 1, bc BK546.out 2, bc BK546.out 3, bc BK546.out 4, bc BK546.out 5, bc BK545.out 0, bc BK545.out 1, bc BK545.out 2, bc BK545.out 3, bc BK545.out 4, bc BK545.out 5⟩ (fun hHeld => ?_)
            clear hK K
            refine norm_ (a' := ?_) ?_ ?_
            rotate_left
            ·show Act.put _ (some 23) _ = _
             simp only [Act.put, y1, y2, y3, i64_w, i32_w]
             rfl
            exact norm_ s17_5 (hJ2 () _ ⟨hHeld, (zk BK545.out), (zk BK546.out), (zk BK547.out), (zk BK548.out), s17_0⟩)
           ·skip
            refine box_step ?hg (N := 7) ?hd (cs := #[.int .i64 0, .int .i64 0]) (t := 89) ?hr ?_; (case hd => rfl); (case hg => rfl); (case hr => first | (go_simp; done) | (go_simp; rfl))
            intro gb553 hg w6 hbox hb
            have n0_ := Aside0.mk (bb (zk BK545.out) hb)
            have n1_ := Aside0.mk (bb (zk BK546.out) hb)
            have n2_ := Aside0.mk (bb (zk BK547.out) hb)
            have n3_ := Aside0.mk (bb (zk BK548.out) hb)
            have n4_ := Aside0.mk (below_step s17_0 hb)
            have n5_ := Aside0.mk (hbox)
            have n6_ := Aside0.mk (ns hg s17_0 : w.heap.size ≤ gb553)
            have n7_ := Aside0.mk (ns hg s17_0 : w.heap.size ≤ gb553)
            have n8_ := Aside0.mk ((nlt hg (zk BK545.out) : gb545 ≠ gb553))
            have n9_ := Aside0.mk ((ngt hg (zk BK545.out) : gb553 ≠ gb545))
            have n10_ := Aside0.mk ((nlt hg (zk BK546.out) : gb546 ≠ gb553))
            have n11_ := Aside0.mk ((ngt hg (zk BK546.out) : gb553 ≠ gb546))
            have n12_ := Aside0.mk ((nlt hg (zk BK547.out) : gb547 ≠ gb553))
            have n13_ := Aside0.mk ((ngt hg (zk BK547.out) : gb553 ≠ gb547))
            have n14_ := Aside0.mk ((nlt hg (zk BK548.out) : gb548 ≠ gb553))
            have n15_ := Aside0.mk ((ngt hg (zk BK548.out) : gb553 ≠ gb548))
            clear BK545 BK546 BK547 BK548 HB
            have BK545 := n0_
            have BK546 := n1_
            have BK547 := n2_
            have BK548 := n3_
            have HB := n4_
            have BK553 := n5_
            have GW553 := n6_
            have GE553 := n7_
            have NB545_553 := n8_
            have NB553_545 := n9_
            have NB546_553 := n10_
            have NB553_546 := n11_
            have NB547_553 := n12_
            have NB553_547 := n13_
            have NB548_553 := n14_
            have NB553_548 := n15_
            clear n0_ n1_ n2_ n3_ n4_ n5_ n6_ n7_ n8_ n9_ n10_ n11_ n12_ n13_ n14_ n15_ hb hbox hg
            refine hK.out _ _ ⟨bc BK546.out 0, bc BK546.out 1, bc BK546.out 2, bc BK546.out 3, bc BK546.out 4, bc BK546.out 5, bc BK545.out 0, bc BK545.out 1, bc BK545.out 2, bc BK545.out 3, bc BK545.out 4, bc BK545.out 5⟩ (fun hHeld => ?_)
            clear hK K
            refine norm_ (a' := ?_) ?_ ?_
            rotate_left
            ·show Act.put _ (some 7) _ = _
             simp only [Act.put, y1, y2, y3, i64_w, i32_w]
             rfl
            exact norm_ s17_5 (hJ14 (gb553) _ ⟨hHeld, (zk BK545.out), (zk BK546.out), (zk BK547.out), (zk BK548.out), (zk BK553.out), GW553.out, GE553.out, NB545_553.out, NB553_545.out, NB546_553.out, NB553_546.out, NB547_553.out, NB553_547.out, NB548_553.out, NB553_548.out, s17_2⟩)
           ·skip
            refine box_step ?hg (N := 8) ?hd (cs := #[.int .i64 0, .int .i64 0]) (t := 89) ?hr ?_; (case hd => rfl); (case hg => rfl); (case hr => first | (go_simp; done) | (go_simp; rfl))
            intro gb554 hg w6 hbox hb
            have n0_ := Aside0.mk (bb (zk BK545.out) hb)
            have n1_ := Aside0.mk (bb (zk BK546.out) hb)
            have n2_ := Aside0.mk (bb (zk BK547.out) hb)
            have n3_ := Aside0.mk (bb (zk BK548.out) hb)
            have n4_ := Aside0.mk (below_step s17_0 hb)
            have n5_ := Aside0.mk (hbox)
            have n6_ := Aside0.mk (ns hg s17_0 : w.heap.size ≤ gb554)
            have n7_ := Aside0.mk (ns hg s17_0 : w.heap.size ≤ gb554)
            have n8_ := Aside0.mk ((nlt hg (zk BK545.out) : gb545 ≠ gb554))
            have n9_ := Aside0.mk ((ngt hg (zk BK545.out) : gb554 ≠ gb545))
            have n10_ := Aside0.mk ((nlt hg (zk BK546.out) : gb546 ≠ gb554))
            have n11_ := Aside0.mk ((ngt hg (zk BK546.out) : gb554 ≠ gb546))
            have n12_ := Aside0.mk ((nlt hg (zk BK547.out) : gb547 ≠ gb554))
            have n13_ := Aside0.mk ((ngt hg (zk BK547.out) : gb554 ≠ gb547))
            have n14_ := Aside0.mk ((nlt hg (zk BK548.out) : gb548 ≠ gb554))
            have n15_ := Aside0.mk ((ngt hg (zk BK548.out) : gb554 ≠ gb548))
            clear BK545 BK546 BK547 BK548 HB
            have BK545 := n0_
            have BK546 := n1_
            have BK547 := n2_
            have BK548 := n3_
            have HB := n4_
            have BK554 := n5_
            have GW554 := n6_
            have GE554 := n7_
            have NB545_554 := n8_
            have NB554_545 := n9_
            have NB546_554 := n10_
            have NB554_546 := n11_
            have NB547_554 := n12_
            have NB554_547 := n13_
            have NB548_554 := n14_
            have NB554_548 := n15_
            clear n0_ n1_ n2_ n3_ n4_ n5_ n6_ n7_ n8_ n9_ n10_ n11_ n12_ n13_ n14_ n15_ hb hbox hg
            refine hK.out _ _ ⟨bc BK546.out 0, bc BK546.out 1, bc BK546.out 2, bc BK546.out 3, bc BK546.out 4, bc BK546.out 5, bc BK545.out 0, bc BK545.out 1, bc BK545.out 2, bc BK545.out 3, bc BK545.out 4, bc BK545.out 5⟩ (fun hHeld => ?_)
            clear hK K
            refine norm_ (a' := ?_) ?_ ?_
            rotate_left
            ·show Act.put _ (some 8) _ = _
             simp only [Act.put, y1, y2, y3, i64_w, i32_w]
             rfl
            exact norm_ s17_5 (hJ15 (gb554) _ ⟨hHeld, (zk BK545.out), (zk BK546.out), (zk BK547.out), (zk BK548.out), (zk BK554.out), GW554.out, GE554.out, NB545_554.out, NB554_545.out, NB546_554.out, NB554_546.out, NB547_554.out, NB554_547.out, NB548_554.out, NB554_548.out, s17_3⟩)
          ·skip
           rintro gb554 w6 ⟨hS_, h0_, h1_, h2_, h3_, h4_, h5_, h6_, h7_, h8_, h9_, h10_, h11_, h12_, h13_, h14_, h15_⟩
           have n0_ : Aside0 (w6.heap[gb545]? = some (.cells #[.int .i64 a0_0, .int .i64 a0_1, .int .i64 a0_2, .int .i64 a0_3, .int .i64 a0_4, .int .i64 a0_5] 25 (0, 0))) := ⟨h0_⟩
           have n1_ : Aside0 (w6.heap[gb546]? = some (.cells #[.int .i64 a1_0, .int .i64 a1_1, .int .i64 a1_2, .int .i64 a1_3, .int .i64 a1_4, .int .i64 a1_5] 25 (0, 0))) := ⟨h1_⟩
           have n2_ : Aside0 (w6.heap[gb547]? = some (.cells #[.int .i64 0, .int .i64 0] 58 (0, 0))) := ⟨h2_⟩
           have n3_ : Aside0 (w6.heap[gb548]? = some (.cells #[.int .i64 0, .int .i64 0] 58 (0, 0))) := ⟨h3_⟩
           have n4_ : Aside0 (w6.heap[gb554]? = some (.cells #[.int .i64 0, .int .i64 0] 89 (0, 0))) := ⟨h4_⟩
           have n5_ : Aside0 (w.heap.size ≤ gb554) := ⟨h5_⟩
           have n6_ : Aside0 (w.heap.size ≤ gb554) := ⟨h6_⟩
           have n7_ : Aside0 (gb545 ≠ gb554) := ⟨h7_⟩
           have n8_ : Aside0 (gb554 ≠ gb545) := ⟨h8_⟩
           have n9_ : Aside0 (gb546 ≠ gb554) := ⟨h9_⟩
           have n10_ : Aside0 (gb554 ≠ gb546) := ⟨h10_⟩
           have n11_ : Aside0 (gb547 ≠ gb554) := ⟨h11_⟩
           have n12_ : Aside0 (gb554 ≠ gb547) := ⟨h12_⟩
           have n13_ : Aside0 (gb548 ≠ gb554) := ⟨h13_⟩
           have n14_ : Aside0 (gb554 ≠ gb548) := ⟨h14_⟩
           have n15_ : Aside0 (Below w.heap.size w w6) := ⟨h15_⟩
           clear BK545 BK546 BK547 BK548 HB h0_ h1_ h2_ h3_ h4_ h5_ h6_ h7_ h8_ h9_ h10_ h11_ h12_ h13_ h14_ h15_
           have BK545 := n0_
           have BK546 := n1_
           have BK547 := n2_
           have BK548 := n3_
           have BK554 := n4_
           have GW554 := n5_
           have GE554 := n6_
           have NB545_554 := n7_
           have NB554_545 := n8_
           have NB546_554 := n9_
           have NB554_546 := n10_
           have NB547_554 := n11_
           have NB554_547 := n12_
           have NB548_554 := n13_
           have NB554_548 := n14_
           have HB := n15_
           clear n0_ n1_ n2_ n3_ n4_ n5_ n6_ n7_ n8_ n9_ n10_ n11_ n12_ n13_ n14_ n15_
           have hHeld : w6.cell? ⟨gb546, 0, none⟩ = some (.int .i64 a1_0) ∧ w6.cell? ⟨gb546, 1, none⟩ = some (.int .i64 a1_1) ∧ w6.cell? ⟨gb546, 2, none⟩ = some (.int .i64 a1_2) ∧ w6.cell? ⟨gb546, 3, none⟩ = some (.int .i64 a1_3) ∧ w6.cell? ⟨gb546, 4, none⟩ = some (.int .i64 a1_4) ∧ w6.cell? ⟨gb546, 5, none⟩ = some (.int .i64 a1_5) ∧ w6.cell? ⟨gb545, 0, none⟩ = some (.int .i64 a0_0) ∧ w6.cell? ⟨gb545, 1, none⟩ = some (.int .i64 a0_1) ∧ w6.cell? ⟨gb545, 2, none⟩ = some (.int .i64 a0_2) ∧ w6.cell? ⟨gb545, 3, none⟩ = some (.int .i64 a0_3) ∧ w6.cell? ⟨gb545, 4, none⟩ = some (.int .i64 a0_4) ∧ w6.cell? ⟨gb545, 5, none⟩ = some (.int .i64 a0_5) := hS_
           refine norm_ (a' := ?_) ?_ ?_
           rotate_left
           ·simp only [putAll, Act.put, y1, y2, y3]
            rfl
           refine two_ (i := 2) (j := 14) (Ni := some 23) (Nj := some 7) (bz 18 49151) (bz 18 65531) rfl rfl rfl rfl (two_of HT_.out (by kernel_rfl)) (by decide) (by decide) (fun K hK => ?_) (fun K hK => ?_)
           ·skip
            refine goes_ Try.func70 (by kernel_rfl) rfl #[.agg #[.int .i64 a1_0, .int .i64 a1_1, .int .i64 a1_2, .int .i64 a1_3, .int .i64 a1_4, .int .i64 a1_5], .agg #[.int .i64 a0_0, .int .i64 a0_1, .int .i64 a0_2, .int .i64 a0_3, .int .i64 a0_4, .int .i64 a0_5]] (by rfl) rfl rfl s17_4 ?_
            with_reducible refine (impl_bearing.calls a1_0 a1_1 a1_2 a1_3 a1_4 a1_5 a0_0 a0_1 a0_2 a0_3 a0_4 a0_5 t551 t552 _ A33.out).mono ?_
            rintro e w7 ⟨rfl, hb⟩
            refine ⟨_, rfl, ?_⟩
            have n0_ := Aside0.mk (bb (zk BK545.out) hb)
            have n1_ := Aside0.mk (bb (zk BK546.out) hb)
            have n2_ := Aside0.mk (bb (zk BK547.out) hb)
            have n3_ := Aside0.mk (bb (zk BK548.out) hb)
            have n4_ := Aside0.mk (bb (zk BK554.out) hb)
            have n5_ := Aside0.mk (below_step s17_3 hb)
            clear BK545 BK546 BK547 BK548 BK554 HB
            have BK545 := n0_
            have BK546 := n1_
            have BK547 := n2_
            have BK548 := n3_
            have BK554 := n4_
            have HB := n5_
            clear n0_ n1_ n2_ n3_ n4_ n5_
            (try clear hb)
            (try clear hb2)
            (try clear hk)
            (try clear hi)
            refine hK.out _ _ ⟨bc BK546.out 0, bc BK546.out 1, bc BK546.out 2, bc BK546.out 3, bc BK546.out 4, bc BK546.out 5, bc BK545.out 0, bc BK545.out 1, bc BK545.out 2, bc BK545.out 3, bc BK545.out 4, bc BK545.out 5⟩ (fun hHeld => ?_)
            clear hK K
            refine norm_ (a' := ?_) ?_ ?_
            rotate_left
            ·show Act.put _ (some 23) _ = _
             simp only [Act.put, y1, y2, y3, i64_w, i32_w]
             rfl
            exact norm_ s17_5 (hJ2_15 (gb554) _ ⟨hHeld, (zk BK545.out), (zk BK546.out), (zk BK547.out), (zk BK548.out), (zk BK554.out), GW554.out, GE554.out, NB545_554.out, NB554_545.out, NB546_554.out, NB554_546.out, NB547_554.out, NB554_547.out, NB548_554.out, NB554_548.out, s17_3⟩)
           ·skip
            refine box_step ?hg (N := 7) ?hd (cs := #[.int .i64 0, .int .i64 0]) (t := 89) ?hr ?_; (case hd => rfl); (case hg => rfl); (case hr => first | (go_simp; done) | (go_simp; rfl))
            intro gb553 hg w7 hbox hb
            have n0_ := Aside0.mk (bb (zk BK545.out) hb)
            have n1_ := Aside0.mk (bb (zk BK546.out) hb)
            have n2_ := Aside0.mk (bb (zk BK547.out) hb)
            have n3_ := Aside0.mk (bb (zk BK548.out) hb)
            have n4_ := Aside0.mk (bb (zk BK554.out) hb)
            have n5_ := Aside0.mk (below_step s17_3 hb)
            have n6_ := Aside0.mk (hbox)
            have n7_ := Aside0.mk (ns hg s17_3 : w.heap.size ≤ gb553)
            have n8_ := Aside0.mk (ns hg s17_3 : w.heap.size ≤ gb553)
            have n9_ := Aside0.mk ((nlt hg (zk BK545.out) : gb545 ≠ gb553))
            have n10_ := Aside0.mk ((ngt hg (zk BK545.out) : gb553 ≠ gb545))
            have n11_ := Aside0.mk ((nlt hg (zk BK546.out) : gb546 ≠ gb553))
            have n12_ := Aside0.mk ((ngt hg (zk BK546.out) : gb553 ≠ gb546))
            have n13_ := Aside0.mk ((nlt hg (zk BK547.out) : gb547 ≠ gb553))
            have n14_ := Aside0.mk ((ngt hg (zk BK547.out) : gb553 ≠ gb547))
            have n15_ := Aside0.mk ((nlt hg (zk BK548.out) : gb548 ≠ gb553))
            have n16_ := Aside0.mk ((ngt hg (zk BK548.out) : gb553 ≠ gb548))
            have n17_ := Aside0.mk ((nlt hg (zk BK554.out) : gb554 ≠ gb553))
            have n18_ := Aside0.mk ((ngt hg (zk BK554.out) : gb553 ≠ gb554))
            clear BK545 BK546 BK547 BK548 BK554 HB
            have BK545 := n0_
            have BK546 := n1_
            have BK547 := n2_
            have BK548 := n3_
            have BK554 := n4_
            have HB := n5_
            have BK553 := n6_
            have GW553 := n7_
            have GE553 := n8_
            have NB545_553 := n9_
            have NB553_545 := n10_
            have NB546_553 := n11_
            have NB553_546 := n12_
            have NB547_553 := n13_
            have NB553_547 := n14_
            have NB548_553 := n15_
            have NB553_548 := n16_
            have NB554_553 := n17_
            have NB553_554 := n18_
            clear n0_ n1_ n2_ n3_ n4_ n5_ n6_ n7_ n8_ n9_ n10_ n11_ n12_ n13_ n14_ n15_ n16_ n17_ n18_ hb hbox hg
            refine hK.out _ _ ⟨bc BK546.out 0, bc BK546.out 1, bc BK546.out 2, bc BK546.out 3, bc BK546.out 4, bc BK546.out 5, bc BK545.out 0, bc BK545.out 1, bc BK545.out 2, bc BK545.out 3, bc BK545.out 4, bc BK545.out 5⟩ (fun hHeld => ?_)
            clear hK K
            refine norm_ (a' := ?_) ?_ ?_
            rotate_left
            ·show Act.put _ (some 7) _ = _
             simp only [Act.put, y1, y2, y3, i64_w, i32_w]
             rfl
            exact norm_ s17_5 (hJ14_15 (gb553, gb554) _ ⟨hHeld, (zk BK545.out), (zk BK546.out), (zk BK547.out), (zk BK548.out), (zk BK553.out), (zk BK554.out), GW553.out, GE553.out, NB545_553.out, NB553_545.out, NB546_553.out, NB553_546.out, NB547_553.out, NB553_547.out, NB548_553.out, NB553_548.out, NB554_553.out, NB553_554.out, GW554.out, GE554.out, NB545_554.out, NB554_545.out, NB546_554.out, NB554_546.out, NB547_554.out, NB554_547.out, NB548_554.out, NB554_548.out, (by repeat (first | (with_reducible first | exact HB.out | apply below_alloc | apply pw_below_drewN | apply below_drew1 | refine below_set ?_ GE545.out | refine below_set ?_ GE546.out | refine below_set ?_ GE547.out | refine below_set ?_ GE548.out | refine below_set ?_ GE554.out | refine below_set ?_ GE553.out) | exact HB.out))⟩)
         ·skip
          rintro gb553 w6 ⟨hS_, h0_, h1_, h2_, h3_, h4_, h5_, h6_, h7_, h8_, h9_, h10_, h11_, h12_, h13_, h14_, h15_⟩
          have n0_ : Aside0 (w6.heap[gb545]? = some (.cells #[.int .i64 a0_0, .int .i64 a0_1, .int .i64 a0_2, .int .i64 a0_3, .int .i64 a0_4, .int .i64 a0_5] 25 (0, 0))) := ⟨h0_⟩
          have n1_ : Aside0 (w6.heap[gb546]? = some (.cells #[.int .i64 a1_0, .int .i64 a1_1, .int .i64 a1_2, .int .i64 a1_3, .int .i64 a1_4, .int .i64 a1_5] 25 (0, 0))) := ⟨h1_⟩
          have n2_ : Aside0 (w6.heap[gb547]? = some (.cells #[.int .i64 0, .int .i64 0] 58 (0, 0))) := ⟨h2_⟩
          have n3_ : Aside0 (w6.heap[gb548]? = some (.cells #[.int .i64 0, .int .i64 0] 58 (0, 0))) := ⟨h3_⟩
          have n4_ : Aside0 (w6.heap[gb553]? = some (.cells #[.int .i64 0, .int .i64 0] 89 (0, 0))) := ⟨h4_⟩
          have n5_ : Aside0 (w.heap.size ≤ gb553) := ⟨h5_⟩
          have n6_ : Aside0 (w.heap.size ≤ gb553) := ⟨h6_⟩
          have n7_ : Aside0 (gb545 ≠ gb553) := ⟨h7_⟩
          have n8_ : Aside0 (gb553 ≠ gb545) := ⟨h8_⟩
          have n9_ : Aside0 (gb546 ≠ gb553) := ⟨h9_⟩
          have n10_ : Aside0 (gb553 ≠ gb546) := ⟨h10_⟩
          have n11_ : Aside0 (gb547 ≠ gb553) := ⟨h11_⟩
          have n12_ : Aside0 (gb553 ≠ gb547) := ⟨h12_⟩
          have n13_ : Aside0 (gb548 ≠ gb553) := ⟨h13_⟩
          have n14_ : Aside0 (gb553 ≠ gb548) := ⟨h14_⟩
          have n15_ : Aside0 (Below w.heap.size w w6) := ⟨h15_⟩
          clear BK545 BK546 BK547 BK548 HB h0_ h1_ h2_ h3_ h4_ h5_ h6_ h7_ h8_ h9_ h10_ h11_ h12_ h13_ h14_ h15_
          have BK545 := n0_
          have BK546 := n1_
          have BK547 := n2_
          have BK548 := n3_
          have BK553 := n4_
          have GW553 := n5_
          have GE553 := n6_
          have NB545_553 := n7_
          have NB553_545 := n8_
          have NB546_553 := n9_
          have NB553_546 := n10_
          have NB547_553 := n11_
          have NB553_547 := n12_
          have NB548_553 := n13_
          have NB553_548 := n14_
          have HB := n15_
          clear n0_ n1_ n2_ n3_ n4_ n5_ n6_ n7_ n8_ n9_ n10_ n11_ n12_ n13_ n14_ n15_
          have hHeld : w6.cell? ⟨gb546, 0, none⟩ = some (.int .i64 a1_0) ∧ w6.cell? ⟨gb546, 1, none⟩ = some (.int .i64 a1_1) ∧ w6.cell? ⟨gb546, 2, none⟩ = some (.int .i64 a1_2) ∧ w6.cell? ⟨gb546, 3, none⟩ = some (.int .i64 a1_3) ∧ w6.cell? ⟨gb546, 4, none⟩ = some (.int .i64 a1_4) ∧ w6.cell? ⟨gb546, 5, none⟩ = some (.int .i64 a1_5) ∧ w6.cell? ⟨gb545, 0, none⟩ = some (.int .i64 a0_0) ∧ w6.cell? ⟨gb545, 1, none⟩ = some (.int .i64 a0_1) ∧ w6.cell? ⟨gb545, 2, none⟩ = some (.int .i64 a0_2) ∧ w6.cell? ⟨gb545, 3, none⟩ = some (.int .i64 a0_3) ∧ w6.cell? ⟨gb545, 4, none⟩ = some (.int .i64 a0_4) ∧ w6.cell? ⟨gb545, 5, none⟩ = some (.int .i64 a0_5) := hS_
          refine norm_ (a' := ?_) ?_ ?_
          rotate_left
          ·simp only [putAll, Act.put, y1, y2, y3]
           rfl
          refine two_ (i := 2) (j := 15) (Ni := some 23) (Nj := some 8) (bz 18 32767) (bz 18 65531) rfl rfl rfl rfl (two_of HT_.out (by kernel_rfl)) (by decide) (by decide) (fun K hK => ?_) (fun K hK => ?_)
          ·skip
           refine goes_ Try.func70 (by kernel_rfl) rfl #[.agg #[.int .i64 a1_0, .int .i64 a1_1, .int .i64 a1_2, .int .i64 a1_3, .int .i64 a1_4, .int .i64 a1_5], .agg #[.int .i64 a0_0, .int .i64 a0_1, .int .i64 a0_2, .int .i64 a0_3, .int .i64 a0_4, .int .i64 a0_5]] (by rfl) rfl rfl s17_4 ?_
           with_reducible refine (impl_bearing.calls a1_0 a1_1 a1_2 a1_3 a1_4 a1_5 a0_0 a0_1 a0_2 a0_3 a0_4 a0_5 t551 t552 _ A33.out).mono ?_
           rintro e w7 ⟨rfl, hb⟩
           refine ⟨_, rfl, ?_⟩
           have n0_ := Aside0.mk (bb (zk BK545.out) hb)
           have n1_ := Aside0.mk (bb (zk BK546.out) hb)
           have n2_ := Aside0.mk (bb (zk BK547.out) hb)
           have n3_ := Aside0.mk (bb (zk BK548.out) hb)
           have n4_ := Aside0.mk (bb (zk BK553.out) hb)
           have n5_ := Aside0.mk (below_step s17_2 hb)
           clear BK545 BK546 BK547 BK548 BK553 HB
           have BK545 := n0_
           have BK546 := n1_
           have BK547 := n2_
           have BK548 := n3_
           have BK553 := n4_
           have HB := n5_
           clear n0_ n1_ n2_ n3_ n4_ n5_
           (try clear hb)
           (try clear hb2)
           (try clear hk)
           (try clear hi)
           refine hK.out _ _ ⟨bc BK546.out 0, bc BK546.out 1, bc BK546.out 2, bc BK546.out 3, bc BK546.out 4, bc BK546.out 5, bc BK545.out 0, bc BK545.out 1, bc BK545.out 2, bc BK545.out 3, bc BK545.out 4, bc BK545.out 5⟩ (fun hHeld => ?_)
           clear hK K
           refine norm_ (a' := ?_) ?_ ?_
           rotate_left
           ·show Act.put _ (some 23) _ = _
            simp only [Act.put, y1, y2, y3, i64_w, i32_w]
            rfl
           exact norm_ s17_5 (hJ2_14 (gb553) _ ⟨hHeld, (zk BK545.out), (zk BK546.out), (zk BK547.out), (zk BK548.out), (zk BK553.out), GW553.out, GE553.out, NB545_553.out, NB553_545.out, NB546_553.out, NB553_546.out, NB547_553.out, NB553_547.out, NB548_553.out, NB553_548.out, s17_2⟩)
          ·skip
           refine box_step ?hg (N := 8) ?hd (cs := #[.int .i64 0, .int .i64 0]) (t := 89) ?hr ?_; (case hd => rfl); (case hg => rfl); (case hr => first | (go_simp; done) | (go_simp; rfl))
           intro gb554 hg w7 hbox hb
           have n0_ := Aside0.mk (bb (zk BK545.out) hb)
           have n1_ := Aside0.mk (bb (zk BK546.out) hb)
           have n2_ := Aside0.mk (bb (zk BK547.out) hb)
           have n3_ := Aside0.mk (bb (zk BK548.out) hb)
           have n4_ := Aside0.mk (bb (zk BK553.out) hb)
           have n5_ := Aside0.mk (below_step s17_2 hb)
           have n6_ := Aside0.mk (hbox)
           have n7_ := Aside0.mk (ns hg s17_2 : w.heap.size ≤ gb554)
           have n8_ := Aside0.mk (ns hg s17_2 : w.heap.size ≤ gb554)
           have n9_ := Aside0.mk ((nlt hg (zk BK545.out) : gb545 ≠ gb554))
           have n10_ := Aside0.mk ((ngt hg (zk BK545.out) : gb554 ≠ gb545))
           have n11_ := Aside0.mk ((nlt hg (zk BK546.out) : gb546 ≠ gb554))
           have n12_ := Aside0.mk ((ngt hg (zk BK546.out) : gb554 ≠ gb546))
           have n13_ := Aside0.mk ((nlt hg (zk BK547.out) : gb547 ≠ gb554))
           have n14_ := Aside0.mk ((ngt hg (zk BK547.out) : gb554 ≠ gb547))
           have n15_ := Aside0.mk ((nlt hg (zk BK548.out) : gb548 ≠ gb554))
           have n16_ := Aside0.mk ((ngt hg (zk BK548.out) : gb554 ≠ gb548))
           have n17_ := Aside0.mk ((nlt hg (zk BK553.out) : gb553 ≠ gb554))
           have n18_ := Aside0.mk ((ngt hg (zk BK553.out) : gb554 ≠ gb553))
           clear BK545 BK546 BK547 BK548 BK553 HB
           have BK545 := n0_
           have BK546 := n1_
           have BK547 := n2_
           have BK548 := n3_
           have BK553 := n4_
           have HB := n5_
           have BK554 := n6_
           have GW554 := n7_
           have GE554 := n8_
           have NB545_554 := n9_
           have NB554_545 := n10_
           have NB546_554 := n11_
           have NB554_546 := n12_
           have NB547_554 := n13_
           have NB554_547 := n14_
           have NB548_554 := n15_
           have NB554_548 := n16_
           have NB553_554 := n17_
           have NB554_553 := n18_
           clear n0_ n1_ n2_ n3_ n4_ n5_ n6_ n7_ n8_ n9_ n10_ n11_ n12_ n13_ n14_ n15_ n16_ n17_ n18_ hb hbox hg
           refine hK.out _ _ ⟨bc BK546.out 0, bc BK546.out 1, bc BK546.out 2, bc BK546.out 3, bc BK546.out 4, bc BK546.out 5, bc BK545.out 0, bc BK545.out 1, bc BK545.out 2, bc BK545.out 3, bc BK545.out 4, bc BK545.out 5⟩ (fun hHeld => ?_)
           clear hK K
           refine norm_ (a' := ?_) ?_ ?_
           rotate_left
           ·show Act.put _ (some 8) _ = _
            simp only [Act.put, y1, y2, y3, i64_w, i32_w]
            rfl
           exact norm_ s17_5 (hJ14_15 (gb553, gb554) _ ⟨hHeld, (zk BK545.out), (zk BK546.out), (zk BK547.out), (zk BK548.out), (zk BK553.out), (zk BK554.out), GW553.out, GE553.out, NB545_553.out, NB553_545.out, NB546_553.out, NB553_546.out, NB547_553.out, NB553_547.out, NB548_553.out, NB553_548.out, NB554_553.out, NB553_554.out, GW554.out, GE554.out, NB545_554.out, NB554_545.out, NB546_554.out, NB554_546.out, NB547_554.out, NB554_547.out, NB548_554.out, NB554_548.out, s17_1⟩)
        ·skip
         rintro _ w6 ⟨hS_, h0_, h1_, h2_, h3_, h4_⟩
         have n0_ : Aside0 (w6.heap[gb545]? = some (.cells #[.int .i64 a0_0, .int .i64 a0_1, .int .i64 a0_2, .int .i64 a0_3, .int .i64 a0_4, .int .i64 a0_5] 25 (0, 0))) := ⟨h0_⟩
         have n1_ : Aside0 (w6.heap[gb546]? = some (.cells #[.int .i64 a1_0, .int .i64 a1_1, .int .i64 a1_2, .int .i64 a1_3, .int .i64 a1_4, .int .i64 a1_5] 25 (0, 0))) := ⟨h1_⟩
         have n2_ : Aside0 (w6.heap[gb547]? = some (.cells #[.int .i64 0, .int .i64 0] 58 (0, 0))) := ⟨h2_⟩
         have n3_ : Aside0 (w6.heap[gb548]? = some (.cells #[.int .i64 0, .int .i64 0] 58 (0, 0))) := ⟨h3_⟩
         have n4_ : Aside0 (Below w.heap.size w w6) := ⟨h4_⟩
         clear BK545 BK546 BK547 BK548 HB h0_ h1_ h2_ h3_ h4_
         have BK545 := n0_
         have BK546 := n1_
         have BK547 := n2_
         have BK548 := n3_
         have HB := n4_
         clear n0_ n1_ n2_ n3_ n4_
         have hHeld : w6.cell? ⟨gb546, 0, none⟩ = some (.int .i64 a1_0) ∧ w6.cell? ⟨gb546, 1, none⟩ = some (.int .i64 a1_1) ∧ w6.cell? ⟨gb546, 2, none⟩ = some (.int .i64 a1_2) ∧ w6.cell? ⟨gb546, 3, none⟩ = some (.int .i64 a1_3) ∧ w6.cell? ⟨gb546, 4, none⟩ = some (.int .i64 a1_4) ∧ w6.cell? ⟨gb546, 5, none⟩ = some (.int .i64 a1_5) ∧ w6.cell? ⟨gb545, 0, none⟩ = some (.int .i64 a0_0) ∧ w6.cell? ⟨gb545, 1, none⟩ = some (.int .i64 a0_1) ∧ w6.cell? ⟨gb545, 2, none⟩ = some (.int .i64 a0_2) ∧ w6.cell? ⟨gb545, 3, none⟩ = some (.int .i64 a0_3) ∧ w6.cell? ⟨gb545, 4, none⟩ = some (.int .i64 a0_4) ∧ w6.cell? ⟨gb545, 5, none⟩ = some (.int .i64 a0_5) := hS_
         refine norm_ (a' := ?_) ?_ ?_
         rotate_left
         ·simp only [putAll, Act.put, y1, y2, y3]
          rfl
         refine two_ (i := 14) (j := 15) (Ni := some 7) (Nj := some 8) (bz 18 32767) (bz 18 49151) rfl rfl rfl rfl (two_of HT_.out (by kernel_rfl)) (by decide) (by decide) (fun K hK => ?_) (fun K hK => ?_)
         ·skip
          refine box_step ?hg (N := 7) ?hd (cs := #[.int .i64 0, .int .i64 0]) (t := 89) ?hr ?_; (case hd => rfl); (case hg => rfl); (case hr => first | (go_simp; done) | (go_simp; rfl))
          intro gb553 hg w7 hbox hb
          have n0_ := Aside0.mk (bb (zk BK545.out) hb)
          have n1_ := Aside0.mk (bb (zk BK546.out) hb)
          have n2_ := Aside0.mk (bb (zk BK547.out) hb)
          have n3_ := Aside0.mk (bb (zk BK548.out) hb)
          have n4_ := Aside0.mk (below_step s17_0 hb)
          have n5_ := Aside0.mk (hbox)
          have n6_ := Aside0.mk (ns hg s17_0 : w.heap.size ≤ gb553)
          have n7_ := Aside0.mk (ns hg s17_0 : w.heap.size ≤ gb553)
          have n8_ := Aside0.mk ((nlt hg (zk BK545.out) : gb545 ≠ gb553))
          have n9_ := Aside0.mk ((ngt hg (zk BK545.out) : gb553 ≠ gb545))
          have n10_ := Aside0.mk ((nlt hg (zk BK546.out) : gb546 ≠ gb553))
          have n11_ := Aside0.mk ((ngt hg (zk BK546.out) : gb553 ≠ gb546))
          have n12_ := Aside0.mk ((nlt hg (zk BK547.out) : gb547 ≠ gb553))
          have n13_ := Aside0.mk ((ngt hg (zk BK547.out) : gb553 ≠ gb547))
          have n14_ := Aside0.mk ((nlt hg (zk BK548.out) : gb548 ≠ gb553))
          have n15_ := Aside0.mk ((ngt hg (zk BK548.out) : gb553 ≠ gb548))
          clear BK545 BK546 BK547 BK548 HB
          have BK545 := n0_
          have BK546 := n1_
          have BK547 := n2_
          have BK548 := n3_
          have HB := n4_
          have BK553 := n5_
          have GW553 := n6_
          have GE553 := n7_
          have NB545_553 := n8_
          have NB553_545 := n9_
          have NB546_553 := n10_
          have NB553_546 := n11_
          have NB547_553 := n12_
          have NB553_547 := n13_
          have NB548_553 := n14_
          have NB553_548 := n15_
          clear n0_ n1_ n2_ n3_ n4_ n5_ n6_ n7_ n8_ n9_ n10_ n11_ n12_ n13_ n14_ n15_ hb hbox hg
          refine hK.out _ _ ⟨bc BK546.out 0, bc BK546.out 1, bc BK546.out 2, bc BK546.out 3, bc BK546.out 4, bc BK546.out 5, bc BK545.out 0, bc BK545.out 1, bc BK545.out 2, bc BK545.out 3, bc BK545.out 4, bc BK545.out 5⟩ (fun hHeld => ?_)
          clear hK K
          refine norm_ (a' := ?_) ?_ ?_
          rotate_left
          ·show Act.put _ (some 7) _ = _
           simp only [Act.put, y1, y2, y3, i64_w, i32_w]
           rfl
          exact norm_ s17_5 (hJ2_14 (gb553) _ ⟨hHeld, (zk BK545.out), (zk BK546.out), (zk BK547.out), (zk BK548.out), (zk BK553.out), GW553.out, GE553.out, NB545_553.out, NB553_545.out, NB546_553.out, NB553_546.out, NB547_553.out, NB553_547.out, NB548_553.out, NB553_548.out, s17_2⟩)
         ·skip
          refine box_step ?hg (N := 8) ?hd (cs := #[.int .i64 0, .int .i64 0]) (t := 89) ?hr ?_; (case hd => rfl); (case hg => rfl); (case hr => first | (go_simp; done) | (go_simp; rfl))
          intro gb554 hg w7 hbox hb
          have n0_ := Aside0.mk (bb (zk BK545.out) hb)
          have n1_ := Aside0.mk (bb (zk BK546.out) hb)
          have n2_ := Aside0.mk (bb (zk BK547.out) hb)
          have n3_ := Aside0.mk (bb (zk BK548.out) hb)
          have n4_ := Aside0.mk (below_step s17_0 hb)
          have n5_ := Aside0.mk (hbox)
          have n6_ := Aside0.mk (ns hg s17_0 : w.heap.size ≤ gb554)
          have n7_ := Aside0.mk (ns hg s17_0 : w.heap.size ≤ gb554)
          have n8_ := Aside0.mk ((nlt hg (zk BK545.out) : gb545 ≠ gb554))
          have n9_ := Aside0.mk ((ngt hg (zk BK545.out) : gb554 ≠ gb545))
          have n10_ := Aside0.mk ((nlt hg (zk BK546.out) : gb546 ≠ gb554))
          have n11_ := Aside0.mk ((ngt hg (zk BK546.out) : gb554 ≠ gb546))
          have n12_ := Aside0.mk ((nlt hg (zk BK547.out) : gb547 ≠ gb554))
          have n13_ := Aside0.mk ((ngt hg (zk BK547.out) : gb554 ≠ gb547))
          have n14_ := Aside0.mk ((nlt hg (zk BK548.out) : gb548 ≠ gb554))
          have n15_ := Aside0.mk ((ngt hg (zk BK548.out) : gb554 ≠ gb548))
          clear BK545 BK546 BK547 BK548 HB
          have BK545 := n0_
          have BK546 := n1_
          have BK547 := n2_
          have BK548 := n3_
          have HB := n4_
          have BK554 := n5_
          have GW554 := n6_
          have GE554 := n7_
          have NB545_554 := n8_
          have NB554_545 := n9_
          have NB546_554 := n10_
          have NB554_546 := n11_
          have NB547_554 := n12_
          have NB554_547 := n13_
          have NB548_554 := n14_
          have NB554_548 := n15_
          clear n0_ n1_ n2_ n3_ n4_ n5_ n6_ n7_ n8_ n9_ n10_ n11_ n12_ n13_ n14_ n15_ hb hbox hg
          refine hK.out _ _ ⟨bc BK546.out 0, bc BK546.out 1, bc BK546.out 2, bc BK546.out 3, bc BK546.out 4, bc BK546.out 5, bc BK545.out 0, bc BK545.out 1, bc BK545.out 2, bc BK545.out 3, bc BK545.out 4, bc BK545.out 5⟩ (fun hHeld => ?_)
          clear hK K
          refine norm_ (a' := ?_) ?_ ?_
          rotate_left
          ·show Act.put _ (some 8) _ = _
           simp only [Act.put, y1, y2, y3, i64_w, i32_w]
           rfl
          exact norm_ s17_5 (hJ2_15 (gb554) _ ⟨hHeld, (zk BK545.out), (zk BK546.out), (zk BK547.out), (zk BK548.out), (zk BK554.out), GW554.out, GE554.out, NB545_554.out, NB554_545.out, NB546_554.out, NB554_546.out, NB547_554.out, NB554_547.out, NB548_554.out, NB554_548.out, s17_3⟩)
       ·skip
        rintro ⟨gb553, gb554⟩ w6 ⟨hS_, h0_, h1_, h2_, h3_, h4_, h5_, h6_, h7_, h8_, h9_, h10_, h11_, h12_, h13_, h14_, h15_, h16_, h17_, h18_, h19_, h20_, h21_, h22_, h23_, h24_, h25_, h26_, h27_, h28_⟩
        have n0_ : Aside0 (w6.heap[gb545]? = some (.cells #[.int .i64 a0_0, .int .i64 a0_1, .int .i64 a0_2, .int .i64 a0_3, .int .i64 a0_4, .int .i64 a0_5] 25 (0, 0))) := ⟨h0_⟩
        have n1_ : Aside0 (w6.heap[gb546]? = some (.cells #[.int .i64 a1_0, .int .i64 a1_1, .int .i64 a1_2, .int .i64 a1_3, .int .i64 a1_4, .int .i64 a1_5] 25 (0, 0))) := ⟨h1_⟩
        have n2_ : Aside0 (w6.heap[gb547]? = some (.cells #[.int .i64 0, .int .i64 0] 58 (0, 0))) := ⟨h2_⟩
        have n3_ : Aside0 (w6.heap[gb548]? = some (.cells #[.int .i64 0, .int .i64 0] 58 (0, 0))) := ⟨h3_⟩
        have n4_ : Aside0 (w6.heap[gb553]? = some (.cells #[.int .i64 0, .int .i64 0] 89 (0, 0))) := ⟨h4_⟩
        have n5_ : Aside0 (w6.heap[gb554]? = some (.cells #[.int .i64 0, .int .i64 0] 89 (0, 0))) := ⟨h5_⟩
        have n6_ : Aside0 (w.heap.size ≤ gb553) := ⟨h6_⟩
        have n7_ : Aside0 (w.heap.size ≤ gb553) := ⟨h7_⟩
        have n8_ : Aside0 (gb545 ≠ gb553) := ⟨h8_⟩
        have n9_ : Aside0 (gb553 ≠ gb545) := ⟨h9_⟩
        have n10_ : Aside0 (gb546 ≠ gb553) := ⟨h10_⟩
        have n11_ : Aside0 (gb553 ≠ gb546) := ⟨h11_⟩
        have n12_ : Aside0 (gb547 ≠ gb553) := ⟨h12_⟩
        have n13_ : Aside0 (gb553 ≠ gb547) := ⟨h13_⟩
        have n14_ : Aside0 (gb548 ≠ gb553) := ⟨h14_⟩
        have n15_ : Aside0 (gb553 ≠ gb548) := ⟨h15_⟩
        have n16_ : Aside0 (gb554 ≠ gb553) := ⟨h16_⟩
        have n17_ : Aside0 (gb553 ≠ gb554) := ⟨h17_⟩
        have n18_ : Aside0 (w.heap.size ≤ gb554) := ⟨h18_⟩
        have n19_ : Aside0 (w.heap.size ≤ gb554) := ⟨h19_⟩
        have n20_ : Aside0 (gb545 ≠ gb554) := ⟨h20_⟩
        have n21_ : Aside0 (gb554 ≠ gb545) := ⟨h21_⟩
        have n22_ : Aside0 (gb546 ≠ gb554) := ⟨h22_⟩
        have n23_ : Aside0 (gb554 ≠ gb546) := ⟨h23_⟩
        have n24_ : Aside0 (gb547 ≠ gb554) := ⟨h24_⟩
        have n25_ : Aside0 (gb554 ≠ gb547) := ⟨h25_⟩
        have n26_ : Aside0 (gb548 ≠ gb554) := ⟨h26_⟩
        have n27_ : Aside0 (gb554 ≠ gb548) := ⟨h27_⟩
        have n28_ : Aside0 (Below w.heap.size w w6) := ⟨h28_⟩
        clear BK545 BK546 BK547 BK548 HB h0_ h1_ h2_ h3_ h4_ h5_ h6_ h7_ h8_ h9_ h10_ h11_ h12_ h13_ h14_ h15_ h16_ h17_ h18_ h19_ h20_ h21_ h22_ h23_ h24_ h25_ h26_ h27_ h28_
        have BK545 := n0_
        have BK546 := n1_
        have BK547 := n2_
        have BK548 := n3_
        have BK553 := n4_
        have BK554 := n5_
        have GW553 := n6_
        have GE553 := n7_
        have NB545_553 := n8_
        have NB553_545 := n9_
        have NB546_553 := n10_
        have NB553_546 := n11_
        have NB547_553 := n12_
        have NB553_547 := n13_
        have NB548_553 := n14_
        have NB553_548 := n15_
        have NB554_553 := n16_
        have NB553_554 := n17_
        have GW554 := n18_
        have GE554 := n19_
        have NB545_554 := n20_
        have NB554_545 := n21_
        have NB546_554 := n22_
        have NB554_546 := n23_
        have NB547_554 := n24_
        have NB554_547 := n25_
        have NB548_554 := n26_
        have NB554_548 := n27_
        have HB := n28_
        clear n0_ n1_ n2_ n3_ n4_ n5_ n6_ n7_ n8_ n9_ n10_ n11_ n12_ n13_ n14_ n15_ n16_ n17_ n18_ n19_ n20_ n21_ n22_ n23_ n24_ n25_ n26_ n27_ n28_
        have hHeld : w6.cell? ⟨gb546, 0, none⟩ = some (.int .i64 a1_0) ∧ w6.cell? ⟨gb546, 1, none⟩ = some (.int .i64 a1_1) ∧ w6.cell? ⟨gb546, 2, none⟩ = some (.int .i64 a1_2) ∧ w6.cell? ⟨gb546, 3, none⟩ = some (.int .i64 a1_3) ∧ w6.cell? ⟨gb546, 4, none⟩ = some (.int .i64 a1_4) ∧ w6.cell? ⟨gb546, 5, none⟩ = some (.int .i64 a1_5) ∧ w6.cell? ⟨gb545, 0, none⟩ = some (.int .i64 a0_0) ∧ w6.cell? ⟨gb545, 1, none⟩ = some (.int .i64 a0_1) ∧ w6.cell? ⟨gb545, 2, none⟩ = some (.int .i64 a0_2) ∧ w6.cell? ⟨gb545, 3, none⟩ = some (.int .i64 a0_3) ∧ w6.cell? ⟨gb545, 4, none⟩ = some (.int .i64 a0_4) ∧ w6.cell? ⟨gb545, 5, none⟩ = some (.int .i64 a0_5) := hS_
        refine norm_ (a' := ?_) ?_ ?_
        rotate_left
        ·simp only [putAll, Act.put, y1, y2, y3]
         rfl
        refine one_ (i := 2) (N := some 23) (bz 18 65535) rfl rfl (one_of HT_.out (by kernel_rfl)) (by decide) (fun K hK => ?_)
        refine goes_ Try.func70 (by kernel_rfl) rfl #[.agg #[.int .i64 a1_0, .int .i64 a1_1, .int .i64 a1_2, .int .i64 a1_3, .int .i64 a1_4, .int .i64 a1_5], .agg #[.int .i64 a0_0, .int .i64 a0_1, .int .i64 a0_2, .int .i64 a0_3, .int .i64 a0_4, .int .i64 a0_5]] (by rfl) rfl rfl s17_4 ?_
        with_reducible refine (impl_bearing.calls a1_0 a1_1 a1_2 a1_3 a1_4 a1_5 a0_0 a0_1 a0_2 a0_3 a0_4 a0_5 t551 t552 _ A33.out).mono ?_
        rintro e w7 ⟨rfl, hb⟩
        refine ⟨_, rfl, ?_⟩
        have n0_ := Aside0.mk (bb (zk BK545.out) hb)
        have n1_ := Aside0.mk (bb (zk BK546.out) hb)
        have n2_ := Aside0.mk (bb (zk BK547.out) hb)
        have n3_ := Aside0.mk (bb (zk BK548.out) hb)
        have n4_ := Aside0.mk (bb (zk BK553.out) hb)
        have n5_ := Aside0.mk (bb (zk BK554.out) hb)
        have n6_ := Aside0.mk (below_step s17_1 hb)
        clear BK545 BK546 BK547 BK548 BK553 BK554 HB
        have BK545 := n0_
        have BK546 := n1_
        have BK547 := n2_
        have BK548 := n3_
        have BK553 := n4_
        have BK554 := n5_
        have HB := n6_
        clear n0_ n1_ n2_ n3_ n4_ n5_ n6_
        (try clear hb)
        (try clear hb2)
        (try clear hk)
        (try clear hi)
        refine hK.out _ _ ⟨bc BK546.out 0, bc BK546.out 1, bc BK546.out 2, bc BK546.out 3, bc BK546.out 4, bc BK546.out 5, bc BK545.out 0, bc BK545.out 1, bc BK545.out 2, bc BK545.out 3, bc BK545.out 4, bc BK545.out 5⟩ (fun hHeld => ?_)
        clear hK K
        refine norm_ (a' := ?_) ?_ ?_
        rotate_left
        ·show Act.put _ (some 23) _ = _
         simp only [Act.put, y1, y2, y3, i64_w, i32_w]
         rfl
        exact norm_ s17_5 (hJ2_14_15 (gb553, gb554) _ ⟨hHeld, (zk BK545.out), (zk BK546.out), (zk BK547.out), (zk BK548.out), (zk BK553.out), (zk BK554.out), GW553.out, GE553.out, NB545_553.out, NB553_545.out, NB546_553.out, NB553_546.out, NB547_553.out, NB553_547.out, NB548_553.out, NB553_548.out, NB554_553.out, NB553_554.out, GW554.out, GE554.out, NB545_554.out, NB554_545.out, NB546_554.out, NB554_546.out, NB547_554.out, NB554_547.out, NB548_554.out, NB554_548.out, s17_1⟩)
      ·skip
       rintro gb554 w6 ⟨hS_, h0_, h1_, h2_, h3_, h4_, h5_, h6_, h7_, h8_, h9_, h10_, h11_, h12_, h13_, h14_, h15_⟩
       have n0_ : Aside0 (w6.heap[gb545]? = some (.cells #[.int .i64 a0_0, .int .i64 a0_1, .int .i64 a0_2, .int .i64 a0_3, .int .i64 a0_4, .int .i64 a0_5] 25 (0, 0))) := ⟨h0_⟩
       have n1_ : Aside0 (w6.heap[gb546]? = some (.cells #[.int .i64 a1_0, .int .i64 a1_1, .int .i64 a1_2, .int .i64 a1_3, .int .i64 a1_4, .int .i64 a1_5] 25 (0, 0))) := ⟨h1_⟩
       have n2_ : Aside0 (w6.heap[gb547]? = some (.cells #[.int .i64 0, .int .i64 0] 58 (0, 0))) := ⟨h2_⟩
       have n3_ : Aside0 (w6.heap[gb548]? = some (.cells #[.int .i64 0, .int .i64 0] 58 (0, 0))) := ⟨h3_⟩
       have n4_ : Aside0 (w6.heap[gb554]? = some (.cells #[.int .i64 0, .int .i64 0] 89 (0, 0))) := ⟨h4_⟩
       have n5_ : Aside0 (w.heap.size ≤ gb554) := ⟨h5_⟩
       have n6_ : Aside0 (w.heap.size ≤ gb554) := ⟨h6_⟩
       have n7_ : Aside0 (gb545 ≠ gb554) := ⟨h7_⟩
       have n8_ : Aside0 (gb554 ≠ gb545) := ⟨h8_⟩
       have n9_ : Aside0 (gb546 ≠ gb554) := ⟨h9_⟩
       have n10_ : Aside0 (gb554 ≠ gb546) := ⟨h10_⟩
       have n11_ : Aside0 (gb547 ≠ gb554) := ⟨h11_⟩
       have n12_ : Aside0 (gb554 ≠ gb547) := ⟨h12_⟩
       have n13_ : Aside0 (gb548 ≠ gb554) := ⟨h13_⟩
       have n14_ : Aside0 (gb554 ≠ gb548) := ⟨h14_⟩
       have n15_ : Aside0 (Below w.heap.size w w6) := ⟨h15_⟩
       clear BK545 BK546 BK547 BK548 HB h0_ h1_ h2_ h3_ h4_ h5_ h6_ h7_ h8_ h9_ h10_ h11_ h12_ h13_ h14_ h15_
       have BK545 := n0_
       have BK546 := n1_
       have BK547 := n2_
       have BK548 := n3_
       have BK554 := n4_
       have GW554 := n5_
       have GE554 := n6_
       have NB545_554 := n7_
       have NB554_545 := n8_
       have NB546_554 := n9_
       have NB554_546 := n10_
       have NB547_554 := n11_
       have NB554_547 := n12_
       have NB548_554 := n13_
       have NB554_548 := n14_
       have HB := n15_
       clear n0_ n1_ n2_ n3_ n4_ n5_ n6_ n7_ n8_ n9_ n10_ n11_ n12_ n13_ n14_ n15_
       have hHeld : w6.cell? ⟨gb546, 0, none⟩ = some (.int .i64 a1_0) ∧ w6.cell? ⟨gb546, 1, none⟩ = some (.int .i64 a1_1) ∧ w6.cell? ⟨gb546, 2, none⟩ = some (.int .i64 a1_2) ∧ w6.cell? ⟨gb546, 3, none⟩ = some (.int .i64 a1_3) ∧ w6.cell? ⟨gb546, 4, none⟩ = some (.int .i64 a1_4) ∧ w6.cell? ⟨gb546, 5, none⟩ = some (.int .i64 a1_5) ∧ w6.cell? ⟨gb545, 0, none⟩ = some (.int .i64 a0_0) ∧ w6.cell? ⟨gb545, 1, none⟩ = some (.int .i64 a0_1) ∧ w6.cell? ⟨gb545, 2, none⟩ = some (.int .i64 a0_2) ∧ w6.cell? ⟨gb545, 3, none⟩ = some (.int .i64 a0_3) ∧ w6.cell? ⟨gb545, 4, none⟩ = some (.int .i64 a0_4) ∧ w6.cell? ⟨gb545, 5, none⟩ = some (.int .i64 a0_5) := hS_
       refine norm_ (a' := ?_) ?_ ?_
       rotate_left
       ·simp only [putAll, Act.put, y1, y2, y3]
        rfl
       refine one_ (i := 14) (N := some 7) (bz 18 65535) rfl rfl (one_of HT_.out (by kernel_rfl)) (by decide) (fun K hK => ?_)
       refine box_step ?hg (N := 7) ?hd (cs := #[.int .i64 0, .int .i64 0]) (t := 89) ?hr ?_; (case hd => rfl); (case hg => rfl); (case hr => first | (go_simp; done) | (go_simp; rfl))
       intro gb553 hg w7 hbox hb
       have n0_ := Aside0.mk (bb (zk BK545.out) hb)
       have n1_ := Aside0.mk (bb (zk BK546.out) hb)
       have n2_ := Aside0.mk (bb (zk BK547.out) hb)
       have n3_ := Aside0.mk (bb (zk BK548.out) hb)
       have n4_ := Aside0.mk (bb (zk BK554.out) hb)
       have n5_ := Aside0.mk (below_step s17_3 hb)
       have n6_ := Aside0.mk (hbox)
       have n7_ := Aside0.mk (ns hg s17_3 : w.heap.size ≤ gb553)
       have n8_ := Aside0.mk (ns hg s17_3 : w.heap.size ≤ gb553)
       have n9_ := Aside0.mk ((nlt hg (zk BK545.out) : gb545 ≠ gb553))
       have n10_ := Aside0.mk ((ngt hg (zk BK545.out) : gb553 ≠ gb545))
       have n11_ := Aside0.mk ((nlt hg (zk BK546.out) : gb546 ≠ gb553))
       have n12_ := Aside0.mk ((ngt hg (zk BK546.out) : gb553 ≠ gb546))
       have n13_ := Aside0.mk ((nlt hg (zk BK547.out) : gb547 ≠ gb553))
       have n14_ := Aside0.mk ((ngt hg (zk BK547.out) : gb553 ≠ gb547))
       have n15_ := Aside0.mk ((nlt hg (zk BK548.out) : gb548 ≠ gb553))
       have n16_ := Aside0.mk ((ngt hg (zk BK548.out) : gb553 ≠ gb548))
       have n17_ := Aside0.mk ((nlt hg (zk BK554.out) : gb554 ≠ gb553))
       have n18_ := Aside0.mk ((ngt hg (zk BK554.out) : gb553 ≠ gb554))
       clear BK545 BK546 BK547 BK548 BK554 HB
       have BK545 := n0_
       have BK546 := n1_
       have BK547 := n2_
       have BK548 := n3_
       have BK554 := n4_
       have HB := n5_
       have BK553 := n6_
       have GW553 := n7_
       have GE553 := n8_
       have NB545_553 := n9_
       have NB553_545 := n10_
       have NB546_553 := n11_
       have NB553_546 := n12_
       have NB547_553 := n13_
       have NB553_547 := n14_
       have NB548_553 := n15_
       have NB553_548 := n16_
       have NB554_553 := n17_
       have NB553_554 := n18_
       clear n0_ n1_ n2_ n3_ n4_ n5_ n6_ n7_ n8_ n9_ n10_ n11_ n12_ n13_ n14_ n15_ n16_ n17_ n18_ hb hbox hg
       refine hK.out _ _ ⟨bc BK546.out 0, bc BK546.out 1, bc BK546.out 2, bc BK546.out 3, bc BK546.out 4, bc BK546.out 5, bc BK545.out 0, bc BK545.out 1, bc BK545.out 2, bc BK545.out 3, bc BK545.out 4, bc BK545.out 5⟩ (fun hHeld => ?_)
       clear hK K
       refine norm_ (a' := ?_) ?_ ?_
       rotate_left
       ·show Act.put _ (some 7) _ = _
        simp only [Act.put, y1, y2, y3, i64_w, i32_w]
        rfl
       exact norm_ s17_5 (hJ2_14_15 (gb553, gb554) _ ⟨hHeld, (zk BK545.out), (zk BK546.out), (zk BK547.out), (zk BK548.out), (zk BK553.out), (zk BK554.out), GW553.out, GE553.out, NB545_553.out, NB553_545.out, NB546_553.out, NB553_546.out, NB547_553.out, NB553_547.out, NB548_553.out, NB553_548.out, NB554_553.out, NB553_554.out, GW554.out, GE554.out, NB545_554.out, NB554_545.out, NB546_554.out, NB554_546.out, NB547_554.out, NB554_547.out, NB548_554.out, NB554_548.out, (by repeat (first | (with_reducible first | exact HB.out | apply below_alloc | apply pw_below_drewN | apply below_drew1 | refine below_set ?_ GE545.out | refine below_set ?_ GE546.out | refine below_set ?_ GE547.out | refine below_set ?_ GE548.out | refine below_set ?_ GE554.out | refine below_set ?_ GE553.out) | exact HB.out))⟩)
     ·skip
      rintro gb553 w6 ⟨hS_, h0_, h1_, h2_, h3_, h4_, h5_, h6_, h7_, h8_, h9_, h10_, h11_, h12_, h13_, h14_, h15_⟩
      have n0_ : Aside0 (w6.heap[gb545]? = some (.cells #[.int .i64 a0_0, .int .i64 a0_1, .int .i64 a0_2, .int .i64 a0_3, .int .i64 a0_4, .int .i64 a0_5] 25 (0, 0))) := ⟨h0_⟩
      have n1_ : Aside0 (w6.heap[gb546]? = some (.cells #[.int .i64 a1_0, .int .i64 a1_1, .int .i64 a1_2, .int .i64 a1_3, .int .i64 a1_4, .int .i64 a1_5] 25 (0, 0))) := ⟨h1_⟩
      have n2_ : Aside0 (w6.heap[gb547]? = some (.cells #[.int .i64 0, .int .i64 0] 58 (0, 0))) := ⟨h2_⟩
      have n3_ : Aside0 (w6.heap[gb548]? = some (.cells #[.int .i64 0, .int .i64 0] 58 (0, 0))) := ⟨h3_⟩
      have n4_ : Aside0 (w6.heap[gb553]? = some (.cells #[.int .i64 0, .int .i64 0] 89 (0, 0))) := ⟨h4_⟩
      have n5_ : Aside0 (w.heap.size ≤ gb553) := ⟨h5_⟩
      have n6_ : Aside0 (w.heap.size ≤ gb553) := ⟨h6_⟩
      have n7_ : Aside0 (gb545 ≠ gb553) := ⟨h7_⟩
      have n8_ : Aside0 (gb553 ≠ gb545) := ⟨h8_⟩
      have n9_ : Aside0 (gb546 ≠ gb553) := ⟨h9_⟩
      have n10_ : Aside0 (gb553 ≠ gb546) := ⟨h10_⟩
      have n11_ : Aside0 (gb547 ≠ gb553) := ⟨h11_⟩
      have n12_ : Aside0 (gb553 ≠ gb547) := ⟨h12_⟩
      have n13_ : Aside0 (gb548 ≠ gb553) := ⟨h13_⟩
      have n14_ : Aside0 (gb553 ≠ gb548) := ⟨h14_⟩
      have n15_ : Aside0 (Below w.heap.size w w6) := ⟨h15_⟩
      clear BK545 BK546 BK547 BK548 HB h0_ h1_ h2_ h3_ h4_ h5_ h6_ h7_ h8_ h9_ h10_ h11_ h12_ h13_ h14_ h15_
      have BK545 := n0_
      have BK546 := n1_
      have BK547 := n2_
      have BK548 := n3_
      have BK553 := n4_
      have GW553 := n5_
      have GE553 := n6_
      have NB545_553 := n7_
      have NB553_545 := n8_
      have NB546_553 := n9_
      have NB553_546 := n10_
      have NB547_553 := n11_
      have NB553_547 := n12_
      have NB548_553 := n13_
      have NB553_548 := n14_
      have HB := n15_
      clear n0_ n1_ n2_ n3_ n4_ n5_ n6_ n7_ n8_ n9_ n10_ n11_ n12_ n13_ n14_ n15_
      have hHeld : w6.cell? ⟨gb546, 0, none⟩ = some (.int .i64 a1_0) ∧ w6.cell? ⟨gb546, 1, none⟩ = some (.int .i64 a1_1) ∧ w6.cell? ⟨gb546, 2, none⟩ = some (.int .i64 a1_2) ∧ w6.cell? ⟨gb546, 3, none⟩ = some (.int .i64 a1_3) ∧ w6.cell? ⟨gb546, 4, none⟩ = some (.int .i64 a1_4) ∧ w6.cell? ⟨gb546, 5, none⟩ = some (.int .i64 a1_5) ∧ w6.cell? ⟨gb545, 0, none⟩ = some (.int .i64 a0_0) ∧ w6.cell? ⟨gb545, 1, none⟩ = some (.int .i64 a0_1) ∧ w6.cell? ⟨gb545, 2, none⟩ = some (.int .i64 a0_2) ∧ w6.cell? ⟨gb545, 3, none⟩ = some (.int .i64 a0_3) ∧ w6.cell? ⟨gb545, 4, none⟩ = some (.int .i64 a0_4) ∧ w6.cell? ⟨gb545, 5, none⟩ = some (.int .i64 a0_5) := hS_
      refine norm_ (a' := ?_) ?_ ?_
      rotate_left
      ·simp only [putAll, Act.put, y1, y2, y3]
       rfl
      refine one_ (i := 15) (N := some 8) (bz 18 65535) rfl rfl (one_of HT_.out (by kernel_rfl)) (by decide) (fun K hK => ?_)
      refine box_step ?hg (N := 8) ?hd (cs := #[.int .i64 0, .int .i64 0]) (t := 89) ?hr ?_; (case hd => rfl); (case hg => rfl); (case hr => first | (go_simp; done) | (go_simp; rfl))
      intro gb554 hg w7 hbox hb
      have n0_ := Aside0.mk (bb (zk BK545.out) hb)
      have n1_ := Aside0.mk (bb (zk BK546.out) hb)
      have n2_ := Aside0.mk (bb (zk BK547.out) hb)
      have n3_ := Aside0.mk (bb (zk BK548.out) hb)
      have n4_ := Aside0.mk (bb (zk BK553.out) hb)
      have n5_ := Aside0.mk (below_step s17_2 hb)
      have n6_ := Aside0.mk (hbox)
      have n7_ := Aside0.mk (ns hg s17_2 : w.heap.size ≤ gb554)
      have n8_ := Aside0.mk (ns hg s17_2 : w.heap.size ≤ gb554)
      have n9_ := Aside0.mk ((nlt hg (zk BK545.out) : gb545 ≠ gb554))
      have n10_ := Aside0.mk ((ngt hg (zk BK545.out) : gb554 ≠ gb545))
      have n11_ := Aside0.mk ((nlt hg (zk BK546.out) : gb546 ≠ gb554))
      have n12_ := Aside0.mk ((ngt hg (zk BK546.out) : gb554 ≠ gb546))
      have n13_ := Aside0.mk ((nlt hg (zk BK547.out) : gb547 ≠ gb554))
      have n14_ := Aside0.mk ((ngt hg (zk BK547.out) : gb554 ≠ gb547))
      have n15_ := Aside0.mk ((nlt hg (zk BK548.out) : gb548 ≠ gb554))
      have n16_ := Aside0.mk ((ngt hg (zk BK548.out) : gb554 ≠ gb548))
      have n17_ := Aside0.mk ((nlt hg (zk BK553.out) : gb553 ≠ gb554))
      have n18_ := Aside0.mk ((ngt hg (zk BK553.out) : gb554 ≠ gb553))
      clear BK545 BK546 BK547 BK548 BK553 HB
      have BK545 := n0_
      have BK546 := n1_
      have BK547 := n2_
      have BK548 := n3_
      have BK553 := n4_
      have HB := n5_
      have BK554 := n6_
      have GW554 := n7_
      have GE554 := n8_
      have NB545_554 := n9_
      have NB554_545 := n10_
      have NB546_554 := n11_
      have NB554_546 := n12_
      have NB547_554 := n13_
      have NB554_547 := n14_
      have NB548_554 := n15_
      have NB554_548 := n16_
      have NB553_554 := n17_
      have NB554_553 := n18_
      clear n0_ n1_ n2_ n3_ n4_ n5_ n6_ n7_ n8_ n9_ n10_ n11_ n12_ n13_ n14_ n15_ n16_ n17_ n18_ hb hbox hg
      refine hK.out _ _ ⟨bc BK546.out 0, bc BK546.out 1, bc BK546.out 2, bc BK546.out 3, bc BK546.out 4, bc BK546.out 5, bc BK545.out 0, bc BK545.out 1, bc BK545.out 2, bc BK545.out 3, bc BK545.out 4, bc BK545.out 5⟩ (fun hHeld => ?_)
      clear hK K
      refine norm_ (a' := ?_) ?_ ?_
      rotate_left
      ·show Act.put _ (some 8) _ = _
       simp only [Act.put, y1, y2, y3, i64_w, i32_w]
       rfl
      exact norm_ s17_5 (hJ2_14_15 (gb553, gb554) _ ⟨hHeld, (zk BK545.out), (zk BK546.out), (zk BK547.out), (zk BK548.out), (zk BK553.out), (zk BK554.out), GW553.out, GE553.out, NB545_553.out, NB553_545.out, NB546_553.out, NB553_546.out, NB547_553.out, NB553_547.out, NB548_553.out, NB553_548.out, NB554_553.out, NB553_554.out, GW554.out, GE554.out, NB545_554.out, NB554_545.out, NB546_554.out, NB554_546.out, NB547_554.out, NB554_547.out, NB548_554.out, NB554_548.out, s17_1⟩)
    rintro ⟨gb553, gb554⟩ w6 ⟨hS_, h0_, h1_, h2_, h3_, h4_, h5_, h6_, h7_, h8_, h9_, h10_, h11_, h12_, h13_, h14_, h15_, h16_, h17_, h18_, h19_, h20_, h21_, h22_, h23_, h24_, h25_, h26_, h27_, h28_⟩
    have n0_ : Aside0 (w6.heap[gb545]? = some (.cells #[.int .i64 a0_0, .int .i64 a0_1, .int .i64 a0_2, .int .i64 a0_3, .int .i64 a0_4, .int .i64 a0_5] 25 (0, 0))) := ⟨h0_⟩
    have n1_ : Aside0 (w6.heap[gb546]? = some (.cells #[.int .i64 a1_0, .int .i64 a1_1, .int .i64 a1_2, .int .i64 a1_3, .int .i64 a1_4, .int .i64 a1_5] 25 (0, 0))) := ⟨h1_⟩
    have n2_ : Aside0 (w6.heap[gb547]? = some (.cells #[.int .i64 0, .int .i64 0] 58 (0, 0))) := ⟨h2_⟩
    have n3_ : Aside0 (w6.heap[gb548]? = some (.cells #[.int .i64 0, .int .i64 0] 58 (0, 0))) := ⟨h3_⟩
    have n4_ : Aside0 (w6.heap[gb553]? = some (.cells #[.int .i64 0, .int .i64 0] 89 (0, 0))) := ⟨h4_⟩
    have n5_ : Aside0 (w6.heap[gb554]? = some (.cells #[.int .i64 0, .int .i64 0] 89 (0, 0))) := ⟨h5_⟩
    have n6_ : Aside0 (w.heap.size ≤ gb553) := ⟨h6_⟩
    have n7_ : Aside0 (w.heap.size ≤ gb553) := ⟨h7_⟩
    have n8_ : Aside0 (gb545 ≠ gb553) := ⟨h8_⟩
    have n9_ : Aside0 (gb553 ≠ gb545) := ⟨h9_⟩
    have n10_ : Aside0 (gb546 ≠ gb553) := ⟨h10_⟩
    have n11_ : Aside0 (gb553 ≠ gb546) := ⟨h11_⟩
    have n12_ : Aside0 (gb547 ≠ gb553) := ⟨h12_⟩
    have n13_ : Aside0 (gb553 ≠ gb547) := ⟨h13_⟩
    have n14_ : Aside0 (gb548 ≠ gb553) := ⟨h14_⟩
    have n15_ : Aside0 (gb553 ≠ gb548) := ⟨h15_⟩
    have n16_ : Aside0 (gb554 ≠ gb553) := ⟨h16_⟩
    have n17_ : Aside0 (gb553 ≠ gb554) := ⟨h17_⟩
    have n18_ : Aside0 (w.heap.size ≤ gb554) := ⟨h18_⟩
    have n19_ : Aside0 (w.heap.size ≤ gb554) := ⟨h19_⟩
    have n20_ : Aside0 (gb545 ≠ gb554) := ⟨h20_⟩
    have n21_ : Aside0 (gb554 ≠ gb545) := ⟨h21_⟩
    have n22_ : Aside0 (gb546 ≠ gb554) := ⟨h22_⟩
    have n23_ : Aside0 (gb554 ≠ gb546) := ⟨h23_⟩
    have n24_ : Aside0 (gb547 ≠ gb554) := ⟨h24_⟩
    have n25_ : Aside0 (gb554 ≠ gb547) := ⟨h25_⟩
    have n26_ : Aside0 (gb548 ≠ gb554) := ⟨h26_⟩
    have n27_ : Aside0 (gb554 ≠ gb548) := ⟨h27_⟩
    have n28_ : Aside0 (Below w.heap.size w w6) := ⟨h28_⟩
    clear BK545 BK546 BK547 BK548 HB h0_ h1_ h2_ h3_ h4_ h5_ h6_ h7_ h8_ h9_ h10_ h11_ h12_ h13_ h14_ h15_ h16_ h17_ h18_ h19_ h20_ h21_ h22_ h23_ h24_ h25_ h26_ h27_ h28_
    have BK545 := n0_
    have BK546 := n1_
    have BK547 := n2_
    have BK548 := n3_
    have BK553 := n4_
    have BK554 := n5_
    have GW553 := n6_
    have GE553 := n7_
    have NB545_553 := n8_
    have NB553_545 := n9_
    have NB546_553 := n10_
    have NB553_546 := n11_
    have NB547_553 := n12_
    have NB553_547 := n13_
    have NB548_553 := n14_
    have NB553_548 := n15_
    have NB554_553 := n16_
    have NB553_554 := n17_
    have GW554 := n18_
    have GE554 := n19_
    have NB545_554 := n20_
    have NB554_545 := n21_
    have NB546_554 := n22_
    have NB554_546 := n23_
    have NB547_554 := n24_
    have NB554_547 := n25_
    have NB548_554 := n26_
    have NB554_548 := n27_
    have HB := n28_
    clear n0_ n1_ n2_ n3_ n4_ n5_ n6_ n7_ n8_ n9_ n10_ n11_ n12_ n13_ n14_ n15_ n16_ n17_ n18_ n19_ n20_ n21_ n22_ n23_ n24_ n25_ n26_ n27_ n28_
    have hHeld : w6.cell? ⟨gb546, 0, none⟩ = some (.int .i64 a1_0) ∧ w6.cell? ⟨gb546, 1, none⟩ = some (.int .i64 a1_1) ∧ w6.cell? ⟨gb546, 2, none⟩ = some (.int .i64 a1_2) ∧ w6.cell? ⟨gb546, 3, none⟩ = some (.int .i64 a1_3) ∧ w6.cell? ⟨gb546, 4, none⟩ = some (.int .i64 a1_4) ∧ w6.cell? ⟨gb546, 5, none⟩ = some (.int .i64 a1_5) ∧ w6.cell? ⟨gb545, 0, none⟩ = some (.int .i64 a0_0) ∧ w6.cell? ⟨gb545, 1, none⟩ = some (.int .i64 a0_1) ∧ w6.cell? ⟨gb545, 2, none⟩ = some (.int .i64 a0_2) ∧ w6.cell? ⟨gb545, 3, none⟩ = some (.int .i64 a0_3) ∧ w6.cell? ⟨gb545, 4, none⟩ = some (.int .i64 a0_4) ∧ w6.cell? ⟨gb545, 5, none⟩ = some (.int .i64 a0_5) := hS_
    refine norm_ (a' := ?_) ?_ ?_
    rotate_left
    ·simp only [putAll, Act.put, y1, y2, y3]
     rfl
    refine one_ (i := 16) (N := none) (bz 18 131071) rfl rfl (one_of HT_.out (by kernel_rfl)) (by decide) (fun K hK => ?_)
    have hs41 : w6.cell? ⟨gb553, 0, none⟩ = some (.int .i64 0) := bc BK553.out 0
    have hfs41 := blk_frozen BK553.out 0
    have hns41_0 := NB545_553.out
    have hns41_1 := NB546_553.out
    have hns41_2 := NB547_553.out
    have hns41_3 := NB548_553.out
    have hns41_5 := NB554_553.out
    have hms41_0 := NB553_545.out
    have hms41_1 := NB553_546.out
    have hms41_2 := NB553_547.out
    have hms41_3 := NB553_548.out
    have hms41_5 := NB553_554.out
    have hs42 : w6.cell? ⟨gb553, 1, none⟩ = some (.int .i64 0) := bc BK553.out 1
    have hfs42 := blk_frozen BK553.out 1
    have hns42_0 := NB545_553.out
    have hns42_1 := NB546_553.out
    have hns42_2 := NB547_553.out
    have hns42_3 := NB548_553.out
    have hns42_5 := NB554_553.out
    have hms42_0 := NB553_545.out
    have hms42_1 := NB553_546.out
    have hms42_2 := NB553_547.out
    have hms42_3 := NB553_548.out
    have hms42_5 := NB553_554.out
    refine skip_ (w1 := ?_) (by rfl) rfl ?_ ?_
    rotate_left
    ·go_simp
     rfl
    refine hK.out _ _ ⟨((cell_far (p := ⟨gb553, _, none⟩) NB546_553.out _).trans (((cell_far (p := ⟨gb553, _, none⟩) NB546_553.out _).trans (hHeld.1)))), ((cell_far (p := ⟨gb553, _, none⟩) NB546_553.out _).trans (((cell_far (p := ⟨gb553, _, none⟩) NB546_553.out _).trans (hHeld.2.1)))), ((cell_far (p := ⟨gb553, _, none⟩) NB546_553.out _).trans (((cell_far (p := ⟨gb553, _, none⟩) NB546_553.out _).trans (hHeld.2.2.1)))), ((cell_far (p := ⟨gb553, _, none⟩) NB546_553.out _).trans (((cell_far (p := ⟨gb553, _, none⟩) NB546_553.out _).trans (hHeld.2.2.2.1)))), ((cell_far (p := ⟨gb553, _, none⟩) NB546_553.out _).trans (((cell_far (p := ⟨gb553, _, none⟩) NB546_553.out _).trans (hHeld.2.2.2.2.1)))), ((cell_far (p := ⟨gb553, _, none⟩) NB546_553.out _).trans (((cell_far (p := ⟨gb553, _, none⟩) NB546_553.out _).trans (hHeld.2.2.2.2.2.1)))), ((cell_far (p := ⟨gb553, _, none⟩) NB545_553.out _).trans (((cell_far (p := ⟨gb553, _, none⟩) NB545_553.out _).trans (hHeld.2.2.2.2.2.2.1)))), ((cell_far (p := ⟨gb553, _, none⟩) NB545_553.out _).trans (((cell_far (p := ⟨gb553, _, none⟩) NB545_553.out _).trans (hHeld.2.2.2.2.2.2.2.1)))), ((cell_far (p := ⟨gb553, _, none⟩) NB545_553.out _).trans (((cell_far (p := ⟨gb553, _, none⟩) NB545_553.out _).trans (hHeld.2.2.2.2.2.2.2.2.1)))), ((cell_far (p := ⟨gb553, _, none⟩) NB545_553.out _).trans (((cell_far (p := ⟨gb553, _, none⟩) NB545_553.out _).trans (hHeld.2.2.2.2.2.2.2.2.2.1)))), ((cell_far (p := ⟨gb553, _, none⟩) NB545_553.out _).trans (((cell_far (p := ⟨gb553, _, none⟩) NB545_553.out _).trans (hHeld.2.2.2.2.2.2.2.2.2.2.1)))), ((cell_far (p := ⟨gb553, _, none⟩) NB545_553.out _).trans (((cell_far (p := ⟨gb553, _, none⟩) NB545_553.out _).trans (hHeld.2.2.2.2.2.2.2.2.2.2.2))))⟩ (fun hHeld => ?_)
    clear hK K
    refine one_ (i := 17) (N := none) (bz 18 262143) rfl rfl (one_of HT_.out (by kernel_rfl)) (by decide) (fun K hK => ?_)
    have hs43 : w6.cell? ⟨gb554, 0, none⟩ = some (.int .i64 0) := bc BK554.out 0
    have hfs43 := blk_frozen BK554.out 0
    have hns43_0 := NB545_554.out
    have hns43_1 := NB546_554.out
    have hns43_2 := NB547_554.out
    have hns43_3 := NB548_554.out
    have hns43_4 := NB553_554.out
    have hms43_0 := NB554_545.out
    have hms43_1 := NB554_546.out
    have hms43_2 := NB554_547.out
    have hms43_3 := NB554_548.out
    have hms43_4 := NB554_553.out
    have hs44 : w6.cell? ⟨gb554, 1, none⟩ = some (.int .i64 0) := bc BK554.out 1
    have hfs44 := blk_frozen BK554.out 1
    have hns44_0 := NB545_554.out
    have hns44_1 := NB546_554.out
    have hns44_2 := NB547_554.out
    have hns44_3 := NB548_554.out
    have hns44_4 := NB553_554.out
    have hms44_0 := NB554_545.out
    have hms44_1 := NB554_546.out
    have hms44_2 := NB554_547.out
    have hms44_3 := NB554_548.out
    have hms44_4 := NB554_553.out
    refine skip_ (w1 := ?_) (by rfl) rfl ?_ ?_
    rotate_left
    ·go_simp
     rfl
    refine hK.out _ _ ⟨((cell_far (p := ⟨gb554, _, none⟩) NB546_554.out _).trans (((cell_far (p := ⟨gb554, _, none⟩) NB546_554.out _).trans (hHeld.1)))), ((cell_far (p := ⟨gb554, _, none⟩) NB546_554.out _).trans (((cell_far (p := ⟨gb554, _, none⟩) NB546_554.out _).trans (hHeld.2.1)))), ((cell_far (p := ⟨gb554, _, none⟩) NB546_554.out _).trans (((cell_far (p := ⟨gb554, _, none⟩) NB546_554.out _).trans (hHeld.2.2.1)))), ((cell_far (p := ⟨gb554, _, none⟩) NB546_554.out _).trans (((cell_far (p := ⟨gb554, _, none⟩) NB546_554.out _).trans (hHeld.2.2.2.1)))), ((cell_far (p := ⟨gb554, _, none⟩) NB546_554.out _).trans (((cell_far (p := ⟨gb554, _, none⟩) NB546_554.out _).trans (hHeld.2.2.2.2.1)))), ((cell_far (p := ⟨gb554, _, none⟩) NB546_554.out _).trans (((cell_far (p := ⟨gb554, _, none⟩) NB546_554.out _).trans (hHeld.2.2.2.2.2.1)))), ((cell_far (p := ⟨gb554, _, none⟩) NB545_554.out _).trans (((cell_far (p := ⟨gb554, _, none⟩) NB545_554.out _).trans (hHeld.2.2.2.2.2.2.1)))), ((cell_far (p := ⟨gb554, _, none⟩) NB545_554.out _).trans (((cell_far (p := ⟨gb554, _, none⟩) NB545_554.out _).trans (hHeld.2.2.2.2.2.2.2.1)))), ((cell_far (p := ⟨gb554, _, none⟩) NB545_554.out _).trans (((cell_far (p := ⟨gb554, _, none⟩) NB545_554.out _).trans (hHeld.2.2.2.2.2.2.2.2.1)))), ((cell_far (p := ⟨gb554, _, none⟩) NB545_554.out _).trans (((cell_far (p := ⟨gb554, _, none⟩) NB545_554.out _).trans (hHeld.2.2.2.2.2.2.2.2.2.1)))), ((cell_far (p := ⟨gb554, _, none⟩) NB545_554.out _).trans (((cell_far (p := ⟨gb554, _, none⟩) NB545_554.out _).trans (hHeld.2.2.2.2.2.2.2.2.2.2.1)))), ((cell_far (p := ⟨gb554, _, none⟩) NB545_554.out _).trans (((cell_far (p := ⟨gb554, _, none⟩) NB545_554.out _).trans (hHeld.2.2.2.2.2.2.2.2.2.2.2))))⟩ (fun hHeld => ?_)
    clear hK K
    refine done_ (done_of HT_.out (by kernel_rfl)) ?_
    have hnb45 := NB553_545.out
    have hnc45 := NB545_553.out
    have hnb46 := NB553_546.out
    have hnc46 := NB546_553.out
    have hnb47 := NB553_547.out
    have hnc47 := NB547_553.out
    have hnb48 := NB553_548.out
    have hnc48 := NB548_553.out
    have hnb49 := NB553_554.out
    have hnc49 := NB554_553.out
    have hcz50_0 : w6.cell? ⟨gb553, 0, none⟩ = some (.int .i64 0) := bc BK553.out 0
    have hcz50_1 : w6.cell? ⟨gb553, 1, none⟩ = some (.int .i64 0) := bc BK553.out 1
    have hfz50_0 := blk_frozen BK553.out 0
    have hfz50_1 := blk_frozen BK553.out 1
    have hnb51 := NB554_545.out
    have hnc51 := NB545_554.out
    have hnb52 := NB554_546.out
    have hnc52 := NB546_554.out
    have hnb53 := NB554_547.out
    have hnc53 := NB547_554.out
    have hnb54 := NB554_548.out
    have hnc54 := NB548_554.out
    have hcz55_0 : w6.cell? ⟨gb554, 0, none⟩ = some (.int .i64 0) := bc BK554.out 0
    have hcz55_1 : w6.cell? ⟨gb554, 1, none⟩ = some (.int .i64 0) := bc BK554.out 1
    have hfz55_0 := blk_frozen BK554.out 0
    have hfz55_1 := blk_frozen BK554.out 1
    go_upto_region 5 with (first | ((with_reducible refine gate_callee (f := 72) rfl ?_); refine goesL_ (some 37) rfl rfl Try.func72 (by kernel_rfl) rfl #[.agg #[.int .i64 t551, .int .i64 t552], .agg #[.int .i64 (wrap64 (a1_2 - a0_2)), .int .i64 (wrap64 (a1_3 - a0_3))]] rfl s17_4 ?_; (with_reducible refine (impl_vec_dot.calls t551 t552 (wrap64 (a1_2 - a0_2)) (wrap64 (a1_3 - a0_3)) t555 _ A34.out).mono ?_); rintro e w7 ⟨rfl, hb⟩; refine ⟨_, rfl, ?_⟩; have n0_ := Aside0.mk (blk_below (g := gb545) (o := .cells #[.int .i64 a0_0, .int .i64 a0_1, .int .i64 a0_2, .int .i64 a0_3, .int .i64 a0_4, .int .i64 a0_5] 25 (0, 0)) (by (with_reducible repeat (first | refine blk_drewN ?_ _ | refine blk_drew ?_ | refine blk_alloc ?_ _)); refine blk_far ?_ NB545_554.out _; (with_reducible repeat (first | refine blk_drewN ?_ _ | refine blk_drew ?_ | refine blk_alloc ?_ _)); refine blk_far ?_ NB545_554.out _; (with_reducible repeat (first | refine blk_drewN ?_ _ | refine blk_drew ?_ | refine blk_alloc ?_ _)); refine blk_far ?_ NB545_553.out _; (with_reducible repeat (first | refine blk_drewN ?_ _ | refine blk_drew ?_ | refine blk_alloc ?_ _)); refine blk_far ?_ NB545_553.out _; (with_reducible repeat (first | refine blk_drewN ?_ _ | refine blk_drew ?_ | refine blk_alloc ?_ _)); exact BK545.out) hb); have n1_ := Aside0.mk (blk_below (g := gb546) (o := .cells #[.int .i64 a1_0, .int .i64 a1_1, .int .i64 a1_2, .int .i64 a1_3, .int .i64 a1_4, .int .i64 a1_5] 25 (0, 0)) (by (with_reducible repeat (first | refine blk_drewN ?_ _ | refine blk_drew ?_ | refine blk_alloc ?_ _)); refine blk_far ?_ NB546_554.out _; (with_reducible repeat (first | refine blk_drewN ?_ _ | refine blk_drew ?_ | refine blk_alloc ?_ _)); refine blk_far ?_ NB546_554.out _; (with_reducible repeat (first | refine blk_drewN ?_ _ | refine blk_drew ?_ | refine blk_alloc ?_ _)); refine blk_far ?_ NB546_553.out _; (with_reducible repeat (first | refine blk_drewN ?_ _ | refine blk_drew ?_ | refine blk_alloc ?_ _)); refine blk_far ?_ NB546_553.out _; (with_reducible repeat (first | refine blk_drewN ?_ _ | refine blk_drew ?_ | refine blk_alloc ?_ _)); exact BK546.out) hb); have n2_ := Aside0.mk (blk_below (g := gb547) (o := .cells #[.int .i64 0, .int .i64 0] 58 (0, 0)) (by (with_reducible repeat (first | refine blk_drewN ?_ _ | refine blk_drew ?_ | refine blk_alloc ?_ _)); refine blk_far ?_ NB547_554.out _; (with_reducible repeat (first | refine blk_drewN ?_ _ | refine blk_drew ?_ | refine blk_alloc ?_ _)); refine blk_far ?_ NB547_554.out _; (with_reducible repeat (first | refine blk_drewN ?_ _ | refine blk_drew ?_ | refine blk_alloc ?_ _)); refine blk_far ?_ NB547_553.out _; (with_reducible repeat (first | refine blk_drewN ?_ _ | refine blk_drew ?_ | refine blk_alloc ?_ _)); refine blk_far ?_ NB547_553.out _; (with_reducible repeat (first | refine blk_drewN ?_ _ | refine blk_drew ?_ | refine blk_alloc ?_ _)); exact BK547.out) hb); have n3_ := Aside0.mk (blk_below (g := gb548) (o := .cells #[.int .i64 0, .int .i64 0] 58 (0, 0)) (by (with_reducible repeat (first | refine blk_drewN ?_ _ | refine blk_drew ?_ | refine blk_alloc ?_ _)); refine blk_far ?_ NB548_554.out _; (with_reducible repeat (first | refine blk_drewN ?_ _ | refine blk_drew ?_ | refine blk_alloc ?_ _)); refine blk_far ?_ NB548_554.out _; (with_reducible repeat (first | refine blk_drewN ?_ _ | refine blk_drew ?_ | refine blk_alloc ?_ _)); refine blk_far ?_ NB548_553.out _; (with_reducible repeat (first | refine blk_drewN ?_ _ | refine blk_drew ?_ | refine blk_alloc ?_ _)); refine blk_far ?_ NB548_553.out _; (with_reducible repeat (first | refine blk_drewN ?_ _ | refine blk_drew ?_ | refine blk_alloc ?_ _)); exact BK548.out) hb); have n4_ := Aside0.mk (blk_below (g := gb553) (o := .cells #[.int .i64 t551, .int .i64 t552] 89 (0, 0)) (by (with_reducible repeat (first | refine blk_drewN ?_ _ | refine blk_drew ?_ | refine blk_alloc ?_ _)); refine blk_far ?_ NB553_554.out _; (with_reducible repeat (first | refine blk_drewN ?_ _ | refine blk_drew ?_ | refine blk_alloc ?_ _)); refine blk_far ?_ NB553_554.out _; (with_reducible repeat (first | refine blk_drewN ?_ _ | refine blk_drew ?_ | refine blk_alloc ?_ _)); refine blk_put (cs := #[.int .i64 t551, .int .i64 0]) ?_ 1 _ rfl; (with_reducible repeat (first | refine blk_drewN ?_ _ | refine blk_drew ?_ | refine blk_alloc ?_ _)); refine blk_put (cs := #[.int .i64 0, .int .i64 0]) ?_ 0 _ rfl; (with_reducible repeat (first | refine blk_drewN ?_ _ | refine blk_drew ?_ | refine blk_alloc ?_ _)); exact BK553.out) hb); have n5_ := Aside0.mk (blk_below (g := gb554) (o := .cells #[.int .i64 (wrap64 (a1_2 - a0_2)), .int .i64 (wrap64 (a1_3 - a0_3))] 89 (0, 0)) (by (with_reducible repeat (first | refine blk_drewN ?_ _ | refine blk_drew ?_ | refine blk_alloc ?_ _)); refine blk_put (cs := #[.int .i64 (wrap64 (a1_2 - a0_2)), .int .i64 0]) ?_ 1 _ rfl; (with_reducible repeat (first | refine blk_drewN ?_ _ | refine blk_drew ?_ | refine blk_alloc ?_ _)); refine blk_put (cs := #[.int .i64 0, .int .i64 0]) ?_ 0 _ rfl; (with_reducible repeat (first | refine blk_drewN ?_ _ | refine blk_drew ?_ | refine blk_alloc ?_ _)); refine blk_far ?_ NB554_553.out _; (with_reducible repeat (first | refine blk_drewN ?_ _ | refine blk_drew ?_ | refine blk_alloc ?_ _)); refine blk_far ?_ NB554_553.out _; (with_reducible repeat (first | refine blk_drewN ?_ _ | refine blk_drew ?_ | refine blk_alloc ?_ _)); exact BK554.out) hb); have n6_ := Aside0.mk (below_step s17_1 hb); clear BK545; clear BK546; clear BK547; clear BK548; clear BK553; clear BK554; clear HB; have BK545 := n0_; have BK546 := n1_; have BK547 := n2_; have BK548 := n3_; have BK553 := n4_; have BK554 := n5_; have HB := n6_; clear n0_ n1_ n2_ n3_ n4_ n5_ n6_; (try clear hb); (try clear hb2); (try clear hk); (try clear hi)))
    (try simp only [Act.put, List.setIfInBounds_toArray, List.set_cons_zero, List.set_cons_succ])
    go_cut [45] (fun v45 wc => ∃ (kq : Nat) (x45_34 : Bool), v45 = .bool x45_34 ∧ Aside0 (impl_Closest.j1 kq (wrap64 (-t555)) x45_34 t551 t552 (wrap64 (a1_2 - a0_2)) (wrap64 (a1_3 - a0_3)) = some (r1, r2, r3, r4, r5)) ∧ Aside0 (kq ≤ kj2) ∧ Aside0 (wc.heap[gb545]? = some (.cells #[.int .i64 a0_0, .int .i64 a0_1, .int .i64 a0_2, .int .i64 a0_3, .int .i64 a0_4, .int .i64 a0_5] 25 (0, 0))) ∧ Aside0 (wc.heap[gb546]? = some (.cells #[.int .i64 a1_0, .int .i64 a1_1, .int .i64 a1_2, .int .i64 a1_3, .int .i64 a1_4, .int .i64 a1_5] 25 (0, 0))) ∧ Aside0 (wc.heap[gb547]? = some (.cells #[.int .i64 0, .int .i64 0] 58 (0, 0))) ∧ Aside0 (wc.heap[gb548]? = some (.cells #[.int .i64 0, .int .i64 0] 58 (0, 0))) ∧ Aside0 (wc.heap[gb553]? = some (.cells #[.int .i64 t551, .int .i64 t552] 89 (0, 0))) ∧ Aside0 (wc.heap[gb554]? = some (.cells #[.int .i64 (wrap64 (a1_2 - a0_2)), .int .i64 (wrap64 (a1_3 - a0_3))] 89 (0, 0))) ∧ Aside0 (Below w.heap.size w wc))
    case first =>
     have H := HC35.out
     clear HC35
     by_cases c57 : ((wrap64 (a1_2 - a0_2)) == 0 && ((wrap64 (a1_3 - a0_3)) == 0)) = true
     ·rw [if_pos c57] at H
      have c57b0 : ((wrap64 (a1_2 - a0_2)) == 0 && ((wrap64 (a1_3 - a0_3)) == 0)) = true := c57
      (try (have c57b1 : decide ((wrap64 (a1_2 - a0_2)) = 0 && ((wrap64 (a1_3 - a0_3)) == 0)) = true := by simpa using c57))
      (try (have c57b2 : ((wrap64 (a1_2 - a0_2)) == 0 && ((wrap64 (a1_3 - a0_3)) == 0)) = true := by simpa using c57))
      clear c57
      (first | rw [c57b0] | (simp only [i64_w, i32_w]; rw [c57b0]) | skip)
      have H' := Aside0.mk H
      clear H
      have hnb58 := NB554_545.out
      have hnc58 := NB545_554.out
      have hnb59 := NB554_546.out
      have hnc59 := NB546_554.out
      have hnb60 := NB554_547.out
      have hnc60 := NB547_554.out
      have hnb61 := NB554_548.out
      have hnc61 := NB548_554.out
      have hnb62 := NB554_553.out
      have hnc62 := NB553_554.out
      have hcz63_0 : w7.cell? ⟨gb554, 0, none⟩ = some (.int .i64 (wrap64 (a1_2 - a0_2))) := bc BK554.out 0
      have hcz63_1 : w7.cell? ⟨gb554, 1, none⟩ = some (.int .i64 (wrap64 (a1_3 - a0_3))) := bc BK554.out 1
      have hfz63_0 := blk_frozen BK554.out 0
      have hfz63_1 := blk_frozen BK554.out 1
      go_wp2
      go_meet
      case rel => exact ⟨_, (true), (by first | rfl | (simp; done) | (simp [*]; done)), H', ⟨by have := HJ2.out; first | omega | exact Nat.le_refl _⟩, ⟨by (with_reducible repeat (first | refine blk_drewN ?_ _ | refine blk_drew ?_ | refine blk_alloc ?_ _)); exact BK545.out⟩, ⟨by (with_reducible repeat (first | refine blk_drewN ?_ _ | refine blk_drew ?_ | refine blk_alloc ?_ _)); exact BK546.out⟩, ⟨by (with_reducible repeat (first | refine blk_drewN ?_ _ | refine blk_drew ?_ | refine blk_alloc ?_ _)); exact BK547.out⟩, ⟨by (with_reducible repeat (first | refine blk_drewN ?_ _ | refine blk_drew ?_ | refine blk_alloc ?_ _)); exact BK548.out⟩, ⟨by (with_reducible repeat (first | refine blk_drewN ?_ _ | refine blk_drew ?_ | refine blk_alloc ?_ _)); exact BK553.out⟩, ⟨by (with_reducible repeat (first | refine blk_drewN ?_ _ | refine blk_drew ?_ | refine blk_alloc ?_ _)); exact BK554.out⟩, ⟨by repeat (first | (with_reducible first | exact HB.out | apply below_alloc | apply pw_below_drewN | apply below_drew1 | refine below_set ?_ GE545.out | refine below_set ?_ GE546.out | refine below_set ?_ GE547.out | refine below_set ?_ GE548.out | refine below_set ?_ GE553.out | refine below_set ?_ GE554.out) | exact HB.out)⟩⟩
     ·rw [if_neg c57] at H
      have c57b0 : ((wrap64 (a1_2 - a0_2)) == 0 && ((wrap64 (a1_3 - a0_3)) == 0)) = false := by simpa using c57
      (try (have c57b1 : decide ((wrap64 (a1_2 - a0_2)) = 0 && ((wrap64 (a1_3 - a0_3)) == 0)) = false := by simpa using c57))
      (try (have c57b2 : ((wrap64 (a1_2 - a0_2)) == 0 && ((wrap64 (a1_3 - a0_3)) == 0)) = false := by simpa using c57))
      (try (have c57b3 : ¬ ((wrap64 (a1_2 - a0_2)) = 0 && ((wrap64 (a1_3 - a0_3)) == 0)) := by simpa using c57))
      clear c57
      (first | rw [c57b0] | (simp only [i64_w, i32_w]; rw [c57b0]) | skip)
      have H' := Aside0.mk H
      clear H
      have hnb64 := NB554_545.out
      have hnc64 := NB545_554.out
      have hnb65 := NB554_546.out
      have hnc65 := NB546_554.out
      have hnb66 := NB554_547.out
      have hnc66 := NB547_554.out
      have hnb67 := NB554_548.out
      have hnc67 := NB548_554.out
      have hnb68 := NB554_553.out
      have hnc68 := NB553_554.out
      have hcz69_0 : w7.cell? ⟨gb554, 0, none⟩ = some (.int .i64 (wrap64 (a1_2 - a0_2))) := bc BK554.out 0
      have hcz69_1 : w7.cell? ⟨gb554, 1, none⟩ = some (.int .i64 (wrap64 (a1_3 - a0_3))) := bc BK554.out 1
      have hfz69_0 := blk_frozen BK554.out 0
      have hfz69_1 := blk_frozen BK554.out 1
      go_wp2
      go_meet
      case rel => exact ⟨_, (decide ((wrap64 (-t555)) < 0)), (by first | rfl | (simp; done) | (simp [*]; done)), H', ⟨by have := HJ2.out; first | omega | exact Nat.le_refl _⟩, ⟨by (with_reducible repeat (first | refine blk_drewN ?_ _ | refine blk_drew ?_ | refine blk_alloc ?_ _)); exact BK545.out⟩, ⟨by (with_reducible repeat (first | refine blk_drewN ?_ _ | refine blk_drew ?_ | refine blk_alloc ?_ _)); exact BK546.out⟩, ⟨by (with_reducible repeat (first | refine blk_drewN ?_ _ | refine blk_drew ?_ | refine blk_alloc ?_ _)); exact BK547.out⟩, ⟨by (with_reducible repeat (first | refine blk_drewN ?_ _ | refine blk_drew ?_ | refine blk_alloc ?_ _)); exact BK548.out⟩, ⟨by (with_reducible repeat (first | refine blk_drewN ?_ _ | refine blk_drew ?_ | refine blk_alloc ?_ _)); exact BK553.out⟩, ⟨by (with_reducible repeat (first | refine blk_drewN ?_ _ | refine blk_drew ?_ | refine blk_alloc ?_ _)); exact BK554.out⟩, ⟨by repeat (first | (with_reducible first | exact HB.out | apply below_alloc | apply pw_below_drewN | apply below_drew1 | refine below_set ?_ GE545.out | refine below_set ?_ GE546.out | refine below_set ?_ GE547.out | refine below_set ?_ GE548.out | refine below_set ?_ GE553.out | refine below_set ?_ GE554.out) | exact HB.out)⟩⟩
    case rest =>
     clear HC35
     (try clear p2); (try clear c4); (try clear c5); (try clear c6); (try clear p6); (try clear c7); (try clear c45); (try clear c46); (try clear c47); (try clear c48); (try clear c49); (try clear c51); (try clear c52); (try clear c53); (try clear c54); (try clear c57); (try clear c57b0); (try clear c57b1); (try clear c57b2); (try clear c58); (try clear c59); (try clear c60); (try clear c61); (try clear c62); (try clear c64); (try clear p64); (try clear c65); (try clear c66); (try clear c67); (try clear c68); (try clear hcz50_0); (try clear hcz50_1); (try clear hcz55_0); (try clear hcz55_1); (try clear hcz63_0); (try clear hcz63_1); (try clear hcz69_0); (try clear hcz69_1); (try clear hfz50_0); (try clear hfz50_1); (try clear hfz55_0); (try clear hfz55_1); (try clear hfz63_0); (try clear hfz63_1); (try clear hfz69_0); (try clear hfz69_1)
     obtain ⟨kq, x45_34, rfl, HA, HJ34, BK545, BK546, BK547, BK548, BK553, BK554, HB⟩ := hcut
     cases kq with
     | zero => exact absurd HA.out (by simp [impl_Closest.j1])
     | succ kj34 =>
      have H := HA.out
      clear HA
      simp only [impl_Closest.j1] at H
      by_cases c70 : x45_34 = true
      ·subst c70
       have H1 : ((impl_vec_dot.f t551 t552 t551 t552).bind fun t556 => (some (0, 1, t556, 1, true))) = some (r1, r2, r3, r4, r5) := by rw [if_pos rfl] at H; exact H
       clear H
       have H := H1
       clear H1
       replace H := Option.bind_eq_some_iff.mp H
       obtain ⟨t556, A710, H⟩ := H
       replace H : (some (0, 1, t556, 1, true)) = some (r1, r2, r3, r4, r5) := H
       have A71 := Aside0.mk A710
       clear A710
       simp only [Option.some.injEq, Prod.mk.injEq] at H
       obtain ⟨rfl, rfl, rfl, rfl, rfl⟩ := H
       have hnb72 := NB553_545.out
       have hnc72 := NB545_553.out
       have hnb73 := NB553_546.out
       have hnc73 := NB546_553.out
       have hnb74 := NB553_547.out
       have hnc74 := NB547_553.out
       have hnb75 := NB553_548.out
       have hnc75 := NB548_553.out
       have hnb76 := NB553_554.out
       have hnc76 := NB554_553.out
       have hcz77_0 : wc.cell? ⟨gb553, 0, none⟩ = some (.int .i64 t551) := bc BK553.out 0
       have hcz77_1 : wc.cell? ⟨gb553, 1, none⟩ = some (.int .i64 t552) := bc BK553.out 1
       have hfz77_0 := blk_frozen BK553.out 0
       have hfz77_1 := blk_frozen BK553.out 1
       go_wp2_with (first | ((with_reducible refine gate_callee (f := 72) rfl ?_); refine goesL_ (some 49) rfl rfl Try.func72 (by kernel_rfl) rfl #[.agg #[.int .i64 t551, .int .i64 t552], .agg #[.int .i64 t551, .int .i64 t552]] rfl s17_4 ?_; (with_reducible refine (impl_vec_dot.calls t551 t552 t551 t552 t556 _ A71.out).mono ?_); rintro e w8 ⟨rfl, hb⟩; refine ⟨_, rfl, ?_⟩; have n0_ := Aside0.mk (bb (zk BK545.out) hb); have n1_ := Aside0.mk (bb (zk BK546.out) hb); have n2_ := Aside0.mk (bb (zk BK547.out) hb); have n3_ := Aside0.mk (bb (zk BK548.out) hb); have n4_ := Aside0.mk (bb (zk BK553.out) hb); have n5_ := Aside0.mk (blk_below (g := gb554) (o := .cells #[.int .i64 (wrap64 (a1_2 - a0_2)), .int .i64 (wrap64 (a1_3 - a0_3))] 89 (0, 0)) (zk BK554.out) hb); have n6_ := Aside0.mk (below_step s17_1 hb); clear BK545; clear BK546; clear BK547; clear BK548; clear BK553; clear BK554; clear HB; have BK545 := n0_; have BK546 := n1_; have BK547 := n2_; have BK548 := n3_; have BK553 := n4_; have BK554 := n5_; have HB := n6_; clear n0_ n1_ n2_ n3_ n4_ n5_ n6_; (try clear hb); (try clear hb2); (try clear hk); (try clear hi); have hnb79 := NB547_545.out; have hnc79 := NB545_547.out; have hnb80 := NB547_546.out; have hnc80 := NB546_547.out; have hnb81 := NB547_548.out; have hnc81 := NB548_547.out; have hnb82 := NB547_554.out; have hnc82 := NB554_547.out; have hcz83_0 : w8.cell? ⟨gb547, 0, none⟩ = some (.int .i64 0) := bc BK547.out 0; have hcz83_1 : w8.cell? ⟨gb547, 1, none⟩ = some (.int .i64 0) := bc BK547.out 1; have hfz83_0 := blk_frozen BK547.out 0; have hfz83_1 := blk_frozen BK547.out 1; have hnb84 := NB548_545.out; have hnc84 := NB545_548.out; have hnb85 := NB548_546.out; have hnc85 := NB546_548.out; have hnb86 := NB548_554.out; have hnc86 := NB554_548.out; have hcz87_0 : w8.cell? ⟨gb548, 0, none⟩ = some (.int .i64 0) := bc BK548.out 0; have hcz87_1 : w8.cell? ⟨gb548, 1, none⟩ = some (.int .i64 0) := bc BK548.out 1; have hfz87_0 := blk_frozen BK548.out 0; have hfz87_1 := blk_frozen BK548.out 1))
       refine bodyPost_ret (results_list (rs := [.cell 4 58, .cell 5 58, .tmp 6]) rfl (by simp) (.cell gb547 58 #[.int .i64 0, .int .i64 1] (0, 0) _ rfl (by (with_reducible repeat (first | refine blk_drewN ?_ _ | refine blk_drew ?_ | refine blk_alloc ?_ _)); refine blk_far ?_ NB547_548.out _; (with_reducible repeat (first | refine blk_drewN ?_ _ | refine blk_drew ?_ | refine blk_alloc ?_ _)); refine blk_far ?_ NB547_548.out _; (with_reducible repeat (first | refine blk_drewN ?_ _ | refine blk_drew ?_ | refine blk_alloc ?_ _)); refine blk_put (cs := #[.int .i64 0, .int .i64 0]) ?_ 1 _ rfl; (with_reducible repeat (first | refine blk_drewN ?_ _ | refine blk_drew ?_ | refine blk_alloc ?_ _)); refine blk_put (cs := #[.int .i64 0, .int .i64 0]) ?_ 0 _ rfl; (with_reducible repeat (first | refine blk_drewN ?_ _ | refine blk_drew ?_ | refine blk_alloc ?_ _)); exact BK547.out) Try.underlying58 rfl (by kernel_rfl) (.cell gb548 58 #[.int .i64 t556, .int .i64 1] (0, 0) _ rfl (by (with_reducible repeat (first | refine blk_drewN ?_ _ | refine blk_drew ?_ | refine blk_alloc ?_ _)); refine blk_put (cs := #[.int .i64 t556, .int .i64 0]) ?_ 1 _ rfl; (with_reducible repeat (first | refine blk_drewN ?_ _ | refine blk_drew ?_ | refine blk_alloc ?_ _)); refine blk_put (cs := #[.int .i64 0, .int .i64 0]) ?_ 0 _ rfl; (with_reducible repeat (first | refine blk_drewN ?_ _ | refine blk_drew ?_ | refine blk_alloc ?_ _)); refine blk_far ?_ NB548_547.out _; (with_reducible repeat (first | refine blk_drewN ?_ _ | refine blk_drew ?_ | refine blk_alloc ?_ _)); refine blk_far ?_ NB548_547.out _; (with_reducible repeat (first | refine blk_drewN ?_ _ | refine blk_drew ?_ | refine blk_alloc ?_ _)); exact BK548.out) Try.underlying58 rfl (by kernel_rfl) (.tmp .nil)))) rfl ?_
       exact ⟨by first | rfl | (simp [errW_none, errW_some] <;> rfl) | (simp [*, errW_none, errW_some] <;> rfl), by repeat (first | (with_reducible first | exact HB.out | apply below_alloc | apply pw_below_drewN | apply below_drew1 | refine below_set ?_ GE545.out | refine below_set ?_ GE546.out | refine below_set ?_ GE547.out | refine below_set ?_ GE548.out | refine below_set ?_ GE553.out | refine below_set ?_ GE554.out) | exact HB.out)⟩
      ·replace c70 := Bool.eq_false_iff.mpr c70
       subst c70
       have H1 : ((impl_vec_cross.f t551 t552 (wrap64 (a1_2 - a0_2)) (wrap64 (a1_3 - a0_3))).bind fun t557 => ((impl_vec_dot.f (wrap64 (a1_2 - a0_2)) (wrap64 (a1_3 - a0_3)) (wrap64 (a1_2 - a0_2)) (wrap64 (a1_3 - a0_3))).bind fun t558 => ((impl_fracOf.f kj34 (wrap64 (-t555)) t558).bind fun bt559 => ((impl_vec_dot.f (wrap64 (a1_2 - a0_2)) (wrap64 (a1_3 - a0_3)) (wrap64 (a1_2 - a0_2)) (wrap64 (a1_3 - a0_3))).bind fun t561 => ((impl_fracOf.f kj34 (wrap64 (t557 * t557)) t561).bind fun bt562 => (some (bt559.1, bt559.2, bt562.1, bt562.2, true))))))) = some (r1, r2, r3, r4, r5) := by rw [if_neg (show ¬ (false = true) by decide)] at H; exact H
       clear H
       have H := H1
       clear H1
       replace H := Option.bind_eq_some_iff.mp H
       obtain ⟨t557, A880, H⟩ := H
       replace H : ((impl_vec_dot.f (wrap64 (a1_2 - a0_2)) (wrap64 (a1_3 - a0_3)) (wrap64 (a1_2 - a0_2)) (wrap64 (a1_3 - a0_3))).bind fun t558 => ((impl_fracOf.f kj34 (wrap64 (-t555)) t558).bind fun bt559 => ((impl_vec_dot.f (wrap64 (a1_2 - a0_2)) (wrap64 (a1_3 - a0_3)) (wrap64 (a1_2 - a0_2)) (wrap64 (a1_3 - a0_3))).bind fun t561 => ((impl_fracOf.f kj34 (wrap64 (t557 * t557)) t561).bind fun bt562 => (some (bt559.1, bt559.2, bt562.1, bt562.2, true)))))) = some (r1, r2, r3, r4, r5) := H
       have A88 := Aside0.mk A880
       clear A880
       replace H := Option.bind_eq_some_iff.mp H
       obtain ⟨t558, A890, H⟩ := H
       replace H : ((impl_fracOf.f kj34 (wrap64 (-t555)) t558).bind fun bt559 => ((impl_vec_dot.f (wrap64 (a1_2 - a0_2)) (wrap64 (a1_3 - a0_3)) (wrap64 (a1_2 - a0_2)) (wrap64 (a1_3 - a0_3))).bind fun t561 => ((impl_fracOf.f kj34 (wrap64 (t557 * t557)) t561).bind fun bt562 => (some (bt559.1, bt559.2, bt562.1, bt562.2, true))))) = some (r1, r2, r3, r4, r5) := H
       have A89 := Aside0.mk A890
       clear A890
       replace H := Option.bind_eq_some_iff.mp H
       obtain ⟨⟨t559, t560⟩, A900, H⟩ := H
       replace H : ((impl_vec_dot.f (wrap64 (a1_2 - a0_2)) (wrap64 (a1_3 - a0_3)) (wrap64 (a1_2 - a0_2)) (wrap64 (a1_3 - a0_3))).bind fun t561 => ((impl_fracOf.f kj34 (wrap64 (t557 * t557)) t561).bind fun bt562 => (some (t559, t560, bt562.1, bt562.2, true)))) = some (r1, r2, r3, r4, r5) := H
       have A90 := Aside0.mk A900
       clear A900
       replace H := Option.bind_eq_some_iff.mp H
       obtain ⟨t561, A910, H⟩ := H
       replace H : ((impl_fracOf.f kj34 (wrap64 (t557 * t557)) t561).bind fun bt562 => (some (t559, t560, bt562.1, bt562.2, true))) = some (r1, r2, r3, r4, r5) := H
       have A91 := Aside0.mk A910
       clear A910
       replace H := Option.bind_eq_some_iff.mp H
       obtain ⟨⟨t562, t563⟩, A920, H⟩ := H
       replace H : (some (t559, t560, t562, t563, true)) = some (r1, r2, r3, r4, r5) := H
       have A92 := Aside0.mk A920
       clear A920
       simp only [Option.some.injEq, Prod.mk.injEq] at H
       obtain ⟨rfl, rfl, rfl, rfl, rfl⟩ := H
       have hnb93 := NB553_545.out
       have hnc93 := NB545_553.out
       have hnb94 := NB553_546.out
       have hnc94 := NB546_553.out
       have hnb95 := NB553_547.out
       have hnc95 := NB547_553.out
       have hnb96 := NB553_548.out
       have hnc96 := NB548_553.out
       have hnb97 := NB553_554.out
       have hnc97 := NB554_553.out
       have hcz98_0 : wc.cell? ⟨gb553, 0, none⟩ = some (.int .i64 t551) := bc BK553.out 0
       have hcz98_1 : wc.cell? ⟨gb553, 1, none⟩ = some (.int .i64 t552) := bc BK553.out 1
       have hfz98_0 := blk_frozen BK553.out 0
       have hfz98_1 := blk_frozen BK553.out 1
       have hnb99 := NB554_545.out
       have hnc99 := NB545_554.out
       have hnb100 := NB554_546.out
       have hnc100 := NB546_554.out
       have hnb101 := NB554_547.out
       have hnc101 := NB547_554.out
       have hnb102 := NB554_548.out
       have hnc102 := NB548_554.out
       have hcz103_0 : wc.cell? ⟨gb554, 0, none⟩ = some (.int .i64 (wrap64 (a1_2 - a0_2))) := bc BK554.out 0
       have hcz103_1 : wc.cell? ⟨gb554, 1, none⟩ = some (.int .i64 (wrap64 (a1_3 - a0_3))) := bc BK554.out 1
       have hfz103_0 := blk_frozen BK554.out 0
       have hfz103_1 := blk_frozen BK554.out 1
       try go_wp2_with (first | ((with_reducible refine gate_callee (f := 74) rfl ?_); refine goesL_ (some 53) rfl rfl Try.func74 (by kernel_rfl) rfl #[.agg #[.int .i64 t551, .int .i64 t552], .agg #[.int .i64 (wrap64 (a1_2 - a0_2)), .int .i64 (wrap64 (a1_3 - a0_3))]] rfl s17_4 ?_; (with_reducible refine (impl_vec_cross.calls t551 t552 (wrap64 (a1_2 - a0_2)) (wrap64 (a1_3 - a0_3)) t557 _ A88.out).mono ?_); rintro e w8 ⟨rfl, hb⟩; refine ⟨_, rfl, ?_⟩; have n0_ := Aside0.mk (bb (zk BK545.out) hb); have n1_ := Aside0.mk (bb (zk BK546.out) hb); have n2_ := Aside0.mk (bb (zk BK547.out) hb); have n3_ := Aside0.mk (bb (zk BK548.out) hb); have n4_ := Aside0.mk (bb (zk BK553.out) hb); have n5_ := Aside0.mk (blk_below (g := gb554) (o := .cells #[.int .i64 (wrap64 (a1_2 - a0_2)), .int .i64 (wrap64 (a1_3 - a0_3))] 89 (0, 0)) (zk BK554.out) hb); have n6_ := Aside0.mk (below_step s17_1 hb); clear BK545; clear BK546; clear BK547; clear BK548; clear BK553; clear BK554; clear HB; have BK545 := n0_; have BK546 := n1_; have BK547 := n2_; have BK548 := n3_; have BK553 := n4_; have BK554 := n5_; have HB := n6_; clear n0_ n1_ n2_ n3_ n4_ n5_ n6_; (try clear hb); (try clear hb2); (try clear hk); (try clear hi)))
       have n0_ := Aside0.mk (blk_drew BK545.out)
       have n1_ := Aside0.mk (blk_drew BK546.out)
       have n2_ := Aside0.mk (blk_drew BK547.out)
       have n3_ := Aside0.mk (blk_drew BK548.out)
       have n4_ := Aside0.mk (blk_drew BK553.out)
       have n5_ := Aside0.mk (blk_drew BK554.out)
       have n6_ := Aside0.mk (below_drew1 HB.out)
       clear BK545 BK546 BK547 BK548 BK553 BK554 HB
       have BK545 := n0_
       have BK546 := n1_
       have BK547 := n2_
       have BK548 := n3_
       have BK553 := n4_
       have BK554 := n5_
       have HB := n6_
       clear n0_ n1_ n2_ n3_ n4_ n5_ n6_
       refine start_ (n := 15) (S := fun w' => w'.cell? ⟨gb554, 0, none⟩ = some (.int .i64 (wrap64 (a1_2 - a0_2))) ∧ w'.cell? ⟨gb554, 1, none⟩ = some (.int .i64 (wrap64 (a1_3 - a0_3)))) (ds := []) #[false, false, false, false, false, false, false, false, false, false, false, false, false, false, false] (by kernel_rfl) rfl rfl ⟨bc BK554.out 0, bc BK554.out 1⟩ (fun hHeld => ?_); refine with_tabW impl_Closest.tab8 impl_Closest.bits8 (fun HT_ HW_ => ?_)
       generalize w8.drew = w9 at BK545 BK546 BK547 BK548 BK553 BK554 HB hHeld ⊢
       refine pure_ (i := 0) (N := some 54) (v := ?_) (a' := ?_) (bz 15 1) rfl rfl (any_of HT_.out (by kernel_rfl)) (fun _ _ _ h => h) (Or.inl ⟨by rfl, ?_⟩) ?_ ?_
       rotate_left
       ·intro w'
        go_simp
        with_reducible rfl
       rotate_left
       ·exact t17_0
       refine pure_ (i := 5) (N := some 59) (v := ?_) (a' := ?_) (bz 15 33) rfl rfl (any_of HT_.out (by kernel_rfl)) (fun _ _ _ h => h) (Or.inl ⟨by rfl, ?_⟩) ?_ ?_
       rotate_left
       ·intro w'
        go_simp
        with_reducible rfl
       rotate_left
       ·exact t17_0
       refine pure_ (i := 6) (N := some 60) (v := ?_) (a' := ?_) (bz 15 97) rfl rfl (any_of HT_.out (by kernel_rfl)) (fun _ _ _ h => h) (Or.inl ⟨by rfl, ?_⟩) ?_ ?_
       rotate_left
       ·intro w'
        go_simp
        with_reducible rfl
       rotate_left
       ·exact t17_0
       refine pure_ (i := 7) (N := some 61) (v := ?_) (a' := ?_) (bz 15 225) rfl rfl (any_of HT_.out (by kernel_rfl)) (fun _ _ _ h => h) (Or.inl ⟨by rfl, ?_⟩) ?_ ?_
       rotate_left
       ·intro w'
        go_simp
        with_reducible rfl
       rotate_left
       ·exact t17_0
       refine take_ (i := 1) (N := some 55) (v := ?_) (a' := ?_) (bz 15 227) rfl rfl (take_ofW HT_.out HW_.out (by kernel_rfl)) (fun _ _ _ h => h) (Or.inl ⟨by rfl, ?_⟩) hHeld ?_ ?_
       rotate_left
       ·rintro w' ⟨s0, s1⟩
        go_simp
        with_reducible rfl
       rotate_left
       ·exact t17_0
       refine take_ (i := 2) (N := some 56) (v := ?_) (a' := ?_) (bz 15 231) rfl rfl (take_ofW HT_.out HW_.out (by kernel_rfl)) (fun _ _ _ h => h) (Or.inl ⟨by rfl, ?_⟩) hHeld ?_ ?_
       rotate_left
       ·rintro w' ⟨s0, s1⟩
        go_simp
        with_reducible rfl
       rotate_left
       ·exact t17_0
       refine take_ (i := 8) (N := some 62) (v := ?_) (a' := ?_) (bz 15 487) rfl rfl (take_ofW HT_.out HW_.out (by kernel_rfl)) (fun _ _ _ h => h) (Or.inl ⟨by rfl, ?_⟩) hHeld ?_ ?_
       rotate_left
       ·rintro w' ⟨s0, s1⟩
        go_simp
        with_reducible rfl
       rotate_left
       ·exact t17_0
       refine take_ (i := 9) (N := some 63) (v := ?_) (a' := ?_) (bz 15 999) rfl rfl (take_ofW HT_.out HW_.out (by kernel_rfl)) (fun _ _ _ h => h) (Or.inl ⟨by rfl, ?_⟩) hHeld ?_ ?_
       rotate_left
       ·rintro w' ⟨s0, s1⟩
        go_simp
        with_reducible rfl
       rotate_left
       ·exact t17_0
       refine one_ (i := 3) (N := some 57) (bz 15 1007) rfl rfl (one_of HT_.out (by kernel_rfl)) (by decide) (fun K hK => ?_)
       refine goes_ Try.func72 (by kernel_rfl) rfl #[.agg #[.int .i64 (wrap64 (a1_2 - a0_2)), .int .i64 (wrap64 (a1_3 - a0_3))], .agg #[.int .i64 (wrap64 (a1_2 - a0_2)), .int .i64 (wrap64 (a1_3 - a0_3))]] (by rfl) rfl rfl s17_4 ?_
       with_reducible refine (impl_vec_dot.calls (wrap64 (a1_2 - a0_2)) (wrap64 (a1_3 - a0_3)) (wrap64 (a1_2 - a0_2)) (wrap64 (a1_3 - a0_3)) t558 _ A89.out).mono ?_
       rintro e w10 ⟨rfl, hb⟩
       refine ⟨_, rfl, ?_⟩
       have n0_ := Aside0.mk (bb (zk BK545.out) hb)
       have n1_ := Aside0.mk (bb (zk BK546.out) hb)
       have n2_ := Aside0.mk (bb (zk BK547.out) hb)
       have n3_ := Aside0.mk (bb (zk BK548.out) hb)
       have n4_ := Aside0.mk (bb (zk BK553.out) hb)
       have n5_ := Aside0.mk (blk_below (g := gb554) (o := .cells #[.int .i64 (wrap64 (a1_2 - a0_2)), .int .i64 (wrap64 (a1_3 - a0_3))] 89 (0, 0)) (zk BK554.out) hb)
       have n6_ := Aside0.mk (below_step s17_1 hb)
       clear BK545 BK546 BK547 BK548 BK553 BK554 HB
       have BK545 := n0_
       have BK546 := n1_
       have BK547 := n2_
       have BK548 := n3_
       have BK553 := n4_
       have BK554 := n5_
       have HB := n6_
       clear n0_ n1_ n2_ n3_ n4_ n5_ n6_
       (try clear hb)
       (try clear hb2)
       (try clear hk)
       (try clear hi)
       refine hK.out _ _ ⟨bc BK554.out 0, bc BK554.out 1⟩ (fun hHeld => ?_)
       clear hK K
       refine norm_ (a' := ?_) ?_ ?_
       rotate_left
       ·show Act.put _ (some 57) _ = _
        simp only [Act.put, y1, y2, y3, i64_w, i32_w]
        rfl
       refine one_ (i := 4) (N := some 58) (bz 15 1023) rfl rfl (one_of HT_.out (by kernel_rfl)) (by decide) (fun K hK => ?_)
       refine goes_ Try.func82 (by kernel_rfl) rfl #[.int .i64 (wrap64 (-t555)), .int .i64 t558] (by rfl) rfl rfl s17_4 ?_
       with_reducible refine (impl_fracOf.calls kj34 (wrap64 (-t555)) t558 t559 t560 _ A90.out).mono ?_
       rintro e w11 ⟨rfl, hb⟩
       refine ⟨_, rfl, ?_⟩
       have n0_ := Aside0.mk (bb (zk BK545.out) hb)
       have n1_ := Aside0.mk (bb (zk BK546.out) hb)
       have n2_ := Aside0.mk (bb (zk BK547.out) hb)
       have n3_ := Aside0.mk (bb (zk BK548.out) hb)
       have n4_ := Aside0.mk (bb (zk BK553.out) hb)
       have n5_ := Aside0.mk (blk_below (g := gb554) (o := .cells #[.int .i64 (wrap64 (a1_2 - a0_2)), .int .i64 (wrap64 (a1_3 - a0_3))] 89 (0, 0)) (zk BK554.out) hb)
       have n6_ := Aside0.mk (below_step s17_1 hb)
       clear BK545 BK546 BK547 BK548 BK553 BK554 HB
       have BK545 := n0_
       have BK546 := n1_
       have BK547 := n2_
       have BK548 := n3_
       have BK553 := n4_
       have BK554 := n5_
       have HB := n6_
       clear n0_ n1_ n2_ n3_ n4_ n5_ n6_
       (try clear hb)
       (try clear hb2)
       (try clear hk)
       (try clear hi)
       refine hK.out _ _ ⟨bc BK554.out 0, bc BK554.out 1⟩ (fun hHeld => ?_)
       clear hK K
       refine norm_ (a' := ?_) ?_ ?_
       rotate_left
       ·show Act.put _ (some 58) _ = _
        simp only [Act.put, y1, y2, y3, i64_w, i32_w]
        rfl
       refine one_ (i := 10) (N := some 64) (bz 15 2047) rfl rfl (one_of HT_.out (by kernel_rfl)) (by decide) (fun K hK => ?_)
       refine goes_ Try.func72 (by kernel_rfl) rfl #[.agg #[.int .i64 (wrap64 (a1_2 - a0_2)), .int .i64 (wrap64 (a1_3 - a0_3))], .agg #[.int .i64 (wrap64 (a1_2 - a0_2)), .int .i64 (wrap64 (a1_3 - a0_3))]] (by rfl) rfl rfl s17_4 ?_
       with_reducible refine (impl_vec_dot.calls (wrap64 (a1_2 - a0_2)) (wrap64 (a1_3 - a0_3)) (wrap64 (a1_2 - a0_2)) (wrap64 (a1_3 - a0_3)) t561 _ A91.out).mono ?_
       rintro e w12 ⟨rfl, hb⟩
       refine ⟨_, rfl, ?_⟩
       have n0_ := Aside0.mk (bb (zk BK545.out) hb)
       have n1_ := Aside0.mk (bb (zk BK546.out) hb)
       have n2_ := Aside0.mk (bb (zk BK547.out) hb)
       have n3_ := Aside0.mk (bb (zk BK548.out) hb)
       have n4_ := Aside0.mk (bb (zk BK553.out) hb)
       have n5_ := Aside0.mk (blk_below (g := gb554) (o := .cells #[.int .i64 (wrap64 (a1_2 - a0_2)), .int .i64 (wrap64 (a1_3 - a0_3))] 89 (0, 0)) (zk BK554.out) hb)
       have n6_ := Aside0.mk (below_step s17_1 hb)
       clear BK545 BK546 BK547 BK548 BK553 BK554 HB
       have BK545 := n0_
       have BK546 := n1_
       have BK547 := n2_
       have BK548 := n3_
       have BK553 := n4_
       have BK554 := n5_
       have HB := n6_
       clear n0_ n1_ n2_ n3_ n4_ n5_ n6_
       (try clear hb)
       (try clear hb2)
       (try clear hk)
       (try clear hi)
       refine hK.out _ _ ⟨bc BK554.out 0, bc BK554.out 1⟩ (fun hHeld => ?_)
       clear hK K
       refine norm_ (a' := ?_) ?_ ?_
       rotate_left
       ·show Act.put _ (some 64) _ = _
        simp only [Act.put, y1, y2, y3, i64_w, i32_w]
        rfl
       refine one_ (i := 11) (N := some 65) (bz 15 4095) rfl rfl (one_of HT_.out (by kernel_rfl)) (by decide) (fun K hK => ?_)
       refine goes_ Try.func82 (by kernel_rfl) rfl #[.int .i64 (wrap64 (t557 * t557)), .int .i64 t561] (by rfl) rfl rfl s17_4 ?_
       with_reducible refine (impl_fracOf.calls kj34 (wrap64 (t557 * t557)) t561 t562 t563 _ A92.out).mono ?_
       rintro e w13 ⟨rfl, hb⟩
       refine ⟨_, rfl, ?_⟩
       have n0_ := Aside0.mk (bb (zk BK545.out) hb)
       have n1_ := Aside0.mk (bb (zk BK546.out) hb)
       have n2_ := Aside0.mk (bb (zk BK547.out) hb)
       have n3_ := Aside0.mk (bb (zk BK548.out) hb)
       have n4_ := Aside0.mk (bb (zk BK553.out) hb)
       have n5_ := Aside0.mk (blk_below (g := gb554) (o := .cells #[.int .i64 (wrap64 (a1_2 - a0_2)), .int .i64 (wrap64 (a1_3 - a0_3))] 89 (0, 0)) (zk BK554.out) hb)
       have n6_ := Aside0.mk (below_step s17_1 hb)
       clear BK545 BK546 BK547 BK548 BK553 BK554 HB
       have BK545 := n0_
       have BK546 := n1_
       have BK547 := n2_
       have BK548 := n3_
       have BK553 := n4_
       have BK554 := n5_
       have HB := n6_
       clear n0_ n1_ n2_ n3_ n4_ n5_ n6_
       (try clear hb)
       (try clear hb2)
       (try clear hk)
       (try clear hi)
       refine hK.out _ _ ⟨bc BK554.out 0, bc BK554.out 1⟩ (fun hHeld => ?_)
       clear hK K
       refine norm_ (a' := ?_) ?_ ?_
       rotate_left
       ·show Act.put _ (some 65) _ = _
        simp only [Act.put, y1, y2, y3, i64_w, i32_w]
        rfl
       refine one_ (i := 12) (N := none) (bz 15 8191) rfl rfl (one_of HT_.out (by kernel_rfl)) (by decide) (fun K hK => ?_)
       have hs110 : w13.cell? ⟨gb547, 0, none⟩ = some (.int .i64 0) := bc BK547.out 0
       have hfs110 := blk_frozen BK547.out 0
       have hns110_0 := NB545_547.out
       have hns110_1 := NB546_547.out
       have hns110_3 := NB548_547.out
       have hns110_4 := NB553_547.out
       have hns110_5 := NB554_547.out
       have hms110_0 := NB547_545.out
       have hms110_1 := NB547_546.out
       have hms110_3 := NB547_548.out
       have hms110_4 := NB547_553.out
       have hms110_5 := NB547_554.out
       have hs111 : w13.cell? ⟨gb547, 1, none⟩ = some (.int .i64 0) := bc BK547.out 1
       have hfs111 := blk_frozen BK547.out 1
       have hns111_0 := NB545_547.out
       have hns111_1 := NB546_547.out
       have hns111_3 := NB548_547.out
       have hns111_4 := NB553_547.out
       have hns111_5 := NB554_547.out
       have hms111_0 := NB547_545.out
       have hms111_1 := NB547_546.out
       have hms111_3 := NB547_548.out
       have hms111_4 := NB547_553.out
       have hms111_5 := NB547_554.out
       refine skip_ (w1 := ?_) (by rfl) rfl ?_ ?_
       rotate_left
       ·go_simp
        rfl
       refine hK.out _ _ ⟨((cell_far (p := ⟨gb547, _, none⟩) NB554_547.out _).trans (((cell_far (p := ⟨gb547, _, none⟩) NB554_547.out _).trans (hHeld.1)))), ((cell_far (p := ⟨gb547, _, none⟩) NB554_547.out _).trans (((cell_far (p := ⟨gb547, _, none⟩) NB554_547.out _).trans (hHeld.2))))⟩ (fun hHeld => ?_)
       clear hK K
       refine one_ (i := 13) (N := none) (bz 15 16383) rfl rfl (one_of HT_.out (by kernel_rfl)) (by decide) (fun K hK => ?_)
       have hs112 : w13.cell? ⟨gb548, 0, none⟩ = some (.int .i64 0) := bc BK548.out 0
       have hfs112 := blk_frozen BK548.out 0
       have hns112_0 := NB545_548.out
       have hns112_1 := NB546_548.out
       have hns112_2 := NB547_548.out
       have hns112_4 := NB553_548.out
       have hns112_5 := NB554_548.out
       have hms112_0 := NB548_545.out
       have hms112_1 := NB548_546.out
       have hms112_2 := NB548_547.out
       have hms112_4 := NB548_553.out
       have hms112_5 := NB548_554.out
       have hs113 : w13.cell? ⟨gb548, 1, none⟩ = some (.int .i64 0) := bc BK548.out 1
       have hfs113 := blk_frozen BK548.out 1
       have hns113_0 := NB545_548.out
       have hns113_1 := NB546_548.out
       have hns113_2 := NB547_548.out
       have hns113_4 := NB553_548.out
       have hns113_5 := NB554_548.out
       have hms113_0 := NB548_545.out
       have hms113_1 := NB548_546.out
       have hms113_2 := NB548_547.out
       have hms113_4 := NB548_553.out
       have hms113_5 := NB548_554.out
       refine skip_ (w1 := ?_) (by rfl) rfl ?_ ?_
       rotate_left
       ·go_simp
        rfl
       refine hK.out _ _ ⟨((cell_far (p := ⟨gb548, _, none⟩) NB554_548.out _).trans (((cell_far (p := ⟨gb548, _, none⟩) NB554_548.out _).trans (hHeld.1)))), ((cell_far (p := ⟨gb548, _, none⟩) NB554_548.out _).trans (((cell_far (p := ⟨gb548, _, none⟩) NB554_548.out _).trans (hHeld.2))))⟩ (fun hHeld => ?_)
       clear hK K
       refine pure_ (i := 14) (N := some 6) (v := ?_) (a' := ?_) (bz 15 32767) rfl rfl (any_of HT_.out (by kernel_rfl)) (fun _ _ _ h => h) (Or.inl ⟨by rfl, ?_⟩) ?_ ?_
       rotate_left
       ·intro w'
        go_simp
        with_reducible rfl
       rotate_left
       ·exact t17_0
       refine done_ (done_of HT_.out (by kernel_rfl)) ?_
       try go_wp2
       refine bodyPost_ret (results_list (rs := [.cell 4 58, .cell 5 58, .tmp 6]) rfl (by simp) (.cell gb547 58 #[.int .i64 t559, .int .i64 t560] (0, 0) _ rfl (by (with_reducible repeat (first | refine blk_drewN ?_ _ | refine blk_drew ?_ | refine blk_alloc ?_ _)); refine blk_far ?_ NB547_548.out _; (with_reducible repeat (first | refine blk_drewN ?_ _ | refine blk_drew ?_ | refine blk_alloc ?_ _)); refine blk_far ?_ NB547_548.out _; (with_reducible repeat (first | refine blk_drewN ?_ _ | refine blk_drew ?_ | refine blk_alloc ?_ _)); refine blk_put (cs := #[.int .i64 t559, .int .i64 0]) ?_ 1 _ rfl; (with_reducible repeat (first | refine blk_drewN ?_ _ | refine blk_drew ?_ | refine blk_alloc ?_ _)); refine blk_put (cs := #[.int .i64 0, .int .i64 0]) ?_ 0 _ rfl; (with_reducible repeat (first | refine blk_drewN ?_ _ | refine blk_drew ?_ | refine blk_alloc ?_ _)); exact BK547.out) Try.underlying58 rfl (by kernel_rfl) (.cell gb548 58 #[.int .i64 t562, .int .i64 t563] (0, 0) _ rfl (by (with_reducible repeat (first | refine blk_drewN ?_ _ | refine blk_drew ?_ | refine blk_alloc ?_ _)); refine blk_put (cs := #[.int .i64 t562, .int .i64 0]) ?_ 1 _ rfl; (with_reducible repeat (first | refine blk_drewN ?_ _ | refine blk_drew ?_ | refine blk_alloc ?_ _)); refine blk_put (cs := #[.int .i64 0, .int .i64 0]) ?_ 0 _ rfl; (with_reducible repeat (first | refine blk_drewN ?_ _ | refine blk_drew ?_ | refine blk_alloc ?_ _)); refine blk_far ?_ NB548_547.out _; (with_reducible repeat (first | refine blk_drewN ?_ _ | refine blk_drew ?_ | refine blk_alloc ?_ _)); refine blk_far ?_ NB548_547.out _; (with_reducible repeat (first | refine blk_drewN ?_ _ | refine blk_drew ?_ | refine blk_alloc ?_ _)); exact BK548.out) Try.underlying58 rfl (by kernel_rfl) (.tmp .nil)))) rfl ?_
       exact ⟨by first | rfl | (simp [errW_none, errW_some] <;> rfl) | (simp [*, errW_none, errW_some] <;> rfl), by repeat (first | (with_reducible first | exact HB.out | apply below_alloc | apply pw_below_drewN | apply below_drew1 | refine below_set ?_ GE545.out | refine below_set ?_ GE546.out | refine below_set ?_ GE547.out | refine below_set ?_ GE548.out | refine below_set ?_ GE553.out | refine below_set ?_ GE554.out) | exact HB.out)⟩

end Go.Proofs.Ytfbokdbaondjdaa.PV1
/- The plain part for Closest. -/
namespace Go.Proofs.Ytfbokdbaondjdaa.Cl
open Go.RowKit Go.Proofs.Ytfbokdbaondjdaa.PV1 Go.Proofs.YtfbokdbaondjdaaW.PrintWords Go.Proofs.Ytfbokdbaondjdaa.Bh
set_option linter.unusedVariables false
theorem Ev.ret {α : Type} {g : Nat → Option α} {r : α} (h : ∀ k, g (k + 1) = some r) : Ev g r := ⟨1, fun k hk => by obtain ⟨m, rfl⟩ : ∃ m, k = m + 1 := ⟨k - 1, by omega⟩; exact h m⟩
theorem Ev.const {α : Type} {g : Nat → Option α} {r : α} (h : ∀ k, g k = some r) : Ev g r := ⟨0, fun k _ => h k⟩
theorem gcd_impl (y : Nat) : ∀ x : Nat, Ev (fun k => impl_gcd.l0 k x y) ((Nat.gcd x y : Nat) : Int) := by
  induction y using Nat.strongRecOn with
  | _ y ih =>
    intro x
    by_cases h : y = 0
    · subst h
      refine Ev.ret fun k => ?_
      simp only [impl_gcd.l0]
      rw [if_pos (by omega), Nat.gcd_zero_right]
    · have e : Nat.gcd x y = Nat.gcd y (x % y) := by rw [Nat.gcd_comm x y, Nat.gcd_rec y x, Nat.gcd_comm]
      rw [e]
      refine Ev.step (f := fun k => impl_gcd.l0 k y ((x % y : Nat) : Int)) (fun k => ?_) (ih (x % y) (Nat.mod_lt _ (by omega)) y)
      simp only [impl_gcd.l0]
      rw [if_neg (by omega), Int.tmod_eq_emod_of_nonneg (by omega), ← Int.natCast_emod]
theorem gcd_spec (n : Nat) : ∀ a b : Int, b.natAbs = n → a.natAbs < 9223372036854775808 → n < 9223372036854775808 → Ev (fun k => spec_l2Gcd.l0 k a b) ((Nat.gcd a.natAbs b.natAbs : Nat) : Int) := by
  induction n using Nat.strongRecOn with
  | _ n ih =>
    intro a b hb ha hbb
    by_cases h : b = 0
    · subst h
      refine Ev.ret fun k => ?_
      simp only [spec_l2Gcd.l0]
      rw [if_pos trivial, Int.natAbs_zero, Nat.gcd_zero_right]
      by_cases h0 : a < 0
      · rw [if_pos h0, w64 _ (by omega) (by omega)]
        congr 1
        omega
      · rw [if_neg h0]
        congr 1
        omega
    · have hm : (Int.tmod a b).natAbs = a.natAbs % b.natAbs := Int.natAbs_tmod a b
      have hlt : a.natAbs % b.natAbs < b.natAbs := Nat.mod_lt _ (by omega)
      have e : Nat.gcd a.natAbs b.natAbs = Nat.gcd b.natAbs (Int.tmod a b).natAbs := by rw [hm, Nat.gcd_comm a.natAbs, Nat.gcd_rec b.natAbs a.natAbs, Nat.gcd_comm]
      rw [e]
      refine Ev.step (f := fun k => spec_l2Gcd.l0 k b (Int.tmod a b)) (fun k => ?_) (ih _ (by omega) b (Int.tmod a b) rfl (by omega) (by omega))
      simp only [spec_l2Gcd.l0]
      rw [if_neg h]
theorem size_any (a : Int) (h : a.natAbs < 9223372036854775808) : impl_size.f a = some (a.natAbs : Int) := by
  unfold impl_size.f
  by_cases h0 : a < 0
  · rw [if_pos h0, w64 _ (by omega) (by omega)]
    congr 1
    omega
  · rw [if_neg h0]
    congr 1
    omega
def fracF (a b : Int) : Int × Int := (wrap64 (Int.tdiv a (Nat.gcd a.natAbs b.natAbs : Nat)), wrap64 (Int.tdiv b (Nat.gcd a.natAbs b.natAbs : Nat)))
theorem frac_impl (a b : Int) (ha : a.natAbs < 9223372036854775808) (hb : 0 < b) (hb2 : b < 9223372036854775808) : Ev (fun k => impl_fracOf.f k a b) (fracF a b) := by
  have hg : Nat.gcd a.natAbs b.natAbs ≠ 0 := fun h => by have := Nat.eq_zero_of_gcd_eq_zero_right h; omega
  unfold impl_fracOf.f impl_gcd.f fracF
  rw [size_any a ha, size_any b (by omega)]
  simp only [Option.bind_some]
  exact Ev.bind (gcd_impl b.natAbs a.natAbs) (Ev.const fun _ => by rw [if_neg (by omega)])
theorem frac_spec (a b : Int) (ha : a.natAbs < 9223372036854775808) (hb : 0 < b) (hb2 : b < 9223372036854775808) : Ev (fun k => spec_l2Frac.f k a b) (fracF a b) := by
  have hg : Nat.gcd a.natAbs b.natAbs ≠ 0 := fun h => by have := Nat.eq_zero_of_gcd_eq_zero_right h; omega
  unfold spec_l2Frac.f spec_l2Gcd.f fracF
  refine Ev.congr (fun k => by rw [if_neg (by omega)]) (Ev.bind (gcd_spec b.natAbs a b rfl ha (by omega)) (Ev.const fun _ => by rw [if_neg (by omega)]))

/-- A small square is one that is told. -/
theorem sq_zero (x y : Int) : (x * x + y * y = 0) ↔ (x = 0 ∧ y = 0) := by
  constructor
  · intro h
    have h1 : 0 ≤ x * x := by
      rcases Int.le_total 0 x with h | h
      · exact Int.mul_nonneg h h
      · exact Int.mul_nonneg_of_nonpos_of_nonpos h h
    have h2 : 0 ≤ y * y := by
      rcases Int.le_total 0 y with h | h
      · exact Int.mul_nonneg h h
      · exact Int.mul_nonneg_of_nonpos_of_nonpos h h
    have h3 : x * x = 0 := by omega
    have h4 : y * y = 0 := by omega
    exact ⟨(Int.mul_eq_zero.1 h3).elim id id, (Int.mul_eq_zero.1 h4).elim id id⟩
  · rintro ⟨rfl, rfl⟩
    rfl
def cloA (x y u v : Int) : Int × Int × Int × Int × Bool := (0, 1, x * x + y * y, 1, true)
def cloB (x y u v : Int) : Int × Int × Int × Int × Bool :=
  ((fracF (-(x * u + y * v)) (u * u + v * v)).1, (fracF (-(x * u + y * v)) (u * u + v * v)).2, (fracF ((x * v - y * u) * (x * v - y * u)) (u * u + v * v)).1, (fracF ((x * v - y * u) * (x * v - y * u)) (u * u + v * v)).2, true)
def cloV (x y u v : Int) : Int × Int × Int × Int × Bool := if (u = 0 ∧ v = 0) ∨ x * u + y * v > 0 then cloA x y u v else cloB x y u v
section
variable (x y u v : Int) (hx : -200000 ≤ x ∧ x ≤ 200000) (hy : -200000 ≤ y ∧ y ≤ 200000) (hu : -2000 ≤ u ∧ u ≤ 2000) (hv : -2000 ≤ v ∧ v ≤ 2000)
include hx hy hu hv
theorem dots : spec_l8Dot.f x y u v = some (x * u + y * v) ∧ impl_vec_dot.f x y u v = some (x * u + y * v) ∧ spec_l8Dot.f u v u v = some (u * u + v * v) ∧ impl_vec_dot.f u v u v = some (u * u + v * v) ∧ spec_l8Dot.f x y x y = some (x * x + y * y) ∧ impl_vec_dot.f x y x y = some (x * x + y * y) ∧
    spec_l8Cross.f x y u v = some (x * v - y * u) ∧ impl_vec_cross.f x y u v = some (x * v - y * u) ∧ (-800000000 ≤ x * u + y * v ∧ x * u + y * v ≤ 800000000) ∧ (0 ≤ u * u + v * v ∧ u * u + v * v ≤ 8000000) ∧ (-800000000 ≤ x * v - y * u ∧ x * v - y * u ≤ 800000000) ∧ (0 ≤ x * x + y * y ∧ x * x + y * y ≤ 80000000000) := by
  have p1 := prod _ _ _ _ hx hu
  have p2 := prod _ _ _ _ hy hv
  have p3 := prod _ _ _ _ hx hv
  have p4 := prod _ _ _ _ hy hu
  have s1 := sq _ _ hu
  have s2 := sq _ _ hv
  have s3 := sq _ _ hx
  have s4 := sq _ _ hy
  unfold spec_l8Dot.f impl_vec_dot.f spec_l8Cross.f impl_vec_cross.f
  rw [w64 (x * u) (by omega) (by omega), w64 (y * v) (by omega) (by omega), w64 (x * v) (by omega) (by omega), w64 (y * u) (by omega) (by omega), w64 (u * u) (by omega) (by omega), w64 (v * v) (by omega) (by omega), w64 (x * x) (by omega) (by omega), w64 (y * y) (by omega) (by omega)]
  rw [w64 (x * u + y * v) (by omega) (by omega), w64 (u * u + v * v) (by omega) (by omega), w64 (x * x + y * y) (by omega) (by omega), w64 (x * v - y * u) (by omega) (by omega)]
  exact ⟨rfl, rfl, rfl, rfl, rfl, rfl, rfl, rfl, by omega, by omega, by omega, by omega⟩
theorem j1_true : Ev (fun k => spec_Closest.j1 k true x y u v) (cloA x y u v) ∧ Ev (fun k => impl_Closest.j1 k (-(x * u + y * v)) true x y u v) (cloA x y u v) := by
  obtain ⟨-, -, -, -, d5, d6, -⟩ := dots x y u v hx hy hu hv
  constructor
  · refine Ev.ret fun k => ?_
    simp only [spec_Closest.j1, if_true]
    rw [d5]
    rfl
  · refine Ev.ret fun k => ?_
    simp only [impl_Closest.j1, if_true]
    rw [d6]
    rfl
theorem j1_false (h0 : 0 < u * u + v * v) : Ev (fun k => spec_Closest.j1 k false x y u v) (cloB x y u v) ∧ Ev (fun k => impl_Closest.j1 k (-(x * u + y * v)) false x y u v) (cloB x y u v) := by
  obtain ⟨d1, d2, d3, d4, d5, d6, d7, d8, b1, b2, b3, b4⟩ := dots x y u v hx hy hu hv
  have s := sq (x * v - y * u) 800000000 b3
  have f1 := frac_spec (-(x * u + y * v)) (u * u + v * v) (by omega) h0 (by omega)
  have f2 := frac_spec ((x * v - y * u) * (x * v - y * u)) (u * u + v * v) (by omega) h0 (by omega)
  have f3 := frac_impl (-(x * u + y * v)) (u * u + v * v) (by omega) h0 (by omega)
  have f4 := frac_impl ((x * v - y * u) * (x * v - y * u)) (u * u + v * v) (by omega) h0 (by omega)
  constructor
  · refine Ev.step (f := fun k => (spec_l2Frac.f k (-(x * u + y * v)) (u * u + v * v)).bind fun p => (spec_l2Frac.f k ((x * v - y * u) * (x * v - y * u)) (u * u + v * v)).bind fun q => some (p.1, p.2, q.1, q.2, true)) (fun k => ?_) (Ev.bind f1 (Ev.bind f2 (Ev.const fun _ => rfl)))
    simp only [spec_Closest.j1, Bool.false_eq_true, if_false]
    rw [d7, d1, d3]
    simp only [Option.bind_some]
    rw [w64 (-(x * u + y * v)) (by omega) (by omega), w64 ((x * v - y * u) * (x * v - y * u)) (by omega) (by omega)]
  · refine Ev.step (f := fun k => (impl_fracOf.f k (-(x * u + y * v)) (u * u + v * v)).bind fun p => (impl_fracOf.f k ((x * v - y * u) * (x * v - y * u)) (u * u + v * v)).bind fun q => some (p.1, p.2, q.1, q.2, true)) (fun k => ?_) (Ev.bind f3 (Ev.bind f4 (Ev.const fun _ => rfl)))
    simp only [impl_Closest.j1, Bool.false_eq_true, if_false]
    rw [d8, d4]
    simp only [Option.bind_some]
    rw [w64 ((x * v - y * u) * (x * v - y * u)) (by omega) (by omega)]
end
theorem main_both (a b c d e f a' b' c' d' e' f' : Int) (A1 : -100000 ≤ a ∧ a ≤ 100000) (A2 : -100000 ≤ b ∧ b ≤ 100000) (A3 : -1000 ≤ c ∧ c ≤ 1000) (A4 : -1000 ≤ d ∧ d ≤ 1000) (B1 : -100000 ≤ a' ∧ a' ≤ 100000) (B2 : -100000 ≤ b' ∧ b' ≤ 100000) (B3 : -1000 ≤ c' ∧ c' ≤ 1000) (B4 : -1000 ≤ d' ∧ d' ≤ 1000) :
    Ev (fun k => spec_Closest.j0 k false a b c d e f a' b' c' d' e' f') (cloV (a' - a) (b' - b) (c' - c) (d' - d)) ∧ Ev (fun k => impl_Closest.j0 k false a b c d e f a' b' c' d' e' f') (cloV (a' - a) (b' - b) (c' - c) (d' - d)) := by
  have hx : -200000 ≤ a' - a ∧ a' - a ≤ 200000 := by omega
  have hy : -200000 ≤ b' - b ∧ b' - b ≤ 200000 := by omega
  have hu : -2000 ≤ c' - c ∧ c' - c ≤ 2000 := by omega
  have hv : -2000 ≤ d' - d ∧ d' - d ≤ 2000 := by omega
  have e1 : wrap64 (a' - a) = a' - a := w64 _ (by omega) (by omega)
  have e2 : wrap64 (b' - b) = b' - b := w64 _ (by omega) (by omega)
  have e3 : wrap64 (c' - c) = c' - c := w64 _ (by omega) (by omega)
  have e4 : wrap64 (d' - d) = d' - d := w64 _ (by omega) (by omega)
  obtain ⟨d1, d2, d3, d4, d5, d6, d7, d8, b1, b2, b3, b4⟩ := dots _ _ _ _ hx hy hu hv
  have z := sq_zero (c' - c) (d' - d)
  have jt := j1_true _ _ _ _ hx hy hu hv
  have jf := j1_false _ _ _ _ hx hy hu hv
  unfold cloV
  have hs : ∀ k, spec_Closest.j0 (k + 1) false a b c d e f a' b' c' d' e' f' = spec_Closest.j1 k (if (c' - c) * (c' - c) + (d' - d) * (d' - d) = 0 then true else decide ((a' - a) * (c' - c) + (b' - b) * (d' - d) > 0)) (a' - a) (b' - b) (c' - c) (d' - d) := fun k => by
    simp only [spec_Closest.j0, Bool.false_eq_true, if_false, spec_l8Bearing.f, spec_l8Diff.f, Option.bind_some]
    rw [e1, e2, e3, e4, d3]
    simp only [Option.bind_some]
    split
    · rfl
    · rw [d1]; rfl
  have hi : ∀ k, impl_Closest.j0 (k + 1) false a b c d e f a' b' c' d' e' f' = impl_Closest.j1 k (-((a' - a) * (c' - c) + (b' - b) * (d' - d))) (if (c' - c == 0 && (d' - d == 0)) = true then true else decide (-((a' - a) * (c' - c) + (b' - b) * (d' - d)) < 0)) (a' - a) (b' - b) (c' - c) (d' - d) := fun k => by
    simp only [impl_Closest.j0, Bool.false_eq_true, if_false, impl_bearing.f, Option.bind_some]
    rw [e1, e2, e3, e4, d2]
    simp only [Option.bind_some]
    rw [w64 (-((a' - a) * (c' - c) + (b' - b) * (d' - d))) (by omega) (by omega)]
    split <;> rfl
  generalize a' - a = x at *
  generalize b' - b = y at *
  generalize c' - c = u at *
  generalize d' - d = v at *
  by_cases h1 : u = 0 ∧ v = 0
  · rw [if_pos (.inl h1)]
    refine ⟨Ev.step (fun k => ?_) jt.1, Ev.step (fun k => ?_) jt.2⟩
    · rw [hs, if_pos (z.2 h1)]
    · rw [hi, if_pos (by simp [h1.1, h1.2])]
  · have h2 : ¬ u * u + v * v = 0 := fun h => h1 (z.1 h)
    have h3 : ¬ (u == 0 && (v == 0)) = true := fun h => h1 (by simpa using h)
    by_cases h4 : x * u + y * v > 0
    · rw [if_pos (.inr h4)]
      refine ⟨Ev.step (fun k => ?_) jt.1, Ev.step (fun k => ?_) jt.2⟩
      · rw [hs, if_neg h2, decide_eq_true h4]
      · rw [hi, if_neg h3, decide_eq_true (by omega)]
    · rw [if_neg (fun h => h.elim h1 h4)]
      have j := jf (by omega)
      refine ⟨Ev.step (fun k => ?_) j.1, Ev.step (fun k => ?_) j.2⟩
      · rw [hs, if_neg h2, decide_eq_false h4]
      · rw [hi, if_neg h3, decide_eq_false (by omega)]
theorem clo_both (a b c d e f a' b' c' d' e' f' : Int) : ∃ r, Ev (fun k => spec_Closest.f k a b c d e f a' b' c' d' e' f') r ∧ Ev (fun k => impl_Closest.f k a b c d e f a' b' c' d' e' f') r := by
  obtain ⟨r, h1, h2, h3⟩ := beh_ship a b c d e f
  obtain ⟨r', h1', h2', h3'⟩ := beh_ship a' b' c' d' e' f'
  have hz : ∀ k, spec_Closest.j0 (k + 1) true a b c d e f a' b' c' d' e' f' = some (0, 0, 0, 0, false) ∧ impl_Closest.j0 (k + 1) true a b c d e f a' b' c' d' e' f' = some (0, 0, 0, 0, false) := fun k => by
    constructor
    · simp only [spec_Closest.j0, if_true]
    · simp only [impl_Closest.j0, if_true]
  unfold spec_Closest.f impl_Closest.f
  rw [h1, h2, h1', h2']
  simp only [Option.bind_some]
  cases r with
  | false =>
    simp only [Bool.false_eq_true, if_false]
    exact ⟨_, Ev.ret fun k => (hz k).1, Ev.ret fun k => (hz k).2⟩
  | true =>
    simp only [if_true]
    cases r' with
    | false => exact ⟨_, Ev.ret fun k => (hz k).1, Ev.ret fun k => (hz k).2⟩
    | true =>
      obtain ⟨A1, A2, A3, A4⟩ := h3 rfl
      obtain ⟨B1, B2, B3, B4⟩ := h3' rfl
      exact ⟨_, main_both a b c d e f a' b' c' d' e' f' A1 A2 A3 A4 B1 B2 B3 B4⟩
end Go.Proofs.Ytfbokdbaondjdaa.Cl
-- printed for this claim out of the translation
namespace Go.Proofs.Ytfbokdbaondjdaa.PV1
open Go.RowKit Go.Proofs.YtfbokdbaondjdaaW.PrintWords Go.Proofs.YtfbokdbaondjdaaW.PrintLast Go.Proofs.YtfbokdbaondjdaaW.PrintMore Go.Proofs.Ytfbokdbaondjdaa.Cz
attribute [local go_sem] max2_int min2_int max_two min_two max_three min_three max_four min_four
set_option linter.unusedVariables false
set_option linter.unusedSimpArgs false

/-! ### laws_eqFrac: function 39 -/
def laws_eqFrac.f (a0_0 : Int) (a0_1 : Int) (a1_0 : Int) (a1_1 : Int) : Option (Bool) := if a0_0 = a1_0 then (if a0_1 = a1_1 then (some true) else (some false)) else (some false)
set_option maxHeartbeats 8000000 in
set_option maxRecDepth 100000 in
theorem laws_eqFrac.calls (a0_0 : Int) (a0_1 : Int) (a1_0 : Int) (a1_1 : Int) (r : Bool) (w : World) (h : laws_eqFrac.f a0_0 a0_1 a1_0 a1_1 = some r) :
  Calls Try.prog 39 #[.agg #[.int .i64 a0_0, .int .i64 a0_1], .agg #[.int .i64 a1_0, .int .i64 a1_1]] w fun e w' => e = .returned (.bool r) ∧ Below w.heap.size w w' := by
 have hu58 := Try.underlying58
 have HB := Aside0.mk (Below.refl w.heap.size w)
 have H : (if a0_0 = a1_0 then (if a0_1 = a1_1 then (some true) else (some false)) else (some false)) = some r := h
 clear h
 by_cases c3 : a0_0 = a1_0
 ·rw [if_pos c3] at H
  have c3b0 : (a0_0 == a1_0) = true := beq_iff_eq.mpr c3
  have c3b1 : (a0_0 != a1_0) = false := bne_eq_false_iff_eq.mpr c3
  clear c3
  by_cases c4 : a0_1 = a1_1
  ·rw [if_pos c4] at H
   have c4b0 : (a0_1 == a1_1) = true := beq_iff_eq.mpr c4
   have c4b1 : (a0_1 != a1_1) = false := bne_eq_false_iff_eq.mpr c4
   clear c4
   obtain rfl := Option.some.inj H
   go_enter Try.func39, Try.ntmps39
   go_wp2_with (first | ((with_reducible refine gate_dst (N := 2) rfl ?_); refine box_event ?hg (N := 2) ?hd (cs := #[.int .i64 a0_0, .int .i64 a0_1]) (t := 58) ?hr ?_; (case hd => rfl); (case hg => rfl); (case hr => first | (go_simp; done) | (go_simp; rfl)); intro gb564 hg w5 hbox hb; have n0_ := Aside0.mk (below_step (by repeat (first | (with_reducible first | exact HB.out | apply below_alloc | apply pw_below_drewN | apply below_drew1) | exact HB.out)) hb); have n1_ := Aside0.mk (hbox); have n2_ := Aside0.mk ((by rw [hg]; exact (below_size (by repeat (first | (with_reducible first | exact HB.out | apply below_alloc | apply pw_below_drewN | apply below_drew1) | exact HB.out))) : w.heap.size ≤ gb564)); have n3_ := Aside0.mk ((by rw [hg]; exact (below_size (by repeat (first | (with_reducible first | exact HB.out | apply below_alloc | apply pw_below_drewN | apply below_drew1) | exact HB.out))) : w.heap.size ≤ gb564)); clear HB; have HB := n0_; have BK564 := n1_; have GW564 := n2_; have GE564 := n3_; clear n0_ n1_ n2_ n3_; clear hb hbox hg) | ((with_reducible refine gate_dst (N := 3) rfl ?_); refine box_event ?hg (N := 3) ?hd (cs := #[.int .i64 a1_0, .int .i64 a1_1]) (t := 58) ?hr ?_; (case hd => rfl); (case hg => rfl); (case hr => first | (go_simp; done) | (go_simp; rfl)); intro gb565 hg w6 hbox hb; have n0_ := Aside0.mk (blk_below (g := gb564) (o := .cells #[.int .i64 a0_0, .int .i64 a0_1] 58 (0, 0)) (by (with_reducible repeat (first | refine z1 ?_ _ | refine z2 ?_ | refine z3 ?_ _)); exact BK564.out) hb); have n1_ := Aside0.mk (below_step (by repeat (first | (with_reducible first | exact HB.out | apply below_alloc | apply pw_below_drewN | apply below_drew1 | refine below_set ?_ GE564.out) | exact HB.out)) hb); have n2_ := Aside0.mk (hbox); have n3_ := Aside0.mk ((by rw [hg]; exact (below_size (by repeat (first | (with_reducible first | exact HB.out | apply below_alloc | apply pw_below_drewN | apply below_drew1 | refine below_set ?_ GE564.out) | exact HB.out))) : w.heap.size ≤ gb565)); have n4_ := Aside0.mk ((by rw [hg]; exact (below_size (by repeat (first | (with_reducible first | exact HB.out | apply below_alloc | apply pw_below_drewN | apply below_drew1 | refine below_set ?_ GE564.out) | exact HB.out))) : w.heap.size ≤ gb565)); have n5_ := Aside0.mk ((by rw [hg]; exact Nat.ne_of_lt (blk_lt (g := gb564) (o := .cells #[.int .i64 a0_0, .int .i64 a0_1] 58 (0, 0)) (by (with_reducible repeat (first | refine z1 ?_ _ | refine z2 ?_ | refine z3 ?_ _)); exact BK564.out)) : gb564 ≠ gb565)); have n6_ := Aside0.mk ((by rw [hg]; exact Nat.ne_of_gt (blk_lt (g := gb564) (o := .cells #[.int .i64 a0_0, .int .i64 a0_1] 58 (0, 0)) (by (with_reducible repeat (first | refine z1 ?_ _ | refine z2 ?_ | refine z3 ?_ _)); exact BK564.out)) : gb565 ≠ gb564)); clear BK564; clear HB; have BK564 := n0_; have HB := n1_; have BK565 := n2_; have GW565 := n3_; have GE565 := n4_; have NB564_565 := n5_; have NB565_564 := n6_; clear n0_ n1_ n2_ n3_ n4_ n5_ n6_; clear hb hbox hg; have hnb7 := NB564_565.out; have hnc7 := NB565_564.out; have hcz8_0 : w6.cell? ⟨gb564, 0, none⟩ = some (.int .i64 a0_0) := (blk_cell BK564.out 0).trans rfl; have hcz8_1 : w6.cell? ⟨gb564, 1, none⟩ = some (.int .i64 a0_1) := (blk_cell BK564.out 1).trans rfl; have hfz8_0 := blk_frozen BK564.out 0; have hfz8_1 := blk_frozen BK564.out 1; have hcz9_0 : w6.cell? ⟨gb565, 0, none⟩ = some (.int .i64 a1_0) := (blk_cell BK565.out 0).trans rfl; have hcz9_1 : w6.cell? ⟨gb565, 1, none⟩ = some (.int .i64 a1_1) := (blk_cell BK565.out 1).trans rfl; have hfz9_0 := blk_frozen BK565.out 0; have hfz9_1 := blk_frozen BK565.out 1))
   go_ret
   exact ⟨by first | rfl | (simp [errW_none, errW_some] <;> rfl) | (simp [*, errW_none, errW_some] <;> rfl), by repeat (first | (with_reducible first | exact HB.out | apply below_alloc | apply pw_below_drewN | apply below_drew1 | refine below_set ?_ GE564.out | refine below_set ?_ GE565.out) | exact HB.out)⟩
  ·rw [if_neg c4] at H
   have c4b0 : (a0_1 == a1_1) = false := beq_eq_false_iff_ne.mpr c4
   have c4b1 : (a0_1 != a1_1) = true := bne_iff_ne.mpr c4
   obtain rfl := Option.some.inj H
   go_enter Try.func39, Try.ntmps39
   go_wp2_with (first | ((with_reducible refine gate_dst (N := 2) rfl ?_); refine box_event ?hg (N := 2) ?hd (cs := #[.int .i64 a0_0, .int .i64 a0_1]) (t := 58) ?hr ?_; (case hd => rfl); (case hg => rfl); (case hr => first | (go_simp; done) | (go_simp; rfl)); intro gb564 hg w10 hbox hb; have n0_ := Aside0.mk (below_step (by repeat (first | (with_reducible first | exact HB.out | apply below_alloc | apply pw_below_drewN | apply below_drew1) | exact HB.out)) hb); have n1_ := Aside0.mk (hbox); have n2_ := Aside0.mk ((by rw [hg]; exact (below_size (by repeat (first | (with_reducible first | exact HB.out | apply below_alloc | apply pw_below_drewN | apply below_drew1) | exact HB.out))) : w.heap.size ≤ gb564)); have n3_ := Aside0.mk ((by rw [hg]; exact (below_size (by repeat (first | (with_reducible first | exact HB.out | apply below_alloc | apply pw_below_drewN | apply below_drew1) | exact HB.out))) : w.heap.size ≤ gb564)); clear HB; have HB := n0_; have BK564 := n1_; have GW564 := n2_; have GE564 := n3_; clear n0_ n1_ n2_ n3_; clear hb hbox hg) | ((with_reducible refine gate_dst (N := 3) rfl ?_); refine box_event ?hg (N := 3) ?hd (cs := #[.int .i64 a1_0, .int .i64 a1_1]) (t := 58) ?hr ?_; (case hd => rfl); (case hg => rfl); (case hr => first | (go_simp; done) | (go_simp; rfl)); intro gb565 hg w11 hbox hb; have n0_ := Aside0.mk (blk_below (g := gb564) (o := .cells #[.int .i64 a0_0, .int .i64 a0_1] 58 (0, 0)) (by (with_reducible repeat (first | refine z1 ?_ _ | refine z2 ?_ | refine z3 ?_ _)); exact BK564.out) hb); have n1_ := Aside0.mk (below_step (by repeat (first | (with_reducible first | exact HB.out | apply below_alloc | apply pw_below_drewN | apply below_drew1 | refine below_set ?_ GE564.out) | exact HB.out)) hb); have n2_ := Aside0.mk (hbox); have n3_ := Aside0.mk ((by rw [hg]; exact (below_size (by repeat (first | (with_reducible first | exact HB.out | apply below_alloc | apply pw_below_drewN | apply below_drew1 | refine below_set ?_ GE564.out) | exact HB.out))) : w.heap.size ≤ gb565)); have n4_ := Aside0.mk ((by rw [hg]; exact (below_size (by repeat (first | (with_reducible first | exact HB.out | apply below_alloc | apply pw_below_drewN | apply below_drew1 | refine below_set ?_ GE564.out) | exact HB.out))) : w.heap.size ≤ gb565)); have n5_ := Aside0.mk ((by rw [hg]; exact Nat.ne_of_lt (blk_lt (g := gb564) (o := .cells #[.int .i64 a0_0, .int .i64 a0_1] 58 (0, 0)) (by (with_reducible repeat (first | refine z1 ?_ _ | refine z2 ?_ | refine z3 ?_ _)); exact BK564.out)) : gb564 ≠ gb565)); have n6_ := Aside0.mk ((by rw [hg]; exact Nat.ne_of_gt (blk_lt (g := gb564) (o := .cells #[.int .i64 a0_0, .int .i64 a0_1] 58 (0, 0)) (by (with_reducible repeat (first | refine z1 ?_ _ | refine z2 ?_ | refine z3 ?_ _)); exact BK564.out)) : gb565 ≠ gb564)); clear BK564; clear HB; have BK564 := n0_; have HB := n1_; have BK565 := n2_; have GW565 := n3_; have GE565 := n4_; have NB564_565 := n5_; have NB565_564 := n6_; clear n0_ n1_ n2_ n3_ n4_ n5_ n6_; clear hb hbox hg; have hnb12 := NB564_565.out; have hnc12 := NB565_564.out; have hcz13_0 : w11.cell? ⟨gb564, 0, none⟩ = some (.int .i64 a0_0) := (blk_cell BK564.out 0).trans rfl; have hcz13_1 : w11.cell? ⟨gb564, 1, none⟩ = some (.int .i64 a0_1) := (blk_cell BK564.out 1).trans rfl; have hfz13_0 := blk_frozen BK564.out 0; have hfz13_1 := blk_frozen BK564.out 1; have hcz14_0 : w11.cell? ⟨gb565, 0, none⟩ = some (.int .i64 a1_0) := (blk_cell BK565.out 0).trans rfl; have hcz14_1 : w11.cell? ⟨gb565, 1, none⟩ = some (.int .i64 a1_1) := (blk_cell BK565.out 1).trans rfl; have hfz14_0 := blk_frozen BK565.out 0; have hfz14_1 := blk_frozen BK565.out 1))
   go_ret
   exact ⟨by first | rfl | (simp [errW_none, errW_some] <;> rfl) | (simp [*, errW_none, errW_some] <;> rfl), by repeat (first | (with_reducible first | exact HB.out | apply below_alloc | apply pw_below_drewN | apply below_drew1 | refine below_set ?_ GE564.out | refine below_set ?_ GE565.out) | exact HB.out)⟩
 ·rw [if_neg c3] at H
  have c3b0 : (a0_0 == a1_0) = false := beq_eq_false_iff_ne.mpr c3
  have c3b1 : (a0_0 != a1_0) = true := bne_iff_ne.mpr c3
  obtain rfl := Option.some.inj H
  go_enter Try.func39, Try.ntmps39
  go_wp2_with (first | ((with_reducible refine gate_dst (N := 2) rfl ?_); refine box_event ?hg (N := 2) ?hd (cs := #[.int .i64 a0_0, .int .i64 a0_1]) (t := 58) ?hr ?_; (case hd => rfl); (case hg => rfl); (case hr => first | (go_simp; done) | (go_simp; rfl)); intro gb564 hg w15 hbox hb; have n0_ := Aside0.mk (below_step (by repeat (first | (with_reducible first | exact HB.out | apply below_alloc | apply pw_below_drewN | apply below_drew1) | exact HB.out)) hb); have n1_ := Aside0.mk (hbox); have n2_ := Aside0.mk ((by rw [hg]; exact (below_size (by repeat (first | (with_reducible first | exact HB.out | apply below_alloc | apply pw_below_drewN | apply below_drew1) | exact HB.out))) : w.heap.size ≤ gb564)); have n3_ := Aside0.mk ((by rw [hg]; exact (below_size (by repeat (first | (with_reducible first | exact HB.out | apply below_alloc | apply pw_below_drewN | apply below_drew1) | exact HB.out))) : w.heap.size ≤ gb564)); clear HB; have HB := n0_; have BK564 := n1_; have GW564 := n2_; have GE564 := n3_; clear n0_ n1_ n2_ n3_; clear hb hbox hg) | ((with_reducible refine gate_dst (N := 3) rfl ?_); refine box_event ?hg (N := 3) ?hd (cs := #[.int .i64 a1_0, .int .i64 a1_1]) (t := 58) ?hr ?_; (case hd => rfl); (case hg => rfl); (case hr => first | (go_simp; done) | (go_simp; rfl)); intro gb565 hg w16 hbox hb; have n0_ := Aside0.mk (blk_below (g := gb564) (o := .cells #[.int .i64 a0_0, .int .i64 a0_1] 58 (0, 0)) (by (with_reducible repeat (first | refine z1 ?_ _ | refine z2 ?_ | refine z3 ?_ _)); exact BK564.out) hb); have n1_ := Aside0.mk (below_step (by repeat (first | (with_reducible first | exact HB.out | apply below_alloc | apply pw_below_drewN | apply below_drew1 | refine below_set ?_ GE564.out) | exact HB.out)) hb); have n2_ := Aside0.mk (hbox); have n3_ := Aside0.mk ((by rw [hg]; exact (below_size (by repeat (first | (with_reducible first | exact HB.out | apply below_alloc | apply pw_below_drewN | apply below_drew1 | refine below_set ?_ GE564.out) | exact HB.out))) : w.heap.size ≤ gb565)); have n4_ := Aside0.mk ((by rw [hg]; exact (below_size (by repeat (first | (with_reducible first | exact HB.out | apply below_alloc | apply pw_below_drewN | apply below_drew1 | refine below_set ?_ GE564.out) | exact HB.out))) : w.heap.size ≤ gb565)); have n5_ := Aside0.mk ((by rw [hg]; exact Nat.ne_of_lt (blk_lt (g := gb564) (o := .cells #[.int .i64 a0_0, .int .i64 a0_1] 58 (0, 0)) (by (with_reducible repeat (first | refine z1 ?_ _ | refine z2 ?_ | refine z3 ?_ _)); exact BK564.out)) : gb564 ≠ gb565)); have n6_ := Aside0.mk ((by rw [hg]; exact Nat.ne_of_gt (blk_lt (g := gb564) (o := .cells #[.int .i64 a0_0, .int .i64 a0_1] 58 (0, 0)) (by (with_reducible repeat (first | refine z1 ?_ _ | refine z2 ?_ | refine z3 ?_ _)); exact BK564.out)) : gb565 ≠ gb564)); clear BK564; clear HB; have BK564 := n0_; have HB := n1_; have BK565 := n2_; have GW565 := n3_; have GE565 := n4_; have NB564_565 := n5_; have NB565_564 := n6_; clear n0_ n1_ n2_ n3_ n4_ n5_ n6_; clear hb hbox hg; have hnb17 := NB564_565.out; have hnc17 := NB565_564.out; have hcz18_0 : w16.cell? ⟨gb564, 0, none⟩ = some (.int .i64 a0_0) := (blk_cell BK564.out 0).trans rfl; have hcz18_1 : w16.cell? ⟨gb564, 1, none⟩ = some (.int .i64 a0_1) := (blk_cell BK564.out 1).trans rfl; have hfz18_0 := blk_frozen BK564.out 0; have hfz18_1 := blk_frozen BK564.out 1; have hcz19_0 : w16.cell? ⟨gb565, 0, none⟩ = some (.int .i64 a1_0) := (blk_cell BK565.out 0).trans rfl; have hcz19_1 : w16.cell? ⟨gb565, 1, none⟩ = some (.int .i64 a1_1) := (blk_cell BK565.out 1).trans rfl; have hfz19_0 := blk_frozen BK565.out 0; have hfz19_1 := blk_frozen BK565.out 1))
  go_ret
  exact ⟨by first | rfl | (simp [errW_none, errW_some] <;> rfl) | (simp [*, errW_none, errW_some] <;> rfl), by repeat (first | (with_reducible first | exact HB.out | apply below_alloc | apply pw_below_drewN | apply below_drew1 | refine below_set ?_ GE564.out | refine below_set ?_ GE565.out) | exact HB.out)⟩

-- NOT PRINTED: function 10 (laws_FnExactClosest)

end Go.Proofs.Ytfbokdbaondjdaa.PV1
