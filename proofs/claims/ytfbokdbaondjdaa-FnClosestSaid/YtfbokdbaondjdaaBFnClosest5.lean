import Derived.Test.YtfbokdbaondjdaaBFnClosest1
import Derived.Test.YtfbokdbaondjdaaBFnClosest4
-- printed for this claim out of the translation
namespace Go.Proofs.Ytfbokdbaondjdaa.PV1
open Go.RowKit Go.Proofs.YtfbokdbaondjdaaW.PrintWords Go.Proofs.YtfbokdbaondjdaaW.PrintLast Go.Proofs.YtfbokdbaondjdaaW.PrintMore Go.Proofs.Ytfbokdbaondjdaa.Cz
attribute [local go_sem] max2_int min2_int max_two min_two max_three min_three max_four min_four
set_option linter.unusedVariables false
set_option linter.unusedSimpArgs false

attribute [local go_sem high] eqA89
/-! ### impl_Closest: function 38 -/
mutual
def impl_Closest.j0 : Nat → Bool → Int → Int → Int → Int → Int → Int → Int → Int → Int → Int → Int → Int → Option (Int × Int × Int × Int × Bool)
 | 0, _, _, _, _, _, _, _, _, _, _, _, _, _ => none
 | k + 1, x18, x546000, x546001, x546002, x546003, x546004, x546005, x547000, x547001, x547002, x547003, x547004, x547005 => if x18 = true then (some (0, 0, 0, 0, false)) else ((impl_bearing.f x547000 x547001 x547002 x547003 x547004 x547005 x546000 x546001 x546002 x546003 x546004 x546005).bind fun bt551 => ((impl_vec_dot.f bt551.1 bt551.2 (wrap64 (x547002 - x546002)) (wrap64 (x547003 - x546003))).bind fun t555 => (if ((wrap64 (x547002 - x546002)) == 0 && ((wrap64 (x547003 - x546003)) == 0)) = true then (impl_Closest.j1 k (wrap64 (-t555)) true bt551.1 bt551.2 (wrap64 (x547002 - x546002)) (wrap64 (x547003 - x546003))) else (impl_Closest.j1 k (wrap64 (-t555)) (decide ((wrap64 (-t555)) < 0)) bt551.1 bt551.2 (wrap64 (x547002 - x546002)) (wrap64 (x547003 - x546003))))))
def impl_Closest.j1 : Nat → Int → Bool → Int → Int → Int → Int → Option (Int × Int × Int × Int × Bool)
 | 0, _, _, _, _, _, _ => none
 | k + 1, x9, x45, x554000, x554001, x555000, x555001 => if x45 = true then ((impl_vec_dot.f x554000 x554001 x554000 x554001).bind fun t556 => (some (0, 1, t556, 1, true))) else ((impl_vec_cross.f x554000 x554001 x555000 x555001).bind fun t557 => ((impl_vec_dot.f x555000 x555001 x555000 x555001).bind fun t558 => ((impl_fracOf.f k x9 t558).bind fun bt559 => ((impl_vec_dot.f x555000 x555001 x555000 x555001).bind fun t561 => ((impl_fracOf.f k (wrap64 (t557 * t557)) t561).bind fun bt562 => (some (bt559.1, bt559.2, bt562.1, bt562.2, true)))))))
end
def impl_Closest.f (k : Nat) (a0_0 : Int) (a0_1 : Int) (a0_2 : Int) (a0_3 : Int) (a0_4 : Int) (a0_5 : Int) (a1_0 : Int) (a1_1 : Int) (a1_2 : Int) (a1_3 : Int) (a1_4 : Int) (a1_5 : Int) : Option (Int × Int × Int × Int × Bool) := (impl_ShipOk.f a0_0 a0_1 a0_2 a0_3 a0_4 a0_5).bind fun t549 => (if t549 = true then ((impl_ShipOk.f a1_0 a1_1 a1_2 a1_3 a1_4 a1_5).bind fun t550 => (impl_Closest.j0 k (!t550) a0_0 a0_1 a0_2 a0_3 a0_4 a0_5 a1_0 a1_1 a1_2 a1_3 a1_4 a1_5)) else (impl_Closest.j0 k true a0_0 a0_1 a0_2 a0_3 a0_4 a0_5 a1_0 a1_1 a1_2 a1_3 a1_4 a1_5))
theorem impl_Closest.mono_l : ∀ k, (∀ y0 y1 y2 y3 y4 y5 y6 y7 y8 y9 y10 y11 y12, LeO (impl_Closest.j0 k y0 y1 y2 y3 y4 y5 y6 y7 y8 y9 y10 y11 y12) (impl_Closest.j0 (k + 1) y0 y1 y2 y3 y4 y5 y6 y7 y8 y9 y10 y11 y12)) ∧ (∀ y0 y1 y2 y3 y4 y5, LeO (impl_Closest.j1 k y0 y1 y2 y3 y4 y5) (impl_Closest.j1 (k + 1) y0 y1 y2 y3 y4 y5))
 | 0 => ⟨fun _ _ _ _ _ _ _ _ _ _ _ _ _ r h => by simp [impl_Closest.j0] at h, fun _ _ _ _ _ _ r h => by simp [impl_Closest.j1] at h⟩
 | k + 1 => by
  obtain ⟨ih0, ih1⟩ := impl_Closest.mono_l k
  refine ⟨?_, ?_⟩
  ·intro y0 y1 y2 y3 y4 y5 y6 y7 y8 y9 y10 y11 y12
   unfold impl_Closest.j0
   repeat' first
   | (with_reducible exact ih0 _ _ _ _ _ _ _ _ _ _ _ _ _)
   | (with_reducible exact ih1 _ _ _ _ _ _)
   | (with_reducible exact impl_fracOf.mono _ _ _)
   | (with_reducible exact LeO.refl _)
   | (with_reducible exact LeO.none _)
   | (with_reducible refine LeO.ite ?_ ?_)
   | (with_reducible refine LeO.bind ?_ (fun _ => ?_))
   | exact ih0 _ _ _ _ _ _ _ _ _ _ _ _ _
   | exact ih1 _ _ _ _ _ _
   | exact impl_fracOf.mono _ _ _
   | exact LeO.none _
   | refine LeO.ite ?_ ?_
   | refine LeO.bind ?_ (fun _ => ?_)
  ·intro y0 y1 y2 y3 y4 y5
   unfold impl_Closest.j1
   repeat' first
   | (with_reducible exact ih0 _ _ _ _ _ _ _ _ _ _ _ _ _)
   | (with_reducible exact ih1 _ _ _ _ _ _)
   | (with_reducible exact impl_fracOf.mono _ _ _)
   | (with_reducible exact LeO.refl _)
   | (with_reducible exact LeO.none _)
   | (with_reducible refine LeO.ite ?_ ?_)
   | (with_reducible refine LeO.bind ?_ (fun _ => ?_))
   | exact ih0 _ _ _ _ _ _ _ _ _ _ _ _ _
   | exact ih1 _ _ _ _ _ _
   | exact impl_fracOf.mono _ _ _
   | exact LeO.none _
   | refine LeO.ite ?_ ?_
   | refine LeO.bind ?_ (fun _ => ?_)
theorem impl_Closest.mono : ∀ a0 a1 a2 a3 a4 a5 a6 a7 a8 a9 a10 a11 k, LeO (impl_Closest.f k a0 a1 a2 a3 a4 a5 a6 a7 a8 a9 a10 a11) (impl_Closest.f (k + 1) a0 a1 a2 a3 a4 a5 a6 a7 a8 a9 a10 a11) := by
 intro a0 a1 a2 a3 a4 a5 a6 a7 a8 a9 a10 a11 k
 obtain ⟨ih0, ih1⟩ := impl_Closest.mono_l k
 unfold impl_Closest.f
 repeat' first
   | (with_reducible exact ih0 _ _ _ _ _ _ _ _ _ _ _ _ _)
   | (with_reducible exact ih1 _ _ _ _ _ _)
   | (with_reducible exact impl_fracOf.mono _ _ _)
   | (with_reducible exact LeO.refl _)
   | (with_reducible exact LeO.none _)
   | (with_reducible refine LeO.ite ?_ ?_)
   | (with_reducible refine LeO.bind ?_ (fun _ => ?_))
   | exact ih0 _ _ _ _ _ _ _ _ _ _ _ _ _
   | exact ih1 _ _ _ _ _ _
   | exact impl_fracOf.mono _ _ _
   | exact LeO.none _
   | refine LeO.ite ?_ ?_
   | refine LeO.bind ?_ (fun _ => ?_)
def impl_Closest.T3 : Bool × List (List Nat × List Nat) := (true, [([], []), ([], []), ([0, 1], [0, 1]), ([], []), ([3], [3]), ([], []), ([5], [5]), ([4, 6], [4, 6]), ([], []), ([8], [8]), ([], []), ([10], [10]), ([9, 11], [9, 11]), ([7, 12], [7, 12]), ([], []), ([], []), ([14, 2, 2, 0, 1, 2, 14, 15], [2, 14]), ([15, 13, 16, 0, 1, 2, 3, 4, 5, 6, 7, 8, 9, 10, 11, 12, 13, 14, 15, 16], [13, 15])])
def impl_Closest.B3 : List Nat := [0, 0, 3, 0, 8, 0, 32, 120, 0, 256, 0, 1024, 3840, 8184, 0, 0, 49159, 131071]
theorem impl_Closest.tab3 : rtab .any (opsOf Try.f38 3) = impl_Closest.T3 := by kernel_rfl
theorem impl_Closest.bits3 : waitsOk impl_Closest.T3.2 impl_Closest.B3 = true := by kernel_rfl
def impl_Closest.T8 : Bool × List (List Nat × List Nat) := (true, [([], []), ([], []), ([], []), ([1, 2], [1, 2]), ([0, 3, 3], [0, 3]), ([], []), ([], []), ([5, 6], [5, 6]), ([], []), ([], []), ([8, 9, 4], [8, 9]), ([7, 10, 10], [7, 10]), ([4, 11, 0, 1, 2, 3, 4], [4]), ([11, 12, 0, 1, 2, 3, 4, 5, 6, 7, 8, 9, 10, 11, 12], [11]), ([13, 0, 1, 2, 3, 4, 5, 6, 7, 8, 9, 10, 11, 12, 13], [])])
def impl_Closest.B8 : List Nat := [0, 0, 0, 6, 15, 0, 0, 96, 0, 0, 799, 2047, 4095, 8191, 16383]
theorem impl_Closest.tab8 : rtab .any (opsOf Try.f38 8) = impl_Closest.T8 := by kernel_rfl
theorem impl_Closest.bits8 : waitsOk impl_Closest.T8.2 impl_Closest.B8 = true := by kernel_rfl
set_option maxHeartbeats 8000000 in
set_option maxRecDepth 100000 in
theorem impl_Closest.calls (k : Nat) (a0_0 : Int) (a0_1 : Int) (a0_2 : Int) (a0_3 : Int) (a0_4 : Int) (a0_5 : Int) (a1_0 : Int) (a1_1 : Int) (a1_2 : Int) (a1_3 : Int) (a1_4 : Int) (a1_5 : Int) (r1 : Int) (r2 : Int) (r3 : Int) (r4 : Int) (r5 : Bool) (w : World) (h : impl_Closest.f k a0_0 a0_1 a0_2 a0_3 a0_4 a0_5 a1_0 a1_1 a1_2 a1_3 a1_4 a1_5 = some (r1, r2, r3, r4, r5)) :
  Calls Try.prog 38 #[.agg #[.int .i64 a0_0, .int .i64 a0_1, .int .i64 a0_2, .int .i64 a0_3, .int .i64 a0_4, .int .i64 a0_5], .agg #[.int .i64 a1_0, .int .i64 a1_1, .int .i64 a1_2, .int .i64 a1_3, .int .i64 a1_4, .int .i64 a1_5]] w fun e w' => e = .returned (.tuple #[.agg #[.int .i64 r1, .int .i64 r2], .agg #[.int .i64 r3, .int .i64 r4], .bool r5]) ∧ Below w.heap.size w w' := by
 have hu25 := Try.underlying25
 have hu58 := Try.underlying58
 have hu89 := Try.underlying89
 have HB := Aside0.mk (Below.refl w.heap.size w)
 have H : ((impl_ShipOk.f a0_0 a0_1 a0_2 a0_3 a0_4 a0_5).bind fun t549 => (if t549 = true then ((impl_ShipOk.f a1_0 a1_1 a1_2 a1_3 a1_4 a1_5).bind fun t550 => (impl_Closest.j0 k (!t550) a0_0 a0_1 a0_2 a0_3 a0_4 a0_5 a1_0 a1_1 a1_2 a1_3 a1_4 a1_5)) else (impl_Closest.j0 k true a0_0 a0_1 a0_2 a0_3 a0_4 a0_5 a1_0 a1_1 a1_2 a1_3 a1_4 a1_5))) = some (r1, r2, r3, r4, r5) := h
 clear h
 have HC3 := Aside0.mk H
 clear H
 go_enter Try.func38, Try.ntmps38
 go_upto_region 1 with (first | ((with_reducible refine gate_dst (N := 2) rfl ?_); refine box_event ?hg (N := 2) ?hd (cs := #[.int .i64 a0_0, .int .i64 a0_1, .int .i64 a0_2, .int .i64 a0_3, .int .i64 a0_4, .int .i64 a0_5]) (t := 25) ?hr ?_; (case hd => rfl); (case hg => rfl); (case hr => first | (go_simp; done) | (go_simp; rfl)); intro gb545 hg w4 hbox hb; replace BK545 := Aside0.mk (hbox); replace GW545 := Aside0.mk ((by rw [hg]; exact (below_size (by repeat (first | (with_reducible first | exact HB.out | apply below_alloc | apply pw_below_drewN | apply below_drew1) | exact HB.out))) : w.heap.size ≤ gb545)); replace GE545 := Aside0.mk ((by rw [hg]; exact (below_size (by repeat (first | (with_reducible first | exact HB.out | apply below_alloc | apply pw_below_drewN | apply below_drew1) | exact HB.out))) : w.heap.size ≤ gb545)); replace HB := Aside0.mk (below_step (by repeat (first | (with_reducible first | exact HB.out | apply below_alloc | apply pw_below_drewN | apply below_drew1) | exact HB.out)) hb); clear hb hbox hg) | ((with_reducible refine gate_dst (N := 3) rfl ?_); refine box_event ?hg (N := 3) ?hd (cs := #[.int .i64 a1_0, .int .i64 a1_1, .int .i64 a1_2, .int .i64 a1_3, .int .i64 a1_4, .int .i64 a1_5]) (t := 25) ?hr ?_; (case hd => rfl); (case hg => rfl); (case hr => first | (go_simp; done) | (go_simp; rfl)); intro gb546 hg w5 hbox hb; replace BK546 := Aside0.mk (hbox); replace GW546 := Aside0.mk ((by rw [hg]; exact (below_size (by repeat (first | (with_reducible first | exact HB.out | apply below_alloc | apply pw_below_drewN | apply below_drew1 | refine below_set ?_ GE545.out) | exact HB.out))) : w.heap.size ≤ gb546)); replace GE546 := Aside0.mk ((by rw [hg]; exact (below_size (by repeat (first | (with_reducible first | exact HB.out | apply below_alloc | apply pw_below_drewN | apply below_drew1 | refine below_set ?_ GE545.out) | exact HB.out))) : w.heap.size ≤ gb546)); replace HB := Aside0.mk (below_step (by repeat (first | (with_reducible first | exact HB.out | apply below_alloc | apply pw_below_drewN | apply below_drew1 | refine below_set ?_ GE545.out) | exact HB.out)) hb); replace NB545_546 := Aside0.mk ((by rw [hg]; exact Nat.ne_of_lt (blk_lt (g := gb545) (o := .cells #[.int .i64 a0_0, .int .i64 a0_1, .int .i64 a0_2, .int .i64 a0_3, .int .i64 a0_4, .int .i64 a0_5] 25 (0, 0)) (by (with_reducible repeat (first | refine z1 ?_ _ | refine z2 ?_ | refine z3 ?_ _)); exact BK545.out)) : gb545 ≠ gb546)); replace NB546_545 := Aside0.mk ((by rw [hg]; exact Nat.ne_of_gt (blk_lt (g := gb545) (o := .cells #[.int .i64 a0_0, .int .i64 a0_1, .int .i64 a0_2, .int .i64 a0_3, .int .i64 a0_4, .int .i64 a0_5] 25 (0, 0)) (by (with_reducible repeat (first | refine z1 ?_ _ | refine z2 ?_ | refine z3 ?_ _)); exact BK545.out)) : gb546 ≠ gb545)); replace BK545 := Aside0.mk (blk_below (g := gb545) (o := .cells #[.int .i64 a0_0, .int .i64 a0_1, .int .i64 a0_2, .int .i64 a0_3, .int .i64 a0_4, .int .i64 a0_5] 25 (0, 0)) (by (with_reducible repeat (first | refine z1 ?_ _ | refine z2 ?_ | refine z3 ?_ _)); exact BK545.out) hb); clear hb hbox hg) | ((with_reducible refine gate_dst (N := 4) rfl ?_); refine box_event ?hg (N := 4) ?hd (cs := #[.int .i64 0, .int .i64 0]) (t := 58) ?hr ?_; (case hd => rfl); (case hg => rfl); (case hr => first | (go_simp; done) | (go_simp; rfl)); intro gb547 hg w6 hbox hb; replace BK547 := Aside0.mk (hbox); replace GW547 := Aside0.mk ((by rw [hg]; exact (below_size (by repeat (first | (with_reducible first | exact HB.out | apply below_alloc | apply pw_below_drewN | apply below_drew1 | refine below_set ?_ GE545.out | refine below_set ?_ GE546.out) | exact HB.out))) : w.heap.size ≤ gb547)); replace GE547 := Aside0.mk ((by rw [hg]; exact (below_size (by repeat (first | (with_reducible first | exact HB.out | apply below_alloc | apply pw_below_drewN | apply below_drew1 | refine below_set ?_ GE545.out | refine below_set ?_ GE546.out) | exact HB.out))) : w.heap.size ≤ gb547)); replace HB := Aside0.mk (below_step (by repeat (first | (with_reducible first | exact HB.out | apply below_alloc | apply pw_below_drewN | apply below_drew1 | refine below_set ?_ GE545.out | refine below_set ?_ GE546.out) | exact HB.out)) hb); replace NB545_547 := Aside0.mk ((by rw [hg]; exact Nat.ne_of_lt (blk_lt (g := gb545) (o := .cells #[.int .i64 a0_0, .int .i64 a0_1, .int .i64 a0_2, .int .i64 a0_3, .int .i64 a0_4, .int .i64 a0_5] 25 (0, 0)) (by (with_reducible repeat (first | refine z1 ?_ _ | refine z2 ?_ | refine z3 ?_ _)); exact BK545.out)) : gb545 ≠ gb547)); replace NB547_545 := Aside0.mk ((by rw [hg]; exact Nat.ne_of_gt (blk_lt (g := gb545) (o := .cells #[.int .i64 a0_0, .int .i64 a0_1, .int .i64 a0_2, .int .i64 a0_3, .int .i64 a0_4, .int .i64 a0_5] 25 (0, 0)) (by (with_reducible repeat (first | refine z1 ?_ _ | refine z2 ?_ | refine z3 ?_ _)); exact BK545.out)) : gb547 ≠ gb545)); replace BK545 := Aside0.mk (blk_below (g := gb545) (o := .cells #[.int .i64 a0_0, .int .i64 a0_1, .int .i64 a0_2, .int .i64 a0_3, .int .i64 a0_4, .int .i64 a0_5] 25 (0, 0)) (by (with_reducible repeat (first | refine z1 ?_ _ | refine z2 ?_ | refine z3 ?_ _)); exact BK545.out) hb); replace NB546_547 := Aside0.mk ((by rw [hg]; exact Nat.ne_of_lt (blk_lt (g := gb546) (o := .cells #[.int .i64 a1_0, .int .i64 a1_1, .int .i64 a1_2, .int .i64 a1_3, .int .i64 a1_4, .int .i64 a1_5] 25 (0, 0)) (by (with_reducible repeat (first | refine z1 ?_ _ | refine z2 ?_ | refine z3 ?_ _)); exact BK546.out)) : gb546 ≠ gb547)); replace NB547_546 := Aside0.mk ((by rw [hg]; exact Nat.ne_of_gt (blk_lt (g := gb546) (o := .cells #[.int .i64 a1_0, .int .i64 a1_1, .int .i64 a1_2, .int .i64 a1_3, .int .i64 a1_4, .int .i64 a1_5] 25 (0, 0)) (by (with_reducible repeat (first | refine z1 ?_ _ | refine z2 ?_ | refine z3 ?_ _)); exact BK546.out)) : gb547 ≠ gb546)); replace BK546 := Aside0.mk (blk_below (g := gb546) (o := .cells #[.int .i64 a1_0, .int .i64 a1_1, .int .i64 a1_2, .int .i64 a1_3, .int .i64 a1_4, .int .i64 a1_5] 25 (0, 0)) (by (with_reducible repeat (first | refine z1 ?_ _ | refine z2 ?_ | refine z3 ?_ _)); exact BK546.out) hb); clear hb hbox hg) | ((with_reducible refine gate_dst (N := 5) rfl ?_); refine box_event ?hg (N := 5) ?hd (cs := #[.int .i64 0, .int .i64 0]) (t := 58) ?hr ?_; (case hd => rfl); (case hg => rfl); (case hr => first | (go_simp; done) | (go_simp; rfl)); intro gb548 hg w7 hbox hb; replace BK548 := Aside0.mk (hbox); replace GW548 := Aside0.mk ((by rw [hg]; exact (below_size (by repeat (first | (with_reducible first | exact HB.out | apply below_alloc | apply pw_below_drewN | apply below_drew1 | refine below_set ?_ GE545.out | refine below_set ?_ GE546.out | refine below_set ?_ GE547.out) | exact HB.out))) : w.heap.size ≤ gb548)); replace GE548 := Aside0.mk ((by rw [hg]; exact (below_size (by repeat (first | (with_reducible first | exact HB.out | apply below_alloc | apply pw_below_drewN | apply below_drew1 | refine below_set ?_ GE545.out | refine below_set ?_ GE546.out | refine below_set ?_ GE547.out) | exact HB.out))) : w.heap.size ≤ gb548)); replace HB := Aside0.mk (below_step (by repeat (first | (with_reducible first | exact HB.out | apply below_alloc | apply pw_below_drewN | apply below_drew1 | refine below_set ?_ GE545.out | refine below_set ?_ GE546.out | refine below_set ?_ GE547.out) | exact HB.out)) hb); replace NB545_548 := Aside0.mk ((by rw [hg]; exact Nat.ne_of_lt (blk_lt (g := gb545) (o := .cells #[.int .i64 a0_0, .int .i64 a0_1, .int .i64 a0_2, .int .i64 a0_3, .int .i64 a0_4, .int .i64 a0_5] 25 (0, 0)) (by (with_reducible repeat (first | refine z1 ?_ _ | refine z2 ?_ | refine z3 ?_ _)); exact BK545.out)) : gb545 ≠ gb548)); replace NB548_545 := Aside0.mk ((by rw [hg]; exact Nat.ne_of_gt (blk_lt (g := gb545) (o := .cells #[.int .i64 a0_0, .int .i64 a0_1, .int .i64 a0_2, .int .i64 a0_3, .int .i64 a0_4, .int .i64 a0_5] 25 (0, 0)) (by (with_reducible repeat (first | refine z1 ?_ _ | refine z2 ?_ | refine z3 ?_ _)); exact BK545.out)) : gb548 ≠ gb545)); replace BK545 := Aside0.mk (blk_below (g := gb545) (o := .cells #[.int .i64 a0_0, .int .i64 a0_1, .int .i64 a0_2, .int .i64 a0_3, .int .i64 a0_4, .int .i64 a0_5] 25 (0, 0)) (by (with_reducible repeat (first | refine z1 ?_ _ | refine z2 ?_ | refine z3 ?_ _)); exact BK545.out) hb); replace NB546_548 := Aside0.mk ((by rw [hg]; exact Nat.ne_of_lt (blk_lt (g := gb546) (o := .cells #[.int .i64 a1_0, .int .i64 a1_1, .int .i64 a1_2, .int .i64 a1_3, .int .i64 a1_4, .int .i64 a1_5] 25 (0, 0)) (by (with_reducible repeat (first | refine z1 ?_ _ | refine z2 ?_ | refine z3 ?_ _)); exact BK546.out)) : gb546 ≠ gb548)); replace NB548_546 := Aside0.mk ((by rw [hg]; exact Nat.ne_of_gt (blk_lt (g := gb546) (o := .cells #[.int .i64 a1_0, .int .i64 a1_1, .int .i64 a1_2, .int .i64 a1_3, .int .i64 a1_4, .int .i64 a1_5] 25 (0, 0)) (by (with_reducible repeat (first | refine z1 ?_ _ | refine z2 ?_ | refine z3 ?_ _)); exact BK546.out)) : gb548 ≠ gb546)); replace BK546 := Aside0.mk (blk_below (g := gb546) (o := .cells #[.int .i64 a1_0, .int .i64 a1_1, .int .i64 a1_2, .int .i64 a1_3, .int .i64 a1_4, .int .i64 a1_5] 25 (0, 0)) (by (with_reducible repeat (first | refine z1 ?_ _ | refine z2 ?_ | refine z3 ?_ _)); exact BK546.out) hb); replace NB547_548 := Aside0.mk ((by rw [hg]; exact Nat.ne_of_lt (blk_lt (g := gb547) (o := .cells #[.int .i64 0, .int .i64 0] 58 (0, 0)) (by (with_reducible repeat (first | refine z1 ?_ _ | refine z2 ?_ | refine z3 ?_ _)); exact BK547.out)) : gb547 ≠ gb548)); replace NB548_547 := Aside0.mk ((by rw [hg]; exact Nat.ne_of_gt (blk_lt (g := gb547) (o := .cells #[.int .i64 0, .int .i64 0] 58 (0, 0)) (by (with_reducible repeat (first | refine z1 ?_ _ | refine z2 ?_ | refine z3 ?_ _)); exact BK547.out)) : gb548 ≠ gb547)); replace BK547 := Aside0.mk (blk_below (g := gb547) (o := .cells #[.int .i64 0, .int .i64 0] 58 (0, 0)) (by (with_reducible repeat (first | refine z1 ?_ _ | refine z2 ?_ | refine z3 ?_ _)); exact BK547.out) hb); clear hb hbox hg))
 (try simp only [Act.put, List.setIfInBounds_toArray, List.set_cons_zero, List.set_cons_succ])
 go_cut [18] (fun v18 wc => ∃ (kq : Nat) (x18_2 : Bool), v18 = .bool x18_2 ∧ Aside0 (impl_Closest.j0 kq x18_2 a0_0 a0_1 a0_2 a0_3 a0_4 a0_5 a1_0 a1_1 a1_2 a1_3 a1_4 a1_5 = some (r1, r2, r3, r4, r5)) ∧ Aside0 (kq ≤ k) ∧ Aside0 (wc.heap[gb545]? = some (.cells #[.int .i64 a0_0, .int .i64 a0_1, .int .i64 a0_2, .int .i64 a0_3, .int .i64 a0_4, .int .i64 a0_5] 25 (0, 0))) ∧ Aside0 (wc.heap[gb546]? = some (.cells #[.int .i64 a1_0, .int .i64 a1_1, .int .i64 a1_2, .int .i64 a1_3, .int .i64 a1_4, .int .i64 a1_5] 25 (0, 0))) ∧ Aside0 (wc.heap[gb547]? = some (.cells #[.int .i64 0, .int .i64 0] 58 (0, 0))) ∧ Aside0 (wc.heap[gb548]? = some (.cells #[.int .i64 0, .int .i64 0] 58 (0, 0))) ∧ Aside0 (Below w.heap.size w wc))
 case first =>
  have H := HC3.out
  clear HC3
  replace H := Option.bind_eq_some_iff.mp H
  obtain ⟨t549, A80, H⟩ := H
  replace H : (if t549 = true then ((impl_ShipOk.f a1_0 a1_1 a1_2 a1_3 a1_4 a1_5).bind fun t550 => (impl_Closest.j0 k (!t550) a0_0 a0_1 a0_2 a0_3 a0_4 a0_5 a1_0 a1_1 a1_2 a1_3 a1_4 a1_5)) else (impl_Closest.j0 k true a0_0 a0_1 a0_2 a0_3 a0_4 a0_5 a1_0 a1_1 a1_2 a1_3 a1_4 a1_5)) = some (r1, r2, r3, r4, r5) := H
  have A8 := Aside0.mk A80
  clear A80
  by_cases c9 : t549 = true
  ·subst c9
   have H1 : ((impl_ShipOk.f a1_0 a1_1 a1_2 a1_3 a1_4 a1_5).bind fun t550 => (impl_Closest.j0 k (!t550) a0_0 a0_1 a0_2 a0_3 a0_4 a0_5 a1_0 a1_1 a1_2 a1_3 a1_4 a1_5)) = some (r1, r2, r3, r4, r5) := by rw [if_pos rfl] at H; exact H
   clear H
   have H := H1
   clear H1
   replace H := Option.bind_eq_some_iff.mp H
   obtain ⟨t550, A100, H⟩ := H
   replace H : (impl_Closest.j0 k (!t550) a0_0 a0_1 a0_2 a0_3 a0_4 a0_5 a1_0 a1_1 a1_2 a1_3 a1_4 a1_5) = some (r1, r2, r3, r4, r5) := H
   have A10 := Aside0.mk A100
   clear A100
   have H' := Aside0.mk H
   clear H
   have hnb11 := NB545_546.out
   have hnc11 := NB546_545.out
   have hnb12 := NB545_547.out
   have hnc12 := NB547_545.out
   have hnb13 := NB545_548.out
   have hnc13 := NB548_545.out
   obtain ⟨hcz14_0, hcz14_1, hcz14_2, hcz14_3, hcz14_4, hcz14_5, hfz14_0, hfz14_1, hfz14_2, hfz14_3, hfz14_4, hfz14_5⟩ := six BK545
   go_wp2_with (first | ((with_reducible refine gate_callee (f := 17) rfl ?_); refine goesL_ (some 12) rfl rfl Try.func17 (by kernel_rfl) rfl #[.agg #[.int .i64 a0_0, .int .i64 a0_1, .int .i64 a0_2, .int .i64 a0_3, .int .i64 a0_4, .int .i64 a0_5]] rfl (by (try simp only [List.map_toArray, List.map_cons, List.map_nil]); first | done | rfl | (simp only [List.length_drop, List.length_take]; rfl)) ?_; (with_reducible refine (impl_ShipOk.calls a0_0 a0_1 a0_2 a0_3 a0_4 a0_5 true _ A8.out).mono ?_); rintro e w15 ⟨rfl, hb⟩; refine ⟨_, rfl, ?_⟩; replace BK545 := Aside0.mk (blk_below (g := gb545) (o := .cells #[.int .i64 a0_0, .int .i64 a0_1, .int .i64 a0_2, .int .i64 a0_3, .int .i64 a0_4, .int .i64 a0_5] 25 (0, 0)) (by (with_reducible repeat (first | refine z1 ?_ _ | refine z2 ?_ | refine z3 ?_ _)); exact BK545.out) hb); replace BK546 := Aside0.mk (blk_below (g := gb546) (o := .cells #[.int .i64 a1_0, .int .i64 a1_1, .int .i64 a1_2, .int .i64 a1_3, .int .i64 a1_4, .int .i64 a1_5] 25 (0, 0)) (by (with_reducible repeat (first | refine z1 ?_ _ | refine z2 ?_ | refine z3 ?_ _)); exact BK546.out) hb); replace BK547 := Aside0.mk (blk_below (g := gb547) (o := .cells #[.int .i64 0, .int .i64 0] 58 (0, 0)) (by (with_reducible repeat (first | refine z1 ?_ _ | refine z2 ?_ | refine z3 ?_ _)); exact BK547.out) hb); replace BK548 := Aside0.mk (blk_below (g := gb548) (o := .cells #[.int .i64 0, .int .i64 0] 58 (0, 0)) (by (with_reducible repeat (first | refine z1 ?_ _ | refine z2 ?_ | refine z3 ?_ _)); exact BK548.out) hb); replace HB := Aside0.mk (below_step (by repeat (first | (with_reducible first | exact HB.out | apply below_alloc | apply pw_below_drewN | apply below_drew1 | refine below_set ?_ GE545.out | refine below_set ?_ GE546.out | refine below_set ?_ GE547.out | refine below_set ?_ GE548.out) | exact HB.out)) hb); (try clear hb); (try clear hb2); (try clear hk); (try clear hi); have hnb16 := NB546_547.out; have hnc16 := NB547_546.out; have hnb17 := NB546_548.out; have hnc17 := NB548_546.out; obtain ⟨hcz18_0, hcz18_1, hcz18_2, hcz18_3, hcz18_4, hcz18_5, hfz18_0, hfz18_1, hfz18_2, hfz18_3, hfz18_4, hfz18_5⟩ := six BK546) | (go_at_call 17; (with_reducible refine (impl_ShipOk.calls a1_0 a1_1 a1_2 a1_3 a1_4 a1_5 t550 _ A10.out).mono ?_); rintro e w19 ⟨rfl, hb⟩; replace BK545 := Aside0.mk (blk_below (g := gb545) (o := .cells #[.int .i64 a0_0, .int .i64 a0_1, .int .i64 a0_2, .int .i64 a0_3, .int .i64 a0_4, .int .i64 a0_5] 25 (0, 0)) (by (with_reducible repeat (first | refine z1 ?_ _ | refine z2 ?_ | refine z3 ?_ _)); exact BK545.out) hb); replace BK546 := Aside0.mk (blk_below (g := gb546) (o := .cells #[.int .i64 a1_0, .int .i64 a1_1, .int .i64 a1_2, .int .i64 a1_3, .int .i64 a1_4, .int .i64 a1_5] 25 (0, 0)) (by (with_reducible repeat (first | refine z1 ?_ _ | refine z2 ?_ | refine z3 ?_ _)); exact BK546.out) hb); replace BK547 := Aside0.mk (blk_below (g := gb547) (o := .cells #[.int .i64 0, .int .i64 0] 58 (0, 0)) (by (with_reducible repeat (first | refine z1 ?_ _ | refine z2 ?_ | refine z3 ?_ _)); exact BK547.out) hb); replace BK548 := Aside0.mk (blk_below (g := gb548) (o := .cells #[.int .i64 0, .int .i64 0] 58 (0, 0)) (by (with_reducible repeat (first | refine z1 ?_ _ | refine z2 ?_ | refine z3 ?_ _)); exact BK548.out) hb); replace HB := Aside0.mk (below_step (by repeat (first | (with_reducible first | exact HB.out | apply below_alloc | apply pw_below_drewN | apply below_drew1 | refine below_set ?_ GE545.out | refine below_set ?_ GE546.out | refine below_set ?_ GE547.out | refine below_set ?_ GE548.out) | exact HB.out)) hb); (try clear hb); (try clear hb2); (try clear hk); (try clear hi)))
   go_meet
   case rel => exact ⟨_, (!t550), (by first | rfl | (simp; done) | (simp [*]; done)), H', ⟨by first | omega | exact Nat.le_refl _⟩, ⟨by (with_reducible repeat (first | refine blk_drewN ?_ _ | refine blk_drew ?_ | refine blk_alloc ?_ _)); exact BK545.out⟩, ⟨by (with_reducible repeat (first | refine blk_drewN ?_ _ | refine blk_drew ?_ | refine blk_alloc ?_ _)); exact BK546.out⟩, ⟨by (with_reducible repeat (first | refine blk_drewN ?_ _ | refine blk_drew ?_ | refine blk_alloc ?_ _)); exact BK547.out⟩, ⟨by (with_reducible repeat (first | refine blk_drewN ?_ _ | refine blk_drew ?_ | refine blk_alloc ?_ _)); exact BK548.out⟩, ⟨by repeat (first | (with_reducible first | exact HB.out | apply below_alloc | apply pw_below_drewN | apply below_drew1 | refine below_set ?_ GE545.out | refine below_set ?_ GE546.out | refine below_set ?_ GE547.out | refine below_set ?_ GE548.out) | exact HB.out)⟩⟩
  ·replace c9 := Bool.eq_false_iff.mpr c9
   subst c9
   have H1 : (impl_Closest.j0 k true a0_0 a0_1 a0_2 a0_3 a0_4 a0_5 a1_0 a1_1 a1_2 a1_3 a1_4 a1_5) = some (r1, r2, r3, r4, r5) := by rw [if_neg (show ¬ (false = true) by decide)] at H; exact H
   clear H
   have H := H1
   clear H1
   have H' := Aside0.mk H
   clear H
   have hnb20 := NB545_546.out
   have hnc20 := NB546_545.out
   have hnb21 := NB545_547.out
   have hnc21 := NB547_545.out
   have hnb22 := NB545_548.out
   have hnc22 := NB548_545.out
   obtain ⟨hcz23_0, hcz23_1, hcz23_2, hcz23_3, hcz23_4, hcz23_5, hfz23_0, hfz23_1, hfz23_2, hfz23_3, hfz23_4, hfz23_5⟩ := six BK545
   go_wp2_with (first | ((with_reducible refine gate_callee (f := 17) rfl ?_); refine goesL_ (some 12) rfl rfl Try.func17 (by kernel_rfl) rfl #[.agg #[.int .i64 a0_0, .int .i64 a0_1, .int .i64 a0_2, .int .i64 a0_3, .int .i64 a0_4, .int .i64 a0_5]] rfl (by (try simp only [List.map_toArray, List.map_cons, List.map_nil]); first | done | rfl | (simp only [List.length_drop, List.length_take]; rfl)) ?_; (with_reducible refine (impl_ShipOk.calls a0_0 a0_1 a0_2 a0_3 a0_4 a0_5 false _ A8.out).mono ?_); rintro e w24 ⟨rfl, hb⟩; refine ⟨_, rfl, ?_⟩; replace BK545 := Aside0.mk (blk_below (g := gb545) (o := .cells #[.int .i64 a0_0, .int .i64 a0_1, .int .i64 a0_2, .int .i64 a0_3, .int .i64 a0_4, .int .i64 a0_5] 25 (0, 0)) (by (with_reducible repeat (first | refine z1 ?_ _ | refine z2 ?_ | refine z3 ?_ _)); exact BK545.out) hb); replace BK546 := Aside0.mk (blk_below (g := gb546) (o := .cells #[.int .i64 a1_0, .int .i64 a1_1, .int .i64 a1_2, .int .i64 a1_3, .int .i64 a1_4, .int .i64 a1_5] 25 (0, 0)) (by (with_reducible repeat (first | refine z1 ?_ _ | refine z2 ?_ | refine z3 ?_ _)); exact BK546.out) hb); replace BK547 := Aside0.mk (blk_below (g := gb547) (o := .cells #[.int .i64 0, .int .i64 0] 58 (0, 0)) (by (with_reducible repeat (first | refine z1 ?_ _ | refine z2 ?_ | refine z3 ?_ _)); exact BK547.out) hb); replace BK548 := Aside0.mk (blk_below (g := gb548) (o := .cells #[.int .i64 0, .int .i64 0] 58 (0, 0)) (by (with_reducible repeat (first | refine z1 ?_ _ | refine z2 ?_ | refine z3 ?_ _)); exact BK548.out) hb); replace HB := Aside0.mk (below_step (by repeat (first | (with_reducible first | exact HB.out | apply below_alloc | apply pw_below_drewN | apply below_drew1 | refine below_set ?_ GE545.out | refine below_set ?_ GE546.out | refine below_set ?_ GE547.out | refine below_set ?_ GE548.out) | exact HB.out)) hb); (try clear hb); (try clear hb2); (try clear hk); (try clear hi)))
   go_meet
   case rel => exact ⟨_, (true), (by first | rfl | (simp; done) | (simp [*]; done)), H', ⟨by first | omega | exact Nat.le_refl _⟩, ⟨by (with_reducible repeat (first | refine blk_drewN ?_ _ | refine blk_drew ?_ | refine blk_alloc ?_ _)); exact BK545.out⟩, ⟨by (with_reducible repeat (first | refine blk_drewN ?_ _ | refine blk_drew ?_ | refine blk_alloc ?_ _)); exact BK546.out⟩, ⟨by (with_reducible repeat (first | refine blk_drewN ?_ _ | refine blk_drew ?_ | refine blk_alloc ?_ _)); exact BK547.out⟩, ⟨by (with_reducible repeat (first | refine blk_drewN ?_ _ | refine blk_drew ?_ | refine blk_alloc ?_ _)); exact BK548.out⟩, ⟨by repeat (first | (with_reducible first | exact HB.out | apply below_alloc | apply pw_below_drewN | apply below_drew1 | refine below_set ?_ GE545.out | refine below_set ?_ GE546.out | refine below_set ?_ GE547.out | refine below_set ?_ GE548.out) | exact HB.out)⟩⟩
 case rest =>
  clear HC3
  (try clear c1); (try clear c2); (try clear p2); (try clear c3); (try clear c9); (try clear c11); (try clear c12); (try clear c13); (try clear c16); (try clear c17); (try clear c20); (try clear c21); (try clear c22); (try clear hcz14_0); (try clear hcz14_1); (try clear hcz14_2); (try clear hcz14_3); (try clear hcz14_4); (try clear hcz14_5); (try clear hcz18_0); (try clear hcz18_1); (try clear hcz18_2); (try clear hcz18_3); (try clear hcz18_4); (try clear hcz18_5); (try clear hcz23_0); (try clear hcz23_1); (try clear hcz23_2); (try clear hcz23_3); (try clear hcz23_4); (try clear hcz23_5); (try clear hfz14_0); (try clear hfz14_1); (try clear hfz14_2); (try clear hfz14_3); (try clear hfz14_4); (try clear hfz14_5); (try clear hfz18_0); (try clear hfz18_1); (try clear hfz18_2); (try clear hfz18_3); (try clear hfz18_4); (try clear hfz18_5); (try clear hfz23_0); (try clear hfz23_1); (try clear hfz23_2); (try clear hfz23_3); (try clear hfz23_4); (try clear hfz23_5)
  obtain ⟨kq, x18_2, rfl, HA, HJ2, BK545, BK546, BK547, BK548, HB⟩ := hcut
  cases kq with
  | zero => exact absurd HA.out (by simp [impl_Closest.j0])
  | succ kj2 =>
   have H := HA.out
   clear HA
   simp only [impl_Closest.j0] at H
   by_cases c25 : x18_2 = true
   ·subst c25
    have H1 : (some (0, 0, 0, 0, false)) = some (r1, r2, r3, r4, r5) := by rw [if_pos rfl] at H; exact H
    clear H
    have H := H1
    clear H1
    simp only [Option.some.injEq, Prod.mk.injEq] at H
    obtain ⟨rfl, rfl, rfl, rfl, rfl⟩ := H
    have hnb26 := NB547_545.out
    have hnc26 := NB545_547.out
    have hnb27 := NB547_546.out
    have hnc27 := NB546_547.out
    have hnb28 := NB547_548.out
    have hnc28 := NB548_547.out
    obtain ⟨hcz29_0, hcz29_1, hfz29_0, hfz29_1⟩ := two BK547
    have hnb30 := NB548_545.out
    have hnc30 := NB545_548.out
    have hnb31 := NB548_546.out
    have hnc31 := NB546_548.out
    obtain ⟨hcz32_0, hcz32_1, hfz32_0, hfz32_1⟩ := two BK548
    go_wp2
    refine bodyPost_ret (results_list (rs := [.cell 4 58, .cell 5 58, .tmp 6]) rfl (by simp) (.cell gb547 58 #[.int .i64 0, .int .i64 0] (0, 0) _ rfl (by (with_reducible repeat (first | refine blk_drewN ?_ _ | refine blk_drew ?_ | refine blk_alloc ?_ _)); refine blk_far ?_ NB547_548.out _; (with_reducible repeat (first | refine blk_drewN ?_ _ | refine blk_drew ?_ | refine blk_alloc ?_ _)); refine blk_far ?_ NB547_548.out _; (with_reducible repeat (first | refine blk_drewN ?_ _ | refine blk_drew ?_ | refine blk_alloc ?_ _)); refine blk_put (cs := #[.int .i64 0, .int .i64 0]) ?_ 1 _ rfl; (with_reducible repeat (first | refine blk_drewN ?_ _ | refine blk_drew ?_ | refine blk_alloc ?_ _)); refine blk_put (cs := #[.int .i64 0, .int .i64 0]) ?_ 0 _ rfl; (with_reducible repeat (first | refine blk_drewN ?_ _ | refine blk_drew ?_ | refine blk_alloc ?_ _)); exact BK547.out) Try.underlying58 rfl (by kernel_rfl) (.cell gb548 58 #[.int .i64 0, .int .i64 0] (0, 0) _ rfl (by (with_reducible repeat (first | refine blk_drewN ?_ _ | refine blk_drew ?_ | refine blk_alloc ?_ _)); refine blk_put (cs := #[.int .i64 0, .int .i64 0]) ?_ 1 _ rfl; (with_reducible repeat (first | refine blk_drewN ?_ _ | refine blk_drew ?_ | refine blk_alloc ?_ _)); refine blk_put (cs := #[.int .i64 0, .int .i64 0]) ?_ 0 _ rfl; (with_reducible repeat (first | refine blk_drewN ?_ _ | refine blk_drew ?_ | refine blk_alloc ?_ _)); refine blk_far ?_ NB548_547.out _; (with_reducible repeat (first | refine blk_drewN ?_ _ | refine blk_drew ?_ | refine blk_alloc ?_ _)); refine blk_far ?_ NB548_547.out _; (with_reducible repeat (first | refine blk_drewN ?_ _ | refine blk_drew ?_ | refine blk_alloc ?_ _)); exact BK548.out) Try.underlying58 rfl (by kernel_rfl) (.tmp .nil)))) rfl ?_
    exact ⟨by first | rfl | (simp [errW_none, errW_some] <;> rfl) | (simp [*, errW_none, errW_some] <;> rfl), by repeat (first | (with_reducible first | exact HB.out | apply below_alloc | apply pw_below_drewN | apply below_drew1 | refine below_set ?_ GE545.out | refine below_set ?_ GE546.out | refine below_set ?_ GE547.out | refine below_set ?_ GE548.out) | exact HB.out)⟩
   ·replace c25 := Bool.eq_false_iff.mpr c25
    subst c25
    have H1 : ((impl_bearing.f a1_0 a1_1 a1_2 a1_3 a1_4 a1_5 a0_0 a0_1 a0_2 a0_3 a0_4 a0_5).bind fun bt551 => ((impl_vec_dot.f bt551.1 bt551.2 (wrap64 (a1_2 - a0_2)) (wrap64 (a1_3 - a0_3))).bind fun t555 => (if ((wrap64 (a1_2 - a0_2)) == 0 && ((wrap64 (a1_3 - a0_3)) == 0)) = true then (impl_Closest.j1 kj2 (wrap64 (-t555)) true bt551.1 bt551.2 (wrap64 (a1_2 - a0_2)) (wrap64 (a1_3 - a0_3))) else (impl_Closest.j1 kj2 (wrap64 (-t555)) (decide ((wrap64 (-t555)) < 0)) bt551.1 bt551.2 (wrap64 (a1_2 - a0_2)) (wrap64 (a1_3 - a0_3)))))) = some (r1, r2, r3, r4, r5) := by rw [if_neg (show ¬ (false = true) by decide)] at H; exact H
    clear H
    have H := H1
    clear H1
    replace H := Option.bind_eq_some_iff.mp H
    obtain ⟨⟨t551, t552⟩, A330, H⟩ := H
    replace H : ((impl_vec_dot.f t551 t552 (wrap64 (a1_2 - a0_2)) (wrap64 (a1_3 - a0_3))).bind fun t555 => (if ((wrap64 (a1_2 - a0_2)) == 0 && ((wrap64 (a1_3 - a0_3)) == 0)) = true then (impl_Closest.j1 kj2 (wrap64 (-t555)) true t551 t552 (wrap64 (a1_2 - a0_2)) (wrap64 (a1_3 - a0_3))) else (impl_Closest.j1 kj2 (wrap64 (-t555)) (decide ((wrap64 (-t555)) < 0)) t551 t552 (wrap64 (a1_2 - a0_2)) (wrap64 (a1_3 - a0_3))))) = some (r1, r2, r3, r4, r5) := H
    have A33 := Aside0.mk A330
    clear A330
    replace H := Option.bind_eq_some_iff.mp H
    obtain ⟨t555, A340, H⟩ := H
    replace H : (if ((wrap64 (a1_2 - a0_2)) == 0 && ((wrap64 (a1_3 - a0_3)) == 0)) = true then (impl_Closest.j1 kj2 (wrap64 (-t555)) true t551 t552 (wrap64 (a1_2 - a0_2)) (wrap64 (a1_3 - a0_3))) else (impl_Closest.j1 kj2 (wrap64 (-t555)) (decide ((wrap64 (-t555)) < 0)) t551 t552 (wrap64 (a1_2 - a0_2)) (wrap64 (a1_3 - a0_3)))) = some (r1, r2, r3, r4, r5) := H
    have A34 := Aside0.mk A340
    clear A340
    have HC35 := Aside0.mk H
    clear H
    try go_wp2
    replace BK545 := Aside0.mk (blk_drew BK545.out)
    replace BK546 := Aside0.mk (blk_drew BK546.out)
    replace BK547 := Aside0.mk (blk_drew BK547.out)
    replace BK548 := Aside0.mk (blk_drew BK548.out)
    replace HB := Aside0.mk (below_drew1 HB.out)
    refine start_ (n := 18) (S := fun w' => w'.cell? ⟨gb546, 0, none⟩ = some (.int .i64 a1_0) ∧ w'.cell? ⟨gb546, 1, none⟩ = some (.int .i64 a1_1) ∧ w'.cell? ⟨gb546, 2, none⟩ = some (.int .i64 a1_2) ∧ w'.cell? ⟨gb546, 3, none⟩ = some (.int .i64 a1_3) ∧ w'.cell? ⟨gb546, 4, none⟩ = some (.int .i64 a1_4) ∧ w'.cell? ⟨gb546, 5, none⟩ = some (.int .i64 a1_5) ∧ w'.cell? ⟨gb545, 0, none⟩ = some (.int .i64 a0_0) ∧ w'.cell? ⟨gb545, 1, none⟩ = some (.int .i64 a0_1) ∧ w'.cell? ⟨gb545, 2, none⟩ = some (.int .i64 a0_2) ∧ w'.cell? ⟨gb545, 3, none⟩ = some (.int .i64 a0_3) ∧ w'.cell? ⟨gb545, 4, none⟩ = some (.int .i64 a0_4) ∧ w'.cell? ⟨gb545, 5, none⟩ = some (.int .i64 a0_5)) (ds := []) #[false, false, false, false, false, false, false, false, false, false, false, false, false, false, false, false, false, false] (by kernel_rfl) rfl rfl ⟨(blk_cell BK546.out 0).trans rfl, (blk_cell BK546.out 1).trans rfl, (blk_cell BK546.out 2).trans rfl, (blk_cell BK546.out 3).trans rfl, (blk_cell BK546.out 4).trans rfl, (blk_cell BK546.out 5).trans rfl, (blk_cell BK545.out 0).trans rfl, (blk_cell BK545.out 1).trans rfl, (blk_cell BK545.out 2).trans rfl, (blk_cell BK545.out 3).trans rfl, (blk_cell BK545.out 4).trans rfl, (blk_cell BK545.out 5).trans rfl⟩ (fun hHeld => ?_); refine with_tabW impl_Closest.tab3 impl_Closest.bits3 (fun HT_ HW_ => ?_)
    generalize wc.drew = w36 at BK545 BK546 BK547 BK548 HB hHeld ⊢
    refine pure_ (i := 3) (N := some 24) (v := ?_) (a' := ?_) (bz 18 8) rfl rfl (any_of HT_.out (by kernel_rfl)) (fun _ _ _ h => h) (Or.inl ⟨by rfl, ?_⟩) ?_ ?_
    rotate_left
    ·intro w'
     go_simp
     with_reducible rfl
    rotate_left
    ·simp only [Act.put, y1, y2, y3, i64_w, i32_w]
     rfl
    refine pure_ (i := 5) (N := some 26) (v := ?_) (a' := ?_) (bz 18 40) rfl rfl (any_of HT_.out (by kernel_rfl)) (fun _ _ _ h => h) (Or.inl ⟨by rfl, ?_⟩) ?_ ?_
    rotate_left
    ·intro w'
     go_simp
     with_reducible rfl
    rotate_left
    ·simp only [Act.put, y1, y2, y3, i64_w, i32_w]
     rfl
    refine pure_ (i := 8) (N := some 29) (v := ?_) (a' := ?_) (bz 18 296) rfl rfl (any_of HT_.out (by kernel_rfl)) (fun _ _ _ h => h) (Or.inl ⟨by rfl, ?_⟩) ?_ ?_
    rotate_left
    ·intro w'
     go_simp
     with_reducible rfl
    rotate_left
    ·simp only [Act.put, y1, y2, y3, i64_w, i32_w]
     rfl
    refine pure_ (i := 10) (N := some 31) (v := ?_) (a' := ?_) (bz 18 1320) rfl rfl (any_of HT_.out (by kernel_rfl)) (fun _ _ _ h => h) (Or.inl ⟨by rfl, ?_⟩) ?_ ?_
    rotate_left
    ·intro w'
     go_simp
     with_reducible rfl
    rotate_left
    ·simp only [Act.put, y1, y2, y3, i64_w, i32_w]
     rfl
    refine take_ (i := 0) (N := some 21) (v := ?_) (a' := ?_) (bz 18 1321) rfl rfl (take_ofW HT_.out HW_.out (by kernel_rfl)) (fun _ _ _ h => h) (Or.inl ⟨by rfl, ?_⟩) hHeld ?_ ?_
    rotate_left
    ·rintro w' ⟨s0, s1, s2, s3, s4, s5, s6, s7, s8, s9, s10, s11⟩
     go_simp
     with_reducible rfl
    rotate_left
    ·simp only [Act.put, y1, y2, y3, i64_w, i32_w]
     rfl
    refine take_ (i := 1) (N := some 22) (v := ?_) (a' := ?_) (bz 18 1323) rfl rfl (take_ofW HT_.out HW_.out (by kernel_rfl)) (fun _ _ _ h => h) (Or.inl ⟨by rfl, ?_⟩) hHeld ?_ ?_
    rotate_left
    ·rintro w' ⟨s0, s1, s2, s3, s4, s5, s6, s7, s8, s9, s10, s11⟩
     go_simp
     with_reducible rfl
    rotate_left
    ·simp only [Act.put, y1, y2, y3, i64_w, i32_w]
     rfl
    refine take_ (i := 4) (N := some 25) (v := ?_) (a' := ?_) (bz 18 1339) rfl rfl (take_ofW HT_.out HW_.out (by kernel_rfl)) (fun _ _ _ h => h) (Or.inl ⟨by rfl, ?_⟩) hHeld ?_ ?_
    rotate_left
    ·rintro w' ⟨s0, s1, s2, s3, s4, s5, s6, s7, s8, s9, s10, s11⟩
     go_simp
     with_reducible rfl
    rotate_left
    ·simp only [Act.put, y1, y2, y3, i64_w, i32_w]
     rfl
    refine take_ (i := 6) (N := some 27) (v := ?_) (a' := ?_) (bz 18 1403) rfl rfl (take_ofW HT_.out HW_.out (by kernel_rfl)) (fun _ _ _ h => h) (Or.inl ⟨by rfl, ?_⟩) hHeld ?_ ?_
    rotate_left
    ·rintro w' ⟨s0, s1, s2, s3, s4, s5, s6, s7, s8, s9, s10, s11⟩
     go_simp
     with_reducible rfl
    rotate_left
    ·simp only [Act.put, y1, y2, y3, i64_w, i32_w]
     rfl
    refine pure_ (i := 7) (N := some 28) (v := ?_) (a' := ?_) (bz 18 1531) rfl rfl (any_of HT_.out (by kernel_rfl)) (fun _ _ _ h => h) (Or.inl ⟨by rfl, ?_⟩) ?_ ?_
    rotate_left
    ·intro w'
     go_simp
     with_reducible rfl
    rotate_left
    ·simp only [Act.put, y1, y2, y3, i64_w, i32_w]
     rfl
    refine take_ (i := 9) (N := some 30) (v := ?_) (a' := ?_) (bz 18 2043) rfl rfl (take_ofW HT_.out HW_.out (by kernel_rfl)) (fun _ _ _ h => h) (Or.inl ⟨by rfl, ?_⟩) hHeld ?_ ?_
    rotate_left
    ·rintro w' ⟨s0, s1, s2, s3, s4, s5, s6, s7, s8, s9, s10, s11⟩
     go_simp
     with_reducible rfl
    rotate_left
    ·simp only [Act.put, y1, y2, y3, i64_w, i32_w]
     rfl
    refine take_ (i := 11) (N := some 32) (v := ?_) (a' := ?_) (bz 18 4091) rfl rfl (take_ofW HT_.out HW_.out (by kernel_rfl)) (fun _ _ _ h => h) (Or.inl ⟨by rfl, ?_⟩) hHeld ?_ ?_
    rotate_left
    ·rintro w' ⟨s0, s1, s2, s3, s4, s5, s6, s7, s8, s9, s10, s11⟩
     go_simp
     with_reducible rfl
    rotate_left
    ·simp only [Act.put, y1, y2, y3, i64_w, i32_w]
     rfl
    refine pure_ (i := 12) (N := some 33) (v := ?_) (a' := ?_) (bz 18 8187) rfl rfl (any_of HT_.out (by kernel_rfl)) (fun _ _ _ h => h) (Or.inl ⟨by rfl, ?_⟩) ?_ ?_
    rotate_left
    ·intro w'
     go_simp
     with_reducible rfl
    rotate_left
    ·simp only [Act.put, y1, y2, y3, i64_w, i32_w]
     rfl
    refine pure_ (i := 13) (N := some 34) (v := ?_) (a' := ?_) (bz 18 16379) rfl rfl (any_of HT_.out (by kernel_rfl)) (fun _ _ _ h => h) (Or.inl ⟨by rfl, ?_⟩) ?_ ?_
    rotate_left
    ·intro w'
     go_simp
     with_reducible rfl
    rotate_left
    ·simp only [Act.put, y1, y2, y3, i64_w, i32_w]
     rfl
    refine join_ (σ := Nat × Nat) 2 (bz 18 65535) (fun s_ => [(23, .agg #[.int .i64 t551, .int .i64 t552]), (7, .pointer (some ⟨s_.1, 0, none⟩)), (8, .pointer (some ⟨s_.2, 0, none⟩))]) (fun s_ w' => (w'.cell? ⟨gb546, 0, none⟩ = some (.int .i64 a1_0) ∧ w'.cell? ⟨gb546, 1, none⟩ = some (.int .i64 a1_1) ∧ w'.cell? ⟨gb546, 2, none⟩ = some (.int .i64 a1_2) ∧ w'.cell? ⟨gb546, 3, none⟩ = some (.int .i64 a1_3) ∧ w'.cell? ⟨gb546, 4, none⟩ = some (.int .i64 a1_4) ∧ w'.cell? ⟨gb546, 5, none⟩ = some (.int .i64 a1_5) ∧ w'.cell? ⟨gb545, 0, none⟩ = some (.int .i64 a0_0) ∧ w'.cell? ⟨gb545, 1, none⟩ = some (.int .i64 a0_1) ∧ w'.cell? ⟨gb545, 2, none⟩ = some (.int .i64 a0_2) ∧ w'.cell? ⟨gb545, 3, none⟩ = some (.int .i64 a0_3) ∧ w'.cell? ⟨gb545, 4, none⟩ = some (.int .i64 a0_4) ∧ w'.cell? ⟨gb545, 5, none⟩ = some (.int .i64 a0_5)) ∧ (w'.heap[gb545]? = some (.cells #[.int .i64 a0_0, .int .i64 a0_1, .int .i64 a0_2, .int .i64 a0_3, .int .i64 a0_4, .int .i64 a0_5] 25 (0, 0))) ∧ (w'.heap[gb546]? = some (.cells #[.int .i64 a1_0, .int .i64 a1_1, .int .i64 a1_2, .int .i64 a1_3, .int .i64 a1_4, .int .i64 a1_5] 25 (0, 0))) ∧ (w'.heap[gb547]? = some (.cells #[.int .i64 0, .int .i64 0] 58 (0, 0))) ∧ (w'.heap[gb548]? = some (.cells #[.int .i64 0, .int .i64 0] 58 (0, 0))) ∧ (w'.heap[s_.1]? = some (.cells #[.int .i64 0, .int .i64 0] 89 (0, 0))) ∧ (w'.heap[s_.2]? = some (.cells #[.int .i64 0, .int .i64 0] 89 (0, 0))) ∧ (w.heap.size ≤ s_.1) ∧ (w.heap.size ≤ s_.1) ∧ (gb545 ≠ s_.1) ∧ (s_.1 ≠ gb545) ∧ (gb546 ≠ s_.1) ∧ (s_.1 ≠ gb546) ∧ (gb547 ≠ s_.1) ∧ (s_.1 ≠ gb547) ∧ (gb548 ≠ s_.1) ∧ (s_.1 ≠ gb548) ∧ (s_.2 ≠ s_.1) ∧ (s_.1 ≠ s_.2) ∧ (w.heap.size ≤ s_.2) ∧ (w.heap.size ≤ s_.2) ∧ (gb545 ≠ s_.2) ∧ (s_.2 ≠ gb545) ∧ (gb546 ≠ s_.2) ∧ (s_.2 ≠ gb546) ∧ (gb547 ≠ s_.2) ∧ (s_.2 ≠ gb547) ∧ (gb548 ≠ s_.2) ∧ (s_.2 ≠ gb548) ∧ (Below w.heap.size w w')) ?_ ?_
    rotate_left
    ·intro hJ2_14_15
     refine join_ (σ := Nat) 3 (bz 18 32767) (fun s_ => [(23, .agg #[.int .i64 t551, .int .i64 t552]), (7, .pointer (some ⟨s_, 0, none⟩))]) (fun s_ w' => (w'.cell? ⟨gb546, 0, none⟩ = some (.int .i64 a1_0) ∧ w'.cell? ⟨gb546, 1, none⟩ = some (.int .i64 a1_1) ∧ w'.cell? ⟨gb546, 2, none⟩ = some (.int .i64 a1_2) ∧ w'.cell? ⟨gb546, 3, none⟩ = some (.int .i64 a1_3) ∧ w'.cell? ⟨gb546, 4, none⟩ = some (.int .i64 a1_4) ∧ w'.cell? ⟨gb546, 5, none⟩ = some (.int .i64 a1_5) ∧ w'.cell? ⟨gb545, 0, none⟩ = some (.int .i64 a0_0) ∧ w'.cell? ⟨gb545, 1, none⟩ = some (.int .i64 a0_1) ∧ w'.cell? ⟨gb545, 2, none⟩ = some (.int .i64 a0_2) ∧ w'.cell? ⟨gb545, 3, none⟩ = some (.int .i64 a0_3) ∧ w'.cell? ⟨gb545, 4, none⟩ = some (.int .i64 a0_4) ∧ w'.cell? ⟨gb545, 5, none⟩ = some (.int .i64 a0_5)) ∧ (w'.heap[gb545]? = some (.cells #[.int .i64 a0_0, .int .i64 a0_1, .int .i64 a0_2, .int .i64 a0_3, .int .i64 a0_4, .int .i64 a0_5] 25 (0, 0))) ∧ (w'.heap[gb546]? = some (.cells #[.int .i64 a1_0, .int .i64 a1_1, .int .i64 a1_2, .int .i64 a1_3, .int .i64 a1_4, .int .i64 a1_5] 25 (0, 0))) ∧ (w'.heap[gb547]? = some (.cells #[.int .i64 0, .int .i64 0] 58 (0, 0))) ∧ (w'.heap[gb548]? = some (.cells #[.int .i64 0, .int .i64 0] 58 (0, 0))) ∧ (w'.heap[s_]? = some (.cells #[.int .i64 0, .int .i64 0] 89 (0, 0))) ∧ (w.heap.size ≤ s_) ∧ (w.heap.size ≤ s_) ∧ (gb545 ≠ s_) ∧ (s_ ≠ gb545) ∧ (gb546 ≠ s_) ∧ (s_ ≠ gb546) ∧ (gb547 ≠ s_) ∧ (s_ ≠ gb547) ∧ (gb548 ≠ s_) ∧ (s_ ≠ gb548) ∧ (Below w.heap.size w w')) ?_ ?_
     rotate_left
     ·intro hJ2_14
      refine join_ (σ := Nat) 3 (bz 18 49151) (fun s_ => [(23, .agg #[.int .i64 t551, .int .i64 t552]), (8, .pointer (some ⟨s_, 0, none⟩))]) (fun s_ w' => (w'.cell? ⟨gb546, 0, none⟩ = some (.int .i64 a1_0) ∧ w'.cell? ⟨gb546, 1, none⟩ = some (.int .i64 a1_1) ∧ w'.cell? ⟨gb546, 2, none⟩ = some (.int .i64 a1_2) ∧ w'.cell? ⟨gb546, 3, none⟩ = some (.int .i64 a1_3) ∧ w'.cell? ⟨gb546, 4, none⟩ = some (.int .i64 a1_4) ∧ w'.cell? ⟨gb546, 5, none⟩ = some (.int .i64 a1_5) ∧ w'.cell? ⟨gb545, 0, none⟩ = some (.int .i64 a0_0) ∧ w'.cell? ⟨gb545, 1, none⟩ = some (.int .i64 a0_1) ∧ w'.cell? ⟨gb545, 2, none⟩ = some (.int .i64 a0_2) ∧ w'.cell? ⟨gb545, 3, none⟩ = some (.int .i64 a0_3) ∧ w'.cell? ⟨gb545, 4, none⟩ = some (.int .i64 a0_4) ∧ w'.cell? ⟨gb545, 5, none⟩ = some (.int .i64 a0_5)) ∧ (w'.heap[gb545]? = some (.cells #[.int .i64 a0_0, .int .i64 a0_1, .int .i64 a0_2, .int .i64 a0_3, .int .i64 a0_4, .int .i64 a0_5] 25 (0, 0))) ∧ (w'.heap[gb546]? = some (.cells #[.int .i64 a1_0, .int .i64 a1_1, .int .i64 a1_2, .int .i64 a1_3, .int .i64 a1_4, .int .i64 a1_5] 25 (0, 0))) ∧ (w'.heap[gb547]? = some (.cells #[.int .i64 0, .int .i64 0] 58 (0, 0))) ∧ (w'.heap[gb548]? = some (.cells #[.int .i64 0, .int .i64 0] 58 (0, 0))) ∧ (w'.heap[s_]? = some (.cells #[.int .i64 0, .int .i64 0] 89 (0, 0))) ∧ (w.heap.size ≤ s_) ∧ (w.heap.size ≤ s_) ∧ (gb545 ≠ s_) ∧ (s_ ≠ gb545) ∧ (gb546 ≠ s_) ∧ (s_ ≠ gb546) ∧ (gb547 ≠ s_) ∧ (s_ ≠ gb547) ∧ (gb548 ≠ s_) ∧ (s_ ≠ gb548) ∧ (Below w.heap.size w w')) ?_ ?_
      rotate_left
      ·intro hJ2_15
       refine join_ (σ := Nat × Nat) 3 (bz 18 65531) (fun s_ => [(7, .pointer (some ⟨s_.1, 0, none⟩)), (8, .pointer (some ⟨s_.2, 0, none⟩))]) (fun s_ w' => (w'.cell? ⟨gb546, 0, none⟩ = some (.int .i64 a1_0) ∧ w'.cell? ⟨gb546, 1, none⟩ = some (.int .i64 a1_1) ∧ w'.cell? ⟨gb546, 2, none⟩ = some (.int .i64 a1_2) ∧ w'.cell? ⟨gb546, 3, none⟩ = some (.int .i64 a1_3) ∧ w'.cell? ⟨gb546, 4, none⟩ = some (.int .i64 a1_4) ∧ w'.cell? ⟨gb546, 5, none⟩ = some (.int .i64 a1_5) ∧ w'.cell? ⟨gb545, 0, none⟩ = some (.int .i64 a0_0) ∧ w'.cell? ⟨gb545, 1, none⟩ = some (.int .i64 a0_1) ∧ w'.cell? ⟨gb545, 2, none⟩ = some (.int .i64 a0_2) ∧ w'.cell? ⟨gb545, 3, none⟩ = some (.int .i64 a0_3) ∧ w'.cell? ⟨gb545, 4, none⟩ = some (.int .i64 a0_4) ∧ w'.cell? ⟨gb545, 5, none⟩ = some (.int .i64 a0_5)) ∧ (w'.heap[gb545]? = some (.cells #[.int .i64 a0_0, .int .i64 a0_1, .int .i64 a0_2, .int .i64 a0_3, .int .i64 a0_4, .int .i64 a0_5] 25 (0, 0))) ∧ (w'.heap[gb546]? = some (.cells #[.int .i64 a1_0, .int .i64 a1_1, .int .i64 a1_2, .int .i64 a1_3, .int .i64 a1_4, .int .i64 a1_5] 25 (0, 0))) ∧ (w'.heap[gb547]? = some (.cells #[.int .i64 0, .int .i64 0] 58 (0, 0))) ∧ (w'.heap[gb548]? = some (.cells #[.int .i64 0, .int .i64 0] 58 (0, 0))) ∧ (w'.heap[s_.1]? = some (.cells #[.int .i64 0, .int .i64 0] 89 (0, 0))) ∧ (w'.heap[s_.2]? = some (.cells #[.int .i64 0, .int .i64 0] 89 (0, 0))) ∧ (w.heap.size ≤ s_.1) ∧ (w.heap.size ≤ s_.1) ∧ (gb545 ≠ s_.1) ∧ (s_.1 ≠ gb545) ∧ (gb546 ≠ s_.1) ∧ (s_.1 ≠ gb546) ∧ (gb547 ≠ s_.1) ∧ (s_.1 ≠ gb547) ∧ (gb548 ≠ s_.1) ∧ (s_.1 ≠ gb548) ∧ (s_.2 ≠ s_.1) ∧ (s_.1 ≠ s_.2) ∧ (w.heap.size ≤ s_.2) ∧ (w.heap.size ≤ s_.2) ∧ (gb545 ≠ s_.2) ∧ (s_.2 ≠ gb545) ∧ (gb546 ≠ s_.2) ∧ (s_.2 ≠ gb546) ∧ (gb547 ≠ s_.2) ∧ (s_.2 ≠ gb547) ∧ (gb548 ≠ s_.2) ∧ (s_.2 ≠ gb548) ∧ (Below w.heap.size w w')) ?_ ?_
       rotate_left
       ·intro hJ14_15
        refine join_ (σ := Unit) 4 (bz 18 16383) (fun s_ => [(23, .agg #[.int .i64 t551, .int .i64 t552])]) (fun s_ w' => (w'.cell? ⟨gb546, 0, none⟩ = some (.int .i64 a1_0) ∧ w'.cell? ⟨gb546, 1, none⟩ = some (.int .i64 a1_1) ∧ w'.cell? ⟨gb546, 2, none⟩ = some (.int .i64 a1_2) ∧ w'.cell? ⟨gb546, 3, none⟩ = some (.int .i64 a1_3) ∧ w'.cell? ⟨gb546, 4, none⟩ = some (.int .i64 a1_4) ∧ w'.cell? ⟨gb546, 5, none⟩ = some (.int .i64 a1_5) ∧ w'.cell? ⟨gb545, 0, none⟩ = some (.int .i64 a0_0) ∧ w'.cell? ⟨gb545, 1, none⟩ = some (.int .i64 a0_1) ∧ w'.cell? ⟨gb545, 2, none⟩ = some (.int .i64 a0_2) ∧ w'.cell? ⟨gb545, 3, none⟩ = some (.int .i64 a0_3) ∧ w'.cell? ⟨gb545, 4, none⟩ = some (.int .i64 a0_4) ∧ w'.cell? ⟨gb545, 5, none⟩ = some (.int .i64 a0_5)) ∧ (w'.heap[gb545]? = some (.cells #[.int .i64 a0_0, .int .i64 a0_1, .int .i64 a0_2, .int .i64 a0_3, .int .i64 a0_4, .int .i64 a0_5] 25 (0, 0))) ∧ (w'.heap[gb546]? = some (.cells #[.int .i64 a1_0, .int .i64 a1_1, .int .i64 a1_2, .int .i64 a1_3, .int .i64 a1_4, .int .i64 a1_5] 25 (0, 0))) ∧ (w'.heap[gb547]? = some (.cells #[.int .i64 0, .int .i64 0] 58 (0, 0))) ∧ (w'.heap[gb548]? = some (.cells #[.int .i64 0, .int .i64 0] 58 (0, 0))) ∧ (Below w.heap.size w w')) ?_ ?_
        rotate_left
        ·intro hJ2
         refine join_ (σ := Nat) 4 (bz 18 32763) (fun s_ => [(7, .pointer (some ⟨s_, 0, none⟩))]) (fun s_ w' => (w'.cell? ⟨gb546, 0, none⟩ = some (.int .i64 a1_0) ∧ w'.cell? ⟨gb546, 1, none⟩ = some (.int .i64 a1_1) ∧ w'.cell? ⟨gb546, 2, none⟩ = some (.int .i64 a1_2) ∧ w'.cell? ⟨gb546, 3, none⟩ = some (.int .i64 a1_3) ∧ w'.cell? ⟨gb546, 4, none⟩ = some (.int .i64 a1_4) ∧ w'.cell? ⟨gb546, 5, none⟩ = some (.int .i64 a1_5) ∧ w'.cell? ⟨gb545, 0, none⟩ = some (.int .i64 a0_0) ∧ w'.cell? ⟨gb545, 1, none⟩ = some (.int .i64 a0_1) ∧ w'.cell? ⟨gb545, 2, none⟩ = some (.int .i64 a0_2) ∧ w'.cell? ⟨gb545, 3, none⟩ = some (.int .i64 a0_3) ∧ w'.cell? ⟨gb545, 4, none⟩ = some (.int .i64 a0_4) ∧ w'.cell? ⟨gb545, 5, none⟩ = some (.int .i64 a0_5)) ∧ (w'.heap[gb545]? = some (.cells #[.int .i64 a0_0, .int .i64 a0_1, .int .i64 a0_2, .int .i64 a0_3, .int .i64 a0_4, .int .i64 a0_5] 25 (0, 0))) ∧ (w'.heap[gb546]? = some (.cells #[.int .i64 a1_0, .int .i64 a1_1, .int .i64 a1_2, .int .i64 a1_3, .int .i64 a1_4, .int .i64 a1_5] 25 (0, 0))) ∧ (w'.heap[gb547]? = some (.cells #[.int .i64 0, .int .i64 0] 58 (0, 0))) ∧ (w'.heap[gb548]? = some (.cells #[.int .i64 0, .int .i64 0] 58 (0, 0))) ∧ (w'.heap[s_]? = some (.cells #[.int .i64 0, .int .i64 0] 89 (0, 0))) ∧ (w.heap.size ≤ s_) ∧ (w.heap.size ≤ s_) ∧ (gb545 ≠ s_) ∧ (s_ ≠ gb545) ∧ (gb546 ≠ s_) ∧ (s_ ≠ gb546) ∧ (gb547 ≠ s_) ∧ (s_ ≠ gb547) ∧ (gb548 ≠ s_) ∧ (s_ ≠ gb548) ∧ (Below w.heap.size w w')) ?_ ?_
         rotate_left
         ·intro hJ14
          refine join_ (σ := Nat) 4 (bz 18 49147) (fun s_ => [(8, .pointer (some ⟨s_, 0, none⟩))]) (fun s_ w' => (w'.cell? ⟨gb546, 0, none⟩ = some (.int .i64 a1_0) ∧ w'.cell? ⟨gb546, 1, none⟩ = some (.int .i64 a1_1) ∧ w'.cell? ⟨gb546, 2, none⟩ = some (.int .i64 a1_2) ∧ w'.cell? ⟨gb546, 3, none⟩ = some (.int .i64 a1_3) ∧ w'.cell? ⟨gb546, 4, none⟩ = some (.int .i64 a1_4) ∧ w'.cell? ⟨gb546, 5, none⟩ = some (.int .i64 a1_5) ∧ w'.cell? ⟨gb545, 0, none⟩ = some (.int .i64 a0_0) ∧ w'.cell? ⟨gb545, 1, none⟩ = some (.int .i64 a0_1) ∧ w'.cell? ⟨gb545, 2, none⟩ = some (.int .i64 a0_2) ∧ w'.cell? ⟨gb545, 3, none⟩ = some (.int .i64 a0_3) ∧ w'.cell? ⟨gb545, 4, none⟩ = some (.int .i64 a0_4) ∧ w'.cell? ⟨gb545, 5, none⟩ = some (.int .i64 a0_5)) ∧ (w'.heap[gb545]? = some (.cells #[.int .i64 a0_0, .int .i64 a0_1, .int .i64 a0_2, .int .i64 a0_3, .int .i64 a0_4, .int .i64 a0_5] 25 (0, 0))) ∧ (w'.heap[gb546]? = some (.cells #[.int .i64 a1_0, .int .i64 a1_1, .int .i64 a1_2, .int .i64 a1_3, .int .i64 a1_4, .int .i64 a1_5] 25 (0, 0))) ∧ (w'.heap[gb547]? = some (.cells #[.int .i64 0, .int .i64 0] 58 (0, 0))) ∧ (w'.heap[gb548]? = some (.cells #[.int .i64 0, .int .i64 0] 58 (0, 0))) ∧ (w'.heap[s_]? = some (.cells #[.int .i64 0, .int .i64 0] 89 (0, 0))) ∧ (w.heap.size ≤ s_) ∧ (w.heap.size ≤ s_) ∧ (gb545 ≠ s_) ∧ (s_ ≠ gb545) ∧ (gb546 ≠ s_) ∧ (s_ ≠ gb546) ∧ (gb547 ≠ s_) ∧ (s_ ≠ gb547) ∧ (gb548 ≠ s_) ∧ (s_ ≠ gb548) ∧ (Below w.heap.size w w')) ?_ ?_
          rotate_left
          ·intro hJ15
           refine three_ (i := 2) (j := 14) (k := 15) (Ni := some 23) (Nj := some 7) (Nk := some 8) (bz 18 16383) (bz 18 32763) (bz 18 49147) rfl rfl rfl rfl rfl rfl (three_of HT_.out (by kernel_rfl)) (by decide) (by decide) (by decide) (fun K hK => ?_) (fun K hK => ?_) (fun K hK => ?_)
           ·skip
            refine goes_ Try.func70 (by kernel_rfl) rfl #[.agg #[.int .i64 a1_0, .int .i64 a1_1, .int .i64 a1_2, .int .i64 a1_3, .int .i64 a1_4, .int .i64 a1_5], .agg #[.int .i64 a0_0, .int .i64 a0_1, .int .i64 a0_2, .int .i64 a0_3, .int .i64 a0_4, .int .i64 a0_5]] (by rfl) rfl rfl (by (try simp only [List.map_toArray, List.map_cons, List.map_nil]); first | done | rfl | (simp only [List.length_drop, List.length_take]; rfl)) ?_
            with_reducible refine (impl_bearing.calls a1_0 a1_1 a1_2 a1_3 a1_4 a1_5 a0_0 a0_1 a0_2 a0_3 a0_4 a0_5 t551 t552 _ A33.out).mono ?_
            rintro e w37 ⟨rfl, hb⟩
            refine ⟨_, rfl, ?_⟩
            replace BK545 := Aside0.mk (blk_below (g := gb545) (o := .cells #[.int .i64 a0_0, .int .i64 a0_1, .int .i64 a0_2, .int .i64 a0_3, .int .i64 a0_4, .int .i64 a0_5] 25 (0, 0)) (by (with_reducible repeat (first | refine z1 ?_ _ | refine z2 ?_ | refine z3 ?_ _)); exact BK545.out) hb)
            replace BK546 := Aside0.mk (blk_below (g := gb546) (o := .cells #[.int .i64 a1_0, .int .i64 a1_1, .int .i64 a1_2, .int .i64 a1_3, .int .i64 a1_4, .int .i64 a1_5] 25 (0, 0)) (by (with_reducible repeat (first | refine z1 ?_ _ | refine z2 ?_ | refine z3 ?_ _)); exact BK546.out) hb)
            replace BK547 := Aside0.mk (blk_below (g := gb547) (o := .cells #[.int .i64 0, .int .i64 0] 58 (0, 0)) (by (with_reducible repeat (first | refine z1 ?_ _ | refine z2 ?_ | refine z3 ?_ _)); exact BK547.out) hb)
            replace BK548 := Aside0.mk (blk_below (g := gb548) (o := .cells #[.int .i64 0, .int .i64 0] 58 (0, 0)) (by (with_reducible repeat (first | refine z1 ?_ _ | refine z2 ?_ | refine z3 ?_ _)); exact BK548.out) hb)
            replace HB := Aside0.mk (below_step (by repeat (first | (with_reducible first | exact HB.out | apply below_alloc | apply pw_below_drewN | apply below_drew1 | refine below_set ?_ GE545.out | refine below_set ?_ GE546.out | refine below_set ?_ GE547.out | refine below_set ?_ GE548.out) | exact HB.out)) hb)
            (try clear hb)
            (try clear hb2)
            (try clear hk)
            (try clear hi)
            refine hK.out _ _ ⟨(blk_cell BK546.out 0).trans rfl, (blk_cell BK546.out 1).trans rfl, (blk_cell BK546.out 2).trans rfl, (blk_cell BK546.out 3).trans rfl, (blk_cell BK546.out 4).trans rfl, (blk_cell BK546.out 5).trans rfl, (blk_cell BK545.out 0).trans rfl, (blk_cell BK545.out 1).trans rfl, (blk_cell BK545.out 2).trans rfl, (blk_cell BK545.out 3).trans rfl, (blk_cell BK545.out 4).trans rfl, (blk_cell BK545.out 5).trans rfl⟩ (fun hHeld => ?_)
            clear hK K
            refine norm_ (a' := ?_) ?_ ?_
            rotate_left
            ·show Act.put _ (some 23) _ = _
             simp only [Act.put, y1, y2, y3, i64_w, i32_w]
             rfl
            exact norm_ (by first | (simp only [putAll, Act.put, y1, y2, y3]; done) | (simp only [putAll, Act.put, y1, y2, y3]; rfl)) (hJ2 () _ ⟨hHeld, (by (with_reducible repeat (first | refine z1 ?_ _ | refine z2 ?_ | refine z3 ?_ _)); exact BK545.out), (by (with_reducible repeat (first | refine z1 ?_ _ | refine z2 ?_ | refine z3 ?_ _)); exact BK546.out), (by (with_reducible repeat (first | refine z1 ?_ _ | refine z2 ?_ | refine z3 ?_ _)); exact BK547.out), (by (with_reducible repeat (first | refine z1 ?_ _ | refine z2 ?_ | refine z3 ?_ _)); exact BK548.out), (by repeat (first | (with_reducible first | exact HB.out | apply below_alloc | apply pw_below_drewN | apply below_drew1 | refine below_set ?_ GE545.out | refine below_set ?_ GE546.out | refine below_set ?_ GE547.out | refine below_set ?_ GE548.out) | exact HB.out))⟩)
           ·skip
            refine box_step ?hg (N := 7) ?hd (cs := #[.int .i64 0, .int .i64 0]) (t := 89) ?hr ?_; (case hd => rfl); (case hg => rfl); (case hr => first | (go_simp; done) | (go_simp; rfl))
            intro gb553 hg w37 hbox hb
            replace BK553 := Aside0.mk (hbox)
            replace GW553 := Aside0.mk ((by rw [hg]; exact (below_size (by repeat (first | (with_reducible first | exact HB.out | apply below_alloc | apply pw_below_drewN | apply below_drew1 | refine below_set ?_ GE545.out | refine below_set ?_ GE546.out | refine below_set ?_ GE547.out | refine below_set ?_ GE548.out) | exact HB.out))) : w.heap.size ≤ gb553))
            replace GE553 := Aside0.mk ((by rw [hg]; exact (below_size (by repeat (first | (with_reducible first | exact HB.out | apply below_alloc | apply pw_below_drewN | apply below_drew1 | refine below_set ?_ GE545.out | refine below_set ?_ GE546.out | refine below_set ?_ GE547.out | refine below_set ?_ GE548.out) | exact HB.out))) : w.heap.size ≤ gb553))
            replace HB := Aside0.mk (below_step (by repeat (first | (with_reducible first | exact HB.out | apply below_alloc | apply pw_below_drewN | apply below_drew1 | refine below_set ?_ GE545.out | refine below_set ?_ GE546.out | refine below_set ?_ GE547.out | refine below_set ?_ GE548.out) | exact HB.out)) hb)
            replace NB545_553 := Aside0.mk ((by rw [hg]; exact Nat.ne_of_lt (blk_lt (g := gb545) (o := .cells #[.int .i64 a0_0, .int .i64 a0_1, .int .i64 a0_2, .int .i64 a0_3, .int .i64 a0_4, .int .i64 a0_5] 25 (0, 0)) (by (with_reducible repeat (first | refine z1 ?_ _ | refine z2 ?_ | refine z3 ?_ _)); exact BK545.out)) : gb545 ≠ gb553))
            replace NB553_545 := Aside0.mk ((by rw [hg]; exact Nat.ne_of_gt (blk_lt (g := gb545) (o := .cells #[.int .i64 a0_0, .int .i64 a0_1, .int .i64 a0_2, .int .i64 a0_3, .int .i64 a0_4, .int .i64 a0_5] 25 (0, 0)) (by (with_reducible repeat (first | refine z1 ?_ _ | refine z2 ?_ | refine z3 ?_ _)); exact BK545.out)) : gb553 ≠ gb545))
            replace BK545 := Aside0.mk (blk_below (g := gb545) (o := .cells #[.int .i64 a0_0, .int .i64 a0_1, .int .i64 a0_2, .int .i64 a0_3, .int .i64 a0_4, .int .i64 a0_5] 25 (0, 0)) (by (with_reducible repeat (first | refine z1 ?_ _ | refine z2 ?_ | refine z3 ?_ _)); exact BK545.out) hb)
            replace NB546_553 := Aside0.mk ((by rw [hg]; exact Nat.ne_of_lt (blk_lt (g := gb546) (o := .cells #[.int .i64 a1_0, .int .i64 a1_1, .int .i64 a1_2, .int .i64 a1_3, .int .i64 a1_4, .int .i64 a1_5] 25 (0, 0)) (by (with_reducible repeat (first | refine z1 ?_ _ | refine z2 ?_ | refine z3 ?_ _)); exact BK546.out)) : gb546 ≠ gb553))
            replace NB553_546 := Aside0.mk ((by rw [hg]; exact Nat.ne_of_gt (blk_lt (g := gb546) (o := .cells #[.int .i64 a1_0, .int .i64 a1_1, .int .i64 a1_2, .int .i64 a1_3, .int .i64 a1_4, .int .i64 a1_5] 25 (0, 0)) (by (with_reducible repeat (first | refine z1 ?_ _ | refine z2 ?_ | refine z3 ?_ _)); exact BK546.out)) : gb553 ≠ gb546))
            replace BK546 := Aside0.mk (blk_below (g := gb546) (o := .cells #[.int .i64 a1_0, .int .i64 a1_1, .int .i64 a1_2, .int .i64 a1_3, .int .i64 a1_4, .int .i64 a1_5] 25 (0, 0)) (by (with_reducible repeat (first | refine z1 ?_ _ | refine z2 ?_ | refine z3 ?_ _)); exact BK546.out) hb)
            replace NB547_553 := Aside0.mk ((by rw [hg]; exact Nat.ne_of_lt (blk_lt (g := gb547) (o := .cells #[.int .i64 0, .int .i64 0] 58 (0, 0)) (by (with_reducible repeat (first | refine z1 ?_ _ | refine z2 ?_ | refine z3 ?_ _)); exact BK547.out)) : gb547 ≠ gb553))
            replace NB553_547 := Aside0.mk ((by rw [hg]; exact Nat.ne_of_gt (blk_lt (g := gb547) (o := .cells #[.int .i64 0, .int .i64 0] 58 (0, 0)) (by (with_reducible repeat (first | refine z1 ?_ _ | refine z2 ?_ | refine z3 ?_ _)); exact BK547.out)) : gb553 ≠ gb547))
            replace BK547 := Aside0.mk (blk_below (g := gb547) (o := .cells #[.int .i64 0, .int .i64 0] 58 (0, 0)) (by (with_reducible repeat (first | refine z1 ?_ _ | refine z2 ?_ | refine z3 ?_ _)); exact BK547.out) hb)
            replace NB548_553 := Aside0.mk ((by rw [hg]; exact Nat.ne_of_lt (blk_lt (g := gb548) (o := .cells #[.int .i64 0, .int .i64 0] 58 (0, 0)) (by (with_reducible repeat (first | refine z1 ?_ _ | refine z2 ?_ | refine z3 ?_ _)); exact BK548.out)) : gb548 ≠ gb553))
            replace NB553_548 := Aside0.mk ((by rw [hg]; exact Nat.ne_of_gt (blk_lt (g := gb548) (o := .cells #[.int .i64 0, .int .i64 0] 58 (0, 0)) (by (with_reducible repeat (first | refine z1 ?_ _ | refine z2 ?_ | refine z3 ?_ _)); exact BK548.out)) : gb553 ≠ gb548))
            replace BK548 := Aside0.mk (blk_below (g := gb548) (o := .cells #[.int .i64 0, .int .i64 0] 58 (0, 0)) (by (with_reducible repeat (first | refine z1 ?_ _ | refine z2 ?_ | refine z3 ?_ _)); exact BK548.out) hb)
            clear hb hbox hg
            refine hK.out _ _ ⟨(blk_cell BK546.out 0).trans rfl, (blk_cell BK546.out 1).trans rfl, (blk_cell BK546.out 2).trans rfl, (blk_cell BK546.out 3).trans rfl, (blk_cell BK546.out 4).trans rfl, (blk_cell BK546.out 5).trans rfl, (blk_cell BK545.out 0).trans rfl, (blk_cell BK545.out 1).trans rfl, (blk_cell BK545.out 2).trans rfl, (blk_cell BK545.out 3).trans rfl, (blk_cell BK545.out 4).trans rfl, (blk_cell BK545.out 5).trans rfl⟩ (fun hHeld => ?_)
            clear hK K
            refine norm_ (a' := ?_) ?_ ?_
            rotate_left
            ·show Act.put _ (some 7) _ = _
             simp only [Act.put, y1, y2, y3, i64_w, i32_w]
             rfl
            exact norm_ (by first | (simp only [putAll, Act.put, y1, y2, y3]; done) | (simp only [putAll, Act.put, y1, y2, y3]; rfl)) (hJ14 (gb553) _ ⟨hHeld, (by (with_reducible repeat (first | refine z1 ?_ _ | refine z2 ?_ | refine z3 ?_ _)); exact BK545.out), (by (with_reducible repeat (first | refine z1 ?_ _ | refine z2 ?_ | refine z3 ?_ _)); exact BK546.out), (by (with_reducible repeat (first | refine z1 ?_ _ | refine z2 ?_ | refine z3 ?_ _)); exact BK547.out), (by (with_reducible repeat (first | refine z1 ?_ _ | refine z2 ?_ | refine z3 ?_ _)); exact BK548.out), (by (with_reducible repeat (first | refine z1 ?_ _ | refine z2 ?_ | refine z3 ?_ _)); exact BK553.out), GW553.out, GE553.out, NB545_553.out, NB553_545.out, NB546_553.out, NB553_546.out, NB547_553.out, NB553_547.out, NB548_553.out, NB553_548.out, (by repeat (first | (with_reducible first | exact HB.out | apply below_alloc | apply pw_below_drewN | apply below_drew1 | refine below_set ?_ GE545.out | refine below_set ?_ GE546.out | refine below_set ?_ GE547.out | refine below_set ?_ GE548.out | refine below_set ?_ GE553.out) | exact HB.out))⟩)
           ·skip
            refine box_step ?hg (N := 8) ?hd (cs := #[.int .i64 0, .int .i64 0]) (t := 89) ?hr ?_; (case hd => rfl); (case hg => rfl); (case hr => first | (go_simp; done) | (go_simp; rfl))
            intro gb554 hg w37 hbox hb
            replace BK554 := Aside0.mk (hbox)
            replace GW554 := Aside0.mk ((by rw [hg]; exact (below_size (by repeat (first | (with_reducible first | exact HB.out | apply below_alloc | apply pw_below_drewN | apply below_drew1 | refine below_set ?_ GE545.out | refine below_set ?_ GE546.out | refine below_set ?_ GE547.out | refine below_set ?_ GE548.out) | exact HB.out))) : w.heap.size ≤ gb554))
            replace GE554 := Aside0.mk ((by rw [hg]; exact (below_size (by repeat (first | (with_reducible first | exact HB.out | apply below_alloc | apply pw_below_drewN | apply below_drew1 | refine below_set ?_ GE545.out | refine below_set ?_ GE546.out | refine below_set ?_ GE547.out | refine below_set ?_ GE548.out) | exact HB.out))) : w.heap.size ≤ gb554))
            replace HB := Aside0.mk (below_step (by repeat (first | (with_reducible first | exact HB.out | apply below_alloc | apply pw_below_drewN | apply below_drew1 | refine below_set ?_ GE545.out | refine below_set ?_ GE546.out | refine below_set ?_ GE547.out | refine below_set ?_ GE548.out) | exact HB.out)) hb)
            replace NB545_554 := Aside0.mk ((by rw [hg]; exact Nat.ne_of_lt (blk_lt (g := gb545) (o := .cells #[.int .i64 a0_0, .int .i64 a0_1, .int .i64 a0_2, .int .i64 a0_3, .int .i64 a0_4, .int .i64 a0_5] 25 (0, 0)) (by (with_reducible repeat (first | refine z1 ?_ _ | refine z2 ?_ | refine z3 ?_ _)); exact BK545.out)) : gb545 ≠ gb554))
            replace NB554_545 := Aside0.mk ((by rw [hg]; exact Nat.ne_of_gt (blk_lt (g := gb545) (o := .cells #[.int .i64 a0_0, .int .i64 a0_1, .int .i64 a0_2, .int .i64 a0_3, .int .i64 a0_4, .int .i64 a0_5] 25 (0, 0)) (by (with_reducible repeat (first | refine z1 ?_ _ | refine z2 ?_ | refine z3 ?_ _)); exact BK545.out)) : gb554 ≠ gb545))
            replace BK545 := Aside0.mk (blk_below (g := gb545) (o := .cells #[.int .i64 a0_0, .int .i64 a0_1, .int .i64 a0_2, .int .i64 a0_3, .int .i64 a0_4, .int .i64 a0_5] 25 (0, 0)) (by (with_reducible repeat (first | refine z1 ?_ _ | refine z2 ?_ | refine z3 ?_ _)); exact BK545.out) hb)
            replace NB546_554 := Aside0.mk ((by rw [hg]; exact Nat.ne_of_lt (blk_lt (g := gb546) (o := .cells #[.int .i64 a1_0, .int .i64 a1_1, .int .i64 a1_2, .int .i64 a1_3, .int .i64 a1_4, .int .i64 a1_5] 25 (0, 0)) (by (with_reducible repeat (first | refine z1 ?_ _ | refine z2 ?_ | refine z3 ?_ _)); exact BK546.out)) : gb546 ≠ gb554))
            replace NB554_546 := Aside0.mk ((by rw [hg]; exact Nat.ne_of_gt (blk_lt (g := gb546) (o := .cells #[.int .i64 a1_0, .int .i64 a1_1, .int .i64 a1_2, .int .i64 a1_3, .int .i64 a1_4, .int .i64 a1_5] 25 (0, 0)) (by (with_reducible repeat (first | refine z1 ?_ _ | refine z2 ?_ | refine z3 ?_ _)); exact BK546.out)) : gb554 ≠ gb546))
            replace BK546 := Aside0.mk (blk_below (g := gb546) (o := .cells #[.int .i64 a1_0, .int .i64 a1_1, .int .i64 a1_2, .int .i64 a1_3, .int .i64 a1_4, .int .i64 a1_5] 25 (0, 0)) (by (with_reducible repeat (first | refine z1 ?_ _ | refine z2 ?_ | refine z3 ?_ _)); exact BK546.out) hb)
            replace NB547_554 := Aside0.mk ((by rw [hg]; exact Nat.ne_of_lt (blk_lt (g := gb547) (o := .cells #[.int .i64 0, .int .i64 0] 58 (0, 0)) (by (with_reducible repeat (first | refine z1 ?_ _ | refine z2 ?_ | refine z3 ?_ _)); exact BK547.out)) : gb547 ≠ gb554))
            replace NB554_547 := Aside0.mk ((by rw [hg]; exact Nat.ne_of_gt (blk_lt (g := gb547) (o := .cells #[.int .i64 0, .int .i64 0] 58 (0, 0)) (by (with_reducible repeat (first | refine z1 ?_ _ | refine z2 ?_ | refine z3 ?_ _)); exact BK547.out)) : gb554 ≠ gb547))
            replace BK547 := Aside0.mk (blk_below (g := gb547) (o := .cells #[.int .i64 0, .int .i64 0] 58 (0, 0)) (by (with_reducible repeat (first | refine z1 ?_ _ | refine z2 ?_ | refine z3 ?_ _)); exact BK547.out) hb)
            replace NB548_554 := Aside0.mk ((by rw [hg]; exact Nat.ne_of_lt (blk_lt (g := gb548) (o := .cells #[.int .i64 0, .int .i64 0] 58 (0, 0)) (by (with_reducible repeat (first | refine z1 ?_ _ | refine z2 ?_ | refine z3 ?_ _)); exact BK548.out)) : gb548 ≠ gb554))
            replace NB554_548 := Aside0.mk ((by rw [hg]; exact Nat.ne_of_gt (blk_lt (g := gb548) (o := .cells #[.int .i64 0, .int .i64 0] 58 (0, 0)) (by (with_reducible repeat (first | refine z1 ?_ _ | refine z2 ?_ | refine z3 ?_ _)); exact BK548.out)) : gb554 ≠ gb548))
            replace BK548 := Aside0.mk (blk_below (g := gb548) (o := .cells #[.int .i64 0, .int .i64 0] 58 (0, 0)) (by (with_reducible repeat (first | refine z1 ?_ _ | refine z2 ?_ | refine z3 ?_ _)); exact BK548.out) hb)
            clear hb hbox hg
            refine hK.out _ _ ⟨(blk_cell BK546.out 0).trans rfl, (blk_cell BK546.out 1).trans rfl, (blk_cell BK546.out 2).trans rfl, (blk_cell BK546.out 3).trans rfl, (blk_cell BK546.out 4).trans rfl, (blk_cell BK546.out 5).trans rfl, (blk_cell BK545.out 0).trans rfl, (blk_cell BK545.out 1).trans rfl, (blk_cell BK545.out 2).trans rfl, (blk_cell BK545.out 3).trans rfl, (blk_cell BK545.out 4).trans rfl, (blk_cell BK545.out 5).trans rfl⟩ (fun hHeld => ?_)
            clear hK K
            refine norm_ (a' := ?_) ?_ ?_
            rotate_left
            ·show Act.put _ (some 8) _ = _
             simp only [Act.put, y1, y2, y3, i64_w, i32_w]
             rfl
            exact norm_ (by first | (simp only [putAll, Act.put, y1, y2, y3]; done) | (simp only [putAll, Act.put, y1, y2, y3]; rfl)) (hJ15 (gb554) _ ⟨hHeld, (by (with_reducible repeat (first | refine z1 ?_ _ | refine z2 ?_ | refine z3 ?_ _)); exact BK545.out), (by (with_reducible repeat (first | refine z1 ?_ _ | refine z2 ?_ | refine z3 ?_ _)); exact BK546.out), (by (with_reducible repeat (first | refine z1 ?_ _ | refine z2 ?_ | refine z3 ?_ _)); exact BK547.out), (by (with_reducible repeat (first | refine z1 ?_ _ | refine z2 ?_ | refine z3 ?_ _)); exact BK548.out), (by (with_reducible repeat (first | refine z1 ?_ _ | refine z2 ?_ | refine z3 ?_ _)); exact BK554.out), GW554.out, GE554.out, NB545_554.out, NB554_545.out, NB546_554.out, NB554_546.out, NB547_554.out, NB554_547.out, NB548_554.out, NB554_548.out, (by repeat (first | (with_reducible first | exact HB.out | apply below_alloc | apply pw_below_drewN | apply below_drew1 | refine below_set ?_ GE545.out | refine below_set ?_ GE546.out | refine below_set ?_ GE547.out | refine below_set ?_ GE548.out | refine below_set ?_ GE554.out) | exact HB.out))⟩)
          ·skip
           rintro gb554 w38 ⟨hS_, h0_, h1_, h2_, h3_, h4_, h5_, h6_, h7_, h8_, h9_, h10_, h11_, h12_, h13_, h14_, h15_⟩
           replace BK545 : Aside0 (w38.heap[gb545]? = some (.cells #[.int .i64 a0_0, .int .i64 a0_1, .int .i64 a0_2, .int .i64 a0_3, .int .i64 a0_4, .int .i64 a0_5] 25 (0, 0))) := ⟨h0_⟩
           replace BK546 : Aside0 (w38.heap[gb546]? = some (.cells #[.int .i64 a1_0, .int .i64 a1_1, .int .i64 a1_2, .int .i64 a1_3, .int .i64 a1_4, .int .i64 a1_5] 25 (0, 0))) := ⟨h1_⟩
           replace BK547 : Aside0 (w38.heap[gb547]? = some (.cells #[.int .i64 0, .int .i64 0] 58 (0, 0))) := ⟨h2_⟩
           replace BK548 : Aside0 (w38.heap[gb548]? = some (.cells #[.int .i64 0, .int .i64 0] 58 (0, 0))) := ⟨h3_⟩
           replace BK554 : Aside0 (w38.heap[gb554]? = some (.cells #[.int .i64 0, .int .i64 0] 89 (0, 0))) := ⟨h4_⟩
           replace GW554 : Aside0 (w.heap.size ≤ gb554) := ⟨h5_⟩
           replace GE554 : Aside0 (w.heap.size ≤ gb554) := ⟨h6_⟩
           replace NB545_554 : Aside0 (gb545 ≠ gb554) := ⟨h7_⟩
           replace NB554_545 : Aside0 (gb554 ≠ gb545) := ⟨h8_⟩
           replace NB546_554 : Aside0 (gb546 ≠ gb554) := ⟨h9_⟩
           replace NB554_546 : Aside0 (gb554 ≠ gb546) := ⟨h10_⟩
           replace NB547_554 : Aside0 (gb547 ≠ gb554) := ⟨h11_⟩
           replace NB554_547 : Aside0 (gb554 ≠ gb547) := ⟨h12_⟩
           replace NB548_554 : Aside0 (gb548 ≠ gb554) := ⟨h13_⟩
           replace NB554_548 : Aside0 (gb554 ≠ gb548) := ⟨h14_⟩
           replace HB : Aside0 (Below w.heap.size w w38) := ⟨h15_⟩
           have hHeld : w38.cell? ⟨gb546, 0, none⟩ = some (.int .i64 a1_0) ∧ w38.cell? ⟨gb546, 1, none⟩ = some (.int .i64 a1_1) ∧ w38.cell? ⟨gb546, 2, none⟩ = some (.int .i64 a1_2) ∧ w38.cell? ⟨gb546, 3, none⟩ = some (.int .i64 a1_3) ∧ w38.cell? ⟨gb546, 4, none⟩ = some (.int .i64 a1_4) ∧ w38.cell? ⟨gb546, 5, none⟩ = some (.int .i64 a1_5) ∧ w38.cell? ⟨gb545, 0, none⟩ = some (.int .i64 a0_0) ∧ w38.cell? ⟨gb545, 1, none⟩ = some (.int .i64 a0_1) ∧ w38.cell? ⟨gb545, 2, none⟩ = some (.int .i64 a0_2) ∧ w38.cell? ⟨gb545, 3, none⟩ = some (.int .i64 a0_3) ∧ w38.cell? ⟨gb545, 4, none⟩ = some (.int .i64 a0_4) ∧ w38.cell? ⟨gb545, 5, none⟩ = some (.int .i64 a0_5) := hS_
           refine norm_ (a' := ?_) ?_ ?_
           rotate_left
           ·simp only [putAll, Act.put, y1, y2, y3]
            rfl
           refine two_ (i := 2) (j := 14) (Ni := some 23) (Nj := some 7) (bz 18 49151) (bz 18 65531) rfl rfl rfl rfl (two_of HT_.out (by kernel_rfl)) (by decide) (by decide) (fun K hK => ?_) (fun K hK => ?_)
           ·skip
            refine goes_ Try.func70 (by kernel_rfl) rfl #[.agg #[.int .i64 a1_0, .int .i64 a1_1, .int .i64 a1_2, .int .i64 a1_3, .int .i64 a1_4, .int .i64 a1_5], .agg #[.int .i64 a0_0, .int .i64 a0_1, .int .i64 a0_2, .int .i64 a0_3, .int .i64 a0_4, .int .i64 a0_5]] (by rfl) rfl rfl (by (try simp only [List.map_toArray, List.map_cons, List.map_nil]); first | done | rfl | (simp only [List.length_drop, List.length_take]; rfl)) ?_
            with_reducible refine (impl_bearing.calls a1_0 a1_1 a1_2 a1_3 a1_4 a1_5 a0_0 a0_1 a0_2 a0_3 a0_4 a0_5 t551 t552 _ A33.out).mono ?_
            rintro e w39 ⟨rfl, hb⟩
            refine ⟨_, rfl, ?_⟩
            replace BK545 := Aside0.mk (blk_below (g := gb545) (o := .cells #[.int .i64 a0_0, .int .i64 a0_1, .int .i64 a0_2, .int .i64 a0_3, .int .i64 a0_4, .int .i64 a0_5] 25 (0, 0)) (by (with_reducible repeat (first | refine z1 ?_ _ | refine z2 ?_ | refine z3 ?_ _)); exact BK545.out) hb)
            replace BK546 := Aside0.mk (blk_below (g := gb546) (o := .cells #[.int .i64 a1_0, .int .i64 a1_1, .int .i64 a1_2, .int .i64 a1_3, .int .i64 a1_4, .int .i64 a1_5] 25 (0, 0)) (by (with_reducible repeat (first | refine z1 ?_ _ | refine z2 ?_ | refine z3 ?_ _)); exact BK546.out) hb)
            replace BK547 := Aside0.mk (blk_below (g := gb547) (o := .cells #[.int .i64 0, .int .i64 0] 58 (0, 0)) (by (with_reducible repeat (first | refine z1 ?_ _ | refine z2 ?_ | refine z3 ?_ _)); exact BK547.out) hb)
            replace BK548 := Aside0.mk (blk_below (g := gb548) (o := .cells #[.int .i64 0, .int .i64 0] 58 (0, 0)) (by (with_reducible repeat (first | refine z1 ?_ _ | refine z2 ?_ | refine z3 ?_ _)); exact BK548.out) hb)
            replace BK554 := Aside0.mk (blk_below (g := gb554) (o := .cells #[.int .i64 0, .int .i64 0] 89 (0, 0)) (by (with_reducible repeat (first | refine z1 ?_ _ | refine z2 ?_ | refine z3 ?_ _)); exact BK554.out) hb)
            replace HB := Aside0.mk (below_step (by repeat (first | (with_reducible first | exact HB.out | apply below_alloc | apply pw_below_drewN | apply below_drew1 | refine below_set ?_ GE545.out | refine below_set ?_ GE546.out | refine below_set ?_ GE547.out | refine below_set ?_ GE548.out | refine below_set ?_ GE554.out) | exact HB.out)) hb)
            (try clear hb)
            (try clear hb2)
            (try clear hk)
            (try clear hi)
            refine hK.out _ _ ⟨(blk_cell BK546.out 0).trans rfl, (blk_cell BK546.out 1).trans rfl, (blk_cell BK546.out 2).trans rfl, (blk_cell BK546.out 3).trans rfl, (blk_cell BK546.out 4).trans rfl, (blk_cell BK546.out 5).trans rfl, (blk_cell BK545.out 0).trans rfl, (blk_cell BK545.out 1).trans rfl, (blk_cell BK545.out 2).trans rfl, (blk_cell BK545.out 3).trans rfl, (blk_cell BK545.out 4).trans rfl, (blk_cell BK545.out 5).trans rfl⟩ (fun hHeld => ?_)
            clear hK K
            refine norm_ (a' := ?_) ?_ ?_
            rotate_left
            ·show Act.put _ (some 23) _ = _
             simp only [Act.put, y1, y2, y3, i64_w, i32_w]
             rfl
            exact norm_ (by first | (simp only [putAll, Act.put, y1, y2, y3]; done) | (simp only [putAll, Act.put, y1, y2, y3]; rfl)) (hJ2_15 (gb554) _ ⟨hHeld, (by (with_reducible repeat (first | refine z1 ?_ _ | refine z2 ?_ | refine z3 ?_ _)); exact BK545.out), (by (with_reducible repeat (first | refine z1 ?_ _ | refine z2 ?_ | refine z3 ?_ _)); exact BK546.out), (by (with_reducible repeat (first | refine z1 ?_ _ | refine z2 ?_ | refine z3 ?_ _)); exact BK547.out), (by (with_reducible repeat (first | refine z1 ?_ _ | refine z2 ?_ | refine z3 ?_ _)); exact BK548.out), (by (with_reducible repeat (first | refine z1 ?_ _ | refine z2 ?_ | refine z3 ?_ _)); exact BK554.out), GW554.out, GE554.out, NB545_554.out, NB554_545.out, NB546_554.out, NB554_546.out, NB547_554.out, NB554_547.out, NB548_554.out, NB554_548.out, (by repeat (first | (with_reducible first | exact HB.out | apply below_alloc | apply pw_below_drewN | apply below_drew1 | refine below_set ?_ GE545.out | refine below_set ?_ GE546.out | refine below_set ?_ GE547.out | refine below_set ?_ GE548.out | refine below_set ?_ GE554.out) | exact HB.out))⟩)
           ·skip
            refine box_step ?hg (N := 7) ?hd (cs := #[.int .i64 0, .int .i64 0]) (t := 89) ?hr ?_; (case hd => rfl); (case hg => rfl); (case hr => first | (go_simp; done) | (go_simp; rfl))
            intro gb553 hg w39 hbox hb
            replace BK553 := Aside0.mk (hbox)
            replace GW553 := Aside0.mk ((by rw [hg]; exact (below_size (by repeat (first | (with_reducible first | exact HB.out | apply below_alloc | apply pw_below_drewN | apply below_drew1 | refine below_set ?_ GE545.out | refine below_set ?_ GE546.out | refine below_set ?_ GE547.out | refine below_set ?_ GE548.out | refine below_set ?_ GE554.out) | exact HB.out))) : w.heap.size ≤ gb553))
            replace GE553 := Aside0.mk ((by rw [hg]; exact (below_size (by repeat (first | (with_reducible first | exact HB.out | apply below_alloc | apply pw_below_drewN | apply below_drew1 | refine below_set ?_ GE545.out | refine below_set ?_ GE546.out | refine below_set ?_ GE547.out | refine below_set ?_ GE548.out | refine below_set ?_ GE554.out) | exact HB.out))) : w.heap.size ≤ gb553))
            replace HB := Aside0.mk (below_step (by repeat (first | (with_reducible first | exact HB.out | apply below_alloc | apply pw_below_drewN | apply below_drew1 | refine below_set ?_ GE545.out | refine below_set ?_ GE546.out | refine below_set ?_ GE547.out | refine below_set ?_ GE548.out | refine below_set ?_ GE554.out) | exact HB.out)) hb)
            replace NB545_553 := Aside0.mk ((by rw [hg]; exact Nat.ne_of_lt (blk_lt (g := gb545) (o := .cells #[.int .i64 a0_0, .int .i64 a0_1, .int .i64 a0_2, .int .i64 a0_3, .int .i64 a0_4, .int .i64 a0_5] 25 (0, 0)) (by (with_reducible repeat (first | refine z1 ?_ _ | refine z2 ?_ | refine z3 ?_ _)); exact BK545.out)) : gb545 ≠ gb553))
            replace NB553_545 := Aside0.mk ((by rw [hg]; exact Nat.ne_of_gt (blk_lt (g := gb545) (o := .cells #[.int .i64 a0_0, .int .i64 a0_1, .int .i64 a0_2, .int .i64 a0_3, .int .i64 a0_4, .int .i64 a0_5] 25 (0, 0)) (by (with_reducible repeat (first | refine z1 ?_ _ | refine z2 ?_ | refine z3 ?_ _)); exact BK545.out)) : gb553 ≠ gb545))
            replace BK545 := Aside0.mk (blk_below (g := gb545) (o := .cells #[.int .i64 a0_0, .int .i64 a0_1, .int .i64 a0_2, .int .i64 a0_3, .int .i64 a0_4, .int .i64 a0_5] 25 (0, 0)) (by (with_reducible repeat (first | refine z1 ?_ _ | refine z2 ?_ | refine z3 ?_ _)); exact BK545.out) hb)
            replace NB546_553 := Aside0.mk ((by rw [hg]; exact Nat.ne_of_lt (blk_lt (g := gb546) (o := .cells #[.int .i64 a1_0, .int .i64 a1_1, .int .i64 a1_2, .int .i64 a1_3, .int .i64 a1_4, .int .i64 a1_5] 25 (0, 0)) (by (with_reducible repeat (first | refine z1 ?_ _ | refine z2 ?_ | refine z3 ?_ _)); exact BK546.out)) : gb546 ≠ gb553))
            replace NB553_546 := Aside0.mk ((by rw [hg]; exact Nat.ne_of_gt (blk_lt (g := gb546) (o := .cells #[.int .i64 a1_0, .int .i64 a1_1, .int .i64 a1_2, .int .i64 a1_3, .int .i64 a1_4, .int .i64 a1_5] 25 (0, 0)) (by (with_reducible repeat (first | refine z1 ?_ _ | refine z2 ?_ | refine z3 ?_ _)); exact BK546.out)) : gb553 ≠ gb546))
            replace BK546 := Aside0.mk (blk_below (g := gb546) (o := .cells #[.int .i64 a1_0, .int .i64 a1_1, .int .i64 a1_2, .int .i64 a1_3, .int .i64 a1_4, .int .i64 a1_5] 25 (0, 0)) (by (with_reducible repeat (first | refine z1 ?_ _ | refine z2 ?_ | refine z3 ?_ _)); exact BK546.out) hb)
            replace NB547_553 := Aside0.mk ((by rw [hg]; exact Nat.ne_of_lt (blk_lt (g := gb547) (o := .cells #[.int .i64 0, .int .i64 0] 58 (0, 0)) (by (with_reducible repeat (first | refine z1 ?_ _ | refine z2 ?_ | refine z3 ?_ _)); exact BK547.out)) : gb547 ≠ gb553))
            replace NB553_547 := Aside0.mk ((by rw [hg]; exact Nat.ne_of_gt (blk_lt (g := gb547) (o := .cells #[.int .i64 0, .int .i64 0] 58 (0, 0)) (by (with_reducible repeat (first | refine z1 ?_ _ | refine z2 ?_ | refine z3 ?_ _)); exact BK547.out)) : gb553 ≠ gb547))
            replace BK547 := Aside0.mk (blk_below (g := gb547) (o := .cells #[.int .i64 0, .int .i64 0] 58 (0, 0)) (by (with_reducible repeat (first | refine z1 ?_ _ | refine z2 ?_ | refine z3 ?_ _)); exact BK547.out) hb)
            replace NB548_553 := Aside0.mk ((by rw [hg]; exact Nat.ne_of_lt (blk_lt (g := gb548) (o := .cells #[.int .i64 0, .int .i64 0] 58 (0, 0)) (by (with_reducible repeat (first | refine z1 ?_ _ | refine z2 ?_ | refine z3 ?_ _)); exact BK548.out)) : gb548 ≠ gb553))
            replace NB553_548 := Aside0.mk ((by rw [hg]; exact Nat.ne_of_gt (blk_lt (g := gb548) (o := .cells #[.int .i64 0, .int .i64 0] 58 (0, 0)) (by (with_reducible repeat (first | refine z1 ?_ _ | refine z2 ?_ | refine z3 ?_ _)); exact BK548.out)) : gb553 ≠ gb548))
            replace BK548 := Aside0.mk (blk_below (g := gb548) (o := .cells #[.int .i64 0, .int .i64 0] 58 (0, 0)) (by (with_reducible repeat (first | refine z1 ?_ _ | refine z2 ?_ | refine z3 ?_ _)); exact BK548.out) hb)
            replace NB554_553 := Aside0.mk ((by rw [hg]; exact Nat.ne_of_lt (blk_lt (g := gb554) (o := .cells #[.int .i64 0, .int .i64 0] 89 (0, 0)) (by (with_reducible repeat (first | refine z1 ?_ _ | refine z2 ?_ | refine z3 ?_ _)); exact BK554.out)) : gb554 ≠ gb553))
            replace NB553_554 := Aside0.mk ((by rw [hg]; exact Nat.ne_of_gt (blk_lt (g := gb554) (o := .cells #[.int .i64 0, .int .i64 0] 89 (0, 0)) (by (with_reducible repeat (first | refine z1 ?_ _ | refine z2 ?_ | refine z3 ?_ _)); exact BK554.out)) : gb553 ≠ gb554))
            replace BK554 := Aside0.mk (blk_below (g := gb554) (o := .cells #[.int .i64 0, .int .i64 0] 89 (0, 0)) (by (with_reducible repeat (first | refine z1 ?_ _ | refine z2 ?_ | refine z3 ?_ _)); exact BK554.out) hb)
            clear hb hbox hg
            refine hK.out _ _ ⟨(blk_cell BK546.out 0).trans rfl, (blk_cell BK546.out 1).trans rfl, (blk_cell BK546.out 2).trans rfl, (blk_cell BK546.out 3).trans rfl, (blk_cell BK546.out 4).trans rfl, (blk_cell BK546.out 5).trans rfl, (blk_cell BK545.out 0).trans rfl, (blk_cell BK545.out 1).trans rfl, (blk_cell BK545.out 2).trans rfl, (blk_cell BK545.out 3).trans rfl, (blk_cell BK545.out 4).trans rfl, (blk_cell BK545.out 5).trans rfl⟩ (fun hHeld => ?_)
            clear hK K
            refine norm_ (a' := ?_) ?_ ?_
            rotate_left
            ·show Act.put _ (some 7) _ = _
             simp only [Act.put, y1, y2, y3, i64_w, i32_w]
             rfl
            exact norm_ (by first | (simp only [putAll, Act.put, y1, y2, y3]; done) | (simp only [putAll, Act.put, y1, y2, y3]; rfl)) (hJ14_15 (gb553, gb554) _ ⟨hHeld, (by (with_reducible repeat (first | refine z1 ?_ _ | refine z2 ?_ | refine z3 ?_ _)); exact BK545.out), (by (with_reducible repeat (first | refine z1 ?_ _ | refine z2 ?_ | refine z3 ?_ _)); exact BK546.out), (by (with_reducible repeat (first | refine z1 ?_ _ | refine z2 ?_ | refine z3 ?_ _)); exact BK547.out), (by (with_reducible repeat (first | refine z1 ?_ _ | refine z2 ?_ | refine z3 ?_ _)); exact BK548.out), (by (with_reducible repeat (first | refine z1 ?_ _ | refine z2 ?_ | refine z3 ?_ _)); exact BK553.out), (by (with_reducible repeat (first | refine z1 ?_ _ | refine z2 ?_ | refine z3 ?_ _)); exact BK554.out), GW553.out, GE553.out, NB545_553.out, NB553_545.out, NB546_553.out, NB553_546.out, NB547_553.out, NB553_547.out, NB548_553.out, NB553_548.out, NB554_553.out, NB553_554.out, GW554.out, GE554.out, NB545_554.out, NB554_545.out, NB546_554.out, NB554_546.out, NB547_554.out, NB554_547.out, NB548_554.out, NB554_548.out, (by repeat (first | (with_reducible first | exact HB.out | apply below_alloc | apply pw_below_drewN | apply below_drew1 | refine below_set ?_ GE545.out | refine below_set ?_ GE546.out | refine below_set ?_ GE547.out | refine below_set ?_ GE548.out | refine below_set ?_ GE554.out | refine below_set ?_ GE553.out) | exact HB.out))⟩)
         ·skip
          rintro gb553 w38 ⟨hS_, h0_, h1_, h2_, h3_, h4_, h5_, h6_, h7_, h8_, h9_, h10_, h11_, h12_, h13_, h14_, h15_⟩
          replace BK545 : Aside0 (w38.heap[gb545]? = some (.cells #[.int .i64 a0_0, .int .i64 a0_1, .int .i64 a0_2, .int .i64 a0_3, .int .i64 a0_4, .int .i64 a0_5] 25 (0, 0))) := ⟨h0_⟩
          replace BK546 : Aside0 (w38.heap[gb546]? = some (.cells #[.int .i64 a1_0, .int .i64 a1_1, .int .i64 a1_2, .int .i64 a1_3, .int .i64 a1_4, .int .i64 a1_5] 25 (0, 0))) := ⟨h1_⟩
          replace BK547 : Aside0 (w38.heap[gb547]? = some (.cells #[.int .i64 0, .int .i64 0] 58 (0, 0))) := ⟨h2_⟩
          replace BK548 : Aside0 (w38.heap[gb548]? = some (.cells #[.int .i64 0, .int .i64 0] 58 (0, 0))) := ⟨h3_⟩
          replace BK553 : Aside0 (w38.heap[gb553]? = some (.cells #[.int .i64 0, .int .i64 0] 89 (0, 0))) := ⟨h4_⟩
          replace GW553 : Aside0 (w.heap.size ≤ gb553) := ⟨h5_⟩
          replace GE553 : Aside0 (w.heap.size ≤ gb553) := ⟨h6_⟩
          replace NB545_553 : Aside0 (gb545 ≠ gb553) := ⟨h7_⟩
          replace NB553_545 : Aside0 (gb553 ≠ gb545) := ⟨h8_⟩
          replace NB546_553 : Aside0 (gb546 ≠ gb553) := ⟨h9_⟩
          replace NB553_546 : Aside0 (gb553 ≠ gb546) := ⟨h10_⟩
          replace NB547_553 : Aside0 (gb547 ≠ gb553) := ⟨h11_⟩
          replace NB553_547 : Aside0 (gb553 ≠ gb547) := ⟨h12_⟩
          replace NB548_553 : Aside0 (gb548 ≠ gb553) := ⟨h13_⟩
          replace NB553_548 : Aside0 (gb553 ≠ gb548) := ⟨h14_⟩
          replace HB : Aside0 (Below w.heap.size w w38) := ⟨h15_⟩
          have hHeld : w38.cell? ⟨gb546, 0, none⟩ = some (.int .i64 a1_0) ∧ w38.cell? ⟨gb546, 1, none⟩ = some (.int .i64 a1_1) ∧ w38.cell? ⟨gb546, 2, none⟩ = some (.int .i64 a1_2) ∧ w38.cell? ⟨gb546, 3, none⟩ = some (.int .i64 a1_3) ∧ w38.cell? ⟨gb546, 4, none⟩ = some (.int .i64 a1_4) ∧ w38.cell? ⟨gb546, 5, none⟩ = some (.int .i64 a1_5) ∧ w38.cell? ⟨gb545, 0, none⟩ = some (.int .i64 a0_0) ∧ w38.cell? ⟨gb545, 1, none⟩ = some (.int .i64 a0_1) ∧ w38.cell? ⟨gb545, 2, none⟩ = some (.int .i64 a0_2) ∧ w38.cell? ⟨gb545, 3, none⟩ = some (.int .i64 a0_3) ∧ w38.cell? ⟨gb545, 4, none⟩ = some (.int .i64 a0_4) ∧ w38.cell? ⟨gb545, 5, none⟩ = some (.int .i64 a0_5) := hS_
          refine norm_ (a' := ?_) ?_ ?_
          rotate_left
          ·simp only [putAll, Act.put, y1, y2, y3]
           rfl
          refine two_ (i := 2) (j := 15) (Ni := some 23) (Nj := some 8) (bz 18 32767) (bz 18 65531) rfl rfl rfl rfl (two_of HT_.out (by kernel_rfl)) (by decide) (by decide) (fun K hK => ?_) (fun K hK => ?_)
          ·skip
           refine goes_ Try.func70 (by kernel_rfl) rfl #[.agg #[.int .i64 a1_0, .int .i64 a1_1, .int .i64 a1_2, .int .i64 a1_3, .int .i64 a1_4, .int .i64 a1_5], .agg #[.int .i64 a0_0, .int .i64 a0_1, .int .i64 a0_2, .int .i64 a0_3, .int .i64 a0_4, .int .i64 a0_5]] (by rfl) rfl rfl (by (try simp only [List.map_toArray, List.map_cons, List.map_nil]); first | done | rfl | (simp only [List.length_drop, List.length_take]; rfl)) ?_
           with_reducible refine (impl_bearing.calls a1_0 a1_1 a1_2 a1_3 a1_4 a1_5 a0_0 a0_1 a0_2 a0_3 a0_4 a0_5 t551 t552 _ A33.out).mono ?_
           rintro e w39 ⟨rfl, hb⟩
           refine ⟨_, rfl, ?_⟩
           replace BK545 := Aside0.mk (blk_below (g := gb545) (o := .cells #[.int .i64 a0_0, .int .i64 a0_1, .int .i64 a0_2, .int .i64 a0_3, .int .i64 a0_4, .int .i64 a0_5] 25 (0, 0)) (by (with_reducible repeat (first | refine z1 ?_ _ | refine z2 ?_ | refine z3 ?_ _)); exact BK545.out) hb)
           replace BK546 := Aside0.mk (blk_below (g := gb546) (o := .cells #[.int .i64 a1_0, .int .i64 a1_1, .int .i64 a1_2, .int .i64 a1_3, .int .i64 a1_4, .int .i64 a1_5] 25 (0, 0)) (by (with_reducible repeat (first | refine z1 ?_ _ | refine z2 ?_ | refine z3 ?_ _)); exact BK546.out) hb)
           replace BK547 := Aside0.mk (blk_below (g := gb547) (o := .cells #[.int .i64 0, .int .i64 0] 58 (0, 0)) (by (with_reducible repeat (first | refine z1 ?_ _ | refine z2 ?_ | refine z3 ?_ _)); exact BK547.out) hb)
           replace BK548 := Aside0.mk (blk_below (g := gb548) (o := .cells #[.int .i64 0, .int .i64 0] 58 (0, 0)) (by (with_reducible repeat (first | refine z1 ?_ _ | refine z2 ?_ | refine z3 ?_ _)); exact BK548.out) hb)
           replace BK553 := Aside0.mk (blk_below (g := gb553) (o := .cells #[.int .i64 0, .int .i64 0] 89 (0, 0)) (by (with_reducible repeat (first | refine z1 ?_ _ | refine z2 ?_ | refine z3 ?_ _)); exact BK553.out) hb)
           replace HB := Aside0.mk (below_step (by repeat (first | (with_reducible first | exact HB.out | apply below_alloc | apply pw_below_drewN | apply below_drew1 | refine below_set ?_ GE545.out | refine below_set ?_ GE546.out | refine below_set ?_ GE547.out | refine below_set ?_ GE548.out | refine below_set ?_ GE553.out) | exact HB.out)) hb)
           (try clear hb)
           (try clear hb2)
           (try clear hk)
           (try clear hi)
           refine hK.out _ _ ⟨(blk_cell BK546.out 0).trans rfl, (blk_cell BK546.out 1).trans rfl, (blk_cell BK546.out 2).trans rfl, (blk_cell BK546.out 3).trans rfl, (blk_cell BK546.out 4).trans rfl, (blk_cell BK546.out 5).trans rfl, (blk_cell BK545.out 0).trans rfl, (blk_cell BK545.out 1).trans rfl, (blk_cell BK545.out 2).trans rfl, (blk_cell BK545.out 3).trans rfl, (blk_cell BK545.out 4).trans rfl, (blk_cell BK545.out 5).trans rfl⟩ (fun hHeld => ?_)
           clear hK K
           refine norm_ (a' := ?_) ?_ ?_
           rotate_left
           ·show Act.put _ (some 23) _ = _
            simp only [Act.put, y1, y2, y3, i64_w, i32_w]
            rfl
           exact norm_ (by first | (simp only [putAll, Act.put, y1, y2, y3]; done) | (simp only [putAll, Act.put, y1, y2, y3]; rfl)) (hJ2_14 (gb553) _ ⟨hHeld, (by (with_reducible repeat (first | refine z1 ?_ _ | refine z2 ?_ | refine z3 ?_ _)); exact BK545.out), (by (with_reducible repeat (first | refine z1 ?_ _ | refine z2 ?_ | refine z3 ?_ _)); exact BK546.out), (by (with_reducible repeat (first | refine z1 ?_ _ | refine z2 ?_ | refine z3 ?_ _)); exact BK547.out), (by (with_reducible repeat (first | refine z1 ?_ _ | refine z2 ?_ | refine z3 ?_ _)); exact BK548.out), (by (with_reducible repeat (first | refine z1 ?_ _ | refine z2 ?_ | refine z3 ?_ _)); exact BK553.out), GW553.out, GE553.out, NB545_553.out, NB553_545.out, NB546_553.out, NB553_546.out, NB547_553.out, NB553_547.out, NB548_553.out, NB553_548.out, (by repeat (first | (with_reducible first | exact HB.out | apply below_alloc | apply pw_below_drewN | apply below_drew1 | refine below_set ?_ GE545.out | refine below_set ?_ GE546.out | refine below_set ?_ GE547.out | refine below_set ?_ GE548.out | refine below_set ?_ GE553.out) | exact HB.out))⟩)
          ·skip
           refine box_step ?hg (N := 8) ?hd (cs := #[.int .i64 0, .int .i64 0]) (t := 89) ?hr ?_; (case hd => rfl); (case hg => rfl); (case hr => first | (go_simp; done) | (go_simp; rfl))
           intro gb554 hg w39 hbox hb
           replace BK554 := Aside0.mk (hbox)
           replace GW554 := Aside0.mk ((by rw [hg]; exact (below_size (by repeat (first | (with_reducible first | exact HB.out | apply below_alloc | apply pw_below_drewN | apply below_drew1 | refine below_set ?_ GE545.out | refine below_set ?_ GE546.out | refine below_set ?_ GE547.out | refine below_set ?_ GE548.out | refine below_set ?_ GE553.out) | exact HB.out))) : w.heap.size ≤ gb554))
           replace GE554 := Aside0.mk ((by rw [hg]; exact (below_size (by repeat (first | (with_reducible first | exact HB.out | apply below_alloc | apply pw_below_drewN | apply below_drew1 | refine below_set ?_ GE545.out | refine below_set ?_ GE546.out | refine below_set ?_ GE547.out | refine below_set ?_ GE548.out | refine below_set ?_ GE553.out) | exact HB.out))) : w.heap.size ≤ gb554))
           replace HB := Aside0.mk (below_step (by repeat (first | (with_reducible first | exact HB.out | apply below_alloc | apply pw_below_drewN | apply below_drew1 | refine below_set ?_ GE545.out | refine below_set ?_ GE546.out | refine below_set ?_ GE547.out | refine below_set ?_ GE548.out | refine below_set ?_ GE553.out) | exact HB.out)) hb)
           replace NB545_554 := Aside0.mk ((by rw [hg]; exact Nat.ne_of_lt (blk_lt (g := gb545) (o := .cells #[.int .i64 a0_0, .int .i64 a0_1, .int .i64 a0_2, .int .i64 a0_3, .int .i64 a0_4, .int .i64 a0_5] 25 (0, 0)) (by (with_reducible repeat (first | refine z1 ?_ _ | refine z2 ?_ | refine z3 ?_ _)); exact BK545.out)) : gb545 ≠ gb554))
           replace NB554_545 := Aside0.mk ((by rw [hg]; exact Nat.ne_of_gt (blk_lt (g := gb545) (o := .cells #[.int .i64 a0_0, .int .i64 a0_1, .int .i64 a0_2, .int .i64 a0_3, .int .i64 a0_4, .int .i64 a0_5] 25 (0, 0)) (by (with_reducible repeat (first | refine z1 ?_ _ | refine z2 ?_ | refine z3 ?_ _)); exact BK545.out)) : gb554 ≠ gb545))
           replace BK545 := Aside0.mk (blk_below (g := gb545) (o := .cells #[.int .i64 a0_0, .int .i64 a0_1, .int .i64 a0_2, .int .i64 a0_3, .int .i64 a0_4, .int .i64 a0_5] 25 (0, 0)) (by (with_reducible repeat (first | refine z1 ?_ _ | refine z2 ?_ | refine z3 ?_ _)); exact BK545.out) hb)
           replace NB546_554 := Aside0.mk ((by rw [hg]; exact Nat.ne_of_lt (blk_lt (g := gb546) (o := .cells #[.int .i64 a1_0, .int .i64 a1_1, .int .i64 a1_2, .int .i64 a1_3, .int .i64 a1_4, .int .i64 a1_5] 25 (0, 0)) (by (with_reducible repeat (first | refine z1 ?_ _ | refine z2 ?_ | refine z3 ?_ _)); exact BK546.out)) : gb546 ≠ gb554))
           replace NB554_546 := Aside0.mk ((by rw [hg]; exact Nat.ne_of_gt (blk_lt (g := gb546) (o := .cells #[.int .i64 a1_0, .int .i64 a1_1, .int .i64 a1_2, .int .i64 a1_3, .int .i64 a1_4, .int .i64 a1_5] 25 (0, 0)) (by (with_reducible repeat (first | refine z1 ?_ _ | refine z2 ?_ | refine z3 ?_ _)); exact BK546.out)) : gb554 ≠ gb546))
           replace BK546 := Aside0.mk (blk_below (g := gb546) (o := .cells #[.int .i64 a1_0, .int .i64 a1_1, .int .i64 a1_2, .int .i64 a1_3, .int .i64 a1_4, .int .i64 a1_5] 25 (0, 0)) (by (with_reducible repeat (first | refine z1 ?_ _ | refine z2 ?_ | refine z3 ?_ _)); exact BK546.out) hb)
           replace NB547_554 := Aside0.mk ((by rw [hg]; exact Nat.ne_of_lt (blk_lt (g := gb547) (o := .cells #[.int .i64 0, .int .i64 0] 58 (0, 0)) (by (with_reducible repeat (first | refine z1 ?_ _ | refine z2 ?_ | refine z3 ?_ _)); exact BK547.out)) : gb547 ≠ gb554))
           replace NB554_547 := Aside0.mk ((by rw [hg]; exact Nat.ne_of_gt (blk_lt (g := gb547) (o := .cells #[.int .i64 0, .int .i64 0] 58 (0, 0)) (by (with_reducible repeat (first | refine z1 ?_ _ | refine z2 ?_ | refine z3 ?_ _)); exact BK547.out)) : gb554 ≠ gb547))
           replace BK547 := Aside0.mk (blk_below (g := gb547) (o := .cells #[.int .i64 0, .int .i64 0] 58 (0, 0)) (by (with_reducible repeat (first | refine z1 ?_ _ | refine z2 ?_ | refine z3 ?_ _)); exact BK547.out) hb)
           replace NB548_554 := Aside0.mk ((by rw [hg]; exact Nat.ne_of_lt (blk_lt (g := gb548) (o := .cells #[.int .i64 0, .int .i64 0] 58 (0, 0)) (by (with_reducible repeat (first | refine z1 ?_ _ | refine z2 ?_ | refine z3 ?_ _)); exact BK548.out)) : gb548 ≠ gb554))
           replace NB554_548 := Aside0.mk ((by rw [hg]; exact Nat.ne_of_gt (blk_lt (g := gb548) (o := .cells #[.int .i64 0, .int .i64 0] 58 (0, 0)) (by (with_reducible repeat (first | refine z1 ?_ _ | refine z2 ?_ | refine z3 ?_ _)); exact BK548.out)) : gb554 ≠ gb548))
           replace BK548 := Aside0.mk (blk_below (g := gb548) (o := .cells #[.int .i64 0, .int .i64 0] 58 (0, 0)) (by (with_reducible repeat (first | refine z1 ?_ _ | refine z2 ?_ | refine z3 ?_ _)); exact BK548.out) hb)
           replace NB553_554 := Aside0.mk ((by rw [hg]; exact Nat.ne_of_lt (blk_lt (g := gb553) (o := .cells #[.int .i64 0, .int .i64 0] 89 (0, 0)) (by (with_reducible repeat (first | refine z1 ?_ _ | refine z2 ?_ | refine z3 ?_ _)); exact BK553.out)) : gb553 ≠ gb554))
           replace NB554_553 := Aside0.mk ((by rw [hg]; exact Nat.ne_of_gt (blk_lt (g := gb553) (o := .cells #[.int .i64 0, .int .i64 0] 89 (0, 0)) (by (with_reducible repeat (first | refine z1 ?_ _ | refine z2 ?_ | refine z3 ?_ _)); exact BK553.out)) : gb554 ≠ gb553))
           replace BK553 := Aside0.mk (blk_below (g := gb553) (o := .cells #[.int .i64 0, .int .i64 0] 89 (0, 0)) (by (with_reducible repeat (first | refine z1 ?_ _ | refine z2 ?_ | refine z3 ?_ _)); exact BK553.out) hb)
           clear hb hbox hg
           refine hK.out _ _ ⟨(blk_cell BK546.out 0).trans rfl, (blk_cell BK546.out 1).trans rfl, (blk_cell BK546.out 2).trans rfl, (blk_cell BK546.out 3).trans rfl, (blk_cell BK546.out 4).trans rfl, (blk_cell BK546.out 5).trans rfl, (blk_cell BK545.out 0).trans rfl, (blk_cell BK545.out 1).trans rfl, (blk_cell BK545.out 2).trans rfl, (blk_cell BK545.out 3).trans rfl, (blk_cell BK545.out 4).trans rfl, (blk_cell BK545.out 5).trans rfl⟩ (fun hHeld => ?_)
           clear hK K
           refine norm_ (a' := ?_) ?_ ?_
           rotate_left
           ·show Act.put _ (some 8) _ = _
            simp only [Act.put, y1, y2, y3, i64_w, i32_w]
            rfl
           exact norm_ (by first | (simp only [putAll, Act.put, y1, y2, y3]; done) | (simp only [putAll, Act.put, y1, y2, y3]; rfl)) (hJ14_15 (gb553, gb554) _ ⟨hHeld, (by (with_reducible repeat (first | refine z1 ?_ _ | refine z2 ?_ | refine z3 ?_ _)); exact BK545.out), (by (with_reducible repeat (first | refine z1 ?_ _ | refine z2 ?_ | refine z3 ?_ _)); exact BK546.out), (by (with_reducible repeat (first | refine z1 ?_ _ | refine z2 ?_ | refine z3 ?_ _)); exact BK547.out), (by (with_reducible repeat (first | refine z1 ?_ _ | refine z2 ?_ | refine z3 ?_ _)); exact BK548.out), (by (with_reducible repeat (first | refine z1 ?_ _ | refine z2 ?_ | refine z3 ?_ _)); exact BK553.out), (by (with_reducible repeat (first | refine z1 ?_ _ | refine z2 ?_ | refine z3 ?_ _)); exact BK554.out), GW553.out, GE553.out, NB545_553.out, NB553_545.out, NB546_553.out, NB553_546.out, NB547_553.out, NB553_547.out, NB548_553.out, NB553_548.out, NB554_553.out, NB553_554.out, GW554.out, GE554.out, NB545_554.out, NB554_545.out, NB546_554.out, NB554_546.out, NB547_554.out, NB554_547.out, NB548_554.out, NB554_548.out, (by repeat (first | (with_reducible first | exact HB.out | apply below_alloc | apply pw_below_drewN | apply below_drew1 | refine below_set ?_ GE545.out | refine below_set ?_ GE546.out | refine below_set ?_ GE547.out | refine below_set ?_ GE548.out | refine below_set ?_ GE553.out | refine below_set ?_ GE554.out) | exact HB.out))⟩)
        ·skip
         rintro _ w38 ⟨hS_, h0_, h1_, h2_, h3_, h4_⟩
         replace BK545 : Aside0 (w38.heap[gb545]? = some (.cells #[.int .i64 a0_0, .int .i64 a0_1, .int .i64 a0_2, .int .i64 a0_3, .int .i64 a0_4, .int .i64 a0_5] 25 (0, 0))) := ⟨h0_⟩
         replace BK546 : Aside0 (w38.heap[gb546]? = some (.cells #[.int .i64 a1_0, .int .i64 a1_1, .int .i64 a1_2, .int .i64 a1_3, .int .i64 a1_4, .int .i64 a1_5] 25 (0, 0))) := ⟨h1_⟩
         replace BK547 : Aside0 (w38.heap[gb547]? = some (.cells #[.int .i64 0, .int .i64 0] 58 (0, 0))) := ⟨h2_⟩
         replace BK548 : Aside0 (w38.heap[gb548]? = some (.cells #[.int .i64 0, .int .i64 0] 58 (0, 0))) := ⟨h3_⟩
         replace HB : Aside0 (Below w.heap.size w w38) := ⟨h4_⟩
         have hHeld : w38.cell? ⟨gb546, 0, none⟩ = some (.int .i64 a1_0) ∧ w38.cell? ⟨gb546, 1, none⟩ = some (.int .i64 a1_1) ∧ w38.cell? ⟨gb546, 2, none⟩ = some (.int .i64 a1_2) ∧ w38.cell? ⟨gb546, 3, none⟩ = some (.int .i64 a1_3) ∧ w38.cell? ⟨gb546, 4, none⟩ = some (.int .i64 a1_4) ∧ w38.cell? ⟨gb546, 5, none⟩ = some (.int .i64 a1_5) ∧ w38.cell? ⟨gb545, 0, none⟩ = some (.int .i64 a0_0) ∧ w38.cell? ⟨gb545, 1, none⟩ = some (.int .i64 a0_1) ∧ w38.cell? ⟨gb545, 2, none⟩ = some (.int .i64 a0_2) ∧ w38.cell? ⟨gb545, 3, none⟩ = some (.int .i64 a0_3) ∧ w38.cell? ⟨gb545, 4, none⟩ = some (.int .i64 a0_4) ∧ w38.cell? ⟨gb545, 5, none⟩ = some (.int .i64 a0_5) := hS_
         refine norm_ (a' := ?_) ?_ ?_
         rotate_left
         ·simp only [putAll, Act.put, y1, y2, y3]
          rfl
         refine two_ (i := 14) (j := 15) (Ni := some 7) (Nj := some 8) (bz 18 32767) (bz 18 49151) rfl rfl rfl rfl (two_of HT_.out (by kernel_rfl)) (by decide) (by decide) (fun K hK => ?_) (fun K hK => ?_)
         ·skip
          refine box_step ?hg (N := 7) ?hd (cs := #[.int .i64 0, .int .i64 0]) (t := 89) ?hr ?_; (case hd => rfl); (case hg => rfl); (case hr => first | (go_simp; done) | (go_simp; rfl))
          intro gb553 hg w39 hbox hb
          replace BK553 := Aside0.mk (hbox)
          replace GW553 := Aside0.mk ((by rw [hg]; exact (below_size (by repeat (first | (with_reducible first | exact HB.out | apply below_alloc | apply pw_below_drewN | apply below_drew1 | refine below_set ?_ GE545.out | refine below_set ?_ GE546.out | refine below_set ?_ GE547.out | refine below_set ?_ GE548.out) | exact HB.out))) : w.heap.size ≤ gb553))
          replace GE553 := Aside0.mk ((by rw [hg]; exact (below_size (by repeat (first | (with_reducible first | exact HB.out | apply below_alloc | apply pw_below_drewN | apply below_drew1 | refine below_set ?_ GE545.out | refine below_set ?_ GE546.out | refine below_set ?_ GE547.out | refine below_set ?_ GE548.out) | exact HB.out))) : w.heap.size ≤ gb553))
          replace HB := Aside0.mk (below_step (by repeat (first | (with_reducible first | exact HB.out | apply below_alloc | apply pw_below_drewN | apply below_drew1 | refine below_set ?_ GE545.out | refine below_set ?_ GE546.out | refine below_set ?_ GE547.out | refine below_set ?_ GE548.out) | exact HB.out)) hb)
          replace NB545_553 := Aside0.mk ((by rw [hg]; exact Nat.ne_of_lt (blk_lt (g := gb545) (o := .cells #[.int .i64 a0_0, .int .i64 a0_1, .int .i64 a0_2, .int .i64 a0_3, .int .i64 a0_4, .int .i64 a0_5] 25 (0, 0)) (by (with_reducible repeat (first | refine z1 ?_ _ | refine z2 ?_ | refine z3 ?_ _)); exact BK545.out)) : gb545 ≠ gb553))
          replace NB553_545 := Aside0.mk ((by rw [hg]; exact Nat.ne_of_gt (blk_lt (g := gb545) (o := .cells #[.int .i64 a0_0, .int .i64 a0_1, .int .i64 a0_2, .int .i64 a0_3, .int .i64 a0_4, .int .i64 a0_5] 25 (0, 0)) (by (with_reducible repeat (first | refine z1 ?_ _ | refine z2 ?_ | refine z3 ?_ _)); exact BK545.out)) : gb553 ≠ gb545))
          replace BK545 := Aside0.mk (blk_below (g := gb545) (o := .cells #[.int .i64 a0_0, .int .i64 a0_1, .int .i64 a0_2, .int .i64 a0_3, .int .i64 a0_4, .int .i64 a0_5] 25 (0, 0)) (by (with_reducible repeat (first | refine z1 ?_ _ | refine z2 ?_ | refine z3 ?_ _)); exact BK545.out) hb)
          replace NB546_553 := Aside0.mk ((by rw [hg]; exact Nat.ne_of_lt (blk_lt (g := gb546) (o := .cells #[.int .i64 a1_0, .int .i64 a1_1, .int .i64 a1_2, .int .i64 a1_3, .int .i64 a1_4, .int .i64 a1_5] 25 (0, 0)) (by (with_reducible repeat (first | refine z1 ?_ _ | refine z2 ?_ | refine z3 ?_ _)); exact BK546.out)) : gb546 ≠ gb553))
          replace NB553_546 := Aside0.mk ((by rw [hg]; exact Nat.ne_of_gt (blk_lt (g := gb546) (o := .cells #[.int .i64 a1_0, .int .i64 a1_1, .int .i64 a1_2, .int .i64 a1_3, .int .i64 a1_4, .int .i64 a1_5] 25 (0, 0)) (by (with_reducible repeat (first | refine z1 ?_ _ | refine z2 ?_ | refine z3 ?_ _)); exact BK546.out)) : gb553 ≠ gb546))
          replace BK546 := Aside0.mk (blk_below (g := gb546) (o := .cells #[.int .i64 a1_0, .int .i64 a1_1, .int .i64 a1_2, .int .i64 a1_3, .int .i64 a1_4, .int .i64 a1_5] 25 (0, 0)) (by (with_reducible repeat (first | refine z1 ?_ _ | refine z2 ?_ | refine z3 ?_ _)); exact BK546.out) hb)
          replace NB547_553 := Aside0.mk ((by rw [hg]; exact Nat.ne_of_lt (blk_lt (g := gb547) (o := .cells #[.int .i64 0, .int .i64 0] 58 (0, 0)) (by (with_reducible repeat (first | refine z1 ?_ _ | refine z2 ?_ | refine z3 ?_ _)); exact BK547.out)) : gb547 ≠ gb553))
          replace NB553_547 := Aside0.mk ((by rw [hg]; exact Nat.ne_of_gt (blk_lt (g := gb547) (o := .cells #[.int .i64 0, .int .i64 0] 58 (0, 0)) (by (with_reducible repeat (first | refine z1 ?_ _ | refine z2 ?_ | refine z3 ?_ _)); exact BK547.out)) : gb553 ≠ gb547))
          replace BK547 := Aside0.mk (blk_below (g := gb547) (o := .cells #[.int .i64 0, .int .i64 0] 58 (0, 0)) (by (with_reducible repeat (first | refine z1 ?_ _ | refine z2 ?_ | refine z3 ?_ _)); exact BK547.out) hb)
          replace NB548_553 := Aside0.mk ((by rw [hg]; exact Nat.ne_of_lt (blk_lt (g := gb548) (o := .cells #[.int .i64 0, .int .i64 0] 58 (0, 0)) (by (with_reducible repeat (first | refine z1 ?_ _ | refine z2 ?_ | refine z3 ?_ _)); exact BK548.out)) : gb548 ≠ gb553))
          replace NB553_548 := Aside0.mk ((by rw [hg]; exact Nat.ne_of_gt (blk_lt (g := gb548) (o := .cells #[.int .i64 0, .int .i64 0] 58 (0, 0)) (by (with_reducible repeat (first | refine z1 ?_ _ | refine z2 ?_ | refine z3 ?_ _)); exact BK548.out)) : gb553 ≠ gb548))
          replace BK548 := Aside0.mk (blk_below (g := gb548) (o := .cells #[.int .i64 0, .int .i64 0] 58 (0, 0)) (by (with_reducible repeat (first | refine z1 ?_ _ | refine z2 ?_ | refine z3 ?_ _)); exact BK548.out) hb)
          clear hb hbox hg
          refine hK.out _ _ ⟨(blk_cell BK546.out 0).trans rfl, (blk_cell BK546.out 1).trans rfl, (blk_cell BK546.out 2).trans rfl, (blk_cell BK546.out 3).trans rfl, (blk_cell BK546.out 4).trans rfl, (blk_cell BK546.out 5).trans rfl, (blk_cell BK545.out 0).trans rfl, (blk_cell BK545.out 1).trans rfl, (blk_cell BK545.out 2).trans rfl, (blk_cell BK545.out 3).trans rfl, (blk_cell BK545.out 4).trans rfl, (blk_cell BK545.out 5).trans rfl⟩ (fun hHeld => ?_)
          clear hK K
          refine norm_ (a' := ?_) ?_ ?_
          rotate_left
          ·show Act.put _ (some 7) _ = _
           simp only [Act.put, y1, y2, y3, i64_w, i32_w]
           rfl
          exact norm_ (by first | (simp only [putAll, Act.put, y1, y2, y3]; done) | (simp only [putAll, Act.put, y1, y2, y3]; rfl)) (hJ2_14 (gb553) _ ⟨hHeld, (by (with_reducible repeat (first | refine z1 ?_ _ | refine z2 ?_ | refine z3 ?_ _)); exact BK545.out), (by (with_reducible repeat (first | refine z1 ?_ _ | refine z2 ?_ | refine z3 ?_ _)); exact BK546.out), (by (with_reducible repeat (first | refine z1 ?_ _ | refine z2 ?_ | refine z3 ?_ _)); exact BK547.out), (by (with_reducible repeat (first | refine z1 ?_ _ | refine z2 ?_ | refine z3 ?_ _)); exact BK548.out), (by (with_reducible repeat (first | refine z1 ?_ _ | refine z2 ?_ | refine z3 ?_ _)); exact BK553.out), GW553.out, GE553.out, NB545_553.out, NB553_545.out, NB546_553.out, NB553_546.out, NB547_553.out, NB553_547.out, NB548_553.out, NB553_548.out, (by repeat (first | (with_reducible first | exact HB.out | apply below_alloc | apply pw_below_drewN | apply below_drew1 | refine below_set ?_ GE545.out | refine below_set ?_ GE546.out | refine below_set ?_ GE547.out | refine below_set ?_ GE548.out | refine below_set ?_ GE553.out) | exact HB.out))⟩)
         ·skip
          refine box_step ?hg (N := 8) ?hd (cs := #[.int .i64 0, .int .i64 0]) (t := 89) ?hr ?_; (case hd => rfl); (case hg => rfl); (case hr => first | (go_simp; done) | (go_simp; rfl))
          intro gb554 hg w39 hbox hb
          replace BK554 := Aside0.mk (hbox)
          replace GW554 := Aside0.mk ((by rw [hg]; exact (below_size (by repeat (first | (with_reducible first | exact HB.out | apply below_alloc | apply pw_below_drewN | apply below_drew1 | refine below_set ?_ GE545.out | refine below_set ?_ GE546.out | refine below_set ?_ GE547.out | refine below_set ?_ GE548.out) | exact HB.out))) : w.heap.size ≤ gb554))
          replace GE554 := Aside0.mk ((by rw [hg]; exact (below_size (by repeat (first | (with_reducible first | exact HB.out | apply below_alloc | apply pw_below_drewN | apply below_drew1 | refine below_set ?_ GE545.out | refine below_set ?_ GE546.out | refine below_set ?_ GE547.out | refine below_set ?_ GE548.out) | exact HB.out))) : w.heap.size ≤ gb554))
          replace HB := Aside0.mk (below_step (by repeat (first | (with_reducible first | exact HB.out | apply below_alloc | apply pw_below_drewN | apply below_drew1 | refine below_set ?_ GE545.out | refine below_set ?_ GE546.out | refine below_set ?_ GE547.out | refine below_set ?_ GE548.out) | exact HB.out)) hb)
          replace NB545_554 := Aside0.mk ((by rw [hg]; exact Nat.ne_of_lt (blk_lt (g := gb545) (o := .cells #[.int .i64 a0_0, .int .i64 a0_1, .int .i64 a0_2, .int .i64 a0_3, .int .i64 a0_4, .int .i64 a0_5] 25 (0, 0)) (by (with_reducible repeat (first | refine z1 ?_ _ | refine z2 ?_ | refine z3 ?_ _)); exact BK545.out)) : gb545 ≠ gb554))
          replace NB554_545 := Aside0.mk ((by rw [hg]; exact Nat.ne_of_gt (blk_lt (g := gb545) (o := .cells #[.int .i64 a0_0, .int .i64 a0_1, .int .i64 a0_2, .int .i64 a0_3, .int .i64 a0_4, .int .i64 a0_5] 25 (0, 0)) (by (with_reducible repeat (first | refine z1 ?_ _ | refine z2 ?_ | refine z3 ?_ _)); exact BK545.out)) : gb554 ≠ gb545))
          replace BK545 := Aside0.mk (blk_below (g := gb545) (o := .cells #[.int .i64 a0_0, .int .i64 a0_1, .int .i64 a0_2, .int .i64 a0_3, .int .i64 a0_4, .int .i64 a0_5] 25 (0, 0)) (by (with_reducible repeat (first | refine z1 ?_ _ | refine z2 ?_ | refine z3 ?_ _)); exact BK545.out) hb)
          replace NB546_554 := Aside0.mk ((by rw [hg]; exact Nat.ne_of_lt (blk_lt (g := gb546) (o := .cells #[.int .i64 a1_0, .int .i64 a1_1, .int .i64 a1_2, .int .i64 a1_3, .int .i64 a1_4, .int .i64 a1_5] 25 (0, 0)) (by (with_reducible repeat (first | refine z1 ?_ _ | refine z2 ?_ | refine z3 ?_ _)); exact BK546.out)) : gb546 ≠ gb554))
          replace NB554_546 := Aside0.mk ((by rw [hg]; exact Nat.ne_of_gt (blk_lt (g := gb546) (o := .cells #[.int .i64 a1_0, .int .i64 a1_1, .int .i64 a1_2, .int .i64 a1_3, .int .i64 a1_4, .int .i64 a1_5] 25 (0, 0)) (by (with_reducible repeat (first | refine z1 ?_ _ | refine z2 ?_ | refine z3 ?_ _)); exact BK546.out)) : gb554 ≠ gb546))
          replace BK546 := Aside0.mk (blk_below (g := gb546) (o := .cells #[.int .i64 a1_0, .int .i64 a1_1, .int .i64 a1_2, .int .i64 a1_3, .int .i64 a1_4, .int .i64 a1_5] 25 (0, 0)) (by (with_reducible repeat (first | refine z1 ?_ _ | refine z2 ?_ | refine z3 ?_ _)); exact BK546.out) hb)
          replace NB547_554 := Aside0.mk ((by rw [hg]; exact Nat.ne_of_lt (blk_lt (g := gb547) (o := .cells #[.int .i64 0, .int .i64 0] 58 (0, 0)) (by (with_reducible repeat (first | refine z1 ?_ _ | refine z2 ?_ | refine z3 ?_ _)); exact BK547.out)) : gb547 ≠ gb554))
          replace NB554_547 := Aside0.mk ((by rw [hg]; exact Nat.ne_of_gt (blk_lt (g := gb547) (o := .cells #[.int .i64 0, .int .i64 0] 58 (0, 0)) (by (with_reducible repeat (first | refine z1 ?_ _ | refine z2 ?_ | refine z3 ?_ _)); exact BK547.out)) : gb554 ≠ gb547))
          replace BK547 := Aside0.mk (blk_below (g := gb547) (o := .cells #[.int .i64 0, .int .i64 0] 58 (0, 0)) (by (with_reducible repeat (first | refine z1 ?_ _ | refine z2 ?_ | refine z3 ?_ _)); exact BK547.out) hb)
          replace NB548_554 := Aside0.mk ((by rw [hg]; exact Nat.ne_of_lt (blk_lt (g := gb548) (o := .cells #[.int .i64 0, .int .i64 0] 58 (0, 0)) (by (with_reducible repeat (first | refine z1 ?_ _ | refine z2 ?_ | refine z3 ?_ _)); exact BK548.out)) : gb548 ≠ gb554))
          replace NB554_548 := Aside0.mk ((by rw [hg]; exact Nat.ne_of_gt (blk_lt (g := gb548) (o := .cells #[.int .i64 0, .int .i64 0] 58 (0, 0)) (by (with_reducible repeat (first | refine z1 ?_ _ | refine z2 ?_ | refine z3 ?_ _)); exact BK548.out)) : gb554 ≠ gb548))
          replace BK548 := Aside0.mk (blk_below (g := gb548) (o := .cells #[.int .i64 0, .int .i64 0] 58 (0, 0)) (by (with_reducible repeat (first | refine z1 ?_ _ | refine z2 ?_ | refine z3 ?_ _)); exact BK548.out) hb)
          clear hb hbox hg
          refine hK.out _ _ ⟨(blk_cell BK546.out 0).trans rfl, (blk_cell BK546.out 1).trans rfl, (blk_cell BK546.out 2).trans rfl, (blk_cell BK546.out 3).trans rfl, (blk_cell BK546.out 4).trans rfl, (blk_cell BK546.out 5).trans rfl, (blk_cell BK545.out 0).trans rfl, (blk_cell BK545.out 1).trans rfl, (blk_cell BK545.out 2).trans rfl, (blk_cell BK545.out 3).trans rfl, (blk_cell BK545.out 4).trans rfl, (blk_cell BK545.out 5).trans rfl⟩ (fun hHeld => ?_)
          clear hK K
          refine norm_ (a' := ?_) ?_ ?_
          rotate_left
          ·show Act.put _ (some 8) _ = _
           simp only [Act.put, y1, y2, y3, i64_w, i32_w]
           rfl
          exact norm_ (by first | (simp only [putAll, Act.put, y1, y2, y3]; done) | (simp only [putAll, Act.put, y1, y2, y3]; rfl)) (hJ2_15 (gb554) _ ⟨hHeld, (by (with_reducible repeat (first | refine z1 ?_ _ | refine z2 ?_ | refine z3 ?_ _)); exact BK545.out), (by (with_reducible repeat (first | refine z1 ?_ _ | refine z2 ?_ | refine z3 ?_ _)); exact BK546.out), (by (with_reducible repeat (first | refine z1 ?_ _ | refine z2 ?_ | refine z3 ?_ _)); exact BK547.out), (by (with_reducible repeat (first | refine z1 ?_ _ | refine z2 ?_ | refine z3 ?_ _)); exact BK548.out), (by (with_reducible repeat (first | refine z1 ?_ _ | refine z2 ?_ | refine z3 ?_ _)); exact BK554.out), GW554.out, GE554.out, NB545_554.out, NB554_545.out, NB546_554.out, NB554_546.out, NB547_554.out, NB554_547.out, NB548_554.out, NB554_548.out, (by repeat (first | (with_reducible first | exact HB.out | apply below_alloc | apply pw_below_drewN | apply below_drew1 | refine below_set ?_ GE545.out | refine below_set ?_ GE546.out | refine below_set ?_ GE547.out | refine below_set ?_ GE548.out | refine below_set ?_ GE554.out) | exact HB.out))⟩)
       ·skip
        rintro ⟨gb553, gb554⟩ w39 ⟨hS_, h0_, h1_, h2_, h3_, h4_, h5_, h6_, h7_, h8_, h9_, h10_, h11_, h12_, h13_, h14_, h15_, h16_, h17_, h18_, h19_, h20_, h21_, h22_, h23_, h24_, h25_, h26_, h27_, h28_⟩
        replace BK545 : Aside0 (w39.heap[gb545]? = some (.cells #[.int .i64 a0_0, .int .i64 a0_1, .int .i64 a0_2, .int .i64 a0_3, .int .i64 a0_4, .int .i64 a0_5] 25 (0, 0))) := ⟨h0_⟩
        replace BK546 : Aside0 (w39.heap[gb546]? = some (.cells #[.int .i64 a1_0, .int .i64 a1_1, .int .i64 a1_2, .int .i64 a1_3, .int .i64 a1_4, .int .i64 a1_5] 25 (0, 0))) := ⟨h1_⟩
        replace BK547 : Aside0 (w39.heap[gb547]? = some (.cells #[.int .i64 0, .int .i64 0] 58 (0, 0))) := ⟨h2_⟩
        replace BK548 : Aside0 (w39.heap[gb548]? = some (.cells #[.int .i64 0, .int .i64 0] 58 (0, 0))) := ⟨h3_⟩
        replace BK553 : Aside0 (w39.heap[gb553]? = some (.cells #[.int .i64 0, .int .i64 0] 89 (0, 0))) := ⟨h4_⟩
        replace BK554 : Aside0 (w39.heap[gb554]? = some (.cells #[.int .i64 0, .int .i64 0] 89 (0, 0))) := ⟨h5_⟩
        replace GW553 : Aside0 (w.heap.size ≤ gb553) := ⟨h6_⟩
        replace GE553 : Aside0 (w.heap.size ≤ gb553) := ⟨h7_⟩
        replace NB545_553 : Aside0 (gb545 ≠ gb553) := ⟨h8_⟩
        replace NB553_545 : Aside0 (gb553 ≠ gb545) := ⟨h9_⟩
        replace NB546_553 : Aside0 (gb546 ≠ gb553) := ⟨h10_⟩
        replace NB553_546 : Aside0 (gb553 ≠ gb546) := ⟨h11_⟩
        replace NB547_553 : Aside0 (gb547 ≠ gb553) := ⟨h12_⟩
        replace NB553_547 : Aside0 (gb553 ≠ gb547) := ⟨h13_⟩
        replace NB548_553 : Aside0 (gb548 ≠ gb553) := ⟨h14_⟩
        replace NB553_548 : Aside0 (gb553 ≠ gb548) := ⟨h15_⟩
        replace NB554_553 : Aside0 (gb554 ≠ gb553) := ⟨h16_⟩
        replace NB553_554 : Aside0 (gb553 ≠ gb554) := ⟨h17_⟩
        replace GW554 : Aside0 (w.heap.size ≤ gb554) := ⟨h18_⟩
        replace GE554 : Aside0 (w.heap.size ≤ gb554) := ⟨h19_⟩
        replace NB545_554 : Aside0 (gb545 ≠ gb554) := ⟨h20_⟩
        replace NB554_545 : Aside0 (gb554 ≠ gb545) := ⟨h21_⟩
        replace NB546_554 : Aside0 (gb546 ≠ gb554) := ⟨h22_⟩
        replace NB554_546 : Aside0 (gb554 ≠ gb546) := ⟨h23_⟩
        replace NB547_554 : Aside0 (gb547 ≠ gb554) := ⟨h24_⟩
        replace NB554_547 : Aside0 (gb554 ≠ gb547) := ⟨h25_⟩
        replace NB548_554 : Aside0 (gb548 ≠ gb554) := ⟨h26_⟩
        replace NB554_548 : Aside0 (gb554 ≠ gb548) := ⟨h27_⟩
        replace HB : Aside0 (Below w.heap.size w w39) := ⟨h28_⟩
        have hHeld : w39.cell? ⟨gb546, 0, none⟩ = some (.int .i64 a1_0) ∧ w39.cell? ⟨gb546, 1, none⟩ = some (.int .i64 a1_1) ∧ w39.cell? ⟨gb546, 2, none⟩ = some (.int .i64 a1_2) ∧ w39.cell? ⟨gb546, 3, none⟩ = some (.int .i64 a1_3) ∧ w39.cell? ⟨gb546, 4, none⟩ = some (.int .i64 a1_4) ∧ w39.cell? ⟨gb546, 5, none⟩ = some (.int .i64 a1_5) ∧ w39.cell? ⟨gb545, 0, none⟩ = some (.int .i64 a0_0) ∧ w39.cell? ⟨gb545, 1, none⟩ = some (.int .i64 a0_1) ∧ w39.cell? ⟨gb545, 2, none⟩ = some (.int .i64 a0_2) ∧ w39.cell? ⟨gb545, 3, none⟩ = some (.int .i64 a0_3) ∧ w39.cell? ⟨gb545, 4, none⟩ = some (.int .i64 a0_4) ∧ w39.cell? ⟨gb545, 5, none⟩ = some (.int .i64 a0_5) := hS_
        refine norm_ (a' := ?_) ?_ ?_
        rotate_left
        ·simp only [putAll, Act.put, y1, y2, y3]
         rfl
        refine one_ (i := 2) (N := some 23) (bz 18 65535) rfl rfl (one_of HT_.out (by kernel_rfl)) (by decide) (fun K hK => ?_)
        refine goes_ Try.func70 (by kernel_rfl) rfl #[.agg #[.int .i64 a1_0, .int .i64 a1_1, .int .i64 a1_2, .int .i64 a1_3, .int .i64 a1_4, .int .i64 a1_5], .agg #[.int .i64 a0_0, .int .i64 a0_1, .int .i64 a0_2, .int .i64 a0_3, .int .i64 a0_4, .int .i64 a0_5]] (by rfl) rfl rfl (by (try simp only [List.map_toArray, List.map_cons, List.map_nil]); first | done | rfl | (simp only [List.length_drop, List.length_take]; rfl)) ?_
        with_reducible refine (impl_bearing.calls a1_0 a1_1 a1_2 a1_3 a1_4 a1_5 a0_0 a0_1 a0_2 a0_3 a0_4 a0_5 t551 t552 _ A33.out).mono ?_
        rintro e w40 ⟨rfl, hb⟩
        refine ⟨_, rfl, ?_⟩
        replace BK545 := Aside0.mk (blk_below (g := gb545) (o := .cells #[.int .i64 a0_0, .int .i64 a0_1, .int .i64 a0_2, .int .i64 a0_3, .int .i64 a0_4, .int .i64 a0_5] 25 (0, 0)) (by (with_reducible repeat (first | refine z1 ?_ _ | refine z2 ?_ | refine z3 ?_ _)); exact BK545.out) hb)
        replace BK546 := Aside0.mk (blk_below (g := gb546) (o := .cells #[.int .i64 a1_0, .int .i64 a1_1, .int .i64 a1_2, .int .i64 a1_3, .int .i64 a1_4, .int .i64 a1_5] 25 (0, 0)) (by (with_reducible repeat (first | refine z1 ?_ _ | refine z2 ?_ | refine z3 ?_ _)); exact BK546.out) hb)
        replace BK547 := Aside0.mk (blk_below (g := gb547) (o := .cells #[.int .i64 0, .int .i64 0] 58 (0, 0)) (by (with_reducible repeat (first | refine z1 ?_ _ | refine z2 ?_ | refine z3 ?_ _)); exact BK547.out) hb)
        replace BK548 := Aside0.mk (blk_below (g := gb548) (o := .cells #[.int .i64 0, .int .i64 0] 58 (0, 0)) (by (with_reducible repeat (first | refine z1 ?_ _ | refine z2 ?_ | refine z3 ?_ _)); exact BK548.out) hb)
        replace BK553 := Aside0.mk (blk_below (g := gb553) (o := .cells #[.int .i64 0, .int .i64 0] 89 (0, 0)) (by (with_reducible repeat (first | refine z1 ?_ _ | refine z2 ?_ | refine z3 ?_ _)); exact BK553.out) hb)
        replace BK554 := Aside0.mk (blk_below (g := gb554) (o := .cells #[.int .i64 0, .int .i64 0] 89 (0, 0)) (by (with_reducible repeat (first | refine z1 ?_ _ | refine z2 ?_ | refine z3 ?_ _)); exact BK554.out) hb)
        replace HB := Aside0.mk (below_step (by repeat (first | (with_reducible first | exact HB.out | apply below_alloc | apply pw_below_drewN | apply below_drew1 | refine below_set ?_ GE545.out | refine below_set ?_ GE546.out | refine below_set ?_ GE547.out | refine below_set ?_ GE548.out | refine below_set ?_ GE553.out | refine below_set ?_ GE554.out) | exact HB.out)) hb)
        (try clear hb)
        (try clear hb2)
        (try clear hk)
        (try clear hi)
        refine hK.out _ _ ⟨(blk_cell BK546.out 0).trans rfl, (blk_cell BK546.out 1).trans rfl, (blk_cell BK546.out 2).trans rfl, (blk_cell BK546.out 3).trans rfl, (blk_cell BK546.out 4).trans rfl, (blk_cell BK546.out 5).trans rfl, (blk_cell BK545.out 0).trans rfl, (blk_cell BK545.out 1).trans rfl, (blk_cell BK545.out 2).trans rfl, (blk_cell BK545.out 3).trans rfl, (blk_cell BK545.out 4).trans rfl, (blk_cell BK545.out 5).trans rfl⟩ (fun hHeld => ?_)
        clear hK K
        refine norm_ (a' := ?_) ?_ ?_
        rotate_left
        ·show Act.put _ (some 23) _ = _
         simp only [Act.put, y1, y2, y3, i64_w, i32_w]
         rfl
        exact norm_ (by first | (simp only [putAll, Act.put, y1, y2, y3]; done) | (simp only [putAll, Act.put, y1, y2, y3]; rfl)) (hJ2_14_15 (gb553, gb554) _ ⟨hHeld, (by (with_reducible repeat (first | refine z1 ?_ _ | refine z2 ?_ | refine z3 ?_ _)); exact BK545.out), (by (with_reducible repeat (first | refine z1 ?_ _ | refine z2 ?_ | refine z3 ?_ _)); exact BK546.out), (by (with_reducible repeat (first | refine z1 ?_ _ | refine z2 ?_ | refine z3 ?_ _)); exact BK547.out), (by (with_reducible repeat (first | refine z1 ?_ _ | refine z2 ?_ | refine z3 ?_ _)); exact BK548.out), (by (with_reducible repeat (first | refine z1 ?_ _ | refine z2 ?_ | refine z3 ?_ _)); exact BK553.out), (by (with_reducible repeat (first | refine z1 ?_ _ | refine z2 ?_ | refine z3 ?_ _)); exact BK554.out), GW553.out, GE553.out, NB545_553.out, NB553_545.out, NB546_553.out, NB553_546.out, NB547_553.out, NB553_547.out, NB548_553.out, NB553_548.out, NB554_553.out, NB553_554.out, GW554.out, GE554.out, NB545_554.out, NB554_545.out, NB546_554.out, NB554_546.out, NB547_554.out, NB554_547.out, NB548_554.out, NB554_548.out, (by repeat (first | (with_reducible first | exact HB.out | apply below_alloc | apply pw_below_drewN | apply below_drew1 | refine below_set ?_ GE545.out | refine below_set ?_ GE546.out | refine below_set ?_ GE547.out | refine below_set ?_ GE548.out | refine below_set ?_ GE553.out | refine below_set ?_ GE554.out) | exact HB.out))⟩)
      ·skip
       rintro gb554 w39 ⟨hS_, h0_, h1_, h2_, h3_, h4_, h5_, h6_, h7_, h8_, h9_, h10_, h11_, h12_, h13_, h14_, h15_⟩
       replace BK545 : Aside0 (w39.heap[gb545]? = some (.cells #[.int .i64 a0_0, .int .i64 a0_1, .int .i64 a0_2, .int .i64 a0_3, .int .i64 a0_4, .int .i64 a0_5] 25 (0, 0))) := ⟨h0_⟩
       replace BK546 : Aside0 (w39.heap[gb546]? = some (.cells #[.int .i64 a1_0, .int .i64 a1_1, .int .i64 a1_2, .int .i64 a1_3, .int .i64 a1_4, .int .i64 a1_5] 25 (0, 0))) := ⟨h1_⟩
       replace BK547 : Aside0 (w39.heap[gb547]? = some (.cells #[.int .i64 0, .int .i64 0] 58 (0, 0))) := ⟨h2_⟩
       replace BK548 : Aside0 (w39.heap[gb548]? = some (.cells #[.int .i64 0, .int .i64 0] 58 (0, 0))) := ⟨h3_⟩
       replace BK554 : Aside0 (w39.heap[gb554]? = some (.cells #[.int .i64 0, .int .i64 0] 89 (0, 0))) := ⟨h4_⟩
       replace GW554 : Aside0 (w.heap.size ≤ gb554) := ⟨h5_⟩
       replace GE554 : Aside0 (w.heap.size ≤ gb554) := ⟨h6_⟩
       replace NB545_554 : Aside0 (gb545 ≠ gb554) := ⟨h7_⟩
       replace NB554_545 : Aside0 (gb554 ≠ gb545) := ⟨h8_⟩
       replace NB546_554 : Aside0 (gb546 ≠ gb554) := ⟨h9_⟩
       replace NB554_546 : Aside0 (gb554 ≠ gb546) := ⟨h10_⟩
       replace NB547_554 : Aside0 (gb547 ≠ gb554) := ⟨h11_⟩
       replace NB554_547 : Aside0 (gb554 ≠ gb547) := ⟨h12_⟩
       replace NB548_554 : Aside0 (gb548 ≠ gb554) := ⟨h13_⟩
       replace NB554_548 : Aside0 (gb554 ≠ gb548) := ⟨h14_⟩
       replace HB : Aside0 (Below w.heap.size w w39) := ⟨h15_⟩
       have hHeld : w39.cell? ⟨gb546, 0, none⟩ = some (.int .i64 a1_0) ∧ w39.cell? ⟨gb546, 1, none⟩ = some (.int .i64 a1_1) ∧ w39.cell? ⟨gb546, 2, none⟩ = some (.int .i64 a1_2) ∧ w39.cell? ⟨gb546, 3, none⟩ = some (.int .i64 a1_3) ∧ w39.cell? ⟨gb546, 4, none⟩ = some (.int .i64 a1_4) ∧ w39.cell? ⟨gb546, 5, none⟩ = some (.int .i64 a1_5) ∧ w39.cell? ⟨gb545, 0, none⟩ = some (.int .i64 a0_0) ∧ w39.cell? ⟨gb545, 1, none⟩ = some (.int .i64 a0_1) ∧ w39.cell? ⟨gb545, 2, none⟩ = some (.int .i64 a0_2) ∧ w39.cell? ⟨gb545, 3, none⟩ = some (.int .i64 a0_3) ∧ w39.cell? ⟨gb545, 4, none⟩ = some (.int .i64 a0_4) ∧ w39.cell? ⟨gb545, 5, none⟩ = some (.int .i64 a0_5) := hS_
       refine norm_ (a' := ?_) ?_ ?_
       rotate_left
       ·simp only [putAll, Act.put, y1, y2, y3]
        rfl
       refine one_ (i := 14) (N := some 7) (bz 18 65535) rfl rfl (one_of HT_.out (by kernel_rfl)) (by decide) (fun K hK => ?_)
       refine box_step ?hg (N := 7) ?hd (cs := #[.int .i64 0, .int .i64 0]) (t := 89) ?hr ?_; (case hd => rfl); (case hg => rfl); (case hr => first | (go_simp; done) | (go_simp; rfl))
       intro gb553 hg w40 hbox hb
       replace BK553 := Aside0.mk (hbox)
       replace GW553 := Aside0.mk ((by rw [hg]; exact (below_size (by repeat (first | (with_reducible first | exact HB.out | apply below_alloc | apply pw_below_drewN | apply below_drew1 | refine below_set ?_ GE545.out | refine below_set ?_ GE546.out | refine below_set ?_ GE547.out | refine below_set ?_ GE548.out | refine below_set ?_ GE554.out) | exact HB.out))) : w.heap.size ≤ gb553))
       replace GE553 := Aside0.mk ((by rw [hg]; exact (below_size (by repeat (first | (with_reducible first | exact HB.out | apply below_alloc | apply pw_below_drewN | apply below_drew1 | refine below_set ?_ GE545.out | refine below_set ?_ GE546.out | refine below_set ?_ GE547.out | refine below_set ?_ GE548.out | refine below_set ?_ GE554.out) | exact HB.out))) : w.heap.size ≤ gb553))
       replace HB := Aside0.mk (below_step (by repeat (first | (with_reducible first | exact HB.out | apply below_alloc | apply pw_below_drewN | apply below_drew1 | refine below_set ?_ GE545.out | refine below_set ?_ GE546.out | refine below_set ?_ GE547.out | refine below_set ?_ GE548.out | refine below_set ?_ GE554.out) | exact HB.out)) hb)
       replace NB545_553 := Aside0.mk ((by rw [hg]; exact Nat.ne_of_lt (blk_lt (g := gb545) (o := .cells #[.int .i64 a0_0, .int .i64 a0_1, .int .i64 a0_2, .int .i64 a0_3, .int .i64 a0_4, .int .i64 a0_5] 25 (0, 0)) (by (with_reducible repeat (first | refine z1 ?_ _ | refine z2 ?_ | refine z3 ?_ _)); exact BK545.out)) : gb545 ≠ gb553))
       replace NB553_545 := Aside0.mk ((by rw [hg]; exact Nat.ne_of_gt (blk_lt (g := gb545) (o := .cells #[.int .i64 a0_0, .int .i64 a0_1, .int .i64 a0_2, .int .i64 a0_3, .int .i64 a0_4, .int .i64 a0_5] 25 (0, 0)) (by (with_reducible repeat (first | refine z1 ?_ _ | refine z2 ?_ | refine z3 ?_ _)); exact BK545.out)) : gb553 ≠ gb545))
       replace BK545 := Aside0.mk (blk_below (g := gb545) (o := .cells #[.int .i64 a0_0, .int .i64 a0_1, .int .i64 a0_2, .int .i64 a0_3, .int .i64 a0_4, .int .i64 a0_5] 25 (0, 0)) (by (with_reducible repeat (first | refine z1 ?_ _ | refine z2 ?_ | refine z3 ?_ _)); exact BK545.out) hb)
       replace NB546_553 := Aside0.mk ((by rw [hg]; exact Nat.ne_of_lt (blk_lt (g := gb546) (o := .cells #[.int .i64 a1_0, .int .i64 a1_1, .int .i64 a1_2, .int .i64 a1_3, .int .i64 a1_4, .int .i64 a1_5] 25 (0, 0)) (by (with_reducible repeat (first | refine z1 ?_ _ | refine z2 ?_ | refine z3 ?_ _)); exact BK546.out)) : gb546 ≠ gb553))
       replace NB553_546 := Aside0.mk ((by rw [hg]; exact Nat.ne_of_gt (blk_lt (g := gb546) (o := .cells #[.int .i64 a1_0, .int .i64 a1_1, .int .i64 a1_2, .int .i64 a1_3, .int .i64 a1_4, .int .i64 a1_5] 25 (0, 0)) (by (with_reducible repeat (first | refine z1 ?_ _ | refine z2 ?_ | refine z3 ?_ _)); exact BK546.out)) : gb553 ≠ gb546))
       replace BK546 := Aside0.mk (blk_below (g := gb546) (o := .cells #[.int .i64 a1_0, .int .i64 a1_1, .int .i64 a1_2, .int .i64 a1_3, .int .i64 a1_4, .int .i64 a1_5] 25 (0, 0)) (by (with_reducible repeat (first | refine z1 ?_ _ | refine z2 ?_ | refine z3 ?_ _)); exact BK546.out) hb)
       replace NB547_553 := Aside0.mk ((by rw [hg]; exact Nat.ne_of_lt (blk_lt (g := gb547) (o := .cells #[.int .i64 0, .int .i64 0] 58 (0, 0)) (by (with_reducible repeat (first | refine z1 ?_ _ | refine z2 ?_ | refine z3 ?_ _)); exact BK547.out)) : gb547 ≠ gb553))
       replace NB553_547 := Aside0.mk ((by rw [hg]; exact Nat.ne_of_gt (blk_lt (g := gb547) (o := .cells #[.int .i64 0, .int .i64 0] 58 (0, 0)) (by (with_reducible repeat (first | refine z1 ?_ _ | refine z2 ?_ | refine z3 ?_ _)); exact BK547.out)) : gb553 ≠ gb547))
       replace BK547 := Aside0.mk (blk_below (g := gb547) (o := .cells #[.int .i64 0, .int .i64 0] 58 (0, 0)) (by (with_reducible repeat (first | refine z1 ?_ _ | refine z2 ?_ | refine z3 ?_ _)); exact BK547.out) hb)
       replace NB548_553 := Aside0.mk ((by rw [hg]; exact Nat.ne_of_lt (blk_lt (g := gb548) (o := .cells #[.int .i64 0, .int .i64 0] 58 (0, 0)) (by (with_reducible repeat (first | refine z1 ?_ _ | refine z2 ?_ | refine z3 ?_ _)); exact BK548.out)) : gb548 ≠ gb553))
       replace NB553_548 := Aside0.mk ((by rw [hg]; exact Nat.ne_of_gt (blk_lt (g := gb548) (o := .cells #[.int .i64 0, .int .i64 0] 58 (0, 0)) (by (with_reducible repeat (first | refine z1 ?_ _ | refine z2 ?_ | refine z3 ?_ _)); exact BK548.out)) : gb553 ≠ gb548))
       replace BK548 := Aside0.mk (blk_below (g := gb548) (o := .cells #[.int .i64 0, .int .i64 0] 58 (0, 0)) (by (with_reducible repeat (first | refine z1 ?_ _ | refine z2 ?_ | refine z3 ?_ _)); exact BK548.out) hb)
       replace NB554_553 := Aside0.mk ((by rw [hg]; exact Nat.ne_of_lt (blk_lt (g := gb554) (o := .cells #[.int .i64 0, .int .i64 0] 89 (0, 0)) (by (with_reducible repeat (first | refine z1 ?_ _ | refine z2 ?_ | refine z3 ?_ _)); exact BK554.out)) : gb554 ≠ gb553))
       replace NB553_554 := Aside0.mk ((by rw [hg]; exact Nat.ne_of_gt (blk_lt (g := gb554) (o := .cells #[.int .i64 0, .int .i64 0] 89 (0, 0)) (by (with_reducible repeat (first | refine z1 ?_ _ | refine z2 ?_ | refine z3 ?_ _)); exact BK554.out)) : gb553 ≠ gb554))
       replace BK554 := Aside0.mk (blk_below (g := gb554) (o := .cells #[.int .i64 0, .int .i64 0] 89 (0, 0)) (by (with_reducible repeat (first | refine z1 ?_ _ | refine z2 ?_ | refine z3 ?_ _)); exact BK554.out) hb)
       clear hb hbox hg
       refine hK.out _ _ ⟨(blk_cell BK546.out 0).trans rfl, (blk_cell BK546.out 1).trans rfl, (blk_cell BK546.out 2).trans rfl, (blk_cell BK546.out 3).trans rfl, (blk_cell BK546.out 4).trans rfl, (blk_cell BK546.out 5).trans rfl, (blk_cell BK545.out 0).trans rfl, (blk_cell BK545.out 1).trans rfl, (blk_cell BK545.out 2).trans rfl, (blk_cell BK545.out 3).trans rfl, (blk_cell BK545.out 4).trans rfl, (blk_cell BK545.out 5).trans rfl⟩ (fun hHeld => ?_)
       clear hK K
       refine norm_ (a' := ?_) ?_ ?_
       rotate_left
       ·show Act.put _ (some 7) _ = _
        simp only [Act.put, y1, y2, y3, i64_w, i32_w]
        rfl
       exact norm_ (by first | (simp only [putAll, Act.put, y1, y2, y3]; done) | (simp only [putAll, Act.put, y1, y2, y3]; rfl)) (hJ2_14_15 (gb553, gb554) _ ⟨hHeld, (by (with_reducible repeat (first | refine z1 ?_ _ | refine z2 ?_ | refine z3 ?_ _)); exact BK545.out), (by (with_reducible repeat (first | refine z1 ?_ _ | refine z2 ?_ | refine z3 ?_ _)); exact BK546.out), (by (with_reducible repeat (first | refine z1 ?_ _ | refine z2 ?_ | refine z3 ?_ _)); exact BK547.out), (by (with_reducible repeat (first | refine z1 ?_ _ | refine z2 ?_ | refine z3 ?_ _)); exact BK548.out), (by (with_reducible repeat (first | refine z1 ?_ _ | refine z2 ?_ | refine z3 ?_ _)); exact BK553.out), (by (with_reducible repeat (first | refine z1 ?_ _ | refine z2 ?_ | refine z3 ?_ _)); exact BK554.out), GW553.out, GE553.out, NB545_553.out, NB553_545.out, NB546_553.out, NB553_546.out, NB547_553.out, NB553_547.out, NB548_553.out, NB553_548.out, NB554_553.out, NB553_554.out, GW554.out, GE554.out, NB545_554.out, NB554_545.out, NB546_554.out, NB554_546.out, NB547_554.out, NB554_547.out, NB548_554.out, NB554_548.out, (by repeat (first | (with_reducible first | exact HB.out | apply below_alloc | apply pw_below_drewN | apply below_drew1 | refine below_set ?_ GE545.out | refine below_set ?_ GE546.out | refine below_set ?_ GE547.out | refine below_set ?_ GE548.out | refine below_set ?_ GE554.out | refine below_set ?_ GE553.out) | exact HB.out))⟩)
     ·skip
      rintro gb553 w39 ⟨hS_, h0_, h1_, h2_, h3_, h4_, h5_, h6_, h7_, h8_, h9_, h10_, h11_, h12_, h13_, h14_, h15_⟩
      replace BK545 : Aside0 (w39.heap[gb545]? = some (.cells #[.int .i64 a0_0, .int .i64 a0_1, .int .i64 a0_2, .int .i64 a0_3, .int .i64 a0_4, .int .i64 a0_5] 25 (0, 0))) := ⟨h0_⟩
      replace BK546 : Aside0 (w39.heap[gb546]? = some (.cells #[.int .i64 a1_0, .int .i64 a1_1, .int .i64 a1_2, .int .i64 a1_3, .int .i64 a1_4, .int .i64 a1_5] 25 (0, 0))) := ⟨h1_⟩
      replace BK547 : Aside0 (w39.heap[gb547]? = some (.cells #[.int .i64 0, .int .i64 0] 58 (0, 0))) := ⟨h2_⟩
      replace BK548 : Aside0 (w39.heap[gb548]? = some (.cells #[.int .i64 0, .int .i64 0] 58 (0, 0))) := ⟨h3_⟩
      replace BK553 : Aside0 (w39.heap[gb553]? = some (.cells #[.int .i64 0, .int .i64 0] 89 (0, 0))) := ⟨h4_⟩
      replace GW553 : Aside0 (w.heap.size ≤ gb553) := ⟨h5_⟩
      replace GE553 : Aside0 (w.heap.size ≤ gb553) := ⟨h6_⟩
      replace NB545_553 : Aside0 (gb545 ≠ gb553) := ⟨h7_⟩
      replace NB553_545 : Aside0 (gb553 ≠ gb545) := ⟨h8_⟩
      replace NB546_553 : Aside0 (gb546 ≠ gb553) := ⟨h9_⟩
      replace NB553_546 : Aside0 (gb553 ≠ gb546) := ⟨h10_⟩
      replace NB547_553 : Aside0 (gb547 ≠ gb553) := ⟨h11_⟩
      replace NB553_547 : Aside0 (gb553 ≠ gb547) := ⟨h12_⟩
      replace NB548_553 : Aside0 (gb548 ≠ gb553) := ⟨h13_⟩
      replace NB553_548 : Aside0 (gb553 ≠ gb548) := ⟨h14_⟩
      replace HB : Aside0 (Below w.heap.size w w39) := ⟨h15_⟩
      have hHeld : w39.cell? ⟨gb546, 0, none⟩ = some (.int .i64 a1_0) ∧ w39.cell? ⟨gb546, 1, none⟩ = some (.int .i64 a1_1) ∧ w39.cell? ⟨gb546, 2, none⟩ = some (.int .i64 a1_2) ∧ w39.cell? ⟨gb546, 3, none⟩ = some (.int .i64 a1_3) ∧ w39.cell? ⟨gb546, 4, none⟩ = some (.int .i64 a1_4) ∧ w39.cell? ⟨gb546, 5, none⟩ = some (.int .i64 a1_5) ∧ w39.cell? ⟨gb545, 0, none⟩ = some (.int .i64 a0_0) ∧ w39.cell? ⟨gb545, 1, none⟩ = some (.int .i64 a0_1) ∧ w39.cell? ⟨gb545, 2, none⟩ = some (.int .i64 a0_2) ∧ w39.cell? ⟨gb545, 3, none⟩ = some (.int .i64 a0_3) ∧ w39.cell? ⟨gb545, 4, none⟩ = some (.int .i64 a0_4) ∧ w39.cell? ⟨gb545, 5, none⟩ = some (.int .i64 a0_5) := hS_
      refine norm_ (a' := ?_) ?_ ?_
      rotate_left
      ·simp only [putAll, Act.put, y1, y2, y3]
       rfl
      refine one_ (i := 15) (N := some 8) (bz 18 65535) rfl rfl (one_of HT_.out (by kernel_rfl)) (by decide) (fun K hK => ?_)
      refine box_step ?hg (N := 8) ?hd (cs := #[.int .i64 0, .int .i64 0]) (t := 89) ?hr ?_; (case hd => rfl); (case hg => rfl); (case hr => first | (go_simp; done) | (go_simp; rfl))
      intro gb554 hg w40 hbox hb
      replace BK554 := Aside0.mk (hbox)
      replace GW554 := Aside0.mk ((by rw [hg]; exact (below_size (by repeat (first | (with_reducible first | exact HB.out | apply below_alloc | apply pw_below_drewN | apply below_drew1 | refine below_set ?_ GE545.out | refine below_set ?_ GE546.out | refine below_set ?_ GE547.out | refine below_set ?_ GE548.out | refine below_set ?_ GE553.out) | exact HB.out))) : w.heap.size ≤ gb554))
      replace GE554 := Aside0.mk ((by rw [hg]; exact (below_size (by repeat (first | (with_reducible first | exact HB.out | apply below_alloc | apply pw_below_drewN | apply below_drew1 | refine below_set ?_ GE545.out | refine below_set ?_ GE546.out | refine below_set ?_ GE547.out | refine below_set ?_ GE548.out | refine below_set ?_ GE553.out) | exact HB.out))) : w.heap.size ≤ gb554))
      replace HB := Aside0.mk (below_step (by repeat (first | (with_reducible first | exact HB.out | apply below_alloc | apply pw_below_drewN | apply below_drew1 | refine below_set ?_ GE545.out | refine below_set ?_ GE546.out | refine below_set ?_ GE547.out | refine below_set ?_ GE548.out | refine below_set ?_ GE553.out) | exact HB.out)) hb)
      replace NB545_554 := Aside0.mk ((by rw [hg]; exact Nat.ne_of_lt (blk_lt (g := gb545) (o := .cells #[.int .i64 a0_0, .int .i64 a0_1, .int .i64 a0_2, .int .i64 a0_3, .int .i64 a0_4, .int .i64 a0_5] 25 (0, 0)) (by (with_reducible repeat (first | refine z1 ?_ _ | refine z2 ?_ | refine z3 ?_ _)); exact BK545.out)) : gb545 ≠ gb554))
      replace NB554_545 := Aside0.mk ((by rw [hg]; exact Nat.ne_of_gt (blk_lt (g := gb545) (o := .cells #[.int .i64 a0_0, .int .i64 a0_1, .int .i64 a0_2, .int .i64 a0_3, .int .i64 a0_4, .int .i64 a0_5] 25 (0, 0)) (by (with_reducible repeat (first | refine z1 ?_ _ | refine z2 ?_ | refine z3 ?_ _)); exact BK545.out)) : gb554 ≠ gb545))
      replace BK545 := Aside0.mk (blk_below (g := gb545) (o := .cells #[.int .i64 a0_0, .int .i64 a0_1, .int .i64 a0_2, .int .i64 a0_3, .int .i64 a0_4, .int .i64 a0_5] 25 (0, 0)) (by (with_reducible repeat (first | refine z1 ?_ _ | refine z2 ?_ | refine z3 ?_ _)); exact BK545.out) hb)
      replace NB546_554 := Aside0.mk ((by rw [hg]; exact Nat.ne_of_lt (blk_lt (g := gb546) (o := .cells #[.int .i64 a1_0, .int .i64 a1_1, .int .i64 a1_2, .int .i64 a1_3, .int .i64 a1_4, .int .i64 a1_5] 25 (0, 0)) (by (with_reducible repeat (first | refine z1 ?_ _ | refine z2 ?_ | refine z3 ?_ _)); exact BK546.out)) : gb546 ≠ gb554))
      replace NB554_546 := Aside0.mk ((by rw [hg]; exact Nat.ne_of_gt (blk_lt (g := gb546) (o := .cells #[.int .i64 a1_0, .int .i64 a1_1, .int .i64 a1_2, .int .i64 a1_3, .int .i64 a1_4, .int .i64 a1_5] 25 (0, 0)) (by (with_reducible repeat (first | refine z1 ?_ _ | refine z2 ?_ | refine z3 ?_ _)); exact BK546.out)) : gb554 ≠ gb546))
      replace BK546 := Aside0.mk (blk_below (g := gb546) (o := .cells #[.int .i64 a1_0, .int .i64 a1_1, .int .i64 a1_2, .int .i64 a1_3, .int .i64 a1_4, .int .i64 a1_5] 25 (0, 0)) (by (with_reducible repeat (first | refine z1 ?_ _ | refine z2 ?_ | refine z3 ?_ _)); exact BK546.out) hb)
      replace NB547_554 := Aside0.mk ((by rw [hg]; exact Nat.ne_of_lt (blk_lt (g := gb547) (o := .cells #[.int .i64 0, .int .i64 0] 58 (0, 0)) (by (with_reducible repeat (first | refine z1 ?_ _ | refine z2 ?_ | refine z3 ?_ _)); exact BK547.out)) : gb547 ≠ gb554))
      replace NB554_547 := Aside0.mk ((by rw [hg]; exact Nat.ne_of_gt (blk_lt (g := gb547) (o := .cells #[.int .i64 0, .int .i64 0] 58 (0, 0)) (by (with_reducible repeat (first | refine z1 ?_ _ | refine z2 ?_ | refine z3 ?_ _)); exact BK547.out)) : gb554 ≠ gb547))
      replace BK547 := Aside0.mk (blk_below (g := gb547) (o := .cells #[.int .i64 0, .int .i64 0] 58 (0, 0)) (by (with_reducible repeat (first | refine z1 ?_ _ | refine z2 ?_ | refine z3 ?_ _)); exact BK547.out) hb)
      replace NB548_554 := Aside0.mk ((by rw [hg]; exact Nat.ne_of_lt (blk_lt (g := gb548) (o := .cells #[.int .i64 0, .int .i64 0] 58 (0, 0)) (by (with_reducible repeat (first | refine z1 ?_ _ | refine z2 ?_ | refine z3 ?_ _)); exact BK548.out)) : gb548 ≠ gb554))
      replace NB554_548 := Aside0.mk ((by rw [hg]; exact Nat.ne_of_gt (blk_lt (g := gb548) (o := .cells #[.int .i64 0, .int .i64 0] 58 (0, 0)) (by (with_reducible repeat (first | refine z1 ?_ _ | refine z2 ?_ | refine z3 ?_ _)); exact BK548.out)) : gb554 ≠ gb548))
      replace BK548 := Aside0.mk (blk_below (g := gb548) (o := .cells #[.int .i64 0, .int .i64 0] 58 (0, 0)) (by (with_reducible repeat (first | refine z1 ?_ _ | refine z2 ?_ | refine z3 ?_ _)); exact BK548.out) hb)
      replace NB553_554 := Aside0.mk ((by rw [hg]; exact Nat.ne_of_lt (blk_lt (g := gb553) (o := .cells #[.int .i64 0, .int .i64 0] 89 (0, 0)) (by (with_reducible repeat (first | refine z1 ?_ _ | refine z2 ?_ | refine z3 ?_ _)); exact BK553.out)) : gb553 ≠ gb554))
      replace NB554_553 := Aside0.mk ((by rw [hg]; exact Nat.ne_of_gt (blk_lt (g := gb553) (o := .cells #[.int .i64 0, .int .i64 0] 89 (0, 0)) (by (with_reducible repeat (first | refine z1 ?_ _ | refine z2 ?_ | refine z3 ?_ _)); exact BK553.out)) : gb554 ≠ gb553))
      replace BK553 := Aside0.mk (blk_below (g := gb553) (o := .cells #[.int .i64 0, .int .i64 0] 89 (0, 0)) (by (with_reducible repeat (first | refine z1 ?_ _ | refine z2 ?_ | refine z3 ?_ _)); exact BK553.out) hb)
      clear hb hbox hg
      refine hK.out _ _ ⟨(blk_cell BK546.out 0).trans rfl, (blk_cell BK546.out 1).trans rfl, (blk_cell BK546.out 2).trans rfl, (blk_cell BK546.out 3).trans rfl, (blk_cell BK546.out 4).trans rfl, (blk_cell BK546.out 5).trans rfl, (blk_cell BK545.out 0).trans rfl, (blk_cell BK545.out 1).trans rfl, (blk_cell BK545.out 2).trans rfl, (blk_cell BK545.out 3).trans rfl, (blk_cell BK545.out 4).trans rfl, (blk_cell BK545.out 5).trans rfl⟩ (fun hHeld => ?_)
      clear hK K
      refine norm_ (a' := ?_) ?_ ?_
      rotate_left
      ·show Act.put _ (some 8) _ = _
       simp only [Act.put, y1, y2, y3, i64_w, i32_w]
       rfl
      exact norm_ (by first | (simp only [putAll, Act.put, y1, y2, y3]; done) | (simp only [putAll, Act.put, y1, y2, y3]; rfl)) (hJ2_14_15 (gb553, gb554) _ ⟨hHeld, (by (with_reducible repeat (first | refine z1 ?_ _ | refine z2 ?_ | refine z3 ?_ _)); exact BK545.out), (by (with_reducible repeat (first | refine z1 ?_ _ | refine z2 ?_ | refine z3 ?_ _)); exact BK546.out), (by (with_reducible repeat (first | refine z1 ?_ _ | refine z2 ?_ | refine z3 ?_ _)); exact BK547.out), (by (with_reducible repeat (first | refine z1 ?_ _ | refine z2 ?_ | refine z3 ?_ _)); exact BK548.out), (by (with_reducible repeat (first | refine z1 ?_ _ | refine z2 ?_ | refine z3 ?_ _)); exact BK553.out), (by (with_reducible repeat (first | refine z1 ?_ _ | refine z2 ?_ | refine z3 ?_ _)); exact BK554.out), GW553.out, GE553.out, NB545_553.out, NB553_545.out, NB546_553.out, NB553_546.out, NB547_553.out, NB553_547.out, NB548_553.out, NB553_548.out, NB554_553.out, NB553_554.out, GW554.out, GE554.out, NB545_554.out, NB554_545.out, NB546_554.out, NB554_546.out, NB547_554.out, NB554_547.out, NB548_554.out, NB554_548.out, (by repeat (first | (with_reducible first | exact HB.out | apply below_alloc | apply pw_below_drewN | apply below_drew1 | refine below_set ?_ GE545.out | refine below_set ?_ GE546.out | refine below_set ?_ GE547.out | refine below_set ?_ GE548.out | refine below_set ?_ GE553.out | refine below_set ?_ GE554.out) | exact HB.out))⟩)
    rintro ⟨gb553, gb554⟩ w40 ⟨hS_, h0_, h1_, h2_, h3_, h4_, h5_, h6_, h7_, h8_, h9_, h10_, h11_, h12_, h13_, h14_, h15_, h16_, h17_, h18_, h19_, h20_, h21_, h22_, h23_, h24_, h25_, h26_, h27_, h28_⟩
    replace BK545 : Aside0 (w40.heap[gb545]? = some (.cells #[.int .i64 a0_0, .int .i64 a0_1, .int .i64 a0_2, .int .i64 a0_3, .int .i64 a0_4, .int .i64 a0_5] 25 (0, 0))) := ⟨h0_⟩
    replace BK546 : Aside0 (w40.heap[gb546]? = some (.cells #[.int .i64 a1_0, .int .i64 a1_1, .int .i64 a1_2, .int .i64 a1_3, .int .i64 a1_4, .int .i64 a1_5] 25 (0, 0))) := ⟨h1_⟩
    replace BK547 : Aside0 (w40.heap[gb547]? = some (.cells #[.int .i64 0, .int .i64 0] 58 (0, 0))) := ⟨h2_⟩
    replace BK548 : Aside0 (w40.heap[gb548]? = some (.cells #[.int .i64 0, .int .i64 0] 58 (0, 0))) := ⟨h3_⟩
    replace BK553 : Aside0 (w40.heap[gb553]? = some (.cells #[.int .i64 0, .int .i64 0] 89 (0, 0))) := ⟨h4_⟩
    replace BK554 : Aside0 (w40.heap[gb554]? = some (.cells #[.int .i64 0, .int .i64 0] 89 (0, 0))) := ⟨h5_⟩
    replace GW553 : Aside0 (w.heap.size ≤ gb553) := ⟨h6_⟩
    replace GE553 : Aside0 (w.heap.size ≤ gb553) := ⟨h7_⟩
    replace NB545_553 : Aside0 (gb545 ≠ gb553) := ⟨h8_⟩
    replace NB553_545 : Aside0 (gb553 ≠ gb545) := ⟨h9_⟩
    replace NB546_553 : Aside0 (gb546 ≠ gb553) := ⟨h10_⟩
    replace NB553_546 : Aside0 (gb553 ≠ gb546) := ⟨h11_⟩
    replace NB547_553 : Aside0 (gb547 ≠ gb553) := ⟨h12_⟩
    replace NB553_547 : Aside0 (gb553 ≠ gb547) := ⟨h13_⟩
    replace NB548_553 : Aside0 (gb548 ≠ gb553) := ⟨h14_⟩
    replace NB553_548 : Aside0 (gb553 ≠ gb548) := ⟨h15_⟩
    replace NB554_553 : Aside0 (gb554 ≠ gb553) := ⟨h16_⟩
    replace NB553_554 : Aside0 (gb553 ≠ gb554) := ⟨h17_⟩
    replace GW554 : Aside0 (w.heap.size ≤ gb554) := ⟨h18_⟩
    replace GE554 : Aside0 (w.heap.size ≤ gb554) := ⟨h19_⟩
    replace NB545_554 : Aside0 (gb545 ≠ gb554) := ⟨h20_⟩
    replace NB554_545 : Aside0 (gb554 ≠ gb545) := ⟨h21_⟩
    replace NB546_554 : Aside0 (gb546 ≠ gb554) := ⟨h22_⟩
    replace NB554_546 : Aside0 (gb554 ≠ gb546) := ⟨h23_⟩
    replace NB547_554 : Aside0 (gb547 ≠ gb554) := ⟨h24_⟩
    replace NB554_547 : Aside0 (gb554 ≠ gb547) := ⟨h25_⟩
    replace NB548_554 : Aside0 (gb548 ≠ gb554) := ⟨h26_⟩
    replace NB554_548 : Aside0 (gb554 ≠ gb548) := ⟨h27_⟩
    replace HB : Aside0 (Below w.heap.size w w40) := ⟨h28_⟩
    have hHeld : w40.cell? ⟨gb546, 0, none⟩ = some (.int .i64 a1_0) ∧ w40.cell? ⟨gb546, 1, none⟩ = some (.int .i64 a1_1) ∧ w40.cell? ⟨gb546, 2, none⟩ = some (.int .i64 a1_2) ∧ w40.cell? ⟨gb546, 3, none⟩ = some (.int .i64 a1_3) ∧ w40.cell? ⟨gb546, 4, none⟩ = some (.int .i64 a1_4) ∧ w40.cell? ⟨gb546, 5, none⟩ = some (.int .i64 a1_5) ∧ w40.cell? ⟨gb545, 0, none⟩ = some (.int .i64 a0_0) ∧ w40.cell? ⟨gb545, 1, none⟩ = some (.int .i64 a0_1) ∧ w40.cell? ⟨gb545, 2, none⟩ = some (.int .i64 a0_2) ∧ w40.cell? ⟨gb545, 3, none⟩ = some (.int .i64 a0_3) ∧ w40.cell? ⟨gb545, 4, none⟩ = some (.int .i64 a0_4) ∧ w40.cell? ⟨gb545, 5, none⟩ = some (.int .i64 a0_5) := hS_
    refine norm_ (a' := ?_) ?_ ?_
    rotate_left
    ·simp only [putAll, Act.put, y1, y2, y3]
     rfl
    refine one_ (i := 16) (N := none) (bz 18 131071) rfl rfl (one_of HT_.out (by kernel_rfl)) (by decide) (fun K hK => ?_)
    have hs41 : w40.cell? ⟨gb553, 0, none⟩ = some (.int .i64 0) := (blk_cell BK553.out 0).trans rfl
    have hfs41 := blk_frozen BK553.out 0
    have hns41_0 := NB545_553.out
    have hns41_1 := NB546_553.out
    have hns41_2 := NB547_553.out
    have hns41_3 := NB548_553.out
    have hns41_5 := NB554_553.out
    have hms41_0 := NB553_545.out
    have hms41_1 := NB553_546.out
    have hms41_2 := NB553_547.out
    have hms41_3 := NB553_548.out
    have hms41_5 := NB553_554.out
    have hs42 : w40.cell? ⟨gb553, 1, none⟩ = some (.int .i64 0) := (blk_cell BK553.out 1).trans rfl
    have hfs42 := blk_frozen BK553.out 1
    refine skip_ (w1 := ?_) (by rfl) rfl ?_ ?_
    rotate_left
    ·go_simp
     rfl
    refine hK.out _ _ ⟨((cell_far (p := ⟨gb553, _, none⟩) NB546_553.out _).trans (((cell_far (p := ⟨gb553, _, none⟩) NB546_553.out _).trans (hHeld.1)))), ((cell_far (p := ⟨gb553, _, none⟩) NB546_553.out _).trans (((cell_far (p := ⟨gb553, _, none⟩) NB546_553.out _).trans (hHeld.2.1)))), ((cell_far (p := ⟨gb553, _, none⟩) NB546_553.out _).trans (((cell_far (p := ⟨gb553, _, none⟩) NB546_553.out _).trans (hHeld.2.2.1)))), ((cell_far (p := ⟨gb553, _, none⟩) NB546_553.out _).trans (((cell_far (p := ⟨gb553, _, none⟩) NB546_553.out _).trans (hHeld.2.2.2.1)))), ((cell_far (p := ⟨gb553, _, none⟩) NB546_553.out _).trans (((cell_far (p := ⟨gb553, _, none⟩) NB546_553.out _).trans (hHeld.2.2.2.2.1)))), ((cell_far (p := ⟨gb553, _, none⟩) NB546_553.out _).trans (((cell_far (p := ⟨gb553, _, none⟩) NB546_553.out _).trans (hHeld.2.2.2.2.2.1)))), ((cell_far (p := ⟨gb553, _, none⟩) NB545_553.out _).trans (((cell_far (p := ⟨gb553, _, none⟩) NB545_553.out _).trans (hHeld.2.2.2.2.2.2.1)))), ((cell_far (p := ⟨gb553, _, none⟩) NB545_553.out _).trans (((cell_far (p := ⟨gb553, _, none⟩) NB545_553.out _).trans (hHeld.2.2.2.2.2.2.2.1)))), ((cell_far (p := ⟨gb553, _, none⟩) NB545_553.out _).trans (((cell_far (p := ⟨gb553, _, none⟩) NB545_553.out _).trans (hHeld.2.2.2.2.2.2.2.2.1)))), ((cell_far (p := ⟨gb553, _, none⟩) NB545_553.out _).trans (((cell_far (p := ⟨gb553, _, none⟩) NB545_553.out _).trans (hHeld.2.2.2.2.2.2.2.2.2.1)))), ((cell_far (p := ⟨gb553, _, none⟩) NB545_553.out _).trans (((cell_far (p := ⟨gb553, _, none⟩) NB545_553.out _).trans (hHeld.2.2.2.2.2.2.2.2.2.2.1)))), ((cell_far (p := ⟨gb553, _, none⟩) NB545_553.out _).trans (((cell_far (p := ⟨gb553, _, none⟩) NB545_553.out _).trans (hHeld.2.2.2.2.2.2.2.2.2.2.2))))⟩ (fun hHeld => ?_)
    clear hK K
    refine one_ (i := 17) (N := none) (bz 18 262143) rfl rfl (one_of HT_.out (by kernel_rfl)) (by decide) (fun K hK => ?_)
    have hs43 : w40.cell? ⟨gb554, 0, none⟩ = some (.int .i64 0) := (blk_cell BK554.out 0).trans rfl
    have hfs43 := blk_frozen BK554.out 0
    have hns43_0 := NB545_554.out
    have hns43_1 := NB546_554.out
    have hns43_2 := NB547_554.out
    have hns43_3 := NB548_554.out
    have hns43_4 := NB553_554.out
    have hms43_0 := NB554_545.out
    have hms43_1 := NB554_546.out
    have hms43_2 := NB554_547.out
    have hms43_3 := NB554_548.out
    have hms43_4 := NB554_553.out
    have hs44 : w40.cell? ⟨gb554, 1, none⟩ = some (.int .i64 0) := (blk_cell BK554.out 1).trans rfl
    have hfs44 := blk_frozen BK554.out 1
    refine skip_ (w1 := ?_) (by rfl) rfl ?_ ?_
    rotate_left
    ·go_simp
     rfl
    refine hK.out _ _ ⟨((cell_far (p := ⟨gb554, _, none⟩) NB546_554.out _).trans (((cell_far (p := ⟨gb554, _, none⟩) NB546_554.out _).trans (hHeld.1)))), ((cell_far (p := ⟨gb554, _, none⟩) NB546_554.out _).trans (((cell_far (p := ⟨gb554, _, none⟩) NB546_554.out _).trans (hHeld.2.1)))), ((cell_far (p := ⟨gb554, _, none⟩) NB546_554.out _).trans (((cell_far (p := ⟨gb554, _, none⟩) NB546_554.out _).trans (hHeld.2.2.1)))), ((cell_far (p := ⟨gb554, _, none⟩) NB546_554.out _).trans (((cell_far (p := ⟨gb554, _, none⟩) NB546_554.out _).trans (hHeld.2.2.2.1)))), ((cell_far (p := ⟨gb554, _, none⟩) NB546_554.out _).trans (((cell_far (p := ⟨gb554, _, none⟩) NB546_554.out _).trans (hHeld.2.2.2.2.1)))), ((cell_far (p := ⟨gb554, _, none⟩) NB546_554.out _).trans (((cell_far (p := ⟨gb554, _, none⟩) NB546_554.out _).trans (hHeld.2.2.2.2.2.1)))), ((cell_far (p := ⟨gb554, _, none⟩) NB545_554.out _).trans (((cell_far (p := ⟨gb554, _, none⟩) NB545_554.out _).trans (hHeld.2.2.2.2.2.2.1)))), ((cell_far (p := ⟨gb554, _, none⟩) NB545_554.out _).trans (((cell_far (p := ⟨gb554, _, none⟩) NB545_554.out _).trans (hHeld.2.2.2.2.2.2.2.1)))), ((cell_far (p := ⟨gb554, _, none⟩) NB545_554.out _).trans (((cell_far (p := ⟨gb554, _, none⟩) NB545_554.out _).trans (hHeld.2.2.2.2.2.2.2.2.1)))), ((cell_far (p := ⟨gb554, _, none⟩) NB545_554.out _).trans (((cell_far (p := ⟨gb554, _, none⟩) NB545_554.out _).trans (hHeld.2.2.2.2.2.2.2.2.2.1)))), ((cell_far (p := ⟨gb554, _, none⟩) NB545_554.out _).trans (((cell_far (p := ⟨gb554, _, none⟩) NB545_554.out _).trans (hHeld.2.2.2.2.2.2.2.2.2.2.1)))), ((cell_far (p := ⟨gb554, _, none⟩) NB545_554.out _).trans (((cell_far (p := ⟨gb554, _, none⟩) NB545_554.out _).trans (hHeld.2.2.2.2.2.2.2.2.2.2.2))))⟩ (fun hHeld => ?_)
    clear hK K
    refine done_ (done_of HT_.out (by kernel_rfl)) ?_
    have hnb45 := NB553_545.out
    have hnc45 := NB545_553.out
    have hnb46 := NB553_546.out
    have hnc46 := NB546_553.out
    have hnb47 := NB553_547.out
    have hnc47 := NB547_553.out
    have hnb48 := NB553_548.out
    have hnc48 := NB548_553.out
    have hnb49 := NB553_554.out
    have hnc49 := NB554_553.out
    obtain ⟨hcz50_0, hcz50_1, hfz50_0, hfz50_1⟩ := two BK553
    have hnb51 := NB554_545.out
    have hnc51 := NB545_554.out
    have hnb52 := NB554_546.out
    have hnc52 := NB546_554.out
    have hnb53 := NB554_547.out
    have hnc53 := NB547_554.out
    have hnb54 := NB554_548.out
    have hnc54 := NB548_554.out
    obtain ⟨hcz55_0, hcz55_1, hfz55_0, hfz55_1⟩ := two BK554
    go_upto_region 5 with (first | ((with_reducible refine gate_callee (f := 72) rfl ?_); refine goesL_ (some 37) rfl rfl Try.func72 (by kernel_rfl) rfl #[.agg #[.int .i64 t551, .int .i64 t552], .agg #[.int .i64 (wrap64 (a1_2 - a0_2)), .int .i64 (wrap64 (a1_3 - a0_3))]] rfl (by (try simp only [List.map_toArray, List.map_cons, List.map_nil]); first | done | rfl | (simp only [List.length_drop, List.length_take]; rfl)) ?_; (with_reducible refine (impl_vec_dot.calls t551 t552 (wrap64 (a1_2 - a0_2)) (wrap64 (a1_3 - a0_3)) t555 _ A34.out).mono ?_); rintro e w56 ⟨rfl, hb⟩; refine ⟨_, rfl, ?_⟩; replace BK545 := Aside0.mk (blk_below (g := gb545) (o := .cells #[.int .i64 a0_0, .int .i64 a0_1, .int .i64 a0_2, .int .i64 a0_3, .int .i64 a0_4, .int .i64 a0_5] 25 (0, 0)) (by (with_reducible repeat (first | refine blk_drewN ?_ _ | refine blk_drew ?_ | refine blk_alloc ?_ _)); refine blk_far ?_ NB545_554.out _; (with_reducible repeat (first | refine blk_drewN ?_ _ | refine blk_drew ?_ | refine blk_alloc ?_ _)); refine blk_far ?_ NB545_554.out _; (with_reducible repeat (first | refine blk_drewN ?_ _ | refine blk_drew ?_ | refine blk_alloc ?_ _)); refine blk_far ?_ NB545_553.out _; (with_reducible repeat (first | refine blk_drewN ?_ _ | refine blk_drew ?_ | refine blk_alloc ?_ _)); refine blk_far ?_ NB545_553.out _; (with_reducible repeat (first | refine blk_drewN ?_ _ | refine blk_drew ?_ | refine blk_alloc ?_ _)); exact BK545.out) hb); replace BK546 := Aside0.mk (blk_below (g := gb546) (o := .cells #[.int .i64 a1_0, .int .i64 a1_1, .int .i64 a1_2, .int .i64 a1_3, .int .i64 a1_4, .int .i64 a1_5] 25 (0, 0)) (by (with_reducible repeat (first | refine blk_drewN ?_ _ | refine blk_drew ?_ | refine blk_alloc ?_ _)); refine blk_far ?_ NB546_554.out _; (with_reducible repeat (first | refine blk_drewN ?_ _ | refine blk_drew ?_ | refine blk_alloc ?_ _)); refine blk_far ?_ NB546_554.out _; (with_reducible repeat (first | refine blk_drewN ?_ _ | refine blk_drew ?_ | refine blk_alloc ?_ _)); refine blk_far ?_ NB546_553.out _; (with_reducible repeat (first | refine blk_drewN ?_ _ | refine blk_drew ?_ | refine blk_alloc ?_ _)); refine blk_far ?_ NB546_553.out _; (with_reducible repeat (first | refine blk_drewN ?_ _ | refine blk_drew ?_ | refine blk_alloc ?_ _)); exact BK546.out) hb); replace BK547 := Aside0.mk (blk_below (g := gb547) (o := .cells #[.int .i64 0, .int .i64 0] 58 (0, 0)) (by (with_reducible repeat (first | refine blk_drewN ?_ _ | refine blk_drew ?_ | refine blk_alloc ?_ _)); refine blk_far ?_ NB547_554.out _; (with_reducible repeat (first | refine blk_drewN ?_ _ | refine blk_drew ?_ | refine blk_alloc ?_ _)); refine blk_far ?_ NB547_554.out _; (with_reducible repeat (first | refine blk_drewN ?_ _ | refine blk_drew ?_ | refine blk_alloc ?_ _)); refine blk_far ?_ NB547_553.out _; (with_reducible repeat (first | refine blk_drewN ?_ _ | refine blk_drew ?_ | refine blk_alloc ?_ _)); refine blk_far ?_ NB547_553.out _; (with_reducible repeat (first | refine blk_drewN ?_ _ | refine blk_drew ?_ | refine blk_alloc ?_ _)); exact BK547.out) hb); replace BK548 := Aside0.mk (blk_below (g := gb548) (o := .cells #[.int .i64 0, .int .i64 0] 58 (0, 0)) (by (with_reducible repeat (first | refine blk_drewN ?_ _ | refine blk_drew ?_ | refine blk_alloc ?_ _)); refine blk_far ?_ NB548_554.out _; (with_reducible repeat (first | refine blk_drewN ?_ _ | refine blk_drew ?_ | refine blk_alloc ?_ _)); refine blk_far ?_ NB548_554.out _; (with_reducible repeat (first | refine blk_drewN ?_ _ | refine blk_drew ?_ | refine blk_alloc ?_ _)); refine blk_far ?_ NB548_553.out _; (with_reducible repeat (first | refine blk_drewN ?_ _ | refine blk_drew ?_ | refine blk_alloc ?_ _)); refine blk_far ?_ NB548_553.out _; (with_reducible repeat (first | refine blk_drewN ?_ _ | refine blk_drew ?_ | refine blk_alloc ?_ _)); exact BK548.out) hb); replace BK553 := Aside0.mk (blk_below (g := gb553) (o := .cells #[.int .i64 t551, .int .i64 t552] 89 (0, 0)) (by (with_reducible repeat (first | refine blk_drewN ?_ _ | refine blk_drew ?_ | refine blk_alloc ?_ _)); refine blk_far ?_ NB553_554.out _; (with_reducible repeat (first | refine blk_drewN ?_ _ | refine blk_drew ?_ | refine blk_alloc ?_ _)); refine blk_far ?_ NB553_554.out _; (with_reducible repeat (first | refine blk_drewN ?_ _ | refine blk_drew ?_ | refine blk_alloc ?_ _)); refine blk_put (cs := #[.int .i64 t551, .int .i64 0]) ?_ 1 _ rfl; (with_reducible repeat (first | refine blk_drewN ?_ _ | refine blk_drew ?_ | refine blk_alloc ?_ _)); refine blk_put (cs := #[.int .i64 0, .int .i64 0]) ?_ 0 _ rfl; (with_reducible repeat (first | refine blk_drewN ?_ _ | refine blk_drew ?_ | refine blk_alloc ?_ _)); exact BK553.out) hb); replace BK554 := Aside0.mk (blk_below (g := gb554) (o := .cells #[.int .i64 (wrap64 (a1_2 - a0_2)), .int .i64 (wrap64 (a1_3 - a0_3))] 89 (0, 0)) (by (with_reducible repeat (first | refine blk_drewN ?_ _ | refine blk_drew ?_ | refine blk_alloc ?_ _)); refine blk_put (cs := #[.int .i64 (wrap64 (a1_2 - a0_2)), .int .i64 0]) ?_ 1 _ rfl; (with_reducible repeat (first | refine blk_drewN ?_ _ | refine blk_drew ?_ | refine blk_alloc ?_ _)); refine blk_put (cs := #[.int .i64 0, .int .i64 0]) ?_ 0 _ rfl; (with_reducible repeat (first | refine blk_drewN ?_ _ | refine blk_drew ?_ | refine blk_alloc ?_ _)); refine blk_far ?_ NB554_553.out _; (with_reducible repeat (first | refine blk_drewN ?_ _ | refine blk_drew ?_ | refine blk_alloc ?_ _)); refine blk_far ?_ NB554_553.out _; (with_reducible repeat (first | refine blk_drewN ?_ _ | refine blk_drew ?_ | refine blk_alloc ?_ _)); exact BK554.out) hb); replace HB := Aside0.mk (below_step (by repeat (first | (with_reducible first | exact HB.out | apply below_alloc | apply pw_below_drewN | apply below_drew1 | refine below_set ?_ GE545.out | refine below_set ?_ GE546.out | refine below_set ?_ GE547.out | refine below_set ?_ GE548.out | refine below_set ?_ GE553.out | refine below_set ?_ GE554.out) | exact HB.out)) hb); (try clear hb); (try clear hb2); (try clear hk); (try clear hi)))
    (try simp only [Act.put, List.setIfInBounds_toArray, List.set_cons_zero, List.set_cons_succ])
    go_cut [45] (fun v45 wc => ∃ (kq : Nat) (x45_34 : Bool), v45 = .bool x45_34 ∧ Aside0 (impl_Closest.j1 kq (wrap64 (-t555)) x45_34 t551 t552 (wrap64 (a1_2 - a0_2)) (wrap64 (a1_3 - a0_3)) = some (r1, r2, r3, r4, r5)) ∧ Aside0 (kq ≤ kj2) ∧ Aside0 (wc.heap[gb545]? = some (.cells #[.int .i64 a0_0, .int .i64 a0_1, .int .i64 a0_2, .int .i64 a0_3, .int .i64 a0_4, .int .i64 a0_5] 25 (0, 0))) ∧ Aside0 (wc.heap[gb546]? = some (.cells #[.int .i64 a1_0, .int .i64 a1_1, .int .i64 a1_2, .int .i64 a1_3, .int .i64 a1_4, .int .i64 a1_5] 25 (0, 0))) ∧ Aside0 (wc.heap[gb547]? = some (.cells #[.int .i64 0, .int .i64 0] 58 (0, 0))) ∧ Aside0 (wc.heap[gb548]? = some (.cells #[.int .i64 0, .int .i64 0] 58 (0, 0))) ∧ Aside0 (wc.heap[gb553]? = some (.cells #[.int .i64 t551, .int .i64 t552] 89 (0, 0))) ∧ Aside0 (wc.heap[gb554]? = some (.cells #[.int .i64 (wrap64 (a1_2 - a0_2)), .int .i64 (wrap64 (a1_3 - a0_3))] 89 (0, 0))) ∧ Aside0 (Below w.heap.size w wc))
    case first =>
     have H := HC35.out
     clear HC35
     by_cases c57 : ((wrap64 (a1_2 - a0_2)) == 0 && ((wrap64 (a1_3 - a0_3)) == 0)) = true
     ·rw [if_pos c57] at H
      have c57b0 : ((wrap64 (a1_2 - a0_2)) == 0 && ((wrap64 (a1_3 - a0_3)) == 0)) = true := c57
      (try (have c57b1 : decide ((wrap64 (a1_2 - a0_2)) = 0 && ((wrap64 (a1_3 - a0_3)) == 0)) = true := by simpa using c57))
      (try (have c57b2 : ((wrap64 (a1_2 - a0_2)) == 0 && ((wrap64 (a1_3 - a0_3)) == 0)) = true := by simpa using c57))
      clear c57
      (first | rw [c57b0] | (simp only [i64_w, i32_w]; rw [c57b0]) | skip)
      have H' := Aside0.mk H
      clear H
      have hnb58 := NB554_545.out
      have hnc58 := NB545_554.out
      have hnb59 := NB554_546.out
      have hnc59 := NB546_554.out
      have hnb60 := NB554_547.out
      have hnc60 := NB547_554.out
      have hnb61 := NB554_548.out
      have hnc61 := NB548_554.out
      have hnb62 := NB554_553.out
      have hnc62 := NB553_554.out
      obtain ⟨hcz63_0, hcz63_1, hfz63_0, hfz63_1⟩ := two BK554
      go_wp2
      go_meet
      case rel => exact ⟨_, (true), (by first | rfl | (simp; done) | (simp [*]; done)), H', ⟨by have := HJ2.out; first | omega | exact Nat.le_refl _⟩, ⟨by (with_reducible repeat (first | refine blk_drewN ?_ _ | refine blk_drew ?_ | refine blk_alloc ?_ _)); exact BK545.out⟩, ⟨by (with_reducible repeat (first | refine blk_drewN ?_ _ | refine blk_drew ?_ | refine blk_alloc ?_ _)); exact BK546.out⟩, ⟨by (with_reducible repeat (first | refine blk_drewN ?_ _ | refine blk_drew ?_ | refine blk_alloc ?_ _)); exact BK547.out⟩, ⟨by (with_reducible repeat (first | refine blk_drewN ?_ _ | refine blk_drew ?_ | refine blk_alloc ?_ _)); exact BK548.out⟩, ⟨by (with_reducible repeat (first | refine blk_drewN ?_ _ | refine blk_drew ?_ | refine blk_alloc ?_ _)); exact BK553.out⟩, ⟨by (with_reducible repeat (first | refine blk_drewN ?_ _ | refine blk_drew ?_ | refine blk_alloc ?_ _)); exact BK554.out⟩, ⟨by repeat (first | (with_reducible first | exact HB.out | apply below_alloc | apply pw_below_drewN | apply below_drew1 | refine below_set ?_ GE545.out | refine below_set ?_ GE546.out | refine below_set ?_ GE547.out | refine below_set ?_ GE548.out | refine below_set ?_ GE553.out | refine below_set ?_ GE554.out) | exact HB.out)⟩⟩
     ·rw [if_neg c57] at H
      have c57b0 : ((wrap64 (a1_2 - a0_2)) == 0 && ((wrap64 (a1_3 - a0_3)) == 0)) = false := by simpa using c57
      (try (have c57b1 : decide ((wrap64 (a1_2 - a0_2)) = 0 && ((wrap64 (a1_3 - a0_3)) == 0)) = false := by simpa using c57))
      (try (have c57b2 : ((wrap64 (a1_2 - a0_2)) == 0 && ((wrap64 (a1_3 - a0_3)) == 0)) = false := by simpa using c57))
      (try (have c57b3 : ¬ ((wrap64 (a1_2 - a0_2)) = 0 && ((wrap64 (a1_3 - a0_3)) == 0)) := by simpa using c57))
      clear c57
      (first | rw [c57b0] | (simp only [i64_w, i32_w]; rw [c57b0]) | skip)
      have H' := Aside0.mk H
      clear H
      have hnb64 := NB554_545.out
      have hnc64 := NB545_554.out
      have hnb65 := NB554_546.out
      have hnc65 := NB546_554.out
      have hnb66 := NB554_547.out
      have hnc66 := NB547_554.out
      have hnb67 := NB554_548.out
      have hnc67 := NB548_554.out
      have hnb68 := NB554_553.out
      have hnc68 := NB553_554.out
      obtain ⟨hcz69_0, hcz69_1, hfz69_0, hfz69_1⟩ := two BK554
      go_wp2
      go_meet
      case rel => exact ⟨_, (decide ((wrap64 (-t555)) < 0)), (by first | rfl | (simp; done) | (simp [*]; done)), H', ⟨by have := HJ2.out; first | omega | exact Nat.le_refl _⟩, ⟨by (with_reducible repeat (first | refine blk_drewN ?_ _ | refine blk_drew ?_ | refine blk_alloc ?_ _)); exact BK545.out⟩, ⟨by (with_reducible repeat (first | refine blk_drewN ?_ _ | refine blk_drew ?_ | refine blk_alloc ?_ _)); exact BK546.out⟩, ⟨by (with_reducible repeat (first | refine blk_drewN ?_ _ | refine blk_drew ?_ | refine blk_alloc ?_ _)); exact BK547.out⟩, ⟨by (with_reducible repeat (first | refine blk_drewN ?_ _ | refine blk_drew ?_ | refine blk_alloc ?_ _)); exact BK548.out⟩, ⟨by (with_reducible repeat (first | refine blk_drewN ?_ _ | refine blk_drew ?_ | refine blk_alloc ?_ _)); exact BK553.out⟩, ⟨by (with_reducible repeat (first | refine blk_drewN ?_ _ | refine blk_drew ?_ | refine blk_alloc ?_ _)); exact BK554.out⟩, ⟨by repeat (first | (with_reducible first | exact HB.out | apply below_alloc | apply pw_below_drewN | apply below_drew1 | refine below_set ?_ GE545.out | refine below_set ?_ GE546.out | refine below_set ?_ GE547.out | refine below_set ?_ GE548.out | refine below_set ?_ GE553.out | refine below_set ?_ GE554.out) | exact HB.out)⟩⟩
    case rest =>
     clear HC35
     (try clear p2); (try clear c4); (try clear c5); (try clear c6); (try clear p6); (try clear c7); (try clear c45); (try clear c46); (try clear c47); (try clear c48); (try clear c49); (try clear c51); (try clear c52); (try clear c53); (try clear c54); (try clear c57); (try clear c57b0); (try clear c57b1); (try clear c57b2); (try clear c58); (try clear c59); (try clear c60); (try clear c61); (try clear c62); (try clear c64); (try clear p64); (try clear c65); (try clear c66); (try clear c67); (try clear c68); (try clear hcz50_0); (try clear hcz50_1); (try clear hcz55_0); (try clear hcz55_1); (try clear hcz63_0); (try clear hcz63_1); (try clear hcz69_0); (try clear hcz69_1); (try clear hfz50_0); (try clear hfz50_1); (try clear hfz55_0); (try clear hfz55_1); (try clear hfz63_0); (try clear hfz63_1); (try clear hfz69_0); (try clear hfz69_1)
     obtain ⟨kq, x45_34, rfl, HA, HJ34, BK545, BK546, BK547, BK548, BK553, BK554, HB⟩ := hcut
     cases kq with
     | zero => exact absurd HA.out (by simp [impl_Closest.j1])
     | succ kj34 =>
      have H := HA.out
      clear HA
      simp only [impl_Closest.j1] at H
      by_cases c70 : x45_34 = true
      ·subst c70
       have H1 : ((impl_vec_dot.f t551 t552 t551 t552).bind fun t556 => (some (0, 1, t556, 1, true))) = some (r1, r2, r3, r4, r5) := by rw [if_pos rfl] at H; exact H
       clear H
       have H := H1
       clear H1
       replace H := Option.bind_eq_some_iff.mp H
       obtain ⟨t556, A710, H⟩ := H
       replace H : (some (0, 1, t556, 1, true)) = some (r1, r2, r3, r4, r5) := H
       have A71 := Aside0.mk A710
       clear A710
       simp only [Option.some.injEq, Prod.mk.injEq] at H
       obtain ⟨rfl, rfl, rfl, rfl, rfl⟩ := H
       have hnb72 := NB553_545.out
       have hnc72 := NB545_553.out
       have hnb73 := NB553_546.out
       have hnc73 := NB546_553.out
       have hnb74 := NB553_547.out
       have hnc74 := NB547_553.out
       have hnb75 := NB553_548.out
       have hnc75 := NB548_553.out
       have hnb76 := NB553_554.out
       have hnc76 := NB554_553.out
       obtain ⟨hcz77_0, hcz77_1, hfz77_0, hfz77_1⟩ := two BK553
       go_wp2_with (first | ((with_reducible refine gate_callee (f := 72) rfl ?_); refine goesL_ (some 49) rfl rfl Try.func72 (by kernel_rfl) rfl #[.agg #[.int .i64 t551, .int .i64 t552], .agg #[.int .i64 t551, .int .i64 t552]] rfl (by (try simp only [List.map_toArray, List.map_cons, List.map_nil]); first | done | rfl | (simp only [List.length_drop, List.length_take]; rfl)) ?_; (with_reducible refine (impl_vec_dot.calls t551 t552 t551 t552 t556 _ A71.out).mono ?_); rintro e w78 ⟨rfl, hb⟩; refine ⟨_, rfl, ?_⟩; replace BK545 := Aside0.mk (blk_below (g := gb545) (o := .cells #[.int .i64 a0_0, .int .i64 a0_1, .int .i64 a0_2, .int .i64 a0_3, .int .i64 a0_4, .int .i64 a0_5] 25 (0, 0)) (by (with_reducible repeat (first | refine z1 ?_ _ | refine z2 ?_ | refine z3 ?_ _)); exact BK545.out) hb); replace BK546 := Aside0.mk (blk_below (g := gb546) (o := .cells #[.int .i64 a1_0, .int .i64 a1_1, .int .i64 a1_2, .int .i64 a1_3, .int .i64 a1_4, .int .i64 a1_5] 25 (0, 0)) (by (with_reducible repeat (first | refine z1 ?_ _ | refine z2 ?_ | refine z3 ?_ _)); exact BK546.out) hb); replace BK547 := Aside0.mk (blk_below (g := gb547) (o := .cells #[.int .i64 0, .int .i64 0] 58 (0, 0)) (by (with_reducible repeat (first | refine z1 ?_ _ | refine z2 ?_ | refine z3 ?_ _)); exact BK547.out) hb); replace BK548 := Aside0.mk (blk_below (g := gb548) (o := .cells #[.int .i64 0, .int .i64 0] 58 (0, 0)) (by (with_reducible repeat (first | refine z1 ?_ _ | refine z2 ?_ | refine z3 ?_ _)); exact BK548.out) hb); replace BK553 := Aside0.mk (blk_below (g := gb553) (o := .cells #[.int .i64 t551, .int .i64 t552] 89 (0, 0)) (by (with_reducible repeat (first | refine z1 ?_ _ | refine z2 ?_ | refine z3 ?_ _)); exact BK553.out) hb); replace BK554 := Aside0.mk (blk_below (g := gb554) (o := .cells #[.int .i64 (wrap64 (a1_2 - a0_2)), .int .i64 (wrap64 (a1_3 - a0_3))] 89 (0, 0)) (by (with_reducible repeat (first | refine z1 ?_ _ | refine z2 ?_ | refine z3 ?_ _)); exact BK554.out) hb); replace HB := Aside0.mk (below_step (by repeat (first | (with_reducible first | exact HB.out | apply below_alloc | apply pw_below_drewN | apply below_drew1 | refine below_set ?_ GE545.out | refine below_set ?_ GE546.out | refine below_set ?_ GE547.out | refine below_set ?_ GE548.out | refine below_set ?_ GE553.out | refine below_set ?_ GE554.out) | exact HB.out)) hb); (try clear hb); (try clear hb2); (try clear hk); (try clear hi); have hnb79 := NB547_545.out; have hnc79 := NB545_547.out; have hnb80 := NB547_546.out; have hnc80 := NB546_547.out; have hnb81 := NB547_548.out; have hnc81 := NB548_547.out; have hnb82 := NB547_554.out; have hnc82 := NB554_547.out; obtain ⟨hcz83_0, hcz83_1, hfz83_0, hfz83_1⟩ := two BK547; have hnb84 := NB548_545.out; have hnc84 := NB545_548.out; have hnb85 := NB548_546.out; have hnc85 := NB546_548.out; have hnb86 := NB548_554.out; have hnc86 := NB554_548.out; obtain ⟨hcz87_0, hcz87_1, hfz87_0, hfz87_1⟩ := two BK548))
       refine bodyPost_ret (results_list (rs := [.cell 4 58, .cell 5 58, .tmp 6]) rfl (by simp) (.cell gb547 58 #[.int .i64 0, .int .i64 1] (0, 0) _ rfl (by (with_reducible repeat (first | refine blk_drewN ?_ _ | refine blk_drew ?_ | refine blk_alloc ?_ _)); refine blk_far ?_ NB547_548.out _; (with_reducible repeat (first | refine blk_drewN ?_ _ | refine blk_drew ?_ | refine blk_alloc ?_ _)); refine blk_far ?_ NB547_548.out _; (with_reducible repeat (first | refine blk_drewN ?_ _ | refine blk_drew ?_ | refine blk_alloc ?_ _)); refine blk_put (cs := #[.int .i64 0, .int .i64 0]) ?_ 1 _ rfl; (with_reducible repeat (first | refine blk_drewN ?_ _ | refine blk_drew ?_ | refine blk_alloc ?_ _)); refine blk_put (cs := #[.int .i64 0, .int .i64 0]) ?_ 0 _ rfl; (with_reducible repeat (first | refine blk_drewN ?_ _ | refine blk_drew ?_ | refine blk_alloc ?_ _)); exact BK547.out) Try.underlying58 rfl (by kernel_rfl) (.cell gb548 58 #[.int .i64 t556, .int .i64 1] (0, 0) _ rfl (by (with_reducible repeat (first | refine blk_drewN ?_ _ | refine blk_drew ?_ | refine blk_alloc ?_ _)); refine blk_put (cs := #[.int .i64 t556, .int .i64 0]) ?_ 1 _ rfl; (with_reducible repeat (first | refine blk_drewN ?_ _ | refine blk_drew ?_ | refine blk_alloc ?_ _)); refine blk_put (cs := #[.int .i64 0, .int .i64 0]) ?_ 0 _ rfl; (with_reducible repeat (first | refine blk_drewN ?_ _ | refine blk_drew ?_ | refine blk_alloc ?_ _)); refine blk_far ?_ NB548_547.out _; (with_reducible repeat (first | refine blk_drewN ?_ _ | refine blk_drew ?_ | refine blk_alloc ?_ _)); refine blk_far ?_ NB548_547.out _; (with_reducible repeat (first | refine blk_drewN ?_ _ | refine blk_drew ?_ | refine blk_alloc ?_ _)); exact BK548.out) Try.underlying58 rfl (by kernel_rfl) (.tmp .nil)))) rfl ?_
       exact ⟨by first | rfl | (simp [errW_none, errW_some] <;> rfl) | (simp [*, errW_none, errW_some] <;> rfl), by repeat (first | (with_reducible first | exact HB.out | apply below_alloc | apply pw_below_drewN | apply below_drew1 | refine below_set ?_ GE545.out | refine below_set ?_ GE546.out | refine below_set ?_ GE547.out | refine below_set ?_ GE548.out | refine below_set ?_ GE553.out | refine below_set ?_ GE554.out) | exact HB.out)⟩
      ·replace c70 := Bool.eq_false_iff.mpr c70
       subst c70
       have H1 : ((impl_vec_cross.f t551 t552 (wrap64 (a1_2 - a0_2)) (wrap64 (a1_3 - a0_3))).bind fun t557 => ((impl_vec_dot.f (wrap64 (a1_2 - a0_2)) (wrap64 (a1_3 - a0_3)) (wrap64 (a1_2 - a0_2)) (wrap64 (a1_3 - a0_3))).bind fun t558 => ((impl_fracOf.f kj34 (wrap64 (-t555)) t558).bind fun bt559 => ((impl_vec_dot.f (wrap64 (a1_2 - a0_2)) (wrap64 (a1_3 - a0_3)) (wrap64 (a1_2 - a0_2)) (wrap64 (a1_3 - a0_3))).bind fun t561 => ((impl_fracOf.f kj34 (wrap64 (t557 * t557)) t561).bind fun bt562 => (some (bt559.1, bt559.2, bt562.1, bt562.2, true))))))) = some (r1, r2, r3, r4, r5) := by rw [if_neg (show ¬ (false = true) by decide)] at H; exact H
       clear H
       have H := H1
       clear H1
       replace H := Option.bind_eq_some_iff.mp H
       obtain ⟨t557, A880, H⟩ := H
       replace H : ((impl_vec_dot.f (wrap64 (a1_2 - a0_2)) (wrap64 (a1_3 - a0_3)) (wrap64 (a1_2 - a0_2)) (wrap64 (a1_3 - a0_3))).bind fun t558 => ((impl_fracOf.f kj34 (wrap64 (-t555)) t558).bind fun bt559 => ((impl_vec_dot.f (wrap64 (a1_2 - a0_2)) (wrap64 (a1_3 - a0_3)) (wrap64 (a1_2 - a0_2)) (wrap64 (a1_3 - a0_3))).bind fun t561 => ((impl_fracOf.f kj34 (wrap64 (t557 * t557)) t561).bind fun bt562 => (some (bt559.1, bt559.2, bt562.1, bt562.2, true)))))) = some (r1, r2, r3, r4, r5) := H
       have A88 := Aside0.mk A880
       clear A880
       replace H := Option.bind_eq_some_iff.mp H
       obtain ⟨t558, A890, H⟩ := H
       replace H : ((impl_fracOf.f kj34 (wrap64 (-t555)) t558).bind fun bt559 => ((impl_vec_dot.f (wrap64 (a1_2 - a0_2)) (wrap64 (a1_3 - a0_3)) (wrap64 (a1_2 - a0_2)) (wrap64 (a1_3 - a0_3))).bind fun t561 => ((impl_fracOf.f kj34 (wrap64 (t557 * t557)) t561).bind fun bt562 => (some (bt559.1, bt559.2, bt562.1, bt562.2, true))))) = some (r1, r2, r3, r4, r5) := H
       have A89 := Aside0.mk A890
       clear A890
       replace H := Option.bind_eq_some_iff.mp H
       obtain ⟨⟨t559, t560⟩, A900, H⟩ := H
       replace H : ((impl_vec_dot.f (wrap64 (a1_2 - a0_2)) (wrap64 (a1_3 - a0_3)) (wrap64 (a1_2 - a0_2)) (wrap64 (a1_3 - a0_3))).bind fun t561 => ((impl_fracOf.f kj34 (wrap64 (t557 * t557)) t561).bind fun bt562 => (some (t559, t560, bt562.1, bt562.2, true)))) = some (r1, r2, r3, r4, r5) := H
       have A90 := Aside0.mk A900
       clear A900
       replace H := Option.bind_eq_some_iff.mp H
       obtain ⟨t561, A910, H⟩ := H
       replace H : ((impl_fracOf.f kj34 (wrap64 (t557 * t557)) t561).bind fun bt562 => (some (t559, t560, bt562.1, bt562.2, true))) = some (r1, r2, r3, r4, r5) := H
       have A91 := Aside0.mk A910
       clear A910
       replace H := Option.bind_eq_some_iff.mp H
       obtain ⟨⟨t562, t563⟩, A920, H⟩ := H
       replace H : (some (t559, t560, t562, t563, true)) = some (r1, r2, r3, r4, r5) := H
       have A92 := Aside0.mk A920
       clear A920
       simp only [Option.some.injEq, Prod.mk.injEq] at H
       obtain ⟨rfl, rfl, rfl, rfl, rfl⟩ := H
       have hnb93 := NB553_545.out
       have hnc93 := NB545_553.out
       have hnb94 := NB553_546.out
       have hnc94 := NB546_553.out
       have hnb95 := NB553_547.out
       have hnc95 := NB547_553.out
       have hnb96 := NB553_548.out
       have hnc96 := NB548_553.out
       have hnb97 := NB553_554.out
       have hnc97 := NB554_553.out
       obtain ⟨hcz98_0, hcz98_1, hfz98_0, hfz98_1⟩ := two BK553
       have hnb99 := NB554_545.out
       have hnc99 := NB545_554.out
       have hnb100 := NB554_546.out
       have hnc100 := NB546_554.out
       have hnb101 := NB554_547.out
       have hnc101 := NB547_554.out
       have hnb102 := NB554_548.out
       have hnc102 := NB548_554.out
       obtain ⟨hcz103_0, hcz103_1, hfz103_0, hfz103_1⟩ := two BK554
       try go_wp2_with (first | ((with_reducible refine gate_callee (f := 74) rfl ?_); refine goesL_ (some 53) rfl rfl Try.func74 (by kernel_rfl) rfl #[.agg #[.int .i64 t551, .int .i64 t552], .agg #[.int .i64 (wrap64 (a1_2 - a0_2)), .int .i64 (wrap64 (a1_3 - a0_3))]] rfl (by (try simp only [List.map_toArray, List.map_cons, List.map_nil]); first | done | rfl | (simp only [List.length_drop, List.length_take]; rfl)) ?_; (with_reducible refine (impl_vec_cross.calls t551 t552 (wrap64 (a1_2 - a0_2)) (wrap64 (a1_3 - a0_3)) t557 _ A88.out).mono ?_); rintro e w104 ⟨rfl, hb⟩; refine ⟨_, rfl, ?_⟩; replace BK545 := Aside0.mk (blk_below (g := gb545) (o := .cells #[.int .i64 a0_0, .int .i64 a0_1, .int .i64 a0_2, .int .i64 a0_3, .int .i64 a0_4, .int .i64 a0_5] 25 (0, 0)) (by (with_reducible repeat (first | refine z1 ?_ _ | refine z2 ?_ | refine z3 ?_ _)); exact BK545.out) hb); replace BK546 := Aside0.mk (blk_below (g := gb546) (o := .cells #[.int .i64 a1_0, .int .i64 a1_1, .int .i64 a1_2, .int .i64 a1_3, .int .i64 a1_4, .int .i64 a1_5] 25 (0, 0)) (by (with_reducible repeat (first | refine z1 ?_ _ | refine z2 ?_ | refine z3 ?_ _)); exact BK546.out) hb); replace BK547 := Aside0.mk (blk_below (g := gb547) (o := .cells #[.int .i64 0, .int .i64 0] 58 (0, 0)) (by (with_reducible repeat (first | refine z1 ?_ _ | refine z2 ?_ | refine z3 ?_ _)); exact BK547.out) hb); replace BK548 := Aside0.mk (blk_below (g := gb548) (o := .cells #[.int .i64 0, .int .i64 0] 58 (0, 0)) (by (with_reducible repeat (first | refine z1 ?_ _ | refine z2 ?_ | refine z3 ?_ _)); exact BK548.out) hb); replace BK553 := Aside0.mk (blk_below (g := gb553) (o := .cells #[.int .i64 t551, .int .i64 t552] 89 (0, 0)) (by (with_reducible repeat (first | refine z1 ?_ _ | refine z2 ?_ | refine z3 ?_ _)); exact BK553.out) hb); replace BK554 := Aside0.mk (blk_below (g := gb554) (o := .cells #[.int .i64 (wrap64 (a1_2 - a0_2)), .int .i64 (wrap64 (a1_3 - a0_3))] 89 (0, 0)) (by (with_reducible repeat (first | refine z1 ?_ _ | refine z2 ?_ | refine z3 ?_ _)); exact BK554.out) hb); replace HB := Aside0.mk (below_step (by repeat (first | (with_reducible first | exact HB.out | apply below_alloc | apply pw_below_drewN | apply below_drew1 | refine below_set ?_ GE545.out | refine below_set ?_ GE546.out | refine below_set ?_ GE547.out | refine below_set ?_ GE548.out | refine below_set ?_ GE553.out | refine below_set ?_ GE554.out) | exact HB.out)) hb); (try clear hb); (try clear hb2); (try clear hk); (try clear hi)))
       replace BK545 := Aside0.mk (blk_drew BK545.out)
       replace BK546 := Aside0.mk (blk_drew BK546.out)
       replace BK547 := Aside0.mk (blk_drew BK547.out)
       replace BK548 := Aside0.mk (blk_drew BK548.out)
       replace BK553 := Aside0.mk (blk_drew BK553.out)
       replace BK554 := Aside0.mk (blk_drew BK554.out)
       replace HB := Aside0.mk (below_drew1 HB.out)
       refine start_ (n := 15) (S := fun w' => w'.cell? ⟨gb554, 0, none⟩ = some (.int .i64 (wrap64 (a1_2 - a0_2))) ∧ w'.cell? ⟨gb554, 1, none⟩ = some (.int .i64 (wrap64 (a1_3 - a0_3)))) (ds := []) #[false, false, false, false, false, false, false, false, false, false, false, false, false, false, false] (by kernel_rfl) rfl rfl ⟨(blk_cell BK554.out 0).trans rfl, (blk_cell BK554.out 1).trans rfl⟩ (fun hHeld => ?_); refine with_tabW impl_Closest.tab8 impl_Closest.bits8 (fun HT_ HW_ => ?_)
       generalize w104.drew = w105 at BK545 BK546 BK547 BK548 BK553 BK554 HB hHeld ⊢
       refine pure_ (i := 0) (N := some 54) (v := ?_) (a' := ?_) (bz 15 1) rfl rfl (any_of HT_.out (by kernel_rfl)) (fun _ _ _ h => h) (Or.inl ⟨by rfl, ?_⟩) ?_ ?_
       rotate_left
       ·intro w'
        go_simp
        with_reducible rfl
       rotate_left
       ·simp only [Act.put, y1, y2, y3, i64_w, i32_w]
        rfl
       refine pure_ (i := 5) (N := some 59) (v := ?_) (a' := ?_) (bz 15 33) rfl rfl (any_of HT_.out (by kernel_rfl)) (fun _ _ _ h => h) (Or.inl ⟨by rfl, ?_⟩) ?_ ?_
       rotate_left
       ·intro w'
        go_simp
        with_reducible rfl
       rotate_left
       ·simp only [Act.put, y1, y2, y3, i64_w, i32_w]
        rfl
       refine pure_ (i := 6) (N := some 60) (v := ?_) (a' := ?_) (bz 15 97) rfl rfl (any_of HT_.out (by kernel_rfl)) (fun _ _ _ h => h) (Or.inl ⟨by rfl, ?_⟩) ?_ ?_
       rotate_left
       ·intro w'
        go_simp
        with_reducible rfl
       rotate_left
       ·simp only [Act.put, y1, y2, y3, i64_w, i32_w]
        rfl
       refine pure_ (i := 7) (N := some 61) (v := ?_) (a' := ?_) (bz 15 225) rfl rfl (any_of HT_.out (by kernel_rfl)) (fun _ _ _ h => h) (Or.inl ⟨by rfl, ?_⟩) ?_ ?_
       rotate_left
       ·intro w'
        go_simp
        with_reducible rfl
       rotate_left
       ·simp only [Act.put, y1, y2, y3, i64_w, i32_w]
        rfl
       refine take_ (i := 1) (N := some 55) (v := ?_) (a' := ?_) (bz 15 227) rfl rfl (take_ofW HT_.out HW_.out (by kernel_rfl)) (fun _ _ _ h => h) (Or.inl ⟨by rfl, ?_⟩) hHeld ?_ ?_
       rotate_left
       ·rintro w' ⟨s0, s1⟩
        go_simp
        with_reducible rfl
       rotate_left
       ·simp only [Act.put, y1, y2, y3, i64_w, i32_w]
        rfl
       refine take_ (i := 2) (N := some 56) (v := ?_) (a' := ?_) (bz 15 231) rfl rfl (take_ofW HT_.out HW_.out (by kernel_rfl)) (fun _ _ _ h => h) (Or.inl ⟨by rfl, ?_⟩) hHeld ?_ ?_
       rotate_left
       ·rintro w' ⟨s0, s1⟩
        go_simp
        with_reducible rfl
       rotate_left
       ·simp only [Act.put, y1, y2, y3, i64_w, i32_w]
        rfl
       refine take_ (i := 8) (N := some 62) (v := ?_) (a' := ?_) (bz 15 487) rfl rfl (take_ofW HT_.out HW_.out (by kernel_rfl)) (fun _ _ _ h => h) (Or.inl ⟨by rfl, ?_⟩) hHeld ?_ ?_
       rotate_left
       ·rintro w' ⟨s0, s1⟩
        go_simp
        with_reducible rfl
       rotate_left
       ·simp only [Act.put, y1, y2, y3, i64_w, i32_w]
        rfl
       refine take_ (i := 9) (N := some 63) (v := ?_) (a' := ?_) (bz 15 999) rfl rfl (take_ofW HT_.out HW_.out (by kernel_rfl)) (fun _ _ _ h => h) (Or.inl ⟨by rfl, ?_⟩) hHeld ?_ ?_
       rotate_left
       ·rintro w' ⟨s0, s1⟩
        go_simp
        with_reducible rfl
       rotate_left
       ·simp only [Act.put, y1, y2, y3, i64_w, i32_w]
        rfl
       refine one_ (i := 3) (N := some 57) (bz 15 1007) rfl rfl (one_of HT_.out (by kernel_rfl)) (by decide) (fun K hK => ?_)
       refine goes_ Try.func72 (by kernel_rfl) rfl #[.agg #[.int .i64 (wrap64 (a1_2 - a0_2)), .int .i64 (wrap64 (a1_3 - a0_3))], .agg #[.int .i64 (wrap64 (a1_2 - a0_2)), .int .i64 (wrap64 (a1_3 - a0_3))]] (by rfl) rfl rfl (by (try simp only [List.map_toArray, List.map_cons, List.map_nil]); first | done | rfl | (simp only [List.length_drop, List.length_take]; rfl)) ?_
       with_reducible refine (impl_vec_dot.calls (wrap64 (a1_2 - a0_2)) (wrap64 (a1_3 - a0_3)) (wrap64 (a1_2 - a0_2)) (wrap64 (a1_3 - a0_3)) t558 _ A89.out).mono ?_
       rintro e w106 ⟨rfl, hb⟩
       refine ⟨_, rfl, ?_⟩
       replace BK545 := Aside0.mk (blk_below (g := gb545) (o := .cells #[.int .i64 a0_0, .int .i64 a0_1, .int .i64 a0_2, .int .i64 a0_3, .int .i64 a0_4, .int .i64 a0_5] 25 (0, 0)) (by (with_reducible repeat (first | refine z1 ?_ _ | refine z2 ?_ | refine z3 ?_ _)); exact BK545.out) hb)
       replace BK546 := Aside0.mk (blk_below (g := gb546) (o := .cells #[.int .i64 a1_0, .int .i64 a1_1, .int .i64 a1_2, .int .i64 a1_3, .int .i64 a1_4, .int .i64 a1_5] 25 (0, 0)) (by (with_reducible repeat (first | refine z1 ?_ _ | refine z2 ?_ | refine z3 ?_ _)); exact BK546.out) hb)
       replace BK547 := Aside0.mk (blk_below (g := gb547) (o := .cells #[.int .i64 0, .int .i64 0] 58 (0, 0)) (by (with_reducible repeat (first | refine z1 ?_ _ | refine z2 ?_ | refine z3 ?_ _)); exact BK547.out) hb)
       replace BK548 := Aside0.mk (blk_below (g := gb548) (o := .cells #[.int .i64 0, .int .i64 0] 58 (0, 0)) (by (with_reducible repeat (first | refine z1 ?_ _ | refine z2 ?_ | refine z3 ?_ _)); exact BK548.out) hb)
       replace BK553 := Aside0.mk (blk_below (g := gb553) (o := .cells #[.int .i64 t551, .int .i64 t552] 89 (0, 0)) (by (with_reducible repeat (first | refine z1 ?_ _ | refine z2 ?_ | refine z3 ?_ _)); exact BK553.out) hb)
       replace BK554 := Aside0.mk (blk_below (g := gb554) (o := .cells #[.int .i64 (wrap64 (a1_2 - a0_2)), .int .i64 (wrap64 (a1_3 - a0_3))] 89 (0, 0)) (by (with_reducible repeat (first | refine z1 ?_ _ | refine z2 ?_ | refine z3 ?_ _)); exact BK554.out) hb)
       replace HB := Aside0.mk (below_step (by repeat (first | (with_reducible first | exact HB.out | apply below_alloc | apply pw_below_drewN | apply below_drew1 | refine below_set ?_ GE545.out | refine below_set ?_ GE546.out | refine below_set ?_ GE547.out | refine below_set ?_ GE548.out | refine below_set ?_ GE553.out | refine below_set ?_ GE554.out) | exact HB.out)) hb)
       (try clear hb)
       (try clear hb2)
       (try clear hk)
       (try clear hi)
       refine hK.out _ _ ⟨(blk_cell BK554.out 0).trans rfl, (blk_cell BK554.out 1).trans rfl⟩ (fun hHeld => ?_)
       clear hK K
       refine norm_ (a' := ?_) ?_ ?_
       rotate_left
       ·show Act.put _ (some 57) _ = _
        simp only [Act.put, y1, y2, y3, i64_w, i32_w]
        rfl
       refine one_ (i := 4) (N := some 58) (bz 15 1023) rfl rfl (one_of HT_.out (by kernel_rfl)) (by decide) (fun K hK => ?_)
       refine goes_ Try.func82 (by kernel_rfl) rfl #[.int .i64 (wrap64 (-t555)), .int .i64 t558] (by rfl) rfl rfl (by (try simp only [List.map_toArray, List.map_cons, List.map_nil]); first | done | rfl | (simp only [List.length_drop, List.length_take]; rfl)) ?_
       with_reducible refine (impl_fracOf.calls kj34 (wrap64 (-t555)) t558 t559 t560 _ A90.out).mono ?_
       rintro e w107 ⟨rfl, hb⟩
       refine ⟨_, rfl, ?_⟩
       replace BK545 := Aside0.mk (blk_below (g := gb545) (o := .cells #[.int .i64 a0_0, .int .i64 a0_1, .int .i64 a0_2, .int .i64 a0_3, .int .i64 a0_4, .int .i64 a0_5] 25 (0, 0)) (by (with_reducible repeat (first | refine z1 ?_ _ | refine z2 ?_ | refine z3 ?_ _)); exact BK545.out) hb)
       replace BK546 := Aside0.mk (blk_below (g := gb546) (o := .cells #[.int .i64 a1_0, .int .i64 a1_1, .int .i64 a1_2, .int .i64 a1_3, .int .i64 a1_4, .int .i64 a1_5] 25 (0, 0)) (by (with_reducible repeat (first | refine z1 ?_ _ | refine z2 ?_ | refine z3 ?_ _)); exact BK546.out) hb)
       replace BK547 := Aside0.mk (blk_below (g := gb547) (o := .cells #[.int .i64 0, .int .i64 0] 58 (0, 0)) (by (with_reducible repeat (first | refine z1 ?_ _ | refine z2 ?_ | refine z3 ?_ _)); exact BK547.out) hb)
       replace BK548 := Aside0.mk (blk_below (g := gb548) (o := .cells #[.int .i64 0, .int .i64 0] 58 (0, 0)) (by (with_reducible repeat (first | refine z1 ?_ _ | refine z2 ?_ | refine z3 ?_ _)); exact BK548.out) hb)
       replace BK553 := Aside0.mk (blk_below (g := gb553) (o := .cells #[.int .i64 t551, .int .i64 t552] 89 (0, 0)) (by (with_reducible repeat (first | refine z1 ?_ _ | refine z2 ?_ | refine z3 ?_ _)); exact BK553.out) hb)
       replace BK554 := Aside0.mk (blk_below (g := gb554) (o := .cells #[.int .i64 (wrap64 (a1_2 - a0_2)), .int .i64 (wrap64 (a1_3 - a0_3))] 89 (0, 0)) (by (with_reducible repeat (first | refine z1 ?_ _ | refine z2 ?_ | refine z3 ?_ _)); exact BK554.out) hb)
       replace HB := Aside0.mk (below_step (by repeat (first | (with_reducible first | exact HB.out | apply below_alloc | apply pw_below_drewN | apply below_drew1 | refine below_set ?_ GE545.out | refine below_set ?_ GE546.out | refine below_set ?_ GE547.out | refine below_set ?_ GE548.out | refine below_set ?_ GE553.out | refine below_set ?_ GE554.out) | exact HB.out)) hb)
       (try clear hb)
       (try clear hb2)
       (try clear hk)
       (try clear hi)
       refine hK.out _ _ ⟨(blk_cell BK554.out 0).trans rfl, (blk_cell BK554.out 1).trans rfl⟩ (fun hHeld => ?_)
       clear hK K
       refine norm_ (a' := ?_) ?_ ?_
       rotate_left
       ·show Act.put _ (some 58) _ = _
        simp only [Act.put, y1, y2, y3, i64_w, i32_w]
        rfl
       refine one_ (i := 10) (N := some 64) (bz 15 2047) rfl rfl (one_of HT_.out (by kernel_rfl)) (by decide) (fun K hK => ?_)
       refine goes_ Try.func72 (by kernel_rfl) rfl #[.agg #[.int .i64 (wrap64 (a1_2 - a0_2)), .int .i64 (wrap64 (a1_3 - a0_3))], .agg #[.int .i64 (wrap64 (a1_2 - a0_2)), .int .i64 (wrap64 (a1_3 - a0_3))]] (by rfl) rfl rfl (by (try simp only [List.map_toArray, List.map_cons, List.map_nil]); first | done | rfl | (simp only [List.length_drop, List.length_take]; rfl)) ?_
       with_reducible refine (impl_vec_dot.calls (wrap64 (a1_2 - a0_2)) (wrap64 (a1_3 - a0_3)) (wrap64 (a1_2 - a0_2)) (wrap64 (a1_3 - a0_3)) t561 _ A91.out).mono ?_
       rintro e w108 ⟨rfl, hb⟩
       refine ⟨_, rfl, ?_⟩
       replace BK545 := Aside0.mk (blk_below (g := gb545) (o := .cells #[.int .i64 a0_0, .int .i64 a0_1, .int .i64 a0_2, .int .i64 a0_3, .int .i64 a0_4, .int .i64 a0_5] 25 (0, 0)) (by (with_reducible repeat (first | refine z1 ?_ _ | refine z2 ?_ | refine z3 ?_ _)); exact BK545.out) hb)
       replace BK546 := Aside0.mk (blk_below (g := gb546) (o := .cells #[.int .i64 a1_0, .int .i64 a1_1, .int .i64 a1_2, .int .i64 a1_3, .int .i64 a1_4, .int .i64 a1_5] 25 (0, 0)) (by (with_reducible repeat (first | refine z1 ?_ _ | refine z2 ?_ | refine z3 ?_ _)); exact BK546.out) hb)
       replace BK547 := Aside0.mk (blk_below (g := gb547) (o := .cells #[.int .i64 0, .int .i64 0] 58 (0, 0)) (by (with_reducible repeat (first | refine z1 ?_ _ | refine z2 ?_ | refine z3 ?_ _)); exact BK547.out) hb)
       replace BK548 := Aside0.mk (blk_below (g := gb548) (o := .cells #[.int .i64 0, .int .i64 0] 58 (0, 0)) (by (with_reducible repeat (first | refine z1 ?_ _ | refine z2 ?_ | refine z3 ?_ _)); exact BK548.out) hb)
       replace BK553 := Aside0.mk (blk_below (g := gb553) (o := .cells #[.int .i64 t551, .int .i64 t552] 89 (0, 0)) (by (with_reducible repeat (first | refine z1 ?_ _ | refine z2 ?_ | refine z3 ?_ _)); exact BK553.out) hb)
       replace BK554 := Aside0.mk (blk_below (g := gb554) (o := .cells #[.int .i64 (wrap64 (a1_2 - a0_2)), .int .i64 (wrap64 (a1_3 - a0_3))] 89 (0, 0)) (by (with_reducible repeat (first | refine z1 ?_ _ | refine z2 ?_ | refine z3 ?_ _)); exact BK554.out) hb)
       replace HB := Aside0.mk (below_step (by repeat (first | (with_reducible first | exact HB.out | apply below_alloc | apply pw_below_drewN | apply below_drew1 | refine below_set ?_ GE545.out | refine below_set ?_ GE546.out | refine below_set ?_ GE547.out | refine below_set ?_ GE548.out | refine below_set ?_ GE553.out | refine below_set ?_ GE554.out) | exact HB.out)) hb)
       (try clear hb)
       (try clear hb2)
       (try clear hk)
       (try clear hi)
       refine hK.out _ _ ⟨(blk_cell BK554.out 0).trans rfl, (blk_cell BK554.out 1).trans rfl⟩ (fun hHeld => ?_)
       clear hK K
       refine norm_ (a' := ?_) ?_ ?_
       rotate_left
       ·show Act.put _ (some 64) _ = _
        simp only [Act.put, y1, y2, y3, i64_w, i32_w]
        rfl
       refine one_ (i := 11) (N := some 65) (bz 15 4095) rfl rfl (one_of HT_.out (by kernel_rfl)) (by decide) (fun K hK => ?_)
       refine goes_ Try.func82 (by kernel_rfl) rfl #[.int .i64 (wrap64 (t557 * t557)), .int .i64 t561] (by rfl) rfl rfl (by (try simp only [List.map_toArray, List.map_cons, List.map_nil]); first | done | rfl | (simp only [List.length_drop, List.length_take]; rfl)) ?_
       with_reducible refine (impl_fracOf.calls kj34 (wrap64 (t557 * t557)) t561 t562 t563 _ A92.out).mono ?_
       rintro e w109 ⟨rfl, hb⟩
       refine ⟨_, rfl, ?_⟩
       replace BK545 := Aside0.mk (blk_below (g := gb545) (o := .cells #[.int .i64 a0_0, .int .i64 a0_1, .int .i64 a0_2, .int .i64 a0_3, .int .i64 a0_4, .int .i64 a0_5] 25 (0, 0)) (by (with_reducible repeat (first | refine z1 ?_ _ | refine z2 ?_ | refine z3 ?_ _)); exact BK545.out) hb)
       replace BK546 := Aside0.mk (blk_below (g := gb546) (o := .cells #[.int .i64 a1_0, .int .i64 a1_1, .int .i64 a1_2, .int .i64 a1_3, .int .i64 a1_4, .int .i64 a1_5] 25 (0, 0)) (by (with_reducible repeat (first | refine z1 ?_ _ | refine z2 ?_ | refine z3 ?_ _)); exact BK546.out) hb)
       replace BK547 := Aside0.mk (blk_below (g := gb547) (o := .cells #[.int .i64 0, .int .i64 0] 58 (0, 0)) (by (with_reducible repeat (first | refine z1 ?_ _ | refine z2 ?_ | refine z3 ?_ _)); exact BK547.out) hb)
       replace BK548 := Aside0.mk (blk_below (g := gb548) (o := .cells #[.int .i64 0, .int .i64 0] 58 (0, 0)) (by (with_reducible repeat (first | refine z1 ?_ _ | refine z2 ?_ | refine z3 ?_ _)); exact BK548.out) hb)
       replace BK553 := Aside0.mk (blk_below (g := gb553) (o := .cells #[.int .i64 t551, .int .i64 t552] 89 (0, 0)) (by (with_reducible repeat (first | refine z1 ?_ _ | refine z2 ?_ | refine z3 ?_ _)); exact BK553.out) hb)
       replace BK554 := Aside0.mk (blk_below (g := gb554) (o := .cells #[.int .i64 (wrap64 (a1_2 - a0_2)), .int .i64 (wrap64 (a1_3 - a0_3))] 89 (0, 0)) (by (with_reducible repeat (first | refine z1 ?_ _ | refine z2 ?_ | refine z3 ?_ _)); exact BK554.out) hb)
       replace HB := Aside0.mk (below_step (by repeat (first | (with_reducible first | exact HB.out | apply below_alloc | apply pw_below_drewN | apply below_drew1 | refine below_set ?_ GE545.out | refine below_set ?_ GE546.out | refine below_set ?_ GE547.out | refine below_set ?_ GE548.out | refine below_set ?_ GE553.out | refine below_set ?_ GE554.out) | exact HB.out)) hb)
       (try clear hb)
       (try clear hb2)
       (try clear hk)
       (try clear hi)
       refine hK.out _ _ ⟨(blk_cell BK554.out 0).trans rfl, (blk_cell BK554.out 1).trans rfl⟩ (fun hHeld => ?_)
       clear hK K
       refine norm_ (a' := ?_) ?_ ?_
       rotate_left
       ·show Act.put _ (some 65) _ = _
        simp only [Act.put, y1, y2, y3, i64_w, i32_w]
        rfl
       refine one_ (i := 12) (N := none) (bz 15 8191) rfl rfl (one_of HT_.out (by kernel_rfl)) (by decide) (fun K hK => ?_)
       have hs110 : w109.cell? ⟨gb547, 0, none⟩ = some (.int .i64 0) := (blk_cell BK547.out 0).trans rfl
       have hfs110 := blk_frozen BK547.out 0
       have hns110_0 := NB545_547.out
       have hns110_1 := NB546_547.out
       have hns110_3 := NB548_547.out
       have hns110_4 := NB553_547.out
       have hns110_5 := NB554_547.out
       have hms110_0 := NB547_545.out
       have hms110_1 := NB547_546.out
       have hms110_3 := NB547_548.out
       have hms110_4 := NB547_553.out
       have hms110_5 := NB547_554.out
       have hs111 : w109.cell? ⟨gb547, 1, none⟩ = some (.int .i64 0) := (blk_cell BK547.out 1).trans rfl
       have hfs111 := blk_frozen BK547.out 1
       refine skip_ (w1 := ?_) (by rfl) rfl ?_ ?_
       rotate_left
       ·go_simp
        rfl
       refine hK.out _ _ ⟨((cell_far (p := ⟨gb547, _, none⟩) NB554_547.out _).trans (((cell_far (p := ⟨gb547, _, none⟩) NB554_547.out _).trans (hHeld.1)))), ((cell_far (p := ⟨gb547, _, none⟩) NB554_547.out _).trans (((cell_far (p := ⟨gb547, _, none⟩) NB554_547.out _).trans (hHeld.2))))⟩ (fun hHeld => ?_)
       clear hK K
       refine one_ (i := 13) (N := none) (bz 15 16383) rfl rfl (one_of HT_.out (by kernel_rfl)) (by decide) (fun K hK => ?_)
       have hs112 : w109.cell? ⟨gb548, 0, none⟩ = some (.int .i64 0) := (blk_cell BK548.out 0).trans rfl
       have hfs112 := blk_frozen BK548.out 0
       have hns112_0 := NB545_548.out
       have hns112_1 := NB546_548.out
       have hns112_2 := NB547_548.out
       have hns112_4 := NB553_548.out
       have hns112_5 := NB554_548.out
       have hms112_0 := NB548_545.out
       have hms112_1 := NB548_546.out
       have hms112_2 := NB548_547.out
       have hms112_4 := NB548_553.out
       have hms112_5 := NB548_554.out
       have hs113 : w109.cell? ⟨gb548, 1, none⟩ = some (.int .i64 0) := (blk_cell BK548.out 1).trans rfl
       have hfs113 := blk_frozen BK548.out 1
       refine skip_ (w1 := ?_) (by rfl) rfl ?_ ?_
       rotate_left
       ·go_simp
        rfl
       refine hK.out _ _ ⟨((cell_far (p := ⟨gb548, _, none⟩) NB554_548.out _).trans (((cell_far (p := ⟨gb548, _, none⟩) NB554_548.out _).trans (hHeld.1)))), ((cell_far (p := ⟨gb548, _, none⟩) NB554_548.out _).trans (((cell_far (p := ⟨gb548, _, none⟩) NB554_548.out _).trans (hHeld.2))))⟩ (fun hHeld => ?_)
       clear hK K
       refine pure_ (i := 14) (N := some 6) (v := ?_) (a' := ?_) (bz 15 32767) rfl rfl (any_of HT_.out (by kernel_rfl)) (fun _ _ _ h => h) (Or.inl ⟨by rfl, ?_⟩) ?_ ?_
       rotate_left
       ·intro w'
        go_simp
        with_reducible rfl
       rotate_left
       ·simp only [Act.put, y1, y2, y3, i64_w, i32_w]
        rfl
       refine done_ (done_of HT_.out (by kernel_rfl)) ?_
       try go_wp2
       refine bodyPost_ret (results_list (rs := [.cell 4 58, .cell 5 58, .tmp 6]) rfl (by simp) (.cell gb547 58 #[.int .i64 t559, .int .i64 t560] (0, 0) _ rfl (by (with_reducible repeat (first | refine blk_drewN ?_ _ | refine blk_drew ?_ | refine blk_alloc ?_ _)); refine blk_far ?_ NB547_548.out _; (with_reducible repeat (first | refine blk_drewN ?_ _ | refine blk_drew ?_ | refine blk_alloc ?_ _)); refine blk_far ?_ NB547_548.out _; (with_reducible repeat (first | refine blk_drewN ?_ _ | refine blk_drew ?_ | refine blk_alloc ?_ _)); refine blk_put (cs := #[.int .i64 t559, .int .i64 0]) ?_ 1 _ rfl; (with_reducible repeat (first | refine blk_drewN ?_ _ | refine blk_drew ?_ | refine blk_alloc ?_ _)); refine blk_put (cs := #[.int .i64 0, .int .i64 0]) ?_ 0 _ rfl; (with_reducible repeat (first | refine blk_drewN ?_ _ | refine blk_drew ?_ | refine blk_alloc ?_ _)); exact BK547.out) Try.underlying58 rfl (by kernel_rfl) (.cell gb548 58 #[.int .i64 t562, .int .i64 t563] (0, 0) _ rfl (by (with_reducible repeat (first | refine blk_drewN ?_ _ | refine blk_drew ?_ | refine blk_alloc ?_ _)); refine blk_put (cs := #[.int .i64 t562, .int .i64 0]) ?_ 1 _ rfl; (with_reducible repeat (first | refine blk_drewN ?_ _ | refine blk_drew ?_ | refine blk_alloc ?_ _)); refine blk_put (cs := #[.int .i64 0, .int .i64 0]) ?_ 0 _ rfl; (with_reducible repeat (first | refine blk_drewN ?_ _ | refine blk_drew ?_ | refine blk_alloc ?_ _)); refine blk_far ?_ NB548_547.out _; (with_reducible repeat (first | refine blk_drewN ?_ _ | refine blk_drew ?_ | refine blk_alloc ?_ _)); refine blk_far ?_ NB548_547.out _; (with_reducible repeat (first | refine blk_drewN ?_ _ | refine blk_drew ?_ | refine blk_alloc ?_ _)); exact BK548.out) Try.underlying58 rfl (by kernel_rfl) (.tmp .nil)))) rfl ?_
       exact ⟨by first | rfl | (simp [errW_none, errW_some] <;> rfl) | (simp [*, errW_none, errW_some] <;> rfl), by repeat (first | (with_reducible first | exact HB.out | apply below_alloc | apply pw_below_drewN | apply below_drew1 | refine below_set ?_ GE545.out | refine below_set ?_ GE546.out | refine below_set ?_ GE547.out | refine below_set ?_ GE548.out | refine below_set ?_ GE553.out | refine below_set ?_ GE554.out) | exact HB.out)⟩

end Go.Proofs.Ytfbokdbaondjdaa.PV1
-- printed for this claim out of the translation
namespace Go.Proofs.Ytfbokdbaondjdaa.PV1
open Go.RowKit Go.Proofs.YtfbokdbaondjdaaW.PrintWords Go.Proofs.YtfbokdbaondjdaaW.PrintLast Go.Proofs.YtfbokdbaondjdaaW.PrintMore Go.Proofs.Ytfbokdbaondjdaa.Cz
attribute [local go_sem] max2_int min2_int max_two min_two max_three min_three max_four min_four
set_option linter.unusedVariables false
set_option linter.unusedSimpArgs false

/-! ### impl_Moved: function 26 -/
def impl_Moved.j0 : Nat → Int → Bool → Int → Int → Int → Int → Int → Int → Option (Int × Int × Int × Int × Int × Int × Bool)
 | 0, _, _, _, _, _, _, _, _ => none
 | k + 1, x1, x13, x609000, x609001, x609002, x609003, x609004, x609005 => if x13 = true then (some (0, 0, 0, 0, 0, 0, false)) else ((impl_ShipOk.f (wrap64 (x609000 + (wrap64 (x609002 * x1)))) (wrap64 (x609001 + (wrap64 (x609003 * x1)))) x609002 x609003 x609004 x609005).bind fun t612 => (if t612 = true then (some (wrap64 (x609000 + (wrap64 (x609002 * x1))), wrap64 (x609001 + (wrap64 (x609003 * x1))), x609002, x609003, x609004, x609005, true)) else (some (0, 0, 0, 0, 0, 0, false))))
def impl_Moved.f (k : Nat) (a0_0 : Int) (a0_1 : Int) (a0_2 : Int) (a0_3 : Int) (a0_4 : Int) (a0_5 : Int) (a1 : Int) : Option (Int × Int × Int × Int × Int × Int × Bool) := (impl_ShipOk.f a0_0 a0_1 a0_2 a0_3 a0_4 a0_5).bind fun t610 => (if t610 = true then ((impl_in.f a1 0 100).bind fun t611 => (impl_Moved.j0 k a1 (!t611) a0_0 a0_1 a0_2 a0_3 a0_4 a0_5)) else (impl_Moved.j0 k a1 true a0_0 a0_1 a0_2 a0_3 a0_4 a0_5))
theorem impl_Moved.mono_l : ∀ k, (∀ y0 y1 y2 y3 y4 y5 y6 y7, LeO (impl_Moved.j0 k y0 y1 y2 y3 y4 y5 y6 y7) (impl_Moved.j0 (k + 1) y0 y1 y2 y3 y4 y5 y6 y7))
 | 0 => fun _ _ _ _ _ _ _ _ r h => by simp [impl_Moved.j0] at h
 | k + 1 => by
  have ih0 := impl_Moved.mono_l k
  ·intro y0 y1 y2 y3 y4 y5 y6 y7
   unfold impl_Moved.j0
   repeat' first
   | (with_reducible exact ih0 _ _ _ _ _ _ _ _)
   | (with_reducible exact LeO.refl _)
   | (with_reducible exact LeO.none _)
   | (with_reducible refine LeO.ite ?_ ?_)
   | (with_reducible refine LeO.bind ?_ (fun _ => ?_))
   | exact ih0 _ _ _ _ _ _ _ _
   | exact LeO.none _
   | refine LeO.ite ?_ ?_
   | refine LeO.bind ?_ (fun _ => ?_)
theorem impl_Moved.mono : ∀ a0 a1 a2 a3 a4 a5 a6 k, LeO (impl_Moved.f k a0 a1 a2 a3 a4 a5 a6) (impl_Moved.f (k + 1) a0 a1 a2 a3 a4 a5 a6) := by
 intro a0 a1 a2 a3 a4 a5 a6 k
 have ih0 := impl_Moved.mono_l k
 unfold impl_Moved.f
 repeat' first
   | (with_reducible exact ih0 _ _ _ _ _ _ _ _)
   | (with_reducible exact LeO.refl _)
   | (with_reducible exact LeO.none _)
   | (with_reducible refine LeO.ite ?_ ?_)
   | (with_reducible refine LeO.bind ?_ (fun _ => ?_))
   | exact ih0 _ _ _ _ _ _ _ _
   | exact LeO.none _
   | refine LeO.ite ?_ ?_
   | refine LeO.bind ?_ (fun _ => ?_)
set_option maxHeartbeats 8000000 in
set_option maxRecDepth 100000 in
theorem impl_Moved.calls (k : Nat) (a0_0 : Int) (a0_1 : Int) (a0_2 : Int) (a0_3 : Int) (a0_4 : Int) (a0_5 : Int) (a1 : Int) (r1 : Int) (r2 : Int) (r3 : Int) (r4 : Int) (r5 : Int) (r6 : Int) (r7 : Bool) (w : World) (h : impl_Moved.f k a0_0 a0_1 a0_2 a0_3 a0_4 a0_5 a1 = some (r1, r2, r3, r4, r5, r6, r7)) :
  Calls Try.prog 26 #[.agg #[.int .i64 a0_0, .int .i64 a0_1, .int .i64 a0_2, .int .i64 a0_3, .int .i64 a0_4, .int .i64 a0_5], .int .i64 a1] w fun e w' => e = .returned (.tuple #[.agg #[.int .i64 r1, .int .i64 r2, .int .i64 r3, .int .i64 r4, .int .i64 r5, .int .i64 r6], .bool r7]) ∧ Below w.heap.size w w' := by
 have hu25 := Try.underlying25
 have HB := Aside0.mk (Below.refl w.heap.size w)
 have H : ((impl_ShipOk.f a0_0 a0_1 a0_2 a0_3 a0_4 a0_5).bind fun t610 => (if t610 = true then ((impl_in.f a1 0 100).bind fun t611 => (impl_Moved.j0 k a1 (!t611) a0_0 a0_1 a0_2 a0_3 a0_4 a0_5)) else (impl_Moved.j0 k a1 true a0_0 a0_1 a0_2 a0_3 a0_4 a0_5))) = some (r1, r2, r3, r4, r5, r6, r7) := h
 clear h
 have HC3 := Aside0.mk H
 clear H
 go_enter Try.func26, Try.ntmps26
 go_upto_region 1 with (first | ((with_reducible refine gate_dst (N := 2) rfl ?_); refine box_event ?hg (N := 2) ?hd (cs := #[.int .i64 a0_0, .int .i64 a0_1, .int .i64 a0_2, .int .i64 a0_3, .int .i64 a0_4, .int .i64 a0_5]) (t := 25) ?hr ?_; (case hd => rfl); (case hg => rfl); (case hr => first | (go_simp; done) | (go_simp; rfl)); intro gb608 hg w4 hbox hb; replace BK608 := Aside0.mk (hbox); replace GW608 := Aside0.mk ((by rw [hg]; exact (below_size (by repeat (first | (with_reducible first | exact HB.out | apply below_alloc | apply pw_below_drewN | apply below_drew1) | exact HB.out))) : w.heap.size ≤ gb608)); replace GE608 := Aside0.mk ((by rw [hg]; exact (below_size (by repeat (first | (with_reducible first | exact HB.out | apply below_alloc | apply pw_below_drewN | apply below_drew1) | exact HB.out))) : w.heap.size ≤ gb608)); replace HB := Aside0.mk (below_step (by repeat (first | (with_reducible first | exact HB.out | apply below_alloc | apply pw_below_drewN | apply below_drew1) | exact HB.out)) hb); clear hb hbox hg) | ((with_reducible refine gate_dst (N := 4) rfl ?_); refine box_event ?hg (N := 4) ?hd (cs := #[.int .i64 0, .int .i64 0, .int .i64 0, .int .i64 0, .int .i64 0, .int .i64 0]) (t := 25) ?hr ?_; (case hd => rfl); (case hg => rfl); (case hr => first | (go_simp; done) | (go_simp; rfl)); intro gb609 hg w5 hbox hb; replace BK609 := Aside0.mk (hbox); replace GW609 := Aside0.mk ((by rw [hg]; exact (below_size (by repeat (first | (with_reducible first | exact HB.out | apply below_alloc | apply pw_below_drewN | apply below_drew1 | refine below_set ?_ GE608.out) | exact HB.out))) : w.heap.size ≤ gb609)); replace GE609 := Aside0.mk ((by rw [hg]; exact (below_size (by repeat (first | (with_reducible first | exact HB.out | apply below_alloc | apply pw_below_drewN | apply below_drew1 | refine below_set ?_ GE608.out) | exact HB.out))) : w.heap.size ≤ gb609)); replace HB := Aside0.mk (below_step (by repeat (first | (with_reducible first | exact HB.out | apply below_alloc | apply pw_below_drewN | apply below_drew1 | refine below_set ?_ GE608.out) | exact HB.out)) hb); replace NB608_609 := Aside0.mk ((by rw [hg]; exact Nat.ne_of_lt (blk_lt (g := gb608) (o := .cells #[.int .i64 a0_0, .int .i64 a0_1, .int .i64 a0_2, .int .i64 a0_3, .int .i64 a0_4, .int .i64 a0_5] 25 (0, 0)) (by (with_reducible repeat (first | refine z1 ?_ _ | refine z2 ?_ | refine z3 ?_ _)); exact BK608.out)) : gb608 ≠ gb609)); replace NB609_608 := Aside0.mk ((by rw [hg]; exact Nat.ne_of_gt (blk_lt (g := gb608) (o := .cells #[.int .i64 a0_0, .int .i64 a0_1, .int .i64 a0_2, .int .i64 a0_3, .int .i64 a0_4, .int .i64 a0_5] 25 (0, 0)) (by (with_reducible repeat (first | refine z1 ?_ _ | refine z2 ?_ | refine z3 ?_ _)); exact BK608.out)) : gb609 ≠ gb608)); replace BK608 := Aside0.mk (blk_below (g := gb608) (o := .cells #[.int .i64 a0_0, .int .i64 a0_1, .int .i64 a0_2, .int .i64 a0_3, .int .i64 a0_4, .int .i64 a0_5] 25 (0, 0)) (by (with_reducible repeat (first | refine z1 ?_ _ | refine z2 ?_ | refine z3 ?_ _)); exact BK608.out) hb); clear hb hbox hg))
 (try simp only [Act.put, List.setIfInBounds_toArray, List.set_cons_zero, List.set_cons_succ])
 go_cut [13] (fun v13 wc => ∃ (kq : Nat) (x13_2 : Bool), v13 = .bool x13_2 ∧ Aside0 (impl_Moved.j0 kq a1 x13_2 a0_0 a0_1 a0_2 a0_3 a0_4 a0_5 = some (r1, r2, r3, r4, r5, r6, r7)) ∧ Aside0 (kq ≤ k) ∧ Aside0 (wc.heap[gb608]? = some (.cells #[.int .i64 a0_0, .int .i64 a0_1, .int .i64 a0_2, .int .i64 a0_3, .int .i64 a0_4, .int .i64 a0_5] 25 (0, 0))) ∧ Aside0 (wc.heap[gb609]? = some (.cells #[.int .i64 0, .int .i64 0, .int .i64 0, .int .i64 0, .int .i64 0, .int .i64 0] 25 (0, 0))) ∧ Aside0 (Below w.heap.size w wc))
 case first =>
  have H := HC3.out
  clear HC3
  replace H := Option.bind_eq_some_iff.mp H
  obtain ⟨t610, A60, H⟩ := H
  replace H : (if t610 = true then ((impl_in.f a1 0 100).bind fun t611 => (impl_Moved.j0 k a1 (!t611) a0_0 a0_1 a0_2 a0_3 a0_4 a0_5)) else (impl_Moved.j0 k a1 true a0_0 a0_1 a0_2 a0_3 a0_4 a0_5)) = some (r1, r2, r3, r4, r5, r6, r7) := H
  have A6 := Aside0.mk A60
  clear A60
  by_cases c7 : t610 = true
  ·subst c7
   have H1 : ((impl_in.f a1 0 100).bind fun t611 => (impl_Moved.j0 k a1 (!t611) a0_0 a0_1 a0_2 a0_3 a0_4 a0_5)) = some (r1, r2, r3, r4, r5, r6, r7) := by rw [if_pos rfl] at H; exact H
   clear H
   have H := H1
   clear H1
   replace H := Option.bind_eq_some_iff.mp H
   obtain ⟨t611, A80, H⟩ := H
   replace H : (impl_Moved.j0 k a1 (!t611) a0_0 a0_1 a0_2 a0_3 a0_4 a0_5) = some (r1, r2, r3, r4, r5, r6, r7) := H
   have A8 := Aside0.mk A80
   clear A80
   have H' := Aside0.mk H
   clear H
   have hnb9 := NB608_609.out
   have hnc9 := NB609_608.out
   obtain ⟨hcz10_0, hcz10_1, hcz10_2, hcz10_3, hcz10_4, hcz10_5, hfz10_0, hfz10_1, hfz10_2, hfz10_3, hfz10_4, hfz10_5⟩ := six BK608
   go_wp2_with (first | ((with_reducible refine gate_callee (f := 17) rfl ?_); refine goesL_ (some 7) rfl rfl Try.func17 (by kernel_rfl) rfl #[.agg #[.int .i64 a0_0, .int .i64 a0_1, .int .i64 a0_2, .int .i64 a0_3, .int .i64 a0_4, .int .i64 a0_5]] rfl (by (try simp only [List.map_toArray, List.map_cons, List.map_nil]); first | done | rfl | (simp only [List.length_drop, List.length_take]; rfl)) ?_; (with_reducible refine (impl_ShipOk.calls a0_0 a0_1 a0_2 a0_3 a0_4 a0_5 true _ A6.out).mono ?_); rintro e w11 ⟨rfl, hb⟩; refine ⟨_, rfl, ?_⟩; replace BK608 := Aside0.mk (blk_below (g := gb608) (o := .cells #[.int .i64 a0_0, .int .i64 a0_1, .int .i64 a0_2, .int .i64 a0_3, .int .i64 a0_4, .int .i64 a0_5] 25 (0, 0)) (by (with_reducible repeat (first | refine z1 ?_ _ | refine z2 ?_ | refine z3 ?_ _)); exact BK608.out) hb); replace BK609 := Aside0.mk (blk_below (g := gb609) (o := .cells #[.int .i64 0, .int .i64 0, .int .i64 0, .int .i64 0, .int .i64 0, .int .i64 0] 25 (0, 0)) (by (with_reducible repeat (first | refine z1 ?_ _ | refine z2 ?_ | refine z3 ?_ _)); exact BK609.out) hb); replace HB := Aside0.mk (below_step (by repeat (first | (with_reducible first | exact HB.out | apply below_alloc | apply pw_below_drewN | apply below_drew1 | refine below_set ?_ GE608.out | refine below_set ?_ GE609.out) | exact HB.out)) hb); (try clear hb); (try clear hb2); (try clear hk); (try clear hi)) | (go_at_call 56; (with_reducible refine (impl_in.calls a1 0 100 t611 _ A8.out).mono ?_); rintro e w' ⟨rfl, ⟨nd, rfl⟩⟩))
   go_meet
   case rel => exact ⟨_, (!t611), (by first | rfl | (simp; done) | (simp [*]; done)), H', ⟨by first | omega | exact Nat.le_refl _⟩, ⟨by (with_reducible repeat (first | refine blk_drewN ?_ _ | refine blk_drew ?_ | refine blk_alloc ?_ _)); exact BK608.out⟩, ⟨by (with_reducible repeat (first | refine blk_drewN ?_ _ | refine blk_drew ?_ | refine blk_alloc ?_ _)); exact BK609.out⟩, ⟨by repeat (first | (with_reducible first | exact HB.out | apply below_alloc | apply pw_below_drewN | apply below_drew1 | refine below_set ?_ GE608.out | refine below_set ?_ GE609.out) | exact HB.out)⟩⟩
  ·replace c7 := Bool.eq_false_iff.mpr c7
   subst c7
   have H1 : (impl_Moved.j0 k a1 true a0_0 a0_1 a0_2 a0_3 a0_4 a0_5) = some (r1, r2, r3, r4, r5, r6, r7) := by rw [if_neg (show ¬ (false = true) by decide)] at H; exact H
   clear H
   have H := H1
   clear H1
   have H' := Aside0.mk H
   clear H
   have hnb12 := NB608_609.out
   have hnc12 := NB609_608.out
   obtain ⟨hcz13_0, hcz13_1, hcz13_2, hcz13_3, hcz13_4, hcz13_5, hfz13_0, hfz13_1, hfz13_2, hfz13_3, hfz13_4, hfz13_5⟩ := six BK608
   go_wp2_with (first | ((with_reducible refine gate_callee (f := 17) rfl ?_); refine goesL_ (some 7) rfl rfl Try.func17 (by kernel_rfl) rfl #[.agg #[.int .i64 a0_0, .int .i64 a0_1, .int .i64 a0_2, .int .i64 a0_3, .int .i64 a0_4, .int .i64 a0_5]] rfl (by (try simp only [List.map_toArray, List.map_cons, List.map_nil]); first | done | rfl | (simp only [List.length_drop, List.length_take]; rfl)) ?_; (with_reducible refine (impl_ShipOk.calls a0_0 a0_1 a0_2 a0_3 a0_4 a0_5 false _ A6.out).mono ?_); rintro e w14 ⟨rfl, hb⟩; refine ⟨_, rfl, ?_⟩; replace BK608 := Aside0.mk (blk_below (g := gb608) (o := .cells #[.int .i64 a0_0, .int .i64 a0_1, .int .i64 a0_2, .int .i64 a0_3, .int .i64 a0_4, .int .i64 a0_5] 25 (0, 0)) (by (with_reducible repeat (first | refine z1 ?_ _ | refine z2 ?_ | refine z3 ?_ _)); exact BK608.out) hb); replace BK609 := Aside0.mk (blk_below (g := gb609) (o := .cells #[.int .i64 0, .int .i64 0, .int .i64 0, .int .i64 0, .int .i64 0, .int .i64 0] 25 (0, 0)) (by (with_reducible repeat (first | refine z1 ?_ _ | refine z2 ?_ | refine z3 ?_ _)); exact BK609.out) hb); replace HB := Aside0.mk (below_step (by repeat (first | (with_reducible first | exact HB.out | apply below_alloc | apply pw_below_drewN | apply below_drew1 | refine below_set ?_ GE608.out | refine below_set ?_ GE609.out) | exact HB.out)) hb); (try clear hb); (try clear hb2); (try clear hk); (try clear hi)))
   go_meet
   case rel => exact ⟨_, (true), (by first | rfl | (simp; done) | (simp [*]; done)), H', ⟨by first | omega | exact Nat.le_refl _⟩, ⟨by (with_reducible repeat (first | refine blk_drewN ?_ _ | refine blk_drew ?_ | refine blk_alloc ?_ _)); exact BK608.out⟩, ⟨by (with_reducible repeat (first | refine blk_drewN ?_ _ | refine blk_drew ?_ | refine blk_alloc ?_ _)); exact BK609.out⟩, ⟨by repeat (first | (with_reducible first | exact HB.out | apply below_alloc | apply pw_below_drewN | apply below_drew1 | refine below_set ?_ GE608.out | refine below_set ?_ GE609.out) | exact HB.out)⟩⟩
 case rest =>
  clear HC3
  (try clear c1); (try clear c2); (try clear p2); (try clear c7); (try clear c9); (try clear c12); (try clear hcz10_0); (try clear hcz10_1); (try clear hcz10_2); (try clear hcz10_3); (try clear hcz10_4); (try clear hcz10_5); (try clear hcz13_0); (try clear hcz13_1); (try clear hcz13_2); (try clear hcz13_3); (try clear hcz13_4); (try clear hcz13_5); (try clear hfz10_0); (try clear hfz10_1); (try clear hfz10_2); (try clear hfz10_3); (try clear hfz10_4); (try clear hfz10_5); (try clear hfz13_0); (try clear hfz13_1); (try clear hfz13_2); (try clear hfz13_3); (try clear hfz13_4); (try clear hfz13_5)
  obtain ⟨kq, x13_2, rfl, HA, HJ2, BK608, BK609, HB⟩ := hcut
  cases kq with
  | zero => exact absurd HA.out (by simp [impl_Moved.j0])
  | succ kj2 =>
   have H := HA.out
   clear HA
   simp only [impl_Moved.j0] at H
   by_cases c15 : x13_2 = true
   ·subst c15
    have H1 : (some (0, 0, 0, 0, 0, 0, false)) = some (r1, r2, r3, r4, r5, r6, r7) := by rw [if_pos rfl] at H; exact H
    clear H
    have H := H1
    clear H1
    simp only [Option.some.injEq, Prod.mk.injEq] at H
    obtain ⟨rfl, rfl, rfl, rfl, rfl, rfl, rfl⟩ := H
    have hnb16 := NB609_608.out
    have hnc16 := NB608_609.out
    obtain ⟨hcz17_0, hcz17_1, hcz17_2, hcz17_3, hcz17_4, hcz17_5, hfz17_0, hfz17_1, hfz17_2, hfz17_3, hfz17_4, hfz17_5⟩ := six BK609
    go_wp2
    refine bodyPost_ret (results_ct rfl _ _ gb609 25 #[.int .i64 0, .int .i64 0, .int .i64 0, .int .i64 0, .int .i64 0, .int .i64 0] (0, 0) _ rfl (by (with_reducible repeat (first | refine blk_drewN ?_ _ | refine blk_drew ?_ | refine blk_alloc ?_ _)); refine blk_put (cs := #[.int .i64 0, .int .i64 0, .int .i64 0, .int .i64 0, .int .i64 0, .int .i64 0]) ?_ 5 _ rfl; (with_reducible repeat (first | refine blk_drewN ?_ _ | refine blk_drew ?_ | refine blk_alloc ?_ _)); refine blk_put (cs := #[.int .i64 0, .int .i64 0, .int .i64 0, .int .i64 0, .int .i64 0, .int .i64 0]) ?_ 4 _ rfl; (with_reducible repeat (first | refine blk_drewN ?_ _ | refine blk_drew ?_ | refine blk_alloc ?_ _)); refine blk_put (cs := #[.int .i64 0, .int .i64 0, .int .i64 0, .int .i64 0, .int .i64 0, .int .i64 0]) ?_ 3 _ rfl; (with_reducible repeat (first | refine blk_drewN ?_ _ | refine blk_drew ?_ | refine blk_alloc ?_ _)); refine blk_put (cs := #[.int .i64 0, .int .i64 0, .int .i64 0, .int .i64 0, .int .i64 0, .int .i64 0]) ?_ 2 _ rfl; (with_reducible repeat (first | refine blk_drewN ?_ _ | refine blk_drew ?_ | refine blk_alloc ?_ _)); refine blk_put (cs := #[.int .i64 0, .int .i64 0, .int .i64 0, .int .i64 0, .int .i64 0, .int .i64 0]) ?_ 1 _ rfl; (with_reducible repeat (first | refine blk_drewN ?_ _ | refine blk_drew ?_ | refine blk_alloc ?_ _)); refine blk_put (cs := #[.int .i64 0, .int .i64 0, .int .i64 0, .int .i64 0, .int .i64 0, .int .i64 0]) ?_ 0 _ rfl; (with_reducible repeat (first | refine blk_drewN ?_ _ | refine blk_drew ?_ | refine blk_alloc ?_ _)); exact BK609.out) Try.underlying25 rfl (by kernel_rfl)) rfl ?_
    exact ⟨by first | rfl | (simp [errW_none, errW_some] <;> rfl) | (simp [*, errW_none, errW_some] <;> rfl), by repeat (first | (with_reducible first | exact HB.out | apply below_alloc | apply pw_below_drewN | apply below_drew1 | refine below_set ?_ GE608.out | refine below_set ?_ GE609.out) | exact HB.out)⟩
   ·replace c15 := Bool.eq_false_iff.mpr c15
    subst c15
    have H1 : ((impl_ShipOk.f (wrap64 (a0_0 + (wrap64 (a0_2 * a1)))) (wrap64 (a0_1 + (wrap64 (a0_3 * a1)))) a0_2 a0_3 a0_4 a0_5).bind fun t612 => (if t612 = true then (some (wrap64 (a0_0 + (wrap64 (a0_2 * a1))), wrap64 (a0_1 + (wrap64 (a0_3 * a1))), a0_2, a0_3, a0_4, a0_5, true)) else (some (0, 0, 0, 0, 0, 0, false)))) = some (r1, r2, r3, r4, r5, r6, r7) := by rw [if_neg (show ¬ (false = true) by decide)] at H; exact H
    clear H
    have H := H1
    clear H1
    replace H := Option.bind_eq_some_iff.mp H
    obtain ⟨t612, A180, H⟩ := H
    replace H : (if t612 = true then (some (wrap64 (a0_0 + (wrap64 (a0_2 * a1))), wrap64 (a0_1 + (wrap64 (a0_3 * a1))), a0_2, a0_3, a0_4, a0_5, true)) else (some (0, 0, 0, 0, 0, 0, false))) = some (r1, r2, r3, r4, r5, r6, r7) := H
    have A18 := Aside0.mk A180
    clear A180
    by_cases c19 : t612 = true
    ·subst c19
     have H1 : (some (wrap64 (a0_0 + (wrap64 (a0_2 * a1))), wrap64 (a0_1 + (wrap64 (a0_3 * a1))), a0_2, a0_3, a0_4, a0_5, true)) = some (r1, r2, r3, r4, r5, r6, r7) := by rw [if_pos rfl] at H; exact H
     clear H
     have H := H1
     clear H1
     simp only [Option.some.injEq, Prod.mk.injEq] at H
     obtain ⟨rfl, rfl, rfl, rfl, rfl, rfl, rfl⟩ := H
     have hnb20 := NB608_609.out
     have hnc20 := NB609_608.out
     obtain ⟨hcz21_0, hcz21_1, hcz21_2, hcz21_3, hcz21_4, hcz21_5, hfz21_0, hfz21_1, hfz21_2, hfz21_3, hfz21_4, hfz21_5⟩ := six BK608
     go_wp2_with (first | ((with_reducible refine gate_callee (f := 17) rfl ?_); refine goesL_ (some 32) rfl rfl Try.func17 (by kernel_rfl) rfl #[.agg #[.int .i64 (wrap64 (a0_0 + (wrap64 (a0_2 * a1)))), .int .i64 (wrap64 (a0_1 + (wrap64 (a0_3 * a1)))), .int .i64 a0_2, .int .i64 a0_3, .int .i64 a0_4, .int .i64 a0_5]] rfl (by (try simp only [List.map_toArray, List.map_cons, List.map_nil]); first | done | rfl | (simp only [List.length_drop, List.length_take]; rfl)) ?_; (with_reducible refine (impl_ShipOk.calls (wrap64 (a0_0 + (wrap64 (a0_2 * a1)))) (wrap64 (a0_1 + (wrap64 (a0_3 * a1)))) a0_2 a0_3 a0_4 a0_5 true _ A18.out).mono ?_); rintro e w22 ⟨rfl, hb⟩; refine ⟨_, rfl, ?_⟩; replace BK608 := Aside0.mk (blk_below (g := gb608) (o := .cells #[.int .i64 (wrap64 (a0_0 + (wrap64 (a0_2 * a1)))), .int .i64 (wrap64 (a0_1 + (wrap64 (a0_3 * a1)))), .int .i64 a0_2, .int .i64 a0_3, .int .i64 a0_4, .int .i64 a0_5] 25 (0, 0)) (by (with_reducible repeat (first | refine blk_drewN ?_ _ | refine blk_drew ?_ | refine blk_alloc ?_ _)); refine blk_put (cs := #[.int .i64 (wrap64 (a0_0 + (wrap64 (a0_2 * a1)))), .int .i64 a0_1, .int .i64 a0_2, .int .i64 a0_3, .int .i64 a0_4, .int .i64 a0_5]) ?_ 1 _ rfl; (with_reducible repeat (first | refine blk_drewN ?_ _ | refine blk_drew ?_ | refine blk_alloc ?_ _)); refine blk_put (cs := #[.int .i64 a0_0, .int .i64 a0_1, .int .i64 a0_2, .int .i64 a0_3, .int .i64 a0_4, .int .i64 a0_5]) ?_ 0 _ rfl; (with_reducible repeat (first | refine blk_drewN ?_ _ | refine blk_drew ?_ | refine blk_alloc ?_ _)); exact BK608.out) hb); replace BK609 := Aside0.mk (blk_below (g := gb609) (o := .cells #[.int .i64 0, .int .i64 0, .int .i64 0, .int .i64 0, .int .i64 0, .int .i64 0] 25 (0, 0)) (by (with_reducible repeat (first | refine blk_drewN ?_ _ | refine blk_drew ?_ | refine blk_alloc ?_ _)); refine blk_far ?_ NB609_608.out _; (with_reducible repeat (first | refine blk_drewN ?_ _ | refine blk_drew ?_ | refine blk_alloc ?_ _)); refine blk_far ?_ NB609_608.out _; (with_reducible repeat (first | refine blk_drewN ?_ _ | refine blk_drew ?_ | refine blk_alloc ?_ _)); exact BK609.out) hb); replace HB := Aside0.mk (below_step (by repeat (first | (with_reducible first | exact HB.out | apply below_alloc | apply pw_below_drewN | apply below_drew1 | refine below_set ?_ GE608.out | refine below_set ?_ GE609.out) | exact HB.out)) hb); (try clear hb); (try clear hb2); (try clear hk); (try clear hi); obtain ⟨hcz23_0, hcz23_1, hcz23_2, hcz23_3, hcz23_4, hcz23_5, hfz23_0, hfz23_1, hfz23_2, hfz23_3, hfz23_4, hfz23_5⟩ := six BK608; obtain ⟨hcz24_0, hcz24_1, hcz24_2, hcz24_3, hcz24_4, hcz24_5, hfz24_0, hfz24_1, hfz24_2, hfz24_3, hfz24_4, hfz24_5⟩ := six BK609))
     refine bodyPost_ret (results_ct rfl _ _ gb609 25 #[.int .i64 (wrap64 (a0_0 + (wrap64 (a0_2 * a1)))), .int .i64 (wrap64 (a0_1 + (wrap64 (a0_3 * a1)))), .int .i64 a0_2, .int .i64 a0_3, .int .i64 a0_4, .int .i64 a0_5] (0, 0) _ rfl (by (with_reducible repeat (first | refine blk_drewN ?_ _ | refine blk_drew ?_ | refine blk_alloc ?_ _)); refine blk_put (cs := #[.int .i64 (wrap64 (a0_0 + (wrap64 (a0_2 * a1)))), .int .i64 (wrap64 (a0_1 + (wrap64 (a0_3 * a1)))), .int .i64 a0_2, .int .i64 a0_3, .int .i64 a0_4, .int .i64 0]) ?_ 5 _ rfl; (with_reducible repeat (first | refine blk_drewN ?_ _ | refine blk_drew ?_ | refine blk_alloc ?_ _)); refine blk_put (cs := #[.int .i64 (wrap64 (a0_0 + (wrap64 (a0_2 * a1)))), .int .i64 (wrap64 (a0_1 + (wrap64 (a0_3 * a1)))), .int .i64 a0_2, .int .i64 a0_3, .int .i64 0, .int .i64 0]) ?_ 4 _ rfl; (with_reducible repeat (first | refine blk_drewN ?_ _ | refine blk_drew ?_ | refine blk_alloc ?_ _)); refine blk_put (cs := #[.int .i64 (wrap64 (a0_0 + (wrap64 (a0_2 * a1)))), .int .i64 (wrap64 (a0_1 + (wrap64 (a0_3 * a1)))), .int .i64 a0_2, .int .i64 0, .int .i64 0, .int .i64 0]) ?_ 3 _ rfl; (with_reducible repeat (first | refine blk_drewN ?_ _ | refine blk_drew ?_ | refine blk_alloc ?_ _)); refine blk_put (cs := #[.int .i64 (wrap64 (a0_0 + (wrap64 (a0_2 * a1)))), .int .i64 (wrap64 (a0_1 + (wrap64 (a0_3 * a1)))), .int .i64 0, .int .i64 0, .int .i64 0, .int .i64 0]) ?_ 2 _ rfl; (with_reducible repeat (first | refine blk_drewN ?_ _ | refine blk_drew ?_ | refine blk_alloc ?_ _)); refine blk_put (cs := #[.int .i64 (wrap64 (a0_0 + (wrap64 (a0_2 * a1)))), .int .i64 0, .int .i64 0, .int .i64 0, .int .i64 0, .int .i64 0]) ?_ 1 _ rfl; (with_reducible repeat (first | refine blk_drewN ?_ _ | refine blk_drew ?_ | refine blk_alloc ?_ _)); refine blk_put (cs := #[.int .i64 0, .int .i64 0, .int .i64 0, .int .i64 0, .int .i64 0, .int .i64 0]) ?_ 0 _ rfl; (with_reducible repeat (first | refine blk_drewN ?_ _ | refine blk_drew ?_ | refine blk_alloc ?_ _)); exact BK609.out) Try.underlying25 rfl (by kernel_rfl)) rfl ?_
     exact ⟨by first | rfl | (simp [errW_none, errW_some] <;> rfl) | (simp [*, errW_none, errW_some] <;> rfl), by repeat (first | (with_reducible first | exact HB.out | apply below_alloc | apply pw_below_drewN | apply below_drew1 | refine below_set ?_ GE608.out | refine below_set ?_ GE609.out) | exact HB.out)⟩
    ·replace c19 := Bool.eq_false_iff.mpr c19
     subst c19
     have H1 : (some (0, 0, 0, 0, 0, 0, false)) = some (r1, r2, r3, r4, r5, r6, r7) := by rw [if_neg (show ¬ (false = true) by decide)] at H; exact H
     clear H
     have H := H1
     clear H1
     simp only [Option.some.injEq, Prod.mk.injEq] at H
     obtain ⟨rfl, rfl, rfl, rfl, rfl, rfl, rfl⟩ := H
     have hnb25 := NB608_609.out
     have hnc25 := NB609_608.out
     obtain ⟨hcz26_0, hcz26_1, hcz26_2, hcz26_3, hcz26_4, hcz26_5, hfz26_0, hfz26_1, hfz26_2, hfz26_3, hfz26_4, hfz26_5⟩ := six BK608
     go_wp2_with (first | ((with_reducible refine gate_callee (f := 17) rfl ?_); refine goesL_ (some 32) rfl rfl Try.func17 (by kernel_rfl) rfl #[.agg #[.int .i64 (wrap64 (a0_0 + (wrap64 (a0_2 * a1)))), .int .i64 (wrap64 (a0_1 + (wrap64 (a0_3 * a1)))), .int .i64 a0_2, .int .i64 a0_3, .int .i64 a0_4, .int .i64 a0_5]] rfl (by (try simp only [List.map_toArray, List.map_cons, List.map_nil]); first | done | rfl | (simp only [List.length_drop, List.length_take]; rfl)) ?_; (with_reducible refine (impl_ShipOk.calls (wrap64 (a0_0 + (wrap64 (a0_2 * a1)))) (wrap64 (a0_1 + (wrap64 (a0_3 * a1)))) a0_2 a0_3 a0_4 a0_5 false _ A18.out).mono ?_); rintro e w27 ⟨rfl, hb⟩; refine ⟨_, rfl, ?_⟩; replace BK608 := Aside0.mk (blk_below (g := gb608) (o := .cells #[.int .i64 (wrap64 (a0_0 + (wrap64 (a0_2 * a1)))), .int .i64 (wrap64 (a0_1 + (wrap64 (a0_3 * a1)))), .int .i64 a0_2, .int .i64 a0_3, .int .i64 a0_4, .int .i64 a0_5] 25 (0, 0)) (by (with_reducible repeat (first | refine blk_drewN ?_ _ | refine blk_drew ?_ | refine blk_alloc ?_ _)); refine blk_put (cs := #[.int .i64 (wrap64 (a0_0 + (wrap64 (a0_2 * a1)))), .int .i64 a0_1, .int .i64 a0_2, .int .i64 a0_3, .int .i64 a0_4, .int .i64 a0_5]) ?_ 1 _ rfl; (with_reducible repeat (first | refine blk_drewN ?_ _ | refine blk_drew ?_ | refine blk_alloc ?_ _)); refine blk_put (cs := #[.int .i64 a0_0, .int .i64 a0_1, .int .i64 a0_2, .int .i64 a0_3, .int .i64 a0_4, .int .i64 a0_5]) ?_ 0 _ rfl; (with_reducible repeat (first | refine blk_drewN ?_ _ | refine blk_drew ?_ | refine blk_alloc ?_ _)); exact BK608.out) hb); replace BK609 := Aside0.mk (blk_below (g := gb609) (o := .cells #[.int .i64 0, .int .i64 0, .int .i64 0, .int .i64 0, .int .i64 0, .int .i64 0] 25 (0, 0)) (by (with_reducible repeat (first | refine blk_drewN ?_ _ | refine blk_drew ?_ | refine blk_alloc ?_ _)); refine blk_far ?_ NB609_608.out _; (with_reducible repeat (first | refine blk_drewN ?_ _ | refine blk_drew ?_ | refine blk_alloc ?_ _)); refine blk_far ?_ NB609_608.out _; (with_reducible repeat (first | refine blk_drewN ?_ _ | refine blk_drew ?_ | refine blk_alloc ?_ _)); exact BK609.out) hb); replace HB := Aside0.mk (below_step (by repeat (first | (with_reducible first | exact HB.out | apply below_alloc | apply pw_below_drewN | apply below_drew1 | refine below_set ?_ GE608.out | refine below_set ?_ GE609.out) | exact HB.out)) hb); (try clear hb); (try clear hb2); (try clear hk); (try clear hi); obtain ⟨hcz28_0, hcz28_1, hcz28_2, hcz28_3, hcz28_4, hcz28_5, hfz28_0, hfz28_1, hfz28_2, hfz28_3, hfz28_4, hfz28_5⟩ := six BK609))
     refine bodyPost_ret (results_ct rfl _ _ gb609 25 #[.int .i64 0, .int .i64 0, .int .i64 0, .int .i64 0, .int .i64 0, .int .i64 0] (0, 0) _ rfl (by (with_reducible repeat (first | refine blk_drewN ?_ _ | refine blk_drew ?_ | refine blk_alloc ?_ _)); refine blk_put (cs := #[.int .i64 0, .int .i64 0, .int .i64 0, .int .i64 0, .int .i64 0, .int .i64 0]) ?_ 5 _ rfl; (with_reducible repeat (first | refine blk_drewN ?_ _ | refine blk_drew ?_ | refine blk_alloc ?_ _)); refine blk_put (cs := #[.int .i64 0, .int .i64 0, .int .i64 0, .int .i64 0, .int .i64 0, .int .i64 0]) ?_ 4 _ rfl; (with_reducible repeat (first | refine blk_drewN ?_ _ | refine blk_drew ?_ | refine blk_alloc ?_ _)); refine blk_put (cs := #[.int .i64 0, .int .i64 0, .int .i64 0, .int .i64 0, .int .i64 0, .int .i64 0]) ?_ 3 _ rfl; (with_reducible repeat (first | refine blk_drewN ?_ _ | refine blk_drew ?_ | refine blk_alloc ?_ _)); refine blk_put (cs := #[.int .i64 0, .int .i64 0, .int .i64 0, .int .i64 0, .int .i64 0, .int .i64 0]) ?_ 2 _ rfl; (with_reducible repeat (first | refine blk_drewN ?_ _ | refine blk_drew ?_ | refine blk_alloc ?_ _)); refine blk_put (cs := #[.int .i64 0, .int .i64 0, .int .i64 0, .int .i64 0, .int .i64 0, .int .i64 0]) ?_ 1 _ rfl; (with_reducible repeat (first | refine blk_drewN ?_ _ | refine blk_drew ?_ | refine blk_alloc ?_ _)); refine blk_put (cs := #[.int .i64 0, .int .i64 0, .int .i64 0, .int .i64 0, .int .i64 0, .int .i64 0]) ?_ 0 _ rfl; (with_reducible repeat (first | refine blk_drewN ?_ _ | refine blk_drew ?_ | refine blk_alloc ?_ _)); exact BK609.out) Try.underlying25 rfl (by kernel_rfl)) rfl ?_
     exact ⟨by first | rfl | (simp [errW_none, errW_some] <;> rfl) | (simp [*, errW_none, errW_some] <;> rfl), by repeat (first | (with_reducible first | exact HB.out | apply below_alloc | apply pw_below_drewN | apply below_drew1 | refine below_set ?_ GE608.out | refine below_set ?_ GE609.out) | exact HB.out)⟩

/-! ### laws_less: function 46 -/
def laws_less.j0 : Nat → Int → Int → Int → Int → Int → Int → Option (Bool)
 | 0, _, _, _, _, _, _ => none
 | k + 1, x5, x6, x614000, x614001, x615000, x615001 => if x615001 = 0 then (none) else (if (Int.tmod x615000 x615001) < 0 then (if x5 = (wrap64 (x6 - 1)) then (some (decide ((wrap64 ((wrap64 (x614000 - (wrap64 (x5 * x614001)))) * x615001)) < (wrap64 ((wrap64 (x615000 - (wrap64 ((wrap64 (x6 - 1)) * x615001)))) * x614001))))) else (some (decide (x5 < (wrap64 (x6 - 1)))))) else (if x5 = x6 then (some (decide ((wrap64 ((wrap64 (x614000 - (wrap64 (x5 * x614001)))) * x615001)) < (wrap64 ((wrap64 (x615000 - (wrap64 (x6 * x615001)))) * x614001))))) else (some (decide (x5 < x6)))))
def laws_less.f (k : Nat) (a0_0 : Int) (a0_1 : Int) (a1_0 : Int) (a1_1 : Int) : Option (Bool) := if a0_1 = 0 then (none) else (if a1_1 = 0 then (none) else (if (Int.tmod a0_0 a0_1) < 0 then (laws_less.j0 k (wrap64 ((wrap64 (Int.tdiv a0_0 a0_1)) - 1)) (wrap64 (Int.tdiv a1_0 a1_1)) a0_0 a0_1 a1_0 a1_1) else (laws_less.j0 k (wrap64 (Int.tdiv a0_0 a0_1)) (wrap64 (Int.tdiv a1_0 a1_1)) a0_0 a0_1 a1_0 a1_1)))
theorem laws_less.mono_l : ∀ k, (∀ y0 y1 y2 y3 y4 y5, LeO (laws_less.j0 k y0 y1 y2 y3 y4 y5) (laws_less.j0 (k + 1) y0 y1 y2 y3 y4 y5))
 | 0 => fun _ _ _ _ _ _ r h => by simp [laws_less.j0] at h
 | k + 1 => by
  have ih0 := laws_less.mono_l k
  ·intro y0 y1 y2 y3 y4 y5
   unfold laws_less.j0
   repeat' first
   | (with_reducible exact ih0 _ _ _ _ _ _)
   | (with_reducible exact LeO.refl _)
   | (with_reducible exact LeO.none _)
   | (with_reducible refine LeO.ite ?_ ?_)
   | (with_reducible refine LeO.bind ?_ (fun _ => ?_))
   | exact ih0 _ _ _ _ _ _
   | exact LeO.none _
   | refine LeO.ite ?_ ?_
   | refine LeO.bind ?_ (fun _ => ?_)
theorem laws_less.mono : ∀ a0 a1 a2 a3 k, LeO (laws_less.f k a0 a1 a2 a3) (laws_less.f (k + 1) a0 a1 a2 a3) := by
 intro a0 a1 a2 a3 k
 have ih0 := laws_less.mono_l k
 unfold laws_less.f
 repeat' first
   | (with_reducible exact ih0 _ _ _ _ _ _)
   | (with_reducible exact LeO.refl _)
   | (with_reducible exact LeO.none _)
   | (with_reducible refine LeO.ite ?_ ?_)
   | (with_reducible refine LeO.bind ?_ (fun _ => ?_))
   | exact ih0 _ _ _ _ _ _
   | exact LeO.none _
   | refine LeO.ite ?_ ?_
   | refine LeO.bind ?_ (fun _ => ?_)
set_option maxHeartbeats 8000000 in
set_option maxRecDepth 100000 in
theorem laws_less.calls (k : Nat) (a0_0 : Int) (a0_1 : Int) (a1_0 : Int) (a1_1 : Int) (r : Bool) (w : World) (h : laws_less.f k a0_0 a0_1 a1_0 a1_1 = some r) :
  Calls Try.prog 46 #[.agg #[.int .i64 a0_0, .int .i64 a0_1], .agg #[.int .i64 a1_0, .int .i64 a1_1]] w fun e w' => e = .returned (.bool r) ∧ Below w.heap.size w w' := by
 have hu58 := Try.underlying58
 have HB := Aside0.mk (Below.refl w.heap.size w)
 have H : (if a0_1 = 0 then (none) else (if a1_1 = 0 then (none) else (if (Int.tmod a0_0 a0_1) < 0 then (laws_less.j0 k (wrap64 ((wrap64 (Int.tdiv a0_0 a0_1)) - 1)) (wrap64 (Int.tdiv a1_0 a1_1)) a0_0 a0_1 a1_0 a1_1) else (laws_less.j0 k (wrap64 (Int.tdiv a0_0 a0_1)) (wrap64 (Int.tdiv a1_0 a1_1)) a0_0 a0_1 a1_0 a1_1)))) = some r := h
 clear h
 by_cases c3 : a0_1 = 0
 ·rw [if_pos c3] at H
  exact absurd H (by simp)
 ·rw [if_neg c3] at H
  have c3b0 : (a0_1 == 0) = false := beq_eq_false_iff_ne.mpr c3
  have c3b1 : (a0_1 != 0) = true := bne_iff_ne.mpr c3
  by_cases c4 : a1_1 = 0
  ·rw [if_pos c4] at H
   exact absurd H (by simp)
  ·rw [if_neg c4] at H
   have c4b0 : (a1_1 == 0) = false := beq_eq_false_iff_ne.mpr c4
   have c4b1 : (a1_1 != 0) = true := bne_iff_ne.mpr c4
   have HC5 := Aside0.mk H
   clear H
   go_enter Try.func46, Try.ntmps46
   go_upto_if 22 with (first | ((with_reducible refine gate_dst (N := 2) rfl ?_); refine box_event ?hg (N := 2) ?hd (cs := #[.int .i64 a0_0, .int .i64 a0_1]) (t := 58) ?hr ?_; (case hd => rfl); (case hg => rfl); (case hr => first | (go_simp; done) | (go_simp; rfl)); intro gb613 hg w6 hbox hb; replace BK613 := Aside0.mk (hbox); replace GW613 := Aside0.mk ((by rw [hg]; exact (below_size (by repeat (first | (with_reducible first | exact HB.out | apply below_alloc | apply pw_below_drewN | apply below_drew1) | exact HB.out))) : w.heap.size ≤ gb613)); replace GE613 := Aside0.mk ((by rw [hg]; exact (below_size (by repeat (first | (with_reducible first | exact HB.out | apply below_alloc | apply pw_below_drewN | apply below_drew1) | exact HB.out))) : w.heap.size ≤ gb613)); replace HB := Aside0.mk (below_step (by repeat (first | (with_reducible first | exact HB.out | apply below_alloc | apply pw_below_drewN | apply below_drew1) | exact HB.out)) hb); clear hb hbox hg) | ((with_reducible refine gate_dst (N := 3) rfl ?_); refine box_event ?hg (N := 3) ?hd (cs := #[.int .i64 a1_0, .int .i64 a1_1]) (t := 58) ?hr ?_; (case hd => rfl); (case hg => rfl); (case hr => first | (go_simp; done) | (go_simp; rfl)); intro gb614 hg w7 hbox hb; replace BK614 := Aside0.mk (hbox); replace GW614 := Aside0.mk ((by rw [hg]; exact (below_size (by repeat (first | (with_reducible first | exact HB.out | apply below_alloc | apply pw_below_drewN | apply below_drew1 | refine below_set ?_ GE613.out) | exact HB.out))) : w.heap.size ≤ gb614)); replace GE614 := Aside0.mk ((by rw [hg]; exact (below_size (by repeat (first | (with_reducible first | exact HB.out | apply below_alloc | apply pw_below_drewN | apply below_drew1 | refine below_set ?_ GE613.out) | exact HB.out))) : w.heap.size ≤ gb614)); replace HB := Aside0.mk (below_step (by repeat (first | (with_reducible first | exact HB.out | apply below_alloc | apply pw_below_drewN | apply below_drew1 | refine below_set ?_ GE613.out) | exact HB.out)) hb); replace NB613_614 := Aside0.mk ((by rw [hg]; exact Nat.ne_of_lt (blk_lt (g := gb613) (o := .cells #[.int .i64 a0_0, .int .i64 a0_1] 58 (0, 0)) (by (with_reducible repeat (first | refine z1 ?_ _ | refine z2 ?_ | refine z3 ?_ _)); exact BK613.out)) : gb613 ≠ gb614)); replace NB614_613 := Aside0.mk ((by rw [hg]; exact Nat.ne_of_gt (blk_lt (g := gb613) (o := .cells #[.int .i64 a0_0, .int .i64 a0_1] 58 (0, 0)) (by (with_reducible repeat (first | refine z1 ?_ _ | refine z2 ?_ | refine z3 ?_ _)); exact BK613.out)) : gb614 ≠ gb613)); replace BK613 := Aside0.mk (blk_below (g := gb613) (o := .cells #[.int .i64 a0_0, .int .i64 a0_1] 58 (0, 0)) (by (with_reducible repeat (first | refine z1 ?_ _ | refine z2 ?_ | refine z3 ?_ _)); exact BK613.out) hb); clear hb hbox hg; have hnb8 := NB613_614.out; have hnc8 := NB614_613.out; obtain ⟨hcz9_0, hcz9_1, hfz9_0, hfz9_1⟩ := two BK613; obtain ⟨hcz10_0, hcz10_1, hfz10_0, hfz10_1⟩ := two BK614))
   repeat (go_quiet (first | ((with_reducible refine gate_dst (N := 2) rfl ?_); refine box_event ?hg (N := 2) ?hd (cs := #[.int .i64 a0_0, .int .i64 a0_1]) (t := 58) ?hr ?_; (case hd => rfl); (case hg => rfl); (case hr => first | (go_simp; done) | (go_simp; rfl)); intro gb613 hg w6 hbox hb; replace BK613 := Aside0.mk (hbox); replace GW613 := Aside0.mk ((by rw [hg]; exact (below_size (by repeat (first | (with_reducible first | exact HB.out | apply below_alloc | apply pw_below_drewN | apply below_drew1) | exact HB.out))) : w.heap.size ≤ gb613)); replace GE613 := Aside0.mk ((by rw [hg]; exact (below_size (by repeat (first | (with_reducible first | exact HB.out | apply below_alloc | apply pw_below_drewN | apply below_drew1) | exact HB.out))) : w.heap.size ≤ gb613)); replace HB := Aside0.mk (below_step (by repeat (first | (with_reducible first | exact HB.out | apply below_alloc | apply pw_below_drewN | apply below_drew1) | exact HB.out)) hb); clear hb hbox hg) | ((with_reducible refine gate_dst (N := 3) rfl ?_); refine box_event ?hg (N := 3) ?hd (cs := #[.int .i64 a1_0, .int .i64 a1_1]) (t := 58) ?hr ?_; (case hd => rfl); (case hg => rfl); (case hr => first | (go_simp; done) | (go_simp; rfl)); intro gb614 hg w7 hbox hb; replace BK614 := Aside0.mk (hbox); replace GW614 := Aside0.mk ((by rw [hg]; exact (below_size (by repeat (first | (with_reducible first | exact HB.out | apply below_alloc | apply pw_below_drewN | apply below_drew1 | refine below_set ?_ GE613.out) | exact HB.out))) : w.heap.size ≤ gb614)); replace GE614 := Aside0.mk ((by rw [hg]; exact (below_size (by repeat (first | (with_reducible first | exact HB.out | apply below_alloc | apply pw_below_drewN | apply below_drew1 | refine below_set ?_ GE613.out) | exact HB.out))) : w.heap.size ≤ gb614)); replace HB := Aside0.mk (below_step (by repeat (first | (with_reducible first | exact HB.out | apply below_alloc | apply pw_below_drewN | apply below_drew1 | refine below_set ?_ GE613.out) | exact HB.out)) hb); replace NB613_614 := Aside0.mk ((by rw [hg]; exact Nat.ne_of_lt (blk_lt (g := gb613) (o := .cells #[.int .i64 a0_0, .int .i64 a0_1] 58 (0, 0)) (by (with_reducible repeat (first | refine z1 ?_ _ | refine z2 ?_ | refine z3 ?_ _)); exact BK613.out)) : gb613 ≠ gb614)); replace NB614_613 := Aside0.mk ((by rw [hg]; exact Nat.ne_of_gt (blk_lt (g := gb613) (o := .cells #[.int .i64 a0_0, .int .i64 a0_1] 58 (0, 0)) (by (with_reducible repeat (first | refine z1 ?_ _ | refine z2 ?_ | refine z3 ?_ _)); exact BK613.out)) : gb614 ≠ gb613)); replace BK613 := Aside0.mk (blk_below (g := gb613) (o := .cells #[.int .i64 a0_0, .int .i64 a0_1] 58 (0, 0)) (by (with_reducible repeat (first | refine z1 ?_ _ | refine z2 ?_ | refine z3 ?_ _)); exact BK613.out) hb); clear hb hbox hg; have hnb8 := NB613_614.out; have hnc8 := NB614_613.out; obtain ⟨hcz9_0, hcz9_1, hfz9_0, hfz9_1⟩ := two BK613; obtain ⟨hcz10_0, hcz10_1, hfz10_0, hfz10_1⟩ := two BK614)); go_upto_if 22 with (first | ((with_reducible refine gate_dst (N := 2) rfl ?_); refine box_event ?hg (N := 2) ?hd (cs := #[.int .i64 a0_0, .int .i64 a0_1]) (t := 58) ?hr ?_; (case hd => rfl); (case hg => rfl); (case hr => first | (go_simp; done) | (go_simp; rfl)); intro gb613 hg w6 hbox hb; replace BK613 := Aside0.mk (hbox); replace GW613 := Aside0.mk ((by rw [hg]; exact (below_size (by repeat (first | (with_reducible first | exact HB.out | apply below_alloc | apply pw_below_drewN | apply below_drew1) | exact HB.out))) : w.heap.size ≤ gb613)); replace GE613 := Aside0.mk ((by rw [hg]; exact (below_size (by repeat (first | (with_reducible first | exact HB.out | apply below_alloc | apply pw_below_drewN | apply below_drew1) | exact HB.out))) : w.heap.size ≤ gb613)); replace HB := Aside0.mk (below_step (by repeat (first | (with_reducible first | exact HB.out | apply below_alloc | apply pw_below_drewN | apply below_drew1) | exact HB.out)) hb); clear hb hbox hg) | ((with_reducible refine gate_dst (N := 3) rfl ?_); refine box_event ?hg (N := 3) ?hd (cs := #[.int .i64 a1_0, .int .i64 a1_1]) (t := 58) ?hr ?_; (case hd => rfl); (case hg => rfl); (case hr => first | (go_simp; done) | (go_simp; rfl)); intro gb614 hg w7 hbox hb; replace BK614 := Aside0.mk (hbox); replace GW614 := Aside0.mk ((by rw [hg]; exact (below_size (by repeat (first | (with_reducible first | exact HB.out | apply below_alloc | apply pw_below_drewN | apply below_drew1 | refine below_set ?_ GE613.out) | exact HB.out))) : w.heap.size ≤ gb614)); replace GE614 := Aside0.mk ((by rw [hg]; exact (below_size (by repeat (first | (with_reducible first | exact HB.out | apply below_alloc | apply pw_below_drewN | apply below_drew1 | refine below_set ?_ GE613.out) | exact HB.out))) : w.heap.size ≤ gb614)); replace HB := Aside0.mk (below_step (by repeat (first | (with_reducible first | exact HB.out | apply below_alloc | apply pw_below_drewN | apply below_drew1 | refine below_set ?_ GE613.out) | exact HB.out)) hb); replace NB613_614 := Aside0.mk ((by rw [hg]; exact Nat.ne_of_lt (blk_lt (g := gb613) (o := .cells #[.int .i64 a0_0, .int .i64 a0_1] 58 (0, 0)) (by (with_reducible repeat (first | refine z1 ?_ _ | refine z2 ?_ | refine z3 ?_ _)); exact BK613.out)) : gb613 ≠ gb614)); replace NB614_613 := Aside0.mk ((by rw [hg]; exact Nat.ne_of_gt (blk_lt (g := gb613) (o := .cells #[.int .i64 a0_0, .int .i64 a0_1] 58 (0, 0)) (by (with_reducible repeat (first | refine z1 ?_ _ | refine z2 ?_ | refine z3 ?_ _)); exact BK613.out)) : gb614 ≠ gb613)); replace BK613 := Aside0.mk (blk_below (g := gb613) (o := .cells #[.int .i64 a0_0, .int .i64 a0_1] 58 (0, 0)) (by (with_reducible repeat (first | refine z1 ?_ _ | refine z2 ?_ | refine z3 ?_ _)); exact BK613.out) hb); clear hb hbox hg; have hnb8 := NB613_614.out; have hnc8 := NB614_613.out; obtain ⟨hcz9_0, hcz9_1, hfz9_0, hfz9_1⟩ := two BK613; obtain ⟨hcz10_0, hcz10_1, hfz10_0, hfz10_1⟩ := two BK614)))
   (try simp only [Act.put, List.setIfInBounds_toArray, List.set_cons_zero, List.set_cons_succ])
   go_cut [5] (fun v5 wc => ∃ (kq : Nat) (x5_4 : Int), v5 = .int .i64 x5_4 ∧ Aside0 (laws_less.j0 kq x5_4 (wrap64 (Int.tdiv a1_0 a1_1)) a0_0 a0_1 a1_0 a1_1 = some r) ∧ Aside0 (kq ≤ k) ∧ Aside0 (wc.heap[gb613]? = some (.cells #[.int .i64 a0_0, .int .i64 a0_1] 58 (0, 0))) ∧ Aside0 (wc.heap[gb614]? = some (.cells #[.int .i64 a1_0, .int .i64 a1_1] 58 (0, 0))) ∧ Aside0 (Below w.heap.size w wc))
   case first =>
    have H := HC5.out
    clear HC5
    by_cases c11 : (Int.tmod a0_0 a0_1) < 0
    ·rw [if_pos c11] at H
     have c11b0 : decide ((Int.tmod a0_0 a0_1) < 0) = true := decide_eq_true c11
     clear c11
     (first | rw [c11b0] | (simp only [i64_w, i32_w]; rw [c11b0]) | skip)
     have H' := Aside0.mk H
     clear H
     go_wp2
     repeat (go_quiet (fail); try go_wp2)
     go_meet
     case rel => exact ⟨_, (wrap64 ((wrap64 (Int.tdiv a0_0 a0_1)) - 1)), (by first | rfl | (simp; done) | (simp [*]; done)), H', ⟨by first | omega | exact Nat.le_refl _⟩, ⟨by (with_reducible repeat (first | refine blk_drewN ?_ _ | refine blk_drew ?_ | refine blk_alloc ?_ _)); exact BK613.out⟩, ⟨by (with_reducible repeat (first | refine blk_drewN ?_ _ | refine blk_drew ?_ | refine blk_alloc ?_ _)); exact BK614.out⟩, ⟨by repeat (first | (with_reducible first | exact HB.out | apply below_alloc | apply pw_below_drewN | apply below_drew1 | refine below_set ?_ GE613.out | refine below_set ?_ GE614.out) | exact HB.out)⟩⟩
    ·rw [if_neg c11] at H
     have c11b0 : decide ((Int.tmod a0_0 a0_1) < 0) = false := decide_eq_false c11
     clear c11
     (first | rw [c11b0] | (simp only [i64_w, i32_w]; rw [c11b0]) | skip)
     have H' := Aside0.mk H
     clear H
     go_wp2
     repeat (go_quiet (fail); try go_wp2)
     go_meet
     case rel => exact ⟨_, (wrap64 (Int.tdiv a0_0 a0_1)), (by first | rfl | (simp; done) | (simp [*]; done)), H', ⟨by first | omega | exact Nat.le_refl _⟩, ⟨by (with_reducible repeat (first | refine blk_drewN ?_ _ | refine blk_drew ?_ | refine blk_alloc ?_ _)); exact BK613.out⟩, ⟨by (with_reducible repeat (first | refine blk_drewN ?_ _ | refine blk_drew ?_ | refine blk_alloc ?_ _)); exact BK614.out⟩, ⟨by repeat (first | (with_reducible first | exact HB.out | apply below_alloc | apply pw_below_drewN | apply below_drew1 | refine below_set ?_ GE613.out | refine below_set ?_ GE614.out) | exact HB.out)⟩⟩
   case rest =>
    clear HC5
    (try clear c1); (try clear p2); (try clear c3); (try clear c3b0); (try clear c3b1); (try clear c4); (try clear c4b0); (try clear c4b1); (try clear p6); (try clear c8); (try clear c11); (try clear c11b0); (try clear hcz10_0); (try clear hcz10_1); (try clear hcz9_0); (try clear hcz9_1); (try clear hfz10_0); (try clear hfz10_1); (try clear hfz9_0); (try clear hfz9_1)
    obtain ⟨kq, x5_4, rfl, HA, HJ4, BK613, BK614, HB⟩ := hcut
    cases kq with
    | zero => exact absurd HA.out (by simp [laws_less.j0])
    | succ kj4 =>
     have H := HA.out
     clear HA
     simp only [laws_less.j0] at H
     by_cases c12 : a1_1 = 0
     ·rw [if_pos c12] at H
      exact absurd H (by simp)
     ·rw [if_neg c12] at H
      have c12b0 : (a1_1 == 0) = false := beq_eq_false_iff_ne.mpr c12
      have c12b1 : (a1_1 != 0) = true := bne_iff_ne.mpr c12
      by_cases c13 : (Int.tmod a1_0 a1_1) < 0
      ·rw [if_pos c13] at H
       have c13b0 : decide ((Int.tmod a1_0 a1_1) < 0) = true := decide_eq_true c13
       clear c13
       by_cases c14 : x5_4 = (wrap64 ((wrap64 (Int.tdiv a1_0 a1_1)) - 1))
       ·rw [if_pos c14] at H
        have c14b0 : (x5_4 == (wrap64 ((wrap64 (Int.tdiv a1_0 a1_1)) - 1))) = true := beq_iff_eq.mpr c14
        have c14b1 : (x5_4 != (wrap64 ((wrap64 (Int.tdiv a1_0 a1_1)) - 1))) = false := bne_eq_false_iff_eq.mpr c14
        clear c14
        obtain rfl := Option.some.inj H
        have hnb15 := NB614_613.out
        have hnc15 := NB613_614.out
        obtain ⟨hcz16_0, hcz16_1, hfz16_0, hfz16_1⟩ := two BK614
        obtain ⟨hcz17_0, hcz17_1, hfz17_0, hfz17_1⟩ := two BK613
        go_wp2
        repeat (go_quiet (fail); try go_wp2)
        go_ret
        exact ⟨by first | rfl | (simp [errW_none, errW_some] <;> rfl) | (simp [*, errW_none, errW_some] <;> rfl), by repeat (first | (with_reducible first | exact HB.out | apply below_alloc | apply pw_below_drewN | apply below_drew1 | refine below_set ?_ GE613.out | refine below_set ?_ GE614.out) | exact HB.out)⟩
       ·rw [if_neg c14] at H
        have c14b0 : (x5_4 == (wrap64 ((wrap64 (Int.tdiv a1_0 a1_1)) - 1))) = false := beq_eq_false_iff_ne.mpr c14
        have c14b1 : (x5_4 != (wrap64 ((wrap64 (Int.tdiv a1_0 a1_1)) - 1))) = true := bne_iff_ne.mpr c14
        obtain rfl := Option.some.inj H
        have hnb18 := NB614_613.out
        have hnc18 := NB613_614.out
        obtain ⟨hcz19_0, hcz19_1, hfz19_0, hfz19_1⟩ := two BK614
        go_wp2
        repeat (go_quiet (fail); try go_wp2)
        go_ret
        exact ⟨by first | rfl | (simp [errW_none, errW_some] <;> rfl) | (simp [*, errW_none, errW_some] <;> rfl), by repeat (first | (with_reducible first | exact HB.out | apply below_alloc | apply pw_below_drewN | apply below_drew1 | refine below_set ?_ GE613.out | refine below_set ?_ GE614.out) | exact HB.out)⟩
      ·rw [if_neg c13] at H
       have c13b0 : decide ((Int.tmod a1_0 a1_1) < 0) = false := decide_eq_false c13
       clear c13
       by_cases c20 : x5_4 = (wrap64 (Int.tdiv a1_0 a1_1))
       ·rw [if_pos c20] at H
        have c20b0 : (x5_4 == (wrap64 (Int.tdiv a1_0 a1_1))) = true := beq_iff_eq.mpr c20
        have c20b1 : (x5_4 != (wrap64 (Int.tdiv a1_0 a1_1))) = false := bne_eq_false_iff_eq.mpr c20
        clear c20
        obtain rfl := Option.some.inj H
        have hnb21 := NB614_613.out
        have hnc21 := NB613_614.out
        obtain ⟨hcz22_0, hcz22_1, hfz22_0, hfz22_1⟩ := two BK614
        obtain ⟨hcz23_0, hcz23_1, hfz23_0, hfz23_1⟩ := two BK613
        go_wp2
        repeat (go_quiet (fail); try go_wp2)
        go_ret
        exact ⟨by first | rfl | (simp [errW_none, errW_some] <;> rfl) | (simp [*, errW_none, errW_some] <;> rfl), by repeat (first | (with_reducible first | exact HB.out | apply below_alloc | apply pw_below_drewN | apply below_drew1 | refine below_set ?_ GE613.out | refine below_set ?_ GE614.out) | exact HB.out)⟩
       ·rw [if_neg c20] at H
        have c20b0 : (x5_4 == (wrap64 (Int.tdiv a1_0 a1_1))) = false := beq_eq_false_iff_ne.mpr c20
        have c20b1 : (x5_4 != (wrap64 (Int.tdiv a1_0 a1_1))) = true := bne_iff_ne.mpr c20
        obtain rfl := Option.some.inj H
        have hnb24 := NB614_613.out
        have hnc24 := NB613_614.out
        obtain ⟨hcz25_0, hcz25_1, hfz25_0, hfz25_1⟩ := two BK614
        go_wp2
        repeat (go_quiet (fail); try go_wp2)
        go_ret
        exact ⟨by first | rfl | (simp [errW_none, errW_some] <;> rfl) | (simp [*, errW_none, errW_some] <;> rfl), by repeat (first | (with_reducible first | exact HB.out | apply below_alloc | apply pw_below_drewN | apply below_drew1 | refine below_set ?_ GE613.out | refine below_set ?_ GE614.out) | exact HB.out)⟩

end Go.Proofs.Ytfbokdbaondjdaa.PV1
