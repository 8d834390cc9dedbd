import Derived.Test.YtfbokdbaondjdaaBFnExactClosest2
import Derived.Test.YtfbokdbaondjdaaBFnExactClosest3
-- printed for this claim out of the translation
namespace Go.Proofs.Ytfbokdbaondjdaa.PV1
open Go.RowKit Go.Proofs.YtfbokdbaondjdaaW.PrintWords Go.Proofs.YtfbokdbaondjdaaW.PrintLast Go.Proofs.YtfbokdbaondjdaaW.PrintMore Go.Proofs.Ytfbokdbaondjdaa.Cz Go.Proofs.Ytfbokdbaondjdaa.Cz
attribute [local go_sem] max2_int min2_int max_two min_two max_three min_three max_four min_four
set_option linter.unusedVariables false
set_option linter.unusedSimpArgs false

theorem s15_0 {p : Prop} (h : p := by repeat (first | (with_reducible first | exact HB.out | apply below_alloc | apply pw_below_drewN | apply below_drew1 | refine below_set ?_ GE518.out | refine below_set ?_ GE519.out | refine below_set ?_ GE520.out | refine below_set ?_ GE521.out) | exact HB.out)) : p := h
theorem s15_1 {p : Prop} (h : p := by repeat (first | (with_reducible first | exact HB.out | apply below_alloc | apply pw_below_drewN | apply below_drew1 | refine below_set ?_ GE518.out | refine below_set ?_ GE519.out | refine below_set ?_ GE520.out | refine below_set ?_ GE521.out | refine below_set ?_ GE528.out | refine below_set ?_ GE529.out) | exact HB.out)) : p := h
theorem s15_2 {p : Prop} (h : p := by repeat (first | (with_reducible first | exact HB.out | apply below_alloc | apply pw_below_drewN | apply below_drew1 | refine below_set ?_ GE518.out | refine below_set ?_ GE519.out | refine below_set ?_ GE520.out | refine below_set ?_ GE521.out | refine below_set ?_ GE528.out) | exact HB.out)) : p := h
theorem s15_3 {p : Prop} (h : p := by repeat (first | (with_reducible first | exact HB.out | apply below_alloc | apply pw_below_drewN | apply below_drew1 | refine below_set ?_ GE518.out | refine below_set ?_ GE519.out | refine below_set ?_ GE520.out | refine below_set ?_ GE521.out | refine below_set ?_ GE529.out) | exact HB.out)) : p := h
theorem s15_4 {p : Prop} (h : p := by (try simp only [List.map_toArray, List.map_cons, List.map_nil]); first | done | rfl | (simp only [List.length_drop, List.length_take]; rfl)) : p := h
theorem s15_5 {p : Prop} (h : p := by first | (simp only [putAll, Act.put, y1, y2, y3]; done) | (simp only [putAll, Act.put, y1, y2, y3]; rfl)) : p := h
theorem s15_6 {p : Prop} (h : p := by repeat (first | (with_reducible first | exact HB.out | apply below_alloc | apply pw_below_drewN | apply below_drew1 | refine below_set ?_ GE518.out | refine below_set ?_ GE519.out | refine below_set ?_ GE520.out | refine below_set ?_ GE521.out | refine below_set ?_ GE529.out | refine below_set ?_ GE528.out) | exact HB.out)) : p := h
theorem s15_7 {p : Prop} (h : p := by repeat (first | (with_reducible first | exact HB.out | apply below_alloc | apply pw_below_drewN | apply below_drew1 | refine below_set ?_ GE518.out | refine below_set ?_ GE519.out | refine below_set ?_ GE520.out) | exact HB.out)) : p := h
theorem s15_8 {p : Prop} (h : p := by repeat (first | (with_reducible first | exact HB.out | apply below_alloc | apply pw_below_drewN | apply below_drew1 | refine below_set ?_ GE518.out | refine below_set ?_ GE519.out) | exact HB.out)) : p := h
set_option maxRecDepth 100000 in
theorem t15_0 {p : Prop} (h : p := by
 simp only [Act.put, y1, y2, y3, i64_w, i32_w]
 rfl) : p := h
set_option maxRecDepth 100000 in
theorem t15_1 {p : Prop} (h : p := by
 show Act.put _ (some 7) _ = _
 simp only [Act.put, y1, y2, y3, i64_w, i32_w]
 rfl) : p := h
set_option maxRecDepth 100000 in
theorem t15_2 {p : Prop} (h : p := by
 show Act.put _ (some 8) _ = _
 simp only [Act.put, y1, y2, y3, i64_w, i32_w]
 rfl) : p := h
set_option maxRecDepth 100000 in
theorem t15_3 {p : Prop} (h : p := by
 simp only [putAll, Act.put, y1, y2, y3]
 rfl) : p := h
/-! ### spec_Closest: function 37 -/
mutual
def spec_Closest.j0 : Nat → Bool → Int → Int → Int → Int → Int → Int → Int → Int → Int → Int → Int → Int → Option (Int × Int × Int × Int × Bool)
 | 0, _, _, _, _, _, _, _, _, _, _, _, _, _ => none
 | k + 1, x17, x519000, x519001, x519002, x519003, x519004, x519005, x520000, x520001, x520002, x520003, x520004, x520005 => if x17 = true then (some (0, 0, 0, 0, false)) else ((spec_l8Bearing.f x519000 x519001 x519002 x519003 x519004 x519005 x520000 x520001 x520002 x520003 x520004 x520005).bind fun bt524 => ((spec_l8Diff.f x519000 x519001 x519002 x519003 x519004 x519005 x520000 x520001 x520002 x520003 x520004 x520005).bind fun bt526 => ((spec_l8Dot.f bt526.1 bt526.2 bt526.1 bt526.2).bind fun t530 => (if t530 = 0 then (spec_Closest.j1 k true bt524.1 bt524.2 bt526.1 bt526.2) else ((spec_l8Dot.f bt524.1 bt524.2 bt526.1 bt526.2).bind fun t531 => (spec_Closest.j1 k (decide (t531 > 0)) bt524.1 bt524.2 bt526.1 bt526.2))))))
def spec_Closest.j1 : Nat → Bool → Int → Int → Int → Int → Option (Int × Int × Int × Int × Bool)
 | 0, _, _, _, _, _ => none
 | k + 1, x35, x529000, x529001, x530000, x530001 => if x35 = true then ((spec_l8Dot.f x529000 x529001 x529000 x529001).bind fun t532 => (some (0, 1, t532, 1, true))) else ((spec_l8Cross.f x529000 x529001 x530000 x530001).bind fun t533 => ((spec_l8Dot.f x529000 x529001 x530000 x530001).bind fun t534 => ((spec_l8Dot.f x530000 x530001 x530000 x530001).bind fun t535 => ((spec_l2Frac.f k (wrap64 (-t534)) t535).bind fun bt536 => ((spec_l8Dot.f x530000 x530001 x530000 x530001).bind fun t538 => ((spec_l2Frac.f k (wrap64 (t533 * t533)) t538).bind fun bt539 => (some (bt536.1, bt536.2, bt539.1, bt539.2, true))))))))
end
def spec_Closest.f (k : Nat) (a0_0 : Int) (a0_1 : Int) (a0_2 : Int) (a0_3 : Int) (a0_4 : Int) (a0_5 : Int) (a1_0 : Int) (a1_1 : Int) (a1_2 : Int) (a1_3 : Int) (a1_4 : Int) (a1_5 : Int) : Option (Int × Int × Int × Int × Bool) := (spec_ShipOk.f a0_0 a0_1 a0_2 a0_3 a0_4 a0_5).bind fun t522 => (if t522 = true then ((spec_ShipOk.f a1_0 a1_1 a1_2 a1_3 a1_4 a1_5).bind fun t523 => (spec_Closest.j0 k (!t523) a0_0 a0_1 a0_2 a0_3 a0_4 a0_5 a1_0 a1_1 a1_2 a1_3 a1_4 a1_5)) else (spec_Closest.j0 k true a0_0 a0_1 a0_2 a0_3 a0_4 a0_5 a1_0 a1_1 a1_2 a1_3 a1_4 a1_5))
theorem spec_Closest.mono_l : ∀ k, (∀ y0 y1 y2 y3 y4 y5 y6 y7 y8 y9 y10 y11 y12, LeO (spec_Closest.j0 k y0 y1 y2 y3 y4 y5 y6 y7 y8 y9 y10 y11 y12) (spec_Closest.j0 (k + 1) y0 y1 y2 y3 y4 y5 y6 y7 y8 y9 y10 y11 y12)) ∧ (∀ y0 y1 y2 y3 y4, LeO (spec_Closest.j1 k y0 y1 y2 y3 y4) (spec_Closest.j1 (k + 1) y0 y1 y2 y3 y4))
 | 0 => ⟨fun _ _ _ _ _ _ _ _ _ _ _ _ _ r h => by simp [spec_Closest.j0] at h, fun _ _ _ _ _ r h => by simp [spec_Closest.j1] at h⟩
 | k + 1 => by
  obtain ⟨ih0, ih1⟩ := spec_Closest.mono_l k
  refine ⟨?_, ?_⟩
  ·intro y0 y1 y2 y3 y4 y5 y6 y7 y8 y9 y10 y11 y12
   unfold spec_Closest.j0
   repeat' first
   | (with_reducible exact ih0 _ _ _ _ _ _ _ _ _ _ _ _ _)
   | (with_reducible exact ih1 _ _ _ _ _)
   | (with_reducible exact spec_l2Frac.mono _ _ _)
   | (with_reducible exact LeO.refl _)
   | (with_reducible exact LeO.none _)
   | (with_reducible refine LeO.ite ?_ ?_)
   | (with_reducible refine LeO.bind ?_ (fun _ => ?_))
   | exact ih0 _ _ _ _ _ _ _ _ _ _ _ _ _
   | exact ih1 _ _ _ _ _
   | exact spec_l2Frac.mono _ _ _
   | exact LeO.none _
   | refine LeO.ite ?_ ?_
   | refine LeO.bind ?_ (fun _ => ?_)
  ·intro y0 y1 y2 y3 y4
   unfold spec_Closest.j1
   repeat' first
   | (with_reducible exact ih0 _ _ _ _ _ _ _ _ _ _ _ _ _)
   | (with_reducible exact ih1 _ _ _ _ _)
   | (with_reducible exact spec_l2Frac.mono _ _ _)
   | (with_reducible exact LeO.refl _)
   | (with_reducible exact LeO.none _)
   | (with_reducible refine LeO.ite ?_ ?_)
   | (with_reducible refine LeO.bind ?_ (fun _ => ?_))
   | exact ih0 _ _ _ _ _ _ _ _ _ _ _ _ _
   | exact ih1 _ _ _ _ _
   | exact spec_l2Frac.mono _ _ _
   | exact LeO.none _
   | refine LeO.ite ?_ ?_
   | refine LeO.bind ?_ (fun _ => ?_)
theorem spec_Closest.mono : ∀ a0 a1 a2 a3 a4 a5 a6 a7 a8 a9 a10 a11 k, LeO (spec_Closest.f k a0 a1 a2 a3 a4 a5 a6 a7 a8 a9 a10 a11) (spec_Closest.f (k + 1) a0 a1 a2 a3 a4 a5 a6 a7 a8 a9 a10 a11) := by
 intro a0 a1 a2 a3 a4 a5 a6 a7 a8 a9 a10 a11 k
 obtain ⟨ih0, ih1⟩ := spec_Closest.mono_l k
 unfold spec_Closest.f
 repeat' first
   | (with_reducible exact ih0 _ _ _ _ _ _ _ _ _ _ _ _ _)
   | (with_reducible exact ih1 _ _ _ _ _)
   | (with_reducible exact spec_l2Frac.mono _ _ _)
   | (with_reducible exact LeO.refl _)
   | (with_reducible exact LeO.none _)
   | (with_reducible refine LeO.ite ?_ ?_)
   | (with_reducible refine LeO.bind ?_ (fun _ => ?_))
   | exact ih0 _ _ _ _ _ _ _ _ _ _ _ _ _
   | exact ih1 _ _ _ _ _
   | exact spec_l2Frac.mono _ _ _
   | exact LeO.none _
   | refine LeO.ite ?_ ?_
   | refine LeO.bind ?_ (fun _ => ?_)
def spec_Closest.T3 : Bool × List (List Nat × List Nat) := (true, [([], []), ([], []), ([0, 1], [0, 1]), ([], []), ([], []), ([3, 4, 2], [3, 4]), ([], []), ([], []), ([6, 2, 5, 0, 1, 2, 6, 7], [2, 6]), ([7, 5, 8, 0, 1, 2, 3, 4, 5, 6, 7, 8], [5, 7])])
def spec_Closest.B3 : List Nat := [0, 0, 3, 0, 0, 31, 0, 0, 255, 511]
theorem spec_Closest.tab3 : rtab .any (opsOf Try.f37 3) = spec_Closest.T3 := by kernel_rfl
theorem spec_Closest.bits3 : waitsOk spec_Closest.T3.2 spec_Closest.B3 = true := by kernel_rfl
def spec_Closest.T7 : Bool × List (List Nat × List Nat) := (true, [([], []), ([], []), ([0, 1], [0, 1]), ([2], [2]), ([], []), ([], []), ([4, 5, 2], [4, 5]), ([3, 6, 6], [3, 6]), ([], []), ([], []), ([8, 9], [8, 9]), ([], []), ([], []), ([11, 12, 7], [11, 12]), ([10, 13, 13], [10, 13]), ([7, 14, 0, 1, 2, 3, 4, 5, 6, 7], [7]), ([14, 15, 0, 1, 2, 3, 4, 5, 6, 7, 8, 9, 10, 11, 12, 13, 14, 15], [14]), ([16, 0, 1, 2, 3, 4, 5, 6, 7, 8, 9, 10, 11, 12, 13, 14, 15, 16], [])])
def spec_Closest.B7 : List Nat := [0, 0, 3, 7, 0, 0, 55, 127, 0, 0, 768, 0, 0, 6399, 16383, 32767, 65535, 131071]
theorem spec_Closest.tab7 : rtab .any (opsOf Try.f37 7) = spec_Closest.T7 := by kernel_rfl
theorem spec_Closest.bits7 : waitsOk spec_Closest.T7.2 spec_Closest.B7 = true := by kernel_rfl
set_option maxHeartbeats 8000000 in
set_option maxRecDepth 100000 in
theorem spec_Closest.calls (k : Nat) (a0_0 : Int) (a0_1 : Int) (a0_2 : Int) (a0_3 : Int) (a0_4 : Int) (a0_5 : Int) (a1_0 : Int) (a1_1 : Int) (a1_2 : Int) (a1_3 : Int) (a1_4 : Int) (a1_5 : Int) (r1 : Int) (r2 : Int) (r3 : Int) (r4 : Int) (r5 : Bool) (w : World) (h : spec_Closest.f k a0_0 a0_1 a0_2 a0_3 a0_4 a0_5 a1_0 a1_1 a1_2 a1_3 a1_4 a1_5 = some (r1, r2, r3, r4, r5)) :
  Calls Try.prog 37 #[.agg #[.int .i64 a0_0, .int .i64 a0_1, .int .i64 a0_2, .int .i64 a0_3, .int .i64 a0_4, .int .i64 a0_5], .agg #[.int .i64 a1_0, .int .i64 a1_1, .int .i64 a1_2, .int .i64 a1_3, .int .i64 a1_4, .int .i64 a1_5]] w fun e w' => e = .returned (.tuple #[.agg #[.int .i64 r1, .int .i64 r2], .agg #[.int .i64 r3, .int .i64 r4], .bool r5]) ∧ Below w.heap.size w w' := by
 have hu25 := Try.underlying25
 have hu58 := Try.underlying58
 have hu83 := Try.underlying83
 have HB := Aside0.mk (Below.refl w.heap.size w)
 have H : ((spec_ShipOk.f a0_0 a0_1 a0_2 a0_3 a0_4 a0_5).bind fun t522 => (if t522 = true then ((spec_ShipOk.f a1_0 a1_1 a1_2 a1_3 a1_4 a1_5).bind fun t523 => (spec_Closest.j0 k (!t523) a0_0 a0_1 a0_2 a0_3 a0_4 a0_5 a1_0 a1_1 a1_2 a1_3 a1_4 a1_5)) else (spec_Closest.j0 k true a0_0 a0_1 a0_2 a0_3 a0_4 a0_5 a1_0 a1_1 a1_2 a1_3 a1_4 a1_5))) = some (r1, r2, r3, r4, r5) := h
 clear h
 have HC3 := Aside0.mk H
 clear H
 go_enter Try.func37, Try.ntmps37
 go_upto_region 1 with (first | ((with_reducible refine gate_dst (N := 2) rfl ?_); refine box_event ?hg (N := 2) ?hd (cs := #[.int .i64 a0_0, .int .i64 a0_1, .int .i64 a0_2, .int .i64 a0_3, .int .i64 a0_4, .int .i64 a0_5]) (t := 25) ?hr ?_; (case hd => rfl); (case hg => rfl); (case hr => first | (go_simp; done) | (go_simp; rfl)); intro gb518 hg w1 hbox hb; have n0_ := Aside0.mk (below_step (by repeat (first | (with_reducible first | exact HB.out | apply below_alloc | apply pw_below_drewN | apply below_drew1) | exact HB.out)) hb); have n1_ := Aside0.mk (hbox); have n2_ := Aside0.mk (ns hg (by repeat (first | (with_reducible first | exact HB.out | apply below_alloc | apply pw_below_drewN | apply below_drew1) | exact HB.out)) : w.heap.size ≤ gb518); have n3_ := Aside0.mk (ns hg (by repeat (first | (with_reducible first | exact HB.out | apply below_alloc | apply pw_below_drewN | apply below_drew1) | exact HB.out)) : w.heap.size ≤ gb518); clear HB; have HB := n0_; have BK518 := n1_; have GW518 := n2_; have GE518 := n3_; clear n0_ n1_ n2_ n3_; clear hb hbox hg) | ((with_reducible refine gate_dst (N := 3) rfl ?_); refine box_event ?hg (N := 3) ?hd (cs := #[.int .i64 a1_0, .int .i64 a1_1, .int .i64 a1_2, .int .i64 a1_3, .int .i64 a1_4, .int .i64 a1_5]) (t := 25) ?hr ?_; (case hd => rfl); (case hg => rfl); (case hr => first | (go_simp; done) | (go_simp; rfl)); intro gb519 hg w2 hbox hb; have n0_ := Aside0.mk (bb (zk BK518.out) hb); have n1_ := Aside0.mk (below_step (by repeat (first | (with_reducible first | exact HB.out | apply below_alloc | apply pw_below_drewN | apply below_drew1 | refine below_set ?_ GE518.out) | exact HB.out)) hb); have n2_ := Aside0.mk (hbox); have n3_ := Aside0.mk (ns hg (by repeat (first | (with_reducible first | exact HB.out | apply below_alloc | apply pw_below_drewN | apply below_drew1 | refine below_set ?_ GE518.out) | exact HB.out)) : w.heap.size ≤ gb519); have n4_ := Aside0.mk (ns hg (by repeat (first | (with_reducible first | exact HB.out | apply below_alloc | apply pw_below_drewN | apply below_drew1 | refine below_set ?_ GE518.out) | exact HB.out)) : w.heap.size ≤ gb519); have n5_ := Aside0.mk ((nlt hg (zk BK518.out) : gb518 ≠ gb519)); have n6_ := Aside0.mk ((ngt hg (zk BK518.out) : gb519 ≠ gb518)); clear BK518; clear HB; have BK518 := n0_; have HB := n1_; have BK519 := n2_; have GW519 := n3_; have GE519 := n4_; have NB518_519 := n5_; have NB519_518 := n6_; clear n0_ n1_ n2_ n3_ n4_ n5_ n6_; clear hb hbox hg) | ((with_reducible refine gate_dst (N := 4) rfl ?_); refine box_event ?hg (N := 4) ?hd (cs := #[.int .i64 0, .int .i64 0]) (t := 58) ?hr ?_; (case hd => rfl); (case hg => rfl); (case hr => first | (go_simp; done) | (go_simp; rfl)); intro gb520 hg w3 hbox hb; have n0_ := Aside0.mk (bb (zk BK518.out) hb); have n1_ := Aside0.mk (bb (zk BK519.out) hb); have n2_ := Aside0.mk (below_step s15_8 hb); have n3_ := Aside0.mk (hbox); have n4_ := Aside0.mk (ns hg s15_8 : w.heap.size ≤ gb520); have n5_ := Aside0.mk (ns hg s15_8 : w.heap.size ≤ gb520); have n6_ := Aside0.mk ((nlt hg (zk BK518.out) : gb518 ≠ gb520)); have n7_ := Aside0.mk ((ngt hg (zk BK518.out) : gb520 ≠ gb518)); have n8_ := Aside0.mk ((nlt hg (zk BK519.out) : gb519 ≠ gb520)); have n9_ := Aside0.mk ((ngt hg (zk BK519.out) : gb520 ≠ gb519)); clear BK518; clear BK519; clear HB; have BK518 := n0_; have BK519 := n1_; have HB := n2_; have BK520 := n3_; have GW520 := n4_; have GE520 := n5_; have NB518_520 := n6_; have NB520_518 := n7_; have NB519_520 := n8_; have NB520_519 := n9_; clear n0_ n1_ n2_ n3_ n4_ n5_ n6_ n7_ n8_ n9_; clear hb hbox hg) | ((with_reducible refine gate_dst (N := 5) rfl ?_); refine box_event ?hg (N := 5) ?hd (cs := #[.int .i64 0, .int .i64 0]) (t := 58) ?hr ?_; (case hd => rfl); (case hg => rfl); (case hr => first | (go_simp; done) | (go_simp; rfl)); intro gb521 hg w4 hbox hb; have n0_ := Aside0.mk (bb (zk BK518.out) hb); have n1_ := Aside0.mk (bb (zk BK519.out) hb); have n2_ := Aside0.mk (bb (zk BK520.out) hb); have n3_ := Aside0.mk (below_step s15_7 hb); have n4_ := Aside0.mk (hbox); have n5_ := Aside0.mk (ns hg s15_7 : w.heap.size ≤ gb521); have n6_ := Aside0.mk (ns hg s15_7 : w.heap.size ≤ gb521); have n7_ := Aside0.mk ((nlt hg (zk BK518.out) : gb518 ≠ gb521)); have n8_ := Aside0.mk ((ngt hg (zk BK518.out) : gb521 ≠ gb518)); have n9_ := Aside0.mk ((nlt hg (zk BK519.out) : gb519 ≠ gb521)); have n10_ := Aside0.mk ((ngt hg (zk BK519.out) : gb521 ≠ gb519)); have n11_ := Aside0.mk ((nlt hg (zk BK520.out) : gb520 ≠ gb521)); have n12_ := Aside0.mk ((ngt hg (zk BK520.out) : gb521 ≠ gb520)); clear BK518; clear BK519; clear BK520; clear HB; have BK518 := n0_; have BK519 := n1_; have BK520 := n2_; have HB := n3_; have BK521 := n4_; have GW521 := n5_; have GE521 := n6_; have NB518_521 := n7_; have NB521_518 := n8_; have NB519_521 := n9_; have NB521_519 := n10_; have NB520_521 := n11_; have NB521_520 := n12_; clear n0_ n1_ n2_ n3_ n4_ n5_ n6_ n7_ n8_ n9_ n10_ n11_ n12_; clear hb hbox hg))
 (try simp only [Act.put, List.setIfInBounds_toArray, List.set_cons_zero, List.set_cons_succ])
 go_cut [17] (fun v17 wc => ∃ (kq : Nat) (x17_2 : Bool), v17 = .bool x17_2 ∧ Aside0 (spec_Closest.j0 kq x17_2 a0_0 a0_1 a0_2 a0_3 a0_4 a0_5 a1_0 a1_1 a1_2 a1_3 a1_4 a1_5 = some (r1, r2, r3, r4, r5)) ∧ Aside0 (kq ≤ k) ∧ Aside0 (wc.heap[gb518]? = some (.cells #[.int .i64 a0_0, .int .i64 a0_1, .int .i64 a0_2, .int .i64 a0_3, .int .i64 a0_4, .int .i64 a0_5] 25 (0, 0))) ∧ Aside0 (wc.heap[gb519]? = some (.cells #[.int .i64 a1_0, .int .i64 a1_1, .int .i64 a1_2, .int .i64 a1_3, .int .i64 a1_4, .int .i64 a1_5] 25 (0, 0))) ∧ Aside0 (wc.heap[gb520]? = some (.cells #[.int .i64 0, .int .i64 0] 58 (0, 0))) ∧ Aside0 (wc.heap[gb521]? = some (.cells #[.int .i64 0, .int .i64 0] 58 (0, 0))) ∧ Aside0 (Below w.heap.size w wc))
 case first =>
  have H := HC3.out
  clear HC3
  replace H := Option.bind_eq_some_iff.mp H
  obtain ⟨t522, A80, H⟩ := H
  replace H : (if t522 = true then ((spec_ShipOk.f a1_0 a1_1 a1_2 a1_3 a1_4 a1_5).bind fun t523 => (spec_Closest.j0 k (!t523) a0_0 a0_1 a0_2 a0_3 a0_4 a0_5 a1_0 a1_1 a1_2 a1_3 a1_4 a1_5)) else (spec_Closest.j0 k true a0_0 a0_1 a0_2 a0_3 a0_4 a0_5 a1_0 a1_1 a1_2 a1_3 a1_4 a1_5)) = some (r1, r2, r3, r4, r5) := H
  have A8 := Aside0.mk A80
  clear A80
  by_cases c9 : t522 = true
  ·subst c9
   have H1 : ((spec_ShipOk.f a1_0 a1_1 a1_2 a1_3 a1_4 a1_5).bind fun t523 => (spec_Closest.j0 k (!t523) a0_0 a0_1 a0_2 a0_3 a0_4 a0_5 a1_0 a1_1 a1_2 a1_3 a1_4 a1_5)) = some (r1, r2, r3, r4, r5) := by rw [if_pos rfl] at H; exact H
   clear H
   have H := H1
   clear H1
   replace H := Option.bind_eq_some_iff.mp H
   obtain ⟨t523, A100, H⟩ := H
   replace H : (spec_Closest.j0 k (!t523) a0_0 a0_1 a0_2 a0_3 a0_4 a0_5 a1_0 a1_1 a1_2 a1_3 a1_4 a1_5) = some (r1, r2, r3, r4, r5) := H
   have A10 := Aside0.mk A100
   clear A100
   have H' := Aside0.mk H
   clear H
   have hnb11 := NB518_519.out
   have hnc11 := NB519_518.out
   have hnb12 := NB518_520.out
   have hnc12 := NB520_518.out
   have hnb13 := NB518_521.out
   have hnc13 := NB521_518.out
   have hcz14_0 : w4.cell? ⟨gb518, 0, none⟩ = some (.int .i64 a0_0) := bc BK518.out 0
   have hcz14_1 : w4.cell? ⟨gb518, 1, none⟩ = some (.int .i64 a0_1) := bc BK518.out 1
   have hcz14_2 : w4.cell? ⟨gb518, 2, none⟩ = some (.int .i64 a0_2) := bc BK518.out 2
   have hcz14_3 : w4.cell? ⟨gb518, 3, none⟩ = some (.int .i64 a0_3) := bc BK518.out 3
   have hcz14_4 : w4.cell? ⟨gb518, 4, none⟩ = some (.int .i64 a0_4) := bc BK518.out 4
   have hcz14_5 : w4.cell? ⟨gb518, 5, none⟩ = some (.int .i64 a0_5) := bc BK518.out 5
   have hfz14_0 := blk_frozen BK518.out 0
   have hfz14_1 := blk_frozen BK518.out 1
   have hfz14_2 := blk_frozen BK518.out 2
   have hfz14_3 := blk_frozen BK518.out 3
   have hfz14_4 := blk_frozen BK518.out 4
   have hfz14_5 := blk_frozen BK518.out 5
   go_wp2_with (first | ((with_reducible refine gate_callee (f := 15) rfl ?_); refine goesL_ (some 11) rfl rfl Try.func15 (by kernel_rfl) rfl #[.agg #[.int .i64 a0_0, .int .i64 a0_1, .int .i64 a0_2, .int .i64 a0_3, .int .i64 a0_4, .int .i64 a0_5]] rfl s15_4 ?_; (with_reducible refine (spec_ShipOk.calls a0_0 a0_1 a0_2 a0_3 a0_4 a0_5 true _ A8.out).mono ?_); rintro e w5 ⟨rfl, hb⟩; refine ⟨_, rfl, ?_⟩; have n0_ := Aside0.mk (bb (zk BK518.out) hb); have n1_ := Aside0.mk (bb (zk BK519.out) hb); have n2_ := Aside0.mk (bb (zk BK520.out) hb); have n3_ := Aside0.mk (bb (zk BK521.out) hb); have n4_ := Aside0.mk (below_step s15_0 hb); clear BK518; clear BK519; clear BK520; clear BK521; clear HB; have BK518 := n0_; have BK519 := n1_; have BK520 := n2_; have BK521 := n3_; have HB := n4_; clear n0_ n1_ n2_ n3_ n4_; (try clear hb); (try clear hb2); (try clear hk); (try clear hi); have hnb16 := NB519_520.out; have hnc16 := NB520_519.out; have hnb17 := NB519_521.out; have hnc17 := NB521_519.out; have hcz18_0 : w5.cell? ⟨gb519, 0, none⟩ = some (.int .i64 a1_0) := bc BK519.out 0; have hcz18_1 : w5.cell? ⟨gb519, 1, none⟩ = some (.int .i64 a1_1) := bc BK519.out 1; have hcz18_2 : w5.cell? ⟨gb519, 2, none⟩ = some (.int .i64 a1_2) := bc BK519.out 2; have hcz18_3 : w5.cell? ⟨gb519, 3, none⟩ = some (.int .i64 a1_3) := bc BK519.out 3; have hcz18_4 : w5.cell? ⟨gb519, 4, none⟩ = some (.int .i64 a1_4) := bc BK519.out 4; have hcz18_5 : w5.cell? ⟨gb519, 5, none⟩ = some (.int .i64 a1_5) := bc BK519.out 5; have hfz18_0 := blk_frozen BK519.out 0; have hfz18_1 := blk_frozen BK519.out 1; have hfz18_2 := blk_frozen BK519.out 2; have hfz18_3 := blk_frozen BK519.out 3; have hfz18_4 := blk_frozen BK519.out 4; have hfz18_5 := blk_frozen BK519.out 5) | (go_at_call 15; (with_reducible refine (spec_ShipOk.calls a1_0 a1_1 a1_2 a1_3 a1_4 a1_5 t523 _ A10.out).mono ?_); rintro e w6 ⟨rfl, hb⟩; have n0_ := Aside0.mk (bb (zk BK518.out) hb); have n1_ := Aside0.mk (bb (zk BK519.out) hb); have n2_ := Aside0.mk (bb (zk BK520.out) hb); have n3_ := Aside0.mk (bb (zk BK521.out) hb); have n4_ := Aside0.mk (below_step s15_0 hb); clear BK518; clear BK519; clear BK520; clear BK521; clear HB; have BK518 := n0_; have BK519 := n1_; have BK520 := n2_; have BK521 := n3_; have HB := n4_; clear n0_ n1_ n2_ n3_ n4_; (try clear hb); (try clear hb2); (try clear hk); (try clear hi)))
   go_meet
   case rel => exact ⟨_, (!t523), (by first | rfl | (simp; done) | (simp [*]; done)), H', ⟨by first | omega | exact Nat.le_refl _⟩, ⟨by (with_reducible repeat (first | refine blk_drewN ?_ _ | refine blk_drew ?_ | refine blk_alloc ?_ _)); exact BK518.out⟩, ⟨by (with_reducible repeat (first | refine blk_drewN ?_ _ | refine blk_drew ?_ | refine blk_alloc ?_ _)); exact BK519.out⟩, ⟨by (with_reducible repeat (first | refine blk_drewN ?_ _ | refine blk_drew ?_ | refine blk_alloc ?_ _)); exact BK520.out⟩, ⟨by (with_reducible repeat (first | refine blk_drewN ?_ _ | refine blk_drew ?_ | refine blk_alloc ?_ _)); exact BK521.out⟩, ⟨by repeat (first | (with_reducible first | exact HB.out | apply below_alloc | apply pw_below_drewN | apply below_drew1 | refine below_set ?_ GE518.out | refine below_set ?_ GE519.out | refine below_set ?_ GE520.out | refine below_set ?_ GE521.out) | exact HB.out)⟩⟩
  ·replace c9 := Bool.eq_false_iff.mpr c9
   subst c9
   have H1 : (spec_Closest.j0 k true a0_0 a0_1 a0_2 a0_3 a0_4 a0_5 a1_0 a1_1 a1_2 a1_3 a1_4 a1_5) = some (r1, r2, r3, r4, r5) := by rw [if_neg (show ¬ (false = true) by decide)] at H; exact H
   clear H
   have H := H1
   clear H1
   have H' := Aside0.mk H
   clear H
   have hnb20 := NB518_519.out
   have hnc20 := NB519_518.out
   have hnb21 := NB518_520.out
   have hnc21 := NB520_518.out
   have hnb22 := NB518_521.out
   have hnc22 := NB521_518.out
   have hcz23_0 : w4.cell? ⟨gb518, 0, none⟩ = some (.int .i64 a0_0) := bc BK518.out 0
   have hcz23_1 : w4.cell? ⟨gb518, 1, none⟩ = some (.int .i64 a0_1) := bc BK518.out 1
   have hcz23_2 : w4.cell? ⟨gb518, 2, none⟩ = some (.int .i64 a0_2) := bc BK518.out 2
   have hcz23_3 : w4.cell? ⟨gb518, 3, none⟩ = some (.int .i64 a0_3) := bc BK518.out 3
   have hcz23_4 : w4.cell? ⟨gb518, 4, none⟩ = some (.int .i64 a0_4) := bc BK518.out 4
   have hcz23_5 : w4.cell? ⟨gb518, 5, none⟩ = some (.int .i64 a0_5) := bc BK518.out 5
   have hfz23_0 := blk_frozen BK518.out 0
   have hfz23_1 := blk_frozen BK518.out 1
   have hfz23_2 := blk_frozen BK518.out 2
   have hfz23_3 := blk_frozen BK518.out 3
   have hfz23_4 := blk_frozen BK518.out 4
   have hfz23_5 := blk_frozen BK518.out 5
   go_wp2_with (first | ((with_reducible refine gate_callee (f := 15) rfl ?_); refine goesL_ (some 11) rfl rfl Try.func15 (by kernel_rfl) rfl #[.agg #[.int .i64 a0_0, .int .i64 a0_1, .int .i64 a0_2, .int .i64 a0_3, .int .i64 a0_4, .int .i64 a0_5]] rfl s15_4 ?_; (with_reducible refine (spec_ShipOk.calls a0_0 a0_1 a0_2 a0_3 a0_4 a0_5 false _ A8.out).mono ?_); rintro e w5 ⟨rfl, hb⟩; refine ⟨_, rfl, ?_⟩; have n0_ := Aside0.mk (bb (zk BK518.out) hb); have n1_ := Aside0.mk (bb (zk BK519.out) hb); have n2_ := Aside0.mk (bb (zk BK520.out) hb); have n3_ := Aside0.mk (bb (zk BK521.out) hb); have n4_ := Aside0.mk (below_step s15_0 hb); clear BK518; clear BK519; clear BK520; clear BK521; clear HB; have BK518 := n0_; have BK519 := n1_; have BK520 := n2_; have BK521 := n3_; have HB := n4_; clear n0_ n1_ n2_ n3_ n4_; (try clear hb); (try clear hb2); (try clear hk); (try clear hi)))
   go_meet
   case rel => exact ⟨_, (true), (by first | rfl | (simp; done) | (simp [*]; done)), H', ⟨by first | omega | exact Nat.le_refl _⟩, ⟨by (with_reducible repeat (first | refine blk_drewN ?_ _ | refine blk_drew ?_ | refine blk_alloc ?_ _)); exact BK518.out⟩, ⟨by (with_reducible repeat (first | refine blk_drewN ?_ _ | refine blk_drew ?_ | refine blk_alloc ?_ _)); exact BK519.out⟩, ⟨by (with_reducible repeat (first | refine blk_drewN ?_ _ | refine blk_drew ?_ | refine blk_alloc ?_ _)); exact BK520.out⟩, ⟨by (with_reducible repeat (first | refine blk_drewN ?_ _ | refine blk_drew ?_ | refine blk_alloc ?_ _)); exact BK521.out⟩, ⟨by repeat (first | (with_reducible first | exact HB.out | apply below_alloc | apply pw_below_drewN | apply below_drew1 | refine below_set ?_ GE518.out | refine below_set ?_ GE519.out | refine below_set ?_ GE520.out | refine below_set ?_ GE521.out) | exact HB.out)⟩⟩
 case rest =>
  clear HC3
  (try clear c1); (try clear c2); (try clear p2); (try clear c3); (try clear c9); (try clear c11); (try clear c12); (try clear c13); (try clear c15); (try clear c16); (try clear c17); (try clear c20); (try clear c21); (try clear c22); (try clear hcz14_0); (try clear hcz14_1); (try clear hcz14_2); (try clear hcz14_3); (try clear hcz14_4); (try clear hcz14_5); (try clear hcz18_0); (try clear hcz18_1); (try clear hcz18_2); (try clear hcz18_3); (try clear hcz18_4); (try clear hcz18_5); (try clear hcz23_0); (try clear hcz23_1); (try clear hcz23_2); (try clear hcz23_3); (try clear hcz23_4); (try clear hcz23_5); (try clear hfz14_0); (try clear hfz14_1); (try clear hfz14_2); (try clear hfz14_3); (try clear hfz14_4); (try clear hfz14_5); (try clear hfz18_0); (try clear hfz18_1); (try clear hfz18_2); (try clear hfz18_3); (try clear hfz18_4); (try clear hfz18_5); (try clear hfz23_0); (try clear hfz23_1); (try clear hfz23_2); (try clear hfz23_3); (try clear hfz23_4); (try clear hfz23_5)
  obtain ⟨kq, x17_2, rfl, HA, HJ2, BK518, BK519, BK520, BK521, HB⟩ := hcut
  cases kq with
  | zero => exact absurd HA.out (by simp [spec_Closest.j0])
  | succ kj2 =>
   have H := HA.out
   clear HA
   simp only [spec_Closest.j0] at H
   by_cases c25 : x17_2 = true
   ·subst c25
    have H1 : (some (0, 0, 0, 0, false)) = some (r1, r2, r3, r4, r5) := by rw [if_pos rfl] at H; exact H
    clear H
    have H := H1
    clear H1
    simp only [Option.some.injEq, Prod.mk.injEq] at H
    obtain ⟨rfl, rfl, rfl, rfl, rfl⟩ := H
    have hnb26 := NB520_518.out
    have hnc26 := NB518_520.out
    have hnb27 := NB520_519.out
    have hnc27 := NB519_520.out
    have hnb28 := NB520_521.out
    have hnc28 := NB521_520.out
    have hcz29_0 : wc.cell? ⟨gb520, 0, none⟩ = some (.int .i64 0) := bc BK520.out 0
    have hcz29_1 : wc.cell? ⟨gb520, 1, none⟩ = some (.int .i64 0) := bc BK520.out 1
    have hfz29_0 := blk_frozen BK520.out 0
    have hfz29_1 := blk_frozen BK520.out 1
    have hnb30 := NB521_518.out
    have hnc30 := NB518_521.out
    have hnb31 := NB521_519.out
    have hnc31 := NB519_521.out
    have hcz32_0 : wc.cell? ⟨gb521, 0, none⟩ = some (.int .i64 0) := bc BK521.out 0
    have hcz32_1 : wc.cell? ⟨gb521, 1, none⟩ = some (.int .i64 0) := bc BK521.out 1
    have hfz32_0 := blk_frozen BK521.out 0
    have hfz32_1 := blk_frozen BK521.out 1
    go_wp2
    refine bodyPost_ret (results_list (rs := [.cell 4 58, .cell 5 58, .tmp 6]) rfl (by simp) (.cell gb520 58 #[.int .i64 0, .int .i64 0] (0, 0) _ rfl (by (with_reducible repeat (first | refine blk_drewN ?_ _ | refine blk_drew ?_ | refine blk_alloc ?_ _)); refine blk_far ?_ NB520_521.out _; (with_reducible repeat (first | refine blk_drewN ?_ _ | refine blk_drew ?_ | refine blk_alloc ?_ _)); refine blk_far ?_ NB520_521.out _; (with_reducible repeat (first | refine blk_drewN ?_ _ | refine blk_drew ?_ | refine blk_alloc ?_ _)); refine blk_put (cs := #[.int .i64 0, .int .i64 0]) ?_ 1 _ rfl; (with_reducible repeat (first | refine blk_drewN ?_ _ | refine blk_drew ?_ | refine blk_alloc ?_ _)); refine blk_put (cs := #[.int .i64 0, .int .i64 0]) ?_ 0 _ rfl; (with_reducible repeat (first | refine blk_drewN ?_ _ | refine blk_drew ?_ | refine blk_alloc ?_ _)); exact BK520.out) Try.underlying58 rfl (by kernel_rfl) (.cell gb521 58 #[.int .i64 0, .int .i64 0] (0, 0) _ rfl (by (with_reducible repeat (first | refine blk_drewN ?_ _ | refine blk_drew ?_ | refine blk_alloc ?_ _)); refine blk_put (cs := #[.int .i64 0, .int .i64 0]) ?_ 1 _ rfl; (with_reducible repeat (first | refine blk_drewN ?_ _ | refine blk_drew ?_ | refine blk_alloc ?_ _)); refine blk_put (cs := #[.int .i64 0, .int .i64 0]) ?_ 0 _ rfl; (with_reducible repeat (first | refine blk_drewN ?_ _ | refine blk_drew ?_ | refine blk_alloc ?_ _)); refine blk_far ?_ NB521_520.out _; (with_reducible repeat (first | refine blk_drewN ?_ _ | refine blk_drew ?_ | refine blk_alloc ?_ _)); refine blk_far ?_ NB521_520.out _; (with_reducible repeat (first | refine blk_drewN ?_ _ | refine blk_drew ?_ | refine blk_alloc ?_ _)); exact BK521.out) Try.underlying58 rfl (by kernel_rfl) (.tmp .nil)))) rfl ?_
    exact ⟨by first | rfl | (simp [errW_none, errW_some] <;> rfl) | (simp [*, errW_none, errW_some] <;> rfl), by repeat (first | (with_reducible first | exact HB.out | apply below_alloc | apply pw_below_drewN | apply below_drew1 | refine below_set ?_ GE518.out | refine below_set ?_ GE519.out | refine below_set ?_ GE520.out | refine below_set ?_ GE521.out) | exact HB.out)⟩
   ·replace c25 := Bool.eq_false_iff.mpr c25
    subst c25
    have H1 : ((spec_l8Bearing.f a0_0 a0_1 a0_2 a0_3 a0_4 a0_5 a1_0 a1_1 a1_2 a1_3 a1_4 a1_5).bind fun bt524 => ((spec_l8Diff.f a0_0 a0_1 a0_2 a0_3 a0_4 a0_5 a1_0 a1_1 a1_2 a1_3 a1_4 a1_5).bind fun bt526 => ((spec_l8Dot.f bt526.1 bt526.2 bt526.1 bt526.2).bind fun t530 => (if t530 = 0 then (spec_Closest.j1 kj2 true bt524.1 bt524.2 bt526.1 bt526.2) else ((spec_l8Dot.f bt524.1 bt524.2 bt526.1 bt526.2).bind fun t531 => (spec_Closest.j1 kj2 (decide (t531 > 0)) bt524.1 bt524.2 bt526.1 bt526.2)))))) = some (r1, r2, r3, r4, r5) := by rw [if_neg (show ¬ (false = true) by decide)] at H; exact H
    clear H
    have H := H1
    clear H1
    replace H := Option.bind_eq_some_iff.mp H
    obtain ⟨⟨t524, t525⟩, A330, H⟩ := H
    replace H : ((spec_l8Diff.f a0_0 a0_1 a0_2 a0_3 a0_4 a0_5 a1_0 a1_1 a1_2 a1_3 a1_4 a1_5).bind fun bt526 => ((spec_l8Dot.f bt526.1 bt526.2 bt526.1 bt526.2).bind fun t530 => (if t530 = 0 then (spec_Closest.j1 kj2 true t524 t525 bt526.1 bt526.2) else ((spec_l8Dot.f t524 t525 bt526.1 bt526.2).bind fun t531 => (spec_Closest.j1 kj2 (decide (t531 > 0)) t524 t525 bt526.1 bt526.2))))) = some (r1, r2, r3, r4, r5) := H
    have A33 := Aside0.mk A330
    clear A330
    replace H := Option.bind_eq_some_iff.mp H
    obtain ⟨⟨t526, t527⟩, A340, H⟩ := H
    replace H : ((spec_l8Dot.f t526 t527 t526 t527).bind fun t530 => (if t530 = 0 then (spec_Closest.j1 kj2 true t524 t525 t526 t527) else ((spec_l8Dot.f t524 t525 t526 t527).bind fun t531 => (spec_Closest.j1 kj2 (decide (t531 > 0)) t524 t525 t526 t527)))) = some (r1, r2, r3, r4, r5) := H
    have A34 := Aside0.mk A340
    clear A340
    have HC35 := Aside0.mk H
    clear H
    try go_wp2
    have n0_ := Aside0.mk (blk_drew BK518.out)
    have n1_ := Aside0.mk (blk_drew BK519.out)
    have n2_ := Aside0.mk (blk_drew BK520.out)
    have n3_ := Aside0.mk (blk_drew BK521.out)
    have n4_ := Aside0.mk (below_drew1 HB.out)
    clear BK518 BK519 BK520 BK521 HB
    have BK518 := n0_
    have BK519 := n1_
    have BK520 := n2_
    have BK521 := n3_
    have HB := n4_
    clear n0_ n1_ n2_ n3_ n4_
    refine start_ (n := 10) (S := fun w' => w'.cell? ⟨gb518, 0, none⟩ = some (.int .i64 a0_0) ∧ w'.cell? ⟨gb518, 1, none⟩ = some (.int .i64 a0_1) ∧ w'.cell? ⟨gb518, 2, none⟩ = some (.int .i64 a0_2) ∧ w'.cell? ⟨gb518, 3, none⟩ = some (.int .i64 a0_3) ∧ w'.cell? ⟨gb518, 4, none⟩ = some (.int .i64 a0_4) ∧ w'.cell? ⟨gb518, 5, none⟩ = some (.int .i64 a0_5) ∧ w'.cell? ⟨gb519, 0, none⟩ = some (.int .i64 a1_0) ∧ w'.cell? ⟨gb519, 1, none⟩ = some (.int .i64 a1_1) ∧ w'.cell? ⟨gb519, 2, none⟩ = some (.int .i64 a1_2) ∧ w'.cell? ⟨gb519, 3, none⟩ = some (.int .i64 a1_3) ∧ w'.cell? ⟨gb519, 4, none⟩ = some (.int .i64 a1_4) ∧ w'.cell? ⟨gb519, 5, none⟩ = some (.int .i64 a1_5)) (ds := []) #[false, false, false, false, false, false, false, false, false, false] (by kernel_rfl) rfl rfl ⟨bc BK518.out 0, bc BK518.out 1, bc BK518.out 2, bc BK518.out 3, bc BK518.out 4, bc BK518.out 5, bc BK519.out 0, bc BK519.out 1, bc BK519.out 2, bc BK519.out 3, bc BK519.out 4, bc BK519.out 5⟩ (fun hHeld => ?_); refine with_tabW spec_Closest.tab3 spec_Closest.bits3 (fun HT_ HW_ => ?_)
    generalize wc.drew = w5 at BK518 BK519 BK520 BK521 HB hHeld ⊢
    refine take_ (i := 0) (N := some 20) (v := ?_) (a' := ?_) (bz 10 1) rfl rfl (take_ofW HT_.out HW_.out (by kernel_rfl)) (fun _ _ _ h => h) (Or.inl ⟨by rfl, ?_⟩) hHeld ?_ ?_
    rotate_left
    ·rintro w' ⟨s0, s1, s2, s3, s4, s5, s6, s7, s8, s9, s10, s11⟩
     go_simp
     with_reducible rfl
    rotate_left
    ·exact t15_0
    refine take_ (i := 1) (N := some 21) (v := ?_) (a' := ?_) (bz 10 3) rfl rfl (take_ofW HT_.out HW_.out (by kernel_rfl)) (fun _ _ _ h => h) (Or.inl ⟨by rfl, ?_⟩) hHeld ?_ ?_
    rotate_left
    ·rintro w' ⟨s0, s1, s2, s3, s4, s5, s6, s7, s8, s9, s10, s11⟩
     go_simp
     with_reducible rfl
    rotate_left
    ·exact t15_0
    refine take_ (i := 3) (N := some 23) (v := ?_) (a' := ?_) (bz 10 11) rfl rfl (take_ofW HT_.out HW_.out (by kernel_rfl)) (fun _ _ _ h => h) (Or.inl ⟨by rfl, ?_⟩) hHeld ?_ ?_
    rotate_left
    ·rintro w' ⟨s0, s1, s2, s3, s4, s5, s6, s7, s8, s9, s10, s11⟩
     go_simp
     with_reducible rfl
    rotate_left
    ·exact t15_0
    refine take_ (i := 4) (N := some 24) (v := ?_) (a' := ?_) (bz 10 27) rfl rfl (take_ofW HT_.out HW_.out (by kernel_rfl)) (fun _ _ _ h => h) (Or.inl ⟨by rfl, ?_⟩) hHeld ?_ ?_
    rotate_left
    ·rintro w' ⟨s0, s1, s2, s3, s4, s5, s6, s7, s8, s9, s10, s11⟩
     go_simp
     with_reducible rfl
    rotate_left
    ·exact t15_0
    refine join_ (σ := Nat × Nat) 2 (bz 10 255) (fun s_ => [(22, .agg #[.int .i64 t524, .int .i64 t525]), (25, .agg #[.int .i64 t526, .int .i64 t527]), (7, .pointer (some ⟨s_.1, 0, none⟩)), (8, .pointer (some ⟨s_.2, 0, none⟩))]) (fun s_ w' => (w'.cell? ⟨gb518, 0, none⟩ = some (.int .i64 a0_0) ∧ w'.cell? ⟨gb518, 1, none⟩ = some (.int .i64 a0_1) ∧ w'.cell? ⟨gb518, 2, none⟩ = some (.int .i64 a0_2) ∧ w'.cell? ⟨gb518, 3, none⟩ = some (.int .i64 a0_3) ∧ w'.cell? ⟨gb518, 4, none⟩ = some (.int .i64 a0_4) ∧ w'.cell? ⟨gb518, 5, none⟩ = some (.int .i64 a0_5) ∧ w'.cell? ⟨gb519, 0, none⟩ = some (.int .i64 a1_0) ∧ w'.cell? ⟨gb519, 1, none⟩ = some (.int .i64 a1_1) ∧ w'.cell? ⟨gb519, 2, none⟩ = some (.int .i64 a1_2) ∧ w'.cell? ⟨gb519, 3, none⟩ = some (.int .i64 a1_3) ∧ w'.cell? ⟨gb519, 4, none⟩ = some (.int .i64 a1_4) ∧ w'.cell? ⟨gb519, 5, none⟩ = some (.int .i64 a1_5)) ∧ (w'.heap[gb518]? = some (.cells #[.int .i64 a0_0, .int .i64 a0_1, .int .i64 a0_2, .int .i64 a0_3, .int .i64 a0_4, .int .i64 a0_5] 25 (0, 0))) ∧ (w'.heap[gb519]? = some (.cells #[.int .i64 a1_0, .int .i64 a1_1, .int .i64 a1_2, .int .i64 a1_3, .int .i64 a1_4, .int .i64 a1_5] 25 (0, 0))) ∧ (w'.heap[gb520]? = some (.cells #[.int .i64 0, .int .i64 0] 58 (0, 0))) ∧ (w'.heap[gb521]? = some (.cells #[.int .i64 0, .int .i64 0] 58 (0, 0))) ∧ (w'.heap[s_.1]? = some (.cells #[.int .i64 0, .int .i64 0] 83 (0, 0))) ∧ (w'.heap[s_.2]? = some (.cells #[.int .i64 0, .int .i64 0] 83 (0, 0))) ∧ (w.heap.size ≤ s_.1) ∧ (w.heap.size ≤ s_.1) ∧ (gb518 ≠ s_.1) ∧ (s_.1 ≠ gb518) ∧ (gb519 ≠ s_.1) ∧ (s_.1 ≠ gb519) ∧ (gb520 ≠ s_.1) ∧ (s_.1 ≠ gb520) ∧ (gb521 ≠ s_.1) ∧ (s_.1 ≠ gb521) ∧ (s_.2 ≠ s_.1) ∧ (s_.1 ≠ s_.2) ∧ (w.heap.size ≤ s_.2) ∧ (w.heap.size ≤ s_.2) ∧ (gb518 ≠ s_.2) ∧ (s_.2 ≠ gb518) ∧ (gb519 ≠ s_.2) ∧ (s_.2 ≠ gb519) ∧ (gb520 ≠ s_.2) ∧ (s_.2 ≠ gb520) ∧ (gb521 ≠ s_.2) ∧ (s_.2 ≠ gb521) ∧ (Below w.heap.size w w')) ?_ ?_
    rotate_left
    ·intro hJ2_5_6_7
     refine join_ (σ := Nat) 3 (bz 10 127) (fun s_ => [(22, .agg #[.int .i64 t524, .int .i64 t525]), (25, .agg #[.int .i64 t526, .int .i64 t527]), (7, .pointer (some ⟨s_, 0, none⟩))]) (fun s_ w' => (w'.cell? ⟨gb518, 0, none⟩ = some (.int .i64 a0_0) ∧ w'.cell? ⟨gb518, 1, none⟩ = some (.int .i64 a0_1) ∧ w'.cell? ⟨gb518, 2, none⟩ = some (.int .i64 a0_2) ∧ w'.cell? ⟨gb518, 3, none⟩ = some (.int .i64 a0_3) ∧ w'.cell? ⟨gb518, 4, none⟩ = some (.int .i64 a0_4) ∧ w'.cell? ⟨gb518, 5, none⟩ = some (.int .i64 a0_5) ∧ w'.cell? ⟨gb519, 0, none⟩ = some (.int .i64 a1_0) ∧ w'.cell? ⟨gb519, 1, none⟩ = some (.int .i64 a1_1) ∧ w'.cell? ⟨gb519, 2, none⟩ = some (.int .i64 a1_2) ∧ w'.cell? ⟨gb519, 3, none⟩ = some (.int .i64 a1_3) ∧ w'.cell? ⟨gb519, 4, none⟩ = some (.int .i64 a1_4) ∧ w'.cell? ⟨gb519, 5, none⟩ = some (.int .i64 a1_5)) ∧ (w'.heap[gb518]? = some (.cells #[.int .i64 a0_0, .int .i64 a0_1, .int .i64 a0_2, .int .i64 a0_3, .int .i64 a0_4, .int .i64 a0_5] 25 (0, 0))) ∧ (w'.heap[gb519]? = some (.cells #[.int .i64 a1_0, .int .i64 a1_1, .int .i64 a1_2, .int .i64 a1_3, .int .i64 a1_4, .int .i64 a1_5] 25 (0, 0))) ∧ (w'.heap[gb520]? = some (.cells #[.int .i64 0, .int .i64 0] 58 (0, 0))) ∧ (w'.heap[gb521]? = some (.cells #[.int .i64 0, .int .i64 0] 58 (0, 0))) ∧ (w'.heap[s_]? = some (.cells #[.int .i64 0, .int .i64 0] 83 (0, 0))) ∧ (w.heap.size ≤ s_) ∧ (w.heap.size ≤ s_) ∧ (gb518 ≠ s_) ∧ (s_ ≠ gb518) ∧ (gb519 ≠ s_) ∧ (s_ ≠ gb519) ∧ (gb520 ≠ s_) ∧ (s_ ≠ gb520) ∧ (gb521 ≠ s_) ∧ (s_ ≠ gb521) ∧ (Below w.heap.size w w')) ?_ ?_
     rotate_left
     ·intro hJ2_5_6
      refine join_ (σ := Nat) 3 (bz 10 191) (fun s_ => [(22, .agg #[.int .i64 t524, .int .i64 t525]), (25, .agg #[.int .i64 t526, .int .i64 t527]), (8, .pointer (some ⟨s_, 0, none⟩))]) (fun s_ w' => (w'.cell? ⟨gb518, 0, none⟩ = some (.int .i64 a0_0) ∧ w'.cell? ⟨gb518, 1, none⟩ = some (.int .i64 a0_1) ∧ w'.cell? ⟨gb518, 2, none⟩ = some (.int .i64 a0_2) ∧ w'.cell? ⟨gb518, 3, none⟩ = some (.int .i64 a0_3) ∧ w'.cell? ⟨gb518, 4, none⟩ = some (.int .i64 a0_4) ∧ w'.cell? ⟨gb518, 5, none⟩ = some (.int .i64 a0_5) ∧ w'.cell? ⟨gb519, 0, none⟩ = some (.int .i64 a1_0) ∧ w'.cell? ⟨gb519, 1, none⟩ = some (.int .i64 a1_1) ∧ w'.cell? ⟨gb519, 2, none⟩ = some (.int .i64 a1_2) ∧ w'.cell? ⟨gb519, 3, none⟩ = some (.int .i64 a1_3) ∧ w'.cell? ⟨gb519, 4, none⟩ = some (.int .i64 a1_4) ∧ w'.cell? ⟨gb519, 5, none⟩ = some (.int .i64 a1_5)) ∧ (w'.heap[gb518]? = some (.cells #[.int .i64 a0_0, .int .i64 a0_1, .int .i64 a0_2, .int .i64 a0_3, .int .i64 a0_4, .int .i64 a0_5] 25 (0, 0))) ∧ (w'.heap[gb519]? = some (.cells #[.int .i64 a1_0, .int .i64 a1_1, .int .i64 a1_2, .int .i64 a1_3, .int .i64 a1_4, .int .i64 a1_5] 25 (0, 0))) ∧ (w'.heap[gb520]? = some (.cells #[.int .i64 0, .int .i64 0] 58 (0, 0))) ∧ (w'.heap[gb521]? = some (.cells #[.int .i64 0, .int .i64 0] 58 (0, 0))) ∧ (w'.heap[s_]? = some (.cells #[.int .i64 0, .int .i64 0] 83 (0, 0))) ∧ (w.heap.size ≤ s_) ∧ (w.heap.size ≤ s_) ∧ (gb518 ≠ s_) ∧ (s_ ≠ gb518) ∧ (gb519 ≠ s_) ∧ (s_ ≠ gb519) ∧ (gb520 ≠ s_) ∧ (s_ ≠ gb520) ∧ (gb521 ≠ s_) ∧ (s_ ≠ gb521) ∧ (Below w.heap.size w w')) ?_ ?_
      rotate_left
      ·intro hJ2_5_7
       refine join_ (σ := Nat × Nat) 3 (bz 10 223) (fun s_ => [(22, .agg #[.int .i64 t524, .int .i64 t525]), (7, .pointer (some ⟨s_.1, 0, none⟩)), (8, .pointer (some ⟨s_.2, 0, none⟩))]) (fun s_ w' => (w'.cell? ⟨gb518, 0, none⟩ = some (.int .i64 a0_0) ∧ w'.cell? ⟨gb518, 1, none⟩ = some (.int .i64 a0_1) ∧ w'.cell? ⟨gb518, 2, none⟩ = some (.int .i64 a0_2) ∧ w'.cell? ⟨gb518, 3, none⟩ = some (.int .i64 a0_3) ∧ w'.cell? ⟨gb518, 4, none⟩ = some (.int .i64 a0_4) ∧ w'.cell? ⟨gb518, 5, none⟩ = some (.int .i64 a0_5) ∧ w'.cell? ⟨gb519, 0, none⟩ = some (.int .i64 a1_0) ∧ w'.cell? ⟨gb519, 1, none⟩ = some (.int .i64 a1_1) ∧ w'.cell? ⟨gb519, 2, none⟩ = some (.int .i64 a1_2) ∧ w'.cell? ⟨gb519, 3, none⟩ = some (.int .i64 a1_3) ∧ w'.cell? ⟨gb519, 4, none⟩ = some (.int .i64 a1_4) ∧ w'.cell? ⟨gb519, 5, none⟩ = some (.int .i64 a1_5)) ∧ (w'.heap[gb518]? = some (.cells #[.int .i64 a0_0, .int .i64 a0_1, .int .i64 a0_2, .int .i64 a0_3, .int .i64 a0_4, .int .i64 a0_5] 25 (0, 0))) ∧ (w'.heap[gb519]? = some (.cells #[.int .i64 a1_0, .int .i64 a1_1, .int .i64 a1_2, .int .i64 a1_3, .int .i64 a1_4, .int .i64 a1_5] 25 (0, 0))) ∧ (w'.heap[gb520]? = some (.cells #[.int .i64 0, .int .i64 0] 58 (0, 0))) ∧ (w'.heap[gb521]? = some (.cells #[.int .i64 0, .int .i64 0] 58 (0, 0))) ∧ (w'.heap[s_.1]? = some (.cells #[.int .i64 0, .int .i64 0] 83 (0, 0))) ∧ (w'.heap[s_.2]? = some (.cells #[.int .i64 0, .int .i64 0] 83 (0, 0))) ∧ (w.heap.size ≤ s_.1) ∧ (w.heap.size ≤ s_.1) ∧ (gb518 ≠ s_.1) ∧ (s_.1 ≠ gb518) ∧ (gb519 ≠ s_.1) ∧ (s_.1 ≠ gb519) ∧ (gb520 ≠ s_.1) ∧ (s_.1 ≠ gb520) ∧ (gb521 ≠ s_.1) ∧ (s_.1 ≠ gb521) ∧ (s_.2 ≠ s_.1) ∧ (s_.1 ≠ s_.2) ∧ (w.heap.size ≤ s_.2) ∧ (w.heap.size ≤ s_.2) ∧ (gb518 ≠ s_.2) ∧ (s_.2 ≠ gb518) ∧ (gb519 ≠ s_.2) ∧ (s_.2 ≠ gb519) ∧ (gb520 ≠ s_.2) ∧ (s_.2 ≠ gb520) ∧ (gb521 ≠ s_.2) ∧ (s_.2 ≠ gb521) ∧ (Below w.heap.size w w')) ?_ ?_
       rotate_left
       ·intro hJ2_6_7
        refine join_ (σ := Unit) 4 (bz 10 63) (fun s_ => [(22, .agg #[.int .i64 t524, .int .i64 t525]), (25, .agg #[.int .i64 t526, .int .i64 t527])]) (fun s_ w' => (w'.cell? ⟨gb518, 0, none⟩ = some (.int .i64 a0_0) ∧ w'.cell? ⟨gb518, 1, none⟩ = some (.int .i64 a0_1) ∧ w'.cell? ⟨gb518, 2, none⟩ = some (.int .i64 a0_2) ∧ w'.cell? ⟨gb518, 3, none⟩ = some (.int .i64 a0_3) ∧ w'.cell? ⟨gb518, 4, none⟩ = some (.int .i64 a0_4) ∧ w'.cell? ⟨gb518, 5, none⟩ = some (.int .i64 a0_5) ∧ w'.cell? ⟨gb519, 0, none⟩ = some (.int .i64 a1_0) ∧ w'.cell? ⟨gb519, 1, none⟩ = some (.int .i64 a1_1) ∧ w'.cell? ⟨gb519, 2, none⟩ = some (.int .i64 a1_2) ∧ w'.cell? ⟨gb519, 3, none⟩ = some (.int .i64 a1_3) ∧ w'.cell? ⟨gb519, 4, none⟩ = some (.int .i64 a1_4) ∧ w'.cell? ⟨gb519, 5, none⟩ = some (.int .i64 a1_5)) ∧ (w'.heap[gb518]? = some (.cells #[.int .i64 a0_0, .int .i64 a0_1, .int .i64 a0_2, .int .i64 a0_3, .int .i64 a0_4, .int .i64 a0_5] 25 (0, 0))) ∧ (w'.heap[gb519]? = some (.cells #[.int .i64 a1_0, .int .i64 a1_1, .int .i64 a1_2, .int .i64 a1_3, .int .i64 a1_4, .int .i64 a1_5] 25 (0, 0))) ∧ (w'.heap[gb520]? = some (.cells #[.int .i64 0, .int .i64 0] 58 (0, 0))) ∧ (w'.heap[gb521]? = some (.cells #[.int .i64 0, .int .i64 0] 58 (0, 0))) ∧ (Below w.heap.size w w')) ?_ ?_
        rotate_left
        ·intro hJ2_5
         refine join_ (σ := Nat) 4 (bz 10 95) (fun s_ => [(22, .agg #[.int .i64 t524, .int .i64 t525]), (7, .pointer (some ⟨s_, 0, none⟩))]) (fun s_ w' => (w'.cell? ⟨gb518, 0, none⟩ = some (.int .i64 a0_0) ∧ w'.cell? ⟨gb518, 1, none⟩ = some (.int .i64 a0_1) ∧ w'.cell? ⟨gb518, 2, none⟩ = some (.int .i64 a0_2) ∧ w'.cell? ⟨gb518, 3, none⟩ = some (.int .i64 a0_3) ∧ w'.cell? ⟨gb518, 4, none⟩ = some (.int .i64 a0_4) ∧ w'.cell? ⟨gb518, 5, none⟩ = some (.int .i64 a0_5) ∧ w'.cell? ⟨gb519, 0, none⟩ = some (.int .i64 a1_0) ∧ w'.cell? ⟨gb519, 1, none⟩ = some (.int .i64 a1_1) ∧ w'.cell? ⟨gb519, 2, none⟩ = some (.int .i64 a1_2) ∧ w'.cell? ⟨gb519, 3, none⟩ = some (.int .i64 a1_3) ∧ w'.cell? ⟨gb519, 4, none⟩ = some (.int .i64 a1_4) ∧ w'.cell? ⟨gb519, 5, none⟩ = some (.int .i64 a1_5)) ∧ (w'.heap[gb518]? = some (.cells #[.int .i64 a0_0, .int .i64 a0_1, .int .i64 a0_2, .int .i64 a0_3, .int .i64 a0_4, .int .i64 a0_5] 25 (0, 0))) ∧ (w'.heap[gb519]? = some (.cells #[.int .i64 a1_0, .int .i64 a1_1, .int .i64 a1_2, .int .i64 a1_3, .int .i64 a1_4, .int .i64 a1_5] 25 (0, 0))) ∧ (w'.heap[gb520]? = some (.cells #[.int .i64 0, .int .i64 0] 58 (0, 0))) ∧ (w'.heap[gb521]? = some (.cells #[.int .i64 0, .int .i64 0] 58 (0, 0))) ∧ (w'.heap[s_]? = some (.cells #[.int .i64 0, .int .i64 0] 83 (0, 0))) ∧ (w.heap.size ≤ s_) ∧ (w.heap.size ≤ s_) ∧ (gb518 ≠ s_) ∧ (s_ ≠ gb518) ∧ (gb519 ≠ s_) ∧ (s_ ≠ gb519) ∧ (gb520 ≠ s_) ∧ (s_ ≠ gb520) ∧ (gb521 ≠ s_) ∧ (s_ ≠ gb521) ∧ (Below w.heap.size w w')) ?_ ?_
         rotate_left
         ·intro hJ2_6
          refine join_ (σ := Nat) 4 (bz 10 159) (fun s_ => [(22, .agg #[.int .i64 t524, .int .i64 t525]), (8, .pointer (some ⟨s_, 0, none⟩))]) (fun s_ w' => (w'.cell? ⟨gb518, 0, none⟩ = some (.int .i64 a0_0) ∧ w'.cell? ⟨gb518, 1, none⟩ = some (.int .i64 a0_1) ∧ w'.cell? ⟨gb518, 2, none⟩ = some (.int .i64 a0_2) ∧ w'.cell? ⟨gb518, 3, none⟩ = some (.int .i64 a0_3) ∧ w'.cell? ⟨gb518, 4, none⟩ = some (.int .i64 a0_4) ∧ w'.cell? ⟨gb518, 5, none⟩ = some (.int .i64 a0_5) ∧ w'.cell? ⟨gb519, 0, none⟩ = some (.int .i64 a1_0) ∧ w'.cell? ⟨gb519, 1, none⟩ = some (.int .i64 a1_1) ∧ w'.cell? ⟨gb519, 2, none⟩ = some (.int .i64 a1_2) ∧ w'.cell? ⟨gb519, 3, none⟩ = some (.int .i64 a1_3) ∧ w'.cell? ⟨gb519, 4, none⟩ = some (.int .i64 a1_4) ∧ w'.cell? ⟨gb519, 5, none⟩ = some (.int .i64 a1_5)) ∧ (w'.heap[gb518]? = some (.cells #[.int .i64 a0_0, .int .i64 a0_1, .int .i64 a0_2, .int .i64 a0_3, .int .i64 a0_4, .int .i64 a0_5] 25 (0, 0))) ∧ (w'.heap[gb519]? = some (.cells #[.int .i64 a1_0, .int .i64 a1_1, .int .i64 a1_2, .int .i64 a1_3, .int .i64 a1_4, .int .i64 a1_5] 25 (0, 0))) ∧ (w'.heap[gb520]? = some (.cells #[.int .i64 0, .int .i64 0] 58 (0, 0))) ∧ (w'.heap[gb521]? = some (.cells #[.int .i64 0, .int .i64 0] 58 (0, 0))) ∧ (w'.heap[s_]? = some (.cells #[.int .i64 0, .int .i64 0] 83 (0, 0))) ∧ (w.heap.size ≤ s_) ∧ (w.heap.size ≤ s_) ∧ (gb518 ≠ s_) ∧ (s_ ≠ gb518) ∧ (gb519 ≠ s_) ∧ (s_ ≠ gb519) ∧ (gb520 ≠ s_) ∧ (s_ ≠ gb520) ∧ (gb521 ≠ s_) ∧ (s_ ≠ gb521) ∧ (Below w.heap.size w w')) ?_ ?_
          rotate_left
          ·intro hJ2_7
           refine join_ (σ := Nat × Nat) 4 (bz 10 219) (fun s_ => [(7, .pointer (some ⟨s_.1, 0, none⟩)), (8, .pointer (some ⟨s_.2, 0, none⟩))]) (fun s_ w' => (w'.cell? ⟨gb518, 0, none⟩ = some (.int .i64 a0_0) ∧ w'.cell? ⟨gb518, 1, none⟩ = some (.int .i64 a0_1) ∧ w'.cell? ⟨gb518, 2, none⟩ = some (.int .i64 a0_2) ∧ w'.cell? ⟨gb518, 3, none⟩ = some (.int .i64 a0_3) ∧ w'.cell? ⟨gb518, 4, none⟩ = some (.int .i64 a0_4) ∧ w'.cell? ⟨gb518, 5, none⟩ = some (.int .i64 a0_5) ∧ w'.cell? ⟨gb519, 0, none⟩ = some (.int .i64 a1_0) ∧ w'.cell? ⟨gb519, 1, none⟩ = some (.int .i64 a1_1) ∧ w'.cell? ⟨gb519, 2, none⟩ = some (.int .i64 a1_2) ∧ w'.cell? ⟨gb519, 3, none⟩ = some (.int .i64 a1_3) ∧ w'.cell? ⟨gb519, 4, none⟩ = some (.int .i64 a1_4) ∧ w'.cell? ⟨gb519, 5, none⟩ = some (.int .i64 a1_5)) ∧ (w'.heap[gb518]? = some (.cells #[.int .i64 a0_0, .int .i64 a0_1, .int .i64 a0_2, .int .i64 a0_3, .int .i64 a0_4, .int .i64 a0_5] 25 (0, 0))) ∧ (w'.heap[gb519]? = some (.cells #[.int .i64 a1_0, .int .i64 a1_1, .int .i64 a1_2, .int .i64 a1_3, .int .i64 a1_4, .int .i64 a1_5] 25 (0, 0))) ∧ (w'.heap[gb520]? = some (.cells #[.int .i64 0, .int .i64 0] 58 (0, 0))) ∧ (w'.heap[gb521]? = some (.cells #[.int .i64 0, .int .i64 0] 58 (0, 0))) ∧ (w'.heap[s_.1]? = some (.cells #[.int .i64 0, .int .i64 0] 83 (0, 0))) ∧ (w'.heap[s_.2]? = some (.cells #[.int .i64 0, .int .i64 0] 83 (0, 0))) ∧ (w.heap.size ≤ s_.1) ∧ (w.heap.size ≤ s_.1) ∧ (gb518 ≠ s_.1) ∧ (s_.1 ≠ gb518) ∧ (gb519 ≠ s_.1) ∧ (s_.1 ≠ gb519) ∧ (gb520 ≠ s_.1) ∧ (s_.1 ≠ gb520) ∧ (gb521 ≠ s_.1) ∧ (s_.1 ≠ gb521) ∧ (s_.2 ≠ s_.1) ∧ (s_.1 ≠ s_.2) ∧ (w.heap.size ≤ s_.2) ∧ (w.heap.size ≤ s_.2) ∧ (gb518 ≠ s_.2) ∧ (s_.2 ≠ gb518) ∧ (gb519 ≠ s_.2) ∧ (s_.2 ≠ gb519) ∧ (gb520 ≠ s_.2) ∧ (s_.2 ≠ gb520) ∧ (gb521 ≠ s_.2) ∧ (s_.2 ≠ gb521) ∧ (Below w.heap.size w w')) ?_ ?_
           rotate_left
           ·intro hJ6_7
            refine join_ (σ := Unit) 5 (bz 10 31) (fun s_ => [(22, .agg #[.int .i64 t524, .int .i64 t525])]) (fun s_ w' => (w'.cell? ⟨gb518, 0, none⟩ = some (.int .i64 a0_0) ∧ w'.cell? ⟨gb518, 1, none⟩ = some (.int .i64 a0_1) ∧ w'.cell? ⟨gb518, 2, none⟩ = some (.int .i64 a0_2) ∧ w'.cell? ⟨gb518, 3, none⟩ = some (.int .i64 a0_3) ∧ w'.cell? ⟨gb518, 4, none⟩ = some (.int .i64 a0_4) ∧ w'.cell? ⟨gb518, 5, none⟩ = some (.int .i64 a0_5) ∧ w'.cell? ⟨gb519, 0, none⟩ = some (.int .i64 a1_0) ∧ w'.cell? ⟨gb519, 1, none⟩ = some (.int .i64 a1_1) ∧ w'.cell? ⟨gb519, 2, none⟩ = some (.int .i64 a1_2) ∧ w'.cell? ⟨gb519, 3, none⟩ = some (.int .i64 a1_3) ∧ w'.cell? ⟨gb519, 4, none⟩ = some (.int .i64 a1_4) ∧ w'.cell? ⟨gb519, 5, none⟩ = some (.int .i64 a1_5)) ∧ (w'.heap[gb518]? = some (.cells #[.int .i64 a0_0, .int .i64 a0_1, .int .i64 a0_2, .int .i64 a0_3, .int .i64 a0_4, .int .i64 a0_5] 25 (0, 0))) ∧ (w'.heap[gb519]? = some (.cells #[.int .i64 a1_0, .int .i64 a1_1, .int .i64 a1_2, .int .i64 a1_3, .int .i64 a1_4, .int .i64 a1_5] 25 (0, 0))) ∧ (w'.heap[gb520]? = some (.cells #[.int .i64 0, .int .i64 0] 58 (0, 0))) ∧ (w'.heap[gb521]? = some (.cells #[.int .i64 0, .int .i64 0] 58 (0, 0))) ∧ (Below w.heap.size w w')) ?_ ?_
            rotate_left
            ·intro hJ2
             refine join_ (σ := Nat) 5 (bz 10 91) (fun s_ => [(7, .pointer (some ⟨s_, 0, none⟩))]) (fun s_ w' => (w'.cell? ⟨gb518, 0, none⟩ = some (.int .i64 a0_0) ∧ w'.cell? ⟨gb518, 1, none⟩ = some (.int .i64 a0_1) ∧ w'.cell? ⟨gb518, 2, none⟩ = some (.int .i64 a0_2) ∧ w'.cell? ⟨gb518, 3, none⟩ = some (.int .i64 a0_3) ∧ w'.cell? ⟨gb518, 4, none⟩ = some (.int .i64 a0_4) ∧ w'.cell? ⟨gb518, 5, none⟩ = some (.int .i64 a0_5) ∧ w'.cell? ⟨gb519, 0, none⟩ = some (.int .i64 a1_0) ∧ w'.cell? ⟨gb519, 1, none⟩ = some (.int .i64 a1_1) ∧ w'.cell? ⟨gb519, 2, none⟩ = some (.int .i64 a1_2) ∧ w'.cell? ⟨gb519, 3, none⟩ = some (.int .i64 a1_3) ∧ w'.cell? ⟨gb519, 4, none⟩ = some (.int .i64 a1_4) ∧ w'.cell? ⟨gb519, 5, none⟩ = some (.int .i64 a1_5)) ∧ (w'.heap[gb518]? = some (.cells #[.int .i64 a0_0, .int .i64 a0_1, .int .i64 a0_2, .int .i64 a0_3, .int .i64 a0_4, .int .i64 a0_5] 25 (0, 0))) ∧ (w'.heap[gb519]? = some (.cells #[.int .i64 a1_0, .int .i64 a1_1, .int .i64 a1_2, .int .i64 a1_3, .int .i64 a1_4, .int .i64 a1_5] 25 (0, 0))) ∧ (w'.heap[gb520]? = some (.cells #[.int .i64 0, .int .i64 0] 58 (0, 0))) ∧ (w'.heap[gb521]? = some (.cells #[.int .i64 0, .int .i64 0] 58 (0, 0))) ∧ (w'.heap[s_]? = some (.cells #[.int .i64 0, .int .i64 0] 83 (0, 0))) ∧ (w.heap.size ≤ s_) ∧ (w.heap.size ≤ s_) ∧ (gb518 ≠ s_) ∧ (s_ ≠ gb518) ∧ (gb519 ≠ s_) ∧ (s_ ≠ gb519) ∧ (gb520 ≠ s_) ∧ (s_ ≠ gb520) ∧ (gb521 ≠ s_) ∧ (s_ ≠ gb521) ∧ (Below w.heap.size w w')) ?_ ?_
             rotate_left
             ·intro hJ6
              refine join_ (σ := Nat) 5 (bz 10 155) (fun s_ => [(8, .pointer (some ⟨s_, 0, none⟩))]) (fun s_ w' => (w'.cell? ⟨gb518, 0, none⟩ = some (.int .i64 a0_0) ∧ w'.cell? ⟨gb518, 1, none⟩ = some (.int .i64 a0_1) ∧ w'.cell? ⟨gb518, 2, none⟩ = some (.int .i64 a0_2) ∧ w'.cell? ⟨gb518, 3, none⟩ = some (.int .i64 a0_3) ∧ w'.cell? ⟨gb518, 4, none⟩ = some (.int .i64 a0_4) ∧ w'.cell? ⟨gb518, 5, none⟩ = some (.int .i64 a0_5) ∧ w'.cell? ⟨gb519, 0, none⟩ = some (.int .i64 a1_0) ∧ w'.cell? ⟨gb519, 1, none⟩ = some (.int .i64 a1_1) ∧ w'.cell? ⟨gb519, 2, none⟩ = some (.int .i64 a1_2) ∧ w'.cell? ⟨gb519, 3, none⟩ = some (.int .i64 a1_3) ∧ w'.cell? ⟨gb519, 4, none⟩ = some (.int .i64 a1_4) ∧ w'.cell? ⟨gb519, 5, none⟩ = some (.int .i64 a1_5)) ∧ (w'.heap[gb518]? = some (.cells #[.int .i64 a0_0, .int .i64 a0_1, .int .i64 a0_2, .int .i64 a0_3, .int .i64 a0_4, .int .i64 a0_5] 25 (0, 0))) ∧ (w'.heap[gb519]? = some (.cells #[.int .i64 a1_0, .int .i64 a1_1, .int .i64 a1_2, .int .i64 a1_3, .int .i64 a1_4, .int .i64 a1_5] 25 (0, 0))) ∧ (w'.heap[gb520]? = some (.cells #[.int .i64 0, .int .i64 0] 58 (0, 0))) ∧ (w'.heap[gb521]? = some (.cells #[.int .i64 0, .int .i64 0] 58 (0, 0))) ∧ (w'.heap[s_]? = some (.cells #[.int .i64 0, .int .i64 0] 83 (0, 0))) ∧ (w.heap.size ≤ s_) ∧ (w.heap.size ≤ s_) ∧ (gb518 ≠ s_) ∧ (s_ ≠ gb518) ∧ (gb519 ≠ s_) ∧ (s_ ≠ gb519) ∧ (gb520 ≠ s_) ∧ (s_ ≠ gb520) ∧ (gb521 ≠ s_) ∧ (s_ ≠ gb521) ∧ (Below w.heap.size w w')) ?_ ?_
              rotate_left
              ·intro hJ7
               refine three_ (i := 2) (j := 6) (k := 7) (Ni := some 22) (Nj := some 7) (Nk := some 8) (bz 10 31) (bz 10 91) (bz 10 155) rfl rfl rfl rfl rfl rfl (three_of HT_.out (by kernel_rfl)) (by decide) (by decide) (by decide) (fun K hK => ?_) (fun K hK => ?_) (fun K hK => ?_)
               ·skip
                refine goes_ Try.func65 (by kernel_rfl) rfl #[.agg #[.int .i64 a0_0, .int .i64 a0_1, .int .i64 a0_2, .int .i64 a0_3, .int .i64 a0_4, .int .i64 a0_5], .agg #[.int .i64 a1_0, .int .i64 a1_1, .int .i64 a1_2, .int .i64 a1_3, .int .i64 a1_4, .int .i64 a1_5]] (by rfl) rfl rfl s15_4 ?_
                with_reducible refine (spec_l8Bearing.calls a0_0 a0_1 a0_2 a0_3 a0_4 a0_5 a1_0 a1_1 a1_2 a1_3 a1_4 a1_5 t524 t525 _ A33.out).mono ?_
                rintro e w6 ⟨rfl, hb⟩
                refine ⟨_, rfl, ?_⟩
                have n0_ := Aside0.mk (bb (zk BK518.out) hb)
                have n1_ := Aside0.mk (bb (zk BK519.out) hb)
                have n2_ := Aside0.mk (bb (zk BK520.out) hb)
                have n3_ := Aside0.mk (bb (zk BK521.out) hb)
                have n4_ := Aside0.mk (below_step s15_0 hb)
                clear BK518 BK519 BK520 BK521 HB
                have BK518 := n0_
                have BK519 := n1_
                have BK520 := n2_
                have BK521 := n3_
                have HB := n4_
                clear n0_ n1_ n2_ n3_ n4_
                (try clear hb)
                (try clear hb2)
                (try clear hk)
                (try clear hi)
                refine hK.out _ _ ⟨bc BK518.out 0, bc BK518.out 1, bc BK518.out 2, bc BK518.out 3, bc BK518.out 4, bc BK518.out 5, bc BK519.out 0, bc BK519.out 1, bc BK519.out 2, bc BK519.out 3, bc BK519.out 4, bc BK519.out 5⟩ (fun hHeld => ?_)
                clear hK K
                refine norm_ (a' := ?_) ?_ ?_
                rotate_left
                ·show Act.put _ (some 22) _ = _
                 simp only [Act.put, y1, y2, y3, i64_w, i32_w]
                 rfl
                exact norm_ s15_5 (hJ2 () _ ⟨hHeld, (zk BK518.out), (zk BK519.out), (zk BK520.out), (zk BK521.out), s15_0⟩)
               ·skip
                refine box_step ?hg (N := 7) ?hd (cs := #[.int .i64 0, .int .i64 0]) (t := 83) ?hr ?_; (case hd => rfl); (case hg => rfl); (case hr => first | (go_simp; done) | (go_simp; rfl))
                intro gb528 hg w6 hbox hb
                have n0_ := Aside0.mk (bb (zk BK518.out) hb)
                have n1_ := Aside0.mk (bb (zk BK519.out) hb)
                have n2_ := Aside0.mk (bb (zk BK520.out) hb)
                have n3_ := Aside0.mk (bb (zk BK521.out) hb)
                have n4_ := Aside0.mk (below_step s15_0 hb)
                have n5_ := Aside0.mk (hbox)
                have n6_ := Aside0.mk (ns hg s15_0 : w.heap.size ≤ gb528)
                have n7_ := Aside0.mk (ns hg s15_0 : w.heap.size ≤ gb528)
                have n8_ := Aside0.mk ((nlt hg (zk BK518.out) : gb518 ≠ gb528))
                have n9_ := Aside0.mk ((ngt hg (zk BK518.out) : gb528 ≠ gb518))
                have n10_ := Aside0.mk ((nlt hg (zk BK519.out) : gb519 ≠ gb528))
                have n11_ := Aside0.mk ((ngt hg (zk BK519.out) : gb528 ≠ gb519))
                have n12_ := Aside0.mk ((nlt hg (zk BK520.out) : gb520 ≠ gb528))
                have n13_ := Aside0.mk ((ngt hg (zk BK520.out) : gb528 ≠ gb520))
                have n14_ := Aside0.mk ((nlt hg (zk BK521.out) : gb521 ≠ gb528))
                have n15_ := Aside0.mk ((ngt hg (zk BK521.out) : gb528 ≠ gb521))
                clear BK518 BK519 BK520 BK521 HB
                have BK518 := n0_
                have BK519 := n1_
                have BK520 := n2_
                have BK521 := n3_
                have HB := n4_
                have BK528 := n5_
                have GW528 := n6_
                have GE528 := n7_
                have NB518_528 := n8_
                have NB528_518 := n9_
                have NB519_528 := n10_
                have NB528_519 := n11_
                have NB520_528 := n12_
                have NB528_520 := n13_
                have NB521_528 := n14_
                have NB528_521 := n15_
                clear n0_ n1_ n2_ n3_ n4_ n5_ n6_ n7_ n8_ n9_ n10_ n11_ n12_ n13_ n14_ n15_ hb hbox hg
                refine hK.out _ _ ⟨bc BK518.out 0, bc BK518.out 1, bc BK518.out 2, bc BK518.out 3, bc BK518.out 4, bc BK518.out 5, bc BK519.out 0, bc BK519.out 1, bc BK519.out 2, bc BK519.out 3, bc BK519.out 4, bc BK519.out 5⟩ (fun hHeld => ?_)
                clear hK K
                refine norm_ (a' := ?_) ?_ ?_
                rotate_left
                ·exact t15_1
                exact norm_ s15_5 (hJ6 (gb528) _ ⟨hHeld, (zk BK518.out), (zk BK519.out), (zk BK520.out), (zk BK521.out), (zk BK528.out), GW528.out, GE528.out, NB518_528.out, NB528_518.out, NB519_528.out, NB528_519.out, NB520_528.out, NB528_520.out, NB521_528.out, NB528_521.out, s15_2⟩)
               ·skip
                refine box_step ?hg (N := 8) ?hd (cs := #[.int .i64 0, .int .i64 0]) (t := 83) ?hr ?_; (case hd => rfl); (case hg => rfl); (case hr => first | (go_simp; done) | (go_simp; rfl))
                intro gb529 hg w6 hbox hb
                have n0_ := Aside0.mk (bb (zk BK518.out) hb)
                have n1_ := Aside0.mk (bb (zk BK519.out) hb)
                have n2_ := Aside0.mk (bb (zk BK520.out) hb)
                have n3_ := Aside0.mk (bb (zk BK521.out) hb)
                have n4_ := Aside0.mk (below_step s15_0 hb)
                have n5_ := Aside0.mk (hbox)
                have n6_ := Aside0.mk (ns hg s15_0 : w.heap.size ≤ gb529)
                have n7_ := Aside0.mk (ns hg s15_0 : w.heap.size ≤ gb529)
                have n8_ := Aside0.mk ((nlt hg (zk BK518.out) : gb518 ≠ gb529))
                have n9_ := Aside0.mk ((ngt hg (zk BK518.out) : gb529 ≠ gb518))
                have n10_ := Aside0.mk ((nlt hg (zk BK519.out) : gb519 ≠ gb529))
                have n11_ := Aside0.mk ((ngt hg (zk BK519.out) : gb529 ≠ gb519))
                have n12_ := Aside0.mk ((nlt hg (zk BK520.out) : gb520 ≠ gb529))
                have n13_ := Aside0.mk ((ngt hg (zk BK520.out) : gb529 ≠ gb520))
                have n14_ := Aside0.mk ((nlt hg (zk BK521.out) : gb521 ≠ gb529))
                have n15_ := Aside0.mk ((ngt hg (zk BK521.out) : gb529 ≠ gb521))
                clear BK518 BK519 BK520 BK521 HB
                have BK518 := n0_
                have BK519 := n1_
                have BK520 := n2_
                have BK521 := n3_
                have HB := n4_
                have BK529 := n5_
                have GW529 := n6_
                have GE529 := n7_
                have NB518_529 := n8_
                have NB529_518 := n9_
                have NB519_529 := n10_
                have NB529_519 := n11_
                have NB520_529 := n12_
                have NB529_520 := n13_
                have NB521_529 := n14_
                have NB529_521 := n15_
                clear n0_ n1_ n2_ n3_ n4_ n5_ n6_ n7_ n8_ n9_ n10_ n11_ n12_ n13_ n14_ n15_ hb hbox hg
                refine hK.out _ _ ⟨bc BK518.out 0, bc BK518.out 1, bc BK518.out 2, bc BK518.out 3, bc BK518.out 4, bc BK518.out 5, bc BK519.out 0, bc BK519.out 1, bc BK519.out 2, bc BK519.out 3, bc BK519.out 4, bc BK519.out 5⟩ (fun hHeld => ?_)
                clear hK K
                refine norm_ (a' := ?_) ?_ ?_
                rotate_left
                ·exact t15_2
                exact norm_ s15_5 (hJ7 (gb529) _ ⟨hHeld, (zk BK518.out), (zk BK519.out), (zk BK520.out), (zk BK521.out), (zk BK529.out), GW529.out, GE529.out, NB518_529.out, NB529_518.out, NB519_529.out, NB529_519.out, NB520_529.out, NB529_520.out, NB521_529.out, NB529_521.out, s15_3⟩)
              ·skip
               rintro gb529 w6 ⟨hS_, h0_, h1_, h2_, h3_, h4_, h5_, h6_, h7_, h8_, h9_, h10_, h11_, h12_, h13_, h14_, h15_⟩
               have n0_ : Aside0 (w6.heap[gb518]? = some (.cells #[.int .i64 a0_0, .int .i64 a0_1, .int .i64 a0_2, .int .i64 a0_3, .int .i64 a0_4, .int .i64 a0_5] 25 (0, 0))) := ⟨h0_⟩
               have n1_ : Aside0 (w6.heap[gb519]? = some (.cells #[.int .i64 a1_0, .int .i64 a1_1, .int .i64 a1_2, .int .i64 a1_3, .int .i64 a1_4, .int .i64 a1_5] 25 (0, 0))) := ⟨h1_⟩
               have n2_ : Aside0 (w6.heap[gb520]? = some (.cells #[.int .i64 0, .int .i64 0] 58 (0, 0))) := ⟨h2_⟩
               have n3_ : Aside0 (w6.heap[gb521]? = some (.cells #[.int .i64 0, .int .i64 0] 58 (0, 0))) := ⟨h3_⟩
               have n4_ : Aside0 (w6.heap[gb529]? = some (.cells #[.int .i64 0, .int .i64 0] 83 (0, 0))) := ⟨h4_⟩
               have n5_ : Aside0 (w.heap.size ≤ gb529) := ⟨h5_⟩
               have n6_ : Aside0 (w.heap.size ≤ gb529) := ⟨h6_⟩
               have n7_ : Aside0 (gb518 ≠ gb529) := ⟨h7_⟩
               have n8_ : Aside0 (gb529 ≠ gb518) := ⟨h8_⟩
               have n9_ : Aside0 (gb519 ≠ gb529) := ⟨h9_⟩
               have n10_ : Aside0 (gb529 ≠ gb519) := ⟨h10_⟩
               have n11_ : Aside0 (gb520 ≠ gb529) := ⟨h11_⟩
               have n12_ : Aside0 (gb529 ≠ gb520) := ⟨h12_⟩
               have n13_ : Aside0 (gb521 ≠ gb529) := ⟨h13_⟩
               have n14_ : Aside0 (gb529 ≠ gb521) := ⟨h14_⟩
               have n15_ : Aside0 (Below w.heap.size w w6) := ⟨h15_⟩
               clear BK518 BK519 BK520 BK521 HB h0_ h1_ h2_ h3_ h4_ h5_ h6_ h7_ h8_ h9_ h10_ h11_ h12_ h13_ h14_ h15_
               have BK518 := n0_
               have BK519 := n1_
               have BK520 := n2_
               have BK521 := n3_
               have BK529 := n4_
               have GW529 := n5_
               have GE529 := n6_
               have NB518_529 := n7_
               have NB529_518 := n8_
               have NB519_529 := n9_
               have NB529_519 := n10_
               have NB520_529 := n11_
               have NB529_520 := n12_
               have NB521_529 := n13_
               have NB529_521 := n14_
               have HB := n15_
               clear n0_ n1_ n2_ n3_ n4_ n5_ n6_ n7_ n8_ n9_ n10_ n11_ n12_ n13_ n14_ n15_
               have hHeld : w6.cell? ⟨gb518, 0, none⟩ = some (.int .i64 a0_0) ∧ w6.cell? ⟨gb518, 1, none⟩ = some (.int .i64 a0_1) ∧ w6.cell? ⟨gb518, 2, none⟩ = some (.int .i64 a0_2) ∧ w6.cell? ⟨gb518, 3, none⟩ = some (.int .i64 a0_3) ∧ w6.cell? ⟨gb518, 4, none⟩ = some (.int .i64 a0_4) ∧ w6.cell? ⟨gb518, 5, none⟩ = some (.int .i64 a0_5) ∧ w6.cell? ⟨gb519, 0, none⟩ = some (.int .i64 a1_0) ∧ w6.cell? ⟨gb519, 1, none⟩ = some (.int .i64 a1_1) ∧ w6.cell? ⟨gb519, 2, none⟩ = some (.int .i64 a1_2) ∧ w6.cell? ⟨gb519, 3, none⟩ = some (.int .i64 a1_3) ∧ w6.cell? ⟨gb519, 4, none⟩ = some (.int .i64 a1_4) ∧ w6.cell? ⟨gb519, 5, none⟩ = some (.int .i64 a1_5) := hS_
               refine norm_ (a' := ?_) ?_ ?_
               rotate_left
               ·exact t15_3
               refine two_ (i := 2) (j := 6) (Ni := some 22) (Nj := some 7) (bz 10 159) (bz 10 219) rfl rfl rfl rfl (two_of HT_.out (by kernel_rfl)) (by decide) (by decide) (fun K hK => ?_) (fun K hK => ?_)
               ·skip
                refine goes_ Try.func65 (by kernel_rfl) rfl #[.agg #[.int .i64 a0_0, .int .i64 a0_1, .int .i64 a0_2, .int .i64 a0_3, .int .i64 a0_4, .int .i64 a0_5], .agg #[.int .i64 a1_0, .int .i64 a1_1, .int .i64 a1_2, .int .i64 a1_3, .int .i64 a1_4, .int .i64 a1_5]] (by rfl) rfl rfl s15_4 ?_
                with_reducible refine (spec_l8Bearing.calls a0_0 a0_1 a0_2 a0_3 a0_4 a0_5 a1_0 a1_1 a1_2 a1_3 a1_4 a1_5 t524 t525 _ A33.out).mono ?_
                rintro e w7 ⟨rfl, hb⟩
                refine ⟨_, rfl, ?_⟩
                have n0_ := Aside0.mk (bb (zk BK518.out) hb)
                have n1_ := Aside0.mk (bb (zk BK519.out) hb)
                have n2_ := Aside0.mk (bb (zk BK520.out) hb)
                have n3_ := Aside0.mk (bb (zk BK521.out) hb)
                have n4_ := Aside0.mk (bb (zk BK529.out) hb)
                have n5_ := Aside0.mk (below_step s15_3 hb)
                clear BK518 BK519 BK520 BK521 BK529 HB
                have BK518 := n0_
                have BK519 := n1_
                have BK520 := n2_
                have BK521 := n3_
                have BK529 := n4_
                have HB := n5_
                clear n0_ n1_ n2_ n3_ n4_ n5_
                (try clear hb)
                (try clear hb2)
                (try clear hk)
                (try clear hi)
                refine hK.out _ _ ⟨bc BK518.out 0, bc BK518.out 1, bc BK518.out 2, bc BK518.out 3, bc BK518.out 4, bc BK518.out 5, bc BK519.out 0, bc BK519.out 1, bc BK519.out 2, bc BK519.out 3, bc BK519.out 4, bc BK519.out 5⟩ (fun hHeld => ?_)
                clear hK K
                refine norm_ (a' := ?_) ?_ ?_
                rotate_left
                ·show Act.put _ (some 22) _ = _
                 simp only [Act.put, y1, y2, y3, i64_w, i32_w]
                 rfl
                exact norm_ s15_5 (hJ2_7 (gb529) _ ⟨hHeld, (zk BK518.out), (zk BK519.out), (zk BK520.out), (zk BK521.out), (zk BK529.out), GW529.out, GE529.out, NB518_529.out, NB529_518.out, NB519_529.out, NB529_519.out, NB520_529.out, NB529_520.out, NB521_529.out, NB529_521.out, s15_3⟩)
               ·skip
                refine box_step ?hg (N := 7) ?hd (cs := #[.int .i64 0, .int .i64 0]) (t := 83) ?hr ?_; (case hd => rfl); (case hg => rfl); (case hr => first | (go_simp; done) | (go_simp; rfl))
                intro gb528 hg w7 hbox hb
                have n0_ := Aside0.mk (bb (zk BK518.out) hb)
                have n1_ := Aside0.mk (bb (zk BK519.out) hb)
                have n2_ := Aside0.mk (bb (zk BK520.out) hb)
                have n3_ := Aside0.mk (bb (zk BK521.out) hb)
                have n4_ := Aside0.mk (bb (zk BK529.out) hb)
                have n5_ := Aside0.mk (below_step s15_3 hb)
                have n6_ := Aside0.mk (hbox)
                have n7_ := Aside0.mk (ns hg s15_3 : w.heap.size ≤ gb528)
                have n8_ := Aside0.mk (ns hg s15_3 : w.heap.size ≤ gb528)
                have n9_ := Aside0.mk ((nlt hg (zk BK518.out) : gb518 ≠ gb528))
                have n10_ := Aside0.mk ((ngt hg (zk BK518.out) : gb528 ≠ gb518))
                have n11_ := Aside0.mk ((nlt hg (zk BK519.out) : gb519 ≠ gb528))
                have n12_ := Aside0.mk ((ngt hg (zk BK519.out) : gb528 ≠ gb519))
                have n13_ := Aside0.mk ((nlt hg (zk BK520.out) : gb520 ≠ gb528))
                have n14_ := Aside0.mk ((ngt hg (zk BK520.out) : gb528 ≠ gb520))
                have n15_ := Aside0.mk ((nlt hg (zk BK521.out) : gb521 ≠ gb528))
                have n16_ := Aside0.mk ((ngt hg (zk BK521.out) : gb528 ≠ gb521))
                have n17_ := Aside0.mk ((nlt hg (zk BK529.out) : gb529 ≠ gb528))
                have n18_ := Aside0.mk ((ngt hg (zk BK529.out) : gb528 ≠ gb529))
                clear BK518 BK519 BK520 BK521 BK529 HB
                have BK518 := n0_
                have BK519 := n1_
                have BK520 := n2_
                have BK521 := n3_
                have BK529 := n4_
                have HB := n5_
                have BK528 := n6_
                have GW528 := n7_
                have GE528 := n8_
                have NB518_528 := n9_
                have NB528_518 := n10_
                have NB519_528 := n11_
                have NB528_519 := n12_
                have NB520_528 := n13_
                have NB528_520 := n14_
                have NB521_528 := n15_
                have NB528_521 := n16_
                have NB529_528 := n17_
                have NB528_529 := n18_
                clear n0_ n1_ n2_ n3_ n4_ n5_ n6_ n7_ n8_ n9_ n10_ n11_ n12_ n13_ n14_ n15_ n16_ n17_ n18_ hb hbox hg
                refine hK.out _ _ ⟨bc BK518.out 0, bc BK518.out 1, bc BK518.out 2, bc BK518.out 3, bc BK518.out 4, bc BK518.out 5, bc BK519.out 0, bc BK519.out 1, bc BK519.out 2, bc BK519.out 3, bc BK519.out 4, bc BK519.out 5⟩ (fun hHeld => ?_)
                clear hK K
                refine norm_ (a' := ?_) ?_ ?_
                rotate_left
                ·exact t15_1
                exact norm_ s15_5 (hJ6_7 (gb528, gb529) _ ⟨hHeld, (zk BK518.out), (zk BK519.out), (zk BK520.out), (zk BK521.out), (zk BK528.out), (zk BK529.out), GW528.out, GE528.out, NB518_528.out, NB528_518.out, NB519_528.out, NB528_519.out, NB520_528.out, NB528_520.out, NB521_528.out, NB528_521.out, NB529_528.out, NB528_529.out, GW529.out, GE529.out, NB518_529.out, NB529_518.out, NB519_529.out, NB529_519.out, NB520_529.out, NB529_520.out, NB521_529.out, NB529_521.out, s15_6⟩)
             ·skip
              rintro gb528 w6 ⟨hS_, h0_, h1_, h2_, h3_, h4_, h5_, h6_, h7_, h8_, h9_, h10_, h11_, h12_, h13_, h14_, h15_⟩
              have n0_ : Aside0 (w6.heap[gb518]? = some (.cells #[.int .i64 a0_0, .int .i64 a0_1, .int .i64 a0_2, .int .i64 a0_3, .int .i64 a0_4, .int .i64 a0_5] 25 (0, 0))) := ⟨h0_⟩
              have n1_ : Aside0 (w6.heap[gb519]? = some (.cells #[.int .i64 a1_0, .int .i64 a1_1, .int .i64 a1_2, .int .i64 a1_3, .int .i64 a1_4, .int .i64 a1_5] 25 (0, 0))) := ⟨h1_⟩
              have n2_ : Aside0 (w6.heap[gb520]? = some (.cells #[.int .i64 0, .int .i64 0] 58 (0, 0))) := ⟨h2_⟩
              have n3_ : Aside0 (w6.heap[gb521]? = some (.cells #[.int .i64 0, .int .i64 0] 58 (0, 0))) := ⟨h3_⟩
              have n4_ : Aside0 (w6.heap[gb528]? = some (.cells #[.int .i64 0, .int .i64 0] 83 (0, 0))) := ⟨h4_⟩
              have n5_ : Aside0 (w.heap.size ≤ gb528) := ⟨h5_⟩
              have n6_ : Aside0 (w.heap.size ≤ gb528) := ⟨h6_⟩
              have n7_ : Aside0 (gb518 ≠ gb528) := ⟨h7_⟩
              have n8_ : Aside0 (gb528 ≠ gb518) := ⟨h8_⟩
              have n9_ : Aside0 (gb519 ≠ gb528) := ⟨h9_⟩
              have n10_ : Aside0 (gb528 ≠ gb519) := ⟨h10_⟩
              have n11_ : Aside0 (gb520 ≠ gb528) := ⟨h11_⟩
              have n12_ : Aside0 (gb528 ≠ gb520) := ⟨h12_⟩
              have n13_ : Aside0 (gb521 ≠ gb528) := ⟨h13_⟩
              have n14_ : Aside0 (gb528 ≠ gb521) := ⟨h14_⟩
              have n15_ : Aside0 (Below w.heap.size w w6) := ⟨h15_⟩
              clear BK518 BK519 BK520 BK521 HB h0_ h1_ h2_ h3_ h4_ h5_ h6_ h7_ h8_ h9_ h10_ h11_ h12_ h13_ h14_ h15_
              have BK518 := n0_
              have BK519 := n1_
              have BK520 := n2_
              have BK521 := n3_
              have BK528 := n4_
              have GW528 := n5_
              have GE528 := n6_
              have NB518_528 := n7_
              have NB528_518 := n8_
              have NB519_528 := n9_
              have NB528_519 := n10_
              have NB520_528 := n11_
              have NB528_520 := n12_
              have NB521_528 := n13_
              have NB528_521 := n14_
              have HB := n15_
              clear n0_ n1_ n2_ n3_ n4_ n5_ n6_ n7_ n8_ n9_ n10_ n11_ n12_ n13_ n14_ n15_
              have hHeld : w6.cell? ⟨gb518, 0, none⟩ = some (.int .i64 a0_0) ∧ w6.cell? ⟨gb518, 1, none⟩ = some (.int .i64 a0_1) ∧ w6.cell? ⟨gb518, 2, none⟩ = some (.int .i64 a0_2) ∧ w6.cell? ⟨gb518, 3, none⟩ = some (.int .i64 a0_3) ∧ w6.cell? ⟨gb518, 4, none⟩ = some (.int .i64 a0_4) ∧ w6.cell? ⟨gb518, 5, none⟩ = some (.int .i64 a0_5) ∧ w6.cell? ⟨gb519, 0, none⟩ = some (.int .i64 a1_0) ∧ w6.cell? ⟨gb519, 1, none⟩ = some (.int .i64 a1_1) ∧ w6.cell? ⟨gb519, 2, none⟩ = some (.int .i64 a1_2) ∧ w6.cell? ⟨gb519, 3, none⟩ = some (.int .i64 a1_3) ∧ w6.cell? ⟨gb519, 4, none⟩ = some (.int .i64 a1_4) ∧ w6.cell? ⟨gb519, 5, none⟩ = some (.int .i64 a1_5) := hS_
              refine norm_ (a' := ?_) ?_ ?_
              rotate_left
              ·exact t15_3
              refine two_ (i := 2) (j := 7) (Ni := some 22) (Nj := some 8) (bz 10 95) (bz 10 219) rfl rfl rfl rfl (two_of HT_.out (by kernel_rfl)) (by decide) (by decide) (fun K hK => ?_) (fun K hK => ?_)
              ·skip
               refine goes_ Try.func65 (by kernel_rfl) rfl #[.agg #[.int .i64 a0_0, .int .i64 a0_1, .int .i64 a0_2, .int .i64 a0_3, .int .i64 a0_4, .int .i64 a0_5], .agg #[.int .i64 a1_0, .int .i64 a1_1, .int .i64 a1_2, .int .i64 a1_3, .int .i64 a1_4, .int .i64 a1_5]] (by rfl) rfl rfl s15_4 ?_
               with_reducible refine (spec_l8Bearing.calls a0_0 a0_1 a0_2 a0_3 a0_4 a0_5 a1_0 a1_1 a1_2 a1_3 a1_4 a1_5 t524 t525 _ A33.out).mono ?_
               rintro e w7 ⟨rfl, hb⟩
               refine ⟨_, rfl, ?_⟩
               have n0_ := Aside0.mk (bb (zk BK518.out) hb)
               have n1_ := Aside0.mk (bb (zk BK519.out) hb)
               have n2_ := Aside0.mk (bb (zk BK520.out) hb)
               have n3_ := Aside0.mk (bb (zk BK521.out) hb)
               have n4_ := Aside0.mk (bb (zk BK528.out) hb)
               have n5_ := Aside0.mk (below_step s15_2 hb)
               clear BK518 BK519 BK520 BK521 BK528 HB
               have BK518 := n0_
               have BK519 := n1_
               have BK520 := n2_
               have BK521 := n3_
               have BK528 := n4_
               have HB := n5_
               clear n0_ n1_ n2_ n3_ n4_ n5_
               (try clear hb)
               (try clear hb2)
               (try clear hk)
               (try clear hi)
               refine hK.out _ _ ⟨bc BK518.out 0, bc BK518.out 1, bc BK518.out 2, bc BK518.out 3, bc BK518.out 4, bc BK518.out 5, bc BK519.out 0, bc BK519.out 1, bc BK519.out 2, bc BK519.out 3, bc BK519.out 4, bc BK519.out 5⟩ (fun hHeld => ?_)
               clear hK K
               refine norm_ (a' := ?_) ?_ ?_
               rotate_left
               ·show Act.put _ (some 22) _ = _
                simp only [Act.put, y1, y2, y3, i64_w, i32_w]
                rfl
               exact norm_ s15_5 (hJ2_6 (gb528) _ ⟨hHeld, (zk BK518.out), (zk BK519.out), (zk BK520.out), (zk BK521.out), (zk BK528.out), GW528.out, GE528.out, NB518_528.out, NB528_518.out, NB519_528.out, NB528_519.out, NB520_528.out, NB528_520.out, NB521_528.out, NB528_521.out, s15_2⟩)
              ·skip
               refine box_step ?hg (N := 8) ?hd (cs := #[.int .i64 0, .int .i64 0]) (t := 83) ?hr ?_; (case hd => rfl); (case hg => rfl); (case hr => first | (go_simp; done) | (go_simp; rfl))
               intro gb529 hg w7 hbox hb
               have n0_ := Aside0.mk (bb (zk BK518.out) hb)
               have n1_ := Aside0.mk (bb (zk BK519.out) hb)
               have n2_ := Aside0.mk (bb (zk BK520.out) hb)
               have n3_ := Aside0.mk (bb (zk BK521.out) hb)
               have n4_ := Aside0.mk (bb (zk BK528.out) hb)
               have n5_ := Aside0.mk (below_step s15_2 hb)
               have n6_ := Aside0.mk (hbox)
               have n7_ := Aside0.mk (ns hg s15_2 : w.heap.size ≤ gb529)
               have n8_ := Aside0.mk (ns hg s15_2 : w.heap.size ≤ gb529)
               have n9_ := Aside0.mk ((nlt hg (zk BK518.out) : gb518 ≠ gb529))
               have n10_ := Aside0.mk ((ngt hg (zk BK518.out) : gb529 ≠ gb518))
               have n11_ := Aside0.mk ((nlt hg (zk BK519.out) : gb519 ≠ gb529))
               have n12_ := Aside0.mk ((ngt hg (zk BK519.out) : gb529 ≠ gb519))
               have n13_ := Aside0.mk ((nlt hg (zk BK520.out) : gb520 ≠ gb529))
               have n14_ := Aside0.mk ((ngt hg (zk BK520.out) : gb529 ≠ gb520))
               have n15_ := Aside0.mk ((nlt hg (zk BK521.out) : gb521 ≠ gb529))
               have n16_ := Aside0.mk ((ngt hg (zk BK521.out) : gb529 ≠ gb521))
               have n17_ := Aside0.mk ((nlt hg (zk BK528.out) : gb528 ≠ gb529))
               have n18_ := Aside0.mk ((ngt hg (zk BK528.out) : gb529 ≠ gb528))
               clear BK518 BK519 BK520 BK521 BK528 HB
               have BK518 := n0_
               have BK519 := n1_
               have BK520 := n2_
               have BK521 := n3_
               have BK528 := n4_
               have HB := n5_
               have BK529 := n6_
               have GW529 := n7_
               have GE529 := n8_
               have NB518_529 := n9_
               have NB529_518 := n10_
               have NB519_529 := n11_
               have NB529_519 := n12_
               have NB520_529 := n13_
               have NB529_520 := n14_
               have NB521_529 := n15_
               have NB529_521 := n16_
               have NB528_529 := n17_
               have NB529_528 := n18_
               clear n0_ n1_ n2_ n3_ n4_ n5_ n6_ n7_ n8_ n9_ n10_ n11_ n12_ n13_ n14_ n15_ n16_ n17_ n18_ hb hbox hg
               refine hK.out _ _ ⟨bc BK518.out 0, bc BK518.out 1, bc BK518.out 2, bc BK518.out 3, bc BK518.out 4, bc BK518.out 5, bc BK519.out 0, bc BK519.out 1, bc BK519.out 2, bc BK519.out 3, bc BK519.out 4, bc BK519.out 5⟩ (fun hHeld => ?_)
               clear hK K
               refine norm_ (a' := ?_) ?_ ?_
               rotate_left
               ·exact t15_2
               exact norm_ s15_5 (hJ6_7 (gb528, gb529) _ ⟨hHeld, (zk BK518.out), (zk BK519.out), (zk BK520.out), (zk BK521.out), (zk BK528.out), (zk BK529.out), GW528.out, GE528.out, NB518_528.out, NB528_518.out, NB519_528.out, NB528_519.out, NB520_528.out, NB528_520.out, NB521_528.out, NB528_521.out, NB529_528.out, NB528_529.out, GW529.out, GE529.out, NB518_529.out, NB529_518.out, NB519_529.out, NB529_519.out, NB520_529.out, NB529_520.out, NB521_529.out, NB529_521.out, s15_1⟩)
            ·skip
             rintro _ w6 ⟨hS_, h0_, h1_, h2_, h3_, h4_⟩
             have n0_ : Aside0 (w6.heap[gb518]? = some (.cells #[.int .i64 a0_0, .int .i64 a0_1, .int .i64 a0_2, .int .i64 a0_3, .int .i64 a0_4, .int .i64 a0_5] 25 (0, 0))) := ⟨h0_⟩
             have n1_ : Aside0 (w6.heap[gb519]? = some (.cells #[.int .i64 a1_0, .int .i64 a1_1, .int .i64 a1_2, .int .i64 a1_3, .int .i64 a1_4, .int .i64 a1_5] 25 (0, 0))) := ⟨h1_⟩
             have n2_ : Aside0 (w6.heap[gb520]? = some (.cells #[.int .i64 0, .int .i64 0] 58 (0, 0))) := ⟨h2_⟩
             have n3_ : Aside0 (w6.heap[gb521]? = some (.cells #[.int .i64 0, .int .i64 0] 58 (0, 0))) := ⟨h3_⟩
             have n4_ : Aside0 (Below w.heap.size w w6) := ⟨h4_⟩
             clear BK518 BK519 BK520 BK521 HB h0_ h1_ h2_ h3_ h4_
             have BK518 := n0_
             have BK519 := n1_
             have BK520 := n2_
             have BK521 := n3_
             have HB := n4_
             clear n0_ n1_ n2_ n3_ n4_
             have hHeld : w6.cell? ⟨gb518, 0, none⟩ = some (.int .i64 a0_0) ∧ w6.cell? ⟨gb518, 1, none⟩ = some (.int .i64 a0_1) ∧ w6.cell? ⟨gb518, 2, none⟩ = some (.int .i64 a0_2) ∧ w6.cell? ⟨gb518, 3, none⟩ = some (.int .i64 a0_3) ∧ w6.cell? ⟨gb518, 4, none⟩ = some (.int .i64 a0_4) ∧ w6.cell? ⟨gb518, 5, none⟩ = some (.int .i64 a0_5) ∧ w6.cell? ⟨gb519, 0, none⟩ = some (.int .i64 a1_0) ∧ w6.cell? ⟨gb519, 1, none⟩ = some (.int .i64 a1_1) ∧ w6.cell? ⟨gb519, 2, none⟩ = some (.int .i64 a1_2) ∧ w6.cell? ⟨gb519, 3, none⟩ = some (.int .i64 a1_3) ∧ w6.cell? ⟨gb519, 4, none⟩ = some (.int .i64 a1_4) ∧ w6.cell? ⟨gb519, 5, none⟩ = some (.int .i64 a1_5) := hS_
             refine norm_ (a' := ?_) ?_ ?_
             rotate_left
             ·exact t15_3
             refine three_ (i := 5) (j := 6) (k := 7) (Ni := some 25) (Nj := some 7) (Nk := some 8) (bz 10 63) (bz 10 95) (bz 10 159) rfl rfl rfl rfl rfl rfl (three_of HT_.out (by kernel_rfl)) (by decide) (by decide) (by decide) (fun K hK => ?_) (fun K hK => ?_) (fun K hK => ?_)
             ·skip
              refine goes_ Try.func80 (by kernel_rfl) rfl #[.agg #[.int .i64 a0_0, .int .i64 a0_1, .int .i64 a0_2, .int .i64 a0_3, .int .i64 a0_4, .int .i64 a0_5], .agg #[.int .i64 a1_0, .int .i64 a1_1, .int .i64 a1_2, .int .i64 a1_3, .int .i64 a1_4, .int .i64 a1_5]] (by rfl) rfl rfl s15_4 ?_
              with_reducible refine (spec_l8Diff.calls a0_0 a0_1 a0_2 a0_3 a0_4 a0_5 a1_0 a1_1 a1_2 a1_3 a1_4 a1_5 t526 t527 _ A34.out).mono ?_
              rintro e w7 ⟨rfl, hb⟩
              refine ⟨_, rfl, ?_⟩
              have n0_ := Aside0.mk (bb (zk BK518.out) hb)
              have n1_ := Aside0.mk (bb (zk BK519.out) hb)
              have n2_ := Aside0.mk (bb (zk BK520.out) hb)
              have n3_ := Aside0.mk (bb (zk BK521.out) hb)
              have n4_ := Aside0.mk (below_step s15_0 hb)
              clear BK518 BK519 BK520 BK521 HB
              have BK518 := n0_
              have BK519 := n1_
              have BK520 := n2_
              have BK521 := n3_
              have HB := n4_
              clear n0_ n1_ n2_ n3_ n4_
              (try clear hb)
              (try clear hb2)
              (try clear hk)
              (try clear hi)
              refine hK.out _ _ ⟨bc BK518.out 0, bc BK518.out 1, bc BK518.out 2, bc BK518.out 3, bc BK518.out 4, bc BK518.out 5, bc BK519.out 0, bc BK519.out 1, bc BK519.out 2, bc BK519.out 3, bc BK519.out 4, bc BK519.out 5⟩ (fun hHeld => ?_)
              clear hK K
              refine norm_ (a' := ?_) ?_ ?_
              rotate_left
              ·show Act.put _ (some 25) _ = _
               simp only [Act.put, y1, y2, y3, i64_w, i32_w]
               rfl
              exact norm_ s15_5 (hJ2_5 () _ ⟨hHeld, (zk BK518.out), (zk BK519.out), (zk BK520.out), (zk BK521.out), s15_0⟩)
             ·skip
              refine box_step ?hg (N := 7) ?hd (cs := #[.int .i64 0, .int .i64 0]) (t := 83) ?hr ?_; (case hd => rfl); (case hg => rfl); (case hr => first | (go_simp; done) | (go_simp; rfl))
              intro gb528 hg w7 hbox hb
              have n0_ := Aside0.mk (bb (zk BK518.out) hb)
              have n1_ := Aside0.mk (bb (zk BK519.out) hb)
              have n2_ := Aside0.mk (bb (zk BK520.out) hb)
              have n3_ := Aside0.mk (bb (zk BK521.out) hb)
              have n4_ := Aside0.mk (below_step s15_0 hb)
              have n5_ := Aside0.mk (hbox)
              have n6_ := Aside0.mk (ns hg s15_0 : w.heap.size ≤ gb528)
              have n7_ := Aside0.mk (ns hg s15_0 : w.heap.size ≤ gb528)
              have n8_ := Aside0.mk ((nlt hg (zk BK518.out) : gb518 ≠ gb528))
              have n9_ := Aside0.mk ((ngt hg (zk BK518.out) : gb528 ≠ gb518))
              have n10_ := Aside0.mk ((nlt hg (zk BK519.out) : gb519 ≠ gb528))
              have n11_ := Aside0.mk ((ngt hg (zk BK519.out) : gb528 ≠ gb519))
              have n12_ := Aside0.mk ((nlt hg (zk BK520.out) : gb520 ≠ gb528))
              have n13_ := Aside0.mk ((ngt hg (zk BK520.out) : gb528 ≠ gb520))
              have n14_ := Aside0.mk ((nlt hg (zk BK521.out) : gb521 ≠ gb528))
              have n15_ := Aside0.mk ((ngt hg (zk BK521.out) : gb528 ≠ gb521))
              clear BK518 BK519 BK520 BK521 HB
              have BK518 := n0_
              have BK519 := n1_
              have BK520 := n2_
              have BK521 := n3_
              have HB := n4_
              have BK528 := n5_
              have GW528 := n6_
              have GE528 := n7_
              have NB518_528 := n8_
              have NB528_518 := n9_
              have NB519_528 := n10_
              have NB528_519 := n11_
              have NB520_528 := n12_
              have NB528_520 := n13_
              have NB521_528 := n14_
              have NB528_521 := n15_
              clear n0_ n1_ n2_ n3_ n4_ n5_ n6_ n7_ n8_ n9_ n10_ n11_ n12_ n13_ n14_ n15_ hb hbox hg
              refine hK.out _ _ ⟨bc BK518.out 0, bc BK518.out 1, bc BK518.out 2, bc BK518.out 3, bc BK518.out 4, bc BK518.out 5, bc BK519.out 0, bc BK519.out 1, bc BK519.out 2, bc BK519.out 3, bc BK519.out 4, bc BK519.out 5⟩ (fun hHeld => ?_)
              clear hK K
              refine norm_ (a' := ?_) ?_ ?_
              rotate_left
              ·exact t15_1
              exact norm_ s15_5 (hJ2_6 (gb528) _ ⟨hHeld, (zk BK518.out), (zk BK519.out), (zk BK520.out), (zk BK521.out), (zk BK528.out), GW528.out, GE528.out, NB518_528.out, NB528_518.out, NB519_528.out, NB528_519.out, NB520_528.out, NB528_520.out, NB521_528.out, NB528_521.out, s15_2⟩)
             ·skip
              refine box_step ?hg (N := 8) ?hd (cs := #[.int .i64 0, .int .i64 0]) (t := 83) ?hr ?_; (case hd => rfl); (case hg => rfl); (case hr => first | (go_simp; done) | (go_simp; rfl))
              intro gb529 hg w7 hbox hb
              have n0_ := Aside0.mk (bb (zk BK518.out) hb)
              have n1_ := Aside0.mk (bb (zk BK519.out) hb)
              have n2_ := Aside0.mk (bb (zk BK520.out) hb)
              have n3_ := Aside0.mk (bb (zk BK521.out) hb)
              have n4_ := Aside0.mk (below_step s15_0 hb)
              have n5_ := Aside0.mk (hbox)
              have n6_ := Aside0.mk (ns hg s15_0 : w.heap.size ≤ gb529)
              have n7_ := Aside0.mk (ns hg s15_0 : w.heap.size ≤ gb529)
              have n8_ := Aside0.mk ((nlt hg (zk BK518.out) : gb518 ≠ gb529))
              have n9_ := Aside0.mk ((ngt hg (zk BK518.out) : gb529 ≠ gb518))
              have n10_ := Aside0.mk ((nlt hg (zk BK519.out) : gb519 ≠ gb529))
              have n11_ := Aside0.mk ((ngt hg (zk BK519.out) : gb529 ≠ gb519))
              have n12_ := Aside0.mk ((nlt hg (zk BK520.out) : gb520 ≠ gb529))
              have n13_ := Aside0.mk ((ngt hg (zk BK520.out) : gb529 ≠ gb520))
              have n14_ := Aside0.mk ((nlt hg (zk BK521.out) : gb521 ≠ gb529))
              have n15_ := Aside0.mk ((ngt hg (zk BK521.out) : gb529 ≠ gb521))
              clear BK518 BK519 BK520 BK521 HB
              have BK518 := n0_
              have BK519 := n1_
              have BK520 := n2_
              have BK521 := n3_
              have HB := n4_
              have BK529 := n5_
              have GW529 := n6_
              have GE529 := n7_
              have NB518_529 := n8_
              have NB529_518 := n9_
              have NB519_529 := n10_
              have NB529_519 := n11_
              have NB520_529 := n12_
              have NB529_520 := n13_
              have NB521_529 := n14_
              have NB529_521 := n15_
              clear n0_ n1_ n2_ n3_ n4_ n5_ n6_ n7_ n8_ n9_ n10_ n11_ n12_ n13_ n14_ n15_ hb hbox hg
              refine hK.out _ _ ⟨bc BK518.out 0, bc BK518.out 1, bc BK518.out 2, bc BK518.out 3, bc BK518.out 4, bc BK518.out 5, bc BK519.out 0, bc BK519.out 1, bc BK519.out 2, bc BK519.out 3, bc BK519.out 4, bc BK519.out 5⟩ (fun hHeld => ?_)
              clear hK K
              refine norm_ (a' := ?_) ?_ ?_
              rotate_left
              ·exact t15_2
              exact norm_ s15_5 (hJ2_7 (gb529) _ ⟨hHeld, (zk BK518.out), (zk BK519.out), (zk BK520.out), (zk BK521.out), (zk BK529.out), GW529.out, GE529.out, NB518_529.out, NB529_518.out, NB519_529.out, NB529_519.out, NB520_529.out, NB529_520.out, NB521_529.out, NB529_521.out, s15_3⟩)
           ·skip
            rintro ⟨gb528, gb529⟩ w6 ⟨hS_, h0_, h1_, h2_, h3_, h4_, h5_, h6_, h7_, h8_, h9_, h10_, h11_, h12_, h13_, h14_, h15_, h16_, h17_, h18_, h19_, h20_, h21_, h22_, h23_, h24_, h25_, h26_, h27_, h28_⟩
            have n0_ : Aside0 (w6.heap[gb518]? = some (.cells #[.int .i64 a0_0, .int .i64 a0_1, .int .i64 a0_2, .int .i64 a0_3, .int .i64 a0_4, .int .i64 a0_5] 25 (0, 0))) := ⟨h0_⟩
            have n1_ : Aside0 (w6.heap[gb519]? = some (.cells #[.int .i64 a1_0, .int .i64 a1_1, .int .i64 a1_2, .int .i64 a1_3, .int .i64 a1_4, .int .i64 a1_5] 25 (0, 0))) := ⟨h1_⟩
            have n2_ : Aside0 (w6.heap[gb520]? = some (.cells #[.int .i64 0, .int .i64 0] 58 (0, 0))) := ⟨h2_⟩
            have n3_ : Aside0 (w6.heap[gb521]? = some (.cells #[.int .i64 0, .int .i64 0] 58 (0, 0))) := ⟨h3_⟩
            have n4_ : Aside0 (w6.heap[gb528]? = some (.cells #[.int .i64 0, .int .i64 0] 83 (0, 0))) := ⟨h4_⟩
            have n5_ : Aside0 (w6.heap[gb529]? = some (.cells #[.int .i64 0, .int .i64 0] 83 (0, 0))) := ⟨h5_⟩
            have n6_ : Aside0 (w.heap.size ≤ gb528) := ⟨h6_⟩
            have n7_ : Aside0 (w.heap.size ≤ gb528) := ⟨h7_⟩
            have n8_ : Aside0 (gb518 ≠ gb528) := ⟨h8_⟩
            have n9_ : Aside0 (gb528 ≠ gb518) := ⟨h9_⟩
            have n10_ : Aside0 (gb519 ≠ gb528) := ⟨h10_⟩
            have n11_ : Aside0 (gb528 ≠ gb519) := ⟨h11_⟩
            have n12_ : Aside0 (gb520 ≠ gb528) := ⟨h12_⟩
            have n13_ : Aside0 (gb528 ≠ gb520) := ⟨h13_⟩
            have n14_ : Aside0 (gb521 ≠ gb528) := ⟨h14_⟩
            have n15_ : Aside0 (gb528 ≠ gb521) := ⟨h15_⟩
            have n16_ : Aside0 (gb529 ≠ gb528) := ⟨h16_⟩
            have n17_ : Aside0 (gb528 ≠ gb529) := ⟨h17_⟩
            have n18_ : Aside0 (w.heap.size ≤ gb529) := ⟨h18_⟩
            have n19_ : Aside0 (w.heap.size ≤ gb529) := ⟨h19_⟩
            have n20_ : Aside0 (gb518 ≠ gb529) := ⟨h20_⟩
            have n21_ : Aside0 (gb529 ≠ gb518) := ⟨h21_⟩
            have n22_ : Aside0 (gb519 ≠ gb529) := ⟨h22_⟩
            have n23_ : Aside0 (gb529 ≠ gb519) := ⟨h23_⟩
            have n24_ : Aside0 (gb520 ≠ gb529) := ⟨h24_⟩
            have n25_ : Aside0 (gb529 ≠ gb520) := ⟨h25_⟩
            have n26_ : Aside0 (gb521 ≠ gb529) := ⟨h26_⟩
            have n27_ : Aside0 (gb529 ≠ gb521) := ⟨h27_⟩
            have n28_ : Aside0 (Below w.heap.size w w6) := ⟨h28_⟩
            clear BK518 BK519 BK520 BK521 HB h0_ h1_ h2_ h3_ h4_ h5_ h6_ h7_ h8_ h9_ h10_ h11_ h12_ h13_ h14_ h15_ h16_ h17_ h18_ h19_ h20_ h21_ h22_ h23_ h24_ h25_ h26_ h27_ h28_
            have BK518 := n0_
            have BK519 := n1_
            have BK520 := n2_
            have BK521 := n3_
            have BK528 := n4_
            have BK529 := n5_
            have GW528 := n6_
            have GE528 := n7_
            have NB518_528 := n8_
            have NB528_518 := n9_
            have NB519_528 := n10_
            have NB528_519 := n11_
            have NB520_528 := n12_
            have NB528_520 := n13_
            have NB521_528 := n14_
            have NB528_521 := n15_
            have NB529_528 := n16_
            have NB528_529 := n17_
            have GW529 := n18_
            have GE529 := n19_
            have NB518_529 := n20_
            have NB529_518 := n21_
            have NB519_529 := n22_
            have NB529_519 := n23_
            have NB520_529 := n24_
            have NB529_520 := n25_
            have NB521_529 := n26_
            have NB529_521 := n27_
            have HB := n28_
            clear n0_ n1_ n2_ n3_ n4_ n5_ n6_ n7_ n8_ n9_ n10_ n11_ n12_ n13_ n14_ n15_ n16_ n17_ n18_ n19_ n20_ n21_ n22_ n23_ n24_ n25_ n26_ n27_ n28_
            have hHeld : w6.cell? ⟨gb518, 0, none⟩ = some (.int .i64 a0_0) ∧ w6.cell? ⟨gb518, 1, none⟩ = some (.int .i64 a0_1) ∧ w6.cell? ⟨gb518, 2, none⟩ = some (.int .i64 a0_2) ∧ w6.cell? ⟨gb518, 3, none⟩ = some (.int .i64 a0_3) ∧ w6.cell? ⟨gb518, 4, none⟩ = some (.int .i64 a0_4) ∧ w6.cell? ⟨gb518, 5, none⟩ = some (.int .i64 a0_5) ∧ w6.cell? ⟨gb519, 0, none⟩ = some (.int .i64 a1_0) ∧ w6.cell? ⟨gb519, 1, none⟩ = some (.int .i64 a1_1) ∧ w6.cell? ⟨gb519, 2, none⟩ = some (.int .i64 a1_2) ∧ w6.cell? ⟨gb519, 3, none⟩ = some (.int .i64 a1_3) ∧ w6.cell? ⟨gb519, 4, none⟩ = some (.int .i64 a1_4) ∧ w6.cell? ⟨gb519, 5, none⟩ = some (.int .i64 a1_5) := hS_
            refine norm_ (a' := ?_) ?_ ?_
            rotate_left
            ·exact t15_3
            refine one_ (i := 2) (N := some 22) (bz 10 223) rfl rfl (one_of HT_.out (by kernel_rfl)) (by decide) (fun K hK => ?_)
            refine goes_ Try.func65 (by kernel_rfl) rfl #[.agg #[.int .i64 a0_0, .int .i64 a0_1, .int .i64 a0_2, .int .i64 a0_3, .int .i64 a0_4, .int .i64 a0_5], .agg #[.int .i64 a1_0, .int .i64 a1_1, .int .i64 a1_2, .int .i64 a1_3, .int .i64 a1_4, .int .i64 a1_5]] (by rfl) rfl rfl s15_4 ?_
            with_reducible refine (spec_l8Bearing.calls a0_0 a0_1 a0_2 a0_3 a0_4 a0_5 a1_0 a1_1 a1_2 a1_3 a1_4 a1_5 t524 t525 _ A33.out).mono ?_
            rintro e w7 ⟨rfl, hb⟩
            refine ⟨_, rfl, ?_⟩
            have n0_ := Aside0.mk (bb (zk BK518.out) hb)
            have n1_ := Aside0.mk (bb (zk BK519.out) hb)
            have n2_ := Aside0.mk (bb (zk BK520.out) hb)
            have n3_ := Aside0.mk (bb (zk BK521.out) hb)
            have n4_ := Aside0.mk (bb (zk BK528.out) hb)
            have n5_ := Aside0.mk (bb (zk BK529.out) hb)
            have n6_ := Aside0.mk (below_step s15_1 hb)
            clear BK518 BK519 BK520 BK521 BK528 BK529 HB
            have BK518 := n0_
            have BK519 := n1_
            have BK520 := n2_
            have BK521 := n3_
            have BK528 := n4_
            have BK529 := n5_
            have HB := n6_
            clear n0_ n1_ n2_ n3_ n4_ n5_ n6_
            (try clear hb)
            (try clear hb2)
            (try clear hk)
            (try clear hi)
            refine hK.out _ _ ⟨bc BK518.out 0, bc BK518.out 1, bc BK518.out 2, bc BK518.out 3, bc BK518.out 4, bc BK518.out 5, bc BK519.out 0, bc BK519.out 1, bc BK519.out 2, bc BK519.out 3, bc BK519.out 4, bc BK519.out 5⟩ (fun hHeld => ?_)
            clear hK K
            refine norm_ (a' := ?_) ?_ ?_
            rotate_left
            ·show Act.put _ (some 22) _ = _
             simp only [Act.put, y1, y2, y3, i64_w, i32_w]
             rfl
            exact norm_ s15_5 (hJ2_6_7 (gb528, gb529) _ ⟨hHeld, (zk BK518.out), (zk BK519.out), (zk BK520.out), (zk BK521.out), (zk BK528.out), (zk BK529.out), GW528.out, GE528.out, NB518_528.out, NB528_518.out, NB519_528.out, NB528_519.out, NB520_528.out, NB528_520.out, NB521_528.out, NB528_521.out, NB529_528.out, NB528_529.out, GW529.out, GE529.out, NB518_529.out, NB529_518.out, NB519_529.out, NB529_519.out, NB520_529.out, NB529_520.out, NB521_529.out, NB529_521.out, s15_1⟩)
          ·skip
           rintro gb529 w6 ⟨hS_, h0_, h1_, h2_, h3_, h4_, h5_, h6_, h7_, h8_, h9_, h10_, h11_, h12_, h13_, h14_, h15_⟩
           have n0_ : Aside0 (w6.heap[gb518]? = some (.cells #[.int .i64 a0_0, .int .i64 a0_1, .int .i64 a0_2, .int .i64 a0_3, .int .i64 a0_4, .int .i64 a0_5] 25 (0, 0))) := ⟨h0_⟩
           have n1_ : Aside0 (w6.heap[gb519]? = some (.cells #[.int .i64 a1_0, .int .i64 a1_1, .int .i64 a1_2, .int .i64 a1_3, .int .i64 a1_4, .int .i64 a1_5] 25 (0, 0))) := ⟨h1_⟩
           have n2_ : Aside0 (w6.heap[gb520]? = some (.cells #[.int .i64 0, .int .i64 0] 58 (0, 0))) := ⟨h2_⟩
           have n3_ : Aside0 (w6.heap[gb521]? = some (.cells #[.int .i64 0, .int .i64 0] 58 (0, 0))) := ⟨h3_⟩
           have n4_ : Aside0 (w6.heap[gb529]? = some (.cells #[.int .i64 0, .int .i64 0] 83 (0, 0))) := ⟨h4_⟩
           have n5_ : Aside0 (w.heap.size ≤ gb529) := ⟨h5_⟩
           have n6_ : Aside0 (w.heap.size ≤ gb529) := ⟨h6_⟩
           have n7_ : Aside0 (gb518 ≠ gb529) := ⟨h7_⟩
           have n8_ : Aside0 (gb529 ≠ gb518) := ⟨h8_⟩
           have n9_ : Aside0 (gb519 ≠ gb529) := ⟨h9_⟩
           have n10_ : Aside0 (gb529 ≠ gb519) := ⟨h10_⟩
           have n11_ : Aside0 (gb520 ≠ gb529) := ⟨h11_⟩
           have n12_ : Aside0 (gb529 ≠ gb520) := ⟨h12_⟩
           have n13_ : Aside0 (gb521 ≠ gb529) := ⟨h13_⟩
           have n14_ : Aside0 (gb529 ≠ gb521) := ⟨h14_⟩
           have n15_ : Aside0 (Below w.heap.size w w6) := ⟨h15_⟩
           clear BK518 BK519 BK520 BK521 HB h0_ h1_ h2_ h3_ h4_ h5_ h6_ h7_ h8_ h9_ h10_ h11_ h12_ h13_ h14_ h15_
           have BK518 := n0_
           have BK519 := n1_
           have BK520 := n2_
           have BK521 := n3_
           have BK529 := n4_
           have GW529 := n5_
           have GE529 := n6_
           have NB518_529 := n7_
           have NB529_518 := n8_
           have NB519_529 := n9_
           have NB529_519 := n10_
           have NB520_529 := n11_
           have NB529_520 := n12_
           have NB521_529 := n13_
           have NB529_521 := n14_
           have HB := n15_
           clear n0_ n1_ n2_ n3_ n4_ n5_ n6_ n7_ n8_ n9_ n10_ n11_ n12_ n13_ n14_ n15_
           have hHeld : w6.cell? ⟨gb518, 0, none⟩ = some (.int .i64 a0_0) ∧ w6.cell? ⟨gb518, 1, none⟩ = some (.int .i64 a0_1) ∧ w6.cell? ⟨gb518, 2, none⟩ = some (.int .i64 a0_2) ∧ w6.cell? ⟨gb518, 3, none⟩ = some (.int .i64 a0_3) ∧ w6.cell? ⟨gb518, 4, none⟩ = some (.int .i64 a0_4) ∧ w6.cell? ⟨gb518, 5, none⟩ = some (.int .i64 a0_5) ∧ w6.cell? ⟨gb519, 0, none⟩ = some (.int .i64 a1_0) ∧ w6.cell? ⟨gb519, 1, none⟩ = some (.int .i64 a1_1) ∧ w6.cell? ⟨gb519, 2, none⟩ = some (.int .i64 a1_2) ∧ w6.cell? ⟨gb519, 3, none⟩ = some (.int .i64 a1_3) ∧ w6.cell? ⟨gb519, 4, none⟩ = some (.int .i64 a1_4) ∧ w6.cell? ⟨gb519, 5, none⟩ = some (.int .i64 a1_5) := hS_
           refine norm_ (a' := ?_) ?_ ?_
           rotate_left
           ·exact t15_3
           refine two_ (i := 5) (j := 6) (Ni := some 25) (Nj := some 7) (bz 10 191) (bz 10 223) rfl rfl rfl rfl (two_of HT_.out (by kernel_rfl)) (by decide) (by decide) (fun K hK => ?_) (fun K hK => ?_)
           ·skip
            refine goes_ Try.func80 (by kernel_rfl) rfl #[.agg #[.int .i64 a0_0, .int .i64 a0_1, .int .i64 a0_2, .int .i64 a0_3, .int .i64 a0_4, .int .i64 a0_5], .agg #[.int .i64 a1_0, .int .i64 a1_1, .int .i64 a1_2, .int .i64 a1_3, .int .i64 a1_4, .int .i64 a1_5]] (by rfl) rfl rfl s15_4 ?_
            with_reducible refine (spec_l8Diff.calls a0_0 a0_1 a0_2 a0_3 a0_4 a0_5 a1_0 a1_1 a1_2 a1_3 a1_4 a1_5 t526 t527 _ A34.out).mono ?_
            rintro e w7 ⟨rfl, hb⟩
            refine ⟨_, rfl, ?_⟩
            have n0_ := Aside0.mk (bb (zk BK518.out) hb)
            have n1_ := Aside0.mk (bb (zk BK519.out) hb)
            have n2_ := Aside0.mk (bb (zk BK520.out) hb)
            have n3_ := Aside0.mk (bb (zk BK521.out) hb)
            have n4_ := Aside0.mk (bb (zk BK529.out) hb)
            have n5_ := Aside0.mk (below_step s15_3 hb)
            clear BK518 BK519 BK520 BK521 BK529 HB
            have BK518 := n0_
            have BK519 := n1_
            have BK520 := n2_
            have BK521 := n3_
            have BK529 := n4_
            have HB := n5_
            clear n0_ n1_ n2_ n3_ n4_ n5_
            (try clear hb)
            (try clear hb2)
            (try clear hk)
            (try clear hi)
            refine hK.out _ _ ⟨bc BK518.out 0, bc BK518.out 1, bc BK518.out 2, bc BK518.out 3, bc BK518.out 4, bc BK518.out 5, bc BK519.out 0, bc BK519.out 1, bc BK519.out 2, bc BK519.out 3, bc BK519.out 4, bc BK519.out 5⟩ (fun hHeld => ?_)
            clear hK K
            refine norm_ (a' := ?_) ?_ ?_
            rotate_left
            ·show Act.put _ (some 25) _ = _
             simp only [Act.put, y1, y2, y3, i64_w, i32_w]
             rfl
            exact norm_ s15_5 (hJ2_5_7 (gb529) _ ⟨hHeld, (zk BK518.out), (zk BK519.out), (zk BK520.out), (zk BK521.out), (zk BK529.out), GW529.out, GE529.out, NB518_529.out, NB529_518.out, NB519_529.out, NB529_519.out, NB520_529.out, NB529_520.out, NB521_529.out, NB529_521.out, s15_3⟩)
           ·skip
            refine box_step ?hg (N := 7) ?hd (cs := #[.int .i64 0, .int .i64 0]) (t := 83) ?hr ?_; (case hd => rfl); (case hg => rfl); (case hr => first | (go_simp; done) | (go_simp; rfl))
            intro gb528 hg w7 hbox hb
            have n0_ := Aside0.mk (bb (zk BK518.out) hb)
            have n1_ := Aside0.mk (bb (zk BK519.out) hb)
            have n2_ := Aside0.mk (bb (zk BK520.out) hb)
            have n3_ := Aside0.mk (bb (zk BK521.out) hb)
            have n4_ := Aside0.mk (bb (zk BK529.out) hb)
            have n5_ := Aside0.mk (below_step s15_3 hb)
            have n6_ := Aside0.mk (hbox)
            have n7_ := Aside0.mk (ns hg s15_3 : w.heap.size ≤ gb528)
            have n8_ := Aside0.mk (ns hg s15_3 : w.heap.size ≤ gb528)
            have n9_ := Aside0.mk ((nlt hg (zk BK518.out) : gb518 ≠ gb528))
            have n10_ := Aside0.mk ((ngt hg (zk BK518.out) : gb528 ≠ gb518))
            have n11_ := Aside0.mk ((nlt hg (zk BK519.out) : gb519 ≠ gb528))
            have n12_ := Aside0.mk ((ngt hg (zk BK519.out) : gb528 ≠ gb519))
            have n13_ := Aside0.mk ((nlt hg (zk BK520.out) : gb520 ≠ gb528))
            have n14_ := Aside0.mk ((ngt hg (zk BK520.out) : gb528 ≠ gb520))
            have n15_ := Aside0.mk ((nlt hg (zk BK521.out) : gb521 ≠ gb528))
            have n16_ := Aside0.mk ((ngt hg (zk BK521.out) : gb528 ≠ gb521))
            have n17_ := Aside0.mk ((nlt hg (zk BK529.out) : gb529 ≠ gb528))
            have n18_ := Aside0.mk ((ngt hg (zk BK529.out) : gb528 ≠ gb529))
            clear BK518 BK519 BK520 BK521 BK529 HB
            have BK518 := n0_
            have BK519 := n1_
            have BK520 := n2_
            have BK521 := n3_
            have BK529 := n4_
            have HB := n5_
            have BK528 := n6_
            have GW528 := n7_
            have GE528 := n8_
            have NB518_528 := n9_
            have NB528_518 := n10_
            have NB519_528 := n11_
            have NB528_519 := n12_
            have NB520_528 := n13_
            have NB528_520 := n14_
            have NB521_528 := n15_
            have NB528_521 := n16_
            have NB529_528 := n17_
            have NB528_529 := n18_
            clear n0_ n1_ n2_ n3_ n4_ n5_ n6_ n7_ n8_ n9_ n10_ n11_ n12_ n13_ n14_ n15_ n16_ n17_ n18_ hb hbox hg
            refine hK.out _ _ ⟨bc BK518.out 0, bc BK518.out 1, bc BK518.out 2, bc BK518.out 3, bc BK518.out 4, bc BK518.out 5, bc BK519.out 0, bc BK519.out 1, bc BK519.out 2, bc BK519.out 3, bc BK519.out 4, bc BK519.out 5⟩ (fun hHeld => ?_)
            clear hK K
            refine norm_ (a' := ?_) ?_ ?_
            rotate_left
            ·exact t15_1
            exact norm_ s15_5 (hJ2_6_7 (gb528, gb529) _ ⟨hHeld, (zk BK518.out), (zk BK519.out), (zk BK520.out), (zk BK521.out), (zk BK528.out), (zk BK529.out), GW528.out, GE528.out, NB518_528.out, NB528_518.out, NB519_528.out, NB528_519.out, NB520_528.out, NB528_520.out, NB521_528.out, NB528_521.out, NB529_528.out, NB528_529.out, GW529.out, GE529.out, NB518_529.out, NB529_518.out, NB519_529.out, NB529_519.out, NB520_529.out, NB529_520.out, NB521_529.out, NB529_521.out, s15_6⟩)
         ·skip
          rintro gb528 w6 ⟨hS_, h0_, h1_, h2_, h3_, h4_, h5_, h6_, h7_, h8_, h9_, h10_, h11_, h12_, h13_, h14_, h15_⟩
          have n0_ : Aside0 (w6.heap[gb518]? = some (.cells #[.int .i64 a0_0, .int .i64 a0_1, .int .i64 a0_2, .int .i64 a0_3, .int .i64 a0_4, .int .i64 a0_5] 25 (0, 0))) := ⟨h0_⟩
          have n1_ : Aside0 (w6.heap[gb519]? = some (.cells #[.int .i64 a1_0, .int .i64 a1_1, .int .i64 a1_2, .int .i64 a1_3, .int .i64 a1_4, .int .i64 a1_5] 25 (0, 0))) := ⟨h1_⟩
          have n2_ : Aside0 (w6.heap[gb520]? = some (.cells #[.int .i64 0, .int .i64 0] 58 (0, 0))) := ⟨h2_⟩
          have n3_ : Aside0 (w6.heap[gb521]? = some (.cells #[.int .i64 0, .int .i64 0] 58 (0, 0))) := ⟨h3_⟩
          have n4_ : Aside0 (w6.heap[gb528]? = some (.cells #[.int .i64 0, .int .i64 0] 83 (0, 0))) := ⟨h4_⟩
          have n5_ : Aside0 (w.heap.size ≤ gb528) := ⟨h5_⟩
          have n6_ : Aside0 (w.heap.size ≤ gb528) := ⟨h6_⟩
          have n7_ : Aside0 (gb518 ≠ gb528) := ⟨h7_⟩
          have n8_ : Aside0 (gb528 ≠ gb518) := ⟨h8_⟩
          have n9_ : Aside0 (gb519 ≠ gb528) := ⟨h9_⟩
          have n10_ : Aside0 (gb528 ≠ gb519) := ⟨h10_⟩
          have n11_ : Aside0 (gb520 ≠ gb528) := ⟨h11_⟩
          have n12_ : Aside0 (gb528 ≠ gb520) := ⟨h12_⟩
          have n13_ : Aside0 (gb521 ≠ gb528) := ⟨h13_⟩
          have n14_ : Aside0 (gb528 ≠ gb521) := ⟨h14_⟩
          have n15_ : Aside0 (Below w.heap.size w w6) := ⟨h15_⟩
          clear BK518 BK519 BK520 BK521 HB h0_ h1_ h2_ h3_ h4_ h5_ h6_ h7_ h8_ h9_ h10_ h11_ h12_ h13_ h14_ h15_
          have BK518 := n0_
          have BK519 := n1_
          have BK520 := n2_
          have BK521 := n3_
          have BK528 := n4_
          have GW528 := n5_
          have GE528 := n6_
          have NB518_528 := n7_
          have NB528_518 := n8_
          have NB519_528 := n9_
          have NB528_519 := n10_
          have NB520_528 := n11_
          have NB528_520 := n12_
          have NB521_528 := n13_
          have NB528_521 := n14_
          have HB := n15_
          clear n0_ n1_ n2_ n3_ n4_ n5_ n6_ n7_ n8_ n9_ n10_ n11_ n12_ n13_ n14_ n15_
          have hHeld : w6.cell? ⟨gb518, 0, none⟩ = some (.int .i64 a0_0) ∧ w6.cell? ⟨gb518, 1, none⟩ = some (.int .i64 a0_1) ∧ w6.cell? ⟨gb518, 2, none⟩ = some (.int .i64 a0_2) ∧ w6.cell? ⟨gb518, 3, none⟩ = some (.int .i64 a0_3) ∧ w6.cell? ⟨gb518, 4, none⟩ = some (.int .i64 a0_4) ∧ w6.cell? ⟨gb518, 5, none⟩ = some (.int .i64 a0_5) ∧ w6.cell? ⟨gb519, 0, none⟩ = some (.int .i64 a1_0) ∧ w6.cell? ⟨gb519, 1, none⟩ = some (.int .i64 a1_1) ∧ w6.cell? ⟨gb519, 2, none⟩ = some (.int .i64 a1_2) ∧ w6.cell? ⟨gb519, 3, none⟩ = some (.int .i64 a1_3) ∧ w6.cell? ⟨gb519, 4, none⟩ = some (.int .i64 a1_4) ∧ w6.cell? ⟨gb519, 5, none⟩ = some (.int .i64 a1_5) := hS_
          refine norm_ (a' := ?_) ?_ ?_
          rotate_left
          ·exact t15_3
          refine two_ (i := 5) (j := 7) (Ni := some 25) (Nj := some 8) (bz 10 127) (bz 10 223) rfl rfl rfl rfl (two_of HT_.out (by kernel_rfl)) (by decide) (by decide) (fun K hK => ?_) (fun K hK => ?_)
          ·skip
           refine goes_ Try.func80 (by kernel_rfl) rfl #[.agg #[.int .i64 a0_0, .int .i64 a0_1, .int .i64 a0_2, .int .i64 a0_3, .int .i64 a0_4, .int .i64 a0_5], .agg #[.int .i64 a1_0, .int .i64 a1_1, .int .i64 a1_2, .int .i64 a1_3, .int .i64 a1_4, .int .i64 a1_5]] (by rfl) rfl rfl s15_4 ?_
           with_reducible refine (spec_l8Diff.calls a0_0 a0_1 a0_2 a0_3 a0_4 a0_5 a1_0 a1_1 a1_2 a1_3 a1_4 a1_5 t526 t527 _ A34.out).mono ?_
           rintro e w7 ⟨rfl, hb⟩
           refine ⟨_, rfl, ?_⟩
           have n0_ := Aside0.mk (bb (zk BK518.out) hb)
           have n1_ := Aside0.mk (bb (zk BK519.out) hb)
           have n2_ := Aside0.mk (bb (zk BK520.out) hb)
           have n3_ := Aside0.mk (bb (zk BK521.out) hb)
           have n4_ := Aside0.mk (bb (zk BK528.out) hb)
           have n5_ := Aside0.mk (below_step s15_2 hb)
           clear BK518 BK519 BK520 BK521 BK528 HB
           have BK518 := n0_
           have BK519 := n1_
           have BK520 := n2_
           have BK521 := n3_
           have BK528 := n4_
           have HB := n5_
           clear n0_ n1_ n2_ n3_ n4_ n5_
           (try clear hb)
           (try clear hb2)
           (try clear hk)
           (try clear hi)
           refine hK.out _ _ ⟨bc BK518.out 0, bc BK518.out 1, bc BK518.out 2, bc BK518.out 3, bc BK518.out 4, bc BK518.out 5, bc BK519.out 0, bc BK519.out 1, bc BK519.out 2, bc BK519.out 3, bc BK519.out 4, bc BK519.out 5⟩ (fun hHeld => ?_)
           clear hK K
           refine norm_ (a' := ?_) ?_ ?_
           rotate_left
           ·show Act.put _ (some 25) _ = _
            simp only [Act.put, y1, y2, y3, i64_w, i32_w]
            rfl
           exact norm_ s15_5 (hJ2_5_6 (gb528) _ ⟨hHeld, (zk BK518.out), (zk BK519.out), (zk BK520.out), (zk BK521.out), (zk BK528.out), GW528.out, GE528.out, NB518_528.out, NB528_518.out, NB519_528.out, NB528_519.out, NB520_528.out, NB528_520.out, NB521_528.out, NB528_521.out, s15_2⟩)
          ·skip
           refine box_step ?hg (N := 8) ?hd (cs := #[.int .i64 0, .int .i64 0]) (t := 83) ?hr ?_; (case hd => rfl); (case hg => rfl); (case hr => first | (go_simp; done) | (go_simp; rfl))
           intro gb529 hg w7 hbox hb
           have n0_ := Aside0.mk (bb (zk BK518.out) hb)
           have n1_ := Aside0.mk (bb (zk BK519.out) hb)
           have n2_ := Aside0.mk (bb (zk BK520.out) hb)
           have n3_ := Aside0.mk (bb (zk BK521.out) hb)
           have n4_ := Aside0.mk (bb (zk BK528.out) hb)
           have n5_ := Aside0.mk (below_step s15_2 hb)
           have n6_ := Aside0.mk (hbox)
           have n7_ := Aside0.mk (ns hg s15_2 : w.heap.size ≤ gb529)
           have n8_ := Aside0.mk (ns hg s15_2 : w.heap.size ≤ gb529)
           have n9_ := Aside0.mk ((nlt hg (zk BK518.out) : gb518 ≠ gb529))
           have n10_ := Aside0.mk ((ngt hg (zk BK518.out) : gb529 ≠ gb518))
           have n11_ := Aside0.mk ((nlt hg (zk BK519.out) : gb519 ≠ gb529))
           have n12_ := Aside0.mk ((ngt hg (zk BK519.out) : gb529 ≠ gb519))
           have n13_ := Aside0.mk ((nlt hg (zk BK520.out) : gb520 ≠ gb529))
           have n14_ := Aside0.mk ((ngt hg (zk BK520.out) : gb529 ≠ gb520))
           have n15_ := Aside0.mk ((nlt hg (zk BK521.out) : gb521 ≠ gb529))
           have n16_ := Aside0.mk ((ngt hg (zk BK521.out) : gb529 ≠ gb521))
           have n17_ := Aside0.mk ((nlt hg (zk BK528.out) : gb528 ≠ gb529))
           have n18_ := Aside0.mk ((ngt hg (zk BK528.out) : gb529 ≠ gb528))
           clear BK518 BK519 BK520 BK521 BK528 HB
           have BK518 := n0_
           have BK519 := n1_
           have BK520 := n2_
           have BK521 := n3_
           have BK528 := n4_
           have HB := n5_
           have BK529 := n6_
           have GW529 := n7_
           have GE529 := n8_
           have NB518_529 := n9_
           have NB529_518 := n10_
           have NB519_529 := n11_
           have NB529_519 := n12_
           have NB520_529 := n13_
           have NB529_520 := n14_
           have NB521_529 := n15_
           have NB529_521 := n16_
           have NB528_529 := n17_
           have NB529_528 := n18_
           clear n0_ n1_ n2_ n3_ n4_ n5_ n6_ n7_ n8_ n9_ n10_ n11_ n12_ n13_ n14_ n15_ n16_ n17_ n18_ hb hbox hg
           refine hK.out _ _ ⟨bc BK518.out 0, bc BK518.out 1, bc BK518.out 2, bc BK518.out 3, bc BK518.out 4, bc BK518.out 5, bc BK519.out 0, bc BK519.out 1, bc BK519.out 2, bc BK519.out 3, bc BK519.out 4, bc BK519.out 5⟩ (fun hHeld => ?_)
           clear hK K
           refine norm_ (a' := ?_) ?_ ?_
           rotate_left
           ·exact t15_2
           exact norm_ s15_5 (hJ2_6_7 (gb528, gb529) _ ⟨hHeld, (zk BK518.out), (zk BK519.out), (zk BK520.out), (zk BK521.out), (zk BK528.out), (zk BK529.out), GW528.out, GE528.out, NB518_528.out, NB528_518.out, NB519_528.out, NB528_519.out, NB520_528.out, NB528_520.out, NB521_528.out, NB528_521.out, NB529_528.out, NB528_529.out, GW529.out, GE529.out, NB518_529.out, NB529_518.out, NB519_529.out, NB529_519.out, NB520_529.out, NB529_520.out, NB521_529.out, NB529_521.out, s15_1⟩)
        ·skip
         rintro _ w6 ⟨hS_, h0_, h1_, h2_, h3_, h4_⟩
         have n0_ : Aside0 (w6.heap[gb518]? = some (.cells #[.int .i64 a0_0, .int .i64 a0_1, .int .i64 a0_2, .int .i64 a0_3, .int .i64 a0_4, .int .i64 a0_5] 25 (0, 0))) := ⟨h0_⟩
         have n1_ : Aside0 (w6.heap[gb519]? = some (.cells #[.int .i64 a1_0, .int .i64 a1_1, .int .i64 a1_2, .int .i64 a1_3, .int .i64 a1_4, .int .i64 a1_5] 25 (0, 0))) := ⟨h1_⟩
         have n2_ : Aside0 (w6.heap[gb520]? = some (.cells #[.int .i64 0, .int .i64 0] 58 (0, 0))) := ⟨h2_⟩
         have n3_ : Aside0 (w6.heap[gb521]? = some (.cells #[.int .i64 0, .int .i64 0] 58 (0, 0))) := ⟨h3_⟩
         have n4_ : Aside0 (Below w.heap.size w w6) := ⟨h4_⟩
         clear BK518 BK519 BK520 BK521 HB h0_ h1_ h2_ h3_ h4_
         have BK518 := n0_
         have BK519 := n1_
         have BK520 := n2_
         have BK521 := n3_
         have HB := n4_
         clear n0_ n1_ n2_ n3_ n4_
         have hHeld : w6.cell? ⟨gb518, 0, none⟩ = some (.int .i64 a0_0) ∧ w6.cell? ⟨gb518, 1, none⟩ = some (.int .i64 a0_1) ∧ w6.cell? ⟨gb518, 2, none⟩ = some (.int .i64 a0_2) ∧ w6.cell? ⟨gb518, 3, none⟩ = some (.int .i64 a0_3) ∧ w6.cell? ⟨gb518, 4, none⟩ = some (.int .i64 a0_4) ∧ w6.cell? ⟨gb518, 5, none⟩ = some (.int .i64 a0_5) ∧ w6.cell? ⟨gb519, 0, none⟩ = some (.int .i64 a1_0) ∧ w6.cell? ⟨gb519, 1, none⟩ = some (.int .i64 a1_1) ∧ w6.cell? ⟨gb519, 2, none⟩ = some (.int .i64 a1_2) ∧ w6.cell? ⟨gb519, 3, none⟩ = some (.int .i64 a1_3) ∧ w6.cell? ⟨gb519, 4, none⟩ = some (.int .i64 a1_4) ∧ w6.cell? ⟨gb519, 5, none⟩ = some (.int .i64 a1_5) := hS_
         refine norm_ (a' := ?_) ?_ ?_
         rotate_left
         ·exact t15_3
         refine two_ (i := 6) (j := 7) (Ni := some 7) (Nj := some 8) (bz 10 127) (bz 10 191) rfl rfl rfl rfl (two_of HT_.out (by kernel_rfl)) (by decide) (by decide) (fun K hK => ?_) (fun K hK => ?_)
         ·skip
          refine box_step ?hg (N := 7) ?hd (cs := #[.int .i64 0, .int .i64 0]) (t := 83) ?hr ?_; (case hd => rfl); (case hg => rfl); (case hr => first | (go_simp; done) | (go_simp; rfl))
          intro gb528 hg w7 hbox hb
          have n0_ := Aside0.mk (bb (zk BK518.out) hb)
          have n1_ := Aside0.mk (bb (zk BK519.out) hb)
          have n2_ := Aside0.mk (bb (zk BK520.out) hb)
          have n3_ := Aside0.mk (bb (zk BK521.out) hb)
          have n4_ := Aside0.mk (below_step s15_0 hb)
          have n5_ := Aside0.mk (hbox)
          have n6_ := Aside0.mk (ns hg s15_0 : w.heap.size ≤ gb528)
          have n7_ := Aside0.mk (ns hg s15_0 : w.heap.size ≤ gb528)
          have n8_ := Aside0.mk ((nlt hg (zk BK518.out) : gb518 ≠ gb528))
          have n9_ := Aside0.mk ((ngt hg (zk BK518.out) : gb528 ≠ gb518))
          have n10_ := Aside0.mk ((nlt hg (zk BK519.out) : gb519 ≠ gb528))
          have n11_ := Aside0.mk ((ngt hg (zk BK519.out) : gb528 ≠ gb519))
          have n12_ := Aside0.mk ((nlt hg (zk BK520.out) : gb520 ≠ gb528))
          have n13_ := Aside0.mk ((ngt hg (zk BK520.out) : gb528 ≠ gb520))
          have n14_ := Aside0.mk ((nlt hg (zk BK521.out) : gb521 ≠ gb528))
          have n15_ := Aside0.mk ((ngt hg (zk BK521.out) : gb528 ≠ gb521))
          clear BK518 BK519 BK520 BK521 HB
          have BK518 := n0_
          have BK519 := n1_
          have BK520 := n2_
          have BK521 := n3_
          have HB := n4_
          have BK528 := n5_
          have GW528 := n6_
          have GE528 := n7_
          have NB518_528 := n8_
          have NB528_518 := n9_
          have NB519_528 := n10_
          have NB528_519 := n11_
          have NB520_528 := n12_
          have NB528_520 := n13_
          have NB521_528 := n14_
          have NB528_521 := n15_
          clear n0_ n1_ n2_ n3_ n4_ n5_ n6_ n7_ n8_ n9_ n10_ n11_ n12_ n13_ n14_ n15_ hb hbox hg
          refine hK.out _ _ ⟨bc BK518.out 0, bc BK518.out 1, bc BK518.out 2, bc BK518.out 3, bc BK518.out 4, bc BK518.out 5, bc BK519.out 0, bc BK519.out 1, bc BK519.out 2, bc BK519.out 3, bc BK519.out 4, bc BK519.out 5⟩ (fun hHeld => ?_)
          clear hK K
          refine norm_ (a' := ?_) ?_ ?_
          rotate_left
          ·exact t15_1
          exact norm_ s15_5 (hJ2_5_6 (gb528) _ ⟨hHeld, (zk BK518.out), (zk BK519.out), (zk BK520.out), (zk BK521.out), (zk BK528.out), GW528.out, GE528.out, NB518_528.out, NB528_518.out, NB519_528.out, NB528_519.out, NB520_528.out, NB528_520.out, NB521_528.out, NB528_521.out, s15_2⟩)
         ·skip
          refine box_step ?hg (N := 8) ?hd (cs := #[.int .i64 0, .int .i64 0]) (t := 83) ?hr ?_; (case hd => rfl); (case hg => rfl); (case hr => first | (go_simp; done) | (go_simp; rfl))
          intro gb529 hg w7 hbox hb
          have n0_ := Aside0.mk (bb (zk BK518.out) hb)
          have n1_ := Aside0.mk (bb (zk BK519.out) hb)
          have n2_ := Aside0.mk (bb (zk BK520.out) hb)
          have n3_ := Aside0.mk (bb (zk BK521.out) hb)
          have n4_ := Aside0.mk (below_step s15_0 hb)
          have n5_ := Aside0.mk (hbox)
          have n6_ := Aside0.mk (ns hg s15_0 : w.heap.size ≤ gb529)
          have n7_ := Aside0.mk (ns hg s15_0 : w.heap.size ≤ gb529)
          have n8_ := Aside0.mk ((nlt hg (zk BK518.out) : gb518 ≠ gb529))
          have n9_ := Aside0.mk ((ngt hg (zk BK518.out) : gb529 ≠ gb518))
          have n10_ := Aside0.mk ((nlt hg (zk BK519.out) : gb519 ≠ gb529))
          have n11_ := Aside0.mk ((ngt hg (zk BK519.out) : gb529 ≠ gb519))
          have n12_ := Aside0.mk ((nlt hg (zk BK520.out) : gb520 ≠ gb529))
          have n13_ := Aside0.mk ((ngt hg (zk BK520.out) : gb529 ≠ gb520))
          have n14_ := Aside0.mk ((nlt hg (zk BK521.out) : gb521 ≠ gb529))
          have n15_ := Aside0.mk ((ngt hg (zk BK521.out) : gb529 ≠ gb521))
          clear BK518 BK519 BK520 BK521 HB
          have BK518 := n0_
          have BK519 := n1_
          have BK520 := n2_
          have BK521 := n3_
          have HB := n4_
          have BK529 := n5_
          have GW529 := n6_
          have GE529 := n7_
          have NB518_529 := n8_
          have NB529_518 := n9_
          have NB519_529 := n10_
          have NB529_519 := n11_
          have NB520_529 := n12_
          have NB529_520 := n13_
          have NB521_529 := n14_
          have NB529_521 := n15_
          clear n0_ n1_ n2_ n3_ n4_ n5_ n6_ n7_ n8_ n9_ n10_ n11_ n12_ n13_ n14_ n15_ hb hbox hg
          refine hK.out _ _ ⟨bc BK518.out 0, bc BK518.out 1, bc BK518.out 2, bc BK518.out 3, bc BK518.out 4, bc BK518.out 5, bc BK519.out 0, bc BK519.out 1, bc BK519.out 2, bc BK519.out 3, bc BK519.out 4, bc BK519.out 5⟩ (fun hHeld => ?_)
          clear hK K
          refine norm_ (a' := ?_) ?_ ?_
          rotate_left
          ·exact t15_2
          exact norm_ s15_5 (hJ2_5_7 (gb529) _ ⟨hHeld, (zk BK518.out), (zk BK519.out), (zk BK520.out), (zk BK521.out), (zk BK529.out), GW529.out, GE529.out, NB518_529.out, NB529_518.out, NB519_529.out, NB529_519.out, NB520_529.out, NB529_520.out, NB521_529.out, NB529_521.out, s15_3⟩)
       ·skip
        rintro ⟨gb528, gb529⟩ w6 ⟨hS_, h0_, h1_, h2_, h3_, h4_, h5_, h6_, h7_, h8_, h9_, h10_, h11_, h12_, h13_, h14_, h15_, h16_, h17_, h18_, h19_, h20_, h21_, h22_, h23_, h24_, h25_, h26_, h27_, h28_⟩
        have n0_ : Aside0 (w6.heap[gb518]? = some (.cells #[.int .i64 a0_0, .int .i64 a0_1, .int .i64 a0_2, .int .i64 a0_3, .int .i64 a0_4, .int .i64 a0_5] 25 (0, 0))) := ⟨h0_⟩
        have n1_ : Aside0 (w6.heap[gb519]? = some (.cells #[.int .i64 a1_0, .int .i64 a1_1, .int .i64 a1_2, .int .i64 a1_3, .int .i64 a1_4, .int .i64 a1_5] 25 (0, 0))) := ⟨h1_⟩
        have n2_ : Aside0 (w6.heap[gb520]? = some (.cells #[.int .i64 0, .int .i64 0] 58 (0, 0))) := ⟨h2_⟩
        have n3_ : Aside0 (w6.heap[gb521]? = some (.cells #[.int .i64 0, .int .i64 0] 58 (0, 0))) := ⟨h3_⟩
        have n4_ : Aside0 (w6.heap[gb528]? = some (.cells #[.int .i64 0, .int .i64 0] 83 (0, 0))) := ⟨h4_⟩
        have n5_ : Aside0 (w6.heap[gb529]? = some (.cells #[.int .i64 0, .int .i64 0] 83 (0, 0))) := ⟨h5_⟩
        have n6_ : Aside0 (w.heap.size ≤ gb528) := ⟨h6_⟩
        have n7_ : Aside0 (w.heap.size ≤ gb528) := ⟨h7_⟩
        have n8_ : Aside0 (gb518 ≠ gb528) := ⟨h8_⟩
        have n9_ : Aside0 (gb528 ≠ gb518) := ⟨h9_⟩
        have n10_ : Aside0 (gb519 ≠ gb528) := ⟨h10_⟩
        have n11_ : Aside0 (gb528 ≠ gb519) := ⟨h11_⟩
        have n12_ : Aside0 (gb520 ≠ gb528) := ⟨h12_⟩
        have n13_ : Aside0 (gb528 ≠ gb520) := ⟨h13_⟩
        have n14_ : Aside0 (gb521 ≠ gb528) := ⟨h14_⟩
        have n15_ : Aside0 (gb528 ≠ gb521) := ⟨h15_⟩
        have n16_ : Aside0 (gb529 ≠ gb528) := ⟨h16_⟩
        have n17_ : Aside0 (gb528 ≠ gb529) := ⟨h17_⟩
        have n18_ : Aside0 (w.heap.size ≤ gb529) := ⟨h18_⟩
        have n19_ : Aside0 (w.heap.size ≤ gb529) := ⟨h19_⟩
        have n20_ : Aside0 (gb518 ≠ gb529) := ⟨h20_⟩
        have n21_ : Aside0 (gb529 ≠ gb518) := ⟨h21_⟩
        have n22_ : Aside0 (gb519 ≠ gb529) := ⟨h22_⟩
        have n23_ : Aside0 (gb529 ≠ gb519) := ⟨h23_⟩
        have n24_ : Aside0 (gb520 ≠ gb529) := ⟨h24_⟩
        have n25_ : Aside0 (gb529 ≠ gb520) := ⟨h25_⟩
        have n26_ : Aside0 (gb521 ≠ gb529) := ⟨h26_⟩
        have n27_ : Aside0 (gb529 ≠ gb521) := ⟨h27_⟩
        have n28_ : Aside0 (Below w.heap.size w w6) := ⟨h28_⟩
        clear BK518 BK519 BK520 BK521 HB h0_ h1_ h2_ h3_ h4_ h5_ h6_ h7_ h8_ h9_ h10_ h11_ h12_ h13_ h14_ h15_ h16_ h17_ h18_ h19_ h20_ h21_ h22_ h23_ h24_ h25_ h26_ h27_ h28_
        have BK518 := n0_
        have BK519 := n1_
        have BK520 := n2_
        have BK521 := n3_
        have BK528 := n4_
        have BK529 := n5_
        have GW528 := n6_
        have GE528 := n7_
        have NB518_528 := n8_
        have NB528_518 := n9_
        have NB519_528 := n10_
        have NB528_519 := n11_
        have NB520_528 := n12_
        have NB528_520 := n13_
        have NB521_528 := n14_
        have NB528_521 := n15_
        have NB529_528 := n16_
        have NB528_529 := n17_
        have GW529 := n18_
        have GE529 := n19_
        have NB518_529 := n20_
        have NB529_518 := n21_
        have NB519_529 := n22_
        have NB529_519 := n23_
        have NB520_529 := n24_
        have NB529_520 := n25_
        have NB521_529 := n26_
        have NB529_521 := n27_
        have HB := n28_
        clear n0_ n1_ n2_ n3_ n4_ n5_ n6_ n7_ n8_ n9_ n10_ n11_ n12_ n13_ n14_ n15_ n16_ n17_ n18_ n19_ n20_ n21_ n22_ n23_ n24_ n25_ n26_ n27_ n28_
        have hHeld : w6.cell? ⟨gb518, 0, none⟩ = some (.int .i64 a0_0) ∧ w6.cell? ⟨gb518, 1, none⟩ = some (.int .i64 a0_1) ∧ w6.cell? ⟨gb518, 2, none⟩ = some (.int .i64 a0_2) ∧ w6.cell? ⟨gb518, 3, none⟩ = some (.int .i64 a0_3) ∧ w6.cell? ⟨gb518, 4, none⟩ = some (.int .i64 a0_4) ∧ w6.cell? ⟨gb518, 5, none⟩ = some (.int .i64 a0_5) ∧ w6.cell? ⟨gb519, 0, none⟩ = some (.int .i64 a1_0) ∧ w6.cell? ⟨gb519, 1, none⟩ = some (.int .i64 a1_1) ∧ w6.cell? ⟨gb519, 2, none⟩ = some (.int .i64 a1_2) ∧ w6.cell? ⟨gb519, 3, none⟩ = some (.int .i64 a1_3) ∧ w6.cell? ⟨gb519, 4, none⟩ = some (.int .i64 a1_4) ∧ w6.cell? ⟨gb519, 5, none⟩ = some (.int .i64 a1_5) := hS_
        refine norm_ (a' := ?_) ?_ ?_
        rotate_left
        ·exact t15_3
        refine one_ (i := 5) (N := some 25) (bz 10 255) rfl rfl (one_of HT_.out (by kernel_rfl)) (by decide) (fun K hK => ?_)
        refine goes_ Try.func80 (by kernel_rfl) rfl #[.agg #[.int .i64 a0_0, .int .i64 a0_1, .int .i64 a0_2, .int .i64 a0_3, .int .i64 a0_4, .int .i64 a0_5], .agg #[.int .i64 a1_0, .int .i64 a1_1, .int .i64 a1_2, .int .i64 a1_3, .int .i64 a1_4, .int .i64 a1_5]] (by rfl) rfl rfl s15_4 ?_
        with_reducible refine (spec_l8Diff.calls a0_0 a0_1 a0_2 a0_3 a0_4 a0_5 a1_0 a1_1 a1_2 a1_3 a1_4 a1_5 t526 t527 _ A34.out).mono ?_
        rintro e w7 ⟨rfl, hb⟩
        refine ⟨_, rfl, ?_⟩
        have n0_ := Aside0.mk (bb (zk BK518.out) hb)
        have n1_ := Aside0.mk (bb (zk BK519.out) hb)
        have n2_ := Aside0.mk (bb (zk BK520.out) hb)
        have n3_ := Aside0.mk (bb (zk BK521.out) hb)
        have n4_ := Aside0.mk (bb (zk BK528.out) hb)
        have n5_ := Aside0.mk (bb (zk BK529.out) hb)
        have n6_ := Aside0.mk (below_step s15_1 hb)
        clear BK518 BK519 BK520 BK521 BK528 BK529 HB
        have BK518 := n0_
        have BK519 := n1_
        have BK520 := n2_
        have BK521 := n3_
        have BK528 := n4_
        have BK529 := n5_
        have HB := n6_
        clear n0_ n1_ n2_ n3_ n4_ n5_ n6_
        (try clear hb)
        (try clear hb2)
        (try clear hk)
        (try clear hi)
        refine hK.out _ _ ⟨bc BK518.out 0, bc BK518.out 1, bc BK518.out 2, bc BK518.out 3, bc BK518.out 4, bc BK518.out 5, bc BK519.out 0, bc BK519.out 1, bc BK519.out 2, bc BK519.out 3, bc BK519.out 4, bc BK519.out 5⟩ (fun hHeld => ?_)
        clear hK K
        refine norm_ (a' := ?_) ?_ ?_
        rotate_left
        ·show Act.put _ (some 25) _ = _
         simp only [Act.put, y1, y2, y3, i64_w, i32_w]
         rfl
        exact norm_ s15_5 (hJ2_5_6_7 (gb528, gb529) _ ⟨hHeld, (zk BK518.out), (zk BK519.out), (zk BK520.out), (zk BK521.out), (zk BK528.out), (zk BK529.out), GW528.out, GE528.out, NB518_528.out, NB528_518.out, NB519_528.out, NB528_519.out, NB520_528.out, NB528_520.out, NB521_528.out, NB528_521.out, NB529_528.out, NB528_529.out, GW529.out, GE529.out, NB518_529.out, NB529_518.out, NB519_529.out, NB529_519.out, NB520_529.out, NB529_520.out, NB521_529.out, NB529_521.out, s15_1⟩)
      ·skip
       rintro gb529 w6 ⟨hS_, h0_, h1_, h2_, h3_, h4_, h5_, h6_, h7_, h8_, h9_, h10_, h11_, h12_, h13_, h14_, h15_⟩
       have n0_ : Aside0 (w6.heap[gb518]? = some (.cells #[.int .i64 a0_0, .int .i64 a0_1, .int .i64 a0_2, .int .i64 a0_3, .int .i64 a0_4, .int .i64 a0_5] 25 (0, 0))) := ⟨h0_⟩
       have n1_ : Aside0 (w6.heap[gb519]? = some (.cells #[.int .i64 a1_0, .int .i64 a1_1, .int .i64 a1_2, .int .i64 a1_3, .int .i64 a1_4, .int .i64 a1_5] 25 (0, 0))) := ⟨h1_⟩
       have n2_ : Aside0 (w6.heap[gb520]? = some (.cells #[.int .i64 0, .int .i64 0] 58 (0, 0))) := ⟨h2_⟩
       have n3_ : Aside0 (w6.heap[gb521]? = some (.cells #[.int .i64 0, .int .i64 0] 58 (0, 0))) := ⟨h3_⟩
       have n4_ : Aside0 (w6.heap[gb529]? = some (.cells #[.int .i64 0, .int .i64 0] 83 (0, 0))) := ⟨h4_⟩
       have n5_ : Aside0 (w.heap.size ≤ gb529) := ⟨h5_⟩
       have n6_ : Aside0 (w.heap.size ≤ gb529) := ⟨h6_⟩
       have n7_ : Aside0 (gb518 ≠ gb529) := ⟨h7_⟩
       have n8_ : Aside0 (gb529 ≠ gb518) := ⟨h8_⟩
       have n9_ : Aside0 (gb519 ≠ gb529) := ⟨h9_⟩
       have n10_ : Aside0 (gb529 ≠ gb519) := ⟨h10_⟩
       have n11_ : Aside0 (gb520 ≠ gb529) := ⟨h11_⟩
       have n12_ : Aside0 (gb529 ≠ gb520) := ⟨h12_⟩
       have n13_ : Aside0 (gb521 ≠ gb529) := ⟨h13_⟩
       have n14_ : Aside0 (gb529 ≠ gb521) := ⟨h14_⟩
       have n15_ : Aside0 (Below w.heap.size w w6) := ⟨h15_⟩
       clear BK518 BK519 BK520 BK521 HB h0_ h1_ h2_ h3_ h4_ h5_ h6_ h7_ h8_ h9_ h10_ h11_ h12_ h13_ h14_ h15_
       have BK518 := n0_
       have BK519 := n1_
       have BK520 := n2_
       have BK521 := n3_
       have BK529 := n4_
       have GW529 := n5_
       have GE529 := n6_
       have NB518_529 := n7_
       have NB529_518 := n8_
       have NB519_529 := n9_
       have NB529_519 := n10_
       have NB520_529 := n11_
       have NB529_520 := n12_
       have NB521_529 := n13_
       have NB529_521 := n14_
       have HB := n15_
       clear n0_ n1_ n2_ n3_ n4_ n5_ n6_ n7_ n8_ n9_ n10_ n11_ n12_ n13_ n14_ n15_
       have hHeld : w6.cell? ⟨gb518, 0, none⟩ = some (.int .i64 a0_0) ∧ w6.cell? ⟨gb518, 1, none⟩ = some (.int .i64 a0_1) ∧ w6.cell? ⟨gb518, 2, none⟩ = some (.int .i64 a0_2) ∧ w6.cell? ⟨gb518, 3, none⟩ = some (.int .i64 a0_3) ∧ w6.cell? ⟨gb518, 4, none⟩ = some (.int .i64 a0_4) ∧ w6.cell? ⟨gb518, 5, none⟩ = some (.int .i64 a0_5) ∧ w6.cell? ⟨gb519, 0, none⟩ = some (.int .i64 a1_0) ∧ w6.cell? ⟨gb519, 1, none⟩ = some (.int .i64 a1_1) ∧ w6.cell? ⟨gb519, 2, none⟩ = some (.int .i64 a1_2) ∧ w6.cell? ⟨gb519, 3, none⟩ = some (.int .i64 a1_3) ∧ w6.cell? ⟨gb519, 4, none⟩ = some (.int .i64 a1_4) ∧ w6.cell? ⟨gb519, 5, none⟩ = some (.int .i64 a1_5) := hS_
       refine norm_ (a' := ?_) ?_ ?_
       rotate_left
       ·exact t15_3
       refine one_ (i := 6) (N := some 7) (bz 10 255) rfl rfl (one_of HT_.out (by kernel_rfl)) (by decide) (fun K hK => ?_)
       refine box_step ?hg (N := 7) ?hd (cs := #[.int .i64 0, .int .i64 0]) (t := 83) ?hr ?_; (case hd => rfl); (case hg => rfl); (case hr => first | (go_simp; done) | (go_simp; rfl))
       intro gb528 hg w7 hbox hb
       have n0_ := Aside0.mk (bb (zk BK518.out) hb)
       have n1_ := Aside0.mk (bb (zk BK519.out) hb)
       have n2_ := Aside0.mk (bb (zk BK520.out) hb)
       have n3_ := Aside0.mk (bb (zk BK521.out) hb)
       have n4_ := Aside0.mk (bb (zk BK529.out) hb)
       have n5_ := Aside0.mk (below_step s15_3 hb)
       have n6_ := Aside0.mk (hbox)
       have n7_ := Aside0.mk (ns hg s15_3 : w.heap.size ≤ gb528)
       have n8_ := Aside0.mk (ns hg s15_3 : w.heap.size ≤ gb528)
       have n9_ := Aside0.mk ((nlt hg (zk BK518.out) : gb518 ≠ gb528))
       have n10_ := Aside0.mk ((ngt hg (zk BK518.out) : gb528 ≠ gb518))
       have n11_ := Aside0.mk ((nlt hg (zk BK519.out) : gb519 ≠ gb528))
       have n12_ := Aside0.mk ((ngt hg (zk BK519.out) : gb528 ≠ gb519))
       have n13_ := Aside0.mk ((nlt hg (zk BK520.out) : gb520 ≠ gb528))
       have n14_ := Aside0.mk ((ngt hg (zk BK520.out) : gb528 ≠ gb520))
       have n15_ := Aside0.mk ((nlt hg (zk BK521.out) : gb521 ≠ gb528))
       have n16_ := Aside0.mk ((ngt hg (zk BK521.out) : gb528 ≠ gb521))
       have n17_ := Aside0.mk ((nlt hg (zk BK529.out) : gb529 ≠ gb528))
       have n18_ := Aside0.mk ((ngt hg (zk BK529.out) : gb528 ≠ gb529))
       clear BK518 BK519 BK520 BK521 BK529 HB
       have BK518 := n0_
       have BK519 := n1_
       have BK520 := n2_
       have BK521 := n3_
       have BK529 := n4_
       have HB := n5_
       have BK528 := n6_
       have GW528 := n7_
       have GE528 := n8_
       have NB518_528 := n9_
       have NB528_518 := n10_
       have NB519_528 := n11_
       have NB528_519 := n12_
       have NB520_528 := n13_
       have NB528_520 := n14_
       have NB521_528 := n15_
       have NB528_521 := n16_
       have NB529_528 := n17_
       have NB528_529 := n18_
       clear n0_ n1_ n2_ n3_ n4_ n5_ n6_ n7_ n8_ n9_ n10_ n11_ n12_ n13_ n14_ n15_ n16_ n17_ n18_ hb hbox hg
       refine hK.out _ _ ⟨bc BK518.out 0, bc BK518.out 1, bc BK518.out 2, bc BK518.out 3, bc BK518.out 4, bc BK518.out 5, bc BK519.out 0, bc BK519.out 1, bc BK519.out 2, bc BK519.out 3, bc BK519.out 4, bc BK519.out 5⟩ (fun hHeld => ?_)
       clear hK K
       refine norm_ (a' := ?_) ?_ ?_
       rotate_left
       ·exact t15_1
       exact norm_ s15_5 (hJ2_5_6_7 (gb528, gb529) _ ⟨hHeld, (zk BK518.out), (zk BK519.out), (zk BK520.out), (zk BK521.out), (zk BK528.out), (zk BK529.out), GW528.out, GE528.out, NB518_528.out, NB528_518.out, NB519_528.out, NB528_519.out, NB520_528.out, NB528_520.out, NB521_528.out, NB528_521.out, NB529_528.out, NB528_529.out, GW529.out, GE529.out, NB518_529.out, NB529_518.out, NB519_529.out, NB529_519.out, NB520_529.out, NB529_520.out, NB521_529.out, NB529_521.out, s15_6⟩)
     ·skip
      rintro gb528 w6 ⟨hS_, h0_, h1_, h2_, h3_, h4_, h5_, h6_, h7_, h8_, h9_, h10_, h11_, h12_, h13_, h14_, h15_⟩
      have n0_ : Aside0 (w6.heap[gb518]? = some (.cells #[.int .i64 a0_0, .int .i64 a0_1, .int .i64 a0_2, .int .i64 a0_3, .int .i64 a0_4, .int .i64 a0_5] 25 (0, 0))) := ⟨h0_⟩
      have n1_ : Aside0 (w6.heap[gb519]? = some (.cells #[.int .i64 a1_0, .int .i64 a1_1, .int .i64 a1_2, .int .i64 a1_3, .int .i64 a1_4, .int .i64 a1_5] 25 (0, 0))) := ⟨h1_⟩
      have n2_ : Aside0 (w6.heap[gb520]? = some (.cells #[.int .i64 0, .int .i64 0] 58 (0, 0))) := ⟨h2_⟩
      have n3_ : Aside0 (w6.heap[gb521]? = some (.cells #[.int .i64 0, .int .i64 0] 58 (0, 0))) := ⟨h3_⟩
      have n4_ : Aside0 (w6.heap[gb528]? = some (.cells #[.int .i64 0, .int .i64 0] 83 (0, 0))) := ⟨h4_⟩
      have n5_ : Aside0 (w.heap.size ≤ gb528) := ⟨h5_⟩
      have n6_ : Aside0 (w.heap.size ≤ gb528) := ⟨h6_⟩
      have n7_ : Aside0 (gb518 ≠ gb528) := ⟨h7_⟩
      have n8_ : Aside0 (gb528 ≠ gb518) := ⟨h8_⟩
      have n9_ : Aside0 (gb519 ≠ gb528) := ⟨h9_⟩
      have n10_ : Aside0 (gb528 ≠ gb519) := ⟨h10_⟩
      have n11_ : Aside0 (gb520 ≠ gb528) := ⟨h11_⟩
      have n12_ : Aside0 (gb528 ≠ gb520) := ⟨h12_⟩
      have n13_ : Aside0 (gb521 ≠ gb528) := ⟨h13_⟩
      have n14_ : Aside0 (gb528 ≠ gb521) := ⟨h14_⟩
      have n15_ : Aside0 (Below w.heap.size w w6) := ⟨h15_⟩
      clear BK518 BK519 BK520 BK521 HB h0_ h1_ h2_ h3_ h4_ h5_ h6_ h7_ h8_ h9_ h10_ h11_ h12_ h13_ h14_ h15_
      have BK518 := n0_
      have BK519 := n1_
      have BK520 := n2_
      have BK521 := n3_
      have BK528 := n4_
      have GW528 := n5_
      have GE528 := n6_
      have NB518_528 := n7_
      have NB528_518 := n8_
      have NB519_528 := n9_
      have NB528_519 := n10_
      have NB520_528 := n11_
      have NB528_520 := n12_
      have NB521_528 := n13_
      have NB528_521 := n14_
      have HB := n15_
      clear n0_ n1_ n2_ n3_ n4_ n5_ n6_ n7_ n8_ n9_ n10_ n11_ n12_ n13_ n14_ n15_
      have hHeld : w6.cell? ⟨gb518, 0, none⟩ = some (.int .i64 a0_0) ∧ w6.cell? ⟨gb518, 1, none⟩ = some (.int .i64 a0_1) ∧ w6.cell? ⟨gb518, 2, none⟩ = some (.int .i64 a0_2) ∧ w6.cell? ⟨gb518, 3, none⟩ = some (.int .i64 a0_3) ∧ w6.cell? ⟨gb518, 4, none⟩ = some (.int .i64 a0_4) ∧ w6.cell? ⟨gb518, 5, none⟩ = some (.int .i64 a0_5) ∧ w6.cell? ⟨gb519, 0, none⟩ = some (.int .i64 a1_0) ∧ w6.cell? ⟨gb519, 1, none⟩ = some (.int .i64 a1_1) ∧ w6.cell? ⟨gb519, 2, none⟩ = some (.int .i64 a1_2) ∧ w6.cell? ⟨gb519, 3, none⟩ = some (.int .i64 a1_3) ∧ w6.cell? ⟨gb519, 4, none⟩ = some (.int .i64 a1_4) ∧ w6.cell? ⟨gb519, 5, none⟩ = some (.int .i64 a1_5) := hS_
      refine norm_ (a' := ?_) ?_ ?_
      rotate_left
      ·exact t15_3
      refine one_ (i := 7) (N := some 8) (bz 10 255) rfl rfl (one_of HT_.out (by kernel_rfl)) (by decide) (fun K hK => ?_)
      refine box_step ?hg (N := 8) ?hd (cs := #[.int .i64 0, .int .i64 0]) (t := 83) ?hr ?_; (case hd => rfl); (case hg => rfl); (case hr => first | (go_simp; done) | (go_simp; rfl))
      intro gb529 hg w7 hbox hb
      have n0_ := Aside0.mk (bb (zk BK518.out) hb)
      have n1_ := Aside0.mk (bb (zk BK519.out) hb)
      have n2_ := Aside0.mk (bb (zk BK520.out) hb)
      have n3_ := Aside0.mk (bb (zk BK521.out) hb)
      have n4_ := Aside0.mk (bb (zk BK528.out) hb)
      have n5_ := Aside0.mk (below_step s15_2 hb)
      have n6_ := Aside0.mk (hbox)
      have n7_ := Aside0.mk (ns hg s15_2 : w.heap.size ≤ gb529)
      have n8_ := Aside0.mk (ns hg s15_2 : w.heap.size ≤ gb529)
      have n9_ := Aside0.mk ((nlt hg (zk BK518.out) : gb518 ≠ gb529))
      have n10_ := Aside0.mk ((ngt hg (zk BK518.out) : gb529 ≠ gb518))
      have n11_ := Aside0.mk ((nlt hg (zk BK519.out) : gb519 ≠ gb529))
      have n12_ := Aside0.mk ((ngt hg (zk BK519.out) : gb529 ≠ gb519))
      have n13_ := Aside0.mk ((nlt hg (zk BK520.out) : gb520 ≠ gb529))
      have n14_ := Aside0.mk ((ngt hg (zk BK520.out) : gb529 ≠ gb520))
      have n15_ := Aside0.mk ((nlt hg (zk BK521.out) : gb521 ≠ gb529))
      have n16_ := Aside0.mk ((ngt hg (zk BK521.out) : gb529 ≠ gb521))
      have n17_ := Aside0.mk ((nlt hg (zk BK528.out) : gb528 ≠ gb529))
      have n18_ := Aside0.mk ((ngt hg (zk BK528.out) : gb529 ≠ gb528))
      clear BK518 BK519 BK520 BK521 BK528 HB
      have BK518 := n0_
      have BK519 := n1_
      have BK520 := n2_
      have BK521 := n3_
      have BK528 := n4_
      have HB := n5_
      have BK529 := n6_
      have GW529 := n7_
      have GE529 := n8_
      have NB518_529 := n9_
      have NB529_518 := n10_
      have NB519_529 := n11_
      have NB529_519 := n12_
      have NB520_529 := n13_
      have NB529_520 := n14_
      have NB521_529 := n15_
      have NB529_521 := n16_
      have NB528_529 := n17_
      have NB529_528 := n18_
      clear n0_ n1_ n2_ n3_ n4_ n5_ n6_ n7_ n8_ n9_ n10_ n11_ n12_ n13_ n14_ n15_ n16_ n17_ n18_ hb hbox hg
      refine hK.out _ _ ⟨bc BK518.out 0, bc BK518.out 1, bc BK518.out 2, bc BK518.out 3, bc BK518.out 4, bc BK518.out 5, bc BK519.out 0, bc BK519.out 1, bc BK519.out 2, bc BK519.out 3, bc BK519.out 4, bc BK519.out 5⟩ (fun hHeld => ?_)
      clear hK K
      refine norm_ (a' := ?_) ?_ ?_
      rotate_left
      ·exact t15_2
      exact norm_ s15_5 (hJ2_5_6_7 (gb528, gb529) _ ⟨hHeld, (zk BK518.out), (zk BK519.out), (zk BK520.out), (zk BK521.out), (zk BK528.out), (zk BK529.out), GW528.out, GE528.out, NB518_528.out, NB528_518.out, NB519_528.out, NB528_519.out, NB520_528.out, NB528_520.out, NB521_528.out, NB528_521.out, NB529_528.out, NB528_529.out, GW529.out, GE529.out, NB518_529.out, NB529_518.out, NB519_529.out, NB529_519.out, NB520_529.out, NB529_520.out, NB521_529.out, NB529_521.out, s15_1⟩)
    rintro ⟨gb528, gb529⟩ w6 ⟨hS_, h0_, h1_, h2_, h3_, h4_, h5_, h6_, h7_, h8_, h9_, h10_, h11_, h12_, h13_, h14_, h15_, h16_, h17_, h18_, h19_, h20_, h21_, h22_, h23_, h24_, h25_, h26_, h27_, h28_⟩
    have n0_ : Aside0 (w6.heap[gb518]? = some (.cells #[.int .i64 a0_0, .int .i64 a0_1, .int .i64 a0_2, .int .i64 a0_3, .int .i64 a0_4, .int .i64 a0_5] 25 (0, 0))) := ⟨h0_⟩
    have n1_ : Aside0 (w6.heap[gb519]? = some (.cells #[.int .i64 a1_0, .int .i64 a1_1, .int .i64 a1_2, .int .i64 a1_3, .int .i64 a1_4, .int .i64 a1_5] 25 (0, 0))) := ⟨h1_⟩
    have n2_ : Aside0 (w6.heap[gb520]? = some (.cells #[.int .i64 0, .int .i64 0] 58 (0, 0))) := ⟨h2_⟩
    have n3_ : Aside0 (w6.heap[gb521]? = some (.cells #[.int .i64 0, .int .i64 0] 58 (0, 0))) := ⟨h3_⟩
    have n4_ : Aside0 (w6.heap[gb528]? = some (.cells #[.int .i64 0, .int .i64 0] 83 (0, 0))) := ⟨h4_⟩
    have n5_ : Aside0 (w6.heap[gb529]? = some (.cells #[.int .i64 0, .int .i64 0] 83 (0, 0))) := ⟨h5_⟩
    have n6_ : Aside0 (w.heap.size ≤ gb528) := ⟨h6_⟩
    have n7_ : Aside0 (w.heap.size ≤ gb528) := ⟨h7_⟩
    have n8_ : Aside0 (gb518 ≠ gb528) := ⟨h8_⟩
    have n9_ : Aside0 (gb528 ≠ gb518) := ⟨h9_⟩
    have n10_ : Aside0 (gb519 ≠ gb528) := ⟨h10_⟩
    have n11_ : Aside0 (gb528 ≠ gb519) := ⟨h11_⟩
    have n12_ : Aside0 (gb520 ≠ gb528) := ⟨h12_⟩
    have n13_ : Aside0 (gb528 ≠ gb520) := ⟨h13_⟩
    have n14_ : Aside0 (gb521 ≠ gb528) := ⟨h14_⟩
    have n15_ : Aside0 (gb528 ≠ gb521) := ⟨h15_⟩
    have n16_ : Aside0 (gb529 ≠ gb528) := ⟨h16_⟩
    have n17_ : Aside0 (gb528 ≠ gb529) := ⟨h17_⟩
    have n18_ : Aside0 (w.heap.size ≤ gb529) := ⟨h18_⟩
    have n19_ : Aside0 (w.heap.size ≤ gb529) := ⟨h19_⟩
    have n20_ : Aside0 (gb518 ≠ gb529) := ⟨h20_⟩
    have n21_ : Aside0 (gb529 ≠ gb518) := ⟨h21_⟩
    have n22_ : Aside0 (gb519 ≠ gb529) := ⟨h22_⟩
    have n23_ : Aside0 (gb529 ≠ gb519) := ⟨h23_⟩
    have n24_ : Aside0 (gb520 ≠ gb529) := ⟨h24_⟩
    have n25_ : Aside0 (gb529 ≠ gb520) := ⟨h25_⟩
    have n26_ : Aside0 (gb521 ≠ gb529) := ⟨h26_⟩
    have n27_ : Aside0 (gb529 ≠ gb521) := ⟨h27_⟩
    have n28_ : Aside0 (Below w.heap.size w w6) := ⟨h28_⟩
    clear BK518 BK519 BK520 BK521 HB h0_ h1_ h2_ h3_ h4_ h5_ h6_ h7_ h8_ h9_ h10_ h11_ h12_ h13_ h14_ h15_ h16_ h17_ h18_ h19_ h20_ h21_ h22_ h23_ h24_ h25_ h26_ h27_ h28_
    have BK518 := n0_
    have BK519 := n1_
    have BK520 := n2_
    have BK521 := n3_
    have BK528 := n4_
    have BK529 := n5_
    have GW528 := n6_
    have GE528 := n7_
    have NB518_528 := n8_
    have NB528_518 := n9_
    have NB519_528 := n10_
    have NB528_519 := n11_
    have NB520_528 := n12_
    have NB528_520 := n13_
    have NB521_528 := n14_
    have NB528_521 := n15_
    have NB529_528 := n16_
    have NB528_529 := n17_
    have GW529 := n18_
    have GE529 := n19_
    have NB518_529 := n20_
    have NB529_518 := n21_
    have NB519_529 := n22_
    have NB529_519 := n23_
    have NB520_529 := n24_
    have NB529_520 := n25_
    have NB521_529 := n26_
    have NB529_521 := n27_
    have HB := n28_
    clear n0_ n1_ n2_ n3_ n4_ n5_ n6_ n7_ n8_ n9_ n10_ n11_ n12_ n13_ n14_ n15_ n16_ n17_ n18_ n19_ n20_ n21_ n22_ n23_ n24_ n25_ n26_ n27_ n28_
    have hHeld : w6.cell? ⟨gb518, 0, none⟩ = some (.int .i64 a0_0) ∧ w6.cell? ⟨gb518, 1, none⟩ = some (.int .i64 a0_1) ∧ w6.cell? ⟨gb518, 2, none⟩ = some (.int .i64 a0_2) ∧ w6.cell? ⟨gb518, 3, none⟩ = some (.int .i64 a0_3) ∧ w6.cell? ⟨gb518, 4, none⟩ = some (.int .i64 a0_4) ∧ w6.cell? ⟨gb518, 5, none⟩ = some (.int .i64 a0_5) ∧ w6.cell? ⟨gb519, 0, none⟩ = some (.int .i64 a1_0) ∧ w6.cell? ⟨gb519, 1, none⟩ = some (.int .i64 a1_1) ∧ w6.cell? ⟨gb519, 2, none⟩ = some (.int .i64 a1_2) ∧ w6.cell? ⟨gb519, 3, none⟩ = some (.int .i64 a1_3) ∧ w6.cell? ⟨gb519, 4, none⟩ = some (.int .i64 a1_4) ∧ w6.cell? ⟨gb519, 5, none⟩ = some (.int .i64 a1_5) := hS_
    refine norm_ (a' := ?_) ?_ ?_
    rotate_left
    ·exact t15_3
    refine one_ (i := 8) (N := none) (bz 10 511) rfl rfl (one_of HT_.out (by kernel_rfl)) (by decide) (fun K hK => ?_)
    have hs42 : w6.cell? ⟨gb528, 0, none⟩ = some (.int .i64 0) := bc BK528.out 0
    have hfs42 := blk_frozen BK528.out 0
    have hns42_0 := NB518_528.out
    have hns42_1 := NB519_528.out
    have hns42_2 := NB520_528.out
    have hns42_3 := NB521_528.out
    have hns42_5 := NB529_528.out
    have hms42_0 := NB528_518.out
    have hms42_1 := NB528_519.out
    have hms42_2 := NB528_520.out
    have hms42_3 := NB528_521.out
    have hms42_5 := NB528_529.out
    have hs43 : w6.cell? ⟨gb528, 1, none⟩ = some (.int .i64 0) := bc BK528.out 1
    have hfs43 := blk_frozen BK528.out 1
    have hns43_0 := NB518_528.out
    have hns43_1 := NB519_528.out
    have hns43_2 := NB520_528.out
    have hns43_3 := NB521_528.out
    have hns43_5 := NB529_528.out
    have hms43_0 := NB528_518.out
    have hms43_1 := NB528_519.out
    have hms43_2 := NB528_520.out
    have hms43_3 := NB528_521.out
    have hms43_5 := NB528_529.out
    refine skip_ (w1 := ?_) (by rfl) rfl ?_ ?_
    rotate_left
    ·go_simp
     rfl
    refine hK.out _ _ ⟨((cell_far (p := ⟨gb528, _, none⟩) NB518_528.out _).trans (((cell_far (p := ⟨gb528, _, none⟩) NB518_528.out _).trans (hHeld.1)))), ((cell_far (p := ⟨gb528, _, none⟩) NB518_528.out _).trans (((cell_far (p := ⟨gb528, _, none⟩) NB518_528.out _).trans (hHeld.2.1)))), ((cell_far (p := ⟨gb528, _, none⟩) NB518_528.out _).trans (((cell_far (p := ⟨gb528, _, none⟩) NB518_528.out _).trans (hHeld.2.2.1)))), ((cell_far (p := ⟨gb528, _, none⟩) NB518_528.out _).trans (((cell_far (p := ⟨gb528, _, none⟩) NB518_528.out _).trans (hHeld.2.2.2.1)))), ((cell_far (p := ⟨gb528, _, none⟩) NB518_528.out _).trans (((cell_far (p := ⟨gb528, _, none⟩) NB518_528.out _).trans (hHeld.2.2.2.2.1)))), ((cell_far (p := ⟨gb528, _, none⟩) NB518_528.out _).trans (((cell_far (p := ⟨gb528, _, none⟩) NB518_528.out _).trans (hHeld.2.2.2.2.2.1)))), ((cell_far (p := ⟨gb528, _, none⟩) NB519_528.out _).trans (((cell_far (p := ⟨gb528, _, none⟩) NB519_528.out _).trans (hHeld.2.2.2.2.2.2.1)))), ((cell_far (p := ⟨gb528, _, none⟩) NB519_528.out _).trans (((cell_far (p := ⟨gb528, _, none⟩) NB519_528.out _).trans (hHeld.2.2.2.2.2.2.2.1)))), ((cell_far (p := ⟨gb528, _, none⟩) NB519_528.out _).trans (((cell_far (p := ⟨gb528, _, none⟩) NB519_528.out _).trans (hHeld.2.2.2.2.2.2.2.2.1)))), ((cell_far (p := ⟨gb528, _, none⟩) NB519_528.out _).trans (((cell_far (p := ⟨gb528, _, none⟩) NB519_528.out _).trans (hHeld.2.2.2.2.2.2.2.2.2.1)))), ((cell_far (p := ⟨gb528, _, none⟩) NB519_528.out _).trans (((cell_far (p := ⟨gb528, _, none⟩) NB519_528.out _).trans (hHeld.2.2.2.2.2.2.2.2.2.2.1)))), ((cell_far (p := ⟨gb528, _, none⟩) NB519_528.out _).trans (((cell_far (p := ⟨gb528, _, none⟩) NB519_528.out _).trans (hHeld.2.2.2.2.2.2.2.2.2.2.2))))⟩ (fun hHeld => ?_)
    clear hK K
    refine one_ (i := 9) (N := none) (bz 10 1023) rfl rfl (one_of HT_.out (by kernel_rfl)) (by decide) (fun K hK => ?_)
    have hs44 : w6.cell? ⟨gb529, 0, none⟩ = some (.int .i64 0) := bc BK529.out 0
    have hfs44 := blk_frozen BK529.out 0
    have hns44_0 := NB518_529.out
    have hns44_1 := NB519_529.out
    have hns44_2 := NB520_529.out
    have hns44_3 := NB521_529.out
    have hns44_4 := NB528_529.out
    have hms44_0 := NB529_518.out
    have hms44_1 := NB529_519.out
    have hms44_2 := NB529_520.out
    have hms44_3 := NB529_521.out
    have hms44_4 := NB529_528.out
    have hs45 : w6.cell? ⟨gb529, 1, none⟩ = some (.int .i64 0) := bc BK529.out 1
    have hfs45 := blk_frozen BK529.out 1
    have hns45_0 := NB518_529.out
    have hns45_1 := NB519_529.out
    have hns45_2 := NB520_529.out
    have hns45_3 := NB521_529.out
    have hns45_4 := NB528_529.out
    have hms45_0 := NB529_518.out
    have hms45_1 := NB529_519.out
    have hms45_2 := NB529_520.out
    have hms45_3 := NB529_521.out
    have hms45_4 := NB529_528.out
    refine skip_ (w1 := ?_) (by rfl) rfl ?_ ?_
    rotate_left
    ·go_simp
     rfl
    refine hK.out _ _ ⟨((cell_far (p := ⟨gb529, _, none⟩) NB518_529.out _).trans (((cell_far (p := ⟨gb529, _, none⟩) NB518_529.out _).trans (hHeld.1)))), ((cell_far (p := ⟨gb529, _, none⟩) NB518_529.out _).trans (((cell_far (p := ⟨gb529, _, none⟩) NB518_529.out _).trans (hHeld.2.1)))), ((cell_far (p := ⟨gb529, _, none⟩) NB518_529.out _).trans (((cell_far (p := ⟨gb529, _, none⟩) NB518_529.out _).trans (hHeld.2.2.1)))), ((cell_far (p := ⟨gb529, _, none⟩) NB518_529.out _).trans (((cell_far (p := ⟨gb529, _, none⟩) NB518_529.out _).trans (hHeld.2.2.2.1)))), ((cell_far (p := ⟨gb529, _, none⟩) NB518_529.out _).trans (((cell_far (p := ⟨gb529, _, none⟩) NB518_529.out _).trans (hHeld.2.2.2.2.1)))), ((cell_far (p := ⟨gb529, _, none⟩) NB518_529.out _).trans (((cell_far (p := ⟨gb529, _, none⟩) NB518_529.out _).trans (hHeld.2.2.2.2.2.1)))), ((cell_far (p := ⟨gb529, _, none⟩) NB519_529.out _).trans (((cell_far (p := ⟨gb529, _, none⟩) NB519_529.out _).trans (hHeld.2.2.2.2.2.2.1)))), ((cell_far (p := ⟨gb529, _, none⟩) NB519_529.out _).trans (((cell_far (p := ⟨gb529, _, none⟩) NB519_529.out _).trans (hHeld.2.2.2.2.2.2.2.1)))), ((cell_far (p := ⟨gb529, _, none⟩) NB519_529.out _).trans (((cell_far (p := ⟨gb529, _, none⟩) NB519_529.out _).trans (hHeld.2.2.2.2.2.2.2.2.1)))), ((cell_far (p := ⟨gb529, _, none⟩) NB519_529.out _).trans (((cell_far (p := ⟨gb529, _, none⟩) NB519_529.out _).trans (hHeld.2.2.2.2.2.2.2.2.2.1)))), ((cell_far (p := ⟨gb529, _, none⟩) NB519_529.out _).trans (((cell_far (p := ⟨gb529, _, none⟩) NB519_529.out _).trans (hHeld.2.2.2.2.2.2.2.2.2.2.1)))), ((cell_far (p := ⟨gb529, _, none⟩) NB519_529.out _).trans (((cell_far (p := ⟨gb529, _, none⟩) NB519_529.out _).trans (hHeld.2.2.2.2.2.2.2.2.2.2.2))))⟩ (fun hHeld => ?_)
    clear hK K
    refine done_ (done_of HT_.out (by kernel_rfl)) ?_
    go_upto_region 4 with (fail)
    go_cut [35] (fun v35 wc => ∃ (kq : Nat) (x35_34 : Bool), v35 = .bool x35_34 ∧ Aside0 (spec_Closest.j1 kq x35_34 t524 t525 t526 t527 = some (r1, r2, r3, r4, r5)) ∧ Aside0 (kq ≤ kj2) ∧ Aside0 (wc.heap[gb518]? = some (.cells #[.int .i64 a0_0, .int .i64 a0_1, .int .i64 a0_2, .int .i64 a0_3, .int .i64 a0_4, .int .i64 a0_5] 25 (0, 0))) ∧ Aside0 (wc.heap[gb519]? = some (.cells #[.int .i64 a1_0, .int .i64 a1_1, .int .i64 a1_2, .int .i64 a1_3, .int .i64 a1_4, .int .i64 a1_5] 25 (0, 0))) ∧ Aside0 (wc.heap[gb520]? = some (.cells #[.int .i64 0, .int .i64 0] 58 (0, 0))) ∧ Aside0 (wc.heap[gb521]? = some (.cells #[.int .i64 0, .int .i64 0] 58 (0, 0))) ∧ Aside0 (wc.heap[gb528]? = some (.cells #[.int .i64 t524, .int .i64 t525] 83 (0, 0))) ∧ Aside0 (wc.heap[gb529]? = some (.cells #[.int .i64 t526, .int .i64 t527] 83 (0, 0))) ∧ Aside0 (Below w.heap.size w wc))
    case first =>
     have H := HC35.out
     clear HC35
     replace H := Option.bind_eq_some_iff.mp H
     obtain ⟨t530, A460, H⟩ := H
     replace H : (if t530 = 0 then (spec_Closest.j1 kj2 true t524 t525 t526 t527) else ((spec_l8Dot.f t524 t525 t526 t527).bind fun t531 => (spec_Closest.j1 kj2 (decide (t531 > 0)) t524 t525 t526 t527))) = some (r1, r2, r3, r4, r5) := H
     have A46 := Aside0.mk A460
     clear A460
     by_cases c47 : t530 = 0
     ·rw [if_pos c47] at H
      have c47b0 : (t530 == 0) = true := beq_iff_eq.mpr c47
      have c47b1 : (t530 != 0) = false := bne_eq_false_iff_eq.mpr c47
      clear c47
      (first | rw [c47b0] | (simp only [i64_w, i32_w]; rw [c47b0]) | skip)
      have H' := Aside0.mk H
      clear H
      have hnb48 := NB529_518.out
      have hnc48 := NB518_529.out
      have hnb49 := NB529_519.out
      have hnc49 := NB519_529.out
      have hnb50 := NB529_520.out
      have hnc50 := NB520_529.out
      have hnb51 := NB529_521.out
      have hnc51 := NB521_529.out
      have hnb52 := NB529_528.out
      have hnc52 := NB528_529.out
      have hcz53_0 : w6.cell? ⟨gb529, 0, none⟩ = some (.int .i64 0) := bc BK529.out 0
      have hcz53_1 : w6.cell? ⟨gb529, 1, none⟩ = some (.int .i64 0) := bc BK529.out 1
      have hfz53_0 := blk_frozen BK529.out 0
      have hfz53_1 := blk_frozen BK529.out 1
      go_wp2_with (first | ((with_reducible refine gate_callee (f := 68) rfl ?_); refine goesL_ (some 28) rfl rfl Try.func68 (by kernel_rfl) rfl #[.agg #[.int .i64 t526, .int .i64 t527], .agg #[.int .i64 t526, .int .i64 t527]] rfl s15_4 ?_; (with_reducible refine (spec_l8Dot.calls t526 t527 t526 t527 t530 _ A46.out).mono ?_); rintro e w7 ⟨rfl, hb⟩; refine ⟨_, rfl, ?_⟩; have n0_ := Aside0.mk (blk_below (g := gb518) (o := .cells #[.int .i64 a0_0, .int .i64 a0_1, .int .i64 a0_2, .int .i64 a0_3, .int .i64 a0_4, .int .i64 a0_5] 25 (0, 0)) (by (with_reducible repeat (first | refine blk_drewN ?_ _ | refine blk_drew ?_ | refine blk_alloc ?_ _)); refine blk_far ?_ NB518_529.out _; (with_reducible repeat (first | refine blk_drewN ?_ _ | refine blk_drew ?_ | refine blk_alloc ?_ _)); refine blk_far ?_ NB518_529.out _; (with_reducible repeat (first | refine blk_drewN ?_ _ | refine blk_drew ?_ | refine blk_alloc ?_ _)); refine blk_far ?_ NB518_528.out _; (with_reducible repeat (first | refine blk_drewN ?_ _ | refine blk_drew ?_ | refine blk_alloc ?_ _)); refine blk_far ?_ NB518_528.out _; (with_reducible repeat (first | refine blk_drewN ?_ _ | refine blk_drew ?_ | refine blk_alloc ?_ _)); exact BK518.out) hb); have n1_ := Aside0.mk (blk_below (g := gb519) (o := .cells #[.int .i64 a1_0, .int .i64 a1_1, .int .i64 a1_2, .int .i64 a1_3, .int .i64 a1_4, .int .i64 a1_5] 25 (0, 0)) (by (with_reducible repeat (first | refine blk_drewN ?_ _ | refine blk_drew ?_ | refine blk_alloc ?_ _)); refine blk_far ?_ NB519_529.out _; (with_reducible repeat (first | refine blk_drewN ?_ _ | refine blk_drew ?_ | refine blk_alloc ?_ _)); refine blk_far ?_ NB519_529.out _; (with_reducible repeat (first | refine blk_drewN ?_ _ | refine blk_drew ?_ | refine blk_alloc ?_ _)); refine blk_far ?_ NB519_528.out _; (with_reducible repeat (first | refine blk_drewN ?_ _ | refine blk_drew ?_ | refine blk_alloc ?_ _)); refine blk_far ?_ NB519_528.out _; (with_reducible repeat (first | refine blk_drewN ?_ _ | refine blk_drew ?_ | refine blk_alloc ?_ _)); exact BK519.out) hb); have n2_ := Aside0.mk (blk_below (g := gb520) (o := .cells #[.int .i64 0, .int .i64 0] 58 (0, 0)) (by (with_reducible repeat (first | refine blk_drewN ?_ _ | refine blk_drew ?_ | refine blk_alloc ?_ _)); refine blk_far ?_ NB520_529.out _; (with_reducible repeat (first | refine blk_drewN ?_ _ | refine blk_drew ?_ | refine blk_alloc ?_ _)); refine blk_far ?_ NB520_529.out _; (with_reducible repeat (first | refine blk_drewN ?_ _ | refine blk_drew ?_ | refine blk_alloc ?_ _)); refine blk_far ?_ NB520_528.out _; (with_reducible repeat (first | refine blk_drewN ?_ _ | refine blk_drew ?_ | refine blk_alloc ?_ _)); refine blk_far ?_ NB520_528.out _; (with_reducible repeat (first | refine blk_drewN ?_ _ | refine blk_drew ?_ | refine blk_alloc ?_ _)); exact BK520.out) hb); have n3_ := Aside0.mk (blk_below (g := gb521) (o := .cells #[.int .i64 0, .int .i64 0] 58 (0, 0)) (by (with_reducible repeat (first | refine blk_drewN ?_ _ | refine blk_drew ?_ | refine blk_alloc ?_ _)); refine blk_far ?_ NB521_529.out _; (with_reducible repeat (first | refine blk_drewN ?_ _ | refine blk_drew ?_ | refine blk_alloc ?_ _)); refine blk_far ?_ NB521_529.out _; (with_reducible repeat (first | refine blk_drewN ?_ _ | refine blk_drew ?_ | refine blk_alloc ?_ _)); refine blk_far ?_ NB521_528.out _; (with_reducible repeat (first | refine blk_drewN ?_ _ | refine blk_drew ?_ | refine blk_alloc ?_ _)); refine blk_far ?_ NB521_528.out _; (with_reducible repeat (first | refine blk_drewN ?_ _ | refine blk_drew ?_ | refine blk_alloc ?_ _)); exact BK521.out) hb); have n4_ := Aside0.mk (blk_below (g := gb528) (o := .cells #[.int .i64 t524, .int .i64 t525] 83 (0, 0)) (by (with_reducible repeat (first | refine blk_drewN ?_ _ | refine blk_drew ?_ | refine blk_alloc ?_ _)); refine blk_far ?_ NB528_529.out _; (with_reducible repeat (first | refine blk_drewN ?_ _ | refine blk_drew ?_ | refine blk_alloc ?_ _)); refine blk_far ?_ NB528_529.out _; (with_reducible repeat (first | refine blk_drewN ?_ _ | refine blk_drew ?_ | refine blk_alloc ?_ _)); refine blk_put (cs := #[.int .i64 t524, .int .i64 0]) ?_ 1 _ rfl; (with_reducible repeat (first | refine blk_drewN ?_ _ | refine blk_drew ?_ | refine blk_alloc ?_ _)); refine blk_put (cs := #[.int .i64 0, .int .i64 0]) ?_ 0 _ rfl; (with_reducible repeat (first | refine blk_drewN ?_ _ | refine blk_drew ?_ | refine blk_alloc ?_ _)); exact BK528.out) hb); have n5_ := Aside0.mk (blk_below (g := gb529) (o := .cells #[.int .i64 t526, .int .i64 t527] 83 (0, 0)) (by (with_reducible repeat (first | refine blk_drewN ?_ _ | refine blk_drew ?_ | refine blk_alloc ?_ _)); refine blk_put (cs := #[.int .i64 t526, .int .i64 0]) ?_ 1 _ rfl; (with_reducible repeat (first | refine blk_drewN ?_ _ | refine blk_drew ?_ | refine blk_alloc ?_ _)); refine blk_put (cs := #[.int .i64 0, .int .i64 0]) ?_ 0 _ rfl; (with_reducible repeat (first | refine blk_drewN ?_ _ | refine blk_drew ?_ | refine blk_alloc ?_ _)); refine blk_far ?_ NB529_528.out _; (with_reducible repeat (first | refine blk_drewN ?_ _ | refine blk_drew ?_ | refine blk_alloc ?_ _)); refine blk_far ?_ NB529_528.out _; (with_reducible repeat (first | refine blk_drewN ?_ _ | refine blk_drew ?_ | refine blk_alloc ?_ _)); exact BK529.out) hb); have n6_ := Aside0.mk (below_step s15_1 hb); clear BK518; clear BK519; clear BK520; clear BK521; clear BK528; clear BK529; clear HB; have BK518 := n0_; have BK519 := n1_; have BK520 := n2_; have BK521 := n3_; have BK528 := n4_; have BK529 := n5_; have HB := n6_; clear n0_ n1_ n2_ n3_ n4_ n5_ n6_; (try clear hb); (try clear hb2); (try clear hk); (try clear hi)))
      go_meet
      case rel => exact ⟨_, (true), (by first | rfl | (simp; done) | (simp [*]; done)), H', ⟨by have := HJ2.out; first | omega | exact Nat.le_refl _⟩, ⟨by (with_reducible repeat (first | refine blk_drewN ?_ _ | refine blk_drew ?_ | refine blk_alloc ?_ _)); exact BK518.out⟩, ⟨by (with_reducible repeat (first | refine blk_drewN ?_ _ | refine blk_drew ?_ | refine blk_alloc ?_ _)); exact BK519.out⟩, ⟨by (with_reducible repeat (first | refine blk_drewN ?_ _ | refine blk_drew ?_ | refine blk_alloc ?_ _)); exact BK520.out⟩, ⟨by (with_reducible repeat (first | refine blk_drewN ?_ _ | refine blk_drew ?_ | refine blk_alloc ?_ _)); exact BK521.out⟩, ⟨by (with_reducible repeat (first | refine blk_drewN ?_ _ | refine blk_drew ?_ | refine blk_alloc ?_ _)); exact BK528.out⟩, ⟨by (with_reducible repeat (first | refine blk_drewN ?_ _ | refine blk_drew ?_ | refine blk_alloc ?_ _)); exact BK529.out⟩, ⟨by repeat (first | (with_reducible first | exact HB.out | apply below_alloc | apply pw_below_drewN | apply below_drew1 | refine below_set ?_ GE518.out | refine below_set ?_ GE519.out | refine below_set ?_ GE520.out | refine below_set ?_ GE521.out | refine below_set ?_ GE528.out | refine below_set ?_ GE529.out) | exact HB.out)⟩⟩
     ·rw [if_neg c47] at H
      have c47b0 : (t530 == 0) = false := beq_eq_false_iff_ne.mpr c47
      have c47b1 : (t530 != 0) = true := bne_iff_ne.mpr c47
      (first | rw [c47b0] | (simp only [i64_w, i32_w]; rw [c47b0]) | skip)
      replace H := Option.bind_eq_some_iff.mp H
      obtain ⟨t531, A550, H⟩ := H
      replace H : (spec_Closest.j1 kj2 (decide (t531 > 0)) t524 t525 t526 t527) = some (r1, r2, r3, r4, r5) := H
      have A55 := Aside0.mk A550
      clear A550
      have H' := Aside0.mk H
      clear H
      have hnb56 := NB529_518.out
      have hnc56 := NB518_529.out
      have hnb57 := NB529_519.out
      have hnc57 := NB519_529.out
      have hnb58 := NB529_520.out
      have hnc58 := NB520_529.out
      have hnb59 := NB529_521.out
      have hnc59 := NB521_529.out
      have hnb60 := NB529_528.out
      have hnc60 := NB528_529.out
      have hcz61_0 : w6.cell? ⟨gb529, 0, none⟩ = some (.int .i64 0) := bc BK529.out 0
      have hcz61_1 : w6.cell? ⟨gb529, 1, none⟩ = some (.int .i64 0) := bc BK529.out 1
      have hfz61_0 := blk_frozen BK529.out 0
      have hfz61_1 := blk_frozen BK529.out 1
      go_wp2_with (first | ((with_reducible refine gate_callee (f := 68) rfl ?_); refine goesL_ (some 28) rfl rfl Try.func68 (by kernel_rfl) rfl #[.agg #[.int .i64 t526, .int .i64 t527], .agg #[.int .i64 t526, .int .i64 t527]] rfl s15_4 ?_; (with_reducible refine (spec_l8Dot.calls t526 t527 t526 t527 t530 _ A46.out).mono ?_); rintro e w7 ⟨rfl, hb⟩; refine ⟨_, rfl, ?_⟩; have n0_ := Aside0.mk (blk_below (g := gb518) (o := .cells #[.int .i64 a0_0, .int .i64 a0_1, .int .i64 a0_2, .int .i64 a0_3, .int .i64 a0_4, .int .i64 a0_5] 25 (0, 0)) (by (with_reducible repeat (first | refine blk_drewN ?_ _ | refine blk_drew ?_ | refine blk_alloc ?_ _)); refine blk_far ?_ NB518_529.out _; (with_reducible repeat (first | refine blk_drewN ?_ _ | refine blk_drew ?_ | refine blk_alloc ?_ _)); refine blk_far ?_ NB518_529.out _; (with_reducible repeat (first | refine blk_drewN ?_ _ | refine blk_drew ?_ | refine blk_alloc ?_ _)); refine blk_far ?_ NB518_528.out _; (with_reducible repeat (first | refine blk_drewN ?_ _ | refine blk_drew ?_ | refine blk_alloc ?_ _)); refine blk_far ?_ NB518_528.out _; (with_reducible repeat (first | refine blk_drewN ?_ _ | refine blk_drew ?_ | refine blk_alloc ?_ _)); exact BK518.out) hb); have n1_ := Aside0.mk (blk_below (g := gb519) (o := .cells #[.int .i64 a1_0, .int .i64 a1_1, .int .i64 a1_2, .int .i64 a1_3, .int .i64 a1_4, .int .i64 a1_5] 25 (0, 0)) (by (with_reducible repeat (first | refine blk_drewN ?_ _ | refine blk_drew ?_ | refine blk_alloc ?_ _)); refine blk_far ?_ NB519_529.out _; (with_reducible repeat (first | refine blk_drewN ?_ _ | refine blk_drew ?_ | refine blk_alloc ?_ _)); refine blk_far ?_ NB519_529.out _; (with_reducible repeat (first | refine blk_drewN ?_ _ | refine blk_drew ?_ | refine blk_alloc ?_ _)); refine blk_far ?_ NB519_528.out _; (with_reducible repeat (first | refine blk_drewN ?_ _ | refine blk_drew ?_ | refine blk_alloc ?_ _)); refine blk_far ?_ NB519_528.out _; (with_reducible repeat (first | refine blk_drewN ?_ _ | refine blk_drew ?_ | refine blk_alloc ?_ _)); exact BK519.out) hb); have n2_ := Aside0.mk (blk_below (g := gb520) (o := .cells #[.int .i64 0, .int .i64 0] 58 (0, 0)) (by (with_reducible repeat (first | refine blk_drewN ?_ _ | refine blk_drew ?_ | refine blk_alloc ?_ _)); refine blk_far ?_ NB520_529.out _; (with_reducible repeat (first | refine blk_drewN ?_ _ | refine blk_drew ?_ | refine blk_alloc ?_ _)); refine blk_far ?_ NB520_529.out _; (with_reducible repeat (first | refine blk_drewN ?_ _ | refine blk_drew ?_ | refine blk_alloc ?_ _)); refine blk_far ?_ NB520_528.out _; (with_reducible repeat (first | refine blk_drewN ?_ _ | refine blk_drew ?_ | refine blk_alloc ?_ _)); refine blk_far ?_ NB520_528.out _; (with_reducible repeat (first | refine blk_drewN ?_ _ | refine blk_drew ?_ | refine blk_alloc ?_ _)); exact BK520.out) hb); have n3_ := Aside0.mk (blk_below (g := gb521) (o := .cells #[.int .i64 0, .int .i64 0] 58 (0, 0)) (by (with_reducible repeat (first | refine blk_drewN ?_ _ | refine blk_drew ?_ | refine blk_alloc ?_ _)); refine blk_far ?_ NB521_529.out _; (with_reducible repeat (first | refine blk_drewN ?_ _ | refine blk_drew ?_ | refine blk_alloc ?_ _)); refine blk_far ?_ NB521_529.out _; (with_reducible repeat (first | refine blk_drewN ?_ _ | refine blk_drew ?_ | refine blk_alloc ?_ _)); refine blk_far ?_ NB521_528.out _; (with_reducible repeat (first | refine blk_drewN ?_ _ | refine blk_drew ?_ | refine blk_alloc ?_ _)); refine blk_far ?_ NB521_528.out _; (with_reducible repeat (first | refine blk_drewN ?_ _ | refine blk_drew ?_ | refine blk_alloc ?_ _)); exact BK521.out) hb); have n4_ := Aside0.mk (blk_below (g := gb528) (o := .cells #[.int .i64 t524, .int .i64 t525] 83 (0, 0)) (by (with_reducible repeat (first | refine blk_drewN ?_ _ | refine blk_drew ?_ | refine blk_alloc ?_ _)); refine blk_far ?_ NB528_529.out _; (with_reducible repeat (first | refine blk_drewN ?_ _ | refine blk_drew ?_ | refine blk_alloc ?_ _)); refine blk_far ?_ NB528_529.out _; (with_reducible repeat (first | refine blk_drewN ?_ _ | refine blk_drew ?_ | refine blk_alloc ?_ _)); refine blk_put (cs := #[.int .i64 t524, .int .i64 0]) ?_ 1 _ rfl; (with_reducible repeat (first | refine blk_drewN ?_ _ | refine blk_drew ?_ | refine blk_alloc ?_ _)); refine blk_put (cs := #[.int .i64 0, .int .i64 0]) ?_ 0 _ rfl; (with_reducible repeat (first | refine blk_drewN ?_ _ | refine blk_drew ?_ | refine blk_alloc ?_ _)); exact BK528.out) hb); have n5_ := Aside0.mk (blk_below (g := gb529) (o := .cells #[.int .i64 t526, .int .i64 t527] 83 (0, 0)) (by (with_reducible repeat (first | refine blk_drewN ?_ _ | refine blk_drew ?_ | refine blk_alloc ?_ _)); refine blk_put (cs := #[.int .i64 t526, .int .i64 0]) ?_ 1 _ rfl; (with_reducible repeat (first | refine blk_drewN ?_ _ | refine blk_drew ?_ | refine blk_alloc ?_ _)); refine blk_put (cs := #[.int .i64 0, .int .i64 0]) ?_ 0 _ rfl; (with_reducible repeat (first | refine blk_drewN ?_ _ | refine blk_drew ?_ | refine blk_alloc ?_ _)); refine blk_far ?_ NB529_528.out _; (with_reducible repeat (first | refine blk_drewN ?_ _ | refine blk_drew ?_ | refine blk_alloc ?_ _)); refine blk_far ?_ NB529_528.out _; (with_reducible repeat (first | refine blk_drewN ?_ _ | refine blk_drew ?_ | refine blk_alloc ?_ _)); exact BK529.out) hb); have n6_ := Aside0.mk (below_step s15_1 hb); clear BK518; clear BK519; clear BK520; clear BK521; clear BK528; clear BK529; clear HB; have BK518 := n0_; have BK519 := n1_; have BK520 := n2_; have BK521 := n3_; have BK528 := n4_; have BK529 := n5_; have HB := n6_; clear n0_ n1_ n2_ n3_ n4_ n5_ n6_; (try clear hb); (try clear hb2); (try clear hk); (try clear hi); have hnb63 := NB528_518.out; have hnc63 := NB518_528.out; have hnb64 := NB528_519.out; have hnc64 := NB519_528.out; have hnb65 := NB528_520.out; have hnc65 := NB520_528.out; have hnb66 := NB528_521.out; have hnc66 := NB521_528.out; have hcz67_0 : w7.cell? ⟨gb528, 0, none⟩ = some (.int .i64 t524) := bc BK528.out 0; have hcz67_1 : w7.cell? ⟨gb528, 1, none⟩ = some (.int .i64 t525) := bc BK528.out 1; have hfz67_0 := blk_frozen BK528.out 0; have hfz67_1 := blk_frozen BK528.out 1; have hcz68_0 : w7.cell? ⟨gb529, 0, none⟩ = some (.int .i64 t526) := bc BK529.out 0; have hcz68_1 : w7.cell? ⟨gb529, 1, none⟩ = some (.int .i64 t527) := bc BK529.out 1; have hfz68_0 := blk_frozen BK529.out 0; have hfz68_1 := blk_frozen BK529.out 1) | (go_at_call 68; (with_reducible refine (spec_l8Dot.calls t524 t525 t526 t527 t531 _ A55.out).mono ?_); rintro e w8 ⟨rfl, hb⟩; have n0_ := Aside0.mk (bb (zk BK518.out) hb); have n1_ := Aside0.mk (bb (zk BK519.out) hb); have n2_ := Aside0.mk (bb (zk BK520.out) hb); have n3_ := Aside0.mk (bb (zk BK521.out) hb); have n4_ := Aside0.mk (bb (zk BK528.out) hb); have n5_ := Aside0.mk (bb (zk BK529.out) hb); have n6_ := Aside0.mk (below_step s15_1 hb); clear BK518; clear BK519; clear BK520; clear BK521; clear BK528; clear BK529; clear HB; have BK518 := n0_; have BK519 := n1_; have BK520 := n2_; have BK521 := n3_; have BK528 := n4_; have BK529 := n5_; have HB := n6_; clear n0_ n1_ n2_ n3_ n4_ n5_ n6_; (try clear hb); (try clear hb2); (try clear hk); (try clear hi)))
      go_meet
      case rel => exact ⟨_, (decide (t531 > 0)), (by first | rfl | (simp; done) | (simp [*]; done)), H', ⟨by have := HJ2.out; first | omega | exact Nat.le_refl _⟩, ⟨by (with_reducible repeat (first | refine blk_drewN ?_ _ | refine blk_drew ?_ | refine blk_alloc ?_ _)); exact BK518.out⟩, ⟨by (with_reducible repeat (first | refine blk_drewN ?_ _ | refine blk_drew ?_ | refine blk_alloc ?_ _)); exact BK519.out⟩, ⟨by (with_reducible repeat (first | refine blk_drewN ?_ _ | refine blk_drew ?_ | refine blk_alloc ?_ _)); exact BK520.out⟩, ⟨by (with_reducible repeat (first | refine blk_drewN ?_ _ | refine blk_drew ?_ | refine blk_alloc ?_ _)); exact BK521.out⟩, ⟨by (with_reducible repeat (first | refine blk_drewN ?_ _ | refine blk_drew ?_ | refine blk_alloc ?_ _)); exact BK528.out⟩, ⟨by (with_reducible repeat (first | refine blk_drewN ?_ _ | refine blk_drew ?_ | refine blk_alloc ?_ _)); exact BK529.out⟩, ⟨by repeat (first | (with_reducible first | exact HB.out | apply below_alloc | apply pw_below_drewN | apply below_drew1 | refine below_set ?_ GE518.out | refine below_set ?_ GE519.out | refine below_set ?_ GE520.out | refine below_set ?_ GE521.out | refine below_set ?_ GE528.out | refine below_set ?_ GE529.out) | exact HB.out)⟩⟩
    case rest =>
     clear HC35
     (try clear p2); (try clear c4); (try clear c5); (try clear c6); (try clear c8); (try clear c47); (try clear c47b0); (try clear c47b1); (try clear c48); (try clear c49); (try clear c50); (try clear c51); (try clear c52); (try clear c56); (try clear c57); (try clear c58); (try clear c59); (try clear c60); (try clear c63); (try clear c64); (try clear c65); (try clear c66); (try clear c68); (try clear hcz53_0); (try clear hcz53_1); (try clear hcz61_0); (try clear hcz61_1); (try clear hcz67_0); (try clear hcz67_1); (try clear hcz68_0); (try clear hcz68_1); (try clear hfz53_0); (try clear hfz53_1); (try clear hfz61_0); (try clear hfz61_1); (try clear hfz67_0); (try clear hfz67_1); (try clear hfz68_0); (try clear hfz68_1)
     obtain ⟨kq, x35_34, rfl, HA, HJ34, BK518, BK519, BK520, BK521, BK528, BK529, HB⟩ := hcut
     cases kq with
     | zero => exact absurd HA.out (by simp [spec_Closest.j1])
     | succ kj34 =>
      have H := HA.out
      clear HA
      simp only [spec_Closest.j1] at H
      by_cases c70 : x35_34 = true
      ·subst c70
       have H1 : ((spec_l8Dot.f t524 t525 t524 t525).bind fun t532 => (some (0, 1, t532, 1, true))) = some (r1, r2, r3, r4, r5) := by rw [if_pos rfl] at H; exact H
       clear H
       have H := H1
       clear H1
       replace H := Option.bind_eq_some_iff.mp H
       obtain ⟨t532, A710, H⟩ := H
       replace H : (some (0, 1, t532, 1, true)) = some (r1, r2, r3, r4, r5) := H
       have A71 := Aside0.mk A710
       clear A710
       simp only [Option.some.injEq, Prod.mk.injEq] at H
       obtain ⟨rfl, rfl, rfl, rfl, rfl⟩ := H
       have hnb72 := NB528_518.out
       have hnc72 := NB518_528.out
       have hnb73 := NB528_519.out
       have hnc73 := NB519_528.out
       have hnb74 := NB528_520.out
       have hnc74 := NB520_528.out
       have hnb75 := NB528_521.out
       have hnc75 := NB521_528.out
       have hnb76 := NB528_529.out
       have hnc76 := NB529_528.out
       have hcz77_0 : wc.cell? ⟨gb528, 0, none⟩ = some (.int .i64 t524) := bc BK528.out 0
       have hcz77_1 : wc.cell? ⟨gb528, 1, none⟩ = some (.int .i64 t525) := bc BK528.out 1
       have hfz77_0 := blk_frozen BK528.out 0
       have hfz77_1 := blk_frozen BK528.out 1
       go_wp2_with (first | ((with_reducible refine gate_callee (f := 68) rfl ?_); refine goesL_ (some 39) rfl rfl Try.func68 (by kernel_rfl) rfl #[.agg #[.int .i64 t524, .int .i64 t525], .agg #[.int .i64 t524, .int .i64 t525]] rfl s15_4 ?_; (with_reducible refine (spec_l8Dot.calls t524 t525 t524 t525 t532 _ A71.out).mono ?_); rintro e w7 ⟨rfl, hb⟩; refine ⟨_, rfl, ?_⟩; have n0_ := Aside0.mk (bb (zk BK518.out) hb); have n1_ := Aside0.mk (bb (zk BK519.out) hb); have n2_ := Aside0.mk (bb (zk BK520.out) hb); have n3_ := Aside0.mk (bb (zk BK521.out) hb); have n4_ := Aside0.mk (bb (zk BK528.out) hb); have n5_ := Aside0.mk (bb (zk BK529.out) hb); have n6_ := Aside0.mk (below_step s15_1 hb); clear BK518; clear BK519; clear BK520; clear BK521; clear BK528; clear BK529; clear HB; have BK518 := n0_; have BK519 := n1_; have BK520 := n2_; have BK521 := n3_; have BK528 := n4_; have BK529 := n5_; have HB := n6_; clear n0_ n1_ n2_ n3_ n4_ n5_ n6_; (try clear hb); (try clear hb2); (try clear hk); (try clear hi); have hnb79 := NB520_518.out; have hnc79 := NB518_520.out; have hnb80 := NB520_519.out; have hnc80 := NB519_520.out; have hnb81 := NB520_521.out; have hnc81 := NB521_520.out; have hnb82 := NB520_529.out; have hnc82 := NB529_520.out; have hcz83_0 : w7.cell? ⟨gb520, 0, none⟩ = some (.int .i64 0) := bc BK520.out 0; have hcz83_1 : w7.cell? ⟨gb520, 1, none⟩ = some (.int .i64 0) := bc BK520.out 1; have hfz83_0 := blk_frozen BK520.out 0; have hfz83_1 := blk_frozen BK520.out 1; have hnb84 := NB521_518.out; have hnc84 := NB518_521.out; have hnb85 := NB521_519.out; have hnc85 := NB519_521.out; have hnb86 := NB521_529.out; have hnc86 := NB529_521.out; have hcz87_0 : w7.cell? ⟨gb521, 0, none⟩ = some (.int .i64 0) := bc BK521.out 0; have hcz87_1 : w7.cell? ⟨gb521, 1, none⟩ = some (.int .i64 0) := bc BK521.out 1; have hfz87_0 := blk_frozen BK521.out 0; have hfz87_1 := blk_frozen BK521.out 1))
       refine bodyPost_ret (results_list (rs := [.cell 4 58, .cell 5 58, .tmp 6]) rfl (by simp) (.cell gb520 58 #[.int .i64 0, .int .i64 1] (0, 0) _ rfl (by (with_reducible repeat (first | refine blk_drewN ?_ _ | refine blk_drew ?_ | refine blk_alloc ?_ _)); refine blk_far ?_ NB520_521.out _; (with_reducible repeat (first | refine blk_drewN ?_ _ | refine blk_drew ?_ | refine blk_alloc ?_ _)); refine blk_far ?_ NB520_521.out _; (with_reducible repeat (first | refine blk_drewN ?_ _ | refine blk_drew ?_ | refine blk_alloc ?_ _)); refine blk_put (cs := #[.int .i64 0, .int .i64 0]) ?_ 1 _ rfl; (with_reducible repeat (first | refine blk_drewN ?_ _ | refine blk_drew ?_ | refine blk_alloc ?_ _)); refine blk_put (cs := #[.int .i64 0, .int .i64 0]) ?_ 0 _ rfl; (with_reducible repeat (first | refine blk_drewN ?_ _ | refine blk_drew ?_ | refine blk_alloc ?_ _)); exact BK520.out) Try.underlying58 rfl (by kernel_rfl) (.cell gb521 58 #[.int .i64 t532, .int .i64 1] (0, 0) _ rfl (by (with_reducible repeat (first | refine blk_drewN ?_ _ | refine blk_drew ?_ | refine blk_alloc ?_ _)); refine blk_put (cs := #[.int .i64 t532, .int .i64 0]) ?_ 1 _ rfl; (with_reducible repeat (first | refine blk_drewN ?_ _ | refine blk_drew ?_ | refine blk_alloc ?_ _)); refine blk_put (cs := #[.int .i64 0, .int .i64 0]) ?_ 0 _ rfl; (with_reducible repeat (first | refine blk_drewN ?_ _ | refine blk_drew ?_ | refine blk_alloc ?_ _)); refine blk_far ?_ NB521_520.out _; (with_reducible repeat (first | refine blk_drewN ?_ _ | refine blk_drew ?_ | refine blk_alloc ?_ _)); refine blk_far ?_ NB521_520.out _; (with_reducible repeat (first | refine blk_drewN ?_ _ | refine blk_drew ?_ | refine blk_alloc ?_ _)); exact BK521.out) Try.underlying58 rfl (by kernel_rfl) (.tmp .nil)))) rfl ?_
       exact ⟨by first | rfl | (simp [errW_none, errW_some] <;> rfl) | (simp [*, errW_none, errW_some] <;> rfl), by repeat (first | (with_reducible first | exact HB.out | apply below_alloc | apply pw_below_drewN | apply below_drew1 | refine below_set ?_ GE518.out | refine below_set ?_ GE519.out | refine below_set ?_ GE520.out | refine below_set ?_ GE521.out | refine below_set ?_ GE528.out | refine below_set ?_ GE529.out) | exact HB.out)⟩
      ·replace c70 := Bool.eq_false_iff.mpr c70
       subst c70
       have H1 : ((spec_l8Cross.f t524 t525 t526 t527).bind fun t533 => ((spec_l8Dot.f t524 t525 t526 t527).bind fun t534 => ((spec_l8Dot.f t526 t527 t526 t527).bind fun t535 => ((spec_l2Frac.f kj34 (wrap64 (-t534)) t535).bind fun bt536 => ((spec_l8Dot.f t526 t527 t526 t527).bind fun t538 => ((spec_l2Frac.f kj34 (wrap64 (t533 * t533)) t538).bind fun bt539 => (some (bt536.1, bt536.2, bt539.1, bt539.2, true)))))))) = some (r1, r2, r3, r4, r5) := by rw [if_neg (show ¬ (false = true) by decide)] at H; exact H
       clear H
       have H := H1
       clear H1
       replace H := Option.bind_eq_some_iff.mp H
       obtain ⟨t533, A880, H⟩ := H
       replace H : ((spec_l8Dot.f t524 t525 t526 t527).bind fun t534 => ((spec_l8Dot.f t526 t527 t526 t527).bind fun t535 => ((spec_l2Frac.f kj34 (wrap64 (-t534)) t535).bind fun bt536 => ((spec_l8Dot.f t526 t527 t526 t527).bind fun t538 => ((spec_l2Frac.f kj34 (wrap64 (t533 * t533)) t538).bind fun bt539 => (some (bt536.1, bt536.2, bt539.1, bt539.2, true))))))) = some (r1, r2, r3, r4, r5) := H
       have A88 := Aside0.mk A880
       clear A880
       replace H := Option.bind_eq_some_iff.mp H
       obtain ⟨t534, A890, H⟩ := H
       replace H : ((spec_l8Dot.f t526 t527 t526 t527).bind fun t535 => ((spec_l2Frac.f kj34 (wrap64 (-t534)) t535).bind fun bt536 => ((spec_l8Dot.f t526 t527 t526 t527).bind fun t538 => ((spec_l2Frac.f kj34 (wrap64 (t533 * t533)) t538).bind fun bt539 => (some (bt536.1, bt536.2, bt539.1, bt539.2, true)))))) = some (r1, r2, r3, r4, r5) := H
       have A89 := Aside0.mk A890
       clear A890
       replace H := Option.bind_eq_some_iff.mp H
       obtain ⟨t535, A900, H⟩ := H
       replace H : ((spec_l2Frac.f kj34 (wrap64 (-t534)) t535).bind fun bt536 => ((spec_l8Dot.f t526 t527 t526 t527).bind fun t538 => ((spec_l2Frac.f kj34 (wrap64 (t533 * t533)) t538).bind fun bt539 => (some (bt536.1, bt536.2, bt539.1, bt539.2, true))))) = some (r1, r2, r3, r4, r5) := H
       have A90 := Aside0.mk A900
       clear A900
       replace H := Option.bind_eq_some_iff.mp H
       obtain ⟨⟨t536, t537⟩, A910, H⟩ := H
       replace H : ((spec_l8Dot.f t526 t527 t526 t527).bind fun t538 => ((spec_l2Frac.f kj34 (wrap64 (t533 * t533)) t538).bind fun bt539 => (some (t536, t537, bt539.1, bt539.2, true)))) = some (r1, r2, r3, r4, r5) := H
       have A91 := Aside0.mk A910
       clear A910
       replace H := Option.bind_eq_some_iff.mp H
       obtain ⟨t538, A920, H⟩ := H
       replace H : ((spec_l2Frac.f kj34 (wrap64 (t533 * t533)) t538).bind fun bt539 => (some (t536, t537, bt539.1, bt539.2, true))) = some (r1, r2, r3, r4, r5) := H
       have A92 := Aside0.mk A920
       clear A920
       replace H := Option.bind_eq_some_iff.mp H
       obtain ⟨⟨t539, t540⟩, A930, H⟩ := H
       replace H : (some (t536, t537, t539, t540, true)) = some (r1, r2, r3, r4, r5) := H
       have A93 := Aside0.mk A930
       clear A930
       simp only [Option.some.injEq, Prod.mk.injEq] at H
       obtain ⟨rfl, rfl, rfl, rfl, rfl⟩ := H
       have hnb94 := NB528_518.out
       have hnc94 := NB518_528.out
       have hnb95 := NB528_519.out
       have hnc95 := NB519_528.out
       have hnb96 := NB528_520.out
       have hnc96 := NB520_528.out
       have hnb97 := NB528_521.out
       have hnc97 := NB521_528.out
       have hnb98 := NB528_529.out
       have hnc98 := NB529_528.out
       have hcz99_0 : wc.cell? ⟨gb528, 0, none⟩ = some (.int .i64 t524) := bc BK528.out 0
       have hcz99_1 : wc.cell? ⟨gb528, 1, none⟩ = some (.int .i64 t525) := bc BK528.out 1
       have hfz99_0 := blk_frozen BK528.out 0
       have hfz99_1 := blk_frozen BK528.out 1
       have hnb100 := NB529_518.out
       have hnc100 := NB518_529.out
       have hnb101 := NB529_519.out
       have hnc101 := NB519_529.out
       have hnb102 := NB529_520.out
       have hnc102 := NB520_529.out
       have hnb103 := NB529_521.out
       have hnc103 := NB521_529.out
       have hcz104_0 : wc.cell? ⟨gb529, 0, none⟩ = some (.int .i64 t526) := bc BK529.out 0
       have hcz104_1 : wc.cell? ⟨gb529, 1, none⟩ = some (.int .i64 t527) := bc BK529.out 1
       have hfz104_0 := blk_frozen BK529.out 0
       have hfz104_1 := blk_frozen BK529.out 1
       try go_wp2_with (first | ((with_reducible refine gate_callee (f := 67) rfl ?_); refine goesL_ (some 43) rfl rfl Try.func67 (by kernel_rfl) rfl #[.agg #[.int .i64 t524, .int .i64 t525], .agg #[.int .i64 t526, .int .i64 t527]] rfl s15_4 ?_; (with_reducible refine (spec_l8Cross.calls t524 t525 t526 t527 t533 _ A88.out).mono ?_); rintro e w7 ⟨rfl, hb⟩; refine ⟨_, rfl, ?_⟩; have n0_ := Aside0.mk (bb (zk BK518.out) hb); have n1_ := Aside0.mk (bb (zk BK519.out) hb); have n2_ := Aside0.mk (bb (zk BK520.out) hb); have n3_ := Aside0.mk (bb (zk BK521.out) hb); have n4_ := Aside0.mk (bb (zk BK528.out) hb); have n5_ := Aside0.mk (bb (zk BK529.out) hb); have n6_ := Aside0.mk (below_step s15_1 hb); clear BK518; clear BK519; clear BK520; clear BK521; clear BK528; clear BK529; clear HB; have BK518 := n0_; have BK519 := n1_; have BK520 := n2_; have BK521 := n3_; have BK528 := n4_; have BK529 := n5_; have HB := n6_; clear n0_ n1_ n2_ n3_ n4_ n5_ n6_; (try clear hb); (try clear hb2); (try clear hk); (try clear hi)))
       have n0_ := Aside0.mk (blk_drew BK518.out)
       have n1_ := Aside0.mk (blk_drew BK519.out)
       have n2_ := Aside0.mk (blk_drew BK520.out)
       have n3_ := Aside0.mk (blk_drew BK521.out)
       have n4_ := Aside0.mk (blk_drew BK528.out)
       have n5_ := Aside0.mk (blk_drew BK529.out)
       have n6_ := Aside0.mk (below_drew1 HB.out)
       clear BK518 BK519 BK520 BK521 BK528 BK529 HB
       have BK518 := n0_
       have BK519 := n1_
       have BK520 := n2_
       have BK521 := n3_
       have BK528 := n4_
       have BK529 := n5_
       have HB := n6_
       clear n0_ n1_ n2_ n3_ n4_ n5_ n6_
       refine start_ (n := 18) (S := fun w' => w'.cell? ⟨gb528, 0, none⟩ = some (.int .i64 t524) ∧ w'.cell? ⟨gb528, 1, none⟩ = some (.int .i64 t525) ∧ w'.cell? ⟨gb529, 0, none⟩ = some (.int .i64 t526) ∧ w'.cell? ⟨gb529, 1, none⟩ = some (.int .i64 t527)) (ds := []) #[false, false, false, false, false, false, false, false, false, false, false, false, false, false, false, false, false, false] (by kernel_rfl) rfl rfl ⟨bc BK528.out 0, bc BK528.out 1, bc BK529.out 0, bc BK529.out 1⟩ (fun hHeld => ?_); refine with_tabW spec_Closest.tab7 spec_Closest.bits7 (fun HT_ HW_ => ?_)
       generalize w7.drew = w8 at BK518 BK519 BK520 BK521 BK528 BK529 HB hHeld ⊢
       refine pure_ (i := 8) (N := some 52) (v := ?_) (a' := ?_) (bz 18 256) rfl rfl (any_of HT_.out (by kernel_rfl)) (fun _ _ _ h => h) (Or.inl ⟨by rfl, ?_⟩) ?_ ?_
       rotate_left
       ·intro w'
        go_simp
        with_reducible rfl
       rotate_left
       ·exact t15_0
       refine pure_ (i := 9) (N := some 53) (v := ?_) (a' := ?_) (bz 18 768) rfl rfl (any_of HT_.out (by kernel_rfl)) (fun _ _ _ h => h) (Or.inl ⟨by rfl, ?_⟩) ?_ ?_
       rotate_left
       ·intro w'
        go_simp
        with_reducible rfl
       rotate_left
       ·exact t15_0
       refine pure_ (i := 10) (N := some 54) (v := ?_) (a' := ?_) (bz 18 1792) rfl rfl (any_of HT_.out (by kernel_rfl)) (fun _ _ _ h => h) (Or.inl ⟨by rfl, ?_⟩) ?_ ?_
       rotate_left
       ·intro w'
        go_simp
        with_reducible rfl
       rotate_left
       ·exact t15_0
       refine take_ (i := 0) (N := some 44) (v := ?_) (a' := ?_) (bz 18 1793) rfl rfl (take_ofW HT_.out HW_.out (by kernel_rfl)) (fun _ _ _ h => h) (Or.inl ⟨by rfl, ?_⟩) hHeld ?_ ?_
       rotate_left
       ·rintro w' ⟨s0, s1, s2, s3⟩
        go_simp
        with_reducible rfl
       rotate_left
       ·exact t15_0
       refine take_ (i := 1) (N := some 45) (v := ?_) (a' := ?_) (bz 18 1795) rfl rfl (take_ofW HT_.out HW_.out (by kernel_rfl)) (fun _ _ _ h => h) (Or.inl ⟨by rfl, ?_⟩) hHeld ?_ ?_
       rotate_left
       ·rintro w' ⟨s0, s1, s2, s3⟩
        go_simp
        with_reducible rfl
       rotate_left
       ·exact t15_0
       refine take_ (i := 4) (N := some 48) (v := ?_) (a' := ?_) (bz 18 1811) rfl rfl (take_ofW HT_.out HW_.out (by kernel_rfl)) (fun _ _ _ h => h) (Or.inl ⟨by rfl, ?_⟩) hHeld ?_ ?_
       rotate_left
       ·rintro w' ⟨s0, s1, s2, s3⟩
        go_simp
        with_reducible rfl
       rotate_left
       ·exact t15_0
       refine take_ (i := 5) (N := some 49) (v := ?_) (a' := ?_) (bz 18 1843) rfl rfl (take_ofW HT_.out HW_.out (by kernel_rfl)) (fun _ _ _ h => h) (Or.inl ⟨by rfl, ?_⟩) hHeld ?_ ?_
       rotate_left
       ·rintro w' ⟨s0, s1, s2, s3⟩
        go_simp
        with_reducible rfl
       rotate_left
       ·exact t15_0
       refine take_ (i := 11) (N := some 55) (v := ?_) (a' := ?_) (bz 18 3891) rfl rfl (take_ofW HT_.out HW_.out (by kernel_rfl)) (fun _ _ _ h => h) (Or.inl ⟨by rfl, ?_⟩) hHeld ?_ ?_
       rotate_left
       ·rintro w' ⟨s0, s1, s2, s3⟩
        go_simp
        with_reducible rfl
       rotate_left
       ·exact t15_0
       refine take_ (i := 12) (N := some 56) (v := ?_) (a' := ?_) (bz 18 7987) rfl rfl (take_ofW HT_.out HW_.out (by kernel_rfl)) (fun _ _ _ h => h) (Or.inl ⟨by rfl, ?_⟩) hHeld ?_ ?_
       rotate_left
       ·rintro w' ⟨s0, s1, s2, s3⟩
        go_simp
        with_reducible rfl
       rotate_left
       ·exact t15_0
       refine one_ (i := 2) (N := some 46) (bz 18 7991) rfl rfl (one_of HT_.out (by kernel_rfl)) (by decide) (fun K hK => ?_)
       refine goes_ Try.func68 (by kernel_rfl) rfl #[.agg #[.int .i64 t524, .int .i64 t525], .agg #[.int .i64 t526, .int .i64 t527]] (by rfl) rfl rfl s15_4 ?_
       with_reducible refine (spec_l8Dot.calls t524 t525 t526 t527 t534 _ A89.out).mono ?_
       rintro e w9 ⟨rfl, hb⟩
       refine ⟨_, rfl, ?_⟩
       have n0_ := Aside0.mk (bb (zk BK518.out) hb)
       have n1_ := Aside0.mk (bb (zk BK519.out) hb)
       have n2_ := Aside0.mk (bb (zk BK520.out) hb)
       have n3_ := Aside0.mk (bb (zk BK521.out) hb)
       have n4_ := Aside0.mk (bb (zk BK528.out) hb)
       have n5_ := Aside0.mk (bb (zk BK529.out) hb)
       have n6_ := Aside0.mk (below_step s15_1 hb)
       clear BK518 BK519 BK520 BK521 BK528 BK529 HB
       have BK518 := n0_
       have BK519 := n1_
       have BK520 := n2_
       have BK521 := n3_
       have BK528 := n4_
       have BK529 := n5_
       have HB := n6_
       clear n0_ n1_ n2_ n3_ n4_ n5_ n6_
       (try clear hb)
       (try clear hb2)
       (try clear hk)
       (try clear hi)
       refine hK.out _ _ ⟨bc BK528.out 0, bc BK528.out 1, bc BK529.out 0, bc BK529.out 1⟩ (fun hHeld => ?_)
       clear hK K
       refine norm_ (a' := ?_) ?_ ?_
       rotate_left
       ·show Act.put _ (some 46) _ = _
        simp only [Act.put, y1, y2, y3, i64_w, i32_w]
        rfl
       refine pure_ (i := 3) (N := some 47) (v := ?_) (a' := ?_) (bz 18 7999) rfl rfl (any_of HT_.out (by kernel_rfl)) (fun _ _ _ h => h) (Or.inl ⟨by rfl, ?_⟩) ?_ ?_
       rotate_left
       ·intro w'
        go_simp
        with_reducible rfl
       rotate_left
       ·exact t15_0
       refine one_ (i := 6) (N := some 50) (bz 18 8063) rfl rfl (one_of HT_.out (by kernel_rfl)) (by decide) (fun K hK => ?_)
       refine goes_ Try.func68 (by kernel_rfl) rfl #[.agg #[.int .i64 t526, .int .i64 t527], .agg #[.int .i64 t526, .int .i64 t527]] (by rfl) rfl rfl s15_4 ?_
       with_reducible refine (spec_l8Dot.calls t526 t527 t526 t527 t535 _ A90.out).mono ?_
       rintro e w10 ⟨rfl, hb⟩
       refine ⟨_, rfl, ?_⟩
       have n0_ := Aside0.mk (bb (zk BK518.out) hb)
       have n1_ := Aside0.mk (bb (zk BK519.out) hb)
       have n2_ := Aside0.mk (bb (zk BK520.out) hb)
       have n3_ := Aside0.mk (bb (zk BK521.out) hb)
       have n4_ := Aside0.mk (bb (zk BK528.out) hb)
       have n5_ := Aside0.mk (bb (zk BK529.out) hb)
       have n6_ := Aside0.mk (below_step s15_1 hb)
       clear BK518 BK519 BK520 BK521 BK528 BK529 HB
       have BK518 := n0_
       have BK519 := n1_
       have BK520 := n2_
       have BK521 := n3_
       have BK528 := n4_
       have BK529 := n5_
       have HB := n6_
       clear n0_ n1_ n2_ n3_ n4_ n5_ n6_
       (try clear hb)
       (try clear hb2)
       (try clear hk)
       (try clear hi)
       refine hK.out _ _ ⟨bc BK528.out 0, bc BK528.out 1, bc BK529.out 0, bc BK529.out 1⟩ (fun hHeld => ?_)
       clear hK K
       refine norm_ (a' := ?_) ?_ ?_
       rotate_left
       ·show Act.put _ (some 50) _ = _
        simp only [Act.put, y1, y2, y3, i64_w, i32_w]
        rfl
       refine one_ (i := 7) (N := some 51) (bz 18 8191) rfl rfl (one_of HT_.out (by kernel_rfl)) (by decide) (fun K hK => ?_)
       refine goes_ Try.func81 (by kernel_rfl) rfl #[.int .i64 (wrap64 (-t534)), .int .i64 t535] (by rfl) rfl rfl s15_4 ?_
       with_reducible refine (spec_l2Frac.calls kj34 (wrap64 (-t534)) t535 t536 t537 _ A91.out).mono ?_
       rintro e w11 ⟨rfl, hb⟩
       refine ⟨_, rfl, ?_⟩
       have n0_ := Aside0.mk (bb (zk BK518.out) hb)
       have n1_ := Aside0.mk (bb (zk BK519.out) hb)
       have n2_ := Aside0.mk (bb (zk BK520.out) hb)
       have n3_ := Aside0.mk (bb (zk BK521.out) hb)
       have n4_ := Aside0.mk (bb (zk BK528.out) hb)
       have n5_ := Aside0.mk (bb (zk BK529.out) hb)
       have n6_ := Aside0.mk (below_step s15_1 hb)
       clear BK518 BK519 BK520 BK521 BK528 BK529 HB
       have BK518 := n0_
       have BK519 := n1_
       have BK520 := n2_
       have BK521 := n3_
       have BK528 := n4_
       have BK529 := n5_
       have HB := n6_
       clear n0_ n1_ n2_ n3_ n4_ n5_ n6_
       (try clear hb)
       (try clear hb2)
       (try clear hk)
       (try clear hi)
       refine hK.out _ _ ⟨bc BK528.out 0, bc BK528.out 1, bc BK529.out 0, bc BK529.out 1⟩ (fun hHeld => ?_)
       clear hK K
       refine norm_ (a' := ?_) ?_ ?_
       rotate_left
       ·show Act.put _ (some 51) _ = _
        simp only [Act.put, y1, y2, y3, i64_w, i32_w]
        rfl
       refine one_ (i := 13) (N := some 57) (bz 18 16383) rfl rfl (one_of HT_.out (by kernel_rfl)) (by decide) (fun K hK => ?_)
       refine goes_ Try.func68 (by kernel_rfl) rfl #[.agg #[.int .i64 t526, .int .i64 t527], .agg #[.int .i64 t526, .int .i64 t527]] (by rfl) rfl rfl s15_4 ?_
       with_reducible refine (spec_l8Dot.calls t526 t527 t526 t527 t538 _ A92.out).mono ?_
       rintro e w12 ⟨rfl, hb⟩
       refine ⟨_, rfl, ?_⟩
       have n0_ := Aside0.mk (bb (zk BK518.out) hb)
       have n1_ := Aside0.mk (bb (zk BK519.out) hb)
       have n2_ := Aside0.mk (bb (zk BK520.out) hb)
       have n3_ := Aside0.mk (bb (zk BK521.out) hb)
       have n4_ := Aside0.mk (bb (zk BK528.out) hb)
       have n5_ := Aside0.mk (bb (zk BK529.out) hb)
       have n6_ := Aside0.mk (below_step s15_1 hb)
       clear BK518 BK519 BK520 BK521 BK528 BK529 HB
       have BK518 := n0_
       have BK519 := n1_
       have BK520 := n2_
       have BK521 := n3_
       have BK528 := n4_
       have BK529 := n5_
       have HB := n6_
       clear n0_ n1_ n2_ n3_ n4_ n5_ n6_
       (try clear hb)
       (try clear hb2)
       (try clear hk)
       (try clear hi)
       refine hK.out _ _ ⟨bc BK528.out 0, bc BK528.out 1, bc BK529.out 0, bc BK529.out 1⟩ (fun hHeld => ?_)
       clear hK K
       refine norm_ (a' := ?_) ?_ ?_
       rotate_left
       ·show Act.put _ (some 57) _ = _
        simp only [Act.put, y1, y2, y3, i64_w, i32_w]
        rfl
       refine one_ (i := 14) (N := some 58) (bz 18 32767) rfl rfl (one_of HT_.out (by kernel_rfl)) (by decide) (fun K hK => ?_)
       refine goes_ Try.func81 (by kernel_rfl) rfl #[.int .i64 (wrap64 (t533 * t533)), .int .i64 t538] (by rfl) rfl rfl s15_4 ?_
       with_reducible refine (spec_l2Frac.calls kj34 (wrap64 (t533 * t533)) t538 t539 t540 _ A93.out).mono ?_
       rintro e w13 ⟨rfl, hb⟩
       refine ⟨_, rfl, ?_⟩
       have n0_ := Aside0.mk (bb (zk BK518.out) hb)
       have n1_ := Aside0.mk (bb (zk BK519.out) hb)
       have n2_ := Aside0.mk (bb (zk BK520.out) hb)
       have n3_ := Aside0.mk (bb (zk BK521.out) hb)
       have n4_ := Aside0.mk (bb (zk BK528.out) hb)
       have n5_ := Aside0.mk (bb (zk BK529.out) hb)
       have n6_ := Aside0.mk (below_step s15_1 hb)
       clear BK518 BK519 BK520 BK521 BK528 BK529 HB
       have BK518 := n0_
       have BK519 := n1_
       have BK520 := n2_
       have BK521 := n3_
       have BK528 := n4_
       have BK529 := n5_
       have HB := n6_
       clear n0_ n1_ n2_ n3_ n4_ n5_ n6_
       (try clear hb)
       (try clear hb2)
       (try clear hk)
       (try clear hi)
       refine hK.out _ _ ⟨bc BK528.out 0, bc BK528.out 1, bc BK529.out 0, bc BK529.out 1⟩ (fun hHeld => ?_)
       clear hK K
       refine norm_ (a' := ?_) ?_ ?_
       rotate_left
       ·show Act.put _ (some 58) _ = _
        simp only [Act.put, y1, y2, y3, i64_w, i32_w]
        rfl
       refine one_ (i := 15) (N := none) (bz 18 65535) rfl rfl (one_of HT_.out (by kernel_rfl)) (by decide) (fun K hK => ?_)
       have hs112 : w13.cell? ⟨gb520, 0, none⟩ = some (.int .i64 0) := bc BK520.out 0
       have hfs112 := blk_frozen BK520.out 0
       have hns112_0 := NB518_520.out
       have hns112_1 := NB519_520.out
       have hns112_3 := NB521_520.out
       have hns112_4 := NB528_520.out
       have hns112_5 := NB529_520.out
       have hms112_0 := NB520_518.out
       have hms112_1 := NB520_519.out
       have hms112_3 := NB520_521.out
       have hms112_4 := NB520_528.out
       have hms112_5 := NB520_529.out
       have hs113 : w13.cell? ⟨gb520, 1, none⟩ = some (.int .i64 0) := bc BK520.out 1
       have hfs113 := blk_frozen BK520.out 1
       have hns113_0 := NB518_520.out
       have hns113_1 := NB519_520.out
       have hns113_3 := NB521_520.out
       have hns113_4 := NB528_520.out
       have hns113_5 := NB529_520.out
       have hms113_0 := NB520_518.out
       have hms113_1 := NB520_519.out
       have hms113_3 := NB520_521.out
       have hms113_4 := NB520_528.out
       have hms113_5 := NB520_529.out
       refine skip_ (w1 := ?_) (by rfl) rfl ?_ ?_
       rotate_left
       ·go_simp
        rfl
       refine hK.out _ _ ⟨((cell_far (p := ⟨gb520, _, none⟩) NB528_520.out _).trans (((cell_far (p := ⟨gb520, _, none⟩) NB528_520.out _).trans (hHeld.1)))), ((cell_far (p := ⟨gb520, _, none⟩) NB528_520.out _).trans (((cell_far (p := ⟨gb520, _, none⟩) NB528_520.out _).trans (hHeld.2.1)))), ((cell_far (p := ⟨gb520, _, none⟩) NB529_520.out _).trans (((cell_far (p := ⟨gb520, _, none⟩) NB529_520.out _).trans (hHeld.2.2.1)))), ((cell_far (p := ⟨gb520, _, none⟩) NB529_520.out _).trans (((cell_far (p := ⟨gb520, _, none⟩) NB529_520.out _).trans (hHeld.2.2.2))))⟩ (fun hHeld => ?_)
       clear hK K
       refine one_ (i := 16) (N := none) (bz 18 131071) rfl rfl (one_of HT_.out (by kernel_rfl)) (by decide) (fun K hK => ?_)
       have hs114 : w13.cell? ⟨gb521, 0, none⟩ = some (.int .i64 0) := bc BK521.out 0
       have hfs114 := blk_frozen BK521.out 0
       have hns114_0 := NB518_521.out
       have hns114_1 := NB519_521.out
       have hns114_2 := NB520_521.out
       have hns114_4 := NB528_521.out
       have hns114_5 := NB529_521.out
       have hms114_0 := NB521_518.out
       have hms114_1 := NB521_519.out
       have hms114_2 := NB521_520.out
       have hms114_4 := NB521_528.out
       have hms114_5 := NB521_529.out
       have hs115 : w13.cell? ⟨gb521, 1, none⟩ = some (.int .i64 0) := bc BK521.out 1
       have hfs115 := blk_frozen BK521.out 1
       have hns115_0 := NB518_521.out
       have hns115_1 := NB519_521.out
       have hns115_2 := NB520_521.out
       have hns115_4 := NB528_521.out
       have hns115_5 := NB529_521.out
       have hms115_0 := NB521_518.out
       have hms115_1 := NB521_519.out
       have hms115_2 := NB521_520.out
       have hms115_4 := NB521_528.out
       have hms115_5 := NB521_529.out
       refine skip_ (w1 := ?_) (by rfl) rfl ?_ ?_
       rotate_left
       ·go_simp
        rfl
       refine hK.out _ _ ⟨((cell_far (p := ⟨gb521, _, none⟩) NB528_521.out _).trans (((cell_far (p := ⟨gb521, _, none⟩) NB528_521.out _).trans (hHeld.1)))), ((cell_far (p := ⟨gb521, _, none⟩) NB528_521.out _).trans (((cell_far (p := ⟨gb521, _, none⟩) NB528_521.out _).trans (hHeld.2.1)))), ((cell_far (p := ⟨gb521, _, none⟩) NB529_521.out _).trans (((cell_far (p := ⟨gb521, _, none⟩) NB529_521.out _).trans (hHeld.2.2.1)))), ((cell_far (p := ⟨gb521, _, none⟩) NB529_521.out _).trans (((cell_far (p := ⟨gb521, _, none⟩) NB529_521.out _).trans (hHeld.2.2.2))))⟩ (fun hHeld => ?_)
       clear hK K
       refine pure_ (i := 17) (N := some 6) (v := ?_) (a' := ?_) (bz 18 262143) rfl rfl (any_of HT_.out (by kernel_rfl)) (fun _ _ _ h => h) (Or.inl ⟨by rfl, ?_⟩) ?_ ?_
       rotate_left
       ·intro w'
        go_simp
        with_reducible rfl
       rotate_left
       ·exact t15_0
       refine done_ (done_of HT_.out (by kernel_rfl)) ?_
       try go_wp2
       refine bodyPost_ret (results_list (rs := [.cell 4 58, .cell 5 58, .tmp 6]) rfl (by simp) (.cell gb520 58 #[.int .i64 t536, .int .i64 t537] (0, 0) _ rfl (by (with_reducible repeat (first | refine blk_drewN ?_ _ | refine blk_drew ?_ | refine blk_alloc ?_ _)); refine blk_far ?_ NB520_521.out _; (with_reducible repeat (first | refine blk_drewN ?_ _ | refine blk_drew ?_ | refine blk_alloc ?_ _)); refine blk_far ?_ NB520_521.out _; (with_reducible repeat (first | refine blk_drewN ?_ _ | refine blk_drew ?_ | refine blk_alloc ?_ _)); refine blk_put (cs := #[.int .i64 t536, .int .i64 0]) ?_ 1 _ rfl; (with_reducible repeat (first | refine blk_drewN ?_ _ | refine blk_drew ?_ | refine blk_alloc ?_ _)); refine blk_put (cs := #[.int .i64 0, .int .i64 0]) ?_ 0 _ rfl; (with_reducible repeat (first | refine blk_drewN ?_ _ | refine blk_drew ?_ | refine blk_alloc ?_ _)); exact BK520.out) Try.underlying58 rfl (by kernel_rfl) (.cell gb521 58 #[.int .i64 t539, .int .i64 t540] (0, 0) _ rfl (by (with_reducible repeat (first | refine blk_drewN ?_ _ | refine blk_drew ?_ | refine blk_alloc ?_ _)); refine blk_put (cs := #[.int .i64 t539, .int .i64 0]) ?_ 1 _ rfl; (with_reducible repeat (first | refine blk_drewN ?_ _ | refine blk_drew ?_ | refine blk_alloc ?_ _)); refine blk_put (cs := #[.int .i64 0, .int .i64 0]) ?_ 0 _ rfl; (with_reducible repeat (first | refine blk_drewN ?_ _ | refine blk_drew ?_ | refine blk_alloc ?_ _)); refine blk_far ?_ NB521_520.out _; (with_reducible repeat (first | refine blk_drewN ?_ _ | refine blk_drew ?_ | refine blk_alloc ?_ _)); refine blk_far ?_ NB521_520.out _; (with_reducible repeat (first | refine blk_drewN ?_ _ | refine blk_drew ?_ | refine blk_alloc ?_ _)); exact BK521.out) Try.underlying58 rfl (by kernel_rfl) (.tmp .nil)))) rfl ?_
       exact ⟨by first | rfl | (simp [errW_none, errW_some] <;> rfl) | (simp [*, errW_none, errW_some] <;> rfl), by repeat (first | (with_reducible first | exact HB.out | apply below_alloc | apply pw_below_drewN | apply below_drew1 | refine below_set ?_ GE518.out | refine below_set ?_ GE519.out | refine below_set ?_ GE520.out | refine below_set ?_ GE521.out | refine below_set ?_ GE528.out | refine below_set ?_ GE529.out) | exact HB.out)⟩

end Go.Proofs.Ytfbokdbaondjdaa.PV1
-- printed for this claim out of the translation
namespace Go.Proofs.Ytfbokdbaondjdaa.PV1
open Go.RowKit Go.Proofs.YtfbokdbaondjdaaW.PrintWords Go.Proofs.YtfbokdbaondjdaaW.PrintLast Go.Proofs.YtfbokdbaondjdaaW.PrintMore Go.Proofs.Ytfbokdbaondjdaa.Cz Go.Proofs.Ytfbokdbaondjdaa.Cz
attribute [local go_sem] max2_int min2_int max_two min_two max_three min_three max_four min_four
set_option linter.unusedVariables false
set_option linter.unusedSimpArgs false

/-! ### impl_gcd: function 96 -/
def impl_gcd.l0 : Nat → Int → Int → Option (Int)
 | 0, _, _ => none
 | k + 1, x0, x1 => if x1 = 0 then (some x0) else (impl_gcd.l0 k x1 (Int.tmod x0 x1))
def impl_gcd.f (k : Nat) (a0 : Int) (a1 : Int) : Option (Int) := (impl_size.f a0).bind fun t541 => ((impl_size.f a1).bind fun t542 => (impl_gcd.l0 k t541 t542))
theorem impl_gcd.mono_l : ∀ k, (∀ y0 y1, LeO (impl_gcd.l0 k y0 y1) (impl_gcd.l0 (k + 1) y0 y1))
 | 0 => fun _ _ r h => by simp [impl_gcd.l0] at h
 | k + 1 => by
  have ih0 := impl_gcd.mono_l k
  ·intro y0 y1
   unfold impl_gcd.l0
   repeat' first
   | (with_reducible exact ih0 _ _)
   | (with_reducible exact LeO.refl _)
   | (with_reducible exact LeO.none _)
   | (with_reducible refine LeO.ite ?_ ?_)
   | (with_reducible refine LeO.bind ?_ (fun _ => ?_))
   | exact ih0 _ _
   | exact LeO.none _
   | refine LeO.ite ?_ ?_
   | refine LeO.bind ?_ (fun _ => ?_)
theorem impl_gcd.mono : ∀ a0 a1 k, LeO (impl_gcd.f k a0 a1) (impl_gcd.f (k + 1) a0 a1) := by
 intro a0 a1 k
 have ih0 := impl_gcd.mono_l k
 unfold impl_gcd.f
 repeat' first
   | (with_reducible exact ih0 _ _)
   | (with_reducible exact LeO.refl _)
   | (with_reducible exact LeO.none _)
   | (with_reducible refine LeO.ite ?_ ?_)
   | (with_reducible refine LeO.bind ?_ (fun _ => ?_))
   | exact ih0 _ _
   | exact LeO.none _
   | refine LeO.ite ?_ ?_
   | refine LeO.bind ?_ (fun _ => ?_)
set_option maxHeartbeats 8000000 in
set_option maxRecDepth 100000 in
theorem impl_gcd.calls (k : Nat) (a0 : Int) (a1 : Int) (r : Int) (w : World) (h : impl_gcd.f k a0 a1 = some r) :
  Calls Try.prog 96 #[.int .i64 a0, .int .i64 a1] w fun e w' => e = .returned (.int .i64 r) ∧ Drawn0 w w' := by
 have H : ((impl_size.f a0).bind fun t541 => ((impl_size.f a1).bind fun t542 => (impl_gcd.l0 k t541 t542))) = some r := h
 clear h
 replace H := Option.bind_eq_some_iff.mp H
 obtain ⟨t541, A30, H⟩ := H
 replace H : ((impl_size.f a1).bind fun t542 => (impl_gcd.l0 k t541 t542)) = some r := H
 have A3 := Aside0.mk A30
 clear A30
 replace H := Option.bind_eq_some_iff.mp H
 obtain ⟨t542, A40, H⟩ := H
 replace H : (impl_gcd.l0 k t541 t542) = some r := H
 have A4 := Aside0.mk A40
 clear A40
 have H' := Aside0.mk H
 clear H
 go_enter Try.func96, Try.ntmps96
 go_wp2_with (first | (go_at_call 94; (with_reducible refine (impl_size.calls a0 t541 _ A3.out).mono ?_); rintro e w' ⟨rfl, ⟨nd, rfl⟩⟩; (try first | exact ⟨rfl, _, World.drewN_drewN _ _ _⟩ | exact ⟨rfl, _, Eq.trans (World.drewN_drewN _ _ _) (congrArg (World.drewN _) (Nat.add_assoc _ _ _))⟩)) | (go_at_call 94; (with_reducible refine (impl_size.calls a1 t542 _ A4.out).mono ?_); rintro e w' ⟨rfl, ⟨nd, rfl⟩⟩; (try first | exact ⟨rfl, _, World.drewN_drewN _ _ _⟩ | exact ⟨rfl, _, Eq.trans (World.drewN_drewN _ _ _) (congrArg (World.drewN _) (Nat.add_assoc _ _ _))⟩)))
 repeat (go_quiet (first | (go_at_call 94; (with_reducible refine (impl_size.calls a0 t541 _ A3.out).mono ?_); rintro e w' ⟨rfl, ⟨nd, rfl⟩⟩; (try first | exact ⟨rfl, _, World.drewN_drewN _ _ _⟩ | exact ⟨rfl, _, Eq.trans (World.drewN_drewN _ _ _) (congrArg (World.drewN _) (Nat.add_assoc _ _ _))⟩)) | (go_at_call 94; (with_reducible refine (impl_size.calls a1 t542 _ A4.out).mono ?_); rintro e w' ⟨rfl, ⟨nd, rfl⟩⟩; (try first | exact ⟨rfl, _, World.drewN_drewN _ _ _⟩ | exact ⟨rfl, _, Eq.trans (World.drewN_drewN _ _ _) (congrArg (World.drewN _) (Nat.add_assoc _ _ _))⟩))); try go_wp2_with (first | (go_at_call 94; (with_reducible refine (impl_size.calls a0 t541 _ A3.out).mono ?_); rintro e w' ⟨rfl, ⟨nd, rfl⟩⟩; (try first | exact ⟨rfl, _, World.drewN_drewN _ _ _⟩ | exact ⟨rfl, _, Eq.trans (World.drewN_drewN _ _ _) (congrArg (World.drewN _) (Nat.add_assoc _ _ _))⟩)) | (go_at_call 94; (with_reducible refine (impl_size.calls a1 t542 _ A4.out).mono ?_); rintro e w' ⟨rfl, ⟨nd, rfl⟩⟩; (try first | exact ⟨rfl, _, World.drewN_drewN _ _ _⟩ | exact ⟨rfl, _, Eq.trans (World.drewN_drewN _ _ _) (congrArg (World.drewN _) (Nat.add_assoc _ _ _))⟩))))
 go_loopg [0, 1] k (fun kq v0 v1 w' => ∃ (x0_1 : Int) (x1_1 : Int), v0 = .int .i64 x0_1 ∧ v1 = .int .i64 x1_1 ∧ Aside0 (impl_gcd.l0 kq x0_1 x1_1 = some r) ∧ Aside0 (kq ≤ k) ∧ Drawn0 w w')
 case atStart => exact ⟨(t541), (t542), (by first | rfl | (simp; done) | (simp [*]; done)), (by first | rfl | (simp; done) | (simp [*]; done)), H', ⟨Nat.le_refl _⟩, by repeat (first | exact Drawn0.refl _ | apply Drawn0.step)⟩
 case round =>
  clear H'
  (try clear p2)
  obtain ⟨x0_1, x1_1, rfl, rfl, HA, HK1, ⟨m1, rfl⟩⟩ := hrel
  cases gk with
  | zero => exact absurd HA.out (by simp [impl_gcd.l0])
  | succ k1 =>
   have H := HA.out
   clear HA
   simp only [impl_gcd.l0] at H
   by_cases c5 : x1_1 = 0
   ·rw [if_pos c5] at H
    have c5b0 : (x1_1 == 0) = true := beq_iff_eq.mpr c5
    have c5b1 : (x1_1 != 0) = false := bne_eq_false_iff_eq.mpr c5
    clear c5
    obtain rfl := Option.some.inj H
    go_wp2
    repeat (go_quiet (fail); try go_wp2)
    go_ret
    exact ⟨by first | rfl | (simp; done) | (simp [*]; done), by repeat (first | exact Drawn0.refl _ | apply Drawn0.step)⟩
   ·rw [if_neg c5] at H
    have c5b0 : (x1_1 == 0) = false := beq_eq_false_iff_ne.mpr c5
    have c5b1 : (x1_1 != 0) = true := bne_iff_ne.mpr c5
    have H' := Aside0.mk H
    clear H
    go_wp2
    repeat (go_quiet (fail); try go_wp2)
    go_roundg k1
    case measure => have := HK1.out; omega
    case rel => exact ⟨(x1_1), (Int.tmod x0_1 x1_1), (by first | rfl | (simp; done) | (simp [*]; done)), (by first | rfl | (simp; done) | (simp [*]; done)), H', ⟨by have := HK1.out; omega⟩, by repeat (first | exact Drawn0.refl _ | apply Drawn0.step)⟩

/-! ### impl_fracOf: function 82 -/
def impl_fracOf.f (k : Nat) (a0 : Int) (a1 : Int) : Option (Int × Int) := (impl_gcd.f k a0 a1).bind fun t544 => (if t544 = 0 then (none) else (some (wrap64 (Int.tdiv a0 t544), wrap64 (Int.tdiv a1 t544))))
theorem impl_fracOf.mono : ∀ a0 a1 k, LeO (impl_fracOf.f k a0 a1) (impl_fracOf.f (k + 1) a0 a1) := by
 intro a0 a1 k
 unfold impl_fracOf.f
 repeat' first
   | (with_reducible exact impl_gcd.mono _ _ _)
   | (with_reducible exact LeO.refl _)
   | (with_reducible exact LeO.none _)
   | (with_reducible refine LeO.ite ?_ ?_)
   | (with_reducible refine LeO.bind ?_ (fun _ => ?_))
   | exact impl_gcd.mono _ _ _
   | exact LeO.none _
   | refine LeO.ite ?_ ?_
   | refine LeO.bind ?_ (fun _ => ?_)
def impl_fracOf.T2 : Bool × List (List Nat × List Nat) := (true, [([], []), ([], []), ([0, 1], [0, 1]), ([], []), ([], []), ([3, 4], [3, 4]), ([2, 5], [2, 5]), ([6, 0, 1, 2, 3, 4, 5, 6], [6])])
def impl_fracOf.B2 : List Nat := [0, 0, 3, 0, 0, 24, 63, 127]
theorem impl_fracOf.tab2 : rtab .any (opsOf Try.f82 2) = impl_fracOf.T2 := by kernel_rfl
theorem impl_fracOf.bits2 : waitsOk impl_fracOf.T2.2 impl_fracOf.B2 = true := by kernel_rfl
set_option maxHeartbeats 8000000 in
set_option maxRecDepth 100000 in
theorem impl_fracOf.calls (k : Nat) (a0 : Int) (a1 : Int) (r1 : Int) (r2 : Int) (w : World) (h : impl_fracOf.f k a0 a1 = some (r1, r2)) :
  Calls Try.prog 82 #[.int .i64 a0, .int .i64 a1] w fun e w' => e = .returned (.agg #[.int .i64 r1, .int .i64 r2]) ∧ Below w.heap.size w w' := by
 have hu58 := Try.underlying58
 have HB := Aside0.mk (Below.refl w.heap.size w)
 have H : ((impl_gcd.f k a0 a1).bind fun t544 => (if t544 = 0 then (none) else (some (wrap64 (Int.tdiv a0 t544), wrap64 (Int.tdiv a1 t544))))) = some (r1, r2) := h
 clear h
 replace H := Option.bind_eq_some_iff.mp H
 obtain ⟨t544, A30, H⟩ := H
 replace H : (if t544 = 0 then (none) else (some (wrap64 (Int.tdiv a0 t544), wrap64 (Int.tdiv a1 t544)))) = some (r1, r2) := H
 have A3 := Aside0.mk A30
 clear A30
 by_cases c4 : t544 = 0
 ·rw [if_pos c4] at H
  exact absurd H (by simp)
 ·rw [if_neg c4] at H
  have c4b0 : (t544 == 0) = false := beq_eq_false_iff_ne.mpr c4
  have c4b1 : (t544 != 0) = true := bne_iff_ne.mpr c4
  simp only [Option.some.injEq, Prod.mk.injEq] at H
  obtain ⟨rfl, rfl⟩ := H
  go_enter Try.func82, Try.ntmps82
  try go_wp2_with (first | ((with_reducible refine gate_dst (N := 4) rfl ?_); refine box_event ?hg (N := 4) ?hd (cs := #[.int .i64 0, .int .i64 0]) (t := 58) ?hr ?_; (case hd => rfl); (case hg => rfl); (case hr => first | (go_simp; done) | (go_simp; rfl)); intro gb543 hg w1 hbox hb; have n0_ := Aside0.mk (below_step (by repeat (first | (with_reducible first | exact HB.out | apply below_alloc | apply pw_below_drewN | apply below_drew1) | exact HB.out)) hb); have n1_ := Aside0.mk (hbox); have n2_ := Aside0.mk (ns hg (by repeat (first | (with_reducible first | exact HB.out | apply below_alloc | apply pw_below_drewN | apply below_drew1) | exact HB.out)) : w.heap.size ≤ gb543); have n3_ := Aside0.mk (ns hg (by repeat (first | (with_reducible first | exact HB.out | apply below_alloc | apply pw_below_drewN | apply below_drew1) | exact HB.out)) : w.heap.size ≤ gb543); clear HB; have HB := n0_; have BK543 := n1_; have GW543 := n2_; have GE543 := n3_; clear n0_ n1_ n2_ n3_; clear hb hbox hg) | ((with_reducible refine gate_callee (f := 96) rfl ?_); refine goesL_ (some 8) rfl rfl Try.func96 (by kernel_rfl) rfl #[.int .i64 a0, .int .i64 a1] rfl (by (try simp only [List.map_toArray, List.map_cons, List.map_nil]); first | done | rfl | (simp only [List.length_drop, List.length_take]; rfl)) ?_; (with_reducible refine (impl_gcd.calls k a0 a1 t544 _ A3.out).mono ?_); rintro e w' ⟨rfl, ⟨nd, rfl⟩⟩; refine ⟨_, rfl, ?_⟩; (try (rw [drewN_self w1]; generalize hq_ : World.drewN w1 _ = w1; have n0_ : Aside0 (w1.heap[gb543]? = some (.cells #[.int .i64 0, .int .i64 0] 58 (0, 0))) := ⟨by rw [← hq_]; exact (zk BK543.out)⟩; have n1_ : Aside0 (Below w.heap.size w w1) := ⟨by rw [← hq_]; exact (by repeat (first | (with_reducible first | exact HB.out | apply below_alloc | apply pw_below_drewN | apply below_drew1 | refine below_set ?_ GE543.out) | exact HB.out))⟩; clear BK543 HB hq_; have BK543 := n0_; have HB := n1_; clear n0_ n1_))))
  have n0_ := Aside0.mk (blk_drew BK543.out)
  have n1_ := Aside0.mk (below_drew1 HB.out)
  clear BK543 HB
  have BK543 := n0_
  have HB := n1_
  clear n0_ n1_
  refine start_ (n := 8) (S := fun w' => True) (ds := []) #[false, false, false, false, false, false, false, false] (by kernel_rfl) rfl rfl trivial (fun hHeld => ?_); refine with_tabW impl_fracOf.tab2 impl_fracOf.bits2 (fun HT_ HW_ => ?_)
  generalize w1.drew = w2 at BK543 HB hHeld ⊢
  refine pure_ (i := 0) (N := some 9) (v := ?_) (a' := ?_) (bz 8 1) rfl rfl (any_of HT_.out (by kernel_rfl)) (fun _ _ _ h => h) (Or.inl ⟨by rfl, ?_⟩) ?_ ?_
  rotate_left
  ·intro w'
   go_simp
   with_reducible rfl
  rotate_left
  ·simp only [Act.put, y1, y2, y3, i64_w, i32_w]
   rfl
  refine pure_ (i := 1) (N := some 10) (v := ?_) (a' := ?_) (bz 8 3) rfl rfl (any_of HT_.out (by kernel_rfl)) (fun _ _ _ h => h) (Or.inl ⟨by rfl, ?_⟩) ?_ ?_
  rotate_left
  ·intro w'
   go_simp
   with_reducible rfl
  rotate_left
  ·simp only [Act.put, y1, y2, y3, i64_w, i32_w]
   rfl
  refine pure_ (i := 2) (N := some 11) (v := ?_) (a' := ?_) (bz 8 7) rfl rfl (any_of HT_.out (by kernel_rfl)) (fun _ _ _ h => h) (Or.inl ⟨by rfl, ?_⟩) ?_ ?_
  rotate_left
  ·intro w'
   go_simp
   with_reducible rfl
  rotate_left
  ·simp only [Act.put, y1, y2, y3, i64_w, i32_w]
   rfl
  refine pure_ (i := 3) (N := some 12) (v := ?_) (a' := ?_) (bz 8 15) rfl rfl (any_of HT_.out (by kernel_rfl)) (fun _ _ _ h => h) (Or.inl ⟨by rfl, ?_⟩) ?_ ?_
  rotate_left
  ·intro w'
   go_simp
   with_reducible rfl
  rotate_left
  ·simp only [Act.put, y1, y2, y3, i64_w, i32_w]
   rfl
  refine pure_ (i := 4) (N := some 13) (v := ?_) (a' := ?_) (bz 8 31) rfl rfl (any_of HT_.out (by kernel_rfl)) (fun _ _ _ h => h) (Or.inl ⟨by rfl, ?_⟩) ?_ ?_
  rotate_left
  ·intro w'
   go_simp
   with_reducible rfl
  rotate_left
  ·simp only [Act.put, y1, y2, y3, i64_w, i32_w]
   rfl
  refine pure_ (i := 5) (N := some 14) (v := ?_) (a' := ?_) (bz 8 63) rfl rfl (any_of HT_.out (by kernel_rfl)) (fun _ _ _ h => h) (Or.inl ⟨by rfl, ?_⟩) ?_ ?_
  rotate_left
  ·intro w'
   go_simp
   with_reducible rfl
  rotate_left
  ·simp only [Act.put, y1, y2, y3, i64_w, i32_w]
   rfl
  refine pure_ (i := 6) (N := some 15) (v := ?_) (a' := ?_) (bz 8 127) rfl rfl (any_of HT_.out (by kernel_rfl)) (fun _ _ _ h => h) (Or.inl ⟨by rfl, ?_⟩) ?_ ?_
  rotate_left
  ·intro w'
   go_simp
   with_reducible rfl
  rotate_left
  ·simp only [Act.put, y1, y2, y3, i64_w, i32_w]
   rfl
  refine one_ (i := 7) (N := none) (bz 8 255) rfl rfl (one_of HT_.out (by kernel_rfl)) (by decide) (fun K hK => ?_)
  have hs7 : w2.cell? ⟨gb543, 0, none⟩ = some (.int .i64 0) := bc BK543.out 0
  have hfs7 := blk_frozen BK543.out 0
  have hs8 : w2.cell? ⟨gb543, 1, none⟩ = some (.int .i64 0) := bc BK543.out 1
  have hfs8 := blk_frozen BK543.out 1
  refine skip_ (w1 := ?_) (by rfl) rfl ?_ ?_
  rotate_left
  ·go_simp
   rfl
  refine hK.out _ _ trivial (fun hHeld => ?_)
  clear hK K
  refine done_ (done_of HT_.out (by kernel_rfl)) ?_
  try go_wp2
  refine bodyPost_ret (results_cell_row rfl _ _ gb543 58 #[.int .i64 (wrap64 (Int.tdiv a0 t544)), .int .i64 (wrap64 (Int.tdiv a1 t544))] (0, 0) _ rfl (by (with_reducible repeat (first | refine blk_drewN ?_ _ | refine blk_drew ?_ | refine blk_alloc ?_ _)); refine blk_put (cs := #[.int .i64 (wrap64 (Int.tdiv a0 t544)), .int .i64 0]) ?_ 1 _ rfl; (with_reducible repeat (first | refine blk_drewN ?_ _ | refine blk_drew ?_ | refine blk_alloc ?_ _)); refine blk_put (cs := #[.int .i64 0, .int .i64 0]) ?_ 0 _ rfl; (with_reducible repeat (first | refine blk_drewN ?_ _ | refine blk_drew ?_ | refine blk_alloc ?_ _)); exact BK543.out) Try.underlying58 rfl (by kernel_rfl)) rfl ?_
  exact ⟨by first | rfl | (simp [errW_none, errW_some] <;> rfl) | (simp [*, errW_none, errW_some] <;> rfl), by repeat (first | (with_reducible first | exact HB.out | apply below_alloc | apply pw_below_drewN | apply below_drew1 | refine below_set ?_ GE543.out) | exact HB.out)⟩

end Go.Proofs.Ytfbokdbaondjdaa.PV1
