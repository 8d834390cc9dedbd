import Derived.Test.YtfbokdbaondjdaaQBehind0
import Derived.Test.YtfbokdbaondjdaaCy
import Derived.Test.YtfbokdbaondjdaaQBehind1
namespace Go.Proofs.Ytfbokdbaondjdaa.PFnExactBehind
open Go.RowKit Go.Proofs.YtfbokdbaondjdaaW.PrintWords Go.Proofs.YtfbokdbaondjdaaW.PrintLast Go.Proofs.YtfbokdbaondjdaaW.PrintMore Go.Proofs.Ytfbokdbaondjdaa.Cz
attribute [local go_sem] max2_int min2_int max_two min_two max_three min_three max_four min_four
set_option linter.unusedVariables false
set_option linter.unusedSimpArgs false

theorem s2_0 {p : Prop} (h : p := by repeat (first | (with_reducible first | exact HB.out | apply below_alloc | apply pw_below_drewN | apply below_drew1 | refine below_set ?_ GE122.out | refine below_set ?_ GE123.out) | exact HB.out)) : p := h
theorem s2_1 {p : Prop} (h : p := by repeat (first | (with_reducible first | exact HB.out | apply below_alloc | apply pw_below_drewN | apply below_drew1 | refine below_set ?_ GE122.out | refine below_set ?_ GE123.out | refine below_set ?_ GE130.out) | exact HB.out)) : p := h
theorem s2_2 {p : Prop} (h : p := by repeat (first | (with_reducible first | exact HB.out | apply below_alloc | apply pw_below_drewN | apply below_drew1 | refine below_set ?_ GE122.out | refine below_set ?_ GE123.out | refine below_set ?_ GE131.out) | exact HB.out)) : p := h
theorem s2_3 {p : Prop} (h : p := by repeat (first | (with_reducible first | exact HB.out | apply below_alloc | apply pw_below_drewN | apply below_drew1 | refine below_set ?_ GE122.out | refine below_set ?_ GE123.out | refine below_set ?_ GE130.out | refine below_set ?_ GE131.out) | exact HB.out)) : p := h
theorem s2_4 {p : Prop} (h : p := by first | (simp only [putAll, Act.put, y1, y2, y3]; done) | (simp only [putAll, Act.put, y1, y2, y3]; rfl)) : p := h
theorem s2_5 {p : Prop} (h : p := by (try simp only [List.map_toArray, List.map_cons, List.map_nil]); first | done | rfl | (simp only [List.length_drop, List.length_take]; rfl)) : p := h
theorem s2_6 {p : Prop} (h : p := by repeat (first | (with_reducible first | exact HB.out | apply below_alloc | apply pw_below_drewN | apply below_drew1 | refine below_set ?_ GE122.out | refine below_set ?_ GE123.out | refine below_set ?_ GE131.out | refine below_set ?_ GE130.out) | exact HB.out)) : p := h
/-! ### spec_Behind: function 28 -/
def spec_Behind.j0 : Nat → Bool → Int → Int → Int → Int → Int → Int → Int → Int → Int → Int → Int → Int → Option (Bool)
 | 0, _, _, _, _, _, _, _, _, _, _, _, _, _ => none
 | k + 1, x16, x123000, x123001, x123002, x123003, x123004, x123005, x124000, x124001, x124002, x124003, x124004, x124005 => if x16 = true then (some false) else ((spec_l8Bearing.f x124000 x124001 x124002 x124003 x124004 x124005 x123000 x123001 x123002 x123003 x123004 x123005).bind fun bt126 => ((spec_l8Way.f x124000 x124001 x124002 x124003 x124004 x124005).bind fun bt128 => ((spec_l8Cross.f bt126.1 bt126.2 bt128.1 bt128.2).bind fun t132 => ((spec_l8Dot.f bt126.1 bt126.2 bt128.1 bt128.2).bind fun t133 => (if t133 < 0 then ((spec_l8Least.f t132 5 t133 29).bind fun t134 => (some t134)) else (some false))))))
def spec_Behind.f (k : Nat) (a0_0 : Int) (a0_1 : Int) (a0_2 : Int) (a0_3 : Int) (a0_4 : Int) (a0_5 : Int) (a1_0 : Int) (a1_1 : Int) (a1_2 : Int) (a1_3 : Int) (a1_4 : Int) (a1_5 : Int) : Option (Bool) := (spec_ShipOk.f a0_0 a0_1 a0_2 a0_3 a0_4 a0_5).bind fun t124 => (if t124 = true then ((spec_ShipOk.f a1_0 a1_1 a1_2 a1_3 a1_4 a1_5).bind fun t125 => (spec_Behind.j0 k (!t125) a0_0 a0_1 a0_2 a0_3 a0_4 a0_5 a1_0 a1_1 a1_2 a1_3 a1_4 a1_5)) else (spec_Behind.j0 k true a0_0 a0_1 a0_2 a0_3 a0_4 a0_5 a1_0 a1_1 a1_2 a1_3 a1_4 a1_5))
theorem spec_Behind.mono_l : ∀ k, (∀ y0 y1 y2 y3 y4 y5 y6 y7 y8 y9 y10 y11 y12, LeO (spec_Behind.j0 k y0 y1 y2 y3 y4 y5 y6 y7 y8 y9 y10 y11 y12) (spec_Behind.j0 (k + 1) y0 y1 y2 y3 y4 y5 y6 y7 y8 y9 y10 y11 y12))
 | 0 => fun _ _ _ _ _ _ _ _ _ _ _ _ _ r h => by simp [spec_Behind.j0] at h
 | k + 1 => by
  have ih0 := spec_Behind.mono_l k
  ·intro y0 y1 y2 y3 y4 y5 y6 y7 y8 y9 y10 y11 y12
   unfold spec_Behind.j0
   repeat' first
   | (with_reducible exact ih0 _ _ _ _ _ _ _ _ _ _ _ _ _)
   | (with_reducible exact LeO.refl _)
   | (with_reducible exact LeO.none _)
   | (with_reducible refine LeO.ite ?_ ?_)
   | (with_reducible refine LeO.bind ?_ (fun _ => ?_))
   | exact ih0 _ _ _ _ _ _ _ _ _ _ _ _ _
   | exact LeO.none _
   | refine LeO.ite ?_ ?_
   | refine LeO.bind ?_ (fun _ => ?_)
theorem spec_Behind.mono : ∀ a0 a1 a2 a3 a4 a5 a6 a7 a8 a9 a10 a11 k, LeO (spec_Behind.f k a0 a1 a2 a3 a4 a5 a6 a7 a8 a9 a10 a11) (spec_Behind.f (k + 1) a0 a1 a2 a3 a4 a5 a6 a7 a8 a9 a10 a11) := by
 intro a0 a1 a2 a3 a4 a5 a6 a7 a8 a9 a10 a11 k
 have ih0 := spec_Behind.mono_l k
 unfold spec_Behind.f
 repeat' first
   | (with_reducible exact ih0 _ _ _ _ _ _ _ _ _ _ _ _ _)
   | (with_reducible exact LeO.refl _)
   | (with_reducible exact LeO.none _)
   | (with_reducible refine LeO.ite ?_ ?_)
   | (with_reducible refine LeO.bind ?_ (fun _ => ?_))
   | exact ih0 _ _ _ _ _ _ _ _ _ _ _ _ _
   | exact LeO.none _
   | refine LeO.ite ?_ ?_
   | refine LeO.bind ?_ (fun _ => ?_)
def spec_Behind.T3 : Bool × List (List Nat × List Nat) := (true, [([], []), ([], []), ([0, 1], [0, 1]), ([], []), ([3, 2], [3]), ([], []), ([], []), ([5, 2, 4, 0, 1, 2, 5, 6], [2, 5]), ([6, 4, 7, 0, 1, 2, 3, 4, 5, 6, 7], [4, 6])])
def spec_Behind.B3 : List Nat := [0, 0, 3, 0, 15, 0, 0, 127, 255]
theorem spec_Behind.tab3 : rtab .any (opsOf Try.f28 3) = spec_Behind.T3 := by kernel_rfl
theorem spec_Behind.bits3 : waitsOk spec_Behind.T3.2 spec_Behind.B3 = true := by kernel_rfl
def spec_Behind.T4 : Bool × List (List Nat × List Nat) := (true, [([], []), ([], []), ([0, 1], [0, 1]), ([], []), ([], []), ([3, 4, 2], [3, 4]), ([2, 5, 0, 1, 2], [2]), ([5, 6, 0, 1, 2, 3, 4, 5, 6], [5])])
def spec_Behind.B4 : List Nat := [0, 0, 3, 0, 0, 31, 63, 127]
theorem spec_Behind.tab4 : rtab .any (opsOf Try.f28 4) = spec_Behind.T4 := by kernel_rfl
theorem spec_Behind.bits4 : waitsOk spec_Behind.T4.2 spec_Behind.B4 = true := by kernel_rfl
set_option maxHeartbeats 8000000 in
set_option maxRecDepth 100000 in
theorem spec_Behind.calls (k : Nat) (a0_0 : Int) (a0_1 : Int) (a0_2 : Int) (a0_3 : Int) (a0_4 : Int) (a0_5 : Int) (a1_0 : Int) (a1_1 : Int) (a1_2 : Int) (a1_3 : Int) (a1_4 : Int) (a1_5 : Int) (r : Bool) (w : World) (h : spec_Behind.f k a0_0 a0_1 a0_2 a0_3 a0_4 a0_5 a1_0 a1_1 a1_2 a1_3 a1_4 a1_5 = some r) :
  Calls Try.prog 28 #[.agg #[.int .i64 a0_0, .int .i64 a0_1, .int .i64 a0_2, .int .i64 a0_3, .int .i64 a0_4, .int .i64 a0_5], .agg #[.int .i64 a1_0, .int .i64 a1_1, .int .i64 a1_2, .int .i64 a1_3, .int .i64 a1_4, .int .i64 a1_5]] w fun e w' => e = .returned (.bool r) ∧ Below w.heap.size w w' := by
 have hu25 := Try.underlying25
 have hu83 := Try.underlying83
 have HB := Aside0.mk (Below.refl w.heap.size w)
 have H : ((spec_ShipOk.f a0_0 a0_1 a0_2 a0_3 a0_4 a0_5).bind fun t124 => (if t124 = true then ((spec_ShipOk.f a1_0 a1_1 a1_2 a1_3 a1_4 a1_5).bind fun t125 => (spec_Behind.j0 k (!t125) a0_0 a0_1 a0_2 a0_3 a0_4 a0_5 a1_0 a1_1 a1_2 a1_3 a1_4 a1_5)) else (spec_Behind.j0 k true a0_0 a0_1 a0_2 a0_3 a0_4 a0_5 a1_0 a1_1 a1_2 a1_3 a1_4 a1_5))) = some r := h
 clear h
 have HC3 := Aside0.mk H
 clear H
 go_enter Try.func28, Try.ntmps28
 go_upto_region 1 with (first | ((with_reducible refine gate_dst (N := 2) rfl ?_); refine box_event ?hg (N := 2) ?hd (cs := #[.int .i64 a0_0, .int .i64 a0_1, .int .i64 a0_2, .int .i64 a0_3, .int .i64 a0_4, .int .i64 a0_5]) (t := 25) ?hr ?_; (case hd => rfl); (case hg => rfl); (case hr => first | (go_simp; done) | (go_simp; rfl)); intro gb122 hg w4 hbox hb; have n0_ := Aside0.mk (below_step (by repeat (first | (with_reducible first | exact HB.out | apply below_alloc | apply pw_below_drewN | apply below_drew1) | exact HB.out)) hb); have n1_ := Aside0.mk (hbox); have n2_ := Aside0.mk (ns hg (by repeat (first | (with_reducible first | exact HB.out | apply below_alloc | apply pw_below_drewN | apply below_drew1) | exact HB.out)) : w.heap.size ≤ gb122); have n3_ := Aside0.mk (ns hg (by repeat (first | (with_reducible first | exact HB.out | apply below_alloc | apply pw_below_drewN | apply below_drew1) | exact HB.out)) : w.heap.size ≤ gb122); clear HB; have HB := n0_; have BK122 := n1_; have GW122 := n2_; have GE122 := n3_; clear n0_ n1_ n2_ n3_; clear hb hbox hg) | ((with_reducible refine gate_dst (N := 3) rfl ?_); refine box_event ?hg (N := 3) ?hd (cs := #[.int .i64 a1_0, .int .i64 a1_1, .int .i64 a1_2, .int .i64 a1_3, .int .i64 a1_4, .int .i64 a1_5]) (t := 25) ?hr ?_; (case hd => rfl); (case hg => rfl); (case hr => first | (go_simp; done) | (go_simp; rfl)); intro gb123 hg w5 hbox hb; have n0_ := Aside0.mk (bb (zk BK122.out) hb); have n1_ := Aside0.mk (below_step (by repeat (first | (with_reducible first | exact HB.out | apply below_alloc | apply pw_below_drewN | apply below_drew1 | refine below_set ?_ GE122.out) | exact HB.out)) hb); have n2_ := Aside0.mk (hbox); have n3_ := Aside0.mk (ns hg (by repeat (first | (with_reducible first | exact HB.out | apply below_alloc | apply pw_below_drewN | apply below_drew1 | refine below_set ?_ GE122.out) | exact HB.out)) : w.heap.size ≤ gb123); have n4_ := Aside0.mk (ns hg (by repeat (first | (with_reducible first | exact HB.out | apply below_alloc | apply pw_below_drewN | apply below_drew1 | refine below_set ?_ GE122.out) | exact HB.out)) : w.heap.size ≤ gb123); have n5_ := Aside0.mk ((nlt hg (zk BK122.out) : gb122 ≠ gb123)); have n6_ := Aside0.mk ((ngt hg (zk BK122.out) : gb123 ≠ gb122)); clear BK122; clear HB; have BK122 := n0_; have HB := n1_; have BK123 := n2_; have GW123 := n3_; have GE123 := n4_; have NB122_123 := n5_; have NB123_122 := n6_; clear n0_ n1_ n2_ n3_ n4_ n5_ n6_; clear hb hbox hg))
 (try simp only [Act.put, List.setIfInBounds_toArray, List.set_cons_zero, List.set_cons_succ])
 go_cut [16] (fun v16 wc => ∃ (kq : Nat) (x16_2 : Bool), v16 = .bool x16_2 ∧ Aside0 (spec_Behind.j0 kq x16_2 a0_0 a0_1 a0_2 a0_3 a0_4 a0_5 a1_0 a1_1 a1_2 a1_3 a1_4 a1_5 = some r) ∧ Aside0 (kq ≤ k) ∧ Aside0 (wc.heap[gb122]? = some (.cells #[.int .i64 a0_0, .int .i64 a0_1, .int .i64 a0_2, .int .i64 a0_3, .int .i64 a0_4, .int .i64 a0_5] 25 (0, 0))) ∧ Aside0 (wc.heap[gb123]? = some (.cells #[.int .i64 a1_0, .int .i64 a1_1, .int .i64 a1_2, .int .i64 a1_3, .int .i64 a1_4, .int .i64 a1_5] 25 (0, 0))) ∧ Aside0 (Below w.heap.size w wc))
 case first =>
  have H := HC3.out
  clear HC3
  replace H := Option.bind_eq_some_iff.mp H
  obtain ⟨t124, A60, H⟩ := H
  replace H : (if t124 = true then ((spec_ShipOk.f a1_0 a1_1 a1_2 a1_3 a1_4 a1_5).bind fun t125 => (spec_Behind.j0 k (!t125) a0_0 a0_1 a0_2 a0_3 a0_4 a0_5 a1_0 a1_1 a1_2 a1_3 a1_4 a1_5)) else (spec_Behind.j0 k true a0_0 a0_1 a0_2 a0_3 a0_4 a0_5 a1_0 a1_1 a1_2 a1_3 a1_4 a1_5)) = some r := H
  have A6 := Aside0.mk A60
  clear A60
  by_cases c7 : t124 = true
  ·subst c7
   have H1 : ((spec_ShipOk.f a1_0 a1_1 a1_2 a1_3 a1_4 a1_5).bind fun t125 => (spec_Behind.j0 k (!t125) a0_0 a0_1 a0_2 a0_3 a0_4 a0_5 a1_0 a1_1 a1_2 a1_3 a1_4 a1_5)) = some r := by rw [if_pos rfl] at H; exact H
   clear H
   have H := H1
   clear H1
   replace H := Option.bind_eq_some_iff.mp H
   obtain ⟨t125, A80, H⟩ := H
   replace H : (spec_Behind.j0 k (!t125) a0_0 a0_1 a0_2 a0_3 a0_4 a0_5 a1_0 a1_1 a1_2 a1_3 a1_4 a1_5) = some r := H
   have A8 := Aside0.mk A80
   clear A80
   have H' := Aside0.mk H
   clear H
   have hnb9 := NB122_123.out
   have hnc9 := NB123_122.out
   have hcz10_0 : w5.cell? ⟨gb122, 0, none⟩ = some (.int .i64 a0_0) := bc BK122.out 0
   have hcz10_1 : w5.cell? ⟨gb122, 1, none⟩ = some (.int .i64 a0_1) := bc BK122.out 1
   have hcz10_2 : w5.cell? ⟨gb122, 2, none⟩ = some (.int .i64 a0_2) := bc BK122.out 2
   have hcz10_3 : w5.cell? ⟨gb122, 3, none⟩ = some (.int .i64 a0_3) := bc BK122.out 3
   have hcz10_4 : w5.cell? ⟨gb122, 4, none⟩ = some (.int .i64 a0_4) := bc BK122.out 4
   have hcz10_5 : w5.cell? ⟨gb122, 5, none⟩ = some (.int .i64 a0_5) := bc BK122.out 5
   have hfz10_0 := blk_frozen BK122.out 0
   have hfz10_1 := blk_frozen BK122.out 1
   have hfz10_2 := blk_frozen BK122.out 2
   have hfz10_3 := blk_frozen BK122.out 3
   have hfz10_4 := blk_frozen BK122.out 4
   have hfz10_5 := blk_frozen BK122.out 5
   go_wp2_with (first | ((with_reducible refine gate_callee (f := 15) rfl ?_); refine goesL_ (some 10) rfl rfl Try.func15 (by kernel_rfl) rfl #[.agg #[.int .i64 a0_0, .int .i64 a0_1, .int .i64 a0_2, .int .i64 a0_3, .int .i64 a0_4, .int .i64 a0_5]] rfl s2_5 ?_; (with_reducible refine (spec_ShipOk.calls a0_0 a0_1 a0_2 a0_3 a0_4 a0_5 true _ A6.out).mono ?_); rintro e w11 ⟨rfl, hb⟩; refine ⟨_, rfl, ?_⟩; have n0_ := Aside0.mk (bb (zk BK122.out) hb); have n1_ := Aside0.mk (bb (zk BK123.out) hb); have n2_ := Aside0.mk (below_step s2_0 hb); clear BK122; clear BK123; clear HB; have BK122 := n0_; have BK123 := n1_; have HB := n2_; clear n0_ n1_ n2_; (try clear hb); (try clear hb2); (try clear hk); (try clear hi); have hcz12_0 : w11.cell? ⟨gb123, 0, none⟩ = some (.int .i64 a1_0) := bc BK123.out 0; have hcz12_1 : w11.cell? ⟨gb123, 1, none⟩ = some (.int .i64 a1_1) := bc BK123.out 1; have hcz12_2 : w11.cell? ⟨gb123, 2, none⟩ = some (.int .i64 a1_2) := bc BK123.out 2; have hcz12_3 : w11.cell? ⟨gb123, 3, none⟩ = some (.int .i64 a1_3) := bc BK123.out 3; have hcz12_4 : w11.cell? ⟨gb123, 4, none⟩ = some (.int .i64 a1_4) := bc BK123.out 4; have hcz12_5 : w11.cell? ⟨gb123, 5, none⟩ = some (.int .i64 a1_5) := bc BK123.out 5; have hfz12_0 := blk_frozen BK123.out 0; have hfz12_1 := blk_frozen BK123.out 1; have hfz12_2 := blk_frozen BK123.out 2; have hfz12_3 := blk_frozen BK123.out 3; have hfz12_4 := blk_frozen BK123.out 4; have hfz12_5 := blk_frozen BK123.out 5) | (go_at_call 15; (with_reducible refine (spec_ShipOk.calls a1_0 a1_1 a1_2 a1_3 a1_4 a1_5 t125 _ A8.out).mono ?_); rintro e w13 ⟨rfl, hb⟩; have n0_ := Aside0.mk (bb (zk BK122.out) hb); have n1_ := Aside0.mk (bb (zk BK123.out) hb); have n2_ := Aside0.mk (below_step s2_0 hb); clear BK122; clear BK123; clear HB; have BK122 := n0_; have BK123 := n1_; have HB := n2_; clear n0_ n1_ n2_; (try clear hb); (try clear hb2); (try clear hk); (try clear hi)))
   go_meet
   case rel => exact ⟨_, (!t125), (by first | rfl | (simp; done) | (simp [*]; done)), H', ⟨by first | omega | exact Nat.le_refl _⟩, ⟨by (with_reducible repeat (first | refine blk_drewN ?_ _ | refine blk_drew ?_ | refine blk_alloc ?_ _)); exact BK122.out⟩, ⟨by (with_reducible repeat (first | refine blk_drewN ?_ _ | refine blk_drew ?_ | refine blk_alloc ?_ _)); exact BK123.out⟩, ⟨by repeat (first | (with_reducible first | exact HB.out | apply below_alloc | apply pw_below_drewN | apply below_drew1 | refine below_set ?_ GE122.out | refine below_set ?_ GE123.out) | exact HB.out)⟩⟩
  ·replace c7 := Bool.eq_false_iff.mpr c7
   subst c7
   have H1 : (spec_Behind.j0 k true a0_0 a0_1 a0_2 a0_3 a0_4 a0_5 a1_0 a1_1 a1_2 a1_3 a1_4 a1_5) = some r := by rw [if_neg (show ¬ (false = true) by decide)] at H; exact H
   clear H
   have H := H1
   clear H1
   have H' := Aside0.mk H
   clear H
   have hnb14 := NB122_123.out
   have hnc14 := NB123_122.out
   have hcz15_0 : w5.cell? ⟨gb122, 0, none⟩ = some (.int .i64 a0_0) := bc BK122.out 0
   have hcz15_1 : w5.cell? ⟨gb122, 1, none⟩ = some (.int .i64 a0_1) := bc BK122.out 1
   have hcz15_2 : w5.cell? ⟨gb122, 2, none⟩ = some (.int .i64 a0_2) := bc BK122.out 2
   have hcz15_3 : w5.cell? ⟨gb122, 3, none⟩ = some (.int .i64 a0_3) := bc BK122.out 3
   have hcz15_4 : w5.cell? ⟨gb122, 4, none⟩ = some (.int .i64 a0_4) := bc BK122.out 4
   have hcz15_5 : w5.cell? ⟨gb122, 5, none⟩ = some (.int .i64 a0_5) := bc BK122.out 5
   have hfz15_0 := blk_frozen BK122.out 0
   have hfz15_1 := blk_frozen BK122.out 1
   have hfz15_2 := blk_frozen BK122.out 2
   have hfz15_3 := blk_frozen BK122.out 3
   have hfz15_4 := blk_frozen BK122.out 4
   have hfz15_5 := blk_frozen BK122.out 5
   go_wp2_with (first | ((with_reducible refine gate_callee (f := 15) rfl ?_); refine goesL_ (some 10) rfl rfl Try.func15 (by kernel_rfl) rfl #[.agg #[.int .i64 a0_0, .int .i64 a0_1, .int .i64 a0_2, .int .i64 a0_3, .int .i64 a0_4, .int .i64 a0_5]] rfl s2_5 ?_; (with_reducible refine (spec_ShipOk.calls a0_0 a0_1 a0_2 a0_3 a0_4 a0_5 false _ A6.out).mono ?_); rintro e w16 ⟨rfl, hb⟩; refine ⟨_, rfl, ?_⟩; have n0_ := Aside0.mk (bb (zk BK122.out) hb); have n1_ := Aside0.mk (bb (zk BK123.out) hb); have n2_ := Aside0.mk (below_step s2_0 hb); clear BK122; clear BK123; clear HB; have BK122 := n0_; have BK123 := n1_; have HB := n2_; clear n0_ n1_ n2_; (try clear hb); (try clear hb2); (try clear hk); (try clear hi)))
   go_meet
   case rel => exact ⟨_, (true), (by first | rfl | (simp; done) | (simp [*]; done)), H', ⟨by first | omega | exact Nat.le_refl _⟩, ⟨by (with_reducible repeat (first | refine blk_drewN ?_ _ | refine blk_drew ?_ | refine blk_alloc ?_ _)); exact BK122.out⟩, ⟨by (with_reducible repeat (first | refine blk_drewN ?_ _ | refine blk_drew ?_ | refine blk_alloc ?_ _)); exact BK123.out⟩, ⟨by repeat (first | (with_reducible first | exact HB.out | apply below_alloc | apply pw_below_drewN | apply below_drew1 | refine below_set ?_ GE122.out | refine below_set ?_ GE123.out) | exact HB.out)⟩⟩
 case rest =>
  clear HC3
  (try clear c1); (try clear c2); (try clear p2); (try clear c7); (try clear c9); (try clear c14); (try clear c15); (try clear hcz10_0); (try clear hcz10_1); (try clear hcz10_2); (try clear hcz10_3); (try clear hcz10_4); (try clear hcz10_5); (try clear hcz12_0); (try clear hcz12_1); (try clear hcz12_2); (try clear hcz12_3); (try clear hcz12_4); (try clear hcz12_5); (try clear hcz15_0); (try clear hcz15_1); (try clear hcz15_2); (try clear hcz15_3); (try clear hcz15_4); (try clear hcz15_5); (try clear hfz10_0); (try clear hfz10_1); (try clear hfz10_2); (try clear hfz10_3); (try clear hfz10_4); (try clear hfz10_5); (try clear hfz12_0); (try clear hfz12_1); (try clear hfz12_2); (try clear hfz12_3); (try clear hfz12_4); (try clear hfz12_5); (try clear hfz15_0); (try clear hfz15_1); (try clear hfz15_2); (try clear hfz15_3); (try clear hfz15_4); (try clear hfz15_5)
  obtain ⟨kq, x16_2, rfl, HA, HJ2, BK122, BK123, HB⟩ := hcut
  cases kq with
  | zero => exact absurd HA.out (by simp [spec_Behind.j0])
  | succ kj2 =>
   have H := HA.out
   clear HA
   simp only [spec_Behind.j0] at H
   by_cases c17 : x16_2 = true
   ·subst c17
    have H1 : (some false) = some r := by rw [if_pos rfl] at H; exact H
    clear H
    have H := H1
    clear H1
    obtain rfl := Option.some.inj H
    go_wp2
    go_ret
    exact ⟨by first | rfl | (simp [errW_none, errW_some] <;> rfl) | (simp [*, errW_none, errW_some] <;> rfl), by repeat (first | (with_reducible first | exact HB.out | apply below_alloc | apply pw_below_drewN | apply below_drew1 | refine below_set ?_ GE122.out | refine below_set ?_ GE123.out) | exact HB.out)⟩
   ·replace c17 := Bool.eq_false_iff.mpr c17
    subst c17
    have H1 : ((spec_l8Bearing.f a1_0 a1_1 a1_2 a1_3 a1_4 a1_5 a0_0 a0_1 a0_2 a0_3 a0_4 a0_5).bind fun bt126 => ((spec_l8Way.f a1_0 a1_1 a1_2 a1_3 a1_4 a1_5).bind fun bt128 => ((spec_l8Cross.f bt126.1 bt126.2 bt128.1 bt128.2).bind fun t132 => ((spec_l8Dot.f bt126.1 bt126.2 bt128.1 bt128.2).bind fun t133 => (if t133 < 0 then ((spec_l8Least.f t132 5 t133 29).bind fun t134 => (some t134)) else (some false)))))) = some r := by rw [if_neg (show ¬ (false = true) by decide)] at H; exact H
    clear H
    have H := H1
    clear H1
    replace H := Option.bind_eq_some_iff.mp H
    obtain ⟨⟨t126, t127⟩, A180, H⟩ := H
    replace H : ((spec_l8Way.f a1_0 a1_1 a1_2 a1_3 a1_4 a1_5).bind fun bt128 => ((spec_l8Cross.f t126 t127 bt128.1 bt128.2).bind fun t132 => ((spec_l8Dot.f t126 t127 bt128.1 bt128.2).bind fun t133 => (if t133 < 0 then ((spec_l8Least.f t132 5 t133 29).bind fun t134 => (some t134)) else (some false))))) = some r := H
    have A18 := Aside0.mk A180
    clear A180
    replace H := Option.bind_eq_some_iff.mp H
    obtain ⟨⟨t128, t129⟩, A190, H⟩ := H
    replace H : ((spec_l8Cross.f t126 t127 t128 t129).bind fun t132 => ((spec_l8Dot.f t126 t127 t128 t129).bind fun t133 => (if t133 < 0 then ((spec_l8Least.f t132 5 t133 29).bind fun t134 => (some t134)) else (some false)))) = some r := H
    have A19 := Aside0.mk A190
    clear A190
    replace H := Option.bind_eq_some_iff.mp H
    obtain ⟨t132, A200, H⟩ := H
    replace H : ((spec_l8Dot.f t126 t127 t128 t129).bind fun t133 => (if t133 < 0 then ((spec_l8Least.f t132 5 t133 29).bind fun t134 => (some t134)) else (some false))) = some r := H
    have A20 := Aside0.mk A200
    clear A200
    replace H := Option.bind_eq_some_iff.mp H
    obtain ⟨t133, A210, H⟩ := H
    replace H : (if t133 < 0 then ((spec_l8Least.f t132 5 t133 29).bind fun t134 => (some t134)) else (some false)) = some r := H
    have A21 := Aside0.mk A210
    clear A210
    by_cases c22 : t133 < 0
    ·rw [if_pos c22] at H
     have c22b0 : decide (t133 < 0) = true := decide_eq_true c22
     clear c22
     replace H := Option.bind_eq_some_iff.mp H
     obtain ⟨t134, A230, H⟩ := H
     replace H : (some t134) = some r := H
     have A23 := Aside0.mk A230
     clear A230
     obtain rfl := Option.some.inj H
     try go_wp2
     have n0_ := Aside0.mk (blk_drew BK122.out)
     have n1_ := Aside0.mk (blk_drew BK123.out)
     have n2_ := Aside0.mk (below_drew1 HB.out)
     clear BK122 BK123 HB
     have BK122 := n0_
     have BK123 := n1_
     have HB := n2_
     clear n0_ n1_ n2_
     refine start_ (n := 9) (S := fun w' => w'.cell? ⟨gb123, 0, none⟩ = some (.int .i64 a1_0) ∧ w'.cell? ⟨gb123, 1, none⟩ = some (.int .i64 a1_1) ∧ w'.cell? ⟨gb123, 2, none⟩ = some (.int .i64 a1_2) ∧ w'.cell? ⟨gb123, 3, none⟩ = some (.int .i64 a1_3) ∧ w'.cell? ⟨gb123, 4, none⟩ = some (.int .i64 a1_4) ∧ w'.cell? ⟨gb123, 5, none⟩ = some (.int .i64 a1_5) ∧ w'.cell? ⟨gb122, 0, none⟩ = some (.int .i64 a0_0) ∧ w'.cell? ⟨gb122, 1, none⟩ = some (.int .i64 a0_1) ∧ w'.cell? ⟨gb122, 2, none⟩ = some (.int .i64 a0_2) ∧ w'.cell? ⟨gb122, 3, none⟩ = some (.int .i64 a0_3) ∧ w'.cell? ⟨gb122, 4, none⟩ = some (.int .i64 a0_4) ∧ w'.cell? ⟨gb122, 5, none⟩ = some (.int .i64 a0_5)) (ds := []) #[false, false, false, false, false, false, false, false, false] (by kernel_rfl) rfl rfl ⟨bc BK123.out 0, bc BK123.out 1, bc BK123.out 2, bc BK123.out 3, bc BK123.out 4, bc BK123.out 5, bc BK122.out 0, bc BK122.out 1, bc BK122.out 2, bc BK122.out 3, bc BK122.out 4, bc BK122.out 5⟩ (fun hHeld => ?_); refine with_tabW spec_Behind.tab3 spec_Behind.bits3 (fun HT_ HW_ => ?_)
     generalize wc.drew = w24 at BK122 BK123 HB hHeld ⊢
     refine take_ (i := 0) (N := some 17) (v := ?_) (a' := ?_) (bz 9 1) rfl rfl (take_ofW HT_.out HW_.out (by kernel_rfl)) (fun _ _ _ h => h) (Or.inl ⟨by rfl, ?_⟩) hHeld ?_ ?_
     rotate_left
     ·rintro w' ⟨s0, s1, s2, s3, s4, s5, s6, s7, s8, s9, s10, s11⟩
      go_simp
      with_reducible rfl
     rotate_left
     ·simp only [Act.put, y1, y2, y3, i64_w, i32_w]
      rfl
     refine take_ (i := 1) (N := some 18) (v := ?_) (a' := ?_) (bz 9 3) rfl rfl (take_ofW HT_.out HW_.out (by kernel_rfl)) (fun _ _ _ h => h) (Or.inl ⟨by rfl, ?_⟩) hHeld ?_ ?_
     rotate_left
     ·rintro w' ⟨s0, s1, s2, s3, s4, s5, s6, s7, s8, s9, s10, s11⟩
      go_simp
      with_reducible rfl
     rotate_left
     ·simp only [Act.put, y1, y2, y3, i64_w, i32_w]
      rfl
     refine take_ (i := 3) (N := some 20) (v := ?_) (a' := ?_) (bz 9 11) rfl rfl (take_ofW HT_.out HW_.out (by kernel_rfl)) (fun _ _ _ h => h) (Or.inl ⟨by rfl, ?_⟩) hHeld ?_ ?_
     rotate_left
     ·rintro w' ⟨s0, s1, s2, s3, s4, s5, s6, s7, s8, s9, s10, s11⟩
      go_simp
      with_reducible rfl
     rotate_left
     ·simp only [Act.put, y1, y2, y3, i64_w, i32_w]
      rfl
     refine join_ (σ := Nat × Nat) 2 (bz 9 127) (fun s_ => [(19, .agg #[.int .i64 t126, .int .i64 t127]), (21, .agg #[.int .i64 t128, .int .i64 t129]), (5, .pointer (some ⟨s_.1, 0, none⟩)), (6, .pointer (some ⟨s_.2, 0, none⟩))]) (fun s_ w' => (w'.cell? ⟨gb123, 0, none⟩ = some (.int .i64 a1_0) ∧ w'.cell? ⟨gb123, 1, none⟩ = some (.int .i64 a1_1) ∧ w'.cell? ⟨gb123, 2, none⟩ = some (.int .i64 a1_2) ∧ w'.cell? ⟨gb123, 3, none⟩ = some (.int .i64 a1_3) ∧ w'.cell? ⟨gb123, 4, none⟩ = some (.int .i64 a1_4) ∧ w'.cell? ⟨gb123, 5, none⟩ = some (.int .i64 a1_5) ∧ w'.cell? ⟨gb122, 0, none⟩ = some (.int .i64 a0_0) ∧ w'.cell? ⟨gb122, 1, none⟩ = some (.int .i64 a0_1) ∧ w'.cell? ⟨gb122, 2, none⟩ = some (.int .i64 a0_2) ∧ w'.cell? ⟨gb122, 3, none⟩ = some (.int .i64 a0_3) ∧ w'.cell? ⟨gb122, 4, none⟩ = some (.int .i64 a0_4) ∧ w'.cell? ⟨gb122, 5, none⟩ = some (.int .i64 a0_5)) ∧ (w'.heap[gb122]? = some (.cells #[.int .i64 a0_0, .int .i64 a0_1, .int .i64 a0_2, .int .i64 a0_3, .int .i64 a0_4, .int .i64 a0_5] 25 (0, 0))) ∧ (w'.heap[gb123]? = some (.cells #[.int .i64 a1_0, .int .i64 a1_1, .int .i64 a1_2, .int .i64 a1_3, .int .i64 a1_4, .int .i64 a1_5] 25 (0, 0))) ∧ (w'.heap[s_.1]? = some (.cells #[.int .i64 0, .int .i64 0] 83 (0, 0))) ∧ (w'.heap[s_.2]? = some (.cells #[.int .i64 0, .int .i64 0] 83 (0, 0))) ∧ (w.heap.size ≤ s_.1) ∧ (w.heap.size ≤ s_.1) ∧ (gb122 ≠ s_.1) ∧ (s_.1 ≠ gb122) ∧ (gb123 ≠ s_.1) ∧ (s_.1 ≠ gb123) ∧ (s_.2 ≠ s_.1) ∧ (s_.1 ≠ s_.2) ∧ (w.heap.size ≤ s_.2) ∧ (w.heap.size ≤ s_.2) ∧ (gb122 ≠ s_.2) ∧ (s_.2 ≠ gb122) ∧ (gb123 ≠ s_.2) ∧ (s_.2 ≠ gb123) ∧ (Below w.heap.size w w')) ?_ ?_
     rotate_left
     ·intro hJ2_4_5_6
      refine join_ (σ := Nat) 3 (bz 9 63) (fun s_ => [(19, .agg #[.int .i64 t126, .int .i64 t127]), (21, .agg #[.int .i64 t128, .int .i64 t129]), (5, .pointer (some ⟨s_, 0, none⟩))]) (fun s_ w' => (w'.cell? ⟨gb123, 0, none⟩ = some (.int .i64 a1_0) ∧ w'.cell? ⟨gb123, 1, none⟩ = some (.int .i64 a1_1) ∧ w'.cell? ⟨gb123, 2, none⟩ = some (.int .i64 a1_2) ∧ w'.cell? ⟨gb123, 3, none⟩ = some (.int .i64 a1_3) ∧ w'.cell? ⟨gb123, 4, none⟩ = some (.int .i64 a1_4) ∧ w'.cell? ⟨gb123, 5, none⟩ = some (.int .i64 a1_5) ∧ w'.cell? ⟨gb122, 0, none⟩ = some (.int .i64 a0_0) ∧ w'.cell? ⟨gb122, 1, none⟩ = some (.int .i64 a0_1) ∧ w'.cell? ⟨gb122, 2, none⟩ = some (.int .i64 a0_2) ∧ w'.cell? ⟨gb122, 3, none⟩ = some (.int .i64 a0_3) ∧ w'.cell? ⟨gb122, 4, none⟩ = some (.int .i64 a0_4) ∧ w'.cell? ⟨gb122, 5, none⟩ = some (.int .i64 a0_5)) ∧ (w'.heap[gb122]? = some (.cells #[.int .i64 a0_0, .int .i64 a0_1, .int .i64 a0_2, .int .i64 a0_3, .int .i64 a0_4, .int .i64 a0_5] 25 (0, 0))) ∧ (w'.heap[gb123]? = some (.cells #[.int .i64 a1_0, .int .i64 a1_1, .int .i64 a1_2, .int .i64 a1_3, .int .i64 a1_4, .int .i64 a1_5] 25 (0, 0))) ∧ (w'.heap[s_]? = some (.cells #[.int .i64 0, .int .i64 0] 83 (0, 0))) ∧ (w.heap.size ≤ s_) ∧ (w.heap.size ≤ s_) ∧ (gb122 ≠ s_) ∧ (s_ ≠ gb122) ∧ (gb123 ≠ s_) ∧ (s_ ≠ gb123) ∧ (Below w.heap.size w w')) ?_ ?_
      rotate_left
      ·intro hJ2_4_5
       refine join_ (σ := Nat) 3 (bz 9 95) (fun s_ => [(19, .agg #[.int .i64 t126, .int .i64 t127]), (21, .agg #[.int .i64 t128, .int .i64 t129]), (6, .pointer (some ⟨s_, 0, none⟩))]) (fun s_ w' => (w'.cell? ⟨gb123, 0, none⟩ = some (.int .i64 a1_0) ∧ w'.cell? ⟨gb123, 1, none⟩ = some (.int .i64 a1_1) ∧ w'.cell? ⟨gb123, 2, none⟩ = some (.int .i64 a1_2) ∧ w'.cell? ⟨gb123, 3, none⟩ = some (.int .i64 a1_3) ∧ w'.cell? ⟨gb123, 4, none⟩ = some (.int .i64 a1_4) ∧ w'.cell? ⟨gb123, 5, none⟩ = some (.int .i64 a1_5) ∧ w'.cell? ⟨gb122, 0, none⟩ = some (.int .i64 a0_0) ∧ w'.cell? ⟨gb122, 1, none⟩ = some (.int .i64 a0_1) ∧ w'.cell? ⟨gb122, 2, none⟩ = some (.int .i64 a0_2) ∧ w'.cell? ⟨gb122, 3, none⟩ = some (.int .i64 a0_3) ∧ w'.cell? ⟨gb122, 4, none⟩ = some (.int .i64 a0_4) ∧ w'.cell? ⟨gb122, 5, none⟩ = some (.int .i64 a0_5)) ∧ (w'.heap[gb122]? = some (.cells #[.int .i64 a0_0, .int .i64 a0_1, .int .i64 a0_2, .int .i64 a0_3, .int .i64 a0_4, .int .i64 a0_5] 25 (0, 0))) ∧ (w'.heap[gb123]? = some (.cells #[.int .i64 a1_0, .int .i64 a1_1, .int .i64 a1_2, .int .i64 a1_3, .int .i64 a1_4, .int .i64 a1_5] 25 (0, 0))) ∧ (w'.heap[s_]? = some (.cells #[.int .i64 0, .int .i64 0] 83 (0, 0))) ∧ (w.heap.size ≤ s_) ∧ (w.heap.size ≤ s_) ∧ (gb122 ≠ s_) ∧ (s_ ≠ gb122) ∧ (gb123 ≠ s_) ∧ (s_ ≠ gb123) ∧ (Below w.heap.size w w')) ?_ ?_
       rotate_left
       ·intro hJ2_4_6
        refine join_ (σ := Nat × Nat) 3 (bz 9 111) (fun s_ => [(19, .agg #[.int .i64 t126, .int .i64 t127]), (5, .pointer (some ⟨s_.1, 0, none⟩)), (6, .pointer (some ⟨s_.2, 0, none⟩))]) (fun s_ w' => (w'.cell? ⟨gb123, 0, none⟩ = some (.int .i64 a1_0) ∧ w'.cell? ⟨gb123, 1, none⟩ = some (.int .i64 a1_1) ∧ w'.cell? ⟨gb123, 2, none⟩ = some (.int .i64 a1_2) ∧ w'.cell? ⟨gb123, 3, none⟩ = some (.int .i64 a1_3) ∧ w'.cell? ⟨gb123, 4, none⟩ = some (.int .i64 a1_4) ∧ w'.cell? ⟨gb123, 5, none⟩ = some (.int .i64 a1_5) ∧ w'.cell? ⟨gb122, 0, none⟩ = some (.int .i64 a0_0) ∧ w'.cell? ⟨gb122, 1, none⟩ = some (.int .i64 a0_1) ∧ w'.cell? ⟨gb122, 2, none⟩ = some (.int .i64 a0_2) ∧ w'.cell? ⟨gb122, 3, none⟩ = some (.int .i64 a0_3) ∧ w'.cell? ⟨gb122, 4, none⟩ = some (.int .i64 a0_4) ∧ w'.cell? ⟨gb122, 5, none⟩ = some (.int .i64 a0_5)) ∧ (w'.heap[gb122]? = some (.cells #[.int .i64 a0_0, .int .i64 a0_1, .int .i64 a0_2, .int .i64 a0_3, .int .i64 a0_4, .int .i64 a0_5] 25 (0, 0))) ∧ (w'.heap[gb123]? = some (.cells #[.int .i64 a1_0, .int .i64 a1_1, .int .i64 a1_2, .int .i64 a1_3, .int .i64 a1_4, .int .i64 a1_5] 25 (0, 0))) ∧ (w'.heap[s_.1]? = some (.cells #[.int .i64 0, .int .i64 0] 83 (0, 0))) ∧ (w'.heap[s_.2]? = some (.cells #[.int .i64 0, .int .i64 0] 83 (0, 0))) ∧ (w.heap.size ≤ s_.1) ∧ (w.heap.size ≤ s_.1) ∧ (gb122 ≠ s_.1) ∧ (s_.1 ≠ gb122) ∧ (gb123 ≠ s_.1) ∧ (s_.1 ≠ gb123) ∧ (s_.2 ≠ s_.1) ∧ (s_.1 ≠ s_.2) ∧ (w.heap.size ≤ s_.2) ∧ (w.heap.size ≤ s_.2) ∧ (gb122 ≠ s_.2) ∧ (s_.2 ≠ gb122) ∧ (gb123 ≠ s_.2) ∧ (s_.2 ≠ gb123) ∧ (Below w.heap.size w w')) ?_ ?_
        rotate_left
        ·intro hJ2_5_6
         refine join_ (σ := Unit) 4 (bz 9 31) (fun s_ => [(19, .agg #[.int .i64 t126, .int .i64 t127]), (21, .agg #[.int .i64 t128, .int .i64 t129])]) (fun s_ w' => (w'.cell? ⟨gb123, 0, none⟩ = some (.int .i64 a1_0) ∧ w'.cell? ⟨gb123, 1, none⟩ = some (.int .i64 a1_1) ∧ w'.cell? ⟨gb123, 2, none⟩ = some (.int .i64 a1_2) ∧ w'.cell? ⟨gb123, 3, none⟩ = some (.int .i64 a1_3) ∧ w'.cell? ⟨gb123, 4, none⟩ = some (.int .i64 a1_4) ∧ w'.cell? ⟨gb123, 5, none⟩ = some (.int .i64 a1_5) ∧ w'.cell? ⟨gb122, 0, none⟩ = some (.int .i64 a0_0) ∧ w'.cell? ⟨gb122, 1, none⟩ = some (.int .i64 a0_1) ∧ w'.cell? ⟨gb122, 2, none⟩ = some (.int .i64 a0_2) ∧ w'.cell? ⟨gb122, 3, none⟩ = some (.int .i64 a0_3) ∧ w'.cell? ⟨gb122, 4, none⟩ = some (.int .i64 a0_4) ∧ w'.cell? ⟨gb122, 5, none⟩ = some (.int .i64 a0_5)) ∧ (w'.heap[gb122]? = some (.cells #[.int .i64 a0_0, .int .i64 a0_1, .int .i64 a0_2, .int .i64 a0_3, .int .i64 a0_4, .int .i64 a0_5] 25 (0, 0))) ∧ (w'.heap[gb123]? = some (.cells #[.int .i64 a1_0, .int .i64 a1_1, .int .i64 a1_2, .int .i64 a1_3, .int .i64 a1_4, .int .i64 a1_5] 25 (0, 0))) ∧ (Below w.heap.size w w')) ?_ ?_
         rotate_left
         ·intro hJ2_4
          refine join_ (σ := Nat) 4 (bz 9 47) (fun s_ => [(19, .agg #[.int .i64 t126, .int .i64 t127]), (5, .pointer (some ⟨s_, 0, none⟩))]) (fun s_ w' => (w'.cell? ⟨gb123, 0, none⟩ = some (.int .i64 a1_0) ∧ w'.cell? ⟨gb123, 1, none⟩ = some (.int .i64 a1_1) ∧ w'.cell? ⟨gb123, 2, none⟩ = some (.int .i64 a1_2) ∧ w'.cell? ⟨gb123, 3, none⟩ = some (.int .i64 a1_3) ∧ w'.cell? ⟨gb123, 4, none⟩ = some (.int .i64 a1_4) ∧ w'.cell? ⟨gb123, 5, none⟩ = some (.int .i64 a1_5) ∧ w'.cell? ⟨gb122, 0, none⟩ = some (.int .i64 a0_0) ∧ w'.cell? ⟨gb122, 1, none⟩ = some (.int .i64 a0_1) ∧ w'.cell? ⟨gb122, 2, none⟩ = some (.int .i64 a0_2) ∧ w'.cell? ⟨gb122, 3, none⟩ = some (.int .i64 a0_3) ∧ w'.cell? ⟨gb122, 4, none⟩ = some (.int .i64 a0_4) ∧ w'.cell? ⟨gb122, 5, none⟩ = some (.int .i64 a0_5)) ∧ (w'.heap[gb122]? = some (.cells #[.int .i64 a0_0, .int .i64 a0_1, .int .i64 a0_2, .int .i64 a0_3, .int .i64 a0_4, .int .i64 a0_5] 25 (0, 0))) ∧ (w'.heap[gb123]? = some (.cells #[.int .i64 a1_0, .int .i64 a1_1, .int .i64 a1_2, .int .i64 a1_3, .int .i64 a1_4, .int .i64 a1_5] 25 (0, 0))) ∧ (w'.heap[s_]? = some (.cells #[.int .i64 0, .int .i64 0] 83 (0, 0))) ∧ (w.heap.size ≤ s_) ∧ (w.heap.size ≤ s_) ∧ (gb122 ≠ s_) ∧ (s_ ≠ gb122) ∧ (gb123 ≠ s_) ∧ (s_ ≠ gb123) ∧ (Below w.heap.size w w')) ?_ ?_
          rotate_left
          ·intro hJ2_5
           refine join_ (σ := Nat) 4 (bz 9 79) (fun s_ => [(19, .agg #[.int .i64 t126, .int .i64 t127]), (6, .pointer (some ⟨s_, 0, none⟩))]) (fun s_ w' => (w'.cell? ⟨gb123, 0, none⟩ = some (.int .i64 a1_0) ∧ w'.cell? ⟨gb123, 1, none⟩ = some (.int .i64 a1_1) ∧ w'.cell? ⟨gb123, 2, none⟩ = some (.int .i64 a1_2) ∧ w'.cell? ⟨gb123, 3, none⟩ = some (.int .i64 a1_3) ∧ w'.cell? ⟨gb123, 4, none⟩ = some (.int .i64 a1_4) ∧ w'.cell? ⟨gb123, 5, none⟩ = some (.int .i64 a1_5) ∧ w'.cell? ⟨gb122, 0, none⟩ = some (.int .i64 a0_0) ∧ w'.cell? ⟨gb122, 1, none⟩ = some (.int .i64 a0_1) ∧ w'.cell? ⟨gb122, 2, none⟩ = some (.int .i64 a0_2) ∧ w'.cell? ⟨gb122, 3, none⟩ = some (.int .i64 a0_3) ∧ w'.cell? ⟨gb122, 4, none⟩ = some (.int .i64 a0_4) ∧ w'.cell? ⟨gb122, 5, none⟩ = some (.int .i64 a0_5)) ∧ (w'.heap[gb122]? = some (.cells #[.int .i64 a0_0, .int .i64 a0_1, .int .i64 a0_2, .int .i64 a0_3, .int .i64 a0_4, .int .i64 a0_5] 25 (0, 0))) ∧ (w'.heap[gb123]? = some (.cells #[.int .i64 a1_0, .int .i64 a1_1, .int .i64 a1_2, .int .i64 a1_3, .int .i64 a1_4, .int .i64 a1_5] 25 (0, 0))) ∧ (w'.heap[s_]? = some (.cells #[.int .i64 0, .int .i64 0] 83 (0, 0))) ∧ (w.heap.size ≤ s_) ∧ (w.heap.size ≤ s_) ∧ (gb122 ≠ s_) ∧ (s_ ≠ gb122) ∧ (gb123 ≠ s_) ∧ (s_ ≠ gb123) ∧ (Below w.heap.size w w')) ?_ ?_
           rotate_left
           ·intro hJ2_6
            refine join_ (σ := Nat × Nat) 4 (bz 9 107) (fun s_ => [(5, .pointer (some ⟨s_.1, 0, none⟩)), (6, .pointer (some ⟨s_.2, 0, none⟩))]) (fun s_ w' => (w'.cell? ⟨gb123, 0, none⟩ = some (.int .i64 a1_0) ∧ w'.cell? ⟨gb123, 1, none⟩ = some (.int .i64 a1_1) ∧ w'.cell? ⟨gb123, 2, none⟩ = some (.int .i64 a1_2) ∧ w'.cell? ⟨gb123, 3, none⟩ = some (.int .i64 a1_3) ∧ w'.cell? ⟨gb123, 4, none⟩ = some (.int .i64 a1_4) ∧ w'.cell? ⟨gb123, 5, none⟩ = some (.int .i64 a1_5) ∧ w'.cell? ⟨gb122, 0, none⟩ = some (.int .i64 a0_0) ∧ w'.cell? ⟨gb122, 1, none⟩ = some (.int .i64 a0_1) ∧ w'.cell? ⟨gb122, 2, none⟩ = some (.int .i64 a0_2) ∧ w'.cell? ⟨gb122, 3, none⟩ = some (.int .i64 a0_3) ∧ w'.cell? ⟨gb122, 4, none⟩ = some (.int .i64 a0_4) ∧ w'.cell? ⟨gb122, 5, none⟩ = some (.int .i64 a0_5)) ∧ (w'.heap[gb122]? = some (.cells #[.int .i64 a0_0, .int .i64 a0_1, .int .i64 a0_2, .int .i64 a0_3, .int .i64 a0_4, .int .i64 a0_5] 25 (0, 0))) ∧ (w'.heap[gb123]? = some (.cells #[.int .i64 a1_0, .int .i64 a1_1, .int .i64 a1_2, .int .i64 a1_3, .int .i64 a1_4, .int .i64 a1_5] 25 (0, 0))) ∧ (w'.heap[s_.1]? = some (.cells #[.int .i64 0, .int .i64 0] 83 (0, 0))) ∧ (w'.heap[s_.2]? = some (.cells #[.int .i64 0, .int .i64 0] 83 (0, 0))) ∧ (w.heap.size ≤ s_.1) ∧ (w.heap.size ≤ s_.1) ∧ (gb122 ≠ s_.1) ∧ (s_.1 ≠ gb122) ∧ (gb123 ≠ s_.1) ∧ (s_.1 ≠ gb123) ∧ (s_.2 ≠ s_.1) ∧ (s_.1 ≠ s_.2) ∧ (w.heap.size ≤ s_.2) ∧ (w.heap.size ≤ s_.2) ∧ (gb122 ≠ s_.2) ∧ (s_.2 ≠ gb122) ∧ (gb123 ≠ s_.2) ∧ (s_.2 ≠ gb123) ∧ (Below w.heap.size w w')) ?_ ?_
            rotate_left
            ·intro hJ5_6
             refine join_ (σ := Unit) 5 (bz 9 15) (fun s_ => [(19, .agg #[.int .i64 t126, .int .i64 t127])]) (fun s_ w' => (w'.cell? ⟨gb123, 0, none⟩ = some (.int .i64 a1_0) ∧ w'.cell? ⟨gb123, 1, none⟩ = some (.int .i64 a1_1) ∧ w'.cell? ⟨gb123, 2, none⟩ = some (.int .i64 a1_2) ∧ w'.cell? ⟨gb123, 3, none⟩ = some (.int .i64 a1_3) ∧ w'.cell? ⟨gb123, 4, none⟩ = some (.int .i64 a1_4) ∧ w'.cell? ⟨gb123, 5, none⟩ = some (.int .i64 a1_5) ∧ w'.cell? ⟨gb122, 0, none⟩ = some (.int .i64 a0_0) ∧ w'.cell? ⟨gb122, 1, none⟩ = some (.int .i64 a0_1) ∧ w'.cell? ⟨gb122, 2, none⟩ = some (.int .i64 a0_2) ∧ w'.cell? ⟨gb122, 3, none⟩ = some (.int .i64 a0_3) ∧ w'.cell? ⟨gb122, 4, none⟩ = some (.int .i64 a0_4) ∧ w'.cell? ⟨gb122, 5, none⟩ = some (.int .i64 a0_5)) ∧ (w'.heap[gb122]? = some (.cells #[.int .i64 a0_0, .int .i64 a0_1, .int .i64 a0_2, .int .i64 a0_3, .int .i64 a0_4, .int .i64 a0_5] 25 (0, 0))) ∧ (w'.heap[gb123]? = some (.cells #[.int .i64 a1_0, .int .i64 a1_1, .int .i64 a1_2, .int .i64 a1_3, .int .i64 a1_4, .int .i64 a1_5] 25 (0, 0))) ∧ (Below w.heap.size w w')) ?_ ?_
             rotate_left
             ·intro hJ2
              refine join_ (σ := Nat) 5 (bz 9 43) (fun s_ => [(5, .pointer (some ⟨s_, 0, none⟩))]) (fun s_ w' => (w'.cell? ⟨gb123, 0, none⟩ = some (.int .i64 a1_0) ∧ w'.cell? ⟨gb123, 1, none⟩ = some (.int .i64 a1_1) ∧ w'.cell? ⟨gb123, 2, none⟩ = some (.int .i64 a1_2) ∧ w'.cell? ⟨gb123, 3, none⟩ = some (.int .i64 a1_3) ∧ w'.cell? ⟨gb123, 4, none⟩ = some (.int .i64 a1_4) ∧ w'.cell? ⟨gb123, 5, none⟩ = some (.int .i64 a1_5) ∧ w'.cell? ⟨gb122, 0, none⟩ = some (.int .i64 a0_0) ∧ w'.cell? ⟨gb122, 1, none⟩ = some (.int .i64 a0_1) ∧ w'.cell? ⟨gb122, 2, none⟩ = some (.int .i64 a0_2) ∧ w'.cell? ⟨gb122, 3, none⟩ = some (.int .i64 a0_3) ∧ w'.cell? ⟨gb122, 4, none⟩ = some (.int .i64 a0_4) ∧ w'.cell? ⟨gb122, 5, none⟩ = some (.int .i64 a0_5)) ∧ (w'.heap[gb122]? = some (.cells #[.int .i64 a0_0, .int .i64 a0_1, .int .i64 a0_2, .int .i64 a0_3, .int .i64 a0_4, .int .i64 a0_5] 25 (0, 0))) ∧ (w'.heap[gb123]? = some (.cells #[.int .i64 a1_0, .int .i64 a1_1, .int .i64 a1_2, .int .i64 a1_3, .int .i64 a1_4, .int .i64 a1_5] 25 (0, 0))) ∧ (w'.heap[s_]? = some (.cells #[.int .i64 0, .int .i64 0] 83 (0, 0))) ∧ (w.heap.size ≤ s_) ∧ (w.heap.size ≤ s_) ∧ (gb122 ≠ s_) ∧ (s_ ≠ gb122) ∧ (gb123 ≠ s_) ∧ (s_ ≠ gb123) ∧ (Below w.heap.size w w')) ?_ ?_
              rotate_left
              ·intro hJ5
               refine join_ (σ := Nat) 5 (bz 9 75) (fun s_ => [(6, .pointer (some ⟨s_, 0, none⟩))]) (fun s_ w' => (w'.cell? ⟨gb123, 0, none⟩ = some (.int .i64 a1_0) ∧ w'.cell? ⟨gb123, 1, none⟩ = some (.int .i64 a1_1) ∧ w'.cell? ⟨gb123, 2, none⟩ = some (.int .i64 a1_2) ∧ w'.cell? ⟨gb123, 3, none⟩ = some (.int .i64 a1_3) ∧ w'.cell? ⟨gb123, 4, none⟩ = some (.int .i64 a1_4) ∧ w'.cell? ⟨gb123, 5, none⟩ = some (.int .i64 a1_5) ∧ w'.cell? ⟨gb122, 0, none⟩ = some (.int .i64 a0_0) ∧ w'.cell? ⟨gb122, 1, none⟩ = some (.int .i64 a0_1) ∧ w'.cell? ⟨gb122, 2, none⟩ = some (.int .i64 a0_2) ∧ w'.cell? ⟨gb122, 3, none⟩ = some (.int .i64 a0_3) ∧ w'.cell? ⟨gb122, 4, none⟩ = some (.int .i64 a0_4) ∧ w'.cell? ⟨gb122, 5, none⟩ = some (.int .i64 a0_5)) ∧ (w'.heap[gb122]? = some (.cells #[.int .i64 a0_0, .int .i64 a0_1, .int .i64 a0_2, .int .i64 a0_3, .int .i64 a0_4, .int .i64 a0_5] 25 (0, 0))) ∧ (w'.heap[gb123]? = some (.cells #[.int .i64 a1_0, .int .i64 a1_1, .int .i64 a1_2, .int .i64 a1_3, .int .i64 a1_4, .int .i64 a1_5] 25 (0, 0))) ∧ (w'.heap[s_]? = some (.cells #[.int .i64 0, .int .i64 0] 83 (0, 0))) ∧ (w.heap.size ≤ s_) ∧ (w.heap.size ≤ s_) ∧ (gb122 ≠ s_) ∧ (s_ ≠ gb122) ∧ (gb123 ≠ s_) ∧ (s_ ≠ gb123) ∧ (Below w.heap.size w w')) ?_ ?_
               rotate_left
               ·intro hJ6
                refine three_ (i := 2) (j := 5) (k := 6) (Ni := some 19) (Nj := some 5) (Nk := some 6) (bz 9 15) (bz 9 43) (bz 9 75) rfl rfl rfl rfl rfl rfl (three_of HT_.out (by kernel_rfl)) (by decide) (by decide) (by decide) (fun K hK => ?_) (fun K hK => ?_) (fun K hK => ?_)
                ·skip
                 refine goes_ Try.func65 (by kernel_rfl) rfl #[.agg #[.int .i64 a1_0, .int .i64 a1_1, .int .i64 a1_2, .int .i64 a1_3, .int .i64 a1_4, .int .i64 a1_5], .agg #[.int .i64 a0_0, .int .i64 a0_1, .int .i64 a0_2, .int .i64 a0_3, .int .i64 a0_4, .int .i64 a0_5]] (by rfl) rfl rfl s2_5 ?_
                 with_reducible refine (spec_l8Bearing.calls a1_0 a1_1 a1_2 a1_3 a1_4 a1_5 a0_0 a0_1 a0_2 a0_3 a0_4 a0_5 t126 t127 _ A18.out).mono ?_
                 rintro e w25 ⟨rfl, hb⟩
                 refine ⟨_, rfl, ?_⟩
                 have n0_ := Aside0.mk (bb (zk BK122.out) hb)
                 have n1_ := Aside0.mk (bb (zk BK123.out) hb)
                 have n2_ := Aside0.mk (below_step s2_0 hb)
                 clear BK122 BK123 HB
                 have BK122 := n0_
                 have BK123 := n1_
                 have HB := n2_
                 clear n0_ n1_ n2_
                 (try clear hb)
                 (try clear hb2)
                 (try clear hk)
                 (try clear hi)
                 refine hK.out _ _ ⟨bc BK123.out 0, bc BK123.out 1, bc BK123.out 2, bc BK123.out 3, bc BK123.out 4, bc BK123.out 5, bc BK122.out 0, bc BK122.out 1, bc BK122.out 2, bc BK122.out 3, bc BK122.out 4, bc BK122.out 5⟩ (fun hHeld => ?_)
                 clear hK K
                 refine norm_ (a' := ?_) ?_ ?_
                 rotate_left
                 ·show Act.put _ (some 19) _ = _
                  simp only [Act.put, y1, y2, y3, i64_w, i32_w]
                  rfl
                 exact norm_ s2_4 (hJ2 () _ ⟨hHeld, (zk BK122.out), (zk BK123.out), s2_0⟩)
                ·skip
                 refine box_step ?hg (N := 5) ?hd (cs := #[.int .i64 0, .int .i64 0]) (t := 83) ?hr ?_; (case hd => rfl); (case hg => rfl); (case hr => first | (go_simp; done) | (go_simp; rfl))
                 intro gb130 hg w25 hbox hb
                 have n0_ := Aside0.mk (bb (zk BK122.out) hb)
                 have n1_ := Aside0.mk (bb (zk BK123.out) hb)
                 have n2_ := Aside0.mk (below_step s2_0 hb)
                 have n3_ := Aside0.mk (hbox)
                 have n4_ := Aside0.mk (ns hg s2_0 : w.heap.size ≤ gb130)
                 have n5_ := Aside0.mk (ns hg s2_0 : w.heap.size ≤ gb130)
                 have n6_ := Aside0.mk ((nlt hg (zk BK122.out) : gb122 ≠ gb130))
                 have n7_ := Aside0.mk ((ngt hg (zk BK122.out) : gb130 ≠ gb122))
                 have n8_ := Aside0.mk ((nlt hg (zk BK123.out) : gb123 ≠ gb130))
                 have n9_ := Aside0.mk ((ngt hg (zk BK123.out) : gb130 ≠ gb123))
                 clear BK122 BK123 HB
                 have BK122 := n0_
                 have BK123 := n1_
                 have HB := n2_
                 have BK130 := n3_
                 have GW130 := n4_
                 have GE130 := n5_
                 have NB122_130 := n6_
                 have NB130_122 := n7_
                 have NB123_130 := n8_
                 have NB130_123 := n9_
                 clear n0_ n1_ n2_ n3_ n4_ n5_ n6_ n7_ n8_ n9_ hb hbox hg
                 refine hK.out _ _ ⟨bc BK123.out 0, bc BK123.out 1, bc BK123.out 2, bc BK123.out 3, bc BK123.out 4, bc BK123.out 5, bc BK122.out 0, bc BK122.out 1, bc BK122.out 2, bc BK122.out 3, bc BK122.out 4, bc BK122.out 5⟩ (fun hHeld => ?_)
                 clear hK K
                 refine norm_ (a' := ?_) ?_ ?_
                 rotate_left
                 ·show Act.put _ (some 5) _ = _
                  simp only [Act.put, y1, y2, y3, i64_w, i32_w]
                  rfl
                 exact norm_ s2_4 (hJ5 (gb130) _ ⟨hHeld, (zk BK122.out), (zk BK123.out), (zk BK130.out), GW130.out, GE130.out, NB122_130.out, NB130_122.out, NB123_130.out, NB130_123.out, s2_1⟩)
                ·skip
                 refine box_step ?hg (N := 6) ?hd (cs := #[.int .i64 0, .int .i64 0]) (t := 83) ?hr ?_; (case hd => rfl); (case hg => rfl); (case hr => first | (go_simp; done) | (go_simp; rfl))
                 intro gb131 hg w25 hbox hb
                 have n0_ := Aside0.mk (bb (zk BK122.out) hb)
                 have n1_ := Aside0.mk (bb (zk BK123.out) hb)
                 have n2_ := Aside0.mk (below_step s2_0 hb)
                 have n3_ := Aside0.mk (hbox)
                 have n4_ := Aside0.mk (ns hg s2_0 : w.heap.size ≤ gb131)
                 have n5_ := Aside0.mk (ns hg s2_0 : w.heap.size ≤ gb131)
                 have n6_ := Aside0.mk ((nlt hg (zk BK122.out) : gb122 ≠ gb131))
                 have n7_ := Aside0.mk ((ngt hg (zk BK122.out) : gb131 ≠ gb122))
                 have n8_ := Aside0.mk ((nlt hg (zk BK123.out) : gb123 ≠ gb131))
                 have n9_ := Aside0.mk ((ngt hg (zk BK123.out) : gb131 ≠ gb123))
                 clear BK122 BK123 HB
                 have BK122 := n0_
                 have BK123 := n1_
                 have HB := n2_
                 have BK131 := n3_
                 have GW131 := n4_
                 have GE131 := n5_
                 have NB122_131 := n6_
                 have NB131_122 := n7_
                 have NB123_131 := n8_
                 have NB131_123 := n9_
                 clear n0_ n1_ n2_ n3_ n4_ n5_ n6_ n7_ n8_ n9_ hb hbox hg
                 refine hK.out _ _ ⟨bc BK123.out 0, bc BK123.out 1, bc BK123.out 2, bc BK123.out 3, bc BK123.out 4, bc BK123.out 5, bc BK122.out 0, bc BK122.out 1, bc BK122.out 2, bc BK122.out 3, bc BK122.out 4, bc BK122.out 5⟩ (fun hHeld => ?_)
                 clear hK K
                 refine norm_ (a' := ?_) ?_ ?_
                 rotate_left
                 ·show Act.put _ (some 6) _ = _
                  simp only [Act.put, y1, y2, y3, i64_w, i32_w]
                  rfl
                 exact norm_ s2_4 (hJ6 (gb131) _ ⟨hHeld, (zk BK122.out), (zk BK123.out), (zk BK131.out), GW131.out, GE131.out, NB122_131.out, NB131_122.out, NB123_131.out, NB131_123.out, s2_2⟩)
               ·skip
                rintro gb131 w26 ⟨hS_, h0_, h1_, h2_, h3_, h4_, h5_, h6_, h7_, h8_, h9_⟩
                have n0_ : Aside0 (w26.heap[gb122]? = some (.cells #[.int .i64 a0_0, .int .i64 a0_1, .int .i64 a0_2, .int .i64 a0_3, .int .i64 a0_4, .int .i64 a0_5] 25 (0, 0))) := ⟨h0_⟩
                have n1_ : Aside0 (w26.heap[gb123]? = some (.cells #[.int .i64 a1_0, .int .i64 a1_1, .int .i64 a1_2, .int .i64 a1_3, .int .i64 a1_4, .int .i64 a1_5] 25 (0, 0))) := ⟨h1_⟩
                have n2_ : Aside0 (w26.heap[gb131]? = some (.cells #[.int .i64 0, .int .i64 0] 83 (0, 0))) := ⟨h2_⟩
                have n3_ : Aside0 (w.heap.size ≤ gb131) := ⟨h3_⟩
                have n4_ : Aside0 (w.heap.size ≤ gb131) := ⟨h4_⟩
                have n5_ : Aside0 (gb122 ≠ gb131) := ⟨h5_⟩
                have n6_ : Aside0 (gb131 ≠ gb122) := ⟨h6_⟩
                have n7_ : Aside0 (gb123 ≠ gb131) := ⟨h7_⟩
                have n8_ : Aside0 (gb131 ≠ gb123) := ⟨h8_⟩
                have n9_ : Aside0 (Below w.heap.size w w26) := ⟨h9_⟩
                clear BK122 BK123 HB h0_ h1_ h2_ h3_ h4_ h5_ h6_ h7_ h8_ h9_
                have BK122 := n0_
                have BK123 := n1_
                have BK131 := n2_
                have GW131 := n3_
                have GE131 := n4_
                have NB122_131 := n5_
                have NB131_122 := n6_
                have NB123_131 := n7_
                have NB131_123 := n8_
                have HB := n9_
                clear n0_ n1_ n2_ n3_ n4_ n5_ n6_ n7_ n8_ n9_
                have hHeld : w26.cell? ⟨gb123, 0, none⟩ = some (.int .i64 a1_0) ∧ w26.cell? ⟨gb123, 1, none⟩ = some (.int .i64 a1_1) ∧ w26.cell? ⟨gb123, 2, none⟩ = some (.int .i64 a1_2) ∧ w26.cell? ⟨gb123, 3, none⟩ = some (.int .i64 a1_3) ∧ w26.cell? ⟨gb123, 4, none⟩ = some (.int .i64 a1_4) ∧ w26.cell? ⟨gb123, 5, none⟩ = some (.int .i64 a1_5) ∧ w26.cell? ⟨gb122, 0, none⟩ = some (.int .i64 a0_0) ∧ w26.cell? ⟨gb122, 1, none⟩ = some (.int .i64 a0_1) ∧ w26.cell? ⟨gb122, 2, none⟩ = some (.int .i64 a0_2) ∧ w26.cell? ⟨gb122, 3, none⟩ = some (.int .i64 a0_3) ∧ w26.cell? ⟨gb122, 4, none⟩ = some (.int .i64 a0_4) ∧ w26.cell? ⟨gb122, 5, none⟩ = some (.int .i64 a0_5) := hS_
                refine norm_ (a' := ?_) ?_ ?_
                rotate_left
                ·simp only [putAll, Act.put, y1, y2, y3]
                 rfl
                refine two_ (i := 2) (j := 5) (Ni := some 19) (Nj := some 5) (bz 9 79) (bz 9 107) rfl rfl rfl rfl (two_of HT_.out (by kernel_rfl)) (by decide) (by decide) (fun K hK => ?_) (fun K hK => ?_)
                ·skip
                 refine goes_ Try.func65 (by kernel_rfl) rfl #[.agg #[.int .i64 a1_0, .int .i64 a1_1, .int .i64 a1_2, .int .i64 a1_3, .int .i64 a1_4, .int .i64 a1_5], .agg #[.int .i64 a0_0, .int .i64 a0_1, .int .i64 a0_2, .int .i64 a0_3, .int .i64 a0_4, .int .i64 a0_5]] (by rfl) rfl rfl s2_5 ?_
                 with_reducible refine (spec_l8Bearing.calls a1_0 a1_1 a1_2 a1_3 a1_4 a1_5 a0_0 a0_1 a0_2 a0_3 a0_4 a0_5 t126 t127 _ A18.out).mono ?_
                 rintro e w27 ⟨rfl, hb⟩
                 refine ⟨_, rfl, ?_⟩
                 have n0_ := Aside0.mk (bb (zk BK122.out) hb)
                 have n1_ := Aside0.mk (bb (zk BK123.out) hb)
                 have n2_ := Aside0.mk (bb (zk BK131.out) hb)
                 have n3_ := Aside0.mk (below_step s2_2 hb)
                 clear BK122 BK123 BK131 HB
                 have BK122 := n0_
                 have BK123 := n1_
                 have BK131 := n2_
                 have HB := n3_
                 clear n0_ n1_ n2_ n3_
                 (try clear hb)
                 (try clear hb2)
                 (try clear hk)
                 (try clear hi)
                 refine hK.out _ _ ⟨bc BK123.out 0, bc BK123.out 1, bc BK123.out 2, bc BK123.out 3, bc BK123.out 4, bc BK123.out 5, bc BK122.out 0, bc BK122.out 1, bc BK122.out 2, bc BK122.out 3, bc BK122.out 4, bc BK122.out 5⟩ (fun hHeld => ?_)
                 clear hK K
                 refine norm_ (a' := ?_) ?_ ?_
                 rotate_left
                 ·show Act.put _ (some 19) _ = _
                  simp only [Act.put, y1, y2, y3, i64_w, i32_w]
                  rfl
                 exact norm_ s2_4 (hJ2_6 (gb131) _ ⟨hHeld, (zk BK122.out), (zk BK123.out), (zk BK131.out), GW131.out, GE131.out, NB122_131.out, NB131_122.out, NB123_131.out, NB131_123.out, s2_2⟩)
                ·skip
                 refine box_step ?hg (N := 5) ?hd (cs := #[.int .i64 0, .int .i64 0]) (t := 83) ?hr ?_; (case hd => rfl); (case hg => rfl); (case hr => first | (go_simp; done) | (go_simp; rfl))
                 intro gb130 hg w27 hbox hb
                 have n0_ := Aside0.mk (bb (zk BK122.out) hb)
                 have n1_ := Aside0.mk (bb (zk BK123.out) hb)
                 have n2_ := Aside0.mk (bb (zk BK131.out) hb)
                 have n3_ := Aside0.mk (below_step s2_2 hb)
                 have n4_ := Aside0.mk (hbox)
                 have n5_ := Aside0.mk (ns hg s2_2 : w.heap.size ≤ gb130)
                 have n6_ := Aside0.mk (ns hg s2_2 : w.heap.size ≤ gb130)
                 have n7_ := Aside0.mk ((nlt hg (zk BK122.out) : gb122 ≠ gb130))
                 have n8_ := Aside0.mk ((ngt hg (zk BK122.out) : gb130 ≠ gb122))
                 have n9_ := Aside0.mk ((nlt hg (zk BK123.out) : gb123 ≠ gb130))
                 have n10_ := Aside0.mk ((ngt hg (zk BK123.out) : gb130 ≠ gb123))
                 have n11_ := Aside0.mk ((nlt hg (zk BK131.out) : gb131 ≠ gb130))
                 have n12_ := Aside0.mk ((ngt hg (zk BK131.out) : gb130 ≠ gb131))
                 clear BK122 BK123 BK131 HB
                 have BK122 := n0_
                 have BK123 := n1_
                 have BK131 := n2_
                 have HB := n3_
                 have BK130 := n4_
                 have GW130 := n5_
                 have GE130 := n6_
                 have NB122_130 := n7_
                 have NB130_122 := n8_
                 have NB123_130 := n9_
                 have NB130_123 := n10_
                 have NB131_130 := n11_
                 have NB130_131 := n12_
                 clear n0_ n1_ n2_ n3_ n4_ n5_ n6_ n7_ n8_ n9_ n10_ n11_ n12_ hb hbox hg
                 refine hK.out _ _ ⟨bc BK123.out 0, bc BK123.out 1, bc BK123.out 2, bc BK123.out 3, bc BK123.out 4, bc BK123.out 5, bc BK122.out 0, bc BK122.out 1, bc BK122.out 2, bc BK122.out 3, bc BK122.out 4, bc BK122.out 5⟩ (fun hHeld => ?_)
                 clear hK K
                 refine norm_ (a' := ?_) ?_ ?_
                 rotate_left
                 ·show Act.put _ (some 5) _ = _
                  simp only [Act.put, y1, y2, y3, i64_w, i32_w]
                  rfl
                 exact norm_ s2_4 (hJ5_6 (gb130, gb131) _ ⟨hHeld, (zk BK122.out), (zk BK123.out), (zk BK130.out), (zk BK131.out), GW130.out, GE130.out, NB122_130.out, NB130_122.out, NB123_130.out, NB130_123.out, NB131_130.out, NB130_131.out, GW131.out, GE131.out, NB122_131.out, NB131_122.out, NB123_131.out, NB131_123.out, s2_6⟩)
              ·skip
               rintro gb130 w26 ⟨hS_, h0_, h1_, h2_, h3_, h4_, h5_, h6_, h7_, h8_, h9_⟩
               have n0_ : Aside0 (w26.heap[gb122]? = some (.cells #[.int .i64 a0_0, .int .i64 a0_1, .int .i64 a0_2, .int .i64 a0_3, .int .i64 a0_4, .int .i64 a0_5] 25 (0, 0))) := ⟨h0_⟩
               have n1_ : Aside0 (w26.heap[gb123]? = some (.cells #[.int .i64 a1_0, .int .i64 a1_1, .int .i64 a1_2, .int .i64 a1_3, .int .i64 a1_4, .int .i64 a1_5] 25 (0, 0))) := ⟨h1_⟩
               have n2_ : Aside0 (w26.heap[gb130]? = some (.cells #[.int .i64 0, .int .i64 0] 83 (0, 0))) := ⟨h2_⟩
               have n3_ : Aside0 (w.heap.size ≤ gb130) := ⟨h3_⟩
               have n4_ : Aside0 (w.heap.size ≤ gb130) := ⟨h4_⟩
               have n5_ : Aside0 (gb122 ≠ gb130) := ⟨h5_⟩
               have n6_ : Aside0 (gb130 ≠ gb122) := ⟨h6_⟩
               have n7_ : Aside0 (gb123 ≠ gb130) := ⟨h7_⟩
               have n8_ : Aside0 (gb130 ≠ gb123) := ⟨h8_⟩
               have n9_ : Aside0 (Below w.heap.size w w26) := ⟨h9_⟩
               clear BK122 BK123 HB h0_ h1_ h2_ h3_ h4_ h5_ h6_ h7_ h8_ h9_
               have BK122 := n0_
               have BK123 := n1_
               have BK130 := n2_
               have GW130 := n3_
               have GE130 := n4_
               have NB122_130 := n5_
               have NB130_122 := n6_
               have NB123_130 := n7_
               have NB130_123 := n8_
               have HB := n9_
               clear n0_ n1_ n2_ n3_ n4_ n5_ n6_ n7_ n8_ n9_
               have hHeld : w26.cell? ⟨gb123, 0, none⟩ = some (.int .i64 a1_0) ∧ w26.cell? ⟨gb123, 1, none⟩ = some (.int .i64 a1_1) ∧ w26.cell? ⟨gb123, 2, none⟩ = some (.int .i64 a1_2) ∧ w26.cell? ⟨gb123, 3, none⟩ = some (.int .i64 a1_3) ∧ w26.cell? ⟨gb123, 4, none⟩ = some (.int .i64 a1_4) ∧ w26.cell? ⟨gb123, 5, none⟩ = some (.int .i64 a1_5) ∧ w26.cell? ⟨gb122, 0, none⟩ = some (.int .i64 a0_0) ∧ w26.cell? ⟨gb122, 1, none⟩ = some (.int .i64 a0_1) ∧ w26.cell? ⟨gb122, 2, none⟩ = some (.int .i64 a0_2) ∧ w26.cell? ⟨gb122, 3, none⟩ = some (.int .i64 a0_3) ∧ w26.cell? ⟨gb122, 4, none⟩ = some (.int .i64 a0_4) ∧ w26.cell? ⟨gb122, 5, none⟩ = some (.int .i64 a0_5) := hS_
               refine norm_ (a' := ?_) ?_ ?_
               rotate_left
               ·simp only [putAll, Act.put, y1, y2, y3]
                rfl
               refine two_ (i := 2) (j := 6) (Ni := some 19) (Nj := some 6) (bz 9 47) (bz 9 107) rfl rfl rfl rfl (two_of HT_.out (by kernel_rfl)) (by decide) (by decide) (fun K hK => ?_) (fun K hK => ?_)
               ·skip
                refine goes_ Try.func65 (by kernel_rfl) rfl #[.agg #[.int .i64 a1_0, .int .i64 a1_1, .int .i64 a1_2, .int .i64 a1_3, .int .i64 a1_4, .int .i64 a1_5], .agg #[.int .i64 a0_0, .int .i64 a0_1, .int .i64 a0_2, .int .i64 a0_3, .int .i64 a0_4, .int .i64 a0_5]] (by rfl) rfl rfl s2_5 ?_
                with_reducible refine (spec_l8Bearing.calls a1_0 a1_1 a1_2 a1_3 a1_4 a1_5 a0_0 a0_1 a0_2 a0_3 a0_4 a0_5 t126 t127 _ A18.out).mono ?_
                rintro e w27 ⟨rfl, hb⟩
                refine ⟨_, rfl, ?_⟩
                have n0_ := Aside0.mk (bb (zk BK122.out) hb)
                have n1_ := Aside0.mk (bb (zk BK123.out) hb)
                have n2_ := Aside0.mk (bb (zk BK130.out) hb)
                have n3_ := Aside0.mk (below_step s2_1 hb)
                clear BK122 BK123 BK130 HB
                have BK122 := n0_
                have BK123 := n1_
                have BK130 := n2_
                have HB := n3_
                clear n0_ n1_ n2_ n3_
                (try clear hb)
                (try clear hb2)
                (try clear hk)
                (try clear hi)
                refine hK.out _ _ ⟨bc BK123.out 0, bc BK123.out 1, bc BK123.out 2, bc BK123.out 3, bc BK123.out 4, bc BK123.out 5, bc BK122.out 0, bc BK122.out 1, bc BK122.out 2, bc BK122.out 3, bc BK122.out 4, bc BK122.out 5⟩ (fun hHeld => ?_)
                clear hK K
                refine norm_ (a' := ?_) ?_ ?_
                rotate_left
                ·show Act.put _ (some 19) _ = _
                 simp only [Act.put, y1, y2, y3, i64_w, i32_w]
                 rfl
                exact norm_ s2_4 (hJ2_5 (gb130) _ ⟨hHeld, (zk BK122.out), (zk BK123.out), (zk BK130.out), GW130.out, GE130.out, NB122_130.out, NB130_122.out, NB123_130.out, NB130_123.out, s2_1⟩)
               ·skip
                refine box_step ?hg (N := 6) ?hd (cs := #[.int .i64 0, .int .i64 0]) (t := 83) ?hr ?_; (case hd => rfl); (case hg => rfl); (case hr => first | (go_simp; done) | (go_simp; rfl))
                intro gb131 hg w27 hbox hb
                have n0_ := Aside0.mk (bb (zk BK122.out) hb)
                have n1_ := Aside0.mk (bb (zk BK123.out) hb)
                have n2_ := Aside0.mk (bb (zk BK130.out) hb)
                have n3_ := Aside0.mk (below_step s2_1 hb)
                have n4_ := Aside0.mk (hbox)
                have n5_ := Aside0.mk (ns hg s2_1 : w.heap.size ≤ gb131)
                have n6_ := Aside0.mk (ns hg s2_1 : w.heap.size ≤ gb131)
                have n7_ := Aside0.mk ((nlt hg (zk BK122.out) : gb122 ≠ gb131))
                have n8_ := Aside0.mk ((ngt hg (zk BK122.out) : gb131 ≠ gb122))
                have n9_ := Aside0.mk ((nlt hg (zk BK123.out) : gb123 ≠ gb131))
                have n10_ := Aside0.mk ((ngt hg (zk BK123.out) : gb131 ≠ gb123))
                have n11_ := Aside0.mk ((nlt hg (zk BK130.out) : gb130 ≠ gb131))
                have n12_ := Aside0.mk ((ngt hg (zk BK130.out) : gb131 ≠ gb130))
                clear BK122 BK123 BK130 HB
                have BK122 := n0_
                have BK123 := n1_
                have BK130 := n2_
                have HB := n3_
                have BK131 := n4_
                have GW131 := n5_
                have GE131 := n6_
                have NB122_131 := n7_
                have NB131_122 := n8_
                have NB123_131 := n9_
                have NB131_123 := n10_
                have NB130_131 := n11_
                have NB131_130 := n12_
                clear n0_ n1_ n2_ n3_ n4_ n5_ n6_ n7_ n8_ n9_ n10_ n11_ n12_ hb hbox hg
                refine hK.out _ _ ⟨bc BK123.out 0, bc BK123.out 1, bc BK123.out 2, bc BK123.out 3, bc BK123.out 4, bc BK123.out 5, bc BK122.out 0, bc BK122.out 1, bc BK122.out 2, bc BK122.out 3, bc BK122.out 4, bc BK122.out 5⟩ (fun hHeld => ?_)
                clear hK K
                refine norm_ (a' := ?_) ?_ ?_
                rotate_left
                ·show Act.put _ (some 6) _ = _
                 simp only [Act.put, y1, y2, y3, i64_w, i32_w]
                 rfl
                exact norm_ s2_4 (hJ5_6 (gb130, gb131) _ ⟨hHeld, (zk BK122.out), (zk BK123.out), (zk BK130.out), (zk BK131.out), GW130.out, GE130.out, NB122_130.out, NB130_122.out, NB123_130.out, NB130_123.out, NB131_130.out, NB130_131.out, GW131.out, GE131.out, NB122_131.out, NB131_122.out, NB123_131.out, NB131_123.out, s2_3⟩)
             ·skip
              rintro _ w26 ⟨hS_, h0_, h1_, h2_⟩
              have n0_ : Aside0 (w26.heap[gb122]? = some (.cells #[.int .i64 a0_0, .int .i64 a0_1, .int .i64 a0_2, .int .i64 a0_3, .int .i64 a0_4, .int .i64 a0_5] 25 (0, 0))) := ⟨h0_⟩
              have n1_ : Aside0 (w26.heap[gb123]? = some (.cells #[.int .i64 a1_0, .int .i64 a1_1, .int .i64 a1_2, .int .i64 a1_3, .int .i64 a1_4, .int .i64 a1_5] 25 (0, 0))) := ⟨h1_⟩
              have n2_ : Aside0 (Below w.heap.size w w26) := ⟨h2_⟩
              clear BK122 BK123 HB h0_ h1_ h2_
              have BK122 := n0_
              have BK123 := n1_
              have HB := n2_
              clear n0_ n1_ n2_
              have hHeld : w26.cell? ⟨gb123, 0, none⟩ = some (.int .i64 a1_0) ∧ w26.cell? ⟨gb123, 1, none⟩ = some (.int .i64 a1_1) ∧ w26.cell? ⟨gb123, 2, none⟩ = some (.int .i64 a1_2) ∧ w26.cell? ⟨gb123, 3, none⟩ = some (.int .i64 a1_3) ∧ w26.cell? ⟨gb123, 4, none⟩ = some (.int .i64 a1_4) ∧ w26.cell? ⟨gb123, 5, none⟩ = some (.int .i64 a1_5) ∧ w26.cell? ⟨gb122, 0, none⟩ = some (.int .i64 a0_0) ∧ w26.cell? ⟨gb122, 1, none⟩ = some (.int .i64 a0_1) ∧ w26.cell? ⟨gb122, 2, none⟩ = some (.int .i64 a0_2) ∧ w26.cell? ⟨gb122, 3, none⟩ = some (.int .i64 a0_3) ∧ w26.cell? ⟨gb122, 4, none⟩ = some (.int .i64 a0_4) ∧ w26.cell? ⟨gb122, 5, none⟩ = some (.int .i64 a0_5) := hS_
              refine norm_ (a' := ?_) ?_ ?_
              rotate_left
              ·simp only [putAll, Act.put, y1, y2, y3]
               rfl
              refine three_ (i := 4) (j := 5) (k := 6) (Ni := some 21) (Nj := some 5) (Nk := some 6) (bz 9 31) (bz 9 47) (bz 9 79) rfl rfl rfl rfl rfl rfl (three_of HT_.out (by kernel_rfl)) (by decide) (by decide) (by decide) (fun K hK => ?_) (fun K hK => ?_) (fun K hK => ?_)
              ·skip
               refine goes_ Try.func66 (by kernel_rfl) rfl #[.agg #[.int .i64 a1_0, .int .i64 a1_1, .int .i64 a1_2, .int .i64 a1_3, .int .i64 a1_4, .int .i64 a1_5]] (by rfl) rfl rfl s2_5 ?_
               with_reducible refine (spec_l8Way.calls a1_0 a1_1 a1_2 a1_3 a1_4 a1_5 t128 t129 _ A19.out).mono ?_
               rintro e w27 ⟨rfl, hb⟩
               refine ⟨_, rfl, ?_⟩
               have n0_ := Aside0.mk (bb (zk BK122.out) hb)
               have n1_ := Aside0.mk (bb (zk BK123.out) hb)
               have n2_ := Aside0.mk (below_step s2_0 hb)
               clear BK122 BK123 HB
               have BK122 := n0_
               have BK123 := n1_
               have HB := n2_
               clear n0_ n1_ n2_
               (try clear hb)
               (try clear hb2)
               (try clear hk)
               (try clear hi)
               refine hK.out _ _ ⟨bc BK123.out 0, bc BK123.out 1, bc BK123.out 2, bc BK123.out 3, bc BK123.out 4, bc BK123.out 5, bc BK122.out 0, bc BK122.out 1, bc BK122.out 2, bc BK122.out 3, bc BK122.out 4, bc BK122.out 5⟩ (fun hHeld => ?_)
               clear hK K
               refine norm_ (a' := ?_) ?_ ?_
               rotate_left
               ·show Act.put _ (some 21) _ = _
                simp only [Act.put, y1, y2, y3, i64_w, i32_w]
                rfl
               exact norm_ s2_4 (hJ2_4 () _ ⟨hHeld, (zk BK122.out), (zk BK123.out), s2_0⟩)
              ·skip
               refine box_step ?hg (N := 5) ?hd (cs := #[.int .i64 0, .int .i64 0]) (t := 83) ?hr ?_; (case hd => rfl); (case hg => rfl); (case hr => first | (go_simp; done) | (go_simp; rfl))
               intro gb130 hg w27 hbox hb
               have n0_ := Aside0.mk (bb (zk BK122.out) hb)
               have n1_ := Aside0.mk (bb (zk BK123.out) hb)
               have n2_ := Aside0.mk (below_step s2_0 hb)
               have n3_ := Aside0.mk (hbox)
               have n4_ := Aside0.mk (ns hg s2_0 : w.heap.size ≤ gb130)
               have n5_ := Aside0.mk (ns hg s2_0 : w.heap.size ≤ gb130)
               have n6_ := Aside0.mk ((nlt hg (zk BK122.out) : gb122 ≠ gb130))
               have n7_ := Aside0.mk ((ngt hg (zk BK122.out) : gb130 ≠ gb122))
               have n8_ := Aside0.mk ((nlt hg (zk BK123.out) : gb123 ≠ gb130))
               have n9_ := Aside0.mk ((ngt hg (zk BK123.out) : gb130 ≠ gb123))
               clear BK122 BK123 HB
               have BK122 := n0_
               have BK123 := n1_
               have HB := n2_
               have BK130 := n3_
               have GW130 := n4_
               have GE130 := n5_
               have NB122_130 := n6_
               have NB130_122 := n7_
               have NB123_130 := n8_
               have NB130_123 := n9_
               clear n0_ n1_ n2_ n3_ n4_ n5_ n6_ n7_ n8_ n9_ hb hbox hg
               refine hK.out _ _ ⟨bc BK123.out 0, bc BK123.out 1, bc BK123.out 2, bc BK123.out 3, bc BK123.out 4, bc BK123.out 5, bc BK122.out 0, bc BK122.out 1, bc BK122.out 2, bc BK122.out 3, bc BK122.out 4, bc BK122.out 5⟩ (fun hHeld => ?_)
               clear hK K
               refine norm_ (a' := ?_) ?_ ?_
               rotate_left
               ·show Act.put _ (some 5) _ = _
                simp only [Act.put, y1, y2, y3, i64_w, i32_w]
                rfl
               exact norm_ s2_4 (hJ2_5 (gb130) _ ⟨hHeld, (zk BK122.out), (zk BK123.out), (zk BK130.out), GW130.out, GE130.out, NB122_130.out, NB130_122.out, NB123_130.out, NB130_123.out, s2_1⟩)
              ·skip
               refine box_step ?hg (N := 6) ?hd (cs := #[.int .i64 0, .int .i64 0]) (t := 83) ?hr ?_; (case hd => rfl); (case hg => rfl); (case hr => first | (go_simp; done) | (go_simp; rfl))
               intro gb131 hg w27 hbox hb
               have n0_ := Aside0.mk (bb (zk BK122.out) hb)
               have n1_ := Aside0.mk (bb (zk BK123.out) hb)
               have n2_ := Aside0.mk (below_step s2_0 hb)
               have n3_ := Aside0.mk (hbox)
               have n4_ := Aside0.mk (ns hg s2_0 : w.heap.size ≤ gb131)
               have n5_ := Aside0.mk (ns hg s2_0 : w.heap.size ≤ gb131)
               have n6_ := Aside0.mk ((nlt hg (zk BK122.out) : gb122 ≠ gb131))
               have n7_ := Aside0.mk ((ngt hg (zk BK122.out) : gb131 ≠ gb122))
               have n8_ := Aside0.mk ((nlt hg (zk BK123.out) : gb123 ≠ gb131))
               have n9_ := Aside0.mk ((ngt hg (zk BK123.out) : gb131 ≠ gb123))
               clear BK122 BK123 HB
               have BK122 := n0_
               have BK123 := n1_
               have HB := n2_
               have BK131 := n3_
               have GW131 := n4_
               have GE131 := n5_
               have NB122_131 := n6_
               have NB131_122 := n7_
               have NB123_131 := n8_
               have NB131_123 := n9_
               clear n0_ n1_ n2_ n3_ n4_ n5_ n6_ n7_ n8_ n9_ hb hbox hg
               refine hK.out _ _ ⟨bc BK123.out 0, bc BK123.out 1, bc BK123.out 2, bc BK123.out 3, bc BK123.out 4, bc BK123.out 5, bc BK122.out 0, bc BK122.out 1, bc BK122.out 2, bc BK122.out 3, bc BK122.out 4, bc BK122.out 5⟩ (fun hHeld => ?_)
               clear hK K
               refine norm_ (a' := ?_) ?_ ?_
               rotate_left
               ·show Act.put _ (some 6) _ = _
                simp only [Act.put, y1, y2, y3, i64_w, i32_w]
                rfl
               exact norm_ s2_4 (hJ2_6 (gb131) _ ⟨hHeld, (zk BK122.out), (zk BK123.out), (zk BK131.out), GW131.out, GE131.out, NB122_131.out, NB131_122.out, NB123_131.out, NB131_123.out, s2_2⟩)
            ·skip
             rintro ⟨gb130, gb131⟩ w27 ⟨hS_, h0_, h1_, h2_, h3_, h4_, h5_, h6_, h7_, h8_, h9_, h10_, h11_, h12_, h13_, h14_, h15_, h16_, h17_, h18_⟩
             have n0_ : Aside0 (w27.heap[gb122]? = some (.cells #[.int .i64 a0_0, .int .i64 a0_1, .int .i64 a0_2, .int .i64 a0_3, .int .i64 a0_4, .int .i64 a0_5] 25 (0, 0))) := ⟨h0_⟩
             have n1_ : Aside0 (w27.heap[gb123]? = some (.cells #[.int .i64 a1_0, .int .i64 a1_1, .int .i64 a1_2, .int .i64 a1_3, .int .i64 a1_4, .int .i64 a1_5] 25 (0, 0))) := ⟨h1_⟩
             have n2_ : Aside0 (w27.heap[gb130]? = some (.cells #[.int .i64 0, .int .i64 0] 83 (0, 0))) := ⟨h2_⟩
             have n3_ : Aside0 (w27.heap[gb131]? = some (.cells #[.int .i64 0, .int .i64 0] 83 (0, 0))) := ⟨h3_⟩
             have n4_ : Aside0 (w.heap.size ≤ gb130) := ⟨h4_⟩
             have n5_ : Aside0 (w.heap.size ≤ gb130) := ⟨h5_⟩
             have n6_ : Aside0 (gb122 ≠ gb130) := ⟨h6_⟩
             have n7_ : Aside0 (gb130 ≠ gb122) := ⟨h7_⟩
             have n8_ : Aside0 (gb123 ≠ gb130) := ⟨h8_⟩
             have n9_ : Aside0 (gb130 ≠ gb123) := ⟨h9_⟩
             have n10_ : Aside0 (gb131 ≠ gb130) := ⟨h10_⟩
             have n11_ : Aside0 (gb130 ≠ gb131) := ⟨h11_⟩
             have n12_ : Aside0 (w.heap.size ≤ gb131) := ⟨h12_⟩
             have n13_ : Aside0 (w.heap.size ≤ gb131) := ⟨h13_⟩
             have n14_ : Aside0 (gb122 ≠ gb131) := ⟨h14_⟩
             have n15_ : Aside0 (gb131 ≠ gb122) := ⟨h15_⟩
             have n16_ : Aside0 (gb123 ≠ gb131) := ⟨h16_⟩
             have n17_ : Aside0 (gb131 ≠ gb123) := ⟨h17_⟩
             have n18_ : Aside0 (Below w.heap.size w w27) := ⟨h18_⟩
             clear BK122 BK123 HB h0_ h1_ h2_ h3_ h4_ h5_ h6_ h7_ h8_ h9_ h10_ h11_ h12_ h13_ h14_ h15_ h16_ h17_ h18_
             have BK122 := n0_
             have BK123 := n1_
             have BK130 := n2_
             have BK131 := n3_
             have GW130 := n4_
             have GE130 := n5_
             have NB122_130 := n6_
             have NB130_122 := n7_
             have NB123_130 := n8_
             have NB130_123 := n9_
             have NB131_130 := n10_
             have NB130_131 := n11_
             have GW131 := n12_
             have GE131 := n13_
             have NB122_131 := n14_
             have NB131_122 := n15_
             have NB123_131 := n16_
             have NB131_123 := n17_
             have HB := n18_
             clear n0_ n1_ n2_ n3_ n4_ n5_ n6_ n7_ n8_ n9_ n10_ n11_ n12_ n13_ n14_ n15_ n16_ n17_ n18_
             have hHeld : w27.cell? ⟨gb123, 0, none⟩ = some (.int .i64 a1_0) ∧ w27.cell? ⟨gb123, 1, none⟩ = some (.int .i64 a1_1) ∧ w27.cell? ⟨gb123, 2, none⟩ = some (.int .i64 a1_2) ∧ w27.cell? ⟨gb123, 3, none⟩ = some (.int .i64 a1_3) ∧ w27.cell? ⟨gb123, 4, none⟩ = some (.int .i64 a1_4) ∧ w27.cell? ⟨gb123, 5, none⟩ = some (.int .i64 a1_5) ∧ w27.cell? ⟨gb122, 0, none⟩ = some (.int .i64 a0_0) ∧ w27.cell? ⟨gb122, 1, none⟩ = some (.int .i64 a0_1) ∧ w27.cell? ⟨gb122, 2, none⟩ = some (.int .i64 a0_2) ∧ w27.cell? ⟨gb122, 3, none⟩ = some (.int .i64 a0_3) ∧ w27.cell? ⟨gb122, 4, none⟩ = some (.int .i64 a0_4) ∧ w27.cell? ⟨gb122, 5, none⟩ = some (.int .i64 a0_5) := hS_
             refine norm_ (a' := ?_) ?_ ?_
             rotate_left
             ·simp only [putAll, Act.put, y1, y2, y3]
              rfl
             refine one_ (i := 2) (N := some 19) (bz 9 111) rfl rfl (one_of HT_.out (by kernel_rfl)) (by decide) (fun K hK => ?_)
             refine goes_ Try.func65 (by kernel_rfl) rfl #[.agg #[.int .i64 a1_0, .int .i64 a1_1, .int .i64 a1_2, .int .i64 a1_3, .int .i64 a1_4, .int .i64 a1_5], .agg #[.int .i64 a0_0, .int .i64 a0_1, .int .i64 a0_2, .int .i64 a0_3, .int .i64 a0_4, .int .i64 a0_5]] (by rfl) rfl rfl s2_5 ?_
             with_reducible refine (spec_l8Bearing.calls a1_0 a1_1 a1_2 a1_3 a1_4 a1_5 a0_0 a0_1 a0_2 a0_3 a0_4 a0_5 t126 t127 _ A18.out).mono ?_
             rintro e w28 ⟨rfl, hb⟩
             refine ⟨_, rfl, ?_⟩
             have n0_ := Aside0.mk (bb (zk BK122.out) hb)
             have n1_ := Aside0.mk (bb (zk BK123.out) hb)
             have n2_ := Aside0.mk (bb (zk BK130.out) hb)
             have n3_ := Aside0.mk (bb (zk BK131.out) hb)
             have n4_ := Aside0.mk (below_step s2_3 hb)
             clear BK122 BK123 BK130 BK131 HB
             have BK122 := n0_
             have BK123 := n1_
             have BK130 := n2_
             have BK131 := n3_
             have HB := n4_
             clear n0_ n1_ n2_ n3_ n4_
             (try clear hb)
             (try clear hb2)
             (try clear hk)
             (try clear hi)
             refine hK.out _ _ ⟨bc BK123.out 0, bc BK123.out 1, bc BK123.out 2, bc BK123.out 3, bc BK123.out 4, bc BK123.out 5, bc BK122.out 0, bc BK122.out 1, bc BK122.out 2, bc BK122.out 3, bc BK122.out 4, bc BK122.out 5⟩ (fun hHeld => ?_)
             clear hK K
             refine norm_ (a' := ?_) ?_ ?_
             rotate_left
             ·show Act.put _ (some 19) _ = _
              simp only [Act.put, y1, y2, y3, i64_w, i32_w]
              rfl
             exact norm_ s2_4 (hJ2_5_6 (gb130, gb131) _ ⟨hHeld, (zk BK122.out), (zk BK123.out), (zk BK130.out), (zk BK131.out), GW130.out, GE130.out, NB122_130.out, NB130_122.out, NB123_130.out, NB130_123.out, NB131_130.out, NB130_131.out, GW131.out, GE131.out, NB122_131.out, NB131_122.out, NB123_131.out, NB131_123.out, s2_3⟩)
           ·skip
            rintro gb131 w27 ⟨hS_, h0_, h1_, h2_, h3_, h4_, h5_, h6_, h7_, h8_, h9_⟩
            have n0_ : Aside0 (w27.heap[gb122]? = some (.cells #[.int .i64 a0_0, .int .i64 a0_1, .int .i64 a0_2, .int .i64 a0_3, .int .i64 a0_4, .int .i64 a0_5] 25 (0, 0))) := ⟨h0_⟩
            have n1_ : Aside0 (w27.heap[gb123]? = some (.cells #[.int .i64 a1_0, .int .i64 a1_1, .int .i64 a1_2, .int .i64 a1_3, .int .i64 a1_4, .int .i64 a1_5] 25 (0, 0))) := ⟨h1_⟩
            have n2_ : Aside0 (w27.heap[gb131]? = some (.cells #[.int .i64 0, .int .i64 0] 83 (0, 0))) := ⟨h2_⟩
            have n3_ : Aside0 (w.heap.size ≤ gb131) := ⟨h3_⟩
            have n4_ : Aside0 (w.heap.size ≤ gb131) := ⟨h4_⟩
            have n5_ : Aside0 (gb122 ≠ gb131) := ⟨h5_⟩
            have n6_ : Aside0 (gb131 ≠ gb122) := ⟨h6_⟩
            have n7_ : Aside0 (gb123 ≠ gb131) := ⟨h7_⟩
            have n8_ : Aside0 (gb131 ≠ gb123) := ⟨h8_⟩
            have n9_ : Aside0 (Below w.heap.size w w27) := ⟨h9_⟩
            clear BK122 BK123 HB h0_ h1_ h2_ h3_ h4_ h5_ h6_ h7_ h8_ h9_
            have BK122 := n0_
            have BK123 := n1_
            have BK131 := n2_
            have GW131 := n3_
            have GE131 := n4_
            have NB122_131 := n5_
            have NB131_122 := n6_
            have NB123_131 := n7_
            have NB131_123 := n8_
            have HB := n9_
            clear n0_ n1_ n2_ n3_ n4_ n5_ n6_ n7_ n8_ n9_
            have hHeld : w27.cell? ⟨gb123, 0, none⟩ = some (.int .i64 a1_0) ∧ w27.cell? ⟨gb123, 1, none⟩ = some (.int .i64 a1_1) ∧ w27.cell? ⟨gb123, 2, none⟩ = some (.int .i64 a1_2) ∧ w27.cell? ⟨gb123, 3, none⟩ = some (.int .i64 a1_3) ∧ w27.cell? ⟨gb123, 4, none⟩ = some (.int .i64 a1_4) ∧ w27.cell? ⟨gb123, 5, none⟩ = some (.int .i64 a1_5) ∧ w27.cell? ⟨gb122, 0, none⟩ = some (.int .i64 a0_0) ∧ w27.cell? ⟨gb122, 1, none⟩ = some (.int .i64 a0_1) ∧ w27.cell? ⟨gb122, 2, none⟩ = some (.int .i64 a0_2) ∧ w27.cell? ⟨gb122, 3, none⟩ = some (.int .i64 a0_3) ∧ w27.cell? ⟨gb122, 4, none⟩ = some (.int .i64 a0_4) ∧ w27.cell? ⟨gb122, 5, none⟩ = some (.int .i64 a0_5) := hS_
            refine norm_ (a' := ?_) ?_ ?_
            rotate_left
            ·simp only [putAll, Act.put, y1, y2, y3]
             rfl
            refine two_ (i := 4) (j := 5) (Ni := some 21) (Nj := some 5) (bz 9 95) (bz 9 111) rfl rfl rfl rfl (two_of HT_.out (by kernel_rfl)) (by decide) (by decide) (fun K hK => ?_) (fun K hK => ?_)
            ·skip
             refine goes_ Try.func66 (by kernel_rfl) rfl #[.agg #[.int .i64 a1_0, .int .i64 a1_1, .int .i64 a1_2, .int .i64 a1_3, .int .i64 a1_4, .int .i64 a1_5]] (by rfl) rfl rfl s2_5 ?_
             with_reducible refine (spec_l8Way.calls a1_0 a1_1 a1_2 a1_3 a1_4 a1_5 t128 t129 _ A19.out).mono ?_
             rintro e w28 ⟨rfl, hb⟩
             refine ⟨_, rfl, ?_⟩
             have n0_ := Aside0.mk (bb (zk BK122.out) hb)
             have n1_ := Aside0.mk (bb (zk BK123.out) hb)
             have n2_ := Aside0.mk (bb (zk BK131.out) hb)
             have n3_ := Aside0.mk (below_step s2_2 hb)
             clear BK122 BK123 BK131 HB
             have BK122 := n0_
             have BK123 := n1_
             have BK131 := n2_
             have HB := n3_
             clear n0_ n1_ n2_ n3_
             (try clear hb)
             (try clear hb2)
             (try clear hk)
             (try clear hi)
             refine hK.out _ _ ⟨bc BK123.out 0, bc BK123.out 1, bc BK123.out 2, bc BK123.out 3, bc BK123.out 4, bc BK123.out 5, bc BK122.out 0, bc BK122.out 1, bc BK122.out 2, bc BK122.out 3, bc BK122.out 4, bc BK122.out 5⟩ (fun hHeld => ?_)
             clear hK K
             refine norm_ (a' := ?_) ?_ ?_
             rotate_left
             ·show Act.put _ (some 21) _ = _
              simp only [Act.put, y1, y2, y3, i64_w, i32_w]
              rfl
             exact norm_ s2_4 (hJ2_4_6 (gb131) _ ⟨hHeld, (zk BK122.out), (zk BK123.out), (zk BK131.out), GW131.out, GE131.out, NB122_131.out, NB131_122.out, NB123_131.out, NB131_123.out, s2_2⟩)
            ·skip
             refine box_step ?hg (N := 5) ?hd (cs := #[.int .i64 0, .int .i64 0]) (t := 83) ?hr ?_; (case hd => rfl); (case hg => rfl); (case hr => first | (go_simp; done) | (go_simp; rfl))
             intro gb130 hg w28 hbox hb
             have n0_ := Aside0.mk (bb (zk BK122.out) hb)
             have n1_ := Aside0.mk (bb (zk BK123.out) hb)
             have n2_ := Aside0.mk (bb (zk BK131.out) hb)
             have n3_ := Aside0.mk (below_step s2_2 hb)
             have n4_ := Aside0.mk (hbox)
             have n5_ := Aside0.mk (ns hg s2_2 : w.heap.size ≤ gb130)
             have n6_ := Aside0.mk (ns hg s2_2 : w.heap.size ≤ gb130)
             have n7_ := Aside0.mk ((nlt hg (zk BK122.out) : gb122 ≠ gb130))
             have n8_ := Aside0.mk ((ngt hg (zk BK122.out) : gb130 ≠ gb122))
             have n9_ := Aside0.mk ((nlt hg (zk BK123.out) : gb123 ≠ gb130))
             have n10_ := Aside0.mk ((ngt hg (zk BK123.out) : gb130 ≠ gb123))
             have n11_ := Aside0.mk ((nlt hg (zk BK131.out) : gb131 ≠ gb130))
             have n12_ := Aside0.mk ((ngt hg (zk BK131.out) : gb130 ≠ gb131))
             clear BK122 BK123 BK131 HB
             have BK122 := n0_
             have BK123 := n1_
             have BK131 := n2_
             have HB := n3_
             have BK130 := n4_
             have GW130 := n5_
             have GE130 := n6_
             have NB122_130 := n7_
             have NB130_122 := n8_
             have NB123_130 := n9_
             have NB130_123 := n10_
             have NB131_130 := n11_
             have NB130_131 := n12_
             clear n0_ n1_ n2_ n3_ n4_ n5_ n6_ n7_ n8_ n9_ n10_ n11_ n12_ hb hbox hg
             refine hK.out _ _ ⟨bc BK123.out 0, bc BK123.out 1, bc BK123.out 2, bc BK123.out 3, bc BK123.out 4, bc BK123.out 5, bc BK122.out 0, bc BK122.out 1, bc BK122.out 2, bc BK122.out 3, bc BK122.out 4, bc BK122.out 5⟩ (fun hHeld => ?_)
             clear hK K
             refine norm_ (a' := ?_) ?_ ?_
             rotate_left
             ·show Act.put _ (some 5) _ = _
              simp only [Act.put, y1, y2, y3, i64_w, i32_w]
              rfl
             exact norm_ s2_4 (hJ2_5_6 (gb130, gb131) _ ⟨hHeld, (zk BK122.out), (zk BK123.out), (zk BK130.out), (zk BK131.out), GW130.out, GE130.out, NB122_130.out, NB130_122.out, NB123_130.out, NB130_123.out, NB131_130.out, NB130_131.out, GW131.out, GE131.out, NB122_131.out, NB131_122.out, NB123_131.out, NB131_123.out, s2_6⟩)
          ·skip
           rintro gb130 w27 ⟨hS_, h0_, h1_, h2_, h3_, h4_, h5_, h6_, h7_, h8_, h9_⟩
           have n0_ : Aside0 (w27.heap[gb122]? = some (.cells #[.int .i64 a0_0, .int .i64 a0_1, .int .i64 a0_2, .int .i64 a0_3, .int .i64 a0_4, .int .i64 a0_5] 25 (0, 0))) := ⟨h0_⟩
           have n1_ : Aside0 (w27.heap[gb123]? = some (.cells #[.int .i64 a1_0, .int .i64 a1_1, .int .i64 a1_2, .int .i64 a1_3, .int .i64 a1_4, .int .i64 a1_5] 25 (0, 0))) := ⟨h1_⟩
           have n2_ : Aside0 (w27.heap[gb130]? = some (.cells #[.int .i64 0, .int .i64 0] 83 (0, 0))) := ⟨h2_⟩
           have n3_ : Aside0 (w.heap.size ≤ gb130) := ⟨h3_⟩
           have n4_ : Aside0 (w.heap.size ≤ gb130) := ⟨h4_⟩
           have n5_ : Aside0 (gb122 ≠ gb130) := ⟨h5_⟩
           have n6_ : Aside0 (gb130 ≠ gb122) := ⟨h6_⟩
           have n7_ : Aside0 (gb123 ≠ gb130) := ⟨h7_⟩
           have n8_ : Aside0 (gb130 ≠ gb123) := ⟨h8_⟩
           have n9_ : Aside0 (Below w.heap.size w w27) := ⟨h9_⟩
           clear BK122 BK123 HB h0_ h1_ h2_ h3_ h4_ h5_ h6_ h7_ h8_ h9_
           have BK122 := n0_
           have BK123 := n1_
           have BK130 := n2_
           have GW130 := n3_
           have GE130 := n4_
           have NB122_130 := n5_
           have NB130_122 := n6_
           have NB123_130 := n7_
           have NB130_123 := n8_
           have HB := n9_
           clear n0_ n1_ n2_ n3_ n4_ n5_ n6_ n7_ n8_ n9_
           have hHeld : w27.cell? ⟨gb123, 0, none⟩ = some (.int .i64 a1_0) ∧ w27.cell? ⟨gb123, 1, none⟩ = some (.int .i64 a1_1) ∧ w27.cell? ⟨gb123, 2, none⟩ = some (.int .i64 a1_2) ∧ w27.cell? ⟨gb123, 3, none⟩ = some (.int .i64 a1_3) ∧ w27.cell? ⟨gb123, 4, none⟩ = some (.int .i64 a1_4) ∧ w27.cell? ⟨gb123, 5, none⟩ = some (.int .i64 a1_5) ∧ w27.cell? ⟨gb122, 0, none⟩ = some (.int .i64 a0_0) ∧ w27.cell? ⟨gb122, 1, none⟩ = some (.int .i64 a0_1) ∧ w27.cell? ⟨gb122, 2, none⟩ = some (.int .i64 a0_2) ∧ w27.cell? ⟨gb122, 3, none⟩ = some (.int .i64 a0_3) ∧ w27.cell? ⟨gb122, 4, none⟩ = some (.int .i64 a0_4) ∧ w27.cell? ⟨gb122, 5, none⟩ = some (.int .i64 a0_5) := hS_
           refine norm_ (a' := ?_) ?_ ?_
           rotate_left
           ·simp only [putAll, Act.put, y1, y2, y3]
            rfl
           refine two_ (i := 4) (j := 6) (Ni := some 21) (Nj := some 6) (bz 9 63) (bz 9 111) rfl rfl rfl rfl (two_of HT_.out (by kernel_rfl)) (by decide) (by decide) (fun K hK => ?_) (fun K hK => ?_)
           ·skip
            refine goes_ Try.func66 (by kernel_rfl) rfl #[.agg #[.int .i64 a1_0, .int .i64 a1_1, .int .i64 a1_2, .int .i64 a1_3, .int .i64 a1_4, .int .i64 a1_5]] (by rfl) rfl rfl s2_5 ?_
            with_reducible refine (spec_l8Way.calls a1_0 a1_1 a1_2 a1_3 a1_4 a1_5 t128 t129 _ A19.out).mono ?_
            rintro e w28 ⟨rfl, hb⟩
            refine ⟨_, rfl, ?_⟩
            have n0_ := Aside0.mk (bb (zk BK122.out) hb)
            have n1_ := Aside0.mk (bb (zk BK123.out) hb)
            have n2_ := Aside0.mk (bb (zk BK130.out) hb)
            have n3_ := Aside0.mk (below_step s2_1 hb)
            clear BK122 BK123 BK130 HB
            have BK122 := n0_
            have BK123 := n1_
            have BK130 := n2_
            have HB := n3_
            clear n0_ n1_ n2_ n3_
            (try clear hb)
            (try clear hb2)
            (try clear hk)
            (try clear hi)
            refine hK.out _ _ ⟨bc BK123.out 0, bc BK123.out 1, bc BK123.out 2, bc BK123.out 3, bc BK123.out 4, bc BK123.out 5, bc BK122.out 0, bc BK122.out 1, bc BK122.out 2, bc BK122.out 3, bc BK122.out 4, bc BK122.out 5⟩ (fun hHeld => ?_)
            clear hK K
            refine norm_ (a' := ?_) ?_ ?_
            rotate_left
            ·show Act.put _ (some 21) _ = _
             simp only [Act.put, y1, y2, y3, i64_w, i32_w]
             rfl
            exact norm_ s2_4 (hJ2_4_5 (gb130) _ ⟨hHeld, (zk BK122.out), (zk BK123.out), (zk BK130.out), GW130.out, GE130.out, NB122_130.out, NB130_122.out, NB123_130.out, NB130_123.out, s2_1⟩)
           ·skip
            refine box_step ?hg (N := 6) ?hd (cs := #[.int .i64 0, .int .i64 0]) (t := 83) ?hr ?_; (case hd => rfl); (case hg => rfl); (case hr => first | (go_simp; done) | (go_simp; rfl))
            intro gb131 hg w28 hbox hb
            have n0_ := Aside0.mk (bb (zk BK122.out) hb)
            have n1_ := Aside0.mk (bb (zk BK123.out) hb)
            have n2_ := Aside0.mk (bb (zk BK130.out) hb)
            have n3_ := Aside0.mk (below_step s2_1 hb)
            have n4_ := Aside0.mk (hbox)
            have n5_ := Aside0.mk (ns hg s2_1 : w.heap.size ≤ gb131)
            have n6_ := Aside0.mk (ns hg s2_1 : w.heap.size ≤ gb131)
            have n7_ := Aside0.mk ((nlt hg (zk BK122.out) : gb122 ≠ gb131))
            have n8_ := Aside0.mk ((ngt hg (zk BK122.out) : gb131 ≠ gb122))
            have n9_ := Aside0.mk ((nlt hg (zk BK123.out) : gb123 ≠ gb131))
            have n10_ := Aside0.mk ((ngt hg (zk BK123.out) : gb131 ≠ gb123))
            have n11_ := Aside0.mk ((nlt hg (zk BK130.out) : gb130 ≠ gb131))
            have n12_ := Aside0.mk ((ngt hg (zk BK130.out) : gb131 ≠ gb130))
            clear BK122 BK123 BK130 HB
            have BK122 := n0_
            have BK123 := n1_
            have BK130 := n2_
            have HB := n3_
            have BK131 := n4_
            have GW131 := n5_
            have GE131 := n6_
            have NB122_131 := n7_
            have NB131_122 := n8_
            have NB123_131 := n9_
            have NB131_123 := n10_
            have NB130_131 := n11_
            have NB131_130 := n12_
            clear n0_ n1_ n2_ n3_ n4_ n5_ n6_ n7_ n8_ n9_ n10_ n11_ n12_ hb hbox hg
            refine hK.out _ _ ⟨bc BK123.out 0, bc BK123.out 1, bc BK123.out 2, bc BK123.out 3, bc BK123.out 4, bc BK123.out 5, bc BK122.out 0, bc BK122.out 1, bc BK122.out 2, bc BK122.out 3, bc BK122.out 4, bc BK122.out 5⟩ (fun hHeld => ?_)
            clear hK K
            refine norm_ (a' := ?_) ?_ ?_
            rotate_left
            ·show Act.put _ (some 6) _ = _
             simp only [Act.put, y1, y2, y3, i64_w, i32_w]
             rfl
            exact norm_ s2_4 (hJ2_5_6 (gb130, gb131) _ ⟨hHeld, (zk BK122.out), (zk BK123.out), (zk BK130.out), (zk BK131.out), GW130.out, GE130.out, NB122_130.out, NB130_122.out, NB123_130.out, NB130_123.out, NB131_130.out, NB130_131.out, GW131.out, GE131.out, NB122_131.out, NB131_122.out, NB123_131.out, NB131_123.out, s2_3⟩)
         ·skip
          rintro _ w27 ⟨hS_, h0_, h1_, h2_⟩
          have n0_ : Aside0 (w27.heap[gb122]? = some (.cells #[.int .i64 a0_0, .int .i64 a0_1, .int .i64 a0_2, .int .i64 a0_3, .int .i64 a0_4, .int .i64 a0_5] 25 (0, 0))) := ⟨h0_⟩
          have n1_ : Aside0 (w27.heap[gb123]? = some (.cells #[.int .i64 a1_0, .int .i64 a1_1, .int .i64 a1_2, .int .i64 a1_3, .int .i64 a1_4, .int .i64 a1_5] 25 (0, 0))) := ⟨h1_⟩
          have n2_ : Aside0 (Below w.heap.size w w27) := ⟨h2_⟩
          clear BK122 BK123 HB h0_ h1_ h2_
          have BK122 := n0_
          have BK123 := n1_
          have HB := n2_
          clear n0_ n1_ n2_
          have hHeld : w27.cell? ⟨gb123, 0, none⟩ = some (.int .i64 a1_0) ∧ w27.cell? ⟨gb123, 1, none⟩ = some (.int .i64 a1_1) ∧ w27.cell? ⟨gb123, 2, none⟩ = some (.int .i64 a1_2) ∧ w27.cell? ⟨gb123, 3, none⟩ = some (.int .i64 a1_3) ∧ w27.cell? ⟨gb123, 4, none⟩ = some (.int .i64 a1_4) ∧ w27.cell? ⟨gb123, 5, none⟩ = some (.int .i64 a1_5) ∧ w27.cell? ⟨gb122, 0, none⟩ = some (.int .i64 a0_0) ∧ w27.cell? ⟨gb122, 1, none⟩ = some (.int .i64 a0_1) ∧ w27.cell? ⟨gb122, 2, none⟩ = some (.int .i64 a0_2) ∧ w27.cell? ⟨gb122, 3, none⟩ = some (.int .i64 a0_3) ∧ w27.cell? ⟨gb122, 4, none⟩ = some (.int .i64 a0_4) ∧ w27.cell? ⟨gb122, 5, none⟩ = some (.int .i64 a0_5) := hS_
          refine norm_ (a' := ?_) ?_ ?_
          rotate_left
          ·simp only [putAll, Act.put, y1, y2, y3]
           rfl
          refine two_ (i := 5) (j := 6) (Ni := some 5) (Nj := some 6) (bz 9 63) (bz 9 95) rfl rfl rfl rfl (two_of HT_.out (by kernel_rfl)) (by decide) (by decide) (fun K hK => ?_) (fun K hK => ?_)
          ·skip
           refine box_step ?hg (N := 5) ?hd (cs := #[.int .i64 0, .int .i64 0]) (t := 83) ?hr ?_; (case hd => rfl); (case hg => rfl); (case hr => first | (go_simp; done) | (go_simp; rfl))
           intro gb130 hg w28 hbox hb
           have n0_ := Aside0.mk (bb (zk BK122.out) hb)
           have n1_ := Aside0.mk (bb (zk BK123.out) hb)
           have n2_ := Aside0.mk (below_step s2_0 hb)
           have n3_ := Aside0.mk (hbox)
           have n4_ := Aside0.mk (ns hg s2_0 : w.heap.size ≤ gb130)
           have n5_ := Aside0.mk (ns hg s2_0 : w.heap.size ≤ gb130)
           have n6_ := Aside0.mk ((nlt hg (zk BK122.out) : gb122 ≠ gb130))
           have n7_ := Aside0.mk ((ngt hg (zk BK122.out) : gb130 ≠ gb122))
           have n8_ := Aside0.mk ((nlt hg (zk BK123.out) : gb123 ≠ gb130))
           have n9_ := Aside0.mk ((ngt hg (zk BK123.out) : gb130 ≠ gb123))
           clear BK122 BK123 HB
           have BK122 := n0_
           have BK123 := n1_
           have HB := n2_
           have BK130 := n3_
           have GW130 := n4_
           have GE130 := n5_
           have NB122_130 := n6_
           have NB130_122 := n7_
           have NB123_130 := n8_
           have NB130_123 := n9_
           clear n0_ n1_ n2_ n3_ n4_ n5_ n6_ n7_ n8_ n9_ hb hbox hg
           refine hK.out _ _ ⟨bc BK123.out 0, bc BK123.out 1, bc BK123.out 2, bc BK123.out 3, bc BK123.out 4, bc BK123.out 5, bc BK122.out 0, bc BK122.out 1, bc BK122.out 2, bc BK122.out 3, bc BK122.out 4, bc BK122.out 5⟩ (fun hHeld => ?_)
           clear hK K
           refine norm_ (a' := ?_) ?_ ?_
           rotate_left
           ·show Act.put _ (some 5) _ = _
            simp only [Act.put, y1, y2, y3, i64_w, i32_w]
            rfl
           exact norm_ s2_4 (hJ2_4_5 (gb130) _ ⟨hHeld, (zk BK122.out), (zk BK123.out), (zk BK130.out), GW130.out, GE130.out, NB122_130.out, NB130_122.out, NB123_130.out, NB130_123.out, s2_1⟩)
          ·skip
           refine box_step ?hg (N := 6) ?hd (cs := #[.int .i64 0, .int .i64 0]) (t := 83) ?hr ?_; (case hd => rfl); (case hg => rfl); (case hr => first | (go_simp; done) | (go_simp; rfl))
           intro gb131 hg w28 hbox hb
           have n0_ := Aside0.mk (bb (zk BK122.out) hb)
           have n1_ := Aside0.mk (bb (zk BK123.out) hb)
           have n2_ := Aside0.mk (below_step s2_0 hb)
           have n3_ := Aside0.mk (hbox)
           have n4_ := Aside0.mk (ns hg s2_0 : w.heap.size ≤ gb131)
           have n5_ := Aside0.mk (ns hg s2_0 : w.heap.size ≤ gb131)
           have n6_ := Aside0.mk ((nlt hg (zk BK122.out) : gb122 ≠ gb131))
           have n7_ := Aside0.mk ((ngt hg (zk BK122.out) : gb131 ≠ gb122))
           have n8_ := Aside0.mk ((nlt hg (zk BK123.out) : gb123 ≠ gb131))
           have n9_ := Aside0.mk ((ngt hg (zk BK123.out) : gb131 ≠ gb123))
           clear BK122 BK123 HB
           have BK122 := n0_
           have BK123 := n1_
           have HB := n2_
           have BK131 := n3_
           have GW131 := n4_
           have GE131 := n5_
           have NB122_131 := n6_
           have NB131_122 := n7_
           have NB123_131 := n8_
           have NB131_123 := n9_
           clear n0_ n1_ n2_ n3_ n4_ n5_ n6_ n7_ n8_ n9_ hb hbox hg
           refine hK.out _ _ ⟨bc BK123.out 0, bc BK123.out 1, bc BK123.out 2, bc BK123.out 3, bc BK123.out 4, bc BK123.out 5, bc BK122.out 0, bc BK122.out 1, bc BK122.out 2, bc BK122.out 3, bc BK122.out 4, bc BK122.out 5⟩ (fun hHeld => ?_)
           clear hK K
           refine norm_ (a' := ?_) ?_ ?_
           rotate_left
           ·show Act.put _ (some 6) _ = _
            simp only [Act.put, y1, y2, y3, i64_w, i32_w]
            rfl
           exact norm_ s2_4 (hJ2_4_6 (gb131) _ ⟨hHeld, (zk BK122.out), (zk BK123.out), (zk BK131.out), GW131.out, GE131.out, NB122_131.out, NB131_122.out, NB123_131.out, NB131_123.out, s2_2⟩)
        ·skip
         rintro ⟨gb130, gb131⟩ w28 ⟨hS_, h0_, h1_, h2_, h3_, h4_, h5_, h6_, h7_, h8_, h9_, h10_, h11_, h12_, h13_, h14_, h15_, h16_, h17_, h18_⟩
         have n0_ : Aside0 (w28.heap[gb122]? = some (.cells #[.int .i64 a0_0, .int .i64 a0_1, .int .i64 a0_2, .int .i64 a0_3, .int .i64 a0_4, .int .i64 a0_5] 25 (0, 0))) := ⟨h0_⟩
         have n1_ : Aside0 (w28.heap[gb123]? = some (.cells #[.int .i64 a1_0, .int .i64 a1_1, .int .i64 a1_2, .int .i64 a1_3, .int .i64 a1_4, .int .i64 a1_5] 25 (0, 0))) := ⟨h1_⟩
         have n2_ : Aside0 (w28.heap[gb130]? = some (.cells #[.int .i64 0, .int .i64 0] 83 (0, 0))) := ⟨h2_⟩
         have n3_ : Aside0 (w28.heap[gb131]? = some (.cells #[.int .i64 0, .int .i64 0] 83 (0, 0))) := ⟨h3_⟩
         have n4_ : Aside0 (w.heap.size ≤ gb130) := ⟨h4_⟩
         have n5_ : Aside0 (w.heap.size ≤ gb130) := ⟨h5_⟩
         have n6_ : Aside0 (gb122 ≠ gb130) := ⟨h6_⟩
         have n7_ : Aside0 (gb130 ≠ gb122) := ⟨h7_⟩
         have n8_ : Aside0 (gb123 ≠ gb130) := ⟨h8_⟩
         have n9_ : Aside0 (gb130 ≠ gb123) := ⟨h9_⟩
         have n10_ : Aside0 (gb131 ≠ gb130) := ⟨h10_⟩
         have n11_ : Aside0 (gb130 ≠ gb131) := ⟨h11_⟩
         have n12_ : Aside0 (w.heap.size ≤ gb131) := ⟨h12_⟩
         have n13_ : Aside0 (w.heap.size ≤ gb131) := ⟨h13_⟩
         have n14_ : Aside0 (gb122 ≠ gb131) := ⟨h14_⟩
         have n15_ : Aside0 (gb131 ≠ gb122) := ⟨h15_⟩
         have n16_ : Aside0 (gb123 ≠ gb131) := ⟨h16_⟩
         have n17_ : Aside0 (gb131 ≠ gb123) := ⟨h17_⟩
         have n18_ : Aside0 (Below w.heap.size w w28) := ⟨h18_⟩
         clear BK122 BK123 HB h0_ h1_ h2_ h3_ h4_ h5_ h6_ h7_ h8_ h9_ h10_ h11_ h12_ h13_ h14_ h15_ h16_ h17_ h18_
         have BK122 := n0_
         have BK123 := n1_
         have BK130 := n2_
         have BK131 := n3_
         have GW130 := n4_
         have GE130 := n5_
         have NB122_130 := n6_
         have NB130_122 := n7_
         have NB123_130 := n8_
         have NB130_123 := n9_
         have NB131_130 := n10_
         have NB130_131 := n11_
         have GW131 := n12_
         have GE131 := n13_
         have NB122_131 := n14_
         have NB131_122 := n15_
         have NB123_131 := n16_
         have NB131_123 := n17_
         have HB := n18_
         clear n0_ n1_ n2_ n3_ n4_ n5_ n6_ n7_ n8_ n9_ n10_ n11_ n12_ n13_ n14_ n15_ n16_ n17_ n18_
         have hHeld : w28.cell? ⟨gb123, 0, none⟩ = some (.int .i64 a1_0) ∧ w28.cell? ⟨gb123, 1, none⟩ = some (.int .i64 a1_1) ∧ w28.cell? ⟨gb123, 2, none⟩ = some (.int .i64 a1_2) ∧ w28.cell? ⟨gb123, 3, none⟩ = some (.int .i64 a1_3) ∧ w28.cell? ⟨gb123, 4, none⟩ = some (.int .i64 a1_4) ∧ w28.cell? ⟨gb123, 5, none⟩ = some (.int .i64 a1_5) ∧ w28.cell? ⟨gb122, 0, none⟩ = some (.int .i64 a0_0) ∧ w28.cell? ⟨gb122, 1, none⟩ = some (.int .i64 a0_1) ∧ w28.cell? ⟨gb122, 2, none⟩ = some (.int .i64 a0_2) ∧ w28.cell? ⟨gb122, 3, none⟩ = some (.int .i64 a0_3) ∧ w28.cell? ⟨gb122, 4, none⟩ = some (.int .i64 a0_4) ∧ w28.cell? ⟨gb122, 5, none⟩ = some (.int .i64 a0_5) := hS_
         refine norm_ (a' := ?_) ?_ ?_
         rotate_left
         ·simp only [putAll, Act.put, y1, y2, y3]
          rfl
         refine one_ (i := 4) (N := some 21) (bz 9 127) rfl rfl (one_of HT_.out (by kernel_rfl)) (by decide) (fun K hK => ?_)
         refine goes_ Try.func66 (by kernel_rfl) rfl #[.agg #[.int .i64 a1_0, .int .i64 a1_1, .int .i64 a1_2, .int .i64 a1_3, .int .i64 a1_4, .int .i64 a1_5]] (by rfl) rfl rfl s2_5 ?_
         with_reducible refine (spec_l8Way.calls a1_0 a1_1 a1_2 a1_3 a1_4 a1_5 t128 t129 _ A19.out).mono ?_
         rintro e w29 ⟨rfl, hb⟩
         refine ⟨_, rfl, ?_⟩
         have n0_ := Aside0.mk (bb (zk BK122.out) hb)
         have n1_ := Aside0.mk (bb (zk BK123.out) hb)
         have n2_ := Aside0.mk (bb (zk BK130.out) hb)
         have n3_ := Aside0.mk (bb (zk BK131.out) hb)
         have n4_ := Aside0.mk (below_step s2_3 hb)
         clear BK122 BK123 BK130 BK131 HB
         have BK122 := n0_
         have BK123 := n1_
         have BK130 := n2_
         have BK131 := n3_
         have HB := n4_
         clear n0_ n1_ n2_ n3_ n4_
         (try clear hb)
         (try clear hb2)
         (try clear hk)
         (try clear hi)
         refine hK.out _ _ ⟨bc BK123.out 0, bc BK123.out 1, bc BK123.out 2, bc BK123.out 3, bc BK123.out 4, bc BK123.out 5, bc BK122.out 0, bc BK122.out 1, bc BK122.out 2, bc BK122.out 3, bc BK122.out 4, bc BK122.out 5⟩ (fun hHeld => ?_)
         clear hK K
         refine norm_ (a' := ?_) ?_ ?_
         rotate_left
         ·show Act.put _ (some 21) _ = _
          simp only [Act.put, y1, y2, y3, i64_w, i32_w]
          rfl
         exact norm_ s2_4 (hJ2_4_5_6 (gb130, gb131) _ ⟨hHeld, (zk BK122.out), (zk BK123.out), (zk BK130.out), (zk BK131.out), GW130.out, GE130.out, NB122_130.out, NB130_122.out, NB123_130.out, NB130_123.out, NB131_130.out, NB130_131.out, GW131.out, GE131.out, NB122_131.out, NB131_122.out, NB123_131.out, NB131_123.out, s2_3⟩)
       ·skip
        rintro gb131 w28 ⟨hS_, h0_, h1_, h2_, h3_, h4_, h5_, h6_, h7_, h8_, h9_⟩
        have n0_ : Aside0 (w28.heap[gb122]? = some (.cells #[.int .i64 a0_0, .int .i64 a0_1, .int .i64 a0_2, .int .i64 a0_3, .int .i64 a0_4, .int .i64 a0_5] 25 (0, 0))) := ⟨h0_⟩
        have n1_ : Aside0 (w28.heap[gb123]? = some (.cells #[.int .i64 a1_0, .int .i64 a1_1, .int .i64 a1_2, .int .i64 a1_3, .int .i64 a1_4, .int .i64 a1_5] 25 (0, 0))) := ⟨h1_⟩
        have n2_ : Aside0 (w28.heap[gb131]? = some (.cells #[.int .i64 0, .int .i64 0] 83 (0, 0))) := ⟨h2_⟩
        have n3_ : Aside0 (w.heap.size ≤ gb131) := ⟨h3_⟩
        have n4_ : Aside0 (w.heap.size ≤ gb131) := ⟨h4_⟩
        have n5_ : Aside0 (gb122 ≠ gb131) := ⟨h5_⟩
        have n6_ : Aside0 (gb131 ≠ gb122) := ⟨h6_⟩
        have n7_ : Aside0 (gb123 ≠ gb131) := ⟨h7_⟩
        have n8_ : Aside0 (gb131 ≠ gb123) := ⟨h8_⟩
        have n9_ : Aside0 (Below w.heap.size w w28) := ⟨h9_⟩
        clear BK122 BK123 HB h0_ h1_ h2_ h3_ h4_ h5_ h6_ h7_ h8_ h9_
        have BK122 := n0_
        have BK123 := n1_
        have BK131 := n2_
        have GW131 := n3_
        have GE131 := n4_
        have NB122_131 := n5_
        have NB131_122 := n6_
        have NB123_131 := n7_
        have NB131_123 := n8_
        have HB := n9_
        clear n0_ n1_ n2_ n3_ n4_ n5_ n6_ n7_ n8_ n9_
        have hHeld : w28.cell? ⟨gb123, 0, none⟩ = some (.int .i64 a1_0) ∧ w28.cell? ⟨gb123, 1, none⟩ = some (.int .i64 a1_1) ∧ w28.cell? ⟨gb123, 2, none⟩ = some (.int .i64 a1_2) ∧ w28.cell? ⟨gb123, 3, none⟩ = some (.int .i64 a1_3) ∧ w28.cell? ⟨gb123, 4, none⟩ = some (.int .i64 a1_4) ∧ w28.cell? ⟨gb123, 5, none⟩ = some (.int .i64 a1_5) ∧ w28.cell? ⟨gb122, 0, none⟩ = some (.int .i64 a0_0) ∧ w28.cell? ⟨gb122, 1, none⟩ = some (.int .i64 a0_1) ∧ w28.cell? ⟨gb122, 2, none⟩ = some (.int .i64 a0_2) ∧ w28.cell? ⟨gb122, 3, none⟩ = some (.int .i64 a0_3) ∧ w28.cell? ⟨gb122, 4, none⟩ = some (.int .i64 a0_4) ∧ w28.cell? ⟨gb122, 5, none⟩ = some (.int .i64 a0_5) := hS_
        refine norm_ (a' := ?_) ?_ ?_
        rotate_left
        ·simp only [putAll, Act.put, y1, y2, y3]
         rfl
        refine one_ (i := 5) (N := some 5) (bz 9 127) rfl rfl (one_of HT_.out (by kernel_rfl)) (by decide) (fun K hK => ?_)
        refine box_step ?hg (N := 5) ?hd (cs := #[.int .i64 0, .int .i64 0]) (t := 83) ?hr ?_; (case hd => rfl); (case hg => rfl); (case hr => first | (go_simp; done) | (go_simp; rfl))
        intro gb130 hg w29 hbox hb
        have n0_ := Aside0.mk (bb (zk BK122.out) hb)
        have n1_ := Aside0.mk (bb (zk BK123.out) hb)
        have n2_ := Aside0.mk (bb (zk BK131.out) hb)
        have n3_ := Aside0.mk (below_step s2_2 hb)
        have n4_ := Aside0.mk (hbox)
        have n5_ := Aside0.mk (ns hg s2_2 : w.heap.size ≤ gb130)
        have n6_ := Aside0.mk (ns hg s2_2 : w.heap.size ≤ gb130)
        have n7_ := Aside0.mk ((nlt hg (zk BK122.out) : gb122 ≠ gb130))
        have n8_ := Aside0.mk ((ngt hg (zk BK122.out) : gb130 ≠ gb122))
        have n9_ := Aside0.mk ((nlt hg (zk BK123.out) : gb123 ≠ gb130))
        have n10_ := Aside0.mk ((ngt hg (zk BK123.out) : gb130 ≠ gb123))
        have n11_ := Aside0.mk ((nlt hg (zk BK131.out) : gb131 ≠ gb130))
        have n12_ := Aside0.mk ((ngt hg (zk BK131.out) : gb130 ≠ gb131))
        clear BK122 BK123 BK131 HB
        have BK122 := n0_
        have BK123 := n1_
        have BK131 := n2_
        have HB := n3_
        have BK130 := n4_
        have GW130 := n5_
        have GE130 := n6_
        have NB122_130 := n7_
        have NB130_122 := n8_
        have NB123_130 := n9_
        have NB130_123 := n10_
        have NB131_130 := n11_
        have NB130_131 := n12_
        clear n0_ n1_ n2_ n3_ n4_ n5_ n6_ n7_ n8_ n9_ n10_ n11_ n12_ hb hbox hg
        refine hK.out _ _ ⟨bc BK123.out 0, bc BK123.out 1, bc BK123.out 2, bc BK123.out 3, bc BK123.out 4, bc BK123.out 5, bc BK122.out 0, bc BK122.out 1, bc BK122.out 2, bc BK122.out 3, bc BK122.out 4, bc BK122.out 5⟩ (fun hHeld => ?_)
        clear hK K
        refine norm_ (a' := ?_) ?_ ?_
        rotate_left
        ·show Act.put _ (some 5) _ = _
         simp only [Act.put, y1, y2, y3, i64_w, i32_w]
         rfl
        exact norm_ s2_4 (hJ2_4_5_6 (gb130, gb131) _ ⟨hHeld, (zk BK122.out), (zk BK123.out), (zk BK130.out), (zk BK131.out), GW130.out, GE130.out, NB122_130.out, NB130_122.out, NB123_130.out, NB130_123.out, NB131_130.out, NB130_131.out, GW131.out, GE131.out, NB122_131.out, NB131_122.out, NB123_131.out, NB131_123.out, s2_6⟩)
      ·skip
       rintro gb130 w28 ⟨hS_, h0_, h1_, h2_, h3_, h4_, h5_, h6_, h7_, h8_, h9_⟩
       have n0_ : Aside0 (w28.heap[gb122]? = some (.cells #[.int .i64 a0_0, .int .i64 a0_1, .int .i64 a0_2, .int .i64 a0_3, .int .i64 a0_4, .int .i64 a0_5] 25 (0, 0))) := ⟨h0_⟩
       have n1_ : Aside0 (w28.heap[gb123]? = some (.cells #[.int .i64 a1_0, .int .i64 a1_1, .int .i64 a1_2, .int .i64 a1_3, .int .i64 a1_4, .int .i64 a1_5] 25 (0, 0))) := ⟨h1_⟩
       have n2_ : Aside0 (w28.heap[gb130]? = some (.cells #[.int .i64 0, .int .i64 0] 83 (0, 0))) := ⟨h2_⟩
       have n3_ : Aside0 (w.heap.size ≤ gb130) := ⟨h3_⟩
       have n4_ : Aside0 (w.heap.size ≤ gb130) := ⟨h4_⟩
       have n5_ : Aside0 (gb122 ≠ gb130) := ⟨h5_⟩
       have n6_ : Aside0 (gb130 ≠ gb122) := ⟨h6_⟩
       have n7_ : Aside0 (gb123 ≠ gb130) := ⟨h7_⟩
       have n8_ : Aside0 (gb130 ≠ gb123) := ⟨h8_⟩
       have n9_ : Aside0 (Below w.heap.size w w28) := ⟨h9_⟩
       clear BK122 BK123 HB h0_ h1_ h2_ h3_ h4_ h5_ h6_ h7_ h8_ h9_
       have BK122 := n0_
       have BK123 := n1_
       have BK130 := n2_
       have GW130 := n3_
       have GE130 := n4_
       have NB122_130 := n5_
       have NB130_122 := n6_
       have NB123_130 := n7_
       have NB130_123 := n8_
       have HB := n9_
       clear n0_ n1_ n2_ n3_ n4_ n5_ n6_ n7_ n8_ n9_
       have hHeld : w28.cell? ⟨gb123, 0, none⟩ = some (.int .i64 a1_0) ∧ w28.cell? ⟨gb123, 1, none⟩ = some (.int .i64 a1_1) ∧ w28.cell? ⟨gb123, 2, none⟩ = some (.int .i64 a1_2) ∧ w28.cell? ⟨gb123, 3, none⟩ = some (.int .i64 a1_3) ∧ w28.cell? ⟨gb123, 4, none⟩ = some (.int .i64 a1_4) ∧ w28.cell? ⟨gb123, 5, none⟩ = some (.int .i64 a1_5) ∧ w28.cell? ⟨gb122, 0, none⟩ = some (.int .i64 a0_0) ∧ w28.cell? ⟨gb122, 1, none⟩ = some (.int .i64 a0_1) ∧ w28.cell? ⟨gb122, 2, none⟩ = some (.int .i64 a0_2) ∧ w28.cell? ⟨gb122, 3, none⟩ = some (.int .i64 a0_3) ∧ w28.cell? ⟨gb122, 4, none⟩ = some (.int .i64 a0_4) ∧ w28.cell? ⟨gb122, 5, none⟩ = some (.int .i64 a0_5) := hS_
       refine norm_ (a' := ?_) ?_ ?_
       rotate_left
       ·simp only [putAll, Act.put, y1, y2, y3]
        rfl
       refine one_ (i := 6) (N := some 6) (bz 9 127) rfl rfl (one_of HT_.out (by kernel_rfl)) (by decide) (fun K hK => ?_)
       refine box_step ?hg (N := 6) ?hd (cs := #[.int .i64 0, .int .i64 0]) (t := 83) ?hr ?_; (case hd => rfl); (case hg => rfl); (case hr => first | (go_simp; done) | (go_simp; rfl))
       intro gb131 hg w29 hbox hb
       have n0_ := Aside0.mk (bb (zk BK122.out) hb)
       have n1_ := Aside0.mk (bb (zk BK123.out) hb)
       have n2_ := Aside0.mk (bb (zk BK130.out) hb)
       have n3_ := Aside0.mk (below_step s2_1 hb)
       have n4_ := Aside0.mk (hbox)
       have n5_ := Aside0.mk (ns hg s2_1 : w.heap.size ≤ gb131)
       have n6_ := Aside0.mk (ns hg s2_1 : w.heap.size ≤ gb131)
       have n7_ := Aside0.mk ((nlt hg (zk BK122.out) : gb122 ≠ gb131))
       have n8_ := Aside0.mk ((ngt hg (zk BK122.out) : gb131 ≠ gb122))
       have n9_ := Aside0.mk ((nlt hg (zk BK123.out) : gb123 ≠ gb131))
       have n10_ := Aside0.mk ((ngt hg (zk BK123.out) : gb131 ≠ gb123))
       have n11_ := Aside0.mk ((nlt hg (zk BK130.out) : gb130 ≠ gb131))
       have n12_ := Aside0.mk ((ngt hg (zk BK130.out) : gb131 ≠ gb130))
       clear BK122 BK123 BK130 HB
       have BK122 := n0_
       have BK123 := n1_
       have BK130 := n2_
       have HB := n3_
       have BK131 := n4_
       have GW131 := n5_
       have GE131 := n6_
       have NB122_131 := n7_
       have NB131_122 := n8_
       have NB123_131 := n9_
       have NB131_123 := n10_
       have NB130_131 := n11_
       have NB131_130 := n12_
       clear n0_ n1_ n2_ n3_ n4_ n5_ n6_ n7_ n8_ n9_ n10_ n11_ n12_ hb hbox hg
       refine hK.out _ _ ⟨bc BK123.out 0, bc BK123.out 1, bc BK123.out 2, bc BK123.out 3, bc BK123.out 4, bc BK123.out 5, bc BK122.out 0, bc BK122.out 1, bc BK122.out 2, bc BK122.out 3, bc BK122.out 4, bc BK122.out 5⟩ (fun hHeld => ?_)
       clear hK K
       refine norm_ (a' := ?_) ?_ ?_
       rotate_left
       ·show Act.put _ (some 6) _ = _
        simp only [Act.put, y1, y2, y3, i64_w, i32_w]
        rfl
       exact norm_ s2_4 (hJ2_4_5_6 (gb130, gb131) _ ⟨hHeld, (zk BK122.out), (zk BK123.out), (zk BK130.out), (zk BK131.out), GW130.out, GE130.out, NB122_130.out, NB130_122.out, NB123_130.out, NB130_123.out, NB131_130.out, NB130_131.out, GW131.out, GE131.out, NB122_131.out, NB131_122.out, NB123_131.out, NB131_123.out, s2_3⟩)
     rintro ⟨gb130, gb131⟩ w29 ⟨hS_, h0_, h1_, h2_, h3_, h4_, h5_, h6_, h7_, h8_, h9_, h10_, h11_, h12_, h13_, h14_, h15_, h16_, h17_, h18_⟩
     have n0_ : Aside0 (w29.heap[gb122]? = some (.cells #[.int .i64 a0_0, .int .i64 a0_1, .int .i64 a0_2, .int .i64 a0_3, .int .i64 a0_4, .int .i64 a0_5] 25 (0, 0))) := ⟨h0_⟩
     have n1_ : Aside0 (w29.heap[gb123]? = some (.cells #[.int .i64 a1_0, .int .i64 a1_1, .int .i64 a1_2, .int .i64 a1_3, .int .i64 a1_4, .int .i64 a1_5] 25 (0, 0))) := ⟨h1_⟩
     have n2_ : Aside0 (w29.heap[gb130]? = some (.cells #[.int .i64 0, .int .i64 0] 83 (0, 0))) := ⟨h2_⟩
     have n3_ : Aside0 (w29.heap[gb131]? = some (.cells #[.int .i64 0, .int .i64 0] 83 (0, 0))) := ⟨h3_⟩
     have n4_ : Aside0 (w.heap.size ≤ gb130) := ⟨h4_⟩
     have n5_ : Aside0 (w.heap.size ≤ gb130) := ⟨h5_⟩
     have n6_ : Aside0 (gb122 ≠ gb130) := ⟨h6_⟩
     have n7_ : Aside0 (gb130 ≠ gb122) := ⟨h7_⟩
     have n8_ : Aside0 (gb123 ≠ gb130) := ⟨h8_⟩
     have n9_ : Aside0 (gb130 ≠ gb123) := ⟨h9_⟩
     have n10_ : Aside0 (gb131 ≠ gb130) := ⟨h10_⟩
     have n11_ : Aside0 (gb130 ≠ gb131) := ⟨h11_⟩
     have n12_ : Aside0 (w.heap.size ≤ gb131) := ⟨h12_⟩
     have n13_ : Aside0 (w.heap.size ≤ gb131) := ⟨h13_⟩
     have n14_ : Aside0 (gb122 ≠ gb131) := ⟨h14_⟩
     have n15_ : Aside0 (gb131 ≠ gb122) := ⟨h15_⟩
     have n16_ : Aside0 (gb123 ≠ gb131) := ⟨h16_⟩
     have n17_ : Aside0 (gb131 ≠ gb123) := ⟨h17_⟩
     have n18_ : Aside0 (Below w.heap.size w w29) := ⟨h18_⟩
     clear BK122 BK123 HB h0_ h1_ h2_ h3_ h4_ h5_ h6_ h7_ h8_ h9_ h10_ h11_ h12_ h13_ h14_ h15_ h16_ h17_ h18_
     have BK122 := n0_
     have BK123 := n1_
     have BK130 := n2_
     have BK131 := n3_
     have GW130 := n4_
     have GE130 := n5_
     have NB122_130 := n6_
     have NB130_122 := n7_
     have NB123_130 := n8_
     have NB130_123 := n9_
     have NB131_130 := n10_
     have NB130_131 := n11_
     have GW131 := n12_
     have GE131 := n13_
     have NB122_131 := n14_
     have NB131_122 := n15_
     have NB123_131 := n16_
     have NB131_123 := n17_
     have HB := n18_
     clear n0_ n1_ n2_ n3_ n4_ n5_ n6_ n7_ n8_ n9_ n10_ n11_ n12_ n13_ n14_ n15_ n16_ n17_ n18_
     have hHeld : w29.cell? ⟨gb123, 0, none⟩ = some (.int .i64 a1_0) ∧ w29.cell? ⟨gb123, 1, none⟩ = some (.int .i64 a1_1) ∧ w29.cell? ⟨gb123, 2, none⟩ = some (.int .i64 a1_2) ∧ w29.cell? ⟨gb123, 3, none⟩ = some (.int .i64 a1_3) ∧ w29.cell? ⟨gb123, 4, none⟩ = some (.int .i64 a1_4) ∧ w29.cell? ⟨gb123, 5, none⟩ = some (.int .i64 a1_5) ∧ w29.cell? ⟨gb122, 0, none⟩ = some (.int .i64 a0_0) ∧ w29.cell? ⟨gb122, 1, none⟩ = some (.int .i64 a0_1) ∧ w29.cell? ⟨gb122, 2, none⟩ = some (.int .i64 a0_2) ∧ w29.cell? ⟨gb122, 3, none⟩ = some (.int .i64 a0_3) ∧ w29.cell? ⟨gb122, 4, none⟩ = some (.int .i64 a0_4) ∧ w29.cell? ⟨gb122, 5, none⟩ = some (.int .i64 a0_5) := hS_
     refine norm_ (a' := ?_) ?_ ?_
     rotate_left
     ·simp only [putAll, Act.put, y1, y2, y3]
      rfl
     refine one_ (i := 7) (N := none) (bz 9 255) rfl rfl (one_of HT_.out (by kernel_rfl)) (by decide) (fun K hK => ?_)
     have hs30 : w29.cell? ⟨gb130, 0, none⟩ = some (.int .i64 0) := bc BK130.out 0
     have hfs30 := blk_frozen BK130.out 0
     have hns30_0 := NB122_130.out
     have hns30_1 := NB123_130.out
     have hns30_3 := NB131_130.out
     have hms30_0 := NB130_122.out
     have hms30_1 := NB130_123.out
     have hms30_3 := NB130_131.out
     have hs31 : w29.cell? ⟨gb130, 1, none⟩ = some (.int .i64 0) := bc BK130.out 1
     have hfs31 := blk_frozen BK130.out 1
     have hns31_0 := NB122_130.out
     have hns31_1 := NB123_130.out
     have hns31_3 := NB131_130.out
     have hms31_0 := NB130_122.out
     have hms31_1 := NB130_123.out
     have hms31_3 := NB130_131.out
     refine skip_ (w1 := ?_) (by rfl) rfl ?_ ?_
     rotate_left
     ·go_simp
      rfl
     refine hK.out _ _ ⟨((cell_far (p := ⟨gb130, _, none⟩) NB123_130.out _).trans (((cell_far (p := ⟨gb130, _, none⟩) NB123_130.out _).trans (hHeld.1)))), ((cell_far (p := ⟨gb130, _, none⟩) NB123_130.out _).trans (((cell_far (p := ⟨gb130, _, none⟩) NB123_130.out _).trans (hHeld.2.1)))), ((cell_far (p := ⟨gb130, _, none⟩) NB123_130.out _).trans (((cell_far (p := ⟨gb130, _, none⟩) NB123_130.out _).trans (hHeld.2.2.1)))), ((cell_far (p := ⟨gb130, _, none⟩) NB123_130.out _).trans (((cell_far (p := ⟨gb130, _, none⟩) NB123_130.out _).trans (hHeld.2.2.2.1)))), ((cell_far (p := ⟨gb130, _, none⟩) NB123_130.out _).trans (((cell_far (p := ⟨gb130, _, none⟩) NB123_130.out _).trans (hHeld.2.2.2.2.1)))), ((cell_far (p := ⟨gb130, _, none⟩) NB123_130.out _).trans (((cell_far (p := ⟨gb130, _, none⟩) NB123_130.out _).trans (hHeld.2.2.2.2.2.1)))), ((cell_far (p := ⟨gb130, _, none⟩) NB122_130.out _).trans (((cell_far (p := ⟨gb130, _, none⟩) NB122_130.out _).trans (hHeld.2.2.2.2.2.2.1)))), ((cell_far (p := ⟨gb130, _, none⟩) NB122_130.out _).trans (((cell_far (p := ⟨gb130, _, none⟩) NB122_130.out _).trans (hHeld.2.2.2.2.2.2.2.1)))), ((cell_far (p := ⟨gb130, _, none⟩) NB122_130.out _).trans (((cell_far (p := ⟨gb130, _, none⟩) NB122_130.out _).trans (hHeld.2.2.2.2.2.2.2.2.1)))), ((cell_far (p := ⟨gb130, _, none⟩) NB122_130.out _).trans (((cell_far (p := ⟨gb130, _, none⟩) NB122_130.out _).trans (hHeld.2.2.2.2.2.2.2.2.2.1)))), ((cell_far (p := ⟨gb130, _, none⟩) NB122_130.out _).trans (((cell_far (p := ⟨gb130, _, none⟩) NB122_130.out _).trans (hHeld.2.2.2.2.2.2.2.2.2.2.1)))), ((cell_far (p := ⟨gb130, _, none⟩) NB122_130.out _).trans (((cell_far (p := ⟨gb130, _, none⟩) NB122_130.out _).trans (hHeld.2.2.2.2.2.2.2.2.2.2.2))))⟩ (fun hHeld => ?_)
     clear hK K
     refine one_ (i := 8) (N := none) (bz 9 511) rfl rfl (one_of HT_.out (by kernel_rfl)) (by decide) (fun K hK => ?_)
     have hs32 : w29.cell? ⟨gb131, 0, none⟩ = some (.int .i64 0) := bc BK131.out 0
     have hfs32 := blk_frozen BK131.out 0
     have hns32_0 := NB122_131.out
     have hns32_1 := NB123_131.out
     have hns32_2 := NB130_131.out
     have hms32_0 := NB131_122.out
     have hms32_1 := NB131_123.out
     have hms32_2 := NB131_130.out
     have hs33 : w29.cell? ⟨gb131, 1, none⟩ = some (.int .i64 0) := bc BK131.out 1
     have hfs33 := blk_frozen BK131.out 1
     have hns33_0 := NB122_131.out
     have hns33_1 := NB123_131.out
     have hns33_2 := NB130_131.out
     have hms33_0 := NB131_122.out
     have hms33_1 := NB131_123.out
     have hms33_2 := NB131_130.out
     refine skip_ (w1 := ?_) (by rfl) rfl ?_ ?_
     rotate_left
     ·go_simp
      rfl
     refine hK.out _ _ ⟨((cell_far (p := ⟨gb131, _, none⟩) NB123_131.out _).trans (((cell_far (p := ⟨gb131, _, none⟩) NB123_131.out _).trans (hHeld.1)))), ((cell_far (p := ⟨gb131, _, none⟩) NB123_131.out _).trans (((cell_far (p := ⟨gb131, _, none⟩) NB123_131.out _).trans (hHeld.2.1)))), ((cell_far (p := ⟨gb131, _, none⟩) NB123_131.out _).trans (((cell_far (p := ⟨gb131, _, none⟩) NB123_131.out _).trans (hHeld.2.2.1)))), ((cell_far (p := ⟨gb131, _, none⟩) NB123_131.out _).trans (((cell_far (p := ⟨gb131, _, none⟩) NB123_131.out _).trans (hHeld.2.2.2.1)))), ((cell_far (p := ⟨gb131, _, none⟩) NB123_131.out _).trans (((cell_far (p := ⟨gb131, _, none⟩) NB123_131.out _).trans (hHeld.2.2.2.2.1)))), ((cell_far (p := ⟨gb131, _, none⟩) NB123_131.out _).trans (((cell_far (p := ⟨gb131, _, none⟩) NB123_131.out _).trans (hHeld.2.2.2.2.2.1)))), ((cell_far (p := ⟨gb131, _, none⟩) NB122_131.out _).trans (((cell_far (p := ⟨gb131, _, none⟩) NB122_131.out _).trans (hHeld.2.2.2.2.2.2.1)))), ((cell_far (p := ⟨gb131, _, none⟩) NB122_131.out _).trans (((cell_far (p := ⟨gb131, _, none⟩) NB122_131.out _).trans (hHeld.2.2.2.2.2.2.2.1)))), ((cell_far (p := ⟨gb131, _, none⟩) NB122_131.out _).trans (((cell_far (p := ⟨gb131, _, none⟩) NB122_131.out _).trans (hHeld.2.2.2.2.2.2.2.2.1)))), ((cell_far (p := ⟨gb131, _, none⟩) NB122_131.out _).trans (((cell_far (p := ⟨gb131, _, none⟩) NB122_131.out _).trans (hHeld.2.2.2.2.2.2.2.2.2.1)))), ((cell_far (p := ⟨gb131, _, none⟩) NB122_131.out _).trans (((cell_far (p := ⟨gb131, _, none⟩) NB122_131.out _).trans (hHeld.2.2.2.2.2.2.2.2.2.2.1)))), ((cell_far (p := ⟨gb131, _, none⟩) NB122_131.out _).trans (((cell_far (p := ⟨gb131, _, none⟩) NB122_131.out _).trans (hHeld.2.2.2.2.2.2.2.2.2.2.2))))⟩ (fun hHeld => ?_)
     clear hK K
     refine done_ (done_of HT_.out (by kernel_rfl)) ?_
     try go_wp2
     have n0_ : Aside0 (((((w29.setCell ⟨gb130, 0, none⟩ (.int .i64 t126)).setCell ⟨gb130, 1, none⟩ (.int .i64 t127)).setCell ⟨gb131, 0, none⟩ (.int .i64 t128)).setCell ⟨gb131, 1, none⟩ (.int .i64 t129)).heap[gb122]? = some (.cells #[.int .i64 a0_0, .int .i64 a0_1, .int .i64 a0_2, .int .i64 a0_3, .int .i64 a0_4, .int .i64 a0_5] 25 (0, 0))) := ⟨by (with_reducible repeat (first | refine blk_drewN ?_ _ | refine blk_drew ?_ | refine blk_alloc ?_ _)); refine blk_far ?_ NB122_131.out _; (with_reducible repeat (first | refine blk_drewN ?_ _ | refine blk_drew ?_ | refine blk_alloc ?_ _)); refine blk_far ?_ NB122_131.out _; (with_reducible repeat (first | refine blk_drewN ?_ _ | refine blk_drew ?_ | refine blk_alloc ?_ _)); refine blk_far ?_ NB122_130.out _; (with_reducible repeat (first | refine blk_drewN ?_ _ | refine blk_drew ?_ | refine blk_alloc ?_ _)); refine blk_far ?_ NB122_130.out _; (with_reducible repeat (first | refine blk_drewN ?_ _ | refine blk_drew ?_ | refine blk_alloc ?_ _)); exact BK122.out⟩
     have n1_ : Aside0 (((((w29.setCell ⟨gb130, 0, none⟩ (.int .i64 t126)).setCell ⟨gb130, 1, none⟩ (.int .i64 t127)).setCell ⟨gb131, 0, none⟩ (.int .i64 t128)).setCell ⟨gb131, 1, none⟩ (.int .i64 t129)).heap[gb123]? = some (.cells #[.int .i64 a1_0, .int .i64 a1_1, .int .i64 a1_2, .int .i64 a1_3, .int .i64 a1_4, .int .i64 a1_5] 25 (0, 0))) := ⟨by (with_reducible repeat (first | refine blk_drewN ?_ _ | refine blk_drew ?_ | refine blk_alloc ?_ _)); refine blk_far ?_ NB123_131.out _; (with_reducible repeat (first | refine blk_drewN ?_ _ | refine blk_drew ?_ | refine blk_alloc ?_ _)); refine blk_far ?_ NB123_131.out _; (with_reducible repeat (first | refine blk_drewN ?_ _ | refine blk_drew ?_ | refine blk_alloc ?_ _)); refine blk_far ?_ NB123_130.out _; (with_reducible repeat (first | refine blk_drewN ?_ _ | refine blk_drew ?_ | refine blk_alloc ?_ _)); refine blk_far ?_ NB123_130.out _; (with_reducible repeat (first | refine blk_drewN ?_ _ | refine blk_drew ?_ | refine blk_alloc ?_ _)); exact BK123.out⟩
     have n2_ : Aside0 (((((w29.setCell ⟨gb130, 0, none⟩ (.int .i64 t126)).setCell ⟨gb130, 1, none⟩ (.int .i64 t127)).setCell ⟨gb131, 0, none⟩ (.int .i64 t128)).setCell ⟨gb131, 1, none⟩ (.int .i64 t129)).heap[gb130]? = some (.cells #[.int .i64 t126, .int .i64 t127] 83 (0, 0))) := ⟨by (with_reducible repeat (first | refine blk_drewN ?_ _ | refine blk_drew ?_ | refine blk_alloc ?_ _)); refine blk_far ?_ NB130_131.out _; (with_reducible repeat (first | refine blk_drewN ?_ _ | refine blk_drew ?_ | refine blk_alloc ?_ _)); refine blk_far ?_ NB130_131.out _; (with_reducible repeat (first | refine blk_drewN ?_ _ | refine blk_drew ?_ | refine blk_alloc ?_ _)); refine blk_put (cs := #[.int .i64 t126, .int .i64 0]) ?_ 1 _ rfl; (with_reducible repeat (first | refine blk_drewN ?_ _ | refine blk_drew ?_ | refine blk_alloc ?_ _)); refine blk_put (cs := #[.int .i64 0, .int .i64 0]) ?_ 0 _ rfl; (with_reducible repeat (first | refine blk_drewN ?_ _ | refine blk_drew ?_ | refine blk_alloc ?_ _)); exact BK130.out⟩
     have n3_ : Aside0 (((((w29.setCell ⟨gb130, 0, none⟩ (.int .i64 t126)).setCell ⟨gb130, 1, none⟩ (.int .i64 t127)).setCell ⟨gb131, 0, none⟩ (.int .i64 t128)).setCell ⟨gb131, 1, none⟩ (.int .i64 t129)).heap[gb131]? = some (.cells #[.int .i64 t128, .int .i64 t129] 83 (0, 0))) := ⟨by (with_reducible repeat (first | refine blk_drewN ?_ _ | refine blk_drew ?_ | refine blk_alloc ?_ _)); refine blk_put (cs := #[.int .i64 t128, .int .i64 0]) ?_ 1 _ rfl; (with_reducible repeat (first | refine blk_drewN ?_ _ | refine blk_drew ?_ | refine blk_alloc ?_ _)); refine blk_put (cs := #[.int .i64 0, .int .i64 0]) ?_ 0 _ rfl; (with_reducible repeat (first | refine blk_drewN ?_ _ | refine blk_drew ?_ | refine blk_alloc ?_ _)); refine blk_far ?_ NB131_130.out _; (with_reducible repeat (first | refine blk_drewN ?_ _ | refine blk_drew ?_ | refine blk_alloc ?_ _)); refine blk_far ?_ NB131_130.out _; (with_reducible repeat (first | refine blk_drewN ?_ _ | refine blk_drew ?_ | refine blk_alloc ?_ _)); exact BK131.out⟩
     have n4_ : Aside0 (Below w.heap.size w ((((w29.setCell ⟨gb130, 0, none⟩ (.int .i64 t126)).setCell ⟨gb130, 1, none⟩ (.int .i64 t127)).setCell ⟨gb131, 0, none⟩ (.int .i64 t128)).setCell ⟨gb131, 1, none⟩ (.int .i64 t129))) := ⟨by repeat (first | (with_reducible first | exact HB.out | apply below_alloc | apply pw_below_drewN | apply below_drew1 | refine below_set ?_ GE122.out | refine below_set ?_ GE123.out | refine below_set ?_ GE130.out | refine below_set ?_ GE131.out) | exact HB.out)⟩
     (try clear BK122)
     (try clear BK123)
     (try clear BK130)
     (try clear BK131)
     (try clear HB)
     generalize ((((w29.setCell ⟨gb130, 0, none⟩ (.int .i64 t126)).setCell ⟨gb130, 1, none⟩ (.int .i64 t127)).setCell ⟨gb131, 0, none⟩ (.int .i64 t128)).setCell ⟨gb131, 1, none⟩ (.int .i64 t129)) = w34 at n0_ n1_ n2_ n3_ n4_ ⊢
     have BK122 := n0_
     have BK123 := n1_
     have BK130 := n2_
     have BK131 := n3_
     have HB := n4_
     clear n0_ n1_ n2_ n3_ n4_
     have n0_ := Aside0.mk (blk_drew BK122.out)
     have n1_ := Aside0.mk (blk_drew BK123.out)
     have n2_ := Aside0.mk (blk_drew BK130.out)
     have n3_ := Aside0.mk (blk_drew BK131.out)
     have n4_ := Aside0.mk (below_drew1 HB.out)
     clear BK122 BK123 BK130 BK131 HB
     have BK122 := n0_
     have BK123 := n1_
     have BK130 := n2_
     have BK131 := n3_
     have HB := n4_
     clear n0_ n1_ n2_ n3_ n4_
     refine start_ (n := 8) (S := fun w' => w'.cell? ⟨gb130, 0, none⟩ = some (.int .i64 t126) ∧ w'.cell? ⟨gb130, 1, none⟩ = some (.int .i64 t127) ∧ w'.cell? ⟨gb131, 0, none⟩ = some (.int .i64 t128) ∧ w'.cell? ⟨gb131, 1, none⟩ = some (.int .i64 t129)) (ds := []) #[false, false, false, false, false, false, false, false] (by kernel_rfl) rfl rfl ⟨bc BK130.out 0, bc BK130.out 1, bc BK131.out 0, bc BK131.out 1⟩ (fun hHeld => ?_); refine with_tabW spec_Behind.tab4 spec_Behind.bits4 (fun HT_ HW_ => ?_)
     generalize w34.drew = w35 at BK122 BK123 BK130 BK131 HB hHeld ⊢
     refine take_ (i := 0) (N := some 22) (v := ?_) (a' := ?_) (bz 8 1) rfl rfl (take_ofW HT_.out HW_.out (by kernel_rfl)) (fun _ _ _ h => h) (Or.inl ⟨by rfl, ?_⟩) hHeld ?_ ?_
     rotate_left
     ·rintro w' ⟨s0, s1, s2, s3⟩
      go_simp
      with_reducible rfl
     rotate_left
     ·simp only [Act.put, y1, y2, y3, i64_w, i32_w]
      rfl
     refine take_ (i := 1) (N := some 23) (v := ?_) (a' := ?_) (bz 8 3) rfl rfl (take_ofW HT_.out HW_.out (by kernel_rfl)) (fun _ _ _ h => h) (Or.inl ⟨by rfl, ?_⟩) hHeld ?_ ?_
     rotate_left
     ·rintro w' ⟨s0, s1, s2, s3⟩
      go_simp
      with_reducible rfl
     rotate_left
     ·simp only [Act.put, y1, y2, y3, i64_w, i32_w]
      rfl
     refine take_ (i := 3) (N := some 25) (v := ?_) (a' := ?_) (bz 8 11) rfl rfl (take_ofW HT_.out HW_.out (by kernel_rfl)) (fun _ _ _ h => h) (Or.inl ⟨by rfl, ?_⟩) hHeld ?_ ?_
     rotate_left
     ·rintro w' ⟨s0, s1, s2, s3⟩
      go_simp
      with_reducible rfl
     rotate_left
     ·simp only [Act.put, y1, y2, y3, i64_w, i32_w]
      rfl
     refine take_ (i := 4) (N := some 26) (v := ?_) (a' := ?_) (bz 8 27) rfl rfl (take_ofW HT_.out HW_.out (by kernel_rfl)) (fun _ _ _ h => h) (Or.inl ⟨by rfl, ?_⟩) hHeld ?_ ?_
     rotate_left
     ·rintro w' ⟨s0, s1, s2, s3⟩
      go_simp
      with_reducible rfl
     rotate_left
     ·simp only [Act.put, y1, y2, y3, i64_w, i32_w]
      rfl
     refine one_ (i := 2) (N := some 24) (bz 8 31) rfl rfl (one_of HT_.out (by kernel_rfl)) (by decide) (fun K hK => ?_)
     refine goes_ Try.func67 (by kernel_rfl) rfl #[.agg #[.int .i64 t126, .int .i64 t127], .agg #[.int .i64 t128, .int .i64 t129]] (by rfl) rfl rfl s2_5 ?_
     with_reducible refine (spec_l8Cross.calls t126 t127 t128 t129 t132 _ A20.out).mono ?_
     rintro e w36 ⟨rfl, hb⟩
     refine ⟨_, rfl, ?_⟩
     have n0_ := Aside0.mk (bb (zk BK122.out) hb)
     have n1_ := Aside0.mk (bb (zk BK123.out) hb)
     have n2_ := Aside0.mk (bb (zk BK130.out) hb)
     have n3_ := Aside0.mk (bb (zk BK131.out) hb)
     have n4_ := Aside0.mk (below_step s2_3 hb)
     clear BK122 BK123 BK130 BK131 HB
     have BK122 := n0_
     have BK123 := n1_
     have BK130 := n2_
     have BK131 := n3_
     have HB := n4_
     clear n0_ n1_ n2_ n3_ n4_
     (try clear hb)
     (try clear hb2)
     (try clear hk)
     (try clear hi)
     refine hK.out _ _ ⟨bc BK130.out 0, bc BK130.out 1, bc BK131.out 0, bc BK131.out 1⟩ (fun hHeld => ?_)
     clear hK K
     refine norm_ (a' := ?_) ?_ ?_
     rotate_left
     ·show Act.put _ (some 24) _ = _
      simp only [Act.put, y1, y2, y3, i64_w, i32_w]
      rfl
     refine one_ (i := 5) (N := some 27) (bz 8 63) rfl rfl (one_of HT_.out (by kernel_rfl)) (by decide) (fun K hK => ?_)
     refine goes_ Try.func68 (by kernel_rfl) rfl #[.agg #[.int .i64 t126, .int .i64 t127], .agg #[.int .i64 t128, .int .i64 t129]] (by rfl) rfl rfl s2_5 ?_
     with_reducible refine (spec_l8Dot.calls t126 t127 t128 t129 t133 _ A21.out).mono ?_
     rintro e w37 ⟨rfl, hb⟩
     refine ⟨_, rfl, ?_⟩
     have n0_ := Aside0.mk (bb (zk BK122.out) hb)
     have n1_ := Aside0.mk (bb (zk BK123.out) hb)
     have n2_ := Aside0.mk (bb (zk BK130.out) hb)
     have n3_ := Aside0.mk (bb (zk BK131.out) hb)
     have n4_ := Aside0.mk (below_step s2_3 hb)
     clear BK122 BK123 BK130 BK131 HB
     have BK122 := n0_
     have BK123 := n1_
     have BK130 := n2_
     have BK131 := n3_
     have HB := n4_
     clear n0_ n1_ n2_ n3_ n4_
     (try clear hb)
     (try clear hb2)
     (try clear hk)
     (try clear hi)
     refine hK.out _ _ ⟨bc BK130.out 0, bc BK130.out 1, bc BK131.out 0, bc BK131.out 1⟩ (fun hHeld => ?_)
     clear hK K
     refine norm_ (a' := ?_) ?_ ?_
     rotate_left
     ·show Act.put _ (some 27) _ = _
      simp only [Act.put, y1, y2, y3, i64_w, i32_w]
      rfl
     refine pure_ (i := 6) (N := some 7) (v := ?_) (a' := ?_) (bz 8 127) rfl rfl (any_of HT_.out (by kernel_rfl)) (fun _ _ _ h => h) (Or.inl ⟨by rfl, ?_⟩) ?_ ?_
     rotate_left
     ·intro w'
      go_simp
      with_reducible rfl
     rotate_left
     ·simp only [Act.put, y1, y2, y3, i64_w, i32_w]
      rfl
     refine pure_ (i := 7) (N := some 8) (v := ?_) (a' := ?_) (bz 8 255) rfl rfl (any_of HT_.out (by kernel_rfl)) (fun _ _ _ h => h) (Or.inl ⟨by rfl, ?_⟩) ?_ ?_
     rotate_left
     ·intro w'
      go_simp
      with_reducible rfl
     rotate_left
     ·simp only [Act.put, y1, y2, y3, i64_w, i32_w]
      rfl
     refine done_ (done_of HT_.out (by kernel_rfl)) ?_
     try go_wp2_with (first | (go_at_call 69; (with_reducible refine (spec_l8Least.calls t132 5 t133 29 t134 _ A23.out).mono ?_); rintro e w' ⟨rfl, ⟨nd, rfl⟩⟩))
     go_ret
     exact ⟨by first | rfl | (simp [errW_none, errW_some] <;> rfl) | (simp [*, errW_none, errW_some] <;> rfl), by repeat (first | (with_reducible first | exact HB.out | apply below_alloc | apply pw_below_drewN | apply below_drew1 | refine below_set ?_ GE122.out | refine below_set ?_ GE123.out | refine below_set ?_ GE130.out | refine below_set ?_ GE131.out) | exact HB.out)⟩
    ·rw [if_neg c22] at H
     have c22b0 : decide (t133 < 0) = false := decide_eq_false c22
     clear c22
     obtain rfl := Option.some.inj H
     try go_wp2
     have n0_ := Aside0.mk (blk_drew BK122.out)
     have n1_ := Aside0.mk (blk_drew BK123.out)
     have n2_ := Aside0.mk (below_drew1 HB.out)
     clear BK122 BK123 HB
     have BK122 := n0_
     have BK123 := n1_
     have HB := n2_
     clear n0_ n1_ n2_
     refine start_ (n := 9) (S := fun w' => w'.cell? ⟨gb123, 0, none⟩ = some (.int .i64 a1_0) ∧ w'.cell? ⟨gb123, 1, none⟩ = some (.int .i64 a1_1) ∧ w'.cell? ⟨gb123, 2, none⟩ = some (.int .i64 a1_2) ∧ w'.cell? ⟨gb123, 3, none⟩ = some (.int .i64 a1_3) ∧ w'.cell? ⟨gb123, 4, none⟩ = some (.int .i64 a1_4) ∧ w'.cell? ⟨gb123, 5, none⟩ = some (.int .i64 a1_5) ∧ w'.cell? ⟨gb122, 0, none⟩ = some (.int .i64 a0_0) ∧ w'.cell? ⟨gb122, 1, none⟩ = some (.int .i64 a0_1) ∧ w'.cell? ⟨gb122, 2, none⟩ = some (.int .i64 a0_2) ∧ w'.cell? ⟨gb122, 3, none⟩ = some (.int .i64 a0_3) ∧ w'.cell? ⟨gb122, 4, none⟩ = some (.int .i64 a0_4) ∧ w'.cell? ⟨gb122, 5, none⟩ = some (.int .i64 a0_5)) (ds := []) #[false, false, false, false, false, false, false, false, false] (by kernel_rfl) rfl rfl ⟨bc BK123.out 0, bc BK123.out 1, bc BK123.out 2, bc BK123.out 3, bc BK123.out 4, bc BK123.out 5, bc BK122.out 0, bc BK122.out 1, bc BK122.out 2, bc BK122.out 3, bc BK122.out 4, bc BK122.out 5⟩ (fun hHeld => ?_); refine with_tabW spec_Behind.tab3 spec_Behind.bits3 (fun HT_ HW_ => ?_)
     generalize wc.drew = w38 at BK122 BK123 HB hHeld ⊢
     refine take_ (i := 0) (N := some 17) (v := ?_) (a' := ?_) (bz 9 1) rfl rfl (take_ofW HT_.out HW_.out (by kernel_rfl)) (fun _ _ _ h => h) (Or.inl ⟨by rfl, ?_⟩) hHeld ?_ ?_
     rotate_left
     ·rintro w' ⟨s0, s1, s2, s3, s4, s5, s6, s7, s8, s9, s10, s11⟩
      go_simp
      with_reducible rfl
     rotate_left
     ·simp only [Act.put, y1, y2, y3, i64_w, i32_w]
      rfl
     refine take_ (i := 1) (N := some 18) (v := ?_) (a' := ?_) (bz 9 3) rfl rfl (take_ofW HT_.out HW_.out (by kernel_rfl)) (fun _ _ _ h => h) (Or.inl ⟨by rfl, ?_⟩) hHeld ?_ ?_
     rotate_left
     ·rintro w' ⟨s0, s1, s2, s3, s4, s5, s6, s7, s8, s9, s10, s11⟩
      go_simp
      with_reducible rfl
     rotate_left
     ·simp only [Act.put, y1, y2, y3, i64_w, i32_w]
      rfl
     refine take_ (i := 3) (N := some 20) (v := ?_) (a' := ?_) (bz 9 11) rfl rfl (take_ofW HT_.out HW_.out (by kernel_rfl)) (fun _ _ _ h => h) (Or.inl ⟨by rfl, ?_⟩) hHeld ?_ ?_
     rotate_left
     ·rintro w' ⟨s0, s1, s2, s3, s4, s5, s6, s7, s8, s9, s10, s11⟩
      go_simp
      with_reducible rfl
     rotate_left
     ·simp only [Act.put, y1, y2, y3, i64_w, i32_w]
      rfl
     refine join_ (σ := Nat × Nat) 2 (bz 9 127) (fun s_ => [(19, .agg #[.int .i64 t126, .int .i64 t127]), (21, .agg #[.int .i64 t128, .int .i64 t129]), (5, .pointer (some ⟨s_.1, 0, none⟩)), (6, .pointer (some ⟨s_.2, 0, none⟩))]) (fun s_ w' => (w'.cell? ⟨gb123, 0, none⟩ = some (.int .i64 a1_0) ∧ w'.cell? ⟨gb123, 1, none⟩ = some (.int .i64 a1_1) ∧ w'.cell? ⟨gb123, 2, none⟩ = some (.int .i64 a1_2) ∧ w'.cell? ⟨gb123, 3, none⟩ = some (.int .i64 a1_3) ∧ w'.cell? ⟨gb123, 4, none⟩ = some (.int .i64 a1_4) ∧ w'.cell? ⟨gb123, 5, none⟩ = some (.int .i64 a1_5) ∧ w'.cell? ⟨gb122, 0, none⟩ = some (.int .i64 a0_0) ∧ w'.cell? ⟨gb122, 1, none⟩ = some (.int .i64 a0_1) ∧ w'.cell? ⟨gb122, 2, none⟩ = some (.int .i64 a0_2) ∧ w'.cell? ⟨gb122, 3, none⟩ = some (.int .i64 a0_3) ∧ w'.cell? ⟨gb122, 4, none⟩ = some (.int .i64 a0_4) ∧ w'.cell? ⟨gb122, 5, none⟩ = some (.int .i64 a0_5)) ∧ (w'.heap[gb122]? = some (.cells #[.int .i64 a0_0, .int .i64 a0_1, .int .i64 a0_2, .int .i64 a0_3, .int .i64 a0_4, .int .i64 a0_5] 25 (0, 0))) ∧ (w'.heap[gb123]? = some (.cells #[.int .i64 a1_0, .int .i64 a1_1, .int .i64 a1_2, .int .i64 a1_3, .int .i64 a1_4, .int .i64 a1_5] 25 (0, 0))) ∧ (w'.heap[s_.1]? = some (.cells #[.int .i64 0, .int .i64 0] 83 (0, 0))) ∧ (w'.heap[s_.2]? = some (.cells #[.int .i64 0, .int .i64 0] 83 (0, 0))) ∧ (w.heap.size ≤ s_.1) ∧ (w.heap.size ≤ s_.1) ∧ (gb122 ≠ s_.1) ∧ (s_.1 ≠ gb122) ∧ (gb123 ≠ s_.1) ∧ (s_.1 ≠ gb123) ∧ (s_.2 ≠ s_.1) ∧ (s_.1 ≠ s_.2) ∧ (w.heap.size ≤ s_.2) ∧ (w.heap.size ≤ s_.2) ∧ (gb122 ≠ s_.2) ∧ (s_.2 ≠ gb122) ∧ (gb123 ≠ s_.2) ∧ (s_.2 ≠ gb123) ∧ (Below w.heap.size w w')) ?_ ?_
     rotate_left
     ·intro hJ2_4_5_6
      refine join_ (σ := Nat) 3 (bz 9 63) (fun s_ => [(19, .agg #[.int .i64 t126, .int .i64 t127]), (21, .agg #[.int .i64 t128, .int .i64 t129]), (5, .pointer (some ⟨s_, 0, none⟩))]) (fun s_ w' => (w'.cell? ⟨gb123, 0, none⟩ = some (.int .i64 a1_0) ∧ w'.cell? ⟨gb123, 1, none⟩ = some (.int .i64 a1_1) ∧ w'.cell? ⟨gb123, 2, none⟩ = some (.int .i64 a1_2) ∧ w'.cell? ⟨gb123, 3, none⟩ = some (.int .i64 a1_3) ∧ w'.cell? ⟨gb123, 4, none⟩ = some (.int .i64 a1_4) ∧ w'.cell? ⟨gb123, 5, none⟩ = some (.int .i64 a1_5) ∧ w'.cell? ⟨gb122, 0, none⟩ = some (.int .i64 a0_0) ∧ w'.cell? ⟨gb122, 1, none⟩ = some (.int .i64 a0_1) ∧ w'.cell? ⟨gb122, 2, none⟩ = some (.int .i64 a0_2) ∧ w'.cell? ⟨gb122, 3, none⟩ = some (.int .i64 a0_3) ∧ w'.cell? ⟨gb122, 4, none⟩ = some (.int .i64 a0_4) ∧ w'.cell? ⟨gb122, 5, none⟩ = some (.int .i64 a0_5)) ∧ (w'.heap[gb122]? = some (.cells #[.int .i64 a0_0, .int .i64 a0_1, .int .i64 a0_2, .int .i64 a0_3, .int .i64 a0_4, .int .i64 a0_5] 25 (0, 0))) ∧ (w'.heap[gb123]? = some (.cells #[.int .i64 a1_0, .int .i64 a1_1, .int .i64 a1_2, .int .i64 a1_3, .int .i64 a1_4, .int .i64 a1_5] 25 (0, 0))) ∧ (w'.heap[s_]? = some (.cells #[.int .i64 0, .int .i64 0] 83 (0, 0))) ∧ (w.heap.size ≤ s_) ∧ (w.heap.size ≤ s_) ∧ (gb122 ≠ s_) ∧ (s_ ≠ gb122) ∧ (gb123 ≠ s_) ∧ (s_ ≠ gb123) ∧ (Below w.heap.size w w')) ?_ ?_
      rotate_left
      ·intro hJ2_4_5
       refine join_ (σ := Nat) 3 (bz 9 95) (fun s_ => [(19, .agg #[.int .i64 t126, .int .i64 t127]), (21, .agg #[.int .i64 t128, .int .i64 t129]), (6, .pointer (some ⟨s_, 0, none⟩))]) (fun s_ w' => (w'.cell? ⟨gb123, 0, none⟩ = some (.int .i64 a1_0) ∧ w'.cell? ⟨gb123, 1, none⟩ = some (.int .i64 a1_1) ∧ w'.cell? ⟨gb123, 2, none⟩ = some (.int .i64 a1_2) ∧ w'.cell? ⟨gb123, 3, none⟩ = some (.int .i64 a1_3) ∧ w'.cell? ⟨gb123, 4, none⟩ = some (.int .i64 a1_4) ∧ w'.cell? ⟨gb123, 5, none⟩ = some (.int .i64 a1_5) ∧ w'.cell? ⟨gb122, 0, none⟩ = some (.int .i64 a0_0) ∧ w'.cell? ⟨gb122, 1, none⟩ = some (.int .i64 a0_1) ∧ w'.cell? ⟨gb122, 2, none⟩ = some (.int .i64 a0_2) ∧ w'.cell? ⟨gb122, 3, none⟩ = some (.int .i64 a0_3) ∧ w'.cell? ⟨gb122, 4, none⟩ = some (.int .i64 a0_4) ∧ w'.cell? ⟨gb122, 5, none⟩ = some (.int .i64 a0_5)) ∧ (w'.heap[gb122]? = some (.cells #[.int .i64 a0_0, .int .i64 a0_1, .int .i64 a0_2, .int .i64 a0_3, .int .i64 a0_4, .int .i64 a0_5] 25 (0, 0))) ∧ (w'.heap[gb123]? = some (.cells #[.int .i64 a1_0, .int .i64 a1_1, .int .i64 a1_2, .int .i64 a1_3, .int .i64 a1_4, .int .i64 a1_5] 25 (0, 0))) ∧ (w'.heap[s_]? = some (.cells #[.int .i64 0, .int .i64 0] 83 (0, 0))) ∧ (w.heap.size ≤ s_) ∧ (w.heap.size ≤ s_) ∧ (gb122 ≠ s_) ∧ (s_ ≠ gb122) ∧ (gb123 ≠ s_) ∧ (s_ ≠ gb123) ∧ (Below w.heap.size w w')) ?_ ?_
       rotate_left
       ·intro hJ2_4_6
        refine join_ (σ := Nat × Nat) 3 (bz 9 111) (fun s_ => [(19, .agg #[.int .i64 t126, .int .i64 t127]), (5, .pointer (some ⟨s_.1, 0, none⟩)), (6, .pointer (some ⟨s_.2, 0, none⟩))]) (fun s_ w' => (w'.cell? ⟨gb123, 0, none⟩ = some (.int .i64 a1_0) ∧ w'.cell? ⟨gb123, 1, none⟩ = some (.int .i64 a1_1) ∧ w'.cell? ⟨gb123, 2, none⟩ = some (.int .i64 a1_2) ∧ w'.cell? ⟨gb123, 3, none⟩ = some (.int .i64 a1_3) ∧ w'.cell? ⟨gb123, 4, none⟩ = some (.int .i64 a1_4) ∧ w'.cell? ⟨gb123, 5, none⟩ = some (.int .i64 a1_5) ∧ w'.cell? ⟨gb122, 0, none⟩ = some (.int .i64 a0_0) ∧ w'.cell? ⟨gb122, 1, none⟩ = some (.int .i64 a0_1) ∧ w'.cell? ⟨gb122, 2, none⟩ = some (.int .i64 a0_2) ∧ w'.cell? ⟨gb122, 3, none⟩ = some (.int .i64 a0_3) ∧ w'.cell? ⟨gb122, 4, none⟩ = some (.int .i64 a0_4) ∧ w'.cell? ⟨gb122, 5, none⟩ = some (.int .i64 a0_5)) ∧ (w'.heap[gb122]? = some (.cells #[.int .i64 a0_0, .int .i64 a0_1, .int .i64 a0_2, .int .i64 a0_3, .int .i64 a0_4, .int .i64 a0_5] 25 (0, 0))) ∧ (w'.heap[gb123]? = some (.cells #[.int .i64 a1_0, .int .i64 a1_1, .int .i64 a1_2, .int .i64 a1_3, .int .i64 a1_4, .int .i64 a1_5] 25 (0, 0))) ∧ (w'.heap[s_.1]? = some (.cells #[.int .i64 0, .int .i64 0] 83 (0, 0))) ∧ (w'.heap[s_.2]? = some (.cells #[.int .i64 0, .int .i64 0] 83 (0, 0))) ∧ (w.heap.size ≤ s_.1) ∧ (w.heap.size ≤ s_.1) ∧ (gb122 ≠ s_.1) ∧ (s_.1 ≠ gb122) ∧ (gb123 ≠ s_.1) ∧ (s_.1 ≠ gb123) ∧ (s_.2 ≠ s_.1) ∧ (s_.1 ≠ s_.2) ∧ (w.heap.size ≤ s_.2) ∧ (w.heap.size ≤ s_.2) ∧ (gb122 ≠ s_.2) ∧ (s_.2 ≠ gb122) ∧ (gb123 ≠ s_.2) ∧ (s_.2 ≠ gb123) ∧ (Below w.heap.size w w')) ?_ ?_
        rotate_left
        ·intro hJ2_5_6
         refine join_ (σ := Unit) 4 (bz 9 31) (fun s_ => [(19, .agg #[.int .i64 t126, .int .i64 t127]), (21, .agg #[.int .i64 t128, .int .i64 t129])]) (fun s_ w' => (w'.cell? ⟨gb123, 0, none⟩ = some (.int .i64 a1_0) ∧ w'.cell? ⟨gb123, 1, none⟩ = some (.int .i64 a1_1) ∧ w'.cell? ⟨gb123, 2, none⟩ = some (.int .i64 a1_2) ∧ w'.cell? ⟨gb123, 3, none⟩ = some (.int .i64 a1_3) ∧ w'.cell? ⟨gb123, 4, none⟩ = some (.int .i64 a1_4) ∧ w'.cell? ⟨gb123, 5, none⟩ = some (.int .i64 a1_5) ∧ w'.cell? ⟨gb122, 0, none⟩ = some (.int .i64 a0_0) ∧ w'.cell? ⟨gb122, 1, none⟩ = some (.int .i64 a0_1) ∧ w'.cell? ⟨gb122, 2, none⟩ = some (.int .i64 a0_2) ∧ w'.cell? ⟨gb122, 3, none⟩ = some (.int .i64 a0_3) ∧ w'.cell? ⟨gb122, 4, none⟩ = some (.int .i64 a0_4) ∧ w'.cell? ⟨gb122, 5, none⟩ = some (.int .i64 a0_5)) ∧ (w'.heap[gb122]? = some (.cells #[.int .i64 a0_0, .int .i64 a0_1, .int .i64 a0_2, .int .i64 a0_3, .int .i64 a0_4, .int .i64 a0_5] 25 (0, 0))) ∧ (w'.heap[gb123]? = some (.cells #[.int .i64 a1_0, .int .i64 a1_1, .int .i64 a1_2, .int .i64 a1_3, .int .i64 a1_4, .int .i64 a1_5] 25 (0, 0))) ∧ (Below w.heap.size w w')) ?_ ?_
         rotate_left
         ·intro hJ2_4
          refine join_ (σ := Nat) 4 (bz 9 47) (fun s_ => [(19, .agg #[.int .i64 t126, .int .i64 t127]), (5, .pointer (some ⟨s_, 0, none⟩))]) (fun s_ w' => (w'.cell? ⟨gb123, 0, none⟩ = some (.int .i64 a1_0) ∧ w'.cell? ⟨gb123, 1, none⟩ = some (.int .i64 a1_1) ∧ w'.cell? ⟨gb123, 2, none⟩ = some (.int .i64 a1_2) ∧ w'.cell? ⟨gb123, 3, none⟩ = some (.int .i64 a1_3) ∧ w'.cell? ⟨gb123, 4, none⟩ = some (.int .i64 a1_4) ∧ w'.cell? ⟨gb123, 5, none⟩ = some (.int .i64 a1_5) ∧ w'.cell? ⟨gb122, 0, none⟩ = some (.int .i64 a0_0) ∧ w'.cell? ⟨gb122, 1, none⟩ = some (.int .i64 a0_1) ∧ w'.cell? ⟨gb122, 2, none⟩ = some (.int .i64 a0_2) ∧ w'.cell? ⟨gb122, 3, none⟩ = some (.int .i64 a0_3) ∧ w'.cell? ⟨gb122, 4, none⟩ = some (.int .i64 a0_4) ∧ w'.cell? ⟨gb122, 5, none⟩ = some (.int .i64 a0_5)) ∧ (w'.heap[gb122]? = some (.cells #[.int .i64 a0_0, .int .i64 a0_1, .int .i64 a0_2, .int .i64 a0_3, .int .i64 a0_4, .int .i64 a0_5] 25 (0, 0))) ∧ (w'.heap[gb123]? = some (.cells #[.int .i64 a1_0, .int .i64 a1_1, .int .i64 a1_2, .int .i64 a1_3, .int .i64 a1_4, .int .i64 a1_5] 25 (0, 0))) ∧ (w'.heap[s_]? = some (.cells #[.int .i64 0, .int .i64 0] 83 (0, 0))) ∧ (w.heap.size ≤ s_) ∧ (w.heap.size ≤ s_) ∧ (gb122 ≠ s_) ∧ (s_ ≠ gb122) ∧ (gb123 ≠ s_) ∧ (s_ ≠ gb123) ∧ (Below w.heap.size w w')) ?_ ?_
          rotate_left
          ·intro hJ2_5
           refine join_ (σ := Nat) 4 (bz 9 79) (fun s_ => [(19, .agg #[.int .i64 t126, .int .i64 t127]), (6, .pointer (some ⟨s_, 0, none⟩))]) (fun s_ w' => (w'.cell? ⟨gb123, 0, none⟩ = some (.int .i64 a1_0) ∧ w'.cell? ⟨gb123, 1, none⟩ = some (.int .i64 a1_1) ∧ w'.cell? ⟨gb123, 2, none⟩ = some (.int .i64 a1_2) ∧ w'.cell? ⟨gb123, 3, none⟩ = some (.int .i64 a1_3) ∧ w'.cell? ⟨gb123, 4, none⟩ = some (.int .i64 a1_4) ∧ w'.cell? ⟨gb123, 5, none⟩ = some (.int .i64 a1_5) ∧ w'.cell? ⟨gb122, 0, none⟩ = some (.int .i64 a0_0) ∧ w'.cell? ⟨gb122, 1, none⟩ = some (.int .i64 a0_1) ∧ w'.cell? ⟨gb122, 2, none⟩ = some (.int .i64 a0_2) ∧ w'.cell? ⟨gb122, 3, none⟩ = some (.int .i64 a0_3) ∧ w'.cell? ⟨gb122, 4, none⟩ = some (.int .i64 a0_4) ∧ w'.cell? ⟨gb122, 5, none⟩ = some (.int .i64 a0_5)) ∧ (w'.heap[gb122]? = some (.cells #[.int .i64 a0_0, .int .i64 a0_1, .int .i64 a0_2, .int .i64 a0_3, .int .i64 a0_4, .int .i64 a0_5] 25 (0, 0))) ∧ (w'.heap[gb123]? = some (.cells #[.int .i64 a1_0, .int .i64 a1_1, .int .i64 a1_2, .int .i64 a1_3, .int .i64 a1_4, .int .i64 a1_5] 25 (0, 0))) ∧ (w'.heap[s_]? = some (.cells #[.int .i64 0, .int .i64 0] 83 (0, 0))) ∧ (w.heap.size ≤ s_) ∧ (w.heap.size ≤ s_) ∧ (gb122 ≠ s_) ∧ (s_ ≠ gb122) ∧ (gb123 ≠ s_) ∧ (s_ ≠ gb123) ∧ (Below w.heap.size w w')) ?_ ?_
           rotate_left
           ·intro hJ2_6
            refine join_ (σ := Nat × Nat) 4 (bz 9 107) (fun s_ => [(5, .pointer (some ⟨s_.1, 0, none⟩)), (6, .pointer (some ⟨s_.2, 0, none⟩))]) (fun s_ w' => (w'.cell? ⟨gb123, 0, none⟩ = some (.int .i64 a1_0) ∧ w'.cell? ⟨gb123, 1, none⟩ = some (.int .i64 a1_1) ∧ w'.cell? ⟨gb123, 2, none⟩ = some (.int .i64 a1_2) ∧ w'.cell? ⟨gb123, 3, none⟩ = some (.int .i64 a1_3) ∧ w'.cell? ⟨gb123, 4, none⟩ = some (.int .i64 a1_4) ∧ w'.cell? ⟨gb123, 5, none⟩ = some (.int .i64 a1_5) ∧ w'.cell? ⟨gb122, 0, none⟩ = some (.int .i64 a0_0) ∧ w'.cell? ⟨gb122, 1, none⟩ = some (.int .i64 a0_1) ∧ w'.cell? ⟨gb122, 2, none⟩ = some (.int .i64 a0_2) ∧ w'.cell? ⟨gb122, 3, none⟩ = some (.int .i64 a0_3) ∧ w'.cell? ⟨gb122, 4, none⟩ = some (.int .i64 a0_4) ∧ w'.cell? ⟨gb122, 5, none⟩ = some (.int .i64 a0_5)) ∧ (w'.heap[gb122]? = some (.cells #[.int .i64 a0_0, .int .i64 a0_1, .int .i64 a0_2, .int .i64 a0_3, .int .i64 a0_4, .int .i64 a0_5] 25 (0, 0))) ∧ (w'.heap[gb123]? = some (.cells #[.int .i64 a1_0, .int .i64 a1_1, .int .i64 a1_2, .int .i64 a1_3, .int .i64 a1_4, .int .i64 a1_5] 25 (0, 0))) ∧ (w'.heap[s_.1]? = some (.cells #[.int .i64 0, .int .i64 0] 83 (0, 0))) ∧ (w'.heap[s_.2]? = some (.cells #[.int .i64 0, .int .i64 0] 83 (0, 0))) ∧ (w.heap.size ≤ s_.1) ∧ (w.heap.size ≤ s_.1) ∧ (gb122 ≠ s_.1) ∧ (s_.1 ≠ gb122) ∧ (gb123 ≠ s_.1) ∧ (s_.1 ≠ gb123) ∧ (s_.2 ≠ s_.1) ∧ (s_.1 ≠ s_.2) ∧ (w.heap.size ≤ s_.2) ∧ (w.heap.size ≤ s_.2) ∧ (gb122 ≠ s_.2) ∧ (s_.2 ≠ gb122) ∧ (gb123 ≠ s_.2) ∧ (s_.2 ≠ gb123) ∧ (Below w.heap.size w w')) ?_ ?_
            rotate_left
            ·intro hJ5_6
             refine join_ (σ := Unit) 5 (bz 9 15) (fun s_ => [(19, .agg #[.int .i64 t126, .int .i64 t127])]) (fun s_ w' => (w'.cell? ⟨gb123, 0, none⟩ = some (.int .i64 a1_0) ∧ w'.cell? ⟨gb123, 1, none⟩ = some (.int .i64 a1_1) ∧ w'.cell? ⟨gb123, 2, none⟩ = some (.int .i64 a1_2) ∧ w'.cell? ⟨gb123, 3, none⟩ = some (.int .i64 a1_3) ∧ w'.cell? ⟨gb123, 4, none⟩ = some (.int .i64 a1_4) ∧ w'.cell? ⟨gb123, 5, none⟩ = some (.int .i64 a1_5) ∧ w'.cell? ⟨gb122, 0, none⟩ = some (.int .i64 a0_0) ∧ w'.cell? ⟨gb122, 1, none⟩ = some (.int .i64 a0_1) ∧ w'.cell? ⟨gb122, 2, none⟩ = some (.int .i64 a0_2) ∧ w'.cell? ⟨gb122, 3, none⟩ = some (.int .i64 a0_3) ∧ w'.cell? ⟨gb122, 4, none⟩ = some (.int .i64 a0_4) ∧ w'.cell? ⟨gb122, 5, none⟩ = some (.int .i64 a0_5)) ∧ (w'.heap[gb122]? = some (.cells #[.int .i64 a0_0, .int .i64 a0_1, .int .i64 a0_2, .int .i64 a0_3, .int .i64 a0_4, .int .i64 a0_5] 25 (0, 0))) ∧ (w'.heap[gb123]? = some (.cells #[.int .i64 a1_0, .int .i64 a1_1, .int .i64 a1_2, .int .i64 a1_3, .int .i64 a1_4, .int .i64 a1_5] 25 (0, 0))) ∧ (Below w.heap.size w w')) ?_ ?_
             rotate_left
             ·intro hJ2
              refine join_ (σ := Nat) 5 (bz 9 43) (fun s_ => [(5, .pointer (some ⟨s_, 0, none⟩))]) (fun s_ w' => (w'.cell? ⟨gb123, 0, none⟩ = some (.int .i64 a1_0) ∧ w'.cell? ⟨gb123, 1, none⟩ = some (.int .i64 a1_1) ∧ w'.cell? ⟨gb123, 2, none⟩ = some (.int .i64 a1_2) ∧ w'.cell? ⟨gb123, 3, none⟩ = some (.int .i64 a1_3) ∧ w'.cell? ⟨gb123, 4, none⟩ = some (.int .i64 a1_4) ∧ w'.cell? ⟨gb123, 5, none⟩ = some (.int .i64 a1_5) ∧ w'.cell? ⟨gb122, 0, none⟩ = some (.int .i64 a0_0) ∧ w'.cell? ⟨gb122, 1, none⟩ = some (.int .i64 a0_1) ∧ w'.cell? ⟨gb122, 2, none⟩ = some (.int .i64 a0_2) ∧ w'.cell? ⟨gb122, 3, none⟩ = some (.int .i64 a0_3) ∧ w'.cell? ⟨gb122, 4, none⟩ = some (.int .i64 a0_4) ∧ w'.cell? ⟨gb122, 5, none⟩ = some (.int .i64 a0_5)) ∧ (w'.heap[gb122]? = some (.cells #[.int .i64 a0_0, .int .i64 a0_1, .int .i64 a0_2, .int .i64 a0_3, .int .i64 a0_4, .int .i64 a0_5] 25 (0, 0))) ∧ (w'.heap[gb123]? = some (.cells #[.int .i64 a1_0, .int .i64 a1_1, .int .i64 a1_2, .int .i64 a1_3, .int .i64 a1_4, .int .i64 a1_5] 25 (0, 0))) ∧ (w'.heap[s_]? = some (.cells #[.int .i64 0, .int .i64 0] 83 (0, 0))) ∧ (w.heap.size ≤ s_) ∧ (w.heap.size ≤ s_) ∧ (gb122 ≠ s_) ∧ (s_ ≠ gb122) ∧ (gb123 ≠ s_) ∧ (s_ ≠ gb123) ∧ (Below w.heap.size w w')) ?_ ?_
              rotate_left
              ·intro hJ5
               refine join_ (σ := Nat) 5 (bz 9 75) (fun s_ => [(6, .pointer (some ⟨s_, 0, none⟩))]) (fun s_ w' => (w'.cell? ⟨gb123, 0, none⟩ = some (.int .i64 a1_0) ∧ w'.cell? ⟨gb123, 1, none⟩ = some (.int .i64 a1_1) ∧ w'.cell? ⟨gb123, 2, none⟩ = some (.int .i64 a1_2) ∧ w'.cell? ⟨gb123, 3, none⟩ = some (.int .i64 a1_3) ∧ w'.cell? ⟨gb123, 4, none⟩ = some (.int .i64 a1_4) ∧ w'.cell? ⟨gb123, 5, none⟩ = some (.int .i64 a1_5) ∧ w'.cell? ⟨gb122, 0, none⟩ = some (.int .i64 a0_0) ∧ w'.cell? ⟨gb122, 1, none⟩ = some (.int .i64 a0_1) ∧ w'.cell? ⟨gb122, 2, none⟩ = some (.int .i64 a0_2) ∧ w'.cell? ⟨gb122, 3, none⟩ = some (.int .i64 a0_3) ∧ w'.cell? ⟨gb122, 4, none⟩ = some (.int .i64 a0_4) ∧ w'.cell? ⟨gb122, 5, none⟩ = some (.int .i64 a0_5)) ∧ (w'.heap[gb122]? = some (.cells #[.int .i64 a0_0, .int .i64 a0_1, .int .i64 a0_2, .int .i64 a0_3, .int .i64 a0_4, .int .i64 a0_5] 25 (0, 0))) ∧ (w'.heap[gb123]? = some (.cells #[.int .i64 a1_0, .int .i64 a1_1, .int .i64 a1_2, .int .i64 a1_3, .int .i64 a1_4, .int .i64 a1_5] 25 (0, 0))) ∧ (w'.heap[s_]? = some (.cells #[.int .i64 0, .int .i64 0] 83 (0, 0))) ∧ (w.heap.size ≤ s_) ∧ (w.heap.size ≤ s_) ∧ (gb122 ≠ s_) ∧ (s_ ≠ gb122) ∧ (gb123 ≠ s_) ∧ (s_ ≠ gb123) ∧ (Below w.heap.size w w')) ?_ ?_
               rotate_left
               ·intro hJ6
                refine three_ (i := 2) (j := 5) (k := 6) (Ni := some 19) (Nj := some 5) (Nk := some 6) (bz 9 15) (bz 9 43) (bz 9 75) rfl rfl rfl rfl rfl rfl (three_of HT_.out (by kernel_rfl)) (by decide) (by decide) (by decide) (fun K hK => ?_) (fun K hK => ?_) (fun K hK => ?_)
                ·skip
                 refine goes_ Try.func65 (by kernel_rfl) rfl #[.agg #[.int .i64 a1_0, .int .i64 a1_1, .int .i64 a1_2, .int .i64 a1_3, .int .i64 a1_4, .int .i64 a1_5], .agg #[.int .i64 a0_0, .int .i64 a0_1, .int .i64 a0_2, .int .i64 a0_3, .int .i64 a0_4, .int .i64 a0_5]] (by rfl) rfl rfl s2_5 ?_
                 with_reducible refine (spec_l8Bearing.calls a1_0 a1_1 a1_2 a1_3 a1_4 a1_5 a0_0 a0_1 a0_2 a0_3 a0_4 a0_5 t126 t127 _ A18.out).mono ?_
                 rintro e w39 ⟨rfl, hb⟩
                 refine ⟨_, rfl, ?_⟩
                 have n0_ := Aside0.mk (bb (zk BK122.out) hb)
                 have n1_ := Aside0.mk (bb (zk BK123.out) hb)
                 have n2_ := Aside0.mk (below_step s2_0 hb)
                 clear BK122 BK123 HB
                 have BK122 := n0_
                 have BK123 := n1_
                 have HB := n2_
                 clear n0_ n1_ n2_
                 (try clear hb)
                 (try clear hb2)
                 (try clear hk)
                 (try clear hi)
                 refine hK.out _ _ ⟨bc BK123.out 0, bc BK123.out 1, bc BK123.out 2, bc BK123.out 3, bc BK123.out 4, bc BK123.out 5, bc BK122.out 0, bc BK122.out 1, bc BK122.out 2, bc BK122.out 3, bc BK122.out 4, bc BK122.out 5⟩ (fun hHeld => ?_)
                 clear hK K
                 refine norm_ (a' := ?_) ?_ ?_
                 rotate_left
                 ·show Act.put _ (some 19) _ = _
                  simp only [Act.put, y1, y2, y3, i64_w, i32_w]
                  rfl
                 exact norm_ s2_4 (hJ2 () _ ⟨hHeld, (zk BK122.out), (zk BK123.out), s2_0⟩)
                ·skip
                 refine box_step ?hg (N := 5) ?hd (cs := #[.int .i64 0, .int .i64 0]) (t := 83) ?hr ?_; (case hd => rfl); (case hg => rfl); (case hr => first | (go_simp; done) | (go_simp; rfl))
                 intro gb130 hg w39 hbox hb
                 have n0_ := Aside0.mk (bb (zk BK122.out) hb)
                 have n1_ := Aside0.mk (bb (zk BK123.out) hb)
                 have n2_ := Aside0.mk (below_step s2_0 hb)
                 have n3_ := Aside0.mk (hbox)
                 have n4_ := Aside0.mk (ns hg s2_0 : w.heap.size ≤ gb130)
                 have n5_ := Aside0.mk (ns hg s2_0 : w.heap.size ≤ gb130)
                 have n6_ := Aside0.mk ((nlt hg (zk BK122.out) : gb122 ≠ gb130))
                 have n7_ := Aside0.mk ((ngt hg (zk BK122.out) : gb130 ≠ gb122))
                 have n8_ := Aside0.mk ((nlt hg (zk BK123.out) : gb123 ≠ gb130))
                 have n9_ := Aside0.mk ((ngt hg (zk BK123.out) : gb130 ≠ gb123))
                 clear BK122 BK123 HB
                 have BK122 := n0_
                 have BK123 := n1_
                 have HB := n2_
                 have BK130 := n3_
                 have GW130 := n4_
                 have GE130 := n5_
                 have NB122_130 := n6_
                 have NB130_122 := n7_
                 have NB123_130 := n8_
                 have NB130_123 := n9_
                 clear n0_ n1_ n2_ n3_ n4_ n5_ n6_ n7_ n8_ n9_ hb hbox hg
                 refine hK.out _ _ ⟨bc BK123.out 0, bc BK123.out 1, bc BK123.out 2, bc BK123.out 3, bc BK123.out 4, bc BK123.out 5, bc BK122.out 0, bc BK122.out 1, bc BK122.out 2, bc BK122.out 3, bc BK122.out 4, bc BK122.out 5⟩ (fun hHeld => ?_)
                 clear hK K
                 refine norm_ (a' := ?_) ?_ ?_
                 rotate_left
                 ·show Act.put _ (some 5) _ = _
                  simp only [Act.put, y1, y2, y3, i64_w, i32_w]
                  rfl
                 exact norm_ s2_4 (hJ5 (gb130) _ ⟨hHeld, (zk BK122.out), (zk BK123.out), (zk BK130.out), GW130.out, GE130.out, NB122_130.out, NB130_122.out, NB123_130.out, NB130_123.out, s2_1⟩)
                ·skip
                 refine box_step ?hg (N := 6) ?hd (cs := #[.int .i64 0, .int .i64 0]) (t := 83) ?hr ?_; (case hd => rfl); (case hg => rfl); (case hr => first | (go_simp; done) | (go_simp; rfl))
                 intro gb131 hg w39 hbox hb
                 have n0_ := Aside0.mk (bb (zk BK122.out) hb)
                 have n1_ := Aside0.mk (bb (zk BK123.out) hb)
                 have n2_ := Aside0.mk (below_step s2_0 hb)
                 have n3_ := Aside0.mk (hbox)
                 have n4_ := Aside0.mk (ns hg s2_0 : w.heap.size ≤ gb131)
                 have n5_ := Aside0.mk (ns hg s2_0 : w.heap.size ≤ gb131)
                 have n6_ := Aside0.mk ((nlt hg (zk BK122.out) : gb122 ≠ gb131))
                 have n7_ := Aside0.mk ((ngt hg (zk BK122.out) : gb131 ≠ gb122))
                 have n8_ := Aside0.mk ((nlt hg (zk BK123.out) : gb123 ≠ gb131))
                 have n9_ := Aside0.mk ((ngt hg (zk BK123.out) : gb131 ≠ gb123))
                 clear BK122 BK123 HB
                 have BK122 := n0_
                 have BK123 := n1_
                 have HB := n2_
                 have BK131 := n3_
                 have GW131 := n4_
                 have GE131 := n5_
                 have NB122_131 := n6_
                 have NB131_122 := n7_
                 have NB123_131 := n8_
                 have NB131_123 := n9_
                 clear n0_ n1_ n2_ n3_ n4_ n5_ n6_ n7_ n8_ n9_ hb hbox hg
                 refine hK.out _ _ ⟨bc BK123.out 0, bc BK123.out 1, bc BK123.out 2, bc BK123.out 3, bc BK123.out 4, bc BK123.out 5, bc BK122.out 0, bc BK122.out 1, bc BK122.out 2, bc BK122.out 3, bc BK122.out 4, bc BK122.out 5⟩ (fun hHeld => ?_)
                 clear hK K
                 refine norm_ (a' := ?_) ?_ ?_
                 rotate_left
                 ·show Act.put _ (some 6) _ = _
                  simp only [Act.put, y1, y2, y3, i64_w, i32_w]
                  rfl
                 exact norm_ s2_4 (hJ6 (gb131) _ ⟨hHeld, (zk BK122.out), (zk BK123.out), (zk BK131.out), GW131.out, GE131.out, NB122_131.out, NB131_122.out, NB123_131.out, NB131_123.out, s2_2⟩)
               ·skip
                rintro gb131 w40 ⟨hS_, h0_, h1_, h2_, h3_, h4_, h5_, h6_, h7_, h8_, h9_⟩
                have n0_ : Aside0 (w40.heap[gb122]? = some (.cells #[.int .i64 a0_0, .int .i64 a0_1, .int .i64 a0_2, .int .i64 a0_3, .int .i64 a0_4, .int .i64 a0_5] 25 (0, 0))) := ⟨h0_⟩
                have n1_ : Aside0 (w40.heap[gb123]? = some (.cells #[.int .i64 a1_0, .int .i64 a1_1, .int .i64 a1_2, .int .i64 a1_3, .int .i64 a1_4, .int .i64 a1_5] 25 (0, 0))) := ⟨h1_⟩
                have n2_ : Aside0 (w40.heap[gb131]? = some (.cells #[.int .i64 0, .int .i64 0] 83 (0, 0))) := ⟨h2_⟩
                have n3_ : Aside0 (w.heap.size ≤ gb131) := ⟨h3_⟩
                have n4_ : Aside0 (w.heap.size ≤ gb131) := ⟨h4_⟩
                have n5_ : Aside0 (gb122 ≠ gb131) := ⟨h5_⟩
                have n6_ : Aside0 (gb131 ≠ gb122) := ⟨h6_⟩
                have n7_ : Aside0 (gb123 ≠ gb131) := ⟨h7_⟩
                have n8_ : Aside0 (gb131 ≠ gb123) := ⟨h8_⟩
                have n9_ : Aside0 (Below w.heap.size w w40) := ⟨h9_⟩
                clear BK122 BK123 HB h0_ h1_ h2_ h3_ h4_ h5_ h6_ h7_ h8_ h9_
                have BK122 := n0_
                have BK123 := n1_
                have BK131 := n2_
                have GW131 := n3_
                have GE131 := n4_
                have NB122_131 := n5_
                have NB131_122 := n6_
                have NB123_131 := n7_
                have NB131_123 := n8_
                have HB := n9_
                clear n0_ n1_ n2_ n3_ n4_ n5_ n6_ n7_ n8_ n9_
                have hHeld : w40.cell? ⟨gb123, 0, none⟩ = some (.int .i64 a1_0) ∧ w40.cell? ⟨gb123, 1, none⟩ = some (.int .i64 a1_1) ∧ w40.cell? ⟨gb123, 2, none⟩ = some (.int .i64 a1_2) ∧ w40.cell? ⟨gb123, 3, none⟩ = some (.int .i64 a1_3) ∧ w40.cell? ⟨gb123, 4, none⟩ = some (.int .i64 a1_4) ∧ w40.cell? ⟨gb123, 5, none⟩ = some (.int .i64 a1_5) ∧ w40.cell? ⟨gb122, 0, none⟩ = some (.int .i64 a0_0) ∧ w40.cell? ⟨gb122, 1, none⟩ = some (.int .i64 a0_1) ∧ w40.cell? ⟨gb122, 2, none⟩ = some (.int .i64 a0_2) ∧ w40.cell? ⟨gb122, 3, none⟩ = some (.int .i64 a0_3) ∧ w40.cell? ⟨gb122, 4, none⟩ = some (.int .i64 a0_4) ∧ w40.cell? ⟨gb122, 5, none⟩ = some (.int .i64 a0_5) := hS_
                refine norm_ (a' := ?_) ?_ ?_
                rotate_left
                ·simp only [putAll, Act.put, y1, y2, y3]
                 rfl
                refine two_ (i := 2) (j := 5) (Ni := some 19) (Nj := some 5) (bz 9 79) (bz 9 107) rfl rfl rfl rfl (two_of HT_.out (by kernel_rfl)) (by decide) (by decide) (fun K hK => ?_) (fun K hK => ?_)
                ·skip
                 refine goes_ Try.func65 (by kernel_rfl) rfl #[.agg #[.int .i64 a1_0, .int .i64 a1_1, .int .i64 a1_2, .int .i64 a1_3, .int .i64 a1_4, .int .i64 a1_5], .agg #[.int .i64 a0_0, .int .i64 a0_1, .int .i64 a0_2, .int .i64 a0_3, .int .i64 a0_4, .int .i64 a0_5]] (by rfl) rfl rfl s2_5 ?_
                 with_reducible refine (spec_l8Bearing.calls a1_0 a1_1 a1_2 a1_3 a1_4 a1_5 a0_0 a0_1 a0_2 a0_3 a0_4 a0_5 t126 t127 _ A18.out).mono ?_
                 rintro e w41 ⟨rfl, hb⟩
                 refine ⟨_, rfl, ?_⟩
                 have n0_ := Aside0.mk (bb (zk BK122.out) hb)
                 have n1_ := Aside0.mk (bb (zk BK123.out) hb)
                 have n2_ := Aside0.mk (bb (zk BK131.out) hb)
                 have n3_ := Aside0.mk (below_step s2_2 hb)
                 clear BK122 BK123 BK131 HB
                 have BK122 := n0_
                 have BK123 := n1_
                 have BK131 := n2_
                 have HB := n3_
                 clear n0_ n1_ n2_ n3_
                 (try clear hb)
                 (try clear hb2)
                 (try clear hk)
                 (try clear hi)
                 refine hK.out _ _ ⟨bc BK123.out 0, bc BK123.out 1, bc BK123.out 2, bc BK123.out 3, bc BK123.out 4, bc BK123.out 5, bc BK122.out 0, bc BK122.out 1, bc BK122.out 2, bc BK122.out 3, bc BK122.out 4, bc BK122.out 5⟩ (fun hHeld => ?_)
                 clear hK K
                 refine norm_ (a' := ?_) ?_ ?_
                 rotate_left
                 ·show Act.put _ (some 19) _ = _
                  simp only [Act.put, y1, y2, y3, i64_w, i32_w]
                  rfl
                 exact norm_ s2_4 (hJ2_6 (gb131) _ ⟨hHeld, (zk BK122.out), (zk BK123.out), (zk BK131.out), GW131.out, GE131.out, NB122_131.out, NB131_122.out, NB123_131.out, NB131_123.out, s2_2⟩)
                ·skip
                 refine box_step ?hg (N := 5) ?hd (cs := #[.int .i64 0, .int .i64 0]) (t := 83) ?hr ?_; (case hd => rfl); (case hg => rfl); (case hr => first | (go_simp; done) | (go_simp; rfl))
                 intro gb130 hg w41 hbox hb
                 have n0_ := Aside0.mk (bb (zk BK122.out) hb)
                 have n1_ := Aside0.mk (bb (zk BK123.out) hb)
                 have n2_ := Aside0.mk (bb (zk BK131.out) hb)
                 have n3_ := Aside0.mk (below_step s2_2 hb)
                 have n4_ := Aside0.mk (hbox)
                 have n5_ := Aside0.mk (ns hg s2_2 : w.heap.size ≤ gb130)
                 have n6_ := Aside0.mk (ns hg s2_2 : w.heap.size ≤ gb130)
                 have n7_ := Aside0.mk ((nlt hg (zk BK122.out) : gb122 ≠ gb130))
                 have n8_ := Aside0.mk ((ngt hg (zk BK122.out) : gb130 ≠ gb122))
                 have n9_ := Aside0.mk ((nlt hg (zk BK123.out) : gb123 ≠ gb130))
                 have n10_ := Aside0.mk ((ngt hg (zk BK123.out) : gb130 ≠ gb123))
                 have n11_ := Aside0.mk ((nlt hg (zk BK131.out) : gb131 ≠ gb130))
                 have n12_ := Aside0.mk ((ngt hg (zk BK131.out) : gb130 ≠ gb131))
                 clear BK122 BK123 BK131 HB
                 have BK122 := n0_
                 have BK123 := n1_
                 have BK131 := n2_
                 have HB := n3_
                 have BK130 := n4_
                 have GW130 := n5_
                 have GE130 := n6_
                 have NB122_130 := n7_
                 have NB130_122 := n8_
                 have NB123_130 := n9_
                 have NB130_123 := n10_
                 have NB131_130 := n11_
                 have NB130_131 := n12_
                 clear n0_ n1_ n2_ n3_ n4_ n5_ n6_ n7_ n8_ n9_ n10_ n11_ n12_ hb hbox hg
                 refine hK.out _ _ ⟨bc BK123.out 0, bc BK123.out 1, bc BK123.out 2, bc BK123.out 3, bc BK123.out 4, bc BK123.out 5, bc BK122.out 0, bc BK122.out 1, bc BK122.out 2, bc BK122.out 3, bc BK122.out 4, bc BK122.out 5⟩ (fun hHeld => ?_)
                 clear hK K
                 refine norm_ (a' := ?_) ?_ ?_
                 rotate_left
                 ·show Act.put _ (some 5) _ = _
                  simp only [Act.put, y1, y2, y3, i64_w, i32_w]
                  rfl
                 exact norm_ s2_4 (hJ5_6 (gb130, gb131) _ ⟨hHeld, (zk BK122.out), (zk BK123.out), (zk BK130.out), (zk BK131.out), GW130.out, GE130.out, NB122_130.out, NB130_122.out, NB123_130.out, NB130_123.out, NB131_130.out, NB130_131.out, GW131.out, GE131.out, NB122_131.out, NB131_122.out, NB123_131.out, NB131_123.out, s2_6⟩)
              ·skip
               rintro gb130 w40 ⟨hS_, h0_, h1_, h2_, h3_, h4_, h5_, h6_, h7_, h8_, h9_⟩
               have n0_ : Aside0 (w40.heap[gb122]? = some (.cells #[.int .i64 a0_0, .int .i64 a0_1, .int .i64 a0_2, .int .i64 a0_3, .int .i64 a0_4, .int .i64 a0_5] 25 (0, 0))) := ⟨h0_⟩
               have n1_ : Aside0 (w40.heap[gb123]? = some (.cells #[.int .i64 a1_0, .int .i64 a1_1, .int .i64 a1_2, .int .i64 a1_3, .int .i64 a1_4, .int .i64 a1_5] 25 (0, 0))) := ⟨h1_⟩
               have n2_ : Aside0 (w40.heap[gb130]? = some (.cells #[.int .i64 0, .int .i64 0] 83 (0, 0))) := ⟨h2_⟩
               have n3_ : Aside0 (w.heap.size ≤ gb130) := ⟨h3_⟩
               have n4_ : Aside0 (w.heap.size ≤ gb130) := ⟨h4_⟩
               have n5_ : Aside0 (gb122 ≠ gb130) := ⟨h5_⟩
               have n6_ : Aside0 (gb130 ≠ gb122) := ⟨h6_⟩
               have n7_ : Aside0 (gb123 ≠ gb130) := ⟨h7_⟩
               have n8_ : Aside0 (gb130 ≠ gb123) := ⟨h8_⟩
               have n9_ : Aside0 (Below w.heap.size w w40) := ⟨h9_⟩
               clear BK122 BK123 HB h0_ h1_ h2_ h3_ h4_ h5_ h6_ h7_ h8_ h9_
               have BK122 := n0_
               have BK123 := n1_
               have BK130 := n2_
               have GW130 := n3_
               have GE130 := n4_
               have NB122_130 := n5_
               have NB130_122 := n6_
               have NB123_130 := n7_
               have NB130_123 := n8_
               have HB := n9_
               clear n0_ n1_ n2_ n3_ n4_ n5_ n6_ n7_ n8_ n9_
               have hHeld : w40.cell? ⟨gb123, 0, none⟩ = some (.int .i64 a1_0) ∧ w40.cell? ⟨gb123, 1, none⟩ = some (.int .i64 a1_1) ∧ w40.cell? ⟨gb123, 2, none⟩ = some (.int .i64 a1_2) ∧ w40.cell? ⟨gb123, 3, none⟩ = some (.int .i64 a1_3) ∧ w40.cell? ⟨gb123, 4, none⟩ = some (.int .i64 a1_4) ∧ w40.cell? ⟨gb123, 5, none⟩ = some (.int .i64 a1_5) ∧ w40.cell? ⟨gb122, 0, none⟩ = some (.int .i64 a0_0) ∧ w40.cell? ⟨gb122, 1, none⟩ = some (.int .i64 a0_1) ∧ w40.cell? ⟨gb122, 2, none⟩ = some (.int .i64 a0_2) ∧ w40.cell? ⟨gb122, 3, none⟩ = some (.int .i64 a0_3) ∧ w40.cell? ⟨gb122, 4, none⟩ = some (.int .i64 a0_4) ∧ w40.cell? ⟨gb122, 5, none⟩ = some (.int .i64 a0_5) := hS_
               refine norm_ (a' := ?_) ?_ ?_
               rotate_left
               ·simp only [putAll, Act.put, y1, y2, y3]
                rfl
               refine two_ (i := 2) (j := 6) (Ni := some 19) (Nj := some 6) (bz 9 47) (bz 9 107) rfl rfl rfl rfl (two_of HT_.out (by kernel_rfl)) (by decide) (by decide) (fun K hK => ?_) (fun K hK => ?_)
               ·skip
                refine goes_ Try.func65 (by kernel_rfl) rfl #[.agg #[.int .i64 a1_0, .int .i64 a1_1, .int .i64 a1_2, .int .i64 a1_3, .int .i64 a1_4, .int .i64 a1_5], .agg #[.int .i64 a0_0, .int .i64 a0_1, .int .i64 a0_2, .int .i64 a0_3, .int .i64 a0_4, .int .i64 a0_5]] (by rfl) rfl rfl s2_5 ?_
                with_reducible refine (spec_l8Bearing.calls a1_0 a1_1 a1_2 a1_3 a1_4 a1_5 a0_0 a0_1 a0_2 a0_3 a0_4 a0_5 t126 t127 _ A18.out).mono ?_
                rintro e w41 ⟨rfl, hb⟩
                refine ⟨_, rfl, ?_⟩
                have n0_ := Aside0.mk (bb (zk BK122.out) hb)
                have n1_ := Aside0.mk (bb (zk BK123.out) hb)
                have n2_ := Aside0.mk (bb (zk BK130.out) hb)
                have n3_ := Aside0.mk (below_step s2_1 hb)
                clear BK122 BK123 BK130 HB
                have BK122 := n0_
                have BK123 := n1_
                have BK130 := n2_
                have HB := n3_
                clear n0_ n1_ n2_ n3_
                (try clear hb)
                (try clear hb2)
                (try clear hk)
                (try clear hi)
                refine hK.out _ _ ⟨bc BK123.out 0, bc BK123.out 1, bc BK123.out 2, bc BK123.out 3, bc BK123.out 4, bc BK123.out 5, bc BK122.out 0, bc BK122.out 1, bc BK122.out 2, bc BK122.out 3, bc BK122.out 4, bc BK122.out 5⟩ (fun hHeld => ?_)
                clear hK K
                refine norm_ (a' := ?_) ?_ ?_
                rotate_left
                ·show Act.put _ (some 19) _ = _
                 simp only [Act.put, y1, y2, y3, i64_w, i32_w]
                 rfl
                exact norm_ s2_4 (hJ2_5 (gb130) _ ⟨hHeld, (zk BK122.out), (zk BK123.out), (zk BK130.out), GW130.out, GE130.out, NB122_130.out, NB130_122.out, NB123_130.out, NB130_123.out, s2_1⟩)
               ·skip
                refine box_step ?hg (N := 6) ?hd (cs := #[.int .i64 0, .int .i64 0]) (t := 83) ?hr ?_; (case hd => rfl); (case hg => rfl); (case hr => first | (go_simp; done) | (go_simp; rfl))
                intro gb131 hg w41 hbox hb
                have n0_ := Aside0.mk (bb (zk BK122.out) hb)
                have n1_ := Aside0.mk (bb (zk BK123.out) hb)
                have n2_ := Aside0.mk (bb (zk BK130.out) hb)
                have n3_ := Aside0.mk (below_step s2_1 hb)
                have n4_ := Aside0.mk (hbox)
                have n5_ := Aside0.mk (ns hg s2_1 : w.heap.size ≤ gb131)
                have n6_ := Aside0.mk (ns hg s2_1 : w.heap.size ≤ gb131)
                have n7_ := Aside0.mk ((nlt hg (zk BK122.out) : gb122 ≠ gb131))
                have n8_ := Aside0.mk ((ngt hg (zk BK122.out) : gb131 ≠ gb122))
                have n9_ := Aside0.mk ((nlt hg (zk BK123.out) : gb123 ≠ gb131))
                have n10_ := Aside0.mk ((ngt hg (zk BK123.out) : gb131 ≠ gb123))
                have n11_ := Aside0.mk ((nlt hg (zk BK130.out) : gb130 ≠ gb131))
                have n12_ := Aside0.mk ((ngt hg (zk BK130.out) : gb131 ≠ gb130))
                clear BK122 BK123 BK130 HB
                have BK122 := n0_
                have BK123 := n1_
                have BK130 := n2_
                have HB := n3_
                have BK131 := n4_
                have GW131 := n5_
                have GE131 := n6_
                have NB122_131 := n7_
                have NB131_122 := n8_
                have NB123_131 := n9_
                have NB131_123 := n10_
                have NB130_131 := n11_
                have NB131_130 := n12_
                clear n0_ n1_ n2_ n3_ n4_ n5_ n6_ n7_ n8_ n9_ n10_ n11_ n12_ hb hbox hg
                refine hK.out _ _ ⟨bc BK123.out 0, bc BK123.out 1, bc BK123.out 2, bc BK123.out 3, bc BK123.out 4, bc BK123.out 5, bc BK122.out 0, bc BK122.out 1, bc BK122.out 2, bc BK122.out 3, bc BK122.out 4, bc BK122.out 5⟩ (fun hHeld => ?_)
                clear hK K
                refine norm_ (a' := ?_) ?_ ?_
                rotate_left
                ·show Act.put _ (some 6) _ = _
                 simp only [Act.put, y1, y2, y3, i64_w, i32_w]
                 rfl
                exact norm_ s2_4 (hJ5_6 (gb130, gb131) _ ⟨hHeld, (zk BK122.out), (zk BK123.out), (zk BK130.out), (zk BK131.out), GW130.out, GE130.out, NB122_130.out, NB130_122.out, NB123_130.out, NB130_123.out, NB131_130.out, NB130_131.out, GW131.out, GE131.out, NB122_131.out, NB131_122.out, NB123_131.out, NB131_123.out, s2_3⟩)
             ·skip
              rintro _ w40 ⟨hS_, h0_, h1_, h2_⟩
              have n0_ : Aside0 (w40.heap[gb122]? = some (.cells #[.int .i64 a0_0, .int .i64 a0_1, .int .i64 a0_2, .int .i64 a0_3, .int .i64 a0_4, .int .i64 a0_5] 25 (0, 0))) := ⟨h0_⟩
              have n1_ : Aside0 (w40.heap[gb123]? = some (.cells #[.int .i64 a1_0, .int .i64 a1_1, .int .i64 a1_2, .int .i64 a1_3, .int .i64 a1_4, .int .i64 a1_5] 25 (0, 0))) := ⟨h1_⟩
              have n2_ : Aside0 (Below w.heap.size w w40) := ⟨h2_⟩
              clear BK122 BK123 HB h0_ h1_ h2_
              have BK122 := n0_
              have BK123 := n1_
              have HB := n2_
              clear n0_ n1_ n2_
              have hHeld : w40.cell? ⟨gb123, 0, none⟩ = some (.int .i64 a1_0) ∧ w40.cell? ⟨gb123, 1, none⟩ = some (.int .i64 a1_1) ∧ w40.cell? ⟨gb123, 2, none⟩ = some (.int .i64 a1_2) ∧ w40.cell? ⟨gb123, 3, none⟩ = some (.int .i64 a1_3) ∧ w40.cell? ⟨gb123, 4, none⟩ = some (.int .i64 a1_4) ∧ w40.cell? ⟨gb123, 5, none⟩ = some (.int .i64 a1_5) ∧ w40.cell? ⟨gb122, 0, none⟩ = some (.int .i64 a0_0) ∧ w40.cell? ⟨gb122, 1, none⟩ = some (.int .i64 a0_1) ∧ w40.cell? ⟨gb122, 2, none⟩ = some (.int .i64 a0_2) ∧ w40.cell? ⟨gb122, 3, none⟩ = some (.int .i64 a0_3) ∧ w40.cell? ⟨gb122, 4, none⟩ = some (.int .i64 a0_4) ∧ w40.cell? ⟨gb122, 5, none⟩ = some (.int .i64 a0_5) := hS_
              refine norm_ (a' := ?_) ?_ ?_
              rotate_left
              ·simp only [putAll, Act.put, y1, y2, y3]
               rfl
              refine three_ (i := 4) (j := 5) (k := 6) (Ni := some 21) (Nj := some 5) (Nk := some 6) (bz 9 31) (bz 9 47) (bz 9 79) rfl rfl rfl rfl rfl rfl (three_of HT_.out (by kernel_rfl)) (by decide) (by decide) (by decide) (fun K hK => ?_) (fun K hK => ?_) (fun K hK => ?_)
              ·skip
               refine goes_ Try.func66 (by kernel_rfl) rfl #[.agg #[.int .i64 a1_0, .int .i64 a1_1, .int .i64 a1_2, .int .i64 a1_3, .int .i64 a1_4, .int .i64 a1_5]] (by rfl) rfl rfl s2_5 ?_
               with_reducible refine (spec_l8Way.calls a1_0 a1_1 a1_2 a1_3 a1_4 a1_5 t128 t129 _ A19.out).mono ?_
               rintro e w41 ⟨rfl, hb⟩
               refine ⟨_, rfl, ?_⟩
               have n0_ := Aside0.mk (bb (zk BK122.out) hb)
               have n1_ := Aside0.mk (bb (zk BK123.out) hb)
               have n2_ := Aside0.mk (below_step s2_0 hb)
               clear BK122 BK123 HB
               have BK122 := n0_
               have BK123 := n1_
               have HB := n2_
               clear n0_ n1_ n2_
               (try clear hb)
               (try clear hb2)
               (try clear hk)
               (try clear hi)
               refine hK.out _ _ ⟨bc BK123.out 0, bc BK123.out 1, bc BK123.out 2, bc BK123.out 3, bc BK123.out 4, bc BK123.out 5, bc BK122.out 0, bc BK122.out 1, bc BK122.out 2, bc BK122.out 3, bc BK122.out 4, bc BK122.out 5⟩ (fun hHeld => ?_)
               clear hK K
               refine norm_ (a' := ?_) ?_ ?_
               rotate_left
               ·show Act.put _ (some 21) _ = _
                simp only [Act.put, y1, y2, y3, i64_w, i32_w]
                rfl
               exact norm_ s2_4 (hJ2_4 () _ ⟨hHeld, (zk BK122.out), (zk BK123.out), s2_0⟩)
              ·skip
               refine box_step ?hg (N := 5) ?hd (cs := #[.int .i64 0, .int .i64 0]) (t := 83) ?hr ?_; (case hd => rfl); (case hg => rfl); (case hr => first | (go_simp; done) | (go_simp; rfl))
               intro gb130 hg w41 hbox hb
               have n0_ := Aside0.mk (bb (zk BK122.out) hb)
               have n1_ := Aside0.mk (bb (zk BK123.out) hb)
               have n2_ := Aside0.mk (below_step s2_0 hb)
               have n3_ := Aside0.mk (hbox)
               have n4_ := Aside0.mk (ns hg s2_0 : w.heap.size ≤ gb130)
               have n5_ := Aside0.mk (ns hg s2_0 : w.heap.size ≤ gb130)
               have n6_ := Aside0.mk ((nlt hg (zk BK122.out) : gb122 ≠ gb130))
               have n7_ := Aside0.mk ((ngt hg (zk BK122.out) : gb130 ≠ gb122))
               have n8_ := Aside0.mk ((nlt hg (zk BK123.out) : gb123 ≠ gb130))
               have n9_ := Aside0.mk ((ngt hg (zk BK123.out) : gb130 ≠ gb123))
               clear BK122 BK123 HB
               have BK122 := n0_
               have BK123 := n1_
               have HB := n2_
               have BK130 := n3_
               have GW130 := n4_
               have GE130 := n5_
               have NB122_130 := n6_
               have NB130_122 := n7_
               have NB123_130 := n8_
               have NB130_123 := n9_
               clear n0_ n1_ n2_ n3_ n4_ n5_ n6_ n7_ n8_ n9_ hb hbox hg
               refine hK.out _ _ ⟨bc BK123.out 0, bc BK123.out 1, bc BK123.out 2, bc BK123.out 3, bc BK123.out 4, bc BK123.out 5, bc BK122.out 0, bc BK122.out 1, bc BK122.out 2, bc BK122.out 3, bc BK122.out 4, bc BK122.out 5⟩ (fun hHeld => ?_)
               clear hK K
               refine norm_ (a' := ?_) ?_ ?_
               rotate_left
               ·show Act.put _ (some 5) _ = _
                simp only [Act.put, y1, y2, y3, i64_w, i32_w]
                rfl
               exact norm_ s2_4 (hJ2_5 (gb130) _ ⟨hHeld, (zk BK122.out), (zk BK123.out), (zk BK130.out), GW130.out, GE130.out, NB122_130.out, NB130_122.out, NB123_130.out, NB130_123.out, s2_1⟩)
              ·skip
               refine box_step ?hg (N := 6) ?hd (cs := #[.int .i64 0, .int .i64 0]) (t := 83) ?hr ?_; (case hd => rfl); (case hg => rfl); (case hr => first | (go_simp; done) | (go_simp; rfl))
               intro gb131 hg w41 hbox hb
               have n0_ := Aside0.mk (bb (zk BK122.out) hb)
               have n1_ := Aside0.mk (bb (zk BK123.out) hb)
               have n2_ := Aside0.mk (below_step s2_0 hb)
               have n3_ := Aside0.mk (hbox)
               have n4_ := Aside0.mk (ns hg s2_0 : w.heap.size ≤ gb131)
               have n5_ := Aside0.mk (ns hg s2_0 : w.heap.size ≤ gb131)
               have n6_ := Aside0.mk ((nlt hg (zk BK122.out) : gb122 ≠ gb131))
               have n7_ := Aside0.mk ((ngt hg (zk BK122.out) : gb131 ≠ gb122))
               have n8_ := Aside0.mk ((nlt hg (zk BK123.out) : gb123 ≠ gb131))
               have n9_ := Aside0.mk ((ngt hg (zk BK123.out) : gb131 ≠ gb123))
               clear BK122 BK123 HB
               have BK122 := n0_
               have BK123 := n1_
               have HB := n2_
               have BK131 := n3_
               have GW131 := n4_
               have GE131 := n5_
               have NB122_131 := n6_
               have NB131_122 := n7_
               have NB123_131 := n8_
               have NB131_123 := n9_
               clear n0_ n1_ n2_ n3_ n4_ n5_ n6_ n7_ n8_ n9_ hb hbox hg
               refine hK.out _ _ ⟨bc BK123.out 0, bc BK123.out 1, bc BK123.out 2, bc BK123.out 3, bc BK123.out 4, bc BK123.out 5, bc BK122.out 0, bc BK122.out 1, bc BK122.out 2, bc BK122.out 3, bc BK122.out 4, bc BK122.out 5⟩ (fun hHeld => ?_)
               clear hK K
               refine norm_ (a' := ?_) ?_ ?_
               rotate_left
               ·show Act.put _ (some 6) _ = _
                simp only [Act.put, y1, y2, y3, i64_w, i32_w]
                rfl
               exact norm_ s2_4 (hJ2_6 (gb131) _ ⟨hHeld, (zk BK122.out), (zk BK123.out), (zk BK131.out), GW131.out, GE131.out, NB122_131.out, NB131_122.out, NB123_131.out, NB131_123.out, s2_2⟩)
            ·skip
             rintro ⟨gb130, gb131⟩ w41 ⟨hS_, h0_, h1_, h2_, h3_, h4_, h5_, h6_, h7_, h8_, h9_, h10_, h11_, h12_, h13_, h14_, h15_, h16_, h17_, h18_⟩
             have n0_ : Aside0 (w41.heap[gb122]? = some (.cells #[.int .i64 a0_0, .int .i64 a0_1, .int .i64 a0_2, .int .i64 a0_3, .int .i64 a0_4, .int .i64 a0_5] 25 (0, 0))) := ⟨h0_⟩
             have n1_ : Aside0 (w41.heap[gb123]? = some (.cells #[.int .i64 a1_0, .int .i64 a1_1, .int .i64 a1_2, .int .i64 a1_3, .int .i64 a1_4, .int .i64 a1_5] 25 (0, 0))) := ⟨h1_⟩
             have n2_ : Aside0 (w41.heap[gb130]? = some (.cells #[.int .i64 0, .int .i64 0] 83 (0, 0))) := ⟨h2_⟩
             have n3_ : Aside0 (w41.heap[gb131]? = some (.cells #[.int .i64 0, .int .i64 0] 83 (0, 0))) := ⟨h3_⟩
             have n4_ : Aside0 (w.heap.size ≤ gb130) := ⟨h4_⟩
             have n5_ : Aside0 (w.heap.size ≤ gb130) := ⟨h5_⟩
             have n6_ : Aside0 (gb122 ≠ gb130) := ⟨h6_⟩
             have n7_ : Aside0 (gb130 ≠ gb122) := ⟨h7_⟩
             have n8_ : Aside0 (gb123 ≠ gb130) := ⟨h8_⟩
             have n9_ : Aside0 (gb130 ≠ gb123) := ⟨h9_⟩
             have n10_ : Aside0 (gb131 ≠ gb130) := ⟨h10_⟩
             have n11_ : Aside0 (gb130 ≠ gb131) := ⟨h11_⟩
             have n12_ : Aside0 (w.heap.size ≤ gb131) := ⟨h12_⟩
             have n13_ : Aside0 (w.heap.size ≤ gb131) := ⟨h13_⟩
             have n14_ : Aside0 (gb122 ≠ gb131) := ⟨h14_⟩
             have n15_ : Aside0 (gb131 ≠ gb122) := ⟨h15_⟩
             have n16_ : Aside0 (gb123 ≠ gb131) := ⟨h16_⟩
             have n17_ : Aside0 (gb131 ≠ gb123) := ⟨h17_⟩
             have n18_ : Aside0 (Below w.heap.size w w41) := ⟨h18_⟩
             clear BK122 BK123 HB h0_ h1_ h2_ h3_ h4_ h5_ h6_ h7_ h8_ h9_ h10_ h11_ h12_ h13_ h14_ h15_ h16_ h17_ h18_
             have BK122 := n0_
             have BK123 := n1_
             have BK130 := n2_
             have BK131 := n3_
             have GW130 := n4_
             have GE130 := n5_
             have NB122_130 := n6_
             have NB130_122 := n7_
             have NB123_130 := n8_
             have NB130_123 := n9_
             have NB131_130 := n10_
             have NB130_131 := n11_
             have GW131 := n12_
             have GE131 := n13_
             have NB122_131 := n14_
             have NB131_122 := n15_
             have NB123_131 := n16_
             have NB131_123 := n17_
             have HB := n18_
             clear n0_ n1_ n2_ n3_ n4_ n5_ n6_ n7_ n8_ n9_ n10_ n11_ n12_ n13_ n14_ n15_ n16_ n17_ n18_
             have hHeld : w41.cell? ⟨gb123, 0, none⟩ = some (.int .i64 a1_0) ∧ w41.cell? ⟨gb123, 1, none⟩ = some (.int .i64 a1_1) ∧ w41.cell? ⟨gb123, 2, none⟩ = some (.int .i64 a1_2) ∧ w41.cell? ⟨gb123, 3, none⟩ = some (.int .i64 a1_3) ∧ w41.cell? ⟨gb123, 4, none⟩ = some (.int .i64 a1_4) ∧ w41.cell? ⟨gb123, 5, none⟩ = some (.int .i64 a1_5) ∧ w41.cell? ⟨gb122, 0, none⟩ = some (.int .i64 a0_0) ∧ w41.cell? ⟨gb122, 1, none⟩ = some (.int .i64 a0_1) ∧ w41.cell? ⟨gb122, 2, none⟩ = some (.int .i64 a0_2) ∧ w41.cell? ⟨gb122, 3, none⟩ = some (.int .i64 a0_3) ∧ w41.cell? ⟨gb122, 4, none⟩ = some (.int .i64 a0_4) ∧ w41.cell? ⟨gb122, 5, none⟩ = some (.int .i64 a0_5) := hS_
             refine norm_ (a' := ?_) ?_ ?_
             rotate_left
             ·simp only [putAll, Act.put, y1, y2, y3]
              rfl
             refine one_ (i := 2) (N := some 19) (bz 9 111) rfl rfl (one_of HT_.out (by kernel_rfl)) (by decide) (fun K hK => ?_)
             refine goes_ Try.func65 (by kernel_rfl) rfl #[.agg #[.int .i64 a1_0, .int .i64 a1_1, .int .i64 a1_2, .int .i64 a1_3, .int .i64 a1_4, .int .i64 a1_5], .agg #[.int .i64 a0_0, .int .i64 a0_1, .int .i64 a0_2, .int .i64 a0_3, .int .i64 a0_4, .int .i64 a0_5]] (by rfl) rfl rfl s2_5 ?_
             with_reducible refine (spec_l8Bearing.calls a1_0 a1_1 a1_2 a1_3 a1_4 a1_5 a0_0 a0_1 a0_2 a0_3 a0_4 a0_5 t126 t127 _ A18.out).mono ?_
             rintro e w42 ⟨rfl, hb⟩
             refine ⟨_, rfl, ?_⟩
             have n0_ := Aside0.mk (bb (zk BK122.out) hb)
             have n1_ := Aside0.mk (bb (zk BK123.out) hb)
             have n2_ := Aside0.mk (bb (zk BK130.out) hb)
             have n3_ := Aside0.mk (bb (zk BK131.out) hb)
             have n4_ := Aside0.mk (below_step s2_3 hb)
             clear BK122 BK123 BK130 BK131 HB
             have BK122 := n0_
             have BK123 := n1_
             have BK130 := n2_
             have BK131 := n3_
             have HB := n4_
             clear n0_ n1_ n2_ n3_ n4_
             (try clear hb)
             (try clear hb2)
             (try clear hk)
             (try clear hi)
             refine hK.out _ _ ⟨bc BK123.out 0, bc BK123.out 1, bc BK123.out 2, bc BK123.out 3, bc BK123.out 4, bc BK123.out 5, bc BK122.out 0, bc BK122.out 1, bc BK122.out 2, bc BK122.out 3, bc BK122.out 4, bc BK122.out 5⟩ (fun hHeld => ?_)
             clear hK K
             refine norm_ (a' := ?_) ?_ ?_
             rotate_left
             ·show Act.put _ (some 19) _ = _
              simp only [Act.put, y1, y2, y3, i64_w, i32_w]
              rfl
             exact norm_ s2_4 (hJ2_5_6 (gb130, gb131) _ ⟨hHeld, (zk BK122.out), (zk BK123.out), (zk BK130.out), (zk BK131.out), GW130.out, GE130.out, NB122_130.out, NB130_122.out, NB123_130.out, NB130_123.out, NB131_130.out, NB130_131.out, GW131.out, GE131.out, NB122_131.out, NB131_122.out, NB123_131.out, NB131_123.out, s2_3⟩)
           ·skip
            rintro gb131 w41 ⟨hS_, h0_, h1_, h2_, h3_, h4_, h5_, h6_, h7_, h8_, h9_⟩
            have n0_ : Aside0 (w41.heap[gb122]? = some (.cells #[.int .i64 a0_0, .int .i64 a0_1, .int .i64 a0_2, .int .i64 a0_3, .int .i64 a0_4, .int .i64 a0_5] 25 (0, 0))) := ⟨h0_⟩
            have n1_ : Aside0 (w41.heap[gb123]? = some (.cells #[.int .i64 a1_0, .int .i64 a1_1, .int .i64 a1_2, .int .i64 a1_3, .int .i64 a1_4, .int .i64 a1_5] 25 (0, 0))) := ⟨h1_⟩
            have n2_ : Aside0 (w41.heap[gb131]? = some (.cells #[.int .i64 0, .int .i64 0] 83 (0, 0))) := ⟨h2_⟩
            have n3_ : Aside0 (w.heap.size ≤ gb131) := ⟨h3_⟩
            have n4_ : Aside0 (w.heap.size ≤ gb131) := ⟨h4_⟩
            have n5_ : Aside0 (gb122 ≠ gb131) := ⟨h5_⟩
            have n6_ : Aside0 (gb131 ≠ gb122) := ⟨h6_⟩
            have n7_ : Aside0 (gb123 ≠ gb131) := ⟨h7_⟩
            have n8_ : Aside0 (gb131 ≠ gb123) := ⟨h8_⟩
            have n9_ : Aside0 (Below w.heap.size w w41) := ⟨h9_⟩
            clear BK122 BK123 HB h0_ h1_ h2_ h3_ h4_ h5_ h6_ h7_ h8_ h9_
            have BK122 := n0_
            have BK123 := n1_
            have BK131 := n2_
            have GW131 := n3_
            have GE131 := n4_
            have NB122_131 := n5_
            have NB131_122 := n6_
            have NB123_131 := n7_
            have NB131_123 := n8_
            have HB := n9_
            clear n0_ n1_ n2_ n3_ n4_ n5_ n6_ n7_ n8_ n9_
            have hHeld : w41.cell? ⟨gb123, 0, none⟩ = some (.int .i64 a1_0) ∧ w41.cell? ⟨gb123, 1, none⟩ = some (.int .i64 a1_1) ∧ w41.cell? ⟨gb123, 2, none⟩ = some (.int .i64 a1_2) ∧ w41.cell? ⟨gb123, 3, none⟩ = some (.int .i64 a1_3) ∧ w41.cell? ⟨gb123, 4, none⟩ = some (.int .i64 a1_4) ∧ w41.cell? ⟨gb123, 5, none⟩ = some (.int .i64 a1_5) ∧ w41.cell? ⟨gb122, 0, none⟩ = some (.int .i64 a0_0) ∧ w41.cell? ⟨gb122, 1, none⟩ = some (.int .i64 a0_1) ∧ w41.cell? ⟨gb122, 2, none⟩ = some (.int .i64 a0_2) ∧ w41.cell? ⟨gb122, 3, none⟩ = some (.int .i64 a0_3) ∧ w41.cell? ⟨gb122, 4, none⟩ = some (.int .i64 a0_4) ∧ w41.cell? ⟨gb122, 5, none⟩ = some (.int .i64 a0_5) := hS_
            refine norm_ (a' := ?_) ?_ ?_
            rotate_left
            ·simp only [putAll, Act.put, y1, y2, y3]
             rfl
            refine two_ (i := 4) (j := 5) (Ni := some 21) (Nj := some 5) (bz 9 95) (bz 9 111) rfl rfl rfl rfl (two_of HT_.out (by kernel_rfl)) (by decide) (by decide) (fun K hK => ?_) (fun K hK => ?_)
            ·skip
             refine goes_ Try.func66 (by kernel_rfl) rfl #[.agg #[.int .i64 a1_0, .int .i64 a1_1, .int .i64 a1_2, .int .i64 a1_3, .int .i64 a1_4, .int .i64 a1_5]] (by rfl) rfl rfl s2_5 ?_
             with_reducible refine (spec_l8Way.calls a1_0 a1_1 a1_2 a1_3 a1_4 a1_5 t128 t129 _ A19.out).mono ?_
             rintro e w42 ⟨rfl, hb⟩
             refine ⟨_, rfl, ?_⟩
             have n0_ := Aside0.mk (bb (zk BK122.out) hb)
             have n1_ := Aside0.mk (bb (zk BK123.out) hb)
             have n2_ := Aside0.mk (bb (zk BK131.out) hb)
             have n3_ := Aside0.mk (below_step s2_2 hb)
             clear BK122 BK123 BK131 HB
             have BK122 := n0_
             have BK123 := n1_
             have BK131 := n2_
             have HB := n3_
             clear n0_ n1_ n2_ n3_
             (try clear hb)
             (try clear hb2)
             (try clear hk)
             (try clear hi)
             refine hK.out _ _ ⟨bc BK123.out 0, bc BK123.out 1, bc BK123.out 2, bc BK123.out 3, bc BK123.out 4, bc BK123.out 5, bc BK122.out 0, bc BK122.out 1, bc BK122.out 2, bc BK122.out 3, bc BK122.out 4, bc BK122.out 5⟩ (fun hHeld => ?_)
             clear hK K
             refine norm_ (a' := ?_) ?_ ?_
             rotate_left
             ·show Act.put _ (some 21) _ = _
              simp only [Act.put, y1, y2, y3, i64_w, i32_w]
              rfl
             exact norm_ s2_4 (hJ2_4_6 (gb131) _ ⟨hHeld, (zk BK122.out), (zk BK123.out), (zk BK131.out), GW131.out, GE131.out, NB122_131.out, NB131_122.out, NB123_131.out, NB131_123.out, s2_2⟩)
            ·skip
             refine box_step ?hg (N := 5) ?hd (cs := #[.int .i64 0, .int .i64 0]) (t := 83) ?hr ?_; (case hd => rfl); (case hg => rfl); (case hr => first | (go_simp; done) | (go_simp; rfl))
             intro gb130 hg w42 hbox hb
             have n0_ := Aside0.mk (bb (zk BK122.out) hb)
             have n1_ := Aside0.mk (bb (zk BK123.out) hb)
             have n2_ := Aside0.mk (bb (zk BK131.out) hb)
             have n3_ := Aside0.mk (below_step s2_2 hb)
             have n4_ := Aside0.mk (hbox)
             have n5_ := Aside0.mk (ns hg s2_2 : w.heap.size ≤ gb130)
             have n6_ := Aside0.mk (ns hg s2_2 : w.heap.size ≤ gb130)
             have n7_ := Aside0.mk ((nlt hg (zk BK122.out) : gb122 ≠ gb130))
             have n8_ := Aside0.mk ((ngt hg (zk BK122.out) : gb130 ≠ gb122))
             have n9_ := Aside0.mk ((nlt hg (zk BK123.out) : gb123 ≠ gb130))
             have n10_ := Aside0.mk ((ngt hg (zk BK123.out) : gb130 ≠ gb123))
             have n11_ := Aside0.mk ((nlt hg (zk BK131.out) : gb131 ≠ gb130))
             have n12_ := Aside0.mk ((ngt hg (zk BK131.out) : gb130 ≠ gb131))
             clear BK122 BK123 BK131 HB
             have BK122 := n0_
             have BK123 := n1_
             have BK131 := n2_
             have HB := n3_
             have BK130 := n4_
             have GW130 := n5_
             have GE130 := n6_
             have NB122_130 := n7_
             have NB130_122 := n8_
             have NB123_130 := n9_
             have NB130_123 := n10_
             have NB131_130 := n11_
             have NB130_131 := n12_
             clear n0_ n1_ n2_ n3_ n4_ n5_ n6_ n7_ n8_ n9_ n10_ n11_ n12_ hb hbox hg
             refine hK.out _ _ ⟨bc BK123.out 0, bc BK123.out 1, bc BK123.out 2, bc BK123.out 3, bc BK123.out 4, bc BK123.out 5, bc BK122.out 0, bc BK122.out 1, bc BK122.out 2, bc BK122.out 3, bc BK122.out 4, bc BK122.out 5⟩ (fun hHeld => ?_)
             clear hK K
             refine norm_ (a' := ?_) ?_ ?_
             rotate_left
             ·show Act.put _ (some 5) _ = _
              simp only [Act.put, y1, y2, y3, i64_w, i32_w]
              rfl
             exact norm_ s2_4 (hJ2_5_6 (gb130, gb131) _ ⟨hHeld, (zk BK122.out), (zk BK123.out), (zk BK130.out), (zk BK131.out), GW130.out, GE130.out, NB122_130.out, NB130_122.out, NB123_130.out, NB130_123.out, NB131_130.out, NB130_131.out, GW131.out, GE131.out, NB122_131.out, NB131_122.out, NB123_131.out, NB131_123.out, s2_6⟩)
          ·skip
           rintro gb130 w41 ⟨hS_, h0_, h1_, h2_, h3_, h4_, h5_, h6_, h7_, h8_, h9_⟩
           have n0_ : Aside0 (w41.heap[gb122]? = some (.cells #[.int .i64 a0_0, .int .i64 a0_1, .int .i64 a0_2, .int .i64 a0_3, .int .i64 a0_4, .int .i64 a0_5] 25 (0, 0))) := ⟨h0_⟩
           have n1_ : Aside0 (w41.heap[gb123]? = some (.cells #[.int .i64 a1_0, .int .i64 a1_1, .int .i64 a1_2, .int .i64 a1_3, .int .i64 a1_4, .int .i64 a1_5] 25 (0, 0))) := ⟨h1_⟩
           have n2_ : Aside0 (w41.heap[gb130]? = some (.cells #[.int .i64 0, .int .i64 0] 83 (0, 0))) := ⟨h2_⟩
           have n3_ : Aside0 (w.heap.size ≤ gb130) := ⟨h3_⟩
           have n4_ : Aside0 (w.heap.size ≤ gb130) := ⟨h4_⟩
           have n5_ : Aside0 (gb122 ≠ gb130) := ⟨h5_⟩
           have n6_ : Aside0 (gb130 ≠ gb122) := ⟨h6_⟩
           have n7_ : Aside0 (gb123 ≠ gb130) := ⟨h7_⟩
           have n8_ : Aside0 (gb130 ≠ gb123) := ⟨h8_⟩
           have n9_ : Aside0 (Below w.heap.size w w41) := ⟨h9_⟩
           clear BK122 BK123 HB h0_ h1_ h2_ h3_ h4_ h5_ h6_ h7_ h8_ h9_
           have BK122 := n0_
           have BK123 := n1_
           have BK130 := n2_
           have GW130 := n3_
           have GE130 := n4_
           have NB122_130 := n5_
           have NB130_122 := n6_
           have NB123_130 := n7_
           have NB130_123 := n8_
           have HB := n9_
           clear n0_ n1_ n2_ n3_ n4_ n5_ n6_ n7_ n8_ n9_
           have hHeld : w41.cell? ⟨gb123, 0, none⟩ = some (.int .i64 a1_0) ∧ w41.cell? ⟨gb123, 1, none⟩ = some (.int .i64 a1_1) ∧ w41.cell? ⟨gb123, 2, none⟩ = some (.int .i64 a1_2) ∧ w41.cell? ⟨gb123, 3, none⟩ = some (.int .i64 a1_3) ∧ w41.cell? ⟨gb123, 4, none⟩ = some (.int .i64 a1_4) ∧ w41.cell? ⟨gb123, 5, none⟩ = some (.int .i64 a1_5) ∧ w41.cell? ⟨gb122, 0, none⟩ = some (.int .i64 a0_0) ∧ w41.cell? ⟨gb122, 1, none⟩ = some (.int .i64 a0_1) ∧ w41.cell? ⟨gb122, 2, none⟩ = some (.int .i64 a0_2) ∧ w41.cell? ⟨gb122, 3, none⟩ = some (.int .i64 a0_3) ∧ w41.cell? ⟨gb122, 4, none⟩ = some (.int .i64 a0_4) ∧ w41.cell? ⟨gb122, 5, none⟩ = some (.int .i64 a0_5) := hS_
           refine norm_ (a' := ?_) ?_ ?_
           rotate_left
           ·simp only [putAll, Act.put, y1, y2, y3]
            rfl
           refine two_ (i := 4) (j := 6) (Ni := some 21) (Nj := some 6) (bz 9 63) (bz 9 111) rfl rfl rfl rfl (two_of HT_.out (by kernel_rfl)) (by decide) (by decide) (fun K hK => ?_) (fun K hK => ?_)
           ·skip
            refine goes_ Try.func66 (by kernel_rfl) rfl #[.agg #[.int .i64 a1_0, .int .i64 a1_1, .int .i64 a1_2, .int .i64 a1_3, .int .i64 a1_4, .int .i64 a1_5]] (by rfl) rfl rfl s2_5 ?_
            with_reducible refine (spec_l8Way.calls a1_0 a1_1 a1_2 a1_3 a1_4 a1_5 t128 t129 _ A19.out).mono ?_
            rintro e w42 ⟨rfl, hb⟩
            refine ⟨_, rfl, ?_⟩
            have n0_ := Aside0.mk (bb (zk BK122.out) hb)
            have n1_ := Aside0.mk (bb (zk BK123.out) hb)
            have n2_ := Aside0.mk (bb (zk BK130.out) hb)
            have n3_ := Aside0.mk (below_step s2_1 hb)
            clear BK122 BK123 BK130 HB
            have BK122 := n0_
            have BK123 := n1_
            have BK130 := n2_
            have HB := n3_
            clear n0_ n1_ n2_ n3_
            (try clear hb)
            (try clear hb2)
            (try clear hk)
            (try clear hi)
            refine hK.out _ _ ⟨bc BK123.out 0, bc BK123.out 1, bc BK123.out 2, bc BK123.out 3, bc BK123.out 4, bc BK123.out 5, bc BK122.out 0, bc BK122.out 1, bc BK122.out 2, bc BK122.out 3, bc BK122.out 4, bc BK122.out 5⟩ (fun hHeld => ?_)
            clear hK K
            refine norm_ (a' := ?_) ?_ ?_
            rotate_left
            ·show Act.put _ (some 21) _ = _
             simp only [Act.put, y1, y2, y3, i64_w, i32_w]
             rfl
            exact norm_ s2_4 (hJ2_4_5 (gb130) _ ⟨hHeld, (zk BK122.out), (zk BK123.out), (zk BK130.out), GW130.out, GE130.out, NB122_130.out, NB130_122.out, NB123_130.out, NB130_123.out, s2_1⟩)
           ·skip
            refine box_step ?hg (N := 6) ?hd (cs := #[.int .i64 0, .int .i64 0]) (t := 83) ?hr ?_; (case hd => rfl); (case hg => rfl); (case hr => first | (go_simp; done) | (go_simp; rfl))
            intro gb131 hg w42 hbox hb
            have n0_ := Aside0.mk (bb (zk BK122.out) hb)
            have n1_ := Aside0.mk (bb (zk BK123.out) hb)
            have n2_ := Aside0.mk (bb (zk BK130.out) hb)
            have n3_ := Aside0.mk (below_step s2_1 hb)
            have n4_ := Aside0.mk (hbox)
            have n5_ := Aside0.mk (ns hg s2_1 : w.heap.size ≤ gb131)
            have n6_ := Aside0.mk (ns hg s2_1 : w.heap.size ≤ gb131)
            have n7_ := Aside0.mk ((nlt hg (zk BK122.out) : gb122 ≠ gb131))
            have n8_ := Aside0.mk ((ngt hg (zk BK122.out) : gb131 ≠ gb122))
            have n9_ := Aside0.mk ((nlt hg (zk BK123.out) : gb123 ≠ gb131))
            have n10_ := Aside0.mk ((ngt hg (zk BK123.out) : gb131 ≠ gb123))
            have n11_ := Aside0.mk ((nlt hg (zk BK130.out) : gb130 ≠ gb131))
            have n12_ := Aside0.mk ((ngt hg (zk BK130.out) : gb131 ≠ gb130))
            clear BK122 BK123 BK130 HB
            have BK122 := n0_
            have BK123 := n1_
            have BK130 := n2_
            have HB := n3_
            have BK131 := n4_
            have GW131 := n5_
            have GE131 := n6_
            have NB122_131 := n7_
            have NB131_122 := n8_
            have NB123_131 := n9_
            have NB131_123 := n10_
            have NB130_131 := n11_
            have NB131_130 := n12_
            clear n0_ n1_ n2_ n3_ n4_ n5_ n6_ n7_ n8_ n9_ n10_ n11_ n12_ hb hbox hg
            refine hK.out _ _ ⟨bc BK123.out 0, bc BK123.out 1, bc BK123.out 2, bc BK123.out 3, bc BK123.out 4, bc BK123.out 5, bc BK122.out 0, bc BK122.out 1, bc BK122.out 2, bc BK122.out 3, bc BK122.out 4, bc BK122.out 5⟩ (fun hHeld => ?_)
            clear hK K
            refine norm_ (a' := ?_) ?_ ?_
            rotate_left
            ·show Act.put _ (some 6) _ = _
             simp only [Act.put, y1, y2, y3, i64_w, i32_w]
             rfl
            exact norm_ s2_4 (hJ2_5_6 (gb130, gb131) _ ⟨hHeld, (zk BK122.out), (zk BK123.out), (zk BK130.out), (zk BK131.out), GW130.out, GE130.out, NB122_130.out, NB130_122.out, NB123_130.out, NB130_123.out, NB131_130.out, NB130_131.out, GW131.out, GE131.out, NB122_131.out, NB131_122.out, NB123_131.out, NB131_123.out, s2_3⟩)
         ·skip
          rintro _ w41 ⟨hS_, h0_, h1_, h2_⟩
          have n0_ : Aside0 (w41.heap[gb122]? = some (.cells #[.int .i64 a0_0, .int .i64 a0_1, .int .i64 a0_2, .int .i64 a0_3, .int .i64 a0_4, .int .i64 a0_5] 25 (0, 0))) := ⟨h0_⟩
          have n1_ : Aside0 (w41.heap[gb123]? = some (.cells #[.int .i64 a1_0, .int .i64 a1_1, .int .i64 a1_2, .int .i64 a1_3, .int .i64 a1_4, .int .i64 a1_5] 25 (0, 0))) := ⟨h1_⟩
          have n2_ : Aside0 (Below w.heap.size w w41) := ⟨h2_⟩
          clear BK122 BK123 HB h0_ h1_ h2_
          have BK122 := n0_
          have BK123 := n1_
          have HB := n2_
          clear n0_ n1_ n2_
          have hHeld : w41.cell? ⟨gb123, 0, none⟩ = some (.int .i64 a1_0) ∧ w41.cell? ⟨gb123, 1, none⟩ = some (.int .i64 a1_1) ∧ w41.cell? ⟨gb123, 2, none⟩ = some (.int .i64 a1_2) ∧ w41.cell? ⟨gb123, 3, none⟩ = some (.int .i64 a1_3) ∧ w41.cell? ⟨gb123, 4, none⟩ = some (.int .i64 a1_4) ∧ w41.cell? ⟨gb123, 5, none⟩ = some (.int .i64 a1_5) ∧ w41.cell? ⟨gb122, 0, none⟩ = some (.int .i64 a0_0) ∧ w41.cell? ⟨gb122, 1, none⟩ = some (.int .i64 a0_1) ∧ w41.cell? ⟨gb122, 2, none⟩ = some (.int .i64 a0_2) ∧ w41.cell? ⟨gb122, 3, none⟩ = some (.int .i64 a0_3) ∧ w41.cell? ⟨gb122, 4, none⟩ = some (.int .i64 a0_4) ∧ w41.cell? ⟨gb122, 5, none⟩ = some (.int .i64 a0_5) := hS_
          refine norm_ (a' := ?_) ?_ ?_
          rotate_left
          ·simp only [putAll, Act.put, y1, y2, y3]
           rfl
          refine two_ (i := 5) (j := 6) (Ni := some 5) (Nj := some 6) (bz 9 63) (bz 9 95) rfl rfl rfl rfl (two_of HT_.out (by kernel_rfl)) (by decide) (by decide) (fun K hK => ?_) (fun K hK => ?_)
          ·skip
           refine box_step ?hg (N := 5) ?hd (cs := #[.int .i64 0, .int .i64 0]) (t := 83) ?hr ?_; (case hd => rfl); (case hg => rfl); (case hr => first | (go_simp; done) | (go_simp; rfl))
           intro gb130 hg w42 hbox hb
           have n0_ := Aside0.mk (bb (zk BK122.out) hb)
           have n1_ := Aside0.mk (bb (zk BK123.out) hb)
           have n2_ := Aside0.mk (below_step s2_0 hb)
           have n3_ := Aside0.mk (hbox)
           have n4_ := Aside0.mk (ns hg s2_0 : w.heap.size ≤ gb130)
           have n5_ := Aside0.mk (ns hg s2_0 : w.heap.size ≤ gb130)
           have n6_ := Aside0.mk ((nlt hg (zk BK122.out) : gb122 ≠ gb130))
           have n7_ := Aside0.mk ((ngt hg (zk BK122.out) : gb130 ≠ gb122))
           have n8_ := Aside0.mk ((nlt hg (zk BK123.out) : gb123 ≠ gb130))
           have n9_ := Aside0.mk ((ngt hg (zk BK123.out) : gb130 ≠ gb123))
           clear BK122 BK123 HB
           have BK122 := n0_
           have BK123 := n1_
           have HB := n2_
           have BK130 := n3_
           have GW130 := n4_
           have GE130 := n5_
           have NB122_130 := n6_
           have NB130_122 := n7_
           have NB123_130 := n8_
           have NB130_123 := n9_
           clear n0_ n1_ n2_ n3_ n4_ n5_ n6_ n7_ n8_ n9_ hb hbox hg
           refine hK.out _ _ ⟨bc BK123.out 0, bc BK123.out 1, bc BK123.out 2, bc BK123.out 3, bc BK123.out 4, bc BK123.out 5, bc BK122.out 0, bc BK122.out 1, bc BK122.out 2, bc BK122.out 3, bc BK122.out 4, bc BK122.out 5⟩ (fun hHeld => ?_)
           clear hK K
           refine norm_ (a' := ?_) ?_ ?_
           rotate_left
           ·show Act.put _ (some 5) _ = _
            simp only [Act.put, y1, y2, y3, i64_w, i32_w]
            rfl
           exact norm_ s2_4 (hJ2_4_5 (gb130) _ ⟨hHeld, (zk BK122.out), (zk BK123.out), (zk BK130.out), GW130.out, GE130.out, NB122_130.out, NB130_122.out, NB123_130.out, NB130_123.out, s2_1⟩)
          ·skip
           refine box_step ?hg (N := 6) ?hd (cs := #[.int .i64 0, .int .i64 0]) (t := 83) ?hr ?_; (case hd => rfl); (case hg => rfl); (case hr => first | (go_simp; done) | (go_simp; rfl))
           intro gb131 hg w42 hbox hb
           have n0_ := Aside0.mk (bb (zk BK122.out) hb)
           have n1_ := Aside0.mk (bb (zk BK123.out) hb)
           have n2_ := Aside0.mk (below_step s2_0 hb)
           have n3_ := Aside0.mk (hbox)
           have n4_ := Aside0.mk (ns hg s2_0 : w.heap.size ≤ gb131)
           have n5_ := Aside0.mk (ns hg s2_0 : w.heap.size ≤ gb131)
           have n6_ := Aside0.mk ((nlt hg (zk BK122.out) : gb122 ≠ gb131))
           have n7_ := Aside0.mk ((ngt hg (zk BK122.out) : gb131 ≠ gb122))
           have n8_ := Aside0.mk ((nlt hg (zk BK123.out) : gb123 ≠ gb131))
           have n9_ := Aside0.mk ((ngt hg (zk BK123.out) : gb131 ≠ gb123))
           clear BK122 BK123 HB
           have BK122 := n0_
           have BK123 := n1_
           have HB := n2_
           have BK131 := n3_
           have GW131 := n4_
           have GE131 := n5_
           have NB122_131 := n6_
           have NB131_122 := n7_
           have NB123_131 := n8_
           have NB131_123 := n9_
           clear n0_ n1_ n2_ n3_ n4_ n5_ n6_ n7_ n8_ n9_ hb hbox hg
           refine hK.out _ _ ⟨bc BK123.out 0, bc BK123.out 1, bc BK123.out 2, bc BK123.out 3, bc BK123.out 4, bc BK123.out 5, bc BK122.out 0, bc BK122.out 1, bc BK122.out 2, bc BK122.out 3, bc BK122.out 4, bc BK122.out 5⟩ (fun hHeld => ?_)
           clear hK K
           refine norm_ (a' := ?_) ?_ ?_
           rotate_left
           ·show Act.put _ (some 6) _ = _
            simp only [Act.put, y1, y2, y3, i64_w, i32_w]
            rfl
           exact norm_ s2_4 (hJ2_4_6 (gb131) _ ⟨hHeld, (zk BK122.out), (zk BK123.out), (zk BK131.out), GW131.out, GE131.out, NB122_131.out, NB131_122.out, NB123_131.out, NB131_123.out, s2_2⟩)
        ·skip
         rintro ⟨gb130, gb131⟩ w42 ⟨hS_, h0_, h1_, h2_, h3_, h4_, h5_, h6_, h7_, h8_, h9_, h10_, h11_, h12_, h13_, h14_, h15_, h16_, h17_, h18_⟩
         have n0_ : Aside0 (w42.heap[gb122]? = some (.cells #[.int .i64 a0_0, .int .i64 a0_1, .int .i64 a0_2, .int .i64 a0_3, .int .i64 a0_4, .int .i64 a0_5] 25 (0, 0))) := ⟨h0_⟩
         have n1_ : Aside0 (w42.heap[gb123]? = some (.cells #[.int .i64 a1_0, .int .i64 a1_1, .int .i64 a1_2, .int .i64 a1_3, .int .i64 a1_4, .int .i64 a1_5] 25 (0, 0))) := ⟨h1_⟩
         have n2_ : Aside0 (w42.heap[gb130]? = some (.cells #[.int .i64 0, .int .i64 0] 83 (0, 0))) := ⟨h2_⟩
         have n3_ : Aside0 (w42.heap[gb131]? = some (.cells #[.int .i64 0, .int .i64 0] 83 (0, 0))) := ⟨h3_⟩
         have n4_ : Aside0 (w.heap.size ≤ gb130) := ⟨h4_⟩
         have n5_ : Aside0 (w.heap.size ≤ gb130) := ⟨h5_⟩
         have n6_ : Aside0 (gb122 ≠ gb130) := ⟨h6_⟩
         have n7_ : Aside0 (gb130 ≠ gb122) := ⟨h7_⟩
         have n8_ : Aside0 (gb123 ≠ gb130) := ⟨h8_⟩
         have n9_ : Aside0 (gb130 ≠ gb123) := ⟨h9_⟩
         have n10_ : Aside0 (gb131 ≠ gb130) := ⟨h10_⟩
         have n11_ : Aside0 (gb130 ≠ gb131) := ⟨h11_⟩
         have n12_ : Aside0 (w.heap.size ≤ gb131) := ⟨h12_⟩
         have n13_ : Aside0 (w.heap.size ≤ gb131) := ⟨h13_⟩
         have n14_ : Aside0 (gb122 ≠ gb131) := ⟨h14_⟩
         have n15_ : Aside0 (gb131 ≠ gb122) := ⟨h15_⟩
         have n16_ : Aside0 (gb123 ≠ gb131) := ⟨h16_⟩
         have n17_ : Aside0 (gb131 ≠ gb123) := ⟨h17_⟩
         have n18_ : Aside0 (Below w.heap.size w w42) := ⟨h18_⟩
         clear BK122 BK123 HB h0_ h1_ h2_ h3_ h4_ h5_ h6_ h7_ h8_ h9_ h10_ h11_ h12_ h13_ h14_ h15_ h16_ h17_ h18_
         have BK122 := n0_
         have BK123 := n1_
         have BK130 := n2_
         have BK131 := n3_
         have GW130 := n4_
         have GE130 := n5_
         have NB122_130 := n6_
         have NB130_122 := n7_
         have NB123_130 := n8_
         have NB130_123 := n9_
         have NB131_130 := n10_
         have NB130_131 := n11_
         have GW131 := n12_
         have GE131 := n13_
         have NB122_131 := n14_
         have NB131_122 := n15_
         have NB123_131 := n16_
         have NB131_123 := n17_
         have HB := n18_
         clear n0_ n1_ n2_ n3_ n4_ n5_ n6_ n7_ n8_ n9_ n10_ n11_ n12_ n13_ n14_ n15_ n16_ n17_ n18_
         have hHeld : w42.cell? ⟨gb123, 0, none⟩ = some (.int .i64 a1_0) ∧ w42.cell? ⟨gb123, 1, none⟩ = some (.int .i64 a1_1) ∧ w42.cell? ⟨gb123, 2, none⟩ = some (.int .i64 a1_2) ∧ w42.cell? ⟨gb123, 3, none⟩ = some (.int .i64 a1_3) ∧ w42.cell? ⟨gb123, 4, none⟩ = some (.int .i64 a1_4) ∧ w42.cell? ⟨gb123, 5, none⟩ = some (.int .i64 a1_5) ∧ w42.cell? ⟨gb122, 0, none⟩ = some (.int .i64 a0_0) ∧ w42.cell? ⟨gb122, 1, none⟩ = some (.int .i64 a0_1) ∧ w42.cell? ⟨gb122, 2, none⟩ = some (.int .i64 a0_2) ∧ w42.cell? ⟨gb122, 3, none⟩ = some (.int .i64 a0_3) ∧ w42.cell? ⟨gb122, 4, none⟩ = some (.int .i64 a0_4) ∧ w42.cell? ⟨gb122, 5, none⟩ = some (.int .i64 a0_5) := hS_
         refine norm_ (a' := ?_) ?_ ?_
         rotate_left
         ·simp only [putAll, Act.put, y1, y2, y3]
          rfl
         refine one_ (i := 4) (N := some 21) (bz 9 127) rfl rfl (one_of HT_.out (by kernel_rfl)) (by decide) (fun K hK => ?_)
         refine goes_ Try.func66 (by kernel_rfl) rfl #[.agg #[.int .i64 a1_0, .int .i64 a1_1, .int .i64 a1_2, .int .i64 a1_3, .int .i64 a1_4, .int .i64 a1_5]] (by rfl) rfl rfl s2_5 ?_
         with_reducible refine (spec_l8Way.calls a1_0 a1_1 a1_2 a1_3 a1_4 a1_5 t128 t129 _ A19.out).mono ?_
         rintro e w43 ⟨rfl, hb⟩
         refine ⟨_, rfl, ?_⟩
         have n0_ := Aside0.mk (bb (zk BK122.out) hb)
         have n1_ := Aside0.mk (bb (zk BK123.out) hb)
         have n2_ := Aside0.mk (bb (zk BK130.out) hb)
         have n3_ := Aside0.mk (bb (zk BK131.out) hb)
         have n4_ := Aside0.mk (below_step s2_3 hb)
         clear BK122 BK123 BK130 BK131 HB
         have BK122 := n0_
         have BK123 := n1_
         have BK130 := n2_
         have BK131 := n3_
         have HB := n4_
         clear n0_ n1_ n2_ n3_ n4_
         (try clear hb)
         (try clear hb2)
         (try clear hk)
         (try clear hi)
         refine hK.out _ _ ⟨bc BK123.out 0, bc BK123.out 1, bc BK123.out 2, bc BK123.out 3, bc BK123.out 4, bc BK123.out 5, bc BK122.out 0, bc BK122.out 1, bc BK122.out 2, bc BK122.out 3, bc BK122.out 4, bc BK122.out 5⟩ (fun hHeld => ?_)
         clear hK K
         refine norm_ (a' := ?_) ?_ ?_
         rotate_left
         ·show Act.put _ (some 21) _ = _
          simp only [Act.put, y1, y2, y3, i64_w, i32_w]
          rfl
         exact norm_ s2_4 (hJ2_4_5_6 (gb130, gb131) _ ⟨hHeld, (zk BK122.out), (zk BK123.out), (zk BK130.out), (zk BK131.out), GW130.out, GE130.out, NB122_130.out, NB130_122.out, NB123_130.out, NB130_123.out, NB131_130.out, NB130_131.out, GW131.out, GE131.out, NB122_131.out, NB131_122.out, NB123_131.out, NB131_123.out, s2_3⟩)
       ·skip
        rintro gb131 w42 ⟨hS_, h0_, h1_, h2_, h3_, h4_, h5_, h6_, h7_, h8_, h9_⟩
        have n0_ : Aside0 (w42.heap[gb122]? = some (.cells #[.int .i64 a0_0, .int .i64 a0_1, .int .i64 a0_2, .int .i64 a0_3, .int .i64 a0_4, .int .i64 a0_5] 25 (0, 0))) := ⟨h0_⟩
        have n1_ : Aside0 (w42.heap[gb123]? = some (.cells #[.int .i64 a1_0, .int .i64 a1_1, .int .i64 a1_2, .int .i64 a1_3, .int .i64 a1_4, .int .i64 a1_5] 25 (0, 0))) := ⟨h1_⟩
        have n2_ : Aside0 (w42.heap[gb131]? = some (.cells #[.int .i64 0, .int .i64 0] 83 (0, 0))) := ⟨h2_⟩
        have n3_ : Aside0 (w.heap.size ≤ gb131) := ⟨h3_⟩
        have n4_ : Aside0 (w.heap.size ≤ gb131) := ⟨h4_⟩
        have n5_ : Aside0 (gb122 ≠ gb131) := ⟨h5_⟩
        have n6_ : Aside0 (gb131 ≠ gb122) := ⟨h6_⟩
        have n7_ : Aside0 (gb123 ≠ gb131) := ⟨h7_⟩
        have n8_ : Aside0 (gb131 ≠ gb123) := ⟨h8_⟩
        have n9_ : Aside0 (Below w.heap.size w w42) := ⟨h9_⟩
        clear BK122 BK123 HB h0_ h1_ h2_ h3_ h4_ h5_ h6_ h7_ h8_ h9_
        have BK122 := n0_
        have BK123 := n1_
        have BK131 := n2_
        have GW131 := n3_
        have GE131 := n4_
        have NB122_131 := n5_
        have NB131_122 := n6_
        have NB123_131 := n7_
        have NB131_123 := n8_
        have HB := n9_
        clear n0_ n1_ n2_ n3_ n4_ n5_ n6_ n7_ n8_ n9_
        have hHeld : w42.cell? ⟨gb123, 0, none⟩ = some (.int .i64 a1_0) ∧ w42.cell? ⟨gb123, 1, none⟩ = some (.int .i64 a1_1) ∧ w42.cell? ⟨gb123, 2, none⟩ = some (.int .i64 a1_2) ∧ w42.cell? ⟨gb123, 3, none⟩ = some (.int .i64 a1_3) ∧ w42.cell? ⟨gb123, 4, none⟩ = some (.int .i64 a1_4) ∧ w42.cell? ⟨gb123, 5, none⟩ = some (.int .i64 a1_5) ∧ w42.cell? ⟨gb122, 0, none⟩ = some (.int .i64 a0_0) ∧ w42.cell? ⟨gb122, 1, none⟩ = some (.int .i64 a0_1) ∧ w42.cell? ⟨gb122, 2, none⟩ = some (.int .i64 a0_2) ∧ w42.cell? ⟨gb122, 3, none⟩ = some (.int .i64 a0_3) ∧ w42.cell? ⟨gb122, 4, none⟩ = some (.int .i64 a0_4) ∧ w42.cell? ⟨gb122, 5, none⟩ = some (.int .i64 a0_5) := hS_
        refine norm_ (a' := ?_) ?_ ?_
        rotate_left
        ·simp only [putAll, Act.put, y1, y2, y3]
         rfl
        refine one_ (i := 5) (N := some 5) (bz 9 127) rfl rfl (one_of HT_.out (by kernel_rfl)) (by decide) (fun K hK => ?_)
        refine box_step ?hg (N := 5) ?hd (cs := #[.int .i64 0, .int .i64 0]) (t := 83) ?hr ?_; (case hd => rfl); (case hg => rfl); (case hr => first | (go_simp; done) | (go_simp; rfl))
        intro gb130 hg w43 hbox hb
        have n0_ := Aside0.mk (bb (zk BK122.out) hb)
        have n1_ := Aside0.mk (bb (zk BK123.out) hb)
        have n2_ := Aside0.mk (bb (zk BK131.out) hb)
        have n3_ := Aside0.mk (below_step s2_2 hb)
        have n4_ := Aside0.mk (hbox)
        have n5_ := Aside0.mk (ns hg s2_2 : w.heap.size ≤ gb130)
        have n6_ := Aside0.mk (ns hg s2_2 : w.heap.size ≤ gb130)
        have n7_ := Aside0.mk ((nlt hg (zk BK122.out) : gb122 ≠ gb130))
        have n8_ := Aside0.mk ((ngt hg (zk BK122.out) : gb130 ≠ gb122))
        have n9_ := Aside0.mk ((nlt hg (zk BK123.out) : gb123 ≠ gb130))
        have n10_ := Aside0.mk ((ngt hg (zk BK123.out) : gb130 ≠ gb123))
        have n11_ := Aside0.mk ((nlt hg (zk BK131.out) : gb131 ≠ gb130))
        have n12_ := Aside0.mk ((ngt hg (zk BK131.out) : gb130 ≠ gb131))
        clear BK122 BK123 BK131 HB
        have BK122 := n0_
        have BK123 := n1_
        have BK131 := n2_
        have HB := n3_
        have BK130 := n4_
        have GW130 := n5_
        have GE130 := n6_
        have NB122_130 := n7_
        have NB130_122 := n8_
        have NB123_130 := n9_
        have NB130_123 := n10_
        have NB131_130 := n11_
        have NB130_131 := n12_
        clear n0_ n1_ n2_ n3_ n4_ n5_ n6_ n7_ n8_ n9_ n10_ n11_ n12_ hb hbox hg
        refine hK.out _ _ ⟨bc BK123.out 0, bc BK123.out 1, bc BK123.out 2, bc BK123.out 3, bc BK123.out 4, bc BK123.out 5, bc BK122.out 0, bc BK122.out 1, bc BK122.out 2, bc BK122.out 3, bc BK122.out 4, bc BK122.out 5⟩ (fun hHeld => ?_)
        clear hK K
        refine norm_ (a' := ?_) ?_ ?_
        rotate_left
        ·show Act.put _ (some 5) _ = _
         simp only [Act.put, y1, y2, y3, i64_w, i32_w]
         rfl
        exact norm_ s2_4 (hJ2_4_5_6 (gb130, gb131) _ ⟨hHeld, (zk BK122.out), (zk BK123.out), (zk BK130.out), (zk BK131.out), GW130.out, GE130.out, NB122_130.out, NB130_122.out, NB123_130.out, NB130_123.out, NB131_130.out, NB130_131.out, GW131.out, GE131.out, NB122_131.out, NB131_122.out, NB123_131.out, NB131_123.out, s2_6⟩)
      ·skip
       rintro gb130 w42 ⟨hS_, h0_, h1_, h2_, h3_, h4_, h5_, h6_, h7_, h8_, h9_⟩
       have n0_ : Aside0 (w42.heap[gb122]? = some (.cells #[.int .i64 a0_0, .int .i64 a0_1, .int .i64 a0_2, .int .i64 a0_3, .int .i64 a0_4, .int .i64 a0_5] 25 (0, 0))) := ⟨h0_⟩
       have n1_ : Aside0 (w42.heap[gb123]? = some (.cells #[.int .i64 a1_0, .int .i64 a1_1, .int .i64 a1_2, .int .i64 a1_3, .int .i64 a1_4, .int .i64 a1_5] 25 (0, 0))) := ⟨h1_⟩
       have n2_ : Aside0 (w42.heap[gb130]? = some (.cells #[.int .i64 0, .int .i64 0] 83 (0, 0))) := ⟨h2_⟩
       have n3_ : Aside0 (w.heap.size ≤ gb130) := ⟨h3_⟩
       have n4_ : Aside0 (w.heap.size ≤ gb130) := ⟨h4_⟩
       have n5_ : Aside0 (gb122 ≠ gb130) := ⟨h5_⟩
       have n6_ : Aside0 (gb130 ≠ gb122) := ⟨h6_⟩
       have n7_ : Aside0 (gb123 ≠ gb130) := ⟨h7_⟩
       have n8_ : Aside0 (gb130 ≠ gb123) := ⟨h8_⟩
       have n9_ : Aside0 (Below w.heap.size w w42) := ⟨h9_⟩
       clear BK122 BK123 HB h0_ h1_ h2_ h3_ h4_ h5_ h6_ h7_ h8_ h9_
       have BK122 := n0_
       have BK123 := n1_
       have BK130 := n2_
       have GW130 := n3_
       have GE130 := n4_
       have NB122_130 := n5_
       have NB130_122 := n6_
       have NB123_130 := n7_
       have NB130_123 := n8_
       have HB := n9_
       clear n0_ n1_ n2_ n3_ n4_ n5_ n6_ n7_ n8_ n9_
       have hHeld : w42.cell? ⟨gb123, 0, none⟩ = some (.int .i64 a1_0) ∧ w42.cell? ⟨gb123, 1, none⟩ = some (.int .i64 a1_1) ∧ w42.cell? ⟨gb123, 2, none⟩ = some (.int .i64 a1_2) ∧ w42.cell? ⟨gb123, 3, none⟩ = some (.int .i64 a1_3) ∧ w42.cell? ⟨gb123, 4, none⟩ = some (.int .i64 a1_4) ∧ w42.cell? ⟨gb123, 5, none⟩ = some (.int .i64 a1_5) ∧ w42.cell? ⟨gb122, 0, none⟩ = some (.int .i64 a0_0) ∧ w42.cell? ⟨gb122, 1, none⟩ = some (.int .i64 a0_1) ∧ w42.cell? ⟨gb122, 2, none⟩ = some (.int .i64 a0_2) ∧ w42.cell? ⟨gb122, 3, none⟩ = some (.int .i64 a0_3) ∧ w42.cell? ⟨gb122, 4, none⟩ = some (.int .i64 a0_4) ∧ w42.cell? ⟨gb122, 5, none⟩ = some (.int .i64 a0_5) := hS_
       refine norm_ (a' := ?_) ?_ ?_
       rotate_left
       ·simp only [putAll, Act.put, y1, y2, y3]
        rfl
       refine one_ (i := 6) (N := some 6) (bz 9 127) rfl rfl (one_of HT_.out (by kernel_rfl)) (by decide) (fun K hK => ?_)
       refine box_step ?hg (N := 6) ?hd (cs := #[.int .i64 0, .int .i64 0]) (t := 83) ?hr ?_; (case hd => rfl); (case hg => rfl); (case hr => first | (go_simp; done) | (go_simp; rfl))
       intro gb131 hg w43 hbox hb
       have n0_ := Aside0.mk (bb (zk BK122.out) hb)
       have n1_ := Aside0.mk (bb (zk BK123.out) hb)
       have n2_ := Aside0.mk (bb (zk BK130.out) hb)
       have n3_ := Aside0.mk (below_step s2_1 hb)
       have n4_ := Aside0.mk (hbox)
       have n5_ := Aside0.mk (ns hg s2_1 : w.heap.size ≤ gb131)
       have n6_ := Aside0.mk (ns hg s2_1 : w.heap.size ≤ gb131)
       have n7_ := Aside0.mk ((nlt hg (zk BK122.out) : gb122 ≠ gb131))
       have n8_ := Aside0.mk ((ngt hg (zk BK122.out) : gb131 ≠ gb122))
       have n9_ := Aside0.mk ((nlt hg (zk BK123.out) : gb123 ≠ gb131))
       have n10_ := Aside0.mk ((ngt hg (zk BK123.out) : gb131 ≠ gb123))
       have n11_ := Aside0.mk ((nlt hg (zk BK130.out) : gb130 ≠ gb131))
       have n12_ := Aside0.mk ((ngt hg (zk BK130.out) : gb131 ≠ gb130))
       clear BK122 BK123 BK130 HB
       have BK122 := n0_
       have BK123 := n1_
       have BK130 := n2_
       have HB := n3_
       have BK131 := n4_
       have GW131 := n5_
       have GE131 := n6_
       have NB122_131 := n7_
       have NB131_122 := n8_
       have NB123_131 := n9_
       have NB131_123 := n10_
       have NB130_131 := n11_
       have NB131_130 := n12_
       clear n0_ n1_ n2_ n3_ n4_ n5_ n6_ n7_ n8_ n9_ n10_ n11_ n12_ hb hbox hg
       refine hK.out _ _ ⟨bc BK123.out 0, bc BK123.out 1, bc BK123.out 2, bc BK123.out 3, bc BK123.out 4, bc BK123.out 5, bc BK122.out 0, bc BK122.out 1, bc BK122.out 2, bc BK122.out 3, bc BK122.out 4, bc BK122.out 5⟩ (fun hHeld => ?_)
       clear hK K
       refine norm_ (a' := ?_) ?_ ?_
       rotate_left
       ·show Act.put _ (some 6) _ = _
        simp only [Act.put, y1, y2, y3, i64_w, i32_w]
        rfl
       exact norm_ s2_4 (hJ2_4_5_6 (gb130, gb131) _ ⟨hHeld, (zk BK122.out), (zk BK123.out), (zk BK130.out), (zk BK131.out), GW130.out, GE130.out, NB122_130.out, NB130_122.out, NB123_130.out, NB130_123.out, NB131_130.out, NB130_131.out, GW131.out, GE131.out, NB122_131.out, NB131_122.out, NB123_131.out, NB131_123.out, s2_3⟩)
     rintro ⟨gb130, gb131⟩ w43 ⟨hS_, h0_, h1_, h2_, h3_, h4_, h5_, h6_, h7_, h8_, h9_, h10_, h11_, h12_, h13_, h14_, h15_, h16_, h17_, h18_⟩
     have n0_ : Aside0 (w43.heap[gb122]? = some (.cells #[.int .i64 a0_0, .int .i64 a0_1, .int .i64 a0_2, .int .i64 a0_3, .int .i64 a0_4, .int .i64 a0_5] 25 (0, 0))) := ⟨h0_⟩
     have n1_ : Aside0 (w43.heap[gb123]? = some (.cells #[.int .i64 a1_0, .int .i64 a1_1, .int .i64 a1_2, .int .i64 a1_3, .int .i64 a1_4, .int .i64 a1_5] 25 (0, 0))) := ⟨h1_⟩
     have n2_ : Aside0 (w43.heap[gb130]? = some (.cells #[.int .i64 0, .int .i64 0] 83 (0, 0))) := ⟨h2_⟩
     have n3_ : Aside0 (w43.heap[gb131]? = some (.cells #[.int .i64 0, .int .i64 0] 83 (0, 0))) := ⟨h3_⟩
     have n4_ : Aside0 (w.heap.size ≤ gb130) := ⟨h4_⟩
     have n5_ : Aside0 (w.heap.size ≤ gb130) := ⟨h5_⟩
     have n6_ : Aside0 (gb122 ≠ gb130) := ⟨h6_⟩
     have n7_ : Aside0 (gb130 ≠ gb122) := ⟨h7_⟩
     have n8_ : Aside0 (gb123 ≠ gb130) := ⟨h8_⟩
     have n9_ : Aside0 (gb130 ≠ gb123) := ⟨h9_⟩
     have n10_ : Aside0 (gb131 ≠ gb130) := ⟨h10_⟩
     have n11_ : Aside0 (gb130 ≠ gb131) := ⟨h11_⟩
     have n12_ : Aside0 (w.heap.size ≤ gb131) := ⟨h12_⟩
     have n13_ : Aside0 (w.heap.size ≤ gb131) := ⟨h13_⟩
     have n14_ : Aside0 (gb122 ≠ gb131) := ⟨h14_⟩
     have n15_ : Aside0 (gb131 ≠ gb122) := ⟨h15_⟩
     have n16_ : Aside0 (gb123 ≠ gb131) := ⟨h16_⟩
     have n17_ : Aside0 (gb131 ≠ gb123) := ⟨h17_⟩
     have n18_ : Aside0 (Below w.heap.size w w43) := ⟨h18_⟩
     clear BK122 BK123 HB h0_ h1_ h2_ h3_ h4_ h5_ h6_ h7_ h8_ h9_ h10_ h11_ h12_ h13_ h14_ h15_ h16_ h17_ h18_
     have BK122 := n0_
     have BK123 := n1_
     have BK130 := n2_
     have BK131 := n3_
     have GW130 := n4_
     have GE130 := n5_
     have NB122_130 := n6_
     have NB130_122 := n7_
     have NB123_130 := n8_
     have NB130_123 := n9_
     have NB131_130 := n10_
     have NB130_131 := n11_
     have GW131 := n12_
     have GE131 := n13_
     have NB122_131 := n14_
     have NB131_122 := n15_
     have NB123_131 := n16_
     have NB131_123 := n17_
     have HB := n18_
     clear n0_ n1_ n2_ n3_ n4_ n5_ n6_ n7_ n8_ n9_ n10_ n11_ n12_ n13_ n14_ n15_ n16_ n17_ n18_
     have hHeld : w43.cell? ⟨gb123, 0, none⟩ = some (.int .i64 a1_0) ∧ w43.cell? ⟨gb123, 1, none⟩ = some (.int .i64 a1_1) ∧ w43.cell? ⟨gb123, 2, none⟩ = some (.int .i64 a1_2) ∧ w43.cell? ⟨gb123, 3, none⟩ = some (.int .i64 a1_3) ∧ w43.cell? ⟨gb123, 4, none⟩ = some (.int .i64 a1_4) ∧ w43.cell? ⟨gb123, 5, none⟩ = some (.int .i64 a1_5) ∧ w43.cell? ⟨gb122, 0, none⟩ = some (.int .i64 a0_0) ∧ w43.cell? ⟨gb122, 1, none⟩ = some (.int .i64 a0_1) ∧ w43.cell? ⟨gb122, 2, none⟩ = some (.int .i64 a0_2) ∧ w43.cell? ⟨gb122, 3, none⟩ = some (.int .i64 a0_3) ∧ w43.cell? ⟨gb122, 4, none⟩ = some (.int .i64 a0_4) ∧ w43.cell? ⟨gb122, 5, none⟩ = some (.int .i64 a0_5) := hS_
     refine norm_ (a' := ?_) ?_ ?_
     rotate_left
     ·simp only [putAll, Act.put, y1, y2, y3]
      rfl
     refine one_ (i := 7) (N := none) (bz 9 255) rfl rfl (one_of HT_.out (by kernel_rfl)) (by decide) (fun K hK => ?_)
     have hs44 : w43.cell? ⟨gb130, 0, none⟩ = some (.int .i64 0) := bc BK130.out 0
     have hfs44 := blk_frozen BK130.out 0
     have hns44_0 := NB122_130.out
     have hns44_1 := NB123_130.out
     have hns44_3 := NB131_130.out
     have hms44_0 := NB130_122.out
     have hms44_1 := NB130_123.out
     have hms44_3 := NB130_131.out
     have hs45 : w43.cell? ⟨gb130, 1, none⟩ = some (.int .i64 0) := bc BK130.out 1
     have hfs45 := blk_frozen BK130.out 1
     have hns45_0 := NB122_130.out
     have hns45_1 := NB123_130.out
     have hns45_3 := NB131_130.out
     have hms45_0 := NB130_122.out
     have hms45_1 := NB130_123.out
     have hms45_3 := NB130_131.out
     refine skip_ (w1 := ?_) (by rfl) rfl ?_ ?_
     rotate_left
     ·go_simp
      rfl
     refine hK.out _ _ ⟨((cell_far (p := ⟨gb130, _, none⟩) NB123_130.out _).trans (((cell_far (p := ⟨gb130, _, none⟩) NB123_130.out _).trans (hHeld.1)))), ((cell_far (p := ⟨gb130, _, none⟩) NB123_130.out _).trans (((cell_far (p := ⟨gb130, _, none⟩) NB123_130.out _).trans (hHeld.2.1)))), ((cell_far (p := ⟨gb130, _, none⟩) NB123_130.out _).trans (((cell_far (p := ⟨gb130, _, none⟩) NB123_130.out _).trans (hHeld.2.2.1)))), ((cell_far (p := ⟨gb130, _, none⟩) NB123_130.out _).trans (((cell_far (p := ⟨gb130, _, none⟩) NB123_130.out _).trans (hHeld.2.2.2.1)))), ((cell_far (p := ⟨gb130, _, none⟩) NB123_130.out _).trans (((cell_far (p := ⟨gb130, _, none⟩) NB123_130.out _).trans (hHeld.2.2.2.2.1)))), ((cell_far (p := ⟨gb130, _, none⟩) NB123_130.out _).trans (((cell_far (p := ⟨gb130, _, none⟩) NB123_130.out _).trans (hHeld.2.2.2.2.2.1)))), ((cell_far (p := ⟨gb130, _, none⟩) NB122_130.out _).trans (((cell_far (p := ⟨gb130, _, none⟩) NB122_130.out _).trans (hHeld.2.2.2.2.2.2.1)))), ((cell_far (p := ⟨gb130, _, none⟩) NB122_130.out _).trans (((cell_far (p := ⟨gb130, _, none⟩) NB122_130.out _).trans (hHeld.2.2.2.2.2.2.2.1)))), ((cell_far (p := ⟨gb130, _, none⟩) NB122_130.out _).trans (((cell_far (p := ⟨gb130, _, none⟩) NB122_130.out _).trans (hHeld.2.2.2.2.2.2.2.2.1)))), ((cell_far (p := ⟨gb130, _, none⟩) NB122_130.out _).trans (((cell_far (p := ⟨gb130, _, none⟩) NB122_130.out _).trans (hHeld.2.2.2.2.2.2.2.2.2.1)))), ((cell_far (p := ⟨gb130, _, none⟩) NB122_130.out _).trans (((cell_far (p := ⟨gb130, _, none⟩) NB122_130.out _).trans (hHeld.2.2.2.2.2.2.2.2.2.2.1)))), ((cell_far (p := ⟨gb130, _, none⟩) NB122_130.out _).trans (((cell_far (p := ⟨gb130, _, none⟩) NB122_130.out _).trans (hHeld.2.2.2.2.2.2.2.2.2.2.2))))⟩ (fun hHeld => ?_)
     clear hK K
     refine one_ (i := 8) (N := none) (bz 9 511) rfl rfl (one_of HT_.out (by kernel_rfl)) (by decide) (fun K hK => ?_)
     have hs46 : w43.cell? ⟨gb131, 0, none⟩ = some (.int .i64 0) := bc BK131.out 0
     have hfs46 := blk_frozen BK131.out 0
     have hns46_0 := NB122_131.out
     have hns46_1 := NB123_131.out
     have hns46_2 := NB130_131.out
     have hms46_0 := NB131_122.out
     have hms46_1 := NB131_123.out
     have hms46_2 := NB131_130.out
     have hs47 : w43.cell? ⟨gb131, 1, none⟩ = some (.int .i64 0) := bc BK131.out 1
     have hfs47 := blk_frozen BK131.out 1
     have hns47_0 := NB122_131.out
     have hns47_1 := NB123_131.out
     have hns47_2 := NB130_131.out
     have hms47_0 := NB131_122.out
     have hms47_1 := NB131_123.out
     have hms47_2 := NB131_130.out
     refine skip_ (w1 := ?_) (by rfl) rfl ?_ ?_
     rotate_left
     ·go_simp
      rfl
     refine hK.out _ _ ⟨((cell_far (p := ⟨gb131, _, none⟩) NB123_131.out _).trans (((cell_far (p := ⟨gb131, _, none⟩) NB123_131.out _).trans (hHeld.1)))), ((cell_far (p := ⟨gb131, _, none⟩) NB123_131.out _).trans (((cell_far (p := ⟨gb131, _, none⟩) NB123_131.out _).trans (hHeld.2.1)))), ((cell_far (p := ⟨gb131, _, none⟩) NB123_131.out _).trans (((cell_far (p := ⟨gb131, _, none⟩) NB123_131.out _).trans (hHeld.2.2.1)))), ((cell_far (p := ⟨gb131, _, none⟩) NB123_131.out _).trans (((cell_far (p := ⟨gb131, _, none⟩) NB123_131.out _).trans (hHeld.2.2.2.1)))), ((cell_far (p := ⟨gb131, _, none⟩) NB123_131.out _).trans (((cell_far (p := ⟨gb131, _, none⟩) NB123_131.out _).trans (hHeld.2.2.2.2.1)))), ((cell_far (p := ⟨gb131, _, none⟩) NB123_131.out _).trans (((cell_far (p := ⟨gb131, _, none⟩) NB123_131.out _).trans (hHeld.2.2.2.2.2.1)))), ((cell_far (p := ⟨gb131, _, none⟩) NB122_131.out _).trans (((cell_far (p := ⟨gb131, _, none⟩) NB122_131.out _).trans (hHeld.2.2.2.2.2.2.1)))), ((cell_far (p := ⟨gb131, _, none⟩) NB122_131.out _).trans (((cell_far (p := ⟨gb131, _, none⟩) NB122_131.out _).trans (hHeld.2.2.2.2.2.2.2.1)))), ((cell_far (p := ⟨gb131, _, none⟩) NB122_131.out _).trans (((cell_far (p := ⟨gb131, _, none⟩) NB122_131.out _).trans (hHeld.2.2.2.2.2.2.2.2.1)))), ((cell_far (p := ⟨gb131, _, none⟩) NB122_131.out _).trans (((cell_far (p := ⟨gb131, _, none⟩) NB122_131.out _).trans (hHeld.2.2.2.2.2.2.2.2.2.1)))), ((cell_far (p := ⟨gb131, _, none⟩) NB122_131.out _).trans (((cell_far (p := ⟨gb131, _, none⟩) NB122_131.out _).trans (hHeld.2.2.2.2.2.2.2.2.2.2.1)))), ((cell_far (p := ⟨gb131, _, none⟩) NB122_131.out _).trans (((cell_far (p := ⟨gb131, _, none⟩) NB122_131.out _).trans (hHeld.2.2.2.2.2.2.2.2.2.2.2))))⟩ (fun hHeld => ?_)
     clear hK K
     refine done_ (done_of HT_.out (by kernel_rfl)) ?_
     try go_wp2
     have n0_ : Aside0 (((((w43.setCell ⟨gb130, 0, none⟩ (.int .i64 t126)).setCell ⟨gb130, 1, none⟩ (.int .i64 t127)).setCell ⟨gb131, 0, none⟩ (.int .i64 t128)).setCell ⟨gb131, 1, none⟩ (.int .i64 t129)).heap[gb122]? = some (.cells #[.int .i64 a0_0, .int .i64 a0_1, .int .i64 a0_2, .int .i64 a0_3, .int .i64 a0_4, .int .i64 a0_5] 25 (0, 0))) := ⟨by (with_reducible repeat (first | refine blk_drewN ?_ _ | refine blk_drew ?_ | refine blk_alloc ?_ _)); refine blk_far ?_ NB122_131.out _; (with_reducible repeat (first | refine blk_drewN ?_ _ | refine blk_drew ?_ | refine blk_alloc ?_ _)); refine blk_far ?_ NB122_131.out _; (with_reducible repeat (first | refine blk_drewN ?_ _ | refine blk_drew ?_ | refine blk_alloc ?_ _)); refine blk_far ?_ NB122_130.out _; (with_reducible repeat (first | refine blk_drewN ?_ _ | refine blk_drew ?_ | refine blk_alloc ?_ _)); refine blk_far ?_ NB122_130.out _; (with_reducible repeat (first | refine blk_drewN ?_ _ | refine blk_drew ?_ | refine blk_alloc ?_ _)); exact BK122.out⟩
     have n1_ : Aside0 (((((w43.setCell ⟨gb130, 0, none⟩ (.int .i64 t126)).setCell ⟨gb130, 1, none⟩ (.int .i64 t127)).setCell ⟨gb131, 0, none⟩ (.int .i64 t128)).setCell ⟨gb131, 1, none⟩ (.int .i64 t129)).heap[gb123]? = some (.cells #[.int .i64 a1_0, .int .i64 a1_1, .int .i64 a1_2, .int .i64 a1_3, .int .i64 a1_4, .int .i64 a1_5] 25 (0, 0))) := ⟨by (with_reducible repeat (first | refine blk_drewN ?_ _ | refine blk_drew ?_ | refine blk_alloc ?_ _)); refine blk_far ?_ NB123_131.out _; (with_reducible repeat (first | refine blk_drewN ?_ _ | refine blk_drew ?_ | refine blk_alloc ?_ _)); refine blk_far ?_ NB123_131.out _; (with_reducible repeat (first | refine blk_drewN ?_ _ | refine blk_drew ?_ | refine blk_alloc ?_ _)); refine blk_far ?_ NB123_130.out _; (with_reducible repeat (first | refine blk_drewN ?_ _ | refine blk_drew ?_ | refine blk_alloc ?_ _)); refine blk_far ?_ NB123_130.out _; (with_reducible repeat (first | refine blk_drewN ?_ _ | refine blk_drew ?_ | refine blk_alloc ?_ _)); exact BK123.out⟩
     have n2_ : Aside0 (((((w43.setCell ⟨gb130, 0, none⟩ (.int .i64 t126)).setCell ⟨gb130, 1, none⟩ (.int .i64 t127)).setCell ⟨gb131, 0, none⟩ (.int .i64 t128)).setCell ⟨gb131, 1, none⟩ (.int .i64 t129)).heap[gb130]? = some (.cells #[.int .i64 t126, .int .i64 t127] 83 (0, 0))) := ⟨by (with_reducible repeat (first | refine blk_drewN ?_ _ | refine blk_drew ?_ | refine blk_alloc ?_ _)); refine blk_far ?_ NB130_131.out _; (with_reducible repeat (first | refine blk_drewN ?_ _ | refine blk_drew ?_ | refine blk_alloc ?_ _)); refine blk_far ?_ NB130_131.out _; (with_reducible repeat (first | refine blk_drewN ?_ _ | refine blk_drew ?_ | refine blk_alloc ?_ _)); refine blk_put (cs := #[.int .i64 t126, .int .i64 0]) ?_ 1 _ rfl; (with_reducible repeat (first | refine blk_drewN ?_ _ | refine blk_drew ?_ | refine blk_alloc ?_ _)); refine blk_put (cs := #[.int .i64 0, .int .i64 0]) ?_ 0 _ rfl; (with_reducible repeat (first | refine blk_drewN ?_ _ | refine blk_drew ?_ | refine blk_alloc ?_ _)); exact BK130.out⟩
     have n3_ : Aside0 (((((w43.setCell ⟨gb130, 0, none⟩ (.int .i64 t126)).setCell ⟨gb130, 1, none⟩ (.int .i64 t127)).setCell ⟨gb131, 0, none⟩ (.int .i64 t128)).setCell ⟨gb131, 1, none⟩ (.int .i64 t129)).heap[gb131]? = some (.cells #[.int .i64 t128, .int .i64 t129] 83 (0, 0))) := ⟨by (with_reducible repeat (first | refine blk_drewN ?_ _ | refine blk_drew ?_ | refine blk_alloc ?_ _)); refine blk_put (cs := #[.int .i64 t128, .int .i64 0]) ?_ 1 _ rfl; (with_reducible repeat (first | refine blk_drewN ?_ _ | refine blk_drew ?_ | refine blk_alloc ?_ _)); refine blk_put (cs := #[.int .i64 0, .int .i64 0]) ?_ 0 _ rfl; (with_reducible repeat (first | refine blk_drewN ?_ _ | refine blk_drew ?_ | refine blk_alloc ?_ _)); refine blk_far ?_ NB131_130.out _; (with_reducible repeat (first | refine blk_drewN ?_ _ | refine blk_drew ?_ | refine blk_alloc ?_ _)); refine blk_far ?_ NB131_130.out _; (with_reducible repeat (first | refine blk_drewN ?_ _ | refine blk_drew ?_ | refine blk_alloc ?_ _)); exact BK131.out⟩
     have n4_ : Aside0 (Below w.heap.size w ((((w43.setCell ⟨gb130, 0, none⟩ (.int .i64 t126)).setCell ⟨gb130, 1, none⟩ (.int .i64 t127)).setCell ⟨gb131, 0, none⟩ (.int .i64 t128)).setCell ⟨gb131, 1, none⟩ (.int .i64 t129))) := ⟨by repeat (first | (with_reducible first | exact HB.out | apply below_alloc | apply pw_below_drewN | apply below_drew1 | refine below_set ?_ GE122.out | refine below_set ?_ GE123.out | refine below_set ?_ GE130.out | refine below_set ?_ GE131.out) | exact HB.out)⟩
     (try clear BK122)
     (try clear BK123)
     (try clear BK130)
     (try clear BK131)
     (try clear HB)
     generalize ((((w43.setCell ⟨gb130, 0, none⟩ (.int .i64 t126)).setCell ⟨gb130, 1, none⟩ (.int .i64 t127)).setCell ⟨gb131, 0, none⟩ (.int .i64 t128)).setCell ⟨gb131, 1, none⟩ (.int .i64 t129)) = w48 at n0_ n1_ n2_ n3_ n4_ ⊢
     have BK122 := n0_
     have BK123 := n1_
     have BK130 := n2_
     have BK131 := n3_
     have HB := n4_
     clear n0_ n1_ n2_ n3_ n4_
     have n0_ := Aside0.mk (blk_drew BK122.out)
     have n1_ := Aside0.mk (blk_drew BK123.out)
     have n2_ := Aside0.mk (blk_drew BK130.out)
     have n3_ := Aside0.mk (blk_drew BK131.out)
     have n4_ := Aside0.mk (below_drew1 HB.out)
     clear BK122 BK123 BK130 BK131 HB
     have BK122 := n0_
     have BK123 := n1_
     have BK130 := n2_
     have BK131 := n3_
     have HB := n4_
     clear n0_ n1_ n2_ n3_ n4_
     refine start_ (n := 8) (S := fun w' => w'.cell? ⟨gb130, 0, none⟩ = some (.int .i64 t126) ∧ w'.cell? ⟨gb130, 1, none⟩ = some (.int .i64 t127) ∧ w'.cell? ⟨gb131, 0, none⟩ = some (.int .i64 t128) ∧ w'.cell? ⟨gb131, 1, none⟩ = some (.int .i64 t129)) (ds := []) #[false, false, false, false, false, false, false, false] (by kernel_rfl) rfl rfl ⟨bc BK130.out 0, bc BK130.out 1, bc BK131.out 0, bc BK131.out 1⟩ (fun hHeld => ?_); refine with_tabW spec_Behind.tab4 spec_Behind.bits4 (fun HT_ HW_ => ?_)
     generalize w48.drew = w49 at BK122 BK123 BK130 BK131 HB hHeld ⊢
     refine take_ (i := 0) (N := some 22) (v := ?_) (a' := ?_) (bz 8 1) rfl rfl (take_ofW HT_.out HW_.out (by kernel_rfl)) (fun _ _ _ h => h) (Or.inl ⟨by rfl, ?_⟩) hHeld ?_ ?_
     rotate_left
     ·rintro w' ⟨s0, s1, s2, s3⟩
      go_simp
      with_reducible rfl
     rotate_left
     ·simp only [Act.put, y1, y2, y3, i64_w, i32_w]
      rfl
     refine take_ (i := 1) (N := some 23) (v := ?_) (a' := ?_) (bz 8 3) rfl rfl (take_ofW HT_.out HW_.out (by kernel_rfl)) (fun _ _ _ h => h) (Or.inl ⟨by rfl, ?_⟩) hHeld ?_ ?_
     rotate_left
     ·rintro w' ⟨s0, s1, s2, s3⟩
      go_simp
      with_reducible rfl
     rotate_left
     ·simp only [Act.put, y1, y2, y3, i64_w, i32_w]
      rfl
     refine take_ (i := 3) (N := some 25) (v := ?_) (a' := ?_) (bz 8 11) rfl rfl (take_ofW HT_.out HW_.out (by kernel_rfl)) (fun _ _ _ h => h) (Or.inl ⟨by rfl, ?_⟩) hHeld ?_ ?_
     rotate_left
     ·rintro w' ⟨s0, s1, s2, s3⟩
      go_simp
      with_reducible rfl
     rotate_left
     ·simp only [Act.put, y1, y2, y3, i64_w, i32_w]
      rfl
     refine take_ (i := 4) (N := some 26) (v := ?_) (a' := ?_) (bz 8 27) rfl rfl (take_ofW HT_.out HW_.out (by kernel_rfl)) (fun _ _ _ h => h) (Or.inl ⟨by rfl, ?_⟩) hHeld ?_ ?_
     rotate_left
     ·rintro w' ⟨s0, s1, s2, s3⟩
      go_simp
      with_reducible rfl
     rotate_left
     ·simp only [Act.put, y1, y2, y3, i64_w, i32_w]
      rfl
     refine one_ (i := 2) (N := some 24) (bz 8 31) rfl rfl (one_of HT_.out (by kernel_rfl)) (by decide) (fun K hK => ?_)
     refine goes_ Try.func67 (by kernel_rfl) rfl #[.agg #[.int .i64 t126, .int .i64 t127], .agg #[.int .i64 t128, .int .i64 t129]] (by rfl) rfl rfl s2_5 ?_
     with_reducible refine (spec_l8Cross.calls t126 t127 t128 t129 t132 _ A20.out).mono ?_
     rintro e w50 ⟨rfl, hb⟩
     refine ⟨_, rfl, ?_⟩
     have n0_ := Aside0.mk (bb (zk BK122.out) hb)
     have n1_ := Aside0.mk (bb (zk BK123.out) hb)
     have n2_ := Aside0.mk (bb (zk BK130.out) hb)
     have n3_ := Aside0.mk (bb (zk BK131.out) hb)
     have n4_ := Aside0.mk (below_step s2_3 hb)
     clear BK122 BK123 BK130 BK131 HB
     have BK122 := n0_
     have BK123 := n1_
     have BK130 := n2_
     have BK131 := n3_
     have HB := n4_
     clear n0_ n1_ n2_ n3_ n4_
     (try clear hb)
     (try clear hb2)
     (try clear hk)
     (try clear hi)
     refine hK.out _ _ ⟨bc BK130.out 0, bc BK130.out 1, bc BK131.out 0, bc BK131.out 1⟩ (fun hHeld => ?_)
     clear hK K
     refine norm_ (a' := ?_) ?_ ?_
     rotate_left
     ·show Act.put _ (some 24) _ = _
      simp only [Act.put, y1, y2, y3, i64_w, i32_w]
      rfl
     refine one_ (i := 5) (N := some 27) (bz 8 63) rfl rfl (one_of HT_.out (by kernel_rfl)) (by decide) (fun K hK => ?_)
     refine goes_ Try.func68 (by kernel_rfl) rfl #[.agg #[.int .i64 t126, .int .i64 t127], .agg #[.int .i64 t128, .int .i64 t129]] (by rfl) rfl rfl s2_5 ?_
     with_reducible refine (spec_l8Dot.calls t126 t127 t128 t129 t133 _ A21.out).mono ?_
     rintro e w51 ⟨rfl, hb⟩
     refine ⟨_, rfl, ?_⟩
     have n0_ := Aside0.mk (bb (zk BK122.out) hb)
     have n1_ := Aside0.mk (bb (zk BK123.out) hb)
     have n2_ := Aside0.mk (bb (zk BK130.out) hb)
     have n3_ := Aside0.mk (bb (zk BK131.out) hb)
     have n4_ := Aside0.mk (below_step s2_3 hb)
     clear BK122 BK123 BK130 BK131 HB
     have BK122 := n0_
     have BK123 := n1_
     have BK130 := n2_
     have BK131 := n3_
     have HB := n4_
     clear n0_ n1_ n2_ n3_ n4_
     (try clear hb)
     (try clear hb2)
     (try clear hk)
     (try clear hi)
     refine hK.out _ _ ⟨bc BK130.out 0, bc BK130.out 1, bc BK131.out 0, bc BK131.out 1⟩ (fun hHeld => ?_)
     clear hK K
     refine norm_ (a' := ?_) ?_ ?_
     rotate_left
     ·show Act.put _ (some 27) _ = _
      simp only [Act.put, y1, y2, y3, i64_w, i32_w]
      rfl
     refine pure_ (i := 6) (N := some 7) (v := ?_) (a' := ?_) (bz 8 127) rfl rfl (any_of HT_.out (by kernel_rfl)) (fun _ _ _ h => h) (Or.inl ⟨by rfl, ?_⟩) ?_ ?_
     rotate_left
     ·intro w'
      go_simp
      with_reducible rfl
     rotate_left
     ·simp only [Act.put, y1, y2, y3, i64_w, i32_w]
      rfl
     refine pure_ (i := 7) (N := some 8) (v := ?_) (a' := ?_) (bz 8 255) rfl rfl (any_of HT_.out (by kernel_rfl)) (fun _ _ _ h => h) (Or.inl ⟨by rfl, ?_⟩) ?_ ?_
     rotate_left
     ·intro w'
      go_simp
      with_reducible rfl
     rotate_left
     ·simp only [Act.put, y1, y2, y3, i64_w, i32_w]
      rfl
     refine done_ (done_of HT_.out (by kernel_rfl)) ?_
     try go_wp2
     go_ret
     exact ⟨by first | rfl | (simp [errW_none, errW_some] <;> rfl) | (simp [*, errW_none, errW_some] <;> rfl), by repeat (first | (with_reducible first | exact HB.out | apply below_alloc | apply pw_below_drewN | apply below_drew1 | refine below_set ?_ GE122.out | refine below_set ?_ GE123.out | refine below_set ?_ GE130.out | refine below_set ?_ GE131.out) | exact HB.out)⟩

end Go.Proofs.Ytfbokdbaondjdaa.PFnExactBehind
