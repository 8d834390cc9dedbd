import Derived.Test.YtfbokdbaondjdaaQBehind0
import Derived.Test.YtfbokdbaondjdaaCy
import Derived.Test.YtfbokdbaondjdaaQBehind3
namespace Go.Proofs.Ytfbokdbaondjdaa.PFnExactBehind
open Go.RowKit Go.Proofs.YtfbokdbaondjdaaW.PrintWords Go.Proofs.YtfbokdbaondjdaaW.PrintLast Go.Proofs.YtfbokdbaondjdaaW.PrintMore Go.Proofs.Ytfbokdbaondjdaa.Cz
attribute [local go_sem] max2_int min2_int max_two min_two max_three min_three max_four min_four
set_option linter.unusedVariables false
set_option linter.unusedSimpArgs false

theorem s4_0 {p : Prop} (h : p := by repeat (first | (with_reducible first | exact HB.out | apply below_alloc | apply pw_below_drewN | apply below_drew1 | refine below_set ?_ GE155.out | refine below_set ?_ GE156.out) | exact HB.out)) : p := h
theorem s4_1 {p : Prop} (h : p := by repeat (first | (with_reducible first | exact HB.out | apply below_alloc | apply pw_below_drewN | apply below_drew1 | refine below_set ?_ GE155.out | refine below_set ?_ GE156.out | refine below_set ?_ GE163.out) | exact HB.out)) : p := h
theorem s4_2 {p : Prop} (h : p := by repeat (first | (with_reducible first | exact HB.out | apply below_alloc | apply pw_below_drewN | apply below_drew1 | refine below_set ?_ GE155.out | refine below_set ?_ GE156.out | refine below_set ?_ GE164.out) | exact HB.out)) : p := h
theorem s4_3 {p : Prop} (h : p := by repeat (first | (with_reducible first | exact HB.out | apply below_alloc | apply pw_below_drewN | apply below_drew1 | refine below_set ?_ GE155.out | refine below_set ?_ GE156.out | refine below_set ?_ GE163.out | refine below_set ?_ GE164.out) | exact HB.out)) : p := h
theorem s4_4 {p : Prop} (h : p := by first | (simp only [putAll, Act.put, y1, y2, y3]; done) | (simp only [putAll, Act.put, y1, y2, y3]; rfl)) : p := h
theorem s4_5 {p : Prop} (h : p := by (try simp only [List.map_toArray, List.map_cons, List.map_nil]); first | done | rfl | (simp only [List.length_drop, List.length_take]; rfl)) : p := h
theorem s4_6 {p : Prop} (h : p := by repeat (first | (with_reducible first | exact HB.out | apply below_alloc | apply pw_below_drewN | apply below_drew1 | refine below_set ?_ GE155.out | refine below_set ?_ GE156.out | refine below_set ?_ GE164.out | refine below_set ?_ GE163.out) | exact HB.out)) : p := h
/-! ### impl_Behind: function 29 -/
def impl_Behind.j0 : Nat → Bool → Int → Int → Int → Int → Int → Int → Int → Int → Int → Int → Int → Int → Option (Bool)
 | 0, _, _, _, _, _, _, _, _, _, _, _, _, _ => none
 | k + 1, x14, x156000, x156001, x156002, x156003, x156004, x156005, x157000, x157001, x157002, x157003, x157004, x157005 => if x14 = true then (some false) else ((impl_bearing.f x156000 x156001 x156002 x156003 x156004 x156005 x157000 x157001 x157002 x157003 x157004 x157005).bind fun bt159 => ((impl_Ship_way.f x157000 x157001 x157002 x157003 x157004 x157005).bind fun bt161 => ((impl_vec_dot.f bt159.1 bt159.2 bt161.1 bt161.2).bind fun t165 => (if t165 < 0 then ((impl_vec_cross.f bt159.1 bt159.2 bt161.1 bt161.2).bind fun t166 => ((impl_square.f t166).bind fun t167 => ((impl_vec_dot.f bt159.1 bt159.2 bt161.1 bt161.2).bind fun t168 => ((impl_square.f t168).bind fun t169 => (some (decide ((IntKind.u64.wrap (t167 * 5)) ≤ (IntKind.u64.wrap (t169 * 29))))))))) else (some false)))))
def impl_Behind.f (k : Nat) (a0_0 : Int) (a0_1 : Int) (a0_2 : Int) (a0_3 : Int) (a0_4 : Int) (a0_5 : Int) (a1_0 : Int) (a1_1 : Int) (a1_2 : Int) (a1_3 : Int) (a1_4 : Int) (a1_5 : Int) : Option (Bool) := (impl_ShipOk.f a0_0 a0_1 a0_2 a0_3 a0_4 a0_5).bind fun t157 => (if t157 = true then ((impl_ShipOk.f a1_0 a1_1 a1_2 a1_3 a1_4 a1_5).bind fun t158 => (impl_Behind.j0 k (!t158) a0_0 a0_1 a0_2 a0_3 a0_4 a0_5 a1_0 a1_1 a1_2 a1_3 a1_4 a1_5)) else (impl_Behind.j0 k true a0_0 a0_1 a0_2 a0_3 a0_4 a0_5 a1_0 a1_1 a1_2 a1_3 a1_4 a1_5))
theorem impl_Behind.mono_l : ∀ k, (∀ y0 y1 y2 y3 y4 y5 y6 y7 y8 y9 y10 y11 y12, LeO (impl_Behind.j0 k y0 y1 y2 y3 y4 y5 y6 y7 y8 y9 y10 y11 y12) (impl_Behind.j0 (k + 1) y0 y1 y2 y3 y4 y5 y6 y7 y8 y9 y10 y11 y12))
 | 0 => fun _ _ _ _ _ _ _ _ _ _ _ _ _ r h => by simp [impl_Behind.j0] at h
 | k + 1 => by
  have ih0 := impl_Behind.mono_l k
  ·intro y0 y1 y2 y3 y4 y5 y6 y7 y8 y9 y10 y11 y12
   unfold impl_Behind.j0
   repeat' first
   | (with_reducible exact ih0 _ _ _ _ _ _ _ _ _ _ _ _ _)
   | (with_reducible exact LeO.refl _)
   | (with_reducible exact LeO.none _)
   | (with_reducible refine LeO.ite ?_ ?_)
   | (with_reducible refine LeO.bind ?_ (fun _ => ?_))
   | exact ih0 _ _ _ _ _ _ _ _ _ _ _ _ _
   | exact LeO.none _
   | refine LeO.ite ?_ ?_
   | refine LeO.bind ?_ (fun _ => ?_)
theorem impl_Behind.mono : ∀ a0 a1 a2 a3 a4 a5 a6 a7 a8 a9 a10 a11 k, LeO (impl_Behind.f k a0 a1 a2 a3 a4 a5 a6 a7 a8 a9 a10 a11) (impl_Behind.f (k + 1) a0 a1 a2 a3 a4 a5 a6 a7 a8 a9 a10 a11) := by
 intro a0 a1 a2 a3 a4 a5 a6 a7 a8 a9 a10 a11 k
 have ih0 := impl_Behind.mono_l k
 unfold impl_Behind.f
 repeat' first
   | (with_reducible exact ih0 _ _ _ _ _ _ _ _ _ _ _ _ _)
   | (with_reducible exact LeO.refl _)
   | (with_reducible exact LeO.none _)
   | (with_reducible refine LeO.ite ?_ ?_)
   | (with_reducible refine LeO.bind ?_ (fun _ => ?_))
   | exact ih0 _ _ _ _ _ _ _ _ _ _ _ _ _
   | exact LeO.none _
   | refine LeO.ite ?_ ?_
   | refine LeO.bind ?_ (fun _ => ?_)
def impl_Behind.T3 : Bool × List (List Nat × List Nat) := (true, [([], []), ([], []), ([0, 1], [0, 1]), ([], []), ([3, 2], [3]), ([], []), ([], []), ([5, 2, 4, 0, 1, 2, 5, 6], [2, 5]), ([6, 4, 7, 0, 1, 2, 3, 4, 5, 6, 7], [4, 6])])
def impl_Behind.B3 : List Nat := [0, 0, 3, 0, 15, 0, 0, 127, 255]
theorem impl_Behind.tab3 : rtab .any (opsOf Try.f29 3) = impl_Behind.T3 := by kernel_rfl
theorem impl_Behind.bits3 : waitsOk impl_Behind.T3.2 impl_Behind.B3 = true := by kernel_rfl
def impl_Behind.T4 : Bool × List (List Nat × List Nat) := (true, [([], []), ([], []), ([0, 1], [0, 1]), ([2], [2]), ([3, 2], [3]), ([4], [4]), ([4], [4]), ([5, 6, 4, 4], [4, 5, 6]), ([7, 7, 4], [4, 7]), ([8, 4], [4, 8]), ([4], [4]), ([4], [4]), ([10, 11, 8, 4], [4, 10, 11]), ([12, 12, 4], [4, 12]), ([13, 4], [4, 13]), ([9, 14, 4], [4, 9, 14]), ([4, 15], [4, 15]), ([16, 13, 0, 1, 2, 3, 4, 5, 6, 7, 8, 9, 10, 11, 12, 13, 14, 15, 16], [16])])
def impl_Behind.B4 : List Nat := [0, 0, 3, 7, 15, 31, 31, 127, 255, 511, 31, 31, 3583, 7679, 15871, 32767, 65535, 131071]
theorem impl_Behind.tab4 : rtab .any (opsOf Try.f29 4) = impl_Behind.T4 := by kernel_rfl
theorem impl_Behind.bits4 : waitsOk impl_Behind.T4.2 impl_Behind.B4 = true := by kernel_rfl
set_option maxHeartbeats 8000000 in
set_option maxRecDepth 100000 in
theorem impl_Behind.calls (k : Nat) (a0_0 : Int) (a0_1 : Int) (a0_2 : Int) (a0_3 : Int) (a0_4 : Int) (a0_5 : Int) (a1_0 : Int) (a1_1 : Int) (a1_2 : Int) (a1_3 : Int) (a1_4 : Int) (a1_5 : Int) (r : Bool) (w : World) (h : impl_Behind.f k a0_0 a0_1 a0_2 a0_3 a0_4 a0_5 a1_0 a1_1 a1_2 a1_3 a1_4 a1_5 = some r) :
  Calls Try.prog 29 #[.agg #[.int .i64 a0_0, .int .i64 a0_1, .int .i64 a0_2, .int .i64 a0_3, .int .i64 a0_4, .int .i64 a0_5], .agg #[.int .i64 a1_0, .int .i64 a1_1, .int .i64 a1_2, .int .i64 a1_3, .int .i64 a1_4, .int .i64 a1_5]] w fun e w' => e = .returned (.bool r) ∧ Below w.heap.size w w' := by
 have hu25 := Try.underlying25
 have hu89 := Try.underlying89
 have HB := Aside0.mk (Below.refl w.heap.size w)
 have H : ((impl_ShipOk.f a0_0 a0_1 a0_2 a0_3 a0_4 a0_5).bind fun t157 => (if t157 = true then ((impl_ShipOk.f a1_0 a1_1 a1_2 a1_3 a1_4 a1_5).bind fun t158 => (impl_Behind.j0 k (!t158) a0_0 a0_1 a0_2 a0_3 a0_4 a0_5 a1_0 a1_1 a1_2 a1_3 a1_4 a1_5)) else (impl_Behind.j0 k true a0_0 a0_1 a0_2 a0_3 a0_4 a0_5 a1_0 a1_1 a1_2 a1_3 a1_4 a1_5))) = some r := h
 clear h
 have HC3 := Aside0.mk H
 clear H
 go_enter Try.func29, Try.ntmps29
 go_upto_region 1 with (first | ((with_reducible refine gate_dst (N := 2) rfl ?_); refine box_event ?hg (N := 2) ?hd (cs := #[.int .i64 a0_0, .int .i64 a0_1, .int .i64 a0_2, .int .i64 a0_3, .int .i64 a0_4, .int .i64 a0_5]) (t := 25) ?hr ?_; (case hd => rfl); (case hg => rfl); (case hr => first | (go_simp; done) | (go_simp; rfl)); intro gb155 hg w4 hbox hb; have n0_ := Aside0.mk (below_step (by repeat (first | (with_reducible first | exact HB.out | apply below_alloc | apply pw_below_drewN | apply below_drew1) | exact HB.out)) hb); have n1_ := Aside0.mk (hbox); have n2_ := Aside0.mk (ns hg (by repeat (first | (with_reducible first | exact HB.out | apply below_alloc | apply pw_below_drewN | apply below_drew1) | exact HB.out)) : w.heap.size ≤ gb155); have n3_ := Aside0.mk (ns hg (by repeat (first | (with_reducible first | exact HB.out | apply below_alloc | apply pw_below_drewN | apply below_drew1) | exact HB.out)) : w.heap.size ≤ gb155); clear HB; have HB := n0_; have BK155 := n1_; have GW155 := n2_; have GE155 := n3_; clear n0_ n1_ n2_ n3_; clear hb hbox hg) | ((with_reducible refine gate_dst (N := 3) rfl ?_); refine box_event ?hg (N := 3) ?hd (cs := #[.int .i64 a1_0, .int .i64 a1_1, .int .i64 a1_2, .int .i64 a1_3, .int .i64 a1_4, .int .i64 a1_5]) (t := 25) ?hr ?_; (case hd => rfl); (case hg => rfl); (case hr => first | (go_simp; done) | (go_simp; rfl)); intro gb156 hg w5 hbox hb; have n0_ := Aside0.mk (bb (zk BK155.out) hb); have n1_ := Aside0.mk (below_step (by repeat (first | (with_reducible first | exact HB.out | apply below_alloc | apply pw_below_drewN | apply below_drew1 | refine below_set ?_ GE155.out) | exact HB.out)) hb); have n2_ := Aside0.mk (hbox); have n3_ := Aside0.mk (ns hg (by repeat (first | (with_reducible first | exact HB.out | apply below_alloc | apply pw_below_drewN | apply below_drew1 | refine below_set ?_ GE155.out) | exact HB.out)) : w.heap.size ≤ gb156); have n4_ := Aside0.mk (ns hg (by repeat (first | (with_reducible first | exact HB.out | apply below_alloc | apply pw_below_drewN | apply below_drew1 | refine below_set ?_ GE155.out) | exact HB.out)) : w.heap.size ≤ gb156); have n5_ := Aside0.mk ((nlt hg (zk BK155.out) : gb155 ≠ gb156)); have n6_ := Aside0.mk ((ngt hg (zk BK155.out) : gb156 ≠ gb155)); clear BK155; clear HB; have BK155 := n0_; have HB := n1_; have BK156 := n2_; have GW156 := n3_; have GE156 := n4_; have NB155_156 := n5_; have NB156_155 := n6_; clear n0_ n1_ n2_ n3_ n4_ n5_ n6_; clear hb hbox hg))
 (try simp only [Act.put, List.setIfInBounds_toArray, List.set_cons_zero, List.set_cons_succ])
 go_cut [14] (fun v14 wc => ∃ (kq : Nat) (x14_2 : Bool), v14 = .bool x14_2 ∧ Aside0 (impl_Behind.j0 kq x14_2 a0_0 a0_1 a0_2 a0_3 a0_4 a0_5 a1_0 a1_1 a1_2 a1_3 a1_4 a1_5 = some r) ∧ Aside0 (kq ≤ k) ∧ Aside0 (wc.heap[gb155]? = some (.cells #[.int .i64 a0_0, .int .i64 a0_1, .int .i64 a0_2, .int .i64 a0_3, .int .i64 a0_4, .int .i64 a0_5] 25 (0, 0))) ∧ Aside0 (wc.heap[gb156]? = some (.cells #[.int .i64 a1_0, .int .i64 a1_1, .int .i64 a1_2, .int .i64 a1_3, .int .i64 a1_4, .int .i64 a1_5] 25 (0, 0))) ∧ Aside0 (Below w.heap.size w wc))
 case first =>
  have H := HC3.out
  clear HC3
  replace H := Option.bind_eq_some_iff.mp H
  obtain ⟨t157, A60, H⟩ := H
  replace H : (if t157 = true then ((impl_ShipOk.f a1_0 a1_1 a1_2 a1_3 a1_4 a1_5).bind fun t158 => (impl_Behind.j0 k (!t158) a0_0 a0_1 a0_2 a0_3 a0_4 a0_5 a1_0 a1_1 a1_2 a1_3 a1_4 a1_5)) else (impl_Behind.j0 k true a0_0 a0_1 a0_2 a0_3 a0_4 a0_5 a1_0 a1_1 a1_2 a1_3 a1_4 a1_5)) = some r := H
  have A6 := Aside0.mk A60
  clear A60
  by_cases c7 : t157 = true
  ·subst c7
   have H1 : ((impl_ShipOk.f a1_0 a1_1 a1_2 a1_3 a1_4 a1_5).bind fun t158 => (impl_Behind.j0 k (!t158) a0_0 a0_1 a0_2 a0_3 a0_4 a0_5 a1_0 a1_1 a1_2 a1_3 a1_4 a1_5)) = some r := by rw [if_pos rfl] at H; exact H
   clear H
   have H := H1
   clear H1
   replace H := Option.bind_eq_some_iff.mp H
   obtain ⟨t158, A80, H⟩ := H
   replace H : (impl_Behind.j0 k (!t158) a0_0 a0_1 a0_2 a0_3 a0_4 a0_5 a1_0 a1_1 a1_2 a1_3 a1_4 a1_5) = some r := H
   have A8 := Aside0.mk A80
   clear A80
   have H' := Aside0.mk H
   clear H
   have hnb9 := NB155_156.out
   have hnc9 := NB156_155.out
   have hcz10_0 : w5.cell? ⟨gb155, 0, none⟩ = some (.int .i64 a0_0) := bc BK155.out 0
   have hcz10_1 : w5.cell? ⟨gb155, 1, none⟩ = some (.int .i64 a0_1) := bc BK155.out 1
   have hcz10_2 : w5.cell? ⟨gb155, 2, none⟩ = some (.int .i64 a0_2) := bc BK155.out 2
   have hcz10_3 : w5.cell? ⟨gb155, 3, none⟩ = some (.int .i64 a0_3) := bc BK155.out 3
   have hcz10_4 : w5.cell? ⟨gb155, 4, none⟩ = some (.int .i64 a0_4) := bc BK155.out 4
   have hcz10_5 : w5.cell? ⟨gb155, 5, none⟩ = some (.int .i64 a0_5) := bc BK155.out 5
   have hfz10_0 := blk_frozen BK155.out 0
   have hfz10_1 := blk_frozen BK155.out 1
   have hfz10_2 := blk_frozen BK155.out 2
   have hfz10_3 := blk_frozen BK155.out 3
   have hfz10_4 := blk_frozen BK155.out 4
   have hfz10_5 := blk_frozen BK155.out 5
   go_wp2_with (first | ((with_reducible refine gate_callee (f := 17) rfl ?_); refine goesL_ (some 8) rfl rfl Try.func17 (by kernel_rfl) rfl #[.agg #[.int .i64 a0_0, .int .i64 a0_1, .int .i64 a0_2, .int .i64 a0_3, .int .i64 a0_4, .int .i64 a0_5]] rfl s4_5 ?_; (with_reducible refine (impl_ShipOk.calls a0_0 a0_1 a0_2 a0_3 a0_4 a0_5 true _ A6.out).mono ?_); rintro e w11 ⟨rfl, hb⟩; refine ⟨_, rfl, ?_⟩; have n0_ := Aside0.mk (bb (zk BK155.out) hb); have n1_ := Aside0.mk (bb (zk BK156.out) hb); have n2_ := Aside0.mk (below_step s4_0 hb); clear BK155; clear BK156; clear HB; have BK155 := n0_; have BK156 := n1_; have HB := n2_; clear n0_ n1_ n2_; (try clear hb); (try clear hb2); (try clear hk); (try clear hi); have hcz12_0 : w11.cell? ⟨gb156, 0, none⟩ = some (.int .i64 a1_0) := bc BK156.out 0; have hcz12_1 : w11.cell? ⟨gb156, 1, none⟩ = some (.int .i64 a1_1) := bc BK156.out 1; have hcz12_2 : w11.cell? ⟨gb156, 2, none⟩ = some (.int .i64 a1_2) := bc BK156.out 2; have hcz12_3 : w11.cell? ⟨gb156, 3, none⟩ = some (.int .i64 a1_3) := bc BK156.out 3; have hcz12_4 : w11.cell? ⟨gb156, 4, none⟩ = some (.int .i64 a1_4) := bc BK156.out 4; have hcz12_5 : w11.cell? ⟨gb156, 5, none⟩ = some (.int .i64 a1_5) := bc BK156.out 5; have hfz12_0 := blk_frozen BK156.out 0; have hfz12_1 := blk_frozen BK156.out 1; have hfz12_2 := blk_frozen BK156.out 2; have hfz12_3 := blk_frozen BK156.out 3; have hfz12_4 := blk_frozen BK156.out 4; have hfz12_5 := blk_frozen BK156.out 5) | (go_at_call 17; (with_reducible refine (impl_ShipOk.calls a1_0 a1_1 a1_2 a1_3 a1_4 a1_5 t158 _ A8.out).mono ?_); rintro e w13 ⟨rfl, hb⟩; have n0_ := Aside0.mk (bb (zk BK155.out) hb); have n1_ := Aside0.mk (bb (zk BK156.out) hb); have n2_ := Aside0.mk (below_step s4_0 hb); clear BK155; clear BK156; clear HB; have BK155 := n0_; have BK156 := n1_; have HB := n2_; clear n0_ n1_ n2_; (try clear hb); (try clear hb2); (try clear hk); (try clear hi)))
   go_meet
   case rel => exact ⟨_, (!t158), (by first | rfl | (simp; done) | (simp [*]; done)), H', ⟨by first | omega | exact Nat.le_refl _⟩, ⟨by (with_reducible repeat (first | refine blk_drewN ?_ _ | refine blk_drew ?_ | refine blk_alloc ?_ _)); exact BK155.out⟩, ⟨by (with_reducible repeat (first | refine blk_drewN ?_ _ | refine blk_drew ?_ | refine blk_alloc ?_ _)); exact BK156.out⟩, ⟨by repeat (first | (with_reducible first | exact HB.out | apply below_alloc | apply pw_below_drewN | apply below_drew1 | refine below_set ?_ GE155.out | refine below_set ?_ GE156.out) | exact HB.out)⟩⟩
  ·replace c7 := Bool.eq_false_iff.mpr c7
   subst c7
   have H1 : (impl_Behind.j0 k true a0_0 a0_1 a0_2 a0_3 a0_4 a0_5 a1_0 a1_1 a1_2 a1_3 a1_4 a1_5) = some r := by rw [if_neg (show ¬ (false = true) by decide)] at H; exact H
   clear H
   have H := H1
   clear H1
   have H' := Aside0.mk H
   clear H
   have hnb14 := NB155_156.out
   have hnc14 := NB156_155.out
   have hcz15_0 : w5.cell? ⟨gb155, 0, none⟩ = some (.int .i64 a0_0) := bc BK155.out 0
   have hcz15_1 : w5.cell? ⟨gb155, 1, none⟩ = some (.int .i64 a0_1) := bc BK155.out 1
   have hcz15_2 : w5.cell? ⟨gb155, 2, none⟩ = some (.int .i64 a0_2) := bc BK155.out 2
   have hcz15_3 : w5.cell? ⟨gb155, 3, none⟩ = some (.int .i64 a0_3) := bc BK155.out 3
   have hcz15_4 : w5.cell? ⟨gb155, 4, none⟩ = some (.int .i64 a0_4) := bc BK155.out 4
   have hcz15_5 : w5.cell? ⟨gb155, 5, none⟩ = some (.int .i64 a0_5) := bc BK155.out 5
   have hfz15_0 := blk_frozen BK155.out 0
   have hfz15_1 := blk_frozen BK155.out 1
   have hfz15_2 := blk_frozen BK155.out 2
   have hfz15_3 := blk_frozen BK155.out 3
   have hfz15_4 := blk_frozen BK155.out 4
   have hfz15_5 := blk_frozen BK155.out 5
   go_wp2_with (first | ((with_reducible refine gate_callee (f := 17) rfl ?_); refine goesL_ (some 8) rfl rfl Try.func17 (by kernel_rfl) rfl #[.agg #[.int .i64 a0_0, .int .i64 a0_1, .int .i64 a0_2, .int .i64 a0_3, .int .i64 a0_4, .int .i64 a0_5]] rfl s4_5 ?_; (with_reducible refine (impl_ShipOk.calls a0_0 a0_1 a0_2 a0_3 a0_4 a0_5 false _ A6.out).mono ?_); rintro e w16 ⟨rfl, hb⟩; refine ⟨_, rfl, ?_⟩; have n0_ := Aside0.mk (bb (zk BK155.out) hb); have n1_ := Aside0.mk (bb (zk BK156.out) hb); have n2_ := Aside0.mk (below_step s4_0 hb); clear BK155; clear BK156; clear HB; have BK155 := n0_; have BK156 := n1_; have HB := n2_; clear n0_ n1_ n2_; (try clear hb); (try clear hb2); (try clear hk); (try clear hi)))
   go_meet
   case rel => exact ⟨_, (true), (by first | rfl | (simp; done) | (simp [*]; done)), H', ⟨by first | omega | exact Nat.le_refl _⟩, ⟨by (with_reducible repeat (first | refine blk_drewN ?_ _ | refine blk_drew ?_ | refine blk_alloc ?_ _)); exact BK155.out⟩, ⟨by (with_reducible repeat (first | refine blk_drewN ?_ _ | refine blk_drew ?_ | refine blk_alloc ?_ _)); exact BK156.out⟩, ⟨by repeat (first | (with_reducible first | exact HB.out | apply below_alloc | apply pw_below_drewN | apply below_drew1 | refine below_set ?_ GE155.out | refine below_set ?_ GE156.out) | exact HB.out)⟩⟩
 case rest =>
  clear HC3
  (try clear c1); (try clear c2); (try clear p2); (try clear c7); (try clear c9); (try clear c14); (try clear hcz10_0); (try clear hcz10_1); (try clear hcz10_2); (try clear hcz10_3); (try clear hcz10_4); (try clear hcz10_5); (try clear hcz12_0); (try clear hcz12_1); (try clear hcz12_2); (try clear hcz12_3); (try clear hcz12_4); (try clear hcz12_5); (try clear hcz15_0); (try clear hcz15_1); (try clear hcz15_2); (try clear hcz15_3); (try clear hcz15_4); (try clear hcz15_5); (try clear hfz10_0); (try clear hfz10_1); (try clear hfz10_2); (try clear hfz10_3); (try clear hfz10_4); (try clear hfz10_5); (try clear hfz12_0); (try clear hfz12_1); (try clear hfz12_2); (try clear hfz12_3); (try clear hfz12_4); (try clear hfz12_5); (try clear hfz15_0); (try clear hfz15_1); (try clear hfz15_2); (try clear hfz15_3); (try clear hfz15_4); (try clear hfz15_5)
  obtain ⟨kq, x14_2, rfl, HA, HJ2, BK155, BK156, HB⟩ := hcut
  cases kq with
  | zero => exact absurd HA.out (by simp [impl_Behind.j0])
  | succ kj2 =>
   have H := HA.out
   clear HA
   simp only [impl_Behind.j0] at H
   by_cases c17 : x14_2 = true
   ·subst c17
    have H1 : (some false) = some r := by rw [if_pos rfl] at H; exact H
    clear H
    have H := H1
    clear H1
    obtain rfl := Option.some.inj H
    go_wp2
    go_ret
    exact ⟨by first | rfl | (simp [errW_none, errW_some] <;> rfl) | (simp [*, errW_none, errW_some] <;> rfl), by repeat (first | (with_reducible first | exact HB.out | apply below_alloc | apply pw_below_drewN | apply below_drew1 | refine below_set ?_ GE155.out | refine below_set ?_ GE156.out) | exact HB.out)⟩
   ·replace c17 := Bool.eq_false_iff.mpr c17
    subst c17
    have H1 : ((impl_bearing.f a0_0 a0_1 a0_2 a0_3 a0_4 a0_5 a1_0 a1_1 a1_2 a1_3 a1_4 a1_5).bind fun bt159 => ((impl_Ship_way.f a1_0 a1_1 a1_2 a1_3 a1_4 a1_5).bind fun bt161 => ((impl_vec_dot.f bt159.1 bt159.2 bt161.1 bt161.2).bind fun t165 => (if t165 < 0 then ((impl_vec_cross.f bt159.1 bt159.2 bt161.1 bt161.2).bind fun t166 => ((impl_square.f t166).bind fun t167 => ((impl_vec_dot.f bt159.1 bt159.2 bt161.1 bt161.2).bind fun t168 => ((impl_square.f t168).bind fun t169 => (some (decide ((IntKind.u64.wrap (t167 * 5)) ≤ (IntKind.u64.wrap (t169 * 29))))))))) else (some false))))) = some r := by rw [if_neg (show ¬ (false = true) by decide)] at H; exact H
    clear H
    have H := H1
    clear H1
    replace H := Option.bind_eq_some_iff.mp H
    obtain ⟨⟨t159, t160⟩, A180, H⟩ := H
    replace H : ((impl_Ship_way.f a1_0 a1_1 a1_2 a1_3 a1_4 a1_5).bind fun bt161 => ((impl_vec_dot.f t159 t160 bt161.1 bt161.2).bind fun t165 => (if t165 < 0 then ((impl_vec_cross.f t159 t160 bt161.1 bt161.2).bind fun t166 => ((impl_square.f t166).bind fun t167 => ((impl_vec_dot.f t159 t160 bt161.1 bt161.2).bind fun t168 => ((impl_square.f t168).bind fun t169 => (some (decide ((IntKind.u64.wrap (t167 * 5)) ≤ (IntKind.u64.wrap (t169 * 29))))))))) else (some false)))) = some r := H
    have A18 := Aside0.mk A180
    clear A180
    replace H := Option.bind_eq_some_iff.mp H
    obtain ⟨⟨t161, t162⟩, A190, H⟩ := H
    replace H : ((impl_vec_dot.f t159 t160 t161 t162).bind fun t165 => (if t165 < 0 then ((impl_vec_cross.f t159 t160 t161 t162).bind fun t166 => ((impl_square.f t166).bind fun t167 => ((impl_vec_dot.f t159 t160 t161 t162).bind fun t168 => ((impl_square.f t168).bind fun t169 => (some (decide ((IntKind.u64.wrap (t167 * 5)) ≤ (IntKind.u64.wrap (t169 * 29))))))))) else (some false))) = some r := H
    have A19 := Aside0.mk A190
    clear A190
    replace H := Option.bind_eq_some_iff.mp H
    obtain ⟨t165, A200, H⟩ := H
    replace H : (if t165 < 0 then ((impl_vec_cross.f t159 t160 t161 t162).bind fun t166 => ((impl_square.f t166).bind fun t167 => ((impl_vec_dot.f t159 t160 t161 t162).bind fun t168 => ((impl_square.f t168).bind fun t169 => (some (decide ((IntKind.u64.wrap (t167 * 5)) ≤ (IntKind.u64.wrap (t169 * 29))))))))) else (some false)) = some r := H
    have A20 := Aside0.mk A200
    clear A200
    by_cases c21 : t165 < 0
    ·rw [if_pos c21] at H
     have c21b0 : decide (t165 < 0) = true := decide_eq_true c21
     clear c21
     replace H := Option.bind_eq_some_iff.mp H
     obtain ⟨t166, A220, H⟩ := H
     replace H : ((impl_square.f t166).bind fun t167 => ((impl_vec_dot.f t159 t160 t161 t162).bind fun t168 => ((impl_square.f t168).bind fun t169 => (some (decide ((IntKind.u64.wrap (t167 * 5)) ≤ (IntKind.u64.wrap (t169 * 29)))))))) = some r := H
     have A22 := Aside0.mk A220
     clear A220
     replace H := Option.bind_eq_some_iff.mp H
     obtain ⟨t167, A230, H⟩ := H
     replace H : ((impl_vec_dot.f t159 t160 t161 t162).bind fun t168 => ((impl_square.f t168).bind fun t169 => (some (decide ((IntKind.u64.wrap (t167 * 5)) ≤ (IntKind.u64.wrap (t169 * 29))))))) = some r := H
     have A23 := Aside0.mk A230
     clear A230
     replace H := Option.bind_eq_some_iff.mp H
     obtain ⟨t168, A240, H⟩ := H
     replace H : ((impl_square.f t168).bind fun t169 => (some (decide ((IntKind.u64.wrap (t167 * 5)) ≤ (IntKind.u64.wrap (t169 * 29)))))) = some r := H
     have A24 := Aside0.mk A240
     clear A240
     replace H := Option.bind_eq_some_iff.mp H
     obtain ⟨t169, A250, H⟩ := H
     replace H : (some (decide ((IntKind.u64.wrap (t167 * 5)) ≤ (IntKind.u64.wrap (t169 * 29))))) = some r := H
     have A25 := Aside0.mk A250
     clear A250
     obtain rfl := Option.some.inj H
     try go_wp2
     have n0_ := Aside0.mk (blk_drew BK155.out)
     have n1_ := Aside0.mk (blk_drew BK156.out)
     have n2_ := Aside0.mk (below_drew1 HB.out)
     clear BK155 BK156 HB
     have BK155 := n0_
     have BK156 := n1_
     have HB := n2_
     clear n0_ n1_ n2_
     refine start_ (n := 9) (S := fun w' => w'.cell? ⟨gb155, 0, none⟩ = some (.int .i64 a0_0) ∧ w'.cell? ⟨gb155, 1, none⟩ = some (.int .i64 a0_1) ∧ w'.cell? ⟨gb155, 2, none⟩ = some (.int .i64 a0_2) ∧ w'.cell? ⟨gb155, 3, none⟩ = some (.int .i64 a0_3) ∧ w'.cell? ⟨gb155, 4, none⟩ = some (.int .i64 a0_4) ∧ w'.cell? ⟨gb155, 5, none⟩ = some (.int .i64 a0_5) ∧ w'.cell? ⟨gb156, 0, none⟩ = some (.int .i64 a1_0) ∧ w'.cell? ⟨gb156, 1, none⟩ = some (.int .i64 a1_1) ∧ w'.cell? ⟨gb156, 2, none⟩ = some (.int .i64 a1_2) ∧ w'.cell? ⟨gb156, 3, none⟩ = some (.int .i64 a1_3) ∧ w'.cell? ⟨gb156, 4, none⟩ = some (.int .i64 a1_4) ∧ w'.cell? ⟨gb156, 5, none⟩ = some (.int .i64 a1_5)) (ds := []) #[false, false, false, false, false, false, false, false, false] (by kernel_rfl) rfl rfl ⟨bc BK155.out 0, bc BK155.out 1, bc BK155.out 2, bc BK155.out 3, bc BK155.out 4, bc BK155.out 5, bc BK156.out 0, bc BK156.out 1, bc BK156.out 2, bc BK156.out 3, bc BK156.out 4, bc BK156.out 5⟩ (fun hHeld => ?_); refine with_tabW impl_Behind.tab3 impl_Behind.bits3 (fun HT_ HW_ => ?_)
     generalize wc.drew = w26 at BK155 BK156 HB hHeld ⊢
     refine take_ (i := 0) (N := some 15) (v := ?_) (a' := ?_) (bz 9 1) rfl rfl (take_ofW HT_.out HW_.out (by kernel_rfl)) (fun _ _ _ h => h) (Or.inl ⟨by rfl, ?_⟩) hHeld ?_ ?_
     rotate_left
     ·rintro w' ⟨s0, s1, s2, s3, s4, s5, s6, s7, s8, s9, s10, s11⟩
      go_simp
      with_reducible rfl
     rotate_left
     ·simp only [Act.put, y1, y2, y3, i64_w, i32_w]
      rfl
     refine take_ (i := 1) (N := some 16) (v := ?_) (a' := ?_) (bz 9 3) rfl rfl (take_ofW HT_.out HW_.out (by kernel_rfl)) (fun _ _ _ h => h) (Or.inl ⟨by rfl, ?_⟩) hHeld ?_ ?_
     rotate_left
     ·rintro w' ⟨s0, s1, s2, s3, s4, s5, s6, s7, s8, s9, s10, s11⟩
      go_simp
      with_reducible rfl
     rotate_left
     ·simp only [Act.put, y1, y2, y3, i64_w, i32_w]
      rfl
     refine take_ (i := 3) (N := some 18) (v := ?_) (a' := ?_) (bz 9 11) rfl rfl (take_ofW HT_.out HW_.out (by kernel_rfl)) (fun _ _ _ h => h) (Or.inl ⟨by rfl, ?_⟩) hHeld ?_ ?_
     rotate_left
     ·rintro w' ⟨s0, s1, s2, s3, s4, s5, s6, s7, s8, s9, s10, s11⟩
      go_simp
      with_reducible rfl
     rotate_left
     ·simp only [Act.put, y1, y2, y3, i64_w, i32_w]
      rfl
     refine join_ (σ := Nat × Nat) 2 (bz 9 127) (fun s_ => [(17, .agg #[.int .i64 t159, .int .i64 t160]), (19, .agg #[.int .i64 t161, .int .i64 t162]), (5, .pointer (some ⟨s_.1, 0, none⟩)), (6, .pointer (some ⟨s_.2, 0, none⟩))]) (fun s_ w' => (w'.cell? ⟨gb155, 0, none⟩ = some (.int .i64 a0_0) ∧ w'.cell? ⟨gb155, 1, none⟩ = some (.int .i64 a0_1) ∧ w'.cell? ⟨gb155, 2, none⟩ = some (.int .i64 a0_2) ∧ w'.cell? ⟨gb155, 3, none⟩ = some (.int .i64 a0_3) ∧ w'.cell? ⟨gb155, 4, none⟩ = some (.int .i64 a0_4) ∧ w'.cell? ⟨gb155, 5, none⟩ = some (.int .i64 a0_5) ∧ w'.cell? ⟨gb156, 0, none⟩ = some (.int .i64 a1_0) ∧ w'.cell? ⟨gb156, 1, none⟩ = some (.int .i64 a1_1) ∧ w'.cell? ⟨gb156, 2, none⟩ = some (.int .i64 a1_2) ∧ w'.cell? ⟨gb156, 3, none⟩ = some (.int .i64 a1_3) ∧ w'.cell? ⟨gb156, 4, none⟩ = some (.int .i64 a1_4) ∧ w'.cell? ⟨gb156, 5, none⟩ = some (.int .i64 a1_5)) ∧ (w'.heap[gb155]? = some (.cells #[.int .i64 a0_0, .int .i64 a0_1, .int .i64 a0_2, .int .i64 a0_3, .int .i64 a0_4, .int .i64 a0_5] 25 (0, 0))) ∧ (w'.heap[gb156]? = some (.cells #[.int .i64 a1_0, .int .i64 a1_1, .int .i64 a1_2, .int .i64 a1_3, .int .i64 a1_4, .int .i64 a1_5] 25 (0, 0))) ∧ (w'.heap[s_.1]? = some (.cells #[.int .i64 0, .int .i64 0] 89 (0, 0))) ∧ (w'.heap[s_.2]? = some (.cells #[.int .i64 0, .int .i64 0] 89 (0, 0))) ∧ (w.heap.size ≤ s_.1) ∧ (w.heap.size ≤ s_.1) ∧ (gb155 ≠ s_.1) ∧ (s_.1 ≠ gb155) ∧ (gb156 ≠ s_.1) ∧ (s_.1 ≠ gb156) ∧ (s_.2 ≠ s_.1) ∧ (s_.1 ≠ s_.2) ∧ (w.heap.size ≤ s_.2) ∧ (w.heap.size ≤ s_.2) ∧ (gb155 ≠ s_.2) ∧ (s_.2 ≠ gb155) ∧ (gb156 ≠ s_.2) ∧ (s_.2 ≠ gb156) ∧ (Below w.heap.size w w')) ?_ ?_
     rotate_left
     ·intro hJ2_4_5_6
      refine join_ (σ := Nat) 3 (bz 9 63) (fun s_ => [(17, .agg #[.int .i64 t159, .int .i64 t160]), (19, .agg #[.int .i64 t161, .int .i64 t162]), (5, .pointer (some ⟨s_, 0, none⟩))]) (fun s_ w' => (w'.cell? ⟨gb155, 0, none⟩ = some (.int .i64 a0_0) ∧ w'.cell? ⟨gb155, 1, none⟩ = some (.int .i64 a0_1) ∧ w'.cell? ⟨gb155, 2, none⟩ = some (.int .i64 a0_2) ∧ w'.cell? ⟨gb155, 3, none⟩ = some (.int .i64 a0_3) ∧ w'.cell? ⟨gb155, 4, none⟩ = some (.int .i64 a0_4) ∧ w'.cell? ⟨gb155, 5, none⟩ = some (.int .i64 a0_5) ∧ w'.cell? ⟨gb156, 0, none⟩ = some (.int .i64 a1_0) ∧ w'.cell? ⟨gb156, 1, none⟩ = some (.int .i64 a1_1) ∧ w'.cell? ⟨gb156, 2, none⟩ = some (.int .i64 a1_2) ∧ w'.cell? ⟨gb156, 3, none⟩ = some (.int .i64 a1_3) ∧ w'.cell? ⟨gb156, 4, none⟩ = some (.int .i64 a1_4) ∧ w'.cell? ⟨gb156, 5, none⟩ = some (.int .i64 a1_5)) ∧ (w'.heap[gb155]? = some (.cells #[.int .i64 a0_0, .int .i64 a0_1, .int .i64 a0_2, .int .i64 a0_3, .int .i64 a0_4, .int .i64 a0_5] 25 (0, 0))) ∧ (w'.heap[gb156]? = some (.cells #[.int .i64 a1_0, .int .i64 a1_1, .int .i64 a1_2, .int .i64 a1_3, .int .i64 a1_4, .int .i64 a1_5] 25 (0, 0))) ∧ (w'.heap[s_]? = some (.cells #[.int .i64 0, .int .i64 0] 89 (0, 0))) ∧ (w.heap.size ≤ s_) ∧ (w.heap.size ≤ s_) ∧ (gb155 ≠ s_) ∧ (s_ ≠ gb155) ∧ (gb156 ≠ s_) ∧ (s_ ≠ gb156) ∧ (Below w.heap.size w w')) ?_ ?_
      rotate_left
      ·intro hJ2_4_5
       refine join_ (σ := Nat) 3 (bz 9 95) (fun s_ => [(17, .agg #[.int .i64 t159, .int .i64 t160]), (19, .agg #[.int .i64 t161, .int .i64 t162]), (6, .pointer (some ⟨s_, 0, none⟩))]) (fun s_ w' => (w'.cell? ⟨gb155, 0, none⟩ = some (.int .i64 a0_0) ∧ w'.cell? ⟨gb155, 1, none⟩ = some (.int .i64 a0_1) ∧ w'.cell? ⟨gb155, 2, none⟩ = some (.int .i64 a0_2) ∧ w'.cell? ⟨gb155, 3, none⟩ = some (.int .i64 a0_3) ∧ w'.cell? ⟨gb155, 4, none⟩ = some (.int .i64 a0_4) ∧ w'.cell? ⟨gb155, 5, none⟩ = some (.int .i64 a0_5) ∧ w'.cell? ⟨gb156, 0, none⟩ = some (.int .i64 a1_0) ∧ w'.cell? ⟨gb156, 1, none⟩ = some (.int .i64 a1_1) ∧ w'.cell? ⟨gb156, 2, none⟩ = some (.int .i64 a1_2) ∧ w'.cell? ⟨gb156, 3, none⟩ = some (.int .i64 a1_3) ∧ w'.cell? ⟨gb156, 4, none⟩ = some (.int .i64 a1_4) ∧ w'.cell? ⟨gb156, 5, none⟩ = some (.int .i64 a1_5)) ∧ (w'.heap[gb155]? = some (.cells #[.int .i64 a0_0, .int .i64 a0_1, .int .i64 a0_2, .int .i64 a0_3, .int .i64 a0_4, .int .i64 a0_5] 25 (0, 0))) ∧ (w'.heap[gb156]? = some (.cells #[.int .i64 a1_0, .int .i64 a1_1, .int .i64 a1_2, .int .i64 a1_3, .int .i64 a1_4, .int .i64 a1_5] 25 (0, 0))) ∧ (w'.heap[s_]? = some (.cells #[.int .i64 0, .int .i64 0] 89 (0, 0))) ∧ (w.heap.size ≤ s_) ∧ (w.heap.size ≤ s_) ∧ (gb155 ≠ s_) ∧ (s_ ≠ gb155) ∧ (gb156 ≠ s_) ∧ (s_ ≠ gb156) ∧ (Below w.heap.size w w')) ?_ ?_
       rotate_left
       ·intro hJ2_4_6
        refine join_ (σ := Nat × Nat) 3 (bz 9 111) (fun s_ => [(17, .agg #[.int .i64 t159, .int .i64 t160]), (5, .pointer (some ⟨s_.1, 0, none⟩)), (6, .pointer (some ⟨s_.2, 0, none⟩))]) (fun s_ w' => (w'.cell? ⟨gb155, 0, none⟩ = some (.int .i64 a0_0) ∧ w'.cell? ⟨gb155, 1, none⟩ = some (.int .i64 a0_1) ∧ w'.cell? ⟨gb155, 2, none⟩ = some (.int .i64 a0_2) ∧ w'.cell? ⟨gb155, 3, none⟩ = some (.int .i64 a0_3) ∧ w'.cell? ⟨gb155, 4, none⟩ = some (.int .i64 a0_4) ∧ w'.cell? ⟨gb155, 5, none⟩ = some (.int .i64 a0_5) ∧ w'.cell? ⟨gb156, 0, none⟩ = some (.int .i64 a1_0) ∧ w'.cell? ⟨gb156, 1, none⟩ = some (.int .i64 a1_1) ∧ w'.cell? ⟨gb156, 2, none⟩ = some (.int .i64 a1_2) ∧ w'.cell? ⟨gb156, 3, none⟩ = some (.int .i64 a1_3) ∧ w'.cell? ⟨gb156, 4, none⟩ = some (.int .i64 a1_4) ∧ w'.cell? ⟨gb156, 5, none⟩ = some (.int .i64 a1_5)) ∧ (w'.heap[gb155]? = some (.cells #[.int .i64 a0_0, .int .i64 a0_1, .int .i64 a0_2, .int .i64 a0_3, .int .i64 a0_4, .int .i64 a0_5] 25 (0, 0))) ∧ (w'.heap[gb156]? = some (.cells #[.int .i64 a1_0, .int .i64 a1_1, .int .i64 a1_2, .int .i64 a1_3, .int .i64 a1_4, .int .i64 a1_5] 25 (0, 0))) ∧ (w'.heap[s_.1]? = some (.cells #[.int .i64 0, .int .i64 0] 89 (0, 0))) ∧ (w'.heap[s_.2]? = some (.cells #[.int .i64 0, .int .i64 0] 89 (0, 0))) ∧ (w.heap.size ≤ s_.1) ∧ (w.heap.size ≤ s_.1) ∧ (gb155 ≠ s_.1) ∧ (s_.1 ≠ gb155) ∧ (gb156 ≠ s_.1) ∧ (s_.1 ≠ gb156) ∧ (s_.2 ≠ s_.1) ∧ (s_.1 ≠ s_.2) ∧ (w.heap.size ≤ s_.2) ∧ (w.heap.size ≤ s_.2) ∧ (gb155 ≠ s_.2) ∧ (s_.2 ≠ gb155) ∧ (gb156 ≠ s_.2) ∧ (s_.2 ≠ gb156) ∧ (Below w.heap.size w w')) ?_ ?_
        rotate_left
        ·intro hJ2_5_6
         refine join_ (σ := Unit) 4 (bz 9 31) (fun s_ => [(17, .agg #[.int .i64 t159, .int .i64 t160]), (19, .agg #[.int .i64 t161, .int .i64 t162])]) (fun s_ w' => (w'.cell? ⟨gb155, 0, none⟩ = some (.int .i64 a0_0) ∧ w'.cell? ⟨gb155, 1, none⟩ = some (.int .i64 a0_1) ∧ w'.cell? ⟨gb155, 2, none⟩ = some (.int .i64 a0_2) ∧ w'.cell? ⟨gb155, 3, none⟩ = some (.int .i64 a0_3) ∧ w'.cell? ⟨gb155, 4, none⟩ = some (.int .i64 a0_4) ∧ w'.cell? ⟨gb155, 5, none⟩ = some (.int .i64 a0_5) ∧ w'.cell? ⟨gb156, 0, none⟩ = some (.int .i64 a1_0) ∧ w'.cell? ⟨gb156, 1, none⟩ = some (.int .i64 a1_1) ∧ w'.cell? ⟨gb156, 2, none⟩ = some (.int .i64 a1_2) ∧ w'.cell? ⟨gb156, 3, none⟩ = some (.int .i64 a1_3) ∧ w'.cell? ⟨gb156, 4, none⟩ = some (.int .i64 a1_4) ∧ w'.cell? ⟨gb156, 5, none⟩ = some (.int .i64 a1_5)) ∧ (w'.heap[gb155]? = some (.cells #[.int .i64 a0_0, .int .i64 a0_1, .int .i64 a0_2, .int .i64 a0_3, .int .i64 a0_4, .int .i64 a0_5] 25 (0, 0))) ∧ (w'.heap[gb156]? = some (.cells #[.int .i64 a1_0, .int .i64 a1_1, .int .i64 a1_2, .int .i64 a1_3, .int .i64 a1_4, .int .i64 a1_5] 25 (0, 0))) ∧ (Below w.heap.size w w')) ?_ ?_
         rotate_left
         ·intro hJ2_4
          refine join_ (σ := Nat) 4 (bz 9 47) (fun s_ => [(17, .agg #[.int .i64 t159, .int .i64 t160]), (5, .pointer (some ⟨s_, 0, none⟩))]) (fun s_ w' => (w'.cell? ⟨gb155, 0, none⟩ = some (.int .i64 a0_0) ∧ w'.cell? ⟨gb155, 1, none⟩ = some (.int .i64 a0_1) ∧ w'.cell? ⟨gb155, 2, none⟩ = some (.int .i64 a0_2) ∧ w'.cell? ⟨gb155, 3, none⟩ = some (.int .i64 a0_3) ∧ w'.cell? ⟨gb155, 4, none⟩ = some (.int .i64 a0_4) ∧ w'.cell? ⟨gb155, 5, none⟩ = some (.int .i64 a0_5) ∧ w'.cell? ⟨gb156, 0, none⟩ = some (.int .i64 a1_0) ∧ w'.cell? ⟨gb156, 1, none⟩ = some (.int .i64 a1_1) ∧ w'.cell? ⟨gb156, 2, none⟩ = some (.int .i64 a1_2) ∧ w'.cell? ⟨gb156, 3, none⟩ = some (.int .i64 a1_3) ∧ w'.cell? ⟨gb156, 4, none⟩ = some (.int .i64 a1_4) ∧ w'.cell? ⟨gb156, 5, none⟩ = some (.int .i64 a1_5)) ∧ (w'.heap[gb155]? = some (.cells #[.int .i64 a0_0, .int .i64 a0_1, .int .i64 a0_2, .int .i64 a0_3, .int .i64 a0_4, .int .i64 a0_5] 25 (0, 0))) ∧ (w'.heap[gb156]? = some (.cells #[.int .i64 a1_0, .int .i64 a1_1, .int .i64 a1_2, .int .i64 a1_3, .int .i64 a1_4, .int .i64 a1_5] 25 (0, 0))) ∧ (w'.heap[s_]? = some (.cells #[.int .i64 0, .int .i64 0] 89 (0, 0))) ∧ (w.heap.size ≤ s_) ∧ (w.heap.size ≤ s_) ∧ (gb155 ≠ s_) ∧ (s_ ≠ gb155) ∧ (gb156 ≠ s_) ∧ (s_ ≠ gb156) ∧ (Below w.heap.size w w')) ?_ ?_
          rotate_left
          ·intro hJ2_5
           refine join_ (σ := Nat) 4 (bz 9 79) (fun s_ => [(17, .agg #[.int .i64 t159, .int .i64 t160]), (6, .pointer (some ⟨s_, 0, none⟩))]) (fun s_ w' => (w'.cell? ⟨gb155, 0, none⟩ = some (.int .i64 a0_0) ∧ w'.cell? ⟨gb155, 1, none⟩ = some (.int .i64 a0_1) ∧ w'.cell? ⟨gb155, 2, none⟩ = some (.int .i64 a0_2) ∧ w'.cell? ⟨gb155, 3, none⟩ = some (.int .i64 a0_3) ∧ w'.cell? ⟨gb155, 4, none⟩ = some (.int .i64 a0_4) ∧ w'.cell? ⟨gb155, 5, none⟩ = some (.int .i64 a0_5) ∧ w'.cell? ⟨gb156, 0, none⟩ = some (.int .i64 a1_0) ∧ w'.cell? ⟨gb156, 1, none⟩ = some (.int .i64 a1_1) ∧ w'.cell? ⟨gb156, 2, none⟩ = some (.int .i64 a1_2) ∧ w'.cell? ⟨gb156, 3, none⟩ = some (.int .i64 a1_3) ∧ w'.cell? ⟨gb156, 4, none⟩ = some (.int .i64 a1_4) ∧ w'.cell? ⟨gb156, 5, none⟩ = some (.int .i64 a1_5)) ∧ (w'.heap[gb155]? = some (.cells #[.int .i64 a0_0, .int .i64 a0_1, .int .i64 a0_2, .int .i64 a0_3, .int .i64 a0_4, .int .i64 a0_5] 25 (0, 0))) ∧ (w'.heap[gb156]? = some (.cells #[.int .i64 a1_0, .int .i64 a1_1, .int .i64 a1_2, .int .i64 a1_3, .int .i64 a1_4, .int .i64 a1_5] 25 (0, 0))) ∧ (w'.heap[s_]? = some (.cells #[.int .i64 0, .int .i64 0] 89 (0, 0))) ∧ (w.heap.size ≤ s_) ∧ (w.heap.size ≤ s_) ∧ (gb155 ≠ s_) ∧ (s_ ≠ gb155) ∧ (gb156 ≠ s_) ∧ (s_ ≠ gb156) ∧ (Below w.heap.size w w')) ?_ ?_
           rotate_left
           ·intro hJ2_6
            refine join_ (σ := Nat × Nat) 4 (bz 9 107) (fun s_ => [(5, .pointer (some ⟨s_.1, 0, none⟩)), (6, .pointer (some ⟨s_.2, 0, none⟩))]) (fun s_ w' => (w'.cell? ⟨gb155, 0, none⟩ = some (.int .i64 a0_0) ∧ w'.cell? ⟨gb155, 1, none⟩ = some (.int .i64 a0_1) ∧ w'.cell? ⟨gb155, 2, none⟩ = some (.int .i64 a0_2) ∧ w'.cell? ⟨gb155, 3, none⟩ = some (.int .i64 a0_3) ∧ w'.cell? ⟨gb155, 4, none⟩ = some (.int .i64 a0_4) ∧ w'.cell? ⟨gb155, 5, none⟩ = some (.int .i64 a0_5) ∧ w'.cell? ⟨gb156, 0, none⟩ = some (.int .i64 a1_0) ∧ w'.cell? ⟨gb156, 1, none⟩ = some (.int .i64 a1_1) ∧ w'.cell? ⟨gb156, 2, none⟩ = some (.int .i64 a1_2) ∧ w'.cell? ⟨gb156, 3, none⟩ = some (.int .i64 a1_3) ∧ w'.cell? ⟨gb156, 4, none⟩ = some (.int .i64 a1_4) ∧ w'.cell? ⟨gb156, 5, none⟩ = some (.int .i64 a1_5)) ∧ (w'.heap[gb155]? = some (.cells #[.int .i64 a0_0, .int .i64 a0_1, .int .i64 a0_2, .int .i64 a0_3, .int .i64 a0_4, .int .i64 a0_5] 25 (0, 0))) ∧ (w'.heap[gb156]? = some (.cells #[.int .i64 a1_0, .int .i64 a1_1, .int .i64 a1_2, .int .i64 a1_3, .int .i64 a1_4, .int .i64 a1_5] 25 (0, 0))) ∧ (w'.heap[s_.1]? = some (.cells #[.int .i64 0, .int .i64 0] 89 (0, 0))) ∧ (w'.heap[s_.2]? = some (.cells #[.int .i64 0, .int .i64 0] 89 (0, 0))) ∧ (w.heap.size ≤ s_.1) ∧ (w.heap.size ≤ s_.1) ∧ (gb155 ≠ s_.1) ∧ (s_.1 ≠ gb155) ∧ (gb156 ≠ s_.1) ∧ (s_.1 ≠ gb156) ∧ (s_.2 ≠ s_.1) ∧ (s_.1 ≠ s_.2) ∧ (w.heap.size ≤ s_.2) ∧ (w.heap.size ≤ s_.2) ∧ (gb155 ≠ s_.2) ∧ (s_.2 ≠ gb155) ∧ (gb156 ≠ s_.2) ∧ (s_.2 ≠ gb156) ∧ (Below w.heap.size w w')) ?_ ?_
            rotate_left
            ·intro hJ5_6
             refine join_ (σ := Unit) 5 (bz 9 15) (fun s_ => [(17, .agg #[.int .i64 t159, .int .i64 t160])]) (fun s_ w' => (w'.cell? ⟨gb155, 0, none⟩ = some (.int .i64 a0_0) ∧ w'.cell? ⟨gb155, 1, none⟩ = some (.int .i64 a0_1) ∧ w'.cell? ⟨gb155, 2, none⟩ = some (.int .i64 a0_2) ∧ w'.cell? ⟨gb155, 3, none⟩ = some (.int .i64 a0_3) ∧ w'.cell? ⟨gb155, 4, none⟩ = some (.int .i64 a0_4) ∧ w'.cell? ⟨gb155, 5, none⟩ = some (.int .i64 a0_5) ∧ w'.cell? ⟨gb156, 0, none⟩ = some (.int .i64 a1_0) ∧ w'.cell? ⟨gb156, 1, none⟩ = some (.int .i64 a1_1) ∧ w'.cell? ⟨gb156, 2, none⟩ = some (.int .i64 a1_2) ∧ w'.cell? ⟨gb156, 3, none⟩ = some (.int .i64 a1_3) ∧ w'.cell? ⟨gb156, 4, none⟩ = some (.int .i64 a1_4) ∧ w'.cell? ⟨gb156, 5, none⟩ = some (.int .i64 a1_5)) ∧ (w'.heap[gb155]? = some (.cells #[.int .i64 a0_0, .int .i64 a0_1, .int .i64 a0_2, .int .i64 a0_3, .int .i64 a0_4, .int .i64 a0_5] 25 (0, 0))) ∧ (w'.heap[gb156]? = some (.cells #[.int .i64 a1_0, .int .i64 a1_1, .int .i64 a1_2, .int .i64 a1_3, .int .i64 a1_4, .int .i64 a1_5] 25 (0, 0))) ∧ (Below w.heap.size w w')) ?_ ?_
             rotate_left
             ·intro hJ2
              refine join_ (σ := Nat) 5 (bz 9 43) (fun s_ => [(5, .pointer (some ⟨s_, 0, none⟩))]) (fun s_ w' => (w'.cell? ⟨gb155, 0, none⟩ = some (.int .i64 a0_0) ∧ w'.cell? ⟨gb155, 1, none⟩ = some (.int .i64 a0_1) ∧ w'.cell? ⟨gb155, 2, none⟩ = some (.int .i64 a0_2) ∧ w'.cell? ⟨gb155, 3, none⟩ = some (.int .i64 a0_3) ∧ w'.cell? ⟨gb155, 4, none⟩ = some (.int .i64 a0_4) ∧ w'.cell? ⟨gb155, 5, none⟩ = some (.int .i64 a0_5) ∧ w'.cell? ⟨gb156, 0, none⟩ = some (.int .i64 a1_0) ∧ w'.cell? ⟨gb156, 1, none⟩ = some (.int .i64 a1_1) ∧ w'.cell? ⟨gb156, 2, none⟩ = some (.int .i64 a1_2) ∧ w'.cell? ⟨gb156, 3, none⟩ = some (.int .i64 a1_3) ∧ w'.cell? ⟨gb156, 4, none⟩ = some (.int .i64 a1_4) ∧ w'.cell? ⟨gb156, 5, none⟩ = some (.int .i64 a1_5)) ∧ (w'.heap[gb155]? = some (.cells #[.int .i64 a0_0, .int .i64 a0_1, .int .i64 a0_2, .int .i64 a0_3, .int .i64 a0_4, .int .i64 a0_5] 25 (0, 0))) ∧ (w'.heap[gb156]? = some (.cells #[.int .i64 a1_0, .int .i64 a1_1, .int .i64 a1_2, .int .i64 a1_3, .int .i64 a1_4, .int .i64 a1_5] 25 (0, 0))) ∧ (w'.heap[s_]? = some (.cells #[.int .i64 0, .int .i64 0] 89 (0, 0))) ∧ (w.heap.size ≤ s_) ∧ (w.heap.size ≤ s_) ∧ (gb155 ≠ s_) ∧ (s_ ≠ gb155) ∧ (gb156 ≠ s_) ∧ (s_ ≠ gb156) ∧ (Below w.heap.size w w')) ?_ ?_
              rotate_left
              ·intro hJ5
               refine join_ (σ := Nat) 5 (bz 9 75) (fun s_ => [(6, .pointer (some ⟨s_, 0, none⟩))]) (fun s_ w' => (w'.cell? ⟨gb155, 0, none⟩ = some (.int .i64 a0_0) ∧ w'.cell? ⟨gb155, 1, none⟩ = some (.int .i64 a0_1) ∧ w'.cell? ⟨gb155, 2, none⟩ = some (.int .i64 a0_2) ∧ w'.cell? ⟨gb155, 3, none⟩ = some (.int .i64 a0_3) ∧ w'.cell? ⟨gb155, 4, none⟩ = some (.int .i64 a0_4) ∧ w'.cell? ⟨gb155, 5, none⟩ = some (.int .i64 a0_5) ∧ w'.cell? ⟨gb156, 0, none⟩ = some (.int .i64 a1_0) ∧ w'.cell? ⟨gb156, 1, none⟩ = some (.int .i64 a1_1) ∧ w'.cell? ⟨gb156, 2, none⟩ = some (.int .i64 a1_2) ∧ w'.cell? ⟨gb156, 3, none⟩ = some (.int .i64 a1_3) ∧ w'.cell? ⟨gb156, 4, none⟩ = some (.int .i64 a1_4) ∧ w'.cell? ⟨gb156, 5, none⟩ = some (.int .i64 a1_5)) ∧ (w'.heap[gb155]? = some (.cells #[.int .i64 a0_0, .int .i64 a0_1, .int .i64 a0_2, .int .i64 a0_3, .int .i64 a0_4, .int .i64 a0_5] 25 (0, 0))) ∧ (w'.heap[gb156]? = some (.cells #[.int .i64 a1_0, .int .i64 a1_1, .int .i64 a1_2, .int .i64 a1_3, .int .i64 a1_4, .int .i64 a1_5] 25 (0, 0))) ∧ (w'.heap[s_]? = some (.cells #[.int .i64 0, .int .i64 0] 89 (0, 0))) ∧ (w.heap.size ≤ s_) ∧ (w.heap.size ≤ s_) ∧ (gb155 ≠ s_) ∧ (s_ ≠ gb155) ∧ (gb156 ≠ s_) ∧ (s_ ≠ gb156) ∧ (Below w.heap.size w w')) ?_ ?_
               rotate_left
               ·intro hJ6
                refine three_ (i := 2) (j := 5) (k := 6) (Ni := some 17) (Nj := some 5) (Nk := some 6) (bz 9 15) (bz 9 43) (bz 9 75) rfl rfl rfl rfl rfl rfl (three_of HT_.out (by kernel_rfl)) (by decide) (by decide) (by decide) (fun K hK => ?_) (fun K hK => ?_) (fun K hK => ?_)
                ·skip
                 refine goes_ Try.func70 (by kernel_rfl) rfl #[.agg #[.int .i64 a0_0, .int .i64 a0_1, .int .i64 a0_2, .int .i64 a0_3, .int .i64 a0_4, .int .i64 a0_5], .agg #[.int .i64 a1_0, .int .i64 a1_1, .int .i64 a1_2, .int .i64 a1_3, .int .i64 a1_4, .int .i64 a1_5]] (by rfl) rfl rfl s4_5 ?_
                 with_reducible refine (impl_bearing.calls a0_0 a0_1 a0_2 a0_3 a0_4 a0_5 a1_0 a1_1 a1_2 a1_3 a1_4 a1_5 t159 t160 _ A18.out).mono ?_
                 rintro e w27 ⟨rfl, hb⟩
                 refine ⟨_, rfl, ?_⟩
                 have n0_ := Aside0.mk (bb (zk BK155.out) hb)
                 have n1_ := Aside0.mk (bb (zk BK156.out) hb)
                 have n2_ := Aside0.mk (below_step s4_0 hb)
                 clear BK155 BK156 HB
                 have BK155 := n0_
                 have BK156 := n1_
                 have HB := n2_
                 clear n0_ n1_ n2_
                 (try clear hb)
                 (try clear hb2)
                 (try clear hk)
                 (try clear hi)
                 refine hK.out _ _ ⟨bc BK155.out 0, bc BK155.out 1, bc BK155.out 2, bc BK155.out 3, bc BK155.out 4, bc BK155.out 5, bc BK156.out 0, bc BK156.out 1, bc BK156.out 2, bc BK156.out 3, bc BK156.out 4, bc BK156.out 5⟩ (fun hHeld => ?_)
                 clear hK K
                 refine norm_ (a' := ?_) ?_ ?_
                 rotate_left
                 ·show Act.put _ (some 17) _ = _
                  simp only [Act.put, y1, y2, y3, i64_w, i32_w]
                  rfl
                 exact norm_ s4_4 (hJ2 () _ ⟨hHeld, (zk BK155.out), (zk BK156.out), s4_0⟩)
                ·skip
                 refine box_step ?hg (N := 5) ?hd (cs := #[.int .i64 0, .int .i64 0]) (t := 89) ?hr ?_; (case hd => rfl); (case hg => rfl); (case hr => first | (go_simp; done) | (go_simp; rfl))
                 intro gb163 hg w27 hbox hb
                 have n0_ := Aside0.mk (bb (zk BK155.out) hb)
                 have n1_ := Aside0.mk (bb (zk BK156.out) hb)
                 have n2_ := Aside0.mk (below_step s4_0 hb)
                 have n3_ := Aside0.mk (hbox)
                 have n4_ := Aside0.mk (ns hg s4_0 : w.heap.size ≤ gb163)
                 have n5_ := Aside0.mk (ns hg s4_0 : w.heap.size ≤ gb163)
                 have n6_ := Aside0.mk ((nlt hg (zk BK155.out) : gb155 ≠ gb163))
                 have n7_ := Aside0.mk ((ngt hg (zk BK155.out) : gb163 ≠ gb155))
                 have n8_ := Aside0.mk ((nlt hg (zk BK156.out) : gb156 ≠ gb163))
                 have n9_ := Aside0.mk ((ngt hg (zk BK156.out) : gb163 ≠ gb156))
                 clear BK155 BK156 HB
                 have BK155 := n0_
                 have BK156 := n1_
                 have HB := n2_
                 have BK163 := n3_
                 have GW163 := n4_
                 have GE163 := n5_
                 have NB155_163 := n6_
                 have NB163_155 := n7_
                 have NB156_163 := n8_
                 have NB163_156 := n9_
                 clear n0_ n1_ n2_ n3_ n4_ n5_ n6_ n7_ n8_ n9_ hb hbox hg
                 refine hK.out _ _ ⟨bc BK155.out 0, bc BK155.out 1, bc BK155.out 2, bc BK155.out 3, bc BK155.out 4, bc BK155.out 5, bc BK156.out 0, bc BK156.out 1, bc BK156.out 2, bc BK156.out 3, bc BK156.out 4, bc BK156.out 5⟩ (fun hHeld => ?_)
                 clear hK K
                 refine norm_ (a' := ?_) ?_ ?_
                 rotate_left
                 ·show Act.put _ (some 5) _ = _
                  simp only [Act.put, y1, y2, y3, i64_w, i32_w]
                  rfl
                 exact norm_ s4_4 (hJ5 (gb163) _ ⟨hHeld, (zk BK155.out), (zk BK156.out), (zk BK163.out), GW163.out, GE163.out, NB155_163.out, NB163_155.out, NB156_163.out, NB163_156.out, s4_1⟩)
                ·skip
                 refine box_step ?hg (N := 6) ?hd (cs := #[.int .i64 0, .int .i64 0]) (t := 89) ?hr ?_; (case hd => rfl); (case hg => rfl); (case hr => first | (go_simp; done) | (go_simp; rfl))
                 intro gb164 hg w27 hbox hb
                 have n0_ := Aside0.mk (bb (zk BK155.out) hb)
                 have n1_ := Aside0.mk (bb (zk BK156.out) hb)
                 have n2_ := Aside0.mk (below_step s4_0 hb)
                 have n3_ := Aside0.mk (hbox)
                 have n4_ := Aside0.mk (ns hg s4_0 : w.heap.size ≤ gb164)
                 have n5_ := Aside0.mk (ns hg s4_0 : w.heap.size ≤ gb164)
                 have n6_ := Aside0.mk ((nlt hg (zk BK155.out) : gb155 ≠ gb164))
                 have n7_ := Aside0.mk ((ngt hg (zk BK155.out) : gb164 ≠ gb155))
                 have n8_ := Aside0.mk ((nlt hg (zk BK156.out) : gb156 ≠ gb164))
                 have n9_ := Aside0.mk ((ngt hg (zk BK156.out) : gb164 ≠ gb156))
                 clear BK155 BK156 HB
                 have BK155 := n0_
                 have BK156 := n1_
                 have HB := n2_
                 have BK164 := n3_
                 have GW164 := n4_
                 have GE164 := n5_
                 have NB155_164 := n6_
                 have NB164_155 := n7_
                 have NB156_164 := n8_
                 have NB164_156 := n9_
                 clear n0_ n1_ n2_ n3_ n4_ n5_ n6_ n7_ n8_ n9_ hb hbox hg
                 refine hK.out _ _ ⟨bc BK155.out 0, bc BK155.out 1, bc BK155.out 2, bc BK155.out 3, bc BK155.out 4, bc BK155.out 5, bc BK156.out 0, bc BK156.out 1, bc BK156.out 2, bc BK156.out 3, bc BK156.out 4, bc BK156.out 5⟩ (fun hHeld => ?_)
                 clear hK K
                 refine norm_ (a' := ?_) ?_ ?_
                 rotate_left
                 ·show Act.put _ (some 6) _ = _
                  simp only [Act.put, y1, y2, y3, i64_w, i32_w]
                  rfl
                 exact norm_ s4_4 (hJ6 (gb164) _ ⟨hHeld, (zk BK155.out), (zk BK156.out), (zk BK164.out), GW164.out, GE164.out, NB155_164.out, NB164_155.out, NB156_164.out, NB164_156.out, s4_2⟩)
               ·skip
                rintro gb164 w28 ⟨hS_, h0_, h1_, h2_, h3_, h4_, h5_, h6_, h7_, h8_, h9_⟩
                have n0_ : Aside0 (w28.heap[gb155]? = some (.cells #[.int .i64 a0_0, .int .i64 a0_1, .int .i64 a0_2, .int .i64 a0_3, .int .i64 a0_4, .int .i64 a0_5] 25 (0, 0))) := ⟨h0_⟩
                have n1_ : Aside0 (w28.heap[gb156]? = some (.cells #[.int .i64 a1_0, .int .i64 a1_1, .int .i64 a1_2, .int .i64 a1_3, .int .i64 a1_4, .int .i64 a1_5] 25 (0, 0))) := ⟨h1_⟩
                have n2_ : Aside0 (w28.heap[gb164]? = some (.cells #[.int .i64 0, .int .i64 0] 89 (0, 0))) := ⟨h2_⟩
                have n3_ : Aside0 (w.heap.size ≤ gb164) := ⟨h3_⟩
                have n4_ : Aside0 (w.heap.size ≤ gb164) := ⟨h4_⟩
                have n5_ : Aside0 (gb155 ≠ gb164) := ⟨h5_⟩
                have n6_ : Aside0 (gb164 ≠ gb155) := ⟨h6_⟩
                have n7_ : Aside0 (gb156 ≠ gb164) := ⟨h7_⟩
                have n8_ : Aside0 (gb164 ≠ gb156) := ⟨h8_⟩
                have n9_ : Aside0 (Below w.heap.size w w28) := ⟨h9_⟩
                clear BK155 BK156 HB h0_ h1_ h2_ h3_ h4_ h5_ h6_ h7_ h8_ h9_
                have BK155 := n0_
                have BK156 := n1_
                have BK164 := n2_
                have GW164 := n3_
                have GE164 := n4_
                have NB155_164 := n5_
                have NB164_155 := n6_
                have NB156_164 := n7_
                have NB164_156 := n8_
                have HB := n9_
                clear n0_ n1_ n2_ n3_ n4_ n5_ n6_ n7_ n8_ n9_
                have hHeld : w28.cell? ⟨gb155, 0, none⟩ = some (.int .i64 a0_0) ∧ w28.cell? ⟨gb155, 1, none⟩ = some (.int .i64 a0_1) ∧ w28.cell? ⟨gb155, 2, none⟩ = some (.int .i64 a0_2) ∧ w28.cell? ⟨gb155, 3, none⟩ = some (.int .i64 a0_3) ∧ w28.cell? ⟨gb155, 4, none⟩ = some (.int .i64 a0_4) ∧ w28.cell? ⟨gb155, 5, none⟩ = some (.int .i64 a0_5) ∧ w28.cell? ⟨gb156, 0, none⟩ = some (.int .i64 a1_0) ∧ w28.cell? ⟨gb156, 1, none⟩ = some (.int .i64 a1_1) ∧ w28.cell? ⟨gb156, 2, none⟩ = some (.int .i64 a1_2) ∧ w28.cell? ⟨gb156, 3, none⟩ = some (.int .i64 a1_3) ∧ w28.cell? ⟨gb156, 4, none⟩ = some (.int .i64 a1_4) ∧ w28.cell? ⟨gb156, 5, none⟩ = some (.int .i64 a1_5) := hS_
                refine norm_ (a' := ?_) ?_ ?_
                rotate_left
                ·simp only [putAll, Act.put, y1, y2, y3]
                 rfl
                refine two_ (i := 2) (j := 5) (Ni := some 17) (Nj := some 5) (bz 9 79) (bz 9 107) rfl rfl rfl rfl (two_of HT_.out (by kernel_rfl)) (by decide) (by decide) (fun K hK => ?_) (fun K hK => ?_)
                ·skip
                 refine goes_ Try.func70 (by kernel_rfl) rfl #[.agg #[.int .i64 a0_0, .int .i64 a0_1, .int .i64 a0_2, .int .i64 a0_3, .int .i64 a0_4, .int .i64 a0_5], .agg #[.int .i64 a1_0, .int .i64 a1_1, .int .i64 a1_2, .int .i64 a1_3, .int .i64 a1_4, .int .i64 a1_5]] (by rfl) rfl rfl s4_5 ?_
                 with_reducible refine (impl_bearing.calls a0_0 a0_1 a0_2 a0_3 a0_4 a0_5 a1_0 a1_1 a1_2 a1_3 a1_4 a1_5 t159 t160 _ A18.out).mono ?_
                 rintro e w29 ⟨rfl, hb⟩
                 refine ⟨_, rfl, ?_⟩
                 have n0_ := Aside0.mk (bb (zk BK155.out) hb)
                 have n1_ := Aside0.mk (bb (zk BK156.out) hb)
                 have n2_ := Aside0.mk (bb (zk BK164.out) hb)
                 have n3_ := Aside0.mk (below_step s4_2 hb)
                 clear BK155 BK156 BK164 HB
                 have BK155 := n0_
                 have BK156 := n1_
                 have BK164 := n2_
                 have HB := n3_
                 clear n0_ n1_ n2_ n3_
                 (try clear hb)
                 (try clear hb2)
                 (try clear hk)
                 (try clear hi)
                 refine hK.out _ _ ⟨bc BK155.out 0, bc BK155.out 1, bc BK155.out 2, bc BK155.out 3, bc BK155.out 4, bc BK155.out 5, bc BK156.out 0, bc BK156.out 1, bc BK156.out 2, bc BK156.out 3, bc BK156.out 4, bc BK156.out 5⟩ (fun hHeld => ?_)
                 clear hK K
                 refine norm_ (a' := ?_) ?_ ?_
                 rotate_left
                 ·show Act.put _ (some 17) _ = _
                  simp only [Act.put, y1, y2, y3, i64_w, i32_w]
                  rfl
                 exact norm_ s4_4 (hJ2_6 (gb164) _ ⟨hHeld, (zk BK155.out), (zk BK156.out), (zk BK164.out), GW164.out, GE164.out, NB155_164.out, NB164_155.out, NB156_164.out, NB164_156.out, s4_2⟩)
                ·skip
                 refine box_step ?hg (N := 5) ?hd (cs := #[.int .i64 0, .int .i64 0]) (t := 89) ?hr ?_; (case hd => rfl); (case hg => rfl); (case hr => first | (go_simp; done) | (go_simp; rfl))
                 intro gb163 hg w29 hbox hb
                 have n0_ := Aside0.mk (bb (zk BK155.out) hb)
                 have n1_ := Aside0.mk (bb (zk BK156.out) hb)
                 have n2_ := Aside0.mk (bb (zk BK164.out) hb)
                 have n3_ := Aside0.mk (below_step s4_2 hb)
                 have n4_ := Aside0.mk (hbox)
                 have n5_ := Aside0.mk (ns hg s4_2 : w.heap.size ≤ gb163)
                 have n6_ := Aside0.mk (ns hg s4_2 : w.heap.size ≤ gb163)
                 have n7_ := Aside0.mk ((nlt hg (zk BK155.out) : gb155 ≠ gb163))
                 have n8_ := Aside0.mk ((ngt hg (zk BK155.out) : gb163 ≠ gb155))
                 have n9_ := Aside0.mk ((nlt hg (zk BK156.out) : gb156 ≠ gb163))
                 have n10_ := Aside0.mk ((ngt hg (zk BK156.out) : gb163 ≠ gb156))
                 have n11_ := Aside0.mk ((nlt hg (zk BK164.out) : gb164 ≠ gb163))
                 have n12_ := Aside0.mk ((ngt hg (zk BK164.out) : gb163 ≠ gb164))
                 clear BK155 BK156 BK164 HB
                 have BK155 := n0_
                 have BK156 := n1_
                 have BK164 := n2_
                 have HB := n3_
                 have BK163 := n4_
                 have GW163 := n5_
                 have GE163 := n6_
                 have NB155_163 := n7_
                 have NB163_155 := n8_
                 have NB156_163 := n9_
                 have NB163_156 := n10_
                 have NB164_163 := n11_
                 have NB163_164 := n12_
                 clear n0_ n1_ n2_ n3_ n4_ n5_ n6_ n7_ n8_ n9_ n10_ n11_ n12_ hb hbox hg
                 refine hK.out _ _ ⟨bc BK155.out 0, bc BK155.out 1, bc BK155.out 2, bc BK155.out 3, bc BK155.out 4, bc BK155.out 5, bc BK156.out 0, bc BK156.out 1, bc BK156.out 2, bc BK156.out 3, bc BK156.out 4, bc BK156.out 5⟩ (fun hHeld => ?_)
                 clear hK K
                 refine norm_ (a' := ?_) ?_ ?_
                 rotate_left
                 ·show Act.put _ (some 5) _ = _
                  simp only [Act.put, y1, y2, y3, i64_w, i32_w]
                  rfl
                 exact norm_ s4_4 (hJ5_6 (gb163, gb164) _ ⟨hHeld, (zk BK155.out), (zk BK156.out), (zk BK163.out), (zk BK164.out), GW163.out, GE163.out, NB155_163.out, NB163_155.out, NB156_163.out, NB163_156.out, NB164_163.out, NB163_164.out, GW164.out, GE164.out, NB155_164.out, NB164_155.out, NB156_164.out, NB164_156.out, s4_6⟩)
              ·skip
               rintro gb163 w28 ⟨hS_, h0_, h1_, h2_, h3_, h4_, h5_, h6_, h7_, h8_, h9_⟩
               have n0_ : Aside0 (w28.heap[gb155]? = some (.cells #[.int .i64 a0_0, .int .i64 a0_1, .int .i64 a0_2, .int .i64 a0_3, .int .i64 a0_4, .int .i64 a0_5] 25 (0, 0))) := ⟨h0_⟩
               have n1_ : Aside0 (w28.heap[gb156]? = some (.cells #[.int .i64 a1_0, .int .i64 a1_1, .int .i64 a1_2, .int .i64 a1_3, .int .i64 a1_4, .int .i64 a1_5] 25 (0, 0))) := ⟨h1_⟩
               have n2_ : Aside0 (w28.heap[gb163]? = some (.cells #[.int .i64 0, .int .i64 0] 89 (0, 0))) := ⟨h2_⟩
               have n3_ : Aside0 (w.heap.size ≤ gb163) := ⟨h3_⟩
               have n4_ : Aside0 (w.heap.size ≤ gb163) := ⟨h4_⟩
               have n5_ : Aside0 (gb155 ≠ gb163) := ⟨h5_⟩
               have n6_ : Aside0 (gb163 ≠ gb155) := ⟨h6_⟩
               have n7_ : Aside0 (gb156 ≠ gb163) := ⟨h7_⟩
               have n8_ : Aside0 (gb163 ≠ gb156) := ⟨h8_⟩
               have n9_ : Aside0 (Below w.heap.size w w28) := ⟨h9_⟩
               clear BK155 BK156 HB h0_ h1_ h2_ h3_ h4_ h5_ h6_ h7_ h8_ h9_
               have BK155 := n0_
               have BK156 := n1_
               have BK163 := n2_
               have GW163 := n3_
               have GE163 := n4_
               have NB155_163 := n5_
               have NB163_155 := n6_
               have NB156_163 := n7_
               have NB163_156 := n8_
               have HB := n9_
               clear n0_ n1_ n2_ n3_ n4_ n5_ n6_ n7_ n8_ n9_
               have hHeld : w28.cell? ⟨gb155, 0, none⟩ = some (.int .i64 a0_0) ∧ w28.cell? ⟨gb155, 1, none⟩ = some (.int .i64 a0_1) ∧ w28.cell? ⟨gb155, 2, none⟩ = some (.int .i64 a0_2) ∧ w28.cell? ⟨gb155, 3, none⟩ = some (.int .i64 a0_3) ∧ w28.cell? ⟨gb155, 4, none⟩ = some (.int .i64 a0_4) ∧ w28.cell? ⟨gb155, 5, none⟩ = some (.int .i64 a0_5) ∧ w28.cell? ⟨gb156, 0, none⟩ = some (.int .i64 a1_0) ∧ w28.cell? ⟨gb156, 1, none⟩ = some (.int .i64 a1_1) ∧ w28.cell? ⟨gb156, 2, none⟩ = some (.int .i64 a1_2) ∧ w28.cell? ⟨gb156, 3, none⟩ = some (.int .i64 a1_3) ∧ w28.cell? ⟨gb156, 4, none⟩ = some (.int .i64 a1_4) ∧ w28.cell? ⟨gb156, 5, none⟩ = some (.int .i64 a1_5) := hS_
               refine norm_ (a' := ?_) ?_ ?_
               rotate_left
               ·simp only [putAll, Act.put, y1, y2, y3]
                rfl
               refine two_ (i := 2) (j := 6) (Ni := some 17) (Nj := some 6) (bz 9 47) (bz 9 107) rfl rfl rfl rfl (two_of HT_.out (by kernel_rfl)) (by decide) (by decide) (fun K hK => ?_) (fun K hK => ?_)
               ·skip
                refine goes_ Try.func70 (by kernel_rfl) rfl #[.agg #[.int .i64 a0_0, .int .i64 a0_1, .int .i64 a0_2, .int .i64 a0_3, .int .i64 a0_4, .int .i64 a0_5], .agg #[.int .i64 a1_0, .int .i64 a1_1, .int .i64 a1_2, .int .i64 a1_3, .int .i64 a1_4, .int .i64 a1_5]] (by rfl) rfl rfl s4_5 ?_
                with_reducible refine (impl_bearing.calls a0_0 a0_1 a0_2 a0_3 a0_4 a0_5 a1_0 a1_1 a1_2 a1_3 a1_4 a1_5 t159 t160 _ A18.out).mono ?_
                rintro e w29 ⟨rfl, hb⟩
                refine ⟨_, rfl, ?_⟩
                have n0_ := Aside0.mk (bb (zk BK155.out) hb)
                have n1_ := Aside0.mk (bb (zk BK156.out) hb)
                have n2_ := Aside0.mk (bb (zk BK163.out) hb)
                have n3_ := Aside0.mk (below_step s4_1 hb)
                clear BK155 BK156 BK163 HB
                have BK155 := n0_
                have BK156 := n1_
                have BK163 := n2_
                have HB := n3_
                clear n0_ n1_ n2_ n3_
                (try clear hb)
                (try clear hb2)
                (try clear hk)
                (try clear hi)
                refine hK.out _ _ ⟨bc BK155.out 0, bc BK155.out 1, bc BK155.out 2, bc BK155.out 3, bc BK155.out 4, bc BK155.out 5, bc BK156.out 0, bc BK156.out 1, bc BK156.out 2, bc BK156.out 3, bc BK156.out 4, bc BK156.out 5⟩ (fun hHeld => ?_)
                clear hK K
                refine norm_ (a' := ?_) ?_ ?_
                rotate_left
                ·show Act.put _ (some 17) _ = _
                 simp only [Act.put, y1, y2, y3, i64_w, i32_w]
                 rfl
                exact norm_ s4_4 (hJ2_5 (gb163) _ ⟨hHeld, (zk BK155.out), (zk BK156.out), (zk BK163.out), GW163.out, GE163.out, NB155_163.out, NB163_155.out, NB156_163.out, NB163_156.out, s4_1⟩)
               ·skip
                refine box_step ?hg (N := 6) ?hd (cs := #[.int .i64 0, .int .i64 0]) (t := 89) ?hr ?_; (case hd => rfl); (case hg => rfl); (case hr => first | (go_simp; done) | (go_simp; rfl))
                intro gb164 hg w29 hbox hb
                have n0_ := Aside0.mk (bb (zk BK155.out) hb)
                have n1_ := Aside0.mk (bb (zk BK156.out) hb)
                have n2_ := Aside0.mk (bb (zk BK163.out) hb)
                have n3_ := Aside0.mk (below_step s4_1 hb)
                have n4_ := Aside0.mk (hbox)
                have n5_ := Aside0.mk (ns hg s4_1 : w.heap.size ≤ gb164)
                have n6_ := Aside0.mk (ns hg s4_1 : w.heap.size ≤ gb164)
                have n7_ := Aside0.mk ((nlt hg (zk BK155.out) : gb155 ≠ gb164))
                have n8_ := Aside0.mk ((ngt hg (zk BK155.out) : gb164 ≠ gb155))
                have n9_ := Aside0.mk ((nlt hg (zk BK156.out) : gb156 ≠ gb164))
                have n10_ := Aside0.mk ((ngt hg (zk BK156.out) : gb164 ≠ gb156))
                have n11_ := Aside0.mk ((nlt hg (zk BK163.out) : gb163 ≠ gb164))
                have n12_ := Aside0.mk ((ngt hg (zk BK163.out) : gb164 ≠ gb163))
                clear BK155 BK156 BK163 HB
                have BK155 := n0_
                have BK156 := n1_
                have BK163 := n2_
                have HB := n3_
                have BK164 := n4_
                have GW164 := n5_
                have GE164 := n6_
                have NB155_164 := n7_
                have NB164_155 := n8_
                have NB156_164 := n9_
                have NB164_156 := n10_
                have NB163_164 := n11_
                have NB164_163 := n12_
                clear n0_ n1_ n2_ n3_ n4_ n5_ n6_ n7_ n8_ n9_ n10_ n11_ n12_ hb hbox hg
                refine hK.out _ _ ⟨bc BK155.out 0, bc BK155.out 1, bc BK155.out 2, bc BK155.out 3, bc BK155.out 4, bc BK155.out 5, bc BK156.out 0, bc BK156.out 1, bc BK156.out 2, bc BK156.out 3, bc BK156.out 4, bc BK156.out 5⟩ (fun hHeld => ?_)
                clear hK K
                refine norm_ (a' := ?_) ?_ ?_
                rotate_left
                ·show Act.put _ (some 6) _ = _
                 simp only [Act.put, y1, y2, y3, i64_w, i32_w]
                 rfl
                exact norm_ s4_4 (hJ5_6 (gb163, gb164) _ ⟨hHeld, (zk BK155.out), (zk BK156.out), (zk BK163.out), (zk BK164.out), GW163.out, GE163.out, NB155_163.out, NB163_155.out, NB156_163.out, NB163_156.out, NB164_163.out, NB163_164.out, GW164.out, GE164.out, NB155_164.out, NB164_155.out, NB156_164.out, NB164_156.out, s4_3⟩)
             ·skip
              rintro _ w28 ⟨hS_, h0_, h1_, h2_⟩
              have n0_ : Aside0 (w28.heap[gb155]? = some (.cells #[.int .i64 a0_0, .int .i64 a0_1, .int .i64 a0_2, .int .i64 a0_3, .int .i64 a0_4, .int .i64 a0_5] 25 (0, 0))) := ⟨h0_⟩
              have n1_ : Aside0 (w28.heap[gb156]? = some (.cells #[.int .i64 a1_0, .int .i64 a1_1, .int .i64 a1_2, .int .i64 a1_3, .int .i64 a1_4, .int .i64 a1_5] 25 (0, 0))) := ⟨h1_⟩
              have n2_ : Aside0 (Below w.heap.size w w28) := ⟨h2_⟩
              clear BK155 BK156 HB h0_ h1_ h2_
              have BK155 := n0_
              have BK156 := n1_
              have HB := n2_
              clear n0_ n1_ n2_
              have hHeld : w28.cell? ⟨gb155, 0, none⟩ = some (.int .i64 a0_0) ∧ w28.cell? ⟨gb155, 1, none⟩ = some (.int .i64 a0_1) ∧ w28.cell? ⟨gb155, 2, none⟩ = some (.int .i64 a0_2) ∧ w28.cell? ⟨gb155, 3, none⟩ = some (.int .i64 a0_3) ∧ w28.cell? ⟨gb155, 4, none⟩ = some (.int .i64 a0_4) ∧ w28.cell? ⟨gb155, 5, none⟩ = some (.int .i64 a0_5) ∧ w28.cell? ⟨gb156, 0, none⟩ = some (.int .i64 a1_0) ∧ w28.cell? ⟨gb156, 1, none⟩ = some (.int .i64 a1_1) ∧ w28.cell? ⟨gb156, 2, none⟩ = some (.int .i64 a1_2) ∧ w28.cell? ⟨gb156, 3, none⟩ = some (.int .i64 a1_3) ∧ w28.cell? ⟨gb156, 4, none⟩ = some (.int .i64 a1_4) ∧ w28.cell? ⟨gb156, 5, none⟩ = some (.int .i64 a1_5) := hS_
              refine norm_ (a' := ?_) ?_ ?_
              rotate_left
              ·simp only [putAll, Act.put, y1, y2, y3]
               rfl
              refine three_ (i := 4) (j := 5) (k := 6) (Ni := some 19) (Nj := some 5) (Nk := some 6) (bz 9 31) (bz 9 47) (bz 9 79) rfl rfl rfl rfl rfl rfl (three_of HT_.out (by kernel_rfl)) (by decide) (by decide) (by decide) (fun K hK => ?_) (fun K hK => ?_) (fun K hK => ?_)
              ·skip
               refine goes_ Try.func71 (by kernel_rfl) rfl #[.agg #[.int .i64 a1_0, .int .i64 a1_1, .int .i64 a1_2, .int .i64 a1_3, .int .i64 a1_4, .int .i64 a1_5]] (by rfl) rfl rfl s4_5 ?_
               with_reducible refine (impl_Ship_way.calls a1_0 a1_1 a1_2 a1_3 a1_4 a1_5 t161 t162 _ A19.out).mono ?_
               rintro e w29 ⟨rfl, hb⟩
               refine ⟨_, rfl, ?_⟩
               have n0_ := Aside0.mk (bb (zk BK155.out) hb)
               have n1_ := Aside0.mk (bb (zk BK156.out) hb)
               have n2_ := Aside0.mk (below_step s4_0 hb)
               clear BK155 BK156 HB
               have BK155 := n0_
               have BK156 := n1_
               have HB := n2_
               clear n0_ n1_ n2_
               (try clear hb)
               (try clear hb2)
               (try clear hk)
               (try clear hi)
               refine hK.out _ _ ⟨bc BK155.out 0, bc BK155.out 1, bc BK155.out 2, bc BK155.out 3, bc BK155.out 4, bc BK155.out 5, bc BK156.out 0, bc BK156.out 1, bc BK156.out 2, bc BK156.out 3, bc BK156.out 4, bc BK156.out 5⟩ (fun hHeld => ?_)
               clear hK K
               refine norm_ (a' := ?_) ?_ ?_
               rotate_left
               ·show Act.put _ (some 19) _ = _
                simp only [Act.put, y1, y2, y3, i64_w, i32_w]
                rfl
               exact norm_ s4_4 (hJ2_4 () _ ⟨hHeld, (zk BK155.out), (zk BK156.out), s4_0⟩)
              ·skip
               refine box_step ?hg (N := 5) ?hd (cs := #[.int .i64 0, .int .i64 0]) (t := 89) ?hr ?_; (case hd => rfl); (case hg => rfl); (case hr => first | (go_simp; done) | (go_simp; rfl))
               intro gb163 hg w29 hbox hb
               have n0_ := Aside0.mk (bb (zk BK155.out) hb)
               have n1_ := Aside0.mk (bb (zk BK156.out) hb)
               have n2_ := Aside0.mk (below_step s4_0 hb)
               have n3_ := Aside0.mk (hbox)
               have n4_ := Aside0.mk (ns hg s4_0 : w.heap.size ≤ gb163)
               have n5_ := Aside0.mk (ns hg s4_0 : w.heap.size ≤ gb163)
               have n6_ := Aside0.mk ((nlt hg (zk BK155.out) : gb155 ≠ gb163))
               have n7_ := Aside0.mk ((ngt hg (zk BK155.out) : gb163 ≠ gb155))
               have n8_ := Aside0.mk ((nlt hg (zk BK156.out) : gb156 ≠ gb163))
               have n9_ := Aside0.mk ((ngt hg (zk BK156.out) : gb163 ≠ gb156))
               clear BK155 BK156 HB
               have BK155 := n0_
               have BK156 := n1_
               have HB := n2_
               have BK163 := n3_
               have GW163 := n4_
               have GE163 := n5_
               have NB155_163 := n6_
               have NB163_155 := n7_
               have NB156_163 := n8_
               have NB163_156 := n9_
               clear n0_ n1_ n2_ n3_ n4_ n5_ n6_ n7_ n8_ n9_ hb hbox hg
               refine hK.out _ _ ⟨bc BK155.out 0, bc BK155.out 1, bc BK155.out 2, bc BK155.out 3, bc BK155.out 4, bc BK155.out 5, bc BK156.out 0, bc BK156.out 1, bc BK156.out 2, bc BK156.out 3, bc BK156.out 4, bc BK156.out 5⟩ (fun hHeld => ?_)
               clear hK K
               refine norm_ (a' := ?_) ?_ ?_
               rotate_left
               ·show Act.put _ (some 5) _ = _
                simp only [Act.put, y1, y2, y3, i64_w, i32_w]
                rfl
               exact norm_ s4_4 (hJ2_5 (gb163) _ ⟨hHeld, (zk BK155.out), (zk BK156.out), (zk BK163.out), GW163.out, GE163.out, NB155_163.out, NB163_155.out, NB156_163.out, NB163_156.out, s4_1⟩)
              ·skip
               refine box_step ?hg (N := 6) ?hd (cs := #[.int .i64 0, .int .i64 0]) (t := 89) ?hr ?_; (case hd => rfl); (case hg => rfl); (case hr => first | (go_simp; done) | (go_simp; rfl))
               intro gb164 hg w29 hbox hb
               have n0_ := Aside0.mk (bb (zk BK155.out) hb)
               have n1_ := Aside0.mk (bb (zk BK156.out) hb)
               have n2_ := Aside0.mk (below_step s4_0 hb)
               have n3_ := Aside0.mk (hbox)
               have n4_ := Aside0.mk (ns hg s4_0 : w.heap.size ≤ gb164)
               have n5_ := Aside0.mk (ns hg s4_0 : w.heap.size ≤ gb164)
               have n6_ := Aside0.mk ((nlt hg (zk BK155.out) : gb155 ≠ gb164))
               have n7_ := Aside0.mk ((ngt hg (zk BK155.out) : gb164 ≠ gb155))
               have n8_ := Aside0.mk ((nlt hg (zk BK156.out) : gb156 ≠ gb164))
               have n9_ := Aside0.mk ((ngt hg (zk BK156.out) : gb164 ≠ gb156))
               clear BK155 BK156 HB
               have BK155 := n0_
               have BK156 := n1_
               have HB := n2_
               have BK164 := n3_
               have GW164 := n4_
               have GE164 := n5_
               have NB155_164 := n6_
               have NB164_155 := n7_
               have NB156_164 := n8_
               have NB164_156 := n9_
               clear n0_ n1_ n2_ n3_ n4_ n5_ n6_ n7_ n8_ n9_ hb hbox hg
               refine hK.out _ _ ⟨bc BK155.out 0, bc BK155.out 1, bc BK155.out 2, bc BK155.out 3, bc BK155.out 4, bc BK155.out 5, bc BK156.out 0, bc BK156.out 1, bc BK156.out 2, bc BK156.out 3, bc BK156.out 4, bc BK156.out 5⟩ (fun hHeld => ?_)
               clear hK K
               refine norm_ (a' := ?_) ?_ ?_
               rotate_left
               ·show Act.put _ (some 6) _ = _
                simp only [Act.put, y1, y2, y3, i64_w, i32_w]
                rfl
               exact norm_ s4_4 (hJ2_6 (gb164) _ ⟨hHeld, (zk BK155.out), (zk BK156.out), (zk BK164.out), GW164.out, GE164.out, NB155_164.out, NB164_155.out, NB156_164.out, NB164_156.out, s4_2⟩)
            ·skip
             rintro ⟨gb163, gb164⟩ w29 ⟨hS_, h0_, h1_, h2_, h3_, h4_, h5_, h6_, h7_, h8_, h9_, h10_, h11_, h12_, h13_, h14_, h15_, h16_, h17_, h18_⟩
             have n0_ : Aside0 (w29.heap[gb155]? = some (.cells #[.int .i64 a0_0, .int .i64 a0_1, .int .i64 a0_2, .int .i64 a0_3, .int .i64 a0_4, .int .i64 a0_5] 25 (0, 0))) := ⟨h0_⟩
             have n1_ : Aside0 (w29.heap[gb156]? = some (.cells #[.int .i64 a1_0, .int .i64 a1_1, .int .i64 a1_2, .int .i64 a1_3, .int .i64 a1_4, .int .i64 a1_5] 25 (0, 0))) := ⟨h1_⟩
             have n2_ : Aside0 (w29.heap[gb163]? = some (.cells #[.int .i64 0, .int .i64 0] 89 (0, 0))) := ⟨h2_⟩
             have n3_ : Aside0 (w29.heap[gb164]? = some (.cells #[.int .i64 0, .int .i64 0] 89 (0, 0))) := ⟨h3_⟩
             have n4_ : Aside0 (w.heap.size ≤ gb163) := ⟨h4_⟩
             have n5_ : Aside0 (w.heap.size ≤ gb163) := ⟨h5_⟩
             have n6_ : Aside0 (gb155 ≠ gb163) := ⟨h6_⟩
             have n7_ : Aside0 (gb163 ≠ gb155) := ⟨h7_⟩
             have n8_ : Aside0 (gb156 ≠ gb163) := ⟨h8_⟩
             have n9_ : Aside0 (gb163 ≠ gb156) := ⟨h9_⟩
             have n10_ : Aside0 (gb164 ≠ gb163) := ⟨h10_⟩
             have n11_ : Aside0 (gb163 ≠ gb164) := ⟨h11_⟩
             have n12_ : Aside0 (w.heap.size ≤ gb164) := ⟨h12_⟩
             have n13_ : Aside0 (w.heap.size ≤ gb164) := ⟨h13_⟩
             have n14_ : Aside0 (gb155 ≠ gb164) := ⟨h14_⟩
             have n15_ : Aside0 (gb164 ≠ gb155) := ⟨h15_⟩
             have n16_ : Aside0 (gb156 ≠ gb164) := ⟨h16_⟩
             have n17_ : Aside0 (gb164 ≠ gb156) := ⟨h17_⟩
             have n18_ : Aside0 (Below w.heap.size w w29) := ⟨h18_⟩
             clear BK155 BK156 HB h0_ h1_ h2_ h3_ h4_ h5_ h6_ h7_ h8_ h9_ h10_ h11_ h12_ h13_ h14_ h15_ h16_ h17_ h18_
             have BK155 := n0_
             have BK156 := n1_
             have BK163 := n2_
             have BK164 := n3_
             have GW163 := n4_
             have GE163 := n5_
             have NB155_163 := n6_
             have NB163_155 := n7_
             have NB156_163 := n8_
             have NB163_156 := n9_
             have NB164_163 := n10_
             have NB163_164 := n11_
             have GW164 := n12_
             have GE164 := n13_
             have NB155_164 := n14_
             have NB164_155 := n15_
             have NB156_164 := n16_
             have NB164_156 := n17_
             have HB := n18_
             clear n0_ n1_ n2_ n3_ n4_ n5_ n6_ n7_ n8_ n9_ n10_ n11_ n12_ n13_ n14_ n15_ n16_ n17_ n18_
             have hHeld : w29.cell? ⟨gb155, 0, none⟩ = some (.int .i64 a0_0) ∧ w29.cell? ⟨gb155, 1, none⟩ = some (.int .i64 a0_1) ∧ w29.cell? ⟨gb155, 2, none⟩ = some (.int .i64 a0_2) ∧ w29.cell? ⟨gb155, 3, none⟩ = some (.int .i64 a0_3) ∧ w29.cell? ⟨gb155, 4, none⟩ = some (.int .i64 a0_4) ∧ w29.cell? ⟨gb155, 5, none⟩ = some (.int .i64 a0_5) ∧ w29.cell? ⟨gb156, 0, none⟩ = some (.int .i64 a1_0) ∧ w29.cell? ⟨gb156, 1, none⟩ = some (.int .i64 a1_1) ∧ w29.cell? ⟨gb156, 2, none⟩ = some (.int .i64 a1_2) ∧ w29.cell? ⟨gb156, 3, none⟩ = some (.int .i64 a1_3) ∧ w29.cell? ⟨gb156, 4, none⟩ = some (.int .i64 a1_4) ∧ w29.cell? ⟨gb156, 5, none⟩ = some (.int .i64 a1_5) := hS_
             refine norm_ (a' := ?_) ?_ ?_
             rotate_left
             ·simp only [putAll, Act.put, y1, y2, y3]
              rfl
             refine one_ (i := 2) (N := some 17) (bz 9 111) rfl rfl (one_of HT_.out (by kernel_rfl)) (by decide) (fun K hK => ?_)
             refine goes_ Try.func70 (by kernel_rfl) rfl #[.agg #[.int .i64 a0_0, .int .i64 a0_1, .int .i64 a0_2, .int .i64 a0_3, .int .i64 a0_4, .int .i64 a0_5], .agg #[.int .i64 a1_0, .int .i64 a1_1, .int .i64 a1_2, .int .i64 a1_3, .int .i64 a1_4, .int .i64 a1_5]] (by rfl) rfl rfl s4_5 ?_
             with_reducible refine (impl_bearing.calls a0_0 a0_1 a0_2 a0_3 a0_4 a0_5 a1_0 a1_1 a1_2 a1_3 a1_4 a1_5 t159 t160 _ A18.out).mono ?_
             rintro e w30 ⟨rfl, hb⟩
             refine ⟨_, rfl, ?_⟩
             have n0_ := Aside0.mk (bb (zk BK155.out) hb)
             have n1_ := Aside0.mk (bb (zk BK156.out) hb)
             have n2_ := Aside0.mk (bb (zk BK163.out) hb)
             have n3_ := Aside0.mk (bb (zk BK164.out) hb)
             have n4_ := Aside0.mk (below_step s4_3 hb)
             clear BK155 BK156 BK163 BK164 HB
             have BK155 := n0_
             have BK156 := n1_
             have BK163 := n2_
             have BK164 := n3_
             have HB := n4_
             clear n0_ n1_ n2_ n3_ n4_
             (try clear hb)
             (try clear hb2)
             (try clear hk)
             (try clear hi)
             refine hK.out _ _ ⟨bc BK155.out 0, bc BK155.out 1, bc BK155.out 2, bc BK155.out 3, bc BK155.out 4, bc BK155.out 5, bc BK156.out 0, bc BK156.out 1, bc BK156.out 2, bc BK156.out 3, bc BK156.out 4, bc BK156.out 5⟩ (fun hHeld => ?_)
             clear hK K
             refine norm_ (a' := ?_) ?_ ?_
             rotate_left
             ·show Act.put _ (some 17) _ = _
              simp only [Act.put, y1, y2, y3, i64_w, i32_w]
              rfl
             exact norm_ s4_4 (hJ2_5_6 (gb163, gb164) _ ⟨hHeld, (zk BK155.out), (zk BK156.out), (zk BK163.out), (zk BK164.out), GW163.out, GE163.out, NB155_163.out, NB163_155.out, NB156_163.out, NB163_156.out, NB164_163.out, NB163_164.out, GW164.out, GE164.out, NB155_164.out, NB164_155.out, NB156_164.out, NB164_156.out, s4_3⟩)
           ·skip
            rintro gb164 w29 ⟨hS_, h0_, h1_, h2_, h3_, h4_, h5_, h6_, h7_, h8_, h9_⟩
            have n0_ : Aside0 (w29.heap[gb155]? = some (.cells #[.int .i64 a0_0, .int .i64 a0_1, .int .i64 a0_2, .int .i64 a0_3, .int .i64 a0_4, .int .i64 a0_5] 25 (0, 0))) := ⟨h0_⟩
            have n1_ : Aside0 (w29.heap[gb156]? = some (.cells #[.int .i64 a1_0, .int .i64 a1_1, .int .i64 a1_2, .int .i64 a1_3, .int .i64 a1_4, .int .i64 a1_5] 25 (0, 0))) := ⟨h1_⟩
            have n2_ : Aside0 (w29.heap[gb164]? = some (.cells #[.int .i64 0, .int .i64 0] 89 (0, 0))) := ⟨h2_⟩
            have n3_ : Aside0 (w.heap.size ≤ gb164) := ⟨h3_⟩
            have n4_ : Aside0 (w.heap.size ≤ gb164) := ⟨h4_⟩
            have n5_ : Aside0 (gb155 ≠ gb164) := ⟨h5_⟩
            have n6_ : Aside0 (gb164 ≠ gb155) := ⟨h6_⟩
            have n7_ : Aside0 (gb156 ≠ gb164) := ⟨h7_⟩
            have n8_ : Aside0 (gb164 ≠ gb156) := ⟨h8_⟩
            have n9_ : Aside0 (Below w.heap.size w w29) := ⟨h9_⟩
            clear BK155 BK156 HB h0_ h1_ h2_ h3_ h4_ h5_ h6_ h7_ h8_ h9_
            have BK155 := n0_
            have BK156 := n1_
            have BK164 := n2_
            have GW164 := n3_
            have GE164 := n4_
            have NB155_164 := n5_
            have NB164_155 := n6_
            have NB156_164 := n7_
            have NB164_156 := n8_
            have HB := n9_
            clear n0_ n1_ n2_ n3_ n4_ n5_ n6_ n7_ n8_ n9_
            have hHeld : w29.cell? ⟨gb155, 0, none⟩ = some (.int .i64 a0_0) ∧ w29.cell? ⟨gb155, 1, none⟩ = some (.int .i64 a0_1) ∧ w29.cell? ⟨gb155, 2, none⟩ = some (.int .i64 a0_2) ∧ w29.cell? ⟨gb155, 3, none⟩ = some (.int .i64 a0_3) ∧ w29.cell? ⟨gb155, 4, none⟩ = some (.int .i64 a0_4) ∧ w29.cell? ⟨gb155, 5, none⟩ = some (.int .i64 a0_5) ∧ w29.cell? ⟨gb156, 0, none⟩ = some (.int .i64 a1_0) ∧ w29.cell? ⟨gb156, 1, none⟩ = some (.int .i64 a1_1) ∧ w29.cell? ⟨gb156, 2, none⟩ = some (.int .i64 a1_2) ∧ w29.cell? ⟨gb156, 3, none⟩ = some (.int .i64 a1_3) ∧ w29.cell? ⟨gb156, 4, none⟩ = some (.int .i64 a1_4) ∧ w29.cell? ⟨gb156, 5, none⟩ = some (.int .i64 a1_5) := hS_
            refine norm_ (a' := ?_) ?_ ?_
            rotate_left
            ·simp only [putAll, Act.put, y1, y2, y3]
             rfl
            refine two_ (i := 4) (j := 5) (Ni := some 19) (Nj := some 5) (bz 9 95) (bz 9 111) rfl rfl rfl rfl (two_of HT_.out (by kernel_rfl)) (by decide) (by decide) (fun K hK => ?_) (fun K hK => ?_)
            ·skip
             refine goes_ Try.func71 (by kernel_rfl) rfl #[.agg #[.int .i64 a1_0, .int .i64 a1_1, .int .i64 a1_2, .int .i64 a1_3, .int .i64 a1_4, .int .i64 a1_5]] (by rfl) rfl rfl s4_5 ?_
             with_reducible refine (impl_Ship_way.calls a1_0 a1_1 a1_2 a1_3 a1_4 a1_5 t161 t162 _ A19.out).mono ?_
             rintro e w30 ⟨rfl, hb⟩
             refine ⟨_, rfl, ?_⟩
             have n0_ := Aside0.mk (bb (zk BK155.out) hb)
             have n1_ := Aside0.mk (bb (zk BK156.out) hb)
             have n2_ := Aside0.mk (bb (zk BK164.out) hb)
             have n3_ := Aside0.mk (below_step s4_2 hb)
             clear BK155 BK156 BK164 HB
             have BK155 := n0_
             have BK156 := n1_
             have BK164 := n2_
             have HB := n3_
             clear n0_ n1_ n2_ n3_
             (try clear hb)
             (try clear hb2)
             (try clear hk)
             (try clear hi)
             refine hK.out _ _ ⟨bc BK155.out 0, bc BK155.out 1, bc BK155.out 2, bc BK155.out 3, bc BK155.out 4, bc BK155.out 5, bc BK156.out 0, bc BK156.out 1, bc BK156.out 2, bc BK156.out 3, bc BK156.out 4, bc BK156.out 5⟩ (fun hHeld => ?_)
             clear hK K
             refine norm_ (a' := ?_) ?_ ?_
             rotate_left
             ·show Act.put _ (some 19) _ = _
              simp only [Act.put, y1, y2, y3, i64_w, i32_w]
              rfl
             exact norm_ s4_4 (hJ2_4_6 (gb164) _ ⟨hHeld, (zk BK155.out), (zk BK156.out), (zk BK164.out), GW164.out, GE164.out, NB155_164.out, NB164_155.out, NB156_164.out, NB164_156.out, s4_2⟩)
            ·skip
             refine box_step ?hg (N := 5) ?hd (cs := #[.int .i64 0, .int .i64 0]) (t := 89) ?hr ?_; (case hd => rfl); (case hg => rfl); (case hr => first | (go_simp; done) | (go_simp; rfl))
             intro gb163 hg w30 hbox hb
             have n0_ := Aside0.mk (bb (zk BK155.out) hb)
             have n1_ := Aside0.mk (bb (zk BK156.out) hb)
             have n2_ := Aside0.mk (bb (zk BK164.out) hb)
             have n3_ := Aside0.mk (below_step s4_2 hb)
             have n4_ := Aside0.mk (hbox)
             have n5_ := Aside0.mk (ns hg s4_2 : w.heap.size ≤ gb163)
             have n6_ := Aside0.mk (ns hg s4_2 : w.heap.size ≤ gb163)
             have n7_ := Aside0.mk ((nlt hg (zk BK155.out) : gb155 ≠ gb163))
             have n8_ := Aside0.mk ((ngt hg (zk BK155.out) : gb163 ≠ gb155))
             have n9_ := Aside0.mk ((nlt hg (zk BK156.out) : gb156 ≠ gb163))
             have n10_ := Aside0.mk ((ngt hg (zk BK156.out) : gb163 ≠ gb156))
             have n11_ := Aside0.mk ((nlt hg (zk BK164.out) : gb164 ≠ gb163))
             have n12_ := Aside0.mk ((ngt hg (zk BK164.out) : gb163 ≠ gb164))
             clear BK155 BK156 BK164 HB
             have BK155 := n0_
             have BK156 := n1_
             have BK164 := n2_
             have HB := n3_
             have BK163 := n4_
             have GW163 := n5_
             have GE163 := n6_
             have NB155_163 := n7_
             have NB163_155 := n8_
             have NB156_163 := n9_
             have NB163_156 := n10_
             have NB164_163 := n11_
             have NB163_164 := n12_
             clear n0_ n1_ n2_ n3_ n4_ n5_ n6_ n7_ n8_ n9_ n10_ n11_ n12_ hb hbox hg
             refine hK.out _ _ ⟨bc BK155.out 0, bc BK155.out 1, bc BK155.out 2, bc BK155.out 3, bc BK155.out 4, bc BK155.out 5, bc BK156.out 0, bc BK156.out 1, bc BK156.out 2, bc BK156.out 3, bc BK156.out 4, bc BK156.out 5⟩ (fun hHeld => ?_)
             clear hK K
             refine norm_ (a' := ?_) ?_ ?_
             rotate_left
             ·show Act.put _ (some 5) _ = _
              simp only [Act.put, y1, y2, y3, i64_w, i32_w]
              rfl
             exact norm_ s4_4 (hJ2_5_6 (gb163, gb164) _ ⟨hHeld, (zk BK155.out), (zk BK156.out), (zk BK163.out), (zk BK164.out), GW163.out, GE163.out, NB155_163.out, NB163_155.out, NB156_163.out, NB163_156.out, NB164_163.out, NB163_164.out, GW164.out, GE164.out, NB155_164.out, NB164_155.out, NB156_164.out, NB164_156.out, s4_6⟩)
          ·skip
           rintro gb163 w29 ⟨hS_, h0_, h1_, h2_, h3_, h4_, h5_, h6_, h7_, h8_, h9_⟩
           have n0_ : Aside0 (w29.heap[gb155]? = some (.cells #[.int .i64 a0_0, .int .i64 a0_1, .int .i64 a0_2, .int .i64 a0_3, .int .i64 a0_4, .int .i64 a0_5] 25 (0, 0))) := ⟨h0_⟩
           have n1_ : Aside0 (w29.heap[gb156]? = some (.cells #[.int .i64 a1_0, .int .i64 a1_1, .int .i64 a1_2, .int .i64 a1_3, .int .i64 a1_4, .int .i64 a1_5] 25 (0, 0))) := ⟨h1_⟩
           have n2_ : Aside0 (w29.heap[gb163]? = some (.cells #[.int .i64 0, .int .i64 0] 89 (0, 0))) := ⟨h2_⟩
           have n3_ : Aside0 (w.heap.size ≤ gb163) := ⟨h3_⟩
           have n4_ : Aside0 (w.heap.size ≤ gb163) := ⟨h4_⟩
           have n5_ : Aside0 (gb155 ≠ gb163) := ⟨h5_⟩
           have n6_ : Aside0 (gb163 ≠ gb155) := ⟨h6_⟩
           have n7_ : Aside0 (gb156 ≠ gb163) := ⟨h7_⟩
           have n8_ : Aside0 (gb163 ≠ gb156) := ⟨h8_⟩
           have n9_ : Aside0 (Below w.heap.size w w29) := ⟨h9_⟩
           clear BK155 BK156 HB h0_ h1_ h2_ h3_ h4_ h5_ h6_ h7_ h8_ h9_
           have BK155 := n0_
           have BK156 := n1_
           have BK163 := n2_
           have GW163 := n3_
           have GE163 := n4_
           have NB155_163 := n5_
           have NB163_155 := n6_
           have NB156_163 := n7_
           have NB163_156 := n8_
           have HB := n9_
           clear n0_ n1_ n2_ n3_ n4_ n5_ n6_ n7_ n8_ n9_
           have hHeld : w29.cell? ⟨gb155, 0, none⟩ = some (.int .i64 a0_0) ∧ w29.cell? ⟨gb155, 1, none⟩ = some (.int .i64 a0_1) ∧ w29.cell? ⟨gb155, 2, none⟩ = some (.int .i64 a0_2) ∧ w29.cell? ⟨gb155, 3, none⟩ = some (.int .i64 a0_3) ∧ w29.cell? ⟨gb155, 4, none⟩ = some (.int .i64 a0_4) ∧ w29.cell? ⟨gb155, 5, none⟩ = some (.int .i64 a0_5) ∧ w29.cell? ⟨gb156, 0, none⟩ = some (.int .i64 a1_0) ∧ w29.cell? ⟨gb156, 1, none⟩ = some (.int .i64 a1_1) ∧ w29.cell? ⟨gb156, 2, none⟩ = some (.int .i64 a1_2) ∧ w29.cell? ⟨gb156, 3, none⟩ = some (.int .i64 a1_3) ∧ w29.cell? ⟨gb156, 4, none⟩ = some (.int .i64 a1_4) ∧ w29.cell? ⟨gb156, 5, none⟩ = some (.int .i64 a1_5) := hS_
           refine norm_ (a' := ?_) ?_ ?_
           rotate_left
           ·simp only [putAll, Act.put, y1, y2, y3]
            rfl
           refine two_ (i := 4) (j := 6) (Ni := some 19) (Nj := some 6) (bz 9 63) (bz 9 111) rfl rfl rfl rfl (two_of HT_.out (by kernel_rfl)) (by decide) (by decide) (fun K hK => ?_) (fun K hK => ?_)
           ·skip
            refine goes_ Try.func71 (by kernel_rfl) rfl #[.agg #[.int .i64 a1_0, .int .i64 a1_1, .int .i64 a1_2, .int .i64 a1_3, .int .i64 a1_4, .int .i64 a1_5]] (by rfl) rfl rfl s4_5 ?_
            with_reducible refine (impl_Ship_way.calls a1_0 a1_1 a1_2 a1_3 a1_4 a1_5 t161 t162 _ A19.out).mono ?_
            rintro e w30 ⟨rfl, hb⟩
            refine ⟨_, rfl, ?_⟩
            have n0_ := Aside0.mk (bb (zk BK155.out) hb)
            have n1_ := Aside0.mk (bb (zk BK156.out) hb)
            have n2_ := Aside0.mk (bb (zk BK163.out) hb)
            have n3_ := Aside0.mk (below_step s4_1 hb)
            clear BK155 BK156 BK163 HB
            have BK155 := n0_
            have BK156 := n1_
            have BK163 := n2_
            have HB := n3_
            clear n0_ n1_ n2_ n3_
            (try clear hb)
            (try clear hb2)
            (try clear hk)
            (try clear hi)
            refine hK.out _ _ ⟨bc BK155.out 0, bc BK155.out 1, bc BK155.out 2, bc BK155.out 3, bc BK155.out 4, bc BK155.out 5, bc BK156.out 0, bc BK156.out 1, bc BK156.out 2, bc BK156.out 3, bc BK156.out 4, bc BK156.out 5⟩ (fun hHeld => ?_)
            clear hK K
            refine norm_ (a' := ?_) ?_ ?_
            rotate_left
            ·show Act.put _ (some 19) _ = _
             simp only [Act.put, y1, y2, y3, i64_w, i32_w]
             rfl
            exact norm_ s4_4 (hJ2_4_5 (gb163) _ ⟨hHeld, (zk BK155.out), (zk BK156.out), (zk BK163.out), GW163.out, GE163.out, NB155_163.out, NB163_155.out, NB156_163.out, NB163_156.out, s4_1⟩)
           ·skip
            refine box_step ?hg (N := 6) ?hd (cs := #[.int .i64 0, .int .i64 0]) (t := 89) ?hr ?_; (case hd => rfl); (case hg => rfl); (case hr => first | (go_simp; done) | (go_simp; rfl))
            intro gb164 hg w30 hbox hb
            have n0_ := Aside0.mk (bb (zk BK155.out) hb)
            have n1_ := Aside0.mk (bb (zk BK156.out) hb)
            have n2_ := Aside0.mk (bb (zk BK163.out) hb)
            have n3_ := Aside0.mk (below_step s4_1 hb)
            have n4_ := Aside0.mk (hbox)
            have n5_ := Aside0.mk (ns hg s4_1 : w.heap.size ≤ gb164)
            have n6_ := Aside0.mk (ns hg s4_1 : w.heap.size ≤ gb164)
            have n7_ := Aside0.mk ((nlt hg (zk BK155.out) : gb155 ≠ gb164))
            have n8_ := Aside0.mk ((ngt hg (zk BK155.out) : gb164 ≠ gb155))
            have n9_ := Aside0.mk ((nlt hg (zk BK156.out) : gb156 ≠ gb164))
            have n10_ := Aside0.mk ((ngt hg (zk BK156.out) : gb164 ≠ gb156))
            have n11_ := Aside0.mk ((nlt hg (zk BK163.out) : gb163 ≠ gb164))
            have n12_ := Aside0.mk ((ngt hg (zk BK163.out) : gb164 ≠ gb163))
            clear BK155 BK156 BK163 HB
            have BK155 := n0_
            have BK156 := n1_
            have BK163 := n2_
            have HB := n3_
            have BK164 := n4_
            have GW164 := n5_
            have GE164 := n6_
            have NB155_164 := n7_
            have NB164_155 := n8_
            have NB156_164 := n9_
            have NB164_156 := n10_
            have NB163_164 := n11_
            have NB164_163 := n12_
            clear n0_ n1_ n2_ n3_ n4_ n5_ n6_ n7_ n8_ n9_ n10_ n11_ n12_ hb hbox hg
            refine hK.out _ _ ⟨bc BK155.out 0, bc BK155.out 1, bc BK155.out 2, bc BK155.out 3, bc BK155.out 4, bc BK155.out 5, bc BK156.out 0, bc BK156.out 1, bc BK156.out 2, bc BK156.out 3, bc BK156.out 4, bc BK156.out 5⟩ (fun hHeld => ?_)
            clear hK K
            refine norm_ (a' := ?_) ?_ ?_
            rotate_left
            ·show Act.put _ (some 6) _ = _
             simp only [Act.put, y1, y2, y3, i64_w, i32_w]
             rfl
            exact norm_ s4_4 (hJ2_5_6 (gb163, gb164) _ ⟨hHeld, (zk BK155.out), (zk BK156.out), (zk BK163.out), (zk BK164.out), GW163.out, GE163.out, NB155_163.out, NB163_155.out, NB156_163.out, NB163_156.out, NB164_163.out, NB163_164.out, GW164.out, GE164.out, NB155_164.out, NB164_155.out, NB156_164.out, NB164_156.out, s4_3⟩)
         ·skip
          rintro _ w29 ⟨hS_, h0_, h1_, h2_⟩
          have n0_ : Aside0 (w29.heap[gb155]? = some (.cells #[.int .i64 a0_0, .int .i64 a0_1, .int .i64 a0_2, .int .i64 a0_3, .int .i64 a0_4, .int .i64 a0_5] 25 (0, 0))) := ⟨h0_⟩
          have n1_ : Aside0 (w29.heap[gb156]? = some (.cells #[.int .i64 a1_0, .int .i64 a1_1, .int .i64 a1_2, .int .i64 a1_3, .int .i64 a1_4, .int .i64 a1_5] 25 (0, 0))) := ⟨h1_⟩
          have n2_ : Aside0 (Below w.heap.size w w29) := ⟨h2_⟩
          clear BK155 BK156 HB h0_ h1_ h2_
          have BK155 := n0_
          have BK156 := n1_
          have HB := n2_
          clear n0_ n1_ n2_
          have hHeld : w29.cell? ⟨gb155, 0, none⟩ = some (.int .i64 a0_0) ∧ w29.cell? ⟨gb155, 1, none⟩ = some (.int .i64 a0_1) ∧ w29.cell? ⟨gb155, 2, none⟩ = some (.int .i64 a0_2) ∧ w29.cell? ⟨gb155, 3, none⟩ = some (.int .i64 a0_3) ∧ w29.cell? ⟨gb155, 4, none⟩ = some (.int .i64 a0_4) ∧ w29.cell? ⟨gb155, 5, none⟩ = some (.int .i64 a0_5) ∧ w29.cell? ⟨gb156, 0, none⟩ = some (.int .i64 a1_0) ∧ w29.cell? ⟨gb156, 1, none⟩ = some (.int .i64 a1_1) ∧ w29.cell? ⟨gb156, 2, none⟩ = some (.int .i64 a1_2) ∧ w29.cell? ⟨gb156, 3, none⟩ = some (.int .i64 a1_3) ∧ w29.cell? ⟨gb156, 4, none⟩ = some (.int .i64 a1_4) ∧ w29.cell? ⟨gb156, 5, none⟩ = some (.int .i64 a1_5) := hS_
          refine norm_ (a' := ?_) ?_ ?_
          rotate_left
          ·simp only [putAll, Act.put, y1, y2, y3]
           rfl
          refine two_ (i := 5) (j := 6) (Ni := some 5) (Nj := some 6) (bz 9 63) (bz 9 95) rfl rfl rfl rfl (two_of HT_.out (by kernel_rfl)) (by decide) (by decide) (fun K hK => ?_) (fun K hK => ?_)
          ·skip
           refine box_step ?hg (N := 5) ?hd (cs := #[.int .i64 0, .int .i64 0]) (t := 89) ?hr ?_; (case hd => rfl); (case hg => rfl); (case hr => first | (go_simp; done) | (go_simp; rfl))
           intro gb163 hg w30 hbox hb
           have n0_ := Aside0.mk (bb (zk BK155.out) hb)
           have n1_ := Aside0.mk (bb (zk BK156.out) hb)
           have n2_ := Aside0.mk (below_step s4_0 hb)
           have n3_ := Aside0.mk (hbox)
           have n4_ := Aside0.mk (ns hg s4_0 : w.heap.size ≤ gb163)
           have n5_ := Aside0.mk (ns hg s4_0 : w.heap.size ≤ gb163)
           have n6_ := Aside0.mk ((nlt hg (zk BK155.out) : gb155 ≠ gb163))
           have n7_ := Aside0.mk ((ngt hg (zk BK155.out) : gb163 ≠ gb155))
           have n8_ := Aside0.mk ((nlt hg (zk BK156.out) : gb156 ≠ gb163))
           have n9_ := Aside0.mk ((ngt hg (zk BK156.out) : gb163 ≠ gb156))
           clear BK155 BK156 HB
           have BK155 := n0_
           have BK156 := n1_
           have HB := n2_
           have BK163 := n3_
           have GW163 := n4_
           have GE163 := n5_
           have NB155_163 := n6_
           have NB163_155 := n7_
           have NB156_163 := n8_
           have NB163_156 := n9_
           clear n0_ n1_ n2_ n3_ n4_ n5_ n6_ n7_ n8_ n9_ hb hbox hg
           refine hK.out _ _ ⟨bc BK155.out 0, bc BK155.out 1, bc BK155.out 2, bc BK155.out 3, bc BK155.out 4, bc BK155.out 5, bc BK156.out 0, bc BK156.out 1, bc BK156.out 2, bc BK156.out 3, bc BK156.out 4, bc BK156.out 5⟩ (fun hHeld => ?_)
           clear hK K
           refine norm_ (a' := ?_) ?_ ?_
           rotate_left
           ·show Act.put _ (some 5) _ = _
            simp only [Act.put, y1, y2, y3, i64_w, i32_w]
            rfl
           exact norm_ s4_4 (hJ2_4_5 (gb163) _ ⟨hHeld, (zk BK155.out), (zk BK156.out), (zk BK163.out), GW163.out, GE163.out, NB155_163.out, NB163_155.out, NB156_163.out, NB163_156.out, s4_1⟩)
          ·skip
           refine box_step ?hg (N := 6) ?hd (cs := #[.int .i64 0, .int .i64 0]) (t := 89) ?hr ?_; (case hd => rfl); (case hg => rfl); (case hr => first | (go_simp; done) | (go_simp; rfl))
           intro gb164 hg w30 hbox hb
           have n0_ := Aside0.mk (bb (zk BK155.out) hb)
           have n1_ := Aside0.mk (bb (zk BK156.out) hb)
           have n2_ := Aside0.mk (below_step s4_0 hb)
           have n3_ := Aside0.mk (hbox)
           have n4_ := Aside0.mk (ns hg s4_0 : w.heap.size ≤ gb164)
           have n5_ := Aside0.mk (ns hg s4_0 : w.heap.size ≤ gb164)
           have n6_ := Aside0.mk ((nlt hg (zk BK155.out) : gb155 ≠ gb164))
           have n7_ := Aside0.mk ((ngt hg (zk BK155.out) : gb164 ≠ gb155))
           have n8_ := Aside0.mk ((nlt hg (zk BK156.out) : gb156 ≠ gb164))
           have n9_ := Aside0.mk ((ngt hg (zk BK156.out) : gb164 ≠ gb156))
           clear BK155 BK156 HB
           have BK155 := n0_
           have BK156 := n1_
           have HB := n2_
           have BK164 := n3_
           have GW164 := n4_
           have GE164 := n5_
           have NB155_164 := n6_
           have NB164_155 := n7_
           have NB156_164 := n8_
           have NB164_156 := n9_
           clear n0_ n1_ n2_ n3_ n4_ n5_ n6_ n7_ n8_ n9_ hb hbox hg
           refine hK.out _ _ ⟨bc BK155.out 0, bc BK155.out 1, bc BK155.out 2, bc BK155.out 3, bc BK155.out 4, bc BK155.out 5, bc BK156.out 0, bc BK156.out 1, bc BK156.out 2, bc BK156.out 3, bc BK156.out 4, bc BK156.out 5⟩ (fun hHeld => ?_)
           clear hK K
           refine norm_ (a' := ?_) ?_ ?_
           rotate_left
           ·show Act.put _ (some 6) _ = _
            simp only [Act.put, y1, y2, y3, i64_w, i32_w]
            rfl
           exact norm_ s4_4 (hJ2_4_6 (gb164) _ ⟨hHeld, (zk BK155.out), (zk BK156.out), (zk BK164.out), GW164.out, GE164.out, NB155_164.out, NB164_155.out, NB156_164.out, NB164_156.out, s4_2⟩)
        ·skip
         rintro ⟨gb163, gb164⟩ w30 ⟨hS_, h0_, h1_, h2_, h3_, h4_, h5_, h6_, h7_, h8_, h9_, h10_, h11_, h12_, h13_, h14_, h15_, h16_, h17_, h18_⟩
         have n0_ : Aside0 (w30.heap[gb155]? = some (.cells #[.int .i64 a0_0, .int .i64 a0_1, .int .i64 a0_2, .int .i64 a0_3, .int .i64 a0_4, .int .i64 a0_5] 25 (0, 0))) := ⟨h0_⟩
         have n1_ : Aside0 (w30.heap[gb156]? = some (.cells #[.int .i64 a1_0, .int .i64 a1_1, .int .i64 a1_2, .int .i64 a1_3, .int .i64 a1_4, .int .i64 a1_5] 25 (0, 0))) := ⟨h1_⟩
         have n2_ : Aside0 (w30.heap[gb163]? = some (.cells #[.int .i64 0, .int .i64 0] 89 (0, 0))) := ⟨h2_⟩
         have n3_ : Aside0 (w30.heap[gb164]? = some (.cells #[.int .i64 0, .int .i64 0] 89 (0, 0))) := ⟨h3_⟩
         have n4_ : Aside0 (w.heap.size ≤ gb163) := ⟨h4_⟩
         have n5_ : Aside0 (w.heap.size ≤ gb163) := ⟨h5_⟩
         have n6_ : Aside0 (gb155 ≠ gb163) := ⟨h6_⟩
         have n7_ : Aside0 (gb163 ≠ gb155) := ⟨h7_⟩
         have n8_ : Aside0 (gb156 ≠ gb163) := ⟨h8_⟩
         have n9_ : Aside0 (gb163 ≠ gb156) := ⟨h9_⟩
         have n10_ : Aside0 (gb164 ≠ gb163) := ⟨h10_⟩
         have n11_ : Aside0 (gb163 ≠ gb164) := ⟨h11_⟩
         have n12_ : Aside0 (w.heap.size ≤ gb164) := ⟨h12_⟩
         have n13_ : Aside0 (w.heap.size ≤ gb164) := ⟨h13_⟩
         have n14_ : Aside0 (gb155 ≠ gb164) := ⟨h14_⟩
         have n15_ : Aside0 (gb164 ≠ gb155) := ⟨h15_⟩
         have n16_ : Aside0 (gb156 ≠ gb164) := ⟨h16_⟩
         have n17_ : Aside0 (gb164 ≠ gb156) := ⟨h17_⟩
         have n18_ : Aside0 (Below w.heap.size w w30) := ⟨h18_⟩
         clear BK155 BK156 HB h0_ h1_ h2_ h3_ h4_ h5_ h6_ h7_ h8_ h9_ h10_ h11_ h12_ h13_ h14_ h15_ h16_ h17_ h18_
         have BK155 := n0_
         have BK156 := n1_
         have BK163 := n2_
         have BK164 := n3_
         have GW163 := n4_
         have GE163 := n5_
         have NB155_163 := n6_
         have NB163_155 := n7_
         have NB156_163 := n8_
         have NB163_156 := n9_
         have NB164_163 := n10_
         have NB163_164 := n11_
         have GW164 := n12_
         have GE164 := n13_
         have NB155_164 := n14_
         have NB164_155 := n15_
         have NB156_164 := n16_
         have NB164_156 := n17_
         have HB := n18_
         clear n0_ n1_ n2_ n3_ n4_ n5_ n6_ n7_ n8_ n9_ n10_ n11_ n12_ n13_ n14_ n15_ n16_ n17_ n18_
         have hHeld : w30.cell? ⟨gb155, 0, none⟩ = some (.int .i64 a0_0) ∧ w30.cell? ⟨gb155, 1, none⟩ = some (.int .i64 a0_1) ∧ w30.cell? ⟨gb155, 2, none⟩ = some (.int .i64 a0_2) ∧ w30.cell? ⟨gb155, 3, none⟩ = some (.int .i64 a0_3) ∧ w30.cell? ⟨gb155, 4, none⟩ = some (.int .i64 a0_4) ∧ w30.cell? ⟨gb155, 5, none⟩ = some (.int .i64 a0_5) ∧ w30.cell? ⟨gb156, 0, none⟩ = some (.int .i64 a1_0) ∧ w30.cell? ⟨gb156, 1, none⟩ = some (.int .i64 a1_1) ∧ w30.cell? ⟨gb156, 2, none⟩ = some (.int .i64 a1_2) ∧ w30.cell? ⟨gb156, 3, none⟩ = some (.int .i64 a1_3) ∧ w30.cell? ⟨gb156, 4, none⟩ = some (.int .i64 a1_4) ∧ w30.cell? ⟨gb156, 5, none⟩ = some (.int .i64 a1_5) := hS_
         refine norm_ (a' := ?_) ?_ ?_
         rotate_left
         ·simp only [putAll, Act.put, y1, y2, y3]
          rfl
         refine one_ (i := 4) (N := some 19) (bz 9 127) rfl rfl (one_of HT_.out (by kernel_rfl)) (by decide) (fun K hK => ?_)
         refine goes_ Try.func71 (by kernel_rfl) rfl #[.agg #[.int .i64 a1_0, .int .i64 a1_1, .int .i64 a1_2, .int .i64 a1_3, .int .i64 a1_4, .int .i64 a1_5]] (by rfl) rfl rfl s4_5 ?_
         with_reducible refine (impl_Ship_way.calls a1_0 a1_1 a1_2 a1_3 a1_4 a1_5 t161 t162 _ A19.out).mono ?_
         rintro e w31 ⟨rfl, hb⟩
         refine ⟨_, rfl, ?_⟩
         have n0_ := Aside0.mk (bb (zk BK155.out) hb)
         have n1_ := Aside0.mk (bb (zk BK156.out) hb)
         have n2_ := Aside0.mk (bb (zk BK163.out) hb)
         have n3_ := Aside0.mk (bb (zk BK164.out) hb)
         have n4_ := Aside0.mk (below_step s4_3 hb)
         clear BK155 BK156 BK163 BK164 HB
         have BK155 := n0_
         have BK156 := n1_
         have BK163 := n2_
         have BK164 := n3_
         have HB := n4_
         clear n0_ n1_ n2_ n3_ n4_
         (try clear hb)
         (try clear hb2)
         (try clear hk)
         (try clear hi)
         refine hK.out _ _ ⟨bc BK155.out 0, bc BK155.out 1, bc BK155.out 2, bc BK155.out 3, bc BK155.out 4, bc BK155.out 5, bc BK156.out 0, bc BK156.out 1, bc BK156.out 2, bc BK156.out 3, bc BK156.out 4, bc BK156.out 5⟩ (fun hHeld => ?_)
         clear hK K
         refine norm_ (a' := ?_) ?_ ?_
         rotate_left
         ·show Act.put _ (some 19) _ = _
          simp only [Act.put, y1, y2, y3, i64_w, i32_w]
          rfl
         exact norm_ s4_4 (hJ2_4_5_6 (gb163, gb164) _ ⟨hHeld, (zk BK155.out), (zk BK156.out), (zk BK163.out), (zk BK164.out), GW163.out, GE163.out, NB155_163.out, NB163_155.out, NB156_163.out, NB163_156.out, NB164_163.out, NB163_164.out, GW164.out, GE164.out, NB155_164.out, NB164_155.out, NB156_164.out, NB164_156.out, s4_3⟩)
       ·skip
        rintro gb164 w30 ⟨hS_, h0_, h1_, h2_, h3_, h4_, h5_, h6_, h7_, h8_, h9_⟩
        have n0_ : Aside0 (w30.heap[gb155]? = some (.cells #[.int .i64 a0_0, .int .i64 a0_1, .int .i64 a0_2, .int .i64 a0_3, .int .i64 a0_4, .int .i64 a0_5] 25 (0, 0))) := ⟨h0_⟩
        have n1_ : Aside0 (w30.heap[gb156]? = some (.cells #[.int .i64 a1_0, .int .i64 a1_1, .int .i64 a1_2, .int .i64 a1_3, .int .i64 a1_4, .int .i64 a1_5] 25 (0, 0))) := ⟨h1_⟩
        have n2_ : Aside0 (w30.heap[gb164]? = some (.cells #[.int .i64 0, .int .i64 0] 89 (0, 0))) := ⟨h2_⟩
        have n3_ : Aside0 (w.heap.size ≤ gb164) := ⟨h3_⟩
        have n4_ : Aside0 (w.heap.size ≤ gb164) := ⟨h4_⟩
        have n5_ : Aside0 (gb155 ≠ gb164) := ⟨h5_⟩
        have n6_ : Aside0 (gb164 ≠ gb155) := ⟨h6_⟩
        have n7_ : Aside0 (gb156 ≠ gb164) := ⟨h7_⟩
        have n8_ : Aside0 (gb164 ≠ gb156) := ⟨h8_⟩
        have n9_ : Aside0 (Below w.heap.size w w30) := ⟨h9_⟩
        clear BK155 BK156 HB h0_ h1_ h2_ h3_ h4_ h5_ h6_ h7_ h8_ h9_
        have BK155 := n0_
        have BK156 := n1_
        have BK164 := n2_
        have GW164 := n3_
        have GE164 := n4_
        have NB155_164 := n5_
        have NB164_155 := n6_
        have NB156_164 := n7_
        have NB164_156 := n8_
        have HB := n9_
        clear n0_ n1_ n2_ n3_ n4_ n5_ n6_ n7_ n8_ n9_
        have hHeld : w30.cell? ⟨gb155, 0, none⟩ = some (.int .i64 a0_0) ∧ w30.cell? ⟨gb155, 1, none⟩ = some (.int .i64 a0_1) ∧ w30.cell? ⟨gb155, 2, none⟩ = some (.int .i64 a0_2) ∧ w30.cell? ⟨gb155, 3, none⟩ = some (.int .i64 a0_3) ∧ w30.cell? ⟨gb155, 4, none⟩ = some (.int .i64 a0_4) ∧ w30.cell? ⟨gb155, 5, none⟩ = some (.int .i64 a0_5) ∧ w30.cell? ⟨gb156, 0, none⟩ = some (.int .i64 a1_0) ∧ w30.cell? ⟨gb156, 1, none⟩ = some (.int .i64 a1_1) ∧ w30.cell? ⟨gb156, 2, none⟩ = some (.int .i64 a1_2) ∧ w30.cell? ⟨gb156, 3, none⟩ = some (.int .i64 a1_3) ∧ w30.cell? ⟨gb156, 4, none⟩ = some (.int .i64 a1_4) ∧ w30.cell? ⟨gb156, 5, none⟩ = some (.int .i64 a1_5) := hS_
        refine norm_ (a' := ?_) ?_ ?_
        rotate_left
        ·simp only [putAll, Act.put, y1, y2, y3]
         rfl
        refine one_ (i := 5) (N := some 5) (bz 9 127) rfl rfl (one_of HT_.out (by kernel_rfl)) (by decide) (fun K hK => ?_)
        refine box_step ?hg (N := 5) ?hd (cs := #[.int .i64 0, .int .i64 0]) (t := 89) ?hr ?_; (case hd => rfl); (case hg => rfl); (case hr => first | (go_simp; done) | (go_simp; rfl))
        intro gb163 hg w31 hbox hb
        have n0_ := Aside0.mk (bb (zk BK155.out) hb)
        have n1_ := Aside0.mk (bb (zk BK156.out) hb)
        have n2_ := Aside0.mk (bb (zk BK164.out) hb)
        have n3_ := Aside0.mk (below_step s4_2 hb)
        have n4_ := Aside0.mk (hbox)
        have n5_ := Aside0.mk (ns hg s4_2 : w.heap.size ≤ gb163)
        have n6_ := Aside0.mk (ns hg s4_2 : w.heap.size ≤ gb163)
        have n7_ := Aside0.mk ((nlt hg (zk BK155.out) : gb155 ≠ gb163))
        have n8_ := Aside0.mk ((ngt hg (zk BK155.out) : gb163 ≠ gb155))
        have n9_ := Aside0.mk ((nlt hg (zk BK156.out) : gb156 ≠ gb163))
        have n10_ := Aside0.mk ((ngt hg (zk BK156.out) : gb163 ≠ gb156))
        have n11_ := Aside0.mk ((nlt hg (zk BK164.out) : gb164 ≠ gb163))
        have n12_ := Aside0.mk ((ngt hg (zk BK164.out) : gb163 ≠ gb164))
        clear BK155 BK156 BK164 HB
        have BK155 := n0_
        have BK156 := n1_
        have BK164 := n2_
        have HB := n3_
        have BK163 := n4_
        have GW163 := n5_
        have GE163 := n6_
        have NB155_163 := n7_
        have NB163_155 := n8_
        have NB156_163 := n9_
        have NB163_156 := n10_
        have NB164_163 := n11_
        have NB163_164 := n12_
        clear n0_ n1_ n2_ n3_ n4_ n5_ n6_ n7_ n8_ n9_ n10_ n11_ n12_ hb hbox hg
        refine hK.out _ _ ⟨bc BK155.out 0, bc BK155.out 1, bc BK155.out 2, bc BK155.out 3, bc BK155.out 4, bc BK155.out 5, bc BK156.out 0, bc BK156.out 1, bc BK156.out 2, bc BK156.out 3, bc BK156.out 4, bc BK156.out 5⟩ (fun hHeld => ?_)
        clear hK K
        refine norm_ (a' := ?_) ?_ ?_
        rotate_left
        ·show Act.put _ (some 5) _ = _
         simp only [Act.put, y1, y2, y3, i64_w, i32_w]
         rfl
        exact norm_ s4_4 (hJ2_4_5_6 (gb163, gb164) _ ⟨hHeld, (zk BK155.out), (zk BK156.out), (zk BK163.out), (zk BK164.out), GW163.out, GE163.out, NB155_163.out, NB163_155.out, NB156_163.out, NB163_156.out, NB164_163.out, NB163_164.out, GW164.out, GE164.out, NB155_164.out, NB164_155.out, NB156_164.out, NB164_156.out, s4_6⟩)
      ·skip
       rintro gb163 w30 ⟨hS_, h0_, h1_, h2_, h3_, h4_, h5_, h6_, h7_, h8_, h9_⟩
       have n0_ : Aside0 (w30.heap[gb155]? = some (.cells #[.int .i64 a0_0, .int .i64 a0_1, .int .i64 a0_2, .int .i64 a0_3, .int .i64 a0_4, .int .i64 a0_5] 25 (0, 0))) := ⟨h0_⟩
       have n1_ : Aside0 (w30.heap[gb156]? = some (.cells #[.int .i64 a1_0, .int .i64 a1_1, .int .i64 a1_2, .int .i64 a1_3, .int .i64 a1_4, .int .i64 a1_5] 25 (0, 0))) := ⟨h1_⟩
       have n2_ : Aside0 (w30.heap[gb163]? = some (.cells #[.int .i64 0, .int .i64 0] 89 (0, 0))) := ⟨h2_⟩
       have n3_ : Aside0 (w.heap.size ≤ gb163) := ⟨h3_⟩
       have n4_ : Aside0 (w.heap.size ≤ gb163) := ⟨h4_⟩
       have n5_ : Aside0 (gb155 ≠ gb163) := ⟨h5_⟩
       have n6_ : Aside0 (gb163 ≠ gb155) := ⟨h6_⟩
       have n7_ : Aside0 (gb156 ≠ gb163) := ⟨h7_⟩
       have n8_ : Aside0 (gb163 ≠ gb156) := ⟨h8_⟩
       have n9_ : Aside0 (Below w.heap.size w w30) := ⟨h9_⟩
       clear BK155 BK156 HB h0_ h1_ h2_ h3_ h4_ h5_ h6_ h7_ h8_ h9_
       have BK155 := n0_
       have BK156 := n1_
       have BK163 := n2_
       have GW163 := n3_
       have GE163 := n4_
       have NB155_163 := n5_
       have NB163_155 := n6_
       have NB156_163 := n7_
       have NB163_156 := n8_
       have HB := n9_
       clear n0_ n1_ n2_ n3_ n4_ n5_ n6_ n7_ n8_ n9_
       have hHeld : w30.cell? ⟨gb155, 0, none⟩ = some (.int .i64 a0_0) ∧ w30.cell? ⟨gb155, 1, none⟩ = some (.int .i64 a0_1) ∧ w30.cell? ⟨gb155, 2, none⟩ = some (.int .i64 a0_2) ∧ w30.cell? ⟨gb155, 3, none⟩ = some (.int .i64 a0_3) ∧ w30.cell? ⟨gb155, 4, none⟩ = some (.int .i64 a0_4) ∧ w30.cell? ⟨gb155, 5, none⟩ = some (.int .i64 a0_5) ∧ w30.cell? ⟨gb156, 0, none⟩ = some (.int .i64 a1_0) ∧ w30.cell? ⟨gb156, 1, none⟩ = some (.int .i64 a1_1) ∧ w30.cell? ⟨gb156, 2, none⟩ = some (.int .i64 a1_2) ∧ w30.cell? ⟨gb156, 3, none⟩ = some (.int .i64 a1_3) ∧ w30.cell? ⟨gb156, 4, none⟩ = some (.int .i64 a1_4) ∧ w30.cell? ⟨gb156, 5, none⟩ = some (.int .i64 a1_5) := hS_
       refine norm_ (a' := ?_) ?_ ?_
       rotate_left
       ·simp only [putAll, Act.put, y1, y2, y3]
        rfl
       refine one_ (i := 6) (N := some 6) (bz 9 127) rfl rfl (one_of HT_.out (by kernel_rfl)) (by decide) (fun K hK => ?_)
       refine box_step ?hg (N := 6) ?hd (cs := #[.int .i64 0, .int .i64 0]) (t := 89) ?hr ?_; (case hd => rfl); (case hg => rfl); (case hr => first | (go_simp; done) | (go_simp; rfl))
       intro gb164 hg w31 hbox hb
       have n0_ := Aside0.mk (bb (zk BK155.out) hb)
       have n1_ := Aside0.mk (bb (zk BK156.out) hb)
       have n2_ := Aside0.mk (bb (zk BK163.out) hb)
       have n3_ := Aside0.mk (below_step s4_1 hb)
       have n4_ := Aside0.mk (hbox)
       have n5_ := Aside0.mk (ns hg s4_1 : w.heap.size ≤ gb164)
       have n6_ := Aside0.mk (ns hg s4_1 : w.heap.size ≤ gb164)
       have n7_ := Aside0.mk ((nlt hg (zk BK155.out) : gb155 ≠ gb164))
       have n8_ := Aside0.mk ((ngt hg (zk BK155.out) : gb164 ≠ gb155))
       have n9_ := Aside0.mk ((nlt hg (zk BK156.out) : gb156 ≠ gb164))
       have n10_ := Aside0.mk ((ngt hg (zk BK156.out) : gb164 ≠ gb156))
       have n11_ := Aside0.mk ((nlt hg (zk BK163.out) : gb163 ≠ gb164))
       have n12_ := Aside0.mk ((ngt hg (zk BK163.out) : gb164 ≠ gb163))
       clear BK155 BK156 BK163 HB
       have BK155 := n0_
       have BK156 := n1_
       have BK163 := n2_
       have HB := n3_
       have BK164 := n4_
       have GW164 := n5_
       have GE164 := n6_
       have NB155_164 := n7_
       have NB164_155 := n8_
       have NB156_164 := n9_
       have NB164_156 := n10_
       have NB163_164 := n11_
       have NB164_163 := n12_
       clear n0_ n1_ n2_ n3_ n4_ n5_ n6_ n7_ n8_ n9_ n10_ n11_ n12_ hb hbox hg
       refine hK.out _ _ ⟨bc BK155.out 0, bc BK155.out 1, bc BK155.out 2, bc BK155.out 3, bc BK155.out 4, bc BK155.out 5, bc BK156.out 0, bc BK156.out 1, bc BK156.out 2, bc BK156.out 3, bc BK156.out 4, bc BK156.out 5⟩ (fun hHeld => ?_)
       clear hK K
       refine norm_ (a' := ?_) ?_ ?_
       rotate_left
       ·show Act.put _ (some 6) _ = _
        simp only [Act.put, y1, y2, y3, i64_w, i32_w]
        rfl
       exact norm_ s4_4 (hJ2_4_5_6 (gb163, gb164) _ ⟨hHeld, (zk BK155.out), (zk BK156.out), (zk BK163.out), (zk BK164.out), GW163.out, GE163.out, NB155_163.out, NB163_155.out, NB156_163.out, NB163_156.out, NB164_163.out, NB163_164.out, GW164.out, GE164.out, NB155_164.out, NB164_155.out, NB156_164.out, NB164_156.out, s4_3⟩)
     rintro ⟨gb163, gb164⟩ w31 ⟨hS_, h0_, h1_, h2_, h3_, h4_, h5_, h6_, h7_, h8_, h9_, h10_, h11_, h12_, h13_, h14_, h15_, h16_, h17_, h18_⟩
     have n0_ : Aside0 (w31.heap[gb155]? = some (.cells #[.int .i64 a0_0, .int .i64 a0_1, .int .i64 a0_2, .int .i64 a0_3, .int .i64 a0_4, .int .i64 a0_5] 25 (0, 0))) := ⟨h0_⟩
     have n1_ : Aside0 (w31.heap[gb156]? = some (.cells #[.int .i64 a1_0, .int .i64 a1_1, .int .i64 a1_2, .int .i64 a1_3, .int .i64 a1_4, .int .i64 a1_5] 25 (0, 0))) := ⟨h1_⟩
     have n2_ : Aside0 (w31.heap[gb163]? = some (.cells #[.int .i64 0, .int .i64 0] 89 (0, 0))) := ⟨h2_⟩
     have n3_ : Aside0 (w31.heap[gb164]? = some (.cells #[.int .i64 0, .int .i64 0] 89 (0, 0))) := ⟨h3_⟩
     have n4_ : Aside0 (w.heap.size ≤ gb163) := ⟨h4_⟩
     have n5_ : Aside0 (w.heap.size ≤ gb163) := ⟨h5_⟩
     have n6_ : Aside0 (gb155 ≠ gb163) := ⟨h6_⟩
     have n7_ : Aside0 (gb163 ≠ gb155) := ⟨h7_⟩
     have n8_ : Aside0 (gb156 ≠ gb163) := ⟨h8_⟩
     have n9_ : Aside0 (gb163 ≠ gb156) := ⟨h9_⟩
     have n10_ : Aside0 (gb164 ≠ gb163) := ⟨h10_⟩
     have n11_ : Aside0 (gb163 ≠ gb164) := ⟨h11_⟩
     have n12_ : Aside0 (w.heap.size ≤ gb164) := ⟨h12_⟩
     have n13_ : Aside0 (w.heap.size ≤ gb164) := ⟨h13_⟩
     have n14_ : Aside0 (gb155 ≠ gb164) := ⟨h14_⟩
     have n15_ : Aside0 (gb164 ≠ gb155) := ⟨h15_⟩
     have n16_ : Aside0 (gb156 ≠ gb164) := ⟨h16_⟩
     have n17_ : Aside0 (gb164 ≠ gb156) := ⟨h17_⟩
     have n18_ : Aside0 (Below w.heap.size w w31) := ⟨h18_⟩
     clear BK155 BK156 HB h0_ h1_ h2_ h3_ h4_ h5_ h6_ h7_ h8_ h9_ h10_ h11_ h12_ h13_ h14_ h15_ h16_ h17_ h18_
     have BK155 := n0_
     have BK156 := n1_
     have BK163 := n2_
     have BK164 := n3_
     have GW163 := n4_
     have GE163 := n5_
     have NB155_163 := n6_
     have NB163_155 := n7_
     have NB156_163 := n8_
     have NB163_156 := n9_
     have NB164_163 := n10_
     have NB163_164 := n11_
     have GW164 := n12_
     have GE164 := n13_
     have NB155_164 := n14_
     have NB164_155 := n15_
     have NB156_164 := n16_
     have NB164_156 := n17_
     have HB := n18_
     clear n0_ n1_ n2_ n3_ n4_ n5_ n6_ n7_ n8_ n9_ n10_ n11_ n12_ n13_ n14_ n15_ n16_ n17_ n18_
     have hHeld : w31.cell? ⟨gb155, 0, none⟩ = some (.int .i64 a0_0) ∧ w31.cell? ⟨gb155, 1, none⟩ = some (.int .i64 a0_1) ∧ w31.cell? ⟨gb155, 2, none⟩ = some (.int .i64 a0_2) ∧ w31.cell? ⟨gb155, 3, none⟩ = some (.int .i64 a0_3) ∧ w31.cell? ⟨gb155, 4, none⟩ = some (.int .i64 a0_4) ∧ w31.cell? ⟨gb155, 5, none⟩ = some (.int .i64 a0_5) ∧ w31.cell? ⟨gb156, 0, none⟩ = some (.int .i64 a1_0) ∧ w31.cell? ⟨gb156, 1, none⟩ = some (.int .i64 a1_1) ∧ w31.cell? ⟨gb156, 2, none⟩ = some (.int .i64 a1_2) ∧ w31.cell? ⟨gb156, 3, none⟩ = some (.int .i64 a1_3) ∧ w31.cell? ⟨gb156, 4, none⟩ = some (.int .i64 a1_4) ∧ w31.cell? ⟨gb156, 5, none⟩ = some (.int .i64 a1_5) := hS_
     refine norm_ (a' := ?_) ?_ ?_
     rotate_left
     ·simp only [putAll, Act.put, y1, y2, y3]
      rfl
     refine one_ (i := 7) (N := none) (bz 9 255) rfl rfl (one_of HT_.out (by kernel_rfl)) (by decide) (fun K hK => ?_)
     have hs32 : w31.cell? ⟨gb163, 0, none⟩ = some (.int .i64 0) := bc BK163.out 0
     have hfs32 := blk_frozen BK163.out 0
     have hns32_0 := NB155_163.out
     have hns32_1 := NB156_163.out
     have hns32_3 := NB164_163.out
     have hms32_0 := NB163_155.out
     have hms32_1 := NB163_156.out
     have hms32_3 := NB163_164.out
     have hs33 : w31.cell? ⟨gb163, 1, none⟩ = some (.int .i64 0) := bc BK163.out 1
     have hfs33 := blk_frozen BK163.out 1
     have hns33_0 := NB155_163.out
     have hns33_1 := NB156_163.out
     have hns33_3 := NB164_163.out
     have hms33_0 := NB163_155.out
     have hms33_1 := NB163_156.out
     have hms33_3 := NB163_164.out
     refine skip_ (w1 := ?_) (by rfl) rfl ?_ ?_
     rotate_left
     ·go_simp
      rfl
     refine hK.out _ _ ⟨((cell_far (p := ⟨gb163, _, none⟩) NB155_163.out _).trans (((cell_far (p := ⟨gb163, _, none⟩) NB155_163.out _).trans (hHeld.1)))), ((cell_far (p := ⟨gb163, _, none⟩) NB155_163.out _).trans (((cell_far (p := ⟨gb163, _, none⟩) NB155_163.out _).trans (hHeld.2.1)))), ((cell_far (p := ⟨gb163, _, none⟩) NB155_163.out _).trans (((cell_far (p := ⟨gb163, _, none⟩) NB155_163.out _).trans (hHeld.2.2.1)))), ((cell_far (p := ⟨gb163, _, none⟩) NB155_163.out _).trans (((cell_far (p := ⟨gb163, _, none⟩) NB155_163.out _).trans (hHeld.2.2.2.1)))), ((cell_far (p := ⟨gb163, _, none⟩) NB155_163.out _).trans (((cell_far (p := ⟨gb163, _, none⟩) NB155_163.out _).trans (hHeld.2.2.2.2.1)))), ((cell_far (p := ⟨gb163, _, none⟩) NB155_163.out _).trans (((cell_far (p := ⟨gb163, _, none⟩) NB155_163.out _).trans (hHeld.2.2.2.2.2.1)))), ((cell_far (p := ⟨gb163, _, none⟩) NB156_163.out _).trans (((cell_far (p := ⟨gb163, _, none⟩) NB156_163.out _).trans (hHeld.2.2.2.2.2.2.1)))), ((cell_far (p := ⟨gb163, _, none⟩) NB156_163.out _).trans (((cell_far (p := ⟨gb163, _, none⟩) NB156_163.out _).trans (hHeld.2.2.2.2.2.2.2.1)))), ((cell_far (p := ⟨gb163, _, none⟩) NB156_163.out _).trans (((cell_far (p := ⟨gb163, _, none⟩) NB156_163.out _).trans (hHeld.2.2.2.2.2.2.2.2.1)))), ((cell_far (p := ⟨gb163, _, none⟩) NB156_163.out _).trans (((cell_far (p := ⟨gb163, _, none⟩) NB156_163.out _).trans (hHeld.2.2.2.2.2.2.2.2.2.1)))), ((cell_far (p := ⟨gb163, _, none⟩) NB156_163.out _).trans (((cell_far (p := ⟨gb163, _, none⟩) NB156_163.out _).trans (hHeld.2.2.2.2.2.2.2.2.2.2.1)))), ((cell_far (p := ⟨gb163, _, none⟩) NB156_163.out _).trans (((cell_far (p := ⟨gb163, _, none⟩) NB156_163.out _).trans (hHeld.2.2.2.2.2.2.2.2.2.2.2))))⟩ (fun hHeld => ?_)
     clear hK K
     refine one_ (i := 8) (N := none) (bz 9 511) rfl rfl (one_of HT_.out (by kernel_rfl)) (by decide) (fun K hK => ?_)
     have hs34 : w31.cell? ⟨gb164, 0, none⟩ = some (.int .i64 0) := bc BK164.out 0
     have hfs34 := blk_frozen BK164.out 0
     have hns34_0 := NB155_164.out
     have hns34_1 := NB156_164.out
     have hns34_2 := NB163_164.out
     have hms34_0 := NB164_155.out
     have hms34_1 := NB164_156.out
     have hms34_2 := NB164_163.out
     have hs35 : w31.cell? ⟨gb164, 1, none⟩ = some (.int .i64 0) := bc BK164.out 1
     have hfs35 := blk_frozen BK164.out 1
     have hns35_0 := NB155_164.out
     have hns35_1 := NB156_164.out
     have hns35_2 := NB163_164.out
     have hms35_0 := NB164_155.out
     have hms35_1 := NB164_156.out
     have hms35_2 := NB164_163.out
     refine skip_ (w1 := ?_) (by rfl) rfl ?_ ?_
     rotate_left
     ·go_simp
      rfl
     refine hK.out _ _ ⟨((cell_far (p := ⟨gb164, _, none⟩) NB155_164.out _).trans (((cell_far (p := ⟨gb164, _, none⟩) NB155_164.out _).trans (hHeld.1)))), ((cell_far (p := ⟨gb164, _, none⟩) NB155_164.out _).trans (((cell_far (p := ⟨gb164, _, none⟩) NB155_164.out _).trans (hHeld.2.1)))), ((cell_far (p := ⟨gb164, _, none⟩) NB155_164.out _).trans (((cell_far (p := ⟨gb164, _, none⟩) NB155_164.out _).trans (hHeld.2.2.1)))), ((cell_far (p := ⟨gb164, _, none⟩) NB155_164.out _).trans (((cell_far (p := ⟨gb164, _, none⟩) NB155_164.out _).trans (hHeld.2.2.2.1)))), ((cell_far (p := ⟨gb164, _, none⟩) NB155_164.out _).trans (((cell_far (p := ⟨gb164, _, none⟩) NB155_164.out _).trans (hHeld.2.2.2.2.1)))), ((cell_far (p := ⟨gb164, _, none⟩) NB155_164.out _).trans (((cell_far (p := ⟨gb164, _, none⟩) NB155_164.out _).trans (hHeld.2.2.2.2.2.1)))), ((cell_far (p := ⟨gb164, _, none⟩) NB156_164.out _).trans (((cell_far (p := ⟨gb164, _, none⟩) NB156_164.out _).trans (hHeld.2.2.2.2.2.2.1)))), ((cell_far (p := ⟨gb164, _, none⟩) NB156_164.out _).trans (((cell_far (p := ⟨gb164, _, none⟩) NB156_164.out _).trans (hHeld.2.2.2.2.2.2.2.1)))), ((cell_far (p := ⟨gb164, _, none⟩) NB156_164.out _).trans (((cell_far (p := ⟨gb164, _, none⟩) NB156_164.out _).trans (hHeld.2.2.2.2.2.2.2.2.1)))), ((cell_far (p := ⟨gb164, _, none⟩) NB156_164.out _).trans (((cell_far (p := ⟨gb164, _, none⟩) NB156_164.out _).trans (hHeld.2.2.2.2.2.2.2.2.2.1)))), ((cell_far (p := ⟨gb164, _, none⟩) NB156_164.out _).trans (((cell_far (p := ⟨gb164, _, none⟩) NB156_164.out _).trans (hHeld.2.2.2.2.2.2.2.2.2.2.1)))), ((cell_far (p := ⟨gb164, _, none⟩) NB156_164.out _).trans (((cell_far (p := ⟨gb164, _, none⟩) NB156_164.out _).trans (hHeld.2.2.2.2.2.2.2.2.2.2.2))))⟩ (fun hHeld => ?_)
     clear hK K
     refine done_ (done_of HT_.out (by kernel_rfl)) ?_
     try go_wp2
     have n0_ : Aside0 (((((w31.setCell ⟨gb163, 0, none⟩ (.int .i64 t159)).setCell ⟨gb163, 1, none⟩ (.int .i64 t160)).setCell ⟨gb164, 0, none⟩ (.int .i64 t161)).setCell ⟨gb164, 1, none⟩ (.int .i64 t162)).heap[gb155]? = some (.cells #[.int .i64 a0_0, .int .i64 a0_1, .int .i64 a0_2, .int .i64 a0_3, .int .i64 a0_4, .int .i64 a0_5] 25 (0, 0))) := ⟨by (with_reducible repeat (first | refine blk_drewN ?_ _ | refine blk_drew ?_ | refine blk_alloc ?_ _)); refine blk_far ?_ NB155_164.out _; (with_reducible repeat (first | refine blk_drewN ?_ _ | refine blk_drew ?_ | refine blk_alloc ?_ _)); refine blk_far ?_ NB155_164.out _; (with_reducible repeat (first | refine blk_drewN ?_ _ | refine blk_drew ?_ | refine blk_alloc ?_ _)); refine blk_far ?_ NB155_163.out _; (with_reducible repeat (first | refine blk_drewN ?_ _ | refine blk_drew ?_ | refine blk_alloc ?_ _)); refine blk_far ?_ NB155_163.out _; (with_reducible repeat (first | refine blk_drewN ?_ _ | refine blk_drew ?_ | refine blk_alloc ?_ _)); exact BK155.out⟩
     have n1_ : Aside0 (((((w31.setCell ⟨gb163, 0, none⟩ (.int .i64 t159)).setCell ⟨gb163, 1, none⟩ (.int .i64 t160)).setCell ⟨gb164, 0, none⟩ (.int .i64 t161)).setCell ⟨gb164, 1, none⟩ (.int .i64 t162)).heap[gb156]? = some (.cells #[.int .i64 a1_0, .int .i64 a1_1, .int .i64 a1_2, .int .i64 a1_3, .int .i64 a1_4, .int .i64 a1_5] 25 (0, 0))) := ⟨by (with_reducible repeat (first | refine blk_drewN ?_ _ | refine blk_drew ?_ | refine blk_alloc ?_ _)); refine blk_far ?_ NB156_164.out _; (with_reducible repeat (first | refine blk_drewN ?_ _ | refine blk_drew ?_ | refine blk_alloc ?_ _)); refine blk_far ?_ NB156_164.out _; (with_reducible repeat (first | refine blk_drewN ?_ _ | refine blk_drew ?_ | refine blk_alloc ?_ _)); refine blk_far ?_ NB156_163.out _; (with_reducible repeat (first | refine blk_drewN ?_ _ | refine blk_drew ?_ | refine blk_alloc ?_ _)); refine blk_far ?_ NB156_163.out _; (with_reducible repeat (first | refine blk_drewN ?_ _ | refine blk_drew ?_ | refine blk_alloc ?_ _)); exact BK156.out⟩
     have n2_ : Aside0 (((((w31.setCell ⟨gb163, 0, none⟩ (.int .i64 t159)).setCell ⟨gb163, 1, none⟩ (.int .i64 t160)).setCell ⟨gb164, 0, none⟩ (.int .i64 t161)).setCell ⟨gb164, 1, none⟩ (.int .i64 t162)).heap[gb163]? = some (.cells #[.int .i64 t159, .int .i64 t160] 89 (0, 0))) := ⟨by (with_reducible repeat (first | refine blk_drewN ?_ _ | refine blk_drew ?_ | refine blk_alloc ?_ _)); refine blk_far ?_ NB163_164.out _; (with_reducible repeat (first | refine blk_drewN ?_ _ | refine blk_drew ?_ | refine blk_alloc ?_ _)); refine blk_far ?_ NB163_164.out _; (with_reducible repeat (first | refine blk_drewN ?_ _ | refine blk_drew ?_ | refine blk_alloc ?_ _)); refine blk_put (cs := #[.int .i64 t159, .int .i64 0]) ?_ 1 _ rfl; (with_reducible repeat (first | refine blk_drewN ?_ _ | refine blk_drew ?_ | refine blk_alloc ?_ _)); refine blk_put (cs := #[.int .i64 0, .int .i64 0]) ?_ 0 _ rfl; (with_reducible repeat (first | refine blk_drewN ?_ _ | refine blk_drew ?_ | refine blk_alloc ?_ _)); exact BK163.out⟩
     have n3_ : Aside0 (((((w31.setCell ⟨gb163, 0, none⟩ (.int .i64 t159)).setCell ⟨gb163, 1, none⟩ (.int .i64 t160)).setCell ⟨gb164, 0, none⟩ (.int .i64 t161)).setCell ⟨gb164, 1, none⟩ (.int .i64 t162)).heap[gb164]? = some (.cells #[.int .i64 t161, .int .i64 t162] 89 (0, 0))) := ⟨by (with_reducible repeat (first | refine blk_drewN ?_ _ | refine blk_drew ?_ | refine blk_alloc ?_ _)); refine blk_put (cs := #[.int .i64 t161, .int .i64 0]) ?_ 1 _ rfl; (with_reducible repeat (first | refine blk_drewN ?_ _ | refine blk_drew ?_ | refine blk_alloc ?_ _)); refine blk_put (cs := #[.int .i64 0, .int .i64 0]) ?_ 0 _ rfl; (with_reducible repeat (first | refine blk_drewN ?_ _ | refine blk_drew ?_ | refine blk_alloc ?_ _)); refine blk_far ?_ NB164_163.out _; (with_reducible repeat (first | refine blk_drewN ?_ _ | refine blk_drew ?_ | refine blk_alloc ?_ _)); refine blk_far ?_ NB164_163.out _; (with_reducible repeat (first | refine blk_drewN ?_ _ | refine blk_drew ?_ | refine blk_alloc ?_ _)); exact BK164.out⟩
     have n4_ : Aside0 (Below w.heap.size w ((((w31.setCell ⟨gb163, 0, none⟩ (.int .i64 t159)).setCell ⟨gb163, 1, none⟩ (.int .i64 t160)).setCell ⟨gb164, 0, none⟩ (.int .i64 t161)).setCell ⟨gb164, 1, none⟩ (.int .i64 t162))) := ⟨by repeat (first | (with_reducible first | exact HB.out | apply below_alloc | apply pw_below_drewN | apply below_drew1 | refine below_set ?_ GE155.out | refine below_set ?_ GE156.out | refine below_set ?_ GE163.out | refine below_set ?_ GE164.out) | exact HB.out)⟩
     (try clear BK155)
     (try clear BK156)
     (try clear BK163)
     (try clear BK164)
     (try clear HB)
     generalize ((((w31.setCell ⟨gb163, 0, none⟩ (.int .i64 t159)).setCell ⟨gb163, 1, none⟩ (.int .i64 t160)).setCell ⟨gb164, 0, none⟩ (.int .i64 t161)).setCell ⟨gb164, 1, none⟩ (.int .i64 t162)) = w36 at n0_ n1_ n2_ n3_ n4_ ⊢
     have BK155 := n0_
     have BK156 := n1_
     have BK163 := n2_
     have BK164 := n3_
     have HB := n4_
     clear n0_ n1_ n2_ n3_ n4_
     have n0_ := Aside0.mk (blk_drew BK155.out)
     have n1_ := Aside0.mk (blk_drew BK156.out)
     have n2_ := Aside0.mk (blk_drew BK163.out)
     have n3_ := Aside0.mk (blk_drew BK164.out)
     have n4_ := Aside0.mk (below_drew1 HB.out)
     clear BK155 BK156 BK163 BK164 HB
     have BK155 := n0_
     have BK156 := n1_
     have BK163 := n2_
     have BK164 := n3_
     have HB := n4_
     clear n0_ n1_ n2_ n3_ n4_
     refine start_ (n := 18) (S := fun w' => w'.cell? ⟨gb163, 0, none⟩ = some (.int .i64 t159) ∧ w'.cell? ⟨gb163, 1, none⟩ = some (.int .i64 t160) ∧ w'.cell? ⟨gb164, 0, none⟩ = some (.int .i64 t161) ∧ w'.cell? ⟨gb164, 1, none⟩ = some (.int .i64 t162)) (ds := []) #[false, false, false, false, false, false, false, false, false, false, false, false, false, false, false, false, false, false] (by kernel_rfl) rfl rfl ⟨bc BK163.out 0, bc BK163.out 1, bc BK164.out 0, bc BK164.out 1⟩ (fun hHeld => ?_); refine with_tabW impl_Behind.tab4 impl_Behind.bits4 (fun HT_ HW_ => ?_)
     generalize w36.drew = w37 at BK155 BK156 BK163 BK164 HB hHeld ⊢
     refine take_ (i := 0) (N := some 20) (v := ?_) (a' := ?_) (bz 18 1) rfl rfl (take_ofW HT_.out HW_.out (by kernel_rfl)) (fun _ _ _ h => h) (Or.inl ⟨by rfl, ?_⟩) hHeld ?_ ?_
     rotate_left
     ·rintro w' ⟨s0, s1, s2, s3⟩
      go_simp
      with_reducible rfl
     rotate_left
     ·simp only [Act.put, y1, y2, y3, i64_w, i32_w]
      rfl
     refine take_ (i := 1) (N := some 21) (v := ?_) (a' := ?_) (bz 18 3) rfl rfl (take_ofW HT_.out HW_.out (by kernel_rfl)) (fun _ _ _ h => h) (Or.inl ⟨by rfl, ?_⟩) hHeld ?_ ?_
     rotate_left
     ·rintro w' ⟨s0, s1, s2, s3⟩
      go_simp
      with_reducible rfl
     rotate_left
     ·simp only [Act.put, y1, y2, y3, i64_w, i32_w]
      rfl
     refine one_ (i := 2) (N := some 22) (bz 18 7) rfl rfl (one_of HT_.out (by kernel_rfl)) (by decide) (fun K hK => ?_)
     refine goes_ Try.func72 (by kernel_rfl) rfl #[.agg #[.int .i64 t159, .int .i64 t160], .agg #[.int .i64 t161, .int .i64 t162]] (by rfl) rfl rfl s4_5 ?_
     with_reducible refine (impl_vec_dot.calls t159 t160 t161 t162 t165 _ A20.out).mono ?_
     rintro e w38 ⟨rfl, hb⟩
     refine ⟨_, rfl, ?_⟩
     have n0_ := Aside0.mk (bb (zk BK155.out) hb)
     have n1_ := Aside0.mk (bb (zk BK156.out) hb)
     have n2_ := Aside0.mk (bb (zk BK163.out) hb)
     have n3_ := Aside0.mk (bb (zk BK164.out) hb)
     have n4_ := Aside0.mk (below_step s4_3 hb)
     clear BK155 BK156 BK163 BK164 HB
     have BK155 := n0_
     have BK156 := n1_
     have BK163 := n2_
     have BK164 := n3_
     have HB := n4_
     clear n0_ n1_ n2_ n3_ n4_
     (try clear hb)
     (try clear hb2)
     (try clear hk)
     (try clear hi)
     refine hK.out _ _ ⟨bc BK163.out 0, bc BK163.out 1, bc BK164.out 0, bc BK164.out 1⟩ (fun hHeld => ?_)
     clear hK K
     refine norm_ (a' := ?_) ?_ ?_
     rotate_left
     ·show Act.put _ (some 22) _ = _
      simp only [Act.put, y1, y2, y3, i64_w, i32_w]
      rfl
     refine pure_ (i := 3) (N := some 23) (v := ?_) (a' := ?_) (bz 18 15) rfl rfl (any_of HT_.out (by kernel_rfl)) (fun _ _ _ h => h) (Or.inl ⟨by rfl, ?_⟩) ?_ ?_
     rotate_left
     ·intro w'
      go_simp
      with_reducible rfl
     rotate_left
     ·simp only [Act.put, y1, y2, y3, i64_w, i32_w]
      rfl
     refine pure_ (i := 4) (N := some 24) (v := ?_) (a' := ?_) (bz 18 31) rfl rfl (any_of HT_.out (by kernel_rfl)) (fun _ _ _ h => h) (Or.inl ⟨by rfl, ?_⟩) ?_ ?_
     rotate_left
     ·intro w'
      go_simp
      with_reducible rfl
     rotate_left
     ·simp only [Act.put, y1, y2, y3, i64_w, i32_w]
      rfl
     refine take_ (i := 5) (N := some 25) (v := ?_) (a' := ?_) (bz 18 63) rfl rfl (take_ofW HT_.out HW_.out (by kernel_rfl)) (fun _ _ _ h => h) (Or.inl ⟨by rfl, ?_⟩) hHeld ?_ ?_
     rotate_left
     ·rintro w' ⟨s0, s1, s2, s3⟩
      go_simp
      with_reducible rfl
     rotate_left
     ·simp only [Act.put, y1, y2, y3, i64_w, i32_w]
      rfl
     refine take_ (i := 6) (N := some 26) (v := ?_) (a' := ?_) (bz 18 127) rfl rfl (take_ofW HT_.out HW_.out (by kernel_rfl)) (fun _ _ _ h => h) (Or.inl ⟨by rfl, ?_⟩) hHeld ?_ ?_
     rotate_left
     ·rintro w' ⟨s0, s1, s2, s3⟩
      go_simp
      with_reducible rfl
     rotate_left
     ·simp only [Act.put, y1, y2, y3, i64_w, i32_w]
      rfl
     refine take_ (i := 10) (N := some 30) (v := ?_) (a' := ?_) (bz 18 1151) rfl rfl (take_ofW HT_.out HW_.out (by kernel_rfl)) (fun _ _ _ h => h) (Or.inl ⟨by rfl, ?_⟩) hHeld ?_ ?_
     rotate_left
     ·rintro w' ⟨s0, s1, s2, s3⟩
      go_simp
      with_reducible rfl
     rotate_left
     ·simp only [Act.put, y1, y2, y3, i64_w, i32_w]
      rfl
     refine take_ (i := 11) (N := some 31) (v := ?_) (a' := ?_) (bz 18 3199) rfl rfl (take_ofW HT_.out HW_.out (by kernel_rfl)) (fun _ _ _ h => h) (Or.inl ⟨by rfl, ?_⟩) hHeld ?_ ?_
     rotate_left
     ·rintro w' ⟨s0, s1, s2, s3⟩
      go_simp
      with_reducible rfl
     rotate_left
     ·simp only [Act.put, y1, y2, y3, i64_w, i32_w]
      rfl
     refine one_ (i := 7) (N := some 27) (bz 18 3327) rfl rfl (one_of HT_.out (by kernel_rfl)) (by decide) (fun K hK => ?_)
     refine goes_ Try.func74 (by kernel_rfl) rfl #[.agg #[.int .i64 t159, .int .i64 t160], .agg #[.int .i64 t161, .int .i64 t162]] (by rfl) rfl rfl s4_5 ?_
     with_reducible refine (impl_vec_cross.calls t159 t160 t161 t162 t166 _ A22.out).mono ?_
     rintro e w39 ⟨rfl, hb⟩
     refine ⟨_, rfl, ?_⟩
     have n0_ := Aside0.mk (bb (zk BK155.out) hb)
     have n1_ := Aside0.mk (bb (zk BK156.out) hb)
     have n2_ := Aside0.mk (bb (zk BK163.out) hb)
     have n3_ := Aside0.mk (bb (zk BK164.out) hb)
     have n4_ := Aside0.mk (below_step s4_3 hb)
     clear BK155 BK156 BK163 BK164 HB
     have BK155 := n0_
     have BK156 := n1_
     have BK163 := n2_
     have BK164 := n3_
     have HB := n4_
     clear n0_ n1_ n2_ n3_ n4_
     (try clear hb)
     (try clear hb2)
     (try clear hk)
     (try clear hi)
     refine hK.out _ _ ⟨bc BK163.out 0, bc BK163.out 1, bc BK164.out 0, bc BK164.out 1⟩ (fun hHeld => ?_)
     clear hK K
     refine norm_ (a' := ?_) ?_ ?_
     rotate_left
     ·show Act.put _ (some 27) _ = _
      simp only [Act.put, y1, y2, y3, i64_w, i32_w]
      rfl
     refine one_ (i := 8) (N := some 28) (bz 18 3583) rfl rfl (one_of HT_.out (by kernel_rfl)) (by decide) (fun K hK => ?_)
     refine goes_ Try.func73 (by kernel_rfl) rfl #[.int .i64 t166] (by rfl) rfl rfl s4_5 ?_
     with_reducible refine (impl_square.calls t166 t167 _ A23.out).mono ?_
     rintro e w' ⟨rfl, ⟨nd, rfl⟩⟩
     refine ⟨_, rfl, ?_⟩
     refine hK.out _ _ ⟨bc BK163.out 0, bc BK163.out 1, bc BK164.out 0, bc BK164.out 1⟩ (fun hHeld => ?_)
     clear hK K
     refine norm_ (a' := ?_) ?_ ?_
     rotate_left
     ·show Act.put _ (some 28) _ = _
      simp only [Act.put, y1, y2, y3, i64_w, i32_w]
      rfl
     refine pure_ (i := 9) (N := some 29) (v := ?_) (a' := ?_) (bz 18 4095) rfl rfl (any_of HT_.out (by kernel_rfl)) (fun _ _ _ h => h) (Or.inl ⟨by rfl, ?_⟩) ?_ ?_
     rotate_left
     ·intro w'
      go_simp
      with_reducible rfl
     rotate_left
     ·simp only [Act.put, y1, y2, y3, i64_w, i32_w]
      rfl
     refine one_ (i := 12) (N := some 32) (bz 18 8191) rfl rfl (one_of HT_.out (by kernel_rfl)) (by decide) (fun K hK => ?_)
     refine goes_ Try.func72 (by kernel_rfl) rfl #[.agg #[.int .i64 t159, .int .i64 t160], .agg #[.int .i64 t161, .int .i64 t162]] (by rfl) rfl rfl s4_5 ?_
     with_reducible refine (impl_vec_dot.calls t159 t160 t161 t162 t168 _ A24.out).mono ?_
     rintro e w40 ⟨rfl, hb⟩
     refine ⟨_, rfl, ?_⟩
     have n0_ := Aside0.mk (bb (zk BK155.out) hb)
     have n1_ := Aside0.mk (bb (zk BK156.out) hb)
     have n2_ := Aside0.mk (bb (zk BK163.out) hb)
     have n3_ := Aside0.mk (bb (zk BK164.out) hb)
     have n4_ := Aside0.mk (below_step s4_3 hb)
     clear BK155 BK156 BK163 BK164 HB
     have BK155 := n0_
     have BK156 := n1_
     have BK163 := n2_
     have BK164 := n3_
     have HB := n4_
     clear n0_ n1_ n2_ n3_ n4_
     (try clear hb)
     (try clear hb2)
     (try clear hk)
     (try clear hi)
     refine hK.out _ _ ⟨bc BK163.out 0, bc BK163.out 1, bc BK164.out 0, bc BK164.out 1⟩ (fun hHeld => ?_)
     clear hK K
     refine norm_ (a' := ?_) ?_ ?_
     rotate_left
     ·show Act.put _ (some 32) _ = _
      simp only [Act.put, y1, y2, y3, i64_w, i32_w]
      rfl
     refine one_ (i := 13) (N := some 33) (bz 18 16383) rfl rfl (one_of HT_.out (by kernel_rfl)) (by decide) (fun K hK => ?_)
     refine goes_ Try.func73 (by kernel_rfl) rfl #[.int .i64 t168] (by rfl) rfl rfl s4_5 ?_
     with_reducible refine (impl_square.calls t168 t169 _ A25.out).mono ?_
     rintro e w' ⟨rfl, ⟨nd, rfl⟩⟩
     refine ⟨_, rfl, ?_⟩
     refine hK.out _ _ ⟨bc BK163.out 0, bc BK163.out 1, bc BK164.out 0, bc BK164.out 1⟩ (fun hHeld => ?_)
     clear hK K
     refine norm_ (a' := ?_) ?_ ?_
     rotate_left
     ·show Act.put _ (some 33) _ = _
      simp only [Act.put, y1, y2, y3, i64_w, i32_w]
      rfl
     refine pure_ (i := 14) (N := some 34) (v := ?_) (a' := ?_) (bz 18 32767) rfl rfl (any_of HT_.out (by kernel_rfl)) (fun _ _ _ h => h) (Or.inl ⟨by rfl, ?_⟩) ?_ ?_
     rotate_left
     ·intro w'
      go_simp
      with_reducible rfl
     rotate_left
     ·simp only [Act.put, y1, y2, y3, i64_w, i32_w]
      rfl
     refine pure_ (i := 15) (N := some 35) (v := ?_) (a' := ?_) (bz 18 65535) rfl rfl (any_of HT_.out (by kernel_rfl)) (fun _ _ _ h => h) (Or.inl ⟨by rfl, ?_⟩) ?_ ?_
     rotate_left
     ·intro w'
      go_simp
      with_reducible rfl
     rotate_left
     ·simp only [Act.put, y1, y2, y3, i64_w, i32_w]
      rfl
     refine pure_ (i := 16) (N := some 36) (v := ?_) (a' := ?_) (bz 18 131071) rfl rfl (any_of HT_.out (by kernel_rfl)) (fun _ _ _ h => h) (Or.inl ⟨by rfl, ?_⟩) ?_ ?_
     rotate_left
     ·intro w'
      go_simp
      with_reducible rfl
     rotate_left
     ·simp only [Act.put, y1, y2, y3, i64_w, i32_w]
      rfl
     refine pure_ (i := 17) (N := some 4) (v := ?_) (a' := ?_) (bz 18 262143) rfl rfl (any_of HT_.out (by kernel_rfl)) (fun _ _ _ h => h) (Or.inl ⟨by rfl, ?_⟩) ?_ ?_
     rotate_left
     ·intro w'
      go_simp
      with_reducible rfl
     rotate_left
     ·simp only [Act.put, y1, y2, y3, i64_w, i32_w]
      rfl
     refine done_ (done_of HT_.out (by kernel_rfl)) ?_
     try go_wp2
     go_ret
     exact ⟨by first | rfl | (simp [errW_none, errW_some] <;> rfl) | (simp [*, errW_none, errW_some] <;> rfl), by repeat (first | (with_reducible first | exact HB.out | apply below_alloc | apply pw_below_drewN | apply below_drew1 | refine below_set ?_ GE155.out | refine below_set ?_ GE156.out | refine below_set ?_ GE163.out | refine below_set ?_ GE164.out) | exact HB.out)⟩
    ·rw [if_neg c21] at H
     have c21b0 : decide (t165 < 0) = false := decide_eq_false c21
     clear c21
     obtain rfl := Option.some.inj H
     try go_wp2
     have n0_ := Aside0.mk (blk_drew BK155.out)
     have n1_ := Aside0.mk (blk_drew BK156.out)
     have n2_ := Aside0.mk (below_drew1 HB.out)
     clear BK155 BK156 HB
     have BK155 := n0_
     have BK156 := n1_
     have HB := n2_
     clear n0_ n1_ n2_
     refine start_ (n := 9) (S := fun w' => w'.cell? ⟨gb155, 0, none⟩ = some (.int .i64 a0_0) ∧ w'.cell? ⟨gb155, 1, none⟩ = some (.int .i64 a0_1) ∧ w'.cell? ⟨gb155, 2, none⟩ = some (.int .i64 a0_2) ∧ w'.cell? ⟨gb155, 3, none⟩ = some (.int .i64 a0_3) ∧ w'.cell? ⟨gb155, 4, none⟩ = some (.int .i64 a0_4) ∧ w'.cell? ⟨gb155, 5, none⟩ = some (.int .i64 a0_5) ∧ w'.cell? ⟨gb156, 0, none⟩ = some (.int .i64 a1_0) ∧ w'.cell? ⟨gb156, 1, none⟩ = some (.int .i64 a1_1) ∧ w'.cell? ⟨gb156, 2, none⟩ = some (.int .i64 a1_2) ∧ w'.cell? ⟨gb156, 3, none⟩ = some (.int .i64 a1_3) ∧ w'.cell? ⟨gb156, 4, none⟩ = some (.int .i64 a1_4) ∧ w'.cell? ⟨gb156, 5, none⟩ = some (.int .i64 a1_5)) (ds := []) #[false, false, false, false, false, false, false, false, false] (by kernel_rfl) rfl rfl ⟨bc BK155.out 0, bc BK155.out 1, bc BK155.out 2, bc BK155.out 3, bc BK155.out 4, bc BK155.out 5, bc BK156.out 0, bc BK156.out 1, bc BK156.out 2, bc BK156.out 3, bc BK156.out 4, bc BK156.out 5⟩ (fun hHeld => ?_); refine with_tabW impl_Behind.tab3 impl_Behind.bits3 (fun HT_ HW_ => ?_)
     generalize wc.drew = w41 at BK155 BK156 HB hHeld ⊢
     refine take_ (i := 0) (N := some 15) (v := ?_) (a' := ?_) (bz 9 1) rfl rfl (take_ofW HT_.out HW_.out (by kernel_rfl)) (fun _ _ _ h => h) (Or.inl ⟨by rfl, ?_⟩) hHeld ?_ ?_
     rotate_left
     ·rintro w' ⟨s0, s1, s2, s3, s4, s5, s6, s7, s8, s9, s10, s11⟩
      go_simp
      with_reducible rfl
     rotate_left
     ·simp only [Act.put, y1, y2, y3, i64_w, i32_w]
      rfl
     refine take_ (i := 1) (N := some 16) (v := ?_) (a' := ?_) (bz 9 3) rfl rfl (take_ofW HT_.out HW_.out (by kernel_rfl)) (fun _ _ _ h => h) (Or.inl ⟨by rfl, ?_⟩) hHeld ?_ ?_
     rotate_left
     ·rintro w' ⟨s0, s1, s2, s3, s4, s5, s6, s7, s8, s9, s10, s11⟩
      go_simp
      with_reducible rfl
     rotate_left
     ·simp only [Act.put, y1, y2, y3, i64_w, i32_w]
      rfl
     refine take_ (i := 3) (N := some 18) (v := ?_) (a' := ?_) (bz 9 11) rfl rfl (take_ofW HT_.out HW_.out (by kernel_rfl)) (fun _ _ _ h => h) (Or.inl ⟨by rfl, ?_⟩) hHeld ?_ ?_
     rotate_left
     ·rintro w' ⟨s0, s1, s2, s3, s4, s5, s6, s7, s8, s9, s10, s11⟩
      go_simp
      with_reducible rfl
     rotate_left
     ·simp only [Act.put, y1, y2, y3, i64_w, i32_w]
      rfl
     refine join_ (σ := Nat × Nat) 2 (bz 9 127) (fun s_ => [(17, .agg #[.int .i64 t159, .int .i64 t160]), (19, .agg #[.int .i64 t161, .int .i64 t162]), (5, .pointer (some ⟨s_.1, 0, none⟩)), (6, .pointer (some ⟨s_.2, 0, none⟩))]) (fun s_ w' => (w'.cell? ⟨gb155, 0, none⟩ = some (.int .i64 a0_0) ∧ w'.cell? ⟨gb155, 1, none⟩ = some (.int .i64 a0_1) ∧ w'.cell? ⟨gb155, 2, none⟩ = some (.int .i64 a0_2) ∧ w'.cell? ⟨gb155, 3, none⟩ = some (.int .i64 a0_3) ∧ w'.cell? ⟨gb155, 4, none⟩ = some (.int .i64 a0_4) ∧ w'.cell? ⟨gb155, 5, none⟩ = some (.int .i64 a0_5) ∧ w'.cell? ⟨gb156, 0, none⟩ = some (.int .i64 a1_0) ∧ w'.cell? ⟨gb156, 1, none⟩ = some (.int .i64 a1_1) ∧ w'.cell? ⟨gb156, 2, none⟩ = some (.int .i64 a1_2) ∧ w'.cell? ⟨gb156, 3, none⟩ = some (.int .i64 a1_3) ∧ w'.cell? ⟨gb156, 4, none⟩ = some (.int .i64 a1_4) ∧ w'.cell? ⟨gb156, 5, none⟩ = some (.int .i64 a1_5)) ∧ (w'.heap[gb155]? = some (.cells #[.int .i64 a0_0, .int .i64 a0_1, .int .i64 a0_2, .int .i64 a0_3, .int .i64 a0_4, .int .i64 a0_5] 25 (0, 0))) ∧ (w'.heap[gb156]? = some (.cells #[.int .i64 a1_0, .int .i64 a1_1, .int .i64 a1_2, .int .i64 a1_3, .int .i64 a1_4, .int .i64 a1_5] 25 (0, 0))) ∧ (w'.heap[s_.1]? = some (.cells #[.int .i64 0, .int .i64 0] 89 (0, 0))) ∧ (w'.heap[s_.2]? = some (.cells #[.int .i64 0, .int .i64 0] 89 (0, 0))) ∧ (w.heap.size ≤ s_.1) ∧ (w.heap.size ≤ s_.1) ∧ (gb155 ≠ s_.1) ∧ (s_.1 ≠ gb155) ∧ (gb156 ≠ s_.1) ∧ (s_.1 ≠ gb156) ∧ (s_.2 ≠ s_.1) ∧ (s_.1 ≠ s_.2) ∧ (w.heap.size ≤ s_.2) ∧ (w.heap.size ≤ s_.2) ∧ (gb155 ≠ s_.2) ∧ (s_.2 ≠ gb155) ∧ (gb156 ≠ s_.2) ∧ (s_.2 ≠ gb156) ∧ (Below w.heap.size w w')) ?_ ?_
     rotate_left
     ·intro hJ2_4_5_6
      refine join_ (σ := Nat) 3 (bz 9 63) (fun s_ => [(17, .agg #[.int .i64 t159, .int .i64 t160]), (19, .agg #[.int .i64 t161, .int .i64 t162]), (5, .pointer (some ⟨s_, 0, none⟩))]) (fun s_ w' => (w'.cell? ⟨gb155, 0, none⟩ = some (.int .i64 a0_0) ∧ w'.cell? ⟨gb155, 1, none⟩ = some (.int .i64 a0_1) ∧ w'.cell? ⟨gb155, 2, none⟩ = some (.int .i64 a0_2) ∧ w'.cell? ⟨gb155, 3, none⟩ = some (.int .i64 a0_3) ∧ w'.cell? ⟨gb155, 4, none⟩ = some (.int .i64 a0_4) ∧ w'.cell? ⟨gb155, 5, none⟩ = some (.int .i64 a0_5) ∧ w'.cell? ⟨gb156, 0, none⟩ = some (.int .i64 a1_0) ∧ w'.cell? ⟨gb156, 1, none⟩ = some (.int .i64 a1_1) ∧ w'.cell? ⟨gb156, 2, none⟩ = some (.int .i64 a1_2) ∧ w'.cell? ⟨gb156, 3, none⟩ = some (.int .i64 a1_3) ∧ w'.cell? ⟨gb156, 4, none⟩ = some (.int .i64 a1_4) ∧ w'.cell? ⟨gb156, 5, none⟩ = some (.int .i64 a1_5)) ∧ (w'.heap[gb155]? = some (.cells #[.int .i64 a0_0, .int .i64 a0_1, .int .i64 a0_2, .int .i64 a0_3, .int .i64 a0_4, .int .i64 a0_5] 25 (0, 0))) ∧ (w'.heap[gb156]? = some (.cells #[.int .i64 a1_0, .int .i64 a1_1, .int .i64 a1_2, .int .i64 a1_3, .int .i64 a1_4, .int .i64 a1_5] 25 (0, 0))) ∧ (w'.heap[s_]? = some (.cells #[.int .i64 0, .int .i64 0] 89 (0, 0))) ∧ (w.heap.size ≤ s_) ∧ (w.heap.size ≤ s_) ∧ (gb155 ≠ s_) ∧ (s_ ≠ gb155) ∧ (gb156 ≠ s_) ∧ (s_ ≠ gb156) ∧ (Below w.heap.size w w')) ?_ ?_
      rotate_left
      ·intro hJ2_4_5
       refine join_ (σ := Nat) 3 (bz 9 95) (fun s_ => [(17, .agg #[.int .i64 t159, .int .i64 t160]), (19, .agg #[.int .i64 t161, .int .i64 t162]), (6, .pointer (some ⟨s_, 0, none⟩))]) (fun s_ w' => (w'.cell? ⟨gb155, 0, none⟩ = some (.int .i64 a0_0) ∧ w'.cell? ⟨gb155, 1, none⟩ = some (.int .i64 a0_1) ∧ w'.cell? ⟨gb155, 2, none⟩ = some (.int .i64 a0_2) ∧ w'.cell? ⟨gb155, 3, none⟩ = some (.int .i64 a0_3) ∧ w'.cell? ⟨gb155, 4, none⟩ = some (.int .i64 a0_4) ∧ w'.cell? ⟨gb155, 5, none⟩ = some (.int .i64 a0_5) ∧ w'.cell? ⟨gb156, 0, none⟩ = some (.int .i64 a1_0) ∧ w'.cell? ⟨gb156, 1, none⟩ = some (.int .i64 a1_1) ∧ w'.cell? ⟨gb156, 2, none⟩ = some (.int .i64 a1_2) ∧ w'.cell? ⟨gb156, 3, none⟩ = some (.int .i64 a1_3) ∧ w'.cell? ⟨gb156, 4, none⟩ = some (.int .i64 a1_4) ∧ w'.cell? ⟨gb156, 5, none⟩ = some (.int .i64 a1_5)) ∧ (w'.heap[gb155]? = some (.cells #[.int .i64 a0_0, .int .i64 a0_1, .int .i64 a0_2, .int .i64 a0_3, .int .i64 a0_4, .int .i64 a0_5] 25 (0, 0))) ∧ (w'.heap[gb156]? = some (.cells #[.int .i64 a1_0, .int .i64 a1_1, .int .i64 a1_2, .int .i64 a1_3, .int .i64 a1_4, .int .i64 a1_5] 25 (0, 0))) ∧ (w'.heap[s_]? = some (.cells #[.int .i64 0, .int .i64 0] 89 (0, 0))) ∧ (w.heap.size ≤ s_) ∧ (w.heap.size ≤ s_) ∧ (gb155 ≠ s_) ∧ (s_ ≠ gb155) ∧ (gb156 ≠ s_) ∧ (s_ ≠ gb156) ∧ (Below w.heap.size w w')) ?_ ?_
       rotate_left
       ·intro hJ2_4_6
        refine join_ (σ := Nat × Nat) 3 (bz 9 111) (fun s_ => [(17, .agg #[.int .i64 t159, .int .i64 t160]), (5, .pointer (some ⟨s_.1, 0, none⟩)), (6, .pointer (some ⟨s_.2, 0, none⟩))]) (fun s_ w' => (w'.cell? ⟨gb155, 0, none⟩ = some (.int .i64 a0_0) ∧ w'.cell? ⟨gb155, 1, none⟩ = some (.int .i64 a0_1) ∧ w'.cell? ⟨gb155, 2, none⟩ = some (.int .i64 a0_2) ∧ w'.cell? ⟨gb155, 3, none⟩ = some (.int .i64 a0_3) ∧ w'.cell? ⟨gb155, 4, none⟩ = some (.int .i64 a0_4) ∧ w'.cell? ⟨gb155, 5, none⟩ = some (.int .i64 a0_5) ∧ w'.cell? ⟨gb156, 0, none⟩ = some (.int .i64 a1_0) ∧ w'.cell? ⟨gb156, 1, none⟩ = some (.int .i64 a1_1) ∧ w'.cell? ⟨gb156, 2, none⟩ = some (.int .i64 a1_2) ∧ w'.cell? ⟨gb156, 3, none⟩ = some (.int .i64 a1_3) ∧ w'.cell? ⟨gb156, 4, none⟩ = some (.int .i64 a1_4) ∧ w'.cell? ⟨gb156, 5, none⟩ = some (.int .i64 a1_5)) ∧ (w'.heap[gb155]? = some (.cells #[.int .i64 a0_0, .int .i64 a0_1, .int .i64 a0_2, .int .i64 a0_3, .int .i64 a0_4, .int .i64 a0_5] 25 (0, 0))) ∧ (w'.heap[gb156]? = some (.cells #[.int .i64 a1_0, .int .i64 a1_1, .int .i64 a1_2, .int .i64 a1_3, .int .i64 a1_4, .int .i64 a1_5] 25 (0, 0))) ∧ (w'.heap[s_.1]? = some (.cells #[.int .i64 0, .int .i64 0] 89 (0, 0))) ∧ (w'.heap[s_.2]? = some (.cells #[.int .i64 0, .int .i64 0] 89 (0, 0))) ∧ (w.heap.size ≤ s_.1) ∧ (w.heap.size ≤ s_.1) ∧ (gb155 ≠ s_.1) ∧ (s_.1 ≠ gb155) ∧ (gb156 ≠ s_.1) ∧ (s_.1 ≠ gb156) ∧ (s_.2 ≠ s_.1) ∧ (s_.1 ≠ s_.2) ∧ (w.heap.size ≤ s_.2) ∧ (w.heap.size ≤ s_.2) ∧ (gb155 ≠ s_.2) ∧ (s_.2 ≠ gb155) ∧ (gb156 ≠ s_.2) ∧ (s_.2 ≠ gb156) ∧ (Below w.heap.size w w')) ?_ ?_
        rotate_left
        ·intro hJ2_5_6
         refine join_ (σ := Unit) 4 (bz 9 31) (fun s_ => [(17, .agg #[.int .i64 t159, .int .i64 t160]), (19, .agg #[.int .i64 t161, .int .i64 t162])]) (fun s_ w' => (w'.cell? ⟨gb155, 0, none⟩ = some (.int .i64 a0_0) ∧ w'.cell? ⟨gb155, 1, none⟩ = some (.int .i64 a0_1) ∧ w'.cell? ⟨gb155, 2, none⟩ = some (.int .i64 a0_2) ∧ w'.cell? ⟨gb155, 3, none⟩ = some (.int .i64 a0_3) ∧ w'.cell? ⟨gb155, 4, none⟩ = some (.int .i64 a0_4) ∧ w'.cell? ⟨gb155, 5, none⟩ = some (.int .i64 a0_5) ∧ w'.cell? ⟨gb156, 0, none⟩ = some (.int .i64 a1_0) ∧ w'.cell? ⟨gb156, 1, none⟩ = some (.int .i64 a1_1) ∧ w'.cell? ⟨gb156, 2, none⟩ = some (.int .i64 a1_2) ∧ w'.cell? ⟨gb156, 3, none⟩ = some (.int .i64 a1_3) ∧ w'.cell? ⟨gb156, 4, none⟩ = some (.int .i64 a1_4) ∧ w'.cell? ⟨gb156, 5, none⟩ = some (.int .i64 a1_5)) ∧ (w'.heap[gb155]? = some (.cells #[.int .i64 a0_0, .int .i64 a0_1, .int .i64 a0_2, .int .i64 a0_3, .int .i64 a0_4, .int .i64 a0_5] 25 (0, 0))) ∧ (w'.heap[gb156]? = some (.cells #[.int .i64 a1_0, .int .i64 a1_1, .int .i64 a1_2, .int .i64 a1_3, .int .i64 a1_4, .int .i64 a1_5] 25 (0, 0))) ∧ (Below w.heap.size w w')) ?_ ?_
         rotate_left
         ·intro hJ2_4
          refine join_ (σ := Nat) 4 (bz 9 47) (fun s_ => [(17, .agg #[.int .i64 t159, .int .i64 t160]), (5, .pointer (some ⟨s_, 0, none⟩))]) (fun s_ w' => (w'.cell? ⟨gb155, 0, none⟩ = some (.int .i64 a0_0) ∧ w'.cell? ⟨gb155, 1, none⟩ = some (.int .i64 a0_1) ∧ w'.cell? ⟨gb155, 2, none⟩ = some (.int .i64 a0_2) ∧ w'.cell? ⟨gb155, 3, none⟩ = some (.int .i64 a0_3) ∧ w'.cell? ⟨gb155, 4, none⟩ = some (.int .i64 a0_4) ∧ w'.cell? ⟨gb155, 5, none⟩ = some (.int .i64 a0_5) ∧ w'.cell? ⟨gb156, 0, none⟩ = some (.int .i64 a1_0) ∧ w'.cell? ⟨gb156, 1, none⟩ = some (.int .i64 a1_1) ∧ w'.cell? ⟨gb156, 2, none⟩ = some (.int .i64 a1_2) ∧ w'.cell? ⟨gb156, 3, none⟩ = some (.int .i64 a1_3) ∧ w'.cell? ⟨gb156, 4, none⟩ = some (.int .i64 a1_4) ∧ w'.cell? ⟨gb156, 5, none⟩ = some (.int .i64 a1_5)) ∧ (w'.heap[gb155]? = some (.cells #[.int .i64 a0_0, .int .i64 a0_1, .int .i64 a0_2, .int .i64 a0_3, .int .i64 a0_4, .int .i64 a0_5] 25 (0, 0))) ∧ (w'.heap[gb156]? = some (.cells #[.int .i64 a1_0, .int .i64 a1_1, .int .i64 a1_2, .int .i64 a1_3, .int .i64 a1_4, .int .i64 a1_5] 25 (0, 0))) ∧ (w'.heap[s_]? = some (.cells #[.int .i64 0, .int .i64 0] 89 (0, 0))) ∧ (w.heap.size ≤ s_) ∧ (w.heap.size ≤ s_) ∧ (gb155 ≠ s_) ∧ (s_ ≠ gb155) ∧ (gb156 ≠ s_) ∧ (s_ ≠ gb156) ∧ (Below w.heap.size w w')) ?_ ?_
          rotate_left
          ·intro hJ2_5
           refine join_ (σ := Nat) 4 (bz 9 79) (fun s_ => [(17, .agg #[.int .i64 t159, .int .i64 t160]), (6, .pointer (some ⟨s_, 0, none⟩))]) (fun s_ w' => (w'.cell? ⟨gb155, 0, none⟩ = some (.int .i64 a0_0) ∧ w'.cell? ⟨gb155, 1, none⟩ = some (.int .i64 a0_1) ∧ w'.cell? ⟨gb155, 2, none⟩ = some (.int .i64 a0_2) ∧ w'.cell? ⟨gb155, 3, none⟩ = some (.int .i64 a0_3) ∧ w'.cell? ⟨gb155, 4, none⟩ = some (.int .i64 a0_4) ∧ w'.cell? ⟨gb155, 5, none⟩ = some (.int .i64 a0_5) ∧ w'.cell? ⟨gb156, 0, none⟩ = some (.int .i64 a1_0) ∧ w'.cell? ⟨gb156, 1, none⟩ = some (.int .i64 a1_1) ∧ w'.cell? ⟨gb156, 2, none⟩ = some (.int .i64 a1_2) ∧ w'.cell? ⟨gb156, 3, none⟩ = some (.int .i64 a1_3) ∧ w'.cell? ⟨gb156, 4, none⟩ = some (.int .i64 a1_4) ∧ w'.cell? ⟨gb156, 5, none⟩ = some (.int .i64 a1_5)) ∧ (w'.heap[gb155]? = some (.cells #[.int .i64 a0_0, .int .i64 a0_1, .int .i64 a0_2, .int .i64 a0_3, .int .i64 a0_4, .int .i64 a0_5] 25 (0, 0))) ∧ (w'.heap[gb156]? = some (.cells #[.int .i64 a1_0, .int .i64 a1_1, .int .i64 a1_2, .int .i64 a1_3, .int .i64 a1_4, .int .i64 a1_5] 25 (0, 0))) ∧ (w'.heap[s_]? = some (.cells #[.int .i64 0, .int .i64 0] 89 (0, 0))) ∧ (w.heap.size ≤ s_) ∧ (w.heap.size ≤ s_) ∧ (gb155 ≠ s_) ∧ (s_ ≠ gb155) ∧ (gb156 ≠ s_) ∧ (s_ ≠ gb156) ∧ (Below w.heap.size w w')) ?_ ?_
           rotate_left
           ·intro hJ2_6
            refine join_ (σ := Nat × Nat) 4 (bz 9 107) (fun s_ => [(5, .pointer (some ⟨s_.1, 0, none⟩)), (6, .pointer (some ⟨s_.2, 0, none⟩))]) (fun s_ w' => (w'.cell? ⟨gb155, 0, none⟩ = some (.int .i64 a0_0) ∧ w'.cell? ⟨gb155, 1, none⟩ = some (.int .i64 a0_1) ∧ w'.cell? ⟨gb155, 2, none⟩ = some (.int .i64 a0_2) ∧ w'.cell? ⟨gb155, 3, none⟩ = some (.int .i64 a0_3) ∧ w'.cell? ⟨gb155, 4, none⟩ = some (.int .i64 a0_4) ∧ w'.cell? ⟨gb155, 5, none⟩ = some (.int .i64 a0_5) ∧ w'.cell? ⟨gb156, 0, none⟩ = some (.int .i64 a1_0) ∧ w'.cell? ⟨gb156, 1, none⟩ = some (.int .i64 a1_1) ∧ w'.cell? ⟨gb156, 2, none⟩ = some (.int .i64 a1_2) ∧ w'.cell? ⟨gb156, 3, none⟩ = some (.int .i64 a1_3) ∧ w'.cell? ⟨gb156, 4, none⟩ = some (.int .i64 a1_4) ∧ w'.cell? ⟨gb156, 5, none⟩ = some (.int .i64 a1_5)) ∧ (w'.heap[gb155]? = some (.cells #[.int .i64 a0_0, .int .i64 a0_1, .int .i64 a0_2, .int .i64 a0_3, .int .i64 a0_4, .int .i64 a0_5] 25 (0, 0))) ∧ (w'.heap[gb156]? = some (.cells #[.int .i64 a1_0, .int .i64 a1_1, .int .i64 a1_2, .int .i64 a1_3, .int .i64 a1_4, .int .i64 a1_5] 25 (0, 0))) ∧ (w'.heap[s_.1]? = some (.cells #[.int .i64 0, .int .i64 0] 89 (0, 0))) ∧ (w'.heap[s_.2]? = some (.cells #[.int .i64 0, .int .i64 0] 89 (0, 0))) ∧ (w.heap.size ≤ s_.1) ∧ (w.heap.size ≤ s_.1) ∧ (gb155 ≠ s_.1) ∧ (s_.1 ≠ gb155) ∧ (gb156 ≠ s_.1) ∧ (s_.1 ≠ gb156) ∧ (s_.2 ≠ s_.1) ∧ (s_.1 ≠ s_.2) ∧ (w.heap.size ≤ s_.2) ∧ (w.heap.size ≤ s_.2) ∧ (gb155 ≠ s_.2) ∧ (s_.2 ≠ gb155) ∧ (gb156 ≠ s_.2) ∧ (s_.2 ≠ gb156) ∧ (Below w.heap.size w w')) ?_ ?_
            rotate_left
            ·intro hJ5_6
             refine join_ (σ := Unit) 5 (bz 9 15) (fun s_ => [(17, .agg #[.int .i64 t159, .int .i64 t160])]) (fun s_ w' => (w'.cell? ⟨gb155, 0, none⟩ = some (.int .i64 a0_0) ∧ w'.cell? ⟨gb155, 1, none⟩ = some (.int .i64 a0_1) ∧ w'.cell? ⟨gb155, 2, none⟩ = some (.int .i64 a0_2) ∧ w'.cell? ⟨gb155, 3, none⟩ = some (.int .i64 a0_3) ∧ w'.cell? ⟨gb155, 4, none⟩ = some (.int .i64 a0_4) ∧ w'.cell? ⟨gb155, 5, none⟩ = some (.int .i64 a0_5) ∧ w'.cell? ⟨gb156, 0, none⟩ = some (.int .i64 a1_0) ∧ w'.cell? ⟨gb156, 1, none⟩ = some (.int .i64 a1_1) ∧ w'.cell? ⟨gb156, 2, none⟩ = some (.int .i64 a1_2) ∧ w'.cell? ⟨gb156, 3, none⟩ = some (.int .i64 a1_3) ∧ w'.cell? ⟨gb156, 4, none⟩ = some (.int .i64 a1_4) ∧ w'.cell? ⟨gb156, 5, none⟩ = some (.int .i64 a1_5)) ∧ (w'.heap[gb155]? = some (.cells #[.int .i64 a0_0, .int .i64 a0_1, .int .i64 a0_2, .int .i64 a0_3, .int .i64 a0_4, .int .i64 a0_5] 25 (0, 0))) ∧ (w'.heap[gb156]? = some (.cells #[.int .i64 a1_0, .int .i64 a1_1, .int .i64 a1_2, .int .i64 a1_3, .int .i64 a1_4, .int .i64 a1_5] 25 (0, 0))) ∧ (Below w.heap.size w w')) ?_ ?_
             rotate_left
             ·intro hJ2
              refine join_ (σ := Nat) 5 (bz 9 43) (fun s_ => [(5, .pointer (some ⟨s_, 0, none⟩))]) (fun s_ w' => (w'.cell? ⟨gb155, 0, none⟩ = some (.int .i64 a0_0) ∧ w'.cell? ⟨gb155, 1, none⟩ = some (.int .i64 a0_1) ∧ w'.cell? ⟨gb155, 2, none⟩ = some (.int .i64 a0_2) ∧ w'.cell? ⟨gb155, 3, none⟩ = some (.int .i64 a0_3) ∧ w'.cell? ⟨gb155, 4, none⟩ = some (.int .i64 a0_4) ∧ w'.cell? ⟨gb155, 5, none⟩ = some (.int .i64 a0_5) ∧ w'.cell? ⟨gb156, 0, none⟩ = some (.int .i64 a1_0) ∧ w'.cell? ⟨gb156, 1, none⟩ = some (.int .i64 a1_1) ∧ w'.cell? ⟨gb156, 2, none⟩ = some (.int .i64 a1_2) ∧ w'.cell? ⟨gb156, 3, none⟩ = some (.int .i64 a1_3) ∧ w'.cell? ⟨gb156, 4, none⟩ = some (.int .i64 a1_4) ∧ w'.cell? ⟨gb156, 5, none⟩ = some (.int .i64 a1_5)) ∧ (w'.heap[gb155]? = some (.cells #[.int .i64 a0_0, .int .i64 a0_1, .int .i64 a0_2, .int .i64 a0_3, .int .i64 a0_4, .int .i64 a0_5] 25 (0, 0))) ∧ (w'.heap[gb156]? = some (.cells #[.int .i64 a1_0, .int .i64 a1_1, .int .i64 a1_2, .int .i64 a1_3, .int .i64 a1_4, .int .i64 a1_5] 25 (0, 0))) ∧ (w'.heap[s_]? = some (.cells #[.int .i64 0, .int .i64 0] 89 (0, 0))) ∧ (w.heap.size ≤ s_) ∧ (w.heap.size ≤ s_) ∧ (gb155 ≠ s_) ∧ (s_ ≠ gb155) ∧ (gb156 ≠ s_) ∧ (s_ ≠ gb156) ∧ (Below w.heap.size w w')) ?_ ?_
              rotate_left
              ·intro hJ5
               refine join_ (σ := Nat) 5 (bz 9 75) (fun s_ => [(6, .pointer (some ⟨s_, 0, none⟩))]) (fun s_ w' => (w'.cell? ⟨gb155, 0, none⟩ = some (.int .i64 a0_0) ∧ w'.cell? ⟨gb155, 1, none⟩ = some (.int .i64 a0_1) ∧ w'.cell? ⟨gb155, 2, none⟩ = some (.int .i64 a0_2) ∧ w'.cell? ⟨gb155, 3, none⟩ = some (.int .i64 a0_3) ∧ w'.cell? ⟨gb155, 4, none⟩ = some (.int .i64 a0_4) ∧ w'.cell? ⟨gb155, 5, none⟩ = some (.int .i64 a0_5) ∧ w'.cell? ⟨gb156, 0, none⟩ = some (.int .i64 a1_0) ∧ w'.cell? ⟨gb156, 1, none⟩ = some (.int .i64 a1_1) ∧ w'.cell? ⟨gb156, 2, none⟩ = some (.int .i64 a1_2) ∧ w'.cell? ⟨gb156, 3, none⟩ = some (.int .i64 a1_3) ∧ w'.cell? ⟨gb156, 4, none⟩ = some (.int .i64 a1_4) ∧ w'.cell? ⟨gb156, 5, none⟩ = some (.int .i64 a1_5)) ∧ (w'.heap[gb155]? = some (.cells #[.int .i64 a0_0, .int .i64 a0_1, .int .i64 a0_2, .int .i64 a0_3, .int .i64 a0_4, .int .i64 a0_5] 25 (0, 0))) ∧ (w'.heap[gb156]? = some (.cells #[.int .i64 a1_0, .int .i64 a1_1, .int .i64 a1_2, .int .i64 a1_3, .int .i64 a1_4, .int .i64 a1_5] 25 (0, 0))) ∧ (w'.heap[s_]? = some (.cells #[.int .i64 0, .int .i64 0] 89 (0, 0))) ∧ (w.heap.size ≤ s_) ∧ (w.heap.size ≤ s_) ∧ (gb155 ≠ s_) ∧ (s_ ≠ gb155) ∧ (gb156 ≠ s_) ∧ (s_ ≠ gb156) ∧ (Below w.heap.size w w')) ?_ ?_
               rotate_left
               ·intro hJ6
                refine three_ (i := 2) (j := 5) (k := 6) (Ni := some 17) (Nj := some 5) (Nk := some 6) (bz 9 15) (bz 9 43) (bz 9 75) rfl rfl rfl rfl rfl rfl (three_of HT_.out (by kernel_rfl)) (by decide) (by decide) (by decide) (fun K hK => ?_) (fun K hK => ?_) (fun K hK => ?_)
                ·skip
                 refine goes_ Try.func70 (by kernel_rfl) rfl #[.agg #[.int .i64 a0_0, .int .i64 a0_1, .int .i64 a0_2, .int .i64 a0_3, .int .i64 a0_4, .int .i64 a0_5], .agg #[.int .i64 a1_0, .int .i64 a1_1, .int .i64 a1_2, .int .i64 a1_3, .int .i64 a1_4, .int .i64 a1_5]] (by rfl) rfl rfl s4_5 ?_
                 with_reducible refine (impl_bearing.calls a0_0 a0_1 a0_2 a0_3 a0_4 a0_5 a1_0 a1_1 a1_2 a1_3 a1_4 a1_5 t159 t160 _ A18.out).mono ?_
                 rintro e w42 ⟨rfl, hb⟩
                 refine ⟨_, rfl, ?_⟩
                 have n0_ := Aside0.mk (bb (zk BK155.out) hb)
                 have n1_ := Aside0.mk (bb (zk BK156.out) hb)
                 have n2_ := Aside0.mk (below_step s4_0 hb)
                 clear BK155 BK156 HB
                 have BK155 := n0_
                 have BK156 := n1_
                 have HB := n2_
                 clear n0_ n1_ n2_
                 (try clear hb)
                 (try clear hb2)
                 (try clear hk)
                 (try clear hi)
                 refine hK.out _ _ ⟨bc BK155.out 0, bc BK155.out 1, bc BK155.out 2, bc BK155.out 3, bc BK155.out 4, bc BK155.out 5, bc BK156.out 0, bc BK156.out 1, bc BK156.out 2, bc BK156.out 3, bc BK156.out 4, bc BK156.out 5⟩ (fun hHeld => ?_)
                 clear hK K
                 refine norm_ (a' := ?_) ?_ ?_
                 rotate_left
                 ·show Act.put _ (some 17) _ = _
                  simp only [Act.put, y1, y2, y3, i64_w, i32_w]
                  rfl
                 exact norm_ s4_4 (hJ2 () _ ⟨hHeld, (zk BK155.out), (zk BK156.out), s4_0⟩)
                ·skip
                 refine box_step ?hg (N := 5) ?hd (cs := #[.int .i64 0, .int .i64 0]) (t := 89) ?hr ?_; (case hd => rfl); (case hg => rfl); (case hr => first | (go_simp; done) | (go_simp; rfl))
                 intro gb163 hg w42 hbox hb
                 have n0_ := Aside0.mk (bb (zk BK155.out) hb)
                 have n1_ := Aside0.mk (bb (zk BK156.out) hb)
                 have n2_ := Aside0.mk (below_step s4_0 hb)
                 have n3_ := Aside0.mk (hbox)
                 have n4_ := Aside0.mk (ns hg s4_0 : w.heap.size ≤ gb163)
                 have n5_ := Aside0.mk (ns hg s4_0 : w.heap.size ≤ gb163)
                 have n6_ := Aside0.mk ((nlt hg (zk BK155.out) : gb155 ≠ gb163))
                 have n7_ := Aside0.mk ((ngt hg (zk BK155.out) : gb163 ≠ gb155))
                 have n8_ := Aside0.mk ((nlt hg (zk BK156.out) : gb156 ≠ gb163))
                 have n9_ := Aside0.mk ((ngt hg (zk BK156.out) : gb163 ≠ gb156))
                 clear BK155 BK156 HB
                 have BK155 := n0_
                 have BK156 := n1_
                 have HB := n2_
                 have BK163 := n3_
                 have GW163 := n4_
                 have GE163 := n5_
                 have NB155_163 := n6_
                 have NB163_155 := n7_
                 have NB156_163 := n8_
                 have NB163_156 := n9_
                 clear n0_ n1_ n2_ n3_ n4_ n5_ n6_ n7_ n8_ n9_ hb hbox hg
                 refine hK.out _ _ ⟨bc BK155.out 0, bc BK155.out 1, bc BK155.out 2, bc BK155.out 3, bc BK155.out 4, bc BK155.out 5, bc BK156.out 0, bc BK156.out 1, bc BK156.out 2, bc BK156.out 3, bc BK156.out 4, bc BK156.out 5⟩ (fun hHeld => ?_)
                 clear hK K
                 refine norm_ (a' := ?_) ?_ ?_
                 rotate_left
                 ·show Act.put _ (some 5) _ = _
                  simp only [Act.put, y1, y2, y3, i64_w, i32_w]
                  rfl
                 exact norm_ s4_4 (hJ5 (gb163) _ ⟨hHeld, (zk BK155.out), (zk BK156.out), (zk BK163.out), GW163.out, GE163.out, NB155_163.out, NB163_155.out, NB156_163.out, NB163_156.out, s4_1⟩)
                ·skip
                 refine box_step ?hg (N := 6) ?hd (cs := #[.int .i64 0, .int .i64 0]) (t := 89) ?hr ?_; (case hd => rfl); (case hg => rfl); (case hr => first | (go_simp; done) | (go_simp; rfl))
                 intro gb164 hg w42 hbox hb
                 have n0_ := Aside0.mk (bb (zk BK155.out) hb)
                 have n1_ := Aside0.mk (bb (zk BK156.out) hb)
                 have n2_ := Aside0.mk (below_step s4_0 hb)
                 have n3_ := Aside0.mk (hbox)
                 have n4_ := Aside0.mk (ns hg s4_0 : w.heap.size ≤ gb164)
                 have n5_ := Aside0.mk (ns hg s4_0 : w.heap.size ≤ gb164)
                 have n6_ := Aside0.mk ((nlt hg (zk BK155.out) : gb155 ≠ gb164))
                 have n7_ := Aside0.mk ((ngt hg (zk BK155.out) : gb164 ≠ gb155))
                 have n8_ := Aside0.mk ((nlt hg (zk BK156.out) : gb156 ≠ gb164))
                 have n9_ := Aside0.mk ((ngt hg (zk BK156.out) : gb164 ≠ gb156))
                 clear BK155 BK156 HB
                 have BK155 := n0_
                 have BK156 := n1_
                 have HB := n2_
                 have BK164 := n3_
                 have GW164 := n4_
                 have GE164 := n5_
                 have NB155_164 := n6_
                 have NB164_155 := n7_
                 have NB156_164 := n8_
                 have NB164_156 := n9_
                 clear n0_ n1_ n2_ n3_ n4_ n5_ n6_ n7_ n8_ n9_ hb hbox hg
                 refine hK.out _ _ ⟨bc BK155.out 0, bc BK155.out 1, bc BK155.out 2, bc BK155.out 3, bc BK155.out 4, bc BK155.out 5, bc BK156.out 0, bc BK156.out 1, bc BK156.out 2, bc BK156.out 3, bc BK156.out 4, bc BK156.out 5⟩ (fun hHeld => ?_)
                 clear hK K
                 refine norm_ (a' := ?_) ?_ ?_
                 rotate_left
                 ·show Act.put _ (some 6) _ = _
                  simp only [Act.put, y1, y2, y3, i64_w, i32_w]
                  rfl
                 exact norm_ s4_4 (hJ6 (gb164) _ ⟨hHeld, (zk BK155.out), (zk BK156.out), (zk BK164.out), GW164.out, GE164.out, NB155_164.out, NB164_155.out, NB156_164.out, NB164_156.out, s4_2⟩)
               ·skip
                rintro gb164 w43 ⟨hS_, h0_, h1_, h2_, h3_, h4_, h5_, h6_, h7_, h8_, h9_⟩
                have n0_ : Aside0 (w43.heap[gb155]? = some (.cells #[.int .i64 a0_0, .int .i64 a0_1, .int .i64 a0_2, .int .i64 a0_3, .int .i64 a0_4, .int .i64 a0_5] 25 (0, 0))) := ⟨h0_⟩
                have n1_ : Aside0 (w43.heap[gb156]? = some (.cells #[.int .i64 a1_0, .int .i64 a1_1, .int .i64 a1_2, .int .i64 a1_3, .int .i64 a1_4, .int .i64 a1_5] 25 (0, 0))) := ⟨h1_⟩
                have n2_ : Aside0 (w43.heap[gb164]? = some (.cells #[.int .i64 0, .int .i64 0] 89 (0, 0))) := ⟨h2_⟩
                have n3_ : Aside0 (w.heap.size ≤ gb164) := ⟨h3_⟩
                have n4_ : Aside0 (w.heap.size ≤ gb164) := ⟨h4_⟩
                have n5_ : Aside0 (gb155 ≠ gb164) := ⟨h5_⟩
                have n6_ : Aside0 (gb164 ≠ gb155) := ⟨h6_⟩
                have n7_ : Aside0 (gb156 ≠ gb164) := ⟨h7_⟩
                have n8_ : Aside0 (gb164 ≠ gb156) := ⟨h8_⟩
                have n9_ : Aside0 (Below w.heap.size w w43) := ⟨h9_⟩
                clear BK155 BK156 HB h0_ h1_ h2_ h3_ h4_ h5_ h6_ h7_ h8_ h9_
                have BK155 := n0_
                have BK156 := n1_
                have BK164 := n2_
                have GW164 := n3_
                have GE164 := n4_
                have NB155_164 := n5_
                have NB164_155 := n6_
                have NB156_164 := n7_
                have NB164_156 := n8_
                have HB := n9_
                clear n0_ n1_ n2_ n3_ n4_ n5_ n6_ n7_ n8_ n9_
                have hHeld : w43.cell? ⟨gb155, 0, none⟩ = some (.int .i64 a0_0) ∧ w43.cell? ⟨gb155, 1, none⟩ = some (.int .i64 a0_1) ∧ w43.cell? ⟨gb155, 2, none⟩ = some (.int .i64 a0_2) ∧ w43.cell? ⟨gb155, 3, none⟩ = some (.int .i64 a0_3) ∧ w43.cell? ⟨gb155, 4, none⟩ = some (.int .i64 a0_4) ∧ w43.cell? ⟨gb155, 5, none⟩ = some (.int .i64 a0_5) ∧ w43.cell? ⟨gb156, 0, none⟩ = some (.int .i64 a1_0) ∧ w43.cell? ⟨gb156, 1, none⟩ = some (.int .i64 a1_1) ∧ w43.cell? ⟨gb156, 2, none⟩ = some (.int .i64 a1_2) ∧ w43.cell? ⟨gb156, 3, none⟩ = some (.int .i64 a1_3) ∧ w43.cell? ⟨gb156, 4, none⟩ = some (.int .i64 a1_4) ∧ w43.cell? ⟨gb156, 5, none⟩ = some (.int .i64 a1_5) := hS_
                refine norm_ (a' := ?_) ?_ ?_
                rotate_left
                ·simp only [putAll, Act.put, y1, y2, y3]
                 rfl
                refine two_ (i := 2) (j := 5) (Ni := some 17) (Nj := some 5) (bz 9 79) (bz 9 107) rfl rfl rfl rfl (two_of HT_.out (by kernel_rfl)) (by decide) (by decide) (fun K hK => ?_) (fun K hK => ?_)
                ·skip
                 refine goes_ Try.func70 (by kernel_rfl) rfl #[.agg #[.int .i64 a0_0, .int .i64 a0_1, .int .i64 a0_2, .int .i64 a0_3, .int .i64 a0_4, .int .i64 a0_5], .agg #[.int .i64 a1_0, .int .i64 a1_1, .int .i64 a1_2, .int .i64 a1_3, .int .i64 a1_4, .int .i64 a1_5]] (by rfl) rfl rfl s4_5 ?_
                 with_reducible refine (impl_bearing.calls a0_0 a0_1 a0_2 a0_3 a0_4 a0_5 a1_0 a1_1 a1_2 a1_3 a1_4 a1_5 t159 t160 _ A18.out).mono ?_
                 rintro e w44 ⟨rfl, hb⟩
                 refine ⟨_, rfl, ?_⟩
                 have n0_ := Aside0.mk (bb (zk BK155.out) hb)
                 have n1_ := Aside0.mk (bb (zk BK156.out) hb)
                 have n2_ := Aside0.mk (bb (zk BK164.out) hb)
                 have n3_ := Aside0.mk (below_step s4_2 hb)
                 clear BK155 BK156 BK164 HB
                 have BK155 := n0_
                 have BK156 := n1_
                 have BK164 := n2_
                 have HB := n3_
                 clear n0_ n1_ n2_ n3_
                 (try clear hb)
                 (try clear hb2)
                 (try clear hk)
                 (try clear hi)
                 refine hK.out _ _ ⟨bc BK155.out 0, bc BK155.out 1, bc BK155.out 2, bc BK155.out 3, bc BK155.out 4, bc BK155.out 5, bc BK156.out 0, bc BK156.out 1, bc BK156.out 2, bc BK156.out 3, bc BK156.out 4, bc BK156.out 5⟩ (fun hHeld => ?_)
                 clear hK K
                 refine norm_ (a' := ?_) ?_ ?_
                 rotate_left
                 ·show Act.put _ (some 17) _ = _
                  simp only [Act.put, y1, y2, y3, i64_w, i32_w]
                  rfl
                 exact norm_ s4_4 (hJ2_6 (gb164) _ ⟨hHeld, (zk BK155.out), (zk BK156.out), (zk BK164.out), GW164.out, GE164.out, NB155_164.out, NB164_155.out, NB156_164.out, NB164_156.out, s4_2⟩)
                ·skip
                 refine box_step ?hg (N := 5) ?hd (cs := #[.int .i64 0, .int .i64 0]) (t := 89) ?hr ?_; (case hd => rfl); (case hg => rfl); (case hr => first | (go_simp; done) | (go_simp; rfl))
                 intro gb163 hg w44 hbox hb
                 have n0_ := Aside0.mk (bb (zk BK155.out) hb)
                 have n1_ := Aside0.mk (bb (zk BK156.out) hb)
                 have n2_ := Aside0.mk (bb (zk BK164.out) hb)
                 have n3_ := Aside0.mk (below_step s4_2 hb)
                 have n4_ := Aside0.mk (hbox)
                 have n5_ := Aside0.mk (ns hg s4_2 : w.heap.size ≤ gb163)
                 have n6_ := Aside0.mk (ns hg s4_2 : w.heap.size ≤ gb163)
                 have n7_ := Aside0.mk ((nlt hg (zk BK155.out) : gb155 ≠ gb163))
                 have n8_ := Aside0.mk ((ngt hg (zk BK155.out) : gb163 ≠ gb155))
                 have n9_ := Aside0.mk ((nlt hg (zk BK156.out) : gb156 ≠ gb163))
                 have n10_ := Aside0.mk ((ngt hg (zk BK156.out) : gb163 ≠ gb156))
                 have n11_ := Aside0.mk ((nlt hg (zk BK164.out) : gb164 ≠ gb163))
                 have n12_ := Aside0.mk ((ngt hg (zk BK164.out) : gb163 ≠ gb164))
                 clear BK155 BK156 BK164 HB
                 have BK155 := n0_
                 have BK156 := n1_
                 have BK164 := n2_
                 have HB := n3_
                 have BK163 := n4_
                 have GW163 := n5_
                 have GE163 := n6_
                 have NB155_163 := n7_
                 have NB163_155 := n8_
                 have NB156_163 := n9_
                 have NB163_156 := n10_
                 have NB164_163 := n11_
                 have NB163_164 := n12_
                 clear n0_ n1_ n2_ n3_ n4_ n5_ n6_ n7_ n8_ n9_ n10_ n11_ n12_ hb hbox hg
                 refine hK.out _ _ ⟨bc BK155.out 0, bc BK155.out 1, bc BK155.out 2, bc BK155.out 3, bc BK155.out 4, bc BK155.out 5, bc BK156.out 0, bc BK156.out 1, bc BK156.out 2, bc BK156.out 3, bc BK156.out 4, bc BK156.out 5⟩ (fun hHeld => ?_)
                 clear hK K
                 refine norm_ (a' := ?_) ?_ ?_
                 rotate_left
                 ·show Act.put _ (some 5) _ = _
                  simp only [Act.put, y1, y2, y3, i64_w, i32_w]
                  rfl
                 exact norm_ s4_4 (hJ5_6 (gb163, gb164) _ ⟨hHeld, (zk BK155.out), (zk BK156.out), (zk BK163.out), (zk BK164.out), GW163.out, GE163.out, NB155_163.out, NB163_155.out, NB156_163.out, NB163_156.out, NB164_163.out, NB163_164.out, GW164.out, GE164.out, NB155_164.out, NB164_155.out, NB156_164.out, NB164_156.out, s4_6⟩)
              ·skip
               rintro gb163 w43 ⟨hS_, h0_, h1_, h2_, h3_, h4_, h5_, h6_, h7_, h8_, h9_⟩
               have n0_ : Aside0 (w43.heap[gb155]? = some (.cells #[.int .i64 a0_0, .int .i64 a0_1, .int .i64 a0_2, .int .i64 a0_3, .int .i64 a0_4, .int .i64 a0_5] 25 (0, 0))) := ⟨h0_⟩
               have n1_ : Aside0 (w43.heap[gb156]? = some (.cells #[.int .i64 a1_0, .int .i64 a1_1, .int .i64 a1_2, .int .i64 a1_3, .int .i64 a1_4, .int .i64 a1_5] 25 (0, 0))) := ⟨h1_⟩
               have n2_ : Aside0 (w43.heap[gb163]? = some (.cells #[.int .i64 0, .int .i64 0] 89 (0, 0))) := ⟨h2_⟩
               have n3_ : Aside0 (w.heap.size ≤ gb163) := ⟨h3_⟩
               have n4_ : Aside0 (w.heap.size ≤ gb163) := ⟨h4_⟩
               have n5_ : Aside0 (gb155 ≠ gb163) := ⟨h5_⟩
               have n6_ : Aside0 (gb163 ≠ gb155) := ⟨h6_⟩
               have n7_ : Aside0 (gb156 ≠ gb163) := ⟨h7_⟩
               have n8_ : Aside0 (gb163 ≠ gb156) := ⟨h8_⟩
               have n9_ : Aside0 (Below w.heap.size w w43) := ⟨h9_⟩
               clear BK155 BK156 HB h0_ h1_ h2_ h3_ h4_ h5_ h6_ h7_ h8_ h9_
               have BK155 := n0_
               have BK156 := n1_
               have BK163 := n2_
               have GW163 := n3_
               have GE163 := n4_
               have NB155_163 := n5_
               have NB163_155 := n6_
               have NB156_163 := n7_
               have NB163_156 := n8_
               have HB := n9_
               clear n0_ n1_ n2_ n3_ n4_ n5_ n6_ n7_ n8_ n9_
               have hHeld : w43.cell? ⟨gb155, 0, none⟩ = some (.int .i64 a0_0) ∧ w43.cell? ⟨gb155, 1, none⟩ = some (.int .i64 a0_1) ∧ w43.cell? ⟨gb155, 2, none⟩ = some (.int .i64 a0_2) ∧ w43.cell? ⟨gb155, 3, none⟩ = some (.int .i64 a0_3) ∧ w43.cell? ⟨gb155, 4, none⟩ = some (.int .i64 a0_4) ∧ w43.cell? ⟨gb155, 5, none⟩ = some (.int .i64 a0_5) ∧ w43.cell? ⟨gb156, 0, none⟩ = some (.int .i64 a1_0) ∧ w43.cell? ⟨gb156, 1, none⟩ = some (.int .i64 a1_1) ∧ w43.cell? ⟨gb156, 2, none⟩ = some (.int .i64 a1_2) ∧ w43.cell? ⟨gb156, 3, none⟩ = some (.int .i64 a1_3) ∧ w43.cell? ⟨gb156, 4, none⟩ = some (.int .i64 a1_4) ∧ w43.cell? ⟨gb156, 5, none⟩ = some (.int .i64 a1_5) := hS_
               refine norm_ (a' := ?_) ?_ ?_
               rotate_left
               ·simp only [putAll, Act.put, y1, y2, y3]
                rfl
               refine two_ (i := 2) (j := 6) (Ni := some 17) (Nj := some 6) (bz 9 47) (bz 9 107) rfl rfl rfl rfl (two_of HT_.out (by kernel_rfl)) (by decide) (by decide) (fun K hK => ?_) (fun K hK => ?_)
               ·skip
                refine goes_ Try.func70 (by kernel_rfl) rfl #[.agg #[.int .i64 a0_0, .int .i64 a0_1, .int .i64 a0_2, .int .i64 a0_3, .int .i64 a0_4, .int .i64 a0_5], .agg #[.int .i64 a1_0, .int .i64 a1_1, .int .i64 a1_2, .int .i64 a1_3, .int .i64 a1_4, .int .i64 a1_5]] (by rfl) rfl rfl s4_5 ?_
                with_reducible refine (impl_bearing.calls a0_0 a0_1 a0_2 a0_3 a0_4 a0_5 a1_0 a1_1 a1_2 a1_3 a1_4 a1_5 t159 t160 _ A18.out).mono ?_
                rintro e w44 ⟨rfl, hb⟩
                refine ⟨_, rfl, ?_⟩
                have n0_ := Aside0.mk (bb (zk BK155.out) hb)
                have n1_ := Aside0.mk (bb (zk BK156.out) hb)
                have n2_ := Aside0.mk (bb (zk BK163.out) hb)
                have n3_ := Aside0.mk (below_step s4_1 hb)
                clear BK155 BK156 BK163 HB
                have BK155 := n0_
                have BK156 := n1_
                have BK163 := n2_
                have HB := n3_
                clear n0_ n1_ n2_ n3_
                (try clear hb)
                (try clear hb2)
                (try clear hk)
                (try clear hi)
                refine hK.out _ _ ⟨bc BK155.out 0, bc BK155.out 1, bc BK155.out 2, bc BK155.out 3, bc BK155.out 4, bc BK155.out 5, bc BK156.out 0, bc BK156.out 1, bc BK156.out 2, bc BK156.out 3, bc BK156.out 4, bc BK156.out 5⟩ (fun hHeld => ?_)
                clear hK K
                refine norm_ (a' := ?_) ?_ ?_
                rotate_left
                ·show Act.put _ (some 17) _ = _
                 simp only [Act.put, y1, y2, y3, i64_w, i32_w]
                 rfl
                exact norm_ s4_4 (hJ2_5 (gb163) _ ⟨hHeld, (zk BK155.out), (zk BK156.out), (zk BK163.out), GW163.out, GE163.out, NB155_163.out, NB163_155.out, NB156_163.out, NB163_156.out, s4_1⟩)
               ·skip
                refine box_step ?hg (N := 6) ?hd (cs := #[.int .i64 0, .int .i64 0]) (t := 89) ?hr ?_; (case hd => rfl); (case hg => rfl); (case hr => first | (go_simp; done) | (go_simp; rfl))
                intro gb164 hg w44 hbox hb
                have n0_ := Aside0.mk (bb (zk BK155.out) hb)
                have n1_ := Aside0.mk (bb (zk BK156.out) hb)
                have n2_ := Aside0.mk (bb (zk BK163.out) hb)
                have n3_ := Aside0.mk (below_step s4_1 hb)
                have n4_ := Aside0.mk (hbox)
                have n5_ := Aside0.mk (ns hg s4_1 : w.heap.size ≤ gb164)
                have n6_ := Aside0.mk (ns hg s4_1 : w.heap.size ≤ gb164)
                have n7_ := Aside0.mk ((nlt hg (zk BK155.out) : gb155 ≠ gb164))
                have n8_ := Aside0.mk ((ngt hg (zk BK155.out) : gb164 ≠ gb155))
                have n9_ := Aside0.mk ((nlt hg (zk BK156.out) : gb156 ≠ gb164))
                have n10_ := Aside0.mk ((ngt hg (zk BK156.out) : gb164 ≠ gb156))
                have n11_ := Aside0.mk ((nlt hg (zk BK163.out) : gb163 ≠ gb164))
                have n12_ := Aside0.mk ((ngt hg (zk BK163.out) : gb164 ≠ gb163))
                clear BK155 BK156 BK163 HB
                have BK155 := n0_
                have BK156 := n1_
                have BK163 := n2_
                have HB := n3_
                have BK164 := n4_
                have GW164 := n5_
                have GE164 := n6_
                have NB155_164 := n7_
                have NB164_155 := n8_
                have NB156_164 := n9_
                have NB164_156 := n10_
                have NB163_164 := n11_
                have NB164_163 := n12_
                clear n0_ n1_ n2_ n3_ n4_ n5_ n6_ n7_ n8_ n9_ n10_ n11_ n12_ hb hbox hg
                refine hK.out _ _ ⟨bc BK155.out 0, bc BK155.out 1, bc BK155.out 2, bc BK155.out 3, bc BK155.out 4, bc BK155.out 5, bc BK156.out 0, bc BK156.out 1, bc BK156.out 2, bc BK156.out 3, bc BK156.out 4, bc BK156.out 5⟩ (fun hHeld => ?_)
                clear hK K
                refine norm_ (a' := ?_) ?_ ?_
                rotate_left
                ·show Act.put _ (some 6) _ = _
                 simp only [Act.put, y1, y2, y3, i64_w, i32_w]
                 rfl
                exact norm_ s4_4 (hJ5_6 (gb163, gb164) _ ⟨hHeld, (zk BK155.out), (zk BK156.out), (zk BK163.out), (zk BK164.out), GW163.out, GE163.out, NB155_163.out, NB163_155.out, NB156_163.out, NB163_156.out, NB164_163.out, NB163_164.out, GW164.out, GE164.out, NB155_164.out, NB164_155.out, NB156_164.out, NB164_156.out, s4_3⟩)
             ·skip
              rintro _ w43 ⟨hS_, h0_, h1_, h2_⟩
              have n0_ : Aside0 (w43.heap[gb155]? = some (.cells #[.int .i64 a0_0, .int .i64 a0_1, .int .i64 a0_2, .int .i64 a0_3, .int .i64 a0_4, .int .i64 a0_5] 25 (0, 0))) := ⟨h0_⟩
              have n1_ : Aside0 (w43.heap[gb156]? = some (.cells #[.int .i64 a1_0, .int .i64 a1_1, .int .i64 a1_2, .int .i64 a1_3, .int .i64 a1_4, .int .i64 a1_5] 25 (0, 0))) := ⟨h1_⟩
              have n2_ : Aside0 (Below w.heap.size w w43) := ⟨h2_⟩
              clear BK155 BK156 HB h0_ h1_ h2_
              have BK155 := n0_
              have BK156 := n1_
              have HB := n2_
              clear n0_ n1_ n2_
              have hHeld : w43.cell? ⟨gb155, 0, none⟩ = some (.int .i64 a0_0) ∧ w43.cell? ⟨gb155, 1, none⟩ = some (.int .i64 a0_1) ∧ w43.cell? ⟨gb155, 2, none⟩ = some (.int .i64 a0_2) ∧ w43.cell? ⟨gb155, 3, none⟩ = some (.int .i64 a0_3) ∧ w43.cell? ⟨gb155, 4, none⟩ = some (.int .i64 a0_4) ∧ w43.cell? ⟨gb155, 5, none⟩ = some (.int .i64 a0_5) ∧ w43.cell? ⟨gb156, 0, none⟩ = some (.int .i64 a1_0) ∧ w43.cell? ⟨gb156, 1, none⟩ = some (.int .i64 a1_1) ∧ w43.cell? ⟨gb156, 2, none⟩ = some (.int .i64 a1_2) ∧ w43.cell? ⟨gb156, 3, none⟩ = some (.int .i64 a1_3) ∧ w43.cell? ⟨gb156, 4, none⟩ = some (.int .i64 a1_4) ∧ w43.cell? ⟨gb156, 5, none⟩ = some (.int .i64 a1_5) := hS_
              refine norm_ (a' := ?_) ?_ ?_
              rotate_left
              ·simp only [putAll, Act.put, y1, y2, y3]
               rfl
              refine three_ (i := 4) (j := 5) (k := 6) (Ni := some 19) (Nj := some 5) (Nk := some 6) (bz 9 31) (bz 9 47) (bz 9 79) rfl rfl rfl rfl rfl rfl (three_of HT_.out (by kernel_rfl)) (by decide) (by decide) (by decide) (fun K hK => ?_) (fun K hK => ?_) (fun K hK => ?_)
              ·skip
               refine goes_ Try.func71 (by kernel_rfl) rfl #[.agg #[.int .i64 a1_0, .int .i64 a1_1, .int .i64 a1_2, .int .i64 a1_3, .int .i64 a1_4, .int .i64 a1_5]] (by rfl) rfl rfl s4_5 ?_
               with_reducible refine (impl_Ship_way.calls a1_0 a1_1 a1_2 a1_3 a1_4 a1_5 t161 t162 _ A19.out).mono ?_
               rintro e w44 ⟨rfl, hb⟩
               refine ⟨_, rfl, ?_⟩
               have n0_ := Aside0.mk (bb (zk BK155.out) hb)
               have n1_ := Aside0.mk (bb (zk BK156.out) hb)
               have n2_ := Aside0.mk (below_step s4_0 hb)
               clear BK155 BK156 HB
               have BK155 := n0_
               have BK156 := n1_
               have HB := n2_
               clear n0_ n1_ n2_
               (try clear hb)
               (try clear hb2)
               (try clear hk)
               (try clear hi)
               refine hK.out _ _ ⟨bc BK155.out 0, bc BK155.out 1, bc BK155.out 2, bc BK155.out 3, bc BK155.out 4, bc BK155.out 5, bc BK156.out 0, bc BK156.out 1, bc BK156.out 2, bc BK156.out 3, bc BK156.out 4, bc BK156.out 5⟩ (fun hHeld => ?_)
               clear hK K
               refine norm_ (a' := ?_) ?_ ?_
               rotate_left
               ·show Act.put _ (some 19) _ = _
                simp only [Act.put, y1, y2, y3, i64_w, i32_w]
                rfl
               exact norm_ s4_4 (hJ2_4 () _ ⟨hHeld, (zk BK155.out), (zk BK156.out), s4_0⟩)
              ·skip
               refine box_step ?hg (N := 5) ?hd (cs := #[.int .i64 0, .int .i64 0]) (t := 89) ?hr ?_; (case hd => rfl); (case hg => rfl); (case hr => first | (go_simp; done) | (go_simp; rfl))
               intro gb163 hg w44 hbox hb
               have n0_ := Aside0.mk (bb (zk BK155.out) hb)
               have n1_ := Aside0.mk (bb (zk BK156.out) hb)
               have n2_ := Aside0.mk (below_step s4_0 hb)
               have n3_ := Aside0.mk (hbox)
               have n4_ := Aside0.mk (ns hg s4_0 : w.heap.size ≤ gb163)
               have n5_ := Aside0.mk (ns hg s4_0 : w.heap.size ≤ gb163)
               have n6_ := Aside0.mk ((nlt hg (zk BK155.out) : gb155 ≠ gb163))
               have n7_ := Aside0.mk ((ngt hg (zk BK155.out) : gb163 ≠ gb155))
               have n8_ := Aside0.mk ((nlt hg (zk BK156.out) : gb156 ≠ gb163))
               have n9_ := Aside0.mk ((ngt hg (zk BK156.out) : gb163 ≠ gb156))
               clear BK155 BK156 HB
               have BK155 := n0_
               have BK156 := n1_
               have HB := n2_
               have BK163 := n3_
               have GW163 := n4_
               have GE163 := n5_
               have NB155_163 := n6_
               have NB163_155 := n7_
               have NB156_163 := n8_
               have NB163_156 := n9_
               clear n0_ n1_ n2_ n3_ n4_ n5_ n6_ n7_ n8_ n9_ hb hbox hg
               refine hK.out _ _ ⟨bc BK155.out 0, bc BK155.out 1, bc BK155.out 2, bc BK155.out 3, bc BK155.out 4, bc BK155.out 5, bc BK156.out 0, bc BK156.out 1, bc BK156.out 2, bc BK156.out 3, bc BK156.out 4, bc BK156.out 5⟩ (fun hHeld => ?_)
               clear hK K
               refine norm_ (a' := ?_) ?_ ?_
               rotate_left
               ·show Act.put _ (some 5) _ = _
                simp only [Act.put, y1, y2, y3, i64_w, i32_w]
                rfl
               exact norm_ s4_4 (hJ2_5 (gb163) _ ⟨hHeld, (zk BK155.out), (zk BK156.out), (zk BK163.out), GW163.out, GE163.out, NB155_163.out, NB163_155.out, NB156_163.out, NB163_156.out, s4_1⟩)
              ·skip
               refine box_step ?hg (N := 6) ?hd (cs := #[.int .i64 0, .int .i64 0]) (t := 89) ?hr ?_; (case hd => rfl); (case hg => rfl); (case hr => first | (go_simp; done) | (go_simp; rfl))
               intro gb164 hg w44 hbox hb
               have n0_ := Aside0.mk (bb (zk BK155.out) hb)
               have n1_ := Aside0.mk (bb (zk BK156.out) hb)
               have n2_ := Aside0.mk (below_step s4_0 hb)
               have n3_ := Aside0.mk (hbox)
               have n4_ := Aside0.mk (ns hg s4_0 : w.heap.size ≤ gb164)
               have n5_ := Aside0.mk (ns hg s4_0 : w.heap.size ≤ gb164)
               have n6_ := Aside0.mk ((nlt hg (zk BK155.out) : gb155 ≠ gb164))
               have n7_ := Aside0.mk ((ngt hg (zk BK155.out) : gb164 ≠ gb155))
               have n8_ := Aside0.mk ((nlt hg (zk BK156.out) : gb156 ≠ gb164))
               have n9_ := Aside0.mk ((ngt hg (zk BK156.out) : gb164 ≠ gb156))
               clear BK155 BK156 HB
               have BK155 := n0_
               have BK156 := n1_
               have HB := n2_
               have BK164 := n3_
               have GW164 := n4_
               have GE164 := n5_
               have NB155_164 := n6_
               have NB164_155 := n7_
               have NB156_164 := n8_
               have NB164_156 := n9_
               clear n0_ n1_ n2_ n3_ n4_ n5_ n6_ n7_ n8_ n9_ hb hbox hg
               refine hK.out _ _ ⟨bc BK155.out 0, bc BK155.out 1, bc BK155.out 2, bc BK155.out 3, bc BK155.out 4, bc BK155.out 5, bc BK156.out 0, bc BK156.out 1, bc BK156.out 2, bc BK156.out 3, bc BK156.out 4, bc BK156.out 5⟩ (fun hHeld => ?_)
               clear hK K
               refine norm_ (a' := ?_) ?_ ?_
               rotate_left
               ·show Act.put _ (some 6) _ = _
                simp only [Act.put, y1, y2, y3, i64_w, i32_w]
                rfl
               exact norm_ s4_4 (hJ2_6 (gb164) _ ⟨hHeld, (zk BK155.out), (zk BK156.out), (zk BK164.out), GW164.out, GE164.out, NB155_164.out, NB164_155.out, NB156_164.out, NB164_156.out, s4_2⟩)
            ·skip
             rintro ⟨gb163, gb164⟩ w44 ⟨hS_, h0_, h1_, h2_, h3_, h4_, h5_, h6_, h7_, h8_, h9_, h10_, h11_, h12_, h13_, h14_, h15_, h16_, h17_, h18_⟩
             have n0_ : Aside0 (w44.heap[gb155]? = some (.cells #[.int .i64 a0_0, .int .i64 a0_1, .int .i64 a0_2, .int .i64 a0_3, .int .i64 a0_4, .int .i64 a0_5] 25 (0, 0))) := ⟨h0_⟩
             have n1_ : Aside0 (w44.heap[gb156]? = some (.cells #[.int .i64 a1_0, .int .i64 a1_1, .int .i64 a1_2, .int .i64 a1_3, .int .i64 a1_4, .int .i64 a1_5] 25 (0, 0))) := ⟨h1_⟩
             have n2_ : Aside0 (w44.heap[gb163]? = some (.cells #[.int .i64 0, .int .i64 0] 89 (0, 0))) := ⟨h2_⟩
             have n3_ : Aside0 (w44.heap[gb164]? = some (.cells #[.int .i64 0, .int .i64 0] 89 (0, 0))) := ⟨h3_⟩
             have n4_ : Aside0 (w.heap.size ≤ gb163) := ⟨h4_⟩
             have n5_ : Aside0 (w.heap.size ≤ gb163) := ⟨h5_⟩
             have n6_ : Aside0 (gb155 ≠ gb163) := ⟨h6_⟩
             have n7_ : Aside0 (gb163 ≠ gb155) := ⟨h7_⟩
             have n8_ : Aside0 (gb156 ≠ gb163) := ⟨h8_⟩
             have n9_ : Aside0 (gb163 ≠ gb156) := ⟨h9_⟩
             have n10_ : Aside0 (gb164 ≠ gb163) := ⟨h10_⟩
             have n11_ : Aside0 (gb163 ≠ gb164) := ⟨h11_⟩
             have n12_ : Aside0 (w.heap.size ≤ gb164) := ⟨h12_⟩
             have n13_ : Aside0 (w.heap.size ≤ gb164) := ⟨h13_⟩
             have n14_ : Aside0 (gb155 ≠ gb164) := ⟨h14_⟩
             have n15_ : Aside0 (gb164 ≠ gb155) := ⟨h15_⟩
             have n16_ : Aside0 (gb156 ≠ gb164) := ⟨h16_⟩
             have n17_ : Aside0 (gb164 ≠ gb156) := ⟨h17_⟩
             have n18_ : Aside0 (Below w.heap.size w w44) := ⟨h18_⟩
             clear BK155 BK156 HB h0_ h1_ h2_ h3_ h4_ h5_ h6_ h7_ h8_ h9_ h10_ h11_ h12_ h13_ h14_ h15_ h16_ h17_ h18_
             have BK155 := n0_
             have BK156 := n1_
             have BK163 := n2_
             have BK164 := n3_
             have GW163 := n4_
             have GE163 := n5_
             have NB155_163 := n6_
             have NB163_155 := n7_
             have NB156_163 := n8_
             have NB163_156 := n9_
             have NB164_163 := n10_
             have NB163_164 := n11_
             have GW164 := n12_
             have GE164 := n13_
             have NB155_164 := n14_
             have NB164_155 := n15_
             have NB156_164 := n16_
             have NB164_156 := n17_
             have HB := n18_
             clear n0_ n1_ n2_ n3_ n4_ n5_ n6_ n7_ n8_ n9_ n10_ n11_ n12_ n13_ n14_ n15_ n16_ n17_ n18_
             have hHeld : w44.cell? ⟨gb155, 0, none⟩ = some (.int .i64 a0_0) ∧ w44.cell? ⟨gb155, 1, none⟩ = some (.int .i64 a0_1) ∧ w44.cell? ⟨gb155, 2, none⟩ = some (.int .i64 a0_2) ∧ w44.cell? ⟨gb155, 3, none⟩ = some (.int .i64 a0_3) ∧ w44.cell? ⟨gb155, 4, none⟩ = some (.int .i64 a0_4) ∧ w44.cell? ⟨gb155, 5, none⟩ = some (.int .i64 a0_5) ∧ w44.cell? ⟨gb156, 0, none⟩ = some (.int .i64 a1_0) ∧ w44.cell? ⟨gb156, 1, none⟩ = some (.int .i64 a1_1) ∧ w44.cell? ⟨gb156, 2, none⟩ = some (.int .i64 a1_2) ∧ w44.cell? ⟨gb156, 3, none⟩ = some (.int .i64 a1_3) ∧ w44.cell? ⟨gb156, 4, none⟩ = some (.int .i64 a1_4) ∧ w44.cell? ⟨gb156, 5, none⟩ = some (.int .i64 a1_5) := hS_
             refine norm_ (a' := ?_) ?_ ?_
             rotate_left
             ·simp only [putAll, Act.put, y1, y2, y3]
              rfl
             refine one_ (i := 2) (N := some 17) (bz 9 111) rfl rfl (one_of HT_.out (by kernel_rfl)) (by decide) (fun K hK => ?_)
             refine goes_ Try.func70 (by kernel_rfl) rfl #[.agg #[.int .i64 a0_0, .int .i64 a0_1, .int .i64 a0_2, .int .i64 a0_3, .int .i64 a0_4, .int .i64 a0_5], .agg #[.int .i64 a1_0, .int .i64 a1_1, .int .i64 a1_2, .int .i64 a1_3, .int .i64 a1_4, .int .i64 a1_5]] (by rfl) rfl rfl s4_5 ?_
             with_reducible refine (impl_bearing.calls a0_0 a0_1 a0_2 a0_3 a0_4 a0_5 a1_0 a1_1 a1_2 a1_3 a1_4 a1_5 t159 t160 _ A18.out).mono ?_
             rintro e w45 ⟨rfl, hb⟩
             refine ⟨_, rfl, ?_⟩
             have n0_ := Aside0.mk (bb (zk BK155.out) hb)
             have n1_ := Aside0.mk (bb (zk BK156.out) hb)
             have n2_ := Aside0.mk (bb (zk BK163.out) hb)
             have n3_ := Aside0.mk (bb (zk BK164.out) hb)
             have n4_ := Aside0.mk (below_step s4_3 hb)
             clear BK155 BK156 BK163 BK164 HB
             have BK155 := n0_
             have BK156 := n1_
             have BK163 := n2_
             have BK164 := n3_
             have HB := n4_
             clear n0_ n1_ n2_ n3_ n4_
             (try clear hb)
             (try clear hb2)
             (try clear hk)
             (try clear hi)
             refine hK.out _ _ ⟨bc BK155.out 0, bc BK155.out 1, bc BK155.out 2, bc BK155.out 3, bc BK155.out 4, bc BK155.out 5, bc BK156.out 0, bc BK156.out 1, bc BK156.out 2, bc BK156.out 3, bc BK156.out 4, bc BK156.out 5⟩ (fun hHeld => ?_)
             clear hK K
             refine norm_ (a' := ?_) ?_ ?_
             rotate_left
             ·show Act.put _ (some 17) _ = _
              simp only [Act.put, y1, y2, y3, i64_w, i32_w]
              rfl
             exact norm_ s4_4 (hJ2_5_6 (gb163, gb164) _ ⟨hHeld, (zk BK155.out), (zk BK156.out), (zk BK163.out), (zk BK164.out), GW163.out, GE163.out, NB155_163.out, NB163_155.out, NB156_163.out, NB163_156.out, NB164_163.out, NB163_164.out, GW164.out, GE164.out, NB155_164.out, NB164_155.out, NB156_164.out, NB164_156.out, s4_3⟩)
           ·skip
            rintro gb164 w44 ⟨hS_, h0_, h1_, h2_, h3_, h4_, h5_, h6_, h7_, h8_, h9_⟩
            have n0_ : Aside0 (w44.heap[gb155]? = some (.cells #[.int .i64 a0_0, .int .i64 a0_1, .int .i64 a0_2, .int .i64 a0_3, .int .i64 a0_4, .int .i64 a0_5] 25 (0, 0))) := ⟨h0_⟩
            have n1_ : Aside0 (w44.heap[gb156]? = some (.cells #[.int .i64 a1_0, .int .i64 a1_1, .int .i64 a1_2, .int .i64 a1_3, .int .i64 a1_4, .int .i64 a1_5] 25 (0, 0))) := ⟨h1_⟩
            have n2_ : Aside0 (w44.heap[gb164]? = some (.cells #[.int .i64 0, .int .i64 0] 89 (0, 0))) := ⟨h2_⟩
            have n3_ : Aside0 (w.heap.size ≤ gb164) := ⟨h3_⟩
            have n4_ : Aside0 (w.heap.size ≤ gb164) := ⟨h4_⟩
            have n5_ : Aside0 (gb155 ≠ gb164) := ⟨h5_⟩
            have n6_ : Aside0 (gb164 ≠ gb155) := ⟨h6_⟩
            have n7_ : Aside0 (gb156 ≠ gb164) := ⟨h7_⟩
            have n8_ : Aside0 (gb164 ≠ gb156) := ⟨h8_⟩
            have n9_ : Aside0 (Below w.heap.size w w44) := ⟨h9_⟩
            clear BK155 BK156 HB h0_ h1_ h2_ h3_ h4_ h5_ h6_ h7_ h8_ h9_
            have BK155 := n0_
            have BK156 := n1_
            have BK164 := n2_
            have GW164 := n3_
            have GE164 := n4_
            have NB155_164 := n5_
            have NB164_155 := n6_
            have NB156_164 := n7_
            have NB164_156 := n8_
            have HB := n9_
            clear n0_ n1_ n2_ n3_ n4_ n5_ n6_ n7_ n8_ n9_
            have hHeld : w44.cell? ⟨gb155, 0, none⟩ = some (.int .i64 a0_0) ∧ w44.cell? ⟨gb155, 1, none⟩ = some (.int .i64 a0_1) ∧ w44.cell? ⟨gb155, 2, none⟩ = some (.int .i64 a0_2) ∧ w44.cell? ⟨gb155, 3, none⟩ = some (.int .i64 a0_3) ∧ w44.cell? ⟨gb155, 4, none⟩ = some (.int .i64 a0_4) ∧ w44.cell? ⟨gb155, 5, none⟩ = some (.int .i64 a0_5) ∧ w44.cell? ⟨gb156, 0, none⟩ = some (.int .i64 a1_0) ∧ w44.cell? ⟨gb156, 1, none⟩ = some (.int .i64 a1_1) ∧ w44.cell? ⟨gb156, 2, none⟩ = some (.int .i64 a1_2) ∧ w44.cell? ⟨gb156, 3, none⟩ = some (.int .i64 a1_3) ∧ w44.cell? ⟨gb156, 4, none⟩ = some (.int .i64 a1_4) ∧ w44.cell? ⟨gb156, 5, none⟩ = some (.int .i64 a1_5) := hS_
            refine norm_ (a' := ?_) ?_ ?_
            rotate_left
            ·simp only [putAll, Act.put, y1, y2, y3]
             rfl
            refine two_ (i := 4) (j := 5) (Ni := some 19) (Nj := some 5) (bz 9 95) (bz 9 111) rfl rfl rfl rfl (two_of HT_.out (by kernel_rfl)) (by decide) (by decide) (fun K hK => ?_) (fun K hK => ?_)
            ·skip
             refine goes_ Try.func71 (by kernel_rfl) rfl #[.agg #[.int .i64 a1_0, .int .i64 a1_1, .int .i64 a1_2, .int .i64 a1_3, .int .i64 a1_4, .int .i64 a1_5]] (by rfl) rfl rfl s4_5 ?_
             with_reducible refine (impl_Ship_way.calls a1_0 a1_1 a1_2 a1_3 a1_4 a1_5 t161 t162 _ A19.out).mono ?_
             rintro e w45 ⟨rfl, hb⟩
             refine ⟨_, rfl, ?_⟩
             have n0_ := Aside0.mk (bb (zk BK155.out) hb)
             have n1_ := Aside0.mk (bb (zk BK156.out) hb)
             have n2_ := Aside0.mk (bb (zk BK164.out) hb)
             have n3_ := Aside0.mk (below_step s4_2 hb)
             clear BK155 BK156 BK164 HB
             have BK155 := n0_
             have BK156 := n1_
             have BK164 := n2_
             have HB := n3_
             clear n0_ n1_ n2_ n3_
             (try clear hb)
             (try clear hb2)
             (try clear hk)
             (try clear hi)
             refine hK.out _ _ ⟨bc BK155.out 0, bc BK155.out 1, bc BK155.out 2, bc BK155.out 3, bc BK155.out 4, bc BK155.out 5, bc BK156.out 0, bc BK156.out 1, bc BK156.out 2, bc BK156.out 3, bc BK156.out 4, bc BK156.out 5⟩ (fun hHeld => ?_)
             clear hK K
             refine norm_ (a' := ?_) ?_ ?_
             rotate_left
             ·show Act.put _ (some 19) _ = _
              simp only [Act.put, y1, y2, y3, i64_w, i32_w]
              rfl
             exact norm_ s4_4 (hJ2_4_6 (gb164) _ ⟨hHeld, (zk BK155.out), (zk BK156.out), (zk BK164.out), GW164.out, GE164.out, NB155_164.out, NB164_155.out, NB156_164.out, NB164_156.out, s4_2⟩)
            ·skip
             refine box_step ?hg (N := 5) ?hd (cs := #[.int .i64 0, .int .i64 0]) (t := 89) ?hr ?_; (case hd => rfl); (case hg => rfl); (case hr => first | (go_simp; done) | (go_simp; rfl))
             intro gb163 hg w45 hbox hb
             have n0_ := Aside0.mk (bb (zk BK155.out) hb)
             have n1_ := Aside0.mk (bb (zk BK156.out) hb)
             have n2_ := Aside0.mk (bb (zk BK164.out) hb)
             have n3_ := Aside0.mk (below_step s4_2 hb)
             have n4_ := Aside0.mk (hbox)
             have n5_ := Aside0.mk (ns hg s4_2 : w.heap.size ≤ gb163)
             have n6_ := Aside0.mk (ns hg s4_2 : w.heap.size ≤ gb163)
             have n7_ := Aside0.mk ((nlt hg (zk BK155.out) : gb155 ≠ gb163))
             have n8_ := Aside0.mk ((ngt hg (zk BK155.out) : gb163 ≠ gb155))
             have n9_ := Aside0.mk ((nlt hg (zk BK156.out) : gb156 ≠ gb163))
             have n10_ := Aside0.mk ((ngt hg (zk BK156.out) : gb163 ≠ gb156))
             have n11_ := Aside0.mk ((nlt hg (zk BK164.out) : gb164 ≠ gb163))
             have n12_ := Aside0.mk ((ngt hg (zk BK164.out) : gb163 ≠ gb164))
             clear BK155 BK156 BK164 HB
             have BK155 := n0_
             have BK156 := n1_
             have BK164 := n2_
             have HB := n3_
             have BK163 := n4_
             have GW163 := n5_
             have GE163 := n6_
             have NB155_163 := n7_
             have NB163_155 := n8_
             have NB156_163 := n9_
             have NB163_156 := n10_
             have NB164_163 := n11_
             have NB163_164 := n12_
             clear n0_ n1_ n2_ n3_ n4_ n5_ n6_ n7_ n8_ n9_ n10_ n11_ n12_ hb hbox hg
             refine hK.out _ _ ⟨bc BK155.out 0, bc BK155.out 1, bc BK155.out 2, bc BK155.out 3, bc BK155.out 4, bc BK155.out 5, bc BK156.out 0, bc BK156.out 1, bc BK156.out 2, bc BK156.out 3, bc BK156.out 4, bc BK156.out 5⟩ (fun hHeld => ?_)
             clear hK K
             refine norm_ (a' := ?_) ?_ ?_
             rotate_left
             ·show Act.put _ (some 5) _ = _
              simp only [Act.put, y1, y2, y3, i64_w, i32_w]
              rfl
             exact norm_ s4_4 (hJ2_5_6 (gb163, gb164) _ ⟨hHeld, (zk BK155.out), (zk BK156.out), (zk BK163.out), (zk BK164.out), GW163.out, GE163.out, NB155_163.out, NB163_155.out, NB156_163.out, NB163_156.out, NB164_163.out, NB163_164.out, GW164.out, GE164.out, NB155_164.out, NB164_155.out, NB156_164.out, NB164_156.out, s4_6⟩)
          ·skip
           rintro gb163 w44 ⟨hS_, h0_, h1_, h2_, h3_, h4_, h5_, h6_, h7_, h8_, h9_⟩
           have n0_ : Aside0 (w44.heap[gb155]? = some (.cells #[.int .i64 a0_0, .int .i64 a0_1, .int .i64 a0_2, .int .i64 a0_3, .int .i64 a0_4, .int .i64 a0_5] 25 (0, 0))) := ⟨h0_⟩
           have n1_ : Aside0 (w44.heap[gb156]? = some (.cells #[.int .i64 a1_0, .int .i64 a1_1, .int .i64 a1_2, .int .i64 a1_3, .int .i64 a1_4, .int .i64 a1_5] 25 (0, 0))) := ⟨h1_⟩
           have n2_ : Aside0 (w44.heap[gb163]? = some (.cells #[.int .i64 0, .int .i64 0] 89 (0, 0))) := ⟨h2_⟩
           have n3_ : Aside0 (w.heap.size ≤ gb163) := ⟨h3_⟩
           have n4_ : Aside0 (w.heap.size ≤ gb163) := ⟨h4_⟩
           have n5_ : Aside0 (gb155 ≠ gb163) := ⟨h5_⟩
           have n6_ : Aside0 (gb163 ≠ gb155) := ⟨h6_⟩
           have n7_ : Aside0 (gb156 ≠ gb163) := ⟨h7_⟩
           have n8_ : Aside0 (gb163 ≠ gb156) := ⟨h8_⟩
           have n9_ : Aside0 (Below w.heap.size w w44) := ⟨h9_⟩
           clear BK155 BK156 HB h0_ h1_ h2_ h3_ h4_ h5_ h6_ h7_ h8_ h9_
           have BK155 := n0_
           have BK156 := n1_
           have BK163 := n2_
           have GW163 := n3_
           have GE163 := n4_
           have NB155_163 := n5_
           have NB163_155 := n6_
           have NB156_163 := n7_
           have NB163_156 := n8_
           have HB := n9_
           clear n0_ n1_ n2_ n3_ n4_ n5_ n6_ n7_ n8_ n9_
           have hHeld : w44.cell? ⟨gb155, 0, none⟩ = some (.int .i64 a0_0) ∧ w44.cell? ⟨gb155, 1, none⟩ = some (.int .i64 a0_1) ∧ w44.cell? ⟨gb155, 2, none⟩ = some (.int .i64 a0_2) ∧ w44.cell? ⟨gb155, 3, none⟩ = some (.int .i64 a0_3) ∧ w44.cell? ⟨gb155, 4, none⟩ = some (.int .i64 a0_4) ∧ w44.cell? ⟨gb155, 5, none⟩ = some (.int .i64 a0_5) ∧ w44.cell? ⟨gb156, 0, none⟩ = some (.int .i64 a1_0) ∧ w44.cell? ⟨gb156, 1, none⟩ = some (.int .i64 a1_1) ∧ w44.cell? ⟨gb156, 2, none⟩ = some (.int .i64 a1_2) ∧ w44.cell? ⟨gb156, 3, none⟩ = some (.int .i64 a1_3) ∧ w44.cell? ⟨gb156, 4, none⟩ = some (.int .i64 a1_4) ∧ w44.cell? ⟨gb156, 5, none⟩ = some (.int .i64 a1_5) := hS_
           refine norm_ (a' := ?_) ?_ ?_
           rotate_left
           ·simp only [putAll, Act.put, y1, y2, y3]
            rfl
           refine two_ (i := 4) (j := 6) (Ni := some 19) (Nj := some 6) (bz 9 63) (bz 9 111) rfl rfl rfl rfl (two_of HT_.out (by kernel_rfl)) (by decide) (by decide) (fun K hK => ?_) (fun K hK => ?_)
           ·skip
            refine goes_ Try.func71 (by kernel_rfl) rfl #[.agg #[.int .i64 a1_0, .int .i64 a1_1, .int .i64 a1_2, .int .i64 a1_3, .int .i64 a1_4, .int .i64 a1_5]] (by rfl) rfl rfl s4_5 ?_
            with_reducible refine (impl_Ship_way.calls a1_0 a1_1 a1_2 a1_3 a1_4 a1_5 t161 t162 _ A19.out).mono ?_
            rintro e w45 ⟨rfl, hb⟩
            refine ⟨_, rfl, ?_⟩
            have n0_ := Aside0.mk (bb (zk BK155.out) hb)
            have n1_ := Aside0.mk (bb (zk BK156.out) hb)
            have n2_ := Aside0.mk (bb (zk BK163.out) hb)
            have n3_ := Aside0.mk (below_step s4_1 hb)
            clear BK155 BK156 BK163 HB
            have BK155 := n0_
            have BK156 := n1_
            have BK163 := n2_
            have HB := n3_
            clear n0_ n1_ n2_ n3_
            (try clear hb)
            (try clear hb2)
            (try clear hk)
            (try clear hi)
            refine hK.out _ _ ⟨bc BK155.out 0, bc BK155.out 1, bc BK155.out 2, bc BK155.out 3, bc BK155.out 4, bc BK155.out 5, bc BK156.out 0, bc BK156.out 1, bc BK156.out 2, bc BK156.out 3, bc BK156.out 4, bc BK156.out 5⟩ (fun hHeld => ?_)
            clear hK K
            refine norm_ (a' := ?_) ?_ ?_
            rotate_left
            ·show Act.put _ (some 19) _ = _
             simp only [Act.put, y1, y2, y3, i64_w, i32_w]
             rfl
            exact norm_ s4_4 (hJ2_4_5 (gb163) _ ⟨hHeld, (zk BK155.out), (zk BK156.out), (zk BK163.out), GW163.out, GE163.out, NB155_163.out, NB163_155.out, NB156_163.out, NB163_156.out, s4_1⟩)
           ·skip
            refine box_step ?hg (N := 6) ?hd (cs := #[.int .i64 0, .int .i64 0]) (t := 89) ?hr ?_; (case hd => rfl); (case hg => rfl); (case hr => first | (go_simp; done) | (go_simp; rfl))
            intro gb164 hg w45 hbox hb
            have n0_ := Aside0.mk (bb (zk BK155.out) hb)
            have n1_ := Aside0.mk (bb (zk BK156.out) hb)
            have n2_ := Aside0.mk (bb (zk BK163.out) hb)
            have n3_ := Aside0.mk (below_step s4_1 hb)
            have n4_ := Aside0.mk (hbox)
            have n5_ := Aside0.mk (ns hg s4_1 : w.heap.size ≤ gb164)
            have n6_ := Aside0.mk (ns hg s4_1 : w.heap.size ≤ gb164)
            have n7_ := Aside0.mk ((nlt hg (zk BK155.out) : gb155 ≠ gb164))
            have n8_ := Aside0.mk ((ngt hg (zk BK155.out) : gb164 ≠ gb155))
            have n9_ := Aside0.mk ((nlt hg (zk BK156.out) : gb156 ≠ gb164))
            have n10_ := Aside0.mk ((ngt hg (zk BK156.out) : gb164 ≠ gb156))
            have n11_ := Aside0.mk ((nlt hg (zk BK163.out) : gb163 ≠ gb164))
            have n12_ := Aside0.mk ((ngt hg (zk BK163.out) : gb164 ≠ gb163))
            clear BK155 BK156 BK163 HB
            have BK155 := n0_
            have BK156 := n1_
            have BK163 := n2_
            have HB := n3_
            have BK164 := n4_
            have GW164 := n5_
            have GE164 := n6_
            have NB155_164 := n7_
            have NB164_155 := n8_
            have NB156_164 := n9_
            have NB164_156 := n10_
            have NB163_164 := n11_
            have NB164_163 := n12_
            clear n0_ n1_ n2_ n3_ n4_ n5_ n6_ n7_ n8_ n9_ n10_ n11_ n12_ hb hbox hg
            refine hK.out _ _ ⟨bc BK155.out 0, bc BK155.out 1, bc BK155.out 2, bc BK155.out 3, bc BK155.out 4, bc BK155.out 5, bc BK156.out 0, bc BK156.out 1, bc BK156.out 2, bc BK156.out 3, bc BK156.out 4, bc BK156.out 5⟩ (fun hHeld => ?_)
            clear hK K
            refine norm_ (a' := ?_) ?_ ?_
            rotate_left
            ·show Act.put _ (some 6) _ = _
             simp only [Act.put, y1, y2, y3, i64_w, i32_w]
             rfl
            exact norm_ s4_4 (hJ2_5_6 (gb163, gb164) _ ⟨hHeld, (zk BK155.out), (zk BK156.out), (zk BK163.out), (zk BK164.out), GW163.out, GE163.out, NB155_163.out, NB163_155.out, NB156_163.out, NB163_156.out, NB164_163.out, NB163_164.out, GW164.out, GE164.out, NB155_164.out, NB164_155.out, NB156_164.out, NB164_156.out, s4_3⟩)
         ·skip
          rintro _ w44 ⟨hS_, h0_, h1_, h2_⟩
          have n0_ : Aside0 (w44.heap[gb155]? = some (.cells #[.int .i64 a0_0, .int .i64 a0_1, .int .i64 a0_2, .int .i64 a0_3, .int .i64 a0_4, .int .i64 a0_5] 25 (0, 0))) := ⟨h0_⟩
          have n1_ : Aside0 (w44.heap[gb156]? = some (.cells #[.int .i64 a1_0, .int .i64 a1_1, .int .i64 a1_2, .int .i64 a1_3, .int .i64 a1_4, .int .i64 a1_5] 25 (0, 0))) := ⟨h1_⟩
          have n2_ : Aside0 (Below w.heap.size w w44) := ⟨h2_⟩
          clear BK155 BK156 HB h0_ h1_ h2_
          have BK155 := n0_
          have BK156 := n1_
          have HB := n2_
          clear n0_ n1_ n2_
          have hHeld : w44.cell? ⟨gb155, 0, none⟩ = some (.int .i64 a0_0) ∧ w44.cell? ⟨gb155, 1, none⟩ = some (.int .i64 a0_1) ∧ w44.cell? ⟨gb155, 2, none⟩ = some (.int .i64 a0_2) ∧ w44.cell? ⟨gb155, 3, none⟩ = some (.int .i64 a0_3) ∧ w44.cell? ⟨gb155, 4, none⟩ = some (.int .i64 a0_4) ∧ w44.cell? ⟨gb155, 5, none⟩ = some (.int .i64 a0_5) ∧ w44.cell? ⟨gb156, 0, none⟩ = some (.int .i64 a1_0) ∧ w44.cell? ⟨gb156, 1, none⟩ = some (.int .i64 a1_1) ∧ w44.cell? ⟨gb156, 2, none⟩ = some (.int .i64 a1_2) ∧ w44.cell? ⟨gb156, 3, none⟩ = some (.int .i64 a1_3) ∧ w44.cell? ⟨gb156, 4, none⟩ = some (.int .i64 a1_4) ∧ w44.cell? ⟨gb156, 5, none⟩ = some (.int .i64 a1_5) := hS_
          refine norm_ (a' := ?_) ?_ ?_
          rotate_left
          ·simp only [putAll, Act.put, y1, y2, y3]
           rfl
          refine two_ (i := 5) (j := 6) (Ni := some 5) (Nj := some 6) (bz 9 63) (bz 9 95) rfl rfl rfl rfl (two_of HT_.out (by kernel_rfl)) (by decide) (by decide) (fun K hK => ?_) (fun K hK => ?_)
          ·skip
           refine box_step ?hg (N := 5) ?hd (cs := #[.int .i64 0, .int .i64 0]) (t := 89) ?hr ?_; (case hd => rfl); (case hg => rfl); (case hr => first | (go_simp; done) | (go_simp; rfl))
           intro gb163 hg w45 hbox hb
           have n0_ := Aside0.mk (bb (zk BK155.out) hb)
           have n1_ := Aside0.mk (bb (zk BK156.out) hb)
           have n2_ := Aside0.mk (below_step s4_0 hb)
           have n3_ := Aside0.mk (hbox)
           have n4_ := Aside0.mk (ns hg s4_0 : w.heap.size ≤ gb163)
           have n5_ := Aside0.mk (ns hg s4_0 : w.heap.size ≤ gb163)
           have n6_ := Aside0.mk ((nlt hg (zk BK155.out) : gb155 ≠ gb163))
           have n7_ := Aside0.mk ((ngt hg (zk BK155.out) : gb163 ≠ gb155))
           have n8_ := Aside0.mk ((nlt hg (zk BK156.out) : gb156 ≠ gb163))
           have n9_ := Aside0.mk ((ngt hg (zk BK156.out) : gb163 ≠ gb156))
           clear BK155 BK156 HB
           have BK155 := n0_
           have BK156 := n1_
           have HB := n2_
           have BK163 := n3_
           have GW163 := n4_
           have GE163 := n5_
           have NB155_163 := n6_
           have NB163_155 := n7_
           have NB156_163 := n8_
           have NB163_156 := n9_
           clear n0_ n1_ n2_ n3_ n4_ n5_ n6_ n7_ n8_ n9_ hb hbox hg
           refine hK.out _ _ ⟨bc BK155.out 0, bc BK155.out 1, bc BK155.out 2, bc BK155.out 3, bc BK155.out 4, bc BK155.out 5, bc BK156.out 0, bc BK156.out 1, bc BK156.out 2, bc BK156.out 3, bc BK156.out 4, bc BK156.out 5⟩ (fun hHeld => ?_)
           clear hK K
           refine norm_ (a' := ?_) ?_ ?_
           rotate_left
           ·show Act.put _ (some 5) _ = _
            simp only [Act.put, y1, y2, y3, i64_w, i32_w]
            rfl
           exact norm_ s4_4 (hJ2_4_5 (gb163) _ ⟨hHeld, (zk BK155.out), (zk BK156.out), (zk BK163.out), GW163.out, GE163.out, NB155_163.out, NB163_155.out, NB156_163.out, NB163_156.out, s4_1⟩)
          ·skip
           refine box_step ?hg (N := 6) ?hd (cs := #[.int .i64 0, .int .i64 0]) (t := 89) ?hr ?_; (case hd => rfl); (case hg => rfl); (case hr => first | (go_simp; done) | (go_simp; rfl))
           intro gb164 hg w45 hbox hb
           have n0_ := Aside0.mk (bb (zk BK155.out) hb)
           have n1_ := Aside0.mk (bb (zk BK156.out) hb)
           have n2_ := Aside0.mk (below_step s4_0 hb)
           have n3_ := Aside0.mk (hbox)
           have n4_ := Aside0.mk (ns hg s4_0 : w.heap.size ≤ gb164)
           have n5_ := Aside0.mk (ns hg s4_0 : w.heap.size ≤ gb164)
           have n6_ := Aside0.mk ((nlt hg (zk BK155.out) : gb155 ≠ gb164))
           have n7_ := Aside0.mk ((ngt hg (zk BK155.out) : gb164 ≠ gb155))
           have n8_ := Aside0.mk ((nlt hg (zk BK156.out) : gb156 ≠ gb164))
           have n9_ := Aside0.mk ((ngt hg (zk BK156.out) : gb164 ≠ gb156))
           clear BK155 BK156 HB
           have BK155 := n0_
           have BK156 := n1_
           have HB := n2_
           have BK164 := n3_
           have GW164 := n4_
           have GE164 := n5_
           have NB155_164 := n6_
           have NB164_155 := n7_
           have NB156_164 := n8_
           have NB164_156 := n9_
           clear n0_ n1_ n2_ n3_ n4_ n5_ n6_ n7_ n8_ n9_ hb hbox hg
           refine hK.out _ _ ⟨bc BK155.out 0, bc BK155.out 1, bc BK155.out 2, bc BK155.out 3, bc BK155.out 4, bc BK155.out 5, bc BK156.out 0, bc BK156.out 1, bc BK156.out 2, bc BK156.out 3, bc BK156.out 4, bc BK156.out 5⟩ (fun hHeld => ?_)
           clear hK K
           refine norm_ (a' := ?_) ?_ ?_
           rotate_left
           ·show Act.put _ (some 6) _ = _
            simp only [Act.put, y1, y2, y3, i64_w, i32_w]
            rfl
           exact norm_ s4_4 (hJ2_4_6 (gb164) _ ⟨hHeld, (zk BK155.out), (zk BK156.out), (zk BK164.out), GW164.out, GE164.out, NB155_164.out, NB164_155.out, NB156_164.out, NB164_156.out, s4_2⟩)
        ·skip
         rintro ⟨gb163, gb164⟩ w45 ⟨hS_, h0_, h1_, h2_, h3_, h4_, h5_, h6_, h7_, h8_, h9_, h10_, h11_, h12_, h13_, h14_, h15_, h16_, h17_, h18_⟩
         have n0_ : Aside0 (w45.heap[gb155]? = some (.cells #[.int .i64 a0_0, .int .i64 a0_1, .int .i64 a0_2, .int .i64 a0_3, .int .i64 a0_4, .int .i64 a0_5] 25 (0, 0))) := ⟨h0_⟩
         have n1_ : Aside0 (w45.heap[gb156]? = some (.cells #[.int .i64 a1_0, .int .i64 a1_1, .int .i64 a1_2, .int .i64 a1_3, .int .i64 a1_4, .int .i64 a1_5] 25 (0, 0))) := ⟨h1_⟩
         have n2_ : Aside0 (w45.heap[gb163]? = some (.cells #[.int .i64 0, .int .i64 0] 89 (0, 0))) := ⟨h2_⟩
         have n3_ : Aside0 (w45.heap[gb164]? = some (.cells #[.int .i64 0, .int .i64 0] 89 (0, 0))) := ⟨h3_⟩
         have n4_ : Aside0 (w.heap.size ≤ gb163) := ⟨h4_⟩
         have n5_ : Aside0 (w.heap.size ≤ gb163) := ⟨h5_⟩
         have n6_ : Aside0 (gb155 ≠ gb163) := ⟨h6_⟩
         have n7_ : Aside0 (gb163 ≠ gb155) := ⟨h7_⟩
         have n8_ : Aside0 (gb156 ≠ gb163) := ⟨h8_⟩
         have n9_ : Aside0 (gb163 ≠ gb156) := ⟨h9_⟩
         have n10_ : Aside0 (gb164 ≠ gb163) := ⟨h10_⟩
         have n11_ : Aside0 (gb163 ≠ gb164) := ⟨h11_⟩
         have n12_ : Aside0 (w.heap.size ≤ gb164) := ⟨h12_⟩
         have n13_ : Aside0 (w.heap.size ≤ gb164) := ⟨h13_⟩
         have n14_ : Aside0 (gb155 ≠ gb164) := ⟨h14_⟩
         have n15_ : Aside0 (gb164 ≠ gb155) := ⟨h15_⟩
         have n16_ : Aside0 (gb156 ≠ gb164) := ⟨h16_⟩
         have n17_ : Aside0 (gb164 ≠ gb156) := ⟨h17_⟩
         have n18_ : Aside0 (Below w.heap.size w w45) := ⟨h18_⟩
         clear BK155 BK156 HB h0_ h1_ h2_ h3_ h4_ h5_ h6_ h7_ h8_ h9_ h10_ h11_ h12_ h13_ h14_ h15_ h16_ h17_ h18_
         have BK155 := n0_
         have BK156 := n1_
         have BK163 := n2_
         have BK164 := n3_
         have GW163 := n4_
         have GE163 := n5_
         have NB155_163 := n6_
         have NB163_155 := n7_
         have NB156_163 := n8_
         have NB163_156 := n9_
         have NB164_163 := n10_
         have NB163_164 := n11_
         have GW164 := n12_
         have GE164 := n13_
         have NB155_164 := n14_
         have NB164_155 := n15_
         have NB156_164 := n16_
         have NB164_156 := n17_
         have HB := n18_
         clear n0_ n1_ n2_ n3_ n4_ n5_ n6_ n7_ n8_ n9_ n10_ n11_ n12_ n13_ n14_ n15_ n16_ n17_ n18_
         have hHeld : w45.cell? ⟨gb155, 0, none⟩ = some (.int .i64 a0_0) ∧ w45.cell? ⟨gb155, 1, none⟩ = some (.int .i64 a0_1) ∧ w45.cell? ⟨gb155, 2, none⟩ = some (.int .i64 a0_2) ∧ w45.cell? ⟨gb155, 3, none⟩ = some (.int .i64 a0_3) ∧ w45.cell? ⟨gb155, 4, none⟩ = some (.int .i64 a0_4) ∧ w45.cell? ⟨gb155, 5, none⟩ = some (.int .i64 a0_5) ∧ w45.cell? ⟨gb156, 0, none⟩ = some (.int .i64 a1_0) ∧ w45.cell? ⟨gb156, 1, none⟩ = some (.int .i64 a1_1) ∧ w45.cell? ⟨gb156, 2, none⟩ = some (.int .i64 a1_2) ∧ w45.cell? ⟨gb156, 3, none⟩ = some (.int .i64 a1_3) ∧ w45.cell? ⟨gb156, 4, none⟩ = some (.int .i64 a1_4) ∧ w45.cell? ⟨gb156, 5, none⟩ = some (.int .i64 a1_5) := hS_
         refine norm_ (a' := ?_) ?_ ?_
         rotate_left
         ·simp only [putAll, Act.put, y1, y2, y3]
          rfl
         refine one_ (i := 4) (N := some 19) (bz 9 127) rfl rfl (one_of HT_.out (by kernel_rfl)) (by decide) (fun K hK => ?_)
         refine goes_ Try.func71 (by kernel_rfl) rfl #[.agg #[.int .i64 a1_0, .int .i64 a1_1, .int .i64 a1_2, .int .i64 a1_3, .int .i64 a1_4, .int .i64 a1_5]] (by rfl) rfl rfl s4_5 ?_
         with_reducible refine (impl_Ship_way.calls a1_0 a1_1 a1_2 a1_3 a1_4 a1_5 t161 t162 _ A19.out).mono ?_
         rintro e w46 ⟨rfl, hb⟩
         refine ⟨_, rfl, ?_⟩
         have n0_ := Aside0.mk (bb (zk BK155.out) hb)
         have n1_ := Aside0.mk (bb (zk BK156.out) hb)
         have n2_ := Aside0.mk (bb (zk BK163.out) hb)
         have n3_ := Aside0.mk (bb (zk BK164.out) hb)
         have n4_ := Aside0.mk (below_step s4_3 hb)
         clear BK155 BK156 BK163 BK164 HB
         have BK155 := n0_
         have BK156 := n1_
         have BK163 := n2_
         have BK164 := n3_
         have HB := n4_
         clear n0_ n1_ n2_ n3_ n4_
         (try clear hb)
         (try clear hb2)
         (try clear hk)
         (try clear hi)
         refine hK.out _ _ ⟨bc BK155.out 0, bc BK155.out 1, bc BK155.out 2, bc BK155.out 3, bc BK155.out 4, bc BK155.out 5, bc BK156.out 0, bc BK156.out 1, bc BK156.out 2, bc BK156.out 3, bc BK156.out 4, bc BK156.out 5⟩ (fun hHeld => ?_)
         clear hK K
         refine norm_ (a' := ?_) ?_ ?_
         rotate_left
         ·show Act.put _ (some 19) _ = _
          simp only [Act.put, y1, y2, y3, i64_w, i32_w]
          rfl
         exact norm_ s4_4 (hJ2_4_5_6 (gb163, gb164) _ ⟨hHeld, (zk BK155.out), (zk BK156.out), (zk BK163.out), (zk BK164.out), GW163.out, GE163.out, NB155_163.out, NB163_155.out, NB156_163.out, NB163_156.out, NB164_163.out, NB163_164.out, GW164.out, GE164.out, NB155_164.out, NB164_155.out, NB156_164.out, NB164_156.out, s4_3⟩)
       ·skip
        rintro gb164 w45 ⟨hS_, h0_, h1_, h2_, h3_, h4_, h5_, h6_, h7_, h8_, h9_⟩
        have n0_ : Aside0 (w45.heap[gb155]? = some (.cells #[.int .i64 a0_0, .int .i64 a0_1, .int .i64 a0_2, .int .i64 a0_3, .int .i64 a0_4, .int .i64 a0_5] 25 (0, 0))) := ⟨h0_⟩
        have n1_ : Aside0 (w45.heap[gb156]? = some (.cells #[.int .i64 a1_0, .int .i64 a1_1, .int .i64 a1_2, .int .i64 a1_3, .int .i64 a1_4, .int .i64 a1_5] 25 (0, 0))) := ⟨h1_⟩
        have n2_ : Aside0 (w45.heap[gb164]? = some (.cells #[.int .i64 0, .int .i64 0] 89 (0, 0))) := ⟨h2_⟩
        have n3_ : Aside0 (w.heap.size ≤ gb164) := ⟨h3_⟩
        have n4_ : Aside0 (w.heap.size ≤ gb164) := ⟨h4_⟩
        have n5_ : Aside0 (gb155 ≠ gb164) := ⟨h5_⟩
        have n6_ : Aside0 (gb164 ≠ gb155) := ⟨h6_⟩
        have n7_ : Aside0 (gb156 ≠ gb164) := ⟨h7_⟩
        have n8_ : Aside0 (gb164 ≠ gb156) := ⟨h8_⟩
        have n9_ : Aside0 (Below w.heap.size w w45) := ⟨h9_⟩
        clear BK155 BK156 HB h0_ h1_ h2_ h3_ h4_ h5_ h6_ h7_ h8_ h9_
        have BK155 := n0_
        have BK156 := n1_
        have BK164 := n2_
        have GW164 := n3_
        have GE164 := n4_
        have NB155_164 := n5_
        have NB164_155 := n6_
        have NB156_164 := n7_
        have NB164_156 := n8_
        have HB := n9_
        clear n0_ n1_ n2_ n3_ n4_ n5_ n6_ n7_ n8_ n9_
        have hHeld : w45.cell? ⟨gb155, 0, none⟩ = some (.int .i64 a0_0) ∧ w45.cell? ⟨gb155, 1, none⟩ = some (.int .i64 a0_1) ∧ w45.cell? ⟨gb155, 2, none⟩ = some (.int .i64 a0_2) ∧ w45.cell? ⟨gb155, 3, none⟩ = some (.int .i64 a0_3) ∧ w45.cell? ⟨gb155, 4, none⟩ = some (.int .i64 a0_4) ∧ w45.cell? ⟨gb155, 5, none⟩ = some (.int .i64 a0_5) ∧ w45.cell? ⟨gb156, 0, none⟩ = some (.int .i64 a1_0) ∧ w45.cell? ⟨gb156, 1, none⟩ = some (.int .i64 a1_1) ∧ w45.cell? ⟨gb156, 2, none⟩ = some (.int .i64 a1_2) ∧ w45.cell? ⟨gb156, 3, none⟩ = some (.int .i64 a1_3) ∧ w45.cell? ⟨gb156, 4, none⟩ = some (.int .i64 a1_4) ∧ w45.cell? ⟨gb156, 5, none⟩ = some (.int .i64 a1_5) := hS_
        refine norm_ (a' := ?_) ?_ ?_
        rotate_left
        ·simp only [putAll, Act.put, y1, y2, y3]
         rfl
        refine one_ (i := 5) (N := some 5) (bz 9 127) rfl rfl (one_of HT_.out (by kernel_rfl)) (by decide) (fun K hK => ?_)
        refine box_step ?hg (N := 5) ?hd (cs := #[.int .i64 0, .int .i64 0]) (t := 89) ?hr ?_; (case hd => rfl); (case hg => rfl); (case hr => first | (go_simp; done) | (go_simp; rfl))
        intro gb163 hg w46 hbox hb
        have n0_ := Aside0.mk (bb (zk BK155.out) hb)
        have n1_ := Aside0.mk (bb (zk BK156.out) hb)
        have n2_ := Aside0.mk (bb (zk BK164.out) hb)
        have n3_ := Aside0.mk (below_step s4_2 hb)
        have n4_ := Aside0.mk (hbox)
        have n5_ := Aside0.mk (ns hg s4_2 : w.heap.size ≤ gb163)
        have n6_ := Aside0.mk (ns hg s4_2 : w.heap.size ≤ gb163)
        have n7_ := Aside0.mk ((nlt hg (zk BK155.out) : gb155 ≠ gb163))
        have n8_ := Aside0.mk ((ngt hg (zk BK155.out) : gb163 ≠ gb155))
        have n9_ := Aside0.mk ((nlt hg (zk BK156.out) : gb156 ≠ gb163))
        have n10_ := Aside0.mk ((ngt hg (zk BK156.out) : gb163 ≠ gb156))
        have n11_ := Aside0.mk ((nlt hg (zk BK164.out) : gb164 ≠ gb163))
        have n12_ := Aside0.mk ((ngt hg (zk BK164.out) : gb163 ≠ gb164))
        clear BK155 BK156 BK164 HB
        have BK155 := n0_
        have BK156 := n1_
        have BK164 := n2_
        have HB := n3_
        have BK163 := n4_
        have GW163 := n5_
        have GE163 := n6_
        have NB155_163 := n7_
        have NB163_155 := n8_
        have NB156_163 := n9_
        have NB163_156 := n10_
        have NB164_163 := n11_
        have NB163_164 := n12_
        clear n0_ n1_ n2_ n3_ n4_ n5_ n6_ n7_ n8_ n9_ n10_ n11_ n12_ hb hbox hg
        refine hK.out _ _ ⟨bc BK155.out 0, bc BK155.out 1, bc BK155.out 2, bc BK155.out 3, bc BK155.out 4, bc BK155.out 5, bc BK156.out 0, bc BK156.out 1, bc BK156.out 2, bc BK156.out 3, bc BK156.out 4, bc BK156.out 5⟩ (fun hHeld => ?_)
        clear hK K
        refine norm_ (a' := ?_) ?_ ?_
        rotate_left
        ·show Act.put _ (some 5) _ = _
         simp only [Act.put, y1, y2, y3, i64_w, i32_w]
         rfl
        exact norm_ s4_4 (hJ2_4_5_6 (gb163, gb164) _ ⟨hHeld, (zk BK155.out), (zk BK156.out), (zk BK163.out), (zk BK164.out), GW163.out, GE163.out, NB155_163.out, NB163_155.out, NB156_163.out, NB163_156.out, NB164_163.out, NB163_164.out, GW164.out, GE164.out, NB155_164.out, NB164_155.out, NB156_164.out, NB164_156.out, s4_6⟩)
      ·skip
       rintro gb163 w45 ⟨hS_, h0_, h1_, h2_, h3_, h4_, h5_, h6_, h7_, h8_, h9_⟩
       have n0_ : Aside0 (w45.heap[gb155]? = some (.cells #[.int .i64 a0_0, .int .i64 a0_1, .int .i64 a0_2, .int .i64 a0_3, .int .i64 a0_4, .int .i64 a0_5] 25 (0, 0))) := ⟨h0_⟩
       have n1_ : Aside0 (w45.heap[gb156]? = some (.cells #[.int .i64 a1_0, .int .i64 a1_1, .int .i64 a1_2, .int .i64 a1_3, .int .i64 a1_4, .int .i64 a1_5] 25 (0, 0))) := ⟨h1_⟩
       have n2_ : Aside0 (w45.heap[gb163]? = some (.cells #[.int .i64 0, .int .i64 0] 89 (0, 0))) := ⟨h2_⟩
       have n3_ : Aside0 (w.heap.size ≤ gb163) := ⟨h3_⟩
       have n4_ : Aside0 (w.heap.size ≤ gb163) := ⟨h4_⟩
       have n5_ : Aside0 (gb155 ≠ gb163) := ⟨h5_⟩
       have n6_ : Aside0 (gb163 ≠ gb155) := ⟨h6_⟩
       have n7_ : Aside0 (gb156 ≠ gb163) := ⟨h7_⟩
       have n8_ : Aside0 (gb163 ≠ gb156) := ⟨h8_⟩
       have n9_ : Aside0 (Below w.heap.size w w45) := ⟨h9_⟩
       clear BK155 BK156 HB h0_ h1_ h2_ h3_ h4_ h5_ h6_ h7_ h8_ h9_
       have BK155 := n0_
       have BK156 := n1_
       have BK163 := n2_
       have GW163 := n3_
       have GE163 := n4_
       have NB155_163 := n5_
       have NB163_155 := n6_
       have NB156_163 := n7_
       have NB163_156 := n8_
       have HB := n9_
       clear n0_ n1_ n2_ n3_ n4_ n5_ n6_ n7_ n8_ n9_
       have hHeld : w45.cell? ⟨gb155, 0, none⟩ = some (.int .i64 a0_0) ∧ w45.cell? ⟨gb155, 1, none⟩ = some (.int .i64 a0_1) ∧ w45.cell? ⟨gb155, 2, none⟩ = some (.int .i64 a0_2) ∧ w45.cell? ⟨gb155, 3, none⟩ = some (.int .i64 a0_3) ∧ w45.cell? ⟨gb155, 4, none⟩ = some (.int .i64 a0_4) ∧ w45.cell? ⟨gb155, 5, none⟩ = some (.int .i64 a0_5) ∧ w45.cell? ⟨gb156, 0, none⟩ = some (.int .i64 a1_0) ∧ w45.cell? ⟨gb156, 1, none⟩ = some (.int .i64 a1_1) ∧ w45.cell? ⟨gb156, 2, none⟩ = some (.int .i64 a1_2) ∧ w45.cell? ⟨gb156, 3, none⟩ = some (.int .i64 a1_3) ∧ w45.cell? ⟨gb156, 4, none⟩ = some (.int .i64 a1_4) ∧ w45.cell? ⟨gb156, 5, none⟩ = some (.int .i64 a1_5) := hS_
       refine norm_ (a' := ?_) ?_ ?_
       rotate_left
       ·simp only [putAll, Act.put, y1, y2, y3]
        rfl
       refine one_ (i := 6) (N := some 6) (bz 9 127) rfl rfl (one_of HT_.out (by kernel_rfl)) (by decide) (fun K hK => ?_)
       refine box_step ?hg (N := 6) ?hd (cs := #[.int .i64 0, .int .i64 0]) (t := 89) ?hr ?_; (case hd => rfl); (case hg => rfl); (case hr => first | (go_simp; done) | (go_simp; rfl))
       intro gb164 hg w46 hbox hb
       have n0_ := Aside0.mk (bb (zk BK155.out) hb)
       have n1_ := Aside0.mk (bb (zk BK156.out) hb)
       have n2_ := Aside0.mk (bb (zk BK163.out) hb)
       have n3_ := Aside0.mk (below_step s4_1 hb)
       have n4_ := Aside0.mk (hbox)
       have n5_ := Aside0.mk (ns hg s4_1 : w.heap.size ≤ gb164)
       have n6_ := Aside0.mk (ns hg s4_1 : w.heap.size ≤ gb164)
       have n7_ := Aside0.mk ((nlt hg (zk BK155.out) : gb155 ≠ gb164))
       have n8_ := Aside0.mk ((ngt hg (zk BK155.out) : gb164 ≠ gb155))
       have n9_ := Aside0.mk ((nlt hg (zk BK156.out) : gb156 ≠ gb164))
       have n10_ := Aside0.mk ((ngt hg (zk BK156.out) : gb164 ≠ gb156))
       have n11_ := Aside0.mk ((nlt hg (zk BK163.out) : gb163 ≠ gb164))
       have n12_ := Aside0.mk ((ngt hg (zk BK163.out) : gb164 ≠ gb163))
       clear BK155 BK156 BK163 HB
       have BK155 := n0_
       have BK156 := n1_
       have BK163 := n2_
       have HB := n3_
       have BK164 := n4_
       have GW164 := n5_
       have GE164 := n6_
       have NB155_164 := n7_
       have NB164_155 := n8_
       have NB156_164 := n9_
       have NB164_156 := n10_
       have NB163_164 := n11_
       have NB164_163 := n12_
       clear n0_ n1_ n2_ n3_ n4_ n5_ n6_ n7_ n8_ n9_ n10_ n11_ n12_ hb hbox hg
       refine hK.out _ _ ⟨bc BK155.out 0, bc BK155.out 1, bc BK155.out 2, bc BK155.out 3, bc BK155.out 4, bc BK155.out 5, bc BK156.out 0, bc BK156.out 1, bc BK156.out 2, bc BK156.out 3, bc BK156.out 4, bc BK156.out 5⟩ (fun hHeld => ?_)
       clear hK K
       refine norm_ (a' := ?_) ?_ ?_
       rotate_left
       ·show Act.put _ (some 6) _ = _
        simp only [Act.put, y1, y2, y3, i64_w, i32_w]
        rfl
       exact norm_ s4_4 (hJ2_4_5_6 (gb163, gb164) _ ⟨hHeld, (zk BK155.out), (zk BK156.out), (zk BK163.out), (zk BK164.out), GW163.out, GE163.out, NB155_163.out, NB163_155.out, NB156_163.out, NB163_156.out, NB164_163.out, NB163_164.out, GW164.out, GE164.out, NB155_164.out, NB164_155.out, NB156_164.out, NB164_156.out, s4_3⟩)
     rintro ⟨gb163, gb164⟩ w46 ⟨hS_, h0_, h1_, h2_, h3_, h4_, h5_, h6_, h7_, h8_, h9_, h10_, h11_, h12_, h13_, h14_, h15_, h16_, h17_, h18_⟩
     have n0_ : Aside0 (w46.heap[gb155]? = some (.cells #[.int .i64 a0_0, .int .i64 a0_1, .int .i64 a0_2, .int .i64 a0_3, .int .i64 a0_4, .int .i64 a0_5] 25 (0, 0))) := ⟨h0_⟩
     have n1_ : Aside0 (w46.heap[gb156]? = some (.cells #[.int .i64 a1_0, .int .i64 a1_1, .int .i64 a1_2, .int .i64 a1_3, .int .i64 a1_4, .int .i64 a1_5] 25 (0, 0))) := ⟨h1_⟩
     have n2_ : Aside0 (w46.heap[gb163]? = some (.cells #[.int .i64 0, .int .i64 0] 89 (0, 0))) := ⟨h2_⟩
     have n3_ : Aside0 (w46.heap[gb164]? = some (.cells #[.int .i64 0, .int .i64 0] 89 (0, 0))) := ⟨h3_⟩
     have n4_ : Aside0 (w.heap.size ≤ gb163) := ⟨h4_⟩
     have n5_ : Aside0 (w.heap.size ≤ gb163) := ⟨h5_⟩
     have n6_ : Aside0 (gb155 ≠ gb163) := ⟨h6_⟩
     have n7_ : Aside0 (gb163 ≠ gb155) := ⟨h7_⟩
     have n8_ : Aside0 (gb156 ≠ gb163) := ⟨h8_⟩
     have n9_ : Aside0 (gb163 ≠ gb156) := ⟨h9_⟩
     have n10_ : Aside0 (gb164 ≠ gb163) := ⟨h10_⟩
     have n11_ : Aside0 (gb163 ≠ gb164) := ⟨h11_⟩
     have n12_ : Aside0 (w.heap.size ≤ gb164) := ⟨h12_⟩
     have n13_ : Aside0 (w.heap.size ≤ gb164) := ⟨h13_⟩
     have n14_ : Aside0 (gb155 ≠ gb164) := ⟨h14_⟩
     have n15_ : Aside0 (gb164 ≠ gb155) := ⟨h15_⟩
     have n16_ : Aside0 (gb156 ≠ gb164) := ⟨h16_⟩
     have n17_ : Aside0 (gb164 ≠ gb156) := ⟨h17_⟩
     have n18_ : Aside0 (Below w.heap.size w w46) := ⟨h18_⟩
     clear BK155 BK156 HB h0_ h1_ h2_ h3_ h4_ h5_ h6_ h7_ h8_ h9_ h10_ h11_ h12_ h13_ h14_ h15_ h16_ h17_ h18_
     have BK155 := n0_
     have BK156 := n1_
     have BK163 := n2_
     have BK164 := n3_
     have GW163 := n4_
     have GE163 := n5_
     have NB155_163 := n6_
     have NB163_155 := n7_
     have NB156_163 := n8_
     have NB163_156 := n9_
     have NB164_163 := n10_
     have NB163_164 := n11_
     have GW164 := n12_
     have GE164 := n13_
     have NB155_164 := n14_
     have NB164_155 := n15_
     have NB156_164 := n16_
     have NB164_156 := n17_
     have HB := n18_
     clear n0_ n1_ n2_ n3_ n4_ n5_ n6_ n7_ n8_ n9_ n10_ n11_ n12_ n13_ n14_ n15_ n16_ n17_ n18_
     have hHeld : w46.cell? ⟨gb155, 0, none⟩ = some (.int .i64 a0_0) ∧ w46.cell? ⟨gb155, 1, none⟩ = some (.int .i64 a0_1) ∧ w46.cell? ⟨gb155, 2, none⟩ = some (.int .i64 a0_2) ∧ w46.cell? ⟨gb155, 3, none⟩ = some (.int .i64 a0_3) ∧ w46.cell? ⟨gb155, 4, none⟩ = some (.int .i64 a0_4) ∧ w46.cell? ⟨gb155, 5, none⟩ = some (.int .i64 a0_5) ∧ w46.cell? ⟨gb156, 0, none⟩ = some (.int .i64 a1_0) ∧ w46.cell? ⟨gb156, 1, none⟩ = some (.int .i64 a1_1) ∧ w46.cell? ⟨gb156, 2, none⟩ = some (.int .i64 a1_2) ∧ w46.cell? ⟨gb156, 3, none⟩ = some (.int .i64 a1_3) ∧ w46.cell? ⟨gb156, 4, none⟩ = some (.int .i64 a1_4) ∧ w46.cell? ⟨gb156, 5, none⟩ = some (.int .i64 a1_5) := hS_
     refine norm_ (a' := ?_) ?_ ?_
     rotate_left
     ·simp only [putAll, Act.put, y1, y2, y3]
      rfl
     refine one_ (i := 7) (N := none) (bz 9 255) rfl rfl (one_of HT_.out (by kernel_rfl)) (by decide) (fun K hK => ?_)
     have hs47 : w46.cell? ⟨gb163, 0, none⟩ = some (.int .i64 0) := bc BK163.out 0
     have hfs47 := blk_frozen BK163.out 0
     have hns47_0 := NB155_163.out
     have hns47_1 := NB156_163.out
     have hns47_3 := NB164_163.out
     have hms47_0 := NB163_155.out
     have hms47_1 := NB163_156.out
     have hms47_3 := NB163_164.out
     have hs48 : w46.cell? ⟨gb163, 1, none⟩ = some (.int .i64 0) := bc BK163.out 1
     have hfs48 := blk_frozen BK163.out 1
     have hns48_0 := NB155_163.out
     have hns48_1 := NB156_163.out
     have hns48_3 := NB164_163.out
     have hms48_0 := NB163_155.out
     have hms48_1 := NB163_156.out
     have hms48_3 := NB163_164.out
     refine skip_ (w1 := ?_) (by rfl) rfl ?_ ?_
     rotate_left
     ·go_simp
      rfl
     refine hK.out _ _ ⟨((cell_far (p := ⟨gb163, _, none⟩) NB155_163.out _).trans (((cell_far (p := ⟨gb163, _, none⟩) NB155_163.out _).trans (hHeld.1)))), ((cell_far (p := ⟨gb163, _, none⟩) NB155_163.out _).trans (((cell_far (p := ⟨gb163, _, none⟩) NB155_163.out _).trans (hHeld.2.1)))), ((cell_far (p := ⟨gb163, _, none⟩) NB155_163.out _).trans (((cell_far (p := ⟨gb163, _, none⟩) NB155_163.out _).trans (hHeld.2.2.1)))), ((cell_far (p := ⟨gb163, _, none⟩) NB155_163.out _).trans (((cell_far (p := ⟨gb163, _, none⟩) NB155_163.out _).trans (hHeld.2.2.2.1)))), ((cell_far (p := ⟨gb163, _, none⟩) NB155_163.out _).trans (((cell_far (p := ⟨gb163, _, none⟩) NB155_163.out _).trans (hHeld.2.2.2.2.1)))), ((cell_far (p := ⟨gb163, _, none⟩) NB155_163.out _).trans (((cell_far (p := ⟨gb163, _, none⟩) NB155_163.out _).trans (hHeld.2.2.2.2.2.1)))), ((cell_far (p := ⟨gb163, _, none⟩) NB156_163.out _).trans (((cell_far (p := ⟨gb163, _, none⟩) NB156_163.out _).trans (hHeld.2.2.2.2.2.2.1)))), ((cell_far (p := ⟨gb163, _, none⟩) NB156_163.out _).trans (((cell_far (p := ⟨gb163, _, none⟩) NB156_163.out _).trans (hHeld.2.2.2.2.2.2.2.1)))), ((cell_far (p := ⟨gb163, _, none⟩) NB156_163.out _).trans (((cell_far (p := ⟨gb163, _, none⟩) NB156_163.out _).trans (hHeld.2.2.2.2.2.2.2.2.1)))), ((cell_far (p := ⟨gb163, _, none⟩) NB156_163.out _).trans (((cell_far (p := ⟨gb163, _, none⟩) NB156_163.out _).trans (hHeld.2.2.2.2.2.2.2.2.2.1)))), ((cell_far (p := ⟨gb163, _, none⟩) NB156_163.out _).trans (((cell_far (p := ⟨gb163, _, none⟩) NB156_163.out _).trans (hHeld.2.2.2.2.2.2.2.2.2.2.1)))), ((cell_far (p := ⟨gb163, _, none⟩) NB156_163.out _).trans (((cell_far (p := ⟨gb163, _, none⟩) NB156_163.out _).trans (hHeld.2.2.2.2.2.2.2.2.2.2.2))))⟩ (fun hHeld => ?_)
     clear hK K
     refine one_ (i := 8) (N := none) (bz 9 511) rfl rfl (one_of HT_.out (by kernel_rfl)) (by decide) (fun K hK => ?_)
     have hs49 : w46.cell? ⟨gb164, 0, none⟩ = some (.int .i64 0) := bc BK164.out 0
     have hfs49 := blk_frozen BK164.out 0
     have hns49_0 := NB155_164.out
     have hns49_1 := NB156_164.out
     have hns49_2 := NB163_164.out
     have hms49_0 := NB164_155.out
     have hms49_1 := NB164_156.out
     have hms49_2 := NB164_163.out
     have hs50 : w46.cell? ⟨gb164, 1, none⟩ = some (.int .i64 0) := bc BK164.out 1
     have hfs50 := blk_frozen BK164.out 1
     have hns50_0 := NB155_164.out
     have hns50_1 := NB156_164.out
     have hns50_2 := NB163_164.out
     have hms50_0 := NB164_155.out
     have hms50_1 := NB164_156.out
     have hms50_2 := NB164_163.out
     refine skip_ (w1 := ?_) (by rfl) rfl ?_ ?_
     rotate_left
     ·go_simp
      rfl
     refine hK.out _ _ ⟨((cell_far (p := ⟨gb164, _, none⟩) NB155_164.out _).trans (((cell_far (p := ⟨gb164, _, none⟩) NB155_164.out _).trans (hHeld.1)))), ((cell_far (p := ⟨gb164, _, none⟩) NB155_164.out _).trans (((cell_far (p := ⟨gb164, _, none⟩) NB155_164.out _).trans (hHeld.2.1)))), ((cell_far (p := ⟨gb164, _, none⟩) NB155_164.out _).trans (((cell_far (p := ⟨gb164, _, none⟩) NB155_164.out _).trans (hHeld.2.2.1)))), ((cell_far (p := ⟨gb164, _, none⟩) NB155_164.out _).trans (((cell_far (p := ⟨gb164, _, none⟩) NB155_164.out _).trans (hHeld.2.2.2.1)))), ((cell_far (p := ⟨gb164, _, none⟩) NB155_164.out _).trans (((cell_far (p := ⟨gb164, _, none⟩) NB155_164.out _).trans (hHeld.2.2.2.2.1)))), ((cell_far (p := ⟨gb164, _, none⟩) NB155_164.out _).trans (((cell_far (p := ⟨gb164, _, none⟩) NB155_164.out _).trans (hHeld.2.2.2.2.2.1)))), ((cell_far (p := ⟨gb164, _, none⟩) NB156_164.out _).trans (((cell_far (p := ⟨gb164, _, none⟩) NB156_164.out _).trans (hHeld.2.2.2.2.2.2.1)))), ((cell_far (p := ⟨gb164, _, none⟩) NB156_164.out _).trans (((cell_far (p := ⟨gb164, _, none⟩) NB156_164.out _).trans (hHeld.2.2.2.2.2.2.2.1)))), ((cell_far (p := ⟨gb164, _, none⟩) NB156_164.out _).trans (((cell_far (p := ⟨gb164, _, none⟩) NB156_164.out _).trans (hHeld.2.2.2.2.2.2.2.2.1)))), ((cell_far (p := ⟨gb164, _, none⟩) NB156_164.out _).trans (((cell_far (p := ⟨gb164, _, none⟩) NB156_164.out _).trans (hHeld.2.2.2.2.2.2.2.2.2.1)))), ((cell_far (p := ⟨gb164, _, none⟩) NB156_164.out _).trans (((cell_far (p := ⟨gb164, _, none⟩) NB156_164.out _).trans (hHeld.2.2.2.2.2.2.2.2.2.2.1)))), ((cell_far (p := ⟨gb164, _, none⟩) NB156_164.out _).trans (((cell_far (p := ⟨gb164, _, none⟩) NB156_164.out _).trans (hHeld.2.2.2.2.2.2.2.2.2.2.2))))⟩ (fun hHeld => ?_)
     clear hK K
     refine done_ (done_of HT_.out (by kernel_rfl)) ?_
     try go_wp2
     have n0_ : Aside0 (((((w46.setCell ⟨gb163, 0, none⟩ (.int .i64 t159)).setCell ⟨gb163, 1, none⟩ (.int .i64 t160)).setCell ⟨gb164, 0, none⟩ (.int .i64 t161)).setCell ⟨gb164, 1, none⟩ (.int .i64 t162)).heap[gb155]? = some (.cells #[.int .i64 a0_0, .int .i64 a0_1, .int .i64 a0_2, .int .i64 a0_3, .int .i64 a0_4, .int .i64 a0_5] 25 (0, 0))) := ⟨by (with_reducible repeat (first | refine blk_drewN ?_ _ | refine blk_drew ?_ | refine blk_alloc ?_ _)); refine blk_far ?_ NB155_164.out _; (with_reducible repeat (first | refine blk_drewN ?_ _ | refine blk_drew ?_ | refine blk_alloc ?_ _)); refine blk_far ?_ NB155_164.out _; (with_reducible repeat (first | refine blk_drewN ?_ _ | refine blk_drew ?_ | refine blk_alloc ?_ _)); refine blk_far ?_ NB155_163.out _; (with_reducible repeat (first | refine blk_drewN ?_ _ | refine blk_drew ?_ | refine blk_alloc ?_ _)); refine blk_far ?_ NB155_163.out _; (with_reducible repeat (first | refine blk_drewN ?_ _ | refine blk_drew ?_ | refine blk_alloc ?_ _)); exact BK155.out⟩
     have n1_ : Aside0 (((((w46.setCell ⟨gb163, 0, none⟩ (.int .i64 t159)).setCell ⟨gb163, 1, none⟩ (.int .i64 t160)).setCell ⟨gb164, 0, none⟩ (.int .i64 t161)).setCell ⟨gb164, 1, none⟩ (.int .i64 t162)).heap[gb156]? = some (.cells #[.int .i64 a1_0, .int .i64 a1_1, .int .i64 a1_2, .int .i64 a1_3, .int .i64 a1_4, .int .i64 a1_5] 25 (0, 0))) := ⟨by (with_reducible repeat (first | refine blk_drewN ?_ _ | refine blk_drew ?_ | refine blk_alloc ?_ _)); refine blk_far ?_ NB156_164.out _; (with_reducible repeat (first | refine blk_drewN ?_ _ | refine blk_drew ?_ | refine blk_alloc ?_ _)); refine blk_far ?_ NB156_164.out _; (with_reducible repeat (first | refine blk_drewN ?_ _ | refine blk_drew ?_ | refine blk_alloc ?_ _)); refine blk_far ?_ NB156_163.out _; (with_reducible repeat (first | refine blk_drewN ?_ _ | refine blk_drew ?_ | refine blk_alloc ?_ _)); refine blk_far ?_ NB156_163.out _; (with_reducible repeat (first | refine blk_drewN ?_ _ | refine blk_drew ?_ | refine blk_alloc ?_ _)); exact BK156.out⟩
     have n2_ : Aside0 (((((w46.setCell ⟨gb163, 0, none⟩ (.int .i64 t159)).setCell ⟨gb163, 1, none⟩ (.int .i64 t160)).setCell ⟨gb164, 0, none⟩ (.int .i64 t161)).setCell ⟨gb164, 1, none⟩ (.int .i64 t162)).heap[gb163]? = some (.cells #[.int .i64 t159, .int .i64 t160] 89 (0, 0))) := ⟨by (with_reducible repeat (first | refine blk_drewN ?_ _ | refine blk_drew ?_ | refine blk_alloc ?_ _)); refine blk_far ?_ NB163_164.out _; (with_reducible repeat (first | refine blk_drewN ?_ _ | refine blk_drew ?_ | refine blk_alloc ?_ _)); refine blk_far ?_ NB163_164.out _; (with_reducible repeat (first | refine blk_drewN ?_ _ | refine blk_drew ?_ | refine blk_alloc ?_ _)); refine blk_put (cs := #[.int .i64 t159, .int .i64 0]) ?_ 1 _ rfl; (with_reducible repeat (first | refine blk_drewN ?_ _ | refine blk_drew ?_ | refine blk_alloc ?_ _)); refine blk_put (cs := #[.int .i64 0, .int .i64 0]) ?_ 0 _ rfl; (with_reducible repeat (first | refine blk_drewN ?_ _ | refine blk_drew ?_ | refine blk_alloc ?_ _)); exact BK163.out⟩
     have n3_ : Aside0 (((((w46.setCell ⟨gb163, 0, none⟩ (.int .i64 t159)).setCell ⟨gb163, 1, none⟩ (.int .i64 t160)).setCell ⟨gb164, 0, none⟩ (.int .i64 t161)).setCell ⟨gb164, 1, none⟩ (.int .i64 t162)).heap[gb164]? = some (.cells #[.int .i64 t161, .int .i64 t162] 89 (0, 0))) := ⟨by (with_reducible repeat (first | refine blk_drewN ?_ _ | refine blk_drew ?_ | refine blk_alloc ?_ _)); refine blk_put (cs := #[.int .i64 t161, .int .i64 0]) ?_ 1 _ rfl; (with_reducible repeat (first | refine blk_drewN ?_ _ | refine blk_drew ?_ | refine blk_alloc ?_ _)); refine blk_put (cs := #[.int .i64 0, .int .i64 0]) ?_ 0 _ rfl; (with_reducible repeat (first | refine blk_drewN ?_ _ | refine blk_drew ?_ | refine blk_alloc ?_ _)); refine blk_far ?_ NB164_163.out _; (with_reducible repeat (first | refine blk_drewN ?_ _ | refine blk_drew ?_ | refine blk_alloc ?_ _)); refine blk_far ?_ NB164_163.out _; (with_reducible repeat (first | refine blk_drewN ?_ _ | refine blk_drew ?_ | refine blk_alloc ?_ _)); exact BK164.out⟩
     have n4_ : Aside0 (Below w.heap.size w ((((w46.setCell ⟨gb163, 0, none⟩ (.int .i64 t159)).setCell ⟨gb163, 1, none⟩ (.int .i64 t160)).setCell ⟨gb164, 0, none⟩ (.int .i64 t161)).setCell ⟨gb164, 1, none⟩ (.int .i64 t162))) := ⟨by repeat (first | (with_reducible first | exact HB.out | apply below_alloc | apply pw_below_drewN | apply below_drew1 | refine below_set ?_ GE155.out | refine below_set ?_ GE156.out | refine below_set ?_ GE163.out | refine below_set ?_ GE164.out) | exact HB.out)⟩
     (try clear BK155)
     (try clear BK156)
     (try clear BK163)
     (try clear BK164)
     (try clear HB)
     generalize ((((w46.setCell ⟨gb163, 0, none⟩ (.int .i64 t159)).setCell ⟨gb163, 1, none⟩ (.int .i64 t160)).setCell ⟨gb164, 0, none⟩ (.int .i64 t161)).setCell ⟨gb164, 1, none⟩ (.int .i64 t162)) = w51 at n0_ n1_ n2_ n3_ n4_ ⊢
     have BK155 := n0_
     have BK156 := n1_
     have BK163 := n2_
     have BK164 := n3_
     have HB := n4_
     clear n0_ n1_ n2_ n3_ n4_
     have n0_ := Aside0.mk (blk_drew BK155.out)
     have n1_ := Aside0.mk (blk_drew BK156.out)
     have n2_ := Aside0.mk (blk_drew BK163.out)
     have n3_ := Aside0.mk (blk_drew BK164.out)
     have n4_ := Aside0.mk (below_drew1 HB.out)
     clear BK155 BK156 BK163 BK164 HB
     have BK155 := n0_
     have BK156 := n1_
     have BK163 := n2_
     have BK164 := n3_
     have HB := n4_
     clear n0_ n1_ n2_ n3_ n4_
     refine start_ (n := 18) (S := fun w' => w'.cell? ⟨gb163, 0, none⟩ = some (.int .i64 t159) ∧ w'.cell? ⟨gb163, 1, none⟩ = some (.int .i64 t160) ∧ w'.cell? ⟨gb164, 0, none⟩ = some (.int .i64 t161) ∧ w'.cell? ⟨gb164, 1, none⟩ = some (.int .i64 t162)) (ds := []) #[false, false, false, false, false, false, false, false, false, false, false, false, false, false, false, false, false, false] (by kernel_rfl) rfl rfl ⟨bc BK163.out 0, bc BK163.out 1, bc BK164.out 0, bc BK164.out 1⟩ (fun hHeld => ?_); refine with_tabW impl_Behind.tab4 impl_Behind.bits4 (fun HT_ HW_ => ?_)
     generalize w51.drew = w52 at BK155 BK156 BK163 BK164 HB hHeld ⊢
     refine take_ (i := 0) (N := some 20) (v := ?_) (a' := ?_) (bz 18 1) rfl rfl (take_ofW HT_.out HW_.out (by kernel_rfl)) (fun _ _ _ h => h) (Or.inl ⟨by rfl, ?_⟩) hHeld ?_ ?_
     rotate_left
     ·rintro w' ⟨s0, s1, s2, s3⟩
      go_simp
      with_reducible rfl
     rotate_left
     ·simp only [Act.put, y1, y2, y3, i64_w, i32_w]
      rfl
     refine take_ (i := 1) (N := some 21) (v := ?_) (a' := ?_) (bz 18 3) rfl rfl (take_ofW HT_.out HW_.out (by kernel_rfl)) (fun _ _ _ h => h) (Or.inl ⟨by rfl, ?_⟩) hHeld ?_ ?_
     rotate_left
     ·rintro w' ⟨s0, s1, s2, s3⟩
      go_simp
      with_reducible rfl
     rotate_left
     ·simp only [Act.put, y1, y2, y3, i64_w, i32_w]
      rfl
     refine one_ (i := 2) (N := some 22) (bz 18 7) rfl rfl (one_of HT_.out (by kernel_rfl)) (by decide) (fun K hK => ?_)
     refine goes_ Try.func72 (by kernel_rfl) rfl #[.agg #[.int .i64 t159, .int .i64 t160], .agg #[.int .i64 t161, .int .i64 t162]] (by rfl) rfl rfl s4_5 ?_
     with_reducible refine (impl_vec_dot.calls t159 t160 t161 t162 t165 _ A20.out).mono ?_
     rintro e w53 ⟨rfl, hb⟩
     refine ⟨_, rfl, ?_⟩
     have n0_ := Aside0.mk (bb (zk BK155.out) hb)
     have n1_ := Aside0.mk (bb (zk BK156.out) hb)
     have n2_ := Aside0.mk (bb (zk BK163.out) hb)
     have n3_ := Aside0.mk (bb (zk BK164.out) hb)
     have n4_ := Aside0.mk (below_step s4_3 hb)
     clear BK155 BK156 BK163 BK164 HB
     have BK155 := n0_
     have BK156 := n1_
     have BK163 := n2_
     have BK164 := n3_
     have HB := n4_
     clear n0_ n1_ n2_ n3_ n4_
     (try clear hb)
     (try clear hb2)
     (try clear hk)
     (try clear hi)
     refine hK.out _ _ ⟨bc BK163.out 0, bc BK163.out 1, bc BK164.out 0, bc BK164.out 1⟩ (fun hHeld => ?_)
     clear hK K
     refine norm_ (a' := ?_) ?_ ?_
     rotate_left
     ·show Act.put _ (some 22) _ = _
      simp only [Act.put, y1, y2, y3, i64_w, i32_w]
      rfl
     refine pure_ (i := 3) (N := some 23) (v := ?_) (a' := ?_) (bz 18 15) rfl rfl (any_of HT_.out (by kernel_rfl)) (fun _ _ _ h => h) (Or.inl ⟨by rfl, ?_⟩) ?_ ?_
     rotate_left
     ·intro w'
      go_simp
      with_reducible rfl
     rotate_left
     ·simp only [Act.put, y1, y2, y3, i64_w, i32_w]
      rfl
     refine pure_ (i := 4) (N := some 24) (v := ?_) (a' := ?_) (bz 18 31) rfl rfl (any_of HT_.out (by kernel_rfl)) (fun _ _ _ h => h) (Or.inl ⟨by rfl, ?_⟩) ?_ ?_
     rotate_left
     ·intro w'
      go_simp
      with_reducible rfl
     rotate_left
     ·simp only [Act.put, y1, y2, y3, i64_w, i32_w]
      rfl
     refine pure_ (i := 5) (N := some 25) (v := undef) (a' := ?_) (bz 18 63) rfl rfl (any_of HT_.out (by kernel_rfl)) (fun _ _ _ h => h) (Or.inr ⟨by rfl, rfl⟩) ?_ ?_
     rotate_left
     ·simp only [Act.put, y1, y2, y3, i64_w, i32_w]
      rfl
     refine pure_ (i := 6) (N := some 26) (v := undef) (a' := ?_) (bz 18 127) rfl rfl (any_of HT_.out (by kernel_rfl)) (fun _ _ _ h => h) (Or.inr ⟨by rfl, rfl⟩) ?_ ?_
     rotate_left
     ·simp only [Act.put, y1, y2, y3, i64_w, i32_w]
      rfl
     refine pure_ (i := 7) (N := some 27) (v := undef) (a' := ?_) (bz 18 255) rfl rfl (any_of HT_.out (by kernel_rfl)) (fun _ _ _ h => h) (Or.inr ⟨by rfl, rfl⟩) ?_ ?_
     rotate_left
     ·simp only [Act.put, y1, y2, y3, i64_w, i32_w]
      rfl
     refine pure_ (i := 8) (N := some 28) (v := undef) (a' := ?_) (bz 18 511) rfl rfl (any_of HT_.out (by kernel_rfl)) (fun _ _ _ h => h) (Or.inr ⟨by rfl, rfl⟩) ?_ ?_
     rotate_left
     ·simp only [Act.put, y1, y2, y3, i64_w, i32_w]
      rfl
     refine pure_ (i := 9) (N := some 29) (v := undef) (a' := ?_) (bz 18 1023) rfl rfl (any_of HT_.out (by kernel_rfl)) (fun _ _ _ h => h) (Or.inr ⟨by rfl, rfl⟩) ?_ ?_
     rotate_left
     ·simp only [Act.put, y1, y2, y3, i64_w, i32_w]
      rfl
     refine pure_ (i := 10) (N := some 30) (v := undef) (a' := ?_) (bz 18 2047) rfl rfl (any_of HT_.out (by kernel_rfl)) (fun _ _ _ h => h) (Or.inr ⟨by rfl, rfl⟩) ?_ ?_
     rotate_left
     ·simp only [Act.put, y1, y2, y3, i64_w, i32_w]
      rfl
     refine pure_ (i := 11) (N := some 31) (v := undef) (a' := ?_) (bz 18 4095) rfl rfl (any_of HT_.out (by kernel_rfl)) (fun _ _ _ h => h) (Or.inr ⟨by rfl, rfl⟩) ?_ ?_
     rotate_left
     ·simp only [Act.put, y1, y2, y3, i64_w, i32_w]
      rfl
     refine pure_ (i := 12) (N := some 32) (v := undef) (a' := ?_) (bz 18 8191) rfl rfl (any_of HT_.out (by kernel_rfl)) (fun _ _ _ h => h) (Or.inr ⟨by rfl, rfl⟩) ?_ ?_
     rotate_left
     ·simp only [Act.put, y1, y2, y3, i64_w, i32_w]
      rfl
     refine pure_ (i := 13) (N := some 33) (v := undef) (a' := ?_) (bz 18 16383) rfl rfl (any_of HT_.out (by kernel_rfl)) (fun _ _ _ h => h) (Or.inr ⟨by rfl, rfl⟩) ?_ ?_
     rotate_left
     ·simp only [Act.put, y1, y2, y3, i64_w, i32_w]
      rfl
     refine pure_ (i := 14) (N := some 34) (v := undef) (a' := ?_) (bz 18 32767) rfl rfl (any_of HT_.out (by kernel_rfl)) (fun _ _ _ h => h) (Or.inr ⟨by rfl, rfl⟩) ?_ ?_
     rotate_left
     ·simp only [Act.put, y1, y2, y3, i64_w, i32_w]
      rfl
     refine pure_ (i := 15) (N := some 35) (v := undef) (a' := ?_) (bz 18 65535) rfl rfl (any_of HT_.out (by kernel_rfl)) (fun _ _ _ h => h) (Or.inr ⟨by rfl, rfl⟩) ?_ ?_
     rotate_left
     ·simp only [Act.put, y1, y2, y3, i64_w, i32_w]
      rfl
     refine pure_ (i := 16) (N := some 36) (v := ?_) (a' := ?_) (bz 18 131071) rfl rfl (any_of HT_.out (by kernel_rfl)) (fun _ _ _ h => h) (Or.inl ⟨by rfl, ?_⟩) ?_ ?_
     rotate_left
     ·intro w'
      go_simp
      with_reducible rfl
     rotate_left
     ·simp only [Act.put, y1, y2, y3, i64_w, i32_w]
      rfl
     refine pure_ (i := 17) (N := some 4) (v := ?_) (a' := ?_) (bz 18 262143) rfl rfl (any_of HT_.out (by kernel_rfl)) (fun _ _ _ h => h) (Or.inl ⟨by rfl, ?_⟩) ?_ ?_
     rotate_left
     ·intro w'
      go_simp
      with_reducible rfl
     rotate_left
     ·simp only [Act.put, y1, y2, y3, i64_w, i32_w]
      rfl
     refine done_ (done_of HT_.out (by kernel_rfl)) ?_
     try go_wp2
     go_ret
     exact ⟨by first | rfl | (simp [errW_none, errW_some] <;> rfl) | (simp [*, errW_none, errW_some] <;> rfl), by repeat (first | (with_reducible first | exact HB.out | apply below_alloc | apply pw_below_drewN | apply below_drew1 | refine below_set ?_ GE155.out | refine below_set ?_ GE156.out | refine below_set ?_ GE163.out | refine below_set ?_ GE164.out) | exact HB.out)⟩

end Go.Proofs.Ytfbokdbaondjdaa.PFnExactBehind
