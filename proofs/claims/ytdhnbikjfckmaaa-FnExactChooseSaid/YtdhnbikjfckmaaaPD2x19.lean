-- printed for this claim out of the translation
import Derived.Test.YtdhnbikjfckmaaaPD2x0
import Derived.Test.YtdhnbikjfckmaaaPD2x14
import Derived.Test.YtdhnbikjfckmaaaPD2x15
import Derived.Test.YtdhnbikjfckmaaaPD2x16
import Derived.Test.YtdhnbikjfckmaaaPD2x18
namespace Go.Proofs.Ytdhnbikjfckmaaa.PD2
open Go.RowKit Go.Proofs.YtdhnbikjfckmaaaW.PrintWords Go.Proofs.YtdhnbikjfckmaaaW.PrintLast Go.Proofs.YtdhnbikjfckmaaaW.PrintMore
attribute [local go_sem] max2_int min2_int max_two min_two max_three min_three max_four min_four   -- for this text's walks alone
set_option linter.unusedVariables false
set_option linter.unusedSimpArgs false

/-! ### impl_RadiosOk: function 26 -/
mutual
def impl_RadiosOk.l0 : Nat → List (S64) → List (S64) → Int → Int → Option (Bool)
  | 0, _, _, _, _ => none
  | k + 1, x0, x11, x12, x13 => if x13 < x12 then (if 0 ≤ x13 then (if x13 < (x11.length : Int) then ((impl_idOk.f ((rd_T64 x11 x13).f0)).bind fun t175 => (if t175 = true then (if x13 > 0 then (if 0 ≤ (wrap64 (x13 - 1)) then (if (wrap64 (x13 - 1)) < (x0.length : Int) then (if ((rd_T64 x0 (wrap64 (x13 - 1))).f0) ≥ ((rd_T64 x11 x13).f0) then (impl_RadiosOk.j1 k x0 x13 x11 x12 x13 true ((rd_T64 x11 x13).f0) ((rd_T64 x11 x13).f1) ((rd_T64 x11 x13).f2)) else ((impl_slotOk.f ((rd_T64 x11 x13).f1)).bind fun t177 => (impl_RadiosOk.j1 k x0 x13 x11 x12 x13 (!t177) ((rd_T64 x11 x13).f0) ((rd_T64 x11 x13).f1) ((rd_T64 x11 x13).f2)))) else (none)) else (none)) else ((impl_slotOk.f ((rd_T64 x11 x13).f1)).bind fun t178 => (impl_RadiosOk.j1 k x0 x13 x11 x12 x13 (!t178) ((rd_T64 x11 x13).f0) ((rd_T64 x11 x13).f1) ((rd_T64 x11 x13).f2)))) else (impl_RadiosOk.j1 k x0 x13 x11 x12 x13 true ((rd_T64 x11 x13).f0) ((rd_T64 x11 x13).f1) ((rd_T64 x11 x13).f2)))) else (none)) else (none)) else (some true)
def impl_RadiosOk.j1 : Nat → List (S64) → Int → List (S64) → Int → Int → Bool → Int → Int → List Int → Option (Bool)
  | 0, _, _, _, _, _, _, _, _, _ => none
  | k + 1, x0, x3, x11, x12, x13, x42, x175000, x175001, x175002 => if x42 = true then (some false) else (impl_RadiosOk.l1 k x0 x3 x11 x12 x13 x175002 (x175002.length : Int) 0 x175000 x175001 x175002)
def impl_RadiosOk.l1 : Nat → List (S64) → Int → List (S64) → Int → Int → List Int → Int → Int → Int → Int → List Int → Option (Bool)
  | 0, _, _, _, _, _, _, _, _, _, _, _ => none
  | k + 1, x0, x3, x11, x12, x13, x44, x45, x46, x175000, x175001, x175002 => if x46 < x45 then (if 0 ≤ x46 then (if x46 < (x44.length : Int) then ((impl_in.f (rd x44 x46) 0 (wrap64 ((x0.length : Int) - 1))).bind fun t180 => (if t180 = true then (if (rd x44 x46) = x3 then (some false) else (if x46 > 0 then (if 0 ≤ (wrap64 (x46 - 1)) then (if (wrap64 (x46 - 1)) < (x175002.length : Int) then (if (rd x175002 (wrap64 (x46 - 1))) ≥ (rd x44 x46) then (some false) else (if 0 ≤ (rd x44 x46) then (if (rd x44 x46) < (x0.length : Int) then ((slices_Contains_int_int.f k ((rd_T64 x0 (rd x44 x46)).f2) x3).bind fun t183 => (if t183 = true then (impl_RadiosOk.l1 k x0 x3 x11 x12 x13 x44 x45 (wrap64 (x46 + 1)) x175000 x175001 x175002) else (some false))) else (none)) else (none))) else (none)) else (none)) else (if 0 ≤ (rd x44 x46) then (if (rd x44 x46) < (x0.length : Int) then ((slices_Contains_int_int.f k ((rd_T64 x0 (rd x44 x46)).f2) x3).bind fun t185 => (if t185 = true then (impl_RadiosOk.l1 k x0 x3 x11 x12 x13 x44 x45 (wrap64 (x46 + 1)) x175000 x175001 x175002) else (some false))) else (none)) else (none)))) else (some false))) else (none)) else (none)) else (impl_RadiosOk.l0 k x0 x11 x12 (wrap64 (x13 + 1)))
end
def impl_RadiosOk.f (k : Nat) (l0 : List (S64)) : Option (Bool) := (impl_in.f (l0.length : Int) 1 24).bind fun t172 => (if t172 = true then (impl_RadiosOk.l0 k l0 l0 (l0.length : Int) 0) else (some false))
theorem impl_RadiosOk.mono_l : ∀ k, (∀ y0 y1 y2 y3, LeO (impl_RadiosOk.l0 k y0 y1 y2 y3) (impl_RadiosOk.l0 (k + 1) y0 y1 y2 y3)) ∧ (∀ y0 y1 y2 y3 y4 y5 y6 y7 y8, LeO (impl_RadiosOk.j1 k y0 y1 y2 y3 y4 y5 y6 y7 y8) (impl_RadiosOk.j1 (k + 1) y0 y1 y2 y3 y4 y5 y6 y7 y8)) ∧ (∀ y0 y1 y2 y3 y4 y5 y6 y7 y8 y9 y10, LeO (impl_RadiosOk.l1 k y0 y1 y2 y3 y4 y5 y6 y7 y8 y9 y10) (impl_RadiosOk.l1 (k + 1) y0 y1 y2 y3 y4 y5 y6 y7 y8 y9 y10))
  | 0 => ⟨fun _ _ _ _ r h => by simp [impl_RadiosOk.l0] at h, fun _ _ _ _ _ _ _ _ _ r h => by simp [impl_RadiosOk.j1] at h, fun _ _ _ _ _ _ _ _ _ _ _ r h => by simp [impl_RadiosOk.l1] at h⟩
  | k + 1 => by
    obtain ⟨ih0, ih1, ih2⟩ := impl_RadiosOk.mono_l k
    refine ⟨?_, ?_, ?_⟩
    · intro y0 y1 y2 y3
      unfold impl_RadiosOk.l0
      repeat' first
      | (with_reducible exact ih0 _ _ _ _)
      | (with_reducible exact ih1 _ _ _ _ _ _ _ _ _)
      | (with_reducible exact ih2 _ _ _ _ _ _ _ _ _ _ _)
      | (with_reducible exact slices_Contains_int_int.mono _ _ _)
      | (with_reducible exact LeO.refl _)
      | (with_reducible exact LeO.none _)
      | (with_reducible refine LeO.ite ?_ ?_)
      | (with_reducible refine LeO.bind ?_ (fun _ => ?_))
      | exact ih0 _ _ _ _
      | exact ih1 _ _ _ _ _ _ _ _ _
      | exact ih2 _ _ _ _ _ _ _ _ _ _ _
      | exact slices_Contains_int_int.mono _ _ _
      | exact LeO.none _
      | refine LeO.ite ?_ ?_
      | refine LeO.bind ?_ (fun _ => ?_)
    · intro y0 y1 y2 y3 y4 y5 y6 y7 y8
      unfold impl_RadiosOk.j1
      repeat' first
      | (with_reducible exact ih0 _ _ _ _)
      | (with_reducible exact ih1 _ _ _ _ _ _ _ _ _)
      | (with_reducible exact ih2 _ _ _ _ _ _ _ _ _ _ _)
      | (with_reducible exact slices_Contains_int_int.mono _ _ _)
      | (with_reducible exact LeO.refl _)
      | (with_reducible exact LeO.none _)
      | (with_reducible refine LeO.ite ?_ ?_)
      | (with_reducible refine LeO.bind ?_ (fun _ => ?_))
      | exact ih0 _ _ _ _
      | exact ih1 _ _ _ _ _ _ _ _ _
      | exact ih2 _ _ _ _ _ _ _ _ _ _ _
      | exact slices_Contains_int_int.mono _ _ _
      | exact LeO.none _
      | refine LeO.ite ?_ ?_
      | refine LeO.bind ?_ (fun _ => ?_)
    · intro y0 y1 y2 y3 y4 y5 y6 y7 y8 y9 y10
      unfold impl_RadiosOk.l1
      repeat' first
      | (with_reducible exact ih0 _ _ _ _)
      | (with_reducible exact ih1 _ _ _ _ _ _ _ _ _)
      | (with_reducible exact ih2 _ _ _ _ _ _ _ _ _ _ _)
      | (with_reducible exact slices_Contains_int_int.mono _ _ _)
      | (with_reducible exact LeO.refl _)
      | (with_reducible exact LeO.none _)
      | (with_reducible refine LeO.ite ?_ ?_)
      | (with_reducible refine LeO.bind ?_ (fun _ => ?_))
      | exact ih0 _ _ _ _
      | exact ih1 _ _ _ _ _ _ _ _ _
      | exact ih2 _ _ _ _ _ _ _ _ _ _ _
      | exact slices_Contains_int_int.mono _ _ _
      | exact LeO.none _
      | refine LeO.ite ?_ ?_
      | refine LeO.bind ?_ (fun _ => ?_)
theorem impl_RadiosOk.mono : ∀ a0 k, LeO (impl_RadiosOk.f k a0) (impl_RadiosOk.f (k + 1) a0) := by
  intro a0 k
  obtain ⟨ih0, ih1, ih2⟩ := impl_RadiosOk.mono_l k
  unfold impl_RadiosOk.f
  repeat' first
      | (with_reducible exact ih0 _ _ _ _)
      | (with_reducible exact ih1 _ _ _ _ _ _ _ _ _)
      | (with_reducible exact ih2 _ _ _ _ _ _ _ _ _ _ _)
      | (with_reducible exact slices_Contains_int_int.mono _ _ _)
      | (with_reducible exact LeO.refl _)
      | (with_reducible exact LeO.none _)
      | (with_reducible refine LeO.ite ?_ ?_)
      | (with_reducible refine LeO.bind ?_ (fun _ => ?_))
      | exact ih0 _ _ _ _
      | exact ih1 _ _ _ _ _ _ _ _ _
      | exact ih2 _ _ _ _ _ _ _ _ _ _ _
      | exact slices_Contains_int_int.mono _ _ _
      | exact LeO.none _
      | refine LeO.ite ?_ ?_
      | refine LeO.bind ?_ (fun _ => ?_)
set_option maxHeartbeats 8000000 in
set_option maxRecDepth 100000 in
theorem impl_RadiosOk.calls (k : Nat) (A0 : Option Addr) (c0 : Nat) (l0 : List (S64)) (r : Bool) (w : World) (hr0 : Kd.C k64 w A0 l0.length l0) (hc0 : l0.length ≤ c0) (h : impl_RadiosOk.f k l0 = some r) :
    Calls Try.prog 26 #[.slice A0 l0.length c0] w fun e w' => e = .returned (.bool r) ∧ Below w.heap.size w w' := by
  have hu64 := Try.underlying64
  have HR0 := Aside0.mk hr0
  have HC0 := Aside0.mk hc0
  clear hr0 hc0
  have HB := Aside0.mk (Below.refl w.heap.size w)
  have H : ((impl_in.f (l0.length : Int) 1 24).bind fun t172 => (if t172 = true then (impl_RadiosOk.l0 k l0 l0 (l0.length : Int) 0) else (some false))) = some r := h
  clear h
  replace H := Option.bind_eq_some_iff.mp H
  obtain ⟨t172, A20, H⟩ := H
  replace H : (if t172 = true then (impl_RadiosOk.l0 k l0 l0 (l0.length : Int) 0) else (some false)) = some r := H
  have A2 := Aside0.mk A20
  clear A20
  by_cases c3 : t172 = true
  · subst c3
    have H1 : (impl_RadiosOk.l0 k l0 l0 (l0.length : Int) 0) = some r := by rw [if_pos rfl] at H; exact H
    clear H
    have H := H1
    clear H1
    have H' := Aside0.mk H
    clear H
    go_enter Try.func26, Try.ntmps26
    go_wp2_with (first | (go_at_call 42; (with_reducible refine (impl_in.calls (l0.length : Int) 1 24 true _ A2.out).mono ?_); rintro e w' ⟨rfl, ⟨nd, rfl⟩⟩; (try first | exact ⟨rfl, _, World.drewN_drewN _ _ _⟩ | exact ⟨rfl, _, Eq.trans (World.drewN_drewN _ _ _) (congrArg (World.drewN _) (Nat.add_assoc _ _ _))⟩)))
    repeat (go_quiet (first | (go_at_call 42; (with_reducible refine (impl_in.calls (l0.length : Int) 1 24 true _ A2.out).mono ?_); rintro e w' ⟨rfl, ⟨nd, rfl⟩⟩; (try first | exact ⟨rfl, _, World.drewN_drewN _ _ _⟩ | exact ⟨rfl, _, Eq.trans (World.drewN_drewN _ _ _) (congrArg (World.drewN _) (Nat.add_assoc _ _ _))⟩))); try go_wp2_with (first | (go_at_call 42; (with_reducible refine (impl_in.calls (l0.length : Int) 1 24 true _ A2.out).mono ?_); rintro e w' ⟨rfl, ⟨nd, rfl⟩⟩; (try first | exact ⟨rfl, _, World.drewN_drewN _ _ _⟩ | exact ⟨rfl, _, Eq.trans (World.drewN_drewN _ _ _) (congrArg (World.drewN _) (Nat.add_assoc _ _ _))⟩))))
    go_loopg [13] k (fun kq v13 w' => ∃ (x13_1 : Int), v13 = .int .i64 x13_1 ∧ Aside0 (impl_RadiosOk.l0 kq l0 l0 (l0.length : Int) x13_1 = some r) ∧ Aside0 (kq ≤ k) ∧ Aside0 (Below w.heap.size w w'))
    case atStart => exact ⟨(0), (by first | rfl | (simp; done) | (simp [*]; done)), H', ⟨Nat.le_refl _⟩, ⟨by repeat (first | (with_reducible first | exact HB.out | apply below_alloc | apply pw_below_drewN | apply below_drew1) | exact HB.out)⟩⟩
    case round =>
      clear H'
      try clear c2
      try clear p2
      try clear c3
      obtain ⟨x13_1, rfl, HA, HK1, HB⟩ := hrel
      cases gk with
      | zero => exact absurd HA.out (by simp [impl_RadiosOk.l0])
      | succ k1 =>
        have H := HA.out
        clear HA
        simp only [impl_RadiosOk.l0] at H
        by_cases c4 : x13_1 < (l0.length : Int)
        · rw [if_pos c4] at H
          have c4b0 : decide (x13_1 < (l0.length : Int)) = true := decide_eq_true c4
          clear c4
          by_cases c5 : 0 ≤ x13_1
          · rw [if_pos c5] at H
            have c5b0 : decide (0 ≤ x13_1) = true := decide_eq_true c5
            clear c5
            by_cases c6 : x13_1 < (l0.length : Int)
            · rw [if_pos c6] at H
              have c6b0 : decide (x13_1 < (l0.length : Int)) = true := decide_eq_true c6
              clear c6
              have HC7 := Aside0.mk H
              clear H
              have p173 : 0 ≤ (x13_1 : Int) := of_decide_eq_true (by first | (with_reducible assumption) | assumption)
              have q173 : x13_1 < (l0.length : Int) := of_decide_eq_true (by first | (with_reducible assumption) | assumption)
              obtain ⟨ad173, A173_2, c173_2, e173, hx173_0, hx173_1, hx173_2, hl173_2, hi173_2⟩ := at_T64 HR0.out x13_1 p173 q173
              cases e173
              replace hx173_0 := (HB.out.cell (World.block_lt_of_cell? w _ hx173_0)).trans hx173_0
              replace hx173_1 := (HB.out.cell (World.block_lt_of_cell? w _ hx173_1)).trans hx173_1
              replace hx173_2 := (HB.out.cell (World.block_lt_of_cell? w _ hx173_2)).trans hx173_2
              have HR173_2 := Aside0.mk hi173_2
              have HC173_2 := Aside0.mk hl173_2
              clear hi173_2 hl173_2
              replace p173 := eq_true p173
              replace q173 := eq_true q173
              go_upto_region 6 with (first | ((with_reducible refine gate_dst (N := 4) rfl ?_); refine box_event ?hg (N := 4) ?hd (cs := #[.int .i64 0, .int .i64 0, .slice none 0 0]) (t := 64) ?hr ?_; (case hd => rfl); (case hg => rfl); (case hr => first | (go_simp; done) | (go_simp; rfl)); intro gb174 hg w8 hbox hb; have n0_ := Aside0.mk (below_step (by repeat (first | (with_reducible first | exact HB.out | apply below_alloc | apply pw_below_drewN | apply below_drew1) | exact HB.out)) hb); have n1_ := Aside0.mk (hbox); have n2_ := Aside0.mk ((by rw [hg]; exact (below_size (by repeat (first | (with_reducible first | exact HB.out | apply below_alloc | apply pw_below_drewN | apply below_drew1) | exact HB.out))) : w.heap.size ≤ gb174)); have n3_ := Aside0.mk ((by rw [hg]; exact (below_size (by repeat (first | (with_reducible first | exact HB.out | apply below_alloc | apply pw_below_drewN | apply below_drew1) | exact HB.out))) : w.heap.size ≤ gb174)); clear HB; have HB := n0_; have BK174 := n1_; have GW174 := n2_; have GE174 := n3_; clear n0_ n1_ n2_ n3_; clear hb hbox hg; have hcz9_0 : w8.cell? ⟨gb174, 0, none⟩ = some (.int .i64 0) := (blk_cell BK174.out 0).trans rfl; have hcz9_1 : w8.cell? ⟨gb174, 1, none⟩ = some (.int .i64 0) := (blk_cell BK174.out 1).trans rfl; have hcz9_2 : w8.cell? ⟨gb174, 2, none⟩ = some (.slice none 0 0) := (blk_cell BK174.out 2).trans rfl; have hfz9_0 := blk_frozen BK174.out 0; have hfz9_1 := blk_frozen BK174.out 1; have hfz9_2 := blk_frozen BK174.out 2))
              repeat (go_quiet (first | ((with_reducible refine gate_dst (N := 4) rfl ?_); refine box_event ?hg (N := 4) ?hd (cs := #[.int .i64 0, .int .i64 0, .slice none 0 0]) (t := 64) ?hr ?_; (case hd => rfl); (case hg => rfl); (case hr => first | (go_simp; done) | (go_simp; rfl)); intro gb174 hg w8 hbox hb; have n0_ := Aside0.mk (below_step (by repeat (first | (with_reducible first | exact HB.out | apply below_alloc | apply pw_below_drewN | apply below_drew1) | exact HB.out)) hb); have n1_ := Aside0.mk (hbox); have n2_ := Aside0.mk ((by rw [hg]; exact (below_size (by repeat (first | (with_reducible first | exact HB.out | apply below_alloc | apply pw_below_drewN | apply below_drew1) | exact HB.out))) : w.heap.size ≤ gb174)); have n3_ := Aside0.mk ((by rw [hg]; exact (below_size (by repeat (first | (with_reducible first | exact HB.out | apply below_alloc | apply pw_below_drewN | apply below_drew1) | exact HB.out))) : w.heap.size ≤ gb174)); clear HB; have HB := n0_; have BK174 := n1_; have GW174 := n2_; have GE174 := n3_; clear n0_ n1_ n2_ n3_; clear hb hbox hg; have hcz9_0 : w8.cell? ⟨gb174, 0, none⟩ = some (.int .i64 0) := (blk_cell BK174.out 0).trans rfl; have hcz9_1 : w8.cell? ⟨gb174, 1, none⟩ = some (.int .i64 0) := (blk_cell BK174.out 1).trans rfl; have hcz9_2 : w8.cell? ⟨gb174, 2, none⟩ = some (.slice none 0 0) := (blk_cell BK174.out 2).trans rfl; have hfz9_0 := blk_frozen BK174.out 0; have hfz9_1 := blk_frozen BK174.out 1; have hfz9_2 := blk_frozen BK174.out 2)); go_upto_region 6 with (first | ((with_reducible refine gate_dst (N := 4) rfl ?_); refine box_event ?hg (N := 4) ?hd (cs := #[.int .i64 0, .int .i64 0, .slice none 0 0]) (t := 64) ?hr ?_; (case hd => rfl); (case hg => rfl); (case hr => first | (go_simp; done) | (go_simp; rfl)); intro gb174 hg w8 hbox hb; have n0_ := Aside0.mk (below_step (by repeat (first | (with_reducible first | exact HB.out | apply below_alloc | apply pw_below_drewN | apply below_drew1) | exact HB.out)) hb); have n1_ := Aside0.mk (hbox); have n2_ := Aside0.mk ((by rw [hg]; exact (below_size (by repeat (first | (with_reducible first | exact HB.out | apply below_alloc | apply pw_below_drewN | apply below_drew1) | exact HB.out))) : w.heap.size ≤ gb174)); have n3_ := Aside0.mk ((by rw [hg]; exact (below_size (by repeat (first | (with_reducible first | exact HB.out | apply below_alloc | apply pw_below_drewN | apply below_drew1) | exact HB.out))) : w.heap.size ≤ gb174)); clear HB; have HB := n0_; have BK174 := n1_; have GW174 := n2_; have GE174 := n3_; clear n0_ n1_ n2_ n3_; clear hb hbox hg; have hcz9_0 : w8.cell? ⟨gb174, 0, none⟩ = some (.int .i64 0) := (blk_cell BK174.out 0).trans rfl; have hcz9_1 : w8.cell? ⟨gb174, 1, none⟩ = some (.int .i64 0) := (blk_cell BK174.out 1).trans rfl; have hcz9_2 : w8.cell? ⟨gb174, 2, none⟩ = some (.slice none 0 0) := (blk_cell BK174.out 2).trans rfl; have hfz9_0 := blk_frozen BK174.out 0; have hfz9_1 := blk_frozen BK174.out 1; have hfz9_2 := blk_frozen BK174.out 2)))
              (try simp only [Act.put, List.setIfInBounds_toArray, List.set_cons_zero, List.set_cons_succ])
              go_cut [42] (fun v42 wc => ∃ (kq : Nat) (x42_6 : Bool), v42 = .bool x42_6 ∧ Aside0 (impl_RadiosOk.j1 kq l0 x13_1 l0 (l0.length : Int) x13_1 x42_6 ((rd_T64 l0 x13_1).f0) ((rd_T64 l0 x13_1).f1) ((rd_T64 l0 x13_1).f2) = some r) ∧ Aside0 (kq ≤ k1) ∧ Aside0 (wc.heap[gb174]? = some (.cells #[.int .i64 ((rd_T64 l0 x13_1).f0), .int .i64 ((rd_T64 l0 x13_1).f1), (.slice A173_2 ((rd_T64 l0 x13_1).f2).length c173_2)] 64 (0, 0))) ∧ Aside0 (Below w.heap.size w wc))
              case first =>
                have H := HC7.out
                clear HC7
                replace H := Option.bind_eq_some_iff.mp H
                obtain ⟨t175, A100, H⟩ := H
                replace H : (if t175 = true then (if x13_1 > 0 then (if 0 ≤ (wrap64 (x13_1 - 1)) then (if (wrap64 (x13_1 - 1)) < (l0.length : Int) then (if ((rd_T64 l0 (wrap64 (x13_1 - 1))).f0) ≥ ((rd_T64 l0 x13_1).f0) then (impl_RadiosOk.j1 k1 l0 x13_1 l0 (l0.length : Int) x13_1 true ((rd_T64 l0 x13_1).f0) ((rd_T64 l0 x13_1).f1) ((rd_T64 l0 x13_1).f2)) else ((impl_slotOk.f ((rd_T64 l0 x13_1).f1)).bind fun t177 => (impl_RadiosOk.j1 k1 l0 x13_1 l0 (l0.length : Int) x13_1 (!t177) ((rd_T64 l0 x13_1).f0) ((rd_T64 l0 x13_1).f1) ((rd_T64 l0 x13_1).f2)))) else (none)) else (none)) else ((impl_slotOk.f ((rd_T64 l0 x13_1).f1)).bind fun t178 => (impl_RadiosOk.j1 k1 l0 x13_1 l0 (l0.length : Int) x13_1 (!t178) ((rd_T64 l0 x13_1).f0) ((rd_T64 l0 x13_1).f1) ((rd_T64 l0 x13_1).f2)))) else (impl_RadiosOk.j1 k1 l0 x13_1 l0 (l0.length : Int) x13_1 true ((rd_T64 l0 x13_1).f0) ((rd_T64 l0 x13_1).f1) ((rd_T64 l0 x13_1).f2))) = some r := H
                have A10 := Aside0.mk A100
                clear A100
                by_cases c11 : t175 = true
                · subst c11
                  have H1 : (if x13_1 > 0 then (if 0 ≤ (wrap64 (x13_1 - 1)) then (if (wrap64 (x13_1 - 1)) < (l0.length : Int) then (if ((rd_T64 l0 (wrap64 (x13_1 - 1))).f0) ≥ ((rd_T64 l0 x13_1).f0) then (impl_RadiosOk.j1 k1 l0 x13_1 l0 (l0.length : Int) x13_1 true ((rd_T64 l0 x13_1).f0) ((rd_T64 l0 x13_1).f1) ((rd_T64 l0 x13_1).f2)) else ((impl_slotOk.f ((rd_T64 l0 x13_1).f1)).bind fun t177 => (impl_RadiosOk.j1 k1 l0 x13_1 l0 (l0.length : Int) x13_1 (!t177) ((rd_T64 l0 x13_1).f0) ((rd_T64 l0 x13_1).f1) ((rd_T64 l0 x13_1).f2)))) else (none)) else (none)) else ((impl_slotOk.f ((rd_T64 l0 x13_1).f1)).bind fun t178 => (impl_RadiosOk.j1 k1 l0 x13_1 l0 (l0.length : Int) x13_1 (!t178) ((rd_T64 l0 x13_1).f0) ((rd_T64 l0 x13_1).f1) ((rd_T64 l0 x13_1).f2)))) = some r := by rw [if_pos rfl] at H; exact H
                  clear H
                  have H := H1
                  clear H1
                  by_cases c12 : x13_1 > 0
                  · rw [if_pos c12] at H
                    have c12b0 : decide (0 < x13_1) = true := decide_eq_true c12
                    clear c12
                    (first | rw [c12b0] | (simp only [i64_w, i32_w]; rw [c12b0]) | skip)
                    obtain ⟨ji13, hji13⟩ : ∃ j_ : Int, (wrap64 (x13_1 - 1)) = j_ := ⟨_, rfl⟩
                    replace H : (if 0 ≤ (ji13) then (if (ji13) < (l0.length : Int) then (if ((rd_T64 l0 (ji13)).f0) ≥ ((rd_T64 l0 x13_1).f0) then (impl_RadiosOk.j1 k1 l0 x13_1 l0 (l0.length : Int) x13_1 true ((rd_T64 l0 x13_1).f0) ((rd_T64 l0 x13_1).f1) ((rd_T64 l0 x13_1).f2)) else ((impl_slotOk.f ((rd_T64 l0 x13_1).f1)).bind fun t177 => (impl_RadiosOk.j1 k1 l0 x13_1 l0 (l0.length : Int) x13_1 (!t177) ((rd_T64 l0 x13_1).f0) ((rd_T64 l0 x13_1).f1) ((rd_T64 l0 x13_1).f2)))) else (none)) else (none)) = some r := by first | (rw [hji13] at H; exact H) | (simp only [hji13] at H ⊢; exact H)
                    (try rw [hji13] at A10)
                    have hji13w : (IntKind.i64.wrap (x13_1 - 1)) = ji13 := (i64_w _).trans hji13
                    by_cases c14 : 0 ≤ (ji13)
                    · rw [if_pos c14] at H
                      have c14b0 : decide (0 ≤ (ji13)) = true := decide_eq_true c14
                      clear c14
                      by_cases c15 : (ji13) < (l0.length : Int)
                      · rw [if_pos c15] at H
                        have c15b0 : decide ((ji13) < (l0.length : Int)) = true := decide_eq_true c15
                        clear c15
                        by_cases c16 : ((rd_T64 l0 (ji13)).f0) ≥ ((rd_T64 l0 x13_1).f0)
                        · rw [if_pos c16] at H
                          have c16b0 : decide (((rd_T64 l0 x13_1).f0) ≤ ((rd_T64 l0 (ji13)).f0)) = true := decide_eq_true c16
                          clear c16
                          have H' := Aside0.mk H
                          clear H
                          have hcz17_0 : w8.cell? ⟨gb174, 0, none⟩ = some (.int .i64 0) := (blk_cell BK174.out 0).trans rfl
                          have hcz17_1 : w8.cell? ⟨gb174, 1, none⟩ = some (.int .i64 0) := (blk_cell BK174.out 1).trans rfl
                          have hcz17_2 : w8.cell? ⟨gb174, 2, none⟩ = some (.slice none 0 0) := (blk_cell BK174.out 2).trans rfl
                          have hfz17_0 := blk_frozen BK174.out 0
                          have hfz17_1 := blk_frozen BK174.out 1
                          have hfz17_2 := blk_frozen BK174.out 2
                          go_wp2_with (first | (go_at_call 46; (with_reducible refine (impl_idOk.calls ((rd_T64 l0 x13_1).f0) true _ A10.out).mono ?_); rintro e w' ⟨rfl, ⟨nd, rfl⟩⟩; (try first | exact ⟨rfl, _, World.drewN_drewN _ _ _⟩ | exact ⟨rfl, _, Eq.trans (World.drewN_drewN _ _ _) (congrArg (World.drewN _) (Nat.add_assoc _ _ _))⟩); have p176 : 0 ≤ ((ji13) : Int) := of_decide_eq_true (by first | (with_reducible assumption) | assumption); have q176 : (ji13) < (l0.length : Int) := of_decide_eq_true (by first | (with_reducible assumption) | assumption); obtain ⟨ad176, A176_2, c176_2, e176, hx176_0, hx176_1, hx176_2, hl176_2, hi176_2⟩ := at_T64 HR0.out (ji13) p176 q176; obtain rfl : ad173 = ad176 := (by injection e176); have hn176_0 : ad173.block ≠ gb174 := Nat.ne_of_lt (Nat.lt_of_lt_of_le (by have := World.block_lt_of_cell? _ _ hx176_0; first | rwa [add_block] at this | exact this) GW174.out); have hn176_1 : ad173.block ≠ gb174 := Nat.ne_of_lt (Nat.lt_of_lt_of_le (by have := World.block_lt_of_cell? _ _ hx176_0; first | rwa [add_block] at this | exact this) GW174.out); have hn176_2 : ad173.block ≠ gb174 := Nat.ne_of_lt (Nat.lt_of_lt_of_le (by have := World.block_lt_of_cell? _ _ hx176_0; first | rwa [add_block] at this | exact this) GW174.out); replace hx176_0 := (HB.out.cell (World.block_lt_of_cell? w _ hx176_0)).trans hx176_0; replace hx176_1 := (HB.out.cell (World.block_lt_of_cell? w _ hx176_1)).trans hx176_1; replace hx176_2 := (HB.out.cell (World.block_lt_of_cell? w _ hx176_2)).trans hx176_2; have HR176_2 := Aside0.mk hi176_2; have HC176_2 := Aside0.mk hl176_2; clear hi176_2 hl176_2; replace hx176_0 := (cell_far (p := ⟨gb174, 0, none⟩) (by first | (rw [add_block]; exact hn176_0) | (show (Addr.add _ _).block ≠ _; rw [add_block]; exact hn176_0) | exact hn176_0) (.int .i64 ((rd_T64 l0 x13_1).f0))).trans hx176_0; replace hx176_1 := (cell_far (p := ⟨gb174, 0, none⟩) (by first | (rw [add_block]; exact hn176_0) | (show (Addr.add _ _).block ≠ _; rw [add_block]; exact hn176_0) | exact hn176_0) (.int .i64 ((rd_T64 l0 x13_1).f0))).trans hx176_1; replace hx176_2 := (cell_far (p := ⟨gb174, 0, none⟩) (by first | (rw [add_block]; exact hn176_0) | (show (Addr.add _ _).block ≠ _; rw [add_block]; exact hn176_0) | exact hn176_0) (.int .i64 ((rd_T64 l0 x13_1).f0))).trans hx176_2; replace hx176_0 := (cell_far (p := ⟨gb174, 1, none⟩) (by first | (rw [add_block]; exact hn176_1) | (show (Addr.add _ _).block ≠ _; rw [add_block]; exact hn176_1) | exact hn176_1) (.int .i64 ((rd_T64 l0 x13_1).f1))).trans hx176_0; replace hx176_1 := (cell_far (p := ⟨gb174, 1, none⟩) (by first | (rw [add_block]; exact hn176_1) | (show (Addr.add _ _).block ≠ _; rw [add_block]; exact hn176_1) | exact hn176_1) (.int .i64 ((rd_T64 l0 x13_1).f1))).trans hx176_1; replace hx176_2 := (cell_far (p := ⟨gb174, 1, none⟩) (by first | (rw [add_block]; exact hn176_1) | (show (Addr.add _ _).block ≠ _; rw [add_block]; exact hn176_1) | exact hn176_1) (.int .i64 ((rd_T64 l0 x13_1).f1))).trans hx176_2; replace hx176_0 := (cell_far (p := ⟨gb174, 2, none⟩) (by first | (rw [add_block]; exact hn176_2) | (show (Addr.add _ _).block ≠ _; rw [add_block]; exact hn176_2) | exact hn176_2) (.slice A173_2 ((rd_T64 l0 x13_1).f2).length c173_2)).trans hx176_0; replace hx176_1 := (cell_far (p := ⟨gb174, 2, none⟩) (by first | (rw [add_block]; exact hn176_2) | (show (Addr.add _ _).block ≠ _; rw [add_block]; exact hn176_2) | exact hn176_2) (.slice A173_2 ((rd_T64 l0 x13_1).f2).length c173_2)).trans hx176_1; replace hx176_2 := (cell_far (p := ⟨gb174, 2, none⟩) (by first | (rw [add_block]; exact hn176_2) | (show (Addr.add _ _).block ≠ _; rw [add_block]; exact hn176_2) | exact hn176_2) (.slice A173_2 ((rd_T64 l0 x13_1).f2).length c173_2)).trans hx176_2; (try have hy176_0 := fun (n_ : Nat) => (show (((((w8.drewN n_).setCell ⟨gb174, 0, none⟩ (.int .i64 ((rd_T64 l0 x13_1).f0))).setCell ⟨gb174, 1, none⟩ (.int .i64 ((rd_T64 l0 x13_1).f1))).setCell ⟨gb174, 2, none⟩ (.slice A173_2 ((rd_T64 l0 x13_1).f2).length c173_2))).cell? _ = some _ from hx176_0)); (try have hy176_1 := fun (n_ : Nat) => (show (((((w8.drewN n_).setCell ⟨gb174, 0, none⟩ (.int .i64 ((rd_T64 l0 x13_1).f0))).setCell ⟨gb174, 1, none⟩ (.int .i64 ((rd_T64 l0 x13_1).f1))).setCell ⟨gb174, 2, none⟩ (.slice A173_2 ((rd_T64 l0 x13_1).f2).length c173_2))).cell? _ = some _ from hx176_1)); (try have hy176_2 := fun (n_ : Nat) => (show (((((w8.drewN n_).setCell ⟨gb174, 0, none⟩ (.int .i64 ((rd_T64 l0 x13_1).f0))).setCell ⟨gb174, 1, none⟩ (.int .i64 ((rd_T64 l0 x13_1).f1))).setCell ⟨gb174, 2, none⟩ (.slice A173_2 ((rd_T64 l0 x13_1).f2).length c173_2))).cell? _ = some _ from hx176_2)); clear hn176_0; clear hn176_1; clear hn176_2; replace p176 := eq_true p176; replace q176 := eq_true q176))
                          repeat (go_quiet (first | (go_at_call 46; (with_reducible refine (impl_idOk.calls ((rd_T64 l0 x13_1).f0) true _ A10.out).mono ?_); rintro e w' ⟨rfl, ⟨nd, rfl⟩⟩; (try first | exact ⟨rfl, _, World.drewN_drewN _ _ _⟩ | exact ⟨rfl, _, Eq.trans (World.drewN_drewN _ _ _) (congrArg (World.drewN _) (Nat.add_assoc _ _ _))⟩); have p176 : 0 ≤ ((ji13) : Int) := of_decide_eq_true (by first | (with_reducible assumption) | assumption); have q176 : (ji13) < (l0.length : Int) := of_decide_eq_true (by first | (with_reducible assumption) | assumption); obtain ⟨ad176, A176_2, c176_2, e176, hx176_0, hx176_1, hx176_2, hl176_2, hi176_2⟩ := at_T64 HR0.out (ji13) p176 q176; obtain rfl : ad173 = ad176 := (by injection e176); have hn176_0 : ad173.block ≠ gb174 := Nat.ne_of_lt (Nat.lt_of_lt_of_le (by have := World.block_lt_of_cell? _ _ hx176_0; first | rwa [add_block] at this | exact this) GW174.out); have hn176_1 : ad173.block ≠ gb174 := Nat.ne_of_lt (Nat.lt_of_lt_of_le (by have := World.block_lt_of_cell? _ _ hx176_0; first | rwa [add_block] at this | exact this) GW174.out); have hn176_2 : ad173.block ≠ gb174 := Nat.ne_of_lt (Nat.lt_of_lt_of_le (by have := World.block_lt_of_cell? _ _ hx176_0; first | rwa [add_block] at this | exact this) GW174.out); replace hx176_0 := (HB.out.cell (World.block_lt_of_cell? w _ hx176_0)).trans hx176_0; replace hx176_1 := (HB.out.cell (World.block_lt_of_cell? w _ hx176_1)).trans hx176_1; replace hx176_2 := (HB.out.cell (World.block_lt_of_cell? w _ hx176_2)).trans hx176_2; have HR176_2 := Aside0.mk hi176_2; have HC176_2 := Aside0.mk hl176_2; clear hi176_2 hl176_2; replace hx176_0 := (cell_far (p := ⟨gb174, 0, none⟩) (by first | (rw [add_block]; exact hn176_0) | (show (Addr.add _ _).block ≠ _; rw [add_block]; exact hn176_0) | exact hn176_0) (.int .i64 ((rd_T64 l0 x13_1).f0))).trans hx176_0; replace hx176_1 := (cell_far (p := ⟨gb174, 0, none⟩) (by first | (rw [add_block]; exact hn176_0) | (show (Addr.add _ _).block ≠ _; rw [add_block]; exact hn176_0) | exact hn176_0) (.int .i64 ((rd_T64 l0 x13_1).f0))).trans hx176_1; replace hx176_2 := (cell_far (p := ⟨gb174, 0, none⟩) (by first | (rw [add_block]; exact hn176_0) | (show (Addr.add _ _).block ≠ _; rw [add_block]; exact hn176_0) | exact hn176_0) (.int .i64 ((rd_T64 l0 x13_1).f0))).trans hx176_2; replace hx176_0 := (cell_far (p := ⟨gb174, 1, none⟩) (by first | (rw [add_block]; exact hn176_1) | (show (Addr.add _ _).block ≠ _; rw [add_block]; exact hn176_1) | exact hn176_1) (.int .i64 ((rd_T64 l0 x13_1).f1))).trans hx176_0; replace hx176_1 := (cell_far (p := ⟨gb174, 1, none⟩) (by first | (rw [add_block]; exact hn176_1) | (show (Addr.add _ _).block ≠ _; rw [add_block]; exact hn176_1) | exact hn176_1) (.int .i64 ((rd_T64 l0 x13_1).f1))).trans hx176_1; replace hx176_2 := (cell_far (p := ⟨gb174, 1, none⟩) (by first | (rw [add_block]; exact hn176_1) | (show (Addr.add _ _).block ≠ _; rw [add_block]; exact hn176_1) | exact hn176_1) (.int .i64 ((rd_T64 l0 x13_1).f1))).trans hx176_2; replace hx176_0 := (cell_far (p := ⟨gb174, 2, none⟩) (by first | (rw [add_block]; exact hn176_2) | (show (Addr.add _ _).block ≠ _; rw [add_block]; exact hn176_2) | exact hn176_2) (.slice A173_2 ((rd_T64 l0 x13_1).f2).length c173_2)).trans hx176_0; replace hx176_1 := (cell_far (p := ⟨gb174, 2, none⟩) (by first | (rw [add_block]; exact hn176_2) | (show (Addr.add _ _).block ≠ _; rw [add_block]; exact hn176_2) | exact hn176_2) (.slice A173_2 ((rd_T64 l0 x13_1).f2).length c173_2)).trans hx176_1; replace hx176_2 := (cell_far (p := ⟨gb174, 2, none⟩) (by first | (rw [add_block]; exact hn176_2) | (show (Addr.add _ _).block ≠ _; rw [add_block]; exact hn176_2) | exact hn176_2) (.slice A173_2 ((rd_T64 l0 x13_1).f2).length c173_2)).trans hx176_2; (try have hy176_0 := fun (n_ : Nat) => (show (((((w8.drewN n_).setCell ⟨gb174, 0, none⟩ (.int .i64 ((rd_T64 l0 x13_1).f0))).setCell ⟨gb174, 1, none⟩ (.int .i64 ((rd_T64 l0 x13_1).f1))).setCell ⟨gb174, 2, none⟩ (.slice A173_2 ((rd_T64 l0 x13_1).f2).length c173_2))).cell? _ = some _ from hx176_0)); (try have hy176_1 := fun (n_ : Nat) => (show (((((w8.drewN n_).setCell ⟨gb174, 0, none⟩ (.int .i64 ((rd_T64 l0 x13_1).f0))).setCell ⟨gb174, 1, none⟩ (.int .i64 ((rd_T64 l0 x13_1).f1))).setCell ⟨gb174, 2, none⟩ (.slice A173_2 ((rd_T64 l0 x13_1).f2).length c173_2))).cell? _ = some _ from hx176_1)); (try have hy176_2 := fun (n_ : Nat) => (show (((((w8.drewN n_).setCell ⟨gb174, 0, none⟩ (.int .i64 ((rd_T64 l0 x13_1).f0))).setCell ⟨gb174, 1, none⟩ (.int .i64 ((rd_T64 l0 x13_1).f1))).setCell ⟨gb174, 2, none⟩ (.slice A173_2 ((rd_T64 l0 x13_1).f2).length c173_2))).cell? _ = some _ from hx176_2)); clear hn176_0; clear hn176_1; clear hn176_2; replace p176 := eq_true p176; replace q176 := eq_true q176)); try go_wp2_with (first | (go_at_call 46; (with_reducible refine (impl_idOk.calls ((rd_T64 l0 x13_1).f0) true _ A10.out).mono ?_); rintro e w' ⟨rfl, ⟨nd, rfl⟩⟩; (try first | exact ⟨rfl, _, World.drewN_drewN _ _ _⟩ | exact ⟨rfl, _, Eq.trans (World.drewN_drewN _ _ _) (congrArg (World.drewN _) (Nat.add_assoc _ _ _))⟩); have p176 : 0 ≤ ((ji13) : Int) := of_decide_eq_true (by first | (with_reducible assumption) | assumption); have q176 : (ji13) < (l0.length : Int) := of_decide_eq_true (by first | (with_reducible assumption) | assumption); obtain ⟨ad176, A176_2, c176_2, e176, hx176_0, hx176_1, hx176_2, hl176_2, hi176_2⟩ := at_T64 HR0.out (ji13) p176 q176; obtain rfl : ad173 = ad176 := (by injection e176); have hn176_0 : ad173.block ≠ gb174 := Nat.ne_of_lt (Nat.lt_of_lt_of_le (by have := World.block_lt_of_cell? _ _ hx176_0; first | rwa [add_block] at this | exact this) GW174.out); have hn176_1 : ad173.block ≠ gb174 := Nat.ne_of_lt (Nat.lt_of_lt_of_le (by have := World.block_lt_of_cell? _ _ hx176_0; first | rwa [add_block] at this | exact this) GW174.out); have hn176_2 : ad173.block ≠ gb174 := Nat.ne_of_lt (Nat.lt_of_lt_of_le (by have := World.block_lt_of_cell? _ _ hx176_0; first | rwa [add_block] at this | exact this) GW174.out); replace hx176_0 := (HB.out.cell (World.block_lt_of_cell? w _ hx176_0)).trans hx176_0; replace hx176_1 := (HB.out.cell (World.block_lt_of_cell? w _ hx176_1)).trans hx176_1; replace hx176_2 := (HB.out.cell (World.block_lt_of_cell? w _ hx176_2)).trans hx176_2; have HR176_2 := Aside0.mk hi176_2; have HC176_2 := Aside0.mk hl176_2; clear hi176_2 hl176_2; replace hx176_0 := (cell_far (p := ⟨gb174, 0, none⟩) (by first | (rw [add_block]; exact hn176_0) | (show (Addr.add _ _).block ≠ _; rw [add_block]; exact hn176_0) | exact hn176_0) (.int .i64 ((rd_T64 l0 x13_1).f0))).trans hx176_0; replace hx176_1 := (cell_far (p := ⟨gb174, 0, none⟩) (by first | (rw [add_block]; exact hn176_0) | (show (Addr.add _ _).block ≠ _; rw [add_block]; exact hn176_0) | exact hn176_0) (.int .i64 ((rd_T64 l0 x13_1).f0))).trans hx176_1; replace hx176_2 := (cell_far (p := ⟨gb174, 0, none⟩) (by first | (rw [add_block]; exact hn176_0) | (show (Addr.add _ _).block ≠ _; rw [add_block]; exact hn176_0) | exact hn176_0) (.int .i64 ((rd_T64 l0 x13_1).f0))).trans hx176_2; replace hx176_0 := (cell_far (p := ⟨gb174, 1, none⟩) (by first | (rw [add_block]; exact hn176_1) | (show (Addr.add _ _).block ≠ _; rw [add_block]; exact hn176_1) | exact hn176_1) (.int .i64 ((rd_T64 l0 x13_1).f1))).trans hx176_0; replace hx176_1 := (cell_far (p := ⟨gb174, 1, none⟩) (by first | (rw [add_block]; exact hn176_1) | (show (Addr.add _ _).block ≠ _; rw [add_block]; exact hn176_1) | exact hn176_1) (.int .i64 ((rd_T64 l0 x13_1).f1))).trans hx176_1; replace hx176_2 := (cell_far (p := ⟨gb174, 1, none⟩) (by first | (rw [add_block]; exact hn176_1) | (show (Addr.add _ _).block ≠ _; rw [add_block]; exact hn176_1) | exact hn176_1) (.int .i64 ((rd_T64 l0 x13_1).f1))).trans hx176_2; replace hx176_0 := (cell_far (p := ⟨gb174, 2, none⟩) (by first | (rw [add_block]; exact hn176_2) | (show (Addr.add _ _).block ≠ _; rw [add_block]; exact hn176_2) | exact hn176_2) (.slice A173_2 ((rd_T64 l0 x13_1).f2).length c173_2)).trans hx176_0; replace hx176_1 := (cell_far (p := ⟨gb174, 2, none⟩) (by first | (rw [add_block]; exact hn176_2) | (show (Addr.add _ _).block ≠ _; rw [add_block]; exact hn176_2) | exact hn176_2) (.slice A173_2 ((rd_T64 l0 x13_1).f2).length c173_2)).trans hx176_1; replace hx176_2 := (cell_far (p := ⟨gb174, 2, none⟩) (by first | (rw [add_block]; exact hn176_2) | (show (Addr.add _ _).block ≠ _; rw [add_block]; exact hn176_2) | exact hn176_2) (.slice A173_2 ((rd_T64 l0 x13_1).f2).length c173_2)).trans hx176_2; (try have hy176_0 := fun (n_ : Nat) => (show (((((w8.drewN n_).setCell ⟨gb174, 0, none⟩ (.int .i64 ((rd_T64 l0 x13_1).f0))).setCell ⟨gb174, 1, none⟩ (.int .i64 ((rd_T64 l0 x13_1).f1))).setCell ⟨gb174, 2, none⟩ (.slice A173_2 ((rd_T64 l0 x13_1).f2).length c173_2))).cell? _ = some _ from hx176_0)); (try have hy176_1 := fun (n_ : Nat) => (show (((((w8.drewN n_).setCell ⟨gb174, 0, none⟩ (.int .i64 ((rd_T64 l0 x13_1).f0))).setCell ⟨gb174, 1, none⟩ (.int .i64 ((rd_T64 l0 x13_1).f1))).setCell ⟨gb174, 2, none⟩ (.slice A173_2 ((rd_T64 l0 x13_1).f2).length c173_2))).cell? _ = some _ from hx176_1)); (try have hy176_2 := fun (n_ : Nat) => (show (((((w8.drewN n_).setCell ⟨gb174, 0, none⟩ (.int .i64 ((rd_T64 l0 x13_1).f0))).setCell ⟨gb174, 1, none⟩ (.int .i64 ((rd_T64 l0 x13_1).f1))).setCell ⟨gb174, 2, none⟩ (.slice A173_2 ((rd_T64 l0 x13_1).f2).length c173_2))).cell? _ = some _ from hx176_2)); clear hn176_0; clear hn176_1; clear hn176_2; replace p176 := eq_true p176; replace q176 := eq_true q176)))
                          go_meet
                          case rel => exact ⟨_, (true), (by first | rfl | (simp; done) | (simp [*]; done)), H', ⟨by have := HK1.out; first | omega | exact Nat.le_refl _⟩, ⟨by (with_reducible repeat (first | refine blk_drewN ?_ _ | refine blk_drew ?_ | refine blk_alloc ?_ _)); refine blk_put (cs := #[.int .i64 ((rd_T64 l0 x13_1).f0), .int .i64 ((rd_T64 l0 x13_1).f1), .slice none 0 0]) ?_ 2 _ rfl; (with_reducible repeat (first | refine blk_drewN ?_ _ | refine blk_drew ?_ | refine blk_alloc ?_ _)); refine blk_put (cs := #[.int .i64 ((rd_T64 l0 x13_1).f0), .int .i64 0, .slice none 0 0]) ?_ 1 _ rfl; (with_reducible repeat (first | refine blk_drewN ?_ _ | refine blk_drew ?_ | refine blk_alloc ?_ _)); refine blk_put (cs := #[.int .i64 0, .int .i64 0, .slice none 0 0]) ?_ 0 _ rfl; (with_reducible repeat (first | refine blk_drewN ?_ _ | refine blk_drew ?_ | refine blk_alloc ?_ _)); exact BK174.out⟩, ⟨by repeat (first | (with_reducible first | exact HB.out | apply below_alloc | apply pw_below_drewN | apply below_drew1 | refine below_set ?_ GE174.out) | exact HB.out)⟩⟩
                        · rw [if_neg c16] at H
                          have c16b0 : decide (((rd_T64 l0 x13_1).f0) ≤ ((rd_T64 l0 (ji13)).f0)) = false := decide_eq_false c16
                          clear c16
                          replace H := Option.bind_eq_some_iff.mp H
                          obtain ⟨t177, A180, H⟩ := H
                          replace H : (impl_RadiosOk.j1 k1 l0 x13_1 l0 (l0.length : Int) x13_1 (!t177) ((rd_T64 l0 x13_1).f0) ((rd_T64 l0 x13_1).f1) ((rd_T64 l0 x13_1).f2)) = some r := H
                          have A18 := Aside0.mk A180
                          clear A180
                          have H' := Aside0.mk H
                          clear H
                          have hcz19_0 : w8.cell? ⟨gb174, 0, none⟩ = some (.int .i64 0) := (blk_cell BK174.out 0).trans rfl
                          have hcz19_1 : w8.cell? ⟨gb174, 1, none⟩ = some (.int .i64 0) := (blk_cell BK174.out 1).trans rfl
                          have hcz19_2 : w8.cell? ⟨gb174, 2, none⟩ = some (.slice none 0 0) := (blk_cell BK174.out 2).trans rfl
                          have hfz19_0 := blk_frozen BK174.out 0
                          have hfz19_1 := blk_frozen BK174.out 1
                          have hfz19_2 := blk_frozen BK174.out 2
                          go_wp2_with (first | (go_at_call 46; (with_reducible refine (impl_idOk.calls ((rd_T64 l0 x13_1).f0) true _ A10.out).mono ?_); rintro e w' ⟨rfl, ⟨nd, rfl⟩⟩; (try first | exact ⟨rfl, _, World.drewN_drewN _ _ _⟩ | exact ⟨rfl, _, Eq.trans (World.drewN_drewN _ _ _) (congrArg (World.drewN _) (Nat.add_assoc _ _ _))⟩); have p176 : 0 ≤ ((ji13) : Int) := of_decide_eq_true (by first | (with_reducible assumption) | assumption); have q176 : (ji13) < (l0.length : Int) := of_decide_eq_true (by first | (with_reducible assumption) | assumption); obtain ⟨ad176, A176_2, c176_2, e176, hx176_0, hx176_1, hx176_2, hl176_2, hi176_2⟩ := at_T64 HR0.out (ji13) p176 q176; obtain rfl : ad173 = ad176 := (by injection e176); have hn176_0 : ad173.block ≠ gb174 := Nat.ne_of_lt (Nat.lt_of_lt_of_le (by have := World.block_lt_of_cell? _ _ hx176_0; first | rwa [add_block] at this | exact this) GW174.out); have hn176_1 : ad173.block ≠ gb174 := Nat.ne_of_lt (Nat.lt_of_lt_of_le (by have := World.block_lt_of_cell? _ _ hx176_0; first | rwa [add_block] at this | exact this) GW174.out); have hn176_2 : ad173.block ≠ gb174 := Nat.ne_of_lt (Nat.lt_of_lt_of_le (by have := World.block_lt_of_cell? _ _ hx176_0; first | rwa [add_block] at this | exact this) GW174.out); replace hx176_0 := (HB.out.cell (World.block_lt_of_cell? w _ hx176_0)).trans hx176_0; replace hx176_1 := (HB.out.cell (World.block_lt_of_cell? w _ hx176_1)).trans hx176_1; replace hx176_2 := (HB.out.cell (World.block_lt_of_cell? w _ hx176_2)).trans hx176_2; have HR176_2 := Aside0.mk hi176_2; have HC176_2 := Aside0.mk hl176_2; clear hi176_2 hl176_2; replace hx176_0 := (cell_far (p := ⟨gb174, 0, none⟩) (by first | (rw [add_block]; exact hn176_0) | (show (Addr.add _ _).block ≠ _; rw [add_block]; exact hn176_0) | exact hn176_0) (.int .i64 ((rd_T64 l0 x13_1).f0))).trans hx176_0; replace hx176_1 := (cell_far (p := ⟨gb174, 0, none⟩) (by first | (rw [add_block]; exact hn176_0) | (show (Addr.add _ _).block ≠ _; rw [add_block]; exact hn176_0) | exact hn176_0) (.int .i64 ((rd_T64 l0 x13_1).f0))).trans hx176_1; replace hx176_2 := (cell_far (p := ⟨gb174, 0, none⟩) (by first | (rw [add_block]; exact hn176_0) | (show (Addr.add _ _).block ≠ _; rw [add_block]; exact hn176_0) | exact hn176_0) (.int .i64 ((rd_T64 l0 x13_1).f0))).trans hx176_2; replace hx176_0 := (cell_far (p := ⟨gb174, 1, none⟩) (by first | (rw [add_block]; exact hn176_1) | (show (Addr.add _ _).block ≠ _; rw [add_block]; exact hn176_1) | exact hn176_1) (.int .i64 ((rd_T64 l0 x13_1).f1))).trans hx176_0; replace hx176_1 := (cell_far (p := ⟨gb174, 1, none⟩) (by first | (rw [add_block]; exact hn176_1) | (show (Addr.add _ _).block ≠ _; rw [add_block]; exact hn176_1) | exact hn176_1) (.int .i64 ((rd_T64 l0 x13_1).f1))).trans hx176_1; replace hx176_2 := (cell_far (p := ⟨gb174, 1, none⟩) (by first | (rw [add_block]; exact hn176_1) | (show (Addr.add _ _).block ≠ _; rw [add_block]; exact hn176_1) | exact hn176_1) (.int .i64 ((rd_T64 l0 x13_1).f1))).trans hx176_2; replace hx176_0 := (cell_far (p := ⟨gb174, 2, none⟩) (by first | (rw [add_block]; exact hn176_2) | (show (Addr.add _ _).block ≠ _; rw [add_block]; exact hn176_2) | exact hn176_2) (.slice A173_2 ((rd_T64 l0 x13_1).f2).length c173_2)).trans hx176_0; replace hx176_1 := (cell_far (p := ⟨gb174, 2, none⟩) (by first | (rw [add_block]; exact hn176_2) | (show (Addr.add _ _).block ≠ _; rw [add_block]; exact hn176_2) | exact hn176_2) (.slice A173_2 ((rd_T64 l0 x13_1).f2).length c173_2)).trans hx176_1; replace hx176_2 := (cell_far (p := ⟨gb174, 2, none⟩) (by first | (rw [add_block]; exact hn176_2) | (show (Addr.add _ _).block ≠ _; rw [add_block]; exact hn176_2) | exact hn176_2) (.slice A173_2 ((rd_T64 l0 x13_1).f2).length c173_2)).trans hx176_2; (try have hy176_0 := fun (n_ : Nat) => (show (((((w8.drewN n_).setCell ⟨gb174, 0, none⟩ (.int .i64 ((rd_T64 l0 x13_1).f0))).setCell ⟨gb174, 1, none⟩ (.int .i64 ((rd_T64 l0 x13_1).f1))).setCell ⟨gb174, 2, none⟩ (.slice A173_2 ((rd_T64 l0 x13_1).f2).length c173_2))).cell? _ = some _ from hx176_0)); (try have hy176_1 := fun (n_ : Nat) => (show (((((w8.drewN n_).setCell ⟨gb174, 0, none⟩ (.int .i64 ((rd_T64 l0 x13_1).f0))).setCell ⟨gb174, 1, none⟩ (.int .i64 ((rd_T64 l0 x13_1).f1))).setCell ⟨gb174, 2, none⟩ (.slice A173_2 ((rd_T64 l0 x13_1).f2).length c173_2))).cell? _ = some _ from hx176_1)); (try have hy176_2 := fun (n_ : Nat) => (show (((((w8.drewN n_).setCell ⟨gb174, 0, none⟩ (.int .i64 ((rd_T64 l0 x13_1).f0))).setCell ⟨gb174, 1, none⟩ (.int .i64 ((rd_T64 l0 x13_1).f1))).setCell ⟨gb174, 2, none⟩ (.slice A173_2 ((rd_T64 l0 x13_1).f2).length c173_2))).cell? _ = some _ from hx176_2)); clear hn176_0; clear hn176_1; clear hn176_2; replace p176 := eq_true p176; replace q176 := eq_true q176) | (go_at_call 47; (with_reducible refine (impl_slotOk.calls ((rd_T64 l0 x13_1).f1) t177 _ A18.out).mono ?_); rintro e w' ⟨rfl, ⟨nd, rfl⟩⟩; (try first | exact ⟨rfl, _, World.drewN_drewN _ _ _⟩ | exact ⟨rfl, _, Eq.trans (World.drewN_drewN _ _ _) (congrArg (World.drewN _) (Nat.add_assoc _ _ _))⟩)))
                          repeat (go_quiet (first | (go_at_call 46; (with_reducible refine (impl_idOk.calls ((rd_T64 l0 x13_1).f0) true _ A10.out).mono ?_); rintro e w' ⟨rfl, ⟨nd, rfl⟩⟩; (try first | exact ⟨rfl, _, World.drewN_drewN _ _ _⟩ | exact ⟨rfl, _, Eq.trans (World.drewN_drewN _ _ _) (congrArg (World.drewN _) (Nat.add_assoc _ _ _))⟩); have p176 : 0 ≤ ((ji13) : Int) := of_decide_eq_true (by first | (with_reducible assumption) | assumption); have q176 : (ji13) < (l0.length : Int) := of_decide_eq_true (by first | (with_reducible assumption) | assumption); obtain ⟨ad176, A176_2, c176_2, e176, hx176_0, hx176_1, hx176_2, hl176_2, hi176_2⟩ := at_T64 HR0.out (ji13) p176 q176; obtain rfl : ad173 = ad176 := (by injection e176); have hn176_0 : ad173.block ≠ gb174 := Nat.ne_of_lt (Nat.lt_of_lt_of_le (by have := World.block_lt_of_cell? _ _ hx176_0; first | rwa [add_block] at this | exact this) GW174.out); have hn176_1 : ad173.block ≠ gb174 := Nat.ne_of_lt (Nat.lt_of_lt_of_le (by have := World.block_lt_of_cell? _ _ hx176_0; first | rwa [add_block] at this | exact this) GW174.out); have hn176_2 : ad173.block ≠ gb174 := Nat.ne_of_lt (Nat.lt_of_lt_of_le (by have := World.block_lt_of_cell? _ _ hx176_0; first | rwa [add_block] at this | exact this) GW174.out); replace hx176_0 := (HB.out.cell (World.block_lt_of_cell? w _ hx176_0)).trans hx176_0; replace hx176_1 := (HB.out.cell (World.block_lt_of_cell? w _ hx176_1)).trans hx176_1; replace hx176_2 := (HB.out.cell (World.block_lt_of_cell? w _ hx176_2)).trans hx176_2; have HR176_2 := Aside0.mk hi176_2; have HC176_2 := Aside0.mk hl176_2; clear hi176_2 hl176_2; replace hx176_0 := (cell_far (p := ⟨gb174, 0, none⟩) (by first | (rw [add_block]; exact hn176_0) | (show (Addr.add _ _).block ≠ _; rw [add_block]; exact hn176_0) | exact hn176_0) (.int .i64 ((rd_T64 l0 x13_1).f0))).trans hx176_0; replace hx176_1 := (cell_far (p := ⟨gb174, 0, none⟩) (by first | (rw [add_block]; exact hn176_0) | (show (Addr.add _ _).block ≠ _; rw [add_block]; exact hn176_0) | exact hn176_0) (.int .i64 ((rd_T64 l0 x13_1).f0))).trans hx176_1; replace hx176_2 := (cell_far (p := ⟨gb174, 0, none⟩) (by first | (rw [add_block]; exact hn176_0) | (show (Addr.add _ _).block ≠ _; rw [add_block]; exact hn176_0) | exact hn176_0) (.int .i64 ((rd_T64 l0 x13_1).f0))).trans hx176_2; replace hx176_0 := (cell_far (p := ⟨gb174, 1, none⟩) (by first | (rw [add_block]; exact hn176_1) | (show (Addr.add _ _).block ≠ _; rw [add_block]; exact hn176_1) | exact hn176_1) (.int .i64 ((rd_T64 l0 x13_1).f1))).trans hx176_0; replace hx176_1 := (cell_far (p := ⟨gb174, 1, none⟩) (by first | (rw [add_block]; exact hn176_1) | (show (Addr.add _ _).block ≠ _; rw [add_block]; exact hn176_1) | exact hn176_1) (.int .i64 ((rd_T64 l0 x13_1).f1))).trans hx176_1; replace hx176_2 := (cell_far (p := ⟨gb174, 1, none⟩) (by first | (rw [add_block]; exact hn176_1) | (show (Addr.add _ _).block ≠ _; rw [add_block]; exact hn176_1) | exact hn176_1) (.int .i64 ((rd_T64 l0 x13_1).f1))).trans hx176_2; replace hx176_0 := (cell_far (p := ⟨gb174, 2, none⟩) (by first | (rw [add_block]; exact hn176_2) | (show (Addr.add _ _).block ≠ _; rw [add_block]; exact hn176_2) | exact hn176_2) (.slice A173_2 ((rd_T64 l0 x13_1).f2).length c173_2)).trans hx176_0; replace hx176_1 := (cell_far (p := ⟨gb174, 2, none⟩) (by first | (rw [add_block]; exact hn176_2) | (show (Addr.add _ _).block ≠ _; rw [add_block]; exact hn176_2) | exact hn176_2) (.slice A173_2 ((rd_T64 l0 x13_1).f2).length c173_2)).trans hx176_1; replace hx176_2 := (cell_far (p := ⟨gb174, 2, none⟩) (by first | (rw [add_block]; exact hn176_2) | (show (Addr.add _ _).block ≠ _; rw [add_block]; exact hn176_2) | exact hn176_2) (.slice A173_2 ((rd_T64 l0 x13_1).f2).length c173_2)).trans hx176_2; (try have hy176_0 := fun (n_ : Nat) => (show (((((w8.drewN n_).setCell ⟨gb174, 0, none⟩ (.int .i64 ((rd_T64 l0 x13_1).f0))).setCell ⟨gb174, 1, none⟩ (.int .i64 ((rd_T64 l0 x13_1).f1))).setCell ⟨gb174, 2, none⟩ (.slice A173_2 ((rd_T64 l0 x13_1).f2).length c173_2))).cell? _ = some _ from hx176_0)); (try have hy176_1 := fun (n_ : Nat) => (show (((((w8.drewN n_).setCell ⟨gb174, 0, none⟩ (.int .i64 ((rd_T64 l0 x13_1).f0))).setCell ⟨gb174, 1, none⟩ (.int .i64 ((rd_T64 l0 x13_1).f1))).setCell ⟨gb174, 2, none⟩ (.slice A173_2 ((rd_T64 l0 x13_1).f2).length c173_2))).cell? _ = some _ from hx176_1)); (try have hy176_2 := fun (n_ : Nat) => (show (((((w8.drewN n_).setCell ⟨gb174, 0, none⟩ (.int .i64 ((rd_T64 l0 x13_1).f0))).setCell ⟨gb174, 1, none⟩ (.int .i64 ((rd_T64 l0 x13_1).f1))).setCell ⟨gb174, 2, none⟩ (.slice A173_2 ((rd_T64 l0 x13_1).f2).length c173_2))).cell? _ = some _ from hx176_2)); clear hn176_0; clear hn176_1; clear hn176_2; replace p176 := eq_true p176; replace q176 := eq_true q176) | (go_at_call 47; (with_reducible refine (impl_slotOk.calls ((rd_T64 l0 x13_1).f1) t177 _ A18.out).mono ?_); rintro e w' ⟨rfl, ⟨nd, rfl⟩⟩; (try first | exact ⟨rfl, _, World.drewN_drewN _ _ _⟩ | exact ⟨rfl, _, Eq.trans (World.drewN_drewN _ _ _) (congrArg (World.drewN _) (Nat.add_assoc _ _ _))⟩))); try go_wp2_with (first | (go_at_call 46; (with_reducible refine (impl_idOk.calls ((rd_T64 l0 x13_1).f0) true _ A10.out).mono ?_); rintro e w' ⟨rfl, ⟨nd, rfl⟩⟩; (try first | exact ⟨rfl, _, World.drewN_drewN _ _ _⟩ | exact ⟨rfl, _, Eq.trans (World.drewN_drewN _ _ _) (congrArg (World.drewN _) (Nat.add_assoc _ _ _))⟩); have p176 : 0 ≤ ((ji13) : Int) := of_decide_eq_true (by first | (with_reducible assumption) | assumption); have q176 : (ji13) < (l0.length : Int) := of_decide_eq_true (by first | (with_reducible assumption) | assumption); obtain ⟨ad176, A176_2, c176_2, e176, hx176_0, hx176_1, hx176_2, hl176_2, hi176_2⟩ := at_T64 HR0.out (ji13) p176 q176; obtain rfl : ad173 = ad176 := (by injection e176); have hn176_0 : ad173.block ≠ gb174 := Nat.ne_of_lt (Nat.lt_of_lt_of_le (by have := World.block_lt_of_cell? _ _ hx176_0; first | rwa [add_block] at this | exact this) GW174.out); have hn176_1 : ad173.block ≠ gb174 := Nat.ne_of_lt (Nat.lt_of_lt_of_le (by have := World.block_lt_of_cell? _ _ hx176_0; first | rwa [add_block] at this | exact this) GW174.out); have hn176_2 : ad173.block ≠ gb174 := Nat.ne_of_lt (Nat.lt_of_lt_of_le (by have := World.block_lt_of_cell? _ _ hx176_0; first | rwa [add_block] at this | exact this) GW174.out); replace hx176_0 := (HB.out.cell (World.block_lt_of_cell? w _ hx176_0)).trans hx176_0; replace hx176_1 := (HB.out.cell (World.block_lt_of_cell? w _ hx176_1)).trans hx176_1; replace hx176_2 := (HB.out.cell (World.block_lt_of_cell? w _ hx176_2)).trans hx176_2; have HR176_2 := Aside0.mk hi176_2; have HC176_2 := Aside0.mk hl176_2; clear hi176_2 hl176_2; replace hx176_0 := (cell_far (p := ⟨gb174, 0, none⟩) (by first | (rw [add_block]; exact hn176_0) | (show (Addr.add _ _).block ≠ _; rw [add_block]; exact hn176_0) | exact hn176_0) (.int .i64 ((rd_T64 l0 x13_1).f0))).trans hx176_0; replace hx176_1 := (cell_far (p := ⟨gb174, 0, none⟩) (by first | (rw [add_block]; exact hn176_0) | (show (Addr.add _ _).block ≠ _; rw [add_block]; exact hn176_0) | exact hn176_0) (.int .i64 ((rd_T64 l0 x13_1).f0))).trans hx176_1; replace hx176_2 := (cell_far (p := ⟨gb174, 0, none⟩) (by first | (rw [add_block]; exact hn176_0) | (show (Addr.add _ _).block ≠ _; rw [add_block]; exact hn176_0) | exact hn176_0) (.int .i64 ((rd_T64 l0 x13_1).f0))).trans hx176_2; replace hx176_0 := (cell_far (p := ⟨gb174, 1, none⟩) (by first | (rw [add_block]; exact hn176_1) | (show (Addr.add _ _).block ≠ _; rw [add_block]; exact hn176_1) | exact hn176_1) (.int .i64 ((rd_T64 l0 x13_1).f1))).trans hx176_0; replace hx176_1 := (cell_far (p := ⟨gb174, 1, none⟩) (by first | (rw [add_block]; exact hn176_1) | (show (Addr.add _ _).block ≠ _; rw [add_block]; exact hn176_1) | exact hn176_1) (.int .i64 ((rd_T64 l0 x13_1).f1))).trans hx176_1; replace hx176_2 := (cell_far (p := ⟨gb174, 1, none⟩) (by first | (rw [add_block]; exact hn176_1) | (show (Addr.add _ _).block ≠ _; rw [add_block]; exact hn176_1) | exact hn176_1) (.int .i64 ((rd_T64 l0 x13_1).f1))).trans hx176_2; replace hx176_0 := (cell_far (p := ⟨gb174, 2, none⟩) (by first | (rw [add_block]; exact hn176_2) | (show (Addr.add _ _).block ≠ _; rw [add_block]; exact hn176_2) | exact hn176_2) (.slice A173_2 ((rd_T64 l0 x13_1).f2).length c173_2)).trans hx176_0; replace hx176_1 := (cell_far (p := ⟨gb174, 2, none⟩) (by first | (rw [add_block]; exact hn176_2) | (show (Addr.add _ _).block ≠ _; rw [add_block]; exact hn176_2) | exact hn176_2) (.slice A173_2 ((rd_T64 l0 x13_1).f2).length c173_2)).trans hx176_1; replace hx176_2 := (cell_far (p := ⟨gb174, 2, none⟩) (by first | (rw [add_block]; exact hn176_2) | (show (Addr.add _ _).block ≠ _; rw [add_block]; exact hn176_2) | exact hn176_2) (.slice A173_2 ((rd_T64 l0 x13_1).f2).length c173_2)).trans hx176_2; (try have hy176_0 := fun (n_ : Nat) => (show (((((w8.drewN n_).setCell ⟨gb174, 0, none⟩ (.int .i64 ((rd_T64 l0 x13_1).f0))).setCell ⟨gb174, 1, none⟩ (.int .i64 ((rd_T64 l0 x13_1).f1))).setCell ⟨gb174, 2, none⟩ (.slice A173_2 ((rd_T64 l0 x13_1).f2).length c173_2))).cell? _ = some _ from hx176_0)); (try have hy176_1 := fun (n_ : Nat) => (show (((((w8.drewN n_).setCell ⟨gb174, 0, none⟩ (.int .i64 ((rd_T64 l0 x13_1).f0))).setCell ⟨gb174, 1, none⟩ (.int .i64 ((rd_T64 l0 x13_1).f1))).setCell ⟨gb174, 2, none⟩ (.slice A173_2 ((rd_T64 l0 x13_1).f2).length c173_2))).cell? _ = some _ from hx176_1)); (try have hy176_2 := fun (n_ : Nat) => (show (((((w8.drewN n_).setCell ⟨gb174, 0, none⟩ (.int .i64 ((rd_T64 l0 x13_1).f0))).setCell ⟨gb174, 1, none⟩ (.int .i64 ((rd_T64 l0 x13_1).f1))).setCell ⟨gb174, 2, none⟩ (.slice A173_2 ((rd_T64 l0 x13_1).f2).length c173_2))).cell? _ = some _ from hx176_2)); clear hn176_0; clear hn176_1; clear hn176_2; replace p176 := eq_true p176; replace q176 := eq_true q176) | (go_at_call 47; (with_reducible refine (impl_slotOk.calls ((rd_T64 l0 x13_1).f1) t177 _ A18.out).mono ?_); rintro e w' ⟨rfl, ⟨nd, rfl⟩⟩; (try first | exact ⟨rfl, _, World.drewN_drewN _ _ _⟩ | exact ⟨rfl, _, Eq.trans (World.drewN_drewN _ _ _) (congrArg (World.drewN _) (Nat.add_assoc _ _ _))⟩))))
                          go_meet
                          case rel => exact ⟨_, (!t177), (by first | rfl | (simp; done) | (simp [*]; done)), H', ⟨by have := HK1.out; first | omega | exact Nat.le_refl _⟩, ⟨by (with_reducible repeat (first | refine blk_drewN ?_ _ | refine blk_drew ?_ | refine blk_alloc ?_ _)); refine blk_put (cs := #[.int .i64 ((rd_T64 l0 x13_1).f0), .int .i64 ((rd_T64 l0 x13_1).f1), .slice none 0 0]) ?_ 2 _ rfl; (with_reducible repeat (first | refine blk_drewN ?_ _ | refine blk_drew ?_ | refine blk_alloc ?_ _)); refine blk_put (cs := #[.int .i64 ((rd_T64 l0 x13_1).f0), .int .i64 0, .slice none 0 0]) ?_ 1 _ rfl; (with_reducible repeat (first | refine blk_drewN ?_ _ | refine blk_drew ?_ | refine blk_alloc ?_ _)); refine blk_put (cs := #[.int .i64 0, .int .i64 0, .slice none 0 0]) ?_ 0 _ rfl; (with_reducible repeat (first | refine blk_drewN ?_ _ | refine blk_drew ?_ | refine blk_alloc ?_ _)); exact BK174.out⟩, ⟨by repeat (first | (with_reducible first | exact HB.out | apply below_alloc | apply pw_below_drewN | apply below_drew1 | refine below_set ?_ GE174.out) | exact HB.out)⟩⟩
                      · rw [if_neg c15] at H
                        exact absurd H (by simp)
                    · rw [if_neg c14] at H
                      exact absurd H (by simp)
                  · rw [if_neg c12] at H
                    have c12b0 : decide (0 < x13_1) = false := decide_eq_false c12
                    clear c12
                    (first | rw [c12b0] | (simp only [i64_w, i32_w]; rw [c12b0]) | skip)
                    replace H := Option.bind_eq_some_iff.mp H
                    obtain ⟨t178, A200, H⟩ := H
                    replace H : (impl_RadiosOk.j1 k1 l0 x13_1 l0 (l0.length : Int) x13_1 (!t178) ((rd_T64 l0 x13_1).f0) ((rd_T64 l0 x13_1).f1) ((rd_T64 l0 x13_1).f2)) = some r := H
                    have A20 := Aside0.mk A200
                    clear A200
                    have H' := Aside0.mk H
                    clear H
                    have hcz21_0 : w8.cell? ⟨gb174, 0, none⟩ = some (.int .i64 0) := (blk_cell BK174.out 0).trans rfl
                    have hcz21_1 : w8.cell? ⟨gb174, 1, none⟩ = some (.int .i64 0) := (blk_cell BK174.out 1).trans rfl
                    have hcz21_2 : w8.cell? ⟨gb174, 2, none⟩ = some (.slice none 0 0) := (blk_cell BK174.out 2).trans rfl
                    have hfz21_0 := blk_frozen BK174.out 0
                    have hfz21_1 := blk_frozen BK174.out 1
                    have hfz21_2 := blk_frozen BK174.out 2
                    go_wp2_with (first | (go_at_call 46; (with_reducible refine (impl_idOk.calls ((rd_T64 l0 x13_1).f0) true _ A10.out).mono ?_); rintro e w' ⟨rfl, ⟨nd, rfl⟩⟩; (try first | exact ⟨rfl, _, World.drewN_drewN _ _ _⟩ | exact ⟨rfl, _, Eq.trans (World.drewN_drewN _ _ _) (congrArg (World.drewN _) (Nat.add_assoc _ _ _))⟩)) | (go_at_call 47; (with_reducible refine (impl_slotOk.calls ((rd_T64 l0 x13_1).f1) t178 _ A20.out).mono ?_); rintro e w' ⟨rfl, ⟨nd, rfl⟩⟩; (try first | exact ⟨rfl, _, World.drewN_drewN _ _ _⟩ | exact ⟨rfl, _, Eq.trans (World.drewN_drewN _ _ _) (congrArg (World.drewN _) (Nat.add_assoc _ _ _))⟩)))
                    repeat (go_quiet (first | (go_at_call 46; (with_reducible refine (impl_idOk.calls ((rd_T64 l0 x13_1).f0) true _ A10.out).mono ?_); rintro e w' ⟨rfl, ⟨nd, rfl⟩⟩; (try first | exact ⟨rfl, _, World.drewN_drewN _ _ _⟩ | exact ⟨rfl, _, Eq.trans (World.drewN_drewN _ _ _) (congrArg (World.drewN _) (Nat.add_assoc _ _ _))⟩)) | (go_at_call 47; (with_reducible refine (impl_slotOk.calls ((rd_T64 l0 x13_1).f1) t178 _ A20.out).mono ?_); rintro e w' ⟨rfl, ⟨nd, rfl⟩⟩; (try first | exact ⟨rfl, _, World.drewN_drewN _ _ _⟩ | exact ⟨rfl, _, Eq.trans (World.drewN_drewN _ _ _) (congrArg (World.drewN _) (Nat.add_assoc _ _ _))⟩))); try go_wp2_with (first | (go_at_call 46; (with_reducible refine (impl_idOk.calls ((rd_T64 l0 x13_1).f0) true _ A10.out).mono ?_); rintro e w' ⟨rfl, ⟨nd, rfl⟩⟩; (try first | exact ⟨rfl, _, World.drewN_drewN _ _ _⟩ | exact ⟨rfl, _, Eq.trans (World.drewN_drewN _ _ _) (congrArg (World.drewN _) (Nat.add_assoc _ _ _))⟩)) | (go_at_call 47; (with_reducible refine (impl_slotOk.calls ((rd_T64 l0 x13_1).f1) t178 _ A20.out).mono ?_); rintro e w' ⟨rfl, ⟨nd, rfl⟩⟩; (try first | exact ⟨rfl, _, World.drewN_drewN _ _ _⟩ | exact ⟨rfl, _, Eq.trans (World.drewN_drewN _ _ _) (congrArg (World.drewN _) (Nat.add_assoc _ _ _))⟩))))
                    go_meet
                    case rel => exact ⟨_, (!t178), (by first | rfl | (simp; done) | (simp [*]; done)), H', ⟨by have := HK1.out; first | omega | exact Nat.le_refl _⟩, ⟨by (with_reducible repeat (first | refine blk_drewN ?_ _ | refine blk_drew ?_ | refine blk_alloc ?_ _)); refine blk_put (cs := #[.int .i64 ((rd_T64 l0 x13_1).f0), .int .i64 ((rd_T64 l0 x13_1).f1), .slice none 0 0]) ?_ 2 _ rfl; (with_reducible repeat (first | refine blk_drewN ?_ _ | refine blk_drew ?_ | refine blk_alloc ?_ _)); refine blk_put (cs := #[.int .i64 ((rd_T64 l0 x13_1).f0), .int .i64 0, .slice none 0 0]) ?_ 1 _ rfl; (with_reducible repeat (first | refine blk_drewN ?_ _ | refine blk_drew ?_ | refine blk_alloc ?_ _)); refine blk_put (cs := #[.int .i64 0, .int .i64 0, .slice none 0 0]) ?_ 0 _ rfl; (with_reducible repeat (first | refine blk_drewN ?_ _ | refine blk_drew ?_ | refine blk_alloc ?_ _)); exact BK174.out⟩, ⟨by repeat (first | (with_reducible first | exact HB.out | apply below_alloc | apply pw_below_drewN | apply below_drew1 | refine below_set ?_ GE174.out) | exact HB.out)⟩⟩
                · replace c11 := Bool.eq_false_iff.mpr c11
                  subst c11
                  have H1 : (impl_RadiosOk.j1 k1 l0 x13_1 l0 (l0.length : Int) x13_1 true ((rd_T64 l0 x13_1).f0) ((rd_T64 l0 x13_1).f1) ((rd_T64 l0 x13_1).f2)) = some r := by rw [if_neg (show ¬ (false = true) by decide)] at H; exact H
                  clear H
                  have H := H1
                  clear H1
                  have H' := Aside0.mk H
                  clear H
                  have hcz22_0 : w8.cell? ⟨gb174, 0, none⟩ = some (.int .i64 0) := (blk_cell BK174.out 0).trans rfl
                  have hcz22_1 : w8.cell? ⟨gb174, 1, none⟩ = some (.int .i64 0) := (blk_cell BK174.out 1).trans rfl
                  have hcz22_2 : w8.cell? ⟨gb174, 2, none⟩ = some (.slice none 0 0) := (blk_cell BK174.out 2).trans rfl
                  have hfz22_0 := blk_frozen BK174.out 0
                  have hfz22_1 := blk_frozen BK174.out 1
                  have hfz22_2 := blk_frozen BK174.out 2
                  go_wp2_with (first | (go_at_call 46; (with_reducible refine (impl_idOk.calls ((rd_T64 l0 x13_1).f0) false _ A10.out).mono ?_); rintro e w' ⟨rfl, ⟨nd, rfl⟩⟩; (try first | exact ⟨rfl, _, World.drewN_drewN _ _ _⟩ | exact ⟨rfl, _, Eq.trans (World.drewN_drewN _ _ _) (congrArg (World.drewN _) (Nat.add_assoc _ _ _))⟩)))
                  repeat (go_quiet (first | (go_at_call 46; (with_reducible refine (impl_idOk.calls ((rd_T64 l0 x13_1).f0) false _ A10.out).mono ?_); rintro e w' ⟨rfl, ⟨nd, rfl⟩⟩; (try first | exact ⟨rfl, _, World.drewN_drewN _ _ _⟩ | exact ⟨rfl, _, Eq.trans (World.drewN_drewN _ _ _) (congrArg (World.drewN _) (Nat.add_assoc _ _ _))⟩))); try go_wp2_with (first | (go_at_call 46; (with_reducible refine (impl_idOk.calls ((rd_T64 l0 x13_1).f0) false _ A10.out).mono ?_); rintro e w' ⟨rfl, ⟨nd, rfl⟩⟩; (try first | exact ⟨rfl, _, World.drewN_drewN _ _ _⟩ | exact ⟨rfl, _, Eq.trans (World.drewN_drewN _ _ _) (congrArg (World.drewN _) (Nat.add_assoc _ _ _))⟩))))
                  go_meet
                  case rel => exact ⟨_, (true), (by first | rfl | (simp; done) | (simp [*]; done)), H', ⟨by have := HK1.out; first | omega | exact Nat.le_refl _⟩, ⟨by (with_reducible repeat (first | refine blk_drewN ?_ _ | refine blk_drew ?_ | refine blk_alloc ?_ _)); refine blk_put (cs := #[.int .i64 ((rd_T64 l0 x13_1).f0), .int .i64 ((rd_T64 l0 x13_1).f1), .slice none 0 0]) ?_ 2 _ rfl; (with_reducible repeat (first | refine blk_drewN ?_ _ | refine blk_drew ?_ | refine blk_alloc ?_ _)); refine blk_put (cs := #[.int .i64 ((rd_T64 l0 x13_1).f0), .int .i64 0, .slice none 0 0]) ?_ 1 _ rfl; (with_reducible repeat (first | refine blk_drewN ?_ _ | refine blk_drew ?_ | refine blk_alloc ?_ _)); refine blk_put (cs := #[.int .i64 0, .int .i64 0, .slice none 0 0]) ?_ 0 _ rfl; (with_reducible repeat (first | refine blk_drewN ?_ _ | refine blk_drew ?_ | refine blk_alloc ?_ _)); exact BK174.out⟩, ⟨by repeat (first | (with_reducible first | exact HB.out | apply below_alloc | apply pw_below_drewN | apply below_drew1 | refine below_set ?_ GE174.out) | exact HB.out)⟩⟩
              case rest =>
                clear HC7
                try clear c1
                try clear p1
                try clear q1
                try clear hx1
                try clear c2
                try clear p2
                try clear c3
                try clear c4
                try clear c4b0
                try clear c5
                try clear c5b0
                try clear c6
                try clear c6b0
                try clear p6
                try clear c11
                try clear c12
                try clear c12b0
                try clear c14
                try clear c14b0
                try clear c15
                try clear c15b0
                try clear c16
                try clear c16b0
                try clear c17
                try clear p17
                try clear q17
                try clear hx17
                try clear hcz17_0
                try clear hcz17_1
                try clear hcz17_2
                try clear hcz19_0
                try clear hcz19_1
                try clear hcz19_2
                try clear hcz21_0
                try clear hcz21_1
                try clear hcz21_2
                try clear hcz22_0
                try clear hcz22_1
                try clear hcz22_2
                try clear hcz9_0
                try clear hcz9_1
                try clear hcz9_2
                try clear hfz17_0
                try clear hfz17_1
                try clear hfz17_2
                try clear hfz19_0
                try clear hfz19_1
                try clear hfz19_2
                try clear hfz21_0
                try clear hfz21_1
                try clear hfz21_2
                try clear hfz22_0
                try clear hfz22_1
                try clear hfz22_2
                try clear hfz9_0
                try clear hfz9_1
                try clear hfz9_2
                try clear hx173_0
                try clear hx173_1
                try clear hx173_2
                try clear hx176_0
                try clear hx176_1
                try clear hx176_2
                try clear p173
                try clear p176
                try clear p2
                try clear q173
                try clear q176
                obtain ⟨kq, x42_6, rfl, HA, HJ6, BK174, HB⟩ := hcut
                cases kq with
                | zero => exact absurd HA.out (by simp [impl_RadiosOk.j1])
                | succ kj6 =>
                  have H := HA.out
                  clear HA
                  simp only [impl_RadiosOk.j1] at H
                  by_cases c23 : x42_6 = true
                  · subst c23
                    have H1 : (some false) = some r := by rw [if_pos rfl] at H; exact H
                    clear H
                    have H := H1
                    clear H1
                    obtain rfl := Option.some.inj H
                    go_wp2
                    repeat (go_quiet (fail); try go_wp2)
                    go_ret
                    exact ⟨by first | rfl | (simp [errW_none, errW_some] <;> rfl) | (simp [*, errW_none, errW_some] <;> rfl), by repeat (first | (with_reducible first | exact HB.out | apply below_alloc | apply pw_below_drewN | apply below_drew1 | refine below_set ?_ GE174.out) | exact HB.out)⟩
                  · replace c23 := Bool.eq_false_iff.mpr c23
                    subst c23
                    have H1 : (impl_RadiosOk.l1 kj6 l0 x13_1 l0 (l0.length : Int) x13_1 ((rd_T64 l0 x13_1).f2) (((rd_T64 l0 x13_1).f2).length : Int) 0 ((rd_T64 l0 x13_1).f0) ((rd_T64 l0 x13_1).f1) ((rd_T64 l0 x13_1).f2)) = some r := by rw [if_neg (show ¬ (false = true) by decide)] at H; exact H
                    clear H
                    have H := H1
                    clear H1
                    have H' := Aside0.mk H
                    clear H
                    have hcz24_0 : wc.cell? ⟨gb174, 0, none⟩ = some (.int .i64 ((rd_T64 l0 x13_1).f0)) := (blk_cell BK174.out 0).trans rfl
                    have hcz24_1 : wc.cell? ⟨gb174, 1, none⟩ = some (.int .i64 ((rd_T64 l0 x13_1).f1)) := (blk_cell BK174.out 1).trans rfl
                    have hcz24_2 : wc.cell? ⟨gb174, 2, none⟩ = some (.slice A173_2 ((rd_T64 l0 x13_1).f2).length c173_2) := (blk_cell BK174.out 2).trans rfl
                    have hfz24_0 := blk_frozen BK174.out 0
                    have hfz24_1 := blk_frozen BK174.out 1
                    have hfz24_2 := blk_frozen BK174.out 2
                    go_wp2
                    repeat (go_quiet (fail); try go_wp2)
                    go_loopg [46] kj6 (fun kq v46 w' => ∃ (x46_3 : Int), v46 = .int .i64 x46_3 ∧ Aside0 (impl_RadiosOk.l1 kq l0 x13_1 l0 (l0.length : Int) x13_1 ((rd_T64 l0 x13_1).f2) (((rd_T64 l0 x13_1).f2).length : Int) x46_3 ((rd_T64 l0 x13_1).f0) ((rd_T64 l0 x13_1).f1) ((rd_T64 l0 x13_1).f2) = some r) ∧ Aside0 (kq ≤ kj6) ∧ Aside0 (w'.heap[gb174]? = some (.cells #[.int .i64 ((rd_T64 l0 x13_1).f0), .int .i64 ((rd_T64 l0 x13_1).f1), (.slice A173_2 ((rd_T64 l0 x13_1).f2).length c173_2)] 64 (0, 0))) ∧ Aside0 (Below w.heap.size w w'))
                    case atStart => exact ⟨(0), (by first | rfl | (simp; done) | (simp [*]; done)), H', ⟨Nat.le_refl _⟩, ⟨by (with_reducible repeat (first | refine blk_drewN ?_ _ | refine blk_drew ?_ | refine blk_alloc ?_ _)); exact BK174.out⟩, ⟨by repeat (first | (with_reducible first | exact HB.out | apply below_alloc | apply pw_below_drewN | apply below_drew1 | refine below_set ?_ GE174.out) | exact HB.out)⟩⟩
                    case round =>
                      clear H'
                      try clear c1
                      try clear p1
                      try clear q1
                      try clear hx1
                      try clear c2
                      try clear p2
                      try clear c3
                      try clear c4
                      try clear c4b0
                      try clear c5
                      try clear c5b0
                      try clear c6
                      try clear c6b0
                      try clear p6
                      try clear c11
                      try clear c12
                      try clear c12b0
                      try clear c14
                      try clear c14b0
                      try clear c15
                      try clear c15b0
                      try clear c16
                      try clear c16b0
                      try clear c17
                      try clear p17
                      try clear q17
                      try clear hx17
                      try clear c23
                      try clear hcz17_0
                      try clear hcz17_1
                      try clear hcz17_2
                      try clear hcz19_0
                      try clear hcz19_1
                      try clear hcz19_2
                      try clear hcz21_0
                      try clear hcz21_1
                      try clear hcz21_2
                      try clear hcz22_0
                      try clear hcz22_1
                      try clear hcz22_2
                      try clear hcz24_0
                      try clear hcz24_1
                      try clear hcz24_2
                      try clear hcz9_0
                      try clear hcz9_1
                      try clear hcz9_2
                      try clear hfz17_0
                      try clear hfz17_1
                      try clear hfz17_2
                      try clear hfz19_0
                      try clear hfz19_1
                      try clear hfz19_2
                      try clear hfz21_0
                      try clear hfz21_1
                      try clear hfz21_2
                      try clear hfz22_0
                      try clear hfz22_1
                      try clear hfz22_2
                      try clear hfz24_0
                      try clear hfz24_1
                      try clear hfz24_2
                      try clear hfz9_0
                      try clear hfz9_1
                      try clear hfz9_2
                      try clear hx173_0
                      try clear hx173_1
                      try clear hx173_2
                      try clear hx176_0
                      try clear hx176_1
                      try clear hx176_2
                      try clear p1
                      try clear p17
                      try clear p173
                      try clear p176
                      try clear p2
                      try clear p6
                      try clear q1
                      try clear q17
                      try clear q173
                      try clear q176
                      obtain ⟨x46_3, rfl, HA, HK3, BK174, HB⟩ := hrel
                      cases gk with
                      | zero => exact absurd HA.out (by simp [impl_RadiosOk.l1])
                      | succ k3 =>
                        have H := HA.out
                        clear HA
                        simp only [impl_RadiosOk.l1] at H
                        by_cases c25 : x46_3 < (((rd_T64 l0 x13_1).f2).length : Int)
                        · rw [if_pos c25] at H
                          have c25b0 : decide (x46_3 < (((rd_T64 l0 x13_1).f2).length : Int)) = true := decide_eq_true c25
                          clear c25
                          by_cases c26 : 0 ≤ x46_3
                          · rw [if_pos c26] at H
                            have c26b0 : decide (0 ≤ x46_3) = true := decide_eq_true c26
                            clear c26
                            by_cases c27 : x46_3 < (((rd_T64 l0 x13_1).f2).length : Int)
                            · rw [if_pos c27] at H
                              have c27b0 : decide (x46_3 < (((rd_T64 l0 x13_1).f2).length : Int)) = true := decide_eq_true c27
                              clear c27
                              replace H := Option.bind_eq_some_iff.mp H
                              obtain ⟨t180, A280, H⟩ := H
                              replace H : (if t180 = true then (if (rd ((rd_T64 l0 x13_1).f2) x46_3) = x13_1 then (some false) else (if x46_3 > 0 then (if 0 ≤ (wrap64 (x46_3 - 1)) then (if (wrap64 (x46_3 - 1)) < (((rd_T64 l0 x13_1).f2).length : Int) then (if (rd ((rd_T64 l0 x13_1).f2) (wrap64 (x46_3 - 1))) ≥ (rd ((rd_T64 l0 x13_1).f2) x46_3) then (some false) else (if 0 ≤ (rd ((rd_T64 l0 x13_1).f2) x46_3) then (if (rd ((rd_T64 l0 x13_1).f2) x46_3) < (l0.length : Int) then ((slices_Contains_int_int.f k3 ((rd_T64 l0 (rd ((rd_T64 l0 x13_1).f2) x46_3)).f2) x13_1).bind fun t183 => (if t183 = true then (impl_RadiosOk.l1 k3 l0 x13_1 l0 (l0.length : Int) x13_1 ((rd_T64 l0 x13_1).f2) (((rd_T64 l0 x13_1).f2).length : Int) (wrap64 (x46_3 + 1)) ((rd_T64 l0 x13_1).f0) ((rd_T64 l0 x13_1).f1) ((rd_T64 l0 x13_1).f2)) else (some false))) else (none)) else (none))) else (none)) else (none)) else (if 0 ≤ (rd ((rd_T64 l0 x13_1).f2) x46_3) then (if (rd ((rd_T64 l0 x13_1).f2) x46_3) < (l0.length : Int) then ((slices_Contains_int_int.f k3 ((rd_T64 l0 (rd ((rd_T64 l0 x13_1).f2) x46_3)).f2) x13_1).bind fun t185 => (if t185 = true then (impl_RadiosOk.l1 k3 l0 x13_1 l0 (l0.length : Int) x13_1 ((rd_T64 l0 x13_1).f2) (((rd_T64 l0 x13_1).f2).length : Int) (wrap64 (x46_3 + 1)) ((rd_T64 l0 x13_1).f0) ((rd_T64 l0 x13_1).f1) ((rd_T64 l0 x13_1).f2)) else (some false))) else (none)) else (none)))) else (some false)) = some r := H
                              have A28 := Aside0.mk A280
                              clear A280
                              by_cases c29 : t180 = true
                              · subst c29
                                have H1 : (if (rd ((rd_T64 l0 x13_1).f2) x46_3) = x13_1 then (some false) else (if x46_3 > 0 then (if 0 ≤ (wrap64 (x46_3 - 1)) then (if (wrap64 (x46_3 - 1)) < (((rd_T64 l0 x13_1).f2).length : Int) then (if (rd ((rd_T64 l0 x13_1).f2) (wrap64 (x46_3 - 1))) ≥ (rd ((rd_T64 l0 x13_1).f2) x46_3) then (some false) else (if 0 ≤ (rd ((rd_T64 l0 x13_1).f2) x46_3) then (if (rd ((rd_T64 l0 x13_1).f2) x46_3) < (l0.length : Int) then ((slices_Contains_int_int.f k3 ((rd_T64 l0 (rd ((rd_T64 l0 x13_1).f2) x46_3)).f2) x13_1).bind fun t183 => (if t183 = true then (impl_RadiosOk.l1 k3 l0 x13_1 l0 (l0.length : Int) x13_1 ((rd_T64 l0 x13_1).f2) (((rd_T64 l0 x13_1).f2).length : Int) (wrap64 (x46_3 + 1)) ((rd_T64 l0 x13_1).f0) ((rd_T64 l0 x13_1).f1) ((rd_T64 l0 x13_1).f2)) else (some false))) else (none)) else (none))) else (none)) else (none)) else (if 0 ≤ (rd ((rd_T64 l0 x13_1).f2) x46_3) then (if (rd ((rd_T64 l0 x13_1).f2) x46_3) < (l0.length : Int) then ((slices_Contains_int_int.f k3 ((rd_T64 l0 (rd ((rd_T64 l0 x13_1).f2) x46_3)).f2) x13_1).bind fun t185 => (if t185 = true then (impl_RadiosOk.l1 k3 l0 x13_1 l0 (l0.length : Int) x13_1 ((rd_T64 l0 x13_1).f2) (((rd_T64 l0 x13_1).f2).length : Int) (wrap64 (x46_3 + 1)) ((rd_T64 l0 x13_1).f0) ((rd_T64 l0 x13_1).f1) ((rd_T64 l0 x13_1).f2)) else (some false))) else (none)) else (none)))) = some r := by rw [if_pos rfl] at H; exact H
                                clear H
                                have H := H1
                                clear H1
                                by_cases c30 : (rd ((rd_T64 l0 x13_1).f2) x46_3) = x13_1
                                · rw [if_pos c30] at H
                                  have c30b0 : ((rd ((rd_T64 l0 x13_1).f2) x46_3) == x13_1) = true := beq_iff_eq.mpr c30
                                  have c30b1 : ((rd ((rd_T64 l0 x13_1).f2) x46_3) != x13_1) = false := bne_eq_false_iff_eq.mpr c30
                                  clear c30
                                  obtain rfl := Option.some.inj H
                                  have p179 : 0 ≤ (x46_3 : Int) := of_decide_eq_true (by first | (with_reducible assumption) | assumption)
                                  have q179 : x46_3 < (((rd_T64 l0 x13_1).f2).length : Int) := of_decide_eq_true (by first | (with_reducible assumption) | assumption)
                                  obtain ⟨ad179, e179, hx179_0⟩ := Kd.at_int HR173_2.out x46_3 p179 q179
                                  cases e179
                                  replace hx179_0 := (HB.out.cell (World.block_lt_of_cell? w _ hx179_0)).trans hx179_0
                                  replace p179 := eq_true p179
                                  replace q179 := eq_true q179
                                  go_wp2_with (first | (go_at_call 42; (with_reducible refine (impl_in.calls (rd ((rd_T64 l0 x13_1).f2) x46_3) 0 (wrap64 ((l0.length : Int) - 1)) true _ A28.out).mono ?_); rintro e w' ⟨rfl, ⟨nd, rfl⟩⟩; (try first | exact ⟨rfl, _, World.drewN_drewN _ _ _⟩ | exact ⟨rfl, _, Eq.trans (World.drewN_drewN _ _ _) (congrArg (World.drewN _) (Nat.add_assoc _ _ _))⟩)))
                                  repeat (go_quiet (first | (go_at_call 42; (with_reducible refine (impl_in.calls (rd ((rd_T64 l0 x13_1).f2) x46_3) 0 (wrap64 ((l0.length : Int) - 1)) true _ A28.out).mono ?_); rintro e w' ⟨rfl, ⟨nd, rfl⟩⟩; (try first | exact ⟨rfl, _, World.drewN_drewN _ _ _⟩ | exact ⟨rfl, _, Eq.trans (World.drewN_drewN _ _ _) (congrArg (World.drewN _) (Nat.add_assoc _ _ _))⟩))); try go_wp2_with (first | (go_at_call 42; (with_reducible refine (impl_in.calls (rd ((rd_T64 l0 x13_1).f2) x46_3) 0 (wrap64 ((l0.length : Int) - 1)) true _ A28.out).mono ?_); rintro e w' ⟨rfl, ⟨nd, rfl⟩⟩; (try first | exact ⟨rfl, _, World.drewN_drewN _ _ _⟩ | exact ⟨rfl, _, Eq.trans (World.drewN_drewN _ _ _) (congrArg (World.drewN _) (Nat.add_assoc _ _ _))⟩))))
                                  go_ret
                                  exact ⟨by first | rfl | (simp [errW_none, errW_some] <;> rfl) | (simp [*, errW_none, errW_some] <;> rfl), by repeat (first | (with_reducible first | exact HB.out | apply below_alloc | apply pw_below_drewN | apply below_drew1 | refine below_set ?_ GE174.out) | exact HB.out)⟩
                                · rw [if_neg c30] at H
                                  have c30b0 : ((rd ((rd_T64 l0 x13_1).f2) x46_3) == x13_1) = false := beq_eq_false_iff_ne.mpr c30
                                  have c30b1 : ((rd ((rd_T64 l0 x13_1).f2) x46_3) != x13_1) = true := bne_iff_ne.mpr c30
                                  by_cases c31 : x46_3 > 0
                                  · rw [if_pos c31] at H
                                    have c31b0 : decide (0 < x46_3) = true := decide_eq_true c31
                                    clear c31
                                    obtain ⟨ji32, hji32⟩ : ∃ j_ : Int, (wrap64 (x46_3 - 1)) = j_ := ⟨_, rfl⟩
                                    replace H : (if 0 ≤ (ji32) then (if (ji32) < (((rd_T64 l0 x13_1).f2).length : Int) then (if (rd ((rd_T64 l0 x13_1).f2) (ji32)) ≥ (rd ((rd_T64 l0 x13_1).f2) x46_3) then (some false) else (if 0 ≤ (rd ((rd_T64 l0 x13_1).f2) x46_3) then (if (rd ((rd_T64 l0 x13_1).f2) x46_3) < (l0.length : Int) then ((slices_Contains_int_int.f k3 ((rd_T64 l0 (rd ((rd_T64 l0 x13_1).f2) x46_3)).f2) x13_1).bind fun t183 => (if t183 = true then (impl_RadiosOk.l1 k3 l0 x13_1 l0 (l0.length : Int) x13_1 ((rd_T64 l0 x13_1).f2) (((rd_T64 l0 x13_1).f2).length : Int) (wrap64 (x46_3 + 1)) ((rd_T64 l0 x13_1).f0) ((rd_T64 l0 x13_1).f1) ((rd_T64 l0 x13_1).f2)) else (some false))) else (none)) else (none))) else (none)) else (none)) = some r := by first | (rw [hji32] at H; exact H) | (simp only [hji32] at H ⊢; exact H)
                                    (try rw [hji32] at A28)
                                    have hji32w : (IntKind.i64.wrap (x46_3 - 1)) = ji32 := (i64_w _).trans hji32
                                    by_cases c33 : 0 ≤ (ji32)
                                    · rw [if_pos c33] at H
                                      have c33b0 : decide (0 ≤ (ji32)) = true := decide_eq_true c33
                                      clear c33
                                      by_cases c34 : (ji32) < (((rd_T64 l0 x13_1).f2).length : Int)
                                      · rw [if_pos c34] at H
                                        have c34b0 : decide ((ji32) < (((rd_T64 l0 x13_1).f2).length : Int)) = true := decide_eq_true c34
                                        clear c34
                                        by_cases c35 : (rd ((rd_T64 l0 x13_1).f2) (ji32)) ≥ (rd ((rd_T64 l0 x13_1).f2) x46_3)
                                        · rw [if_pos c35] at H
                                          have c35b0 : decide ((rd ((rd_T64 l0 x13_1).f2) x46_3) ≤ (rd ((rd_T64 l0 x13_1).f2) (ji32))) = true := decide_eq_true c35
                                          clear c35
                                          obtain rfl := Option.some.inj H
                                          have p179 : 0 ≤ (x46_3 : Int) := of_decide_eq_true (by first | (with_reducible assumption) | assumption)
                                          have q179 : x46_3 < (((rd_T64 l0 x13_1).f2).length : Int) := of_decide_eq_true (by first | (with_reducible assumption) | assumption)
                                          obtain ⟨ad179, e179, hx179_0⟩ := Kd.at_int HR173_2.out x46_3 p179 q179
                                          cases e179
                                          replace hx179_0 := (HB.out.cell (World.block_lt_of_cell? w _ hx179_0)).trans hx179_0
                                          replace p179 := eq_true p179
                                          replace q179 := eq_true q179
                                          go_wp2_with (first | (go_at_call 42; (with_reducible refine (impl_in.calls (rd ((rd_T64 l0 x13_1).f2) x46_3) 0 (wrap64 ((l0.length : Int) - 1)) true _ A28.out).mono ?_); rintro e w' ⟨rfl, ⟨nd, rfl⟩⟩; (try first | exact ⟨rfl, _, World.drewN_drewN _ _ _⟩ | exact ⟨rfl, _, Eq.trans (World.drewN_drewN _ _ _) (congrArg (World.drewN _) (Nat.add_assoc _ _ _))⟩); have hcz36_0 : wr.cell? ⟨gb174, 0, none⟩ = some (.int .i64 ((rd_T64 l0 x13_1).f0)) := (blk_cell BK174.out 0).trans rfl; have hcz36_1 : wr.cell? ⟨gb174, 1, none⟩ = some (.int .i64 ((rd_T64 l0 x13_1).f1)) := (blk_cell BK174.out 1).trans rfl; have hcz36_2 : wr.cell? ⟨gb174, 2, none⟩ = some (.slice (some ad179) ((rd_T64 l0 x13_1).f2).length c173_2) := (blk_cell BK174.out 2).trans rfl; have hfz36_0 := blk_frozen BK174.out 0; have hfz36_1 := blk_frozen BK174.out 1; have hfz36_2 := blk_frozen BK174.out 2; have p181 : 0 ≤ ((ji32) : Int) := of_decide_eq_true (by first | (with_reducible assumption) | assumption); have q181 : (ji32) < (((rd_T64 l0 x13_1).f2).length : Int) := of_decide_eq_true (by first | (with_reducible assumption) | assumption); obtain ⟨ad181, e181, hx181_0⟩ := Kd.at_int HR173_2.out (ji32) p181 q181; obtain rfl : ad179 = ad181 := (by injection e181); replace hx181_0 := (HB.out.cell (World.block_lt_of_cell? w _ hx181_0)).trans hx181_0; replace p181 := eq_true p181; replace q181 := eq_true q181))
                                          repeat (go_quiet (first | (go_at_call 42; (with_reducible refine (impl_in.calls (rd ((rd_T64 l0 x13_1).f2) x46_3) 0 (wrap64 ((l0.length : Int) - 1)) true _ A28.out).mono ?_); rintro e w' ⟨rfl, ⟨nd, rfl⟩⟩; (try first | exact ⟨rfl, _, World.drewN_drewN _ _ _⟩ | exact ⟨rfl, _, Eq.trans (World.drewN_drewN _ _ _) (congrArg (World.drewN _) (Nat.add_assoc _ _ _))⟩); have hcz36_0 : wr.cell? ⟨gb174, 0, none⟩ = some (.int .i64 ((rd_T64 l0 x13_1).f0)) := (blk_cell BK174.out 0).trans rfl; have hcz36_1 : wr.cell? ⟨gb174, 1, none⟩ = some (.int .i64 ((rd_T64 l0 x13_1).f1)) := (blk_cell BK174.out 1).trans rfl; have hcz36_2 : wr.cell? ⟨gb174, 2, none⟩ = some (.slice (some ad179) ((rd_T64 l0 x13_1).f2).length c173_2) := (blk_cell BK174.out 2).trans rfl; have hfz36_0 := blk_frozen BK174.out 0; have hfz36_1 := blk_frozen BK174.out 1; have hfz36_2 := blk_frozen BK174.out 2; have p181 : 0 ≤ ((ji32) : Int) := of_decide_eq_true (by first | (with_reducible assumption) | assumption); have q181 : (ji32) < (((rd_T64 l0 x13_1).f2).length : Int) := of_decide_eq_true (by first | (with_reducible assumption) | assumption); obtain ⟨ad181, e181, hx181_0⟩ := Kd.at_int HR173_2.out (ji32) p181 q181; obtain rfl : ad179 = ad181 := (by injection e181); replace hx181_0 := (HB.out.cell (World.block_lt_of_cell? w _ hx181_0)).trans hx181_0; replace p181 := eq_true p181; replace q181 := eq_true q181)); try go_wp2_with (first | (go_at_call 42; (with_reducible refine (impl_in.calls (rd ((rd_T64 l0 x13_1).f2) x46_3) 0 (wrap64 ((l0.length : Int) - 1)) true _ A28.out).mono ?_); rintro e w' ⟨rfl, ⟨nd, rfl⟩⟩; (try first | exact ⟨rfl, _, World.drewN_drewN _ _ _⟩ | exact ⟨rfl, _, Eq.trans (World.drewN_drewN _ _ _) (congrArg (World.drewN _) (Nat.add_assoc _ _ _))⟩); have hcz36_0 : wr.cell? ⟨gb174, 0, none⟩ = some (.int .i64 ((rd_T64 l0 x13_1).f0)) := (blk_cell BK174.out 0).trans rfl; have hcz36_1 : wr.cell? ⟨gb174, 1, none⟩ = some (.int .i64 ((rd_T64 l0 x13_1).f1)) := (blk_cell BK174.out 1).trans rfl; have hcz36_2 : wr.cell? ⟨gb174, 2, none⟩ = some (.slice (some ad179) ((rd_T64 l0 x13_1).f2).length c173_2) := (blk_cell BK174.out 2).trans rfl; have hfz36_0 := blk_frozen BK174.out 0; have hfz36_1 := blk_frozen BK174.out 1; have hfz36_2 := blk_frozen BK174.out 2; have p181 : 0 ≤ ((ji32) : Int) := of_decide_eq_true (by first | (with_reducible assumption) | assumption); have q181 : (ji32) < (((rd_T64 l0 x13_1).f2).length : Int) := of_decide_eq_true (by first | (with_reducible assumption) | assumption); obtain ⟨ad181, e181, hx181_0⟩ := Kd.at_int HR173_2.out (ji32) p181 q181; obtain rfl : ad179 = ad181 := (by injection e181); replace hx181_0 := (HB.out.cell (World.block_lt_of_cell? w _ hx181_0)).trans hx181_0; replace p181 := eq_true p181; replace q181 := eq_true q181)))
                                          go_ret
                                          exact ⟨by first | rfl | (simp [errW_none, errW_some] <;> rfl) | (simp only [← hji32]; first | rfl | (simp [errW_none, errW_some] <;> rfl)) | (simp [*, errW_none, errW_some] <;> rfl), by repeat (first | (with_reducible first | exact HB.out | apply below_alloc | apply pw_below_drewN | apply below_drew1 | refine below_set ?_ GE174.out) | exact HB.out)⟩
                                        · rw [if_neg c35] at H
                                          have c35b0 : decide ((rd ((rd_T64 l0 x13_1).f2) x46_3) ≤ (rd ((rd_T64 l0 x13_1).f2) (ji32))) = false := decide_eq_false c35
                                          clear c35
                                          by_cases c37 : 0 ≤ (rd ((rd_T64 l0 x13_1).f2) x46_3)
                                          · rw [if_pos c37] at H
                                            have c37b0 : decide (0 ≤ (rd ((rd_T64 l0 x13_1).f2) x46_3)) = true := decide_eq_true c37
                                            clear c37
                                            by_cases c38 : (rd ((rd_T64 l0 x13_1).f2) x46_3) < (l0.length : Int)
                                            · rw [if_pos c38] at H
                                              have c38b0 : decide ((rd ((rd_T64 l0 x13_1).f2) x46_3) < (l0.length : Int)) = true := decide_eq_true c38
                                              clear c38
                                              replace H := Option.bind_eq_some_iff.mp H
                                              obtain ⟨t183, A390, H⟩ := H
                                              replace H : (if t183 = true then (impl_RadiosOk.l1 k3 l0 x13_1 l0 (l0.length : Int) x13_1 ((rd_T64 l0 x13_1).f2) (((rd_T64 l0 x13_1).f2).length : Int) (wrap64 (x46_3 + 1)) ((rd_T64 l0 x13_1).f0) ((rd_T64 l0 x13_1).f1) ((rd_T64 l0 x13_1).f2)) else (some false)) = some r := H
                                              have A39 := Aside0.mk A390
                                              clear A390
                                              by_cases c40 : t183 = true
                                              · subst c40
                                                have H1 : (impl_RadiosOk.l1 k3 l0 x13_1 l0 (l0.length : Int) x13_1 ((rd_T64 l0 x13_1).f2) (((rd_T64 l0 x13_1).f2).length : Int) (wrap64 (x46_3 + 1)) ((rd_T64 l0 x13_1).f0) ((rd_T64 l0 x13_1).f1) ((rd_T64 l0 x13_1).f2)) = some r := by rw [if_pos rfl] at H; exact H
                                                clear H
                                                have H := H1
                                                clear H1
                                                have H' := Aside0.mk H
                                                clear H
                                                have p179 : 0 ≤ (x46_3 : Int) := of_decide_eq_true (by first | (with_reducible assumption) | assumption)
                                                have q179 : x46_3 < (((rd_T64 l0 x13_1).f2).length : Int) := of_decide_eq_true (by first | (with_reducible assumption) | assumption)
                                                obtain ⟨ad179, e179, hx179_0⟩ := Kd.at_int HR173_2.out x46_3 p179 q179
                                                cases e179
                                                replace hx179_0 := (HB.out.cell (World.block_lt_of_cell? w _ hx179_0)).trans hx179_0
                                                replace p179 := eq_true p179
                                                replace q179 := eq_true q179
                                                go_wp2_with (first | (go_at_call 42; (with_reducible refine (impl_in.calls (rd ((rd_T64 l0 x13_1).f2) x46_3) 0 (wrap64 ((l0.length : Int) - 1)) true _ A28.out).mono ?_); rintro e w' ⟨rfl, ⟨nd, rfl⟩⟩; (try first | exact ⟨rfl, _, World.drewN_drewN _ _ _⟩ | exact ⟨rfl, _, Eq.trans (World.drewN_drewN _ _ _) (congrArg (World.drewN _) (Nat.add_assoc _ _ _))⟩); have hcz41_0 : wr.cell? ⟨gb174, 0, none⟩ = some (.int .i64 ((rd_T64 l0 x13_1).f0)) := (blk_cell BK174.out 0).trans rfl; have hcz41_1 : wr.cell? ⟨gb174, 1, none⟩ = some (.int .i64 ((rd_T64 l0 x13_1).f1)) := (blk_cell BK174.out 1).trans rfl; have hcz41_2 : wr.cell? ⟨gb174, 2, none⟩ = some (.slice (some ad179) ((rd_T64 l0 x13_1).f2).length c173_2) := (blk_cell BK174.out 2).trans rfl; have hfz41_0 := blk_frozen BK174.out 0; have hfz41_1 := blk_frozen BK174.out 1; have hfz41_2 := blk_frozen BK174.out 2; have p181 : 0 ≤ ((ji32) : Int) := of_decide_eq_true (by first | (with_reducible assumption) | assumption); have q181 : (ji32) < (((rd_T64 l0 x13_1).f2).length : Int) := of_decide_eq_true (by first | (with_reducible assumption) | assumption); obtain ⟨ad181, e181, hx181_0⟩ := Kd.at_int HR173_2.out (ji32) p181 q181; obtain rfl : ad179 = ad181 := (by injection e181); replace hx181_0 := (HB.out.cell (World.block_lt_of_cell? w _ hx181_0)).trans hx181_0; replace p181 := eq_true p181; replace q181 := eq_true q181; have p182 : 0 ≤ ((rd ((rd_T64 l0 x13_1).f2) x46_3) : Int) := of_decide_eq_true (by first | (with_reducible assumption) | assumption); have q182 : (rd ((rd_T64 l0 x13_1).f2) x46_3) < (l0.length : Int) := of_decide_eq_true (by first | (with_reducible assumption) | assumption); obtain ⟨ad182, A182_2, c182_2, e182, hx182_0, hx182_1, hx182_2, hl182_2, hi182_2⟩ := at_T64 HR0.out (rd ((rd_T64 l0 x13_1).f2) x46_3) p182 q182; obtain rfl : ad173 = ad182 := (by injection e182); replace hx182_0 := (HB.out.cell (World.block_lt_of_cell? w _ hx182_0)).trans hx182_0; replace hx182_1 := (HB.out.cell (World.block_lt_of_cell? w _ hx182_1)).trans hx182_1; replace hx182_2 := (HB.out.cell (World.block_lt_of_cell? w _ hx182_2)).trans hx182_2; have HR182_2 := Aside0.mk hi182_2; have HC182_2 := Aside0.mk hl182_2; clear hi182_2 hl182_2; replace p182 := eq_true p182; replace q182 := eq_true q182) | (go_at_call 48; (with_reducible refine (slices_Contains_int_int.calls k3 _ _ ((rd_T64 l0 (rd ((rd_T64 l0 x13_1).f2) x46_3)).f2) x13_1 true _ ?side1 ?side2 A39.out).mono ?_); (case side1 => repeat (first | exact (Kd.C_below HR182_2.out (by repeat (first | (with_reducible first | exact HB.out | apply below_alloc | apply pw_below_drewN | apply below_drew1 | refine below_set ?_ GE174.out) | exact HB.out))) | (with_reducible refine Kd.C_alloc ?_ _) | (with_reducible refine Kd.C_drewN ?_ _) | (with_reducible refine Kd.C_drew ?_))); (case side2 => exact HC182_2.out); rintro e w' ⟨rfl, ⟨nd, rfl⟩⟩; (try first | exact ⟨rfl, _, World.drewN_drewN _ _ _⟩ | exact ⟨rfl, _, Eq.trans (World.drewN_drewN _ _ _) (congrArg (World.drewN _) (Nat.add_assoc _ _ _))⟩)))
                                                repeat (go_quiet (first | (go_at_call 42; (with_reducible refine (impl_in.calls (rd ((rd_T64 l0 x13_1).f2) x46_3) 0 (wrap64 ((l0.length : Int) - 1)) true _ A28.out).mono ?_); rintro e w' ⟨rfl, ⟨nd, rfl⟩⟩; (try first | exact ⟨rfl, _, World.drewN_drewN _ _ _⟩ | exact ⟨rfl, _, Eq.trans (World.drewN_drewN _ _ _) (congrArg (World.drewN _) (Nat.add_assoc _ _ _))⟩); have hcz41_0 : wr.cell? ⟨gb174, 0, none⟩ = some (.int .i64 ((rd_T64 l0 x13_1).f0)) := (blk_cell BK174.out 0).trans rfl; have hcz41_1 : wr.cell? ⟨gb174, 1, none⟩ = some (.int .i64 ((rd_T64 l0 x13_1).f1)) := (blk_cell BK174.out 1).trans rfl; have hcz41_2 : wr.cell? ⟨gb174, 2, none⟩ = some (.slice (some ad179) ((rd_T64 l0 x13_1).f2).length c173_2) := (blk_cell BK174.out 2).trans rfl; have hfz41_0 := blk_frozen BK174.out 0; have hfz41_1 := blk_frozen BK174.out 1; have hfz41_2 := blk_frozen BK174.out 2; have p181 : 0 ≤ ((ji32) : Int) := of_decide_eq_true (by first | (with_reducible assumption) | assumption); have q181 : (ji32) < (((rd_T64 l0 x13_1).f2).length : Int) := of_decide_eq_true (by first | (with_reducible assumption) | assumption); obtain ⟨ad181, e181, hx181_0⟩ := Kd.at_int HR173_2.out (ji32) p181 q181; obtain rfl : ad179 = ad181 := (by injection e181); replace hx181_0 := (HB.out.cell (World.block_lt_of_cell? w _ hx181_0)).trans hx181_0; replace p181 := eq_true p181; replace q181 := eq_true q181; have p182 : 0 ≤ ((rd ((rd_T64 l0 x13_1).f2) x46_3) : Int) := of_decide_eq_true (by first | (with_reducible assumption) | assumption); have q182 : (rd ((rd_T64 l0 x13_1).f2) x46_3) < (l0.length : Int) := of_decide_eq_true (by first | (with_reducible assumption) | assumption); obtain ⟨ad182, A182_2, c182_2, e182, hx182_0, hx182_1, hx182_2, hl182_2, hi182_2⟩ := at_T64 HR0.out (rd ((rd_T64 l0 x13_1).f2) x46_3) p182 q182; obtain rfl : ad173 = ad182 := (by injection e182); replace hx182_0 := (HB.out.cell (World.block_lt_of_cell? w _ hx182_0)).trans hx182_0; replace hx182_1 := (HB.out.cell (World.block_lt_of_cell? w _ hx182_1)).trans hx182_1; replace hx182_2 := (HB.out.cell (World.block_lt_of_cell? w _ hx182_2)).trans hx182_2; have HR182_2 := Aside0.mk hi182_2; have HC182_2 := Aside0.mk hl182_2; clear hi182_2 hl182_2; replace p182 := eq_true p182; replace q182 := eq_true q182) | (go_at_call 48; (with_reducible refine (slices_Contains_int_int.calls k3 _ _ ((rd_T64 l0 (rd ((rd_T64 l0 x13_1).f2) x46_3)).f2) x13_1 true _ ?side1 ?side2 A39.out).mono ?_); (case side1 => repeat (first | exact (Kd.C_below HR182_2.out (by repeat (first | (with_reducible first | exact HB.out | apply below_alloc | apply pw_below_drewN | apply below_drew1 | refine below_set ?_ GE174.out) | exact HB.out))) | (with_reducible refine Kd.C_alloc ?_ _) | (with_reducible refine Kd.C_drewN ?_ _) | (with_reducible refine Kd.C_drew ?_))); (case side2 => exact HC182_2.out); rintro e w' ⟨rfl, ⟨nd, rfl⟩⟩; (try first | exact ⟨rfl, _, World.drewN_drewN _ _ _⟩ | exact ⟨rfl, _, Eq.trans (World.drewN_drewN _ _ _) (congrArg (World.drewN _) (Nat.add_assoc _ _ _))⟩))); try go_wp2_with (first | (go_at_call 42; (with_reducible refine (impl_in.calls (rd ((rd_T64 l0 x13_1).f2) x46_3) 0 (wrap64 ((l0.length : Int) - 1)) true _ A28.out).mono ?_); rintro e w' ⟨rfl, ⟨nd, rfl⟩⟩; (try first | exact ⟨rfl, _, World.drewN_drewN _ _ _⟩ | exact ⟨rfl, _, Eq.trans (World.drewN_drewN _ _ _) (congrArg (World.drewN _) (Nat.add_assoc _ _ _))⟩); have hcz41_0 : wr.cell? ⟨gb174, 0, none⟩ = some (.int .i64 ((rd_T64 l0 x13_1).f0)) := (blk_cell BK174.out 0).trans rfl; have hcz41_1 : wr.cell? ⟨gb174, 1, none⟩ = some (.int .i64 ((rd_T64 l0 x13_1).f1)) := (blk_cell BK174.out 1).trans rfl; have hcz41_2 : wr.cell? ⟨gb174, 2, none⟩ = some (.slice (some ad179) ((rd_T64 l0 x13_1).f2).length c173_2) := (blk_cell BK174.out 2).trans rfl; have hfz41_0 := blk_frozen BK174.out 0; have hfz41_1 := blk_frozen BK174.out 1; have hfz41_2 := blk_frozen BK174.out 2; have p181 : 0 ≤ ((ji32) : Int) := of_decide_eq_true (by first | (with_reducible assumption) | assumption); have q181 : (ji32) < (((rd_T64 l0 x13_1).f2).length : Int) := of_decide_eq_true (by first | (with_reducible assumption) | assumption); obtain ⟨ad181, e181, hx181_0⟩ := Kd.at_int HR173_2.out (ji32) p181 q181; obtain rfl : ad179 = ad181 := (by injection e181); replace hx181_0 := (HB.out.cell (World.block_lt_of_cell? w _ hx181_0)).trans hx181_0; replace p181 := eq_true p181; replace q181 := eq_true q181; have p182 : 0 ≤ ((rd ((rd_T64 l0 x13_1).f2) x46_3) : Int) := of_decide_eq_true (by first | (with_reducible assumption) | assumption); have q182 : (rd ((rd_T64 l0 x13_1).f2) x46_3) < (l0.length : Int) := of_decide_eq_true (by first | (with_reducible assumption) | assumption); obtain ⟨ad182, A182_2, c182_2, e182, hx182_0, hx182_1, hx182_2, hl182_2, hi182_2⟩ := at_T64 HR0.out (rd ((rd_T64 l0 x13_1).f2) x46_3) p182 q182; obtain rfl : ad173 = ad182 := (by injection e182); replace hx182_0 := (HB.out.cell (World.block_lt_of_cell? w _ hx182_0)).trans hx182_0; replace hx182_1 := (HB.out.cell (World.block_lt_of_cell? w _ hx182_1)).trans hx182_1; replace hx182_2 := (HB.out.cell (World.block_lt_of_cell? w _ hx182_2)).trans hx182_2; have HR182_2 := Aside0.mk hi182_2; have HC182_2 := Aside0.mk hl182_2; clear hi182_2 hl182_2; replace p182 := eq_true p182; replace q182 := eq_true q182) | (go_at_call 48; (with_reducible refine (slices_Contains_int_int.calls k3 _ _ ((rd_T64 l0 (rd ((rd_T64 l0 x13_1).f2) x46_3)).f2) x13_1 true _ ?side1 ?side2 A39.out).mono ?_); (case side1 => repeat (first | exact (Kd.C_below HR182_2.out (by repeat (first | (with_reducible first | exact HB.out | apply below_alloc | apply pw_below_drewN | apply below_drew1 | refine below_set ?_ GE174.out) | exact HB.out))) | (with_reducible refine Kd.C_alloc ?_ _) | (with_reducible refine Kd.C_drewN ?_ _) | (with_reducible refine Kd.C_drew ?_))); (case side2 => exact HC182_2.out); rintro e w' ⟨rfl, ⟨nd, rfl⟩⟩; (try first | exact ⟨rfl, _, World.drewN_drewN _ _ _⟩ | exact ⟨rfl, _, Eq.trans (World.drewN_drewN _ _ _) (congrArg (World.drewN _) (Nat.add_assoc _ _ _))⟩))))
                                                first | (go_roundg k3; (case measure => have := HK1.out; have := HJ6.out; have := HK3.out; omega); (case rel => exact ⟨(wrap64 (x46_3 + 1)), (by first | rfl | (simp; done) | (simp [*]; done)), H', ⟨by have := HK1.out; have := HJ6.out; have := HK3.out; omega⟩, ⟨by (with_reducible repeat (first | refine blk_drewN ?_ _ | refine blk_drew ?_ | refine blk_alloc ?_ _)); exact BK174.out⟩, ⟨by repeat (first | (with_reducible first | exact HB.out | apply below_alloc | apply pw_below_drewN | apply below_drew1 | refine below_set ?_ GE174.out) | exact HB.out)⟩⟩)) | ((try subst hji13); (try subst hji32); go_roundg k3; (case measure => have := HK1.out; have := HJ6.out; have := HK3.out; omega); (case rel => exact ⟨(wrap64 (x46_3 + 1)), (by first | rfl | (simp; done) | (simp [*]; done)), H', ⟨by have := HK1.out; have := HJ6.out; have := HK3.out; omega⟩, ⟨by (with_reducible repeat (first | refine blk_drewN ?_ _ | refine blk_drew ?_ | refine blk_alloc ?_ _)); exact BK174.out⟩, ⟨by repeat (first | (with_reducible first | exact HB.out | apply below_alloc | apply pw_below_drewN | apply below_drew1 | refine below_set ?_ GE174.out) | exact HB.out)⟩⟩))
                                              · replace c40 := Bool.eq_false_iff.mpr c40
                                                subst c40
                                                have H1 : (some false) = some r := by rw [if_neg (show ¬ (false = true) by decide)] at H; exact H
                                                clear H
                                                have H := H1
                                                clear H1
                                                obtain rfl := Option.some.inj H
                                                have p179 : 0 ≤ (x46_3 : Int) := of_decide_eq_true (by first | (with_reducible assumption) | assumption)
                                                have q179 : x46_3 < (((rd_T64 l0 x13_1).f2).length : Int) := of_decide_eq_true (by first | (with_reducible assumption) | assumption)
                                                obtain ⟨ad179, e179, hx179_0⟩ := Kd.at_int HR173_2.out x46_3 p179 q179
                                                cases e179
                                                replace hx179_0 := (HB.out.cell (World.block_lt_of_cell? w _ hx179_0)).trans hx179_0
                                                replace p179 := eq_true p179
                                                replace q179 := eq_true q179
                                                go_wp2_with (first | (go_at_call 42; (with_reducible refine (impl_in.calls (rd ((rd_T64 l0 x13_1).f2) x46_3) 0 (wrap64 ((l0.length : Int) - 1)) true _ A28.out).mono ?_); rintro e w' ⟨rfl, ⟨nd, rfl⟩⟩; (try first | exact ⟨rfl, _, World.drewN_drewN _ _ _⟩ | exact ⟨rfl, _, Eq.trans (World.drewN_drewN _ _ _) (congrArg (World.drewN _) (Nat.add_assoc _ _ _))⟩); have hcz42_0 : wr.cell? ⟨gb174, 0, none⟩ = some (.int .i64 ((rd_T64 l0 x13_1).f0)) := (blk_cell BK174.out 0).trans rfl; have hcz42_1 : wr.cell? ⟨gb174, 1, none⟩ = some (.int .i64 ((rd_T64 l0 x13_1).f1)) := (blk_cell BK174.out 1).trans rfl; have hcz42_2 : wr.cell? ⟨gb174, 2, none⟩ = some (.slice (some ad179) ((rd_T64 l0 x13_1).f2).length c173_2) := (blk_cell BK174.out 2).trans rfl; have hfz42_0 := blk_frozen BK174.out 0; have hfz42_1 := blk_frozen BK174.out 1; have hfz42_2 := blk_frozen BK174.out 2; have p181 : 0 ≤ ((ji32) : Int) := of_decide_eq_true (by first | (with_reducible assumption) | assumption); have q181 : (ji32) < (((rd_T64 l0 x13_1).f2).length : Int) := of_decide_eq_true (by first | (with_reducible assumption) | assumption); obtain ⟨ad181, e181, hx181_0⟩ := Kd.at_int HR173_2.out (ji32) p181 q181; obtain rfl : ad179 = ad181 := (by injection e181); replace hx181_0 := (HB.out.cell (World.block_lt_of_cell? w _ hx181_0)).trans hx181_0; replace p181 := eq_true p181; replace q181 := eq_true q181; have p182 : 0 ≤ ((rd ((rd_T64 l0 x13_1).f2) x46_3) : Int) := of_decide_eq_true (by first | (with_reducible assumption) | assumption); have q182 : (rd ((rd_T64 l0 x13_1).f2) x46_3) < (l0.length : Int) := of_decide_eq_true (by first | (with_reducible assumption) | assumption); obtain ⟨ad182, A182_2, c182_2, e182, hx182_0, hx182_1, hx182_2, hl182_2, hi182_2⟩ := at_T64 HR0.out (rd ((rd_T64 l0 x13_1).f2) x46_3) p182 q182; obtain rfl : ad173 = ad182 := (by injection e182); replace hx182_0 := (HB.out.cell (World.block_lt_of_cell? w _ hx182_0)).trans hx182_0; replace hx182_1 := (HB.out.cell (World.block_lt_of_cell? w _ hx182_1)).trans hx182_1; replace hx182_2 := (HB.out.cell (World.block_lt_of_cell? w _ hx182_2)).trans hx182_2; have HR182_2 := Aside0.mk hi182_2; have HC182_2 := Aside0.mk hl182_2; clear hi182_2 hl182_2; replace p182 := eq_true p182; replace q182 := eq_true q182) | (go_at_call 48; (with_reducible refine (slices_Contains_int_int.calls k3 _ _ ((rd_T64 l0 (rd ((rd_T64 l0 x13_1).f2) x46_3)).f2) x13_1 false _ ?side1 ?side2 A39.out).mono ?_); (case side1 => repeat (first | exact (Kd.C_below HR182_2.out (by repeat (first | (with_reducible first | exact HB.out | apply below_alloc | apply pw_below_drewN | apply below_drew1 | refine below_set ?_ GE174.out) | exact HB.out))) | (with_reducible refine Kd.C_alloc ?_ _) | (with_reducible refine Kd.C_drewN ?_ _) | (with_reducible refine Kd.C_drew ?_))); (case side2 => exact HC182_2.out); rintro e w' ⟨rfl, ⟨nd, rfl⟩⟩; (try first | exact ⟨rfl, _, World.drewN_drewN _ _ _⟩ | exact ⟨rfl, _, Eq.trans (World.drewN_drewN _ _ _) (congrArg (World.drewN _) (Nat.add_assoc _ _ _))⟩)))
                                                repeat (go_quiet (first | (go_at_call 42; (with_reducible refine (impl_in.calls (rd ((rd_T64 l0 x13_1).f2) x46_3) 0 (wrap64 ((l0.length : Int) - 1)) true _ A28.out).mono ?_); rintro e w' ⟨rfl, ⟨nd, rfl⟩⟩; (try first | exact ⟨rfl, _, World.drewN_drewN _ _ _⟩ | exact ⟨rfl, _, Eq.trans (World.drewN_drewN _ _ _) (congrArg (World.drewN _) (Nat.add_assoc _ _ _))⟩); have hcz42_0 : wr.cell? ⟨gb174, 0, none⟩ = some (.int .i64 ((rd_T64 l0 x13_1).f0)) := (blk_cell BK174.out 0).trans rfl; have hcz42_1 : wr.cell? ⟨gb174, 1, none⟩ = some (.int .i64 ((rd_T64 l0 x13_1).f1)) := (blk_cell BK174.out 1).trans rfl; have hcz42_2 : wr.cell? ⟨gb174, 2, none⟩ = some (.slice (some ad179) ((rd_T64 l0 x13_1).f2).length c173_2) := (blk_cell BK174.out 2).trans rfl; have hfz42_0 := blk_frozen BK174.out 0; have hfz42_1 := blk_frozen BK174.out 1; have hfz42_2 := blk_frozen BK174.out 2; have p181 : 0 ≤ ((ji32) : Int) := of_decide_eq_true (by first | (with_reducible assumption) | assumption); have q181 : (ji32) < (((rd_T64 l0 x13_1).f2).length : Int) := of_decide_eq_true (by first | (with_reducible assumption) | assumption); obtain ⟨ad181, e181, hx181_0⟩ := Kd.at_int HR173_2.out (ji32) p181 q181; obtain rfl : ad179 = ad181 := (by injection e181); replace hx181_0 := (HB.out.cell (World.block_lt_of_cell? w _ hx181_0)).trans hx181_0; replace p181 := eq_true p181; replace q181 := eq_true q181; have p182 : 0 ≤ ((rd ((rd_T64 l0 x13_1).f2) x46_3) : Int) := of_decide_eq_true (by first | (with_reducible assumption) | assumption); have q182 : (rd ((rd_T64 l0 x13_1).f2) x46_3) < (l0.length : Int) := of_decide_eq_true (by first | (with_reducible assumption) | assumption); obtain ⟨ad182, A182_2, c182_2, e182, hx182_0, hx182_1, hx182_2, hl182_2, hi182_2⟩ := at_T64 HR0.out (rd ((rd_T64 l0 x13_1).f2) x46_3) p182 q182; obtain rfl : ad173 = ad182 := (by injection e182); replace hx182_0 := (HB.out.cell (World.block_lt_of_cell? w _ hx182_0)).trans hx182_0; replace hx182_1 := (HB.out.cell (World.block_lt_of_cell? w _ hx182_1)).trans hx182_1; replace hx182_2 := (HB.out.cell (World.block_lt_of_cell? w _ hx182_2)).trans hx182_2; have HR182_2 := Aside0.mk hi182_2; have HC182_2 := Aside0.mk hl182_2; clear hi182_2 hl182_2; replace p182 := eq_true p182; replace q182 := eq_true q182) | (go_at_call 48; (with_reducible refine (slices_Contains_int_int.calls k3 _ _ ((rd_T64 l0 (rd ((rd_T64 l0 x13_1).f2) x46_3)).f2) x13_1 false _ ?side1 ?side2 A39.out).mono ?_); (case side1 => repeat (first | exact (Kd.C_below HR182_2.out (by repeat (first | (with_reducible first | exact HB.out | apply below_alloc | apply pw_below_drewN | apply below_drew1 | refine below_set ?_ GE174.out) | exact HB.out))) | (with_reducible refine Kd.C_alloc ?_ _) | (with_reducible refine Kd.C_drewN ?_ _) | (with_reducible refine Kd.C_drew ?_))); (case side2 => exact HC182_2.out); rintro e w' ⟨rfl, ⟨nd, rfl⟩⟩; (try first | exact ⟨rfl, _, World.drewN_drewN _ _ _⟩ | exact ⟨rfl, _, Eq.trans (World.drewN_drewN _ _ _) (congrArg (World.drewN _) (Nat.add_assoc _ _ _))⟩))); try go_wp2_with (first | (go_at_call 42; (with_reducible refine (impl_in.calls (rd ((rd_T64 l0 x13_1).f2) x46_3) 0 (wrap64 ((l0.length : Int) - 1)) true _ A28.out).mono ?_); rintro e w' ⟨rfl, ⟨nd, rfl⟩⟩; (try first | exact ⟨rfl, _, World.drewN_drewN _ _ _⟩ | exact ⟨rfl, _, Eq.trans (World.drewN_drewN _ _ _) (congrArg (World.drewN _) (Nat.add_assoc _ _ _))⟩); have hcz42_0 : wr.cell? ⟨gb174, 0, none⟩ = some (.int .i64 ((rd_T64 l0 x13_1).f0)) := (blk_cell BK174.out 0).trans rfl; have hcz42_1 : wr.cell? ⟨gb174, 1, none⟩ = some (.int .i64 ((rd_T64 l0 x13_1).f1)) := (blk_cell BK174.out 1).trans rfl; have hcz42_2 : wr.cell? ⟨gb174, 2, none⟩ = some (.slice (some ad179) ((rd_T64 l0 x13_1).f2).length c173_2) := (blk_cell BK174.out 2).trans rfl; have hfz42_0 := blk_frozen BK174.out 0; have hfz42_1 := blk_frozen BK174.out 1; have hfz42_2 := blk_frozen BK174.out 2; have p181 : 0 ≤ ((ji32) : Int) := of_decide_eq_true (by first | (with_reducible assumption) | assumption); have q181 : (ji32) < (((rd_T64 l0 x13_1).f2).length : Int) := of_decide_eq_true (by first | (with_reducible assumption) | assumption); obtain ⟨ad181, e181, hx181_0⟩ := Kd.at_int HR173_2.out (ji32) p181 q181; obtain rfl : ad179 = ad181 := (by injection e181); replace hx181_0 := (HB.out.cell (World.block_lt_of_cell? w _ hx181_0)).trans hx181_0; replace p181 := eq_true p181; replace q181 := eq_true q181; have p182 : 0 ≤ ((rd ((rd_T64 l0 x13_1).f2) x46_3) : Int) := of_decide_eq_true (by first | (with_reducible assumption) | assumption); have q182 : (rd ((rd_T64 l0 x13_1).f2) x46_3) < (l0.length : Int) := of_decide_eq_true (by first | (with_reducible assumption) | assumption); obtain ⟨ad182, A182_2, c182_2, e182, hx182_0, hx182_1, hx182_2, hl182_2, hi182_2⟩ := at_T64 HR0.out (rd ((rd_T64 l0 x13_1).f2) x46_3) p182 q182; obtain rfl : ad173 = ad182 := (by injection e182); replace hx182_0 := (HB.out.cell (World.block_lt_of_cell? w _ hx182_0)).trans hx182_0; replace hx182_1 := (HB.out.cell (World.block_lt_of_cell? w _ hx182_1)).trans hx182_1; replace hx182_2 := (HB.out.cell (World.block_lt_of_cell? w _ hx182_2)).trans hx182_2; have HR182_2 := Aside0.mk hi182_2; have HC182_2 := Aside0.mk hl182_2; clear hi182_2 hl182_2; replace p182 := eq_true p182; replace q182 := eq_true q182) | (go_at_call 48; (with_reducible refine (slices_Contains_int_int.calls k3 _ _ ((rd_T64 l0 (rd ((rd_T64 l0 x13_1).f2) x46_3)).f2) x13_1 false _ ?side1 ?side2 A39.out).mono ?_); (case side1 => repeat (first | exact (Kd.C_below HR182_2.out (by repeat (first | (with_reducible first | exact HB.out | apply below_alloc | apply pw_below_drewN | apply below_drew1 | refine below_set ?_ GE174.out) | exact HB.out))) | (with_reducible refine Kd.C_alloc ?_ _) | (with_reducible refine Kd.C_drewN ?_ _) | (with_reducible refine Kd.C_drew ?_))); (case side2 => exact HC182_2.out); rintro e w' ⟨rfl, ⟨nd, rfl⟩⟩; (try first | exact ⟨rfl, _, World.drewN_drewN _ _ _⟩ | exact ⟨rfl, _, Eq.trans (World.drewN_drewN _ _ _) (congrArg (World.drewN _) (Nat.add_assoc _ _ _))⟩))))
                                                go_ret
                                                exact ⟨by first | rfl | (simp [errW_none, errW_some] <;> rfl) | (simp only [← hji32]; first | rfl | (simp [errW_none, errW_some] <;> rfl)) | (simp [*, errW_none, errW_some] <;> rfl), by repeat (first | (with_reducible first | exact HB.out | apply below_alloc | apply pw_below_drewN | apply below_drew1 | refine below_set ?_ GE174.out) | exact HB.out)⟩
                                            · rw [if_neg c38] at H
                                              exact absurd H (by simp)
                                          · rw [if_neg c37] at H
                                            exact absurd H (by simp)
                                      · rw [if_neg c34] at H
                                        exact absurd H (by simp)
                                    · rw [if_neg c33] at H
                                      exact absurd H (by simp)
                                  · rw [if_neg c31] at H
                                    have c31b0 : decide (0 < x46_3) = false := decide_eq_false c31
                                    clear c31
                                    by_cases c43 : 0 ≤ (rd ((rd_T64 l0 x13_1).f2) x46_3)
                                    · rw [if_pos c43] at H
                                      have c43b0 : decide (0 ≤ (rd ((rd_T64 l0 x13_1).f2) x46_3)) = true := decide_eq_true c43
                                      clear c43
                                      by_cases c44 : (rd ((rd_T64 l0 x13_1).f2) x46_3) < (l0.length : Int)
                                      · rw [if_pos c44] at H
                                        have c44b0 : decide ((rd ((rd_T64 l0 x13_1).f2) x46_3) < (l0.length : Int)) = true := decide_eq_true c44
                                        clear c44
                                        replace H := Option.bind_eq_some_iff.mp H
                                        obtain ⟨t185, A450, H⟩ := H
                                        replace H : (if t185 = true then (impl_RadiosOk.l1 k3 l0 x13_1 l0 (l0.length : Int) x13_1 ((rd_T64 l0 x13_1).f2) (((rd_T64 l0 x13_1).f2).length : Int) (wrap64 (x46_3 + 1)) ((rd_T64 l0 x13_1).f0) ((rd_T64 l0 x13_1).f1) ((rd_T64 l0 x13_1).f2)) else (some false)) = some r := H
                                        have A45 := Aside0.mk A450
                                        clear A450
                                        by_cases c46 : t185 = true
                                        · subst c46
                                          have H1 : (impl_RadiosOk.l1 k3 l0 x13_1 l0 (l0.length : Int) x13_1 ((rd_T64 l0 x13_1).f2) (((rd_T64 l0 x13_1).f2).length : Int) (wrap64 (x46_3 + 1)) ((rd_T64 l0 x13_1).f0) ((rd_T64 l0 x13_1).f1) ((rd_T64 l0 x13_1).f2)) = some r := by rw [if_pos rfl] at H; exact H
                                          clear H
                                          have H := H1
                                          clear H1
                                          have H' := Aside0.mk H
                                          clear H
                                          have p179 : 0 ≤ (x46_3 : Int) := of_decide_eq_true (by first | (with_reducible assumption) | assumption)
                                          have q179 : x46_3 < (((rd_T64 l0 x13_1).f2).length : Int) := of_decide_eq_true (by first | (with_reducible assumption) | assumption)
                                          obtain ⟨ad179, e179, hx179_0⟩ := Kd.at_int HR173_2.out x46_3 p179 q179
                                          cases e179
                                          replace hx179_0 := (HB.out.cell (World.block_lt_of_cell? w _ hx179_0)).trans hx179_0
                                          replace p179 := eq_true p179
                                          replace q179 := eq_true q179
                                          go_wp2_with (first | (go_at_call 42; (with_reducible refine (impl_in.calls (rd ((rd_T64 l0 x13_1).f2) x46_3) 0 (wrap64 ((l0.length : Int) - 1)) true _ A28.out).mono ?_); rintro e w' ⟨rfl, ⟨nd, rfl⟩⟩; (try first | exact ⟨rfl, _, World.drewN_drewN _ _ _⟩ | exact ⟨rfl, _, Eq.trans (World.drewN_drewN _ _ _) (congrArg (World.drewN _) (Nat.add_assoc _ _ _))⟩); have p184 : 0 ≤ ((rd ((rd_T64 l0 x13_1).f2) x46_3) : Int) := of_decide_eq_true (by first | (with_reducible assumption) | assumption); have q184 : (rd ((rd_T64 l0 x13_1).f2) x46_3) < (l0.length : Int) := of_decide_eq_true (by first | (with_reducible assumption) | assumption); obtain ⟨ad184, A184_2, c184_2, e184, hx184_0, hx184_1, hx184_2, hl184_2, hi184_2⟩ := at_T64 HR0.out (rd ((rd_T64 l0 x13_1).f2) x46_3) p184 q184; obtain rfl : ad173 = ad184 := (by injection e184); replace hx184_0 := (HB.out.cell (World.block_lt_of_cell? w _ hx184_0)).trans hx184_0; replace hx184_1 := (HB.out.cell (World.block_lt_of_cell? w _ hx184_1)).trans hx184_1; replace hx184_2 := (HB.out.cell (World.block_lt_of_cell? w _ hx184_2)).trans hx184_2; have HR184_2 := Aside0.mk hi184_2; have HC184_2 := Aside0.mk hl184_2; clear hi184_2 hl184_2; replace p184 := eq_true p184; replace q184 := eq_true q184) | (go_at_call 48; (with_reducible refine (slices_Contains_int_int.calls k3 _ _ ((rd_T64 l0 (rd ((rd_T64 l0 x13_1).f2) x46_3)).f2) x13_1 true _ ?side1 ?side2 A45.out).mono ?_); (case side1 => repeat (first | exact (Kd.C_below HR184_2.out (by repeat (first | (with_reducible first | exact HB.out | apply below_alloc | apply pw_below_drewN | apply below_drew1 | refine below_set ?_ GE174.out) | exact HB.out))) | (with_reducible refine Kd.C_alloc ?_ _) | (with_reducible refine Kd.C_drewN ?_ _) | (with_reducible refine Kd.C_drew ?_))); (case side2 => exact HC184_2.out); rintro e w' ⟨rfl, ⟨nd, rfl⟩⟩; (try first | exact ⟨rfl, _, World.drewN_drewN _ _ _⟩ | exact ⟨rfl, _, Eq.trans (World.drewN_drewN _ _ _) (congrArg (World.drewN _) (Nat.add_assoc _ _ _))⟩)))
                                          repeat (go_quiet (first | (go_at_call 42; (with_reducible refine (impl_in.calls (rd ((rd_T64 l0 x13_1).f2) x46_3) 0 (wrap64 ((l0.length : Int) - 1)) true _ A28.out).mono ?_); rintro e w' ⟨rfl, ⟨nd, rfl⟩⟩; (try first | exact ⟨rfl, _, World.drewN_drewN _ _ _⟩ | exact ⟨rfl, _, Eq.trans (World.drewN_drewN _ _ _) (congrArg (World.drewN _) (Nat.add_assoc _ _ _))⟩); have p184 : 0 ≤ ((rd ((rd_T64 l0 x13_1).f2) x46_3) : Int) := of_decide_eq_true (by first | (with_reducible assumption) | assumption); have q184 : (rd ((rd_T64 l0 x13_1).f2) x46_3) < (l0.length : Int) := of_decide_eq_true (by first | (with_reducible assumption) | assumption); obtain ⟨ad184, A184_2, c184_2, e184, hx184_0, hx184_1, hx184_2, hl184_2, hi184_2⟩ := at_T64 HR0.out (rd ((rd_T64 l0 x13_1).f2) x46_3) p184 q184; obtain rfl : ad173 = ad184 := (by injection e184); replace hx184_0 := (HB.out.cell (World.block_lt_of_cell? w _ hx184_0)).trans hx184_0; replace hx184_1 := (HB.out.cell (World.block_lt_of_cell? w _ hx184_1)).trans hx184_1; replace hx184_2 := (HB.out.cell (World.block_lt_of_cell? w _ hx184_2)).trans hx184_2; have HR184_2 := Aside0.mk hi184_2; have HC184_2 := Aside0.mk hl184_2; clear hi184_2 hl184_2; replace p184 := eq_true p184; replace q184 := eq_true q184) | (go_at_call 48; (with_reducible refine (slices_Contains_int_int.calls k3 _ _ ((rd_T64 l0 (rd ((rd_T64 l0 x13_1).f2) x46_3)).f2) x13_1 true _ ?side1 ?side2 A45.out).mono ?_); (case side1 => repeat (first | exact (Kd.C_below HR184_2.out (by repeat (first | (with_reducible first | exact HB.out | apply below_alloc | apply pw_below_drewN | apply below_drew1 | refine below_set ?_ GE174.out) | exact HB.out))) | (with_reducible refine Kd.C_alloc ?_ _) | (with_reducible refine Kd.C_drewN ?_ _) | (with_reducible refine Kd.C_drew ?_))); (case side2 => exact HC184_2.out); rintro e w' ⟨rfl, ⟨nd, rfl⟩⟩; (try first | exact ⟨rfl, _, World.drewN_drewN _ _ _⟩ | exact ⟨rfl, _, Eq.trans (World.drewN_drewN _ _ _) (congrArg (World.drewN _) (Nat.add_assoc _ _ _))⟩))); try go_wp2_with (first | (go_at_call 42; (with_reducible refine (impl_in.calls (rd ((rd_T64 l0 x13_1).f2) x46_3) 0 (wrap64 ((l0.length : Int) - 1)) true _ A28.out).mono ?_); rintro e w' ⟨rfl, ⟨nd, rfl⟩⟩; (try first | exact ⟨rfl, _, World.drewN_drewN _ _ _⟩ | exact ⟨rfl, _, Eq.trans (World.drewN_drewN _ _ _) (congrArg (World.drewN _) (Nat.add_assoc _ _ _))⟩); have p184 : 0 ≤ ((rd ((rd_T64 l0 x13_1).f2) x46_3) : Int) := of_decide_eq_true (by first | (with_reducible assumption) | assumption); have q184 : (rd ((rd_T64 l0 x13_1).f2) x46_3) < (l0.length : Int) := of_decide_eq_true (by first | (with_reducible assumption) | assumption); obtain ⟨ad184, A184_2, c184_2, e184, hx184_0, hx184_1, hx184_2, hl184_2, hi184_2⟩ := at_T64 HR0.out (rd ((rd_T64 l0 x13_1).f2) x46_3) p184 q184; obtain rfl : ad173 = ad184 := (by injection e184); replace hx184_0 := (HB.out.cell (World.block_lt_of_cell? w _ hx184_0)).trans hx184_0; replace hx184_1 := (HB.out.cell (World.block_lt_of_cell? w _ hx184_1)).trans hx184_1; replace hx184_2 := (HB.out.cell (World.block_lt_of_cell? w _ hx184_2)).trans hx184_2; have HR184_2 := Aside0.mk hi184_2; have HC184_2 := Aside0.mk hl184_2; clear hi184_2 hl184_2; replace p184 := eq_true p184; replace q184 := eq_true q184) | (go_at_call 48; (with_reducible refine (slices_Contains_int_int.calls k3 _ _ ((rd_T64 l0 (rd ((rd_T64 l0 x13_1).f2) x46_3)).f2) x13_1 true _ ?side1 ?side2 A45.out).mono ?_); (case side1 => repeat (first | exact (Kd.C_below HR184_2.out (by repeat (first | (with_reducible first | exact HB.out | apply below_alloc | apply pw_below_drewN | apply below_drew1 | refine below_set ?_ GE174.out) | exact HB.out))) | (with_reducible refine Kd.C_alloc ?_ _) | (with_reducible refine Kd.C_drewN ?_ _) | (with_reducible refine Kd.C_drew ?_))); (case side2 => exact HC184_2.out); rintro e w' ⟨rfl, ⟨nd, rfl⟩⟩; (try first | exact ⟨rfl, _, World.drewN_drewN _ _ _⟩ | exact ⟨rfl, _, Eq.trans (World.drewN_drewN _ _ _) (congrArg (World.drewN _) (Nat.add_assoc _ _ _))⟩))))
                                          first | (go_roundg k3; (case measure => have := HK1.out; have := HJ6.out; have := HK3.out; omega); (case rel => exact ⟨(wrap64 (x46_3 + 1)), (by first | rfl | (simp; done) | (simp [*]; done)), H', ⟨by have := HK1.out; have := HJ6.out; have := HK3.out; omega⟩, ⟨by (with_reducible repeat (first | refine blk_drewN ?_ _ | refine blk_drew ?_ | refine blk_alloc ?_ _)); exact BK174.out⟩, ⟨by repeat (first | (with_reducible first | exact HB.out | apply below_alloc | apply pw_below_drewN | apply below_drew1 | refine below_set ?_ GE174.out) | exact HB.out)⟩⟩)) | ((try subst hji13); (try subst hji32); go_roundg k3; (case measure => have := HK1.out; have := HJ6.out; have := HK3.out; omega); (case rel => exact ⟨(wrap64 (x46_3 + 1)), (by first | rfl | (simp; done) | (simp [*]; done)), H', ⟨by have := HK1.out; have := HJ6.out; have := HK3.out; omega⟩, ⟨by (with_reducible repeat (first | refine blk_drewN ?_ _ | refine blk_drew ?_ | refine blk_alloc ?_ _)); exact BK174.out⟩, ⟨by repeat (first | (with_reducible first | exact HB.out | apply below_alloc | apply pw_below_drewN | apply below_drew1 | refine below_set ?_ GE174.out) | exact HB.out)⟩⟩))
                                        · replace c46 := Bool.eq_false_iff.mpr c46
                                          subst c46
                                          have H1 : (some false) = some r := by rw [if_neg (show ¬ (false = true) by decide)] at H; exact H
                                          clear H
                                          have H := H1
                                          clear H1
                                          obtain rfl := Option.some.inj H
                                          have p179 : 0 ≤ (x46_3 : Int) := of_decide_eq_true (by first | (with_reducible assumption) | assumption)
                                          have q179 : x46_3 < (((rd_T64 l0 x13_1).f2).length : Int) := of_decide_eq_true (by first | (with_reducible assumption) | assumption)
                                          obtain ⟨ad179, e179, hx179_0⟩ := Kd.at_int HR173_2.out x46_3 p179 q179
                                          cases e179
                                          replace hx179_0 := (HB.out.cell (World.block_lt_of_cell? w _ hx179_0)).trans hx179_0
                                          replace p179 := eq_true p179
                                          replace q179 := eq_true q179
                                          go_wp2_with (first | (go_at_call 42; (with_reducible refine (impl_in.calls (rd ((rd_T64 l0 x13_1).f2) x46_3) 0 (wrap64 ((l0.length : Int) - 1)) true _ A28.out).mono ?_); rintro e w' ⟨rfl, ⟨nd, rfl⟩⟩; (try first | exact ⟨rfl, _, World.drewN_drewN _ _ _⟩ | exact ⟨rfl, _, Eq.trans (World.drewN_drewN _ _ _) (congrArg (World.drewN _) (Nat.add_assoc _ _ _))⟩); have p184 : 0 ≤ ((rd ((rd_T64 l0 x13_1).f2) x46_3) : Int) := of_decide_eq_true (by first | (with_reducible assumption) | assumption); have q184 : (rd ((rd_T64 l0 x13_1).f2) x46_3) < (l0.length : Int) := of_decide_eq_true (by first | (with_reducible assumption) | assumption); obtain ⟨ad184, A184_2, c184_2, e184, hx184_0, hx184_1, hx184_2, hl184_2, hi184_2⟩ := at_T64 HR0.out (rd ((rd_T64 l0 x13_1).f2) x46_3) p184 q184; obtain rfl : ad173 = ad184 := (by injection e184); replace hx184_0 := (HB.out.cell (World.block_lt_of_cell? w _ hx184_0)).trans hx184_0; replace hx184_1 := (HB.out.cell (World.block_lt_of_cell? w _ hx184_1)).trans hx184_1; replace hx184_2 := (HB.out.cell (World.block_lt_of_cell? w _ hx184_2)).trans hx184_2; have HR184_2 := Aside0.mk hi184_2; have HC184_2 := Aside0.mk hl184_2; clear hi184_2 hl184_2; replace p184 := eq_true p184; replace q184 := eq_true q184) | (go_at_call 48; (with_reducible refine (slices_Contains_int_int.calls k3 _ _ ((rd_T64 l0 (rd ((rd_T64 l0 x13_1).f2) x46_3)).f2) x13_1 false _ ?side1 ?side2 A45.out).mono ?_); (case side1 => repeat (first | exact (Kd.C_below HR184_2.out (by repeat (first | (with_reducible first | exact HB.out | apply below_alloc | apply pw_below_drewN | apply below_drew1 | refine below_set ?_ GE174.out) | exact HB.out))) | (with_reducible refine Kd.C_alloc ?_ _) | (with_reducible refine Kd.C_drewN ?_ _) | (with_reducible refine Kd.C_drew ?_))); (case side2 => exact HC184_2.out); rintro e w' ⟨rfl, ⟨nd, rfl⟩⟩; (try first | exact ⟨rfl, _, World.drewN_drewN _ _ _⟩ | exact ⟨rfl, _, Eq.trans (World.drewN_drewN _ _ _) (congrArg (World.drewN _) (Nat.add_assoc _ _ _))⟩)))
                                          repeat (go_quiet (first | (go_at_call 42; (with_reducible refine (impl_in.calls (rd ((rd_T64 l0 x13_1).f2) x46_3) 0 (wrap64 ((l0.length : Int) - 1)) true _ A28.out).mono ?_); rintro e w' ⟨rfl, ⟨nd, rfl⟩⟩; (try first | exact ⟨rfl, _, World.drewN_drewN _ _ _⟩ | exact ⟨rfl, _, Eq.trans (World.drewN_drewN _ _ _) (congrArg (World.drewN _) (Nat.add_assoc _ _ _))⟩); have p184 : 0 ≤ ((rd ((rd_T64 l0 x13_1).f2) x46_3) : Int) := of_decide_eq_true (by first | (with_reducible assumption) | assumption); have q184 : (rd ((rd_T64 l0 x13_1).f2) x46_3) < (l0.length : Int) := of_decide_eq_true (by first | (with_reducible assumption) | assumption); obtain ⟨ad184, A184_2, c184_2, e184, hx184_0, hx184_1, hx184_2, hl184_2, hi184_2⟩ := at_T64 HR0.out (rd ((rd_T64 l0 x13_1).f2) x46_3) p184 q184; obtain rfl : ad173 = ad184 := (by injection e184); replace hx184_0 := (HB.out.cell (World.block_lt_of_cell? w _ hx184_0)).trans hx184_0; replace hx184_1 := (HB.out.cell (World.block_lt_of_cell? w _ hx184_1)).trans hx184_1; replace hx184_2 := (HB.out.cell (World.block_lt_of_cell? w _ hx184_2)).trans hx184_2; have HR184_2 := Aside0.mk hi184_2; have HC184_2 := Aside0.mk hl184_2; clear hi184_2 hl184_2; replace p184 := eq_true p184; replace q184 := eq_true q184) | (go_at_call 48; (with_reducible refine (slices_Contains_int_int.calls k3 _ _ ((rd_T64 l0 (rd ((rd_T64 l0 x13_1).f2) x46_3)).f2) x13_1 false _ ?side1 ?side2 A45.out).mono ?_); (case side1 => repeat (first | exact (Kd.C_below HR184_2.out (by repeat (first | (with_reducible first | exact HB.out | apply below_alloc | apply pw_below_drewN | apply below_drew1 | refine below_set ?_ GE174.out) | exact HB.out))) | (with_reducible refine Kd.C_alloc ?_ _) | (with_reducible refine Kd.C_drewN ?_ _) | (with_reducible refine Kd.C_drew ?_))); (case side2 => exact HC184_2.out); rintro e w' ⟨rfl, ⟨nd, rfl⟩⟩; (try first | exact ⟨rfl, _, World.drewN_drewN _ _ _⟩ | exact ⟨rfl, _, Eq.trans (World.drewN_drewN _ _ _) (congrArg (World.drewN _) (Nat.add_assoc _ _ _))⟩))); try go_wp2_with (first | (go_at_call 42; (with_reducible refine (impl_in.calls (rd ((rd_T64 l0 x13_1).f2) x46_3) 0 (wrap64 ((l0.length : Int) - 1)) true _ A28.out).mono ?_); rintro e w' ⟨rfl, ⟨nd, rfl⟩⟩; (try first | exact ⟨rfl, _, World.drewN_drewN _ _ _⟩ | exact ⟨rfl, _, Eq.trans (World.drewN_drewN _ _ _) (congrArg (World.drewN _) (Nat.add_assoc _ _ _))⟩); have p184 : 0 ≤ ((rd ((rd_T64 l0 x13_1).f2) x46_3) : Int) := of_decide_eq_true (by first | (with_reducible assumption) | assumption); have q184 : (rd ((rd_T64 l0 x13_1).f2) x46_3) < (l0.length : Int) := of_decide_eq_true (by first | (with_reducible assumption) | assumption); obtain ⟨ad184, A184_2, c184_2, e184, hx184_0, hx184_1, hx184_2, hl184_2, hi184_2⟩ := at_T64 HR0.out (rd ((rd_T64 l0 x13_1).f2) x46_3) p184 q184; obtain rfl : ad173 = ad184 := (by injection e184); replace hx184_0 := (HB.out.cell (World.block_lt_of_cell? w _ hx184_0)).trans hx184_0; replace hx184_1 := (HB.out.cell (World.block_lt_of_cell? w _ hx184_1)).trans hx184_1; replace hx184_2 := (HB.out.cell (World.block_lt_of_cell? w _ hx184_2)).trans hx184_2; have HR184_2 := Aside0.mk hi184_2; have HC184_2 := Aside0.mk hl184_2; clear hi184_2 hl184_2; replace p184 := eq_true p184; replace q184 := eq_true q184) | (go_at_call 48; (with_reducible refine (slices_Contains_int_int.calls k3 _ _ ((rd_T64 l0 (rd ((rd_T64 l0 x13_1).f2) x46_3)).f2) x13_1 false _ ?side1 ?side2 A45.out).mono ?_); (case side1 => repeat (first | exact (Kd.C_below HR184_2.out (by repeat (first | (with_reducible first | exact HB.out | apply below_alloc | apply pw_below_drewN | apply below_drew1 | refine below_set ?_ GE174.out) | exact HB.out))) | (with_reducible refine Kd.C_alloc ?_ _) | (with_reducible refine Kd.C_drewN ?_ _) | (with_reducible refine Kd.C_drew ?_))); (case side2 => exact HC184_2.out); rintro e w' ⟨rfl, ⟨nd, rfl⟩⟩; (try first | exact ⟨rfl, _, World.drewN_drewN _ _ _⟩ | exact ⟨rfl, _, Eq.trans (World.drewN_drewN _ _ _) (congrArg (World.drewN _) (Nat.add_assoc _ _ _))⟩))))
                                          go_ret
                                          exact ⟨by first | rfl | (simp [errW_none, errW_some] <;> rfl) | (simp [*, errW_none, errW_some] <;> rfl), by repeat (first | (with_reducible first | exact HB.out | apply below_alloc | apply pw_below_drewN | apply below_drew1 | refine below_set ?_ GE174.out) | exact HB.out)⟩
                                      · rw [if_neg c44] at H
                                        exact absurd H (by simp)
                                    · rw [if_neg c43] at H
                                      exact absurd H (by simp)
                              · replace c29 := Bool.eq_false_iff.mpr c29
                                subst c29
                                have H1 : (some false) = some r := by rw [if_neg (show ¬ (false = true) by decide)] at H; exact H
                                clear H
                                have H := H1
                                clear H1
                                obtain rfl := Option.some.inj H
                                have p179 : 0 ≤ (x46_3 : Int) := of_decide_eq_true (by first | (with_reducible assumption) | assumption)
                                have q179 : x46_3 < (((rd_T64 l0 x13_1).f2).length : Int) := of_decide_eq_true (by first | (with_reducible assumption) | assumption)
                                obtain ⟨ad179, e179, hx179_0⟩ := Kd.at_int HR173_2.out x46_3 p179 q179
                                cases e179
                                replace hx179_0 := (HB.out.cell (World.block_lt_of_cell? w _ hx179_0)).trans hx179_0
                                replace p179 := eq_true p179
                                replace q179 := eq_true q179
                                go_wp2_with (first | (go_at_call 42; (with_reducible refine (impl_in.calls (rd ((rd_T64 l0 x13_1).f2) x46_3) 0 (wrap64 ((l0.length : Int) - 1)) false _ A28.out).mono ?_); rintro e w' ⟨rfl, ⟨nd, rfl⟩⟩; (try first | exact ⟨rfl, _, World.drewN_drewN _ _ _⟩ | exact ⟨rfl, _, Eq.trans (World.drewN_drewN _ _ _) (congrArg (World.drewN _) (Nat.add_assoc _ _ _))⟩)))
                                repeat (go_quiet (first | (go_at_call 42; (with_reducible refine (impl_in.calls (rd ((rd_T64 l0 x13_1).f2) x46_3) 0 (wrap64 ((l0.length : Int) - 1)) false _ A28.out).mono ?_); rintro e w' ⟨rfl, ⟨nd, rfl⟩⟩; (try first | exact ⟨rfl, _, World.drewN_drewN _ _ _⟩ | exact ⟨rfl, _, Eq.trans (World.drewN_drewN _ _ _) (congrArg (World.drewN _) (Nat.add_assoc _ _ _))⟩))); try go_wp2_with (first | (go_at_call 42; (with_reducible refine (impl_in.calls (rd ((rd_T64 l0 x13_1).f2) x46_3) 0 (wrap64 ((l0.length : Int) - 1)) false _ A28.out).mono ?_); rintro e w' ⟨rfl, ⟨nd, rfl⟩⟩; (try first | exact ⟨rfl, _, World.drewN_drewN _ _ _⟩ | exact ⟨rfl, _, Eq.trans (World.drewN_drewN _ _ _) (congrArg (World.drewN _) (Nat.add_assoc _ _ _))⟩))))
                                go_ret
                                exact ⟨by first | rfl | (simp [errW_none, errW_some] <;> rfl) | (simp [*, errW_none, errW_some] <;> rfl), by repeat (first | (with_reducible first | exact HB.out | apply below_alloc | apply pw_below_drewN | apply below_drew1 | refine below_set ?_ GE174.out) | exact HB.out)⟩
                            · rw [if_neg c27] at H
                              exact absurd H (by simp)
                          · rw [if_neg c26] at H
                            exact absurd H (by simp)
                        · rw [if_neg c25] at H
                          have c25b0 : decide (x46_3 < (((rd_T64 l0 x13_1).f2).length : Int)) = false := decide_eq_false c25
                          clear c25
                          have H' := Aside0.mk H
                          clear H
                          go_wp2
                          repeat (go_quiet (fail); try go_wp2)
                          first | (go_roundg k3; (case measure => have := HK1.out; have := HJ6.out; have := HK3.out; omega); (case rel => exact ⟨(wrap64 (x13_1 + 1)), (by first | rfl | (simp; done) | (simp [*]; done)), H', ⟨by have := HK1.out; have := HJ6.out; have := HK3.out; omega⟩, ⟨by repeat (first | (with_reducible first | exact HB.out | apply below_alloc | apply pw_below_drewN | apply below_drew1 | refine below_set ?_ GE174.out) | exact HB.out)⟩⟩)) | ((try subst hji13); (try subst hji32); go_roundg k3; (case measure => have := HK1.out; have := HJ6.out; have := HK3.out; omega); (case rel => exact ⟨(wrap64 (x13_1 + 1)), (by first | rfl | (simp; done) | (simp [*]; done)), H', ⟨by have := HK1.out; have := HJ6.out; have := HK3.out; omega⟩, ⟨by repeat (first | (with_reducible first | exact HB.out | apply below_alloc | apply pw_below_drewN | apply below_drew1 | refine below_set ?_ GE174.out) | exact HB.out)⟩⟩))
            · rw [if_neg c6] at H
              exact absurd H (by simp)
          · rw [if_neg c5] at H
            exact absurd H (by simp)
        · rw [if_neg c4] at H
          have c4b0 : decide (x13_1 < (l0.length : Int)) = false := decide_eq_false c4
          clear c4
          obtain rfl := Option.some.inj H
          go_wp2
          repeat (go_quiet (fail); try go_wp2)
          go_ret
          exact ⟨by first | rfl | (simp [errW_none, errW_some] <;> rfl) | (simp [*, errW_none, errW_some] <;> rfl), by repeat (first | (with_reducible first | exact HB.out | apply below_alloc | apply pw_below_drewN | apply below_drew1) | exact HB.out)⟩
  · replace c3 := Bool.eq_false_iff.mpr c3
    subst c3
    have H1 : (some false) = some r := by rw [if_neg (show ¬ (false = true) by decide)] at H; exact H
    clear H
    have H := H1
    clear H1
    obtain rfl := Option.some.inj H
    go_enter Try.func26, Try.ntmps26
    go_wp2_with (first | (go_at_call 42; (with_reducible refine (impl_in.calls (l0.length : Int) 1 24 false _ A2.out).mono ?_); rintro e w' ⟨rfl, ⟨nd, rfl⟩⟩; (try first | exact ⟨rfl, _, World.drewN_drewN _ _ _⟩ | exact ⟨rfl, _, Eq.trans (World.drewN_drewN _ _ _) (congrArg (World.drewN _) (Nat.add_assoc _ _ _))⟩)))
    repeat (go_quiet (first | (go_at_call 42; (with_reducible refine (impl_in.calls (l0.length : Int) 1 24 false _ A2.out).mono ?_); rintro e w' ⟨rfl, ⟨nd, rfl⟩⟩; (try first | exact ⟨rfl, _, World.drewN_drewN _ _ _⟩ | exact ⟨rfl, _, Eq.trans (World.drewN_drewN _ _ _) (congrArg (World.drewN _) (Nat.add_assoc _ _ _))⟩))); try go_wp2_with (first | (go_at_call 42; (with_reducible refine (impl_in.calls (l0.length : Int) 1 24 false _ A2.out).mono ?_); rintro e w' ⟨rfl, ⟨nd, rfl⟩⟩; (try first | exact ⟨rfl, _, World.drewN_drewN _ _ _⟩ | exact ⟨rfl, _, Eq.trans (World.drewN_drewN _ _ _) (congrArg (World.drewN _) (Nat.add_assoc _ _ _))⟩))))
    go_ret
    exact ⟨by first | rfl | (simp [errW_none, errW_some] <;> rfl) | (simp [*, errW_none, errW_some] <;> rfl), by repeat (first | (with_reducible first | exact HB.out | apply below_alloc | apply pw_below_drewN | apply below_drew1) | exact HB.out)⟩

end Go.Proofs.Ytdhnbikjfckmaaa.PD2
