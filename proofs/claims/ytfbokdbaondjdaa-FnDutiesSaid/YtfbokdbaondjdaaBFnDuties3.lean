import Derived.Test.YtfbokdbaondjdaaBFnDuties2
-- printed for this claim out of the translation
namespace Go.Proofs.Ytfbokdbaondjdaa.PV1
open Go.RowKit Go.Proofs.YtfbokdbaondjdaaW.PrintWords Go.Proofs.YtfbokdbaondjdaaW.PrintLast Go.Proofs.YtfbokdbaondjdaaW.PrintMore Go.Proofs.Ytfbokdbaondjdaa.Cz
attribute [local go_sem] max2_int min2_int max_two min_two max_three min_three max_four min_four
set_option linter.unusedVariables false
set_option linter.unusedSimpArgs false

/-! ### impl_Duties: function 24 -/
mutual
def impl_Duties.l0 : Nat → List (S25) → List (S25) → Int → Int → Option ((List (List Int)) × Bool)
 | 0, _, _, _, _ => none
 | k + 1, x0, x14, x15, x16 => if x16 < x15 then (if 0 ≤ x16 then (if x16 < (x14.length : Int) then ((impl_ShipOk.f ((rd_T25 x14 x16).f0) ((rd_T25 x14 x16).f1) ((rd_T25 x14 x16).f2) ((rd_T25 x14 x16).f3) ((rd_T25 x14 x16).f4) ((rd_T25 x14 x16).f5)).bind fun t143 => (if t143 = true then (impl_Duties.l0 k x0 x14 x15 (wrap64 (x16 + 1))) else (some (([] : List (List Int)), false)))) else (none)) else (none)) else (if 0 ≤ (x0.length : Int) then (if ((x0.length : Int) : Int).toNat ≤ 11728124029610 then (impl_Duties.l1 k x0 (List.replicate ((x0.length : Int) : Int).toNat []) x0 (x0.length : Int) 0) else (none)) else (none))
def impl_Duties.l1 : Nat → List (S25) → List (List Int) → List (S25) → Int → Int → Option ((List (List Int)) × Bool)
 | 0, _, _, _, _, _ => none
 | k + 1, x0, x6, x27, x28, x29 => if x29 < x28 then (if 0 ≤ x29 then (if x29 < (x27.length : Int) then (if 0 ≤ (x0.length : Int) then (if ((x0.length : Int) : Int).toNat ≤ 35184372088832 then (if x29 < (x6.length : Int) then (impl_Duties.l2 k x0 (x6.set (x29 : Int).toNat (List.replicate ((x0.length : Int) : Int).toNat 0)) x29 x27 x28 x29 x0 (x0.length : Int) 0 ((rd_T25 x27 x29).f0) ((rd_T25 x27 x29).f1) ((rd_T25 x27 x29).f2) ((rd_T25 x27 x29).f3) ((rd_T25 x27 x29).f4) ((rd_T25 x27 x29).f5)) else (none)) else (none)) else (none)) else (none)) else (none)) else (some (x6, true))
def impl_Duties.l2 : Nat → List (S25) → List (List Int) → Int → List (S25) → Int → Int → List (S25) → Int → Int → Int → Int → Int → Int → Int → Int → Option ((List (List Int)) × Bool)
 | 0, _, _, _, _, _, _, _, _, _, _, _, _, _, _, _ => none
 | k + 1, x0, x6, x7, x27, x28, x29, x40, x41, x42, x149000, x149001, x149002, x149003, x149004, x149005 => if x42 < x41 then (if 0 ≤ x42 then (if x42 < (x40.length : Int) then (if x7 = x42 then (impl_Duties.l2 k x0 x6 x7 x27 x28 x29 x40 x41 (wrap64 (x42 + 1)) x149000 x149001 x149002 x149003 x149004 x149005) else (if 0 ≤ x7 then (if x7 < (x6.length : Int) then ((impl_Duty.f k x149000 x149001 x149002 x149003 x149004 x149005 ((rd_T25 x40 x42).f0) ((rd_T25 x40 x42).f1) ((rd_T25 x40 x42).f2) ((rd_T25 x40 x42).f3) ((rd_T25 x40 x42).f4) ((rd_T25 x40 x42).f5)).bind fun t156 => (if x42 < ((rd_L3 x6 x7).length : Int) then (impl_Duties.l2 k x0 (x6.set (x7 : Int).toNat ((rd_L3 x6 x7).set (x42 : Int).toNat t156)) x7 x27 x28 x29 x40 x41 (wrap64 (x42 + 1)) x149000 x149001 x149002 x149003 x149004 x149005) else (none))) else (none)) else (none))) else (none)) else (none)) else (impl_Duties.l1 k x0 x6 x27 x28 (wrap64 (x29 + 1)))
end
def impl_Duties.f (k : Nat) (l0 : List (S25)) : Option ((List (List Int)) × Bool) := if (l0.length : Int) > 20 then (some (([] : List (List Int)), false)) else (impl_Duties.l0 k l0 l0 (l0.length : Int) 0)
theorem impl_Duties.mono_l : ∀ k, (∀ y0 y1 y2 y3, LeO (impl_Duties.l0 k y0 y1 y2 y3) (impl_Duties.l0 (k + 1) y0 y1 y2 y3)) ∧ (∀ y0 y1 y2 y3 y4, LeO (impl_Duties.l1 k y0 y1 y2 y3 y4) (impl_Duties.l1 (k + 1) y0 y1 y2 y3 y4)) ∧ (∀ y0 y1 y2 y3 y4 y5 y6 y7 y8 y9 y10 y11 y12 y13 y14, LeO (impl_Duties.l2 k y0 y1 y2 y3 y4 y5 y6 y7 y8 y9 y10 y11 y12 y13 y14) (impl_Duties.l2 (k + 1) y0 y1 y2 y3 y4 y5 y6 y7 y8 y9 y10 y11 y12 y13 y14))
 | 0 => ⟨fun _ _ _ _ r h => by simp [impl_Duties.l0] at h, fun _ _ _ _ _ r h => by simp [impl_Duties.l1] at h, fun _ _ _ _ _ _ _ _ _ _ _ _ _ _ _ r h => by simp [impl_Duties.l2] at h⟩
 | k + 1 => by
  obtain ⟨ih0, ih1, ih2⟩ := impl_Duties.mono_l k
  refine ⟨?_, ?_, ?_⟩
  ·intro y0 y1 y2 y3
   unfold impl_Duties.l0
   repeat' first
   | (with_reducible exact ih0 _ _ _ _)
   | (with_reducible exact ih1 _ _ _ _ _)
   | (with_reducible exact ih2 _ _ _ _ _ _ _ _ _ _ _ _ _ _ _)
   | (with_reducible exact impl_Duty.mono _ _ _ _ _ _ _ _ _ _ _ _ _)
   | (with_reducible exact LeO.refl _)
   | (with_reducible exact LeO.none _)
   | (with_reducible refine LeO.ite ?_ ?_)
   | (with_reducible refine LeO.bind ?_ (fun _ => ?_))
   | exact ih0 _ _ _ _
   | exact ih1 _ _ _ _ _
   | exact ih2 _ _ _ _ _ _ _ _ _ _ _ _ _ _ _
   | exact impl_Duty.mono _ _ _ _ _ _ _ _ _ _ _ _ _
   | exact LeO.none _
   | refine LeO.ite ?_ ?_
   | refine LeO.bind ?_ (fun _ => ?_)
  ·intro y0 y1 y2 y3 y4
   unfold impl_Duties.l1
   repeat' first
   | (with_reducible exact ih0 _ _ _ _)
   | (with_reducible exact ih1 _ _ _ _ _)
   | (with_reducible exact ih2 _ _ _ _ _ _ _ _ _ _ _ _ _ _ _)
   | (with_reducible exact impl_Duty.mono _ _ _ _ _ _ _ _ _ _ _ _ _)
   | (with_reducible exact LeO.refl _)
   | (with_reducible exact LeO.none _)
   | (with_reducible refine LeO.ite ?_ ?_)
   | (with_reducible refine LeO.bind ?_ (fun _ => ?_))
   | exact ih0 _ _ _ _
   | exact ih1 _ _ _ _ _
   | exact ih2 _ _ _ _ _ _ _ _ _ _ _ _ _ _ _
   | exact impl_Duty.mono _ _ _ _ _ _ _ _ _ _ _ _ _
   | exact LeO.none _
   | refine LeO.ite ?_ ?_
   | refine LeO.bind ?_ (fun _ => ?_)
  ·intro y0 y1 y2 y3 y4 y5 y6 y7 y8 y9 y10 y11 y12 y13 y14
   unfold impl_Duties.l2
   repeat' first
   | (with_reducible exact ih0 _ _ _ _)
   | (with_reducible exact ih1 _ _ _ _ _)
   | (with_reducible exact ih2 _ _ _ _ _ _ _ _ _ _ _ _ _ _ _)
   | (with_reducible exact impl_Duty.mono _ _ _ _ _ _ _ _ _ _ _ _ _)
   | (with_reducible exact LeO.refl _)
   | (with_reducible exact LeO.none _)
   | (with_reducible refine LeO.ite ?_ ?_)
   | (with_reducible refine LeO.bind ?_ (fun _ => ?_))
   | exact ih0 _ _ _ _
   | exact ih1 _ _ _ _ _
   | exact ih2 _ _ _ _ _ _ _ _ _ _ _ _ _ _ _
   | exact impl_Duty.mono _ _ _ _ _ _ _ _ _ _ _ _ _
   | exact LeO.none _
   | refine LeO.ite ?_ ?_
   | refine LeO.bind ?_ (fun _ => ?_)
theorem impl_Duties.mono : ∀ a0 k, LeO (impl_Duties.f k a0) (impl_Duties.f (k + 1) a0) := by
 intro a0 k
 obtain ⟨ih0, ih1, ih2⟩ := impl_Duties.mono_l k
 unfold impl_Duties.f
 repeat' first
   | (with_reducible exact ih0 _ _ _ _)
   | (with_reducible exact ih1 _ _ _ _ _)
   | (with_reducible exact ih2 _ _ _ _ _ _ _ _ _ _ _ _ _ _ _)
   | (with_reducible exact impl_Duty.mono _ _ _ _ _ _ _ _ _ _ _ _ _)
   | (with_reducible exact LeO.refl _)
   | (with_reducible exact LeO.none _)
   | (with_reducible refine LeO.ite ?_ ?_)
   | (with_reducible refine LeO.bind ?_ (fun _ => ?_))
   | exact ih0 _ _ _ _
   | exact ih1 _ _ _ _ _
   | exact ih2 _ _ _ _ _ _ _ _ _ _ _ _ _ _ _
   | exact impl_Duty.mono _ _ _ _ _ _ _ _ _ _ _ _ _
   | exact LeO.none _
   | refine LeO.ite ?_ ?_
   | refine LeO.bind ?_ (fun _ => ?_)
def impl_Duties.T18 : Bool × List (List Nat × List Nat) := (true, [([], []), ([], []), ([0, 1], [0, 1]), ([2], [2]), ([], []), ([], []), ([], []), ([5, 6], [5, 6]), ([3, 4, 0, 1, 2, 3, 4, 5, 6, 7], [3, 4]), ([8, 7, 7, 0, 1, 2, 3, 4, 5, 6, 7], [7, 8])])
def impl_Duties.B18 : List Nat := [0, 0, 3, 7, 0, 0, 0, 96, 255, 511]
theorem impl_Duties.tab18 : rtab .any (opsOf Try.f24 18) = impl_Duties.T18 := by kernel_rfl
theorem impl_Duties.bits18 : waitsOk impl_Duties.T18.2 impl_Duties.B18 = true := by kernel_rfl
set_option maxHeartbeats 8000000 in
set_option maxRecDepth 100000 in
theorem impl_Duties.calls (k : Nat) (A0 : Option Addr) (c0 : Nat) (l0 : List (S25)) (r1 : List (List Int)) (r2 : Bool) (w : World) (hr0 : Kd.C k25 w A0 l0.length l0) (hc0 : l0.length ≤ c0) (h : impl_Duties.f k l0 = some (r1, r2)) :
  Calls Try.prog 24 #[.slice A0 l0.length c0] w fun e w' => ∃ v0_ : Value, e = .returned (.tuple #[v0_, .bool r2]) ∧ Kd.S (Kd.slice 3 (Kd.int .i64)) 43 w' w.heap.size (fun _ => True) v0_ r1 ∧ Below w.heap.size w w' := by
 have hu25 := Try.underlying25
 have HR0 := Aside0.mk hr0
 have HC0 := Aside0.mk hc0
 clear hr0 hc0
 have HB := Aside0.mk (Below.refl w.heap.size w)
 have H : (if (l0.length : Int) > 20 then (some (([] : List (List Int)), false)) else (impl_Duties.l0 k l0 l0 (l0.length : Int) 0)) = some (r1, r2) := h
 clear h
 by_cases c2 : (l0.length : Int) > 20
 ·rw [if_pos c2] at H
  have c2b0 : decide (20 < (l0.length : Int)) = true := decide_eq_true c2
  (try simp only [hl6_3] at c2b0)
  have c2b1 : decide (20 < l0.length) = true := decide_eq_true (by omega)
  (try simp only [hl6_3] at c2b1)
  clear c2
  simp only [Option.some.injEq, Prod.mk.injEq] at H
  obtain ⟨rfl, rfl⟩ := H
  go_enter Try.func24, Try.ntmps24
  go_wp2
  go_ret2
  exact ⟨_, by first | rfl | (simp [errW_none, errW_some] <;> rfl) | (simp [*, errW_none, errW_some] <;> rfl), by first | exact Kd.S_nil _ _ _ _ _ | exact Kd.N_nil _ _ _ _ _ | exact Kd.V_nil _ _ _ _ _ | exact Kd.Q_nil _ _ _ _ _ | exact Kd.R_nil _ _ _ _ _, by repeat (first | (with_reducible first | exact HB.out | apply below_alloc | apply pw_below_drewN | apply below_drew1) | exact HB.out)⟩
 ·rw [if_neg c2] at H
  have c2b0 : decide (20 < (l0.length : Int)) = false := decide_eq_false c2
  (try simp only [hl6_3] at c2b0)
  have c2b1 : decide (20 < l0.length) = false := decide_eq_false (by omega)
  (try simp only [hl6_3] at c2b1)
  clear c2
  have H' := Aside0.mk H
  clear H
  go_enter Try.func24, Try.ntmps24
  go_wp2
  go_loopg [16] k (fun kq v16 w' => ∃ (x16_1 : Int), v16 = .int .i64 x16_1 ∧ Aside0 (impl_Duties.l0 kq l0 l0 (l0.length : Int) x16_1 = some (r1, r2)) ∧ Aside0 (kq ≤ k) ∧ Aside0 (Below w.heap.size w w'))
  case atStart => exact ⟨(0), (by first | rfl | (simp; done) | (simp [*]; done)), H', ⟨Nat.le_refl _⟩, ⟨by repeat (first | (with_reducible first | exact HB.out | apply below_alloc | apply pw_below_drewN | apply below_drew1) | exact HB.out)⟩⟩
  case round =>
   clear H'
   (try clear c2); (try clear c2b0); (try clear c2b1); (try clear p2)
   obtain ⟨x16_1, rfl, HA, HK1, HB⟩ := hrel
   cases gk with
   | zero => exact absurd HA.out (by simp [impl_Duties.l0])
   | succ k1 =>
    have H := HA.out
    clear HA
    simp only [impl_Duties.l0] at H
    by_cases c3 : x16_1 < (l0.length : Int)
    ·rw [if_pos c3] at H
     have c3b0 : decide (x16_1 < (l0.length : Int)) = true := decide_eq_true c3
     (try simp only [hl6_3] at c3b0)
     clear c3
     by_cases c4 : 0 ≤ x16_1
     ·rw [if_pos c4] at H
      have c4b0 : decide (0 ≤ x16_1) = true := decide_eq_true c4
      clear c4
      by_cases c5 : x16_1 < (l0.length : Int)
      ·rw [if_pos c5] at H
       have c5b0 : decide (x16_1 < (l0.length : Int)) = true := decide_eq_true c5
       (try simp only [hl6_3] at c5b0)
       clear c5
       replace H := Option.bind_eq_some_iff.mp H
       obtain ⟨t143, A60, H⟩ := H
       replace H : (if t143 = true then (impl_Duties.l0 k1 l0 l0 (l0.length : Int) (wrap64 (x16_1 + 1))) else (some (([] : List (List Int)), false))) = some (r1, r2) := H
       have A6 := Aside0.mk A60
       clear A60
       by_cases c7 : t143 = true
       ·subst c7
        have H1 : (impl_Duties.l0 k1 l0 l0 (l0.length : Int) (wrap64 (x16_1 + 1))) = some (r1, r2) := by rw [if_pos rfl] at H; exact H
        clear H
        have H := H1
        clear H1
        have H' := Aside0.mk H
        clear H
        have p141 : 0 ≤ (x16_1 : Int) := of_decide_eq_true (by first | (with_reducible assumption) | assumption)
        have q141 : x16_1 < (l0.length : Int) := of_decide_eq_true (by first | (with_reducible assumption) | assumption)
        obtain ⟨ad141, e141, hx141_0, hx141_1, hx141_2, hx141_3, hx141_4, hx141_5⟩ := at_T25 HR0.out x16_1 p141 q141
        cases e141
        replace hx141_0 := (HB.out.cell (World.block_lt_of_cell? w _ hx141_0)).trans hx141_0
        replace hx141_1 := (HB.out.cell (World.block_lt_of_cell? w _ hx141_1)).trans hx141_1
        replace hx141_2 := (HB.out.cell (World.block_lt_of_cell? w _ hx141_2)).trans hx141_2
        replace hx141_3 := (HB.out.cell (World.block_lt_of_cell? w _ hx141_3)).trans hx141_3
        replace hx141_4 := (HB.out.cell (World.block_lt_of_cell? w _ hx141_4)).trans hx141_4
        replace hx141_5 := (HB.out.cell (World.block_lt_of_cell? w _ hx141_5)).trans hx141_5
        replace p141 := eq_true p141
        replace q141 := eq_true q141
        go_wp2_with (first | ((with_reducible refine gate_dst (N := 5) rfl ?_); refine box_event ?hg (N := 5) ?hd (cs := #[.int .i64 0, .int .i64 0, .int .i64 0, .int .i64 0, .int .i64 0, .int .i64 0]) (t := 25) ?hr ?_; (case hd => rfl); (case hg => rfl); (case hr => first | (go_simp; done) | (go_simp; rfl)); intro gb142 hg w8 hbox hb; replace BK142 := Aside0.mk (hbox); replace GW142 := Aside0.mk ((by rw [hg]; exact (below_size (ub HB)) : w.heap.size ≤ gb142)); replace GE142 := Aside0.mk ((by rw [hg]; exact (below_size (ub HB)) : w.heap.size ≤ gb142)); replace HB := Aside0.mk (below_step (ub HB) hb); clear hb hbox hg; obtain ⟨hcz9_0, hcz9_1, hcz9_2, hcz9_3, hcz9_4, hcz9_5, hfz9_0, hfz9_1, hfz9_2, hfz9_3, hfz9_4, hfz9_5⟩ := six BK142) | ((with_reducible refine gate_callee (f := 17) rfl ?_); refine goesL_ (some 21) rfl rfl Try.func17 (by kernel_rfl) rfl #[.agg #[.int .i64 ((rd_T25 l0 x16_1).f0), .int .i64 ((rd_T25 l0 x16_1).f1), .int .i64 ((rd_T25 l0 x16_1).f2), .int .i64 ((rd_T25 l0 x16_1).f3), .int .i64 ((rd_T25 l0 x16_1).f4), .int .i64 ((rd_T25 l0 x16_1).f5)]] rfl (by (try simp only [List.map_toArray, List.map_cons, List.map_nil]); first | done | rfl) ?_; (with_reducible refine (impl_ShipOk.calls ((rd_T25 l0 x16_1).f0) ((rd_T25 l0 x16_1).f1) ((rd_T25 l0 x16_1).f2) ((rd_T25 l0 x16_1).f3) ((rd_T25 l0 x16_1).f4) ((rd_T25 l0 x16_1).f5) true _ A6.out).mono ?_); rintro e w10 ⟨rfl, hb⟩; refine ⟨_, rfl, ?_⟩; replace BK142 := Aside0.mk (blk_below (g := gb142) (o := .cells #[.int .i64 ((rd_T25 l0 x16_1).f0), .int .i64 ((rd_T25 l0 x16_1).f1), .int .i64 ((rd_T25 l0 x16_1).f2), .int .i64 ((rd_T25 l0 x16_1).f3), .int .i64 ((rd_T25 l0 x16_1).f4), .int .i64 ((rd_T25 l0 x16_1).f5)] 25 (0, 0)) (by (with_reducible repeat (first | refine blk_drewN ?_ _ | refine blk_drew ?_ | refine blk_alloc ?_ _)); refine blk_put (cs := #[.int .i64 ((rd_T25 l0 x16_1).f0), .int .i64 ((rd_T25 l0 x16_1).f1), .int .i64 ((rd_T25 l0 x16_1).f2), .int .i64 ((rd_T25 l0 x16_1).f3), .int .i64 ((rd_T25 l0 x16_1).f4), .int .i64 0]) ?_ 5 _ rfl; (with_reducible repeat (first | refine blk_drewN ?_ _ | refine blk_drew ?_ | refine blk_alloc ?_ _)); refine blk_put (cs := #[.int .i64 ((rd_T25 l0 x16_1).f0), .int .i64 ((rd_T25 l0 x16_1).f1), .int .i64 ((rd_T25 l0 x16_1).f2), .int .i64 ((rd_T25 l0 x16_1).f3), .int .i64 0, .int .i64 0]) ?_ 4 _ rfl; (with_reducible repeat (first | refine blk_drewN ?_ _ | refine blk_drew ?_ | refine blk_alloc ?_ _)); refine blk_put (cs := #[.int .i64 ((rd_T25 l0 x16_1).f0), .int .i64 ((rd_T25 l0 x16_1).f1), .int .i64 ((rd_T25 l0 x16_1).f2), .int .i64 0, .int .i64 0, .int .i64 0]) ?_ 3 _ rfl; (with_reducible repeat (first | refine blk_drewN ?_ _ | refine blk_drew ?_ | refine blk_alloc ?_ _)); refine blk_put (cs := #[.int .i64 ((rd_T25 l0 x16_1).f0), .int .i64 ((rd_T25 l0 x16_1).f1), .int .i64 0, .int .i64 0, .int .i64 0, .int .i64 0]) ?_ 2 _ rfl; (with_reducible repeat (first | refine blk_drewN ?_ _ | refine blk_drew ?_ | refine blk_alloc ?_ _)); refine blk_put (cs := #[.int .i64 ((rd_T25 l0 x16_1).f0), .int .i64 0, .int .i64 0, .int .i64 0, .int .i64 0, .int .i64 0]) ?_ 1 _ rfl; (with_reducible repeat (first | refine blk_drewN ?_ _ | refine blk_drew ?_ | refine blk_alloc ?_ _)); refine blk_put (cs := #[.int .i64 0, .int .i64 0, .int .i64 0, .int .i64 0, .int .i64 0, .int .i64 0]) ?_ 0 _ rfl; (with_reducible repeat (first | refine blk_drewN ?_ _ | refine blk_drew ?_ | refine blk_alloc ?_ _)); exact BK142.out) hb); replace HB := Aside0.mk (below_step (by repeat (first | (with_reducible first | exact HB.out | apply below_alloc | apply pw_below_drewN | apply below_drew1 | refine below_set ?_ GE142.out) | exact HB.out)) hb); (try clear hb); (try clear hb2); (try clear hk); (try clear hi)))
        go_roundg k1
        case measure => have := HK1.out; omega
        case rel => exact ⟨(wrap64 (x16_1 + 1)), (by first | rfl | (simp; done) | (simp [*]; done)), H', ⟨by have := HK1.out; omega⟩, ⟨by repeat (first | (with_reducible first | exact HB.out | apply below_alloc | apply pw_below_drewN | apply below_drew1 | refine below_set ?_ GE142.out) | exact HB.out)⟩⟩
       ·replace c7 := Bool.eq_false_iff.mpr c7
        subst c7
        have H1 : (some (([] : List (List Int)), false)) = some (r1, r2) := by rw [if_neg (show ¬ (false = true) by decide)] at H; exact H
        clear H
        have H := H1
        clear H1
        simp only [Option.some.injEq, Prod.mk.injEq] at H
        obtain ⟨rfl, rfl⟩ := H
        have p141 : 0 ≤ (x16_1 : Int) := of_decide_eq_true (by first | (with_reducible assumption) | assumption)
        have q141 : x16_1 < (l0.length : Int) := of_decide_eq_true (by first | (with_reducible assumption) | assumption)
        obtain ⟨ad141, e141, hx141_0, hx141_1, hx141_2, hx141_3, hx141_4, hx141_5⟩ := at_T25 HR0.out x16_1 p141 q141
        cases e141
        replace hx141_0 := (HB.out.cell (World.block_lt_of_cell? w _ hx141_0)).trans hx141_0
        replace hx141_1 := (HB.out.cell (World.block_lt_of_cell? w _ hx141_1)).trans hx141_1
        replace hx141_2 := (HB.out.cell (World.block_lt_of_cell? w _ hx141_2)).trans hx141_2
        replace hx141_3 := (HB.out.cell (World.block_lt_of_cell? w _ hx141_3)).trans hx141_3
        replace hx141_4 := (HB.out.cell (World.block_lt_of_cell? w _ hx141_4)).trans hx141_4
        replace hx141_5 := (HB.out.cell (World.block_lt_of_cell? w _ hx141_5)).trans hx141_5
        replace p141 := eq_true p141
        replace q141 := eq_true q141
        go_wp2_with (first | ((with_reducible refine gate_dst (N := 5) rfl ?_); refine box_event ?hg (N := 5) ?hd (cs := #[.int .i64 0, .int .i64 0, .int .i64 0, .int .i64 0, .int .i64 0, .int .i64 0]) (t := 25) ?hr ?_; (case hd => rfl); (case hg => rfl); (case hr => first | (go_simp; done) | (go_simp; rfl)); intro gb142 hg w11 hbox hb; replace BK142 := Aside0.mk (hbox); replace GW142 := Aside0.mk ((by rw [hg]; exact (below_size (ub HB)) : w.heap.size ≤ gb142)); replace GE142 := Aside0.mk ((by rw [hg]; exact (below_size (ub HB)) : w.heap.size ≤ gb142)); replace HB := Aside0.mk (below_step (ub HB) hb); clear hb hbox hg; obtain ⟨hcz12_0, hcz12_1, hcz12_2, hcz12_3, hcz12_4, hcz12_5, hfz12_0, hfz12_1, hfz12_2, hfz12_3, hfz12_4, hfz12_5⟩ := six BK142) | ((with_reducible refine gate_callee (f := 17) rfl ?_); refine goesL_ (some 21) rfl rfl Try.func17 (by kernel_rfl) rfl #[.agg #[.int .i64 ((rd_T25 l0 x16_1).f0), .int .i64 ((rd_T25 l0 x16_1).f1), .int .i64 ((rd_T25 l0 x16_1).f2), .int .i64 ((rd_T25 l0 x16_1).f3), .int .i64 ((rd_T25 l0 x16_1).f4), .int .i64 ((rd_T25 l0 x16_1).f5)]] rfl (by (try simp only [List.map_toArray, List.map_cons, List.map_nil]); first | done | rfl) ?_; (with_reducible refine (impl_ShipOk.calls ((rd_T25 l0 x16_1).f0) ((rd_T25 l0 x16_1).f1) ((rd_T25 l0 x16_1).f2) ((rd_T25 l0 x16_1).f3) ((rd_T25 l0 x16_1).f4) ((rd_T25 l0 x16_1).f5) false _ A6.out).mono ?_); rintro e w13 ⟨rfl, hb⟩; refine ⟨_, rfl, ?_⟩; replace BK142 := Aside0.mk (blk_below (g := gb142) (o := .cells #[.int .i64 ((rd_T25 l0 x16_1).f0), .int .i64 ((rd_T25 l0 x16_1).f1), .int .i64 ((rd_T25 l0 x16_1).f2), .int .i64 ((rd_T25 l0 x16_1).f3), .int .i64 ((rd_T25 l0 x16_1).f4), .int .i64 ((rd_T25 l0 x16_1).f5)] 25 (0, 0)) (by (with_reducible repeat (first | refine blk_drewN ?_ _ | refine blk_drew ?_ | refine blk_alloc ?_ _)); refine blk_put (cs := #[.int .i64 ((rd_T25 l0 x16_1).f0), .int .i64 ((rd_T25 l0 x16_1).f1), .int .i64 ((rd_T25 l0 x16_1).f2), .int .i64 ((rd_T25 l0 x16_1).f3), .int .i64 ((rd_T25 l0 x16_1).f4), .int .i64 0]) ?_ 5 _ rfl; (with_reducible repeat (first | refine blk_drewN ?_ _ | refine blk_drew ?_ | refine blk_alloc ?_ _)); refine blk_put (cs := #[.int .i64 ((rd_T25 l0 x16_1).f0), .int .i64 ((rd_T25 l0 x16_1).f1), .int .i64 ((rd_T25 l0 x16_1).f2), .int .i64 ((rd_T25 l0 x16_1).f3), .int .i64 0, .int .i64 0]) ?_ 4 _ rfl; (with_reducible repeat (first | refine blk_drewN ?_ _ | refine blk_drew ?_ | refine blk_alloc ?_ _)); refine blk_put (cs := #[.int .i64 ((rd_T25 l0 x16_1).f0), .int .i64 ((rd_T25 l0 x16_1).f1), .int .i64 ((rd_T25 l0 x16_1).f2), .int .i64 0, .int .i64 0, .int .i64 0]) ?_ 3 _ rfl; (with_reducible repeat (first | refine blk_drewN ?_ _ | refine blk_drew ?_ | refine blk_alloc ?_ _)); refine blk_put (cs := #[.int .i64 ((rd_T25 l0 x16_1).f0), .int .i64 ((rd_T25 l0 x16_1).f1), .int .i64 0, .int .i64 0, .int .i64 0, .int .i64 0]) ?_ 2 _ rfl; (with_reducible repeat (first | refine blk_drewN ?_ _ | refine blk_drew ?_ | refine blk_alloc ?_ _)); refine blk_put (cs := #[.int .i64 ((rd_T25 l0 x16_1).f0), .int .i64 0, .int .i64 0, .int .i64 0, .int .i64 0, .int .i64 0]) ?_ 1 _ rfl; (with_reducible repeat (first | refine blk_drewN ?_ _ | refine blk_drew ?_ | refine blk_alloc ?_ _)); refine blk_put (cs := #[.int .i64 0, .int .i64 0, .int .i64 0, .int .i64 0, .int .i64 0, .int .i64 0]) ?_ 0 _ rfl; (with_reducible repeat (first | refine blk_drewN ?_ _ | refine blk_drew ?_ | refine blk_alloc ?_ _)); exact BK142.out) hb); replace HB := Aside0.mk (below_step (by repeat (first | (with_reducible first | exact HB.out | apply below_alloc | apply pw_below_drewN | apply below_drew1 | refine below_set ?_ GE142.out) | exact HB.out)) hb); (try clear hb); (try clear hb2); (try clear hk); (try clear hi)))
        go_ret2
        exact ⟨_, by first | rfl | (simp [errW_none, errW_some] <;> rfl) | (simp [*, errW_none, errW_some] <;> rfl), by first | exact Kd.S_nil _ _ _ _ _ | exact Kd.N_nil _ _ _ _ _ | exact Kd.V_nil _ _ _ _ _ | exact Kd.Q_nil _ _ _ _ _ | exact Kd.R_nil _ _ _ _ _, by repeat (first | (with_reducible first | exact HB.out | apply below_alloc | apply pw_below_drewN | apply below_drew1 | refine below_set ?_ GE142.out) | exact HB.out)⟩
      ·rw [if_neg c5] at H
       exact absurd H (by simp)
     ·rw [if_neg c4] at H
      exact absurd H (by simp)
    ·rw [if_neg c3] at H
     have c3b0 : decide (x16_1 < (l0.length : Int)) = false := decide_eq_false c3
     (try simp only [hl6_3] at c3b0)
     clear c3
     by_cases c14 : 0 ≤ (l0.length : Int)
     ·rw [if_pos c14] at H
      have c14b0 := eq_true c14
      have c14b1 : decide (0 ≤ (l0.length : Int)) = true := decide_eq_true c14
      (try simp only [hl6_3] at c14b1)
      clear c14
      by_cases c15 : ((l0.length : Int) : Int).toNat ≤ 11728124029610
      ·rw [if_pos c15] at H
       have c15b0 := eq_true c15
       have c15b1 : decide (((l0.length : Int) : Int).toNat ≤ 11728124029610) = true := decide_eq_true c15
       (try simp only [hl6_3] at c15b1)
       clear c15
       obtain ⟨y144, hy144⟩ : ∃ y_ : List (List Int), y_ = (List.replicate ((l0.length : Int) : Int).toNat []) := ⟨_, rfl⟩
       replace H : (impl_Duties.l1 k1 l0 y144 l0 (l0.length : Int) 0) = some (r1, r2) := by first | (rw [hy144]; with_reducible exact H) | (have H2_ := (Option.bind_some _ _).symm.trans H; rw [hy144]; with_reducible exact H2_) | (have H2_ := (Option.bind_some _ _).symm.trans H; with_reducible exact H2_) | with_reducible exact H | (rw [hy144]; exact H) | exact H
       have Ny144 := Aside0.mk hy144
       clear hy144
       have H' := Aside0.mk H
       clear H
       go_wp2_with (first | ((with_reducible refine gate_dst (N := 26) rfl ?_); refine Kd.S_make (Kd.slice 3 (Kd.int .i64)) _ 43 rfl (N := 26) rfl 39 _ _ rfl (l0.length : Int) rfl rfl Try.underlying39 (.slice none 0 0) 24 info43 rfl (by decide) (by omega) [] (ok := fun _ => True) (okp := fun _ => True) ⟨_, rfl, Kd.R_nil _ _ _ _ _⟩ (fun _ hk => hk) trivial (of_decide_eq_true (by first | (with_reducible assumption) | assumption)) (Nat.le_trans (Nat.mul_le_mul_right _ (of_decide_eq_true (by first | (with_reducible assumption) | assumption) : (l0.length : Int).toNat ≤ 11728124029610)) (by omega)) (Below.refl _ _) (Nat.le_refl _) ?_; intro v145 w16 ho17 hb hg_ hnew_; clear hg_ hnew_; (first | rw [← Ny144.out] at ho17 | (simp only [Int.reduceToNat] at ho17; rw [← Ny144.out] at ho17)); replace HO146 := Aside0.mk (Kd.S_lower ho17 (below_size (ub HB))); replace HB := Aside0.mk (below_step (ub HB) hb); clear hb ho17))
       go_loopg [29] k1 (fun kq v29 w' => ∃ (x6_2 : List (List Int)) (x29_2 : Int), v29 = .int .i64 x29_2 ∧ Aside0 (impl_Duties.l1 kq l0 x6_2 l0 (l0.length : Int) x29_2 = some (r1, r2)) ∧ Aside0 (kq ≤ k1) ∧ Aside0 (Kd.S (Kd.slice 3 (Kd.int .i64)) 43 w' w.heap.size (fun _ => True) v145 x6_2) ∧ Aside0 (Below w.heap.size w w'))
       case atStart => exact ⟨(y144), (0), (by first | rfl | (simp; done) | (simp [*]; done)), H', ⟨Nat.le_refl _⟩, ⟨by (with_reducible repeat (first | apply Kd.S_alloc | apply Kd.S_drewN | apply Kd.S_drew)); exact HO146.out⟩, ⟨by repeat (first | (with_reducible first | exact HB.out | apply below_alloc | apply pw_below_drewN | apply below_drew1) | exact HB.out)⟩⟩
       case round =>
        clear H'
        (try clear c1); (try clear p1); (try clear q1); (try clear hx1); (try clear c2); (try clear c2b0); (try clear c2b1); (try clear p2); (try clear c3); (try clear c3b0); (try clear c4); (try clear c4b0); (try clear c5); (try clear c5b0); (try clear p6); (try clear c7); (try clear c14); (try clear c14b0); (try clear c14b1); (try clear p14); (try clear q14); (try clear hx14); (try clear c15); (try clear c15b0); (try clear c15b1); (try clear c17); (try clear hcz12_0); (try clear hcz12_1); (try clear hcz12_2); (try clear hcz12_3); (try clear hcz12_4); (try clear hcz12_5); (try clear hcz9_0); (try clear hcz9_1); (try clear hcz9_2); (try clear hcz9_3); (try clear hcz9_4); (try clear hcz9_5); (try clear hfz12_0); (try clear hfz12_1); (try clear hfz12_2); (try clear hfz12_3); (try clear hfz12_4); (try clear hfz12_5); (try clear hfz9_0); (try clear hfz9_1); (try clear hfz9_2); (try clear hfz9_3); (try clear hfz9_4); (try clear hfz9_5); (try clear hx141_0); (try clear hx141_1); (try clear hx141_2); (try clear hx141_3); (try clear hx141_4); (try clear hx141_5); (try clear p141); (try clear p2); (try clear q141)
        obtain ⟨x6_2, x29_2, rfl, HA, HK2, HO_6, HB⟩ := hrel
        cases gk with
        | zero => exact absurd HA.out (by simp [impl_Duties.l1])
        | succ k2 =>
         have H := HA.out
         clear HA
         simp only [impl_Duties.l1] at H
         by_cases c18 : x29_2 < (l0.length : Int)
         ·rw [if_pos c18] at H
          have c18b0 : decide (x29_2 < (l0.length : Int)) = true := decide_eq_true c18
          (try simp only [hl6_3] at c18b0)
          clear c18
          by_cases c19 : 0 ≤ x29_2
          ·rw [if_pos c19] at H
           have c19b0 : decide (0 ≤ x29_2) = true := decide_eq_true c19
           clear c19
           by_cases c20 : x29_2 < (l0.length : Int)
           ·rw [if_pos c20] at H
            have c20b0 : decide (x29_2 < (l0.length : Int)) = true := decide_eq_true c20
            (try simp only [hl6_3] at c20b0)
            clear c20
            by_cases c21 : 0 ≤ (l0.length : Int)
            ·rw [if_pos c21] at H
             have c21b0 := eq_true c21
             have c21b1 : decide (0 ≤ (l0.length : Int)) = true := decide_eq_true c21
             (try simp only [hl6_3] at c21b1)
             clear c21
             by_cases c22 : ((l0.length : Int) : Int).toNat ≤ 35184372088832
             ·rw [if_pos c22] at H
              have c22b0 := eq_true c22
              have c22b1 : decide (((l0.length : Int) : Int).toNat ≤ 35184372088832) = true := decide_eq_true c22
              (try simp only [hl6_3] at c22b1)
              clear c22
              obtain ⟨y149, hy149⟩ : ∃ y_ : List Int, y_ = (List.replicate ((l0.length : Int) : Int).toNat 0) := ⟨_, rfl⟩
              replace H : (if x29_2 < (x6_2.length : Int) then (impl_Duties.l2 k2 l0 (x6_2.set (x29_2 : Int).toNat y149) x29_2 l0 (l0.length : Int) x29_2 l0 (l0.length : Int) 0 ((rd_T25 l0 x29_2).f0) ((rd_T25 l0 x29_2).f1) ((rd_T25 l0 x29_2).f2) ((rd_T25 l0 x29_2).f3) ((rd_T25 l0 x29_2).f4) ((rd_T25 l0 x29_2).f5)) else (none)) = some (r1, r2) := by first | (rw [hy149]; with_reducible exact H) | (have H2_ := (Option.bind_some _ _).symm.trans H; rw [hy149]; with_reducible exact H2_) | (have H2_ := (Option.bind_some _ _).symm.trans H; with_reducible exact H2_) | with_reducible exact H | (rw [hy149]; exact H) | exact H
              have Ny149 := Aside0.mk hy149
              clear hy149
              by_cases c23 : x29_2 < (x6_2.length : Int)
              ·rw [if_pos c23] at H
               have c23b0 : decide (x29_2 < (x6_2.length : Int)) = true := decide_eq_true c23
               (try simp only [hl6_3] at c23b0)
               clear c23
               obtain ⟨y152, hy152⟩ : ∃ y_ : List (List Int), y_ = (x6_2.set (x29_2 : Int).toNat y149) := ⟨_, rfl⟩
               replace H : (impl_Duties.l2 k2 l0 y152 x29_2 l0 (l0.length : Int) x29_2 l0 (l0.length : Int) 0 ((rd_T25 l0 x29_2).f0) ((rd_T25 l0 x29_2).f1) ((rd_T25 l0 x29_2).f2) ((rd_T25 l0 x29_2).f3) ((rd_T25 l0 x29_2).f4) ((rd_T25 l0 x29_2).f5)) = some (r1, r2) := by first | (rw [hy152]; with_reducible exact H) | (have H2_ := (Option.bind_some _ _).symm.trans H; rw [hy152]; with_reducible exact H2_) | (have H2_ := (Option.bind_some _ _).symm.trans H; with_reducible exact H2_) | with_reducible exact H | (rw [hy152]; exact H) | exact H
               have Ny152 := Aside0.mk hy152
               clear hy152
               have H' := Aside0.mk H
               clear H
               have p147 : 0 ≤ (x29_2 : Int) := of_decide_eq_true (by first | (with_reducible assumption) | assumption)
               have q147 : x29_2 < (l0.length : Int) := of_decide_eq_true (by first | (with_reducible assumption) | assumption)
               obtain ⟨ad147, e147, hx147_0, hx147_1, hx147_2, hx147_3, hx147_4, hx147_5⟩ := at_T25 HR0.out x29_2 p147 q147
               cases e147
               replace hx147_0 := (HB.out.cell (World.block_lt_of_cell? w _ hx147_0)).trans hx147_0
               replace hx147_1 := (HB.out.cell (World.block_lt_of_cell? w _ hx147_1)).trans hx147_1
               replace hx147_2 := (HB.out.cell (World.block_lt_of_cell? w _ hx147_2)).trans hx147_2
               replace hx147_3 := (HB.out.cell (World.block_lt_of_cell? w _ hx147_3)).trans hx147_3
               replace hx147_4 := (HB.out.cell (World.block_lt_of_cell? w _ hx147_4)).trans hx147_4
               replace hx147_5 := (HB.out.cell (World.block_lt_of_cell? w _ hx147_5)).trans hx147_5
               replace p147 := eq_true p147
               replace q147 := eq_true q147
               go_wp2_with (first | ((with_reducible refine gate_dst (N := 8) rfl ?_); refine box_event ?hg (N := 8) ?hd (cs := #[.int .i64 0, .int .i64 0, .int .i64 0, .int .i64 0, .int .i64 0, .int .i64 0]) (t := 25) ?hr ?_; (case hd => rfl); (case hg => rfl); (case hr => first | (go_simp; done) | (go_simp; rfl)); intro gb148 hg w25 hbox hb; replace HO_6 := Aside0.mk (Kd.S_below (by (with_reducible repeat (first | apply Kd.S_alloc | apply Kd.S_drewN | apply Kd.S_drew)); exact HO_6.out) hb); replace BK148 := Aside0.mk (hbox); replace GW148 := Aside0.mk ((by rw [hg]; exact (below_size (ub HB)) : w.heap.size ≤ gb148)); replace GE148 := Aside0.mk ((by rw [hg]; exact (below_size (ub HB)) : w.heap.size ≤ gb148)); replace HB := Aside0.mk (below_step (ub HB) hb); clear hb hbox hg; obtain ⟨hcz26_0, hcz26_1, hcz26_2, hcz26_3, hcz26_4, hcz26_5, hfz26_0, hfz26_1, hfz26_2, hfz26_3, hfz26_4, hfz26_5⟩ := six BK148) | ((with_reducible refine gate_dst (N := 38) rfl ?_); refine Kd.R_make (Kd.int .i64) _ 3 rfl (N := 38) rfl 43 _ _ rfl (l0.length : Int) rfl rfl Try.underlying43 (.int .i64 0) 8 info3 rfl (by decide) (by omega) 0 (ok := fun _ => True) (okp := fun _ => True) rfl (fun _ hk => hk) trivial (of_decide_eq_true (by first | (with_reducible assumption) | assumption)) (Nat.le_trans (Nat.mul_le_mul_right _ (of_decide_eq_true (by first | (with_reducible assumption) | assumption) : (l0.length : Int).toNat ≤ 35184372088832)) (by omega)) (Below.refl _ _) (Nat.le_refl _) ?_; intro v150 w27 ho28 hb hg_ hnew_; (try have HZ_v150 := Aside0.mk (Kd.R_slice ho28)); clear hg_ hnew_; (first | rw [← Ny149.out] at ho28 | (simp only [Int.reduceToNat] at ho28; rw [← Ny149.out] at ho28)); replace HO_6 := Aside0.mk (Kd.S_elder' (by (with_reducible repeat (first | apply Kd.S_alloc | apply Kd.S_drewN | apply Kd.S_drew)); exact (Kd.S_mono (Kd.S_far (p := ⟨gb148, 5, none⟩) (Kd.S_far (p := ⟨gb148, 4, none⟩) (Kd.S_far (p := ⟨gb148, 3, none⟩) (Kd.S_far (p := ⟨gb148, 2, none⟩) (Kd.S_far (p := ⟨gb148, 1, none⟩) (Kd.S_far (p := ⟨gb148, 0, none⟩) (Kd.S_types HO_6.out BK148.out (by decide)) (fun _ hk => hk.2) (.int .i64 ((rd_T25 l0 x29_2).f0))) (fun _ hk => hk.2) (.int .i64 ((rd_T25 l0 x29_2).f1))) (fun _ hk => hk.2) (.int .i64 ((rd_T25 l0 x29_2).f2))) (fun _ hk => hk.2) (.int .i64 ((rd_T25 l0 x29_2).f3))) (fun _ hk => hk.2) (.int .i64 ((rd_T25 l0 x29_2).f4))) (fun _ hk => hk.2) (.int .i64 ((rd_T25 l0 x29_2).f5))) (fun _ h_ => h_.1))) (Kd.R_base ho28) hb); replace HO151 := Aside0.mk (Kd.R_lower ho28 (below_size (by repeat (first | (with_reducible first | exact HB.out | apply below_alloc | apply pw_below_drewN | apply below_drew1 | refine below_set ?_ GE148.out) | exact HB.out)))); replace BK148 := Aside0.mk (blk_below (g := gb148) (o := .cells #[.int .i64 ((rd_T25 l0 x29_2).f0), .int .i64 ((rd_T25 l0 x29_2).f1), .int .i64 ((rd_T25 l0 x29_2).f2), .int .i64 ((rd_T25 l0 x29_2).f3), .int .i64 ((rd_T25 l0 x29_2).f4), .int .i64 ((rd_T25 l0 x29_2).f5)] 25 (0, 0)) (by (with_reducible repeat (first | refine blk_drewN ?_ _ | refine blk_drew ?_ | refine blk_alloc ?_ _)); refine blk_put (cs := #[.int .i64 ((rd_T25 l0 x29_2).f0), .int .i64 ((rd_T25 l0 x29_2).f1), .int .i64 ((rd_T25 l0 x29_2).f2), .int .i64 ((rd_T25 l0 x29_2).f3), .int .i64 ((rd_T25 l0 x29_2).f4), .int .i64 0]) ?_ 5 _ rfl; (with_reducible repeat (first | refine blk_drewN ?_ _ | refine blk_drew ?_ | refine blk_alloc ?_ _)); refine blk_put (cs := #[.int .i64 ((rd_T25 l0 x29_2).f0), .int .i64 ((rd_T25 l0 x29_2).f1), .int .i64 ((rd_T25 l0 x29_2).f2), .int .i64 ((rd_T25 l0 x29_2).f3), .int .i64 0, .int .i64 0]) ?_ 4 _ rfl; (with_reducible repeat (first | refine blk_drewN ?_ _ | refine blk_drew ?_ | refine blk_alloc ?_ _)); refine blk_put (cs := #[.int .i64 ((rd_T25 l0 x29_2).f0), .int .i64 ((rd_T25 l0 x29_2).f1), .int .i64 ((rd_T25 l0 x29_2).f2), .int .i64 0, .int .i64 0, .int .i64 0]) ?_ 3 _ rfl; (with_reducible repeat (first | refine blk_drewN ?_ _ | refine blk_drew ?_ | refine blk_alloc ?_ _)); refine blk_put (cs := #[.int .i64 ((rd_T25 l0 x29_2).f0), .int .i64 ((rd_T25 l0 x29_2).f1), .int .i64 0, .int .i64 0, .int .i64 0, .int .i64 0]) ?_ 2 _ rfl; (with_reducible repeat (first | refine blk_drewN ?_ _ | refine blk_drew ?_ | refine blk_alloc ?_ _)); refine blk_put (cs := #[.int .i64 ((rd_T25 l0 x29_2).f0), .int .i64 0, .int .i64 0, .int .i64 0, .int .i64 0, .int .i64 0]) ?_ 1 _ rfl; (with_reducible repeat (first | refine blk_drewN ?_ _ | refine blk_drew ?_ | refine blk_alloc ?_ _)); refine blk_put (cs := #[.int .i64 0, .int .i64 0, .int .i64 0, .int .i64 0, .int .i64 0, .int .i64 0]) ?_ 0 _ rfl; (with_reducible repeat (first | refine blk_drewN ?_ _ | refine blk_drew ?_ | refine blk_alloc ?_ _)); exact BK148.out) hb); replace HB := Aside0.mk (below_step (by repeat (first | (with_reducible first | exact HB.out | apply below_alloc | apply pw_below_drewN | apply below_drew1 | refine below_set ?_ GE148.out) | exact HB.out)) hb); clear hb ho28; have p24 : 0 ≤ (x29_2 : Int) := of_decide_eq_true (by first | (with_reducible assumption) | assumption); have q24 : (x29_2 : Int) < ((x6_2.length : Int) : Int) := of_decide_eq_true (by first | (with_reducible assumption) | assumption); obtain ⟨go24, co24, eo24, gb24, gl24, cl24, HG24⟩ := Kd.S_form HO_6.out (by omega); (first | cases eo24 | (injection eo24 with ea_ en_ ec_; (first | subst ea_ | (injection ea_ with ea_; subst ea_)); subst ec_; clear en_)); have GB24 := Aside0.mk gb24; have GG24 := Aside0.mk HG24; clear gb24 gl24 HG24; obtain ⟨_, ce24, hcl24, hM24, hcc24, hfr24, _, _⟩ := Kd.S_elem HO_6.out [] (x29_2 : Int) p24 q24; obtain ⟨ve24_0, rfl, ge24_0⟩ := hM24; have hx24_0 := hcc24 0 _ rfl; have hf24_0 := hfr24 0; (try simp only [show ((Kd.slice 3 (Kd.int .i64))).sz = 1 from rfl, Nat.mul_one, Nat.add_zero] at hx24_0); (try simp only [show ((Kd.slice 3 (Kd.int .i64))).sz = 1 from rfl, Nat.mul_one, Nat.add_zero] at hf24_0); (try clear hcl24); (try clear hcc24); (try clear hfr24); (try clear hM24); replace p24 := eq_true p24; replace q24 := eq_true q24; have n_ := Aside0.mk (Kd.S_mono (ok' := (fun k_ => some k_ ≠ (v150 : Value).ownBlock)) HO_6.out (fun k_ hk => hk.2)); clear HO_6; have HO_6 := n_; clear n_; have HX29 := Aside0.mk (show Kd.S (Kd.slice 3 (Kd.int .i64)) 43 w27 w.heap.size (fun k_ => ((fun _ => True)) k_ ∧ ¬ ((fun k_ => some k_ = (v150 : Value).ownBlock)) k_) (.slice (some ⟨go24, 0, none⟩) x6_2.length co24) x6_2 from (by (with_reducible repeat (first | apply Kd.S_alloc | apply Kd.S_drewN | apply Kd.S_drew)); exact Kd.S_mono HO_6.out (fun k_ hk => ⟨trivial, fun e_ => hk e_⟩))); obtain ⟨oki29, ce29, hcl29, hM29, hcc29, hfr29, hoki29, hH29⟩ := Kd.S_elem HX29.out [] (x29_2 : Int) (of_decide_eq_true (by first | (with_reducible assumption) | assumption)) (by have h_ : (x29_2 : Int) < ((x6_2.length : Int) : Int) := of_decide_eq_true (by first | (with_reducible assumption) | assumption); first | exact h_ | (have e_ := (Kd.S_reads' HO_6.out).1; omega) | simpa using h_); obtain ⟨ve29_0, rfl, ge29_0⟩ := hM29; have HP29 := Kd.S_seg hH29 (of_decide_eq_true (by first | (with_reducible assumption) | assumption)) (by have h_ : (x29_2 : Int) < ((x6_2.length : Int) : Int) := of_decide_eq_true (by first | (with_reducible assumption) | assumption); first | exact h_ | (have e_ := (Kd.S_reads' HO_6.out).1; omega) | simpa using h_) (seg := [v150]) (j := 0) (show 1 ≤ 1 from by decide) (x' := y149) (Kd.M_row (Kd.R_mono (Kd.R_tight rfl (Kd.R_mono (ok' := fun k_ => ((fun _ => True)) k_ ∧ k_ ≠ go24) (Kd.R_apart' (HO151.out) (Kd.S_typed HO_6.out) (by decide)) (fun k_ hk => ⟨trivial, fun e_ => (hk.2) (by rw [e_]; rfl)⟩))) (fun _ h_ => Or.inr (h_)))) (fun _ hk => hk) (fun k_ hk_ => ((Kd.R_mono (ok' := fun k_ => ((fun _ => True)) k_ ∧ k_ ≠ go24) (Kd.R_apart' (HO151.out) (Kd.S_typed HO_6.out) (by decide)) (fun k_ hk => ⟨trivial, fun e_ => (hk.2) (by rw [e_]; rfl)⟩))).1 k_ hk_.symm); have hx29_0 := hcc29 0 _ rfl; (try simp only [show ((Kd.slice 3 (Kd.int .i64))).sz = 1 from rfl, Nat.mul_one, Nat.add_zero] at hx29_0); have hf29_0 := hfr29 0; (try simp only [show ((Kd.slice 3 (Kd.int .i64))).sz = 1 from rfl, Nat.mul_one, Nat.add_zero] at hf29_0); (try clear hcl29); (try clear hcc29); (try clear hfr29); (try clear hM29); (try clear hoki29); (try clear hH29); (try simp only [show ((Kd.slice 3 (Kd.int .i64))).sz = 1 from rfl, Nat.mul_one, Nat.add_zero] at HP29)) | ((with_reducible refine gate_store (t := 43) (p := 39) rfl ?_); refine store_event (t := 43) (p := 39) (v := ?vo_w30) (w1 := (w27.setCell ⟨go24, (x29_2 : Int).toNat, none⟩ (v150))) ?hg ?ho ?hn ?hr ?_; (case ho => rfl); (case hg => rfl); (case hn => rfl); (case hr => (try (obtain ⟨Az_, cz_, ez_⟩ := HZ_v150.out; subst ez_)); first | (go_simp; done) | (go_simp; rfl)); intro w30 hw; have hg : w27.grownBy w30 (some go24) := (by rw [hw]; exact HP29.2); have hp_ : Kd.S (Kd.slice 3 (Kd.int .i64)) 43 w30 w.heap.size (fun _ => True) (.slice (some ⟨go24, 0, none⟩) x6_2.length co24) y152 := (by rw [hw, Ny152.out]; exact HP29.1); clear HP29; replace BK148 := Aside0.mk (blk_grown (g := gb148) (up BK148) hg (Kd.S_ne HO_6.out BK148.out (by decide))); replace HO_6 := Aside0.mk (hp_); replace HB := Aside0.mk ((by rw [hw]; exact below_set (HB.out) GB24.out : Below w.heap.size w w30)); clear hg hw hp_))
               go_loopg [42] k2 (fun kq v42 w' => ∃ (x6_3 : List (List Int)) (x42_3 : Int), v42 = .int .i64 x42_3 ∧ Aside0 (impl_Duties.l2 kq l0 x6_3 x29_2 l0 (l0.length : Int) x29_2 l0 (l0.length : Int) x42_3 ((rd_T25 l0 x29_2).f0) ((rd_T25 l0 x29_2).f1) ((rd_T25 l0 x29_2).f2) ((rd_T25 l0 x29_2).f3) ((rd_T25 l0 x29_2).f4) ((rd_T25 l0 x29_2).f5) = some (r1, r2)) ∧ Aside0 (kq ≤ k2) ∧ Aside0 (Kd.S (Kd.slice 3 (Kd.int .i64)) 43 w' w.heap.size (fun _ => True) (.slice (some ⟨go24, 0, none⟩) x6_2.length co24) x6_3) ∧ Aside0 (w'.heap[gb148]? = some (.cells #[.int .i64 ((rd_T25 l0 x29_2).f0), .int .i64 ((rd_T25 l0 x29_2).f1), .int .i64 ((rd_T25 l0 x29_2).f2), .int .i64 ((rd_T25 l0 x29_2).f3), .int .i64 ((rd_T25 l0 x29_2).f4), .int .i64 ((rd_T25 l0 x29_2).f5)] 25 (0, 0))) ∧ Aside0 (Below w.heap.size w w'))
               case atStart => exact ⟨(y152), (0), (by first | rfl | (simp; done) | (simp [*]; done)), H', ⟨Nat.le_refl _⟩, ⟨by (with_reducible repeat (first | apply Kd.S_alloc | apply Kd.S_drewN | apply Kd.S_drew)); exact HO_6.out⟩, ⟨by (with_reducible repeat (first | refine blk_drewN ?_ _ | refine blk_drew ?_ | refine blk_alloc ?_ _)); exact BK148.out⟩, ⟨by repeat (first | (with_reducible first | exact HB.out | apply below_alloc | apply pw_below_drewN | apply below_drew1 | refine below_set ?_ GE148.out) | exact HB.out)⟩⟩
               case round =>
                clear H'
                (try clear c1); (try clear p1); (try clear q1); (try clear hx1); (try clear c2); (try clear c2b0); (try clear c2b1); (try clear p2); (try clear q2); (try clear hx2); (try clear hf2); (try clear c3); (try clear c3b0); (try clear c4); (try clear c4b0); (try clear c5); (try clear c5b0); (try clear p6); (try clear c7); (try clear c14); (try clear c14b0); (try clear c14b1); (try clear p14); (try clear q14); (try clear hx14); (try clear c15); (try clear c15b0); (try clear c15b1); (try clear c17); (try clear c18); (try clear c18b0); (try clear c19); (try clear c19b0); (try clear c20); (try clear c20b0); (try clear c21); (try clear c21b0); (try clear c21b1); (try clear c22); (try clear c22b0); (try clear c22b1); (try clear c23); (try clear c23b0); (try clear c24); (try clear p24); (try clear q24); (try clear hx24); (try clear hf24); (try clear c29); (try clear hx29); (try clear hf29); (try clear hcz12_0); (try clear hcz12_1); (try clear hcz12_2); (try clear hcz12_3); (try clear hcz12_4); (try clear hcz12_5); (try clear hcz26_0); (try clear hcz26_1); (try clear hcz26_2); (try clear hcz26_3); (try clear hcz26_4); (try clear hcz26_5); (try clear hcz9_0); (try clear hcz9_1); (try clear hcz9_2); (try clear hcz9_3); (try clear hcz9_4); (try clear hcz9_5); (try clear hfz12_0); (try clear hfz12_1); (try clear hfz12_2); (try clear hfz12_3); (try clear hfz12_4); (try clear hfz12_5); (try clear hfz26_0); (try clear hfz26_1); (try clear hfz26_2); (try clear hfz26_3); (try clear hfz26_4); (try clear hfz26_5); (try clear hfz9_0); (try clear hfz9_1); (try clear hfz9_2); (try clear hfz9_3); (try clear hfz9_4); (try clear hfz9_5); (try clear hx141_0); (try clear hx141_1); (try clear hx141_2); (try clear hx141_3); (try clear hx141_4); (try clear hx141_5); (try clear hx147_0); (try clear hx147_1); (try clear hx147_2); (try clear hx147_3); (try clear hx147_4); (try clear hx147_5); (try clear hx24_0); (try clear hx29_0); (try clear p1); (try clear p14); (try clear p141); (try clear p147); (try clear p2); (try clear p24); (try clear p6); (try clear q1); (try clear q14); (try clear q141); (try clear q147); (try clear q24)
                obtain ⟨x6_3, x42_3, rfl, HA, HK3, HO_6, BK148, HB⟩ := hrel
                have hl6_3 := (Kd.S_reads' HO_6.out).1
                rw [hl6_3] at HO_6
                (try simp only [hl6_3])
                (try simp only [hl6_3] at BK148)
                cases gk with
                | zero => exact absurd HA.out (by simp [impl_Duties.l2])
                | succ k3 =>
                 have H := HA.out
                 clear HA
                 simp only [impl_Duties.l2] at H
                 by_cases c31 : x42_3 < (l0.length : Int)
                 ·rw [if_pos c31] at H
                  have c31b0 : decide (x42_3 < (l0.length : Int)) = true := decide_eq_true c31
                  (try simp only [hl6_3] at c31b0)
                  clear c31
                  by_cases c32 : 0 ≤ x42_3
                  ·rw [if_pos c32] at H
                   have c32b0 : decide (0 ≤ x42_3) = true := decide_eq_true c32
                   clear c32
                   by_cases c33 : x42_3 < (l0.length : Int)
                   ·rw [if_pos c33] at H
                    have c33b0 : decide (x42_3 < (l0.length : Int)) = true := decide_eq_true c33
                    (try simp only [hl6_3] at c33b0)
                    clear c33
                    by_cases c34 : x29_2 = x42_3
                    ·rw [if_pos c34] at H
                     have c34b0 : (x29_2 == x42_3) = true := beq_iff_eq.mpr c34
                     have c34b1 : (x29_2 != x42_3) = false := bne_eq_false_iff_eq.mpr c34
                     clear c34
                     have H' := Aside0.mk H
                     clear H
                     have p153 : 0 ≤ (x42_3 : Int) := of_decide_eq_true (by first | (with_reducible assumption) | assumption)
                     have q153 : x42_3 < (l0.length : Int) := of_decide_eq_true (by first | (with_reducible assumption) | assumption)
                     obtain ⟨ad153, e153, hx153_0, hx153_1, hx153_2, hx153_3, hx153_4, hx153_5⟩ := at_T25 HR0.out x42_3 p153 q153
                     obtain rfl : ad147 = ad153 := (by injection e153)
                     replace hx153_0 := (HB.out.cell (World.block_lt_of_cell? w _ hx153_0)).trans hx153_0
                     replace hx153_1 := (HB.out.cell (World.block_lt_of_cell? w _ hx153_1)).trans hx153_1
                     replace hx153_2 := (HB.out.cell (World.block_lt_of_cell? w _ hx153_2)).trans hx153_2
                     replace hx153_3 := (HB.out.cell (World.block_lt_of_cell? w _ hx153_3)).trans hx153_3
                     replace hx153_4 := (HB.out.cell (World.block_lt_of_cell? w _ hx153_4)).trans hx153_4
                     replace hx153_5 := (HB.out.cell (World.block_lt_of_cell? w _ hx153_5)).trans hx153_5
                     replace p153 := eq_true p153
                     replace q153 := eq_true q153
                     go_wp2_with (first | ((with_reducible refine gate_dst (N := 10) rfl ?_); refine box_event ?hg (N := 10) ?hd (cs := #[.int .i64 0, .int .i64 0, .int .i64 0, .int .i64 0, .int .i64 0, .int .i64 0]) (t := 25) ?hr ?_; (case hd => rfl); (case hg => rfl); (case hr => first | (go_simp; done) | (go_simp; rfl)); intro gb154 hg w35 hbox hb; replace HO_6 := Aside0.mk (Kd.S_below (by (with_reducible repeat (first | apply Kd.S_alloc | apply Kd.S_drewN | apply Kd.S_drew)); exact HO_6.out) hb); replace BK154 := Aside0.mk (hbox); replace GW154 := Aside0.mk ((by rw [hg]; exact (below_size (by repeat (first | (with_reducible first | exact HB.out | apply below_alloc | apply pw_below_drewN | apply below_drew1 | refine below_set ?_ GE148.out) | exact HB.out))) : w.heap.size ≤ gb154)); replace GE154 := Aside0.mk ((by rw [hg]; exact (below_size (by repeat (first | (with_reducible first | exact HB.out | apply below_alloc | apply pw_below_drewN | apply below_drew1 | refine below_set ?_ GE148.out) | exact HB.out))) : w.heap.size ≤ gb154)); replace HB := Aside0.mk (below_step (by repeat (first | (with_reducible first | exact HB.out | apply below_alloc | apply pw_below_drewN | apply below_drew1 | refine below_set ?_ GE148.out) | exact HB.out)) hb); replace NB148_154 := Aside0.mk ((by rw [hg]; exact Nat.ne_of_lt (blk_lt (g := gb148) (up BK148)) : gb148 ≠ gb154)); replace NB154_148 := Aside0.mk ((by rw [hg]; exact Nat.ne_of_gt (blk_lt (g := gb148) (up BK148)) : gb154 ≠ gb148)); replace BK148 := Aside0.mk (blk_below (g := gb148) (up BK148) hb); clear hb hbox hg; have hnb36 := NB154_148.out; have hnc36 := NB148_154.out; obtain ⟨hcz37_0, hcz37_1, hcz37_2, hcz37_3, hcz37_4, hcz37_5, hfz37_0, hfz37_1, hfz37_2, hfz37_3, hfz37_4, hfz37_5⟩ := six BK154))
                     (try simp only [← hl6_3])
                     go_roundg k3
                     case measure => have := HK1.out; have := HK2.out; have := HK3.out; omega
                     case rel => exact ⟨(x6_3), (wrap64 (x42_3 + 1)), (by first | rfl | (simp; done) | (simp [*]; done)), H', ⟨by have := HK1.out; have := HK2.out; have := HK3.out; omega⟩, ⟨by (try simp only [hl6_3]); (with_reducible repeat (first | apply Kd.S_alloc | apply Kd.S_drewN | apply Kd.S_drew)); exact Kd.S_mono (Kd.S_far (p := ⟨gb154, 5, none⟩) (Kd.S_far (p := ⟨gb154, 4, none⟩) (Kd.S_far (p := ⟨gb154, 3, none⟩) (Kd.S_far (p := ⟨gb154, 2, none⟩) (Kd.S_far (p := ⟨gb154, 1, none⟩) (Kd.S_far (p := ⟨gb154, 0, none⟩) (Kd.S_types HO_6.out BK154.out (by decide)) (fun _ hk => hk.2) (.int .i64 ((rd_T25 l0 x42_3).f0))) (fun _ hk => hk.2) (.int .i64 ((rd_T25 l0 x42_3).f1))) (fun _ hk => hk.2) (.int .i64 ((rd_T25 l0 x42_3).f2))) (fun _ hk => hk.2) (.int .i64 ((rd_T25 l0 x42_3).f3))) (fun _ hk => hk.2) (.int .i64 ((rd_T25 l0 x42_3).f4))) (fun _ hk => hk.2) (.int .i64 ((rd_T25 l0 x42_3).f5))) (fun _ hk => trivial)⟩, ⟨by (try simp only [hl6_3]); (with_reducible repeat (first | refine blk_drewN ?_ _ | refine blk_drew ?_ | refine blk_alloc ?_ _)); refine blk_far ?_ NB148_154.out _; (with_reducible repeat (first | refine blk_drewN ?_ _ | refine blk_drew ?_ | refine blk_alloc ?_ _)); refine blk_far ?_ NB148_154.out _; (with_reducible repeat (first | refine blk_drewN ?_ _ | refine blk_drew ?_ | refine blk_alloc ?_ _)); refine blk_far ?_ NB148_154.out _; (with_reducible repeat (first | refine blk_drewN ?_ _ | refine blk_drew ?_ | refine blk_alloc ?_ _)); refine blk_far ?_ NB148_154.out _; (with_reducible repeat (first | refine blk_drewN ?_ _ | refine blk_drew ?_ | refine blk_alloc ?_ _)); refine blk_far ?_ NB148_154.out _; (with_reducible repeat (first | refine blk_drewN ?_ _ | refine blk_drew ?_ | refine blk_alloc ?_ _)); refine blk_far ?_ NB148_154.out _; (with_reducible repeat (first | refine blk_drewN ?_ _ | refine blk_drew ?_ | refine blk_alloc ?_ _)); exact BK148.out⟩, ⟨by repeat (first | (with_reducible first | exact HB.out | apply below_alloc | apply pw_below_drewN | apply below_drew1 | refine below_set ?_ GE148.out | refine below_set ?_ GE154.out) | exact HB.out)⟩⟩
                    ·rw [if_neg c34] at H
                     have c34b0 : (x29_2 == x42_3) = false := beq_eq_false_iff_ne.mpr c34
                     have c34b1 : (x29_2 != x42_3) = true := bne_iff_ne.mpr c34
                     by_cases c38 : 0 ≤ x29_2
                     ·rw [if_pos c38] at H
                      have c38b0 : decide (0 ≤ x29_2) = true := decide_eq_true c38
                      clear c38
                      by_cases c39 : x29_2 < (x6_3.length : Int)
                      ·rw [if_pos c39] at H
                       have c39b0 : decide (x29_2 < (x6_3.length : Int)) = true := decide_eq_true c39
                       (try simp only [hl6_3] at c39b0)
                       clear c39
                       replace H := Option.bind_eq_some_iff.mp H
                       obtain ⟨t156, A400, H⟩ := H
                       replace H : (if x42_3 < ((rd_L3 x6_3 x29_2).length : Int) then (impl_Duties.l2 k3 l0 (x6_3.set (x29_2 : Int).toNat ((rd_L3 x6_3 x29_2).set (x42_3 : Int).toNat t156)) x29_2 l0 (l0.length : Int) x29_2 l0 (l0.length : Int) (wrap64 (x42_3 + 1)) ((rd_T25 l0 x29_2).f0) ((rd_T25 l0 x29_2).f1) ((rd_T25 l0 x29_2).f2) ((rd_T25 l0 x29_2).f3) ((rd_T25 l0 x29_2).f4) ((rd_T25 l0 x29_2).f5)) else (none)) = some (r1, r2) := H
                       have A40 := Aside0.mk A400
                       clear A400
                       by_cases c41 : x42_3 < ((rd_L3 x6_3 x29_2).length : Int)
                       ·rw [if_pos c41] at H
                        have c41b0 : decide (x42_3 < ((rd_L3 x6_3 x29_2).length : Int)) = true := decide_eq_true c41
                        (try simp only [hl6_3] at c41b0)
                        clear c41
                        obtain ⟨y157, hy157⟩ : ∃ y_ : List Int, y_ = ((rd_L3 x6_3 x29_2).set (x42_3 : Int).toNat t156) := ⟨_, rfl⟩
                        replace H : (impl_Duties.l2 k3 l0 (x6_3.set (x29_2 : Int).toNat y157) x29_2 l0 (l0.length : Int) x29_2 l0 (l0.length : Int) (wrap64 (x42_3 + 1)) ((rd_T25 l0 x29_2).f0) ((rd_T25 l0 x29_2).f1) ((rd_T25 l0 x29_2).f2) ((rd_T25 l0 x29_2).f3) ((rd_T25 l0 x29_2).f4) ((rd_T25 l0 x29_2).f5)) = some (r1, r2) := by first | (rw [hy157]; with_reducible exact H) | (have H2_ := (Option.bind_some _ _).symm.trans H; rw [hy157]; with_reducible exact H2_) | (have H2_ := (Option.bind_some _ _).symm.trans H; with_reducible exact H2_) | with_reducible exact H | (rw [hy157]; exact H) | exact H
                        have Ny157 := Aside0.mk hy157
                        clear hy157
                        obtain ⟨y159, hy159⟩ : ∃ y_ : List (List Int), y_ = (x6_3.set (x29_2 : Int).toNat y157) := ⟨_, rfl⟩
                        replace H : (impl_Duties.l2 k3 l0 y159 x29_2 l0 (l0.length : Int) x29_2 l0 (l0.length : Int) (wrap64 (x42_3 + 1)) ((rd_T25 l0 x29_2).f0) ((rd_T25 l0 x29_2).f1) ((rd_T25 l0 x29_2).f2) ((rd_T25 l0 x29_2).f3) ((rd_T25 l0 x29_2).f4) ((rd_T25 l0 x29_2).f5)) = some (r1, r2) := by first | (rw [hy159]; with_reducible exact H) | (have H2_ := (Option.bind_some _ _).symm.trans H; rw [hy159]; with_reducible exact H2_) | (have H2_ := (Option.bind_some _ _).symm.trans H; with_reducible exact H2_) | with_reducible exact H | (rw [hy159]; exact H) | exact H
                        have Ny159 := Aside0.mk hy159
                        clear hy159
                        have H' := Aside0.mk H
                        clear H
                        have p153 : 0 ≤ (x42_3 : Int) := of_decide_eq_true (by first | (with_reducible assumption) | assumption)
                        have q153 : x42_3 < (l0.length : Int) := of_decide_eq_true (by first | (with_reducible assumption) | assumption)
                        obtain ⟨ad153, e153, hx153_0, hx153_1, hx153_2, hx153_3, hx153_4, hx153_5⟩ := at_T25 HR0.out x42_3 p153 q153
                        obtain rfl : ad147 = ad153 := (by injection e153)
                        replace hx153_0 := (HB.out.cell (World.block_lt_of_cell? w _ hx153_0)).trans hx153_0
                        replace hx153_1 := (HB.out.cell (World.block_lt_of_cell? w _ hx153_1)).trans hx153_1
                        replace hx153_2 := (HB.out.cell (World.block_lt_of_cell? w _ hx153_2)).trans hx153_2
                        replace hx153_3 := (HB.out.cell (World.block_lt_of_cell? w _ hx153_3)).trans hx153_3
                        replace hx153_4 := (HB.out.cell (World.block_lt_of_cell? w _ hx153_4)).trans hx153_4
                        replace hx153_5 := (HB.out.cell (World.block_lt_of_cell? w _ hx153_5)).trans hx153_5
                        replace p153 := eq_true p153
                        replace q153 := eq_true q153
                        try go_wp2_with (first | ((with_reducible refine gate_dst (N := 10) rfl ?_); refine box_event ?hg (N := 10) ?hd (cs := #[.int .i64 0, .int .i64 0, .int .i64 0, .int .i64 0, .int .i64 0, .int .i64 0]) (t := 25) ?hr ?_; (case hd => rfl); (case hg => rfl); (case hr => first | (go_simp; done) | (go_simp; rfl)); intro gb154 hg w43 hbox hb; replace HO_6 := Aside0.mk (Kd.S_below (by (with_reducible repeat (first | apply Kd.S_alloc | apply Kd.S_drewN | apply Kd.S_drew)); exact HO_6.out) hb); replace BK154 := Aside0.mk (hbox); replace GW154 := Aside0.mk ((by rw [hg]; exact (below_size (by repeat (first | (with_reducible first | exact HB.out | apply below_alloc | apply pw_below_drewN | apply below_drew1 | refine below_set ?_ GE148.out) | exact HB.out))) : w.heap.size ≤ gb154)); replace GE154 := Aside0.mk ((by rw [hg]; exact (below_size (by repeat (first | (with_reducible first | exact HB.out | apply below_alloc | apply pw_below_drewN | apply below_drew1 | refine below_set ?_ GE148.out) | exact HB.out))) : w.heap.size ≤ gb154)); replace HB := Aside0.mk (below_step (by repeat (first | (with_reducible first | exact HB.out | apply below_alloc | apply pw_below_drewN | apply below_drew1 | refine below_set ?_ GE148.out) | exact HB.out)) hb); replace NB148_154 := Aside0.mk ((by rw [hg]; exact Nat.ne_of_lt (blk_lt (g := gb148) (up BK148)) : gb148 ≠ gb154)); replace NB154_148 := Aside0.mk ((by rw [hg]; exact Nat.ne_of_gt (blk_lt (g := gb148) (up BK148)) : gb154 ≠ gb148)); replace BK148 := Aside0.mk (blk_below (g := gb148) (up BK148) hb); clear hb hbox hg; have hnb44 := NB154_148.out; have hnc44 := NB148_154.out; obtain ⟨hcz45_0, hcz45_1, hcz45_2, hcz45_3, hcz45_4, hcz45_5, hfz45_0, hfz45_1, hfz45_2, hfz45_3, hfz45_4, hfz45_5⟩ := six BK154))
                        replace HO_6 : Aside0 (Kd.S (Kd.slice 3 (Kd.int .i64)) 43 ((((((w43.setCell ⟨gb154, 0, none⟩ (.int .i64 ((rd_T25 l0 x42_3).f0))).setCell ⟨gb154, 1, none⟩ (.int .i64 ((rd_T25 l0 x42_3).f1))).setCell ⟨gb154, 2, none⟩ (.int .i64 ((rd_T25 l0 x42_3).f2))).setCell ⟨gb154, 3, none⟩ (.int .i64 ((rd_T25 l0 x42_3).f3))).setCell ⟨gb154, 4, none⟩ (.int .i64 ((rd_T25 l0 x42_3).f4))).setCell ⟨gb154, 5, none⟩ (.int .i64 ((rd_T25 l0 x42_3).f5))) w.heap.size (fun _ => True) (.slice (some ⟨go24, 0, none⟩) x6_3.length co24) x6_3) := ⟨by (with_reducible repeat (first | apply Kd.S_alloc | apply Kd.S_drewN | apply Kd.S_drew)); exact Kd.S_mono (Kd.S_far (p := ⟨gb154, 5, none⟩) (Kd.S_far (p := ⟨gb154, 4, none⟩) (Kd.S_far (p := ⟨gb154, 3, none⟩) (Kd.S_far (p := ⟨gb154, 2, none⟩) (Kd.S_far (p := ⟨gb154, 1, none⟩) (Kd.S_far (p := ⟨gb154, 0, none⟩) (Kd.S_types HO_6.out BK154.out (by decide)) (fun _ hk => hk.2) (.int .i64 ((rd_T25 l0 x42_3).f0))) (fun _ hk => hk.2) (.int .i64 ((rd_T25 l0 x42_3).f1))) (fun _ hk => hk.2) (.int .i64 ((rd_T25 l0 x42_3).f2))) (fun _ hk => hk.2) (.int .i64 ((rd_T25 l0 x42_3).f3))) (fun _ hk => hk.2) (.int .i64 ((rd_T25 l0 x42_3).f4))) (fun _ hk => hk.2) (.int .i64 ((rd_T25 l0 x42_3).f5))) (fun _ hk => trivial)⟩
                        replace BK148 : Aside0 (((((((w43.setCell ⟨gb154, 0, none⟩ (.int .i64 ((rd_T25 l0 x42_3).f0))).setCell ⟨gb154, 1, none⟩ (.int .i64 ((rd_T25 l0 x42_3).f1))).setCell ⟨gb154, 2, none⟩ (.int .i64 ((rd_T25 l0 x42_3).f2))).setCell ⟨gb154, 3, none⟩ (.int .i64 ((rd_T25 l0 x42_3).f3))).setCell ⟨gb154, 4, none⟩ (.int .i64 ((rd_T25 l0 x42_3).f4))).setCell ⟨gb154, 5, none⟩ (.int .i64 ((rd_T25 l0 x42_3).f5))).heap[gb148]? = some (.cells #[.int .i64 ((rd_T25 l0 x29_2).f0), .int .i64 ((rd_T25 l0 x29_2).f1), .int .i64 ((rd_T25 l0 x29_2).f2), .int .i64 ((rd_T25 l0 x29_2).f3), .int .i64 ((rd_T25 l0 x29_2).f4), .int .i64 ((rd_T25 l0 x29_2).f5)] 25 (0, 0))) := ⟨by (with_reducible repeat (first | refine blk_drewN ?_ _ | refine blk_drew ?_ | refine blk_alloc ?_ _)); refine blk_far ?_ NB148_154.out _; (with_reducible repeat (first | refine blk_drewN ?_ _ | refine blk_drew ?_ | refine blk_alloc ?_ _)); refine blk_far ?_ NB148_154.out _; (with_reducible repeat (first | refine blk_drewN ?_ _ | refine blk_drew ?_ | refine blk_alloc ?_ _)); refine blk_far ?_ NB148_154.out _; (with_reducible repeat (first | refine blk_drewN ?_ _ | refine blk_drew ?_ | refine blk_alloc ?_ _)); refine blk_far ?_ NB148_154.out _; (with_reducible repeat (first | refine blk_drewN ?_ _ | refine blk_drew ?_ | refine blk_alloc ?_ _)); refine blk_far ?_ NB148_154.out _; (with_reducible repeat (first | refine blk_drewN ?_ _ | refine blk_drew ?_ | refine blk_alloc ?_ _)); refine blk_far ?_ NB148_154.out _; (with_reducible repeat (first | refine blk_drewN ?_ _ | refine blk_drew ?_ | refine blk_alloc ?_ _)); exact BK148.out⟩
                        replace BK154 : Aside0 (((((((w43.setCell ⟨gb154, 0, none⟩ (.int .i64 ((rd_T25 l0 x42_3).f0))).setCell ⟨gb154, 1, none⟩ (.int .i64 ((rd_T25 l0 x42_3).f1))).setCell ⟨gb154, 2, none⟩ (.int .i64 ((rd_T25 l0 x42_3).f2))).setCell ⟨gb154, 3, none⟩ (.int .i64 ((rd_T25 l0 x42_3).f3))).setCell ⟨gb154, 4, none⟩ (.int .i64 ((rd_T25 l0 x42_3).f4))).setCell ⟨gb154, 5, none⟩ (.int .i64 ((rd_T25 l0 x42_3).f5))).heap[gb154]? = some (.cells #[.int .i64 ((rd_T25 l0 x42_3).f0), .int .i64 ((rd_T25 l0 x42_3).f1), .int .i64 ((rd_T25 l0 x42_3).f2), .int .i64 ((rd_T25 l0 x42_3).f3), .int .i64 ((rd_T25 l0 x42_3).f4), .int .i64 ((rd_T25 l0 x42_3).f5)] 25 (0, 0))) := ⟨by (with_reducible repeat (first | refine blk_drewN ?_ _ | refine blk_drew ?_ | refine blk_alloc ?_ _)); refine blk_put (cs := #[.int .i64 ((rd_T25 l0 x42_3).f0), .int .i64 ((rd_T25 l0 x42_3).f1), .int .i64 ((rd_T25 l0 x42_3).f2), .int .i64 ((rd_T25 l0 x42_3).f3), .int .i64 ((rd_T25 l0 x42_3).f4), .int .i64 0]) ?_ 5 _ rfl; (with_reducible repeat (first | refine blk_drewN ?_ _ | refine blk_drew ?_ | refine blk_alloc ?_ _)); refine blk_put (cs := #[.int .i64 ((rd_T25 l0 x42_3).f0), .int .i64 ((rd_T25 l0 x42_3).f1), .int .i64 ((rd_T25 l0 x42_3).f2), .int .i64 ((rd_T25 l0 x42_3).f3), .int .i64 0, .int .i64 0]) ?_ 4 _ rfl; (with_reducible repeat (first | refine blk_drewN ?_ _ | refine blk_drew ?_ | refine blk_alloc ?_ _)); refine blk_put (cs := #[.int .i64 ((rd_T25 l0 x42_3).f0), .int .i64 ((rd_T25 l0 x42_3).f1), .int .i64 ((rd_T25 l0 x42_3).f2), .int .i64 0, .int .i64 0, .int .i64 0]) ?_ 3 _ rfl; (with_reducible repeat (first | refine blk_drewN ?_ _ | refine blk_drew ?_ | refine blk_alloc ?_ _)); refine blk_put (cs := #[.int .i64 ((rd_T25 l0 x42_3).f0), .int .i64 ((rd_T25 l0 x42_3).f1), .int .i64 0, .int .i64 0, .int .i64 0, .int .i64 0]) ?_ 2 _ rfl; (with_reducible repeat (first | refine blk_drewN ?_ _ | refine blk_drew ?_ | refine blk_alloc ?_ _)); refine blk_put (cs := #[.int .i64 ((rd_T25 l0 x42_3).f0), .int .i64 0, .int .i64 0, .int .i64 0, .int .i64 0, .int .i64 0]) ?_ 1 _ rfl; (with_reducible repeat (first | refine blk_drewN ?_ _ | refine blk_drew ?_ | refine blk_alloc ?_ _)); refine blk_put (cs := #[.int .i64 0, .int .i64 0, .int .i64 0, .int .i64 0, .int .i64 0, .int .i64 0]) ?_ 0 _ rfl; (with_reducible repeat (first | refine blk_drewN ?_ _ | refine blk_drew ?_ | refine blk_alloc ?_ _)); exact BK154.out⟩
                        replace HB : Aside0 (Below w.heap.size w ((((((w43.setCell ⟨gb154, 0, none⟩ (.int .i64 ((rd_T25 l0 x42_3).f0))).setCell ⟨gb154, 1, none⟩ (.int .i64 ((rd_T25 l0 x42_3).f1))).setCell ⟨gb154, 2, none⟩ (.int .i64 ((rd_T25 l0 x42_3).f2))).setCell ⟨gb154, 3, none⟩ (.int .i64 ((rd_T25 l0 x42_3).f3))).setCell ⟨gb154, 4, none⟩ (.int .i64 ((rd_T25 l0 x42_3).f4))).setCell ⟨gb154, 5, none⟩ (.int .i64 ((rd_T25 l0 x42_3).f5)))) := ⟨by repeat (first | (with_reducible first | exact HB.out | apply below_alloc | apply pw_below_drewN | apply below_drew1 | refine below_set ?_ GE148.out | refine below_set ?_ GE154.out) | exact HB.out)⟩
                        generalize ((((((w43.setCell ⟨gb154, 0, none⟩ (.int .i64 ((rd_T25 l0 x42_3).f0))).setCell ⟨gb154, 1, none⟩ (.int .i64 ((rd_T25 l0 x42_3).f1))).setCell ⟨gb154, 2, none⟩ (.int .i64 ((rd_T25 l0 x42_3).f2))).setCell ⟨gb154, 3, none⟩ (.int .i64 ((rd_T25 l0 x42_3).f3))).setCell ⟨gb154, 4, none⟩ (.int .i64 ((rd_T25 l0 x42_3).f4))).setCell ⟨gb154, 5, none⟩ (.int .i64 ((rd_T25 l0 x42_3).f5))) = w46 at HO_6 BK148 BK154 HB ⊢
                        replace HO_6 := Aside0.mk (Kd.S_drew HO_6.out)
                        replace BK148 := Aside0.mk (blk_drew BK148.out)
                        replace BK154 := Aside0.mk (blk_drew BK154.out)
                        replace HB := Aside0.mk (below_drew1 HB.out)
                        have p155 : 0 ≤ (x29_2 : Int) := of_decide_eq_true (by first | (with_reducible assumption) | assumption)
                        have q155 : x29_2 < (x6_3.length : Int) := of_decide_eq_true (by first | (with_reducible assumption) | assumption)
                        obtain ⟨ad155, A155_0, c155_0, e155, hx155_0, hl155_0, hi155_0⟩ := at_L3 (Kd.S_reads' HO_6.out).2.2 x29_2 p155 q155
                        obtain rfl : (⟨go24, 0, none⟩ : Addr) = ad155 := (by injection e155)
                        obtain ⟨ce155, hce155, hMe155, hcc155⟩ := Kd.S_get HO_6.out [] x29_2 p155 (by first | exact q155 | exact of_decide_eq_true (by first | (with_reducible assumption) | assumption) | (have e_ := (Kd.S_reads' HO_6.out).1; omega))
                        obtain ⟨ve155_0, rfl, ge155_0⟩ := hMe155
                        have hv155_0 := hcc155 0 _ rfl
                        rw [Nat.add_zero, show ((Kd.slice 3 (Kd.int .i64))).sz = 1 from rfl, Nat.mul_one] at hv155_0
                        replace hv155_0 := Option.some.inj (hv155_0.symm.trans hx155_0)
                        rw [hv155_0] at ge155_0
                        have HL155_0 := Aside0.mk (show Kd.R (Kd.int .i64) 3 _ _ _ _ (rd_L3 x6_3 x29_2) from ge155_0)
                        clear hv155_0 ge155_0
                        have HX155_0 := Aside0.mk hx155_0
                        clear hcc155 hce155
                        (first | simp only [add_plain] at hx155_0 | simp only [add_at] at hx155_0 | simp only [Addr.add, Nat.zero_add] at hx155_0 | skip)
                        have HR155_0 := Aside0.mk hi155_0
                        have HC155_0 := Aside0.mk hl155_0
                        clear hi155_0 hl155_0
                        replace p155 := eq_true p155
                        replace q155 := eq_true q155
                        refine start_ (n := 10) (S := fun w' => w'.cell? ⟨gb148, 0, none⟩ = some (.int .i64 ((rd_T25 l0 x29_2).f0)) ∧ w'.cell? ⟨gb148, 1, none⟩ = some (.int .i64 ((rd_T25 l0 x29_2).f1)) ∧ w'.cell? ⟨gb148, 2, none⟩ = some (.int .i64 ((rd_T25 l0 x29_2).f2)) ∧ w'.cell? ⟨gb148, 3, none⟩ = some (.int .i64 ((rd_T25 l0 x29_2).f3)) ∧ w'.cell? ⟨gb148, 4, none⟩ = some (.int .i64 ((rd_T25 l0 x29_2).f4)) ∧ w'.cell? ⟨gb148, 5, none⟩ = some (.int .i64 ((rd_T25 l0 x29_2).f5)) ∧ w'.cell? ⟨gb154, 0, none⟩ = some (.int .i64 ((rd_T25 l0 x42_3).f0)) ∧ w'.cell? ⟨gb154, 1, none⟩ = some (.int .i64 ((rd_T25 l0 x42_3).f1)) ∧ w'.cell? ⟨gb154, 2, none⟩ = some (.int .i64 ((rd_T25 l0 x42_3).f2)) ∧ w'.cell? ⟨gb154, 3, none⟩ = some (.int .i64 ((rd_T25 l0 x42_3).f3)) ∧ w'.cell? ⟨gb154, 4, none⟩ = some (.int .i64 ((rd_T25 l0 x42_3).f4)) ∧ w'.cell? ⟨gb154, 5, none⟩ = some (.int .i64 ((rd_T25 l0 x42_3).f5)) ∧ w'.cell? ⟨go24, (x29_2).toNat, none⟩ = some (.slice A155_0 (rd_L3 x6_3 x29_2).length c155_0)) (ds := [9]) #[false, false, false, false, false, false, false, false, false, false] (by kernel_rfl) rfl rfl ⟨(blk_cell BK148.out 0).trans rfl, (blk_cell BK148.out 1).trans rfl, (blk_cell BK148.out 2).trans rfl, (blk_cell BK148.out 3).trans rfl, (blk_cell BK148.out 4).trans rfl, (blk_cell BK148.out 5).trans rfl, (blk_cell BK154.out 0).trans rfl, (blk_cell BK154.out 1).trans rfl, (blk_cell BK154.out 2).trans rfl, (blk_cell BK154.out 3).trans rfl, (blk_cell BK154.out 4).trans rfl, (blk_cell BK154.out 5).trans rfl, hx155_0⟩ (fun hHeld => ?_); refine with_tabW impl_Duties.tab18 impl_Duties.bits18 (fun HT_ HW_ => ?_)
                        generalize w46.drew = w47 at HO_6 BK148 BK154 HB HL155_0 HR155_0 HX155_0 hx155_0 hHeld ⊢
                        refine pure_ (i := 0) (N := some 50) (v := ?_) (a' := ?_) (bz 10 1) rfl rfl (any_of HT_.out (by kernel_rfl)) (fun _ _ _ h => h) (Or.inl ⟨by rfl, ?_⟩) ?_ ?_
                        rotate_left
                        ·intro w'
                         go_simp
                         with_reducible rfl
                        rotate_left
                        ·simp only [Act.put, y1, y2, y3, i64_w, i32_w]
                         rfl
                        refine pure_ (i := 1) (N := some 51) (v := ?_) (a' := ?_) (bz 10 3) rfl rfl (any_of HT_.out (by kernel_rfl)) (fun _ _ _ h => h) (Or.inl ⟨by rfl, ?_⟩) ?_ ?_
                        rotate_left
                        ·intro w'
                         go_simp
                         with_reducible rfl
                        rotate_left
                        ·simp only [Act.put, y1, y2, y3, i64_w, i32_w]
                         rfl
                        refine pure_ (i := 2) (N := some 52) (v := ?_) (a' := ?_) (bz 10 7) rfl rfl (any_of HT_.out (by kernel_rfl)) (fun _ _ _ h => h) (Or.inl ⟨by rfl, ?_⟩) ?_ ?_
                        rotate_left
                        ·intro w'
                         go_simp
                         with_reducible rfl
                        rotate_left
                        ·simp only [Act.put, y1, y2, y3, i64_w, i32_w]
                         rfl
                        refine pure_ (i := 4) (N := some 54) (v := ?_) (a' := ?_) (bz 10 23) rfl rfl (any_of HT_.out (by kernel_rfl)) (fun _ _ _ h => h) (Or.inl ⟨by rfl, ?_⟩) ?_ ?_
                        rotate_left
                        ·intro w'
                         go_simp
                         with_reducible rfl
                        rotate_left
                        ·simp only [Act.put, y1, y2, y3, i64_w, i32_w]
                         rfl
                        refine take_ (i := 3) (N := some 53) (v := ?_) (a' := ?_) (bz 10 31) rfl rfl (take_ofW HT_.out HW_.out (by kernel_rfl)) (fun _ _ _ h => h) (Or.inl ⟨by rfl, ?_⟩) hHeld ?_ ?_
                        rotate_left
                        ·rintro w' ⟨s0, s1, s2, s3, s4, s5, s6, s7, s8, s9, s10, s11, s12⟩
                         go_simp
                         with_reducible rfl
                        rotate_left
                        ·simp only [Act.put, y1, y2, y3, i64_w, i32_w]
                         rfl
                        refine take_ (i := 5) (N := some 55) (v := ?_) (a' := ?_) (bz 10 63) rfl rfl (take_ofW HT_.out HW_.out (by kernel_rfl)) (fun _ _ _ h => h) (Or.inl ⟨by rfl, ?_⟩) hHeld ?_ ?_
                        rotate_left
                        ·rintro w' ⟨s0, s1, s2, s3, s4, s5, s6, s7, s8, s9, s10, s11, s12⟩
                         go_simp
                         with_reducible rfl
                        rotate_left
                        ·simp only [Act.put, y1, y2, y3, i64_w, i32_w]
                         rfl
                        refine take_ (i := 6) (N := some 56) (v := ?_) (a' := ?_) (bz 10 127) rfl rfl (take_ofW HT_.out HW_.out (by kernel_rfl)) (fun _ _ _ h => h) (Or.inl ⟨by rfl, ?_⟩) hHeld ?_ ?_
                        rotate_left
                        ·rintro w' ⟨s0, s1, s2, s3, s4, s5, s6, s7, s8, s9, s10, s11, s12⟩
                         go_simp
                         with_reducible rfl
                        rotate_left
                        ·simp only [Act.put, y1, y2, y3, i64_w, i32_w]
                         rfl
                        refine one_ (i := 7) (N := some 57) (bz 10 255) rfl rfl (one_of HT_.out (by kernel_rfl)) (by decide) (fun K hK => ?_)
                        refine goes_ Try.func23 (by kernel_rfl) rfl #[.agg #[.int .i64 ((rd_T25 l0 x29_2).f0), .int .i64 ((rd_T25 l0 x29_2).f1), .int .i64 ((rd_T25 l0 x29_2).f2), .int .i64 ((rd_T25 l0 x29_2).f3), .int .i64 ((rd_T25 l0 x29_2).f4), .int .i64 ((rd_T25 l0 x29_2).f5)], .agg #[.int .i64 ((rd_T25 l0 x42_3).f0), .int .i64 ((rd_T25 l0 x42_3).f1), .int .i64 ((rd_T25 l0 x42_3).f2), .int .i64 ((rd_T25 l0 x42_3).f3), .int .i64 ((rd_T25 l0 x42_3).f4), .int .i64 ((rd_T25 l0 x42_3).f5)]] (by rfl) rfl rfl (by (try simp only [List.map_toArray, List.map_cons, List.map_nil]); first | done | rfl) ?_
                        with_reducible refine (impl_Duty.calls k3 ((rd_T25 l0 x29_2).f0) ((rd_T25 l0 x29_2).f1) ((rd_T25 l0 x29_2).f2) ((rd_T25 l0 x29_2).f3) ((rd_T25 l0 x29_2).f4) ((rd_T25 l0 x29_2).f5) ((rd_T25 l0 x42_3).f0) ((rd_T25 l0 x42_3).f1) ((rd_T25 l0 x42_3).f2) ((rd_T25 l0 x42_3).f3) ((rd_T25 l0 x42_3).f4) ((rd_T25 l0 x42_3).f5) t156 _ A40.out).mono ?_
                        rintro e w48 ⟨rfl, hb⟩
                        have HS12_ := (hb.cell (World.block_lt_of_cell? _ _ (hHeld.2.2.2.2.2.2.2.2.2.2.2.2))).trans (hHeld.2.2.2.2.2.2.2.2.2.2.2.2)
                        refine ⟨_, rfl, ?_⟩
                        replace HO_6 := Aside0.mk (Kd.S_below (by (with_reducible repeat (first | apply Kd.S_alloc | apply Kd.S_drewN | apply Kd.S_drew)); exact HO_6.out) hb)
                        replace HL155_0 := Aside0.mk (Kd.R_below (by (with_reducible repeat (first | apply Kd.R_alloc | apply Kd.R_drewN | apply Kd.R_drew)); exact HL155_0.out) hb)
                        replace BK148 := Aside0.mk (blk_below (g := gb148) (up BK148) hb)
                        replace BK154 := Aside0.mk (blk_below (g := gb154) (up BK154) hb)
                        replace HR155_0 := Aside0.mk (Kd.C_below (by repeat (first | (with_reducible exact HR155_0.out) | (with_reducible refine Kd.C_alloc ?_ _) | (with_reducible refine Kd.C_drewN ?_ _) | (with_reducible refine Kd.C_drew ?_) | exact HR155_0.out)) hb)
                        replace HX155_0 := Aside0.mk (pw_cell_below hb HX155_0.out)
                        replace HB := Aside0.mk (below_step (by repeat (first | (with_reducible first | exact HB.out | apply below_alloc | apply pw_below_drewN | apply below_drew1 | refine below_set ?_ GE148.out | refine below_set ?_ GE154.out) | exact HB.out)) hb)
                        (try clear hb)
                        (try clear hb2)
                        (try clear hk)
                        (try clear hi)
                        have p42 : 0 ≤ (x42_3 : Int) := of_decide_eq_true (by first | (with_reducible assumption) | assumption)
                        have q42 : (x42_3 : Int) < (((rd_L3 x6_3 x29_2).length : Int) : Int) := of_decide_eq_true (by first | (with_reducible assumption) | assumption)
                        obtain ⟨go42, co42, eo42, gb42, gl42, cl42, HG42⟩ := Kd.R_form HL155_0.out (by omega)
                        (first | cases eo42 | (injection eo42 with ea_ en_ ec_; (first | subst ea_ | (injection ea_ with ea_; subst ea_)); subst ec_; clear en_))
                        have GB42 := Aside0.mk gb42
                        have GG42 := Aside0.mk HG42
                        clear gb42 gl42 HG42
                        obtain ⟨hx42_0, hf42_0⟩ := Kd.R_celln 0 HL155_0.out (x42_3 : Int) p42 q42
                        replace p42 := eq_true p42
                        replace q42 := eq_true q42
                        have hq49 : (x29_2 : Int) < (x6_3.length : Int) := (by have h_ : (x29_2 : Int) < ((x6_3.length : Int) : Int) := of_decide_eq_true (by first | (with_reducible assumption) | assumption); first | exact h_ | (have e_ := (Kd.S_reads' HO_6.out).1; omega) | simpa only [List.length_set, List.length_set] using h_)
                        obtain ⟨oki49, ce49, hcl49, hM49, hcc49, hok49, hbk49⟩ := Kd.S_borrow HO_6.out [] (x29_2 : Int) (of_decide_eq_true (by first | (with_reducible assumption) | assumption)) hq49
                        obtain ⟨ve49_0, rfl, ge49_0⟩ := hM49
                        have hv49 := hcc49 0 _ rfl
                        rw [Nat.add_zero, show ((Kd.slice 3 (Kd.int .i64))).sz = 1 from rfl, Nat.mul_one] at hv49
                        replace hv49 := Option.some.inj (hv49.symm.trans HX155_0.out)
                        subst hv49
                        clear hcc49 hcl49
                        replace ge49_0 := (show Kd.R (Kd.int .i64) 3 _ _ _ _ (rd_L3 x6_3 x29_2) from ge49_0)
                        have HP49 := Kd.R_putg ge49_0 (x42_3 : Int) t156
                        rw [← Ny157.out] at HP49
                        have HS49 := hbk49 HP49.2 (fun k_ e_ => by injection e_ with e_; subst e_; exact ge49_0.1 _ rfl) (x' := y157) (Kd.M_row HP49.1)
                        rw [← Ny159.out] at HS49
                        have HQ49 := Aside0.mk HS49
                        clear HP49 HS49 hbk49 hok49
                        refine hK.out _ _ ⟨(blk_cell BK148.out 0).trans rfl, (blk_cell BK148.out 1).trans rfl, (blk_cell BK148.out 2).trans rfl, (blk_cell BK148.out 3).trans rfl, (blk_cell BK148.out 4).trans rfl, (blk_cell BK148.out 5).trans rfl, (blk_cell BK154.out 0).trans rfl, (blk_cell BK154.out 1).trans rfl, (blk_cell BK154.out 2).trans rfl, (blk_cell BK154.out 3).trans rfl, (blk_cell BK154.out 4).trans rfl, (blk_cell BK154.out 5).trans rfl, HS12_⟩ (fun hHeld => ?_)
                        clear hK K
                        refine norm_ (a' := ?_) ?_ ?_
                        rotate_left
                        ·show Act.put _ (some 57) _ = _
                         simp only [Act.put, y1, y2, y3, i64_w, i32_w]
                         rfl
                        refine pure_ (i := 8) (N := some 58) (v := ?_) (a' := ?_) (bz 10 511) rfl rfl (any_of HT_.out (by kernel_rfl)) (fun _ _ _ h => h) (Or.inl ⟨by rfl, ?_⟩) ?_ ?_
                        rotate_left
                        ·intro w'
                         go_simp
                         with_reducible rfl
                        rotate_left
                        ·simp only [Act.put, y1, y2, y3, i64_w, i32_w]
                         rfl
                        refine last_ (i := 9) (N := none) (bz 10 1023) rfl rfl (one_of HT_.out (by kernel_rfl)) (by decide) (fun K hK => ?_)
                        refine skip_ (w1 := ?_) (by rfl) rfl ?_ ?_
                        rotate_left
                        ·go_simp
                         rfl
                        refine hK.out _ _ ?_
                        clear hK K
                        refine done_ (done_of HT_.out (by kernel_rfl)) ?_
                        try go_wp2
                        (try simp only [← hl6_3])
                        go_roundg k3
                        case measure => have := HK1.out; have := HK2.out; have := HK3.out; omega
                        case rel => exact ⟨(y159), (wrap64 (x42_3 + 1)), (by first | rfl | (simp; done) | (simp [*]; done)), H', ⟨by have := HK1.out; have := HK2.out; have := HK3.out; omega⟩, ⟨by (try simp only [hl6_3]); (with_reducible repeat (first | apply Kd.S_alloc | apply Kd.S_drewN | apply Kd.S_drew)); exact HQ49.out⟩, ⟨by (try simp only [hl6_3]); (with_reducible repeat (first | refine blk_drewN ?_ _ | refine blk_drew ?_ | refine blk_alloc ?_ _)); refine blk_far ?_ (by have h_ := Kd.R_ne HL155_0.out BK148.out (by decide); intro e_; exact h_ (by rw [e_]; rfl)) _; (with_reducible repeat (first | refine blk_drewN ?_ _ | refine blk_drew ?_ | refine blk_alloc ?_ _)); exact BK148.out⟩, ⟨by repeat (first | (with_reducible first | exact HB.out | apply below_alloc | apply pw_below_drewN | apply below_drew1 | refine below_set ?_ GB42.out | refine below_set ?_ GE148.out | refine below_set ?_ GE154.out) | exact HB.out)⟩⟩
                       ·rw [if_neg c41] at H
                        exact absurd H (by simp)
                      ·rw [if_neg c39] at H
                       exact absurd H (by simp)
                     ·rw [if_neg c38] at H
                      exact absurd H (by simp)
                   ·rw [if_neg c33] at H
                    exact absurd H (by simp)
                  ·rw [if_neg c32] at H
                   exact absurd H (by simp)
                 ·rw [if_neg c31] at H
                  have c31b0 : decide (x42_3 < (l0.length : Int)) = false := decide_eq_false c31
                  (try simp only [hl6_3] at c31b0)
                  clear c31
                  have H' := Aside0.mk H
                  clear H
                  go_wp2
                  (try simp only [← hl6_3])
                  go_roundg k3
                  case measure => have := HK1.out; have := HK2.out; have := HK3.out; omega
                  case rel => exact ⟨(x6_3), (wrap64 (x29_2 + 1)), (by first | rfl | (simp; done) | (simp [*]; done)), H', ⟨by have := HK1.out; have := HK2.out; have := HK3.out; omega⟩, ⟨by (try simp only [hl6_3]); (with_reducible repeat (first | apply Kd.S_alloc | apply Kd.S_drewN | apply Kd.S_drew)); exact HO_6.out⟩, ⟨by repeat (first | (with_reducible first | exact HB.out | apply below_alloc | apply pw_below_drewN | apply below_drew1 | refine below_set ?_ GE148.out) | exact HB.out)⟩⟩
              ·rw [if_neg c23] at H
               exact absurd H (by simp)
             ·rw [if_neg c22] at H
              exact absurd H (by simp)
            ·rw [if_neg c21] at H
             exact absurd H (by simp)
           ·rw [if_neg c20] at H
            exact absurd H (by simp)
          ·rw [if_neg c19] at H
           exact absurd H (by simp)
         ·rw [if_neg c18] at H
          have c18b0 : decide (x29_2 < (l0.length : Int)) = false := decide_eq_false c18
          (try simp only [hl6_3] at c18b0)
          clear c18
          simp only [Option.some.injEq, Prod.mk.injEq] at H
          obtain ⟨rfl, rfl⟩ := H
          go_wp2
          go_ret2
          exact ⟨_, by first | rfl | (simp [errW_none, errW_some] <;> rfl) | (simp [*, errW_none, errW_some] <;> rfl), by (with_reducible repeat (first | apply Kd.S_alloc | apply Kd.S_drewN | apply Kd.S_drew)); exact HO_6.out, by repeat (first | (with_reducible first | exact HB.out | apply below_alloc | apply pw_below_drewN | apply below_drew1) | exact HB.out)⟩
      ·rw [if_neg c15] at H
       exact absurd H (by simp)
     ·rw [if_neg c14] at H
      exact absurd H (by simp)

/-! ### spec_l1In: function 55 -/
def spec_l1In.f (a0 : Int) (a1 : Int) (a2 : Int) : Option (Bool) := if a0 ≥ a1 then (some (decide (a0 ≤ a2))) else (some false)
set_option maxHeartbeats 8000000 in
set_option maxRecDepth 100000 in
theorem spec_l1In.calls (a0 : Int) (a1 : Int) (a2 : Int) (r : Bool) (w : World) (h : spec_l1In.f a0 a1 a2 = some r) :
  Calls Try.prog 55 #[.int .i64 a0, .int .i64 a1, .int .i64 a2] w fun e w' => e = .returned (.bool r) ∧ Drawn0 w w' := by
 have H : (if a0 ≥ a1 then (some (decide (a0 ≤ a2))) else (some false)) = some r := h
 clear h
 by_cases c4 : a0 ≥ a1
 ·rw [if_pos c4] at H
  have c4b0 : decide (a1 ≤ a0) = true := decide_eq_true c4
  clear c4
  obtain rfl := Option.some.inj H
  go_enter Try.func55, Try.ntmps55
  go_wp2
  go_ret
  exact ⟨by first | rfl | (simp; done) | (simp [*]; done), by repeat (first | exact Drawn0.refl _ | apply Drawn0.step)⟩
 ·rw [if_neg c4] at H
  have c4b0 : decide (a1 ≤ a0) = false := decide_eq_false c4
  clear c4
  obtain rfl := Option.some.inj H
  go_enter Try.func55, Try.ntmps55
  go_wp2
  go_ret
  exact ⟨by first | rfl | (simp; done) | (simp [*]; done), by repeat (first | exact Drawn0.refl _ | apply Drawn0.step)⟩

end Go.Proofs.Ytfbokdbaondjdaa.PV1
-- printed for this claim out of the translation
namespace Go.Proofs.Ytfbokdbaondjdaa.PV1
open Go.RowKit Go.Proofs.YtfbokdbaondjdaaW.PrintWords Go.Proofs.YtfbokdbaondjdaaW.PrintLast Go.Proofs.YtfbokdbaondjdaaW.PrintMore Go.Proofs.Ytfbokdbaondjdaa.Cz
attribute [local go_sem] max2_int min2_int max_two min_two max_three min_three max_four min_four
set_option linter.unusedVariables false
set_option linter.unusedSimpArgs false

/-! ### spec_ShipOk: function 15 -/
def spec_ShipOk.f (a0_0 : Int) (a0_1 : Int) (a0_2 : Int) (a0_3 : Int) (a0_4 : Int) (a0_5 : Int) : Option (Bool) := (spec_l1In.f a0_0 (-100000) 100000).bind fun t161 => (if t161 = true then ((spec_l1In.f a0_1 (-100000) 100000).bind fun t162 => (if t162 = true then ((spec_l1In.f a0_2 (-1000) 1000).bind fun t163 => (if t163 = true then ((spec_l1In.f a0_3 (-1000) 1000).bind fun t164 => (if t164 = true then (if a0_2 = 0 then (if a0_3 = 0 then (some false) else ((spec_l1In.f a0_4 1 5).bind fun t165 => (if t165 = true then ((spec_l1In.f a0_5 0 1000).bind fun t166 => (some t166)) else (some false)))) else ((spec_l1In.f a0_4 1 5).bind fun t167 => (if t167 = true then ((spec_l1In.f a0_5 0 1000).bind fun t168 => (some t168)) else (some false)))) else (some false))) else (some false))) else (some false))) else (some false))
set_option maxHeartbeats 8000000 in
set_option maxRecDepth 100000 in
theorem spec_ShipOk.calls (a0_0 : Int) (a0_1 : Int) (a0_2 : Int) (a0_3 : Int) (a0_4 : Int) (a0_5 : Int) (r : Bool) (w : World) (h : spec_ShipOk.f a0_0 a0_1 a0_2 a0_3 a0_4 a0_5 = some r) :
  Calls Try.prog 15 #[.agg #[.int .i64 a0_0, .int .i64 a0_1, .int .i64 a0_2, .int .i64 a0_3, .int .i64 a0_4, .int .i64 a0_5]] w fun e w' => e = .returned (.bool r) ∧ Below w.heap.size w w' := by
 have hu25 := Try.underlying25
 have HB := Aside0.mk (Below.refl w.heap.size w)
 have H : ((spec_l1In.f a0_0 (-100000) 100000).bind fun t161 => (if t161 = true then ((spec_l1In.f a0_1 (-100000) 100000).bind fun t162 => (if t162 = true then ((spec_l1In.f a0_2 (-1000) 1000).bind fun t163 => (if t163 = true then ((spec_l1In.f a0_3 (-1000) 1000).bind fun t164 => (if t164 = true then (if a0_2 = 0 then (if a0_3 = 0 then (some false) else ((spec_l1In.f a0_4 1 5).bind fun t165 => (if t165 = true then ((spec_l1In.f a0_5 0 1000).bind fun t166 => (some t166)) else (some false)))) else ((spec_l1In.f a0_4 1 5).bind fun t167 => (if t167 = true then ((spec_l1In.f a0_5 0 1000).bind fun t168 => (some t168)) else (some false)))) else (some false))) else (some false))) else (some false))) else (some false))) = some r := h
 clear h
 replace H := Option.bind_eq_some_iff.mp H
 obtain ⟨t161, A20, H⟩ := H
 replace H : (if t161 = true then ((spec_l1In.f a0_1 (-100000) 100000).bind fun t162 => (if t162 = true then ((spec_l1In.f a0_2 (-1000) 1000).bind fun t163 => (if t163 = true then ((spec_l1In.f a0_3 (-1000) 1000).bind fun t164 => (if t164 = true then (if a0_2 = 0 then (if a0_3 = 0 then (some false) else ((spec_l1In.f a0_4 1 5).bind fun t165 => (if t165 = true then ((spec_l1In.f a0_5 0 1000).bind fun t166 => (some t166)) else (some false)))) else ((spec_l1In.f a0_4 1 5).bind fun t167 => (if t167 = true then ((spec_l1In.f a0_5 0 1000).bind fun t168 => (some t168)) else (some false)))) else (some false))) else (some false))) else (some false))) else (some false)) = some r := H
 have A2 := Aside0.mk A20
 clear A20
 by_cases c3 : t161 = true
 ·subst c3
  have H1 : ((spec_l1In.f a0_1 (-100000) 100000).bind fun t162 => (if t162 = true then ((spec_l1In.f a0_2 (-1000) 1000).bind fun t163 => (if t163 = true then ((spec_l1In.f a0_3 (-1000) 1000).bind fun t164 => (if t164 = true then (if a0_2 = 0 then (if a0_3 = 0 then (some false) else ((spec_l1In.f a0_4 1 5).bind fun t165 => (if t165 = true then ((spec_l1In.f a0_5 0 1000).bind fun t166 => (some t166)) else (some false)))) else ((spec_l1In.f a0_4 1 5).bind fun t167 => (if t167 = true then ((spec_l1In.f a0_5 0 1000).bind fun t168 => (some t168)) else (some false)))) else (some false))) else (some false))) else (some false))) = some r := by rw [if_pos rfl] at H; exact H
  clear H
  have H := H1
  clear H1
  replace H := Option.bind_eq_some_iff.mp H
  obtain ⟨t162, A40, H⟩ := H
  replace H : (if t162 = true then ((spec_l1In.f a0_2 (-1000) 1000).bind fun t163 => (if t163 = true then ((spec_l1In.f a0_3 (-1000) 1000).bind fun t164 => (if t164 = true then (if a0_2 = 0 then (if a0_3 = 0 then (some false) else ((spec_l1In.f a0_4 1 5).bind fun t165 => (if t165 = true then ((spec_l1In.f a0_5 0 1000).bind fun t166 => (some t166)) else (some false)))) else ((spec_l1In.f a0_4 1 5).bind fun t167 => (if t167 = true then ((spec_l1In.f a0_5 0 1000).bind fun t168 => (some t168)) else (some false)))) else (some false))) else (some false))) else (some false)) = some r := H
  have A4 := Aside0.mk A40
  clear A40
  by_cases c5 : t162 = true
  ·subst c5
   have H1 : ((spec_l1In.f a0_2 (-1000) 1000).bind fun t163 => (if t163 = true then ((spec_l1In.f a0_3 (-1000) 1000).bind fun t164 => (if t164 = true then (if a0_2 = 0 then (if a0_3 = 0 then (some false) else ((spec_l1In.f a0_4 1 5).bind fun t165 => (if t165 = true then ((spec_l1In.f a0_5 0 1000).bind fun t166 => (some t166)) else (some false)))) else ((spec_l1In.f a0_4 1 5).bind fun t167 => (if t167 = true then ((spec_l1In.f a0_5 0 1000).bind fun t168 => (some t168)) else (some false)))) else (some false))) else (some false))) = some r := by rw [if_pos rfl] at H; exact H
   clear H
   have H := H1
   clear H1
   replace H := Option.bind_eq_some_iff.mp H
   obtain ⟨t163, A60, H⟩ := H
   replace H : (if t163 = true then ((spec_l1In.f a0_3 (-1000) 1000).bind fun t164 => (if t164 = true then (if a0_2 = 0 then (if a0_3 = 0 then (some false) else ((spec_l1In.f a0_4 1 5).bind fun t165 => (if t165 = true then ((spec_l1In.f a0_5 0 1000).bind fun t166 => (some t166)) else (some false)))) else ((spec_l1In.f a0_4 1 5).bind fun t167 => (if t167 = true then ((spec_l1In.f a0_5 0 1000).bind fun t168 => (some t168)) else (some false)))) else (some false))) else (some false)) = some r := H
   have A6 := Aside0.mk A60
   clear A60
   by_cases c7 : t163 = true
   ·subst c7
    have H1 : ((spec_l1In.f a0_3 (-1000) 1000).bind fun t164 => (if t164 = true then (if a0_2 = 0 then (if a0_3 = 0 then (some false) else ((spec_l1In.f a0_4 1 5).bind fun t165 => (if t165 = true then ((spec_l1In.f a0_5 0 1000).bind fun t166 => (some t166)) else (some false)))) else ((spec_l1In.f a0_4 1 5).bind fun t167 => (if t167 = true then ((spec_l1In.f a0_5 0 1000).bind fun t168 => (some t168)) else (some false)))) else (some false))) = some r := by rw [if_pos rfl] at H; exact H
    clear H
    have H := H1
    clear H1
    replace H := Option.bind_eq_some_iff.mp H
    obtain ⟨t164, A80, H⟩ := H
    replace H : (if t164 = true then (if a0_2 = 0 then (if a0_3 = 0 then (some false) else ((spec_l1In.f a0_4 1 5).bind fun t165 => (if t165 = true then ((spec_l1In.f a0_5 0 1000).bind fun t166 => (some t166)) else (some false)))) else ((spec_l1In.f a0_4 1 5).bind fun t167 => (if t167 = true then ((spec_l1In.f a0_5 0 1000).bind fun t168 => (some t168)) else (some false)))) else (some false)) = some r := H
    have A8 := Aside0.mk A80
    clear A80
    by_cases c9 : t164 = true
    ·subst c9
     have H1 : (if a0_2 = 0 then (if a0_3 = 0 then (some false) else ((spec_l1In.f a0_4 1 5).bind fun t165 => (if t165 = true then ((spec_l1In.f a0_5 0 1000).bind fun t166 => (some t166)) else (some false)))) else ((spec_l1In.f a0_4 1 5).bind fun t167 => (if t167 = true then ((spec_l1In.f a0_5 0 1000).bind fun t168 => (some t168)) else (some false)))) = some r := by rw [if_pos rfl] at H; exact H
     clear H
     have H := H1
     clear H1
     by_cases c10 : a0_2 = 0
     ·rw [if_pos c10] at H
      have c10b0 : (a0_2 == 0) = true := beq_iff_eq.mpr c10
      have c10b1 : (a0_2 != 0) = false := bne_eq_false_iff_eq.mpr c10
      clear c10
      by_cases c11 : a0_3 = 0
      ·rw [if_pos c11] at H
       have c11b0 : (a0_3 == 0) = true := beq_iff_eq.mpr c11
       have c11b1 : (a0_3 != 0) = false := bne_eq_false_iff_eq.mpr c11
       clear c11
       obtain rfl := Option.some.inj H
       go_enter Try.func15, Try.ntmps15
       go_wp2_with (first | ((with_reducible refine gate_dst (N := 1) rfl ?_); refine box_event ?hg (N := 1) ?hd (cs := #[.int .i64 a0_0, .int .i64 a0_1, .int .i64 a0_2, .int .i64 a0_3, .int .i64 a0_4, .int .i64 a0_5]) (t := 25) ?hr ?_; (case hd => rfl); (case hg => rfl); (case hr => first | (go_simp; done) | (go_simp; rfl)); intro gb160 hg w12 hbox hb; replace BK160 := Aside0.mk (hbox); replace GW160 := Aside0.mk ((by rw [hg]; exact (below_size (ub HB)) : w.heap.size ≤ gb160)); replace GE160 := Aside0.mk ((by rw [hg]; exact (below_size (ub HB)) : w.heap.size ≤ gb160)); replace HB := Aside0.mk (below_step (ub HB) hb); clear hb hbox hg; obtain ⟨hcz13_0, hcz13_1, hcz13_2, hcz13_3, hcz13_4, hcz13_5, hfz13_0, hfz13_1, hfz13_2, hfz13_3, hfz13_4, hfz13_5⟩ := six BK160) | ((with_reducible refine gate_callee (f := 55) rfl ?_); refine goesL_ (some 5) rfl rfl Try.func55 (by kernel_rfl) rfl #[.int .i64 a0_0, .int .i64 (-100000), .int .i64 100000] rfl (by (try simp only [List.map_toArray, List.map_cons, List.map_nil]); first | done | rfl) ?_; (with_reducible refine (spec_l1In.calls a0_0 (-100000) 100000 true _ A2.out).mono ?_); rintro e w' ⟨rfl, ⟨nd, rfl⟩⟩; refine ⟨_, rfl, ?_⟩) | (go_at_call 55; (with_reducible refine (spec_l1In.calls a0_1 (-100000) 100000 true _ A4.out).mono ?_); rintro e w' ⟨rfl, ⟨nd, rfl⟩⟩) | (go_at_call 55; (with_reducible refine (spec_l1In.calls a0_2 (-1000) 1000 true _ A6.out).mono ?_); rintro e w' ⟨rfl, ⟨nd, rfl⟩⟩) | (go_at_call 55; (with_reducible refine (spec_l1In.calls a0_3 (-1000) 1000 true _ A8.out).mono ?_); rintro e w' ⟨rfl, ⟨nd, rfl⟩⟩))
       go_ret
       exact ⟨by first | rfl | (simp [errW_none, errW_some] <;> rfl) | (simp [*, errW_none, errW_some] <;> rfl), by repeat (first | (with_reducible first | exact HB.out | apply below_alloc | apply pw_below_drewN | apply below_drew1 | refine below_set ?_ GE160.out) | exact HB.out)⟩
      ·rw [if_neg c11] at H
       have c11b0 : (a0_3 == 0) = false := beq_eq_false_iff_ne.mpr c11
       have c11b1 : (a0_3 != 0) = true := bne_iff_ne.mpr c11
       replace H := Option.bind_eq_some_iff.mp H
       obtain ⟨t165, A140, H⟩ := H
       replace H : (if t165 = true then ((spec_l1In.f a0_5 0 1000).bind fun t166 => (some t166)) else (some false)) = some r := H
       have A14 := Aside0.mk A140
       clear A140
       by_cases c15 : t165 = true
       ·subst c15
        have H1 : ((spec_l1In.f a0_5 0 1000).bind fun t166 => (some t166)) = some r := by rw [if_pos rfl] at H; exact H
        clear H
        have H := H1
        clear H1
        replace H := Option.bind_eq_some_iff.mp H
        obtain ⟨t166, A160, H⟩ := H
        replace H : (some t166) = some r := H
        have A16 := Aside0.mk A160
        clear A160
        obtain rfl := Option.some.inj H
        go_enter Try.func15, Try.ntmps15
        go_wp2_with (first | ((with_reducible refine gate_dst (N := 1) rfl ?_); refine box_event ?hg (N := 1) ?hd (cs := #[.int .i64 a0_0, .int .i64 a0_1, .int .i64 a0_2, .int .i64 a0_3, .int .i64 a0_4, .int .i64 a0_5]) (t := 25) ?hr ?_; (case hd => rfl); (case hg => rfl); (case hr => first | (go_simp; done) | (go_simp; rfl)); intro gb160 hg w17 hbox hb; replace BK160 := Aside0.mk (hbox); replace GW160 := Aside0.mk ((by rw [hg]; exact (below_size (ub HB)) : w.heap.size ≤ gb160)); replace GE160 := Aside0.mk ((by rw [hg]; exact (below_size (ub HB)) : w.heap.size ≤ gb160)); replace HB := Aside0.mk (below_step (ub HB) hb); clear hb hbox hg; obtain ⟨hcz18_0, hcz18_1, hcz18_2, hcz18_3, hcz18_4, hcz18_5, hfz18_0, hfz18_1, hfz18_2, hfz18_3, hfz18_4, hfz18_5⟩ := six BK160) | ((with_reducible refine gate_callee (f := 55) rfl ?_); refine goesL_ (some 5) rfl rfl Try.func55 (by kernel_rfl) rfl #[.int .i64 a0_0, .int .i64 (-100000), .int .i64 100000] rfl (by (try simp only [List.map_toArray, List.map_cons, List.map_nil]); first | done | rfl) ?_; (with_reducible refine (spec_l1In.calls a0_0 (-100000) 100000 true _ A2.out).mono ?_); rintro e w' ⟨rfl, ⟨nd, rfl⟩⟩; refine ⟨_, rfl, ?_⟩) | (go_at_call 55; (with_reducible refine (spec_l1In.calls a0_1 (-100000) 100000 true _ A4.out).mono ?_); rintro e w' ⟨rfl, ⟨nd, rfl⟩⟩) | (go_at_call 55; (with_reducible refine (spec_l1In.calls a0_2 (-1000) 1000 true _ A6.out).mono ?_); rintro e w' ⟨rfl, ⟨nd, rfl⟩⟩) | (go_at_call 55; (with_reducible refine (spec_l1In.calls a0_3 (-1000) 1000 true _ A8.out).mono ?_); rintro e w' ⟨rfl, ⟨nd, rfl⟩⟩) | (go_at_call 55; (with_reducible refine (spec_l1In.calls a0_4 1 5 true _ A14.out).mono ?_); rintro e w' ⟨rfl, ⟨nd, rfl⟩⟩) | (go_at_call 55; (with_reducible refine (spec_l1In.calls a0_5 0 1000 t166 _ A16.out).mono ?_); rintro e w' ⟨rfl, ⟨nd, rfl⟩⟩))
        go_ret
        exact ⟨by first | rfl | (simp [errW_none, errW_some] <;> rfl) | (simp [*, errW_none, errW_some] <;> rfl), by repeat (first | (with_reducible first | exact HB.out | apply below_alloc | apply pw_below_drewN | apply below_drew1 | refine below_set ?_ GE160.out) | exact HB.out)⟩
       ·replace c15 := Bool.eq_false_iff.mpr c15
        subst c15
        have H1 : (some false) = some r := by rw [if_neg (show ¬ (false = true) by decide)] at H; exact H
        clear H
        have H := H1
        clear H1
        obtain rfl := Option.some.inj H
        go_enter Try.func15, Try.ntmps15
        go_wp2_with (first | ((with_reducible refine gate_dst (N := 1) rfl ?_); refine box_event ?hg (N := 1) ?hd (cs := #[.int .i64 a0_0, .int .i64 a0_1, .int .i64 a0_2, .int .i64 a0_3, .int .i64 a0_4, .int .i64 a0_5]) (t := 25) ?hr ?_; (case hd => rfl); (case hg => rfl); (case hr => first | (go_simp; done) | (go_simp; rfl)); intro gb160 hg w19 hbox hb; replace BK160 := Aside0.mk (hbox); replace GW160 := Aside0.mk ((by rw [hg]; exact (below_size (ub HB)) : w.heap.size ≤ gb160)); replace GE160 := Aside0.mk ((by rw [hg]; exact (below_size (ub HB)) : w.heap.size ≤ gb160)); replace HB := Aside0.mk (below_step (ub HB) hb); clear hb hbox hg; obtain ⟨hcz20_0, hcz20_1, hcz20_2, hcz20_3, hcz20_4, hcz20_5, hfz20_0, hfz20_1, hfz20_2, hfz20_3, hfz20_4, hfz20_5⟩ := six BK160) | ((with_reducible refine gate_callee (f := 55) rfl ?_); refine goesL_ (some 5) rfl rfl Try.func55 (by kernel_rfl) rfl #[.int .i64 a0_0, .int .i64 (-100000), .int .i64 100000] rfl (by (try simp only [List.map_toArray, List.map_cons, List.map_nil]); first | done | rfl) ?_; (with_reducible refine (spec_l1In.calls a0_0 (-100000) 100000 true _ A2.out).mono ?_); rintro e w' ⟨rfl, ⟨nd, rfl⟩⟩; refine ⟨_, rfl, ?_⟩) | (go_at_call 55; (with_reducible refine (spec_l1In.calls a0_1 (-100000) 100000 true _ A4.out).mono ?_); rintro e w' ⟨rfl, ⟨nd, rfl⟩⟩) | (go_at_call 55; (with_reducible refine (spec_l1In.calls a0_2 (-1000) 1000 true _ A6.out).mono ?_); rintro e w' ⟨rfl, ⟨nd, rfl⟩⟩) | (go_at_call 55; (with_reducible refine (spec_l1In.calls a0_3 (-1000) 1000 true _ A8.out).mono ?_); rintro e w' ⟨rfl, ⟨nd, rfl⟩⟩) | (go_at_call 55; (with_reducible refine (spec_l1In.calls a0_4 1 5 false _ A14.out).mono ?_); rintro e w' ⟨rfl, ⟨nd, rfl⟩⟩))
        go_ret
        exact ⟨by first | rfl | (simp [errW_none, errW_some] <;> rfl) | (simp [*, errW_none, errW_some] <;> rfl), by repeat (first | (with_reducible first | exact HB.out | apply below_alloc | apply pw_below_drewN | apply below_drew1 | refine below_set ?_ GE160.out) | exact HB.out)⟩
     ·rw [if_neg c10] at H
      have c10b0 : (a0_2 == 0) = false := beq_eq_false_iff_ne.mpr c10
      have c10b1 : (a0_2 != 0) = true := bne_iff_ne.mpr c10
      replace H := Option.bind_eq_some_iff.mp H
      obtain ⟨t167, A210, H⟩ := H
      replace H : (if t167 = true then ((spec_l1In.f a0_5 0 1000).bind fun t168 => (some t168)) else (some false)) = some r := H
      have A21 := Aside0.mk A210
      clear A210
      by_cases c22 : t167 = true
      ·subst c22
       have H1 : ((spec_l1In.f a0_5 0 1000).bind fun t168 => (some t168)) = some r := by rw [if_pos rfl] at H; exact H
       clear H
       have H := H1
       clear H1
       replace H := Option.bind_eq_some_iff.mp H
       obtain ⟨t168, A230, H⟩ := H
       replace H : (some t168) = some r := H
       have A23 := Aside0.mk A230
       clear A230
       obtain rfl := Option.some.inj H
       go_enter Try.func15, Try.ntmps15
       go_wp2_with (first | ((with_reducible refine gate_dst (N := 1) rfl ?_); refine box_event ?hg (N := 1) ?hd (cs := #[.int .i64 a0_0, .int .i64 a0_1, .int .i64 a0_2, .int .i64 a0_3, .int .i64 a0_4, .int .i64 a0_5]) (t := 25) ?hr ?_; (case hd => rfl); (case hg => rfl); (case hr => first | (go_simp; done) | (go_simp; rfl)); intro gb160 hg w24 hbox hb; replace BK160 := Aside0.mk (hbox); replace GW160 := Aside0.mk ((by rw [hg]; exact (below_size (ub HB)) : w.heap.size ≤ gb160)); replace GE160 := Aside0.mk ((by rw [hg]; exact (below_size (ub HB)) : w.heap.size ≤ gb160)); replace HB := Aside0.mk (below_step (ub HB) hb); clear hb hbox hg; obtain ⟨hcz25_0, hcz25_1, hcz25_2, hcz25_3, hcz25_4, hcz25_5, hfz25_0, hfz25_1, hfz25_2, hfz25_3, hfz25_4, hfz25_5⟩ := six BK160) | ((with_reducible refine gate_callee (f := 55) rfl ?_); refine goesL_ (some 5) rfl rfl Try.func55 (by kernel_rfl) rfl #[.int .i64 a0_0, .int .i64 (-100000), .int .i64 100000] rfl (by (try simp only [List.map_toArray, List.map_cons, List.map_nil]); first | done | rfl) ?_; (with_reducible refine (spec_l1In.calls a0_0 (-100000) 100000 true _ A2.out).mono ?_); rintro e w' ⟨rfl, ⟨nd, rfl⟩⟩; refine ⟨_, rfl, ?_⟩) | (go_at_call 55; (with_reducible refine (spec_l1In.calls a0_1 (-100000) 100000 true _ A4.out).mono ?_); rintro e w' ⟨rfl, ⟨nd, rfl⟩⟩) | (go_at_call 55; (with_reducible refine (spec_l1In.calls a0_2 (-1000) 1000 true _ A6.out).mono ?_); rintro e w' ⟨rfl, ⟨nd, rfl⟩⟩) | (go_at_call 55; (with_reducible refine (spec_l1In.calls a0_3 (-1000) 1000 true _ A8.out).mono ?_); rintro e w' ⟨rfl, ⟨nd, rfl⟩⟩) | (go_at_call 55; (with_reducible refine (spec_l1In.calls a0_4 1 5 true _ A21.out).mono ?_); rintro e w' ⟨rfl, ⟨nd, rfl⟩⟩) | (go_at_call 55; (with_reducible refine (spec_l1In.calls a0_5 0 1000 t168 _ A23.out).mono ?_); rintro e w' ⟨rfl, ⟨nd, rfl⟩⟩))
       go_ret
       exact ⟨by first | rfl | (simp [errW_none, errW_some] <;> rfl) | (simp [*, errW_none, errW_some] <;> rfl), by repeat (first | (with_reducible first | exact HB.out | apply below_alloc | apply pw_below_drewN | apply below_drew1 | refine below_set ?_ GE160.out) | exact HB.out)⟩
      ·replace c22 := Bool.eq_false_iff.mpr c22
       subst c22
       have H1 : (some false) = some r := by rw [if_neg (show ¬ (false = true) by decide)] at H; exact H
       clear H
       have H := H1
       clear H1
       obtain rfl := Option.some.inj H
       go_enter Try.func15, Try.ntmps15
       go_wp2_with (first | ((with_reducible refine gate_dst (N := 1) rfl ?_); refine box_event ?hg (N := 1) ?hd (cs := #[.int .i64 a0_0, .int .i64 a0_1, .int .i64 a0_2, .int .i64 a0_3, .int .i64 a0_4, .int .i64 a0_5]) (t := 25) ?hr ?_; (case hd => rfl); (case hg => rfl); (case hr => first | (go_simp; done) | (go_simp; rfl)); intro gb160 hg w26 hbox hb; replace BK160 := Aside0.mk (hbox); replace GW160 := Aside0.mk ((by rw [hg]; exact (below_size (ub HB)) : w.heap.size ≤ gb160)); replace GE160 := Aside0.mk ((by rw [hg]; exact (below_size (ub HB)) : w.heap.size ≤ gb160)); replace HB := Aside0.mk (below_step (ub HB) hb); clear hb hbox hg; obtain ⟨hcz27_0, hcz27_1, hcz27_2, hcz27_3, hcz27_4, hcz27_5, hfz27_0, hfz27_1, hfz27_2, hfz27_3, hfz27_4, hfz27_5⟩ := six BK160) | ((with_reducible refine gate_callee (f := 55) rfl ?_); refine goesL_ (some 5) rfl rfl Try.func55 (by kernel_rfl) rfl #[.int .i64 a0_0, .int .i64 (-100000), .int .i64 100000] rfl (by (try simp only [List.map_toArray, List.map_cons, List.map_nil]); first | done | rfl) ?_; (with_reducible refine (spec_l1In.calls a0_0 (-100000) 100000 true _ A2.out).mono ?_); rintro e w' ⟨rfl, ⟨nd, rfl⟩⟩; refine ⟨_, rfl, ?_⟩) | (go_at_call 55; (with_reducible refine (spec_l1In.calls a0_1 (-100000) 100000 true _ A4.out).mono ?_); rintro e w' ⟨rfl, ⟨nd, rfl⟩⟩) | (go_at_call 55; (with_reducible refine (spec_l1In.calls a0_2 (-1000) 1000 true _ A6.out).mono ?_); rintro e w' ⟨rfl, ⟨nd, rfl⟩⟩) | (go_at_call 55; (with_reducible refine (spec_l1In.calls a0_3 (-1000) 1000 true _ A8.out).mono ?_); rintro e w' ⟨rfl, ⟨nd, rfl⟩⟩) | (go_at_call 55; (with_reducible refine (spec_l1In.calls a0_4 1 5 false _ A21.out).mono ?_); rintro e w' ⟨rfl, ⟨nd, rfl⟩⟩))
       go_ret
       exact ⟨by first | rfl | (simp [errW_none, errW_some] <;> rfl) | (simp [*, errW_none, errW_some] <;> rfl), by repeat (first | (with_reducible first | exact HB.out | apply below_alloc | apply pw_below_drewN | apply below_drew1 | refine below_set ?_ GE160.out) | exact HB.out)⟩
    ·replace c9 := Bool.eq_false_iff.mpr c9
     subst c9
     have H1 : (some false) = some r := by rw [if_neg (show ¬ (false = true) by decide)] at H; exact H
     clear H
     have H := H1
     clear H1
     obtain rfl := Option.some.inj H
     go_enter Try.func15, Try.ntmps15
     go_wp2_with (first | ((with_reducible refine gate_dst (N := 1) rfl ?_); refine box_event ?hg (N := 1) ?hd (cs := #[.int .i64 a0_0, .int .i64 a0_1, .int .i64 a0_2, .int .i64 a0_3, .int .i64 a0_4, .int .i64 a0_5]) (t := 25) ?hr ?_; (case hd => rfl); (case hg => rfl); (case hr => first | (go_simp; done) | (go_simp; rfl)); intro gb160 hg w28 hbox hb; replace BK160 := Aside0.mk (hbox); replace GW160 := Aside0.mk ((by rw [hg]; exact (below_size (ub HB)) : w.heap.size ≤ gb160)); replace GE160 := Aside0.mk ((by rw [hg]; exact (below_size (ub HB)) : w.heap.size ≤ gb160)); replace HB := Aside0.mk (below_step (ub HB) hb); clear hb hbox hg; obtain ⟨hcz29_0, hcz29_1, hcz29_2, hcz29_3, hcz29_4, hcz29_5, hfz29_0, hfz29_1, hfz29_2, hfz29_3, hfz29_4, hfz29_5⟩ := six BK160) | ((with_reducible refine gate_callee (f := 55) rfl ?_); refine goesL_ (some 5) rfl rfl Try.func55 (by kernel_rfl) rfl #[.int .i64 a0_0, .int .i64 (-100000), .int .i64 100000] rfl (by (try simp only [List.map_toArray, List.map_cons, List.map_nil]); first | done | rfl) ?_; (with_reducible refine (spec_l1In.calls a0_0 (-100000) 100000 true _ A2.out).mono ?_); rintro e w' ⟨rfl, ⟨nd, rfl⟩⟩; refine ⟨_, rfl, ?_⟩) | (go_at_call 55; (with_reducible refine (spec_l1In.calls a0_1 (-100000) 100000 true _ A4.out).mono ?_); rintro e w' ⟨rfl, ⟨nd, rfl⟩⟩) | (go_at_call 55; (with_reducible refine (spec_l1In.calls a0_2 (-1000) 1000 true _ A6.out).mono ?_); rintro e w' ⟨rfl, ⟨nd, rfl⟩⟩) | (go_at_call 55; (with_reducible refine (spec_l1In.calls a0_3 (-1000) 1000 false _ A8.out).mono ?_); rintro e w' ⟨rfl, ⟨nd, rfl⟩⟩))
     go_ret
     exact ⟨by first | rfl | (simp [errW_none, errW_some] <;> rfl) | (simp [*, errW_none, errW_some] <;> rfl), by repeat (first | (with_reducible first | exact HB.out | apply below_alloc | apply pw_below_drewN | apply below_drew1 | refine below_set ?_ GE160.out) | exact HB.out)⟩
   ·replace c7 := Bool.eq_false_iff.mpr c7
    subst c7
    have H1 : (some false) = some r := by rw [if_neg (show ¬ (false = true) by decide)] at H; exact H
    clear H
    have H := H1
    clear H1
    obtain rfl := Option.some.inj H
    go_enter Try.func15, Try.ntmps15
    go_wp2_with (first | ((with_reducible refine gate_dst (N := 1) rfl ?_); refine box_event ?hg (N := 1) ?hd (cs := #[.int .i64 a0_0, .int .i64 a0_1, .int .i64 a0_2, .int .i64 a0_3, .int .i64 a0_4, .int .i64 a0_5]) (t := 25) ?hr ?_; (case hd => rfl); (case hg => rfl); (case hr => first | (go_simp; done) | (go_simp; rfl)); intro gb160 hg w30 hbox hb; replace BK160 := Aside0.mk (hbox); replace GW160 := Aside0.mk ((by rw [hg]; exact (below_size (ub HB)) : w.heap.size ≤ gb160)); replace GE160 := Aside0.mk ((by rw [hg]; exact (below_size (ub HB)) : w.heap.size ≤ gb160)); replace HB := Aside0.mk (below_step (ub HB) hb); clear hb hbox hg; obtain ⟨hcz31_0, hcz31_1, hcz31_2, hcz31_3, hcz31_4, hcz31_5, hfz31_0, hfz31_1, hfz31_2, hfz31_3, hfz31_4, hfz31_5⟩ := six BK160) | ((with_reducible refine gate_callee (f := 55) rfl ?_); refine goesL_ (some 5) rfl rfl Try.func55 (by kernel_rfl) rfl #[.int .i64 a0_0, .int .i64 (-100000), .int .i64 100000] rfl (by (try simp only [List.map_toArray, List.map_cons, List.map_nil]); first | done | rfl) ?_; (with_reducible refine (spec_l1In.calls a0_0 (-100000) 100000 true _ A2.out).mono ?_); rintro e w' ⟨rfl, ⟨nd, rfl⟩⟩; refine ⟨_, rfl, ?_⟩) | (go_at_call 55; (with_reducible refine (spec_l1In.calls a0_1 (-100000) 100000 true _ A4.out).mono ?_); rintro e w' ⟨rfl, ⟨nd, rfl⟩⟩) | (go_at_call 55; (with_reducible refine (spec_l1In.calls a0_2 (-1000) 1000 false _ A6.out).mono ?_); rintro e w' ⟨rfl, ⟨nd, rfl⟩⟩))
    go_ret
    exact ⟨by first | rfl | (simp [errW_none, errW_some] <;> rfl) | (simp [*, errW_none, errW_some] <;> rfl), by repeat (first | (with_reducible first | exact HB.out | apply below_alloc | apply pw_below_drewN | apply below_drew1 | refine below_set ?_ GE160.out) | exact HB.out)⟩
  ·replace c5 := Bool.eq_false_iff.mpr c5
   subst c5
   have H1 : (some false) = some r := by rw [if_neg (show ¬ (false = true) by decide)] at H; exact H
   clear H
   have H := H1
   clear H1
   obtain rfl := Option.some.inj H
   go_enter Try.func15, Try.ntmps15
   go_wp2_with (first | ((with_reducible refine gate_dst (N := 1) rfl ?_); refine box_event ?hg (N := 1) ?hd (cs := #[.int .i64 a0_0, .int .i64 a0_1, .int .i64 a0_2, .int .i64 a0_3, .int .i64 a0_4, .int .i64 a0_5]) (t := 25) ?hr ?_; (case hd => rfl); (case hg => rfl); (case hr => first | (go_simp; done) | (go_simp; rfl)); intro gb160 hg w32 hbox hb; replace BK160 := Aside0.mk (hbox); replace GW160 := Aside0.mk ((by rw [hg]; exact (below_size (ub HB)) : w.heap.size ≤ gb160)); replace GE160 := Aside0.mk ((by rw [hg]; exact (below_size (ub HB)) : w.heap.size ≤ gb160)); replace HB := Aside0.mk (below_step (ub HB) hb); clear hb hbox hg; obtain ⟨hcz33_0, hcz33_1, hcz33_2, hcz33_3, hcz33_4, hcz33_5, hfz33_0, hfz33_1, hfz33_2, hfz33_3, hfz33_4, hfz33_5⟩ := six BK160) | ((with_reducible refine gate_callee (f := 55) rfl ?_); refine goesL_ (some 5) rfl rfl Try.func55 (by kernel_rfl) rfl #[.int .i64 a0_0, .int .i64 (-100000), .int .i64 100000] rfl (by (try simp only [List.map_toArray, List.map_cons, List.map_nil]); first | done | rfl) ?_; (with_reducible refine (spec_l1In.calls a0_0 (-100000) 100000 true _ A2.out).mono ?_); rintro e w' ⟨rfl, ⟨nd, rfl⟩⟩; refine ⟨_, rfl, ?_⟩) | (go_at_call 55; (with_reducible refine (spec_l1In.calls a0_1 (-100000) 100000 false _ A4.out).mono ?_); rintro e w' ⟨rfl, ⟨nd, rfl⟩⟩))
   go_ret
   exact ⟨by first | rfl | (simp [errW_none, errW_some] <;> rfl) | (simp [*, errW_none, errW_some] <;> rfl), by repeat (first | (with_reducible first | exact HB.out | apply below_alloc | apply pw_below_drewN | apply below_drew1 | refine below_set ?_ GE160.out) | exact HB.out)⟩
 ·replace c3 := Bool.eq_false_iff.mpr c3
  subst c3
  have H1 : (some false) = some r := by rw [if_neg (show ¬ (false = true) by decide)] at H; exact H
  clear H
  have H := H1
  clear H1
  obtain rfl := Option.some.inj H
  go_enter Try.func15, Try.ntmps15
  go_wp2_with (first | ((with_reducible refine gate_dst (N := 1) rfl ?_); refine box_event ?hg (N := 1) ?hd (cs := #[.int .i64 a0_0, .int .i64 a0_1, .int .i64 a0_2, .int .i64 a0_3, .int .i64 a0_4, .int .i64 a0_5]) (t := 25) ?hr ?_; (case hd => rfl); (case hg => rfl); (case hr => first | (go_simp; done) | (go_simp; rfl)); intro gb160 hg w34 hbox hb; replace BK160 := Aside0.mk (hbox); replace GW160 := Aside0.mk ((by rw [hg]; exact (below_size (ub HB)) : w.heap.size ≤ gb160)); replace GE160 := Aside0.mk ((by rw [hg]; exact (below_size (ub HB)) : w.heap.size ≤ gb160)); replace HB := Aside0.mk (below_step (ub HB) hb); clear hb hbox hg; obtain ⟨hcz35_0, hcz35_1, hcz35_2, hcz35_3, hcz35_4, hcz35_5, hfz35_0, hfz35_1, hfz35_2, hfz35_3, hfz35_4, hfz35_5⟩ := six BK160) | ((with_reducible refine gate_callee (f := 55) rfl ?_); refine goesL_ (some 5) rfl rfl Try.func55 (by kernel_rfl) rfl #[.int .i64 a0_0, .int .i64 (-100000), .int .i64 100000] rfl (by (try simp only [List.map_toArray, List.map_cons, List.map_nil]); first | done | rfl) ?_; (with_reducible refine (spec_l1In.calls a0_0 (-100000) 100000 false _ A2.out).mono ?_); rintro e w' ⟨rfl, ⟨nd, rfl⟩⟩; refine ⟨_, rfl, ?_⟩))
  go_ret
  exact ⟨by first | rfl | (simp [errW_none, errW_some] <;> rfl) | (simp [*, errW_none, errW_some] <;> rfl), by repeat (first | (with_reducible first | exact HB.out | apply below_alloc | apply pw_below_drewN | apply below_drew1 | refine below_set ?_ GE160.out) | exact HB.out)⟩

end Go.Proofs.Ytfbokdbaondjdaa.PV1
