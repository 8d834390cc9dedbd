import Derived.Test.YtfbokdbaondjdaaBFnExactDuties2
import Derived.Test.YtfbokdbaondjdaaBFnExactDuties4
import Derived.Test.YtfbokdbaondjdaaBFnExactDuties1
import Derived.Test.YtfbokdbaondjdaaBFnExactDuties3
-- printed for this claim out of the translation
namespace Go.Proofs.Ytfbokdbaondjdaa.PV1
open Go.RowKit Go.Proofs.YtfbokdbaondjdaaW.PrintWords Go.Proofs.YtfbokdbaondjdaaW.PrintLast Go.Proofs.YtfbokdbaondjdaaW.PrintMore Go.Proofs.Ytfbokdbaondjdaa.Cz Go.Proofs.Ytfbokdbaondjdaa.Cz
attribute [local go_sem] max2_int min2_int max_two min_two max_three min_three max_four min_four
set_option linter.unusedVariables false
set_option linter.unusedSimpArgs false

theorem s7_0 {p : Prop} (h : p := by repeat (first | (with_reducible first | exact HB.out | apply below_alloc | apply pw_below_drewN | apply below_drew1) | exact HB.out)) : p := h
theorem s7_1 {p : Prop} (h : p := by first | (with_reducible assumption) | assumption) : p := h
theorem s7_2 {p : Prop} (h : p := by first | rfl | (simp; done) | (simp [*]; done)) : p := h
theorem s7_3 {p : Prop} (h : p := by repeat (first | (with_reducible first | exact HB.out | apply below_alloc | apply pw_below_drewN | apply below_drew1 | refine below_set ?_ GE229.out | refine below_set ?_ GE230.out) | exact HB.out)) : p := h
set_option maxRecDepth 100000 in
theorem t7_0 {p : Prop} (h : p := by
 simp only [Act.put, y1, y2, y3, i64_w, i32_w]
 rfl) : p := h
/-! ### spec_Duties: function 48 -/
mutual
def spec_Duties.l0 : Nat → List (S25) → Int → Option ((List (List Int)) × Bool)
 | 0, _, _ => none
 | k + 1, x0, x4 => if x4 < (x0.length : Int) then (if (x0.length : Int) > 20 then (some ((([] : List (List Int))), false)) else (if 0 ≤ x4 then ((spec_ShipOk.f ((rd_T25 x0 x4).f0) ((rd_T25 x0 x4).f1) ((rd_T25 x0 x4).f2) ((rd_T25 x0 x4).f3) ((rd_T25 x0 x4).f4) ((rd_T25 x0 x4).f5)).bind fun t207 => (if t207 = true then (spec_Duties.l0 k x0 (wrap64 (x4 + 1))) else (some ((([] : List (List Int))), false)))) else (none))) else (spec_Duties.l1 k x0 (([] : List (List Int))) 0)
def spec_Duties.l1 : Nat → List (S25) → List (List Int) → Int → Option ((List (List Int)) × Bool)
 | 0, _, _, _ => none
 | k + 1, x0, x5, x6 => if x6 < (x0.length : Int) then (spec_Duties.l2 k x0 x5 x6 (([] : List Int)) 0) else (some (x5, true))
def spec_Duties.l2 : Nat → List (S25) → List (List Int) → Int → List Int → Int → Option ((List (List Int)) × Bool)
 | 0, _, _, _, _, _ => none
 | k + 1, x0, x5, x6, x7, x8 => if x8 < (x0.length : Int) then (if x8 = x6 then (if x7.length < 17592186044416 then (spec_Duties.l2 k x0 x5 x6 (x7 ++ [0]) (wrap64 (x8 + 1))) else (none)) else (if 0 ≤ x6 then (if x6 < (x0.length : Int) then (if 0 ≤ x8 then ((spec_Duty.f k ((rd_T25 x0 x6).f0) ((rd_T25 x0 x6).f1) ((rd_T25 x0 x6).f2) ((rd_T25 x0 x6).f3) ((rd_T25 x0 x6).f4) ((rd_T25 x0 x6).f5) ((rd_T25 x0 x8).f0) ((rd_T25 x0 x8).f1) ((rd_T25 x0 x8).f2) ((rd_T25 x0 x8).f3) ((rd_T25 x0 x8).f4) ((rd_T25 x0 x8).f5)).bind fun t222 => (if x7.length < 17592186044416 then (spec_Duties.l2 k x0 x5 x6 (x7 ++ [t222]) (wrap64 (x8 + 1))) else (none))) else (none)) else (none)) else (none))) else (if x5.length < 5864062014805 then (spec_Duties.l1 k x0 (x5 ++ [x7]) (wrap64 (x6 + 1))) else (none))
end
def spec_Duties.f (k : Nat) (l0 : List (S25)) : Option ((List (List Int)) × Bool) := spec_Duties.l0 k l0 0
theorem spec_Duties.mono_l : ∀ k, (∀ y0 y1, LeO (spec_Duties.l0 k y0 y1) (spec_Duties.l0 (k + 1) y0 y1)) ∧ (∀ y0 y1 y2, LeO (spec_Duties.l1 k y0 y1 y2) (spec_Duties.l1 (k + 1) y0 y1 y2)) ∧ (∀ y0 y1 y2 y3 y4, LeO (spec_Duties.l2 k y0 y1 y2 y3 y4) (spec_Duties.l2 (k + 1) y0 y1 y2 y3 y4))
 | 0 => ⟨fun _ _ r h => by simp [spec_Duties.l0] at h, fun _ _ _ r h => by simp [spec_Duties.l1] at h, fun _ _ _ _ _ r h => by simp [spec_Duties.l2] at h⟩
 | k + 1 => by
  obtain ⟨ih0, ih1, ih2⟩ := spec_Duties.mono_l k
  refine ⟨?_, ?_, ?_⟩
  ·intro y0 y1
   unfold spec_Duties.l0
   repeat' first
   | (with_reducible exact ih0 _ _)
   | (with_reducible exact ih1 _ _ _)
   | (with_reducible exact ih2 _ _ _ _ _)
   | (with_reducible exact spec_Duty.mono _ _ _ _ _ _ _ _ _ _ _ _ _)
   | (with_reducible exact LeO.refl _)
   | (with_reducible exact LeO.none _)
   | (with_reducible refine LeO.ite ?_ ?_)
   | (with_reducible refine LeO.bind ?_ (fun _ => ?_))
   | exact ih0 _ _
   | exact ih1 _ _ _
   | exact ih2 _ _ _ _ _
   | exact spec_Duty.mono _ _ _ _ _ _ _ _ _ _ _ _ _
   | exact LeO.none _
   | refine LeO.ite ?_ ?_
   | refine LeO.bind ?_ (fun _ => ?_)
  ·intro y0 y1 y2
   unfold spec_Duties.l1
   repeat' first
   | (with_reducible exact ih0 _ _)
   | (with_reducible exact ih1 _ _ _)
   | (with_reducible exact ih2 _ _ _ _ _)
   | (with_reducible exact spec_Duty.mono _ _ _ _ _ _ _ _ _ _ _ _ _)
   | (with_reducible exact LeO.refl _)
   | (with_reducible exact LeO.none _)
   | (with_reducible refine LeO.ite ?_ ?_)
   | (with_reducible refine LeO.bind ?_ (fun _ => ?_))
   | exact ih0 _ _
   | exact ih1 _ _ _
   | exact ih2 _ _ _ _ _
   | exact spec_Duty.mono _ _ _ _ _ _ _ _ _ _ _ _ _
   | exact LeO.none _
   | refine LeO.ite ?_ ?_
   | refine LeO.bind ?_ (fun _ => ?_)
  ·intro y0 y1 y2 y3 y4
   unfold spec_Duties.l2
   repeat' first
   | (with_reducible exact ih0 _ _)
   | (with_reducible exact ih1 _ _ _)
   | (with_reducible exact ih2 _ _ _ _ _)
   | (with_reducible exact spec_Duty.mono _ _ _ _ _ _ _ _ _ _ _ _ _)
   | (with_reducible exact LeO.refl _)
   | (with_reducible exact LeO.none _)
   | (with_reducible refine LeO.ite ?_ ?_)
   | (with_reducible refine LeO.bind ?_ (fun _ => ?_))
   | exact ih0 _ _
   | exact ih1 _ _ _
   | exact ih2 _ _ _ _ _
   | exact spec_Duty.mono _ _ _ _ _ _ _ _ _ _ _ _ _
   | exact LeO.none _
   | refine LeO.ite ?_ ?_
   | refine LeO.bind ?_ (fun _ => ?_)
theorem spec_Duties.mono : ∀ a0 k, LeO (spec_Duties.f k a0) (spec_Duties.f (k + 1) a0) := by
 intro a0 k
 obtain ⟨ih0, ih1, ih2⟩ := spec_Duties.mono_l k
 unfold spec_Duties.f
 repeat' first
   | (with_reducible exact ih0 _ _)
   | (with_reducible exact ih1 _ _ _)
   | (with_reducible exact ih2 _ _ _ _ _)
   | (with_reducible exact spec_Duty.mono _ _ _ _ _ _ _ _ _ _ _ _ _)
   | (with_reducible exact LeO.refl _)
   | (with_reducible exact LeO.none _)
   | (with_reducible refine LeO.ite ?_ ?_)
   | (with_reducible refine LeO.bind ?_ (fun _ => ?_))
   | exact ih0 _ _
   | exact ih1 _ _ _
   | exact ih2 _ _ _ _ _
   | exact spec_Duty.mono _ _ _ _ _ _ _ _ _ _ _ _ _
   | exact LeO.none _
   | refine LeO.ite ?_ ?_
   | refine LeO.bind ?_ (fun _ => ?_)
def spec_Duties.T16 : Bool × List (List Nat × List Nat) := (true, [([], []), ([], []), ([0, 1], [0, 1]), ([2], [2]), ([], []), ([], []), ([4, 5], [4, 5]), ([6], [6]), ([3, 7], [3, 7]), ([8, 8, 0, 1, 2, 3, 4, 5, 6, 7, 8], [8])])
def spec_Duties.B16 : List Nat := [0, 0, 3, 7, 0, 0, 48, 112, 255, 511]
theorem spec_Duties.tab16 : rtab .any (opsOf Try.f48 16) = spec_Duties.T16 := by kernel_rfl
theorem spec_Duties.bits16 : waitsOk spec_Duties.T16.2 spec_Duties.B16 = true := by kernel_rfl
set_option maxHeartbeats 8000000 in
set_option maxRecDepth 100000 in
theorem spec_Duties.calls (k : Nat) (A0 : Option Addr) (c0 : Nat) (l0 : List (S25)) (r1 : List (List Int)) (r2 : Bool) (w : World) (hr0 : Kd.C k25 w A0 l0.length l0) (hc0 : l0.length ≤ c0) (h : spec_Duties.f k l0 = some (r1, r2)) :
  Calls Try.prog 48 #[.slice A0 l0.length c0] w fun e w' => ∃ v0_ : Value, e = .returned (.tuple #[v0_, .bool r2]) ∧ Kd.S (Kd.slice 3 (Kd.int .i64)) 43 w' w.heap.size (fun _ => True) v0_ r1 ∧ Below w.heap.size w w' := by
 have hu25 := Try.underlying25
 have HR0 := Aside0.mk hr0
 have HC0 := Aside0.mk hc0
 clear hr0 hc0
 have HB := Aside0.mk (Below.refl w.heap.size w)
 have H : (spec_Duties.l0 k l0 0) = some (r1, r2) := h
 clear h
 have H' := Aside0.mk H
 clear H
 go_enter Try.func48, Try.ntmps48
 go_wp2
 go_loopg [4] k (fun kq v4 w' => ∃ (x4_1 : Int), v4 = .int .i64 x4_1 ∧ Aside0 (spec_Duties.l0 kq l0 x4_1 = some (r1, r2)) ∧ Aside0 (kq ≤ k) ∧ Aside0 (Below w.heap.size w w'))
 case atStart => exact ⟨(0), s7_2, H', ⟨Nat.le_refl _⟩, ⟨by repeat (first | (with_reducible first | exact HB.out | apply below_alloc | apply pw_below_drewN | apply below_drew1) | exact HB.out)⟩⟩
 case round =>
  clear H'
  obtain ⟨x4_1, rfl, HA, HK1, HB⟩ := hrel
  cases gk with
  | zero => exact absurd HA.out (by simp [spec_Duties.l0])
  | succ k1 =>
   have H := HA.out
   clear HA
   simp only [spec_Duties.l0] at H
   by_cases c2 : x4_1 < (l0.length : Int)
   ·rw [if_pos c2] at H
    have c2b0 : decide (x4_1 < (l0.length : Int)) = true := decide_eq_true c2
    clear c2
    by_cases c3 : (l0.length : Int) > 20
    ·rw [if_pos c3] at H
     have c3b0 : decide (20 < (l0.length : Int)) = true := decide_eq_true c3
     have c3b1 : decide (20 < l0.length) = true := decide_eq_true (by omega)
     clear c3
     obtain ⟨y203, hy203⟩ : ∃ y_ : List (List Int), y_ = (([] : List (List Int))) := ⟨_, rfl⟩
     replace H : (some (y203, false)) = some (r1, r2) := by first | (rw [hy203]; with_reducible exact H) | (have H2_ := (Option.bind_some _ _).symm.trans H; rw [hy203]; with_reducible exact H2_) | (have H2_ := (Option.bind_some _ _).symm.trans H; with_reducible exact H2_) | with_reducible exact H | (rw [hy203]; exact H) | exact H
     have Ny203 := Aside0.mk hy203
     clear hy203
     simp only [Option.some.injEq, Prod.mk.injEq] at H
     obtain ⟨rfl, rfl⟩ := H
     go_wp2_with (first | ((with_reducible refine gate_dst (N := 27) rfl ?_); refine Kd.S_lit (Kd.slice 3 (Kd.int .i64)) _ 43 ?hg (N := 27) ?hd (xs := ([] : List (List Int))) (inner := []) (ok := fun _ => True) (okp := fun _ => True) ?hr ?hp (fun _ hk => hk) trivial (Below.refl _ _) (Nat.le_refl _) (by simp) ?_; (case hd => rfl); (case hg => rfl); (case hr => first | (go_simp; done) | (go_simp; rfl)); (case hp => exact (Reps.none _ _)); intro v204 w1 ho5 hb hg_ hnew_; clear hg_ hnew_; (first | rw [← Ny203.out] at ho5 | (simp only [Int.reduceToNat] at ho5; rw [← Ny203.out] at ho5)); have n0_ := Aside0.mk (Kd.S_lower ho5 (below_size s7_0)); have n1_ := Aside0.mk (below_step s7_0 hb); clear HB; have HO205 := n0_; have HB := n1_; clear n0_ n1_; clear hb ho5))
     go_ret2
     exact ⟨_, by first | rfl | (simp [errW_none, errW_some] <;> rfl) | (simp [*, errW_none, errW_some] <;> rfl), by (with_reducible repeat (first | apply Kd.S_alloc | apply Kd.S_drewN | apply Kd.S_drew)); exact HO205.out, by repeat (first | (with_reducible first | exact HB.out | apply below_alloc | apply pw_below_drewN | apply below_drew1) | exact HB.out)⟩
    ·rw [if_neg c3] at H
     have c3b0 : decide (20 < (l0.length : Int)) = false := decide_eq_false c3
     have c3b1 : decide (20 < l0.length) = false := decide_eq_false (by omega)
     clear c3
     by_cases c6 : 0 ≤ x4_1
     ·rw [if_pos c6] at H
      have c6b0 : decide (0 ≤ x4_1) = true := decide_eq_true c6
      clear c6
      replace H := Option.bind_eq_some_iff.mp H
      obtain ⟨t207, A70, H⟩ := H
      replace H : (if t207 = true then (spec_Duties.l0 k1 l0 (wrap64 (x4_1 + 1))) else (some ((([] : List (List Int))), false))) = some (r1, r2) := H
      have A7 := Aside0.mk A70
      clear A70
      by_cases c8 : t207 = true
      ·subst c8
       have H1 : (spec_Duties.l0 k1 l0 (wrap64 (x4_1 + 1))) = some (r1, r2) := by rw [if_pos rfl] at H; exact H
       clear H
       have H := H1
       clear H1
       have H' := Aside0.mk H
       clear H
       have p206 : 0 ≤ (x4_1 : Int) := of_decide_eq_true s7_1
       have q206 : x4_1 < (l0.length : Int) := of_decide_eq_true s7_1
       obtain ⟨ad206, e206, hx206_0, hx206_1, hx206_2, hx206_3, hx206_4, hx206_5⟩ := at_T25 HR0.out x4_1 p206 q206
       cases e206
       replace hx206_0 := (HB.out.cell (World.block_lt_of_cell? w _ hx206_0)).trans hx206_0
       replace hx206_1 := (HB.out.cell (World.block_lt_of_cell? w _ hx206_1)).trans hx206_1
       replace hx206_2 := (HB.out.cell (World.block_lt_of_cell? w _ hx206_2)).trans hx206_2
       replace hx206_3 := (HB.out.cell (World.block_lt_of_cell? w _ hx206_3)).trans hx206_3
       replace hx206_4 := (HB.out.cell (World.block_lt_of_cell? w _ hx206_4)).trans hx206_4
       replace hx206_5 := (HB.out.cell (World.block_lt_of_cell? w _ hx206_5)).trans hx206_5
       replace p206 := eq_true p206
       replace q206 := eq_true q206
       go_wp2_with (first | (go_at_call 15; (with_reducible refine (spec_ShipOk.calls ((rd_T25 l0 x4_1).f0) ((rd_T25 l0 x4_1).f1) ((rd_T25 l0 x4_1).f2) ((rd_T25 l0 x4_1).f3) ((rd_T25 l0 x4_1).f4) ((rd_T25 l0 x4_1).f5) true _ A7.out).mono ?_); rintro e w1 ⟨rfl, hb⟩; have n0_ := Aside0.mk (below_step s7_0 hb); clear HB; have HB := n0_; clear n0_; (try clear hb); (try clear hb2); (try clear hk); (try clear hi)))
       go_roundg k1
       case measure => have := HK1.out; omega
       case rel => exact ⟨(wrap64 (x4_1 + 1)), s7_2, H', ⟨by have := HK1.out; omega⟩, ⟨by repeat (first | (with_reducible first | exact HB.out | apply below_alloc | apply pw_below_drewN | apply below_drew1) | exact HB.out)⟩⟩
      ·replace c8 := Bool.eq_false_iff.mpr c8
       subst c8
       have H1 : (some ((([] : List (List Int))), false)) = some (r1, r2) := by rw [if_neg (show ¬ (false = true) by decide)] at H; exact H
       clear H
       have H := H1
       clear H1
       obtain ⟨y208, hy208⟩ : ∃ y_ : List (List Int), y_ = (([] : List (List Int))) := ⟨_, rfl⟩
       replace H : (some (y208, false)) = some (r1, r2) := by first | (rw [hy208]; with_reducible exact H) | (have H2_ := (Option.bind_some _ _).symm.trans H; rw [hy208]; with_reducible exact H2_) | (have H2_ := (Option.bind_some _ _).symm.trans H; with_reducible exact H2_) | with_reducible exact H | (rw [hy208]; exact H) | exact H
       have Ny208 := Aside0.mk hy208
       clear hy208
       simp only [Option.some.injEq, Prod.mk.injEq] at H
       obtain ⟨rfl, rfl⟩ := H
       have p206 : 0 ≤ (x4_1 : Int) := of_decide_eq_true s7_1
       have q206 : x4_1 < (l0.length : Int) := of_decide_eq_true s7_1
       obtain ⟨ad206, e206, hx206_0, hx206_1, hx206_2, hx206_3, hx206_4, hx206_5⟩ := at_T25 HR0.out x4_1 p206 q206
       cases e206
       replace hx206_0 := (HB.out.cell (World.block_lt_of_cell? w _ hx206_0)).trans hx206_0
       replace hx206_1 := (HB.out.cell (World.block_lt_of_cell? w _ hx206_1)).trans hx206_1
       replace hx206_2 := (HB.out.cell (World.block_lt_of_cell? w _ hx206_2)).trans hx206_2
       replace hx206_3 := (HB.out.cell (World.block_lt_of_cell? w _ hx206_3)).trans hx206_3
       replace hx206_4 := (HB.out.cell (World.block_lt_of_cell? w _ hx206_4)).trans hx206_4
       replace hx206_5 := (HB.out.cell (World.block_lt_of_cell? w _ hx206_5)).trans hx206_5
       replace p206 := eq_true p206
       replace q206 := eq_true q206
       go_wp2_with (first | (go_at_call 15; (with_reducible refine (spec_ShipOk.calls ((rd_T25 l0 x4_1).f0) ((rd_T25 l0 x4_1).f1) ((rd_T25 l0 x4_1).f2) ((rd_T25 l0 x4_1).f3) ((rd_T25 l0 x4_1).f4) ((rd_T25 l0 x4_1).f5) false _ A7.out).mono ?_); rintro e w1 ⟨rfl, hb⟩; have n0_ := Aside0.mk (below_step s7_0 hb); clear HB; have HB := n0_; clear n0_; (try clear hb); (try clear hb2); (try clear hk); (try clear hi)) | ((with_reducible refine gate_dst (N := 27) rfl ?_); refine Kd.S_lit (Kd.slice 3 (Kd.int .i64)) _ 43 ?hg (N := 27) ?hd (xs := ([] : List (List Int))) (inner := []) (ok := fun _ => True) (okp := fun _ => True) ?hr ?hp (fun _ hk => hk) trivial (Below.refl _ _) (Nat.le_refl _) (by simp) ?_; (case hd => rfl); (case hg => rfl); (case hr => first | (go_simp; done) | (go_simp; rfl)); (case hp => exact (Reps.none _ _)); intro v209 w2 ho12 hb hg_ hnew_; clear hg_ hnew_; (first | rw [← Ny208.out] at ho12 | (simp only [Int.reduceToNat] at ho12; rw [← Ny208.out] at ho12)); have n0_ := Aside0.mk (Kd.S_lower ho12 (below_size s7_0)); have n1_ := Aside0.mk (below_step s7_0 hb); clear HB; have HO210 := n0_; have HB := n1_; clear n0_ n1_; clear hb ho12))
       go_ret2
       exact ⟨_, by first | rfl | (simp [errW_none, errW_some] <;> rfl) | (simp [*, errW_none, errW_some] <;> rfl), by (with_reducible repeat (first | apply Kd.S_alloc | apply Kd.S_drewN | apply Kd.S_drew)); exact HO210.out, by repeat (first | (with_reducible first | exact HB.out | apply below_alloc | apply pw_below_drewN | apply below_drew1) | exact HB.out)⟩
     ·rw [if_neg c6] at H
      exact absurd H (by simp)
   ·rw [if_neg c2] at H
    have c2b0 : decide (x4_1 < (l0.length : Int)) = false := decide_eq_false c2
    clear c2
    obtain ⟨y211, hy211⟩ : ∃ y_ : List (List Int), y_ = (([] : List (List Int))) := ⟨_, rfl⟩
    replace H : (spec_Duties.l1 k1 l0 y211 0) = some (r1, r2) := by first | (rw [hy211]; with_reducible exact H) | (have H2_ := (Option.bind_some _ _).symm.trans H; rw [hy211]; with_reducible exact H2_) | (have H2_ := (Option.bind_some _ _).symm.trans H; with_reducible exact H2_) | with_reducible exact H | (rw [hy211]; exact H) | exact H
    have Ny211 := Aside0.mk hy211
    clear hy211
    have H' := Aside0.mk H
    clear H
    go_wp2_with (first | ((with_reducible refine gate_dst (N := 28) rfl ?_); refine Kd.S_lit (Kd.slice 3 (Kd.int .i64)) _ 43 ?hg (N := 28) ?hd (xs := ([] : List (List Int))) (inner := []) (ok := fun _ => True) (okp := fun _ => True) ?hr ?hp (fun _ hk => hk) trivial (Below.refl _ _) (Nat.le_refl _) (by simp) ?_; (case hd => rfl); (case hg => rfl); (case hr => first | (go_simp; done) | (go_simp; rfl)); (case hp => exact (Reps.none _ _)); intro v212 w1 ho14 hb hg_ hnew_; clear hg_ hnew_; (first | rw [← Ny211.out] at ho14 | (simp only [Int.reduceToNat] at ho14; rw [← Ny211.out] at ho14)); have n0_ := Aside0.mk (Kd.S_lower ho14 (below_size s7_0)); have n1_ := Aside0.mk (below_step s7_0 hb); clear HB; have HO213 := n0_; have HB := n1_; clear n0_ n1_; clear hb ho14))
    go_loopg [5, 6] k1 (fun kq v5 v6 w' => ∃ (x5_2 : List (List Int)) (x6_2 : Int), v6 = .int .i64 x6_2 ∧ Aside0 (spec_Duties.l1 kq l0 x5_2 x6_2 = some (r1, r2)) ∧ Aside0 (kq ≤ k1) ∧ Aside0 (Kd.S (Kd.slice 3 (Kd.int .i64)) 43 w' w.heap.size (fun _ => True) v5 x5_2) ∧ Aside0 (Below w.heap.size w w'))
    case atStart => exact ⟨(y211), (0), s7_2, H', ⟨Nat.le_refl _⟩, ⟨by (with_reducible repeat (first | apply Kd.S_alloc | apply Kd.S_drewN | apply Kd.S_drew)); exact HO213.out⟩, ⟨by repeat (first | (with_reducible first | exact HB.out | apply below_alloc | apply pw_below_drewN | apply below_drew1) | exact HB.out)⟩⟩
    case round =>
     clear H'
     (try clear c2); (try clear c2b0); (try clear p2); (try clear q2); (try clear hx2); (try clear c3); (try clear c3b0); (try clear c3b1); (try clear c4); (try clear c6); (try clear c6b0); (try clear p6); (try clear c8); (try clear hx206_0); (try clear hx206_1); (try clear hx206_2); (try clear hx206_3); (try clear hx206_4); (try clear hx206_5); (try clear p206); (try clear q206)
     obtain ⟨x5_2, x6_2, rfl, HA, HK2, HO_5, HB⟩ := hrel
     cases gk with
     | zero => exact absurd HA.out (by simp [spec_Duties.l1])
     | succ k2 =>
      have H := HA.out
      clear HA
      simp only [spec_Duties.l1] at H
      by_cases c15 : x6_2 < (l0.length : Int)
      ·rw [if_pos c15] at H
       have c15b0 : decide (x6_2 < (l0.length : Int)) = true := decide_eq_true c15
       clear c15
       obtain ⟨y214, hy214⟩ : ∃ y_ : List Int, y_ = (([] : List Int)) := ⟨_, rfl⟩
       replace H : (spec_Duties.l2 k2 l0 x5_2 x6_2 y214 0) = some (r1, r2) := by first | (rw [hy214]; with_reducible exact H) | (have H2_ := (Option.bind_some _ _).symm.trans H; rw [hy214]; with_reducible exact H2_) | (have H2_ := (Option.bind_some _ _).symm.trans H; with_reducible exact H2_) | with_reducible exact H | (rw [hy214]; exact H) | exact H
       have Ny214 := Aside0.mk hy214
       clear hy214
       have H' := Aside0.mk H
       clear H
       go_wp2_with (first | ((with_reducible refine gate_dst (N := 35) rfl ?_); refine Kd.R_lit (Kd.int .i64) _ 3 ?hg (N := 35) ?hd (xs := ([] : List Int)) (inner := []) (ok := fun _ => True) (okp := fun _ => True) ?hr ?hp (fun _ hk => hk) trivial (Below.refl _ _) (Nat.le_refl _) (by simp) ?_; (case hd => rfl); (case hg => rfl); (case hr => first | (go_simp; done) | (go_simp; rfl)); (case hp => exact (Reps.none _ _)); intro v215 w2 ho17 hb hg_ hnew_; clear hg_ hnew_; (first | rw [← Ny214.out] at ho17 | (simp only [Int.reduceToNat] at ho17; rw [← Ny214.out] at ho17)); have n0_ := Aside0.mk (Kd.S_elder' (by (with_reducible repeat (first | apply Kd.S_alloc | apply Kd.S_drewN | apply Kd.S_drew)); exact HO_5.out) (Kd.R_base ho17) hb); have n1_ := Aside0.mk (Kd.R_lower ho17 (below_size s7_0)); have n2_ := Aside0.mk (below_step s7_0 hb); clear HO_5; clear HB; have HO_5 := n0_; have HO216 := n1_; have HB := n2_; clear n0_ n1_ n2_; clear hb ho17))
       go_loopg [7, 8] k2 (fun kq v7 v8 w' => ∃ (x7_3 : List Int) (x8_3 : Int), v8 = .int .i64 x8_3 ∧ Aside0 (spec_Duties.l2 kq l0 x5_2 x6_2 x7_3 x8_3 = some (r1, r2)) ∧ Aside0 (kq ≤ k2) ∧ Aside0 (Kd.S (Kd.slice 3 (Kd.int .i64)) 43 w' w.heap.size (fun k_ => some k_ ≠ (v7 : Value).ownBlock) u5 x5_2) ∧ Aside0 (Kd.R (Kd.int .i64) 3 w' w.heap.size (fun _ => True) v7 x7_3) ∧ Aside0 (Below w.heap.size w w'))
       case atStart => exact ⟨(y214), (0), s7_2, H', ⟨Nat.le_refl _⟩, ⟨by (with_reducible repeat (first | apply Kd.S_alloc | apply Kd.S_drewN | apply Kd.S_drew)); exact Kd.S_mono HO_5.out (fun _ hk => hk.2)⟩, ⟨by (with_reducible repeat (first | apply Kd.R_alloc | apply Kd.R_drewN | apply Kd.R_drew)); exact HO216.out⟩, ⟨by repeat (first | (with_reducible first | exact HB.out | apply below_alloc | apply pw_below_drewN | apply below_drew1) | exact HB.out)⟩⟩
       case round =>
        clear H'
        (try clear c1); (try clear c2); (try clear c2b0); (try clear p2); (try clear q2); (try clear hx2); (try clear c3); (try clear c3b0); (try clear c3b1); (try clear c4); (try clear c6); (try clear c6b0); (try clear p6); (try clear c8); (try clear c15); (try clear c15b0); (try clear hx206_0); (try clear hx206_1); (try clear hx206_2); (try clear hx206_3); (try clear hx206_4); (try clear hx206_5); (try clear p2); (try clear p206); (try clear p6); (try clear q2); (try clear q206)
        obtain ⟨x7_3, x8_3, rfl, HA, HK3, HO_5, HO_7, HB⟩ := hrel
        cases gk with
        | zero => exact absurd HA.out (by simp [spec_Duties.l2])
        | succ k3 =>
         have H := HA.out
         clear HA
         simp only [spec_Duties.l2] at H
         by_cases c18 : x8_3 < (l0.length : Int)
         ·rw [if_pos c18] at H
          have c18b0 : decide (x8_3 < (l0.length : Int)) = true := decide_eq_true c18
          clear c18
          by_cases c19 : x8_3 = x6_2
          ·rw [if_pos c19] at H
           have c19b0 : (x8_3 == x6_2) = true := beq_iff_eq.mpr c19
           have c19b1 : (x8_3 != x6_2) = false := bne_eq_false_iff_eq.mpr c19
           clear c19
           by_cases c20 : x7_3.length < 17592186044416
           ·rw [if_pos c20] at H
            have LMc20 := Aside0.mk c20
            clear c20
            obtain ⟨y217, hy217⟩ : ∃ y_ : List Int, y_ = (x7_3 ++ [0]) := ⟨_, rfl⟩
            replace H : (spec_Duties.l2 k3 l0 x5_2 x6_2 y217 (wrap64 (x8_3 + 1))) = some (r1, r2) := by first | (rw [hy217]; with_reducible exact H) | (have H2_ := (Option.bind_some _ _).symm.trans H; rw [hy217]; with_reducible exact H2_) | (have H2_ := (Option.bind_some _ _).symm.trans H; with_reducible exact H2_) | with_reducible exact H | (rw [hy217]; exact H) | exact H
            have Ny217 := Aside0.mk hy217
            clear hy217
            have H' := Aside0.mk H
            clear H
            go_wp2_with (first | ((with_reducible refine gate_builtin (b := .append) (xs := #[.tmp 54, .tmp 56]) rfl ?_); at_builtin; refine Kd.R_append (Kd.int .i64) (w0 := w) w.heap.size rfl (.tmp 54) (.tmp 56) 43 3 (.int .i64 0) 8 rfl Try.underlying43 info3 rfl (by decide) (by omega) u7 x7_3 0 [.int .i64 0] (fun _ => True) (fun _ => False) rfl rfl ?aP (fun _ hk => hk.elim) ?aF ?aO ?aB ?aS ?aL ?_; (case aP => exact rfl); (case aB => exact s7_0); (case aF => exact (fun _ _ => trivial)); (case aO => exact (by (with_reducible repeat (first | apply Kd.R_alloc | apply Kd.R_drewN | apply Kd.R_drew)); exact HO_7.out)); (case aS => exact (below_size s7_0)); (case aL => have := LMc20.out; omega); intro v218 w3 ho hb hg hat; rw [← Ny217.out] at ho; have n0_ := Aside0.mk (Kd.S_after (ok := (fun _ => True)) (by (with_reducible repeat (first | apply Kd.S_alloc | apply Kd.S_drewN | apply Kd.S_drew)); exact Kd.S_mono HO_5.out (fun _ hk => ⟨trivial, hk⟩)) hg hat); have n1_ := Aside0.mk (hb); have n2_ := Aside0.mk (ho); clear HO_5; clear HB; clear HO_7; have HO_5 := n0_; have HB := n1_; have HO219 := n2_; clear n0_ n1_ n2_; clear ho hb hg hat))
            go_roundg k3
            case measure => have := HK1.out; have := HK2.out; have := HK3.out; omega
            case rel => exact ⟨(y217), (wrap64 (x8_3 + 1)), s7_2, H', ⟨by have := HK1.out; have := HK2.out; have := HK3.out; omega⟩, ⟨by (with_reducible repeat (first | apply Kd.S_alloc | apply Kd.S_drewN | apply Kd.S_drew)); exact Kd.S_mono HO_5.out (fun _ hk => hk.2)⟩, ⟨by (with_reducible repeat (first | apply Kd.R_alloc | apply Kd.R_drewN | apply Kd.R_drew)); exact HO219.out⟩, ⟨by repeat (first | (with_reducible first | exact HB.out | apply below_alloc | apply pw_below_drewN | apply below_drew1) | exact HB.out)⟩⟩
           ·rw [if_neg c20] at H
            exact absurd H (by simp)
          ·rw [if_neg c19] at H
           have c19b0 : (x8_3 == x6_2) = false := beq_eq_false_iff_ne.mpr c19
           have c19b1 : (x8_3 != x6_2) = true := bne_iff_ne.mpr c19
           by_cases c22 : 0 ≤ x6_2
           ·rw [if_pos c22] at H
            have c22b0 : decide (0 ≤ x6_2) = true := decide_eq_true c22
            clear c22
            by_cases c23 : x6_2 < (l0.length : Int)
            ·rw [if_pos c23] at H
             have c23b0 : decide (x6_2 < (l0.length : Int)) = true := decide_eq_true c23
             clear c23
             by_cases c24 : 0 ≤ x8_3
             ·rw [if_pos c24] at H
              have c24b0 : decide (0 ≤ x8_3) = true := decide_eq_true c24
              clear c24
              replace H := Option.bind_eq_some_iff.mp H
              obtain ⟨t222, A250, H⟩ := H
              replace H : (if x7_3.length < 17592186044416 then (spec_Duties.l2 k3 l0 x5_2 x6_2 (x7_3 ++ [t222]) (wrap64 (x8_3 + 1))) else (none)) = some (r1, r2) := H
              have A25 := Aside0.mk A250
              clear A250
              by_cases c26 : x7_3.length < 17592186044416
              ·rw [if_pos c26] at H
               have LMc26 := Aside0.mk c26
               clear c26
               obtain ⟨y223, hy223⟩ : ∃ y_ : List Int, y_ = (x7_3 ++ [t222]) := ⟨_, rfl⟩
               replace H : (spec_Duties.l2 k3 l0 x5_2 x6_2 y223 (wrap64 (x8_3 + 1))) = some (r1, r2) := by first | (rw [hy223]; with_reducible exact H) | (have H2_ := (Option.bind_some _ _).symm.trans H; rw [hy223]; with_reducible exact H2_) | (have H2_ := (Option.bind_some _ _).symm.trans H; with_reducible exact H2_) | with_reducible exact H | (rw [hy223]; exact H) | exact H
               have Ny223 := Aside0.mk hy223
               clear hy223
               have H' := Aside0.mk H
               clear H
               try go_wp2
               have n0_ := Aside0.mk (Kd.S_drew HO_5.out)
               have n1_ := Aside0.mk (Kd.R_drew HO_7.out)
               have n2_ := Aside0.mk (below_drew1 HB.out)
               clear HO_5 HO_7 HB
               have HO_5 := n0_
               have HO_7 := n1_
               have HB := n2_
               clear n0_ n1_ n2_
               have p220 : 0 ≤ (x6_2 : Int) := of_decide_eq_true s7_1
               have q220 : x6_2 < (l0.length : Int) := of_decide_eq_true s7_1
               obtain ⟨ad220, e220, hx220_0, hx220_1, hx220_2, hx220_3, hx220_4, hx220_5⟩ := at_T25 HR0.out x6_2 p220 q220
               have hw220_5 := hx220_5
               have hw220_4 := hx220_4
               have hw220_3 := hx220_3
               have hw220_2 := hx220_2
               have hw220_1 := hx220_1
               have hw220_0 := hx220_0
               cases e220
               replace hx220_0 := (HB.out.cell (World.block_lt_of_cell? w _ hx220_0)).trans hx220_0
               replace hx220_1 := (HB.out.cell (World.block_lt_of_cell? w _ hx220_1)).trans hx220_1
               replace hx220_2 := (HB.out.cell (World.block_lt_of_cell? w _ hx220_2)).trans hx220_2
               replace hx220_3 := (HB.out.cell (World.block_lt_of_cell? w _ hx220_3)).trans hx220_3
               replace hx220_4 := (HB.out.cell (World.block_lt_of_cell? w _ hx220_4)).trans hx220_4
               replace hx220_5 := (HB.out.cell (World.block_lt_of_cell? w _ hx220_5)).trans hx220_5
               replace p220 := eq_true p220
               replace q220 := eq_true q220
               have p221 : 0 ≤ (x8_3 : Int) := of_decide_eq_true s7_1
               have q221 : x8_3 < (l0.length : Int) := of_decide_eq_true s7_1
               obtain ⟨ad221, e221, hx221_0, hx221_1, hx221_2, hx221_3, hx221_4, hx221_5⟩ := at_T25 HR0.out x8_3 p221 q221
               have hw221_5 := hx221_5
               have hw221_4 := hx221_4
               have hw221_3 := hx221_3
               have hw221_2 := hx221_2
               have hw221_1 := hx221_1
               have hw221_0 := hx221_0
               obtain rfl : ad220 = ad221 := (by injection e221)
               replace hx221_0 := (HB.out.cell (World.block_lt_of_cell? w _ hx221_0)).trans hx221_0
               replace hx221_1 := (HB.out.cell (World.block_lt_of_cell? w _ hx221_1)).trans hx221_1
               replace hx221_2 := (HB.out.cell (World.block_lt_of_cell? w _ hx221_2)).trans hx221_2
               replace hx221_3 := (HB.out.cell (World.block_lt_of_cell? w _ hx221_3)).trans hx221_3
               replace hx221_4 := (HB.out.cell (World.block_lt_of_cell? w _ hx221_4)).trans hx221_4
               replace hx221_5 := (HB.out.cell (World.block_lt_of_cell? w _ hx221_5)).trans hx221_5
               replace p221 := eq_true p221
               replace q221 := eq_true q221
               refine start_ (n := 10) (S := fun w' => w'.cell? (ad220.add ((x6_2).toNat * 6)) = some (.int .i64 ((rd_T25 l0 x6_2).f0)) ∧ w'.cell? ⟨(ad220.add ((x6_2).toNat * 6)).block, (ad220.add ((x6_2).toNat * 6)).off + 1, none⟩ = some (.int .i64 ((rd_T25 l0 x6_2).f1)) ∧ w'.cell? ⟨(ad220.add ((x6_2).toNat * 6)).block, (ad220.add ((x6_2).toNat * 6)).off + 2, none⟩ = some (.int .i64 ((rd_T25 l0 x6_2).f2)) ∧ w'.cell? ⟨(ad220.add ((x6_2).toNat * 6)).block, (ad220.add ((x6_2).toNat * 6)).off + 3, none⟩ = some (.int .i64 ((rd_T25 l0 x6_2).f3)) ∧ w'.cell? ⟨(ad220.add ((x6_2).toNat * 6)).block, (ad220.add ((x6_2).toNat * 6)).off + 4, none⟩ = some (.int .i64 ((rd_T25 l0 x6_2).f4)) ∧ w'.cell? ⟨(ad220.add ((x6_2).toNat * 6)).block, (ad220.add ((x6_2).toNat * 6)).off + 5, none⟩ = some (.int .i64 ((rd_T25 l0 x6_2).f5)) ∧ w'.cell? (ad220.add ((x8_3).toNat * 6)) = some (.int .i64 ((rd_T25 l0 x8_3).f0)) ∧ w'.cell? ⟨(ad220.add ((x8_3).toNat * 6)).block, (ad220.add ((x8_3).toNat * 6)).off + 1, none⟩ = some (.int .i64 ((rd_T25 l0 x8_3).f1)) ∧ w'.cell? ⟨(ad220.add ((x8_3).toNat * 6)).block, (ad220.add ((x8_3).toNat * 6)).off + 2, none⟩ = some (.int .i64 ((rd_T25 l0 x8_3).f2)) ∧ w'.cell? ⟨(ad220.add ((x8_3).toNat * 6)).block, (ad220.add ((x8_3).toNat * 6)).off + 3, none⟩ = some (.int .i64 ((rd_T25 l0 x8_3).f3)) ∧ w'.cell? ⟨(ad220.add ((x8_3).toNat * 6)).block, (ad220.add ((x8_3).toNat * 6)).off + 4, none⟩ = some (.int .i64 ((rd_T25 l0 x8_3).f4)) ∧ w'.cell? ⟨(ad220.add ((x8_3).toNat * 6)).block, (ad220.add ((x8_3).toNat * 6)).off + 5, none⟩ = some (.int .i64 ((rd_T25 l0 x8_3).f5))) (ds := []) #[false, false, false, false, false, false, false, false, false, false] (by kernel_rfl) rfl rfl ⟨((HB.out.cell (World.block_lt_of_cell? w _ hw220_0)).trans hw220_0), ((HB.out.cell (World.block_lt_of_cell? w _ hw220_1)).trans hw220_1), ((HB.out.cell (World.block_lt_of_cell? w _ hw220_2)).trans hw220_2), ((HB.out.cell (World.block_lt_of_cell? w _ hw220_3)).trans hw220_3), ((HB.out.cell (World.block_lt_of_cell? w _ hw220_4)).trans hw220_4), ((HB.out.cell (World.block_lt_of_cell? w _ hw220_5)).trans hw220_5), ((HB.out.cell (World.block_lt_of_cell? w _ hw221_0)).trans hw221_0), ((HB.out.cell (World.block_lt_of_cell? w _ hw221_1)).trans hw221_1), ((HB.out.cell (World.block_lt_of_cell? w _ hw221_2)).trans hw221_2), ((HB.out.cell (World.block_lt_of_cell? w _ hw221_3)).trans hw221_3), ((HB.out.cell (World.block_lt_of_cell? w _ hw221_4)).trans hw221_4), ((HB.out.cell (World.block_lt_of_cell? w _ hw221_5)).trans hw221_5)⟩ (fun hHeld => ?_); refine with_tabW spec_Duties.tab16 spec_Duties.bits16 (fun HT_ HW_ => ?_)
               generalize wr.drew = w3 at HO_5 HO_7 HB hx220_0 hx220_1 hx220_2 hx220_3 hx220_4 hx220_5 hx221_0 hx221_1 hx221_2 hx221_3 hx221_4 hx221_5 hHeld ⊢
               refine pure_ (i := 0) (N := some 45) (v := ?_) (a' := ?_) (bz 10 1) rfl rfl (any_of HT_.out (by kernel_rfl)) (fun _ _ _ h => h) (Or.inl ⟨by rfl, ?_⟩) ?_ ?_
               rotate_left
               ·intro w'
                go_simp
                with_reducible rfl
               rotate_left
               ·exact t7_0
               refine pure_ (i := 1) (N := some 46) (v := ?_) (a' := ?_) (bz 10 3) rfl rfl (any_of HT_.out (by kernel_rfl)) (fun _ _ _ h => h) (Or.inl ⟨by rfl, ?_⟩) ?_ ?_
               rotate_left
               ·intro w'
                go_simp
                with_reducible rfl
               rotate_left
               ·exact t7_0
               refine pure_ (i := 2) (N := some 47) (v := ?_) (a' := ?_) (bz 10 7) rfl rfl (any_of HT_.out (by kernel_rfl)) (fun _ _ _ h => h) (Or.inl ⟨by rfl, ?_⟩) ?_ ?_
               rotate_left
               ·intro w'
                go_simp
                with_reducible rfl
               rotate_left
               ·exact t7_0
               refine pure_ (i := 4) (N := some 49) (v := ?_) (a' := ?_) (bz 10 23) rfl rfl (any_of HT_.out (by kernel_rfl)) (fun _ _ _ h => h) (Or.inl ⟨by rfl, ?_⟩) ?_ ?_
               rotate_left
               ·intro w'
                go_simp
                with_reducible rfl
               rotate_left
               ·exact t7_0
               refine pure_ (i := 5) (N := some 50) (v := ?_) (a' := ?_) (bz 10 55) rfl rfl (any_of HT_.out (by kernel_rfl)) (fun _ _ _ h => h) (Or.inl ⟨by rfl, ?_⟩) ?_ ?_
               rotate_left
               ·intro w'
                go_simp
                with_reducible rfl
               rotate_left
               ·exact t7_0
               refine pure_ (i := 6) (N := some 51) (v := ?_) (a' := ?_) (bz 10 119) rfl rfl (any_of HT_.out (by kernel_rfl)) (fun _ _ _ h => h) (Or.inl ⟨by rfl, ?_⟩) ?_ ?_
               rotate_left
               ·intro w'
                go_simp
                with_reducible rfl
               rotate_left
               ·exact t7_0
               refine take_ (i := 3) (N := some 48) (v := ?_) (a' := ?_) (bz 10 127) rfl rfl (take_ofW HT_.out HW_.out (by kernel_rfl)) (fun _ _ _ h => h) (Or.inl ⟨by rfl, ?_⟩) hHeld ?_ ?_
               rotate_left
               ·rintro w' ⟨s0, s1, s2, s3, s4, s5, s6, s7, s8, s9, s10, s11⟩
                go_simp
                with_reducible rfl
               rotate_left
               ·exact t7_0
               refine take_ (i := 7) (N := some 52) (v := ?_) (a' := ?_) (bz 10 255) rfl rfl (take_ofW HT_.out HW_.out (by kernel_rfl)) (fun _ _ _ h => h) (Or.inl ⟨by rfl, ?_⟩) hHeld ?_ ?_
               rotate_left
               ·rintro w' ⟨s0, s1, s2, s3, s4, s5, s6, s7, s8, s9, s10, s11⟩
                go_simp
                with_reducible rfl
               rotate_left
               ·exact t7_0
               refine one_ (i := 8) (N := some 53) (bz 10 511) rfl rfl (one_of HT_.out (by kernel_rfl)) (by decide) (fun K hK => ?_)
               refine goes_ Try.func45 (by kernel_rfl) rfl #[.agg #[.int .i64 ((rd_T25 l0 x6_2).f0), .int .i64 ((rd_T25 l0 x6_2).f1), .int .i64 ((rd_T25 l0 x6_2).f2), .int .i64 ((rd_T25 l0 x6_2).f3), .int .i64 ((rd_T25 l0 x6_2).f4), .int .i64 ((rd_T25 l0 x6_2).f5)], .agg #[.int .i64 ((rd_T25 l0 x8_3).f0), .int .i64 ((rd_T25 l0 x8_3).f1), .int .i64 ((rd_T25 l0 x8_3).f2), .int .i64 ((rd_T25 l0 x8_3).f3), .int .i64 ((rd_T25 l0 x8_3).f4), .int .i64 ((rd_T25 l0 x8_3).f5)]] (by rfl) rfl rfl (by (try simp only [List.map_toArray, List.map_cons, List.map_nil]); first | done | rfl | (simp only [List.length_drop, List.length_take]; rfl)) ?_
               with_reducible refine (spec_Duty.calls k3 ((rd_T25 l0 x6_2).f0) ((rd_T25 l0 x6_2).f1) ((rd_T25 l0 x6_2).f2) ((rd_T25 l0 x6_2).f3) ((rd_T25 l0 x6_2).f4) ((rd_T25 l0 x6_2).f5) ((rd_T25 l0 x8_3).f0) ((rd_T25 l0 x8_3).f1) ((rd_T25 l0 x8_3).f2) ((rd_T25 l0 x8_3).f3) ((rd_T25 l0 x8_3).f4) ((rd_T25 l0 x8_3).f5) t222 _ A25.out).mono ?_
               rintro e w4 ⟨rfl, hb⟩
               refine ⟨_, rfl, ?_⟩
               have n0_ := Aside0.mk (Kd.S_below (by (with_reducible repeat (first | apply Kd.S_alloc | apply Kd.S_drewN | apply Kd.S_drew)); exact HO_5.out) hb)
               have n1_ := Aside0.mk (Kd.R_below (by (with_reducible repeat (first | apply Kd.R_alloc | apply Kd.R_drewN | apply Kd.R_drew)); exact HO_7.out) hb)
               have n2_ := Aside0.mk (below_step s7_0 hb)
               clear HO_5 HO_7 HB
               have HO_5 := n0_
               have HO_7 := n1_
               have HB := n2_
               clear n0_ n1_ n2_
               (try clear hb)
               (try clear hb2)
               (try clear hk)
               (try clear hi)
               refine hK.out _ _ ⟨((HB.out.cell (World.block_lt_of_cell? w _ hw220_0)).trans hw220_0), ((HB.out.cell (World.block_lt_of_cell? w _ hw220_1)).trans hw220_1), ((HB.out.cell (World.block_lt_of_cell? w _ hw220_2)).trans hw220_2), ((HB.out.cell (World.block_lt_of_cell? w _ hw220_3)).trans hw220_3), ((HB.out.cell (World.block_lt_of_cell? w _ hw220_4)).trans hw220_4), ((HB.out.cell (World.block_lt_of_cell? w _ hw220_5)).trans hw220_5), ((HB.out.cell (World.block_lt_of_cell? w _ hw221_0)).trans hw221_0), ((HB.out.cell (World.block_lt_of_cell? w _ hw221_1)).trans hw221_1), ((HB.out.cell (World.block_lt_of_cell? w _ hw221_2)).trans hw221_2), ((HB.out.cell (World.block_lt_of_cell? w _ hw221_3)).trans hw221_3), ((HB.out.cell (World.block_lt_of_cell? w _ hw221_4)).trans hw221_4), ((HB.out.cell (World.block_lt_of_cell? w _ hw221_5)).trans hw221_5)⟩ (fun hHeld => ?_)
               clear hK K
               refine norm_ (a' := ?_) ?_ ?_
               rotate_left
               ·show Act.put _ (some 53) _ = _
                simp only [Act.put, y1, y2, y3, i64_w, i32_w]
                rfl
               refine pure_ (i := 9) (N := some 9) (v := ?_) (a' := ?_) (bz 10 1023) rfl rfl (any_of HT_.out (by kernel_rfl)) (fun _ _ _ h => h) (Or.inl ⟨by rfl, ?_⟩) ?_ ?_
               rotate_left
               ·intro w'
                go_simp
                with_reducible rfl
               rotate_left
               ·exact t7_0
               refine done_ (done_of HT_.out (by kernel_rfl)) ?_
               try go_wp2_with (first | ((with_reducible refine gate_builtin (b := .append) (xs := #[.tmp 54, .tmp 56]) rfl ?_); at_builtin; refine Kd.R_append (Kd.int .i64) (w0 := w) w.heap.size rfl (.tmp 54) (.tmp 56) 43 3 (.int .i64 0) 8 rfl Try.underlying43 info3 rfl (by decide) (by omega) u7 x7_3 t222 [.int .i64 t222] (fun _ => True) (fun _ => False) rfl rfl ?aP (fun _ hk => hk.elim) ?aF ?aO ?aB ?aS ?aL ?_; (case aP => exact rfl); (case aB => exact s7_0); (case aF => exact (fun _ _ => trivial)); (case aO => exact (by (with_reducible repeat (first | apply Kd.R_alloc | apply Kd.R_drewN | apply Kd.R_drew)); exact HO_7.out)); (case aS => exact (below_size s7_0)); (case aL => have := LMc26.out; omega); intro v224 w5 ho hb hg hat; rw [← Ny223.out] at ho; have n0_ := Aside0.mk (Kd.S_after (ok := (fun _ => True)) (by (with_reducible repeat (first | apply Kd.S_alloc | apply Kd.S_drewN | apply Kd.S_drew)); exact Kd.S_mono HO_5.out (fun _ hk => ⟨trivial, hk⟩)) hg hat); have n1_ := Aside0.mk (hb); have n2_ := Aside0.mk (ho); clear HO_5; clear HB; clear HO_7; have HO_5 := n0_; have HB := n1_; have HO225 := n2_; clear n0_ n1_ n2_; clear ho hb hg hat))
               go_roundg k3
               case measure => have := HK1.out; have := HK2.out; have := HK3.out; omega
               case rel => exact ⟨(y223), (wrap64 (x8_3 + 1)), s7_2, H', ⟨by have := HK1.out; have := HK2.out; have := HK3.out; omega⟩, ⟨by (with_reducible repeat (first | apply Kd.S_alloc | apply Kd.S_drewN | apply Kd.S_drew)); exact Kd.S_mono HO_5.out (fun _ hk => hk.2)⟩, ⟨by (with_reducible repeat (first | apply Kd.R_alloc | apply Kd.R_drewN | apply Kd.R_drew)); exact HO225.out⟩, ⟨by repeat (first | (with_reducible first | exact HB.out | apply below_alloc | apply pw_below_drewN | apply below_drew1) | exact HB.out)⟩⟩
              ·rw [if_neg c26] at H
               exact absurd H (by simp)
             ·rw [if_neg c24] at H
              exact absurd H (by simp)
            ·rw [if_neg c23] at H
             exact absurd H (by simp)
           ·rw [if_neg c22] at H
            exact absurd H (by simp)
         ·rw [if_neg c18] at H
          have c18b0 : decide (x8_3 < (l0.length : Int)) = false := decide_eq_false c18
          clear c18
          by_cases c30 : x5_2.length < 5864062014805
          ·rw [if_pos c30] at H
           have LMc30 := Aside0.mk c30
           clear c30
           obtain ⟨y226, hy226⟩ : ∃ y_ : List (List Int), y_ = (x5_2 ++ [x7_3]) := ⟨_, rfl⟩
           replace H : (spec_Duties.l1 k3 l0 y226 (wrap64 (x6_2 + 1))) = some (r1, r2) := by first | (rw [hy226]; with_reducible exact H) | (have H2_ := (Option.bind_some _ _).symm.trans H; rw [hy226]; with_reducible exact H2_) | (have H2_ := (Option.bind_some _ _).symm.trans H; with_reducible exact H2_) | with_reducible exact H | (rw [hy226]; exact H) | exact H
           have Ny226 := Aside0.mk hy226
           clear hy226
           have H' := Aside0.mk H
           clear H
           obtain ⟨Ao32, co32, eo32⟩ := Kd.R_slice HO_7.out
           subst eo32
           go_wp2_with (first | ((with_reducible refine gate_builtin (b := .append) (xs := #[.tmp 58, .tmp 60]) rfl ?_); at_builtin; refine Kd.S_append (Kd.slice 3 (Kd.int .i64)) (w0 := w) w.heap.size rfl (.tmp 58) (.tmp 60) 39 43 (.slice none 0 0) 24 rfl Try.underlying39 info43 rfl (by decide) (by omega) u5 x5_2 x7_3 [.slice Ao32 x7_3.length co32] (fun _ => True) (fun k_ => some k_ = (.slice Ao32 x7_3.length co32 : Value).ownBlock) rfl rfl ?aP (fun k_ hk_ => ((Kd.R_mono (ok' := fun k_ => ((fun _ => True)) k_ ∧ some k_ ≠ (u5 : Value).ownBlock) (Kd.R_apart' (HO_7.out) (Kd.S_typed HO_5.out) (by decide)) (fun k_ hk => ⟨trivial, hk.2⟩))).1 k_ hk_.symm) ?aF ?aO ?aB ?aS ?aL ?_; (case aP => exact Kd.M_row (Kd.R_mono (Kd.R_tight rfl (Kd.R_mono (ok' := fun k_ => ((fun _ => True)) k_ ∧ some k_ ≠ (u5 : Value).ownBlock) (Kd.R_apart' (HO_7.out) (Kd.S_typed HO_5.out) (by decide)) (fun k_ hk => ⟨trivial, hk.2⟩))) (fun _ h_ => h_))); (case aB => exact s7_0); (case aF => exact (fun _ _ => trivial)); (case aO => exact (by (with_reducible repeat (first | apply Kd.S_alloc | apply Kd.S_drewN | apply Kd.S_drew)); exact Kd.S_mono HO_5.out (fun k_ hk => ⟨trivial, fun e_ => hk e_⟩))); (case aS => exact (below_size s7_0)); (case aL => have := LMc30.out; omega); intro v227 w3 ho hb hg hat; rw [← Ny226.out] at ho; have n0_ := Aside0.mk (hb); have n1_ := Aside0.mk (ho); clear HB; clear HO_5; clear HO_7; have HB := n0_; have HO228 := n1_; clear n0_ n1_; clear ho hb hg hat))
           go_roundg k3
           case measure => have := HK1.out; have := HK2.out; have := HK3.out; omega
           case rel => exact ⟨(y226), (wrap64 (x6_2 + 1)), s7_2, H', ⟨by have := HK1.out; have := HK2.out; have := HK3.out; omega⟩, ⟨by (with_reducible repeat (first | apply Kd.S_alloc | apply Kd.S_drewN | apply Kd.S_drew)); exact HO228.out⟩, ⟨by repeat (first | (with_reducible first | exact HB.out | apply below_alloc | apply pw_below_drewN | apply below_drew1) | exact HB.out)⟩⟩
          ·rw [if_neg c30] at H
           exact absurd H (by simp)
      ·rw [if_neg c15] at H
       have c15b0 : decide (x6_2 < (l0.length : Int)) = false := decide_eq_false c15
       clear c15
       simp only [Option.some.injEq, Prod.mk.injEq] at H
       obtain ⟨rfl, rfl⟩ := H
       go_wp2
       go_ret2
       exact ⟨_, by first | rfl | (simp [errW_none, errW_some] <;> rfl) | (simp [*, errW_none, errW_some] <;> rfl), by (with_reducible repeat (first | apply Kd.S_alloc | apply Kd.S_drewN | apply Kd.S_drew)); exact HO_5.out, by repeat (first | (with_reducible first | exact HB.out | apply below_alloc | apply pw_below_drewN | apply below_drew1) | exact HB.out)⟩

/-! ### laws_toShip: function 16 -/
def laws_toShip.f (a0_0 : Int) (a0_1 : Int) (a0_2 : Int) (a0_3 : Int) (a0_4 : Int) (a0_5 : Int) : Option (Int × Int × Int × Int × Int × Int) := some (a0_0, a0_1, a0_2, a0_3, a0_4, a0_5)
set_option maxHeartbeats 8000000 in
set_option maxRecDepth 100000 in
theorem laws_toShip.calls (a0_0 : Int) (a0_1 : Int) (a0_2 : Int) (a0_3 : Int) (a0_4 : Int) (a0_5 : Int) (r1 : Int) (r2 : Int) (r3 : Int) (r4 : Int) (r5 : Int) (r6 : Int) (w : World) (h : laws_toShip.f a0_0 a0_1 a0_2 a0_3 a0_4 a0_5 = some (r1, r2, r3, r4, r5, r6)) :
  Calls Try.prog 16 #[.agg #[.int .i64 a0_0, .int .i64 a0_1, .int .i64 a0_2, .int .i64 a0_3, .int .i64 a0_4, .int .i64 a0_5]] w fun e w' => e = .returned (.agg #[.int .i64 r1, .int .i64 r2, .int .i64 r3, .int .i64 r4, .int .i64 r5, .int .i64 r6]) ∧ Below w.heap.size w w' := by
 have hu23 := Try.underlying23
 have hu25 := Try.underlying25
 have HB := Aside0.mk (Below.refl w.heap.size w)
 have H : (some (a0_0, a0_1, a0_2, a0_3, a0_4, a0_5)) = some (r1, r2, r3, r4, r5, r6) := h
 clear h
 simp only [Option.some.injEq, Prod.mk.injEq] at H
 obtain ⟨rfl, rfl, rfl, rfl, rfl, rfl⟩ := H
 go_enter Try.func16, Try.ntmps16
 go_wp2_with (first | ((with_reducible refine gate_dst (N := 1) rfl ?_); refine box_event ?hg (N := 1) ?hd (cs := #[.int .i64 a0_0, .int .i64 a0_1, .int .i64 a0_2, .int .i64 a0_3, .int .i64 a0_4, .int .i64 a0_5]) (t := 23) ?hr ?_; (case hd => rfl); (case hg => rfl); (case hr => first | (go_simp; done) | (go_simp; rfl)); intro gb229 hg w1 hbox hb; have n0_ := Aside0.mk (below_step s7_0 hb); have n1_ := Aside0.mk (hbox); have n2_ := Aside0.mk (ns hg s7_0 : w.heap.size ≤ gb229); have n3_ := Aside0.mk (ns hg s7_0 : w.heap.size ≤ gb229); clear HB; have HB := n0_; have BK229 := n1_; have GW229 := n2_; have GE229 := n3_; clear n0_ n1_ n2_ n3_; clear hb hbox hg) | ((with_reducible refine gate_dst (N := 2) rfl ?_); refine box_event ?hg (N := 2) ?hd (cs := #[.int .i64 0, .int .i64 0, .int .i64 0, .int .i64 0, .int .i64 0, .int .i64 0]) (t := 25) ?hr ?_; (case hd => rfl); (case hg => rfl); (case hr => first | (go_simp; done) | (go_simp; rfl)); intro gb230 hg w2 hbox hb; have n0_ := Aside0.mk (bb (zk BK229.out) hb); have n1_ := Aside0.mk (below_step (by repeat (first | (with_reducible first | exact HB.out | apply below_alloc | apply pw_below_drewN | apply below_drew1 | refine below_set ?_ GE229.out) | exact HB.out)) hb); have n2_ := Aside0.mk (hbox); have n3_ := Aside0.mk (ns hg (by repeat (first | (with_reducible first | exact HB.out | apply below_alloc | apply pw_below_drewN | apply below_drew1 | refine below_set ?_ GE229.out) | exact HB.out)) : w.heap.size ≤ gb230); have n4_ := Aside0.mk (ns hg (by repeat (first | (with_reducible first | exact HB.out | apply below_alloc | apply pw_below_drewN | apply below_drew1 | refine below_set ?_ GE229.out) | exact HB.out)) : w.heap.size ≤ gb230); have n5_ := Aside0.mk ((nlt hg (zk BK229.out) : gb229 ≠ gb230)); have n6_ := Aside0.mk ((ngt hg (zk BK229.out) : gb230 ≠ gb229)); clear BK229; clear HB; have BK229 := n0_; have HB := n1_; have BK230 := n2_; have GW230 := n3_; have GE230 := n4_; have NB229_230 := n5_; have NB230_229 := n6_; clear n0_ n1_ n2_ n3_ n4_ n5_ n6_; clear hb hbox hg) | ((with_reducible refine gate_dst (N := 3) rfl ?_); refine box_event ?hg (N := 3) ?hd (cs := #[.int .i64 0, .int .i64 0, .int .i64 0, .int .i64 0, .int .i64 0, .int .i64 0]) (t := 25) ?hr ?_; (case hd => rfl); (case hg => rfl); (case hr => first | (go_simp; done) | (go_simp; rfl)); intro gb231 hg w3 hbox hb; have n0_ := Aside0.mk (bb (zk BK229.out) hb); have n1_ := Aside0.mk (bb (zk BK230.out) hb); have n2_ := Aside0.mk (below_step s7_3 hb); have n3_ := Aside0.mk (hbox); have n4_ := Aside0.mk (ns hg s7_3 : w.heap.size ≤ gb231); have n5_ := Aside0.mk (ns hg s7_3 : w.heap.size ≤ gb231); have n6_ := Aside0.mk ((nlt hg (zk BK229.out) : gb229 ≠ gb231)); have n7_ := Aside0.mk ((ngt hg (zk BK229.out) : gb231 ≠ gb229)); have n8_ := Aside0.mk ((nlt hg (zk BK230.out) : gb230 ≠ gb231)); have n9_ := Aside0.mk ((ngt hg (zk BK230.out) : gb231 ≠ gb230)); clear BK229; clear BK230; clear HB; have BK229 := n0_; have BK230 := n1_; have HB := n2_; have BK231 := n3_; have GW231 := n4_; have GE231 := n5_; have NB229_231 := n6_; have NB231_229 := n7_; have NB230_231 := n8_; have NB231_230 := n9_; clear n0_ n1_ n2_ n3_ n4_ n5_ n6_ n7_ n8_ n9_; clear hb hbox hg; have hnb5 := NB229_230.out; have hnc5 := NB230_229.out; have hnb6 := NB229_231.out; have hnc6 := NB231_229.out; have hcz7_0 : w3.cell? ⟨gb229, 0, none⟩ = some (.int .i64 a0_0) := bc BK229.out 0; have hcz7_1 : w3.cell? ⟨gb229, 1, none⟩ = some (.int .i64 a0_1) := bc BK229.out 1; have hcz7_2 : w3.cell? ⟨gb229, 2, none⟩ = some (.int .i64 a0_2) := bc BK229.out 2; have hcz7_3 : w3.cell? ⟨gb229, 3, none⟩ = some (.int .i64 a0_3) := bc BK229.out 3; have hcz7_4 : w3.cell? ⟨gb229, 4, none⟩ = some (.int .i64 a0_4) := bc BK229.out 4; have hcz7_5 : w3.cell? ⟨gb229, 5, none⟩ = some (.int .i64 a0_5) := bc BK229.out 5; have hfz7_0 := blk_frozen BK229.out 0; have hfz7_1 := blk_frozen BK229.out 1; have hfz7_2 := blk_frozen BK229.out 2; have hfz7_3 := blk_frozen BK229.out 3; have hfz7_4 := blk_frozen BK229.out 4; have hfz7_5 := blk_frozen BK229.out 5; have hnb8 := NB231_230.out; have hnc8 := NB230_231.out; have hcz9_0 : w3.cell? ⟨gb231, 0, none⟩ = some (.int .i64 0) := bc BK231.out 0; have hcz9_1 : w3.cell? ⟨gb231, 1, none⟩ = some (.int .i64 0) := bc BK231.out 1; have hcz9_2 : w3.cell? ⟨gb231, 2, none⟩ = some (.int .i64 0) := bc BK231.out 2; have hcz9_3 : w3.cell? ⟨gb231, 3, none⟩ = some (.int .i64 0) := bc BK231.out 3; have hcz9_4 : w3.cell? ⟨gb231, 4, none⟩ = some (.int .i64 0) := bc BK231.out 4; have hcz9_5 : w3.cell? ⟨gb231, 5, none⟩ = some (.int .i64 0) := bc BK231.out 5; have hfz9_0 := blk_frozen BK231.out 0; have hfz9_1 := blk_frozen BK231.out 1; have hfz9_2 := blk_frozen BK231.out 2; have hfz9_3 := blk_frozen BK231.out 3; have hfz9_4 := blk_frozen BK231.out 4; have hfz9_5 := blk_frozen BK231.out 5; have hcz10_0 : w3.cell? ⟨gb230, 0, none⟩ = some (.int .i64 0) := bc BK230.out 0; have hcz10_1 : w3.cell? ⟨gb230, 1, none⟩ = some (.int .i64 0) := bc BK230.out 1; have hcz10_2 : w3.cell? ⟨gb230, 2, none⟩ = some (.int .i64 0) := bc BK230.out 2; have hcz10_3 : w3.cell? ⟨gb230, 3, none⟩ = some (.int .i64 0) := bc BK230.out 3; have hcz10_4 : w3.cell? ⟨gb230, 4, none⟩ = some (.int .i64 0) := bc BK230.out 4; have hcz10_5 : w3.cell? ⟨gb230, 5, none⟩ = some (.int .i64 0) := bc BK230.out 5; have hfz10_0 := blk_frozen BK230.out 0; have hfz10_1 := blk_frozen BK230.out 1; have hfz10_2 := blk_frozen BK230.out 2; have hfz10_3 := blk_frozen BK230.out 3; have hfz10_4 := blk_frozen BK230.out 4; have hfz10_5 := blk_frozen BK230.out 5))
 refine bodyPost_ret (results_cell_row rfl _ _ gb230 25 #[.int .i64 a0_0, .int .i64 a0_1, .int .i64 a0_2, .int .i64 a0_3, .int .i64 a0_4, .int .i64 a0_5] (0, 0) _ rfl (by (with_reducible repeat (first | refine blk_drewN ?_ _ | refine blk_drew ?_ | refine blk_alloc ?_ _)); refine blk_put (cs := #[.int .i64 a0_0, .int .i64 a0_1, .int .i64 a0_2, .int .i64 a0_3, .int .i64 a0_4, .int .i64 0]) ?_ 5 _ rfl; (with_reducible repeat (first | refine blk_drewN ?_ _ | refine blk_drew ?_ | refine blk_alloc ?_ _)); refine blk_put (cs := #[.int .i64 a0_0, .int .i64 a0_1, .int .i64 a0_2, .int .i64 a0_3, .int .i64 0, .int .i64 0]) ?_ 4 _ rfl; (with_reducible repeat (first | refine blk_drewN ?_ _ | refine blk_drew ?_ | refine blk_alloc ?_ _)); refine blk_put (cs := #[.int .i64 a0_0, .int .i64 a0_1, .int .i64 a0_2, .int .i64 0, .int .i64 0, .int .i64 0]) ?_ 3 _ rfl; (with_reducible repeat (first | refine blk_drewN ?_ _ | refine blk_drew ?_ | refine blk_alloc ?_ _)); refine blk_put (cs := #[.int .i64 a0_0, .int .i64 a0_1, .int .i64 0, .int .i64 0, .int .i64 0, .int .i64 0]) ?_ 2 _ rfl; (with_reducible repeat (first | refine blk_drewN ?_ _ | refine blk_drew ?_ | refine blk_alloc ?_ _)); refine blk_put (cs := #[.int .i64 a0_0, .int .i64 0, .int .i64 0, .int .i64 0, .int .i64 0, .int .i64 0]) ?_ 1 _ rfl; (with_reducible repeat (first | refine blk_drewN ?_ _ | refine blk_drew ?_ | refine blk_alloc ?_ _)); refine blk_put (cs := #[.int .i64 0, .int .i64 0, .int .i64 0, .int .i64 0, .int .i64 0, .int .i64 0]) ?_ 0 _ rfl; (with_reducible repeat (first | refine blk_drewN ?_ _ | refine blk_drew ?_ | refine blk_alloc ?_ _)); refine blk_far ?_ NB230_231.out _; (with_reducible repeat (first | refine blk_drewN ?_ _ | refine blk_drew ?_ | refine blk_alloc ?_ _)); refine blk_far ?_ NB230_231.out _; (with_reducible repeat (first | refine blk_drewN ?_ _ | refine blk_drew ?_ | refine blk_alloc ?_ _)); refine blk_far ?_ NB230_231.out _; (with_reducible repeat (first | refine blk_drewN ?_ _ | refine blk_drew ?_ | refine blk_alloc ?_ _)); refine blk_far ?_ NB230_231.out _; (with_reducible repeat (first | refine blk_drewN ?_ _ | refine blk_drew ?_ | refine blk_alloc ?_ _)); refine blk_far ?_ NB230_231.out _; (with_reducible repeat (first | refine blk_drewN ?_ _ | refine blk_drew ?_ | refine blk_alloc ?_ _)); refine blk_far ?_ NB230_231.out _; (with_reducible repeat (first | refine blk_drewN ?_ _ | refine blk_drew ?_ | refine blk_alloc ?_ _)); exact BK230.out) Try.underlying25 rfl (by kernel_rfl)) rfl ?_
 exact ⟨by first | rfl | (simp [errW_none, errW_some] <;> rfl) | (simp [*, errW_none, errW_some] <;> rfl), by repeat (first | (with_reducible first | exact HB.out | apply below_alloc | apply pw_below_drewN | apply below_drew1 | refine below_set ?_ GE229.out | refine below_set ?_ GE230.out | refine below_set ?_ GE231.out) | exact HB.out)⟩

/-! ### laws_toShipS: function 49 -/
def laws_toShipS.l0 : Nat → List (S23) → List (S25) → Int → Option ((List (S25)))
 | 0, _, _, _ => none
 | k + 1, x0, x3, x4 => if x4 < (x0.length : Int) then (if 0 ≤ x4 then ((laws_toShip.f ((rd_T23 x0 x4).f0) ((rd_T23 x0 x4).f1) ((rd_T23 x0 x4).f2) ((rd_T23 x0 x4).f3) ((rd_T23 x0 x4).f4) ((rd_T23 x0 x4).f5)).bind fun bt236 => (if x4 < (x3.length : Int) then (laws_toShipS.l0 k x0 (x3.set (x4 : Int).toNat (⟨bt236.1, bt236.2.1, bt236.2.2.1, bt236.2.2.2.1, bt236.2.2.2.2.1, bt236.2.2.2.2.2⟩ : S25)) (wrap64 (x4 + 1))) else (none))) else (none)) else (some x3)
def laws_toShipS.f (k : Nat) (l0 : List (S23)) : Option ((List (S25))) := if 0 ≤ (l0.length : Int) then (if ((l0.length : Int) : Int).toNat ≤ 5864062014805 then (laws_toShipS.l0 k l0 (List.replicate ((l0.length : Int) : Int).toNat z25) 0) else (none)) else (none)
theorem laws_toShipS.mono_l : ∀ k, (∀ y0 y1 y2, LeO (laws_toShipS.l0 k y0 y1 y2) (laws_toShipS.l0 (k + 1) y0 y1 y2))
 | 0 => fun _ _ _ r h => by simp [laws_toShipS.l0] at h
 | k + 1 => by
  have ih0 := laws_toShipS.mono_l k
  ·intro y0 y1 y2
   unfold laws_toShipS.l0
   repeat' first
   | (with_reducible exact ih0 _ _ _)
   | (with_reducible exact LeO.refl _)
   | (with_reducible exact LeO.none _)
   | (with_reducible refine LeO.ite ?_ ?_)
   | (with_reducible refine LeO.bind ?_ (fun _ => ?_))
   | exact ih0 _ _ _
   | exact LeO.none _
   | refine LeO.ite ?_ ?_
   | refine LeO.bind ?_ (fun _ => ?_)
theorem laws_toShipS.mono : ∀ a0 k, LeO (laws_toShipS.f k a0) (laws_toShipS.f (k + 1) a0) := by
 intro a0 k
 have ih0 := laws_toShipS.mono_l k
 unfold laws_toShipS.f
 repeat' first
   | (with_reducible exact ih0 _ _ _)
   | (with_reducible exact LeO.refl _)
   | (with_reducible exact LeO.none _)
   | (with_reducible refine LeO.ite ?_ ?_)
   | (with_reducible refine LeO.bind ?_ (fun _ => ?_))
   | exact ih0 _ _ _
   | exact LeO.none _
   | refine LeO.ite ?_ ?_
   | refine LeO.bind ?_ (fun _ => ?_)
set_option maxHeartbeats 8000000 in
set_option maxRecDepth 100000 in
theorem laws_toShipS.calls (k : Nat) (A0 : Option Addr) (c0 : Nat) (l0 : List (S23)) (r : List (S25)) (w : World) (hr0 : Kd.C k23 w A0 l0.length l0) (hc0 : l0.length ≤ c0) (h : laws_toShipS.f k l0 = some r) :
  Calls Try.prog 49 #[.slice A0 l0.length c0] w fun e w' => ∃ v0_ : Value, e = .returned (v0_) ∧ Kd.R k25 25 w' w.heap.size (fun _ => True) v0_ r ∧ Below w.heap.size w w' := by
 have hu23 := Try.underlying23
 have hu25 := Try.underlying25
 have HR0 := Aside0.mk hr0
 have HC0 := Aside0.mk hc0
 clear hr0 hc0
 have HB := Aside0.mk (Below.refl w.heap.size w)
 have H : (if 0 ≤ (l0.length : Int) then (if ((l0.length : Int) : Int).toNat ≤ 5864062014805 then (laws_toShipS.l0 k l0 (List.replicate ((l0.length : Int) : Int).toNat z25) 0) else (none)) else (none)) = some r := h
 clear h
 by_cases c2 : 0 ≤ (l0.length : Int)
 ·rw [if_pos c2] at H
  have c2b0 := eq_true c2
  have c2b1 : decide (0 ≤ (l0.length : Int)) = true := decide_eq_true c2
  clear c2
  by_cases c3 : ((l0.length : Int) : Int).toNat ≤ 5864062014805
  ·rw [if_pos c3] at H
   have c3b0 := eq_true c3
   have c3b1 : decide (((l0.length : Int) : Int).toNat ≤ 5864062014805) = true := decide_eq_true c3
   clear c3
   obtain ⟨y232, hy232⟩ : ∃ y_ : List (S25), y_ = (List.replicate ((l0.length : Int) : Int).toNat z25) := ⟨_, rfl⟩
   replace H : (laws_toShipS.l0 k l0 y232 0) = some r := by first | (rw [hy232]; with_reducible exact H) | (have H2_ := (Option.bind_some _ _).symm.trans H; rw [hy232]; with_reducible exact H2_) | (have H2_ := (Option.bind_some _ _).symm.trans H; with_reducible exact H2_) | with_reducible exact H | (rw [hy232]; exact H) | exact H
   have Ny232 := Aside0.mk hy232
   clear hy232
   have H' := Aside0.mk H
   clear H
   go_enter Try.func49, Try.ntmps49
   go_wp2_with (first | ((with_reducible refine gate_dst (N := 7) rfl ?_); refine Kd.R_make k25 _ 25 rfl (N := 7) rfl 42 _ _ rfl (l0.length : Int) rfl rfl Try.underlying42 (.agg #[(.int .i64 0), (.int .i64 0), (.int .i64 0), (.int .i64 0), (.int .i64 0), (.int .i64 0)]) 48 info25 rfl (by decide) (by omega) z25 (ok := fun _ => True) (okp := fun _ => True) (k25_mkM _ _ _ z25 ) (fun _ hk => hk) trivial (of_decide_eq_true s7_1) (Nat.le_trans (Nat.mul_le_mul_right _ (of_decide_eq_true s7_1 : (l0.length : Int).toNat ≤ 5864062014805)) (by omega)) (Below.refl _ _) (Nat.le_refl _) ?_; intro v233 w1 ho5 hb hg_ hnew_; clear hg_ hnew_; (first | rw [← Ny232.out] at ho5 | (simp only [Int.reduceToNat] at ho5; rw [← Ny232.out] at ho5)); have n0_ := Aside0.mk (Kd.R_lower ho5 (below_size s7_0)); have n1_ := Aside0.mk (below_step s7_0 hb); clear HB; have HO234 := n0_; have HB := n1_; clear n0_ n1_; clear hb ho5))
   go_loopg [4] k (fun kq v4 w' => ∃ (x3_1 : List (S25)) (x4_1 : Int), v4 = .int .i64 x4_1 ∧ Aside0 (laws_toShipS.l0 kq l0 x3_1 x4_1 = some r) ∧ Aside0 (kq ≤ k) ∧ Aside0 (Kd.R k25 25 w' w.heap.size (fun _ => True) v233 x3_1) ∧ Aside0 (Below w.heap.size w w'))
   case atStart => exact ⟨(y232), (0), s7_2, H', ⟨Nat.le_refl _⟩, ⟨by (with_reducible repeat (first | apply Kd.R_alloc | apply Kd.R_drewN | apply Kd.R_drew)); exact HO234.out⟩, ⟨by repeat (first | (with_reducible first | exact HB.out | apply below_alloc | apply pw_below_drewN | apply below_drew1) | exact HB.out)⟩⟩
   case round =>
    clear H'
    (try clear c2); (try clear c2b0); (try clear c2b1); (try clear p2); (try clear c3); (try clear c3b0); (try clear c3b1); (try clear c4)
    obtain ⟨x3_1, x4_1, rfl, HA, HK1, HO_3, HB⟩ := hrel
    cases gk with
    | zero => exact absurd HA.out (by simp [laws_toShipS.l0])
    | succ k1 =>
     have H := HA.out
     clear HA
     simp only [laws_toShipS.l0] at H
     by_cases c6 : x4_1 < (l0.length : Int)
     ·rw [if_pos c6] at H
      have c6b0 : decide (x4_1 < (l0.length : Int)) = true := decide_eq_true c6
      clear c6
      by_cases c7 : 0 ≤ x4_1
      ·rw [if_pos c7] at H
       have c7b0 : decide (0 ≤ x4_1) = true := decide_eq_true c7
       clear c7
       replace H := Option.bind_eq_some_iff.mp H
       obtain ⟨⟨t236, t237, t238, t239, t240, t241⟩, A80, H⟩ := H
       replace H : (if x4_1 < (x3_1.length : Int) then (laws_toShipS.l0 k1 l0 (x3_1.set (x4_1 : Int).toNat (⟨t236, t237, t238, t239, t240, t241⟩ : S25)) (wrap64 (x4_1 + 1))) else (none)) = some r := H
       have A8 := Aside0.mk A80
       clear A80
       by_cases c9 : x4_1 < (x3_1.length : Int)
       ·rw [if_pos c9] at H
        have c9b0 : decide (x4_1 < (x3_1.length : Int)) = true := decide_eq_true c9
        clear c9
        obtain ⟨y242, hy242⟩ : ∃ y_ : List (S25), y_ = (x3_1.set (x4_1 : Int).toNat (⟨t236, t237, t238, t239, t240, t241⟩ : S25)) := ⟨_, rfl⟩
        replace H : (laws_toShipS.l0 k1 l0 y242 (wrap64 (x4_1 + 1))) = some r := by first | (rw [hy242]; with_reducible exact H) | (have H2_ := (Option.bind_some _ _).symm.trans H; rw [hy242]; with_reducible exact H2_) | (have H2_ := (Option.bind_some _ _).symm.trans H; with_reducible exact H2_) | with_reducible exact H | (rw [hy242]; exact H) | exact H
        have Ny242 := Aside0.mk hy242
        clear hy242
        have H' := Aside0.mk H
        clear H
        have p235 : 0 ≤ (x4_1 : Int) := of_decide_eq_true s7_1
        have q235 : x4_1 < (l0.length : Int) := of_decide_eq_true s7_1
        obtain ⟨ad235, e235, hx235_0, hx235_1, hx235_2, hx235_3, hx235_4, hx235_5⟩ := at_T23 HR0.out x4_1 p235 q235
        cases e235
        replace hx235_0 := (HB.out.cell (World.block_lt_of_cell? w _ hx235_0)).trans hx235_0
        replace hx235_1 := (HB.out.cell (World.block_lt_of_cell? w _ hx235_1)).trans hx235_1
        replace hx235_2 := (HB.out.cell (World.block_lt_of_cell? w _ hx235_2)).trans hx235_2
        replace hx235_3 := (HB.out.cell (World.block_lt_of_cell? w _ hx235_3)).trans hx235_3
        replace hx235_4 := (HB.out.cell (World.block_lt_of_cell? w _ hx235_4)).trans hx235_4
        replace hx235_5 := (HB.out.cell (World.block_lt_of_cell? w _ hx235_5)).trans hx235_5
        replace p235 := eq_true p235
        replace q235 := eq_true q235
        go_wp2_with (first | ((with_reducible refine gate_callee (f := 16) rfl ?_); refine goesL_ (some 20) rfl rfl Try.func16 (by kernel_rfl) rfl #[.agg #[.int .i64 ((rd_T23 l0 x4_1).f0), .int .i64 ((rd_T23 l0 x4_1).f1), .int .i64 ((rd_T23 l0 x4_1).f2), .int .i64 ((rd_T23 l0 x4_1).f3), .int .i64 ((rd_T23 l0 x4_1).f4), .int .i64 ((rd_T23 l0 x4_1).f5)]] rfl (by (try simp only [List.map_toArray, List.map_cons, List.map_nil]); first | done | rfl | (simp only [List.length_drop, List.length_take]; rfl)) ?_; (with_reducible refine (laws_toShip.calls ((rd_T23 l0 x4_1).f0) ((rd_T23 l0 x4_1).f1) ((rd_T23 l0 x4_1).f2) ((rd_T23 l0 x4_1).f3) ((rd_T23 l0 x4_1).f4) ((rd_T23 l0 x4_1).f5) t236 t237 t238 t239 t240 t241 _ A8.out).mono ?_); rintro e w2 ⟨rfl, hb⟩; refine ⟨_, rfl, ?_⟩; have n0_ := Aside0.mk (Kd.R_below (by (with_reducible repeat (first | apply Kd.R_alloc | apply Kd.R_drewN | apply Kd.R_drew)); exact HO_3.out) hb); have n1_ := Aside0.mk (below_step s7_0 hb); clear HO_3; clear HB; have HO_3 := n0_; have HB := n1_; clear n0_ n1_; (try clear hb); (try clear hb2); (try clear hk); (try clear hi); have p10 : 0 ≤ (x4_1 : Int) := of_decide_eq_true s7_1; have q10 : (x4_1 : Int) < ((x3_1.length : Int) : Int) := of_decide_eq_true s7_1; obtain ⟨go10, co10, eo10, gb10, gl10, cl10, HG10⟩ := Kd.R_form HO_3.out (by omega); (first | cases eo10 | (injection eo10 with ea_ en_ ec_; (first | subst ea_ | (injection ea_ with ea_; subst ea_)); subst ec_; clear en_)); have GB10 := Aside0.mk gb10; have GG10 := Aside0.mk HG10; clear gb10 gl10 HG10; obtain ⟨ce10, hcl10, hM10, hcc10, hfr10⟩ := Kd.R_elem HO_3.out z25 (x4_1 : Int) p10 q10; obtain rfl := k25_openM hM10; have hx10_0 : w2.cell? ⟨go10, (x4_1 : Int).toNat * 6, none⟩ = some (.int .i64 ((rd_T25 x3_1 x4_1).f0)) := hcc10 0 _ rfl; have hx10_1 : w2.cell? ⟨go10, (x4_1 : Int).toNat * 6 + 1, none⟩ = some (.int .i64 ((rd_T25 x3_1 x4_1).f1)) := hcc10 1 _ rfl; have hx10_2 : w2.cell? ⟨go10, (x4_1 : Int).toNat * 6 + 2, none⟩ = some (.int .i64 ((rd_T25 x3_1 x4_1).f2)) := hcc10 2 _ rfl; have hx10_3 : w2.cell? ⟨go10, (x4_1 : Int).toNat * 6 + 3, none⟩ = some (.int .i64 ((rd_T25 x3_1 x4_1).f3)) := hcc10 3 _ rfl; have hx10_4 : w2.cell? ⟨go10, (x4_1 : Int).toNat * 6 + 4, none⟩ = some (.int .i64 ((rd_T25 x3_1 x4_1).f4)) := hcc10 4 _ rfl; have hx10_5 : w2.cell? ⟨go10, (x4_1 : Int).toNat * 6 + 5, none⟩ = some (.int .i64 ((rd_T25 x3_1 x4_1).f5)) := hcc10 5 _ rfl; have hf10_0 : w2.frozen? ⟨go10, (x4_1 : Int).toNat * 6, none⟩ = false := hfr10 0; have hf10_1 : w2.frozen? ⟨go10, (x4_1 : Int).toNat * 6 + 1, none⟩ = false := hfr10 1; have hf10_2 : w2.frozen? ⟨go10, (x4_1 : Int).toNat * 6 + 2, none⟩ = false := hfr10 2; have hf10_3 : w2.frozen? ⟨go10, (x4_1 : Int).toNat * 6 + 3, none⟩ = false := hfr10 3; have hf10_4 : w2.frozen? ⟨go10, (x4_1 : Int).toNat * 6 + 4, none⟩ = false := hfr10 4; have hf10_5 : w2.frozen? ⟨go10, (x4_1 : Int).toNat * 6 + 5, none⟩ = false := hfr10 5; (try clear hcl10); (try clear hcc10); (try clear hfr10); (try clear hM10); replace p10 := eq_true p10; replace q10 := eq_true q10; have HX12 := Aside0.mk (show Kd.R k25 25 w2 w.heap.size (fun _ => True) (.slice (some ⟨go10, 0, none⟩) x3_1.length co10) x3_1 from (by (with_reducible repeat (first | apply Kd.R_alloc | apply Kd.R_drewN | apply Kd.R_drew)); exact HO_3.out)); obtain ⟨ce12, hcl12, hM12, hcc12, hfr12⟩ := Kd.R_elem HX12.out z25 (x4_1 : Int) (of_decide_eq_true s7_1) (by have h_ : (x4_1 : Int) < ((x3_1.length : Int) : Int) := of_decide_eq_true s7_1; first | exact h_ | (have e_ := (Kd.R_reads' HO_3.out).1; omega) | simpa using h_); obtain rfl := k25_openM hM12; have HP12 := Kd.R_seg HX12.out (x4_1 : Int) (of_decide_eq_true s7_1) (by have h_ : (x4_1 : Int) < ((x3_1.length : Int) : Int) := of_decide_eq_true s7_1; first | exact h_ | (have e_ := (Kd.R_reads' HO_3.out).1; omega) | simpa using h_) (seg := [.int .i64 t236, .int .i64 t237, .int .i64 t238, .int .i64 t239, .int .i64 t240, .int .i64 t241]) (j := 0) hcl12 hcc12 (show 6 ≤ 6 from by decide) (x' := (⟨t236, t237, t238, t239, t240, t241⟩ : S25)) (k25_mkM _ _ _ (⟨t236, t237, t238, t239, t240, t241⟩ : S25) ) (fun _ hk => hk); have hx12_0 := hcc12 0 _ rfl; (try simp only [show (k25).sz = 6 from rfl, Nat.mul_one, Nat.add_zero] at hx12_0); have hf12_0 := hfr12 0; (try simp only [show (k25).sz = 6 from rfl, Nat.mul_one, Nat.add_zero] at hf12_0); have hx12_1 := hcc12 1 _ rfl; (try simp only [show (k25).sz = 6 from rfl, Nat.mul_one, Nat.add_zero] at hx12_1); have hf12_1 := hfr12 1; (try simp only [show (k25).sz = 6 from rfl, Nat.mul_one, Nat.add_zero] at hf12_1); have hx12_2 := hcc12 2 _ rfl; (try simp only [show (k25).sz = 6 from rfl, Nat.mul_one, Nat.add_zero] at hx12_2); have hf12_2 := hfr12 2; (try simp only [show (k25).sz = 6 from rfl, Nat.mul_one, Nat.add_zero] at hf12_2); have hx12_3 := hcc12 3 _ rfl; (try simp only [show (k25).sz = 6 from rfl, Nat.mul_one, Nat.add_zero] at hx12_3); have hf12_3 := hfr12 3; (try simp only [show (k25).sz = 6 from rfl, Nat.mul_one, Nat.add_zero] at hf12_3); have hx12_4 := hcc12 4 _ rfl; (try simp only [show (k25).sz = 6 from rfl, Nat.mul_one, Nat.add_zero] at hx12_4); have hf12_4 := hfr12 4; (try simp only [show (k25).sz = 6 from rfl, Nat.mul_one, Nat.add_zero] at hf12_4); have hx12_5 := hcc12 5 _ rfl; (try simp only [show (k25).sz = 6 from rfl, Nat.mul_one, Nat.add_zero] at hx12_5); have hf12_5 := hfr12 5; (try simp only [show (k25).sz = 6 from rfl, Nat.mul_one, Nat.add_zero] at hf12_5); clear hcl12 hcc12 hfr12 hM12) | ((with_reducible refine gate_store (t := 25) (p := 21) rfl ?_); refine store_event (t := 25) (p := 21) (v := ?vo_w13) (w1 := ((((((w2.setCell ⟨go10, (x4_1 : Int).toNat * 6, none⟩ (.int .i64 t236)).setCell ⟨go10, (x4_1 : Int).toNat * 6 + 1, none⟩ (.int .i64 t237)).setCell ⟨go10, (x4_1 : Int).toNat * 6 + 2, none⟩ (.int .i64 t238)).setCell ⟨go10, (x4_1 : Int).toNat * 6 + 3, none⟩ (.int .i64 t239)).setCell ⟨go10, (x4_1 : Int).toNat * 6 + 4, none⟩ (.int .i64 t240)).setCell ⟨go10, (x4_1 : Int).toNat * 6 + 5, none⟩ (.int .i64 t241))) ?hg ?ho ?hn ?hr ?_; (case ho => rfl); (case hg => rfl); (case hn => rfl); (case hr => first | (go_simp; done) | (go_simp; rfl)); intro w3 hw; have hg : w2.grownBy w3 (some go10) := (by rw [hw]; exact HP12.2); have hp_ : Kd.R k25 25 w3 w.heap.size (fun _ => True) (.slice (some ⟨go10, 0, none⟩) x3_1.length co10) y242 := (by rw [hw, Ny242.out]; exact HP12.1); clear HP12; have n0_ := Aside0.mk (hp_); have n1_ := Aside0.mk ((by rw [hw]; exact below_set (below_set (below_set (below_set (below_set (below_set (HB.out) GB10.out) GB10.out) GB10.out) GB10.out) GB10.out) GB10.out : Below w.heap.size w w3)); clear HO_3; clear HB; have HO_3 := n0_; have HB := n1_; clear n0_ n1_; clear hg hw hp_))
        go_roundg k1
        case measure => have := HK1.out; omega
        case rel => exact ⟨(y242), (wrap64 (x4_1 + 1)), s7_2, H', ⟨by have := HK1.out; omega⟩, ⟨by (with_reducible repeat (first | apply Kd.R_alloc | apply Kd.R_drewN | apply Kd.R_drew)); exact HO_3.out⟩, ⟨by repeat (first | (with_reducible first | exact HB.out | apply below_alloc | apply pw_below_drewN | apply below_drew1) | exact HB.out)⟩⟩
       ·rw [if_neg c9] at H
        exact absurd H (by simp)
      ·rw [if_neg c7] at H
       exact absurd H (by simp)
     ·rw [if_neg c6] at H
      have c6b0 : decide (x4_1 < (l0.length : Int)) = false := decide_eq_false c6
      clear c6
      obtain rfl := Option.some.inj H
      go_wp2
      go_ret
      exact ⟨_, by first | rfl | (simp [errW_none, errW_some] <;> rfl) | (simp [*, errW_none, errW_some] <;> rfl), by (with_reducible repeat (first | apply Kd.R_alloc | apply Kd.R_drewN | apply Kd.R_drew)); exact HO_3.out, by repeat (first | (with_reducible first | exact HB.out | apply below_alloc | apply pw_below_drewN | apply below_drew1) | exact HB.out)⟩
  ·rw [if_neg c3] at H
   exact absurd H (by simp)
 ·rw [if_neg c2] at H
  exact absurd H (by simp)

/-! ### laws_eqIntS: function 88 -/
def laws_eqIntS.l0 : Nat → List Int → List Int → Int → Option (Bool)
 | 0, _, _, _ => none
 | k + 1, x0, x1, x5 => if x5 < (x0.length : Int) then (if 0 ≤ x5 then (if x5 < (x1.length : Int) then (if (rd x0 x5) = (rd x1 x5) then (laws_eqIntS.l0 k x0 x1 (wrap64 (x5 + 1))) else (some false)) else (none)) else (none)) else (some true)
def laws_eqIntS.f (k : Nat) (l0 : List Int) (l1 : List Int) : Option (Bool) := if (l0.length : Int) = (l1.length : Int) then (laws_eqIntS.l0 k l0 l1 0) else (some false)
theorem laws_eqIntS.mono_l : ∀ k, (∀ y0 y1 y2, LeO (laws_eqIntS.l0 k y0 y1 y2) (laws_eqIntS.l0 (k + 1) y0 y1 y2))
 | 0 => fun _ _ _ r h => by simp [laws_eqIntS.l0] at h
 | k + 1 => by
  have ih0 := laws_eqIntS.mono_l k
  ·intro y0 y1 y2
   unfold laws_eqIntS.l0
   repeat' first
   | (with_reducible exact ih0 _ _ _)
   | (with_reducible exact LeO.refl _)
   | (with_reducible exact LeO.none _)
   | (with_reducible refine LeO.ite ?_ ?_)
   | (with_reducible refine LeO.bind ?_ (fun _ => ?_))
   | exact ih0 _ _ _
   | exact LeO.none _
   | refine LeO.ite ?_ ?_
   | refine LeO.bind ?_ (fun _ => ?_)
theorem laws_eqIntS.mono : ∀ a0 a1 k, LeO (laws_eqIntS.f k a0 a1) (laws_eqIntS.f (k + 1) a0 a1) := by
 intro a0 a1 k
 have ih0 := laws_eqIntS.mono_l k
 unfold laws_eqIntS.f
 repeat' first
   | (with_reducible exact ih0 _ _ _)
   | (with_reducible exact LeO.refl _)
   | (with_reducible exact LeO.none _)
   | (with_reducible refine LeO.ite ?_ ?_)
   | (with_reducible refine LeO.bind ?_ (fun _ => ?_))
   | exact ih0 _ _ _
   | exact LeO.none _
   | refine LeO.ite ?_ ?_
   | refine LeO.bind ?_ (fun _ => ?_)
set_option maxHeartbeats 8000000 in
set_option maxRecDepth 100000 in
theorem laws_eqIntS.calls (k : Nat) (A0 : Option Addr) (c0 : Nat) (l0 : List Int) (A1 : Option Addr) (c1 : Nat) (l1 : List Int) (r : Bool) (w : World) (hr0 : Kd.C (Kd.int .i64) w A0 l0.length l0) (hc0 : l0.length ≤ c0) (hr1 : Kd.C (Kd.int .i64) w A1 l1.length l1) (hc1 : l1.length ≤ c1) (h : laws_eqIntS.f k l0 l1 = some r) :
  Calls Try.prog 88 #[.slice A0 l0.length c0, .slice A1 l1.length c1] w fun e w' => e = .returned (.bool r) ∧ Drawn0 w w' := by
 have HR0 := Aside0.mk hr0
 have HC0 := Aside0.mk hc0
 clear hr0 hc0
 have HR1 := Aside0.mk hr1
 have HC1 := Aside0.mk hc1
 clear hr1 hc1
 have H : (if (l0.length : Int) = (l1.length : Int) then (laws_eqIntS.l0 k l0 l1 0) else (some false)) = some r := h
 clear h
 by_cases c3 : (l0.length : Int) = (l1.length : Int)
 ·rw [if_pos c3] at H
  have c3b0 : ((l0.length : Int) == (l1.length : Int)) = true := beq_iff_eq.mpr c3
  have c3b1 : ((l0.length : Int) != (l1.length : Int)) = false := bne_eq_false_iff_eq.mpr c3
  have c3b2 : (l0.length == l1.length) = true := by first | simpa using c3 | (simp at c3 ⊢; omega)
  clear c3
  have H' := Aside0.mk H
  clear H
  go_enter Try.func88, Try.ntmps88
  go_wp2
  repeat (go_quiet (fail); try go_wp2)
  go_loopg [5] k (fun kq v5 w' => ∃ (x5_1 : Int), v5 = .int .i64 x5_1 ∧ Aside0 (laws_eqIntS.l0 kq l0 l1 x5_1 = some r) ∧ Aside0 (kq ≤ k) ∧ Drawn0 w w')
  case atStart => exact ⟨(0), s7_2, H', ⟨Nat.le_refl _⟩, by repeat (first | exact Drawn0.refl _ | apply Drawn0.step)⟩
  case round =>
   clear H'
   (try clear c1); (try clear p2); (try clear c3); (try clear c3b0); (try clear c3b1); (try clear c3b2)
   obtain ⟨x5_1, rfl, HA, HK1, ⟨m1, rfl⟩⟩ := hrel
   cases gk with
   | zero => exact absurd HA.out (by simp [laws_eqIntS.l0])
   | succ k1 =>
    have H := HA.out
    clear HA
    simp only [laws_eqIntS.l0] at H
    by_cases c4 : x5_1 < (l0.length : Int)
    ·rw [if_pos c4] at H
     have c4b0 : decide (x5_1 < (l0.length : Int)) = true := decide_eq_true c4
     clear c4
     by_cases c5 : 0 ≤ x5_1
     ·rw [if_pos c5] at H
      have c5b0 : decide (0 ≤ x5_1) = true := decide_eq_true c5
      clear c5
      by_cases c6 : x5_1 < (l1.length : Int)
      ·rw [if_pos c6] at H
       have c6b0 : decide (x5_1 < (l1.length : Int)) = true := decide_eq_true c6
       clear c6
       by_cases c7 : (rd l0 x5_1) = (rd l1 x5_1)
       ·rw [if_pos c7] at H
        have c7b0 : ((rd l0 x5_1) == (rd l1 x5_1)) = true := beq_iff_eq.mpr c7
        have c7b1 : ((rd l0 x5_1) != (rd l1 x5_1)) = false := bne_eq_false_iff_eq.mpr c7
        clear c7
        have H' := Aside0.mk H
        clear H
        have p243 : 0 ≤ (x5_1 : Int) := of_decide_eq_true s7_1
        have q243 : x5_1 < (l0.length : Int) := of_decide_eq_true s7_1
        obtain ⟨ad243, e243, hx243_0⟩ := Kd.at_int HR0.out x5_1 p243 q243
        cases e243
        replace p243 := eq_true p243
        replace q243 := eq_true q243
        have p244 : 0 ≤ (x5_1 : Int) := of_decide_eq_true s7_1
        have q244 : x5_1 < (l1.length : Int) := of_decide_eq_true s7_1
        obtain ⟨ad244, e244, hx244_0⟩ := Kd.at_int HR1.out x5_1 p244 q244
        cases e244
        replace p244 := eq_true p244
        replace q244 := eq_true q244
        go_wp2
        repeat (go_quiet (fail); try go_wp2)
        go_roundg k1
        case measure => have := HK1.out; omega
        case rel => exact ⟨(wrap64 (x5_1 + 1)), s7_2, H', ⟨by have := HK1.out; omega⟩, by repeat (first | exact Drawn0.refl _ | apply Drawn0.step)⟩
       ·rw [if_neg c7] at H
        have c7b0 : ((rd l0 x5_1) == (rd l1 x5_1)) = false := beq_eq_false_iff_ne.mpr c7
        have c7b1 : ((rd l0 x5_1) != (rd l1 x5_1)) = true := bne_iff_ne.mpr c7
        obtain rfl := Option.some.inj H
        have p243 : 0 ≤ (x5_1 : Int) := of_decide_eq_true s7_1
        have q243 : x5_1 < (l0.length : Int) := of_decide_eq_true s7_1
        obtain ⟨ad243, e243, hx243_0⟩ := Kd.at_int HR0.out x5_1 p243 q243
        cases e243
        replace p243 := eq_true p243
        replace q243 := eq_true q243
        have p244 : 0 ≤ (x5_1 : Int) := of_decide_eq_true s7_1
        have q244 : x5_1 < (l1.length : Int) := of_decide_eq_true s7_1
        obtain ⟨ad244, e244, hx244_0⟩ := Kd.at_int HR1.out x5_1 p244 q244
        cases e244
        replace p244 := eq_true p244
        replace q244 := eq_true q244
        go_wp2
        repeat (go_quiet (fail); try go_wp2)
        go_ret
        exact ⟨by first | rfl | (simp; done) | (simp [*]; done), by repeat (first | exact Drawn0.refl _ | apply Drawn0.step)⟩
      ·rw [if_neg c6] at H
       exact absurd H (by simp)
     ·rw [if_neg c5] at H
      exact absurd H (by simp)
    ·rw [if_neg c4] at H
     have c4b0 : decide (x5_1 < (l0.length : Int)) = false := decide_eq_false c4
     clear c4
     obtain rfl := Option.some.inj H
     go_wp2
     repeat (go_quiet (fail); try go_wp2)
     go_ret
     exact ⟨by first | rfl | (simp; done) | (simp [*]; done), by repeat (first | exact Drawn0.refl _ | apply Drawn0.step)⟩
 ·rw [if_neg c3] at H
  have c3b0 : ((l0.length : Int) == (l1.length : Int)) = false := beq_eq_false_iff_ne.mpr c3
  have c3b1 : ((l0.length : Int) != (l1.length : Int)) = true := bne_iff_ne.mpr c3
  have c3b2 : (l0.length == l1.length) = false := by first | simpa using c3 | (simp at c3 ⊢; omega)
  obtain rfl := Option.some.inj H
  go_enter Try.func88, Try.ntmps88
  go_wp2
  repeat (go_quiet (fail); try go_wp2)
  go_ret
  exact ⟨by first | rfl | (simp; done) | (simp [*]; done), by repeat (first | exact Drawn0.refl _ | apply Drawn0.step)⟩

end Go.Proofs.Ytfbokdbaondjdaa.PV1
-- printed for this claim out of the translation
namespace Go.Proofs.Ytfbokdbaondjdaa.PV1
open Go.RowKit Go.Proofs.YtfbokdbaondjdaaW.PrintWords Go.Proofs.YtfbokdbaondjdaaW.PrintLast Go.Proofs.YtfbokdbaondjdaaW.PrintMore Go.Proofs.Ytfbokdbaondjdaa.Cz Go.Proofs.Ytfbokdbaondjdaa.Cz
attribute [local go_sem] max2_int min2_int max_two min_two max_three min_three max_four min_four
set_option linter.unusedVariables false
set_option linter.unusedSimpArgs false

theorem s8_0 {p : Prop} (h : p := by repeat (first | (with_reducible first | exact HB.out | apply below_alloc | apply pw_below_drewN | apply below_drew1 | refine below_set ?_ GE248.out) | exact HB.out)) : p := h
theorem s8_1 {p : Prop} (h : p := by repeat (first | (with_reducible first | exact HB.out | apply below_alloc | apply pw_below_drewN | apply below_drew1) | exact HB.out)) : p := h
theorem s8_2 {p : Prop} (h : p := by first | (with_reducible assumption) | assumption) : p := h
theorem s8_3 {p : Prop} (h : p := by repeat (first | (with_reducible first | exact HK.out | apply Kept.alloc | apply Kept.drewN | apply Kept.drew) | exact HK.out)) : p := h
theorem s8_4 {p : Prop} (h : p := by (with_reducible repeat (first | apply Kd.R_alloc | apply Kd.R_drewN | apply Kd.R_drew)); exact HO_0.out) : p := h
set_option maxRecDepth 100000 in
theorem t8_0 {p : Prop} (h : p := by
 simp only [Act.put, y1, y2, y3, i64_w, i32_w]
 rfl) : p := h
set_option maxRecDepth 100000 in
theorem t8_1 {p : Prop} (h : p := by
 intro w'
 go_simp
 with_reducible rfl) : p := h
/-! ### laws_eqIntSS: function 50 -/
def laws_eqIntSS.l0 : Nat → List (List Int) → List (List Int) → Int → Option (Bool)
 | 0, _, _, _ => none
 | k + 1, x0, x1, x5 => if x5 < (x0.length : Int) then (if 0 ≤ x5 then (if x5 < (x1.length : Int) then ((laws_eqIntS.f k (rd_L3 x0 x5) (rd_L3 x1 x5)).bind fun t247 => (if t247 = true then (laws_eqIntSS.l0 k x0 x1 (wrap64 (x5 + 1))) else (some false))) else (none)) else (none)) else (some true)
def laws_eqIntSS.f (k : Nat) (l0 : List (List Int)) (l1 : List (List Int)) : Option (Bool) := if (l0.length : Int) = (l1.length : Int) then (laws_eqIntSS.l0 k l0 l1 0) else (some false)
theorem laws_eqIntSS.mono_l : ∀ k, (∀ y0 y1 y2, LeO (laws_eqIntSS.l0 k y0 y1 y2) (laws_eqIntSS.l0 (k + 1) y0 y1 y2))
 | 0 => fun _ _ _ r h => by simp [laws_eqIntSS.l0] at h
 | k + 1 => by
  have ih0 := laws_eqIntSS.mono_l k
  ·intro y0 y1 y2
   unfold laws_eqIntSS.l0
   repeat' first
   | (with_reducible exact ih0 _ _ _)
   | (with_reducible exact laws_eqIntS.mono _ _ _)
   | (with_reducible exact LeO.refl _)
   | (with_reducible exact LeO.none _)
   | (with_reducible refine LeO.ite ?_ ?_)
   | (with_reducible refine LeO.bind ?_ (fun _ => ?_))
   | exact ih0 _ _ _
   | exact laws_eqIntS.mono _ _ _
   | exact LeO.none _
   | refine LeO.ite ?_ ?_
   | refine LeO.bind ?_ (fun _ => ?_)
theorem laws_eqIntSS.mono : ∀ a0 a1 k, LeO (laws_eqIntSS.f k a0 a1) (laws_eqIntSS.f (k + 1) a0 a1) := by
 intro a0 a1 k
 have ih0 := laws_eqIntSS.mono_l k
 unfold laws_eqIntSS.f
 repeat' first
   | (with_reducible exact ih0 _ _ _)
   | (with_reducible exact laws_eqIntS.mono _ _ _)
   | (with_reducible exact LeO.refl _)
   | (with_reducible exact LeO.none _)
   | (with_reducible refine LeO.ite ?_ ?_)
   | (with_reducible refine LeO.bind ?_ (fun _ => ?_))
   | exact ih0 _ _ _
   | exact laws_eqIntS.mono _ _ _
   | exact LeO.none _
   | refine LeO.ite ?_ ?_
   | refine LeO.bind ?_ (fun _ => ?_)
set_option maxHeartbeats 8000000 in
set_option maxRecDepth 100000 in
theorem laws_eqIntSS.calls (k : Nat) (A0 : Option Addr) (c0 : Nat) (l0 : List (List Int)) (A1 : Option Addr) (c1 : Nat) (l1 : List (List Int)) (r : Bool) (w : World) (hr0 : Kd.C (Kd.slice 3 (Kd.int .i64)) w A0 l0.length l0) (hc0 : l0.length ≤ c0) (hr1 : Kd.C (Kd.slice 3 (Kd.int .i64)) w A1 l1.length l1) (hc1 : l1.length ≤ c1) (h : laws_eqIntSS.f k l0 l1 = some r) :
  Calls Try.prog 50 #[.slice A0 l0.length c0, .slice A1 l1.length c1] w fun e w' => e = .returned (.bool r) ∧ Drawn0 w w' := by
 have HR0 := Aside0.mk hr0
 have HC0 := Aside0.mk hc0
 clear hr0 hc0
 have HR1 := Aside0.mk hr1
 have HC1 := Aside0.mk hc1
 clear hr1 hc1
 have H : (if (l0.length : Int) = (l1.length : Int) then (laws_eqIntSS.l0 k l0 l1 0) else (some false)) = some r := h
 clear h
 by_cases c3 : (l0.length : Int) = (l1.length : Int)
 ·rw [if_pos c3] at H
  have c3b0 : ((l0.length : Int) == (l1.length : Int)) = true := beq_iff_eq.mpr c3
  have c3b1 : ((l0.length : Int) != (l1.length : Int)) = false := bne_eq_false_iff_eq.mpr c3
  have c3b2 : (l0.length == l1.length) = true := by first | simpa using c3 | (simp at c3 ⊢; omega)
  clear c3
  have H' := Aside0.mk H
  clear H
  go_enter Try.func50, Try.ntmps50
  go_wp2
  repeat (go_quiet (fail); try go_wp2)
  go_loopg [5] k (fun kq v5 w' => ∃ (x5_1 : Int), v5 = .int .i64 x5_1 ∧ Aside0 (laws_eqIntSS.l0 kq l0 l1 x5_1 = some r) ∧ Aside0 (kq ≤ k) ∧ Drawn0 w w')
  case atStart => exact ⟨(0), (by first | rfl | (simp; done) | (simp [*]; done)), H', ⟨Nat.le_refl _⟩, by repeat (first | exact Drawn0.refl _ | apply Drawn0.step)⟩
  case round =>
   clear H'
   (try clear c1); (try clear p2); (try clear c3); (try clear c3b0); (try clear c3b1); (try clear c3b2)
   obtain ⟨x5_1, rfl, HA, HK1, ⟨m1, rfl⟩⟩ := hrel
   cases gk with
   | zero => exact absurd HA.out (by simp [laws_eqIntSS.l0])
   | succ k1 =>
    have H := HA.out
    clear HA
    simp only [laws_eqIntSS.l0] at H
    by_cases c4 : x5_1 < (l0.length : Int)
    ·rw [if_pos c4] at H
     have c4b0 : decide (x5_1 < (l0.length : Int)) = true := decide_eq_true c4
     clear c4
     by_cases c5 : 0 ≤ x5_1
     ·rw [if_pos c5] at H
      have c5b0 : decide (0 ≤ x5_1) = true := decide_eq_true c5
      clear c5
      by_cases c6 : x5_1 < (l1.length : Int)
      ·rw [if_pos c6] at H
       have c6b0 : decide (x5_1 < (l1.length : Int)) = true := decide_eq_true c6
       clear c6
       replace H := Option.bind_eq_some_iff.mp H
       obtain ⟨t247, A70, H⟩ := H
       replace H : (if t247 = true then (laws_eqIntSS.l0 k1 l0 l1 (wrap64 (x5_1 + 1))) else (some false)) = some r := H
       have A7 := Aside0.mk A70
       clear A70
       by_cases c8 : t247 = true
       ·subst c8
        have H1 : (laws_eqIntSS.l0 k1 l0 l1 (wrap64 (x5_1 + 1))) = some r := by rw [if_pos rfl] at H; exact H
        clear H
        have H := H1
        clear H1
        have H' := Aside0.mk H
        clear H
        have p245 : 0 ≤ (x5_1 : Int) := of_decide_eq_true s8_2
        have q245 : x5_1 < (l0.length : Int) := of_decide_eq_true s8_2
        obtain ⟨ad245, A245_0, c245_0, e245, hx245_0, hl245_0, hi245_0⟩ := at_L3 HR0.out x5_1 p245 q245
        cases e245
        have HR245_0 := Aside0.mk hi245_0
        have HC245_0 := Aside0.mk hl245_0
        clear hi245_0 hl245_0
        replace p245 := eq_true p245
        replace q245 := eq_true q245
        have p246 : 0 ≤ (x5_1 : Int) := of_decide_eq_true s8_2
        have q246 : x5_1 < (l1.length : Int) := of_decide_eq_true s8_2
        obtain ⟨ad246, A246_0, c246_0, e246, hx246_0, hl246_0, hi246_0⟩ := at_L3 HR1.out x5_1 p246 q246
        cases e246
        have HR246_0 := Aside0.mk hi246_0
        have HC246_0 := Aside0.mk hl246_0
        clear hi246_0 hl246_0
        replace p246 := eq_true p246
        replace q246 := eq_true q246
        go_wp2_with (first | (go_at_call 88; (with_reducible refine (laws_eqIntS.calls k1 _ _ (rd_L3 l0 x5_1) _ _ (rd_L3 l1 x5_1) true _ ?side1 ?side2 ?side3 ?side4 A7.out).mono ?_); (case side1 => repeat (first | exact HR245_0.out | (with_reducible refine Kd.C_alloc ?_ _) | (with_reducible refine Kd.C_drewN ?_ _) | (with_reducible refine Kd.C_drew ?_))); (case side2 => exact HC245_0.out); (case side3 => repeat (first | exact HR246_0.out | (with_reducible refine Kd.C_alloc ?_ _) | (with_reducible refine Kd.C_drewN ?_ _) | (with_reducible refine Kd.C_drew ?_))); (case side4 => exact HC246_0.out); rintro e w' ⟨rfl, ⟨nd, rfl⟩⟩; (try first | exact ⟨rfl, _, World.drewN_drewN _ _ _⟩ | exact ⟨rfl, _, Eq.trans (World.drewN_drewN _ _ _) (congrArg (World.drewN _) (Nat.add_assoc _ _ _))⟩)))
        repeat (go_quiet (first | (go_at_call 88; (with_reducible refine (laws_eqIntS.calls k1 _ _ (rd_L3 l0 x5_1) _ _ (rd_L3 l1 x5_1) true _ ?side1 ?side2 ?side3 ?side4 A7.out).mono ?_); (case side1 => repeat (first | exact HR245_0.out | (with_reducible refine Kd.C_alloc ?_ _) | (with_reducible refine Kd.C_drewN ?_ _) | (with_reducible refine Kd.C_drew ?_))); (case side2 => exact HC245_0.out); (case side3 => repeat (first | exact HR246_0.out | (with_reducible refine Kd.C_alloc ?_ _) | (with_reducible refine Kd.C_drewN ?_ _) | (with_reducible refine Kd.C_drew ?_))); (case side4 => exact HC246_0.out); rintro e w' ⟨rfl, ⟨nd, rfl⟩⟩; (try first | exact ⟨rfl, _, World.drewN_drewN _ _ _⟩ | exact ⟨rfl, _, Eq.trans (World.drewN_drewN _ _ _) (congrArg (World.drewN _) (Nat.add_assoc _ _ _))⟩))); try go_wp2_with (first | (go_at_call 88; (with_reducible refine (laws_eqIntS.calls k1 _ _ (rd_L3 l0 x5_1) _ _ (rd_L3 l1 x5_1) true _ ?side1 ?side2 ?side3 ?side4 A7.out).mono ?_); (case side1 => repeat (first | exact HR245_0.out | (with_reducible refine Kd.C_alloc ?_ _) | (with_reducible refine Kd.C_drewN ?_ _) | (with_reducible refine Kd.C_drew ?_))); (case side2 => exact HC245_0.out); (case side3 => repeat (first | exact HR246_0.out | (with_reducible refine Kd.C_alloc ?_ _) | (with_reducible refine Kd.C_drewN ?_ _) | (with_reducible refine Kd.C_drew ?_))); (case side4 => exact HC246_0.out); rintro e w' ⟨rfl, ⟨nd, rfl⟩⟩; (try first | exact ⟨rfl, _, World.drewN_drewN _ _ _⟩ | exact ⟨rfl, _, Eq.trans (World.drewN_drewN _ _ _) (congrArg (World.drewN _) (Nat.add_assoc _ _ _))⟩))))
        go_roundg k1
        case measure => have := HK1.out; omega
        case rel => exact ⟨(wrap64 (x5_1 + 1)), (by first | rfl | (simp; done) | (simp [*]; done)), H', ⟨by have := HK1.out; omega⟩, by repeat (first | exact Drawn0.refl _ | apply Drawn0.step)⟩
       ·replace c8 := Bool.eq_false_iff.mpr c8
        subst c8
        have H1 : (some false) = some r := by rw [if_neg (show ¬ (false = true) by decide)] at H; exact H
        clear H
        have H := H1
        clear H1
        obtain rfl := Option.some.inj H
        have p245 : 0 ≤ (x5_1 : Int) := of_decide_eq_true s8_2
        have q245 : x5_1 < (l0.length : Int) := of_decide_eq_true s8_2
        obtain ⟨ad245, A245_0, c245_0, e245, hx245_0, hl245_0, hi245_0⟩ := at_L3 HR0.out x5_1 p245 q245
        cases e245
        have HR245_0 := Aside0.mk hi245_0
        have HC245_0 := Aside0.mk hl245_0
        clear hi245_0 hl245_0
        replace p245 := eq_true p245
        replace q245 := eq_true q245
        have p246 : 0 ≤ (x5_1 : Int) := of_decide_eq_true s8_2
        have q246 : x5_1 < (l1.length : Int) := of_decide_eq_true s8_2
        obtain ⟨ad246, A246_0, c246_0, e246, hx246_0, hl246_0, hi246_0⟩ := at_L3 HR1.out x5_1 p246 q246
        cases e246
        have HR246_0 := Aside0.mk hi246_0
        have HC246_0 := Aside0.mk hl246_0
        clear hi246_0 hl246_0
        replace p246 := eq_true p246
        replace q246 := eq_true q246
        go_wp2_with (first | (go_at_call 88; (with_reducible refine (laws_eqIntS.calls k1 _ _ (rd_L3 l0 x5_1) _ _ (rd_L3 l1 x5_1) false _ ?side1 ?side2 ?side3 ?side4 A7.out).mono ?_); (case side1 => repeat (first | exact HR245_0.out | (with_reducible refine Kd.C_alloc ?_ _) | (with_reducible refine Kd.C_drewN ?_ _) | (with_reducible refine Kd.C_drew ?_))); (case side2 => exact HC245_0.out); (case side3 => repeat (first | exact HR246_0.out | (with_reducible refine Kd.C_alloc ?_ _) | (with_reducible refine Kd.C_drewN ?_ _) | (with_reducible refine Kd.C_drew ?_))); (case side4 => exact HC246_0.out); rintro e w' ⟨rfl, ⟨nd, rfl⟩⟩; (try first | exact ⟨rfl, _, World.drewN_drewN _ _ _⟩ | exact ⟨rfl, _, Eq.trans (World.drewN_drewN _ _ _) (congrArg (World.drewN _) (Nat.add_assoc _ _ _))⟩)))
        repeat (go_quiet (first | (go_at_call 88; (with_reducible refine (laws_eqIntS.calls k1 _ _ (rd_L3 l0 x5_1) _ _ (rd_L3 l1 x5_1) false _ ?side1 ?side2 ?side3 ?side4 A7.out).mono ?_); (case side1 => repeat (first | exact HR245_0.out | (with_reducible refine Kd.C_alloc ?_ _) | (with_reducible refine Kd.C_drewN ?_ _) | (with_reducible refine Kd.C_drew ?_))); (case side2 => exact HC245_0.out); (case side3 => repeat (first | exact HR246_0.out | (with_reducible refine Kd.C_alloc ?_ _) | (with_reducible refine Kd.C_drewN ?_ _) | (with_reducible refine Kd.C_drew ?_))); (case side4 => exact HC246_0.out); rintro e w' ⟨rfl, ⟨nd, rfl⟩⟩; (try first | exact ⟨rfl, _, World.drewN_drewN _ _ _⟩ | exact ⟨rfl, _, Eq.trans (World.drewN_drewN _ _ _) (congrArg (World.drewN _) (Nat.add_assoc _ _ _))⟩))); try go_wp2_with (first | (go_at_call 88; (with_reducible refine (laws_eqIntS.calls k1 _ _ (rd_L3 l0 x5_1) _ _ (rd_L3 l1 x5_1) false _ ?side1 ?side2 ?side3 ?side4 A7.out).mono ?_); (case side1 => repeat (first | exact HR245_0.out | (with_reducible refine Kd.C_alloc ?_ _) | (with_reducible refine Kd.C_drewN ?_ _) | (with_reducible refine Kd.C_drew ?_))); (case side2 => exact HC245_0.out); (case side3 => repeat (first | exact HR246_0.out | (with_reducible refine Kd.C_alloc ?_ _) | (with_reducible refine Kd.C_drewN ?_ _) | (with_reducible refine Kd.C_drew ?_))); (case side4 => exact HC246_0.out); rintro e w' ⟨rfl, ⟨nd, rfl⟩⟩; (try first | exact ⟨rfl, _, World.drewN_drewN _ _ _⟩ | exact ⟨rfl, _, Eq.trans (World.drewN_drewN _ _ _) (congrArg (World.drewN _) (Nat.add_assoc _ _ _))⟩))))
        go_ret
        exact ⟨by first | rfl | (simp; done) | (simp [*]; done), by repeat (first | exact Drawn0.refl _ | apply Drawn0.step)⟩
      ·rw [if_neg c6] at H
       exact absurd H (by simp)
     ·rw [if_neg c5] at H
      exact absurd H (by simp)
    ·rw [if_neg c4] at H
     have c4b0 : decide (x5_1 < (l0.length : Int)) = false := decide_eq_false c4
     clear c4
     obtain rfl := Option.some.inj H
     go_wp2
     repeat (go_quiet (fail); try go_wp2)
     go_ret
     exact ⟨by first | rfl | (simp; done) | (simp [*]; done), by repeat (first | exact Drawn0.refl _ | apply Drawn0.step)⟩
 ·rw [if_neg c3] at H
  have c3b0 : ((l0.length : Int) == (l1.length : Int)) = false := beq_eq_false_iff_ne.mpr c3
  have c3b1 : ((l0.length : Int) != (l1.length : Int)) = true := bne_iff_ne.mpr c3
  have c3b2 : (l0.length == l1.length) = false := by first | simpa using c3 | (simp at c3 ⊢; omega)
  obtain rfl := Option.some.inj H
  go_enter Try.func50, Try.ntmps50
  go_wp2
  repeat (go_quiet (fail); try go_wp2)
  go_ret
  exact ⟨by first | rfl | (simp; done) | (simp [*]; done), by repeat (first | exact Drawn0.refl _ | apply Drawn0.step)⟩

/-! ### laws_eqShip: function 27 -/
def laws_eqShip.f (a0_0 : Int) (a0_1 : Int) (a0_2 : Int) (a0_3 : Int) (a0_4 : Int) (a0_5 : Int) (a1_0 : Int) (a1_1 : Int) (a1_2 : Int) (a1_3 : Int) (a1_4 : Int) (a1_5 : Int) : Option (Bool) := if a0_0 = a1_0 then (if a0_1 = a1_1 then (if a0_2 = a1_2 then (if a0_3 = a1_3 then (if a0_4 = a1_4 then (if a0_5 = a1_5 then (some true) else (some false)) else (some false)) else (some false)) else (some false)) else (some false)) else (some false)
set_option maxHeartbeats 8000000 in
set_option maxRecDepth 100000 in
theorem laws_eqShip.calls (a0_0 : Int) (a0_1 : Int) (a0_2 : Int) (a0_3 : Int) (a0_4 : Int) (a0_5 : Int) (a1_0 : Int) (a1_1 : Int) (a1_2 : Int) (a1_3 : Int) (a1_4 : Int) (a1_5 : Int) (r : Bool) (w : World) (h : laws_eqShip.f a0_0 a0_1 a0_2 a0_3 a0_4 a0_5 a1_0 a1_1 a1_2 a1_3 a1_4 a1_5 = some r) :
  Calls Try.prog 27 #[.agg #[.int .i64 a0_0, .int .i64 a0_1, .int .i64 a0_2, .int .i64 a0_3, .int .i64 a0_4, .int .i64 a0_5], .agg #[.int .i64 a1_0, .int .i64 a1_1, .int .i64 a1_2, .int .i64 a1_3, .int .i64 a1_4, .int .i64 a1_5]] w fun e w' => e = .returned (.bool r) ∧ Below w.heap.size w w' := by
 have hu25 := Try.underlying25
 have HB := Aside0.mk (Below.refl w.heap.size w)
 have H : (if a0_0 = a1_0 then (if a0_1 = a1_1 then (if a0_2 = a1_2 then (if a0_3 = a1_3 then (if a0_4 = a1_4 then (if a0_5 = a1_5 then (some true) else (some false)) else (some false)) else (some false)) else (some false)) else (some false)) else (some false)) = some r := h
 clear h
 by_cases c3 : a0_0 = a1_0
 ·rw [if_pos c3] at H
  have c3b0 : (a0_0 == a1_0) = true := beq_iff_eq.mpr c3
  have c3b1 : (a0_0 != a1_0) = false := bne_eq_false_iff_eq.mpr c3
  clear c3
  by_cases c4 : a0_1 = a1_1
  ·rw [if_pos c4] at H
   have c4b0 : (a0_1 == a1_1) = true := beq_iff_eq.mpr c4
   have c4b1 : (a0_1 != a1_1) = false := bne_eq_false_iff_eq.mpr c4
   clear c4
   by_cases c5 : a0_2 = a1_2
   ·rw [if_pos c5] at H
    have c5b0 : (a0_2 == a1_2) = true := beq_iff_eq.mpr c5
    have c5b1 : (a0_2 != a1_2) = false := bne_eq_false_iff_eq.mpr c5
    clear c5
    by_cases c6 : a0_3 = a1_3
    ·rw [if_pos c6] at H
     have c6b0 : (a0_3 == a1_3) = true := beq_iff_eq.mpr c6
     have c6b1 : (a0_3 != a1_3) = false := bne_eq_false_iff_eq.mpr c6
     clear c6
     by_cases c7 : a0_4 = a1_4
     ·rw [if_pos c7] at H
      have c7b0 : (a0_4 == a1_4) = true := beq_iff_eq.mpr c7
      have c7b1 : (a0_4 != a1_4) = false := bne_eq_false_iff_eq.mpr c7
      clear c7
      by_cases c8 : a0_5 = a1_5
      ·rw [if_pos c8] at H
       have c8b0 : (a0_5 == a1_5) = true := beq_iff_eq.mpr c8
       have c8b1 : (a0_5 != a1_5) = false := bne_eq_false_iff_eq.mpr c8
       clear c8
       obtain rfl := Option.some.inj H
       go_enter Try.func27, Try.ntmps27
       go_wp2_with (first | ((with_reducible refine gate_dst (N := 2) rfl ?_); refine box_event ?hg (N := 2) ?hd (cs := #[.int .i64 a0_0, .int .i64 a0_1, .int .i64 a0_2, .int .i64 a0_3, .int .i64 a0_4, .int .i64 a0_5]) (t := 25) ?hr ?_; (case hd => rfl); (case hg => rfl); (case hr => first | (go_simp; done) | (go_simp; rfl)); intro gb248 hg w1 hbox hb; have n0_ := Aside0.mk (below_step s8_1 hb); have n1_ := Aside0.mk (hbox); have n2_ := Aside0.mk (ns hg s8_1 : w.heap.size ≤ gb248); have n3_ := Aside0.mk (ns hg s8_1 : w.heap.size ≤ gb248); clear HB; have HB := n0_; have BK248 := n1_; have GW248 := n2_; have GE248 := n3_; clear n0_ n1_ n2_ n3_; clear hb hbox hg) | ((with_reducible refine gate_dst (N := 3) rfl ?_); refine box_event ?hg (N := 3) ?hd (cs := #[.int .i64 a1_0, .int .i64 a1_1, .int .i64 a1_2, .int .i64 a1_3, .int .i64 a1_4, .int .i64 a1_5]) (t := 25) ?hr ?_; (case hd => rfl); (case hg => rfl); (case hr => first | (go_simp; done) | (go_simp; rfl)); intro gb249 hg w2 hbox hb; have n0_ := Aside0.mk (bb (zk BK248.out) hb); have n1_ := Aside0.mk (below_step s8_0 hb); have n2_ := Aside0.mk (hbox); have n3_ := Aside0.mk (ns hg s8_0 : w.heap.size ≤ gb249); have n4_ := Aside0.mk (ns hg s8_0 : w.heap.size ≤ gb249); have n5_ := Aside0.mk ((nlt hg (zk BK248.out) : gb248 ≠ gb249)); have n6_ := Aside0.mk ((ngt hg (zk BK248.out) : gb249 ≠ gb248)); clear BK248; clear HB; have BK248 := n0_; have HB := n1_; have BK249 := n2_; have GW249 := n3_; have GE249 := n4_; have NB248_249 := n5_; have NB249_248 := n6_; clear n0_ n1_ n2_ n3_ n4_ n5_ n6_; clear hb hbox hg; have hnb11 := NB248_249.out; have hnc11 := NB249_248.out; have hcz12_0 : w2.cell? ⟨gb248, 0, none⟩ = some (.int .i64 a0_0) := bc BK248.out 0; have hcz12_1 : w2.cell? ⟨gb248, 1, none⟩ = some (.int .i64 a0_1) := bc BK248.out 1; have hcz12_2 : w2.cell? ⟨gb248, 2, none⟩ = some (.int .i64 a0_2) := bc BK248.out 2; have hcz12_3 : w2.cell? ⟨gb248, 3, none⟩ = some (.int .i64 a0_3) := bc BK248.out 3; have hcz12_4 : w2.cell? ⟨gb248, 4, none⟩ = some (.int .i64 a0_4) := bc BK248.out 4; have hcz12_5 : w2.cell? ⟨gb248, 5, none⟩ = some (.int .i64 a0_5) := bc BK248.out 5; have hfz12_0 := blk_frozen BK248.out 0; have hfz12_1 := blk_frozen BK248.out 1; have hfz12_2 := blk_frozen BK248.out 2; have hfz12_3 := blk_frozen BK248.out 3; have hfz12_4 := blk_frozen BK248.out 4; have hfz12_5 := blk_frozen BK248.out 5; have hcz13_0 : w2.cell? ⟨gb249, 0, none⟩ = some (.int .i64 a1_0) := bc BK249.out 0; have hcz13_1 : w2.cell? ⟨gb249, 1, none⟩ = some (.int .i64 a1_1) := bc BK249.out 1; have hcz13_2 : w2.cell? ⟨gb249, 2, none⟩ = some (.int .i64 a1_2) := bc BK249.out 2; have hcz13_3 : w2.cell? ⟨gb249, 3, none⟩ = some (.int .i64 a1_3) := bc BK249.out 3; have hcz13_4 : w2.cell? ⟨gb249, 4, none⟩ = some (.int .i64 a1_4) := bc BK249.out 4; have hcz13_5 : w2.cell? ⟨gb249, 5, none⟩ = some (.int .i64 a1_5) := bc BK249.out 5; have hfz13_0 := blk_frozen BK249.out 0; have hfz13_1 := blk_frozen BK249.out 1; have hfz13_2 := blk_frozen BK249.out 2; have hfz13_3 := blk_frozen BK249.out 3; have hfz13_4 := blk_frozen BK249.out 4; have hfz13_5 := blk_frozen BK249.out 5))
       go_ret
       exact ⟨by first | rfl | (simp [errW_none, errW_some] <;> rfl) | (simp [*, errW_none, errW_some] <;> rfl), by repeat (first | (with_reducible first | exact HB.out | apply below_alloc | apply pw_below_drewN | apply below_drew1 | refine below_set ?_ GE248.out | refine below_set ?_ GE249.out) | exact HB.out)⟩
      ·rw [if_neg c8] at H
       have c8b0 : (a0_5 == a1_5) = false := beq_eq_false_iff_ne.mpr c8
       have c8b1 : (a0_5 != a1_5) = true := bne_iff_ne.mpr c8
       obtain rfl := Option.some.inj H
       go_enter Try.func27, Try.ntmps27
       go_wp2_with (first | ((with_reducible refine gate_dst (N := 2) rfl ?_); refine box_event ?hg (N := 2) ?hd (cs := #[.int .i64 a0_0, .int .i64 a0_1, .int .i64 a0_2, .int .i64 a0_3, .int .i64 a0_4, .int .i64 a0_5]) (t := 25) ?hr ?_; (case hd => rfl); (case hg => rfl); (case hr => first | (go_simp; done) | (go_simp; rfl)); intro gb248 hg w1 hbox hb; have n0_ := Aside0.mk (below_step s8_1 hb); have n1_ := Aside0.mk (hbox); have n2_ := Aside0.mk (ns hg s8_1 : w.heap.size ≤ gb248); have n3_ := Aside0.mk (ns hg s8_1 : w.heap.size ≤ gb248); clear HB; have HB := n0_; have BK248 := n1_; have GW248 := n2_; have GE248 := n3_; clear n0_ n1_ n2_ n3_; clear hb hbox hg) | ((with_reducible refine gate_dst (N := 3) rfl ?_); refine box_event ?hg (N := 3) ?hd (cs := #[.int .i64 a1_0, .int .i64 a1_1, .int .i64 a1_2, .int .i64 a1_3, .int .i64 a1_4, .int .i64 a1_5]) (t := 25) ?hr ?_; (case hd => rfl); (case hg => rfl); (case hr => first | (go_simp; done) | (go_simp; rfl)); intro gb249 hg w2 hbox hb; have n0_ := Aside0.mk (bb (zk BK248.out) hb); have n1_ := Aside0.mk (below_step s8_0 hb); have n2_ := Aside0.mk (hbox); have n3_ := Aside0.mk (ns hg s8_0 : w.heap.size ≤ gb249); have n4_ := Aside0.mk (ns hg s8_0 : w.heap.size ≤ gb249); have n5_ := Aside0.mk ((nlt hg (zk BK248.out) : gb248 ≠ gb249)); have n6_ := Aside0.mk ((ngt hg (zk BK248.out) : gb249 ≠ gb248)); clear BK248; clear HB; have BK248 := n0_; have HB := n1_; have BK249 := n2_; have GW249 := n3_; have GE249 := n4_; have NB248_249 := n5_; have NB249_248 := n6_; clear n0_ n1_ n2_ n3_ n4_ n5_ n6_; clear hb hbox hg; have hnb16 := NB248_249.out; have hnc16 := NB249_248.out; have hcz17_0 : w2.cell? ⟨gb248, 0, none⟩ = some (.int .i64 a0_0) := bc BK248.out 0; have hcz17_1 : w2.cell? ⟨gb248, 1, none⟩ = some (.int .i64 a0_1) := bc BK248.out 1; have hcz17_2 : w2.cell? ⟨gb248, 2, none⟩ = some (.int .i64 a0_2) := bc BK248.out 2; have hcz17_3 : w2.cell? ⟨gb248, 3, none⟩ = some (.int .i64 a0_3) := bc BK248.out 3; have hcz17_4 : w2.cell? ⟨gb248, 4, none⟩ = some (.int .i64 a0_4) := bc BK248.out 4; have hcz17_5 : w2.cell? ⟨gb248, 5, none⟩ = some (.int .i64 a0_5) := bc BK248.out 5; have hfz17_0 := blk_frozen BK248.out 0; have hfz17_1 := blk_frozen BK248.out 1; have hfz17_2 := blk_frozen BK248.out 2; have hfz17_3 := blk_frozen BK248.out 3; have hfz17_4 := blk_frozen BK248.out 4; have hfz17_5 := blk_frozen BK248.out 5; have hcz18_0 : w2.cell? ⟨gb249, 0, none⟩ = some (.int .i64 a1_0) := bc BK249.out 0; have hcz18_1 : w2.cell? ⟨gb249, 1, none⟩ = some (.int .i64 a1_1) := bc BK249.out 1; have hcz18_2 : w2.cell? ⟨gb249, 2, none⟩ = some (.int .i64 a1_2) := bc BK249.out 2; have hcz18_3 : w2.cell? ⟨gb249, 3, none⟩ = some (.int .i64 a1_3) := bc BK249.out 3; have hcz18_4 : w2.cell? ⟨gb249, 4, none⟩ = some (.int .i64 a1_4) := bc BK249.out 4; have hcz18_5 : w2.cell? ⟨gb249, 5, none⟩ = some (.int .i64 a1_5) := bc BK249.out 5; have hfz18_0 := blk_frozen BK249.out 0; have hfz18_1 := blk_frozen BK249.out 1; have hfz18_2 := blk_frozen BK249.out 2; have hfz18_3 := blk_frozen BK249.out 3; have hfz18_4 := blk_frozen BK249.out 4; have hfz18_5 := blk_frozen BK249.out 5))
       go_ret
       exact ⟨by first | rfl | (simp [errW_none, errW_some] <;> rfl) | (simp [*, errW_none, errW_some] <;> rfl), by repeat (first | (with_reducible first | exact HB.out | apply below_alloc | apply pw_below_drewN | apply below_drew1 | refine below_set ?_ GE248.out | refine below_set ?_ GE249.out) | exact HB.out)⟩
     ·rw [if_neg c7] at H
      have c7b0 : (a0_4 == a1_4) = false := beq_eq_false_iff_ne.mpr c7
      have c7b1 : (a0_4 != a1_4) = true := bne_iff_ne.mpr c7
      obtain rfl := Option.some.inj H
      go_enter Try.func27, Try.ntmps27
      go_wp2_with (first | ((with_reducible refine gate_dst (N := 2) rfl ?_); refine box_event ?hg (N := 2) ?hd (cs := #[.int .i64 a0_0, .int .i64 a0_1, .int .i64 a0_2, .int .i64 a0_3, .int .i64 a0_4, .int .i64 a0_5]) (t := 25) ?hr ?_; (case hd => rfl); (case hg => rfl); (case hr => first | (go_simp; done) | (go_simp; rfl)); intro gb248 hg w1 hbox hb; have n0_ := Aside0.mk (below_step s8_1 hb); have n1_ := Aside0.mk (hbox); have n2_ := Aside0.mk (ns hg s8_1 : w.heap.size ≤ gb248); have n3_ := Aside0.mk (ns hg s8_1 : w.heap.size ≤ gb248); clear HB; have HB := n0_; have BK248 := n1_; have GW248 := n2_; have GE248 := n3_; clear n0_ n1_ n2_ n3_; clear hb hbox hg) | ((with_reducible refine gate_dst (N := 3) rfl ?_); refine box_event ?hg (N := 3) ?hd (cs := #[.int .i64 a1_0, .int .i64 a1_1, .int .i64 a1_2, .int .i64 a1_3, .int .i64 a1_4, .int .i64 a1_5]) (t := 25) ?hr ?_; (case hd => rfl); (case hg => rfl); (case hr => first | (go_simp; done) | (go_simp; rfl)); intro gb249 hg w2 hbox hb; have n0_ := Aside0.mk (bb (zk BK248.out) hb); have n1_ := Aside0.mk (below_step s8_0 hb); have n2_ := Aside0.mk (hbox); have n3_ := Aside0.mk (ns hg s8_0 : w.heap.size ≤ gb249); have n4_ := Aside0.mk (ns hg s8_0 : w.heap.size ≤ gb249); have n5_ := Aside0.mk ((nlt hg (zk BK248.out) : gb248 ≠ gb249)); have n6_ := Aside0.mk ((ngt hg (zk BK248.out) : gb249 ≠ gb248)); clear BK248; clear HB; have BK248 := n0_; have HB := n1_; have BK249 := n2_; have GW249 := n3_; have GE249 := n4_; have NB248_249 := n5_; have NB249_248 := n6_; clear n0_ n1_ n2_ n3_ n4_ n5_ n6_; clear hb hbox hg; have hnb21 := NB248_249.out; have hnc21 := NB249_248.out; have hcz22_0 : w2.cell? ⟨gb248, 0, none⟩ = some (.int .i64 a0_0) := bc BK248.out 0; have hcz22_1 : w2.cell? ⟨gb248, 1, none⟩ = some (.int .i64 a0_1) := bc BK248.out 1; have hcz22_2 : w2.cell? ⟨gb248, 2, none⟩ = some (.int .i64 a0_2) := bc BK248.out 2; have hcz22_3 : w2.cell? ⟨gb248, 3, none⟩ = some (.int .i64 a0_3) := bc BK248.out 3; have hcz22_4 : w2.cell? ⟨gb248, 4, none⟩ = some (.int .i64 a0_4) := bc BK248.out 4; have hcz22_5 : w2.cell? ⟨gb248, 5, none⟩ = some (.int .i64 a0_5) := bc BK248.out 5; have hfz22_0 := blk_frozen BK248.out 0; have hfz22_1 := blk_frozen BK248.out 1; have hfz22_2 := blk_frozen BK248.out 2; have hfz22_3 := blk_frozen BK248.out 3; have hfz22_4 := blk_frozen BK248.out 4; have hfz22_5 := blk_frozen BK248.out 5; have hcz23_0 : w2.cell? ⟨gb249, 0, none⟩ = some (.int .i64 a1_0) := bc BK249.out 0; have hcz23_1 : w2.cell? ⟨gb249, 1, none⟩ = some (.int .i64 a1_1) := bc BK249.out 1; have hcz23_2 : w2.cell? ⟨gb249, 2, none⟩ = some (.int .i64 a1_2) := bc BK249.out 2; have hcz23_3 : w2.cell? ⟨gb249, 3, none⟩ = some (.int .i64 a1_3) := bc BK249.out 3; have hcz23_4 : w2.cell? ⟨gb249, 4, none⟩ = some (.int .i64 a1_4) := bc BK249.out 4; have hcz23_5 : w2.cell? ⟨gb249, 5, none⟩ = some (.int .i64 a1_5) := bc BK249.out 5; have hfz23_0 := blk_frozen BK249.out 0; have hfz23_1 := blk_frozen BK249.out 1; have hfz23_2 := blk_frozen BK249.out 2; have hfz23_3 := blk_frozen BK249.out 3; have hfz23_4 := blk_frozen BK249.out 4; have hfz23_5 := blk_frozen BK249.out 5))
      go_ret
      exact ⟨by first | rfl | (simp [errW_none, errW_some] <;> rfl) | (simp [*, errW_none, errW_some] <;> rfl), by repeat (first | (with_reducible first | exact HB.out | apply below_alloc | apply pw_below_drewN | apply below_drew1 | refine below_set ?_ GE248.out | refine below_set ?_ GE249.out) | exact HB.out)⟩
    ·rw [if_neg c6] at H
     have c6b0 : (a0_3 == a1_3) = false := beq_eq_false_iff_ne.mpr c6
     have c6b1 : (a0_3 != a1_3) = true := bne_iff_ne.mpr c6
     obtain rfl := Option.some.inj H
     go_enter Try.func27, Try.ntmps27
     go_wp2_with (first | ((with_reducible refine gate_dst (N := 2) rfl ?_); refine box_event ?hg (N := 2) ?hd (cs := #[.int .i64 a0_0, .int .i64 a0_1, .int .i64 a0_2, .int .i64 a0_3, .int .i64 a0_4, .int .i64 a0_5]) (t := 25) ?hr ?_; (case hd => rfl); (case hg => rfl); (case hr => first | (go_simp; done) | (go_simp; rfl)); intro gb248 hg w1 hbox hb; have n0_ := Aside0.mk (below_step s8_1 hb); have n1_ := Aside0.mk (hbox); have n2_ := Aside0.mk (ns hg s8_1 : w.heap.size ≤ gb248); have n3_ := Aside0.mk (ns hg s8_1 : w.heap.size ≤ gb248); clear HB; have HB := n0_; have BK248 := n1_; have GW248 := n2_; have GE248 := n3_; clear n0_ n1_ n2_ n3_; clear hb hbox hg) | ((with_reducible refine gate_dst (N := 3) rfl ?_); refine box_event ?hg (N := 3) ?hd (cs := #[.int .i64 a1_0, .int .i64 a1_1, .int .i64 a1_2, .int .i64 a1_3, .int .i64 a1_4, .int .i64 a1_5]) (t := 25) ?hr ?_; (case hd => rfl); (case hg => rfl); (case hr => first | (go_simp; done) | (go_simp; rfl)); intro gb249 hg w2 hbox hb; have n0_ := Aside0.mk (bb (zk BK248.out) hb); have n1_ := Aside0.mk (below_step s8_0 hb); have n2_ := Aside0.mk (hbox); have n3_ := Aside0.mk (ns hg s8_0 : w.heap.size ≤ gb249); have n4_ := Aside0.mk (ns hg s8_0 : w.heap.size ≤ gb249); have n5_ := Aside0.mk ((nlt hg (zk BK248.out) : gb248 ≠ gb249)); have n6_ := Aside0.mk ((ngt hg (zk BK248.out) : gb249 ≠ gb248)); clear BK248; clear HB; have BK248 := n0_; have HB := n1_; have BK249 := n2_; have GW249 := n3_; have GE249 := n4_; have NB248_249 := n5_; have NB249_248 := n6_; clear n0_ n1_ n2_ n3_ n4_ n5_ n6_; clear hb hbox hg; have hnb26 := NB248_249.out; have hnc26 := NB249_248.out; have hcz27_0 : w2.cell? ⟨gb248, 0, none⟩ = some (.int .i64 a0_0) := bc BK248.out 0; have hcz27_1 : w2.cell? ⟨gb248, 1, none⟩ = some (.int .i64 a0_1) := bc BK248.out 1; have hcz27_2 : w2.cell? ⟨gb248, 2, none⟩ = some (.int .i64 a0_2) := bc BK248.out 2; have hcz27_3 : w2.cell? ⟨gb248, 3, none⟩ = some (.int .i64 a0_3) := bc BK248.out 3; have hcz27_4 : w2.cell? ⟨gb248, 4, none⟩ = some (.int .i64 a0_4) := bc BK248.out 4; have hcz27_5 : w2.cell? ⟨gb248, 5, none⟩ = some (.int .i64 a0_5) := bc BK248.out 5; have hfz27_0 := blk_frozen BK248.out 0; have hfz27_1 := blk_frozen BK248.out 1; have hfz27_2 := blk_frozen BK248.out 2; have hfz27_3 := blk_frozen BK248.out 3; have hfz27_4 := blk_frozen BK248.out 4; have hfz27_5 := blk_frozen BK248.out 5; have hcz28_0 : w2.cell? ⟨gb249, 0, none⟩ = some (.int .i64 a1_0) := bc BK249.out 0; have hcz28_1 : w2.cell? ⟨gb249, 1, none⟩ = some (.int .i64 a1_1) := bc BK249.out 1; have hcz28_2 : w2.cell? ⟨gb249, 2, none⟩ = some (.int .i64 a1_2) := bc BK249.out 2; have hcz28_3 : w2.cell? ⟨gb249, 3, none⟩ = some (.int .i64 a1_3) := bc BK249.out 3; have hcz28_4 : w2.cell? ⟨gb249, 4, none⟩ = some (.int .i64 a1_4) := bc BK249.out 4; have hcz28_5 : w2.cell? ⟨gb249, 5, none⟩ = some (.int .i64 a1_5) := bc BK249.out 5; have hfz28_0 := blk_frozen BK249.out 0; have hfz28_1 := blk_frozen BK249.out 1; have hfz28_2 := blk_frozen BK249.out 2; have hfz28_3 := blk_frozen BK249.out 3; have hfz28_4 := blk_frozen BK249.out 4; have hfz28_5 := blk_frozen BK249.out 5))
     go_ret
     exact ⟨by first | rfl | (simp [errW_none, errW_some] <;> rfl) | (simp [*, errW_none, errW_some] <;> rfl), by repeat (first | (with_reducible first | exact HB.out | apply below_alloc | apply pw_below_drewN | apply below_drew1 | refine below_set ?_ GE248.out | refine below_set ?_ GE249.out) | exact HB.out)⟩
   ·rw [if_neg c5] at H
    have c5b0 : (a0_2 == a1_2) = false := beq_eq_false_iff_ne.mpr c5
    have c5b1 : (a0_2 != a1_2) = true := bne_iff_ne.mpr c5
    obtain rfl := Option.some.inj H
    go_enter Try.func27, Try.ntmps27
    go_wp2_with (first | ((with_reducible refine gate_dst (N := 2) rfl ?_); refine box_event ?hg (N := 2) ?hd (cs := #[.int .i64 a0_0, .int .i64 a0_1, .int .i64 a0_2, .int .i64 a0_3, .int .i64 a0_4, .int .i64 a0_5]) (t := 25) ?hr ?_; (case hd => rfl); (case hg => rfl); (case hr => first | (go_simp; done) | (go_simp; rfl)); intro gb248 hg w1 hbox hb; have n0_ := Aside0.mk (below_step s8_1 hb); have n1_ := Aside0.mk (hbox); have n2_ := Aside0.mk (ns hg s8_1 : w.heap.size ≤ gb248); have n3_ := Aside0.mk (ns hg s8_1 : w.heap.size ≤ gb248); clear HB; have HB := n0_; have BK248 := n1_; have GW248 := n2_; have GE248 := n3_; clear n0_ n1_ n2_ n3_; clear hb hbox hg) | ((with_reducible refine gate_dst (N := 3) rfl ?_); refine box_event ?hg (N := 3) ?hd (cs := #[.int .i64 a1_0, .int .i64 a1_1, .int .i64 a1_2, .int .i64 a1_3, .int .i64 a1_4, .int .i64 a1_5]) (t := 25) ?hr ?_; (case hd => rfl); (case hg => rfl); (case hr => first | (go_simp; done) | (go_simp; rfl)); intro gb249 hg w2 hbox hb; have n0_ := Aside0.mk (bb (zk BK248.out) hb); have n1_ := Aside0.mk (below_step s8_0 hb); have n2_ := Aside0.mk (hbox); have n3_ := Aside0.mk (ns hg s8_0 : w.heap.size ≤ gb249); have n4_ := Aside0.mk (ns hg s8_0 : w.heap.size ≤ gb249); have n5_ := Aside0.mk ((nlt hg (zk BK248.out) : gb248 ≠ gb249)); have n6_ := Aside0.mk ((ngt hg (zk BK248.out) : gb249 ≠ gb248)); clear BK248; clear HB; have BK248 := n0_; have HB := n1_; have BK249 := n2_; have GW249 := n3_; have GE249 := n4_; have NB248_249 := n5_; have NB249_248 := n6_; clear n0_ n1_ n2_ n3_ n4_ n5_ n6_; clear hb hbox hg; have hnb31 := NB248_249.out; have hnc31 := NB249_248.out; have hcz32_0 : w2.cell? ⟨gb248, 0, none⟩ = some (.int .i64 a0_0) := bc BK248.out 0; have hcz32_1 : w2.cell? ⟨gb248, 1, none⟩ = some (.int .i64 a0_1) := bc BK248.out 1; have hcz32_2 : w2.cell? ⟨gb248, 2, none⟩ = some (.int .i64 a0_2) := bc BK248.out 2; have hcz32_3 : w2.cell? ⟨gb248, 3, none⟩ = some (.int .i64 a0_3) := bc BK248.out 3; have hcz32_4 : w2.cell? ⟨gb248, 4, none⟩ = some (.int .i64 a0_4) := bc BK248.out 4; have hcz32_5 : w2.cell? ⟨gb248, 5, none⟩ = some (.int .i64 a0_5) := bc BK248.out 5; have hfz32_0 := blk_frozen BK248.out 0; have hfz32_1 := blk_frozen BK248.out 1; have hfz32_2 := blk_frozen BK248.out 2; have hfz32_3 := blk_frozen BK248.out 3; have hfz32_4 := blk_frozen BK248.out 4; have hfz32_5 := blk_frozen BK248.out 5; have hcz33_0 : w2.cell? ⟨gb249, 0, none⟩ = some (.int .i64 a1_0) := bc BK249.out 0; have hcz33_1 : w2.cell? ⟨gb249, 1, none⟩ = some (.int .i64 a1_1) := bc BK249.out 1; have hcz33_2 : w2.cell? ⟨gb249, 2, none⟩ = some (.int .i64 a1_2) := bc BK249.out 2; have hcz33_3 : w2.cell? ⟨gb249, 3, none⟩ = some (.int .i64 a1_3) := bc BK249.out 3; have hcz33_4 : w2.cell? ⟨gb249, 4, none⟩ = some (.int .i64 a1_4) := bc BK249.out 4; have hcz33_5 : w2.cell? ⟨gb249, 5, none⟩ = some (.int .i64 a1_5) := bc BK249.out 5; have hfz33_0 := blk_frozen BK249.out 0; have hfz33_1 := blk_frozen BK249.out 1; have hfz33_2 := blk_frozen BK249.out 2; have hfz33_3 := blk_frozen BK249.out 3; have hfz33_4 := blk_frozen BK249.out 4; have hfz33_5 := blk_frozen BK249.out 5))
    go_ret
    exact ⟨by first | rfl | (simp [errW_none, errW_some] <;> rfl) | (simp [*, errW_none, errW_some] <;> rfl), by repeat (first | (with_reducible first | exact HB.out | apply below_alloc | apply pw_below_drewN | apply below_drew1 | refine below_set ?_ GE248.out | refine below_set ?_ GE249.out) | exact HB.out)⟩
  ·rw [if_neg c4] at H
   have c4b0 : (a0_1 == a1_1) = false := beq_eq_false_iff_ne.mpr c4
   have c4b1 : (a0_1 != a1_1) = true := bne_iff_ne.mpr c4
   obtain rfl := Option.some.inj H
   go_enter Try.func27, Try.ntmps27
   go_wp2_with (first | ((with_reducible refine gate_dst (N := 2) rfl ?_); refine box_event ?hg (N := 2) ?hd (cs := #[.int .i64 a0_0, .int .i64 a0_1, .int .i64 a0_2, .int .i64 a0_3, .int .i64 a0_4, .int .i64 a0_5]) (t := 25) ?hr ?_; (case hd => rfl); (case hg => rfl); (case hr => first | (go_simp; done) | (go_simp; rfl)); intro gb248 hg w1 hbox hb; have n0_ := Aside0.mk (below_step s8_1 hb); have n1_ := Aside0.mk (hbox); have n2_ := Aside0.mk (ns hg s8_1 : w.heap.size ≤ gb248); have n3_ := Aside0.mk (ns hg s8_1 : w.heap.size ≤ gb248); clear HB; have HB := n0_; have BK248 := n1_; have GW248 := n2_; have GE248 := n3_; clear n0_ n1_ n2_ n3_; clear hb hbox hg) | ((with_reducible refine gate_dst (N := 3) rfl ?_); refine box_event ?hg (N := 3) ?hd (cs := #[.int .i64 a1_0, .int .i64 a1_1, .int .i64 a1_2, .int .i64 a1_3, .int .i64 a1_4, .int .i64 a1_5]) (t := 25) ?hr ?_; (case hd => rfl); (case hg => rfl); (case hr => first | (go_simp; done) | (go_simp; rfl)); intro gb249 hg w2 hbox hb; have n0_ := Aside0.mk (bb (zk BK248.out) hb); have n1_ := Aside0.mk (below_step s8_0 hb); have n2_ := Aside0.mk (hbox); have n3_ := Aside0.mk (ns hg s8_0 : w.heap.size ≤ gb249); have n4_ := Aside0.mk (ns hg s8_0 : w.heap.size ≤ gb249); have n5_ := Aside0.mk ((nlt hg (zk BK248.out) : gb248 ≠ gb249)); have n6_ := Aside0.mk ((ngt hg (zk BK248.out) : gb249 ≠ gb248)); clear BK248; clear HB; have BK248 := n0_; have HB := n1_; have BK249 := n2_; have GW249 := n3_; have GE249 := n4_; have NB248_249 := n5_; have NB249_248 := n6_; clear n0_ n1_ n2_ n3_ n4_ n5_ n6_; clear hb hbox hg; have hnb36 := NB248_249.out; have hnc36 := NB249_248.out; have hcz37_0 : w2.cell? ⟨gb248, 0, none⟩ = some (.int .i64 a0_0) := bc BK248.out 0; have hcz37_1 : w2.cell? ⟨gb248, 1, none⟩ = some (.int .i64 a0_1) := bc BK248.out 1; have hcz37_2 : w2.cell? ⟨gb248, 2, none⟩ = some (.int .i64 a0_2) := bc BK248.out 2; have hcz37_3 : w2.cell? ⟨gb248, 3, none⟩ = some (.int .i64 a0_3) := bc BK248.out 3; have hcz37_4 : w2.cell? ⟨gb248, 4, none⟩ = some (.int .i64 a0_4) := bc BK248.out 4; have hcz37_5 : w2.cell? ⟨gb248, 5, none⟩ = some (.int .i64 a0_5) := bc BK248.out 5; have hfz37_0 := blk_frozen BK248.out 0; have hfz37_1 := blk_frozen BK248.out 1; have hfz37_2 := blk_frozen BK248.out 2; have hfz37_3 := blk_frozen BK248.out 3; have hfz37_4 := blk_frozen BK248.out 4; have hfz37_5 := blk_frozen BK248.out 5; have hcz38_0 : w2.cell? ⟨gb249, 0, none⟩ = some (.int .i64 a1_0) := bc BK249.out 0; have hcz38_1 : w2.cell? ⟨gb249, 1, none⟩ = some (.int .i64 a1_1) := bc BK249.out 1; have hcz38_2 : w2.cell? ⟨gb249, 2, none⟩ = some (.int .i64 a1_2) := bc BK249.out 2; have hcz38_3 : w2.cell? ⟨gb249, 3, none⟩ = some (.int .i64 a1_3) := bc BK249.out 3; have hcz38_4 : w2.cell? ⟨gb249, 4, none⟩ = some (.int .i64 a1_4) := bc BK249.out 4; have hcz38_5 : w2.cell? ⟨gb249, 5, none⟩ = some (.int .i64 a1_5) := bc BK249.out 5; have hfz38_0 := blk_frozen BK249.out 0; have hfz38_1 := blk_frozen BK249.out 1; have hfz38_2 := blk_frozen BK249.out 2; have hfz38_3 := blk_frozen BK249.out 3; have hfz38_4 := blk_frozen BK249.out 4; have hfz38_5 := blk_frozen BK249.out 5))
   go_ret
   exact ⟨by first | rfl | (simp [errW_none, errW_some] <;> rfl) | (simp [*, errW_none, errW_some] <;> rfl), by repeat (first | (with_reducible first | exact HB.out | apply below_alloc | apply pw_below_drewN | apply below_drew1 | refine below_set ?_ GE248.out | refine below_set ?_ GE249.out) | exact HB.out)⟩
 ·rw [if_neg c3] at H
  have c3b0 : (a0_0 == a1_0) = false := beq_eq_false_iff_ne.mpr c3
  have c3b1 : (a0_0 != a1_0) = true := bne_iff_ne.mpr c3
  obtain rfl := Option.some.inj H
  go_enter Try.func27, Try.ntmps27
  go_wp2_with (first | ((with_reducible refine gate_dst (N := 2) rfl ?_); refine box_event ?hg (N := 2) ?hd (cs := #[.int .i64 a0_0, .int .i64 a0_1, .int .i64 a0_2, .int .i64 a0_3, .int .i64 a0_4, .int .i64 a0_5]) (t := 25) ?hr ?_; (case hd => rfl); (case hg => rfl); (case hr => first | (go_simp; done) | (go_simp; rfl)); intro gb248 hg w1 hbox hb; have n0_ := Aside0.mk (below_step s8_1 hb); have n1_ := Aside0.mk (hbox); have n2_ := Aside0.mk (ns hg s8_1 : w.heap.size ≤ gb248); have n3_ := Aside0.mk (ns hg s8_1 : w.heap.size ≤ gb248); clear HB; have HB := n0_; have BK248 := n1_; have GW248 := n2_; have GE248 := n3_; clear n0_ n1_ n2_ n3_; clear hb hbox hg) | ((with_reducible refine gate_dst (N := 3) rfl ?_); refine box_event ?hg (N := 3) ?hd (cs := #[.int .i64 a1_0, .int .i64 a1_1, .int .i64 a1_2, .int .i64 a1_3, .int .i64 a1_4, .int .i64 a1_5]) (t := 25) ?hr ?_; (case hd => rfl); (case hg => rfl); (case hr => first | (go_simp; done) | (go_simp; rfl)); intro gb249 hg w2 hbox hb; have n0_ := Aside0.mk (bb (zk BK248.out) hb); have n1_ := Aside0.mk (below_step s8_0 hb); have n2_ := Aside0.mk (hbox); have n3_ := Aside0.mk (ns hg s8_0 : w.heap.size ≤ gb249); have n4_ := Aside0.mk (ns hg s8_0 : w.heap.size ≤ gb249); have n5_ := Aside0.mk ((nlt hg (zk BK248.out) : gb248 ≠ gb249)); have n6_ := Aside0.mk ((ngt hg (zk BK248.out) : gb249 ≠ gb248)); clear BK248; clear HB; have BK248 := n0_; have HB := n1_; have BK249 := n2_; have GW249 := n3_; have GE249 := n4_; have NB248_249 := n5_; have NB249_248 := n6_; clear n0_ n1_ n2_ n3_ n4_ n5_ n6_; clear hb hbox hg; have hnb41 := NB248_249.out; have hnc41 := NB249_248.out; have hcz42_0 : w2.cell? ⟨gb248, 0, none⟩ = some (.int .i64 a0_0) := bc BK248.out 0; have hcz42_1 : w2.cell? ⟨gb248, 1, none⟩ = some (.int .i64 a0_1) := bc BK248.out 1; have hcz42_2 : w2.cell? ⟨gb248, 2, none⟩ = some (.int .i64 a0_2) := bc BK248.out 2; have hcz42_3 : w2.cell? ⟨gb248, 3, none⟩ = some (.int .i64 a0_3) := bc BK248.out 3; have hcz42_4 : w2.cell? ⟨gb248, 4, none⟩ = some (.int .i64 a0_4) := bc BK248.out 4; have hcz42_5 : w2.cell? ⟨gb248, 5, none⟩ = some (.int .i64 a0_5) := bc BK248.out 5; have hfz42_0 := blk_frozen BK248.out 0; have hfz42_1 := blk_frozen BK248.out 1; have hfz42_2 := blk_frozen BK248.out 2; have hfz42_3 := blk_frozen BK248.out 3; have hfz42_4 := blk_frozen BK248.out 4; have hfz42_5 := blk_frozen BK248.out 5; have hcz43_0 : w2.cell? ⟨gb249, 0, none⟩ = some (.int .i64 a1_0) := bc BK249.out 0; have hcz43_1 : w2.cell? ⟨gb249, 1, none⟩ = some (.int .i64 a1_1) := bc BK249.out 1; have hcz43_2 : w2.cell? ⟨gb249, 2, none⟩ = some (.int .i64 a1_2) := bc BK249.out 2; have hcz43_3 : w2.cell? ⟨gb249, 3, none⟩ = some (.int .i64 a1_3) := bc BK249.out 3; have hcz43_4 : w2.cell? ⟨gb249, 4, none⟩ = some (.int .i64 a1_4) := bc BK249.out 4; have hcz43_5 : w2.cell? ⟨gb249, 5, none⟩ = some (.int .i64 a1_5) := bc BK249.out 5; have hfz43_0 := blk_frozen BK249.out 0; have hfz43_1 := blk_frozen BK249.out 1; have hfz43_2 := blk_frozen BK249.out 2; have hfz43_3 := blk_frozen BK249.out 3; have hfz43_4 := blk_frozen BK249.out 4; have hfz43_5 := blk_frozen BK249.out 5))
  go_ret
  exact ⟨by first | rfl | (simp [errW_none, errW_some] <;> rfl) | (simp [*, errW_none, errW_some] <;> rfl), by repeat (first | (with_reducible first | exact HB.out | apply below_alloc | apply pw_below_drewN | apply below_drew1 | refine below_set ?_ GE248.out | refine below_set ?_ GE249.out) | exact HB.out)⟩

/-! ### laws_eqShipS: function 51 -/
def laws_eqShipS.l0 : Nat → List (S25) → List (S25) → Int → Option (Bool)
 | 0, _, _, _ => none
 | k + 1, x0, x1, x5 => if x5 < (x0.length : Int) then (if 0 ≤ x5 then (if x5 < (x1.length : Int) then ((laws_eqShip.f ((rd_T25 x0 x5).f0) ((rd_T25 x0 x5).f1) ((rd_T25 x0 x5).f2) ((rd_T25 x0 x5).f3) ((rd_T25 x0 x5).f4) ((rd_T25 x0 x5).f5) ((rd_T25 x1 x5).f0) ((rd_T25 x1 x5).f1) ((rd_T25 x1 x5).f2) ((rd_T25 x1 x5).f3) ((rd_T25 x1 x5).f4) ((rd_T25 x1 x5).f5)).bind fun t252 => (if t252 = true then (laws_eqShipS.l0 k x0 x1 (wrap64 (x5 + 1))) else (some false))) else (none)) else (none)) else (some true)
def laws_eqShipS.f (k : Nat) (l0 : List (S25)) (l1 : List (S25)) : Option (Bool) := if (l0.length : Int) = (l1.length : Int) then (laws_eqShipS.l0 k l0 l1 0) else (some false)
theorem laws_eqShipS.mono_l : ∀ k, (∀ y0 y1 y2, LeO (laws_eqShipS.l0 k y0 y1 y2) (laws_eqShipS.l0 (k + 1) y0 y1 y2))
 | 0 => fun _ _ _ r h => by simp [laws_eqShipS.l0] at h
 | k + 1 => by
  have ih0 := laws_eqShipS.mono_l k
  ·intro y0 y1 y2
   unfold laws_eqShipS.l0
   repeat' first
   | (with_reducible exact ih0 _ _ _)
   | (with_reducible exact LeO.refl _)
   | (with_reducible exact LeO.none _)
   | (with_reducible refine LeO.ite ?_ ?_)
   | (with_reducible refine LeO.bind ?_ (fun _ => ?_))
   | exact ih0 _ _ _
   | exact LeO.none _
   | refine LeO.ite ?_ ?_
   | refine LeO.bind ?_ (fun _ => ?_)
theorem laws_eqShipS.mono : ∀ a0 a1 k, LeO (laws_eqShipS.f k a0 a1) (laws_eqShipS.f (k + 1) a0 a1) := by
 intro a0 a1 k
 have ih0 := laws_eqShipS.mono_l k
 unfold laws_eqShipS.f
 repeat' first
   | (with_reducible exact ih0 _ _ _)
   | (with_reducible exact LeO.refl _)
   | (with_reducible exact LeO.none _)
   | (with_reducible refine LeO.ite ?_ ?_)
   | (with_reducible refine LeO.bind ?_ (fun _ => ?_))
   | exact ih0 _ _ _
   | exact LeO.none _
   | refine LeO.ite ?_ ?_
   | refine LeO.bind ?_ (fun _ => ?_)
def laws_eqShipS.T6 : Bool × List (List Nat × List Nat) := (true, [([], []), ([], []), ([0, 1], [0, 1]), ([2], [2]), ([], []), ([], []), ([4, 5], [4, 5]), ([6], [6]), ([3, 7], [3, 7]), ([8], [8])])
def laws_eqShipS.B6 : List Nat := [0, 0, 3, 7, 0, 0, 48, 112, 255, 511]
theorem laws_eqShipS.tab6 : rtab .any (opsOf Try.f51 6) = laws_eqShipS.T6 := by kernel_rfl
theorem laws_eqShipS.bits6 : waitsOk laws_eqShipS.T6.2 laws_eqShipS.B6 = true := by kernel_rfl
set_option maxHeartbeats 8000000 in
set_option maxRecDepth 100000 in
theorem laws_eqShipS.calls (k : Nat) (A0 : Option Addr) (c0 : Nat) (l0 : List (S25)) (A1 : Option Addr) (c1 : Nat) (l1 : List (S25)) (r : Bool) (w : World) (hr0 : Kd.C k25 w A0 l0.length l0) (hc0 : l0.length ≤ c0) (hr1 : Kd.C k25 w A1 l1.length l1) (hc1 : l1.length ≤ c1) (h : laws_eqShipS.f k l0 l1 = some r) :
  Calls Try.prog 51 #[.slice A0 l0.length c0, .slice A1 l1.length c1] w fun e w' => e = .returned (.bool r) ∧ Below w.heap.size w w' := by
 have hu25 := Try.underlying25
 have HR0 := Aside0.mk hr0
 have HC0 := Aside0.mk hc0
 clear hr0 hc0
 have HR1 := Aside0.mk hr1
 have HC1 := Aside0.mk hc1
 clear hr1 hc1
 have HB := Aside0.mk (Below.refl w.heap.size w)
 have H : (if (l0.length : Int) = (l1.length : Int) then (laws_eqShipS.l0 k l0 l1 0) else (some false)) = some r := h
 clear h
 by_cases c3 : (l0.length : Int) = (l1.length : Int)
 ·rw [if_pos c3] at H
  have c3b0 : ((l0.length : Int) == (l1.length : Int)) = true := beq_iff_eq.mpr c3
  have c3b1 : ((l0.length : Int) != (l1.length : Int)) = false := bne_eq_false_iff_eq.mpr c3
  have c3b2 : (l0.length == l1.length) = true := by first | simpa using c3 | (simp at c3 ⊢; omega)
  clear c3
  have H' := Aside0.mk H
  clear H
  go_enter Try.func51, Try.ntmps51
  go_wp2
  go_loopg [5] k (fun kq v5 w' => ∃ (x5_1 : Int), v5 = .int .i64 x5_1 ∧ Aside0 (laws_eqShipS.l0 kq l0 l1 x5_1 = some r) ∧ Aside0 (kq ≤ k) ∧ Aside0 (Below w.heap.size w w'))
  case atStart => exact ⟨(0), (by first | rfl | (simp; done) | (simp [*]; done)), H', ⟨Nat.le_refl _⟩, ⟨by repeat (first | (with_reducible first | exact HB.out | apply below_alloc | apply pw_below_drewN | apply below_drew1) | exact HB.out)⟩⟩
  case round =>
   clear H'
   (try clear c1); (try clear p2); (try clear c3); (try clear c3b0); (try clear c3b1); (try clear c3b2)
   obtain ⟨x5_1, rfl, HA, HK1, HB⟩ := hrel
   cases gk with
   | zero => exact absurd HA.out (by simp [laws_eqShipS.l0])
   | succ k1 =>
    have H := HA.out
    clear HA
    simp only [laws_eqShipS.l0] at H
    by_cases c4 : x5_1 < (l0.length : Int)
    ·rw [if_pos c4] at H
     have c4b0 : decide (x5_1 < (l0.length : Int)) = true := decide_eq_true c4
     clear c4
     by_cases c5 : 0 ≤ x5_1
     ·rw [if_pos c5] at H
      have c5b0 : decide (0 ≤ x5_1) = true := decide_eq_true c5
      clear c5
      by_cases c6 : x5_1 < (l1.length : Int)
      ·rw [if_pos c6] at H
       have c6b0 : decide (x5_1 < (l1.length : Int)) = true := decide_eq_true c6
       clear c6
       replace H := Option.bind_eq_some_iff.mp H
       obtain ⟨t252, A70, H⟩ := H
       replace H : (if t252 = true then (laws_eqShipS.l0 k1 l0 l1 (wrap64 (x5_1 + 1))) else (some false)) = some r := H
       have A7 := Aside0.mk A70
       clear A70
       by_cases c8 : t252 = true
       ·subst c8
        have H1 : (laws_eqShipS.l0 k1 l0 l1 (wrap64 (x5_1 + 1))) = some r := by rw [if_pos rfl] at H; exact H
        clear H
        have H := H1
        clear H1
        have H' := Aside0.mk H
        clear H
        try go_wp2
        have n0_ := Aside0.mk (below_drew1 HB.out)
        clear HB
        have HB := n0_
        clear n0_
        have p250 : 0 ≤ (x5_1 : Int) := of_decide_eq_true s8_2
        have q250 : x5_1 < (l0.length : Int) := of_decide_eq_true s8_2
        obtain ⟨ad250, e250, hx250_0, hx250_1, hx250_2, hx250_3, hx250_4, hx250_5⟩ := at_T25 HR0.out x5_1 p250 q250
        have hw250_5 := hx250_5
        have hw250_4 := hx250_4
        have hw250_3 := hx250_3
        have hw250_2 := hx250_2
        have hw250_1 := hx250_1
        have hw250_0 := hx250_0
        cases e250
        replace hx250_0 := (HB.out.cell (World.block_lt_of_cell? w _ hx250_0)).trans hx250_0
        replace hx250_1 := (HB.out.cell (World.block_lt_of_cell? w _ hx250_1)).trans hx250_1
        replace hx250_2 := (HB.out.cell (World.block_lt_of_cell? w _ hx250_2)).trans hx250_2
        replace hx250_3 := (HB.out.cell (World.block_lt_of_cell? w _ hx250_3)).trans hx250_3
        replace hx250_4 := (HB.out.cell (World.block_lt_of_cell? w _ hx250_4)).trans hx250_4
        replace hx250_5 := (HB.out.cell (World.block_lt_of_cell? w _ hx250_5)).trans hx250_5
        replace p250 := eq_true p250
        replace q250 := eq_true q250
        have p251 : 0 ≤ (x5_1 : Int) := of_decide_eq_true s8_2
        have q251 : x5_1 < (l1.length : Int) := of_decide_eq_true s8_2
        obtain ⟨ad251, e251, hx251_0, hx251_1, hx251_2, hx251_3, hx251_4, hx251_5⟩ := at_T25 HR1.out x5_1 p251 q251
        have hw251_5 := hx251_5
        have hw251_4 := hx251_4
        have hw251_3 := hx251_3
        have hw251_2 := hx251_2
        have hw251_1 := hx251_1
        have hw251_0 := hx251_0
        cases e251
        replace hx251_0 := (HB.out.cell (World.block_lt_of_cell? w _ hx251_0)).trans hx251_0
        replace hx251_1 := (HB.out.cell (World.block_lt_of_cell? w _ hx251_1)).trans hx251_1
        replace hx251_2 := (HB.out.cell (World.block_lt_of_cell? w _ hx251_2)).trans hx251_2
        replace hx251_3 := (HB.out.cell (World.block_lt_of_cell? w _ hx251_3)).trans hx251_3
        replace hx251_4 := (HB.out.cell (World.block_lt_of_cell? w _ hx251_4)).trans hx251_4
        replace hx251_5 := (HB.out.cell (World.block_lt_of_cell? w _ hx251_5)).trans hx251_5
        replace p251 := eq_true p251
        replace q251 := eq_true q251
        refine start_ (n := 10) (S := fun w' => w'.cell? (ad250.add ((x5_1).toNat * 6)) = some (.int .i64 ((rd_T25 l0 x5_1).f0)) ∧ w'.cell? ⟨(ad250.add ((x5_1).toNat * 6)).block, (ad250.add ((x5_1).toNat * 6)).off + 1, none⟩ = some (.int .i64 ((rd_T25 l0 x5_1).f1)) ∧ w'.cell? ⟨(ad250.add ((x5_1).toNat * 6)).block, (ad250.add ((x5_1).toNat * 6)).off + 2, none⟩ = some (.int .i64 ((rd_T25 l0 x5_1).f2)) ∧ w'.cell? ⟨(ad250.add ((x5_1).toNat * 6)).block, (ad250.add ((x5_1).toNat * 6)).off + 3, none⟩ = some (.int .i64 ((rd_T25 l0 x5_1).f3)) ∧ w'.cell? ⟨(ad250.add ((x5_1).toNat * 6)).block, (ad250.add ((x5_1).toNat * 6)).off + 4, none⟩ = some (.int .i64 ((rd_T25 l0 x5_1).f4)) ∧ w'.cell? ⟨(ad250.add ((x5_1).toNat * 6)).block, (ad250.add ((x5_1).toNat * 6)).off + 5, none⟩ = some (.int .i64 ((rd_T25 l0 x5_1).f5)) ∧ w'.cell? (ad251.add ((x5_1).toNat * 6)) = some (.int .i64 ((rd_T25 l1 x5_1).f0)) ∧ w'.cell? ⟨(ad251.add ((x5_1).toNat * 6)).block, (ad251.add ((x5_1).toNat * 6)).off + 1, none⟩ = some (.int .i64 ((rd_T25 l1 x5_1).f1)) ∧ w'.cell? ⟨(ad251.add ((x5_1).toNat * 6)).block, (ad251.add ((x5_1).toNat * 6)).off + 2, none⟩ = some (.int .i64 ((rd_T25 l1 x5_1).f2)) ∧ w'.cell? ⟨(ad251.add ((x5_1).toNat * 6)).block, (ad251.add ((x5_1).toNat * 6)).off + 3, none⟩ = some (.int .i64 ((rd_T25 l1 x5_1).f3)) ∧ w'.cell? ⟨(ad251.add ((x5_1).toNat * 6)).block, (ad251.add ((x5_1).toNat * 6)).off + 4, none⟩ = some (.int .i64 ((rd_T25 l1 x5_1).f4)) ∧ w'.cell? ⟨(ad251.add ((x5_1).toNat * 6)).block, (ad251.add ((x5_1).toNat * 6)).off + 5, none⟩ = some (.int .i64 ((rd_T25 l1 x5_1).f5))) (ds := []) #[false, false, false, false, false, false, false, false, false, false] (by kernel_rfl) rfl rfl ⟨((HB.out.cell (World.block_lt_of_cell? w _ hw250_0)).trans hw250_0), ((HB.out.cell (World.block_lt_of_cell? w _ hw250_1)).trans hw250_1), ((HB.out.cell (World.block_lt_of_cell? w _ hw250_2)).trans hw250_2), ((HB.out.cell (World.block_lt_of_cell? w _ hw250_3)).trans hw250_3), ((HB.out.cell (World.block_lt_of_cell? w _ hw250_4)).trans hw250_4), ((HB.out.cell (World.block_lt_of_cell? w _ hw250_5)).trans hw250_5), ((HB.out.cell (World.block_lt_of_cell? w _ hw251_0)).trans hw251_0), ((HB.out.cell (World.block_lt_of_cell? w _ hw251_1)).trans hw251_1), ((HB.out.cell (World.block_lt_of_cell? w _ hw251_2)).trans hw251_2), ((HB.out.cell (World.block_lt_of_cell? w _ hw251_3)).trans hw251_3), ((HB.out.cell (World.block_lt_of_cell? w _ hw251_4)).trans hw251_4), ((HB.out.cell (World.block_lt_of_cell? w _ hw251_5)).trans hw251_5)⟩ (fun hHeld => ?_); refine with_tabW laws_eqShipS.tab6 laws_eqShipS.bits6 (fun HT_ HW_ => ?_)
        generalize wr.drew = w1 at HB hx250_0 hx250_1 hx250_2 hx250_3 hx250_4 hx250_5 hx251_0 hx251_1 hx251_2 hx251_3 hx251_4 hx251_5 hHeld ⊢
        refine pure_ (i := 0) (N := some 17) (v := ?_) (a' := ?_) (bz 10 1) rfl rfl (any_of HT_.out (by kernel_rfl)) (fun _ _ _ h => h) (Or.inl ⟨by rfl, ?_⟩) ?_ ?_
        rotate_left
        ·exact t8_1
        rotate_left
        ·exact t8_0
        refine pure_ (i := 1) (N := some 18) (v := ?_) (a' := ?_) (bz 10 3) rfl rfl (any_of HT_.out (by kernel_rfl)) (fun _ _ _ h => h) (Or.inl ⟨by rfl, ?_⟩) ?_ ?_
        rotate_left
        ·exact t8_1
        rotate_left
        ·exact t8_0
        refine pure_ (i := 2) (N := some 19) (v := ?_) (a' := ?_) (bz 10 7) rfl rfl (any_of HT_.out (by kernel_rfl)) (fun _ _ _ h => h) (Or.inl ⟨by rfl, ?_⟩) ?_ ?_
        rotate_left
        ·exact t8_1
        rotate_left
        ·exact t8_0
        refine pure_ (i := 4) (N := some 21) (v := ?_) (a' := ?_) (bz 10 23) rfl rfl (any_of HT_.out (by kernel_rfl)) (fun _ _ _ h => h) (Or.inl ⟨by rfl, ?_⟩) ?_ ?_
        rotate_left
        ·exact t8_1
        rotate_left
        ·exact t8_0
        refine pure_ (i := 5) (N := some 22) (v := ?_) (a' := ?_) (bz 10 55) rfl rfl (any_of HT_.out (by kernel_rfl)) (fun _ _ _ h => h) (Or.inl ⟨by rfl, ?_⟩) ?_ ?_
        rotate_left
        ·exact t8_1
        rotate_left
        ·exact t8_0
        refine pure_ (i := 6) (N := some 23) (v := ?_) (a' := ?_) (bz 10 119) rfl rfl (any_of HT_.out (by kernel_rfl)) (fun _ _ _ h => h) (Or.inl ⟨by rfl, ?_⟩) ?_ ?_
        rotate_left
        ·exact t8_1
        rotate_left
        ·exact t8_0
        refine take_ (i := 3) (N := some 20) (v := ?_) (a' := ?_) (bz 10 127) rfl rfl (take_ofW HT_.out HW_.out (by kernel_rfl)) (fun _ _ _ h => h) (Or.inl ⟨by rfl, ?_⟩) hHeld ?_ ?_
        rotate_left
        ·rintro w' ⟨s0, s1, s2, s3, s4, s5, s6, s7, s8, s9, s10, s11⟩
         go_simp
         with_reducible rfl
        rotate_left
        ·exact t8_0
        refine take_ (i := 7) (N := some 24) (v := ?_) (a' := ?_) (bz 10 255) rfl rfl (take_ofW HT_.out HW_.out (by kernel_rfl)) (fun _ _ _ h => h) (Or.inl ⟨by rfl, ?_⟩) hHeld ?_ ?_
        rotate_left
        ·rintro w' ⟨s0, s1, s2, s3, s4, s5, s6, s7, s8, s9, s10, s11⟩
         go_simp
         with_reducible rfl
        rotate_left
        ·exact t8_0
        refine one_ (i := 8) (N := some 25) (bz 10 511) rfl rfl (one_of HT_.out (by kernel_rfl)) (by decide) (fun K hK => ?_)
        refine goes_ Try.func27 (by kernel_rfl) rfl #[.agg #[.int .i64 ((rd_T25 l0 x5_1).f0), .int .i64 ((rd_T25 l0 x5_1).f1), .int .i64 ((rd_T25 l0 x5_1).f2), .int .i64 ((rd_T25 l0 x5_1).f3), .int .i64 ((rd_T25 l0 x5_1).f4), .int .i64 ((rd_T25 l0 x5_1).f5)], .agg #[.int .i64 ((rd_T25 l1 x5_1).f0), .int .i64 ((rd_T25 l1 x5_1).f1), .int .i64 ((rd_T25 l1 x5_1).f2), .int .i64 ((rd_T25 l1 x5_1).f3), .int .i64 ((rd_T25 l1 x5_1).f4), .int .i64 ((rd_T25 l1 x5_1).f5)]] (by rfl) rfl rfl (by (try simp only [List.map_toArray, List.map_cons, List.map_nil]); first | done | rfl | (simp only [List.length_drop, List.length_take]; rfl)) ?_
        with_reducible refine (laws_eqShip.calls ((rd_T25 l0 x5_1).f0) ((rd_T25 l0 x5_1).f1) ((rd_T25 l0 x5_1).f2) ((rd_T25 l0 x5_1).f3) ((rd_T25 l0 x5_1).f4) ((rd_T25 l0 x5_1).f5) ((rd_T25 l1 x5_1).f0) ((rd_T25 l1 x5_1).f1) ((rd_T25 l1 x5_1).f2) ((rd_T25 l1 x5_1).f3) ((rd_T25 l1 x5_1).f4) ((rd_T25 l1 x5_1).f5) true _ A7.out).mono ?_
        rintro e w2 ⟨rfl, hb⟩
        refine ⟨_, rfl, ?_⟩
        have n0_ := Aside0.mk (below_step s8_1 hb)
        clear HB
        have HB := n0_
        clear n0_
        (try clear hb)
        (try clear hb2)
        (try clear hk)
        (try clear hi)
        refine hK.out _ _ ⟨((HB.out.cell (World.block_lt_of_cell? w _ hw250_0)).trans hw250_0), ((HB.out.cell (World.block_lt_of_cell? w _ hw250_1)).trans hw250_1), ((HB.out.cell (World.block_lt_of_cell? w _ hw250_2)).trans hw250_2), ((HB.out.cell (World.block_lt_of_cell? w _ hw250_3)).trans hw250_3), ((HB.out.cell (World.block_lt_of_cell? w _ hw250_4)).trans hw250_4), ((HB.out.cell (World.block_lt_of_cell? w _ hw250_5)).trans hw250_5), ((HB.out.cell (World.block_lt_of_cell? w _ hw251_0)).trans hw251_0), ((HB.out.cell (World.block_lt_of_cell? w _ hw251_1)).trans hw251_1), ((HB.out.cell (World.block_lt_of_cell? w _ hw251_2)).trans hw251_2), ((HB.out.cell (World.block_lt_of_cell? w _ hw251_3)).trans hw251_3), ((HB.out.cell (World.block_lt_of_cell? w _ hw251_4)).trans hw251_4), ((HB.out.cell (World.block_lt_of_cell? w _ hw251_5)).trans hw251_5)⟩ (fun hHeld => ?_)
        clear hK K
        refine norm_ (a' := ?_) ?_ ?_
        rotate_left
        ·show Act.put _ (some 25) _ = _
         simp only [Act.put, y1, y2, y3, i64_w, i32_w]
         rfl
        refine pure_ (i := 9) (N := some 26) (v := ?_) (a' := ?_) (bz 10 1023) rfl rfl (any_of HT_.out (by kernel_rfl)) (fun _ _ _ h => h) (Or.inl ⟨by rfl, ?_⟩) ?_ ?_
        rotate_left
        ·exact t8_1
        rotate_left
        ·exact t8_0
        refine done_ (done_of HT_.out (by kernel_rfl)) ?_
        try go_wp2
        go_roundg k1
        case measure => have := HK1.out; omega
        case rel => exact ⟨(wrap64 (x5_1 + 1)), (by first | rfl | (simp; done) | (simp [*]; done)), H', ⟨by have := HK1.out; omega⟩, ⟨by repeat (first | (with_reducible first | exact HB.out | apply below_alloc | apply pw_below_drewN | apply below_drew1) | exact HB.out)⟩⟩
       ·replace c8 := Bool.eq_false_iff.mpr c8
        subst c8
        have H1 : (some false) = some r := by rw [if_neg (show ¬ (false = true) by decide)] at H; exact H
        clear H
        have H := H1
        clear H1
        obtain rfl := Option.some.inj H
        try go_wp2
        have n0_ := Aside0.mk (below_drew1 HB.out)
        clear HB
        have HB := n0_
        clear n0_
        have p250 : 0 ≤ (x5_1 : Int) := of_decide_eq_true s8_2
        have q250 : x5_1 < (l0.length : Int) := of_decide_eq_true s8_2
        obtain ⟨ad250, e250, hx250_0, hx250_1, hx250_2, hx250_3, hx250_4, hx250_5⟩ := at_T25 HR0.out x5_1 p250 q250
        have hw250_5 := hx250_5
        have hw250_4 := hx250_4
        have hw250_3 := hx250_3
        have hw250_2 := hx250_2
        have hw250_1 := hx250_1
        have hw250_0 := hx250_0
        cases e250
        replace hx250_0 := (HB.out.cell (World.block_lt_of_cell? w _ hx250_0)).trans hx250_0
        replace hx250_1 := (HB.out.cell (World.block_lt_of_cell? w _ hx250_1)).trans hx250_1
        replace hx250_2 := (HB.out.cell (World.block_lt_of_cell? w _ hx250_2)).trans hx250_2
        replace hx250_3 := (HB.out.cell (World.block_lt_of_cell? w _ hx250_3)).trans hx250_3
        replace hx250_4 := (HB.out.cell (World.block_lt_of_cell? w _ hx250_4)).trans hx250_4
        replace hx250_5 := (HB.out.cell (World.block_lt_of_cell? w _ hx250_5)).trans hx250_5
        replace p250 := eq_true p250
        replace q250 := eq_true q250
        have p251 : 0 ≤ (x5_1 : Int) := of_decide_eq_true s8_2
        have q251 : x5_1 < (l1.length : Int) := of_decide_eq_true s8_2
        obtain ⟨ad251, e251, hx251_0, hx251_1, hx251_2, hx251_3, hx251_4, hx251_5⟩ := at_T25 HR1.out x5_1 p251 q251
        have hw251_5 := hx251_5
        have hw251_4 := hx251_4
        have hw251_3 := hx251_3
        have hw251_2 := hx251_2
        have hw251_1 := hx251_1
        have hw251_0 := hx251_0
        cases e251
        replace hx251_0 := (HB.out.cell (World.block_lt_of_cell? w _ hx251_0)).trans hx251_0
        replace hx251_1 := (HB.out.cell (World.block_lt_of_cell? w _ hx251_1)).trans hx251_1
        replace hx251_2 := (HB.out.cell (World.block_lt_of_cell? w _ hx251_2)).trans hx251_2
        replace hx251_3 := (HB.out.cell (World.block_lt_of_cell? w _ hx251_3)).trans hx251_3
        replace hx251_4 := (HB.out.cell (World.block_lt_of_cell? w _ hx251_4)).trans hx251_4
        replace hx251_5 := (HB.out.cell (World.block_lt_of_cell? w _ hx251_5)).trans hx251_5
        replace p251 := eq_true p251
        replace q251 := eq_true q251
        refine start_ (n := 10) (S := fun w' => w'.cell? (ad250.add ((x5_1).toNat * 6)) = some (.int .i64 ((rd_T25 l0 x5_1).f0)) ∧ w'.cell? ⟨(ad250.add ((x5_1).toNat * 6)).block, (ad250.add ((x5_1).toNat * 6)).off + 1, none⟩ = some (.int .i64 ((rd_T25 l0 x5_1).f1)) ∧ w'.cell? ⟨(ad250.add ((x5_1).toNat * 6)).block, (ad250.add ((x5_1).toNat * 6)).off + 2, none⟩ = some (.int .i64 ((rd_T25 l0 x5_1).f2)) ∧ w'.cell? ⟨(ad250.add ((x5_1).toNat * 6)).block, (ad250.add ((x5_1).toNat * 6)).off + 3, none⟩ = some (.int .i64 ((rd_T25 l0 x5_1).f3)) ∧ w'.cell? ⟨(ad250.add ((x5_1).toNat * 6)).block, (ad250.add ((x5_1).toNat * 6)).off + 4, none⟩ = some (.int .i64 ((rd_T25 l0 x5_1).f4)) ∧ w'.cell? ⟨(ad250.add ((x5_1).toNat * 6)).block, (ad250.add ((x5_1).toNat * 6)).off + 5, none⟩ = some (.int .i64 ((rd_T25 l0 x5_1).f5)) ∧ w'.cell? (ad251.add ((x5_1).toNat * 6)) = some (.int .i64 ((rd_T25 l1 x5_1).f0)) ∧ w'.cell? ⟨(ad251.add ((x5_1).toNat * 6)).block, (ad251.add ((x5_1).toNat * 6)).off + 1, none⟩ = some (.int .i64 ((rd_T25 l1 x5_1).f1)) ∧ w'.cell? ⟨(ad251.add ((x5_1).toNat * 6)).block, (ad251.add ((x5_1).toNat * 6)).off + 2, none⟩ = some (.int .i64 ((rd_T25 l1 x5_1).f2)) ∧ w'.cell? ⟨(ad251.add ((x5_1).toNat * 6)).block, (ad251.add ((x5_1).toNat * 6)).off + 3, none⟩ = some (.int .i64 ((rd_T25 l1 x5_1).f3)) ∧ w'.cell? ⟨(ad251.add ((x5_1).toNat * 6)).block, (ad251.add ((x5_1).toNat * 6)).off + 4, none⟩ = some (.int .i64 ((rd_T25 l1 x5_1).f4)) ∧ w'.cell? ⟨(ad251.add ((x5_1).toNat * 6)).block, (ad251.add ((x5_1).toNat * 6)).off + 5, none⟩ = some (.int .i64 ((rd_T25 l1 x5_1).f5))) (ds := []) #[false, false, false, false, false, false, false, false, false, false] (by kernel_rfl) rfl rfl ⟨((HB.out.cell (World.block_lt_of_cell? w _ hw250_0)).trans hw250_0), ((HB.out.cell (World.block_lt_of_cell? w _ hw250_1)).trans hw250_1), ((HB.out.cell (World.block_lt_of_cell? w _ hw250_2)).trans hw250_2), ((HB.out.cell (World.block_lt_of_cell? w _ hw250_3)).trans hw250_3), ((HB.out.cell (World.block_lt_of_cell? w _ hw250_4)).trans hw250_4), ((HB.out.cell (World.block_lt_of_cell? w _ hw250_5)).trans hw250_5), ((HB.out.cell (World.block_lt_of_cell? w _ hw251_0)).trans hw251_0), ((HB.out.cell (World.block_lt_of_cell? w _ hw251_1)).trans hw251_1), ((HB.out.cell (World.block_lt_of_cell? w _ hw251_2)).trans hw251_2), ((HB.out.cell (World.block_lt_of_cell? w _ hw251_3)).trans hw251_3), ((HB.out.cell (World.block_lt_of_cell? w _ hw251_4)).trans hw251_4), ((HB.out.cell (World.block_lt_of_cell? w _ hw251_5)).trans hw251_5)⟩ (fun hHeld => ?_); refine with_tabW laws_eqShipS.tab6 laws_eqShipS.bits6 (fun HT_ HW_ => ?_)
        generalize wr.drew = w1 at HB hx250_0 hx250_1 hx250_2 hx250_3 hx250_4 hx250_5 hx251_0 hx251_1 hx251_2 hx251_3 hx251_4 hx251_5 hHeld ⊢
        refine pure_ (i := 0) (N := some 17) (v := ?_) (a' := ?_) (bz 10 1) rfl rfl (any_of HT_.out (by kernel_rfl)) (fun _ _ _ h => h) (Or.inl ⟨by rfl, ?_⟩) ?_ ?_
        rotate_left
        ·exact t8_1
        rotate_left
        ·exact t8_0
        refine pure_ (i := 1) (N := some 18) (v := ?_) (a' := ?_) (bz 10 3) rfl rfl (any_of HT_.out (by kernel_rfl)) (fun _ _ _ h => h) (Or.inl ⟨by rfl, ?_⟩) ?_ ?_
        rotate_left
        ·exact t8_1
        rotate_left
        ·exact t8_0
        refine pure_ (i := 2) (N := some 19) (v := ?_) (a' := ?_) (bz 10 7) rfl rfl (any_of HT_.out (by kernel_rfl)) (fun _ _ _ h => h) (Or.inl ⟨by rfl, ?_⟩) ?_ ?_
        rotate_left
        ·exact t8_1
        rotate_left
        ·exact t8_0
        refine pure_ (i := 4) (N := some 21) (v := ?_) (a' := ?_) (bz 10 23) rfl rfl (any_of HT_.out (by kernel_rfl)) (fun _ _ _ h => h) (Or.inl ⟨by rfl, ?_⟩) ?_ ?_
        rotate_left
        ·exact t8_1
        rotate_left
        ·exact t8_0
        refine pure_ (i := 5) (N := some 22) (v := ?_) (a' := ?_) (bz 10 55) rfl rfl (any_of HT_.out (by kernel_rfl)) (fun _ _ _ h => h) (Or.inl ⟨by rfl, ?_⟩) ?_ ?_
        rotate_left
        ·exact t8_1
        rotate_left
        ·exact t8_0
        refine pure_ (i := 6) (N := some 23) (v := ?_) (a' := ?_) (bz 10 119) rfl rfl (any_of HT_.out (by kernel_rfl)) (fun _ _ _ h => h) (Or.inl ⟨by rfl, ?_⟩) ?_ ?_
        rotate_left
        ·exact t8_1
        rotate_left
        ·exact t8_0
        refine take_ (i := 3) (N := some 20) (v := ?_) (a' := ?_) (bz 10 127) rfl rfl (take_ofW HT_.out HW_.out (by kernel_rfl)) (fun _ _ _ h => h) (Or.inl ⟨by rfl, ?_⟩) hHeld ?_ ?_
        rotate_left
        ·rintro w' ⟨s0, s1, s2, s3, s4, s5, s6, s7, s8, s9, s10, s11⟩
         go_simp
         with_reducible rfl
        rotate_left
        ·exact t8_0
        refine take_ (i := 7) (N := some 24) (v := ?_) (a' := ?_) (bz 10 255) rfl rfl (take_ofW HT_.out HW_.out (by kernel_rfl)) (fun _ _ _ h => h) (Or.inl ⟨by rfl, ?_⟩) hHeld ?_ ?_
        rotate_left
        ·rintro w' ⟨s0, s1, s2, s3, s4, s5, s6, s7, s8, s9, s10, s11⟩
         go_simp
         with_reducible rfl
        rotate_left
        ·exact t8_0
        refine one_ (i := 8) (N := some 25) (bz 10 511) rfl rfl (one_of HT_.out (by kernel_rfl)) (by decide) (fun K hK => ?_)
        refine goes_ Try.func27 (by kernel_rfl) rfl #[.agg #[.int .i64 ((rd_T25 l0 x5_1).f0), .int .i64 ((rd_T25 l0 x5_1).f1), .int .i64 ((rd_T25 l0 x5_1).f2), .int .i64 ((rd_T25 l0 x5_1).f3), .int .i64 ((rd_T25 l0 x5_1).f4), .int .i64 ((rd_T25 l0 x5_1).f5)], .agg #[.int .i64 ((rd_T25 l1 x5_1).f0), .int .i64 ((rd_T25 l1 x5_1).f1), .int .i64 ((rd_T25 l1 x5_1).f2), .int .i64 ((rd_T25 l1 x5_1).f3), .int .i64 ((rd_T25 l1 x5_1).f4), .int .i64 ((rd_T25 l1 x5_1).f5)]] (by rfl) rfl rfl (by (try simp only [List.map_toArray, List.map_cons, List.map_nil]); first | done | rfl | (simp only [List.length_drop, List.length_take]; rfl)) ?_
        with_reducible refine (laws_eqShip.calls ((rd_T25 l0 x5_1).f0) ((rd_T25 l0 x5_1).f1) ((rd_T25 l0 x5_1).f2) ((rd_T25 l0 x5_1).f3) ((rd_T25 l0 x5_1).f4) ((rd_T25 l0 x5_1).f5) ((rd_T25 l1 x5_1).f0) ((rd_T25 l1 x5_1).f1) ((rd_T25 l1 x5_1).f2) ((rd_T25 l1 x5_1).f3) ((rd_T25 l1 x5_1).f4) ((rd_T25 l1 x5_1).f5) false _ A7.out).mono ?_
        rintro e w2 ⟨rfl, hb⟩
        refine ⟨_, rfl, ?_⟩
        have n0_ := Aside0.mk (below_step s8_1 hb)
        clear HB
        have HB := n0_
        clear n0_
        (try clear hb)
        (try clear hb2)
        (try clear hk)
        (try clear hi)
        refine hK.out _ _ ⟨((HB.out.cell (World.block_lt_of_cell? w _ hw250_0)).trans hw250_0), ((HB.out.cell (World.block_lt_of_cell? w _ hw250_1)).trans hw250_1), ((HB.out.cell (World.block_lt_of_cell? w _ hw250_2)).trans hw250_2), ((HB.out.cell (World.block_lt_of_cell? w _ hw250_3)).trans hw250_3), ((HB.out.cell (World.block_lt_of_cell? w _ hw250_4)).trans hw250_4), ((HB.out.cell (World.block_lt_of_cell? w _ hw250_5)).trans hw250_5), ((HB.out.cell (World.block_lt_of_cell? w _ hw251_0)).trans hw251_0), ((HB.out.cell (World.block_lt_of_cell? w _ hw251_1)).trans hw251_1), ((HB.out.cell (World.block_lt_of_cell? w _ hw251_2)).trans hw251_2), ((HB.out.cell (World.block_lt_of_cell? w _ hw251_3)).trans hw251_3), ((HB.out.cell (World.block_lt_of_cell? w _ hw251_4)).trans hw251_4), ((HB.out.cell (World.block_lt_of_cell? w _ hw251_5)).trans hw251_5)⟩ (fun hHeld => ?_)
        clear hK K
        refine norm_ (a' := ?_) ?_ ?_
        rotate_left
        ·show Act.put _ (some 25) _ = _
         simp only [Act.put, y1, y2, y3, i64_w, i32_w]
         rfl
        refine pure_ (i := 9) (N := some 26) (v := ?_) (a' := ?_) (bz 10 1023) rfl rfl (any_of HT_.out (by kernel_rfl)) (fun _ _ _ h => h) (Or.inl ⟨by rfl, ?_⟩) ?_ ?_
        rotate_left
        ·exact t8_1
        rotate_left
        ·exact t8_0
        refine done_ (done_of HT_.out (by kernel_rfl)) ?_
        try go_wp2
        go_ret
        exact ⟨by first | rfl | (simp [errW_none, errW_some] <;> rfl) | (simp [*, errW_none, errW_some] <;> rfl), by repeat (first | (with_reducible first | exact HB.out | apply below_alloc | apply pw_below_drewN | apply below_drew1) | exact HB.out)⟩
      ·rw [if_neg c6] at H
       exact absurd H (by simp)
     ·rw [if_neg c5] at H
      exact absurd H (by simp)
    ·rw [if_neg c4] at H
     have c4b0 : decide (x5_1 < (l0.length : Int)) = false := decide_eq_false c4
     clear c4
     obtain rfl := Option.some.inj H
     go_wp2
     go_ret
     exact ⟨by first | rfl | (simp [errW_none, errW_some] <;> rfl) | (simp [*, errW_none, errW_some] <;> rfl), by repeat (first | (with_reducible first | exact HB.out | apply below_alloc | apply pw_below_drewN | apply below_drew1) | exact HB.out)⟩
 ·rw [if_neg c3] at H
  have c3b0 : ((l0.length : Int) == (l1.length : Int)) = false := beq_eq_false_iff_ne.mpr c3
  have c3b1 : ((l0.length : Int) != (l1.length : Int)) = true := bne_iff_ne.mpr c3
  have c3b2 : (l0.length == l1.length) = false := by first | simpa using c3 | (simp at c3 ⊢; omega)
  obtain rfl := Option.some.inj H
  go_enter Try.func51, Try.ntmps51
  go_wp2
  go_ret
  exact ⟨by first | rfl | (simp [errW_none, errW_some] <;> rfl) | (simp [*, errW_none, errW_some] <;> rfl), by repeat (first | (with_reducible first | exact HB.out | apply below_alloc | apply pw_below_drewN | apply below_drew1) | exact HB.out)⟩

/-! ### laws_markShipS: function 52 -/
def laws_markShipS.l0 : Nat → List (S25) → Int → Int → Option (Int × (List (S25)))
 | 0, _, _, _ => none
 | k + 1, x0, x1, x5 => if x5 < (x0.length : Int) then (if 0 ≤ x5 then ((some (x0.set (x5 : Int).toNat (⟨x1, (rd_T25 x0 x5).f1, (rd_T25 x0 x5).f2, (rd_T25 x0 x5).f3, (rd_T25 x0 x5).f4, (rd_T25 x0 x5).f5⟩ : S25) : List (S25))).bind fun y253 => ((some (y253.set (x5 : Int).toNat (⟨(rd_T25 y253 x5).f0, wrap64 (x1 + 1), (rd_T25 y253 x5).f2, (rd_T25 y253 x5).f3, (rd_T25 y253 x5).f4, (rd_T25 y253 x5).f5⟩ : S25) : List (S25))).bind fun y254 => ((some (y254.set (x5 : Int).toNat (⟨(rd_T25 y254 x5).f0, (rd_T25 y254 x5).f1, wrap64 ((wrap64 (x1 + 1)) + 1), (rd_T25 y254 x5).f3, (rd_T25 y254 x5).f4, (rd_T25 y254 x5).f5⟩ : S25) : List (S25))).bind fun y255 => ((some (y255.set (x5 : Int).toNat (⟨(rd_T25 y255 x5).f0, (rd_T25 y255 x5).f1, (rd_T25 y255 x5).f2, wrap64 ((wrap64 ((wrap64 (x1 + 1)) + 1)) + 1), (rd_T25 y255 x5).f4, (rd_T25 y255 x5).f5⟩ : S25) : List (S25))).bind fun y256 => ((some (y256.set (x5 : Int).toNat (⟨(rd_T25 y256 x5).f0, (rd_T25 y256 x5).f1, (rd_T25 y256 x5).f2, (rd_T25 y256 x5).f3, wrap64 ((wrap64 ((wrap64 ((wrap64 (x1 + 1)) + 1)) + 1)) + 1), (rd_T25 y256 x5).f5⟩ : S25) : List (S25))).bind fun y257 => (laws_markShipS.l0 k (y257.set (x5 : Int).toNat (⟨(rd_T25 y257 x5).f0, (rd_T25 y257 x5).f1, (rd_T25 y257 x5).f2, (rd_T25 y257 x5).f3, (rd_T25 y257 x5).f4, wrap64 ((wrap64 ((wrap64 ((wrap64 ((wrap64 (x1 + 1)) + 1)) + 1)) + 1)) + 1)⟩ : S25)) (wrap64 ((wrap64 ((wrap64 ((wrap64 ((wrap64 ((wrap64 (x1 + 1)) + 1)) + 1)) + 1)) + 1)) + 1)) (wrap64 (x5 + 1)))))))) else (none)) else (some (x1, x0))
def laws_markShipS.f (k : Nat) (l0 : List (S25)) (a1 : Int) : Option (Int × (List (S25))) := laws_markShipS.l0 k l0 a1 0
theorem laws_markShipS.mono_l : ∀ k, (∀ y0 y1 y2, LeO (laws_markShipS.l0 k y0 y1 y2) (laws_markShipS.l0 (k + 1) y0 y1 y2))
 | 0 => fun _ _ _ r h => by simp [laws_markShipS.l0] at h
 | k + 1 => by
  have ih0 := laws_markShipS.mono_l k
  ·intro y0 y1 y2
   unfold laws_markShipS.l0
   repeat' first
   | (with_reducible exact ih0 _ _ _)
   | (with_reducible exact LeO.refl _)
   | (with_reducible exact LeO.none _)
   | (with_reducible refine LeO.ite ?_ ?_)
   | (with_reducible refine LeO.bind ?_ (fun _ => ?_))
   | exact ih0 _ _ _
   | exact LeO.none _
   | refine LeO.ite ?_ ?_
   | refine LeO.bind ?_ (fun _ => ?_)
theorem laws_markShipS.mono : ∀ a0 a1 k, LeO (laws_markShipS.f k a0 a1) (laws_markShipS.f (k + 1) a0 a1) := by
 intro a0 a1 k
 have ih0 := laws_markShipS.mono_l k
 unfold laws_markShipS.f
 repeat' first
   | (with_reducible exact ih0 _ _ _)
   | (with_reducible exact LeO.refl _)
   | (with_reducible exact LeO.none _)
   | (with_reducible refine LeO.ite ?_ ?_)
   | (with_reducible refine LeO.bind ?_ (fun _ => ?_))
   | exact ih0 _ _ _
   | exact LeO.none _
   | refine LeO.ite ?_ ?_
   | refine LeO.bind ?_ (fun _ => ?_)
set_option maxHeartbeats 8000000 in
set_option maxRecDepth 100000 in
theorem laws_markShipS.calls (k : Nat) (P0_ : Nat → Prop) (u9000_ : Value) (l0 : List (S25)) (a1 : Int) (r1 : Int) (r2 : List (S25)) (w1 w : World) (hB : Below w1.heap.size w1 w) (ho0 : Kd.R k25 25 w w1.heap.size P0_ u9000_ l0) (h : laws_markShipS.f k l0 a1 = some (r1, r2)) :
  Calls Try.prog 52 #[u9000_, .int .i64 a1] w fun e w' => e = .returned (.int .i64 r1) ∧ Kd.R k25 25 w' w1.heap.size (fun k_ => (P0_ k_ ∨ w.heap.size ≤ k_)) u9000_ r2 ∧ Below w1.heap.size w1 w' ∧ Kept w w' (fun k_ => P0_ k_) := by
 have HO0 := Aside0.mk (show Kd.R k25 25 w w1.heap.size (fun k_ => (P0_ k_ ∨ w.heap.size ≤ k_)) u9000_ l0 from Kd.R_mono ho0 (fun k_ hk => (.inl hk)))
 have HK := Aside0.mk (Kept.refl w (fun k_ => P0_ k_))
 have HW0 := Aside0.mk hB.size
 have HB := Aside0.mk hB
 clear hB
 have H : (laws_markShipS.l0 k l0 a1 0) = some (r1, r2) := h
 clear h
 have H' := Aside0.mk H
 clear H
 go_enter Try.func52, Try.ntmps52
 go_wp2
 go_loopg [1, 5] k (fun kq v1 v5 w' => ∃ (x0_1 : List (S25)) (x1_1 : Int) (x5_1 : Int), v1 = .int .i64 x1_1 ∧ v5 = .int .i64 x5_1 ∧ Aside0 (laws_markShipS.l0 kq x0_1 x1_1 x5_1 = some (r1, r2)) ∧ Aside0 (kq ≤ k) ∧ Aside0 (Kd.R k25 25 w' w1.heap.size (fun k_ => (P0_ k_ ∨ w.heap.size ≤ k_)) u9000_ x0_1) ∧ Aside0 (Kept w w' (fun k_ => P0_ k_)) ∧ Aside0 (Below w1.heap.size w1 w'))
 case atStart => exact ⟨(l0), (a1), (0), (by first | rfl | (simp; done) | (simp [*]; done)), (by first | rfl | (simp; done) | (simp [*]; done)), H', ⟨Nat.le_refl _⟩, ⟨by (with_reducible repeat (first | apply Kd.R_alloc | apply Kd.R_drewN | apply Kd.R_drew)); exact HO0.out⟩, ⟨by repeat (first | (with_reducible first | exact HK.out | apply Kept.alloc | apply Kept.drewN | apply Kept.drew) | exact HK.out)⟩, ⟨by repeat (first | (with_reducible first | exact HB.out | apply below_alloc | apply pw_below_drewN | apply below_drew1) | exact HB.out)⟩⟩
 case round =>
  clear H'
  (try clear p2)
  obtain ⟨x0_1, x1_1, x5_1, rfl, rfl, HA, HK1, HO_0, HK, HB⟩ := hrel
  cases gk with
  | zero => exact absurd HA.out (by simp [laws_markShipS.l0])
  | succ k1 =>
   have H := HA.out
   clear HA
   simp only [laws_markShipS.l0] at H
   by_cases c3 : x5_1 < (x0_1.length : Int)
   ·rw [if_pos c3] at H
    have c3b0 : decide (x5_1 < (x0_1.length : Int)) = true := decide_eq_true c3
    clear c3
    by_cases c4 : 0 ≤ x5_1
    ·rw [if_pos c4] at H
     have c4b0 : decide (0 ≤ x5_1) = true := decide_eq_true c4
     clear c4
     obtain ⟨y253, hy253⟩ : ∃ y_ : List (S25), y_ = (x0_1.set (x5_1 : Int).toNat (⟨x1_1, (rd_T25 x0_1 x5_1).f1, (rd_T25 x0_1 x5_1).f2, (rd_T25 x0_1 x5_1).f3, (rd_T25 x0_1 x5_1).f4, (rd_T25 x0_1 x5_1).f5⟩ : S25)) := ⟨_, rfl⟩
     replace H : ((some (y253.set (x5_1 : Int).toNat (⟨(rd_T25 y253 x5_1).f0, wrap64 (x1_1 + 1), (rd_T25 y253 x5_1).f2, (rd_T25 y253 x5_1).f3, (rd_T25 y253 x5_1).f4, (rd_T25 y253 x5_1).f5⟩ : S25) : List (S25))).bind fun y254 => ((some (y254.set (x5_1 : Int).toNat (⟨(rd_T25 y254 x5_1).f0, (rd_T25 y254 x5_1).f1, wrap64 ((wrap64 (x1_1 + 1)) + 1), (rd_T25 y254 x5_1).f3, (rd_T25 y254 x5_1).f4, (rd_T25 y254 x5_1).f5⟩ : S25) : List (S25))).bind fun y255 => ((some (y255.set (x5_1 : Int).toNat (⟨(rd_T25 y255 x5_1).f0, (rd_T25 y255 x5_1).f1, (rd_T25 y255 x5_1).f2, wrap64 ((wrap64 ((wrap64 (x1_1 + 1)) + 1)) + 1), (rd_T25 y255 x5_1).f4, (rd_T25 y255 x5_1).f5⟩ : S25) : List (S25))).bind fun y256 => ((some (y256.set (x5_1 : Int).toNat (⟨(rd_T25 y256 x5_1).f0, (rd_T25 y256 x5_1).f1, (rd_T25 y256 x5_1).f2, (rd_T25 y256 x5_1).f3, wrap64 ((wrap64 ((wrap64 ((wrap64 (x1_1 + 1)) + 1)) + 1)) + 1), (rd_T25 y256 x5_1).f5⟩ : S25) : List (S25))).bind fun y257 => (laws_markShipS.l0 k1 (y257.set (x5_1 : Int).toNat (⟨(rd_T25 y257 x5_1).f0, (rd_T25 y257 x5_1).f1, (rd_T25 y257 x5_1).f2, (rd_T25 y257 x5_1).f3, (rd_T25 y257 x5_1).f4, wrap64 ((wrap64 ((wrap64 ((wrap64 ((wrap64 (x1_1 + 1)) + 1)) + 1)) + 1)) + 1)⟩ : S25)) (wrap64 ((wrap64 ((wrap64 ((wrap64 ((wrap64 ((wrap64 (x1_1 + 1)) + 1)) + 1)) + 1)) + 1)) + 1)) (wrap64 (x5_1 + 1))))))) = some (r1, r2) := by first | (rw [hy253]; with_reducible exact H) | (have H2_ := (Option.bind_some _ _).symm.trans H; rw [hy253]; with_reducible exact H2_) | (have H2_ := (Option.bind_some _ _).symm.trans H; with_reducible exact H2_) | with_reducible exact H | (rw [hy253]; exact H) | exact H
     have Ny253 := Aside0.mk hy253
     clear hy253
     obtain ⟨y254, hy254⟩ : ∃ y_ : List (S25), y_ = (y253.set (x5_1 : Int).toNat (⟨(rd_T25 y253 x5_1).f0, wrap64 (x1_1 + 1), (rd_T25 y253 x5_1).f2, (rd_T25 y253 x5_1).f3, (rd_T25 y253 x5_1).f4, (rd_T25 y253 x5_1).f5⟩ : S25)) := ⟨_, rfl⟩
     replace H : ((some (y254.set (x5_1 : Int).toNat (⟨(rd_T25 y254 x5_1).f0, (rd_T25 y254 x5_1).f1, wrap64 ((wrap64 (x1_1 + 1)) + 1), (rd_T25 y254 x5_1).f3, (rd_T25 y254 x5_1).f4, (rd_T25 y254 x5_1).f5⟩ : S25) : List (S25))).bind fun y255 => ((some (y255.set (x5_1 : Int).toNat (⟨(rd_T25 y255 x5_1).f0, (rd_T25 y255 x5_1).f1, (rd_T25 y255 x5_1).f2, wrap64 ((wrap64 ((wrap64 (x1_1 + 1)) + 1)) + 1), (rd_T25 y255 x5_1).f4, (rd_T25 y255 x5_1).f5⟩ : S25) : List (S25))).bind fun y256 => ((some (y256.set (x5_1 : Int).toNat (⟨(rd_T25 y256 x5_1).f0, (rd_T25 y256 x5_1).f1, (rd_T25 y256 x5_1).f2, (rd_T25 y256 x5_1).f3, wrap64 ((wrap64 ((wrap64 ((wrap64 (x1_1 + 1)) + 1)) + 1)) + 1), (rd_T25 y256 x5_1).f5⟩ : S25) : List (S25))).bind fun y257 => (laws_markShipS.l0 k1 (y257.set (x5_1 : Int).toNat (⟨(rd_T25 y257 x5_1).f0, (rd_T25 y257 x5_1).f1, (rd_T25 y257 x5_1).f2, (rd_T25 y257 x5_1).f3, (rd_T25 y257 x5_1).f4, wrap64 ((wrap64 ((wrap64 ((wrap64 ((wrap64 (x1_1 + 1)) + 1)) + 1)) + 1)) + 1)⟩ : S25)) (wrap64 ((wrap64 ((wrap64 ((wrap64 ((wrap64 ((wrap64 (x1_1 + 1)) + 1)) + 1)) + 1)) + 1)) + 1)) (wrap64 (x5_1 + 1)))))) = some (r1, r2) := by first | (rw [hy254]; with_reducible exact H) | (have H2_ := (Option.bind_some _ _).symm.trans H; rw [hy254]; with_reducible exact H2_) | (have H2_ := (Option.bind_some _ _).symm.trans H; with_reducible exact H2_) | with_reducible exact H | (rw [hy254]; exact H) | exact H
     have Ny254 := Aside0.mk hy254
     clear hy254
     obtain ⟨y255, hy255⟩ : ∃ y_ : List (S25), y_ = (y254.set (x5_1 : Int).toNat (⟨(rd_T25 y254 x5_1).f0, (rd_T25 y254 x5_1).f1, wrap64 ((wrap64 (x1_1 + 1)) + 1), (rd_T25 y254 x5_1).f3, (rd_T25 y254 x5_1).f4, (rd_T25 y254 x5_1).f5⟩ : S25)) := ⟨_, rfl⟩
     replace H : ((some (y255.set (x5_1 : Int).toNat (⟨(rd_T25 y255 x5_1).f0, (rd_T25 y255 x5_1).f1, (rd_T25 y255 x5_1).f2, wrap64 ((wrap64 ((wrap64 (x1_1 + 1)) + 1)) + 1), (rd_T25 y255 x5_1).f4, (rd_T25 y255 x5_1).f5⟩ : S25) : List (S25))).bind fun y256 => ((some (y256.set (x5_1 : Int).toNat (⟨(rd_T25 y256 x5_1).f0, (rd_T25 y256 x5_1).f1, (rd_T25 y256 x5_1).f2, (rd_T25 y256 x5_1).f3, wrap64 ((wrap64 ((wrap64 ((wrap64 (x1_1 + 1)) + 1)) + 1)) + 1), (rd_T25 y256 x5_1).f5⟩ : S25) : List (S25))).bind fun y257 => (laws_markShipS.l0 k1 (y257.set (x5_1 : Int).toNat (⟨(rd_T25 y257 x5_1).f0, (rd_T25 y257 x5_1).f1, (rd_T25 y257 x5_1).f2, (rd_T25 y257 x5_1).f3, (rd_T25 y257 x5_1).f4, wrap64 ((wrap64 ((wrap64 ((wrap64 ((wrap64 (x1_1 + 1)) + 1)) + 1)) + 1)) + 1)⟩ : S25)) (wrap64 ((wrap64 ((wrap64 ((wrap64 ((wrap64 ((wrap64 (x1_1 + 1)) + 1)) + 1)) + 1)) + 1)) + 1)) (wrap64 (x5_1 + 1))))) = some (r1, r2) := by first | (rw [hy255]; with_reducible exact H) | (have H2_ := (Option.bind_some _ _).symm.trans H; rw [hy255]; with_reducible exact H2_) | (have H2_ := (Option.bind_some _ _).symm.trans H; with_reducible exact H2_) | with_reducible exact H | (rw [hy255]; exact H) | exact H
     have Ny255 := Aside0.mk hy255
     clear hy255
     obtain ⟨y256, hy256⟩ : ∃ y_ : List (S25), y_ = (y255.set (x5_1 : Int).toNat (⟨(rd_T25 y255 x5_1).f0, (rd_T25 y255 x5_1).f1, (rd_T25 y255 x5_1).f2, wrap64 ((wrap64 ((wrap64 (x1_1 + 1)) + 1)) + 1), (rd_T25 y255 x5_1).f4, (rd_T25 y255 x5_1).f5⟩ : S25)) := ⟨_, rfl⟩
     replace H : ((some (y256.set (x5_1 : Int).toNat (⟨(rd_T25 y256 x5_1).f0, (rd_T25 y256 x5_1).f1, (rd_T25 y256 x5_1).f2, (rd_T25 y256 x5_1).f3, wrap64 ((wrap64 ((wrap64 ((wrap64 (x1_1 + 1)) + 1)) + 1)) + 1), (rd_T25 y256 x5_1).f5⟩ : S25) : List (S25))).bind fun y257 => (laws_markShipS.l0 k1 (y257.set (x5_1 : Int).toNat (⟨(rd_T25 y257 x5_1).f0, (rd_T25 y257 x5_1).f1, (rd_T25 y257 x5_1).f2, (rd_T25 y257 x5_1).f3, (rd_T25 y257 x5_1).f4, wrap64 ((wrap64 ((wrap64 ((wrap64 ((wrap64 (x1_1 + 1)) + 1)) + 1)) + 1)) + 1)⟩ : S25)) (wrap64 ((wrap64 ((wrap64 ((wrap64 ((wrap64 ((wrap64 (x1_1 + 1)) + 1)) + 1)) + 1)) + 1)) + 1)) (wrap64 (x5_1 + 1)))) = some (r1, r2) := by first | (rw [hy256]; with_reducible exact H) | (have H2_ := (Option.bind_some _ _).symm.trans H; rw [hy256]; with_reducible exact H2_) | (have H2_ := (Option.bind_some _ _).symm.trans H; with_reducible exact H2_) | with_reducible exact H | (rw [hy256]; exact H) | exact H
     have Ny256 := Aside0.mk hy256
     clear hy256
     obtain ⟨y257, hy257⟩ : ∃ y_ : List (S25), y_ = (y256.set (x5_1 : Int).toNat (⟨(rd_T25 y256 x5_1).f0, (rd_T25 y256 x5_1).f1, (rd_T25 y256 x5_1).f2, (rd_T25 y256 x5_1).f3, wrap64 ((wrap64 ((wrap64 ((wrap64 (x1_1 + 1)) + 1)) + 1)) + 1), (rd_T25 y256 x5_1).f5⟩ : S25)) := ⟨_, rfl⟩
     replace H : (laws_markShipS.l0 k1 (y257.set (x5_1 : Int).toNat (⟨(rd_T25 y257 x5_1).f0, (rd_T25 y257 x5_1).f1, (rd_T25 y257 x5_1).f2, (rd_T25 y257 x5_1).f3, (rd_T25 y257 x5_1).f4, wrap64 ((wrap64 ((wrap64 ((wrap64 ((wrap64 (x1_1 + 1)) + 1)) + 1)) + 1)) + 1)⟩ : S25)) (wrap64 ((wrap64 ((wrap64 ((wrap64 ((wrap64 ((wrap64 (x1_1 + 1)) + 1)) + 1)) + 1)) + 1)) + 1)) (wrap64 (x5_1 + 1))) = some (r1, r2) := by first | (rw [hy257]; with_reducible exact H) | (have H2_ := (Option.bind_some _ _).symm.trans H; rw [hy257]; with_reducible exact H2_) | (have H2_ := (Option.bind_some _ _).symm.trans H; with_reducible exact H2_) | with_reducible exact H | (rw [hy257]; exact H) | exact H
     have Ny257 := Aside0.mk hy257
     clear hy257
     obtain ⟨y258, hy258⟩ : ∃ y_ : List (S25), y_ = (y257.set (x5_1 : Int).toNat (⟨(rd_T25 y257 x5_1).f0, (rd_T25 y257 x5_1).f1, (rd_T25 y257 x5_1).f2, (rd_T25 y257 x5_1).f3, (rd_T25 y257 x5_1).f4, wrap64 ((wrap64 ((wrap64 ((wrap64 ((wrap64 (x1_1 + 1)) + 1)) + 1)) + 1)) + 1)⟩ : S25)) := ⟨_, rfl⟩
     replace H : (laws_markShipS.l0 k1 y258 (wrap64 ((wrap64 ((wrap64 ((wrap64 ((wrap64 ((wrap64 (x1_1 + 1)) + 1)) + 1)) + 1)) + 1)) + 1)) (wrap64 (x5_1 + 1))) = some (r1, r2) := by first | (rw [hy258]; with_reducible exact H) | (have H2_ := (Option.bind_some _ _).symm.trans H; rw [hy258]; with_reducible exact H2_) | (have H2_ := (Option.bind_some _ _).symm.trans H; with_reducible exact H2_) | with_reducible exact H | (rw [hy258]; exact H) | exact H
     have Ny258 := Aside0.mk hy258
     clear hy258
     have H' := Aside0.mk H
     clear H
     obtain ⟨Ao11, co11, eo11⟩ := Kd.R_slice HO_0.out
     subst eo11
     have p5 : 0 ≤ (x5_1 : Int) := of_decide_eq_true s8_2
     have q5 : (x5_1 : Int) < ((x0_1.length : Int) : Int) := of_decide_eq_true s8_2
     obtain ⟨go5, co5, eo5, gb5, gl5, cl5, HG5⟩ := Kd.R_form HO_0.out (by omega)
     (first | cases eo5 | (injection eo5 with ea_ en_ ec_; (first | subst ea_ | (injection ea_ with ea_; subst ea_)); subst ec_; clear en_))
     have GB5 := Aside0.mk gb5
     have GG5 := Aside0.mk HG5
     clear gb5 gl5 HG5
     have HMgo5 := Aside0.mk (show (P0_ go5 ∨ w.heap.size ≤ go5) from (HO_0.out.1 _ rfl))
     obtain ⟨ce5, hcl5, hM5, hcc5, hfr5⟩ := Kd.R_elem HO_0.out z25 (x5_1 : Int) p5 q5
     obtain rfl := k25_openM hM5
     have hx5_0 : wr.cell? ⟨go5, (x5_1 : Int).toNat * 6, none⟩ = some (.int .i64 ((rd_T25 x0_1 x5_1).f0)) := hcc5 0 _ rfl
     have hx5_1 : wr.cell? ⟨go5, (x5_1 : Int).toNat * 6 + 1, none⟩ = some (.int .i64 ((rd_T25 x0_1 x5_1).f1)) := hcc5 1 _ rfl
     have hx5_2 : wr.cell? ⟨go5, (x5_1 : Int).toNat * 6 + 2, none⟩ = some (.int .i64 ((rd_T25 x0_1 x5_1).f2)) := hcc5 2 _ rfl
     have hx5_3 : wr.cell? ⟨go5, (x5_1 : Int).toNat * 6 + 3, none⟩ = some (.int .i64 ((rd_T25 x0_1 x5_1).f3)) := hcc5 3 _ rfl
     have hx5_4 : wr.cell? ⟨go5, (x5_1 : Int).toNat * 6 + 4, none⟩ = some (.int .i64 ((rd_T25 x0_1 x5_1).f4)) := hcc5 4 _ rfl
     have hx5_5 : wr.cell? ⟨go5, (x5_1 : Int).toNat * 6 + 5, none⟩ = some (.int .i64 ((rd_T25 x0_1 x5_1).f5)) := hcc5 5 _ rfl
     have hf5_0 : wr.frozen? ⟨go5, (x5_1 : Int).toNat * 6, none⟩ = false := hfr5 0
     have hf5_1 : wr.frozen? ⟨go5, (x5_1 : Int).toNat * 6 + 1, none⟩ = false := hfr5 1
     have hf5_2 : wr.frozen? ⟨go5, (x5_1 : Int).toNat * 6 + 2, none⟩ = false := hfr5 2
     have hf5_3 : wr.frozen? ⟨go5, (x5_1 : Int).toNat * 6 + 3, none⟩ = false := hfr5 3
     have hf5_4 : wr.frozen? ⟨go5, (x5_1 : Int).toNat * 6 + 4, none⟩ = false := hfr5 4
     have hf5_5 : wr.frozen? ⟨go5, (x5_1 : Int).toNat * 6 + 5, none⟩ = false := hfr5 5
     clear hcl5 hcc5 hfr5 hM5
     replace p5 := eq_true p5
     replace q5 := eq_true q5
     have HX12 := Aside0.mk (show Kd.R k25 25 wr w1.heap.size (fun k_ => (P0_ k_ ∨ w.heap.size ≤ k_)) (.slice (some ⟨go5, 0, none⟩) x0_1.length co11) x0_1 from s8_4)
     obtain ⟨ce12, hcl12, hM12, hcc12, hfr12⟩ := Kd.R_elem HX12.out z25 (x5_1 : Int) (of_decide_eq_true s8_2) (by have h_ : (x5_1 : Int) < ((x0_1.length : Int) : Int) := of_decide_eq_true s8_2; first | exact h_ | (have e_ := (Kd.R_reads' HO_0.out).1; omega) | simpa using h_)
     obtain rfl := k25_openM hM12
     have HP12 := Kd.R_seg HX12.out (x5_1 : Int) (of_decide_eq_true s8_2) (by have h_ : (x5_1 : Int) < ((x0_1.length : Int) : Int) := of_decide_eq_true s8_2; first | exact h_ | (have e_ := (Kd.R_reads' HO_0.out).1; omega) | simpa using h_) (seg := [.int .i64 x1_1]) (j := 0) hcl12 hcc12 (show 1 ≤ 6 from by decide) (x' := (⟨x1_1, (rd_T25 x0_1 x5_1).f1, (rd_T25 x0_1 x5_1).f2, (rd_T25 x0_1 x5_1).f3, (rd_T25 x0_1 x5_1).f4, (rd_T25 x0_1 x5_1).f5⟩ : S25)) (k25_mkM _ _ _ (⟨x1_1, (rd_T25 x0_1 x5_1).f1, (rd_T25 x0_1 x5_1).f2, (rd_T25 x0_1 x5_1).f3, (rd_T25 x0_1 x5_1).f4, (rd_T25 x0_1 x5_1).f5⟩ : S25) ) (fun _ hk => hk)
     have hx12_0 := hcc12 0 _ rfl
     (try simp only [show (k25).sz = 6 from rfl, Nat.mul_one, Nat.add_zero] at hx12_0)
     have hf12_0 := hfr12 0
     (try simp only [show (k25).sz = 6 from rfl, Nat.mul_one, Nat.add_zero] at hf12_0)
     clear hcl12 hcc12 hfr12 hM12
     go_wp2_with (first | ((with_reducible refine gate_store (t := 3) (p := 16) rfl ?_); refine store_event (t := 3) (p := 16) (v := ?vo_w13) (w1 := (wr.setCell ⟨go5, (x5_1 : Int).toNat * 6, none⟩ (.int .i64 x1_1))) ?hg ?ho ?hn ?hr ?_; (case ho => rfl); (case hg => rfl); (case hn => rfl); (case hr => first | (go_simp; done) | (go_simp; rfl)); intro w2 hw; have hg : wr.grownBy w2 (some go5) := (by rw [hw]; exact HP12.2); have hp_ : Kd.R k25 25 w2 w1.heap.size (fun k_ => (P0_ k_ ∨ w.heap.size ≤ k_)) (.slice (some ⟨go5, 0, none⟩) x0_1.length co11) y253 := (by rw [hw, Ny253.out]; exact HP12.1); clear HP12; have n0_ := Aside0.mk (hp_); have n1_ := Aside0.mk ((by rw [hw]; exact below_set (HB.out) GB5.out : Below w1.heap.size w1 w2)); have n2_ := Aside0.mk (Kept.of_grown (S := (fun k_ => P0_ k_)) hg s8_3 (fun k_ e_ => (HO_0.out.1 k_ e_))); clear HO_0; clear HB; clear HK; have HO_0 := n0_; have HB := n1_; have HK := n2_; clear n0_ n1_ n2_; clear hg hw hp_; have p6 : 0 ≤ (x5_1 : Int) := of_decide_eq_true s8_2; have q6 : (x5_1 : Int) < ((x0_1.length : Int) : Int) := of_decide_eq_true s8_2; obtain ⟨ce6, hcl6, hM6, hcc6, hfr6⟩ := Kd.R_elem HO_0.out z25 (x5_1 : Int) p6 q6; obtain rfl := k25_openM hM6; have hx6_0 : w2.cell? ⟨go5, (x5_1 : Int).toNat * 6, none⟩ = some (.int .i64 ((rd_T25 y253 x5_1).f0)) := hcc6 0 _ rfl; have hx6_1 : w2.cell? ⟨go5, (x5_1 : Int).toNat * 6 + 1, none⟩ = some (.int .i64 ((rd_T25 y253 x5_1).f1)) := hcc6 1 _ rfl; have hx6_2 : w2.cell? ⟨go5, (x5_1 : Int).toNat * 6 + 2, none⟩ = some (.int .i64 ((rd_T25 y253 x5_1).f2)) := hcc6 2 _ rfl; have hx6_3 : w2.cell? ⟨go5, (x5_1 : Int).toNat * 6 + 3, none⟩ = some (.int .i64 ((rd_T25 y253 x5_1).f3)) := hcc6 3 _ rfl; have hx6_4 : w2.cell? ⟨go5, (x5_1 : Int).toNat * 6 + 4, none⟩ = some (.int .i64 ((rd_T25 y253 x5_1).f4)) := hcc6 4 _ rfl; have hx6_5 : w2.cell? ⟨go5, (x5_1 : Int).toNat * 6 + 5, none⟩ = some (.int .i64 ((rd_T25 y253 x5_1).f5)) := hcc6 5 _ rfl; have hf6_0 : w2.frozen? ⟨go5, (x5_1 : Int).toNat * 6, none⟩ = false := hfr6 0; have hf6_1 : w2.frozen? ⟨go5, (x5_1 : Int).toNat * 6 + 1, none⟩ = false := hfr6 1; have hf6_2 : w2.frozen? ⟨go5, (x5_1 : Int).toNat * 6 + 2, none⟩ = false := hfr6 2; have hf6_3 : w2.frozen? ⟨go5, (x5_1 : Int).toNat * 6 + 3, none⟩ = false := hfr6 3; have hf6_4 : w2.frozen? ⟨go5, (x5_1 : Int).toNat * 6 + 4, none⟩ = false := hfr6 4; have hf6_5 : w2.frozen? ⟨go5, (x5_1 : Int).toNat * 6 + 5, none⟩ = false := hfr6 5; (try clear hcl6); (try clear hcc6); (try clear hfr6); (try clear hM6); replace p6 := eq_true p6; replace q6 := eq_true q6; have HX14 := Aside0.mk (show Kd.R k25 25 w2 w1.heap.size (fun k_ => (P0_ k_ ∨ w.heap.size ≤ k_)) (.slice (some ⟨go5, 0, none⟩) x0_1.length co11) y253 from s8_4); obtain ⟨ce14, hcl14, hM14, hcc14, hfr14⟩ := Kd.R_elem HX14.out z25 (x5_1 : Int) (of_decide_eq_true s8_2) (by have h_ : (x5_1 : Int) < ((x0_1.length : Int) : Int) := of_decide_eq_true s8_2; first | exact h_ | (have e_ := (Kd.R_reads' HO_0.out).1; omega) | simpa using h_); obtain rfl := k25_openM hM14; have HP14 := Kd.R_seg HX14.out (x5_1 : Int) (of_decide_eq_true s8_2) (by have h_ : (x5_1 : Int) < ((x0_1.length : Int) : Int) := of_decide_eq_true s8_2; first | exact h_ | (have e_ := (Kd.R_reads' HO_0.out).1; omega) | simpa using h_) (seg := [.int .i64 (wrap64 (x1_1 + 1))]) (j := 1) hcl14 hcc14 (show 2 ≤ 6 from by decide) (x' := (⟨(rd_T25 y253 x5_1).f0, wrap64 (x1_1 + 1), (rd_T25 y253 x5_1).f2, (rd_T25 y253 x5_1).f3, (rd_T25 y253 x5_1).f4, (rd_T25 y253 x5_1).f5⟩ : S25)) (k25_mkM _ _ _ (⟨(rd_T25 y253 x5_1).f0, wrap64 (x1_1 + 1), (rd_T25 y253 x5_1).f2, (rd_T25 y253 x5_1).f3, (rd_T25 y253 x5_1).f4, (rd_T25 y253 x5_1).f5⟩ : S25) ) (fun _ hk => hk); have hx14_1 := hcc14 1 _ rfl; (try simp only [show (k25).sz = 6 from rfl, Nat.mul_one, Nat.add_zero] at hx14_1); have hf14_1 := hfr14 1; (try simp only [show (k25).sz = 6 from rfl, Nat.mul_one, Nat.add_zero] at hf14_1); clear hcl14 hcc14 hfr14 hM14) | ((with_reducible refine gate_store (t := 3) (p := 23) rfl ?_); refine store_event (t := 3) (p := 23) (v := ?vo_w15) (w1 := (w2.setCell ⟨go5, (x5_1 : Int).toNat * 6 + 1, none⟩ (.int .i64 (wrap64 (x1_1 + 1))))) ?hg ?ho ?hn ?hr ?_; (case ho => rfl); (case hg => rfl); (case hn => rfl); (case hr => first | (go_simp; done) | (go_simp; rfl)); intro w3 hw; have hg : w2.grownBy w3 (some go5) := (by rw [hw]; exact HP14.2); have hp_ : Kd.R k25 25 w3 w1.heap.size (fun k_ => (P0_ k_ ∨ w.heap.size ≤ k_)) (.slice (some ⟨go5, 0, none⟩) x0_1.length co11) y254 := (by rw [hw, Ny254.out]; exact HP14.1); clear HP14; have n0_ := Aside0.mk (hp_); have n1_ := Aside0.mk ((by rw [hw]; exact below_set (HB.out) GB5.out : Below w1.heap.size w1 w3)); have n2_ := Aside0.mk (Kept.of_grown (S := (fun k_ => P0_ k_)) hg s8_3 (fun k_ e_ => (HO_0.out.1 k_ e_))); clear HO_0; clear HB; clear HK; have HO_0 := n0_; have HB := n1_; have HK := n2_; clear n0_ n1_ n2_; clear hg hw hp_; have p7 : 0 ≤ (x5_1 : Int) := of_decide_eq_true s8_2; have q7 : (x5_1 : Int) < ((x0_1.length : Int) : Int) := of_decide_eq_true s8_2; obtain ⟨ce7, hcl7, hM7, hcc7, hfr7⟩ := Kd.R_elem HO_0.out z25 (x5_1 : Int) p7 q7; obtain rfl := k25_openM hM7; have hx7_0 : w3.cell? ⟨go5, (x5_1 : Int).toNat * 6, none⟩ = some (.int .i64 ((rd_T25 y254 x5_1).f0)) := hcc7 0 _ rfl; have hx7_1 : w3.cell? ⟨go5, (x5_1 : Int).toNat * 6 + 1, none⟩ = some (.int .i64 ((rd_T25 y254 x5_1).f1)) := hcc7 1 _ rfl; have hx7_2 : w3.cell? ⟨go5, (x5_1 : Int).toNat * 6 + 2, none⟩ = some (.int .i64 ((rd_T25 y254 x5_1).f2)) := hcc7 2 _ rfl; have hx7_3 : w3.cell? ⟨go5, (x5_1 : Int).toNat * 6 + 3, none⟩ = some (.int .i64 ((rd_T25 y254 x5_1).f3)) := hcc7 3 _ rfl; have hx7_4 : w3.cell? ⟨go5, (x5_1 : Int).toNat * 6 + 4, none⟩ = some (.int .i64 ((rd_T25 y254 x5_1).f4)) := hcc7 4 _ rfl; have hx7_5 : w3.cell? ⟨go5, (x5_1 : Int).toNat * 6 + 5, none⟩ = some (.int .i64 ((rd_T25 y254 x5_1).f5)) := hcc7 5 _ rfl; have hf7_0 : w3.frozen? ⟨go5, (x5_1 : Int).toNat * 6, none⟩ = false := hfr7 0; have hf7_1 : w3.frozen? ⟨go5, (x5_1 : Int).toNat * 6 + 1, none⟩ = false := hfr7 1; have hf7_2 : w3.frozen? ⟨go5, (x5_1 : Int).toNat * 6 + 2, none⟩ = false := hfr7 2; have hf7_3 : w3.frozen? ⟨go5, (x5_1 : Int).toNat * 6 + 3, none⟩ = false := hfr7 3; have hf7_4 : w3.frozen? ⟨go5, (x5_1 : Int).toNat * 6 + 4, none⟩ = false := hfr7 4; have hf7_5 : w3.frozen? ⟨go5, (x5_1 : Int).toNat * 6 + 5, none⟩ = false := hfr7 5; (try clear hcl7); (try clear hcc7); (try clear hfr7); (try clear hM7); replace p7 := eq_true p7; replace q7 := eq_true q7; have HX16 := Aside0.mk (show Kd.R k25 25 w3 w1.heap.size (fun k_ => (P0_ k_ ∨ w.heap.size ≤ k_)) (.slice (some ⟨go5, 0, none⟩) x0_1.length co11) y254 from s8_4); obtain ⟨ce16, hcl16, hM16, hcc16, hfr16⟩ := Kd.R_elem HX16.out z25 (x5_1 : Int) (of_decide_eq_true s8_2) (by have h_ : (x5_1 : Int) < ((x0_1.length : Int) : Int) := of_decide_eq_true s8_2; first | exact h_ | (have e_ := (Kd.R_reads' HO_0.out).1; omega) | simpa using h_); obtain rfl := k25_openM hM16; have HP16 := Kd.R_seg HX16.out (x5_1 : Int) (of_decide_eq_true s8_2) (by have h_ : (x5_1 : Int) < ((x0_1.length : Int) : Int) := of_decide_eq_true s8_2; first | exact h_ | (have e_ := (Kd.R_reads' HO_0.out).1; omega) | simpa using h_) (seg := [.int .i64 (wrap64 ((wrap64 (x1_1 + 1)) + 1))]) (j := 2) hcl16 hcc16 (show 3 ≤ 6 from by decide) (x' := (⟨(rd_T25 y254 x5_1).f0, (rd_T25 y254 x5_1).f1, wrap64 ((wrap64 (x1_1 + 1)) + 1), (rd_T25 y254 x5_1).f3, (rd_T25 y254 x5_1).f4, (rd_T25 y254 x5_1).f5⟩ : S25)) (k25_mkM _ _ _ (⟨(rd_T25 y254 x5_1).f0, (rd_T25 y254 x5_1).f1, wrap64 ((wrap64 (x1_1 + 1)) + 1), (rd_T25 y254 x5_1).f3, (rd_T25 y254 x5_1).f4, (rd_T25 y254 x5_1).f5⟩ : S25) ) (fun _ hk => hk); have hx16_2 := hcc16 2 _ rfl; (try simp only [show (k25).sz = 6 from rfl, Nat.mul_one, Nat.add_zero] at hx16_2); have hf16_2 := hfr16 2; (try simp only [show (k25).sz = 6 from rfl, Nat.mul_one, Nat.add_zero] at hf16_2); clear hcl16 hcc16 hfr16 hM16) | ((with_reducible refine gate_store (t := 3) (p := 30) rfl ?_); refine store_event (t := 3) (p := 30) (v := ?vo_w17) (w1 := (w3.setCell ⟨go5, (x5_1 : Int).toNat * 6 + 2, none⟩ (.int .i64 (wrap64 ((wrap64 (x1_1 + 1)) + 1))))) ?hg ?ho ?hn ?hr ?_; (case ho => rfl); (case hg => rfl); (case hn => rfl); (case hr => first | (go_simp; done) | (go_simp; rfl)); intro w4 hw; have hg : w3.grownBy w4 (some go5) := (by rw [hw]; exact HP16.2); have hp_ : Kd.R k25 25 w4 w1.heap.size (fun k_ => (P0_ k_ ∨ w.heap.size ≤ k_)) (.slice (some ⟨go5, 0, none⟩) x0_1.length co11) y255 := (by rw [hw, Ny255.out]; exact HP16.1); clear HP16; have n0_ := Aside0.mk (hp_); have n1_ := Aside0.mk ((by rw [hw]; exact below_set (HB.out) GB5.out : Below w1.heap.size w1 w4)); have n2_ := Aside0.mk (Kept.of_grown (S := (fun k_ => P0_ k_)) hg s8_3 (fun k_ e_ => (HO_0.out.1 k_ e_))); clear HO_0; clear HB; clear HK; have HO_0 := n0_; have HB := n1_; have HK := n2_; clear n0_ n1_ n2_; clear hg hw hp_; have p8 : 0 ≤ (x5_1 : Int) := of_decide_eq_true s8_2; have q8 : (x5_1 : Int) < ((x0_1.length : Int) : Int) := of_decide_eq_true s8_2; obtain ⟨ce8, hcl8, hM8, hcc8, hfr8⟩ := Kd.R_elem HO_0.out z25 (x5_1 : Int) p8 q8; obtain rfl := k25_openM hM8; have hx8_0 : w4.cell? ⟨go5, (x5_1 : Int).toNat * 6, none⟩ = some (.int .i64 ((rd_T25 y255 x5_1).f0)) := hcc8 0 _ rfl; have hx8_1 : w4.cell? ⟨go5, (x5_1 : Int).toNat * 6 + 1, none⟩ = some (.int .i64 ((rd_T25 y255 x5_1).f1)) := hcc8 1 _ rfl; have hx8_2 : w4.cell? ⟨go5, (x5_1 : Int).toNat * 6 + 2, none⟩ = some (.int .i64 ((rd_T25 y255 x5_1).f2)) := hcc8 2 _ rfl; have hx8_3 : w4.cell? ⟨go5, (x5_1 : Int).toNat * 6 + 3, none⟩ = some (.int .i64 ((rd_T25 y255 x5_1).f3)) := hcc8 3 _ rfl; have hx8_4 : w4.cell? ⟨go5, (x5_1 : Int).toNat * 6 + 4, none⟩ = some (.int .i64 ((rd_T25 y255 x5_1).f4)) := hcc8 4 _ rfl; have hx8_5 : w4.cell? ⟨go5, (x5_1 : Int).toNat * 6 + 5, none⟩ = some (.int .i64 ((rd_T25 y255 x5_1).f5)) := hcc8 5 _ rfl; have hf8_0 : w4.frozen? ⟨go5, (x5_1 : Int).toNat * 6, none⟩ = false := hfr8 0; have hf8_1 : w4.frozen? ⟨go5, (x5_1 : Int).toNat * 6 + 1, none⟩ = false := hfr8 1; have hf8_2 : w4.frozen? ⟨go5, (x5_1 : Int).toNat * 6 + 2, none⟩ = false := hfr8 2; have hf8_3 : w4.frozen? ⟨go5, (x5_1 : Int).toNat * 6 + 3, none⟩ = false := hfr8 3; have hf8_4 : w4.frozen? ⟨go5, (x5_1 : Int).toNat * 6 + 4, none⟩ = false := hfr8 4; have hf8_5 : w4.frozen? ⟨go5, (x5_1 : Int).toNat * 6 + 5, none⟩ = false := hfr8 5; (try clear hcl8); (try clear hcc8); (try clear hfr8); (try clear hM8); replace p8 := eq_true p8; replace q8 := eq_true q8; have HX18 := Aside0.mk (show Kd.R k25 25 w4 w1.heap.size (fun k_ => (P0_ k_ ∨ w.heap.size ≤ k_)) (.slice (some ⟨go5, 0, none⟩) x0_1.length co11) y255 from s8_4); obtain ⟨ce18, hcl18, hM18, hcc18, hfr18⟩ := Kd.R_elem HX18.out z25 (x5_1 : Int) (of_decide_eq_true s8_2) (by have h_ : (x5_1 : Int) < ((x0_1.length : Int) : Int) := of_decide_eq_true s8_2; first | exact h_ | (have e_ := (Kd.R_reads' HO_0.out).1; omega) | simpa using h_); obtain rfl := k25_openM hM18; have HP18 := Kd.R_seg HX18.out (x5_1 : Int) (of_decide_eq_true s8_2) (by have h_ : (x5_1 : Int) < ((x0_1.length : Int) : Int) := of_decide_eq_true s8_2; first | exact h_ | (have e_ := (Kd.R_reads' HO_0.out).1; omega) | simpa using h_) (seg := [.int .i64 (wrap64 ((wrap64 ((wrap64 (x1_1 + 1)) + 1)) + 1))]) (j := 3) hcl18 hcc18 (show 4 ≤ 6 from by decide) (x' := (⟨(rd_T25 y255 x5_1).f0, (rd_T25 y255 x5_1).f1, (rd_T25 y255 x5_1).f2, wrap64 ((wrap64 ((wrap64 (x1_1 + 1)) + 1)) + 1), (rd_T25 y255 x5_1).f4, (rd_T25 y255 x5_1).f5⟩ : S25)) (k25_mkM _ _ _ (⟨(rd_T25 y255 x5_1).f0, (rd_T25 y255 x5_1).f1, (rd_T25 y255 x5_1).f2, wrap64 ((wrap64 ((wrap64 (x1_1 + 1)) + 1)) + 1), (rd_T25 y255 x5_1).f4, (rd_T25 y255 x5_1).f5⟩ : S25) ) (fun _ hk => hk); have hx18_3 := hcc18 3 _ rfl; (try simp only [show (k25).sz = 6 from rfl, Nat.mul_one, Nat.add_zero] at hx18_3); have hf18_3 := hfr18 3; (try simp only [show (k25).sz = 6 from rfl, Nat.mul_one, Nat.add_zero] at hf18_3); clear hcl18 hcc18 hfr18 hM18) | ((with_reducible refine gate_store (t := 3) (p := 37) rfl ?_); refine store_event (t := 3) (p := 37) (v := ?vo_w19) (w1 := (w4.setCell ⟨go5, (x5_1 : Int).toNat * 6 + 3, none⟩ (.int .i64 (wrap64 ((wrap64 ((wrap64 (x1_1 + 1)) + 1)) + 1))))) ?hg ?ho ?hn ?hr ?_; (case ho => rfl); (case hg => rfl); (case hn => rfl); (case hr => first | (go_simp; done) | (go_simp; rfl)); intro w5 hw; have hg : w4.grownBy w5 (some go5) := (by rw [hw]; exact HP18.2); have hp_ : Kd.R k25 25 w5 w1.heap.size (fun k_ => (P0_ k_ ∨ w.heap.size ≤ k_)) (.slice (some ⟨go5, 0, none⟩) x0_1.length co11) y256 := (by rw [hw, Ny256.out]; exact HP18.1); clear HP18; have n0_ := Aside0.mk (hp_); have n1_ := Aside0.mk ((by rw [hw]; exact below_set (HB.out) GB5.out : Below w1.heap.size w1 w5)); have n2_ := Aside0.mk (Kept.of_grown (S := (fun k_ => P0_ k_)) hg s8_3 (fun k_ e_ => (HO_0.out.1 k_ e_))); clear HO_0; clear HB; clear HK; have HO_0 := n0_; have HB := n1_; have HK := n2_; clear n0_ n1_ n2_; clear hg hw hp_; have p9 : 0 ≤ (x5_1 : Int) := of_decide_eq_true s8_2; have q9 : (x5_1 : Int) < ((x0_1.length : Int) : Int) := of_decide_eq_true s8_2; obtain ⟨ce9, hcl9, hM9, hcc9, hfr9⟩ := Kd.R_elem HO_0.out z25 (x5_1 : Int) p9 q9; obtain rfl := k25_openM hM9; have hx9_0 : w5.cell? ⟨go5, (x5_1 : Int).toNat * 6, none⟩ = some (.int .i64 ((rd_T25 y256 x5_1).f0)) := hcc9 0 _ rfl; have hx9_1 : w5.cell? ⟨go5, (x5_1 : Int).toNat * 6 + 1, none⟩ = some (.int .i64 ((rd_T25 y256 x5_1).f1)) := hcc9 1 _ rfl; have hx9_2 : w5.cell? ⟨go5, (x5_1 : Int).toNat * 6 + 2, none⟩ = some (.int .i64 ((rd_T25 y256 x5_1).f2)) := hcc9 2 _ rfl; have hx9_3 : w5.cell? ⟨go5, (x5_1 : Int).toNat * 6 + 3, none⟩ = some (.int .i64 ((rd_T25 y256 x5_1).f3)) := hcc9 3 _ rfl; have hx9_4 : w5.cell? ⟨go5, (x5_1 : Int).toNat * 6 + 4, none⟩ = some (.int .i64 ((rd_T25 y256 x5_1).f4)) := hcc9 4 _ rfl; have hx9_5 : w5.cell? ⟨go5, (x5_1 : Int).toNat * 6 + 5, none⟩ = some (.int .i64 ((rd_T25 y256 x5_1).f5)) := hcc9 5 _ rfl; have hf9_0 : w5.frozen? ⟨go5, (x5_1 : Int).toNat * 6, none⟩ = false := hfr9 0; have hf9_1 : w5.frozen? ⟨go5, (x5_1 : Int).toNat * 6 + 1, none⟩ = false := hfr9 1; have hf9_2 : w5.frozen? ⟨go5, (x5_1 : Int).toNat * 6 + 2, none⟩ = false := hfr9 2; have hf9_3 : w5.frozen? ⟨go5, (x5_1 : Int).toNat * 6 + 3, none⟩ = false := hfr9 3; have hf9_4 : w5.frozen? ⟨go5, (x5_1 : Int).toNat * 6 + 4, none⟩ = false := hfr9 4; have hf9_5 : w5.frozen? ⟨go5, (x5_1 : Int).toNat * 6 + 5, none⟩ = false := hfr9 5; (try clear hcl9); (try clear hcc9); (try clear hfr9); (try clear hM9); replace p9 := eq_true p9; replace q9 := eq_true q9; have HX20 := Aside0.mk (show Kd.R k25 25 w5 w1.heap.size (fun k_ => (P0_ k_ ∨ w.heap.size ≤ k_)) (.slice (some ⟨go5, 0, none⟩) x0_1.length co11) y256 from s8_4); obtain ⟨ce20, hcl20, hM20, hcc20, hfr20⟩ := Kd.R_elem HX20.out z25 (x5_1 : Int) (of_decide_eq_true s8_2) (by have h_ : (x5_1 : Int) < ((x0_1.length : Int) : Int) := of_decide_eq_true s8_2; first | exact h_ | (have e_ := (Kd.R_reads' HO_0.out).1; omega) | simpa using h_); obtain rfl := k25_openM hM20; have HP20 := Kd.R_seg HX20.out (x5_1 : Int) (of_decide_eq_true s8_2) (by have h_ : (x5_1 : Int) < ((x0_1.length : Int) : Int) := of_decide_eq_true s8_2; first | exact h_ | (have e_ := (Kd.R_reads' HO_0.out).1; omega) | simpa using h_) (seg := [.int .i64 (wrap64 ((wrap64 ((wrap64 ((wrap64 (x1_1 + 1)) + 1)) + 1)) + 1))]) (j := 4) hcl20 hcc20 (show 5 ≤ 6 from by decide) (x' := (⟨(rd_T25 y256 x5_1).f0, (rd_T25 y256 x5_1).f1, (rd_T25 y256 x5_1).f2, (rd_T25 y256 x5_1).f3, wrap64 ((wrap64 ((wrap64 ((wrap64 (x1_1 + 1)) + 1)) + 1)) + 1), (rd_T25 y256 x5_1).f5⟩ : S25)) (k25_mkM _ _ _ (⟨(rd_T25 y256 x5_1).f0, (rd_T25 y256 x5_1).f1, (rd_T25 y256 x5_1).f2, (rd_T25 y256 x5_1).f3, wrap64 ((wrap64 ((wrap64 ((wrap64 (x1_1 + 1)) + 1)) + 1)) + 1), (rd_T25 y256 x5_1).f5⟩ : S25) ) (fun _ hk => hk); have hx20_4 := hcc20 4 _ rfl; (try simp only [show (k25).sz = 6 from rfl, Nat.mul_one, Nat.add_zero] at hx20_4); have hf20_4 := hfr20 4; (try simp only [show (k25).sz = 6 from rfl, Nat.mul_one, Nat.add_zero] at hf20_4); clear hcl20 hcc20 hfr20 hM20) | ((with_reducible refine gate_store (t := 3) (p := 44) rfl ?_); refine store_event (t := 3) (p := 44) (v := ?vo_w21) (w1 := (w5.setCell ⟨go5, (x5_1 : Int).toNat * 6 + 4, none⟩ (.int .i64 (wrap64 ((wrap64 ((wrap64 ((wrap64 (x1_1 + 1)) + 1)) + 1)) + 1))))) ?hg ?ho ?hn ?hr ?_; (case ho => rfl); (case hg => rfl); (case hn => rfl); (case hr => first | (go_simp; done) | (go_simp; rfl)); intro w6 hw; have hg : w5.grownBy w6 (some go5) := (by rw [hw]; exact HP20.2); have hp_ : Kd.R k25 25 w6 w1.heap.size (fun k_ => (P0_ k_ ∨ w.heap.size ≤ k_)) (.slice (some ⟨go5, 0, none⟩) x0_1.length co11) y257 := (by rw [hw, Ny257.out]; exact HP20.1); clear HP20; have n0_ := Aside0.mk (hp_); have n1_ := Aside0.mk ((by rw [hw]; exact below_set (HB.out) GB5.out : Below w1.heap.size w1 w6)); have n2_ := Aside0.mk (Kept.of_grown (S := (fun k_ => P0_ k_)) hg s8_3 (fun k_ e_ => (HO_0.out.1 k_ e_))); clear HO_0; clear HB; clear HK; have HO_0 := n0_; have HB := n1_; have HK := n2_; clear n0_ n1_ n2_; clear hg hw hp_; have p10 : 0 ≤ (x5_1 : Int) := of_decide_eq_true s8_2; have q10 : (x5_1 : Int) < ((x0_1.length : Int) : Int) := of_decide_eq_true s8_2; obtain ⟨ce10, hcl10, hM10, hcc10, hfr10⟩ := Kd.R_elem HO_0.out z25 (x5_1 : Int) p10 q10; obtain rfl := k25_openM hM10; have hx10_0 : w6.cell? ⟨go5, (x5_1 : Int).toNat * 6, none⟩ = some (.int .i64 ((rd_T25 y257 x5_1).f0)) := hcc10 0 _ rfl; have hx10_1 : w6.cell? ⟨go5, (x5_1 : Int).toNat * 6 + 1, none⟩ = some (.int .i64 ((rd_T25 y257 x5_1).f1)) := hcc10 1 _ rfl; have hx10_2 : w6.cell? ⟨go5, (x5_1 : Int).toNat * 6 + 2, none⟩ = some (.int .i64 ((rd_T25 y257 x5_1).f2)) := hcc10 2 _ rfl; have hx10_3 : w6.cell? ⟨go5, (x5_1 : Int).toNat * 6 + 3, none⟩ = some (.int .i64 ((rd_T25 y257 x5_1).f3)) := hcc10 3 _ rfl; have hx10_4 : w6.cell? ⟨go5, (x5_1 : Int).toNat * 6 + 4, none⟩ = some (.int .i64 ((rd_T25 y257 x5_1).f4)) := hcc10 4 _ rfl; have hx10_5 : w6.cell? ⟨go5, (x5_1 : Int).toNat * 6 + 5, none⟩ = some (.int .i64 ((rd_T25 y257 x5_1).f5)) := hcc10 5 _ rfl; have hf10_0 : w6.frozen? ⟨go5, (x5_1 : Int).toNat * 6, none⟩ = false := hfr10 0; have hf10_1 : w6.frozen? ⟨go5, (x5_1 : Int).toNat * 6 + 1, none⟩ = false := hfr10 1; have hf10_2 : w6.frozen? ⟨go5, (x5_1 : Int).toNat * 6 + 2, none⟩ = false := hfr10 2; have hf10_3 : w6.frozen? ⟨go5, (x5_1 : Int).toNat * 6 + 3, none⟩ = false := hfr10 3; have hf10_4 : w6.frozen? ⟨go5, (x5_1 : Int).toNat * 6 + 4, none⟩ = false := hfr10 4; have hf10_5 : w6.frozen? ⟨go5, (x5_1 : Int).toNat * 6 + 5, none⟩ = false := hfr10 5; (try clear hcl10); (try clear hcc10); (try clear hfr10); (try clear hM10); replace p10 := eq_true p10; replace q10 := eq_true q10; have HX22 := Aside0.mk (show Kd.R k25 25 w6 w1.heap.size (fun k_ => (P0_ k_ ∨ w.heap.size ≤ k_)) (.slice (some ⟨go5, 0, none⟩) x0_1.length co11) y257 from s8_4); obtain ⟨ce22, hcl22, hM22, hcc22, hfr22⟩ := Kd.R_elem HX22.out z25 (x5_1 : Int) (of_decide_eq_true s8_2) (by have h_ : (x5_1 : Int) < ((x0_1.length : Int) : Int) := of_decide_eq_true s8_2; first | exact h_ | (have e_ := (Kd.R_reads' HO_0.out).1; omega) | simpa using h_); obtain rfl := k25_openM hM22; have HP22 := Kd.R_seg HX22.out (x5_1 : Int) (of_decide_eq_true s8_2) (by have h_ : (x5_1 : Int) < ((x0_1.length : Int) : Int) := of_decide_eq_true s8_2; first | exact h_ | (have e_ := (Kd.R_reads' HO_0.out).1; omega) | simpa using h_) (seg := [.int .i64 (wrap64 ((wrap64 ((wrap64 ((wrap64 ((wrap64 (x1_1 + 1)) + 1)) + 1)) + 1)) + 1))]) (j := 5) hcl22 hcc22 (show 6 ≤ 6 from by decide) (x' := (⟨(rd_T25 y257 x5_1).f0, (rd_T25 y257 x5_1).f1, (rd_T25 y257 x5_1).f2, (rd_T25 y257 x5_1).f3, (rd_T25 y257 x5_1).f4, wrap64 ((wrap64 ((wrap64 ((wrap64 ((wrap64 (x1_1 + 1)) + 1)) + 1)) + 1)) + 1)⟩ : S25)) (k25_mkM _ _ _ (⟨(rd_T25 y257 x5_1).f0, (rd_T25 y257 x5_1).f1, (rd_T25 y257 x5_1).f2, (rd_T25 y257 x5_1).f3, (rd_T25 y257 x5_1).f4, wrap64 ((wrap64 ((wrap64 ((wrap64 ((wrap64 (x1_1 + 1)) + 1)) + 1)) + 1)) + 1)⟩ : S25) ) (fun _ hk => hk); have hx22_5 := hcc22 5 _ rfl; (try simp only [show (k25).sz = 6 from rfl, Nat.mul_one, Nat.add_zero] at hx22_5); have hf22_5 := hfr22 5; (try simp only [show (k25).sz = 6 from rfl, Nat.mul_one, Nat.add_zero] at hf22_5); clear hcl22 hcc22 hfr22 hM22) | ((with_reducible refine gate_store (t := 3) (p := 51) rfl ?_); refine store_event (t := 3) (p := 51) (v := ?vo_w23) (w1 := (w6.setCell ⟨go5, (x5_1 : Int).toNat * 6 + 5, none⟩ (.int .i64 (wrap64 ((wrap64 ((wrap64 ((wrap64 ((wrap64 (x1_1 + 1)) + 1)) + 1)) + 1)) + 1))))) ?hg ?ho ?hn ?hr ?_; (case ho => rfl); (case hg => rfl); (case hn => rfl); (case hr => first | (go_simp; done) | (go_simp; rfl)); intro w7 hw; have hg : w6.grownBy w7 (some go5) := (by rw [hw]; exact HP22.2); have hp_ : Kd.R k25 25 w7 w1.heap.size (fun k_ => (P0_ k_ ∨ w.heap.size ≤ k_)) (.slice (some ⟨go5, 0, none⟩) x0_1.length co11) y258 := (by rw [hw, Ny258.out]; exact HP22.1); clear HP22; have n0_ := Aside0.mk (hp_); have n1_ := Aside0.mk ((by rw [hw]; exact below_set (HB.out) GB5.out : Below w1.heap.size w1 w7)); have n2_ := Aside0.mk (Kept.of_grown (S := (fun k_ => P0_ k_)) hg s8_3 (fun k_ e_ => (HO_0.out.1 k_ e_))); clear HO_0; clear HB; clear HK; have HO_0 := n0_; have HB := n1_; have HK := n2_; clear n0_ n1_ n2_; clear hg hw hp_))
     go_roundg k1
     case measure => have := HK1.out; omega
     case rel => exact ⟨(y258), (wrap64 ((wrap64 ((wrap64 ((wrap64 ((wrap64 ((wrap64 (x1_1 + 1)) + 1)) + 1)) + 1)) + 1)) + 1)), (wrap64 (x5_1 + 1)), (by first | rfl | (simp; done) | (simp [*]; done)), (by first | rfl | (simp; done) | (simp [*]; done)), H', ⟨by have := HK1.out; omega⟩, ⟨by (with_reducible repeat (first | apply Kd.R_alloc | apply Kd.R_drewN | apply Kd.R_drew)); exact HO_0.out⟩, ⟨by repeat (first | (with_reducible first | exact HK.out | apply Kept.alloc | apply Kept.drewN | apply Kept.drew) | exact HK.out)⟩, ⟨by repeat (first | (with_reducible first | exact HB.out | apply below_alloc | apply pw_below_drewN | apply below_drew1) | exact HB.out)⟩⟩
    ·rw [if_neg c4] at H
     exact absurd H (by simp)
   ·rw [if_neg c3] at H
    have c3b0 : decide (x5_1 < (x0_1.length : Int)) = false := decide_eq_false c3
    clear c3
    simp only [Option.some.injEq, Prod.mk.injEq] at H
    obtain ⟨rfl, rfl⟩ := H
    obtain ⟨Ao24, co24, eo24⟩ := Kd.R_slice HO_0.out
    subst eo24
    go_wp2
    go_ret
    exact ⟨by first | rfl | (simp [errW_none, errW_some] <;> rfl) | (simp [*, errW_none, errW_some] <;> rfl), by (with_reducible repeat (first | apply Kd.R_alloc | apply Kd.R_drewN | apply Kd.R_drew)); exact HO_0.out, by repeat (first | (with_reducible first | exact HB.out | apply below_alloc | apply pw_below_drewN | apply below_drew1) | exact HB.out), by repeat (first | (with_reducible first | exact HK.out | apply Kept.alloc | apply Kept.drewN | apply Kept.drew) | exact HK.out)⟩

end Go.Proofs.Ytfbokdbaondjdaa.PV1
-- printed for this claim out of the translation
namespace Go.Proofs.Ytfbokdbaondjdaa.PV1
open Go.RowKit Go.Proofs.YtfbokdbaondjdaaW.PrintWords Go.Proofs.YtfbokdbaondjdaaW.PrintLast Go.Proofs.YtfbokdbaondjdaaW.PrintMore Go.Proofs.Ytfbokdbaondjdaa.Cz
attribute [local go_sem] max2_int min2_int max_two min_two max_three min_three max_four min_four
set_option linter.unusedVariables false
set_option linter.unusedSimpArgs false

/-! ### laws_markIntS: function 89 -/
def laws_markIntS.l0 : Nat → List Int → Int → Int → Option (Int × List Int)
 | 0, _, _, _ => none
 | k + 1, x0, x1, x5 => if x5 < (x0.length : Int) then (if 0 ≤ x5 then (laws_markIntS.l0 k (x0.set (x5 : Int).toNat x1) (wrap64 (x1 + 1)) (wrap64 (x5 + 1))) else (none)) else (some (x1, x0))
def laws_markIntS.f (k : Nat) (l0 : List Int) (a1 : Int) : Option (Int × List Int) := laws_markIntS.l0 k l0 a1 0
theorem laws_markIntS.mono_l : ∀ k, (∀ y0 y1 y2, LeO (laws_markIntS.l0 k y0 y1 y2) (laws_markIntS.l0 (k + 1) y0 y1 y2))
 | 0 => fun _ _ _ r h => by simp [laws_markIntS.l0] at h
 | k + 1 => by
  have ih0 := laws_markIntS.mono_l k
  ·intro y0 y1 y2
   unfold laws_markIntS.l0
   repeat' first
   | (with_reducible exact ih0 _ _ _)
   | (with_reducible exact LeO.refl _)
   | (with_reducible exact LeO.none _)
   | (with_reducible refine LeO.ite ?_ ?_)
   | (with_reducible refine LeO.bind ?_ (fun _ => ?_))
   | exact ih0 _ _ _
   | exact LeO.none _
   | refine LeO.ite ?_ ?_
   | refine LeO.bind ?_ (fun _ => ?_)
theorem laws_markIntS.mono : ∀ a0 a1 k, LeO (laws_markIntS.f k a0 a1) (laws_markIntS.f (k + 1) a0 a1) := by
 intro a0 a1 k
 have ih0 := laws_markIntS.mono_l k
 unfold laws_markIntS.f
 repeat' first
   | (with_reducible exact ih0 _ _ _)
   | (with_reducible exact LeO.refl _)
   | (with_reducible exact LeO.none _)
   | (with_reducible refine LeO.ite ?_ ?_)
   | (with_reducible refine LeO.bind ?_ (fun _ => ?_))
   | exact ih0 _ _ _
   | exact LeO.none _
   | refine LeO.ite ?_ ?_
   | refine LeO.bind ?_ (fun _ => ?_)
set_option maxHeartbeats 8000000 in
set_option maxRecDepth 100000 in
theorem laws_markIntS.calls (k : Nat) (P0_ : Nat → Prop) (u9000_ : Value) (l0 : List Int) (a1 : Int) (r1 : Int) (r2 : List Int) (w0 w : World) (hB : Below w0.heap.size w0 w) (ho0 : Kd.R (Kd.int .i64) 3 w w0.heap.size P0_ u9000_ l0) (h : laws_markIntS.f k l0 a1 = some (r1, r2)) :
  Calls Try.prog 89 #[u9000_, .int .i64 a1] w fun e w' => e = .returned (.int .i64 r1) ∧ Kd.R (Kd.int .i64) 3 w' w0.heap.size (fun k_ => (P0_ k_ ∨ w.heap.size ≤ k_)) u9000_ r2 ∧ Below w0.heap.size w0 w' ∧ Kept w w' (fun k_ => P0_ k_) := by
 have HO0 := Aside0.mk (show Kd.R (Kd.int .i64) 3 w w0.heap.size (fun k_ => (P0_ k_ ∨ w.heap.size ≤ k_)) u9000_ l0 from Kd.R_mono ho0 (fun k_ hk => (.inl hk)))
 have HK := Aside0.mk (Kept.refl w (fun k_ => P0_ k_))
 have HW0 := Aside0.mk hB.size
 have HB := Aside0.mk hB
 clear hB
 have H : (laws_markIntS.l0 k l0 a1 0) = some (r1, r2) := h
 clear h
 have H' := Aside0.mk H
 clear H
 go_enter Try.func89, Try.ntmps89
 go_wp2
 go_loopg [1, 5] k (fun kq v1 v5 w' => ∃ (x0_1 : List Int) (x1_1 : Int) (x5_1 : Int), v1 = .int .i64 x1_1 ∧ v5 = .int .i64 x5_1 ∧ Aside0 (laws_markIntS.l0 kq x0_1 x1_1 x5_1 = some (r1, r2)) ∧ Aside0 (kq ≤ k) ∧ Aside0 (Kd.R (Kd.int .i64) 3 w' w0.heap.size (fun k_ => (P0_ k_ ∨ w.heap.size ≤ k_)) u9000_ x0_1) ∧ Aside0 (Kept w w' (fun k_ => P0_ k_)) ∧ Aside0 (Below w0.heap.size w0 w'))
 case atStart => exact ⟨(l0), (a1), (0), (by first | rfl | (simp; done) | (simp [*]; done)), (by first | rfl | (simp; done) | (simp [*]; done)), H', ⟨Nat.le_refl _⟩, ⟨by (with_reducible repeat (first | apply Kd.R_alloc | apply Kd.R_drewN | apply Kd.R_drew)); exact HO0.out⟩, ⟨by repeat (first | (with_reducible first | exact HK.out | apply Kept.alloc | apply Kept.drewN | apply Kept.drew) | exact HK.out)⟩, ⟨by repeat (first | (with_reducible first | exact HB.out | apply below_alloc | apply pw_below_drewN | apply below_drew1) | exact HB.out)⟩⟩
 case round =>
  clear H'
  (try clear p2)
  obtain ⟨x0_1, x1_1, x5_1, rfl, rfl, HA, HK1, HO_0, HK, HB⟩ := hrel
  cases gk with
  | zero => exact absurd HA.out (by simp [laws_markIntS.l0])
  | succ k1 =>
   have H := HA.out
   clear HA
   simp only [laws_markIntS.l0] at H
   by_cases c3 : x5_1 < (x0_1.length : Int)
   ·rw [if_pos c3] at H
    have c3b0 : decide (x5_1 < (x0_1.length : Int)) = true := decide_eq_true c3
    clear c3
    by_cases c4 : 0 ≤ x5_1
    ·rw [if_pos c4] at H
     have c4b0 : decide (0 ≤ x5_1) = true := decide_eq_true c4
     clear c4
     obtain ⟨y259, hy259⟩ : ∃ y_ : List Int, y_ = (x0_1.set (x5_1 : Int).toNat x1_1) := ⟨_, rfl⟩
     replace H : (laws_markIntS.l0 k1 y259 (wrap64 (x1_1 + 1)) (wrap64 (x5_1 + 1))) = some (r1, r2) := by first | (rw [hy259]; with_reducible exact H) | (have H2_ := (Option.bind_some _ _).symm.trans H; rw [hy259]; with_reducible exact H2_) | (have H2_ := (Option.bind_some _ _).symm.trans H; with_reducible exact H2_) | with_reducible exact H | (rw [hy259]; exact H) | exact H
     have Ny259 := Aside0.mk hy259
     clear hy259
     have H' := Aside0.mk H
     clear H
     obtain ⟨Ao6, co6, eo6⟩ := Kd.R_slice HO_0.out
     subst eo6
     have p5 : 0 ≤ (x5_1 : Int) := of_decide_eq_true (by first | (with_reducible assumption) | assumption)
     have q5 : (x5_1 : Int) < ((x0_1.length : Int) : Int) := of_decide_eq_true (by first | (with_reducible assumption) | assumption)
     obtain ⟨go5, co5, eo5, gb5, gl5, cl5, HG5⟩ := Kd.R_form HO_0.out (by omega)
     (first | cases eo5 | (injection eo5 with ea_ en_ ec_; (first | subst ea_ | (injection ea_ with ea_; subst ea_)); subst ec_; clear en_))
     have GB5 := Aside0.mk gb5
     have GG5 := Aside0.mk HG5
     clear gb5 gl5 HG5
     have HMgo5 := Aside0.mk (show (P0_ go5 ∨ w.heap.size ≤ go5) from (HO_0.out.1 _ rfl))
     obtain ⟨hx5_0, hf5_0⟩ := Kd.R_celln 0 HO_0.out (x5_1 : Int) p5 q5
     replace p5 := eq_true p5
     replace q5 := eq_true q5
     have HP7 := Kd.R_putg HO_0.out (x5_1 : Int) x1_1
     go_wp2_with (first | ((with_reducible refine gate_store (t := 3) (p := 15) rfl ?_); refine store_event (t := 3) (p := 15) (v := ?vo_w8) (w1 := (wr.setCell ⟨go5, (x5_1 : Int).toNat, none⟩ (.int .i64 x1_1))) ?hg ?ho ?hn ?hr ?_; (case ho => rfl); (case hg => rfl); (case hn => rfl); (case hr => first | (go_simp; done) | (go_simp; rfl)); intro w8 hw; have hg : wr.grownBy w8 (some go5) := (by rw [hw]; exact HP7.2); have hp_ : Kd.R (Kd.int .i64) 3 w8 w0.heap.size (fun k_ => (P0_ k_ ∨ w.heap.size ≤ k_)) (.slice (some ⟨go5, 0, none⟩) x0_1.length co6) y259 := (by rw [hw, Ny259.out]; exact HP7.1); clear HP7; have n0_ := Aside0.mk (hp_); have n1_ := Aside0.mk ((by rw [hw]; exact below_set (HB.out) GB5.out : Below w0.heap.size w0 w8)); have n2_ := Aside0.mk (Kept.of_grown (S := (fun k_ => P0_ k_)) hg (by repeat (first | (with_reducible first | exact HK.out | apply Kept.alloc | apply Kept.drewN | apply Kept.drew) | exact HK.out)) (fun k_ e_ => (HO_0.out.1 k_ e_))); clear HO_0; clear HB; clear HK; have HO_0 := n0_; have HB := n1_; have HK := n2_; clear n0_ n1_ n2_; clear hg hw hp_))
     go_roundg k1
     case measure => have := HK1.out; omega
     case rel => exact ⟨(y259), (wrap64 (x1_1 + 1)), (wrap64 (x5_1 + 1)), (by first | rfl | (simp; done) | (simp [*]; done)), (by first | rfl | (simp; done) | (simp [*]; done)), H', ⟨by have := HK1.out; omega⟩, ⟨by (with_reducible repeat (first | apply Kd.R_alloc | apply Kd.R_drewN | apply Kd.R_drew)); exact HO_0.out⟩, ⟨by repeat (first | (with_reducible first | exact HK.out | apply Kept.alloc | apply Kept.drewN | apply Kept.drew) | exact HK.out)⟩, ⟨by repeat (first | (with_reducible first | exact HB.out | apply below_alloc | apply pw_below_drewN | apply below_drew1) | exact HB.out)⟩⟩
    ·rw [if_neg c4] at H
     exact absurd H (by simp)
   ·rw [if_neg c3] at H
    have c3b0 : decide (x5_1 < (x0_1.length : Int)) = false := decide_eq_false c3
    clear c3
    simp only [Option.some.injEq, Prod.mk.injEq] at H
    obtain ⟨rfl, rfl⟩ := H
    obtain ⟨Ao9, co9, eo9⟩ := Kd.R_slice HO_0.out
    subst eo9
    go_wp2
    go_ret
    exact ⟨by first | rfl | (simp [errW_none, errW_some] <;> rfl) | (simp [*, errW_none, errW_some] <;> rfl), by (with_reducible repeat (first | apply Kd.R_alloc | apply Kd.R_drewN | apply Kd.R_drew)); exact HO_0.out, by repeat (first | (with_reducible first | exact HB.out | apply below_alloc | apply pw_below_drewN | apply below_drew1) | exact HB.out), by repeat (first | (with_reducible first | exact HK.out | apply Kept.alloc | apply Kept.drewN | apply Kept.drew) | exact HK.out)⟩

-- NOT PRINTED: function 53 (laws_markIntSS)

/-! ### laws_heldIntS: function 90 -/
def laws_heldIntS.l0 : Nat → List Int → Int → Int → Option (Int)
 | 0, _, _, _ => none
 | k + 1, x0, x1, x5 => if x5 < (x0.length : Int) then (if 0 ≤ x5 then (if (rd x0 x5) = x1 then (laws_heldIntS.l0 k x0 (wrap64 (x1 + 1)) (wrap64 (x5 + 1))) else (some (-1))) else (none)) else (some x1)
def laws_heldIntS.f (k : Nat) (l0 : List Int) (a1 : Int) : Option (Int) := laws_heldIntS.l0 k l0 a1 0
theorem laws_heldIntS.mono_l : ∀ k, (∀ y0 y1 y2, LeO (laws_heldIntS.l0 k y0 y1 y2) (laws_heldIntS.l0 (k + 1) y0 y1 y2))
 | 0 => fun _ _ _ r h => by simp [laws_heldIntS.l0] at h
 | k + 1 => by
  have ih0 := laws_heldIntS.mono_l k
  ·intro y0 y1 y2
   unfold laws_heldIntS.l0
   repeat' first
   | (with_reducible exact ih0 _ _ _)
   | (with_reducible exact LeO.refl _)
   | (with_reducible exact LeO.none _)
   | (with_reducible refine LeO.ite ?_ ?_)
   | (with_reducible refine LeO.bind ?_ (fun _ => ?_))
   | exact ih0 _ _ _
   | exact LeO.none _
   | refine LeO.ite ?_ ?_
   | refine LeO.bind ?_ (fun _ => ?_)
theorem laws_heldIntS.mono : ∀ a0 a1 k, LeO (laws_heldIntS.f k a0 a1) (laws_heldIntS.f (k + 1) a0 a1) := by
 intro a0 a1 k
 have ih0 := laws_heldIntS.mono_l k
 unfold laws_heldIntS.f
 repeat' first
   | (with_reducible exact ih0 _ _ _)
   | (with_reducible exact LeO.refl _)
   | (with_reducible exact LeO.none _)
   | (with_reducible refine LeO.ite ?_ ?_)
   | (with_reducible refine LeO.bind ?_ (fun _ => ?_))
   | exact ih0 _ _ _
   | exact LeO.none _
   | refine LeO.ite ?_ ?_
   | refine LeO.bind ?_ (fun _ => ?_)
set_option maxHeartbeats 8000000 in
set_option maxRecDepth 100000 in
theorem laws_heldIntS.calls (k : Nat) (A0 : Option Addr) (c0 : Nat) (l0 : List Int) (a1 : Int) (r : Int) (w : World) (hr0 : Kd.C (Kd.int .i64) w A0 l0.length l0) (hc0 : l0.length ≤ c0) (h : laws_heldIntS.f k l0 a1 = some r) :
  Calls Try.prog 90 #[.slice A0 l0.length c0, .int .i64 a1] w fun e w' => e = .returned (.int .i64 r) ∧ Drawn0 w w' := by
 have HR0 := Aside0.mk hr0
 have HC0 := Aside0.mk hc0
 clear hr0 hc0
 have H : (laws_heldIntS.l0 k l0 a1 0) = some r := h
 clear h
 have H' := Aside0.mk H
 clear H
 go_enter Try.func90, Try.ntmps90
 go_wp2
 go_loopg [1, 5] k (fun kq v1 v5 w' => ∃ (x1_1 : Int) (x5_1 : Int), v1 = .int .i64 x1_1 ∧ v5 = .int .i64 x5_1 ∧ Aside0 (laws_heldIntS.l0 kq l0 x1_1 x5_1 = some r) ∧ Aside0 (kq ≤ k) ∧ Drawn0 w w')
 case atStart => exact ⟨(a1), (0), (by first | rfl | (simp; done) | (simp [*]; done)), (by first | rfl | (simp; done) | (simp [*]; done)), H', ⟨Nat.le_refl _⟩, by repeat (first | exact Drawn0.refl _ | apply Drawn0.step)⟩
 case round =>
  clear H'
  (try clear p2)
  obtain ⟨x1_1, x5_1, rfl, rfl, HA, HK1, ⟨m1, rfl⟩⟩ := hrel
  cases gk with
  | zero => exact absurd HA.out (by simp [laws_heldIntS.l0])
  | succ k1 =>
   have H := HA.out
   clear HA
   simp only [laws_heldIntS.l0] at H
   by_cases c3 : x5_1 < (l0.length : Int)
   ·rw [if_pos c3] at H
    have c3b0 : decide (x5_1 < (l0.length : Int)) = true := decide_eq_true c3
    clear c3
    by_cases c4 : 0 ≤ x5_1
    ·rw [if_pos c4] at H
     have c4b0 : decide (0 ≤ x5_1) = true := decide_eq_true c4
     clear c4
     by_cases c5 : (rd l0 x5_1) = x1_1
     ·rw [if_pos c5] at H
      have c5b0 : ((rd l0 x5_1) == x1_1) = true := beq_iff_eq.mpr c5
      have c5b1 : ((rd l0 x5_1) != x1_1) = false := bne_eq_false_iff_eq.mpr c5
      clear c5
      have H' := Aside0.mk H
      clear H
      have p261 : 0 ≤ (x5_1 : Int) := of_decide_eq_true (by first | (with_reducible assumption) | assumption)
      have q261 : x5_1 < (l0.length : Int) := of_decide_eq_true (by first | (with_reducible assumption) | assumption)
      obtain ⟨ad261, e261, hx261_0⟩ := Kd.at_int HR0.out x5_1 p261 q261
      cases e261
      replace p261 := eq_true p261
      replace q261 := eq_true q261
      go_wp2
      go_roundg k1
      case measure => have := HK1.out; omega
      case rel => exact ⟨(wrap64 (x1_1 + 1)), (wrap64 (x5_1 + 1)), (by first | rfl | (simp; done) | (simp [*]; done)), (by first | rfl | (simp; done) | (simp [*]; done)), H', ⟨by have := HK1.out; omega⟩, by repeat (first | exact Drawn0.refl _ | apply Drawn0.step)⟩
     ·rw [if_neg c5] at H
      have c5b0 : ((rd l0 x5_1) == x1_1) = false := beq_eq_false_iff_ne.mpr c5
      have c5b1 : ((rd l0 x5_1) != x1_1) = true := bne_iff_ne.mpr c5
      obtain rfl := Option.some.inj H
      have p261 : 0 ≤ (x5_1 : Int) := of_decide_eq_true (by first | (with_reducible assumption) | assumption)
      have q261 : x5_1 < (l0.length : Int) := of_decide_eq_true (by first | (with_reducible assumption) | assumption)
      obtain ⟨ad261, e261, hx261_0⟩ := Kd.at_int HR0.out x5_1 p261 q261
      cases e261
      replace p261 := eq_true p261
      replace q261 := eq_true q261
      go_wp2
      go_ret
      exact ⟨by first | rfl | (simp; done) | (simp [*]; done), by repeat (first | exact Drawn0.refl _ | apply Drawn0.step)⟩
    ·rw [if_neg c4] at H
     exact absurd H (by simp)
   ·rw [if_neg c3] at H
    have c3b0 : decide (x5_1 < (l0.length : Int)) = false := decide_eq_false c3
    clear c3
    obtain rfl := Option.some.inj H
    go_wp2
    go_ret
    exact ⟨by first | rfl | (simp; done) | (simp [*]; done), by repeat (first | exact Drawn0.refl _ | apply Drawn0.step)⟩

/-! ### laws_heldIntSS: function 54 -/
def laws_heldIntSS.l0 : Nat → List (List Int) → Int → Int → Option (Int)
 | 0, _, _, _ => none
 | k + 1, x0, x1, x5 => if x5 < (x0.length : Int) then (if 0 ≤ x5 then ((laws_heldIntS.f k (rd_L3 x0 x5) x1).bind fun t263 => (if t263 < 0 then (some (-1)) else (laws_heldIntSS.l0 k x0 t263 (wrap64 (x5 + 1))))) else (none)) else (some x1)
def laws_heldIntSS.f (k : Nat) (l0 : List (List Int)) (a1 : Int) : Option (Int) := laws_heldIntSS.l0 k l0 a1 0
theorem laws_heldIntSS.mono_l : ∀ k, (∀ y0 y1 y2, LeO (laws_heldIntSS.l0 k y0 y1 y2) (laws_heldIntSS.l0 (k + 1) y0 y1 y2))
 | 0 => fun _ _ _ r h => by simp [laws_heldIntSS.l0] at h
 | k + 1 => by
  have ih0 := laws_heldIntSS.mono_l k
  ·intro y0 y1 y2
   unfold laws_heldIntSS.l0
   repeat' first
   | (with_reducible exact ih0 _ _ _)
   | (with_reducible exact laws_heldIntS.mono _ _ _)
   | (with_reducible exact LeO.refl _)
   | (with_reducible exact LeO.none _)
   | (with_reducible refine LeO.ite ?_ ?_)
   | (with_reducible refine LeO.bind ?_ (fun _ => ?_))
   | exact ih0 _ _ _
   | exact laws_heldIntS.mono _ _ _
   | exact LeO.none _
   | refine LeO.ite ?_ ?_
   | refine LeO.bind ?_ (fun _ => ?_)
theorem laws_heldIntSS.mono : ∀ a0 a1 k, LeO (laws_heldIntSS.f k a0 a1) (laws_heldIntSS.f (k + 1) a0 a1) := by
 intro a0 a1 k
 have ih0 := laws_heldIntSS.mono_l k
 unfold laws_heldIntSS.f
 repeat' first
   | (with_reducible exact ih0 _ _ _)
   | (with_reducible exact laws_heldIntS.mono _ _ _)
   | (with_reducible exact LeO.refl _)
   | (with_reducible exact LeO.none _)
   | (with_reducible refine LeO.ite ?_ ?_)
   | (with_reducible refine LeO.bind ?_ (fun _ => ?_))
   | exact ih0 _ _ _
   | exact laws_heldIntS.mono _ _ _
   | exact LeO.none _
   | refine LeO.ite ?_ ?_
   | refine LeO.bind ?_ (fun _ => ?_)
set_option maxHeartbeats 8000000 in
set_option maxRecDepth 100000 in
theorem laws_heldIntSS.calls (k : Nat) (A0 : Option Addr) (c0 : Nat) (l0 : List (List Int)) (a1 : Int) (r : Int) (w : World) (hr0 : Kd.C (Kd.slice 3 (Kd.int .i64)) w A0 l0.length l0) (hc0 : l0.length ≤ c0) (h : laws_heldIntSS.f k l0 a1 = some r) :
  Calls Try.prog 54 #[.slice A0 l0.length c0, .int .i64 a1] w fun e w' => e = .returned (.int .i64 r) ∧ Drawn0 w w' := by
 have HR0 := Aside0.mk hr0
 have HC0 := Aside0.mk hc0
 clear hr0 hc0
 have H : (laws_heldIntSS.l0 k l0 a1 0) = some r := h
 clear h
 have H' := Aside0.mk H
 clear H
 go_enter Try.func54, Try.ntmps54
 go_wp2
 go_loopg [1, 5] k (fun kq v1 v5 w' => ∃ (x1_1 : Int) (x5_1 : Int), v1 = .int .i64 x1_1 ∧ v5 = .int .i64 x5_1 ∧ Aside0 (laws_heldIntSS.l0 kq l0 x1_1 x5_1 = some r) ∧ Aside0 (kq ≤ k) ∧ Drawn0 w w')
 case atStart => exact ⟨(a1), (0), (by first | rfl | (simp; done) | (simp [*]; done)), (by first | rfl | (simp; done) | (simp [*]; done)), H', ⟨Nat.le_refl _⟩, by repeat (first | exact Drawn0.refl _ | apply Drawn0.step)⟩
 case round =>
  clear H'
  (try clear p2)
  obtain ⟨x1_1, x5_1, rfl, rfl, HA, HK1, ⟨m1, rfl⟩⟩ := hrel
  cases gk with
  | zero => exact absurd HA.out (by simp [laws_heldIntSS.l0])
  | succ k1 =>
   have H := HA.out
   clear HA
   simp only [laws_heldIntSS.l0] at H
   by_cases c3 : x5_1 < (l0.length : Int)
   ·rw [if_pos c3] at H
    have c3b0 : decide (x5_1 < (l0.length : Int)) = true := decide_eq_true c3
    clear c3
    by_cases c4 : 0 ≤ x5_1
    ·rw [if_pos c4] at H
     have c4b0 : decide (0 ≤ x5_1) = true := decide_eq_true c4
     clear c4
     replace H := Option.bind_eq_some_iff.mp H
     obtain ⟨t263, A50, H⟩ := H
     replace H : (if t263 < 0 then (some (-1)) else (laws_heldIntSS.l0 k1 l0 t263 (wrap64 (x5_1 + 1)))) = some r := H
     have A5 := Aside0.mk A50
     clear A50
     by_cases c6 : t263 < 0
     ·rw [if_pos c6] at H
      have c6b0 : decide (t263 < 0) = true := decide_eq_true c6
      clear c6
      obtain rfl := Option.some.inj H
      have p262 : 0 ≤ (x5_1 : Int) := of_decide_eq_true (by first | (with_reducible assumption) | assumption)
      have q262 : x5_1 < (l0.length : Int) := of_decide_eq_true (by first | (with_reducible assumption) | assumption)
      obtain ⟨ad262, A262_0, c262_0, e262, hx262_0, hl262_0, hi262_0⟩ := at_L3 HR0.out x5_1 p262 q262
      cases e262
      have HR262_0 := Aside0.mk hi262_0
      have HC262_0 := Aside0.mk hl262_0
      clear hi262_0 hl262_0
      replace p262 := eq_true p262
      replace q262 := eq_true q262
      go_wp2_with (first | ((with_reducible refine gate_callee (f := 90) rfl ?_); refine goesL_ (some 17) rfl rfl Try.func90 (by kernel_rfl) rfl #[.slice A262_0 (rd_L3 l0 x5_1).length c262_0, .int .i64 x1_1] rfl (by (try simp only [List.map_toArray, List.map_cons, List.map_nil]); first | done | rfl | (simp only [List.length_drop, List.length_take]; rfl)) ?_; (with_reducible refine (laws_heldIntS.calls k1 _ _ (rd_L3 l0 x5_1) x1_1 t263 _ ?side1 ?side2 A5.out).mono ?_); (case side1 => repeat (first | exact HR262_0.out | (with_reducible refine Kd.C_alloc ?_ _) | (with_reducible refine Kd.C_drewN ?_ _) | (with_reducible refine Kd.C_drew ?_))); (case side2 => exact HC262_0.out); rintro e w' ⟨rfl, ⟨nd, rfl⟩⟩; refine ⟨_, rfl, ?_⟩))
      go_ret
      exact ⟨by first | rfl | (simp; done) | (simp [*]; done), by repeat (first | exact Drawn0.refl _ | apply Drawn0.step)⟩
     ·rw [if_neg c6] at H
      have c6b0 : decide (t263 < 0) = false := decide_eq_false c6
      clear c6
      have H' := Aside0.mk H
      clear H
      have p262 : 0 ≤ (x5_1 : Int) := of_decide_eq_true (by first | (with_reducible assumption) | assumption)
      have q262 : x5_1 < (l0.length : Int) := of_decide_eq_true (by first | (with_reducible assumption) | assumption)
      obtain ⟨ad262, A262_0, c262_0, e262, hx262_0, hl262_0, hi262_0⟩ := at_L3 HR0.out x5_1 p262 q262
      cases e262
      have HR262_0 := Aside0.mk hi262_0
      have HC262_0 := Aside0.mk hl262_0
      clear hi262_0 hl262_0
      replace p262 := eq_true p262
      replace q262 := eq_true q262
      go_wp2_with (first | ((with_reducible refine gate_callee (f := 90) rfl ?_); refine goesL_ (some 17) rfl rfl Try.func90 (by kernel_rfl) rfl #[.slice A262_0 (rd_L3 l0 x5_1).length c262_0, .int .i64 x1_1] rfl (by (try simp only [List.map_toArray, List.map_cons, List.map_nil]); first | done | rfl | (simp only [List.length_drop, List.length_take]; rfl)) ?_; (with_reducible refine (laws_heldIntS.calls k1 _ _ (rd_L3 l0 x5_1) x1_1 t263 _ ?side1 ?side2 A5.out).mono ?_); (case side1 => repeat (first | exact HR262_0.out | (with_reducible refine Kd.C_alloc ?_ _) | (with_reducible refine Kd.C_drewN ?_ _) | (with_reducible refine Kd.C_drew ?_))); (case side2 => exact HC262_0.out); rintro e w' ⟨rfl, ⟨nd, rfl⟩⟩; refine ⟨_, rfl, ?_⟩))
      go_roundg k1
      case measure => have := HK1.out; omega
      case rel => exact ⟨(t263), (wrap64 (x5_1 + 1)), (by first | rfl | (simp; done) | (simp [*]; done)), (by first | rfl | (simp; done) | (simp [*]; done)), H', ⟨by have := HK1.out; omega⟩, by repeat (first | exact Drawn0.refl _ | apply Drawn0.step)⟩
    ·rw [if_neg c4] at H
     exact absurd H (by simp)
   ·rw [if_neg c3] at H
    have c3b0 : decide (x5_1 < (l0.length : Int)) = false := decide_eq_false c3
    clear c3
    obtain rfl := Option.some.inj H
    go_wp2
    go_ret
    exact ⟨by first | rfl | (simp; done) | (simp [*]; done), by repeat (first | exact Drawn0.refl _ | apply Drawn0.step)⟩

-- NOT PRINTED: function 14 (laws_FnExactDuties)

end Go.Proofs.Ytfbokdbaondjdaa.PV1
/- The law of Duties, walked over the contracts of what it calls. -/
namespace Go.Proofs.Ytfbokdbaondjdaa.Lw
open Go Go.RowKit Go.Proofs.YtfbokdbaondjdaaW.PrintWords Go.Proofs.YtfbokdbaondjdaaW.PrintLast Go.Proofs.YtfbokdbaondjdaaW.PrintMore Go.Proofs.Ytfbokdbaondjdaa.PV1 Go.Proofs.Ytfbokdbaondjdaa.Mk
set_option linter.unusedVariables false
set_option linter.unusedSimpArgs false
set_option maxHeartbeats 8000000 in
set_option maxRecDepth 100000 in
theorem law_Duties (k : Nat) (A0 : Option Addr) (c0 : Nat) (l0 : List S23) (left : Int) (l1 : List S25) (R : List (List Int)) (b : Bool) (kk : Int) (lm : List S25) (m : Int) (R' : List (List Int)) (w : World) (hr : Kd.C k23 w A0 l0.length l0) (hc : l0.length ≤ c0)
    (h1 : laws_szShipS.f l0 1048576 = some left) (hl : 0 ≤ left) (h2 : laws_toShipS.f k l0 = some l1) (h3 : spec_Duties.f k l1 = some (R, b)) (h4 : impl_Duties.f k l1 = some (R, b)) (h5 : laws_eqIntSS.f k R R = some true) (h6 : laws_eqShipS.f k l1 l1 = some true) (h7 : laws_markShipS.f k l1 1 = some (kk, lm)) (h8 : 0 ≤ kk)
    (h9 : mSS (laws_markIntS.f k) R 1 = some (m, R')) (h10 : laws_heldIntSS.f k R' 1 = some m) (h11 : 0 ≤ m) :
    Calls Try.prog 14 #[.slice A0 l0.length c0] w fun e w' => e = .returned (.bool true) ∧ Below w.heap.size w w' := by
  obtain ⟨n, hn⟩ : ∃ n, R.length = n := ⟨_, rfl⟩
  obtain ⟨n1, hn1⟩ : ∃ n, l1.length = n := ⟨_, rfl⟩
  have Hhr := Aside0.mk hr
  have Hhc := Aside0.mk hc
  have Hh1 := Aside0.mk h1
  have Hhl := Aside0.mk hl
  have Hh2 := Aside0.mk h2
  have Hh3 := Aside0.mk h3
  have Hh4 := Aside0.mk h4
  have Hh5 := Aside0.mk h5
  have Hh6 := Aside0.mk h6
  have Hh7 := Aside0.mk h7
  have Hh8 := Aside0.mk h8
  have Hh9 := Aside0.mk h9
  have Hh10 := Aside0.mk h10
  have Hh11 := Aside0.mk h11
  have Hhn := Aside0.mk hn
  have Hhn1 := Aside0.mk hn1
  clear hr hc h1 hl h2 h3 h4 h5 h6 h7 h8 h9 h10 h11 hn hn1
  have HB := Aside0.mk (Below.refl w.heap.size w)
  have t1 : decide (left < 0) = false := decide_eq_false (by have := Hhl.out; omega)
  have t2 : decide (kk < 0) = false := decide_eq_false (by have := Hh8.out; omega)
  have t3 : decide (m < 0) = false := decide_eq_false (by have := Hh11.out; omega)
  go_enter Try.func14, Try.ntmps14
  have ct := laws_szShipS.calls A0 c0 l0 1048576 left w Hhr.out Hhc.out Hh1.out
  go_wp2_with fail
  refine (ct).mono ?_
  rintro e w1 ⟨rfl, hd⟩
  clear ct
  have hb := hd.below
  clear hd
  have S1 := Aside0.mk hb.size
  replace HB := Aside0.mk (HB.out.trans (hb.mono HB.out.size))
  clear hb
  have ct := laws_toShipS.calls k A0 c0 l0 l1 w1 (Kd.C_below Hhr.out HB.out) Hhc.out Hh2.out
  go_wp2_with fail
  refine (ct).mono ?_
  rintro e w2 ⟨v_, rfl, ho, hb⟩
  clear ct
  have S2 := Aside0.mk hb.size
  replace HB := Aside0.mk (HB.out.trans (hb.mono HB.out.size))
  clear hb
  have Ha := Aside0.mk (RowR.new ho)
  obtain ⟨Aa, ca, rfl⟩ := Ha.out.slice
  rw [Hhn1.out] at Ha ⊢
  clear ho
  have ct := spec_Duties.calls k Aa ca l1 R b w2 Ha.out.reads.2.2 (by have q := Ha.out.reads; have := Hhn1.out; omega) Hh3.out
  rw [Hhn1.out] at ct
  go_wp2_with fail
  refine (ct).mono ?_
  rintro e w3 ⟨v_, rfl, ho, hb⟩
  clear ct
  replace Ha := Aside0.mk (Ha.out.below hb)
  have S3 := Aside0.mk hb.size
  replace HB := Aside0.mk (HB.out.trans (hb.mono HB.out.size))
  clear hb
  have Hs := Aside0.mk (RowS.new ho)
  obtain ⟨As, cs, rfl⟩ := Hs.out.slice
  rw [Hhn.out] at Hs ⊢
  clear ho
  clear Ha
  have ct := laws_toShipS.calls k A0 c0 l0 l1 w3 (Kd.C_below Hhr.out HB.out) Hhc.out Hh2.out
  go_wp2_with fail
  refine (ct).mono ?_
  rintro e w4 ⟨v_, rfl, ho, hb⟩
  clear ct
  replace Hs := Aside0.mk (Hs.out.below hb)
  have S4 := Aside0.mk hb.size
  replace HB := Aside0.mk (HB.out.trans (hb.mono HB.out.size))
  clear hb
  have Hx := Aside0.mk (RowR.new ho)
  obtain ⟨Ax, cx, rfl⟩ := Hx.out.slice
  rw [Hhn1.out] at Hx ⊢
  clear ho
  have ct := impl_Duties.calls k Ax cx l1 R b w4 Hx.out.reads.2.2 (by have q := Hx.out.reads; have := Hhn1.out; omega) Hh4.out
  rw [Hhn1.out] at ct
  go_wp2_with fail
  refine (ct).mono ?_
  rintro e w5 ⟨v_, rfl, ho, hb⟩
  clear ct
  replace Hs := Aside0.mk (Hs.out.below hb)
  replace Hx := Aside0.mk (Hx.out.below hb)
  have S5 := Aside0.mk hb.size
  replace HB := Aside0.mk (HB.out.trans (hb.mono HB.out.size))
  clear hb
  have Hg := Aside0.mk (RowS.new ho)
  obtain ⟨Ag, cg, rfl⟩ := Hg.out.slice
  rw [Hhn.out] at Hg ⊢
  clear ho
  have ct := laws_eqIntSS.calls k Ag cg R As cs R true w5 Hg.out.reads.2.2 (by have q := Hg.out.reads; have := Hhn.out; omega) Hs.out.reads.2.2 (by have q := Hs.out.reads; have := Hhn.out; omega) Hh5.out
  rw [Hhn.out] at ct
  go_wp2_with fail
  refine (ct).mono ?_
  rintro e w6 ⟨rfl, hd⟩
  clear ct
  have hb := hd.below
  clear hd
  replace Hs := Aside0.mk (Hs.out.below hb)
  replace Hx := Aside0.mk (Hx.out.below hb)
  replace Hg := Aside0.mk (Hg.out.below hb)
  have S6 := Aside0.mk hb.size
  replace HB := Aside0.mk (HB.out.trans (hb.mono HB.out.size))
  clear hb
  have ct := laws_toShipS.calls k A0 c0 l0 l1 w6 (Kd.C_below Hhr.out HB.out) Hhc.out Hh2.out
  go_wp2_with fail
  refine (ct).mono ?_
  rintro e w7 ⟨v_, rfl, ho, hb⟩
  clear ct
  replace Hs := Aside0.mk (Hs.out.below hb)
  replace Hx := Aside0.mk (Hx.out.below hb)
  replace Hg := Aside0.mk (Hg.out.below hb)
  have S7 := Aside0.mk hb.size
  replace HB := Aside0.mk (HB.out.trans (hb.mono HB.out.size))
  clear hb
  have Hy := Aside0.mk (RowR.new ho)
  obtain ⟨Ay, cy, rfl⟩ := Hy.out.slice
  rw [Hhn1.out] at Hy ⊢
  clear ho
  have ct := laws_eqShipS.calls k Ax cx l1 Ay cy l1 true w7 Hx.out.reads.2.2 (by have q := Hx.out.reads; have := Hhn1.out; omega) Hy.out.reads.2.2 (by have q := Hy.out.reads; have := Hhn1.out; omega) Hh6.out
  rw [Hhn1.out] at ct
  go_wp2_with fail
  refine (ct).mono ?_
  rintro e w8 ⟨rfl, hb⟩
  clear ct
  replace Hs := Aside0.mk (Hs.out.below hb)
  replace Hx := Aside0.mk (Hx.out.below hb)
  replace Hg := Aside0.mk (Hg.out.below hb)
  replace Hy := Aside0.mk (Hy.out.below hb)
  have S8 := Aside0.mk hb.size
  replace HB := Aside0.mk (HB.out.trans (hb.mono HB.out.size))
  clear hb
  clear Hy
  have ct := laws_markShipS.calls k (fun k => w3.heap.size ≤ k ∧ k < w4.heap.size) (.slice Ax n1 cx) l1 1 kk lm w w8 HB.out (Kd.R_lower Hx.out.out (by have q1 := S1.out; have q2 := S2.out; have q3 := S3.out; have q4 := S4.out; have q5 := S5.out; have q6 := S6.out; have q7 := S7.out; have q8 := S8.out; omega)) Hh7.out
  go_wp2_with fail
  refine (ct).mono ?_
  rintro e w9 ⟨rfl, _, hB, hk⟩
  clear ct
  clear Hx
  replace Hs := Aside0.mk (Hs.out.kept hk (fun k h1 h2 h3 => by have q1 := S1.out; have q2 := S2.out; have q3 := S3.out; have q4 := S4.out; have q5 := S5.out; have q6 := S6.out; have q7 := S7.out; have q8 := S8.out; omega))
  replace Hg := Aside0.mk (Hg.out.kept hk (fun k h1 h2 h3 => by have q1 := S1.out; have q2 := S2.out; have q3 := S3.out; have q4 := S4.out; have q5 := S5.out; have q6 := S6.out; have q7 := S7.out; have q8 := S8.out; omega))
  have S9 := Aside0.mk hk.1
  replace HB := Aside0.mk hB
  clear hB hk
  have ct := laws_eqIntSS.calls k Ag cg R As cs R true w9 Hg.out.reads.2.2 (by have q := Hg.out.reads; have := Hhn.out; omega) Hs.out.reads.2.2 (by have q := Hs.out.reads; have := Hhn.out; omega) Hh5.out
  rw [Hhn.out] at ct
  go_wp2_with fail
  refine (ct).mono ?_
  rintro e w10 ⟨rfl, hd⟩
  clear ct
  have hb := hd.below
  clear hd
  replace Hs := Aside0.mk (Hs.out.below hb)
  replace Hg := Aside0.mk (Hg.out.below hb)
  have S10 := Aside0.mk hb.size
  replace HB := Aside0.mk (HB.out.trans (hb.mono HB.out.size))
  clear hb
  have ct := markSS_any (laws_markIntS.f k) (fun P u x a r x' w0 W hB ho h => laws_markIntS.calls k P u x a r x' w0 W hB ho h) (fun k => w4.heap.size ≤ k ∧ k < w5.heap.size) Ag cg R R' 1 m w w10 HB.out (by rw [Hhn.out]; exact Kd.S_lower Hg.out.out (by have q1 := S1.out; have q2 := S2.out; have q3 := S3.out; have q4 := S4.out; have q5 := S5.out; have q6 := S6.out; have q7 := S7.out; have q8 := S8.out; have q9 := S9.out; have q10 := S10.out; omega)) Hh9.out
  rw [Hhn.out] at ct
  go_wp2_with fail
  refine (ct).mono ?_
  rintro e w11 ⟨rfl, hg, hB, hk⟩
  clear ct
  replace Hs := Aside0.mk (Hs.out.kept hk (fun k h1 h2 h3 => by have q1 := S1.out; have q2 := S2.out; have q3 := S3.out; have q4 := S4.out; have q5 := S5.out; have q6 := S6.out; have q7 := S7.out; have q8 := S8.out; have q9 := S9.out; have q10 := S10.out; omega))
  replace Hg := Aside0.mk (RowS.mk (Kd.S_mono hg (fun k hk => (⟨by have := hk.1; have q1 := S1.out; have q2 := S2.out; have q3 := S3.out; have q4 := S4.out; have q5 := S5.out; have q6 := S6.out; have q7 := S7.out; have q8 := S8.out; have q9 := S9.out; have q10 := S10.out; omega, hk.2⟩ : w.heap.size ≤ k ∧ k < w5.heap.size))))
  have S11 := Aside0.mk hk.1
  replace HB := Aside0.mk hB
  clear hB hk hg
  have ct := laws_heldIntSS.calls k Ag cg R' 1 m w11 Hg.out.reads.2.2 (by have q := Hg.out.reads; omega) Hh10.out
  rw [← Hg.out.reads.1] at ct
  go_wp2_with fail
  refine (ct).mono ?_
  rintro e w12 ⟨rfl, hd⟩
  clear ct
  have hb := hd.below
  clear hd
  replace Hs := Aside0.mk (Hs.out.below hb)
  replace Hg := Aside0.mk (Hg.out.below hb)
  have S12 := Aside0.mk hb.size
  replace HB := Aside0.mk (HB.out.trans (hb.mono HB.out.size))
  clear hb
  have ct := laws_toShipS.calls k A0 c0 l0 l1 w12 (Kd.C_below Hhr.out HB.out) Hhc.out Hh2.out
  go_wp2_with fail
  refine (ct).mono ?_
  rintro e w13 ⟨v_, rfl, ho, hb⟩
  clear ct
  replace Hs := Aside0.mk (Hs.out.below hb)
  replace Hg := Aside0.mk (Hg.out.below hb)
  have S13 := Aside0.mk hb.size
  replace HB := Aside0.mk (HB.out.trans (hb.mono HB.out.size))
  clear hb
  have Hz := Aside0.mk (RowR.new ho)
  obtain ⟨Az, cz, rfl⟩ := Hz.out.slice
  rw [Hhn1.out] at Hz ⊢
  clear ho
  have ct := impl_Duties.calls k Az cz l1 R b w13 Hz.out.reads.2.2 (by have q := Hz.out.reads; have := Hhn1.out; omega) Hh4.out
  rw [Hhn1.out] at ct
  go_wp2_with fail
  refine (ct).mono ?_
  rintro e w14 ⟨v_, rfl, ho, hb⟩
  clear ct
  replace Hs := Aside0.mk (Hs.out.below hb)
  replace Hg := Aside0.mk (Hg.out.below hb)
  replace Hz := Aside0.mk (Hz.out.below hb)
  have S14 := Aside0.mk hb.size
  replace HB := Aside0.mk (HB.out.trans (hb.mono HB.out.size))
  clear hb
  have Hh := Aside0.mk (RowS.new ho)
  obtain ⟨Ah, ch, rfl⟩ := Hh.out.slice
  rw [Hhn.out] at Hh ⊢
  clear ho
  clear Hz
  have ct := laws_eqIntSS.calls k Ah ch R As cs R true w14 Hh.out.reads.2.2 (by have q := Hh.out.reads; have := Hhn.out; omega) Hs.out.reads.2.2 (by have q := Hs.out.reads; have := Hhn.out; omega) Hh5.out
  rw [Hhn.out] at ct
  go_wp2_with fail
  refine (ct).mono ?_
  rintro e w15 ⟨rfl, hd⟩
  clear ct
  have hb := hd.below
  clear hd
  replace Hs := Aside0.mk (Hs.out.below hb)
  replace Hg := Aside0.mk (Hg.out.below hb)
  replace Hh := Aside0.mk (Hh.out.below hb)
  have S15 := Aside0.mk hb.size
  replace HB := Aside0.mk (HB.out.trans (hb.mono HB.out.size))
  clear hb
  have ct := laws_heldIntSS.calls k Ag cg R' 1 m w15 Hg.out.reads.2.2 (by have q := Hg.out.reads; omega) Hh10.out
  rw [← Hg.out.reads.1] at ct
  go_wp2_with fail
  refine (ct).mono ?_
  rintro e w16 ⟨rfl, hd⟩
  clear ct
  have hb := hd.below
  clear hd
  replace Hs := Aside0.mk (Hs.out.below hb)
  replace Hg := Aside0.mk (Hg.out.below hb)
  replace Hh := Aside0.mk (Hh.out.below hb)
  have S16 := Aside0.mk hb.size
  replace HB := Aside0.mk (HB.out.trans (hb.mono HB.out.size))
  clear hb
  go_wp2
  go_ret
  exact ⟨rfl, HB.out⟩
end Go.Proofs.Ytfbokdbaondjdaa.Lw
/- The plain part for Duty: Behind. -/
namespace Go.Proofs.Ytfbokdbaondjdaa.Bh
open Go.RowKit Go.Proofs.Ytfbokdbaondjdaa.PV1 Go.Proofs.YtfbokdbaondjdaaW.PrintWords
set_option linter.unusedVariables false
theorem beh_in (a b c : Int) : spec_l1In.f a b c = some (decide (b ≤ a ∧ a ≤ c)) := by
  unfold spec_l1In.f
  by_cases h : b ≤ a
  · rw [if_pos h]; simp [h]
  · rw [if_neg h]; simp [h]
theorem beh_in' (a b c : Int) : impl_in.f a b c = some (decide (b ≤ a ∧ a ≤ c)) := by
  unfold impl_in.f
  by_cases h : b ≤ a
  · rw [if_pos h]; simp [h]
  · rw [if_neg h]; simp [h]
theorem beh_ship (a b c d e f : Int) : ∃ r, spec_ShipOk.f a b c d e f = some r ∧ impl_ShipOk.f a b c d e f = some r ∧ (r = true → (-100000 ≤ a ∧ a ≤ 100000) ∧ (-100000 ≤ b ∧ b ≤ 100000) ∧ (-1000 ≤ c ∧ c ≤ 1000) ∧ (-1000 ≤ d ∧ d ≤ 1000)) := by
  unfold spec_ShipOk.f impl_ShipOk.f
  simp only [beh_in, beh_in', Option.bind_some]
  repeat' split
  all_goals simp_all

theorem w64 (x : Int) (h0 : -9223372036854775808 ≤ x) (h1 : x < 9223372036854775808) : wrap64 x = x := by
  unfold wrap64
  omega
theorem u64w (x : Int) (h0 : 0 ≤ x) (h1 : x < 18446744073709551616) : IntKind.u64.wrap x = x := by
  have : IntKind.u64.wrap x = x % 18446744073709551616 := by simp [IntKind.wrap, IntKind.bits, IntKind.signed]
  omega
theorem prod (a b m n : Int) (ha : -m ≤ a ∧ a ≤ m) (hb : -n ≤ b ∧ b ≤ n) : -(m * n) ≤ a * b ∧ a * b ≤ m * n := by
  have e1 : 0 ≤ (m - a) * (n + b) := Int.mul_nonneg (by omega) (by omega)
  have e2 : 0 ≤ (m + a) * (n - b) := Int.mul_nonneg (by omega) (by omega)
  have e3 : 0 ≤ (m - a) * (n - b) := Int.mul_nonneg (by omega) (by omega)
  have e4 : 0 ≤ (m + a) * (n + b) := Int.mul_nonneg (by omega) (by omega)
  have f1 : (m - a) * (n + b) = m * n + m * b - a * n - a * b := by grind
  have f2 : (m + a) * (n - b) = m * n - m * b + a * n - a * b := by grind
  have f3 : (m - a) * (n - b) = m * n - m * b - a * n + a * b := by grind
  have f4 : (m + a) * (n + b) = m * n + m * b + a * n + a * b := by grind
  omega
theorem sq (a m : Int) (ha : -m ≤ a ∧ a ≤ m) : 0 ≤ a * a ∧ a * a ≤ m * m := by
  have h1 := prod a a m m ha ha
  have h2 : 0 ≤ a * a := by
    rcases Int.le_total 0 a with h | h
    · exact Int.mul_nonneg h h
    · exact Int.mul_nonneg_of_nonpos_of_nonpos h h
  omega
theorem least (a b : Int) (ha : -400000000 ≤ a ∧ a ≤ 400000000) (hb : -400000000 ≤ b ∧ b ≤ 400000000) : spec_l8Least.f a 5 b 29 = some (decide (5 * (a * a) ≤ 29 * (b * b))) := by
  have hA := sq a 400000000 ha
  have hB := sq b 400000000 hb
  unfold spec_l8Least.f
  generalize a * a = A at *
  generalize b * b = B at *
  rw [w64 A (by omega) (by omega), w64 B (by omega) (by omega)]
  simp only [Int.tdiv_eq_ediv_of_nonneg hA.1, Int.tdiv_eq_ediv_of_nonneg hB.1, Int.tmod_eq_emod_of_nonneg hA.1, Int.tmod_eq_emod_of_nonneg hB.1]
  rw [w64 (A / 1048576) (by omega) (by omega), w64 (B / 1048576) (by omega) (by omega)]
  rw [w64 (5 * (A / 1048576)) (by omega) (by omega), w64 (29 * (B / 1048576)) (by omega) (by omega)]
  rw [w64 (5 * (A % 1048576)) (by omega) (by omega), w64 (29 * (B % 1048576)) (by omega) (by omega)]
  have pA : (0 : Int) ≤ 5 * (A % 1048576) := by omega
  have pB : (0 : Int) ≤ 29 * (B % 1048576) := by omega
  simp only [Int.tdiv_eq_ediv_of_nonneg pA, Int.tdiv_eq_ediv_of_nonneg pB, Int.tmod_eq_emod_of_nonneg pA, Int.tmod_eq_emod_of_nonneg pB]
  rw [w64 (5 * (A % 1048576) / 1048576) (by omega) (by omega), w64 (29 * (B % 1048576) / 1048576) (by omega) (by omega)]
  rw [w64 (5 * (A / 1048576) + 5 * (A % 1048576) / 1048576) (by omega) (by omega), w64 (29 * (B / 1048576) + 29 * (B % 1048576) / 1048576) (by omega) (by omega)]
  split
  · congr 1
    apply decide_eq_decide.2
    omega
  · congr 1
    apply decide_eq_decide.2
    omega
theorem square (a : Int) (ha : -400000000 ≤ a ∧ a ≤ 400000000) : impl_square.f a = some (a * a) := by
  have hA := sq a 400000000 ha
  unfold impl_square.f impl_size.f
  by_cases h : a < 0
  · rw [if_pos h]
    simp only [Option.bind_some]
    rw [w64 (-a) (by omega) (by omega), u64w (-a) (by omega) (by omega)]
    have e : -a * -a = a * a := by grind
    rw [e, u64w (a * a) (by omega) (by omega)]
  · rw [if_neg h]
    simp only [Option.bind_some]
    rw [u64w a (by omega) (by omega), u64w (a * a) (by omega) (by omega)]

def leastV (a p b q : Int) : Bool := (spec_l8Least.f a p b q).getD false
theorem least_eq (a p b q : Int) : spec_l8Least.f a p b q = some (leastV a p b q) := by
  unfold leastV
  unfold spec_l8Least.f
  split <;> rfl
def squareV (a : Int) : Int := (impl_square.f a).getD 0
theorem square_eq (a : Int) : impl_square.f a = some (squareV a) := by
  unfold squareV
  unfold impl_square.f impl_size.f
  split <;> rfl
theorem beh_same (k : Nat) (a b c d e f a' b' c' d' e' f' : Int) : ∃ r, spec_Behind.f k a b c d e f a' b' c' d' e' f' = some r ∧ impl_Behind.f k a b c d e f a' b' c' d' e' f' = some r := by
  obtain ⟨r, h1, h2, h3⟩ := beh_ship a b c d e f
  obtain ⟨r', h1', h2', h3'⟩ := beh_ship a' b' c' d' e' f'
  unfold spec_Behind.f impl_Behind.f
  rw [h1, h2, h1', h2']
  unfold spec_l8Bearing.f spec_l8Cross.f spec_l8Dot.f impl_bearing.f impl_vec_dot.f impl_vec_cross.f
  simp only [Option.bind_some]
  cases hr : (r && r') with
  | false =>
    simp only [least_eq, square_eq, Option.bind_some, Bool.false_and]
    exact ⟨_, rfl, rfl⟩
  | true =>
    simp only [Bool.true_and]
    obtain ⟨hr1, hr2⟩ := Bool.and_eq_true_iff.1 hr
    obtain ⟨A1, A2, A3, A4⟩ := h3 hr1
    obtain ⟨B1, B2, B3, B4⟩ := h3' hr2
    rw [w64 (a - a') (by omega) (by omega), w64 (b - b') (by omega) (by omega)]
    have D1 : -200000 ≤ a - a' ∧ a - a' ≤ 200000 := by omega
    have D2 : -200000 ≤ b - b' ∧ b - b' ≤ 200000 := by omega
    have p1 := prod _ _ _ _ D1 B4
    have p2 := prod _ _ _ _ D2 B3
    have p3 := prod _ _ _ _ D1 B3
    have p4 := prod _ _ _ _ D2 B4
    generalize (a - a') * d' = q1 at *
    generalize (b - b') * c' = q2 at *
    generalize (a - a') * c' = q3 at *
    generalize (b - b') * d' = q4 at *
    rw [w64 q1 (by omega) (by omega), w64 q2 (by omega) (by omega), w64 q3 (by omega) (by omega), w64 q4 (by omega) (by omega)]
    rw [w64 (q1 - q2) (by omega) (by omega), w64 (q3 + q4) (by omega) (by omega)]
    have hc : -400000000 ≤ q1 - q2 ∧ q1 - q2 ≤ 400000000 := by omega
    have hd : -400000000 ≤ q3 + q4 ∧ q3 + q4 ≤ 400000000 := by omega
    rw [least _ _ hc hd, square _ hc, square _ hd]
    have hA := sq _ _ hc
    have hB := sq _ _ hd
    simp only [Option.bind_some]
    generalize (q1 - q2) * (q1 - q2) = X at *
    generalize (q3 + q4) * (q3 + q4) = Y at *
    rw [u64w (X * 5) (by omega) (by omega), u64w (Y * 29) (by omega) (by omega)]
    refine ⟨_, rfl, ?_⟩
    have e1 : decide (X * 5 ≤ Y * 29) = decide (5 * X ≤ 29 * Y) := decide_eq_decide.2 (by omega)
    rw [e1]
end Go.Proofs.Ytfbokdbaondjdaa.Bh
/- The plain part for Duty: HeadOn. -/
namespace Go.Proofs.Ytfbokdbaondjdaa.Ho
open Go.RowKit Go.Proofs.Ytfbokdbaondjdaa.Bh Go.Proofs.Ytfbokdbaondjdaa.PV1 Go.Proofs.YtfbokdbaondjdaaW.PrintWords
set_option linter.unusedVariables false
theorem least1 (a b : Int) (ha : -400000000 ≤ a ∧ a ≤ 400000000) (hb : -400000000 ≤ b ∧ b ≤ 400000000) : spec_l8Least.f a 100 b 1 = some (decide (100 * (a * a) ≤ b * b)) := by
  have hA := sq a 400000000 ha
  have hB := sq b 400000000 hb
  unfold spec_l8Least.f
  generalize a * a = A at *
  generalize b * b = B at *
  rw [w64 A (by omega) (by omega), w64 B (by omega) (by omega)]
  simp only [Int.tdiv_eq_ediv_of_nonneg hA.1, Int.tdiv_eq_ediv_of_nonneg hB.1, Int.tmod_eq_emod_of_nonneg hA.1, Int.tmod_eq_emod_of_nonneg hB.1]
  rw [w64 (A / 1048576) (by omega) (by omega), w64 (B / 1048576) (by omega) (by omega)]
  rw [w64 (100 * (A / 1048576)) (by omega) (by omega), w64 (1 * (B / 1048576)) (by omega) (by omega)]
  rw [w64 (100 * (A % 1048576)) (by omega) (by omega), w64 (1 * (B % 1048576)) (by omega) (by omega)]
  have pA : (0 : Int) ≤ 100 * (A % 1048576) := by omega
  have pB : (0 : Int) ≤ 1 * (B % 1048576) := by omega
  simp only [Int.tdiv_eq_ediv_of_nonneg pA, Int.tdiv_eq_ediv_of_nonneg pB, Int.tmod_eq_emod_of_nonneg pA, Int.tmod_eq_emod_of_nonneg pB]
  rw [w64 (100 * (A % 1048576) / 1048576) (by omega) (by omega), w64 (1 * (B % 1048576) / 1048576) (by omega) (by omega)]
  rw [w64 (100 * (A / 1048576) + 100 * (A % 1048576) / 1048576) (by omega) (by omega), w64 (1 * (B / 1048576) + 1 * (B % 1048576) / 1048576) (by omega) (by omega)]
  split
  · congr 1
    apply decide_eq_decide.2
    omega
  · congr 1
    apply decide_eq_decide.2
    omega
theorem ahead_same (a b c d e f a' b' c' d' e' f' : Int) (A1 : -100000 ≤ a ∧ a ≤ 100000) (A2 : -100000 ≤ b ∧ b ≤ 100000) (A3 : -1000 ≤ c ∧ c ≤ 1000) (A4 : -1000 ≤ d ∧ d ≤ 1000) (B1 : -100000 ≤ a' ∧ a' ≤ 100000) (B2 : -100000 ≤ b' ∧ b' ≤ 100000) : ∃ r, spec_l8Ahead.f a b c d e f a' b' c' d' e' f' = some r ∧ impl_ahead.f (wrap64 (a' - a)) (wrap64 (b' - b)) c d = some r := by
  unfold spec_l8Ahead.f impl_ahead.f spec_l8Bearing.f spec_l8Dot.f spec_l8Cross.f impl_vec_dot.f impl_vec_cross.f
  simp only [Option.bind_some]
  rw [w64 (a' - a) (by omega) (by omega), w64 (b' - b) (by omega) (by omega)]
  have D1 : -200000 ≤ a' - a ∧ a' - a ≤ 200000 := by omega
  have D2 : -200000 ≤ b' - b ∧ b' - b ≤ 200000 := by omega
  have p1 := prod _ _ _ _ D1 A4
  have p2 := prod _ _ _ _ D2 A3
  have p3 := prod _ _ _ _ D1 A3
  have p4 := prod _ _ _ _ D2 A4
  generalize (a' - a) * d = q1 at *
  generalize (b' - b) * c = q2 at *
  generalize (a' - a) * c = q3 at *
  generalize (b' - b) * d = q4 at *
  rw [w64 q1 (by omega) (by omega), w64 q2 (by omega) (by omega), w64 q3 (by omega) (by omega), w64 q4 (by omega) (by omega)]
  rw [w64 (q1 - q2) (by omega) (by omega), w64 (q3 + q4) (by omega) (by omega)]
  have hc : -400000000 ≤ q1 - q2 ∧ q1 - q2 ≤ 400000000 := by omega
  have hd : -400000000 ≤ q3 + q4 ∧ q3 + q4 ≤ 400000000 := by omega
  rw [least1 _ _ hc hd, square _ hc, square _ hd]
  have hA := sq _ _ hc
  have hB := sq _ _ hd
  simp only [Option.bind_some]
  generalize (q1 - q2) * (q1 - q2) = X at *
  generalize (q3 + q4) * (q3 + q4) = Y at *
  rw [u64w (X * 100) (by omega) (by omega)]
  refine ⟨_, rfl, ?_⟩
  have e1 : decide (X * 100 ≤ Y) = decide (100 * X ≤ Y) := decide_eq_decide.2 (by omega)
  rw [e1]
  split
  · rename_i hn
    rw [decide_eq_true hn, Bool.true_and]
  · rename_i hn
    rw [decide_eq_false hn, Bool.false_and]

def aheadV (a b c d : Int) : Bool := (impl_ahead.f a b c d).getD false
theorem ahead_eq (a b c d : Int) : impl_ahead.f a b c d = some (aheadV a b c d) := by
  unfold aheadV
  unfold impl_ahead.f impl_vec_dot.f impl_vec_cross.f
  simp only [Option.bind_some, square_eq]
  split <;> rfl
def aheadW (a b c d e f a' b' c' d' e' f' : Int) : Bool := (spec_l8Ahead.f a b c d e f a' b' c' d' e' f').getD false
theorem aheadW_eq (a b c d e f a' b' c' d' e' f' : Int) : spec_l8Ahead.f a b c d e f a' b' c' d' e' f' = some (aheadW a b c d e f a' b' c' d' e' f') := by
  unfold aheadW
  unfold spec_l8Ahead.f spec_l8Bearing.f spec_l8Dot.f spec_l8Cross.f
  simp only [Option.bind_some, least_eq]
  rfl
theorem beh_same (k : Nat) (a b c d e f a' b' c' d' e' f' : Int) : ∃ r, spec_HeadOn.f k a b c d e f a' b' c' d' e' f' = some r ∧ impl_HeadOn.f k a b c d e f a' b' c' d' e' f' = some r := by
  obtain ⟨r, h1, h2, h3⟩ := beh_ship a b c d e f
  obtain ⟨r', h1', h2', h3'⟩ := beh_ship a' b' c' d' e' f'
  unfold spec_HeadOn.f impl_HeadOn.f
  rw [h1, h2, h1', h2']
  unfold spec_l8Cross.f spec_l8Dot.f impl_bearing.f impl_vec_dot.f impl_vec_cross.f
  simp only [Option.bind_some]
  cases hr : (r && r') with
  | false =>
    simp only [least_eq, square_eq, ahead_eq, aheadW_eq, Option.bind_some, Bool.false_and]
    exact ⟨_, rfl, rfl⟩
  | true =>
    simp only [Bool.true_and]
    obtain ⟨hr1, hr2⟩ := Bool.and_eq_true_iff.1 hr
    obtain ⟨A1, A2, A3, A4⟩ := h3 hr1
    obtain ⟨B1, B2, B3, B4⟩ := h3' hr2
    obtain ⟨x1, s1, i1⟩ := ahead_same a b c d e f a' b' c' d' e' f' A1 A2 A3 A4 B1 B2
    obtain ⟨x2, s2, i2⟩ := ahead_same a' b' c' d' e' f' a b c d e f B1 B2 B3 B4 A1 A2
    rw [s1, s2, i1]
    simp only [Option.bind_some]
    rw [i2]
    simp only [Option.bind_some]
    have p1 := prod _ _ _ _ A3 B4
    have p2 := prod _ _ _ _ A4 B3
    have p3 := prod _ _ _ _ A3 B3
    have p4 := prod _ _ _ _ A4 B4
    generalize c * d' = q1 at *
    generalize d * c' = q2 at *
    generalize c * c' = q3 at *
    generalize d * d' = q4 at *
    rw [w64 q1 (by omega) (by omega), w64 q2 (by omega) (by omega), w64 q3 (by omega) (by omega), w64 q4 (by omega) (by omega)]
    rw [w64 (q1 - q2) (by omega) (by omega), w64 (q3 + q4) (by omega) (by omega)]
    have hc : -400000000 ≤ q1 - q2 ∧ q1 - q2 ≤ 400000000 := by omega
    have hd : -400000000 ≤ q3 + q4 ∧ q3 + q4 ≤ 400000000 := by omega
    rw [least1 _ _ hc hd, square _ hc, square _ hd]
    have hA := sq _ _ hc
    have hB := sq _ _ hd
    simp only [Option.bind_some]
    generalize (q1 - q2) * (q1 - q2) = X at *
    generalize (q3 + q4) * (q3 + q4) = Y at *
    rw [u64w (X * 100) (by omega) (by omega)]
    refine ⟨_, rfl, ?_⟩
    have e1 : decide (X * 100 ≤ Y) = decide (100 * X ≤ Y) := decide_eq_decide.2 (by omega)
    rw [e1]
end Go.Proofs.Ytfbokdbaondjdaa.Ho
/- The plain part for Duty. -/
namespace Go.Proofs.Ytfbokdbaondjdaa.Dp
open Go.RowKit Go.Proofs.Ytfbokdbaondjdaa.PV1 Go.Proofs.YtfbokdbaondjdaaW.PrintWords Go.Proofs.Ytfbokdbaondjdaa.Du
set_option linter.unusedVariables false
theorem Ev.ret {α : Type} {g : Nat → Option α} {r : α} (h : ∀ k, g (k + 1) = some r) : Ev g r := ⟨1, fun k hk => by obtain ⟨m, rfl⟩ : ∃ m, k = m + 1 := ⟨k - 1, by omega⟩; exact h m⟩
theorem Ev.const {α : Type} {g : Nat → Option α} {r : α} (h : ∀ k, g k = some r) : Ev g r := ⟨0, fun k _ => h k⟩
theorem ev_up {α : Type} {g : Nat → Option α} {r : α} (hm : ∀ k, LeO (g k) (g (k + 1))) (h : g 1 = some r) : Ev g r := by
  refine ⟨1, fun k hk => ?_⟩
  induction k with
  | zero => omega
  | succ k ih =>
    by_cases e : k = 0
    · subst e; exact h
    · exact hm k r (ih (by omega))
theorem right_same (a b c d e f a' b' c' d' e' f' : Int) : ∃ r, spec_l8Right.f a b c d e f a' b' c' d' e' f' = some r ∧ impl_right.f a b c d e f a' b' c' d' e' f' = some r := ⟨_, rfl, rfl⟩
def dotF (a b c d a' b' c' d' : Int) : Int := wrap64 (wrap64 (wrap64 (a' - a) * wrap64 (c' - c)) + wrap64 (wrap64 (b' - b) * wrap64 (d' - d)))
theorem clos (a b c d e f a' b' c' d' e' f' : Int) : impl_closing.f a b c d e f a' b' c' d' e' f' = some (decide (dotF a b c d a' b' c' d' < 0)) := by
  unfold impl_closing.f impl_bearing.f impl_vec_dot.f dotF
  simp only [Option.bind_some]
  split
  · rfl
  · rename_i h
    simp only [Bool.not_eq_true, Bool.or_eq_false_iff, Bool.not_eq_false', beq_iff_eq] at h
    rw [h.1, h.2, Int.zero_mul, Int.zero_mul]
    have e0 : wrap64 0 = 0 := by unfold wrap64; omega
    rw [e0, Int.zero_add, e0]
    rfl
theorem duty_both (a b c d e f a' b' c' d' e' f' : Int) : ∃ x, Ev (fun k => spec_Duty.f k a b c d e f a' b' c' d' e' f') x ∧ Ev (fun k => impl_Duty.f k a b c d e f a' b' c' d' e' f') x := by
  obtain ⟨s1, p1, q1, _⟩ := Bh.beh_ship a b c d e f
  obtain ⟨s2, p2, q2, _⟩ := Bh.beh_ship a' b' c' d' e' f'
  obtain ⟨x1, p3, q3⟩ := Bh.beh_same 1 a b c d e f a' b' c' d' e' f'
  obtain ⟨x2, p4, q4⟩ := Bh.beh_same 1 a' b' c' d' e' f' a b c d e f
  obtain ⟨ho, p5, q5⟩ := Ho.beh_same 1 a b c d e f a' b' c' d' e' f'
  obtain ⟨r1, p6, q6⟩ := right_same a b c d e f a' b' c' d' e' f'
  obtain ⟨r2, p7, q7⟩ := right_same a' b' c' d' e' f' a b c d e f
  have P3 := ev_up (g := fun k => spec_Behind.f k a b c d e f a' b' c' d' e' f') (fun k => spec_Behind.mono a b c d e f a' b' c' d' e' f' k) p3
  have P4 := ev_up (g := fun k => spec_Behind.f k a' b' c' d' e' f' a b c d e f) (fun k => spec_Behind.mono a' b' c' d' e' f' a b c d e f k) p4
  have P5 := ev_up (g := fun k => spec_HeadOn.f k a b c d e f a' b' c' d' e' f') (fun k => spec_HeadOn.mono a b c d e f a' b' c' d' e' f' k) p5
  have Q3 := ev_up (g := fun k => impl_Behind.f k a b c d e f a' b' c' d' e' f') (fun k => impl_Behind.mono a b c d e f a' b' c' d' e' f' k) q3
  have Q4 := ev_up (g := fun k => impl_Behind.f k a' b' c' d' e' f' a b c d e f) (fun k => impl_Behind.mono a' b' c' d' e' f' a b c d e f k) q4
  have Q5 := ev_up (g := fun k => impl_HeadOn.f k a b c d e f a' b' c' d' e' f') (fun k => impl_HeadOn.mono a b c d e f a' b' c' d' e' f' k) q5
  refine ⟨dutyF s1 s2 (decide (dotF a b c d a' b' c' d' < 0)) x1 x2 ho r1 r2 e e' f f', ?_, ?_⟩
  · have J5 : ∀ v : Bool, Ev (fun k => spec_Duty.j5 k v a b c d e f a' b' c' d' e' f') (if v = true then 1 else if f < f' then 2 else if f > f' then 1 else 3) := fun v => Ev.ret fun k => by
      simp only [spec_Duty.j5]
      repeat' split
      all_goals rfl
    have J4 : ∀ v : Bool, Ev (fun k => spec_Duty.j4 k r1 r2 v a b c d e f a' b' c' d' e' f') (if v = true then 2 else if (r2 && !r1) = true then 1 else if f < f' then 2 else if f > f' then 1 else 3) := fun v => by
      cases v
      · refine Ev.step (f := fun k => spec_Duty.j5 k (r2 && !r1) a b c d e f a' b' c' d' e' f') (fun k => ?_) (J5 _)
        simp only [spec_Duty.j4, Bool.false_eq_true, if_false]
        cases r2
        · rfl
        · rfl
      · exact Ev.ret fun k => by simp only [spec_Duty.j4, if_true]
    have J3 : Ev (fun k => spec_Duty.j3 k a b c d e f a' b' c' d' e' f') (if (r1 != r2) = true then dInt r1 r2 else if (decide (f < f') != decide (f' < f)) = true then dInt (decide (f < f')) (decide (f' < f)) else 3) := by
      have e1 : (if (r1 && !r2) = true then (2 : Int) else if (r2 && !r1) = true then 1 else if f < f' then 2 else if f > f' then 1 else 3) = (if (r1 != r2) = true then dInt r1 r2 else if (decide (f < f') != decide (f' < f)) = true then dInt (decide (f < f')) (decide (f' < f)) else 3) := by
        by_cases h1 : f < f'
        · have h2 : ¬ f' < f := by omega
          cases r1 <;> cases r2 <;> simp [dInt, h1, h2]
        · by_cases h2 : f' < f
          · cases r1 <;> cases r2 <;> simp [dInt, h1, h2]
          · cases r1 <;> cases r2 <;> simp [dInt, h1, h2]
      rw [← e1]
      refine Ev.step (f := fun k => spec_Duty.j4 k r1 r2 (r1 && !r2) a b c d e f a' b' c' d' e' f') (fun k => ?_) (J4 _)
      simp only [spec_Duty.j3]
      rw [p6, p7]
      cases r1
      · rfl
      · rfl
    have J2 : ∀ v : Bool, Ev (fun k => spec_Duty.j2 k v a b c d e f a' b' c' d' e' f') (if v = true then 1 else if e < e' then 2 else if e > e' then 1 else if (ho && decide (e = 1)) = true then 3 else (if (r1 != r2) = true then dInt r1 r2 else if (decide (f < f') != decide (f' < f)) = true then dInt (decide (f < f')) (decide (f' < f)) else 3)) := fun v => by
      cases v
      · by_cases h1 : e < e'
        · exact Ev.ret fun k => by simp only [spec_Duty.j2, Bool.false_eq_true, if_false]; rw [if_pos h1, if_pos h1]
        · by_cases h2 : e > e'
          · exact Ev.ret fun k => by simp only [spec_Duty.j2, Bool.false_eq_true, if_false]; rw [if_neg h1, if_pos h2, if_neg h1, if_pos h2]
          · refine Ev.step (f := fun k => (spec_HeadOn.f k a b c d e f a' b' c' d' e' f').bind fun t => if t = true then (if e = 1 then some 3 else spec_Duty.j3 k a b c d e f a' b' c' d' e' f') else spec_Duty.j3 k a b c d e f a' b' c' d' e' f') (fun k => by simp only [spec_Duty.j2, Bool.false_eq_true, if_false]; rw [if_neg h1, if_neg h2]) (Ev.bind P5 ?_)
            simp only [Bool.false_eq_true, if_false]
            rw [if_neg h1, if_neg h2]
            cases ho
            · exact J3
            · by_cases h3 : e = 1
              · exact Ev.const fun k => by simp [h3]
              · refine Ev.congr (fun k => ?_) (by rw [decide_eq_false h3]; exact J3)
                rw [if_pos rfl, if_neg h3]
      · exact Ev.ret fun k => by simp only [spec_Duty.j2, if_true]
    have J1 : ∀ v : Bool, Ev (fun k => spec_Duty.j1 k x1 x2 v a b c d e f a' b' c' d' e' f') (if v = true then 2 else if (x2 && !x1) = true then 1 else if e < e' then 2 else if e > e' then 1 else if (ho && decide (e = 1)) = true then 3 else (if (r1 != r2) = true then dInt r1 r2 else if (decide (f < f') != decide (f' < f)) = true then dInt (decide (f < f')) (decide (f' < f)) else 3)) := fun v => by
      cases v
      · refine Ev.step (f := fun k => spec_Duty.j2 k (x2 && !x1) a b c d e f a' b' c' d' e' f') (fun k => ?_) (J2 _)
        simp only [spec_Duty.j1, Bool.false_eq_true, if_false]
        cases x2
        · rfl
        · rfl
      · exact Ev.ret fun k => by simp only [spec_Duty.j1, if_true]
    have J0 : ∀ v : Bool, Ev (fun k => spec_Duty.j0 k v a b c d e f a' b' c' d' e' f') (if v = true then 4 else if dotF a b c d a' b' c' d' ≥ 0 then 0 else if (x1 && !x2) = true then 2 else if (x2 && !x1) = true then 1 else if e < e' then 2 else if e > e' then 1 else if (ho && decide (e = 1)) = true then 3 else (if (r1 != r2) = true then dInt r1 r2 else if (decide (f < f') != decide (f' < f)) = true then dInt (decide (f < f')) (decide (f' < f)) else 3)) := fun v => by
      cases v
      · by_cases h1 : dotF a b c d a' b' c' d' ≥ 0
        · refine Ev.ret fun k => ?_
          simp only [spec_Duty.j0, Bool.false_eq_true, if_false, spec_l8Bearing.f, spec_l8Diff.f, spec_l8Dot.f, Option.bind_some]
          exact (if_pos h1).trans (by rw [if_pos h1])
        · refine Ev.step (f := fun k => (spec_Behind.f k a b c d e f a' b' c' d' e' f').bind fun t => (spec_Behind.f k a' b' c' d' e' f' a b c d e f).bind fun t' => if t = true then spec_Duty.j1 k t t' (!t') a b c d e f a' b' c' d' e' f' else spec_Duty.j1 k t t' false a b c d e f a' b' c' d' e' f') (fun k => ?_) (Ev.bind P3 (Ev.bind P4 ?_))
          · simp only [spec_Duty.j0, Bool.false_eq_true, if_false, spec_l8Bearing.f, spec_l8Diff.f, spec_l8Dot.f, Option.bind_some]
            exact if_neg h1
          · simp only [Bool.false_eq_true, if_false]
            rw [if_neg h1]
            refine Ev.congr (fun k => ?_) (J1 (x1 && !x2))
            cases x1
            · rfl
            · rfl
      · exact Ev.ret fun k => by simp only [spec_Duty.j0, if_true]
    have fin : (if (!(s1 && s2)) = true then (4 : Int) else if dotF a b c d a' b' c' d' ≥ 0 then 0 else if (x1 && !x2) = true then 2 else if (x2 && !x1) = true then 1 else if e < e' then 2 else if e > e' then 1 else if (ho && decide (e = 1)) = true then 3 else (if (r1 != r2) = true then dInt r1 r2 else if (decide (f < f') != decide (f' < f)) = true then dInt (decide (f < f')) (decide (f' < f)) else 3)) = dutyF s1 s2 (decide (dotF a b c d a' b' c' d' < 0)) x1 x2 ho r1 r2 e e' f f' := by
      unfold dutyF
      cases hs : (s1 && s2)
      · simp
      · by_cases h1 : dotF a b c d a' b' c' d' < 0
        · have h2 : ¬ dotF a b c d a' b' c' d' ≥ 0 := by omega
          rw [decide_eq_true h1, if_neg (by simp), if_neg h2, if_pos rfl, if_pos rfl]
          by_cases g1 : e < e'
          · have g2 : ¬ e' < e := by omega
            cases x1 <;> cases x2 <;> simp [dInt, g1, g2]
          · by_cases g2 : e' < e
            · cases x1 <;> cases x2 <;> simp [dInt, g1, g2]
            · cases x1 <;> cases x2 <;> simp [dInt, g1, g2]
        · have h2 : dotF a b c d a' b' c' d' ≥ 0 := by omega
          rw [decide_eq_false h1, if_neg (by simp), if_pos h2, if_pos rfl, if_neg (by simp)]
    rw [← fin]
    unfold spec_Duty.f
    rw [p1, p2]
    simp only [Option.bind_some]
    refine Ev.congr (fun k => ?_) (J0 (!(s1 && s2)))
    cases s1
    · rfl
    · rfl
  · unfold impl_Duty.f
    rw [q1, q2, clos, q6, q7]
    simp only [Option.bind_some]
    exact Ev.bind Q3 (Ev.bind Q4 (Ev.bind Q5 (Ev.const fun _ => rfl)))
end Go.Proofs.Ytfbokdbaondjdaa.Dp
/- The plain part for Duties: copies, equality, marks, the rows of duties. -/
namespace Go.Proofs.Ytfbokdbaondjdaa.Dt
open Go.RowKit Go.Proofs.Ytfbokdbaondjdaa.PV1 Go.Proofs.YtfbokdbaondjdaaW.PrintWords Go.Proofs.Ytfbokdbaondjdaa.Dp Go.Proofs.Ytfbokdbaondjdaa.Mk
set_option linter.unusedVariables false
set_option linter.unusedSimpArgs false
abbrev SL := S23
abbrev SI := S25
theorem wk {i n : Nat} (h : i < n) (hn : n ≤ 9223372036854775807) : wrap64 ((i : Int) + 1) = ((i + 1 : Nat) : Int) := by
  unfold wrap64
  omega
theorem w64 (x : Int) (h0 : -9223372036854775808 ≤ x) (h1 : x < 9223372036854775808) : wrap64 x = x := by
  unfold wrap64
  omega
def cv (x : SL) : SI := ⟨x.f0, x.f1, x.f2, x.f3, x.f4, x.f5⟩
theorem rdl (l : List SL) (i : Nat) (h : i < l.length) : rd_T23 l (i : Int) = l[i] := by simp [rd_T23, h]
theorem rds (l : List SI) (i : Nat) (h : i < l.length) : rd_T25 l (i : Int) = l[i] := by simp [rd_T25, h]
theorem rdi (l : List Int) (i : Nat) (h : i < l.length) : rd l (i : Int) = l[i] := by simp [rd, h]
theorem rdr (l : List (List Int)) (i : Nat) (h : i < l.length) : rd_L3 l (i : Int) = l[i] := by simp [rd_L3, h]
/-! ### Copies, equality -/
theorem to_loop (l : List SL) (hn : l.length ≤ 9223372036854775807) (d : Nat) : ∀ (i : Nat) (xs : List SI), xs.length = l.length → i + d = l.length → xs.take i = (l.map cv).take i → Ev (fun k => laws_toShipS.l0 k l xs i) (l.map cv) := by
  induction d with
  | zero =>
    intro i xs hl hd ht
    refine Ev.ret fun k => ?_
    simp only [laws_toShipS.l0]
    rw [if_neg (by omega)]
    rw [List.take_of_length_le (by omega), List.take_of_length_le (by simp; omega)] at ht
    exact congrArg some ht
  | succ d ih =>
    intro i xs hl hd ht
    have hi : i < l.length := by omega
    refine Ev.step (f := fun k => laws_toShipS.l0 k l (xs.set i (cv l[i])) ((i + 1 : Nat) : Int)) (fun k => ?_) (ih (i + 1) (xs.set i (cv l[i])) (by simpa using hl) (by omega) ?_)
    · simp only [laws_toShipS.l0]
      rw [if_pos (by omega), if_pos (by omega)]
      simp only [laws_toShip.f, Option.bind_some]
      rw [if_pos (by omega), wk (n := l.length) (by omega) hn, Int.toNat_natCast, rdl l i hi]
      rfl
    · rw [List.take_succ_eq_append_getElem (by simp; omega), List.take_succ_eq_append_getElem (by simp; omega)]
      congr 1
      · rw [List.take_set_of_le (Nat.le_refl i)]; exact ht
      · simp
theorem toS (l : List SL) (hn : l.length ≤ 1048576) : Ev (fun k => laws_toShipS.f k l) (l.map cv) := by
  refine Ev.congr (f := fun k => laws_toShipS.l0 k l (List.replicate l.length z25) ((0 : Nat) : Int)) (fun k => ?_) (to_loop l (by omega) l.length 0 _ (by simp) (by omega) (by simp))
  unfold laws_toShipS.f
  rw [if_pos (by omega), if_pos (by simp; omega), Int.toNat_natCast]
  rfl
theorem eq_loop (l : List SI) (hn : l.length ≤ 9223372036854775807) (d : Nat) : ∀ (i : Nat), i + d = l.length → Ev (fun k => laws_eqShipS.l0 k l l i) true := by
  induction d with
  | zero =>
    intro i hd
    refine Ev.ret fun k => ?_
    simp only [laws_eqShipS.l0]
    rw [if_neg (by omega)]
  | succ d ih =>
    intro i hd
    refine Ev.step (f := fun k => laws_eqShipS.l0 k l l ((i + 1 : Nat) : Int)) (fun k => ?_) (ih (i + 1) (by omega))
    simp only [laws_eqShipS.l0]
    rw [if_pos (by omega), if_pos (by omega), if_pos (by omega)]
    simp only [laws_eqShip.f, if_true, Option.bind_some]
    rw [wk (n := l.length) (by omega) hn]
theorem eqS (l : List SI) (hn : l.length ≤ 9223372036854775807) : Ev (fun k => laws_eqShipS.f k l l) true := by
  refine Ev.congr (f := fun k => laws_eqShipS.l0 k l l ((0 : Nat) : Int)) (fun k => ?_) (eq_loop l hn l.length 0 (by omega))
  unfold laws_eqShipS.f
  rw [if_pos rfl]
  rfl
theorem eqI_loop (l : List Int) (hn : l.length ≤ 9223372036854775807) (d : Nat) : ∀ (i : Nat), i + d = l.length → Ev (fun k => laws_eqIntS.l0 k l l i) true := by
  induction d with
  | zero =>
    intro i hd
    refine Ev.ret fun k => ?_
    simp only [laws_eqIntS.l0]
    rw [if_neg (by omega)]
  | succ d ih =>
    intro i hd
    refine Ev.step (f := fun k => laws_eqIntS.l0 k l l ((i + 1 : Nat) : Int)) (fun k => ?_) (ih (i + 1) (by omega))
    simp only [laws_eqIntS.l0]
    rw [if_pos (by omega), if_pos (by omega), if_pos (by omega), if_pos trivial, wk (n := l.length) (by omega) hn]
theorem eqI (l : List Int) (hn : l.length ≤ 9223372036854775807) : Ev (fun k => laws_eqIntS.f k l l) true := by
  refine Ev.congr (f := fun k => laws_eqIntS.l0 k l l ((0 : Nat) : Int)) (fun k => ?_) (eqI_loop l hn l.length 0 (by omega))
  unfold laws_eqIntS.f
  rw [if_pos rfl]
  rfl
theorem eqSS_loop (l : List (List Int)) (hn : l.length ≤ 9223372036854775807) (hr : ∀ x ∈ l, x.length ≤ 9223372036854775807) (d : Nat) : ∀ (i : Nat), i + d = l.length → Ev (fun k => laws_eqIntSS.l0 k l l i) true := by
  induction d with
  | zero =>
    intro i hd
    refine Ev.ret fun k => ?_
    simp only [laws_eqIntSS.l0]
    rw [if_neg (by omega)]
  | succ d ih =>
    intro i hd
    have hi : i < l.length := by omega
    refine Ev.step (f := fun k => (laws_eqIntS.f k l[i] l[i]).bind fun t => if t = true then laws_eqIntSS.l0 k l l ((i + 1 : Nat) : Int) else some false) (fun k => ?_) (Ev.bind (eqI _ (hr _ (List.getElem_mem hi))) ?_)
    · simp only [laws_eqIntSS.l0]
      rw [if_pos (by omega), if_pos (by omega), if_pos (by omega), rdr l i hi, wk (n := l.length) (by omega) hn]
    · exact Ev.congr (fun k => if_pos rfl) (ih (i + 1) (by omega))
theorem eqSS (l : List (List Int)) (hn : l.length ≤ 9223372036854775807) (hr : ∀ x ∈ l, x.length ≤ 9223372036854775807) : Ev (fun k => laws_eqIntSS.f k l l) true := by
  refine Ev.congr (f := fun k => laws_eqIntSS.l0 k l l ((0 : Nat) : Int)) (fun k => ?_) (eqSS_loop l hn hr l.length 0 (by omega))
  unfold laws_eqIntSS.f
  rw [if_pos rfl]
  rfl
/-! ### Marks -/
theorem mark_loop (n : Nat) (hn : n ≤ 1048576) (d : Nat) : ∀ (i : Nat) (xs : List SI) (a : Int), xs.length = n → i + d = n → 0 ≤ a → a + 6 * d ≤ 100000000 → ∃ ys, Ev (fun k => laws_markShipS.l0 k xs a i) (a + 6 * d, ys) := by
  induction d with
  | zero =>
    intro i xs a hl hd h0 h1
    refine ⟨xs, Ev.ret fun k => ?_⟩
    simp only [laws_markShipS.l0]
    rw [if_neg (by omega)]
    simp
  | succ d ih =>
    intro i xs a hl hd h0 h1
    have key : ∀ ys : List SI, ys.length = n → ∃ zs, Ev (fun k => laws_markShipS.l0 k ys (a + 6) ((i + 1 : Nat) : Int)) (a + 6 * (d + 1 : Nat), zs) := fun ys hy => by
      obtain ⟨zs, hz⟩ := ih (i + 1) ys (a + 6) hy (by omega) (by omega) (by omega)
      refine ⟨zs, ?_⟩
      rw [show a + 6 * ((d + 1 : Nat) : Int) = a + 6 + 6 * (d : Int) by omega]
      exact hz
    have step : ∃ ys : List SI, (∀ k, laws_markShipS.l0 (k + 1) xs a i = laws_markShipS.l0 k ys (a + 6) ((i + 1 : Nat) : Int)) ∧ ys.length = n := by
      apply Exists.intro
      constructor
      · intro k
        simp only [laws_markShipS.l0]
        rw [if_pos (by omega), if_pos (by omega)]
        simp only [Option.bind_some]
        rw [w64 (a + 1) (by omega) (by omega), w64 (a + 1 + 1) (by omega) (by omega), w64 (a + 1 + 1 + 1) (by omega) (by omega), w64 (a + 1 + 1 + 1 + 1) (by omega) (by omega), w64 (a + 1 + 1 + 1 + 1 + 1) (by omega) (by omega), w64 (a + 1 + 1 + 1 + 1 + 1 + 1) (by omega) (by omega), wk (n := n) (by omega) (by omega), show a + 1 + 1 + 1 + 1 + 1 + 1 = a + 6 by omega]
      · simp [hl]
    obtain ⟨ys, same, hy⟩ := step
    obtain ⟨zs, hz⟩ := key ys hy
    exact ⟨zs, Ev.step same hz⟩
theorem markS (l : List SI) (hn : l.length ≤ 1048576) : ∃ ys, Ev (fun k => laws_markShipS.f k l 1) (1 + 6 * (l.length : Int), ys) := by
  obtain ⟨ys, h⟩ := mark_loop l.length hn l.length 0 l 1 rfl (by omega) (by omega) (by omega)
  exact ⟨ys, h⟩
def numbered : Nat → Int → List Int
  | 0, _ => []
  | n + 1, a => a :: numbered n (a + 1)
theorem numbered_len (n : Nat) : ∀ a, (numbered n a).length = n := by
  induction n with
  | zero => intro a; rfl
  | succ n ih => intro a; simp [numbered, ih]
theorem markI_loop (d : Nat) : ∀ (i : Nat) (dn xs : List Int) (a : Int), dn.length = i → xs.length = d → i + d ≤ 1000000 → 0 ≤ a → a + d ≤ 100000000 → Ev (fun k => laws_markIntS.l0 k (dn ++ xs) a i) (a + d, dn ++ numbered d a) := by
  induction d with
  | zero =>
    intro i dn xs a hl hx hb h0 h1
    obtain rfl : xs = [] := List.length_eq_zero_iff.1 hx
    refine Ev.ret fun k => ?_
    simp only [laws_markIntS.l0]
    rw [if_neg (by simp; omega)]
    simp [numbered]
  | succ d ih =>
    intro i dn xs a hl hx hb h0 h1
    cases xs with
    | nil => simp at hx
    | cons x xs =>
      have e : (dn ++ x :: xs).set i a = (dn ++ [a]) ++ xs := by subst hl; simp
      have h := ih (i + 1) (dn ++ [a]) xs (a + 1) (by simp [hl]) (by simpa using hx) (by omega) (by omega) (by omega)
      refine Ev.step (f := fun k => laws_markIntS.l0 k ((dn ++ [a]) ++ xs) (a + 1) ((i + 1 : Nat) : Int)) (fun k => ?_) ?_
      · simp only [laws_markIntS.l0]
        rw [if_pos (by simp; omega), if_pos (by omega), Int.toNat_natCast, e, w64 (a + 1) (by omega) (by omega), wk (n := 1000000) (by omega) (by omega)]
      · rw [show ((a + ((d + 1 : Nat) : Int), dn ++ numbered (d + 1) a) : Int × List Int) = (a + 1 + (d : Int), (dn ++ [a]) ++ numbered d (a + 1)) by simp [numbered]; omega]
        exact h
theorem markI (x : List Int) (a : Int) (hx : x.length ≤ 1000000) (h0 : 0 ≤ a) (h1 : a + x.length ≤ 100000000) : Ev (fun k => laws_markIntS.f k x a) (a + x.length, numbered x.length a) := markI_loop x.length 0 [] x a rfl rfl (by omega) h0 h1
theorem numbered_get (n : Nat) : ∀ (a : Int) (i : Nat) (h : i < (numbered n a).length), (numbered n a)[i] = a + i := by
  induction n with
  | zero => intro a i h; simp [numbered] at h
  | succ n ih =>
    intro a i h
    cases i with
    | zero => simp [numbered]
    | succ i =>
      simp only [numbered, List.getElem_cons_succ]
      rw [ih]
      omega
theorem heldI_loop (n : Nat) (b : Int) (hn : n ≤ 1000000) (hb0 : 0 ≤ b) (hb1 : b + n ≤ 100000000) (d : Nat) : ∀ (i : Nat), i + d = n → Ev (fun k => laws_heldIntS.l0 k (numbered n b) (b + i) i) (b + n) := by
  induction d with
  | zero =>
    intro i hd
    refine Ev.ret fun k => ?_
    simp only [laws_heldIntS.l0]
    rw [if_neg (by rw [numbered_len]; omega), show i = n by omega]
  | succ d ih =>
    intro i hd
    refine Ev.step (f := fun k => laws_heldIntS.l0 k (numbered n b) (b + ((i + 1 : Nat) : Int)) ((i + 1 : Nat) : Int)) (fun k => ?_) (ih (i + 1) (by omega))
    simp only [laws_heldIntS.l0]
    rw [if_pos (by rw [numbered_len]; omega), if_pos (by omega), rdi _ i (by rw [numbered_len]; omega), numbered_get, if_pos rfl, w64 _ (by omega) (by omega), wk (n := n) (by omega) (by omega)]
    rw [show b + (i : Int) + 1 = b + ((i + 1 : Nat) : Int) by omega]
theorem heldI (n : Nat) (b : Int) (hn : n ≤ 1000000) (hb0 : 0 ≤ b) (hb1 : b + n ≤ 100000000) : Ev (fun k => laws_heldIntS.f k (numbered n b) b) (b + n) := by
  refine Ev.congr (f := fun k => laws_heldIntS.l0 k (numbered n b) (b + ((0 : Nat) : Int)) ((0 : Nat) : Int)) (fun k => ?_) (heldI_loop n b hn hb0 hb1 n 0 (by omega))
  unfold laws_heldIntS.f
  simp
def total : List (List Int) → Nat
  | [] => 0
  | x :: xs => x.length + total xs
def nums : List (List Int) → Int → List (List Int)
  | [], _ => []
  | x :: xs, a => numbered x.length a :: nums xs (a + x.length)
theorem nums_len (l : List (List Int)) : ∀ a, (nums l a).length = l.length := by
  induction l with
  | nil => intro a; rfl
  | cons x xs ih => intro a; simp [nums, ih]
theorem markSS (l : List (List Int)) : ∀ (a : Int), total l ≤ 1000000 → 0 ≤ a → a + total l ≤ 100000000 → Ev (fun k => mSS (laws_markIntS.f k) l a) (a + total l, nums l a) := by
  induction l with
  | nil => intro a _ _ _; exact Ev.const fun k => by simp [mSS, total, nums]
  | cons x xs ih =>
    intro a h h0 h1
    simp only [total] at h h1
    have hx := markI x a (by omega) h0 (by omega)
    have hr := ih (a + x.length) (by omega) (by omega) (by omega)
    simp only [mSS]
    refine Ev.bind hx (Ev.bind hr (Ev.const fun k => ?_))
    simp only [total, nums]
    congr 2
    omega
theorem heldSS_loop (d : Nat) : ∀ (i : Nat) (dn : List (List Int)) (xs : List (List Int)) (b : Int), dn.length = i → xs.length = d → i + d ≤ 1000000 → total xs ≤ 1000000 → 0 ≤ b → b + total xs ≤ 100000000 → Ev (fun k => laws_heldIntSS.l0 k (dn ++ nums xs b) b i) (b + total xs) := by
  induction d with
  | zero =>
    intro i dn xs b hl hx _ _ _ _
    obtain rfl : xs = [] := List.length_eq_zero_iff.1 hx
    refine Ev.ret fun k => ?_
    simp only [laws_heldIntSS.l0]
    rw [if_neg (by simp [nums]; omega)]
    simp [total]
  | succ d ih =>
    intro i dn xs b hl hx hb ht h0 h1
    cases xs with
    | nil => simp at hx
    | cons x xs =>
      simp only [total] at ht h1
      have h := ih (i + 1) (dn ++ [numbered x.length b]) xs (b + x.length) (by simp [hl]) (by simpa using hx) (by omega) (by omega) (by omega) (by omega)
      refine Ev.step (f := fun k => (laws_heldIntS.f k (numbered x.length b) b).bind fun t => if t < 0 then some (-1) else laws_heldIntSS.l0 k (dn ++ nums (x :: xs) b) t ((i + 1 : Nat) : Int)) (fun k => ?_) (Ev.bind (heldI x.length b (by omega) h0 (by omega)) ?_)
      · simp only [laws_heldIntSS.l0]
        rw [if_pos (by simp [nums]; omega), if_pos (by omega), rdr _ i (by simp [nums]; omega), wk (n := 1000000) (by omega) (by omega)]
        have e : (dn ++ nums (x :: xs) b)[i]'(by simp [nums]; omega) = numbered x.length b := by subst hl; simp [nums]
        rw [e]
      · refine Ev.congr (f := fun k => laws_heldIntSS.l0 k ((dn ++ [numbered x.length b]) ++ nums xs (b + x.length)) (b + x.length) ((i + 1 : Nat) : Int)) (fun k => ?_) ?_
        · rw [if_neg (by omega)]
          simp [nums]
        · rw [show b + ((total (x :: xs) : Nat) : Int) = b + x.length + total xs by simp only [total]; omega]
          exact h
theorem heldSS (l : List (List Int)) (b : Int) (hn : l.length ≤ 1000000) (ht : total l ≤ 1000000) (h0 : 0 ≤ b) (h1 : b + total l ≤ 100000000) : Ev (fun k => laws_heldIntSS.f k (nums l b) b) (b + total l) := heldSS_loop l.length 0 [] l b rfl rfl (by omega) ht h0 h1
end Go.Proofs.Ytfbokdbaondjdaa.Dt
/- The plain part for Duties: the table of duties, by the reference and by the program. -/
namespace Go.Proofs.Ytfbokdbaondjdaa.Dt
open Go.RowKit Go.Proofs.Ytfbokdbaondjdaa.PV1 Go.Proofs.YtfbokdbaondjdaaW.PrintWords Go.Proofs.Ytfbokdbaondjdaa.Dp Go.Proofs.Ytfbokdbaondjdaa.Mk
set_option linter.unusedVariables false
set_option linter.unusedSimpArgs false
noncomputable def dV (x y : SI) : Int := Classical.choose (duty_both x.f0 x.f1 x.f2 x.f3 x.f4 x.f5 y.f0 y.f1 y.f2 y.f3 y.f4 y.f5)
theorem dV_spec (x y : SI) : Ev (fun k => spec_Duty.f k x.f0 x.f1 x.f2 x.f3 x.f4 x.f5 y.f0 y.f1 y.f2 y.f3 y.f4 y.f5) (dV x y) := (Classical.choose_spec (duty_both x.f0 x.f1 x.f2 x.f3 x.f4 x.f5 y.f0 y.f1 y.f2 y.f3 y.f4 y.f5)).1
theorem dV_impl (x y : SI) : Ev (fun k => impl_Duty.f k x.f0 x.f1 x.f2 x.f3 x.f4 x.f5 y.f0 y.f1 y.f2 y.f3 y.f4 y.f5) (dV x y) := (Classical.choose_spec (duty_both x.f0 x.f1 x.f2 x.f3 x.f4 x.f5 y.f0 y.f1 y.f2 y.f3 y.f4 y.f5)).2
def okV (x : SI) : Bool := (spec_ShipOk.f x.f0 x.f1 x.f2 x.f3 x.f4 x.f5).getD false
theorem okV_both (x : SI) : spec_ShipOk.f x.f0 x.f1 x.f2 x.f3 x.f4 x.f5 = some (okV x) ∧ impl_ShipOk.f x.f0 x.f1 x.f2 x.f3 x.f4 x.f5 = some (okV x) := by
  obtain ⟨r, h1, h2, _⟩ := Bh.beh_ship x.f0 x.f1 x.f2 x.f3 x.f4 x.f5
  unfold okV
  rw [h1, h2]
  exact ⟨rfl, rfl⟩
def el0 (d : SI → SI → Int) (l : List SI) (i j : Nat) : Int := if i = j then 0 else d (l.getD i z25) (l.getD j z25)
noncomputable def el (l : List SI) (i j : Nat) : Int := el0 dV l i j
noncomputable def rowV (l : List SI) (i n : Nat) : List Int := (List.range n).map (el l i)
noncomputable def matV (l : List SI) (m : Nat) : List (List Int) := (List.range m).map fun i => rowV l i l.length
theorem rowV_succ (l : List SI) (i n : Nat) : rowV l i (n + 1) = rowV l i n ++ [el l i n] := by simp [rowV, List.range_succ]
theorem matV_succ (l : List SI) (m : Nat) : matV l (m + 1) = matV l m ++ [rowV l m l.length] := by simp [matV, List.range_succ]
theorem rowV_len (l : List SI) (i n : Nat) : (rowV l i n).length = n := by simp [rowV]
theorem matV_len (l : List SI) (m : Nat) : (matV l m).length = m := by simp [matV]
/-! ### The reference -/
theorem spec_l2 (l : List SI) (hn : l.length ≤ 20) (i : Nat) (hi : i < l.length) (R : List (List Int) × Bool) (hR : Ev (fun k => spec_Duties.l1 k l (matV l (i + 1)) ((i + 1 : Nat) : Int)) R) (d : Nat) : ∀ j : Nat, j + d = l.length → Ev (fun k => spec_Duties.l2 k l (matV l i) i (rowV l i j) j) R := by
  induction d with
  | zero =>
    intro j hd
    refine Ev.step (f := fun k => spec_Duties.l1 k l (matV l (i + 1)) ((i + 1 : Nat) : Int)) (fun k => ?_) hR
    simp only [spec_Duties.l2]
    rw [if_neg (by omega), if_pos (by rw [matV_len]; omega), wk (n := l.length) hi (by omega), matV_succ, show j = l.length by omega]
  | succ d ih =>
    intro j hd
    have hj : j < l.length := by omega
    by_cases e : j = i
    · refine Ev.step (f := fun k => spec_Duties.l2 k l (matV l i) i (rowV l i (j + 1)) ((j + 1 : Nat) : Int)) (fun k => ?_) (ih (j + 1) (by omega))
      simp only [spec_Duties.l2]
      rw [if_pos (by omega), if_pos (by omega), if_pos (by rw [rowV_len]; omega), wk (n := l.length) hj (by omega), rowV_succ]
      have : el l i j = 0 := by unfold el el0; rw [if_pos e.symm]
      rw [this]
    · refine Ev.step (f := fun k => (spec_Duty.f k l[i].f0 l[i].f1 l[i].f2 l[i].f3 l[i].f4 l[i].f5 l[j].f0 l[j].f1 l[j].f2 l[j].f3 l[j].f4 l[j].f5).bind fun t => spec_Duties.l2 k l (matV l i) i (rowV l i j ++ [t]) ((j + 1 : Nat) : Int)) (fun k => ?_) (Ev.bind (dV_spec l[i] l[j]) ?_)
      · simp only [spec_Duties.l2]
        rw [if_pos (by omega), if_neg (by omega), if_pos (by omega), if_pos (by omega), if_pos (by omega), rds l i hi, rds l j hj, wk (n := l.length) hj (by omega)]
        congr 1
        funext t
        rw [if_pos (by rw [rowV_len]; omega)]
      · have : el l i j = dV l[i] l[j] := by unfold el el0; rw [if_neg (fun h => e h.symm)]; simp [hi, hj]
        have h := ih (j + 1) (by omega)
        rw [rowV_succ, this] at h
        exact h
theorem spec_l1 (l : List SI) (hn : l.length ≤ 20) (d : Nat) : ∀ i : Nat, i + d = l.length → Ev (fun k => spec_Duties.l1 k l (matV l i) i) (matV l l.length, true) := by
  induction d with
  | zero =>
    intro i hd
    refine Ev.ret fun k => ?_
    simp only [spec_Duties.l1]
    rw [if_neg (by omega), show i = l.length by omega]
  | succ d ih =>
    intro i hd
    refine Ev.step (f := fun k => spec_Duties.l2 k l (matV l i) i (rowV l i 0) ((0 : Nat) : Int)) (fun k => ?_) (spec_l2 l hn i (by omega) _ (ih (i + 1) (by omega)) l.length 0 (by omega))
    simp only [spec_Duties.l1]
    rw [if_pos (by omega)]
    rfl
noncomputable def ansV (l : List SI) : List (List Int) × Bool := if l.length ≤ 20 ∧ l.all okV = true then (matV l l.length, true) else ([], false)
theorem spec_l0 (l : List SI) (hb : l.length ≤ 1048576) (d : Nat) : ∀ i : Nat, i + d = l.length → (l.take i).all okV = true → (0 < i → l.length ≤ 20) → Ev (fun k => spec_Duties.l0 k l i) (ansV l) := by
  induction d with
  | zero =>
    intro i hd ha h20
    have hi : i = l.length := by omega
    rw [List.take_of_length_le (by omega)] at ha
    have h20' : l.length ≤ 20 := by
      rcases Nat.eq_zero_or_pos i with h | h
      · omega
      · exact h20 h
    have : ansV l = (matV l l.length, true) := if_pos ⟨h20', ha⟩
    rw [this]
    refine Ev.step (f := fun k => spec_Duties.l1 k l (matV l 0) ((0 : Nat) : Int)) (fun k => ?_) (spec_l1 l h20' l.length 0 (by omega))
    simp only [spec_Duties.l0]
    rw [if_neg (by omega)]
    rfl
  | succ d ih =>
    intro i hd ha h20
    have hi : i < l.length := by omega
    by_cases h : l.length ≤ 20
    · cases hv : okV l[i] with
      | true =>
        refine Ev.step (f := fun k => spec_Duties.l0 k l ((i + 1 : Nat) : Int)) (fun k => ?_) (ih (i + 1) (by omega) ?_ (fun _ => h))
        · simp only [spec_Duties.l0]
          rw [if_pos (by omega), if_neg (by omega), if_pos (by omega), rds l i hi, (okV_both l[i]).1, hv]
          simp only [Option.bind_some, if_true]
          rw [wk (n := l.length) hi (by omega)]
        · rw [List.take_succ_eq_append_getElem hi, List.all_append, ha]
          simp [hv]
      | false =>
        have : ansV l = ([], false) := if_neg fun hh => by
          have := List.all_eq_true.1 hh.2 _ (List.getElem_mem hi)
          rw [hv] at this
          cases this
        rw [this]
        refine Ev.ret fun k => ?_
        simp only [spec_Duties.l0]
        rw [if_pos (by omega), if_neg (by omega), if_pos (by omega), rds l i hi, (okV_both l[i]).1, hv]
        rfl
    · have : ansV l = ([], false) := if_neg fun hh => h hh.1
      rw [this]
      refine Ev.ret fun k => ?_
      simp only [spec_Duties.l0]
      rw [if_pos (by omega), if_pos (by omega)]
theorem spec_all (l : List SI) (hb : l.length ≤ 1048576) : Ev (fun k => spec_Duties.f k l) (ansV l) := spec_l0 l hb l.length 0 (by omega) (by simp) (by omega)
/-! ### The program -/
noncomputable def stM (l : List SI) (i j : Nat) : List (List Int) := matV l i ++ (rowV l i j ++ List.replicate (l.length - j) 0) :: List.replicate (l.length - i - 1) []
theorem stM_row (l : List SI) (i j : Nat) (hj : j ≤ l.length) : rd_L3 (stM l i j) (i : Int) = rowV l i j ++ List.replicate (l.length - j) 0 := by
  unfold stM rd_L3
  rw [Int.toNat_natCast, List.getD_eq_getElem?_getD, List.getElem?_append_right (by rw [matV_len]; omega), matV_len]
  simp
theorem stM_set (l : List SI) (i j : Nat) (x : List Int) : (stM l i j).set i x = matV l i ++ x :: List.replicate (l.length - i - 1) [] := by
  unfold stM
  rw [List.set_append_right _ _ (by rw [matV_len]; omega), matV_len]
  simp
theorem row_set (l : List SI) (i j : Nat) (hj : j < l.length) (v : Int) (hv : el l i j = v) : (rowV l i j ++ List.replicate (l.length - j) 0).set j v = rowV l i (j + 1) ++ List.replicate (l.length - (j + 1)) 0 := by
  rw [List.set_append_right _ _ (by rw [rowV_len]; omega), rowV_len, rowV_succ, hv, show l.length - j = (l.length - (j + 1)) + 1 by omega, List.replicate_succ]
  simp
theorem impl_l2 (l : List SI) (hn : l.length ≤ 20) (i : Nat) (hi : i < l.length) (R : List (List Int) × Bool) (hR : Ev (fun k => impl_Duties.l1 k l (matV l (i + 1) ++ List.replicate (l.length - (i + 1)) []) l (l.length : Int) ((i + 1 : Nat) : Int)) R) (d : Nat) : ∀ j : Nat, j + d = l.length →
    Ev (fun k => impl_Duties.l2 k l (stM l i j) i l (l.length : Int) i l (l.length : Int) j l[i].f0 l[i].f1 l[i].f2 l[i].f3 l[i].f4 l[i].f5) R := by
  induction d with
  | zero =>
    intro j hd
    refine Ev.step (f := fun k => impl_Duties.l1 k l (matV l (i + 1) ++ List.replicate (l.length - (i + 1)) []) l (l.length : Int) ((i + 1 : Nat) : Int)) (fun k => ?_) hR
    simp only [impl_Duties.l2]
    rw [if_neg (by omega), wk (n := l.length) hi (by omega)]
    have : stM l i j = matV l (i + 1) ++ List.replicate (l.length - (i + 1)) [] := by
      unfold stM
      rw [matV_succ, show j = l.length by omega, Nat.sub_self, List.replicate_zero, List.append_nil, Nat.sub_sub]
      simp
    rw [this]
  | succ d ih =>
    intro j hd
    have hj : j < l.length := by omega
    by_cases e : i = j
    · have h0 : el l i j = 0 := by unfold el el0; rw [if_pos e]
      have hs : stM l i j = stM l i (j + 1) := by
        have h1 := row_set l i j hj 0 h0
        have h2 : (rowV l i j ++ List.replicate (l.length - j) 0).set j 0 = rowV l i j ++ List.replicate (l.length - j) 0 := by
          rw [List.set_append_right _ _ (by rw [rowV_len]; omega), rowV_len, Nat.sub_self, show l.length - j = (l.length - (j + 1)) + 1 by omega, List.replicate_succ]
          rfl
        unfold stM
        rw [← h1, h2]
      rw [hs]
      refine Ev.step (f := fun k => impl_Duties.l2 k l (stM l i (j + 1)) i l (l.length : Int) i l (l.length : Int) ((j + 1 : Nat) : Int) l[i].f0 l[i].f1 l[i].f2 l[i].f3 l[i].f4 l[i].f5) (fun k => ?_) (ih (j + 1) (by omega))
      simp only [impl_Duties.l2]
      rw [if_pos (by omega), if_pos (by omega), if_pos (by omega), if_pos (by omega), wk (n := l.length) hj (by omega)]
    · have h0 : el l i j = dV l[i] l[j] := by unfold el el0; rw [if_neg e]; simp [hi, hj]
      refine Ev.step (f := fun k => (impl_Duty.f k l[i].f0 l[i].f1 l[i].f2 l[i].f3 l[i].f4 l[i].f5 l[j].f0 l[j].f1 l[j].f2 l[j].f3 l[j].f4 l[j].f5).bind fun t => impl_Duties.l2 k l (matV l i ++ ((rowV l i j ++ List.replicate (l.length - j) 0).set j t) :: List.replicate (l.length - i - 1) []) i l (l.length : Int) i l (l.length : Int) ((j + 1 : Nat) : Int) l[i].f0 l[i].f1 l[i].f2 l[i].f3 l[i].f4 l[i].f5) (fun k => ?_) (Ev.bind (dV_impl l[i] l[j]) ?_)
      · simp only [impl_Duties.l2]
        rw [if_pos (by omega), if_pos (by omega), if_pos (by omega), if_neg (by omega), if_pos (by omega), if_pos (by unfold stM; simp [matV_len]; omega), rds l j hj, wk (n := l.length) hj (by omega)]
        congr 1
        funext t
        rw [stM_row l i j (by omega), if_pos (by simp [rowV_len]; omega), Int.toNat_natCast, Int.toNat_natCast, stM_set]
      · have h := ih (j + 1) (by omega)
        unfold stM at h
        rw [← row_set l i j hj _ h0] at h
        exact h
theorem impl_l1 (l : List SI) (hn : l.length ≤ 20) (d : Nat) : ∀ i : Nat, i + d = l.length → Ev (fun k => impl_Duties.l1 k l (matV l i ++ List.replicate (l.length - i) []) l (l.length : Int) i) (matV l l.length, true) := by
  induction d with
  | zero =>
    intro i hd
    refine Ev.ret fun k => ?_
    simp only [impl_Duties.l1]
    rw [if_neg (by omega), show i = l.length by omega]
    simp
  | succ d ih =>
    intro i hd
    have hi : i < l.length := by omega
    refine Ev.step (f := fun k => impl_Duties.l2 k l (stM l i 0) i l (l.length : Int) i l (l.length : Int) ((0 : Nat) : Int) l[i].f0 l[i].f1 l[i].f2 l[i].f3 l[i].f4 l[i].f5) (fun k => ?_) (impl_l2 l hn i hi _ (ih (i + 1) (by omega)) l.length 0 (by omega))
    simp only [impl_Duties.l1]
    rw [if_pos (by omega), if_pos (by omega), if_pos (by omega), if_pos (by omega), if_pos (by rw [Int.toNat_natCast]; omega), if_pos (by simp [matV_len]; omega), rds l i hi, Int.toNat_natCast, Int.toNat_natCast]
    have : (matV l i ++ List.replicate (l.length - i) ([] : List Int)).set i (List.replicate l.length 0) = stM l i 0 := by
      unfold stM
      rw [List.set_append_right _ _ (by rw [matV_len]; omega), matV_len, Nat.sub_self, show l.length - i = (l.length - i - 1) + 1 by omega, List.replicate_succ]
      simp [rowV]
    rw [this]
    rfl
theorem impl_l0 (l : List SI) (hn : l.length ≤ 20) (d : Nat) : ∀ i : Nat, i + d = l.length → (l.take i).all okV = true → Ev (fun k => impl_Duties.l0 k l l (l.length : Int) i) (ansV l) := by
  induction d with
  | zero =>
    intro i hd ha
    rw [List.take_of_length_le (by omega)] at ha
    have : ansV l = (matV l l.length, true) := if_pos ⟨hn, ha⟩
    rw [this]
    refine Ev.step (f := fun k => impl_Duties.l1 k l (matV l 0 ++ List.replicate (l.length - 0) []) l (l.length : Int) ((0 : Nat) : Int)) (fun k => ?_) (impl_l1 l hn l.length 0 (by omega))
    simp only [impl_Duties.l0]
    rw [if_neg (by omega), if_pos (by omega), if_pos (by rw [Int.toNat_natCast]; omega), Int.toNat_natCast]
    rfl
  | succ d ih =>
    intro i hd ha
    have hi : i < l.length := by omega
    cases hv : okV l[i] with
    | true =>
      refine Ev.step (f := fun k => impl_Duties.l0 k l l (l.length : Int) ((i + 1 : Nat) : Int)) (fun k => ?_) (ih (i + 1) (by omega) ?_)
      · simp only [impl_Duties.l0]
        rw [if_pos (by omega), if_pos (by omega), if_pos (by omega), rds l i hi, (okV_both l[i]).2, hv]
        simp only [Option.bind_some, if_true]
        rw [wk (n := l.length) hi (by omega)]
      · rw [List.take_succ_eq_append_getElem hi, List.all_append, ha]
        simp [hv]
    | false =>
      have : ansV l = ([], false) := if_neg fun hh => by
        have := List.all_eq_true.1 hh.2 _ (List.getElem_mem hi)
        rw [hv] at this
        cases this
      rw [this]
      refine Ev.ret fun k => ?_
      simp only [impl_Duties.l0]
      rw [if_pos (by omega), if_pos (by omega), if_pos (by omega), rds l i hi, (okV_both l[i]).2, hv]
      rfl
theorem impl_all (l : List SI) : Ev (fun k => impl_Duties.f k l) (ansV l) := by
  by_cases h : l.length ≤ 20
  · refine Ev.congr (f := fun k => impl_Duties.l0 k l l (l.length : Int) ((0 : Nat) : Int)) (fun k => ?_) (impl_l0 l h l.length 0 (by omega) (by simp))
    unfold impl_Duties.f
    rw [if_neg (by omega)]
    rfl
  · have : ansV l = ([], false) := if_neg fun hh => h hh.1
    rw [this]
    refine Ev.const fun k => ?_
    unfold impl_Duties.f
    rw [if_pos (by omega)]
theorem ansV_len (l : List SI) : (ansV l).1.length ≤ 20 ∧ (∀ x ∈ (ansV l).1, x.length ≤ 20) ∧ total (ansV l).1 ≤ 400 := by
  unfold ansV
  split
  · rename_i h
    have hrow : ∀ x ∈ matV l l.length, x.length = l.length := fun x hx => by
      obtain ⟨i, _, rfl⟩ := List.mem_map.1 hx
      exact rowV_len l i _
    have htot : ∀ (m : List (List Int)), (∀ x ∈ m, x.length = l.length) → total m = m.length * l.length := by
      intro m
      induction m with
      | nil => intro _; simp [total]
      | cons x xs ih =>
        intro hh
        simp only [total, List.length_cons]
        rw [ih (fun y hy => hh y (List.mem_cons_of_mem _ hy)), hh x List.mem_cons_self, Nat.succ_mul]
        omega
    refine ⟨by simp only [matV_len]; exact h.1, fun x hx => by rw [hrow x hx]; exact h.1, ?_⟩
    simp only
    rw [htot _ hrow, matV_len]
    exact Nat.mul_le_mul h.1 h.1
  · simp [total]
end Go.Proofs.Ytfbokdbaondjdaa.Dt
/- The law of Duties, for all arguments. -/
namespace Go.Proofs.Ytfbokdbaondjdaa.Lw
open Go Go.RowKit Go.Proofs.YtfbokdbaondjdaaW.PrintWords Go.Proofs.YtfbokdbaondjdaaW.PrintLast Go.Proofs.YtfbokdbaondjdaaW.PrintMore Go.Proofs.Ytfbokdbaondjdaa.PV1 Go.Proofs.Ytfbokdbaondjdaa.Mk
set_option linter.unusedVariables false
set_option maxHeartbeats 8000000 in
theorem early (A0 : Option Addr) (c0 : Nat) (l0 : List S23) (left : Int) (w : World) (hr : Kd.C k23 w A0 l0.length l0) (hc : l0.length ≤ c0) (h1 : laws_szShipS.f l0 1048576 = some left) (hl : left < 0) :
    Calls Try.prog 14 #[.slice A0 l0.length c0] w fun e w' => e = .returned (.bool true) ∧ Below w.heap.size w w' := by
  have ct := laws_szShipS.calls A0 c0 l0 1048576 left w hr hc h1
  clear hr hc h1
  have t1 : decide (left < 0) = true := decide_eq_true hl
  clear hl
  go_enter Try.func14, Try.ntmps14
  go_wp2_with fail
  refine ct.mono ?_
  rintro e w1 ⟨rfl, hd⟩
  have HB := Aside0.mk hd.below
  clear ct hd
  go_wp2
  go_ret
  exact ⟨rfl, HB.out⟩
theorem dutiesLaw (A0 : Option Addr) (c0 : Nat) (l0 : List S23) (w : World) (hc : l0.length ≤ c0) (hr : Kd.C k23 w A0 l0.length l0) :
    Calls Try.prog 14 #[.slice A0 l0.length c0] w fun e w' => e = .returned (.bool true) ∧ Below w.heap.size w w' := by
  have hb : (l0.length : Int) ≤ 9223372036854775807 := by have := hr.2.1; omega
  have hw : wrap64 (1048576 - (l0.length : Int)) = 1048576 - (l0.length : Int) := by unfold wrap64; omega
  by_cases hl : l0.length ≤ 1048576
  · have h1 : laws_szShipS.f l0 1048576 = some (1048576 - (l0.length : Int)) := by
      unfold laws_szShipS.f
      rw [hw, if_neg (by omega)]
    have hl1 : (l0.map Dt.cv).length ≤ 1048576 := by simpa using hl
    obtain ⟨K2, E2⟩ := Dt.toS l0 hl
    obtain ⟨K3, E3⟩ := Dt.spec_all (l0.map Dt.cv) hl1
    obtain ⟨K4, E4⟩ := Dt.impl_all (l0.map Dt.cv)
    obtain ⟨n1, n2, n3⟩ := Dt.ansV_len (l0.map Dt.cv)
    obtain ⟨K5, E5⟩ := Dt.eqSS (Dt.ansV (l0.map Dt.cv)).1 (by omega) (fun x hx => by have := n2 x hx; omega)
    obtain ⟨K6, E6⟩ := Dt.eqS (l0.map Dt.cv) (by omega)
    obtain ⟨ys, K7, E7⟩ := Dt.markS (l0.map Dt.cv) hl1
    obtain ⟨K9, E9⟩ := Dt.markSS (Dt.ansV (l0.map Dt.cv)).1 1 (by omega) (by omega) (by omega)
    obtain ⟨K10, E10⟩ := Dt.heldSS (Dt.ansV (l0.map Dt.cv)).1 1 (by omega) (by omega) (by omega) (by omega)
    exact law_Duties (K2 + K3 + K4 + K5 + K6 + K7 + K9 + K10) A0 c0 l0 _ (l0.map Dt.cv) (Dt.ansV (l0.map Dt.cv)).1 (Dt.ansV (l0.map Dt.cv)).2 _ ys _ (Dt.nums (Dt.ansV (l0.map Dt.cv)).1 1) w hr hc h1 (by omega) (E2 _ (by omega)) (E3 _ (by omega)) (E4 _ (by omega)) (E5 _ (by omega)) (E6 _ (by omega)) (E7 _ (by omega)) (by omega) (E9 _ (by omega)) (E10 _ (by omega)) (by omega)
  · have h1 : laws_szShipS.f l0 1048576 = some (-1) := by
      unfold laws_szShipS.f
      rw [hw, if_pos (by omega)]
    exact early A0 c0 l0 _ w hr hc h1 (by omega)
theorem dutiesRow (A0 : Option Addr) (c0 : Nat) (l0 : List S23) (w : World) (hc : l0.length ≤ c0) (hr : Kd.C k23 w A0 l0.length l0) {P Q : Prop} (_ : P) (_ : Q) :
    Calls Try.prog 14 #[.slice A0 l0.length c0] w fun e w' => e = .returned (.bool true) ∧ Below w.heap.size w w' := dutiesLaw A0 c0 l0 w hc hr
end Go.Proofs.Ytfbokdbaondjdaa.Lw
