import Derived.Test.YtbjpdelammffpaaBFnExactRelay1
import Derived.Test.YtbjpdelammffpaaBFnExactRelay2
import Derived.WalkKit
import Derived.Test.YtbjpdelammffpaaBFnExactRelay0
import Derived.ProofKit
import Derived.Deep.Slices
import Derived.SizedLaws
import Derived.Laws.Cover2
-- printed for this claim out of the translation
namespace Go.Proofs.Ytbjpdelammffpaa.PR1
open Go.RowKit Go.Proofs.YtbjpdelammffpaaW.PrintWords Go.Proofs.YtbjpdelammffpaaW.PrintLast Go.Proofs.YtbjpdelammffpaaW.PrintMore
attribute [local go_sem] max2_int min2_int max_two min_two max_three min_three max_four min_four   -- for this text's walks alone
set_option linter.unusedVariables false
set_option linter.unusedSimpArgs false

/-! ### impl_Relay: function 17 -/
mutual
def impl_Relay.j0 : Nat → List (S53) → Int → Bool → Option (List Int × Bool)
  | 0, _, _, _ => none
  | k + 1, x0, x1, x21 => if x21 = true then (some (([] : List Int), false)) else (if 0 ≤ (x0.length : Int) then (if ((x0.length : Int) : Int).toNat ≤ 35184372088832 then ((some (List.replicate ((x0.length : Int) : Int).toNat 0 : List Int)).bind fun y183 => (impl_Relay.l0 k x0 x1 y183 (y183.length : Int) 0)) else (none)) else (none))
def impl_Relay.l0 : Nat → List (S53) → Int → List Int → Int → Int → Option (List Int × Bool)
  | 0, _, _, _, _, _ => none
  | k + 1, x0, x1, x6, x26, x27 => if x27 < x26 then (if 0 ≤ x27 then (if x27 < (x6.length : Int) then (impl_Relay.l0 k x0 x1 (x6.set (x27 : Int).toNat (-1)) x26 (wrap64 (x27 + 1))) else (none)) else (none)) else (if 0 ≤ x1 then (if x1 < (x6.length : Int) then (impl_Relay.l1 k x0 (x6.set (x1 : Int).toNat 0) (([x1] : List Int))) else (none)) else (none))
def impl_Relay.l1 : Nat → List (S53) → List Int → List Int → Option (List Int × Bool)
  | 0, _, _, _ => none
  | k + 1, x0, x6, x8 => if (x8.length : Int) > 0 then (if 0 < (x8.length : Int) then (if 0 ≤ (rd x8 0) then (if (rd x8 0) < (x0.length : Int) then (impl_Relay.l2 k x0 x6 x8 ((rd_T53 x0 (rd x8 0)).f2) (((rd_T53 x0 (rd x8 0)).f2).length : Int) 0) else (none)) else (none)) else (none)) else (some (x6, true))
def impl_Relay.l2 : Nat → List (S53) → List Int → List Int → List Int → Int → Int → Option (List Int × Bool)
  | 0, _, _, _, _, _, _ => none
  | k + 1, x0, x6, x8, x50, x51, x52 => if x52 < x51 then (if 0 ≤ x52 then (if x52 < (x50.length : Int) then (if 0 ≤ (rd x50 x52) then (if (rd x50 x52) < (x6.length : Int) then (if (rd x6 (rd x50 x52)) < 0 then (if 0 < (x8.length : Int) then (if 0 ≤ (rd x8 0) then (if (rd x8 0) < (x6.length : Int) then (if x8.length < 17592186044416 then (impl_Relay.l2 k x0 (x6.set ((rd x50 x52) : Int).toNat (wrap64 ((rd x6 (rd x8 0)) + 1))) (x8 ++ [rd x50 x52]) x50 x51 (wrap64 (x52 + 1))) else (none)) else (none)) else (none)) else (none)) else (impl_Relay.l2 k x0 x6 x8 x50 x51 (wrap64 (x52 + 1)))) else (none)) else (none)) else (none)) else (none)) else (if 1 ≤ (x8.length : Int) then (impl_Relay.l1 k x0 x6 (x8.drop (1 : Int).toNat)) else (none))
end
def impl_Relay.f (k : Nat) (l0 : List (S53)) (a1 : Int) : Option (List Int × Bool) := (impl_RadiosOk.f k l0).bind fun t181 => (if t181 = true then ((impl_in.f a1 0 (wrap64 ((l0.length : Int) - 1))).bind fun t182 => (impl_Relay.j0 k l0 a1 (!t182))) else (impl_Relay.j0 k l0 a1 true))
theorem impl_Relay.mono_l : ∀ k, (∀ y0 y1 y2, LeO (impl_Relay.j0 k y0 y1 y2) (impl_Relay.j0 (k + 1) y0 y1 y2)) ∧ (∀ y0 y1 y2 y3 y4, LeO (impl_Relay.l0 k y0 y1 y2 y3 y4) (impl_Relay.l0 (k + 1) y0 y1 y2 y3 y4)) ∧ (∀ y0 y1 y2, LeO (impl_Relay.l1 k y0 y1 y2) (impl_Relay.l1 (k + 1) y0 y1 y2)) ∧ (∀ y0 y1 y2 y3 y4 y5, LeO (impl_Relay.l2 k y0 y1 y2 y3 y4 y5) (impl_Relay.l2 (k + 1) y0 y1 y2 y3 y4 y5))
  | 0 => ⟨fun _ _ _ r h => by simp [impl_Relay.j0] at h, fun _ _ _ _ _ r h => by simp [impl_Relay.l0] at h, fun _ _ _ r h => by simp [impl_Relay.l1] at h, fun _ _ _ _ _ _ r h => by simp [impl_Relay.l2] at h⟩
  | k + 1 => by
    obtain ⟨ih0, ih1, ih2, ih3⟩ := impl_Relay.mono_l k
    refine ⟨?_, ?_, ?_, ?_⟩
    · intro y0 y1 y2
      unfold impl_Relay.j0
      repeat' first
      | (with_reducible exact ih0 _ _ _)
      | (with_reducible exact ih1 _ _ _ _ _)
      | (with_reducible exact ih2 _ _ _)
      | (with_reducible exact ih3 _ _ _ _ _ _)
      | (with_reducible exact impl_RadiosOk.mono _ _)
      | (with_reducible exact LeO.refl _)
      | (with_reducible exact LeO.none _)
      | (with_reducible refine LeO.ite ?_ ?_)
      | (with_reducible refine LeO.bind ?_ (fun _ => ?_))
      | exact ih0 _ _ _
      | exact ih1 _ _ _ _ _
      | exact ih2 _ _ _
      | exact ih3 _ _ _ _ _ _
      | exact impl_RadiosOk.mono _ _
      | exact LeO.none _
      | refine LeO.ite ?_ ?_
      | refine LeO.bind ?_ (fun _ => ?_)
    · intro y0 y1 y2 y3 y4
      unfold impl_Relay.l0
      repeat' first
      | (with_reducible exact ih0 _ _ _)
      | (with_reducible exact ih1 _ _ _ _ _)
      | (with_reducible exact ih2 _ _ _)
      | (with_reducible exact ih3 _ _ _ _ _ _)
      | (with_reducible exact impl_RadiosOk.mono _ _)
      | (with_reducible exact LeO.refl _)
      | (with_reducible exact LeO.none _)
      | (with_reducible refine LeO.ite ?_ ?_)
      | (with_reducible refine LeO.bind ?_ (fun _ => ?_))
      | exact ih0 _ _ _
      | exact ih1 _ _ _ _ _
      | exact ih2 _ _ _
      | exact ih3 _ _ _ _ _ _
      | exact impl_RadiosOk.mono _ _
      | exact LeO.none _
      | refine LeO.ite ?_ ?_
      | refine LeO.bind ?_ (fun _ => ?_)
    · intro y0 y1 y2
      unfold impl_Relay.l1
      repeat' first
      | (with_reducible exact ih0 _ _ _)
      | (with_reducible exact ih1 _ _ _ _ _)
      | (with_reducible exact ih2 _ _ _)
      | (with_reducible exact ih3 _ _ _ _ _ _)
      | (with_reducible exact impl_RadiosOk.mono _ _)
      | (with_reducible exact LeO.refl _)
      | (with_reducible exact LeO.none _)
      | (with_reducible refine LeO.ite ?_ ?_)
      | (with_reducible refine LeO.bind ?_ (fun _ => ?_))
      | exact ih0 _ _ _
      | exact ih1 _ _ _ _ _
      | exact ih2 _ _ _
      | exact ih3 _ _ _ _ _ _
      | exact impl_RadiosOk.mono _ _
      | exact LeO.none _
      | refine LeO.ite ?_ ?_
      | refine LeO.bind ?_ (fun _ => ?_)
    · intro y0 y1 y2 y3 y4 y5
      unfold impl_Relay.l2
      repeat' first
      | (with_reducible exact ih0 _ _ _)
      | (with_reducible exact ih1 _ _ _ _ _)
      | (with_reducible exact ih2 _ _ _)
      | (with_reducible exact ih3 _ _ _ _ _ _)
      | (with_reducible exact impl_RadiosOk.mono _ _)
      | (with_reducible exact LeO.refl _)
      | (with_reducible exact LeO.none _)
      | (with_reducible refine LeO.ite ?_ ?_)
      | (with_reducible refine LeO.bind ?_ (fun _ => ?_))
      | exact ih0 _ _ _
      | exact ih1 _ _ _ _ _
      | exact ih2 _ _ _
      | exact ih3 _ _ _ _ _ _
      | exact impl_RadiosOk.mono _ _
      | exact LeO.none _
      | refine LeO.ite ?_ ?_
      | refine LeO.bind ?_ (fun _ => ?_)
theorem impl_Relay.mono : ∀ a0 a1 k, LeO (impl_Relay.f k a0 a1) (impl_Relay.f (k + 1) a0 a1) := by
  intro a0 a1 k
  obtain ⟨ih0, ih1, ih2, ih3⟩ := impl_Relay.mono_l k
  unfold impl_Relay.f
  repeat' first
      | (with_reducible exact ih0 _ _ _)
      | (with_reducible exact ih1 _ _ _ _ _)
      | (with_reducible exact ih2 _ _ _)
      | (with_reducible exact ih3 _ _ _ _ _ _)
      | (with_reducible exact impl_RadiosOk.mono _ _)
      | (with_reducible exact LeO.refl _)
      | (with_reducible exact LeO.none _)
      | (with_reducible refine LeO.ite ?_ ?_)
      | (with_reducible refine LeO.bind ?_ (fun _ => ?_))
      | exact ih0 _ _ _
      | exact ih1 _ _ _ _ _
      | exact ih2 _ _ _
      | exact ih3 _ _ _ _ _ _
      | exact impl_RadiosOk.mono _ _
      | exact LeO.none _
      | refine LeO.ite ?_ ?_
      | refine LeO.bind ?_ (fun _ => ?_)
set_option maxHeartbeats 8000000 in
set_option maxRecDepth 100000 in
theorem impl_Relay.calls (k : Nat) (A0 : Option Addr) (c0 : Nat) (l0 : List (S53)) (a1 : Int) (r1 : List Int) (r2 : Bool) (w : World) (hr0 : Kd.C k53 w A0 l0.length l0) (hc0 : l0.length ≤ c0) (h : impl_Relay.f k l0 a1 = some (r1, r2)) :
    Calls Try.prog 17 #[.slice A0 l0.length c0, .int .i64 a1] w fun e w' => ∃ v0_ : Value, e = .returned (.tuple #[v0_, .bool r2]) ∧ Kd.R (Kd.int .i64) 3 w' w.heap.size (fun _ => True) v0_ r1 ∧ Below w.heap.size w w' := by
  have HR0 := Aside0.mk hr0
  have HC0 := Aside0.mk hc0
  clear hr0 hc0
  have HB := Aside0.mk (Below.refl w.heap.size w)
  have H : ((impl_RadiosOk.f k l0).bind fun t181 => (if t181 = true then ((impl_in.f a1 0 (wrap64 ((l0.length : Int) - 1))).bind fun t182 => (impl_Relay.j0 k l0 a1 (!t182))) else (impl_Relay.j0 k l0 a1 true))) = some (r1, r2) := h
  clear h
  have HC3 := Aside0.mk H
  clear H
  go_enter Try.func17, Try.ntmps17
  go_upto_region 1 with (fail)
  go_cut [21] (fun v21 wc => ∃ (kq : Nat) (x21_2 : Bool), v21 = .bool x21_2 ∧ Aside0 (impl_Relay.j0 kq l0 a1 x21_2 = some (r1, r2)) ∧ Aside0 (kq ≤ k) ∧ Aside0 (Below w.heap.size w wc))
  case first =>
    have H := HC3.out
    clear HC3
    replace H := Option.bind_eq_some_iff.mp H
    obtain ⟨t181, A40, H⟩ := H
    replace H : (if t181 = true then ((impl_in.f a1 0 (wrap64 ((l0.length : Int) - 1))).bind fun t182 => (impl_Relay.j0 k l0 a1 (!t182))) else (impl_Relay.j0 k l0 a1 true)) = some (r1, r2) := H
    have A4 := Aside0.mk A40
    clear A40
    by_cases c5 : t181 = true
    · subst c5
      have H1 : ((impl_in.f a1 0 (wrap64 ((l0.length : Int) - 1))).bind fun t182 => (impl_Relay.j0 k l0 a1 (!t182))) = some (r1, r2) := by rw [if_pos rfl] at H; exact H
      clear H
      have H := H1
      clear H1
      replace H := Option.bind_eq_some_iff.mp H
      obtain ⟨t182, A60, H⟩ := H
      replace H : (impl_Relay.j0 k l0 a1 (!t182)) = some (r1, r2) := H
      have A6 := Aside0.mk A60
      clear A60
      have H' := Aside0.mk H
      clear H
      go_wp2_with (first | ((with_reducible refine gate_callee (f := 30) rfl ?_); refine goesL_ (some 12) rfl rfl Try.func30 (by kernel_rfl) rfl #[.slice A0 l0.length c0] rfl (by (try simp only [List.map_toArray, List.map_cons, List.map_nil]); first | done | rfl | (simp only [List.length_drop, List.length_take]; rfl)) ?_; (with_reducible refine (impl_RadiosOk.calls k _ _ l0 true _ ?side1 ?side2 A4.out).mono ?_); (case side1 => repeat (first | exact (Kd.C_below HR0.out HB.out) | (with_reducible refine Kd.C_alloc ?_ _) | (with_reducible refine Kd.C_drewN ?_ _) | (with_reducible refine Kd.C_drew ?_))); (case side2 => exact HC0.out); rintro e w7 ⟨rfl, hb⟩; refine ⟨_, rfl, ?_⟩; have n0_ := Aside0.mk (below_step (by repeat (first | (with_reducible first | exact HB.out | apply below_alloc | apply pw_below_drewN | apply below_drew1) | exact HB.out)) hb); clear HB; have HB := n0_; clear n0_; (try clear hb); (try clear hb2); (try clear hk); (try clear hi)) | (go_at_call 31; (with_reducible refine (impl_in.calls a1 0 (wrap64 ((l0.length : Int) - 1)) t182 _ A6.out).mono ?_); rintro e w' ⟨rfl, ⟨nd, rfl⟩⟩))
      go_meet
      case rel => exact ⟨_, (!t182), (by first | rfl | (simp; done) | (simp [*]; done)), H', ⟨by first | omega | exact Nat.le_refl _⟩, ⟨by repeat (first | (with_reducible first | exact HB.out | apply below_alloc | apply pw_below_drewN | apply below_drew1) | exact HB.out)⟩⟩
    · replace c5 := Bool.eq_false_iff.mpr c5
      subst c5
      have H1 : (impl_Relay.j0 k l0 a1 true) = some (r1, r2) := by rw [if_neg (show ¬ (false = true) by decide)] at H; exact H
      clear H
      have H := H1
      clear H1
      have H' := Aside0.mk H
      clear H
      go_wp2_with (first | ((with_reducible refine gate_callee (f := 30) rfl ?_); refine goesL_ (some 12) rfl rfl Try.func30 (by kernel_rfl) rfl #[.slice A0 l0.length c0] rfl (by (try simp only [List.map_toArray, List.map_cons, List.map_nil]); first | done | rfl | (simp only [List.length_drop, List.length_take]; rfl)) ?_; (with_reducible refine (impl_RadiosOk.calls k _ _ l0 false _ ?side1 ?side2 A4.out).mono ?_); (case side1 => repeat (first | exact (Kd.C_below HR0.out HB.out) | (with_reducible refine Kd.C_alloc ?_ _) | (with_reducible refine Kd.C_drewN ?_ _) | (with_reducible refine Kd.C_drew ?_))); (case side2 => exact HC0.out); rintro e w8 ⟨rfl, hb⟩; refine ⟨_, rfl, ?_⟩; have n0_ := Aside0.mk (below_step (by repeat (first | (with_reducible first | exact HB.out | apply below_alloc | apply pw_below_drewN | apply below_drew1) | exact HB.out)) hb); clear HB; have HB := n0_; clear n0_; (try clear hb); (try clear hb2); (try clear hk); (try clear hi)))
      go_meet
      case rel => exact ⟨_, (true), (by first | rfl | (simp; done) | (simp [*]; done)), H', ⟨by first | omega | exact Nat.le_refl _⟩, ⟨by repeat (first | (with_reducible first | exact HB.out | apply below_alloc | apply pw_below_drewN | apply below_drew1) | exact HB.out)⟩⟩
  case rest =>
    clear HC3
    try clear c1
    try clear p2
    try clear c3
    try clear c5
    try clear p6
    obtain ⟨kq, x21_2, rfl, HA, HJ2, HB⟩ := hcut
    cases kq with
    | zero => exact absurd HA.out (by simp [impl_Relay.j0])
    | succ kj2 =>
      have H := HA.out
      clear HA
      simp only [impl_Relay.j0] at H
      by_cases c9 : x21_2 = true
      · subst c9
        have H1 : (some (([] : List Int), false)) = some (r1, r2) := by rw [if_pos rfl] at H; exact H
        clear H
        have H := H1
        clear H1
        simp only [Option.some.injEq, Prod.mk.injEq] at H
        obtain ⟨rfl, rfl⟩ := H
        go_wp2
        go_ret2
        exact ⟨_, by first | rfl | (simp [errW_none, errW_some] <;> rfl) | (simp [*, errW_none, errW_some] <;> rfl), by first | exact Kd.R_nil _ _ _ _ _ | exact Kd.N_nil _ _ _ _ _ | exact Kd.V_nil _ _ _ _ _ | exact Kd.Q_nil _ _ _ _ _ | exact Kd.S_nil _ _ _ _ _, by repeat (first | (with_reducible first | exact HB.out | apply below_alloc | apply pw_below_drewN | apply below_drew1) | exact HB.out)⟩
      · replace c9 := Bool.eq_false_iff.mpr c9
        subst c9
        have H1 : (if 0 ≤ (l0.length : Int) then (if ((l0.length : Int) : Int).toNat ≤ 35184372088832 then ((some (List.replicate ((l0.length : Int) : Int).toNat 0 : List Int)).bind fun y183 => (impl_Relay.l0 kj2 l0 a1 y183 (y183.length : Int) 0)) else (none)) else (none)) = some (r1, r2) := by rw [if_neg (show ¬ (false = true) by decide)] at H; exact H
        clear H
        have H := H1
        clear H1
        by_cases c10 : 0 ≤ (l0.length : Int)
        · rw [if_pos c10] at H
          have c10b0 := eq_true c10
          have c10b1 : decide (0 ≤ (l0.length : Int)) = true := decide_eq_true c10
          (try simp only [hl6_2] at c10b1)
          (try simp only [hl6_3] at c10b1)
          (try simp only [hl6_4] at c10b1)
          clear c10
          by_cases c11 : ((l0.length : Int) : Int).toNat ≤ 35184372088832
          · rw [if_pos c11] at H
            have c11b0 := eq_true c11
            have c11b1 : decide (((l0.length : Int) : Int).toNat ≤ 35184372088832) = true := decide_eq_true c11
            (try simp only [hl6_2] at c11b1)
            (try simp only [hl6_3] at c11b1)
            (try simp only [hl6_4] at c11b1)
            clear c11
            obtain ⟨y183, hy183⟩ : ∃ y_ : List Int, y_ = (List.replicate ((l0.length : Int) : Int).toNat 0) := ⟨_, rfl⟩
            replace H : (impl_Relay.l0 kj2 l0 a1 y183 (y183.length : Int) 0) = some (r1, r2) := by first | (rw [hy183]; with_reducible exact H) | (have H2_ := (Option.bind_some _ _).symm.trans H; rw [hy183]; with_reducible exact H2_) | (have H2_ := (Option.bind_some _ _).symm.trans H; with_reducible exact H2_) | with_reducible exact H | (rw [hy183]; exact H) | exact H
            have Ny183 := Aside0.mk hy183
            clear hy183
            have H' := Aside0.mk H
            clear H
            go_wp2_with (first | ((with_reducible refine gate_dst (N := 24) rfl ?_); (try (refine gate_guard (by rfl) ?_; dsimp only)); refine Kd.R_make (Kd.int .i64) _ 3 rfl (N := 24) rfl 26 _ _ rfl (l0.length : Int) rfl rfl Try.underlying26 (.int .i64 0) 8 info3 rfl (by decide) (by omega) 0 (ok := fun _ => True) (okp := fun _ => True) rfl (fun _ hk => hk) trivial (of_decide_eq_true (by first | (with_reducible assumption) | assumption)) (Nat.le_trans (Nat.mul_le_mul_right _ (of_decide_eq_true (by first | (with_reducible assumption) | assumption) : (l0.length : Int).toNat ≤ 35184372088832)) (by omega)) (Below.refl _ _) (Nat.le_refl _) ?_; intro v184 w12 ho13 hb hg_ hnew_; clear hg_ hnew_; (first | rw [← Ny183.out] at ho13 | (simp only [Int.reduceToNat] at ho13; rw [← Ny183.out] at ho13)); have n0_ := Aside0.mk (Kd.R_lower ho13 (below_size (by repeat (first | (with_reducible first | exact HB.out | apply below_alloc | apply pw_below_drewN | apply below_drew1) | exact HB.out)))); have n1_ := Aside0.mk (below_step (by repeat (first | (with_reducible first | exact HB.out | apply below_alloc | apply pw_below_drewN | apply below_drew1) | exact HB.out)) hb); clear HB; have HO185 := n0_; have HB := n1_; clear n0_ n1_; clear hb ho13; obtain ⟨Ao14, co14, eo14⟩ := Kd.R_slice HO185.out; subst eo14))
            go_loopg [27] kj2 (fun kq v27 w' => ∃ (x6_2 : List Int) (x27_2 : Int), v27 = .int .i64 x27_2 ∧ Aside0 (impl_Relay.l0 kq l0 a1 x6_2 (y183.length : Int) x27_2 = some (r1, r2)) ∧ Aside0 (kq ≤ kj2) ∧ Aside0 (Kd.R (Kd.int .i64) 3 w' w.heap.size (fun _ => True) (.slice Ao14 y183.length co14) x6_2) ∧ Aside0 (Below w.heap.size w w'))
            case atStart => exact ⟨(y183), (0), (by first | rfl | (simp; done) | (simp [*]; done)), H', ⟨Nat.le_refl _⟩, ⟨by (with_reducible repeat (first | apply Kd.R_alloc | apply Kd.R_drewN | apply Kd.R_drew)); exact HO185.out⟩, ⟨by repeat (first | (with_reducible first | exact HB.out | apply below_alloc | apply pw_below_drewN | apply below_drew1) | exact HB.out)⟩⟩
            case round =>
              clear H'
              try clear c1
              try clear p2
              try clear c3
              try clear c5
              try clear p6
              try clear c9
              try clear c10
              try clear c10b0
              try clear c10b1
              try clear c11
              try clear c11b0
              try clear c11b1
              try clear p2
              try clear p6
              obtain ⟨x6_2, x27_2, rfl, HA, HK2, HO_6, HB⟩ := hrel
              have hl6_2 := (Kd.R_reads' HO_6.out).1
              rw [hl6_2] at HO_6
              (try simp only [hl6_2])
              cases gk with
              | zero => exact absurd HA.out (by simp [impl_Relay.l0])
              | succ k2 =>
                have H := HA.out
                clear HA
                simp only [impl_Relay.l0] at H
                by_cases c15 : x27_2 < (y183.length : Int)
                · rw [if_pos c15] at H
                  have c15b0 : decide (x27_2 < (y183.length : Int)) = true := decide_eq_true c15
                  (try simp only [hl6_2] at c15b0)
                  (try simp only [hl6_3] at c15b0)
                  (try simp only [hl6_4] at c15b0)
                  clear c15
                  by_cases c16 : 0 ≤ x27_2
                  · rw [if_pos c16] at H
                    have c16b0 : decide (0 ≤ x27_2) = true := decide_eq_true c16
                    clear c16
                    by_cases c17 : x27_2 < (x6_2.length : Int)
                    · rw [if_pos c17] at H
                      have c17b0 : decide (x27_2 < (x6_2.length : Int)) = true := decide_eq_true c17
                      (try simp only [hl6_2] at c17b0)
                      (try simp only [hl6_3] at c17b0)
                      (try simp only [hl6_4] at c17b0)
                      clear c17
                      obtain ⟨y186, hy186⟩ : ∃ y_ : List Int, y_ = (x6_2.set (x27_2 : Int).toNat (-1)) := ⟨_, rfl⟩
                      replace H : (impl_Relay.l0 k2 l0 a1 y186 (y183.length : Int) (wrap64 (x27_2 + 1))) = some (r1, r2) := by first | (rw [hy186]; with_reducible exact H) | (have H2_ := (Option.bind_some _ _).symm.trans H; rw [hy186]; with_reducible exact H2_) | (have H2_ := (Option.bind_some _ _).symm.trans H; with_reducible exact H2_) | with_reducible exact H | (rw [hy186]; exact H) | exact H
                      have Ny186 := Aside0.mk hy186
                      clear hy186
                      have H' := Aside0.mk H
                      clear H
                      have p18 : 0 ≤ (x27_2 : Int) := of_decide_eq_true (by first | (with_reducible assumption) | assumption)
                      have q18 : (x27_2 : Int) < ((x6_2.length : Int) : Int) := of_decide_eq_true (by first | (with_reducible assumption) | assumption)
                      obtain ⟨go18, co18, eo18, gb18, gl18, cl18, HG18⟩ := Kd.R_form HO_6.out (by omega)
                      (first | cases eo18 | (injection eo18 with ea_ en_ ec_; (first | subst ea_ | (injection ea_ with ea_; subst ea_)); subst ec_; clear en_))
                      have GB18 := Aside0.mk gb18
                      have GG18 := Aside0.mk HG18
                      clear gb18 gl18 HG18
                      obtain ⟨hx18_0, hf18_0⟩ := Kd.R_celln 0 HO_6.out (x27_2 : Int) p18 q18
                      replace p18 := eq_true p18
                      replace q18 := eq_true q18
                      have HP19 := Kd.R_putg HO_6.out (x27_2 : Int) (-1)
                      go_wp2_with (first | ((with_reducible refine gate_store (t := 3) (p := 32) rfl ?_); refine store_event (t := 3) (p := 32) (v := ?vo_w20) (w1 := (wr.setCell ⟨go18, (x27_2 : Int).toNat, none⟩ (.int .i64 (-1)))) ?hg ?ho ?hn ?hr ?_; (case ho => rfl); (case hg => rfl); (case hn => rfl); (case hr => first | (go_simp; done) | (go_simp; rfl)); intro w20 hw; have hg : wr.grownBy w20 (some go18) := (by rw [hw]; exact HP19.2); have hp_ : Kd.R (Kd.int .i64) 3 w20 w.heap.size (fun _ => True) (.slice (some ⟨go18, 0, none⟩) x6_2.length co14) y186 := (by rw [hw, Ny186.out]; exact HP19.1); clear HP19; have n0_ := Aside0.mk (hp_); have n1_ := Aside0.mk ((by rw [hw]; exact below_set (HB.out) GB18.out : Below w.heap.size w w20)); clear HO_6; clear HB; have HO_6 := n0_; have HB := n1_; clear n0_ n1_; clear hg hw hp_))
                      (try simp only [← hl6_2])
                      go_roundg k2
                      case measure => have := HJ2.out; have := HK2.out; omega
                      case rel => exact ⟨(y186), (wrap64 (x27_2 + 1)), (by first | rfl | (simp; done) | (simp [*]; done)), H', ⟨by have := HJ2.out; have := HK2.out; omega⟩, ⟨by (try simp only [hl6_2]); (with_reducible repeat (first | apply Kd.R_alloc | apply Kd.R_drewN | apply Kd.R_drew)); exact HO_6.out⟩, ⟨by repeat (first | (with_reducible first | exact HB.out | apply below_alloc | apply pw_below_drewN | apply below_drew1) | exact HB.out)⟩⟩
                    · rw [if_neg c17] at H
                      exact absurd H (by simp)
                  · rw [if_neg c16] at H
                    exact absurd H (by simp)
                · rw [if_neg c15] at H
                  have c15b0 : decide (x27_2 < (y183.length : Int)) = false := decide_eq_false c15
                  (try simp only [hl6_2] at c15b0)
                  (try simp only [hl6_3] at c15b0)
                  (try simp only [hl6_4] at c15b0)
                  clear c15
                  by_cases c21 : 0 ≤ a1
                  · rw [if_pos c21] at H
                    have c21b0 : decide (0 ≤ a1) = true := decide_eq_true c21
                    clear c21
                    by_cases c22 : a1 < (x6_2.length : Int)
                    · rw [if_pos c22] at H
                      have c22b0 : decide (a1 < (x6_2.length : Int)) = true := decide_eq_true c22
                      (try simp only [hl6_2] at c22b0)
                      (try simp only [hl6_3] at c22b0)
                      (try simp only [hl6_4] at c22b0)
                      clear c22
                      obtain ⟨y187, hy187⟩ : ∃ y_ : List Int, y_ = (x6_2.set (a1 : Int).toNat 0) := ⟨_, rfl⟩
                      replace H : (impl_Relay.l1 k2 l0 y187 (([a1] : List Int))) = some (r1, r2) := by first | (rw [hy187]; with_reducible exact H) | (have H2_ := (Option.bind_some _ _).symm.trans H; rw [hy187]; with_reducible exact H2_) | (have H2_ := (Option.bind_some _ _).symm.trans H; with_reducible exact H2_) | with_reducible exact H | (rw [hy187]; exact H) | exact H
                      have Ny187 := Aside0.mk hy187
                      clear hy187
                      obtain ⟨y188, hy188⟩ : ∃ y_ : List Int, y_ = (([a1] : List Int)) := ⟨_, rfl⟩
                      replace H : (impl_Relay.l1 k2 l0 y187 y188) = some (r1, r2) := by first | (rw [hy188]; with_reducible exact H) | (have H2_ := (Option.bind_some _ _).symm.trans H; rw [hy188]; with_reducible exact H2_) | (have H2_ := (Option.bind_some _ _).symm.trans H; with_reducible exact H2_) | with_reducible exact H | (rw [hy188]; exact H) | exact H
                      have Ny188 := Aside0.mk hy188
                      clear hy188
                      have H' := Aside0.mk H
                      clear H
                      have p23 : 0 ≤ (a1 : Int) := of_decide_eq_true (by first | (with_reducible assumption) | assumption)
                      have q23 : (a1 : Int) < ((x6_2.length : Int) : Int) := of_decide_eq_true (by first | (with_reducible assumption) | assumption)
                      obtain ⟨go23, co23, eo23, gb23, gl23, cl23, HG23⟩ := Kd.R_form HO_6.out (by omega)
                      (first | cases eo23 | (injection eo23 with ea_ en_ ec_; (first | subst ea_ | (injection ea_ with ea_; subst ea_)); subst ec_; clear en_))
                      have GB23 := Aside0.mk gb23
                      have GG23 := Aside0.mk HG23
                      clear gb23 gl23 HG23
                      obtain ⟨hx23_0, hf23_0⟩ := Kd.R_celln 0 HO_6.out (a1 : Int) p23 q23
                      replace p23 := eq_true p23
                      replace q23 := eq_true q23
                      have HP24 := Kd.R_putg HO_6.out (a1 : Int) 0
                      go_wp2_with (first | ((with_reducible refine gate_store (t := 3) (p := 36) rfl ?_); refine store_event (t := 3) (p := 36) (v := ?vo_w25) (w1 := (wr.setCell ⟨go23, (a1 : Int).toNat, none⟩ (.int .i64 0))) ?hg ?ho ?hn ?hr ?_; (case ho => rfl); (case hg => rfl); (case hn => rfl); (case hr => first | (go_simp; done) | (go_simp; rfl)); intro w25 hw; have hg : wr.grownBy w25 (some go23) := (by rw [hw]; exact HP24.2); have hp_ : Kd.R (Kd.int .i64) 3 w25 w.heap.size (fun _ => True) (.slice (some ⟨go23, 0, none⟩) x6_2.length co14) y187 := (by rw [hw, Ny187.out]; exact HP24.1); clear HP24; have n0_ := Aside0.mk (hp_); have n1_ := Aside0.mk ((by rw [hw]; exact below_set (HB.out) GB23.out : Below w.heap.size w w25)); clear HO_6; clear HB; have HO_6 := n0_; have HB := n1_; clear n0_ n1_; clear hg hw hp_) | ((with_reducible refine gate_dst (N := 38) rfl ?_); (try (refine gate_guard (by rfl) ?_; dsimp only)); refine Kd.R_lit (Kd.int .i64) _ 3 ?hg (N := 38) ?hd (xs := ([a1] : List Int)) (inner := [.int .i64 a1]) (ok := fun _ => True) (okp := fun _ => True) ?hr ?hp (fun _ hk => hk) trivial (Below.refl _ _) (Nat.le_refl _) (by simp) ?_; (case hd => rfl); (case hg => rfl); (case hr => first | (go_simp; done) | (go_simp; rfl)); (case hp => exact (Reps.one (show Kd.M (Kd.int .i64) _ _ _ a1 [.int .i64 a1] from rfl) (Reps.none _ _))); intro v189 w26 ho27 hb hg_ hnew_; clear hg_ hnew_; (first | rw [← Ny188.out] at ho27 | (simp only [Int.reduceToNat] at ho27; rw [← Ny188.out] at ho27)); have n0_ := Aside0.mk (Kd.R_elder' (by (with_reducible repeat (first | apply Kd.R_alloc | apply Kd.R_drewN | apply Kd.R_drew)); exact HO_6.out) (Kd.R_base ho27) hb); have n1_ := Aside0.mk (Kd.R_lower (Kd.R_new' ho27 (Kd.R_lt (by (with_reducible repeat (first | apply Kd.R_alloc | apply Kd.R_drewN | apply Kd.R_drew)); exact HO_6.out))) (below_size (by repeat (first | (with_reducible first | exact HB.out | apply below_alloc | apply pw_below_drewN | apply below_drew1) | exact HB.out)))); have n2_ := Aside0.mk (below_step (by repeat (first | (with_reducible first | exact HB.out | apply below_alloc | apply pw_below_drewN | apply below_drew1) | exact HB.out)) hb); clear HO_6; clear HB; have HO_6 := n0_; have HO190 := n1_; have HB := n2_; clear n0_ n1_ n2_; clear hb ho27))
                      go_loopg [8] k2 (fun kq v8 w' => ∃ (x6_3 : List Int) (x8_3 : List Int), Aside0 (impl_Relay.l1 kq l0 x6_3 x8_3 = some (r1, r2)) ∧ Aside0 (kq ≤ k2) ∧ Aside0 (Kd.R (Kd.int .i64) 3 w' w.heap.size (fun k_ => some k_ ≠ (v8 : Value).ownBlock) (.slice (some ⟨go23, 0, none⟩) x6_2.length co14) x6_3) ∧ Aside0 (Kd.Q (Kd.int .i64) 3 w' w.heap.size (fun k_ => some k_ ≠ ((.slice (some ⟨go23, 0, none⟩) x6_2.length co14) : Value).ownBlock) v8 x8_3) ∧ Aside0 (Below w.heap.size w w'))
                      case atStart => exact ⟨(y187), (y188), H', ⟨Nat.le_refl _⟩, ⟨by (try simp only [hl6_2]); (with_reducible repeat (first | apply Kd.R_alloc | apply Kd.R_drewN | apply Kd.R_drew)); exact Kd.R_mono HO_6.out (fun _ hk => hk.2)⟩, ⟨Kd.Q_of_R (by (try simp only [hl6_2]); (with_reducible repeat (first | apply Kd.R_alloc | apply Kd.R_drewN | apply Kd.R_drew)); exact Kd.R_mono HO190.out (fun _ hk => hk.2))⟩, ⟨by repeat (first | (with_reducible first | exact HB.out | apply below_alloc | apply pw_below_drewN | apply below_drew1) | exact HB.out)⟩⟩
                      case round =>
                        clear H'
                        try clear c1
                        try clear p1
                        try clear q1
                        try clear hx1
                        try clear c2
                        try clear p2
                        try clear q2
                        try clear hx2
                        try clear hf2
                        try clear c3
                        try clear c5
                        try clear p6
                        try clear c9
                        try clear c10
                        try clear c10b0
                        try clear c10b1
                        try clear c11
                        try clear c11b0
                        try clear c11b1
                        try clear c15
                        try clear c15b0
                        try clear c16
                        try clear c16b0
                        try clear c17
                        try clear c17b0
                        try clear p18
                        try clear q18
                        try clear hx18
                        try clear hf18
                        try clear c21
                        try clear c21b0
                        try clear c22
                        try clear c22b0
                        try clear p23
                        try clear q23
                        try clear hx23
                        try clear hf23
                        try clear hx18_0
                        try clear hx23_0
                        try clear p18
                        try clear p2
                        try clear p23
                        try clear p6
                        try clear q18
                        try clear q23
                        obtain ⟨x6_3, x8_3, HA, HK3, HO_6, HO_8, HB⟩ := hrel
                        have hl6_3 := (Kd.R_reads' HO_6.out).1
                        rw [hl6_3] at HO_6
                        (try simp only [hl6_3])
                        (try simp only [hl6_3] at HO_8)
                        cases gk with
                        | zero => exact absurd HA.out (by simp [impl_Relay.l1])
                        | succ k3 =>
                          have H := HA.out
                          clear HA
                          simp only [impl_Relay.l1] at H
                          by_cases c28 : (x8_3.length : Int) > 0
                          · rw [if_pos c28] at H
                            have c28b0 : decide (0 < (x8_3.length : Int)) = true := decide_eq_true c28
                            (try simp only [hl6_2] at c28b0)
                            (try simp only [hl6_3] at c28b0)
                            (try simp only [hl6_4] at c28b0)
                            have c28b1 : decide (0 < x8_3.length) = true := decide_eq_true (by omega)
                            (try simp only [hl6_2] at c28b1)
                            (try simp only [hl6_3] at c28b1)
                            (try simp only [hl6_4] at c28b1)
                            clear c28
                            by_cases c29 : 0 < (x8_3.length : Int)
                            · rw [if_pos c29] at H
                              have c29b0 : decide (0 < (x8_3.length : Int)) = true := decide_eq_true c29
                              (try simp only [hl6_2] at c29b0)
                              (try simp only [hl6_3] at c29b0)
                              (try simp only [hl6_4] at c29b0)
                              have c29b1 : decide (0 < x8_3.length) = true := decide_eq_true (by omega)
                              (try simp only [hl6_2] at c29b1)
                              (try simp only [hl6_3] at c29b1)
                              (try simp only [hl6_4] at c29b1)
                              clear c29
                              by_cases c30 : 0 ≤ (rd x8_3 0)
                              · rw [if_pos c30] at H
                                have c30b0 : decide (0 ≤ (rd x8_3 0)) = true := decide_eq_true c30
                                clear c30
                                by_cases c31 : (rd x8_3 0) < (l0.length : Int)
                                · rw [if_pos c31] at H
                                  have c31b0 : decide ((rd x8_3 0) < (l0.length : Int)) = true := decide_eq_true c31
                                  (try simp only [hl6_2] at c31b0)
                                  (try simp only [hl6_3] at c31b0)
                                  (try simp only [hl6_4] at c31b0)
                                  clear c31
                                  have H' := Aside0.mk H
                                  clear H
                                  obtain ⟨Ao32, co32, eo32, _⟩ := Kd.Q_slice HO_8.out
                                  subst eo32
                                  have p191 : 0 ≤ (0 : Int) := (by omega)
                                  have q191 : 0 < (x8_3.length : Int) := of_decide_eq_true (by first | (with_reducible assumption) | assumption)
                                  obtain ⟨ad191, e191, hx191_0⟩ := Kd.at_int (Kd.Q_reads' HO_8.out).2.2 0 p191 q191
                                  cases e191
                                  have qi191 : (0 < x8_3.length) = True := eq_true (by omega)
                                  (try rw [show ((0 : Int)).toNat = 0 from rfl] at hx191_0)
                                  (try rw [Addr.add_zero'] at hx191_0)
                                  replace p191 := eq_true p191
                                  replace q191 := eq_true q191
                                  have p192 : 0 ≤ ((rd x8_3 0) : Int) := of_decide_eq_true (by first | (with_reducible assumption) | assumption)
                                  have q192 : (rd x8_3 0) < (l0.length : Int) := of_decide_eq_true (by first | (with_reducible assumption) | assumption)
                                  obtain ⟨ad192, A192_2, c192_2, e192, hx192_0, hx192_1, hx192_2, hl192_2, hi192_2⟩ := at_T53 HR0.out (rd x8_3 0) p192 q192
                                  cases e192
                                  replace hx192_0 := (HB.out.cell (World.block_lt_of_cell? w _ hx192_0)).trans hx192_0
                                  replace hx192_1 := (HB.out.cell (World.block_lt_of_cell? w _ hx192_1)).trans hx192_1
                                  replace hx192_2 := (HB.out.cell (World.block_lt_of_cell? w _ hx192_2)).trans hx192_2
                                  have HR192_2 := Aside0.mk hi192_2
                                  have HC192_2 := Aside0.mk hl192_2
                                  clear hi192_2 hl192_2
                                  replace p192 := eq_true p192
                                  replace q192 := eq_true q192
                                  go_wp2
                                  go_loopg [8, 52] k3 (fun kq v8 v52 w' => ∃ (x6_4 : List Int) (x8_4 : List Int) (x52_4 : Int), v52 = .int .i64 x52_4 ∧ Aside0 (impl_Relay.l2 kq l0 x6_4 x8_4 ((rd_T53 l0 (rd x8_3 0)).f2) (((rd_T53 l0 (rd x8_3 0)).f2).length : Int) x52_4 = some (r1, r2)) ∧ Aside0 (kq ≤ k3) ∧ Aside0 (Kd.R (Kd.int .i64) 3 w' w.heap.size (fun k_ => some k_ ≠ (v8 : Value).ownBlock) (.slice (some ⟨go23, 0, none⟩) x6_3.length co14) x6_4) ∧ Aside0 (Kd.Q (Kd.int .i64) 3 w' w.heap.size (fun k_ => some k_ ≠ ((.slice (some ⟨go23, 0, none⟩) x6_3.length co14) : Value).ownBlock) v8 x8_4) ∧ Aside0 (Below w.heap.size w w'))
                                  case atStart => exact ⟨(x6_3), (x8_3), (0), (by first | rfl | (simp; done) | (simp [*]; done)), H', ⟨Nat.le_refl _⟩, ⟨by (try simp only [hl6_2]); (try simp only [hl6_3]); (with_reducible repeat (first | apply Kd.R_alloc | apply Kd.R_drewN | apply Kd.R_drew)); exact HO_6.out⟩, ⟨by (try simp only [hl6_2]); (try simp only [hl6_3]); (with_reducible repeat (first | apply Kd.Q_alloc | apply Kd.Q_drewN | apply Kd.Q_drew)); exact HO_8.out⟩, ⟨by repeat (first | (with_reducible first | exact HB.out | apply below_alloc | apply pw_below_drewN | apply below_drew1) | exact HB.out)⟩⟩
                                  case round =>
                                    clear H'
                                    try clear c1
                                    try clear p1
                                    try clear q1
                                    try clear hx1
                                    try clear qi1
                                    try clear c2
                                    try clear p2
                                    try clear q2
                                    try clear hx2
                                    try clear hf2
                                    try clear c3
                                    try clear c5
                                    try clear p6
                                    try clear c9
                                    try clear c10
                                    try clear c10b0
                                    try clear c10b1
                                    try clear c11
                                    try clear c11b0
                                    try clear c11b1
                                    try clear c15
                                    try clear c15b0
                                    try clear c16
                                    try clear c16b0
                                    try clear c17
                                    try clear c17b0
                                    try clear p18
                                    try clear q18
                                    try clear hx18
                                    try clear hf18
                                    try clear c19
                                    try clear p19
                                    try clear q19
                                    try clear hx19
                                    try clear qi19
                                    try clear c21
                                    try clear c21b0
                                    try clear c22
                                    try clear c22b0
                                    try clear p23
                                    try clear q23
                                    try clear hx23
                                    try clear hf23
                                    try clear c28
                                    try clear c28b0
                                    try clear c28b1
                                    try clear c29
                                    try clear c29b0
                                    try clear c29b1
                                    try clear c30
                                    try clear c30b0
                                    try clear c31
                                    try clear c31b0
                                    try clear hx18_0
                                    try clear hx191_0
                                    try clear hx192_0
                                    try clear hx192_1
                                    try clear hx192_2
                                    try clear hx23_0
                                    try clear p1
                                    try clear p18
                                    try clear p191
                                    try clear p192
                                    try clear p2
                                    try clear p23
                                    try clear p6
                                    try clear q1
                                    try clear q18
                                    try clear q191
                                    try clear q192
                                    try clear q2
                                    try clear q23
                                    obtain ⟨x6_4, x8_4, x52_4, rfl, HA, HK4, HO_6, HO_8, HB⟩ := hrel
                                    have hl6_4 := (Kd.R_reads' HO_6.out).1
                                    rw [hl6_4] at HO_6
                                    (try simp only [hl6_4])
                                    (try simp only [hl6_4] at HO_8)
                                    cases gk with
                                    | zero => exact absurd HA.out (by simp [impl_Relay.l2])
                                    | succ k4 =>
                                      have H := HA.out
                                      clear HA
                                      simp only [impl_Relay.l2] at H
                                      by_cases c33 : x52_4 < (((rd_T53 l0 (rd x8_3 0)).f2).length : Int)
                                      · rw [if_pos c33] at H
                                        have c33b0 : decide (x52_4 < (((rd_T53 l0 (rd x8_3 0)).f2).length : Int)) = true := decide_eq_true c33
                                        (try simp only [hl6_2] at c33b0)
                                        (try simp only [hl6_3] at c33b0)
                                        (try simp only [hl6_4] at c33b0)
                                        clear c33
                                        by_cases c34 : 0 ≤ x52_4
                                        · rw [if_pos c34] at H
                                          have c34b0 : decide (0 ≤ x52_4) = true := decide_eq_true c34
                                          clear c34
                                          by_cases c35 : x52_4 < (((rd_T53 l0 (rd x8_3 0)).f2).length : Int)
                                          · rw [if_pos c35] at H
                                            have c35b0 : decide (x52_4 < (((rd_T53 l0 (rd x8_3 0)).f2).length : Int)) = true := decide_eq_true c35
                                            (try simp only [hl6_2] at c35b0)
                                            (try simp only [hl6_3] at c35b0)
                                            (try simp only [hl6_4] at c35b0)
                                            clear c35
                                            by_cases c36 : 0 ≤ (rd ((rd_T53 l0 (rd x8_3 0)).f2) x52_4)
                                            · rw [if_pos c36] at H
                                              have c36b0 : decide (0 ≤ (rd ((rd_T53 l0 (rd x8_3 0)).f2) x52_4)) = true := decide_eq_true c36
                                              clear c36
                                              by_cases c37 : (rd ((rd_T53 l0 (rd x8_3 0)).f2) x52_4) < (x6_4.length : Int)
                                              · rw [if_pos c37] at H
                                                have c37b0 : decide ((rd ((rd_T53 l0 (rd x8_3 0)).f2) x52_4) < (x6_4.length : Int)) = true := decide_eq_true c37
                                                (try simp only [hl6_2] at c37b0)
                                                (try simp only [hl6_3] at c37b0)
                                                (try simp only [hl6_4] at c37b0)
                                                clear c37
                                                by_cases c38 : (rd x6_4 (rd ((rd_T53 l0 (rd x8_3 0)).f2) x52_4)) < 0
                                                · rw [if_pos c38] at H
                                                  have c38b0 : decide ((rd x6_4 (rd ((rd_T53 l0 (rd x8_3 0)).f2) x52_4)) < 0) = true := decide_eq_true c38
                                                  clear c38
                                                  by_cases c39 : 0 < (x8_4.length : Int)
                                                  · rw [if_pos c39] at H
                                                    have c39b0 : decide (0 < (x8_4.length : Int)) = true := decide_eq_true c39
                                                    (try simp only [hl6_2] at c39b0)
                                                    (try simp only [hl6_3] at c39b0)
                                                    (try simp only [hl6_4] at c39b0)
                                                    have c39b1 : decide (0 < x8_4.length) = true := decide_eq_true (by omega)
                                                    (try simp only [hl6_2] at c39b1)
                                                    (try simp only [hl6_3] at c39b1)
                                                    (try simp only [hl6_4] at c39b1)
                                                    clear c39
                                                    by_cases c40 : 0 ≤ (rd x8_4 0)
                                                    · rw [if_pos c40] at H
                                                      have c40b0 : decide (0 ≤ (rd x8_4 0)) = true := decide_eq_true c40
                                                      clear c40
                                                      by_cases c41 : (rd x8_4 0) < (x6_4.length : Int)
                                                      · rw [if_pos c41] at H
                                                        have c41b0 : decide ((rd x8_4 0) < (x6_4.length : Int)) = true := decide_eq_true c41
                                                        (try simp only [hl6_2] at c41b0)
                                                        (try simp only [hl6_3] at c41b0)
                                                        (try simp only [hl6_4] at c41b0)
                                                        clear c41
                                                        obtain ⟨y197, hy197⟩ : ∃ y_ : List Int, y_ = (x6_4.set ((rd ((rd_T53 l0 (rd x8_3 0)).f2) x52_4) : Int).toNat (wrap64 ((rd x6_4 (rd x8_4 0)) + 1))) := ⟨_, rfl⟩
                                                        replace H : (if x8_4.length < 17592186044416 then (impl_Relay.l2 k4 l0 y197 (x8_4 ++ [rd ((rd_T53 l0 (rd x8_3 0)).f2) x52_4]) ((rd_T53 l0 (rd x8_3 0)).f2) (((rd_T53 l0 (rd x8_3 0)).f2).length : Int) (wrap64 (x52_4 + 1))) else (none)) = some (r1, r2) := by first | (rw [hy197]; with_reducible exact H) | (have H2_ := (Option.bind_some _ _).symm.trans H; rw [hy197]; with_reducible exact H2_) | (have H2_ := (Option.bind_some _ _).symm.trans H; with_reducible exact H2_) | with_reducible exact H | (rw [hy197]; exact H) | exact H
                                                        have Ny197 := Aside0.mk hy197
                                                        clear hy197
                                                        by_cases c43 : x8_4.length < 17592186044416
                                                        · rw [if_pos c43] at H
                                                          have LMc43 := Aside0.mk c43
                                                          clear c43
                                                          obtain ⟨y198, hy198⟩ : ∃ y_ : List Int, y_ = (x8_4 ++ [rd ((rd_T53 l0 (rd x8_3 0)).f2) x52_4]) := ⟨_, rfl⟩
                                                          replace H : (impl_Relay.l2 k4 l0 y197 y198 ((rd_T53 l0 (rd x8_3 0)).f2) (((rd_T53 l0 (rd x8_3 0)).f2).length : Int) (wrap64 (x52_4 + 1))) = some (r1, r2) := by first | (rw [hy198]; with_reducible exact H) | (have H2_ := (Option.bind_some _ _).symm.trans H; rw [hy198]; with_reducible exact H2_) | (have H2_ := (Option.bind_some _ _).symm.trans H; with_reducible exact H2_) | with_reducible exact H | (rw [hy198]; exact H) | exact H
                                                          have Ny198 := Aside0.mk hy198
                                                          clear hy198
                                                          have H' := Aside0.mk H
                                                          clear H
                                                          have p193 : 0 ≤ (x52_4 : Int) := of_decide_eq_true (by first | (with_reducible assumption) | assumption)
                                                          have q193 : x52_4 < (((rd_T53 l0 (rd x8_3 0)).f2).length : Int) := of_decide_eq_true (by first | (with_reducible assumption) | assumption)
                                                          obtain ⟨ad193, e193, hx193_0⟩ := Kd.at_int HR192_2.out x52_4 p193 q193
                                                          cases e193
                                                          replace hx193_0 := (HB.out.cell (World.block_lt_of_cell? w _ hx193_0)).trans hx193_0
                                                          replace p193 := eq_true p193
                                                          replace q193 := eq_true q193
                                                          have p194 : 0 ≤ ((rd ((rd_T53 l0 (rd x8_3 0)).f2) x52_4) : Int) := of_decide_eq_true (by first | (with_reducible assumption) | assumption)
                                                          have q194 : (rd ((rd_T53 l0 (rd x8_3 0)).f2) x52_4) < (x6_4.length : Int) := of_decide_eq_true (by first | (with_reducible assumption) | assumption)
                                                          obtain ⟨ad194, e194, hx194_0⟩ := Kd.at_int (Kd.R_reads' HO_6.out).2.2 (rd ((rd_T53 l0 (rd x8_3 0)).f2) x52_4) p194 q194
                                                          obtain rfl : (⟨go23, 0, none⟩ : Addr) = ad194 := (by injection e194)
                                                          (first | simp only [add_plain] at hx194_0 | simp only [add_at] at hx194_0 | simp only [Addr.add, Nat.zero_add] at hx194_0 | skip)
                                                          replace p194 := eq_true p194
                                                          replace q194 := eq_true q194
                                                          obtain ⟨Ao44, co44, eo44, _⟩ := Kd.Q_slice HO_8.out
                                                          subst eo44
                                                          have p195 : 0 ≤ (0 : Int) := (by omega)
                                                          have q195 : 0 < (x8_4.length : Int) := of_decide_eq_true (by first | (with_reducible assumption) | assumption)
                                                          obtain ⟨ad195, e195, hx195_0⟩ := Kd.at_int (Kd.Q_reads' HO_8.out).2.2 0 p195 q195
                                                          cases e195
                                                          have qi195 : (0 < x8_4.length) = True := eq_true (by omega)
                                                          (try rw [show ((0 : Int)).toNat = 0 from rfl] at hx195_0)
                                                          (try rw [Addr.add_zero'] at hx195_0)
                                                          replace p195 := eq_true p195
                                                          replace q195 := eq_true q195
                                                          have p196 : 0 ≤ ((rd x8_4 0) : Int) := of_decide_eq_true (by first | (with_reducible assumption) | assumption)
                                                          have q196 : (rd x8_4 0) < (x6_4.length : Int) := of_decide_eq_true (by first | (with_reducible assumption) | assumption)
                                                          obtain ⟨ad196, e196, hx196_0⟩ := Kd.at_int (Kd.R_reads' HO_6.out).2.2 (rd x8_4 0) p196 q196
                                                          obtain rfl : (⟨go23, 0, none⟩ : Addr) = ad196 := (by injection e196)
                                                          (first | simp only [add_plain] at hx196_0 | simp only [add_at] at hx196_0 | simp only [Addr.add, Nat.zero_add] at hx196_0 | skip)
                                                          replace p196 := eq_true p196
                                                          replace q196 := eq_true q196
                                                          have p42 : 0 ≤ ((rd ((rd_T53 l0 (rd x8_3 0)).f2) x52_4) : Int) := of_decide_eq_true (by first | (with_reducible assumption) | assumption)
                                                          have q42 : ((rd ((rd_T53 l0 (rd x8_3 0)).f2) x52_4) : Int) < ((x6_4.length : Int) : Int) := of_decide_eq_true (by first | (with_reducible assumption) | assumption)
                                                          obtain ⟨hx42_0, hf42_0⟩ := Kd.R_celln 0 HO_6.out ((rd ((rd_T53 l0 (rd x8_3 0)).f2) x52_4) : Int) p42 q42
                                                          replace p42 := eq_true p42
                                                          replace q42 := eq_true q42
                                                          have HP45 := Kd.R_putg HO_6.out ((rd ((rd_T53 l0 (rd x8_3 0)).f2) x52_4) : Int) (wrap64 ((rd x6_4 (rd x8_4 0)) + 1))
                                                          go_wp2_with (first | ((with_reducible refine gate_store (t := 3) (p := 70) rfl ?_); refine store_event (t := 3) (p := 70) (v := ?vo_w46) (w1 := (wr.setCell ⟨go23, ((rd ((rd_T53 l0 (rd x8_3 0)).f2) x52_4) : Int).toNat, none⟩ (.int .i64 (wrap64 ((rd x6_4 (rd x8_4 0)) + 1))))) ?hg ?ho ?hn ?hr ?_; (case ho => rfl); (case hg => rfl); (case hn => rfl); (case hr => first | (go_simp; done) | (go_simp; rfl)); intro w46 hw; have hg : wr.grownBy w46 (some go23) := (by rw [hw]; exact HP45.2); have hp_ : Kd.R (Kd.int .i64) 3 w46 w.heap.size (fun k_ => some k_ ≠ (.slice (some ad195) x8_4.length co44 : Value).ownBlock) (.slice (some ⟨go23, 0, none⟩) x6_4.length co14) y197 := (by rw [hw, Ny197.out]; exact HP45.1); clear HP45; have n0_ := Aside0.mk (hp_); have n1_ := Aside0.mk (Kd.Q_after (v := (.slice (some ⟨go23, 0, none⟩) x6_4.length co14)) (v1 := (.slice (some ⟨go23, 0, none⟩) x6_4.length co14)) (ok := (fun _ => True)) (by (with_reducible repeat (first | apply Kd.Q_alloc | apply Kd.Q_drewN | apply Kd.Q_drew)); exact Kd.Q_mono HO_8.out (fun _ hk => ⟨trivial, hk⟩)) hg (.inl rfl)); have n2_ := Aside0.mk ((by rw [hw]; exact below_set (HB.out) GB23.out : Below w.heap.size w w46)); clear HO_6; clear HO_8; clear HB; have HO_6 := n0_; have HO_8 := n1_; have HB := n2_; clear n0_ n1_ n2_; clear hg hw hp_) | ((with_reducible refine gate_builtin (b := .append) (xs := #[.tmp 71, .tmp 73]) rfl ?_); (try (refine gate_guard (by rfl) ?_; dsimp only)); at_builtin; refine Kd.Q_append (Kd.int .i64) (w0 := w) w.heap.size rfl (.tmp 71) (.tmp 73) 26 3 (.int .i64 0) 8 rfl Try.underlying26 info3 rfl (by decide) (by omega) (.slice (some ad195) x8_4.length co44) x8_4 (rd ((rd_T53 l0 (rd x8_3 0)).f2) x52_4) [.int .i64 (rd ((rd_T53 l0 (rd x8_3 0)).f2) x52_4)] (fun k_ => some k_ ≠ (.slice (some ⟨go23, 0, none⟩) x6_4.length co14 : Value).ownBlock) (fun _ => False) rfl rfl ?aP (fun _ hk => hk.elim) ?aF ?aO ?aB ?aS ?aL ?_; (case aP => exact rfl); (case aB => exact (by repeat (first | (with_reducible first | exact HB.out | apply below_alloc | apply pw_below_drewN | apply below_drew1) | exact HB.out))); (case aF => exact (fun k_ hk => Kd.fresh' (Kd.R_lt (by (with_reducible repeat (first | apply Kd.R_alloc | apply Kd.R_drewN | apply Kd.R_drew)); exact HO_6.out)) k_ hk)); (case aO => exact (by (with_reducible repeat (first | apply Kd.Q_alloc | apply Kd.Q_drewN | apply Kd.Q_drew)); exact Kd.Q_mono HO_8.out (fun _ hk => hk.2))); (case aS => exact (below_size (by repeat (first | (with_reducible first | exact HB.out | apply below_alloc | apply pw_below_drewN | apply below_drew1) | exact HB.out)))); (case aL => have := LMc43.out; omega); intro v199 w47 ho hb hg hat; rw [← Ny198.out] at ho; have n0_ := Aside0.mk (Kd.R_after (ok := (fun _ => True)) (by (with_reducible repeat (first | apply Kd.R_alloc | apply Kd.R_drewN | apply Kd.R_drew)); exact Kd.R_mono HO_6.out (fun _ hk => ⟨trivial, hk⟩)) hg hat); have n1_ := Aside0.mk (hb); have n2_ := Aside0.mk (ho); clear HO_6; clear HB; clear HO_8; have HO_6 := n0_; have HB := n1_; have HO200 := n2_; clear n0_ n1_ n2_; clear ho hb hg hat))
                                                          (try simp only [← hl6_4])
                                                          go_roundg k4
                                                          case measure => have := HJ2.out; have := HK2.out; have := HK3.out; have := HK4.out; omega
                                                          case rel => exact ⟨(y197), (y198), (wrap64 (x52_4 + 1)), (by first | rfl | (simp; done) | (simp [*]; done)), H', ⟨by have := HJ2.out; have := HK2.out; have := HK3.out; have := HK4.out; omega⟩, ⟨by (try simp only [hl6_2]); (try simp only [hl6_3]); (try simp only [hl6_4]); (with_reducible repeat (first | apply Kd.R_alloc | apply Kd.R_drewN | apply Kd.R_drew)); exact Kd.R_mono HO_6.out (fun _ hk => hk.2)⟩, ⟨by (try simp only [hl6_2]); (try simp only [hl6_3]); (try simp only [hl6_4]); (with_reducible repeat (first | apply Kd.Q_alloc | apply Kd.Q_drewN | apply Kd.Q_drew)); exact HO200.out⟩, ⟨by repeat (first | (with_reducible first | exact HB.out | apply below_alloc | apply pw_below_drewN | apply below_drew1) | exact HB.out)⟩⟩
                                                        · rw [if_neg c43] at H
                                                          exact absurd H (by simp)
                                                      · rw [if_neg c41] at H
                                                        exact absurd H (by simp)
                                                    · rw [if_neg c40] at H
                                                      exact absurd H (by simp)
                                                  · rw [if_neg c39] at H
                                                    exact absurd H (by simp)
                                                · rw [if_neg c38] at H
                                                  have c38b0 : decide ((rd x6_4 (rd ((rd_T53 l0 (rd x8_3 0)).f2) x52_4)) < 0) = false := decide_eq_false c38
                                                  clear c38
                                                  have H' := Aside0.mk H
                                                  clear H
                                                  have p193 : 0 ≤ (x52_4 : Int) := of_decide_eq_true (by first | (with_reducible assumption) | assumption)
                                                  have q193 : x52_4 < (((rd_T53 l0 (rd x8_3 0)).f2).length : Int) := of_decide_eq_true (by first | (with_reducible assumption) | assumption)
                                                  obtain ⟨ad193, e193, hx193_0⟩ := Kd.at_int HR192_2.out x52_4 p193 q193
                                                  cases e193
                                                  replace hx193_0 := (HB.out.cell (World.block_lt_of_cell? w _ hx193_0)).trans hx193_0
                                                  replace p193 := eq_true p193
                                                  replace q193 := eq_true q193
                                                  have p194 : 0 ≤ ((rd ((rd_T53 l0 (rd x8_3 0)).f2) x52_4) : Int) := of_decide_eq_true (by first | (with_reducible assumption) | assumption)
                                                  have q194 : (rd ((rd_T53 l0 (rd x8_3 0)).f2) x52_4) < (x6_4.length : Int) := of_decide_eq_true (by first | (with_reducible assumption) | assumption)
                                                  obtain ⟨ad194, e194, hx194_0⟩ := Kd.at_int (Kd.R_reads' HO_6.out).2.2 (rd ((rd_T53 l0 (rd x8_3 0)).f2) x52_4) p194 q194
                                                  obtain rfl : (⟨go23, 0, none⟩ : Addr) = ad194 := (by injection e194)
                                                  (first | simp only [add_plain] at hx194_0 | simp only [add_at] at hx194_0 | simp only [Addr.add, Nat.zero_add] at hx194_0 | skip)
                                                  replace p194 := eq_true p194
                                                  replace q194 := eq_true q194
                                                  go_wp2
                                                  (try simp only [← hl6_4])
                                                  go_roundg k4
                                                  case measure => have := HJ2.out; have := HK2.out; have := HK3.out; have := HK4.out; omega
                                                  case rel => exact ⟨(x6_4), (x8_4), (wrap64 (x52_4 + 1)), (by first | rfl | (simp; done) | (simp [*]; done)), H', ⟨by have := HJ2.out; have := HK2.out; have := HK3.out; have := HK4.out; omega⟩, ⟨by (try simp only [hl6_2]); (try simp only [hl6_3]); (try simp only [hl6_4]); (with_reducible repeat (first | apply Kd.R_alloc | apply Kd.R_drewN | apply Kd.R_drew)); exact HO_6.out⟩, ⟨by (try simp only [hl6_2]); (try simp only [hl6_3]); (try simp only [hl6_4]); (with_reducible repeat (first | apply Kd.Q_alloc | apply Kd.Q_drewN | apply Kd.Q_drew)); exact HO_8.out⟩, ⟨by repeat (first | (with_reducible first | exact HB.out | apply below_alloc | apply pw_below_drewN | apply below_drew1) | exact HB.out)⟩⟩
                                              · rw [if_neg c37] at H
                                                exact absurd H (by simp)
                                            · rw [if_neg c36] at H
                                              exact absurd H (by simp)
                                          · rw [if_neg c35] at H
                                            exact absurd H (by simp)
                                        · rw [if_neg c34] at H
                                          exact absurd H (by simp)
                                      · rw [if_neg c33] at H
                                        have c33b0 : decide (x52_4 < (((rd_T53 l0 (rd x8_3 0)).f2).length : Int)) = false := decide_eq_false c33
                                        (try simp only [hl6_2] at c33b0)
                                        (try simp only [hl6_3] at c33b0)
                                        (try simp only [hl6_4] at c33b0)
                                        clear c33
                                        by_cases c48 : 1 ≤ (x8_4.length : Int)
                                        · rw [if_pos c48] at H
                                          have c48b0 := eq_true c48
                                          have c48b1 : decide (1 ≤ (x8_4.length : Int)) = true := decide_eq_true c48
                                          (try simp only [hl6_2] at c48b1)
                                          (try simp only [hl6_3] at c48b1)
                                          (try simp only [hl6_4] at c48b1)
                                          clear c48
                                          obtain ⟨y201, hy201⟩ : ∃ y_ : List Int, y_ = (x8_4.drop (1 : Int).toNat) := ⟨_, rfl⟩
                                          replace H : (impl_Relay.l1 k4 l0 x6_4 y201) = some (r1, r2) := by first | (rw [hy201]; with_reducible exact H) | (have H2_ := (Option.bind_some _ _).symm.trans H; rw [hy201]; with_reducible exact H2_) | (have H2_ := (Option.bind_some _ _).symm.trans H; with_reducible exact H2_) | with_reducible exact H | (rw [hy201]; exact H) | exact H
                                          have Ny201 := Aside0.mk hy201
                                          clear hy201
                                          have H' := Aside0.mk H
                                          clear H
                                          obtain ⟨Ao49, co49, eo49, _⟩ := Kd.Q_slice HO_8.out
                                          subst eo49
                                          have q50 : (1 : Int) ≤ ((x8_4.length : Int) : Int) := of_decide_eq_true (by first | (with_reducible assumption) | assumption)
                                          obtain ⟨i050, hi050, _, hsz50, _⟩ := info_parts info3
                                          have hcut50 := cut_from (P := Try.prog) 26 3 .i64 Try.underlying26 hi050 1 hsz50 Ao49 x8_4.length co49 1 (by omega) q50
                                          have hr50 := Kd.Q_drop (k := (1 : Int).toNat) HO_8.out (by omega)
                                          obtain ⟨A50, hA50⟩ : ∃ A1, A1 = (if co49 = (1 : Int).toNat then Ao49 else (Ao49 : Option Addr).map (·.add ((1 : Int).toNat * 1))) := ⟨_, rfl⟩
                                          obtain ⟨c50, hc50⟩ : ∃ c1, c1 = co49 - (1 : Int).toNat := ⟨_, rfl⟩
                                          have hy50 : y201.length = x8_4.length - (1 : Int).toNat := (by rw [Ny201.out, List.length_drop])
                                          rw [← Ny201.out] at hr50
                                          rw [← hy50, ← hA50, ← hc50] at hcut50
                                          replace hr50 : Kd.Q (Kd.int .i64) 3 wr w.heap.size (fun k_ => some k_ ≠ (.slice (some ⟨go23, 0, none⟩) x6_4.length co14 : Value).ownBlock) (.slice A50 y201.length c50) y201 := (by rw [hA50, hc50, hy50]; exact hr50)
                                          have HE50 : Aside0 ((Value.slice A50 y201.length c50).ownBlock = (.slice Ao49 x8_4.length co49 : Value).ownBlock) := ⟨by rw [hA50]; split <;> (cases (Ao49 : Option Addr) <;> rfl)⟩
                                          clear hy50 hi050 hsz50 HO_8 hA50 hc50
                                          have HO203 := Aside0.mk hr50
                                          clear hr50
                                          replace q50 := eq_true q50
                                          have n_ := Aside0.mk (Kd.R_mono (ok' := fun k_ => some k_ ≠ (.slice A50 y201.length c50 : Value).ownBlock) HO_6.out (fun k_ hk => (by rw [HE50.out]; exact hk)))
                                          clear HO_6
                                          have HO_6 := n_
                                          clear n_
                                          go_wp2
                                          (try simp only [← hl6_3, ← hl6_4])
                                          go_roundg k4
                                          case measure => have := HJ2.out; have := HK2.out; have := HK3.out; have := HK4.out; omega
                                          case rel => exact ⟨(x6_4), (y201), H', ⟨by have := HJ2.out; have := HK2.out; have := HK3.out; have := HK4.out; omega⟩, ⟨by (try simp only [hl6_2]); (try simp only [hl6_3]); (try simp only [hl6_4]); (with_reducible repeat (first | apply Kd.R_alloc | apply Kd.R_drewN | apply Kd.R_drew)); exact HO_6.out⟩, ⟨by (try simp only [hl6_2]); (try simp only [hl6_3]); (try simp only [hl6_4]); (with_reducible repeat (first | apply Kd.Q_alloc | apply Kd.Q_drewN | apply Kd.Q_drew)); exact HO203.out⟩, ⟨by repeat (first | (with_reducible first | exact HB.out | apply below_alloc | apply pw_below_drewN | apply below_drew1) | exact HB.out)⟩⟩
                                        · rw [if_neg c48] at H
                                          exact absurd H (by simp)
                                · rw [if_neg c31] at H
                                  exact absurd H (by simp)
                              · rw [if_neg c30] at H
                                exact absurd H (by simp)
                            · rw [if_neg c29] at H
                              exact absurd H (by simp)
                          · rw [if_neg c28] at H
                            have c28b0 : decide (0 < (x8_3.length : Int)) = false := decide_eq_false c28
                            (try simp only [hl6_2] at c28b0)
                            (try simp only [hl6_3] at c28b0)
                            (try simp only [hl6_4] at c28b0)
                            have c28b1 : decide (0 < x8_3.length) = false := decide_eq_false (by omega)
                            (try simp only [hl6_2] at c28b1)
                            (try simp only [hl6_3] at c28b1)
                            (try simp only [hl6_4] at c28b1)
                            clear c28
                            simp only [Option.some.injEq, Prod.mk.injEq] at H
                            obtain ⟨rfl, rfl⟩ := H
                            obtain ⟨Ao51, co51, eo51, _⟩ := Kd.Q_slice HO_8.out
                            subst eo51
                            go_wp2
                            go_ret2
                            exact ⟨_, by first | rfl | (simp [errW_none, errW_some] <;> rfl) | (simp [*, errW_none, errW_some] <;> rfl), by (with_reducible repeat (first | apply Kd.R_alloc | apply Kd.R_drewN | apply Kd.R_drew)); exact Kd.R_mono HO_6.out (fun _ hk => trivial), by repeat (first | (with_reducible first | exact HB.out | apply below_alloc | apply pw_below_drewN | apply below_drew1) | exact HB.out)⟩
                    · rw [if_neg c22] at H
                      exact absurd H (by simp)
                  · rw [if_neg c21] at H
                    exact absurd H (by simp)
          · rw [if_neg c11] at H
            exact absurd H (by simp)
        · rw [if_neg c10] at H
          exact absurd H (by simp)

/-! ### laws_eqRadio: function 32 -/
def laws_eqRadio.f (k : Nat) (a0_0 : Int) (a0_1 : Int) (l0_2 : List Int) (a1_0 : Int) (a1_1 : Int) (l1_2 : List Int) : Option (Bool) := if a0_0 = a1_0 then (if a0_1 = a1_1 then ((laws_eqIntS.f k l0_2 l1_2).bind fun t206 => (if t206 = true then (some true) else (some false))) else (some false)) else (some false)
theorem laws_eqRadio.mono : ∀ a0 a1 a2 a3 a4 a5 k, LeO (laws_eqRadio.f k a0 a1 a2 a3 a4 a5) (laws_eqRadio.f (k + 1) a0 a1 a2 a3 a4 a5) := by
  intro a0 a1 a2 a3 a4 a5 k
  unfold laws_eqRadio.f
  repeat' first
      | (with_reducible exact laws_eqIntS.mono _ _ _)
      | (with_reducible exact LeO.refl _)
      | (with_reducible exact LeO.none _)
      | (with_reducible refine LeO.ite ?_ ?_)
      | (with_reducible refine LeO.bind ?_ (fun _ => ?_))
      | exact laws_eqIntS.mono _ _ _
      | exact LeO.none _
      | refine LeO.ite ?_ ?_
      | refine LeO.bind ?_ (fun _ => ?_)
set_option maxHeartbeats 8000000 in
set_option maxRecDepth 100000 in
theorem laws_eqRadio.calls (k : Nat) (a0_0 : Int) (a0_1 : Int) (A0_2 : Option Addr) (c0_2 : Nat) (l0_2 : List Int) (a1_0 : Int) (a1_1 : Int) (A1_2 : Option Addr) (c1_2 : Nat) (l1_2 : List Int) (r : Bool) (w : World) (hr0_2 : Kd.C (Kd.int .i64) w A0_2 l0_2.length l0_2) (hc0_2 : l0_2.length ≤ c0_2) (hr1_2 : Kd.C (Kd.int .i64) w A1_2 l1_2.length l1_2) (hc1_2 : l1_2.length ≤ c1_2) (h : laws_eqRadio.f k a0_0 a0_1 l0_2 a1_0 a1_1 l1_2 = some r) :
    Calls Try.prog 32 #[.agg #[.int .i64 a0_0, .int .i64 a0_1, .slice A0_2 l0_2.length c0_2], .agg #[.int .i64 a1_0, .int .i64 a1_1, .slice A1_2 l1_2.length c1_2]] w fun e w' => e = .returned (.bool r) ∧ Below w.heap.size w w' := by
  have hu53 := Try.underlying53
  have HR0_2 := Aside0.mk hr0_2
  have HC0_2 := Aside0.mk hc0_2
  clear hr0_2 hc0_2
  have HR1_2 := Aside0.mk hr1_2
  have HC1_2 := Aside0.mk hc1_2
  clear hr1_2 hc1_2
  have HB := Aside0.mk (Below.refl w.heap.size w)
  have H : (if a0_0 = a1_0 then (if a0_1 = a1_1 then ((laws_eqIntS.f k l0_2 l1_2).bind fun t206 => (if t206 = true then (some true) else (some false))) else (some false)) else (some false)) = some r := h
  clear h
  by_cases c3 : a0_0 = a1_0
  · rw [if_pos c3] at H
    have c3b0 : (a0_0 == a1_0) = true := beq_iff_eq.mpr c3
    have c3b1 : (a0_0 != a1_0) = false := bne_eq_false_iff_eq.mpr c3
    clear c3
    by_cases c4 : a0_1 = a1_1
    · rw [if_pos c4] at H
      have c4b0 : (a0_1 == a1_1) = true := beq_iff_eq.mpr c4
      have c4b1 : (a0_1 != a1_1) = false := bne_eq_false_iff_eq.mpr c4
      clear c4
      replace H := Option.bind_eq_some_iff.mp H
      obtain ⟨t206, A50, H⟩ := H
      replace H : (if t206 = true then (some true) else (some false)) = some r := H
      have A5 := Aside0.mk A50
      clear A50
      by_cases c6 : t206 = true
      · subst c6
        have H1 : (some true) = some r := by rw [if_pos rfl] at H; exact H
        clear H
        have H := H1
        clear H1
        obtain rfl := Option.some.inj H
        go_enter Try.func32, Try.ntmps32
        go_wp2_with (first | ((with_reducible refine gate_dst (N := 2) rfl ?_); refine box_event ?hg (N := 2) ?hd (cs := #[.int .i64 a0_0, .int .i64 a0_1, .slice A0_2 l0_2.length c0_2]) (t := 53) ?hr ?_; (case hd => rfl); (case hg => rfl); (case hr => first | (go_simp; done) | (go_simp; rfl)); intro gb204 hg w7 hbox hb; have n0_ := Aside0.mk (below_step (by repeat (first | (with_reducible first | exact HB.out | apply below_alloc | apply pw_below_drewN | apply below_drew1) | exact HB.out)) hb); have n1_ := Aside0.mk (hbox); have n2_ := Aside0.mk ((by rw [hg]; exact (below_size (by repeat (first | (with_reducible first | exact HB.out | apply below_alloc | apply pw_below_drewN | apply below_drew1) | exact HB.out))) : w.heap.size ≤ gb204)); have n3_ := Aside0.mk ((by rw [hg]; exact (below_size (by repeat (first | (with_reducible first | exact HB.out | apply below_alloc | apply pw_below_drewN | apply below_drew1) | exact HB.out))) : w.heap.size ≤ gb204)); clear HB; have HB := n0_; have BK204 := n1_; have GW204 := n2_; have GE204 := n3_; clear n0_ n1_ n2_ n3_; clear hb hbox hg) | ((with_reducible refine gate_dst (N := 3) rfl ?_); refine box_event ?hg (N := 3) ?hd (cs := #[.int .i64 a1_0, .int .i64 a1_1, .slice A1_2 l1_2.length c1_2]) (t := 53) ?hr ?_; (case hd => rfl); (case hg => rfl); (case hr => first | (go_simp; done) | (go_simp; rfl)); intro gb205 hg w8 hbox hb; have n0_ := Aside0.mk (blk_below (g := gb204) (o := .cells #[.int .i64 a0_0, .int .i64 a0_1, .slice A0_2 l0_2.length c0_2] 53 (0, 0)) (by (with_reducible repeat (first | refine blk_drewN ?_ _ | refine blk_drew ?_ | refine blk_alloc ?_ _)); exact BK204.out) hb); have n1_ := Aside0.mk (below_step (by repeat (first | (with_reducible first | exact HB.out | apply below_alloc | apply pw_below_drewN | apply below_drew1 | refine below_set ?_ GE204.out) | exact HB.out)) hb); have n2_ := Aside0.mk (hbox); have n3_ := Aside0.mk ((by rw [hg]; exact (below_size (by repeat (first | (with_reducible first | exact HB.out | apply below_alloc | apply pw_below_drewN | apply below_drew1 | refine below_set ?_ GE204.out) | exact HB.out))) : w.heap.size ≤ gb205)); have n4_ := Aside0.mk ((by rw [hg]; exact (below_size (by repeat (first | (with_reducible first | exact HB.out | apply below_alloc | apply pw_below_drewN | apply below_drew1 | refine below_set ?_ GE204.out) | exact HB.out))) : w.heap.size ≤ gb205)); have n5_ := Aside0.mk ((by rw [hg]; exact Nat.ne_of_lt (blk_lt (g := gb204) (o := .cells #[.int .i64 a0_0, .int .i64 a0_1, .slice A0_2 l0_2.length c0_2] 53 (0, 0)) (by (with_reducible repeat (first | refine blk_drewN ?_ _ | refine blk_drew ?_ | refine blk_alloc ?_ _)); exact BK204.out)) : gb204 ≠ gb205)); have n6_ := Aside0.mk ((by rw [hg]; exact Nat.ne_of_gt (blk_lt (g := gb204) (o := .cells #[.int .i64 a0_0, .int .i64 a0_1, .slice A0_2 l0_2.length c0_2] 53 (0, 0)) (by (with_reducible repeat (first | refine blk_drewN ?_ _ | refine blk_drew ?_ | refine blk_alloc ?_ _)); exact BK204.out)) : gb205 ≠ gb204)); clear BK204; clear HB; have BK204 := n0_; have HB := n1_; have BK205 := n2_; have GW205 := n3_; have GE205 := n4_; have NB204_205 := n5_; have NB205_204 := n6_; clear n0_ n1_ n2_ n3_ n4_ n5_ n6_; clear hb hbox hg; have hnb9 := NB204_205.out; have hnc9 := NB205_204.out; have hcz10_0 : w8.cell? ⟨gb204, 0, none⟩ = some (.int .i64 a0_0) := (blk_cell BK204.out 0).trans rfl; have hcz10_1 : w8.cell? ⟨gb204, 1, none⟩ = some (.int .i64 a0_1) := (blk_cell BK204.out 1).trans rfl; have hcz10_2 : w8.cell? ⟨gb204, 2, none⟩ = some (.slice A0_2 l0_2.length c0_2) := (blk_cell BK204.out 2).trans rfl; have hfz10_0 := blk_frozen BK204.out 0; have hfz10_1 := blk_frozen BK204.out 1; have hfz10_2 := blk_frozen BK204.out 2; have hcz11_0 : w8.cell? ⟨gb205, 0, none⟩ = some (.int .i64 a1_0) := (blk_cell BK205.out 0).trans rfl; have hcz11_1 : w8.cell? ⟨gb205, 1, none⟩ = some (.int .i64 a1_1) := (blk_cell BK205.out 1).trans rfl; have hcz11_2 : w8.cell? ⟨gb205, 2, none⟩ = some (.slice A1_2 l1_2.length c1_2) := (blk_cell BK205.out 2).trans rfl; have hfz11_0 := blk_frozen BK205.out 0; have hfz11_1 := blk_frozen BK205.out 1; have hfz11_2 := blk_frozen BK205.out 2) | ((with_reducible refine gate_callee (f := 9) rfl ?_); refine goesL_ (some 19) rfl rfl Try.func9 (by kernel_rfl) rfl #[.slice A0_2 l0_2.length c0_2, .slice A1_2 l1_2.length c1_2] rfl (by (try simp only [List.map_toArray, List.map_cons, List.map_nil]); first | done | rfl | (simp only [List.length_drop, List.length_take]; rfl)) ?_; (with_reducible refine (laws_eqIntS.calls k _ _ l0_2 _ _ l1_2 true _ ?side1 ?side2 ?side3 ?side4 A5.out).mono ?_); (case side1 => repeat (first | exact (Kd.C_below HR0_2.out HB.out) | (with_reducible refine Kd.C_alloc ?_ _) | (with_reducible refine Kd.C_drewN ?_ _) | (with_reducible refine Kd.C_drew ?_))); (case side2 => exact HC0_2.out); (case side3 => repeat (first | exact (Kd.C_below HR1_2.out HB.out) | (with_reducible refine Kd.C_alloc ?_ _) | (with_reducible refine Kd.C_drewN ?_ _) | (with_reducible refine Kd.C_drew ?_))); (case side4 => exact HC1_2.out); rintro e w' ⟨rfl, ⟨nd, rfl⟩⟩; refine ⟨_, rfl, ?_⟩))
        go_ret
        exact ⟨by first | rfl | (simp [errW_none, errW_some] <;> rfl) | (simp [*, errW_none, errW_some] <;> rfl), by repeat (first | (with_reducible first | exact HB.out | apply below_alloc | apply pw_below_drewN | apply below_drew1 | refine below_set ?_ GE204.out | refine below_set ?_ GE205.out) | exact HB.out)⟩
      · replace c6 := Bool.eq_false_iff.mpr c6
        subst c6
        have H1 : (some false) = some r := by rw [if_neg (show ¬ (false = true) by decide)] at H; exact H
        clear H
        have H := H1
        clear H1
        obtain rfl := Option.some.inj H
        go_enter Try.func32, Try.ntmps32
        go_wp2_with (first | ((with_reducible refine gate_dst (N := 2) rfl ?_); refine box_event ?hg (N := 2) ?hd (cs := #[.int .i64 a0_0, .int .i64 a0_1, .slice A0_2 l0_2.length c0_2]) (t := 53) ?hr ?_; (case hd => rfl); (case hg => rfl); (case hr => first | (go_simp; done) | (go_simp; rfl)); intro gb204 hg w12 hbox hb; have n0_ := Aside0.mk (below_step (by repeat (first | (with_reducible first | exact HB.out | apply below_alloc | apply pw_below_drewN | apply below_drew1) | exact HB.out)) hb); have n1_ := Aside0.mk (hbox); have n2_ := Aside0.mk ((by rw [hg]; exact (below_size (by repeat (first | (with_reducible first | exact HB.out | apply below_alloc | apply pw_below_drewN | apply below_drew1) | exact HB.out))) : w.heap.size ≤ gb204)); have n3_ := Aside0.mk ((by rw [hg]; exact (below_size (by repeat (first | (with_reducible first | exact HB.out | apply below_alloc | apply pw_below_drewN | apply below_drew1) | exact HB.out))) : w.heap.size ≤ gb204)); clear HB; have HB := n0_; have BK204 := n1_; have GW204 := n2_; have GE204 := n3_; clear n0_ n1_ n2_ n3_; clear hb hbox hg) | ((with_reducible refine gate_dst (N := 3) rfl ?_); refine box_event ?hg (N := 3) ?hd (cs := #[.int .i64 a1_0, .int .i64 a1_1, .slice A1_2 l1_2.length c1_2]) (t := 53) ?hr ?_; (case hd => rfl); (case hg => rfl); (case hr => first | (go_simp; done) | (go_simp; rfl)); intro gb205 hg w13 hbox hb; have n0_ := Aside0.mk (blk_below (g := gb204) (o := .cells #[.int .i64 a0_0, .int .i64 a0_1, .slice A0_2 l0_2.length c0_2] 53 (0, 0)) (by (with_reducible repeat (first | refine blk_drewN ?_ _ | refine blk_drew ?_ | refine blk_alloc ?_ _)); exact BK204.out) hb); have n1_ := Aside0.mk (below_step (by repeat (first | (with_reducible first | exact HB.out | apply below_alloc | apply pw_below_drewN | apply below_drew1 | refine below_set ?_ GE204.out) | exact HB.out)) hb); have n2_ := Aside0.mk (hbox); have n3_ := Aside0.mk ((by rw [hg]; exact (below_size (by repeat (first | (with_reducible first | exact HB.out | apply below_alloc | apply pw_below_drewN | apply below_drew1 | refine below_set ?_ GE204.out) | exact HB.out))) : w.heap.size ≤ gb205)); have n4_ := Aside0.mk ((by rw [hg]; exact (below_size (by repeat (first | (with_reducible first | exact HB.out | apply below_alloc | apply pw_below_drewN | apply below_drew1 | refine below_set ?_ GE204.out) | exact HB.out))) : w.heap.size ≤ gb205)); have n5_ := Aside0.mk ((by rw [hg]; exact Nat.ne_of_lt (blk_lt (g := gb204) (o := .cells #[.int .i64 a0_0, .int .i64 a0_1, .slice A0_2 l0_2.length c0_2] 53 (0, 0)) (by (with_reducible repeat (first | refine blk_drewN ?_ _ | refine blk_drew ?_ | refine blk_alloc ?_ _)); exact BK204.out)) : gb204 ≠ gb205)); have n6_ := Aside0.mk ((by rw [hg]; exact Nat.ne_of_gt (blk_lt (g := gb204) (o := .cells #[.int .i64 a0_0, .int .i64 a0_1, .slice A0_2 l0_2.length c0_2] 53 (0, 0)) (by (with_reducible repeat (first | refine blk_drewN ?_ _ | refine blk_drew ?_ | refine blk_alloc ?_ _)); exact BK204.out)) : gb205 ≠ gb204)); clear BK204; clear HB; have BK204 := n0_; have HB := n1_; have BK205 := n2_; have GW205 := n3_; have GE205 := n4_; have NB204_205 := n5_; have NB205_204 := n6_; clear n0_ n1_ n2_ n3_ n4_ n5_ n6_; clear hb hbox hg; have hnb14 := NB204_205.out; have hnc14 := NB205_204.out; have hcz15_0 : w13.cell? ⟨gb204, 0, none⟩ = some (.int .i64 a0_0) := (blk_cell BK204.out 0).trans rfl; have hcz15_1 : w13.cell? ⟨gb204, 1, none⟩ = some (.int .i64 a0_1) := (blk_cell BK204.out 1).trans rfl; have hcz15_2 : w13.cell? ⟨gb204, 2, none⟩ = some (.slice A0_2 l0_2.length c0_2) := (blk_cell BK204.out 2).trans rfl; have hfz15_0 := blk_frozen BK204.out 0; have hfz15_1 := blk_frozen BK204.out 1; have hfz15_2 := blk_frozen BK204.out 2; have hcz16_0 : w13.cell? ⟨gb205, 0, none⟩ = some (.int .i64 a1_0) := (blk_cell BK205.out 0).trans rfl; have hcz16_1 : w13.cell? ⟨gb205, 1, none⟩ = some (.int .i64 a1_1) := (blk_cell BK205.out 1).trans rfl; have hcz16_2 : w13.cell? ⟨gb205, 2, none⟩ = some (.slice A1_2 l1_2.length c1_2) := (blk_cell BK205.out 2).trans rfl; have hfz16_0 := blk_frozen BK205.out 0; have hfz16_1 := blk_frozen BK205.out 1; have hfz16_2 := blk_frozen BK205.out 2) | ((with_reducible refine gate_callee (f := 9) rfl ?_); refine goesL_ (some 19) rfl rfl Try.func9 (by kernel_rfl) rfl #[.slice A0_2 l0_2.length c0_2, .slice A1_2 l1_2.length c1_2] rfl (by (try simp only [List.map_toArray, List.map_cons, List.map_nil]); first | done | rfl | (simp only [List.length_drop, List.length_take]; rfl)) ?_; (with_reducible refine (laws_eqIntS.calls k _ _ l0_2 _ _ l1_2 false _ ?side1 ?side2 ?side3 ?side4 A5.out).mono ?_); (case side1 => repeat (first | exact (Kd.C_below HR0_2.out HB.out) | (with_reducible refine Kd.C_alloc ?_ _) | (with_reducible refine Kd.C_drewN ?_ _) | (with_reducible refine Kd.C_drew ?_))); (case side2 => exact HC0_2.out); (case side3 => repeat (first | exact (Kd.C_below HR1_2.out HB.out) | (with_reducible refine Kd.C_alloc ?_ _) | (with_reducible refine Kd.C_drewN ?_ _) | (with_reducible refine Kd.C_drew ?_))); (case side4 => exact HC1_2.out); rintro e w' ⟨rfl, ⟨nd, rfl⟩⟩; refine ⟨_, rfl, ?_⟩))
        go_ret
        exact ⟨by first | rfl | (simp [errW_none, errW_some] <;> rfl) | (simp [*, errW_none, errW_some] <;> rfl), by repeat (first | (with_reducible first | exact HB.out | apply below_alloc | apply pw_below_drewN | apply below_drew1 | refine below_set ?_ GE204.out | refine below_set ?_ GE205.out) | exact HB.out)⟩
    · rw [if_neg c4] at H
      have c4b0 : (a0_1 == a1_1) = false := beq_eq_false_iff_ne.mpr c4
      have c4b1 : (a0_1 != a1_1) = true := bne_iff_ne.mpr c4
      obtain rfl := Option.some.inj H
      go_enter Try.func32, Try.ntmps32
      go_wp2_with (first | ((with_reducible refine gate_dst (N := 2) rfl ?_); refine box_event ?hg (N := 2) ?hd (cs := #[.int .i64 a0_0, .int .i64 a0_1, .slice A0_2 l0_2.length c0_2]) (t := 53) ?hr ?_; (case hd => rfl); (case hg => rfl); (case hr => first | (go_simp; done) | (go_simp; rfl)); intro gb204 hg w17 hbox hb; have n0_ := Aside0.mk (below_step (by repeat (first | (with_reducible first | exact HB.out | apply below_alloc | apply pw_below_drewN | apply below_drew1) | exact HB.out)) hb); have n1_ := Aside0.mk (hbox); have n2_ := Aside0.mk ((by rw [hg]; exact (below_size (by repeat (first | (with_reducible first | exact HB.out | apply below_alloc | apply pw_below_drewN | apply below_drew1) | exact HB.out))) : w.heap.size ≤ gb204)); have n3_ := Aside0.mk ((by rw [hg]; exact (below_size (by repeat (first | (with_reducible first | exact HB.out | apply below_alloc | apply pw_below_drewN | apply below_drew1) | exact HB.out))) : w.heap.size ≤ gb204)); clear HB; have HB := n0_; have BK204 := n1_; have GW204 := n2_; have GE204 := n3_; clear n0_ n1_ n2_ n3_; clear hb hbox hg) | ((with_reducible refine gate_dst (N := 3) rfl ?_); refine box_event ?hg (N := 3) ?hd (cs := #[.int .i64 a1_0, .int .i64 a1_1, .slice A1_2 l1_2.length c1_2]) (t := 53) ?hr ?_; (case hd => rfl); (case hg => rfl); (case hr => first | (go_simp; done) | (go_simp; rfl)); intro gb205 hg w18 hbox hb; have n0_ := Aside0.mk (blk_below (g := gb204) (o := .cells #[.int .i64 a0_0, .int .i64 a0_1, .slice A0_2 l0_2.length c0_2] 53 (0, 0)) (by (with_reducible repeat (first | refine blk_drewN ?_ _ | refine blk_drew ?_ | refine blk_alloc ?_ _)); exact BK204.out) hb); have n1_ := Aside0.mk (below_step (by repeat (first | (with_reducible first | exact HB.out | apply below_alloc | apply pw_below_drewN | apply below_drew1 | refine below_set ?_ GE204.out) | exact HB.out)) hb); have n2_ := Aside0.mk (hbox); have n3_ := Aside0.mk ((by rw [hg]; exact (below_size (by repeat (first | (with_reducible first | exact HB.out | apply below_alloc | apply pw_below_drewN | apply below_drew1 | refine below_set ?_ GE204.out) | exact HB.out))) : w.heap.size ≤ gb205)); have n4_ := Aside0.mk ((by rw [hg]; exact (below_size (by repeat (first | (with_reducible first | exact HB.out | apply below_alloc | apply pw_below_drewN | apply below_drew1 | refine below_set ?_ GE204.out) | exact HB.out))) : w.heap.size ≤ gb205)); have n5_ := Aside0.mk ((by rw [hg]; exact Nat.ne_of_lt (blk_lt (g := gb204) (o := .cells #[.int .i64 a0_0, .int .i64 a0_1, .slice A0_2 l0_2.length c0_2] 53 (0, 0)) (by (with_reducible repeat (first | refine blk_drewN ?_ _ | refine blk_drew ?_ | refine blk_alloc ?_ _)); exact BK204.out)) : gb204 ≠ gb205)); have n6_ := Aside0.mk ((by rw [hg]; exact Nat.ne_of_gt (blk_lt (g := gb204) (o := .cells #[.int .i64 a0_0, .int .i64 a0_1, .slice A0_2 l0_2.length c0_2] 53 (0, 0)) (by (with_reducible repeat (first | refine blk_drewN ?_ _ | refine blk_drew ?_ | refine blk_alloc ?_ _)); exact BK204.out)) : gb205 ≠ gb204)); clear BK204; clear HB; have BK204 := n0_; have HB := n1_; have BK205 := n2_; have GW205 := n3_; have GE205 := n4_; have NB204_205 := n5_; have NB205_204 := n6_; clear n0_ n1_ n2_ n3_ n4_ n5_ n6_; clear hb hbox hg; have hnb19 := NB204_205.out; have hnc19 := NB205_204.out; have hcz20_0 : w18.cell? ⟨gb204, 0, none⟩ = some (.int .i64 a0_0) := (blk_cell BK204.out 0).trans rfl; have hcz20_1 : w18.cell? ⟨gb204, 1, none⟩ = some (.int .i64 a0_1) := (blk_cell BK204.out 1).trans rfl; have hcz20_2 : w18.cell? ⟨gb204, 2, none⟩ = some (.slice A0_2 l0_2.length c0_2) := (blk_cell BK204.out 2).trans rfl; have hfz20_0 := blk_frozen BK204.out 0; have hfz20_1 := blk_frozen BK204.out 1; have hfz20_2 := blk_frozen BK204.out 2; have hcz21_0 : w18.cell? ⟨gb205, 0, none⟩ = some (.int .i64 a1_0) := (blk_cell BK205.out 0).trans rfl; have hcz21_1 : w18.cell? ⟨gb205, 1, none⟩ = some (.int .i64 a1_1) := (blk_cell BK205.out 1).trans rfl; have hcz21_2 : w18.cell? ⟨gb205, 2, none⟩ = some (.slice A1_2 l1_2.length c1_2) := (blk_cell BK205.out 2).trans rfl; have hfz21_0 := blk_frozen BK205.out 0; have hfz21_1 := blk_frozen BK205.out 1; have hfz21_2 := blk_frozen BK205.out 2))
      go_ret
      exact ⟨by first | rfl | (simp [errW_none, errW_some] <;> rfl) | (simp [*, errW_none, errW_some] <;> rfl), by repeat (first | (with_reducible first | exact HB.out | apply below_alloc | apply pw_below_drewN | apply below_drew1 | refine below_set ?_ GE204.out | refine below_set ?_ GE205.out) | exact HB.out)⟩
  · rw [if_neg c3] at H
    have c3b0 : (a0_0 == a1_0) = false := beq_eq_false_iff_ne.mpr c3
    have c3b1 : (a0_0 != a1_0) = true := bne_iff_ne.mpr c3
    obtain rfl := Option.some.inj H
    go_enter Try.func32, Try.ntmps32
    go_wp2_with (first | ((with_reducible refine gate_dst (N := 2) rfl ?_); refine box_event ?hg (N := 2) ?hd (cs := #[.int .i64 a0_0, .int .i64 a0_1, .slice A0_2 l0_2.length c0_2]) (t := 53) ?hr ?_; (case hd => rfl); (case hg => rfl); (case hr => first | (go_simp; done) | (go_simp; rfl)); intro gb204 hg w22 hbox hb; have n0_ := Aside0.mk (below_step (by repeat (first | (with_reducible first | exact HB.out | apply below_alloc | apply pw_below_drewN | apply below_drew1) | exact HB.out)) hb); have n1_ := Aside0.mk (hbox); have n2_ := Aside0.mk ((by rw [hg]; exact (below_size (by repeat (first | (with_reducible first | exact HB.out | apply below_alloc | apply pw_below_drewN | apply below_drew1) | exact HB.out))) : w.heap.size ≤ gb204)); have n3_ := Aside0.mk ((by rw [hg]; exact (below_size (by repeat (first | (with_reducible first | exact HB.out | apply below_alloc | apply pw_below_drewN | apply below_drew1) | exact HB.out))) : w.heap.size ≤ gb204)); clear HB; have HB := n0_; have BK204 := n1_; have GW204 := n2_; have GE204 := n3_; clear n0_ n1_ n2_ n3_; clear hb hbox hg) | ((with_reducible refine gate_dst (N := 3) rfl ?_); refine box_event ?hg (N := 3) ?hd (cs := #[.int .i64 a1_0, .int .i64 a1_1, .slice A1_2 l1_2.length c1_2]) (t := 53) ?hr ?_; (case hd => rfl); (case hg => rfl); (case hr => first | (go_simp; done) | (go_simp; rfl)); intro gb205 hg w23 hbox hb; have n0_ := Aside0.mk (blk_below (g := gb204) (o := .cells #[.int .i64 a0_0, .int .i64 a0_1, .slice A0_2 l0_2.length c0_2] 53 (0, 0)) (by (with_reducible repeat (first | refine blk_drewN ?_ _ | refine blk_drew ?_ | refine blk_alloc ?_ _)); exact BK204.out) hb); have n1_ := Aside0.mk (below_step (by repeat (first | (with_reducible first | exact HB.out | apply below_alloc | apply pw_below_drewN | apply below_drew1 | refine below_set ?_ GE204.out) | exact HB.out)) hb); have n2_ := Aside0.mk (hbox); have n3_ := Aside0.mk ((by rw [hg]; exact (below_size (by repeat (first | (with_reducible first | exact HB.out | apply below_alloc | apply pw_below_drewN | apply below_drew1 | refine below_set ?_ GE204.out) | exact HB.out))) : w.heap.size ≤ gb205)); have n4_ := Aside0.mk ((by rw [hg]; exact (below_size (by repeat (first | (with_reducible first | exact HB.out | apply below_alloc | apply pw_below_drewN | apply below_drew1 | refine below_set ?_ GE204.out) | exact HB.out))) : w.heap.size ≤ gb205)); have n5_ := Aside0.mk ((by rw [hg]; exact Nat.ne_of_lt (blk_lt (g := gb204) (o := .cells #[.int .i64 a0_0, .int .i64 a0_1, .slice A0_2 l0_2.length c0_2] 53 (0, 0)) (by (with_reducible repeat (first | refine blk_drewN ?_ _ | refine blk_drew ?_ | refine blk_alloc ?_ _)); exact BK204.out)) : gb204 ≠ gb205)); have n6_ := Aside0.mk ((by rw [hg]; exact Nat.ne_of_gt (blk_lt (g := gb204) (o := .cells #[.int .i64 a0_0, .int .i64 a0_1, .slice A0_2 l0_2.length c0_2] 53 (0, 0)) (by (with_reducible repeat (first | refine blk_drewN ?_ _ | refine blk_drew ?_ | refine blk_alloc ?_ _)); exact BK204.out)) : gb205 ≠ gb204)); clear BK204; clear HB; have BK204 := n0_; have HB := n1_; have BK205 := n2_; have GW205 := n3_; have GE205 := n4_; have NB204_205 := n5_; have NB205_204 := n6_; clear n0_ n1_ n2_ n3_ n4_ n5_ n6_; clear hb hbox hg; have hnb24 := NB204_205.out; have hnc24 := NB205_204.out; have hcz25_0 : w23.cell? ⟨gb204, 0, none⟩ = some (.int .i64 a0_0) := (blk_cell BK204.out 0).trans rfl; have hcz25_1 : w23.cell? ⟨gb204, 1, none⟩ = some (.int .i64 a0_1) := (blk_cell BK204.out 1).trans rfl; have hcz25_2 : w23.cell? ⟨gb204, 2, none⟩ = some (.slice A0_2 l0_2.length c0_2) := (blk_cell BK204.out 2).trans rfl; have hfz25_0 := blk_frozen BK204.out 0; have hfz25_1 := blk_frozen BK204.out 1; have hfz25_2 := blk_frozen BK204.out 2; have hcz26_0 : w23.cell? ⟨gb205, 0, none⟩ = some (.int .i64 a1_0) := (blk_cell BK205.out 0).trans rfl; have hcz26_1 : w23.cell? ⟨gb205, 1, none⟩ = some (.int .i64 a1_1) := (blk_cell BK205.out 1).trans rfl; have hcz26_2 : w23.cell? ⟨gb205, 2, none⟩ = some (.slice A1_2 l1_2.length c1_2) := (blk_cell BK205.out 2).trans rfl; have hfz26_0 := blk_frozen BK205.out 0; have hfz26_1 := blk_frozen BK205.out 1; have hfz26_2 := blk_frozen BK205.out 2))
    go_ret
    exact ⟨by first | rfl | (simp [errW_none, errW_some] <;> rfl) | (simp [*, errW_none, errW_some] <;> rfl), by repeat (first | (with_reducible first | exact HB.out | apply below_alloc | apply pw_below_drewN | apply below_drew1 | refine below_set ?_ GE204.out | refine below_set ?_ GE205.out) | exact HB.out)⟩

end Go.Proofs.Ytbjpdelammffpaa.PR1
-- printed for this claim out of the translation
namespace Go.Proofs.Ytbjpdelammffpaa.PR1
open Go.RowKit Go.Proofs.YtbjpdelammffpaaW.PrintWords Go.Proofs.YtbjpdelammffpaaW.PrintLast Go.Proofs.YtbjpdelammffpaaW.PrintMore
attribute [local go_sem] max2_int min2_int max_two min_two max_three min_three max_four min_four   -- for this text's walks alone
set_option linter.unusedVariables false
set_option linter.unusedSimpArgs false

/-! ### laws_eqRadioS: function 18 -/
def laws_eqRadioS.l0 : Nat → List (S53) → List (S53) → Int → Option (Bool)
  | 0, _, _, _ => none
  | k + 1, x0, x1, x5 => if x5 < (x0.length : Int) then (if 0 ≤ x5 then (if x5 < (x1.length : Int) then ((laws_eqRadio.f k ((rd_T53 x0 x5).f0) ((rd_T53 x0 x5).f1) ((rd_T53 x0 x5).f2) ((rd_T53 x1 x5).f0) ((rd_T53 x1 x5).f1) ((rd_T53 x1 x5).f2)).bind fun t209 => (if t209 = true then (laws_eqRadioS.l0 k x0 x1 (wrap64 (x5 + 1))) else (some false))) else (none)) else (none)) else (some true)
def laws_eqRadioS.f (k : Nat) (l0 : List (S53)) (l1 : List (S53)) : Option (Bool) := if (l0.length : Int) = (l1.length : Int) then (laws_eqRadioS.l0 k l0 l1 0) else (some false)
theorem laws_eqRadioS.mono_l : ∀ k, (∀ y0 y1 y2, LeO (laws_eqRadioS.l0 k y0 y1 y2) (laws_eqRadioS.l0 (k + 1) y0 y1 y2))
  | 0 => fun _ _ _ r h => by simp [laws_eqRadioS.l0] at h
  | k + 1 => by
    have ih0 := laws_eqRadioS.mono_l k
    · intro y0 y1 y2
      unfold laws_eqRadioS.l0
      repeat' first
      | (with_reducible exact ih0 _ _ _)
      | (with_reducible exact laws_eqRadio.mono _ _ _ _ _ _ _)
      | (with_reducible exact LeO.refl _)
      | (with_reducible exact LeO.none _)
      | (with_reducible refine LeO.ite ?_ ?_)
      | (with_reducible refine LeO.bind ?_ (fun _ => ?_))
      | exact ih0 _ _ _
      | exact laws_eqRadio.mono _ _ _ _ _ _ _
      | exact LeO.none _
      | refine LeO.ite ?_ ?_
      | refine LeO.bind ?_ (fun _ => ?_)
theorem laws_eqRadioS.mono : ∀ a0 a1 k, LeO (laws_eqRadioS.f k a0 a1) (laws_eqRadioS.f (k + 1) a0 a1) := by
  intro a0 a1 k
  have ih0 := laws_eqRadioS.mono_l k
  unfold laws_eqRadioS.f
  repeat' first
      | (with_reducible exact ih0 _ _ _)
      | (with_reducible exact laws_eqRadio.mono _ _ _ _ _ _ _)
      | (with_reducible exact LeO.refl _)
      | (with_reducible exact LeO.none _)
      | (with_reducible refine LeO.ite ?_ ?_)
      | (with_reducible refine LeO.bind ?_ (fun _ => ?_))
      | exact ih0 _ _ _
      | exact laws_eqRadio.mono _ _ _ _ _ _ _
      | exact LeO.none _
      | refine LeO.ite ?_ ?_
      | refine LeO.bind ?_ (fun _ => ?_)
def laws_eqRadioS.T6 : Bool × List (List Nat × List Nat) := (true, [([], []), ([], []), ([0, 1], [0, 1]), ([2], [2]), ([], []), ([], []), ([4, 5], [4, 5]), ([6], [6]), ([3, 7], [3, 7]), ([8], [8])])
def laws_eqRadioS.B6 : List Nat := [0, 0, 3, 7, 0, 0, 48, 112, 255, 511]
theorem laws_eqRadioS.tab6 : rtab .any (opsOf Try.f18 6) = laws_eqRadioS.T6 := by kernel_rfl
theorem laws_eqRadioS.bits6 : waitsOk laws_eqRadioS.T6.2 laws_eqRadioS.B6 = true := by kernel_rfl
set_option maxHeartbeats 8000000 in
set_option maxRecDepth 100000 in
theorem laws_eqRadioS.calls (k : Nat) (A0 : Option Addr) (c0 : Nat) (l0 : List (S53)) (A1 : Option Addr) (c1 : Nat) (l1 : List (S53)) (r : Bool) (w : World) (hr0 : Kd.C k53 w A0 l0.length l0) (hc0 : l0.length ≤ c0) (hr1 : Kd.C k53 w A1 l1.length l1) (hc1 : l1.length ≤ c1) (h : laws_eqRadioS.f k l0 l1 = some r) :
    Calls Try.prog 18 #[.slice A0 l0.length c0, .slice A1 l1.length c1] w fun e w' => e = .returned (.bool r) ∧ Below w.heap.size w w' := by
  have hu53 := Try.underlying53
  have HR0 := Aside0.mk hr0
  have HC0 := Aside0.mk hc0
  clear hr0 hc0
  have HR1 := Aside0.mk hr1
  have HC1 := Aside0.mk hc1
  clear hr1 hc1
  have HB := Aside0.mk (Below.refl w.heap.size w)
  have H : (if (l0.length : Int) = (l1.length : Int) then (laws_eqRadioS.l0 k l0 l1 0) else (some false)) = some r := h
  clear h
  by_cases c3 : (l0.length : Int) = (l1.length : Int)
  · rw [if_pos c3] at H
    have c3b0 : ((l0.length : Int) == (l1.length : Int)) = true := beq_iff_eq.mpr c3
    have c3b1 : ((l0.length : Int) != (l1.length : Int)) = false := bne_eq_false_iff_eq.mpr c3
    have c3b2 : (l0.length == l1.length) = true := by first | simpa using c3 | (simp at c3 ⊢; omega)
    clear c3
    have H' := Aside0.mk H
    clear H
    go_enter Try.func18, Try.ntmps18
    go_wp2
    go_loopg [5] k (fun kq v5 w' => ∃ (x5_1 : Int), v5 = .int .i64 x5_1 ∧ Aside0 (laws_eqRadioS.l0 kq l0 l1 x5_1 = some r) ∧ Aside0 (kq ≤ k) ∧ Aside0 (Below w.heap.size w w'))
    case atStart => exact ⟨(0), (by first | rfl | (simp; done) | (simp [*]; done)), H', ⟨Nat.le_refl _⟩, ⟨by repeat (first | (with_reducible first | exact HB.out | apply below_alloc | apply pw_below_drewN | apply below_drew1) | exact HB.out)⟩⟩
    case round =>
      clear H'
      try clear c1
      try clear p2
      try clear c3
      try clear c3b0
      try clear c3b1
      try clear c3b2
      obtain ⟨x5_1, rfl, HA, HK1, HB⟩ := hrel
      cases gk with
      | zero => exact absurd HA.out (by simp [laws_eqRadioS.l0])
      | succ k1 =>
        have H := HA.out
        clear HA
        simp only [laws_eqRadioS.l0] at H
        by_cases c4 : x5_1 < (l0.length : Int)
        · rw [if_pos c4] at H
          have c4b0 : decide (x5_1 < (l0.length : Int)) = true := decide_eq_true c4
          clear c4
          by_cases c5 : 0 ≤ x5_1
          · rw [if_pos c5] at H
            have c5b0 : decide (0 ≤ x5_1) = true := decide_eq_true c5
            clear c5
            by_cases c6 : x5_1 < (l1.length : Int)
            · rw [if_pos c6] at H
              have c6b0 : decide (x5_1 < (l1.length : Int)) = true := decide_eq_true c6
              clear c6
              replace H := Option.bind_eq_some_iff.mp H
              obtain ⟨t209, A70, H⟩ := H
              replace H : (if t209 = true then (laws_eqRadioS.l0 k1 l0 l1 (wrap64 (x5_1 + 1))) else (some false)) = some r := H
              have A7 := Aside0.mk A70
              clear A70
              by_cases c8 : t209 = true
              · subst c8
                have H1 : (laws_eqRadioS.l0 k1 l0 l1 (wrap64 (x5_1 + 1))) = some r := by rw [if_pos rfl] at H; exact H
                clear H
                have H := H1
                clear H1
                have H' := Aside0.mk H
                clear H
                try go_wp2
                have n0_ := Aside0.mk (below_drew1 HB.out)
                clear HB
                have HB := n0_
                clear n0_
                have p207 : 0 ≤ (x5_1 : Int) := of_decide_eq_true (by first | (with_reducible assumption) | assumption)
                have q207 : x5_1 < (l0.length : Int) := of_decide_eq_true (by first | (with_reducible assumption) | assumption)
                obtain ⟨ad207, A207_2, c207_2, e207, hx207_0, hx207_1, hx207_2, hl207_2, hi207_2⟩ := at_T53 HR0.out x5_1 p207 q207
                have hw207_2 := hx207_2
                have hw207_1 := hx207_1
                have hw207_0 := hx207_0
                cases e207
                replace hx207_0 := (HB.out.cell (World.block_lt_of_cell? w _ hx207_0)).trans hx207_0
                replace hx207_1 := (HB.out.cell (World.block_lt_of_cell? w _ hx207_1)).trans hx207_1
                replace hx207_2 := (HB.out.cell (World.block_lt_of_cell? w _ hx207_2)).trans hx207_2
                have HR207_2 := Aside0.mk hi207_2
                have HC207_2 := Aside0.mk hl207_2
                clear hi207_2 hl207_2
                replace p207 := eq_true p207
                replace q207 := eq_true q207
                have p208 : 0 ≤ (x5_1 : Int) := of_decide_eq_true (by first | (with_reducible assumption) | assumption)
                have q208 : x5_1 < (l1.length : Int) := of_decide_eq_true (by first | (with_reducible assumption) | assumption)
                obtain ⟨ad208, A208_2, c208_2, e208, hx208_0, hx208_1, hx208_2, hl208_2, hi208_2⟩ := at_T53 HR1.out x5_1 p208 q208
                have hw208_2 := hx208_2
                have hw208_1 := hx208_1
                have hw208_0 := hx208_0
                cases e208
                replace hx208_0 := (HB.out.cell (World.block_lt_of_cell? w _ hx208_0)).trans hx208_0
                replace hx208_1 := (HB.out.cell (World.block_lt_of_cell? w _ hx208_1)).trans hx208_1
                replace hx208_2 := (HB.out.cell (World.block_lt_of_cell? w _ hx208_2)).trans hx208_2
                have HR208_2 := Aside0.mk hi208_2
                have HC208_2 := Aside0.mk hl208_2
                clear hi208_2 hl208_2
                replace p208 := eq_true p208
                replace q208 := eq_true q208
                refine start_ (n := 10) (S := fun w' => w'.cell? (ad207.add ((x5_1).toNat * 3)) = some (.int .i64 ((rd_T53 l0 x5_1).f0)) ∧ w'.cell? ⟨(ad207.add ((x5_1).toNat * 3)).block, (ad207.add ((x5_1).toNat * 3)).off + 1, none⟩ = some (.int .i64 ((rd_T53 l0 x5_1).f1)) ∧ w'.cell? ⟨(ad207.add ((x5_1).toNat * 3)).block, (ad207.add ((x5_1).toNat * 3)).off + 2, none⟩ = some (.slice A207_2 ((rd_T53 l0 x5_1).f2).length c207_2) ∧ w'.cell? (ad208.add ((x5_1).toNat * 3)) = some (.int .i64 ((rd_T53 l1 x5_1).f0)) ∧ w'.cell? ⟨(ad208.add ((x5_1).toNat * 3)).block, (ad208.add ((x5_1).toNat * 3)).off + 1, none⟩ = some (.int .i64 ((rd_T53 l1 x5_1).f1)) ∧ w'.cell? ⟨(ad208.add ((x5_1).toNat * 3)).block, (ad208.add ((x5_1).toNat * 3)).off + 2, none⟩ = some (.slice A208_2 ((rd_T53 l1 x5_1).f2).length c208_2)) (ds := []) #[false, false, false, false, false, false, false, false, false, false] (by kernel_rfl) rfl rfl ⟨((HB.out.cell (World.block_lt_of_cell? w _ hw207_0)).trans hw207_0), ((HB.out.cell (World.block_lt_of_cell? w _ hw207_1)).trans hw207_1), ((HB.out.cell (World.block_lt_of_cell? w _ hw207_2)).trans hw207_2), ((HB.out.cell (World.block_lt_of_cell? w _ hw208_0)).trans hw208_0), ((HB.out.cell (World.block_lt_of_cell? w _ hw208_1)).trans hw208_1), ((HB.out.cell (World.block_lt_of_cell? w _ hw208_2)).trans hw208_2)⟩ (fun hHeld => ?_); refine with_tabW laws_eqRadioS.tab6 laws_eqRadioS.bits6 (fun HT_ HW_ => ?_)
                generalize wr.drew = w9 at HB HR207_2 HR208_2 hx207_0 hx207_1 hx207_2 hx208_0 hx208_1 hx208_2 hHeld ⊢
                refine pure_ (i := 0) (N := some 17) (v := ?_) (a' := ?_) #[true, false, false, false, false, false, false, false, false, false] rfl rfl (any_of HT_.out (by kernel_rfl)) (fun _ _ _ h => h) (Or.inl ⟨by rfl, ?_⟩) ?_ ?_
                rotate_left
                · intro w'
                  go_simp
                  with_reducible rfl
                rotate_left
                · simp only [Act.put, List.setIfInBounds_toArray, List.set_cons_zero, List.set_cons_succ, i64_w, i32_w]
                  rfl
                refine pure_ (i := 1) (N := some 18) (v := ?_) (a' := ?_) #[true, true, false, false, false, false, false, false, false, false] rfl rfl (any_of HT_.out (by kernel_rfl)) (fun _ _ _ h => h) (Or.inl ⟨by rfl, ?_⟩) ?_ ?_
                rotate_left
                · intro w'
                  go_simp
                  with_reducible rfl
                rotate_left
                · simp only [Act.put, List.setIfInBounds_toArray, List.set_cons_zero, List.set_cons_succ, i64_w, i32_w]
                  rfl
                refine pure_ (i := 2) (N := some 19) (v := ?_) (a' := ?_) #[true, true, true, false, false, false, false, false, false, false] rfl rfl (any_of HT_.out (by kernel_rfl)) (fun _ _ _ h => h) (Or.inl ⟨by rfl, ?_⟩) ?_ ?_
                rotate_left
                · intro w'
                  go_simp
                  with_reducible rfl
                rotate_left
                · simp only [Act.put, List.setIfInBounds_toArray, List.set_cons_zero, List.set_cons_succ, i64_w, i32_w]
                  rfl
                refine pure_ (i := 4) (N := some 21) (v := ?_) (a' := ?_) #[true, true, true, false, true, false, false, false, false, false] rfl rfl (any_of HT_.out (by kernel_rfl)) (fun _ _ _ h => h) (Or.inl ⟨by rfl, ?_⟩) ?_ ?_
                rotate_left
                · intro w'
                  go_simp
                  with_reducible rfl
                rotate_left
                · simp only [Act.put, List.setIfInBounds_toArray, List.set_cons_zero, List.set_cons_succ, i64_w, i32_w]
                  rfl
                refine pure_ (i := 5) (N := some 22) (v := ?_) (a' := ?_) #[true, true, true, false, true, true, false, false, false, false] rfl rfl (any_of HT_.out (by kernel_rfl)) (fun _ _ _ h => h) (Or.inl ⟨by rfl, ?_⟩) ?_ ?_
                rotate_left
                · intro w'
                  go_simp
                  with_reducible rfl
                rotate_left
                · simp only [Act.put, List.setIfInBounds_toArray, List.set_cons_zero, List.set_cons_succ, i64_w, i32_w]
                  rfl
                refine pure_ (i := 6) (N := some 23) (v := ?_) (a' := ?_) #[true, true, true, false, true, true, true, false, false, false] rfl rfl (any_of HT_.out (by kernel_rfl)) (fun _ _ _ h => h) (Or.inl ⟨by rfl, ?_⟩) ?_ ?_
                rotate_left
                · intro w'
                  go_simp
                  with_reducible rfl
                rotate_left
                · simp only [Act.put, List.setIfInBounds_toArray, List.set_cons_zero, List.set_cons_succ, i64_w, i32_w]
                  rfl
                refine take_ (i := 3) (N := some 20) (v := ?_) (a' := ?_) #[true, true, true, true, true, true, true, false, false, false] rfl rfl (take_ofW HT_.out HW_.out (by kernel_rfl)) (fun _ _ _ h => h) (Or.inl ⟨by rfl, ?_⟩) hHeld ?_ ?_
                rotate_left
                · rintro w' ⟨s0, s1, s2, s3, s4, s5⟩
                  go_simp
                  with_reducible rfl
                rotate_left
                · simp only [Act.put, List.setIfInBounds_toArray, List.set_cons_zero, List.set_cons_succ, i64_w, i32_w]
                  rfl
                refine take_ (i := 7) (N := some 24) (v := ?_) (a' := ?_) #[true, true, true, true, true, true, true, true, false, false] rfl rfl (take_ofW HT_.out HW_.out (by kernel_rfl)) (fun _ _ _ h => h) (Or.inl ⟨by rfl, ?_⟩) hHeld ?_ ?_
                rotate_left
                · rintro w' ⟨s0, s1, s2, s3, s4, s5⟩
                  go_simp
                  with_reducible rfl
                rotate_left
                · simp only [Act.put, List.setIfInBounds_toArray, List.set_cons_zero, List.set_cons_succ, i64_w, i32_w]
                  rfl
                refine one_ (i := 8) (N := some 25) #[true, true, true, true, true, true, true, true, true, false] rfl rfl (one_of HT_.out (by kernel_rfl)) (by decide) (fun K hK => ?_)
                refine goes_ Try.func32 (by kernel_rfl) rfl #[.agg #[.int .i64 ((rd_T53 l0 x5_1).f0), .int .i64 ((rd_T53 l0 x5_1).f1), .slice A207_2 ((rd_T53 l0 x5_1).f2).length c207_2], .agg #[.int .i64 ((rd_T53 l1 x5_1).f0), .int .i64 ((rd_T53 l1 x5_1).f1), .slice A208_2 ((rd_T53 l1 x5_1).f2).length c208_2]] (by rfl) rfl rfl (by (try simp only [List.map_toArray, List.map_cons, List.map_nil]); first | done | rfl | (simp only [List.length_drop, List.length_take]; rfl)) ?_
                with_reducible refine (laws_eqRadio.calls k1 ((rd_T53 l0 x5_1).f0) ((rd_T53 l0 x5_1).f1) _ _ ((rd_T53 l0 x5_1).f2) ((rd_T53 l1 x5_1).f0) ((rd_T53 l1 x5_1).f1) _ _ ((rd_T53 l1 x5_1).f2) true _ ?side1 ?side2 ?side3 ?side4 A7.out).mono ?_
                (case side1 => repeat (first | exact (Kd.C_below HR207_2.out HB.out) | (with_reducible refine Kd.C_alloc ?_ _) | (with_reducible refine Kd.C_drewN ?_ _) | (with_reducible refine Kd.C_drew ?_)))
                (case side2 => exact HC207_2.out)
                (case side3 => repeat (first | exact (Kd.C_below HR208_2.out HB.out) | (with_reducible refine Kd.C_alloc ?_ _) | (with_reducible refine Kd.C_drewN ?_ _) | (with_reducible refine Kd.C_drew ?_)))
                (case side4 => exact HC208_2.out)
                rintro e w10 ⟨rfl, hb⟩
                refine ⟨_, rfl, ?_⟩
                have n0_ := Aside0.mk (below_step (by repeat (first | (with_reducible first | exact HB.out | apply below_alloc | apply pw_below_drewN | apply below_drew1) | exact HB.out)) hb)
                clear HB
                have HB := n0_
                clear n0_
                (try clear hb)
                (try clear hb2)
                (try clear hk)
                (try clear hi)
                refine hK.out _ _ ⟨((HB.out.cell (World.block_lt_of_cell? w _ hw207_0)).trans hw207_0), ((HB.out.cell (World.block_lt_of_cell? w _ hw207_1)).trans hw207_1), ((HB.out.cell (World.block_lt_of_cell? w _ hw207_2)).trans hw207_2), ((HB.out.cell (World.block_lt_of_cell? w _ hw208_0)).trans hw208_0), ((HB.out.cell (World.block_lt_of_cell? w _ hw208_1)).trans hw208_1), ((HB.out.cell (World.block_lt_of_cell? w _ hw208_2)).trans hw208_2)⟩ (fun hHeld => ?_)
                clear hK K
                refine norm_ (a' := ?_) ?_ ?_
                rotate_left
                · show Act.put _ (some 25) _ = _
                  simp only [Act.put, List.setIfInBounds_toArray, List.set_cons_zero, List.set_cons_succ, i64_w, i32_w]
                  rfl
                refine pure_ (i := 9) (N := some 26) (v := ?_) (a' := ?_) #[true, true, true, true, true, true, true, true, true, true] rfl rfl (any_of HT_.out (by kernel_rfl)) (fun _ _ _ h => h) (Or.inl ⟨by rfl, ?_⟩) ?_ ?_
                rotate_left
                · intro w'
                  go_simp
                  with_reducible rfl
                rotate_left
                · simp only [Act.put, List.setIfInBounds_toArray, List.set_cons_zero, List.set_cons_succ, i64_w, i32_w]
                  rfl
                refine done_ (done_of HT_.out (by kernel_rfl)) ?_
                try go_wp2
                go_roundg k1
                case measure => have := HK1.out; omega
                case rel => exact ⟨(wrap64 (x5_1 + 1)), (by first | rfl | (simp; done) | (simp [*]; done)), H', ⟨by have := HK1.out; omega⟩, ⟨by repeat (first | (with_reducible first | exact HB.out | apply below_alloc | apply pw_below_drewN | apply below_drew1) | exact HB.out)⟩⟩
              · replace c8 := Bool.eq_false_iff.mpr c8
                subst c8
                have H1 : (some false) = some r := by rw [if_neg (show ¬ (false = true) by decide)] at H; exact H
                clear H
                have H := H1
                clear H1
                obtain rfl := Option.some.inj H
                try go_wp2
                have n0_ := Aside0.mk (below_drew1 HB.out)
                clear HB
                have HB := n0_
                clear n0_
                have p207 : 0 ≤ (x5_1 : Int) := of_decide_eq_true (by first | (with_reducible assumption) | assumption)
                have q207 : x5_1 < (l0.length : Int) := of_decide_eq_true (by first | (with_reducible assumption) | assumption)
                obtain ⟨ad207, A207_2, c207_2, e207, hx207_0, hx207_1, hx207_2, hl207_2, hi207_2⟩ := at_T53 HR0.out x5_1 p207 q207
                have hw207_2 := hx207_2
                have hw207_1 := hx207_1
                have hw207_0 := hx207_0
                cases e207
                replace hx207_0 := (HB.out.cell (World.block_lt_of_cell? w _ hx207_0)).trans hx207_0
                replace hx207_1 := (HB.out.cell (World.block_lt_of_cell? w _ hx207_1)).trans hx207_1
                replace hx207_2 := (HB.out.cell (World.block_lt_of_cell? w _ hx207_2)).trans hx207_2
                have HR207_2 := Aside0.mk hi207_2
                have HC207_2 := Aside0.mk hl207_2
                clear hi207_2 hl207_2
                replace p207 := eq_true p207
                replace q207 := eq_true q207
                have p208 : 0 ≤ (x5_1 : Int) := of_decide_eq_true (by first | (with_reducible assumption) | assumption)
                have q208 : x5_1 < (l1.length : Int) := of_decide_eq_true (by first | (with_reducible assumption) | assumption)
                obtain ⟨ad208, A208_2, c208_2, e208, hx208_0, hx208_1, hx208_2, hl208_2, hi208_2⟩ := at_T53 HR1.out x5_1 p208 q208
                have hw208_2 := hx208_2
                have hw208_1 := hx208_1
                have hw208_0 := hx208_0
                cases e208
                replace hx208_0 := (HB.out.cell (World.block_lt_of_cell? w _ hx208_0)).trans hx208_0
                replace hx208_1 := (HB.out.cell (World.block_lt_of_cell? w _ hx208_1)).trans hx208_1
                replace hx208_2 := (HB.out.cell (World.block_lt_of_cell? w _ hx208_2)).trans hx208_2
                have HR208_2 := Aside0.mk hi208_2
                have HC208_2 := Aside0.mk hl208_2
                clear hi208_2 hl208_2
                replace p208 := eq_true p208
                replace q208 := eq_true q208
                refine start_ (n := 10) (S := fun w' => w'.cell? (ad207.add ((x5_1).toNat * 3)) = some (.int .i64 ((rd_T53 l0 x5_1).f0)) ∧ w'.cell? ⟨(ad207.add ((x5_1).toNat * 3)).block, (ad207.add ((x5_1).toNat * 3)).off + 1, none⟩ = some (.int .i64 ((rd_T53 l0 x5_1).f1)) ∧ w'.cell? ⟨(ad207.add ((x5_1).toNat * 3)).block, (ad207.add ((x5_1).toNat * 3)).off + 2, none⟩ = some (.slice A207_2 ((rd_T53 l0 x5_1).f2).length c207_2) ∧ w'.cell? (ad208.add ((x5_1).toNat * 3)) = some (.int .i64 ((rd_T53 l1 x5_1).f0)) ∧ w'.cell? ⟨(ad208.add ((x5_1).toNat * 3)).block, (ad208.add ((x5_1).toNat * 3)).off + 1, none⟩ = some (.int .i64 ((rd_T53 l1 x5_1).f1)) ∧ w'.cell? ⟨(ad208.add ((x5_1).toNat * 3)).block, (ad208.add ((x5_1).toNat * 3)).off + 2, none⟩ = some (.slice A208_2 ((rd_T53 l1 x5_1).f2).length c208_2)) (ds := []) #[false, false, false, false, false, false, false, false, false, false] (by kernel_rfl) rfl rfl ⟨((HB.out.cell (World.block_lt_of_cell? w _ hw207_0)).trans hw207_0), ((HB.out.cell (World.block_lt_of_cell? w _ hw207_1)).trans hw207_1), ((HB.out.cell (World.block_lt_of_cell? w _ hw207_2)).trans hw207_2), ((HB.out.cell (World.block_lt_of_cell? w _ hw208_0)).trans hw208_0), ((HB.out.cell (World.block_lt_of_cell? w _ hw208_1)).trans hw208_1), ((HB.out.cell (World.block_lt_of_cell? w _ hw208_2)).trans hw208_2)⟩ (fun hHeld => ?_); refine with_tabW laws_eqRadioS.tab6 laws_eqRadioS.bits6 (fun HT_ HW_ => ?_)
                generalize wr.drew = w11 at HB HR207_2 HR208_2 hx207_0 hx207_1 hx207_2 hx208_0 hx208_1 hx208_2 hHeld ⊢
                refine pure_ (i := 0) (N := some 17) (v := ?_) (a' := ?_) #[true, false, false, false, false, false, false, false, false, false] rfl rfl (any_of HT_.out (by kernel_rfl)) (fun _ _ _ h => h) (Or.inl ⟨by rfl, ?_⟩) ?_ ?_
                rotate_left
                · intro w'
                  go_simp
                  with_reducible rfl
                rotate_left
                · simp only [Act.put, List.setIfInBounds_toArray, List.set_cons_zero, List.set_cons_succ, i64_w, i32_w]
                  rfl
                refine pure_ (i := 1) (N := some 18) (v := ?_) (a' := ?_) #[true, true, false, false, false, false, false, false, false, false] rfl rfl (any_of HT_.out (by kernel_rfl)) (fun _ _ _ h => h) (Or.inl ⟨by rfl, ?_⟩) ?_ ?_
                rotate_left
                · intro w'
                  go_simp
                  with_reducible rfl
                rotate_left
                · simp only [Act.put, List.setIfInBounds_toArray, List.set_cons_zero, List.set_cons_succ, i64_w, i32_w]
                  rfl
                refine pure_ (i := 2) (N := some 19) (v := ?_) (a' := ?_) #[true, true, true, false, false, false, false, false, false, false] rfl rfl (any_of HT_.out (by kernel_rfl)) (fun _ _ _ h => h) (Or.inl ⟨by rfl, ?_⟩) ?_ ?_
                rotate_left
                · intro w'
                  go_simp
                  with_reducible rfl
                rotate_left
                · simp only [Act.put, List.setIfInBounds_toArray, List.set_cons_zero, List.set_cons_succ, i64_w, i32_w]
                  rfl
                refine pure_ (i := 4) (N := some 21) (v := ?_) (a' := ?_) #[true, true, true, false, true, false, false, false, false, false] rfl rfl (any_of HT_.out (by kernel_rfl)) (fun _ _ _ h => h) (Or.inl ⟨by rfl, ?_⟩) ?_ ?_
                rotate_left
                · intro w'
                  go_simp
                  with_reducible rfl
                rotate_left
                · simp only [Act.put, List.setIfInBounds_toArray, List.set_cons_zero, List.set_cons_succ, i64_w, i32_w]
                  rfl
                refine pure_ (i := 5) (N := some 22) (v := ?_) (a' := ?_) #[true, true, true, false, true, true, false, false, false, false] rfl rfl (any_of HT_.out (by kernel_rfl)) (fun _ _ _ h => h) (Or.inl ⟨by rfl, ?_⟩) ?_ ?_
                rotate_left
                · intro w'
                  go_simp
                  with_reducible rfl
                rotate_left
                · simp only [Act.put, List.setIfInBounds_toArray, List.set_cons_zero, List.set_cons_succ, i64_w, i32_w]
                  rfl
                refine pure_ (i := 6) (N := some 23) (v := ?_) (a' := ?_) #[true, true, true, false, true, true, true, false, false, false] rfl rfl (any_of HT_.out (by kernel_rfl)) (fun _ _ _ h => h) (Or.inl ⟨by rfl, ?_⟩) ?_ ?_
                rotate_left
                · intro w'
                  go_simp
                  with_reducible rfl
                rotate_left
                · simp only [Act.put, List.setIfInBounds_toArray, List.set_cons_zero, List.set_cons_succ, i64_w, i32_w]
                  rfl
                refine take_ (i := 3) (N := some 20) (v := ?_) (a' := ?_) #[true, true, true, true, true, true, true, false, false, false] rfl rfl (take_ofW HT_.out HW_.out (by kernel_rfl)) (fun _ _ _ h => h) (Or.inl ⟨by rfl, ?_⟩) hHeld ?_ ?_
                rotate_left
                · rintro w' ⟨s0, s1, s2, s3, s4, s5⟩
                  go_simp
                  with_reducible rfl
                rotate_left
                · simp only [Act.put, List.setIfInBounds_toArray, List.set_cons_zero, List.set_cons_succ, i64_w, i32_w]
                  rfl
                refine take_ (i := 7) (N := some 24) (v := ?_) (a' := ?_) #[true, true, true, true, true, true, true, true, false, false] rfl rfl (take_ofW HT_.out HW_.out (by kernel_rfl)) (fun _ _ _ h => h) (Or.inl ⟨by rfl, ?_⟩) hHeld ?_ ?_
                rotate_left
                · rintro w' ⟨s0, s1, s2, s3, s4, s5⟩
                  go_simp
                  with_reducible rfl
                rotate_left
                · simp only [Act.put, List.setIfInBounds_toArray, List.set_cons_zero, List.set_cons_succ, i64_w, i32_w]
                  rfl
                refine one_ (i := 8) (N := some 25) #[true, true, true, true, true, true, true, true, true, false] rfl rfl (one_of HT_.out (by kernel_rfl)) (by decide) (fun K hK => ?_)
                refine goes_ Try.func32 (by kernel_rfl) rfl #[.agg #[.int .i64 ((rd_T53 l0 x5_1).f0), .int .i64 ((rd_T53 l0 x5_1).f1), .slice A207_2 ((rd_T53 l0 x5_1).f2).length c207_2], .agg #[.int .i64 ((rd_T53 l1 x5_1).f0), .int .i64 ((rd_T53 l1 x5_1).f1), .slice A208_2 ((rd_T53 l1 x5_1).f2).length c208_2]] (by rfl) rfl rfl (by (try simp only [List.map_toArray, List.map_cons, List.map_nil]); first | done | rfl | (simp only [List.length_drop, List.length_take]; rfl)) ?_
                with_reducible refine (laws_eqRadio.calls k1 ((rd_T53 l0 x5_1).f0) ((rd_T53 l0 x5_1).f1) _ _ ((rd_T53 l0 x5_1).f2) ((rd_T53 l1 x5_1).f0) ((rd_T53 l1 x5_1).f1) _ _ ((rd_T53 l1 x5_1).f2) false _ ?side1 ?side2 ?side3 ?side4 A7.out).mono ?_
                (case side1 => repeat (first | exact (Kd.C_below HR207_2.out HB.out) | (with_reducible refine Kd.C_alloc ?_ _) | (with_reducible refine Kd.C_drewN ?_ _) | (with_reducible refine Kd.C_drew ?_)))
                (case side2 => exact HC207_2.out)
                (case side3 => repeat (first | exact (Kd.C_below HR208_2.out HB.out) | (with_reducible refine Kd.C_alloc ?_ _) | (with_reducible refine Kd.C_drewN ?_ _) | (with_reducible refine Kd.C_drew ?_)))
                (case side4 => exact HC208_2.out)
                rintro e w12 ⟨rfl, hb⟩
                refine ⟨_, rfl, ?_⟩
                have n0_ := Aside0.mk (below_step (by repeat (first | (with_reducible first | exact HB.out | apply below_alloc | apply pw_below_drewN | apply below_drew1) | exact HB.out)) hb)
                clear HB
                have HB := n0_
                clear n0_
                (try clear hb)
                (try clear hb2)
                (try clear hk)
                (try clear hi)
                refine hK.out _ _ ⟨((HB.out.cell (World.block_lt_of_cell? w _ hw207_0)).trans hw207_0), ((HB.out.cell (World.block_lt_of_cell? w _ hw207_1)).trans hw207_1), ((HB.out.cell (World.block_lt_of_cell? w _ hw207_2)).trans hw207_2), ((HB.out.cell (World.block_lt_of_cell? w _ hw208_0)).trans hw208_0), ((HB.out.cell (World.block_lt_of_cell? w _ hw208_1)).trans hw208_1), ((HB.out.cell (World.block_lt_of_cell? w _ hw208_2)).trans hw208_2)⟩ (fun hHeld => ?_)
                clear hK K
                refine norm_ (a' := ?_) ?_ ?_
                rotate_left
                · show Act.put _ (some 25) _ = _
                  simp only [Act.put, List.setIfInBounds_toArray, List.set_cons_zero, List.set_cons_succ, i64_w, i32_w]
                  rfl
                refine pure_ (i := 9) (N := some 26) (v := ?_) (a' := ?_) #[true, true, true, true, true, true, true, true, true, true] rfl rfl (any_of HT_.out (by kernel_rfl)) (fun _ _ _ h => h) (Or.inl ⟨by rfl, ?_⟩) ?_ ?_
                rotate_left
                · intro w'
                  go_simp
                  with_reducible rfl
                rotate_left
                · simp only [Act.put, List.setIfInBounds_toArray, List.set_cons_zero, List.set_cons_succ, i64_w, i32_w]
                  rfl
                refine done_ (done_of HT_.out (by kernel_rfl)) ?_
                try go_wp2
                go_ret
                exact ⟨by first | rfl | (simp [errW_none, errW_some] <;> rfl) | (simp [*, errW_none, errW_some] <;> rfl), by repeat (first | (with_reducible first | exact HB.out | apply below_alloc | apply pw_below_drewN | apply below_drew1) | exact HB.out)⟩
            · rw [if_neg c6] at H
              exact absurd H (by simp)
          · rw [if_neg c5] at H
            exact absurd H (by simp)
        · rw [if_neg c4] at H
          have c4b0 : decide (x5_1 < (l0.length : Int)) = false := decide_eq_false c4
          clear c4
          obtain rfl := Option.some.inj H
          go_wp2
          go_ret
          exact ⟨by first | rfl | (simp [errW_none, errW_some] <;> rfl) | (simp [*, errW_none, errW_some] <;> rfl), by repeat (first | (with_reducible first | exact HB.out | apply below_alloc | apply pw_below_drewN | apply below_drew1) | exact HB.out)⟩
  · rw [if_neg c3] at H
    have c3b0 : ((l0.length : Int) == (l1.length : Int)) = false := beq_eq_false_iff_ne.mpr c3
    have c3b1 : ((l0.length : Int) != (l1.length : Int)) = true := bne_iff_ne.mpr c3
    have c3b2 : (l0.length == l1.length) = false := by first | simpa using c3 | (simp at c3 ⊢; omega)
    obtain rfl := Option.some.inj H
    go_enter Try.func18, Try.ntmps18
    go_wp2
    go_ret
    exact ⟨by first | rfl | (simp [errW_none, errW_some] <;> rfl) | (simp [*, errW_none, errW_some] <;> rfl), by repeat (first | (with_reducible first | exact HB.out | apply below_alloc | apply pw_below_drewN | apply below_drew1) | exact HB.out)⟩

-- NOT PRINTED: function 19 (laws_markRadioS)

-- NOT PRINTED: function 4 (laws_FnExactRelay)

end Go.Proofs.Ytbjpdelammffpaa.PR1
/- The law of Relay, walked over the contracts of what it calls. -/
namespace Go.Proofs.Ytbjpdelammffpaa.Lw
open Go Go.RowKit Go.Proofs.YtbjpdelammffpaaW.PrintWords Go.Proofs.YtbjpdelammffpaaW.PrintLast Go.Proofs.YtbjpdelammffpaaW.PrintMore Go.Proofs.Ytbjpdelammffpaa.PR1 Go.Proofs.Ytbjpdelammffpaa.Mk
set_option linter.unusedVariables false
set_option linter.unusedSimpArgs false
set_option maxHeartbeats 8000000 in
set_option maxRecDepth 100000 in
theorem law_Relay (k : Nat) (A0 : Option Addr) (c0 : Nat) (l0 : List S50) (m : Int) (left : Int) (l1 : List SR) (R : List Int) (b : Bool) (kk : Int) (lm : List SR) (mm : Int) (R' : List Int) (w : World) (hr : Kd.C k50 w A0 l0.length l0) (hc : l0.length ≤ c0)
    (h1 : laws_szRadioS.f k l0 1048576 = some left) (hl : 0 ≤ left) (h2 : laws_toRadioS.f k l0 = some l1) (h3 : spec_Relay.f k l1 m = some (R, b)) (h4 : impl_Relay.f k l1 m = some (R, b)) (h5 : laws_eqIntS.f k R R = some true) (h6 : laws_eqRadioS.f k l1 l1 = some true) (h7 : mRS (laws_markIntS.f k) l1 1 = some (kk, lm)) (h7b : okRS (laws_markIntS.f k) l1 1) (h8 : 0 ≤ kk)
    (h9 : laws_markIntS.f k R 1 = some (mm, R')) (h10 : laws_heldIntS.f k R' 1 = some mm) (h11 : 0 ≤ mm) :
    Calls Try.prog 4 #[.slice A0 l0.length c0, .int .i64 m] w fun e w' => e = .returned (.bool true) ∧ Below w.heap.size w w' := by
  obtain ⟨n, hn⟩ : ∃ n, R.length = n := ⟨_, rfl⟩
  obtain ⟨n1, hn1⟩ : ∃ n, l1.length = n := ⟨_, rfl⟩
  have Hhr := Aside0.mk hr
  have Hhc := Aside0.mk hc
  have Hh1 := Aside0.mk h1
  have Hhl := Aside0.mk hl
  have Hh2 := Aside0.mk h2
  have Hh3 := Aside0.mk h3
  have Hh4 := Aside0.mk h4
  have Hh5 := Aside0.mk h5
  have Hh6 := Aside0.mk h6
  have Hh7 := Aside0.mk h7
  have Hh7b := Aside0.mk h7b
  have Hh8 := Aside0.mk h8
  have Hh9 := Aside0.mk h9
  have Hh10 := Aside0.mk h10
  have Hh11 := Aside0.mk h11
  have Hhn := Aside0.mk hn
  have Hhn1 := Aside0.mk hn1
  clear hr hc h1 hl h2 h3 h4 h5 h6 h7 h7b h8 h9 h10 h11 hn hn1
  have HB := Aside0.mk (Below.refl w.heap.size w)
  have t1 : decide (left < 0) = false := decide_eq_false (by have := Hhl.out; omega)
  have t2 : decide (kk < 0) = false := decide_eq_false (by have := Hh8.out; omega)
  have t3 : decide (mm < 0) = false := decide_eq_false (by have := Hh11.out; omega)
  go_enter Try.func4, Try.ntmps4
  have ct := laws_szRadioS.calls k A0 c0 l0 1048576 left w Hhr.out Hhc.out Hh1.out
  go_wp2_with fail
  refine (ct).mono ?_
  rintro e w1 ⟨rfl, hb⟩
  clear ct
  have S1 := Aside0.mk hb.size
  replace HB := Aside0.mk (HB.out.trans (hb.mono HB.out.size))
  clear hb
  have ct := laws_toRadioS.calls k A0 c0 l0 l1 w1 (Kd.C_below Hhr.out HB.out) Hhc.out Hh2.out
  go_wp2_with fail
  refine (ct).mono ?_
  rintro e w2 ⟨v_, rfl, ho, hb⟩
  clear ct
  have S2 := Aside0.mk hb.size
  replace HB := Aside0.mk (HB.out.trans (hb.mono HB.out.size))
  clear hb
  have Ha := Aside0.mk (RowS.new ho)
  obtain ⟨Aa, ca, rfl⟩ := Ha.out.slice
  rw [Hhn1.out] at Ha ⊢
  clear ho
  have ct := spec_Relay.calls k Aa ca l1 m R b w2 (Ha.out.reads.2.2) (by have q := Ha.out.reads; have := Hhn1.out; omega) Hh3.out
  rw [Hhn1.out] at ct
  go_wp2_with fail
  refine (ct).mono ?_
  rintro e w3 ⟨v_, rfl, ho, hb⟩
  clear ct
  replace Ha := Aside0.mk (Ha.out.below hb)
  have S3 := Aside0.mk hb.size
  replace HB := Aside0.mk (HB.out.trans (hb.mono HB.out.size))
  clear hb
  have Hs := Aside0.mk (RowR.new ho)
  obtain ⟨As, cs, rfl⟩ := Hs.out.slice
  rw [Hhn.out] at Hs ⊢
  clear ho
  clear Ha
  have ct := laws_toRadioS.calls k A0 c0 l0 l1 w3 (Kd.C_below Hhr.out HB.out) Hhc.out Hh2.out
  go_wp2_with fail
  refine (ct).mono ?_
  rintro e w4 ⟨v_, rfl, ho, hb⟩
  clear ct
  replace Hs := Aside0.mk (Hs.out.below hb)
  have S4 := Aside0.mk hb.size
  replace HB := Aside0.mk (HB.out.trans (hb.mono HB.out.size))
  clear hb
  have Hx := Aside0.mk (RowS.new ho)
  obtain ⟨Ax, cx, rfl⟩ := Hx.out.slice
  rw [Hhn1.out] at Hx ⊢
  clear ho
  have ct := impl_Relay.calls k Ax cx l1 m R b w4 (Hx.out.reads.2.2) (by have q := Hx.out.reads; have := Hhn1.out; omega) Hh4.out
  rw [Hhn1.out] at ct
  go_wp2_with fail
  refine (ct).mono ?_
  rintro e w5 ⟨v_, rfl, ho, hb⟩
  clear ct
  replace Hs := Aside0.mk (Hs.out.below hb)
  replace Hx := Aside0.mk (Hx.out.below hb)
  have S5 := Aside0.mk hb.size
  replace HB := Aside0.mk (HB.out.trans (hb.mono HB.out.size))
  clear hb
  have Hg := Aside0.mk (RowR.new ho)
  obtain ⟨Ag, cg, rfl⟩ := Hg.out.slice
  rw [Hhn.out] at Hg ⊢
  clear ho
  have ct := laws_eqIntS.calls k Ag cg R As cs R true w5 (Hg.out.reads.2.2) (by have q := Hg.out.reads; have := Hhn.out; omega) (Hs.out.reads.2.2) (by have q := Hs.out.reads; have := Hhn.out; omega) Hh5.out
  rw [Hhn.out] at ct
  go_wp2_with fail
  refine (ct).mono ?_
  rintro e w6 ⟨rfl, hd⟩
  clear ct
  have hb := hd.below
  clear hd
  replace Hs := Aside0.mk (Hs.out.below hb)
  replace Hx := Aside0.mk (Hx.out.below hb)
  replace Hg := Aside0.mk (Hg.out.below hb)
  have S6 := Aside0.mk hb.size
  replace HB := Aside0.mk (HB.out.trans (hb.mono HB.out.size))
  clear hb
  have ct := laws_toRadioS.calls k A0 c0 l0 l1 w6 (Kd.C_below Hhr.out HB.out) Hhc.out Hh2.out
  go_wp2_with fail
  refine (ct).mono ?_
  rintro e w7 ⟨v_, rfl, ho, hb⟩
  clear ct
  replace Hs := Aside0.mk (Hs.out.below hb)
  replace Hx := Aside0.mk (Hx.out.below hb)
  replace Hg := Aside0.mk (Hg.out.below hb)
  have S7 := Aside0.mk hb.size
  replace HB := Aside0.mk (HB.out.trans (hb.mono HB.out.size))
  clear hb
  have Hy := Aside0.mk (RowS.new ho)
  obtain ⟨Ay, cy, rfl⟩ := Hy.out.slice
  rw [Hhn1.out] at Hy ⊢
  clear ho
  have ct := laws_eqRadioS.calls k Ax cx l1 Ay cy l1 true w7 (Hx.out.reads.2.2) (by have q := Hx.out.reads; have := Hhn1.out; omega) (Hy.out.reads.2.2) (by have q := Hy.out.reads; have := Hhn1.out; omega) Hh6.out
  rw [Hhn1.out] at ct
  go_wp2_with fail
  refine (ct).mono ?_
  rintro e w8 ⟨rfl, hb⟩
  clear ct
  replace Hs := Aside0.mk (Hs.out.below hb)
  replace Hx := Aside0.mk (Hx.out.below hb)
  replace Hg := Aside0.mk (Hg.out.below hb)
  replace Hy := Aside0.mk (Hy.out.below hb)
  have S8 := Aside0.mk hb.size
  replace HB := Aside0.mk (HB.out.trans (hb.mono HB.out.size))
  clear hb
  clear Hy
  have ct := markRadioS_any (laws_markIntS.f k) (fun P u x a r x' w0 W hB ho h => laws_markIntS.calls k P u x a r x' w0 W hB ho h) (fun k => w3.heap.size ≤ k ∧ k < w4.heap.size) Ax cx l1 lm 1 kk w w8 HB.out (by rw [Hhn1.out]; exact Kd.S_lower Hx.out.out (by have q1 := S1.out; have q2 := S2.out; have q3 := S3.out; have q4 := S4.out; have q5 := S5.out; have q6 := S6.out; have q7 := S7.out; have q8 := S8.out; omega)) Hh7.out Hh7b.out
  rw [Hhn1.out] at ct
  go_wp2_with fail
  refine (ct).mono ?_
  rintro e w9 ⟨rfl, hB, hk⟩
  clear ct
  clear Hx
  replace Hs := Aside0.mk (Hs.out.kept hk (fun k h1 h2 h3 => by have q1 := S1.out; have q2 := S2.out; have q3 := S3.out; have q4 := S4.out; have q5 := S5.out; have q6 := S6.out; have q7 := S7.out; have q8 := S8.out; omega))
  replace Hg := Aside0.mk (Hg.out.kept hk (fun k h1 h2 h3 => by have q1 := S1.out; have q2 := S2.out; have q3 := S3.out; have q4 := S4.out; have q5 := S5.out; have q6 := S6.out; have q7 := S7.out; have q8 := S8.out; omega))
  have S9 := Aside0.mk hk.1
  replace HB := Aside0.mk hB
  clear hB hk
  have ct := laws_eqIntS.calls k Ag cg R As cs R true w9 (Hg.out.reads.2.2) (by have q := Hg.out.reads; have := Hhn.out; omega) (Hs.out.reads.2.2) (by have q := Hs.out.reads; have := Hhn.out; omega) Hh5.out
  rw [Hhn.out] at ct
  go_wp2_with fail
  refine (ct).mono ?_
  rintro e w10 ⟨rfl, hd⟩
  clear ct
  have hb := hd.below
  clear hd
  replace Hs := Aside0.mk (Hs.out.below hb)
  replace Hg := Aside0.mk (Hg.out.below hb)
  have S10 := Aside0.mk hb.size
  replace HB := Aside0.mk (HB.out.trans (hb.mono HB.out.size))
  clear hb
  have ct := laws_markIntS.calls k (fun k => w4.heap.size ≤ k ∧ k < w5.heap.size) (.slice Ag n cg) R 1 mm R' w w10 HB.out (Kd.R_lower Hg.out.out (by have q1 := S1.out; have q2 := S2.out; have q3 := S3.out; have q4 := S4.out; have q5 := S5.out; have q6 := S6.out; have q7 := S7.out; have q8 := S8.out; have q9 := S9.out; have q10 := S10.out; omega)) Hh9.out
  go_wp2_with fail
  refine (ct).mono ?_
  rintro e w11 ⟨rfl, hg, hB, hk⟩
  clear ct
  replace Hs := Aside0.mk (Hs.out.kept hk (fun k h1 h2 h3 => by have q1 := S1.out; have q2 := S2.out; have q3 := S3.out; have q4 := S4.out; have q5 := S5.out; have q6 := S6.out; have q7 := S7.out; have q8 := S8.out; have q9 := S9.out; have q10 := S10.out; omega))
  replace Hg : Aside0 (RowR _ _ w11 w.heap.size w5.heap.size _ _) := Aside0.mk (RowR.mk (Kd.R_mono (Kd.R_tight rfl hg) (fun k hk => by have h_ := Hg.out.out.1 k hk.symm; have q1 := S1.out; have q2 := S2.out; have q3 := S3.out; have q4 := S4.out; have q5 := S5.out; have q6 := S6.out; have q7 := S7.out; have q8 := S8.out; have q9 := S9.out; have q10 := S10.out; exact ⟨by have := h_.1; omega, h_.2⟩)))
  have S11 := Aside0.mk hk.1
  replace HB := Aside0.mk hB
  clear hB hk hg
  have ct := laws_heldIntS.calls k Ag cg R' 1 mm w11 Hg.out.reads.2.2 (by have q := Hg.out.reads; omega) Hh10.out
  rw [← Hg.out.reads.1] at ct
  go_wp2_with fail
  refine (ct).mono ?_
  rintro e w12 ⟨rfl, hd⟩
  clear ct
  have hb := hd.below
  clear hd
  replace Hs := Aside0.mk (Hs.out.below hb)
  replace Hg := Aside0.mk (Hg.out.below hb)
  have S12 := Aside0.mk hb.size
  replace HB := Aside0.mk (HB.out.trans (hb.mono HB.out.size))
  clear hb
  have ct := laws_toRadioS.calls k A0 c0 l0 l1 w12 (Kd.C_below Hhr.out HB.out) Hhc.out Hh2.out
  go_wp2_with fail
  refine (ct).mono ?_
  rintro e w13 ⟨v_, rfl, ho, hb⟩
  clear ct
  replace Hs := Aside0.mk (Hs.out.below hb)
  replace Hg := Aside0.mk (Hg.out.below hb)
  have S13 := Aside0.mk hb.size
  replace HB := Aside0.mk (HB.out.trans (hb.mono HB.out.size))
  clear hb
  have Hz := Aside0.mk (RowS.new ho)
  obtain ⟨Az, cz, rfl⟩ := Hz.out.slice
  rw [Hhn1.out] at Hz ⊢
  clear ho
  have ct := impl_Relay.calls k Az cz l1 m R b w13 (Hz.out.reads.2.2) (by have q := Hz.out.reads; have := Hhn1.out; omega) Hh4.out
  rw [Hhn1.out] at ct
  go_wp2_with fail
  refine (ct).mono ?_
  rintro e w14 ⟨v_, rfl, ho, hb⟩
  clear ct
  replace Hs := Aside0.mk (Hs.out.below hb)
  replace Hg := Aside0.mk (Hg.out.below hb)
  replace Hz := Aside0.mk (Hz.out.below hb)
  have S14 := Aside0.mk hb.size
  replace HB := Aside0.mk (HB.out.trans (hb.mono HB.out.size))
  clear hb
  have Hh := Aside0.mk (RowR.new ho)
  obtain ⟨Ah, ch, rfl⟩ := Hh.out.slice
  rw [Hhn.out] at Hh ⊢
  clear ho
  clear Hz
  have ct := laws_eqIntS.calls k Ah ch R As cs R true w14 (Hh.out.reads.2.2) (by have q := Hh.out.reads; have := Hhn.out; omega) (Hs.out.reads.2.2) (by have q := Hs.out.reads; have := Hhn.out; omega) Hh5.out
  rw [Hhn.out] at ct
  go_wp2_with fail
  refine (ct).mono ?_
  rintro e w15 ⟨rfl, hd⟩
  clear ct
  have hb := hd.below
  clear hd
  replace Hs := Aside0.mk (Hs.out.below hb)
  replace Hg := Aside0.mk (Hg.out.below hb)
  replace Hh := Aside0.mk (Hh.out.below hb)
  have S15 := Aside0.mk hb.size
  replace HB := Aside0.mk (HB.out.trans (hb.mono HB.out.size))
  clear hb
  have ct := laws_heldIntS.calls k Ag cg R' 1 mm w15 Hg.out.reads.2.2 (by have q := Hg.out.reads; omega) Hh10.out
  rw [← Hg.out.reads.1] at ct
  go_wp2_with fail
  refine (ct).mono ?_
  rintro e w16 ⟨rfl, hd⟩
  clear ct
  have hb := hd.below
  clear hd
  replace Hs := Aside0.mk (Hs.out.below hb)
  replace Hg := Aside0.mk (Hg.out.below hb)
  replace Hh := Aside0.mk (Hh.out.below hb)
  have S16 := Aside0.mk hb.size
  replace HB := Aside0.mk (HB.out.trans (hb.mono HB.out.size))
  clear hb
  go_wp2
  go_ret
  exact ⟨rfl, HB.out⟩
end Go.Proofs.Ytbjpdelammffpaa.Lw
/- The plain part, what the laws of this seat share: copies, equality, marks, bounds. -/
namespace Go.Proofs.Ytbjpdelammffpaa.Dc
open Go.RowKit Go.Proofs.Ytbjpdelammffpaa.PR1 Go.Proofs.YtbjpdelammffpaaW.PrintWords
set_option linter.unusedVariables false
set_option linter.unusedSimpArgs false

theorem Ev.ret {α : Type} {g : Nat → Option α} {r : α} (h : ∀ k, g (k + 1) = some r) : Ev g r := ⟨1, fun k hk => by obtain ⟨m, rfl⟩ : ∃ m, k = m + 1 := ⟨k - 1, by omega⟩; exact h m⟩
theorem Ev.const {α : Type} {g : Nat → Option α} {r : α} (h : ∀ k, g k = some r) : Ev g r := ⟨0, fun k _ => h k⟩
theorem Ev.yes {α : Type} {c : Prop} [Decidable c] {g f : Nat → Option α} {r : α} (hc : c) (h : Ev g r) : Ev (fun k => if c then g k else f k) r := Ev.congr (fun k => if_pos hc) h
theorem Ev.no {α : Type} {c : Prop} [Decidable c] {g f : Nat → Option α} {r : α} (hc : ¬ c) (h : Ev f r) : Ev (fun k => if c then g k else f k) r := Ev.congr (fun k => if_neg hc) h
theorem wk {i n : Nat} (h : i < n) (hn : n ≤ 9223372036854775807) : wrap64 ((i : Int) + 1) = ((i + 1 : Nat) : Int) := by
  unfold wrap64
  omega
theorem drop_at {α : Type} (l : List α) (i : Nat) (h : i < l.length) : l.drop i = l[i] :: l.drop (i + 1) := List.drop_eq_getElem_cons h
theorem rd_at (l : List Int) (i : Nat) (h : i < l.length) : rd l (i : Int) = l[i] := by simp [rd, h]
/-! ### Copies -/
theorem toIntS_loop (l : List Int) (hn : l.length ≤ 9223372036854775807) (d : Nat) : ∀ (i : Nat) (xs : List Int), xs.length = l.length → i + d = l.length → xs.take i = l.take i → Ev (fun k => laws_toIntS.l0 k l xs i) l := by
  induction d with
  | zero =>
    intro i xs hl hd ht
    refine Ev.ret fun k => ?_
    simp only [laws_toIntS.l0]
    rw [if_neg (by omega), List.take_of_length_le (by omega), List.take_of_length_le (by omega)] at *
    exact congrArg some ht
  | succ d ih =>
    intro i xs hl hd ht
    refine Ev.step (f := fun k => laws_toIntS.l0 k l (xs.set i (rd l i)) ((i + 1 : Nat) : Int)) (fun k => ?_) (ih (i + 1) _ (by simpa using hl) (by omega) ?_)
    · simp only [laws_toIntS.l0]
      rw [if_pos (by omega), if_pos (by omega), if_pos (by omega), wk (n := l.length) (by omega) hn, Int.toNat_natCast]
    · have hi : i < l.length := by omega
      rw [List.take_succ_eq_append_getElem (by simp; omega), List.take_succ_eq_append_getElem hi]
      congr 1
      · rw [List.take_set_of_le (Nat.le_refl i)]; exact ht
      · simp [rd, hi]
theorem toIntS (l : List Int) (hn : l.length ≤ 1048576) : Ev (fun k => laws_toIntS.f k l) l := by
  refine Ev.congr (f := fun k => laws_toIntS.l0 k l (List.replicate l.length 0) ((0 : Nat) : Int)) (fun k => ?_) (toIntS_loop l (by omega) l.length 0 _ (by simp) (by omega) (by simp))
  unfold laws_toIntS.f
  rw [if_pos (by omega), if_pos (by simp; omega), Int.toNat_natCast]
  rfl
/-! ### Equality -/
theorem eqIntS_loop (l : List Int) (hn : l.length ≤ 9223372036854775807) (d : Nat) : ∀ (i : Nat), i + d = l.length → Ev (fun k => laws_eqIntS.l0 k l l i) true := by
  induction d with
  | zero =>
    intro i hd
    refine Ev.ret fun k => ?_
    simp only [laws_eqIntS.l0]
    rw [if_neg (by omega)]
  | succ d ih =>
    intro i hd
    refine Ev.step (f := fun k => laws_eqIntS.l0 k l l ((i + 1 : Nat) : Int)) (fun k => ?_) (ih (i + 1) (by omega))
    simp only [laws_eqIntS.l0]
    rw [if_pos (by omega), if_pos (by omega), if_pos (by omega), if_pos trivial, wk (n := l.length) (by omega) hn]
theorem eqIntS (l : List Int) (hn : l.length ≤ 9223372036854775807) : Ev (fun k => laws_eqIntS.f k l l) true := by
  refine Ev.congr (f := fun k => laws_eqIntS.l0 k l l ((0 : Nat) : Int)) (fun k => ?_) (eqIntS_loop l hn l.length 0 (by omega))
  unfold laws_eqIntS.f
  rw [if_pos rfl]
  rfl
theorem w64 (x : Int) (h0 : -9223372036854775808 ≤ x) (h1 : x < 9223372036854775808) : wrap64 x = x := by
  unfold wrap64
  omega
theorem wf64 {x : Int} (h : (Lit.int .i64 x).wf = true) : -9223372036854775808 ≤ x ∧ x ≤ 9223372036854775807 := by
  simp [Lit.wf, IntKind.min, IntKind.max, IntKind.signed, IntKind.bits] at h
  omega
/-! ### Marks -/
theorem in_spec (a b c : Int) : spec_l1In.f a b c = some (decide (b ≤ a ∧ a ≤ c)) := by
  unfold spec_l1In.f
  by_cases h : b ≤ a
  · rw [if_pos h]; simp [h]
  · rw [if_neg h]; simp [h]
theorem in_impl (a b c : Int) : impl_in.f a b c = some (decide (b ≤ a ∧ a ≤ c)) := by
  unfold impl_in.f
  by_cases h : b ≤ a
  · rw [if_pos h]; simp [h]
  · rw [if_neg h]; simp [h]
end Go.Proofs.Ytbjpdelammffpaa.Dc
/- The plain part: what the program's and the reference's RadiosOk compute is the same. -/
namespace Go.Proofs.Ytbjpdelammffpaa.Rd
open Go.RowKit Go.Proofs.Ytbjpdelammffpaa.PR1 Go.Proofs.YtbjpdelammffpaaW.PrintWords Go.Proofs.Ytbjpdelammffpaa.Dc
set_option linter.unusedVariables false
set_option linter.unusedSimpArgs false
abbrev LR := S50
abbrev IR := S53
def szOf (n : Nat) (m : Int) : Int := if (n : Int) ≤ m then m - n else -1
def cvR (x : LR) : IR := ⟨x.f0, x.f1, x.f2⟩
theorem rdl (l : List LR) (i : Nat) (h : i < l.length) : rd_T50 l (i : Int) = l[i] := by simp [rd_T50, h]
theorem rds (l : List IR) (i : Nat) (h : i < l.length) : rd_T53 l (i : Int) = l[i] := by simp [rd_T53, h]
theorem radio_le {w : World} {A : Option Addr} {n : Nat} {xs : List LR} (h : Kd.C k50 w A n xs) : ∀ x ∈ xs, x.f2.length ≤ 9223372036854775807 := by
  intro x hx
  obtain ⟨j, hj, rfl⟩ := List.getElem_of_mem hx
  have hn := h.1
  obtain ⟨ad, _, hc⟩ := h.2.2 (by omega)
  obtain ⟨c, _, hk, _⟩ := hc j _ (List.getElem?_eq_getElem hj)
  obtain ⟨_, _, rfl, _, ⟨_, _, rfl, _, ⟨A', c', _, _, hC⟩⟩⟩ := hk
  exact hC.2.1
/-! ### The copy -/
theorem to_loop (l : List LR) (hn : l.length ≤ 9223372036854775807) (hr : ∀ x ∈ l, x.f2.length ≤ 1048576) (d : Nat) : ∀ (i : Nat) (xs : List IR), xs.length = l.length → i + d = l.length → xs.take i = (l.map cvR).take i → Ev (fun k => laws_toRadioS.l0 k l xs i) (l.map cvR) := by
  induction d with
  | zero =>
    intro i xs hl hd ht
    refine Ev.ret fun k => ?_
    simp only [laws_toRadioS.l0]
    rw [if_neg (by omega)]
    rw [List.take_of_length_le (by omega), List.take_of_length_le (by simp; omega)] at ht
    exact congrArg some ht
  | succ d ih =>
    intro i xs hl hd ht
    have hi : i < l.length := by omega
    have t1 : Ev (fun k => laws_toRadio.f k l[i].f0 l[i].f1 l[i].f2) (l[i].f0, l[i].f1, l[i].f2) := by
      unfold laws_toRadio.f
      exact Ev.bind (toIntS _ (hr _ (List.getElem_mem hi))) (Ev.const fun _ => rfl)
    refine Ev.step (f := fun k => (laws_toRadio.f k l[i].f0 l[i].f1 l[i].f2).bind fun bt => if (i : Int) < (xs.length : Int) then laws_toRadioS.l0 k l (xs.set i (⟨bt.1, bt.2.1, bt.2.2⟩ : IR)) ((i + 1 : Nat) : Int) else none) (fun k => ?_) (Ev.bind t1 (Ev.yes (by omega) (ih (i + 1) (xs.set i (cvR l[i])) (by simpa using hl) (by omega) ?_)))
    · simp only [laws_toRadioS.l0]
      rw [if_pos (by omega), if_pos (by omega), wk (n := l.length) (by omega) hn, Int.toNat_natCast, rdl l i hi]
    · rw [List.take_succ_eq_append_getElem (by simp; omega), List.take_succ_eq_append_getElem (by simp; omega)]
      congr 1
      · rw [List.take_set_of_le (Nat.le_refl i)]; exact ht
      · simp
theorem toR (l : List LR) (hn : l.length ≤ 1048576) (hr : ∀ x ∈ l, x.f2.length ≤ 1048576) : Ev (fun k => laws_toRadioS.f k l) (l.map cvR) := by
  refine Ev.congr (f := fun k => laws_toRadioS.l0 k l (List.replicate l.length z53) ((0 : Nat) : Int)) (fun k => ?_) (to_loop l (by omega) hr l.length 0 _ (by simp) (by omega) (by simp))
  unfold laws_toRadioS.f
  rw [if_pos (by omega), if_pos (by simp; omega), Int.toNat_natCast]
  rfl
/-! ### Equality -/
theorem eq_loop (l : List IR) (hn : l.length ≤ 9223372036854775807) (hr : ∀ x ∈ l, x.f2.length ≤ 9223372036854775807) (d : Nat) : ∀ (i : Nat), i + d = l.length → Ev (fun k => laws_eqRadioS.l0 k l l i) true := by
  induction d with
  | zero =>
    intro i hd
    refine Ev.ret fun k => ?_
    simp only [laws_eqRadioS.l0]
    rw [if_neg (by omega)]
  | succ d ih =>
    intro i hd
    have hi : i < l.length := by omega
    have t1 : Ev (fun k => laws_eqRadio.f k l[i].f0 l[i].f1 l[i].f2 l[i].f0 l[i].f1 l[i].f2) true := by
      unfold laws_eqRadio.f
      exact Ev.yes rfl (Ev.yes rfl (Ev.bind (eqIntS _ (hr _ (List.getElem_mem hi))) (Ev.yes rfl (Ev.const fun _ => rfl))))
    refine Ev.step (f := fun k => (laws_eqRadio.f k l[i].f0 l[i].f1 l[i].f2 l[i].f0 l[i].f1 l[i].f2).bind fun t => if t = true then laws_eqRadioS.l0 k l l ((i + 1 : Nat) : Int) else some false) (fun k => ?_) (Ev.bind t1 (Ev.yes rfl (ih (i + 1) (by omega))))
    simp only [laws_eqRadioS.l0]
    rw [if_pos (by omega), if_pos (by omega), if_pos (by omega), wk (n := l.length) (by omega) hn, rds l i hi]
theorem eqR (l : List IR) (hn : l.length ≤ 9223372036854775807) (hr : ∀ x ∈ l, x.f2.length ≤ 9223372036854775807) : Ev (fun k => laws_eqRadioS.f k l l) true := by
  refine Ev.congr (f := fun k => laws_eqRadioS.l0 k l l ((0 : Nat) : Int)) (fun k => ?_) (eq_loop l hn hr l.length 0 (by omega))
  unfold laws_eqRadioS.f
  rw [if_pos rfl]
  rfl
/-! ### The size -/
def tot (l : List LR) : Nat := (l.map fun x => x.f2.length).sum
theorem tot_le (l : List LR) : ∀ x ∈ l, x.f2.length ≤ tot l := by
  intro x hx
  induction l with
  | nil => cases hx
  | cons y l ih =>
    have e : tot (y :: l) = y.f2.length + tot l := by simp [tot]
    rcases List.mem_cons.1 hx with rfl | hx
    · omega
    · have := ih hx; omega
theorem szInt (l : List Int) (m : Int) (h0 : 0 ≤ m) (h1 : m ≤ 1048576) (hn : l.length ≤ 9223372036854775807) : laws_szIntS.f l m = some (szOf l.length m) := by
  unfold laws_szIntS.f szOf
  have e : wrap64 (m - (l.length : Int)) = m - l.length := by unfold wrap64; omega
  rw [e]
  by_cases h : (l.length : Int) ≤ m
  · rw [if_pos h, if_neg (by omega)]
  · rw [if_neg h, if_pos (by omega)]
theorem sz_loop (l : List LR) (hn : l.length ≤ 9223372036854775807) (hr : ∀ x ∈ l, x.f2.length ≤ 9223372036854775807) (d : Nat) : ∀ (i : Nat) (m : Int), i + d = l.length → 0 ≤ m → m ≤ 1048576 → Ev (fun k => laws_szRadioS.l0 k l m i) (szOf (tot (l.drop i)) m) := by
  induction d with
  | zero =>
    intro i m hd h0 h1
    refine Ev.ret fun k => ?_
    simp only [laws_szRadioS.l0]
    rw [if_neg (by omega), List.drop_of_length_le (by omega)]
    unfold szOf tot
    simp [h0]
  | succ d ih =>
    intro i m hd h0 h1
    have hi : i < l.length := by omega
    have ht : tot (l.drop i) = l[i].f2.length + tot (l.drop (i + 1)) := by unfold tot; rw [drop_at l i hi, List.map_cons, List.sum_cons]
    have e1 : laws_szRadio.f l[i].f0 l[i].f1 l[i].f2 m = some (szOf l[i].f2.length m) := by
      unfold laws_szRadio.f
      rw [szInt _ m h0 h1 (hr _ (List.getElem_mem hi))]
      simp only [Option.bind_some]
      unfold szOf
      by_cases h : (l[i].f2.length : Int) ≤ m
      · rw [if_pos h, if_neg (by omega)]
      · rw [if_neg h, if_pos (by omega)]
    have hrow : ∀ k, laws_szRadioS.l0 (k + 1) l m i = if szOf l[i].f2.length m < 0 then some (-1) else laws_szRadioS.l0 k l (szOf l[i].f2.length m) ((i + 1 : Nat) : Int) := by
      intro k
      simp only [laws_szRadioS.l0]
      rw [if_pos (by omega), if_pos (by omega), rdl l i hi, e1, wk (n := l.length) (by omega) hn]
      rfl
    by_cases h : (l[i].f2.length : Int) ≤ m
    · have e2 : szOf l[i].f2.length m = m - l[i].f2.length := by unfold szOf; rw [if_pos h]
      have e3 : szOf (tot (l.drop i)) m = szOf (tot (l.drop (i + 1))) (m - l[i].f2.length) := by unfold szOf; rw [ht]; split <;> split <;> omega
      rw [e3]
      exact Ev.step (fun k => by rw [hrow, e2, if_neg (by omega)]) (ih (i + 1) _ (by omega) (by omega) (by omega))
    · have e2 : szOf l[i].f2.length m = -1 := by unfold szOf; rw [if_neg h]
      have e3 : szOf (tot (l.drop i)) m = -1 := by unfold szOf; rw [ht, if_neg (by omega)]
      rw [e3]
      exact Ev.ret fun k => by rw [hrow, e2, if_pos (by omega)]
def sizeR (l : List LR) : Nat := l.length + tot l
theorem szR (l : List LR) (hn : l.length ≤ 9223372036854775807) (hr : ∀ x ∈ l, x.f2.length ≤ 9223372036854775807) : Ev (fun k => laws_szRadioS.f k l 1048576) (szOf (sizeR l) 1048576) := by
  have e : wrap64 (1048576 - (l.length : Int)) = 1048576 - l.length := by unfold wrap64; omega
  unfold laws_szRadioS.f
  rw [e]
  by_cases h : (l.length : Int) ≤ 1048576
  · have := sz_loop l hn hr l.length 0 (1048576 - l.length) (by omega) (by omega) (by omega)
    rw [List.drop_zero] at this
    have e3 : szOf (sizeR l) 1048576 = szOf (tot l) (1048576 - l.length) := by unfold szOf sizeR; split <;> split <;> omega
    rw [e3]
    exact Ev.no (by omega) this
  · have e3 : szOf (sizeR l) 1048576 = -1 := by unfold szOf sizeR; rw [if_neg (by omega)]
    rw [e3]
    exact Ev.yes (by omega) (Ev.const fun _ => rfl)
/-! ### Is it in the list? -/
theorem has_same (l : List Int) (hn : l.length ≤ 9223372036854775807) (a : Int) : ∀ (k : Nat) (i : Nat), ((slices_Index_int_int.l0 k l a l.length i).bind fun t => some (decide (t ≥ 0))) = spec_l9Has.l0 k l a i := by
  intro k
  induction k with
  | zero => intro i; rfl
  | succ k ih =>
    intro i
    simp only [slices_Index_int_int.l0, spec_l9Has.l0]
    by_cases h : (i : Int) < (l.length : Int)
    · have h0 : (0 : Int) ≤ (i : Int) := by omega
      simp only [if_pos h, if_pos h0]
      by_cases h2 : rd l (i : Int) = a
      · have h3 : a = rd l (i : Int) := h2.symm
        simp only [if_pos h2, if_pos h3, Option.bind_some]
        simp
      · have h3 : ¬ a = rd l (i : Int) := fun e => h2 e.symm
        simp only [if_neg h2, if_neg h3]
        rw [wk (n := l.length) (by omega) hn]
        exact ih (i + 1)
    · rw [if_neg h, if_neg h]
      rfl
theorem has_f (l : List Int) (hn : l.length ≤ 9223372036854775807) (a : Int) (k : Nat) : slices_Contains_int_int.f k l a = spec_l9Has.f k l a := has_same l hn a k 0
theorem has_ends (l : List Int) (hn : l.length ≤ 9223372036854775807) (a : Int) (d : Nat) : ∀ i : Nat, i + d = l.length → ∃ r, Ev (fun k => spec_l9Has.l0 k l a i) r := by
  induction d with
  | zero =>
    intro i hd
    refine ⟨false, Ev.ret fun k => ?_⟩
    simp only [spec_l9Has.l0]
    rw [if_neg (by omega)]
  | succ d ih =>
    intro i hd
    by_cases h : rd l (i : Int) = a
    · refine ⟨true, Ev.ret fun k => ?_⟩
      simp only [spec_l9Has.l0]
      rw [if_pos (by omega), if_pos (by omega), if_pos h]
    · obtain ⟨r, hr⟩ := ih (i + 1) (by omega)
      refine ⟨r, Ev.step (fun k => ?_) hr⟩
      simp only [spec_l9Has.l0]
      rw [if_pos (by omega), if_pos (by omega), if_neg h, wk (n := l.length) (by omega) hn]
theorem id_impl (x : Int) : impl_idOk.f x = spec_l1In.f x 1 999999999 := by unfold impl_idOk.f; rw [in_impl, in_spec]; rfl
theorem slot_impl (x : Int) : impl_slotOk.f x = spec_l1In.f x 0 19 := by unfold impl_slotOk.f; rw [in_impl, in_spec]; rfl
theorem in_same (a b c : Int) : impl_in.f a b c = spec_l1In.f a b c := by rw [in_impl, in_spec]
/-! ### Both loops, round by round -/
theorem rd_le (l : List IR) (hr : ∀ x ∈ l, x.f2.length ≤ 9223372036854775807) (i : Int) : (rd_T53 l i).f2.length ≤ 9223372036854775807 := by
  unfold rd_T53
  rw [List.getD_eq_getElem?_getD]
  by_cases h : i.toNat < l.length
  · rw [List.getElem?_eq_getElem h]
    exact hr _ (List.getElem_mem h)
  · rw [List.getElem?_eq_none (by omega)]
    simp [z53]
theorem radios_same (l : List IR) (hr : ∀ x ∈ l, x.f2.length ≤ 9223372036854775807) : ∀ k : Nat, (∀ i : Int, impl_RadiosOk.l0 k l l l.length i = spec_RadiosOk.l0 k l i) ∧
    (∀ (i : Int) (b : Bool) (x y : Int) (h : List Int), impl_RadiosOk.j1 k l i l l.length i b x y h = spec_RadiosOk.j1 k l i b x y h) ∧ (∀ (i j x y : Int) (h : List Int), impl_RadiosOk.l1 k l i l l.length i h h.length j x y h = spec_RadiosOk.l1 k l i j x y h) := by
  intro k
  induction k with
  | zero => exact ⟨fun _ => rfl, fun _ _ _ _ _ => rfl, fun _ _ _ _ _ => rfl⟩
  | succ k ih =>
    obtain ⟨ih0, ih1, ih2⟩ := ih
    refine ⟨fun i => ?_, fun i b x y h => ?_, fun i j x y h => ?_⟩
    · simp only [impl_RadiosOk.l0, spec_RadiosOk.l0, ih1, id_impl, slot_impl]
      by_cases h1 : i < (l.length : Int)
      · simp only [if_pos h1]
      · simp only [if_neg h1]
    · simp only [impl_RadiosOk.j1, spec_RadiosOk.j1, ih2]
    · simp only [impl_RadiosOk.l1, spec_RadiosOk.l1, ih0, ih2, in_same, has_f _ (rd_le l hr _)]
      by_cases h1 : j < (h.length : Int)
      · simp only [if_pos h1]
      · simp only [if_neg h1]
/-! ### The reference comes to an end -/
theorem radios_ends (l : List IR) (hn : l.length ≤ 24) (hr : ∀ x ∈ l, x.f2.length ≤ 9223372036854775807) (d : Nat) : ∀ i : Nat, i + d = l.length → ∃ r, Ev (fun k => spec_RadiosOk.l0 k l i) r := by
  induction d with
  | zero =>
    intro i hd
    refine ⟨true, Ev.ret fun k => ?_⟩
    simp only [spec_RadiosOk.l0]
    rw [if_neg (by omega)]
  | succ d ih =>
    intro i hd
    have hi : i < l.length := by omega
    obtain ⟨r0, h0⟩ := ih (i + 1) (by omega)
    have hx := hr _ (List.getElem_mem hi)
    have inner : ∀ (x y : Int) (h : List Int), h.length ≤ 9223372036854775807 → ∀ (e j : Nat), j + e = h.length → ∃ r, Ev (fun k => spec_RadiosOk.l1 k l i j x y h) r := by
      intro x y h hh e
      induction e with
      | zero =>
        intro j hj
        refine ⟨r0, Ev.step (fun k => ?_) h0⟩
        simp only [spec_RadiosOk.l1]
        rw [if_neg (by omega), wk (n := l.length) (by omega) (by omega)]
      | succ e ihe =>
        intro j hj
        have w1 : wrap64 ((l.length : Int) - 1) = l.length - 1 := w64 _ (by omega) (by omega)
        by_cases c1 : 0 ≤ rd h (j : Int) ∧ rd h (j : Int) ≤ (l.length : Int) - 1
        · by_cases c2 : rd h (j : Int) = (i : Int)
          · refine ⟨false, Ev.ret fun k => ?_⟩
            simp only [spec_RadiosOk.l1]
            rw [if_pos (by omega), if_pos (by omega), in_spec, w1, decide_eq_true c1]
            simp only [Option.bind_some, if_true]
            rw [if_pos c2]
          · obtain ⟨b, hb⟩ := has_ends (rd_T53 l (rd h (j : Int))).f2 (rd_le l hr _) i _ 0 (Nat.zero_add _)
            obtain ⟨r1, h1⟩ := ihe (j + 1) (by omega)
            have fin : ∃ r, Ev (fun k => (spec_l9Has.f k (rd_T53 l (rd h (j : Int))).f2 i).bind fun t => if t = true then spec_RadiosOk.l1 k l i ((j + 1 : Nat) : Int) x y h else some false) r := by
              cases b
              · exact ⟨false, Ev.bind (g := fun k => spec_l9Has.f k _ _) hb (Ev.no (by simp) (Ev.const fun _ => rfl))⟩
              · exact ⟨r1, Ev.bind (g := fun k => spec_l9Has.f k _ _) hb (Ev.yes rfl h1)⟩
            by_cases c3 : j = 0
            · obtain ⟨r, hr'⟩ := fin
              refine ⟨r, Ev.step (fun k => ?_) hr'⟩
              simp only [spec_RadiosOk.l1]
              rw [if_pos (by omega), if_pos (by omega), in_spec, w1, decide_eq_true c1]
              simp only [Option.bind_some, if_true]
              rw [if_neg c2, if_neg (by omega), if_pos (by omega), if_pos (by omega), wk (n := h.length) (by omega) hh]
            · have w2 : wrap64 ((j : Int) - 1) = (j : Int) - 1 := w64 _ (by omega) (by omega)
              by_cases c4 : rd h ((j : Int) - 1) ≥ rd h (j : Int)
              · refine ⟨false, Ev.ret fun k => ?_⟩
                simp only [spec_RadiosOk.l1]
                rw [if_pos (by omega), if_pos (by omega), in_spec, w1, decide_eq_true c1]
                simp only [Option.bind_some, if_true]
                rw [if_neg c2, if_pos (by omega), w2, if_pos (by omega), if_pos (by omega), if_pos c4]
              · obtain ⟨r, hr'⟩ := fin
                refine ⟨r, Ev.step (fun k => ?_) hr'⟩
                simp only [spec_RadiosOk.l1]
                rw [if_pos (by omega), if_pos (by omega), in_spec, w1, decide_eq_true c1]
                simp only [Option.bind_some, if_true]
                rw [if_neg c2, if_pos (by omega), w2, if_pos (by omega), if_pos (by omega), if_neg c4, if_pos (by omega), if_pos (by omega), wk (n := h.length) (by omega) hh]
        · refine ⟨false, Ev.ret fun k => ?_⟩
          simp only [spec_RadiosOk.l1]
          rw [if_pos (by omega), if_pos (by omega), in_spec, w1, decide_eq_false c1]
          simp
    have jend : ∀ (b : Bool), ∃ r, Ev (fun k => spec_RadiosOk.j1 k l i b l[i].f0 l[i].f1 l[i].f2) r := by
      intro b
      cases b
      · obtain ⟨r, h⟩ := inner l[i].f0 l[i].f1 l[i].f2 hx l[i].f2.length 0 (by omega)
        refine ⟨r, Ev.step (fun k => ?_) h⟩
        simp only [spec_RadiosOk.j1, Bool.false_eq_true, if_false]
        rfl
      · exact ⟨false, Ev.ret fun k => by simp only [spec_RadiosOk.j1, if_true]⟩
    by_cases c1 : 1 ≤ l[i].f0 ∧ l[i].f0 ≤ 999999999
    · by_cases c2 : i = 0
      · obtain ⟨r, h⟩ := jend (!(decide (0 ≤ l[i].f1 ∧ l[i].f1 ≤ 19)))
        refine ⟨r, Ev.step (fun k => ?_) h⟩
        simp only [spec_RadiosOk.l0]
        rw [if_pos (by omega), if_pos (by omega), rds l i hi, in_spec, decide_eq_true c1]
        simp only [Option.bind_some, if_true]
        rw [if_neg (by omega), in_spec]
        simp only [Option.bind_some]
      · have w2 : wrap64 ((i : Int) - 1) = (i : Int) - 1 := w64 _ (by omega) (by omega)
        by_cases c3 : (rd_T53 l ((i : Int) - 1)).f0 ≥ l[i].f0
        · obtain ⟨r, h⟩ := jend true
          refine ⟨r, Ev.step (fun k => ?_) h⟩
          simp only [spec_RadiosOk.l0]
          rw [if_pos (by omega), if_pos (by omega), rds l i hi, in_spec, decide_eq_true c1]
          simp only [Option.bind_some, if_true]
          rw [if_pos (by omega), w2, if_pos (by omega), if_pos (by omega), if_pos c3]
        · obtain ⟨r, h⟩ := jend (!(decide (0 ≤ l[i].f1 ∧ l[i].f1 ≤ 19)))
          refine ⟨r, Ev.step (fun k => ?_) h⟩
          simp only [spec_RadiosOk.l0]
          rw [if_pos (by omega), if_pos (by omega), rds l i hi, in_spec, decide_eq_true c1]
          simp only [Option.bind_some, if_true]
          rw [if_pos (by omega), w2, if_pos (by omega), if_pos (by omega), if_neg c3, in_spec]
          simp only [Option.bind_some]
    · obtain ⟨r, h⟩ := jend true
      refine ⟨r, Ev.step (fun k => ?_) h⟩
      simp only [spec_RadiosOk.l0]
      rw [if_pos (by omega), if_pos (by omega), rds l i hi, in_spec, decide_eq_false c1]
      simp
theorem radios_both (l : List IR) (hn : l.length ≤ 9223372036854775807) (hr : ∀ x ∈ l, x.f2.length ≤ 9223372036854775807) : ∃ r, Ev (fun k => spec_RadiosOk.f k l) r ∧ Ev (fun k => impl_RadiosOk.f k l) r := by
  unfold spec_RadiosOk.f impl_RadiosOk.f
  rw [in_spec, in_impl]
  simp only [Option.bind_some]
  by_cases h : (1 : Int) ≤ (l.length : Int) ∧ (l.length : Int) ≤ 24
  · obtain ⟨r, h1⟩ := radios_ends l (by omega) hr l.length 0 (by omega)
    rw [decide_eq_true h]
    refine ⟨r, Ev.yes rfl h1, Ev.yes rfl (Ev.congr (fun k => ?_) h1)⟩
    exact (radios_same l hr k).1 0
  · rw [decide_eq_false h]
    exact ⟨false, Ev.no (by simp) (Ev.const fun _ => rfl), Ev.no (by simp) (Ev.const fun _ => rfl)⟩
end Go.Proofs.Ytbjpdelammffpaa.Rd
/- Breadth first: labels of a graph; two searches, and that there is one labelling. -/
namespace Go.Proofs.Ytbjpdelammffpaa.Bf
set_option linter.unusedVariables false
structure Lab (n : Nat) (E : Nat → Nat → Prop) (s : Nat) (o : Nat → Int) : Prop where
  low : ∀ v, -1 ≤ o v
  out : ∀ v, n ≤ v → o v = -1
  src : o s = 0
  zero : ∀ v, o v = 0 → v = s
  pred : ∀ v d, 0 ≤ d → o v = d + 1 → ∃ u, o u = d ∧ E u v
def Full (E : Nat → Nat → Prop) (o : Nat → Int) (u : Nat) : Prop := ∀ v, E u v → 0 ≤ o v ∧ o v ≤ o u + 1
structure Fin (n : Nat) (E : Nat → Nat → Prop) (s : Nat) (o : Nat → Int) : Prop where
  lab : Lab n E s o
  full : ∀ u, 0 ≤ o u → Full E o u
section
variable {n : Nat} {E : Nat → Nat → Prop} {s : Nat} {o o' : Nat → Int}
theorem Fin.le (h : Fin n E s o) (h' : Fin n E s o') : ∀ (d : Nat) (v : Nat), o v = d → 0 ≤ o' v ∧ o' v ≤ d := by
  intro d
  induction d with
  | zero =>
    intro v hv
    obtain rfl := h.lab.zero v (by omega)
    have := h'.lab.src
    omega
  | succ d ih =>
    intro v hv
    obtain ⟨u, hu, he⟩ := h.lab.pred v d (by omega) (by omega)
    have h1 := ih u hu
    have h2 := h'.full u h1.1 v he
    omega
theorem Fin.unique (h : Fin n E s o) (h' : Fin n E s o') (v : Nat) : o v = o' v := by
  have l := h.lab.low v
  have l' := h'.lab.low v
  by_cases h0 : 0 ≤ o v
  · have h1 := h.le h' (o v).toNat v (by omega)
    have h2 := h'.le h (o' v).toNat v (by omega)
    omega
  · by_cases h1 : 0 ≤ o' v
    · have h2 := h'.le h (o' v).toNat v (by omega)
      omega
    · omega
def upd (o : Nat → Int) (v : Nat) (x : Int) : Nat → Int := fun u => if u = v then x else o u
theorem upd_ne {v u : Nat} {x : Int} (h : u ≠ v) : upd o v x u = o u := if_neg h
theorem upd_self {v : Nat} {x : Int} : upd o v x v = x := if_pos rfl
theorem Lab.set (h : Lab n E s o) {p v : Nat} {d : Int} (hd : 0 ≤ d) (hp : o p = d) (he : E p v) (hv : o v < 0) (hn : v < n) : Lab n E s (upd o v (d + 1)) := by
  refine ⟨fun u => ?_, fun u hu => ?_, ?_, fun u hu => ?_, fun u e h0 hu => ?_⟩
  · by_cases e : u = v
    · subst e; rw [upd_self]; omega
    · rw [upd_ne e]; exact h.low u
  · rw [upd_ne (by omega)]; exact h.out u hu
  · rw [upd_ne (by rintro rfl; have := h.src; omega)]; exact h.src
  · by_cases e : u = v
    · subst e; rw [upd_self] at hu; omega
    · rw [upd_ne e] at hu; exact h.zero u hu
  · by_cases e' : u = v
    · subst e'
      rw [upd_self] at hu
      exact ⟨p, by rw [upd_ne (by rintro rfl; omega)]; omega, he⟩
    · rw [upd_ne e'] at hu
      obtain ⟨q, h1, h2⟩ := h.pred u e h0 hu
      exact ⟨q, by rw [upd_ne (by rintro rfl; omega)]; exact h1, h2⟩
theorem Full.set {u : Nat} (h : Full E o u) (hu : 0 ≤ o u) {v : Nat} (hv : o v < 0) (x : Int) : Full E (upd o v x) u := by
  intro w hw
  have h1 := h w hw
  rw [upd_ne (show w ≠ v by rintro rfl; omega), upd_ne (show u ≠ v by rintro rfl; omega)]
  exact h1
/-- Numbers 0..m that all occur in a list make it long. -/
theorem long_of : ∀ (m : Nat) (xs : List Int), (∀ j : Nat, j < m → (j : Int) ∈ xs) → m ≤ xs.length := by
  intro m
  induction m with
  | zero => intro xs _; omega
  | succ m ih =>
    intro xs h
    have hm : (m : Int) ∈ xs := h m (by omega)
    have h1 := ih (xs.erase (m : Int)) (fun j hj => (List.mem_erase_of_ne (by omega)).2 (h j (by omega)))
    rw [List.length_erase_of_mem hm] at h1
    have := List.length_pos_of_mem hm
    omega
theorem Lab.below (h : Lab n E s o) (v : Nat) : o v < n := by
  by_cases h0 : o v < 0
  · omega
  · have key : ∀ (d : Nat) (v : Nat), o v = d → ∀ j : Nat, j ≤ d → ∃ u, u < n ∧ o u = j := by
      intro d
      induction d with
      | zero =>
        intro v hv j hj
        refine ⟨v, ?_, by omega⟩
        rcases Nat.lt_or_ge v n with h1 | h1
        · exact h1
        · have := h.out v h1; omega
      | succ d ih =>
        intro v hv j hj
        by_cases e : j = d + 1
        · refine ⟨v, ?_, by omega⟩
          rcases Nat.lt_or_ge v n with h1 | h1
          · exact h1
          · have := h.out v h1; omega
        · obtain ⟨u, hu, _⟩ := h.pred v d (by omega) (by omega)
          exact ih u hu j (by omega)
    have h1 := long_of ((o v).toNat + 1) ((List.range n).map o) (fun j hj => by
      obtain ⟨u, hu, hj'⟩ := key (o v).toNat v (by omega) j (by omega)
      exact List.mem_map.2 ⟨u, List.mem_range.2 hu, hj'⟩)
    rw [List.length_map, List.length_range] at h1
    omega
/-! ### Level by level -/
structure Lev (n : Nat) (E : Nat → Nat → Prop) (s : Nat) (d : Int) (o : Nat → Int) : Prop where
  lab : Lab n E s o
  top : ∀ v, o v ≤ d
  full : ∀ u, 0 ≤ o u → o u < d → Full E o u
theorem Lev.fin {d : Int} (h : Lev n E s d o) (hd : (n : Int) ≤ d) : Fin n E s o := ⟨h.lab, fun u h0 => h.full u h0 (by have := h.lab.below u; omega)⟩
structure Mid (n : Nat) (E : Nat → Nat → Prop) (s : Nat) (d : Int) (i : Nat) (P : Nat → Prop) (o : Nat → Int) : Prop where
  lab : Lab n E s o
  top : ∀ v, o v ≤ d + 1
  full : ∀ u, 0 ≤ o u → o u < d → Full E o u
  done : ∀ u, u < i → o u = d → ∀ v, E u v → 0 ≤ o v
  now : o i = d → ∀ v, P v → 0 ≤ o v
theorem Lev.start {d : Int} (h : Lev n E s d o) : Mid n E s d 0 (fun _ => False) o := ⟨h.lab, fun v => by have := h.top v; omega, h.full, fun u hu => by omega, fun _ v hv => hv.elim⟩
theorem Mid.next {d : Int} {i : Nat} {P : Nat → Prop} (h : Mid n E s d i P o) (hP : o i = d → ∀ v, E i v → P v) : Mid n E s d (i + 1) (fun _ => False) o :=
  ⟨h.lab, h.top, h.full, fun u hu he v hv => by
    rcases Nat.lt_or_ge u i with h1 | h1
    · exact h.done u h1 he v hv
    · obtain rfl : u = i := by omega
      exact h.now he v (hP he v hv), fun _ v hv => hv.elim⟩
theorem Mid.stop {d : Int} {P : Nat → Prop} (h : Mid n E s d n P o) (h0 : 0 ≤ d) : Lev n E s (d + 1) o := by
  refine ⟨h.lab, h.top, fun u h1 h2 => ?_⟩
  by_cases e : o u = d
  · intro v hv
    have hu : u < n := by
      rcases Nat.lt_or_ge u n with h3 | h3
      · exact h3
      · have := h.lab.out u h3; omega
    have := h.done u hu e v hv
    have := h.top v
    omega
  · exact h.full u h1 (by omega)
theorem Mid.skip {d : Int} {i v : Nat} {P : Nat → Prop} (h : Mid n E s d i P o) (hv : 0 ≤ o v) : Mid n E s d i (fun u => P u ∨ u = v) o :=
  ⟨h.lab, h.top, h.full, h.done, fun he u hu => hu.elim (h.now he u) (fun e => by subst e; exact hv)⟩
theorem Mid.mark {d : Int} {i v : Nat} {P : Nat → Prop} (h : Mid n E s d i P o) (h0 : 0 ≤ d) (hi : o i = d) (he : E i v) (hv : o v < 0) (hn : v < n) : Mid n E s d i (fun u => P u ∨ u = v) (upd o v (d + 1)) := by
  refine ⟨h.lab.set h0 hi he hv hn, fun u => ?_, fun u h1 h2 => ?_, fun u hu h1 w hw => ?_, fun h1 u hu => ?_⟩
  · by_cases e : u = v
    · subst e; rw [upd_self]; omega
    · rw [upd_ne e]; exact h.top u
  · have e : u ≠ v := by rintro rfl; rw [upd_self] at h2; omega
    rw [upd_ne e] at h1 h2
    exact (h.full u h1 h2).set h1 hv _
  · have e : u ≠ v := by rintro rfl; rw [upd_self] at h1; omega
    rw [upd_ne e] at h1
    have h2 := h.done u hu h1 w hw
    by_cases e2 : w = v
    · subst e2; rw [upd_self]; omega
    · rw [upd_ne e2]; exact h2
  · by_cases e2 : u = v
    · subst e2; rw [upd_self]; omega
    · rw [upd_ne e2]
      exact hu.elim (h.now hi u) (fun h3 => (e2 h3).elim)
/-! ### With a queue -/
structure Que (n : Nat) (E : Nat → Nat → Prop) (s : Nat) (o : Nat → Int) (h : Nat) (t : List Nat) : Prop where
  lab : Lab n E s o
  ok : ∀ x ∈ h :: t, 0 ≤ o x
  sorted : (h :: t).Pairwise fun x y => o x ≤ o y
  top : ∀ v, o v ≤ o h + 1
  full : ∀ u, 0 ≤ o u → u ∈ h :: t ∨ Full E o u
theorem Que.mark {h v : Nat} {t : List Nat} (q : Que n E s o h t) (he : E h v) (hv : o v < 0) (hn : v < n) : Que n E s (upd o v (o h + 1)) h (t ++ [v]) := by
  have hh : 0 ≤ o h := q.ok h List.mem_cons_self
  have ne : ∀ x, 0 ≤ o x → x ≠ v := fun x hx e => by subst e; omega
  have keep : ∀ x ∈ h :: t, upd o v (o h + 1) x = o x := fun x hx => upd_ne (ne x (q.ok x hx))
  refine ⟨q.lab.set hh rfl he hv hn, fun x hx => ?_, ?_, fun u => ?_, fun u hu => ?_⟩
  · rw [← List.cons_append] at hx
    rcases List.mem_append.1 hx with hx | hx
    · rw [keep x hx]; exact q.ok x hx
    · obtain rfl := List.mem_singleton.1 hx
      rw [upd_self]; omega
  · rw [← List.cons_append, List.pairwise_append]
    refine ⟨?_, List.pairwise_singleton _ _, fun x hx y hy => ?_⟩
    · exact (List.Pairwise.imp_of_mem (fun hx hy hxy => by rw [keep _ hx, keep _ hy]; exact hxy) q.sorted)
    · obtain rfl := List.mem_singleton.1 hy
      rw [keep x hx, upd_self]
      exact q.top x
  · rw [upd_ne (ne h hh)]
    by_cases e : u = v
    · subst e; rw [upd_self]; omega
    · rw [upd_ne e]; exact q.top u
  · by_cases e : u = v
    · subst e; exact .inl (by simp)
    · rw [upd_ne e] at hu
      rcases q.full u hu with h1 | h1
      · exact .inl (by rw [← List.cons_append]; exact List.mem_append_left _ h1)
      · exact .inr (h1.set hu hv _)
theorem Que.pop {h h' : Nat} {t : List Nat} (q : Que n E s o h (h' :: t)) (hf : ∀ v, E h v → 0 ≤ o v) : Que n E s o h' t := by
  have hp := List.pairwise_cons.1 q.sorted
  refine ⟨q.lab, fun x hx => q.ok x (List.mem_cons_of_mem _ hx), hp.2, fun v => ?_, fun u hu => ?_⟩
  · have h1 := hp.1 h' List.mem_cons_self
    have := q.top v
    omega
  · rcases q.full u hu with h1 | h1
    · rcases List.mem_cons.1 h1 with rfl | h1
      · exact .inr fun v hv => ⟨hf v hv, q.top v⟩
      · exact .inl h1
    · exact .inr h1
theorem Que.stop {h : Nat} (q : Que n E s o h []) (hf : ∀ v, E h v → 0 ≤ o v) : Fin n E s o :=
  ⟨q.lab, fun u hu => by
    rcases q.full u hu with h1 | h1
    · obtain rfl := List.mem_singleton.1 h1
      exact fun v hv => ⟨hf v hv, q.top v⟩
    · exact h1⟩
theorem start_lab (hs : s < n) : Lab n E s (fun v => if v = s then 0 else -1) := by
  refine ⟨fun v => ?_, fun v hv => ?_, if_pos rfl, fun v hv => ?_, fun v d h0 hv => ?_⟩
  · split <;> omega
  · rw [if_neg (by omega)]
  · split at hv
    · assumption
    · omega
  · split at hv <;> omega
theorem start_lev (hs : s < n) : Lev n E s 0 (fun v => if v = s then 0 else -1) := ⟨start_lab hs, fun v => by split <;> omega, fun u h0 h1 => by omega⟩
theorem start_que (hs : s < n) : Que n E s (fun v => if v = s then 0 else -1) s [] :=
  ⟨start_lab hs, fun x hx => by obtain rfl := List.mem_singleton.1 hx; simp, List.pairwise_singleton _ _, fun v => by rw [if_pos rfl]; split <;> omega, fun u hu => by
    split at hu
    · rename_i e; exact .inl (by simp [e])
    · omega⟩
end
end Go.Proofs.Ytbjpdelammffpaa.Bf
/- The plain part for Relay: both searches label the radios alike. -/
namespace Go.Proofs.Ytbjpdelammffpaa.Rl
open Go.RowKit Go.Proofs.Ytbjpdelammffpaa.PR1 Go.Proofs.YtbjpdelammffpaaW.PrintWords Go.Proofs.Ytbjpdelammffpaa.Dc Go.Proofs.Ytbjpdelammffpaa.Rd Go.Proofs.Ytbjpdelammffpaa.Bf
set_option linter.unusedVariables false
set_option linter.unusedSimpArgs false
def row (l : List IR) (i : Nat) : List Int := (l.getD i z53).f2
def E (l : List IR) (u v : Nat) : Prop := (v : Int) ∈ row l u
def oF (xs : List Int) (v : Nat) : Int := xs.getD v (-1)
def Row (l : List IR) (j : Nat) : Prop := ∀ x ∈ row l j, 0 ≤ x ∧ x < l.length
theorem rdT (l : List IR) (i : Nat) : rd_T53 l (i : Int) = l.getD i z53 := by simp [rd_T53]
/-! ### What the check says -/
theorem good_aux (l : List IR) (hn : l.length ≤ 24) (hr : ∀ x ∈ l, x.f2.length ≤ 9223372036854775807) : ∀ k : Nat,
    (∀ i : Nat, spec_RadiosOk.l0 k l i = some true → ∀ j, i ≤ j → j < l.length → Row l j) ∧
    (∀ (i : Nat) (b : Bool) (x y : Int) (h : List Int), h.length ≤ 9223372036854775807 → i < l.length → spec_RadiosOk.j1 k l i b x y h = some true → (∀ z ∈ h, 0 ≤ z ∧ z < l.length) ∧ ∀ j, i + 1 ≤ j → j < l.length → Row l j) ∧
    (∀ (i j : Nat) (x y : Int) (h : List Int), h.length ≤ 9223372036854775807 → i < l.length → spec_RadiosOk.l1 k l i j x y h = some true → (∀ z ∈ h.drop j, 0 ≤ z ∧ z < l.length) ∧ ∀ j, i + 1 ≤ j → j < l.length → Row l j) := by
  intro k
  induction k with
  | zero => exact ⟨fun i h => by simp [spec_RadiosOk.l0] at h, fun i b x y h _ _ hh => by simp [spec_RadiosOk.j1] at hh, fun i j x y h _ _ hh => by simp [spec_RadiosOk.l1] at hh⟩
  | succ k ih =>
    obtain ⟨ih0, ihj, ih1⟩ := ih
    refine ⟨fun i h j hij hj => ?_, fun i b x y h hh hi hb => ?_, fun i j x y h hh hi hb => ?_⟩
    · have hi : i < l.length := by omega
      simp only [spec_RadiosOk.l0] at h
      rw [if_pos (by omega), if_pos (by omega)] at h
      simp only [in_spec, Option.bind_some] at h
      have hl : (rd_T53 l (i : Int)).f2.length ≤ 9223372036854775807 := rd_le l hr _
      have fin : ∀ b x y, spec_RadiosOk.j1 k l i b x y (rd_T53 l (i : Int)).f2 = some true → Row l j := fun b x y hb => by
        obtain ⟨h1, h2⟩ := ihj i b x y _ hl hi hb
        by_cases e : j = i
        · subst e
          intro z hz
          exact h1 z (by rw [rdT]; exact hz)
        · exact h2 j (by omega) hj
      split at h
      · split at h
        · split at h
          · split at h
            · split at h
              · exact fin _ _ _ h
              · exact fin _ _ _ h
            · cases h
          · cases h
        · exact fin _ _ _ h
      · exact fin _ _ _ h
    · simp only [spec_RadiosOk.j1] at hb
      split at hb
      · cases hb
      · have := ih1 i 0 x y h hh hi hb
        simpa using this
    · simp only [spec_RadiosOk.l1] at hb
      by_cases hj : j < h.length
      · rw [if_pos (by omega), if_pos (by omega)] at hb
        simp only [in_spec, Option.bind_some] at hb
        rw [rd_at h j hj, wk (n := h.length) hj hh] at hb
        have hw : wrap64 ((l.length : Int) - 1) = (l.length : Int) - 1 := by unfold wrap64; omega
        rw [hw] at hb
        split at hb
        · rename_i hin
          have hin := of_decide_eq_true hin
          have fin : spec_RadiosOk.l1 k l i ((j + 1 : Nat) : Int) x y h = some true → (∀ z ∈ h.drop j, 0 ≤ z ∧ z < l.length) ∧ ∀ j, i + 1 ≤ j → j < l.length → Row l j := fun hc => by
            obtain ⟨h1, h2⟩ := ih1 i (j + 1) x y h hh hi hc
            refine ⟨fun z hz => ?_, h2⟩
            rw [drop_at h j hj] at hz
            rcases List.mem_cons.1 hz with rfl | hz
            · omega
            · exact h1 z hz
          have two : ∀ g : Option Bool, (g.bind fun t => if t = true then spec_RadiosOk.l1 k l i ((j + 1 : Nat) : Int) x y h else some false) = some true → spec_RadiosOk.l1 k l i ((j + 1 : Nat) : Int) x y h = some true := fun g hg => by
            obtain ⟨t, _, ht⟩ := Option.bind_eq_some_iff.mp hg
            cases t
            · simp at ht
            · simpa using ht
          split at hb
          · cases hb
          · split at hb
            · split at hb
              · split at hb
                · split at hb
                  · cases hb
                  · split at hb
                    · split at hb
                      · exact fin (two _ hb)
                      · cases hb
                    · cases hb
                · cases hb
              · cases hb
            · split at hb
              · split at hb
                · exact fin (two _ hb)
                · cases hb
              · cases hb
        · cases hb
      · rw [if_neg (by omega), wk (n := l.length) hi (by omega)] at hb
        exact ⟨fun z hz => (by rw [List.drop_of_length_le (by omega)] at hz; cases hz), fun m h1 h2 => ih0 (i + 1) hb m h1 h2⟩
theorem good_of (l : List IR) (hr : ∀ x ∈ l, x.f2.length ≤ 9223372036854775807) (k : Nat) (h : spec_RadiosOk.f k l = some true) : (1 ≤ l.length ∧ l.length ≤ 24) ∧ ∀ j, j < l.length → Row l j := by
  unfold spec_RadiosOk.f at h
  simp only [in_spec, Option.bind_some] at h
  split at h
  · rename_i hin
    have hin := of_decide_eq_true hin
    exact ⟨by omega, fun j hj => (good_aux l (by omega) hr k).1 0 h j (by omega) hj⟩
  · cases h
/-! ### Lists as labels -/
theorem oF_set (xs : List Int) (v : Nat) (x : Int) (hv : v < xs.length) : oF (xs.set v x) = upd (oF xs) v x := by
  funext u
  unfold oF upd
  by_cases e : u = v
  · subst e
    simp [hv]
  · rw [if_neg e, List.getD_eq_getElem?_getD, List.getElem?_set_ne (Ne.symm e), ← List.getD_eq_getElem?_getD]
theorem oF_at (xs : List Int) (v : Nat) (hv : v < xs.length) : rd xs (v : Int) = oF xs v := by rw [rd_at xs v hv]; unfold oF; simp [hv]
def neg (xs : List Int) : Nat := xs.countP fun x => decide (x < 0)
theorem neg_set : ∀ (xs : List Int) (v : Nat) (x : Int), v < xs.length → oF xs v < 0 → 0 ≤ x → neg (xs.set v x) + 1 = neg xs := by
  intro xs
  induction xs with
  | nil => intro v x hv; simp at hv
  | cons y ys ih =>
    intro v x hv hn hx
    cases v with
    | zero =>
      have hy : y < 0 := by simpa [oF] using hn
      have e1 : decide (x < 0) = false := decide_eq_false (by omega)
      have e2 : decide (y < 0) = true := decide_eq_true hy
      simp [neg, List.countP_cons, e1, e2]
    | succ v =>
      have := ih v x (by simpa using hv) (by simpa [oF] using hn) hx
      simp only [neg, List.set_cons_succ, List.countP_cons] at this ⊢
      omega
theorem neg_le (xs : List Int) : neg xs ≤ xs.length := List.countP_le_length
def qI (t : List Nat) : List Int := t.map fun x : Nat => (x : Int)
theorem qI_cons (h : Nat) (t : List Nat) : qI (h :: t) = (h : Int) :: qI t := rfl
theorem qI_len (t : List Nat) : (qI t).length = t.length := by simp [qI]
theorem qI_app (t : List Nat) (v : Nat) : qI (t ++ [v]) = qI t ++ [(v : Int)] := by simp [qI]
theorem fill_step (n i : Nat) (hi : i < n) : ((List.replicate i (-1 : Int)) ++ List.replicate (n - i) 0).set i (-1) = List.replicate (i + 1) (-1) ++ List.replicate (n - (i + 1)) 0 := by
  rw [List.set_append_right _ _ (by simp), List.length_replicate, Nat.sub_self, show n - i = (n - (i + 1)) + 1 by omega, List.replicate_succ, List.set_cons_zero, List.replicate_succ', List.append_assoc]
  rfl
section
set_option linter.unusedSectionVars false
variable (l : List IR) (s : Nat) (hn : l.length ≤ 24) (hr : ∀ x ∈ l, x.f2.length ≤ 9223372036854775807) (hg : ∀ j, j < l.length → Row l j)
include hn hr hg
theorem entry (i : Nat) (hi : i < l.length) (j : Nat) (hj : j < (row l i).length) : ∃ v : Nat, (row l i)[j] = (v : Int) ∧ v < l.length := by
  have := hg i hi _ (List.getElem_mem hj)
  exact ⟨((row l i)[j]).toNat, by omega, by omega⟩
theorem row_len (i : Nat) : (row l i).length ≤ 9223372036854775807 := by
  have := rd_le l hr (i : Int)
  rw [rdT] at this
  exact this
/-! ### The program -/
theorem impl_l2 (h : Nat) (d : Nat) : ∀ (j : Nat) (xs : List Int) (t : List Nat), j + d = (row l h).length → xs.length = l.length → Que l.length (E l) s (oF xs) h t → (∀ i, i < j → ∀ v : Nat, (row l h)[i]? = some (v : Int) → 0 ≤ oF xs v) → neg xs + t.length ≤ 100 →
    ∃ xs' t', xs'.length = l.length ∧ Que l.length (E l) s (oF xs') h t' ∧ (∀ v, E l h v → 0 ≤ oF xs' v) ∧ neg xs' + t'.length ≤ neg xs + t.length ∧
      ∀ r, Ev (fun k => impl_Relay.l1 k l xs' (qI t')) r → Ev (fun k => impl_Relay.l2 k l xs (qI (h :: t)) (row l h) ((row l h).length : Int) j) r := by
  induction d with
  | zero =>
    intro j xs t hd hx hq hj hm
    refine ⟨xs, t, hx, hq, fun v hv => ?_, Nat.le_refl _, fun r hr' => ?_⟩
    · obtain ⟨i, hi, he⟩ := List.getElem_of_mem hv
      exact hj i (by omega) v (by rw [List.getElem?_eq_getElem hi, he])
    · refine Ev.step (fun k => ?_) hr'
      simp only [impl_Relay.l2]
      rw [if_neg (by omega), if_pos (by rw [qI_cons]; simp <;> omega)]
      rfl
  | succ d ih =>
    intro j xs t hd hx hq hj hm
    have hh0 : 0 ≤ oF xs h := hq.ok h List.mem_cons_self
    have hhn : h < l.length := by
      rcases Nat.lt_or_ge h l.length with h1 | h1
      · exact h1
      · have := hq.lab.out h h1; omega
    have hjl : j < (row l h).length := by omega
    obtain ⟨v, hv, hvn⟩ := entry l hn hr hg h hhn j hjl
    have hEv : E l h v := by unfold E; rw [← hv]; exact List.getElem_mem hjl
    have next : ∀ (o : List Int), (∀ u : Nat, 0 ≤ oF xs u → 0 ≤ oF o u) → 0 ≤ oF o v → ∀ i, i < j + 1 → ∀ u : Nat, (row l h)[i]? = some (u : Int) → 0 ≤ oF o u := fun o ho hov i hi u hu => by
      by_cases e : i = j
      · subst e
        rw [List.getElem?_eq_getElem hjl, hv] at hu
        have : v = u := by simp at hu; omega
        subst this
        exact hov
      · exact ho u (hj i (by omega) u hu)
    by_cases hneg : oF xs v < 0
    · have hb := hq.lab.below h
      have hset := oF_set xs v (oF xs h + 1) (by omega)
      have hq' : Que l.length (E l) s (oF (xs.set v (oF xs h + 1))) h (t ++ [v]) := by rw [hset]; exact hq.mark hEv hneg hvn
      have hc := neg_set xs v (oF xs h + 1) (by omega) hneg (by omega)
      have keep : ∀ u : Nat, 0 ≤ oF xs u → 0 ≤ oF (xs.set v (oF xs h + 1)) u := fun u hu => by
        rw [hset]
        by_cases e : u = v
        · subst e; rw [upd_self]; omega
        · rw [upd_ne e]; exact hu
      obtain ⟨xs', t', h1, h2, h3, h4, h5⟩ := ih (j + 1) (xs.set v (oF xs h + 1)) (t ++ [v]) (by omega) (by simpa using hx) hq' (next _ keep (by rw [hset, upd_self]; omega)) (by simp <;> omega)
      refine ⟨xs', t', h1, h2, h3, by simp at h4; omega, fun r hr' => ?_⟩
      refine Ev.step (fun k => ?_) (h5 r hr')
      simp only [impl_Relay.l2]
      have e0 : rd (qI (h :: t)) 0 = (h : Int) := by simp [rd, qI_cons]
      rw [if_pos (by omega), if_pos (by omega), if_pos (by omega), rd_at _ j hjl, hv, if_pos (by omega), if_pos (by omega), oF_at xs v (by omega), if_pos hneg, e0, if_pos (by rw [qI_len]; simp <;> omega), if_pos (by omega), if_pos (by omega), if_pos (by rw [qI_len]; simp <;> omega), oF_at xs h (by omega), Int.toNat_natCast]
      have e1 : wrap64 (oF xs h + 1) = oF xs h + 1 := by unfold wrap64; omega
      rw [e1, wk (n := (row l h).length) hjl (row_len l hn hr hg h)]
      rw [show qI (h :: t) ++ [(v : Int)] = qI (h :: (t ++ [v])) by rw [qI_cons, qI_cons, qI_app]; rfl]
    · obtain ⟨xs', t', h1, h2, h3, h4, h5⟩ := ih (j + 1) xs t (by omega) hx hq (next _ (fun _ hu => hu) (by omega)) hm
      refine ⟨xs', t', h1, h2, h3, h4, fun r hr' => ?_⟩
      refine Ev.step (fun k => ?_) (h5 r hr')
      simp only [impl_Relay.l2]
      rw [if_pos (by omega), if_pos (by omega), if_pos (by omega), rd_at _ j hjl, hv, if_pos (by omega), if_pos (by omega), oF_at xs v (by omega), if_neg hneg, wk (n := (row l h).length) hjl (row_len l hn hr hg h)]
theorem head_lt {xs : List Int} {h : Nat} {t : List Nat} (hq : Que l.length (E l) s (oF xs) h t) : h < l.length := by
  have hh0 : 0 ≤ oF xs h := hq.ok h List.mem_cons_self
  rcases Nat.lt_or_ge h l.length with h1 | h1
  · exact h1
  · have := hq.lab.out h h1; omega
theorem impl_l1 (M : Nat) : ∀ (xs : List Int) (h : Nat) (t : List Nat), xs.length = l.length → Que l.length (E l) s (oF xs) h t → neg xs + t.length ≤ M → M ≤ 100 →
    ∃ xs', xs'.length = l.length ∧ Fin l.length (E l) s (oF xs') ∧ Ev (fun k => impl_Relay.l1 k l xs (qI (h :: t))) (xs', true) := by
  induction M with
  | zero =>
    intro xs h t hx hq hm hM
    obtain ⟨xs', t', h1, h2, h3, h4, h5⟩ := impl_l2 l s hn hr hg h (row l h).length 0 xs t (by omega) hx hq (fun i hi => by omega) (by omega)
    obtain rfl : t' = [] := List.length_eq_zero_iff.1 (by omega)
    refine ⟨xs', h1, h2.stop h3, ?_⟩
    have hh := head_lt l s hn hr hg hq
    refine Ev.step (fun k => ?_) (h5 (xs', true) (Ev.ret fun k => by simp only [impl_Relay.l1]; rw [if_neg (by simp [qI])]))
    have e0 : rd (qI (h :: t)) 0 = (h : Int) := by simp [rd, qI_cons]
    simp only [impl_Relay.l1]
    rw [e0, if_pos (by rw [qI_len]; simp <;> omega), if_pos (by rw [qI_len]; simp <;> omega), if_pos (by omega), if_pos (by omega), rdT]
    rfl
  | succ M ih =>
    intro xs h t hx hq hm hM
    obtain ⟨xs', t', h1, h2, h3, h4, h5⟩ := impl_l2 l s hn hr hg h (row l h).length 0 xs t (by omega) hx hq (fun i hi => by omega) (by omega)
    have hh := head_lt l s hn hr hg hq
    have go : ∀ r, Ev (fun k => impl_Relay.l1 k l xs' (qI t')) r → Ev (fun k => impl_Relay.l1 k l xs (qI (h :: t))) r := fun r hr' => by
      refine Ev.step (fun k => ?_) (h5 r hr')
      have e0 : rd (qI (h :: t)) 0 = (h : Int) := by simp [rd, qI_cons]
      simp only [impl_Relay.l1]
      rw [e0, if_pos (by rw [qI_len]; simp <;> omega), if_pos (by rw [qI_len]; simp <;> omega), if_pos (by omega), if_pos (by omega), rdT]
      rfl
    cases t' with
    | nil => exact ⟨xs', h1, h2.stop h3, go _ (Ev.ret fun k => by simp only [impl_Relay.l1]; rw [if_neg (by simp [qI])])⟩
    | cons h' t'' =>
      obtain ⟨xs2, g1, g2, g3⟩ := ih xs' h' t'' h1 (h2.pop h3) (by simp at h4; omega) (by omega)
      exact ⟨xs2, g1, g2, go _ g3⟩
theorem list_start (hs : s < l.length) : oF ((List.replicate l.length (-1 : Int)).set s 0) = fun v => if v = s then 0 else -1 := by
  rw [oF_set _ _ _ (by simpa using hs)]
  funext v
  unfold upd
  split
  · rfl
  · unfold oF
    rw [List.getD_eq_getElem?_getD]
    rcases Nat.lt_or_ge v l.length with h | h
    · simp [h]
    · rw [List.getElem?_eq_none (by simpa using h)]; rfl
theorem impl_l0 (hs : s < l.length) (d : Nat) : ∀ i : Nat, i + d = l.length → ∃ xs', xs'.length = l.length ∧ Fin l.length (E l) s (oF xs') ∧ Ev (fun k => impl_Relay.l0 k l s (List.replicate i (-1) ++ List.replicate (l.length - i) 0) (l.length : Int) i) (xs', true) := by
  induction d with
  | zero =>
    intro i hd
    obtain rfl : i = l.length := by omega
    have hq : Que l.length (E l) s (oF ((List.replicate l.length (-1 : Int)).set s 0)) s [] := by rw [list_start l s hn hr hg hs]; exact start_que hs
    have hl : ((List.replicate l.length (-1 : Int)).set s 0).length = l.length := by simp
    have hng := neg_le ((List.replicate l.length (-1 : Int)).set s 0)
    obtain ⟨xs', h1, h2, h3⟩ := impl_l1 l s hn hr hg _ _ s [] hl hq (Nat.le_refl _) (by simp at hng ⊢; omega)
    refine ⟨xs', h1, h2, Ev.step (fun k => ?_) h3⟩
    simp only [impl_Relay.l0]
    rw [if_neg (by omega), if_pos (by omega), if_pos (by simp <;> omega), Int.toNat_natCast, Nat.sub_self, List.replicate_zero, List.append_nil]
    rfl
  | succ d ih =>
    intro i hd
    obtain ⟨xs', h1, h2, h3⟩ := ih (i + 1) (by omega)
    refine ⟨xs', h1, h2, Ev.step (fun k => ?_) h3⟩
    simp only [impl_Relay.l0]
    rw [if_pos (by omega), if_pos (by omega), if_pos (by simp <;> omega), Int.toNat_natCast, fill_step _ _ (by omega), wk (n := l.length) (by omega) (by omega)]
/-! ### The reference -/
theorem spec_l3 (d : Nat) (hd : d ≤ 100) (i : Nat) (hi : i < l.length) (e : Nat) : ∀ (j : Nat) (xs : List Int), j + e = (row l i).length → xs.length = l.length → Mid l.length (E l) s d i (fun v => ∃ m, m < j ∧ (row l i)[m]? = some (v : Int)) (oF xs) →
    ∃ xs', xs'.length = l.length ∧ Mid l.length (E l) s d (i + 1) (fun _ => False) (oF xs') ∧ ∀ r, Ev (fun k => spec_Relay.l2 k l xs' d ((i + 1 : Nat) : Int)) r → Ev (fun k => spec_Relay.l3 k l xs d i j) r := by
  have hA : (rd_T53 l (i : Int)).f2 = row l i := by rw [rdT]; rfl
  induction e with
  | zero =>
    intro j xs he hx hm
    refine ⟨xs, hx, hm.next fun _ v hv => ?_, fun r hr' => ?_⟩
    · obtain ⟨m, h1, h2⟩ := List.getElem_of_mem hv
      exact ⟨m, by omega, by rw [List.getElem?_eq_getElem h1, h2]⟩
    · refine Ev.step (f := fun k => spec_Relay.j5 k l xs d i j false) (fun k => ?_) (Ev.step (fun k => ?_) hr')
      · simp only [spec_Relay.l3]
        rw [if_pos (by omega), if_pos (by omega), hA, if_neg (by omega)]
      · simp only [spec_Relay.j5, Bool.false_eq_true, if_false]
        rw [wk (n := l.length) hi (by omega)]
  | succ e ih =>
    intro j xs he hx hm
    have hjl : j < (row l i).length := by omega
    obtain ⟨v, hv, hvn⟩ := entry l hn hr hg i hi j hjl
    have hEv : E l i v := by unfold E; rw [← hv]; exact List.getElem_mem hjl
    have more : ∀ o, Mid l.length (E l) s d i (fun u => (∃ m, m < j ∧ (row l i)[m]? = some (u : Int)) ∨ u = v) o → Mid l.length (E l) s d i (fun u => ∃ m, m < j + 1 ∧ (row l i)[m]? = some (u : Int)) o := fun o h => ⟨h.lab, h.top, h.full, h.done, fun h1 u hu => h.now h1 u (by
      obtain ⟨m, h2, h3⟩ := hu
      by_cases e : m = j
      · subst e
        rw [List.getElem?_eq_getElem hjl, hv] at h3
        have : v = u := by simp at h3; omega
        exact .inr this.symm
      · exact .inl ⟨m, by omega, h3⟩)⟩
    have hl3 : ∀ k, spec_Relay.l3 (k + 1) l xs d i j = spec_Relay.j5 k l xs d i j (oF xs i == (d : Int)) := fun k => by
      simp only [spec_Relay.l3]
      rw [if_pos (by omega), if_pos (by omega), hA, if_pos (by omega), if_pos (by omega), oF_at xs i (by omega)]
    by_cases hoi : oF xs i = d
    · have hb : (oF xs i == (d : Int)) = true := by simpa using hoi
      by_cases hneg : oF xs v < 0
      · have hset := oF_set xs v ((d : Int) + 1) (by omega)
        obtain ⟨xs', h1, h2, h3⟩ := ih (j + 1) (xs.set v ((d : Int) + 1)) (by omega) (by simpa using hx) (more _ (by rw [hset]; exact hm.mark (by omega) hoi hEv hneg hvn))
        refine ⟨xs', h1, h2, fun r hr' => Ev.step hl3 (Ev.step (fun k => ?_) (h3 r hr'))⟩
        rw [hb]
        simp only [spec_Relay.j5, if_true]
        rw [if_pos (by omega), if_pos (by omega), if_pos (by omega), hA, if_pos (by omega), rd_at _ j hjl, hv, if_pos (by omega), if_pos (by omega), oF_at xs v (by omega), if_pos hneg, Int.toNat_natCast, wk (n := (row l i).length) hjl (row_len l hn hr hg i)]
        have e1 : wrap64 ((d : Int) + 1) = (d : Int) + 1 := by unfold wrap64; omega
        rw [e1]
      · obtain ⟨xs', h1, h2, h3⟩ := ih (j + 1) xs (by omega) hx (more _ (hm.skip (by omega)))
        refine ⟨xs', h1, h2, fun r hr' => Ev.step hl3 (Ev.step (fun k => ?_) (h3 r hr'))⟩
        rw [hb]
        simp only [spec_Relay.j5, if_true]
        rw [if_pos (by omega), if_pos (by omega), if_pos (by omega), hA, if_pos (by omega), rd_at _ j hjl, hv, if_pos (by omega), if_pos (by omega), oF_at xs v (by omega), if_neg hneg, wk (n := (row l i).length) hjl (row_len l hn hr hg i)]
    · have hb : (oF xs i == (d : Int)) = false := by simpa using hoi
      refine ⟨xs, hx, hm.next fun h => (hoi h).elim, fun r hr' => Ev.step hl3 (Ev.step (fun k => ?_) hr')⟩
      rw [hb]
      simp only [spec_Relay.j5, Bool.false_eq_true, if_false]
      rw [wk (n := l.length) hi (by omega)]
theorem spec_l2 (d : Nat) (hd : d ≤ 100) (e : Nat) : ∀ (i : Nat) (xs : List Int), i + e = l.length → xs.length = l.length → Mid l.length (E l) s d i (fun _ => False) (oF xs) →
    ∃ xs', xs'.length = l.length ∧ Lev l.length (E l) s ((d + 1 : Nat) : Int) (oF xs') ∧ ∀ r, Ev (fun k => spec_Relay.l1 k l xs' ((d + 1 : Nat) : Int)) r → Ev (fun k => spec_Relay.l2 k l xs d i) r := by
  induction e with
  | zero =>
    intro i xs he hx hm
    obtain rfl : i = l.length := by omega
    refine ⟨xs, hx, by have := hm.stop (by omega); rw [show ((d + 1 : Nat) : Int) = (d : Int) + 1 by omega]; exact this, fun r hr' => Ev.step (fun k => ?_) hr'⟩
    simp only [spec_Relay.l2]
    rw [if_neg (by omega), wk (i := d) (n := 200) (by omega) (by omega)]
  | succ e ih =>
    intro i xs he hx hm
    obtain ⟨xs1, h1, h2, h3⟩ := spec_l3 l s hn hr hg d hd i (by omega) (row l i).length 0 xs (by omega) hx ⟨hm.lab, hm.top, hm.full, hm.done, fun _ v hv => by obtain ⟨m, h, _⟩ := hv; omega⟩
    obtain ⟨xs2, g1, g2, g3⟩ := ih (i + 1) xs1 (by omega) h1 h2
    refine ⟨xs2, g1, g2, fun r hr' => Ev.step (f := fun k => spec_Relay.l3 k l xs d i ((0 : Nat) : Int)) (fun k => ?_) (h3 r (g3 r hr'))⟩
    simp only [spec_Relay.l2]
    rw [if_pos (by omega)]
    rfl
theorem spec_l1 (e : Nat) : ∀ (d : Nat) (xs : List Int), d + e = l.length → xs.length = l.length → Lev l.length (E l) s d (oF xs) → ∃ xs', xs'.length = l.length ∧ Fin l.length (E l) s (oF xs') ∧ Ev (fun k => spec_Relay.l1 k l xs d) (xs', true) := by
  induction e with
  | zero =>
    intro d xs he hx hm
    refine ⟨xs, hx, hm.fin (by omega), Ev.ret fun k => ?_⟩
    simp only [spec_Relay.l1]
    rw [if_neg (by omega)]
  | succ e ih =>
    intro d xs he hx hm
    obtain ⟨xs1, h1, h2, h3⟩ := spec_l2 l s hn hr hg d (by omega) l.length 0 xs (by omega) hx hm.start
    obtain ⟨xs2, g1, g2, g3⟩ := ih (d + 1) xs1 (by omega) h1 h2
    refine ⟨xs2, g1, g2, Ev.step (f := fun k => spec_Relay.l2 k l xs d ((0 : Nat) : Int)) (fun k => ?_) (h3 _ g3)⟩
    simp only [spec_Relay.l1]
    rw [if_pos (by omega)]
    rfl
theorem spec_l0 (hs : s < l.length) (d : Nat) : ∀ i : Nat, i + d = l.length → ∃ xs', xs'.length = l.length ∧ Fin l.length (E l) s (oF xs') ∧ Ev (fun k => spec_Relay.l0 k l s (List.replicate i (-1) ++ List.replicate (l.length - i) 0) i) (xs', true) := by
  induction d with
  | zero =>
    intro i hd
    obtain rfl : i = l.length := by omega
    have hq : Lev l.length (E l) s ((0 : Nat) : Int) (oF ((List.replicate l.length (-1 : Int)).set s 0)) := by rw [list_start l s hn hr hg hs]; exact start_lev hs
    obtain ⟨xs', h1, h2, h3⟩ := spec_l1 l s hn hr hg l.length 0 _ (by omega) (by simp) hq
    refine ⟨xs', h1, h2, Ev.step (fun k => ?_) h3⟩
    simp only [spec_Relay.l0]
    rw [if_neg (by simp), if_pos (by omega), if_pos (by simp <;> omega), Int.toNat_natCast, Nat.sub_self, List.replicate_zero, List.append_nil]
    rfl
  | succ d ih =>
    intro i hd
    obtain ⟨xs', h1, h2, h3⟩ := ih (i + 1) (by omega)
    refine ⟨xs', h1, h2, Ev.step (fun k => ?_) h3⟩
    simp only [spec_Relay.l0]
    rw [if_pos (by simp <;> omega), if_pos (by omega), Int.toNat_natCast, fill_step _ _ (by omega), wk (n := l.length) (by omega) (by omega)]
theorem main_both (hs : s < l.length) : ∃ xs, xs.length = l.length ∧ Ev (fun k => spec_Relay.j0 k l s false) (xs, true) ∧ Ev (fun k => impl_Relay.j0 k l s false) (xs, true) := by
  obtain ⟨xs, h1, h2, h3⟩ := spec_l0 l s hn hr hg hs l.length 0 (by omega)
  obtain ⟨ys, g1, g2, g3⟩ := impl_l0 l s hn hr hg hs l.length 0 (by omega)
  have e : xs = ys := by
    refine List.ext_getElem (by omega) fun i hi1 hi2 => ?_
    have := h2.unique g2 i
    simpa [oF, hi1, hi2] using this
  subst e
  refine ⟨xs, h1, Ev.step (fun k => ?_) h3, Ev.step (fun k => ?_) g3⟩
  · simp only [spec_Relay.j0, Bool.false_eq_true, if_false]
    rw [if_pos (by omega), if_pos (by rw [Int.toNat_natCast]; omega), Int.toNat_natCast]
    simp
  · simp only [impl_Relay.j0, Bool.false_eq_true, if_false]
    rw [if_pos (by omega), if_pos (by rw [Int.toNat_natCast]; omega), Int.toNat_natCast]
    simp only [Option.bind_some, List.length_replicate]
    simp
end
theorem relay_both (l : List IR) (m : Int) (hn : l.length ≤ 9223372036854775807) (hr : ∀ x ∈ l, x.f2.length ≤ 9223372036854775807) : ∃ xs b, xs.length ≤ 24 ∧ Ev (fun k => spec_Relay.f k l m) (xs, b) ∧ Ev (fun k => impl_Relay.f k l m) (xs, b) := by
  obtain ⟨r, h1, h2⟩ := radios_both l hn hr
  have stop : Ev (fun k => spec_Relay.j0 k l m true) ([], false) ∧ Ev (fun k => impl_Relay.j0 k l m true) ([], false) :=
    ⟨Ev.ret fun k => by simp only [spec_Relay.j0, if_true], Ev.ret fun k => by simp only [impl_Relay.j0, if_true]⟩
  cases r with
  | false =>
    refine ⟨[], false, by simp, ?_, ?_⟩
    · unfold spec_Relay.f
      exact Ev.bind h1 (Ev.congr (fun k => if_neg (by simp)) stop.1)
    · unfold impl_Relay.f
      exact Ev.bind h2 (Ev.congr (fun k => if_neg (by simp)) stop.2)
  | true =>
    obtain ⟨k, hk⟩ := h1.rounds
    obtain ⟨⟨ha, hb⟩, hg⟩ := good_of l hr k hk
    have hw : wrap64 ((l.length : Int) - 1) = (l.length : Int) - 1 := by unfold wrap64; omega
    by_cases hm : 0 ≤ m ∧ m ≤ (l.length : Int) - 1
    · obtain ⟨s, rfl⟩ : ∃ s : Nat, m = (s : Int) := ⟨m.toNat, by omega⟩
      obtain ⟨xs, h3, h4, h5⟩ := main_both l s hb hr hg (by omega)
      refine ⟨xs, true, by omega, ?_, ?_⟩
      · unfold spec_Relay.f
        refine Ev.bind h1 (Ev.congr (fun k => ?_) h4)
        rw [if_pos rfl, in_spec, hw, decide_eq_true hm]
        rfl
      · unfold impl_Relay.f
        refine Ev.bind h2 (Ev.congr (fun k => ?_) h5)
        rw [if_pos rfl, in_impl, hw, decide_eq_true hm]
        rfl
    · refine ⟨[], false, by simp, ?_, ?_⟩
      · unfold spec_Relay.f
        refine Ev.bind h1 (Ev.congr (fun k => ?_) stop.1)
        rw [if_pos rfl, in_spec, hw, decide_eq_false hm]
        rfl
      · unfold impl_Relay.f
        refine Ev.bind h2 (Ev.congr (fun k => ?_) stop.2)
        rw [if_pos rfl, in_impl, hw, decide_eq_false hm]
        rfl
end Go.Proofs.Ytbjpdelammffpaa.Rl
/- Plain: equality, marks of whole numbers. -/
namespace Go.Proofs.Ytbjpdelammffpaa.Mp
open Go.RowKit Go.Proofs.Ytbjpdelammffpaa.PR1 Go.Proofs.YtbjpdelammffpaaW.PrintWords Go.Proofs.Ytbjpdelammffpaa.Mk
set_option linter.unusedVariables false
set_option linter.unusedSimpArgs false
theorem Ev.ret {α : Type} {g : Nat → Option α} {r : α} (h : ∀ k, g (k + 1) = some r) : Ev g r := ⟨1, fun k hk => by obtain ⟨m, rfl⟩ : ∃ m, k = m + 1 := ⟨k - 1, by omega⟩; exact h m⟩
theorem Ev.const {α : Type} {g : Nat → Option α} {r : α} (h : ∀ k, g k = some r) : Ev g r := ⟨0, fun k _ => h k⟩
theorem wk {i n : Nat} (h : i < n) (hn : n ≤ 9223372036854775807) : wrap64 ((i : Int) + 1) = ((i + 1 : Nat) : Int) := by
  unfold wrap64
  omega
theorem w64 (x : Int) (h0 : -9223372036854775808 ≤ x) (h1 : x < 9223372036854775808) : wrap64 x = x := by
  unfold wrap64
  omega
theorem rdi (l : List Int) (i : Nat) (h : i < l.length) : rd l (i : Int) = l[i] := by simp [rd, h]
theorem eqI_loop (l : List Int) (hn : l.length ≤ 9223372036854775807) (d : Nat) : ∀ (i : Nat), i + d = l.length → Ev (fun k => laws_eqIntS.l0 k l l i) true := by
  induction d with
  | zero =>
    intro i hd
    refine Ev.ret fun k => ?_
    simp only [laws_eqIntS.l0]
    rw [if_neg (by omega)]
  | succ d ih =>
    intro i hd
    refine Ev.step (f := fun k => laws_eqIntS.l0 k l l ((i + 1 : Nat) : Int)) (fun k => ?_) (ih (i + 1) (by omega))
    simp only [laws_eqIntS.l0]
    rw [if_pos (by omega), if_pos (by omega), if_pos (by omega), if_pos trivial, wk (n := l.length) (by omega) hn]
theorem eqI (l : List Int) (hn : l.length ≤ 9223372036854775807) : Ev (fun k => laws_eqIntS.f k l l) true := by
  refine Ev.congr (f := fun k => laws_eqIntS.l0 k l l ((0 : Nat) : Int)) (fun k => ?_) (eqI_loop l hn l.length 0 (by omega))
  unfold laws_eqIntS.f
  rw [if_pos rfl]
  rfl
def numbered : Nat → Int → List Int
  | 0, _ => []
  | n + 1, a => a :: numbered n (a + 1)
theorem numbered_len (n : Nat) : ∀ a, (numbered n a).length = n := by
  induction n with
  | zero => intro a; rfl
  | succ n ih => intro a; simp [numbered, ih]
theorem markI_loop (d : Nat) : ∀ (i : Nat) (dn xs : List Int) (a : Int), dn.length = i → xs.length = d → i + d ≤ 2000000 → 0 ≤ a → a + d ≤ 100000000 → Ev (fun k => laws_markIntS.l0 k (dn ++ xs) a i) (a + d, dn ++ numbered d a) := by
  induction d with
  | zero =>
    intro i dn xs a hl hx hb h0 h1
    obtain rfl : xs = [] := List.length_eq_zero_iff.1 hx
    refine Ev.ret fun k => ?_
    simp only [laws_markIntS.l0]
    rw [if_neg (by simp; omega)]
    simp [numbered]
  | succ d ih =>
    intro i dn xs a hl hx hb h0 h1
    cases xs with
    | nil => simp at hx
    | cons x xs =>
      have e : (dn ++ x :: xs).set i a = (dn ++ [a]) ++ xs := by subst hl; simp
      have h := ih (i + 1) (dn ++ [a]) xs (a + 1) (by simp [hl]) (by simpa using hx) (by omega) (by omega) (by omega)
      refine Ev.step (f := fun k => laws_markIntS.l0 k ((dn ++ [a]) ++ xs) (a + 1) ((i + 1 : Nat) : Int)) (fun k => ?_) ?_
      · simp only [laws_markIntS.l0]
        rw [if_pos (by simp; omega), if_pos (by omega), Int.toNat_natCast, e, w64 (a + 1) (by omega) (by omega), wk (n := 2000000) (by omega) (by omega)]
      · rw [show ((a + ((d + 1 : Nat) : Int), dn ++ numbered (d + 1) a) : Int × List Int) = (a + 1 + (d : Int), (dn ++ [a]) ++ numbered d (a + 1)) by simp [numbered]; omega]
        exact h
theorem markI (x : List Int) (a : Int) (hx : x.length ≤ 2000000) (h0 : 0 ≤ a) (h1 : a + x.length ≤ 100000000) : Ev (fun k => laws_markIntS.f k x a) (a + x.length, numbered x.length a) := markI_loop x.length 0 [] x a rfl rfl (by omega) h0 h1
theorem numbered_get (n : Nat) : ∀ (a : Int) (i : Nat) (h : i < (numbered n a).length), (numbered n a)[i] = a + i := by
  induction n with
  | zero => intro a i h; simp [numbered] at h
  | succ n ih =>
    intro a i h
    cases i with
    | zero => simp [numbered]
    | succ i =>
      simp only [numbered, List.getElem_cons_succ]
      rw [ih]
      omega
theorem heldI_loop (n : Nat) (b : Int) (hn : n ≤ 2000000) (hb0 : 0 ≤ b) (hb1 : b + n ≤ 100000000) (d : Nat) : ∀ (i : Nat), i + d = n → Ev (fun k => laws_heldIntS.l0 k (numbered n b) (b + i) i) (b + n) := by
  induction d with
  | zero =>
    intro i hd
    refine Ev.ret fun k => ?_
    simp only [laws_heldIntS.l0]
    rw [if_neg (by rw [numbered_len]; omega), show i = n by omega]
  | succ d ih =>
    intro i hd
    refine Ev.step (f := fun k => laws_heldIntS.l0 k (numbered n b) (b + ((i + 1 : Nat) : Int)) ((i + 1 : Nat) : Int)) (fun k => ?_) (ih (i + 1) (by omega))
    simp only [laws_heldIntS.l0]
    rw [if_pos (by rw [numbered_len]; omega), if_pos (by omega), rdi _ i (by rw [numbered_len]; omega), numbered_get, if_pos rfl, w64 _ (by omega) (by omega), wk (n := n) (by omega) (by omega)]
    rw [show b + (i : Int) + 1 = b + ((i + 1 : Nat) : Int) by omega]
theorem heldI (n : Nat) (b : Int) (hn : n ≤ 2000000) (hb0 : 0 ≤ b) (hb1 : b + n ≤ 100000000) : Ev (fun k => laws_heldIntS.f k (numbered n b) b) (b + n) := by
  refine Ev.congr (f := fun k => laws_heldIntS.l0 k (numbered n b) (b + ((0 : Nat) : Int)) ((0 : Nat) : Int)) (fun k => ?_) (heldI_loop n b hn hb0 hb1 n 0 (by omega))
  unfold laws_heldIntS.f
  simp
def total : List (List Int) → Nat
  | [] => 0
  | x :: xs => x.length + total xs
def nums : List (List Int) → Int → List (List Int)
  | [], _ => []
  | x :: xs, a => numbered x.length a :: nums xs (a + x.length)
theorem nums_len (l : List (List Int)) : ∀ a, (nums l a).length = l.length := by
  induction l with
  | nil => intro a; rfl
  | cons x xs ih => intro a; simp [nums, ih]
theorem markSS (l : List (List Int)) : ∀ (a : Int), total l ≤ 2000000 → 0 ≤ a → a + total l ≤ 100000000 → Ev (fun k => mSS (laws_markIntS.f k) l a) (a + total l, nums l a) := by
  induction l with
  | nil => intro a _ _ _; exact Ev.const fun k => by simp [mSS, total, nums]
  | cons x xs ih =>
    intro a h h0 h1
    simp only [total] at h h1
    have hx := markI x a (by omega) h0 (by omega)
    have hr := ih (a + x.length) (by omega) (by omega) (by omega)
    simp only [mSS]
    refine Ev.bind hx (Ev.bind hr (Ev.const fun k => ?_))
    simp only [total, nums]
    congr 2
    omega
end Go.Proofs.Ytbjpdelammffpaa.Mp
/- The law of Relay, for all arguments. -/
namespace Go.Proofs.Ytbjpdelammffpaa.Lw
open Go Go.RowKit Go.Proofs.YtbjpdelammffpaaW.PrintWords Go.Proofs.YtbjpdelammffpaaW.PrintLast Go.Proofs.YtbjpdelammffpaaW.PrintMore Go.Proofs.Ytbjpdelammffpaa.PR1 Go.Proofs.Ytbjpdelammffpaa.Mk
set_option linter.unusedVariables false
set_option maxHeartbeats 8000000 in
theorem early (k : Nat) (A0 : Option Addr) (c0 : Nat) (l0 : List S50) (m left : Int) (w : World) (hr : Kd.C k50 w A0 l0.length l0) (hc : l0.length ≤ c0) (h1 : laws_szRadioS.f k l0 1048576 = some left) (hl : left < 0) :
    Calls Try.prog 4 #[.slice A0 l0.length c0, .int .i64 m] w fun e w' => e = .returned (.bool true) ∧ Below w.heap.size w w' := by
  have ct := laws_szRadioS.calls k A0 c0 l0 1048576 left w hr hc h1
  clear hr hc h1
  have t1 : decide (left < 0) = true := decide_eq_true hl
  clear hl
  go_enter Try.func4, Try.ntmps4
  go_wp2_with fail
  refine ct.mono ?_
  rintro e w1 ⟨rfl, hb⟩
  have HB := Aside0.mk hb
  clear ct hb
  go_wp2
  go_ret
  exact ⟨rfl, HB.out⟩
/-- What the numbers come to. -/
def tS : List SR → Nat
  | [] => 0
  | x :: xs => 2 + x.f2.length + tS xs
def nS : List SR → Int → List SR
  | [], _ => []
  | x :: xs, a => ⟨a, a + 1, Mp.numbered x.f2.length (a + 2)⟩ :: nS xs (a + 2 + x.f2.length)
theorem markRS (l : List SR) : ∀ (a : Int), tS l ≤ 4000000 → (∀ x ∈ l, x.f2.length ≤ 1048576) → 0 ≤ a → a + tS l ≤ 100000000 → Ev (fun k => mRS (laws_markIntS.f k) l a) (a + tS l, nS l a) := by
  induction l with
  | nil => intro a _ _ _ _; exact Mp.Ev.const fun k => by simp [mRS, tS, nS]
  | cons x xs ih =>
    intro a h hx h0 h1
    simp only [tS] at h h1
    have hx0 := hx x List.mem_cons_self
    have hm := Mp.markI x.f2 (a + 2) (by omega) (by omega) (by omega)
    have hr := ih (a + 2 + x.f2.length) (by omega) (fun y hy => hx y (List.mem_cons_of_mem _ hy)) (by omega) (by omega)
    simp only [mRS]
    refine Ev.bind hm (Ev.bind hr (Mp.Ev.const fun k => ?_))
    simp only [tS, nS]
    congr 2
    omega
theorem okRS_all (k : Nat) (l : List SR) : ∀ (a : Int) (L : List SR) (r : Int), tS l ≤ 4000000 → (∀ x ∈ l, x.f2.length ≤ 1048576) → 0 ≤ a → a + tS l ≤ 100000000 → mRS (laws_markIntS.f k) l a = some (r, L) → (∀ (x : List Int) (a r : Int) (x' : List Int), 0 ≤ a → a + x.length ≤ 100000000 → x.length ≤ 1048576 → laws_markIntS.f k x a = some (r, x') → r = a + x.length) → okRS (laws_markIntS.f k) l a := by
  induction l with
  | nil => intro a L r _ _ _ _ _ _; exact trivial
  | cons x xs ih =>
    intro a L r h hx h0 h1 hm hk
    simp only [tS] at h h1
    have hx0 := hx x List.mem_cons_self
    simp only [mRS] at hm
    obtain ⟨p, e0, hm⟩ := Option.bind_eq_some_iff.mp hm
    obtain ⟨q, e1, hm⟩ := Option.bind_eq_some_iff.mp hm
    refine ⟨⟨h0, by omega⟩, fun p' hp' => ?_⟩
    obtain rfl : p = p' := Option.some.inj (e0.symm.trans hp')
    have e2 := hk x.f2 (a + 2) p.1 p.2 (by omega) (by omega) hx0 e0
    rw [e2] at e1 ⊢
    exact ih _ _ _ (by omega) (fun y hy => hx y (List.mem_cons_of_mem _ hy)) (by omega) (by omega) e1 hk
theorem mark_up (k : Nat) (x : List Int) (a : Int) (r : Int × List Int) (h : laws_markIntS.f k x a = some r) (d : Nat) : laws_markIntS.f (k + d) x a = some r := by
  induction d with
  | zero => exact h
  | succ d ih => exact laws_markIntS.mono x a (k + d) r ih
theorem mark_val (k : Nat) (x : List Int) (a r : Int) (x' : List Int) (h0 : 0 ≤ a) (h1 : a + x.length ≤ 100000000) (hx : x.length ≤ 1048576) (h : laws_markIntS.f k x a = some (r, x')) : r = a + x.length := by
  obtain ⟨K, hK⟩ := Mp.markI x a (by omega) h0 h1
  have e1 := hK (k + K) (by omega)
  have e2 := mark_up k x a _ h K
  simp only at e1
  rw [e1] at e2
  injection e2 with e2
  exact (congrArg Prod.fst e2).symm
theorem tS_eq (l : List S50) : tS (l.map Rd.cvR) = 2 * l.length + Rd.tot l := by
  induction l with
  | nil => rfl
  | cons x xs ih => simp only [List.map_cons, tS, ih, List.length_cons, Rd.tot, List.sum_cons]; simp only [Rd.cvR]; omega
theorem relayRow (A0 : Option Addr) (c0 : Nat) (l0 : List S50) (m : Int) (w : World) (hc : l0.length ≤ c0) (hr : Kd.C k50 w A0 l0.length l0) {P Q : Prop} (_ : P) (_ : Q) :
    Calls Try.prog 4 #[.slice A0 l0.length c0, .int .i64 m] w fun e w' => e = .returned (.bool true) ∧ Below w.heap.size w w' := by
  have hn : l0.length ≤ 9223372036854775807 := hr.2.1
  have hx := Rd.radio_le hr
  obtain ⟨K1, E1⟩ := Rd.szR l0 hn hx
  by_cases hl : Rd.sizeR l0 ≤ 1048576
  · have e : Rd.szOf (Rd.sizeR l0) 1048576 = 1048576 - (Rd.sizeR l0 : Int) := by unfold Rd.szOf; rw [if_pos (by omega)]
    have l1 : l0.length ≤ 1048576 := by unfold Rd.sizeR at hl; omega
    have l2 : ∀ x ∈ l0, x.f2.length ≤ 1048576 := fun x hx => by have := Rd.tot_le l0 x hx; unfold Rd.sizeR at hl; omega
    have l3 : (l0.map Rd.cvR).length ≤ 9223372036854775807 := by rw [List.length_map]; omega
    have l5 : ∀ x ∈ l0.map Rd.cvR, x.f2.length ≤ 1048576 := by
      intro x hx
      obtain ⟨y, hy, rfl⟩ := List.mem_map.1 hx
      exact l2 y hy
    have l4 : ∀ x ∈ l0.map Rd.cvR, x.f2.length ≤ 9223372036854775807 := fun x hx => by have := l5 x hx; omega
    have ht : tS (l0.map Rd.cvR) ≤ 3000000 := by rw [tS_eq]; unfold Rd.sizeR at hl; omega
    obtain ⟨R, b, hR, ⟨K3, E3⟩, ⟨K4, E4⟩⟩ := Rl.relay_both (l0.map Rd.cvR) m l3 l4
    obtain ⟨K2, E2⟩ := Rd.toR l0 l1 l2
    obtain ⟨K5, E5⟩ := Mp.eqI R (by omega)
    obtain ⟨K6, E6⟩ := Rd.eqR _ l3 l4
    obtain ⟨K7, E7⟩ := markRS (l0.map Rd.cvR) 1 (by omega) l5 (by omega) (by omega)
    obtain ⟨K9, E9⟩ := Mp.markI R 1 (by omega) (by omega) (by omega)
    obtain ⟨K10, E10⟩ := Mp.heldI R.length 1 (by omega) (by omega) (by omega)
    have e7 := E7 (K1 + K2 + K3 + K4 + K5 + K6 + K7 + K9 + K10) (by omega)
    exact law_Relay (K1 + K2 + K3 + K4 + K5 + K6 + K7 + K9 + K10) A0 c0 l0 m _ _ R b _ _ _ _ w hr hc ((E1 _ (by omega)).trans (congrArg some e)) (by omega) (E2 _ (by omega)) (E3 _ (by omega)) (E4 _ (by omega)) (E5 _ (by omega)) (E6 _ (by omega)) e7 (okRS_all _ _ 1 _ _ (by omega) l5 (by omega) (by omega) e7 fun x a r x' h0 h1 hx h => mark_val _ x a r x' h0 h1 hx h) (by omega) (E9 _ (by omega)) (E10 _ (by omega)) (by omega)
  · have e : Rd.szOf (Rd.sizeR l0) 1048576 = -1 := by unfold Rd.szOf; rw [if_neg (by omega)]
    exact early K1 A0 c0 l0 m _ w hr hc ((E1 _ (by omega)).trans (congrArg some e)) (by omega)
end Go.Proofs.Ytbjpdelammffpaa.Lw
/- Arguments that came in, read as plain data of the print's kinds: a struct by its fields, a slice by its elements. -/
namespace Go.Proofs.Ytbjpdelammffpaa.Op
open Go.ChangeShapes Go.WideShapes Go.Deep Go.Proofs.YtbjpdelammffpaaW.PrintWords

/-- Whatever the data's reader takes of type t is a value of the kind d, and Q holds of it. -/
def Opens {α : Type} (P : Program) (d : Kd α) (t : TypeId) (Q : α → Prop) : Prop :=
  ∀ (H : Type) (enc : TypeId × Value → H) (w : World) (base : Nat) (spare : Nat → Bool) (held : Bool) (fuel : Nat) (cs : List Value) (x : DataW H × List MemPlace),
    DataW.trod enc P w base spare held fuel t cs = some x → ∃ a : α, d.K w a cs ∧ Q a

theorem opens_int {P : Program} {t : TypeId} {k : IntKind} (ht : P.underlying t = some (.int k)) : Opens P (Kd.int k) t (fun n => (Lit.int k n).wf = true) := by
  intro H enc w base spare held fuel cs x h
  cases fuel with
  | zero => simp [DataW.trod] at h
  | succ n =>
    simp only [DataW.trod, ht] at h
    split at h <;> simp_all
    exact ⟨_, rfl, h.1.2⟩

theorem opens_bool {P : Program} {t : TypeId} (ht : P.underlying t = some .bool) : Opens P Kd.bool t (fun _ => True) := by
  intro H enc w base spare held fuel cs x h
  cases fuel with
  | zero => simp [DataW.trod] at h
  | succ n =>
    simp only [DataW.trod, ht] at h
    split at h <;> first | (simp_all; done) | exact ⟨_, rfl, trivial⟩

theorem fmt_one (k : FloatKind) (x : Nat) : (Value.float k x).oneCell' = true := rfl
/-- Floats, by their bits. -/
def kfloat (k : FloatKind) : Kd Nat := Kd.scalar (Value.float k) (fmt_one k)
theorem opens_float {P : Program} {t : TypeId} {k : FloatKind} (ht : P.underlying t = some (.float k)) : Opens P (kfloat k) t (fun n => (Lit.float k n).wf = true) := by
  intro H enc w base spare held fuel cs x h
  cases fuel with
  | zero => simp [DataW.trod] at h
  | succ n =>
    simp only [DataW.trod, ht] at h
    split at h <;> simp_all
    exact ⟨_, rfl, h.1.2⟩

theorem opens_slice {P : Program} {α : Type} {d : Kd α} {t e : TypeId} {Q : α → Prop} (ht : P.underlying t = some (.slice e)) (hc : P.cellsOf e = d.sz) (hd : Opens P d e Q) :
    Opens P (Kd.slice e d) t (fun xs => xs.length ≤ maxLen ∧ ∀ x ∈ xs, Q x) := by
  intro H enc w base spare held fuel cs x h
  rcases open_slice ht h with ⟨rfl, _⟩ | ⟨a, len, cap, m, n, D, Pl, rfl, hb, hl, hm, hmm, rfl, hx⟩
  · exact ⟨[], ⟨none, 0, rfl, Nat.le_refl _, Kd.C_nil _ _⟩, Nat.zero_le _, fun x hx => by cases hx⟩
  · have hle : len ≤ m := by rw [hmm]; split <;> omega
    have key : ∀ i, i < len → ∃ z : α, Q z ∧ ∃ c, c.length = d.sz ∧ d.K w z c ∧ ∀ j u, c[j]? = some u → w.cell? (a.add (i * d.sz + j)) = some u := by
      intro i hi
      obtain ⟨cs', h1, h2⟩ := hx i (by omega)
      obtain ⟨z, hz, hq⟩ := hd H enc w base spare held n cs' _ h2
      refine ⟨z, hq, cs', d.K_len hz, hz, fun j u hj => ?_⟩
      rw [hc] at h1
      have hlt : j < d.sz := by
        have := (List.getElem?_eq_some_iff.1 hj).1
        have := (World.cells?_some h1).2.1
        omega
      have := (World.cells?_some h1).2.2 j hlt
      rw [Deep.add_add, hj] at this
      exact this
    have hex : ∃ xs : List α, xs.length = len ∧ ∀ i z, xs[i]? = some z → Q z ∧ ∃ c, c.length = d.sz ∧ d.K w z c ∧ ∀ j u, c[j]? = some u → w.cell? (a.add (i * d.sz + j)) = some u := by
      clear hx h hmm
      revert key
      generalize len = L
      intro key
      induction L with
      | zero => exact ⟨[], rfl, fun i z hz => by simp at hz⟩
      | succ L ih =>
        obtain ⟨xs, hlen, hxs⟩ := ih (fun i hi => key i (by omega))
        obtain ⟨z, hz⟩ := key L (by omega)
        refine ⟨xs ++ [z], by simp [hlen], fun i y hy => ?_⟩
        by_cases hi : i < xs.length
        · rw [List.getElem?_append_left hi] at hy
          exact hxs i y hy
        · have hlt : i < (xs ++ [z]).length := (List.getElem?_eq_some_iff.1 hy).1
          simp at hlt
          obtain rfl : i = L := by omega
          rw [List.getElem?_append_right (by omega), hlen, Nat.sub_self] at hy
          cases hy
          exact hz
    obtain ⟨xs, hlen, hxs⟩ := hex
    refine ⟨xs, ⟨some a, cap, by rw [hlen], by omega, ⟨rfl, ?_, fun _ => ⟨a, rfl, fun j p hj => (hxs j p hj).2⟩⟩⟩, by omega, fun z hz => ?_⟩
    · have : maxLen = 9223372036854775807 := rfl
      omega
    · obtain ⟨i, hi⟩ := List.getElem?_of_mem hz
      exact (hxs i z hi).1

/-- The fields from offset 'off' on, as a kind. -/
def Fields {α : Type} (P : Program) (d : Kd α) (fs : List Field) (off : Nat) (Q : α → Prop) : Prop :=
  ∀ (H : Type) (enc : TypeId × Value → H) (w : World) (base : Nat) (spare : Nat → Bool) (held : Bool) (fuel : Nat) (cs : List Value) (xs : List (DataW H × List MemPlace)),
    fs.mapM (fun f => DataW.trod enc P w base spare held fuel f.type ((cs.drop f.offset).take (P.cellsOf f.type))) = some xs → off + d.sz ≤ cs.length → ∃ a : α, d.K w a ((cs.drop off).take d.sz) ∧ Q a

theorem fields_one {P : Program} {α : Type} {d : Kd α} {f : Field} {off : Nat} {Q : α → Prop} (ho : f.offset = off) (hc : P.cellsOf f.type = d.sz) (hd : Opens P d f.type Q) : Fields P d [f] off Q := by
  intro H enc w base spare held fuel cs xs h hl
  simp only [List.mapM_cons, List.mapM_nil, Option.bind_eq_bind, Option.pure_def] at h
  obtain ⟨y, hy, _⟩ := Option.bind_eq_some_iff.1 h
  rw [hc, ho] at hy
  exact hd H enc w base spare held fuel _ _ hy

theorem fields_cons {P : Program} {α β : Type} {d : Kd α} {d' : Kd β} {f : Field} {fs : List Field} {off : Nat} {Q : α → Prop} {Q' : β → Prop} (ho : f.offset = off) (hc : P.cellsOf f.type = d.sz)
    (hd : Opens P d f.type Q) (hr : Fields P d' fs (off + d.sz) Q') : Fields P (Kd.pair d d') (f :: fs) off (fun x => Q x.1 ∧ Q' x.2) := by
  intro H enc w base spare held fuel cs xs h hl
  have hsz : (Kd.pair d d').sz = d.sz + d'.sz := rfl
  rw [hsz] at hl
  simp only [List.mapM_cons, Option.bind_eq_bind, Option.pure_def] at h
  obtain ⟨y, hy, h⟩ := Option.bind_eq_some_iff.1 h
  obtain ⟨ys, hys, _⟩ := Option.bind_eq_some_iff.1 h
  rw [hc, ho] at hy
  obtain ⟨a, ha, hqa⟩ := hd H enc w base spare held fuel _ _ hy
  obtain ⟨b, hb, hqb⟩ := hr H enc w base spare held fuel cs ys hys (by omega)
  refine ⟨(a, b), ⟨(cs.drop off).take d.sz, (cs.drop (off + d.sz)).take d'.sz, ?_, ha, hb⟩, hqa, hqb⟩
  rw [hsz, List.take_add, List.drop_drop]

theorem opens_struct {P : Program} {α β : Type} {d : Kd α} {t : TypeId} {fs : Array Field} {Q : α → Prop} (f : β → α) (g : α → β) (hfg : ∀ a, f (g a) = a) (ht : P.underlying t = some (.struct fs)) (hc : P.cellsOf t = d.sz)
    (hr : Fields P d fs.toList 0 Q) : Opens P (Kd.iso d f) t (fun b => Q (f b)) := by
  intro H enc w base spare held fuel cs x h
  cases fuel with
  | zero => simp [DataW.trod] at h
  | succ n =>
    have hh : (if cs.length = P.cellsOf t then (fs.toList.mapM fun f => DataW.trod enc P w base spare held n f.type ((cs.drop f.offset).take (P.cellsOf f.type))).map fun xs => (DataW.agg (xs.map (·.1)), xs.flatMap (·.2)) else none) = some x := by
      rw [← h]
      simp only [DataW.trod, ht]
    split at hh
    · rename_i hlen
      obtain ⟨xs, hxs, _⟩ := Option.map_eq_some_iff.1 hh
      obtain ⟨a, ha, hq⟩ := hr H enc w base spare held n cs xs hxs (by omega)
      refine ⟨g a, ?_, by show Q (f (g a)); rw [hfg]; exact hq⟩
      show d.K w (f (g a)) cs
      rw [hfg]
      rw [List.drop_zero, List.take_of_length_le (by omega)] at ha
      exact ha
    · cases hh

/-! ### Of a whole argument -/
theorem arg_int {P : Program} {t : TypeId} {k : IntKind} {H : Type} {enc : TypeId × Value → H} {w : World} {r : Reach} {b0 base : Nat} {spare : Nat → Bool} {held : Bool} {v : Value} {x : DataW H} {ps : List MemPlace}
    (ht : P.underlying t = some (.int k)) (hv : Value.okWide P w r b0 t v) (h : DataW.Trod enc P w base spare held t v x ps) : ∃ n : Int, v = .int k n ∧ (Lit.int k n).wf = true := by
  obtain ⟨n, rfl, _, _, wn⟩ := open_int ht hv h
  exact ⟨n, rfl, wn⟩
theorem arg_bool {P : Program} {t : TypeId} {H : Type} {enc : TypeId × Value → H} {w : World} {r : Reach} {b0 base : Nat} {spare : Nat → Bool} {held : Bool} {v : Value} {x : DataW H} {ps : List MemPlace}
    (ht : P.underlying t = some .bool) (hv : Value.okWide P w r b0 t v) (h : DataW.Trod enc P w base spare held t v x ps) : ∃ b : Bool, v = .bool b := by
  obtain ⟨b, rfl, _, _⟩ := RowKit.open_bool ht hv h
  exact ⟨b, rfl⟩
theorem arg_float {P : Program} {t : TypeId} {k : FloatKind} {H : Type} {enc : TypeId × Value → H} {w : World} {r : Reach} {b0 base : Nat} {spare : Nat → Bool} {held : Bool} {v : Value} {x : DataW H} {ps : List MemPlace}
    (ht : P.underlying t = some (.float k)) (hv : Value.okWide P w r b0 t v) (h : DataW.Trod enc P w base spare held t v x ps) : ∃ n : Nat, v = .float k n ∧ (Lit.float k n).wf = true := by
  obtain ⟨n, rfl, _, _, wn⟩ := open_float ht hv h
  exact ⟨n, rfl, wn⟩
theorem arr_eq {cs : Array Value} {l : List Value} (h : cs.toList = l) : cs = l.toArray := by rw [← h]
/-- A struct by value. -/
theorem arg_struct {P : Program} {α : Type} {d : Kd α} {t : TypeId} {fs : Array Field} {Q : α → Prop} {H : Type} {enc : TypeId × Value → H} {w : World} {r : Reach} {b0 base : Nat} {spare : Nat → Bool} {held : Bool} {v : Value} {x : DataW H} {ps : List MemPlace}
    (ht : P.underlying t = some (.struct fs)) (hd : Opens P d t Q) (hv : Value.okWide P w r b0 t v) (h : DataW.Trod enc P w base spare held t v x ps) : ∃ (a : α) (cs : Array Value), v = .agg cs ∧ d.K w a cs.toList ∧ Q a := by
  obtain ⟨cs, rfl, _⟩ := okWide_struct ht hv
  obtain ⟨fuel, hf⟩ := h
  obtain ⟨a, ha, hq⟩ := hd H enc w base spare held fuel _ _ hf
  exact ⟨a, cs, rfl, ha, hq⟩

/-- A slice. -/
theorem arg_slice {P : Program} {α : Type} {d : Kd α} {t e : TypeId} {Q : α → Prop} {H : Type} {enc : TypeId × Value → H} {w : World} {r : Reach} {b0 base : Nat} {spare : Nat → Bool} {held : Bool} {v : Value} {x : DataW H} {ps : List MemPlace}
    (ht : P.underlying t = some (.slice e)) (hc : P.cellsOf e = d.sz) (hd : Opens P d e Q) (hv : Value.okWide P w r b0 t v) (h : DataW.Trod enc P w base spare held t v x ps) :
    ∃ (xs : List α) (A : Option Addr) (c : Nat), v = .slice A xs.length c ∧ xs.length ≤ c ∧ d.C w A xs.length xs ∧ xs.length ≤ maxLen ∧ ∀ z ∈ xs, Q z := by
  obtain ⟨a0, len, cap, rfl⟩ := okWide_slice ht hv
  obtain ⟨fuel, hf⟩ := h
  obtain ⟨xs, ⟨A, c, hA, hl, hC⟩, hm, hq⟩ := opens_slice ht hc hd H enc w base spare held fuel _ _ hf
  simp only [Value.cells, List.cons.injEq, Value.slice.injEq, and_true] at hA
  obtain ⟨rfl, rfl, rfl⟩ := hA
  exact ⟨xs, _, _, rfl, hl, hC, hm, hq⟩
theorem rows_le {α : Type} {e : Nat} {d : Kd α} {w : World} {A : Option Addr} {n : Nat} {xs : List (List α)} (h : Kd.C (Kd.slice e d) w A n xs) : ∀ x ∈ xs, x.length ≤ 9223372036854775807 := by
  intro x hx
  obtain ⟨j, hj, rfl⟩ := List.getElem_of_mem hx
  have hn := h.1
  obtain ⟨ad, _, hc⟩ := h.2.2 (by omega)
  obtain ⟨c, _, hk, _⟩ := hc j _ (List.getElem?_eq_getElem hj)
  obtain ⟨A', c', _, _, hC⟩ := hk
  exact hC.2.1
end Go.Proofs.Ytbjpdelammffpaa.Op
