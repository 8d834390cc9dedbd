import Derived.Test.YteggnboikjjaiaaBFnExactMetacentre2
import Derived.Test.YteggnboikjjaiaaBFnExactMetacentre1
import Derived.Test.YteggnboikjjaiaaBFnExactMetacentre3
import Derived.Test.YteggnboikjjaiaaBFnExactMetacentre4
-- printed for this claim out of the translation
namespace Go.Proofs.Yteggnboikjjaiaa.PH2
open Go.RowKit Go.Proofs.YteggnboikjjaiaaW.PrintWords Go.Proofs.YteggnboikjjaiaaW.PrintLast Go.Proofs.YteggnboikjjaiaaW.PrintMore Go.Proofs.Yteggnboikjjaiaa.Cz
attribute [local go_sem] max2_int min2_int max_two min_two max_three min_three max_four min_four
set_option linter.unusedVariables false
set_option linter.unusedSimpArgs false

/-! ### laws_FnExactMetacentre: function 14 -/
def laws_FnExactMetacentre.j0 : Nat → List (S71) → List (S94) → List (S68) → List (S91) → Bool → Int → Int → List (List Int) → Int → Int → List (List Int) → Option (Bool)
 | 0, _, _, _, _, _, _, _, _, _, _, _ => none
 | k + 1, x2, x3, x13, x14, x65, x461000, x461001, x461002, x485000, x485001, x485002 => if x65 = true then (some false) else ((laws_toHull.f x461000 x461001 x461002).bind fun bt496 => ((laws_eqHull.f x485000 x485001 x485002 bt496.1 bt496.2.1 bt496.2.2).bind fun t501 => (if t501 = true then ((laws_toMassS.f k x2).bind fun t502 => ((laws_eqMassS.f k x13 t502).bind fun t505 => (if t505 = true then ((laws_toTankS.f k x3).bind fun t506 => ((laws_eqTankS.f k x14 t506).bind fun t509 => (if t509 = true then (some true) else (some false)))) else (some false)))) else (some false))))
def laws_FnExactMetacentre.f (k : Nat) (a0_0 : Int) (a0_1 : Int) (l0_2 : List (List Int)) (a1 : Int) (l2 : List (S71)) (l3 : List (S94)) : Option (Bool) := (laws_szHull.f a0_0 a0_1 l0_2 1048576).bind fun t461 => (if t461 < 0 then (some true) else ((laws_szMassS.f l2 t461).bind fun t462 => (if t462 < 0 then (some true) else ((laws_szTankS.f l3 t462).bind fun t463 => (if t463 < 0 then (some true) else ((laws_toHull.f a0_0 a0_1 l0_2).bind fun bt464 => ((laws_toMassS.f k l2).bind fun t469 => ((laws_toTankS.f k l3).bind fun t472 => ((spec_Metacentre.f k bt464.1 bt464.2.1 bt464.2.2 a1 t469 t472).bind fun bt475 => ((laws_toHull.f a0_0 a0_1 l0_2).bind fun bt479 => ((laws_toMassS.f k l2).bind fun t485 => ((laws_toTankS.f k l3).bind fun t488 => ((impl_Metacentre.f k bt479.1 bt479.2.1 bt479.2.2 a1 t485 t488).bind fun bt491 => ((laws_eqFrac.f bt491.1 bt491.2.1 bt475.1 bt475.2.1).bind fun t495 => (if t495 = true then (laws_FnExactMetacentre.j0 k l2 l3 t485 t488 (bt491.2.2 != bt475.2.2) a0_0 a0_1 l0_2 bt479.1 bt479.2.1 bt479.2.2) else (laws_FnExactMetacentre.j0 k l2 l3 t485 t488 true a0_0 a0_1 l0_2 bt479.1 bt479.2.1 bt479.2.2))))))))))))))))
theorem laws_FnExactMetacentre.mono_l : ∀ k, (∀ y0 y1 y2 y3 y4 y5 y6 y7 y8 y9 y10, LeO (laws_FnExactMetacentre.j0 k y0 y1 y2 y3 y4 y5 y6 y7 y8 y9 y10) (laws_FnExactMetacentre.j0 (k + 1) y0 y1 y2 y3 y4 y5 y6 y7 y8 y9 y10))
 | 0 => fun _ _ _ _ _ _ _ _ _ _ _ r h => by simp [laws_FnExactMetacentre.j0] at h
 | k + 1 => by
  have ih0 := laws_FnExactMetacentre.mono_l k
  ·intro y0 y1 y2 y3 y4 y5 y6 y7 y8 y9 y10
   unfold laws_FnExactMetacentre.j0
   repeat' first
   | (with_reducible exact ih0 _ _ _ _ _ _ _ _ _ _ _)
   | (with_reducible exact impl_Metacentre.mono _ _ _ _ _ _ _)
   | (with_reducible exact laws_eqMassS.mono _ _ _)
   | (with_reducible exact laws_eqTankS.mono _ _ _)
   | (with_reducible exact laws_toMassS.mono _ _)
   | (with_reducible exact laws_toTankS.mono _ _)
   | (with_reducible exact spec_Metacentre.mono _ _ _ _ _ _ _)
   | (with_reducible exact LeO.refl _)
   | (with_reducible exact LeO.none _)
   | (with_reducible refine LeO.ite ?_ ?_)
   | (with_reducible refine LeO.bind ?_ (fun _ => ?_))
   | exact ih0 _ _ _ _ _ _ _ _ _ _ _
   | exact impl_Metacentre.mono _ _ _ _ _ _ _
   | exact laws_eqMassS.mono _ _ _
   | exact laws_eqTankS.mono _ _ _
   | exact laws_toMassS.mono _ _
   | exact laws_toTankS.mono _ _
   | exact spec_Metacentre.mono _ _ _ _ _ _ _
   | exact LeO.none _
   | refine LeO.ite ?_ ?_
   | refine LeO.bind ?_ (fun _ => ?_)
theorem laws_FnExactMetacentre.mono : ∀ a0 a1 a2 a3 a4 a5 k, LeO (laws_FnExactMetacentre.f k a0 a1 a2 a3 a4 a5) (laws_FnExactMetacentre.f (k + 1) a0 a1 a2 a3 a4 a5) := by
 intro a0 a1 a2 a3 a4 a5 k
 have ih0 := laws_FnExactMetacentre.mono_l k
 unfold laws_FnExactMetacentre.f
 repeat' first
   | (with_reducible exact ih0 _ _ _ _ _ _ _ _ _ _ _)
   | (with_reducible exact impl_Metacentre.mono _ _ _ _ _ _ _)
   | (with_reducible exact laws_eqMassS.mono _ _ _)
   | (with_reducible exact laws_eqTankS.mono _ _ _)
   | (with_reducible exact laws_toMassS.mono _ _)
   | (with_reducible exact laws_toTankS.mono _ _)
   | (with_reducible exact spec_Metacentre.mono _ _ _ _ _ _ _)
   | (with_reducible exact LeO.refl _)
   | (with_reducible exact LeO.none _)
   | (with_reducible refine LeO.ite ?_ ?_)
   | (with_reducible refine LeO.bind ?_ (fun _ => ?_))
   | exact ih0 _ _ _ _ _ _ _ _ _ _ _
   | exact impl_Metacentre.mono _ _ _ _ _ _ _
   | exact laws_eqMassS.mono _ _ _
   | exact laws_eqTankS.mono _ _ _
   | exact laws_toMassS.mono _ _
   | exact laws_toTankS.mono _ _
   | exact spec_Metacentre.mono _ _ _ _ _ _ _
   | exact LeO.none _
   | refine LeO.ite ?_ ?_
   | refine LeO.bind ?_ (fun _ => ?_)
set_option maxHeartbeats 8000000 in
set_option maxRecDepth 100000 in
theorem laws_FnExactMetacentre.calls (k : Nat) (a0_0 : Int) (a0_1 : Int) (A0_2 : Option Addr) (c0_2 : Nat) (l0_2 : List (List Int)) (a1 : Int) (A2 : Option Addr) (c2 : Nat) (l2 : List (S71)) (A3 : Option Addr) (c3 : Nat) (l3 : List (S94)) (r : Bool) (w : World) (hr0_2 : Kd.C (Kd.slice 3 (Kd.int .i64)) w A0_2 l0_2.length l0_2) (hc0_2 : l0_2.length ≤ c0_2) (hr2 : Kd.C k71 w A2 l2.length l2) (hc2 : l2.length ≤ c2) (hr3 : Kd.C k94 w A3 l3.length l3) (hc3 : l3.length ≤ c3) (h : laws_FnExactMetacentre.f k a0_0 a0_1 l0_2 a1 l2 l3 = some r) :
  Calls Try.prog 14 #[.agg #[.int .i64 a0_0, .int .i64 a0_1, .slice A0_2 l0_2.length c0_2], .int .i64 a1, .slice A2 l2.length c2, .slice A3 l3.length c3] w fun e w' => e = .returned (.bool r) ∧ Below w.heap.size w w' := by
 have hu36 := Try.underlying36
 have hu59 := Try.underlying59
 have hu39 := Try.underlying39
 have HR0_2 := Aside0.mk hr0_2
 have HC0_2 := Aside0.mk hc0_2
 clear hr0_2 hc0_2
 have HR2 := Aside0.mk hr2
 have HC2 := Aside0.mk hc2
 clear hr2 hc2
 have HR3 := Aside0.mk hr3
 have HC3 := Aside0.mk hc3
 clear hr3 hc3
 have HB := Aside0.mk (Below.refl w.heap.size w)
 have H : ((laws_szHull.f a0_0 a0_1 l0_2 1048576).bind fun t461 => (if t461 < 0 then (some true) else ((laws_szMassS.f l2 t461).bind fun t462 => (if t462 < 0 then (some true) else ((laws_szTankS.f l3 t462).bind fun t463 => (if t463 < 0 then (some true) else ((laws_toHull.f a0_0 a0_1 l0_2).bind fun bt464 => ((laws_toMassS.f k l2).bind fun t469 => ((laws_toTankS.f k l3).bind fun t472 => ((spec_Metacentre.f k bt464.1 bt464.2.1 bt464.2.2 a1 t469 t472).bind fun bt475 => ((laws_toHull.f a0_0 a0_1 l0_2).bind fun bt479 => ((laws_toMassS.f k l2).bind fun t485 => ((laws_toTankS.f k l3).bind fun t488 => ((impl_Metacentre.f k bt479.1 bt479.2.1 bt479.2.2 a1 t485 t488).bind fun bt491 => ((laws_eqFrac.f bt491.1 bt491.2.1 bt475.1 bt475.2.1).bind fun t495 => (if t495 = true then (laws_FnExactMetacentre.j0 k l2 l3 t485 t488 (bt491.2.2 != bt475.2.2) a0_0 a0_1 l0_2 bt479.1 bt479.2.1 bt479.2.2) else (laws_FnExactMetacentre.j0 k l2 l3 t485 t488 true a0_0 a0_1 l0_2 bt479.1 bt479.2.1 bt479.2.2))))))))))))))))) = some r := h
 clear h
 replace H := Option.bind_eq_some_iff.mp H
 obtain ⟨t461, A50, H⟩ := H
 replace H : (if t461 < 0 then (some true) else ((laws_szMassS.f l2 t461).bind fun t462 => (if t462 < 0 then (some true) else ((laws_szTankS.f l3 t462).bind fun t463 => (if t463 < 0 then (some true) else ((laws_toHull.f a0_0 a0_1 l0_2).bind fun bt464 => ((laws_toMassS.f k l2).bind fun t469 => ((laws_toTankS.f k l3).bind fun t472 => ((spec_Metacentre.f k bt464.1 bt464.2.1 bt464.2.2 a1 t469 t472).bind fun bt475 => ((laws_toHull.f a0_0 a0_1 l0_2).bind fun bt479 => ((laws_toMassS.f k l2).bind fun t485 => ((laws_toTankS.f k l3).bind fun t488 => ((impl_Metacentre.f k bt479.1 bt479.2.1 bt479.2.2 a1 t485 t488).bind fun bt491 => ((laws_eqFrac.f bt491.1 bt491.2.1 bt475.1 bt475.2.1).bind fun t495 => (if t495 = true then (laws_FnExactMetacentre.j0 k l2 l3 t485 t488 (bt491.2.2 != bt475.2.2) a0_0 a0_1 l0_2 bt479.1 bt479.2.1 bt479.2.2) else (laws_FnExactMetacentre.j0 k l2 l3 t485 t488 true a0_0 a0_1 l0_2 bt479.1 bt479.2.1 bt479.2.2)))))))))))))))) = some r := H
 have A5 := Aside0.mk A50
 clear A50
 by_cases c6 : t461 < 0
 ·rw [if_pos c6] at H
  have c6b0 : decide (t461 < 0) = true := decide_eq_true c6
  clear c6
  obtain rfl := Option.some.inj H
  go_enter Try.func14, Try.ntmps14
  go_wp2_with (first | ((with_reducible refine gate_dst (N := 4) rfl ?_); refine box_event ?hg (N := 4) ?hd (cs := #[.int .i64 a0_0, .int .i64 a0_1, .slice A0_2 l0_2.length c0_2]) (t := 36) ?hr ?_; (case hd => rfl); (case hg => rfl); (case hr => first | (go_simp; done) | (go_simp; rfl)); intro gb460 hg w7 hbox hb; have n0_ := Aside0.mk (below_step (by repeat (first | (with_reducible first | exact HB.out | apply below_alloc | apply pw_below_drewN | apply below_drew1) | exact HB.out)) hb); have n1_ := Aside0.mk (hbox); have n2_ := Aside0.mk ((by rw [hg]; exact (below_size (by repeat (first | (with_reducible first | exact HB.out | apply below_alloc | apply pw_below_drewN | apply below_drew1) | exact HB.out))) : w.heap.size ≤ gb460)); have n3_ := Aside0.mk ((by rw [hg]; exact (below_size (by repeat (first | (with_reducible first | exact HB.out | apply below_alloc | apply pw_below_drewN | apply below_drew1) | exact HB.out))) : w.heap.size ≤ gb460)); clear HB; have HB := n0_; have BK460 := n1_; have GW460 := n2_; have GE460 := n3_; clear n0_ n1_ n2_ n3_; clear hb hbox hg; have hcz8_0 : w7.cell? ⟨gb460, 0, none⟩ = some (.int .i64 a0_0) := (blk_cell BK460.out 0).trans rfl; have hcz8_1 : w7.cell? ⟨gb460, 1, none⟩ = some (.int .i64 a0_1) := (blk_cell BK460.out 1).trans rfl; have hcz8_2 : w7.cell? ⟨gb460, 2, none⟩ = some (.slice A0_2 l0_2.length c0_2) := (blk_cell BK460.out 2).trans rfl; have hfz8_0 := blk_frozen BK460.out 0; have hfz8_1 := blk_frozen BK460.out 1; have hfz8_2 := blk_frozen BK460.out 2) | ((with_reducible refine gate_callee (f := 23) rfl ?_); refine goesL_ (some 19) rfl rfl Try.func23 (by kernel_rfl) rfl #[.agg #[.int .i64 a0_0, .int .i64 a0_1, .slice A0_2 l0_2.length c0_2], .int .i64 1048576] rfl (by (try simp only [List.map_toArray, List.map_cons, List.map_nil]); first | done | rfl | (simp only [List.length_drop, List.length_take]; rfl)) ?_; (with_reducible refine (laws_szHull.calls a0_0 a0_1 _ _ l0_2 1048576 t461 _ ?side1 ?side2 A5.out).mono ?_); (case side1 => repeat (first | exact (Kd.C_below HR0_2.out HB.out) | (with_reducible refine Kd.C_alloc ?_ _) | (with_reducible refine Kd.C_drewN ?_ _) | (with_reducible refine Kd.C_drew ?_))); (case side2 => exact HC0_2.out); rintro e w9 ⟨rfl, hb⟩; refine ⟨_, rfl, ?_⟩; have n0_ := Aside0.mk (blk_below (g := gb460) (o := .cells #[.int .i64 a0_0, .int .i64 a0_1, .slice A0_2 l0_2.length c0_2] 36 (0, 0)) (by (with_reducible repeat (first | refine z1 ?_ _ | refine z2 ?_ | refine z3 ?_ _)); exact BK460.out) hb); have n1_ := Aside0.mk (below_step (by repeat (first | (with_reducible first | exact HB.out | apply below_alloc | apply pw_below_drewN | apply below_drew1 | refine below_set ?_ GE460.out) | exact HB.out)) hb); clear BK460; clear HB; have BK460 := n0_; have HB := n1_; clear n0_ n1_; (try clear hb); (try clear hb2); (try clear hk); (try clear hi)))
  go_ret
  exact ⟨by first | rfl | (simp [errW_none, errW_some] <;> rfl) | (simp [*, errW_none, errW_some] <;> rfl), by repeat (first | (with_reducible first | exact HB.out | apply below_alloc | apply pw_below_drewN | apply below_drew1 | refine below_set ?_ GE460.out) | exact HB.out)⟩
 ·rw [if_neg c6] at H
  have c6b0 : decide (t461 < 0) = false := decide_eq_false c6
  clear c6
  replace H := Option.bind_eq_some_iff.mp H
  obtain ⟨t462, A100, H⟩ := H
  replace H : (if t462 < 0 then (some true) else ((laws_szTankS.f l3 t462).bind fun t463 => (if t463 < 0 then (some true) else ((laws_toHull.f a0_0 a0_1 l0_2).bind fun bt464 => ((laws_toMassS.f k l2).bind fun t469 => ((laws_toTankS.f k l3).bind fun t472 => ((spec_Metacentre.f k bt464.1 bt464.2.1 bt464.2.2 a1 t469 t472).bind fun bt475 => ((laws_toHull.f a0_0 a0_1 l0_2).bind fun bt479 => ((laws_toMassS.f k l2).bind fun t485 => ((laws_toTankS.f k l3).bind fun t488 => ((impl_Metacentre.f k bt479.1 bt479.2.1 bt479.2.2 a1 t485 t488).bind fun bt491 => ((laws_eqFrac.f bt491.1 bt491.2.1 bt475.1 bt475.2.1).bind fun t495 => (if t495 = true then (laws_FnExactMetacentre.j0 k l2 l3 t485 t488 (bt491.2.2 != bt475.2.2) a0_0 a0_1 l0_2 bt479.1 bt479.2.1 bt479.2.2) else (laws_FnExactMetacentre.j0 k l2 l3 t485 t488 true a0_0 a0_1 l0_2 bt479.1 bt479.2.1 bt479.2.2)))))))))))))) = some r := H
  have A10 := Aside0.mk A100
  clear A100
  by_cases c11 : t462 < 0
  ·rw [if_pos c11] at H
   have c11b0 : decide (t462 < 0) = true := decide_eq_true c11
   clear c11
   obtain rfl := Option.some.inj H
   go_enter Try.func14, Try.ntmps14
   go_wp2_with (first | ((with_reducible refine gate_dst (N := 4) rfl ?_); refine box_event ?hg (N := 4) ?hd (cs := #[.int .i64 a0_0, .int .i64 a0_1, .slice A0_2 l0_2.length c0_2]) (t := 36) ?hr ?_; (case hd => rfl); (case hg => rfl); (case hr => first | (go_simp; done) | (go_simp; rfl)); intro gb460 hg w12 hbox hb; have n0_ := Aside0.mk (below_step (by repeat (first | (with_reducible first | exact HB.out | apply below_alloc | apply pw_below_drewN | apply below_drew1) | exact HB.out)) hb); have n1_ := Aside0.mk (hbox); have n2_ := Aside0.mk ((by rw [hg]; exact (below_size (by repeat (first | (with_reducible first | exact HB.out | apply below_alloc | apply pw_below_drewN | apply below_drew1) | exact HB.out))) : w.heap.size ≤ gb460)); have n3_ := Aside0.mk ((by rw [hg]; exact (below_size (by repeat (first | (with_reducible first | exact HB.out | apply below_alloc | apply pw_below_drewN | apply below_drew1) | exact HB.out))) : w.heap.size ≤ gb460)); clear HB; have HB := n0_; have BK460 := n1_; have GW460 := n2_; have GE460 := n3_; clear n0_ n1_ n2_ n3_; clear hb hbox hg; have hcz13_0 : w12.cell? ⟨gb460, 0, none⟩ = some (.int .i64 a0_0) := (blk_cell BK460.out 0).trans rfl; have hcz13_1 : w12.cell? ⟨gb460, 1, none⟩ = some (.int .i64 a0_1) := (blk_cell BK460.out 1).trans rfl; have hcz13_2 : w12.cell? ⟨gb460, 2, none⟩ = some (.slice A0_2 l0_2.length c0_2) := (blk_cell BK460.out 2).trans rfl; have hfz13_0 := blk_frozen BK460.out 0; have hfz13_1 := blk_frozen BK460.out 1; have hfz13_2 := blk_frozen BK460.out 2) | ((with_reducible refine gate_callee (f := 23) rfl ?_); refine goesL_ (some 19) rfl rfl Try.func23 (by kernel_rfl) rfl #[.agg #[.int .i64 a0_0, .int .i64 a0_1, .slice A0_2 l0_2.length c0_2], .int .i64 1048576] rfl (by (try simp only [List.map_toArray, List.map_cons, List.map_nil]); first | done | rfl | (simp only [List.length_drop, List.length_take]; rfl)) ?_; (with_reducible refine (laws_szHull.calls a0_0 a0_1 _ _ l0_2 1048576 t461 _ ?side1 ?side2 A5.out).mono ?_); (case side1 => repeat (first | exact (Kd.C_below HR0_2.out HB.out) | (with_reducible refine Kd.C_alloc ?_ _) | (with_reducible refine Kd.C_drewN ?_ _) | (with_reducible refine Kd.C_drew ?_))); (case side2 => exact HC0_2.out); rintro e w14 ⟨rfl, hb⟩; refine ⟨_, rfl, ?_⟩; have n0_ := Aside0.mk (blk_below (g := gb460) (o := .cells #[.int .i64 a0_0, .int .i64 a0_1, .slice A0_2 l0_2.length c0_2] 36 (0, 0)) (by (with_reducible repeat (first | refine z1 ?_ _ | refine z2 ?_ | refine z3 ?_ _)); exact BK460.out) hb); have n1_ := Aside0.mk (below_step (by repeat (first | (with_reducible first | exact HB.out | apply below_alloc | apply pw_below_drewN | apply below_drew1 | refine below_set ?_ GE460.out) | exact HB.out)) hb); clear BK460; clear HB; have BK460 := n0_; have HB := n1_; clear n0_ n1_; (try clear hb); (try clear hb2); (try clear hk); (try clear hi)) | ((with_reducible refine gate_callee (f := 15) rfl ?_); refine goesL_ (some 24) rfl rfl Try.func15 (by kernel_rfl) rfl #[.slice A2 l2.length c2, .int .i64 t461] rfl (by (try simp only [List.map_toArray, List.map_cons, List.map_nil]); first | done | rfl | (simp only [List.length_drop, List.length_take]; rfl)) ?_; (with_reducible refine (laws_szMassS.calls _ _ l2 t461 t462 _ ?side1 ?side2 A10.out).mono ?_); (case side1 => repeat (first | exact (Kd.C_below HR2.out HB.out) | (with_reducible refine Kd.C_alloc ?_ _) | (with_reducible refine Kd.C_drewN ?_ _) | (with_reducible refine Kd.C_drew ?_))); (case side2 => exact HC2.out); rintro e w' ⟨rfl, ⟨nd, rfl⟩⟩; refine ⟨_, rfl, ?_⟩))
   go_ret
   exact ⟨by first | rfl | (simp [errW_none, errW_some] <;> rfl) | (simp [*, errW_none, errW_some] <;> rfl), by repeat (first | (with_reducible first | exact HB.out | apply below_alloc | apply pw_below_drewN | apply below_drew1 | refine below_set ?_ GE460.out) | exact HB.out)⟩
  ·rw [if_neg c11] at H
   have c11b0 : decide (t462 < 0) = false := decide_eq_false c11
   clear c11
   replace H := Option.bind_eq_some_iff.mp H
   obtain ⟨t463, A150, H⟩ := H
   replace H : (if t463 < 0 then (some true) else ((laws_toHull.f a0_0 a0_1 l0_2).bind fun bt464 => ((laws_toMassS.f k l2).bind fun t469 => ((laws_toTankS.f k l3).bind fun t472 => ((spec_Metacentre.f k bt464.1 bt464.2.1 bt464.2.2 a1 t469 t472).bind fun bt475 => ((laws_toHull.f a0_0 a0_1 l0_2).bind fun bt479 => ((laws_toMassS.f k l2).bind fun t485 => ((laws_toTankS.f k l3).bind fun t488 => ((impl_Metacentre.f k bt479.1 bt479.2.1 bt479.2.2 a1 t485 t488).bind fun bt491 => ((laws_eqFrac.f bt491.1 bt491.2.1 bt475.1 bt475.2.1).bind fun t495 => (if t495 = true then (laws_FnExactMetacentre.j0 k l2 l3 t485 t488 (bt491.2.2 != bt475.2.2) a0_0 a0_1 l0_2 bt479.1 bt479.2.1 bt479.2.2) else (laws_FnExactMetacentre.j0 k l2 l3 t485 t488 true a0_0 a0_1 l0_2 bt479.1 bt479.2.1 bt479.2.2)))))))))))) = some r := H
   have A15 := Aside0.mk A150
   clear A150
   by_cases c16 : t463 < 0
   ·rw [if_pos c16] at H
    have c16b0 : decide (t463 < 0) = true := decide_eq_true c16
    clear c16
    obtain rfl := Option.some.inj H
    go_enter Try.func14, Try.ntmps14
    go_wp2_with (first | ((with_reducible refine gate_dst (N := 4) rfl ?_); refine box_event ?hg (N := 4) ?hd (cs := #[.int .i64 a0_0, .int .i64 a0_1, .slice A0_2 l0_2.length c0_2]) (t := 36) ?hr ?_; (case hd => rfl); (case hg => rfl); (case hr => first | (go_simp; done) | (go_simp; rfl)); intro gb460 hg w17 hbox hb; have n0_ := Aside0.mk (below_step (by repeat (first | (with_reducible first | exact HB.out | apply below_alloc | apply pw_below_drewN | apply below_drew1) | exact HB.out)) hb); have n1_ := Aside0.mk (hbox); have n2_ := Aside0.mk ((by rw [hg]; exact (below_size (by repeat (first | (with_reducible first | exact HB.out | apply below_alloc | apply pw_below_drewN | apply below_drew1) | exact HB.out))) : w.heap.size ≤ gb460)); have n3_ := Aside0.mk ((by rw [hg]; exact (below_size (by repeat (first | (with_reducible first | exact HB.out | apply below_alloc | apply pw_below_drewN | apply below_drew1) | exact HB.out))) : w.heap.size ≤ gb460)); clear HB; have HB := n0_; have BK460 := n1_; have GW460 := n2_; have GE460 := n3_; clear n0_ n1_ n2_ n3_; clear hb hbox hg; have hcz18_0 : w17.cell? ⟨gb460, 0, none⟩ = some (.int .i64 a0_0) := (blk_cell BK460.out 0).trans rfl; have hcz18_1 : w17.cell? ⟨gb460, 1, none⟩ = some (.int .i64 a0_1) := (blk_cell BK460.out 1).trans rfl; have hcz18_2 : w17.cell? ⟨gb460, 2, none⟩ = some (.slice A0_2 l0_2.length c0_2) := (blk_cell BK460.out 2).trans rfl; have hfz18_0 := blk_frozen BK460.out 0; have hfz18_1 := blk_frozen BK460.out 1; have hfz18_2 := blk_frozen BK460.out 2) | ((with_reducible refine gate_callee (f := 23) rfl ?_); refine goesL_ (some 19) rfl rfl Try.func23 (by kernel_rfl) rfl #[.agg #[.int .i64 a0_0, .int .i64 a0_1, .slice A0_2 l0_2.length c0_2], .int .i64 1048576] rfl (by (try simp only [List.map_toArray, List.map_cons, List.map_nil]); first | done | rfl | (simp only [List.length_drop, List.length_take]; rfl)) ?_; (with_reducible refine (laws_szHull.calls a0_0 a0_1 _ _ l0_2 1048576 t461 _ ?side1 ?side2 A5.out).mono ?_); (case side1 => repeat (first | exact (Kd.C_below HR0_2.out HB.out) | (with_reducible refine Kd.C_alloc ?_ _) | (with_reducible refine Kd.C_drewN ?_ _) | (with_reducible refine Kd.C_drew ?_))); (case side2 => exact HC0_2.out); rintro e w19 ⟨rfl, hb⟩; refine ⟨_, rfl, ?_⟩; have n0_ := Aside0.mk (blk_below (g := gb460) (o := .cells #[.int .i64 a0_0, .int .i64 a0_1, .slice A0_2 l0_2.length c0_2] 36 (0, 0)) (by (with_reducible repeat (first | refine z1 ?_ _ | refine z2 ?_ | refine z3 ?_ _)); exact BK460.out) hb); have n1_ := Aside0.mk (below_step (by repeat (first | (with_reducible first | exact HB.out | apply below_alloc | apply pw_below_drewN | apply below_drew1 | refine below_set ?_ GE460.out) | exact HB.out)) hb); clear BK460; clear HB; have BK460 := n0_; have HB := n1_; clear n0_ n1_; (try clear hb); (try clear hb2); (try clear hk); (try clear hi)) | ((with_reducible refine gate_callee (f := 15) rfl ?_); refine goesL_ (some 24) rfl rfl Try.func15 (by kernel_rfl) rfl #[.slice A2 l2.length c2, .int .i64 t461] rfl (by (try simp only [List.map_toArray, List.map_cons, List.map_nil]); first | done | rfl | (simp only [List.length_drop, List.length_take]; rfl)) ?_; (with_reducible refine (laws_szMassS.calls _ _ l2 t461 t462 _ ?side1 ?side2 A10.out).mono ?_); (case side1 => repeat (first | exact (Kd.C_below HR2.out HB.out) | (with_reducible refine Kd.C_alloc ?_ _) | (with_reducible refine Kd.C_drewN ?_ _) | (with_reducible refine Kd.C_drew ?_))); (case side2 => exact HC2.out); rintro e w' ⟨rfl, ⟨nd, rfl⟩⟩; refine ⟨_, rfl, ?_⟩) | ((with_reducible refine gate_callee (f := 51) rfl ?_); refine goesL_ (some 29) rfl rfl Try.func51 (by kernel_rfl) rfl #[.slice A3 l3.length c3, .int .i64 t462] rfl (by (try simp only [List.map_toArray, List.map_cons, List.map_nil]); first | done | rfl | (simp only [List.length_drop, List.length_take]; rfl)) ?_; (with_reducible refine (laws_szTankS.calls _ _ l3 t462 t463 _ ?side1 ?side2 A15.out).mono ?_); (case side1 => repeat (first | exact (Kd.C_below HR3.out (by repeat (first | (with_reducible first | exact HB.out | apply below_alloc | apply pw_below_drewN | apply below_drew1 | refine below_set ?_ GE460.out) | exact HB.out))) | (with_reducible refine Kd.C_alloc ?_ _) | (with_reducible refine Kd.C_drewN ?_ _) | (with_reducible refine Kd.C_drew ?_))); (case side2 => exact HC3.out); rintro e w' ⟨rfl, ⟨nd, rfl⟩⟩; refine ⟨_, rfl, ?_⟩))
    go_ret
    exact ⟨by first | rfl | (simp [errW_none, errW_some] <;> rfl) | (simp [*, errW_none, errW_some] <;> rfl), by repeat (first | (with_reducible first | exact HB.out | apply below_alloc | apply pw_below_drewN | apply below_drew1 | refine below_set ?_ GE460.out) | exact HB.out)⟩
   ·rw [if_neg c16] at H
    have c16b0 : decide (t463 < 0) = false := decide_eq_false c16
    clear c16
    replace H := Option.bind_eq_some_iff.mp H
    obtain ⟨⟨t464, t465, t466⟩, A200, H⟩ := H
    replace H : ((laws_toMassS.f k l2).bind fun t469 => ((laws_toTankS.f k l3).bind fun t472 => ((spec_Metacentre.f k t464 t465 t466 a1 t469 t472).bind fun bt475 => ((laws_toHull.f a0_0 a0_1 l0_2).bind fun bt479 => ((laws_toMassS.f k l2).bind fun t485 => ((laws_toTankS.f k l3).bind fun t488 => ((impl_Metacentre.f k bt479.1 bt479.2.1 bt479.2.2 a1 t485 t488).bind fun bt491 => ((laws_eqFrac.f bt491.1 bt491.2.1 bt475.1 bt475.2.1).bind fun t495 => (if t495 = true then (laws_FnExactMetacentre.j0 k l2 l3 t485 t488 (bt491.2.2 != bt475.2.2) a0_0 a0_1 l0_2 bt479.1 bt479.2.1 bt479.2.2) else (laws_FnExactMetacentre.j0 k l2 l3 t485 t488 true a0_0 a0_1 l0_2 bt479.1 bt479.2.1 bt479.2.2)))))))))) = some r := H
    have A20 := Aside0.mk A200
    clear A200
    replace H := Option.bind_eq_some_iff.mp H
    obtain ⟨t469, A210, H⟩ := H
    replace H : ((laws_toTankS.f k l3).bind fun t472 => ((spec_Metacentre.f k t464 t465 t466 a1 t469 t472).bind fun bt475 => ((laws_toHull.f a0_0 a0_1 l0_2).bind fun bt479 => ((laws_toMassS.f k l2).bind fun t485 => ((laws_toTankS.f k l3).bind fun t488 => ((impl_Metacentre.f k bt479.1 bt479.2.1 bt479.2.2 a1 t485 t488).bind fun bt491 => ((laws_eqFrac.f bt491.1 bt491.2.1 bt475.1 bt475.2.1).bind fun t495 => (if t495 = true then (laws_FnExactMetacentre.j0 k l2 l3 t485 t488 (bt491.2.2 != bt475.2.2) a0_0 a0_1 l0_2 bt479.1 bt479.2.1 bt479.2.2) else (laws_FnExactMetacentre.j0 k l2 l3 t485 t488 true a0_0 a0_1 l0_2 bt479.1 bt479.2.1 bt479.2.2))))))))) = some r := H
    have A21 := Aside0.mk A210
    clear A210
    replace H := Option.bind_eq_some_iff.mp H
    obtain ⟨t472, A220, H⟩ := H
    replace H : ((spec_Metacentre.f k t464 t465 t466 a1 t469 t472).bind fun bt475 => ((laws_toHull.f a0_0 a0_1 l0_2).bind fun bt479 => ((laws_toMassS.f k l2).bind fun t485 => ((laws_toTankS.f k l3).bind fun t488 => ((impl_Metacentre.f k bt479.1 bt479.2.1 bt479.2.2 a1 t485 t488).bind fun bt491 => ((laws_eqFrac.f bt491.1 bt491.2.1 bt475.1 bt475.2.1).bind fun t495 => (if t495 = true then (laws_FnExactMetacentre.j0 k l2 l3 t485 t488 (bt491.2.2 != bt475.2.2) a0_0 a0_1 l0_2 bt479.1 bt479.2.1 bt479.2.2) else (laws_FnExactMetacentre.j0 k l2 l3 t485 t488 true a0_0 a0_1 l0_2 bt479.1 bt479.2.1 bt479.2.2)))))))) = some r := H
    have A22 := Aside0.mk A220
    clear A220
    replace H := Option.bind_eq_some_iff.mp H
    obtain ⟨⟨t475, t476, t477⟩, A230, H⟩ := H
    replace H : ((laws_toHull.f a0_0 a0_1 l0_2).bind fun bt479 => ((laws_toMassS.f k l2).bind fun t485 => ((laws_toTankS.f k l3).bind fun t488 => ((impl_Metacentre.f k bt479.1 bt479.2.1 bt479.2.2 a1 t485 t488).bind fun bt491 => ((laws_eqFrac.f bt491.1 bt491.2.1 t475 t476).bind fun t495 => (if t495 = true then (laws_FnExactMetacentre.j0 k l2 l3 t485 t488 (bt491.2.2 != t477) a0_0 a0_1 l0_2 bt479.1 bt479.2.1 bt479.2.2) else (laws_FnExactMetacentre.j0 k l2 l3 t485 t488 true a0_0 a0_1 l0_2 bt479.1 bt479.2.1 bt479.2.2))))))) = some r := H
    have A23 := Aside0.mk A230
    clear A230
    replace H := Option.bind_eq_some_iff.mp H
    obtain ⟨⟨t479, t480, t481⟩, A240, H⟩ := H
    replace H : ((laws_toMassS.f k l2).bind fun t485 => ((laws_toTankS.f k l3).bind fun t488 => ((impl_Metacentre.f k t479 t480 t481 a1 t485 t488).bind fun bt491 => ((laws_eqFrac.f bt491.1 bt491.2.1 t475 t476).bind fun t495 => (if t495 = true then (laws_FnExactMetacentre.j0 k l2 l3 t485 t488 (bt491.2.2 != t477) a0_0 a0_1 l0_2 t479 t480 t481) else (laws_FnExactMetacentre.j0 k l2 l3 t485 t488 true a0_0 a0_1 l0_2 t479 t480 t481)))))) = some r := H
    have A24 := Aside0.mk A240
    clear A240
    replace H := Option.bind_eq_some_iff.mp H
    obtain ⟨t485, A250, H⟩ := H
    replace H : ((laws_toTankS.f k l3).bind fun t488 => ((impl_Metacentre.f k t479 t480 t481 a1 t485 t488).bind fun bt491 => ((laws_eqFrac.f bt491.1 bt491.2.1 t475 t476).bind fun t495 => (if t495 = true then (laws_FnExactMetacentre.j0 k l2 l3 t485 t488 (bt491.2.2 != t477) a0_0 a0_1 l0_2 t479 t480 t481) else (laws_FnExactMetacentre.j0 k l2 l3 t485 t488 true a0_0 a0_1 l0_2 t479 t480 t481))))) = some r := H
    have A25 := Aside0.mk A250
    clear A250
    replace H := Option.bind_eq_some_iff.mp H
    obtain ⟨t488, A260, H⟩ := H
    replace H : ((impl_Metacentre.f k t479 t480 t481 a1 t485 t488).bind fun bt491 => ((laws_eqFrac.f bt491.1 bt491.2.1 t475 t476).bind fun t495 => (if t495 = true then (laws_FnExactMetacentre.j0 k l2 l3 t485 t488 (bt491.2.2 != t477) a0_0 a0_1 l0_2 t479 t480 t481) else (laws_FnExactMetacentre.j0 k l2 l3 t485 t488 true a0_0 a0_1 l0_2 t479 t480 t481)))) = some r := H
    have A26 := Aside0.mk A260
    clear A260
    replace H := Option.bind_eq_some_iff.mp H
    obtain ⟨⟨t491, t492, t493⟩, A270, H⟩ := H
    replace H : ((laws_eqFrac.f t491 t492 t475 t476).bind fun t495 => (if t495 = true then (laws_FnExactMetacentre.j0 k l2 l3 t485 t488 (t493 != t477) a0_0 a0_1 l0_2 t479 t480 t481) else (laws_FnExactMetacentre.j0 k l2 l3 t485 t488 true a0_0 a0_1 l0_2 t479 t480 t481))) = some r := H
    have A27 := Aside0.mk A270
    clear A270
    have HC28 := Aside0.mk H
    clear H
    go_enter Try.func14, Try.ntmps14
    go_upto_region 16 with (first | ((with_reducible refine gate_dst (N := 4) rfl ?_); refine box_event ?hg (N := 4) ?hd (cs := #[.int .i64 a0_0, .int .i64 a0_1, .slice A0_2 l0_2.length c0_2]) (t := 36) ?hr ?_; (case hd => rfl); (case hg => rfl); (case hr => first | (go_simp; done) | (go_simp; rfl)); intro gb460 hg w29 hbox hb; have n0_ := Aside0.mk (below_step (by repeat (first | (with_reducible first | exact HB.out | apply below_alloc | apply pw_below_drewN | apply below_drew1) | exact HB.out)) hb); have n1_ := Aside0.mk (hbox); have n2_ := Aside0.mk ((by rw [hg]; exact (below_size (by repeat (first | (with_reducible first | exact HB.out | apply below_alloc | apply pw_below_drewN | apply below_drew1) | exact HB.out))) : w.heap.size ≤ gb460)); have n3_ := Aside0.mk ((by rw [hg]; exact (below_size (by repeat (first | (with_reducible first | exact HB.out | apply below_alloc | apply pw_below_drewN | apply below_drew1) | exact HB.out))) : w.heap.size ≤ gb460)); clear HB; have HB := n0_; have BK460 := n1_; have GW460 := n2_; have GE460 := n3_; clear n0_ n1_ n2_ n3_; clear hb hbox hg; have hcz30_0 : w29.cell? ⟨gb460, 0, none⟩ = some (.int .i64 a0_0) := (blk_cell BK460.out 0).trans rfl; have hcz30_1 : w29.cell? ⟨gb460, 1, none⟩ = some (.int .i64 a0_1) := (blk_cell BK460.out 1).trans rfl; have hcz30_2 : w29.cell? ⟨gb460, 2, none⟩ = some (.slice A0_2 l0_2.length c0_2) := (blk_cell BK460.out 2).trans rfl; have hfz30_0 := blk_frozen BK460.out 0; have hfz30_1 := blk_frozen BK460.out 1; have hfz30_2 := blk_frozen BK460.out 2) | ((with_reducible refine gate_callee (f := 23) rfl ?_); refine goesL_ (some 19) rfl rfl Try.func23 (by kernel_rfl) rfl #[.agg #[.int .i64 a0_0, .int .i64 a0_1, .slice A0_2 l0_2.length c0_2], .int .i64 1048576] rfl (by (try simp only [List.map_toArray, List.map_cons, List.map_nil]); first | done | rfl | (simp only [List.length_drop, List.length_take]; rfl)) ?_; (with_reducible refine (laws_szHull.calls a0_0 a0_1 _ _ l0_2 1048576 t461 _ ?side1 ?side2 A5.out).mono ?_); (case side1 => repeat (first | exact (Kd.C_below HR0_2.out HB.out) | (with_reducible refine Kd.C_alloc ?_ _) | (with_reducible refine Kd.C_drewN ?_ _) | (with_reducible refine Kd.C_drew ?_))); (case side2 => exact HC0_2.out); rintro e w31 ⟨rfl, hb⟩; refine ⟨_, rfl, ?_⟩; have n0_ := Aside0.mk (blk_below (g := gb460) (o := .cells #[.int .i64 a0_0, .int .i64 a0_1, .slice A0_2 l0_2.length c0_2] 36 (0, 0)) (by (with_reducible repeat (first | refine z1 ?_ _ | refine z2 ?_ | refine z3 ?_ _)); exact BK460.out) hb); have n1_ := Aside0.mk (below_step (by repeat (first | (with_reducible first | exact HB.out | apply below_alloc | apply pw_below_drewN | apply below_drew1 | refine below_set ?_ GE460.out) | exact HB.out)) hb); clear BK460; clear HB; have BK460 := n0_; have HB := n1_; clear n0_ n1_; (try clear hb); (try clear hb2); (try clear hk); (try clear hi)) | ((with_reducible refine gate_callee (f := 15) rfl ?_); refine goesL_ (some 24) rfl rfl Try.func15 (by kernel_rfl) rfl #[.slice A2 l2.length c2, .int .i64 t461] rfl (by (try simp only [List.map_toArray, List.map_cons, List.map_nil]); first | done | rfl | (simp only [List.length_drop, List.length_take]; rfl)) ?_; (with_reducible refine (laws_szMassS.calls _ _ l2 t461 t462 _ ?side1 ?side2 A10.out).mono ?_); (case side1 => repeat (first | exact (Kd.C_below HR2.out HB.out) | (with_reducible refine Kd.C_alloc ?_ _) | (with_reducible refine Kd.C_drewN ?_ _) | (with_reducible refine Kd.C_drew ?_))); (case side2 => exact HC2.out); rintro e w' ⟨rfl, ⟨nd, rfl⟩⟩; refine ⟨_, rfl, ?_⟩; (try (rw [drewN_self w31]; generalize hq_ : World.drewN w31 _ = w31; have n0_ : Aside0 (w31.heap[gb460]? = some (.cells #[.int .i64 a0_0, .int .i64 a0_1, .slice A0_2 l0_2.length c0_2] 36 (0, 0))) := ⟨by rw [← hq_]; exact (by (with_reducible repeat (first | refine z1 ?_ _ | refine z2 ?_ | refine z3 ?_ _)); exact BK460.out)⟩; have n1_ : Aside0 (Below w.heap.size w w31) := ⟨by rw [← hq_]; exact (by repeat (first | (with_reducible first | exact HB.out | apply below_alloc | apply pw_below_drewN | apply below_drew1 | refine below_set ?_ GE460.out) | exact HB.out))⟩; clear BK460 HB hq_; have BK460 := n0_; have HB := n1_; clear n0_ n1_))) | ((with_reducible refine gate_callee (f := 51) rfl ?_); refine goesL_ (some 29) rfl rfl Try.func51 (by kernel_rfl) rfl #[.slice A3 l3.length c3, .int .i64 t462] rfl (by (try simp only [List.map_toArray, List.map_cons, List.map_nil]); first | done | rfl | (simp only [List.length_drop, List.length_take]; rfl)) ?_; (with_reducible refine (laws_szTankS.calls _ _ l3 t462 t463 _ ?side1 ?side2 A15.out).mono ?_); (case side1 => repeat (first | exact (Kd.C_below HR3.out HB.out) | (with_reducible refine Kd.C_alloc ?_ _) | (with_reducible refine Kd.C_drewN ?_ _) | (with_reducible refine Kd.C_drew ?_))); (case side2 => exact HC3.out); rintro e w' ⟨rfl, ⟨nd, rfl⟩⟩; refine ⟨_, rfl, ?_⟩; (try (rw [drewN_self w31]; generalize hq_ : World.drewN w31 _ = w31; have n0_ : Aside0 (w31.heap[gb460]? = some (.cells #[.int .i64 a0_0, .int .i64 a0_1, .slice A0_2 l0_2.length c0_2] 36 (0, 0))) := ⟨by rw [← hq_]; exact (by (with_reducible repeat (first | refine z1 ?_ _ | refine z2 ?_ | refine z3 ?_ _)); exact BK460.out)⟩; have n1_ : Aside0 (Below w.heap.size w w31) := ⟨by rw [← hq_]; exact (by repeat (first | (with_reducible first | exact HB.out | apply below_alloc | apply pw_below_drewN | apply below_drew1 | refine below_set ?_ GE460.out) | exact HB.out))⟩; clear BK460 HB hq_; have BK460 := n0_; have HB := n1_; clear n0_ n1_)); have hcz32_0 : w31.cell? ⟨gb460, 0, none⟩ = some (.int .i64 a0_0) := (blk_cell BK460.out 0).trans rfl; have hcz32_1 : w31.cell? ⟨gb460, 1, none⟩ = some (.int .i64 a0_1) := (blk_cell BK460.out 1).trans rfl; have hcz32_2 : w31.cell? ⟨gb460, 2, none⟩ = some (.slice A0_2 l0_2.length c0_2) := (blk_cell BK460.out 2).trans rfl; have hfz32_0 := blk_frozen BK460.out 0; have hfz32_1 := blk_frozen BK460.out 1; have hfz32_2 := blk_frozen BK460.out 2) | ((with_reducible refine gate_callee (f := 25) rfl ?_); refine goesL_ (some 34) rfl rfl Try.func25 (by kernel_rfl) rfl #[.agg #[.int .i64 a0_0, .int .i64 a0_1, .slice A0_2 l0_2.length c0_2]] rfl (by (try simp only [List.map_toArray, List.map_cons, List.map_nil]); first | done | rfl | (simp only [List.length_drop, List.length_take]; rfl)) ?_; (with_reducible refine (laws_toHull.calls a0_0 a0_1 _ _ l0_2 t464 t465 t466 _ ?side1 ?side2 A20.out).mono ?_); (case side1 => repeat (first | exact (Kd.C_below HR0_2.out HB.out) | (with_reducible refine Kd.C_alloc ?_ _) | (with_reducible refine Kd.C_drewN ?_ _) | (with_reducible refine Kd.C_drew ?_))); (case side2 => exact HC0_2.out); rintro e w33 ⟨v467, rfl, ho0, hb⟩; refine ⟨_, rfl, ?_⟩; have n0_ := Aside0.mk (Kd.S_lower ho0 (below_size (by repeat (first | (with_reducible first | exact HB.out | apply below_alloc | apply pw_below_drewN | apply below_drew1 | refine below_set ?_ GE460.out) | exact HB.out)))); have n1_ := Aside0.mk (blk_below (g := gb460) (o := .cells #[.int .i64 a0_0, .int .i64 a0_1, .slice A0_2 l0_2.length c0_2] 36 (0, 0)) (by (with_reducible repeat (first | refine z1 ?_ _ | refine z2 ?_ | refine z3 ?_ _)); exact BK460.out) hb); have n2_ := Aside0.mk (below_step (by repeat (first | (with_reducible first | exact HB.out | apply below_alloc | apply pw_below_drewN | apply below_drew1 | refine below_set ?_ GE460.out) | exact HB.out)) hb); clear BK460; clear HB; have HO468 := n0_; have BK460 := n1_; have HB := n2_; clear n0_ n1_ n2_; (try clear hb); (try clear hb2); (try clear hk); (try clear hi); (try clear ho0)) | ((with_reducible refine gate_callee (f := 17) rfl ?_); refine goesL_ (some 37) rfl rfl Try.func17 (by kernel_rfl) rfl #[.slice A2 l2.length c2] rfl (by (try simp only [List.map_toArray, List.map_cons, List.map_nil]); first | done | rfl | (simp only [List.length_drop, List.length_take]; rfl)) ?_; (with_reducible refine (laws_toMassS.calls k _ _ l2 t469 _ ?side1 ?side2 A21.out).mono ?_); (case side1 => repeat (first | exact (Kd.C_below HR2.out HB.out) | (with_reducible refine Kd.C_alloc ?_ _) | (with_reducible refine Kd.C_drewN ?_ _) | (with_reducible refine Kd.C_drew ?_))); (case side2 => exact HC2.out); rintro e w34 ⟨v470, rfl, ho0, hb⟩; refine ⟨_, rfl, ?_⟩; have n0_ := Aside0.mk (Kd.S_below (by (with_reducible repeat (first | apply Kd.S_alloc | apply Kd.S_drewN | apply Kd.S_drew)); exact HO468.out) hb); have n1_ := Aside0.mk (Kd.R_lower ho0 (below_size (by repeat (first | (with_reducible first | exact HB.out | apply below_alloc | apply pw_below_drewN | apply below_drew1 | refine below_set ?_ GE460.out) | exact HB.out)))); have n2_ := Aside0.mk (blk_below (g := gb460) (o := .cells #[.int .i64 a0_0, .int .i64 a0_1, .slice A0_2 l0_2.length c0_2] 36 (0, 0)) (by (with_reducible repeat (first | refine z1 ?_ _ | refine z2 ?_ | refine z3 ?_ _)); exact BK460.out) hb); have n3_ := Aside0.mk (below_step (by repeat (first | (with_reducible first | exact HB.out | apply below_alloc | apply pw_below_drewN | apply below_drew1 | refine below_set ?_ GE460.out) | exact HB.out)) hb); clear HO468; clear BK460; clear HB; have HO468 := n0_; have HO471 := n1_; have BK460 := n2_; have HB := n3_; clear n0_ n1_ n2_ n3_; (try clear hb); (try clear hb2); (try clear hk); (try clear hi); (try clear ho0)) | ((with_reducible refine gate_callee (f := 53) rfl ?_); refine goesL_ (some 39) rfl rfl Try.func53 (by kernel_rfl) rfl #[.slice A3 l3.length c3] rfl (by (try simp only [List.map_toArray, List.map_cons, List.map_nil]); first | done | rfl | (simp only [List.length_drop, List.length_take]; rfl)) ?_; (with_reducible refine (laws_toTankS.calls k _ _ l3 t472 _ ?side1 ?side2 A22.out).mono ?_); (case side1 => repeat (first | exact (Kd.C_below HR3.out HB.out) | (with_reducible refine Kd.C_alloc ?_ _) | (with_reducible refine Kd.C_drewN ?_ _) | (with_reducible refine Kd.C_drew ?_))); (case side2 => exact HC3.out); rintro e w35 ⟨v473, rfl, ho0, hb⟩; refine ⟨_, rfl, ?_⟩; have n0_ := Aside0.mk (Kd.S_below (by (with_reducible repeat (first | apply Kd.S_alloc | apply Kd.S_drewN | apply Kd.S_drew)); exact HO468.out) hb); have n1_ := Aside0.mk (Kd.R_below (by (with_reducible repeat (first | apply Kd.R_alloc | apply Kd.R_drewN | apply Kd.R_drew)); exact HO471.out) hb); have n2_ := Aside0.mk (Kd.R_lower ho0 (below_size (by repeat (first | (with_reducible first | exact HB.out | apply below_alloc | apply pw_below_drewN | apply below_drew1 | refine below_set ?_ GE460.out) | exact HB.out)))); have n3_ := Aside0.mk (blk_below (g := gb460) (o := .cells #[.int .i64 a0_0, .int .i64 a0_1, .slice A0_2 l0_2.length c0_2] 36 (0, 0)) (by (with_reducible repeat (first | refine z1 ?_ _ | refine z2 ?_ | refine z3 ?_ _)); exact BK460.out) hb); have n4_ := Aside0.mk (below_step (by repeat (first | (with_reducible first | exact HB.out | apply below_alloc | apply pw_below_drewN | apply below_drew1 | refine below_set ?_ GE460.out) | exact HB.out)) hb); clear HO468; clear HO471; clear BK460; clear HB; have HO468 := n0_; have HO471 := n1_; have HO474 := n2_; have BK460 := n3_; have HB := n4_; clear n0_ n1_ n2_ n3_ n4_; (try clear hb); (try clear hb2); (try clear hk); (try clear hi); (try clear ho0); obtain ⟨Ao36, co36, eo36⟩ := Kd.S_slice HO468.out; subst eo36; obtain ⟨Ao37, co37, eo37⟩ := Kd.R_slice HO471.out; subst eo37; obtain ⟨Ao38, co38, eo38⟩ := Kd.R_slice HO474.out; subst eo38) | ((with_reducible refine gate_callee (f := 52) rfl ?_); refine goesL_ (some 40) rfl rfl Try.func52 (by kernel_rfl) rfl #[.agg #[.int .i64 t464, .int .i64 t465, .slice Ao36 t466.length co36], .int .i64 a1, .slice Ao37 t469.length co37, .slice Ao38 t472.length co38] rfl (by (try simp only [List.map_toArray, List.map_cons, List.map_nil]); first | done | rfl | (simp only [List.length_drop, List.length_take]; rfl)) ?_; (with_reducible refine (spec_Metacentre.calls k t464 t465 _ _ t466 a1 _ _ t469 _ _ t472 t475 t476 t477 _ ?side1 ?side2 ?side3 ?side4 ?side5 ?side6 A23.out).mono ?_); (case side1 => repeat (first | exact (Kd.S_reads' HO468.out).2.2 | (with_reducible refine Kd.C_alloc ?_ _) | (with_reducible refine Kd.C_drewN ?_ _) | (with_reducible refine Kd.C_drew ?_))); (case side2 => exact (Kd.S_reads' HO468.out).2.1); (case side3 => repeat (first | exact (Kd.R_reads' HO471.out).2.2 | (with_reducible refine Kd.C_alloc ?_ _) | (with_reducible refine Kd.C_drewN ?_ _) | (with_reducible refine Kd.C_drew ?_))); (case side4 => exact (Kd.R_reads' HO471.out).2.1); (case side5 => repeat (first | exact (Kd.R_reads' HO474.out).2.2 | (with_reducible refine Kd.C_alloc ?_ _) | (with_reducible refine Kd.C_drewN ?_ _) | (with_reducible refine Kd.C_drew ?_))); (case side6 => exact (Kd.R_reads' HO474.out).2.1); rintro e w39 ⟨rfl, hb⟩; refine ⟨_, rfl, ?_⟩; have n0_ := Aside0.mk (Kd.S_below (by (with_reducible repeat (first | apply Kd.S_alloc | apply Kd.S_drewN | apply Kd.S_drew)); exact HO468.out) hb); have n1_ := Aside0.mk (Kd.R_below (by (with_reducible repeat (first | apply Kd.R_alloc | apply Kd.R_drewN | apply Kd.R_drew)); exact HO471.out) hb); have n2_ := Aside0.mk (Kd.R_below (by (with_reducible repeat (first | apply Kd.R_alloc | apply Kd.R_drewN | apply Kd.R_drew)); exact HO474.out) hb); have n3_ := Aside0.mk (blk_below (g := gb460) (o := .cells #[.int .i64 a0_0, .int .i64 a0_1, .slice A0_2 l0_2.length c0_2] 36 (0, 0)) (by (with_reducible repeat (first | refine z1 ?_ _ | refine z2 ?_ | refine z3 ?_ _)); exact BK460.out) hb); have n4_ := Aside0.mk (below_step (by repeat (first | (with_reducible first | exact HB.out | apply below_alloc | apply pw_below_drewN | apply below_drew1 | refine below_set ?_ GE460.out) | exact HB.out)) hb); clear HO468; clear HO471; clear HO474; clear BK460; clear HB; have HO468 := n0_; have HO471 := n1_; have HO474 := n2_; have BK460 := n3_; have HB := n4_; clear n0_ n1_ n2_ n3_ n4_; (try clear hb); (try clear hb2); (try clear hk); (try clear hi)) | ((with_reducible refine gate_dst (N := 10) rfl ?_); refine box_event ?hg (N := 10) ?hd (cs := #[.int .i64 0, .int .i64 0]) (t := 59) ?hr ?_; (case hd => rfl); (case hg => rfl); (case hr => first | (go_simp; done) | (go_simp; rfl)); intro gb478 hg w40 hbox hb; have n0_ := Aside0.mk (Kd.S_below (by (with_reducible repeat (first | apply Kd.S_alloc | apply Kd.S_drewN | apply Kd.S_drew)); exact HO468.out) hb); have n1_ := Aside0.mk (Kd.R_below (by (with_reducible repeat (first | apply Kd.R_alloc | apply Kd.R_drewN | apply Kd.R_drew)); exact HO471.out) hb); have n2_ := Aside0.mk (Kd.R_below (by (with_reducible repeat (first | apply Kd.R_alloc | apply Kd.R_drewN | apply Kd.R_drew)); exact HO474.out) hb); have n3_ := Aside0.mk (blk_below (g := gb460) (o := .cells #[.int .i64 a0_0, .int .i64 a0_1, .slice A0_2 l0_2.length c0_2] 36 (0, 0)) (by (with_reducible repeat (first | refine z1 ?_ _ | refine z2 ?_ | refine z3 ?_ _)); exact BK460.out) hb); have n4_ := Aside0.mk (below_step (by repeat (first | (with_reducible first | exact HB.out | apply below_alloc | apply pw_below_drewN | apply below_drew1 | refine below_set ?_ GE460.out) | exact HB.out)) hb); have n5_ := Aside0.mk (hbox); have n6_ := Aside0.mk ((by rw [hg]; exact (below_size (by repeat (first | (with_reducible first | exact HB.out | apply below_alloc | apply pw_below_drewN | apply below_drew1 | refine below_set ?_ GE460.out) | exact HB.out))) : w.heap.size ≤ gb478)); have n7_ := Aside0.mk ((by rw [hg]; exact (below_size (by repeat (first | (with_reducible first | exact HB.out | apply below_alloc | apply pw_below_drewN | apply below_drew1 | refine below_set ?_ GE460.out) | exact HB.out))) : w.heap.size ≤ gb478)); have n8_ := Aside0.mk ((by rw [hg]; exact Nat.ne_of_lt (blk_lt (g := gb460) (o := .cells #[.int .i64 a0_0, .int .i64 a0_1, .slice A0_2 l0_2.length c0_2] 36 (0, 0)) (by (with_reducible repeat (first | refine z1 ?_ _ | refine z2 ?_ | refine z3 ?_ _)); exact BK460.out)) : gb460 ≠ gb478)); have n9_ := Aside0.mk ((by rw [hg]; exact Nat.ne_of_gt (blk_lt (g := gb460) (o := .cells #[.int .i64 a0_0, .int .i64 a0_1, .slice A0_2 l0_2.length c0_2] 36 (0, 0)) (by (with_reducible repeat (first | refine z1 ?_ _ | refine z2 ?_ | refine z3 ?_ _)); exact BK460.out)) : gb478 ≠ gb460)); clear HO468; clear HO471; clear HO474; clear BK460; clear HB; have HO468 := n0_; have HO471 := n1_; have HO474 := n2_; have BK460 := n3_; have HB := n4_; have BK478 := n5_; have GW478 := n6_; have GE478 := n7_; have NB460_478 := n8_; have NB478_460 := n9_; clear n0_ n1_ n2_ n3_ n4_ n5_ n6_ n7_ n8_ n9_; clear hb hbox hg; have hnb41 := NB478_460.out; have hnc41 := NB460_478.out; have hcz42_0 : w40.cell? ⟨gb478, 0, none⟩ = some (.int .i64 0) := (blk_cell BK478.out 0).trans rfl; have hcz42_1 : w40.cell? ⟨gb478, 1, none⟩ = some (.int .i64 0) := (blk_cell BK478.out 1).trans rfl; have hfz42_0 := blk_frozen BK478.out 0; have hfz42_1 := blk_frozen BK478.out 1; have hcz43_0 : w40.cell? ⟨gb460, 0, none⟩ = some (.int .i64 a0_0) := (blk_cell BK460.out 0).trans rfl; have hcz43_1 : w40.cell? ⟨gb460, 1, none⟩ = some (.int .i64 a0_1) := (blk_cell BK460.out 1).trans rfl; have hcz43_2 : w40.cell? ⟨gb460, 2, none⟩ = some (.slice A0_2 l0_2.length c0_2) := (blk_cell BK460.out 2).trans rfl; have hfz43_0 := blk_frozen BK460.out 0; have hfz43_1 := blk_frozen BK460.out 1; have hfz43_2 := blk_frozen BK460.out 2) | ((with_reducible refine gate_callee (f := 25) rfl ?_); refine goesL_ (some 44) rfl rfl Try.func25 (by kernel_rfl) rfl #[.agg #[.int .i64 a0_0, .int .i64 a0_1, .slice A0_2 l0_2.length c0_2]] rfl (by (try simp only [List.map_toArray, List.map_cons, List.map_nil]); first | done | rfl | (simp only [List.length_drop, List.length_take]; rfl)) ?_; (with_reducible refine (laws_toHull.calls a0_0 a0_1 _ _ l0_2 t479 t480 t481 _ ?side1 ?side2 A24.out).mono ?_); (case side1 => exact Kd.C_below HR0_2.out (by repeat (first | (with_reducible first | exact HB.out | apply below_alloc | apply pw_below_drewN | apply below_drew1 | refine below_set ?_ GE460.out | refine below_set ?_ GE478.out) | exact HB.out))); (case side2 => exact HC0_2.out); rintro e w44 ⟨v482, rfl, ho0, hb⟩; refine ⟨_, rfl, ?_⟩; have n0_ := Aside0.mk (Kd.S_elder' (by (with_reducible repeat (first | apply Kd.S_alloc | apply Kd.S_drewN | apply Kd.S_drew)); exact (Kd.S_mono (Kd.S_far (p := ⟨gb478, 1, none⟩) (Kd.S_far (p := ⟨gb478, 0, none⟩) (Kd.S_types HO468.out BK478.out (by decide)) (fun _ hk => hk.2) (.int .i64 t475)) (fun _ hk => hk.2) (.int .i64 t476)) (fun _ h_ => h_.1))) (Kd.S_base ho0) hb); have n1_ := Aside0.mk (Kd.R_below (by (with_reducible repeat (first | apply Kd.R_alloc | apply Kd.R_drewN | apply Kd.R_drew)); exact (Kd.R_mono (Kd.R_far (p := ⟨gb478, 1, none⟩) (Kd.R_far (p := ⟨gb478, 0, none⟩) (Kd.R_types HO471.out BK478.out (by decide)) (fun _ hk => hk.2) (.int .i64 t475)) (fun _ hk => hk.2) (.int .i64 t476)) (fun _ h_ => h_.1))) hb); have n2_ := Aside0.mk (Kd.R_below (by (with_reducible repeat (first | apply Kd.R_alloc | apply Kd.R_drewN | apply Kd.R_drew)); exact (Kd.R_mono (Kd.R_far (p := ⟨gb478, 1, none⟩) (Kd.R_far (p := ⟨gb478, 0, none⟩) (Kd.R_types HO474.out BK478.out (by decide)) (fun _ hk => hk.2) (.int .i64 t475)) (fun _ hk => hk.2) (.int .i64 t476)) (fun _ h_ => h_.1))) hb); have n3_ := Aside0.mk (Kd.S_lower (Kd.S_new' ho0 (Kd.S_lt (by (with_reducible repeat (first | apply Kd.S_alloc | apply Kd.S_drewN | apply Kd.S_drew)); exact (Kd.S_mono (Kd.S_far (p := ⟨gb478, 1, none⟩) (Kd.S_far (p := ⟨gb478, 0, none⟩) (Kd.S_types HO468.out BK478.out (by decide)) (fun _ hk => hk.2) (.int .i64 t475)) (fun _ hk => hk.2) (.int .i64 t476)) (fun _ h_ => h_.1))))) (below_size (by repeat (first | (with_reducible first | exact HB.out | apply below_alloc | apply pw_below_drewN | apply below_drew1 | refine below_set ?_ GE460.out | refine below_set ?_ GE478.out) | exact HB.out)))); have n4_ := Aside0.mk (blk_below (g := gb460) (o := .cells #[.int .i64 a0_0, .int .i64 a0_1, .slice A0_2 l0_2.length c0_2] 36 (0, 0)) (by (with_reducible repeat (first | refine blk_drewN ?_ _ | refine blk_drew ?_ | refine blk_alloc ?_ _)); refine blk_far ?_ NB460_478.out _; (with_reducible repeat (first | refine blk_drewN ?_ _ | refine blk_drew ?_ | refine blk_alloc ?_ _)); refine blk_far ?_ NB460_478.out _; (with_reducible repeat (first | refine blk_drewN ?_ _ | refine blk_drew ?_ | refine blk_alloc ?_ _)); exact BK460.out) hb); have n5_ := Aside0.mk (blk_below (g := gb478) (o := .cells #[.int .i64 t475, .int .i64 t476] 59 (0, 0)) (by (with_reducible repeat (first | refine blk_drewN ?_ _ | refine blk_drew ?_ | refine blk_alloc ?_ _)); refine blk_put (cs := #[.int .i64 t475, .int .i64 0]) ?_ 1 _ rfl; (with_reducible repeat (first | refine blk_drewN ?_ _ | refine blk_drew ?_ | refine blk_alloc ?_ _)); refine blk_put (cs := #[.int .i64 0, .int .i64 0]) ?_ 0 _ rfl; (with_reducible repeat (first | refine blk_drewN ?_ _ | refine blk_drew ?_ | refine blk_alloc ?_ _)); exact BK478.out) hb); have n6_ := Aside0.mk (below_step (by repeat (first | (with_reducible first | exact HB.out | apply below_alloc | apply pw_below_drewN | apply below_drew1 | refine below_set ?_ GE460.out | refine below_set ?_ GE478.out) | exact HB.out)) hb); clear HO468; clear HO471; clear HO474; clear BK460; clear BK478; clear HB; have HO468 := n0_; have HO471 := n1_; have HO474 := n2_; have HO483 := n3_; have BK460 := n4_; have BK478 := n5_; have HB := n6_; clear n0_ n1_ n2_ n3_ n4_ n5_ n6_; (try clear hb); (try clear hb2); (try clear hk); (try clear hi); (try clear ho0)) | ((with_reducible refine gate_dst (N := 12) rfl ?_); refine box_event ?hg (N := 12) ?hd (cs := #[.int .i64 0, .int .i64 0, .slice none 0 0]) (t := 39) ?hr ?_; (case hd => rfl); (case hg => rfl); (case hr => first | (go_simp; done) | (go_simp; rfl)); intro gb484 hg w45 hbox hb; have n0_ := Aside0.mk (Kd.S_below (by (with_reducible repeat (first | apply Kd.S_alloc | apply Kd.S_drewN | apply Kd.S_drew)); exact HO468.out) hb); have n1_ := Aside0.mk (Kd.R_below (by (with_reducible repeat (first | apply Kd.R_alloc | apply Kd.R_drewN | apply Kd.R_drew)); exact HO471.out) hb); have n2_ := Aside0.mk (Kd.R_below (by (with_reducible repeat (first | apply Kd.R_alloc | apply Kd.R_drewN | apply Kd.R_drew)); exact HO474.out) hb); have n3_ := Aside0.mk (Kd.S_below (by (with_reducible repeat (first | apply Kd.S_alloc | apply Kd.S_drewN | apply Kd.S_drew)); exact HO483.out) hb); have n4_ := Aside0.mk (blk_below (g := gb460) (o := .cells #[.int .i64 a0_0, .int .i64 a0_1, .slice A0_2 l0_2.length c0_2] 36 (0, 0)) (by (with_reducible repeat (first | refine z1 ?_ _ | refine z2 ?_ | refine z3 ?_ _)); exact BK460.out) hb); have n5_ := Aside0.mk (blk_below (g := gb478) (o := .cells #[.int .i64 t475, .int .i64 t476] 59 (0, 0)) (by (with_reducible repeat (first | refine z1 ?_ _ | refine z2 ?_ | refine z3 ?_ _)); exact BK478.out) hb); have n6_ := Aside0.mk (below_step (by repeat (first | (with_reducible first | exact HB.out | apply below_alloc | apply pw_below_drewN | apply below_drew1 | refine below_set ?_ GE460.out | refine below_set ?_ GE478.out) | exact HB.out)) hb); have n7_ := Aside0.mk (hbox); have n8_ := Aside0.mk ((by rw [hg]; exact (below_size (by repeat (first | (with_reducible first | exact HB.out | apply below_alloc | apply pw_below_drewN | apply below_drew1 | refine below_set ?_ GE460.out | refine below_set ?_ GE478.out) | exact HB.out))) : w.heap.size ≤ gb484)); have n9_ := Aside0.mk ((by rw [hg]; exact (below_size (by repeat (first | (with_reducible first | exact HB.out | apply below_alloc | apply pw_below_drewN | apply below_drew1 | refine below_set ?_ GE460.out | refine below_set ?_ GE478.out) | exact HB.out))) : w.heap.size ≤ gb484)); have n10_ := Aside0.mk ((by rw [hg]; exact Nat.ne_of_lt (blk_lt (g := gb460) (o := .cells #[.int .i64 a0_0, .int .i64 a0_1, .slice A0_2 l0_2.length c0_2] 36 (0, 0)) (by (with_reducible repeat (first | refine z1 ?_ _ | refine z2 ?_ | refine z3 ?_ _)); exact BK460.out)) : gb460 ≠ gb484)); have n11_ := Aside0.mk ((by rw [hg]; exact Nat.ne_of_gt (blk_lt (g := gb460) (o := .cells #[.int .i64 a0_0, .int .i64 a0_1, .slice A0_2 l0_2.length c0_2] 36 (0, 0)) (by (with_reducible repeat (first | refine z1 ?_ _ | refine z2 ?_ | refine z3 ?_ _)); exact BK460.out)) : gb484 ≠ gb460)); have n12_ := Aside0.mk ((by rw [hg]; exact Nat.ne_of_lt (blk_lt (g := gb478) (o := .cells #[.int .i64 t475, .int .i64 t476] 59 (0, 0)) (by (with_reducible repeat (first | refine z1 ?_ _ | refine z2 ?_ | refine z3 ?_ _)); exact BK478.out)) : gb478 ≠ gb484)); have n13_ := Aside0.mk ((by rw [hg]; exact Nat.ne_of_gt (blk_lt (g := gb478) (o := .cells #[.int .i64 t475, .int .i64 t476] 59 (0, 0)) (by (with_reducible repeat (first | refine z1 ?_ _ | refine z2 ?_ | refine z3 ?_ _)); exact BK478.out)) : gb484 ≠ gb478)); clear HO468; clear HO471; clear HO474; clear HO483; clear BK460; clear BK478; clear HB; have HO468 := n0_; have HO471 := n1_; have HO474 := n2_; have HO483 := n3_; have BK460 := n4_; have BK478 := n5_; have HB := n6_; have BK484 := n7_; have GW484 := n8_; have GE484 := n9_; have NB460_484 := n10_; have NB484_460 := n11_; have NB478_484 := n12_; have NB484_478 := n13_; clear n0_ n1_ n2_ n3_ n4_ n5_ n6_ n7_ n8_ n9_ n10_ n11_ n12_ n13_; clear hb hbox hg; have hnb46 := NB484_460.out; have hnc46 := NB460_484.out; have hnb47 := NB484_478.out; have hnc47 := NB478_484.out; have hcz48_0 : w45.cell? ⟨gb484, 0, none⟩ = some (.int .i64 0) := (blk_cell BK484.out 0).trans rfl; have hcz48_1 : w45.cell? ⟨gb484, 1, none⟩ = some (.int .i64 0) := (blk_cell BK484.out 1).trans rfl; have hcz48_2 : w45.cell? ⟨gb484, 2, none⟩ = some (.slice none 0 0) := (blk_cell BK484.out 2).trans rfl; have hfz48_0 := blk_frozen BK484.out 0; have hfz48_1 := blk_frozen BK484.out 1; have hfz48_2 := blk_frozen BK484.out 2; obtain ⟨Ao49, co49, eo49⟩ := Kd.S_slice HO483.out; subst eo49) | ((with_reducible refine gate_callee (f := 17) rfl ?_); refine goesL_ (some 46) rfl rfl Try.func17 (by kernel_rfl) rfl #[.slice A2 l2.length c2] rfl (by (try simp only [List.map_toArray, List.map_cons, List.map_nil]); first | done | rfl | (simp only [List.length_drop, List.length_take]; rfl)) ?_; (with_reducible refine (laws_toMassS.calls k _ _ l2 t485 _ ?side1 ?side2 A25.out).mono ?_); (case side1 => exact Kd.C_below HR2.out (by repeat (first | (with_reducible first | exact HB.out | apply below_alloc | apply pw_below_drewN | apply below_drew1 | refine below_set ?_ GE460.out | refine below_set ?_ GE478.out | refine below_set ?_ GE484.out) | exact HB.out))); (case side2 => exact HC2.out); rintro e w50 ⟨v486, rfl, ho0, hb⟩; refine ⟨_, rfl, ?_⟩; have n0_ := Aside0.mk (Kd.S_below (by (with_reducible repeat (first | apply Kd.S_alloc | apply Kd.S_drewN | apply Kd.S_drew)); exact (Kd.S_mono (Kd.S_far (p := ⟨gb484, 2, none⟩) (Kd.S_far (p := ⟨gb484, 1, none⟩) (Kd.S_far (p := ⟨gb484, 0, none⟩) (Kd.S_types HO468.out BK484.out (by decide)) (fun _ hk => hk.2) (.int .i64 t479)) (fun _ hk => hk.2) (.int .i64 t480)) (fun _ hk => hk.2) (.slice Ao49 t481.length co49)) (fun _ h_ => h_.1))) hb); have n1_ := Aside0.mk (Kd.R_elder' (by (with_reducible repeat (first | apply Kd.R_alloc | apply Kd.R_drewN | apply Kd.R_drew)); exact (Kd.R_mono (Kd.R_far (p := ⟨gb484, 2, none⟩) (Kd.R_far (p := ⟨gb484, 1, none⟩) (Kd.R_far (p := ⟨gb484, 0, none⟩) (Kd.R_types HO471.out BK484.out (by decide)) (fun _ hk => hk.2) (.int .i64 t479)) (fun _ hk => hk.2) (.int .i64 t480)) (fun _ hk => hk.2) (.slice Ao49 t481.length co49)) (fun _ h_ => h_.1))) (Kd.R_base ho0) hb); have n2_ := Aside0.mk (Kd.R_below (by (with_reducible repeat (first | apply Kd.R_alloc | apply Kd.R_drewN | apply Kd.R_drew)); exact (Kd.R_mono (Kd.R_far (p := ⟨gb484, 2, none⟩) (Kd.R_far (p := ⟨gb484, 1, none⟩) (Kd.R_far (p := ⟨gb484, 0, none⟩) (Kd.R_types HO474.out BK484.out (by decide)) (fun _ hk => hk.2) (.int .i64 t479)) (fun _ hk => hk.2) (.int .i64 t480)) (fun _ hk => hk.2) (.slice Ao49 t481.length co49)) (fun _ h_ => h_.1))) hb); have n3_ := Aside0.mk (Kd.S_below (by (with_reducible repeat (first | apply Kd.S_alloc | apply Kd.S_drewN | apply Kd.S_drew)); exact (Kd.S_mono (Kd.S_far (p := ⟨gb484, 2, none⟩) (Kd.S_far (p := ⟨gb484, 1, none⟩) (Kd.S_far (p := ⟨gb484, 0, none⟩) (Kd.S_types HO483.out BK484.out (by decide)) (fun _ hk => hk.2) (.int .i64 t479)) (fun _ hk => hk.2) (.int .i64 t480)) (fun _ hk => hk.2) (.slice Ao49 t481.length co49)) (fun _ h_ => h_.1))) hb); have n4_ := Aside0.mk (Kd.R_lower (Kd.R_new' ho0 (Kd.R_lt (by (with_reducible repeat (first | apply Kd.R_alloc | apply Kd.R_drewN | apply Kd.R_drew)); exact (Kd.R_mono (Kd.R_far (p := ⟨gb484, 2, none⟩) (Kd.R_far (p := ⟨gb484, 1, none⟩) (Kd.R_far (p := ⟨gb484, 0, none⟩) (Kd.R_types HO471.out BK484.out (by decide)) (fun _ hk => hk.2) (.int .i64 t479)) (fun _ hk => hk.2) (.int .i64 t480)) (fun _ hk => hk.2) (.slice Ao49 t481.length co49)) (fun _ h_ => h_.1))))) (below_size (by repeat (first | (with_reducible first | exact HB.out | apply below_alloc | apply pw_below_drewN | apply below_drew1 | refine below_set ?_ GE460.out | refine below_set ?_ GE478.out | refine below_set ?_ GE484.out) | exact HB.out)))); have n5_ := Aside0.mk (blk_below (g := gb460) (o := .cells #[.int .i64 a0_0, .int .i64 a0_1, .slice A0_2 l0_2.length c0_2] 36 (0, 0)) (by (with_reducible repeat (first | refine blk_drewN ?_ _ | refine blk_drew ?_ | refine blk_alloc ?_ _)); refine blk_far ?_ NB460_484.out _; (with_reducible repeat (first | refine blk_drewN ?_ _ | refine blk_drew ?_ | refine blk_alloc ?_ _)); refine blk_far ?_ NB460_484.out _; (with_reducible repeat (first | refine blk_drewN ?_ _ | refine blk_drew ?_ | refine blk_alloc ?_ _)); refine blk_far ?_ NB460_484.out _; (with_reducible repeat (first | refine blk_drewN ?_ _ | refine blk_drew ?_ | refine blk_alloc ?_ _)); exact BK460.out) hb); have n6_ := Aside0.mk (blk_below (g := gb478) (o := .cells #[.int .i64 t475, .int .i64 t476] 59 (0, 0)) (by (with_reducible repeat (first | refine blk_drewN ?_ _ | refine blk_drew ?_ | refine blk_alloc ?_ _)); refine blk_far ?_ NB478_484.out _; (with_reducible repeat (first | refine blk_drewN ?_ _ | refine blk_drew ?_ | refine blk_alloc ?_ _)); refine blk_far ?_ NB478_484.out _; (with_reducible repeat (first | refine blk_drewN ?_ _ | refine blk_drew ?_ | refine blk_alloc ?_ _)); refine blk_far ?_ NB478_484.out _; (with_reducible repeat (first | refine blk_drewN ?_ _ | refine blk_drew ?_ | refine blk_alloc ?_ _)); exact BK478.out) hb); have n7_ := Aside0.mk (blk_below (g := gb484) (o := .cells #[.int .i64 t479, .int .i64 t480, .slice Ao49 t481.length co49] 39 (0, 0)) (by (with_reducible repeat (first | refine blk_drewN ?_ _ | refine blk_drew ?_ | refine blk_alloc ?_ _)); refine blk_put (cs := #[.int .i64 t479, .int .i64 t480, .slice none 0 0]) ?_ 2 _ rfl; (with_reducible repeat (first | refine blk_drewN ?_ _ | refine blk_drew ?_ | refine blk_alloc ?_ _)); refine blk_put (cs := #[.int .i64 t479, .int .i64 0, .slice none 0 0]) ?_ 1 _ rfl; (with_reducible repeat (first | refine blk_drewN ?_ _ | refine blk_drew ?_ | refine blk_alloc ?_ _)); refine blk_put (cs := #[.int .i64 0, .int .i64 0, .slice none 0 0]) ?_ 0 _ rfl; (with_reducible repeat (first | refine blk_drewN ?_ _ | refine blk_drew ?_ | refine blk_alloc ?_ _)); exact BK484.out) hb); have n8_ := Aside0.mk (below_step (by repeat (first | (with_reducible first | exact HB.out | apply below_alloc | apply pw_below_drewN | apply below_drew1 | refine below_set ?_ GE460.out | refine below_set ?_ GE478.out | refine below_set ?_ GE484.out) | exact HB.out)) hb); clear HO468; clear HO471; clear HO474; clear HO483; clear BK460; clear BK478; clear BK484; clear HB; have HO468 := n0_; have HO471 := n1_; have HO474 := n2_; have HO483 := n3_; have HO487 := n4_; have BK460 := n5_; have BK478 := n6_; have BK484 := n7_; have HB := n8_; clear n0_ n1_ n2_ n3_ n4_ n5_ n6_ n7_ n8_; (try clear hb); (try clear hb2); (try clear hk); (try clear hi); (try clear ho0)) | ((with_reducible refine gate_callee (f := 53) rfl ?_); refine goesL_ (some 48) rfl rfl Try.func53 (by kernel_rfl) rfl #[.slice A3 l3.length c3] rfl (by (try simp only [List.map_toArray, List.map_cons, List.map_nil]); first | done | rfl | (simp only [List.length_drop, List.length_take]; rfl)) ?_; (with_reducible refine (laws_toTankS.calls k _ _ l3 t488 _ ?side1 ?side2 A26.out).mono ?_); (case side1 => repeat (first | exact (Kd.C_below HR3.out HB.out) | (with_reducible refine Kd.C_alloc ?_ _) | (with_reducible refine Kd.C_drewN ?_ _) | (with_reducible refine Kd.C_drew ?_))); (case side2 => exact HC3.out); rintro e w51 ⟨v489, rfl, ho0, hb⟩; refine ⟨_, rfl, ?_⟩; have n0_ := Aside0.mk (Kd.S_below (by (with_reducible repeat (first | apply Kd.S_alloc | apply Kd.S_drewN | apply Kd.S_drew)); exact HO468.out) hb); have n1_ := Aside0.mk (Kd.R_below (by (with_reducible repeat (first | apply Kd.R_alloc | apply Kd.R_drewN | apply Kd.R_drew)); exact HO471.out) hb); have n2_ := Aside0.mk (Kd.R_elder' (by (with_reducible repeat (first | apply Kd.R_alloc | apply Kd.R_drewN | apply Kd.R_drew)); exact HO474.out) (Kd.R_base ho0) hb); have n3_ := Aside0.mk (Kd.S_below (by (with_reducible repeat (first | apply Kd.S_alloc | apply Kd.S_drewN | apply Kd.S_drew)); exact HO483.out) hb); have n4_ := Aside0.mk (Kd.R_below (by (with_reducible repeat (first | apply Kd.R_alloc | apply Kd.R_drewN | apply Kd.R_drew)); exact HO487.out) hb); have n5_ := Aside0.mk (Kd.R_lower (Kd.R_new' ho0 (Kd.R_lt (by (with_reducible repeat (first | apply Kd.R_alloc | apply Kd.R_drewN | apply Kd.R_drew)); exact HO474.out))) (below_size (by repeat (first | (with_reducible first | exact HB.out | apply below_alloc | apply pw_below_drewN | apply below_drew1 | refine below_set ?_ GE460.out | refine below_set ?_ GE478.out | refine below_set ?_ GE484.out) | exact HB.out)))); have n6_ := Aside0.mk (blk_below (g := gb460) (o := .cells #[.int .i64 a0_0, .int .i64 a0_1, .slice A0_2 l0_2.length c0_2] 36 (0, 0)) (by (with_reducible repeat (first | refine z1 ?_ _ | refine z2 ?_ | refine z3 ?_ _)); exact BK460.out) hb); have n7_ := Aside0.mk (blk_below (g := gb478) (o := .cells #[.int .i64 t475, .int .i64 t476] 59 (0, 0)) (by (with_reducible repeat (first | refine z1 ?_ _ | refine z2 ?_ | refine z3 ?_ _)); exact BK478.out) hb); have n8_ := Aside0.mk (blk_below (g := gb484) (o := .cells #[.int .i64 t479, .int .i64 t480, .slice Ao49 t481.length co49] 39 (0, 0)) (by (with_reducible repeat (first | refine z1 ?_ _ | refine z2 ?_ | refine z3 ?_ _)); exact BK484.out) hb); have n9_ := Aside0.mk (below_step (by repeat (first | (with_reducible first | exact HB.out | apply below_alloc | apply pw_below_drewN | apply below_drew1 | refine below_set ?_ GE460.out | refine below_set ?_ GE478.out | refine below_set ?_ GE484.out) | exact HB.out)) hb); clear HO468; clear HO471; clear HO474; clear HO483; clear HO487; clear BK460; clear BK478; clear BK484; clear HB; have HO468 := n0_; have HO471 := n1_; have HO474 := n2_; have HO483 := n3_; have HO487 := n4_; have HO490 := n5_; have BK460 := n6_; have BK478 := n7_; have BK484 := n8_; have HB := n9_; clear n0_ n1_ n2_ n3_ n4_ n5_ n6_ n7_ n8_ n9_; (try clear hb); (try clear hb2); (try clear hk); (try clear hi); (try clear ho0); have hcz52_0 : w51.cell? ⟨gb484, 0, none⟩ = some (.int .i64 t479) := (blk_cell BK484.out 0).trans rfl; have hcz52_1 : w51.cell? ⟨gb484, 1, none⟩ = some (.int .i64 t480) := (blk_cell BK484.out 1).trans rfl; have hcz52_2 : w51.cell? ⟨gb484, 2, none⟩ = some (.slice Ao49 t481.length co49) := (blk_cell BK484.out 2).trans rfl; have hfz52_0 := blk_frozen BK484.out 0; have hfz52_1 := blk_frozen BK484.out 1; have hfz52_2 := blk_frozen BK484.out 2; obtain ⟨Ao53, co53, eo53⟩ := Kd.R_slice HO487.out; subst eo53; obtain ⟨Ao54, co54, eo54⟩ := Kd.R_slice HO490.out; subst eo54) | ((with_reducible refine gate_callee (f := 54) rfl ?_); refine goesL_ (some 54) rfl rfl Try.func54 (by kernel_rfl) rfl #[.agg #[.int .i64 t479, .int .i64 t480, .slice Ao49 t481.length co49], .int .i64 a1, .slice Ao53 t485.length co53, .slice Ao54 t488.length co54] rfl (by (try simp only [List.map_toArray, List.map_cons, List.map_nil]); first | done | rfl | (simp only [List.length_drop, List.length_take]; rfl)) ?_; (with_reducible refine (impl_Metacentre.calls k t479 t480 _ _ t481 a1 _ _ t485 _ _ t488 t491 t492 t493 _ ?side1 ?side2 ?side3 ?side4 ?side5 ?side6 A27.out).mono ?_); (case side1 => repeat (first | exact (Kd.S_reads' HO483.out).2.2 | (with_reducible refine Kd.C_alloc ?_ _) | (with_reducible refine Kd.C_drewN ?_ _) | (with_reducible refine Kd.C_drew ?_))); (case side2 => exact (Kd.S_reads' HO483.out).2.1); (case side3 => repeat (first | exact (Kd.R_reads' HO487.out).2.2 | (with_reducible refine Kd.C_alloc ?_ _) | (with_reducible refine Kd.C_drewN ?_ _) | (with_reducible refine Kd.C_drew ?_))); (case side4 => exact (Kd.R_reads' HO487.out).2.1); (case side5 => repeat (first | exact (Kd.R_reads' HO490.out).2.2 | (with_reducible refine Kd.C_alloc ?_ _) | (with_reducible refine Kd.C_drewN ?_ _) | (with_reducible refine Kd.C_drew ?_))); (case side6 => exact (Kd.R_reads' HO490.out).2.1); rintro e w55 ⟨rfl, hb⟩; refine ⟨_, rfl, ?_⟩; have n0_ := Aside0.mk (Kd.S_below (by (with_reducible repeat (first | apply Kd.S_alloc | apply Kd.S_drewN | apply Kd.S_drew)); exact HO468.out) hb); have n1_ := Aside0.mk (Kd.R_below (by (with_reducible repeat (first | apply Kd.R_alloc | apply Kd.R_drewN | apply Kd.R_drew)); exact HO471.out) hb); have n2_ := Aside0.mk (Kd.R_below (by (with_reducible repeat (first | apply Kd.R_alloc | apply Kd.R_drewN | apply Kd.R_drew)); exact HO474.out) hb); have n3_ := Aside0.mk (Kd.S_below (by (with_reducible repeat (first | apply Kd.S_alloc | apply Kd.S_drewN | apply Kd.S_drew)); exact HO483.out) hb); have n4_ := Aside0.mk (Kd.R_below (by (with_reducible repeat (first | apply Kd.R_alloc | apply Kd.R_drewN | apply Kd.R_drew)); exact HO487.out) hb); have n5_ := Aside0.mk (Kd.R_below (by (with_reducible repeat (first | apply Kd.R_alloc | apply Kd.R_drewN | apply Kd.R_drew)); exact HO490.out) hb); have n6_ := Aside0.mk (blk_below (g := gb460) (o := .cells #[.int .i64 a0_0, .int .i64 a0_1, .slice A0_2 l0_2.length c0_2] 36 (0, 0)) (by (with_reducible repeat (first | refine z1 ?_ _ | refine z2 ?_ | refine z3 ?_ _)); exact BK460.out) hb); have n7_ := Aside0.mk (blk_below (g := gb478) (o := .cells #[.int .i64 t475, .int .i64 t476] 59 (0, 0)) (by (with_reducible repeat (first | refine z1 ?_ _ | refine z2 ?_ | refine z3 ?_ _)); exact BK478.out) hb); have n8_ := Aside0.mk (blk_below (g := gb484) (o := .cells #[.int .i64 t479, .int .i64 t480, .slice Ao49 t481.length co49] 39 (0, 0)) (by (with_reducible repeat (first | refine z1 ?_ _ | refine z2 ?_ | refine z3 ?_ _)); exact BK484.out) hb); have n9_ := Aside0.mk (below_step (by repeat (first | (with_reducible first | exact HB.out | apply below_alloc | apply pw_below_drewN | apply below_drew1 | refine below_set ?_ GE460.out | refine below_set ?_ GE478.out | refine below_set ?_ GE484.out) | exact HB.out)) hb); clear HO468; clear HO471; clear HO474; clear HO483; clear HO487; clear HO490; clear BK460; clear BK478; clear BK484; clear HB; have HO468 := n0_; have HO471 := n1_; have HO474 := n2_; have HO483 := n3_; have HO487 := n4_; have HO490 := n5_; have BK460 := n6_; have BK478 := n7_; have BK484 := n8_; have HB := n9_; clear n0_ n1_ n2_ n3_ n4_ n5_ n6_ n7_ n8_ n9_; (try clear hb); (try clear hb2); (try clear hk); (try clear hi)) | ((with_reducible refine gate_dst (N := 15) rfl ?_); refine box_event ?hg (N := 15) ?hd (cs := #[.int .i64 0, .int .i64 0]) (t := 59) ?hr ?_; (case hd => rfl); (case hg => rfl); (case hr => first | (go_simp; done) | (go_simp; rfl)); intro gb494 hg w56 hbox hb; have n0_ := Aside0.mk (Kd.S_below (by (with_reducible repeat (first | apply Kd.S_alloc | apply Kd.S_drewN | apply Kd.S_drew)); exact HO468.out) hb); have n1_ := Aside0.mk (Kd.R_below (by (with_reducible repeat (first | apply Kd.R_alloc | apply Kd.R_drewN | apply Kd.R_drew)); exact HO471.out) hb); have n2_ := Aside0.mk (Kd.R_below (by (with_reducible repeat (first | apply Kd.R_alloc | apply Kd.R_drewN | apply Kd.R_drew)); exact HO474.out) hb); have n3_ := Aside0.mk (Kd.S_below (by (with_reducible repeat (first | apply Kd.S_alloc | apply Kd.S_drewN | apply Kd.S_drew)); exact HO483.out) hb); have n4_ := Aside0.mk (Kd.R_below (by (with_reducible repeat (first | apply Kd.R_alloc | apply Kd.R_drewN | apply Kd.R_drew)); exact HO487.out) hb); have n5_ := Aside0.mk (Kd.R_below (by (with_reducible repeat (first | apply Kd.R_alloc | apply Kd.R_drewN | apply Kd.R_drew)); exact HO490.out) hb); have n6_ := Aside0.mk (blk_below (g := gb460) (o := .cells #[.int .i64 a0_0, .int .i64 a0_1, .slice A0_2 l0_2.length c0_2] 36 (0, 0)) (by (with_reducible repeat (first | refine z1 ?_ _ | refine z2 ?_ | refine z3 ?_ _)); exact BK460.out) hb); have n7_ := Aside0.mk (blk_below (g := gb478) (o := .cells #[.int .i64 t475, .int .i64 t476] 59 (0, 0)) (by (with_reducible repeat (first | refine z1 ?_ _ | refine z2 ?_ | refine z3 ?_ _)); exact BK478.out) hb); have n8_ := Aside0.mk (blk_below (g := gb484) (o := .cells #[.int .i64 t479, .int .i64 t480, .slice Ao49 t481.length co49] 39 (0, 0)) (by (with_reducible repeat (first | refine z1 ?_ _ | refine z2 ?_ | refine z3 ?_ _)); exact BK484.out) hb); have n9_ := Aside0.mk (below_step (by repeat (first | (with_reducible first | exact HB.out | apply below_alloc | apply pw_below_drewN | apply below_drew1 | refine below_set ?_ GE460.out | refine below_set ?_ GE478.out | refine below_set ?_ GE484.out) | exact HB.out)) hb); have n10_ := Aside0.mk (hbox); have n11_ := Aside0.mk ((by rw [hg]; exact (below_size (by repeat (first | (with_reducible first | exact HB.out | apply below_alloc | apply pw_below_drewN | apply below_drew1 | refine below_set ?_ GE460.out | refine below_set ?_ GE478.out | refine below_set ?_ GE484.out) | exact HB.out))) : w.heap.size ≤ gb494)); have n12_ := Aside0.mk ((by rw [hg]; exact (below_size (by repeat (first | (with_reducible first | exact HB.out | apply below_alloc | apply pw_below_drewN | apply below_drew1 | refine below_set ?_ GE460.out | refine below_set ?_ GE478.out | refine below_set ?_ GE484.out) | exact HB.out))) : w.heap.size ≤ gb494)); have n13_ := Aside0.mk ((by rw [hg]; exact Nat.ne_of_lt (blk_lt (g := gb460) (o := .cells #[.int .i64 a0_0, .int .i64 a0_1, .slice A0_2 l0_2.length c0_2] 36 (0, 0)) (by (with_reducible repeat (first | refine z1 ?_ _ | refine z2 ?_ | refine z3 ?_ _)); exact BK460.out)) : gb460 ≠ gb494)); have n14_ := Aside0.mk ((by rw [hg]; exact Nat.ne_of_gt (blk_lt (g := gb460) (o := .cells #[.int .i64 a0_0, .int .i64 a0_1, .slice A0_2 l0_2.length c0_2] 36 (0, 0)) (by (with_reducible repeat (first | refine z1 ?_ _ | refine z2 ?_ | refine z3 ?_ _)); exact BK460.out)) : gb494 ≠ gb460)); have n15_ := Aside0.mk ((by rw [hg]; exact Nat.ne_of_lt (blk_lt (g := gb478) (o := .cells #[.int .i64 t475, .int .i64 t476] 59 (0, 0)) (by (with_reducible repeat (first | refine z1 ?_ _ | refine z2 ?_ | refine z3 ?_ _)); exact BK478.out)) : gb478 ≠ gb494)); have n16_ := Aside0.mk ((by rw [hg]; exact Nat.ne_of_gt (blk_lt (g := gb478) (o := .cells #[.int .i64 t475, .int .i64 t476] 59 (0, 0)) (by (with_reducible repeat (first | refine z1 ?_ _ | refine z2 ?_ | refine z3 ?_ _)); exact BK478.out)) : gb494 ≠ gb478)); have n17_ := Aside0.mk ((by rw [hg]; exact Nat.ne_of_lt (blk_lt (g := gb484) (o := .cells #[.int .i64 t479, .int .i64 t480, .slice Ao49 t481.length co49] 39 (0, 0)) (by (with_reducible repeat (first | refine z1 ?_ _ | refine z2 ?_ | refine z3 ?_ _)); exact BK484.out)) : gb484 ≠ gb494)); have n18_ := Aside0.mk ((by rw [hg]; exact Nat.ne_of_gt (blk_lt (g := gb484) (o := .cells #[.int .i64 t479, .int .i64 t480, .slice Ao49 t481.length co49] 39 (0, 0)) (by (with_reducible repeat (first | refine z1 ?_ _ | refine z2 ?_ | refine z3 ?_ _)); exact BK484.out)) : gb494 ≠ gb484)); clear HO468; clear HO471; clear HO474; clear HO483; clear HO487; clear HO490; clear BK460; clear BK478; clear BK484; clear HB; have HO468 := n0_; have HO471 := n1_; have HO474 := n2_; have HO483 := n3_; have HO487 := n4_; have HO490 := n5_; have BK460 := n6_; have BK478 := n7_; have BK484 := n8_; have HB := n9_; have BK494 := n10_; have GW494 := n11_; have GE494 := n12_; have NB460_494 := n13_; have NB494_460 := n14_; have NB478_494 := n15_; have NB494_478 := n16_; have NB484_494 := n17_; have NB494_484 := n18_; clear n0_ n1_ n2_ n3_ n4_ n5_ n6_ n7_ n8_ n9_ n10_ n11_ n12_ n13_ n14_ n15_ n16_ n17_ n18_; clear hb hbox hg; have hnb57 := NB494_460.out; have hnc57 := NB460_494.out; have hnb58 := NB494_478.out; have hnc58 := NB478_494.out; have hnb59 := NB494_484.out; have hnc59 := NB484_494.out; have hcz60_0 : w56.cell? ⟨gb494, 0, none⟩ = some (.int .i64 0) := (blk_cell BK494.out 0).trans rfl; have hcz60_1 : w56.cell? ⟨gb494, 1, none⟩ = some (.int .i64 0) := (blk_cell BK494.out 1).trans rfl; have hfz60_0 := blk_frozen BK494.out 0; have hfz60_1 := blk_frozen BK494.out 1))
    (try simp only [Act.put, List.setIfInBounds_toArray, List.set_cons_zero, List.set_cons_succ])
    go_cut [65] (fun v65 wc => ∃ (kq : Nat) (x65_27 : Bool), v65 = .bool x65_27 ∧ Aside0 (laws_FnExactMetacentre.j0 kq l2 l3 t485 t488 x65_27 a0_0 a0_1 l0_2 t479 t480 t481 = some r) ∧ Aside0 (kq ≤ k) ∧ Aside0 (Kd.R k68 68 wc w.heap.size (fun _ => True) (.slice Ao53 t485.length co53) t485) ∧ Aside0 (Kd.R k91 91 wc w.heap.size (fun _ => True) (.slice Ao54 t488.length co54) t488) ∧ Aside0 (Kd.S (Kd.slice 3 (Kd.int .i64)) 45 wc w.heap.size (fun _ => True) (.slice Ao49 t481.length co49) t481) ∧ Aside0 (wc.heap[gb460]? = some (.cells #[.int .i64 a0_0, .int .i64 a0_1, (.slice A0_2 l0_2.length c0_2)] 36 (0, 0))) ∧ Aside0 (wc.heap[gb478]? = some (.cells #[.int .i64 t475, .int .i64 t476] 59 (0, 0))) ∧ Aside0 (wc.heap[gb484]? = some (.cells #[.int .i64 t479, .int .i64 t480, (.slice Ao49 t481.length co49)] 39 (0, 0))) ∧ Aside0 (wc.heap[gb494]? = some (.cells #[.int .i64 t491, .int .i64 t492] 59 (0, 0))) ∧ Aside0 (Below w.heap.size w wc))
    case first =>
     have H := HC28.out
     clear HC28
     replace H := Option.bind_eq_some_iff.mp H
     obtain ⟨t495, A610, H⟩ := H
     replace H : (if t495 = true then (laws_FnExactMetacentre.j0 k l2 l3 t485 t488 (t493 != t477) a0_0 a0_1 l0_2 t479 t480 t481) else (laws_FnExactMetacentre.j0 k l2 l3 t485 t488 true a0_0 a0_1 l0_2 t479 t480 t481)) = some r := H
     have A61 := Aside0.mk A610
     clear A610
     by_cases c62 : t495 = true
     ·subst c62
      have H1 : (laws_FnExactMetacentre.j0 k l2 l3 t485 t488 (t493 != t477) a0_0 a0_1 l0_2 t479 t480 t481) = some r := by rw [if_pos rfl] at H; exact H
      clear H
      have H := H1
      clear H1
      have H' := Aside0.mk H
      clear H
      have hnb63 := NB494_460.out
      have hnc63 := NB460_494.out
      have hnb64 := NB494_478.out
      have hnc64 := NB478_494.out
      have hnb65 := NB494_484.out
      have hnc65 := NB484_494.out
      have hcz66_0 : w56.cell? ⟨gb494, 0, none⟩ = some (.int .i64 0) := (blk_cell BK494.out 0).trans rfl
      have hcz66_1 : w56.cell? ⟨gb494, 1, none⟩ = some (.int .i64 0) := (blk_cell BK494.out 1).trans rfl
      have hfz66_0 := blk_frozen BK494.out 0
      have hfz66_1 := blk_frozen BK494.out 1
      have hnb67 := NB478_460.out
      have hnc67 := NB460_478.out
      have hnb68 := NB478_484.out
      have hnc68 := NB484_478.out
      have hcz69_0 : w56.cell? ⟨gb478, 0, none⟩ = some (.int .i64 t475) := (blk_cell BK478.out 0).trans rfl
      have hcz69_1 : w56.cell? ⟨gb478, 1, none⟩ = some (.int .i64 t476) := (blk_cell BK478.out 1).trans rfl
      have hfz69_0 := blk_frozen BK478.out 0
      have hfz69_1 := blk_frozen BK478.out 1
      go_wp2_with (first | ((with_reducible refine gate_callee (f := 55) rfl ?_); refine goesL_ (some 59) rfl rfl Try.func55 (by kernel_rfl) rfl #[.agg #[.int .i64 t491, .int .i64 t492], .agg #[.int .i64 t475, .int .i64 t476]] rfl (by (try simp only [List.map_toArray, List.map_cons, List.map_nil]); first | done | rfl | (simp only [List.length_drop, List.length_take]; rfl)) ?_; (with_reducible refine (laws_eqFrac.calls t491 t492 t475 t476 true _ A61.out).mono ?_); rintro e w70 ⟨rfl, hb⟩; refine ⟨_, rfl, ?_⟩; have n0_ := Aside0.mk (Kd.S_below (by (with_reducible repeat (first | apply Kd.S_alloc | apply Kd.S_drewN | apply Kd.S_drew)); exact (Kd.S_mono (Kd.S_far (p := ⟨gb494, 1, none⟩) (Kd.S_far (p := ⟨gb494, 0, none⟩) (Kd.S_types HO468.out BK494.out (by decide)) (fun _ hk => hk.2) (.int .i64 t491)) (fun _ hk => hk.2) (.int .i64 t492)) (fun _ h_ => h_.1))) hb); have n1_ := Aside0.mk (Kd.R_below (by (with_reducible repeat (first | apply Kd.R_alloc | apply Kd.R_drewN | apply Kd.R_drew)); exact (Kd.R_mono (Kd.R_far (p := ⟨gb494, 1, none⟩) (Kd.R_far (p := ⟨gb494, 0, none⟩) (Kd.R_types HO471.out BK494.out (by decide)) (fun _ hk => hk.2) (.int .i64 t491)) (fun _ hk => hk.2) (.int .i64 t492)) (fun _ h_ => h_.1))) hb); have n2_ := Aside0.mk (Kd.R_below (by (with_reducible repeat (first | apply Kd.R_alloc | apply Kd.R_drewN | apply Kd.R_drew)); exact (Kd.R_mono (Kd.R_far (p := ⟨gb494, 1, none⟩) (Kd.R_far (p := ⟨gb494, 0, none⟩) (Kd.R_types HO474.out BK494.out (by decide)) (fun _ hk => hk.2) (.int .i64 t491)) (fun _ hk => hk.2) (.int .i64 t492)) (fun _ h_ => h_.1))) hb); have n3_ := Aside0.mk (Kd.S_below (by (with_reducible repeat (first | apply Kd.S_alloc | apply Kd.S_drewN | apply Kd.S_drew)); exact (Kd.S_mono (Kd.S_far (p := ⟨gb494, 1, none⟩) (Kd.S_far (p := ⟨gb494, 0, none⟩) (Kd.S_types HO483.out BK494.out (by decide)) (fun _ hk => hk.2) (.int .i64 t491)) (fun _ hk => hk.2) (.int .i64 t492)) (fun _ h_ => h_.1))) hb); have n4_ := Aside0.mk (Kd.R_below (by (with_reducible repeat (first | apply Kd.R_alloc | apply Kd.R_drewN | apply Kd.R_drew)); exact (Kd.R_mono (Kd.R_far (p := ⟨gb494, 1, none⟩) (Kd.R_far (p := ⟨gb494, 0, none⟩) (Kd.R_types HO487.out BK494.out (by decide)) (fun _ hk => hk.2) (.int .i64 t491)) (fun _ hk => hk.2) (.int .i64 t492)) (fun _ h_ => h_.1))) hb); have n5_ := Aside0.mk (Kd.R_below (by (with_reducible repeat (first | apply Kd.R_alloc | apply Kd.R_drewN | apply Kd.R_drew)); exact (Kd.R_mono (Kd.R_far (p := ⟨gb494, 1, none⟩) (Kd.R_far (p := ⟨gb494, 0, none⟩) (Kd.R_types HO490.out BK494.out (by decide)) (fun _ hk => hk.2) (.int .i64 t491)) (fun _ hk => hk.2) (.int .i64 t492)) (fun _ h_ => h_.1))) hb); have n6_ := Aside0.mk (blk_below (g := gb460) (o := .cells #[.int .i64 a0_0, .int .i64 a0_1, .slice A0_2 l0_2.length c0_2] 36 (0, 0)) (by (with_reducible repeat (first | refine blk_drewN ?_ _ | refine blk_drew ?_ | refine blk_alloc ?_ _)); refine blk_far ?_ NB460_494.out _; (with_reducible repeat (first | refine blk_drewN ?_ _ | refine blk_drew ?_ | refine blk_alloc ?_ _)); refine blk_far ?_ NB460_494.out _; (with_reducible repeat (first | refine blk_drewN ?_ _ | refine blk_drew ?_ | refine blk_alloc ?_ _)); exact BK460.out) hb); have n7_ := Aside0.mk (blk_below (g := gb478) (o := .cells #[.int .i64 t475, .int .i64 t476] 59 (0, 0)) (by (with_reducible repeat (first | refine blk_drewN ?_ _ | refine blk_drew ?_ | refine blk_alloc ?_ _)); refine blk_far ?_ NB478_494.out _; (with_reducible repeat (first | refine blk_drewN ?_ _ | refine blk_drew ?_ | refine blk_alloc ?_ _)); refine blk_far ?_ NB478_494.out _; (with_reducible repeat (first | refine blk_drewN ?_ _ | refine blk_drew ?_ | refine blk_alloc ?_ _)); exact BK478.out) hb); have n8_ := Aside0.mk (blk_below (g := gb484) (o := .cells #[.int .i64 t479, .int .i64 t480, .slice Ao49 t481.length co49] 39 (0, 0)) (by (with_reducible repeat (first | refine blk_drewN ?_ _ | refine blk_drew ?_ | refine blk_alloc ?_ _)); refine blk_far ?_ NB484_494.out _; (with_reducible repeat (first | refine blk_drewN ?_ _ | refine blk_drew ?_ | refine blk_alloc ?_ _)); refine blk_far ?_ NB484_494.out _; (with_reducible repeat (first | refine blk_drewN ?_ _ | refine blk_drew ?_ | refine blk_alloc ?_ _)); exact BK484.out) hb); have n9_ := Aside0.mk (blk_below (g := gb494) (o := .cells #[.int .i64 t491, .int .i64 t492] 59 (0, 0)) (by (with_reducible repeat (first | refine blk_drewN ?_ _ | refine blk_drew ?_ | refine blk_alloc ?_ _)); refine blk_put (cs := #[.int .i64 t491, .int .i64 0]) ?_ 1 _ rfl; (with_reducible repeat (first | refine blk_drewN ?_ _ | refine blk_drew ?_ | refine blk_alloc ?_ _)); refine blk_put (cs := #[.int .i64 0, .int .i64 0]) ?_ 0 _ rfl; (with_reducible repeat (first | refine blk_drewN ?_ _ | refine blk_drew ?_ | refine blk_alloc ?_ _)); exact BK494.out) hb); have n10_ := Aside0.mk (below_step (by repeat (first | (with_reducible first | exact HB.out | apply below_alloc | apply pw_below_drewN | apply below_drew1 | refine below_set ?_ GE460.out | refine below_set ?_ GE478.out | refine below_set ?_ GE484.out | refine below_set ?_ GE494.out) | exact HB.out)) hb); clear HO468; clear HO471; clear HO474; clear HO483; clear HO487; clear HO490; clear BK460; clear BK478; clear BK484; clear BK494; clear HB; have HO468 := n0_; have HO471 := n1_; have HO474 := n2_; have HO483 := n3_; have HO487 := n4_; have HO490 := n5_; have BK460 := n6_; have BK478 := n7_; have BK484 := n8_; have BK494 := n9_; have HB := n10_; clear n0_ n1_ n2_ n3_ n4_ n5_ n6_ n7_ n8_ n9_ n10_; (try clear hb); (try clear hb2); (try clear hk); (try clear hi)))
      go_meet
      case rel => exact ⟨_, ((t493 != t477)), (by first | rfl | (simp; done) | (simp [*]; done)), H', ⟨by first | omega | exact Nat.le_refl _⟩, ⟨by (with_reducible repeat (first | apply Kd.R_alloc | apply Kd.R_drewN | apply Kd.R_drew)); exact Kd.R_mono HO487.out (fun _ hk => trivial)⟩, ⟨by (with_reducible repeat (first | apply Kd.R_alloc | apply Kd.R_drewN | apply Kd.R_drew)); exact Kd.R_mono HO490.out (fun _ hk => trivial)⟩, ⟨by (with_reducible repeat (first | apply Kd.S_alloc | apply Kd.S_drewN | apply Kd.S_drew)); exact Kd.S_mono HO483.out (fun _ hk => trivial)⟩, ⟨by (with_reducible repeat (first | refine blk_drewN ?_ _ | refine blk_drew ?_ | refine blk_alloc ?_ _)); exact BK460.out⟩, ⟨by (with_reducible repeat (first | refine blk_drewN ?_ _ | refine blk_drew ?_ | refine blk_alloc ?_ _)); exact BK478.out⟩, ⟨by (with_reducible repeat (first | refine blk_drewN ?_ _ | refine blk_drew ?_ | refine blk_alloc ?_ _)); exact BK484.out⟩, ⟨by (with_reducible repeat (first | refine blk_drewN ?_ _ | refine blk_drew ?_ | refine blk_alloc ?_ _)); exact BK494.out⟩, ⟨by repeat (first | (with_reducible first | exact HB.out | apply below_alloc | apply pw_below_drewN | apply below_drew1 | refine below_set ?_ GE460.out | refine below_set ?_ GE478.out | refine below_set ?_ GE484.out | refine below_set ?_ GE494.out) | exact HB.out)⟩⟩
     ·replace c62 := Bool.eq_false_iff.mpr c62
      subst c62
      have H1 : (laws_FnExactMetacentre.j0 k l2 l3 t485 t488 true a0_0 a0_1 l0_2 t479 t480 t481) = some r := by rw [if_neg (show ¬ (false = true) by decide)] at H; exact H
      clear H
      have H := H1
      clear H1
      have H' := Aside0.mk H
      clear H
      have hnb71 := NB494_460.out
      have hnc71 := NB460_494.out
      have hnb72 := NB494_478.out
      have hnc72 := NB478_494.out
      have hnb73 := NB494_484.out
      have hnc73 := NB484_494.out
      have hcz74_0 : w56.cell? ⟨gb494, 0, none⟩ = some (.int .i64 0) := (blk_cell BK494.out 0).trans rfl
      have hcz74_1 : w56.cell? ⟨gb494, 1, none⟩ = some (.int .i64 0) := (blk_cell BK494.out 1).trans rfl
      have hfz74_0 := blk_frozen BK494.out 0
      have hfz74_1 := blk_frozen BK494.out 1
      have hnb75 := NB478_460.out
      have hnc75 := NB460_478.out
      have hnb76 := NB478_484.out
      have hnc76 := NB484_478.out
      have hcz77_0 : w56.cell? ⟨gb478, 0, none⟩ = some (.int .i64 t475) := (blk_cell BK478.out 0).trans rfl
      have hcz77_1 : w56.cell? ⟨gb478, 1, none⟩ = some (.int .i64 t476) := (blk_cell BK478.out 1).trans rfl
      have hfz77_0 := blk_frozen BK478.out 0
      have hfz77_1 := blk_frozen BK478.out 1
      go_wp2_with (first | ((with_reducible refine gate_callee (f := 55) rfl ?_); refine goesL_ (some 59) rfl rfl Try.func55 (by kernel_rfl) rfl #[.agg #[.int .i64 t491, .int .i64 t492], .agg #[.int .i64 t475, .int .i64 t476]] rfl (by (try simp only [List.map_toArray, List.map_cons, List.map_nil]); first | done | rfl | (simp only [List.length_drop, List.length_take]; rfl)) ?_; (with_reducible refine (laws_eqFrac.calls t491 t492 t475 t476 false _ A61.out).mono ?_); rintro e w78 ⟨rfl, hb⟩; refine ⟨_, rfl, ?_⟩; have n0_ := Aside0.mk (Kd.S_below (by (with_reducible repeat (first | apply Kd.S_alloc | apply Kd.S_drewN | apply Kd.S_drew)); exact (Kd.S_mono (Kd.S_far (p := ⟨gb494, 1, none⟩) (Kd.S_far (p := ⟨gb494, 0, none⟩) (Kd.S_types HO468.out BK494.out (by decide)) (fun _ hk => hk.2) (.int .i64 t491)) (fun _ hk => hk.2) (.int .i64 t492)) (fun _ h_ => h_.1))) hb); have n1_ := Aside0.mk (Kd.R_below (by (with_reducible repeat (first | apply Kd.R_alloc | apply Kd.R_drewN | apply Kd.R_drew)); exact (Kd.R_mono (Kd.R_far (p := ⟨gb494, 1, none⟩) (Kd.R_far (p := ⟨gb494, 0, none⟩) (Kd.R_types HO471.out BK494.out (by decide)) (fun _ hk => hk.2) (.int .i64 t491)) (fun _ hk => hk.2) (.int .i64 t492)) (fun _ h_ => h_.1))) hb); have n2_ := Aside0.mk (Kd.R_below (by (with_reducible repeat (first | apply Kd.R_alloc | apply Kd.R_drewN | apply Kd.R_drew)); exact (Kd.R_mono (Kd.R_far (p := ⟨gb494, 1, none⟩) (Kd.R_far (p := ⟨gb494, 0, none⟩) (Kd.R_types HO474.out BK494.out (by decide)) (fun _ hk => hk.2) (.int .i64 t491)) (fun _ hk => hk.2) (.int .i64 t492)) (fun _ h_ => h_.1))) hb); have n3_ := Aside0.mk (Kd.S_below (by (with_reducible repeat (first | apply Kd.S_alloc | apply Kd.S_drewN | apply Kd.S_drew)); exact (Kd.S_mono (Kd.S_far (p := ⟨gb494, 1, none⟩) (Kd.S_far (p := ⟨gb494, 0, none⟩) (Kd.S_types HO483.out BK494.out (by decide)) (fun _ hk => hk.2) (.int .i64 t491)) (fun _ hk => hk.2) (.int .i64 t492)) (fun _ h_ => h_.1))) hb); have n4_ := Aside0.mk (Kd.R_below (by (with_reducible repeat (first | apply Kd.R_alloc | apply Kd.R_drewN | apply Kd.R_drew)); exact (Kd.R_mono (Kd.R_far (p := ⟨gb494, 1, none⟩) (Kd.R_far (p := ⟨gb494, 0, none⟩) (Kd.R_types HO487.out BK494.out (by decide)) (fun _ hk => hk.2) (.int .i64 t491)) (fun _ hk => hk.2) (.int .i64 t492)) (fun _ h_ => h_.1))) hb); have n5_ := Aside0.mk (Kd.R_below (by (with_reducible repeat (first | apply Kd.R_alloc | apply Kd.R_drewN | apply Kd.R_drew)); exact (Kd.R_mono (Kd.R_far (p := ⟨gb494, 1, none⟩) (Kd.R_far (p := ⟨gb494, 0, none⟩) (Kd.R_types HO490.out BK494.out (by decide)) (fun _ hk => hk.2) (.int .i64 t491)) (fun _ hk => hk.2) (.int .i64 t492)) (fun _ h_ => h_.1))) hb); have n6_ := Aside0.mk (blk_below (g := gb460) (o := .cells #[.int .i64 a0_0, .int .i64 a0_1, .slice A0_2 l0_2.length c0_2] 36 (0, 0)) (by (with_reducible repeat (first | refine blk_drewN ?_ _ | refine blk_drew ?_ | refine blk_alloc ?_ _)); refine blk_far ?_ NB460_494.out _; (with_reducible repeat (first | refine blk_drewN ?_ _ | refine blk_drew ?_ | refine blk_alloc ?_ _)); refine blk_far ?_ NB460_494.out _; (with_reducible repeat (first | refine blk_drewN ?_ _ | refine blk_drew ?_ | refine blk_alloc ?_ _)); exact BK460.out) hb); have n7_ := Aside0.mk (blk_below (g := gb478) (o := .cells #[.int .i64 t475, .int .i64 t476] 59 (0, 0)) (by (with_reducible repeat (first | refine blk_drewN ?_ _ | refine blk_drew ?_ | refine blk_alloc ?_ _)); refine blk_far ?_ NB478_494.out _; (with_reducible repeat (first | refine blk_drewN ?_ _ | refine blk_drew ?_ | refine blk_alloc ?_ _)); refine blk_far ?_ NB478_494.out _; (with_reducible repeat (first | refine blk_drewN ?_ _ | refine blk_drew ?_ | refine blk_alloc ?_ _)); exact BK478.out) hb); have n8_ := Aside0.mk (blk_below (g := gb484) (o := .cells #[.int .i64 t479, .int .i64 t480, .slice Ao49 t481.length co49] 39 (0, 0)) (by (with_reducible repeat (first | refine blk_drewN ?_ _ | refine blk_drew ?_ | refine blk_alloc ?_ _)); refine blk_far ?_ NB484_494.out _; (with_reducible repeat (first | refine blk_drewN ?_ _ | refine blk_drew ?_ | refine blk_alloc ?_ _)); refine blk_far ?_ NB484_494.out _; (with_reducible repeat (first | refine blk_drewN ?_ _ | refine blk_drew ?_ | refine blk_alloc ?_ _)); exact BK484.out) hb); have n9_ := Aside0.mk (blk_below (g := gb494) (o := .cells #[.int .i64 t491, .int .i64 t492] 59 (0, 0)) (by (with_reducible repeat (first | refine blk_drewN ?_ _ | refine blk_drew ?_ | refine blk_alloc ?_ _)); refine blk_put (cs := #[.int .i64 t491, .int .i64 0]) ?_ 1 _ rfl; (with_reducible repeat (first | refine blk_drewN ?_ _ | refine blk_drew ?_ | refine blk_alloc ?_ _)); refine blk_put (cs := #[.int .i64 0, .int .i64 0]) ?_ 0 _ rfl; (with_reducible repeat (first | refine blk_drewN ?_ _ | refine blk_drew ?_ | refine blk_alloc ?_ _)); exact BK494.out) hb); have n10_ := Aside0.mk (below_step (by repeat (first | (with_reducible first | exact HB.out | apply below_alloc | apply pw_below_drewN | apply below_drew1 | refine below_set ?_ GE460.out | refine below_set ?_ GE478.out | refine below_set ?_ GE484.out | refine below_set ?_ GE494.out) | exact HB.out)) hb); clear HO468; clear HO471; clear HO474; clear HO483; clear HO487; clear HO490; clear BK460; clear BK478; clear BK484; clear BK494; clear HB; have HO468 := n0_; have HO471 := n1_; have HO474 := n2_; have HO483 := n3_; have HO487 := n4_; have HO490 := n5_; have BK460 := n6_; have BK478 := n7_; have BK484 := n8_; have BK494 := n9_; have HB := n10_; clear n0_ n1_ n2_ n3_ n4_ n5_ n6_ n7_ n8_ n9_ n10_; (try clear hb); (try clear hb2); (try clear hk); (try clear hi)))
      go_meet
      case rel => exact ⟨_, (true), (by first | rfl | (simp; done) | (simp [*]; done)), H', ⟨by first | omega | exact Nat.le_refl _⟩, ⟨by (with_reducible repeat (first | apply Kd.R_alloc | apply Kd.R_drewN | apply Kd.R_drew)); exact Kd.R_mono HO487.out (fun _ hk => trivial)⟩, ⟨by (with_reducible repeat (first | apply Kd.R_alloc | apply Kd.R_drewN | apply Kd.R_drew)); exact Kd.R_mono HO490.out (fun _ hk => trivial)⟩, ⟨by (with_reducible repeat (first | apply Kd.S_alloc | apply Kd.S_drewN | apply Kd.S_drew)); exact Kd.S_mono HO483.out (fun _ hk => trivial)⟩, ⟨by (with_reducible repeat (first | refine blk_drewN ?_ _ | refine blk_drew ?_ | refine blk_alloc ?_ _)); exact BK460.out⟩, ⟨by (with_reducible repeat (first | refine blk_drewN ?_ _ | refine blk_drew ?_ | refine blk_alloc ?_ _)); exact BK478.out⟩, ⟨by (with_reducible repeat (first | refine blk_drewN ?_ _ | refine blk_drew ?_ | refine blk_alloc ?_ _)); exact BK484.out⟩, ⟨by (with_reducible repeat (first | refine blk_drewN ?_ _ | refine blk_drew ?_ | refine blk_alloc ?_ _)); exact BK494.out⟩, ⟨by repeat (first | (with_reducible first | exact HB.out | apply below_alloc | apply pw_below_drewN | apply below_drew1 | refine below_set ?_ GE460.out | refine below_set ?_ GE478.out | refine below_set ?_ GE484.out | refine below_set ?_ GE494.out) | exact HB.out)⟩⟩
    case rest =>
     clear HC28
     (try clear c1); (try clear c2); (try clear p2); (try clear c3); (try clear c4); (try clear c5); (try clear c6); (try clear c6b0); (try clear c7); (try clear c11); (try clear c11b0); (try clear c14); (try clear c15); (try clear c16); (try clear c16b0); (try clear c17); (try clear c23); (try clear c25); (try clear c41); (try clear c46); (try clear c47); (try clear c51); (try clear c52); (try clear c53); (try clear c54); (try clear c55); (try clear c57); (try clear c58); (try clear c59); (try clear c62); (try clear c63); (try clear c64); (try clear c65); (try clear c67); (try clear c68); (try clear c71); (try clear c72); (try clear c73); (try clear c75); (try clear c76); (try clear hcz13_0); (try clear hcz13_1); (try clear hcz13_2); (try clear hcz18_0); (try clear hcz18_1); (try clear hcz18_2); (try clear hcz30_0); (try clear hcz30_1); (try clear hcz30_2); (try clear hcz32_0); (try clear hcz32_1); (try clear hcz32_2); (try clear hcz42_0); (try clear hcz42_1); (try clear hcz43_0); (try clear hcz43_1); (try clear hcz43_2); (try clear hcz48_0); (try clear hcz48_1); (try clear hcz48_2); (try clear hcz52_0); (try clear hcz52_1); (try clear hcz52_2); (try clear hcz60_0); (try clear hcz60_1); (try clear hcz66_0); (try clear hcz66_1); (try clear hcz69_0); (try clear hcz69_1); (try clear hcz74_0); (try clear hcz74_1); (try clear hcz77_0); (try clear hcz77_1); (try clear hcz8_0); (try clear hcz8_1); (try clear hcz8_2); (try clear hfz13_0); (try clear hfz13_1); (try clear hfz13_2); (try clear hfz18_0); (try clear hfz18_1); (try clear hfz18_2); (try clear hfz30_0); (try clear hfz30_1); (try clear hfz30_2); (try clear hfz32_0); (try clear hfz32_1); (try clear hfz32_2); (try clear hfz42_0); (try clear hfz42_1); (try clear hfz43_0); (try clear hfz43_1); (try clear hfz43_2); (try clear hfz48_0); (try clear hfz48_1); (try clear hfz48_2); (try clear hfz52_0); (try clear hfz52_1); (try clear hfz52_2); (try clear hfz60_0); (try clear hfz60_1); (try clear hfz66_0); (try clear hfz66_1); (try clear hfz69_0); (try clear hfz69_1); (try clear hfz74_0); (try clear hfz74_1); (try clear hfz77_0); (try clear hfz77_1); (try clear hfz8_0); (try clear hfz8_1); (try clear hfz8_2)
     obtain ⟨kq, x65_27, rfl, HA, HJ27, HO_13, HO_14, HO_485002, BK460, BK478, BK484, BK494, HB⟩ := hcut
     cases kq with
     | zero => exact absurd HA.out (by simp [laws_FnExactMetacentre.j0])
     | succ kj27 =>
      have H := HA.out
      clear HA
      simp only [laws_FnExactMetacentre.j0] at H
      by_cases c79 : x65_27 = true
      ·subst c79
       have H1 : (some false) = some r := by rw [if_pos rfl] at H; exact H
       clear H
       have H := H1
       clear H1
       obtain rfl := Option.some.inj H
       go_wp2
       go_ret
       exact ⟨by first | rfl | (simp [errW_none, errW_some] <;> rfl) | (simp [*, errW_none, errW_some] <;> rfl), by repeat (first | (with_reducible first | exact HB.out | apply below_alloc | apply pw_below_drewN | apply below_drew1 | refine below_set ?_ GE460.out | refine below_set ?_ GE478.out | refine below_set ?_ GE484.out | refine below_set ?_ GE494.out) | exact HB.out)⟩
      ·replace c79 := Bool.eq_false_iff.mpr c79
       subst c79
       have H1 : ((laws_toHull.f a0_0 a0_1 l0_2).bind fun bt496 => ((laws_eqHull.f t479 t480 t481 bt496.1 bt496.2.1 bt496.2.2).bind fun t501 => (if t501 = true then ((laws_toMassS.f kj27 l2).bind fun t502 => ((laws_eqMassS.f kj27 t485 t502).bind fun t505 => (if t505 = true then ((laws_toTankS.f kj27 l3).bind fun t506 => ((laws_eqTankS.f kj27 t488 t506).bind fun t509 => (if t509 = true then (some true) else (some false)))) else (some false)))) else (some false)))) = some r := by rw [if_neg (show ¬ (false = true) by decide)] at H; exact H
       clear H
       have H := H1
       clear H1
       replace H := Option.bind_eq_some_iff.mp H
       obtain ⟨⟨t496, t497, t498⟩, A800, H⟩ := H
       replace H : ((laws_eqHull.f t479 t480 t481 t496 t497 t498).bind fun t501 => (if t501 = true then ((laws_toMassS.f kj27 l2).bind fun t502 => ((laws_eqMassS.f kj27 t485 t502).bind fun t505 => (if t505 = true then ((laws_toTankS.f kj27 l3).bind fun t506 => ((laws_eqTankS.f kj27 t488 t506).bind fun t509 => (if t509 = true then (some true) else (some false)))) else (some false)))) else (some false))) = some r := H
       have A80 := Aside0.mk A800
       clear A800
       replace H := Option.bind_eq_some_iff.mp H
       obtain ⟨t501, A810, H⟩ := H
       replace H : (if t501 = true then ((laws_toMassS.f kj27 l2).bind fun t502 => ((laws_eqMassS.f kj27 t485 t502).bind fun t505 => (if t505 = true then ((laws_toTankS.f kj27 l3).bind fun t506 => ((laws_eqTankS.f kj27 t488 t506).bind fun t509 => (if t509 = true then (some true) else (some false)))) else (some false)))) else (some false)) = some r := H
       have A81 := Aside0.mk A810
       clear A810
       by_cases c82 : t501 = true
       ·subst c82
        have H1 : ((laws_toMassS.f kj27 l2).bind fun t502 => ((laws_eqMassS.f kj27 t485 t502).bind fun t505 => (if t505 = true then ((laws_toTankS.f kj27 l3).bind fun t506 => ((laws_eqTankS.f kj27 t488 t506).bind fun t509 => (if t509 = true then (some true) else (some false)))) else (some false)))) = some r := by rw [if_pos rfl] at H; exact H
        clear H
        have H := H1
        clear H1
        replace H := Option.bind_eq_some_iff.mp H
        obtain ⟨t502, A830, H⟩ := H
        replace H : ((laws_eqMassS.f kj27 t485 t502).bind fun t505 => (if t505 = true then ((laws_toTankS.f kj27 l3).bind fun t506 => ((laws_eqTankS.f kj27 t488 t506).bind fun t509 => (if t509 = true then (some true) else (some false)))) else (some false))) = some r := H
        have A83 := Aside0.mk A830
        clear A830
        replace H := Option.bind_eq_some_iff.mp H
        obtain ⟨t505, A840, H⟩ := H
        replace H : (if t505 = true then ((laws_toTankS.f kj27 l3).bind fun t506 => ((laws_eqTankS.f kj27 t488 t506).bind fun t509 => (if t509 = true then (some true) else (some false)))) else (some false)) = some r := H
        have A84 := Aside0.mk A840
        clear A840
        by_cases c85 : t505 = true
        ·subst c85
         have H1 : ((laws_toTankS.f kj27 l3).bind fun t506 => ((laws_eqTankS.f kj27 t488 t506).bind fun t509 => (if t509 = true then (some true) else (some false)))) = some r := by rw [if_pos rfl] at H; exact H
         clear H
         have H := H1
         clear H1
         replace H := Option.bind_eq_some_iff.mp H
         obtain ⟨t506, A860, H⟩ := H
         replace H : ((laws_eqTankS.f kj27 t488 t506).bind fun t509 => (if t509 = true then (some true) else (some false))) = some r := H
         have A86 := Aside0.mk A860
         clear A860
         replace H := Option.bind_eq_some_iff.mp H
         obtain ⟨t509, A870, H⟩ := H
         replace H : (if t509 = true then (some true) else (some false)) = some r := H
         have A87 := Aside0.mk A870
         clear A870
         by_cases c88 : t509 = true
         ·subst c88
          have H1 : (some true) = some r := by rw [if_pos rfl] at H; exact H
          clear H
          have H := H1
          clear H1
          obtain rfl := Option.some.inj H
          try go_wp2
          have n0_ := Aside0.mk (Kd.R_drew HO_13.out)
          have n1_ := Aside0.mk (Kd.R_drew HO_14.out)
          have n2_ := Aside0.mk (Kd.S_drew HO_485002.out)
          have n3_ := Aside0.mk (blk_drew BK460.out)
          have n4_ := Aside0.mk (blk_drew BK478.out)
          have n5_ := Aside0.mk (blk_drew BK484.out)
          have n6_ := Aside0.mk (blk_drew BK494.out)
          have n7_ := Aside0.mk (below_drew1 HB.out)
          clear HO_13 HO_14 HO_485002 BK460 BK478 BK484 BK494 HB
          have HO_13 := n0_
          have HO_14 := n1_
          have HO_485002 := n2_
          have BK460 := n3_
          have BK478 := n4_
          have BK484 := n5_
          have BK494 := n6_
          have HB := n7_
          clear n0_ n1_ n2_ n3_ n4_ n5_ n6_ n7_
          refine start_ (n := 5) (S := fun w' => w'.cell? ⟨gb484, 0, none⟩ = some (.int .i64 t479) ∧ w'.cell? ⟨gb484, 1, none⟩ = some (.int .i64 t480) ∧ w'.cell? ⟨gb484, 2, none⟩ = some (.slice Ao49 t481.length co49) ∧ w'.cell? ⟨gb460, 0, none⟩ = some (.int .i64 a0_0) ∧ w'.cell? ⟨gb460, 1, none⟩ = some (.int .i64 a0_1) ∧ w'.cell? ⟨gb460, 2, none⟩ = some (.slice A0_2 l0_2.length c0_2)) (ds := []) #[false, false, false, false, false] (by kernel_rfl) rfl rfl ⟨(blk_cell BK484.out 0).trans rfl, (blk_cell BK484.out 1).trans rfl, (blk_cell BK484.out 2).trans rfl, (blk_cell BK460.out 0).trans rfl, (blk_cell BK460.out 1).trans rfl, (blk_cell BK460.out 2).trans rfl⟩ (fun hHeld => ?_)
          generalize wc.drew = w89 at HO_13 HO_14 HO_485002 BK460 BK478 BK484 BK494 HB hHeld ⊢
          refine take_ (i := 0) (N := some 66) (v := ?_) (a' := ?_) #[true, false, false, false, false] rfl rfl (by kernel_rfl) (fun _ _ _ h => h) (Or.inl ⟨by rfl, ?_⟩) hHeld ?_ ?_
          rotate_left
          ·rintro w' ⟨s0, s1, s2, s3, s4, s5⟩
           go_simp
           with_reducible rfl
          rotate_left
          ·simp only [Act.put, y1, y2, y3, i64_w, i32_w]
           rfl
          refine take_ (i := 1) (N := some 67) (v := ?_) (a' := ?_) #[true, true, false, false, false] rfl rfl (by kernel_rfl) (fun _ _ _ h => h) (Or.inl ⟨by rfl, ?_⟩) hHeld ?_ ?_
          rotate_left
          ·rintro w' ⟨s0, s1, s2, s3, s4, s5⟩
           go_simp
           with_reducible rfl
          rotate_left
          ·simp only [Act.put, y1, y2, y3, i64_w, i32_w]
           rfl
          refine one_ (i := 2) (N := some 68) #[true, true, true, false, false] rfl rfl (by kernel_rfl) (by decide) (fun K hK => ?_)
          refine goes_ Try.func25 (by kernel_rfl) rfl #[.agg #[.int .i64 a0_0, .int .i64 a0_1, .slice A0_2 l0_2.length c0_2]] (by rfl) rfl rfl (by (try simp only [List.map_toArray, List.map_cons, List.map_nil]); first | done | rfl | (simp only [List.length_drop, List.length_take]; rfl)) ?_
          with_reducible refine (laws_toHull.calls a0_0 a0_1 _ _ l0_2 t496 t497 t498 _ ?side1 ?side2 A80.out).mono ?_
          (case side1 => repeat (first | exact (Kd.C_below HR0_2.out HB.out) | (with_reducible refine Kd.C_alloc ?_ _) | (with_reducible refine Kd.C_drewN ?_ _) | (with_reducible refine Kd.C_drew ?_)))
          (case side2 => exact HC0_2.out)
          rintro e w90 ⟨v499, rfl, ho0, hb⟩
          refine ⟨_, rfl, ?_⟩
          have n0_ := Aside0.mk (Kd.R_below (by (with_reducible repeat (first | apply Kd.R_alloc | apply Kd.R_drewN | apply Kd.R_drew)); exact HO_13.out) hb)
          have n1_ := Aside0.mk (Kd.R_below (by (with_reducible repeat (first | apply Kd.R_alloc | apply Kd.R_drewN | apply Kd.R_drew)); exact HO_14.out) hb)
          have n2_ := Aside0.mk (Kd.S_elder' (by (with_reducible repeat (first | apply Kd.S_alloc | apply Kd.S_drewN | apply Kd.S_drew)); exact HO_485002.out) (Kd.S_base ho0) hb)
          have n3_ := Aside0.mk (Kd.S_lower (Kd.S_new' ho0 (Kd.S_lt (by (with_reducible repeat (first | apply Kd.S_alloc | apply Kd.S_drewN | apply Kd.S_drew)); exact HO_485002.out))) (below_size (by repeat (first | (with_reducible first | exact HB.out | apply below_alloc | apply pw_below_drewN | apply below_drew1 | refine below_set ?_ GE460.out | refine below_set ?_ GE478.out | refine below_set ?_ GE484.out | refine below_set ?_ GE494.out) | exact HB.out))))
          have n4_ := Aside0.mk (blk_below (g := gb460) (o := .cells #[.int .i64 a0_0, .int .i64 a0_1, .slice A0_2 l0_2.length c0_2] 36 (0, 0)) (by (with_reducible repeat (first | refine z1 ?_ _ | refine z2 ?_ | refine z3 ?_ _)); exact BK460.out) hb)
          have n5_ := Aside0.mk (blk_below (g := gb478) (o := .cells #[.int .i64 t475, .int .i64 t476] 59 (0, 0)) (by (with_reducible repeat (first | refine z1 ?_ _ | refine z2 ?_ | refine z3 ?_ _)); exact BK478.out) hb)
          have n6_ := Aside0.mk (blk_below (g := gb484) (o := .cells #[.int .i64 t479, .int .i64 t480, .slice Ao49 t481.length co49] 39 (0, 0)) (by (with_reducible repeat (first | refine z1 ?_ _ | refine z2 ?_ | refine z3 ?_ _)); exact BK484.out) hb)
          have n7_ := Aside0.mk (blk_below (g := gb494) (o := .cells #[.int .i64 t491, .int .i64 t492] 59 (0, 0)) (by (with_reducible repeat (first | refine z1 ?_ _ | refine z2 ?_ | refine z3 ?_ _)); exact BK494.out) hb)
          have n8_ := Aside0.mk (below_step (by repeat (first | (with_reducible first | exact HB.out | apply below_alloc | apply pw_below_drewN | apply below_drew1 | refine below_set ?_ GE460.out | refine below_set ?_ GE478.out | refine below_set ?_ GE484.out | refine below_set ?_ GE494.out) | exact HB.out)) hb)
          clear HO_13 HO_14 HO_485002 BK460 BK478 BK484 BK494 HB
          have HO_13 := n0_
          have HO_14 := n1_
          have HO_485002 := n2_
          have HO500 := n3_
          have BK460 := n4_
          have BK478 := n5_
          have BK484 := n6_
          have BK494 := n7_
          have HB := n8_
          clear n0_ n1_ n2_ n3_ n4_ n5_ n6_ n7_ n8_
          (try clear hb)
          (try clear hb2)
          (try clear hk)
          (try clear hi)
          (try clear ho0)
          obtain ⟨Ao91, co91, eo91⟩ := Kd.S_slice HO500.out
          (first | subst eo91 | (injection eo91 with f1_ f2_ f3_; have f4_ := f1_.symm; have f5_ := f3_.symm; clear f1_ f2_ f3_; subst f4_; subst f5_))
          refine hK.out _ _ ⟨(blk_cell BK484.out 0).trans rfl, (blk_cell BK484.out 1).trans rfl, (blk_cell BK484.out 2).trans rfl, (blk_cell BK460.out 0).trans rfl, (blk_cell BK460.out 1).trans rfl, (blk_cell BK460.out 2).trans rfl⟩ (fun hHeld => ?_)
          clear hK K
          refine norm_ (a' := ?_) ?_ ?_
          rotate_left
          ·show Act.put _ (some 68) _ = _
           simp only [Act.put, y1, y2, y3, i64_w, i32_w]
           rfl
          refine one_ (i := 3) (N := some 69) #[true, true, true, true, false] rfl rfl (by kernel_rfl) (by decide) (fun K hK => ?_)
          refine goes_ Try.func27 (by kernel_rfl) rfl #[.agg #[.int .i64 t479, .int .i64 t480, .slice Ao49 t481.length co49], .agg #[.int .i64 t496, .int .i64 t497, .slice Ao91 t498.length co91]] (by rfl) rfl rfl (by (try simp only [List.map_toArray, List.map_cons, List.map_nil]); first | done | rfl | (simp only [List.length_drop, List.length_take]; rfl)) ?_
          with_reducible refine (laws_eqHull.calls t479 t480 _ _ t481 t496 t497 _ _ t498 true _ ?side1 ?side2 ?side3 ?side4 A81.out).mono ?_
          (case side1 => repeat (first | exact (Kd.S_reads' HO_485002.out).2.2 | (with_reducible refine Kd.C_alloc ?_ _) | (with_reducible refine Kd.C_drewN ?_ _) | (with_reducible refine Kd.C_drew ?_)))
          (case side2 => exact (Kd.S_reads' HO_485002.out).2.1)
          (case side3 => repeat (first | exact (Kd.S_reads' HO500.out).2.2 | (with_reducible refine Kd.C_alloc ?_ _) | (with_reducible refine Kd.C_drewN ?_ _) | (with_reducible refine Kd.C_drew ?_)))
          (case side4 => exact (Kd.S_reads' HO500.out).2.1)
          rintro e w92 ⟨rfl, hb⟩
          refine ⟨_, rfl, ?_⟩
          have n0_ := Aside0.mk (Kd.R_below (by (with_reducible repeat (first | apply Kd.R_alloc | apply Kd.R_drewN | apply Kd.R_drew)); exact HO_13.out) hb)
          have n1_ := Aside0.mk (Kd.R_below (by (with_reducible repeat (first | apply Kd.R_alloc | apply Kd.R_drewN | apply Kd.R_drew)); exact HO_14.out) hb)
          have n2_ := Aside0.mk (Kd.S_below (by (with_reducible repeat (first | apply Kd.S_alloc | apply Kd.S_drewN | apply Kd.S_drew)); exact HO_485002.out) hb)
          have n3_ := Aside0.mk (Kd.S_below (by (with_reducible repeat (first | apply Kd.S_alloc | apply Kd.S_drewN | apply Kd.S_drew)); exact HO500.out) hb)
          have n4_ := Aside0.mk (blk_below (g := gb460) (o := .cells #[.int .i64 a0_0, .int .i64 a0_1, .slice A0_2 l0_2.length c0_2] 36 (0, 0)) (by (with_reducible repeat (first | refine z1 ?_ _ | refine z2 ?_ | refine z3 ?_ _)); exact BK460.out) hb)
          have n5_ := Aside0.mk (blk_below (g := gb478) (o := .cells #[.int .i64 t475, .int .i64 t476] 59 (0, 0)) (by (with_reducible repeat (first | refine z1 ?_ _ | refine z2 ?_ | refine z3 ?_ _)); exact BK478.out) hb)
          have n6_ := Aside0.mk (blk_below (g := gb484) (o := .cells #[.int .i64 t479, .int .i64 t480, .slice Ao49 t481.length co49] 39 (0, 0)) (by (with_reducible repeat (first | refine z1 ?_ _ | refine z2 ?_ | refine z3 ?_ _)); exact BK484.out) hb)
          have n7_ := Aside0.mk (blk_below (g := gb494) (o := .cells #[.int .i64 t491, .int .i64 t492] 59 (0, 0)) (by (with_reducible repeat (first | refine z1 ?_ _ | refine z2 ?_ | refine z3 ?_ _)); exact BK494.out) hb)
          have n8_ := Aside0.mk (below_step (by repeat (first | (with_reducible first | exact HB.out | apply below_alloc | apply pw_below_drewN | apply below_drew1 | refine below_set ?_ GE460.out | refine below_set ?_ GE478.out | refine below_set ?_ GE484.out | refine below_set ?_ GE494.out) | exact HB.out)) hb)
          clear HO_13 HO_14 HO_485002 HO500 BK460 BK478 BK484 BK494 HB
          have HO_13 := n0_
          have HO_14 := n1_
          have HO_485002 := n2_
          have HO500 := n3_
          have BK460 := n4_
          have BK478 := n5_
          have BK484 := n6_
          have BK494 := n7_
          have HB := n8_
          clear n0_ n1_ n2_ n3_ n4_ n5_ n6_ n7_ n8_
          (try clear hb)
          (try clear hb2)
          (try clear hk)
          (try clear hi)
          refine hK.out _ _ ⟨(blk_cell BK484.out 0).trans rfl, (blk_cell BK484.out 1).trans rfl, (blk_cell BK484.out 2).trans rfl, (blk_cell BK460.out 0).trans rfl, (blk_cell BK460.out 1).trans rfl, (blk_cell BK460.out 2).trans rfl⟩ (fun hHeld => ?_)
          clear hK K
          refine norm_ (a' := ?_) ?_ ?_
          rotate_left
          ·show Act.put _ (some 69) _ = _
           simp only [Act.put, y1, y2, y3, i64_w, i32_w]
           rfl
          refine pure_ (i := 4) (N := some 70) (v := ?_) (a' := ?_) #[true, true, true, true, true] rfl rfl (by kernel_rfl) (fun _ _ _ h => h) (Or.inl ⟨by rfl, ?_⟩) ?_ ?_
          rotate_left
          ·intro w'
           go_simp
           with_reducible rfl
          rotate_left
          ·simp only [Act.put, y1, y2, y3, i64_w, i32_w]
           rfl
          refine done_ (by kernel_rfl) ?_
          try go_wp2_with (first | ((with_reducible refine gate_callee (f := 17) rfl ?_); refine goesL_ (some 73) rfl rfl Try.func17 (by kernel_rfl) rfl #[.slice A2 l2.length c2] rfl (by (try simp only [List.map_toArray, List.map_cons, List.map_nil]); first | done | rfl | (simp only [List.length_drop, List.length_take]; rfl)) ?_; (with_reducible refine (laws_toMassS.calls kj27 _ _ l2 t502 _ ?side1 ?side2 A83.out).mono ?_); (case side1 => repeat (first | exact (Kd.C_below HR2.out HB.out) | (with_reducible refine Kd.C_alloc ?_ _) | (with_reducible refine Kd.C_drewN ?_ _) | (with_reducible refine Kd.C_drew ?_))); (case side2 => exact HC2.out); rintro e w93 ⟨v503, rfl, ho0, hb⟩; refine ⟨_, rfl, ?_⟩; have n0_ := Aside0.mk (Kd.R_elder' (by (with_reducible repeat (first | apply Kd.R_alloc | apply Kd.R_drewN | apply Kd.R_drew)); exact HO_13.out) (Kd.R_base ho0) hb); have n1_ := Aside0.mk (Kd.R_below (by (with_reducible repeat (first | apply Kd.R_alloc | apply Kd.R_drewN | apply Kd.R_drew)); exact HO_14.out) hb); have n2_ := Aside0.mk (Kd.S_below (by (with_reducible repeat (first | apply Kd.S_alloc | apply Kd.S_drewN | apply Kd.S_drew)); exact HO_485002.out) hb); have n3_ := Aside0.mk (Kd.S_below (by (with_reducible repeat (first | apply Kd.S_alloc | apply Kd.S_drewN | apply Kd.S_drew)); exact HO500.out) hb); have n4_ := Aside0.mk (Kd.R_lower (Kd.R_new' ho0 (Kd.R_lt (by (with_reducible repeat (first | apply Kd.R_alloc | apply Kd.R_drewN | apply Kd.R_drew)); exact HO_13.out))) (below_size (by repeat (first | (with_reducible first | exact HB.out | apply below_alloc | apply pw_below_drewN | apply below_drew1 | refine below_set ?_ GE460.out | refine below_set ?_ GE478.out | refine below_set ?_ GE484.out | refine below_set ?_ GE494.out) | exact HB.out)))); have n5_ := Aside0.mk (blk_below (g := gb460) (o := .cells #[.int .i64 a0_0, .int .i64 a0_1, .slice A0_2 l0_2.length c0_2] 36 (0, 0)) (by (with_reducible repeat (first | refine z1 ?_ _ | refine z2 ?_ | refine z3 ?_ _)); exact BK460.out) hb); have n6_ := Aside0.mk (blk_below (g := gb478) (o := .cells #[.int .i64 t475, .int .i64 t476] 59 (0, 0)) (by (with_reducible repeat (first | refine z1 ?_ _ | refine z2 ?_ | refine z3 ?_ _)); exact BK478.out) hb); have n7_ := Aside0.mk (blk_below (g := gb484) (o := .cells #[.int .i64 t479, .int .i64 t480, .slice Ao49 t481.length co49] 39 (0, 0)) (by (with_reducible repeat (first | refine z1 ?_ _ | refine z2 ?_ | refine z3 ?_ _)); exact BK484.out) hb); have n8_ := Aside0.mk (blk_below (g := gb494) (o := .cells #[.int .i64 t491, .int .i64 t492] 59 (0, 0)) (by (with_reducible repeat (first | refine z1 ?_ _ | refine z2 ?_ | refine z3 ?_ _)); exact BK494.out) hb); have n9_ := Aside0.mk (below_step (by repeat (first | (with_reducible first | exact HB.out | apply below_alloc | apply pw_below_drewN | apply below_drew1 | refine below_set ?_ GE460.out | refine below_set ?_ GE478.out | refine below_set ?_ GE484.out | refine below_set ?_ GE494.out) | exact HB.out)) hb); clear HO_13; clear HO_14; clear HO_485002; clear HO500; clear BK460; clear BK478; clear BK484; clear BK494; clear HB; have HO_13 := n0_; have HO_14 := n1_; have HO_485002 := n2_; have HO500 := n3_; have HO504 := n4_; have BK460 := n5_; have BK478 := n6_; have BK484 := n7_; have BK494 := n8_; have HB := n9_; clear n0_ n1_ n2_ n3_ n4_ n5_ n6_ n7_ n8_ n9_; (try clear hb); (try clear hb2); (try clear hk); (try clear hi); (try clear ho0); obtain ⟨Ao94, co94, eo94⟩ := Kd.R_slice HO504.out; subst eo94) | ((with_reducible refine gate_callee (f := 19) rfl ?_); refine goesL_ (some 74) rfl rfl Try.func19 (by kernel_rfl) rfl #[.slice Ao53 t485.length co53, .slice Ao94 t502.length co94] rfl (by (try simp only [List.map_toArray, List.map_cons, List.map_nil]); first | done | rfl | (simp only [List.length_drop, List.length_take]; rfl)) ?_; (with_reducible refine (laws_eqMassS.calls kj27 _ _ t485 _ _ t502 true _ ?side1 ?side2 ?side3 ?side4 A84.out).mono ?_); (case side1 => repeat (first | exact (Kd.R_reads' HO_13.out).2.2 | (with_reducible refine Kd.C_alloc ?_ _) | (with_reducible refine Kd.C_drewN ?_ _) | (with_reducible refine Kd.C_drew ?_))); (case side2 => exact (Kd.R_reads' HO_13.out).2.1); (case side3 => repeat (first | exact (Kd.R_reads' HO504.out).2.2 | (with_reducible refine Kd.C_alloc ?_ _) | (with_reducible refine Kd.C_drewN ?_ _) | (with_reducible refine Kd.C_drew ?_))); (case side4 => exact (Kd.R_reads' HO504.out).2.1); rintro e w95 ⟨rfl, hb⟩; refine ⟨_, rfl, ?_⟩; have n0_ := Aside0.mk (Kd.R_below (by (with_reducible repeat (first | apply Kd.R_alloc | apply Kd.R_drewN | apply Kd.R_drew)); exact HO_13.out) hb); have n1_ := Aside0.mk (Kd.R_below (by (with_reducible repeat (first | apply Kd.R_alloc | apply Kd.R_drewN | apply Kd.R_drew)); exact HO_14.out) hb); have n2_ := Aside0.mk (Kd.S_below (by (with_reducible repeat (first | apply Kd.S_alloc | apply Kd.S_drewN | apply Kd.S_drew)); exact HO_485002.out) hb); have n3_ := Aside0.mk (Kd.S_below (by (with_reducible repeat (first | apply Kd.S_alloc | apply Kd.S_drewN | apply Kd.S_drew)); exact HO500.out) hb); have n4_ := Aside0.mk (Kd.R_below (by (with_reducible repeat (first | apply Kd.R_alloc | apply Kd.R_drewN | apply Kd.R_drew)); exact HO504.out) hb); have n5_ := Aside0.mk (blk_below (g := gb460) (o := .cells #[.int .i64 a0_0, .int .i64 a0_1, .slice A0_2 l0_2.length c0_2] 36 (0, 0)) (by (with_reducible repeat (first | refine z1 ?_ _ | refine z2 ?_ | refine z3 ?_ _)); exact BK460.out) hb); have n6_ := Aside0.mk (blk_below (g := gb478) (o := .cells #[.int .i64 t475, .int .i64 t476] 59 (0, 0)) (by (with_reducible repeat (first | refine z1 ?_ _ | refine z2 ?_ | refine z3 ?_ _)); exact BK478.out) hb); have n7_ := Aside0.mk (blk_below (g := gb484) (o := .cells #[.int .i64 t479, .int .i64 t480, .slice Ao49 t481.length co49] 39 (0, 0)) (by (with_reducible repeat (first | refine z1 ?_ _ | refine z2 ?_ | refine z3 ?_ _)); exact BK484.out) hb); have n8_ := Aside0.mk (blk_below (g := gb494) (o := .cells #[.int .i64 t491, .int .i64 t492] 59 (0, 0)) (by (with_reducible repeat (first | refine z1 ?_ _ | refine z2 ?_ | refine z3 ?_ _)); exact BK494.out) hb); have n9_ := Aside0.mk (below_step (by repeat (first | (with_reducible first | exact HB.out | apply below_alloc | apply pw_below_drewN | apply below_drew1 | refine below_set ?_ GE460.out | refine below_set ?_ GE478.out | refine below_set ?_ GE484.out | refine below_set ?_ GE494.out) | exact HB.out)) hb); clear HO_13; clear HO_14; clear HO_485002; clear HO500; clear HO504; clear BK460; clear BK478; clear BK484; clear BK494; clear HB; have HO_13 := n0_; have HO_14 := n1_; have HO_485002 := n2_; have HO500 := n3_; have HO504 := n4_; have BK460 := n5_; have BK478 := n6_; have BK484 := n7_; have BK494 := n8_; have HB := n9_; clear n0_ n1_ n2_ n3_ n4_ n5_ n6_ n7_ n8_ n9_; (try clear hb); (try clear hb2); (try clear hk); (try clear hi)) | ((with_reducible refine gate_callee (f := 53) rfl ?_); refine goesL_ (some 78) rfl rfl Try.func53 (by kernel_rfl) rfl #[.slice A3 l3.length c3] rfl (by (try simp only [List.map_toArray, List.map_cons, List.map_nil]); first | done | rfl | (simp only [List.length_drop, List.length_take]; rfl)) ?_; (with_reducible refine (laws_toTankS.calls kj27 _ _ l3 t506 _ ?side1 ?side2 A86.out).mono ?_); (case side1 => repeat (first | exact (Kd.C_below HR3.out HB.out) | (with_reducible refine Kd.C_alloc ?_ _) | (with_reducible refine Kd.C_drewN ?_ _) | (with_reducible refine Kd.C_drew ?_))); (case side2 => exact HC3.out); rintro e w96 ⟨v507, rfl, ho0, hb⟩; refine ⟨_, rfl, ?_⟩; have n0_ := Aside0.mk (Kd.R_below (by (with_reducible repeat (first | apply Kd.R_alloc | apply Kd.R_drewN | apply Kd.R_drew)); exact HO_13.out) hb); have n1_ := Aside0.mk (Kd.R_elder' (by (with_reducible repeat (first | apply Kd.R_alloc | apply Kd.R_drewN | apply Kd.R_drew)); exact HO_14.out) (Kd.R_base ho0) hb); have n2_ := Aside0.mk (Kd.S_below (by (with_reducible repeat (first | apply Kd.S_alloc | apply Kd.S_drewN | apply Kd.S_drew)); exact HO_485002.out) hb); have n3_ := Aside0.mk (Kd.S_below (by (with_reducible repeat (first | apply Kd.S_alloc | apply Kd.S_drewN | apply Kd.S_drew)); exact HO500.out) hb); have n4_ := Aside0.mk (Kd.R_below (by (with_reducible repeat (first | apply Kd.R_alloc | apply Kd.R_drewN | apply Kd.R_drew)); exact HO504.out) hb); have n5_ := Aside0.mk (Kd.R_lower (Kd.R_new' ho0 (Kd.R_lt (by (with_reducible repeat (first | apply Kd.R_alloc | apply Kd.R_drewN | apply Kd.R_drew)); exact HO_14.out))) (below_size (by repeat (first | (with_reducible first | exact HB.out | apply below_alloc | apply pw_below_drewN | apply below_drew1 | refine below_set ?_ GE460.out | refine below_set ?_ GE478.out | refine below_set ?_ GE484.out | refine below_set ?_ GE494.out) | exact HB.out)))); have n6_ := Aside0.mk (blk_below (g := gb460) (o := .cells #[.int .i64 a0_0, .int .i64 a0_1, .slice A0_2 l0_2.length c0_2] 36 (0, 0)) (by (with_reducible repeat (first | refine z1 ?_ _ | refine z2 ?_ | refine z3 ?_ _)); exact BK460.out) hb); have n7_ := Aside0.mk (blk_below (g := gb478) (o := .cells #[.int .i64 t475, .int .i64 t476] 59 (0, 0)) (by (with_reducible repeat (first | refine z1 ?_ _ | refine z2 ?_ | refine z3 ?_ _)); exact BK478.out) hb); have n8_ := Aside0.mk (blk_below (g := gb484) (o := .cells #[.int .i64 t479, .int .i64 t480, .slice Ao49 t481.length co49] 39 (0, 0)) (by (with_reducible repeat (first | refine z1 ?_ _ | refine z2 ?_ | refine z3 ?_ _)); exact BK484.out) hb); have n9_ := Aside0.mk (blk_below (g := gb494) (o := .cells #[.int .i64 t491, .int .i64 t492] 59 (0, 0)) (by (with_reducible repeat (first | refine z1 ?_ _ | refine z2 ?_ | refine z3 ?_ _)); exact BK494.out) hb); have n10_ := Aside0.mk (below_step (by repeat (first | (with_reducible first | exact HB.out | apply below_alloc | apply pw_below_drewN | apply below_drew1 | refine below_set ?_ GE460.out | refine below_set ?_ GE478.out | refine below_set ?_ GE484.out | refine below_set ?_ GE494.out) | exact HB.out)) hb); clear HO_13; clear HO_14; clear HO_485002; clear HO500; clear HO504; clear BK460; clear BK478; clear BK484; clear BK494; clear HB; have HO_13 := n0_; have HO_14 := n1_; have HO_485002 := n2_; have HO500 := n3_; have HO504 := n4_; have HO508 := n5_; have BK460 := n6_; have BK478 := n7_; have BK484 := n8_; have BK494 := n9_; have HB := n10_; clear n0_ n1_ n2_ n3_ n4_ n5_ n6_ n7_ n8_ n9_ n10_; (try clear hb); (try clear hb2); (try clear hk); (try clear hi); (try clear ho0); obtain ⟨Ao97, co97, eo97⟩ := Kd.R_slice HO508.out; subst eo97) | ((with_reducible refine gate_callee (f := 56) rfl ?_); refine goesL_ (some 79) rfl rfl Try.func56 (by kernel_rfl) rfl #[.slice Ao54 t488.length co54, .slice Ao97 t506.length co97] rfl (by (try simp only [List.map_toArray, List.map_cons, List.map_nil]); first | done | rfl | (simp only [List.length_drop, List.length_take]; rfl)) ?_; (with_reducible refine (laws_eqTankS.calls kj27 _ _ t488 _ _ t506 true _ ?side1 ?side2 ?side3 ?side4 A87.out).mono ?_); (case side1 => repeat (first | exact (Kd.R_reads' HO_14.out).2.2 | (with_reducible refine Kd.C_alloc ?_ _) | (with_reducible refine Kd.C_drewN ?_ _) | (with_reducible refine Kd.C_drew ?_))); (case side2 => exact (Kd.R_reads' HO_14.out).2.1); (case side3 => repeat (first | exact (Kd.R_reads' HO508.out).2.2 | (with_reducible refine Kd.C_alloc ?_ _) | (with_reducible refine Kd.C_drewN ?_ _) | (with_reducible refine Kd.C_drew ?_))); (case side4 => exact (Kd.R_reads' HO508.out).2.1); rintro e w98 ⟨rfl, hb⟩; refine ⟨_, rfl, ?_⟩; have n0_ := Aside0.mk (Kd.R_below (by (with_reducible repeat (first | apply Kd.R_alloc | apply Kd.R_drewN | apply Kd.R_drew)); exact HO_13.out) hb); have n1_ := Aside0.mk (Kd.R_below (by (with_reducible repeat (first | apply Kd.R_alloc | apply Kd.R_drewN | apply Kd.R_drew)); exact HO_14.out) hb); have n2_ := Aside0.mk (Kd.S_below (by (with_reducible repeat (first | apply Kd.S_alloc | apply Kd.S_drewN | apply Kd.S_drew)); exact HO_485002.out) hb); have n3_ := Aside0.mk (Kd.S_below (by (with_reducible repeat (first | apply Kd.S_alloc | apply Kd.S_drewN | apply Kd.S_drew)); exact HO500.out) hb); have n4_ := Aside0.mk (Kd.R_below (by (with_reducible repeat (first | apply Kd.R_alloc | apply Kd.R_drewN | apply Kd.R_drew)); exact HO504.out) hb); have n5_ := Aside0.mk (Kd.R_below (by (with_reducible repeat (first | apply Kd.R_alloc | apply Kd.R_drewN | apply Kd.R_drew)); exact HO508.out) hb); have n6_ := Aside0.mk (blk_below (g := gb460) (o := .cells #[.int .i64 a0_0, .int .i64 a0_1, .slice A0_2 l0_2.length c0_2] 36 (0, 0)) (by (with_reducible repeat (first | refine z1 ?_ _ | refine z2 ?_ | refine z3 ?_ _)); exact BK460.out) hb); have n7_ := Aside0.mk (blk_below (g := gb478) (o := .cells #[.int .i64 t475, .int .i64 t476] 59 (0, 0)) (by (with_reducible repeat (first | refine z1 ?_ _ | refine z2 ?_ | refine z3 ?_ _)); exact BK478.out) hb); have n8_ := Aside0.mk (blk_below (g := gb484) (o := .cells #[.int .i64 t479, .int .i64 t480, .slice Ao49 t481.length co49] 39 (0, 0)) (by (with_reducible repeat (first | refine z1 ?_ _ | refine z2 ?_ | refine z3 ?_ _)); exact BK484.out) hb); have n9_ := Aside0.mk (blk_below (g := gb494) (o := .cells #[.int .i64 t491, .int .i64 t492] 59 (0, 0)) (by (with_reducible repeat (first | refine z1 ?_ _ | refine z2 ?_ | refine z3 ?_ _)); exact BK494.out) hb); have n10_ := Aside0.mk (below_step (by repeat (first | (with_reducible first | exact HB.out | apply below_alloc | apply pw_below_drewN | apply below_drew1 | refine below_set ?_ GE460.out | refine below_set ?_ GE478.out | refine below_set ?_ GE484.out | refine below_set ?_ GE494.out) | exact HB.out)) hb); clear HO_13; clear HO_14; clear HO_485002; clear HO500; clear HO504; clear HO508; clear BK460; clear BK478; clear BK484; clear BK494; clear HB; have HO_13 := n0_; have HO_14 := n1_; have HO_485002 := n2_; have HO500 := n3_; have HO504 := n4_; have HO508 := n5_; have BK460 := n6_; have BK478 := n7_; have BK484 := n8_; have BK494 := n9_; have HB := n10_; clear n0_ n1_ n2_ n3_ n4_ n5_ n6_ n7_ n8_ n9_ n10_; (try clear hb); (try clear hb2); (try clear hk); (try clear hi)))
          go_ret
          exact ⟨by first | rfl | (simp [errW_none, errW_some] <;> rfl) | (simp [*, errW_none, errW_some] <;> rfl), by repeat (first | (with_reducible first | exact HB.out | apply below_alloc | apply pw_below_drewN | apply below_drew1 | refine below_set ?_ GE460.out | refine below_set ?_ GE478.out | refine below_set ?_ GE484.out | refine below_set ?_ GE494.out) | exact HB.out)⟩
         ·replace c88 := Bool.eq_false_iff.mpr c88
          subst c88
          have H1 : (some false) = some r := by rw [if_neg (show ¬ (false = true) by decide)] at H; exact H
          clear H
          have H := H1
          clear H1
          obtain rfl := Option.some.inj H
          try go_wp2
          have n0_ := Aside0.mk (Kd.R_drew HO_13.out)
          have n1_ := Aside0.mk (Kd.R_drew HO_14.out)
          have n2_ := Aside0.mk (Kd.S_drew HO_485002.out)
          have n3_ := Aside0.mk (blk_drew BK460.out)
          have n4_ := Aside0.mk (blk_drew BK478.out)
          have n5_ := Aside0.mk (blk_drew BK484.out)
          have n6_ := Aside0.mk (blk_drew BK494.out)
          have n7_ := Aside0.mk (below_drew1 HB.out)
          clear HO_13 HO_14 HO_485002 BK460 BK478 BK484 BK494 HB
          have HO_13 := n0_
          have HO_14 := n1_
          have HO_485002 := n2_
          have BK460 := n3_
          have BK478 := n4_
          have BK484 := n5_
          have BK494 := n6_
          have HB := n7_
          clear n0_ n1_ n2_ n3_ n4_ n5_ n6_ n7_
          refine start_ (n := 5) (S := fun w' => w'.cell? ⟨gb484, 0, none⟩ = some (.int .i64 t479) ∧ w'.cell? ⟨gb484, 1, none⟩ = some (.int .i64 t480) ∧ w'.cell? ⟨gb484, 2, none⟩ = some (.slice Ao49 t481.length co49) ∧ w'.cell? ⟨gb460, 0, none⟩ = some (.int .i64 a0_0) ∧ w'.cell? ⟨gb460, 1, none⟩ = some (.int .i64 a0_1) ∧ w'.cell? ⟨gb460, 2, none⟩ = some (.slice A0_2 l0_2.length c0_2)) (ds := []) #[false, false, false, false, false] (by kernel_rfl) rfl rfl ⟨(blk_cell BK484.out 0).trans rfl, (blk_cell BK484.out 1).trans rfl, (blk_cell BK484.out 2).trans rfl, (blk_cell BK460.out 0).trans rfl, (blk_cell BK460.out 1).trans rfl, (blk_cell BK460.out 2).trans rfl⟩ (fun hHeld => ?_)
          generalize wc.drew = w99 at HO_13 HO_14 HO_485002 BK460 BK478 BK484 BK494 HB hHeld ⊢
          refine take_ (i := 0) (N := some 66) (v := ?_) (a' := ?_) #[true, false, false, false, false] rfl rfl (by kernel_rfl) (fun _ _ _ h => h) (Or.inl ⟨by rfl, ?_⟩) hHeld ?_ ?_
          rotate_left
          ·rintro w' ⟨s0, s1, s2, s3, s4, s5⟩
           go_simp
           with_reducible rfl
          rotate_left
          ·simp only [Act.put, y1, y2, y3, i64_w, i32_w]
           rfl
          refine take_ (i := 1) (N := some 67) (v := ?_) (a' := ?_) #[true, true, false, false, false] rfl rfl (by kernel_rfl) (fun _ _ _ h => h) (Or.inl ⟨by rfl, ?_⟩) hHeld ?_ ?_
          rotate_left
          ·rintro w' ⟨s0, s1, s2, s3, s4, s5⟩
           go_simp
           with_reducible rfl
          rotate_left
          ·simp only [Act.put, y1, y2, y3, i64_w, i32_w]
           rfl
          refine one_ (i := 2) (N := some 68) #[true, true, true, false, false] rfl rfl (by kernel_rfl) (by decide) (fun K hK => ?_)
          refine goes_ Try.func25 (by kernel_rfl) rfl #[.agg #[.int .i64 a0_0, .int .i64 a0_1, .slice A0_2 l0_2.length c0_2]] (by rfl) rfl rfl (by (try simp only [List.map_toArray, List.map_cons, List.map_nil]); first | done | rfl | (simp only [List.length_drop, List.length_take]; rfl)) ?_
          with_reducible refine (laws_toHull.calls a0_0 a0_1 _ _ l0_2 t496 t497 t498 _ ?side1 ?side2 A80.out).mono ?_
          (case side1 => repeat (first | exact (Kd.C_below HR0_2.out HB.out) | (with_reducible refine Kd.C_alloc ?_ _) | (with_reducible refine Kd.C_drewN ?_ _) | (with_reducible refine Kd.C_drew ?_)))
          (case side2 => exact HC0_2.out)
          rintro e w100 ⟨v499, rfl, ho0, hb⟩
          refine ⟨_, rfl, ?_⟩
          have n0_ := Aside0.mk (Kd.R_below (by (with_reducible repeat (first | apply Kd.R_alloc | apply Kd.R_drewN | apply Kd.R_drew)); exact HO_13.out) hb)
          have n1_ := Aside0.mk (Kd.R_below (by (with_reducible repeat (first | apply Kd.R_alloc | apply Kd.R_drewN | apply Kd.R_drew)); exact HO_14.out) hb)
          have n2_ := Aside0.mk (Kd.S_elder' (by (with_reducible repeat (first | apply Kd.S_alloc | apply Kd.S_drewN | apply Kd.S_drew)); exact HO_485002.out) (Kd.S_base ho0) hb)
          have n3_ := Aside0.mk (Kd.S_lower (Kd.S_new' ho0 (Kd.S_lt (by (with_reducible repeat (first | apply Kd.S_alloc | apply Kd.S_drewN | apply Kd.S_drew)); exact HO_485002.out))) (below_size (by repeat (first | (with_reducible first | exact HB.out | apply below_alloc | apply pw_below_drewN | apply below_drew1 | refine below_set ?_ GE460.out | refine below_set ?_ GE478.out | refine below_set ?_ GE484.out | refine below_set ?_ GE494.out) | exact HB.out))))
          have n4_ := Aside0.mk (blk_below (g := gb460) (o := .cells #[.int .i64 a0_0, .int .i64 a0_1, .slice A0_2 l0_2.length c0_2] 36 (0, 0)) (by (with_reducible repeat (first | refine z1 ?_ _ | refine z2 ?_ | refine z3 ?_ _)); exact BK460.out) hb)
          have n5_ := Aside0.mk (blk_below (g := gb478) (o := .cells #[.int .i64 t475, .int .i64 t476] 59 (0, 0)) (by (with_reducible repeat (first | refine z1 ?_ _ | refine z2 ?_ | refine z3 ?_ _)); exact BK478.out) hb)
          have n6_ := Aside0.mk (blk_below (g := gb484) (o := .cells #[.int .i64 t479, .int .i64 t480, .slice Ao49 t481.length co49] 39 (0, 0)) (by (with_reducible repeat (first | refine z1 ?_ _ | refine z2 ?_ | refine z3 ?_ _)); exact BK484.out) hb)
          have n7_ := Aside0.mk (blk_below (g := gb494) (o := .cells #[.int .i64 t491, .int .i64 t492] 59 (0, 0)) (by (with_reducible repeat (first | refine z1 ?_ _ | refine z2 ?_ | refine z3 ?_ _)); exact BK494.out) hb)
          have n8_ := Aside0.mk (below_step (by repeat (first | (with_reducible first | exact HB.out | apply below_alloc | apply pw_below_drewN | apply below_drew1 | refine below_set ?_ GE460.out | refine below_set ?_ GE478.out | refine below_set ?_ GE484.out | refine below_set ?_ GE494.out) | exact HB.out)) hb)
          clear HO_13 HO_14 HO_485002 BK460 BK478 BK484 BK494 HB
          have HO_13 := n0_
          have HO_14 := n1_
          have HO_485002 := n2_
          have HO500 := n3_
          have BK460 := n4_
          have BK478 := n5_
          have BK484 := n6_
          have BK494 := n7_
          have HB := n8_
          clear n0_ n1_ n2_ n3_ n4_ n5_ n6_ n7_ n8_
          (try clear hb)
          (try clear hb2)
          (try clear hk)
          (try clear hi)
          (try clear ho0)
          obtain ⟨Ao101, co101, eo101⟩ := Kd.S_slice HO500.out
          (first | subst eo101 | (injection eo101 with f1_ f2_ f3_; have f4_ := f1_.symm; have f5_ := f3_.symm; clear f1_ f2_ f3_; subst f4_; subst f5_))
          refine hK.out _ _ ⟨(blk_cell BK484.out 0).trans rfl, (blk_cell BK484.out 1).trans rfl, (blk_cell BK484.out 2).trans rfl, (blk_cell BK460.out 0).trans rfl, (blk_cell BK460.out 1).trans rfl, (blk_cell BK460.out 2).trans rfl⟩ (fun hHeld => ?_)
          clear hK K
          refine norm_ (a' := ?_) ?_ ?_
          rotate_left
          ·show Act.put _ (some 68) _ = _
           simp only [Act.put, y1, y2, y3, i64_w, i32_w]
           rfl
          refine one_ (i := 3) (N := some 69) #[true, true, true, true, false] rfl rfl (by kernel_rfl) (by decide) (fun K hK => ?_)
          refine goes_ Try.func27 (by kernel_rfl) rfl #[.agg #[.int .i64 t479, .int .i64 t480, .slice Ao49 t481.length co49], .agg #[.int .i64 t496, .int .i64 t497, .slice Ao101 t498.length co101]] (by rfl) rfl rfl (by (try simp only [List.map_toArray, List.map_cons, List.map_nil]); first | done | rfl | (simp only [List.length_drop, List.length_take]; rfl)) ?_
          with_reducible refine (laws_eqHull.calls t479 t480 _ _ t481 t496 t497 _ _ t498 true _ ?side1 ?side2 ?side3 ?side4 A81.out).mono ?_
          (case side1 => repeat (first | exact (Kd.S_reads' HO_485002.out).2.2 | (with_reducible refine Kd.C_alloc ?_ _) | (with_reducible refine Kd.C_drewN ?_ _) | (with_reducible refine Kd.C_drew ?_)))
          (case side2 => exact (Kd.S_reads' HO_485002.out).2.1)
          (case side3 => repeat (first | exact (Kd.S_reads' HO500.out).2.2 | (with_reducible refine Kd.C_alloc ?_ _) | (with_reducible refine Kd.C_drewN ?_ _) | (with_reducible refine Kd.C_drew ?_)))
          (case side4 => exact (Kd.S_reads' HO500.out).2.1)
          rintro e w102 ⟨rfl, hb⟩
          refine ⟨_, rfl, ?_⟩
          have n0_ := Aside0.mk (Kd.R_below (by (with_reducible repeat (first | apply Kd.R_alloc | apply Kd.R_drewN | apply Kd.R_drew)); exact HO_13.out) hb)
          have n1_ := Aside0.mk (Kd.R_below (by (with_reducible repeat (first | apply Kd.R_alloc | apply Kd.R_drewN | apply Kd.R_drew)); exact HO_14.out) hb)
          have n2_ := Aside0.mk (Kd.S_below (by (with_reducible repeat (first | apply Kd.S_alloc | apply Kd.S_drewN | apply Kd.S_drew)); exact HO_485002.out) hb)
          have n3_ := Aside0.mk (Kd.S_below (by (with_reducible repeat (first | apply Kd.S_alloc | apply Kd.S_drewN | apply Kd.S_drew)); exact HO500.out) hb)
          have n4_ := Aside0.mk (blk_below (g := gb460) (o := .cells #[.int .i64 a0_0, .int .i64 a0_1, .slice A0_2 l0_2.length c0_2] 36 (0, 0)) (by (with_reducible repeat (first | refine z1 ?_ _ | refine z2 ?_ | refine z3 ?_ _)); exact BK460.out) hb)
          have n5_ := Aside0.mk (blk_below (g := gb478) (o := .cells #[.int .i64 t475, .int .i64 t476] 59 (0, 0)) (by (with_reducible repeat (first | refine z1 ?_ _ | refine z2 ?_ | refine z3 ?_ _)); exact BK478.out) hb)
          have n6_ := Aside0.mk (blk_below (g := gb484) (o := .cells #[.int .i64 t479, .int .i64 t480, .slice Ao49 t481.length co49] 39 (0, 0)) (by (with_reducible repeat (first | refine z1 ?_ _ | refine z2 ?_ | refine z3 ?_ _)); exact BK484.out) hb)
          have n7_ := Aside0.mk (blk_below (g := gb494) (o := .cells #[.int .i64 t491, .int .i64 t492] 59 (0, 0)) (by (with_reducible repeat (first | refine z1 ?_ _ | refine z2 ?_ | refine z3 ?_ _)); exact BK494.out) hb)
          have n8_ := Aside0.mk (below_step (by repeat (first | (with_reducible first | exact HB.out | apply below_alloc | apply pw_below_drewN | apply below_drew1 | refine below_set ?_ GE460.out | refine below_set ?_ GE478.out | refine below_set ?_ GE484.out | refine below_set ?_ GE494.out) | exact HB.out)) hb)
          clear HO_13 HO_14 HO_485002 HO500 BK460 BK478 BK484 BK494 HB
          have HO_13 := n0_
          have HO_14 := n1_
          have HO_485002 := n2_
          have HO500 := n3_
          have BK460 := n4_
          have BK478 := n5_
          have BK484 := n6_
          have BK494 := n7_
          have HB := n8_
          clear n0_ n1_ n2_ n3_ n4_ n5_ n6_ n7_ n8_
          (try clear hb)
          (try clear hb2)
          (try clear hk)
          (try clear hi)
          refine hK.out _ _ ⟨(blk_cell BK484.out 0).trans rfl, (blk_cell BK484.out 1).trans rfl, (blk_cell BK484.out 2).trans rfl, (blk_cell BK460.out 0).trans rfl, (blk_cell BK460.out 1).trans rfl, (blk_cell BK460.out 2).trans rfl⟩ (fun hHeld => ?_)
          clear hK K
          refine norm_ (a' := ?_) ?_ ?_
          rotate_left
          ·show Act.put _ (some 69) _ = _
           simp only [Act.put, y1, y2, y3, i64_w, i32_w]
           rfl
          refine pure_ (i := 4) (N := some 70) (v := ?_) (a' := ?_) #[true, true, true, true, true] rfl rfl (by kernel_rfl) (fun _ _ _ h => h) (Or.inl ⟨by rfl, ?_⟩) ?_ ?_
          rotate_left
          ·intro w'
           go_simp
           with_reducible rfl
          rotate_left
          ·simp only [Act.put, y1, y2, y3, i64_w, i32_w]
           rfl
          refine done_ (by kernel_rfl) ?_
          try go_wp2_with (first | ((with_reducible refine gate_callee (f := 17) rfl ?_); refine goesL_ (some 73) rfl rfl Try.func17 (by kernel_rfl) rfl #[.slice A2 l2.length c2] rfl (by (try simp only [List.map_toArray, List.map_cons, List.map_nil]); first | done | rfl | (simp only [List.length_drop, List.length_take]; rfl)) ?_; (with_reducible refine (laws_toMassS.calls kj27 _ _ l2 t502 _ ?side1 ?side2 A83.out).mono ?_); (case side1 => repeat (first | exact (Kd.C_below HR2.out HB.out) | (with_reducible refine Kd.C_alloc ?_ _) | (with_reducible refine Kd.C_drewN ?_ _) | (with_reducible refine Kd.C_drew ?_))); (case side2 => exact HC2.out); rintro e w103 ⟨v503, rfl, ho0, hb⟩; refine ⟨_, rfl, ?_⟩; have n0_ := Aside0.mk (Kd.R_elder' (by (with_reducible repeat (first | apply Kd.R_alloc | apply Kd.R_drewN | apply Kd.R_drew)); exact HO_13.out) (Kd.R_base ho0) hb); have n1_ := Aside0.mk (Kd.R_below (by (with_reducible repeat (first | apply Kd.R_alloc | apply Kd.R_drewN | apply Kd.R_drew)); exact HO_14.out) hb); have n2_ := Aside0.mk (Kd.S_below (by (with_reducible repeat (first | apply Kd.S_alloc | apply Kd.S_drewN | apply Kd.S_drew)); exact HO_485002.out) hb); have n3_ := Aside0.mk (Kd.S_below (by (with_reducible repeat (first | apply Kd.S_alloc | apply Kd.S_drewN | apply Kd.S_drew)); exact HO500.out) hb); have n4_ := Aside0.mk (Kd.R_lower (Kd.R_new' ho0 (Kd.R_lt (by (with_reducible repeat (first | apply Kd.R_alloc | apply Kd.R_drewN | apply Kd.R_drew)); exact HO_13.out))) (below_size (by repeat (first | (with_reducible first | exact HB.out | apply below_alloc | apply pw_below_drewN | apply below_drew1 | refine below_set ?_ GE460.out | refine below_set ?_ GE478.out | refine below_set ?_ GE484.out | refine below_set ?_ GE494.out) | exact HB.out)))); have n5_ := Aside0.mk (blk_below (g := gb460) (o := .cells #[.int .i64 a0_0, .int .i64 a0_1, .slice A0_2 l0_2.length c0_2] 36 (0, 0)) (by (with_reducible repeat (first | refine z1 ?_ _ | refine z2 ?_ | refine z3 ?_ _)); exact BK460.out) hb); have n6_ := Aside0.mk (blk_below (g := gb478) (o := .cells #[.int .i64 t475, .int .i64 t476] 59 (0, 0)) (by (with_reducible repeat (first | refine z1 ?_ _ | refine z2 ?_ | refine z3 ?_ _)); exact BK478.out) hb); have n7_ := Aside0.mk (blk_below (g := gb484) (o := .cells #[.int .i64 t479, .int .i64 t480, .slice Ao49 t481.length co49] 39 (0, 0)) (by (with_reducible repeat (first | refine z1 ?_ _ | refine z2 ?_ | refine z3 ?_ _)); exact BK484.out) hb); have n8_ := Aside0.mk (blk_below (g := gb494) (o := .cells #[.int .i64 t491, .int .i64 t492] 59 (0, 0)) (by (with_reducible repeat (first | refine z1 ?_ _ | refine z2 ?_ | refine z3 ?_ _)); exact BK494.out) hb); have n9_ := Aside0.mk (below_step (by repeat (first | (with_reducible first | exact HB.out | apply below_alloc | apply pw_below_drewN | apply below_drew1 | refine below_set ?_ GE460.out | refine below_set ?_ GE478.out | refine below_set ?_ GE484.out | refine below_set ?_ GE494.out) | exact HB.out)) hb); clear HO_13; clear HO_14; clear HO_485002; clear HO500; clear BK460; clear BK478; clear BK484; clear BK494; clear HB; have HO_13 := n0_; have HO_14 := n1_; have HO_485002 := n2_; have HO500 := n3_; have HO504 := n4_; have BK460 := n5_; have BK478 := n6_; have BK484 := n7_; have BK494 := n8_; have HB := n9_; clear n0_ n1_ n2_ n3_ n4_ n5_ n6_ n7_ n8_ n9_; (try clear hb); (try clear hb2); (try clear hk); (try clear hi); (try clear ho0); obtain ⟨Ao104, co104, eo104⟩ := Kd.R_slice HO504.out; subst eo104) | ((with_reducible refine gate_callee (f := 19) rfl ?_); refine goesL_ (some 74) rfl rfl Try.func19 (by kernel_rfl) rfl #[.slice Ao53 t485.length co53, .slice Ao104 t502.length co104] rfl (by (try simp only [List.map_toArray, List.map_cons, List.map_nil]); first | done | rfl | (simp only [List.length_drop, List.length_take]; rfl)) ?_; (with_reducible refine (laws_eqMassS.calls kj27 _ _ t485 _ _ t502 true _ ?side1 ?side2 ?side3 ?side4 A84.out).mono ?_); (case side1 => repeat (first | exact (Kd.R_reads' HO_13.out).2.2 | (with_reducible refine Kd.C_alloc ?_ _) | (with_reducible refine Kd.C_drewN ?_ _) | (with_reducible refine Kd.C_drew ?_))); (case side2 => exact (Kd.R_reads' HO_13.out).2.1); (case side3 => repeat (first | exact (Kd.R_reads' HO504.out).2.2 | (with_reducible refine Kd.C_alloc ?_ _) | (with_reducible refine Kd.C_drewN ?_ _) | (with_reducible refine Kd.C_drew ?_))); (case side4 => exact (Kd.R_reads' HO504.out).2.1); rintro e w105 ⟨rfl, hb⟩; refine ⟨_, rfl, ?_⟩; have n0_ := Aside0.mk (Kd.R_below (by (with_reducible repeat (first | apply Kd.R_alloc | apply Kd.R_drewN | apply Kd.R_drew)); exact HO_13.out) hb); have n1_ := Aside0.mk (Kd.R_below (by (with_reducible repeat (first | apply Kd.R_alloc | apply Kd.R_drewN | apply Kd.R_drew)); exact HO_14.out) hb); have n2_ := Aside0.mk (Kd.S_below (by (with_reducible repeat (first | apply Kd.S_alloc | apply Kd.S_drewN | apply Kd.S_drew)); exact HO_485002.out) hb); have n3_ := Aside0.mk (Kd.S_below (by (with_reducible repeat (first | apply Kd.S_alloc | apply Kd.S_drewN | apply Kd.S_drew)); exact HO500.out) hb); have n4_ := Aside0.mk (Kd.R_below (by (with_reducible repeat (first | apply Kd.R_alloc | apply Kd.R_drewN | apply Kd.R_drew)); exact HO504.out) hb); have n5_ := Aside0.mk (blk_below (g := gb460) (o := .cells #[.int .i64 a0_0, .int .i64 a0_1, .slice A0_2 l0_2.length c0_2] 36 (0, 0)) (by (with_reducible repeat (first | refine z1 ?_ _ | refine z2 ?_ | refine z3 ?_ _)); exact BK460.out) hb); have n6_ := Aside0.mk (blk_below (g := gb478) (o := .cells #[.int .i64 t475, .int .i64 t476] 59 (0, 0)) (by (with_reducible repeat (first | refine z1 ?_ _ | refine z2 ?_ | refine z3 ?_ _)); exact BK478.out) hb); have n7_ := Aside0.mk (blk_below (g := gb484) (o := .cells #[.int .i64 t479, .int .i64 t480, .slice Ao49 t481.length co49] 39 (0, 0)) (by (with_reducible repeat (first | refine z1 ?_ _ | refine z2 ?_ | refine z3 ?_ _)); exact BK484.out) hb); have n8_ := Aside0.mk (blk_below (g := gb494) (o := .cells #[.int .i64 t491, .int .i64 t492] 59 (0, 0)) (by (with_reducible repeat (first | refine z1 ?_ _ | refine z2 ?_ | refine z3 ?_ _)); exact BK494.out) hb); have n9_ := Aside0.mk (below_step (by repeat (first | (with_reducible first | exact HB.out | apply below_alloc | apply pw_below_drewN | apply below_drew1 | refine below_set ?_ GE460.out | refine below_set ?_ GE478.out | refine below_set ?_ GE484.out | refine below_set ?_ GE494.out) | exact HB.out)) hb); clear HO_13; clear HO_14; clear HO_485002; clear HO500; clear HO504; clear BK460; clear BK478; clear BK484; clear BK494; clear HB; have HO_13 := n0_; have HO_14 := n1_; have HO_485002 := n2_; have HO500 := n3_; have HO504 := n4_; have BK460 := n5_; have BK478 := n6_; have BK484 := n7_; have BK494 := n8_; have HB := n9_; clear n0_ n1_ n2_ n3_ n4_ n5_ n6_ n7_ n8_ n9_; (try clear hb); (try clear hb2); (try clear hk); (try clear hi)) | ((with_reducible refine gate_callee (f := 53) rfl ?_); refine goesL_ (some 78) rfl rfl Try.func53 (by kernel_rfl) rfl #[.slice A3 l3.length c3] rfl (by (try simp only [List.map_toArray, List.map_cons, List.map_nil]); first | done | rfl | (simp only [List.length_drop, List.length_take]; rfl)) ?_; (with_reducible refine (laws_toTankS.calls kj27 _ _ l3 t506 _ ?side1 ?side2 A86.out).mono ?_); (case side1 => repeat (first | exact (Kd.C_below HR3.out HB.out) | (with_reducible refine Kd.C_alloc ?_ _) | (with_reducible refine Kd.C_drewN ?_ _) | (with_reducible refine Kd.C_drew ?_))); (case side2 => exact HC3.out); rintro e w106 ⟨v507, rfl, ho0, hb⟩; refine ⟨_, rfl, ?_⟩; have n0_ := Aside0.mk (Kd.R_below (by (with_reducible repeat (first | apply Kd.R_alloc | apply Kd.R_drewN | apply Kd.R_drew)); exact HO_13.out) hb); have n1_ := Aside0.mk (Kd.R_elder' (by (with_reducible repeat (first | apply Kd.R_alloc | apply Kd.R_drewN | apply Kd.R_drew)); exact HO_14.out) (Kd.R_base ho0) hb); have n2_ := Aside0.mk (Kd.S_below (by (with_reducible repeat (first | apply Kd.S_alloc | apply Kd.S_drewN | apply Kd.S_drew)); exact HO_485002.out) hb); have n3_ := Aside0.mk (Kd.S_below (by (with_reducible repeat (first | apply Kd.S_alloc | apply Kd.S_drewN | apply Kd.S_drew)); exact HO500.out) hb); have n4_ := Aside0.mk (Kd.R_below (by (with_reducible repeat (first | apply Kd.R_alloc | apply Kd.R_drewN | apply Kd.R_drew)); exact HO504.out) hb); have n5_ := Aside0.mk (Kd.R_lower (Kd.R_new' ho0 (Kd.R_lt (by (with_reducible repeat (first | apply Kd.R_alloc | apply Kd.R_drewN | apply Kd.R_drew)); exact HO_14.out))) (below_size (by repeat (first | (with_reducible first | exact HB.out | apply below_alloc | apply pw_below_drewN | apply below_drew1 | refine below_set ?_ GE460.out | refine below_set ?_ GE478.out | refine below_set ?_ GE484.out | refine below_set ?_ GE494.out) | exact HB.out)))); have n6_ := Aside0.mk (blk_below (g := gb460) (o := .cells #[.int .i64 a0_0, .int .i64 a0_1, .slice A0_2 l0_2.length c0_2] 36 (0, 0)) (by (with_reducible repeat (first | refine z1 ?_ _ | refine z2 ?_ | refine z3 ?_ _)); exact BK460.out) hb); have n7_ := Aside0.mk (blk_below (g := gb478) (o := .cells #[.int .i64 t475, .int .i64 t476] 59 (0, 0)) (by (with_reducible repeat (first | refine z1 ?_ _ | refine z2 ?_ | refine z3 ?_ _)); exact BK478.out) hb); have n8_ := Aside0.mk (blk_below (g := gb484) (o := .cells #[.int .i64 t479, .int .i64 t480, .slice Ao49 t481.length co49] 39 (0, 0)) (by (with_reducible repeat (first | refine z1 ?_ _ | refine z2 ?_ | refine z3 ?_ _)); exact BK484.out) hb); have n9_ := Aside0.mk (blk_below (g := gb494) (o := .cells #[.int .i64 t491, .int .i64 t492] 59 (0, 0)) (by (with_reducible repeat (first | refine z1 ?_ _ | refine z2 ?_ | refine z3 ?_ _)); exact BK494.out) hb); have n10_ := Aside0.mk (below_step (by repeat (first | (with_reducible first | exact HB.out | apply below_alloc | apply pw_below_drewN | apply below_drew1 | refine below_set ?_ GE460.out | refine below_set ?_ GE478.out | refine below_set ?_ GE484.out | refine below_set ?_ GE494.out) | exact HB.out)) hb); clear HO_13; clear HO_14; clear HO_485002; clear HO500; clear HO504; clear BK460; clear BK478; clear BK484; clear BK494; clear HB; have HO_13 := n0_; have HO_14 := n1_; have HO_485002 := n2_; have HO500 := n3_; have HO504 := n4_; have HO508 := n5_; have BK460 := n6_; have BK478 := n7_; have BK484 := n8_; have BK494 := n9_; have HB := n10_; clear n0_ n1_ n2_ n3_ n4_ n5_ n6_ n7_ n8_ n9_ n10_; (try clear hb); (try clear hb2); (try clear hk); (try clear hi); (try clear ho0); obtain ⟨Ao107, co107, eo107⟩ := Kd.R_slice HO508.out; subst eo107) | ((with_reducible refine gate_callee (f := 56) rfl ?_); refine goesL_ (some 79) rfl rfl Try.func56 (by kernel_rfl) rfl #[.slice Ao54 t488.length co54, .slice Ao107 t506.length co107] rfl (by (try simp only [List.map_toArray, List.map_cons, List.map_nil]); first | done | rfl | (simp only [List.length_drop, List.length_take]; rfl)) ?_; (with_reducible refine (laws_eqTankS.calls kj27 _ _ t488 _ _ t506 false _ ?side1 ?side2 ?side3 ?side4 A87.out).mono ?_); (case side1 => repeat (first | exact (Kd.R_reads' HO_14.out).2.2 | (with_reducible refine Kd.C_alloc ?_ _) | (with_reducible refine Kd.C_drewN ?_ _) | (with_reducible refine Kd.C_drew ?_))); (case side2 => exact (Kd.R_reads' HO_14.out).2.1); (case side3 => repeat (first | exact (Kd.R_reads' HO508.out).2.2 | (with_reducible refine Kd.C_alloc ?_ _) | (with_reducible refine Kd.C_drewN ?_ _) | (with_reducible refine Kd.C_drew ?_))); (case side4 => exact (Kd.R_reads' HO508.out).2.1); rintro e w108 ⟨rfl, hb⟩; refine ⟨_, rfl, ?_⟩; have n0_ := Aside0.mk (Kd.R_below (by (with_reducible repeat (first | apply Kd.R_alloc | apply Kd.R_drewN | apply Kd.R_drew)); exact HO_13.out) hb); have n1_ := Aside0.mk (Kd.R_below (by (with_reducible repeat (first | apply Kd.R_alloc | apply Kd.R_drewN | apply Kd.R_drew)); exact HO_14.out) hb); have n2_ := Aside0.mk (Kd.S_below (by (with_reducible repeat (first | apply Kd.S_alloc | apply Kd.S_drewN | apply Kd.S_drew)); exact HO_485002.out) hb); have n3_ := Aside0.mk (Kd.S_below (by (with_reducible repeat (first | apply Kd.S_alloc | apply Kd.S_drewN | apply Kd.S_drew)); exact HO500.out) hb); have n4_ := Aside0.mk (Kd.R_below (by (with_reducible repeat (first | apply Kd.R_alloc | apply Kd.R_drewN | apply Kd.R_drew)); exact HO504.out) hb); have n5_ := Aside0.mk (Kd.R_below (by (with_reducible repeat (first | apply Kd.R_alloc | apply Kd.R_drewN | apply Kd.R_drew)); exact HO508.out) hb); have n6_ := Aside0.mk (blk_below (g := gb460) (o := .cells #[.int .i64 a0_0, .int .i64 a0_1, .slice A0_2 l0_2.length c0_2] 36 (0, 0)) (by (with_reducible repeat (first | refine z1 ?_ _ | refine z2 ?_ | refine z3 ?_ _)); exact BK460.out) hb); have n7_ := Aside0.mk (blk_below (g := gb478) (o := .cells #[.int .i64 t475, .int .i64 t476] 59 (0, 0)) (by (with_reducible repeat (first | refine z1 ?_ _ | refine z2 ?_ | refine z3 ?_ _)); exact BK478.out) hb); have n8_ := Aside0.mk (blk_below (g := gb484) (o := .cells #[.int .i64 t479, .int .i64 t480, .slice Ao49 t481.length co49] 39 (0, 0)) (by (with_reducible repeat (first | refine z1 ?_ _ | refine z2 ?_ | refine z3 ?_ _)); exact BK484.out) hb); have n9_ := Aside0.mk (blk_below (g := gb494) (o := .cells #[.int .i64 t491, .int .i64 t492] 59 (0, 0)) (by (with_reducible repeat (first | refine z1 ?_ _ | refine z2 ?_ | refine z3 ?_ _)); exact BK494.out) hb); have n10_ := Aside0.mk (below_step (by repeat (first | (with_reducible first | exact HB.out | apply below_alloc | apply pw_below_drewN | apply below_drew1 | refine below_set ?_ GE460.out | refine below_set ?_ GE478.out | refine below_set ?_ GE484.out | refine below_set ?_ GE494.out) | exact HB.out)) hb); clear HO_13; clear HO_14; clear HO_485002; clear HO500; clear HO504; clear HO508; clear BK460; clear BK478; clear BK484; clear BK494; clear HB; have HO_13 := n0_; have HO_14 := n1_; have HO_485002 := n2_; have HO500 := n3_; have HO504 := n4_; have HO508 := n5_; have BK460 := n6_; have BK478 := n7_; have BK484 := n8_; have BK494 := n9_; have HB := n10_; clear n0_ n1_ n2_ n3_ n4_ n5_ n6_ n7_ n8_ n9_ n10_; (try clear hb); (try clear hb2); (try clear hk); (try clear hi)))
          go_ret
          exact ⟨by first | rfl | (simp [errW_none, errW_some] <;> rfl) | (simp [*, errW_none, errW_some] <;> rfl), by repeat (first | (with_reducible first | exact HB.out | apply below_alloc | apply pw_below_drewN | apply below_drew1 | refine below_set ?_ GE460.out | refine below_set ?_ GE478.out | refine below_set ?_ GE484.out | refine below_set ?_ GE494.out) | exact HB.out)⟩
        ·replace c85 := Bool.eq_false_iff.mpr c85
         subst c85
         have H1 : (some false) = some r := by rw [if_neg (show ¬ (false = true) by decide)] at H; exact H
         clear H
         have H := H1
         clear H1
         obtain rfl := Option.some.inj H
         try go_wp2
         have n0_ := Aside0.mk (Kd.R_drew HO_13.out)
         have n1_ := Aside0.mk (Kd.R_drew HO_14.out)
         have n2_ := Aside0.mk (Kd.S_drew HO_485002.out)
         have n3_ := Aside0.mk (blk_drew BK460.out)
         have n4_ := Aside0.mk (blk_drew BK478.out)
         have n5_ := Aside0.mk (blk_drew BK484.out)
         have n6_ := Aside0.mk (blk_drew BK494.out)
         have n7_ := Aside0.mk (below_drew1 HB.out)
         clear HO_13 HO_14 HO_485002 BK460 BK478 BK484 BK494 HB
         have HO_13 := n0_
         have HO_14 := n1_
         have HO_485002 := n2_
         have BK460 := n3_
         have BK478 := n4_
         have BK484 := n5_
         have BK494 := n6_
         have HB := n7_
         clear n0_ n1_ n2_ n3_ n4_ n5_ n6_ n7_
         refine start_ (n := 5) (S := fun w' => w'.cell? ⟨gb484, 0, none⟩ = some (.int .i64 t479) ∧ w'.cell? ⟨gb484, 1, none⟩ = some (.int .i64 t480) ∧ w'.cell? ⟨gb484, 2, none⟩ = some (.slice Ao49 t481.length co49) ∧ w'.cell? ⟨gb460, 0, none⟩ = some (.int .i64 a0_0) ∧ w'.cell? ⟨gb460, 1, none⟩ = some (.int .i64 a0_1) ∧ w'.cell? ⟨gb460, 2, none⟩ = some (.slice A0_2 l0_2.length c0_2)) (ds := []) #[false, false, false, false, false] (by kernel_rfl) rfl rfl ⟨(blk_cell BK484.out 0).trans rfl, (blk_cell BK484.out 1).trans rfl, (blk_cell BK484.out 2).trans rfl, (blk_cell BK460.out 0).trans rfl, (blk_cell BK460.out 1).trans rfl, (blk_cell BK460.out 2).trans rfl⟩ (fun hHeld => ?_)
         generalize wc.drew = w109 at HO_13 HO_14 HO_485002 BK460 BK478 BK484 BK494 HB hHeld ⊢
         refine take_ (i := 0) (N := some 66) (v := ?_) (a' := ?_) #[true, false, false, false, false] rfl rfl (by kernel_rfl) (fun _ _ _ h => h) (Or.inl ⟨by rfl, ?_⟩) hHeld ?_ ?_
         rotate_left
         ·rintro w' ⟨s0, s1, s2, s3, s4, s5⟩
          go_simp
          with_reducible rfl
         rotate_left
         ·simp only [Act.put, y1, y2, y3, i64_w, i32_w]
          rfl
         refine take_ (i := 1) (N := some 67) (v := ?_) (a' := ?_) #[true, true, false, false, false] rfl rfl (by kernel_rfl) (fun _ _ _ h => h) (Or.inl ⟨by rfl, ?_⟩) hHeld ?_ ?_
         rotate_left
         ·rintro w' ⟨s0, s1, s2, s3, s4, s5⟩
          go_simp
          with_reducible rfl
         rotate_left
         ·simp only [Act.put, y1, y2, y3, i64_w, i32_w]
          rfl
         refine one_ (i := 2) (N := some 68) #[true, true, true, false, false] rfl rfl (by kernel_rfl) (by decide) (fun K hK => ?_)
         refine goes_ Try.func25 (by kernel_rfl) rfl #[.agg #[.int .i64 a0_0, .int .i64 a0_1, .slice A0_2 l0_2.length c0_2]] (by rfl) rfl rfl (by (try simp only [List.map_toArray, List.map_cons, List.map_nil]); first | done | rfl | (simp only [List.length_drop, List.length_take]; rfl)) ?_
         with_reducible refine (laws_toHull.calls a0_0 a0_1 _ _ l0_2 t496 t497 t498 _ ?side1 ?side2 A80.out).mono ?_
         (case side1 => repeat (first | exact (Kd.C_below HR0_2.out HB.out) | (with_reducible refine Kd.C_alloc ?_ _) | (with_reducible refine Kd.C_drewN ?_ _) | (with_reducible refine Kd.C_drew ?_)))
         (case side2 => exact HC0_2.out)
         rintro e w110 ⟨v499, rfl, ho0, hb⟩
         refine ⟨_, rfl, ?_⟩
         have n0_ := Aside0.mk (Kd.R_below (by (with_reducible repeat (first | apply Kd.R_alloc | apply Kd.R_drewN | apply Kd.R_drew)); exact HO_13.out) hb)
         have n1_ := Aside0.mk (Kd.R_below (by (with_reducible repeat (first | apply Kd.R_alloc | apply Kd.R_drewN | apply Kd.R_drew)); exact HO_14.out) hb)
         have n2_ := Aside0.mk (Kd.S_elder' (by (with_reducible repeat (first | apply Kd.S_alloc | apply Kd.S_drewN | apply Kd.S_drew)); exact HO_485002.out) (Kd.S_base ho0) hb)
         have n3_ := Aside0.mk (Kd.S_lower (Kd.S_new' ho0 (Kd.S_lt (by (with_reducible repeat (first | apply Kd.S_alloc | apply Kd.S_drewN | apply Kd.S_drew)); exact HO_485002.out))) (below_size (by repeat (first | (with_reducible first | exact HB.out | apply below_alloc | apply pw_below_drewN | apply below_drew1 | refine below_set ?_ GE460.out | refine below_set ?_ GE478.out | refine below_set ?_ GE484.out | refine below_set ?_ GE494.out) | exact HB.out))))
         have n4_ := Aside0.mk (blk_below (g := gb460) (o := .cells #[.int .i64 a0_0, .int .i64 a0_1, .slice A0_2 l0_2.length c0_2] 36 (0, 0)) (by (with_reducible repeat (first | refine z1 ?_ _ | refine z2 ?_ | refine z3 ?_ _)); exact BK460.out) hb)
         have n5_ := Aside0.mk (blk_below (g := gb478) (o := .cells #[.int .i64 t475, .int .i64 t476] 59 (0, 0)) (by (with_reducible repeat (first | refine z1 ?_ _ | refine z2 ?_ | refine z3 ?_ _)); exact BK478.out) hb)
         have n6_ := Aside0.mk (blk_below (g := gb484) (o := .cells #[.int .i64 t479, .int .i64 t480, .slice Ao49 t481.length co49] 39 (0, 0)) (by (with_reducible repeat (first | refine z1 ?_ _ | refine z2 ?_ | refine z3 ?_ _)); exact BK484.out) hb)
         have n7_ := Aside0.mk (blk_below (g := gb494) (o := .cells #[.int .i64 t491, .int .i64 t492] 59 (0, 0)) (by (with_reducible repeat (first | refine z1 ?_ _ | refine z2 ?_ | refine z3 ?_ _)); exact BK494.out) hb)
         have n8_ := Aside0.mk (below_step (by repeat (first | (with_reducible first | exact HB.out | apply below_alloc | apply pw_below_drewN | apply below_drew1 | refine below_set ?_ GE460.out | refine below_set ?_ GE478.out | refine below_set ?_ GE484.out | refine below_set ?_ GE494.out) | exact HB.out)) hb)
         clear HO_13 HO_14 HO_485002 BK460 BK478 BK484 BK494 HB
         have HO_13 := n0_
         have HO_14 := n1_
         have HO_485002 := n2_
         have HO500 := n3_
         have BK460 := n4_
         have BK478 := n5_
         have BK484 := n6_
         have BK494 := n7_
         have HB := n8_
         clear n0_ n1_ n2_ n3_ n4_ n5_ n6_ n7_ n8_
         (try clear hb)
         (try clear hb2)
         (try clear hk)
         (try clear hi)
         (try clear ho0)
         obtain ⟨Ao111, co111, eo111⟩ := Kd.S_slice HO500.out
         (first | subst eo111 | (injection eo111 with f1_ f2_ f3_; have f4_ := f1_.symm; have f5_ := f3_.symm; clear f1_ f2_ f3_; subst f4_; subst f5_))
         refine hK.out _ _ ⟨(blk_cell BK484.out 0).trans rfl, (blk_cell BK484.out 1).trans rfl, (blk_cell BK484.out 2).trans rfl, (blk_cell BK460.out 0).trans rfl, (blk_cell BK460.out 1).trans rfl, (blk_cell BK460.out 2).trans rfl⟩ (fun hHeld => ?_)
         clear hK K
         refine norm_ (a' := ?_) ?_ ?_
         rotate_left
         ·show Act.put _ (some 68) _ = _
          simp only [Act.put, y1, y2, y3, i64_w, i32_w]
          rfl
         refine one_ (i := 3) (N := some 69) #[true, true, true, true, false] rfl rfl (by kernel_rfl) (by decide) (fun K hK => ?_)
         refine goes_ Try.func27 (by kernel_rfl) rfl #[.agg #[.int .i64 t479, .int .i64 t480, .slice Ao49 t481.length co49], .agg #[.int .i64 t496, .int .i64 t497, .slice Ao111 t498.length co111]] (by rfl) rfl rfl (by (try simp only [List.map_toArray, List.map_cons, List.map_nil]); first | done | rfl | (simp only [List.length_drop, List.length_take]; rfl)) ?_
         with_reducible refine (laws_eqHull.calls t479 t480 _ _ t481 t496 t497 _ _ t498 true _ ?side1 ?side2 ?side3 ?side4 A81.out).mono ?_
         (case side1 => repeat (first | exact (Kd.S_reads' HO_485002.out).2.2 | (with_reducible refine Kd.C_alloc ?_ _) | (with_reducible refine Kd.C_drewN ?_ _) | (with_reducible refine Kd.C_drew ?_)))
         (case side2 => exact (Kd.S_reads' HO_485002.out).2.1)
         (case side3 => repeat (first | exact (Kd.S_reads' HO500.out).2.2 | (with_reducible refine Kd.C_alloc ?_ _) | (with_reducible refine Kd.C_drewN ?_ _) | (with_reducible refine Kd.C_drew ?_)))
         (case side4 => exact (Kd.S_reads' HO500.out).2.1)
         rintro e w112 ⟨rfl, hb⟩
         refine ⟨_, rfl, ?_⟩
         have n0_ := Aside0.mk (Kd.R_below (by (with_reducible repeat (first | apply Kd.R_alloc | apply Kd.R_drewN | apply Kd.R_drew)); exact HO_13.out) hb)
         have n1_ := Aside0.mk (Kd.R_below (by (with_reducible repeat (first | apply Kd.R_alloc | apply Kd.R_drewN | apply Kd.R_drew)); exact HO_14.out) hb)
         have n2_ := Aside0.mk (Kd.S_below (by (with_reducible repeat (first | apply Kd.S_alloc | apply Kd.S_drewN | apply Kd.S_drew)); exact HO_485002.out) hb)
         have n3_ := Aside0.mk (Kd.S_below (by (with_reducible repeat (first | apply Kd.S_alloc | apply Kd.S_drewN | apply Kd.S_drew)); exact HO500.out) hb)
         have n4_ := Aside0.mk (blk_below (g := gb460) (o := .cells #[.int .i64 a0_0, .int .i64 a0_1, .slice A0_2 l0_2.length c0_2] 36 (0, 0)) (by (with_reducible repeat (first | refine z1 ?_ _ | refine z2 ?_ | refine z3 ?_ _)); exact BK460.out) hb)
         have n5_ := Aside0.mk (blk_below (g := gb478) (o := .cells #[.int .i64 t475, .int .i64 t476] 59 (0, 0)) (by (with_reducible repeat (first | refine z1 ?_ _ | refine z2 ?_ | refine z3 ?_ _)); exact BK478.out) hb)
         have n6_ := Aside0.mk (blk_below (g := gb484) (o := .cells #[.int .i64 t479, .int .i64 t480, .slice Ao49 t481.length co49] 39 (0, 0)) (by (with_reducible repeat (first | refine z1 ?_ _ | refine z2 ?_ | refine z3 ?_ _)); exact BK484.out) hb)
         have n7_ := Aside0.mk (blk_below (g := gb494) (o := .cells #[.int .i64 t491, .int .i64 t492] 59 (0, 0)) (by (with_reducible repeat (first | refine z1 ?_ _ | refine z2 ?_ | refine z3 ?_ _)); exact BK494.out) hb)
         have n8_ := Aside0.mk (below_step (by repeat (first | (with_reducible first | exact HB.out | apply below_alloc | apply pw_below_drewN | apply below_drew1 | refine below_set ?_ GE460.out | refine below_set ?_ GE478.out | refine below_set ?_ GE484.out | refine below_set ?_ GE494.out) | exact HB.out)) hb)
         clear HO_13 HO_14 HO_485002 HO500 BK460 BK478 BK484 BK494 HB
         have HO_13 := n0_
         have HO_14 := n1_
         have HO_485002 := n2_
         have HO500 := n3_
         have BK460 := n4_
         have BK478 := n5_
         have BK484 := n6_
         have BK494 := n7_
         have HB := n8_
         clear n0_ n1_ n2_ n3_ n4_ n5_ n6_ n7_ n8_
         (try clear hb)
         (try clear hb2)
         (try clear hk)
         (try clear hi)
         refine hK.out _ _ ⟨(blk_cell BK484.out 0).trans rfl, (blk_cell BK484.out 1).trans rfl, (blk_cell BK484.out 2).trans rfl, (blk_cell BK460.out 0).trans rfl, (blk_cell BK460.out 1).trans rfl, (blk_cell BK460.out 2).trans rfl⟩ (fun hHeld => ?_)
         clear hK K
         refine norm_ (a' := ?_) ?_ ?_
         rotate_left
         ·show Act.put _ (some 69) _ = _
          simp only [Act.put, y1, y2, y3, i64_w, i32_w]
          rfl
         refine pure_ (i := 4) (N := some 70) (v := ?_) (a' := ?_) #[true, true, true, true, true] rfl rfl (by kernel_rfl) (fun _ _ _ h => h) (Or.inl ⟨by rfl, ?_⟩) ?_ ?_
         rotate_left
         ·intro w'
          go_simp
          with_reducible rfl
         rotate_left
         ·simp only [Act.put, y1, y2, y3, i64_w, i32_w]
          rfl
         refine done_ (by kernel_rfl) ?_
         try go_wp2_with (first | ((with_reducible refine gate_callee (f := 17) rfl ?_); refine goesL_ (some 73) rfl rfl Try.func17 (by kernel_rfl) rfl #[.slice A2 l2.length c2] rfl (by (try simp only [List.map_toArray, List.map_cons, List.map_nil]); first | done | rfl | (simp only [List.length_drop, List.length_take]; rfl)) ?_; (with_reducible refine (laws_toMassS.calls kj27 _ _ l2 t502 _ ?side1 ?side2 A83.out).mono ?_); (case side1 => repeat (first | exact (Kd.C_below HR2.out HB.out) | (with_reducible refine Kd.C_alloc ?_ _) | (with_reducible refine Kd.C_drewN ?_ _) | (with_reducible refine Kd.C_drew ?_))); (case side2 => exact HC2.out); rintro e w113 ⟨v503, rfl, ho0, hb⟩; refine ⟨_, rfl, ?_⟩; have n0_ := Aside0.mk (Kd.R_elder' (by (with_reducible repeat (first | apply Kd.R_alloc | apply Kd.R_drewN | apply Kd.R_drew)); exact HO_13.out) (Kd.R_base ho0) hb); have n1_ := Aside0.mk (Kd.R_below (by (with_reducible repeat (first | apply Kd.R_alloc | apply Kd.R_drewN | apply Kd.R_drew)); exact HO_14.out) hb); have n2_ := Aside0.mk (Kd.S_below (by (with_reducible repeat (first | apply Kd.S_alloc | apply Kd.S_drewN | apply Kd.S_drew)); exact HO_485002.out) hb); have n3_ := Aside0.mk (Kd.S_below (by (with_reducible repeat (first | apply Kd.S_alloc | apply Kd.S_drewN | apply Kd.S_drew)); exact HO500.out) hb); have n4_ := Aside0.mk (Kd.R_lower (Kd.R_new' ho0 (Kd.R_lt (by (with_reducible repeat (first | apply Kd.R_alloc | apply Kd.R_drewN | apply Kd.R_drew)); exact HO_13.out))) (below_size (by repeat (first | (with_reducible first | exact HB.out | apply below_alloc | apply pw_below_drewN | apply below_drew1 | refine below_set ?_ GE460.out | refine below_set ?_ GE478.out | refine below_set ?_ GE484.out | refine below_set ?_ GE494.out) | exact HB.out)))); have n5_ := Aside0.mk (blk_below (g := gb460) (o := .cells #[.int .i64 a0_0, .int .i64 a0_1, .slice A0_2 l0_2.length c0_2] 36 (0, 0)) (by (with_reducible repeat (first | refine z1 ?_ _ | refine z2 ?_ | refine z3 ?_ _)); exact BK460.out) hb); have n6_ := Aside0.mk (blk_below (g := gb478) (o := .cells #[.int .i64 t475, .int .i64 t476] 59 (0, 0)) (by (with_reducible repeat (first | refine z1 ?_ _ | refine z2 ?_ | refine z3 ?_ _)); exact BK478.out) hb); have n7_ := Aside0.mk (blk_below (g := gb484) (o := .cells #[.int .i64 t479, .int .i64 t480, .slice Ao49 t481.length co49] 39 (0, 0)) (by (with_reducible repeat (first | refine z1 ?_ _ | refine z2 ?_ | refine z3 ?_ _)); exact BK484.out) hb); have n8_ := Aside0.mk (blk_below (g := gb494) (o := .cells #[.int .i64 t491, .int .i64 t492] 59 (0, 0)) (by (with_reducible repeat (first | refine z1 ?_ _ | refine z2 ?_ | refine z3 ?_ _)); exact BK494.out) hb); have n9_ := Aside0.mk (below_step (by repeat (first | (with_reducible first | exact HB.out | apply below_alloc | apply pw_below_drewN | apply below_drew1 | refine below_set ?_ GE460.out | refine below_set ?_ GE478.out | refine below_set ?_ GE484.out | refine below_set ?_ GE494.out) | exact HB.out)) hb); clear HO_13; clear HO_14; clear HO_485002; clear HO500; clear BK460; clear BK478; clear BK484; clear BK494; clear HB; have HO_13 := n0_; have HO_14 := n1_; have HO_485002 := n2_; have HO500 := n3_; have HO504 := n4_; have BK460 := n5_; have BK478 := n6_; have BK484 := n7_; have BK494 := n8_; have HB := n9_; clear n0_ n1_ n2_ n3_ n4_ n5_ n6_ n7_ n8_ n9_; (try clear hb); (try clear hb2); (try clear hk); (try clear hi); (try clear ho0); obtain ⟨Ao114, co114, eo114⟩ := Kd.R_slice HO504.out; subst eo114) | ((with_reducible refine gate_callee (f := 19) rfl ?_); refine goesL_ (some 74) rfl rfl Try.func19 (by kernel_rfl) rfl #[.slice Ao53 t485.length co53, .slice Ao114 t502.length co114] rfl (by (try simp only [List.map_toArray, List.map_cons, List.map_nil]); first | done | rfl | (simp only [List.length_drop, List.length_take]; rfl)) ?_; (with_reducible refine (laws_eqMassS.calls kj27 _ _ t485 _ _ t502 false _ ?side1 ?side2 ?side3 ?side4 A84.out).mono ?_); (case side1 => repeat (first | exact (Kd.R_reads' HO_13.out).2.2 | (with_reducible refine Kd.C_alloc ?_ _) | (with_reducible refine Kd.C_drewN ?_ _) | (with_reducible refine Kd.C_drew ?_))); (case side2 => exact (Kd.R_reads' HO_13.out).2.1); (case side3 => repeat (first | exact (Kd.R_reads' HO504.out).2.2 | (with_reducible refine Kd.C_alloc ?_ _) | (with_reducible refine Kd.C_drewN ?_ _) | (with_reducible refine Kd.C_drew ?_))); (case side4 => exact (Kd.R_reads' HO504.out).2.1); rintro e w115 ⟨rfl, hb⟩; refine ⟨_, rfl, ?_⟩; have n0_ := Aside0.mk (Kd.R_below (by (with_reducible repeat (first | apply Kd.R_alloc | apply Kd.R_drewN | apply Kd.R_drew)); exact HO_13.out) hb); have n1_ := Aside0.mk (Kd.R_below (by (with_reducible repeat (first | apply Kd.R_alloc | apply Kd.R_drewN | apply Kd.R_drew)); exact HO_14.out) hb); have n2_ := Aside0.mk (Kd.S_below (by (with_reducible repeat (first | apply Kd.S_alloc | apply Kd.S_drewN | apply Kd.S_drew)); exact HO_485002.out) hb); have n3_ := Aside0.mk (Kd.S_below (by (with_reducible repeat (first | apply Kd.S_alloc | apply Kd.S_drewN | apply Kd.S_drew)); exact HO500.out) hb); have n4_ := Aside0.mk (Kd.R_below (by (with_reducible repeat (first | apply Kd.R_alloc | apply Kd.R_drewN | apply Kd.R_drew)); exact HO504.out) hb); have n5_ := Aside0.mk (blk_below (g := gb460) (o := .cells #[.int .i64 a0_0, .int .i64 a0_1, .slice A0_2 l0_2.length c0_2] 36 (0, 0)) (by (with_reducible repeat (first | refine z1 ?_ _ | refine z2 ?_ | refine z3 ?_ _)); exact BK460.out) hb); have n6_ := Aside0.mk (blk_below (g := gb478) (o := .cells #[.int .i64 t475, .int .i64 t476] 59 (0, 0)) (by (with_reducible repeat (first | refine z1 ?_ _ | refine z2 ?_ | refine z3 ?_ _)); exact BK478.out) hb); have n7_ := Aside0.mk (blk_below (g := gb484) (o := .cells #[.int .i64 t479, .int .i64 t480, .slice Ao49 t481.length co49] 39 (0, 0)) (by (with_reducible repeat (first | refine z1 ?_ _ | refine z2 ?_ | refine z3 ?_ _)); exact BK484.out) hb); have n8_ := Aside0.mk (blk_below (g := gb494) (o := .cells #[.int .i64 t491, .int .i64 t492] 59 (0, 0)) (by (with_reducible repeat (first | refine z1 ?_ _ | refine z2 ?_ | refine z3 ?_ _)); exact BK494.out) hb); have n9_ := Aside0.mk (below_step (by repeat (first | (with_reducible first | exact HB.out | apply below_alloc | apply pw_below_drewN | apply below_drew1 | refine below_set ?_ GE460.out | refine below_set ?_ GE478.out | refine below_set ?_ GE484.out | refine below_set ?_ GE494.out) | exact HB.out)) hb); clear HO_13; clear HO_14; clear HO_485002; clear HO500; clear HO504; clear BK460; clear BK478; clear BK484; clear BK494; clear HB; have HO_13 := n0_; have HO_14 := n1_; have HO_485002 := n2_; have HO500 := n3_; have HO504 := n4_; have BK460 := n5_; have BK478 := n6_; have BK484 := n7_; have BK494 := n8_; have HB := n9_; clear n0_ n1_ n2_ n3_ n4_ n5_ n6_ n7_ n8_ n9_; (try clear hb); (try clear hb2); (try clear hk); (try clear hi)))
         go_ret
         exact ⟨by first | rfl | (simp [errW_none, errW_some] <;> rfl) | (simp [*, errW_none, errW_some] <;> rfl), by repeat (first | (with_reducible first | exact HB.out | apply below_alloc | apply pw_below_drewN | apply below_drew1 | refine below_set ?_ GE460.out | refine below_set ?_ GE478.out | refine below_set ?_ GE484.out | refine below_set ?_ GE494.out) | exact HB.out)⟩
       ·replace c82 := Bool.eq_false_iff.mpr c82
        subst c82
        have H1 : (some false) = some r := by rw [if_neg (show ¬ (false = true) by decide)] at H; exact H
        clear H
        have H := H1
        clear H1
        obtain rfl := Option.some.inj H
        try go_wp2
        have n0_ := Aside0.mk (Kd.R_drew HO_13.out)
        have n1_ := Aside0.mk (Kd.R_drew HO_14.out)
        have n2_ := Aside0.mk (Kd.S_drew HO_485002.out)
        have n3_ := Aside0.mk (blk_drew BK460.out)
        have n4_ := Aside0.mk (blk_drew BK478.out)
        have n5_ := Aside0.mk (blk_drew BK484.out)
        have n6_ := Aside0.mk (blk_drew BK494.out)
        have n7_ := Aside0.mk (below_drew1 HB.out)
        clear HO_13 HO_14 HO_485002 BK460 BK478 BK484 BK494 HB
        have HO_13 := n0_
        have HO_14 := n1_
        have HO_485002 := n2_
        have BK460 := n3_
        have BK478 := n4_
        have BK484 := n5_
        have BK494 := n6_
        have HB := n7_
        clear n0_ n1_ n2_ n3_ n4_ n5_ n6_ n7_
        refine start_ (n := 5) (S := fun w' => w'.cell? ⟨gb484, 0, none⟩ = some (.int .i64 t479) ∧ w'.cell? ⟨gb484, 1, none⟩ = some (.int .i64 t480) ∧ w'.cell? ⟨gb484, 2, none⟩ = some (.slice Ao49 t481.length co49) ∧ w'.cell? ⟨gb460, 0, none⟩ = some (.int .i64 a0_0) ∧ w'.cell? ⟨gb460, 1, none⟩ = some (.int .i64 a0_1) ∧ w'.cell? ⟨gb460, 2, none⟩ = some (.slice A0_2 l0_2.length c0_2)) (ds := []) #[false, false, false, false, false] (by kernel_rfl) rfl rfl ⟨(blk_cell BK484.out 0).trans rfl, (blk_cell BK484.out 1).trans rfl, (blk_cell BK484.out 2).trans rfl, (blk_cell BK460.out 0).trans rfl, (blk_cell BK460.out 1).trans rfl, (blk_cell BK460.out 2).trans rfl⟩ (fun hHeld => ?_)
        generalize wc.drew = w116 at HO_13 HO_14 HO_485002 BK460 BK478 BK484 BK494 HB hHeld ⊢
        refine take_ (i := 0) (N := some 66) (v := ?_) (a' := ?_) #[true, false, false, false, false] rfl rfl (by kernel_rfl) (fun _ _ _ h => h) (Or.inl ⟨by rfl, ?_⟩) hHeld ?_ ?_
        rotate_left
        ·rintro w' ⟨s0, s1, s2, s3, s4, s5⟩
         go_simp
         with_reducible rfl
        rotate_left
        ·simp only [Act.put, y1, y2, y3, i64_w, i32_w]
         rfl
        refine take_ (i := 1) (N := some 67) (v := ?_) (a' := ?_) #[true, true, false, false, false] rfl rfl (by kernel_rfl) (fun _ _ _ h => h) (Or.inl ⟨by rfl, ?_⟩) hHeld ?_ ?_
        rotate_left
        ·rintro w' ⟨s0, s1, s2, s3, s4, s5⟩
         go_simp
         with_reducible rfl
        rotate_left
        ·simp only [Act.put, y1, y2, y3, i64_w, i32_w]
         rfl
        refine one_ (i := 2) (N := some 68) #[true, true, true, false, false] rfl rfl (by kernel_rfl) (by decide) (fun K hK => ?_)
        refine goes_ Try.func25 (by kernel_rfl) rfl #[.agg #[.int .i64 a0_0, .int .i64 a0_1, .slice A0_2 l0_2.length c0_2]] (by rfl) rfl rfl (by (try simp only [List.map_toArray, List.map_cons, List.map_nil]); first | done | rfl | (simp only [List.length_drop, List.length_take]; rfl)) ?_
        with_reducible refine (laws_toHull.calls a0_0 a0_1 _ _ l0_2 t496 t497 t498 _ ?side1 ?side2 A80.out).mono ?_
        (case side1 => repeat (first | exact (Kd.C_below HR0_2.out HB.out) | (with_reducible refine Kd.C_alloc ?_ _) | (with_reducible refine Kd.C_drewN ?_ _) | (with_reducible refine Kd.C_drew ?_)))
        (case side2 => exact HC0_2.out)
        rintro e w117 ⟨v499, rfl, ho0, hb⟩
        refine ⟨_, rfl, ?_⟩
        have n0_ := Aside0.mk (Kd.R_below (by (with_reducible repeat (first | apply Kd.R_alloc | apply Kd.R_drewN | apply Kd.R_drew)); exact HO_13.out) hb)
        have n1_ := Aside0.mk (Kd.R_below (by (with_reducible repeat (first | apply Kd.R_alloc | apply Kd.R_drewN | apply Kd.R_drew)); exact HO_14.out) hb)
        have n2_ := Aside0.mk (Kd.S_elder' (by (with_reducible repeat (first | apply Kd.S_alloc | apply Kd.S_drewN | apply Kd.S_drew)); exact HO_485002.out) (Kd.S_base ho0) hb)
        have n3_ := Aside0.mk (Kd.S_lower (Kd.S_new' ho0 (Kd.S_lt (by (with_reducible repeat (first | apply Kd.S_alloc | apply Kd.S_drewN | apply Kd.S_drew)); exact HO_485002.out))) (below_size (by repeat (first | (with_reducible first | exact HB.out | apply below_alloc | apply pw_below_drewN | apply below_drew1 | refine below_set ?_ GE460.out | refine below_set ?_ GE478.out | refine below_set ?_ GE484.out | refine below_set ?_ GE494.out) | exact HB.out))))
        have n4_ := Aside0.mk (blk_below (g := gb460) (o := .cells #[.int .i64 a0_0, .int .i64 a0_1, .slice A0_2 l0_2.length c0_2] 36 (0, 0)) (by (with_reducible repeat (first | refine z1 ?_ _ | refine z2 ?_ | refine z3 ?_ _)); exact BK460.out) hb)
        have n5_ := Aside0.mk (blk_below (g := gb478) (o := .cells #[.int .i64 t475, .int .i64 t476] 59 (0, 0)) (by (with_reducible repeat (first | refine z1 ?_ _ | refine z2 ?_ | refine z3 ?_ _)); exact BK478.out) hb)
        have n6_ := Aside0.mk (blk_below (g := gb484) (o := .cells #[.int .i64 t479, .int .i64 t480, .slice Ao49 t481.length co49] 39 (0, 0)) (by (with_reducible repeat (first | refine z1 ?_ _ | refine z2 ?_ | refine z3 ?_ _)); exact BK484.out) hb)
        have n7_ := Aside0.mk (blk_below (g := gb494) (o := .cells #[.int .i64 t491, .int .i64 t492] 59 (0, 0)) (by (with_reducible repeat (first | refine z1 ?_ _ | refine z2 ?_ | refine z3 ?_ _)); exact BK494.out) hb)
        have n8_ := Aside0.mk (below_step (by repeat (first | (with_reducible first | exact HB.out | apply below_alloc | apply pw_below_drewN | apply below_drew1 | refine below_set ?_ GE460.out | refine below_set ?_ GE478.out | refine below_set ?_ GE484.out | refine below_set ?_ GE494.out) | exact HB.out)) hb)
        clear HO_13 HO_14 HO_485002 BK460 BK478 BK484 BK494 HB
        have HO_13 := n0_
        have HO_14 := n1_
        have HO_485002 := n2_
        have HO500 := n3_
        have BK460 := n4_
        have BK478 := n5_
        have BK484 := n6_
        have BK494 := n7_
        have HB := n8_
        clear n0_ n1_ n2_ n3_ n4_ n5_ n6_ n7_ n8_
        (try clear hb)
        (try clear hb2)
        (try clear hk)
        (try clear hi)
        (try clear ho0)
        obtain ⟨Ao118, co118, eo118⟩ := Kd.S_slice HO500.out
        (first | subst eo118 | (injection eo118 with f1_ f2_ f3_; have f4_ := f1_.symm; have f5_ := f3_.symm; clear f1_ f2_ f3_; subst f4_; subst f5_))
        refine hK.out _ _ ⟨(blk_cell BK484.out 0).trans rfl, (blk_cell BK484.out 1).trans rfl, (blk_cell BK484.out 2).trans rfl, (blk_cell BK460.out 0).trans rfl, (blk_cell BK460.out 1).trans rfl, (blk_cell BK460.out 2).trans rfl⟩ (fun hHeld => ?_)
        clear hK K
        refine norm_ (a' := ?_) ?_ ?_
        rotate_left
        ·show Act.put _ (some 68) _ = _
         simp only [Act.put, y1, y2, y3, i64_w, i32_w]
         rfl
        refine one_ (i := 3) (N := some 69) #[true, true, true, true, false] rfl rfl (by kernel_rfl) (by decide) (fun K hK => ?_)
        refine goes_ Try.func27 (by kernel_rfl) rfl #[.agg #[.int .i64 t479, .int .i64 t480, .slice Ao49 t481.length co49], .agg #[.int .i64 t496, .int .i64 t497, .slice Ao118 t498.length co118]] (by rfl) rfl rfl (by (try simp only [List.map_toArray, List.map_cons, List.map_nil]); first | done | rfl | (simp only [List.length_drop, List.length_take]; rfl)) ?_
        with_reducible refine (laws_eqHull.calls t479 t480 _ _ t481 t496 t497 _ _ t498 false _ ?side1 ?side2 ?side3 ?side4 A81.out).mono ?_
        (case side1 => repeat (first | exact (Kd.S_reads' HO_485002.out).2.2 | (with_reducible refine Kd.C_alloc ?_ _) | (with_reducible refine Kd.C_drewN ?_ _) | (with_reducible refine Kd.C_drew ?_)))
        (case side2 => exact (Kd.S_reads' HO_485002.out).2.1)
        (case side3 => repeat (first | exact (Kd.S_reads' HO500.out).2.2 | (with_reducible refine Kd.C_alloc ?_ _) | (with_reducible refine Kd.C_drewN ?_ _) | (with_reducible refine Kd.C_drew ?_)))
        (case side4 => exact (Kd.S_reads' HO500.out).2.1)
        rintro e w119 ⟨rfl, hb⟩
        refine ⟨_, rfl, ?_⟩
        have n0_ := Aside0.mk (Kd.R_below (by (with_reducible repeat (first | apply Kd.R_alloc | apply Kd.R_drewN | apply Kd.R_drew)); exact HO_13.out) hb)
        have n1_ := Aside0.mk (Kd.R_below (by (with_reducible repeat (first | apply Kd.R_alloc | apply Kd.R_drewN | apply Kd.R_drew)); exact HO_14.out) hb)
        have n2_ := Aside0.mk (Kd.S_below (by (with_reducible repeat (first | apply Kd.S_alloc | apply Kd.S_drewN | apply Kd.S_drew)); exact HO_485002.out) hb)
        have n3_ := Aside0.mk (Kd.S_below (by (with_reducible repeat (first | apply Kd.S_alloc | apply Kd.S_drewN | apply Kd.S_drew)); exact HO500.out) hb)
        have n4_ := Aside0.mk (blk_below (g := gb460) (o := .cells #[.int .i64 a0_0, .int .i64 a0_1, .slice A0_2 l0_2.length c0_2] 36 (0, 0)) (by (with_reducible repeat (first | refine z1 ?_ _ | refine z2 ?_ | refine z3 ?_ _)); exact BK460.out) hb)
        have n5_ := Aside0.mk (blk_below (g := gb478) (o := .cells #[.int .i64 t475, .int .i64 t476] 59 (0, 0)) (by (with_reducible repeat (first | refine z1 ?_ _ | refine z2 ?_ | refine z3 ?_ _)); exact BK478.out) hb)
        have n6_ := Aside0.mk (blk_below (g := gb484) (o := .cells #[.int .i64 t479, .int .i64 t480, .slice Ao49 t481.length co49] 39 (0, 0)) (by (with_reducible repeat (first | refine z1 ?_ _ | refine z2 ?_ | refine z3 ?_ _)); exact BK484.out) hb)
        have n7_ := Aside0.mk (blk_below (g := gb494) (o := .cells #[.int .i64 t491, .int .i64 t492] 59 (0, 0)) (by (with_reducible repeat (first | refine z1 ?_ _ | refine z2 ?_ | refine z3 ?_ _)); exact BK494.out) hb)
        have n8_ := Aside0.mk (below_step (by repeat (first | (with_reducible first | exact HB.out | apply below_alloc | apply pw_below_drewN | apply below_drew1 | refine below_set ?_ GE460.out | refine below_set ?_ GE478.out | refine below_set ?_ GE484.out | refine below_set ?_ GE494.out) | exact HB.out)) hb)
        clear HO_13 HO_14 HO_485002 HO500 BK460 BK478 BK484 BK494 HB
        have HO_13 := n0_
        have HO_14 := n1_
        have HO_485002 := n2_
        have HO500 := n3_
        have BK460 := n4_
        have BK478 := n5_
        have BK484 := n6_
        have BK494 := n7_
        have HB := n8_
        clear n0_ n1_ n2_ n3_ n4_ n5_ n6_ n7_ n8_
        (try clear hb)
        (try clear hb2)
        (try clear hk)
        (try clear hi)
        refine hK.out _ _ ⟨(blk_cell BK484.out 0).trans rfl, (blk_cell BK484.out 1).trans rfl, (blk_cell BK484.out 2).trans rfl, (blk_cell BK460.out 0).trans rfl, (blk_cell BK460.out 1).trans rfl, (blk_cell BK460.out 2).trans rfl⟩ (fun hHeld => ?_)
        clear hK K
        refine norm_ (a' := ?_) ?_ ?_
        rotate_left
        ·show Act.put _ (some 69) _ = _
         simp only [Act.put, y1, y2, y3, i64_w, i32_w]
         rfl
        refine pure_ (i := 4) (N := some 70) (v := ?_) (a' := ?_) #[true, true, true, true, true] rfl rfl (by kernel_rfl) (fun _ _ _ h => h) (Or.inl ⟨by rfl, ?_⟩) ?_ ?_
        rotate_left
        ·intro w'
         go_simp
         with_reducible rfl
        rotate_left
        ·simp only [Act.put, y1, y2, y3, i64_w, i32_w]
         rfl
        refine done_ (by kernel_rfl) ?_
        try go_wp2
        go_ret
        exact ⟨by first | rfl | (simp [errW_none, errW_some] <;> rfl) | (simp [*, errW_none, errW_some] <;> rfl), by repeat (first | (with_reducible first | exact HB.out | apply below_alloc | apply pw_below_drewN | apply below_drew1 | refine below_set ?_ GE460.out | refine below_set ?_ GE478.out | refine below_set ?_ GE484.out | refine below_set ?_ GE494.out) | exact HB.out)⟩

end Go.Proofs.Yteggnboikjjaiaa.PH2
/- The plain part for hulls, second print: water lines, strips, volumes, heights. -/
namespace Go.Proofs.Yteggnboikjjaiaa.Hq
open Go.RowKit Go.Proofs.Yteggnboikjjaiaa.PH2 Go.Proofs.YteggnboikjjaiaaW.PrintWords Go.Proofs.Yteggnboikjjaiaa.Hp Go.Proofs.Yteggnboikjjaiaa.Cf Go.Proofs.Yteggnboikjjaiaa.Pl
set_option linter.unusedVariables false
set_option linter.unusedSimpArgs false

theorem w64 (x : Int) (h0 : -9223372036854775808 ≤ x) (h1 : x < 9223372036854775808) : wrap64 x = x := by
  unfold wrap64
  omega
theorem hull_law (S I : Nat → Int → Int → List (List Int) → Option Int) (a b : Int) (l : List (List Int)) (v : Int) (hS : sizeH l ≤ 1048576 → Ev (fun k => S k a b l) v) (hI : sizeH l ≤ 1048576 → Ev (fun k => I k a b l) v) :
    Ev (fun k => (laws_szHull.f a b l 1048576).bind fun t132 => (if t132 < 0 then (some true) else ((laws_toHull.f a b l).bind fun bt133 => ((S k bt133.1 bt133.2.1 bt133.2.2).bind fun t138 => ((laws_toHull.f a b l).bind fun bt139 => ((I k bt139.1 bt139.2.1 bt139.2.2).bind fun t145 => (if t145 = t138 then ((laws_toHull.f a b l).bind fun bt146 => ((laws_eqHull.f bt139.1 bt139.2.1 bt139.2.2 bt146.1 bt146.2.1 bt146.2.2).bind fun t151 => (if t151 = true then (some true) else (some false)))) else (some false))))))) ) true := by
  by_cases hs : sizeH l ≤ 1048576
  · have e1 : laws_szHull.f a b l 1048576 = some (1048576 - (sizeH l : Int)) := by
      unfold laws_szHull.f szOf
      rw [if_pos (by omega), if_pos (by omega)]
    have e2 : laws_toHull.f a b l = some (a, b, l) := by unfold laws_toHull.f; rw [if_pos hs]
    have e3 : laws_eqHull.f a b l a b l = some true := by unfold laws_eqHull.f; rw [if_pos ⟨rfl, rfl, rfl, hs⟩]
    refine Ev.congr (f := fun k => (S k a b l).bind fun t138 => (I k a b l).bind fun t145 => if t145 = t138 then some true else some false) (fun k => ?_) (Ev.bind (hS hs) (Ev.bind (hI hs) (Ev.const fun _ => by rw [if_pos rfl])))
    rw [e1, e2]
    simp only [Option.bind_some, e3, if_true]
    rw [if_neg (by omega)]
  · refine Ev.const fun k => ?_
    have e1 : laws_szHull.f a b l 1048576 = some (-1) := by
      unfold laws_szHull.f szOf
      rw [if_pos (by omega), if_neg (by omega)]
    rw [e1]
    simp

theorem rdL_getD (l : List (List Int)) (i : Nat) : rd_L1 l (i : Int) = l.getD i [] := by simp [rd_L1]
theorem rd_cell (l : List (List Int)) (i m : Nat) : rd (rd_L1 l (i : Int)) (m : Int) = cellAt l m i := by rw [rdL_getD]; simp [rd, cellAt]
theorem swater (s r : Int) (l : List (List Int)) (m : Int) : spec_l1Water.f s r l m = some (okWater s r l m) := by
  unfold spec_l1Water.f spec_HullOk.f okWater
  cases ho : okHull s r l
  · simp
  · have hL := okHull_len ho
    have e : rd_L1 l 0 = l.headD [] := by cases l <;> simp [rd_L1]
    simp only [Option.bind_some, if_true, Bool.true_and]
    rw [if_pos (by omega), e]
    unfold spec_l1In.f
    rw [w64 _ (by omega) (by omega)]
    rfl
theorem okWater_facts {s r : Int} {l : List (List Int)} {m : Int} (h : okWater s r l m = true) : ∃ M : Nat, m = (M : Int) ∧ M < (l.headD []).length ∧ okHull s r l = true := by
  unfold okWater at h
  simp only [Bool.and_eq_true, decide_eq_true_eq] at h
  exact ⟨m.toNat, by omega, by omega, h.1⟩
theorem cell_bd {s r : Int} {l : List (List Int)} (h : okHull s r l = true) (m k : Nat) (hk : k < l.length) (hm : m < (l.headD []).length) : 0 ≤ cellAt l m k ∧ cellAt l m k ≤ 50 := by
  have hL := (okHull_len h).2.2.1 k hk
  unfold okHull at h
  simp only [Bool.and_eq_true, decide_eq_true_eq] at h
  have := List.all_eq_true.1 h.2.2.2 _ (List.getElem_mem hk)
  unfold okRow at this
  simp only [Bool.and_eq_true, decide_eq_true_eq] at this
  have hm' : m < l[k].length := by rw [List.getD_eq_getElem?_getD, List.getElem?_eq_getElem hk] at hL; simp only [Option.getD_some] at hL; omega
  have h2 := List.all_eq_true.1 this.2 _ (List.getElem_mem hm')
  simp only [Bool.and_eq_true, decide_eq_true_eq] at h2
  have e : cellAt l m k = l[k][m] := by unfold cellAt; simp [hk, hm']
  rw [e]
  exact h2
end Go.Proofs.Yteggnboikjjaiaa.Hq
/- The plain part for Strips2: both loops lay the same list. -/
namespace Go.Proofs.Yteggnboikjjaiaa.Hq
open Go.RowKit Go.Proofs.Yteggnboikjjaiaa.PH2 Go.Proofs.YteggnboikjjaiaaW.PrintWords Go.Proofs.Yteggnboikjjaiaa.Hp Go.Proofs.Yteggnboikjjaiaa.Cf Go.Proofs.Yteggnboikjjaiaa.Pl
set_option linter.unusedVariables false
set_option linter.unusedSimpArgs false
def quad (l : List (List Int)) (i k : Nat) : Int := cellAt l k i + cellAt l k (i + 1) + cellAt l (k + 1) i + cellAt l (k + 1) (i + 1)
def sumQ (l : List (List Int)) (i : Nat) : Nat → Int
  | 0 => 0
  | k + 1 => sumQ l i k + quad l i k
def stripsL (s r : Int) (l : List (List Int)) (w : Nat) : List Int := (List.range (l.length - 1)).map fun i => r * s * sumQ l i w
theorem mul_bd {a b A B : Int} (ha : 0 ≤ a ∧ a ≤ A) (hb : 0 ≤ b ∧ b ≤ B) : 0 ≤ a * b ∧ a * b ≤ A * B :=
  ⟨Int.mul_nonneg ha.1 hb.1, Int.mul_le_mul ha.2 hb.2 hb.1 (by omega)⟩
theorem quad_bd {s r : Int} {l : List (List Int)} (h : okHull s r l = true) (i k : Nat) (hi : i + 1 < l.length) (hk : k + 1 < (l.headD []).length) : 0 ≤ quad l i k ∧ quad l i k ≤ 200 := by
  have h1 := cell_bd h k i (by omega) (by omega)
  have h2 := cell_bd h k (i + 1) (by omega) (by omega)
  have h3 := cell_bd h (k + 1) i (by omega) (by omega)
  have h4 := cell_bd h (k + 1) (i + 1) (by omega) (by omega)
  unfold quad
  omega
theorem sumQ_bd {s r : Int} {l : List (List Int)} (h : okHull s r l = true) (i : Nat) (hi : i + 1 < l.length) : ∀ k : Nat, k < (l.headD []).length → 0 ≤ sumQ l i k ∧ sumQ l i k ≤ 200 * k := by
  intro k
  induction k with
  | zero => intro _; simp [sumQ]
  | succ k ih =>
    intro hk
    have h1 := ih (by omega)
    have h2 := quad_bd h i k hi hk
    simp only [sumQ]
    omega
theorem rs_bd {s r : Int} {l : List (List Int)} (h : okHull s r l = true) : 0 ≤ r * s ∧ r * s ≤ 2000 := by
  have hL := okHull_len h
  have := mul_bd (a := r) (b := s) (A := 20) (B := 100) (by omega) (by omega)
  omega

/-! ### The reference -/
theorem spec_inner {s r : Int} {l : List (List Int)} (ho : okHull s r l = true) (M i : Nat) (hM : M < (l.headD []).length) (hi : i + 1 < l.length) (X R : List Int) (hX : X.length = i)
    (hR : Ev (fun k => spec_Strips2.l0 k M (X ++ [r * s * sumQ l i M]) ((i + 1 : Nat) : Int) s r l) R) (e : Nat) : ∀ j : Nat, j + e = M → Ev (fun k => spec_Strips2.l1 k M X i (sumQ l i j) j s r l) R := by
  have hL := okHull_len ho
  have hrow : ∀ k : Nat, k < l.length → ((rd_L1 l (k : Int)).length : Int) = ((l.headD []).length : Int) := fun k hk => by rw [rdL_getD, hL.2.2.1 k hk]
  have hp := rs_bd ho
  induction e with
  | zero =>
    intro j hj
    have hq := sumQ_bd ho i hi M hM
    have hm := mul_bd hp (b := sumQ l i M) (B := 2000) (by omega)
    refine Ev.step (fun k => ?_) hR
    obtain rfl : j = M := by omega
    simp only [spec_Strips2.l1]
    rw [if_neg (by omega), if_pos (by omega), wk (n := l.length) (by omega) (by omega), w64 (r * s) (by omega) (by omega), w64 _ (by omega) (by omega)]
  | succ e ih =>
    intro j hj
    have hq := sumQ_bd ho i hi j (by omega)
    have h1 := cell_bd ho j i (by omega) (by omega)
    have h2 := cell_bd ho j (i + 1) (by omega) (by omega)
    have h3 := cell_bd ho (j + 1) i (by omega) (by omega)
    have h4 := cell_bd ho (j + 1) (i + 1) (by omega) (by omega)
    refine Ev.step (f := fun k => spec_Strips2.l1 k M X i (sumQ l i (j + 1)) ((j + 1 : Nat) : Int) s r l) (fun k => ?_) (ih (j + 1) (by omega))
    simp only [spec_Strips2.l1]
    rw [if_pos (by omega), if_pos (by omega), if_pos (by omega), if_pos (by omega), hrow i (by omega), if_pos (by omega), wk (n := l.length) (by omega) (by omega), if_pos (by omega), if_pos (by omega), hrow (i + 1) (by omega), if_pos (by omega),
      wk (i := j) (n := 12) (by omega) (by omega), if_pos (by omega), if_pos (by omega), if_pos (by omega)]
    rw [rd_cell, rd_cell, rd_cell, rd_cell]
    rw [w64 (sumQ l i j + cellAt l j i) (by omega) (by omega), w64 (sumQ l i j + cellAt l j i + cellAt l j (i + 1)) (by omega) (by omega), w64 (sumQ l i j + cellAt l j i + cellAt l j (i + 1) + cellAt l (j + 1) i) (by omega) (by omega), w64 _ (by omega) (by omega)]
    have e1 : sumQ l i (j + 1) = sumQ l i j + cellAt l j i + cellAt l j (i + 1) + cellAt l (j + 1) i + cellAt l (j + 1) (i + 1) := by simp only [sumQ, quad]; omega
    rw [e1]
theorem spec_outer {s r : Int} {l : List (List Int)} (ho : okHull s r l = true) (M : Nat) (hM : M < (l.headD []).length) (d : Nat) : ∀ i : Nat, i + 1 + d = l.length →
    Ev (fun k => spec_Strips2.l0 k M ((List.range i).map fun i => r * s * sumQ l i M) i s r l) (stripsL s r l M) := by
  have hL := okHull_len ho
  induction d with
  | zero =>
    intro i hd
    refine Ev.ret fun k => ?_
    simp only [spec_Strips2.l0]
    rw [wk (n := l.length) (by omega) (by omega), if_neg (by omega)]
    have : i = l.length - 1 := by omega
    rw [this]
    rfl
  | succ d ih =>
    intro i hd
    refine Ev.step (f := fun k => spec_Strips2.l1 k M ((List.range i).map fun i => r * s * sumQ l i M) i (sumQ l i 0) ((0 : Nat) : Int) s r l) (fun k => ?_) (spec_inner ho M i hM (by omega) _ _ (by simp) ?_ M 0 (by omega))
    · simp only [spec_Strips2.l0]
      rw [wk (n := l.length) (by omega) (by omega), if_pos (by omega)]
      rfl
    · have := ih (i + 1) (by omega)
      rw [List.range_succ, List.map_append] at this
      exact this
def strips2F (s r : Int) (l : List (List Int)) (m : Int) : List Int := if okWater s r l m = true then stripsL s r l m.toNat else []
theorem strips2_spec (s r m : Int) (l : List (List Int)) : Ev (fun k => spec_Strips2.f k s r l m) (strips2F s r l m) := by
  unfold spec_Strips2.f strips2F
  rw [swater]
  simp only [Option.bind_some]
  cases hw : okWater s r l m
  · exact Ev.const fun _ => by simp
  · obtain ⟨M, rfl, hM, ho⟩ := okWater_facts hw
    have hL := okHull_len ho
    simp only [if_true, Int.toNat_natCast]
    exact spec_outer ho M hM (l.length - 1) 0 (by omega)

/-! ### The program -/
def stI (s r : Int) (l : List (List Int)) (M i j : Nat) : List Int := ((List.range i).map fun i => r * s * sumQ l i M) ++ (r * s * sumQ l i j) :: List.replicate (l.length - 2 - i) 0
theorem rd_mid (A : List Int) (x : Int) (B : List Int) (i : Nat) (h : A.length = i) : rd (A ++ x :: B) (i : Int) = x := by subst h; simp [rd]
theorem set_mid (A : List Int) (x y : Int) (B : List Int) (i : Nat) (h : A.length = i) : (A ++ x :: B).set i y = A ++ y :: B := by subst h; simp
theorem impl_inner {s r : Int} {l : List (List Int)} (ho : okHull s r l = true) (M i : Nat) (N : Int) (hM : M < (l.headD []).length) (hi : i + 1 < l.length) (R : List Int)
    (hR : Ev (fun k => impl_Strips2.l0 k M (stI s r l M i M) N ((i + 1 : Nat) : Int) s r l) R) (e : Nat) : ∀ j : Nat, j + e = M → Ev (fun k => impl_Strips2.l1 k M (stI s r l M i j) i N i M j s r l) R := by
  have hL := okHull_len ho
  have hrow : ∀ k : Nat, k < l.length → ((rd_L1 l (k : Int)).length : Int) = ((l.headD []).length : Int) := fun k hk => by rw [rdL_getD, hL.2.2.1 k hk]
  have hp := rs_bd ho
  have hlen : ∀ j, (stI s r l M i j).length = l.length - 1 := fun j => by unfold stI; simp; omega
  induction e with
  | zero =>
    intro j hj
    refine Ev.step (fun k => ?_) hR
    obtain rfl : j = M := by omega
    simp only [impl_Strips2.l1]
    rw [if_neg (by omega), wk (n := l.length) (by omega) (by omega)]
  | succ e ih =>
    intro j hj
    have hq := sumQ_bd ho i hi j (by omega)
    have h1 := cell_bd ho j i (by omega) (by omega)
    have h2 := cell_bd ho j (i + 1) (by omega) (by omega)
    have h3 := cell_bd ho (j + 1) i (by omega) (by omega)
    have h4 := cell_bd ho (j + 1) (i + 1) (by omega) (by omega)
    have hq2 := quad_bd ho i j hi (by omega)
    have hm1 := mul_bd hp (b := sumQ l i j) (B := 2000) (by omega)
    have hm2 := mul_bd hp (b := quad l i j) (B := 200) (by omega)
    refine Ev.step (f := fun k => impl_Strips2.l1 k M (stI s r l M i (j + 1)) i N i M ((j + 1 : Nat) : Int) s r l) (fun k => ?_) (ih (j + 1) (by omega))
    simp only [impl_Strips2.l1]
    rw [if_pos (by omega), if_pos (by omega), if_pos (by have := hlen j; omega), if_pos (by omega), if_pos (by omega), hrow i (by omega), if_pos (by omega), wk (n := l.length) (by omega) (by omega), if_pos (by omega), if_pos (by omega), hrow (i + 1) (by omega), if_pos (by omega),
      wk (i := j) (n := 12) (by omega) (by omega), if_pos (by omega), if_pos (by omega), if_pos (by omega)]
    rw [rd_cell, rd_cell, rd_cell, rd_cell]
    rw [w64 (cellAt l j i + cellAt l j (i + 1)) (by omega) (by omega), w64 (cellAt l j i + cellAt l j (i + 1) + cellAt l (j + 1) i) (by omega) (by omega), w64 (cellAt l j i + cellAt l j (i + 1) + cellAt l (j + 1) i + cellAt l (j + 1) (i + 1)) (by omega) (by omega)]
    have e1 : cellAt l j i + cellAt l j (i + 1) + cellAt l (j + 1) i + cellAt l (j + 1) (i + 1) = quad l i j := rfl
    rw [e1, w64 (r * s) (by omega) (by omega), w64 (r * s * quad l i j) (by omega) (by omega), Int.toNat_natCast]
    have e2 : rd (stI s r l M i j) (i : Int) = r * s * sumQ l i j := rd_mid _ _ _ _ (by simp)
    rw [e2, w64 _ (by omega) (by omega)]
    have e3 : (stI s r l M i j).set i (r * s * sumQ l i j + r * s * quad l i j) = stI s r l M i (j + 1) := by
      unfold stI
      rw [set_mid _ _ _ _ _ (by simp)]
      simp only [sumQ, Int.mul_add]
    rw [e3]
theorem impl_outer {s r : Int} {l : List (List Int)} (ho : okHull s r l = true) (M : Nat) (hM : M < (l.headD []).length) (d : Nat) : ∀ i : Nat, i + 1 + d = l.length →
    Ev (fun k => impl_Strips2.l0 k M (((List.range i).map fun i => r * s * sumQ l i M) ++ List.replicate (l.length - 1 - i) 0) ((l.length - 1 : Nat) : Int) i s r l) (stripsL s r l M) := by
  have hL := okHull_len ho
  induction d with
  | zero =>
    intro i hd
    refine Ev.ret fun k => ?_
    simp only [impl_Strips2.l0]
    rw [if_neg (by omega)]
    have : i = l.length - 1 := by omega
    rw [this, Nat.sub_self]
    simp [stripsL]
  | succ d ih =>
    intro i hd
    have e1 : ((List.range i).map fun i => r * s * sumQ l i M) ++ List.replicate (l.length - 1 - i) 0 = stI s r l M i 0 := by
      unfold stI
      have : l.length - 1 - i = (l.length - 2 - i) + 1 := by omega
      rw [this, List.replicate_succ]
      simp [sumQ]
    have e2 : stI s r l M i M = ((List.range (i + 1)).map fun i => r * s * sumQ l i M) ++ List.replicate (l.length - 1 - (i + 1)) 0 := by
      unfold stI
      have : l.length - 1 - (i + 1) = l.length - 2 - i := by omega
      rw [this, List.range_succ, List.map_append]
      simp
    rw [e1]
    refine Ev.step (f := fun k => impl_Strips2.l1 k M (stI s r l M i 0) i ((l.length - 1 : Nat) : Int) i M ((0 : Nat) : Int) s r l) (fun k => ?_) (impl_inner ho M i _ hM (by omega) _ ?_ M 0 (by omega))
    · simp only [impl_Strips2.l0]
      rw [if_pos (by omega)]
      rfl
    · rw [e2]
      exact ih (i + 1) (by omega)
theorem strips2_impl (s r m : Int) (l : List (List Int)) : Ev (fun k => impl_Strips2.f k s r l m) (strips2F s r l m) := by
  unfold impl_Strips2.f strips2F impl_waterOk.f
  simp only [Option.bind_some]
  cases hw : okWater s r l m
  · exact Ev.const fun _ => by simp
  · obtain ⟨M, rfl, hM, ho⟩ := okWater_facts hw
    have hL := okHull_len ho
    simp only [if_true, Int.toNat_natCast]
    have e1 : wrap64 ((l.length : Int) - 1) = ((l.length - 1 : Nat) : Int) := by rw [w64 _ (by omega) (by omega)]; omega
    refine Ev.congr (fun k => ?_) (impl_outer ho M hM (l.length - 1) 0 (by omega))
    rw [e1, Int.toNat_natCast, if_pos (by omega), if_pos (by omega)]
    simp
end Go.Proofs.Yteggnboikjjaiaa.Hq
/- The plain part for Volume2, Along4 and Afloat. -/
namespace Go.Proofs.Yteggnboikjjaiaa.Hq
open Go.RowKit Go.Proofs.Yteggnboikjjaiaa.PH2 Go.Proofs.YteggnboikjjaiaaW.PrintWords Go.Proofs.Yteggnboikjjaiaa.Hp Go.Proofs.Yteggnboikjjaiaa.Cf Go.Proofs.Yteggnboikjjaiaa.Pl
set_option linter.unusedVariables false
set_option linter.unusedSimpArgs false
def sumL (acc : Int) : List Int → Int
  | [] => acc
  | x :: t => sumL (wrap64 (acc + x)) t
theorem sum_spec_loop (l : List Int) (hn : l.length ≤ 9223372036854775807) (d : Nat) : ∀ (i : Nat) (acc : Int), i + d = l.length → Ev (fun k => spec_l1Sum.l0 k l acc i) (sumL acc (l.drop i)) := by
  induction d with
  | zero =>
    intro i acc hd
    refine Ev.ret fun k => ?_
    simp only [spec_l1Sum.l0]
    rw [if_neg (by omega), List.drop_of_length_le (by omega)]
    rfl
  | succ d ih =>
    intro i acc hd
    have hi : i < l.length := by omega
    rw [drop_at l i hi]
    refine Ev.step (f := fun k => spec_l1Sum.l0 k l (wrap64 (acc + l[i])) ((i + 1 : Nat) : Int)) (fun k => ?_) (ih (i + 1) _ (by omega))
    simp only [spec_l1Sum.l0]
    rw [if_pos (by omega), if_pos (by omega), rd_at l i hi, wk (n := l.length) (by omega) hn]
theorem sum_impl_loop (l : List Int) (hn : l.length ≤ 9223372036854775807) (d : Nat) : ∀ (i : Nat) (acc : Int), i + d = l.length → Ev (fun k => impl_sumOf.l0 k acc l l.length i) (sumL acc (l.drop i)) := by
  induction d with
  | zero =>
    intro i acc hd
    refine Ev.ret fun k => ?_
    simp only [impl_sumOf.l0]
    rw [if_neg (by omega), List.drop_of_length_le (by omega)]
    rfl
  | succ d ih =>
    intro i acc hd
    have hi : i < l.length := by omega
    rw [drop_at l i hi]
    refine Ev.step (f := fun k => impl_sumOf.l0 k (wrap64 (acc + l[i])) l l.length ((i + 1 : Nat) : Int)) (fun k => ?_) (ih (i + 1) _ (by omega))
    simp only [impl_sumOf.l0]
    rw [if_pos (by omega), if_pos (by omega), if_pos (by omega), rd_at l i hi, wk (n := l.length) (by omega) hn]
theorem strips2_len (s r m : Int) (l : List (List Int)) : (strips2F s r l m).length ≤ 12 := by
  unfold strips2F
  cases hw : okWater s r l m
  · simp
  · obtain ⟨M, rfl, hM, ho⟩ := okWater_facts hw
    have hL := okHull_len ho
    simp [stripsL]
    omega
def volF (s r : Int) (l : List (List Int)) (m : Int) : Int := sumL 0 (strips2F s r l m)
theorem vol_spec (s r m : Int) (l : List (List Int)) : Ev (fun k => spec_Volume2.f k s r l m) (volF s r l m) := by
  unfold spec_Volume2.f volF spec_l1Sum.f
  have h := strips2_len s r m l
  have h2 := sum_spec_loop (strips2F s r l m) (by omega) (strips2F s r l m).length 0 0 (by omega)
  rw [List.drop_zero] at h2
  exact Ev.bind (strips2_spec s r m l) (Ev.bind h2 (Ev.const fun _ => rfl))
theorem vol_impl (s r m : Int) (l : List (List Int)) : Ev (fun k => impl_Volume2.f k s r l m) (volF s r l m) := by
  unfold impl_Volume2.f volF impl_sumOf.f
  have h := strips2_len s r m l
  have h2 := sum_impl_loop (strips2F s r l m) (by omega) (strips2F s r l m).length 0 0 (by omega)
  rw [List.drop_zero] at h2
  exact Ev.bind (strips2_impl s r m l) (Ev.bind h2 (Ev.const fun _ => rfl))
end Go.Proofs.Yteggnboikjjaiaa.Hq
/- The plain part for Plane and Inertia3. -/
namespace Go.Proofs.Yteggnboikjjaiaa.Hq
open Go.RowKit Go.Proofs.Yteggnboikjjaiaa.PH2 Go.Proofs.YteggnboikjjaiaaW.PrintWords Go.Proofs.Yteggnboikjjaiaa.Hp Go.Proofs.Yteggnboikjjaiaa.Cf Go.Proofs.Yteggnboikjjaiaa.Pl
set_option linter.unusedVariables false
set_option linter.unusedSimpArgs false
theorem plane_loop {s r : Int} {l : List (List Int)} (ho : okHull s r l = true) (M : Nat) (hM : M < (l.headD []).length) (d : Nat) : ∀ i : Nat, i + 1 + d = l.length → Ev (fun k => spec_Plane.l0 k M (stripAcc addG s l M i) i s r l) (stripAcc addG s l M (l.length - 1)) := by
  have hL := okHull_len ho
  have hrow : ∀ k : Nat, k < l.length → ((rd_L1 l (k : Int)).length : Int) = ((l.headD []).length : Int) := fun k hk => by rw [rdL_getD, hL.2.2.1 k hk]
  induction d with
  | zero =>
    intro i hd
    refine Ev.ret fun k => ?_
    simp only [spec_Plane.l0]
    rw [wk (n := l.length) (by omega) (by omega), if_neg (by omega)]
    have : i = l.length - 1 := by omega
    rw [this]
  | succ d ih =>
    intro i hd
    refine Ev.step (f := fun k => spec_Plane.l0 k M (stripAcc addG s l M (i + 1)) ((i + 1 : Nat) : Int) s r l) (fun k => ?_) (ih (i + 1) (by omega))
    simp only [spec_Plane.l0]
    rw [wk (n := l.length) (by omega) (by omega), if_pos (by omega), if_pos (by omega), if_pos (by omega), if_pos (by omega), hrow i (by omega), if_pos (by omega), if_pos (by omega), hrow (i + 1) (by omega), if_pos (by omega), rd_cell, rd_cell]
    rfl
theorem plane_spec (s r m : Int) (l : List (List Int)) : Ev (fun k => spec_Plane.f k s r l m) (planeF s r l m) := by
  unfold spec_Plane.f planeF
  rw [swater]
  simp only [Option.bind_some]
  cases hw : okWater s r l m
  · exact Ev.const fun _ => by simp
  · obtain ⟨M, rfl, hM, ho⟩ := okWater_facts hw
    have hL := okHull_len ho
    simp only [if_true, Int.toNat_natCast]
    exact plane_loop ho M hM (l.length - 1) 0 (by omega)
end Go.Proofs.Yteggnboikjjaiaa.Hq
/- The plain part for Height4. -/
namespace Go.Proofs.Yteggnboikjjaiaa.Hq
open Go.RowKit Go.Proofs.Yteggnboikjjaiaa.PH2 Go.Proofs.YteggnboikjjaiaaW.PrintWords Go.Proofs.Yteggnboikjjaiaa.Hp Go.Proofs.Yteggnboikjjaiaa.Cf Go.Proofs.Yteggnboikjjaiaa.Pl
set_option linter.unusedVariables false
set_option linter.unusedSimpArgs false
def heF (s r : Int) (l : List (List Int)) : Nat → Int
  | 0 => 0
  | i + 1 => wrap64 (heF s r l i + wrap64 (wrap64 (wrap64 (r * wrap64 (planeF s r l i + planeF s r l ((i + 1 : Nat) : Int))) * r) * wrap64 (wrap64 (2 * (i : Int)) + 1)))
theorem he_spec_loop (s r : Int) (l : List (List Int)) (M : Nat) (hM : M < 9223372036854775807) (d : Nat) : ∀ i : Nat, i + d = M → Ev (fun k => spec_Height4.l0 k M (heF s r l i) i s r l) (heF s r l M) := by
  induction d with
  | zero =>
    intro i hd
    refine Ev.ret fun k => ?_
    simp only [spec_Height4.l0]
    rw [if_neg (by omega)]
    have : i = M := by omega
    rw [this]
  | succ d ih =>
    intro i hd
    refine Ev.step (f := fun k => (spec_Plane.f k s r l i).bind fun t => (spec_Plane.f k s r l ((i + 1 : Nat) : Int)).bind fun u => spec_Height4.l0 k M (wrap64 (heF s r l i + wrap64 (wrap64 (wrap64 (r * wrap64 (t + u)) * r) * wrap64 (wrap64 (2 * (i : Int)) + 1)))) ((i + 1 : Nat) : Int) s r l) (fun k => ?_)
      (Ev.bind (plane_spec s r i l) (Ev.bind (plane_spec s r _ l) (ih (i + 1) (by omega))))
    simp only [spec_Height4.l0]
    rw [if_pos (by omega), wk (n := M) (by omega) (by omega)]
theorem he_impl_loop (s r : Int) (l : List (List Int)) (M : Nat) (hM : M < 9223372036854775807) (d : Nat) : ∀ i : Nat, i + d = M → Ev (fun k => impl_Height4.l0 k (heF s r l i) M i s r l) (heF s r l M) := by
  induction d with
  | zero =>
    intro i hd
    refine Ev.ret fun k => ?_
    simp only [impl_Height4.l0]
    rw [if_neg (by omega)]
    have : i = M := by omega
    rw [this]
  | succ d ih =>
    intro i hd
    refine Ev.step (f := fun k => impl_Height4.l0 k (heF s r l (i + 1)) M ((i + 1 : Nat) : Int) s r l) (fun k => ?_) (ih (i + 1) (by omega))
    simp only [impl_Height4.l0]
    unfold impl_Plane.f
    rw [if_pos (by omega), wk (n := M) (by omega) (by omega)]
    rfl
def heightF (s r : Int) (l : List (List Int)) (m : Int) : Int := if okWater s r l m = true then heF s r l m.toNat else 0
theorem height_spec (s r m : Int) (l : List (List Int)) : Ev (fun k => spec_Height4.f k s r l m) (heightF s r l m) := by
  unfold spec_Height4.f heightF
  rw [swater]
  simp only [Option.bind_some]
  cases hw : okWater s r l m
  · exact Ev.const fun _ => by simp
  · obtain ⟨M, rfl, hM, ho⟩ := okWater_facts hw
    have hL := okHull_len ho
    simp only [if_true, Int.toNat_natCast]
    exact he_spec_loop s r l M (by omega) M 0 (by omega)
theorem height_impl (s r m : Int) (l : List (List Int)) : Ev (fun k => impl_Height4.f k s r l m) (heightF s r l m) := by
  unfold impl_Height4.f heightF impl_waterOk.f
  simp only [Option.bind_some]
  cases hw : okWater s r l m
  · exact Ev.const fun _ => by simp
  · obtain ⟨M, rfl, hM, ho⟩ := okWater_facts hw
    have hL := okHull_len ho
    simp only [if_true, Int.toNat_natCast]
    exact he_impl_loop s r l M (by omega) M 0 (by omega)
end Go.Proofs.Yteggnboikjjaiaa.Hq
/- The plain part for Plane and Inertia3. -/
namespace Go.Proofs.Yteggnboikjjaiaa.Hq
open Go.RowKit Go.Proofs.Yteggnboikjjaiaa.PH2 Go.Proofs.YteggnboikjjaiaaW.PrintWords Go.Proofs.Yteggnboikjjaiaa.Hp Go.Proofs.Yteggnboikjjaiaa.Cf Go.Proofs.Yteggnboikjjaiaa.Pl
set_option linter.unusedVariables false
set_option linter.unusedSimpArgs false
theorem inertia_loop {s r : Int} {l : List (List Int)} (ho : okHull s r l = true) (M : Nat) (hM : M < (l.headD []).length) (d : Nat) : ∀ i : Nat, i + 1 + d = l.length → Ev (fun k => spec_Inertia3.l0 k M (stripAcc cubG s l M i) i s r l) (stripAcc cubG s l M (l.length - 1)) := by
  have hL := okHull_len ho
  have hrow : ∀ k : Nat, k < l.length → ((rd_L1 l (k : Int)).length : Int) = ((l.headD []).length : Int) := fun k hk => by rw [rdL_getD, hL.2.2.1 k hk]
  induction d with
  | zero =>
    intro i hd
    refine Ev.ret fun k => ?_
    simp only [spec_Inertia3.l0]
    rw [wk (n := l.length) (by omega) (by omega), if_neg (by omega)]
    have : i = l.length - 1 := by omega
    rw [this]
  | succ d ih =>
    intro i hd
    refine Ev.step (f := fun k => spec_Inertia3.l0 k M (stripAcc cubG s l M (i + 1)) ((i + 1 : Nat) : Int) s r l) (fun k => ?_) (ih (i + 1) (by omega))
    simp only [spec_Inertia3.l0]
    rw [wk (n := l.length) (by omega) (by omega), if_pos (by omega), if_pos (by omega), if_pos (by omega), if_pos (by omega), hrow i (by omega), if_pos (by omega), if_pos (by omega), hrow (i + 1) (by omega), if_pos (by omega), rd_cell, rd_cell]
    rfl
theorem inertia_spec (s r m : Int) (l : List (List Int)) : Ev (fun k => spec_Inertia3.f k s r l m) (inertiaF s r l m) := by
  unfold spec_Inertia3.f inertiaF
  rw [swater]
  simp only [Option.bind_some]
  cases hw : okWater s r l m
  · exact Ev.const fun _ => by simp
  · obtain ⟨M, rfl, hM, ho⟩ := okWater_facts hw
    have hL := okHull_len ho
    simp only [if_true, Int.toNat_natCast]
    exact inertia_loop ho M hM (l.length - 1) 0 (by omega)
end Go.Proofs.Yteggnboikjjaiaa.Hq
/- The plain part for masses: copies, equality, the checks. -/
namespace Go.Proofs.Yteggnboikjjaiaa.Hq
open Go.RowKit Go.Proofs.Yteggnboikjjaiaa.PH2 Go.Proofs.YteggnboikjjaiaaW.PrintWords Go.Proofs.Yteggnboikjjaiaa.Hp Go.Proofs.Yteggnboikjjaiaa.Cf
set_option linter.unusedVariables false
set_option linter.unusedSimpArgs false

def cvMass (x : S71) : S68 := ⟨x.f0, x.f1, x.f2⟩
theorem rdlMass (l : List S71) (i : Nat) (h : i < l.length) : rd_T71 l (i : Int) = l[i] := by simp [rd_T71, h]
theorem rdsMass (l : List S68) (i : Nat) (h : i < l.length) : rd_T68 l (i : Int) = l[i] := by simp [rd_T68, h]
theorem toMass_loop (l : List S71) (hn : l.length ≤ 9223372036854775807) (d : Nat) : ∀ (i : Nat) (xs : List S68), xs.length = l.length → i + d = l.length → xs.take i = (l.map cvMass).take i → Ev (fun k => laws_toMassS.l0 k l xs i) (l.map cvMass) := by
  induction d with
  | zero =>
    intro i xs hl hd ht
    refine Ev.ret fun k => ?_
    simp only [laws_toMassS.l0]
    rw [if_neg (by omega)]
    rw [List.take_of_length_le (by omega), List.take_of_length_le (by simp; omega)] at ht
    exact congrArg some ht
  | succ d ih =>
    intro i xs hl hd ht
    have hi : i < l.length := by omega
    refine Ev.step (f := fun k => laws_toMassS.l0 k l (xs.set i (cvMass l[i])) ((i + 1 : Nat) : Int)) (fun k => ?_) (ih (i + 1) (xs.set i (cvMass l[i])) (by simpa using hl) (by omega) ?_)
    · simp only [laws_toMassS.l0]
      rw [if_pos (by omega), if_pos (by omega)]
      simp only [laws_toMass.f, Option.bind_some]
      rw [if_pos (by omega), wk (n := l.length) (by omega) hn, Int.toNat_natCast, rdlMass l i hi]
      rfl
    · rw [List.take_succ_eq_append_getElem (by simp; omega), List.take_succ_eq_append_getElem (by simp; omega)]
      congr 1
      · rw [List.take_set_of_le (Nat.le_refl i)]; exact ht
      · simp
theorem toMassS (l : List S71) (hn : l.length ≤ 1048576) : Ev (fun k => laws_toMassS.f k l) (l.map cvMass) := by
  refine Ev.congr (f := fun k => laws_toMassS.l0 k l (List.replicate l.length z68) ((0 : Nat) : Int)) (fun k => ?_) (toMass_loop l (by omega) l.length 0 _ (by simp) (by omega) (by simp))
  unfold laws_toMassS.f
  rw [if_pos (by omega), if_pos (by simp; omega), Int.toNat_natCast]
  rfl
theorem eqMass_loop (l : List S68) (hn : l.length ≤ 9223372036854775807) (d : Nat) : ∀ (i : Nat), i + d = l.length → Ev (fun k => laws_eqMassS.l0 k l l i) true := by
  induction d with
  | zero =>
    intro i hd
    refine Ev.ret fun k => ?_
    simp only [laws_eqMassS.l0]
    rw [if_neg (by omega)]
  | succ d ih =>
    intro i hd
    refine Ev.step (f := fun k => laws_eqMassS.l0 k l l ((i + 1 : Nat) : Int)) (fun k => ?_) (ih (i + 1) (by omega))
    simp only [laws_eqMassS.l0]
    rw [if_pos (by omega), if_pos (by omega), if_pos (by omega)]
    simp only [laws_eqMass.f, if_true, Option.bind_some]
    rw [wk (n := l.length) (by omega) hn]
theorem eqMassS (l : List S68) (hn : l.length ≤ 9223372036854775807) : Ev (fun k => laws_eqMassS.f k l l) true := by
  refine Ev.congr (f := fun k => laws_eqMassS.l0 k l l ((0 : Nat) : Int)) (fun k => ?_) (eqMass_loop l hn l.length 0 (by omega))
  unfold laws_eqMassS.f
  rw [if_pos rfl]
  rfl
theorem szMassS (l : List S71) (m : Int) (h0 : 0 ≤ m) (h1 : m ≤ 1048576) (hn : l.length ≤ 9223372036854775807) : laws_szMassS.f l m = some (szOf l.length m) := by
  unfold laws_szMassS.f szOf
  have e : wrap64 (m - (l.length : Int)) = m - l.length := by unfold wrap64; omega
  rw [e]
  by_cases h : (l.length : Int) ≤ m
  · rw [if_pos h, if_neg (by omega)]
  · rw [if_neg h, if_pos (by omega)]

theorem spec_MassesOk_loop (l : List S68) (hn : l.length ≤ 9223372036854775807) (d : Nat) : ∀ i : Nat, i + d = l.length → Ev (fun k => spec_MassesOk.l0 k l i) ((l.drop i).all (fun x => ok_MassesOk x.f0 x.f1 x.f2) && decide ((l.length : Int) ≤ 40)) := by
  induction d with
  | zero =>
    intro i hd
    refine Ev.ret fun k => ?_
    simp only [spec_MassesOk.l0]
    rw [if_neg (by omega), List.drop_of_length_le (by omega)]
    simp
  | succ d ih =>
    intro i hd
    have hi : i < l.length := by omega
    rw [drop_at l i hi, List.all_cons, Bool.and_assoc]
    by_cases t0 : 0 ≤ l[i].f0 ∧ l[i].f0 ≤ 10000
    ·
      by_cases t1 : (-1200) ≤ l[i].f1 ∧ l[i].f1 ≤ 2400
      ·
        by_cases t2 : 0 ≤ l[i].f2 ∧ l[i].f2 ≤ 1000
        ·
          refine Ev.step (f := fun k => spec_MassesOk.l0 k l ((i + 1 : Nat) : Int)) (fun k => ?_) ?_
          · simp only [spec_MassesOk.l0]
            rw [if_pos (by omega), if_pos (by omega), rdsMass l i hi]
            unfold spec_l1In.f
            simp only [t0, t1, t2, and_self, decide_true, Option.bind_some, if_true]
            rw [wk (n := l.length) (by omega) hn]
          · have e : ok_MassesOk l[i].f0 l[i].f1 l[i].f2 = true := by unfold ok_MassesOk; simp [t0, t1, t2]
            rw [e, Bool.true_and]
            exact ih (i + 1) (by omega)
        · refine Ev.ret fun k => ?_
          simp only [spec_MassesOk.l0]
          rw [if_pos (by omega), if_pos (by omega), rdsMass l i hi]
          unfold spec_l1In.f
          have e : ok_MassesOk l[i].f0 l[i].f1 l[i].f2 = false := by
            unfold ok_MassesOk
            have : (decide (0 ≤ l[i].f2) && decide (l[i].f2 ≤ 1000)) = false := by rw [← Bool.decide_and]; exact decide_eq_false t2
            rw [this]; simp
          rw [e]
          simp [t0, t1, t2]
      · refine Ev.ret fun k => ?_
        simp only [spec_MassesOk.l0]
        rw [if_pos (by omega), if_pos (by omega), rdsMass l i hi]
        unfold spec_l1In.f
        have e : ok_MassesOk l[i].f0 l[i].f1 l[i].f2 = false := by
          unfold ok_MassesOk
          have : (decide ((-1200) ≤ l[i].f1) && decide (l[i].f1 ≤ 2400)) = false := by rw [← Bool.decide_and]; exact decide_eq_false t1
          rw [this]; simp
        rw [e]
        simp [t0, t1]
    · refine Ev.ret fun k => ?_
      simp only [spec_MassesOk.l0]
      rw [if_pos (by omega), if_pos (by omega), rdsMass l i hi]
      unfold spec_l1In.f
      have e : ok_MassesOk l[i].f0 l[i].f1 l[i].f2 = false := by
        unfold ok_MassesOk
        have : (decide (0 ≤ l[i].f0) && decide (l[i].f0 ≤ 10000)) = false := by rw [← Bool.decide_and]; exact decide_eq_false t0
        rw [this]; simp
      rw [e]
      simp [t0]

theorem spec_MassesOk_ok (l : List S68) (hn : l.length ≤ 9223372036854775807) : Ev (fun k => spec_MassesOk.f k l) (decide ((l.length : Int) ≤ 40) && l.all fun x => ok_MassesOk x.f0 x.f1 x.f2) := by
  rw [Bool.and_comm]
  have := spec_MassesOk_loop l hn l.length 0 (by omega)
  rw [List.drop_zero] at this
  exact this
end Go.Proofs.Yteggnboikjjaiaa.Hq
/- The plain part for LoadOf. -/
namespace Go.Proofs.Yteggnboikjjaiaa.Hq
open Go.RowKit Go.Proofs.Yteggnboikjjaiaa.PH2 Go.Proofs.YteggnboikjjaiaaW.PrintWords Go.Proofs.Yteggnboikjjaiaa.Hp Go.Proofs.Yteggnboikjjaiaa.Cf
set_option linter.unusedVariables false
set_option linter.unusedSimpArgs false
def loadL (a b c : Int) : List S68 → Int × Int × Int
  | [] => (a, b, c)
  | x :: t => loadL (wrap64 (a + x.f0)) (wrap64 (b + wrap64 (x.f0 * x.f1))) (wrap64 (c + wrap64 (x.f0 * x.f2))) t
theorem load_spec_loop (l : List S68) (hn : l.length ≤ 9223372036854775807) (d : Nat) : ∀ (i : Nat) (a b c : Int), i + d = l.length →
    Ev (fun k => spec_LoadOf.l0 k l i a b c) ((loadL a b c (l.drop i)).1, (loadL a b c (l.drop i)).2.1, (loadL a b c (l.drop i)).2.2, true) := by
  induction d with
  | zero =>
    intro i a b c hd
    refine Ev.ret fun k => ?_
    simp only [spec_LoadOf.l0]
    rw [if_neg (by omega), List.drop_of_length_le (by omega)]
    rfl
  | succ d ih =>
    intro i a b c hd
    have hi : i < l.length := by omega
    rw [drop_at l i hi]
    refine Ev.step (fun k => ?_) (ih (i + 1) _ _ _ (by omega))
    simp only [spec_LoadOf.l0]
    rw [if_pos (by omega), if_pos (by omega), rdsMass l i hi, wk (n := l.length) (by omega) hn]
theorem load_impl_loop (l : List S68) (hn : l.length ≤ 9223372036854775807) (d : Nat) : ∀ (i : Nat) (a b c : Int), i + d = l.length →
    Ev (fun k => impl_LoadOf.l0 k l l.length i a b c) ((loadL a b c (l.drop i)).1, (loadL a b c (l.drop i)).2.1, (loadL a b c (l.drop i)).2.2, true) := by
  induction d with
  | zero =>
    intro i a b c hd
    refine Ev.ret fun k => ?_
    simp only [impl_LoadOf.l0]
    rw [if_neg (by omega), List.drop_of_length_le (by omega)]
    rfl
  | succ d ih =>
    intro i a b c hd
    have hi : i < l.length := by omega
    rw [drop_at l i hi]
    refine Ev.step (fun k => ?_) (ih (i + 1) _ _ _ (by omega))
    simp only [impl_LoadOf.l0]
    rw [if_pos (by omega), if_pos (by omega), if_pos (by omega), rdsMass l i hi, wk (n := l.length) (by omega) hn]
def okMs (l : List S68) : Bool := decide ((l.length : Int) ≤ 40) && l.all fun x => ok_MassesOk x.f0 x.f1 x.f2
def loadF (l : List S68) : Int × Int × Int × Bool := if okMs l = true then ((loadL 0 0 0 l).1, (loadL 0 0 0 l).2.1, (loadL 0 0 0 l).2.2, true) else (0, 0, 0, false)
theorem load_spec (l : List S68) (hn : l.length ≤ 9223372036854775807) : Ev (fun k => spec_LoadOf.f k l) (loadF l) := by
  unfold spec_LoadOf.f loadF
  refine Ev.bind (spec_MassesOk_ok l hn) ?_
  show Ev (fun n => if okMs l = true then _ else _) _
  cases h : okMs l
  · exact Ev.const fun _ => by simp
  · simp only [if_true]
    have := load_spec_loop l hn l.length 0 0 0 0 (by omega)
    rw [List.drop_zero] at this
    exact this
theorem load_impl (l : List S68) (hn : l.length ≤ 9223372036854775807) : Ev (fun k => impl_LoadOf.f k l) (loadF l) := by
  unfold impl_LoadOf.f loadF impl_MassesOk.f
  simp only [Option.bind_some]
  show Ev (fun n => if okMs l = true then _ else _) _
  cases h : okMs l
  · exact Ev.const fun _ => by simp
  · simp only [if_true]
    have := load_impl_loop l hn l.length 0 0 0 0 (by omega)
    rw [List.drop_zero] at this
    exact this
end Go.Proofs.Yteggnboikjjaiaa.Hq
/- The plain part for tanks: copies, equality, the checks. -/
namespace Go.Proofs.Yteggnboikjjaiaa.Hq
open Go.RowKit Go.Proofs.Yteggnboikjjaiaa.PH2 Go.Proofs.YteggnboikjjaiaaW.PrintWords Go.Proofs.Yteggnboikjjaiaa.Hp Go.Proofs.Yteggnboikjjaiaa.Cf
set_option linter.unusedVariables false
set_option linter.unusedSimpArgs false

def cvTank (x : S94) : S91 := ⟨x.f0, x.f1⟩
theorem rdlTank (l : List S94) (i : Nat) (h : i < l.length) : rd_T94 l (i : Int) = l[i] := by simp [rd_T94, h]
theorem rdsTank (l : List S91) (i : Nat) (h : i < l.length) : rd_T91 l (i : Int) = l[i] := by simp [rd_T91, h]
theorem toTank_loop (l : List S94) (hn : l.length ≤ 9223372036854775807) (d : Nat) : ∀ (i : Nat) (xs : List S91), xs.length = l.length → i + d = l.length → xs.take i = (l.map cvTank).take i → Ev (fun k => laws_toTankS.l0 k l xs i) (l.map cvTank) := by
  induction d with
  | zero =>
    intro i xs hl hd ht
    refine Ev.ret fun k => ?_
    simp only [laws_toTankS.l0]
    rw [if_neg (by omega)]
    rw [List.take_of_length_le (by omega), List.take_of_length_le (by simp; omega)] at ht
    exact congrArg some ht
  | succ d ih =>
    intro i xs hl hd ht
    have hi : i < l.length := by omega
    refine Ev.step (f := fun k => laws_toTankS.l0 k l (xs.set i (cvTank l[i])) ((i + 1 : Nat) : Int)) (fun k => ?_) (ih (i + 1) (xs.set i (cvTank l[i])) (by simpa using hl) (by omega) ?_)
    · simp only [laws_toTankS.l0]
      rw [if_pos (by omega), if_pos (by omega)]
      simp only [laws_toTank.f, Option.bind_some]
      rw [if_pos (by omega), wk (n := l.length) (by omega) hn, Int.toNat_natCast, rdlTank l i hi]
      rfl
    · rw [List.take_succ_eq_append_getElem (by simp; omega), List.take_succ_eq_append_getElem (by simp; omega)]
      congr 1
      · rw [List.take_set_of_le (Nat.le_refl i)]; exact ht
      · simp
theorem toTankS (l : List S94) (hn : l.length ≤ 1048576) : Ev (fun k => laws_toTankS.f k l) (l.map cvTank) := by
  refine Ev.congr (f := fun k => laws_toTankS.l0 k l (List.replicate l.length z91) ((0 : Nat) : Int)) (fun k => ?_) (toTank_loop l (by omega) l.length 0 _ (by simp) (by omega) (by simp))
  unfold laws_toTankS.f
  rw [if_pos (by omega), if_pos (by simp; omega), Int.toNat_natCast]
  rfl
theorem eqTank_loop (l : List S91) (hn : l.length ≤ 9223372036854775807) (d : Nat) : ∀ (i : Nat), i + d = l.length → Ev (fun k => laws_eqTankS.l0 k l l i) true := by
  induction d with
  | zero =>
    intro i hd
    refine Ev.ret fun k => ?_
    simp only [laws_eqTankS.l0]
    rw [if_neg (by omega)]
  | succ d ih =>
    intro i hd
    refine Ev.step (f := fun k => laws_eqTankS.l0 k l l ((i + 1 : Nat) : Int)) (fun k => ?_) (ih (i + 1) (by omega))
    simp only [laws_eqTankS.l0]
    rw [if_pos (by omega), if_pos (by omega), if_pos (by omega)]
    simp only [laws_eqTank.f, if_true, Option.bind_some]
    rw [wk (n := l.length) (by omega) hn]
theorem eqTankS (l : List S91) (hn : l.length ≤ 9223372036854775807) : Ev (fun k => laws_eqTankS.f k l l) true := by
  refine Ev.congr (f := fun k => laws_eqTankS.l0 k l l ((0 : Nat) : Int)) (fun k => ?_) (eqTank_loop l hn l.length 0 (by omega))
  unfold laws_eqTankS.f
  rw [if_pos rfl]
  rfl
theorem szTankS (l : List S94) (m : Int) (h0 : 0 ≤ m) (h1 : m ≤ 1048576) (hn : l.length ≤ 9223372036854775807) : laws_szTankS.f l m = some (szOf l.length m) := by
  unfold laws_szTankS.f szOf
  have e : wrap64 (m - (l.length : Int)) = m - l.length := by unfold wrap64; omega
  rw [e]
  by_cases h : (l.length : Int) ≤ m
  · rw [if_pos h, if_neg (by omega)]
  · rw [if_neg h, if_pos (by omega)]

theorem spec_l2Tanks_loop (l : List S91) (hn : l.length ≤ 9223372036854775807) (d : Nat) : ∀ i : Nat, i + d = l.length → Ev (fun k => spec_l2Tanks.l0 k l i) ((l.drop i).all (fun x => ok_tanksOk x.f0 x.f1) && decide ((l.length : Int) ≤ 10)) := by
  induction d with
  | zero =>
    intro i hd
    refine Ev.ret fun k => ?_
    simp only [spec_l2Tanks.l0]
    rw [if_neg (by omega), List.drop_of_length_le (by omega)]
    simp
  | succ d ih =>
    intro i hd
    have hi : i < l.length := by omega
    rw [drop_at l i hi, List.all_cons, Bool.and_assoc]
    by_cases t0 : 0 ≤ l[i].f0 ∧ l[i].f0 ≤ 100
    ·
      by_cases t1 : 0 ≤ l[i].f1 ∧ l[i].f1 ≤ 50
      ·
        refine Ev.step (f := fun k => spec_l2Tanks.l0 k l ((i + 1 : Nat) : Int)) (fun k => ?_) ?_
        · simp only [spec_l2Tanks.l0]
          rw [if_pos (by omega), if_pos (by omega), rdsTank l i hi]
          unfold spec_l1In.f
          simp only [t0, t1, and_self, decide_true, Option.bind_some, if_true]
          rw [wk (n := l.length) (by omega) hn]
        · have e : ok_tanksOk l[i].f0 l[i].f1 = true := by unfold ok_tanksOk; simp [t0, t1]
          rw [e, Bool.true_and]
          exact ih (i + 1) (by omega)
      · refine Ev.ret fun k => ?_
        simp only [spec_l2Tanks.l0]
        rw [if_pos (by omega), if_pos (by omega), rdsTank l i hi]
        unfold spec_l1In.f
        have e : ok_tanksOk l[i].f0 l[i].f1 = false := by
          unfold ok_tanksOk
          have : (decide (0 ≤ l[i].f1) && decide (l[i].f1 ≤ 50)) = false := by rw [← Bool.decide_and]; exact decide_eq_false t1
          rw [this]; simp
        rw [e]
        simp [t0, t1]
    · refine Ev.ret fun k => ?_
      simp only [spec_l2Tanks.l0]
      rw [if_pos (by omega), if_pos (by omega), rdsTank l i hi]
      unfold spec_l1In.f
      have e : ok_tanksOk l[i].f0 l[i].f1 = false := by
        unfold ok_tanksOk
        have : (decide (0 ≤ l[i].f0) && decide (l[i].f0 ≤ 100)) = false := by rw [← Bool.decide_and]; exact decide_eq_false t0
        rw [this]; simp
      rw [e]
      simp [t0]

theorem spec_l2Tanks_ok (l : List S91) (hn : l.length ≤ 9223372036854775807) : Ev (fun k => spec_l2Tanks.f k l) (decide ((l.length : Int) ≤ 10) && l.all fun x => ok_tanksOk x.f0 x.f1) := by
  rw [Bool.and_comm]
  have := spec_l2Tanks_loop l hn l.length 0 (by omega)
  rw [List.drop_zero] at this
  exact this
end Go.Proofs.Yteggnboikjjaiaa.Hq
/- The plain part for Metacentre. -/
namespace Go.Proofs.Yteggnboikjjaiaa.Hq
open Go.RowKit Go.Proofs.Yteggnboikjjaiaa.PH2 Go.Proofs.YteggnboikjjaiaaW.PrintWords Go.Proofs.Yteggnboikjjaiaa.Hp Go.Proofs.Yteggnboikjjaiaa.Cf Go.Proofs.Yteggnboikjjaiaa.Pl
set_option linter.unusedVariables false
set_option linter.unusedSimpArgs false
theorem gcd_impl (y : Nat) : ∀ x : Nat, Ev (fun k => impl_gcd.l0 k x y) ((Nat.gcd x y : Nat) : Int) := by
  induction y using Nat.strongRecOn with
  | _ y ih =>
    intro x
    by_cases h : y = 0
    · subst h
      refine Ev.ret fun k => ?_
      simp only [impl_gcd.l0]
      rw [if_pos (by omega), Nat.gcd_zero_right]
    · have e : Nat.gcd x y = Nat.gcd y (x % y) := by rw [Nat.gcd_comm x y, Nat.gcd_rec y x, Nat.gcd_comm]
      rw [e]
      refine Ev.step (f := fun k => impl_gcd.l0 k y ((x % y : Nat) : Int)) (fun k => ?_) (ih (x % y) (Nat.mod_lt _ (by omega)) y)
      simp only [impl_gcd.l0]
      rw [if_neg (by omega), Int.tmod_eq_emod_of_nonneg (by omega), ← Int.natCast_emod]
theorem gcd_spec (n : Nat) : ∀ a b : Int, b.natAbs = n → a.natAbs < 9223372036854775808 → n < 9223372036854775808 → Ev (fun k => spec_l2Gcd.l0 k a b) ((Nat.gcd a.natAbs b.natAbs : Nat) : Int) := by
  induction n using Nat.strongRecOn with
  | _ n ih =>
    intro a b hb ha hbb
    by_cases h : b = 0
    · subst h
      refine Ev.ret fun k => ?_
      simp only [spec_l2Gcd.l0]
      rw [if_pos trivial, Int.natAbs_zero, Nat.gcd_zero_right]
      by_cases h0 : a < 0
      · rw [if_pos h0, w64 _ (by omega) (by omega)]
        congr 1
        omega
      · rw [if_neg h0]
        congr 1
        omega
    · have hm : (Int.tmod a b).natAbs = a.natAbs % b.natAbs := Int.natAbs_tmod a b
      have hlt : a.natAbs % b.natAbs < b.natAbs := Nat.mod_lt _ (by omega)
      have e : Nat.gcd a.natAbs b.natAbs = Nat.gcd b.natAbs (Int.tmod a b).natAbs := by rw [hm, Nat.gcd_comm a.natAbs, Nat.gcd_rec b.natAbs a.natAbs, Nat.gcd_comm]
      rw [e]
      refine Ev.step (f := fun k => spec_l2Gcd.l0 k b (Int.tmod a b)) (fun k => ?_) (ih _ (by omega) b (Int.tmod a b) rfl (by omega) (by omega))
      simp only [spec_l2Gcd.l0]
      rw [if_neg h]
theorem size_any (a : Int) (h : a.natAbs < 9223372036854775808) : impl_size.f a = some (a.natAbs : Int) := by
  unfold impl_size.f
  by_cases h0 : a < 0
  · rw [if_pos h0, w64 _ (by omega) (by omega)]
    congr 1
    omega
  · rw [if_neg h0]
    congr 1
    omega
def fracF (a b : Int) : Int × Int := (wrap64 (Int.tdiv a (Nat.gcd a.natAbs b.natAbs : Nat)), wrap64 (Int.tdiv b (Nat.gcd a.natAbs b.natAbs : Nat)))
theorem frac_impl (a b : Int) (ha : a.natAbs < 9223372036854775808) (hb : 0 < b) (hb2 : b < 9223372036854775808) : Ev (fun k => impl_fracOf.f k a b) (fracF a b) := by
  have hg : Nat.gcd a.natAbs b.natAbs ≠ 0 := fun h => by have := Nat.eq_zero_of_gcd_eq_zero_right h; omega
  unfold impl_fracOf.f impl_gcd.f fracF
  rw [size_any a ha, size_any b (by omega)]
  simp only [Option.bind_some]
  exact Ev.bind (gcd_impl b.natAbs a.natAbs) (Ev.const fun _ => by rw [if_neg (by omega)])
theorem frac_spec (a b : Int) (ha : a.natAbs < 9223372036854775808) (hb : 0 < b) (hb2 : b < 9223372036854775808) : Ev (fun k => spec_l2Frac.f k a b) (fracF a b) := by
  have hg : Nat.gcd a.natAbs b.natAbs ≠ 0 := fun h => by have := Nat.eq_zero_of_gcd_eq_zero_right h; omega
  unfold spec_l2Frac.f spec_l2Gcd.f fracF
  refine Ev.congr (fun k => by rw [if_neg (by omega)]) (Ev.bind (gcd_spec b.natAbs a b rfl ha (by omega)) (Ev.const fun _ => by rw [if_neg (by omega)]))
/-! ### Bounds -/
theorem prod (a b m n : Int) (ha : -m ≤ a ∧ a ≤ m) (hb : -n ≤ b ∧ b ≤ n) : -(m * n) ≤ a * b ∧ a * b ≤ m * n := by
  have e1 : 0 ≤ (m - a) * (n + b) := Int.mul_nonneg (by omega) (by omega)
  have e2 : 0 ≤ (m + a) * (n - b) := Int.mul_nonneg (by omega) (by omega)
  have e3 : 0 ≤ (m - a) * (n - b) := Int.mul_nonneg (by omega) (by omega)
  have e4 : 0 ≤ (m + a) * (n + b) := Int.mul_nonneg (by omega) (by omega)
  have f1 : (m - a) * (n + b) = m * n + m * b - a * n - a * b := by grind
  have f2 : (m + a) * (n - b) = m * n - m * b + a * n - a * b := by grind
  have f3 : (m - a) * (n - b) = m * n - m * b - a * n + a * b := by grind
  have f4 : (m + a) * (n + b) = m * n + m * b + a * n + a * b := by grind
  omega
theorem acc_bd {s r : Int} {l : List (List Int)} (ho : okHull s r l = true) (M : Nat) (hM : M < (l.headD []).length) (g : Int → Int → Int) (G : Int) (hG : 0 ≤ G ∧ G ≤ 1000000) (hg : ∀ a b, (0 ≤ a ∧ a ≤ 50) → (0 ≤ b ∧ b ≤ 50) → 0 ≤ g a b ∧ g a b ≤ G) : ∀ k : Nat, k < l.length → 0 ≤ stripAcc g s l M k ∧ stripAcc g s l M k ≤ 100 * G * k := by
  have hL := okHull_len ho
  intro k
  induction k with
  | zero => intro _; simp [stripAcc]
  | succ k ih =>
    intro hk
    have h1 := ih (by omega)
    have h2 := hg _ _ (cell_bd ho M k (by omega) hM) (cell_bd ho M (k + 1) hk hM)
    have h3 := mul_bd (a := s) (b := g (cellAt l M k) (cellAt l M (k + 1))) (A := 100) (B := G) (by omega) h2
    have h4 : 100 * G * ((k + 1 : Nat) : Int) = 100 * G * (k : Int) + 100 * G := by rw [Int.natCast_add, Int.mul_add]; simp
    have h5 : 100 * G * (k : Int) ≤ 100000000 * 12 := by
      have := mul_bd (a := 100 * G) (b := (k : Int)) (A := 100000000) (B := 12) (by omega) (by omega)
      omega
    simp only [stripAcc]
    rw [w64 (s * g (cellAt l M k) (cellAt l M (k + 1))) (by omega) (by omega), w64 _ (by omega) (by omega)]
    omega
theorem plane_bd (s r m : Int) (l : List (List Int)) : 0 ≤ planeF s r l m ∧ planeF s r l m ≤ 120000 := by
  unfold planeF
  cases hw : okWater s r l m
  · simp
  · obtain ⟨M, rfl, hM, ho⟩ := okWater_facts hw
    have hL := okHull_len ho
    simp only [if_true, Int.toNat_natCast]
    have := acc_bd ho M hM addG 100 (by omega) (fun a b ha hb => by unfold addG; rw [w64 _ (by omega) (by omega)]; omega) (l.length - 1) (by omega)
    omega
theorem inertia_bd (s r m : Int) (l : List (List Int)) : 0 ≤ inertiaF s r l m ∧ inertiaF s r l m ≤ 300000000 := by
  unfold inertiaF
  cases hw : okWater s r l m
  · simp
  · obtain ⟨M, rfl, hM, ho⟩ := okWater_facts hw
    have hL := okHull_len ho
    simp only [if_true, Int.toNat_natCast]
    have := acc_bd ho M hM cubG 250000 (by omega) (fun a b ha hb => by
      have a1 := mul_bd ha ha
      have a2 := mul_bd a1 ha
      have b1 := mul_bd hb hb
      have b2 := mul_bd b1 hb
      unfold cubG
      rw [w64 (a * a) (by omega) (by omega), w64 (a * a * a) (by omega) (by omega), w64 (b * b) (by omega) (by omega), w64 (b * b * b) (by omega) (by omega), w64 _ (by omega) (by omega)]
      omega) (l.length - 1) (by omega)
    omega
theorem he_bd (s r : Int) (l : List (List Int)) (hr : 1 ≤ r ∧ r ≤ 20) : ∀ i : Nat, i ≤ 10 → 0 ≤ heF s r l i ∧ heF s r l i ≤ 2100000000 * i := by
  intro i
  induction i with
  | zero => intro _; simp [heF]
  | succ i ih =>
    intro hi
    have h1 := ih (by omega)
    have p1 := plane_bd s r i l
    have p2 := plane_bd s r ((i + 1 : Nat) : Int) l
    have m1 := mul_bd (a := r) (b := planeF s r l i + planeF s r l ((i + 1 : Nat) : Int)) (A := 20) (B := 240000) (by omega) (by omega)
    have m2 := mul_bd m1 (b := r) (B := 20) (by omega)
    have m3 := mul_bd m2 (b := 2 * (i : Int) + 1) (B := 21) (by omega)
    simp only [heF]
    rw [w64 (planeF s r l i + planeF s r l ((i + 1 : Nat) : Int)) (by omega) (by omega), w64 (r * (planeF s r l i + planeF s r l ((i + 1 : Nat) : Int))) (by omega) (by omega), w64 (r * (planeF s r l i + planeF s r l ((i + 1 : Nat) : Int)) * r) (by omega) (by omega), w64 (2 * (i : Int)) (by omega) (by omega), w64 (2 * (i : Int) + 1) (by omega) (by omega), w64 (r * (planeF s r l i + planeF s r l ((i + 1 : Nat) : Int)) * r * (2 * (i : Int) + 1)) (by omega) (by omega), w64 _ (by omega) (by omega)]
    omega
theorem height_bd (s r m : Int) (l : List (List Int)) : 0 ≤ heightF s r l m ∧ heightF s r l m ≤ 21000000000 := by
  unfold heightF
  cases hw : okWater s r l m
  · simp
  · obtain ⟨M, rfl, hM, ho⟩ := okWater_facts hw
    have hL := okHull_len ho
    simp only [if_true, Int.toNat_natCast]
    have := he_bd s r l hL.2.2.2.2 M (by omega)
    omega
theorem sumL_bd (B : Int) (hB : 0 ≤ B ∧ B ≤ 10000000) (l : List Int) : ∀ (n : Nat) (acc : Int), (∀ x ∈ l, 0 ≤ x ∧ x ≤ B) → l.length + n ≤ 1000 → 0 ≤ acc → acc ≤ B * n → 0 ≤ sumL acc l ∧ sumL acc l ≤ B * (n + l.length) := by
  induction l with
  | nil => intro n acc _ _ h0 h1; simp [sumL]; omega
  | cons x t ih =>
    intro n acc hx hn h0 h1
    have hx0 := hx x List.mem_cons_self
    have hbn := mul_bd hB (b := (n : Int)) (B := 1000) (by simp at hn; omega)
    have e1 : B * ((n + 1 : Nat) : Int) = B * n + B := by rw [Int.natCast_add, Int.mul_add]; simp
    have := ih (n + 1) (wrap64 (acc + x)) (fun y hy => hx y (List.mem_cons_of_mem _ hy)) (by simp at hn; omega) (by rw [w64 _ (by omega) (by omega)]; omega) (by rw [w64 _ (by omega) (by omega), e1]; omega)
    have e2 : ((n + 1 : Nat) : Int) + (t.length : Int) = (n : Int) + ((x :: t).length : Int) := by simp; omega
    rw [e2] at this
    exact this
theorem vol_bd (s r m : Int) (l : List (List Int)) : 0 ≤ volF s r l m ∧ volF s r l m ≤ 48000000 := by
  unfold volF strips2F
  cases hw : okWater s r l m
  · simp [sumL]
  · obtain ⟨M, rfl, hM, ho⟩ := okWater_facts hw
    have hL := okHull_len ho
    simp only [if_true, Int.toNat_natCast]
    have := sumL_bd 4000000 (by omega) (stripsL s r l M) 0 0 (fun x hx => by
      unfold stripsL at hx
      obtain ⟨i, hi, rfl⟩ := List.mem_map.1 hx
      have hi' := List.mem_range.1 hi
      have hq := sumQ_bd ho i (by omega) M hM
      have := mul_bd (rs_bd ho) (b := sumQ l i M) (B := 2000) (by omega)
      omega) (by simp [stripsL]; omega) (by omega) (by omega)
    have e : ((stripsL s r l M).length : Int) ≤ 11 := by simp [stripsL]; omega
    omega
theorem load_bd (l : List S68) : ∀ (n : Nat) (a b c : Int), (∀ x ∈ l, ok_MassesOk x.f0 x.f1 x.f2 = true) → l.length + n ≤ 40 → (0 ≤ a ∧ a ≤ 10000 * n) → (0 ≤ c ∧ c ≤ 10000000 * n) →
    (0 ≤ (loadL a b c l).1 ∧ (loadL a b c l).1 ≤ 400000) ∧ (0 ≤ (loadL a b c l).2.2 ∧ (loadL a b c l).2.2 ≤ 400000000) := by
  induction l with
  | nil => intro n a b c _ hn h0 h1; simp only [loadL]; simp at hn; omega
  | cons x t ih =>
    intro n a b c hx hn h0 h1
    have hx0 := hx x List.mem_cons_self
    unfold ok_MassesOk at hx0
    simp only [Bool.and_eq_true, decide_eq_true_eq] at hx0
    have hm := mul_bd hx0.1.1 hx0.2
    simp at hn
    simp only [loadL]
    rw [w64 (a + x.f0) (by omega) (by omega), w64 (x.f0 * x.f2) (by omega) (by omega), w64 (c + x.f0 * x.f2) (by omega) (by omega)]
    exact ih (n + 1) _ _ _ (fun y hy => hx y (List.mem_cons_of_mem _ hy)) (by omega) (by omega) (by omega)
def surfL (acc : Int) : List S91 → Int
  | [] => acc
  | x :: t => surfL (wrap64 (acc + wrap64 (wrap64 (wrap64 (x.f0 * x.f1) * x.f1) * x.f1))) t
theorem surf_bd (l : List S91) : ∀ (n : Nat) (a : Int), (∀ x ∈ l, ok_tanksOk x.f0 x.f1 = true) → l.length + n ≤ 10 → (0 ≤ a ∧ a ≤ 12500000 * n) → 0 ≤ surfL a l ∧ surfL a l ≤ 125000000 := by
  induction l with
  | nil => intro n a _ hn h0; simp only [surfL]; simp at hn; omega
  | cons x t ih =>
    intro n a hx hn h0
    have hx0 := hx x List.mem_cons_self
    unfold ok_tanksOk at hx0
    simp only [Bool.and_eq_true, decide_eq_true_eq] at hx0
    have m1 := mul_bd hx0.1 hx0.2
    have m2 := mul_bd m1 hx0.2
    have m3 := mul_bd m2 hx0.2
    simp at hn
    simp only [surfL]
    rw [w64 (x.f0 * x.f1) (by omega) (by omega), w64 (x.f0 * x.f1 * x.f1) (by omega) (by omega), w64 (x.f0 * x.f1 * x.f1 * x.f1) (by omega) (by omega), w64 _ (by omega) (by omega)]
    exact ih (n + 1) _ (fun y hy => hx y (List.mem_cons_of_mem _ hy)) (by omega) (by omega)
/-! ### The end of both -/
def numF (s r : Int) (l : List (List Int)) (m v W MZ S : Int) : Int := wrap64 (wrap64 (wrap64 (wrap64 (wrap64 (3 * heightF s r l m) + wrap64 (4 * inertiaF s r l m)) - S) * W) - wrap64 (wrap64 (6 * v) * MZ))
def denF (v W : Int) : Int := wrap64 (wrap64 (6 * v) * W)
theorem num_bd (s r : Int) (l : List (List Int)) (m v W MZ S : Int) (hv : 0 ≤ v ∧ v ≤ 48000000) (hW : 0 ≤ W ∧ W ≤ 400000) (hZ : 0 ≤ MZ ∧ MZ ≤ 400000000) (hS : 0 ≤ S ∧ S ≤ 125000000) : (numF s r l m v W MZ S).natAbs < 9223372036854775808 := by
  have h1 := height_bd s r m l
  have h2 := inertia_bd s r m l
  unfold numF
  generalize heightF s r l m = H at *
  generalize inertiaF s r l m = I at *
  rw [w64 (3 * H) (by omega) (by omega), w64 (4 * I) (by omega) (by omega), w64 (3 * H + 4 * I) (by omega) (by omega), w64 (3 * H + 4 * I - S) (by omega) (by omega), w64 (6 * v) (by omega) (by omega)]
  have p1 := prod (3 * H + 4 * I - S) W 70000000000 400000 (by omega) (by omega)
  have p2 := mul_bd (a := 6 * v) (b := MZ) (A := 288000000) (B := 400000000) (by omega) hZ
  rw [w64 ((3 * H + 4 * I - S) * W) (by omega) (by omega), w64 (6 * v * MZ) (by omega) (by omega), w64 _ (by omega) (by omega)]
  omega
theorem den_bd (v W : Int) (hv : 0 < v ∧ v ≤ 48000000) (hW : 0 < W ∧ W ≤ 400000) : 0 < denF v W ∧ denF v W < 9223372036854775808 := by
  unfold denF
  rw [w64 (6 * v) (by omega) (by omega)]
  have p := mul_bd (a := 6 * v) (b := W) (A := 288000000) (B := 400000) (by omega) (by omega)
  have q : 0 < 6 * v * W := Int.mul_pos (by omega) hW.1
  rw [w64 _ (by omega) (by omega)]
  omega
theorem spec_tail (s r m v W MX MZ : Int) (h : List (List Int)) (l : List S91) (hn : l.length ≤ 9223372036854775807) (x : Int × Int) (hx : ∀ S, S = surfL 0 l → Ev (fun k => spec_l2Frac.f k (numF s r h m v W MZ S) (denF v W)) x) (d : Nat) : ∀ (i : Nat) (acc : Int), i + d = l.length → surfL acc (l.drop i) = surfL 0 l →
    Ev (fun k => spec_Metacentre.l0 k m l v acc i s r h W MX MZ) (x.1, x.2, true) := by
  induction d with
  | zero =>
    intro i acc hd hs
    rw [List.drop_of_length_le (by omega)] at hs
    refine Ev.step (f := fun k => (spec_Height4.f k s r h m).bind fun t420 => ((spec_Inertia3.f k s r h m).bind fun t421 => ((spec_l2Frac.f k (wrap64 ((wrap64 ((wrap64 ((wrap64 ((wrap64 (3 * t420)) + (wrap64 (4 * t421)))) - acc)) * W)) - (wrap64 ((wrap64 (6 * v)) * MZ)))) (wrap64 ((wrap64 (6 * v)) * W))).bind fun bt422 => (some (bt422.1, bt422.2, true))))) (fun k => ?_) ?_
    · simp only [spec_Metacentre.l0]
      rw [if_neg (by omega)]
    · exact Ev.bind (height_spec s r m h) (Ev.bind (inertia_spec s r m h) (Ev.bind (hx acc hs) (Ev.const fun _ => rfl)))
  | succ d ih =>
    intro i acc hd hs
    have hi : i < l.length := by omega
    rw [drop_at l i hi] at hs
    refine Ev.step (fun k => ?_) (ih (i + 1) _ (by omega) hs)
    simp only [spec_Metacentre.l0]
    rw [if_pos (by omega), if_pos (by omega), rdsTank l i hi, wk (n := l.length) (by omega) hn]
theorem impl_tail (s r m v W MX MZ : Int) (h : List (List Int)) (l : List S91) (hn : l.length ≤ 9223372036854775807) (x : Int × Int) (hx : ∀ S, S = surfL 0 l → Ev (fun k => impl_fracOf.f k (numF s r h m v W MZ S) (denF v W)) x) (d : Nat) : ∀ (i : Nat) (acc : Int), i + d = l.length → surfL acc (l.drop i) = surfL 0 l →
    Ev (fun k => impl_Metacentre.l0 k m v acc l l.length i s r h W MX MZ) (x.1, x.2, true) := by
  induction d with
  | zero =>
    intro i acc hd hs
    rw [List.drop_of_length_le (by omega)] at hs
    refine Ev.step (f := fun k => (impl_Height4.f k s r h m).bind fun t420 => ((impl_Inertia3.f s r h m).bind fun t421 => ((impl_fracOf.f k (wrap64 ((wrap64 ((wrap64 ((wrap64 ((wrap64 (3 * t420)) + (wrap64 (4 * t421)))) - acc)) * W)) - (wrap64 ((wrap64 (6 * v)) * MZ)))) (wrap64 ((wrap64 (6 * v)) * W))).bind fun bt422 => (some (bt422.1, bt422.2, true))))) (fun k => ?_) ?_
    · simp only [impl_Metacentre.l0]
      rw [if_neg (by omega)]
    · exact Ev.bind (height_impl s r m h) (Ev.bind (g := fun k => impl_Inertia3.f s r h m) (a := inertiaF s r h m) (Ev.const fun _ => rfl) (Ev.bind (hx acc hs) (Ev.const fun _ => rfl)))
  | succ d ih =>
    intro i acc hd hs
    have hi : i < l.length := by omega
    rw [drop_at l i hi] at hs
    refine Ev.step (fun k => ?_) (ih (i + 1) _ (by omega) hs)
    simp only [impl_Metacentre.l0]
    rw [if_pos (by omega), if_pos (by omega), if_pos (by omega), rdsTank l i hi, wk (n := l.length) (by omega) hn]
theorem meta_both (s r m : Int) (h : List (List Int)) (ms : List S68) (l : List S91) (hm : ms.length ≤ 9223372036854775807) (hn : l.length ≤ 9223372036854775807) :
    ∃ x : Int × Int × Bool, Ev (fun k => spec_Metacentre.f k s r h m ms l) x ∧ Ev (fun k => impl_Metacentre.f k s r h m ms l) x := by
  have no1 : ∀ v W MX MZ, Ev (fun k => spec_Metacentre.j0 k m l v true s r h W MX MZ) (0, 0, false) := fun v W MX MZ => Ev.ret fun k => by simp only [spec_Metacentre.j0, if_true]
  have no2 : ∀ v W MX MZ, Ev (fun k => impl_Metacentre.j0 k m l v true s r h W MX MZ) (0, 0, false) := fun v W MX MZ => Ev.ret fun k => by simp only [impl_Metacentre.j0, if_true]
  have hv := vol_bd s r m h
  by_cases hv0 : volF s r h m = 0
  · refine ⟨(0, 0, false), ?_, ?_⟩
    · exact Ev.bind (load_spec ms hm) (Ev.bind (vol_spec s r m h) (Ev.congr (fun k => by rw [if_pos hv0]) (no1 _ _ _ _)))
    · exact Ev.bind (vol_impl s r m h) (Ev.bind (load_impl ms hm) (Ev.congr (fun k => by rw [if_pos hv0]) (no2 _ _ _ _)))
  · cases hok : okMs ms
    · have e : loadF ms = (0, 0, 0, false) := by unfold loadF; rw [hok]; rfl
      refine ⟨(0, 0, false), ?_, ?_⟩
      · exact Ev.bind (load_spec ms hm) (Ev.bind (vol_spec s r m h) (Ev.congr (fun k => by rw [if_neg hv0, e]; rw [if_neg (by simp)]) (no1 _ _ _ _)))
      · exact Ev.bind (vol_impl s r m h) (Ev.bind (load_impl ms hm) (Ev.congr (fun k => by rw [if_neg hv0, e]; rw [if_neg (by simp)]) (no2 _ _ _ _)))
    · have e : loadF ms = ((loadL 0 0 0 ms).1, (loadL 0 0 0 ms).2.1, (loadL 0 0 0 ms).2.2, true) := by unfold loadF; rw [hok]; rfl
      unfold okMs at hok
      simp only [Bool.and_eq_true, decide_eq_true_eq] at hok
      have hb := load_bd ms 0 0 0 0 (fun x hx => List.all_eq_true.1 hok.2 x hx) (by omega) (by omega) (by omega)
      generalize (loadL 0 0 0 ms).1 = W at *
      generalize (loadL 0 0 0 ms).2.1 = MX at *
      generalize (loadL 0 0 0 ms).2.2 = MZ at *
      by_cases hW : W = 0
      · refine ⟨(0, 0, false), ?_, ?_⟩
        · exact Ev.bind (load_spec ms hm) (Ev.bind (vol_spec s r m h) (Ev.congr (fun k => by rw [if_neg hv0, e]; rw [if_pos rfl, if_pos hW]) (no1 _ _ _ _)))
        · exact Ev.bind (vol_impl s r m h) (Ev.bind (load_impl ms hm) (Ev.congr (fun k => by rw [if_neg hv0, e]; rw [if_pos rfl, if_pos hW]) (no2 _ _ _ _)))
      · cases ht : (decide ((l.length : Int) ≤ 10) && l.all fun x => ok_tanksOk x.f0 x.f1)
        · refine ⟨(0, 0, false), ?_, ?_⟩
          · have t1 := spec_l2Tanks_ok l hn
            rw [ht] at t1
            exact Ev.bind (load_spec ms hm) (Ev.bind (vol_spec s r m h) (Ev.congr (fun k => by rw [if_neg hv0, e]; rw [if_pos rfl, if_neg hW]) (Ev.bind t1 (no1 _ _ _ _))))
          · refine Ev.bind (vol_impl s r m h) (Ev.bind (load_impl ms hm) (Ev.congr (fun k => by rw [if_neg hv0, e, if_pos rfl, if_neg hW]) ?_))
            unfold impl_tanksOk.f
            rw [ht]
            exact no2 _ _ _ _
        · have t1 := spec_l2Tanks_ok l hn
          rw [ht] at t1
          have ht2 := ht
          simp only [Bool.and_eq_true, decide_eq_true_eq] at ht2
          have hS := surf_bd l 0 0 (fun x hx => List.all_eq_true.1 ht2.2 x hx) (by omega) (by omega)
          have hN := num_bd s r h m (volF s r h m) W MZ (surfL 0 l) hv hb.1 hb.2 hS
          have hD := den_bd (volF s r h m) W (by omega) (by omega)
          have f1 := frac_spec _ _ hN hD.1 hD.2
          have f2 := frac_impl _ _ hN hD.1 hD.2
          generalize fracF (numF s r h m (volF s r h m) W MZ (surfL 0 l)) (denF (volF s r h m) W) = x at f1 f2
          refine ⟨(x.1, x.2, true), ?_, ?_⟩
          · refine Ev.bind (load_spec ms hm) (Ev.bind (vol_spec s r m h) (Ev.congr (fun k => by rw [if_neg hv0, e]; rw [if_pos rfl, if_neg hW]) (Ev.bind t1 ?_)))
            refine Ev.step (fun k => ?_) (spec_tail s r m (volF s r h m) W MX MZ h l hn x (fun S hS => by rw [hS]; exact f1) l.length 0 0 (by omega) (by rw [List.drop_zero]))
            simp only [spec_Metacentre.j0, Bool.not_true, Bool.false_eq_true, if_false]
            rfl
          · refine Ev.bind (vol_impl s r m h) (Ev.bind (load_impl ms hm) (Ev.congr (fun k => by rw [if_neg hv0, e, if_pos rfl, if_neg hW]) ?_))
            unfold impl_tanksOk.f
            rw [ht]
            simp only [Option.bind_some, Bool.not_true]
            refine Ev.step (fun k => ?_) (impl_tail s r m (volF s r h m) W MX MZ h l hn x (fun S hS => by rw [hS]; exact f2) l.length 0 0 (by omega) (by rw [List.drop_zero]))
            simp only [impl_Metacentre.j0, Bool.false_eq_true, if_false]
            rfl
end Go.Proofs.Yteggnboikjjaiaa.Hq
namespace Go.Proofs.Yteggnboikjjaiaa.Pure
open Go.RowKit Go.Proofs.Yteggnboikjjaiaa.PH2 Go.Proofs.YteggnboikjjaiaaW.PrintWords Go.Proofs.Yteggnboikjjaiaa.Hp Go.Proofs.Yteggnboikjjaiaa.Hq
set_option linter.unusedSimpArgs false
theorem FnExactMetacentre : ∀ (a0_0 : Int) (a0_1 : Int) (l0_2 : List (List Int)) (a1 : Int) (l2 : List (S71)) (l3 : List (S94)), l2.length ≤ maxLen → l3.length ≤ maxLen → ∃ k, laws_FnExactMetacentre.f k a0_0 a0_1 l0_2 a1 l2 l3 = some true := by
  intro a b l m ms ts hms hts
  have hm : maxLen = 9223372036854775807 := rfl
  refine Ev.rounds (g := fun k => laws_FnExactMetacentre.f k a b l m ms ts) ?_
  unfold laws_FnExactMetacentre.f
  have e1 : laws_szHull.f a b l 1048576 = some (szOf (sizeH l) 1048576) := by unfold laws_szHull.f; rw [if_pos (by omega)]
  rw [e1]
  simp only [Option.bind_some]
  by_cases hs : sizeH l ≤ 1048576
  · have s1 : szOf (sizeH l) 1048576 = 1048576 - (sizeH l : Int) := by unfold szOf; rw [if_pos (by omega)]
    have e2 : laws_toHull.f a b l = some (a, b, l) := by unfold laws_toHull.f; rw [if_pos hs]
    have e3 : laws_eqHull.f a b l a b l = some true := by unfold laws_eqHull.f; rw [if_pos ⟨rfl, rfl, rfl, hs⟩]
    rw [s1, szMassS ms _ (by omega) (by omega) (by omega)]
    refine Ev.congr (fun k => by rw [if_neg (by omega)]) ?_
    simp only [Option.bind_some]
    by_cases h2 : (ms.length : Int) ≤ 1048576 - (sizeH l : Int)
    · have s2 : szOf ms.length (1048576 - (sizeH l : Int)) = 1048576 - (sizeH l : Int) - ms.length := by unfold szOf; rw [if_pos h2]
      rw [s2, szTankS ts _ (by omega) (by omega) (by omega)]
      refine Ev.congr (fun k => by rw [if_neg (by omega)]) ?_
      simp only [Option.bind_some]
      by_cases h3 : (ts.length : Int) ≤ 1048576 - (sizeH l : Int) - ms.length
      · have s3 : szOf ts.length (1048576 - (sizeH l : Int) - ms.length) = 1048576 - (sizeH l : Int) - ms.length - ts.length := by unfold szOf; rw [if_pos h3]
        rw [s3]
        refine Ev.congr (fun k => by rw [if_neg (by omega)]) ?_
        have l1 : ms.length ≤ 1048576 := by omega
        have l2 : ts.length ≤ 1048576 := by omega
        have l3 : (ms.map cvMass).length ≤ 9223372036854775807 := by rw [List.length_map]; omega
        have l4 : (ts.map cvTank).length ≤ 9223372036854775807 := by rw [List.length_map]; omega
        obtain ⟨x, hx1, hx2⟩ := meta_both a b m l (ms.map cvMass) (ts.map cvTank) l3 l4
        simp only [e2, Option.bind_some]
        refine Ev.bind (toMassS ms l1) (Ev.bind (toTankS ts l2) (Ev.bind hx1 (Ev.bind (toMassS ms l1) (Ev.bind (toTankS ts l2) (Ev.bind hx2 ?_)))))
        unfold laws_eqFrac.f
        simp only [if_true, Option.bind_some, bne_self_eq_false]
        refine Ev.step (f := fun k => (laws_toMassS.f k ms).bind fun t502 => ((laws_eqMassS.f k (ms.map cvMass) t502).bind fun t505 => (if t505 = true then ((laws_toTankS.f k ts).bind fun t506 => ((laws_eqTankS.f k (ts.map cvTank) t506).bind fun t509 => (if t509 = true then (some true) else (some false)))) else (some false)))) (fun k => ?_) ?_
        · simp only [laws_FnExactMetacentre.j0, Bool.false_eq_true, if_false, e2, Option.bind_some, e3, if_true]
        · refine Ev.bind (toMassS ms l1) (Ev.bind (eqMassS _ l3) (Ev.congr (fun _ => by rw [if_pos rfl]) ?_))
          exact Ev.bind (toTankS ts l2) (Ev.bind (eqTankS _ l4) (Ev.const fun _ => by rw [if_pos rfl]))
      · have s3 : szOf ts.length (1048576 - (sizeH l : Int) - ms.length) = -1 := by unfold szOf; rw [if_neg h3]
        exact Ev.const fun k => by rw [s3, if_pos (by omega)]
    · have s2 : szOf ms.length (1048576 - (sizeH l : Int)) = -1 := by unfold szOf; rw [if_neg h2]
      exact Ev.const fun k => by rw [s2, if_pos (by omega)]
  · have s1 : szOf (sizeH l) 1048576 = -1 := by unfold szOf; rw [if_neg (by omega)]
    exact Ev.const fun k => by rw [s1, if_pos (by omega)]
end Go.Proofs.Yteggnboikjjaiaa.Pure
