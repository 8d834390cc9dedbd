import Derived.Test.YtfbokdbaondjdaaQHeadOn0
import Derived.Test.YtfbokdbaondjdaaCy
import Derived.Test.YtfbokdbaondjdaaQHeadOn1
import Derived.Test.YtfbokdbaondjdaaQHeadOn3
import Derived.Test.YtfbokdbaondjdaaQHeadOn5
namespace Go.Proofs.Ytfbokdbaondjdaa.PFnExactHeadOn
open Go.RowKit Go.Proofs.YtfbokdbaondjdaaW.PrintWords Go.Proofs.YtfbokdbaondjdaaW.PrintLast Go.Proofs.YtfbokdbaondjdaaW.PrintMore Go.Proofs.Ytfbokdbaondjdaa.Cz
attribute [local go_sem] max2_int min2_int max_two min_two max_three min_three max_four min_four
set_option linter.unusedVariables false
set_option linter.unusedSimpArgs false

theorem s6_0 {p : Prop} (h : p := by repeat (first | (with_reducible first | exact HB.out | apply below_alloc | apply pw_below_drewN | apply below_drew1 | refine below_set ?_ GE198.out | refine below_set ?_ GE199.out) | exact HB.out)) : p := h
theorem s6_1 {p : Prop} (h : p := by (try simp only [List.map_toArray, List.map_cons, List.map_nil]); first | done | rfl | (simp only [List.length_drop, List.length_take]; rfl)) : p := h
theorem s6_2 {p : Prop} (h : p := by repeat (first | (with_reducible first | exact HB.out | apply below_alloc | apply pw_below_drewN | apply below_drew1 | refine below_set ?_ GE198.out) | exact HB.out)) : p := h
theorem s6_3 {p : Prop} (h : p := by repeat (first | (with_reducible first | exact HB.out | apply below_alloc | apply pw_below_drewN | apply below_drew1) | exact HB.out)) : p := h
/-! ### laws_FnExactHeadOn: function 8 -/
def laws_FnExactHeadOn.f (k : Nat) (a0_0 : Int) (a0_1 : Int) (a0_2 : Int) (a0_3 : Int) (a0_4 : Int) (a0_5 : Int) (a1_0 : Int) (a1_1 : Int) (a1_2 : Int) (a1_3 : Int) (a1_4 : Int) (a1_5 : Int) : Option (Bool) := (laws_toShip.f a0_0 a0_1 a0_2 a0_3 a0_4 a0_5).bind fun bt200 => ((laws_toShip.f a1_0 a1_1 a1_2 a1_3 a1_4 a1_5).bind fun bt206 => ((spec_HeadOn.f k bt200.1 bt200.2.1 bt200.2.2.1 bt200.2.2.2.1 bt200.2.2.2.2.1 bt200.2.2.2.2.2 bt206.1 bt206.2.1 bt206.2.2.1 bt206.2.2.2.1 bt206.2.2.2.2.1 bt206.2.2.2.2.2).bind fun t212 => ((laws_toShip.f a0_0 a0_1 a0_2 a0_3 a0_4 a0_5).bind fun bt213 => ((laws_toShip.f a1_0 a1_1 a1_2 a1_3 a1_4 a1_5).bind fun bt219 => ((impl_HeadOn.f k bt213.1 bt213.2.1 bt213.2.2.1 bt213.2.2.2.1 bt213.2.2.2.2.1 bt213.2.2.2.2.2 bt219.1 bt219.2.1 bt219.2.2.1 bt219.2.2.2.1 bt219.2.2.2.2.1 bt219.2.2.2.2.2).bind fun t225 => (if (t225 != t212) = true then (some false) else (some true)))))))
theorem laws_FnExactHeadOn.mono : ∀ a0 a1 a2 a3 a4 a5 a6 a7 a8 a9 a10 a11 k, LeO (laws_FnExactHeadOn.f k a0 a1 a2 a3 a4 a5 a6 a7 a8 a9 a10 a11) (laws_FnExactHeadOn.f (k + 1) a0 a1 a2 a3 a4 a5 a6 a7 a8 a9 a10 a11) := by
 intro a0 a1 a2 a3 a4 a5 a6 a7 a8 a9 a10 a11 k
 unfold laws_FnExactHeadOn.f
 repeat' first
   | (with_reducible exact impl_HeadOn.mono _ _ _ _ _ _ _ _ _ _ _ _ _)
   | (with_reducible exact spec_HeadOn.mono _ _ _ _ _ _ _ _ _ _ _ _ _)
   | (with_reducible exact LeO.refl _)
   | (with_reducible exact LeO.none _)
   | (with_reducible refine LeO.ite ?_ ?_)
   | (with_reducible refine LeO.bind ?_ (fun _ => ?_))
   | exact impl_HeadOn.mono _ _ _ _ _ _ _ _ _ _ _ _ _
   | exact spec_HeadOn.mono _ _ _ _ _ _ _ _ _ _ _ _ _
   | exact LeO.none _
   | refine LeO.ite ?_ ?_
   | refine LeO.bind ?_ (fun _ => ?_)
set_option maxHeartbeats 8000000 in
set_option maxRecDepth 100000 in
theorem laws_FnExactHeadOn.calls (k : Nat) (a0_0 : Int) (a0_1 : Int) (a0_2 : Int) (a0_3 : Int) (a0_4 : Int) (a0_5 : Int) (a1_0 : Int) (a1_1 : Int) (a1_2 : Int) (a1_3 : Int) (a1_4 : Int) (a1_5 : Int) (r : Bool) (w : World) (h : laws_FnExactHeadOn.f k a0_0 a0_1 a0_2 a0_3 a0_4 a0_5 a1_0 a1_1 a1_2 a1_3 a1_4 a1_5 = some r) :
  Calls Try.prog 8 #[.agg #[.int .i64 a0_0, .int .i64 a0_1, .int .i64 a0_2, .int .i64 a0_3, .int .i64 a0_4, .int .i64 a0_5], .agg #[.int .i64 a1_0, .int .i64 a1_1, .int .i64 a1_2, .int .i64 a1_3, .int .i64 a1_4, .int .i64 a1_5]] w fun e w' => e = .returned (.bool r) ∧ Below w.heap.size w w' := by
 have hu23 := Try.underlying23
 have HB := Aside0.mk (Below.refl w.heap.size w)
 have H : ((laws_toShip.f a0_0 a0_1 a0_2 a0_3 a0_4 a0_5).bind fun bt200 => ((laws_toShip.f a1_0 a1_1 a1_2 a1_3 a1_4 a1_5).bind fun bt206 => ((spec_HeadOn.f k bt200.1 bt200.2.1 bt200.2.2.1 bt200.2.2.2.1 bt200.2.2.2.2.1 bt200.2.2.2.2.2 bt206.1 bt206.2.1 bt206.2.2.1 bt206.2.2.2.1 bt206.2.2.2.2.1 bt206.2.2.2.2.2).bind fun t212 => ((laws_toShip.f a0_0 a0_1 a0_2 a0_3 a0_4 a0_5).bind fun bt213 => ((laws_toShip.f a1_0 a1_1 a1_2 a1_3 a1_4 a1_5).bind fun bt219 => ((impl_HeadOn.f k bt213.1 bt213.2.1 bt213.2.2.1 bt213.2.2.2.1 bt213.2.2.2.2.1 bt213.2.2.2.2.2 bt219.1 bt219.2.1 bt219.2.2.1 bt219.2.2.2.1 bt219.2.2.2.2.1 bt219.2.2.2.2.2).bind fun t225 => (if (t225 != t212) = true then (some false) else (some true)))))))) = some r := h
 clear h
 replace H := Option.bind_eq_some_iff.mp H
 obtain ⟨⟨t200, t201, t202, t203, t204, t205⟩, A30, H⟩ := H
 replace H : ((laws_toShip.f a1_0 a1_1 a1_2 a1_3 a1_4 a1_5).bind fun bt206 => ((spec_HeadOn.f k t200 t201 t202 t203 t204 t205 bt206.1 bt206.2.1 bt206.2.2.1 bt206.2.2.2.1 bt206.2.2.2.2.1 bt206.2.2.2.2.2).bind fun t212 => ((laws_toShip.f a0_0 a0_1 a0_2 a0_3 a0_4 a0_5).bind fun bt213 => ((laws_toShip.f a1_0 a1_1 a1_2 a1_3 a1_4 a1_5).bind fun bt219 => ((impl_HeadOn.f k bt213.1 bt213.2.1 bt213.2.2.1 bt213.2.2.2.1 bt213.2.2.2.2.1 bt213.2.2.2.2.2 bt219.1 bt219.2.1 bt219.2.2.1 bt219.2.2.2.1 bt219.2.2.2.2.1 bt219.2.2.2.2.2).bind fun t225 => (if (t225 != t212) = true then (some false) else (some true))))))) = some r := H
 have A3 := Aside0.mk A30
 clear A30
 replace H := Option.bind_eq_some_iff.mp H
 obtain ⟨⟨t206, t207, t208, t209, t210, t211⟩, A40, H⟩ := H
 replace H : ((spec_HeadOn.f k t200 t201 t202 t203 t204 t205 t206 t207 t208 t209 t210 t211).bind fun t212 => ((laws_toShip.f a0_0 a0_1 a0_2 a0_3 a0_4 a0_5).bind fun bt213 => ((laws_toShip.f a1_0 a1_1 a1_2 a1_3 a1_4 a1_5).bind fun bt219 => ((impl_HeadOn.f k bt213.1 bt213.2.1 bt213.2.2.1 bt213.2.2.2.1 bt213.2.2.2.2.1 bt213.2.2.2.2.2 bt219.1 bt219.2.1 bt219.2.2.1 bt219.2.2.2.1 bt219.2.2.2.2.1 bt219.2.2.2.2.2).bind fun t225 => (if (t225 != t212) = true then (some false) else (some true)))))) = some r := H
 have A4 := Aside0.mk A40
 clear A40
 replace H := Option.bind_eq_some_iff.mp H
 obtain ⟨t212, A50, H⟩ := H
 replace H : ((laws_toShip.f a0_0 a0_1 a0_2 a0_3 a0_4 a0_5).bind fun bt213 => ((laws_toShip.f a1_0 a1_1 a1_2 a1_3 a1_4 a1_5).bind fun bt219 => ((impl_HeadOn.f k bt213.1 bt213.2.1 bt213.2.2.1 bt213.2.2.2.1 bt213.2.2.2.2.1 bt213.2.2.2.2.2 bt219.1 bt219.2.1 bt219.2.2.1 bt219.2.2.2.1 bt219.2.2.2.2.1 bt219.2.2.2.2.2).bind fun t225 => (if (t225 != t212) = true then (some false) else (some true))))) = some r := H
 have A5 := Aside0.mk A50
 clear A50
 replace H := Option.bind_eq_some_iff.mp H
 obtain ⟨⟨t213, t214, t215, t216, t217, t218⟩, A60, H⟩ := H
 replace H : ((laws_toShip.f a1_0 a1_1 a1_2 a1_3 a1_4 a1_5).bind fun bt219 => ((impl_HeadOn.f k t213 t214 t215 t216 t217 t218 bt219.1 bt219.2.1 bt219.2.2.1 bt219.2.2.2.1 bt219.2.2.2.2.1 bt219.2.2.2.2.2).bind fun t225 => (if (t225 != t212) = true then (some false) else (some true)))) = some r := H
 have A6 := Aside0.mk A60
 clear A60
 replace H := Option.bind_eq_some_iff.mp H
 obtain ⟨⟨t219, t220, t221, t222, t223, t224⟩, A70, H⟩ := H
 replace H : ((impl_HeadOn.f k t213 t214 t215 t216 t217 t218 t219 t220 t221 t222 t223 t224).bind fun t225 => (if (t225 != t212) = true then (some false) else (some true))) = some r := H
 have A7 := Aside0.mk A70
 clear A70
 replace H := Option.bind_eq_some_iff.mp H
 obtain ⟨t225, A80, H⟩ := H
 replace H : (if (t225 != t212) = true then (some false) else (some true)) = some r := H
 have A8 := Aside0.mk A80
 clear A80
 by_cases c9 : (t225 != t212) = true
 ·rw [if_pos c9] at H
  have c9b0 : (t225 != t212) = true := c9
  (try (have c9b1 : decide (t225 = t212) = false := by simpa using c9))
  (try (have c9b2 : (t225 == t212) = false := by simpa using c9))
  (try (have c9b3 : ¬ (t225 = t212) := by simpa using c9))
  clear c9
  obtain rfl := Option.some.inj H
  go_enter Try.func8, Try.ntmps8
  try go_wp2_with (first | ((with_reducible refine gate_dst (N := 2) rfl ?_); refine box_event ?hg (N := 2) ?hd (cs := #[.int .i64 a0_0, .int .i64 a0_1, .int .i64 a0_2, .int .i64 a0_3, .int .i64 a0_4, .int .i64 a0_5]) (t := 23) ?hr ?_; (case hd => rfl); (case hg => rfl); (case hr => first | (go_simp; done) | (go_simp; rfl)); intro gb198 hg w10 hbox hb; have n0_ := Aside0.mk (below_step s6_3 hb); have n1_ := Aside0.mk (hbox); have n2_ := Aside0.mk (ns hg s6_3 : w.heap.size ≤ gb198); have n3_ := Aside0.mk (ns hg s6_3 : w.heap.size ≤ gb198); clear HB; have HB := n0_; have BK198 := n1_; have GW198 := n2_; have GE198 := n3_; clear n0_ n1_ n2_ n3_; clear hb hbox hg) | ((with_reducible refine gate_dst (N := 3) rfl ?_); refine box_event ?hg (N := 3) ?hd (cs := #[.int .i64 a1_0, .int .i64 a1_1, .int .i64 a1_2, .int .i64 a1_3, .int .i64 a1_4, .int .i64 a1_5]) (t := 23) ?hr ?_; (case hd => rfl); (case hg => rfl); (case hr => first | (go_simp; done) | (go_simp; rfl)); intro gb199 hg w11 hbox hb; have n0_ := Aside0.mk (bb (zk BK198.out) hb); have n1_ := Aside0.mk (below_step s6_2 hb); have n2_ := Aside0.mk (hbox); have n3_ := Aside0.mk (ns hg s6_2 : w.heap.size ≤ gb199); have n4_ := Aside0.mk (ns hg s6_2 : w.heap.size ≤ gb199); have n5_ := Aside0.mk ((nlt hg (zk BK198.out) : gb198 ≠ gb199)); have n6_ := Aside0.mk ((ngt hg (zk BK198.out) : gb199 ≠ gb198)); clear BK198; clear HB; have BK198 := n0_; have HB := n1_; have BK199 := n2_; have GW199 := n3_; have GE199 := n4_; have NB198_199 := n5_; have NB199_198 := n6_; clear n0_ n1_ n2_ n3_ n4_ n5_ n6_; clear hb hbox hg))
  have n0_ := Aside0.mk (blk_drew BK198.out)
  have n1_ := Aside0.mk (blk_drew BK199.out)
  have n2_ := Aside0.mk (below_drew1 HB.out)
  clear BK198 BK199 HB
  have BK198 := n0_
  have BK199 := n1_
  have HB := n2_
  clear n0_ n1_ n2_
  refine start_ (n := 6) (S := fun w' => w'.cell? ⟨gb198, 0, none⟩ = some (.int .i64 a0_0) ∧ w'.cell? ⟨gb198, 1, none⟩ = some (.int .i64 a0_1) ∧ w'.cell? ⟨gb198, 2, none⟩ = some (.int .i64 a0_2) ∧ w'.cell? ⟨gb198, 3, none⟩ = some (.int .i64 a0_3) ∧ w'.cell? ⟨gb198, 4, none⟩ = some (.int .i64 a0_4) ∧ w'.cell? ⟨gb198, 5, none⟩ = some (.int .i64 a0_5) ∧ w'.cell? ⟨gb199, 0, none⟩ = some (.int .i64 a1_0) ∧ w'.cell? ⟨gb199, 1, none⟩ = some (.int .i64 a1_1) ∧ w'.cell? ⟨gb199, 2, none⟩ = some (.int .i64 a1_2) ∧ w'.cell? ⟨gb199, 3, none⟩ = some (.int .i64 a1_3) ∧ w'.cell? ⟨gb199, 4, none⟩ = some (.int .i64 a1_4) ∧ w'.cell? ⟨gb199, 5, none⟩ = some (.int .i64 a1_5)) (ds := []) #[false, false, false, false, false, false] (by kernel_rfl) rfl rfl ⟨bc BK198.out 0, bc BK198.out 1, bc BK198.out 2, bc BK198.out 3, bc BK198.out 4, bc BK198.out 5, bc BK199.out 0, bc BK199.out 1, bc BK199.out 2, bc BK199.out 3, bc BK199.out 4, bc BK199.out 5⟩ (fun hHeld => ?_)
  generalize w11.drew = w12 at BK198 BK199 HB hHeld ⊢
  refine take_ (i := 0) (N := some 7) (v := ?_) (a' := ?_) (bz 6 1) rfl rfl (by kernel_rfl) (fun _ _ _ h => h) (Or.inl ⟨by rfl, ?_⟩) hHeld ?_ ?_
  rotate_left
  ·rintro w' ⟨s0, s1, s2, s3, s4, s5, s6, s7, s8, s9, s10, s11⟩
   go_simp
   with_reducible rfl
  rotate_left
  ·simp only [Act.put, y1, y2, y3, i64_w, i32_w]
   rfl
  refine take_ (i := 2) (N := some 9) (v := ?_) (a' := ?_) (bz 6 5) rfl rfl (by kernel_rfl) (fun _ _ _ h => h) (Or.inl ⟨by rfl, ?_⟩) hHeld ?_ ?_
  rotate_left
  ·rintro w' ⟨s0, s1, s2, s3, s4, s5, s6, s7, s8, s9, s10, s11⟩
   go_simp
   with_reducible rfl
  rotate_left
  ·simp only [Act.put, y1, y2, y3, i64_w, i32_w]
   rfl
  refine one_ (i := 1) (N := some 8) (bz 6 7) rfl rfl (by kernel_rfl) (by decide) (fun K hK => ?_)
  refine goes_ Try.func16 (by kernel_rfl) rfl #[.agg #[.int .i64 a0_0, .int .i64 a0_1, .int .i64 a0_2, .int .i64 a0_3, .int .i64 a0_4, .int .i64 a0_5]] (by rfl) rfl rfl s6_1 ?_
  with_reducible refine (laws_toShip.calls a0_0 a0_1 a0_2 a0_3 a0_4 a0_5 t200 t201 t202 t203 t204 t205 _ A3.out).mono ?_
  rintro e w13 ⟨rfl, hb⟩
  refine ⟨_, rfl, ?_⟩
  have n0_ := Aside0.mk (bb (zk BK198.out) hb)
  have n1_ := Aside0.mk (bb (zk BK199.out) hb)
  have n2_ := Aside0.mk (below_step s6_0 hb)
  clear BK198 BK199 HB
  have BK198 := n0_
  have BK199 := n1_
  have HB := n2_
  clear n0_ n1_ n2_
  (try clear hb)
  (try clear hb2)
  (try clear hk)
  (try clear hi)
  refine hK.out _ _ ⟨bc BK198.out 0, bc BK198.out 1, bc BK198.out 2, bc BK198.out 3, bc BK198.out 4, bc BK198.out 5, bc BK199.out 0, bc BK199.out 1, bc BK199.out 2, bc BK199.out 3, bc BK199.out 4, bc BK199.out 5⟩ (fun hHeld => ?_)
  clear hK K
  refine norm_ (a' := ?_) ?_ ?_
  rotate_left
  ·show Act.put _ (some 8) _ = _
   simp only [Act.put, y1, y2, y3, i64_w, i32_w]
   rfl
  refine one_ (i := 3) (N := some 10) (bz 6 15) rfl rfl (by kernel_rfl) (by decide) (fun K hK => ?_)
  refine goes_ Try.func16 (by kernel_rfl) rfl #[.agg #[.int .i64 a1_0, .int .i64 a1_1, .int .i64 a1_2, .int .i64 a1_3, .int .i64 a1_4, .int .i64 a1_5]] (by rfl) rfl rfl s6_1 ?_
  with_reducible refine (laws_toShip.calls a1_0 a1_1 a1_2 a1_3 a1_4 a1_5 t206 t207 t208 t209 t210 t211 _ A4.out).mono ?_
  rintro e w14 ⟨rfl, hb⟩
  refine ⟨_, rfl, ?_⟩
  have n0_ := Aside0.mk (bb (zk BK198.out) hb)
  have n1_ := Aside0.mk (bb (zk BK199.out) hb)
  have n2_ := Aside0.mk (below_step s6_0 hb)
  clear BK198 BK199 HB
  have BK198 := n0_
  have BK199 := n1_
  have HB := n2_
  clear n0_ n1_ n2_
  (try clear hb)
  (try clear hb2)
  (try clear hk)
  (try clear hi)
  refine hK.out _ _ ⟨bc BK198.out 0, bc BK198.out 1, bc BK198.out 2, bc BK198.out 3, bc BK198.out 4, bc BK198.out 5, bc BK199.out 0, bc BK199.out 1, bc BK199.out 2, bc BK199.out 3, bc BK199.out 4, bc BK199.out 5⟩ (fun hHeld => ?_)
  clear hK K
  refine norm_ (a' := ?_) ?_ ?_
  rotate_left
  ·show Act.put _ (some 10) _ = _
   simp only [Act.put, y1, y2, y3, i64_w, i32_w]
   rfl
  refine one_ (i := 4) (N := some 11) (bz 6 31) rfl rfl (by kernel_rfl) (by decide) (fun K hK => ?_)
  refine goes_ Try.func30 (by kernel_rfl) rfl #[.agg #[.int .i64 t200, .int .i64 t201, .int .i64 t202, .int .i64 t203, .int .i64 t204, .int .i64 t205], .agg #[.int .i64 t206, .int .i64 t207, .int .i64 t208, .int .i64 t209, .int .i64 t210, .int .i64 t211]] (by rfl) rfl rfl s6_1 ?_
  with_reducible refine (spec_HeadOn.calls k t200 t201 t202 t203 t204 t205 t206 t207 t208 t209 t210 t211 t212 _ A5.out).mono ?_
  rintro e w15 ⟨rfl, hb⟩
  refine ⟨_, rfl, ?_⟩
  have n0_ := Aside0.mk (bb (zk BK198.out) hb)
  have n1_ := Aside0.mk (bb (zk BK199.out) hb)
  have n2_ := Aside0.mk (below_step s6_0 hb)
  clear BK198 BK199 HB
  have BK198 := n0_
  have BK199 := n1_
  have HB := n2_
  clear n0_ n1_ n2_
  (try clear hb)
  (try clear hb2)
  (try clear hk)
  (try clear hi)
  refine hK.out _ _ ⟨bc BK198.out 0, bc BK198.out 1, bc BK198.out 2, bc BK198.out 3, bc BK198.out 4, bc BK198.out 5, bc BK199.out 0, bc BK199.out 1, bc BK199.out 2, bc BK199.out 3, bc BK199.out 4, bc BK199.out 5⟩ (fun hHeld => ?_)
  clear hK K
  refine norm_ (a' := ?_) ?_ ?_
  rotate_left
  ·show Act.put _ (some 11) _ = _
   simp only [Act.put, y1, y2, y3, i64_w, i32_w]
   rfl
  refine pure_ (i := 5) (N := some 5) (v := ?_) (a' := ?_) (bz 6 63) rfl rfl (by kernel_rfl) (fun _ _ _ h => h) (Or.inl ⟨by rfl, ?_⟩) ?_ ?_
  rotate_left
  ·intro w'
   go_simp
   with_reducible rfl
  rotate_left
  ·simp only [Act.put, y1, y2, y3, i64_w, i32_w]
   rfl
  refine done_ (by kernel_rfl) ?_
  try go_wp2
  have n0_ := Aside0.mk (blk_drew BK198.out)
  have n1_ := Aside0.mk (blk_drew BK199.out)
  have n2_ := Aside0.mk (below_drew1 HB.out)
  clear BK198 BK199 HB
  have BK198 := n0_
  have BK199 := n1_
  have HB := n2_
  clear n0_ n1_ n2_
  refine start_ (n := 6) (S := fun w' => w'.cell? ⟨gb198, 0, none⟩ = some (.int .i64 a0_0) ∧ w'.cell? ⟨gb198, 1, none⟩ = some (.int .i64 a0_1) ∧ w'.cell? ⟨gb198, 2, none⟩ = some (.int .i64 a0_2) ∧ w'.cell? ⟨gb198, 3, none⟩ = some (.int .i64 a0_3) ∧ w'.cell? ⟨gb198, 4, none⟩ = some (.int .i64 a0_4) ∧ w'.cell? ⟨gb198, 5, none⟩ = some (.int .i64 a0_5) ∧ w'.cell? ⟨gb199, 0, none⟩ = some (.int .i64 a1_0) ∧ w'.cell? ⟨gb199, 1, none⟩ = some (.int .i64 a1_1) ∧ w'.cell? ⟨gb199, 2, none⟩ = some (.int .i64 a1_2) ∧ w'.cell? ⟨gb199, 3, none⟩ = some (.int .i64 a1_3) ∧ w'.cell? ⟨gb199, 4, none⟩ = some (.int .i64 a1_4) ∧ w'.cell? ⟨gb199, 5, none⟩ = some (.int .i64 a1_5)) (ds := []) #[false, false, false, false, false, false] (by kernel_rfl) rfl rfl ⟨bc BK198.out 0, bc BK198.out 1, bc BK198.out 2, bc BK198.out 3, bc BK198.out 4, bc BK198.out 5, bc BK199.out 0, bc BK199.out 1, bc BK199.out 2, bc BK199.out 3, bc BK199.out 4, bc BK199.out 5⟩ (fun hHeld => ?_)
  generalize w15.drew = w16 at BK198 BK199 HB hHeld ⊢
  refine take_ (i := 0) (N := some 12) (v := ?_) (a' := ?_) (bz 6 1) rfl rfl (by kernel_rfl) (fun _ _ _ h => h) (Or.inl ⟨by rfl, ?_⟩) hHeld ?_ ?_
  rotate_left
  ·rintro w' ⟨s0, s1, s2, s3, s4, s5, s6, s7, s8, s9, s10, s11⟩
   go_simp
   with_reducible rfl
  rotate_left
  ·simp only [Act.put, y1, y2, y3, i64_w, i32_w]
   rfl
  refine take_ (i := 2) (N := some 14) (v := ?_) (a' := ?_) (bz 6 5) rfl rfl (by kernel_rfl) (fun _ _ _ h => h) (Or.inl ⟨by rfl, ?_⟩) hHeld ?_ ?_
  rotate_left
  ·rintro w' ⟨s0, s1, s2, s3, s4, s5, s6, s7, s8, s9, s10, s11⟩
   go_simp
   with_reducible rfl
  rotate_left
  ·simp only [Act.put, y1, y2, y3, i64_w, i32_w]
   rfl
  refine one_ (i := 1) (N := some 13) (bz 6 7) rfl rfl (by kernel_rfl) (by decide) (fun K hK => ?_)
  refine goes_ Try.func16 (by kernel_rfl) rfl #[.agg #[.int .i64 a0_0, .int .i64 a0_1, .int .i64 a0_2, .int .i64 a0_3, .int .i64 a0_4, .int .i64 a0_5]] (by rfl) rfl rfl s6_1 ?_
  with_reducible refine (laws_toShip.calls a0_0 a0_1 a0_2 a0_3 a0_4 a0_5 t213 t214 t215 t216 t217 t218 _ A6.out).mono ?_
  rintro e w17 ⟨rfl, hb⟩
  refine ⟨_, rfl, ?_⟩
  have n0_ := Aside0.mk (bb (zk BK198.out) hb)
  have n1_ := Aside0.mk (bb (zk BK199.out) hb)
  have n2_ := Aside0.mk (below_step s6_0 hb)
  clear BK198 BK199 HB
  have BK198 := n0_
  have BK199 := n1_
  have HB := n2_
  clear n0_ n1_ n2_
  (try clear hb)
  (try clear hb2)
  (try clear hk)
  (try clear hi)
  refine hK.out _ _ ⟨bc BK198.out 0, bc BK198.out 1, bc BK198.out 2, bc BK198.out 3, bc BK198.out 4, bc BK198.out 5, bc BK199.out 0, bc BK199.out 1, bc BK199.out 2, bc BK199.out 3, bc BK199.out 4, bc BK199.out 5⟩ (fun hHeld => ?_)
  clear hK K
  refine norm_ (a' := ?_) ?_ ?_
  rotate_left
  ·show Act.put _ (some 13) _ = _
   simp only [Act.put, y1, y2, y3, i64_w, i32_w]
   rfl
  refine one_ (i := 3) (N := some 15) (bz 6 15) rfl rfl (by kernel_rfl) (by decide) (fun K hK => ?_)
  refine goes_ Try.func16 (by kernel_rfl) rfl #[.agg #[.int .i64 a1_0, .int .i64 a1_1, .int .i64 a1_2, .int .i64 a1_3, .int .i64 a1_4, .int .i64 a1_5]] (by rfl) rfl rfl s6_1 ?_
  with_reducible refine (laws_toShip.calls a1_0 a1_1 a1_2 a1_3 a1_4 a1_5 t219 t220 t221 t222 t223 t224 _ A7.out).mono ?_
  rintro e w18 ⟨rfl, hb⟩
  refine ⟨_, rfl, ?_⟩
  have n0_ := Aside0.mk (bb (zk BK198.out) hb)
  have n1_ := Aside0.mk (bb (zk BK199.out) hb)
  have n2_ := Aside0.mk (below_step s6_0 hb)
  clear BK198 BK199 HB
  have BK198 := n0_
  have BK199 := n1_
  have HB := n2_
  clear n0_ n1_ n2_
  (try clear hb)
  (try clear hb2)
  (try clear hk)
  (try clear hi)
  refine hK.out _ _ ⟨bc BK198.out 0, bc BK198.out 1, bc BK198.out 2, bc BK198.out 3, bc BK198.out 4, bc BK198.out 5, bc BK199.out 0, bc BK199.out 1, bc BK199.out 2, bc BK199.out 3, bc BK199.out 4, bc BK199.out 5⟩ (fun hHeld => ?_)
  clear hK K
  refine norm_ (a' := ?_) ?_ ?_
  rotate_left
  ·show Act.put _ (some 15) _ = _
   simp only [Act.put, y1, y2, y3, i64_w, i32_w]
   rfl
  refine one_ (i := 4) (N := some 16) (bz 6 31) rfl rfl (by kernel_rfl) (by decide) (fun K hK => ?_)
  refine goes_ Try.func31 (by kernel_rfl) rfl #[.agg #[.int .i64 t213, .int .i64 t214, .int .i64 t215, .int .i64 t216, .int .i64 t217, .int .i64 t218], .agg #[.int .i64 t219, .int .i64 t220, .int .i64 t221, .int .i64 t222, .int .i64 t223, .int .i64 t224]] (by rfl) rfl rfl s6_1 ?_
  with_reducible refine (impl_HeadOn.calls k t213 t214 t215 t216 t217 t218 t219 t220 t221 t222 t223 t224 t225 _ A8.out).mono ?_
  rintro e w19 ⟨rfl, hb⟩
  refine ⟨_, rfl, ?_⟩
  have n0_ := Aside0.mk (bb (zk BK198.out) hb)
  have n1_ := Aside0.mk (bb (zk BK199.out) hb)
  have n2_ := Aside0.mk (below_step s6_0 hb)
  clear BK198 BK199 HB
  have BK198 := n0_
  have BK199 := n1_
  have HB := n2_
  clear n0_ n1_ n2_
  (try clear hb)
  (try clear hb2)
  (try clear hk)
  (try clear hi)
  refine hK.out _ _ ⟨bc BK198.out 0, bc BK198.out 1, bc BK198.out 2, bc BK198.out 3, bc BK198.out 4, bc BK198.out 5, bc BK199.out 0, bc BK199.out 1, bc BK199.out 2, bc BK199.out 3, bc BK199.out 4, bc BK199.out 5⟩ (fun hHeld => ?_)
  clear hK K
  refine norm_ (a' := ?_) ?_ ?_
  rotate_left
  ·show Act.put _ (some 16) _ = _
   simp only [Act.put, y1, y2, y3, i64_w, i32_w]
   rfl
  refine pure_ (i := 5) (N := some 6) (v := ?_) (a' := ?_) (bz 6 63) rfl rfl (by kernel_rfl) (fun _ _ _ h => h) (Or.inl ⟨by rfl, ?_⟩) ?_ ?_
  rotate_left
  ·intro w'
   go_simp
   with_reducible rfl
  rotate_left
  ·simp only [Act.put, y1, y2, y3, i64_w, i32_w]
   rfl
  refine done_ (by kernel_rfl) ?_
  try go_wp2
  go_ret
  exact ⟨by first | rfl | (simp [errW_none, errW_some] <;> rfl) | (simp [*, errW_none, errW_some] <;> rfl), by repeat (first | (with_reducible first | exact HB.out | apply below_alloc | apply pw_below_drewN | apply below_drew1 | refine below_set ?_ GE198.out | refine below_set ?_ GE199.out) | exact HB.out)⟩
 ·rw [if_neg c9] at H
  have c9b0 : (t225 != t212) = false := by simpa using c9
  (try (have c9b1 : decide (t225 = t212) = true := by simpa using c9))
  (try (have c9b2 : (t225 == t212) = true := by simpa using c9))
  clear c9
  obtain rfl := Option.some.inj H
  go_enter Try.func8, Try.ntmps8
  try go_wp2_with (first | ((with_reducible refine gate_dst (N := 2) rfl ?_); refine box_event ?hg (N := 2) ?hd (cs := #[.int .i64 a0_0, .int .i64 a0_1, .int .i64 a0_2, .int .i64 a0_3, .int .i64 a0_4, .int .i64 a0_5]) (t := 23) ?hr ?_; (case hd => rfl); (case hg => rfl); (case hr => first | (go_simp; done) | (go_simp; rfl)); intro gb198 hg w20 hbox hb; have n0_ := Aside0.mk (below_step s6_3 hb); have n1_ := Aside0.mk (hbox); have n2_ := Aside0.mk (ns hg s6_3 : w.heap.size ≤ gb198); have n3_ := Aside0.mk (ns hg s6_3 : w.heap.size ≤ gb198); clear HB; have HB := n0_; have BK198 := n1_; have GW198 := n2_; have GE198 := n3_; clear n0_ n1_ n2_ n3_; clear hb hbox hg) | ((with_reducible refine gate_dst (N := 3) rfl ?_); refine box_event ?hg (N := 3) ?hd (cs := #[.int .i64 a1_0, .int .i64 a1_1, .int .i64 a1_2, .int .i64 a1_3, .int .i64 a1_4, .int .i64 a1_5]) (t := 23) ?hr ?_; (case hd => rfl); (case hg => rfl); (case hr => first | (go_simp; done) | (go_simp; rfl)); intro gb199 hg w21 hbox hb; have n0_ := Aside0.mk (bb (zk BK198.out) hb); have n1_ := Aside0.mk (below_step s6_2 hb); have n2_ := Aside0.mk (hbox); have n3_ := Aside0.mk (ns hg s6_2 : w.heap.size ≤ gb199); have n4_ := Aside0.mk (ns hg s6_2 : w.heap.size ≤ gb199); have n5_ := Aside0.mk ((nlt hg (zk BK198.out) : gb198 ≠ gb199)); have n6_ := Aside0.mk ((ngt hg (zk BK198.out) : gb199 ≠ gb198)); clear BK198; clear HB; have BK198 := n0_; have HB := n1_; have BK199 := n2_; have GW199 := n3_; have GE199 := n4_; have NB198_199 := n5_; have NB199_198 := n6_; clear n0_ n1_ n2_ n3_ n4_ n5_ n6_; clear hb hbox hg))
  have n0_ := Aside0.mk (blk_drew BK198.out)
  have n1_ := Aside0.mk (blk_drew BK199.out)
  have n2_ := Aside0.mk (below_drew1 HB.out)
  clear BK198 BK199 HB
  have BK198 := n0_
  have BK199 := n1_
  have HB := n2_
  clear n0_ n1_ n2_
  refine start_ (n := 6) (S := fun w' => w'.cell? ⟨gb198, 0, none⟩ = some (.int .i64 a0_0) ∧ w'.cell? ⟨gb198, 1, none⟩ = some (.int .i64 a0_1) ∧ w'.cell? ⟨gb198, 2, none⟩ = some (.int .i64 a0_2) ∧ w'.cell? ⟨gb198, 3, none⟩ = some (.int .i64 a0_3) ∧ w'.cell? ⟨gb198, 4, none⟩ = some (.int .i64 a0_4) ∧ w'.cell? ⟨gb198, 5, none⟩ = some (.int .i64 a0_5) ∧ w'.cell? ⟨gb199, 0, none⟩ = some (.int .i64 a1_0) ∧ w'.cell? ⟨gb199, 1, none⟩ = some (.int .i64 a1_1) ∧ w'.cell? ⟨gb199, 2, none⟩ = some (.int .i64 a1_2) ∧ w'.cell? ⟨gb199, 3, none⟩ = some (.int .i64 a1_3) ∧ w'.cell? ⟨gb199, 4, none⟩ = some (.int .i64 a1_4) ∧ w'.cell? ⟨gb199, 5, none⟩ = some (.int .i64 a1_5)) (ds := []) #[false, false, false, false, false, false] (by kernel_rfl) rfl rfl ⟨bc BK198.out 0, bc BK198.out 1, bc BK198.out 2, bc BK198.out 3, bc BK198.out 4, bc BK198.out 5, bc BK199.out 0, bc BK199.out 1, bc BK199.out 2, bc BK199.out 3, bc BK199.out 4, bc BK199.out 5⟩ (fun hHeld => ?_)
  generalize w21.drew = w22 at BK198 BK199 HB hHeld ⊢
  refine take_ (i := 0) (N := some 7) (v := ?_) (a' := ?_) (bz 6 1) rfl rfl (by kernel_rfl) (fun _ _ _ h => h) (Or.inl ⟨by rfl, ?_⟩) hHeld ?_ ?_
  rotate_left
  ·rintro w' ⟨s0, s1, s2, s3, s4, s5, s6, s7, s8, s9, s10, s11⟩
   go_simp
   with_reducible rfl
  rotate_left
  ·simp only [Act.put, y1, y2, y3, i64_w, i32_w]
   rfl
  refine take_ (i := 2) (N := some 9) (v := ?_) (a' := ?_) (bz 6 5) rfl rfl (by kernel_rfl) (fun _ _ _ h => h) (Or.inl ⟨by rfl, ?_⟩) hHeld ?_ ?_
  rotate_left
  ·rintro w' ⟨s0, s1, s2, s3, s4, s5, s6, s7, s8, s9, s10, s11⟩
   go_simp
   with_reducible rfl
  rotate_left
  ·simp only [Act.put, y1, y2, y3, i64_w, i32_w]
   rfl
  refine one_ (i := 1) (N := some 8) (bz 6 7) rfl rfl (by kernel_rfl) (by decide) (fun K hK => ?_)
  refine goes_ Try.func16 (by kernel_rfl) rfl #[.agg #[.int .i64 a0_0, .int .i64 a0_1, .int .i64 a0_2, .int .i64 a0_3, .int .i64 a0_4, .int .i64 a0_5]] (by rfl) rfl rfl s6_1 ?_
  with_reducible refine (laws_toShip.calls a0_0 a0_1 a0_2 a0_3 a0_4 a0_5 t200 t201 t202 t203 t204 t205 _ A3.out).mono ?_
  rintro e w23 ⟨rfl, hb⟩
  refine ⟨_, rfl, ?_⟩
  have n0_ := Aside0.mk (bb (zk BK198.out) hb)
  have n1_ := Aside0.mk (bb (zk BK199.out) hb)
  have n2_ := Aside0.mk (below_step s6_0 hb)
  clear BK198 BK199 HB
  have BK198 := n0_
  have BK199 := n1_
  have HB := n2_
  clear n0_ n1_ n2_
  (try clear hb)
  (try clear hb2)
  (try clear hk)
  (try clear hi)
  refine hK.out _ _ ⟨bc BK198.out 0, bc BK198.out 1, bc BK198.out 2, bc BK198.out 3, bc BK198.out 4, bc BK198.out 5, bc BK199.out 0, bc BK199.out 1, bc BK199.out 2, bc BK199.out 3, bc BK199.out 4, bc BK199.out 5⟩ (fun hHeld => ?_)
  clear hK K
  refine norm_ (a' := ?_) ?_ ?_
  rotate_left
  ·show Act.put _ (some 8) _ = _
   simp only [Act.put, y1, y2, y3, i64_w, i32_w]
   rfl
  refine one_ (i := 3) (N := some 10) (bz 6 15) rfl rfl (by kernel_rfl) (by decide) (fun K hK => ?_)
  refine goes_ Try.func16 (by kernel_rfl) rfl #[.agg #[.int .i64 a1_0, .int .i64 a1_1, .int .i64 a1_2, .int .i64 a1_3, .int .i64 a1_4, .int .i64 a1_5]] (by rfl) rfl rfl s6_1 ?_
  with_reducible refine (laws_toShip.calls a1_0 a1_1 a1_2 a1_3 a1_4 a1_5 t206 t207 t208 t209 t210 t211 _ A4.out).mono ?_
  rintro e w24 ⟨rfl, hb⟩
  refine ⟨_, rfl, ?_⟩
  have n0_ := Aside0.mk (bb (zk BK198.out) hb)
  have n1_ := Aside0.mk (bb (zk BK199.out) hb)
  have n2_ := Aside0.mk (below_step s6_0 hb)
  clear BK198 BK199 HB
  have BK198 := n0_
  have BK199 := n1_
  have HB := n2_
  clear n0_ n1_ n2_
  (try clear hb)
  (try clear hb2)
  (try clear hk)
  (try clear hi)
  refine hK.out _ _ ⟨bc BK198.out 0, bc BK198.out 1, bc BK198.out 2, bc BK198.out 3, bc BK198.out 4, bc BK198.out 5, bc BK199.out 0, bc BK199.out 1, bc BK199.out 2, bc BK199.out 3, bc BK199.out 4, bc BK199.out 5⟩ (fun hHeld => ?_)
  clear hK K
  refine norm_ (a' := ?_) ?_ ?_
  rotate_left
  ·show Act.put _ (some 10) _ = _
   simp only [Act.put, y1, y2, y3, i64_w, i32_w]
   rfl
  refine one_ (i := 4) (N := some 11) (bz 6 31) rfl rfl (by kernel_rfl) (by decide) (fun K hK => ?_)
  refine goes_ Try.func30 (by kernel_rfl) rfl #[.agg #[.int .i64 t200, .int .i64 t201, .int .i64 t202, .int .i64 t203, .int .i64 t204, .int .i64 t205], .agg #[.int .i64 t206, .int .i64 t207, .int .i64 t208, .int .i64 t209, .int .i64 t210, .int .i64 t211]] (by rfl) rfl rfl s6_1 ?_
  with_reducible refine (spec_HeadOn.calls k t200 t201 t202 t203 t204 t205 t206 t207 t208 t209 t210 t211 t212 _ A5.out).mono ?_
  rintro e w25 ⟨rfl, hb⟩
  refine ⟨_, rfl, ?_⟩
  have n0_ := Aside0.mk (bb (zk BK198.out) hb)
  have n1_ := Aside0.mk (bb (zk BK199.out) hb)
  have n2_ := Aside0.mk (below_step s6_0 hb)
  clear BK198 BK199 HB
  have BK198 := n0_
  have BK199 := n1_
  have HB := n2_
  clear n0_ n1_ n2_
  (try clear hb)
  (try clear hb2)
  (try clear hk)
  (try clear hi)
  refine hK.out _ _ ⟨bc BK198.out 0, bc BK198.out 1, bc BK198.out 2, bc BK198.out 3, bc BK198.out 4, bc BK198.out 5, bc BK199.out 0, bc BK199.out 1, bc BK199.out 2, bc BK199.out 3, bc BK199.out 4, bc BK199.out 5⟩ (fun hHeld => ?_)
  clear hK K
  refine norm_ (a' := ?_) ?_ ?_
  rotate_left
  ·show Act.put _ (some 11) _ = _
   simp only [Act.put, y1, y2, y3, i64_w, i32_w]
   rfl
  refine pure_ (i := 5) (N := some 5) (v := ?_) (a' := ?_) (bz 6 63) rfl rfl (by kernel_rfl) (fun _ _ _ h => h) (Or.inl ⟨by rfl, ?_⟩) ?_ ?_
  rotate_left
  ·intro w'
   go_simp
   with_reducible rfl
  rotate_left
  ·simp only [Act.put, y1, y2, y3, i64_w, i32_w]
   rfl
  refine done_ (by kernel_rfl) ?_
  try go_wp2
  have n0_ := Aside0.mk (blk_drew BK198.out)
  have n1_ := Aside0.mk (blk_drew BK199.out)
  have n2_ := Aside0.mk (below_drew1 HB.out)
  clear BK198 BK199 HB
  have BK198 := n0_
  have BK199 := n1_
  have HB := n2_
  clear n0_ n1_ n2_
  refine start_ (n := 6) (S := fun w' => w'.cell? ⟨gb198, 0, none⟩ = some (.int .i64 a0_0) ∧ w'.cell? ⟨gb198, 1, none⟩ = some (.int .i64 a0_1) ∧ w'.cell? ⟨gb198, 2, none⟩ = some (.int .i64 a0_2) ∧ w'.cell? ⟨gb198, 3, none⟩ = some (.int .i64 a0_3) ∧ w'.cell? ⟨gb198, 4, none⟩ = some (.int .i64 a0_4) ∧ w'.cell? ⟨gb198, 5, none⟩ = some (.int .i64 a0_5) ∧ w'.cell? ⟨gb199, 0, none⟩ = some (.int .i64 a1_0) ∧ w'.cell? ⟨gb199, 1, none⟩ = some (.int .i64 a1_1) ∧ w'.cell? ⟨gb199, 2, none⟩ = some (.int .i64 a1_2) ∧ w'.cell? ⟨gb199, 3, none⟩ = some (.int .i64 a1_3) ∧ w'.cell? ⟨gb199, 4, none⟩ = some (.int .i64 a1_4) ∧ w'.cell? ⟨gb199, 5, none⟩ = some (.int .i64 a1_5)) (ds := []) #[false, false, false, false, false, false] (by kernel_rfl) rfl rfl ⟨bc BK198.out 0, bc BK198.out 1, bc BK198.out 2, bc BK198.out 3, bc BK198.out 4, bc BK198.out 5, bc BK199.out 0, bc BK199.out 1, bc BK199.out 2, bc BK199.out 3, bc BK199.out 4, bc BK199.out 5⟩ (fun hHeld => ?_)
  generalize w25.drew = w26 at BK198 BK199 HB hHeld ⊢
  refine take_ (i := 0) (N := some 12) (v := ?_) (a' := ?_) (bz 6 1) rfl rfl (by kernel_rfl) (fun _ _ _ h => h) (Or.inl ⟨by rfl, ?_⟩) hHeld ?_ ?_
  rotate_left
  ·rintro w' ⟨s0, s1, s2, s3, s4, s5, s6, s7, s8, s9, s10, s11⟩
   go_simp
   with_reducible rfl
  rotate_left
  ·simp only [Act.put, y1, y2, y3, i64_w, i32_w]
   rfl
  refine take_ (i := 2) (N := some 14) (v := ?_) (a' := ?_) (bz 6 5) rfl rfl (by kernel_rfl) (fun _ _ _ h => h) (Or.inl ⟨by rfl, ?_⟩) hHeld ?_ ?_
  rotate_left
  ·rintro w' ⟨s0, s1, s2, s3, s4, s5, s6, s7, s8, s9, s10, s11⟩
   go_simp
   with_reducible rfl
  rotate_left
  ·simp only [Act.put, y1, y2, y3, i64_w, i32_w]
   rfl
  refine one_ (i := 1) (N := some 13) (bz 6 7) rfl rfl (by kernel_rfl) (by decide) (fun K hK => ?_)
  refine goes_ Try.func16 (by kernel_rfl) rfl #[.agg #[.int .i64 a0_0, .int .i64 a0_1, .int .i64 a0_2, .int .i64 a0_3, .int .i64 a0_4, .int .i64 a0_5]] (by rfl) rfl rfl s6_1 ?_
  with_reducible refine (laws_toShip.calls a0_0 a0_1 a0_2 a0_3 a0_4 a0_5 t213 t214 t215 t216 t217 t218 _ A6.out).mono ?_
  rintro e w27 ⟨rfl, hb⟩
  refine ⟨_, rfl, ?_⟩
  have n0_ := Aside0.mk (bb (zk BK198.out) hb)
  have n1_ := Aside0.mk (bb (zk BK199.out) hb)
  have n2_ := Aside0.mk (below_step s6_0 hb)
  clear BK198 BK199 HB
  have BK198 := n0_
  have BK199 := n1_
  have HB := n2_
  clear n0_ n1_ n2_
  (try clear hb)
  (try clear hb2)
  (try clear hk)
  (try clear hi)
  refine hK.out _ _ ⟨bc BK198.out 0, bc BK198.out 1, bc BK198.out 2, bc BK198.out 3, bc BK198.out 4, bc BK198.out 5, bc BK199.out 0, bc BK199.out 1, bc BK199.out 2, bc BK199.out 3, bc BK199.out 4, bc BK199.out 5⟩ (fun hHeld => ?_)
  clear hK K
  refine norm_ (a' := ?_) ?_ ?_
  rotate_left
  ·show Act.put _ (some 13) _ = _
   simp only [Act.put, y1, y2, y3, i64_w, i32_w]
   rfl
  refine one_ (i := 3) (N := some 15) (bz 6 15) rfl rfl (by kernel_rfl) (by decide) (fun K hK => ?_)
  refine goes_ Try.func16 (by kernel_rfl) rfl #[.agg #[.int .i64 a1_0, .int .i64 a1_1, .int .i64 a1_2, .int .i64 a1_3, .int .i64 a1_4, .int .i64 a1_5]] (by rfl) rfl rfl s6_1 ?_
  with_reducible refine (laws_toShip.calls a1_0 a1_1 a1_2 a1_3 a1_4 a1_5 t219 t220 t221 t222 t223 t224 _ A7.out).mono ?_
  rintro e w28 ⟨rfl, hb⟩
  refine ⟨_, rfl, ?_⟩
  have n0_ := Aside0.mk (bb (zk BK198.out) hb)
  have n1_ := Aside0.mk (bb (zk BK199.out) hb)
  have n2_ := Aside0.mk (below_step s6_0 hb)
  clear BK198 BK199 HB
  have BK198 := n0_
  have BK199 := n1_
  have HB := n2_
  clear n0_ n1_ n2_
  (try clear hb)
  (try clear hb2)
  (try clear hk)
  (try clear hi)
  refine hK.out _ _ ⟨bc BK198.out 0, bc BK198.out 1, bc BK198.out 2, bc BK198.out 3, bc BK198.out 4, bc BK198.out 5, bc BK199.out 0, bc BK199.out 1, bc BK199.out 2, bc BK199.out 3, bc BK199.out 4, bc BK199.out 5⟩ (fun hHeld => ?_)
  clear hK K
  refine norm_ (a' := ?_) ?_ ?_
  rotate_left
  ·show Act.put _ (some 15) _ = _
   simp only [Act.put, y1, y2, y3, i64_w, i32_w]
   rfl
  refine one_ (i := 4) (N := some 16) (bz 6 31) rfl rfl (by kernel_rfl) (by decide) (fun K hK => ?_)
  refine goes_ Try.func31 (by kernel_rfl) rfl #[.agg #[.int .i64 t213, .int .i64 t214, .int .i64 t215, .int .i64 t216, .int .i64 t217, .int .i64 t218], .agg #[.int .i64 t219, .int .i64 t220, .int .i64 t221, .int .i64 t222, .int .i64 t223, .int .i64 t224]] (by rfl) rfl rfl s6_1 ?_
  with_reducible refine (impl_HeadOn.calls k t213 t214 t215 t216 t217 t218 t219 t220 t221 t222 t223 t224 t225 _ A8.out).mono ?_
  rintro e w29 ⟨rfl, hb⟩
  refine ⟨_, rfl, ?_⟩
  have n0_ := Aside0.mk (bb (zk BK198.out) hb)
  have n1_ := Aside0.mk (bb (zk BK199.out) hb)
  have n2_ := Aside0.mk (below_step s6_0 hb)
  clear BK198 BK199 HB
  have BK198 := n0_
  have BK199 := n1_
  have HB := n2_
  clear n0_ n1_ n2_
  (try clear hb)
  (try clear hb2)
  (try clear hk)
  (try clear hi)
  refine hK.out _ _ ⟨bc BK198.out 0, bc BK198.out 1, bc BK198.out 2, bc BK198.out 3, bc BK198.out 4, bc BK198.out 5, bc BK199.out 0, bc BK199.out 1, bc BK199.out 2, bc BK199.out 3, bc BK199.out 4, bc BK199.out 5⟩ (fun hHeld => ?_)
  clear hK K
  refine norm_ (a' := ?_) ?_ ?_
  rotate_left
  ·show Act.put _ (some 16) _ = _
   simp only [Act.put, y1, y2, y3, i64_w, i32_w]
   rfl
  refine pure_ (i := 5) (N := some 6) (v := ?_) (a' := ?_) (bz 6 63) rfl rfl (by kernel_rfl) (fun _ _ _ h => h) (Or.inl ⟨by rfl, ?_⟩) ?_ ?_
  rotate_left
  ·intro w'
   go_simp
   with_reducible rfl
  rotate_left
  ·simp only [Act.put, y1, y2, y3, i64_w, i32_w]
   rfl
  refine done_ (by kernel_rfl) ?_
  try go_wp2
  go_ret
  exact ⟨by first | rfl | (simp [errW_none, errW_some] <;> rfl) | (simp [*, errW_none, errW_some] <;> rfl), by repeat (first | (with_reducible first | exact HB.out | apply below_alloc | apply pw_below_drewN | apply below_drew1 | refine below_set ?_ GE198.out | refine below_set ?_ GE199.out) | exact HB.out)⟩

end Go.Proofs.Ytfbokdbaondjdaa.PFnExactHeadOn
