import Derived.Test.YtfbokdbaondjdaaBFnExactClosest2
import Derived.Test.YtfbokdbaondjdaaBFnExactClosest3
import Derived.Test.YtfbokdbaondjdaaBFnExactClosest1
import Derived.Test.YtfbokdbaondjdaaBFnExactClosest5
import Derived.Test.YtfbokdbaondjdaaBFnExactClosest0
import Derived.ProofKit
import Derived.Deep.Slices
import Derived.SizedLaws
import Derived.Laws.Cover2
-- printed for this claim out of the translation
namespace Go.Proofs.Ytfbokdbaondjdaa.PV1
open Go.RowKit Go.Proofs.YtfbokdbaondjdaaW.PrintWords Go.Proofs.YtfbokdbaondjdaaW.PrintLast Go.Proofs.YtfbokdbaondjdaaW.PrintMore Go.Proofs.Ytfbokdbaondjdaa.Cz Go.Proofs.Ytfbokdbaondjdaa.Cz
attribute [local go_sem] max2_int min2_int max_two min_two max_three min_three max_four min_four
set_option linter.unusedVariables false
set_option linter.unusedSimpArgs false

theorem s6_0 {p : Prop} (h : p := by repeat (first | (with_reducible first | exact HB.out | apply below_alloc | apply pw_below_drewN | apply below_drew1 | refine below_set ?_ GE188.out | refine below_set ?_ GE189.out | refine below_set ?_ GE194.out) | exact HB.out)) : p := h
theorem s6_1 {p : Prop} (h : p := by repeat (first | (with_reducible first | exact HB.out | apply below_alloc | apply pw_below_drewN | apply below_drew1 | refine below_set ?_ GE188.out | refine below_set ?_ GE189.out) | exact HB.out)) : p := h
theorem s6_2 {p : Prop} (h : p := by (try simp only [List.map_toArray, List.map_cons, List.map_nil]); first | done | rfl | (simp only [List.length_drop, List.length_take]; rfl)) : p := h
theorem s6_3 {p : Prop} (h : p := by first | rfl | (simp; done) | (simp [*]; done)) : p := h
set_option maxRecDepth 100000 in
theorem t6_0 {p : Prop} (h : p := by
 simp only [Act.put, y1, y2, y3, i64_w, i32_w]
 rfl) : p := h
set_option maxRecDepth 100000 in
theorem t6_1 {p : Prop} (h : p := by
 rintro w' ⟨s0, s1, s2, s3, s4, s5, s6, s7, s8, s9, s10, s11, s12, s13⟩
 go_simp
 with_reducible rfl) : p := h
/-! ### spec_Duty: function 45 -/
mutual
def spec_Duty.j0 : Nat → Bool → Int → Int → Int → Int → Int → Int → Int → Int → Int → Int → Int → Int → Option (Int)
 | 0, _, _, _, _, _, _, _, _, _, _, _, _, _ => none
 | k + 1, x15, x189000, x189001, x189002, x189003, x189004, x189005, x190000, x190001, x190002, x190003, x190004, x190005 => if x15 = true then (some 4) else ((spec_l8Bearing.f x189000 x189001 x189002 x189003 x189004 x189005 x190000 x190001 x190002 x190003 x190004 x190005).bind fun bt192 => ((spec_l8Diff.f x189000 x189001 x189002 x189003 x189004 x189005 x190000 x190001 x190002 x190003 x190004 x190005).bind fun bt195 => ((spec_l8Dot.f bt192.1 bt192.2 bt195.1 bt195.2).bind fun t197 => (if t197 ≥ 0 then (some 0) else ((spec_Behind.f k x189000 x189001 x189002 x189003 x189004 x189005 x190000 x190001 x190002 x190003 x190004 x190005).bind fun t198 => ((spec_Behind.f k x190000 x190001 x190002 x190003 x190004 x190005 x189000 x189001 x189002 x189003 x189004 x189005).bind fun t199 => (if t198 = true then (spec_Duty.j1 k t198 t199 (!t199) x189000 x189001 x189002 x189003 x189004 x189005 x190000 x190001 x190002 x190003 x190004 x190005) else (spec_Duty.j1 k t198 t199 false x189000 x189001 x189002 x189003 x189004 x189005 x190000 x190001 x190002 x190003 x190004 x190005))))))))
def spec_Duty.j3 : Nat → Int → Int → Int → Int → Int → Int → Int → Int → Int → Int → Int → Int → Option (Int)
 | 0, _, _, _, _, _, _, _, _, _, _, _, _ => none
 | k + 1, x189000, x189001, x189002, x189003, x189004, x189005, x190000, x190001, x190002, x190003, x190004, x190005 => (spec_l8Right.f x189000 x189001 x189002 x189003 x189004 x189005 x190000 x190001 x190002 x190003 x190004 x190005).bind fun t201 => ((spec_l8Right.f x190000 x190001 x190002 x190003 x190004 x190005 x189000 x189001 x189002 x189003 x189004 x189005).bind fun t202 => (if t201 = true then (spec_Duty.j4 k t201 t202 (!t202) x189000 x189001 x189002 x189003 x189004 x189005 x190000 x190001 x190002 x190003 x190004 x190005) else (spec_Duty.j4 k t201 t202 false x189000 x189001 x189002 x189003 x189004 x189005 x190000 x190001 x190002 x190003 x190004 x190005)))
def spec_Duty.j4 : Nat → Bool → Bool → Bool → Int → Int → Int → Int → Int → Int → Int → Int → Int → Int → Int → Int → Option (Int)
 | 0, _, _, _, _, _, _, _, _, _, _, _, _, _, _, _ => none
 | k + 1, x6, x7, x70, x189000, x189001, x189002, x189003, x189004, x189005, x190000, x190001, x190002, x190003, x190004, x190005 => if x70 = true then (some 2) else (if x7 = true then (spec_Duty.j5 k (!x6) x189000 x189001 x189002 x189003 x189004 x189005 x190000 x190001 x190002 x190003 x190004 x190005) else (spec_Duty.j5 k false x189000 x189001 x189002 x189003 x189004 x189005 x190000 x190001 x190002 x190003 x190004 x190005))
def spec_Duty.j5 : Nat → Bool → Int → Int → Int → Int → Int → Int → Int → Int → Int → Int → Int → Int → Option (Int)
 | 0, _, _, _, _, _, _, _, _, _, _, _, _, _ => none
 | k + 1, x76, x189000, x189001, x189002, x189003, x189004, x189005, x190000, x190001, x190002, x190003, x190004, x190005 => if x76 = true then (some 1) else (if x189005 < x190005 then (some 2) else (if x189005 > x190005 then (some 1) else (some 3)))
def spec_Duty.j1 : Nat → Bool → Bool → Bool → Int → Int → Int → Int → Int → Int → Int → Int → Int → Int → Int → Int → Option (Int)
 | 0, _, _, _, _, _, _, _, _, _, _, _, _, _, _, _ => none
 | k + 1, x6, x7, x31, x189000, x189001, x189002, x189003, x189004, x189005, x190000, x190001, x190002, x190003, x190004, x190005 => if x31 = true then (some 2) else (if x7 = true then (spec_Duty.j2 k (!x6) x189000 x189001 x189002 x189003 x189004 x189005 x190000 x190001 x190002 x190003 x190004 x190005) else (spec_Duty.j2 k false x189000 x189001 x189002 x189003 x189004 x189005 x190000 x190001 x190002 x190003 x190004 x190005))
def spec_Duty.j2 : Nat → Bool → Int → Int → Int → Int → Int → Int → Int → Int → Int → Int → Int → Int → Option (Int)
 | 0, _, _, _, _, _, _, _, _, _, _, _, _, _ => none
 | k + 1, x37, x189000, x189001, x189002, x189003, x189004, x189005, x190000, x190001, x190002, x190003, x190004, x190005 => if x37 = true then (some 1) else (if x189004 < x190004 then (some 2) else (if x189004 > x190004 then (some 1) else ((spec_HeadOn.f k x189000 x189001 x189002 x189003 x189004 x189005 x190000 x190001 x190002 x190003 x190004 x190005).bind fun t200 => (if t200 = true then (if x189004 = 1 then (some 3) else (spec_Duty.j3 k x189000 x189001 x189002 x189003 x189004 x189005 x190000 x190001 x190002 x190003 x190004 x190005)) else (spec_Duty.j3 k x189000 x189001 x189002 x189003 x189004 x189005 x190000 x190001 x190002 x190003 x190004 x190005)))))
end
def spec_Duty.f (k : Nat) (a0_0 : Int) (a0_1 : Int) (a0_2 : Int) (a0_3 : Int) (a0_4 : Int) (a0_5 : Int) (a1_0 : Int) (a1_1 : Int) (a1_2 : Int) (a1_3 : Int) (a1_4 : Int) (a1_5 : Int) : Option (Int) := (spec_ShipOk.f a0_0 a0_1 a0_2 a0_3 a0_4 a0_5).bind fun t190 => (if t190 = true then ((spec_ShipOk.f a1_0 a1_1 a1_2 a1_3 a1_4 a1_5).bind fun t191 => (spec_Duty.j0 k (!t191) a0_0 a0_1 a0_2 a0_3 a0_4 a0_5 a1_0 a1_1 a1_2 a1_3 a1_4 a1_5)) else (spec_Duty.j0 k true a0_0 a0_1 a0_2 a0_3 a0_4 a0_5 a1_0 a1_1 a1_2 a1_3 a1_4 a1_5))
theorem spec_Duty.mono_l : ∀ k, (∀ y0 y1 y2 y3 y4 y5 y6 y7 y8 y9 y10 y11 y12, LeO (spec_Duty.j0 k y0 y1 y2 y3 y4 y5 y6 y7 y8 y9 y10 y11 y12) (spec_Duty.j0 (k + 1) y0 y1 y2 y3 y4 y5 y6 y7 y8 y9 y10 y11 y12)) ∧ (∀ y0 y1 y2 y3 y4 y5 y6 y7 y8 y9 y10 y11, LeO (spec_Duty.j3 k y0 y1 y2 y3 y4 y5 y6 y7 y8 y9 y10 y11) (spec_Duty.j3 (k + 1) y0 y1 y2 y3 y4 y5 y6 y7 y8 y9 y10 y11)) ∧ (∀ y0 y1 y2 y3 y4 y5 y6 y7 y8 y9 y10 y11 y12 y13 y14, LeO (spec_Duty.j4 k y0 y1 y2 y3 y4 y5 y6 y7 y8 y9 y10 y11 y12 y13 y14) (spec_Duty.j4 (k + 1) y0 y1 y2 y3 y4 y5 y6 y7 y8 y9 y10 y11 y12 y13 y14)) ∧ (∀ y0 y1 y2 y3 y4 y5 y6 y7 y8 y9 y10 y11 y12, LeO (spec_Duty.j5 k y0 y1 y2 y3 y4 y5 y6 y7 y8 y9 y10 y11 y12) (spec_Duty.j5 (k + 1) y0 y1 y2 y3 y4 y5 y6 y7 y8 y9 y10 y11 y12)) ∧ (∀ y0 y1 y2 y3 y4 y5 y6 y7 y8 y9 y10 y11 y12 y13 y14, LeO (spec_Duty.j1 k y0 y1 y2 y3 y4 y5 y6 y7 y8 y9 y10 y11 y12 y13 y14) (spec_Duty.j1 (k + 1) y0 y1 y2 y3 y4 y5 y6 y7 y8 y9 y10 y11 y12 y13 y14)) ∧ (∀ y0 y1 y2 y3 y4 y5 y6 y7 y8 y9 y10 y11 y12, LeO (spec_Duty.j2 k y0 y1 y2 y3 y4 y5 y6 y7 y8 y9 y10 y11 y12) (spec_Duty.j2 (k + 1) y0 y1 y2 y3 y4 y5 y6 y7 y8 y9 y10 y11 y12))
 | 0 => ⟨fun _ _ _ _ _ _ _ _ _ _ _ _ _ r h => by simp [spec_Duty.j0] at h, fun _ _ _ _ _ _ _ _ _ _ _ _ r h => by simp [spec_Duty.j3] at h, fun _ _ _ _ _ _ _ _ _ _ _ _ _ _ _ r h => by simp [spec_Duty.j4] at h, fun _ _ _ _ _ _ _ _ _ _ _ _ _ r h => by simp [spec_Duty.j5] at h, fun _ _ _ _ _ _ _ _ _ _ _ _ _ _ _ r h => by simp [spec_Duty.j1] at h, fun _ _ _ _ _ _ _ _ _ _ _ _ _ r h => by simp [spec_Duty.j2] at h⟩
 | k + 1 => by
  obtain ⟨ih0, ih1, ih2, ih3, ih4, ih5⟩ := spec_Duty.mono_l k
  refine ⟨?_, ?_, ?_, ?_, ?_, ?_⟩
  ·intro y0 y1 y2 y3 y4 y5 y6 y7 y8 y9 y10 y11 y12
   unfold spec_Duty.j0
   repeat' first
   | (with_reducible exact ih0 _ _ _ _ _ _ _ _ _ _ _ _ _)
   | (with_reducible exact ih1 _ _ _ _ _ _ _ _ _ _ _ _)
   | (with_reducible exact ih2 _ _ _ _ _ _ _ _ _ _ _ _ _ _ _)
   | (with_reducible exact ih3 _ _ _ _ _ _ _ _ _ _ _ _ _)
   | (with_reducible exact ih4 _ _ _ _ _ _ _ _ _ _ _ _ _ _ _)
   | (with_reducible exact ih5 _ _ _ _ _ _ _ _ _ _ _ _ _)
   | (with_reducible exact spec_Behind.mono _ _ _ _ _ _ _ _ _ _ _ _ _)
   | (with_reducible exact spec_HeadOn.mono _ _ _ _ _ _ _ _ _ _ _ _ _)
   | (with_reducible exact LeO.refl _)
   | (with_reducible exact LeO.none _)
   | (with_reducible refine LeO.ite ?_ ?_)
   | (with_reducible refine LeO.bind ?_ (fun _ => ?_))
   | exact ih0 _ _ _ _ _ _ _ _ _ _ _ _ _
   | exact ih1 _ _ _ _ _ _ _ _ _ _ _ _
   | exact ih2 _ _ _ _ _ _ _ _ _ _ _ _ _ _ _
   | exact ih3 _ _ _ _ _ _ _ _ _ _ _ _ _
   | exact ih4 _ _ _ _ _ _ _ _ _ _ _ _ _ _ _
   | exact ih5 _ _ _ _ _ _ _ _ _ _ _ _ _
   | exact spec_Behind.mono _ _ _ _ _ _ _ _ _ _ _ _ _
   | exact spec_HeadOn.mono _ _ _ _ _ _ _ _ _ _ _ _ _
   | exact LeO.none _
   | refine LeO.ite ?_ ?_
   | refine LeO.bind ?_ (fun _ => ?_)
  ·intro y0 y1 y2 y3 y4 y5 y6 y7 y8 y9 y10 y11
   unfold spec_Duty.j3
   repeat' first
   | (with_reducible exact ih0 _ _ _ _ _ _ _ _ _ _ _ _ _)
   | (with_reducible exact ih1 _ _ _ _ _ _ _ _ _ _ _ _)
   | (with_reducible exact ih2 _ _ _ _ _ _ _ _ _ _ _ _ _ _ _)
   | (with_reducible exact ih3 _ _ _ _ _ _ _ _ _ _ _ _ _)
   | (with_reducible exact ih4 _ _ _ _ _ _ _ _ _ _ _ _ _ _ _)
   | (with_reducible exact ih5 _ _ _ _ _ _ _ _ _ _ _ _ _)
   | (with_reducible exact spec_Behind.mono _ _ _ _ _ _ _ _ _ _ _ _ _)
   | (with_reducible exact spec_HeadOn.mono _ _ _ _ _ _ _ _ _ _ _ _ _)
   | (with_reducible exact LeO.refl _)
   | (with_reducible exact LeO.none _)
   | (with_reducible refine LeO.ite ?_ ?_)
   | (with_reducible refine LeO.bind ?_ (fun _ => ?_))
   | exact ih0 _ _ _ _ _ _ _ _ _ _ _ _ _
   | exact ih1 _ _ _ _ _ _ _ _ _ _ _ _
   | exact ih2 _ _ _ _ _ _ _ _ _ _ _ _ _ _ _
   | exact ih3 _ _ _ _ _ _ _ _ _ _ _ _ _
   | exact ih4 _ _ _ _ _ _ _ _ _ _ _ _ _ _ _
   | exact ih5 _ _ _ _ _ _ _ _ _ _ _ _ _
   | exact spec_Behind.mono _ _ _ _ _ _ _ _ _ _ _ _ _
   | exact spec_HeadOn.mono _ _ _ _ _ _ _ _ _ _ _ _ _
   | exact LeO.none _
   | refine LeO.ite ?_ ?_
   | refine LeO.bind ?_ (fun _ => ?_)
  ·intro y0 y1 y2 y3 y4 y5 y6 y7 y8 y9 y10 y11 y12 y13 y14
   unfold spec_Duty.j4
   repeat' first
   | (with_reducible exact ih0 _ _ _ _ _ _ _ _ _ _ _ _ _)
   | (with_reducible exact ih1 _ _ _ _ _ _ _ _ _ _ _ _)
   | (with_reducible exact ih2 _ _ _ _ _ _ _ _ _ _ _ _ _ _ _)
   | (with_reducible exact ih3 _ _ _ _ _ _ _ _ _ _ _ _ _)
   | (with_reducible exact ih4 _ _ _ _ _ _ _ _ _ _ _ _ _ _ _)
   | (with_reducible exact ih5 _ _ _ _ _ _ _ _ _ _ _ _ _)
   | (with_reducible exact spec_Behind.mono _ _ _ _ _ _ _ _ _ _ _ _ _)
   | (with_reducible exact spec_HeadOn.mono _ _ _ _ _ _ _ _ _ _ _ _ _)
   | (with_reducible exact LeO.refl _)
   | (with_reducible exact LeO.none _)
   | (with_reducible refine LeO.ite ?_ ?_)
   | (with_reducible refine LeO.bind ?_ (fun _ => ?_))
   | exact ih0 _ _ _ _ _ _ _ _ _ _ _ _ _
   | exact ih1 _ _ _ _ _ _ _ _ _ _ _ _
   | exact ih2 _ _ _ _ _ _ _ _ _ _ _ _ _ _ _
   | exact ih3 _ _ _ _ _ _ _ _ _ _ _ _ _
   | exact ih4 _ _ _ _ _ _ _ _ _ _ _ _ _ _ _
   | exact ih5 _ _ _ _ _ _ _ _ _ _ _ _ _
   | exact spec_Behind.mono _ _ _ _ _ _ _ _ _ _ _ _ _
   | exact spec_HeadOn.mono _ _ _ _ _ _ _ _ _ _ _ _ _
   | exact LeO.none _
   | refine LeO.ite ?_ ?_
   | refine LeO.bind ?_ (fun _ => ?_)
  ·intro y0 y1 y2 y3 y4 y5 y6 y7 y8 y9 y10 y11 y12
   unfold spec_Duty.j5
   repeat' first
   | (with_reducible exact ih0 _ _ _ _ _ _ _ _ _ _ _ _ _)
   | (with_reducible exact ih1 _ _ _ _ _ _ _ _ _ _ _ _)
   | (with_reducible exact ih2 _ _ _ _ _ _ _ _ _ _ _ _ _ _ _)
   | (with_reducible exact ih3 _ _ _ _ _ _ _ _ _ _ _ _ _)
   | (with_reducible exact ih4 _ _ _ _ _ _ _ _ _ _ _ _ _ _ _)
   | (with_reducible exact ih5 _ _ _ _ _ _ _ _ _ _ _ _ _)
   | (with_reducible exact spec_Behind.mono _ _ _ _ _ _ _ _ _ _ _ _ _)
   | (with_reducible exact spec_HeadOn.mono _ _ _ _ _ _ _ _ _ _ _ _ _)
   | (with_reducible exact LeO.refl _)
   | (with_reducible exact LeO.none _)
   | (with_reducible refine LeO.ite ?_ ?_)
   | (with_reducible refine LeO.bind ?_ (fun _ => ?_))
   | exact ih0 _ _ _ _ _ _ _ _ _ _ _ _ _
   | exact ih1 _ _ _ _ _ _ _ _ _ _ _ _
   | exact ih2 _ _ _ _ _ _ _ _ _ _ _ _ _ _ _
   | exact ih3 _ _ _ _ _ _ _ _ _ _ _ _ _
   | exact ih4 _ _ _ _ _ _ _ _ _ _ _ _ _ _ _
   | exact ih5 _ _ _ _ _ _ _ _ _ _ _ _ _
   | exact spec_Behind.mono _ _ _ _ _ _ _ _ _ _ _ _ _
   | exact spec_HeadOn.mono _ _ _ _ _ _ _ _ _ _ _ _ _
   | exact LeO.none _
   | refine LeO.ite ?_ ?_
   | refine LeO.bind ?_ (fun _ => ?_)
  ·intro y0 y1 y2 y3 y4 y5 y6 y7 y8 y9 y10 y11 y12 y13 y14
   unfold spec_Duty.j1
   repeat' first
   | (with_reducible exact ih0 _ _ _ _ _ _ _ _ _ _ _ _ _)
   | (with_reducible exact ih1 _ _ _ _ _ _ _ _ _ _ _ _)
   | (with_reducible exact ih2 _ _ _ _ _ _ _ _ _ _ _ _ _ _ _)
   | (with_reducible exact ih3 _ _ _ _ _ _ _ _ _ _ _ _ _)
   | (with_reducible exact ih4 _ _ _ _ _ _ _ _ _ _ _ _ _ _ _)
   | (with_reducible exact ih5 _ _ _ _ _ _ _ _ _ _ _ _ _)
   | (with_reducible exact spec_Behind.mono _ _ _ _ _ _ _ _ _ _ _ _ _)
   | (with_reducible exact spec_HeadOn.mono _ _ _ _ _ _ _ _ _ _ _ _ _)
   | (with_reducible exact LeO.refl _)
   | (with_reducible exact LeO.none _)
   | (with_reducible refine LeO.ite ?_ ?_)
   | (with_reducible refine LeO.bind ?_ (fun _ => ?_))
   | exact ih0 _ _ _ _ _ _ _ _ _ _ _ _ _
   | exact ih1 _ _ _ _ _ _ _ _ _ _ _ _
   | exact ih2 _ _ _ _ _ _ _ _ _ _ _ _ _ _ _
   | exact ih3 _ _ _ _ _ _ _ _ _ _ _ _ _
   | exact ih4 _ _ _ _ _ _ _ _ _ _ _ _ _ _ _
   | exact ih5 _ _ _ _ _ _ _ _ _ _ _ _ _
   | exact spec_Behind.mono _ _ _ _ _ _ _ _ _ _ _ _ _
   | exact spec_HeadOn.mono _ _ _ _ _ _ _ _ _ _ _ _ _
   | exact LeO.none _
   | refine LeO.ite ?_ ?_
   | refine LeO.bind ?_ (fun _ => ?_)
  ·intro y0 y1 y2 y3 y4 y5 y6 y7 y8 y9 y10 y11 y12
   unfold spec_Duty.j2
   repeat' first
   | (with_reducible exact ih0 _ _ _ _ _ _ _ _ _ _ _ _ _)
   | (with_reducible exact ih1 _ _ _ _ _ _ _ _ _ _ _ _)
   | (with_reducible exact ih2 _ _ _ _ _ _ _ _ _ _ _ _ _ _ _)
   | (with_reducible exact ih3 _ _ _ _ _ _ _ _ _ _ _ _ _)
   | (with_reducible exact ih4 _ _ _ _ _ _ _ _ _ _ _ _ _ _ _)
   | (with_reducible exact ih5 _ _ _ _ _ _ _ _ _ _ _ _ _)
   | (with_reducible exact spec_Behind.mono _ _ _ _ _ _ _ _ _ _ _ _ _)
   | (with_reducible exact spec_HeadOn.mono _ _ _ _ _ _ _ _ _ _ _ _ _)
   | (with_reducible exact LeO.refl _)
   | (with_reducible exact LeO.none _)
   | (with_reducible refine LeO.ite ?_ ?_)
   | (with_reducible refine LeO.bind ?_ (fun _ => ?_))
   | exact ih0 _ _ _ _ _ _ _ _ _ _ _ _ _
   | exact ih1 _ _ _ _ _ _ _ _ _ _ _ _
   | exact ih2 _ _ _ _ _ _ _ _ _ _ _ _ _ _ _
   | exact ih3 _ _ _ _ _ _ _ _ _ _ _ _ _
   | exact ih4 _ _ _ _ _ _ _ _ _ _ _ _ _ _ _
   | exact ih5 _ _ _ _ _ _ _ _ _ _ _ _ _
   | exact spec_Behind.mono _ _ _ _ _ _ _ _ _ _ _ _ _
   | exact spec_HeadOn.mono _ _ _ _ _ _ _ _ _ _ _ _ _
   | exact LeO.none _
   | refine LeO.ite ?_ ?_
   | refine LeO.bind ?_ (fun _ => ?_)
theorem spec_Duty.mono : ∀ a0 a1 a2 a3 a4 a5 a6 a7 a8 a9 a10 a11 k, LeO (spec_Duty.f k a0 a1 a2 a3 a4 a5 a6 a7 a8 a9 a10 a11) (spec_Duty.f (k + 1) a0 a1 a2 a3 a4 a5 a6 a7 a8 a9 a10 a11) := by
 intro a0 a1 a2 a3 a4 a5 a6 a7 a8 a9 a10 a11 k
 obtain ⟨ih0, ih1, ih2, ih3, ih4, ih5⟩ := spec_Duty.mono_l k
 unfold spec_Duty.f
 repeat' first
   | (with_reducible exact ih0 _ _ _ _ _ _ _ _ _ _ _ _ _)
   | (with_reducible exact ih1 _ _ _ _ _ _ _ _ _ _ _ _)
   | (with_reducible exact ih2 _ _ _ _ _ _ _ _ _ _ _ _ _ _ _)
   | (with_reducible exact ih3 _ _ _ _ _ _ _ _ _ _ _ _ _)
   | (with_reducible exact ih4 _ _ _ _ _ _ _ _ _ _ _ _ _ _ _)
   | (with_reducible exact ih5 _ _ _ _ _ _ _ _ _ _ _ _ _)
   | (with_reducible exact spec_Behind.mono _ _ _ _ _ _ _ _ _ _ _ _ _)
   | (with_reducible exact spec_HeadOn.mono _ _ _ _ _ _ _ _ _ _ _ _ _)
   | (with_reducible exact LeO.refl _)
   | (with_reducible exact LeO.none _)
   | (with_reducible refine LeO.ite ?_ ?_)
   | (with_reducible refine LeO.bind ?_ (fun _ => ?_))
   | exact ih0 _ _ _ _ _ _ _ _ _ _ _ _ _
   | exact ih1 _ _ _ _ _ _ _ _ _ _ _ _
   | exact ih2 _ _ _ _ _ _ _ _ _ _ _ _ _ _ _
   | exact ih3 _ _ _ _ _ _ _ _ _ _ _ _ _
   | exact ih4 _ _ _ _ _ _ _ _ _ _ _ _ _ _ _
   | exact ih5 _ _ _ _ _ _ _ _ _ _ _ _ _
   | exact spec_Behind.mono _ _ _ _ _ _ _ _ _ _ _ _ _
   | exact spec_HeadOn.mono _ _ _ _ _ _ _ _ _ _ _ _ _
   | exact LeO.none _
   | refine LeO.ite ?_ ?_
   | refine LeO.bind ?_ (fun _ => ?_)
def spec_Duty.T6 : Bool × List (List Nat × List Nat) := (true, [([], []), ([], []), ([0, 1], [0, 1]), ([], []), ([], []), ([3, 4, 2], [3, 4]), ([2, 5, 0, 1, 2], [2]), ([5, 6, 0, 1, 2, 3, 4, 5, 6], [5])])
def spec_Duty.B6 : List Nat := [0, 0, 3, 0, 0, 31, 63, 127]
theorem spec_Duty.tab6 : rtab .any (opsOf Try.f45 6) = spec_Duty.T6 := by kernel_rfl
theorem spec_Duty.bits6 : waitsOk spec_Duty.T6.2 spec_Duty.B6 = true := by kernel_rfl
set_option maxHeartbeats 8000000 in
set_option maxRecDepth 100000 in
theorem spec_Duty.calls (k : Nat) (a0_0 : Int) (a0_1 : Int) (a0_2 : Int) (a0_3 : Int) (a0_4 : Int) (a0_5 : Int) (a1_0 : Int) (a1_1 : Int) (a1_2 : Int) (a1_3 : Int) (a1_4 : Int) (a1_5 : Int) (r : Int) (w : World) (h : spec_Duty.f k a0_0 a0_1 a0_2 a0_3 a0_4 a0_5 a1_0 a1_1 a1_2 a1_3 a1_4 a1_5 = some r) :
  Calls Try.prog 45 #[.agg #[.int .i64 a0_0, .int .i64 a0_1, .int .i64 a0_2, .int .i64 a0_3, .int .i64 a0_4, .int .i64 a0_5], .agg #[.int .i64 a1_0, .int .i64 a1_1, .int .i64 a1_2, .int .i64 a1_3, .int .i64 a1_4, .int .i64 a1_5]] w fun e w' => e = .returned (.int .i64 r) ∧ Below w.heap.size w w' := by
 have hu25 := Try.underlying25
 have hu83 := Try.underlying83
 have HB := Aside0.mk (Below.refl w.heap.size w)
 have H : ((spec_ShipOk.f a0_0 a0_1 a0_2 a0_3 a0_4 a0_5).bind fun t190 => (if t190 = true then ((spec_ShipOk.f a1_0 a1_1 a1_2 a1_3 a1_4 a1_5).bind fun t191 => (spec_Duty.j0 k (!t191) a0_0 a0_1 a0_2 a0_3 a0_4 a0_5 a1_0 a1_1 a1_2 a1_3 a1_4 a1_5)) else (spec_Duty.j0 k true a0_0 a0_1 a0_2 a0_3 a0_4 a0_5 a1_0 a1_1 a1_2 a1_3 a1_4 a1_5))) = some r := h
 clear h
 have HC3 := Aside0.mk H
 clear H
 go_enter Try.func45, Try.ntmps45
 go_upto_region 1 with (first | ((with_reducible refine gate_dst (N := 2) rfl ?_); refine box_event ?hg (N := 2) ?hd (cs := #[.int .i64 a0_0, .int .i64 a0_1, .int .i64 a0_2, .int .i64 a0_3, .int .i64 a0_4, .int .i64 a0_5]) (t := 25) ?hr ?_; (case hd => rfl); (case hg => rfl); (case hr => first | (go_simp; done) | (go_simp; rfl)); intro gb188 hg w1 hbox hb; have n0_ := Aside0.mk (below_step (by repeat (first | (with_reducible first | exact HB.out | apply below_alloc | apply pw_below_drewN | apply below_drew1) | exact HB.out)) hb); have n1_ := Aside0.mk (hbox); have n2_ := Aside0.mk (ns hg (by repeat (first | (with_reducible first | exact HB.out | apply below_alloc | apply pw_below_drewN | apply below_drew1) | exact HB.out)) : w.heap.size ≤ gb188); have n3_ := Aside0.mk (ns hg (by repeat (first | (with_reducible first | exact HB.out | apply below_alloc | apply pw_below_drewN | apply below_drew1) | exact HB.out)) : w.heap.size ≤ gb188); clear HB; have HB := n0_; have BK188 := n1_; have GW188 := n2_; have GE188 := n3_; clear n0_ n1_ n2_ n3_; clear hb hbox hg) | ((with_reducible refine gate_dst (N := 3) rfl ?_); refine box_event ?hg (N := 3) ?hd (cs := #[.int .i64 a1_0, .int .i64 a1_1, .int .i64 a1_2, .int .i64 a1_3, .int .i64 a1_4, .int .i64 a1_5]) (t := 25) ?hr ?_; (case hd => rfl); (case hg => rfl); (case hr => first | (go_simp; done) | (go_simp; rfl)); intro gb189 hg w2 hbox hb; have n0_ := Aside0.mk (bb (zk BK188.out) hb); have n1_ := Aside0.mk (below_step (by repeat (first | (with_reducible first | exact HB.out | apply below_alloc | apply pw_below_drewN | apply below_drew1 | refine below_set ?_ GE188.out) | exact HB.out)) hb); have n2_ := Aside0.mk (hbox); have n3_ := Aside0.mk (ns hg (by repeat (first | (with_reducible first | exact HB.out | apply below_alloc | apply pw_below_drewN | apply below_drew1 | refine below_set ?_ GE188.out) | exact HB.out)) : w.heap.size ≤ gb189); have n4_ := Aside0.mk (ns hg (by repeat (first | (with_reducible first | exact HB.out | apply below_alloc | apply pw_below_drewN | apply below_drew1 | refine below_set ?_ GE188.out) | exact HB.out)) : w.heap.size ≤ gb189); have n5_ := Aside0.mk ((nlt hg (zk BK188.out) : gb188 ≠ gb189)); have n6_ := Aside0.mk ((ngt hg (zk BK188.out) : gb189 ≠ gb188)); clear BK188; clear HB; have BK188 := n0_; have HB := n1_; have BK189 := n2_; have GW189 := n3_; have GE189 := n4_; have NB188_189 := n5_; have NB189_188 := n6_; clear n0_ n1_ n2_ n3_ n4_ n5_ n6_; clear hb hbox hg))
 (try simp only [Act.put, List.setIfInBounds_toArray, List.set_cons_zero, List.set_cons_succ])
 go_cut [15] (fun v15 wc => ∃ (kq : Nat) (x15_2 : Bool), v15 = .bool x15_2 ∧ Aside0 (spec_Duty.j0 kq x15_2 a0_0 a0_1 a0_2 a0_3 a0_4 a0_5 a1_0 a1_1 a1_2 a1_3 a1_4 a1_5 = some r) ∧ Aside0 (kq ≤ k) ∧ Aside0 (wc.heap[gb188]? = some (.cells #[.int .i64 a0_0, .int .i64 a0_1, .int .i64 a0_2, .int .i64 a0_3, .int .i64 a0_4, .int .i64 a0_5] 25 (0, 0))) ∧ Aside0 (wc.heap[gb189]? = some (.cells #[.int .i64 a1_0, .int .i64 a1_1, .int .i64 a1_2, .int .i64 a1_3, .int .i64 a1_4, .int .i64 a1_5] 25 (0, 0))) ∧ Aside0 (Below w.heap.size w wc))
 case first =>
  have H := HC3.out
  clear HC3
  replace H := Option.bind_eq_some_iff.mp H
  obtain ⟨t190, A60, H⟩ := H
  replace H : (if t190 = true then ((spec_ShipOk.f a1_0 a1_1 a1_2 a1_3 a1_4 a1_5).bind fun t191 => (spec_Duty.j0 k (!t191) a0_0 a0_1 a0_2 a0_3 a0_4 a0_5 a1_0 a1_1 a1_2 a1_3 a1_4 a1_5)) else (spec_Duty.j0 k true a0_0 a0_1 a0_2 a0_3 a0_4 a0_5 a1_0 a1_1 a1_2 a1_3 a1_4 a1_5)) = some r := H
  have A6 := Aside0.mk A60
  clear A60
  by_cases c7 : t190 = true
  ·subst c7
   have H1 : ((spec_ShipOk.f a1_0 a1_1 a1_2 a1_3 a1_4 a1_5).bind fun t191 => (spec_Duty.j0 k (!t191) a0_0 a0_1 a0_2 a0_3 a0_4 a0_5 a1_0 a1_1 a1_2 a1_3 a1_4 a1_5)) = some r := by rw [if_pos rfl] at H; exact H
   clear H
   have H := H1
   clear H1
   replace H := Option.bind_eq_some_iff.mp H
   obtain ⟨t191, A80, H⟩ := H
   replace H : (spec_Duty.j0 k (!t191) a0_0 a0_1 a0_2 a0_3 a0_4 a0_5 a1_0 a1_1 a1_2 a1_3 a1_4 a1_5) = some r := H
   have A8 := Aside0.mk A80
   clear A80
   have H' := Aside0.mk H
   clear H
   have hnb9 := NB188_189.out
   have hnc9 := NB189_188.out
   have hcz10_0 : w2.cell? ⟨gb188, 0, none⟩ = some (.int .i64 a0_0) := bc BK188.out 0
   have hcz10_1 : w2.cell? ⟨gb188, 1, none⟩ = some (.int .i64 a0_1) := bc BK188.out 1
   have hcz10_2 : w2.cell? ⟨gb188, 2, none⟩ = some (.int .i64 a0_2) := bc BK188.out 2
   have hcz10_3 : w2.cell? ⟨gb188, 3, none⟩ = some (.int .i64 a0_3) := bc BK188.out 3
   have hcz10_4 : w2.cell? ⟨gb188, 4, none⟩ = some (.int .i64 a0_4) := bc BK188.out 4
   have hcz10_5 : w2.cell? ⟨gb188, 5, none⟩ = some (.int .i64 a0_5) := bc BK188.out 5
   have hfz10_0 := blk_frozen BK188.out 0
   have hfz10_1 := blk_frozen BK188.out 1
   have hfz10_2 := blk_frozen BK188.out 2
   have hfz10_3 := blk_frozen BK188.out 3
   have hfz10_4 := blk_frozen BK188.out 4
   have hfz10_5 := blk_frozen BK188.out 5
   go_wp2_with (first | ((with_reducible refine gate_callee (f := 15) rfl ?_); refine goesL_ (some 9) rfl rfl Try.func15 (by kernel_rfl) rfl #[.agg #[.int .i64 a0_0, .int .i64 a0_1, .int .i64 a0_2, .int .i64 a0_3, .int .i64 a0_4, .int .i64 a0_5]] rfl s6_2 ?_; (with_reducible refine (spec_ShipOk.calls a0_0 a0_1 a0_2 a0_3 a0_4 a0_5 true _ A6.out).mono ?_); rintro e w3 ⟨rfl, hb⟩; refine ⟨_, rfl, ?_⟩; have n0_ := Aside0.mk (bb (zk BK188.out) hb); have n1_ := Aside0.mk (bb (zk BK189.out) hb); have n2_ := Aside0.mk (below_step s6_1 hb); clear BK188; clear BK189; clear HB; have BK188 := n0_; have BK189 := n1_; have HB := n2_; clear n0_ n1_ n2_; (try clear hb); (try clear hb2); (try clear hk); (try clear hi); have hcz12_0 : w3.cell? ⟨gb189, 0, none⟩ = some (.int .i64 a1_0) := bc BK189.out 0; have hcz12_1 : w3.cell? ⟨gb189, 1, none⟩ = some (.int .i64 a1_1) := bc BK189.out 1; have hcz12_2 : w3.cell? ⟨gb189, 2, none⟩ = some (.int .i64 a1_2) := bc BK189.out 2; have hcz12_3 : w3.cell? ⟨gb189, 3, none⟩ = some (.int .i64 a1_3) := bc BK189.out 3; have hcz12_4 : w3.cell? ⟨gb189, 4, none⟩ = some (.int .i64 a1_4) := bc BK189.out 4; have hcz12_5 : w3.cell? ⟨gb189, 5, none⟩ = some (.int .i64 a1_5) := bc BK189.out 5; have hfz12_0 := blk_frozen BK189.out 0; have hfz12_1 := blk_frozen BK189.out 1; have hfz12_2 := blk_frozen BK189.out 2; have hfz12_3 := blk_frozen BK189.out 3; have hfz12_4 := blk_frozen BK189.out 4; have hfz12_5 := blk_frozen BK189.out 5) | (go_at_call 15; (with_reducible refine (spec_ShipOk.calls a1_0 a1_1 a1_2 a1_3 a1_4 a1_5 t191 _ A8.out).mono ?_); rintro e w4 ⟨rfl, hb⟩; have n0_ := Aside0.mk (bb (zk BK188.out) hb); have n1_ := Aside0.mk (bb (zk BK189.out) hb); have n2_ := Aside0.mk (below_step s6_1 hb); clear BK188; clear BK189; clear HB; have BK188 := n0_; have BK189 := n1_; have HB := n2_; clear n0_ n1_ n2_; (try clear hb); (try clear hb2); (try clear hk); (try clear hi)))
   go_meet
   case rel => exact ⟨_, (!t191), s6_3, H', ⟨by first | omega | exact Nat.le_refl _⟩, ⟨by (with_reducible repeat (first | refine blk_drewN ?_ _ | refine blk_drew ?_ | refine blk_alloc ?_ _)); exact BK188.out⟩, ⟨by (with_reducible repeat (first | refine blk_drewN ?_ _ | refine blk_drew ?_ | refine blk_alloc ?_ _)); exact BK189.out⟩, ⟨by repeat (first | (with_reducible first | exact HB.out | apply below_alloc | apply pw_below_drewN | apply below_drew1 | refine below_set ?_ GE188.out | refine below_set ?_ GE189.out) | exact HB.out)⟩⟩
  ·replace c7 := Bool.eq_false_iff.mpr c7
   subst c7
   have H1 : (spec_Duty.j0 k true a0_0 a0_1 a0_2 a0_3 a0_4 a0_5 a1_0 a1_1 a1_2 a1_3 a1_4 a1_5) = some r := by rw [if_neg (show ¬ (false = true) by decide)] at H; exact H
   clear H
   have H := H1
   clear H1
   have H' := Aside0.mk H
   clear H
   have hnb14 := NB188_189.out
   have hnc14 := NB189_188.out
   have hcz15_0 : w2.cell? ⟨gb188, 0, none⟩ = some (.int .i64 a0_0) := bc BK188.out 0
   have hcz15_1 : w2.cell? ⟨gb188, 1, none⟩ = some (.int .i64 a0_1) := bc BK188.out 1
   have hcz15_2 : w2.cell? ⟨gb188, 2, none⟩ = some (.int .i64 a0_2) := bc BK188.out 2
   have hcz15_3 : w2.cell? ⟨gb188, 3, none⟩ = some (.int .i64 a0_3) := bc BK188.out 3
   have hcz15_4 : w2.cell? ⟨gb188, 4, none⟩ = some (.int .i64 a0_4) := bc BK188.out 4
   have hcz15_5 : w2.cell? ⟨gb188, 5, none⟩ = some (.int .i64 a0_5) := bc BK188.out 5
   have hfz15_0 := blk_frozen BK188.out 0
   have hfz15_1 := blk_frozen BK188.out 1
   have hfz15_2 := blk_frozen BK188.out 2
   have hfz15_3 := blk_frozen BK188.out 3
   have hfz15_4 := blk_frozen BK188.out 4
   have hfz15_5 := blk_frozen BK188.out 5
   go_wp2_with (first | ((with_reducible refine gate_callee (f := 15) rfl ?_); refine goesL_ (some 9) rfl rfl Try.func15 (by kernel_rfl) rfl #[.agg #[.int .i64 a0_0, .int .i64 a0_1, .int .i64 a0_2, .int .i64 a0_3, .int .i64 a0_4, .int .i64 a0_5]] rfl s6_2 ?_; (with_reducible refine (spec_ShipOk.calls a0_0 a0_1 a0_2 a0_3 a0_4 a0_5 false _ A6.out).mono ?_); rintro e w3 ⟨rfl, hb⟩; refine ⟨_, rfl, ?_⟩; have n0_ := Aside0.mk (bb (zk BK188.out) hb); have n1_ := Aside0.mk (bb (zk BK189.out) hb); have n2_ := Aside0.mk (below_step s6_1 hb); clear BK188; clear BK189; clear HB; have BK188 := n0_; have BK189 := n1_; have HB := n2_; clear n0_ n1_ n2_; (try clear hb); (try clear hb2); (try clear hk); (try clear hi)))
   go_meet
   case rel => exact ⟨_, (true), s6_3, H', ⟨by first | omega | exact Nat.le_refl _⟩, ⟨by (with_reducible repeat (first | refine blk_drewN ?_ _ | refine blk_drew ?_ | refine blk_alloc ?_ _)); exact BK188.out⟩, ⟨by (with_reducible repeat (first | refine blk_drewN ?_ _ | refine blk_drew ?_ | refine blk_alloc ?_ _)); exact BK189.out⟩, ⟨by repeat (first | (with_reducible first | exact HB.out | apply below_alloc | apply pw_below_drewN | apply below_drew1 | refine below_set ?_ GE188.out | refine below_set ?_ GE189.out) | exact HB.out)⟩⟩
 case rest =>
  clear HC3
  (try clear c1); (try clear p2); (try clear c4); (try clear c7); (try clear c9); (try clear c14); (try clear c15); (try clear hcz10_0); (try clear hcz10_1); (try clear hcz10_2); (try clear hcz10_3); (try clear hcz10_4); (try clear hcz10_5); (try clear hcz12_0); (try clear hcz12_1); (try clear hcz12_2); (try clear hcz12_3); (try clear hcz12_4); (try clear hcz12_5); (try clear hcz15_0); (try clear hcz15_1); (try clear hcz15_2); (try clear hcz15_3); (try clear hcz15_4); (try clear hcz15_5); (try clear hfz10_0); (try clear hfz10_1); (try clear hfz10_2); (try clear hfz10_3); (try clear hfz10_4); (try clear hfz10_5); (try clear hfz12_0); (try clear hfz12_1); (try clear hfz12_2); (try clear hfz12_3); (try clear hfz12_4); (try clear hfz12_5); (try clear hfz15_0); (try clear hfz15_1); (try clear hfz15_2); (try clear hfz15_3); (try clear hfz15_4); (try clear hfz15_5)
  obtain ⟨kq, x15_2, rfl, HA, HJ2, BK188, BK189, HB⟩ := hcut
  cases kq with
  | zero => exact absurd HA.out (by simp [spec_Duty.j0])
  | succ kj2 =>
   have H := HA.out
   clear HA
   simp only [spec_Duty.j0] at H
   by_cases c17 : x15_2 = true
   ·subst c17
    have H1 : (some 4) = some r := by rw [if_pos rfl] at H; exact H
    clear H
    have H := H1
    clear H1
    obtain rfl := Option.some.inj H
    go_wp2
    go_ret
    exact ⟨by first | rfl | (simp [errW_none, errW_some] <;> rfl) | (simp [*, errW_none, errW_some] <;> rfl), by repeat (first | (with_reducible first | exact HB.out | apply below_alloc | apply pw_below_drewN | apply below_drew1 | refine below_set ?_ GE188.out | refine below_set ?_ GE189.out) | exact HB.out)⟩
   ·replace c17 := Bool.eq_false_iff.mpr c17
    subst c17
    have H1 : ((spec_l8Bearing.f a0_0 a0_1 a0_2 a0_3 a0_4 a0_5 a1_0 a1_1 a1_2 a1_3 a1_4 a1_5).bind fun bt192 => ((spec_l8Diff.f a0_0 a0_1 a0_2 a0_3 a0_4 a0_5 a1_0 a1_1 a1_2 a1_3 a1_4 a1_5).bind fun bt195 => ((spec_l8Dot.f bt192.1 bt192.2 bt195.1 bt195.2).bind fun t197 => (if t197 ≥ 0 then (some 0) else ((spec_Behind.f kj2 a0_0 a0_1 a0_2 a0_3 a0_4 a0_5 a1_0 a1_1 a1_2 a1_3 a1_4 a1_5).bind fun t198 => ((spec_Behind.f kj2 a1_0 a1_1 a1_2 a1_3 a1_4 a1_5 a0_0 a0_1 a0_2 a0_3 a0_4 a0_5).bind fun t199 => (if t198 = true then (spec_Duty.j1 kj2 t198 t199 (!t199) a0_0 a0_1 a0_2 a0_3 a0_4 a0_5 a1_0 a1_1 a1_2 a1_3 a1_4 a1_5) else (spec_Duty.j1 kj2 t198 t199 false a0_0 a0_1 a0_2 a0_3 a0_4 a0_5 a1_0 a1_1 a1_2 a1_3 a1_4 a1_5)))))))) = some r := by rw [if_neg (show ¬ (false = true) by decide)] at H; exact H
    clear H
    have H := H1
    clear H1
    replace H := Option.bind_eq_some_iff.mp H
    obtain ⟨⟨t192, t193⟩, A180, H⟩ := H
    replace H : ((spec_l8Diff.f a0_0 a0_1 a0_2 a0_3 a0_4 a0_5 a1_0 a1_1 a1_2 a1_3 a1_4 a1_5).bind fun bt195 => ((spec_l8Dot.f t192 t193 bt195.1 bt195.2).bind fun t197 => (if t197 ≥ 0 then (some 0) else ((spec_Behind.f kj2 a0_0 a0_1 a0_2 a0_3 a0_4 a0_5 a1_0 a1_1 a1_2 a1_3 a1_4 a1_5).bind fun t198 => ((spec_Behind.f kj2 a1_0 a1_1 a1_2 a1_3 a1_4 a1_5 a0_0 a0_1 a0_2 a0_3 a0_4 a0_5).bind fun t199 => (if t198 = true then (spec_Duty.j1 kj2 t198 t199 (!t199) a0_0 a0_1 a0_2 a0_3 a0_4 a0_5 a1_0 a1_1 a1_2 a1_3 a1_4 a1_5) else (spec_Duty.j1 kj2 t198 t199 false a0_0 a0_1 a0_2 a0_3 a0_4 a0_5 a1_0 a1_1 a1_2 a1_3 a1_4 a1_5))))))) = some r := H
    have A18 := Aside0.mk A180
    clear A180
    replace H := Option.bind_eq_some_iff.mp H
    obtain ⟨⟨t195, t196⟩, A190, H⟩ := H
    replace H : ((spec_l8Dot.f t192 t193 t195 t196).bind fun t197 => (if t197 ≥ 0 then (some 0) else ((spec_Behind.f kj2 a0_0 a0_1 a0_2 a0_3 a0_4 a0_5 a1_0 a1_1 a1_2 a1_3 a1_4 a1_5).bind fun t198 => ((spec_Behind.f kj2 a1_0 a1_1 a1_2 a1_3 a1_4 a1_5 a0_0 a0_1 a0_2 a0_3 a0_4 a0_5).bind fun t199 => (if t198 = true then (spec_Duty.j1 kj2 t198 t199 (!t199) a0_0 a0_1 a0_2 a0_3 a0_4 a0_5 a1_0 a1_1 a1_2 a1_3 a1_4 a1_5) else (spec_Duty.j1 kj2 t198 t199 false a0_0 a0_1 a0_2 a0_3 a0_4 a0_5 a1_0 a1_1 a1_2 a1_3 a1_4 a1_5)))))) = some r := H
    have A19 := Aside0.mk A190
    clear A190
    replace H := Option.bind_eq_some_iff.mp H
    obtain ⟨t197, A200, H⟩ := H
    replace H : (if t197 ≥ 0 then (some 0) else ((spec_Behind.f kj2 a0_0 a0_1 a0_2 a0_3 a0_4 a0_5 a1_0 a1_1 a1_2 a1_3 a1_4 a1_5).bind fun t198 => ((spec_Behind.f kj2 a1_0 a1_1 a1_2 a1_3 a1_4 a1_5 a0_0 a0_1 a0_2 a0_3 a0_4 a0_5).bind fun t199 => (if t198 = true then (spec_Duty.j1 kj2 t198 t199 (!t199) a0_0 a0_1 a0_2 a0_3 a0_4 a0_5 a1_0 a1_1 a1_2 a1_3 a1_4 a1_5) else (spec_Duty.j1 kj2 t198 t199 false a0_0 a0_1 a0_2 a0_3 a0_4 a0_5 a1_0 a1_1 a1_2 a1_3 a1_4 a1_5))))) = some r := H
    have A20 := Aside0.mk A200
    clear A200
    by_cases c21 : t197 ≥ 0
    ·rw [if_pos c21] at H
     have c21b0 : decide (0 ≤ t197) = true := decide_eq_true c21
     clear c21
     obtain rfl := Option.some.inj H
     have hnb22 := NB188_189.out
     have hnc22 := NB189_188.out
     have hcz23_0 : wc.cell? ⟨gb188, 0, none⟩ = some (.int .i64 a0_0) := bc BK188.out 0
     have hcz23_1 : wc.cell? ⟨gb188, 1, none⟩ = some (.int .i64 a0_1) := bc BK188.out 1
     have hcz23_2 : wc.cell? ⟨gb188, 2, none⟩ = some (.int .i64 a0_2) := bc BK188.out 2
     have hcz23_3 : wc.cell? ⟨gb188, 3, none⟩ = some (.int .i64 a0_3) := bc BK188.out 3
     have hcz23_4 : wc.cell? ⟨gb188, 4, none⟩ = some (.int .i64 a0_4) := bc BK188.out 4
     have hcz23_5 : wc.cell? ⟨gb188, 5, none⟩ = some (.int .i64 a0_5) := bc BK188.out 5
     have hfz23_0 := blk_frozen BK188.out 0
     have hfz23_1 := blk_frozen BK188.out 1
     have hfz23_2 := blk_frozen BK188.out 2
     have hfz23_3 := blk_frozen BK188.out 3
     have hfz23_4 := blk_frozen BK188.out 4
     have hfz23_5 := blk_frozen BK188.out 5
     have hcz24_0 : wc.cell? ⟨gb189, 0, none⟩ = some (.int .i64 a1_0) := bc BK189.out 0
     have hcz24_1 : wc.cell? ⟨gb189, 1, none⟩ = some (.int .i64 a1_1) := bc BK189.out 1
     have hcz24_2 : wc.cell? ⟨gb189, 2, none⟩ = some (.int .i64 a1_2) := bc BK189.out 2
     have hcz24_3 : wc.cell? ⟨gb189, 3, none⟩ = some (.int .i64 a1_3) := bc BK189.out 3
     have hcz24_4 : wc.cell? ⟨gb189, 4, none⟩ = some (.int .i64 a1_4) := bc BK189.out 4
     have hcz24_5 : wc.cell? ⟨gb189, 5, none⟩ = some (.int .i64 a1_5) := bc BK189.out 5
     have hfz24_0 := blk_frozen BK189.out 0
     have hfz24_1 := blk_frozen BK189.out 1
     have hfz24_2 := blk_frozen BK189.out 2
     have hfz24_3 := blk_frozen BK189.out 3
     have hfz24_4 := blk_frozen BK189.out 4
     have hfz24_5 := blk_frozen BK189.out 5
     try go_wp2_with (first | ((with_reducible refine gate_callee (f := 65) rfl ?_); refine goesL_ (some 18) rfl rfl Try.func65 (by kernel_rfl) rfl #[.agg #[.int .i64 a0_0, .int .i64 a0_1, .int .i64 a0_2, .int .i64 a0_3, .int .i64 a0_4, .int .i64 a0_5], .agg #[.int .i64 a1_0, .int .i64 a1_1, .int .i64 a1_2, .int .i64 a1_3, .int .i64 a1_4, .int .i64 a1_5]] rfl s6_2 ?_; (with_reducible refine (spec_l8Bearing.calls a0_0 a0_1 a0_2 a0_3 a0_4 a0_5 a1_0 a1_1 a1_2 a1_3 a1_4 a1_5 t192 t193 _ A18.out).mono ?_); rintro e w3 ⟨rfl, hb⟩; refine ⟨_, rfl, ?_⟩; have n0_ := Aside0.mk (bb (zk BK188.out) hb); have n1_ := Aside0.mk (bb (zk BK189.out) hb); have n2_ := Aside0.mk (below_step s6_1 hb); clear BK188; clear BK189; clear HB; have BK188 := n0_; have BK189 := n1_; have HB := n2_; clear n0_ n1_ n2_; (try clear hb); (try clear hb2); (try clear hk); (try clear hi)) | ((with_reducible refine gate_dst (N := 5) rfl ?_); refine box_event ?hg (N := 5) ?hd (cs := #[.int .i64 0, .int .i64 0]) (t := 83) ?hr ?_; (case hd => rfl); (case hg => rfl); (case hr => first | (go_simp; done) | (go_simp; rfl)); intro gb194 hg w4 hbox hb; have n0_ := Aside0.mk (bb (zk BK188.out) hb); have n1_ := Aside0.mk (bb (zk BK189.out) hb); have n2_ := Aside0.mk (below_step s6_1 hb); have n3_ := Aside0.mk (hbox); have n4_ := Aside0.mk (ns hg s6_1 : w.heap.size ≤ gb194); have n5_ := Aside0.mk (ns hg s6_1 : w.heap.size ≤ gb194); have n6_ := Aside0.mk ((nlt hg (zk BK188.out) : gb188 ≠ gb194)); have n7_ := Aside0.mk ((ngt hg (zk BK188.out) : gb194 ≠ gb188)); have n8_ := Aside0.mk ((nlt hg (zk BK189.out) : gb189 ≠ gb194)); have n9_ := Aside0.mk ((ngt hg (zk BK189.out) : gb194 ≠ gb189)); clear BK188; clear BK189; clear HB; have BK188 := n0_; have BK189 := n1_; have HB := n2_; have BK194 := n3_; have GW194 := n4_; have GE194 := n5_; have NB188_194 := n6_; have NB194_188 := n7_; have NB189_194 := n8_; have NB194_189 := n9_; clear n0_ n1_ n2_ n3_ n4_ n5_ n6_ n7_ n8_ n9_; clear hb hbox hg; have hnb27 := NB194_188.out; have hnc27 := NB188_194.out; have hnb28 := NB194_189.out; have hnc28 := NB189_194.out; have hcz29_0 : w4.cell? ⟨gb194, 0, none⟩ = some (.int .i64 0) := bc BK194.out 0; have hcz29_1 : w4.cell? ⟨gb194, 1, none⟩ = some (.int .i64 0) := bc BK194.out 1; have hfz29_0 := blk_frozen BK194.out 0; have hfz29_1 := blk_frozen BK194.out 1))
     have n0_ : Aside0 (((w4.setCell ⟨gb194, 0, none⟩ (.int .i64 t192)).setCell ⟨gb194, 1, none⟩ (.int .i64 t193)).heap[gb188]? = some (.cells #[.int .i64 a0_0, .int .i64 a0_1, .int .i64 a0_2, .int .i64 a0_3, .int .i64 a0_4, .int .i64 a0_5] 25 (0, 0))) := ⟨by (with_reducible repeat (first | refine blk_drewN ?_ _ | refine blk_drew ?_ | refine blk_alloc ?_ _)); refine blk_far ?_ NB188_194.out _; (with_reducible repeat (first | refine blk_drewN ?_ _ | refine blk_drew ?_ | refine blk_alloc ?_ _)); refine blk_far ?_ NB188_194.out _; (with_reducible repeat (first | refine blk_drewN ?_ _ | refine blk_drew ?_ | refine blk_alloc ?_ _)); exact BK188.out⟩
     have n1_ : Aside0 (((w4.setCell ⟨gb194, 0, none⟩ (.int .i64 t192)).setCell ⟨gb194, 1, none⟩ (.int .i64 t193)).heap[gb189]? = some (.cells #[.int .i64 a1_0, .int .i64 a1_1, .int .i64 a1_2, .int .i64 a1_3, .int .i64 a1_4, .int .i64 a1_5] 25 (0, 0))) := ⟨by (with_reducible repeat (first | refine blk_drewN ?_ _ | refine blk_drew ?_ | refine blk_alloc ?_ _)); refine blk_far ?_ NB189_194.out _; (with_reducible repeat (first | refine blk_drewN ?_ _ | refine blk_drew ?_ | refine blk_alloc ?_ _)); refine blk_far ?_ NB189_194.out _; (with_reducible repeat (first | refine blk_drewN ?_ _ | refine blk_drew ?_ | refine blk_alloc ?_ _)); exact BK189.out⟩
     have n2_ : Aside0 (((w4.setCell ⟨gb194, 0, none⟩ (.int .i64 t192)).setCell ⟨gb194, 1, none⟩ (.int .i64 t193)).heap[gb194]? = some (.cells #[.int .i64 t192, .int .i64 t193] 83 (0, 0))) := ⟨by (with_reducible repeat (first | refine blk_drewN ?_ _ | refine blk_drew ?_ | refine blk_alloc ?_ _)); refine blk_put (cs := #[.int .i64 t192, .int .i64 0]) ?_ 1 _ rfl; (with_reducible repeat (first | refine blk_drewN ?_ _ | refine blk_drew ?_ | refine blk_alloc ?_ _)); refine blk_put (cs := #[.int .i64 0, .int .i64 0]) ?_ 0 _ rfl; (with_reducible repeat (first | refine blk_drewN ?_ _ | refine blk_drew ?_ | refine blk_alloc ?_ _)); exact BK194.out⟩
     have n3_ : Aside0 (Below w.heap.size w ((w4.setCell ⟨gb194, 0, none⟩ (.int .i64 t192)).setCell ⟨gb194, 1, none⟩ (.int .i64 t193))) := ⟨by repeat (first | (with_reducible first | exact HB.out | apply below_alloc | apply pw_below_drewN | apply below_drew1 | refine below_set ?_ GE188.out | refine below_set ?_ GE189.out | refine below_set ?_ GE194.out) | exact HB.out)⟩
     (try clear BK188)
     (try clear BK189)
     (try clear BK194)
     (try clear HB)
     generalize ((w4.setCell ⟨gb194, 0, none⟩ (.int .i64 t192)).setCell ⟨gb194, 1, none⟩ (.int .i64 t193)) = w5 at n0_ n1_ n2_ n3_ ⊢
     have BK188 := n0_
     have BK189 := n1_
     have BK194 := n2_
     have HB := n3_
     clear n0_ n1_ n2_ n3_
     have n0_ := Aside0.mk (blk_drew BK188.out)
     have n1_ := Aside0.mk (blk_drew BK189.out)
     have n2_ := Aside0.mk (blk_drew BK194.out)
     have n3_ := Aside0.mk (below_drew1 HB.out)
     clear BK188 BK189 BK194 HB
     have BK188 := n0_
     have BK189 := n1_
     have BK194 := n2_
     have HB := n3_
     clear n0_ n1_ n2_ n3_
     refine start_ (n := 6) (S := fun w' => w'.cell? ⟨gb194, 0, none⟩ = some (.int .i64 t192) ∧ w'.cell? ⟨gb194, 1, none⟩ = some (.int .i64 t193) ∧ w'.cell? ⟨gb188, 0, none⟩ = some (.int .i64 a0_0) ∧ w'.cell? ⟨gb188, 1, none⟩ = some (.int .i64 a0_1) ∧ w'.cell? ⟨gb188, 2, none⟩ = some (.int .i64 a0_2) ∧ w'.cell? ⟨gb188, 3, none⟩ = some (.int .i64 a0_3) ∧ w'.cell? ⟨gb188, 4, none⟩ = some (.int .i64 a0_4) ∧ w'.cell? ⟨gb188, 5, none⟩ = some (.int .i64 a0_5) ∧ w'.cell? ⟨gb189, 0, none⟩ = some (.int .i64 a1_0) ∧ w'.cell? ⟨gb189, 1, none⟩ = some (.int .i64 a1_1) ∧ w'.cell? ⟨gb189, 2, none⟩ = some (.int .i64 a1_2) ∧ w'.cell? ⟨gb189, 3, none⟩ = some (.int .i64 a1_3) ∧ w'.cell? ⟨gb189, 4, none⟩ = some (.int .i64 a1_4) ∧ w'.cell? ⟨gb189, 5, none⟩ = some (.int .i64 a1_5)) (ds := []) #[false, false, false, false, false, false] (by kernel_rfl) rfl rfl ⟨bc BK194.out 0, bc BK194.out 1, bc BK188.out 0, bc BK188.out 1, bc BK188.out 2, bc BK188.out 3, bc BK188.out 4, bc BK188.out 5, bc BK189.out 0, bc BK189.out 1, bc BK189.out 2, bc BK189.out 3, bc BK189.out 4, bc BK189.out 5⟩ (fun hHeld => ?_)
     generalize w5.drew = w6 at BK188 BK189 BK194 HB hHeld ⊢
     refine take_ (i := 0) (N := some 19) (v := ?_) (a' := ?_) (bz 6 1) rfl rfl (by kernel_rfl) (fun _ _ _ h => h) (Or.inl ⟨by rfl, ?_⟩) hHeld ?_ ?_
     rotate_left
     ·exact t6_1
     rotate_left
     ·exact t6_0
     refine take_ (i := 1) (N := some 20) (v := ?_) (a' := ?_) (bz 6 3) rfl rfl (by kernel_rfl) (fun _ _ _ h => h) (Or.inl ⟨by rfl, ?_⟩) hHeld ?_ ?_
     rotate_left
     ·exact t6_1
     rotate_left
     ·exact t6_0
     refine take_ (i := 2) (N := some 21) (v := ?_) (a' := ?_) (bz 6 7) rfl rfl (by kernel_rfl) (fun _ _ _ h => h) (Or.inl ⟨by rfl, ?_⟩) hHeld ?_ ?_
     rotate_left
     ·exact t6_1
     rotate_left
     ·exact t6_0
     refine one_ (i := 3) (N := some 22) (bz 6 15) rfl rfl (by kernel_rfl) (by decide) (fun K hK => ?_)
     refine goes_ Try.func80 (by kernel_rfl) rfl #[.agg #[.int .i64 a0_0, .int .i64 a0_1, .int .i64 a0_2, .int .i64 a0_3, .int .i64 a0_4, .int .i64 a0_5], .agg #[.int .i64 a1_0, .int .i64 a1_1, .int .i64 a1_2, .int .i64 a1_3, .int .i64 a1_4, .int .i64 a1_5]] (by rfl) rfl rfl s6_2 ?_
     with_reducible refine (spec_l8Diff.calls a0_0 a0_1 a0_2 a0_3 a0_4 a0_5 a1_0 a1_1 a1_2 a1_3 a1_4 a1_5 t195 t196 _ A19.out).mono ?_
     rintro e w7 ⟨rfl, hb⟩
     refine ⟨_, rfl, ?_⟩
     have n0_ := Aside0.mk (bb (zk BK188.out) hb)
     have n1_ := Aside0.mk (bb (zk BK189.out) hb)
     have n2_ := Aside0.mk (bb (zk BK194.out) hb)
     have n3_ := Aside0.mk (below_step s6_0 hb)
     clear BK188 BK189 BK194 HB
     have BK188 := n0_
     have BK189 := n1_
     have BK194 := n2_
     have HB := n3_
     clear n0_ n1_ n2_ n3_
     (try clear hb)
     (try clear hb2)
     (try clear hk)
     (try clear hi)
     refine hK.out _ _ ⟨bc BK194.out 0, bc BK194.out 1, bc BK188.out 0, bc BK188.out 1, bc BK188.out 2, bc BK188.out 3, bc BK188.out 4, bc BK188.out 5, bc BK189.out 0, bc BK189.out 1, bc BK189.out 2, bc BK189.out 3, bc BK189.out 4, bc BK189.out 5⟩ (fun hHeld => ?_)
     clear hK K
     refine norm_ (a' := ?_) ?_ ?_
     rotate_left
     ·show Act.put _ (some 22) _ = _
      simp only [Act.put, y1, y2, y3, i64_w, i32_w]
      rfl
     refine one_ (i := 4) (N := some 23) (bz 6 31) rfl rfl (by kernel_rfl) (by decide) (fun K hK => ?_)
     refine goes_ Try.func68 (by kernel_rfl) rfl #[.agg #[.int .i64 t192, .int .i64 t193], .agg #[.int .i64 t195, .int .i64 t196]] (by rfl) rfl rfl s6_2 ?_
     with_reducible refine (spec_l8Dot.calls t192 t193 t195 t196 t197 _ A20.out).mono ?_
     rintro e w8 ⟨rfl, hb⟩
     refine ⟨_, rfl, ?_⟩
     have n0_ := Aside0.mk (bb (zk BK188.out) hb)
     have n1_ := Aside0.mk (bb (zk BK189.out) hb)
     have n2_ := Aside0.mk (bb (zk BK194.out) hb)
     have n3_ := Aside0.mk (below_step s6_0 hb)
     clear BK188 BK189 BK194 HB
     have BK188 := n0_
     have BK189 := n1_
     have BK194 := n2_
     have HB := n3_
     clear n0_ n1_ n2_ n3_
     (try clear hb)
     (try clear hb2)
     (try clear hk)
     (try clear hi)
     refine hK.out _ _ ⟨bc BK194.out 0, bc BK194.out 1, bc BK188.out 0, bc BK188.out 1, bc BK188.out 2, bc BK188.out 3, bc BK188.out 4, bc BK188.out 5, bc BK189.out 0, bc BK189.out 1, bc BK189.out 2, bc BK189.out 3, bc BK189.out 4, bc BK189.out 5⟩ (fun hHeld => ?_)
     clear hK K
     refine norm_ (a' := ?_) ?_ ?_
     rotate_left
     ·show Act.put _ (some 23) _ = _
      simp only [Act.put, y1, y2, y3, i64_w, i32_w]
      rfl
     refine pure_ (i := 5) (N := some 24) (v := ?_) (a' := ?_) (bz 6 63) rfl rfl (by kernel_rfl) (fun _ _ _ h => h) (Or.inl ⟨by rfl, ?_⟩) ?_ ?_
     rotate_left
     ·intro w'
      go_simp
      with_reducible rfl
     rotate_left
     ·exact t6_0
     refine done_ (by kernel_rfl) ?_
     try go_wp2
     go_ret
     exact ⟨by first | rfl | (simp [errW_none, errW_some] <;> rfl) | (simp [*, errW_none, errW_some] <;> rfl), by repeat (first | (with_reducible first | exact HB.out | apply below_alloc | apply pw_below_drewN | apply below_drew1 | refine below_set ?_ GE188.out | refine below_set ?_ GE189.out | refine below_set ?_ GE194.out) | exact HB.out)⟩
    ·rw [if_neg c21] at H
     have c21b0 : decide (0 ≤ t197) = false := decide_eq_false c21
     clear c21
     replace H := Option.bind_eq_some_iff.mp H
     obtain ⟨t198, A340, H⟩ := H
     replace H : ((spec_Behind.f kj2 a1_0 a1_1 a1_2 a1_3 a1_4 a1_5 a0_0 a0_1 a0_2 a0_3 a0_4 a0_5).bind fun t199 => (if t198 = true then (spec_Duty.j1 kj2 t198 t199 (!t199) a0_0 a0_1 a0_2 a0_3 a0_4 a0_5 a1_0 a1_1 a1_2 a1_3 a1_4 a1_5) else (spec_Duty.j1 kj2 t198 t199 false a0_0 a0_1 a0_2 a0_3 a0_4 a0_5 a1_0 a1_1 a1_2 a1_3 a1_4 a1_5))) = some r := H
     have A34 := Aside0.mk A340
     clear A340
     replace H := Option.bind_eq_some_iff.mp H
     obtain ⟨t199, A350, H⟩ := H
     replace H : (if t198 = true then (spec_Duty.j1 kj2 t198 t199 (!t199) a0_0 a0_1 a0_2 a0_3 a0_4 a0_5 a1_0 a1_1 a1_2 a1_3 a1_4 a1_5) else (spec_Duty.j1 kj2 t198 t199 false a0_0 a0_1 a0_2 a0_3 a0_4 a0_5 a1_0 a1_1 a1_2 a1_3 a1_4 a1_5)) = some r := H
     have A35 := Aside0.mk A350
     clear A350
     have HC36 := Aside0.mk H
     clear H
     have hnb37 := NB188_189.out
     have hnc37 := NB189_188.out
     have hcz38_0 : wc.cell? ⟨gb188, 0, none⟩ = some (.int .i64 a0_0) := bc BK188.out 0
     have hcz38_1 : wc.cell? ⟨gb188, 1, none⟩ = some (.int .i64 a0_1) := bc BK188.out 1
     have hcz38_2 : wc.cell? ⟨gb188, 2, none⟩ = some (.int .i64 a0_2) := bc BK188.out 2
     have hcz38_3 : wc.cell? ⟨gb188, 3, none⟩ = some (.int .i64 a0_3) := bc BK188.out 3
     have hcz38_4 : wc.cell? ⟨gb188, 4, none⟩ = some (.int .i64 a0_4) := bc BK188.out 4
     have hcz38_5 : wc.cell? ⟨gb188, 5, none⟩ = some (.int .i64 a0_5) := bc BK188.out 5
     have hfz38_0 := blk_frozen BK188.out 0
     have hfz38_1 := blk_frozen BK188.out 1
     have hfz38_2 := blk_frozen BK188.out 2
     have hfz38_3 := blk_frozen BK188.out 3
     have hfz38_4 := blk_frozen BK188.out 4
     have hfz38_5 := blk_frozen BK188.out 5
     have hcz39_0 : wc.cell? ⟨gb189, 0, none⟩ = some (.int .i64 a1_0) := bc BK189.out 0
     have hcz39_1 : wc.cell? ⟨gb189, 1, none⟩ = some (.int .i64 a1_1) := bc BK189.out 1
     have hcz39_2 : wc.cell? ⟨gb189, 2, none⟩ = some (.int .i64 a1_2) := bc BK189.out 2
     have hcz39_3 : wc.cell? ⟨gb189, 3, none⟩ = some (.int .i64 a1_3) := bc BK189.out 3
     have hcz39_4 : wc.cell? ⟨gb189, 4, none⟩ = some (.int .i64 a1_4) := bc BK189.out 4
     have hcz39_5 : wc.cell? ⟨gb189, 5, none⟩ = some (.int .i64 a1_5) := bc BK189.out 5
     have hfz39_0 := blk_frozen BK189.out 0
     have hfz39_1 := blk_frozen BK189.out 1
     have hfz39_2 := blk_frozen BK189.out 2
     have hfz39_3 := blk_frozen BK189.out 3
     have hfz39_4 := blk_frozen BK189.out 4
     have hfz39_5 := blk_frozen BK189.out 5
     try go_wp2_with (first | ((with_reducible refine gate_callee (f := 65) rfl ?_); refine goesL_ (some 18) rfl rfl Try.func65 (by kernel_rfl) rfl #[.agg #[.int .i64 a0_0, .int .i64 a0_1, .int .i64 a0_2, .int .i64 a0_3, .int .i64 a0_4, .int .i64 a0_5], .agg #[.int .i64 a1_0, .int .i64 a1_1, .int .i64 a1_2, .int .i64 a1_3, .int .i64 a1_4, .int .i64 a1_5]] rfl s6_2 ?_; (with_reducible refine (spec_l8Bearing.calls a0_0 a0_1 a0_2 a0_3 a0_4 a0_5 a1_0 a1_1 a1_2 a1_3 a1_4 a1_5 t192 t193 _ A18.out).mono ?_); rintro e w3 ⟨rfl, hb⟩; refine ⟨_, rfl, ?_⟩; have n0_ := Aside0.mk (bb (zk BK188.out) hb); have n1_ := Aside0.mk (bb (zk BK189.out) hb); have n2_ := Aside0.mk (below_step s6_1 hb); clear BK188; clear BK189; clear HB; have BK188 := n0_; have BK189 := n1_; have HB := n2_; clear n0_ n1_ n2_; (try clear hb); (try clear hb2); (try clear hk); (try clear hi)) | ((with_reducible refine gate_dst (N := 5) rfl ?_); refine box_event ?hg (N := 5) ?hd (cs := #[.int .i64 0, .int .i64 0]) (t := 83) ?hr ?_; (case hd => rfl); (case hg => rfl); (case hr => first | (go_simp; done) | (go_simp; rfl)); intro gb194 hg w4 hbox hb; have n0_ := Aside0.mk (bb (zk BK188.out) hb); have n1_ := Aside0.mk (bb (zk BK189.out) hb); have n2_ := Aside0.mk (below_step s6_1 hb); have n3_ := Aside0.mk (hbox); have n4_ := Aside0.mk (ns hg s6_1 : w.heap.size ≤ gb194); have n5_ := Aside0.mk (ns hg s6_1 : w.heap.size ≤ gb194); have n6_ := Aside0.mk ((nlt hg (zk BK188.out) : gb188 ≠ gb194)); have n7_ := Aside0.mk ((ngt hg (zk BK188.out) : gb194 ≠ gb188)); have n8_ := Aside0.mk ((nlt hg (zk BK189.out) : gb189 ≠ gb194)); have n9_ := Aside0.mk ((ngt hg (zk BK189.out) : gb194 ≠ gb189)); clear BK188; clear BK189; clear HB; have BK188 := n0_; have BK189 := n1_; have HB := n2_; have BK194 := n3_; have GW194 := n4_; have GE194 := n5_; have NB188_194 := n6_; have NB194_188 := n7_; have NB189_194 := n8_; have NB194_189 := n9_; clear n0_ n1_ n2_ n3_ n4_ n5_ n6_ n7_ n8_ n9_; clear hb hbox hg; have hnb42 := NB194_188.out; have hnc42 := NB188_194.out; have hnb43 := NB194_189.out; have hnc43 := NB189_194.out; have hcz44_0 : w4.cell? ⟨gb194, 0, none⟩ = some (.int .i64 0) := bc BK194.out 0; have hcz44_1 : w4.cell? ⟨gb194, 1, none⟩ = some (.int .i64 0) := bc BK194.out 1; have hfz44_0 := blk_frozen BK194.out 0; have hfz44_1 := blk_frozen BK194.out 1))
     have n0_ : Aside0 (((w4.setCell ⟨gb194, 0, none⟩ (.int .i64 t192)).setCell ⟨gb194, 1, none⟩ (.int .i64 t193)).heap[gb188]? = some (.cells #[.int .i64 a0_0, .int .i64 a0_1, .int .i64 a0_2, .int .i64 a0_3, .int .i64 a0_4, .int .i64 a0_5] 25 (0, 0))) := ⟨by (with_reducible repeat (first | refine blk_drewN ?_ _ | refine blk_drew ?_ | refine blk_alloc ?_ _)); refine blk_far ?_ NB188_194.out _; (with_reducible repeat (first | refine blk_drewN ?_ _ | refine blk_drew ?_ | refine blk_alloc ?_ _)); refine blk_far ?_ NB188_194.out _; (with_reducible repeat (first | refine blk_drewN ?_ _ | refine blk_drew ?_ | refine blk_alloc ?_ _)); exact BK188.out⟩
     have n1_ : Aside0 (((w4.setCell ⟨gb194, 0, none⟩ (.int .i64 t192)).setCell ⟨gb194, 1, none⟩ (.int .i64 t193)).heap[gb189]? = some (.cells #[.int .i64 a1_0, .int .i64 a1_1, .int .i64 a1_2, .int .i64 a1_3, .int .i64 a1_4, .int .i64 a1_5] 25 (0, 0))) := ⟨by (with_reducible repeat (first | refine blk_drewN ?_ _ | refine blk_drew ?_ | refine blk_alloc ?_ _)); refine blk_far ?_ NB189_194.out _; (with_reducible repeat (first | refine blk_drewN ?_ _ | refine blk_drew ?_ | refine blk_alloc ?_ _)); refine blk_far ?_ NB189_194.out _; (with_reducible repeat (first | refine blk_drewN ?_ _ | refine blk_drew ?_ | refine blk_alloc ?_ _)); exact BK189.out⟩
     have n2_ : Aside0 (((w4.setCell ⟨gb194, 0, none⟩ (.int .i64 t192)).setCell ⟨gb194, 1, none⟩ (.int .i64 t193)).heap[gb194]? = some (.cells #[.int .i64 t192, .int .i64 t193] 83 (0, 0))) := ⟨by (with_reducible repeat (first | refine blk_drewN ?_ _ | refine blk_drew ?_ | refine blk_alloc ?_ _)); refine blk_put (cs := #[.int .i64 t192, .int .i64 0]) ?_ 1 _ rfl; (with_reducible repeat (first | refine blk_drewN ?_ _ | refine blk_drew ?_ | refine blk_alloc ?_ _)); refine blk_put (cs := #[.int .i64 0, .int .i64 0]) ?_ 0 _ rfl; (with_reducible repeat (first | refine blk_drewN ?_ _ | refine blk_drew ?_ | refine blk_alloc ?_ _)); exact BK194.out⟩
     have n3_ : Aside0 (Below w.heap.size w ((w4.setCell ⟨gb194, 0, none⟩ (.int .i64 t192)).setCell ⟨gb194, 1, none⟩ (.int .i64 t193))) := ⟨by repeat (first | (with_reducible first | exact HB.out | apply below_alloc | apply pw_below_drewN | apply below_drew1 | refine below_set ?_ GE188.out | refine below_set ?_ GE189.out | refine below_set ?_ GE194.out) | exact HB.out)⟩
     (try clear BK188)
     (try clear BK189)
     (try clear BK194)
     (try clear HB)
     generalize ((w4.setCell ⟨gb194, 0, none⟩ (.int .i64 t192)).setCell ⟨gb194, 1, none⟩ (.int .i64 t193)) = w5 at n0_ n1_ n2_ n3_ ⊢
     have BK188 := n0_
     have BK189 := n1_
     have BK194 := n2_
     have HB := n3_
     clear n0_ n1_ n2_ n3_
     have n0_ := Aside0.mk (blk_drew BK188.out)
     have n1_ := Aside0.mk (blk_drew BK189.out)
     have n2_ := Aside0.mk (blk_drew BK194.out)
     have n3_ := Aside0.mk (below_drew1 HB.out)
     clear BK188 BK189 BK194 HB
     have BK188 := n0_
     have BK189 := n1_
     have BK194 := n2_
     have HB := n3_
     clear n0_ n1_ n2_ n3_
     refine start_ (n := 6) (S := fun w' => w'.cell? ⟨gb194, 0, none⟩ = some (.int .i64 t192) ∧ w'.cell? ⟨gb194, 1, none⟩ = some (.int .i64 t193) ∧ w'.cell? ⟨gb188, 0, none⟩ = some (.int .i64 a0_0) ∧ w'.cell? ⟨gb188, 1, none⟩ = some (.int .i64 a0_1) ∧ w'.cell? ⟨gb188, 2, none⟩ = some (.int .i64 a0_2) ∧ w'.cell? ⟨gb188, 3, none⟩ = some (.int .i64 a0_3) ∧ w'.cell? ⟨gb188, 4, none⟩ = some (.int .i64 a0_4) ∧ w'.cell? ⟨gb188, 5, none⟩ = some (.int .i64 a0_5) ∧ w'.cell? ⟨gb189, 0, none⟩ = some (.int .i64 a1_0) ∧ w'.cell? ⟨gb189, 1, none⟩ = some (.int .i64 a1_1) ∧ w'.cell? ⟨gb189, 2, none⟩ = some (.int .i64 a1_2) ∧ w'.cell? ⟨gb189, 3, none⟩ = some (.int .i64 a1_3) ∧ w'.cell? ⟨gb189, 4, none⟩ = some (.int .i64 a1_4) ∧ w'.cell? ⟨gb189, 5, none⟩ = some (.int .i64 a1_5)) (ds := []) #[false, false, false, false, false, false] (by kernel_rfl) rfl rfl ⟨bc BK194.out 0, bc BK194.out 1, bc BK188.out 0, bc BK188.out 1, bc BK188.out 2, bc BK188.out 3, bc BK188.out 4, bc BK188.out 5, bc BK189.out 0, bc BK189.out 1, bc BK189.out 2, bc BK189.out 3, bc BK189.out 4, bc BK189.out 5⟩ (fun hHeld => ?_)
     generalize w5.drew = w6 at BK188 BK189 BK194 HB hHeld ⊢
     refine take_ (i := 0) (N := some 19) (v := ?_) (a' := ?_) (bz 6 1) rfl rfl (by kernel_rfl) (fun _ _ _ h => h) (Or.inl ⟨by rfl, ?_⟩) hHeld ?_ ?_
     rotate_left
     ·exact t6_1
     rotate_left
     ·exact t6_0
     refine take_ (i := 1) (N := some 20) (v := ?_) (a' := ?_) (bz 6 3) rfl rfl (by kernel_rfl) (fun _ _ _ h => h) (Or.inl ⟨by rfl, ?_⟩) hHeld ?_ ?_
     rotate_left
     ·exact t6_1
     rotate_left
     ·exact t6_0
     refine take_ (i := 2) (N := some 21) (v := ?_) (a' := ?_) (bz 6 7) rfl rfl (by kernel_rfl) (fun _ _ _ h => h) (Or.inl ⟨by rfl, ?_⟩) hHeld ?_ ?_
     rotate_left
     ·exact t6_1
     rotate_left
     ·exact t6_0
     refine one_ (i := 3) (N := some 22) (bz 6 15) rfl rfl (by kernel_rfl) (by decide) (fun K hK => ?_)
     refine goes_ Try.func80 (by kernel_rfl) rfl #[.agg #[.int .i64 a0_0, .int .i64 a0_1, .int .i64 a0_2, .int .i64 a0_3, .int .i64 a0_4, .int .i64 a0_5], .agg #[.int .i64 a1_0, .int .i64 a1_1, .int .i64 a1_2, .int .i64 a1_3, .int .i64 a1_4, .int .i64 a1_5]] (by rfl) rfl rfl s6_2 ?_
     with_reducible refine (spec_l8Diff.calls a0_0 a0_1 a0_2 a0_3 a0_4 a0_5 a1_0 a1_1 a1_2 a1_3 a1_4 a1_5 t195 t196 _ A19.out).mono ?_
     rintro e w7 ⟨rfl, hb⟩
     refine ⟨_, rfl, ?_⟩
     have n0_ := Aside0.mk (bb (zk BK188.out) hb)
     have n1_ := Aside0.mk (bb (zk BK189.out) hb)
     have n2_ := Aside0.mk (bb (zk BK194.out) hb)
     have n3_ := Aside0.mk (below_step s6_0 hb)
     clear BK188 BK189 BK194 HB
     have BK188 := n0_
     have BK189 := n1_
     have BK194 := n2_
     have HB := n3_
     clear n0_ n1_ n2_ n3_
     (try clear hb)
     (try clear hb2)
     (try clear hk)
     (try clear hi)
     refine hK.out _ _ ⟨bc BK194.out 0, bc BK194.out 1, bc BK188.out 0, bc BK188.out 1, bc BK188.out 2, bc BK188.out 3, bc BK188.out 4, bc BK188.out 5, bc BK189.out 0, bc BK189.out 1, bc BK189.out 2, bc BK189.out 3, bc BK189.out 4, bc BK189.out 5⟩ (fun hHeld => ?_)
     clear hK K
     refine norm_ (a' := ?_) ?_ ?_
     rotate_left
     ·show Act.put _ (some 22) _ = _
      simp only [Act.put, y1, y2, y3, i64_w, i32_w]
      rfl
     refine one_ (i := 4) (N := some 23) (bz 6 31) rfl rfl (by kernel_rfl) (by decide) (fun K hK => ?_)
     refine goes_ Try.func68 (by kernel_rfl) rfl #[.agg #[.int .i64 t192, .int .i64 t193], .agg #[.int .i64 t195, .int .i64 t196]] (by rfl) rfl rfl s6_2 ?_
     with_reducible refine (spec_l8Dot.calls t192 t193 t195 t196 t197 _ A20.out).mono ?_
     rintro e w8 ⟨rfl, hb⟩
     refine ⟨_, rfl, ?_⟩
     have n0_ := Aside0.mk (bb (zk BK188.out) hb)
     have n1_ := Aside0.mk (bb (zk BK189.out) hb)
     have n2_ := Aside0.mk (bb (zk BK194.out) hb)
     have n3_ := Aside0.mk (below_step s6_0 hb)
     clear BK188 BK189 BK194 HB
     have BK188 := n0_
     have BK189 := n1_
     have BK194 := n2_
     have HB := n3_
     clear n0_ n1_ n2_ n3_
     (try clear hb)
     (try clear hb2)
     (try clear hk)
     (try clear hi)
     refine hK.out _ _ ⟨bc BK194.out 0, bc BK194.out 1, bc BK188.out 0, bc BK188.out 1, bc BK188.out 2, bc BK188.out 3, bc BK188.out 4, bc BK188.out 5, bc BK189.out 0, bc BK189.out 1, bc BK189.out 2, bc BK189.out 3, bc BK189.out 4, bc BK189.out 5⟩ (fun hHeld => ?_)
     clear hK K
     refine norm_ (a' := ?_) ?_ ?_
     rotate_left
     ·show Act.put _ (some 23) _ = _
      simp only [Act.put, y1, y2, y3, i64_w, i32_w]
      rfl
     refine pure_ (i := 5) (N := some 24) (v := ?_) (a' := ?_) (bz 6 63) rfl rfl (by kernel_rfl) (fun _ _ _ h => h) (Or.inl ⟨by rfl, ?_⟩) ?_ ?_
     rotate_left
     ·intro w'
      go_simp
      with_reducible rfl
     rotate_left
     ·exact t6_0
     refine done_ (by kernel_rfl) ?_
     try go_wp2
     have n0_ := Aside0.mk (blk_drew BK188.out)
     have n1_ := Aside0.mk (blk_drew BK189.out)
     have n2_ := Aside0.mk (blk_drew BK194.out)
     have n3_ := Aside0.mk (below_drew1 HB.out)
     clear BK188 BK189 BK194 HB
     have BK188 := n0_
     have BK189 := n1_
     have BK194 := n2_
     have HB := n3_
     clear n0_ n1_ n2_ n3_
     refine start_ (n := 8) (S := fun w' => w'.cell? ⟨gb188, 0, none⟩ = some (.int .i64 a0_0) ∧ w'.cell? ⟨gb188, 1, none⟩ = some (.int .i64 a0_1) ∧ w'.cell? ⟨gb188, 2, none⟩ = some (.int .i64 a0_2) ∧ w'.cell? ⟨gb188, 3, none⟩ = some (.int .i64 a0_3) ∧ w'.cell? ⟨gb188, 4, none⟩ = some (.int .i64 a0_4) ∧ w'.cell? ⟨gb188, 5, none⟩ = some (.int .i64 a0_5) ∧ w'.cell? ⟨gb189, 0, none⟩ = some (.int .i64 a1_0) ∧ w'.cell? ⟨gb189, 1, none⟩ = some (.int .i64 a1_1) ∧ w'.cell? ⟨gb189, 2, none⟩ = some (.int .i64 a1_2) ∧ w'.cell? ⟨gb189, 3, none⟩ = some (.int .i64 a1_3) ∧ w'.cell? ⟨gb189, 4, none⟩ = some (.int .i64 a1_4) ∧ w'.cell? ⟨gb189, 5, none⟩ = some (.int .i64 a1_5)) (ds := []) #[false, false, false, false, false, false, false, false] (by kernel_rfl) rfl rfl ⟨bc BK188.out 0, bc BK188.out 1, bc BK188.out 2, bc BK188.out 3, bc BK188.out 4, bc BK188.out 5, bc BK189.out 0, bc BK189.out 1, bc BK189.out 2, bc BK189.out 3, bc BK189.out 4, bc BK189.out 5⟩ (fun hHeld => ?_); refine with_tabW spec_Duty.tab6 spec_Duty.bits6 (fun HT_ HW_ => ?_)
     generalize w8.drew = w9 at BK188 BK189 BK194 HB hHeld ⊢
     refine take_ (i := 0) (N := some 25) (v := ?_) (a' := ?_) (bz 8 1) rfl rfl (take_ofW HT_.out HW_.out (by kernel_rfl)) (fun _ _ _ h => h) (Or.inl ⟨by rfl, ?_⟩) hHeld ?_ ?_
     rotate_left
     ·rintro w' ⟨s0, s1, s2, s3, s4, s5, s6, s7, s8, s9, s10, s11⟩
      go_simp
      with_reducible rfl
     rotate_left
     ·exact t6_0
     refine take_ (i := 1) (N := some 26) (v := ?_) (a' := ?_) (bz 8 3) rfl rfl (take_ofW HT_.out HW_.out (by kernel_rfl)) (fun _ _ _ h => h) (Or.inl ⟨by rfl, ?_⟩) hHeld ?_ ?_
     rotate_left
     ·rintro w' ⟨s0, s1, s2, s3, s4, s5, s6, s7, s8, s9, s10, s11⟩
      go_simp
      with_reducible rfl
     rotate_left
     ·exact t6_0
     refine take_ (i := 3) (N := some 28) (v := ?_) (a' := ?_) (bz 8 11) rfl rfl (take_ofW HT_.out HW_.out (by kernel_rfl)) (fun _ _ _ h => h) (Or.inl ⟨by rfl, ?_⟩) hHeld ?_ ?_
     rotate_left
     ·rintro w' ⟨s0, s1, s2, s3, s4, s5, s6, s7, s8, s9, s10, s11⟩
      go_simp
      with_reducible rfl
     rotate_left
     ·exact t6_0
     refine take_ (i := 4) (N := some 29) (v := ?_) (a' := ?_) (bz 8 27) rfl rfl (take_ofW HT_.out HW_.out (by kernel_rfl)) (fun _ _ _ h => h) (Or.inl ⟨by rfl, ?_⟩) hHeld ?_ ?_
     rotate_left
     ·rintro w' ⟨s0, s1, s2, s3, s4, s5, s6, s7, s8, s9, s10, s11⟩
      go_simp
      with_reducible rfl
     rotate_left
     ·exact t6_0
     refine one_ (i := 2) (N := some 27) (bz 8 31) rfl rfl (one_of HT_.out (by kernel_rfl)) (by decide) (fun K hK => ?_)
     refine goes_ Try.func28 (by kernel_rfl) rfl #[.agg #[.int .i64 a0_0, .int .i64 a0_1, .int .i64 a0_2, .int .i64 a0_3, .int .i64 a0_4, .int .i64 a0_5], .agg #[.int .i64 a1_0, .int .i64 a1_1, .int .i64 a1_2, .int .i64 a1_3, .int .i64 a1_4, .int .i64 a1_5]] (by rfl) rfl rfl s6_2 ?_
     with_reducible refine (spec_Behind.calls kj2 a0_0 a0_1 a0_2 a0_3 a0_4 a0_5 a1_0 a1_1 a1_2 a1_3 a1_4 a1_5 t198 _ A34.out).mono ?_
     rintro e w10 ⟨rfl, hb⟩
     refine ⟨_, rfl, ?_⟩
     have n0_ := Aside0.mk (bb (zk BK188.out) hb)
     have n1_ := Aside0.mk (bb (zk BK189.out) hb)
     have n2_ := Aside0.mk (bb (zk BK194.out) hb)
     have n3_ := Aside0.mk (below_step s6_0 hb)
     clear BK188 BK189 BK194 HB
     have BK188 := n0_
     have BK189 := n1_
     have BK194 := n2_
     have HB := n3_
     clear n0_ n1_ n2_ n3_
     (try clear hb)
     (try clear hb2)
     (try clear hk)
     (try clear hi)
     refine hK.out _ _ ⟨bc BK188.out 0, bc BK188.out 1, bc BK188.out 2, bc BK188.out 3, bc BK188.out 4, bc BK188.out 5, bc BK189.out 0, bc BK189.out 1, bc BK189.out 2, bc BK189.out 3, bc BK189.out 4, bc BK189.out 5⟩ (fun hHeld => ?_)
     clear hK K
     refine norm_ (a' := ?_) ?_ ?_
     rotate_left
     ·show Act.put _ (some 27) _ = _
      simp only [Act.put, y1, y2, y3, i64_w, i32_w]
      rfl
     refine one_ (i := 5) (N := some 30) (bz 8 63) rfl rfl (one_of HT_.out (by kernel_rfl)) (by decide) (fun K hK => ?_)
     refine goes_ Try.func28 (by kernel_rfl) rfl #[.agg #[.int .i64 a1_0, .int .i64 a1_1, .int .i64 a1_2, .int .i64 a1_3, .int .i64 a1_4, .int .i64 a1_5], .agg #[.int .i64 a0_0, .int .i64 a0_1, .int .i64 a0_2, .int .i64 a0_3, .int .i64 a0_4, .int .i64 a0_5]] (by rfl) rfl rfl s6_2 ?_
     with_reducible refine (spec_Behind.calls kj2 a1_0 a1_1 a1_2 a1_3 a1_4 a1_5 a0_0 a0_1 a0_2 a0_3 a0_4 a0_5 t199 _ A35.out).mono ?_
     rintro e w11 ⟨rfl, hb⟩
     refine ⟨_, rfl, ?_⟩
     have n0_ := Aside0.mk (bb (zk BK188.out) hb)
     have n1_ := Aside0.mk (bb (zk BK189.out) hb)
     have n2_ := Aside0.mk (bb (zk BK194.out) hb)
     have n3_ := Aside0.mk (below_step s6_0 hb)
     clear BK188 BK189 BK194 HB
     have BK188 := n0_
     have BK189 := n1_
     have BK194 := n2_
     have HB := n3_
     clear n0_ n1_ n2_ n3_
     (try clear hb)
     (try clear hb2)
     (try clear hk)
     (try clear hi)
     refine hK.out _ _ ⟨bc BK188.out 0, bc BK188.out 1, bc BK188.out 2, bc BK188.out 3, bc BK188.out 4, bc BK188.out 5, bc BK189.out 0, bc BK189.out 1, bc BK189.out 2, bc BK189.out 3, bc BK189.out 4, bc BK189.out 5⟩ (fun hHeld => ?_)
     clear hK K
     refine norm_ (a' := ?_) ?_ ?_
     rotate_left
     ·show Act.put _ (some 30) _ = _
      simp only [Act.put, y1, y2, y3, i64_w, i32_w]
      rfl
     refine pure_ (i := 6) (N := some 6) (v := ?_) (a' := ?_) (bz 8 127) rfl rfl (any_of HT_.out (by kernel_rfl)) (fun _ _ _ h => h) (Or.inl ⟨by rfl, ?_⟩) ?_ ?_
     rotate_left
     ·intro w'
      go_simp
      with_reducible rfl
     rotate_left
     ·exact t6_0
     refine pure_ (i := 7) (N := some 7) (v := ?_) (a' := ?_) (bz 8 255) rfl rfl (any_of HT_.out (by kernel_rfl)) (fun _ _ _ h => h) (Or.inl ⟨by rfl, ?_⟩) ?_ ?_
     rotate_left
     ·intro w'
      go_simp
      with_reducible rfl
     rotate_left
     ·exact t6_0
     refine done_ (done_of HT_.out (by kernel_rfl)) ?_
     go_upto_block 0 with (fail)
     go_cut [] (fun wc => ∃ (kq : Nat), Aside0 (spec_Duty.j3 kq a0_0 a0_1 a0_2 a0_3 a0_4 a0_5 a1_0 a1_1 a1_2 a1_3 a1_4 a1_5 = some r) ∧ Aside0 (kq ≤ kj2) ∧ Aside0 (wc.heap[gb188]? = some (.cells #[.int .i64 a0_0, .int .i64 a0_1, .int .i64 a0_2, .int .i64 a0_3, .int .i64 a0_4, .int .i64 a0_5] 25 (0, 0))) ∧ Aside0 (wc.heap[gb189]? = some (.cells #[.int .i64 a1_0, .int .i64 a1_1, .int .i64 a1_2, .int .i64 a1_3, .int .i64 a1_4, .int .i64 a1_5] 25 (0, 0))) ∧ Aside0 (wc.heap[gb194]? = some (.cells #[.int .i64 t192, .int .i64 t193] 83 (0, 0))) ∧ Aside0 (Below w.heap.size w wc))
     case first =>
      have H := HC36.out
      clear HC36
      have HC52 := Aside0.mk H
      clear H
      go_upto_region 7 with (fail)
      go_cut [31] (fun v31 wc => ∃ (kq : Nat) (x31_51 : Bool), v31 = .bool x31_51 ∧ Aside0 (spec_Duty.j1 kq t198 t199 x31_51 a0_0 a0_1 a0_2 a0_3 a0_4 a0_5 a1_0 a1_1 a1_2 a1_3 a1_4 a1_5 = some r) ∧ Aside0 (kq ≤ kj2) ∧ Aside0 (wc.heap[gb188]? = some (.cells #[.int .i64 a0_0, .int .i64 a0_1, .int .i64 a0_2, .int .i64 a0_3, .int .i64 a0_4, .int .i64 a0_5] 25 (0, 0))) ∧ Aside0 (wc.heap[gb189]? = some (.cells #[.int .i64 a1_0, .int .i64 a1_1, .int .i64 a1_2, .int .i64 a1_3, .int .i64 a1_4, .int .i64 a1_5] 25 (0, 0))) ∧ Aside0 (wc.heap[gb194]? = some (.cells #[.int .i64 t192, .int .i64 t193] 83 (0, 0))) ∧ Aside0 (Below w.heap.size w wc))
      case first =>
       have H := HC52.out
       clear HC52
       by_cases c53 : t198 = true
       ·subst c53
        have H1 : (spec_Duty.j1 kj2 true t199 (!t199) a0_0 a0_1 a0_2 a0_3 a0_4 a0_5 a1_0 a1_1 a1_2 a1_3 a1_4 a1_5) = some r := by rw [if_pos rfl] at H; exact H
        clear H
        have H := H1
        clear H1
        have H' := Aside0.mk H
        clear H
        go_wp2
        go_meet
        case rel => exact ⟨_, (!t199), s6_3, H', ⟨by have := HJ2.out; first | omega | exact Nat.le_refl _⟩, ⟨by (with_reducible repeat (first | refine blk_drewN ?_ _ | refine blk_drew ?_ | refine blk_alloc ?_ _)); exact BK188.out⟩, ⟨by (with_reducible repeat (first | refine blk_drewN ?_ _ | refine blk_drew ?_ | refine blk_alloc ?_ _)); exact BK189.out⟩, ⟨by (with_reducible repeat (first | refine blk_drewN ?_ _ | refine blk_drew ?_ | refine blk_alloc ?_ _)); exact BK194.out⟩, ⟨by repeat (first | (with_reducible first | exact HB.out | apply below_alloc | apply pw_below_drewN | apply below_drew1 | refine below_set ?_ GE188.out | refine below_set ?_ GE189.out | refine below_set ?_ GE194.out) | exact HB.out)⟩⟩
       ·replace c53 := Bool.eq_false_iff.mpr c53
        subst c53
        have H1 : (spec_Duty.j1 kj2 false t199 false a0_0 a0_1 a0_2 a0_3 a0_4 a0_5 a1_0 a1_1 a1_2 a1_3 a1_4 a1_5) = some r := by rw [if_neg (show ¬ (false = true) by decide)] at H; exact H
        clear H
        have H := H1
        clear H1
        have H' := Aside0.mk H
        clear H
        go_wp2
        go_meet
        case rel => exact ⟨_, (false), s6_3, H', ⟨by have := HJ2.out; first | omega | exact Nat.le_refl _⟩, ⟨by (with_reducible repeat (first | refine blk_drewN ?_ _ | refine blk_drew ?_ | refine blk_alloc ?_ _)); exact BK188.out⟩, ⟨by (with_reducible repeat (first | refine blk_drewN ?_ _ | refine blk_drew ?_ | refine blk_alloc ?_ _)); exact BK189.out⟩, ⟨by (with_reducible repeat (first | refine blk_drewN ?_ _ | refine blk_drew ?_ | refine blk_alloc ?_ _)); exact BK194.out⟩, ⟨by repeat (first | (with_reducible first | exact HB.out | apply below_alloc | apply pw_below_drewN | apply below_drew1 | refine below_set ?_ GE188.out | refine below_set ?_ GE189.out | refine below_set ?_ GE194.out) | exact HB.out)⟩⟩
      case rest =>
       clear HC52
       (try clear c1); (try clear c2); (try clear p2); (try clear c3); (try clear c4); (try clear c5); (try clear c6); (try clear c7); (try clear c8); (try clear c9); (try clear c14); (try clear c15); (try clear c17); (try clear c21); (try clear c21b0); (try clear c22); (try clear c27); (try clear c28); (try clear c37); (try clear c42); (try clear c43); (try clear c53); (try clear hcz10_0); (try clear hcz10_1); (try clear hcz10_2); (try clear hcz10_3); (try clear hcz10_4); (try clear hcz10_5); (try clear hcz12_0); (try clear hcz12_1); (try clear hcz12_2); (try clear hcz12_3); (try clear hcz12_4); (try clear hcz12_5); (try clear hcz15_0); (try clear hcz15_1); (try clear hcz15_2); (try clear hcz15_3); (try clear hcz15_4); (try clear hcz15_5); (try clear hcz23_0); (try clear hcz23_1); (try clear hcz23_2); (try clear hcz23_3); (try clear hcz23_4); (try clear hcz23_5); (try clear hcz24_0); (try clear hcz24_1); (try clear hcz24_2); (try clear hcz24_3); (try clear hcz24_4); (try clear hcz24_5); (try clear hcz29_0); (try clear hcz29_1); (try clear hcz38_0); (try clear hcz38_1); (try clear hcz38_2); (try clear hcz38_3); (try clear hcz38_4); (try clear hcz38_5); (try clear hcz39_0); (try clear hcz39_1); (try clear hcz39_2); (try clear hcz39_3); (try clear hcz39_4); (try clear hcz39_5); (try clear hcz44_0); (try clear hcz44_1); (try clear hfz10_0); (try clear hfz10_1); (try clear hfz10_2); (try clear hfz10_3); (try clear hfz10_4); (try clear hfz10_5); (try clear hfz12_0); (try clear hfz12_1); (try clear hfz12_2); (try clear hfz12_3); (try clear hfz12_4); (try clear hfz12_5); (try clear hfz15_0); (try clear hfz15_1); (try clear hfz15_2); (try clear hfz15_3); (try clear hfz15_4); (try clear hfz15_5); (try clear hfz23_0); (try clear hfz23_1); (try clear hfz23_2); (try clear hfz23_3); (try clear hfz23_4); (try clear hfz23_5); (try clear hfz24_0); (try clear hfz24_1); (try clear hfz24_2); (try clear hfz24_3); (try clear hfz24_4); (try clear hfz24_5); (try clear hfz29_0); (try clear hfz29_1); (try clear hfz38_0); (try clear hfz38_1); (try clear hfz38_2); (try clear hfz38_3); (try clear hfz38_4); (try clear hfz38_5); (try clear hfz39_0); (try clear hfz39_1); (try clear hfz39_2); (try clear hfz39_3); (try clear hfz39_4); (try clear hfz39_5); (try clear hfz44_0); (try clear hfz44_1); (try clear p2)
       obtain ⟨kq, x31_51, rfl, HA, HJ51, BK188, BK189, BK194, HB⟩ := hcut
       cases kq with
       | zero => exact absurd HA.out (by simp [spec_Duty.j1])
       | succ kj51 =>
        have H := HA.out
        clear HA
        simp only [spec_Duty.j1] at H
        by_cases c54 : x31_51 = true
        ·subst c54
         have H1 : (some 2) = some r := by rw [if_pos rfl] at H; exact H
         clear H
         have H := H1
         clear H1
         obtain rfl := Option.some.inj H
         go_wp2
         go_ret
         exact ⟨by first | rfl | (simp [errW_none, errW_some] <;> rfl) | (simp [*, errW_none, errW_some] <;> rfl), by repeat (first | (with_reducible first | exact HB.out | apply below_alloc | apply pw_below_drewN | apply below_drew1 | refine below_set ?_ GE188.out | refine below_set ?_ GE189.out | refine below_set ?_ GE194.out) | exact HB.out)⟩
        ·replace c54 := Bool.eq_false_iff.mpr c54
         subst c54
         have H1 : (if t199 = true then (spec_Duty.j2 kj51 (!t198) a0_0 a0_1 a0_2 a0_3 a0_4 a0_5 a1_0 a1_1 a1_2 a1_3 a1_4 a1_5) else (spec_Duty.j2 kj51 false a0_0 a0_1 a0_2 a0_3 a0_4 a0_5 a1_0 a1_1 a1_2 a1_3 a1_4 a1_5)) = some r := by rw [if_neg (show ¬ (false = true) by decide)] at H; exact H
         clear H
         have H := H1
         clear H1
         have HC55 := Aside0.mk H
         clear H
         go_upto_region 9 with (fail)
         go_cut [37] (fun v37 wc => ∃ (kq : Nat) (x37_54 : Bool), v37 = .bool x37_54 ∧ Aside0 (spec_Duty.j2 kq x37_54 a0_0 a0_1 a0_2 a0_3 a0_4 a0_5 a1_0 a1_1 a1_2 a1_3 a1_4 a1_5 = some r) ∧ Aside0 (kq ≤ kj51) ∧ Aside0 (wc.heap[gb188]? = some (.cells #[.int .i64 a0_0, .int .i64 a0_1, .int .i64 a0_2, .int .i64 a0_3, .int .i64 a0_4, .int .i64 a0_5] 25 (0, 0))) ∧ Aside0 (wc.heap[gb189]? = some (.cells #[.int .i64 a1_0, .int .i64 a1_1, .int .i64 a1_2, .int .i64 a1_3, .int .i64 a1_4, .int .i64 a1_5] 25 (0, 0))) ∧ Aside0 (wc.heap[gb194]? = some (.cells #[.int .i64 t192, .int .i64 t193] 83 (0, 0))) ∧ Aside0 (Below w.heap.size w wc))
         case first =>
          have H := HC55.out
          clear HC55
          by_cases c56 : t199 = true
          ·subst c56
           have H1 : (spec_Duty.j2 kj51 (!t198) a0_0 a0_1 a0_2 a0_3 a0_4 a0_5 a1_0 a1_1 a1_2 a1_3 a1_4 a1_5) = some r := by rw [if_pos rfl] at H; exact H
           clear H
           have H := H1
           clear H1
           have H' := Aside0.mk H
           clear H
           go_wp2
           go_meet
           case rel => exact ⟨_, (!t198), s6_3, H', ⟨by have := HJ2.out; have := HJ51.out; first | omega | exact Nat.le_refl _⟩, ⟨by (with_reducible repeat (first | refine blk_drewN ?_ _ | refine blk_drew ?_ | refine blk_alloc ?_ _)); exact BK188.out⟩, ⟨by (with_reducible repeat (first | refine blk_drewN ?_ _ | refine blk_drew ?_ | refine blk_alloc ?_ _)); exact BK189.out⟩, ⟨by (with_reducible repeat (first | refine blk_drewN ?_ _ | refine blk_drew ?_ | refine blk_alloc ?_ _)); exact BK194.out⟩, ⟨by repeat (first | (with_reducible first | exact HB.out | apply below_alloc | apply pw_below_drewN | apply below_drew1 | refine below_set ?_ GE188.out | refine below_set ?_ GE189.out | refine below_set ?_ GE194.out) | exact HB.out)⟩⟩
          ·replace c56 := Bool.eq_false_iff.mpr c56
           subst c56
           have H1 : (spec_Duty.j2 kj51 false a0_0 a0_1 a0_2 a0_3 a0_4 a0_5 a1_0 a1_1 a1_2 a1_3 a1_4 a1_5) = some r := by rw [if_neg (show ¬ (false = true) by decide)] at H; exact H
           clear H
           have H := H1
           clear H1
           have H' := Aside0.mk H
           clear H
           go_wp2
           go_meet
           case rel => exact ⟨_, (false), s6_3, H', ⟨by have := HJ2.out; have := HJ51.out; first | omega | exact Nat.le_refl _⟩, ⟨by (with_reducible repeat (first | refine blk_drewN ?_ _ | refine blk_drew ?_ | refine blk_alloc ?_ _)); exact BK188.out⟩, ⟨by (with_reducible repeat (first | refine blk_drewN ?_ _ | refine blk_drew ?_ | refine blk_alloc ?_ _)); exact BK189.out⟩, ⟨by (with_reducible repeat (first | refine blk_drewN ?_ _ | refine blk_drew ?_ | refine blk_alloc ?_ _)); exact BK194.out⟩, ⟨by repeat (first | (with_reducible first | exact HB.out | apply below_alloc | apply pw_below_drewN | apply below_drew1 | refine below_set ?_ GE188.out | refine below_set ?_ GE189.out | refine below_set ?_ GE194.out) | exact HB.out)⟩⟩
         case rest =>
          clear HC55
          (try clear c1); (try clear c2); (try clear p2); (try clear c3); (try clear c4); (try clear c5); (try clear c6); (try clear c7); (try clear c8); (try clear c9); (try clear c14); (try clear c15); (try clear c17); (try clear c21); (try clear c21b0); (try clear c22); (try clear c27); (try clear c28); (try clear c37); (try clear c42); (try clear c43); (try clear c53); (try clear c54); (try clear c56); (try clear hcz10_0); (try clear hcz10_1); (try clear hcz10_2); (try clear hcz10_3); (try clear hcz10_4); (try clear hcz10_5); (try clear hcz12_0); (try clear hcz12_1); (try clear hcz12_2); (try clear hcz12_3); (try clear hcz12_4); (try clear hcz12_5); (try clear hcz15_0); (try clear hcz15_1); (try clear hcz15_2); (try clear hcz15_3); (try clear hcz15_4); (try clear hcz15_5); (try clear hcz23_0); (try clear hcz23_1); (try clear hcz23_2); (try clear hcz23_3); (try clear hcz23_4); (try clear hcz23_5); (try clear hcz24_0); (try clear hcz24_1); (try clear hcz24_2); (try clear hcz24_3); (try clear hcz24_4); (try clear hcz24_5); (try clear hcz29_0); (try clear hcz29_1); (try clear hcz38_0); (try clear hcz38_1); (try clear hcz38_2); (try clear hcz38_3); (try clear hcz38_4); (try clear hcz38_5); (try clear hcz39_0); (try clear hcz39_1); (try clear hcz39_2); (try clear hcz39_3); (try clear hcz39_4); (try clear hcz39_5); (try clear hcz44_0); (try clear hcz44_1); (try clear hfz10_0); (try clear hfz10_1); (try clear hfz10_2); (try clear hfz10_3); (try clear hfz10_4); (try clear hfz10_5); (try clear hfz12_0); (try clear hfz12_1); (try clear hfz12_2); (try clear hfz12_3); (try clear hfz12_4); (try clear hfz12_5); (try clear hfz15_0); (try clear hfz15_1); (try clear hfz15_2); (try clear hfz15_3); (try clear hfz15_4); (try clear hfz15_5); (try clear hfz23_0); (try clear hfz23_1); (try clear hfz23_2); (try clear hfz23_3); (try clear hfz23_4); (try clear hfz23_5); (try clear hfz24_0); (try clear hfz24_1); (try clear hfz24_2); (try clear hfz24_3); (try clear hfz24_4); (try clear hfz24_5); (try clear hfz29_0); (try clear hfz29_1); (try clear hfz38_0); (try clear hfz38_1); (try clear hfz38_2); (try clear hfz38_3); (try clear hfz38_4); (try clear hfz38_5); (try clear hfz39_0); (try clear hfz39_1); (try clear hfz39_2); (try clear hfz39_3); (try clear hfz39_4); (try clear hfz39_5); (try clear hfz44_0); (try clear hfz44_1); (try clear p2)
          obtain ⟨kq, x37_54, rfl, HA, HJ54, BK188, BK189, BK194, HB⟩ := hcut
          cases kq with
          | zero => exact absurd HA.out (by simp [spec_Duty.j2])
          | succ kj54 =>
           have H := HA.out
           clear HA
           simp only [spec_Duty.j2] at H
           by_cases c57 : x37_54 = true
           ·subst c57
            have H1 : (some 1) = some r := by rw [if_pos rfl] at H; exact H
            clear H
            have H := H1
            clear H1
            obtain rfl := Option.some.inj H
            go_wp2
            go_ret
            exact ⟨by first | rfl | (simp [errW_none, errW_some] <;> rfl) | (simp [*, errW_none, errW_some] <;> rfl), by repeat (first | (with_reducible first | exact HB.out | apply below_alloc | apply pw_below_drewN | apply below_drew1 | refine below_set ?_ GE188.out | refine below_set ?_ GE189.out | refine below_set ?_ GE194.out) | exact HB.out)⟩
           ·replace c57 := Bool.eq_false_iff.mpr c57
            subst c57
            have H1 : (if a0_4 < a1_4 then (some 2) else (if a0_4 > a1_4 then (some 1) else ((spec_HeadOn.f kj54 a0_0 a0_1 a0_2 a0_3 a0_4 a0_5 a1_0 a1_1 a1_2 a1_3 a1_4 a1_5).bind fun t200 => (if t200 = true then (if a0_4 = 1 then (some 3) else (spec_Duty.j3 kj54 a0_0 a0_1 a0_2 a0_3 a0_4 a0_5 a1_0 a1_1 a1_2 a1_3 a1_4 a1_5)) else (spec_Duty.j3 kj54 a0_0 a0_1 a0_2 a0_3 a0_4 a0_5 a1_0 a1_1 a1_2 a1_3 a1_4 a1_5))))) = some r := by rw [if_neg (show ¬ (false = true) by decide)] at H; exact H
            clear H
            have H := H1
            clear H1
            by_cases c58 : a0_4 < a1_4
            ·rw [if_pos c58] at H
             have c58b0 : decide (a0_4 < a1_4) = true := decide_eq_true c58
             clear c58
             obtain rfl := Option.some.inj H
             have hnb59 := NB188_189.out
             have hnc59 := NB189_188.out
             have hnb60 := NB188_194.out
             have hnc60 := NB194_188.out
             have hcz61_0 : wc.cell? ⟨gb188, 0, none⟩ = some (.int .i64 a0_0) := bc BK188.out 0
             have hcz61_1 : wc.cell? ⟨gb188, 1, none⟩ = some (.int .i64 a0_1) := bc BK188.out 1
             have hcz61_2 : wc.cell? ⟨gb188, 2, none⟩ = some (.int .i64 a0_2) := bc BK188.out 2
             have hcz61_3 : wc.cell? ⟨gb188, 3, none⟩ = some (.int .i64 a0_3) := bc BK188.out 3
             have hcz61_4 : wc.cell? ⟨gb188, 4, none⟩ = some (.int .i64 a0_4) := bc BK188.out 4
             have hcz61_5 : wc.cell? ⟨gb188, 5, none⟩ = some (.int .i64 a0_5) := bc BK188.out 5
             have hfz61_0 := blk_frozen BK188.out 0
             have hfz61_1 := blk_frozen BK188.out 1
             have hfz61_2 := blk_frozen BK188.out 2
             have hfz61_3 := blk_frozen BK188.out 3
             have hfz61_4 := blk_frozen BK188.out 4
             have hfz61_5 := blk_frozen BK188.out 5
             have hnb62 := NB189_194.out
             have hnc62 := NB194_189.out
             have hcz63_0 : wc.cell? ⟨gb189, 0, none⟩ = some (.int .i64 a1_0) := bc BK189.out 0
             have hcz63_1 : wc.cell? ⟨gb189, 1, none⟩ = some (.int .i64 a1_1) := bc BK189.out 1
             have hcz63_2 : wc.cell? ⟨gb189, 2, none⟩ = some (.int .i64 a1_2) := bc BK189.out 2
             have hcz63_3 : wc.cell? ⟨gb189, 3, none⟩ = some (.int .i64 a1_3) := bc BK189.out 3
             have hcz63_4 : wc.cell? ⟨gb189, 4, none⟩ = some (.int .i64 a1_4) := bc BK189.out 4
             have hcz63_5 : wc.cell? ⟨gb189, 5, none⟩ = some (.int .i64 a1_5) := bc BK189.out 5
             have hfz63_0 := blk_frozen BK189.out 0
             have hfz63_1 := blk_frozen BK189.out 1
             have hfz63_2 := blk_frozen BK189.out 2
             have hfz63_3 := blk_frozen BK189.out 3
             have hfz63_4 := blk_frozen BK189.out 4
             have hfz63_5 := blk_frozen BK189.out 5
             go_wp2
             go_ret
             exact ⟨by first | rfl | (simp [errW_none, errW_some] <;> rfl) | (simp [*, errW_none, errW_some] <;> rfl), by repeat (first | (with_reducible first | exact HB.out | apply below_alloc | apply pw_below_drewN | apply below_drew1 | refine below_set ?_ GE188.out | refine below_set ?_ GE189.out | refine below_set ?_ GE194.out) | exact HB.out)⟩
            ·rw [if_neg c58] at H
             have c58b0 : decide (a0_4 < a1_4) = false := decide_eq_false c58
             clear c58
             by_cases c64 : a0_4 > a1_4
             ·rw [if_pos c64] at H
              have c64b0 : decide (a1_4 < a0_4) = true := decide_eq_true c64
              clear c64
              obtain rfl := Option.some.inj H
              have hnb65 := NB188_189.out
              have hnc65 := NB189_188.out
              have hnb66 := NB188_194.out
              have hnc66 := NB194_188.out
              have hcz67_0 : wc.cell? ⟨gb188, 0, none⟩ = some (.int .i64 a0_0) := bc BK188.out 0
              have hcz67_1 : wc.cell? ⟨gb188, 1, none⟩ = some (.int .i64 a0_1) := bc BK188.out 1
              have hcz67_2 : wc.cell? ⟨gb188, 2, none⟩ = some (.int .i64 a0_2) := bc BK188.out 2
              have hcz67_3 : wc.cell? ⟨gb188, 3, none⟩ = some (.int .i64 a0_3) := bc BK188.out 3
              have hcz67_4 : wc.cell? ⟨gb188, 4, none⟩ = some (.int .i64 a0_4) := bc BK188.out 4
              have hcz67_5 : wc.cell? ⟨gb188, 5, none⟩ = some (.int .i64 a0_5) := bc BK188.out 5
              have hfz67_0 := blk_frozen BK188.out 0
              have hfz67_1 := blk_frozen BK188.out 1
              have hfz67_2 := blk_frozen BK188.out 2
              have hfz67_3 := blk_frozen BK188.out 3
              have hfz67_4 := blk_frozen BK188.out 4
              have hfz67_5 := blk_frozen BK188.out 5
              have hnb68 := NB189_194.out
              have hnc68 := NB194_189.out
              have hcz69_0 : wc.cell? ⟨gb189, 0, none⟩ = some (.int .i64 a1_0) := bc BK189.out 0
              have hcz69_1 : wc.cell? ⟨gb189, 1, none⟩ = some (.int .i64 a1_1) := bc BK189.out 1
              have hcz69_2 : wc.cell? ⟨gb189, 2, none⟩ = some (.int .i64 a1_2) := bc BK189.out 2
              have hcz69_3 : wc.cell? ⟨gb189, 3, none⟩ = some (.int .i64 a1_3) := bc BK189.out 3
              have hcz69_4 : wc.cell? ⟨gb189, 4, none⟩ = some (.int .i64 a1_4) := bc BK189.out 4
              have hcz69_5 : wc.cell? ⟨gb189, 5, none⟩ = some (.int .i64 a1_5) := bc BK189.out 5
              have hfz69_0 := blk_frozen BK189.out 0
              have hfz69_1 := blk_frozen BK189.out 1
              have hfz69_2 := blk_frozen BK189.out 2
              have hfz69_3 := blk_frozen BK189.out 3
              have hfz69_4 := blk_frozen BK189.out 4
              have hfz69_5 := blk_frozen BK189.out 5
              go_wp2
              go_ret
              exact ⟨by first | rfl | (simp [errW_none, errW_some] <;> rfl) | (simp [*, errW_none, errW_some] <;> rfl), by repeat (first | (with_reducible first | exact HB.out | apply below_alloc | apply pw_below_drewN | apply below_drew1 | refine below_set ?_ GE188.out | refine below_set ?_ GE189.out | refine below_set ?_ GE194.out) | exact HB.out)⟩
             ·rw [if_neg c64] at H
              have c64b0 : decide (a1_4 < a0_4) = false := decide_eq_false c64
              clear c64
              replace H := Option.bind_eq_some_iff.mp H
              obtain ⟨t200, A700, H⟩ := H
              replace H : (if t200 = true then (if a0_4 = 1 then (some 3) else (spec_Duty.j3 kj54 a0_0 a0_1 a0_2 a0_3 a0_4 a0_5 a1_0 a1_1 a1_2 a1_3 a1_4 a1_5)) else (spec_Duty.j3 kj54 a0_0 a0_1 a0_2 a0_3 a0_4 a0_5 a1_0 a1_1 a1_2 a1_3 a1_4 a1_5)) = some r := H
              have A70 := Aside0.mk A700
              clear A700
              by_cases c71 : t200 = true
              ·subst c71
               have H1 : (if a0_4 = 1 then (some 3) else (spec_Duty.j3 kj54 a0_0 a0_1 a0_2 a0_3 a0_4 a0_5 a1_0 a1_1 a1_2 a1_3 a1_4 a1_5)) = some r := by rw [if_pos rfl] at H; exact H
               clear H
               have H := H1
               clear H1
               by_cases c72 : a0_4 = 1
               ·rw [if_pos c72] at H
                have c72b0 : (a0_4 == 1) = true := beq_iff_eq.mpr c72
                have c72b1 : (a0_4 != 1) = false := bne_eq_false_iff_eq.mpr c72
                clear c72
                obtain rfl := Option.some.inj H
                have hnb73 := NB188_189.out
                have hnc73 := NB189_188.out
                have hnb74 := NB188_194.out
                have hnc74 := NB194_188.out
                have hcz75_0 : wc.cell? ⟨gb188, 0, none⟩ = some (.int .i64 a0_0) := bc BK188.out 0
                have hcz75_1 : wc.cell? ⟨gb188, 1, none⟩ = some (.int .i64 a0_1) := bc BK188.out 1
                have hcz75_2 : wc.cell? ⟨gb188, 2, none⟩ = some (.int .i64 a0_2) := bc BK188.out 2
                have hcz75_3 : wc.cell? ⟨gb188, 3, none⟩ = some (.int .i64 a0_3) := bc BK188.out 3
                have hcz75_4 : wc.cell? ⟨gb188, 4, none⟩ = some (.int .i64 a0_4) := bc BK188.out 4
                have hcz75_5 : wc.cell? ⟨gb188, 5, none⟩ = some (.int .i64 a0_5) := bc BK188.out 5
                have hfz75_0 := blk_frozen BK188.out 0
                have hfz75_1 := blk_frozen BK188.out 1
                have hfz75_2 := blk_frozen BK188.out 2
                have hfz75_3 := blk_frozen BK188.out 3
                have hfz75_4 := blk_frozen BK188.out 4
                have hfz75_5 := blk_frozen BK188.out 5
                have hnb76 := NB189_194.out
                have hnc76 := NB194_189.out
                have hcz77_0 : wc.cell? ⟨gb189, 0, none⟩ = some (.int .i64 a1_0) := bc BK189.out 0
                have hcz77_1 : wc.cell? ⟨gb189, 1, none⟩ = some (.int .i64 a1_1) := bc BK189.out 1
                have hcz77_2 : wc.cell? ⟨gb189, 2, none⟩ = some (.int .i64 a1_2) := bc BK189.out 2
                have hcz77_3 : wc.cell? ⟨gb189, 3, none⟩ = some (.int .i64 a1_3) := bc BK189.out 3
                have hcz77_4 : wc.cell? ⟨gb189, 4, none⟩ = some (.int .i64 a1_4) := bc BK189.out 4
                have hcz77_5 : wc.cell? ⟨gb189, 5, none⟩ = some (.int .i64 a1_5) := bc BK189.out 5
                have hfz77_0 := blk_frozen BK189.out 0
                have hfz77_1 := blk_frozen BK189.out 1
                have hfz77_2 := blk_frozen BK189.out 2
                have hfz77_3 := blk_frozen BK189.out 3
                have hfz77_4 := blk_frozen BK189.out 4
                have hfz77_5 := blk_frozen BK189.out 5
                go_wp2_with (first | ((with_reducible refine gate_callee (f := 30) rfl ?_); refine goesL_ (some 58) rfl rfl Try.func30 (by kernel_rfl) rfl #[.agg #[.int .i64 a0_0, .int .i64 a0_1, .int .i64 a0_2, .int .i64 a0_3, .int .i64 a0_4, .int .i64 a0_5], .agg #[.int .i64 a1_0, .int .i64 a1_1, .int .i64 a1_2, .int .i64 a1_3, .int .i64 a1_4, .int .i64 a1_5]] rfl s6_2 ?_; (with_reducible refine (spec_HeadOn.calls kj54 a0_0 a0_1 a0_2 a0_3 a0_4 a0_5 a1_0 a1_1 a1_2 a1_3 a1_4 a1_5 true _ A70.out).mono ?_); rintro e w12 ⟨rfl, hb⟩; refine ⟨_, rfl, ?_⟩; have n0_ := Aside0.mk (bb (zk BK188.out) hb); have n1_ := Aside0.mk (bb (zk BK189.out) hb); have n2_ := Aside0.mk (bb (zk BK194.out) hb); have n3_ := Aside0.mk (below_step s6_0 hb); clear BK188; clear BK189; clear BK194; clear HB; have BK188 := n0_; have BK189 := n1_; have BK194 := n2_; have HB := n3_; clear n0_ n1_ n2_ n3_; (try clear hb); (try clear hb2); (try clear hk); (try clear hi); have hcz79_0 : w12.cell? ⟨gb188, 0, none⟩ = some (.int .i64 a0_0) := bc BK188.out 0; have hcz79_1 : w12.cell? ⟨gb188, 1, none⟩ = some (.int .i64 a0_1) := bc BK188.out 1; have hcz79_2 : w12.cell? ⟨gb188, 2, none⟩ = some (.int .i64 a0_2) := bc BK188.out 2; have hcz79_3 : w12.cell? ⟨gb188, 3, none⟩ = some (.int .i64 a0_3) := bc BK188.out 3; have hcz79_4 : w12.cell? ⟨gb188, 4, none⟩ = some (.int .i64 a0_4) := bc BK188.out 4; have hcz79_5 : w12.cell? ⟨gb188, 5, none⟩ = some (.int .i64 a0_5) := bc BK188.out 5; have hfz79_0 := blk_frozen BK188.out 0; have hfz79_1 := blk_frozen BK188.out 1; have hfz79_2 := blk_frozen BK188.out 2; have hfz79_3 := blk_frozen BK188.out 3; have hfz79_4 := blk_frozen BK188.out 4; have hfz79_5 := blk_frozen BK188.out 5))
                go_ret
                exact ⟨by first | rfl | (simp [errW_none, errW_some] <;> rfl) | (simp [*, errW_none, errW_some] <;> rfl), by repeat (first | (with_reducible first | exact HB.out | apply below_alloc | apply pw_below_drewN | apply below_drew1 | refine below_set ?_ GE188.out | refine below_set ?_ GE189.out | refine below_set ?_ GE194.out) | exact HB.out)⟩
               ·rw [if_neg c72] at H
                have c72b0 : (a0_4 == 1) = false := beq_eq_false_iff_ne.mpr c72
                have c72b1 : (a0_4 != 1) = true := bne_iff_ne.mpr c72
                have H' := Aside0.mk H
                clear H
                have hnb80 := NB188_189.out
                have hnc80 := NB189_188.out
                have hnb81 := NB188_194.out
                have hnc81 := NB194_188.out
                have hcz82_0 : wc.cell? ⟨gb188, 0, none⟩ = some (.int .i64 a0_0) := bc BK188.out 0
                have hcz82_1 : wc.cell? ⟨gb188, 1, none⟩ = some (.int .i64 a0_1) := bc BK188.out 1
                have hcz82_2 : wc.cell? ⟨gb188, 2, none⟩ = some (.int .i64 a0_2) := bc BK188.out 2
                have hcz82_3 : wc.cell? ⟨gb188, 3, none⟩ = some (.int .i64 a0_3) := bc BK188.out 3
                have hcz82_4 : wc.cell? ⟨gb188, 4, none⟩ = some (.int .i64 a0_4) := bc BK188.out 4
                have hcz82_5 : wc.cell? ⟨gb188, 5, none⟩ = some (.int .i64 a0_5) := bc BK188.out 5
                have hfz82_0 := blk_frozen BK188.out 0
                have hfz82_1 := blk_frozen BK188.out 1
                have hfz82_2 := blk_frozen BK188.out 2
                have hfz82_3 := blk_frozen BK188.out 3
                have hfz82_4 := blk_frozen BK188.out 4
                have hfz82_5 := blk_frozen BK188.out 5
                have hnb83 := NB189_194.out
                have hnc83 := NB194_189.out
                have hcz84_0 : wc.cell? ⟨gb189, 0, none⟩ = some (.int .i64 a1_0) := bc BK189.out 0
                have hcz84_1 : wc.cell? ⟨gb189, 1, none⟩ = some (.int .i64 a1_1) := bc BK189.out 1
                have hcz84_2 : wc.cell? ⟨gb189, 2, none⟩ = some (.int .i64 a1_2) := bc BK189.out 2
                have hcz84_3 : wc.cell? ⟨gb189, 3, none⟩ = some (.int .i64 a1_3) := bc BK189.out 3
                have hcz84_4 : wc.cell? ⟨gb189, 4, none⟩ = some (.int .i64 a1_4) := bc BK189.out 4
                have hcz84_5 : wc.cell? ⟨gb189, 5, none⟩ = some (.int .i64 a1_5) := bc BK189.out 5
                have hfz84_0 := blk_frozen BK189.out 0
                have hfz84_1 := blk_frozen BK189.out 1
                have hfz84_2 := blk_frozen BK189.out 2
                have hfz84_3 := blk_frozen BK189.out 3
                have hfz84_4 := blk_frozen BK189.out 4
                have hfz84_5 := blk_frozen BK189.out 5
                go_wp2_with (first | ((with_reducible refine gate_callee (f := 30) rfl ?_); refine goesL_ (some 58) rfl rfl Try.func30 (by kernel_rfl) rfl #[.agg #[.int .i64 a0_0, .int .i64 a0_1, .int .i64 a0_2, .int .i64 a0_3, .int .i64 a0_4, .int .i64 a0_5], .agg #[.int .i64 a1_0, .int .i64 a1_1, .int .i64 a1_2, .int .i64 a1_3, .int .i64 a1_4, .int .i64 a1_5]] rfl s6_2 ?_; (with_reducible refine (spec_HeadOn.calls kj54 a0_0 a0_1 a0_2 a0_3 a0_4 a0_5 a1_0 a1_1 a1_2 a1_3 a1_4 a1_5 true _ A70.out).mono ?_); rintro e w12 ⟨rfl, hb⟩; refine ⟨_, rfl, ?_⟩; have n0_ := Aside0.mk (bb (zk BK188.out) hb); have n1_ := Aside0.mk (bb (zk BK189.out) hb); have n2_ := Aside0.mk (bb (zk BK194.out) hb); have n3_ := Aside0.mk (below_step s6_0 hb); clear BK188; clear BK189; clear BK194; clear HB; have BK188 := n0_; have BK189 := n1_; have BK194 := n2_; have HB := n3_; clear n0_ n1_ n2_ n3_; (try clear hb); (try clear hb2); (try clear hk); (try clear hi); have hcz86_0 : w12.cell? ⟨gb188, 0, none⟩ = some (.int .i64 a0_0) := bc BK188.out 0; have hcz86_1 : w12.cell? ⟨gb188, 1, none⟩ = some (.int .i64 a0_1) := bc BK188.out 1; have hcz86_2 : w12.cell? ⟨gb188, 2, none⟩ = some (.int .i64 a0_2) := bc BK188.out 2; have hcz86_3 : w12.cell? ⟨gb188, 3, none⟩ = some (.int .i64 a0_3) := bc BK188.out 3; have hcz86_4 : w12.cell? ⟨gb188, 4, none⟩ = some (.int .i64 a0_4) := bc BK188.out 4; have hcz86_5 : w12.cell? ⟨gb188, 5, none⟩ = some (.int .i64 a0_5) := bc BK188.out 5; have hfz86_0 := blk_frozen BK188.out 0; have hfz86_1 := blk_frozen BK188.out 1; have hfz86_2 := blk_frozen BK188.out 2; have hfz86_3 := blk_frozen BK188.out 3; have hfz86_4 := blk_frozen BK188.out 4; have hfz86_5 := blk_frozen BK188.out 5))
                go_meet
                case rel => exact ⟨_, H', ⟨by have := HJ2.out; have := HJ51.out; have := HJ54.out; first | omega | exact Nat.le_refl _⟩, ⟨by (with_reducible repeat (first | refine blk_drewN ?_ _ | refine blk_drew ?_ | refine blk_alloc ?_ _)); exact BK188.out⟩, ⟨by (with_reducible repeat (first | refine blk_drewN ?_ _ | refine blk_drew ?_ | refine blk_alloc ?_ _)); exact BK189.out⟩, ⟨by (with_reducible repeat (first | refine blk_drewN ?_ _ | refine blk_drew ?_ | refine blk_alloc ?_ _)); exact BK194.out⟩, ⟨by repeat (first | (with_reducible first | exact HB.out | apply below_alloc | apply pw_below_drewN | apply below_drew1 | refine below_set ?_ GE188.out | refine below_set ?_ GE189.out | refine below_set ?_ GE194.out) | exact HB.out)⟩⟩
              ·replace c71 := Bool.eq_false_iff.mpr c71
               subst c71
               have H1 : (spec_Duty.j3 kj54 a0_0 a0_1 a0_2 a0_3 a0_4 a0_5 a1_0 a1_1 a1_2 a1_3 a1_4 a1_5) = some r := by rw [if_neg (show ¬ (false = true) by decide)] at H; exact H
               clear H
               have H := H1
               clear H1
               have H' := Aside0.mk H
               clear H
               have hnb87 := NB188_189.out
               have hnc87 := NB189_188.out
               have hnb88 := NB188_194.out
               have hnc88 := NB194_188.out
               have hcz89_0 : wc.cell? ⟨gb188, 0, none⟩ = some (.int .i64 a0_0) := bc BK188.out 0
               have hcz89_1 : wc.cell? ⟨gb188, 1, none⟩ = some (.int .i64 a0_1) := bc BK188.out 1
               have hcz89_2 : wc.cell? ⟨gb188, 2, none⟩ = some (.int .i64 a0_2) := bc BK188.out 2
               have hcz89_3 : wc.cell? ⟨gb188, 3, none⟩ = some (.int .i64 a0_3) := bc BK188.out 3
               have hcz89_4 : wc.cell? ⟨gb188, 4, none⟩ = some (.int .i64 a0_4) := bc BK188.out 4
               have hcz89_5 : wc.cell? ⟨gb188, 5, none⟩ = some (.int .i64 a0_5) := bc BK188.out 5
               have hfz89_0 := blk_frozen BK188.out 0
               have hfz89_1 := blk_frozen BK188.out 1
               have hfz89_2 := blk_frozen BK188.out 2
               have hfz89_3 := blk_frozen BK188.out 3
               have hfz89_4 := blk_frozen BK188.out 4
               have hfz89_5 := blk_frozen BK188.out 5
               have hnb90 := NB189_194.out
               have hnc90 := NB194_189.out
               have hcz91_0 : wc.cell? ⟨gb189, 0, none⟩ = some (.int .i64 a1_0) := bc BK189.out 0
               have hcz91_1 : wc.cell? ⟨gb189, 1, none⟩ = some (.int .i64 a1_1) := bc BK189.out 1
               have hcz91_2 : wc.cell? ⟨gb189, 2, none⟩ = some (.int .i64 a1_2) := bc BK189.out 2
               have hcz91_3 : wc.cell? ⟨gb189, 3, none⟩ = some (.int .i64 a1_3) := bc BK189.out 3
               have hcz91_4 : wc.cell? ⟨gb189, 4, none⟩ = some (.int .i64 a1_4) := bc BK189.out 4
               have hcz91_5 : wc.cell? ⟨gb189, 5, none⟩ = some (.int .i64 a1_5) := bc BK189.out 5
               have hfz91_0 := blk_frozen BK189.out 0
               have hfz91_1 := blk_frozen BK189.out 1
               have hfz91_2 := blk_frozen BK189.out 2
               have hfz91_3 := blk_frozen BK189.out 3
               have hfz91_4 := blk_frozen BK189.out 4
               have hfz91_5 := blk_frozen BK189.out 5
               go_wp2_with (first | ((with_reducible refine gate_callee (f := 30) rfl ?_); refine goesL_ (some 58) rfl rfl Try.func30 (by kernel_rfl) rfl #[.agg #[.int .i64 a0_0, .int .i64 a0_1, .int .i64 a0_2, .int .i64 a0_3, .int .i64 a0_4, .int .i64 a0_5], .agg #[.int .i64 a1_0, .int .i64 a1_1, .int .i64 a1_2, .int .i64 a1_3, .int .i64 a1_4, .int .i64 a1_5]] rfl s6_2 ?_; (with_reducible refine (spec_HeadOn.calls kj54 a0_0 a0_1 a0_2 a0_3 a0_4 a0_5 a1_0 a1_1 a1_2 a1_3 a1_4 a1_5 false _ A70.out).mono ?_); rintro e w12 ⟨rfl, hb⟩; refine ⟨_, rfl, ?_⟩; have n0_ := Aside0.mk (bb (zk BK188.out) hb); have n1_ := Aside0.mk (bb (zk BK189.out) hb); have n2_ := Aside0.mk (bb (zk BK194.out) hb); have n3_ := Aside0.mk (below_step s6_0 hb); clear BK188; clear BK189; clear BK194; clear HB; have BK188 := n0_; have BK189 := n1_; have BK194 := n2_; have HB := n3_; clear n0_ n1_ n2_ n3_; (try clear hb); (try clear hb2); (try clear hk); (try clear hi)))
               go_meet
               case rel => exact ⟨_, H', ⟨by have := HJ2.out; have := HJ51.out; have := HJ54.out; first | omega | exact Nat.le_refl _⟩, ⟨by (with_reducible repeat (first | refine blk_drewN ?_ _ | refine blk_drew ?_ | refine blk_alloc ?_ _)); exact BK188.out⟩, ⟨by (with_reducible repeat (first | refine blk_drewN ?_ _ | refine blk_drew ?_ | refine blk_alloc ?_ _)); exact BK189.out⟩, ⟨by (with_reducible repeat (first | refine blk_drewN ?_ _ | refine blk_drew ?_ | refine blk_alloc ?_ _)); exact BK194.out⟩, ⟨by repeat (first | (with_reducible first | exact HB.out | apply below_alloc | apply pw_below_drewN | apply below_drew1 | refine below_set ?_ GE188.out | refine below_set ?_ GE189.out | refine below_set ?_ GE194.out) | exact HB.out)⟩⟩
     case rest =>
      clear HC36
      (try clear c1); (try clear c2); (try clear p2); (try clear c3); (try clear c4); (try clear c5); (try clear c6); (try clear c7); (try clear c8); (try clear c9); (try clear c14); (try clear c15); (try clear c17); (try clear c21); (try clear c21b0); (try clear c22); (try clear c27); (try clear c28); (try clear c30); (try clear c37); (try clear c42); (try clear c43); (try clear c53); (try clear c54); (try clear c56); (try clear c57); (try clear c58); (try clear c58b0); (try clear c59); (try clear c60); (try clear c62); (try clear c64); (try clear c64b0); (try clear c65); (try clear c66); (try clear c68); (try clear c71); (try clear c72); (try clear c72b0); (try clear c72b1); (try clear c73); (try clear c74); (try clear c76); (try clear c80); (try clear c81); (try clear c83); (try clear c87); (try clear c88); (try clear c90); (try clear hcz10_0); (try clear hcz10_1); (try clear hcz10_2); (try clear hcz10_3); (try clear hcz10_4); (try clear hcz10_5); (try clear hcz12_0); (try clear hcz12_1); (try clear hcz12_2); (try clear hcz12_3); (try clear hcz12_4); (try clear hcz12_5); (try clear hcz15_0); (try clear hcz15_1); (try clear hcz15_2); (try clear hcz15_3); (try clear hcz15_4); (try clear hcz15_5); (try clear hcz23_0); (try clear hcz23_1); (try clear hcz23_2); (try clear hcz23_3); (try clear hcz23_4); (try clear hcz23_5); (try clear hcz24_0); (try clear hcz24_1); (try clear hcz24_2); (try clear hcz24_3); (try clear hcz24_4); (try clear hcz24_5); (try clear hcz29_0); (try clear hcz29_1); (try clear hcz38_0); (try clear hcz38_1); (try clear hcz38_2); (try clear hcz38_3); (try clear hcz38_4); (try clear hcz38_5); (try clear hcz39_0); (try clear hcz39_1); (try clear hcz39_2); (try clear hcz39_3); (try clear hcz39_4); (try clear hcz39_5); (try clear hcz44_0); (try clear hcz44_1); (try clear hcz61_0); (try clear hcz61_1); (try clear hcz61_2); (try clear hcz61_3); (try clear hcz61_4); (try clear hcz61_5); (try clear hcz63_0); (try clear hcz63_1); (try clear hcz63_2); (try clear hcz63_3); (try clear hcz63_4); (try clear hcz63_5); (try clear hcz67_0); (try clear hcz67_1); (try clear hcz67_2); (try clear hcz67_3); (try clear hcz67_4); (try clear hcz67_5); (try clear hcz69_0); (try clear hcz69_1); (try clear hcz69_2); (try clear hcz69_3); (try clear hcz69_4); (try clear hcz69_5); (try clear hcz75_0); (try clear hcz75_1); (try clear hcz75_2); (try clear hcz75_3); (try clear hcz75_4); (try clear hcz75_5); (try clear hcz77_0); (try clear hcz77_1); (try clear hcz77_2); (try clear hcz77_3); (try clear hcz77_4); (try clear hcz77_5); (try clear hcz79_0); (try clear hcz79_1); (try clear hcz79_2); (try clear hcz79_3); (try clear hcz79_4); (try clear hcz79_5); (try clear hcz82_0); (try clear hcz82_1); (try clear hcz82_2); (try clear hcz82_3); (try clear hcz82_4); (try clear hcz82_5); (try clear hcz84_0); (try clear hcz84_1); (try clear hcz84_2); (try clear hcz84_3); (try clear hcz84_4); (try clear hcz84_5); (try clear hcz86_0); (try clear hcz86_1); (try clear hcz86_2); (try clear hcz86_3); (try clear hcz86_4); (try clear hcz86_5); (try clear hcz89_0); (try clear hcz89_1); (try clear hcz89_2); (try clear hcz89_3); (try clear hcz89_4); (try clear hcz89_5); (try clear hcz91_0); (try clear hcz91_1); (try clear hcz91_2); (try clear hcz91_3); (try clear hcz91_4); (try clear hcz91_5); (try clear hfz10_0); (try clear hfz10_1); (try clear hfz10_2); (try clear hfz10_3); (try clear hfz10_4); (try clear hfz10_5); (try clear hfz12_0); (try clear hfz12_1); (try clear hfz12_2); (try clear hfz12_3); (try clear hfz12_4); (try clear hfz12_5); (try clear hfz15_0); (try clear hfz15_1); (try clear hfz15_2); (try clear hfz15_3); (try clear hfz15_4); (try clear hfz15_5); (try clear hfz23_0); (try clear hfz23_1); (try clear hfz23_2); (try clear hfz23_3); (try clear hfz23_4); (try clear hfz23_5); (try clear hfz24_0); (try clear hfz24_1); (try clear hfz24_2); (try clear hfz24_3); (try clear hfz24_4); (try clear hfz24_5); (try clear hfz29_0); (try clear hfz29_1); (try clear hfz38_0); (try clear hfz38_1); (try clear hfz38_2); (try clear hfz38_3); (try clear hfz38_4); (try clear hfz38_5); (try clear hfz39_0); (try clear hfz39_1); (try clear hfz39_2); (try clear hfz39_3); (try clear hfz39_4); (try clear hfz39_5); (try clear hfz44_0); (try clear hfz44_1); (try clear hfz61_0); (try clear hfz61_1); (try clear hfz61_2); (try clear hfz61_3); (try clear hfz61_4); (try clear hfz61_5); (try clear hfz63_0); (try clear hfz63_1); (try clear hfz63_2); (try clear hfz63_3); (try clear hfz63_4); (try clear hfz63_5); (try clear hfz67_0); (try clear hfz67_1); (try clear hfz67_2); (try clear hfz67_3); (try clear hfz67_4); (try clear hfz67_5); (try clear hfz69_0); (try clear hfz69_1); (try clear hfz69_2); (try clear hfz69_3); (try clear hfz69_4); (try clear hfz69_5); (try clear hfz75_0); (try clear hfz75_1); (try clear hfz75_2); (try clear hfz75_3); (try clear hfz75_4); (try clear hfz75_5); (try clear hfz77_0); (try clear hfz77_1); (try clear hfz77_2); (try clear hfz77_3); (try clear hfz77_4); (try clear hfz77_5); (try clear hfz79_0); (try clear hfz79_1); (try clear hfz79_2); (try clear hfz79_3); (try clear hfz79_4); (try clear hfz79_5); (try clear hfz82_0); (try clear hfz82_1); (try clear hfz82_2); (try clear hfz82_3); (try clear hfz82_4); (try clear hfz82_5); (try clear hfz84_0); (try clear hfz84_1); (try clear hfz84_2); (try clear hfz84_3); (try clear hfz84_4); (try clear hfz84_5); (try clear hfz86_0); (try clear hfz86_1); (try clear hfz86_2); (try clear hfz86_3); (try clear hfz86_4); (try clear hfz86_5); (try clear hfz89_0); (try clear hfz89_1); (try clear hfz89_2); (try clear hfz89_3); (try clear hfz89_4); (try clear hfz89_5); (try clear hfz91_0); (try clear hfz91_1); (try clear hfz91_2); (try clear hfz91_3); (try clear hfz91_4); (try clear hfz91_5); (try clear p2)
      obtain ⟨kq, HA, HJ35, BK188, BK189, BK194, HB⟩ := hcut
      cases kq with
      | zero => exact absurd HA.out (by simp [spec_Duty.j3])
      | succ kj35 =>
       have H := HA.out
       clear HA
       simp only [spec_Duty.j3] at H
       replace H := Option.bind_eq_some_iff.mp H
       obtain ⟨t201, A930, H⟩ := H
       replace H : ((spec_l8Right.f a1_0 a1_1 a1_2 a1_3 a1_4 a1_5 a0_0 a0_1 a0_2 a0_3 a0_4 a0_5).bind fun t202 => (if t201 = true then (spec_Duty.j4 kj35 t201 t202 (!t202) a0_0 a0_1 a0_2 a0_3 a0_4 a0_5 a1_0 a1_1 a1_2 a1_3 a1_4 a1_5) else (spec_Duty.j4 kj35 t201 t202 false a0_0 a0_1 a0_2 a0_3 a0_4 a0_5 a1_0 a1_1 a1_2 a1_3 a1_4 a1_5))) = some r := H
       have A93 := Aside0.mk A930
       clear A930
       replace H := Option.bind_eq_some_iff.mp H
       obtain ⟨t202, A940, H⟩ := H
       replace H : (if t201 = true then (spec_Duty.j4 kj35 t201 t202 (!t202) a0_0 a0_1 a0_2 a0_3 a0_4 a0_5 a1_0 a1_1 a1_2 a1_3 a1_4 a1_5) else (spec_Duty.j4 kj35 t201 t202 false a0_0 a0_1 a0_2 a0_3 a0_4 a0_5 a1_0 a1_1 a1_2 a1_3 a1_4 a1_5)) = some r := H
       have A94 := Aside0.mk A940
       clear A940
       have HC95 := Aside0.mk H
       clear H
       have hnb96 := NB188_189.out
       have hnc96 := NB189_188.out
       have hnb97 := NB188_194.out
       have hnc97 := NB194_188.out
       have hcz98_0 : wc.cell? ⟨gb188, 0, none⟩ = some (.int .i64 a0_0) := bc BK188.out 0
       have hcz98_1 : wc.cell? ⟨gb188, 1, none⟩ = some (.int .i64 a0_1) := bc BK188.out 1
       have hcz98_2 : wc.cell? ⟨gb188, 2, none⟩ = some (.int .i64 a0_2) := bc BK188.out 2
       have hcz98_3 : wc.cell? ⟨gb188, 3, none⟩ = some (.int .i64 a0_3) := bc BK188.out 3
       have hcz98_4 : wc.cell? ⟨gb188, 4, none⟩ = some (.int .i64 a0_4) := bc BK188.out 4
       have hcz98_5 : wc.cell? ⟨gb188, 5, none⟩ = some (.int .i64 a0_5) := bc BK188.out 5
       have hfz98_0 := blk_frozen BK188.out 0
       have hfz98_1 := blk_frozen BK188.out 1
       have hfz98_2 := blk_frozen BK188.out 2
       have hfz98_3 := blk_frozen BK188.out 3
       have hfz98_4 := blk_frozen BK188.out 4
       have hfz98_5 := blk_frozen BK188.out 5
       have hnb99 := NB189_194.out
       have hnc99 := NB194_189.out
       have hcz100_0 : wc.cell? ⟨gb189, 0, none⟩ = some (.int .i64 a1_0) := bc BK189.out 0
       have hcz100_1 : wc.cell? ⟨gb189, 1, none⟩ = some (.int .i64 a1_1) := bc BK189.out 1
       have hcz100_2 : wc.cell? ⟨gb189, 2, none⟩ = some (.int .i64 a1_2) := bc BK189.out 2
       have hcz100_3 : wc.cell? ⟨gb189, 3, none⟩ = some (.int .i64 a1_3) := bc BK189.out 3
       have hcz100_4 : wc.cell? ⟨gb189, 4, none⟩ = some (.int .i64 a1_4) := bc BK189.out 4
       have hcz100_5 : wc.cell? ⟨gb189, 5, none⟩ = some (.int .i64 a1_5) := bc BK189.out 5
       have hfz100_0 := blk_frozen BK189.out 0
       have hfz100_1 := blk_frozen BK189.out 1
       have hfz100_2 := blk_frozen BK189.out 2
       have hfz100_3 := blk_frozen BK189.out 3
       have hfz100_4 := blk_frozen BK189.out 4
       have hfz100_5 := blk_frozen BK189.out 5
       go_upto_region 19 with (first | ((with_reducible refine gate_callee (f := 87) rfl ?_); refine goesL_ (some 66) rfl rfl Try.func87 (by kernel_rfl) rfl #[.agg #[.int .i64 a0_0, .int .i64 a0_1, .int .i64 a0_2, .int .i64 a0_3, .int .i64 a0_4, .int .i64 a0_5], .agg #[.int .i64 a1_0, .int .i64 a1_1, .int .i64 a1_2, .int .i64 a1_3, .int .i64 a1_4, .int .i64 a1_5]] rfl s6_2 ?_; (with_reducible refine (spec_l8Right.calls a0_0 a0_1 a0_2 a0_3 a0_4 a0_5 a1_0 a1_1 a1_2 a1_3 a1_4 a1_5 t201 _ A93.out).mono ?_); rintro e w12 ⟨rfl, hb⟩; refine ⟨_, rfl, ?_⟩; have n0_ := Aside0.mk (bb (zk BK188.out) hb); have n1_ := Aside0.mk (bb (zk BK189.out) hb); have n2_ := Aside0.mk (bb (zk BK194.out) hb); have n3_ := Aside0.mk (below_step s6_0 hb); clear BK188; clear BK189; clear BK194; clear HB; have BK188 := n0_; have BK189 := n1_; have BK194 := n2_; have HB := n3_; clear n0_ n1_ n2_ n3_; (try clear hb); (try clear hb2); (try clear hk); (try clear hi); have hcz102_0 : w12.cell? ⟨gb189, 0, none⟩ = some (.int .i64 a1_0) := bc BK189.out 0; have hcz102_1 : w12.cell? ⟨gb189, 1, none⟩ = some (.int .i64 a1_1) := bc BK189.out 1; have hcz102_2 : w12.cell? ⟨gb189, 2, none⟩ = some (.int .i64 a1_2) := bc BK189.out 2; have hcz102_3 : w12.cell? ⟨gb189, 3, none⟩ = some (.int .i64 a1_3) := bc BK189.out 3; have hcz102_4 : w12.cell? ⟨gb189, 4, none⟩ = some (.int .i64 a1_4) := bc BK189.out 4; have hcz102_5 : w12.cell? ⟨gb189, 5, none⟩ = some (.int .i64 a1_5) := bc BK189.out 5; have hfz102_0 := blk_frozen BK189.out 0; have hfz102_1 := blk_frozen BK189.out 1; have hfz102_2 := blk_frozen BK189.out 2; have hfz102_3 := blk_frozen BK189.out 3; have hfz102_4 := blk_frozen BK189.out 4; have hfz102_5 := blk_frozen BK189.out 5; have hcz103_0 : w12.cell? ⟨gb188, 0, none⟩ = some (.int .i64 a0_0) := bc BK188.out 0; have hcz103_1 : w12.cell? ⟨gb188, 1, none⟩ = some (.int .i64 a0_1) := bc BK188.out 1; have hcz103_2 : w12.cell? ⟨gb188, 2, none⟩ = some (.int .i64 a0_2) := bc BK188.out 2; have hcz103_3 : w12.cell? ⟨gb188, 3, none⟩ = some (.int .i64 a0_3) := bc BK188.out 3; have hcz103_4 : w12.cell? ⟨gb188, 4, none⟩ = some (.int .i64 a0_4) := bc BK188.out 4; have hcz103_5 : w12.cell? ⟨gb188, 5, none⟩ = some (.int .i64 a0_5) := bc BK188.out 5; have hfz103_0 := blk_frozen BK188.out 0; have hfz103_1 := blk_frozen BK188.out 1; have hfz103_2 := blk_frozen BK188.out 2; have hfz103_3 := blk_frozen BK188.out 3; have hfz103_4 := blk_frozen BK188.out 4; have hfz103_5 := blk_frozen BK188.out 5) | ((with_reducible refine gate_callee (f := 87) rfl ?_); refine goesL_ (some 69) rfl rfl Try.func87 (by kernel_rfl) rfl #[.agg #[.int .i64 a1_0, .int .i64 a1_1, .int .i64 a1_2, .int .i64 a1_3, .int .i64 a1_4, .int .i64 a1_5], .agg #[.int .i64 a0_0, .int .i64 a0_1, .int .i64 a0_2, .int .i64 a0_3, .int .i64 a0_4, .int .i64 a0_5]] rfl s6_2 ?_; (with_reducible refine (spec_l8Right.calls a1_0 a1_1 a1_2 a1_3 a1_4 a1_5 a0_0 a0_1 a0_2 a0_3 a0_4 a0_5 t202 _ A94.out).mono ?_); rintro e w13 ⟨rfl, hb⟩; refine ⟨_, rfl, ?_⟩; have n0_ := Aside0.mk (bb (zk BK188.out) hb); have n1_ := Aside0.mk (bb (zk BK189.out) hb); have n2_ := Aside0.mk (bb (zk BK194.out) hb); have n3_ := Aside0.mk (below_step s6_0 hb); clear BK188; clear BK189; clear BK194; clear HB; have BK188 := n0_; have BK189 := n1_; have BK194 := n2_; have HB := n3_; clear n0_ n1_ n2_ n3_; (try clear hb); (try clear hb2); (try clear hk); (try clear hi)))
       (try simp only [Act.put, List.setIfInBounds_toArray, List.set_cons_zero, List.set_cons_succ])
       go_cut [70] (fun v70 wc => ∃ (kq : Nat) (x70_94 : Bool), v70 = .bool x70_94 ∧ Aside0 (spec_Duty.j4 kq t201 t202 x70_94 a0_0 a0_1 a0_2 a0_3 a0_4 a0_5 a1_0 a1_1 a1_2 a1_3 a1_4 a1_5 = some r) ∧ Aside0 (kq ≤ kj35) ∧ Aside0 (wc.heap[gb188]? = some (.cells #[.int .i64 a0_0, .int .i64 a0_1, .int .i64 a0_2, .int .i64 a0_3, .int .i64 a0_4, .int .i64 a0_5] 25 (0, 0))) ∧ Aside0 (wc.heap[gb189]? = some (.cells #[.int .i64 a1_0, .int .i64 a1_1, .int .i64 a1_2, .int .i64 a1_3, .int .i64 a1_4, .int .i64 a1_5] 25 (0, 0))) ∧ Aside0 (wc.heap[gb194]? = some (.cells #[.int .i64 t192, .int .i64 t193] 83 (0, 0))) ∧ Aside0 (Below w.heap.size w wc))
       case first =>
        have H := HC95.out
        clear HC95
        by_cases c105 : t201 = true
        ·subst c105
         have H1 : (spec_Duty.j4 kj35 true t202 (!t202) a0_0 a0_1 a0_2 a0_3 a0_4 a0_5 a1_0 a1_1 a1_2 a1_3 a1_4 a1_5) = some r := by rw [if_pos rfl] at H; exact H
         clear H
         have H := H1
         clear H1
         have H' := Aside0.mk H
         clear H
         go_wp2
         go_meet
         case rel => exact ⟨_, (!t202), s6_3, H', ⟨by have := HJ2.out; have := HJ35.out; first | omega | exact Nat.le_refl _⟩, ⟨by (with_reducible repeat (first | refine blk_drewN ?_ _ | refine blk_drew ?_ | refine blk_alloc ?_ _)); exact BK188.out⟩, ⟨by (with_reducible repeat (first | refine blk_drewN ?_ _ | refine blk_drew ?_ | refine blk_alloc ?_ _)); exact BK189.out⟩, ⟨by (with_reducible repeat (first | refine blk_drewN ?_ _ | refine blk_drew ?_ | refine blk_alloc ?_ _)); exact BK194.out⟩, ⟨by repeat (first | (with_reducible first | exact HB.out | apply below_alloc | apply pw_below_drewN | apply below_drew1 | refine below_set ?_ GE188.out | refine below_set ?_ GE189.out | refine below_set ?_ GE194.out) | exact HB.out)⟩⟩
        ·replace c105 := Bool.eq_false_iff.mpr c105
         subst c105
         have H1 : (spec_Duty.j4 kj35 false t202 false a0_0 a0_1 a0_2 a0_3 a0_4 a0_5 a1_0 a1_1 a1_2 a1_3 a1_4 a1_5) = some r := by rw [if_neg (show ¬ (false = true) by decide)] at H; exact H
         clear H
         have H := H1
         clear H1
         have H' := Aside0.mk H
         clear H
         go_wp2
         go_meet
         case rel => exact ⟨_, (false), s6_3, H', ⟨by have := HJ2.out; have := HJ35.out; first | omega | exact Nat.le_refl _⟩, ⟨by (with_reducible repeat (first | refine blk_drewN ?_ _ | refine blk_drew ?_ | refine blk_alloc ?_ _)); exact BK188.out⟩, ⟨by (with_reducible repeat (first | refine blk_drewN ?_ _ | refine blk_drew ?_ | refine blk_alloc ?_ _)); exact BK189.out⟩, ⟨by (with_reducible repeat (first | refine blk_drewN ?_ _ | refine blk_drew ?_ | refine blk_alloc ?_ _)); exact BK194.out⟩, ⟨by repeat (first | (with_reducible first | exact HB.out | apply below_alloc | apply pw_below_drewN | apply below_drew1 | refine below_set ?_ GE188.out | refine below_set ?_ GE189.out | refine below_set ?_ GE194.out) | exact HB.out)⟩⟩
       case rest =>
        clear HC95
        (try clear c1); (try clear c2); (try clear p2); (try clear c3); (try clear c4); (try clear c5); (try clear c6); (try clear c7); (try clear c8); (try clear c9); (try clear c10); (try clear c14); (try clear c15); (try clear c17); (try clear c21); (try clear c21b0); (try clear c22); (try clear c27); (try clear c28); (try clear c30); (try clear c37); (try clear c42); (try clear c43); (try clear c53); (try clear c54); (try clear c56); (try clear c57); (try clear c58); (try clear c58b0); (try clear c59); (try clear c60); (try clear c62); (try clear c64); (try clear c64b0); (try clear c65); (try clear c66); (try clear c68); (try clear c71); (try clear c72); (try clear c72b0); (try clear c72b1); (try clear c73); (try clear c74); (try clear c76); (try clear c80); (try clear c81); (try clear c83); (try clear c87); (try clear c88); (try clear c90); (try clear c96); (try clear c97); (try clear c99); (try clear c105); (try clear hcz100_0); (try clear hcz100_1); (try clear hcz100_2); (try clear hcz100_3); (try clear hcz100_4); (try clear hcz100_5); (try clear hcz102_0); (try clear hcz102_1); (try clear hcz102_2); (try clear hcz102_3); (try clear hcz102_4); (try clear hcz102_5); (try clear hcz103_0); (try clear hcz103_1); (try clear hcz103_2); (try clear hcz103_3); (try clear hcz103_4); (try clear hcz103_5); (try clear hcz10_0); (try clear hcz10_1); (try clear hcz10_2); (try clear hcz10_3); (try clear hcz10_4); (try clear hcz10_5); (try clear hcz12_0); (try clear hcz12_1); (try clear hcz12_2); (try clear hcz12_3); (try clear hcz12_4); (try clear hcz12_5); (try clear hcz15_0); (try clear hcz15_1); (try clear hcz15_2); (try clear hcz15_3); (try clear hcz15_4); (try clear hcz15_5); (try clear hcz23_0); (try clear hcz23_1); (try clear hcz23_2); (try clear hcz23_3); (try clear hcz23_4); (try clear hcz23_5); (try clear hcz24_0); (try clear hcz24_1); (try clear hcz24_2); (try clear hcz24_3); (try clear hcz24_4); (try clear hcz24_5); (try clear hcz29_0); (try clear hcz29_1); (try clear hcz38_0); (try clear hcz38_1); (try clear hcz38_2); (try clear hcz38_3); (try clear hcz38_4); (try clear hcz38_5); (try clear hcz39_0); (try clear hcz39_1); (try clear hcz39_2); (try clear hcz39_3); (try clear hcz39_4); (try clear hcz39_5); (try clear hcz44_0); (try clear hcz44_1); (try clear hcz61_0); (try clear hcz61_1); (try clear hcz61_2); (try clear hcz61_3); (try clear hcz61_4); (try clear hcz61_5); (try clear hcz63_0); (try clear hcz63_1); (try clear hcz63_2); (try clear hcz63_3); (try clear hcz63_4); (try clear hcz63_5); (try clear hcz67_0); (try clear hcz67_1); (try clear hcz67_2); (try clear hcz67_3); (try clear hcz67_4); (try clear hcz67_5); (try clear hcz69_0); (try clear hcz69_1); (try clear hcz69_2); (try clear hcz69_3); (try clear hcz69_4); (try clear hcz69_5); (try clear hcz75_0); (try clear hcz75_1); (try clear hcz75_2); (try clear hcz75_3); (try clear hcz75_4); (try clear hcz75_5); (try clear hcz77_0); (try clear hcz77_1); (try clear hcz77_2); (try clear hcz77_3); (try clear hcz77_4); (try clear hcz77_5); (try clear hcz79_0); (try clear hcz79_1); (try clear hcz79_2); (try clear hcz79_3); (try clear hcz79_4); (try clear hcz79_5); (try clear hcz82_0); (try clear hcz82_1); (try clear hcz82_2); (try clear hcz82_3); (try clear hcz82_4); (try clear hcz82_5); (try clear hcz84_0); (try clear hcz84_1); (try clear hcz84_2); (try clear hcz84_3); (try clear hcz84_4); (try clear hcz84_5); (try clear hcz86_0); (try clear hcz86_1); (try clear hcz86_2); (try clear hcz86_3); (try clear hcz86_4); (try clear hcz86_5); (try clear hcz89_0); (try clear hcz89_1); (try clear hcz89_2); (try clear hcz89_3); (try clear hcz89_4); (try clear hcz89_5); (try clear hcz91_0); (try clear hcz91_1); (try clear hcz91_2); (try clear hcz91_3); (try clear hcz91_4); (try clear hcz91_5); (try clear hcz98_0); (try clear hcz98_1); (try clear hcz98_2); (try clear hcz98_3); (try clear hcz98_4); (try clear hcz98_5); (try clear hfz100_0); (try clear hfz100_1); (try clear hfz100_2); (try clear hfz100_3); (try clear hfz100_4); (try clear hfz100_5); (try clear hfz102_0); (try clear hfz102_1); (try clear hfz102_2); (try clear hfz102_3); (try clear hfz102_4); (try clear hfz102_5); (try clear hfz103_0); (try clear hfz103_1); (try clear hfz103_2); (try clear hfz103_3); (try clear hfz103_4); (try clear hfz103_5); (try clear hfz10_0); (try clear hfz10_1); (try clear hfz10_2); (try clear hfz10_3); (try clear hfz10_4); (try clear hfz10_5); (try clear hfz12_0); (try clear hfz12_1); (try clear hfz12_2); (try clear hfz12_3); (try clear hfz12_4); (try clear hfz12_5); (try clear hfz15_0); (try clear hfz15_1); (try clear hfz15_2); (try clear hfz15_3); (try clear hfz15_4); (try clear hfz15_5); (try clear hfz23_0); (try clear hfz23_1); (try clear hfz23_2); (try clear hfz23_3); (try clear hfz23_4); (try clear hfz23_5); (try clear hfz24_0); (try clear hfz24_1); (try clear hfz24_2); (try clear hfz24_3); (try clear hfz24_4); (try clear hfz24_5); (try clear hfz29_0); (try clear hfz29_1); (try clear hfz38_0); (try clear hfz38_1); (try clear hfz38_2); (try clear hfz38_3); (try clear hfz38_4); (try clear hfz38_5); (try clear hfz39_0); (try clear hfz39_1); (try clear hfz39_2); (try clear hfz39_3); (try clear hfz39_4); (try clear hfz39_5); (try clear hfz44_0); (try clear hfz44_1); (try clear hfz61_0); (try clear hfz61_1); (try clear hfz61_2); (try clear hfz61_3); (try clear hfz61_4); (try clear hfz61_5); (try clear hfz63_0); (try clear hfz63_1); (try clear hfz63_2); (try clear hfz63_3); (try clear hfz63_4); (try clear hfz63_5); (try clear hfz67_0); (try clear hfz67_1); (try clear hfz67_2); (try clear hfz67_3); (try clear hfz67_4); (try clear hfz67_5); (try clear hfz69_0); (try clear hfz69_1); (try clear hfz69_2); (try clear hfz69_3); (try clear hfz69_4); (try clear hfz69_5); (try clear hfz75_0); (try clear hfz75_1); (try clear hfz75_2); (try clear hfz75_3); (try clear hfz75_4); (try clear hfz75_5); (try clear hfz77_0); (try clear hfz77_1); (try clear hfz77_2); (try clear hfz77_3); (try clear hfz77_4); (try clear hfz77_5); (try clear hfz79_0); (try clear hfz79_1); (try clear hfz79_2); (try clear hfz79_3); (try clear hfz79_4); (try clear hfz79_5); (try clear hfz82_0); (try clear hfz82_1); (try clear hfz82_2); (try clear hfz82_3); (try clear hfz82_4); (try clear hfz82_5); (try clear hfz84_0); (try clear hfz84_1); (try clear hfz84_2); (try clear hfz84_3); (try clear hfz84_4); (try clear hfz84_5); (try clear hfz86_0); (try clear hfz86_1); (try clear hfz86_2); (try clear hfz86_3); (try clear hfz86_4); (try clear hfz86_5); (try clear hfz89_0); (try clear hfz89_1); (try clear hfz89_2); (try clear hfz89_3); (try clear hfz89_4); (try clear hfz89_5); (try clear hfz91_0); (try clear hfz91_1); (try clear hfz91_2); (try clear hfz91_3); (try clear hfz91_4); (try clear hfz91_5); (try clear hfz98_0); (try clear hfz98_1); (try clear hfz98_2); (try clear hfz98_3); (try clear hfz98_4); (try clear hfz98_5); (try clear p2)
        obtain ⟨kq, x70_94, rfl, HA, HJ94, BK188, BK189, BK194, HB⟩ := hcut
        cases kq with
        | zero => exact absurd HA.out (by simp [spec_Duty.j4])
        | succ kj94 =>
         have H := HA.out
         clear HA
         simp only [spec_Duty.j4] at H
         by_cases c106 : x70_94 = true
         ·subst c106
          have H1 : (some 2) = some r := by rw [if_pos rfl] at H; exact H
          clear H
          have H := H1
          clear H1
          obtain rfl := Option.some.inj H
          go_wp2
          go_ret
          exact ⟨by first | rfl | (simp [errW_none, errW_some] <;> rfl) | (simp [*, errW_none, errW_some] <;> rfl), by repeat (first | (with_reducible first | exact HB.out | apply below_alloc | apply pw_below_drewN | apply below_drew1 | refine below_set ?_ GE188.out | refine below_set ?_ GE189.out | refine below_set ?_ GE194.out) | exact HB.out)⟩
         ·replace c106 := Bool.eq_false_iff.mpr c106
          subst c106
          have H1 : (if t202 = true then (spec_Duty.j5 kj94 (!t201) a0_0 a0_1 a0_2 a0_3 a0_4 a0_5 a1_0 a1_1 a1_2 a1_3 a1_4 a1_5) else (spec_Duty.j5 kj94 false a0_0 a0_1 a0_2 a0_3 a0_4 a0_5 a1_0 a1_1 a1_2 a1_3 a1_4 a1_5)) = some r := by rw [if_neg (show ¬ (false = true) by decide)] at H; exact H
          clear H
          have H := H1
          clear H1
          have HC107 := Aside0.mk H
          clear H
          go_upto_region 21 with (fail)
          go_cut [76] (fun v76 wc => ∃ (kq : Nat) (x76_106 : Bool), v76 = .bool x76_106 ∧ Aside0 (spec_Duty.j5 kq x76_106 a0_0 a0_1 a0_2 a0_3 a0_4 a0_5 a1_0 a1_1 a1_2 a1_3 a1_4 a1_5 = some r) ∧ Aside0 (kq ≤ kj94) ∧ Aside0 (wc.heap[gb188]? = some (.cells #[.int .i64 a0_0, .int .i64 a0_1, .int .i64 a0_2, .int .i64 a0_3, .int .i64 a0_4, .int .i64 a0_5] 25 (0, 0))) ∧ Aside0 (wc.heap[gb189]? = some (.cells #[.int .i64 a1_0, .int .i64 a1_1, .int .i64 a1_2, .int .i64 a1_3, .int .i64 a1_4, .int .i64 a1_5] 25 (0, 0))) ∧ Aside0 (wc.heap[gb194]? = some (.cells #[.int .i64 t192, .int .i64 t193] 83 (0, 0))) ∧ Aside0 (Below w.heap.size w wc))
          case first =>
           have H := HC107.out
           clear HC107
           by_cases c108 : t202 = true
           ·subst c108
            have H1 : (spec_Duty.j5 kj94 (!t201) a0_0 a0_1 a0_2 a0_3 a0_4 a0_5 a1_0 a1_1 a1_2 a1_3 a1_4 a1_5) = some r := by rw [if_pos rfl] at H; exact H
            clear H
            have H := H1
            clear H1
            have H' := Aside0.mk H
            clear H
            go_wp2
            go_meet
            case rel => exact ⟨_, (!t201), s6_3, H', ⟨by have := HJ2.out; have := HJ35.out; have := HJ94.out; first | omega | exact Nat.le_refl _⟩, ⟨by (with_reducible repeat (first | refine blk_drewN ?_ _ | refine blk_drew ?_ | refine blk_alloc ?_ _)); exact BK188.out⟩, ⟨by (with_reducible repeat (first | refine blk_drewN ?_ _ | refine blk_drew ?_ | refine blk_alloc ?_ _)); exact BK189.out⟩, ⟨by (with_reducible repeat (first | refine blk_drewN ?_ _ | refine blk_drew ?_ | refine blk_alloc ?_ _)); exact BK194.out⟩, ⟨by repeat (first | (with_reducible first | exact HB.out | apply below_alloc | apply pw_below_drewN | apply below_drew1 | refine below_set ?_ GE188.out | refine below_set ?_ GE189.out | refine below_set ?_ GE194.out) | exact HB.out)⟩⟩
           ·replace c108 := Bool.eq_false_iff.mpr c108
            subst c108
            have H1 : (spec_Duty.j5 kj94 false a0_0 a0_1 a0_2 a0_3 a0_4 a0_5 a1_0 a1_1 a1_2 a1_3 a1_4 a1_5) = some r := by rw [if_neg (show ¬ (false = true) by decide)] at H; exact H
            clear H
            have H := H1
            clear H1
            have H' := Aside0.mk H
            clear H
            go_wp2
            go_meet
            case rel => exact ⟨_, (false), s6_3, H', ⟨by have := HJ2.out; have := HJ35.out; have := HJ94.out; first | omega | exact Nat.le_refl _⟩, ⟨by (with_reducible repeat (first | refine blk_drewN ?_ _ | refine blk_drew ?_ | refine blk_alloc ?_ _)); exact BK188.out⟩, ⟨by (with_reducible repeat (first | refine blk_drewN ?_ _ | refine blk_drew ?_ | refine blk_alloc ?_ _)); exact BK189.out⟩, ⟨by (with_reducible repeat (first | refine blk_drewN ?_ _ | refine blk_drew ?_ | refine blk_alloc ?_ _)); exact BK194.out⟩, ⟨by repeat (first | (with_reducible first | exact HB.out | apply below_alloc | apply pw_below_drewN | apply below_drew1 | refine below_set ?_ GE188.out | refine below_set ?_ GE189.out | refine below_set ?_ GE194.out) | exact HB.out)⟩⟩
          case rest =>
           clear HC107
           (try clear c1); (try clear c2); (try clear p2); (try clear c3); (try clear c4); (try clear c5); (try clear c6); (try clear c7); (try clear c8); (try clear c9); (try clear c10); (try clear c14); (try clear c15); (try clear c17); (try clear c21); (try clear c21b0); (try clear c22); (try clear c27); (try clear c28); (try clear c30); (try clear c37); (try clear c42); (try clear c43); (try clear c53); (try clear c54); (try clear c56); (try clear c57); (try clear c58); (try clear c58b0); (try clear c59); (try clear c60); (try clear c62); (try clear c64); (try clear c64b0); (try clear c65); (try clear c66); (try clear c68); (try clear c71); (try clear c72); (try clear c72b0); (try clear c72b1); (try clear c73); (try clear c74); (try clear c76); (try clear c80); (try clear c81); (try clear c83); (try clear c87); (try clear c88); (try clear c90); (try clear c96); (try clear c97); (try clear c99); (try clear c105); (try clear c106); (try clear c108); (try clear hcz100_0); (try clear hcz100_1); (try clear hcz100_2); (try clear hcz100_3); (try clear hcz100_4); (try clear hcz100_5); (try clear hcz102_0); (try clear hcz102_1); (try clear hcz102_2); (try clear hcz102_3); (try clear hcz102_4); (try clear hcz102_5); (try clear hcz103_0); (try clear hcz103_1); (try clear hcz103_2); (try clear hcz103_3); (try clear hcz103_4); (try clear hcz103_5); (try clear hcz10_0); (try clear hcz10_1); (try clear hcz10_2); (try clear hcz10_3); (try clear hcz10_4); (try clear hcz10_5); (try clear hcz12_0); (try clear hcz12_1); (try clear hcz12_2); (try clear hcz12_3); (try clear hcz12_4); (try clear hcz12_5); (try clear hcz15_0); (try clear hcz15_1); (try clear hcz15_2); (try clear hcz15_3); (try clear hcz15_4); (try clear hcz15_5); (try clear hcz23_0); (try clear hcz23_1); (try clear hcz23_2); (try clear hcz23_3); (try clear hcz23_4); (try clear hcz23_5); (try clear hcz24_0); (try clear hcz24_1); (try clear hcz24_2); (try clear hcz24_3); (try clear hcz24_4); (try clear hcz24_5); (try clear hcz29_0); (try clear hcz29_1); (try clear hcz38_0); (try clear hcz38_1); (try clear hcz38_2); (try clear hcz38_3); (try clear hcz38_4); (try clear hcz38_5); (try clear hcz39_0); (try clear hcz39_1); (try clear hcz39_2); (try clear hcz39_3); (try clear hcz39_4); (try clear hcz39_5); (try clear hcz44_0); (try clear hcz44_1); (try clear hcz61_0); (try clear hcz61_1); (try clear hcz61_2); (try clear hcz61_3); (try clear hcz61_4); (try clear hcz61_5); (try clear hcz63_0); (try clear hcz63_1); (try clear hcz63_2); (try clear hcz63_3); (try clear hcz63_4); (try clear hcz63_5); (try clear hcz67_0); (try clear hcz67_1); (try clear hcz67_2); (try clear hcz67_3); (try clear hcz67_4); (try clear hcz67_5); (try clear hcz69_0); (try clear hcz69_1); (try clear hcz69_2); (try clear hcz69_3); (try clear hcz69_4); (try clear hcz69_5); (try clear hcz75_0); (try clear hcz75_1); (try clear hcz75_2); (try clear hcz75_3); (try clear hcz75_4); (try clear hcz75_5); (try clear hcz77_0); (try clear hcz77_1); (try clear hcz77_2); (try clear hcz77_3); (try clear hcz77_4); (try clear hcz77_5); (try clear hcz79_0); (try clear hcz79_1); (try clear hcz79_2); (try clear hcz79_3); (try clear hcz79_4); (try clear hcz79_5); (try clear hcz82_0); (try clear hcz82_1); (try clear hcz82_2); (try clear hcz82_3); (try clear hcz82_4); (try clear hcz82_5); (try clear hcz84_0); (try clear hcz84_1); (try clear hcz84_2); (try clear hcz84_3); (try clear hcz84_4); (try clear hcz84_5); (try clear hcz86_0); (try clear hcz86_1); (try clear hcz86_2); (try clear hcz86_3); (try clear hcz86_4); (try clear hcz86_5); (try clear hcz89_0); (try clear hcz89_1); (try clear hcz89_2); (try clear hcz89_3); (try clear hcz89_4); (try clear hcz89_5); (try clear hcz91_0); (try clear hcz91_1); (try clear hcz91_2); (try clear hcz91_3); (try clear hcz91_4); (try clear hcz91_5); (try clear hcz98_0); (try clear hcz98_1); (try clear hcz98_2); (try clear hcz98_3); (try clear hcz98_4); (try clear hcz98_5); (try clear hfz100_0); (try clear hfz100_1); (try clear hfz100_2); (try clear hfz100_3); (try clear hfz100_4); (try clear hfz100_5); (try clear hfz102_0); (try clear hfz102_1); (try clear hfz102_2); (try clear hfz102_3); (try clear hfz102_4); (try clear hfz102_5); (try clear hfz103_0); (try clear hfz103_1); (try clear hfz103_2); (try clear hfz103_3); (try clear hfz103_4); (try clear hfz103_5); (try clear hfz10_0); (try clear hfz10_1); (try clear hfz10_2); (try clear hfz10_3); (try clear hfz10_4); (try clear hfz10_5); (try clear hfz12_0); (try clear hfz12_1); (try clear hfz12_2); (try clear hfz12_3); (try clear hfz12_4); (try clear hfz12_5); (try clear hfz15_0); (try clear hfz15_1); (try clear hfz15_2); (try clear hfz15_3); (try clear hfz15_4); (try clear hfz15_5); (try clear hfz23_0); (try clear hfz23_1); (try clear hfz23_2); (try clear hfz23_3); (try clear hfz23_4); (try clear hfz23_5); (try clear hfz24_0); (try clear hfz24_1); (try clear hfz24_2); (try clear hfz24_3); (try clear hfz24_4); (try clear hfz24_5); (try clear hfz29_0); (try clear hfz29_1); (try clear hfz38_0); (try clear hfz38_1); (try clear hfz38_2); (try clear hfz38_3); (try clear hfz38_4); (try clear hfz38_5); (try clear hfz39_0); (try clear hfz39_1); (try clear hfz39_2); (try clear hfz39_3); (try clear hfz39_4); (try clear hfz39_5); (try clear hfz44_0); (try clear hfz44_1); (try clear hfz61_0); (try clear hfz61_1); (try clear hfz61_2); (try clear hfz61_3); (try clear hfz61_4); (try clear hfz61_5); (try clear hfz63_0); (try clear hfz63_1); (try clear hfz63_2); (try clear hfz63_3); (try clear hfz63_4); (try clear hfz63_5); (try clear hfz67_0); (try clear hfz67_1); (try clear hfz67_2); (try clear hfz67_3); (try clear hfz67_4); (try clear hfz67_5); (try clear hfz69_0); (try clear hfz69_1); (try clear hfz69_2); (try clear hfz69_3); (try clear hfz69_4); (try clear hfz69_5); (try clear hfz75_0); (try clear hfz75_1); (try clear hfz75_2); (try clear hfz75_3); (try clear hfz75_4); (try clear hfz75_5); (try clear hfz77_0); (try clear hfz77_1); (try clear hfz77_2); (try clear hfz77_3); (try clear hfz77_4); (try clear hfz77_5); (try clear hfz79_0); (try clear hfz79_1); (try clear hfz79_2); (try clear hfz79_3); (try clear hfz79_4); (try clear hfz79_5); (try clear hfz82_0); (try clear hfz82_1); (try clear hfz82_2); (try clear hfz82_3); (try clear hfz82_4); (try clear hfz82_5); (try clear hfz84_0); (try clear hfz84_1); (try clear hfz84_2); (try clear hfz84_3); (try clear hfz84_4); (try clear hfz84_5); (try clear hfz86_0); (try clear hfz86_1); (try clear hfz86_2); (try clear hfz86_3); (try clear hfz86_4); (try clear hfz86_5); (try clear hfz89_0); (try clear hfz89_1); (try clear hfz89_2); (try clear hfz89_3); (try clear hfz89_4); (try clear hfz89_5); (try clear hfz91_0); (try clear hfz91_1); (try clear hfz91_2); (try clear hfz91_3); (try clear hfz91_4); (try clear hfz91_5); (try clear hfz98_0); (try clear hfz98_1); (try clear hfz98_2); (try clear hfz98_3); (try clear hfz98_4); (try clear hfz98_5); (try clear p2)
           obtain ⟨kq, x76_106, rfl, HA, HJ106, BK188, BK189, BK194, HB⟩ := hcut
           cases kq with
           | zero => exact absurd HA.out (by simp [spec_Duty.j5])
           | succ kj106 =>
            have H := HA.out
            clear HA
            simp only [spec_Duty.j5] at H
            by_cases c109 : x76_106 = true
            ·subst c109
             have H1 : (some 1) = some r := by rw [if_pos rfl] at H; exact H
             clear H
             have H := H1
             clear H1
             obtain rfl := Option.some.inj H
             go_wp2
             go_ret
             exact ⟨by first | rfl | (simp [errW_none, errW_some] <;> rfl) | (simp [*, errW_none, errW_some] <;> rfl), by repeat (first | (with_reducible first | exact HB.out | apply below_alloc | apply pw_below_drewN | apply below_drew1 | refine below_set ?_ GE188.out | refine below_set ?_ GE189.out | refine below_set ?_ GE194.out) | exact HB.out)⟩
            ·replace c109 := Bool.eq_false_iff.mpr c109
             subst c109
             have H1 : (if a0_5 < a1_5 then (some 2) else (if a0_5 > a1_5 then (some 1) else (some 3))) = some r := by rw [if_neg (show ¬ (false = true) by decide)] at H; exact H
             clear H
             have H := H1
             clear H1
             by_cases c110 : a0_5 < a1_5
             ·rw [if_pos c110] at H
              have c110b0 : decide (a0_5 < a1_5) = true := decide_eq_true c110
              clear c110
              obtain rfl := Option.some.inj H
              have hnb111 := NB188_189.out
              have hnc111 := NB189_188.out
              have hnb112 := NB188_194.out
              have hnc112 := NB194_188.out
              have hcz113_0 : wc.cell? ⟨gb188, 0, none⟩ = some (.int .i64 a0_0) := bc BK188.out 0
              have hcz113_1 : wc.cell? ⟨gb188, 1, none⟩ = some (.int .i64 a0_1) := bc BK188.out 1
              have hcz113_2 : wc.cell? ⟨gb188, 2, none⟩ = some (.int .i64 a0_2) := bc BK188.out 2
              have hcz113_3 : wc.cell? ⟨gb188, 3, none⟩ = some (.int .i64 a0_3) := bc BK188.out 3
              have hcz113_4 : wc.cell? ⟨gb188, 4, none⟩ = some (.int .i64 a0_4) := bc BK188.out 4
              have hcz113_5 : wc.cell? ⟨gb188, 5, none⟩ = some (.int .i64 a0_5) := bc BK188.out 5
              have hfz113_0 := blk_frozen BK188.out 0
              have hfz113_1 := blk_frozen BK188.out 1
              have hfz113_2 := blk_frozen BK188.out 2
              have hfz113_3 := blk_frozen BK188.out 3
              have hfz113_4 := blk_frozen BK188.out 4
              have hfz113_5 := blk_frozen BK188.out 5
              have hnb114 := NB189_194.out
              have hnc114 := NB194_189.out
              have hcz115_0 : wc.cell? ⟨gb189, 0, none⟩ = some (.int .i64 a1_0) := bc BK189.out 0
              have hcz115_1 : wc.cell? ⟨gb189, 1, none⟩ = some (.int .i64 a1_1) := bc BK189.out 1
              have hcz115_2 : wc.cell? ⟨gb189, 2, none⟩ = some (.int .i64 a1_2) := bc BK189.out 2
              have hcz115_3 : wc.cell? ⟨gb189, 3, none⟩ = some (.int .i64 a1_3) := bc BK189.out 3
              have hcz115_4 : wc.cell? ⟨gb189, 4, none⟩ = some (.int .i64 a1_4) := bc BK189.out 4
              have hcz115_5 : wc.cell? ⟨gb189, 5, none⟩ = some (.int .i64 a1_5) := bc BK189.out 5
              have hfz115_0 := blk_frozen BK189.out 0
              have hfz115_1 := blk_frozen BK189.out 1
              have hfz115_2 := blk_frozen BK189.out 2
              have hfz115_3 := blk_frozen BK189.out 3
              have hfz115_4 := blk_frozen BK189.out 4
              have hfz115_5 := blk_frozen BK189.out 5
              go_wp2
              go_ret
              exact ⟨by first | rfl | (simp [errW_none, errW_some] <;> rfl) | (simp [*, errW_none, errW_some] <;> rfl), by repeat (first | (with_reducible first | exact HB.out | apply below_alloc | apply pw_below_drewN | apply below_drew1 | refine below_set ?_ GE188.out | refine below_set ?_ GE189.out | refine below_set ?_ GE194.out) | exact HB.out)⟩
             ·rw [if_neg c110] at H
              have c110b0 : decide (a0_5 < a1_5) = false := decide_eq_false c110
              clear c110
              by_cases c116 : a0_5 > a1_5
              ·rw [if_pos c116] at H
               have c116b0 : decide (a1_5 < a0_5) = true := decide_eq_true c116
               clear c116
               obtain rfl := Option.some.inj H
               have hnb117 := NB188_189.out
               have hnc117 := NB189_188.out
               have hnb118 := NB188_194.out
               have hnc118 := NB194_188.out
               have hcz119_0 : wc.cell? ⟨gb188, 0, none⟩ = some (.int .i64 a0_0) := bc BK188.out 0
               have hcz119_1 : wc.cell? ⟨gb188, 1, none⟩ = some (.int .i64 a0_1) := bc BK188.out 1
               have hcz119_2 : wc.cell? ⟨gb188, 2, none⟩ = some (.int .i64 a0_2) := bc BK188.out 2
               have hcz119_3 : wc.cell? ⟨gb188, 3, none⟩ = some (.int .i64 a0_3) := bc BK188.out 3
               have hcz119_4 : wc.cell? ⟨gb188, 4, none⟩ = some (.int .i64 a0_4) := bc BK188.out 4
               have hcz119_5 : wc.cell? ⟨gb188, 5, none⟩ = some (.int .i64 a0_5) := bc BK188.out 5
               have hfz119_0 := blk_frozen BK188.out 0
               have hfz119_1 := blk_frozen BK188.out 1
               have hfz119_2 := blk_frozen BK188.out 2
               have hfz119_3 := blk_frozen BK188.out 3
               have hfz119_4 := blk_frozen BK188.out 4
               have hfz119_5 := blk_frozen BK188.out 5
               have hnb120 := NB189_194.out
               have hnc120 := NB194_189.out
               have hcz121_0 : wc.cell? ⟨gb189, 0, none⟩ = some (.int .i64 a1_0) := bc BK189.out 0
               have hcz121_1 : wc.cell? ⟨gb189, 1, none⟩ = some (.int .i64 a1_1) := bc BK189.out 1
               have hcz121_2 : wc.cell? ⟨gb189, 2, none⟩ = some (.int .i64 a1_2) := bc BK189.out 2
               have hcz121_3 : wc.cell? ⟨gb189, 3, none⟩ = some (.int .i64 a1_3) := bc BK189.out 3
               have hcz121_4 : wc.cell? ⟨gb189, 4, none⟩ = some (.int .i64 a1_4) := bc BK189.out 4
               have hcz121_5 : wc.cell? ⟨gb189, 5, none⟩ = some (.int .i64 a1_5) := bc BK189.out 5
               have hfz121_0 := blk_frozen BK189.out 0
               have hfz121_1 := blk_frozen BK189.out 1
               have hfz121_2 := blk_frozen BK189.out 2
               have hfz121_3 := blk_frozen BK189.out 3
               have hfz121_4 := blk_frozen BK189.out 4
               have hfz121_5 := blk_frozen BK189.out 5
               go_wp2
               go_ret
               exact ⟨by first | rfl | (simp [errW_none, errW_some] <;> rfl) | (simp [*, errW_none, errW_some] <;> rfl), by repeat (first | (with_reducible first | exact HB.out | apply below_alloc | apply pw_below_drewN | apply below_drew1 | refine below_set ?_ GE188.out | refine below_set ?_ GE189.out | refine below_set ?_ GE194.out) | exact HB.out)⟩
              ·rw [if_neg c116] at H
               have c116b0 : decide (a1_5 < a0_5) = false := decide_eq_false c116
               clear c116
               obtain rfl := Option.some.inj H
               have hnb122 := NB188_189.out
               have hnc122 := NB189_188.out
               have hnb123 := NB188_194.out
               have hnc123 := NB194_188.out
               have hcz124_0 : wc.cell? ⟨gb188, 0, none⟩ = some (.int .i64 a0_0) := bc BK188.out 0
               have hcz124_1 : wc.cell? ⟨gb188, 1, none⟩ = some (.int .i64 a0_1) := bc BK188.out 1
               have hcz124_2 : wc.cell? ⟨gb188, 2, none⟩ = some (.int .i64 a0_2) := bc BK188.out 2
               have hcz124_3 : wc.cell? ⟨gb188, 3, none⟩ = some (.int .i64 a0_3) := bc BK188.out 3
               have hcz124_4 : wc.cell? ⟨gb188, 4, none⟩ = some (.int .i64 a0_4) := bc BK188.out 4
               have hcz124_5 : wc.cell? ⟨gb188, 5, none⟩ = some (.int .i64 a0_5) := bc BK188.out 5
               have hfz124_0 := blk_frozen BK188.out 0
               have hfz124_1 := blk_frozen BK188.out 1
               have hfz124_2 := blk_frozen BK188.out 2
               have hfz124_3 := blk_frozen BK188.out 3
               have hfz124_4 := blk_frozen BK188.out 4
               have hfz124_5 := blk_frozen BK188.out 5
               have hnb125 := NB189_194.out
               have hnc125 := NB194_189.out
               have hcz126_0 : wc.cell? ⟨gb189, 0, none⟩ = some (.int .i64 a1_0) := bc BK189.out 0
               have hcz126_1 : wc.cell? ⟨gb189, 1, none⟩ = some (.int .i64 a1_1) := bc BK189.out 1
               have hcz126_2 : wc.cell? ⟨gb189, 2, none⟩ = some (.int .i64 a1_2) := bc BK189.out 2
               have hcz126_3 : wc.cell? ⟨gb189, 3, none⟩ = some (.int .i64 a1_3) := bc BK189.out 3
               have hcz126_4 : wc.cell? ⟨gb189, 4, none⟩ = some (.int .i64 a1_4) := bc BK189.out 4
               have hcz126_5 : wc.cell? ⟨gb189, 5, none⟩ = some (.int .i64 a1_5) := bc BK189.out 5
               have hfz126_0 := blk_frozen BK189.out 0
               have hfz126_1 := blk_frozen BK189.out 1
               have hfz126_2 := blk_frozen BK189.out 2
               have hfz126_3 := blk_frozen BK189.out 3
               have hfz126_4 := blk_frozen BK189.out 4
               have hfz126_5 := blk_frozen BK189.out 5
               go_wp2
               go_ret
               exact ⟨by first | rfl | (simp [errW_none, errW_some] <;> rfl) | (simp [*, errW_none, errW_some] <;> rfl), by repeat (first | (with_reducible first | exact HB.out | apply below_alloc | apply pw_below_drewN | apply below_drew1 | refine below_set ?_ GE188.out | refine below_set ?_ GE189.out | refine below_set ?_ GE194.out) | exact HB.out)⟩

end Go.Proofs.Ytfbokdbaondjdaa.PV1
-- printed for this claim out of the translation
namespace Go.Proofs.Ytfbokdbaondjdaa.PV1
open Go.RowKit Go.Proofs.YtfbokdbaondjdaaW.PrintWords Go.Proofs.YtfbokdbaondjdaaW.PrintLast Go.Proofs.YtfbokdbaondjdaaW.PrintMore Go.Proofs.Ytfbokdbaondjdaa.Cz Go.Proofs.Ytfbokdbaondjdaa.Cz
attribute [local go_sem] max2_int min2_int max_two min_two max_three min_three max_four min_four
set_option linter.unusedVariables false
set_option linter.unusedSimpArgs false

theorem s7_0 {p : Prop} (h : p := by repeat (first | (with_reducible first | exact HB.out | apply below_alloc | apply pw_below_drewN | apply below_drew1) | exact HB.out)) : p := h
theorem s7_1 {p : Prop} (h : p := by first | (with_reducible assumption) | assumption) : p := h
theorem s7_2 {p : Prop} (h : p := by first | rfl | (simp; done) | (simp [*]; done)) : p := h
theorem s7_3 {p : Prop} (h : p := by repeat (first | (with_reducible first | exact HB.out | apply below_alloc | apply pw_below_drewN | apply below_drew1 | refine below_set ?_ GE229.out | refine below_set ?_ GE230.out) | exact HB.out)) : p := h
set_option maxRecDepth 100000 in
theorem t7_0 {p : Prop} (h : p := by
 simp only [Act.put, y1, y2, y3, i64_w, i32_w]
 rfl) : p := h
/-! ### laws_toShip: function 16 -/
def laws_toShip.f (a0_0 : Int) (a0_1 : Int) (a0_2 : Int) (a0_3 : Int) (a0_4 : Int) (a0_5 : Int) : Option (Int × Int × Int × Int × Int × Int) := some (a0_0, a0_1, a0_2, a0_3, a0_4, a0_5)
set_option maxHeartbeats 8000000 in
set_option maxRecDepth 100000 in
theorem laws_toShip.calls (a0_0 : Int) (a0_1 : Int) (a0_2 : Int) (a0_3 : Int) (a0_4 : Int) (a0_5 : Int) (r1 : Int) (r2 : Int) (r3 : Int) (r4 : Int) (r5 : Int) (r6 : Int) (w : World) (h : laws_toShip.f a0_0 a0_1 a0_2 a0_3 a0_4 a0_5 = some (r1, r2, r3, r4, r5, r6)) :
  Calls Try.prog 16 #[.agg #[.int .i64 a0_0, .int .i64 a0_1, .int .i64 a0_2, .int .i64 a0_3, .int .i64 a0_4, .int .i64 a0_5]] w fun e w' => e = .returned (.agg #[.int .i64 r1, .int .i64 r2, .int .i64 r3, .int .i64 r4, .int .i64 r5, .int .i64 r6]) ∧ Below w.heap.size w w' := by
 have hu23 := Try.underlying23
 have hu25 := Try.underlying25
 have HB := Aside0.mk (Below.refl w.heap.size w)
 have H : (some (a0_0, a0_1, a0_2, a0_3, a0_4, a0_5)) = some (r1, r2, r3, r4, r5, r6) := h
 clear h
 simp only [Option.some.injEq, Prod.mk.injEq] at H
 obtain ⟨rfl, rfl, rfl, rfl, rfl, rfl⟩ := H
 go_enter Try.func16, Try.ntmps16
 go_wp2_with (first | ((with_reducible refine gate_dst (N := 1) rfl ?_); refine box_event ?hg (N := 1) ?hd (cs := #[.int .i64 a0_0, .int .i64 a0_1, .int .i64 a0_2, .int .i64 a0_3, .int .i64 a0_4, .int .i64 a0_5]) (t := 23) ?hr ?_; (case hd => rfl); (case hg => rfl); (case hr => first | (go_simp; done) | (go_simp; rfl)); intro gb229 hg w1 hbox hb; have n0_ := Aside0.mk (below_step s7_0 hb); have n1_ := Aside0.mk (hbox); have n2_ := Aside0.mk (ns hg s7_0 : w.heap.size ≤ gb229); have n3_ := Aside0.mk (ns hg s7_0 : w.heap.size ≤ gb229); clear HB; have HB := n0_; have BK229 := n1_; have GW229 := n2_; have GE229 := n3_; clear n0_ n1_ n2_ n3_; clear hb hbox hg) | ((with_reducible refine gate_dst (N := 2) rfl ?_); refine box_event ?hg (N := 2) ?hd (cs := #[.int .i64 0, .int .i64 0, .int .i64 0, .int .i64 0, .int .i64 0, .int .i64 0]) (t := 25) ?hr ?_; (case hd => rfl); (case hg => rfl); (case hr => first | (go_simp; done) | (go_simp; rfl)); intro gb230 hg w2 hbox hb; have n0_ := Aside0.mk (bb (zk BK229.out) hb); have n1_ := Aside0.mk (below_step (by repeat (first | (with_reducible first | exact HB.out | apply below_alloc | apply pw_below_drewN | apply below_drew1 | refine below_set ?_ GE229.out) | exact HB.out)) hb); have n2_ := Aside0.mk (hbox); have n3_ := Aside0.mk (ns hg (by repeat (first | (with_reducible first | exact HB.out | apply below_alloc | apply pw_below_drewN | apply below_drew1 | refine below_set ?_ GE229.out) | exact HB.out)) : w.heap.size ≤ gb230); have n4_ := Aside0.mk (ns hg (by repeat (first | (with_reducible first | exact HB.out | apply below_alloc | apply pw_below_drewN | apply below_drew1 | refine below_set ?_ GE229.out) | exact HB.out)) : w.heap.size ≤ gb230); have n5_ := Aside0.mk ((nlt hg (zk BK229.out) : gb229 ≠ gb230)); have n6_ := Aside0.mk ((ngt hg (zk BK229.out) : gb230 ≠ gb229)); clear BK229; clear HB; have BK229 := n0_; have HB := n1_; have BK230 := n2_; have GW230 := n3_; have GE230 := n4_; have NB229_230 := n5_; have NB230_229 := n6_; clear n0_ n1_ n2_ n3_ n4_ n5_ n6_; clear hb hbox hg) | ((with_reducible refine gate_dst (N := 3) rfl ?_); refine box_event ?hg (N := 3) ?hd (cs := #[.int .i64 0, .int .i64 0, .int .i64 0, .int .i64 0, .int .i64 0, .int .i64 0]) (t := 25) ?hr ?_; (case hd => rfl); (case hg => rfl); (case hr => first | (go_simp; done) | (go_simp; rfl)); intro gb231 hg w3 hbox hb; have n0_ := Aside0.mk (bb (zk BK229.out) hb); have n1_ := Aside0.mk (bb (zk BK230.out) hb); have n2_ := Aside0.mk (below_step s7_3 hb); have n3_ := Aside0.mk (hbox); have n4_ := Aside0.mk (ns hg s7_3 : w.heap.size ≤ gb231); have n5_ := Aside0.mk (ns hg s7_3 : w.heap.size ≤ gb231); have n6_ := Aside0.mk ((nlt hg (zk BK229.out) : gb229 ≠ gb231)); have n7_ := Aside0.mk ((ngt hg (zk BK229.out) : gb231 ≠ gb229)); have n8_ := Aside0.mk ((nlt hg (zk BK230.out) : gb230 ≠ gb231)); have n9_ := Aside0.mk ((ngt hg (zk BK230.out) : gb231 ≠ gb230)); clear BK229; clear BK230; clear HB; have BK229 := n0_; have BK230 := n1_; have HB := n2_; have BK231 := n3_; have GW231 := n4_; have GE231 := n5_; have NB229_231 := n6_; have NB231_229 := n7_; have NB230_231 := n8_; have NB231_230 := n9_; clear n0_ n1_ n2_ n3_ n4_ n5_ n6_ n7_ n8_ n9_; clear hb hbox hg; have hnb5 := NB229_230.out; have hnc5 := NB230_229.out; have hnb6 := NB229_231.out; have hnc6 := NB231_229.out; have hcz7_0 : w3.cell? ⟨gb229, 0, none⟩ = some (.int .i64 a0_0) := bc BK229.out 0; have hcz7_1 : w3.cell? ⟨gb229, 1, none⟩ = some (.int .i64 a0_1) := bc BK229.out 1; have hcz7_2 : w3.cell? ⟨gb229, 2, none⟩ = some (.int .i64 a0_2) := bc BK229.out 2; have hcz7_3 : w3.cell? ⟨gb229, 3, none⟩ = some (.int .i64 a0_3) := bc BK229.out 3; have hcz7_4 : w3.cell? ⟨gb229, 4, none⟩ = some (.int .i64 a0_4) := bc BK229.out 4; have hcz7_5 : w3.cell? ⟨gb229, 5, none⟩ = some (.int .i64 a0_5) := bc BK229.out 5; have hfz7_0 := blk_frozen BK229.out 0; have hfz7_1 := blk_frozen BK229.out 1; have hfz7_2 := blk_frozen BK229.out 2; have hfz7_3 := blk_frozen BK229.out 3; have hfz7_4 := blk_frozen BK229.out 4; have hfz7_5 := blk_frozen BK229.out 5; have hnb8 := NB231_230.out; have hnc8 := NB230_231.out; have hcz9_0 : w3.cell? ⟨gb231, 0, none⟩ = some (.int .i64 0) := bc BK231.out 0; have hcz9_1 : w3.cell? ⟨gb231, 1, none⟩ = some (.int .i64 0) := bc BK231.out 1; have hcz9_2 : w3.cell? ⟨gb231, 2, none⟩ = some (.int .i64 0) := bc BK231.out 2; have hcz9_3 : w3.cell? ⟨gb231, 3, none⟩ = some (.int .i64 0) := bc BK231.out 3; have hcz9_4 : w3.cell? ⟨gb231, 4, none⟩ = some (.int .i64 0) := bc BK231.out 4; have hcz9_5 : w3.cell? ⟨gb231, 5, none⟩ = some (.int .i64 0) := bc BK231.out 5; have hfz9_0 := blk_frozen BK231.out 0; have hfz9_1 := blk_frozen BK231.out 1; have hfz9_2 := blk_frozen BK231.out 2; have hfz9_3 := blk_frozen BK231.out 3; have hfz9_4 := blk_frozen BK231.out 4; have hfz9_5 := blk_frozen BK231.out 5; have hcz10_0 : w3.cell? ⟨gb230, 0, none⟩ = some (.int .i64 0) := bc BK230.out 0; have hcz10_1 : w3.cell? ⟨gb230, 1, none⟩ = some (.int .i64 0) := bc BK230.out 1; have hcz10_2 : w3.cell? ⟨gb230, 2, none⟩ = some (.int .i64 0) := bc BK230.out 2; have hcz10_3 : w3.cell? ⟨gb230, 3, none⟩ = some (.int .i64 0) := bc BK230.out 3; have hcz10_4 : w3.cell? ⟨gb230, 4, none⟩ = some (.int .i64 0) := bc BK230.out 4; have hcz10_5 : w3.cell? ⟨gb230, 5, none⟩ = some (.int .i64 0) := bc BK230.out 5; have hfz10_0 := blk_frozen BK230.out 0; have hfz10_1 := blk_frozen BK230.out 1; have hfz10_2 := blk_frozen BK230.out 2; have hfz10_3 := blk_frozen BK230.out 3; have hfz10_4 := blk_frozen BK230.out 4; have hfz10_5 := blk_frozen BK230.out 5))
 refine bodyPost_ret (results_cell_row rfl _ _ gb230 25 #[.int .i64 a0_0, .int .i64 a0_1, .int .i64 a0_2, .int .i64 a0_3, .int .i64 a0_4, .int .i64 a0_5] (0, 0) _ rfl (by (with_reducible repeat (first | refine blk_drewN ?_ _ | refine blk_drew ?_ | refine blk_alloc ?_ _)); refine blk_put (cs := #[.int .i64 a0_0, .int .i64 a0_1, .int .i64 a0_2, .int .i64 a0_3, .int .i64 a0_4, .int .i64 0]) ?_ 5 _ rfl; (with_reducible repeat (first | refine blk_drewN ?_ _ | refine blk_drew ?_ | refine blk_alloc ?_ _)); refine blk_put (cs := #[.int .i64 a0_0, .int .i64 a0_1, .int .i64 a0_2, .int .i64 a0_3, .int .i64 0, .int .i64 0]) ?_ 4 _ rfl; (with_reducible repeat (first | refine blk_drewN ?_ _ | refine blk_drew ?_ | refine blk_alloc ?_ _)); refine blk_put (cs := #[.int .i64 a0_0, .int .i64 a0_1, .int .i64 a0_2, .int .i64 0, .int .i64 0, .int .i64 0]) ?_ 3 _ rfl; (with_reducible repeat (first | refine blk_drewN ?_ _ | refine blk_drew ?_ | refine blk_alloc ?_ _)); refine blk_put (cs := #[.int .i64 a0_0, .int .i64 a0_1, .int .i64 0, .int .i64 0, .int .i64 0, .int .i64 0]) ?_ 2 _ rfl; (with_reducible repeat (first | refine blk_drewN ?_ _ | refine blk_drew ?_ | refine blk_alloc ?_ _)); refine blk_put (cs := #[.int .i64 a0_0, .int .i64 0, .int .i64 0, .int .i64 0, .int .i64 0, .int .i64 0]) ?_ 1 _ rfl; (with_reducible repeat (first | refine blk_drewN ?_ _ | refine blk_drew ?_ | refine blk_alloc ?_ _)); refine blk_put (cs := #[.int .i64 0, .int .i64 0, .int .i64 0, .int .i64 0, .int .i64 0, .int .i64 0]) ?_ 0 _ rfl; (with_reducible repeat (first | refine blk_drewN ?_ _ | refine blk_drew ?_ | refine blk_alloc ?_ _)); refine blk_far ?_ NB230_231.out _; (with_reducible repeat (first | refine blk_drewN ?_ _ | refine blk_drew ?_ | refine blk_alloc ?_ _)); refine blk_far ?_ NB230_231.out _; (with_reducible repeat (first | refine blk_drewN ?_ _ | refine blk_drew ?_ | refine blk_alloc ?_ _)); refine blk_far ?_ NB230_231.out _; (with_reducible repeat (first | refine blk_drewN ?_ _ | refine blk_drew ?_ | refine blk_alloc ?_ _)); refine blk_far ?_ NB230_231.out _; (with_reducible repeat (first | refine blk_drewN ?_ _ | refine blk_drew ?_ | refine blk_alloc ?_ _)); refine blk_far ?_ NB230_231.out _; (with_reducible repeat (first | refine blk_drewN ?_ _ | refine blk_drew ?_ | refine blk_alloc ?_ _)); refine blk_far ?_ NB230_231.out _; (with_reducible repeat (first | refine blk_drewN ?_ _ | refine blk_drew ?_ | refine blk_alloc ?_ _)); exact BK230.out) Try.underlying25 rfl (by kernel_rfl)) rfl ?_
 exact ⟨by first | rfl | (simp [errW_none, errW_some] <;> rfl) | (simp [*, errW_none, errW_some] <;> rfl), by repeat (first | (with_reducible first | exact HB.out | apply below_alloc | apply pw_below_drewN | apply below_drew1 | refine below_set ?_ GE229.out | refine below_set ?_ GE230.out | refine below_set ?_ GE231.out) | exact HB.out)⟩

end Go.Proofs.Ytfbokdbaondjdaa.PV1
/- The law of Closest, for all arguments. -/
namespace Go.Proofs.Ytfbokdbaondjdaa.Lc
open Go Go.RowKit Go.Proofs.YtfbokdbaondjdaaW.PrintWords Go.Proofs.Ytfbokdbaondjdaa.PV1
set_option linter.unusedVariables false
theorem closestLaw (a b c d e f a' b' c' d' e' f' : Int) (w : World) :
    Calls Try.prog 10 #[.agg #[.int .i64 a, .int .i64 b, .int .i64 c, .int .i64 d, .int .i64 e, .int .i64 f], .agg #[.int .i64 a', .int .i64 b', .int .i64 c', .int .i64 d', .int .i64 e', .int .i64 f']] w fun e w' => e = .returned (.bool true) ∧ Below w.heap.size w w' := by
  obtain ⟨⟨r1, r2, r3, r4, r5⟩, ⟨K1, E1⟩, K2, E2⟩ := Cl.clo_both a b c d e f a' b' c' d' e' f'
  have q : ∀ x y : Int, laws_eqFrac.f x y x y = some true := fun x y => by unfold laws_eqFrac.f; rw [if_pos rfl, if_pos rfl]
  exact law_Closest a b c d e f a' b' c' d' e' f' r1 r2 r3 r4 r5 w (fun W => laws_toShip.calls _ _ _ _ _ _ _ _ _ _ _ _ W rfl) (fun W => laws_toShip.calls _ _ _ _ _ _ _ _ _ _ _ _ W rfl)
    (fun W => spec_Closest.calls (K1 + K2) _ _ _ _ _ _ _ _ _ _ _ _ r1 r2 r3 r4 r5 W (E1 _ (by omega))) (fun W => impl_Closest.calls (K1 + K2) _ _ _ _ _ _ _ _ _ _ _ _ r1 r2 r3 r4 r5 W (E2 _ (by omega)))
    (fun W => laws_eqFrac.calls _ _ _ _ true W (q r1 r2)) (fun W => laws_eqFrac.calls _ _ _ _ true W (q r3 r4))
end Go.Proofs.Ytfbokdbaondjdaa.Lc
/- Arguments that came in, read as plain data of the print's kinds: a struct by its fields, a slice by its elements. -/
namespace Go.Proofs.Ytfbokdbaondjdaa.Op
open Go.ChangeShapes Go.WideShapes Go.Deep Go.Proofs.YtfbokdbaondjdaaW.PrintWords

/-- Whatever the data's reader takes of type t is a value of the kind d, and Q holds of it. -/
def Opens {α : Type} (P : Program) (d : Kd α) (t : TypeId) (Q : α → Prop) : Prop :=
  ∀ (H : Type) (enc : TypeId × Value → H) (w : World) (base : Nat) (spare : Nat → Bool) (held : Bool) (fuel : Nat) (cs : List Value) (x : DataW H × List MemPlace),
    DataW.trod enc P w base spare held fuel t cs = some x → ∃ a : α, d.K w a cs ∧ Q a

theorem opens_int {P : Program} {t : TypeId} {k : IntKind} (ht : P.underlying t = some (.int k)) : Opens P (Kd.int k) t (fun n => (Lit.int k n).wf = true) := by
  intro H enc w base spare held fuel cs x h
  cases fuel with
  | zero => simp [DataW.trod] at h
  | succ n =>
    simp only [DataW.trod, ht] at h
    split at h <;> simp_all
    exact ⟨_, rfl, h.1.2⟩

theorem opens_bool {P : Program} {t : TypeId} (ht : P.underlying t = some .bool) : Opens P Kd.bool t (fun _ => True) := by
  intro H enc w base spare held fuel cs x h
  cases fuel with
  | zero => simp [DataW.trod] at h
  | succ n =>
    simp only [DataW.trod, ht] at h
    split at h <;> first | (simp_all; done) | exact ⟨_, rfl, trivial⟩

theorem fmt_one (k : FloatKind) (x : Nat) : (Value.float k x).oneCell' = true := rfl
/-- Floats, by their bits. -/
def kfloat (k : FloatKind) : Kd Nat := Kd.scalar (Value.float k) (fmt_one k)
theorem opens_float {P : Program} {t : TypeId} {k : FloatKind} (ht : P.underlying t = some (.float k)) : Opens P (kfloat k) t (fun n => (Lit.float k n).wf = true) := by
  intro H enc w base spare held fuel cs x h
  cases fuel with
  | zero => simp [DataW.trod] at h
  | succ n =>
    simp only [DataW.trod, ht] at h
    split at h <;> simp_all
    exact ⟨_, rfl, h.1.2⟩

theorem opens_slice {P : Program} {α : Type} {d : Kd α} {t e : TypeId} {Q : α → Prop} (ht : P.underlying t = some (.slice e)) (hc : P.cellsOf e = d.sz) (hd : Opens P d e Q) :
    Opens P (Kd.slice e d) t (fun xs => xs.length ≤ maxLen ∧ ∀ x ∈ xs, Q x) := by
  intro H enc w base spare held fuel cs x h
  rcases open_slice ht h with ⟨rfl, _⟩ | ⟨a, len, cap, m, n, D, Pl, rfl, hb, hl, hm, hmm, rfl, hx⟩
  · exact ⟨[], ⟨none, 0, rfl, Nat.le_refl _, Kd.C_nil _ _⟩, Nat.zero_le _, fun x hx => by cases hx⟩
  · have hle : len ≤ m := by rw [hmm]; split <;> omega
    have key : ∀ i, i < len → ∃ z : α, Q z ∧ ∃ c, c.length = d.sz ∧ d.K w z c ∧ ∀ j u, c[j]? = some u → w.cell? (a.add (i * d.sz + j)) = some u := by
      intro i hi
      obtain ⟨cs', h1, h2⟩ := hx i (by omega)
      obtain ⟨z, hz, hq⟩ := hd H enc w base spare held n cs' _ h2
      refine ⟨z, hq, cs', d.K_len hz, hz, fun j u hj => ?_⟩
      rw [hc] at h1
      have hlt : j < d.sz := by
        have := (List.getElem?_eq_some_iff.1 hj).1
        have := (World.cells?_some h1).2.1
        omega
      have := (World.cells?_some h1).2.2 j hlt
      rw [Deep.add_add, hj] at this
      exact this
    have hex : ∃ xs : List α, xs.length = len ∧ ∀ i z, xs[i]? = some z → Q z ∧ ∃ c, c.length = d.sz ∧ d.K w z c ∧ ∀ j u, c[j]? = some u → w.cell? (a.add (i * d.sz + j)) = some u := by
      clear hx h hmm
      revert key
      generalize len = L
      intro key
      induction L with
      | zero => exact ⟨[], rfl, fun i z hz => by simp at hz⟩
      | succ L ih =>
        obtain ⟨xs, hlen, hxs⟩ := ih (fun i hi => key i (by omega))
        obtain ⟨z, hz⟩ := key L (by omega)
        refine ⟨xs ++ [z], by simp [hlen], fun i y hy => ?_⟩
        by_cases hi : i < xs.length
        · rw [List.getElem?_append_left hi] at hy
          exact hxs i y hy
        · have hlt : i < (xs ++ [z]).length := (List.getElem?_eq_some_iff.1 hy).1
          simp at hlt
          obtain rfl : i = L := by omega
          rw [List.getElem?_append_right (by omega), hlen, Nat.sub_self] at hy
          cases hy
          exact hz
    obtain ⟨xs, hlen, hxs⟩ := hex
    refine ⟨xs, ⟨some a, cap, by rw [hlen], by omega, ⟨rfl, ?_, fun _ => ⟨a, rfl, fun j p hj => (hxs j p hj).2⟩⟩⟩, by omega, fun z hz => ?_⟩
    · have : maxLen = 9223372036854775807 := rfl
      omega
    · obtain ⟨i, hi⟩ := List.getElem?_of_mem hz
      exact (hxs i z hi).1

/-- The fields from offset 'off' on, as a kind. -/
def Fields {α : Type} (P : Program) (d : Kd α) (fs : List Field) (off : Nat) (Q : α → Prop) : Prop :=
  ∀ (H : Type) (enc : TypeId × Value → H) (w : World) (base : Nat) (spare : Nat → Bool) (held : Bool) (fuel : Nat) (cs : List Value) (xs : List (DataW H × List MemPlace)),
    fs.mapM (fun f => DataW.trod enc P w base spare held fuel f.type ((cs.drop f.offset).take (P.cellsOf f.type))) = some xs → off + d.sz ≤ cs.length → ∃ a : α, d.K w a ((cs.drop off).take d.sz) ∧ Q a

theorem fields_one {P : Program} {α : Type} {d : Kd α} {f : Field} {off : Nat} {Q : α → Prop} (ho : f.offset = off) (hc : P.cellsOf f.type = d.sz) (hd : Opens P d f.type Q) : Fields P d [f] off Q := by
  intro H enc w base spare held fuel cs xs h hl
  simp only [List.mapM_cons, List.mapM_nil, Option.bind_eq_bind, Option.pure_def] at h
  obtain ⟨y, hy, _⟩ := Option.bind_eq_some_iff.1 h
  rw [hc, ho] at hy
  exact hd H enc w base spare held fuel _ _ hy

theorem fields_cons {P : Program} {α β : Type} {d : Kd α} {d' : Kd β} {f : Field} {fs : List Field} {off : Nat} {Q : α → Prop} {Q' : β → Prop} (ho : f.offset = off) (hc : P.cellsOf f.type = d.sz)
    (hd : Opens P d f.type Q) (hr : Fields P d' fs (off + d.sz) Q') : Fields P (Kd.pair d d') (f :: fs) off (fun x => Q x.1 ∧ Q' x.2) := by
  intro H enc w base spare held fuel cs xs h hl
  have hsz : (Kd.pair d d').sz = d.sz + d'.sz := rfl
  rw [hsz] at hl
  simp only [List.mapM_cons, Option.bind_eq_bind, Option.pure_def] at h
  obtain ⟨y, hy, h⟩ := Option.bind_eq_some_iff.1 h
  obtain ⟨ys, hys, _⟩ := Option.bind_eq_some_iff.1 h
  rw [hc, ho] at hy
  obtain ⟨a, ha, hqa⟩ := hd H enc w base spare held fuel _ _ hy
  obtain ⟨b, hb, hqb⟩ := hr H enc w base spare held fuel cs ys hys (by omega)
  refine ⟨(a, b), ⟨(cs.drop off).take d.sz, (cs.drop (off + d.sz)).take d'.sz, ?_, ha, hb⟩, hqa, hqb⟩
  rw [hsz, List.take_add, List.drop_drop]

theorem opens_struct {P : Program} {α β : Type} {d : Kd α} {t : TypeId} {fs : Array Field} {Q : α → Prop} (f : β → α) (g : α → β) (hfg : ∀ a, f (g a) = a) (ht : P.underlying t = some (.struct fs)) (hc : P.cellsOf t = d.sz)
    (hr : Fields P d fs.toList 0 Q) : Opens P (Kd.iso d f) t (fun b => Q (f b)) := by
  intro H enc w base spare held fuel cs x h
  cases fuel with
  | zero => simp [DataW.trod] at h
  | succ n =>
    have hh : (if cs.length = P.cellsOf t then (fs.toList.mapM fun f => DataW.trod enc P w base spare held n f.type ((cs.drop f.offset).take (P.cellsOf f.type))).map fun xs => (DataW.agg (xs.map (·.1)), xs.flatMap (·.2)) else none) = some x := by
      rw [← h]
      simp only [DataW.trod, ht]
    split at hh
    · rename_i hlen
      obtain ⟨xs, hxs, _⟩ := Option.map_eq_some_iff.1 hh
      obtain ⟨a, ha, hq⟩ := hr H enc w base spare held n cs xs hxs (by omega)
      refine ⟨g a, ?_, by show Q (f (g a)); rw [hfg]; exact hq⟩
      show d.K w (f (g a)) cs
      rw [hfg]
      rw [List.drop_zero, List.take_of_length_le (by omega)] at ha
      exact ha
    · cases hh

/-! ### Of a whole argument -/
theorem arg_int {P : Program} {t : TypeId} {k : IntKind} {H : Type} {enc : TypeId × Value → H} {w : World} {r : Reach} {b0 base : Nat} {spare : Nat → Bool} {held : Bool} {v : Value} {x : DataW H} {ps : List MemPlace}
    (ht : P.underlying t = some (.int k)) (hv : Value.okWide P w r b0 t v) (h : DataW.Trod enc P w base spare held t v x ps) : ∃ n : Int, v = .int k n ∧ (Lit.int k n).wf = true := by
  obtain ⟨n, rfl, _, _, wn⟩ := open_int ht hv h
  exact ⟨n, rfl, wn⟩
theorem arg_bool {P : Program} {t : TypeId} {H : Type} {enc : TypeId × Value → H} {w : World} {r : Reach} {b0 base : Nat} {spare : Nat → Bool} {held : Bool} {v : Value} {x : DataW H} {ps : List MemPlace}
    (ht : P.underlying t = some .bool) (hv : Value.okWide P w r b0 t v) (h : DataW.Trod enc P w base spare held t v x ps) : ∃ b : Bool, v = .bool b := by
  obtain ⟨b, rfl, _, _⟩ := RowKit.open_bool ht hv h
  exact ⟨b, rfl⟩
theorem arg_float {P : Program} {t : TypeId} {k : FloatKind} {H : Type} {enc : TypeId × Value → H} {w : World} {r : Reach} {b0 base : Nat} {spare : Nat → Bool} {held : Bool} {v : Value} {x : DataW H} {ps : List MemPlace}
    (ht : P.underlying t = some (.float k)) (hv : Value.okWide P w r b0 t v) (h : DataW.Trod enc P w base spare held t v x ps) : ∃ n : Nat, v = .float k n ∧ (Lit.float k n).wf = true := by
  obtain ⟨n, rfl, _, _, wn⟩ := open_float ht hv h
  exact ⟨n, rfl, wn⟩
theorem arr_eq {cs : Array Value} {l : List Value} (h : cs.toList = l) : cs = l.toArray := by rw [← h]
/-- A struct by value. -/
theorem arg_struct {P : Program} {α : Type} {d : Kd α} {t : TypeId} {fs : Array Field} {Q : α → Prop} {H : Type} {enc : TypeId × Value → H} {w : World} {r : Reach} {b0 base : Nat} {spare : Nat → Bool} {held : Bool} {v : Value} {x : DataW H} {ps : List MemPlace}
    (ht : P.underlying t = some (.struct fs)) (hd : Opens P d t Q) (hv : Value.okWide P w r b0 t v) (h : DataW.Trod enc P w base spare held t v x ps) : ∃ (a : α) (cs : Array Value), v = .agg cs ∧ d.K w a cs.toList ∧ Q a := by
  obtain ⟨cs, rfl, _⟩ := okWide_struct ht hv
  obtain ⟨fuel, hf⟩ := h
  obtain ⟨a, ha, hq⟩ := hd H enc w base spare held fuel _ _ hf
  exact ⟨a, cs, rfl, ha, hq⟩

/-- A slice. -/
theorem arg_slice {P : Program} {α : Type} {d : Kd α} {t e : TypeId} {Q : α → Prop} {H : Type} {enc : TypeId × Value → H} {w : World} {r : Reach} {b0 base : Nat} {spare : Nat → Bool} {held : Bool} {v : Value} {x : DataW H} {ps : List MemPlace}
    (ht : P.underlying t = some (.slice e)) (hc : P.cellsOf e = d.sz) (hd : Opens P d e Q) (hv : Value.okWide P w r b0 t v) (h : DataW.Trod enc P w base spare held t v x ps) :
    ∃ (xs : List α) (A : Option Addr) (c : Nat), v = .slice A xs.length c ∧ xs.length ≤ c ∧ d.C w A xs.length xs ∧ xs.length ≤ maxLen ∧ ∀ z ∈ xs, Q z := by
  obtain ⟨a0, len, cap, rfl⟩ := okWide_slice ht hv
  obtain ⟨fuel, hf⟩ := h
  obtain ⟨xs, ⟨A, c, hA, hl, hC⟩, hm, hq⟩ := opens_slice ht hc hd H enc w base spare held fuel _ _ hf
  simp only [Value.cells, List.cons.injEq, Value.slice.injEq, and_true] at hA
  obtain ⟨rfl, rfl, rfl⟩ := hA
  exact ⟨xs, _, _, rfl, hl, hC, hm, hq⟩
theorem rows_le {α : Type} {e : Nat} {d : Kd α} {w : World} {A : Option Addr} {n : Nat} {xs : List (List α)} (h : Kd.C (Kd.slice e d) w A n xs) : ∀ x ∈ xs, x.length ≤ 9223372036854775807 := by
  intro x hx
  obtain ⟨j, hj, rfl⟩ := List.getElem_of_mem hx
  have hn := h.1
  obtain ⟨ad, _, hc⟩ := h.2.2 (by omega)
  obtain ⟨c, _, hk, _⟩ := hc j _ (List.getElem?_eq_getElem hj)
  obtain ⟨A', c', _, _, hC⟩ := hk
  exact hC.2.1
end Go.Proofs.Ytfbokdbaondjdaa.Op
