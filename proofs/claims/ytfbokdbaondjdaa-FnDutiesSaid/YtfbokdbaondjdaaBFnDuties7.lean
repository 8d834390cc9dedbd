import Derived.Test.YtfbokdbaondjdaaBFnDuties2
import Derived.Test.YtfbokdbaondjdaaBFnDuties3
import Derived.Test.YtfbokdbaondjdaaBFnDuties4
import Derived.Test.YtfbokdbaondjdaaBFnDuties6
import Derived.Laws.BitsLemmas
import Derived.Test.YtfbokdbaondjdaaBFnDuties5
import Derived.Test.YtfbokdbaondjdaaBFnDuties1
-- printed for this claim out of the translation
namespace Go.Proofs.Ytfbokdbaondjdaa.PV1
open Go.RowKit Go.Proofs.YtfbokdbaondjdaaW.PrintWords Go.Proofs.YtfbokdbaondjdaaW.PrintLast Go.Proofs.YtfbokdbaondjdaaW.PrintMore Go.Proofs.Ytfbokdbaondjdaa.Cz Go.Proofs.Ytfbokdbaondjdaa.Cz
attribute [local go_sem] max2_int min2_int max_two min_two max_three min_three max_four min_four
set_option linter.unusedVariables false
set_option linter.unusedSimpArgs false

/-! ### laws_FnDuties: function 5 -/
mutual
def laws_FnDuties.j0 : Nat → Int → Int → Int → Int → Int → Int → Int → Int → Int → Int → Int → Int → Int → Int → Option (Bool)
 | 0, _, _, _, _, _, _, _, _, _, _, _, _, _, _ => none
 | k + 1, x5, x6, x489000, x489001, x489002, x489003, x489004, x489005, x490000, x490001, x490002, x490003, x490004, x490005 => (spec_ShipOk.f (wrap64 (Int.tdiv (wrap64 (-x489001)) 2)) (wrap64 (Int.tdiv x489000 2)) (wrap64 (-x489003)) x489002 x489004 x489005).bind fun t494 => (if t494 = true then ((spec_ShipOk.f (wrap64 ((wrap64 (Int.tdiv (wrap64 (-x489001)) 2)) - (wrap64 (x490001 - x489001)))) (wrap64 ((wrap64 (Int.tdiv x489000 2)) + (wrap64 (x490000 - x489000)))) (wrap64 (-x490003)) x490002 x490004 x490005).bind fun t495 => (laws_FnDuties.j1 k x5 x6 (!t495) x489000 x489001 x489002 x489003 x489004 x489005 x490000 x490001 x490002 x490003 x490004 x490005 (wrap64 (Int.tdiv (wrap64 (-x489001)) 2)) (wrap64 (Int.tdiv x489000 2)) (wrap64 (-x489003)) x489002 x489004 x489005 (wrap64 ((wrap64 (Int.tdiv (wrap64 (-x489001)) 2)) - (wrap64 (x490001 - x489001)))) (wrap64 ((wrap64 (Int.tdiv x489000 2)) + (wrap64 (x490000 - x489000)))) (wrap64 (-x490003)) x490002 x490004 x490005)) else (laws_FnDuties.j1 k x5 x6 true x489000 x489001 x489002 x489003 x489004 x489005 x490000 x490001 x490002 x490003 x490004 x490005 (wrap64 (Int.tdiv (wrap64 (-x489001)) 2)) (wrap64 (Int.tdiv x489000 2)) (wrap64 (-x489003)) x489002 x489004 x489005 (wrap64 ((wrap64 (Int.tdiv (wrap64 (-x489001)) 2)) - (wrap64 (x490001 - x489001)))) (wrap64 ((wrap64 (Int.tdiv x489000 2)) + (wrap64 (x490000 - x489000)))) (wrap64 (-x490003)) x490002 x490004 x490005))
def laws_FnDuties.j1 : Nat → Int → Int → Bool → Int → Int → Int → Int → Int → Int → Int → Int → Int → Int → Int → Int → Int → Int → Int → Int → Int → Int → Int → Int → Int → Int → Int → Int → Option (Bool)
 | 0, _, _, _, _, _, _, _, _, _, _, _, _, _, _, _, _, _, _, _, _, _, _, _, _, _, _, _ => none
 | k + 1, x5, x6, x90, x489000, x489001, x489002, x489003, x489004, x489005, x490000, x490001, x490002, x490003, x490004, x490005, x493000, x493001, x493002, x493003, x493004, x493005, x494000, x494001, x494002, x494003, x494004, x494005 => if x90 = true then ((impl_ShipOk.f x489000 x489001 x489002 x489003 x489004 x489005).bind fun t496 => (if t496 = true then ((impl_ShipOk.f x490000 x490001 x490002 x490003 x490004 x490005).bind fun t497 => (some t497)) else (some false))) else ((impl_Duties.f k (([(⟨x489000, x489001, x489002, x489003, x489004, x489005⟩ : S25), (⟨x490000, x490001, x490002, x490003, x490004, x490005⟩ : S25)] : List (S25)))).bind fun bt501 => ((impl_Duty.f k x493000 x493001 x493002 x493003 x493004 x493005 x494000 x494001 x494002 x494003 x494004 x494005).bind fun t505 => (if t505 = x5 then ((impl_Duty.f k x494000 x494001 x494002 x494003 x494004 x494005 x493000 x493001 x493002 x493003 x493004 x493005).bind fun t506 => (if t506 = x6 then (if bt501.2 = true then (if (bt501.1.length : Int) = 2 then (if 0 < (bt501.1.length : Int) then (if ((rd_L3 bt501.1 0).length : Int) = 2 then (if 1 < (bt501.1.length : Int) then (if ((rd_L3 bt501.1 1).length : Int) = 2 then (if 1 < ((rd_L3 bt501.1 0).length : Int) then (if (rd (rd_L3 bt501.1 0) 1) = x5 then (if 0 < ((rd_L3 bt501.1 1).length : Int) then (if (rd (rd_L3 bt501.1 1) 0) = x6 then (if 0 < ((rd_L3 bt501.1 0).length : Int) then (some ((rd (rd_L3 bt501.1 0) 0) == 0)) else (none)) else (some false)) else (none)) else (some false)) else (none)) else (some false)) else (none)) else (some false)) else (none)) else (some false)) else (some false)) else (some false))) else (some false))))
end
def laws_FnDuties.f (k : Nat) (l0 : List Int) : Option (Bool) := (laws_big.f l0).bind fun t475 => (if t475 = true then (some true) else ((spec_DrawRightShips.f k l0).bind fun bt476 => ((impl_Duty.f k bt476.1 bt476.2.1 bt476.2.2.1 bt476.2.2.2.1 bt476.2.2.2.2.1 bt476.2.2.2.2.2.1 bt476.2.2.2.2.2.2.1 bt476.2.2.2.2.2.2.2.1 bt476.2.2.2.2.2.2.2.2.1 bt476.2.2.2.2.2.2.2.2.2.1 bt476.2.2.2.2.2.2.2.2.2.2.1 bt476.2.2.2.2.2.2.2.2.2.2.2).bind fun t490 => ((impl_Duty.f k bt476.2.2.2.2.2.2.1 bt476.2.2.2.2.2.2.2.1 bt476.2.2.2.2.2.2.2.2.1 bt476.2.2.2.2.2.2.2.2.2.1 bt476.2.2.2.2.2.2.2.2.2.2.1 bt476.2.2.2.2.2.2.2.2.2.2.2 bt476.1 bt476.2.1 bt476.2.2.1 bt476.2.2.2.1 bt476.2.2.2.2.1 bt476.2.2.2.2.2.1).bind fun t491 => (if t490 = 1 then (if t491 = 2 then (laws_FnDuties.j0 k t490 t491 bt476.1 bt476.2.1 bt476.2.2.1 bt476.2.2.2.1 bt476.2.2.2.2.1 bt476.2.2.2.2.2.1 bt476.2.2.2.2.2.2.1 bt476.2.2.2.2.2.2.2.1 bt476.2.2.2.2.2.2.2.2.1 bt476.2.2.2.2.2.2.2.2.2.1 bt476.2.2.2.2.2.2.2.2.2.2.1 bt476.2.2.2.2.2.2.2.2.2.2.2) else (some false)) else (if t490 = 2 then (if t491 = 1 then (laws_FnDuties.j0 k t490 t491 bt476.1 bt476.2.1 bt476.2.2.1 bt476.2.2.2.1 bt476.2.2.2.2.1 bt476.2.2.2.2.2.1 bt476.2.2.2.2.2.2.1 bt476.2.2.2.2.2.2.2.1 bt476.2.2.2.2.2.2.2.2.1 bt476.2.2.2.2.2.2.2.2.2.1 bt476.2.2.2.2.2.2.2.2.2.2.1 bt476.2.2.2.2.2.2.2.2.2.2.2) else (some false)) else (if t491 = t490 then (if t490 = 4 then (some false) else (laws_FnDuties.j0 k t490 t491 bt476.1 bt476.2.1 bt476.2.2.1 bt476.2.2.2.1 bt476.2.2.2.2.1 bt476.2.2.2.2.2.1 bt476.2.2.2.2.2.2.1 bt476.2.2.2.2.2.2.2.1 bt476.2.2.2.2.2.2.2.2.1 bt476.2.2.2.2.2.2.2.2.2.1 bt476.2.2.2.2.2.2.2.2.2.2.1 bt476.2.2.2.2.2.2.2.2.2.2.2)) else (some false))))))))
theorem laws_FnDuties.mono_l : ∀ k, (∀ y0 y1 y2 y3 y4 y5 y6 y7 y8 y9 y10 y11 y12 y13, LeO (laws_FnDuties.j0 k y0 y1 y2 y3 y4 y5 y6 y7 y8 y9 y10 y11 y12 y13) (laws_FnDuties.j0 (k + 1) y0 y1 y2 y3 y4 y5 y6 y7 y8 y9 y10 y11 y12 y13)) ∧ (∀ y0 y1 y2 y3 y4 y5 y6 y7 y8 y9 y10 y11 y12 y13 y14 y15 y16 y17 y18 y19 y20 y21 y22 y23 y24 y25 y26, LeO (laws_FnDuties.j1 k y0 y1 y2 y3 y4 y5 y6 y7 y8 y9 y10 y11 y12 y13 y14 y15 y16 y17 y18 y19 y20 y21 y22 y23 y24 y25 y26) (laws_FnDuties.j1 (k + 1) y0 y1 y2 y3 y4 y5 y6 y7 y8 y9 y10 y11 y12 y13 y14 y15 y16 y17 y18 y19 y20 y21 y22 y23 y24 y25 y26))
 | 0 => ⟨fun _ _ _ _ _ _ _ _ _ _ _ _ _ _ r h => by simp [laws_FnDuties.j0] at h, fun _ _ _ _ _ _ _ _ _ _ _ _ _ _ _ _ _ _ _ _ _ _ _ _ _ _ _ r h => by simp [laws_FnDuties.j1] at h⟩
 | k + 1 => by
  obtain ⟨ih0, ih1⟩ := laws_FnDuties.mono_l k
  refine ⟨?_, ?_⟩
  ·intro y0 y1 y2 y3 y4 y5 y6 y7 y8 y9 y10 y11 y12 y13
   unfold laws_FnDuties.j0
   repeat' first
   | (with_reducible exact ih0 _ _ _ _ _ _ _ _ _ _ _ _ _ _)
   | (with_reducible exact ih1 _ _ _ _ _ _ _ _ _ _ _ _ _ _ _ _ _ _ _ _ _ _ _ _ _ _ _)
   | (with_reducible exact impl_Duties.mono _ _)
   | (with_reducible exact impl_Duty.mono _ _ _ _ _ _ _ _ _ _ _ _ _)
   | (with_reducible exact spec_DrawRightShips.mono _ _)
   | (with_reducible exact LeO.refl _)
   | (with_reducible exact LeO.none _)
   | (with_reducible refine LeO.ite ?_ ?_)
   | (with_reducible refine LeO.bind ?_ (fun _ => ?_))
   | exact ih0 _ _ _ _ _ _ _ _ _ _ _ _ _ _
   | exact ih1 _ _ _ _ _ _ _ _ _ _ _ _ _ _ _ _ _ _ _ _ _ _ _ _ _ _ _
   | exact impl_Duties.mono _ _
   | exact impl_Duty.mono _ _ _ _ _ _ _ _ _ _ _ _ _
   | exact spec_DrawRightShips.mono _ _
   | exact LeO.none _
   | refine LeO.ite ?_ ?_
   | refine LeO.bind ?_ (fun _ => ?_)
  ·intro y0 y1 y2 y3 y4 y5 y6 y7 y8 y9 y10 y11 y12 y13 y14 y15 y16 y17 y18 y19 y20 y21 y22 y23 y24 y25 y26
   unfold laws_FnDuties.j1
   repeat' first
   | (with_reducible exact ih0 _ _ _ _ _ _ _ _ _ _ _ _ _ _)
   | (with_reducible exact ih1 _ _ _ _ _ _ _ _ _ _ _ _ _ _ _ _ _ _ _ _ _ _ _ _ _ _ _)
   | (with_reducible exact impl_Duties.mono _ _)
   | (with_reducible exact impl_Duty.mono _ _ _ _ _ _ _ _ _ _ _ _ _)
   | (with_reducible exact spec_DrawRightShips.mono _ _)
   | (with_reducible exact LeO.refl _)
   | (with_reducible exact LeO.none _)
   | (with_reducible refine LeO.ite ?_ ?_)
   | (with_reducible refine LeO.bind ?_ (fun _ => ?_))
   | exact ih0 _ _ _ _ _ _ _ _ _ _ _ _ _ _
   | exact ih1 _ _ _ _ _ _ _ _ _ _ _ _ _ _ _ _ _ _ _ _ _ _ _ _ _ _ _
   | exact impl_Duties.mono _ _
   | exact impl_Duty.mono _ _ _ _ _ _ _ _ _ _ _ _ _
   | exact spec_DrawRightShips.mono _ _
   | exact LeO.none _
   | refine LeO.ite ?_ ?_
   | refine LeO.bind ?_ (fun _ => ?_)
theorem laws_FnDuties.mono : ∀ a0 k, LeO (laws_FnDuties.f k a0) (laws_FnDuties.f (k + 1) a0) := by
 intro a0 k
 obtain ⟨ih0, ih1⟩ := laws_FnDuties.mono_l k
 unfold laws_FnDuties.f
 repeat' first
   | (with_reducible exact ih0 _ _ _ _ _ _ _ _ _ _ _ _ _ _)
   | (with_reducible exact ih1 _ _ _ _ _ _ _ _ _ _ _ _ _ _ _ _ _ _ _ _ _ _ _ _ _ _ _)
   | (with_reducible exact impl_Duties.mono _ _)
   | (with_reducible exact impl_Duty.mono _ _ _ _ _ _ _ _ _ _ _ _ _)
   | (with_reducible exact spec_DrawRightShips.mono _ _)
   | (with_reducible exact LeO.refl _)
   | (with_reducible exact LeO.none _)
   | (with_reducible refine LeO.ite ?_ ?_)
   | (with_reducible refine LeO.bind ?_ (fun _ => ?_))
   | exact ih0 _ _ _ _ _ _ _ _ _ _ _ _ _ _
   | exact ih1 _ _ _ _ _ _ _ _ _ _ _ _ _ _ _ _ _ _ _ _ _ _ _ _ _ _ _
   | exact impl_Duties.mono _ _
   | exact impl_Duty.mono _ _ _ _ _ _ _ _ _ _ _ _ _
   | exact spec_DrawRightShips.mono _ _
   | exact LeO.none _
   | refine LeO.ite ?_ ?_
   | refine LeO.bind ?_ (fun _ => ?_)
def laws_FnDuties.T4 : Bool × List (List Nat × List Nat) := (true, [([], []), ([], []), ([0, 1], [0, 1]), ([], []), ([], []), ([3, 4, 2], [3, 4]), ([2, 5, 0, 1, 2], [2]), ([5, 6, 0, 1, 2, 3, 4, 5, 6], [5])])
def laws_FnDuties.B4 : List Nat := [0, 0, 3, 0, 0, 31, 63, 127]
theorem laws_FnDuties.tab4 : rtab .any (opsOf Try.f5 4) = laws_FnDuties.T4 := by kernel_rfl
theorem laws_FnDuties.bits4 : waitsOk laws_FnDuties.T4.2 laws_FnDuties.B4 = true := by kernel_rfl
set_option maxHeartbeats 40000000 in
set_option maxRecDepth 100000 in
theorem laws_FnDuties.calls (k : Nat) (A0 : Option Addr) (c0 : Nat) (l0 : List Int) (w : World) (hr0 : Kd.C (Kd.int .u8) w A0 l0.length l0) (hc0 : l0.length ≤ c0) (h : laws_FnDuties.f k l0 = some true) :
  Calls Try.prog 5 #[.slice A0 l0.length c0] w fun e w' => e = .returned (.bool true) ∧ Below w.heap.size w w' := by
 have hu25 := Try.underlying25
 have HR0 := Aside0.mk hr0
 have HC0 := Aside0.mk hc0
 clear hr0 hc0
 have HB := Aside0.mk (Below.refl w.heap.size w)
 have H : ((laws_big.f l0).bind fun t475 => (if t475 = true then (some true) else ((spec_DrawRightShips.f k l0).bind fun bt476 => ((impl_Duty.f k bt476.1 bt476.2.1 bt476.2.2.1 bt476.2.2.2.1 bt476.2.2.2.2.1 bt476.2.2.2.2.2.1 bt476.2.2.2.2.2.2.1 bt476.2.2.2.2.2.2.2.1 bt476.2.2.2.2.2.2.2.2.1 bt476.2.2.2.2.2.2.2.2.2.1 bt476.2.2.2.2.2.2.2.2.2.2.1 bt476.2.2.2.2.2.2.2.2.2.2.2).bind fun t490 => ((impl_Duty.f k bt476.2.2.2.2.2.2.1 bt476.2.2.2.2.2.2.2.1 bt476.2.2.2.2.2.2.2.2.1 bt476.2.2.2.2.2.2.2.2.2.1 bt476.2.2.2.2.2.2.2.2.2.2.1 bt476.2.2.2.2.2.2.2.2.2.2.2 bt476.1 bt476.2.1 bt476.2.2.1 bt476.2.2.2.1 bt476.2.2.2.2.1 bt476.2.2.2.2.2.1).bind fun t491 => (if t490 = 1 then (if t491 = 2 then (laws_FnDuties.j0 k t490 t491 bt476.1 bt476.2.1 bt476.2.2.1 bt476.2.2.2.1 bt476.2.2.2.2.1 bt476.2.2.2.2.2.1 bt476.2.2.2.2.2.2.1 bt476.2.2.2.2.2.2.2.1 bt476.2.2.2.2.2.2.2.2.1 bt476.2.2.2.2.2.2.2.2.2.1 bt476.2.2.2.2.2.2.2.2.2.2.1 bt476.2.2.2.2.2.2.2.2.2.2.2) else (some false)) else (if t490 = 2 then (if t491 = 1 then (laws_FnDuties.j0 k t490 t491 bt476.1 bt476.2.1 bt476.2.2.1 bt476.2.2.2.1 bt476.2.2.2.2.1 bt476.2.2.2.2.2.1 bt476.2.2.2.2.2.2.1 bt476.2.2.2.2.2.2.2.1 bt476.2.2.2.2.2.2.2.2.1 bt476.2.2.2.2.2.2.2.2.2.1 bt476.2.2.2.2.2.2.2.2.2.2.1 bt476.2.2.2.2.2.2.2.2.2.2.2) else (some false)) else (if t491 = t490 then (if t490 = 4 then (some false) else (laws_FnDuties.j0 k t490 t491 bt476.1 bt476.2.1 bt476.2.2.1 bt476.2.2.2.1 bt476.2.2.2.2.1 bt476.2.2.2.2.2.1 bt476.2.2.2.2.2.2.1 bt476.2.2.2.2.2.2.2.1 bt476.2.2.2.2.2.2.2.2.1 bt476.2.2.2.2.2.2.2.2.2.1 bt476.2.2.2.2.2.2.2.2.2.2.1 bt476.2.2.2.2.2.2.2.2.2.2.2)) else (some false))))))))) = some true := h
 clear h
 replace H := Option.bind_eq_some_iff.mp H
 obtain ⟨t475, A20, H⟩ := H
 replace H : (if t475 = true then (some true) else ((spec_DrawRightShips.f k l0).bind fun bt476 => ((impl_Duty.f k bt476.1 bt476.2.1 bt476.2.2.1 bt476.2.2.2.1 bt476.2.2.2.2.1 bt476.2.2.2.2.2.1 bt476.2.2.2.2.2.2.1 bt476.2.2.2.2.2.2.2.1 bt476.2.2.2.2.2.2.2.2.1 bt476.2.2.2.2.2.2.2.2.2.1 bt476.2.2.2.2.2.2.2.2.2.2.1 bt476.2.2.2.2.2.2.2.2.2.2.2).bind fun t490 => ((impl_Duty.f k bt476.2.2.2.2.2.2.1 bt476.2.2.2.2.2.2.2.1 bt476.2.2.2.2.2.2.2.2.1 bt476.2.2.2.2.2.2.2.2.2.1 bt476.2.2.2.2.2.2.2.2.2.2.1 bt476.2.2.2.2.2.2.2.2.2.2.2 bt476.1 bt476.2.1 bt476.2.2.1 bt476.2.2.2.1 bt476.2.2.2.2.1 bt476.2.2.2.2.2.1).bind fun t491 => (if t490 = 1 then (if t491 = 2 then (laws_FnDuties.j0 k t490 t491 bt476.1 bt476.2.1 bt476.2.2.1 bt476.2.2.2.1 bt476.2.2.2.2.1 bt476.2.2.2.2.2.1 bt476.2.2.2.2.2.2.1 bt476.2.2.2.2.2.2.2.1 bt476.2.2.2.2.2.2.2.2.1 bt476.2.2.2.2.2.2.2.2.2.1 bt476.2.2.2.2.2.2.2.2.2.2.1 bt476.2.2.2.2.2.2.2.2.2.2.2) else (some false)) else (if t490 = 2 then (if t491 = 1 then (laws_FnDuties.j0 k t490 t491 bt476.1 bt476.2.1 bt476.2.2.1 bt476.2.2.2.1 bt476.2.2.2.2.1 bt476.2.2.2.2.2.1 bt476.2.2.2.2.2.2.1 bt476.2.2.2.2.2.2.2.1 bt476.2.2.2.2.2.2.2.2.1 bt476.2.2.2.2.2.2.2.2.2.1 bt476.2.2.2.2.2.2.2.2.2.2.1 bt476.2.2.2.2.2.2.2.2.2.2.2) else (some false)) else (if t491 = t490 then (if t490 = 4 then (some false) else (laws_FnDuties.j0 k t490 t491 bt476.1 bt476.2.1 bt476.2.2.1 bt476.2.2.2.1 bt476.2.2.2.2.1 bt476.2.2.2.2.2.1 bt476.2.2.2.2.2.2.1 bt476.2.2.2.2.2.2.2.1 bt476.2.2.2.2.2.2.2.2.1 bt476.2.2.2.2.2.2.2.2.2.1 bt476.2.2.2.2.2.2.2.2.2.2.1 bt476.2.2.2.2.2.2.2.2.2.2.2)) else (some false)))))))) = some true := H
 have A2 := Aside0.mk A20
 clear A20
 by_cases c3 : t475 = true
 ·subst c3
  have H1 : (some true) = some true := rfl
  clear H
  have H := H1
  clear H1 H
  go_enter Try.func5, Try.ntmps5
  go_wp2_with (first | ((with_reducible refine gate_callee (f := 21) rfl ?_); refine goesL_ (some 12) rfl rfl Try.func21 (by kernel_rfl) rfl #[.slice A0 l0.length c0] rfl (by (try simp only [List.map_toArray, List.map_cons, List.map_nil]); first | done | rfl) ?_; (with_reducible refine (laws_big.calls _ _ l0 true _ ?side1 ?side2 A2.out).mono ?_); (case side1 => repeat (first | exact HR0.out | (with_reducible refine Kd.C_alloc ?_ _) | (with_reducible refine Kd.C_drewN ?_ _) | (with_reducible refine Kd.C_drew ?_))); (case side2 => exact HC0.out); rintro e w' ⟨rfl, ⟨nd, rfl⟩⟩; refine ⟨_, rfl, ?_⟩))
  go_ret
  exact ⟨by first | rfl | (simp [errW_none, errW_some] <;> rfl) | (simp [*, errW_none, errW_some] <;> rfl), by repeat (first | (with_reducible first | exact HB.out | apply below_alloc | apply pw_below_drewN | apply below_drew1) | exact HB.out)⟩
 ·replace c3 := Bool.eq_false_iff.mpr c3
  subst c3
  have H1 : ((spec_DrawRightShips.f k l0).bind fun bt476 => ((impl_Duty.f k bt476.1 bt476.2.1 bt476.2.2.1 bt476.2.2.2.1 bt476.2.2.2.2.1 bt476.2.2.2.2.2.1 bt476.2.2.2.2.2.2.1 bt476.2.2.2.2.2.2.2.1 bt476.2.2.2.2.2.2.2.2.1 bt476.2.2.2.2.2.2.2.2.2.1 bt476.2.2.2.2.2.2.2.2.2.2.1 bt476.2.2.2.2.2.2.2.2.2.2.2).bind fun t490 => ((impl_Duty.f k bt476.2.2.2.2.2.2.1 bt476.2.2.2.2.2.2.2.1 bt476.2.2.2.2.2.2.2.2.1 bt476.2.2.2.2.2.2.2.2.2.1 bt476.2.2.2.2.2.2.2.2.2.2.1 bt476.2.2.2.2.2.2.2.2.2.2.2 bt476.1 bt476.2.1 bt476.2.2.1 bt476.2.2.2.1 bt476.2.2.2.2.1 bt476.2.2.2.2.2.1).bind fun t491 => (if t490 = 1 then (if t491 = 2 then (laws_FnDuties.j0 k t490 t491 bt476.1 bt476.2.1 bt476.2.2.1 bt476.2.2.2.1 bt476.2.2.2.2.1 bt476.2.2.2.2.2.1 bt476.2.2.2.2.2.2.1 bt476.2.2.2.2.2.2.2.1 bt476.2.2.2.2.2.2.2.2.1 bt476.2.2.2.2.2.2.2.2.2.1 bt476.2.2.2.2.2.2.2.2.2.2.1 bt476.2.2.2.2.2.2.2.2.2.2.2) else (some false)) else (if t490 = 2 then (if t491 = 1 then (laws_FnDuties.j0 k t490 t491 bt476.1 bt476.2.1 bt476.2.2.1 bt476.2.2.2.1 bt476.2.2.2.2.1 bt476.2.2.2.2.2.1 bt476.2.2.2.2.2.2.1 bt476.2.2.2.2.2.2.2.1 bt476.2.2.2.2.2.2.2.2.1 bt476.2.2.2.2.2.2.2.2.2.1 bt476.2.2.2.2.2.2.2.2.2.2.1 bt476.2.2.2.2.2.2.2.2.2.2.2) else (some false)) else (if t491 = t490 then (if t490 = 4 then (some false) else (laws_FnDuties.j0 k t490 t491 bt476.1 bt476.2.1 bt476.2.2.1 bt476.2.2.2.1 bt476.2.2.2.2.1 bt476.2.2.2.2.2.1 bt476.2.2.2.2.2.2.1 bt476.2.2.2.2.2.2.2.1 bt476.2.2.2.2.2.2.2.2.1 bt476.2.2.2.2.2.2.2.2.2.1 bt476.2.2.2.2.2.2.2.2.2.2.1 bt476.2.2.2.2.2.2.2.2.2.2.2)) else (some false))))))) = some true := by rw [if_neg (show ¬ (false = true) by decide)] at H; exact H
  clear H
  have H := H1
  clear H1
  replace H := Option.bind_eq_some_iff.mp H
  obtain ⟨⟨t476, t477, t478, t479, t480, t481, t482, t483, t484, t485, t486, t487⟩, A40, H⟩ := H
  replace H : ((impl_Duty.f k t476 t477 t478 t479 t480 t481 t482 t483 t484 t485 t486 t487).bind fun t490 => ((impl_Duty.f k t482 t483 t484 t485 t486 t487 t476 t477 t478 t479 t480 t481).bind fun t491 => (if t490 = 1 then (if t491 = 2 then (laws_FnDuties.j0 k t490 t491 t476 t477 t478 t479 t480 t481 t482 t483 t484 t485 t486 t487) else (some false)) else (if t490 = 2 then (if t491 = 1 then (laws_FnDuties.j0 k t490 t491 t476 t477 t478 t479 t480 t481 t482 t483 t484 t485 t486 t487) else (some false)) else (if t491 = t490 then (if t490 = 4 then (some false) else (laws_FnDuties.j0 k t490 t491 t476 t477 t478 t479 t480 t481 t482 t483 t484 t485 t486 t487)) else (some false)))))) = some true := H
  have A4 := Aside0.mk A40
  clear A40
  replace H := Option.bind_eq_some_iff.mp H
  obtain ⟨t490, A50, H⟩ := H
  replace H : ((impl_Duty.f k t482 t483 t484 t485 t486 t487 t476 t477 t478 t479 t480 t481).bind fun t491 => (if t490 = 1 then (if t491 = 2 then (laws_FnDuties.j0 k t490 t491 t476 t477 t478 t479 t480 t481 t482 t483 t484 t485 t486 t487) else (some false)) else (if t490 = 2 then (if t491 = 1 then (laws_FnDuties.j0 k t490 t491 t476 t477 t478 t479 t480 t481 t482 t483 t484 t485 t486 t487) else (some false)) else (if t491 = t490 then (if t490 = 4 then (some false) else (laws_FnDuties.j0 k t490 t491 t476 t477 t478 t479 t480 t481 t482 t483 t484 t485 t486 t487)) else (some false))))) = some true := H
  have A5 := Aside0.mk A50
  clear A50
  replace H := Option.bind_eq_some_iff.mp H
  obtain ⟨t491, A60, H⟩ := H
  replace H : (if t490 = 1 then (if t491 = 2 then (laws_FnDuties.j0 k t490 t491 t476 t477 t478 t479 t480 t481 t482 t483 t484 t485 t486 t487) else (some false)) else (if t490 = 2 then (if t491 = 1 then (laws_FnDuties.j0 k t490 t491 t476 t477 t478 t479 t480 t481 t482 t483 t484 t485 t486 t487) else (some false)) else (if t491 = t490 then (if t490 = 4 then (some false) else (laws_FnDuties.j0 k t490 t491 t476 t477 t478 t479 t480 t481 t482 t483 t484 t485 t486 t487)) else (some false)))) = some true := H
  have A6 := Aside0.mk A60
  clear A60
  have HC7 := Aside0.mk H
  clear H
  go_enter Try.func5, Try.ntmps5
  try go_wp2_with (first | ((with_reducible refine gate_callee (f := 21) rfl ?_); refine goesL_ (some 12) rfl rfl Try.func21 (by kernel_rfl) rfl #[.slice A0 l0.length c0] rfl (by (try simp only [List.map_toArray, List.map_cons, List.map_nil]); first | done | rfl) ?_; (with_reducible refine (laws_big.calls _ _ l0 false _ ?side1 ?side2 A2.out).mono ?_); (case side1 => repeat (first | exact HR0.out | (with_reducible refine Kd.C_alloc ?_ _) | (with_reducible refine Kd.C_drewN ?_ _) | (with_reducible refine Kd.C_drew ?_))); (case side2 => exact HC0.out); rintro e w' ⟨rfl, ⟨nd, rfl⟩⟩; refine ⟨_, rfl, ?_⟩) | ((with_reducible refine gate_callee (f := 22) rfl ?_); refine goesL_ (some 15) rfl rfl Try.func22 (by kernel_rfl) rfl #[.slice A0 l0.length c0] rfl (by (try simp only [List.map_toArray, List.map_cons, List.map_nil]); first | done | rfl) ?_; (with_reducible refine (spec_DrawRightShips.calls k _ _ l0 t476 t477 t478 t479 t480 t481 t482 t483 t484 t485 t486 t487 _ ?side1 ?side2 A4.out).mono ?_); (case side1 => repeat (first | exact HR0.out | (with_reducible refine Kd.C_alloc ?_ _) | (with_reducible refine Kd.C_drewN ?_ _) | (with_reducible refine Kd.C_drew ?_))); (case side2 => exact HC0.out); rintro e w8 ⟨rfl, hb⟩; refine ⟨_, rfl, ?_⟩; replace HB := Aside0.mk (below_step (ub HB) hb); (try clear hb); (try clear hb2); (try clear hk); (try clear hi)) | ((with_reducible refine gate_dst (N := 3) rfl ?_); (try (refine gate_guard (by rfl) ?_; dsimp only)); refine box_event ?hg (N := 3) ?hd (cs := #[.int .i64 0, .int .i64 0, .int .i64 0, .int .i64 0, .int .i64 0, .int .i64 0]) (t := 25) ?hr ?_; (case hd => rfl); (case hg => rfl); (case hr => first | (go_simp; done) | (go_simp; rfl)); intro gb488 hg w9 hbox hb; replace BK488 := Aside0.mk (hbox); replace GW488 := Aside0.mk ((by rw [hg]; exact (below_size (ub HB)) : w.heap.size ≤ gb488)); replace GE488 := Aside0.mk ((by rw [hg]; exact (below_size (ub HB)) : w.heap.size ≤ gb488)); replace HB := Aside0.mk (below_step (ub HB) hb); clear hb hbox hg) | ((with_reducible refine gate_dst (N := 4) rfl ?_); (try (refine gate_guard (by rfl) ?_; dsimp only)); refine box_event ?hg (N := 4) ?hd (cs := #[.int .i64 0, .int .i64 0, .int .i64 0, .int .i64 0, .int .i64 0, .int .i64 0]) (t := 25) ?hr ?_; (case hd => rfl); (case hg => rfl); (case hr => first | (go_simp; done) | (go_simp; rfl)); intro gb489 hg w10 hbox hb; replace BK489 := Aside0.mk (hbox); replace GW489 := Aside0.mk ((by rw [hg]; exact (below_size (by repeat (first | (with_reducible first | exact HB.out | apply below_alloc | apply pw_below_drewN | apply below_drew1 | refine below_set ?_ GE488.out) | exact HB.out))) : w.heap.size ≤ gb489)); replace GE489 := Aside0.mk ((by rw [hg]; exact (below_size (by repeat (first | (with_reducible first | exact HB.out | apply below_alloc | apply pw_below_drewN | apply below_drew1 | refine below_set ?_ GE488.out) | exact HB.out))) : w.heap.size ≤ gb489)); replace HB := Aside0.mk (below_step (by repeat (first | (with_reducible first | exact HB.out | apply below_alloc | apply pw_below_drewN | apply below_drew1 | refine below_set ?_ GE488.out) | exact HB.out)) hb); replace NB488_489 := Aside0.mk ((by rw [hg]; exact Nat.ne_of_lt (blk_lt (g := gb488) (up BK488)) : gb488 ≠ gb489)); replace NB489_488 := Aside0.mk ((by rw [hg]; exact Nat.ne_of_gt (blk_lt (g := gb488) (up BK488)) : gb489 ≠ gb488)); replace BK488 := Aside0.mk (blk_below (g := gb488) (up BK488) hb); clear hb hbox hg; have hnb11 := NB488_489.out; have hnc11 := NB489_488.out; obtain ⟨hcz12_0, hcz12_1, hcz12_2, hcz12_3, hcz12_4, hcz12_5, hfz12_0, hfz12_1, hfz12_2, hfz12_3, hfz12_4, hfz12_5⟩ := six BK488; obtain ⟨hcz13_0, hcz13_1, hcz13_2, hcz13_3, hcz13_4, hcz13_5, hfz13_0, hfz13_1, hfz13_2, hfz13_3, hfz13_4, hfz13_5⟩ := six BK489))
  replace BK488 : Aside0 (((((((((((((w10.setCell ⟨gb488, 0, none⟩ (.int .i64 t476)).setCell ⟨gb488, 1, none⟩ (.int .i64 t477)).setCell ⟨gb488, 2, none⟩ (.int .i64 t478)).setCell ⟨gb488, 3, none⟩ (.int .i64 t479)).setCell ⟨gb488, 4, none⟩ (.int .i64 t480)).setCell ⟨gb488, 5, none⟩ (.int .i64 t481)).setCell ⟨gb489, 0, none⟩ (.int .i64 t482)).setCell ⟨gb489, 1, none⟩ (.int .i64 t483)).setCell ⟨gb489, 2, none⟩ (.int .i64 t484)).setCell ⟨gb489, 3, none⟩ (.int .i64 t485)).setCell ⟨gb489, 4, none⟩ (.int .i64 t486)).setCell ⟨gb489, 5, none⟩ (.int .i64 t487)).heap[gb488]? = some (.cells #[.int .i64 t476, .int .i64 t477, .int .i64 t478, .int .i64 t479, .int .i64 t480, .int .i64 t481] 25 (0, 0))) := ⟨by (with_reducible repeat (first | refine blk_drewN ?_ _ | refine blk_drew ?_ | refine blk_alloc ?_ _)); refine blk_far ?_ NB488_489.out _; (with_reducible repeat (first | refine blk_drewN ?_ _ | refine blk_drew ?_ | refine blk_alloc ?_ _)); refine blk_far ?_ NB488_489.out _; (with_reducible repeat (first | refine blk_drewN ?_ _ | refine blk_drew ?_ | refine blk_alloc ?_ _)); refine blk_far ?_ NB488_489.out _; (with_reducible repeat (first | refine blk_drewN ?_ _ | refine blk_drew ?_ | refine blk_alloc ?_ _)); refine blk_far ?_ NB488_489.out _; (with_reducible repeat (first | refine blk_drewN ?_ _ | refine blk_drew ?_ | refine blk_alloc ?_ _)); refine blk_far ?_ NB488_489.out _; (with_reducible repeat (first | refine blk_drewN ?_ _ | refine blk_drew ?_ | refine blk_alloc ?_ _)); refine blk_far ?_ NB488_489.out _; (with_reducible repeat (first | refine blk_drewN ?_ _ | refine blk_drew ?_ | refine blk_alloc ?_ _)); refine blk_put (cs := #[.int .i64 t476, .int .i64 t477, .int .i64 t478, .int .i64 t479, .int .i64 t480, .int .i64 0]) ?_ 5 _ rfl; (with_reducible repeat (first | refine blk_drewN ?_ _ | refine blk_drew ?_ | refine blk_alloc ?_ _)); refine blk_put (cs := #[.int .i64 t476, .int .i64 t477, .int .i64 t478, .int .i64 t479, .int .i64 0, .int .i64 0]) ?_ 4 _ rfl; (with_reducible repeat (first | refine blk_drewN ?_ _ | refine blk_drew ?_ | refine blk_alloc ?_ _)); refine blk_put (cs := #[.int .i64 t476, .int .i64 t477, .int .i64 t478, .int .i64 0, .int .i64 0, .int .i64 0]) ?_ 3 _ rfl; (with_reducible repeat (first | refine blk_drewN ?_ _ | refine blk_drew ?_ | refine blk_alloc ?_ _)); refine blk_put (cs := #[.int .i64 t476, .int .i64 t477, .int .i64 0, .int .i64 0, .int .i64 0, .int .i64 0]) ?_ 2 _ rfl; (with_reducible repeat (first | refine blk_drewN ?_ _ | refine blk_drew ?_ | refine blk_alloc ?_ _)); refine blk_put (cs := #[.int .i64 t476, .int .i64 0, .int .i64 0, .int .i64 0, .int .i64 0, .int .i64 0]) ?_ 1 _ rfl; (with_reducible repeat (first | refine blk_drewN ?_ _ | refine blk_drew ?_ | refine blk_alloc ?_ _)); refine blk_put (cs := #[.int .i64 0, .int .i64 0, .int .i64 0, .int .i64 0, .int .i64 0, .int .i64 0]) ?_ 0 _ rfl; (with_reducible repeat (first | refine blk_drewN ?_ _ | refine blk_drew ?_ | refine blk_alloc ?_ _)); exact BK488.out⟩
  replace BK489 : Aside0 (((((((((((((w10.setCell ⟨gb488, 0, none⟩ (.int .i64 t476)).setCell ⟨gb488, 1, none⟩ (.int .i64 t477)).setCell ⟨gb488, 2, none⟩ (.int .i64 t478)).setCell ⟨gb488, 3, none⟩ (.int .i64 t479)).setCell ⟨gb488, 4, none⟩ (.int .i64 t480)).setCell ⟨gb488, 5, none⟩ (.int .i64 t481)).setCell ⟨gb489, 0, none⟩ (.int .i64 t482)).setCell ⟨gb489, 1, none⟩ (.int .i64 t483)).setCell ⟨gb489, 2, none⟩ (.int .i64 t484)).setCell ⟨gb489, 3, none⟩ (.int .i64 t485)).setCell ⟨gb489, 4, none⟩ (.int .i64 t486)).setCell ⟨gb489, 5, none⟩ (.int .i64 t487)).heap[gb489]? = some (.cells #[.int .i64 t482, .int .i64 t483, .int .i64 t484, .int .i64 t485, .int .i64 t486, .int .i64 t487] 25 (0, 0))) := ⟨by (with_reducible repeat (first | refine blk_drewN ?_ _ | refine blk_drew ?_ | refine blk_alloc ?_ _)); refine blk_put (cs := #[.int .i64 t482, .int .i64 t483, .int .i64 t484, .int .i64 t485, .int .i64 t486, .int .i64 0]) ?_ 5 _ rfl; (with_reducible repeat (first | refine blk_drewN ?_ _ | refine blk_drew ?_ | refine blk_alloc ?_ _)); refine blk_put (cs := #[.int .i64 t482, .int .i64 t483, .int .i64 t484, .int .i64 t485, .int .i64 0, .int .i64 0]) ?_ 4 _ rfl; (with_reducible repeat (first | refine blk_drewN ?_ _ | refine blk_drew ?_ | refine blk_alloc ?_ _)); refine blk_put (cs := #[.int .i64 t482, .int .i64 t483, .int .i64 t484, .int .i64 0, .int .i64 0, .int .i64 0]) ?_ 3 _ rfl; (with_reducible repeat (first | refine blk_drewN ?_ _ | refine blk_drew ?_ | refine blk_alloc ?_ _)); refine blk_put (cs := #[.int .i64 t482, .int .i64 t483, .int .i64 0, .int .i64 0, .int .i64 0, .int .i64 0]) ?_ 2 _ rfl; (with_reducible repeat (first | refine blk_drewN ?_ _ | refine blk_drew ?_ | refine blk_alloc ?_ _)); refine blk_put (cs := #[.int .i64 t482, .int .i64 0, .int .i64 0, .int .i64 0, .int .i64 0, .int .i64 0]) ?_ 1 _ rfl; (with_reducible repeat (first | refine blk_drewN ?_ _ | refine blk_drew ?_ | refine blk_alloc ?_ _)); refine blk_put (cs := #[.int .i64 0, .int .i64 0, .int .i64 0, .int .i64 0, .int .i64 0, .int .i64 0]) ?_ 0 _ rfl; (with_reducible repeat (first | refine blk_drewN ?_ _ | refine blk_drew ?_ | refine blk_alloc ?_ _)); refine blk_far ?_ NB489_488.out _; (with_reducible repeat (first | refine blk_drewN ?_ _ | refine blk_drew ?_ | refine blk_alloc ?_ _)); refine blk_far ?_ NB489_488.out _; (with_reducible repeat (first | refine blk_drewN ?_ _ | refine blk_drew ?_ | refine blk_alloc ?_ _)); refine blk_far ?_ NB489_488.out _; (with_reducible repeat (first | refine blk_drewN ?_ _ | refine blk_drew ?_ | refine blk_alloc ?_ _)); refine blk_far ?_ NB489_488.out _; (with_reducible repeat (first | refine blk_drewN ?_ _ | refine blk_drew ?_ | refine blk_alloc ?_ _)); refine blk_far ?_ NB489_488.out _; (with_reducible repeat (first | refine blk_drewN ?_ _ | refine blk_drew ?_ | refine blk_alloc ?_ _)); refine blk_far ?_ NB489_488.out _; (with_reducible repeat (first | refine blk_drewN ?_ _ | refine blk_drew ?_ | refine blk_alloc ?_ _)); exact BK489.out⟩
  replace HB : Aside0 (Below w.heap.size w ((((((((((((w10.setCell ⟨gb488, 0, none⟩ (.int .i64 t476)).setCell ⟨gb488, 1, none⟩ (.int .i64 t477)).setCell ⟨gb488, 2, none⟩ (.int .i64 t478)).setCell ⟨gb488, 3, none⟩ (.int .i64 t479)).setCell ⟨gb488, 4, none⟩ (.int .i64 t480)).setCell ⟨gb488, 5, none⟩ (.int .i64 t481)).setCell ⟨gb489, 0, none⟩ (.int .i64 t482)).setCell ⟨gb489, 1, none⟩ (.int .i64 t483)).setCell ⟨gb489, 2, none⟩ (.int .i64 t484)).setCell ⟨gb489, 3, none⟩ (.int .i64 t485)).setCell ⟨gb489, 4, none⟩ (.int .i64 t486)).setCell ⟨gb489, 5, none⟩ (.int .i64 t487))) := ⟨by repeat (first | (with_reducible first | exact HB.out | apply below_alloc | apply pw_below_drewN | apply below_drew1 | refine below_set ?_ GE488.out | refine below_set ?_ GE489.out) | exact HB.out)⟩
  generalize ((((((((((((w10.setCell ⟨gb488, 0, none⟩ (.int .i64 t476)).setCell ⟨gb488, 1, none⟩ (.int .i64 t477)).setCell ⟨gb488, 2, none⟩ (.int .i64 t478)).setCell ⟨gb488, 3, none⟩ (.int .i64 t479)).setCell ⟨gb488, 4, none⟩ (.int .i64 t480)).setCell ⟨gb488, 5, none⟩ (.int .i64 t481)).setCell ⟨gb489, 0, none⟩ (.int .i64 t482)).setCell ⟨gb489, 1, none⟩ (.int .i64 t483)).setCell ⟨gb489, 2, none⟩ (.int .i64 t484)).setCell ⟨gb489, 3, none⟩ (.int .i64 t485)).setCell ⟨gb489, 4, none⟩ (.int .i64 t486)).setCell ⟨gb489, 5, none⟩ (.int .i64 t487)) = w14 at BK488 BK489 HB ⊢
  replace BK488 := Aside0.mk (blk_drew BK488.out)
  replace BK489 := Aside0.mk (blk_drew BK489.out)
  replace HB := Aside0.mk (below_drew1 HB.out)
  refine start_ (n := 8) (S := fun w' => w'.cell? ⟨gb488, 0, none⟩ = some (.int .i64 t476) ∧ w'.cell? ⟨gb488, 1, none⟩ = some (.int .i64 t477) ∧ w'.cell? ⟨gb488, 2, none⟩ = some (.int .i64 t478) ∧ w'.cell? ⟨gb488, 3, none⟩ = some (.int .i64 t479) ∧ w'.cell? ⟨gb488, 4, none⟩ = some (.int .i64 t480) ∧ w'.cell? ⟨gb488, 5, none⟩ = some (.int .i64 t481) ∧ w'.cell? ⟨gb489, 0, none⟩ = some (.int .i64 t482) ∧ w'.cell? ⟨gb489, 1, none⟩ = some (.int .i64 t483) ∧ w'.cell? ⟨gb489, 2, none⟩ = some (.int .i64 t484) ∧ w'.cell? ⟨gb489, 3, none⟩ = some (.int .i64 t485) ∧ w'.cell? ⟨gb489, 4, none⟩ = some (.int .i64 t486) ∧ w'.cell? ⟨gb489, 5, none⟩ = some (.int .i64 t487)) (ds := []) #[false, false, false, false, false, false, false, false] (by kernel_rfl) rfl rfl ⟨(blk_cell BK488.out 0).trans rfl, (blk_cell BK488.out 1).trans rfl, (blk_cell BK488.out 2).trans rfl, (blk_cell BK488.out 3).trans rfl, (blk_cell BK488.out 4).trans rfl, (blk_cell BK488.out 5).trans rfl, (blk_cell BK489.out 0).trans rfl, (blk_cell BK489.out 1).trans rfl, (blk_cell BK489.out 2).trans rfl, (blk_cell BK489.out 3).trans rfl, (blk_cell BK489.out 4).trans rfl, (blk_cell BK489.out 5).trans rfl⟩ (fun hHeld => ?_); refine with_tabW laws_FnDuties.tab4 laws_FnDuties.bits4 (fun HT_ HW_ => ?_)
  generalize w14.drew = w15 at BK488 BK489 HB hHeld ⊢
  refine take_ (i := 0) (N := some 18) (v := ?_) (a' := ?_) (bz 8 1) rfl rfl (take_ofW HT_.out HW_.out (by kernel_rfl)) (fun _ _ _ h => h) (Or.inl ⟨by rfl, ?_⟩) hHeld ?_ ?_
  rotate_left
  ·rintro w' ⟨s0, s1, s2, s3, s4, s5, s6, s7, s8, s9, s10, s11⟩
   go_simp
   with_reducible rfl
  rotate_left
  ·simp only [Act.put, y1, y2, y3, i64_w, i32_w]
   rfl
  refine take_ (i := 1) (N := some 19) (v := ?_) (a' := ?_) (bz 8 3) rfl rfl (take_ofW HT_.out HW_.out (by kernel_rfl)) (fun _ _ _ h => h) (Or.inl ⟨by rfl, ?_⟩) hHeld ?_ ?_
  rotate_left
  ·rintro w' ⟨s0, s1, s2, s3, s4, s5, s6, s7, s8, s9, s10, s11⟩
   go_simp
   with_reducible rfl
  rotate_left
  ·simp only [Act.put, y1, y2, y3, i64_w, i32_w]
   rfl
  refine take_ (i := 3) (N := some 21) (v := ?_) (a' := ?_) (bz 8 11) rfl rfl (take_ofW HT_.out HW_.out (by kernel_rfl)) (fun _ _ _ h => h) (Or.inl ⟨by rfl, ?_⟩) hHeld ?_ ?_
  rotate_left
  ·rintro w' ⟨s0, s1, s2, s3, s4, s5, s6, s7, s8, s9, s10, s11⟩
   go_simp
   with_reducible rfl
  rotate_left
  ·simp only [Act.put, y1, y2, y3, i64_w, i32_w]
   rfl
  refine take_ (i := 4) (N := some 22) (v := ?_) (a' := ?_) (bz 8 27) rfl rfl (take_ofW HT_.out HW_.out (by kernel_rfl)) (fun _ _ _ h => h) (Or.inl ⟨by rfl, ?_⟩) hHeld ?_ ?_
  rotate_left
  ·rintro w' ⟨s0, s1, s2, s3, s4, s5, s6, s7, s8, s9, s10, s11⟩
   go_simp
   with_reducible rfl
  rotate_left
  ·simp only [Act.put, y1, y2, y3, i64_w, i32_w]
   rfl
  refine one_ (i := 2) (N := some 20) (bz 8 31) rfl rfl (one_of HT_.out (by kernel_rfl)) (by decide) (fun K hK => ?_)
  refine goes_ Try.func23 (by kernel_rfl) rfl #[.agg #[.int .i64 t476, .int .i64 t477, .int .i64 t478, .int .i64 t479, .int .i64 t480, .int .i64 t481], .agg #[.int .i64 t482, .int .i64 t483, .int .i64 t484, .int .i64 t485, .int .i64 t486, .int .i64 t487]] (by rfl) rfl rfl (by (try simp only [List.map_toArray, List.map_cons, List.map_nil]); first | done | rfl) ?_
  with_reducible refine (impl_Duty.calls k t476 t477 t478 t479 t480 t481 t482 t483 t484 t485 t486 t487 t490 _ A5.out).mono ?_
  rintro e w16 ⟨rfl, hb⟩
  refine ⟨_, rfl, ?_⟩
  replace BK488 := Aside0.mk (blk_below (g := gb488) (up BK488) hb)
  replace BK489 := Aside0.mk (blk_below (g := gb489) (up BK489) hb)
  replace HB := Aside0.mk (below_step (by repeat (first | (with_reducible first | exact HB.out | apply below_alloc | apply pw_below_drewN | apply below_drew1 | refine below_set ?_ GE488.out | refine below_set ?_ GE489.out) | exact HB.out)) hb)
  (try clear hb)
  (try clear hb2)
  (try clear hk)
  (try clear hi)
  refine hK.out _ _ ⟨(blk_cell BK488.out 0).trans rfl, (blk_cell BK488.out 1).trans rfl, (blk_cell BK488.out 2).trans rfl, (blk_cell BK488.out 3).trans rfl, (blk_cell BK488.out 4).trans rfl, (blk_cell BK488.out 5).trans rfl, (blk_cell BK489.out 0).trans rfl, (blk_cell BK489.out 1).trans rfl, (blk_cell BK489.out 2).trans rfl, (blk_cell BK489.out 3).trans rfl, (blk_cell BK489.out 4).trans rfl, (blk_cell BK489.out 5).trans rfl⟩ (fun hHeld => ?_)
  clear hK K
  refine norm_ (a' := ?_) ?_ ?_
  rotate_left
  ·show Act.put _ (some 20) _ = _
   simp only [Act.put, y1, y2, y3, i64_w, i32_w]
   rfl
  refine one_ (i := 5) (N := some 23) (bz 8 63) rfl rfl (one_of HT_.out (by kernel_rfl)) (by decide) (fun K hK => ?_)
  refine goes_ Try.func23 (by kernel_rfl) rfl #[.agg #[.int .i64 t482, .int .i64 t483, .int .i64 t484, .int .i64 t485, .int .i64 t486, .int .i64 t487], .agg #[.int .i64 t476, .int .i64 t477, .int .i64 t478, .int .i64 t479, .int .i64 t480, .int .i64 t481]] (by rfl) rfl rfl (by (try simp only [List.map_toArray, List.map_cons, List.map_nil]); first | done | rfl) ?_
  with_reducible refine (impl_Duty.calls k t482 t483 t484 t485 t486 t487 t476 t477 t478 t479 t480 t481 t491 _ A6.out).mono ?_
  rintro e w17 ⟨rfl, hb⟩
  refine ⟨_, rfl, ?_⟩
  replace BK488 := Aside0.mk (blk_below (g := gb488) (up BK488) hb)
  replace BK489 := Aside0.mk (blk_below (g := gb489) (up BK489) hb)
  replace HB := Aside0.mk (below_step (by repeat (first | (with_reducible first | exact HB.out | apply below_alloc | apply pw_below_drewN | apply below_drew1 | refine below_set ?_ GE488.out | refine below_set ?_ GE489.out) | exact HB.out)) hb)
  (try clear hb)
  (try clear hb2)
  (try clear hk)
  (try clear hi)
  refine hK.out _ _ ⟨(blk_cell BK488.out 0).trans rfl, (blk_cell BK488.out 1).trans rfl, (blk_cell BK488.out 2).trans rfl, (blk_cell BK488.out 3).trans rfl, (blk_cell BK488.out 4).trans rfl, (blk_cell BK488.out 5).trans rfl, (blk_cell BK489.out 0).trans rfl, (blk_cell BK489.out 1).trans rfl, (blk_cell BK489.out 2).trans rfl, (blk_cell BK489.out 3).trans rfl, (blk_cell BK489.out 4).trans rfl, (blk_cell BK489.out 5).trans rfl⟩ (fun hHeld => ?_)
  clear hK K
  refine norm_ (a' := ?_) ?_ ?_
  rotate_left
  ·show Act.put _ (some 23) _ = _
   simp only [Act.put, y1, y2, y3, i64_w, i32_w]
   rfl
  refine pure_ (i := 6) (N := some 5) (v := ?_) (a' := ?_) (bz 8 127) rfl rfl (any_of HT_.out (by kernel_rfl)) (fun _ _ _ h => h) (Or.inl ⟨by rfl, ?_⟩) ?_ ?_
  rotate_left
  ·intro w'
   go_simp
   with_reducible rfl
  rotate_left
  ·simp only [Act.put, y1, y2, y3, i64_w, i32_w]
   rfl
  refine pure_ (i := 7) (N := some 6) (v := ?_) (a' := ?_) (bz 8 255) rfl rfl (any_of HT_.out (by kernel_rfl)) (fun _ _ _ h => h) (Or.inl ⟨by rfl, ?_⟩) ?_ ?_
  rotate_left
  ·intro w'
   go_simp
   with_reducible rfl
  rotate_left
  ·simp only [Act.put, y1, y2, y3, i64_w, i32_w]
   rfl
  refine done_ (done_of HT_.out (by kernel_rfl)) ?_
  go_upto_block 0 with (fail)
  go_cut [] (fun wc => ∃ (kq : Nat), Aside0 (laws_FnDuties.j0 kq t490 t491 t476 t477 t478 t479 t480 t481 t482 t483 t484 t485 t486 t487 = some true) ∧ Aside0 (kq ≤ k) ∧ Aside0 (wc.heap[gb488]? = some (.cells #[.int .i64 t476, .int .i64 t477, .int .i64 t478, .int .i64 t479, .int .i64 t480, .int .i64 t481] 25 (0, 0))) ∧ Aside0 (wc.heap[gb489]? = some (.cells #[.int .i64 t482, .int .i64 t483, .int .i64 t484, .int .i64 t485, .int .i64 t486, .int .i64 t487] 25 (0, 0))) ∧ Aside0 (Below w.heap.size w wc))
  case first =>
   have H := HC7.out
   clear HC7
   by_cases c18 : t490 = 1
   ·rw [if_pos c18] at H
    have c18b0 : (t490 == 1) = true := beq_iff_eq.mpr c18
    have c18b1 : (t490 != 1) = false := bne_eq_false_iff_eq.mpr c18
    clear c18
    (first | rw [c18b0] | (simp only [i64_w, i32_w]; rw [c18b0]) | skip)
    by_cases c19 : t491 = 2
    ·rw [if_pos c19] at H
     have c19b0 : (t491 == 2) = true := beq_iff_eq.mpr c19
     have c19b1 : (t491 != 2) = false := bne_eq_false_iff_eq.mpr c19
     clear c19
     have H' := Aside0.mk H
     clear H
     go_wp2
     go_meet
     case rel => exact ⟨_, H', ⟨by first | omega | exact Nat.le_refl _⟩, ⟨by (with_reducible repeat (first | refine blk_drewN ?_ _ | refine blk_drew ?_ | refine blk_alloc ?_ _)); exact BK488.out⟩, ⟨by (with_reducible repeat (first | refine blk_drewN ?_ _ | refine blk_drew ?_ | refine blk_alloc ?_ _)); exact BK489.out⟩, ⟨by repeat (first | (with_reducible first | exact HB.out | apply below_alloc | apply pw_below_drewN | apply below_drew1 | refine below_set ?_ GE488.out | refine below_set ?_ GE489.out) | exact HB.out)⟩⟩
    ·rw [if_neg c19] at H
     have c19b0 : (t491 == 2) = false := beq_eq_false_iff_ne.mpr c19
     have c19b1 : (t491 != 2) = true := bne_iff_ne.mpr c19
     cases H
   ·rw [if_neg c18] at H
    have c18b0 : (t490 == 1) = false := beq_eq_false_iff_ne.mpr c18
    have c18b1 : (t490 != 1) = true := bne_iff_ne.mpr c18
    (first | rw [c18b0] | (simp only [i64_w, i32_w]; rw [c18b0]) | skip)
    by_cases c20 : t490 = 2
    ·rw [if_pos c20] at H
     have c20b0 : (t490 == 2) = true := beq_iff_eq.mpr c20
     have c20b1 : (t490 != 2) = false := bne_eq_false_iff_eq.mpr c20
     clear c20
     by_cases c21 : t491 = 1
     ·rw [if_pos c21] at H
      have c21b0 : (t491 == 1) = true := beq_iff_eq.mpr c21
      have c21b1 : (t491 != 1) = false := bne_eq_false_iff_eq.mpr c21
      clear c21
      have H' := Aside0.mk H
      clear H
      go_wp2
      go_meet
      case rel => exact ⟨_, H', ⟨by first | omega | exact Nat.le_refl _⟩, ⟨by (with_reducible repeat (first | refine blk_drewN ?_ _ | refine blk_drew ?_ | refine blk_alloc ?_ _)); exact BK488.out⟩, ⟨by (with_reducible repeat (first | refine blk_drewN ?_ _ | refine blk_drew ?_ | refine blk_alloc ?_ _)); exact BK489.out⟩, ⟨by repeat (first | (with_reducible first | exact HB.out | apply below_alloc | apply pw_below_drewN | apply below_drew1 | refine below_set ?_ GE488.out | refine below_set ?_ GE489.out) | exact HB.out)⟩⟩
     ·rw [if_neg c21] at H
      have c21b0 : (t491 == 1) = false := beq_eq_false_iff_ne.mpr c21
      have c21b1 : (t491 != 1) = true := bne_iff_ne.mpr c21
      cases H
    ·rw [if_neg c20] at H
     have c20b0 : (t490 == 2) = false := beq_eq_false_iff_ne.mpr c20
     have c20b1 : (t490 != 2) = true := bne_iff_ne.mpr c20
     by_cases c22 : t491 = t490
     ·rw [if_pos c22] at H
      have c22b0 : (t491 == t490) = true := beq_iff_eq.mpr c22
      have c22b1 : (t491 != t490) = false := bne_eq_false_iff_eq.mpr c22
      clear c22
      by_cases c23 : t490 = 4
      ·rw [if_pos c23] at H
       have c23b0 : (t490 == 4) = true := beq_iff_eq.mpr c23
       have c23b1 : (t490 != 4) = false := bne_eq_false_iff_eq.mpr c23
       clear c23
       cases H
      ·rw [if_neg c23] at H
       have c23b0 : (t490 == 4) = false := beq_eq_false_iff_ne.mpr c23
       have c23b1 : (t490 != 4) = true := bne_iff_ne.mpr c23
       have H' := Aside0.mk H
       clear H
       go_wp2
       go_meet
       case rel => exact ⟨_, H', ⟨by first | omega | exact Nat.le_refl _⟩, ⟨by (with_reducible repeat (first | refine blk_drewN ?_ _ | refine blk_drew ?_ | refine blk_alloc ?_ _)); exact BK488.out⟩, ⟨by (with_reducible repeat (first | refine blk_drewN ?_ _ | refine blk_drew ?_ | refine blk_alloc ?_ _)); exact BK489.out⟩, ⟨by repeat (first | (with_reducible first | exact HB.out | apply below_alloc | apply pw_below_drewN | apply below_drew1 | refine below_set ?_ GE488.out | refine below_set ?_ GE489.out) | exact HB.out)⟩⟩
     ·rw [if_neg c22] at H
      have c22b0 : (t491 == t490) = false := beq_eq_false_iff_ne.mpr c22
      have c22b1 : (t491 != t490) = true := bne_iff_ne.mpr c22
      cases H
  case rest =>
   clear HC7
   (try clear c1); (try clear c2); (try clear p2); (try clear c3); (try clear c5); (try clear c11); (try clear c18); (try clear c18b0); (try clear c18b1); (try clear c19); (try clear c19b0); (try clear c19b1); (try clear c20); (try clear c20b0); (try clear c20b1); (try clear c21); (try clear c21b0); (try clear c21b1); (try clear c22); (try clear c22b0); (try clear c22b1); (try clear c23); (try clear c23b0); (try clear c23b1); (try clear hcz12_0); (try clear hcz12_1); (try clear hcz12_2); (try clear hcz12_3); (try clear hcz12_4); (try clear hcz12_5); (try clear hcz13_0); (try clear hcz13_1); (try clear hcz13_2); (try clear hcz13_3); (try clear hcz13_4); (try clear hcz13_5); (try clear hfz12_0); (try clear hfz12_1); (try clear hfz12_2); (try clear hfz12_3); (try clear hfz12_4); (try clear hfz12_5); (try clear hfz13_0); (try clear hfz13_1); (try clear hfz13_2); (try clear hfz13_3); (try clear hfz13_4); (try clear hfz13_5)
   obtain ⟨kq, HA, HJ6, BK488, BK489, HB⟩ := hcut
   cases kq with
   | zero => exact absurd HA.out (by simp [laws_FnDuties.j0])
   | succ kj6 =>
    have H := HA.out
    clear HA
    simp only [laws_FnDuties.j0] at H
    have HC24 := Aside0.mk H
    clear H
    try go_wp2
    replace BK488 := Aside0.mk (blk_drew BK488.out)
    replace BK489 := Aside0.mk (blk_drew BK489.out)
    replace HB := Aside0.mk (below_drew1 HB.out)
    refine start_ (n := 6) (S := fun w' => w'.cell? ⟨gb488, 0, none⟩ = some (.int .i64 t476) ∧ w'.cell? ⟨gb488, 1, none⟩ = some (.int .i64 t477) ∧ w'.cell? ⟨gb488, 2, none⟩ = some (.int .i64 t478) ∧ w'.cell? ⟨gb488, 3, none⟩ = some (.int .i64 t479) ∧ w'.cell? ⟨gb488, 4, none⟩ = some (.int .i64 t480) ∧ w'.cell? ⟨gb488, 5, none⟩ = some (.int .i64 t481) ∧ w'.cell? ⟨gb489, 0, none⟩ = some (.int .i64 t482) ∧ w'.cell? ⟨gb489, 1, none⟩ = some (.int .i64 t483) ∧ w'.cell? ⟨gb489, 2, none⟩ = some (.int .i64 t484) ∧ w'.cell? ⟨gb489, 3, none⟩ = some (.int .i64 t485) ∧ w'.cell? ⟨gb489, 4, none⟩ = some (.int .i64 t486) ∧ w'.cell? ⟨gb489, 5, none⟩ = some (.int .i64 t487)) (ds := []) #[false, false, false, false, false, false] (by kernel_rfl) rfl rfl ⟨(blk_cell BK488.out 0).trans rfl, (blk_cell BK488.out 1).trans rfl, (blk_cell BK488.out 2).trans rfl, (blk_cell BK488.out 3).trans rfl, (blk_cell BK488.out 4).trans rfl, (blk_cell BK488.out 5).trans rfl, (blk_cell BK489.out 0).trans rfl, (blk_cell BK489.out 1).trans rfl, (blk_cell BK489.out 2).trans rfl, (blk_cell BK489.out 3).trans rfl, (blk_cell BK489.out 4).trans rfl, (blk_cell BK489.out 5).trans rfl⟩ (fun hHeld => ?_)
    generalize wc.drew = w25 at BK488 BK489 HB hHeld ⊢
    refine take_ (i := 0) (N := some 40) (v := ?_) (a' := ?_) (bz 6 1) rfl rfl (by kernel_rfl) (fun _ _ _ h => h) (Or.inl ⟨by rfl, ?_⟩) hHeld ?_ ?_
    rotate_left
    ·rintro w' ⟨s0, s1, s2, s3, s4, s5, s6, s7, s8, s9, s10, s11⟩
     go_simp
     with_reducible rfl
    rotate_left
    ·simp only [Act.put, y1, y2, y3, i64_w, i32_w]
     rfl
    refine take_ (i := 1) (N := some 41) (v := ?_) (a' := ?_) (bz 6 3) rfl rfl (by kernel_rfl) (fun _ _ _ h => h) (Or.inl ⟨by rfl, ?_⟩) hHeld ?_ ?_
    rotate_left
    ·rintro w' ⟨s0, s1, s2, s3, s4, s5, s6, s7, s8, s9, s10, s11⟩
     go_simp
     with_reducible rfl
    rotate_left
    ·simp only [Act.put, y1, y2, y3, i64_w, i32_w]
     rfl
    refine join_ (σ := Nat × Nat) 2 (bz 6 15) (fun s_ => [(7, .pointer (some ⟨s_.1, 0, none⟩)), (8, .pointer (some ⟨s_.2, 0, none⟩))]) (fun s_ w' => (w'.cell? ⟨gb488, 0, none⟩ = some (.int .i64 t476) ∧ w'.cell? ⟨gb488, 1, none⟩ = some (.int .i64 t477) ∧ w'.cell? ⟨gb488, 2, none⟩ = some (.int .i64 t478) ∧ w'.cell? ⟨gb488, 3, none⟩ = some (.int .i64 t479) ∧ w'.cell? ⟨gb488, 4, none⟩ = some (.int .i64 t480) ∧ w'.cell? ⟨gb488, 5, none⟩ = some (.int .i64 t481) ∧ w'.cell? ⟨gb489, 0, none⟩ = some (.int .i64 t482) ∧ w'.cell? ⟨gb489, 1, none⟩ = some (.int .i64 t483) ∧ w'.cell? ⟨gb489, 2, none⟩ = some (.int .i64 t484) ∧ w'.cell? ⟨gb489, 3, none⟩ = some (.int .i64 t485) ∧ w'.cell? ⟨gb489, 4, none⟩ = some (.int .i64 t486) ∧ w'.cell? ⟨gb489, 5, none⟩ = some (.int .i64 t487)) ∧ (w'.heap[gb488]? = some (.cells #[.int .i64 t476, .int .i64 t477, .int .i64 t478, .int .i64 t479, .int .i64 t480, .int .i64 t481] 25 (0, 0))) ∧ (w'.heap[gb489]? = some (.cells #[.int .i64 t482, .int .i64 t483, .int .i64 t484, .int .i64 t485, .int .i64 t486, .int .i64 t487] 25 (0, 0))) ∧ (w'.heap[s_.1]? = some (.cells #[.int .i64 0, .int .i64 0, .int .i64 0, .int .i64 0, .int .i64 0, .int .i64 0] 25 (0, 0))) ∧ (w'.heap[s_.2]? = some (.cells #[.int .i64 0, .int .i64 0, .int .i64 0, .int .i64 0, .int .i64 0, .int .i64 0] 25 (0, 0))) ∧ (w.heap.size ≤ s_.1) ∧ (w.heap.size ≤ s_.1) ∧ (gb488 ≠ s_.1) ∧ (s_.1 ≠ gb488) ∧ (gb489 ≠ s_.1) ∧ (s_.1 ≠ gb489) ∧ (s_.2 ≠ s_.1) ∧ (s_.1 ≠ s_.2) ∧ (w.heap.size ≤ s_.2) ∧ (w.heap.size ≤ s_.2) ∧ (gb488 ≠ s_.2) ∧ (s_.2 ≠ gb488) ∧ (gb489 ≠ s_.2) ∧ (s_.2 ≠ gb489) ∧ (Below w.heap.size w w')) ?_ ?_
    rotate_left
    ·intro hCont
     refine two_ (i := 2) (j := 3) (Ni := some 7) (Nj := some 8) (bz 6 7) (bz 6 11) rfl rfl rfl rfl (by kernel_rfl) (by decide) (by decide) (fun K hK => ?_) (fun K hK => ?_)
     ·skip
      refine box_step ?hg (N := 7) ?hd (cs := #[.int .i64 0, .int .i64 0, .int .i64 0, .int .i64 0, .int .i64 0, .int .i64 0]) (t := 25) ?hr ?_; (case hd => rfl); (case hg => rfl); (case hr => first | (go_simp; done) | (go_simp; rfl))
      intro gb492 hg w26 hbox hb
      replace BK492 := Aside0.mk (hbox)
      replace GW492 := Aside0.mk ((by rw [hg]; exact (below_size (by repeat (first | (with_reducible first | exact HB.out | apply below_alloc | apply pw_below_drewN | apply below_drew1 | refine below_set ?_ GE488.out | refine below_set ?_ GE489.out) | exact HB.out))) : w.heap.size ≤ gb492))
      replace GE492 := Aside0.mk ((by rw [hg]; exact (below_size (by repeat (first | (with_reducible first | exact HB.out | apply below_alloc | apply pw_below_drewN | apply below_drew1 | refine below_set ?_ GE488.out | refine below_set ?_ GE489.out) | exact HB.out))) : w.heap.size ≤ gb492))
      replace HB := Aside0.mk (below_step (by repeat (first | (with_reducible first | exact HB.out | apply below_alloc | apply pw_below_drewN | apply below_drew1 | refine below_set ?_ GE488.out | refine below_set ?_ GE489.out) | exact HB.out)) hb)
      replace NB488_492 := Aside0.mk ((by rw [hg]; exact Nat.ne_of_lt (blk_lt (g := gb488) (up BK488)) : gb488 ≠ gb492))
      replace NB492_488 := Aside0.mk ((by rw [hg]; exact Nat.ne_of_gt (blk_lt (g := gb488) (up BK488)) : gb492 ≠ gb488))
      replace BK488 := Aside0.mk (blk_below (g := gb488) (up BK488) hb)
      replace NB489_492 := Aside0.mk ((by rw [hg]; exact Nat.ne_of_lt (blk_lt (g := gb489) (up BK489)) : gb489 ≠ gb492))
      replace NB492_489 := Aside0.mk ((by rw [hg]; exact Nat.ne_of_gt (blk_lt (g := gb489) (up BK489)) : gb492 ≠ gb489))
      replace BK489 := Aside0.mk (blk_below (g := gb489) (up BK489) hb)
      clear hb hbox hg
      refine hK.out _ _ ⟨(blk_cell BK488.out 0).trans rfl, (blk_cell BK488.out 1).trans rfl, (blk_cell BK488.out 2).trans rfl, (blk_cell BK488.out 3).trans rfl, (blk_cell BK488.out 4).trans rfl, (blk_cell BK488.out 5).trans rfl, (blk_cell BK489.out 0).trans rfl, (blk_cell BK489.out 1).trans rfl, (blk_cell BK489.out 2).trans rfl, (blk_cell BK489.out 3).trans rfl, (blk_cell BK489.out 4).trans rfl, (blk_cell BK489.out 5).trans rfl⟩ (fun hHeld => ?_)
      clear hK K
      refine norm_ (a' := ?_) ?_ ?_
      rotate_left
      ·show Act.put _ (some 7) _ = _
       simp only [Act.put, y1, y2, y3, i64_w, i32_w]
       rfl
      refine one_ (i := 3) (N := some 8) (bz 6 15) rfl rfl (by kernel_rfl) (by decide) (fun K hK => ?_)
      refine box_step ?hg (N := 8) ?hd (cs := #[.int .i64 0, .int .i64 0, .int .i64 0, .int .i64 0, .int .i64 0, .int .i64 0]) (t := 25) ?hr ?_; (case hd => rfl); (case hg => rfl); (case hr => first | (go_simp; done) | (go_simp; rfl))
      intro gb493 hg w27 hbox hb
      replace BK493 := Aside0.mk (hbox)
      replace GW493 := Aside0.mk ((by rw [hg]; exact (below_size (by repeat (first | (with_reducible first | exact HB.out | apply below_alloc | apply pw_below_drewN | apply below_drew1 | refine below_set ?_ GE488.out | refine below_set ?_ GE489.out | refine below_set ?_ GE492.out) | exact HB.out))) : w.heap.size ≤ gb493))
      replace GE493 := Aside0.mk ((by rw [hg]; exact (below_size (by repeat (first | (with_reducible first | exact HB.out | apply below_alloc | apply pw_below_drewN | apply below_drew1 | refine below_set ?_ GE488.out | refine below_set ?_ GE489.out | refine below_set ?_ GE492.out) | exact HB.out))) : w.heap.size ≤ gb493))
      replace HB := Aside0.mk (below_step (by repeat (first | (with_reducible first | exact HB.out | apply below_alloc | apply pw_below_drewN | apply below_drew1 | refine below_set ?_ GE488.out | refine below_set ?_ GE489.out | refine below_set ?_ GE492.out) | exact HB.out)) hb)
      replace NB488_493 := Aside0.mk ((by rw [hg]; exact Nat.ne_of_lt (blk_lt (g := gb488) (up BK488)) : gb488 ≠ gb493))
      replace NB493_488 := Aside0.mk ((by rw [hg]; exact Nat.ne_of_gt (blk_lt (g := gb488) (up BK488)) : gb493 ≠ gb488))
      replace BK488 := Aside0.mk (blk_below (g := gb488) (up BK488) hb)
      replace NB489_493 := Aside0.mk ((by rw [hg]; exact Nat.ne_of_lt (blk_lt (g := gb489) (up BK489)) : gb489 ≠ gb493))
      replace NB493_489 := Aside0.mk ((by rw [hg]; exact Nat.ne_of_gt (blk_lt (g := gb489) (up BK489)) : gb493 ≠ gb489))
      replace BK489 := Aside0.mk (blk_below (g := gb489) (up BK489) hb)
      replace NB492_493 := Aside0.mk ((by rw [hg]; exact Nat.ne_of_lt (blk_lt (g := gb492) (up BK492)) : gb492 ≠ gb493))
      replace NB493_492 := Aside0.mk ((by rw [hg]; exact Nat.ne_of_gt (blk_lt (g := gb492) (up BK492)) : gb493 ≠ gb492))
      replace BK492 := Aside0.mk (blk_below (g := gb492) (up BK492) hb)
      clear hb hbox hg
      refine hK.out _ _ ⟨(blk_cell BK488.out 0).trans rfl, (blk_cell BK488.out 1).trans rfl, (blk_cell BK488.out 2).trans rfl, (blk_cell BK488.out 3).trans rfl, (blk_cell BK488.out 4).trans rfl, (blk_cell BK488.out 5).trans rfl, (blk_cell BK489.out 0).trans rfl, (blk_cell BK489.out 1).trans rfl, (blk_cell BK489.out 2).trans rfl, (blk_cell BK489.out 3).trans rfl, (blk_cell BK489.out 4).trans rfl, (blk_cell BK489.out 5).trans rfl⟩ (fun hHeld => ?_)
      clear hK K
      refine norm_ (a' := ?_) ?_ ?_
      rotate_left
      ·show Act.put _ (some 8) _ = _
       simp only [Act.put, y1, y2, y3, i64_w, i32_w]
       rfl
      exact norm_ (by simp only [putAll, Act.put, y1, y2, y3]) (hCont (gb492, gb493) _ ⟨hHeld, (up BK488), (up BK489), (up BK492), (up BK493), GW492.out, GE492.out, NB488_492.out, NB492_488.out, NB489_492.out, NB492_489.out, NB493_492.out, NB492_493.out, GW493.out, GE493.out, NB488_493.out, NB493_488.out, NB489_493.out, NB493_489.out, (by repeat (first | (with_reducible first | exact HB.out | apply below_alloc | apply pw_below_drewN | apply below_drew1 | refine below_set ?_ GE488.out | refine below_set ?_ GE489.out | refine below_set ?_ GE492.out | refine below_set ?_ GE493.out) | exact HB.out))⟩)
     ·skip
      refine box_step ?hg (N := 8) ?hd (cs := #[.int .i64 0, .int .i64 0, .int .i64 0, .int .i64 0, .int .i64 0, .int .i64 0]) (t := 25) ?hr ?_; (case hd => rfl); (case hg => rfl); (case hr => first | (go_simp; done) | (go_simp; rfl))
      intro gb493 hg w26 hbox hb
      replace BK493 := Aside0.mk (hbox)
      replace GW493 := Aside0.mk ((by rw [hg]; exact (below_size (by repeat (first | (with_reducible first | exact HB.out | apply below_alloc | apply pw_below_drewN | apply below_drew1 | refine below_set ?_ GE488.out | refine below_set ?_ GE489.out) | exact HB.out))) : w.heap.size ≤ gb493))
      replace GE493 := Aside0.mk ((by rw [hg]; exact (below_size (by repeat (first | (with_reducible first | exact HB.out | apply below_alloc | apply pw_below_drewN | apply below_drew1 | refine below_set ?_ GE488.out | refine below_set ?_ GE489.out) | exact HB.out))) : w.heap.size ≤ gb493))
      replace HB := Aside0.mk (below_step (by repeat (first | (with_reducible first | exact HB.out | apply below_alloc | apply pw_below_drewN | apply below_drew1 | refine below_set ?_ GE488.out | refine below_set ?_ GE489.out) | exact HB.out)) hb)
      replace NB488_493 := Aside0.mk ((by rw [hg]; exact Nat.ne_of_lt (blk_lt (g := gb488) (up BK488)) : gb488 ≠ gb493))
      replace NB493_488 := Aside0.mk ((by rw [hg]; exact Nat.ne_of_gt (blk_lt (g := gb488) (up BK488)) : gb493 ≠ gb488))
      replace BK488 := Aside0.mk (blk_below (g := gb488) (up BK488) hb)
      replace NB489_493 := Aside0.mk ((by rw [hg]; exact Nat.ne_of_lt (blk_lt (g := gb489) (up BK489)) : gb489 ≠ gb493))
      replace NB493_489 := Aside0.mk ((by rw [hg]; exact Nat.ne_of_gt (blk_lt (g := gb489) (up BK489)) : gb493 ≠ gb489))
      replace BK489 := Aside0.mk (blk_below (g := gb489) (up BK489) hb)
      clear hb hbox hg
      refine hK.out _ _ ⟨(blk_cell BK488.out 0).trans rfl, (blk_cell BK488.out 1).trans rfl, (blk_cell BK488.out 2).trans rfl, (blk_cell BK488.out 3).trans rfl, (blk_cell BK488.out 4).trans rfl, (blk_cell BK488.out 5).trans rfl, (blk_cell BK489.out 0).trans rfl, (blk_cell BK489.out 1).trans rfl, (blk_cell BK489.out 2).trans rfl, (blk_cell BK489.out 3).trans rfl, (blk_cell BK489.out 4).trans rfl, (blk_cell BK489.out 5).trans rfl⟩ (fun hHeld => ?_)
      clear hK K
      refine norm_ (a' := ?_) ?_ ?_
      rotate_left
      ·show Act.put _ (some 8) _ = _
       simp only [Act.put, y1, y2, y3, i64_w, i32_w]
       rfl
      refine one_ (i := 2) (N := some 7) (bz 6 15) rfl rfl (by kernel_rfl) (by decide) (fun K hK => ?_)
      refine box_step ?hg (N := 7) ?hd (cs := #[.int .i64 0, .int .i64 0, .int .i64 0, .int .i64 0, .int .i64 0, .int .i64 0]) (t := 25) ?hr ?_; (case hd => rfl); (case hg => rfl); (case hr => first | (go_simp; done) | (go_simp; rfl))
      intro gb492 hg w27 hbox hb
      replace BK492 := Aside0.mk (hbox)
      replace GW492 := Aside0.mk ((by rw [hg]; exact (below_size (by repeat (first | (with_reducible first | exact HB.out | apply below_alloc | apply pw_below_drewN | apply below_drew1 | refine below_set ?_ GE488.out | refine below_set ?_ GE489.out | refine below_set ?_ GE493.out) | exact HB.out))) : w.heap.size ≤ gb492))
      replace GE492 := Aside0.mk ((by rw [hg]; exact (below_size (by repeat (first | (with_reducible first | exact HB.out | apply below_alloc | apply pw_below_drewN | apply below_drew1 | refine below_set ?_ GE488.out | refine below_set ?_ GE489.out | refine below_set ?_ GE493.out) | exact HB.out))) : w.heap.size ≤ gb492))
      replace HB := Aside0.mk (below_step (by repeat (first | (with_reducible first | exact HB.out | apply below_alloc | apply pw_below_drewN | apply below_drew1 | refine below_set ?_ GE488.out | refine below_set ?_ GE489.out | refine below_set ?_ GE493.out) | exact HB.out)) hb)
      replace NB488_492 := Aside0.mk ((by rw [hg]; exact Nat.ne_of_lt (blk_lt (g := gb488) (up BK488)) : gb488 ≠ gb492))
      replace NB492_488 := Aside0.mk ((by rw [hg]; exact Nat.ne_of_gt (blk_lt (g := gb488) (up BK488)) : gb492 ≠ gb488))
      replace BK488 := Aside0.mk (blk_below (g := gb488) (up BK488) hb)
      replace NB489_492 := Aside0.mk ((by rw [hg]; exact Nat.ne_of_lt (blk_lt (g := gb489) (up BK489)) : gb489 ≠ gb492))
      replace NB492_489 := Aside0.mk ((by rw [hg]; exact Nat.ne_of_gt (blk_lt (g := gb489) (up BK489)) : gb492 ≠ gb489))
      replace BK489 := Aside0.mk (blk_below (g := gb489) (up BK489) hb)
      replace NB493_492 := Aside0.mk ((by rw [hg]; exact Nat.ne_of_lt (blk_lt (g := gb493) (up BK493)) : gb493 ≠ gb492))
      replace NB492_493 := Aside0.mk ((by rw [hg]; exact Nat.ne_of_gt (blk_lt (g := gb493) (up BK493)) : gb492 ≠ gb493))
      replace BK493 := Aside0.mk (blk_below (g := gb493) (up BK493) hb)
      clear hb hbox hg
      refine hK.out _ _ ⟨(blk_cell BK488.out 0).trans rfl, (blk_cell BK488.out 1).trans rfl, (blk_cell BK488.out 2).trans rfl, (blk_cell BK488.out 3).trans rfl, (blk_cell BK488.out 4).trans rfl, (blk_cell BK488.out 5).trans rfl, (blk_cell BK489.out 0).trans rfl, (blk_cell BK489.out 1).trans rfl, (blk_cell BK489.out 2).trans rfl, (blk_cell BK489.out 3).trans rfl, (blk_cell BK489.out 4).trans rfl, (blk_cell BK489.out 5).trans rfl⟩ (fun hHeld => ?_)
      clear hK K
      refine norm_ (a' := ?_) ?_ ?_
      rotate_left
      ·show Act.put _ (some 7) _ = _
       simp only [Act.put, y1, y2, y3, i64_w, i32_w]
       rfl
      exact norm_ (by simp only [putAll, Act.put, y1, y2, y3]) (hCont (gb492, gb493) _ ⟨hHeld, (up BK488), (up BK489), (up BK492), (up BK493), GW492.out, GE492.out, NB488_492.out, NB492_488.out, NB489_492.out, NB492_489.out, NB493_492.out, NB492_493.out, GW493.out, GE493.out, NB488_493.out, NB493_488.out, NB489_493.out, NB493_489.out, (by repeat (first | (with_reducible first | exact HB.out | apply below_alloc | apply pw_below_drewN | apply below_drew1 | refine below_set ?_ GE488.out | refine below_set ?_ GE489.out | refine below_set ?_ GE493.out | refine below_set ?_ GE492.out) | exact HB.out))⟩)
    rintro ⟨gb492, gb493⟩ w28 ⟨hS_, h0_, h1_, h2_, h3_, h4_, h5_, h6_, h7_, h8_, h9_, h10_, h11_, h12_, h13_, h14_, h15_, h16_, h17_, h18_⟩
    replace BK488 : Aside0 (w28.heap[gb488]? = some (.cells #[.int .i64 t476, .int .i64 t477, .int .i64 t478, .int .i64 t479, .int .i64 t480, .int .i64 t481] 25 (0, 0))) := ⟨h0_⟩
    replace BK489 : Aside0 (w28.heap[gb489]? = some (.cells #[.int .i64 t482, .int .i64 t483, .int .i64 t484, .int .i64 t485, .int .i64 t486, .int .i64 t487] 25 (0, 0))) := ⟨h1_⟩
    replace BK492 : Aside0 (w28.heap[gb492]? = some (.cells #[.int .i64 0, .int .i64 0, .int .i64 0, .int .i64 0, .int .i64 0, .int .i64 0] 25 (0, 0))) := ⟨h2_⟩
    replace BK493 : Aside0 (w28.heap[gb493]? = some (.cells #[.int .i64 0, .int .i64 0, .int .i64 0, .int .i64 0, .int .i64 0, .int .i64 0] 25 (0, 0))) := ⟨h3_⟩
    replace GW492 : Aside0 (w.heap.size ≤ gb492) := ⟨h4_⟩
    replace GE492 : Aside0 (w.heap.size ≤ gb492) := ⟨h5_⟩
    replace NB488_492 : Aside0 (gb488 ≠ gb492) := ⟨h6_⟩
    replace NB492_488 : Aside0 (gb492 ≠ gb488) := ⟨h7_⟩
    replace NB489_492 : Aside0 (gb489 ≠ gb492) := ⟨h8_⟩
    replace NB492_489 : Aside0 (gb492 ≠ gb489) := ⟨h9_⟩
    replace NB493_492 : Aside0 (gb493 ≠ gb492) := ⟨h10_⟩
    replace NB492_493 : Aside0 (gb492 ≠ gb493) := ⟨h11_⟩
    replace GW493 : Aside0 (w.heap.size ≤ gb493) := ⟨h12_⟩
    replace GE493 : Aside0 (w.heap.size ≤ gb493) := ⟨h13_⟩
    replace NB488_493 : Aside0 (gb488 ≠ gb493) := ⟨h14_⟩
    replace NB493_488 : Aside0 (gb493 ≠ gb488) := ⟨h15_⟩
    replace NB489_493 : Aside0 (gb489 ≠ gb493) := ⟨h16_⟩
    replace NB493_489 : Aside0 (gb493 ≠ gb489) := ⟨h17_⟩
    replace HB : Aside0 (Below w.heap.size w w28) := ⟨h18_⟩
    have hHeld : w28.cell? ⟨gb488, 0, none⟩ = some (.int .i64 t476) ∧ w28.cell? ⟨gb488, 1, none⟩ = some (.int .i64 t477) ∧ w28.cell? ⟨gb488, 2, none⟩ = some (.int .i64 t478) ∧ w28.cell? ⟨gb488, 3, none⟩ = some (.int .i64 t479) ∧ w28.cell? ⟨gb488, 4, none⟩ = some (.int .i64 t480) ∧ w28.cell? ⟨gb488, 5, none⟩ = some (.int .i64 t481) ∧ w28.cell? ⟨gb489, 0, none⟩ = some (.int .i64 t482) ∧ w28.cell? ⟨gb489, 1, none⟩ = some (.int .i64 t483) ∧ w28.cell? ⟨gb489, 2, none⟩ = some (.int .i64 t484) ∧ w28.cell? ⟨gb489, 3, none⟩ = some (.int .i64 t485) ∧ w28.cell? ⟨gb489, 4, none⟩ = some (.int .i64 t486) ∧ w28.cell? ⟨gb489, 5, none⟩ = some (.int .i64 t487) := hS_
    refine norm_ (a' := ?_) ?_ ?_
    rotate_left
    ·simp only [putAll, Act.put, y1, y2, y3]
     rfl
    refine one_ (i := 4) (N := none) (bz 6 31) rfl rfl (by kernel_rfl) (by decide) (fun K hK => ?_)
    have hs29 : w28.cell? ⟨gb492, 0, none⟩ = some (.int .i64 0) := (blk_cell BK492.out 0).trans rfl
    have hfs29 := blk_frozen BK492.out 0
    have hns29_0 := NB488_492.out
    have hns29_1 := NB489_492.out
    have hns29_3 := NB493_492.out
    have hms29_0 := NB492_488.out
    have hms29_1 := NB492_489.out
    have hms29_3 := NB492_493.out
    have hs30 : w28.cell? ⟨gb492, 1, none⟩ = some (.int .i64 0) := (blk_cell BK492.out 1).trans rfl
    have hfs30 := blk_frozen BK492.out 1
    have hs31 : w28.cell? ⟨gb492, 2, none⟩ = some (.int .i64 0) := (blk_cell BK492.out 2).trans rfl
    have hfs31 := blk_frozen BK492.out 2
    have hs32 : w28.cell? ⟨gb492, 3, none⟩ = some (.int .i64 0) := (blk_cell BK492.out 3).trans rfl
    have hfs32 := blk_frozen BK492.out 3
    have hs33 : w28.cell? ⟨gb492, 4, none⟩ = some (.int .i64 0) := (blk_cell BK492.out 4).trans rfl
    have hfs33 := blk_frozen BK492.out 4
    have hs34 : w28.cell? ⟨gb492, 5, none⟩ = some (.int .i64 0) := (blk_cell BK492.out 5).trans rfl
    have hfs34 := blk_frozen BK492.out 5
    refine skip_ (w1 := ?_) (by rfl) rfl ?_ ?_
    rotate_left
    ·go_simp
     rfl
    refine hK.out _ _ ⟨(fr6 NB488_492.out hHeld.1), (fr6 NB488_492.out hHeld.2.1), (fr6 NB488_492.out hHeld.2.2.1), (fr6 NB488_492.out hHeld.2.2.2.1), (fr6 NB488_492.out hHeld.2.2.2.2.1), (fr6 NB488_492.out hHeld.2.2.2.2.2.1), (fr6 NB489_492.out hHeld.2.2.2.2.2.2.1), (fr6 NB489_492.out hHeld.2.2.2.2.2.2.2.1), (fr6 NB489_492.out hHeld.2.2.2.2.2.2.2.2.1), (fr6 NB489_492.out hHeld.2.2.2.2.2.2.2.2.2.1), (fr6 NB489_492.out hHeld.2.2.2.2.2.2.2.2.2.2.1), (fr6 NB489_492.out hHeld.2.2.2.2.2.2.2.2.2.2.2)⟩ (fun hHeld => ?_)
    clear hK K
    refine one_ (i := 5) (N := none) (bz 6 63) rfl rfl (by kernel_rfl) (by decide) (fun K hK => ?_)
    have hs35 : w28.cell? ⟨gb493, 0, none⟩ = some (.int .i64 0) := (blk_cell BK493.out 0).trans rfl
    have hfs35 := blk_frozen BK493.out 0
    have hns35_0 := NB488_493.out
    have hns35_1 := NB489_493.out
    have hns35_2 := NB492_493.out
    have hms35_0 := NB493_488.out
    have hms35_1 := NB493_489.out
    have hms35_2 := NB493_492.out
    have hs36 : w28.cell? ⟨gb493, 1, none⟩ = some (.int .i64 0) := (blk_cell BK493.out 1).trans rfl
    have hfs36 := blk_frozen BK493.out 1
    have hs37 : w28.cell? ⟨gb493, 2, none⟩ = some (.int .i64 0) := (blk_cell BK493.out 2).trans rfl
    have hfs37 := blk_frozen BK493.out 2
    have hs38 : w28.cell? ⟨gb493, 3, none⟩ = some (.int .i64 0) := (blk_cell BK493.out 3).trans rfl
    have hfs38 := blk_frozen BK493.out 3
    have hs39 : w28.cell? ⟨gb493, 4, none⟩ = some (.int .i64 0) := (blk_cell BK493.out 4).trans rfl
    have hfs39 := blk_frozen BK493.out 4
    have hs40 : w28.cell? ⟨gb493, 5, none⟩ = some (.int .i64 0) := (blk_cell BK493.out 5).trans rfl
    have hfs40 := blk_frozen BK493.out 5
    refine skip_ (w1 := ?_) (by rfl) rfl ?_ ?_
    rotate_left
    ·go_simp
     rfl
    refine hK.out _ _ ⟨(fr6 NB488_493.out hHeld.1), (fr6 NB488_493.out hHeld.2.1), (fr6 NB488_493.out hHeld.2.2.1), (fr6 NB488_493.out hHeld.2.2.2.1), (fr6 NB488_493.out hHeld.2.2.2.2.1), (fr6 NB488_493.out hHeld.2.2.2.2.2.1), (fr6 NB489_493.out hHeld.2.2.2.2.2.2.1), (fr6 NB489_493.out hHeld.2.2.2.2.2.2.2.1), (fr6 NB489_493.out hHeld.2.2.2.2.2.2.2.2.1), (fr6 NB489_493.out hHeld.2.2.2.2.2.2.2.2.2.1), (fr6 NB489_493.out hHeld.2.2.2.2.2.2.2.2.2.2.1), (fr6 NB489_493.out hHeld.2.2.2.2.2.2.2.2.2.2.2)⟩ (fun hHeld => ?_)
    clear hK K
    refine done_ (by kernel_rfl) ?_
    have hnb488_489 := NB488_489.out
    have hnb489_488 := NB489_488.out
    have hnb488_492 := NB488_492.out
    have hnb492_488 := NB492_488.out
    have hnb488_493 := NB488_493.out
    have hnb493_488 := NB493_488.out
    have hnb492_489 := NB492_489.out
    have hnb489_492 := NB489_492.out
    have hnb492_493 := NB492_493.out
    have hnb493_492 := NB493_492.out
    have hnb489_493 := NB489_493.out
    have hnb493_489 := NB493_489.out
    replace BK488 : Aside0 (((((((((((((w28.setCell ⟨gb492, 0, none⟩ (.int .i64 t476)).setCell ⟨gb492, 1, none⟩ (.int .i64 t477)).setCell ⟨gb492, 2, none⟩ (.int .i64 t478)).setCell ⟨gb492, 3, none⟩ (.int .i64 t479)).setCell ⟨gb492, 4, none⟩ (.int .i64 t480)).setCell ⟨gb492, 5, none⟩ (.int .i64 t481)).setCell ⟨gb493, 0, none⟩ (.int .i64 t482)).setCell ⟨gb493, 1, none⟩ (.int .i64 t483)).setCell ⟨gb493, 2, none⟩ (.int .i64 t484)).setCell ⟨gb493, 3, none⟩ (.int .i64 t485)).setCell ⟨gb493, 4, none⟩ (.int .i64 t486)).setCell ⟨gb493, 5, none⟩ (.int .i64 t487)).heap[gb488]? = some (.cells #[.int .i64 t476, .int .i64 t477, .int .i64 t478, .int .i64 t479, .int .i64 t480, .int .i64 t481] 25 (0, 0))) := ⟨(blk_far (blk_far (blk_far (blk_far (blk_far (blk_far (blk_far (blk_far (blk_far (blk_far (blk_far (blk_far BK488.out NB488_492.out _) NB488_492.out _) NB488_492.out _) NB488_492.out _) NB488_492.out _) NB488_492.out _) NB488_493.out _) NB488_493.out _) NB488_493.out _) NB488_493.out _) NB488_493.out _) NB488_493.out _)⟩
    replace BK489 : Aside0 (((((((((((((w28.setCell ⟨gb492, 0, none⟩ (.int .i64 t476)).setCell ⟨gb492, 1, none⟩ (.int .i64 t477)).setCell ⟨gb492, 2, none⟩ (.int .i64 t478)).setCell ⟨gb492, 3, none⟩ (.int .i64 t479)).setCell ⟨gb492, 4, none⟩ (.int .i64 t480)).setCell ⟨gb492, 5, none⟩ (.int .i64 t481)).setCell ⟨gb493, 0, none⟩ (.int .i64 t482)).setCell ⟨gb493, 1, none⟩ (.int .i64 t483)).setCell ⟨gb493, 2, none⟩ (.int .i64 t484)).setCell ⟨gb493, 3, none⟩ (.int .i64 t485)).setCell ⟨gb493, 4, none⟩ (.int .i64 t486)).setCell ⟨gb493, 5, none⟩ (.int .i64 t487)).heap[gb489]? = some (.cells #[.int .i64 t482, .int .i64 t483, .int .i64 t484, .int .i64 t485, .int .i64 t486, .int .i64 t487] 25 (0, 0))) := ⟨(blk_far (blk_far (blk_far (blk_far (blk_far (blk_far (blk_far (blk_far (blk_far (blk_far (blk_far (blk_far BK489.out NB489_492.out _) NB489_492.out _) NB489_492.out _) NB489_492.out _) NB489_492.out _) NB489_492.out _) NB489_493.out _) NB489_493.out _) NB489_493.out _) NB489_493.out _) NB489_493.out _) NB489_493.out _)⟩
    replace BK492 : Aside0 (((((((((((((w28.setCell ⟨gb492, 0, none⟩ (.int .i64 t476)).setCell ⟨gb492, 1, none⟩ (.int .i64 t477)).setCell ⟨gb492, 2, none⟩ (.int .i64 t478)).setCell ⟨gb492, 3, none⟩ (.int .i64 t479)).setCell ⟨gb492, 4, none⟩ (.int .i64 t480)).setCell ⟨gb492, 5, none⟩ (.int .i64 t481)).setCell ⟨gb493, 0, none⟩ (.int .i64 t482)).setCell ⟨gb493, 1, none⟩ (.int .i64 t483)).setCell ⟨gb493, 2, none⟩ (.int .i64 t484)).setCell ⟨gb493, 3, none⟩ (.int .i64 t485)).setCell ⟨gb493, 4, none⟩ (.int .i64 t486)).setCell ⟨gb493, 5, none⟩ (.int .i64 t487)).heap[gb492]? = some (.cells #[.int .i64 t476, .int .i64 t477, .int .i64 t478, .int .i64 t479, .int .i64 t480, .int .i64 t481] 25 (0, 0))) := ⟨(blk_far (blk_far (blk_far (blk_far (blk_far (blk_far (blk_put (blk_put (blk_put (blk_put (blk_put (blk_put BK492.out 0 _ rfl) 1 _ rfl) 2 _ rfl) 3 _ rfl) 4 _ rfl) 5 _ rfl) NB492_493.out _) NB492_493.out _) NB492_493.out _) NB492_493.out _) NB492_493.out _) NB492_493.out _)⟩
    replace BK493 : Aside0 (((((((((((((w28.setCell ⟨gb492, 0, none⟩ (.int .i64 t476)).setCell ⟨gb492, 1, none⟩ (.int .i64 t477)).setCell ⟨gb492, 2, none⟩ (.int .i64 t478)).setCell ⟨gb492, 3, none⟩ (.int .i64 t479)).setCell ⟨gb492, 4, none⟩ (.int .i64 t480)).setCell ⟨gb492, 5, none⟩ (.int .i64 t481)).setCell ⟨gb493, 0, none⟩ (.int .i64 t482)).setCell ⟨gb493, 1, none⟩ (.int .i64 t483)).setCell ⟨gb493, 2, none⟩ (.int .i64 t484)).setCell ⟨gb493, 3, none⟩ (.int .i64 t485)).setCell ⟨gb493, 4, none⟩ (.int .i64 t486)).setCell ⟨gb493, 5, none⟩ (.int .i64 t487)).heap[gb493]? = some (.cells #[.int .i64 t482, .int .i64 t483, .int .i64 t484, .int .i64 t485, .int .i64 t486, .int .i64 t487] 25 (0, 0))) := ⟨(blk_put (blk_put (blk_put (blk_put (blk_put (blk_put (blk_far (blk_far (blk_far (blk_far (blk_far (blk_far BK493.out NB493_492.out _) NB493_492.out _) NB493_492.out _) NB493_492.out _) NB493_492.out _) NB493_492.out _) 0 _ rfl) 1 _ rfl) 2 _ rfl) 3 _ rfl) 4 _ rfl) 5 _ rfl)⟩
    replace HB : Aside0 (Below w.heap.size w ((((((((((((w28.setCell ⟨gb492, 0, none⟩ (.int .i64 t476)).setCell ⟨gb492, 1, none⟩ (.int .i64 t477)).setCell ⟨gb492, 2, none⟩ (.int .i64 t478)).setCell ⟨gb492, 3, none⟩ (.int .i64 t479)).setCell ⟨gb492, 4, none⟩ (.int .i64 t480)).setCell ⟨gb492, 5, none⟩ (.int .i64 t481)).setCell ⟨gb493, 0, none⟩ (.int .i64 t482)).setCell ⟨gb493, 1, none⟩ (.int .i64 t483)).setCell ⟨gb493, 2, none⟩ (.int .i64 t484)).setCell ⟨gb493, 3, none⟩ (.int .i64 t485)).setCell ⟨gb493, 4, none⟩ (.int .i64 t486)).setCell ⟨gb493, 5, none⟩ (.int .i64 t487))) := ⟨(below_set (below_set (below_set (below_set (below_set (below_set (below_set (below_set (below_set (below_set (below_set (below_set HB.out GE492.out) GE492.out) GE492.out) GE492.out) GE492.out) GE492.out) GE493.out) GE493.out) GE493.out) GE493.out) GE493.out) GE493.out)⟩
    generalize ((((((((((((w28.setCell ⟨gb492, 0, none⟩ (.int .i64 t476)).setCell ⟨gb492, 1, none⟩ (.int .i64 t477)).setCell ⟨gb492, 2, none⟩ (.int .i64 t478)).setCell ⟨gb492, 3, none⟩ (.int .i64 t479)).setCell ⟨gb492, 4, none⟩ (.int .i64 t480)).setCell ⟨gb492, 5, none⟩ (.int .i64 t481)).setCell ⟨gb493, 0, none⟩ (.int .i64 t482)).setCell ⟨gb493, 1, none⟩ (.int .i64 t483)).setCell ⟨gb493, 2, none⟩ (.int .i64 t484)).setCell ⟨gb493, 3, none⟩ (.int .i64 t485)).setCell ⟨gb493, 4, none⟩ (.int .i64 t486)).setCell ⟨gb493, 5, none⟩ (.int .i64 t487)) = w28a at BK488 BK489 BK492 BK493 HB ⊢
    obtain ⟨hcz488_0, hcz488_1, hcz488_2, hcz488_3, hcz488_4, hcz488_5, hfz488_0, hfz488_1, hfz488_2, hfz488_3, hfz488_4, hfz488_5⟩ := six BK488
    obtain ⟨hcz489_0, hcz489_1, hcz489_2, hcz489_3, hcz489_4, hcz489_5, hfz489_0, hfz489_1, hfz489_2, hfz489_3, hfz489_4, hfz489_5⟩ := six BK489
    obtain ⟨hcz492_0, hcz492_1, hcz492_2, hcz492_3, hcz492_4, hcz492_5, hfz492_0, hfz492_1, hfz492_2, hfz492_3, hfz492_4, hfz492_5⟩ := six BK492
    obtain ⟨hcz493_0, hcz493_1, hcz493_2, hcz493_3, hcz493_4, hcz493_5, hfz493_0, hfz493_1, hfz493_2, hfz493_3, hfz493_4, hfz493_5⟩ := six BK493
    go_upto_region 16 with (fail)
    clear hcz488_0 hfz488_0 hcz488_1 hfz488_1 hcz488_2 hfz488_2 hcz488_3 hfz488_3 hcz488_4 hfz488_4 hcz488_5 hfz488_5 hcz489_0 hfz489_0 hcz489_1 hfz489_1 hcz489_2 hfz489_2 hcz489_3 hfz489_3 hcz489_4 hfz489_4 hcz489_5 hfz489_5 hcz492_0 hfz492_0 hcz492_1 hfz492_1 hcz492_2 hfz492_2 hcz492_3 hfz492_3 hcz492_4 hfz492_4 hcz492_5 hfz492_5 hcz493_0 hfz493_0 hcz493_1 hfz493_1 hcz493_2 hfz493_2 hcz493_3 hfz493_3 hcz493_4 hfz493_4 hcz493_5 hfz493_5
    replace BK488 : Aside0 ((w28a.setCell ⟨gb492, 0, none⟩ (.int .i64 (wrap64 (Int.tdiv (wrap64 (-t477)) 2)))).heap[gb488]? = some (.cells #[.int .i64 t476, .int .i64 t477, .int .i64 t478, .int .i64 t479, .int .i64 t480, .int .i64 t481] 25 (0, 0))) := ⟨(blk_far BK488.out NB488_492.out _)⟩
    replace BK489 : Aside0 ((w28a.setCell ⟨gb492, 0, none⟩ (.int .i64 (wrap64 (Int.tdiv (wrap64 (-t477)) 2)))).heap[gb489]? = some (.cells #[.int .i64 t482, .int .i64 t483, .int .i64 t484, .int .i64 t485, .int .i64 t486, .int .i64 t487] 25 (0, 0))) := ⟨(blk_far BK489.out NB489_492.out _)⟩
    replace BK492 : Aside0 ((w28a.setCell ⟨gb492, 0, none⟩ (.int .i64 (wrap64 (Int.tdiv (wrap64 (-t477)) 2)))).heap[gb492]? = some (.cells #[.int .i64 (wrap64 (Int.tdiv (wrap64 (-t477)) 2)), .int .i64 t477, .int .i64 t478, .int .i64 t479, .int .i64 t480, .int .i64 t481] 25 (0, 0))) := ⟨(blk_put BK492.out 0 _ rfl)⟩
    replace BK493 : Aside0 ((w28a.setCell ⟨gb492, 0, none⟩ (.int .i64 (wrap64 (Int.tdiv (wrap64 (-t477)) 2)))).heap[gb493]? = some (.cells #[.int .i64 t482, .int .i64 t483, .int .i64 t484, .int .i64 t485, .int .i64 t486, .int .i64 t487] 25 (0, 0))) := ⟨(blk_far BK493.out NB493_492.out _)⟩
    replace HB : Aside0 (Below w.heap.size w (w28a.setCell ⟨gb492, 0, none⟩ (.int .i64 (wrap64 (Int.tdiv (wrap64 (-t477)) 2))))) := ⟨(below_set HB.out GE492.out)⟩
    generalize (w28a.setCell ⟨gb492, 0, none⟩ (.int .i64 (wrap64 (Int.tdiv (wrap64 (-t477)) 2)))) = w28b at BK488 BK489 BK492 BK493 HB ⊢
    obtain ⟨hcz488_0, hcz488_1, hcz488_2, hcz488_3, hcz488_4, hcz488_5, hfz488_0, hfz488_1, hfz488_2, hfz488_3, hfz488_4, hfz488_5⟩ := six BK488
    obtain ⟨hcz489_0, hcz489_1, hcz489_2, hcz489_3, hcz489_4, hcz489_5, hfz489_0, hfz489_1, hfz489_2, hfz489_3, hfz489_4, hfz489_5⟩ := six BK489
    obtain ⟨hcz492_0, hcz492_1, hcz492_2, hcz492_3, hcz492_4, hcz492_5, hfz492_0, hfz492_1, hfz492_2, hfz492_3, hfz492_4, hfz492_5⟩ := six BK492
    obtain ⟨hcz493_0, hcz493_1, hcz493_2, hcz493_3, hcz493_4, hcz493_5, hfz493_0, hfz493_1, hfz493_2, hfz493_3, hfz493_4, hfz493_5⟩ := six BK493
    go_upto_region 17 with (fail)
    clear hcz488_0 hfz488_0 hcz488_1 hfz488_1 hcz488_2 hfz488_2 hcz488_3 hfz488_3 hcz488_4 hfz488_4 hcz488_5 hfz488_5 hcz489_0 hfz489_0 hcz489_1 hfz489_1 hcz489_2 hfz489_2 hcz489_3 hfz489_3 hcz489_4 hfz489_4 hcz489_5 hfz489_5 hcz492_0 hfz492_0 hcz492_1 hfz492_1 hcz492_2 hfz492_2 hcz492_3 hfz492_3 hcz492_4 hfz492_4 hcz492_5 hfz492_5 hcz493_0 hfz493_0 hcz493_1 hfz493_1 hcz493_2 hfz493_2 hcz493_3 hfz493_3 hcz493_4 hfz493_4 hcz493_5 hfz493_5
    replace BK488 : Aside0 ((w28b.setCell ⟨gb492, 1, none⟩ (.int .i64 (wrap64 (Int.tdiv t476 2)))).heap[gb488]? = some (.cells #[.int .i64 t476, .int .i64 t477, .int .i64 t478, .int .i64 t479, .int .i64 t480, .int .i64 t481] 25 (0, 0))) := ⟨(blk_far BK488.out NB488_492.out _)⟩
    replace BK489 : Aside0 ((w28b.setCell ⟨gb492, 1, none⟩ (.int .i64 (wrap64 (Int.tdiv t476 2)))).heap[gb489]? = some (.cells #[.int .i64 t482, .int .i64 t483, .int .i64 t484, .int .i64 t485, .int .i64 t486, .int .i64 t487] 25 (0, 0))) := ⟨(blk_far BK489.out NB489_492.out _)⟩
    replace BK492 : Aside0 ((w28b.setCell ⟨gb492, 1, none⟩ (.int .i64 (wrap64 (Int.tdiv t476 2)))).heap[gb492]? = some (.cells #[.int .i64 (wrap64 (Int.tdiv (wrap64 (-t477)) 2)), .int .i64 (wrap64 (Int.tdiv t476 2)), .int .i64 t478, .int .i64 t479, .int .i64 t480, .int .i64 t481] 25 (0, 0))) := ⟨(blk_put BK492.out 1 _ rfl)⟩
    replace BK493 : Aside0 ((w28b.setCell ⟨gb492, 1, none⟩ (.int .i64 (wrap64 (Int.tdiv t476 2)))).heap[gb493]? = some (.cells #[.int .i64 t482, .int .i64 t483, .int .i64 t484, .int .i64 t485, .int .i64 t486, .int .i64 t487] 25 (0, 0))) := ⟨(blk_far BK493.out NB493_492.out _)⟩
    replace HB : Aside0 (Below w.heap.size w (w28b.setCell ⟨gb492, 1, none⟩ (.int .i64 (wrap64 (Int.tdiv t476 2))))) := ⟨(below_set HB.out GE492.out)⟩
    generalize (w28b.setCell ⟨gb492, 1, none⟩ (.int .i64 (wrap64 (Int.tdiv t476 2)))) = w28c at BK488 BK489 BK492 BK493 HB ⊢
    obtain ⟨hcz488_0, hcz488_1, hcz488_2, hcz488_3, hcz488_4, hcz488_5, hfz488_0, hfz488_1, hfz488_2, hfz488_3, hfz488_4, hfz488_5⟩ := six BK488
    obtain ⟨hcz489_0, hcz489_1, hcz489_2, hcz489_3, hcz489_4, hcz489_5, hfz489_0, hfz489_1, hfz489_2, hfz489_3, hfz489_4, hfz489_5⟩ := six BK489
    obtain ⟨hcz492_0, hcz492_1, hcz492_2, hcz492_3, hcz492_4, hcz492_5, hfz492_0, hfz492_1, hfz492_2, hfz492_3, hfz492_4, hfz492_5⟩ := six BK492
    obtain ⟨hcz493_0, hcz493_1, hcz493_2, hcz493_3, hcz493_4, hcz493_5, hfz493_0, hfz493_1, hfz493_2, hfz493_3, hfz493_4, hfz493_5⟩ := six BK493
    go_upto_region 18 with (fail)
    clear hcz488_0 hfz488_0 hcz488_1 hfz488_1 hcz488_2 hfz488_2 hcz488_3 hfz488_3 hcz488_4 hfz488_4 hcz488_5 hfz488_5 hcz489_0 hfz489_0 hcz489_1 hfz489_1 hcz489_2 hfz489_2 hcz489_3 hfz489_3 hcz489_4 hfz489_4 hcz489_5 hfz489_5 hcz492_0 hfz492_0 hcz492_1 hfz492_1 hcz492_2 hfz492_2 hcz492_3 hfz492_3 hcz492_4 hfz492_4 hcz492_5 hfz492_5 hcz493_0 hfz493_0 hcz493_1 hfz493_1 hcz493_2 hfz493_2 hcz493_3 hfz493_3 hcz493_4 hfz493_4 hcz493_5 hfz493_5
    replace BK488 : Aside0 ((w28c.setCell ⟨gb493, 0, none⟩ (.int .i64 (wrap64 ((wrap64 (Int.tdiv (wrap64 (-t477)) 2)) - (wrap64 (t483 - t477)))))).heap[gb488]? = some (.cells #[.int .i64 t476, .int .i64 t477, .int .i64 t478, .int .i64 t479, .int .i64 t480, .int .i64 t481] 25 (0, 0))) := ⟨(blk_far BK488.out NB488_493.out _)⟩
    replace BK489 : Aside0 ((w28c.setCell ⟨gb493, 0, none⟩ (.int .i64 (wrap64 ((wrap64 (Int.tdiv (wrap64 (-t477)) 2)) - (wrap64 (t483 - t477)))))).heap[gb489]? = some (.cells #[.int .i64 t482, .int .i64 t483, .int .i64 t484, .int .i64 t485, .int .i64 t486, .int .i64 t487] 25 (0, 0))) := ⟨(blk_far BK489.out NB489_493.out _)⟩
    replace BK492 : Aside0 ((w28c.setCell ⟨gb493, 0, none⟩ (.int .i64 (wrap64 ((wrap64 (Int.tdiv (wrap64 (-t477)) 2)) - (wrap64 (t483 - t477)))))).heap[gb492]? = some (.cells #[.int .i64 (wrap64 (Int.tdiv (wrap64 (-t477)) 2)), .int .i64 (wrap64 (Int.tdiv t476 2)), .int .i64 t478, .int .i64 t479, .int .i64 t480, .int .i64 t481] 25 (0, 0))) := ⟨(blk_far BK492.out NB492_493.out _)⟩
    replace BK493 : Aside0 ((w28c.setCell ⟨gb493, 0, none⟩ (.int .i64 (wrap64 ((wrap64 (Int.tdiv (wrap64 (-t477)) 2)) - (wrap64 (t483 - t477)))))).heap[gb493]? = some (.cells #[.int .i64 (wrap64 ((wrap64 (Int.tdiv (wrap64 (-t477)) 2)) - (wrap64 (t483 - t477)))), .int .i64 t483, .int .i64 t484, .int .i64 t485, .int .i64 t486, .int .i64 t487] 25 (0, 0))) := ⟨(blk_put BK493.out 0 _ rfl)⟩
    replace HB : Aside0 (Below w.heap.size w (w28c.setCell ⟨gb493, 0, none⟩ (.int .i64 (wrap64 ((wrap64 (Int.tdiv (wrap64 (-t477)) 2)) - (wrap64 (t483 - t477))))))) := ⟨(below_set HB.out GE493.out)⟩
    generalize (w28c.setCell ⟨gb493, 0, none⟩ (.int .i64 (wrap64 ((wrap64 (Int.tdiv (wrap64 (-t477)) 2)) - (wrap64 (t483 - t477)))))) = w28d at BK488 BK489 BK492 BK493 HB ⊢
    obtain ⟨hcz488_0, hcz488_1, hcz488_2, hcz488_3, hcz488_4, hcz488_5, hfz488_0, hfz488_1, hfz488_2, hfz488_3, hfz488_4, hfz488_5⟩ := six BK488
    obtain ⟨hcz489_0, hcz489_1, hcz489_2, hcz489_3, hcz489_4, hcz489_5, hfz489_0, hfz489_1, hfz489_2, hfz489_3, hfz489_4, hfz489_5⟩ := six BK489
    obtain ⟨hcz492_0, hcz492_1, hcz492_2, hcz492_3, hcz492_4, hcz492_5, hfz492_0, hfz492_1, hfz492_2, hfz492_3, hfz492_4, hfz492_5⟩ := six BK492
    obtain ⟨hcz493_0, hcz493_1, hcz493_2, hcz493_3, hcz493_4, hcz493_5, hfz493_0, hfz493_1, hfz493_2, hfz493_3, hfz493_4, hfz493_5⟩ := six BK493
    go_upto_region 19 with (fail)
    clear hcz488_0 hfz488_0 hcz488_1 hfz488_1 hcz488_2 hfz488_2 hcz488_3 hfz488_3 hcz488_4 hfz488_4 hcz488_5 hfz488_5 hcz489_0 hfz489_0 hcz489_1 hfz489_1 hcz489_2 hfz489_2 hcz489_3 hfz489_3 hcz489_4 hfz489_4 hcz489_5 hfz489_5 hcz492_0 hfz492_0 hcz492_1 hfz492_1 hcz492_2 hfz492_2 hcz492_3 hfz492_3 hcz492_4 hfz492_4 hcz492_5 hfz492_5 hcz493_0 hfz493_0 hcz493_1 hfz493_1 hcz493_2 hfz493_2 hcz493_3 hfz493_3 hcz493_4 hfz493_4 hcz493_5 hfz493_5
    replace BK488 : Aside0 ((w28d.setCell ⟨gb493, 1, none⟩ (.int .i64 (wrap64 ((wrap64 (Int.tdiv t476 2)) + (wrap64 (t482 - t476)))))).heap[gb488]? = some (.cells #[.int .i64 t476, .int .i64 t477, .int .i64 t478, .int .i64 t479, .int .i64 t480, .int .i64 t481] 25 (0, 0))) := ⟨(blk_far BK488.out NB488_493.out _)⟩
    replace BK489 : Aside0 ((w28d.setCell ⟨gb493, 1, none⟩ (.int .i64 (wrap64 ((wrap64 (Int.tdiv t476 2)) + (wrap64 (t482 - t476)))))).heap[gb489]? = some (.cells #[.int .i64 t482, .int .i64 t483, .int .i64 t484, .int .i64 t485, .int .i64 t486, .int .i64 t487] 25 (0, 0))) := ⟨(blk_far BK489.out NB489_493.out _)⟩
    replace BK492 : Aside0 ((w28d.setCell ⟨gb493, 1, none⟩ (.int .i64 (wrap64 ((wrap64 (Int.tdiv t476 2)) + (wrap64 (t482 - t476)))))).heap[gb492]? = some (.cells #[.int .i64 (wrap64 (Int.tdiv (wrap64 (-t477)) 2)), .int .i64 (wrap64 (Int.tdiv t476 2)), .int .i64 t478, .int .i64 t479, .int .i64 t480, .int .i64 t481] 25 (0, 0))) := ⟨(blk_far BK492.out NB492_493.out _)⟩
    replace BK493 : Aside0 ((w28d.setCell ⟨gb493, 1, none⟩ (.int .i64 (wrap64 ((wrap64 (Int.tdiv t476 2)) + (wrap64 (t482 - t476)))))).heap[gb493]? = some (.cells #[.int .i64 (wrap64 ((wrap64 (Int.tdiv (wrap64 (-t477)) 2)) - (wrap64 (t483 - t477)))), .int .i64 (wrap64 ((wrap64 (Int.tdiv t476 2)) + (wrap64 (t482 - t476)))), .int .i64 t484, .int .i64 t485, .int .i64 t486, .int .i64 t487] 25 (0, 0))) := ⟨(blk_put BK493.out 1 _ rfl)⟩
    replace HB : Aside0 (Below w.heap.size w (w28d.setCell ⟨gb493, 1, none⟩ (.int .i64 (wrap64 ((wrap64 (Int.tdiv t476 2)) + (wrap64 (t482 - t476))))))) := ⟨(below_set HB.out GE493.out)⟩
    generalize (w28d.setCell ⟨gb493, 1, none⟩ (.int .i64 (wrap64 ((wrap64 (Int.tdiv t476 2)) + (wrap64 (t482 - t476)))))) = w28e at BK488 BK489 BK492 BK493 HB ⊢
    obtain ⟨hcz488_0, hcz488_1, hcz488_2, hcz488_3, hcz488_4, hcz488_5, hfz488_0, hfz488_1, hfz488_2, hfz488_3, hfz488_4, hfz488_5⟩ := six BK488
    obtain ⟨hcz489_0, hcz489_1, hcz489_2, hcz489_3, hcz489_4, hcz489_5, hfz489_0, hfz489_1, hfz489_2, hfz489_3, hfz489_4, hfz489_5⟩ := six BK489
    obtain ⟨hcz492_0, hcz492_1, hcz492_2, hcz492_3, hcz492_4, hcz492_5, hfz492_0, hfz492_1, hfz492_2, hfz492_3, hfz492_4, hfz492_5⟩ := six BK492
    obtain ⟨hcz493_0, hcz493_1, hcz493_2, hcz493_3, hcz493_4, hcz493_5, hfz493_0, hfz493_1, hfz493_2, hfz493_3, hfz493_4, hfz493_5⟩ := six BK493
    go_upto_region 20 with (fail)
    clear hcz488_0 hfz488_0 hcz488_1 hfz488_1 hcz488_2 hfz488_2 hcz488_3 hfz488_3 hcz488_4 hfz488_4 hcz488_5 hfz488_5 hcz489_0 hfz489_0 hcz489_1 hfz489_1 hcz489_2 hfz489_2 hcz489_3 hfz489_3 hcz489_4 hfz489_4 hcz489_5 hfz489_5 hcz492_0 hfz492_0 hcz492_1 hfz492_1 hcz492_2 hfz492_2 hcz492_3 hfz492_3 hcz492_4 hfz492_4 hcz492_5 hfz492_5 hcz493_0 hfz493_0 hcz493_1 hfz493_1 hcz493_2 hfz493_2 hcz493_3 hfz493_3 hcz493_4 hfz493_4 hcz493_5 hfz493_5
    replace BK488 : Aside0 ((w28e.setCell ⟨gb492, 2, none⟩ (.int .i64 (wrap64 (-t479)))).heap[gb488]? = some (.cells #[.int .i64 t476, .int .i64 t477, .int .i64 t478, .int .i64 t479, .int .i64 t480, .int .i64 t481] 25 (0, 0))) := ⟨(blk_far BK488.out NB488_492.out _)⟩
    replace BK489 : Aside0 ((w28e.setCell ⟨gb492, 2, none⟩ (.int .i64 (wrap64 (-t479)))).heap[gb489]? = some (.cells #[.int .i64 t482, .int .i64 t483, .int .i64 t484, .int .i64 t485, .int .i64 t486, .int .i64 t487] 25 (0, 0))) := ⟨(blk_far BK489.out NB489_492.out _)⟩
    replace BK492 : Aside0 ((w28e.setCell ⟨gb492, 2, none⟩ (.int .i64 (wrap64 (-t479)))).heap[gb492]? = some (.cells #[.int .i64 (wrap64 (Int.tdiv (wrap64 (-t477)) 2)), .int .i64 (wrap64 (Int.tdiv t476 2)), .int .i64 (wrap64 (-t479)), .int .i64 t479, .int .i64 t480, .int .i64 t481] 25 (0, 0))) := ⟨(blk_put BK492.out 2 _ rfl)⟩
    replace BK493 : Aside0 ((w28e.setCell ⟨gb492, 2, none⟩ (.int .i64 (wrap64 (-t479)))).heap[gb493]? = some (.cells #[.int .i64 (wrap64 ((wrap64 (Int.tdiv (wrap64 (-t477)) 2)) - (wrap64 (t483 - t477)))), .int .i64 (wrap64 ((wrap64 (Int.tdiv t476 2)) + (wrap64 (t482 - t476)))), .int .i64 t484, .int .i64 t485, .int .i64 t486, .int .i64 t487] 25 (0, 0))) := ⟨(blk_far BK493.out NB493_492.out _)⟩
    replace HB : Aside0 (Below w.heap.size w (w28e.setCell ⟨gb492, 2, none⟩ (.int .i64 (wrap64 (-t479))))) := ⟨(below_set HB.out GE492.out)⟩
    generalize (w28e.setCell ⟨gb492, 2, none⟩ (.int .i64 (wrap64 (-t479)))) = w28f at BK488 BK489 BK492 BK493 HB ⊢
    obtain ⟨hcz488_0, hcz488_1, hcz488_2, hcz488_3, hcz488_4, hcz488_5, hfz488_0, hfz488_1, hfz488_2, hfz488_3, hfz488_4, hfz488_5⟩ := six BK488
    obtain ⟨hcz489_0, hcz489_1, hcz489_2, hcz489_3, hcz489_4, hcz489_5, hfz489_0, hfz489_1, hfz489_2, hfz489_3, hfz489_4, hfz489_5⟩ := six BK489
    obtain ⟨hcz492_0, hcz492_1, hcz492_2, hcz492_3, hcz492_4, hcz492_5, hfz492_0, hfz492_1, hfz492_2, hfz492_3, hfz492_4, hfz492_5⟩ := six BK492
    obtain ⟨hcz493_0, hcz493_1, hcz493_2, hcz493_3, hcz493_4, hcz493_5, hfz493_0, hfz493_1, hfz493_2, hfz493_3, hfz493_4, hfz493_5⟩ := six BK493
    go_upto_region 21 with (fail)
    clear hcz488_0 hfz488_0 hcz488_1 hfz488_1 hcz488_2 hfz488_2 hcz488_3 hfz488_3 hcz488_4 hfz488_4 hcz488_5 hfz488_5 hcz489_0 hfz489_0 hcz489_1 hfz489_1 hcz489_2 hfz489_2 hcz489_3 hfz489_3 hcz489_4 hfz489_4 hcz489_5 hfz489_5 hcz492_0 hfz492_0 hcz492_1 hfz492_1 hcz492_2 hfz492_2 hcz492_3 hfz492_3 hcz492_4 hfz492_4 hcz492_5 hfz492_5 hcz493_0 hfz493_0 hcz493_1 hfz493_1 hcz493_2 hfz493_2 hcz493_3 hfz493_3 hcz493_4 hfz493_4 hcz493_5 hfz493_5
    replace BK488 : Aside0 ((w28f.setCell ⟨gb492, 3, none⟩ (.int .i64 t478)).heap[gb488]? = some (.cells #[.int .i64 t476, .int .i64 t477, .int .i64 t478, .int .i64 t479, .int .i64 t480, .int .i64 t481] 25 (0, 0))) := ⟨(blk_far BK488.out NB488_492.out _)⟩
    replace BK489 : Aside0 ((w28f.setCell ⟨gb492, 3, none⟩ (.int .i64 t478)).heap[gb489]? = some (.cells #[.int .i64 t482, .int .i64 t483, .int .i64 t484, .int .i64 t485, .int .i64 t486, .int .i64 t487] 25 (0, 0))) := ⟨(blk_far BK489.out NB489_492.out _)⟩
    replace BK492 : Aside0 ((w28f.setCell ⟨gb492, 3, none⟩ (.int .i64 t478)).heap[gb492]? = some (.cells #[.int .i64 (wrap64 (Int.tdiv (wrap64 (-t477)) 2)), .int .i64 (wrap64 (Int.tdiv t476 2)), .int .i64 (wrap64 (-t479)), .int .i64 t478, .int .i64 t480, .int .i64 t481] 25 (0, 0))) := ⟨(blk_put BK492.out 3 _ rfl)⟩
    replace BK493 : Aside0 ((w28f.setCell ⟨gb492, 3, none⟩ (.int .i64 t478)).heap[gb493]? = some (.cells #[.int .i64 (wrap64 ((wrap64 (Int.tdiv (wrap64 (-t477)) 2)) - (wrap64 (t483 - t477)))), .int .i64 (wrap64 ((wrap64 (Int.tdiv t476 2)) + (wrap64 (t482 - t476)))), .int .i64 t484, .int .i64 t485, .int .i64 t486, .int .i64 t487] 25 (0, 0))) := ⟨(blk_far BK493.out NB493_492.out _)⟩
    replace HB : Aside0 (Below w.heap.size w (w28f.setCell ⟨gb492, 3, none⟩ (.int .i64 t478))) := ⟨(below_set HB.out GE492.out)⟩
    generalize (w28f.setCell ⟨gb492, 3, none⟩ (.int .i64 t478)) = w28g at BK488 BK489 BK492 BK493 HB ⊢
    obtain ⟨hcz488_0, hcz488_1, hcz488_2, hcz488_3, hcz488_4, hcz488_5, hfz488_0, hfz488_1, hfz488_2, hfz488_3, hfz488_4, hfz488_5⟩ := six BK488
    obtain ⟨hcz489_0, hcz489_1, hcz489_2, hcz489_3, hcz489_4, hcz489_5, hfz489_0, hfz489_1, hfz489_2, hfz489_3, hfz489_4, hfz489_5⟩ := six BK489
    obtain ⟨hcz492_0, hcz492_1, hcz492_2, hcz492_3, hcz492_4, hcz492_5, hfz492_0, hfz492_1, hfz492_2, hfz492_3, hfz492_4, hfz492_5⟩ := six BK492
    obtain ⟨hcz493_0, hcz493_1, hcz493_2, hcz493_3, hcz493_4, hcz493_5, hfz493_0, hfz493_1, hfz493_2, hfz493_3, hfz493_4, hfz493_5⟩ := six BK493
    go_upto_region 22 with (fail)
    clear hcz488_0 hfz488_0 hcz488_1 hfz488_1 hcz488_2 hfz488_2 hcz488_3 hfz488_3 hcz488_4 hfz488_4 hcz488_5 hfz488_5 hcz489_0 hfz489_0 hcz489_1 hfz489_1 hcz489_2 hfz489_2 hcz489_3 hfz489_3 hcz489_4 hfz489_4 hcz489_5 hfz489_5 hcz492_0 hfz492_0 hcz492_1 hfz492_1 hcz492_2 hfz492_2 hcz492_3 hfz492_3 hcz492_4 hfz492_4 hcz492_5 hfz492_5 hcz493_0 hfz493_0 hcz493_1 hfz493_1 hcz493_2 hfz493_2 hcz493_3 hfz493_3 hcz493_4 hfz493_4 hcz493_5 hfz493_5
    replace BK488 : Aside0 ((w28g.setCell ⟨gb493, 2, none⟩ (.int .i64 (wrap64 (-t485)))).heap[gb488]? = some (.cells #[.int .i64 t476, .int .i64 t477, .int .i64 t478, .int .i64 t479, .int .i64 t480, .int .i64 t481] 25 (0, 0))) := ⟨(blk_far BK488.out NB488_493.out _)⟩
    replace BK489 : Aside0 ((w28g.setCell ⟨gb493, 2, none⟩ (.int .i64 (wrap64 (-t485)))).heap[gb489]? = some (.cells #[.int .i64 t482, .int .i64 t483, .int .i64 t484, .int .i64 t485, .int .i64 t486, .int .i64 t487] 25 (0, 0))) := ⟨(blk_far BK489.out NB489_493.out _)⟩
    replace BK492 : Aside0 ((w28g.setCell ⟨gb493, 2, none⟩ (.int .i64 (wrap64 (-t485)))).heap[gb492]? = some (.cells #[.int .i64 (wrap64 (Int.tdiv (wrap64 (-t477)) 2)), .int .i64 (wrap64 (Int.tdiv t476 2)), .int .i64 (wrap64 (-t479)), .int .i64 t478, .int .i64 t480, .int .i64 t481] 25 (0, 0))) := ⟨(blk_far BK492.out NB492_493.out _)⟩
    replace BK493 : Aside0 ((w28g.setCell ⟨gb493, 2, none⟩ (.int .i64 (wrap64 (-t485)))).heap[gb493]? = some (.cells #[.int .i64 (wrap64 ((wrap64 (Int.tdiv (wrap64 (-t477)) 2)) - (wrap64 (t483 - t477)))), .int .i64 (wrap64 ((wrap64 (Int.tdiv t476 2)) + (wrap64 (t482 - t476)))), .int .i64 (wrap64 (-t485)), .int .i64 t485, .int .i64 t486, .int .i64 t487] 25 (0, 0))) := ⟨(blk_put BK493.out 2 _ rfl)⟩
    replace HB : Aside0 (Below w.heap.size w (w28g.setCell ⟨gb493, 2, none⟩ (.int .i64 (wrap64 (-t485))))) := ⟨(below_set HB.out GE493.out)⟩
    generalize (w28g.setCell ⟨gb493, 2, none⟩ (.int .i64 (wrap64 (-t485)))) = w28h at BK488 BK489 BK492 BK493 HB ⊢
    obtain ⟨hcz488_0, hcz488_1, hcz488_2, hcz488_3, hcz488_4, hcz488_5, hfz488_0, hfz488_1, hfz488_2, hfz488_3, hfz488_4, hfz488_5⟩ := six BK488
    obtain ⟨hcz489_0, hcz489_1, hcz489_2, hcz489_3, hcz489_4, hcz489_5, hfz489_0, hfz489_1, hfz489_2, hfz489_3, hfz489_4, hfz489_5⟩ := six BK489
    obtain ⟨hcz492_0, hcz492_1, hcz492_2, hcz492_3, hcz492_4, hcz492_5, hfz492_0, hfz492_1, hfz492_2, hfz492_3, hfz492_4, hfz492_5⟩ := six BK492
    obtain ⟨hcz493_0, hcz493_1, hcz493_2, hcz493_3, hcz493_4, hcz493_5, hfz493_0, hfz493_1, hfz493_2, hfz493_3, hfz493_4, hfz493_5⟩ := six BK493
    go_upto_region 23 with (fail)
    clear hcz488_0 hfz488_0 hcz488_1 hfz488_1 hcz488_2 hfz488_2 hcz488_3 hfz488_3 hcz488_4 hfz488_4 hcz488_5 hfz488_5 hcz489_0 hfz489_0 hcz489_1 hfz489_1 hcz489_2 hfz489_2 hcz489_3 hfz489_3 hcz489_4 hfz489_4 hcz489_5 hfz489_5 hcz492_0 hfz492_0 hcz492_1 hfz492_1 hcz492_2 hfz492_2 hcz492_3 hfz492_3 hcz492_4 hfz492_4 hcz492_5 hfz492_5 hcz493_0 hfz493_0 hcz493_1 hfz493_1 hcz493_2 hfz493_2 hcz493_3 hfz493_3 hcz493_4 hfz493_4 hcz493_5 hfz493_5
    replace BK488 : Aside0 ((w28h.setCell ⟨gb493, 3, none⟩ (.int .i64 t484)).heap[gb488]? = some (.cells #[.int .i64 t476, .int .i64 t477, .int .i64 t478, .int .i64 t479, .int .i64 t480, .int .i64 t481] 25 (0, 0))) := ⟨(blk_far BK488.out NB488_493.out _)⟩
    replace BK489 : Aside0 ((w28h.setCell ⟨gb493, 3, none⟩ (.int .i64 t484)).heap[gb489]? = some (.cells #[.int .i64 t482, .int .i64 t483, .int .i64 t484, .int .i64 t485, .int .i64 t486, .int .i64 t487] 25 (0, 0))) := ⟨(blk_far BK489.out NB489_493.out _)⟩
    replace BK492 : Aside0 ((w28h.setCell ⟨gb493, 3, none⟩ (.int .i64 t484)).heap[gb492]? = some (.cells #[.int .i64 (wrap64 (Int.tdiv (wrap64 (-t477)) 2)), .int .i64 (wrap64 (Int.tdiv t476 2)), .int .i64 (wrap64 (-t479)), .int .i64 t478, .int .i64 t480, .int .i64 t481] 25 (0, 0))) := ⟨(blk_far BK492.out NB492_493.out _)⟩
    replace BK493 : Aside0 ((w28h.setCell ⟨gb493, 3, none⟩ (.int .i64 t484)).heap[gb493]? = some (.cells #[.int .i64 (wrap64 ((wrap64 (Int.tdiv (wrap64 (-t477)) 2)) - (wrap64 (t483 - t477)))), .int .i64 (wrap64 ((wrap64 (Int.tdiv t476 2)) + (wrap64 (t482 - t476)))), .int .i64 (wrap64 (-t485)), .int .i64 t484, .int .i64 t486, .int .i64 t487] 25 (0, 0))) := ⟨(blk_put BK493.out 3 _ rfl)⟩
    replace HB : Aside0 (Below w.heap.size w (w28h.setCell ⟨gb493, 3, none⟩ (.int .i64 t484))) := ⟨(below_set HB.out GE493.out)⟩
    generalize (w28h.setCell ⟨gb493, 3, none⟩ (.int .i64 t484)) = w28i at BK488 BK489 BK492 BK493 HB ⊢
    (try simp only [Act.put, List.setIfInBounds_toArray, List.set_cons_zero, List.set_cons_succ])
    go_cut [90] (fun v90 wc => ∃ (kq : Nat) (x90_23 : Bool), v90 = .bool x90_23 ∧ Aside0 (laws_FnDuties.j1 kq t490 t491 x90_23 t476 t477 t478 t479 t480 t481 t482 t483 t484 t485 t486 t487 (wrap64 (Int.tdiv (wrap64 (-t477)) 2)) (wrap64 (Int.tdiv t476 2)) (wrap64 (-t479)) t478 t480 t481 (wrap64 ((wrap64 (Int.tdiv (wrap64 (-t477)) 2)) - (wrap64 (t483 - t477)))) (wrap64 ((wrap64 (Int.tdiv t476 2)) + (wrap64 (t482 - t476)))) (wrap64 (-t485)) t484 t486 t487 = some true) ∧ Aside0 (kq ≤ kj6) ∧ Aside0 (wc.heap[gb488]? = some (.cells #[.int .i64 t476, .int .i64 t477, .int .i64 t478, .int .i64 t479, .int .i64 t480, .int .i64 t481] 25 (0, 0))) ∧ Aside0 (wc.heap[gb489]? = some (.cells #[.int .i64 t482, .int .i64 t483, .int .i64 t484, .int .i64 t485, .int .i64 t486, .int .i64 t487] 25 (0, 0))) ∧ Aside0 (wc.heap[gb492]? = some (.cells #[.int .i64 (wrap64 (Int.tdiv (wrap64 (-t477)) 2)), .int .i64 (wrap64 (Int.tdiv t476 2)), .int .i64 (wrap64 (-t479)), .int .i64 t478, .int .i64 t480, .int .i64 t481] 25 (0, 0))) ∧ Aside0 (wc.heap[gb493]? = some (.cells #[.int .i64 (wrap64 ((wrap64 (Int.tdiv (wrap64 (-t477)) 2)) - (wrap64 (t483 - t477)))), .int .i64 (wrap64 ((wrap64 (Int.tdiv t476 2)) + (wrap64 (t482 - t476)))), .int .i64 (wrap64 (-t485)), .int .i64 t484, .int .i64 t486, .int .i64 t487] 25 (0, 0))) ∧ Aside0 (Below w.heap.size w wc))
    case first =>
     have H := HC24.out
     clear HC24
     replace H := Option.bind_eq_some_iff.mp H
     obtain ⟨t494, A510, H⟩ := H
     replace H : (if t494 = true then ((spec_ShipOk.f (wrap64 ((wrap64 (Int.tdiv (wrap64 (-t477)) 2)) - (wrap64 (t483 - t477)))) (wrap64 ((wrap64 (Int.tdiv t476 2)) + (wrap64 (t482 - t476)))) (wrap64 (-t485)) t484 t486 t487).bind fun t495 => (laws_FnDuties.j1 kj6 t490 t491 (!t495) t476 t477 t478 t479 t480 t481 t482 t483 t484 t485 t486 t487 (wrap64 (Int.tdiv (wrap64 (-t477)) 2)) (wrap64 (Int.tdiv t476 2)) (wrap64 (-t479)) t478 t480 t481 (wrap64 ((wrap64 (Int.tdiv (wrap64 (-t477)) 2)) - (wrap64 (t483 - t477)))) (wrap64 ((wrap64 (Int.tdiv t476 2)) + (wrap64 (t482 - t476)))) (wrap64 (-t485)) t484 t486 t487)) else (laws_FnDuties.j1 kj6 t490 t491 true t476 t477 t478 t479 t480 t481 t482 t483 t484 t485 t486 t487 (wrap64 (Int.tdiv (wrap64 (-t477)) 2)) (wrap64 (Int.tdiv t476 2)) (wrap64 (-t479)) t478 t480 t481 (wrap64 ((wrap64 (Int.tdiv (wrap64 (-t477)) 2)) - (wrap64 (t483 - t477)))) (wrap64 ((wrap64 (Int.tdiv t476 2)) + (wrap64 (t482 - t476)))) (wrap64 (-t485)) t484 t486 t487)) = some true := H
     have A51 := Aside0.mk A510
     clear A510
     by_cases c52 : t494 = true
     ·subst c52
      have H1 : ((spec_ShipOk.f (wrap64 ((wrap64 (Int.tdiv (wrap64 (-t477)) 2)) - (wrap64 (t483 - t477)))) (wrap64 ((wrap64 (Int.tdiv t476 2)) + (wrap64 (t482 - t476)))) (wrap64 (-t485)) t484 t486 t487).bind fun t495 => (laws_FnDuties.j1 kj6 t490 t491 (!t495) t476 t477 t478 t479 t480 t481 t482 t483 t484 t485 t486 t487 (wrap64 (Int.tdiv (wrap64 (-t477)) 2)) (wrap64 (Int.tdiv t476 2)) (wrap64 (-t479)) t478 t480 t481 (wrap64 ((wrap64 (Int.tdiv (wrap64 (-t477)) 2)) - (wrap64 (t483 - t477)))) (wrap64 ((wrap64 (Int.tdiv t476 2)) + (wrap64 (t482 - t476)))) (wrap64 (-t485)) t484 t486 t487)) = some true := by rw [if_pos rfl] at H; exact H
      clear H
      have H := H1
      clear H1
      replace H := Option.bind_eq_some_iff.mp H
      obtain ⟨t495, A530, H⟩ := H
      replace H : (laws_FnDuties.j1 kj6 t490 t491 (!t495) t476 t477 t478 t479 t480 t481 t482 t483 t484 t485 t486 t487 (wrap64 (Int.tdiv (wrap64 (-t477)) 2)) (wrap64 (Int.tdiv t476 2)) (wrap64 (-t479)) t478 t480 t481 (wrap64 ((wrap64 (Int.tdiv (wrap64 (-t477)) 2)) - (wrap64 (t483 - t477)))) (wrap64 ((wrap64 (Int.tdiv t476 2)) + (wrap64 (t482 - t476)))) (wrap64 (-t485)) t484 t486 t487) = some true := H
      have A53 := Aside0.mk A530
      clear A530
      have H' := Aside0.mk H
      clear H
      have hnb54 := NB492_488.out
      have hnc54 := NB488_492.out
      have hnb55 := NB492_489.out
      have hnc55 := NB489_492.out
      have hnb56 := NB492_493.out
      have hnc56 := NB493_492.out
      obtain ⟨hcz57_0, hcz57_1, hcz57_2, hcz57_3, hcz57_4, hcz57_5, hfz57_0, hfz57_1, hfz57_2, hfz57_3, hfz57_4, hfz57_5⟩ := six BK492
      go_wp2_with (first | ((with_reducible refine gate_callee (f := 15) rfl ?_); refine goesL_ (some 84) rfl rfl Try.func15 (by kernel_rfl) rfl #[.agg #[.int .i64 (wrap64 (Int.tdiv (wrap64 (-t477)) 2)), .int .i64 (wrap64 (Int.tdiv t476 2)), .int .i64 (wrap64 (-t479)), .int .i64 t478, .int .i64 t480, .int .i64 t481]] rfl (by (try simp only [List.map_toArray, List.map_cons, List.map_nil]); first | done | rfl) ?_; (with_reducible refine (spec_ShipOk.calls (wrap64 (Int.tdiv (wrap64 (-t477)) 2)) (wrap64 (Int.tdiv t476 2)) (wrap64 (-t479)) t478 t480 t481 true _ A51.out).mono ?_); rintro e w58 ⟨rfl, hb⟩; refine ⟨_, rfl, ?_⟩; replace BK488 := Aside0.mk (blk_below (g := gb488) (up BK488) hb); replace BK489 := Aside0.mk (blk_below (g := gb489) (up BK489) hb); replace BK492 := Aside0.mk (blk_below (g := gb492) (up BK492) hb); replace BK493 := Aside0.mk (blk_below (g := gb493) (up BK493) hb); replace HB := Aside0.mk (below_step (by repeat (first | (with_reducible first | exact HB.out | apply below_alloc | apply pw_below_drewN | apply below_drew1 | refine below_set ?_ GE488.out | refine below_set ?_ GE489.out | refine below_set ?_ GE492.out | refine below_set ?_ GE493.out) | exact HB.out)) hb); (try clear hb); (try clear hb2); (try clear hk); (try clear hi); have hnb59 := NB493_488.out; have hnc59 := NB488_493.out; have hnb60 := NB493_489.out; have hnc60 := NB489_493.out; obtain ⟨hcz61_0, hcz61_1, hcz61_2, hcz61_3, hcz61_4, hcz61_5, hfz61_0, hfz61_1, hfz61_2, hfz61_3, hfz61_4, hfz61_5⟩ := six BK493) | (go_at_call 15; (with_reducible refine (spec_ShipOk.calls (wrap64 ((wrap64 (Int.tdiv (wrap64 (-t477)) 2)) - (wrap64 (t483 - t477)))) (wrap64 ((wrap64 (Int.tdiv t476 2)) + (wrap64 (t482 - t476)))) (wrap64 (-t485)) t484 t486 t487 t495 _ A53.out).mono ?_); rintro e w62 ⟨rfl, hb⟩; replace BK488 := Aside0.mk (blk_below (g := gb488) (up BK488) hb); replace BK489 := Aside0.mk (blk_below (g := gb489) (up BK489) hb); replace BK492 := Aside0.mk (blk_below (g := gb492) (up BK492) hb); replace BK493 := Aside0.mk (blk_below (g := gb493) (up BK493) hb); replace HB := Aside0.mk (below_step (by repeat (first | (with_reducible first | exact HB.out | apply below_alloc | apply pw_below_drewN | apply below_drew1 | refine below_set ?_ GE488.out | refine below_set ?_ GE489.out | refine below_set ?_ GE492.out | refine below_set ?_ GE493.out) | exact HB.out)) hb); (try clear hb); (try clear hb2); (try clear hk); (try clear hi)))
      go_meet
      case rel => exact ⟨_, (!t495), (by first | rfl | (simp; done) | (simp [*]; done)), H', ⟨by have := HJ6.out; first | omega | exact Nat.le_refl _⟩, ⟨by (with_reducible repeat (first | refine blk_drewN ?_ _ | refine blk_drew ?_ | refine blk_alloc ?_ _)); exact BK488.out⟩, ⟨by (with_reducible repeat (first | refine blk_drewN ?_ _ | refine blk_drew ?_ | refine blk_alloc ?_ _)); exact BK489.out⟩, ⟨by (with_reducible repeat (first | refine blk_drewN ?_ _ | refine blk_drew ?_ | refine blk_alloc ?_ _)); exact BK492.out⟩, ⟨by (with_reducible repeat (first | refine blk_drewN ?_ _ | refine blk_drew ?_ | refine blk_alloc ?_ _)); exact BK493.out⟩, ⟨by repeat (first | (with_reducible first | exact HB.out | apply below_alloc | apply pw_below_drewN | apply below_drew1 | refine below_set ?_ GE488.out | refine below_set ?_ GE489.out | refine below_set ?_ GE492.out | refine below_set ?_ GE493.out) | exact HB.out)⟩⟩
     ·replace c52 := Bool.eq_false_iff.mpr c52
      subst c52
      have H1 : (laws_FnDuties.j1 kj6 t490 t491 true t476 t477 t478 t479 t480 t481 t482 t483 t484 t485 t486 t487 (wrap64 (Int.tdiv (wrap64 (-t477)) 2)) (wrap64 (Int.tdiv t476 2)) (wrap64 (-t479)) t478 t480 t481 (wrap64 ((wrap64 (Int.tdiv (wrap64 (-t477)) 2)) - (wrap64 (t483 - t477)))) (wrap64 ((wrap64 (Int.tdiv t476 2)) + (wrap64 (t482 - t476)))) (wrap64 (-t485)) t484 t486 t487) = some true := by rw [if_neg (show ¬ (false = true) by decide)] at H; exact H
      clear H
      have H := H1
      clear H1
      have H' := Aside0.mk H
      clear H
      have hnb63 := NB492_488.out
      have hnc63 := NB488_492.out
      have hnb64 := NB492_489.out
      have hnc64 := NB489_492.out
      have hnb65 := NB492_493.out
      have hnc65 := NB493_492.out
      obtain ⟨hcz66_0, hcz66_1, hcz66_2, hcz66_3, hcz66_4, hcz66_5, hfz66_0, hfz66_1, hfz66_2, hfz66_3, hfz66_4, hfz66_5⟩ := six BK492
      go_wp2_with (first | ((with_reducible refine gate_callee (f := 15) rfl ?_); refine goesL_ (some 84) rfl rfl Try.func15 (by kernel_rfl) rfl #[.agg #[.int .i64 (wrap64 (Int.tdiv (wrap64 (-t477)) 2)), .int .i64 (wrap64 (Int.tdiv t476 2)), .int .i64 (wrap64 (-t479)), .int .i64 t478, .int .i64 t480, .int .i64 t481]] rfl (by (try simp only [List.map_toArray, List.map_cons, List.map_nil]); first | done | rfl) ?_; (with_reducible refine (spec_ShipOk.calls (wrap64 (Int.tdiv (wrap64 (-t477)) 2)) (wrap64 (Int.tdiv t476 2)) (wrap64 (-t479)) t478 t480 t481 false _ A51.out).mono ?_); rintro e w67 ⟨rfl, hb⟩; refine ⟨_, rfl, ?_⟩; replace BK488 := Aside0.mk (blk_below (g := gb488) (up BK488) hb); replace BK489 := Aside0.mk (blk_below (g := gb489) (up BK489) hb); replace BK492 := Aside0.mk (blk_below (g := gb492) (up BK492) hb); replace BK493 := Aside0.mk (blk_below (g := gb493) (up BK493) hb); replace HB := Aside0.mk (below_step (by repeat (first | (with_reducible first | exact HB.out | apply below_alloc | apply pw_below_drewN | apply below_drew1 | refine below_set ?_ GE488.out | refine below_set ?_ GE489.out | refine below_set ?_ GE492.out | refine below_set ?_ GE493.out) | exact HB.out)) hb); (try clear hb); (try clear hb2); (try clear hk); (try clear hi)))
      go_meet
      case rel => exact ⟨_, (true), (by first | rfl | (simp; done) | (simp [*]; done)), H', ⟨by have := HJ6.out; first | omega | exact Nat.le_refl _⟩, ⟨by (with_reducible repeat (first | refine blk_drewN ?_ _ | refine blk_drew ?_ | refine blk_alloc ?_ _)); exact BK488.out⟩, ⟨by (with_reducible repeat (first | refine blk_drewN ?_ _ | refine blk_drew ?_ | refine blk_alloc ?_ _)); exact BK489.out⟩, ⟨by (with_reducible repeat (first | refine blk_drewN ?_ _ | refine blk_drew ?_ | refine blk_alloc ?_ _)); exact BK492.out⟩, ⟨by (with_reducible repeat (first | refine blk_drewN ?_ _ | refine blk_drew ?_ | refine blk_alloc ?_ _)); exact BK493.out⟩, ⟨by repeat (first | (with_reducible first | exact HB.out | apply below_alloc | apply pw_below_drewN | apply below_drew1 | refine below_set ?_ GE488.out | refine below_set ?_ GE489.out | refine below_set ?_ GE492.out | refine below_set ?_ GE493.out) | exact HB.out)⟩⟩
    case rest =>
     clear HC24
     (try clear c1); (try clear c2); (try clear p2); (try clear c3); (try clear c4); (try clear c5); (try clear c6); (try clear p6); (try clear c11); (try clear c15); (try clear c18); (try clear c18b0); (try clear c18b1); (try clear c19); (try clear c19b0); (try clear c19b1); (try clear c20); (try clear c20b0); (try clear c20b1); (try clear c21); (try clear c21b0); (try clear c21b1); (try clear c22); (try clear c22b0); (try clear c22b1); (try clear c23); (try clear c23b0); (try clear c23b1); (try clear c41); (try clear c42); (try clear c43); (try clear c45); (try clear c46); (try clear c48); (try clear c52); (try clear c54); (try clear c55); (try clear c56); (try clear c59); (try clear c60); (try clear c63); (try clear c64); (try clear p64); (try clear c65); (try clear hcz12_0); (try clear hcz12_1); (try clear hcz12_2); (try clear hcz12_3); (try clear hcz12_4); (try clear hcz12_5); (try clear hcz13_0); (try clear hcz13_1); (try clear hcz13_2); (try clear hcz13_3); (try clear hcz13_4); (try clear hcz13_5); (try clear hcz44_0); (try clear hcz44_1); (try clear hcz44_2); (try clear hcz44_3); (try clear hcz44_4); (try clear hcz44_5); (try clear hcz47_0); (try clear hcz47_1); (try clear hcz47_2); (try clear hcz47_3); (try clear hcz47_4); (try clear hcz47_5); (try clear hcz49_0); (try clear hcz49_1); (try clear hcz49_2); (try clear hcz49_3); (try clear hcz49_4); (try clear hcz49_5); (try clear hcz50_0); (try clear hcz50_1); (try clear hcz50_2); (try clear hcz50_3); (try clear hcz50_4); (try clear hcz50_5); (try clear hcz57_0); (try clear hcz57_1); (try clear hcz57_2); (try clear hcz57_3); (try clear hcz57_4); (try clear hcz57_5); (try clear hcz61_0); (try clear hcz61_1); (try clear hcz61_2); (try clear hcz61_3); (try clear hcz61_4); (try clear hcz61_5); (try clear hcz66_0); (try clear hcz66_1); (try clear hcz66_2); (try clear hcz66_3); (try clear hcz66_4); (try clear hcz66_5); (try clear hfz12_0); (try clear hfz12_1); (try clear hfz12_2); (try clear hfz12_3); (try clear hfz12_4); (try clear hfz12_5); (try clear hfz13_0); (try clear hfz13_1); (try clear hfz13_2); (try clear hfz13_3); (try clear hfz13_4); (try clear hfz13_5); (try clear hfz44_0); (try clear hfz44_1); (try clear hfz44_2); (try clear hfz44_3); (try clear hfz44_4); (try clear hfz44_5); (try clear hfz47_0); (try clear hfz47_1); (try clear hfz47_2); (try clear hfz47_3); (try clear hfz47_4); (try clear hfz47_5); (try clear hfz49_0); (try clear hfz49_1); (try clear hfz49_2); (try clear hfz49_3); (try clear hfz49_4); (try clear hfz49_5); (try clear hfz50_0); (try clear hfz50_1); (try clear hfz50_2); (try clear hfz50_3); (try clear hfz50_4); (try clear hfz50_5); (try clear hfz57_0); (try clear hfz57_1); (try clear hfz57_2); (try clear hfz57_3); (try clear hfz57_4); (try clear hfz57_5); (try clear hfz61_0); (try clear hfz61_1); (try clear hfz61_2); (try clear hfz61_3); (try clear hfz61_4); (try clear hfz61_5); (try clear hfz66_0); (try clear hfz66_1); (try clear hfz66_2); (try clear hfz66_3); (try clear hfz66_4); (try clear hfz66_5); (try clear p2)
     obtain ⟨kq, x90_23, rfl, HA, HJ23, BK488, BK489, BK492, BK493, HB⟩ := hcut
     cases kq with
     | zero => exact absurd HA.out (by simp [laws_FnDuties.j1])
     | succ kj23 =>
      have H := HA.out
      clear HA
      simp only [laws_FnDuties.j1] at H
      by_cases c68 : x90_23 = true
      ·subst c68
       have H1 : ((impl_ShipOk.f t476 t477 t478 t479 t480 t481).bind fun t496 => (if t496 = true then ((impl_ShipOk.f t482 t483 t484 t485 t486 t487).bind fun t497 => (some t497)) else (some false))) = some true := by rw [if_pos rfl] at H; exact H
       clear H
       have H := H1
       clear H1
       replace H := Option.bind_eq_some_iff.mp H
       obtain ⟨t496, A690, H⟩ := H
       replace H : (if t496 = true then ((impl_ShipOk.f t482 t483 t484 t485 t486 t487).bind fun t497 => (some t497)) else (some false)) = some true := H
       have A69 := Aside0.mk A690
       clear A690
       by_cases c70 : t496 = true
       ·subst c70
        have H1 : ((impl_ShipOk.f t482 t483 t484 t485 t486 t487).bind fun t497 => (some t497)) = some true := by rw [if_pos rfl] at H; exact H
        clear H
        have H := H1
        clear H1
        replace H := Option.bind_eq_some_iff.mp H
        obtain ⟨t497, A710, H⟩ := H
        replace H : (some t497) = some true := H
        have A71 := Aside0.mk A710
        clear A710
        obtain rfl := Option.some.inj H
        have hnb72 := NB488_489.out
        have hnc72 := NB489_488.out
        have hnb73 := NB488_492.out
        have hnc73 := NB492_488.out
        have hnb74 := NB488_493.out
        have hnc74 := NB493_488.out
        obtain ⟨hcz75_0, hcz75_1, hcz75_2, hcz75_3, hcz75_4, hcz75_5, hfz75_0, hfz75_1, hfz75_2, hfz75_3, hfz75_4, hfz75_5⟩ := six BK488
        go_wp2_with (first | ((with_reducible refine gate_callee (f := 17) rfl ?_); refine goesL_ (some 92) rfl rfl Try.func17 (by kernel_rfl) rfl #[.agg #[.int .i64 t476, .int .i64 t477, .int .i64 t478, .int .i64 t479, .int .i64 t480, .int .i64 t481]] rfl (by (try simp only [List.map_toArray, List.map_cons, List.map_nil]); first | done | rfl) ?_; (with_reducible refine (impl_ShipOk.calls t476 t477 t478 t479 t480 t481 true _ A69.out).mono ?_); rintro e w76 ⟨rfl, hb⟩; refine ⟨_, rfl, ?_⟩; replace BK488 := Aside0.mk (blk_below (g := gb488) (up BK488) hb); replace BK489 := Aside0.mk (blk_below (g := gb489) (up BK489) hb); replace BK492 := Aside0.mk (blk_below (g := gb492) (up BK492) hb); replace BK493 := Aside0.mk (blk_below (g := gb493) (up BK493) hb); replace HB := Aside0.mk (below_step (by repeat (first | (with_reducible first | exact HB.out | apply below_alloc | apply pw_below_drewN | apply below_drew1 | refine below_set ?_ GE488.out | refine below_set ?_ GE489.out | refine below_set ?_ GE492.out | refine below_set ?_ GE493.out) | exact HB.out)) hb); (try clear hb); (try clear hb2); (try clear hk); (try clear hi); have hnb77 := NB489_492.out; have hnc77 := NB492_489.out; have hnb78 := NB489_493.out; have hnc78 := NB493_489.out; obtain ⟨hcz79_0, hcz79_1, hcz79_2, hcz79_3, hcz79_4, hcz79_5, hfz79_0, hfz79_1, hfz79_2, hfz79_3, hfz79_4, hfz79_5⟩ := six BK489) | (go_at_call 17; (with_reducible refine (impl_ShipOk.calls t482 t483 t484 t485 t486 t487 true _ A71.out).mono ?_); rintro e w80 ⟨rfl, hb⟩; replace BK488 := Aside0.mk (blk_below (g := gb488) (up BK488) hb); replace BK489 := Aside0.mk (blk_below (g := gb489) (up BK489) hb); replace BK492 := Aside0.mk (blk_below (g := gb492) (up BK492) hb); replace BK493 := Aside0.mk (blk_below (g := gb493) (up BK493) hb); replace HB := Aside0.mk (below_step (by repeat (first | (with_reducible first | exact HB.out | apply below_alloc | apply pw_below_drewN | apply below_drew1 | refine below_set ?_ GE488.out | refine below_set ?_ GE489.out | refine below_set ?_ GE492.out | refine below_set ?_ GE493.out) | exact HB.out)) hb); (try clear hb); (try clear hb2); (try clear hk); (try clear hi)))
        go_ret
        exact ⟨by first | rfl | (simp [errW_none, errW_some] <;> rfl) | (simp [*, errW_none, errW_some] <;> rfl), by repeat (first | (with_reducible first | exact HB.out | apply below_alloc | apply pw_below_drewN | apply below_drew1 | refine below_set ?_ GE488.out | refine below_set ?_ GE489.out | refine below_set ?_ GE492.out | refine below_set ?_ GE493.out) | exact HB.out)⟩
       ·replace c70 := Bool.eq_false_iff.mpr c70
        subst c70
        have H1 : (some false) = some true := by rw [if_neg (show ¬ (false = true) by decide)] at H; exact H
        clear H
        have H := H1
        clear H1
        cases H
      ·replace c68 := Bool.eq_false_iff.mpr c68
       subst c68
       have H1 : ((impl_Duties.f kj23 (([(⟨t476, t477, t478, t479, t480, t481⟩ : S25), (⟨t482, t483, t484, t485, t486, t487⟩ : S25)] : List (S25)))).bind fun bt501 => ((impl_Duty.f kj23 (wrap64 (Int.tdiv (wrap64 (-t477)) 2)) (wrap64 (Int.tdiv t476 2)) (wrap64 (-t479)) t478 t480 t481 (wrap64 ((wrap64 (Int.tdiv (wrap64 (-t477)) 2)) - (wrap64 (t483 - t477)))) (wrap64 ((wrap64 (Int.tdiv t476 2)) + (wrap64 (t482 - t476)))) (wrap64 (-t485)) t484 t486 t487).bind fun t505 => (if t505 = t490 then ((impl_Duty.f kj23 (wrap64 ((wrap64 (Int.tdiv (wrap64 (-t477)) 2)) - (wrap64 (t483 - t477)))) (wrap64 ((wrap64 (Int.tdiv t476 2)) + (wrap64 (t482 - t476)))) (wrap64 (-t485)) t484 t486 t487 (wrap64 (Int.tdiv (wrap64 (-t477)) 2)) (wrap64 (Int.tdiv t476 2)) (wrap64 (-t479)) t478 t480 t481).bind fun t506 => (if t506 = t491 then (if bt501.2 = true then (if (bt501.1.length : Int) = 2 then (if 0 < (bt501.1.length : Int) then (if ((rd_L3 bt501.1 0).length : Int) = 2 then (if 1 < (bt501.1.length : Int) then (if ((rd_L3 bt501.1 1).length : Int) = 2 then (if 1 < ((rd_L3 bt501.1 0).length : Int) then (if (rd (rd_L3 bt501.1 0) 1) = t490 then (if 0 < ((rd_L3 bt501.1 1).length : Int) then (if (rd (rd_L3 bt501.1 1) 0) = t491 then (if 0 < ((rd_L3 bt501.1 0).length : Int) then (some ((rd (rd_L3 bt501.1 0) 0) == 0)) else (none)) else (some false)) else (none)) else (some false)) else (none)) else (some false)) else (none)) else (some false)) else (none)) else (some false)) else (some false)) else (some false))) else (some false)))) = some true := by rw [if_neg (show ¬ (false = true) by decide)] at H; exact H
       clear H
       have H := H1
       clear H1
       obtain ⟨y498, hy498⟩ : ∃ y_ : List (S25), y_ = (([(⟨t476, t477, t478, t479, t480, t481⟩ : S25), (⟨t482, t483, t484, t485, t486, t487⟩ : S25)] : List (S25))) := ⟨_, rfl⟩
       replace H : ((impl_Duties.f kj23 y498).bind fun bt501 => ((impl_Duty.f kj23 (wrap64 (Int.tdiv (wrap64 (-t477)) 2)) (wrap64 (Int.tdiv t476 2)) (wrap64 (-t479)) t478 t480 t481 (wrap64 ((wrap64 (Int.tdiv (wrap64 (-t477)) 2)) - (wrap64 (t483 - t477)))) (wrap64 ((wrap64 (Int.tdiv t476 2)) + (wrap64 (t482 - t476)))) (wrap64 (-t485)) t484 t486 t487).bind fun t505 => (if t505 = t490 then ((impl_Duty.f kj23 (wrap64 ((wrap64 (Int.tdiv (wrap64 (-t477)) 2)) - (wrap64 (t483 - t477)))) (wrap64 ((wrap64 (Int.tdiv t476 2)) + (wrap64 (t482 - t476)))) (wrap64 (-t485)) t484 t486 t487 (wrap64 (Int.tdiv (wrap64 (-t477)) 2)) (wrap64 (Int.tdiv t476 2)) (wrap64 (-t479)) t478 t480 t481).bind fun t506 => (if t506 = t491 then (if bt501.2 = true then (if (bt501.1.length : Int) = 2 then (if 0 < (bt501.1.length : Int) then (if ((rd_L3 bt501.1 0).length : Int) = 2 then (if 1 < (bt501.1.length : Int) then (if ((rd_L3 bt501.1 1).length : Int) = 2 then (if 1 < ((rd_L3 bt501.1 0).length : Int) then (if (rd (rd_L3 bt501.1 0) 1) = t490 then (if 0 < ((rd_L3 bt501.1 1).length : Int) then (if (rd (rd_L3 bt501.1 1) 0) = t491 then (if 0 < ((rd_L3 bt501.1 0).length : Int) then (some ((rd (rd_L3 bt501.1 0) 0) == 0)) else (none)) else (some false)) else (none)) else (some false)) else (none)) else (some false)) else (none)) else (some false)) else (none)) else (some false)) else (some false)) else (some false))) else (some false)))) = some true := by first | (rw [hy498]; with_reducible exact H) | (have H2_ := (Option.bind_some _ _).symm.trans H; rw [hy498]; with_reducible exact H2_) | (have H2_ := (Option.bind_some _ _).symm.trans H; with_reducible exact H2_) | with_reducible exact H | (rw [hy498]; exact H) | exact H
       have Ny498 := Aside0.mk hy498
       clear hy498
       replace H := Option.bind_eq_some_iff.mp H
       obtain ⟨⟨t501, t502⟩, A860, H⟩ := H
       replace H : ((impl_Duty.f kj23 (wrap64 (Int.tdiv (wrap64 (-t477)) 2)) (wrap64 (Int.tdiv t476 2)) (wrap64 (-t479)) t478 t480 t481 (wrap64 ((wrap64 (Int.tdiv (wrap64 (-t477)) 2)) - (wrap64 (t483 - t477)))) (wrap64 ((wrap64 (Int.tdiv t476 2)) + (wrap64 (t482 - t476)))) (wrap64 (-t485)) t484 t486 t487).bind fun t505 => (if t505 = t490 then ((impl_Duty.f kj23 (wrap64 ((wrap64 (Int.tdiv (wrap64 (-t477)) 2)) - (wrap64 (t483 - t477)))) (wrap64 ((wrap64 (Int.tdiv t476 2)) + (wrap64 (t482 - t476)))) (wrap64 (-t485)) t484 t486 t487 (wrap64 (Int.tdiv (wrap64 (-t477)) 2)) (wrap64 (Int.tdiv t476 2)) (wrap64 (-t479)) t478 t480 t481).bind fun t506 => (if t506 = t491 then (if t502 = true then (if (t501.length : Int) = 2 then (if 0 < (t501.length : Int) then (if ((rd_L3 t501 0).length : Int) = 2 then (if 1 < (t501.length : Int) then (if ((rd_L3 t501 1).length : Int) = 2 then (if 1 < ((rd_L3 t501 0).length : Int) then (if (rd (rd_L3 t501 0) 1) = t490 then (if 0 < ((rd_L3 t501 1).length : Int) then (if (rd (rd_L3 t501 1) 0) = t491 then (if 0 < ((rd_L3 t501 0).length : Int) then (some ((rd (rd_L3 t501 0) 0) == 0)) else (none)) else (some false)) else (none)) else (some false)) else (none)) else (some false)) else (none)) else (some false)) else (none)) else (some false)) else (some false)) else (some false))) else (some false))) = some true := H
       have A86 := Aside0.mk A860
       clear A860
       replace H := Option.bind_eq_some_iff.mp H
       obtain ⟨t505, A870, H⟩ := H
       replace H : (if t505 = t490 then ((impl_Duty.f kj23 (wrap64 ((wrap64 (Int.tdiv (wrap64 (-t477)) 2)) - (wrap64 (t483 - t477)))) (wrap64 ((wrap64 (Int.tdiv t476 2)) + (wrap64 (t482 - t476)))) (wrap64 (-t485)) t484 t486 t487 (wrap64 (Int.tdiv (wrap64 (-t477)) 2)) (wrap64 (Int.tdiv t476 2)) (wrap64 (-t479)) t478 t480 t481).bind fun t506 => (if t506 = t491 then (if t502 = true then (if (t501.length : Int) = 2 then (if 0 < (t501.length : Int) then (if ((rd_L3 t501 0).length : Int) = 2 then (if 1 < (t501.length : Int) then (if ((rd_L3 t501 1).length : Int) = 2 then (if 1 < ((rd_L3 t501 0).length : Int) then (if (rd (rd_L3 t501 0) 1) = t490 then (if 0 < ((rd_L3 t501 1).length : Int) then (if (rd (rd_L3 t501 1) 0) = t491 then (if 0 < ((rd_L3 t501 0).length : Int) then (some ((rd (rd_L3 t501 0) 0) == 0)) else (none)) else (some false)) else (none)) else (some false)) else (none)) else (some false)) else (none)) else (some false)) else (none)) else (some false)) else (some false)) else (some false))) else (some false)) = some true := H
       have A87 := Aside0.mk A870
       clear A870
       by_cases c88 : t505 = t490
       ·rw [if_pos c88] at H
        have c88b0 : (t505 == t490) = true := beq_iff_eq.mpr c88
        have c88b1 : (t505 != t490) = false := bne_eq_false_iff_eq.mpr c88
        clear c88
        replace H := Option.bind_eq_some_iff.mp H
        obtain ⟨t506, A890, H⟩ := H
        replace H : (if t506 = t491 then (if t502 = true then (if (t501.length : Int) = 2 then (if 0 < (t501.length : Int) then (if ((rd_L3 t501 0).length : Int) = 2 then (if 1 < (t501.length : Int) then (if ((rd_L3 t501 1).length : Int) = 2 then (if 1 < ((rd_L3 t501 0).length : Int) then (if (rd (rd_L3 t501 0) 1) = t490 then (if 0 < ((rd_L3 t501 1).length : Int) then (if (rd (rd_L3 t501 1) 0) = t491 then (if 0 < ((rd_L3 t501 0).length : Int) then (some ((rd (rd_L3 t501 0) 0) == 0)) else (none)) else (some false)) else (none)) else (some false)) else (none)) else (some false)) else (none)) else (some false)) else (none)) else (some false)) else (some false)) else (some false)) = some true := H
        have A89 := Aside0.mk A890
        clear A890
        by_cases c90 : t506 = t491
        ·rw [if_pos c90] at H
         have c90b0 : (t506 == t491) = true := beq_iff_eq.mpr c90
         have c90b1 : (t506 != t491) = false := bne_eq_false_iff_eq.mpr c90
         clear c90
         by_cases c91 : t502 = true
         ·subst c91
          have H1 : (if (t501.length : Int) = 2 then (if 0 < (t501.length : Int) then (if ((rd_L3 t501 0).length : Int) = 2 then (if 1 < (t501.length : Int) then (if ((rd_L3 t501 1).length : Int) = 2 then (if 1 < ((rd_L3 t501 0).length : Int) then (if (rd (rd_L3 t501 0) 1) = t490 then (if 0 < ((rd_L3 t501 1).length : Int) then (if (rd (rd_L3 t501 1) 0) = t491 then (if 0 < ((rd_L3 t501 0).length : Int) then (some ((rd (rd_L3 t501 0) 0) == 0)) else (none)) else (some false)) else (none)) else (some false)) else (none)) else (some false)) else (none)) else (some false)) else (none)) else (some false)) = some true := by rw [if_pos rfl] at H; exact H
          clear H
          have H := H1
          clear H1
          by_cases c92 : (t501.length : Int) = 2
          ·rw [if_pos c92] at H
           have c92b0 : ((t501.length : Int) == 2) = true := beq_iff_eq.mpr c92
           have c92b1 : ((t501.length : Int) != 2) = false := bne_eq_false_iff_eq.mpr c92
           clear c92
           by_cases c93 : 0 < (t501.length : Int)
           ·rw [if_pos c93] at H
            have c93b0 : decide (0 < (t501.length : Int)) = true := decide_eq_true c93
            have c93b1 : decide (0 < t501.length) = true := decide_eq_true (by omega)
            clear c93
            by_cases c94 : ((rd_L3 t501 0).length : Int) = 2
            ·rw [if_pos c94] at H
             have c94b0 : (((rd_L3 t501 0).length : Int) == 2) = true := beq_iff_eq.mpr c94
             have c94b1 : (((rd_L3 t501 0).length : Int) != 2) = false := bne_eq_false_iff_eq.mpr c94
             clear c94
             by_cases c95 : 1 < (t501.length : Int)
             ·rw [if_pos c95] at H
              have c95b0 : decide (1 < (t501.length : Int)) = true := decide_eq_true c95
              have c95b1 : decide (1 < t501.length) = true := decide_eq_true (by omega)
              clear c95
              by_cases c96 : ((rd_L3 t501 1).length : Int) = 2
              ·rw [if_pos c96] at H
               have c96b0 : (((rd_L3 t501 1).length : Int) == 2) = true := beq_iff_eq.mpr c96
               have c96b1 : (((rd_L3 t501 1).length : Int) != 2) = false := bne_eq_false_iff_eq.mpr c96
               clear c96
               by_cases c97 : 1 < ((rd_L3 t501 0).length : Int)
               ·rw [if_pos c97] at H
                have c97b0 : decide (1 < ((rd_L3 t501 0).length : Int)) = true := decide_eq_true c97
                have c97b1 : decide (1 < (rd_L3 t501 0).length) = true := decide_eq_true (by omega)
                clear c97
                by_cases c98 : (rd (rd_L3 t501 0) 1) = t490
                ·rw [if_pos c98] at H
                 have c98b0 : ((rd (rd_L3 t501 0) 1) == t490) = true := beq_iff_eq.mpr c98
                 have c98b1 : ((rd (rd_L3 t501 0) 1) != t490) = false := bne_eq_false_iff_eq.mpr c98
                 clear c98
                 by_cases c99 : 0 < ((rd_L3 t501 1).length : Int)
                 ·rw [if_pos c99] at H
                  have c99b0 : decide (0 < ((rd_L3 t501 1).length : Int)) = true := decide_eq_true c99
                  have c99b1 : decide (0 < (rd_L3 t501 1).length) = true := decide_eq_true (by omega)
                  clear c99
                  by_cases c100 : (rd (rd_L3 t501 1) 0) = t491
                  ·rw [if_pos c100] at H
                   have c100b0 : ((rd (rd_L3 t501 1) 0) == t491) = true := beq_iff_eq.mpr c100
                   have c100b1 : ((rd (rd_L3 t501 1) 0) != t491) = false := bne_eq_false_iff_eq.mpr c100
                   clear c100
                   by_cases c101 : 0 < ((rd_L3 t501 0).length : Int)
                   ·rw [if_pos c101] at H
                    have c101b0 : decide (0 < ((rd_L3 t501 0).length : Int)) = true := decide_eq_true c101
                    have c101b1 : decide (0 < (rd_L3 t501 0).length) = true := decide_eq_true (by omega)
                    clear c101
                    have hv := Option.some.inj H
                    have hnb102 := NB488_489.out
                    have hnc102 := NB489_488.out
                    have hnb103 := NB488_492.out
                    have hnc103 := NB492_488.out
                    have hnb104 := NB488_493.out
                    have hnc104 := NB493_488.out
                    obtain ⟨hcz105_0, hcz105_1, hcz105_2, hcz105_3, hcz105_4, hcz105_5, hfz105_0, hfz105_1, hfz105_2, hfz105_3, hfz105_4, hfz105_5⟩ := six BK488
                    have hnb106 := NB489_492.out
                    have hnc106 := NB492_489.out
                    have hnb107 := NB489_493.out
                    have hnc107 := NB493_489.out
                    obtain ⟨hcz108_0, hcz108_1, hcz108_2, hcz108_3, hcz108_4, hcz108_5, hfz108_0, hfz108_1, hfz108_2, hfz108_3, hfz108_4, hfz108_5⟩ := six BK489
                    go_wp2_with (first | ((with_reducible refine gate_dst (N := 100) rfl ?_); (try (refine gate_guard (by rfl) ?_; dsimp only)); refine Kd.R_lit k25 _ 25 ?hg (N := 100) ?hd (xs := ([(⟨t476, t477, t478, t479, t480, t481⟩ : S25), (⟨t482, t483, t484, t485, t486, t487⟩ : S25)] : List (S25))) (inner := [.int .i64 t476, .int .i64 t477, .int .i64 t478, .int .i64 t479, .int .i64 t480, .int .i64 t481, .int .i64 t482, .int .i64 t483, .int .i64 t484, .int .i64 t485, .int .i64 t486, .int .i64 t487]) (ok := fun _ => True) (okp := fun _ => True) ?hr ?hp (fun _ hk => hk) trivial (Below.refl _ _) (Nat.le_refl _) (by simp) ?_; (case hd => rfl); (case hg => rfl); (case hr => first | (go_simp; done) | (go_simp; rfl)); (case hp => exact (Reps.c6 (show Kd.M k25 _ _ _ (⟨t476, t477, t478, t479, t480, t481⟩ : S25) [.int .i64 t476, .int .i64 t477, .int .i64 t478, .int .i64 t479, .int .i64 t480, .int .i64 t481] from (k25_mkM _ _ _ (⟨t476, t477, t478, t479, t480, t481⟩ : S25) )) (Reps.c6 (show Kd.M k25 _ _ _ (⟨t482, t483, t484, t485, t486, t487⟩ : S25) [.int .i64 t482, .int .i64 t483, .int .i64 t484, .int .i64 t485, .int .i64 t486, .int .i64 t487] from (k25_mkM _ _ _ (⟨t482, t483, t484, t485, t486, t487⟩ : S25) )) (Reps.none _ _)))); intro v499 w109 ho110 hb hg_ hnew_; clear hg_ hnew_; (first | rw [← Ny498.out] at ho110 | (simp only [Int.reduceToNat] at ho110; rw [← Ny498.out] at ho110)); replace HO500 := Aside0.mk (Kd.R_lower (Kd.R_newB (Kd.R_newB (Kd.R_newB (Kd.R_newB ho110 (g := gb488) (up BK488)) (g := gb489) (up BK489)) (g := gb492) (up BK492)) (g := gb493) (up BK493)) (below_size (by repeat (first | (with_reducible first | exact HB.out | apply below_alloc | apply pw_below_drewN | apply below_drew1 | refine below_set ?_ GE488.out | refine below_set ?_ GE489.out | refine below_set ?_ GE492.out | refine below_set ?_ GE493.out) | exact HB.out)))); replace BK488 := Aside0.mk (blk_below (g := gb488) (up BK488) hb); replace BK489 := Aside0.mk (blk_below (g := gb489) (up BK489) hb); replace BK492 := Aside0.mk (blk_below (g := gb492) (up BK492) hb); replace BK493 := Aside0.mk (blk_below (g := gb493) (up BK493) hb); replace HB := Aside0.mk (below_step (by repeat (first | (with_reducible first | exact HB.out | apply below_alloc | apply pw_below_drewN | apply below_drew1 | refine below_set ?_ GE488.out | refine below_set ?_ GE489.out | refine below_set ?_ GE492.out | refine below_set ?_ GE493.out) | exact HB.out)) hb); clear hb ho110; obtain ⟨Ao111, co111, eo111⟩ := Kd.R_slice HO500.out; subst eo111) | ((with_reducible refine gate_callee (f := 24) rfl ?_); refine goesL_ (some 101) rfl rfl Try.func24 (by kernel_rfl) rfl #[.slice Ao111 y498.length co111] rfl (by (try simp only [List.map_toArray, List.map_cons, List.map_nil]); first | done | rfl) ?_; (with_reducible refine (impl_Duties.calls kj23 _ _ y498 t501 true _ ?side1 ?side2 A86.out).mono ?_); (case side1 => repeat (first | exact (Kd.R_reads' HO500.out).2.2 | (with_reducible refine Kd.C_alloc ?_ _) | (with_reducible refine Kd.C_drewN ?_ _) | (with_reducible refine Kd.C_drew ?_))); (case side2 => exact (Kd.R_reads' HO500.out).2.1); rintro e w112 ⟨v503, rfl, ho0, hb⟩; refine ⟨_, rfl, ?_⟩; replace HO500 := Aside0.mk (Kd.R_below (by (with_reducible repeat (first | apply Kd.R_alloc | apply Kd.R_drewN | apply Kd.R_drew)); exact HO500.out) hb); replace HO504 := Aside0.mk (Kd.S_lower ho0 (below_size (by repeat (first | (with_reducible first | exact HB.out | apply below_alloc | apply pw_below_drewN | apply below_drew1 | refine below_set ?_ GE488.out | refine below_set ?_ GE489.out | refine below_set ?_ GE492.out | refine below_set ?_ GE493.out) | exact HB.out)))); replace BK488 := Aside0.mk (blk_below (g := gb488) (up BK488) hb); replace BK489 := Aside0.mk (blk_below (g := gb489) (up BK489) hb); replace BK492 := Aside0.mk (blk_below (g := gb492) (up BK492) hb); replace BK493 := Aside0.mk (blk_below (g := gb493) (up BK493) hb); replace HB := Aside0.mk (below_step (by repeat (first | (with_reducible first | exact HB.out | apply below_alloc | apply pw_below_drewN | apply below_drew1 | refine below_set ?_ GE488.out | refine below_set ?_ GE489.out | refine below_set ?_ GE492.out | refine below_set ?_ GE493.out) | exact HB.out)) hb); (try clear hb); (try clear hb2); (try clear hk); (try clear hi); (try clear ho0); have hnb113 := NB492_493.out; have hnc113 := NB493_492.out; obtain ⟨hcz114_0, hcz114_1, hcz114_2, hcz114_3, hcz114_4, hcz114_5, hfz114_0, hfz114_1, hfz114_2, hfz114_3, hfz114_4, hfz114_5⟩ := six BK492; obtain ⟨hcz115_0, hcz115_1, hcz115_2, hcz115_3, hcz115_4, hcz115_5, hfz115_0, hfz115_1, hfz115_2, hfz115_3, hfz115_4, hfz115_5⟩ := six BK493) | ((with_reducible refine gate_callee (f := 23) rfl ?_); refine goesL_ (some 106) rfl rfl Try.func23 (by kernel_rfl) rfl #[.agg #[.int .i64 (wrap64 (Int.tdiv (wrap64 (-t477)) 2)), .int .i64 (wrap64 (Int.tdiv t476 2)), .int .i64 (wrap64 (-t479)), .int .i64 t478, .int .i64 t480, .int .i64 t481], .agg #[.int .i64 (wrap64 ((wrap64 (Int.tdiv (wrap64 (-t477)) 2)) - (wrap64 (t483 - t477)))), .int .i64 (wrap64 ((wrap64 (Int.tdiv t476 2)) + (wrap64 (t482 - t476)))), .int .i64 (wrap64 (-t485)), .int .i64 t484, .int .i64 t486, .int .i64 t487]] rfl (by (try simp only [List.map_toArray, List.map_cons, List.map_nil]); first | done | rfl) ?_; (with_reducible refine (impl_Duty.calls kj23 (wrap64 (Int.tdiv (wrap64 (-t477)) 2)) (wrap64 (Int.tdiv t476 2)) (wrap64 (-t479)) t478 t480 t481 (wrap64 ((wrap64 (Int.tdiv (wrap64 (-t477)) 2)) - (wrap64 (t483 - t477)))) (wrap64 ((wrap64 (Int.tdiv t476 2)) + (wrap64 (t482 - t476)))) (wrap64 (-t485)) t484 t486 t487 t505 _ A87.out).mono ?_); rintro e w116 ⟨rfl, hb⟩; refine ⟨_, rfl, ?_⟩; replace HO500 := Aside0.mk (Kd.R_below (by (with_reducible repeat (first | apply Kd.R_alloc | apply Kd.R_drewN | apply Kd.R_drew)); exact HO500.out) hb); replace HO504 := Aside0.mk (Kd.S_below (by (with_reducible repeat (first | apply Kd.S_alloc | apply Kd.S_drewN | apply Kd.S_drew)); exact HO504.out) hb); replace BK488 := Aside0.mk (blk_below (g := gb488) (up BK488) hb); replace BK489 := Aside0.mk (blk_below (g := gb489) (up BK489) hb); replace BK492 := Aside0.mk (blk_below (g := gb492) (up BK492) hb); replace BK493 := Aside0.mk (blk_below (g := gb493) (up BK493) hb); replace HB := Aside0.mk (below_step (by repeat (first | (with_reducible first | exact HB.out | apply below_alloc | apply pw_below_drewN | apply below_drew1 | refine below_set ?_ GE488.out | refine below_set ?_ GE489.out | refine below_set ?_ GE492.out | refine below_set ?_ GE493.out) | exact HB.out)) hb); (try clear hb); (try clear hb2); (try clear hk); (try clear hi); obtain ⟨hcz117_0, hcz117_1, hcz117_2, hcz117_3, hcz117_4, hcz117_5, hfz117_0, hfz117_1, hfz117_2, hfz117_3, hfz117_4, hfz117_5⟩ := six BK493; obtain ⟨hcz118_0, hcz118_1, hcz118_2, hcz118_3, hcz118_4, hcz118_5, hfz118_0, hfz118_1, hfz118_2, hfz118_3, hfz118_4, hfz118_5⟩ := six BK492) | (go_at_call 23; (with_reducible refine (impl_Duty.calls kj23 (wrap64 ((wrap64 (Int.tdiv (wrap64 (-t477)) 2)) - (wrap64 (t483 - t477)))) (wrap64 ((wrap64 (Int.tdiv t476 2)) + (wrap64 (t482 - t476)))) (wrap64 (-t485)) t484 t486 t487 (wrap64 (Int.tdiv (wrap64 (-t477)) 2)) (wrap64 (Int.tdiv t476 2)) (wrap64 (-t479)) t478 t480 t481 t506 _ A89.out).mono ?_); rintro e w119 ⟨rfl, hb⟩; replace HO500 := Aside0.mk (Kd.R_below (by (with_reducible repeat (first | apply Kd.R_alloc | apply Kd.R_drewN | apply Kd.R_drew)); exact HO500.out) hb); replace HO504 := Aside0.mk (Kd.S_below (by (with_reducible repeat (first | apply Kd.S_alloc | apply Kd.S_drewN | apply Kd.S_drew)); exact HO504.out) hb); replace BK488 := Aside0.mk (blk_below (g := gb488) (up BK488) hb); replace BK489 := Aside0.mk (blk_below (g := gb489) (up BK489) hb); replace BK492 := Aside0.mk (blk_below (g := gb492) (up BK492) hb); replace BK493 := Aside0.mk (blk_below (g := gb493) (up BK493) hb); replace HB := Aside0.mk (below_step (by repeat (first | (with_reducible first | exact HB.out | apply below_alloc | apply pw_below_drewN | apply below_drew1 | refine below_set ?_ GE488.out | refine below_set ?_ GE489.out | refine below_set ?_ GE492.out | refine below_set ?_ GE493.out) | exact HB.out)) hb); (try clear hb); (try clear hb2); (try clear hk); (try clear hi); obtain ⟨Ao120, co120, eo120⟩ := Kd.S_slice HO504.out; subst eo120; have p507 : 0 ≤ (0 : Int) := (by omega); have q507 : 0 < (t501.length : Int) := of_decide_eq_true (by first | (with_reducible assumption) | assumption); obtain ⟨ad507, A507_0, c507_0, e507, hx507_0, hl507_0, hi507_0⟩ := at_L3 (Kd.S_reads' HO504.out).2.2 0 p507 q507; cases e507; obtain ⟨ce507, hce507, hMe507, hcc507⟩ := Kd.S_get HO504.out [] 0 p507 (by first | exact q507 | exact of_decide_eq_true (by first | (with_reducible assumption) | assumption) | (have e_ := (Kd.S_reads' HO504.out).1; omega)); obtain ⟨ve507_0, rfl, ge507_0⟩ := hMe507; have hv507_0 := hcc507 0 _ rfl; rw [Nat.add_zero, show ((Kd.slice 3 (Kd.int .i64))).sz = 1 from rfl, Nat.mul_one] at hv507_0; replace hv507_0 := Option.some.inj (hv507_0.symm.trans hx507_0); rw [hv507_0] at ge507_0; have HL507_0 := Aside0.mk (show Kd.R (Kd.int .i64) 3 _ _ _ _ (rd_L3 t501 0) from ge507_0); clear hv507_0 ge507_0; clear hcc507 hce507; have qi507 : (0 < t501.length) = True := eq_true (by omega); (try rw [show ((0 : Int)).toNat = 0 from rfl] at hx507_0); (try rw [Addr.add_zero'] at hx507_0); have HR507_0 := Aside0.mk hi507_0; have HC507_0 := Aside0.mk hl507_0; clear hi507_0 hl507_0; replace p507 := eq_true p507; replace q507 := eq_true q507; have p508 : 0 ≤ (1 : Int) := (by omega); have q508 : 1 < (t501.length : Int) := of_decide_eq_true (by first | (with_reducible assumption) | assumption); obtain ⟨ad508, A508_0, c508_0, e508, hx508_0, hl508_0, hi508_0⟩ := at_L3 (Kd.S_reads' HO504.out).2.2 1 p508 q508; obtain rfl : ad507 = ad508 := (by injection e508); obtain ⟨ce508, hce508, hMe508, hcc508⟩ := Kd.S_get HO504.out [] 1 p508 (by first | exact q508 | exact of_decide_eq_true (by first | (with_reducible assumption) | assumption) | (have e_ := (Kd.S_reads' HO504.out).1; omega)); obtain ⟨ve508_0, rfl, ge508_0⟩ := hMe508; have hv508_0 := hcc508 0 _ rfl; rw [Nat.add_zero, show ((Kd.slice 3 (Kd.int .i64))).sz = 1 from rfl, Nat.mul_one] at hv508_0; replace hv508_0 := Option.some.inj (hv508_0.symm.trans hx508_0); rw [hv508_0] at ge508_0; have HL508_0 := Aside0.mk (show Kd.R (Kd.int .i64) 3 _ _ _ _ (rd_L3 t501 1) from ge508_0); clear hv508_0 ge508_0; clear hcc508 hce508; (try simp only [show (1 : Int).toNat = 1 from rfl, Nat.reduceMul, Nat.reduceEqDiff, Go.Addr.add, ↓reduceIte] at hx508_0); have qi508 : (1 < t501.length) = True := eq_true (by omega); (try rw [show ((1 : Int)).toNat = 1 from rfl] at hx508_0); have HR508_0 := Aside0.mk hi508_0; have HC508_0 := Aside0.mk hl508_0; clear hi508_0 hl508_0; replace p508 := eq_true p508; replace q508 := eq_true q508; have p509 : 0 ≤ (0 : Int) := (by omega); have q509 : 0 < (t501.length : Int) := of_decide_eq_true (by first | (with_reducible assumption) | assumption); obtain ⟨ad509, A509_0, c509_0, e509, hx509_0, hl509_0, hi509_0⟩ := at_L3 (Kd.S_reads' HO504.out).2.2 0 p509 q509; obtain rfl : ad507 = ad509 := (by injection e509); obtain ⟨ce509, hce509, hMe509, hcc509⟩ := Kd.S_get HO504.out [] 0 p509 (by first | exact q509 | exact of_decide_eq_true (by first | (with_reducible assumption) | assumption) | (have e_ := (Kd.S_reads' HO504.out).1; omega)); obtain ⟨ve509_0, rfl, ge509_0⟩ := hMe509; have hv509_0 := hcc509 0 _ rfl; rw [Nat.add_zero, show ((Kd.slice 3 (Kd.int .i64))).sz = 1 from rfl, Nat.mul_one] at hv509_0; replace hv509_0 := Option.some.inj (hv509_0.symm.trans hx509_0); rw [hv509_0] at ge509_0; have HL509_0 := Aside0.mk (show Kd.R (Kd.int .i64) 3 _ _ _ _ (rd_L3 t501 0) from ge509_0); clear hv509_0 ge509_0; clear hcc509 hce509; have qi509 : (0 < t501.length) = True := eq_true (by omega); (try rw [show ((0 : Int)).toNat = 0 from rfl] at hx509_0); (try rw [Addr.add_zero'] at hx509_0); have HR509_0 := Aside0.mk hi509_0; have HC509_0 := Aside0.mk hl509_0; clear hi509_0 hl509_0; replace p509 := eq_true p509; replace q509 := eq_true q509; have ea_ := Option.some.inj (hx507_0.symm.trans hx509_0); injection ea_ with ea_ en_ ec_; subst ea_; subst ec_; clear en_; have p510 : 0 ≤ (1 : Int) := (by omega); have q510 : 1 < ((rd_L3 t501 0).length : Int) := of_decide_eq_true (by first | (with_reducible assumption) | assumption); obtain ⟨ad510, e510, hx510_0⟩ := Kd.at_int (by repeat (first | (with_reducible exact HR509_0.out) | (with_reducible refine Kd.C_alloc ?_ _) | (with_reducible refine Kd.C_drewN ?_ _) | (with_reducible refine Kd.C_drew ?_) | exact HR509_0.out)) 1 p510 q510; cases e510; (try simp only [show (1 : Int).toNat = 1 from rfl, Nat.reduceMul, Nat.reduceEqDiff, Go.Addr.add, ↓reduceIte] at hx510_0); have qi510 : (1 < (rd_L3 t501 0).length) = True := eq_true (by omega); (try rw [show ((1 : Int)).toNat = 1 from rfl] at hx510_0); replace p510 := eq_true p510; replace q510 := eq_true q510; have p511 : 0 ≤ (1 : Int) := (by omega); have q511 : 1 < (t501.length : Int) := of_decide_eq_true (by first | (with_reducible assumption) | assumption); obtain ⟨ad511, A511_0, c511_0, e511, hx511_0, hl511_0, hi511_0⟩ := at_L3 (Kd.S_reads' HO504.out).2.2 1 p511 q511; obtain rfl : ad507 = ad511 := (by injection e511); obtain ⟨ce511, hce511, hMe511, hcc511⟩ := Kd.S_get HO504.out [] 1 p511 (by first | exact q511 | exact of_decide_eq_true (by first | (with_reducible assumption) | assumption) | (have e_ := (Kd.S_reads' HO504.out).1; omega)); obtain ⟨ve511_0, rfl, ge511_0⟩ := hMe511; have hv511_0 := hcc511 0 _ rfl; rw [Nat.add_zero, show ((Kd.slice 3 (Kd.int .i64))).sz = 1 from rfl, Nat.mul_one] at hv511_0; replace hv511_0 := Option.some.inj (hv511_0.symm.trans hx511_0); rw [hv511_0] at ge511_0; have HL511_0 := Aside0.mk (show Kd.R (Kd.int .i64) 3 _ _ _ _ (rd_L3 t501 1) from ge511_0); clear hv511_0 ge511_0; clear hcc511 hce511; (try simp only [show (1 : Int).toNat = 1 from rfl, Nat.reduceMul, Nat.reduceEqDiff, Go.Addr.add, ↓reduceIte] at hx511_0); have qi511 : (1 < t501.length) = True := eq_true (by omega); (try rw [show ((1 : Int)).toNat = 1 from rfl] at hx511_0); have HR511_0 := Aside0.mk hi511_0; have HC511_0 := Aside0.mk hl511_0; clear hi511_0 hl511_0; replace p511 := eq_true p511; replace q511 := eq_true q511; have ea_ := Option.some.inj (hx508_0.symm.trans hx511_0); injection ea_ with ea_ en_ ec_; subst ea_; subst ec_; clear en_; have p512 : 0 ≤ (0 : Int) := (by omega); have q512 : 0 < ((rd_L3 t501 1).length : Int) := of_decide_eq_true (by first | (with_reducible assumption) | assumption); obtain ⟨ad512, e512, hx512_0⟩ := Kd.at_int (by repeat (first | (with_reducible exact HR511_0.out) | (with_reducible refine Kd.C_alloc ?_ _) | (with_reducible refine Kd.C_drewN ?_ _) | (with_reducible refine Kd.C_drew ?_) | exact HR511_0.out)) 0 p512 q512; cases e512; have qi512 : (0 < (rd_L3 t501 1).length) = True := eq_true (by omega); (try rw [show ((0 : Int)).toNat = 0 from rfl] at hx512_0); (try rw [Addr.add_zero'] at hx512_0); replace p512 := eq_true p512; replace q512 := eq_true q512; have p513 : 0 ≤ (0 : Int) := (by omega); have q513 : 0 < (t501.length : Int) := of_decide_eq_true (by first | (with_reducible assumption) | assumption); obtain ⟨ad513, A513_0, c513_0, e513, hx513_0, hl513_0, hi513_0⟩ := at_L3 (Kd.S_reads' HO504.out).2.2 0 p513 q513; obtain rfl : ad507 = ad513 := (by injection e513); obtain ⟨ce513, hce513, hMe513, hcc513⟩ := Kd.S_get HO504.out [] 0 p513 (by first | exact q513 | exact of_decide_eq_true (by first | (with_reducible assumption) | assumption) | (have e_ := (Kd.S_reads' HO504.out).1; omega)); obtain ⟨ve513_0, rfl, ge513_0⟩ := hMe513; have hv513_0 := hcc513 0 _ rfl; rw [Nat.add_zero, show ((Kd.slice 3 (Kd.int .i64))).sz = 1 from rfl, Nat.mul_one] at hv513_0; replace hv513_0 := Option.some.inj (hv513_0.symm.trans hx513_0); rw [hv513_0] at ge513_0; have HL513_0 := Aside0.mk (show Kd.R (Kd.int .i64) 3 _ _ _ _ (rd_L3 t501 0) from ge513_0); clear hv513_0 ge513_0; clear hcc513 hce513; have qi513 : (0 < t501.length) = True := eq_true (by omega); (try rw [show ((0 : Int)).toNat = 0 from rfl] at hx513_0); (try rw [Addr.add_zero'] at hx513_0); have HR513_0 := Aside0.mk hi513_0; have HC513_0 := Aside0.mk hl513_0; clear hi513_0 hl513_0; replace p513 := eq_true p513; replace q513 := eq_true q513; have ea_ := Option.some.inj (hx507_0.symm.trans hx513_0); injection ea_ with ea_ en_ ec_; subst ea_; subst ec_; clear en_; have p514 : 0 ≤ (0 : Int) := (by omega); have q514 : 0 < ((rd_L3 t501 0).length : Int) := of_decide_eq_true (by first | (with_reducible assumption) | assumption); obtain ⟨ad514, e514, hx514_0⟩ := Kd.at_int (by repeat (first | (with_reducible exact HR513_0.out) | (with_reducible refine Kd.C_alloc ?_ _) | (with_reducible refine Kd.C_drewN ?_ _) | (with_reducible refine Kd.C_drew ?_) | exact HR513_0.out)) 0 p514 q514; cases e514; have qi514 : (0 < (rd_L3 t501 0).length) = True := eq_true (by omega); (try rw [show ((0 : Int)).toNat = 0 from rfl] at hx514_0); (try rw [Addr.add_zero'] at hx514_0); replace p514 := eq_true p514; replace q514 := eq_true q514))
                    go_ret
                    exact ⟨by first | rfl | (simp [errW_none, errW_some] <;> rfl) | (simp [*, errW_none, errW_some] <;> rfl), by repeat (first | (with_reducible first | exact HB.out | apply below_alloc | apply pw_below_drewN | apply below_drew1 | refine below_set ?_ GE488.out | refine below_set ?_ GE489.out | refine below_set ?_ GE492.out | refine below_set ?_ GE493.out) | exact HB.out)⟩
                   ·rw [if_neg c101] at H
                    exact absurd H (by simp)
                  ·rw [if_neg c100] at H
                   have c100b0 : ((rd (rd_L3 t501 1) 0) == t491) = false := beq_eq_false_iff_ne.mpr c100
                   have c100b1 : ((rd (rd_L3 t501 1) 0) != t491) = true := bne_iff_ne.mpr c100
                   cases H
                 ·rw [if_neg c99] at H
                  exact absurd H (by simp)
                ·rw [if_neg c98] at H
                 have c98b0 : ((rd (rd_L3 t501 0) 1) == t490) = false := beq_eq_false_iff_ne.mpr c98
                 have c98b1 : ((rd (rd_L3 t501 0) 1) != t490) = true := bne_iff_ne.mpr c98
                 cases H
               ·rw [if_neg c97] at H
                exact absurd H (by simp)
              ·rw [if_neg c96] at H
               have c96b0 : (((rd_L3 t501 1).length : Int) == 2) = false := beq_eq_false_iff_ne.mpr c96
               have c96b1 : (((rd_L3 t501 1).length : Int) != 2) = true := bne_iff_ne.mpr c96
               cases H
             ·rw [if_neg c95] at H
              exact absurd H (by simp)
            ·rw [if_neg c94] at H
             have c94b0 : (((rd_L3 t501 0).length : Int) == 2) = false := beq_eq_false_iff_ne.mpr c94
             have c94b1 : (((rd_L3 t501 0).length : Int) != 2) = true := bne_iff_ne.mpr c94
             cases H
           ·rw [if_neg c93] at H
            exact absurd H (by simp)
          ·rw [if_neg c92] at H
           have c92b0 : ((t501.length : Int) == 2) = false := beq_eq_false_iff_ne.mpr c92
           have c92b1 : ((t501.length : Int) != 2) = true := bne_iff_ne.mpr c92
           cases H
         ·replace c91 := Bool.eq_false_iff.mpr c91
          subst c91
          have H1 : (some false) = some true := by rw [if_neg (show ¬ (false = true) by decide)] at H; exact H
          clear H
          have H := H1
          clear H1
          cases H
        ·rw [if_neg c90] at H
         have c90b0 : (t506 == t491) = false := beq_eq_false_iff_ne.mpr c90
         have c90b1 : (t506 != t491) = true := bne_iff_ne.mpr c90
         cases H
       ·rw [if_neg c88] at H
        have c88b0 : (t505 == t490) = false := beq_eq_false_iff_ne.mpr c88
        have c88b1 : (t505 != t490) = true := bne_iff_ne.mpr c88
        cases H
/-- THE ONE PURE STATEMENT of laws_FnDuties: yours. -/
def laws_FnDuties.Pure : Prop := ∀ (l0 : List Int), l0.length ≤ maxLen → l0.length * 1 ≤ 140737488351232 → (∀ x ∈ l0, (Lit.int .u8 x).wf = true) → ∃ k, laws_FnDuties.f k l0 = some true
theorem laws_FnDuties.walk (P : laws_FnDuties.Pure) (a0 : Option Addr) (len0 cap0 : Nat) (z0 : List Int) (w : World) (w0 : (a0 = none ∧ len0 = 0 ∧ cap0 = 0 ∧ z0 = []) ∨ ∃ x, a0 = some x ∧ len0 ≤ cap0 ∧ cap0 ≤ maxLen ∧ z0.length = cap0 ∧ (∀ i, i < z0.length → w.cell? (x.add i) = some (.int .u8 (z0.getD i 0))) ∧ ∀ n ∈ z0, (Lit.int .u8 n).wf = true) (y0 : len0 * 1 ≤ 140737488351232) :
  Calls Try.prog 5 #[.slice a0 len0 cap0] w fun e w' => e = .returned (.bool true) ∧ Below w.heap.size w w' := by
 obtain ⟨l0, rfl, hr0, hm0, hw0, hc0⟩ := ReadsInt.ofRowC w0
 obtain ⟨k, h⟩ := P l0 hm0 y0 hw0
 refine (laws_FnDuties.calls k _ _ l0 w (Kd.C_of_reads (d := (0 : Int)) (h1 := fun _ => rfl) hr0) hc0 h).mono ?_
 rintro e w' ⟨rfl, hd⟩
 exact ⟨rfl, hd⟩

end Go.Proofs.Ytfbokdbaondjdaa.PV1
/- Plain words of ships and of whole numbers. -/
namespace Go.Proofs.Ytfbokdbaondjdaa.Bq
open Go Go.RowKit Go.Proofs.Ytfbokdbaondjdaa.PV1 Go.Proofs.YtfbokdbaondjdaaW.PrintWords
set_option linter.unusedVariables false
theorem Ev.ret {α : Type} {g : Nat → Option α} {r : α} (h : ∀ k, g (k + 1) = some r) : Ev g r := ⟨1, fun k hk => by obtain ⟨m, rfl⟩ : ∃ m, k = m + 1 := ⟨k - 1, by omega⟩; exact h m⟩
theorem Ev.const {α : Type} {g : Nat → Option α} {r : α} (h : ∀ k, g k = some r) : Ev g r := ⟨0, fun k _ => h k⟩
theorem beh_in (a b c : Int) : spec_l1In.f a b c = some (decide (b ≤ a ∧ a ≤ c)) := by
  unfold spec_l1In.f
  by_cases h : b ≤ a
  · rw [if_pos h]; simp [h]
  · rw [if_neg h]; simp [h]
theorem beh_in' (a b c : Int) : impl_in.f a b c = some (decide (b ≤ a ∧ a ≤ c)) := by
  unfold impl_in.f
  by_cases h : b ≤ a
  · rw [if_pos h]; simp [h]
  · rw [if_neg h]; simp [h]
theorem beh_ship (a b c d e f : Int) : ∃ r, spec_ShipOk.f a b c d e f = some r ∧ impl_ShipOk.f a b c d e f = some r ∧ (r = true → (-100000 ≤ a ∧ a ≤ 100000) ∧ (-100000 ≤ b ∧ b ≤ 100000) ∧ (-1000 ≤ c ∧ c ≤ 1000) ∧ (-1000 ≤ d ∧ d ≤ 1000)) := by
  unfold spec_ShipOk.f impl_ShipOk.f
  simp only [beh_in, beh_in', Option.bind_some]
  repeat' split
  all_goals simp_all

theorem w64 (x : Int) (h0 : -9223372036854775808 ≤ x) (h1 : x < 9223372036854775808) : wrap64 x = x := by
  unfold wrap64
  omega
theorem prod (a b m n : Int) (ha : -m ≤ a ∧ a ≤ m) (hb : -n ≤ b ∧ b ≤ n) : -(m * n) ≤ a * b ∧ a * b ≤ m * n := by
  have e1 : 0 ≤ (m - a) * (n + b) := Int.mul_nonneg (by omega) (by omega)
  have e2 : 0 ≤ (m + a) * (n - b) := Int.mul_nonneg (by omega) (by omega)
  have e3 : 0 ≤ (m - a) * (n - b) := Int.mul_nonneg (by omega) (by omega)
  have e4 : 0 ≤ (m + a) * (n + b) := Int.mul_nonneg (by omega) (by omega)
  have f1 : (m - a) * (n + b) = m * n + m * b - a * n - a * b := by grind
  have f2 : (m + a) * (n - b) = m * n - m * b + a * n - a * b := by grind
  have f3 : (m - a) * (n - b) = m * n - m * b - a * n + a * b := by grind
  have f4 : (m + a) * (n + b) = m * n + m * b + a * n + a * b := by grind
  omega
theorem sq (a m : Int) (ha : -m ≤ a ∧ a ≤ m) : 0 ≤ a * a ∧ a * a ≤ m * m := by
  have h1 := prod a a m m ha ha
  have h2 : 0 ≤ a * a := by
    rcases Int.le_total 0 a with h | h
    · exact Int.mul_nonneg h h
    · exact Int.mul_nonneg_of_nonpos_of_nonpos h h
  omega
theorem i64_and255 (n : Int) : bits .and .i64 n 255 = n % 256 := by
  have h255 : (BitVec.ofInt 64 255).toNat = 2 ^ 8 - 1 := by decide
  have key : (BitVec.ofInt 64 n &&& BitVec.ofInt 64 255).toNat = (n % ((2 ^ 64 : Nat) : Int)).toNat % 2 ^ 8 := by
    rw [BitVec.toNat_and, BitVec.toNat_ofInt, h255, Nat.and_two_pow_sub_one_eq_mod]
  show IntKind.i64.wrap ((BitVec.ofInt 64 n &&& BitVec.ofInt 64 255).toNat : Nat) = n % 256
  rw [key, IntKind.wrap_i64]
  omega
theorem and255 (n : Int) : 0 ≤ bits .and .i64 n 255 ∧ bits .and .i64 n 255 ≤ 255 := by rw [i64_and255]; omega
/-- A cursor at g over the bytes of A, which were there in w0. -/
theorem tmod_in {x k : Int} (h0 : 0 ≤ x) (hk : 0 < k) : 0 ≤ x.tmod k ∧ x.tmod k < k := by
  rw [Int.tmod_eq_emod_of_nonneg h0]
  exact ⟨Int.emod_nonneg _ (by omega), Int.emod_lt_of_pos _ hk⟩
end Go.Proofs.Ytfbokdbaondjdaa.Bq
/- Squares and closing ships, plain. -/
namespace Go.Proofs.Ytfbokdbaondjdaa.Bk
open Go Go.RowKit Go.Proofs.Ytfbokdbaondjdaa.PV1 Go.Proofs.YtfbokdbaondjdaaW.PrintWords Go.Proofs.Ytfbokdbaondjdaa.Bq
set_option linter.unusedVariables false
theorem u64w (x : Int) (h0 : 0 ≤ x) (h1 : x < 18446744073709551616) : IntKind.u64.wrap x = x := by
  have : IntKind.u64.wrap x = x % 18446744073709551616 := by simp [IntKind.wrap, IntKind.bits, IntKind.signed]
  omega
theorem square (a : Int) (ha : -400000000 ≤ a ∧ a ≤ 400000000) : impl_square.f a = some (a * a) := by
  have hA := sq a 400000000 ha
  unfold impl_square.f impl_size.f
  by_cases h : a < 0
  · rw [if_pos h]
    simp only [Option.bind_some]
    rw [w64 (-a) (by omega) (by omega), u64w (-a) (by omega) (by omega)]
    have e : -a * -a = a * a := by grind
    rw [e, u64w (a * a) (by omega) (by omega)]
  · rw [if_neg h]
    simp only [Option.bind_some]
    rw [u64w a (by omega) (by omega), u64w (a * a) (by omega) (by omega)]

def dotF (a b c d a' b' c' d' : Int) : Int := wrap64 (wrap64 (wrap64 (a' - a) * wrap64 (c' - c)) + wrap64 (wrap64 (b' - b) * wrap64 (d' - d)))
theorem clos (a b c d e f a' b' c' d' e' f' : Int) : impl_closing.f a b c d e f a' b' c' d' e' f' = some (decide (dotF a b c d a' b' c' d' < 0)) := by
  unfold impl_closing.f impl_bearing.f impl_vec_dot.f dotF
  simp only [Option.bind_some]
  split
  · rfl
  · rename_i h
    simp only [Bool.not_eq_true, Bool.or_eq_false_iff, Bool.not_eq_false', beq_iff_eq] at h
    rw [h.1, h.2, Int.zero_mul, Int.zero_mul]
    have e0 : wrap64 0 = 0 := by unfold wrap64; omega
    rw [e0, Int.zero_add, e0]
    rfl
end Go.Proofs.Ytfbokdbaondjdaa.Bk
/- The drawings of ships, plain: they always answer; what l8Draw tells is a right ship. -/
namespace Go.Proofs.Ytfbokdbaondjdaa.Dr
open Go.RowKit Go.Proofs.Ytfbokdbaondjdaa.PV1 Go.Proofs.YtfbokdbaondjdaaW.PrintWords Go.Proofs.Ytfbokdbaondjdaa.Bq
set_option linter.unusedVariables false
set_option linter.unusedSimpArgs false
theorem byte (l : List Int) (i h : Int) (hl : l.length ≤ 1048576) (h0 : 0 ≤ i) : ∃ x i' h', spec_l1Byte.f l i h = some (x, i', h') ∧ 0 ≤ i' ∧ 0 ≤ x ∧ x ≤ 255 := by
  unfold spec_l1Byte.f
  by_cases hi : i < (l.length : Int)
  · rw [if_pos hi, if_pos h0]
    exact ⟨_, _, _, rfl, by rw [w64 (i + 1) (by omega) (by omega)]; omega, (and255 _).1, (and255 _).2⟩
  · rw [if_neg hi]
    exact ⟨_, _, _, rfl, h0, (and255 _).1, (and255 _).2⟩
theorem below (l : List Int) (i h n : Int) (hl : l.length ≤ 1048576) (h0 : 0 ≤ i) (n0 : 0 < n) (n1 : n ≤ 256) : ∃ x i' h', spec_l1Below.f l i h n = some (x, i', h') ∧ 0 ≤ i' ∧ 0 ≤ x ∧ x < n := by
  obtain ⟨x, i', h', e, hi, hx0, hx1⟩ := byte l i h hl h0
  unfold spec_l1Below.f
  rw [if_neg (by omega), if_pos n1, e]
  simp only [Option.bind_some]
  rw [if_neg (by omega)]
  exact ⟨_, _, _, rfl, hi, (tmod_in hx0 n0).1, (tmod_in hx0 n0).2⟩
theorem once (l : List Int) (i h n : Int) (hl : l.length ≤ 1048576) (h0 : 0 ≤ i) (n0 : 0 < n) (n1 : n ≤ 256) : ∃ (x : Bool) (i' h' : Int), spec_l1Once.f l i h n = some (x, i', h') ∧ 0 ≤ i' := by
  obtain ⟨x, i', h', e, hi, hx0, hx1⟩ := below l i h n hl h0 n0 n1
  unfold spec_l1Once.f
  rw [e]
  exact ⟨_, _, _, rfl, hi⟩
theorem pick (l : List Int) (i h : Int) (xs : List Int) (hl : l.length ≤ 1048576) (h0 : 0 ≤ i) (n0 : 0 < xs.length) (n1 : xs.length ≤ 256) : ∃ (x i' h' : Int), spec_l1PickInt.f l i h xs = some (x, i', h') ∧ 0 ≤ i' := by
  obtain ⟨x, i', h', e, hi, hx0, hx1⟩ := below l i h xs.length hl h0 (by omega) (by omega)
  unfold spec_l1PickInt.f
  rw [e]
  simp only [Option.bind_some]
  rw [if_pos hx0, if_pos hx1]
  exact ⟨_, _, _, rfl, hi⟩
/-- What is drawn plainly. -/
structure Small (a b c d e f : Int) : Prop where
  ha : -20 ≤ a ∧ a ≤ 20
  hb : -20 ≤ b ∧ b ≤ 20
  hc : -5 ≤ c ∧ c ≤ 5
  hd : -5 ≤ d ∧ d ≤ 5
  hv : ¬ (c = 0 ∧ d = 0)
  he : 1 ≤ e ∧ e ≤ 5
  hf : 0 ≤ f ∧ f ≤ 2
theorem draw (l : List Int) (i h : Int) (hl : l.length ≤ 1048576) (h0 : 0 ≤ i) : ∃ a b c d e f i' h', spec_l8Draw.f l i h = some (a, b, c, d, e, f, i', h') ∧ 0 ≤ i' ∧ Small a b c d e f := by
  obtain ⟨x1, i1, h1, e1, q1, a1, b1⟩ := below l i h 41 hl h0 (by omega) (by omega)
  obtain ⟨x2, i2, h2, e2, q2, a2, b2⟩ := below l i1 h1 41 hl q1 (by omega) (by omega)
  obtain ⟨x3, i3, h3, e3, q3, a3, b3⟩ := below l i2 h2 11 hl q2 (by omega) (by omega)
  obtain ⟨x4, i4, h4, e4, q4, a4, b4⟩ := below l i3 h3 11 hl q3 (by omega) (by omega)
  obtain ⟨x5, i5, h5, e5, q5, a5, b5⟩ := below l i4 h4 3 hl q4 (by omega) (by omega)
  obtain ⟨x6, i6, h6, e6, q6⟩ := once l i5 h5 3 hl q5 (by omega) (by omega)
  obtain ⟨x7, i7, h7, e7, q7, a7, b7⟩ := below l i6 h6 5 hl q6 (by omega) (by omega)
  unfold spec_l8Draw.f
  rw [e1]
  simp only [Option.bind_some]
  rw [e2]
  simp only [Option.bind_some]
  rw [e3]
  simp only [Option.bind_some]
  rw [e4]
  simp only [Option.bind_some]
  rw [e5]
  simp only [Option.bind_some]
  rw [e6]
  simp only [Option.bind_some]
  rw [e7]
  simp only [Option.bind_some]
  rw [w64 (x1 - 20) (by omega) (by omega), w64 (x2 - 20) (by omega) (by omega), w64 (x3 - 5) (by omega) (by omega), w64 (x4 - 5) (by omega) (by omega), w64 (1 + x7) (by omega) (by omega)]
  by_cases g3 : x3 - 5 = 0
  · by_cases g4 : x4 - 5 = 0
    · rw [if_pos g3, if_pos g4, if_pos g3, if_pos g4]
      cases x6
      · exact ⟨_, _, _, _, _, _, _, _, rfl, q6, ⟨by omega, by omega, by omega, by omega, by omega, by omega, by omega⟩⟩
      · exact ⟨_, _, _, _, _, _, _, _, rfl, q7, ⟨by omega, by omega, by omega, by omega, by omega, by omega, by omega⟩⟩
    · rw [if_pos g3, if_neg g4, if_pos g3, if_neg g4]
      cases x6
      · exact ⟨_, _, _, _, _, _, _, _, rfl, q6, ⟨by omega, by omega, by omega, by omega, by omega, by omega, by omega⟩⟩
      · exact ⟨_, _, _, _, _, _, _, _, rfl, q7, ⟨by omega, by omega, by omega, by omega, by omega, by omega, by omega⟩⟩
  · rw [if_neg g3, if_neg g3]
    cases x6
    · exact ⟨_, _, _, _, _, _, _, _, rfl, q6, ⟨by omega, by omega, by omega, by omega, by omega, by omega, by omega⟩⟩
    · exact ⟨_, _, _, _, _, _, _, _, rfl, q7, ⟨by omega, by omega, by omega, by omega, by omega, by omega, by omega⟩⟩
theorem any (l : List Int) (i h : Int) (hl : l.length ≤ 1048576) (h0 : 0 ≤ i) : ∃ a b c d e f i' h', spec_l8DrawAny.f l i h = some (a, b, c, d, e, f, i', h') ∧ 0 ≤ i' := by
  obtain ⟨a, b, c, d, e, f, i1, h1, e1, q1, _⟩ := draw l i h hl h0
  obtain ⟨x, i2, h2, e2, q2, _, _⟩ := below l i1 h1 25 hl q1 (by omega) (by omega)
  unfold spec_l8DrawAny.f
  rw [e1]
  simp only [Option.bind_some]
  rw [e2]
  simp only [Option.bind_some]
  split
  · obtain ⟨y3, i3, h3, e3, q3⟩ := pick l i2 h2 [(-100001), (-100000), 100000, 100001] hl q2 (by decide) (by decide)
    obtain ⟨y4, i4, h4, e4, q4⟩ := pick l i3 h3 [(-100000), 100000, 0] hl q3 (by decide) (by decide)
    obtain ⟨y5, i5, h5, e5, q5⟩ := pick l i4 h4 [(-1000), 1000, 999] hl q4 (by decide) (by decide)
    obtain ⟨y6, i6, h6, e6, q6⟩ := pick l i5 h5 [(-1000), 1000, 998] hl q5 (by decide) (by decide)
    rw [e3]
    simp only [Option.bind_some]
    rw [e4]
    simp only [Option.bind_some]
    rw [e5]
    simp only [Option.bind_some]
    rw [e6]
    exact ⟨_, _, _, _, _, _, _, _, rfl, q6⟩
  · split
    · obtain ⟨y3, i3, h3, e3, q3⟩ := pick l i2 h2 [(-1001), 1001, 1000] hl q2 (by decide) (by decide)
      rw [e3]
      exact ⟨_, _, _, _, _, _, _, _, rfl, q3⟩
    · split
      · exact ⟨_, _, _, _, _, _, _, _, rfl, q2⟩
      · split
        · obtain ⟨y3, i3, h3, e3, q3⟩ := pick l i2 h2 [0, 6] hl q2 (by decide) (by decide)
          rw [e3]
          exact ⟨_, _, _, _, _, _, _, _, rfl, q3⟩
        · split
          · obtain ⟨y3, i3, h3, e3, q3⟩ := pick l i2 h2 [(-1), 1000, 1001] hl q2 (by decide) (by decide)
            rw [e3]
            exact ⟨_, _, _, _, _, _, _, _, rfl, q3⟩
          · exact ⟨_, _, _, _, _, _, _, _, rfl, q2⟩
theorem pair (l : List Int) (i h : Int) (hl : l.length ≤ 1048576) (h0 : 0 ≤ i) : ∃ a b c d e f a' b' c' d' e' f' i' h', spec_l8DrawPair.f l i h = some (a, b, c, d, e, f, a', b', c', d', e', f', i', h') ∧ 0 ≤ i' := by
  obtain ⟨a, b, c, d, e, f, i1, h1, e1, q1⟩ := any l i h hl h0
  obtain ⟨a', b', c', d', e', f', i2, h2, e2, q2⟩ := any l i1 h1 hl q1
  obtain ⟨x, i3, h3, e3, q3, _, _⟩ := below l i2 h2 6 hl q2 (by omega) (by omega)
  unfold spec_l8DrawPair.f
  rw [e1]
  simp only [Option.bind_some]
  rw [e2]
  simp only [Option.bind_some]
  rw [e3]
  simp only [Option.bind_some]
  split
  · obtain ⟨y4, i4, h4, e4, q4, _, _⟩ := below l i3 h3 3 hl q3 (by omega) (by omega)
    obtain ⟨y5, i5, h5, e5, q5⟩ := once l i4 h4 2 hl q4 (by omega) (by omega)
    rw [e4]
    simp only [Option.bind_some]
    rw [e5]
    cases y5 <;> exact ⟨_, _, _, _, _, _, _, _, _, _, _, _, _, _, rfl, q5⟩
  · split
    · obtain ⟨y4, i4, h4, e4, q4, _, _⟩ := below l i3 h3 5 hl q3 (by omega) (by omega)
      obtain ⟨y6, i6, h6, e6, q6, _, _⟩ := below l i4 h4 5 hl q4 (by omega) (by omega)
      obtain ⟨y5, i5, h5, e5, q5⟩ := once l i6 h6 2 hl q6 (by omega) (by omega)
      rw [e4]
      simp only [Option.bind_some]
      rw [e6]
      simp only [Option.bind_some]
      rw [e5]
      cases y5 <;> exact ⟨_, _, _, _, _, _, _, _, _, _, _, _, _, _, rfl, q5⟩
    · split
      · obtain ⟨y5, i5, h5, e5, q5⟩ := once l i3 h3 2 hl q3 (by omega) (by omega)
        rw [e5]
        cases y5 <;> exact ⟨_, _, _, _, _, _, _, _, _, _, _, _, _, _, rfl, q5⟩
      · obtain ⟨y5, i5, h5, e5, q5⟩ := once l i3 h3 2 hl q3 (by omega) (by omega)
        rw [e5]
        cases y5 <;> exact ⟨_, _, _, _, _, _, _, _, _, _, _, _, _, _, rfl, q5⟩
theorem new_loop (l : List Int) (hl : l.length ≤ 1048576) (d : Nat) : ∀ (i : Nat) (h : Int), i + d = l.length → ∃ h', Ev (fun k => spec_l1New.l0 k l h (i : Int)) (l, 0, h') := by
  induction d with
  | zero =>
    intro i h hd
    refine ⟨h, Ev.ret fun k => ?_⟩
    simp only [spec_l1New.l0]
    rw [if_neg (by omega)]
  | succ d ih =>
    intro i h hd
    by_cases h4 : (i : Int) < 4000
    · obtain ⟨h', e⟩ := ih (i + 1) (Go.bits .and .i64 (wrap64 ((wrap64 ((wrap64 (h * 131)) + (wrap64 (rd l (i : Int))))) + 7)) 1073741823) (by omega)
      refine ⟨h', Ev.step (fun k => ?_) e⟩
      simp only [spec_l1New.l0]
      rw [if_pos (by omega), if_pos h4, if_pos (by omega), w64 ((i : Int) + 1) (by omega) (by omega)]
      rfl
    · refine ⟨h, Ev.ret fun k => ?_⟩
      simp only [spec_l1New.l0]
      rw [if_pos (by omega), if_neg h4]
theorem new (l : List Int) (hl : l.length ≤ 1048576) : ∃ h, Ev (fun k => spec_l1New.f k l) (l, 0, h) := new_loop l hl l.length 0 _ (by omega)
/-- Right ships: what ShipOk asks. -/
structure Right (a b c d e f : Int) : Prop where
  ok : spec_ShipOk.f a b c d e f = some true
  ha : -100000 ≤ a ∧ a ≤ 100000
  hb : -100000 ≤ b ∧ b ≤ 100000
  hc : -1000 ≤ c ∧ c ≤ 1000
  hd : -1000 ≤ d ∧ d ≤ 1000
theorem right_of {a b c d e f : Int} (h : spec_ShipOk.f a b c d e f = some true) : Right a b c d e f := by
  obtain ⟨r, h1, _, h3⟩ := beh_ship a b c d e f
  rw [h] at h1
  obtain rfl := Option.some.inj h1
  obtain ⟨p1, p2, p3, p4⟩ := h3 rfl
  exact ⟨h, p1, p2, p3, p4⟩
theorem ok_impl {a b c d e f : Int} (h : Right a b c d e f) : impl_ShipOk.f a b c d e f = some true := by
  obtain ⟨r, h1, h2, _⟩ := beh_ship a b c d e f
  rw [h.ok] at h1
  rw [h2, ← h1]
theorem small_right {a b c d e f : Int} (h : Small a b c d e f) : spec_ShipOk.f a b c d e f = some true := by
  obtain ⟨ha, hb, hc, hd, hv, he, hf⟩ := h
  unfold spec_ShipOk.f
  simp only [beh_in, Option.bind_some]
  rw [decide_eq_true (show -100000 ≤ a ∧ a ≤ 100000 by omega), decide_eq_true (show -100000 ≤ b ∧ b ≤ 100000 by omega), decide_eq_true (show -1000 ≤ c ∧ c ≤ 1000 by omega), decide_eq_true (show -1000 ≤ d ∧ d ≤ 1000 by omega), decide_eq_true (show 1 ≤ e ∧ e ≤ 5 by omega), decide_eq_true (show 0 ≤ f ∧ f ≤ 1000 by omega)]
  simp only [if_true]
  split
  · split
    · omega
    · rfl
  · rfl
theorem ships (l : List Int) (hl : l.length ≤ 1048576) : ∃ a b c d e f a' b' c' d' e' f', Ev (fun k => spec_DrawRightShips.f k l) (a, b, c, d, e, f, a', b', c', d', e', f') ∧ Right a b c d e f ∧ Right a' b' c' d' e' f' := by
  obtain ⟨h, e0⟩ := new l hl
  obtain ⟨a, b, c, d, e, f, a', b', c', d', e', f', i1, h1, e1, q1⟩ := pair l 0 h hl (by omega)
  obtain ⟨r1, s1, _, _⟩ := beh_ship a b c d e f
  obtain ⟨r2, s2, _, _⟩ := beh_ship a' b' c' d' e' f'
  by_cases hr : r1 = true ∧ r2 = true
  · obtain ⟨rfl, rfl⟩ := hr
    refine ⟨a, b, c, d, e, f, a', b', c', d', e', f', ?_, right_of s1, right_of s2⟩
    unfold spec_DrawRightShips.f
    refine Ev.bind e0 ?_
    simp only [e1, Option.bind_some, s1, s2, if_true]
    exact Ev.ret fun k => by simp only [spec_DrawRightShips.j0, Bool.not_true, Bool.false_eq_true, if_false]
  · obtain ⟨x, y, u, v, s, t, i2, h2, e2, q2, m2⟩ := draw l i1 h1 hl q1
    obtain ⟨x', y', u', v', s', t', i3, h3, e3, q3, m3⟩ := draw l i2 h2 hl q2
    refine ⟨x, y, u, v, s, t, x', y', u', v', s', t', ?_, right_of (small_right m2), right_of (small_right m3)⟩
    unfold spec_DrawRightShips.f
    refine Ev.bind e0 ?_
    simp only [e1, Option.bind_some, s1, s2]
    have J : Ev (fun k => spec_DrawRightShips.j0 k true l i1 h1 a b c d e f a' b' c' d' e' f') (x, y, u, v, s, t, x', y', u', v', s', t') := Ev.ret fun k => by simp only [spec_DrawRightShips.j0, if_true, e2, Option.bind_some, e3]
    cases r1
    · exact J
    · cases r2
      · exact J
      · exact absurd ⟨rfl, rfl⟩ hr
end Go.Proofs.Ytfbokdbaondjdaa.Dr
/- Duties, plain: what the program's Duty answers of two right ships; turned about, and seen from the other ship. -/
namespace Go.Proofs.Ytfbokdbaondjdaa.Dy
open Go.RowKit Go.Proofs.Ytfbokdbaondjdaa.PV1 Go.Proofs.YtfbokdbaondjdaaW.PrintWords Go.Proofs.Ytfbokdbaondjdaa.Bq Go.Proofs.Ytfbokdbaondjdaa.Bk Go.Proofs.Ytfbokdbaondjdaa.Du Go.Proofs.Ytfbokdbaondjdaa.Dr
set_option linter.unusedVariables false
def behB (x y u v : Int) : Bool := decide (x * u + y * v < 0) && decide ((x * v - y * u) * (x * v - y * u) * 5 ≤ (x * u + y * v) * (x * u + y * v) * 29)
def aheB (x y u v : Int) : Bool := decide (x * u + y * v > 0) && decide ((x * v - y * u) * (x * v - y * u) * 100 ≤ (x * u + y * v) * (x * u + y * v))
def hoB (x y c d c' d' : Int) : Bool := decide (c * c' + d * d' < 0) && decide ((c * d' - d * c') * (c * d' - d * c') * 100 ≤ (c * c' + d * d') * (c * c' + d * d')) && aheB x y c d && aheB (-x) (-y) c' d'
def cloB' (x y u v : Int) : Bool := decide (x * u + y * v < 0)
def rigB (x y c d : Int) : Bool := decide (c * y - d * x < 0)
/-- The duty of the first, where the second lies at (x, y) from it. -/
def dutyV (x y c d c' d' e e' f f' : Int) : Int := dutyF true true (cloB' x y (c' - c) (d' - d)) (behB (-x) (-y) c' d') (behB x y c d) (hoB x y c d c' d') (rigB x y c d) (rigB (-x) (-y) c' d') e e' f f'
section
variable (x y u v : Int) (hx : -200000 ≤ x ∧ x ≤ 200000) (hy : -200000 ≤ y ∧ y ≤ 200000) (hu : -1000 ≤ u ∧ u ≤ 1000) (hv : -1000 ≤ v ∧ v ≤ 1000)
include hx hy hu hv
theorem dots1 : impl_vec_dot.f x y u v = some (x * u + y * v) ∧ impl_vec_cross.f x y u v = some (x * v - y * u) ∧ (-400000000 ≤ x * u + y * v ∧ x * u + y * v ≤ 400000000) ∧ (-400000000 ≤ x * v - y * u ∧ x * v - y * u ≤ 400000000) := by
  have p1 := prod _ _ _ _ hx hu
  have p2 := prod _ _ _ _ hy hv
  have p3 := prod _ _ _ _ hx hv
  have p4 := prod _ _ _ _ hy hu
  unfold impl_vec_dot.f impl_vec_cross.f
  rw [w64 (x * u) (by omega) (by omega), w64 (y * v) (by omega) (by omega), w64 (x * v) (by omega) (by omega), w64 (y * u) (by omega) (by omega)]
  rw [w64 (x * u + y * v) (by omega) (by omega), w64 (x * v - y * u) (by omega) (by omega)]
  exact ⟨rfl, rfl, by omega, by omega⟩
theorem iAhe : impl_ahead.f x y u v = some (aheB x y u v) := by
  obtain ⟨d1, d2, b1, b2⟩ := dots1 x y u v hx hy hu hv
  unfold impl_ahead.f aheB
  rw [d1, d2]
  simp only [Option.bind_some]
  rw [square _ b1, square _ b2]
  simp only [Option.bind_some]
  have hA := sq _ _ b1
  have hB := sq _ _ b2
  generalize x * u + y * v = p at *
  generalize x * v - y * u = q at *
  generalize p * p = P at *
  generalize q * q = Q at *
  rw [u64w (Q * 100) (by omega) (by omega)]
  split
  · rename_i hn
    rw [decide_eq_true hn, Bool.true_and]
  · rename_i hn
    rw [decide_eq_false hn, Bool.false_and]
end
section
variable (k : Nat) {a b c d e f a' b' c' d' e' f' : Int} (hA : Right a b c d e f) (hB : Right a' b' c' d' e' f')
include hA hB
theorem iBeh : impl_Behind.f k a b c d e f a' b' c' d' e' f' = some (behB (-(a' - a)) (-(b' - b)) c' d') := by
  have hx : -200000 ≤ -(a' - a) ∧ -(a' - a) ≤ 200000 := by have := hA.ha; have := hB.ha; omega
  have hy : -200000 ≤ -(b' - b) ∧ -(b' - b) ≤ 200000 := by have := hA.hb; have := hB.hb; omega
  obtain ⟨d1, d2, b1, b2⟩ := dots1 _ _ _ _ hx hy hB.hc hB.hd
  unfold impl_Behind.f impl_bearing.f
  rw [ok_impl hA, ok_impl hB]
  simp only [Option.bind_some]
  rw [w64 (a - a') (by omega) (by omega), w64 (b - b') (by omega) (by omega), show a - a' = -(a' - a) by omega, show b - b' = -(b' - b) by omega, d1, d2]
  simp only [Option.bind_some]
  rw [square _ b1, square _ b2]
  simp only [Option.bind_some]
  have hP := sq _ _ b1
  have hQ := sq _ _ b2
  unfold behB
  generalize -(a' - a) * c' + -(b' - b) * d' = p at *
  generalize -(a' - a) * d' - -(b' - b) * c' = q at *
  generalize p * p = P at *
  generalize q * q = Q at *
  rw [u64w (Q * 5) (by omega) (by omega), u64w (P * 29) (by omega) (by omega)]
  rfl
theorem iHo : impl_HeadOn.f k a b c d e f a' b' c' d' e' f' = some (hoB (a' - a) (b' - b) c d c' d') := by
  have hx : -200000 ≤ a' - a ∧ a' - a ≤ 200000 := by have := hA.ha; have := hB.ha; omega
  have hy : -200000 ≤ b' - b ∧ b' - b ≤ 200000 := by have := hA.hb; have := hB.hb; omega
  have hx' : -200000 ≤ -(a' - a) ∧ -(a' - a) ≤ 200000 := by omega
  have hy' : -200000 ≤ -(b' - b) ∧ -(b' - b) ≤ 200000 := by omega
  obtain ⟨d1, d2, b1, b2⟩ := dots1 c d c' d' (by have := hA.hc; omega) (by have := hA.hd; omega) hB.hc hB.hd
  unfold impl_HeadOn.f impl_bearing.f
  rw [ok_impl hA, ok_impl hB]
  simp only [Option.bind_some]
  rw [d1, d2]
  simp only [Option.bind_some]
  rw [square _ b1, square _ b2]
  simp only [Option.bind_some]
  rw [w64 (a' - a) (by omega) (by omega), w64 (b' - b) (by omega) (by omega), w64 (a - a') (by omega) (by omega), w64 (b - b') (by omega) (by omega), show a - a' = -(a' - a) by omega, show b - b' = -(b' - b) by omega, iAhe _ _ _ _ hx hy hA.hc hA.hd, iAhe _ _ _ _ hx' hy' hB.hc hB.hd]
  simp only [Option.bind_some]
  have hP := sq _ _ b1
  have hQ := sq _ _ b2
  unfold hoB
  generalize c * c' + d * d' = p at *
  generalize c * d' - d * c' = q at *
  generalize p * p = P at *
  generalize q * q = Q at *
  rw [u64w (Q * 100) (by omega) (by omega)]
  rfl
theorem iClo : impl_closing.f a b c d e f a' b' c' d' e' f' = some (cloB' (a' - a) (b' - b) (c' - c) (d' - d)) := by
  have hx : -200000 ≤ a' - a ∧ a' - a ≤ 200000 := by have := hA.ha; have := hB.ha; omega
  have hy : -200000 ≤ b' - b ∧ b' - b ≤ 200000 := by have := hA.hb; have := hB.hb; omega
  have hu : -2000 ≤ c' - c ∧ c' - c ≤ 2000 := by have := hA.hc; have := hB.hc; omega
  have hv : -2000 ≤ d' - d ∧ d' - d ≤ 2000 := by have := hA.hd; have := hB.hd; omega
  rw [clos]
  unfold dotF cloB'
  have p1 := prod _ _ _ _ hx hu
  have p2 := prod _ _ _ _ hy hv
  rw [w64 (a' - a) (by omega) (by omega), w64 (b' - b) (by omega) (by omega), w64 (c' - c) (by omega) (by omega), w64 (d' - d) (by omega) (by omega)]
  rw [w64 ((a' - a) * (c' - c)) (by omega) (by omega), w64 ((b' - b) * (d' - d)) (by omega) (by omega)]
  rw [w64 ((a' - a) * (c' - c) + (b' - b) * (d' - d)) (by omega) (by omega)]
theorem iRig : impl_right.f a b c d e f a' b' c' d' e' f' = some (rigB (a' - a) (b' - b) c d) := by
  have hx : -200000 ≤ a' - a ∧ a' - a ≤ 200000 := by have := hA.ha; have := hB.ha; omega
  have hy : -200000 ≤ b' - b ∧ b' - b ≤ 200000 := by have := hA.hb; have := hB.hb; omega
  have p1 := prod _ _ _ _ hA.hc hy
  have p2 := prod _ _ _ _ hA.hd hx
  unfold impl_right.f impl_Ship_way.f impl_bearing.f impl_vec_cross.f rigB
  simp only [Option.bind_some]
  rw [w64 (a' - a) (by omega) (by omega), w64 (b' - b) (by omega) (by omega)]
  rw [w64 (c * (b' - b)) (by omega) (by omega), w64 (d * (a' - a)) (by omega) (by omega)]
  rw [w64 (c * (b' - b) - d * (a' - a)) (by omega) (by omega)]
end
theorem duty_val (k : Nat) {a b c d e f a' b' c' d' e' f' : Int} (hA : Right a b c d e f) (hB : Right a' b' c' d' e' f') : impl_Duty.f k a b c d e f a' b' c' d' e' f' = some (dutyV (a' - a) (b' - b) c d c' d' e e' f f') := by
  unfold impl_Duty.f
  rw [ok_impl hA, ok_impl hB, iClo hA hB, iBeh k hA hB, iBeh k hB hA, iHo k hA hB, iRig hA hB, iRig hB hA]
  simp only [Option.bind_some]
  rw [show -(a - a') = a' - a by omega, show -(b - b') = b' - b by omega, show a - a' = -(a' - a) by omega, show b - b' = -(b' - b) by omega]
  rfl
/-- Two duties that fit. -/
def Fit (x y : Int) : Prop := (x = 1 ∧ y = 2) ∨ (x = 2 ∧ y = 1) ∨ (y = x ∧ (x = 0 ∨ x = 3))
theorem fit_stage (m t : Bool) {K K' : Int} (h : Fit K K') : Fit (if (m != t) = true then dInt m t else K) (if (t != m) = true then dInt t m else K') := by
  cases m <;> cases t
  · exact h
  · exact .inl ⟨rfl, rfl⟩
  · exact .inr (.inl ⟨rfl, rfl⟩)
  · exact h
theorem fit_F (cl x1 x2 ho r1 r2 : Bool) (e e' f f' : Int) : Fit (dutyF true true cl x1 x2 ho r1 r2 e e' f f') (dutyF true true cl x2 x1 ho r2 r1 e' e f' f) := by
  have h0 : Fit 0 0 := .inr (.inr ⟨rfl, .inl rfl⟩)
  have h3 : Fit 3 3 := .inr (.inr ⟨rfl, .inr rfl⟩)
  unfold dutyF
  rw [if_pos (show (true && true) = true from rfl), if_pos (show (true && true) = true from rfl)]
  cases cl
  · exact h0
  · rw [if_pos rfl, if_pos rfl]
    refine fit_stage _ _ ?_
    by_cases h1 : e = e'
    · subst h1
      refine fit_stage _ _ ?_
      split
      · exact h3
      · exact fit_stage _ _ (fit_stage _ _ h3)
    · have hne : (decide (e < e') != decide (e' < e)) = true := by
        by_cases h2 : e < e'
        · rw [decide_eq_true h2, decide_eq_false (by omega)]; rfl
        · rw [decide_eq_false h2, decide_eq_true (by omega)]; rfl
      have hne' : (decide (e' < e) != decide (e < e')) = true := by
        by_cases h2 : e < e'
        · rw [decide_eq_true h2, decide_eq_false (by omega)]; rfl
        · rw [decide_eq_false h2, decide_eq_true (by omega)]; rfl
      rw [if_pos hne, if_pos hne']
      have := fit_stage (decide (e < e')) (decide (e' < e)) h0
      rw [if_pos hne, if_pos hne'] at this
      exact this
theorem ho_swap (x y c d c' d' : Int) : hoB (-x) (-y) c' d' c d = hoB x y c d c' d' := by
  unfold hoB
  rw [Int.neg_neg, Int.neg_neg, show c' * c + d' * d = c * c' + d * d' by grind, show (c' * d - d' * c) * (c' * d - d' * c) = (c * d' - d * c') * (c * d' - d * c') by grind]
  cases aheB x y c d <;> cases aheB (-x) (-y) c' d' <;> simp
theorem fit_V (x y c d c' d' e e' f f' : Int) : Fit (dutyV x y c d c' d' e e' f f') (dutyV (-x) (-y) c' d' c d e' e f' f) := by
  unfold dutyV
  rw [ho_swap, Int.neg_neg, Int.neg_neg]
  rw [show cloB' (-x) (-y) (c - c') (d - d') = cloB' x y (c' - c) (d' - d) by unfold cloB'; rw [show -x * (c - c') + -y * (d - d') = x * (c' - c) + y * (d' - d) by grind]]
  exact fit_F _ _ _ _ _ _ _ _ _ _
theorem ahe_turn (x y u v : Int) : aheB (-y) x (-v) u = aheB x y u v := by
  unfold aheB
  rw [show -y * -v + x * u = x * u + y * v by grind, show -y * u - x * -v = x * v - y * u by grind]
theorem beh_turn (x y u v : Int) : behB (-y) x (-v) u = behB x y u v := by
  unfold behB
  rw [show -y * -v + x * u = x * u + y * v by grind, show -y * u - x * -v = x * v - y * u by grind]
theorem turn_V (x y c d c' d' e e' f f' : Int) : dutyV (-y) x (-d) c (-d') c' e e' f f' = dutyV x y c d c' d' e e' f f' := by
  unfold dutyV
  rw [beh_turn x y c d, beh_turn (-x) (-y) c' d']
  rw [show rigB (-y) x (-d) c = rigB x y c d by unfold rigB; rw [show -d * x - c * -y = c * y - d * x by grind]]
  rw [show rigB (- -y) (-x) (-d') c' = rigB (-x) (-y) c' d' by unfold rigB; rw [show -d' * -x - c' * - -y = c' * -y - d' * -x by grind]]
  rw [show cloB' (-y) x (-d' - -d) (c' - c) = cloB' x y (c' - c) (d' - d) by unfold cloB'; rw [show -y * (-d' - -d) + x * (c' - c) = x * (c' - c) + y * (d' - d) by grind]]
  rw [show hoB (-y) x (-d) c (-d') c' = hoB x y c d c' d' by
    unfold hoB
    rw [ahe_turn x y c d, ahe_turn (-x) (-y) c' d', show -d * -d' + c * c' = c * c' + d * d' by grind, show -d * c' - c * -d' = c * d' - d * c' by grind]]
abbrev SH := S25
theorem duties2 (a b c d e f a' b' c' d' e' f' x y : Int) (hA : impl_ShipOk.f a b c d e f = some true) (hB : impl_ShipOk.f a' b' c' d' e' f' = some true) (hxy : ∀ k, impl_Duty.f k a b c d e f a' b' c' d' e' f' = some x) (hyx : ∀ k, impl_Duty.f k a' b' c' d' e' f' a b c d e f = some y) : Ev (fun k => impl_Duties.f k [(⟨a, b, c, d, e, f⟩ : SH), ⟨a', b', c', d', e', f'⟩]) ([[0, x], [y, 0]], true) := by
  have r0 : rd_T25 [(⟨a, b, c, d, e, f⟩ : SH), ⟨a', b', c', d', e', f'⟩] 0 = ⟨a, b, c, d, e, f⟩ := rfl
  have r1 : rd_T25 [(⟨a, b, c, d, e, f⟩ : SH), ⟨a', b', c', d', e', f'⟩] 1 = ⟨a', b', c', d', e', f'⟩ := rfl
  have hI : (([(⟨a, b, c, d, e, f⟩ : SH), ⟨a', b', c', d', e', f'⟩].length : Nat) : Int) = 2 := rfl
  generalize [(⟨a, b, c, d, e, f⟩ : SH), ⟨a', b', c', d', e', f'⟩] = L at *
  have w1 : wrap64 (0 + 1) = 1 := by unfold wrap64; omega
  have w2 : wrap64 (1 + 1) = 2 := by unfold wrap64; omega
  have t2 : (2 : Int).toNat = 2 := rfl
  have E12 : Ev (fun k => impl_Duties.l1 k L [[0, x], [y, 0]] L 2 2) ([[0, x], [y, 0]], true) := Ev.ret fun k => by
    simp only [impl_Duties.l1]
    rw [if_neg (by omega)]
  have F12 : Ev (fun k => impl_Duties.l2 k L [[0, x], [y, 0]] 1 L 2 1 L 2 2 a' b' c' d' e' f') ([[0, x], [y, 0]], true) := Ev.step (fun k => by
    simp only [impl_Duties.l2]
    rw [if_neg (by omega), w2]) E12
  have F11 : Ev (fun k => impl_Duties.l2 k L [[0, x], [y, 0]] 1 L 2 1 L 2 1 a' b' c' d' e' f') ([[0, x], [y, 0]], true) := Ev.step (fun k => by
    simp only [impl_Duties.l2]
    rw [if_pos (by omega), if_pos (by omega), if_pos (by omega), if_pos trivial, w2]) F12
  have F10 : Ev (fun k => impl_Duties.l2 k L [[0, x], [0, 0]] 1 L 2 1 L 2 0 a' b' c' d' e' f') ([[0, x], [y, 0]], true) := Ev.step (fun k => by
    simp only [impl_Duties.l2]
    rw [if_pos (by omega), if_pos (by omega), if_pos (by omega), if_neg (by omega), if_pos (by omega), if_pos (by simp), r0, hyx, Option.bind_some, if_pos (by simp [rd_L3]), w1]
    rfl) F11
  have E11 : Ev (fun k => impl_Duties.l1 k L [[0, x], []] L 2 1) ([[0, x], [y, 0]], true) := Ev.step (fun k => by
    simp only [impl_Duties.l1]
    rw [if_pos (by omega), if_pos (by omega), if_pos (by omega), if_pos (by omega), if_pos (by omega), if_pos (by simp), hI, r1]
    rfl) F10
  have F02 : Ev (fun k => impl_Duties.l2 k L [[0, x], []] 0 L 2 0 L 2 2 a b c d e f) ([[0, x], [y, 0]], true) := Ev.step (fun k => by
    simp only [impl_Duties.l2]
    rw [if_neg (by omega), w1]) E11
  have F01 : Ev (fun k => impl_Duties.l2 k L [[0, 0], []] 0 L 2 0 L 2 1 a b c d e f) ([[0, x], [y, 0]], true) := Ev.step (fun k => by
    simp only [impl_Duties.l2]
    rw [if_pos (by omega), if_pos (by omega), if_pos (by omega), if_neg (by omega), if_pos (by omega), if_pos (by simp), r1, hxy, Option.bind_some, if_pos (by simp [rd_L3]), w2]
    rfl) F02
  have F00 : Ev (fun k => impl_Duties.l2 k L [[0, 0], []] 0 L 2 0 L 2 0 a b c d e f) ([[0, x], [y, 0]], true) := Ev.step (fun k => by
    simp only [impl_Duties.l2]
    rw [if_pos (by omega), if_pos (by omega), if_pos (by omega), if_pos trivial, w1]) F01
  have E10 : Ev (fun k => impl_Duties.l1 k L [[], []] L 2 0) ([[0, x], [y, 0]], true) := Ev.step (fun k => by
    simp only [impl_Duties.l1]
    rw [if_pos (by omega), if_pos (by omega), if_pos (by omega), if_pos (by omega), if_pos (by omega), if_pos (by simp), hI, r0]
    rfl) F00
  have D2 : Ev (fun k => impl_Duties.l0 k L L 2 2) ([[0, x], [y, 0]], true) := Ev.step (fun k => by
    simp only [impl_Duties.l0]
    rw [if_neg (by omega), if_pos (by omega), if_pos (by omega), hI]
    rfl) E10
  have D1 : Ev (fun k => impl_Duties.l0 k L L 2 1) ([[0, x], [y, 0]], true) := Ev.step (fun k => by
    simp only [impl_Duties.l0]
    rw [if_pos (by omega), if_pos (by omega), if_pos (by omega), r1, hB, Option.bind_some, if_pos rfl, w2]) D2
  have D0 : Ev (fun k => impl_Duties.l0 k L L 2 0) ([[0, x], [y, 0]], true) := Ev.step (fun k => by
    simp only [impl_Duties.l0]
    rw [if_pos (by omega), if_pos (by omega), if_pos (by omega), r0, hA, Option.bind_some, if_pos rfl, w1]) D1
  refine Ev.congr (fun k => ?_) D0
  unfold impl_Duties.f
  rw [if_neg (by omega), hI]
end Go.Proofs.Ytfbokdbaondjdaa.Dy
/- The plain part of the law FnDuties. -/
namespace Go.Proofs.Ytfbokdbaondjdaa.Pure
open Go.RowKit Go.Proofs.Ytfbokdbaondjdaa.PV1 Go.Proofs.YtfbokdbaondjdaaW.PrintWords Go.Proofs.Ytfbokdbaondjdaa.Dr Go.Proofs.Ytfbokdbaondjdaa.Dy Go.Proofs.Ytfbokdbaondjdaa.Bq
set_option linter.unusedVariables false
theorem duties_j0 (a b c d e f a' b' c' d' e' f' x y : Int) (hA : Right a b c d e f) (hB : Right a' b' c' d' e' f') (ex : dutyV (a' - a) (b' - b) c d c' d' e e' f f' = x) (ey : dutyV (-(a' - a)) (-(b' - b)) c' d' c d e' e f' f = y) :
    Ev (fun k => laws_FnDuties.j0 k x y a b c d e f a' b' c' d' e' f') true := by
  have wx : wrap64 (a' - a) = a' - a := w64 _ (by have := hA.ha; have := hB.ha; omega) (by have := hA.ha; have := hB.ha; omega)
  have wy : wrap64 (b' - b) = b' - b := w64 _ (by have := hA.hb; have := hB.hb; omega) (by have := hA.hb; have := hB.hb; omega)
  have wd : wrap64 (-d) = -d := w64 _ (by have := hA.hd; omega) (by have := hA.hd; omega)
  have wd' : wrap64 (-d') = -d' := w64 _ (by have := hB.hd; omega) (by have := hB.hd; omega)
  obtain ⟨cx, hcx⟩ : ∃ cx, wrap64 (Int.tdiv (wrap64 (-b)) 2) = cx := ⟨_, rfl⟩
  obtain ⟨cy, hcy⟩ : ∃ cy, wrap64 (Int.tdiv a 2) = cy := ⟨_, rfl⟩
  have J1 : ∀ (v : Bool), (v = false → Right cx cy (-d) c e f ∧ Right (wrap64 (cx - (b' - b))) (wrap64 (cy + (a' - a))) (-d') c' e' f') → Ev (fun k => laws_FnDuties.j1 k x y v a b c d e f a' b' c' d' e' f' cx cy (-d) c e f (wrap64 (cx - (b' - b))) (wrap64 (cy + (a' - a))) (-d') c' e' f') true := by
    intro v hv
    cases v
    · obtain ⟨hC, hD⟩ := hv rfl
      have e1 : wrap64 (cx - (b' - b)) = cx - (b' - b) := w64 _ (by have := hC.ha; have := hA.hb; have := hB.hb; omega) (by have := hC.ha; have := hA.hb; have := hB.hb; omega)
      have e2 : wrap64 (cy + (a' - a)) = cy + (a' - a) := w64 _ (by have := hC.hb; have := hA.ha; have := hB.ha; omega) (by have := hC.hb; have := hA.ha; have := hB.ha; omega)
      rw [e1, e2] at hD ⊢
      have v1 : ∀ k, impl_Duty.f k cx cy (-d) c e f (cx - (b' - b)) (cy + (a' - a)) (-d') c' e' f' = some x := by
        intro k
        rw [duty_val k hC hD, ← ex, show cx - (b' - b) - cx = -(b' - b) by omega, show cy + (a' - a) - cy = a' - a by omega, turn_V]
      have v2 : ∀ k, impl_Duty.f k (cx - (b' - b)) (cy + (a' - a)) (-d') c' e' f' cx cy (-d) c e f = some y := by
        intro k
        rw [duty_val k hD hC, ← ey, show cx - (cx - (b' - b)) = -(-(b' - b)) by omega, show cy - (cy + (a' - a)) = -(a' - a) by omega, turn_V]
      have v3 : ∀ k, impl_Duty.f k a b c d e f a' b' c' d' e' f' = some x := fun k => by rw [duty_val k hA hB, ex]
      have v4 : ∀ k, impl_Duty.f k a' b' c' d' e' f' a b c d e f = some y := fun k => by rw [duty_val k hB hA, ← ey, show a - a' = -(a' - a) by omega, show b - b' = -(b' - b) by omega]
      refine Ev.step (fun k => by simp only [laws_FnDuties.j1, Bool.false_eq_true, if_false]; rfl) (Ev.bind (duties2 a b c d e f a' b' c' d' e' f' x y (ok_impl hA) (ok_impl hB) v3 v4) ?_)
      refine Ev.const fun k => ?_
      rw [v1]
      simp only [Option.bind_some, if_true]
      rw [v2]
      simp [rd_L3, rd]
    · exact Ev.ret fun k => by
        simp only [laws_FnDuties.j1, if_true]
        rw [ok_impl hA, Option.bind_some, if_pos rfl, ok_impl hB]
        rfl
  obtain ⟨t1, s1, _, _⟩ := beh_ship cx cy (-d) c e f
  obtain ⟨t2, s2, _, _⟩ := beh_ship (wrap64 (cx - (b' - b))) (wrap64 (cy + (a' - a))) (-d') c' e' f'
  cases t1
  · refine Ev.step (fun k => ?_) (J1 true (fun h => by cases h))
    simp only [laws_FnDuties.j0]
    rw [wx, wy, wd, wd', hcx, hcy, s1]
    rfl
  · refine Ev.step (fun k => ?_) (J1 (!t2) (fun h => by
      cases t2 with
      | false => cases h
      | true => exact ⟨right_of s1, right_of s2⟩))
    simp only [laws_FnDuties.j0]
    rw [wx, wy, wd, wd', hcx, hcy, s1, Option.bind_some, if_pos rfl, s2]
    rfl
theorem FnDuties : laws_FnDuties.Pure := by
  intro l _ _ _
  refine Ev.rounds (g := fun k => laws_FnDuties.f k l) ?_
  unfold laws_FnDuties.f laws_big.f
  simp only [Option.bind_some]
  by_cases hb : (l.length : Int) > 1048576
  · exact Ev.const fun k => if_pos (decide_eq_true hb)
  · refine Ev.congr (fun k => if_neg (by simp only [decide_eq_true_eq]; exact hb)) ?_
    obtain ⟨a, b, c, d, e, f, a', b', c', d', e', f', h0, hA, hB⟩ := ships l (by omega)
    refine Ev.bind h0 ?_
    simp only
    have v3 : ∀ k, impl_Duty.f k a b c d e f a' b' c' d' e' f' = some (dutyV (a' - a) (b' - b) c d c' d' e e' f f') := fun k => duty_val k hA hB
    have v4 : ∀ k, impl_Duty.f k a' b' c' d' e' f' a b c d e f = some (dutyV (-(a' - a)) (-(b' - b)) c' d' c d e' e f' f) := fun k => by rw [duty_val k hB hA, show a - a' = -(a' - a) by omega, show b - b' = -(b' - b) by omega]
    have hf := fit_V (a' - a) (b' - b) c d c' d' e e' f f'
    refine Ev.congr (fun k => by rw [v3, v4]) ?_
    obtain ⟨x, ex⟩ : ∃ x, dutyV (a' - a) (b' - b) c d c' d' e e' f f' = x := ⟨_, rfl⟩
    obtain ⟨y, ey⟩ : ∃ y, dutyV (-(a' - a)) (-(b' - b)) c' d' c d e' e f' f = y := ⟨_, rfl⟩
    have J := duties_j0 a b c d e f a' b' c' d' e' f' x y hA hB ex ey
    rw [ex, ey] at hf ⊢
    rcases hf with ⟨rfl, rfl⟩ | ⟨rfl, rfl⟩ | ⟨rfl, rfl | rfl⟩
    all_goals exact J
end Go.Proofs.Ytfbokdbaondjdaa.Pure
