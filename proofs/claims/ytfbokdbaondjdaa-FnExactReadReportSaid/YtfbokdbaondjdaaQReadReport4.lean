import Derived.Test.YtfbokdbaondjdaaQReadReport0
import Derived.Test.YtfbokdbaondjdaaCz
import Derived.Test.YtfbokdbaondjdaaQReadReport3
namespace Go.Proofs.Ytfbokdbaondjdaa.PFnExactReadReport
open Go.RowKit Go.Proofs.YtfbokdbaondjdaaW.PrintWords Go.Proofs.YtfbokdbaondjdaaW.PrintLast Go.Proofs.YtfbokdbaondjdaaW.PrintMore Go.Proofs.Ytfbokdbaondjdaa.Cz
attribute [local go_sem] max2_int min2_int max_two min_two max_three min_three max_four min_four
set_option linter.unusedVariables false
set_option linter.unusedSimpArgs false

/-! ### impl_ReadReport: function 42 -/
def impl_ReadReport.f (k : Nat) (l0 : List Int) : Option (Int × Int × Int × Int × Int × Int × Int) := if (l0.length : Int) = 16 then (if 14 ≤ (l0.length : Int) then ((impl_frameCheck.f k (l0.take 14)).bind fun t148 => (if 14 < (l0.length : Int) then (if 15 < (l0.length : Int) then (if t148 = (Go.bits .or .i64 (wrap64 ((wrap64 (rd l0 14)) * 256)) (wrap64 (rd l0 15))) then (if 0 < (l0.length : Int) then (if 1 < (l0.length : Int) then (if 2 < (l0.length : Int) then (if 3 < (l0.length : Int) then (if 4 < (l0.length : Int) then (if 5 ≤ (l0.length : Int) then ((impl_number24.f (l0.drop 5)).bind fun t157 => (if 8 ≤ (l0.length : Int) then ((impl_number24.f (l0.drop 8)).bind fun t159 => (if 11 < (l0.length : Int) then (if 12 < (l0.length : Int) then (if 13 < (l0.length : Int) then (if (rd l0 13) = 0 then ((impl_ReportOk.f (wrap64 (rd l0 0)) (Go.bits .or .i64 (Go.bits .or .i64 (Go.bits .or .i64 (wrap64 ((wrap64 (rd l0 1)) * 16777216)) (wrap64 ((wrap64 (rd l0 2)) * 65536))) (wrap64 ((wrap64 (rd l0 3)) * 256))) (wrap64 (rd l0 4))) t157 t159 (wrap64 (rd l0 11)) (wrap64 (rd l0 12))).bind fun t164 => (if t164 = true then (some (wrap64 (rd l0 0), Go.bits .or .i64 (Go.bits .or .i64 (Go.bits .or .i64 (wrap64 ((wrap64 (rd l0 1)) * 16777216)) (wrap64 ((wrap64 (rd l0 2)) * 65536))) (wrap64 ((wrap64 (rd l0 3)) * 256))) (wrap64 (rd l0 4)), t157, t159, wrap64 (rd l0 11), wrap64 (rd l0 12), 0)) else (some (0, 0, 0, 0, 0, 0, 3)))) else (some (0, 0, 0, 0, 0, 0, 3))) else (none)) else (none)) else (none))) else (none))) else (none)) else (none)) else (none)) else (none)) else (none)) else (none)) else (some (0, 0, 0, 0, 0, 0, 2))) else (none)) else (none))) else (none)) else (some (0, 0, 0, 0, 0, 0, 1))
theorem impl_ReadReport.mono : ∀ a0 k, LeO (impl_ReadReport.f k a0) (impl_ReadReport.f (k + 1) a0) := by
 intro a0 k
 unfold impl_ReadReport.f
 repeat' first
   | (with_reducible exact impl_frameCheck.mono _ _)
   | (with_reducible exact LeO.refl _)
   | (with_reducible exact LeO.none _)
   | (with_reducible refine LeO.ite ?_ ?_)
   | (with_reducible refine LeO.bind ?_ (fun _ => ?_))
   | exact impl_frameCheck.mono _ _
   | exact LeO.none _
   | refine LeO.ite ?_ ?_
   | refine LeO.bind ?_ (fun _ => ?_)
def impl_ReadReport.T4 : Bool × List (List Nat × List Nat) := (true, [([], []), ([0], [0]), ([1], [1]), ([], []), ([3], [3]), ([4], [4]), ([5], [5]), ([6], [6]), ([], []), ([8], [8]), ([9], [9]), ([10], [10]), ([7, 11], [7, 11]), ([2, 12], [2, 12])])
def impl_ReadReport.B4 : List Nat := [0, 1, 3, 0, 8, 24, 56, 120, 0, 256, 768, 1792, 4088, 8191]
theorem impl_ReadReport.tab4 : rtab .any (opsOf Try.f42 4) = impl_ReadReport.T4 := by kernel_rfl
theorem impl_ReadReport.bits4 : waitsOk impl_ReadReport.T4.2 impl_ReadReport.B4 = true := by kernel_rfl
def impl_ReadReport.T6 : Bool × List (List Nat × List Nat) := (true, [([], []), ([0], [0]), ([1], [1]), ([2], [2]), ([], []), ([4], [4]), ([5], [5]), ([6], [6]), ([7], [7]), ([], []), ([9], [9]), ([10], [10]), ([11], [11]), ([12], [12]), ([8, 13], [8, 13]), ([], []), ([15], [15]), ([16], [16]), ([17], [17]), ([18], [18]), ([14, 19], [14, 19]), ([], []), ([21], [21]), ([22], [22]), ([23], [23]), ([20, 24], [20, 24]), ([], []), ([26], [26]), ([27], [27]), ([], []), ([29], [29]), ([30, 28], [30]), ([], []), ([32], [32]), ([33], [33]), ([34], [34]), ([], []), ([36], [36]), ([37], [37]), ([38], [38]), ([3, 25, 28, 31, 35, 39], [3, 25, 28, 31, 35, 39]), ([], []), ([41, 40, 31, 0, 1, 2, 3, 4, 5, 6, 7, 8, 9, 10, 11, 12, 13, 14, 15, 16, 17, 18, 19, 20, 21, 22, 23, 24, 25, 26, 27, 28, 29, 30, 31, 32, 33, 34, 35, 36, 37, 38, 39, 40, 41], [40, 41])])
def impl_ReadReport.B6 : List Nat := [0, 1, 3, 7, 0, 16, 48, 112, 240, 0, 512, 1536, 3584, 7680, 16368, 0, 32768, 98304, 229376, 491520, 1048560, 0, 2097152, 6291456, 14680064, 33554416, 0, 67108864, 201326592, 0, 536870912, 2080374784, 0, 4294967296, 12884901888, 30064771072, 0, 68719476736, 206158430208, 481036337152, 1099511627775, 0, 4398046511103]
theorem impl_ReadReport.tab6 : rtab .any (opsOf Try.f42 6) = impl_ReadReport.T6 := by kernel_rfl
theorem impl_ReadReport.bits6 : waitsOk impl_ReadReport.T6.2 impl_ReadReport.B6 = true := by kernel_rfl
set_option maxHeartbeats 8000000 in
set_option maxRecDepth 100000 in
theorem impl_ReadReport.calls (k : Nat) (A0 : Option Addr) (c0 : Nat) (l0 : List Int) (r1 : Int) (r2 : Int) (r3 : Int) (r4 : Int) (r5 : Int) (r6 : Int) (r7 : Int) (w : World) (hr0 : Kd.C (Kd.int .u8) w A0 l0.length l0) (hc0 : l0.length ≤ c0) (h : impl_ReadReport.f k l0 = some (r1, r2, r3, r4, r5, r6, r7)) :
  Calls Try.prog 42 #[.slice A0 l0.length c0] w fun e w' => e = .returned (.tuple #[.agg #[.int .i64 r1, .int .i64 r2, .int .i64 r3, .int .i64 r4, .int .i64 r5, .int .i64 r6], .int .i64 r7]) ∧ Below w.heap.size w w' := by
 have hu31 := Try.underlying31
 have HR0 := Aside0.mk hr0
 have HC0 := Aside0.mk hc0
 clear hr0 hc0
 have HB := Aside0.mk (Below.refl w.heap.size w)
 have H : (if (l0.length : Int) = 16 then (if 14 ≤ (l0.length : Int) then ((impl_frameCheck.f k (l0.take 14)).bind fun t148 => (if 14 < (l0.length : Int) then (if 15 < (l0.length : Int) then (if t148 = (Go.bits .or .i64 (wrap64 ((wrap64 (rd l0 14)) * 256)) (wrap64 (rd l0 15))) then (if 0 < (l0.length : Int) then (if 1 < (l0.length : Int) then (if 2 < (l0.length : Int) then (if 3 < (l0.length : Int) then (if 4 < (l0.length : Int) then (if 5 ≤ (l0.length : Int) then ((impl_number24.f (l0.drop 5)).bind fun t157 => (if 8 ≤ (l0.length : Int) then ((impl_number24.f (l0.drop 8)).bind fun t159 => (if 11 < (l0.length : Int) then (if 12 < (l0.length : Int) then (if 13 < (l0.length : Int) then (if (rd l0 13) = 0 then ((impl_ReportOk.f (wrap64 (rd l0 0)) (Go.bits .or .i64 (Go.bits .or .i64 (Go.bits .or .i64 (wrap64 ((wrap64 (rd l0 1)) * 16777216)) (wrap64 ((wrap64 (rd l0 2)) * 65536))) (wrap64 ((wrap64 (rd l0 3)) * 256))) (wrap64 (rd l0 4))) t157 t159 (wrap64 (rd l0 11)) (wrap64 (rd l0 12))).bind fun t164 => (if t164 = true then (some (wrap64 (rd l0 0), Go.bits .or .i64 (Go.bits .or .i64 (Go.bits .or .i64 (wrap64 ((wrap64 (rd l0 1)) * 16777216)) (wrap64 ((wrap64 (rd l0 2)) * 65536))) (wrap64 ((wrap64 (rd l0 3)) * 256))) (wrap64 (rd l0 4)), t157, t159, wrap64 (rd l0 11), wrap64 (rd l0 12), 0)) else (some (0, 0, 0, 0, 0, 0, 3)))) else (some (0, 0, 0, 0, 0, 0, 3))) else (none)) else (none)) else (none))) else (none))) else (none)) else (none)) else (none)) else (none)) else (none)) else (none)) else (some (0, 0, 0, 0, 0, 0, 2))) else (none)) else (none))) else (none)) else (some (0, 0, 0, 0, 0, 0, 1))) = some (r1, r2, r3, r4, r5, r6, r7) := h
 clear h
 by_cases c2 : (l0.length : Int) = 16
 ·rw [if_pos c2] at H
  have c2b0 : ((l0.length : Int) == 16) = true := beq_iff_eq.mpr c2
  have c2b1 : ((l0.length : Int) != 16) = false := bne_eq_false_iff_eq.mpr c2
  clear c2
  by_cases c3 : 14 ≤ (l0.length : Int)
  ·rw [if_pos c3] at H
   have c3b0 := eq_true c3
   have c3b1 : decide (14 ≤ (l0.length : Int)) = true := decide_eq_true c3
   clear c3
   replace H := Option.bind_eq_some_iff.mp H
   obtain ⟨t148, A40, H⟩ := H
   replace H : (if 14 < (l0.length : Int) then (if 15 < (l0.length : Int) then (if t148 = (Go.bits .or .i64 (wrap64 ((wrap64 (rd l0 14)) * 256)) (wrap64 (rd l0 15))) then (if 0 < (l0.length : Int) then (if 1 < (l0.length : Int) then (if 2 < (l0.length : Int) then (if 3 < (l0.length : Int) then (if 4 < (l0.length : Int) then (if 5 ≤ (l0.length : Int) then ((impl_number24.f (l0.drop 5)).bind fun t157 => (if 8 ≤ (l0.length : Int) then ((impl_number24.f (l0.drop 8)).bind fun t159 => (if 11 < (l0.length : Int) then (if 12 < (l0.length : Int) then (if 13 < (l0.length : Int) then (if (rd l0 13) = 0 then ((impl_ReportOk.f (wrap64 (rd l0 0)) (Go.bits .or .i64 (Go.bits .or .i64 (Go.bits .or .i64 (wrap64 ((wrap64 (rd l0 1)) * 16777216)) (wrap64 ((wrap64 (rd l0 2)) * 65536))) (wrap64 ((wrap64 (rd l0 3)) * 256))) (wrap64 (rd l0 4))) t157 t159 (wrap64 (rd l0 11)) (wrap64 (rd l0 12))).bind fun t164 => (if t164 = true then (some (wrap64 (rd l0 0), Go.bits .or .i64 (Go.bits .or .i64 (Go.bits .or .i64 (wrap64 ((wrap64 (rd l0 1)) * 16777216)) (wrap64 ((wrap64 (rd l0 2)) * 65536))) (wrap64 ((wrap64 (rd l0 3)) * 256))) (wrap64 (rd l0 4)), t157, t159, wrap64 (rd l0 11), wrap64 (rd l0 12), 0)) else (some (0, 0, 0, 0, 0, 0, 3)))) else (some (0, 0, 0, 0, 0, 0, 3))) else (none)) else (none)) else (none))) else (none))) else (none)) else (none)) else (none)) else (none)) else (none)) else (none)) else (some (0, 0, 0, 0, 0, 0, 2))) else (none)) else (none)) = some (r1, r2, r3, r4, r5, r6, r7) := H
   have A4 := Aside0.mk A40
   clear A40
   by_cases c5 : 14 < (l0.length : Int)
   ·rw [if_pos c5] at H
    have c5b0 : decide (14 < (l0.length : Int)) = true := decide_eq_true c5
    have c5b1 : decide (14 < l0.length) = true := decide_eq_true (by omega)
    clear c5
    by_cases c6 : 15 < (l0.length : Int)
    ·rw [if_pos c6] at H
     have c6b0 : decide (15 < (l0.length : Int)) = true := decide_eq_true c6
     have c6b1 : decide (15 < l0.length) = true := decide_eq_true (by omega)
     clear c6
     by_cases c7 : t148 = (Go.bits .or .i64 (wrap64 ((wrap64 (rd l0 14)) * 256)) (wrap64 (rd l0 15)))
     ·rw [if_pos c7] at H
      have c7b0 : (t148 == (Go.bits .or .i64 (wrap64 ((wrap64 (rd l0 14)) * 256)) (wrap64 (rd l0 15)))) = true := beq_iff_eq.mpr c7
      have c7b1 : (t148 != (Go.bits .or .i64 (wrap64 ((wrap64 (rd l0 14)) * 256)) (wrap64 (rd l0 15)))) = false := bne_eq_false_iff_eq.mpr c7
      clear c7
      by_cases c8 : 0 < (l0.length : Int)
      ·rw [if_pos c8] at H
       have c8b0 : decide (0 < (l0.length : Int)) = true := decide_eq_true c8
       have c8b1 : decide (0 < l0.length) = true := decide_eq_true (by omega)
       clear c8
       by_cases c9 : 1 < (l0.length : Int)
       ·rw [if_pos c9] at H
        have c9b0 : decide (1 < (l0.length : Int)) = true := decide_eq_true c9
        have c9b1 : decide (1 < l0.length) = true := decide_eq_true (by omega)
        clear c9
        by_cases c10 : 2 < (l0.length : Int)
        ·rw [if_pos c10] at H
         have c10b0 : decide (2 < (l0.length : Int)) = true := decide_eq_true c10
         have c10b1 : decide (2 < l0.length) = true := decide_eq_true (by omega)
         clear c10
         by_cases c11 : 3 < (l0.length : Int)
         ·rw [if_pos c11] at H
          have c11b0 : decide (3 < (l0.length : Int)) = true := decide_eq_true c11
          have c11b1 : decide (3 < l0.length) = true := decide_eq_true (by omega)
          clear c11
          by_cases c12 : 4 < (l0.length : Int)
          ·rw [if_pos c12] at H
           have c12b0 : decide (4 < (l0.length : Int)) = true := decide_eq_true c12
           have c12b1 : decide (4 < l0.length) = true := decide_eq_true (by omega)
           clear c12
           by_cases c13 : 5 ≤ (l0.length : Int)
           ·rw [if_pos c13] at H
            have c13b0 := eq_true c13
            have c13b1 : decide (5 ≤ (l0.length : Int)) = true := decide_eq_true c13
            clear c13
            replace H := Option.bind_eq_some_iff.mp H
            obtain ⟨t157, A140, H⟩ := H
            replace H : (if 8 ≤ (l0.length : Int) then ((impl_number24.f (l0.drop 8)).bind fun t159 => (if 11 < (l0.length : Int) then (if 12 < (l0.length : Int) then (if 13 < (l0.length : Int) then (if (rd l0 13) = 0 then ((impl_ReportOk.f (wrap64 (rd l0 0)) (Go.bits .or .i64 (Go.bits .or .i64 (Go.bits .or .i64 (wrap64 ((wrap64 (rd l0 1)) * 16777216)) (wrap64 ((wrap64 (rd l0 2)) * 65536))) (wrap64 ((wrap64 (rd l0 3)) * 256))) (wrap64 (rd l0 4))) t157 t159 (wrap64 (rd l0 11)) (wrap64 (rd l0 12))).bind fun t164 => (if t164 = true then (some (wrap64 (rd l0 0), Go.bits .or .i64 (Go.bits .or .i64 (Go.bits .or .i64 (wrap64 ((wrap64 (rd l0 1)) * 16777216)) (wrap64 ((wrap64 (rd l0 2)) * 65536))) (wrap64 ((wrap64 (rd l0 3)) * 256))) (wrap64 (rd l0 4)), t157, t159, wrap64 (rd l0 11), wrap64 (rd l0 12), 0)) else (some (0, 0, 0, 0, 0, 0, 3)))) else (some (0, 0, 0, 0, 0, 0, 3))) else (none)) else (none)) else (none))) else (none)) = some (r1, r2, r3, r4, r5, r6, r7) := H
            have A14 := Aside0.mk A140
            clear A140
            by_cases c15 : 8 ≤ (l0.length : Int)
            ·rw [if_pos c15] at H
             have c15b0 := eq_true c15
             have c15b1 : decide (8 ≤ (l0.length : Int)) = true := decide_eq_true c15
             clear c15
             replace H := Option.bind_eq_some_iff.mp H
             obtain ⟨t159, A160, H⟩ := H
             replace H : (if 11 < (l0.length : Int) then (if 12 < (l0.length : Int) then (if 13 < (l0.length : Int) then (if (rd l0 13) = 0 then ((impl_ReportOk.f (wrap64 (rd l0 0)) (Go.bits .or .i64 (Go.bits .or .i64 (Go.bits .or .i64 (wrap64 ((wrap64 (rd l0 1)) * 16777216)) (wrap64 ((wrap64 (rd l0 2)) * 65536))) (wrap64 ((wrap64 (rd l0 3)) * 256))) (wrap64 (rd l0 4))) t157 t159 (wrap64 (rd l0 11)) (wrap64 (rd l0 12))).bind fun t164 => (if t164 = true then (some (wrap64 (rd l0 0), Go.bits .or .i64 (Go.bits .or .i64 (Go.bits .or .i64 (wrap64 ((wrap64 (rd l0 1)) * 16777216)) (wrap64 ((wrap64 (rd l0 2)) * 65536))) (wrap64 ((wrap64 (rd l0 3)) * 256))) (wrap64 (rd l0 4)), t157, t159, wrap64 (rd l0 11), wrap64 (rd l0 12), 0)) else (some (0, 0, 0, 0, 0, 0, 3)))) else (some (0, 0, 0, 0, 0, 0, 3))) else (none)) else (none)) else (none)) = some (r1, r2, r3, r4, r5, r6, r7) := H
             have A16 := Aside0.mk A160
             clear A160
             by_cases c17 : 11 < (l0.length : Int)
             ·rw [if_pos c17] at H
              have c17b0 : decide (11 < (l0.length : Int)) = true := decide_eq_true c17
              have c17b1 : decide (11 < l0.length) = true := decide_eq_true (by omega)
              clear c17
              by_cases c18 : 12 < (l0.length : Int)
              ·rw [if_pos c18] at H
               have c18b0 : decide (12 < (l0.length : Int)) = true := decide_eq_true c18
               have c18b1 : decide (12 < l0.length) = true := decide_eq_true (by omega)
               clear c18
               by_cases c19 : 13 < (l0.length : Int)
               ·rw [if_pos c19] at H
                have c19b0 : decide (13 < (l0.length : Int)) = true := decide_eq_true c19
                have c19b1 : decide (13 < l0.length) = true := decide_eq_true (by omega)
                clear c19
                by_cases c20 : (rd l0 13) = 0
                ·rw [if_pos c20] at H
                 have c20b0 : ((rd l0 13) == 0) = true := beq_iff_eq.mpr c20
                 have c20b1 : ((rd l0 13) != 0) = false := bne_eq_false_iff_eq.mpr c20
                 clear c20
                 replace H := Option.bind_eq_some_iff.mp H
                 obtain ⟨t164, A210, H⟩ := H
                 replace H : (if t164 = true then (some (wrap64 (rd l0 0), Go.bits .or .i64 (Go.bits .or .i64 (Go.bits .or .i64 (wrap64 ((wrap64 (rd l0 1)) * 16777216)) (wrap64 ((wrap64 (rd l0 2)) * 65536))) (wrap64 ((wrap64 (rd l0 3)) * 256))) (wrap64 (rd l0 4)), t157, t159, wrap64 (rd l0 11), wrap64 (rd l0 12), 0)) else (some (0, 0, 0, 0, 0, 0, 3))) = some (r1, r2, r3, r4, r5, r6, r7) := H
                 have A21 := Aside0.mk A210
                 clear A210
                 by_cases c22 : t164 = true
                 ·subst c22
                  have H1 : (some (wrap64 (rd l0 0), Go.bits .or .i64 (Go.bits .or .i64 (Go.bits .or .i64 (wrap64 ((wrap64 (rd l0 1)) * 16777216)) (wrap64 ((wrap64 (rd l0 2)) * 65536))) (wrap64 ((wrap64 (rd l0 3)) * 256))) (wrap64 (rd l0 4)), t157, t159, wrap64 (rd l0 11), wrap64 (rd l0 12), 0)) = some (r1, r2, r3, r4, r5, r6, r7) := by rw [if_pos rfl] at H; exact H
                  clear H
                  have H := H1
                  clear H1
                  simp only [Option.some.injEq, Prod.mk.injEq] at H
                  obtain ⟨rfl, rfl, rfl, rfl, rfl, rfl, rfl⟩ := H
                  go_enter Try.func42, Try.ntmps42
                  try go_wp2_with (first | ((with_reducible refine gate_dst (N := 2) rfl ?_); refine box_event ?hg (N := 2) ?hd (cs := #[.int .i64 0, .int .i64 0, .int .i64 0, .int .i64 0, .int .i64 0, .int .i64 0]) (t := 31) ?hr ?_; (case hd => rfl); (case hg => rfl); (case hr => first | (go_simp; done) | (go_simp; rfl)); intro gb146 hg w23 hbox hb; have n0_ := Aside0.mk (below_step (by repeat (first | (with_reducible first | exact HB.out | apply below_alloc | apply pw_below_drewN | apply below_drew1) | exact HB.out)) hb); have n1_ := Aside0.mk (hbox); have n2_ := Aside0.mk ((by rw [hg]; exact (below_size (by repeat (first | (with_reducible first | exact HB.out | apply below_alloc | apply pw_below_drewN | apply below_drew1) | exact HB.out))) : w.heap.size ≤ gb146)); have n3_ := Aside0.mk ((by rw [hg]; exact (below_size (by repeat (first | (with_reducible first | exact HB.out | apply below_alloc | apply pw_below_drewN | apply below_drew1) | exact HB.out))) : w.heap.size ≤ gb146)); clear HB; have HB := n0_; have BK146 := n1_; have GW146 := n2_; have GE146 := n3_; clear n0_ n1_ n2_ n3_; clear hb hbox hg))
                  have n0_ := Aside0.mk (blk_drew BK146.out)
                  have n1_ := Aside0.mk (below_drew1 HB.out)
                  clear BK146 HB
                  have BK146 := n0_
                  have HB := n1_
                  clear n0_ n1_
                  obtain ⟨i025, hi025, _, hsz25, _⟩ := info_parts info5
                  obtain ⟨hcut25, hA25, hC25⟩ := print_take_of (P := Try.prog) (Value.int .u8) 0 34 5 .i64 Try.underlying34 hi025 hsz25 A0 c0 l0 14 (by omega) (of_decide_eq_true (by first | (with_reducible assumption) | assumption)) HC0.out
                  have HR147 := Aside0.mk (Kd.C_of_reads (h1 := fun _ => rfl) (hA25 _ (Kd.reads_of_C HR0.out)))
                  have HC147 := Aside0.mk hC25
                  clear hA25 hC25 hi025 hsz25
                  have p149 : 0 ≤ (14 : Int) := (by omega)
                  have q149 : 14 < (l0.length : Int) := of_decide_eq_true (by first | (with_reducible assumption) | assumption)
                  obtain ⟨ad149, e149, hx149_0⟩ := Kd.at_int HR0.out 14 p149 q149
                  have hw149_0 := hx149_0
                  (try rw [show ((14 : Int)).toNat = 14 from rfl] at hw149_0)
                  (try rw [show 14 * 1 = 14 from rfl] at hw149_0)
                  (try simp only [Nat.reduceMul, Nat.reduceEqDiff, Go.Addr.add, ↓reduceIte] at hw149_0)
                  cases e149
                  (try simp only [show (14 : Int).toNat = 14 from rfl, Nat.reduceMul, Nat.reduceEqDiff, Go.Addr.add, ↓reduceIte] at hx149_0)
                  have qi149 : (14 < l0.length) = True := eq_true (by omega)
                  (try rw [show ((14 : Int)).toNat = 14 from rfl] at hx149_0)
                  replace hx149_0 := (HB.out.cell (World.block_lt_of_cell? w _ hx149_0)).trans hx149_0
                  replace p149 := eq_true p149
                  replace q149 := eq_true q149
                  have p150 : 0 ≤ (15 : Int) := (by omega)
                  have q150 : 15 < (l0.length : Int) := of_decide_eq_true (by first | (with_reducible assumption) | assumption)
                  obtain ⟨ad150, e150, hx150_0⟩ := Kd.at_int HR0.out 15 p150 q150
                  have hw150_0 := hx150_0
                  (try rw [show ((15 : Int)).toNat = 15 from rfl] at hw150_0)
                  (try rw [show 15 * 1 = 15 from rfl] at hw150_0)
                  (try simp only [Nat.reduceMul, Nat.reduceEqDiff, Go.Addr.add, ↓reduceIte] at hw150_0)
                  obtain rfl : ad149 = ad150 := (by injection e150)
                  (try simp only [show (15 : Int).toNat = 15 from rfl, Nat.reduceMul, Nat.reduceEqDiff, Go.Addr.add, ↓reduceIte] at hx150_0)
                  have qi150 : (15 < l0.length) = True := eq_true (by omega)
                  (try rw [show ((15 : Int)).toNat = 15 from rfl] at hx150_0)
                  replace hx150_0 := (HB.out.cell (World.block_lt_of_cell? w _ hx150_0)).trans hx150_0
                  replace p150 := eq_true p150
                  replace q150 := eq_true q150
                  refine start_ (n := 14) (S := fun w' => w'.cell? ⟨ad149.block, ad149.off + 14, none⟩ = some (.int .u8 (rd l0 14)) ∧ w'.cell? ⟨ad149.block, ad149.off + 15, none⟩ = some (.int .u8 (rd l0 15))) (ds := []) #[false, false, false, false, false, false, false, false, false, false, false, false, false, false] (by kernel_rfl) rfl rfl ⟨((HB.out.cell (World.block_lt_of_cell? w _ hw149_0)).trans hw149_0), ((HB.out.cell (World.block_lt_of_cell? w _ hw150_0)).trans hw150_0)⟩ (fun hHeld => ?_); refine with_tabW impl_ReadReport.tab4 impl_ReadReport.bits4 (fun HT_ HW_ => ?_)
                  generalize w23.drew = w24 at BK146 HB HR147 hx149_0 hx150_0 hHeld ⊢
                  refine pure_ (i := 0) (N := some 11) (v := ?_) (a' := ?_) (bz 14 1) rfl rfl (any_of HT_.out (by kernel_rfl)) (fun _ _ _ h => h) (Or.inl ⟨by rfl, ?_⟩) ?_ ?_
                  rotate_left
                  ·intro w'
                   go_simp
                   with_reducible rfl
                  rotate_left
                  ·simp only [Act.put, y1, y2, y3, i64_w, i32_w]
                   rfl
                  refine pure_ (i := 1) (N := some 12) (v := ?_) (a' := ?_) (bz 14 3) rfl rfl (any_of HT_.out (by kernel_rfl)) (fun _ _ _ h => h) (Or.inl ⟨by rfl, ?_⟩) ?_ ?_
                  rotate_left
                  ·intro w'
                   go_simp
                   with_reducible rfl
                  rotate_left
                  ·simp only [Act.put, y1, y2, y3, i64_w, i32_w]
                   rfl
                  refine pure_ (i := 3) (N := some 14) (v := ?_) (a' := ?_) (bz 14 11) rfl rfl (any_of HT_.out (by kernel_rfl)) (fun _ _ _ h => h) (Or.inl ⟨by rfl, ?_⟩) ?_ ?_
                  rotate_left
                  ·intro w'
                   go_simp
                   with_reducible rfl
                  rotate_left
                  ·simp only [Act.put, y1, y2, y3, i64_w, i32_w]
                   rfl
                  refine pure_ (i := 4) (N := some 15) (v := ?_) (a' := ?_) (bz 14 27) rfl rfl (any_of HT_.out (by kernel_rfl)) (fun _ _ _ h => h) (Or.inl ⟨by rfl, ?_⟩) ?_ ?_
                  rotate_left
                  ·intro w'
                   go_simp
                   with_reducible rfl
                  rotate_left
                  ·simp only [Act.put, y1, y2, y3, i64_w, i32_w]
                   rfl
                  refine pure_ (i := 8) (N := some 19) (v := ?_) (a' := ?_) (bz 14 283) rfl rfl (any_of HT_.out (by kernel_rfl)) (fun _ _ _ h => h) (Or.inl ⟨by rfl, ?_⟩) ?_ ?_
                  rotate_left
                  ·intro w'
                   go_simp
                   with_reducible rfl
                  rotate_left
                  ·simp only [Act.put, y1, y2, y3, i64_w, i32_w]
                   rfl
                  refine pure_ (i := 9) (N := some 20) (v := ?_) (a' := ?_) (bz 14 795) rfl rfl (any_of HT_.out (by kernel_rfl)) (fun _ _ _ h => h) (Or.inl ⟨by rfl, ?_⟩) ?_ ?_
                  rotate_left
                  ·intro w'
                   go_simp
                   with_reducible rfl
                  rotate_left
                  ·simp only [Act.put, y1, y2, y3, i64_w, i32_w]
                   rfl
                  refine take_ (i := 5) (N := some 16) (v := ?_) (a' := ?_) (bz 14 827) rfl rfl (take_ofW HT_.out HW_.out (by kernel_rfl)) (fun _ _ _ h => h) (Or.inl ⟨by rfl, ?_⟩) hHeld ?_ ?_
                  rotate_left
                  ·rintro w' ⟨s0, s1⟩
                   go_simp
                   with_reducible rfl
                  rotate_left
                  ·simp only [Act.put, y1, y2, y3, i64_w, i32_w]
                   rfl
                  refine pure_ (i := 6) (N := some 17) (v := ?_) (a' := ?_) (bz 14 891) rfl rfl (any_of HT_.out (by kernel_rfl)) (fun _ _ _ h => h) (Or.inl ⟨by rfl, ?_⟩) ?_ ?_
                  rotate_left
                  ·intro w'
                   go_simp
                   with_reducible rfl
                  rotate_left
                  ·simp only [Act.put, y1, y2, y3, i64_w, i32_w]
                   rfl
                  refine pure_ (i := 7) (N := some 18) (v := ?_) (a' := ?_) (bz 14 1019) rfl rfl (any_of HT_.out (by kernel_rfl)) (fun _ _ _ h => h) (Or.inl ⟨by rfl, ?_⟩) ?_ ?_
                  rotate_left
                  ·intro w'
                   go_simp
                   with_reducible rfl
                  rotate_left
                  ·simp only [Act.put, y1, y2, y3, i64_w, i32_w]
                   rfl
                  refine take_ (i := 10) (N := some 21) (v := ?_) (a' := ?_) (bz 14 2043) rfl rfl (take_ofW HT_.out HW_.out (by kernel_rfl)) (fun _ _ _ h => h) (Or.inl ⟨by rfl, ?_⟩) hHeld ?_ ?_
                  rotate_left
                  ·rintro w' ⟨s0, s1⟩
                   go_simp
                   with_reducible rfl
                  rotate_left
                  ·simp only [Act.put, y1, y2, y3, i64_w, i32_w]
                   rfl
                  refine pure_ (i := 11) (N := some 22) (v := ?_) (a' := ?_) (bz 14 4091) rfl rfl (any_of HT_.out (by kernel_rfl)) (fun _ _ _ h => h) (Or.inl ⟨by rfl, ?_⟩) ?_ ?_
                  rotate_left
                  ·intro w'
                   go_simp
                   with_reducible rfl
                  rotate_left
                  ·simp only [Act.put, y1, y2, y3, i64_w, i32_w]
                   rfl
                  refine pure_ (i := 12) (N := some 23) (v := ?_) (a' := ?_) (bz 14 8187) rfl rfl (any_of HT_.out (by kernel_rfl)) (fun _ _ _ h => h) (Or.inl ⟨by rfl, ?_⟩) ?_ ?_
                  rotate_left
                  ·intro w'
                   go_simp
                   with_reducible rfl
                  rotate_left
                  ·simp only [Act.put, y1, y2, y3, i64_w, i32_w]
                   rfl
                  refine one_ (i := 2) (N := some 13) (bz 14 8191) rfl rfl (one_of HT_.out (by kernel_rfl)) (by decide) (fun K hK => ?_)
                  refine goes_ Try.func85 (by kernel_rfl) rfl #[.slice (some ad149) (l0.take 14).length c0] (by rfl) rfl rfl (by (try simp only [List.map_toArray, List.map_cons, List.map_nil]); first | done | (rw [show (l0.take 14).length = 14 from (by rw [List.length_take]; have h_ : (14 : Int) ≤ (l0.length : Int) := of_decide_eq_true (by first | (with_reducible assumption) | assumption); omega)] <;> rfl) | rfl | (simp only [List.length_drop, List.length_take]; rfl)) ?_
                  with_reducible refine (impl_frameCheck.calls k _ _ (l0.take 14) t148 _ ?side1 ?side2 A4.out).mono ?_
                  (case side1 => repeat (first | exact (Kd.C_below HR147.out HB.out) | (with_reducible refine Kd.C_alloc ?_ _) | (with_reducible refine Kd.C_drewN ?_ _) | (with_reducible refine Kd.C_drew ?_)))
                  (case side2 => exact HC147.out)
                  rintro e w' ⟨rfl, ⟨nd, rfl⟩⟩
                  refine ⟨_, rfl, ?_⟩
                  refine hK.out _ _ ⟨((HB.out.cell (World.block_lt_of_cell? w _ hw149_0)).trans hw149_0), ((HB.out.cell (World.block_lt_of_cell? w _ hw150_0)).trans hw150_0)⟩ (fun hHeld => ?_)
                  clear hK K
                  refine norm_ (a' := ?_) ?_ ?_
                  rotate_left
                  ·show Act.put _ (some 13) _ = _
                   simp only [Act.put, y1, y2, y3, i64_w, i32_w]
                   rfl
                  refine pure_ (i := 13) (N := some 24) (v := ?_) (a' := ?_) (bz 14 16383) rfl rfl (any_of HT_.out (by kernel_rfl)) (fun _ _ _ h => h) (Or.inl ⟨by rfl, ?_⟩) ?_ ?_
                  rotate_left
                  ·intro w'
                   go_simp
                   with_reducible rfl
                  rotate_left
                  ·simp only [Act.put, y1, y2, y3, i64_w, i32_w]
                   rfl
                  refine done_ (done_of HT_.out (by kernel_rfl)) ?_
                  try go_wp2
                  (try (rw [drewN_self w24]; generalize hq_ : World.drewN w24 _ = w24; have n0_ : Aside0 (w24.heap[gb146]? = some (.cells #[.int .i64 0, .int .i64 0, .int .i64 0, .int .i64 0, .int .i64 0, .int .i64 0] 31 (0, 0))) := ⟨by rw [← hq_]; exact (by (with_reducible repeat (first | refine z1 ?_ _ | refine z2 ?_ | refine z3 ?_ _)); exact BK146.out)⟩; have n1_ : Aside0 (Below w.heap.size w w24) := ⟨by rw [← hq_]; exact (by repeat (first | (with_reducible first | exact HB.out | apply below_alloc | apply pw_below_drewN | apply below_drew1 | refine below_set ?_ GE146.out) | exact HB.out))⟩; clear BK146 HB hq_; have BK146 := n0_; have HB := n1_; clear n0_ n1_))
                  have n0_ := Aside0.mk (blk_drew BK146.out)
                  have n1_ := Aside0.mk (below_drew1 HB.out)
                  clear BK146 HB
                  have BK146 := n0_
                  have HB := n1_
                  clear n0_ n1_
                  have p151 : 0 ≤ (0 : Int) := (by omega)
                  have q151 : 0 < (l0.length : Int) := of_decide_eq_true (by first | (with_reducible assumption) | assumption)
                  obtain ⟨ad151, e151, hx151_0⟩ := Kd.at_int HR0.out 0 p151 q151
                  have hw151_0 := hx151_0
                  (try rw [show ((0 : Int)).toNat = 0 from rfl] at hw151_0)
                  (try rw [show 0 * 1 = 0 from rfl] at hw151_0)
                  (try rw [Addr.add_zero'] at hw151_0)
                  obtain rfl : ad149 = ad151 := (by injection e151)
                  have qi151 : (0 < l0.length) = True := eq_true (by omega)
                  (try rw [show ((0 : Int)).toNat = 0 from rfl] at hx151_0)
                  (try rw [Addr.add_zero'] at hx151_0)
                  replace hx151_0 := (HB.out.cell (World.block_lt_of_cell? w _ hx151_0)).trans hx151_0
                  replace p151 := eq_true p151
                  replace q151 := eq_true q151
                  have p152 : 0 ≤ (1 : Int) := (by omega)
                  have q152 : 1 < (l0.length : Int) := of_decide_eq_true (by first | (with_reducible assumption) | assumption)
                  obtain ⟨ad152, e152, hx152_0⟩ := Kd.at_int HR0.out 1 p152 q152
                  have hw152_0 := hx152_0
                  (try rw [show ((1 : Int)).toNat = 1 from rfl] at hw152_0)
                  (try rw [show 1 * 1 = 1 from rfl] at hw152_0)
                  (try simp only [Nat.reduceMul, Nat.reduceEqDiff, Go.Addr.add, ↓reduceIte] at hw152_0)
                  obtain rfl : ad149 = ad152 := (by injection e152)
                  (try simp only [show (1 : Int).toNat = 1 from rfl, Nat.reduceMul, Nat.reduceEqDiff, Go.Addr.add, ↓reduceIte] at hx152_0)
                  have qi152 : (1 < l0.length) = True := eq_true (by omega)
                  (try rw [show ((1 : Int)).toNat = 1 from rfl] at hx152_0)
                  replace hx152_0 := (HB.out.cell (World.block_lt_of_cell? w _ hx152_0)).trans hx152_0
                  replace p152 := eq_true p152
                  replace q152 := eq_true q152
                  have p153 : 0 ≤ (2 : Int) := (by omega)
                  have q153 : 2 < (l0.length : Int) := of_decide_eq_true (by first | (with_reducible assumption) | assumption)
                  obtain ⟨ad153, e153, hx153_0⟩ := Kd.at_int HR0.out 2 p153 q153
                  have hw153_0 := hx153_0
                  (try rw [show ((2 : Int)).toNat = 2 from rfl] at hw153_0)
                  (try rw [show 2 * 1 = 2 from rfl] at hw153_0)
                  (try simp only [Nat.reduceMul, Nat.reduceEqDiff, Go.Addr.add, ↓reduceIte] at hw153_0)
                  obtain rfl : ad149 = ad153 := (by injection e153)
                  (try simp only [show (2 : Int).toNat = 2 from rfl, Nat.reduceMul, Nat.reduceEqDiff, Go.Addr.add, ↓reduceIte] at hx153_0)
                  have qi153 : (2 < l0.length) = True := eq_true (by omega)
                  (try rw [show ((2 : Int)).toNat = 2 from rfl] at hx153_0)
                  replace hx153_0 := (HB.out.cell (World.block_lt_of_cell? w _ hx153_0)).trans hx153_0
                  replace p153 := eq_true p153
                  replace q153 := eq_true q153
                  have p154 : 0 ≤ (3 : Int) := (by omega)
                  have q154 : 3 < (l0.length : Int) := of_decide_eq_true (by first | (with_reducible assumption) | assumption)
                  obtain ⟨ad154, e154, hx154_0⟩ := Kd.at_int HR0.out 3 p154 q154
                  have hw154_0 := hx154_0
                  (try rw [show ((3 : Int)).toNat = 3 from rfl] at hw154_0)
                  (try rw [show 3 * 1 = 3 from rfl] at hw154_0)
                  (try simp only [Nat.reduceMul, Nat.reduceEqDiff, Go.Addr.add, ↓reduceIte] at hw154_0)
                  obtain rfl : ad149 = ad154 := (by injection e154)
                  (try simp only [show (3 : Int).toNat = 3 from rfl, Nat.reduceMul, Nat.reduceEqDiff, Go.Addr.add, ↓reduceIte] at hx154_0)
                  have qi154 : (3 < l0.length) = True := eq_true (by omega)
                  (try rw [show ((3 : Int)).toNat = 3 from rfl] at hx154_0)
                  replace hx154_0 := (HB.out.cell (World.block_lt_of_cell? w _ hx154_0)).trans hx154_0
                  replace p154 := eq_true p154
                  replace q154 := eq_true q154
                  have p155 : 0 ≤ (4 : Int) := (by omega)
                  have q155 : 4 < (l0.length : Int) := of_decide_eq_true (by first | (with_reducible assumption) | assumption)
                  obtain ⟨ad155, e155, hx155_0⟩ := Kd.at_int HR0.out 4 p155 q155
                  have hw155_0 := hx155_0
                  (try rw [show ((4 : Int)).toNat = 4 from rfl] at hw155_0)
                  (try rw [show 4 * 1 = 4 from rfl] at hw155_0)
                  (try simp only [Nat.reduceMul, Nat.reduceEqDiff, Go.Addr.add, ↓reduceIte] at hw155_0)
                  obtain rfl : ad149 = ad155 := (by injection e155)
                  (try simp only [show (4 : Int).toNat = 4 from rfl, Nat.reduceMul, Nat.reduceEqDiff, Go.Addr.add, ↓reduceIte] at hx155_0)
                  have qi155 : (4 < l0.length) = True := eq_true (by omega)
                  (try rw [show ((4 : Int)).toNat = 4 from rfl] at hx155_0)
                  replace hx155_0 := (HB.out.cell (World.block_lt_of_cell? w _ hx155_0)).trans hx155_0
                  replace p155 := eq_true p155
                  replace q155 := eq_true q155
                  obtain ⟨i027, hi027, _, hsz27, _⟩ := info_parts info5
                  obtain ⟨A27, hcut27, hA27, hC27⟩ := print_drop_of (P := Try.prog) (Value.int .u8) 0 34 5 .i64 Try.underlying34 hi027 hsz27 (some ad149) c0 l0 5 (by omega) (of_decide_eq_true (by first | (with_reducible assumption) | assumption)) HC0.out
                  have HR156 := Aside0.mk (Kd.C_of_reads (h1 := fun _ => rfl) (hA27 _ (Kd.reads_of_C HR0.out)))
                  have HC156 := Aside0.mk hC27
                  clear hA27 hC27 hi027 hsz27
                  obtain ⟨i028, hi028, _, hsz28, _⟩ := info_parts info5
                  obtain ⟨A28, hcut28, hA28, hC28⟩ := print_drop_of (P := Try.prog) (Value.int .u8) 0 34 5 .i64 Try.underlying34 hi028 hsz28 (some ad149) c0 l0 8 (by omega) (of_decide_eq_true (by first | (with_reducible assumption) | assumption)) HC0.out
                  have HR158 := Aside0.mk (Kd.C_of_reads (h1 := fun _ => rfl) (hA28 _ (Kd.reads_of_C HR0.out)))
                  have HC158 := Aside0.mk hC28
                  clear hA28 hC28 hi028 hsz28
                  have p160 : 0 ≤ (11 : Int) := (by omega)
                  have q160 : 11 < (l0.length : Int) := of_decide_eq_true (by first | (with_reducible assumption) | assumption)
                  obtain ⟨ad160, e160, hx160_0⟩ := Kd.at_int HR0.out 11 p160 q160
                  have hw160_0 := hx160_0
                  (try rw [show ((11 : Int)).toNat = 11 from rfl] at hw160_0)
                  (try rw [show 11 * 1 = 11 from rfl] at hw160_0)
                  (try simp only [Nat.reduceMul, Nat.reduceEqDiff, Go.Addr.add, ↓reduceIte] at hw160_0)
                  obtain rfl : ad149 = ad160 := (by injection e160)
                  (try simp only [show (11 : Int).toNat = 11 from rfl, Nat.reduceMul, Nat.reduceEqDiff, Go.Addr.add, ↓reduceIte] at hx160_0)
                  have qi160 : (11 < l0.length) = True := eq_true (by omega)
                  (try rw [show ((11 : Int)).toNat = 11 from rfl] at hx160_0)
                  replace hx160_0 := (HB.out.cell (World.block_lt_of_cell? w _ hx160_0)).trans hx160_0
                  replace p160 := eq_true p160
                  replace q160 := eq_true q160
                  have p161 : 0 ≤ (12 : Int) := (by omega)
                  have q161 : 12 < (l0.length : Int) := of_decide_eq_true (by first | (with_reducible assumption) | assumption)
                  obtain ⟨ad161, e161, hx161_0⟩ := Kd.at_int HR0.out 12 p161 q161
                  have hw161_0 := hx161_0
                  (try rw [show ((12 : Int)).toNat = 12 from rfl] at hw161_0)
                  (try rw [show 12 * 1 = 12 from rfl] at hw161_0)
                  (try simp only [Nat.reduceMul, Nat.reduceEqDiff, Go.Addr.add, ↓reduceIte] at hw161_0)
                  obtain rfl : ad149 = ad161 := (by injection e161)
                  (try simp only [show (12 : Int).toNat = 12 from rfl, Nat.reduceMul, Nat.reduceEqDiff, Go.Addr.add, ↓reduceIte] at hx161_0)
                  have qi161 : (12 < l0.length) = True := eq_true (by omega)
                  (try rw [show ((12 : Int)).toNat = 12 from rfl] at hx161_0)
                  replace hx161_0 := (HB.out.cell (World.block_lt_of_cell? w _ hx161_0)).trans hx161_0
                  replace p161 := eq_true p161
                  replace q161 := eq_true q161
                  refine start_ (n := 43) (S := fun w' => w'.cell? ad149 = some (.int .u8 (rd l0 0)) ∧ w'.cell? ⟨ad149.block, ad149.off + 1, none⟩ = some (.int .u8 (rd l0 1)) ∧ w'.cell? ⟨ad149.block, ad149.off + 2, none⟩ = some (.int .u8 (rd l0 2)) ∧ w'.cell? ⟨ad149.block, ad149.off + 3, none⟩ = some (.int .u8 (rd l0 3)) ∧ w'.cell? ⟨ad149.block, ad149.off + 4, none⟩ = some (.int .u8 (rd l0 4)) ∧ w'.cell? ⟨ad149.block, ad149.off + 11, none⟩ = some (.int .u8 (rd l0 11)) ∧ w'.cell? ⟨ad149.block, ad149.off + 12, none⟩ = some (.int .u8 (rd l0 12))) (ds := []) #[false, false, false, false, false, false, false, false, false, false, false, false, false, false, false, false, false, false, false, false, false, false, false, false, false, false, false, false, false, false, false, false, false, false, false, false, false, false, false, false, false, false, false] (by kernel_rfl) rfl rfl ⟨((HB.out.cell (World.block_lt_of_cell? w _ hw151_0)).trans hw151_0), ((HB.out.cell (World.block_lt_of_cell? w _ hw152_0)).trans hw152_0), ((HB.out.cell (World.block_lt_of_cell? w _ hw153_0)).trans hw153_0), ((HB.out.cell (World.block_lt_of_cell? w _ hw154_0)).trans hw154_0), ((HB.out.cell (World.block_lt_of_cell? w _ hw155_0)).trans hw155_0), ((HB.out.cell (World.block_lt_of_cell? w _ hw160_0)).trans hw160_0), ((HB.out.cell (World.block_lt_of_cell? w _ hw161_0)).trans hw161_0)⟩ (fun hHeld => ?_); refine with_tabW impl_ReadReport.tab6 impl_ReadReport.bits6 (fun HT_ HW_ => ?_)
                  generalize w24.drew = w26 at BK146 HB HR156 HR158 hx151_0 hx152_0 hx153_0 hx154_0 hx155_0 hx160_0 hx161_0 hHeld ⊢
                  refine pure_ (i := 0) (N := some 26) (v := ?_) (a' := ?_) (bz 43 1) rfl rfl (any_of HT_.out (by kernel_rfl)) (fun _ _ _ h => h) (Or.inl ⟨by rfl, ?_⟩) ?_ ?_
                  rotate_left
                  ·intro w'
                   go_simp
                   with_reducible rfl
                  rotate_left
                  ·simp only [Act.put, y1, y2, y3, i64_w, i32_w]
                   rfl
                  refine pure_ (i := 1) (N := some 27) (v := ?_) (a' := ?_) (bz 43 3) rfl rfl (any_of HT_.out (by kernel_rfl)) (fun _ _ _ h => h) (Or.inl ⟨by rfl, ?_⟩) ?_ ?_
                  rotate_left
                  ·intro w'
                   go_simp
                   with_reducible rfl
                  rotate_left
                  ·simp only [Act.put, y1, y2, y3, i64_w, i32_w]
                   rfl
                  refine pure_ (i := 4) (N := some 30) (v := ?_) (a' := ?_) (bz 43 19) rfl rfl (any_of HT_.out (by kernel_rfl)) (fun _ _ _ h => h) (Or.inl ⟨by rfl, ?_⟩) ?_ ?_
                  rotate_left
                  ·intro w'
                   go_simp
                   with_reducible rfl
                  rotate_left
                  ·simp only [Act.put, y1, y2, y3, i64_w, i32_w]
                   rfl
                  refine pure_ (i := 5) (N := some 31) (v := ?_) (a' := ?_) (bz 43 51) rfl rfl (any_of HT_.out (by kernel_rfl)) (fun _ _ _ h => h) (Or.inl ⟨by rfl, ?_⟩) ?_ ?_
                  rotate_left
                  ·intro w'
                   go_simp
                   with_reducible rfl
                  rotate_left
                  ·simp only [Act.put, y1, y2, y3, i64_w, i32_w]
                   rfl
                  refine pure_ (i := 9) (N := some 35) (v := ?_) (a' := ?_) (bz 43 563) rfl rfl (any_of HT_.out (by kernel_rfl)) (fun _ _ _ h => h) (Or.inl ⟨by rfl, ?_⟩) ?_ ?_
                  rotate_left
                  ·intro w'
                   go_simp
                   with_reducible rfl
                  rotate_left
                  ·simp only [Act.put, y1, y2, y3, i64_w, i32_w]
                   rfl
                  refine pure_ (i := 10) (N := some 36) (v := ?_) (a' := ?_) (bz 43 1587) rfl rfl (any_of HT_.out (by kernel_rfl)) (fun _ _ _ h => h) (Or.inl ⟨by rfl, ?_⟩) ?_ ?_
                  rotate_left
                  ·intro w'
                   go_simp
                   with_reducible rfl
                  rotate_left
                  ·simp only [Act.put, y1, y2, y3, i64_w, i32_w]
                   rfl
                  refine pure_ (i := 15) (N := some 41) (v := ?_) (a' := ?_) (bz 43 34355) rfl rfl (any_of HT_.out (by kernel_rfl)) (fun _ _ _ h => h) (Or.inl ⟨by rfl, ?_⟩) ?_ ?_
                  rotate_left
                  ·intro w'
                   go_simp
                   with_reducible rfl
                  rotate_left
                  ·simp only [Act.put, y1, y2, y3, i64_w, i32_w]
                   rfl
                  refine pure_ (i := 16) (N := some 42) (v := ?_) (a' := ?_) (bz 43 99891) rfl rfl (any_of HT_.out (by kernel_rfl)) (fun _ _ _ h => h) (Or.inl ⟨by rfl, ?_⟩) ?_ ?_
                  rotate_left
                  ·intro w'
                   go_simp
                   with_reducible rfl
                  rotate_left
                  ·simp only [Act.put, y1, y2, y3, i64_w, i32_w]
                   rfl
                  refine pure_ (i := 21) (N := some 47) (v := ?_) (a' := ?_) (bz 43 2197043) rfl rfl (any_of HT_.out (by kernel_rfl)) (fun _ _ _ h => h) (Or.inl ⟨by rfl, ?_⟩) ?_ ?_
                  rotate_left
                  ·intro w'
                   go_simp
                   with_reducible rfl
                  rotate_left
                  ·simp only [Act.put, y1, y2, y3, i64_w, i32_w]
                   rfl
                  refine pure_ (i := 22) (N := some 48) (v := ?_) (a' := ?_) (bz 43 6391347) rfl rfl (any_of HT_.out (by kernel_rfl)) (fun _ _ _ h => h) (Or.inl ⟨by rfl, ?_⟩) ?_ ?_
                  rotate_left
                  ·intro w'
                   go_simp
                   with_reducible rfl
                  rotate_left
                  ·simp only [Act.put, y1, y2, y3, i64_w, i32_w]
                   rfl
                  refine pure_ (i := 26) (N := some 52) (v := ?_) (a' := ?_) (bz 43 73500211) rfl rfl (any_of HT_.out (by kernel_rfl)) (fun _ _ _ h => h) (Or.inl ⟨by rfl, ?_⟩) ?_ ?_
                  rotate_left
                  ·intro w'
                   go_simp
                   with_reducible rfl
                  rotate_left
                  ·simp only [Act.put, y1, y2, y3, i64_w, i32_w]
                   rfl
                  refine pure_ (i := 27) (N := some 53) (v := ?_) (a' := ?_) (bz 43 207717939) rfl rfl (any_of HT_.out (by kernel_rfl)) (fun _ _ _ h => h) (Or.inl ⟨by rfl, ?_⟩) ?_ ?_
                  rotate_left
                  ·intro w'
                   go_simp
                   with_reducible rfl
                  rotate_left
                  ·simp only [Act.put, y1, y2, y3, i64_w, i32_w]
                   rfl
                  refine pure_ (i := 29) (N := some 55) (v := ?_) (a' := ?_) (bz 43 744588851) rfl rfl (any_of HT_.out (by kernel_rfl)) (fun _ _ _ h => h) (Or.inl ⟨by rfl, ?_⟩) ?_ ?_
                  rotate_left
                  ·intro w'
                   go_simp
                   with_reducible rfl
                  rotate_left
                  ·simp only [Act.put, y1, y2, y3, i64_w, i32_w]
                   rfl
                  refine pure_ (i := 30) (N := some 56) (v := ?_) (a' := ?_) (bz 43 1818330675) rfl rfl (any_of HT_.out (by kernel_rfl)) (fun _ _ _ h => h) (Or.inl ⟨by rfl, ?_⟩) ?_ ?_
                  rotate_left
                  ·intro w'
                   go_simp
                   with_reducible rfl
                  rotate_left
                  ·simp only [Act.put, y1, y2, y3, i64_w, i32_w]
                   rfl
                  refine pure_ (i := 32) (N := some 58) (v := ?_) (a' := ?_) (bz 43 6113297971) rfl rfl (any_of HT_.out (by kernel_rfl)) (fun _ _ _ h => h) (Or.inl ⟨by rfl, ?_⟩) ?_ ?_
                  rotate_left
                  ·intro w'
                   go_simp
                   with_reducible rfl
                  rotate_left
                  ·simp only [Act.put, y1, y2, y3, i64_w, i32_w]
                   rfl
                  refine pure_ (i := 33) (N := some 59) (v := ?_) (a' := ?_) (bz 43 14703232563) rfl rfl (any_of HT_.out (by kernel_rfl)) (fun _ _ _ h => h) (Or.inl ⟨by rfl, ?_⟩) ?_ ?_
                  rotate_left
                  ·intro w'
                   go_simp
                   with_reducible rfl
                  rotate_left
                  ·simp only [Act.put, y1, y2, y3, i64_w, i32_w]
                   rfl
                  refine pure_ (i := 36) (N := some 62) (v := ?_) (a' := ?_) (bz 43 83422709299) rfl rfl (any_of HT_.out (by kernel_rfl)) (fun _ _ _ h => h) (Or.inl ⟨by rfl, ?_⟩) ?_ ?_
                  rotate_left
                  ·intro w'
                   go_simp
                   with_reducible rfl
                  rotate_left
                  ·simp only [Act.put, y1, y2, y3, i64_w, i32_w]
                   rfl
                  refine pure_ (i := 37) (N := some 63) (v := ?_) (a' := ?_) (bz 43 220861662771) rfl rfl (any_of HT_.out (by kernel_rfl)) (fun _ _ _ h => h) (Or.inl ⟨by rfl, ?_⟩) ?_ ?_
                  rotate_left
                  ·intro w'
                   go_simp
                   with_reducible rfl
                  rotate_left
                  ·simp only [Act.put, y1, y2, y3, i64_w, i32_w]
                   rfl
                  refine take_ (i := 2) (N := some 28) (v := ?_) (a' := ?_) (bz 43 220861662775) rfl rfl (take_ofW HT_.out HW_.out (by kernel_rfl)) (fun _ _ _ h => h) (Or.inl ⟨by rfl, ?_⟩) hHeld ?_ ?_
                  rotate_left
                  ·rintro w' ⟨s0, s1, s2, s3, s4, s5, s6⟩
                   go_simp
                   with_reducible rfl
                  rotate_left
                  ·simp only [Act.put, y1, y2, y3, i64_w, i32_w]
                   rfl
                  refine pure_ (i := 3) (N := some 29) (v := ?_) (a' := ?_) (bz 43 220861662783) rfl rfl (any_of HT_.out (by kernel_rfl)) (fun _ _ _ h => h) (Or.inl ⟨by rfl, ?_⟩) ?_ ?_
                  rotate_left
                  ·intro w'
                   go_simp
                   with_reducible rfl
                  rotate_left
                  ·simp only [Act.put, y1, y2, y3, i64_w, i32_w]
                   rfl
                  refine take_ (i := 6) (N := some 32) (v := ?_) (a' := ?_) (bz 43 220861662847) rfl rfl (take_ofW HT_.out HW_.out (by kernel_rfl)) (fun _ _ _ h => h) (Or.inl ⟨by rfl, ?_⟩) hHeld ?_ ?_
                  rotate_left
                  ·rintro w' ⟨s0, s1, s2, s3, s4, s5, s6⟩
                   go_simp
                   with_reducible rfl
                  rotate_left
                  ·simp only [Act.put, y1, y2, y3, i64_w, i32_w]
                   rfl
                  refine pure_ (i := 7) (N := some 33) (v := ?_) (a' := ?_) (bz 43 220861662975) rfl rfl (any_of HT_.out (by kernel_rfl)) (fun _ _ _ h => h) (Or.inl ⟨by rfl, ?_⟩) ?_ ?_
                  rotate_left
                  ·intro w'
                   go_simp
                   with_reducible rfl
                  rotate_left
                  ·simp only [Act.put, y1, y2, y3, i64_w, i32_w]
                   rfl
                  refine pure_ (i := 8) (N := some 34) (v := ?_) (a' := ?_) (bz 43 220861663231) rfl rfl (any_of HT_.out (by kernel_rfl)) (fun _ _ _ h => h) (Or.inl ⟨by rfl, ?_⟩) ?_ ?_
                  rotate_left
                  ·intro w'
                   go_simp
                   with_reducible rfl
                  rotate_left
                  ·simp only [Act.put, y1, y2, y3, i64_w, i32_w]
                   rfl
                  refine take_ (i := 11) (N := some 37) (v := ?_) (a' := ?_) (bz 43 220861665279) rfl rfl (take_ofW HT_.out HW_.out (by kernel_rfl)) (fun _ _ _ h => h) (Or.inl ⟨by rfl, ?_⟩) hHeld ?_ ?_
                  rotate_left
                  ·rintro w' ⟨s0, s1, s2, s3, s4, s5, s6⟩
                   go_simp
                   with_reducible rfl
                  rotate_left
                  ·simp only [Act.put, y1, y2, y3, i64_w, i32_w]
                   rfl
                  refine pure_ (i := 12) (N := some 38) (v := ?_) (a' := ?_) (bz 43 220861669375) rfl rfl (any_of HT_.out (by kernel_rfl)) (fun _ _ _ h => h) (Or.inl ⟨by rfl, ?_⟩) ?_ ?_
                  rotate_left
                  ·intro w'
                   go_simp
                   with_reducible rfl
                  rotate_left
                  ·simp only [Act.put, y1, y2, y3, i64_w, i32_w]
                   rfl
                  refine pure_ (i := 13) (N := some 39) (v := ?_) (a' := ?_) (bz 43 220861677567) rfl rfl (any_of HT_.out (by kernel_rfl)) (fun _ _ _ h => h) (Or.inl ⟨by rfl, ?_⟩) ?_ ?_
                  rotate_left
                  ·intro w'
                   go_simp
                   with_reducible rfl
                  rotate_left
                  ·simp only [Act.put, y1, y2, y3, i64_w, i32_w]
                   rfl
                  refine pure_ (i := 14) (N := some 40) (v := ?_) (a' := ?_) (bz 43 220861693951) rfl rfl (any_of HT_.out (by kernel_rfl)) (fun _ _ _ h => h) (Or.inl ⟨by rfl, ?_⟩) ?_ ?_
                  rotate_left
                  ·intro w'
                   go_simp
                   with_reducible rfl
                  rotate_left
                  ·simp only [Act.put, y1, y2, y3, i64_w, i32_w]
                   rfl
                  refine take_ (i := 17) (N := some 43) (v := ?_) (a' := ?_) (bz 43 220861825023) rfl rfl (take_ofW HT_.out HW_.out (by kernel_rfl)) (fun _ _ _ h => h) (Or.inl ⟨by rfl, ?_⟩) hHeld ?_ ?_
                  rotate_left
                  ·rintro w' ⟨s0, s1, s2, s3, s4, s5, s6⟩
                   go_simp
                   with_reducible rfl
                  rotate_left
                  ·simp only [Act.put, y1, y2, y3, i64_w, i32_w]
                   rfl
                  refine pure_ (i := 18) (N := some 44) (v := ?_) (a' := ?_) (bz 43 220862087167) rfl rfl (any_of HT_.out (by kernel_rfl)) (fun _ _ _ h => h) (Or.inl ⟨by rfl, ?_⟩) ?_ ?_
                  rotate_left
                  ·intro w'
                   go_simp
                   with_reducible rfl
                  rotate_left
                  ·simp only [Act.put, y1, y2, y3, i64_w, i32_w]
                   rfl
                  refine pure_ (i := 19) (N := some 45) (v := ?_) (a' := ?_) (bz 43 220862611455) rfl rfl (any_of HT_.out (by kernel_rfl)) (fun _ _ _ h => h) (Or.inl ⟨by rfl, ?_⟩) ?_ ?_
                  rotate_left
                  ·intro w'
                   go_simp
                   with_reducible rfl
                  rotate_left
                  ·simp only [Act.put, y1, y2, y3, i64_w, i32_w]
                   rfl
                  refine pure_ (i := 20) (N := some 46) (v := ?_) (a' := ?_) (bz 43 220863660031) rfl rfl (any_of HT_.out (by kernel_rfl)) (fun _ _ _ h => h) (Or.inl ⟨by rfl, ?_⟩) ?_ ?_
                  rotate_left
                  ·intro w'
                   go_simp
                   with_reducible rfl
                  rotate_left
                  ·simp only [Act.put, y1, y2, y3, i64_w, i32_w]
                   rfl
                  refine take_ (i := 23) (N := some 49) (v := ?_) (a' := ?_) (bz 43 220872048639) rfl rfl (take_ofW HT_.out HW_.out (by kernel_rfl)) (fun _ _ _ h => h) (Or.inl ⟨by rfl, ?_⟩) hHeld ?_ ?_
                  rotate_left
                  ·rintro w' ⟨s0, s1, s2, s3, s4, s5, s6⟩
                   go_simp
                   with_reducible rfl
                  rotate_left
                  ·simp only [Act.put, y1, y2, y3, i64_w, i32_w]
                   rfl
                  refine pure_ (i := 24) (N := some 50) (v := ?_) (a' := ?_) (bz 43 220888825855) rfl rfl (any_of HT_.out (by kernel_rfl)) (fun _ _ _ h => h) (Or.inl ⟨by rfl, ?_⟩) ?_ ?_
                  rotate_left
                  ·intro w'
                   go_simp
                   with_reducible rfl
                  rotate_left
                  ·simp only [Act.put, y1, y2, y3, i64_w, i32_w]
                   rfl
                  refine pure_ (i := 25) (N := some 51) (v := ?_) (a' := ?_) (bz 43 220922380287) rfl rfl (any_of HT_.out (by kernel_rfl)) (fun _ _ _ h => h) (Or.inl ⟨by rfl, ?_⟩) ?_ ?_
                  rotate_left
                  ·intro w'
                   go_simp
                   with_reducible rfl
                  rotate_left
                  ·simp only [Act.put, y1, y2, y3, i64_w, i32_w]
                   rfl
                  refine take_ (i := 34) (N := some 60) (v := ?_) (a' := ?_) (bz 43 238102249471) rfl rfl (take_ofW HT_.out HW_.out (by kernel_rfl)) (fun _ _ _ h => h) (Or.inl ⟨by rfl, ?_⟩) hHeld ?_ ?_
                  rotate_left
                  ·rintro w' ⟨s0, s1, s2, s3, s4, s5, s6⟩
                   go_simp
                   with_reducible rfl
                  rotate_left
                  ·simp only [Act.put, y1, y2, y3, i64_w, i32_w]
                   rfl
                  refine pure_ (i := 35) (N := some 61) (v := ?_) (a' := ?_) (bz 43 272461987839) rfl rfl (any_of HT_.out (by kernel_rfl)) (fun _ _ _ h => h) (Or.inl ⟨by rfl, ?_⟩) ?_ ?_
                  rotate_left
                  ·intro w'
                   go_simp
                   with_reducible rfl
                  rotate_left
                  ·simp only [Act.put, y1, y2, y3, i64_w, i32_w]
                   rfl
                  refine take_ (i := 38) (N := some 64) (v := ?_) (a' := ?_) (bz 43 547339894783) rfl rfl (take_ofW HT_.out HW_.out (by kernel_rfl)) (fun _ _ _ h => h) (Or.inl ⟨by rfl, ?_⟩) hHeld ?_ ?_
                  rotate_left
                  ·rintro w' ⟨s0, s1, s2, s3, s4, s5, s6⟩
                   go_simp
                   with_reducible rfl
                  rotate_left
                  ·simp only [Act.put, y1, y2, y3, i64_w, i32_w]
                   rfl
                  refine pure_ (i := 39) (N := some 65) (v := ?_) (a' := ?_) (bz 43 1097095708671) rfl rfl (any_of HT_.out (by kernel_rfl)) (fun _ _ _ h => h) (Or.inl ⟨by rfl, ?_⟩) ?_ ?_
                  rotate_left
                  ·intro w'
                   go_simp
                   with_reducible rfl
                  rotate_left
                  ·simp only [Act.put, y1, y2, y3, i64_w, i32_w]
                   rfl
                  refine join_ (σ := Nat) 1 (bz 43 4398046511103) (fun s_ => [(54, .int .i64 t157), (57, .int .i64 t159), (5, .pointer (some ⟨s_, 0, none⟩)), (66, .agg #[.int .i64 (wrap64 (rd l0 0)), .int .i64 (Go.bits .or .i64 (Go.bits .or .i64 (Go.bits .or .i64 (wrap64 ((wrap64 (rd l0 1)) * 16777216)) (wrap64 ((wrap64 (rd l0 2)) * 65536))) (wrap64 ((wrap64 (rd l0 3)) * 256))) (wrap64 (rd l0 4))), .int .i64 t157, .int .i64 t159, .int .i64 (wrap64 (rd l0 11)), .int .i64 (wrap64 (rd l0 12))])]) (fun s_ w' => (w'.cell? ad149 = some (.int .u8 (rd l0 0)) ∧ w'.cell? ⟨ad149.block, ad149.off + 1, none⟩ = some (.int .u8 (rd l0 1)) ∧ w'.cell? ⟨ad149.block, ad149.off + 2, none⟩ = some (.int .u8 (rd l0 2)) ∧ w'.cell? ⟨ad149.block, ad149.off + 3, none⟩ = some (.int .u8 (rd l0 3)) ∧ w'.cell? ⟨ad149.block, ad149.off + 4, none⟩ = some (.int .u8 (rd l0 4)) ∧ w'.cell? ⟨ad149.block, ad149.off + 11, none⟩ = some (.int .u8 (rd l0 11)) ∧ w'.cell? ⟨ad149.block, ad149.off + 12, none⟩ = some (.int .u8 (rd l0 12))) ∧ (w'.heap[gb146]? = some (.cells #[.int .i64 0, .int .i64 0, .int .i64 0, .int .i64 0, .int .i64 0, .int .i64 0] 31 (0, 0))) ∧ (w'.heap[s_]? = some (.cells #[.int .i64 0, .int .i64 0, .int .i64 0, .int .i64 0, .int .i64 0, .int .i64 0] 31 (0, 0))) ∧ (w.heap.size ≤ s_) ∧ (w.heap.size ≤ s_) ∧ (gb146 ≠ s_) ∧ (s_ ≠ gb146) ∧ (Below w.heap.size w w')) ?_ ?_
                  rotate_left
                  ·intro hCont
                   refine two_ (i := 28) (j := 41) (Ni := some 54) (Nj := some 5) (bz 43 1097364144127) (bz 43 3296118964223) rfl rfl rfl rfl (two_of HT_.out (by kernel_rfl)) (by decide) (by decide) (fun K hK => ?_) (fun K hK => ?_)
                   ·skip
                    refine goes_ Try.func86 (by kernel_rfl) rfl #[.slice A27 (l0.drop 5).length (c0 - 5)] (by rfl) rfl rfl (by (try simp only [List.map_toArray, List.map_cons, List.map_nil]); first | done | (rw [show (l0.drop 5).length = (l0.length - 5) from List.length_drop] <;> rfl) | rfl | (simp only [List.length_drop, List.length_take]; rfl)) ?_
                    with_reducible refine (impl_number24.calls _ _ (l0.drop 5) t157 _ ?side1 ?side2 A14.out).mono ?_
                    (case side1 => repeat (first | exact (Kd.C_below HR156.out HB.out) | (with_reducible refine Kd.C_alloc ?_ _) | (with_reducible refine Kd.C_drewN ?_ _) | (with_reducible refine Kd.C_drew ?_)))
                    (case side2 => exact HC156.out)
                    rintro e w' ⟨rfl, ⟨nd, rfl⟩⟩
                    refine ⟨_, rfl, ?_⟩
                    refine hK.out _ _ ⟨((HB.out.cell (World.block_lt_of_cell? w _ hw151_0)).trans hw151_0), ((HB.out.cell (World.block_lt_of_cell? w _ hw152_0)).trans hw152_0), ((HB.out.cell (World.block_lt_of_cell? w _ hw153_0)).trans hw153_0), ((HB.out.cell (World.block_lt_of_cell? w _ hw154_0)).trans hw154_0), ((HB.out.cell (World.block_lt_of_cell? w _ hw155_0)).trans hw155_0), ((HB.out.cell (World.block_lt_of_cell? w _ hw160_0)).trans hw160_0), ((HB.out.cell (World.block_lt_of_cell? w _ hw161_0)).trans hw161_0)⟩ (fun hHeld => ?_)
                    clear hK K
                    refine norm_ (a' := ?_) ?_ ?_
                    rotate_left
                    ·show Act.put _ (some 54) _ = _
                     simp only [Act.put, y1, y2, y3, i64_w, i32_w]
                     rfl
                    refine two_ (i := 31) (j := 41) (Ni := some 57) (Nj := some 5) (bz 43 1099511627775) (bz 43 3296387399679) rfl rfl rfl rfl (two_of HT_.out (by kernel_rfl)) (by decide) (by decide) (fun K hK => ?_) (fun K hK => ?_)
                    ·skip
                     refine goes_ Try.func86 (by kernel_rfl) rfl #[.slice A28 (l0.drop 8).length (c0 - 8)] (by rfl) rfl rfl (by (try simp only [List.map_toArray, List.map_cons, List.map_nil]); first | done | (rw [show (l0.drop 8).length = (l0.length - 8) from List.length_drop] <;> rfl) | rfl | (simp only [List.length_drop, List.length_take]; rfl)) ?_
                     with_reducible refine (impl_number24.calls _ _ (l0.drop 8) t159 _ ?side1 ?side2 A16.out).mono ?_
                     (case side1 => repeat (first | exact (Kd.C_below HR158.out (by repeat (first | (with_reducible first | exact HB.out | apply below_alloc | apply pw_below_drewN | apply below_drew1 | refine below_set ?_ GE146.out) | exact HB.out))) | (with_reducible refine Kd.C_alloc ?_ _) | (with_reducible refine Kd.C_drewN ?_ _) | (with_reducible refine Kd.C_drew ?_)))
                     (case side2 => exact HC158.out)
                     rintro e w' ⟨rfl, ⟨nd, rfl⟩⟩
                     refine ⟨_, rfl, ?_⟩
                     refine hK.out _ _ ⟨((HB.out.cell (World.block_lt_of_cell? w _ hw151_0)).trans hw151_0), ((HB.out.cell (World.block_lt_of_cell? w _ hw152_0)).trans hw152_0), ((HB.out.cell (World.block_lt_of_cell? w _ hw153_0)).trans hw153_0), ((HB.out.cell (World.block_lt_of_cell? w _ hw154_0)).trans hw154_0), ((HB.out.cell (World.block_lt_of_cell? w _ hw155_0)).trans hw155_0), ((HB.out.cell (World.block_lt_of_cell? w _ hw160_0)).trans hw160_0), ((HB.out.cell (World.block_lt_of_cell? w _ hw161_0)).trans hw161_0)⟩ (fun hHeld => ?_)
                     clear hK K
                     refine norm_ (a' := ?_) ?_ ?_
                     rotate_left
                     ·show Act.put _ (some 57) _ = _
                      simp only [Act.put, y1, y2, y3, i64_w, i32_w]
                      rfl
                     refine pure_ (i := 40) (N := some 66) (v := ?_) (a' := ?_) (bz 43 2199023255551) rfl rfl (any_of HT_.out (by kernel_rfl)) (fun _ _ _ h => h) (Or.inl ⟨by rfl, ?_⟩) ?_ ?_
                     rotate_left
                     ·intro w'
                      go_simp
                      with_reducible rfl
                     rotate_left
                     ·simp only [Act.put, y1, y2, y3, i64_w, i32_w]
                      rfl
                     refine one_ (i := 41) (N := some 5) (bz 43 4398046511103) rfl rfl (one_of HT_.out (by kernel_rfl)) (by decide) (fun K hK => ?_)
                     refine box_step ?hg (N := 5) ?hd (cs := #[.int .i64 0, .int .i64 0, .int .i64 0, .int .i64 0, .int .i64 0, .int .i64 0]) (t := 31) ?hr ?_; (case hd => rfl); (case hg => rfl); (case hr => first | (go_simp; done) | (go_simp; rfl))
                     intro gb162 hg w29 hbox hb
                     have n0_ := Aside0.mk (blk_below (g := gb146) (o := .cells #[.int .i64 0, .int .i64 0, .int .i64 0, .int .i64 0, .int .i64 0, .int .i64 0] 31 (0, 0)) (by (with_reducible repeat (first | refine z1 ?_ _ | refine z2 ?_ | refine z3 ?_ _)); exact BK146.out) hb)
                     have n1_ := Aside0.mk (below_step (by repeat (first | (with_reducible first | exact HB.out | apply below_alloc | apply pw_below_drewN | apply below_drew1 | refine below_set ?_ GE146.out) | exact HB.out)) hb)
                     have n2_ := Aside0.mk (hbox)
                     have n3_ := Aside0.mk ((by rw [hg]; exact (below_size (by repeat (first | (with_reducible first | exact HB.out | apply below_alloc | apply pw_below_drewN | apply below_drew1 | refine below_set ?_ GE146.out) | exact HB.out))) : w.heap.size ≤ gb162))
                     have n4_ := Aside0.mk ((by rw [hg]; exact (below_size (by repeat (first | (with_reducible first | exact HB.out | apply below_alloc | apply pw_below_drewN | apply below_drew1 | refine below_set ?_ GE146.out) | exact HB.out))) : w.heap.size ≤ gb162))
                     have n5_ := Aside0.mk ((by rw [hg]; exact Nat.ne_of_lt (blk_lt (g := gb146) (o := .cells #[.int .i64 0, .int .i64 0, .int .i64 0, .int .i64 0, .int .i64 0, .int .i64 0] 31 (0, 0)) (by (with_reducible repeat (first | refine z1 ?_ _ | refine z2 ?_ | refine z3 ?_ _)); exact BK146.out)) : gb146 ≠ gb162))
                     have n6_ := Aside0.mk ((by rw [hg]; exact Nat.ne_of_gt (blk_lt (g := gb146) (o := .cells #[.int .i64 0, .int .i64 0, .int .i64 0, .int .i64 0, .int .i64 0, .int .i64 0] 31 (0, 0)) (by (with_reducible repeat (first | refine z1 ?_ _ | refine z2 ?_ | refine z3 ?_ _)); exact BK146.out)) : gb162 ≠ gb146))
                     clear BK146 HB
                     have BK146 := n0_
                     have HB := n1_
                     have BK162 := n2_
                     have GW162 := n3_
                     have GE162 := n4_
                     have NB146_162 := n5_
                     have NB162_146 := n6_
                     clear n0_ n1_ n2_ n3_ n4_ n5_ n6_ hb hbox hg
                     refine hK.out _ _ ⟨((HB.out.cell (World.block_lt_of_cell? w _ hw151_0)).trans hw151_0), ((HB.out.cell (World.block_lt_of_cell? w _ hw152_0)).trans hw152_0), ((HB.out.cell (World.block_lt_of_cell? w _ hw153_0)).trans hw153_0), ((HB.out.cell (World.block_lt_of_cell? w _ hw154_0)).trans hw154_0), ((HB.out.cell (World.block_lt_of_cell? w _ hw155_0)).trans hw155_0), ((HB.out.cell (World.block_lt_of_cell? w _ hw160_0)).trans hw160_0), ((HB.out.cell (World.block_lt_of_cell? w _ hw161_0)).trans hw161_0)⟩ (fun hHeld => ?_)
                     clear hK K
                     refine norm_ (a' := ?_) ?_ ?_
                     rotate_left
                     ·show Act.put _ (some 5) _ = _
                      simp only [Act.put, y1, y2, y3, i64_w, i32_w]
                      rfl
                     exact norm_ (by simp only [putAll, Act.put, y1, y2, y3]) (hCont (gb162) _ ⟨hHeld, (by (with_reducible repeat (first | refine z1 ?_ _ | refine z2 ?_ | refine z3 ?_ _)); exact BK146.out), (by (with_reducible repeat (first | refine z1 ?_ _ | refine z2 ?_ | refine z3 ?_ _)); exact BK162.out), GW162.out, GE162.out, NB146_162.out, NB162_146.out, (by repeat (first | (with_reducible first | exact HB.out | apply below_alloc | apply pw_below_drewN | apply below_drew1 | refine below_set ?_ GE146.out | refine below_set ?_ GE162.out) | exact HB.out))⟩)
                    ·skip
                     refine box_step ?hg (N := 5) ?hd (cs := #[.int .i64 0, .int .i64 0, .int .i64 0, .int .i64 0, .int .i64 0, .int .i64 0]) (t := 31) ?hr ?_; (case hd => rfl); (case hg => rfl); (case hr => first | (go_simp; done) | (go_simp; rfl))
                     intro gb162 hg w29 hbox hb
                     have n0_ := Aside0.mk (blk_below (g := gb146) (o := .cells #[.int .i64 0, .int .i64 0, .int .i64 0, .int .i64 0, .int .i64 0, .int .i64 0] 31 (0, 0)) (by (with_reducible repeat (first | refine z1 ?_ _ | refine z2 ?_ | refine z3 ?_ _)); exact BK146.out) hb)
                     have n1_ := Aside0.mk (below_step (by repeat (first | (with_reducible first | exact HB.out | apply below_alloc | apply pw_below_drewN | apply below_drew1 | refine below_set ?_ GE146.out) | exact HB.out)) hb)
                     have n2_ := Aside0.mk (hbox)
                     have n3_ := Aside0.mk ((by rw [hg]; exact (below_size (by repeat (first | (with_reducible first | exact HB.out | apply below_alloc | apply pw_below_drewN | apply below_drew1 | refine below_set ?_ GE146.out) | exact HB.out))) : w.heap.size ≤ gb162))
                     have n4_ := Aside0.mk ((by rw [hg]; exact (below_size (by repeat (first | (with_reducible first | exact HB.out | apply below_alloc | apply pw_below_drewN | apply below_drew1 | refine below_set ?_ GE146.out) | exact HB.out))) : w.heap.size ≤ gb162))
                     have n5_ := Aside0.mk ((by rw [hg]; exact Nat.ne_of_lt (blk_lt (g := gb146) (o := .cells #[.int .i64 0, .int .i64 0, .int .i64 0, .int .i64 0, .int .i64 0, .int .i64 0] 31 (0, 0)) (by (with_reducible repeat (first | refine z1 ?_ _ | refine z2 ?_ | refine z3 ?_ _)); exact BK146.out)) : gb146 ≠ gb162))
                     have n6_ := Aside0.mk ((by rw [hg]; exact Nat.ne_of_gt (blk_lt (g := gb146) (o := .cells #[.int .i64 0, .int .i64 0, .int .i64 0, .int .i64 0, .int .i64 0, .int .i64 0] 31 (0, 0)) (by (with_reducible repeat (first | refine z1 ?_ _ | refine z2 ?_ | refine z3 ?_ _)); exact BK146.out)) : gb162 ≠ gb146))
                     clear BK146 HB
                     have BK146 := n0_
                     have HB := n1_
                     have BK162 := n2_
                     have GW162 := n3_
                     have GE162 := n4_
                     have NB146_162 := n5_
                     have NB162_146 := n6_
                     clear n0_ n1_ n2_ n3_ n4_ n5_ n6_ hb hbox hg
                     refine hK.out _ _ ⟨((HB.out.cell (World.block_lt_of_cell? w _ hw151_0)).trans hw151_0), ((HB.out.cell (World.block_lt_of_cell? w _ hw152_0)).trans hw152_0), ((HB.out.cell (World.block_lt_of_cell? w _ hw153_0)).trans hw153_0), ((HB.out.cell (World.block_lt_of_cell? w _ hw154_0)).trans hw154_0), ((HB.out.cell (World.block_lt_of_cell? w _ hw155_0)).trans hw155_0), ((HB.out.cell (World.block_lt_of_cell? w _ hw160_0)).trans hw160_0), ((HB.out.cell (World.block_lt_of_cell? w _ hw161_0)).trans hw161_0)⟩ (fun hHeld => ?_)
                     clear hK K
                     refine norm_ (a' := ?_) ?_ ?_
                     rotate_left
                     ·show Act.put _ (some 5) _ = _
                      simp only [Act.put, y1, y2, y3, i64_w, i32_w]
                      rfl
                     refine one_ (i := 31) (N := some 57) (bz 43 3298534883327) rfl rfl (one_of HT_.out (by kernel_rfl)) (by decide) (fun K hK => ?_)
                     refine goes_ Try.func86 (by kernel_rfl) rfl #[.slice A28 (l0.drop 8).length (c0 - 8)] (by rfl) rfl rfl (by (try simp only [List.map_toArray, List.map_cons, List.map_nil]); first | done | (rw [show (l0.drop 8).length = (l0.length - 8) from List.length_drop] <;> rfl) | rfl | (simp only [List.length_drop, List.length_take]; rfl)) ?_
                     with_reducible refine (impl_number24.calls _ _ (l0.drop 8) t159 _ ?side1 ?side2 A16.out).mono ?_
                     (case side1 => repeat (first | exact (Kd.C_below HR158.out HB.out) | (with_reducible refine Kd.C_alloc ?_ _) | (with_reducible refine Kd.C_drewN ?_ _) | (with_reducible refine Kd.C_drew ?_)))
                     (case side2 => exact HC158.out)
                     rintro e w' ⟨rfl, ⟨nd, rfl⟩⟩
                     refine ⟨_, rfl, ?_⟩
                     refine hK.out _ _ ⟨((HB.out.cell (World.block_lt_of_cell? w _ hw151_0)).trans hw151_0), ((HB.out.cell (World.block_lt_of_cell? w _ hw152_0)).trans hw152_0), ((HB.out.cell (World.block_lt_of_cell? w _ hw153_0)).trans hw153_0), ((HB.out.cell (World.block_lt_of_cell? w _ hw154_0)).trans hw154_0), ((HB.out.cell (World.block_lt_of_cell? w _ hw155_0)).trans hw155_0), ((HB.out.cell (World.block_lt_of_cell? w _ hw160_0)).trans hw160_0), ((HB.out.cell (World.block_lt_of_cell? w _ hw161_0)).trans hw161_0)⟩ (fun hHeld => ?_)
                     clear hK K
                     refine norm_ (a' := ?_) ?_ ?_
                     rotate_left
                     ·show Act.put _ (some 57) _ = _
                      simp only [Act.put, y1, y2, y3, i64_w, i32_w]
                      rfl
                     refine pure_ (i := 40) (N := some 66) (v := ?_) (a' := ?_) (bz 43 4398046511103) rfl rfl (any_of HT_.out (by kernel_rfl)) (fun _ _ _ h => h) (Or.inl ⟨by rfl, ?_⟩) ?_ ?_
                     rotate_left
                     ·intro w'
                      go_simp
                      with_reducible rfl
                     rotate_left
                     ·simp only [Act.put, y1, y2, y3, i64_w, i32_w]
                      rfl
                     exact norm_ (by simp only [putAll, Act.put, y1, y2, y3]) (hCont (gb162) _ ⟨hHeld, (by (with_reducible repeat (first | refine z1 ?_ _ | refine z2 ?_ | refine z3 ?_ _)); exact BK146.out), (by (with_reducible repeat (first | refine z1 ?_ _ | refine z2 ?_ | refine z3 ?_ _)); exact BK162.out), GW162.out, GE162.out, NB146_162.out, NB162_146.out, (by repeat (first | (with_reducible first | exact HB.out | apply below_alloc | apply pw_below_drewN | apply below_drew1 | refine below_set ?_ GE146.out | refine below_set ?_ GE162.out) | exact HB.out))⟩)
                   ·skip
                    refine box_step ?hg (N := 5) ?hd (cs := #[.int .i64 0, .int .i64 0, .int .i64 0, .int .i64 0, .int .i64 0, .int .i64 0]) (t := 31) ?hr ?_; (case hd => rfl); (case hg => rfl); (case hr => first | (go_simp; done) | (go_simp; rfl))
                    intro gb162 hg w29 hbox hb
                    have n0_ := Aside0.mk (blk_below (g := gb146) (o := .cells #[.int .i64 0, .int .i64 0, .int .i64 0, .int .i64 0, .int .i64 0, .int .i64 0] 31 (0, 0)) (by (with_reducible repeat (first | refine z1 ?_ _ | refine z2 ?_ | refine z3 ?_ _)); exact BK146.out) hb)
                    have n1_ := Aside0.mk (below_step (by repeat (first | (with_reducible first | exact HB.out | apply below_alloc | apply pw_below_drewN | apply below_drew1 | refine below_set ?_ GE146.out) | exact HB.out)) hb)
                    have n2_ := Aside0.mk (hbox)
                    have n3_ := Aside0.mk ((by rw [hg]; exact (below_size (by repeat (first | (with_reducible first | exact HB.out | apply below_alloc | apply pw_below_drewN | apply below_drew1 | refine below_set ?_ GE146.out) | exact HB.out))) : w.heap.size ≤ gb162))
                    have n4_ := Aside0.mk ((by rw [hg]; exact (below_size (by repeat (first | (with_reducible first | exact HB.out | apply below_alloc | apply pw_below_drewN | apply below_drew1 | refine below_set ?_ GE146.out) | exact HB.out))) : w.heap.size ≤ gb162))
                    have n5_ := Aside0.mk ((by rw [hg]; exact Nat.ne_of_lt (blk_lt (g := gb146) (o := .cells #[.int .i64 0, .int .i64 0, .int .i64 0, .int .i64 0, .int .i64 0, .int .i64 0] 31 (0, 0)) (by (with_reducible repeat (first | refine z1 ?_ _ | refine z2 ?_ | refine z3 ?_ _)); exact BK146.out)) : gb146 ≠ gb162))
                    have n6_ := Aside0.mk ((by rw [hg]; exact Nat.ne_of_gt (blk_lt (g := gb146) (o := .cells #[.int .i64 0, .int .i64 0, .int .i64 0, .int .i64 0, .int .i64 0, .int .i64 0] 31 (0, 0)) (by (with_reducible repeat (first | refine z1 ?_ _ | refine z2 ?_ | refine z3 ?_ _)); exact BK146.out)) : gb162 ≠ gb146))
                    clear BK146 HB
                    have BK146 := n0_
                    have HB := n1_
                    have BK162 := n2_
                    have GW162 := n3_
                    have GE162 := n4_
                    have NB146_162 := n5_
                    have NB162_146 := n6_
                    clear n0_ n1_ n2_ n3_ n4_ n5_ n6_ hb hbox hg
                    refine hK.out _ _ ⟨((HB.out.cell (World.block_lt_of_cell? w _ hw151_0)).trans hw151_0), ((HB.out.cell (World.block_lt_of_cell? w _ hw152_0)).trans hw152_0), ((HB.out.cell (World.block_lt_of_cell? w _ hw153_0)).trans hw153_0), ((HB.out.cell (World.block_lt_of_cell? w _ hw154_0)).trans hw154_0), ((HB.out.cell (World.block_lt_of_cell? w _ hw155_0)).trans hw155_0), ((HB.out.cell (World.block_lt_of_cell? w _ hw160_0)).trans hw160_0), ((HB.out.cell (World.block_lt_of_cell? w _ hw161_0)).trans hw161_0)⟩ (fun hHeld => ?_)
                    clear hK K
                    refine norm_ (a' := ?_) ?_ ?_
                    rotate_left
                    ·show Act.put _ (some 5) _ = _
                     simp only [Act.put, y1, y2, y3, i64_w, i32_w]
                     rfl
                    refine one_ (i := 28) (N := some 54) (bz 43 3296387399679) rfl rfl (one_of HT_.out (by kernel_rfl)) (by decide) (fun K hK => ?_)
                    refine goes_ Try.func86 (by kernel_rfl) rfl #[.slice A27 (l0.drop 5).length (c0 - 5)] (by rfl) rfl rfl (by (try simp only [List.map_toArray, List.map_cons, List.map_nil]); first | done | (rw [show (l0.drop 5).length = (l0.length - 5) from List.length_drop] <;> rfl) | rfl | (simp only [List.length_drop, List.length_take]; rfl)) ?_
                    with_reducible refine (impl_number24.calls _ _ (l0.drop 5) t157 _ ?side1 ?side2 A14.out).mono ?_
                    (case side1 => repeat (first | exact (Kd.C_below HR156.out HB.out) | (with_reducible refine Kd.C_alloc ?_ _) | (with_reducible refine Kd.C_drewN ?_ _) | (with_reducible refine Kd.C_drew ?_)))
                    (case side2 => exact HC156.out)
                    rintro e w' ⟨rfl, ⟨nd, rfl⟩⟩
                    refine ⟨_, rfl, ?_⟩
                    refine hK.out _ _ ⟨((HB.out.cell (World.block_lt_of_cell? w _ hw151_0)).trans hw151_0), ((HB.out.cell (World.block_lt_of_cell? w _ hw152_0)).trans hw152_0), ((HB.out.cell (World.block_lt_of_cell? w _ hw153_0)).trans hw153_0), ((HB.out.cell (World.block_lt_of_cell? w _ hw154_0)).trans hw154_0), ((HB.out.cell (World.block_lt_of_cell? w _ hw155_0)).trans hw155_0), ((HB.out.cell (World.block_lt_of_cell? w _ hw160_0)).trans hw160_0), ((HB.out.cell (World.block_lt_of_cell? w _ hw161_0)).trans hw161_0)⟩ (fun hHeld => ?_)
                    clear hK K
                    refine norm_ (a' := ?_) ?_ ?_
                    rotate_left
                    ·show Act.put _ (some 54) _ = _
                     simp only [Act.put, y1, y2, y3, i64_w, i32_w]
                     rfl
                    refine one_ (i := 31) (N := some 57) (bz 43 3298534883327) rfl rfl (one_of HT_.out (by kernel_rfl)) (by decide) (fun K hK => ?_)
                    refine goes_ Try.func86 (by kernel_rfl) rfl #[.slice A28 (l0.drop 8).length (c0 - 8)] (by rfl) rfl rfl (by (try simp only [List.map_toArray, List.map_cons, List.map_nil]); first | done | (rw [show (l0.drop 8).length = (l0.length - 8) from List.length_drop] <;> rfl) | rfl | (simp only [List.length_drop, List.length_take]; rfl)) ?_
                    with_reducible refine (impl_number24.calls _ _ (l0.drop 8) t159 _ ?side1 ?side2 A16.out).mono ?_
                    (case side1 => repeat (first | exact (Kd.C_below HR158.out (by repeat (first | (with_reducible first | exact HB.out | apply below_alloc | apply pw_below_drewN | apply below_drew1 | refine below_set ?_ GE146.out | refine below_set ?_ GE162.out) | exact HB.out))) | (with_reducible refine Kd.C_alloc ?_ _) | (with_reducible refine Kd.C_drewN ?_ _) | (with_reducible refine Kd.C_drew ?_)))
                    (case side2 => exact HC158.out)
                    rintro e w' ⟨rfl, ⟨nd, rfl⟩⟩
                    refine ⟨_, rfl, ?_⟩
                    refine hK.out _ _ ⟨((HB.out.cell (World.block_lt_of_cell? w _ hw151_0)).trans hw151_0), ((HB.out.cell (World.block_lt_of_cell? w _ hw152_0)).trans hw152_0), ((HB.out.cell (World.block_lt_of_cell? w _ hw153_0)).trans hw153_0), ((HB.out.cell (World.block_lt_of_cell? w _ hw154_0)).trans hw154_0), ((HB.out.cell (World.block_lt_of_cell? w _ hw155_0)).trans hw155_0), ((HB.out.cell (World.block_lt_of_cell? w _ hw160_0)).trans hw160_0), ((HB.out.cell (World.block_lt_of_cell? w _ hw161_0)).trans hw161_0)⟩ (fun hHeld => ?_)
                    clear hK K
                    refine norm_ (a' := ?_) ?_ ?_
                    rotate_left
                    ·show Act.put _ (some 57) _ = _
                     simp only [Act.put, y1, y2, y3, i64_w, i32_w]
                     rfl
                    refine pure_ (i := 40) (N := some 66) (v := ?_) (a' := ?_) (bz 43 4398046511103) rfl rfl (any_of HT_.out (by kernel_rfl)) (fun _ _ _ h => h) (Or.inl ⟨by rfl, ?_⟩) ?_ ?_
                    rotate_left
                    ·intro w'
                     go_simp
                     with_reducible rfl
                    rotate_left
                    ·simp only [Act.put, y1, y2, y3, i64_w, i32_w]
                     rfl
                    exact norm_ (by simp only [putAll, Act.put, y1, y2, y3]) (hCont (gb162) _ ⟨hHeld, (by (with_reducible repeat (first | refine z1 ?_ _ | refine z2 ?_ | refine z3 ?_ _)); exact BK146.out), (by (with_reducible repeat (first | refine z1 ?_ _ | refine z2 ?_ | refine z3 ?_ _)); exact BK162.out), GW162.out, GE162.out, NB146_162.out, NB162_146.out, (by repeat (first | (with_reducible first | exact HB.out | apply below_alloc | apply pw_below_drewN | apply below_drew1 | refine below_set ?_ GE146.out | refine below_set ?_ GE162.out) | exact HB.out))⟩)
                  rintro gb162 w30 ⟨hS_, h0_, h1_, h2_, h3_, h4_, h5_, h6_⟩
                  have n0_ : Aside0 (w30.heap[gb146]? = some (.cells #[.int .i64 0, .int .i64 0, .int .i64 0, .int .i64 0, .int .i64 0, .int .i64 0] 31 (0, 0))) := ⟨h0_⟩
                  have n1_ : Aside0 (w30.heap[gb162]? = some (.cells #[.int .i64 0, .int .i64 0, .int .i64 0, .int .i64 0, .int .i64 0, .int .i64 0] 31 (0, 0))) := ⟨h1_⟩
                  have n2_ : Aside0 (w.heap.size ≤ gb162) := ⟨h2_⟩
                  have n3_ : Aside0 (w.heap.size ≤ gb162) := ⟨h3_⟩
                  have n4_ : Aside0 (gb146 ≠ gb162) := ⟨h4_⟩
                  have n5_ : Aside0 (gb162 ≠ gb146) := ⟨h5_⟩
                  have n6_ : Aside0 (Below w.heap.size w w30) := ⟨h6_⟩
                  clear BK146 HB h0_ h1_ h2_ h3_ h4_ h5_ h6_
                  have BK146 := n0_
                  have BK162 := n1_
                  have GW162 := n2_
                  have GE162 := n3_
                  have NB146_162 := n4_
                  have NB162_146 := n5_
                  have HB := n6_
                  clear n0_ n1_ n2_ n3_ n4_ n5_ n6_
                  have hHeld : w30.cell? ad149 = some (.int .u8 (rd l0 0)) ∧ w30.cell? ⟨ad149.block, ad149.off + 1, none⟩ = some (.int .u8 (rd l0 1)) ∧ w30.cell? ⟨ad149.block, ad149.off + 2, none⟩ = some (.int .u8 (rd l0 2)) ∧ w30.cell? ⟨ad149.block, ad149.off + 3, none⟩ = some (.int .u8 (rd l0 3)) ∧ w30.cell? ⟨ad149.block, ad149.off + 4, none⟩ = some (.int .u8 (rd l0 4)) ∧ w30.cell? ⟨ad149.block, ad149.off + 11, none⟩ = some (.int .u8 (rd l0 11)) ∧ w30.cell? ⟨ad149.block, ad149.off + 12, none⟩ = some (.int .u8 (rd l0 12)) := hS_
                  refine norm_ (a' := ?_) ?_ ?_
                  rotate_left
                  ·simp only [putAll, Act.put, y1, y2, y3]
                   rfl
                  refine one_ (i := 42) (N := none) (bz 43 8796093022207) rfl rfl (one_of HT_.out (by kernel_rfl)) (by decide) (fun K hK => ?_)
                  have hs31 : w30.cell? ⟨gb162, 0, none⟩ = some (.int .i64 0) := (blk_cell BK162.out 0).trans rfl
                  have hfs31 := blk_frozen BK162.out 0
                  have hns31_0 := NB146_162.out
                  have hms31_0 := NB162_146.out
                  have hs32 : w30.cell? ⟨gb162, 1, none⟩ = some (.int .i64 0) := (blk_cell BK162.out 1).trans rfl
                  have hfs32 := blk_frozen BK162.out 1
                  have hns32_0 := NB146_162.out
                  have hms32_0 := NB162_146.out
                  have hs33 : w30.cell? ⟨gb162, 2, none⟩ = some (.int .i64 0) := (blk_cell BK162.out 2).trans rfl
                  have hfs33 := blk_frozen BK162.out 2
                  have hns33_0 := NB146_162.out
                  have hms33_0 := NB162_146.out
                  have hs34 : w30.cell? ⟨gb162, 3, none⟩ = some (.int .i64 0) := (blk_cell BK162.out 3).trans rfl
                  have hfs34 := blk_frozen BK162.out 3
                  have hns34_0 := NB146_162.out
                  have hms34_0 := NB162_146.out
                  have hs35 : w30.cell? ⟨gb162, 4, none⟩ = some (.int .i64 0) := (blk_cell BK162.out 4).trans rfl
                  have hfs35 := blk_frozen BK162.out 4
                  have hns35_0 := NB146_162.out
                  have hms35_0 := NB162_146.out
                  have hs36 : w30.cell? ⟨gb162, 5, none⟩ = some (.int .i64 0) := (blk_cell BK162.out 5).trans rfl
                  have hfs36 := blk_frozen BK162.out 5
                  have hns36_0 := NB146_162.out
                  have hms36_0 := NB162_146.out
                  refine skip_ (w1 := ?_) (by rfl) rfl ?_ ?_
                  rotate_left
                  ·go_simp
                   rfl
                  refine hK.out _ _ ⟨((cell_far (p := ⟨gb162, _, none⟩) (by first | exact nz1 hw151_0 GW162.out | exact nz2 hw151_0 GW162.out | exact nz3 hw151_0 GW162.out) _).trans (((cell_far (p := ⟨gb162, _, none⟩) (by first | exact nz1 hw151_0 GW162.out | exact nz2 hw151_0 GW162.out | exact nz3 hw151_0 GW162.out) _).trans (((cell_far (p := ⟨gb162, _, none⟩) (by first | exact nz1 hw151_0 GW162.out | exact nz2 hw151_0 GW162.out | exact nz3 hw151_0 GW162.out) _).trans (((cell_far (p := ⟨gb162, _, none⟩) (by first | exact nz1 hw151_0 GW162.out | exact nz2 hw151_0 GW162.out | exact nz3 hw151_0 GW162.out) _).trans (((cell_far (p := ⟨gb162, _, none⟩) (by first | exact nz1 hw151_0 GW162.out | exact nz2 hw151_0 GW162.out | exact nz3 hw151_0 GW162.out) _).trans (((cell_far (p := ⟨gb162, _, none⟩) (by first | exact nz1 hw151_0 GW162.out | exact nz2 hw151_0 GW162.out | exact nz3 hw151_0 GW162.out) _).trans (hHeld.1)))))))))))), ((cell_far (p := ⟨gb162, _, none⟩) (by first | exact nz1 hw152_0 GW162.out | exact nz2 hw152_0 GW162.out | exact nz3 hw152_0 GW162.out) _).trans (((cell_far (p := ⟨gb162, _, none⟩) (by first | exact nz1 hw152_0 GW162.out | exact nz2 hw152_0 GW162.out | exact nz3 hw152_0 GW162.out) _).trans (((cell_far (p := ⟨gb162, _, none⟩) (by first | exact nz1 hw152_0 GW162.out | exact nz2 hw152_0 GW162.out | exact nz3 hw152_0 GW162.out) _).trans (((cell_far (p := ⟨gb162, _, none⟩) (by first | exact nz1 hw152_0 GW162.out | exact nz2 hw152_0 GW162.out | exact nz3 hw152_0 GW162.out) _).trans (((cell_far (p := ⟨gb162, _, none⟩) (by first | exact nz1 hw152_0 GW162.out | exact nz2 hw152_0 GW162.out | exact nz3 hw152_0 GW162.out) _).trans (((cell_far (p := ⟨gb162, _, none⟩) (by first | exact nz1 hw152_0 GW162.out | exact nz2 hw152_0 GW162.out | exact nz3 hw152_0 GW162.out) _).trans (hHeld.2.1)))))))))))), ((cell_far (p := ⟨gb162, _, none⟩) (by first | exact nz1 hw153_0 GW162.out | exact nz2 hw153_0 GW162.out | exact nz3 hw153_0 GW162.out) _).trans (((cell_far (p := ⟨gb162, _, none⟩) (by first | exact nz1 hw153_0 GW162.out | exact nz2 hw153_0 GW162.out | exact nz3 hw153_0 GW162.out) _).trans (((cell_far (p := ⟨gb162, _, none⟩) (by first | exact nz1 hw153_0 GW162.out | exact nz2 hw153_0 GW162.out | exact nz3 hw153_0 GW162.out) _).trans (((cell_far (p := ⟨gb162, _, none⟩) (by first | exact nz1 hw153_0 GW162.out | exact nz2 hw153_0 GW162.out | exact nz3 hw153_0 GW162.out) _).trans (((cell_far (p := ⟨gb162, _, none⟩) (by first | exact nz1 hw153_0 GW162.out | exact nz2 hw153_0 GW162.out | exact nz3 hw153_0 GW162.out) _).trans (((cell_far (p := ⟨gb162, _, none⟩) (by first | exact nz1 hw153_0 GW162.out | exact nz2 hw153_0 GW162.out | exact nz3 hw153_0 GW162.out) _).trans (hHeld.2.2.1)))))))))))), ((cell_far (p := ⟨gb162, _, none⟩) (by first | exact nz1 hw154_0 GW162.out | exact nz2 hw154_0 GW162.out | exact nz3 hw154_0 GW162.out) _).trans (((cell_far (p := ⟨gb162, _, none⟩) (by first | exact nz1 hw154_0 GW162.out | exact nz2 hw154_0 GW162.out | exact nz3 hw154_0 GW162.out) _).trans (((cell_far (p := ⟨gb162, _, none⟩) (by first | exact nz1 hw154_0 GW162.out | exact nz2 hw154_0 GW162.out | exact nz3 hw154_0 GW162.out) _).trans (((cell_far (p := ⟨gb162, _, none⟩) (by first | exact nz1 hw154_0 GW162.out | exact nz2 hw154_0 GW162.out | exact nz3 hw154_0 GW162.out) _).trans (((cell_far (p := ⟨gb162, _, none⟩) (by first | exact nz1 hw154_0 GW162.out | exact nz2 hw154_0 GW162.out | exact nz3 hw154_0 GW162.out) _).trans (((cell_far (p := ⟨gb162, _, none⟩) (by first | exact nz1 hw154_0 GW162.out | exact nz2 hw154_0 GW162.out | exact nz3 hw154_0 GW162.out) _).trans (hHeld.2.2.2.1)))))))))))), ((cell_far (p := ⟨gb162, _, none⟩) (by first | exact nz1 hw155_0 GW162.out | exact nz2 hw155_0 GW162.out | exact nz3 hw155_0 GW162.out) _).trans (((cell_far (p := ⟨gb162, _, none⟩) (by first | exact nz1 hw155_0 GW162.out | exact nz2 hw155_0 GW162.out | exact nz3 hw155_0 GW162.out) _).trans (((cell_far (p := ⟨gb162, _, none⟩) (by first | exact nz1 hw155_0 GW162.out | exact nz2 hw155_0 GW162.out | exact nz3 hw155_0 GW162.out) _).trans (((cell_far (p := ⟨gb162, _, none⟩) (by first | exact nz1 hw155_0 GW162.out | exact nz2 hw155_0 GW162.out | exact nz3 hw155_0 GW162.out) _).trans (((cell_far (p := ⟨gb162, _, none⟩) (by first | exact nz1 hw155_0 GW162.out | exact nz2 hw155_0 GW162.out | exact nz3 hw155_0 GW162.out) _).trans (((cell_far (p := ⟨gb162, _, none⟩) (by first | exact nz1 hw155_0 GW162.out | exact nz2 hw155_0 GW162.out | exact nz3 hw155_0 GW162.out) _).trans (hHeld.2.2.2.2.1)))))))))))), ((cell_far (p := ⟨gb162, _, none⟩) (by first | exact nz1 hw160_0 GW162.out | exact nz2 hw160_0 GW162.out | exact nz3 hw160_0 GW162.out) _).trans (((cell_far (p := ⟨gb162, _, none⟩) (by first | exact nz1 hw160_0 GW162.out | exact nz2 hw160_0 GW162.out | exact nz3 hw160_0 GW162.out) _).trans (((cell_far (p := ⟨gb162, _, none⟩) (by first | exact nz1 hw160_0 GW162.out | exact nz2 hw160_0 GW162.out | exact nz3 hw160_0 GW162.out) _).trans (((cell_far (p := ⟨gb162, _, none⟩) (by first | exact nz1 hw160_0 GW162.out | exact nz2 hw160_0 GW162.out | exact nz3 hw160_0 GW162.out) _).trans (((cell_far (p := ⟨gb162, _, none⟩) (by first | exact nz1 hw160_0 GW162.out | exact nz2 hw160_0 GW162.out | exact nz3 hw160_0 GW162.out) _).trans (((cell_far (p := ⟨gb162, _, none⟩) (by first | exact nz1 hw160_0 GW162.out | exact nz2 hw160_0 GW162.out | exact nz3 hw160_0 GW162.out) _).trans (hHeld.2.2.2.2.2.1)))))))))))), ((cell_far (p := ⟨gb162, _, none⟩) (by first | exact nz1 hw161_0 GW162.out | exact nz2 hw161_0 GW162.out | exact nz3 hw161_0 GW162.out) _).trans (((cell_far (p := ⟨gb162, _, none⟩) (by first | exact nz1 hw161_0 GW162.out | exact nz2 hw161_0 GW162.out | exact nz3 hw161_0 GW162.out) _).trans (((cell_far (p := ⟨gb162, _, none⟩) (by first | exact nz1 hw161_0 GW162.out | exact nz2 hw161_0 GW162.out | exact nz3 hw161_0 GW162.out) _).trans (((cell_far (p := ⟨gb162, _, none⟩) (by first | exact nz1 hw161_0 GW162.out | exact nz2 hw161_0 GW162.out | exact nz3 hw161_0 GW162.out) _).trans (((cell_far (p := ⟨gb162, _, none⟩) (by first | exact nz1 hw161_0 GW162.out | exact nz2 hw161_0 GW162.out | exact nz3 hw161_0 GW162.out) _).trans (((cell_far (p := ⟨gb162, _, none⟩) (by first | exact nz1 hw161_0 GW162.out | exact nz2 hw161_0 GW162.out | exact nz3 hw161_0 GW162.out) _).trans (hHeld.2.2.2.2.2.2))))))))))))⟩ (fun hHeld => ?_)
                  clear hK K
                  refine done_ (done_of HT_.out (by kernel_rfl)) ?_
                  have p163 : 0 ≤ (13 : Int) := (by omega)
                  have q163 : 13 < (l0.length : Int) := of_decide_eq_true (by first | (with_reducible assumption) | assumption)
                  obtain ⟨ad163, e163, hx163_0⟩ := Kd.at_int HR0.out 13 p163 q163
                  obtain rfl : ad149 = ad163 := (by injection e163)
                  (try simp only [show (13 : Int).toNat = 13 from rfl, Nat.reduceMul, Nat.reduceEqDiff, Go.Addr.add, ↓reduceIte] at hx163_0)
                  have qi163 : (13 < l0.length) = True := eq_true (by omega)
                  (try rw [show ((13 : Int)).toNat = 13 from rfl] at hx163_0)
                  have hn163_0 : ad149.block ≠ gb162 := Nat.ne_of_lt (Nat.lt_of_lt_of_le (by have := World.block_lt_of_cell? _ _ hx163_0; first | rwa [add_block] at this | exact this) GW162.out)
                  have hn163_1 : ad149.block ≠ gb162 := Nat.ne_of_lt (Nat.lt_of_lt_of_le (by have := World.block_lt_of_cell? _ _ hx163_0; first | rwa [add_block] at this | exact this) GW162.out)
                  have hn163_2 : ad149.block ≠ gb162 := Nat.ne_of_lt (Nat.lt_of_lt_of_le (by have := World.block_lt_of_cell? _ _ hx163_0; first | rwa [add_block] at this | exact this) GW162.out)
                  have hn163_3 : ad149.block ≠ gb162 := Nat.ne_of_lt (Nat.lt_of_lt_of_le (by have := World.block_lt_of_cell? _ _ hx163_0; first | rwa [add_block] at this | exact this) GW162.out)
                  have hn163_4 : ad149.block ≠ gb162 := Nat.ne_of_lt (Nat.lt_of_lt_of_le (by have := World.block_lt_of_cell? _ _ hx163_0; first | rwa [add_block] at this | exact this) GW162.out)
                  have hn163_5 : ad149.block ≠ gb162 := Nat.ne_of_lt (Nat.lt_of_lt_of_le (by have := World.block_lt_of_cell? _ _ hx163_0; first | rwa [add_block] at this | exact this) GW162.out)
                  replace hx163_0 := (HB.out.cell (World.block_lt_of_cell? w _ hx163_0)).trans hx163_0
                  replace hx163_0 := (cell_far (p := ⟨gb162, 0, none⟩) (by first | (rw [add_block]; exact hn163_0) | (show (Addr.add _ _).block ≠ _; rw [add_block]; exact hn163_0) | exact hn163_0) (.int .i64 (wrap64 (rd l0 0)))).trans hx163_0
                  replace hx163_0 := (cell_far (p := ⟨gb162, 1, none⟩) (by first | (rw [add_block]; exact hn163_1) | (show (Addr.add _ _).block ≠ _; rw [add_block]; exact hn163_1) | exact hn163_1) (.int .i64 (Go.bits .or .i64 (Go.bits .or .i64 (Go.bits .or .i64 (wrap64 ((wrap64 (rd l0 1)) * 16777216)) (wrap64 ((wrap64 (rd l0 2)) * 65536))) (wrap64 ((wrap64 (rd l0 3)) * 256))) (wrap64 (rd l0 4))))).trans hx163_0
                  replace hx163_0 := (cell_far (p := ⟨gb162, 2, none⟩) (by first | (rw [add_block]; exact hn163_2) | (show (Addr.add _ _).block ≠ _; rw [add_block]; exact hn163_2) | exact hn163_2) (.int .i64 t157)).trans hx163_0
                  replace hx163_0 := (cell_far (p := ⟨gb162, 3, none⟩) (by first | (rw [add_block]; exact hn163_3) | (show (Addr.add _ _).block ≠ _; rw [add_block]; exact hn163_3) | exact hn163_3) (.int .i64 t159)).trans hx163_0
                  replace hx163_0 := (cell_far (p := ⟨gb162, 4, none⟩) (by first | (rw [add_block]; exact hn163_4) | (show (Addr.add _ _).block ≠ _; rw [add_block]; exact hn163_4) | exact hn163_4) (.int .i64 (wrap64 (rd l0 11)))).trans hx163_0
                  replace hx163_0 := (cell_far (p := ⟨gb162, 5, none⟩) (by first | (rw [add_block]; exact hn163_5) | (show (Addr.add _ _).block ≠ _; rw [add_block]; exact hn163_5) | exact hn163_5) (.int .i64 (wrap64 (rd l0 12)))).trans hx163_0
                  clear hn163_0 hn163_1 hn163_2 hn163_3 hn163_4 hn163_5
                  replace p163 := eq_true p163
                  replace q163 := eq_true q163
                  have hnb37 := NB162_146.out
                  have hnc37 := NB146_162.out
                  have hcz38_0 : w30.cell? ⟨gb162, 0, none⟩ = some (.int .i64 0) := (blk_cell BK162.out 0).trans rfl
                  have hcz38_1 : w30.cell? ⟨gb162, 1, none⟩ = some (.int .i64 0) := (blk_cell BK162.out 1).trans rfl
                  have hcz38_2 : w30.cell? ⟨gb162, 2, none⟩ = some (.int .i64 0) := (blk_cell BK162.out 2).trans rfl
                  have hcz38_3 : w30.cell? ⟨gb162, 3, none⟩ = some (.int .i64 0) := (blk_cell BK162.out 3).trans rfl
                  have hcz38_4 : w30.cell? ⟨gb162, 4, none⟩ = some (.int .i64 0) := (blk_cell BK162.out 4).trans rfl
                  have hcz38_5 : w30.cell? ⟨gb162, 5, none⟩ = some (.int .i64 0) := (blk_cell BK162.out 5).trans rfl
                  have hfz38_0 := blk_frozen BK162.out 0
                  have hfz38_1 := blk_frozen BK162.out 1
                  have hfz38_2 := blk_frozen BK162.out 2
                  have hfz38_3 := blk_frozen BK162.out 3
                  have hfz38_4 := blk_frozen BK162.out 4
                  have hfz38_5 := blk_frozen BK162.out 5
                  try go_wp2_with (first | (go_at_call 20; (with_reducible refine (impl_ReportOk.calls (wrap64 (rd l0 0)) (Go.bits .or .i64 (Go.bits .or .i64 (Go.bits .or .i64 (wrap64 ((wrap64 (rd l0 1)) * 16777216)) (wrap64 ((wrap64 (rd l0 2)) * 65536))) (wrap64 ((wrap64 (rd l0 3)) * 256))) (wrap64 (rd l0 4))) t157 t159 (wrap64 (rd l0 11)) (wrap64 (rd l0 12)) true _ A21.out).mono ?_); rintro e w39 ⟨rfl, hb⟩; have n0_ := Aside0.mk (blk_below (g := gb146) (o := .cells #[.int .i64 0, .int .i64 0, .int .i64 0, .int .i64 0, .int .i64 0, .int .i64 0] 31 (0, 0)) (by (with_reducible repeat (first | refine blk_drewN ?_ _ | refine blk_drew ?_ | refine blk_alloc ?_ _)); refine blk_far ?_ NB146_162.out _; (with_reducible repeat (first | refine blk_drewN ?_ _ | refine blk_drew ?_ | refine blk_alloc ?_ _)); refine blk_far ?_ NB146_162.out _; (with_reducible repeat (first | refine blk_drewN ?_ _ | refine blk_drew ?_ | refine blk_alloc ?_ _)); refine blk_far ?_ NB146_162.out _; (with_reducible repeat (first | refine blk_drewN ?_ _ | refine blk_drew ?_ | refine blk_alloc ?_ _)); refine blk_far ?_ NB146_162.out _; (with_reducible repeat (first | refine blk_drewN ?_ _ | refine blk_drew ?_ | refine blk_alloc ?_ _)); refine blk_far ?_ NB146_162.out _; (with_reducible repeat (first | refine blk_drewN ?_ _ | refine blk_drew ?_ | refine blk_alloc ?_ _)); refine blk_far ?_ NB146_162.out _; (with_reducible repeat (first | refine blk_drewN ?_ _ | refine blk_drew ?_ | refine blk_alloc ?_ _)); exact BK146.out) hb); have n1_ := Aside0.mk (blk_below (g := gb162) (o := .cells #[.int .i64 (wrap64 (rd l0 0)), .int .i64 (Go.bits .or .i64 (Go.bits .or .i64 (Go.bits .or .i64 (wrap64 ((wrap64 (rd l0 1)) * 16777216)) (wrap64 ((wrap64 (rd l0 2)) * 65536))) (wrap64 ((wrap64 (rd l0 3)) * 256))) (wrap64 (rd l0 4))), .int .i64 t157, .int .i64 t159, .int .i64 (wrap64 (rd l0 11)), .int .i64 (wrap64 (rd l0 12))] 31 (0, 0)) (by (with_reducible repeat (first | refine blk_drewN ?_ _ | refine blk_drew ?_ | refine blk_alloc ?_ _)); refine blk_put (cs := #[.int .i64 (wrap64 (rd l0 0)), .int .i64 (Go.bits .or .i64 (Go.bits .or .i64 (Go.bits .or .i64 (wrap64 ((wrap64 (rd l0 1)) * 16777216)) (wrap64 ((wrap64 (rd l0 2)) * 65536))) (wrap64 ((wrap64 (rd l0 3)) * 256))) (wrap64 (rd l0 4))), .int .i64 t157, .int .i64 t159, .int .i64 (wrap64 (rd l0 11)), .int .i64 0]) ?_ 5 _ rfl; (with_reducible repeat (first | refine blk_drewN ?_ _ | refine blk_drew ?_ | refine blk_alloc ?_ _)); refine blk_put (cs := #[.int .i64 (wrap64 (rd l0 0)), .int .i64 (Go.bits .or .i64 (Go.bits .or .i64 (Go.bits .or .i64 (wrap64 ((wrap64 (rd l0 1)) * 16777216)) (wrap64 ((wrap64 (rd l0 2)) * 65536))) (wrap64 ((wrap64 (rd l0 3)) * 256))) (wrap64 (rd l0 4))), .int .i64 t157, .int .i64 t159, .int .i64 0, .int .i64 0]) ?_ 4 _ rfl; (with_reducible repeat (first | refine blk_drewN ?_ _ | refine blk_drew ?_ | refine blk_alloc ?_ _)); refine blk_put (cs := #[.int .i64 (wrap64 (rd l0 0)), .int .i64 (Go.bits .or .i64 (Go.bits .or .i64 (Go.bits .or .i64 (wrap64 ((wrap64 (rd l0 1)) * 16777216)) (wrap64 ((wrap64 (rd l0 2)) * 65536))) (wrap64 ((wrap64 (rd l0 3)) * 256))) (wrap64 (rd l0 4))), .int .i64 t157, .int .i64 0, .int .i64 0, .int .i64 0]) ?_ 3 _ rfl; (with_reducible repeat (first | refine blk_drewN ?_ _ | refine blk_drew ?_ | refine blk_alloc ?_ _)); refine blk_put (cs := #[.int .i64 (wrap64 (rd l0 0)), .int .i64 (Go.bits .or .i64 (Go.bits .or .i64 (Go.bits .or .i64 (wrap64 ((wrap64 (rd l0 1)) * 16777216)) (wrap64 ((wrap64 (rd l0 2)) * 65536))) (wrap64 ((wrap64 (rd l0 3)) * 256))) (wrap64 (rd l0 4))), .int .i64 0, .int .i64 0, .int .i64 0, .int .i64 0]) ?_ 2 _ rfl; (with_reducible repeat (first | refine blk_drewN ?_ _ | refine blk_drew ?_ | refine blk_alloc ?_ _)); refine blk_put (cs := #[.int .i64 (wrap64 (rd l0 0)), .int .i64 0, .int .i64 0, .int .i64 0, .int .i64 0, .int .i64 0]) ?_ 1 _ rfl; (with_reducible repeat (first | refine blk_drewN ?_ _ | refine blk_drew ?_ | refine blk_alloc ?_ _)); refine blk_put (cs := #[.int .i64 0, .int .i64 0, .int .i64 0, .int .i64 0, .int .i64 0, .int .i64 0]) ?_ 0 _ rfl; (with_reducible repeat (first | refine blk_drewN ?_ _ | refine blk_drew ?_ | refine blk_alloc ?_ _)); exact BK162.out) hb); have n2_ := Aside0.mk (below_step (by repeat (first | (with_reducible first | exact HB.out | apply below_alloc | apply pw_below_drewN | apply below_drew1 | refine below_set ?_ GE146.out | refine below_set ?_ GE162.out) | exact HB.out)) hb); clear BK146; clear BK162; clear HB; have BK146 := n0_; have BK162 := n1_; have HB := n2_; clear n0_ n1_ n2_; (try clear hb); (try clear hb2); (try clear hk); (try clear hi); have hcz40_0 : w39.cell? ⟨gb162, 0, none⟩ = some (.int .i64 (wrap64 (rd l0 0))) := (blk_cell BK162.out 0).trans rfl; have hcz40_1 : w39.cell? ⟨gb162, 1, none⟩ = some (.int .i64 (Go.bits .or .i64 (Go.bits .or .i64 (Go.bits .or .i64 (wrap64 ((wrap64 (rd l0 1)) * 16777216)) (wrap64 ((wrap64 (rd l0 2)) * 65536))) (wrap64 ((wrap64 (rd l0 3)) * 256))) (wrap64 (rd l0 4)))) := (blk_cell BK162.out 1).trans rfl; have hcz40_2 : w39.cell? ⟨gb162, 2, none⟩ = some (.int .i64 t157) := (blk_cell BK162.out 2).trans rfl; have hcz40_3 : w39.cell? ⟨gb162, 3, none⟩ = some (.int .i64 t159) := (blk_cell BK162.out 3).trans rfl; have hcz40_4 : w39.cell? ⟨gb162, 4, none⟩ = some (.int .i64 (wrap64 (rd l0 11))) := (blk_cell BK162.out 4).trans rfl; have hcz40_5 : w39.cell? ⟨gb162, 5, none⟩ = some (.int .i64 (wrap64 (rd l0 12))) := (blk_cell BK162.out 5).trans rfl; have hfz40_0 := blk_frozen BK162.out 0; have hfz40_1 := blk_frozen BK162.out 1; have hfz40_2 := blk_frozen BK162.out 2; have hfz40_3 := blk_frozen BK162.out 3; have hfz40_4 := blk_frozen BK162.out 4; have hfz40_5 := blk_frozen BK162.out 5; have hcz41_0 : w39.cell? ⟨gb146, 0, none⟩ = some (.int .i64 0) := (blk_cell BK146.out 0).trans rfl; have hcz41_1 : w39.cell? ⟨gb146, 1, none⟩ = some (.int .i64 0) := (blk_cell BK146.out 1).trans rfl; have hcz41_2 : w39.cell? ⟨gb146, 2, none⟩ = some (.int .i64 0) := (blk_cell BK146.out 2).trans rfl; have hcz41_3 : w39.cell? ⟨gb146, 3, none⟩ = some (.int .i64 0) := (blk_cell BK146.out 3).trans rfl; have hcz41_4 : w39.cell? ⟨gb146, 4, none⟩ = some (.int .i64 0) := (blk_cell BK146.out 4).trans rfl; have hcz41_5 : w39.cell? ⟨gb146, 5, none⟩ = some (.int .i64 0) := (blk_cell BK146.out 5).trans rfl; have hfz41_0 := blk_frozen BK146.out 0; have hfz41_1 := blk_frozen BK146.out 1; have hfz41_2 := blk_frozen BK146.out 2; have hfz41_3 := blk_frozen BK146.out 3; have hfz41_4 := blk_frozen BK146.out 4; have hfz41_5 := blk_frozen BK146.out 5))
                  refine bodyPost_ret (results_ct rfl _ _ gb146 31 #[.int .i64 (wrap64 (rd l0 0)), .int .i64 (Go.bits .or .i64 (Go.bits .or .i64 (Go.bits .or .i64 (wrap64 ((wrap64 (rd l0 1)) * 16777216)) (wrap64 ((wrap64 (rd l0 2)) * 65536))) (wrap64 ((wrap64 (rd l0 3)) * 256))) (wrap64 (rd l0 4))), .int .i64 t157, .int .i64 t159, .int .i64 (wrap64 (rd l0 11)), .int .i64 (wrap64 (rd l0 12))] (0, 0) _ rfl (by (with_reducible repeat (first | refine blk_drewN ?_ _ | refine blk_drew ?_ | refine blk_alloc ?_ _)); refine blk_put (cs := #[.int .i64 (wrap64 (rd l0 0)), .int .i64 (Go.bits .or .i64 (Go.bits .or .i64 (Go.bits .or .i64 (wrap64 ((wrap64 (rd l0 1)) * 16777216)) (wrap64 ((wrap64 (rd l0 2)) * 65536))) (wrap64 ((wrap64 (rd l0 3)) * 256))) (wrap64 (rd l0 4))), .int .i64 t157, .int .i64 t159, .int .i64 (wrap64 (rd l0 11)), .int .i64 0]) ?_ 5 _ rfl; (with_reducible repeat (first | refine blk_drewN ?_ _ | refine blk_drew ?_ | refine blk_alloc ?_ _)); refine blk_put (cs := #[.int .i64 (wrap64 (rd l0 0)), .int .i64 (Go.bits .or .i64 (Go.bits .or .i64 (Go.bits .or .i64 (wrap64 ((wrap64 (rd l0 1)) * 16777216)) (wrap64 ((wrap64 (rd l0 2)) * 65536))) (wrap64 ((wrap64 (rd l0 3)) * 256))) (wrap64 (rd l0 4))), .int .i64 t157, .int .i64 t159, .int .i64 0, .int .i64 0]) ?_ 4 _ rfl; (with_reducible repeat (first | refine blk_drewN ?_ _ | refine blk_drew ?_ | refine blk_alloc ?_ _)); refine blk_put (cs := #[.int .i64 (wrap64 (rd l0 0)), .int .i64 (Go.bits .or .i64 (Go.bits .or .i64 (Go.bits .or .i64 (wrap64 ((wrap64 (rd l0 1)) * 16777216)) (wrap64 ((wrap64 (rd l0 2)) * 65536))) (wrap64 ((wrap64 (rd l0 3)) * 256))) (wrap64 (rd l0 4))), .int .i64 t157, .int .i64 0, .int .i64 0, .int .i64 0]) ?_ 3 _ rfl; (with_reducible repeat (first | refine blk_drewN ?_ _ | refine blk_drew ?_ | refine blk_alloc ?_ _)); refine blk_put (cs := #[.int .i64 (wrap64 (rd l0 0)), .int .i64 (Go.bits .or .i64 (Go.bits .or .i64 (Go.bits .or .i64 (wrap64 ((wrap64 (rd l0 1)) * 16777216)) (wrap64 ((wrap64 (rd l0 2)) * 65536))) (wrap64 ((wrap64 (rd l0 3)) * 256))) (wrap64 (rd l0 4))), .int .i64 0, .int .i64 0, .int .i64 0, .int .i64 0]) ?_ 2 _ rfl; (with_reducible repeat (first | refine blk_drewN ?_ _ | refine blk_drew ?_ | refine blk_alloc ?_ _)); refine blk_put (cs := #[.int .i64 (wrap64 (rd l0 0)), .int .i64 0, .int .i64 0, .int .i64 0, .int .i64 0, .int .i64 0]) ?_ 1 _ rfl; (with_reducible repeat (first | refine blk_drewN ?_ _ | refine blk_drew ?_ | refine blk_alloc ?_ _)); refine blk_put (cs := #[.int .i64 0, .int .i64 0, .int .i64 0, .int .i64 0, .int .i64 0, .int .i64 0]) ?_ 0 _ rfl; (with_reducible repeat (first | refine blk_drewN ?_ _ | refine blk_drew ?_ | refine blk_alloc ?_ _)); exact BK146.out) Try.underlying31 rfl (by kernel_rfl)) rfl ?_
                  exact ⟨by first | rfl | (simp [errW_none, errW_some] <;> rfl) | (simp [*, errW_none, errW_some] <;> rfl), by repeat (first | (with_reducible first | exact HB.out | apply below_alloc | apply pw_below_drewN | apply below_drew1 | refine below_set ?_ GE146.out | refine below_set ?_ GE162.out) | exact HB.out)⟩
                 ·replace c22 := Bool.eq_false_iff.mpr c22
                  subst c22
                  have H1 : (some (0, 0, 0, 0, 0, 0, 3)) = some (r1, r2, r3, r4, r5, r6, r7) := by rw [if_neg (show ¬ (false = true) by decide)] at H; exact H
                  clear H
                  have H := H1
                  clear H1
                  simp only [Option.some.injEq, Prod.mk.injEq] at H
                  obtain ⟨rfl, rfl, rfl, rfl, rfl, rfl, rfl⟩ := H
                  go_enter Try.func42, Try.ntmps42
                  try go_wp2_with (first | ((with_reducible refine gate_dst (N := 2) rfl ?_); refine box_event ?hg (N := 2) ?hd (cs := #[.int .i64 0, .int .i64 0, .int .i64 0, .int .i64 0, .int .i64 0, .int .i64 0]) (t := 31) ?hr ?_; (case hd => rfl); (case hg => rfl); (case hr => first | (go_simp; done) | (go_simp; rfl)); intro gb146 hg w42 hbox hb; have n0_ := Aside0.mk (below_step (by repeat (first | (with_reducible first | exact HB.out | apply below_alloc | apply pw_below_drewN | apply below_drew1) | exact HB.out)) hb); have n1_ := Aside0.mk (hbox); have n2_ := Aside0.mk ((by rw [hg]; exact (below_size (by repeat (first | (with_reducible first | exact HB.out | apply below_alloc | apply pw_below_drewN | apply below_drew1) | exact HB.out))) : w.heap.size ≤ gb146)); have n3_ := Aside0.mk ((by rw [hg]; exact (below_size (by repeat (first | (with_reducible first | exact HB.out | apply below_alloc | apply pw_below_drewN | apply below_drew1) | exact HB.out))) : w.heap.size ≤ gb146)); clear HB; have HB := n0_; have BK146 := n1_; have GW146 := n2_; have GE146 := n3_; clear n0_ n1_ n2_ n3_; clear hb hbox hg))
                  have n0_ := Aside0.mk (blk_drew BK146.out)
                  have n1_ := Aside0.mk (below_drew1 HB.out)
                  clear BK146 HB
                  have BK146 := n0_
                  have HB := n1_
                  clear n0_ n1_
                  obtain ⟨i044, hi044, _, hsz44, _⟩ := info_parts info5
                  obtain ⟨hcut44, hA44, hC44⟩ := print_take_of (P := Try.prog) (Value.int .u8) 0 34 5 .i64 Try.underlying34 hi044 hsz44 A0 c0 l0 14 (by omega) (of_decide_eq_true (by first | (with_reducible assumption) | assumption)) HC0.out
                  have HR147 := Aside0.mk (Kd.C_of_reads (h1 := fun _ => rfl) (hA44 _ (Kd.reads_of_C HR0.out)))
                  have HC147 := Aside0.mk hC44
                  clear hA44 hC44 hi044 hsz44
                  have p149 : 0 ≤ (14 : Int) := (by omega)
                  have q149 : 14 < (l0.length : Int) := of_decide_eq_true (by first | (with_reducible assumption) | assumption)
                  obtain ⟨ad149, e149, hx149_0⟩ := Kd.at_int HR0.out 14 p149 q149
                  have hw149_0 := hx149_0
                  (try rw [show ((14 : Int)).toNat = 14 from rfl] at hw149_0)
                  (try rw [show 14 * 1 = 14 from rfl] at hw149_0)
                  (try simp only [Nat.reduceMul, Nat.reduceEqDiff, Go.Addr.add, ↓reduceIte] at hw149_0)
                  cases e149
                  (try simp only [show (14 : Int).toNat = 14 from rfl, Nat.reduceMul, Nat.reduceEqDiff, Go.Addr.add, ↓reduceIte] at hx149_0)
                  have qi149 : (14 < l0.length) = True := eq_true (by omega)
                  (try rw [show ((14 : Int)).toNat = 14 from rfl] at hx149_0)
                  replace hx149_0 := (HB.out.cell (World.block_lt_of_cell? w _ hx149_0)).trans hx149_0
                  replace p149 := eq_true p149
                  replace q149 := eq_true q149
                  have p150 : 0 ≤ (15 : Int) := (by omega)
                  have q150 : 15 < (l0.length : Int) := of_decide_eq_true (by first | (with_reducible assumption) | assumption)
                  obtain ⟨ad150, e150, hx150_0⟩ := Kd.at_int HR0.out 15 p150 q150
                  have hw150_0 := hx150_0
                  (try rw [show ((15 : Int)).toNat = 15 from rfl] at hw150_0)
                  (try rw [show 15 * 1 = 15 from rfl] at hw150_0)
                  (try simp only [Nat.reduceMul, Nat.reduceEqDiff, Go.Addr.add, ↓reduceIte] at hw150_0)
                  obtain rfl : ad149 = ad150 := (by injection e150)
                  (try simp only [show (15 : Int).toNat = 15 from rfl, Nat.reduceMul, Nat.reduceEqDiff, Go.Addr.add, ↓reduceIte] at hx150_0)
                  have qi150 : (15 < l0.length) = True := eq_true (by omega)
                  (try rw [show ((15 : Int)).toNat = 15 from rfl] at hx150_0)
                  replace hx150_0 := (HB.out.cell (World.block_lt_of_cell? w _ hx150_0)).trans hx150_0
                  replace p150 := eq_true p150
                  replace q150 := eq_true q150
                  refine start_ (n := 14) (S := fun w' => w'.cell? ⟨ad149.block, ad149.off + 14, none⟩ = some (.int .u8 (rd l0 14)) ∧ w'.cell? ⟨ad149.block, ad149.off + 15, none⟩ = some (.int .u8 (rd l0 15))) (ds := []) #[false, false, false, false, false, false, false, false, false, false, false, false, false, false] (by kernel_rfl) rfl rfl ⟨((HB.out.cell (World.block_lt_of_cell? w _ hw149_0)).trans hw149_0), ((HB.out.cell (World.block_lt_of_cell? w _ hw150_0)).trans hw150_0)⟩ (fun hHeld => ?_); refine with_tabW impl_ReadReport.tab4 impl_ReadReport.bits4 (fun HT_ HW_ => ?_)
                  generalize w42.drew = w43 at BK146 HB HR147 hx149_0 hx150_0 hHeld ⊢
                  refine pure_ (i := 0) (N := some 11) (v := ?_) (a' := ?_) (bz 14 1) rfl rfl (any_of HT_.out (by kernel_rfl)) (fun _ _ _ h => h) (Or.inl ⟨by rfl, ?_⟩) ?_ ?_
                  rotate_left
                  ·intro w'
                   go_simp
                   with_reducible rfl
                  rotate_left
                  ·simp only [Act.put, y1, y2, y3, i64_w, i32_w]
                   rfl
                  refine pure_ (i := 1) (N := some 12) (v := ?_) (a' := ?_) (bz 14 3) rfl rfl (any_of HT_.out (by kernel_rfl)) (fun _ _ _ h => h) (Or.inl ⟨by rfl, ?_⟩) ?_ ?_
                  rotate_left
                  ·intro w'
                   go_simp
                   with_reducible rfl
                  rotate_left
                  ·simp only [Act.put, y1, y2, y3, i64_w, i32_w]
                   rfl
                  refine pure_ (i := 3) (N := some 14) (v := ?_) (a' := ?_) (bz 14 11) rfl rfl (any_of HT_.out (by kernel_rfl)) (fun _ _ _ h => h) (Or.inl ⟨by rfl, ?_⟩) ?_ ?_
                  rotate_left
                  ·intro w'
                   go_simp
                   with_reducible rfl
                  rotate_left
                  ·simp only [Act.put, y1, y2, y3, i64_w, i32_w]
                   rfl
                  refine pure_ (i := 4) (N := some 15) (v := ?_) (a' := ?_) (bz 14 27) rfl rfl (any_of HT_.out (by kernel_rfl)) (fun _ _ _ h => h) (Or.inl ⟨by rfl, ?_⟩) ?_ ?_
                  rotate_left
                  ·intro w'
                   go_simp
                   with_reducible rfl
                  rotate_left
                  ·simp only [Act.put, y1, y2, y3, i64_w, i32_w]
                   rfl
                  refine pure_ (i := 8) (N := some 19) (v := ?_) (a' := ?_) (bz 14 283) rfl rfl (any_of HT_.out (by kernel_rfl)) (fun _ _ _ h => h) (Or.inl ⟨by rfl, ?_⟩) ?_ ?_
                  rotate_left
                  ·intro w'
                   go_simp
                   with_reducible rfl
                  rotate_left
                  ·simp only [Act.put, y1, y2, y3, i64_w, i32_w]
                   rfl
                  refine pure_ (i := 9) (N := some 20) (v := ?_) (a' := ?_) (bz 14 795) rfl rfl (any_of HT_.out (by kernel_rfl)) (fun _ _ _ h => h) (Or.inl ⟨by rfl, ?_⟩) ?_ ?_
                  rotate_left
                  ·intro w'
                   go_simp
                   with_reducible rfl
                  rotate_left
                  ·simp only [Act.put, y1, y2, y3, i64_w, i32_w]
                   rfl
                  refine take_ (i := 5) (N := some 16) (v := ?_) (a' := ?_) (bz 14 827) rfl rfl (take_ofW HT_.out HW_.out (by kernel_rfl)) (fun _ _ _ h => h) (Or.inl ⟨by rfl, ?_⟩) hHeld ?_ ?_
                  rotate_left
                  ·rintro w' ⟨s0, s1⟩
                   go_simp
                   with_reducible rfl
                  rotate_left
                  ·simp only [Act.put, y1, y2, y3, i64_w, i32_w]
                   rfl
                  refine pure_ (i := 6) (N := some 17) (v := ?_) (a' := ?_) (bz 14 891) rfl rfl (any_of HT_.out (by kernel_rfl)) (fun _ _ _ h => h) (Or.inl ⟨by rfl, ?_⟩) ?_ ?_
                  rotate_left
                  ·intro w'
                   go_simp
                   with_reducible rfl
                  rotate_left
                  ·simp only [Act.put, y1, y2, y3, i64_w, i32_w]
                   rfl
                  refine pure_ (i := 7) (N := some 18) (v := ?_) (a' := ?_) (bz 14 1019) rfl rfl (any_of HT_.out (by kernel_rfl)) (fun _ _ _ h => h) (Or.inl ⟨by rfl, ?_⟩) ?_ ?_
                  rotate_left
                  ·intro w'
                   go_simp
                   with_reducible rfl
                  rotate_left
                  ·simp only [Act.put, y1, y2, y3, i64_w, i32_w]
                   rfl
                  refine take_ (i := 10) (N := some 21) (v := ?_) (a' := ?_) (bz 14 2043) rfl rfl (take_ofW HT_.out HW_.out (by kernel_rfl)) (fun _ _ _ h => h) (Or.inl ⟨by rfl, ?_⟩) hHeld ?_ ?_
                  rotate_left
                  ·rintro w' ⟨s0, s1⟩
                   go_simp
                   with_reducible rfl
                  rotate_left
                  ·simp only [Act.put, y1, y2, y3, i64_w, i32_w]
                   rfl
                  refine pure_ (i := 11) (N := some 22) (v := ?_) (a' := ?_) (bz 14 4091) rfl rfl (any_of HT_.out (by kernel_rfl)) (fun _ _ _ h => h) (Or.inl ⟨by rfl, ?_⟩) ?_ ?_
                  rotate_left
                  ·intro w'
                   go_simp
                   with_reducible rfl
                  rotate_left
                  ·simp only [Act.put, y1, y2, y3, i64_w, i32_w]
                   rfl
                  refine pure_ (i := 12) (N := some 23) (v := ?_) (a' := ?_) (bz 14 8187) rfl rfl (any_of HT_.out (by kernel_rfl)) (fun _ _ _ h => h) (Or.inl ⟨by rfl, ?_⟩) ?_ ?_
                  rotate_left
                  ·intro w'
                   go_simp
                   with_reducible rfl
                  rotate_left
                  ·simp only [Act.put, y1, y2, y3, i64_w, i32_w]
                   rfl
                  refine one_ (i := 2) (N := some 13) (bz 14 8191) rfl rfl (one_of HT_.out (by kernel_rfl)) (by decide) (fun K hK => ?_)
                  refine goes_ Try.func85 (by kernel_rfl) rfl #[.slice (some ad149) (l0.take 14).length c0] (by rfl) rfl rfl (by (try simp only [List.map_toArray, List.map_cons, List.map_nil]); first | done | (rw [show (l0.take 14).length = 14 from (by rw [List.length_take]; have h_ : (14 : Int) ≤ (l0.length : Int) := of_decide_eq_true (by first | (with_reducible assumption) | assumption); omega)] <;> rfl) | rfl | (simp only [List.length_drop, List.length_take]; rfl)) ?_
                  with_reducible refine (impl_frameCheck.calls k _ _ (l0.take 14) t148 _ ?side1 ?side2 A4.out).mono ?_
                  (case side1 => repeat (first | exact (Kd.C_below HR147.out HB.out) | (with_reducible refine Kd.C_alloc ?_ _) | (with_reducible refine Kd.C_drewN ?_ _) | (with_reducible refine Kd.C_drew ?_)))
                  (case side2 => exact HC147.out)
                  rintro e w' ⟨rfl, ⟨nd, rfl⟩⟩
                  refine ⟨_, rfl, ?_⟩
                  refine hK.out _ _ ⟨((HB.out.cell (World.block_lt_of_cell? w _ hw149_0)).trans hw149_0), ((HB.out.cell (World.block_lt_of_cell? w _ hw150_0)).trans hw150_0)⟩ (fun hHeld => ?_)
                  clear hK K
                  refine norm_ (a' := ?_) ?_ ?_
                  rotate_left
                  ·show Act.put _ (some 13) _ = _
                   simp only [Act.put, y1, y2, y3, i64_w, i32_w]
                   rfl
                  refine pure_ (i := 13) (N := some 24) (v := ?_) (a' := ?_) (bz 14 16383) rfl rfl (any_of HT_.out (by kernel_rfl)) (fun _ _ _ h => h) (Or.inl ⟨by rfl, ?_⟩) ?_ ?_
                  rotate_left
                  ·intro w'
                   go_simp
                   with_reducible rfl
                  rotate_left
                  ·simp only [Act.put, y1, y2, y3, i64_w, i32_w]
                   rfl
                  refine done_ (done_of HT_.out (by kernel_rfl)) ?_
                  try go_wp2
                  (try (rw [drewN_self w43]; generalize hq_ : World.drewN w43 _ = w43; have n0_ : Aside0 (w43.heap[gb146]? = some (.cells #[.int .i64 0, .int .i64 0, .int .i64 0, .int .i64 0, .int .i64 0, .int .i64 0] 31 (0, 0))) := ⟨by rw [← hq_]; exact (by (with_reducible repeat (first | refine z1 ?_ _ | refine z2 ?_ | refine z3 ?_ _)); exact BK146.out)⟩; have n1_ : Aside0 (Below w.heap.size w w43) := ⟨by rw [← hq_]; exact (by repeat (first | (with_reducible first | exact HB.out | apply below_alloc | apply pw_below_drewN | apply below_drew1 | refine below_set ?_ GE146.out) | exact HB.out))⟩; clear BK146 HB hq_; have BK146 := n0_; have HB := n1_; clear n0_ n1_))
                  have n0_ := Aside0.mk (blk_drew BK146.out)
                  have n1_ := Aside0.mk (below_drew1 HB.out)
                  clear BK146 HB
                  have BK146 := n0_
                  have HB := n1_
                  clear n0_ n1_
                  have p151 : 0 ≤ (0 : Int) := (by omega)
                  have q151 : 0 < (l0.length : Int) := of_decide_eq_true (by first | (with_reducible assumption) | assumption)
                  obtain ⟨ad151, e151, hx151_0⟩ := Kd.at_int HR0.out 0 p151 q151
                  have hw151_0 := hx151_0
                  (try rw [show ((0 : Int)).toNat = 0 from rfl] at hw151_0)
                  (try rw [show 0 * 1 = 0 from rfl] at hw151_0)
                  (try rw [Addr.add_zero'] at hw151_0)
                  obtain rfl : ad149 = ad151 := (by injection e151)
                  have qi151 : (0 < l0.length) = True := eq_true (by omega)
                  (try rw [show ((0 : Int)).toNat = 0 from rfl] at hx151_0)
                  (try rw [Addr.add_zero'] at hx151_0)
                  replace hx151_0 := (HB.out.cell (World.block_lt_of_cell? w _ hx151_0)).trans hx151_0
                  replace p151 := eq_true p151
                  replace q151 := eq_true q151
                  have p152 : 0 ≤ (1 : Int) := (by omega)
                  have q152 : 1 < (l0.length : Int) := of_decide_eq_true (by first | (with_reducible assumption) | assumption)
                  obtain ⟨ad152, e152, hx152_0⟩ := Kd.at_int HR0.out 1 p152 q152
                  have hw152_0 := hx152_0
                  (try rw [show ((1 : Int)).toNat = 1 from rfl] at hw152_0)
                  (try rw [show 1 * 1 = 1 from rfl] at hw152_0)
                  (try simp only [Nat.reduceMul, Nat.reduceEqDiff, Go.Addr.add, ↓reduceIte] at hw152_0)
                  obtain rfl : ad149 = ad152 := (by injection e152)
                  (try simp only [show (1 : Int).toNat = 1 from rfl, Nat.reduceMul, Nat.reduceEqDiff, Go.Addr.add, ↓reduceIte] at hx152_0)
                  have qi152 : (1 < l0.length) = True := eq_true (by omega)
                  (try rw [show ((1 : Int)).toNat = 1 from rfl] at hx152_0)
                  replace hx152_0 := (HB.out.cell (World.block_lt_of_cell? w _ hx152_0)).trans hx152_0
                  replace p152 := eq_true p152
                  replace q152 := eq_true q152
                  have p153 : 0 ≤ (2 : Int) := (by omega)
                  have q153 : 2 < (l0.length : Int) := of_decide_eq_true (by first | (with_reducible assumption) | assumption)
                  obtain ⟨ad153, e153, hx153_0⟩ := Kd.at_int HR0.out 2 p153 q153
                  have hw153_0 := hx153_0
                  (try rw [show ((2 : Int)).toNat = 2 from rfl] at hw153_0)
                  (try rw [show 2 * 1 = 2 from rfl] at hw153_0)
                  (try simp only [Nat.reduceMul, Nat.reduceEqDiff, Go.Addr.add, ↓reduceIte] at hw153_0)
                  obtain rfl : ad149 = ad153 := (by injection e153)
                  (try simp only [show (2 : Int).toNat = 2 from rfl, Nat.reduceMul, Nat.reduceEqDiff, Go.Addr.add, ↓reduceIte] at hx153_0)
                  have qi153 : (2 < l0.length) = True := eq_true (by omega)
                  (try rw [show ((2 : Int)).toNat = 2 from rfl] at hx153_0)
                  replace hx153_0 := (HB.out.cell (World.block_lt_of_cell? w _ hx153_0)).trans hx153_0
                  replace p153 := eq_true p153
                  replace q153 := eq_true q153
                  have p154 : 0 ≤ (3 : Int) := (by omega)
                  have q154 : 3 < (l0.length : Int) := of_decide_eq_true (by first | (with_reducible assumption) | assumption)
                  obtain ⟨ad154, e154, hx154_0⟩ := Kd.at_int HR0.out 3 p154 q154
                  have hw154_0 := hx154_0
                  (try rw [show ((3 : Int)).toNat = 3 from rfl] at hw154_0)
                  (try rw [show 3 * 1 = 3 from rfl] at hw154_0)
                  (try simp only [Nat.reduceMul, Nat.reduceEqDiff, Go.Addr.add, ↓reduceIte] at hw154_0)
                  obtain rfl : ad149 = ad154 := (by injection e154)
                  (try simp only [show (3 : Int).toNat = 3 from rfl, Nat.reduceMul, Nat.reduceEqDiff, Go.Addr.add, ↓reduceIte] at hx154_0)
                  have qi154 : (3 < l0.length) = True := eq_true (by omega)
                  (try rw [show ((3 : Int)).toNat = 3 from rfl] at hx154_0)
                  replace hx154_0 := (HB.out.cell (World.block_lt_of_cell? w _ hx154_0)).trans hx154_0
                  replace p154 := eq_true p154
                  replace q154 := eq_true q154
                  have p155 : 0 ≤ (4 : Int) := (by omega)
                  have q155 : 4 < (l0.length : Int) := of_decide_eq_true (by first | (with_reducible assumption) | assumption)
                  obtain ⟨ad155, e155, hx155_0⟩ := Kd.at_int HR0.out 4 p155 q155
                  have hw155_0 := hx155_0
                  (try rw [show ((4 : Int)).toNat = 4 from rfl] at hw155_0)
                  (try rw [show 4 * 1 = 4 from rfl] at hw155_0)
                  (try simp only [Nat.reduceMul, Nat.reduceEqDiff, Go.Addr.add, ↓reduceIte] at hw155_0)
                  obtain rfl : ad149 = ad155 := (by injection e155)
                  (try simp only [show (4 : Int).toNat = 4 from rfl, Nat.reduceMul, Nat.reduceEqDiff, Go.Addr.add, ↓reduceIte] at hx155_0)
                  have qi155 : (4 < l0.length) = True := eq_true (by omega)
                  (try rw [show ((4 : Int)).toNat = 4 from rfl] at hx155_0)
                  replace hx155_0 := (HB.out.cell (World.block_lt_of_cell? w _ hx155_0)).trans hx155_0
                  replace p155 := eq_true p155
                  replace q155 := eq_true q155
                  obtain ⟨i046, hi046, _, hsz46, _⟩ := info_parts info5
                  obtain ⟨A46, hcut46, hA46, hC46⟩ := print_drop_of (P := Try.prog) (Value.int .u8) 0 34 5 .i64 Try.underlying34 hi046 hsz46 (some ad149) c0 l0 5 (by omega) (of_decide_eq_true (by first | (with_reducible assumption) | assumption)) HC0.out
                  have HR156 := Aside0.mk (Kd.C_of_reads (h1 := fun _ => rfl) (hA46 _ (Kd.reads_of_C HR0.out)))
                  have HC156 := Aside0.mk hC46
                  clear hA46 hC46 hi046 hsz46
                  obtain ⟨i047, hi047, _, hsz47, _⟩ := info_parts info5
                  obtain ⟨A47, hcut47, hA47, hC47⟩ := print_drop_of (P := Try.prog) (Value.int .u8) 0 34 5 .i64 Try.underlying34 hi047 hsz47 (some ad149) c0 l0 8 (by omega) (of_decide_eq_true (by first | (with_reducible assumption) | assumption)) HC0.out
                  have HR158 := Aside0.mk (Kd.C_of_reads (h1 := fun _ => rfl) (hA47 _ (Kd.reads_of_C HR0.out)))
                  have HC158 := Aside0.mk hC47
                  clear hA47 hC47 hi047 hsz47
                  have p160 : 0 ≤ (11 : Int) := (by omega)
                  have q160 : 11 < (l0.length : Int) := of_decide_eq_true (by first | (with_reducible assumption) | assumption)
                  obtain ⟨ad160, e160, hx160_0⟩ := Kd.at_int HR0.out 11 p160 q160
                  have hw160_0 := hx160_0
                  (try rw [show ((11 : Int)).toNat = 11 from rfl] at hw160_0)
                  (try rw [show 11 * 1 = 11 from rfl] at hw160_0)
                  (try simp only [Nat.reduceMul, Nat.reduceEqDiff, Go.Addr.add, ↓reduceIte] at hw160_0)
                  obtain rfl : ad149 = ad160 := (by injection e160)
                  (try simp only [show (11 : Int).toNat = 11 from rfl, Nat.reduceMul, Nat.reduceEqDiff, Go.Addr.add, ↓reduceIte] at hx160_0)
                  have qi160 : (11 < l0.length) = True := eq_true (by omega)
                  (try rw [show ((11 : Int)).toNat = 11 from rfl] at hx160_0)
                  replace hx160_0 := (HB.out.cell (World.block_lt_of_cell? w _ hx160_0)).trans hx160_0
                  replace p160 := eq_true p160
                  replace q160 := eq_true q160
                  have p161 : 0 ≤ (12 : Int) := (by omega)
                  have q161 : 12 < (l0.length : Int) := of_decide_eq_true (by first | (with_reducible assumption) | assumption)
                  obtain ⟨ad161, e161, hx161_0⟩ := Kd.at_int HR0.out 12 p161 q161
                  have hw161_0 := hx161_0
                  (try rw [show ((12 : Int)).toNat = 12 from rfl] at hw161_0)
                  (try rw [show 12 * 1 = 12 from rfl] at hw161_0)
                  (try simp only [Nat.reduceMul, Nat.reduceEqDiff, Go.Addr.add, ↓reduceIte] at hw161_0)
                  obtain rfl : ad149 = ad161 := (by injection e161)
                  (try simp only [show (12 : Int).toNat = 12 from rfl, Nat.reduceMul, Nat.reduceEqDiff, Go.Addr.add, ↓reduceIte] at hx161_0)
                  have qi161 : (12 < l0.length) = True := eq_true (by omega)
                  (try rw [show ((12 : Int)).toNat = 12 from rfl] at hx161_0)
                  replace hx161_0 := (HB.out.cell (World.block_lt_of_cell? w _ hx161_0)).trans hx161_0
                  replace p161 := eq_true p161
                  replace q161 := eq_true q161
                  refine start_ (n := 43) (S := fun w' => w'.cell? ad149 = some (.int .u8 (rd l0 0)) ∧ w'.cell? ⟨ad149.block, ad149.off + 1, none⟩ = some (.int .u8 (rd l0 1)) ∧ w'.cell? ⟨ad149.block, ad149.off + 2, none⟩ = some (.int .u8 (rd l0 2)) ∧ w'.cell? ⟨ad149.block, ad149.off + 3, none⟩ = some (.int .u8 (rd l0 3)) ∧ w'.cell? ⟨ad149.block, ad149.off + 4, none⟩ = some (.int .u8 (rd l0 4)) ∧ w'.cell? ⟨ad149.block, ad149.off + 11, none⟩ = some (.int .u8 (rd l0 11)) ∧ w'.cell? ⟨ad149.block, ad149.off + 12, none⟩ = some (.int .u8 (rd l0 12))) (ds := []) #[false, false, false, false, false, false, false, false, false, false, false, false, false, false, false, false, false, false, false, false, false, false, false, false, false, false, false, false, false, false, false, false, false, false, false, false, false, false, false, false, false, false, false] (by kernel_rfl) rfl rfl ⟨((HB.out.cell (World.block_lt_of_cell? w _ hw151_0)).trans hw151_0), ((HB.out.cell (World.block_lt_of_cell? w _ hw152_0)).trans hw152_0), ((HB.out.cell (World.block_lt_of_cell? w _ hw153_0)).trans hw153_0), ((HB.out.cell (World.block_lt_of_cell? w _ hw154_0)).trans hw154_0), ((HB.out.cell (World.block_lt_of_cell? w _ hw155_0)).trans hw155_0), ((HB.out.cell (World.block_lt_of_cell? w _ hw160_0)).trans hw160_0), ((HB.out.cell (World.block_lt_of_cell? w _ hw161_0)).trans hw161_0)⟩ (fun hHeld => ?_); refine with_tabW impl_ReadReport.tab6 impl_ReadReport.bits6 (fun HT_ HW_ => ?_)
                  generalize w43.drew = w45 at BK146 HB HR156 HR158 hx151_0 hx152_0 hx153_0 hx154_0 hx155_0 hx160_0 hx161_0 hHeld ⊢
                  refine pure_ (i := 0) (N := some 26) (v := ?_) (a' := ?_) (bz 43 1) rfl rfl (any_of HT_.out (by kernel_rfl)) (fun _ _ _ h => h) (Or.inl ⟨by rfl, ?_⟩) ?_ ?_
                  rotate_left
                  ·intro w'
                   go_simp
                   with_reducible rfl
                  rotate_left
                  ·simp only [Act.put, y1, y2, y3, i64_w, i32_w]
                   rfl
                  refine pure_ (i := 1) (N := some 27) (v := ?_) (a' := ?_) (bz 43 3) rfl rfl (any_of HT_.out (by kernel_rfl)) (fun _ _ _ h => h) (Or.inl ⟨by rfl, ?_⟩) ?_ ?_
                  rotate_left
                  ·intro w'
                   go_simp
                   with_reducible rfl
                  rotate_left
                  ·simp only [Act.put, y1, y2, y3, i64_w, i32_w]
                   rfl
                  refine pure_ (i := 4) (N := some 30) (v := ?_) (a' := ?_) (bz 43 19) rfl rfl (any_of HT_.out (by kernel_rfl)) (fun _ _ _ h => h) (Or.inl ⟨by rfl, ?_⟩) ?_ ?_
                  rotate_left
                  ·intro w'
                   go_simp
                   with_reducible rfl
                  rotate_left
                  ·simp only [Act.put, y1, y2, y3, i64_w, i32_w]
                   rfl
                  refine pure_ (i := 5) (N := some 31) (v := ?_) (a' := ?_) (bz 43 51) rfl rfl (any_of HT_.out (by kernel_rfl)) (fun _ _ _ h => h) (Or.inl ⟨by rfl, ?_⟩) ?_ ?_
                  rotate_left
                  ·intro w'
                   go_simp
                   with_reducible rfl
                  rotate_left
                  ·simp only [Act.put, y1, y2, y3, i64_w, i32_w]
                   rfl
                  refine pure_ (i := 9) (N := some 35) (v := ?_) (a' := ?_) (bz 43 563) rfl rfl (any_of HT_.out (by kernel_rfl)) (fun _ _ _ h => h) (Or.inl ⟨by rfl, ?_⟩) ?_ ?_
                  rotate_left
                  ·intro w'
                   go_simp
                   with_reducible rfl
                  rotate_left
                  ·simp only [Act.put, y1, y2, y3, i64_w, i32_w]
                   rfl
                  refine pure_ (i := 10) (N := some 36) (v := ?_) (a' := ?_) (bz 43 1587) rfl rfl (any_of HT_.out (by kernel_rfl)) (fun _ _ _ h => h) (Or.inl ⟨by rfl, ?_⟩) ?_ ?_
                  rotate_left
                  ·intro w'
                   go_simp
                   with_reducible rfl
                  rotate_left
                  ·simp only [Act.put, y1, y2, y3, i64_w, i32_w]
                   rfl
                  refine pure_ (i := 15) (N := some 41) (v := ?_) (a' := ?_) (bz 43 34355) rfl rfl (any_of HT_.out (by kernel_rfl)) (fun _ _ _ h => h) (Or.inl ⟨by rfl, ?_⟩) ?_ ?_
                  rotate_left
                  ·intro w'
                   go_simp
                   with_reducible rfl
                  rotate_left
                  ·simp only [Act.put, y1, y2, y3, i64_w, i32_w]
                   rfl
                  refine pure_ (i := 16) (N := some 42) (v := ?_) (a' := ?_) (bz 43 99891) rfl rfl (any_of HT_.out (by kernel_rfl)) (fun _ _ _ h => h) (Or.inl ⟨by rfl, ?_⟩) ?_ ?_
                  rotate_left
                  ·intro w'
                   go_simp
                   with_reducible rfl
                  rotate_left
                  ·simp only [Act.put, y1, y2, y3, i64_w, i32_w]
                   rfl
                  refine pure_ (i := 21) (N := some 47) (v := ?_) (a' := ?_) (bz 43 2197043) rfl rfl (any_of HT_.out (by kernel_rfl)) (fun _ _ _ h => h) (Or.inl ⟨by rfl, ?_⟩) ?_ ?_
                  rotate_left
                  ·intro w'
                   go_simp
                   with_reducible rfl
                  rotate_left
                  ·simp only [Act.put, y1, y2, y3, i64_w, i32_w]
                   rfl
                  refine pure_ (i := 22) (N := some 48) (v := ?_) (a' := ?_) (bz 43 6391347) rfl rfl (any_of HT_.out (by kernel_rfl)) (fun _ _ _ h => h) (Or.inl ⟨by rfl, ?_⟩) ?_ ?_
                  rotate_left
                  ·intro w'
                   go_simp
                   with_reducible rfl
                  rotate_left
                  ·simp only [Act.put, y1, y2, y3, i64_w, i32_w]
                   rfl
                  refine pure_ (i := 26) (N := some 52) (v := ?_) (a' := ?_) (bz 43 73500211) rfl rfl (any_of HT_.out (by kernel_rfl)) (fun _ _ _ h => h) (Or.inl ⟨by rfl, ?_⟩) ?_ ?_
                  rotate_left
                  ·intro w'
                   go_simp
                   with_reducible rfl
                  rotate_left
                  ·simp only [Act.put, y1, y2, y3, i64_w, i32_w]
                   rfl
                  refine pure_ (i := 27) (N := some 53) (v := ?_) (a' := ?_) (bz 43 207717939) rfl rfl (any_of HT_.out (by kernel_rfl)) (fun _ _ _ h => h) (Or.inl ⟨by rfl, ?_⟩) ?_ ?_
                  rotate_left
                  ·intro w'
                   go_simp
                   with_reducible rfl
                  rotate_left
                  ·simp only [Act.put, y1, y2, y3, i64_w, i32_w]
                   rfl
                  refine pure_ (i := 29) (N := some 55) (v := ?_) (a' := ?_) (bz 43 744588851) rfl rfl (any_of HT_.out (by kernel_rfl)) (fun _ _ _ h => h) (Or.inl ⟨by rfl, ?_⟩) ?_ ?_
                  rotate_left
                  ·intro w'
                   go_simp
                   with_reducible rfl
                  rotate_left
                  ·simp only [Act.put, y1, y2, y3, i64_w, i32_w]
                   rfl
                  refine pure_ (i := 30) (N := some 56) (v := ?_) (a' := ?_) (bz 43 1818330675) rfl rfl (any_of HT_.out (by kernel_rfl)) (fun _ _ _ h => h) (Or.inl ⟨by rfl, ?_⟩) ?_ ?_
                  rotate_left
                  ·intro w'
                   go_simp
                   with_reducible rfl
                  rotate_left
                  ·simp only [Act.put, y1, y2, y3, i64_w, i32_w]
                   rfl
                  refine pure_ (i := 32) (N := some 58) (v := ?_) (a' := ?_) (bz 43 6113297971) rfl rfl (any_of HT_.out (by kernel_rfl)) (fun _ _ _ h => h) (Or.inl ⟨by rfl, ?_⟩) ?_ ?_
                  rotate_left
                  ·intro w'
                   go_simp
                   with_reducible rfl
                  rotate_left
                  ·simp only [Act.put, y1, y2, y3, i64_w, i32_w]
                   rfl
                  refine pure_ (i := 33) (N := some 59) (v := ?_) (a' := ?_) (bz 43 14703232563) rfl rfl (any_of HT_.out (by kernel_rfl)) (fun _ _ _ h => h) (Or.inl ⟨by rfl, ?_⟩) ?_ ?_
                  rotate_left
                  ·intro w'
                   go_simp
                   with_reducible rfl
                  rotate_left
                  ·simp only [Act.put, y1, y2, y3, i64_w, i32_w]
                   rfl
                  refine pure_ (i := 36) (N := some 62) (v := ?_) (a' := ?_) (bz 43 83422709299) rfl rfl (any_of HT_.out (by kernel_rfl)) (fun _ _ _ h => h) (Or.inl ⟨by rfl, ?_⟩) ?_ ?_
                  rotate_left
                  ·intro w'
                   go_simp
                   with_reducible rfl
                  rotate_left
                  ·simp only [Act.put, y1, y2, y3, i64_w, i32_w]
                   rfl
                  refine pure_ (i := 37) (N := some 63) (v := ?_) (a' := ?_) (bz 43 220861662771) rfl rfl (any_of HT_.out (by kernel_rfl)) (fun _ _ _ h => h) (Or.inl ⟨by rfl, ?_⟩) ?_ ?_
                  rotate_left
                  ·intro w'
                   go_simp
                   with_reducible rfl
                  rotate_left
                  ·simp only [Act.put, y1, y2, y3, i64_w, i32_w]
                   rfl
                  refine take_ (i := 2) (N := some 28) (v := ?_) (a' := ?_) (bz 43 220861662775) rfl rfl (take_ofW HT_.out HW_.out (by kernel_rfl)) (fun _ _ _ h => h) (Or.inl ⟨by rfl, ?_⟩) hHeld ?_ ?_
                  rotate_left
                  ·rintro w' ⟨s0, s1, s2, s3, s4, s5, s6⟩
                   go_simp
                   with_reducible rfl
                  rotate_left
                  ·simp only [Act.put, y1, y2, y3, i64_w, i32_w]
                   rfl
                  refine pure_ (i := 3) (N := some 29) (v := ?_) (a' := ?_) (bz 43 220861662783) rfl rfl (any_of HT_.out (by kernel_rfl)) (fun _ _ _ h => h) (Or.inl ⟨by rfl, ?_⟩) ?_ ?_
                  rotate_left
                  ·intro w'
                   go_simp
                   with_reducible rfl
                  rotate_left
                  ·simp only [Act.put, y1, y2, y3, i64_w, i32_w]
                   rfl
                  refine take_ (i := 6) (N := some 32) (v := ?_) (a' := ?_) (bz 43 220861662847) rfl rfl (take_ofW HT_.out HW_.out (by kernel_rfl)) (fun _ _ _ h => h) (Or.inl ⟨by rfl, ?_⟩) hHeld ?_ ?_
                  rotate_left
                  ·rintro w' ⟨s0, s1, s2, s3, s4, s5, s6⟩
                   go_simp
                   with_reducible rfl
                  rotate_left
                  ·simp only [Act.put, y1, y2, y3, i64_w, i32_w]
                   rfl
                  refine pure_ (i := 7) (N := some 33) (v := ?_) (a' := ?_) (bz 43 220861662975) rfl rfl (any_of HT_.out (by kernel_rfl)) (fun _ _ _ h => h) (Or.inl ⟨by rfl, ?_⟩) ?_ ?_
                  rotate_left
                  ·intro w'
                   go_simp
                   with_reducible rfl
                  rotate_left
                  ·simp only [Act.put, y1, y2, y3, i64_w, i32_w]
                   rfl
                  refine pure_ (i := 8) (N := some 34) (v := ?_) (a' := ?_) (bz 43 220861663231) rfl rfl (any_of HT_.out (by kernel_rfl)) (fun _ _ _ h => h) (Or.inl ⟨by rfl, ?_⟩) ?_ ?_
                  rotate_left
                  ·intro w'
                   go_simp
                   with_reducible rfl
                  rotate_left
                  ·simp only [Act.put, y1, y2, y3, i64_w, i32_w]
                   rfl
                  refine take_ (i := 11) (N := some 37) (v := ?_) (a' := ?_) (bz 43 220861665279) rfl rfl (take_ofW HT_.out HW_.out (by kernel_rfl)) (fun _ _ _ h => h) (Or.inl ⟨by rfl, ?_⟩) hHeld ?_ ?_
                  rotate_left
                  ·rintro w' ⟨s0, s1, s2, s3, s4, s5, s6⟩
                   go_simp
                   with_reducible rfl
                  rotate_left
                  ·simp only [Act.put, y1, y2, y3, i64_w, i32_w]
                   rfl
                  refine pure_ (i := 12) (N := some 38) (v := ?_) (a' := ?_) (bz 43 220861669375) rfl rfl (any_of HT_.out (by kernel_rfl)) (fun _ _ _ h => h) (Or.inl ⟨by rfl, ?_⟩) ?_ ?_
                  rotate_left
                  ·intro w'
                   go_simp
                   with_reducible rfl
                  rotate_left
                  ·simp only [Act.put, y1, y2, y3, i64_w, i32_w]
                   rfl
                  refine pure_ (i := 13) (N := some 39) (v := ?_) (a' := ?_) (bz 43 220861677567) rfl rfl (any_of HT_.out (by kernel_rfl)) (fun _ _ _ h => h) (Or.inl ⟨by rfl, ?_⟩) ?_ ?_
                  rotate_left
                  ·intro w'
                   go_simp
                   with_reducible rfl
                  rotate_left
                  ·simp only [Act.put, y1, y2, y3, i64_w, i32_w]
                   rfl
                  refine pure_ (i := 14) (N := some 40) (v := ?_) (a' := ?_) (bz 43 220861693951) rfl rfl (any_of HT_.out (by kernel_rfl)) (fun _ _ _ h => h) (Or.inl ⟨by rfl, ?_⟩) ?_ ?_
                  rotate_left
                  ·intro w'
                   go_simp
                   with_reducible rfl
                  rotate_left
                  ·simp only [Act.put, y1, y2, y3, i64_w, i32_w]
                   rfl
                  refine take_ (i := 17) (N := some 43) (v := ?_) (a' := ?_) (bz 43 220861825023) rfl rfl (take_ofW HT_.out HW_.out (by kernel_rfl)) (fun _ _ _ h => h) (Or.inl ⟨by rfl, ?_⟩) hHeld ?_ ?_
                  rotate_left
                  ·rintro w' ⟨s0, s1, s2, s3, s4, s5, s6⟩
                   go_simp
                   with_reducible rfl
                  rotate_left
                  ·simp only [Act.put, y1, y2, y3, i64_w, i32_w]
                   rfl
                  refine pure_ (i := 18) (N := some 44) (v := ?_) (a' := ?_) (bz 43 220862087167) rfl rfl (any_of HT_.out (by kernel_rfl)) (fun _ _ _ h => h) (Or.inl ⟨by rfl, ?_⟩) ?_ ?_
                  rotate_left
                  ·intro w'
                   go_simp
                   with_reducible rfl
                  rotate_left
                  ·simp only [Act.put, y1, y2, y3, i64_w, i32_w]
                   rfl
                  refine pure_ (i := 19) (N := some 45) (v := ?_) (a' := ?_) (bz 43 220862611455) rfl rfl (any_of HT_.out (by kernel_rfl)) (fun _ _ _ h => h) (Or.inl ⟨by rfl, ?_⟩) ?_ ?_
                  rotate_left
                  ·intro w'
                   go_simp
                   with_reducible rfl
                  rotate_left
                  ·simp only [Act.put, y1, y2, y3, i64_w, i32_w]
                   rfl
                  refine pure_ (i := 20) (N := some 46) (v := ?_) (a' := ?_) (bz 43 220863660031) rfl rfl (any_of HT_.out (by kernel_rfl)) (fun _ _ _ h => h) (Or.inl ⟨by rfl, ?_⟩) ?_ ?_
                  rotate_left
                  ·intro w'
                   go_simp
                   with_reducible rfl
                  rotate_left
                  ·simp only [Act.put, y1, y2, y3, i64_w, i32_w]
                   rfl
                  refine take_ (i := 23) (N := some 49) (v := ?_) (a' := ?_) (bz 43 220872048639) rfl rfl (take_ofW HT_.out HW_.out (by kernel_rfl)) (fun _ _ _ h => h) (Or.inl ⟨by rfl, ?_⟩) hHeld ?_ ?_
                  rotate_left
                  ·rintro w' ⟨s0, s1, s2, s3, s4, s5, s6⟩
                   go_simp
                   with_reducible rfl
                  rotate_left
                  ·simp only [Act.put, y1, y2, y3, i64_w, i32_w]
                   rfl
                  refine pure_ (i := 24) (N := some 50) (v := ?_) (a' := ?_) (bz 43 220888825855) rfl rfl (any_of HT_.out (by kernel_rfl)) (fun _ _ _ h => h) (Or.inl ⟨by rfl, ?_⟩) ?_ ?_
                  rotate_left
                  ·intro w'
                   go_simp
                   with_reducible rfl
                  rotate_left
                  ·simp only [Act.put, y1, y2, y3, i64_w, i32_w]
                   rfl
                  refine pure_ (i := 25) (N := some 51) (v := ?_) (a' := ?_) (bz 43 220922380287) rfl rfl (any_of HT_.out (by kernel_rfl)) (fun _ _ _ h => h) (Or.inl ⟨by rfl, ?_⟩) ?_ ?_
                  rotate_left
                  ·intro w'
                   go_simp
                   with_reducible rfl
                  rotate_left
                  ·simp only [Act.put, y1, y2, y3, i64_w, i32_w]
                   rfl
                  refine take_ (i := 34) (N := some 60) (v := ?_) (a' := ?_) (bz 43 238102249471) rfl rfl (take_ofW HT_.out HW_.out (by kernel_rfl)) (fun _ _ _ h => h) (Or.inl ⟨by rfl, ?_⟩) hHeld ?_ ?_
                  rotate_left
                  ·rintro w' ⟨s0, s1, s2, s3, s4, s5, s6⟩
                   go_simp
                   with_reducible rfl
                  rotate_left
                  ·simp only [Act.put, y1, y2, y3, i64_w, i32_w]
                   rfl
                  refine pure_ (i := 35) (N := some 61) (v := ?_) (a' := ?_) (bz 43 272461987839) rfl rfl (any_of HT_.out (by kernel_rfl)) (fun _ _ _ h => h) (Or.inl ⟨by rfl, ?_⟩) ?_ ?_
                  rotate_left
                  ·intro w'
                   go_simp
                   with_reducible rfl
                  rotate_left
                  ·simp only [Act.put, y1, y2, y3, i64_w, i32_w]
                   rfl
                  refine take_ (i := 38) (N := some 64) (v := ?_) (a' := ?_) (bz 43 547339894783) rfl rfl (take_ofW HT_.out HW_.out (by kernel_rfl)) (fun _ _ _ h => h) (Or.inl ⟨by rfl, ?_⟩) hHeld ?_ ?_
                  rotate_left
                  ·rintro w' ⟨s0, s1, s2, s3, s4, s5, s6⟩
                   go_simp
                   with_reducible rfl
                  rotate_left
                  ·simp only [Act.put, y1, y2, y3, i64_w, i32_w]
                   rfl
                  refine pure_ (i := 39) (N := some 65) (v := ?_) (a' := ?_) (bz 43 1097095708671) rfl rfl (any_of HT_.out (by kernel_rfl)) (fun _ _ _ h => h) (Or.inl ⟨by rfl, ?_⟩) ?_ ?_
                  rotate_left
                  ·intro w'
                   go_simp
                   with_reducible rfl
                  rotate_left
                  ·simp only [Act.put, y1, y2, y3, i64_w, i32_w]
                   rfl
                  refine join_ (σ := Nat) 1 (bz 43 4398046511103) (fun s_ => [(54, .int .i64 t157), (57, .int .i64 t159), (5, .pointer (some ⟨s_, 0, none⟩)), (66, .agg #[.int .i64 (wrap64 (rd l0 0)), .int .i64 (Go.bits .or .i64 (Go.bits .or .i64 (Go.bits .or .i64 (wrap64 ((wrap64 (rd l0 1)) * 16777216)) (wrap64 ((wrap64 (rd l0 2)) * 65536))) (wrap64 ((wrap64 (rd l0 3)) * 256))) (wrap64 (rd l0 4))), .int .i64 t157, .int .i64 t159, .int .i64 (wrap64 (rd l0 11)), .int .i64 (wrap64 (rd l0 12))])]) (fun s_ w' => (w'.cell? ad149 = some (.int .u8 (rd l0 0)) ∧ w'.cell? ⟨ad149.block, ad149.off + 1, none⟩ = some (.int .u8 (rd l0 1)) ∧ w'.cell? ⟨ad149.block, ad149.off + 2, none⟩ = some (.int .u8 (rd l0 2)) ∧ w'.cell? ⟨ad149.block, ad149.off + 3, none⟩ = some (.int .u8 (rd l0 3)) ∧ w'.cell? ⟨ad149.block, ad149.off + 4, none⟩ = some (.int .u8 (rd l0 4)) ∧ w'.cell? ⟨ad149.block, ad149.off + 11, none⟩ = some (.int .u8 (rd l0 11)) ∧ w'.cell? ⟨ad149.block, ad149.off + 12, none⟩ = some (.int .u8 (rd l0 12))) ∧ (w'.heap[gb146]? = some (.cells #[.int .i64 0, .int .i64 0, .int .i64 0, .int .i64 0, .int .i64 0, .int .i64 0] 31 (0, 0))) ∧ (w'.heap[s_]? = some (.cells #[.int .i64 0, .int .i64 0, .int .i64 0, .int .i64 0, .int .i64 0, .int .i64 0] 31 (0, 0))) ∧ (w.heap.size ≤ s_) ∧ (w.heap.size ≤ s_) ∧ (gb146 ≠ s_) ∧ (s_ ≠ gb146) ∧ (Below w.heap.size w w')) ?_ ?_
                  rotate_left
                  ·intro hCont
                   refine two_ (i := 28) (j := 41) (Ni := some 54) (Nj := some 5) (bz 43 1097364144127) (bz 43 3296118964223) rfl rfl rfl rfl (two_of HT_.out (by kernel_rfl)) (by decide) (by decide) (fun K hK => ?_) (fun K hK => ?_)
                   ·skip
                    refine goes_ Try.func86 (by kernel_rfl) rfl #[.slice A46 (l0.drop 5).length (c0 - 5)] (by rfl) rfl rfl (by (try simp only [List.map_toArray, List.map_cons, List.map_nil]); first | done | (rw [show (l0.drop 5).length = (l0.length - 5) from List.length_drop] <;> rfl) | rfl | (simp only [List.length_drop, List.length_take]; rfl)) ?_
                    with_reducible refine (impl_number24.calls _ _ (l0.drop 5) t157 _ ?side1 ?side2 A14.out).mono ?_
                    (case side1 => repeat (first | exact (Kd.C_below HR156.out HB.out) | (with_reducible refine Kd.C_alloc ?_ _) | (with_reducible refine Kd.C_drewN ?_ _) | (with_reducible refine Kd.C_drew ?_)))
                    (case side2 => exact HC156.out)
                    rintro e w' ⟨rfl, ⟨nd, rfl⟩⟩
                    refine ⟨_, rfl, ?_⟩
                    refine hK.out _ _ ⟨((HB.out.cell (World.block_lt_of_cell? w _ hw151_0)).trans hw151_0), ((HB.out.cell (World.block_lt_of_cell? w _ hw152_0)).trans hw152_0), ((HB.out.cell (World.block_lt_of_cell? w _ hw153_0)).trans hw153_0), ((HB.out.cell (World.block_lt_of_cell? w _ hw154_0)).trans hw154_0), ((HB.out.cell (World.block_lt_of_cell? w _ hw155_0)).trans hw155_0), ((HB.out.cell (World.block_lt_of_cell? w _ hw160_0)).trans hw160_0), ((HB.out.cell (World.block_lt_of_cell? w _ hw161_0)).trans hw161_0)⟩ (fun hHeld => ?_)
                    clear hK K
                    refine norm_ (a' := ?_) ?_ ?_
                    rotate_left
                    ·show Act.put _ (some 54) _ = _
                     simp only [Act.put, y1, y2, y3, i64_w, i32_w]
                     rfl
                    refine two_ (i := 31) (j := 41) (Ni := some 57) (Nj := some 5) (bz 43 1099511627775) (bz 43 3296387399679) rfl rfl rfl rfl (two_of HT_.out (by kernel_rfl)) (by decide) (by decide) (fun K hK => ?_) (fun K hK => ?_)
                    ·skip
                     refine goes_ Try.func86 (by kernel_rfl) rfl #[.slice A47 (l0.drop 8).length (c0 - 8)] (by rfl) rfl rfl (by (try simp only [List.map_toArray, List.map_cons, List.map_nil]); first | done | (rw [show (l0.drop 8).length = (l0.length - 8) from List.length_drop] <;> rfl) | rfl | (simp only [List.length_drop, List.length_take]; rfl)) ?_
                     with_reducible refine (impl_number24.calls _ _ (l0.drop 8) t159 _ ?side1 ?side2 A16.out).mono ?_
                     (case side1 => repeat (first | exact (Kd.C_below HR158.out (by repeat (first | (with_reducible first | exact HB.out | apply below_alloc | apply pw_below_drewN | apply below_drew1 | refine below_set ?_ GE146.out) | exact HB.out))) | (with_reducible refine Kd.C_alloc ?_ _) | (with_reducible refine Kd.C_drewN ?_ _) | (with_reducible refine Kd.C_drew ?_)))
                     (case side2 => exact HC158.out)
                     rintro e w' ⟨rfl, ⟨nd, rfl⟩⟩
                     refine ⟨_, rfl, ?_⟩
                     refine hK.out _ _ ⟨((HB.out.cell (World.block_lt_of_cell? w _ hw151_0)).trans hw151_0), ((HB.out.cell (World.block_lt_of_cell? w _ hw152_0)).trans hw152_0), ((HB.out.cell (World.block_lt_of_cell? w _ hw153_0)).trans hw153_0), ((HB.out.cell (World.block_lt_of_cell? w _ hw154_0)).trans hw154_0), ((HB.out.cell (World.block_lt_of_cell? w _ hw155_0)).trans hw155_0), ((HB.out.cell (World.block_lt_of_cell? w _ hw160_0)).trans hw160_0), ((HB.out.cell (World.block_lt_of_cell? w _ hw161_0)).trans hw161_0)⟩ (fun hHeld => ?_)
                     clear hK K
                     refine norm_ (a' := ?_) ?_ ?_
                     rotate_left
                     ·show Act.put _ (some 57) _ = _
                      simp only [Act.put, y1, y2, y3, i64_w, i32_w]
                      rfl
                     refine pure_ (i := 40) (N := some 66) (v := ?_) (a' := ?_) (bz 43 2199023255551) rfl rfl (any_of HT_.out (by kernel_rfl)) (fun _ _ _ h => h) (Or.inl ⟨by rfl, ?_⟩) ?_ ?_
                     rotate_left
                     ·intro w'
                      go_simp
                      with_reducible rfl
                     rotate_left
                     ·simp only [Act.put, y1, y2, y3, i64_w, i32_w]
                      rfl
                     refine one_ (i := 41) (N := some 5) (bz 43 4398046511103) rfl rfl (one_of HT_.out (by kernel_rfl)) (by decide) (fun K hK => ?_)
                     refine box_step ?hg (N := 5) ?hd (cs := #[.int .i64 0, .int .i64 0, .int .i64 0, .int .i64 0, .int .i64 0, .int .i64 0]) (t := 31) ?hr ?_; (case hd => rfl); (case hg => rfl); (case hr => first | (go_simp; done) | (go_simp; rfl))
                     intro gb162 hg w48 hbox hb
                     have n0_ := Aside0.mk (blk_below (g := gb146) (o := .cells #[.int .i64 0, .int .i64 0, .int .i64 0, .int .i64 0, .int .i64 0, .int .i64 0] 31 (0, 0)) (by (with_reducible repeat (first | refine z1 ?_ _ | refine z2 ?_ | refine z3 ?_ _)); exact BK146.out) hb)
                     have n1_ := Aside0.mk (below_step (by repeat (first | (with_reducible first | exact HB.out | apply below_alloc | apply pw_below_drewN | apply below_drew1 | refine below_set ?_ GE146.out) | exact HB.out)) hb)
                     have n2_ := Aside0.mk (hbox)
                     have n3_ := Aside0.mk ((by rw [hg]; exact (below_size (by repeat (first | (with_reducible first | exact HB.out | apply below_alloc | apply pw_below_drewN | apply below_drew1 | refine below_set ?_ GE146.out) | exact HB.out))) : w.heap.size ≤ gb162))
                     have n4_ := Aside0.mk ((by rw [hg]; exact (below_size (by repeat (first | (with_reducible first | exact HB.out | apply below_alloc | apply pw_below_drewN | apply below_drew1 | refine below_set ?_ GE146.out) | exact HB.out))) : w.heap.size ≤ gb162))
                     have n5_ := Aside0.mk ((by rw [hg]; exact Nat.ne_of_lt (blk_lt (g := gb146) (o := .cells #[.int .i64 0, .int .i64 0, .int .i64 0, .int .i64 0, .int .i64 0, .int .i64 0] 31 (0, 0)) (by (with_reducible repeat (first | refine z1 ?_ _ | refine z2 ?_ | refine z3 ?_ _)); exact BK146.out)) : gb146 ≠ gb162))
                     have n6_ := Aside0.mk ((by rw [hg]; exact Nat.ne_of_gt (blk_lt (g := gb146) (o := .cells #[.int .i64 0, .int .i64 0, .int .i64 0, .int .i64 0, .int .i64 0, .int .i64 0] 31 (0, 0)) (by (with_reducible repeat (first | refine z1 ?_ _ | refine z2 ?_ | refine z3 ?_ _)); exact BK146.out)) : gb162 ≠ gb146))
                     clear BK146 HB
                     have BK146 := n0_
                     have HB := n1_
                     have BK162 := n2_
                     have GW162 := n3_
                     have GE162 := n4_
                     have NB146_162 := n5_
                     have NB162_146 := n6_
                     clear n0_ n1_ n2_ n3_ n4_ n5_ n6_ hb hbox hg
                     refine hK.out _ _ ⟨((HB.out.cell (World.block_lt_of_cell? w _ hw151_0)).trans hw151_0), ((HB.out.cell (World.block_lt_of_cell? w _ hw152_0)).trans hw152_0), ((HB.out.cell (World.block_lt_of_cell? w _ hw153_0)).trans hw153_0), ((HB.out.cell (World.block_lt_of_cell? w _ hw154_0)).trans hw154_0), ((HB.out.cell (World.block_lt_of_cell? w _ hw155_0)).trans hw155_0), ((HB.out.cell (World.block_lt_of_cell? w _ hw160_0)).trans hw160_0), ((HB.out.cell (World.block_lt_of_cell? w _ hw161_0)).trans hw161_0)⟩ (fun hHeld => ?_)
                     clear hK K
                     refine norm_ (a' := ?_) ?_ ?_
                     rotate_left
                     ·show Act.put _ (some 5) _ = _
                      simp only [Act.put, y1, y2, y3, i64_w, i32_w]
                      rfl
                     exact norm_ (by simp only [putAll, Act.put, y1, y2, y3]) (hCont (gb162) _ ⟨hHeld, (by (with_reducible repeat (first | refine z1 ?_ _ | refine z2 ?_ | refine z3 ?_ _)); exact BK146.out), (by (with_reducible repeat (first | refine z1 ?_ _ | refine z2 ?_ | refine z3 ?_ _)); exact BK162.out), GW162.out, GE162.out, NB146_162.out, NB162_146.out, (by repeat (first | (with_reducible first | exact HB.out | apply below_alloc | apply pw_below_drewN | apply below_drew1 | refine below_set ?_ GE146.out | refine below_set ?_ GE162.out) | exact HB.out))⟩)
                    ·skip
                     refine box_step ?hg (N := 5) ?hd (cs := #[.int .i64 0, .int .i64 0, .int .i64 0, .int .i64 0, .int .i64 0, .int .i64 0]) (t := 31) ?hr ?_; (case hd => rfl); (case hg => rfl); (case hr => first | (go_simp; done) | (go_simp; rfl))
                     intro gb162 hg w48 hbox hb
                     have n0_ := Aside0.mk (blk_below (g := gb146) (o := .cells #[.int .i64 0, .int .i64 0, .int .i64 0, .int .i64 0, .int .i64 0, .int .i64 0] 31 (0, 0)) (by (with_reducible repeat (first | refine z1 ?_ _ | refine z2 ?_ | refine z3 ?_ _)); exact BK146.out) hb)
                     have n1_ := Aside0.mk (below_step (by repeat (first | (with_reducible first | exact HB.out | apply below_alloc | apply pw_below_drewN | apply below_drew1 | refine below_set ?_ GE146.out) | exact HB.out)) hb)
                     have n2_ := Aside0.mk (hbox)
                     have n3_ := Aside0.mk ((by rw [hg]; exact (below_size (by repeat (first | (with_reducible first | exact HB.out | apply below_alloc | apply pw_below_drewN | apply below_drew1 | refine below_set ?_ GE146.out) | exact HB.out))) : w.heap.size ≤ gb162))
                     have n4_ := Aside0.mk ((by rw [hg]; exact (below_size (by repeat (first | (with_reducible first | exact HB.out | apply below_alloc | apply pw_below_drewN | apply below_drew1 | refine below_set ?_ GE146.out) | exact HB.out))) : w.heap.size ≤ gb162))
                     have n5_ := Aside0.mk ((by rw [hg]; exact Nat.ne_of_lt (blk_lt (g := gb146) (o := .cells #[.int .i64 0, .int .i64 0, .int .i64 0, .int .i64 0, .int .i64 0, .int .i64 0] 31 (0, 0)) (by (with_reducible repeat (first | refine z1 ?_ _ | refine z2 ?_ | refine z3 ?_ _)); exact BK146.out)) : gb146 ≠ gb162))
                     have n6_ := Aside0.mk ((by rw [hg]; exact Nat.ne_of_gt (blk_lt (g := gb146) (o := .cells #[.int .i64 0, .int .i64 0, .int .i64 0, .int .i64 0, .int .i64 0, .int .i64 0] 31 (0, 0)) (by (with_reducible repeat (first | refine z1 ?_ _ | refine z2 ?_ | refine z3 ?_ _)); exact BK146.out)) : gb162 ≠ gb146))
                     clear BK146 HB
                     have BK146 := n0_
                     have HB := n1_
                     have BK162 := n2_
                     have GW162 := n3_
                     have GE162 := n4_
                     have NB146_162 := n5_
                     have NB162_146 := n6_
                     clear n0_ n1_ n2_ n3_ n4_ n5_ n6_ hb hbox hg
                     refine hK.out _ _ ⟨((HB.out.cell (World.block_lt_of_cell? w _ hw151_0)).trans hw151_0), ((HB.out.cell (World.block_lt_of_cell? w _ hw152_0)).trans hw152_0), ((HB.out.cell (World.block_lt_of_cell? w _ hw153_0)).trans hw153_0), ((HB.out.cell (World.block_lt_of_cell? w _ hw154_0)).trans hw154_0), ((HB.out.cell (World.block_lt_of_cell? w _ hw155_0)).trans hw155_0), ((HB.out.cell (World.block_lt_of_cell? w _ hw160_0)).trans hw160_0), ((HB.out.cell (World.block_lt_of_cell? w _ hw161_0)).trans hw161_0)⟩ (fun hHeld => ?_)
                     clear hK K
                     refine norm_ (a' := ?_) ?_ ?_
                     rotate_left
                     ·show Act.put _ (some 5) _ = _
                      simp only [Act.put, y1, y2, y3, i64_w, i32_w]
                      rfl
                     refine one_ (i := 31) (N := some 57) (bz 43 3298534883327) rfl rfl (one_of HT_.out (by kernel_rfl)) (by decide) (fun K hK => ?_)
                     refine goes_ Try.func86 (by kernel_rfl) rfl #[.slice A47 (l0.drop 8).length (c0 - 8)] (by rfl) rfl rfl (by (try simp only [List.map_toArray, List.map_cons, List.map_nil]); first | done | (rw [show (l0.drop 8).length = (l0.length - 8) from List.length_drop] <;> rfl) | rfl | (simp only [List.length_drop, List.length_take]; rfl)) ?_
                     with_reducible refine (impl_number24.calls _ _ (l0.drop 8) t159 _ ?side1 ?side2 A16.out).mono ?_
                     (case side1 => repeat (first | exact (Kd.C_below HR158.out HB.out) | (with_reducible refine Kd.C_alloc ?_ _) | (with_reducible refine Kd.C_drewN ?_ _) | (with_reducible refine Kd.C_drew ?_)))
                     (case side2 => exact HC158.out)
                     rintro e w' ⟨rfl, ⟨nd, rfl⟩⟩
                     refine ⟨_, rfl, ?_⟩
                     refine hK.out _ _ ⟨((HB.out.cell (World.block_lt_of_cell? w _ hw151_0)).trans hw151_0), ((HB.out.cell (World.block_lt_of_cell? w _ hw152_0)).trans hw152_0), ((HB.out.cell (World.block_lt_of_cell? w _ hw153_0)).trans hw153_0), ((HB.out.cell (World.block_lt_of_cell? w _ hw154_0)).trans hw154_0), ((HB.out.cell (World.block_lt_of_cell? w _ hw155_0)).trans hw155_0), ((HB.out.cell (World.block_lt_of_cell? w _ hw160_0)).trans hw160_0), ((HB.out.cell (World.block_lt_of_cell? w _ hw161_0)).trans hw161_0)⟩ (fun hHeld => ?_)
                     clear hK K
                     refine norm_ (a' := ?_) ?_ ?_
                     rotate_left
                     ·show Act.put _ (some 57) _ = _
                      simp only [Act.put, y1, y2, y3, i64_w, i32_w]
                      rfl
                     refine pure_ (i := 40) (N := some 66) (v := ?_) (a' := ?_) (bz 43 4398046511103) rfl rfl (any_of HT_.out (by kernel_rfl)) (fun _ _ _ h => h) (Or.inl ⟨by rfl, ?_⟩) ?_ ?_
                     rotate_left
                     ·intro w'
                      go_simp
                      with_reducible rfl
                     rotate_left
                     ·simp only [Act.put, y1, y2, y3, i64_w, i32_w]
                      rfl
                     exact norm_ (by simp only [putAll, Act.put, y1, y2, y3]) (hCont (gb162) _ ⟨hHeld, (by (with_reducible repeat (first | refine z1 ?_ _ | refine z2 ?_ | refine z3 ?_ _)); exact BK146.out), (by (with_reducible repeat (first | refine z1 ?_ _ | refine z2 ?_ | refine z3 ?_ _)); exact BK162.out), GW162.out, GE162.out, NB146_162.out, NB162_146.out, (by repeat (first | (with_reducible first | exact HB.out | apply below_alloc | apply pw_below_drewN | apply below_drew1 | refine below_set ?_ GE146.out | refine below_set ?_ GE162.out) | exact HB.out))⟩)
                   ·skip
                    refine box_step ?hg (N := 5) ?hd (cs := #[.int .i64 0, .int .i64 0, .int .i64 0, .int .i64 0, .int .i64 0, .int .i64 0]) (t := 31) ?hr ?_; (case hd => rfl); (case hg => rfl); (case hr => first | (go_simp; done) | (go_simp; rfl))
                    intro gb162 hg w48 hbox hb
                    have n0_ := Aside0.mk (blk_below (g := gb146) (o := .cells #[.int .i64 0, .int .i64 0, .int .i64 0, .int .i64 0, .int .i64 0, .int .i64 0] 31 (0, 0)) (by (with_reducible repeat (first | refine z1 ?_ _ | refine z2 ?_ | refine z3 ?_ _)); exact BK146.out) hb)
                    have n1_ := Aside0.mk (below_step (by repeat (first | (with_reducible first | exact HB.out | apply below_alloc | apply pw_below_drewN | apply below_drew1 | refine below_set ?_ GE146.out) | exact HB.out)) hb)
                    have n2_ := Aside0.mk (hbox)
                    have n3_ := Aside0.mk ((by rw [hg]; exact (below_size (by repeat (first | (with_reducible first | exact HB.out | apply below_alloc | apply pw_below_drewN | apply below_drew1 | refine below_set ?_ GE146.out) | exact HB.out))) : w.heap.size ≤ gb162))
                    have n4_ := Aside0.mk ((by rw [hg]; exact (below_size (by repeat (first | (with_reducible first | exact HB.out | apply below_alloc | apply pw_below_drewN | apply below_drew1 | refine below_set ?_ GE146.out) | exact HB.out))) : w.heap.size ≤ gb162))
                    have n5_ := Aside0.mk ((by rw [hg]; exact Nat.ne_of_lt (blk_lt (g := gb146) (o := .cells #[.int .i64 0, .int .i64 0, .int .i64 0, .int .i64 0, .int .i64 0, .int .i64 0] 31 (0, 0)) (by (with_reducible repeat (first | refine z1 ?_ _ | refine z2 ?_ | refine z3 ?_ _)); exact BK146.out)) : gb146 ≠ gb162))
                    have n6_ := Aside0.mk ((by rw [hg]; exact Nat.ne_of_gt (blk_lt (g := gb146) (o := .cells #[.int .i64 0, .int .i64 0, .int .i64 0, .int .i64 0, .int .i64 0, .int .i64 0] 31 (0, 0)) (by (with_reducible repeat (first | refine z1 ?_ _ | refine z2 ?_ | refine z3 ?_ _)); exact BK146.out)) : gb162 ≠ gb146))
                    clear BK146 HB
                    have BK146 := n0_
                    have HB := n1_
                    have BK162 := n2_
                    have GW162 := n3_
                    have GE162 := n4_
                    have NB146_162 := n5_
                    have NB162_146 := n6_
                    clear n0_ n1_ n2_ n3_ n4_ n5_ n6_ hb hbox hg
                    refine hK.out _ _ ⟨((HB.out.cell (World.block_lt_of_cell? w _ hw151_0)).trans hw151_0), ((HB.out.cell (World.block_lt_of_cell? w _ hw152_0)).trans hw152_0), ((HB.out.cell (World.block_lt_of_cell? w _ hw153_0)).trans hw153_0), ((HB.out.cell (World.block_lt_of_cell? w _ hw154_0)).trans hw154_0), ((HB.out.cell (World.block_lt_of_cell? w _ hw155_0)).trans hw155_0), ((HB.out.cell (World.block_lt_of_cell? w _ hw160_0)).trans hw160_0), ((HB.out.cell (World.block_lt_of_cell? w _ hw161_0)).trans hw161_0)⟩ (fun hHeld => ?_)
                    clear hK K
                    refine norm_ (a' := ?_) ?_ ?_
                    rotate_left
                    ·show Act.put _ (some 5) _ = _
                     simp only [Act.put, y1, y2, y3, i64_w, i32_w]
                     rfl
                    refine one_ (i := 28) (N := some 54) (bz 43 3296387399679) rfl rfl (one_of HT_.out (by kernel_rfl)) (by decide) (fun K hK => ?_)
                    refine goes_ Try.func86 (by kernel_rfl) rfl #[.slice A46 (l0.drop 5).length (c0 - 5)] (by rfl) rfl rfl (by (try simp only [List.map_toArray, List.map_cons, List.map_nil]); first | done | (rw [show (l0.drop 5).length = (l0.length - 5) from List.length_drop] <;> rfl) | rfl | (simp only [List.length_drop, List.length_take]; rfl)) ?_
                    with_reducible refine (impl_number24.calls _ _ (l0.drop 5) t157 _ ?side1 ?side2 A14.out).mono ?_
                    (case side1 => repeat (first | exact (Kd.C_below HR156.out HB.out) | (with_reducible refine Kd.C_alloc ?_ _) | (with_reducible refine Kd.C_drewN ?_ _) | (with_reducible refine Kd.C_drew ?_)))
                    (case side2 => exact HC156.out)
                    rintro e w' ⟨rfl, ⟨nd, rfl⟩⟩
                    refine ⟨_, rfl, ?_⟩
                    refine hK.out _ _ ⟨((HB.out.cell (World.block_lt_of_cell? w _ hw151_0)).trans hw151_0), ((HB.out.cell (World.block_lt_of_cell? w _ hw152_0)).trans hw152_0), ((HB.out.cell (World.block_lt_of_cell? w _ hw153_0)).trans hw153_0), ((HB.out.cell (World.block_lt_of_cell? w _ hw154_0)).trans hw154_0), ((HB.out.cell (World.block_lt_of_cell? w _ hw155_0)).trans hw155_0), ((HB.out.cell (World.block_lt_of_cell? w _ hw160_0)).trans hw160_0), ((HB.out.cell (World.block_lt_of_cell? w _ hw161_0)).trans hw161_0)⟩ (fun hHeld => ?_)
                    clear hK K
                    refine norm_ (a' := ?_) ?_ ?_
                    rotate_left
                    ·show Act.put _ (some 54) _ = _
                     simp only [Act.put, y1, y2, y3, i64_w, i32_w]
                     rfl
                    refine one_ (i := 31) (N := some 57) (bz 43 3298534883327) rfl rfl (one_of HT_.out (by kernel_rfl)) (by decide) (fun K hK => ?_)
                    refine goes_ Try.func86 (by kernel_rfl) rfl #[.slice A47 (l0.drop 8).length (c0 - 8)] (by rfl) rfl rfl (by (try simp only [List.map_toArray, List.map_cons, List.map_nil]); first | done | (rw [show (l0.drop 8).length = (l0.length - 8) from List.length_drop] <;> rfl) | rfl | (simp only [List.length_drop, List.length_take]; rfl)) ?_
                    with_reducible refine (impl_number24.calls _ _ (l0.drop 8) t159 _ ?side1 ?side2 A16.out).mono ?_
                    (case side1 => repeat (first | exact (Kd.C_below HR158.out (by repeat (first | (with_reducible first | exact HB.out | apply below_alloc | apply pw_below_drewN | apply below_drew1 | refine below_set ?_ GE146.out | refine below_set ?_ GE162.out) | exact HB.out))) | (with_reducible refine Kd.C_alloc ?_ _) | (with_reducible refine Kd.C_drewN ?_ _) | (with_reducible refine Kd.C_drew ?_)))
                    (case side2 => exact HC158.out)
                    rintro e w' ⟨rfl, ⟨nd, rfl⟩⟩
                    refine ⟨_, rfl, ?_⟩
                    refine hK.out _ _ ⟨((HB.out.cell (World.block_lt_of_cell? w _ hw151_0)).trans hw151_0), ((HB.out.cell (World.block_lt_of_cell? w _ hw152_0)).trans hw152_0), ((HB.out.cell (World.block_lt_of_cell? w _ hw153_0)).trans hw153_0), ((HB.out.cell (World.block_lt_of_cell? w _ hw154_0)).trans hw154_0), ((HB.out.cell (World.block_lt_of_cell? w _ hw155_0)).trans hw155_0), ((HB.out.cell (World.block_lt_of_cell? w _ hw160_0)).trans hw160_0), ((HB.out.cell (World.block_lt_of_cell? w _ hw161_0)).trans hw161_0)⟩ (fun hHeld => ?_)
                    clear hK K
                    refine norm_ (a' := ?_) ?_ ?_
                    rotate_left
                    ·show Act.put _ (some 57) _ = _
                     simp only [Act.put, y1, y2, y3, i64_w, i32_w]
                     rfl
                    refine pure_ (i := 40) (N := some 66) (v := ?_) (a' := ?_) (bz 43 4398046511103) rfl rfl (any_of HT_.out (by kernel_rfl)) (fun _ _ _ h => h) (Or.inl ⟨by rfl, ?_⟩) ?_ ?_
                    rotate_left
                    ·intro w'
                     go_simp
                     with_reducible rfl
                    rotate_left
                    ·simp only [Act.put, y1, y2, y3, i64_w, i32_w]
                     rfl
                    exact norm_ (by simp only [putAll, Act.put, y1, y2, y3]) (hCont (gb162) _ ⟨hHeld, (by (with_reducible repeat (first | refine z1 ?_ _ | refine z2 ?_ | refine z3 ?_ _)); exact BK146.out), (by (with_reducible repeat (first | refine z1 ?_ _ | refine z2 ?_ | refine z3 ?_ _)); exact BK162.out), GW162.out, GE162.out, NB146_162.out, NB162_146.out, (by repeat (first | (with_reducible first | exact HB.out | apply below_alloc | apply pw_below_drewN | apply below_drew1 | refine below_set ?_ GE146.out | refine below_set ?_ GE162.out) | exact HB.out))⟩)
                  rintro gb162 w49 ⟨hS_, h0_, h1_, h2_, h3_, h4_, h5_, h6_⟩
                  have n0_ : Aside0 (w49.heap[gb146]? = some (.cells #[.int .i64 0, .int .i64 0, .int .i64 0, .int .i64 0, .int .i64 0, .int .i64 0] 31 (0, 0))) := ⟨h0_⟩
                  have n1_ : Aside0 (w49.heap[gb162]? = some (.cells #[.int .i64 0, .int .i64 0, .int .i64 0, .int .i64 0, .int .i64 0, .int .i64 0] 31 (0, 0))) := ⟨h1_⟩
                  have n2_ : Aside0 (w.heap.size ≤ gb162) := ⟨h2_⟩
                  have n3_ : Aside0 (w.heap.size ≤ gb162) := ⟨h3_⟩
                  have n4_ : Aside0 (gb146 ≠ gb162) := ⟨h4_⟩
                  have n5_ : Aside0 (gb162 ≠ gb146) := ⟨h5_⟩
                  have n6_ : Aside0 (Below w.heap.size w w49) := ⟨h6_⟩
                  clear BK146 HB h0_ h1_ h2_ h3_ h4_ h5_ h6_
                  have BK146 := n0_
                  have BK162 := n1_
                  have GW162 := n2_
                  have GE162 := n3_
                  have NB146_162 := n4_
                  have NB162_146 := n5_
                  have HB := n6_
                  clear n0_ n1_ n2_ n3_ n4_ n5_ n6_
                  have hHeld : w49.cell? ad149 = some (.int .u8 (rd l0 0)) ∧ w49.cell? ⟨ad149.block, ad149.off + 1, none⟩ = some (.int .u8 (rd l0 1)) ∧ w49.cell? ⟨ad149.block, ad149.off + 2, none⟩ = some (.int .u8 (rd l0 2)) ∧ w49.cell? ⟨ad149.block, ad149.off + 3, none⟩ = some (.int .u8 (rd l0 3)) ∧ w49.cell? ⟨ad149.block, ad149.off + 4, none⟩ = some (.int .u8 (rd l0 4)) ∧ w49.cell? ⟨ad149.block, ad149.off + 11, none⟩ = some (.int .u8 (rd l0 11)) ∧ w49.cell? ⟨ad149.block, ad149.off + 12, none⟩ = some (.int .u8 (rd l0 12)) := hS_
                  refine norm_ (a' := ?_) ?_ ?_
                  rotate_left
                  ·simp only [putAll, Act.put, y1, y2, y3]
                   rfl
                  refine one_ (i := 42) (N := none) (bz 43 8796093022207) rfl rfl (one_of HT_.out (by kernel_rfl)) (by decide) (fun K hK => ?_)
                  have hs50 : w49.cell? ⟨gb162, 0, none⟩ = some (.int .i64 0) := (blk_cell BK162.out 0).trans rfl
                  have hfs50 := blk_frozen BK162.out 0
                  have hns50_0 := NB146_162.out
                  have hms50_0 := NB162_146.out
                  have hs51 : w49.cell? ⟨gb162, 1, none⟩ = some (.int .i64 0) := (blk_cell BK162.out 1).trans rfl
                  have hfs51 := blk_frozen BK162.out 1
                  have hns51_0 := NB146_162.out
                  have hms51_0 := NB162_146.out
                  have hs52 : w49.cell? ⟨gb162, 2, none⟩ = some (.int .i64 0) := (blk_cell BK162.out 2).trans rfl
                  have hfs52 := blk_frozen BK162.out 2
                  have hns52_0 := NB146_162.out
                  have hms52_0 := NB162_146.out
                  have hs53 : w49.cell? ⟨gb162, 3, none⟩ = some (.int .i64 0) := (blk_cell BK162.out 3).trans rfl
                  have hfs53 := blk_frozen BK162.out 3
                  have hns53_0 := NB146_162.out
                  have hms53_0 := NB162_146.out
                  have hs54 : w49.cell? ⟨gb162, 4, none⟩ = some (.int .i64 0) := (blk_cell BK162.out 4).trans rfl
                  have hfs54 := blk_frozen BK162.out 4
                  have hns54_0 := NB146_162.out
                  have hms54_0 := NB162_146.out
                  have hs55 : w49.cell? ⟨gb162, 5, none⟩ = some (.int .i64 0) := (blk_cell BK162.out 5).trans rfl
                  have hfs55 := blk_frozen BK162.out 5
                  have hns55_0 := NB146_162.out
                  have hms55_0 := NB162_146.out
                  refine skip_ (w1 := ?_) (by rfl) rfl ?_ ?_
                  rotate_left
                  ·go_simp
                   rfl
                  refine hK.out _ _ ⟨((cell_far (p := ⟨gb162, _, none⟩) (by first | exact nz1 hw151_0 GW162.out | exact nz2 hw151_0 GW162.out | exact nz3 hw151_0 GW162.out) _).trans (((cell_far (p := ⟨gb162, _, none⟩) (by first | exact nz1 hw151_0 GW162.out | exact nz2 hw151_0 GW162.out | exact nz3 hw151_0 GW162.out) _).trans (((cell_far (p := ⟨gb162, _, none⟩) (by first | exact nz1 hw151_0 GW162.out | exact nz2 hw151_0 GW162.out | exact nz3 hw151_0 GW162.out) _).trans (((cell_far (p := ⟨gb162, _, none⟩) (by first | exact nz1 hw151_0 GW162.out | exact nz2 hw151_0 GW162.out | exact nz3 hw151_0 GW162.out) _).trans (((cell_far (p := ⟨gb162, _, none⟩) (by first | exact nz1 hw151_0 GW162.out | exact nz2 hw151_0 GW162.out | exact nz3 hw151_0 GW162.out) _).trans (((cell_far (p := ⟨gb162, _, none⟩) (by first | exact nz1 hw151_0 GW162.out | exact nz2 hw151_0 GW162.out | exact nz3 hw151_0 GW162.out) _).trans (hHeld.1)))))))))))), ((cell_far (p := ⟨gb162, _, none⟩) (by first | exact nz1 hw152_0 GW162.out | exact nz2 hw152_0 GW162.out | exact nz3 hw152_0 GW162.out) _).trans (((cell_far (p := ⟨gb162, _, none⟩) (by first | exact nz1 hw152_0 GW162.out | exact nz2 hw152_0 GW162.out | exact nz3 hw152_0 GW162.out) _).trans (((cell_far (p := ⟨gb162, _, none⟩) (by first | exact nz1 hw152_0 GW162.out | exact nz2 hw152_0 GW162.out | exact nz3 hw152_0 GW162.out) _).trans (((cell_far (p := ⟨gb162, _, none⟩) (by first | exact nz1 hw152_0 GW162.out | exact nz2 hw152_0 GW162.out | exact nz3 hw152_0 GW162.out) _).trans (((cell_far (p := ⟨gb162, _, none⟩) (by first | exact nz1 hw152_0 GW162.out | exact nz2 hw152_0 GW162.out | exact nz3 hw152_0 GW162.out) _).trans (((cell_far (p := ⟨gb162, _, none⟩) (by first | exact nz1 hw152_0 GW162.out | exact nz2 hw152_0 GW162.out | exact nz3 hw152_0 GW162.out) _).trans (hHeld.2.1)))))))))))), ((cell_far (p := ⟨gb162, _, none⟩) (by first | exact nz1 hw153_0 GW162.out | exact nz2 hw153_0 GW162.out | exact nz3 hw153_0 GW162.out) _).trans (((cell_far (p := ⟨gb162, _, none⟩) (by first | exact nz1 hw153_0 GW162.out | exact nz2 hw153_0 GW162.out | exact nz3 hw153_0 GW162.out) _).trans (((cell_far (p := ⟨gb162, _, none⟩) (by first | exact nz1 hw153_0 GW162.out | exact nz2 hw153_0 GW162.out | exact nz3 hw153_0 GW162.out) _).trans (((cell_far (p := ⟨gb162, _, none⟩) (by first | exact nz1 hw153_0 GW162.out | exact nz2 hw153_0 GW162.out | exact nz3 hw153_0 GW162.out) _).trans (((cell_far (p := ⟨gb162, _, none⟩) (by first | exact nz1 hw153_0 GW162.out | exact nz2 hw153_0 GW162.out | exact nz3 hw153_0 GW162.out) _).trans (((cell_far (p := ⟨gb162, _, none⟩) (by first | exact nz1 hw153_0 GW162.out | exact nz2 hw153_0 GW162.out | exact nz3 hw153_0 GW162.out) _).trans (hHeld.2.2.1)))))))))))), ((cell_far (p := ⟨gb162, _, none⟩) (by first | exact nz1 hw154_0 GW162.out | exact nz2 hw154_0 GW162.out | exact nz3 hw154_0 GW162.out) _).trans (((cell_far (p := ⟨gb162, _, none⟩) (by first | exact nz1 hw154_0 GW162.out | exact nz2 hw154_0 GW162.out | exact nz3 hw154_0 GW162.out) _).trans (((cell_far (p := ⟨gb162, _, none⟩) (by first | exact nz1 hw154_0 GW162.out | exact nz2 hw154_0 GW162.out | exact nz3 hw154_0 GW162.out) _).trans (((cell_far (p := ⟨gb162, _, none⟩) (by first | exact nz1 hw154_0 GW162.out | exact nz2 hw154_0 GW162.out | exact nz3 hw154_0 GW162.out) _).trans (((cell_far (p := ⟨gb162, _, none⟩) (by first | exact nz1 hw154_0 GW162.out | exact nz2 hw154_0 GW162.out | exact nz3 hw154_0 GW162.out) _).trans (((cell_far (p := ⟨gb162, _, none⟩) (by first | exact nz1 hw154_0 GW162.out | exact nz2 hw154_0 GW162.out | exact nz3 hw154_0 GW162.out) _).trans (hHeld.2.2.2.1)))))))))))), ((cell_far (p := ⟨gb162, _, none⟩) (by first | exact nz1 hw155_0 GW162.out | exact nz2 hw155_0 GW162.out | exact nz3 hw155_0 GW162.out) _).trans (((cell_far (p := ⟨gb162, _, none⟩) (by first | exact nz1 hw155_0 GW162.out | exact nz2 hw155_0 GW162.out | exact nz3 hw155_0 GW162.out) _).trans (((cell_far (p := ⟨gb162, _, none⟩) (by first | exact nz1 hw155_0 GW162.out | exact nz2 hw155_0 GW162.out | exact nz3 hw155_0 GW162.out) _).trans (((cell_far (p := ⟨gb162, _, none⟩) (by first | exact nz1 hw155_0 GW162.out | exact nz2 hw155_0 GW162.out | exact nz3 hw155_0 GW162.out) _).trans (((cell_far (p := ⟨gb162, _, none⟩) (by first | exact nz1 hw155_0 GW162.out | exact nz2 hw155_0 GW162.out | exact nz3 hw155_0 GW162.out) _).trans (((cell_far (p := ⟨gb162, _, none⟩) (by first | exact nz1 hw155_0 GW162.out | exact nz2 hw155_0 GW162.out | exact nz3 hw155_0 GW162.out) _).trans (hHeld.2.2.2.2.1)))))))))))), ((cell_far (p := ⟨gb162, _, none⟩) (by first | exact nz1 hw160_0 GW162.out | exact nz2 hw160_0 GW162.out | exact nz3 hw160_0 GW162.out) _).trans (((cell_far (p := ⟨gb162, _, none⟩) (by first | exact nz1 hw160_0 GW162.out | exact nz2 hw160_0 GW162.out | exact nz3 hw160_0 GW162.out) _).trans (((cell_far (p := ⟨gb162, _, none⟩) (by first | exact nz1 hw160_0 GW162.out | exact nz2 hw160_0 GW162.out | exact nz3 hw160_0 GW162.out) _).trans (((cell_far (p := ⟨gb162, _, none⟩) (by first | exact nz1 hw160_0 GW162.out | exact nz2 hw160_0 GW162.out | exact nz3 hw160_0 GW162.out) _).trans (((cell_far (p := ⟨gb162, _, none⟩) (by first | exact nz1 hw160_0 GW162.out | exact nz2 hw160_0 GW162.out | exact nz3 hw160_0 GW162.out) _).trans (((cell_far (p := ⟨gb162, _, none⟩) (by first | exact nz1 hw160_0 GW162.out | exact nz2 hw160_0 GW162.out | exact nz3 hw160_0 GW162.out) _).trans (hHeld.2.2.2.2.2.1)))))))))))), ((cell_far (p := ⟨gb162, _, none⟩) (by first | exact nz1 hw161_0 GW162.out | exact nz2 hw161_0 GW162.out | exact nz3 hw161_0 GW162.out) _).trans (((cell_far (p := ⟨gb162, _, none⟩) (by first | exact nz1 hw161_0 GW162.out | exact nz2 hw161_0 GW162.out | exact nz3 hw161_0 GW162.out) _).trans (((cell_far (p := ⟨gb162, _, none⟩) (by first | exact nz1 hw161_0 GW162.out | exact nz2 hw161_0 GW162.out | exact nz3 hw161_0 GW162.out) _).trans (((cell_far (p := ⟨gb162, _, none⟩) (by first | exact nz1 hw161_0 GW162.out | exact nz2 hw161_0 GW162.out | exact nz3 hw161_0 GW162.out) _).trans (((cell_far (p := ⟨gb162, _, none⟩) (by first | exact nz1 hw161_0 GW162.out | exact nz2 hw161_0 GW162.out | exact nz3 hw161_0 GW162.out) _).trans (((cell_far (p := ⟨gb162, _, none⟩) (by first | exact nz1 hw161_0 GW162.out | exact nz2 hw161_0 GW162.out | exact nz3 hw161_0 GW162.out) _).trans (hHeld.2.2.2.2.2.2))))))))))))⟩ (fun hHeld => ?_)
                  clear hK K
                  refine done_ (done_of HT_.out (by kernel_rfl)) ?_
                  have p163 : 0 ≤ (13 : Int) := (by omega)
                  have q163 : 13 < (l0.length : Int) := of_decide_eq_true (by first | (with_reducible assumption) | assumption)
                  obtain ⟨ad163, e163, hx163_0⟩ := Kd.at_int HR0.out 13 p163 q163
                  obtain rfl : ad149 = ad163 := (by injection e163)
                  (try simp only [show (13 : Int).toNat = 13 from rfl, Nat.reduceMul, Nat.reduceEqDiff, Go.Addr.add, ↓reduceIte] at hx163_0)
                  have qi163 : (13 < l0.length) = True := eq_true (by omega)
                  (try rw [show ((13 : Int)).toNat = 13 from rfl] at hx163_0)
                  have hn163_0 : ad149.block ≠ gb162 := Nat.ne_of_lt (Nat.lt_of_lt_of_le (by have := World.block_lt_of_cell? _ _ hx163_0; first | rwa [add_block] at this | exact this) GW162.out)
                  have hn163_1 : ad149.block ≠ gb162 := Nat.ne_of_lt (Nat.lt_of_lt_of_le (by have := World.block_lt_of_cell? _ _ hx163_0; first | rwa [add_block] at this | exact this) GW162.out)
                  have hn163_2 : ad149.block ≠ gb162 := Nat.ne_of_lt (Nat.lt_of_lt_of_le (by have := World.block_lt_of_cell? _ _ hx163_0; first | rwa [add_block] at this | exact this) GW162.out)
                  have hn163_3 : ad149.block ≠ gb162 := Nat.ne_of_lt (Nat.lt_of_lt_of_le (by have := World.block_lt_of_cell? _ _ hx163_0; first | rwa [add_block] at this | exact this) GW162.out)
                  have hn163_4 : ad149.block ≠ gb162 := Nat.ne_of_lt (Nat.lt_of_lt_of_le (by have := World.block_lt_of_cell? _ _ hx163_0; first | rwa [add_block] at this | exact this) GW162.out)
                  have hn163_5 : ad149.block ≠ gb162 := Nat.ne_of_lt (Nat.lt_of_lt_of_le (by have := World.block_lt_of_cell? _ _ hx163_0; first | rwa [add_block] at this | exact this) GW162.out)
                  replace hx163_0 := (HB.out.cell (World.block_lt_of_cell? w _ hx163_0)).trans hx163_0
                  replace hx163_0 := (cell_far (p := ⟨gb162, 0, none⟩) (by first | (rw [add_block]; exact hn163_0) | (show (Addr.add _ _).block ≠ _; rw [add_block]; exact hn163_0) | exact hn163_0) (.int .i64 (wrap64 (rd l0 0)))).trans hx163_0
                  replace hx163_0 := (cell_far (p := ⟨gb162, 1, none⟩) (by first | (rw [add_block]; exact hn163_1) | (show (Addr.add _ _).block ≠ _; rw [add_block]; exact hn163_1) | exact hn163_1) (.int .i64 (Go.bits .or .i64 (Go.bits .or .i64 (Go.bits .or .i64 (wrap64 ((wrap64 (rd l0 1)) * 16777216)) (wrap64 ((wrap64 (rd l0 2)) * 65536))) (wrap64 ((wrap64 (rd l0 3)) * 256))) (wrap64 (rd l0 4))))).trans hx163_0
                  replace hx163_0 := (cell_far (p := ⟨gb162, 2, none⟩) (by first | (rw [add_block]; exact hn163_2) | (show (Addr.add _ _).block ≠ _; rw [add_block]; exact hn163_2) | exact hn163_2) (.int .i64 t157)).trans hx163_0
                  replace hx163_0 := (cell_far (p := ⟨gb162, 3, none⟩) (by first | (rw [add_block]; exact hn163_3) | (show (Addr.add _ _).block ≠ _; rw [add_block]; exact hn163_3) | exact hn163_3) (.int .i64 t159)).trans hx163_0
                  replace hx163_0 := (cell_far (p := ⟨gb162, 4, none⟩) (by first | (rw [add_block]; exact hn163_4) | (show (Addr.add _ _).block ≠ _; rw [add_block]; exact hn163_4) | exact hn163_4) (.int .i64 (wrap64 (rd l0 11)))).trans hx163_0
                  replace hx163_0 := (cell_far (p := ⟨gb162, 5, none⟩) (by first | (rw [add_block]; exact hn163_5) | (show (Addr.add _ _).block ≠ _; rw [add_block]; exact hn163_5) | exact hn163_5) (.int .i64 (wrap64 (rd l0 12)))).trans hx163_0
                  clear hn163_0 hn163_1 hn163_2 hn163_3 hn163_4 hn163_5
                  replace p163 := eq_true p163
                  replace q163 := eq_true q163
                  have hnb56 := NB162_146.out
                  have hnc56 := NB146_162.out
                  have hcz57_0 : w49.cell? ⟨gb162, 0, none⟩ = some (.int .i64 0) := (blk_cell BK162.out 0).trans rfl
                  have hcz57_1 : w49.cell? ⟨gb162, 1, none⟩ = some (.int .i64 0) := (blk_cell BK162.out 1).trans rfl
                  have hcz57_2 : w49.cell? ⟨gb162, 2, none⟩ = some (.int .i64 0) := (blk_cell BK162.out 2).trans rfl
                  have hcz57_3 : w49.cell? ⟨gb162, 3, none⟩ = some (.int .i64 0) := (blk_cell BK162.out 3).trans rfl
                  have hcz57_4 : w49.cell? ⟨gb162, 4, none⟩ = some (.int .i64 0) := (blk_cell BK162.out 4).trans rfl
                  have hcz57_5 : w49.cell? ⟨gb162, 5, none⟩ = some (.int .i64 0) := (blk_cell BK162.out 5).trans rfl
                  have hfz57_0 := blk_frozen BK162.out 0
                  have hfz57_1 := blk_frozen BK162.out 1
                  have hfz57_2 := blk_frozen BK162.out 2
                  have hfz57_3 := blk_frozen BK162.out 3
                  have hfz57_4 := blk_frozen BK162.out 4
                  have hfz57_5 := blk_frozen BK162.out 5
                  try go_wp2_with (first | (go_at_call 20; (with_reducible refine (impl_ReportOk.calls (wrap64 (rd l0 0)) (Go.bits .or .i64 (Go.bits .or .i64 (Go.bits .or .i64 (wrap64 ((wrap64 (rd l0 1)) * 16777216)) (wrap64 ((wrap64 (rd l0 2)) * 65536))) (wrap64 ((wrap64 (rd l0 3)) * 256))) (wrap64 (rd l0 4))) t157 t159 (wrap64 (rd l0 11)) (wrap64 (rd l0 12)) false _ A21.out).mono ?_); rintro e w58 ⟨rfl, hb⟩; have n0_ := Aside0.mk (blk_below (g := gb146) (o := .cells #[.int .i64 0, .int .i64 0, .int .i64 0, .int .i64 0, .int .i64 0, .int .i64 0] 31 (0, 0)) (by (with_reducible repeat (first | refine blk_drewN ?_ _ | refine blk_drew ?_ | refine blk_alloc ?_ _)); refine blk_far ?_ NB146_162.out _; (with_reducible repeat (first | refine blk_drewN ?_ _ | refine blk_drew ?_ | refine blk_alloc ?_ _)); refine blk_far ?_ NB146_162.out _; (with_reducible repeat (first | refine blk_drewN ?_ _ | refine blk_drew ?_ | refine blk_alloc ?_ _)); refine blk_far ?_ NB146_162.out _; (with_reducible repeat (first | refine blk_drewN ?_ _ | refine blk_drew ?_ | refine blk_alloc ?_ _)); refine blk_far ?_ NB146_162.out _; (with_reducible repeat (first | refine blk_drewN ?_ _ | refine blk_drew ?_ | refine blk_alloc ?_ _)); refine blk_far ?_ NB146_162.out _; (with_reducible repeat (first | refine blk_drewN ?_ _ | refine blk_drew ?_ | refine blk_alloc ?_ _)); refine blk_far ?_ NB146_162.out _; (with_reducible repeat (first | refine blk_drewN ?_ _ | refine blk_drew ?_ | refine blk_alloc ?_ _)); exact BK146.out) hb); have n1_ := Aside0.mk (blk_below (g := gb162) (o := .cells #[.int .i64 (wrap64 (rd l0 0)), .int .i64 (Go.bits .or .i64 (Go.bits .or .i64 (Go.bits .or .i64 (wrap64 ((wrap64 (rd l0 1)) * 16777216)) (wrap64 ((wrap64 (rd l0 2)) * 65536))) (wrap64 ((wrap64 (rd l0 3)) * 256))) (wrap64 (rd l0 4))), .int .i64 t157, .int .i64 t159, .int .i64 (wrap64 (rd l0 11)), .int .i64 (wrap64 (rd l0 12))] 31 (0, 0)) (by (with_reducible repeat (first | refine blk_drewN ?_ _ | refine blk_drew ?_ | refine blk_alloc ?_ _)); refine blk_put (cs := #[.int .i64 (wrap64 (rd l0 0)), .int .i64 (Go.bits .or .i64 (Go.bits .or .i64 (Go.bits .or .i64 (wrap64 ((wrap64 (rd l0 1)) * 16777216)) (wrap64 ((wrap64 (rd l0 2)) * 65536))) (wrap64 ((wrap64 (rd l0 3)) * 256))) (wrap64 (rd l0 4))), .int .i64 t157, .int .i64 t159, .int .i64 (wrap64 (rd l0 11)), .int .i64 0]) ?_ 5 _ rfl; (with_reducible repeat (first | refine blk_drewN ?_ _ | refine blk_drew ?_ | refine blk_alloc ?_ _)); refine blk_put (cs := #[.int .i64 (wrap64 (rd l0 0)), .int .i64 (Go.bits .or .i64 (Go.bits .or .i64 (Go.bits .or .i64 (wrap64 ((wrap64 (rd l0 1)) * 16777216)) (wrap64 ((wrap64 (rd l0 2)) * 65536))) (wrap64 ((wrap64 (rd l0 3)) * 256))) (wrap64 (rd l0 4))), .int .i64 t157, .int .i64 t159, .int .i64 0, .int .i64 0]) ?_ 4 _ rfl; (with_reducible repeat (first | refine blk_drewN ?_ _ | refine blk_drew ?_ | refine blk_alloc ?_ _)); refine blk_put (cs := #[.int .i64 (wrap64 (rd l0 0)), .int .i64 (Go.bits .or .i64 (Go.bits .or .i64 (Go.bits .or .i64 (wrap64 ((wrap64 (rd l0 1)) * 16777216)) (wrap64 ((wrap64 (rd l0 2)) * 65536))) (wrap64 ((wrap64 (rd l0 3)) * 256))) (wrap64 (rd l0 4))), .int .i64 t157, .int .i64 0, .int .i64 0, .int .i64 0]) ?_ 3 _ rfl; (with_reducible repeat (first | refine blk_drewN ?_ _ | refine blk_drew ?_ | refine blk_alloc ?_ _)); refine blk_put (cs := #[.int .i64 (wrap64 (rd l0 0)), .int .i64 (Go.bits .or .i64 (Go.bits .or .i64 (Go.bits .or .i64 (wrap64 ((wrap64 (rd l0 1)) * 16777216)) (wrap64 ((wrap64 (rd l0 2)) * 65536))) (wrap64 ((wrap64 (rd l0 3)) * 256))) (wrap64 (rd l0 4))), .int .i64 0, .int .i64 0, .int .i64 0, .int .i64 0]) ?_ 2 _ rfl; (with_reducible repeat (first | refine blk_drewN ?_ _ | refine blk_drew ?_ | refine blk_alloc ?_ _)); refine blk_put (cs := #[.int .i64 (wrap64 (rd l0 0)), .int .i64 0, .int .i64 0, .int .i64 0, .int .i64 0, .int .i64 0]) ?_ 1 _ rfl; (with_reducible repeat (first | refine blk_drewN ?_ _ | refine blk_drew ?_ | refine blk_alloc ?_ _)); refine blk_put (cs := #[.int .i64 0, .int .i64 0, .int .i64 0, .int .i64 0, .int .i64 0, .int .i64 0]) ?_ 0 _ rfl; (with_reducible repeat (first | refine blk_drewN ?_ _ | refine blk_drew ?_ | refine blk_alloc ?_ _)); exact BK162.out) hb); have n2_ := Aside0.mk (below_step (by repeat (first | (with_reducible first | exact HB.out | apply below_alloc | apply pw_below_drewN | apply below_drew1 | refine below_set ?_ GE146.out | refine below_set ?_ GE162.out) | exact HB.out)) hb); clear BK146; clear BK162; clear HB; have BK146 := n0_; have BK162 := n1_; have HB := n2_; clear n0_ n1_ n2_; (try clear hb); (try clear hb2); (try clear hk); (try clear hi); have hcz59_0 : w58.cell? ⟨gb146, 0, none⟩ = some (.int .i64 0) := (blk_cell BK146.out 0).trans rfl; have hcz59_1 : w58.cell? ⟨gb146, 1, none⟩ = some (.int .i64 0) := (blk_cell BK146.out 1).trans rfl; have hcz59_2 : w58.cell? ⟨gb146, 2, none⟩ = some (.int .i64 0) := (blk_cell BK146.out 2).trans rfl; have hcz59_3 : w58.cell? ⟨gb146, 3, none⟩ = some (.int .i64 0) := (blk_cell BK146.out 3).trans rfl; have hcz59_4 : w58.cell? ⟨gb146, 4, none⟩ = some (.int .i64 0) := (blk_cell BK146.out 4).trans rfl; have hcz59_5 : w58.cell? ⟨gb146, 5, none⟩ = some (.int .i64 0) := (blk_cell BK146.out 5).trans rfl; have hfz59_0 := blk_frozen BK146.out 0; have hfz59_1 := blk_frozen BK146.out 1; have hfz59_2 := blk_frozen BK146.out 2; have hfz59_3 := blk_frozen BK146.out 3; have hfz59_4 := blk_frozen BK146.out 4; have hfz59_5 := blk_frozen BK146.out 5))
                  refine bodyPost_ret (results_ct rfl _ _ gb146 31 #[.int .i64 0, .int .i64 0, .int .i64 0, .int .i64 0, .int .i64 0, .int .i64 0] (0, 0) _ rfl (by (with_reducible repeat (first | refine blk_drewN ?_ _ | refine blk_drew ?_ | refine blk_alloc ?_ _)); refine blk_put (cs := #[.int .i64 0, .int .i64 0, .int .i64 0, .int .i64 0, .int .i64 0, .int .i64 0]) ?_ 5 _ rfl; (with_reducible repeat (first | refine blk_drewN ?_ _ | refine blk_drew ?_ | refine blk_alloc ?_ _)); refine blk_put (cs := #[.int .i64 0, .int .i64 0, .int .i64 0, .int .i64 0, .int .i64 0, .int .i64 0]) ?_ 4 _ rfl; (with_reducible repeat (first | refine blk_drewN ?_ _ | refine blk_drew ?_ | refine blk_alloc ?_ _)); refine blk_put (cs := #[.int .i64 0, .int .i64 0, .int .i64 0, .int .i64 0, .int .i64 0, .int .i64 0]) ?_ 3 _ rfl; (with_reducible repeat (first | refine blk_drewN ?_ _ | refine blk_drew ?_ | refine blk_alloc ?_ _)); refine blk_put (cs := #[.int .i64 0, .int .i64 0, .int .i64 0, .int .i64 0, .int .i64 0, .int .i64 0]) ?_ 2 _ rfl; (with_reducible repeat (first | refine blk_drewN ?_ _ | refine blk_drew ?_ | refine blk_alloc ?_ _)); refine blk_put (cs := #[.int .i64 0, .int .i64 0, .int .i64 0, .int .i64 0, .int .i64 0, .int .i64 0]) ?_ 1 _ rfl; (with_reducible repeat (first | refine blk_drewN ?_ _ | refine blk_drew ?_ | refine blk_alloc ?_ _)); refine blk_put (cs := #[.int .i64 0, .int .i64 0, .int .i64 0, .int .i64 0, .int .i64 0, .int .i64 0]) ?_ 0 _ rfl; (with_reducible repeat (first | refine blk_drewN ?_ _ | refine blk_drew ?_ | refine blk_alloc ?_ _)); exact BK146.out) Try.underlying31 rfl (by kernel_rfl)) rfl ?_
                  exact ⟨by first | rfl | (simp [errW_none, errW_some] <;> rfl) | (simp [*, errW_none, errW_some] <;> rfl), by repeat (first | (with_reducible first | exact HB.out | apply below_alloc | apply pw_below_drewN | apply below_drew1 | refine below_set ?_ GE146.out | refine below_set ?_ GE162.out) | exact HB.out)⟩
                ·rw [if_neg c20] at H
                 have c20b0 : ((rd l0 13) == 0) = false := beq_eq_false_iff_ne.mpr c20
                 have c20b1 : ((rd l0 13) != 0) = true := bne_iff_ne.mpr c20
                 simp only [Option.some.injEq, Prod.mk.injEq] at H
                 obtain ⟨rfl, rfl, rfl, rfl, rfl, rfl, rfl⟩ := H
                 go_enter Try.func42, Try.ntmps42
                 try go_wp2_with (first | ((with_reducible refine gate_dst (N := 2) rfl ?_); refine box_event ?hg (N := 2) ?hd (cs := #[.int .i64 0, .int .i64 0, .int .i64 0, .int .i64 0, .int .i64 0, .int .i64 0]) (t := 31) ?hr ?_; (case hd => rfl); (case hg => rfl); (case hr => first | (go_simp; done) | (go_simp; rfl)); intro gb146 hg w60 hbox hb; have n0_ := Aside0.mk (below_step (by repeat (first | (with_reducible first | exact HB.out | apply below_alloc | apply pw_below_drewN | apply below_drew1) | exact HB.out)) hb); have n1_ := Aside0.mk (hbox); have n2_ := Aside0.mk ((by rw [hg]; exact (below_size (by repeat (first | (with_reducible first | exact HB.out | apply below_alloc | apply pw_below_drewN | apply below_drew1) | exact HB.out))) : w.heap.size ≤ gb146)); have n3_ := Aside0.mk ((by rw [hg]; exact (below_size (by repeat (first | (with_reducible first | exact HB.out | apply below_alloc | apply pw_below_drewN | apply below_drew1) | exact HB.out))) : w.heap.size ≤ gb146)); clear HB; have HB := n0_; have BK146 := n1_; have GW146 := n2_; have GE146 := n3_; clear n0_ n1_ n2_ n3_; clear hb hbox hg))
                 have n0_ := Aside0.mk (blk_drew BK146.out)
                 have n1_ := Aside0.mk (below_drew1 HB.out)
                 clear BK146 HB
                 have BK146 := n0_
                 have HB := n1_
                 clear n0_ n1_
                 obtain ⟨i062, hi062, _, hsz62, _⟩ := info_parts info5
                 obtain ⟨hcut62, hA62, hC62⟩ := print_take_of (P := Try.prog) (Value.int .u8) 0 34 5 .i64 Try.underlying34 hi062 hsz62 A0 c0 l0 14 (by omega) (of_decide_eq_true (by first | (with_reducible assumption) | assumption)) HC0.out
                 have HR147 := Aside0.mk (Kd.C_of_reads (h1 := fun _ => rfl) (hA62 _ (Kd.reads_of_C HR0.out)))
                 have HC147 := Aside0.mk hC62
                 clear hA62 hC62 hi062 hsz62
                 have p149 : 0 ≤ (14 : Int) := (by omega)
                 have q149 : 14 < (l0.length : Int) := of_decide_eq_true (by first | (with_reducible assumption) | assumption)
                 obtain ⟨ad149, e149, hx149_0⟩ := Kd.at_int HR0.out 14 p149 q149
                 have hw149_0 := hx149_0
                 (try rw [show ((14 : Int)).toNat = 14 from rfl] at hw149_0)
                 (try rw [show 14 * 1 = 14 from rfl] at hw149_0)
                 (try simp only [Nat.reduceMul, Nat.reduceEqDiff, Go.Addr.add, ↓reduceIte] at hw149_0)
                 cases e149
                 (try simp only [show (14 : Int).toNat = 14 from rfl, Nat.reduceMul, Nat.reduceEqDiff, Go.Addr.add, ↓reduceIte] at hx149_0)
                 have qi149 : (14 < l0.length) = True := eq_true (by omega)
                 (try rw [show ((14 : Int)).toNat = 14 from rfl] at hx149_0)
                 replace hx149_0 := (HB.out.cell (World.block_lt_of_cell? w _ hx149_0)).trans hx149_0
                 replace p149 := eq_true p149
                 replace q149 := eq_true q149
                 have p150 : 0 ≤ (15 : Int) := (by omega)
                 have q150 : 15 < (l0.length : Int) := of_decide_eq_true (by first | (with_reducible assumption) | assumption)
                 obtain ⟨ad150, e150, hx150_0⟩ := Kd.at_int HR0.out 15 p150 q150
                 have hw150_0 := hx150_0
                 (try rw [show ((15 : Int)).toNat = 15 from rfl] at hw150_0)
                 (try rw [show 15 * 1 = 15 from rfl] at hw150_0)
                 (try simp only [Nat.reduceMul, Nat.reduceEqDiff, Go.Addr.add, ↓reduceIte] at hw150_0)
                 obtain rfl : ad149 = ad150 := (by injection e150)
                 (try simp only [show (15 : Int).toNat = 15 from rfl, Nat.reduceMul, Nat.reduceEqDiff, Go.Addr.add, ↓reduceIte] at hx150_0)
                 have qi150 : (15 < l0.length) = True := eq_true (by omega)
                 (try rw [show ((15 : Int)).toNat = 15 from rfl] at hx150_0)
                 replace hx150_0 := (HB.out.cell (World.block_lt_of_cell? w _ hx150_0)).trans hx150_0
                 replace p150 := eq_true p150
                 replace q150 := eq_true q150
                 refine start_ (n := 14) (S := fun w' => w'.cell? ⟨ad149.block, ad149.off + 14, none⟩ = some (.int .u8 (rd l0 14)) ∧ w'.cell? ⟨ad149.block, ad149.off + 15, none⟩ = some (.int .u8 (rd l0 15))) (ds := []) #[false, false, false, false, false, false, false, false, false, false, false, false, false, false] (by kernel_rfl) rfl rfl ⟨((HB.out.cell (World.block_lt_of_cell? w _ hw149_0)).trans hw149_0), ((HB.out.cell (World.block_lt_of_cell? w _ hw150_0)).trans hw150_0)⟩ (fun hHeld => ?_); refine with_tabW impl_ReadReport.tab4 impl_ReadReport.bits4 (fun HT_ HW_ => ?_)
                 generalize w60.drew = w61 at BK146 HB HR147 hx149_0 hx150_0 hHeld ⊢
                 refine pure_ (i := 0) (N := some 11) (v := ?_) (a' := ?_) (bz 14 1) rfl rfl (any_of HT_.out (by kernel_rfl)) (fun _ _ _ h => h) (Or.inl ⟨by rfl, ?_⟩) ?_ ?_
                 rotate_left
                 ·intro w'
                  go_simp
                  with_reducible rfl
                 rotate_left
                 ·simp only [Act.put, y1, y2, y3, i64_w, i32_w]
                  rfl
                 refine pure_ (i := 1) (N := some 12) (v := ?_) (a' := ?_) (bz 14 3) rfl rfl (any_of HT_.out (by kernel_rfl)) (fun _ _ _ h => h) (Or.inl ⟨by rfl, ?_⟩) ?_ ?_
                 rotate_left
                 ·intro w'
                  go_simp
                  with_reducible rfl
                 rotate_left
                 ·simp only [Act.put, y1, y2, y3, i64_w, i32_w]
                  rfl
                 refine pure_ (i := 3) (N := some 14) (v := ?_) (a' := ?_) (bz 14 11) rfl rfl (any_of HT_.out (by kernel_rfl)) (fun _ _ _ h => h) (Or.inl ⟨by rfl, ?_⟩) ?_ ?_
                 rotate_left
                 ·intro w'
                  go_simp
                  with_reducible rfl
                 rotate_left
                 ·simp only [Act.put, y1, y2, y3, i64_w, i32_w]
                  rfl
                 refine pure_ (i := 4) (N := some 15) (v := ?_) (a' := ?_) (bz 14 27) rfl rfl (any_of HT_.out (by kernel_rfl)) (fun _ _ _ h => h) (Or.inl ⟨by rfl, ?_⟩) ?_ ?_
                 rotate_left
                 ·intro w'
                  go_simp
                  with_reducible rfl
                 rotate_left
                 ·simp only [Act.put, y1, y2, y3, i64_w, i32_w]
                  rfl
                 refine pure_ (i := 8) (N := some 19) (v := ?_) (a' := ?_) (bz 14 283) rfl rfl (any_of HT_.out (by kernel_rfl)) (fun _ _ _ h => h) (Or.inl ⟨by rfl, ?_⟩) ?_ ?_
                 rotate_left
                 ·intro w'
                  go_simp
                  with_reducible rfl
                 rotate_left
                 ·simp only [Act.put, y1, y2, y3, i64_w, i32_w]
                  rfl
                 refine pure_ (i := 9) (N := some 20) (v := ?_) (a' := ?_) (bz 14 795) rfl rfl (any_of HT_.out (by kernel_rfl)) (fun _ _ _ h => h) (Or.inl ⟨by rfl, ?_⟩) ?_ ?_
                 rotate_left
                 ·intro w'
                  go_simp
                  with_reducible rfl
                 rotate_left
                 ·simp only [Act.put, y1, y2, y3, i64_w, i32_w]
                  rfl
                 refine take_ (i := 5) (N := some 16) (v := ?_) (a' := ?_) (bz 14 827) rfl rfl (take_ofW HT_.out HW_.out (by kernel_rfl)) (fun _ _ _ h => h) (Or.inl ⟨by rfl, ?_⟩) hHeld ?_ ?_
                 rotate_left
                 ·rintro w' ⟨s0, s1⟩
                  go_simp
                  with_reducible rfl
                 rotate_left
                 ·simp only [Act.put, y1, y2, y3, i64_w, i32_w]
                  rfl
                 refine pure_ (i := 6) (N := some 17) (v := ?_) (a' := ?_) (bz 14 891) rfl rfl (any_of HT_.out (by kernel_rfl)) (fun _ _ _ h => h) (Or.inl ⟨by rfl, ?_⟩) ?_ ?_
                 rotate_left
                 ·intro w'
                  go_simp
                  with_reducible rfl
                 rotate_left
                 ·simp only [Act.put, y1, y2, y3, i64_w, i32_w]
                  rfl
                 refine pure_ (i := 7) (N := some 18) (v := ?_) (a' := ?_) (bz 14 1019) rfl rfl (any_of HT_.out (by kernel_rfl)) (fun _ _ _ h => h) (Or.inl ⟨by rfl, ?_⟩) ?_ ?_
                 rotate_left
                 ·intro w'
                  go_simp
                  with_reducible rfl
                 rotate_left
                 ·simp only [Act.put, y1, y2, y3, i64_w, i32_w]
                  rfl
                 refine take_ (i := 10) (N := some 21) (v := ?_) (a' := ?_) (bz 14 2043) rfl rfl (take_ofW HT_.out HW_.out (by kernel_rfl)) (fun _ _ _ h => h) (Or.inl ⟨by rfl, ?_⟩) hHeld ?_ ?_
                 rotate_left
                 ·rintro w' ⟨s0, s1⟩
                  go_simp
                  with_reducible rfl
                 rotate_left
                 ·simp only [Act.put, y1, y2, y3, i64_w, i32_w]
                  rfl
                 refine pure_ (i := 11) (N := some 22) (v := ?_) (a' := ?_) (bz 14 4091) rfl rfl (any_of HT_.out (by kernel_rfl)) (fun _ _ _ h => h) (Or.inl ⟨by rfl, ?_⟩) ?_ ?_
                 rotate_left
                 ·intro w'
                  go_simp
                  with_reducible rfl
                 rotate_left
                 ·simp only [Act.put, y1, y2, y3, i64_w, i32_w]
                  rfl
                 refine pure_ (i := 12) (N := some 23) (v := ?_) (a' := ?_) (bz 14 8187) rfl rfl (any_of HT_.out (by kernel_rfl)) (fun _ _ _ h => h) (Or.inl ⟨by rfl, ?_⟩) ?_ ?_
                 rotate_left
                 ·intro w'
                  go_simp
                  with_reducible rfl
                 rotate_left
                 ·simp only [Act.put, y1, y2, y3, i64_w, i32_w]
                  rfl
                 refine one_ (i := 2) (N := some 13) (bz 14 8191) rfl rfl (one_of HT_.out (by kernel_rfl)) (by decide) (fun K hK => ?_)
                 refine goes_ Try.func85 (by kernel_rfl) rfl #[.slice (some ad149) (l0.take 14).length c0] (by rfl) rfl rfl (by (try simp only [List.map_toArray, List.map_cons, List.map_nil]); first | done | (rw [show (l0.take 14).length = 14 from (by rw [List.length_take]; have h_ : (14 : Int) ≤ (l0.length : Int) := of_decide_eq_true (by first | (with_reducible assumption) | assumption); omega)] <;> rfl) | rfl | (simp only [List.length_drop, List.length_take]; rfl)) ?_
                 with_reducible refine (impl_frameCheck.calls k _ _ (l0.take 14) t148 _ ?side1 ?side2 A4.out).mono ?_
                 (case side1 => repeat (first | exact (Kd.C_below HR147.out HB.out) | (with_reducible refine Kd.C_alloc ?_ _) | (with_reducible refine Kd.C_drewN ?_ _) | (with_reducible refine Kd.C_drew ?_)))
                 (case side2 => exact HC147.out)
                 rintro e w' ⟨rfl, ⟨nd, rfl⟩⟩
                 refine ⟨_, rfl, ?_⟩
                 refine hK.out _ _ ⟨((HB.out.cell (World.block_lt_of_cell? w _ hw149_0)).trans hw149_0), ((HB.out.cell (World.block_lt_of_cell? w _ hw150_0)).trans hw150_0)⟩ (fun hHeld => ?_)
                 clear hK K
                 refine norm_ (a' := ?_) ?_ ?_
                 rotate_left
                 ·show Act.put _ (some 13) _ = _
                  simp only [Act.put, y1, y2, y3, i64_w, i32_w]
                  rfl
                 refine pure_ (i := 13) (N := some 24) (v := ?_) (a' := ?_) (bz 14 16383) rfl rfl (any_of HT_.out (by kernel_rfl)) (fun _ _ _ h => h) (Or.inl ⟨by rfl, ?_⟩) ?_ ?_
                 rotate_left
                 ·intro w'
                  go_simp
                  with_reducible rfl
                 rotate_left
                 ·simp only [Act.put, y1, y2, y3, i64_w, i32_w]
                  rfl
                 refine done_ (done_of HT_.out (by kernel_rfl)) ?_
                 try go_wp2
                 (try (rw [drewN_self w61]; generalize hq_ : World.drewN w61 _ = w61; have n0_ : Aside0 (w61.heap[gb146]? = some (.cells #[.int .i64 0, .int .i64 0, .int .i64 0, .int .i64 0, .int .i64 0, .int .i64 0] 31 (0, 0))) := ⟨by rw [← hq_]; exact (by (with_reducible repeat (first | refine z1 ?_ _ | refine z2 ?_ | refine z3 ?_ _)); exact BK146.out)⟩; have n1_ : Aside0 (Below w.heap.size w w61) := ⟨by rw [← hq_]; exact (by repeat (first | (with_reducible first | exact HB.out | apply below_alloc | apply pw_below_drewN | apply below_drew1 | refine below_set ?_ GE146.out) | exact HB.out))⟩; clear BK146 HB hq_; have BK146 := n0_; have HB := n1_; clear n0_ n1_))
                 have n0_ := Aside0.mk (blk_drew BK146.out)
                 have n1_ := Aside0.mk (below_drew1 HB.out)
                 clear BK146 HB
                 have BK146 := n0_
                 have HB := n1_
                 clear n0_ n1_
                 have p151 : 0 ≤ (0 : Int) := (by omega)
                 have q151 : 0 < (l0.length : Int) := of_decide_eq_true (by first | (with_reducible assumption) | assumption)
                 obtain ⟨ad151, e151, hx151_0⟩ := Kd.at_int HR0.out 0 p151 q151
                 have hw151_0 := hx151_0
                 (try rw [show ((0 : Int)).toNat = 0 from rfl] at hw151_0)
                 (try rw [show 0 * 1 = 0 from rfl] at hw151_0)
                 (try rw [Addr.add_zero'] at hw151_0)
                 obtain rfl : ad149 = ad151 := (by injection e151)
                 have qi151 : (0 < l0.length) = True := eq_true (by omega)
                 (try rw [show ((0 : Int)).toNat = 0 from rfl] at hx151_0)
                 (try rw [Addr.add_zero'] at hx151_0)
                 replace hx151_0 := (HB.out.cell (World.block_lt_of_cell? w _ hx151_0)).trans hx151_0
                 replace p151 := eq_true p151
                 replace q151 := eq_true q151
                 have p152 : 0 ≤ (1 : Int) := (by omega)
                 have q152 : 1 < (l0.length : Int) := of_decide_eq_true (by first | (with_reducible assumption) | assumption)
                 obtain ⟨ad152, e152, hx152_0⟩ := Kd.at_int HR0.out 1 p152 q152
                 have hw152_0 := hx152_0
                 (try rw [show ((1 : Int)).toNat = 1 from rfl] at hw152_0)
                 (try rw [show 1 * 1 = 1 from rfl] at hw152_0)
                 (try simp only [Nat.reduceMul, Nat.reduceEqDiff, Go.Addr.add, ↓reduceIte] at hw152_0)
                 obtain rfl : ad149 = ad152 := (by injection e152)
                 (try simp only [show (1 : Int).toNat = 1 from rfl, Nat.reduceMul, Nat.reduceEqDiff, Go.Addr.add, ↓reduceIte] at hx152_0)
                 have qi152 : (1 < l0.length) = True := eq_true (by omega)
                 (try rw [show ((1 : Int)).toNat = 1 from rfl] at hx152_0)
                 replace hx152_0 := (HB.out.cell (World.block_lt_of_cell? w _ hx152_0)).trans hx152_0
                 replace p152 := eq_true p152
                 replace q152 := eq_true q152
                 have p153 : 0 ≤ (2 : Int) := (by omega)
                 have q153 : 2 < (l0.length : Int) := of_decide_eq_true (by first | (with_reducible assumption) | assumption)
                 obtain ⟨ad153, e153, hx153_0⟩ := Kd.at_int HR0.out 2 p153 q153
                 have hw153_0 := hx153_0
                 (try rw [show ((2 : Int)).toNat = 2 from rfl] at hw153_0)
                 (try rw [show 2 * 1 = 2 from rfl] at hw153_0)
                 (try simp only [Nat.reduceMul, Nat.reduceEqDiff, Go.Addr.add, ↓reduceIte] at hw153_0)
                 obtain rfl : ad149 = ad153 := (by injection e153)
                 (try simp only [show (2 : Int).toNat = 2 from rfl, Nat.reduceMul, Nat.reduceEqDiff, Go.Addr.add, ↓reduceIte] at hx153_0)
                 have qi153 : (2 < l0.length) = True := eq_true (by omega)
                 (try rw [show ((2 : Int)).toNat = 2 from rfl] at hx153_0)
                 replace hx153_0 := (HB.out.cell (World.block_lt_of_cell? w _ hx153_0)).trans hx153_0
                 replace p153 := eq_true p153
                 replace q153 := eq_true q153
                 have p154 : 0 ≤ (3 : Int) := (by omega)
                 have q154 : 3 < (l0.length : Int) := of_decide_eq_true (by first | (with_reducible assumption) | assumption)
                 obtain ⟨ad154, e154, hx154_0⟩ := Kd.at_int HR0.out 3 p154 q154
                 have hw154_0 := hx154_0
                 (try rw [show ((3 : Int)).toNat = 3 from rfl] at hw154_0)
                 (try rw [show 3 * 1 = 3 from rfl] at hw154_0)
                 (try simp only [Nat.reduceMul, Nat.reduceEqDiff, Go.Addr.add, ↓reduceIte] at hw154_0)
                 obtain rfl : ad149 = ad154 := (by injection e154)
                 (try simp only [show (3 : Int).toNat = 3 from rfl, Nat.reduceMul, Nat.reduceEqDiff, Go.Addr.add, ↓reduceIte] at hx154_0)
                 have qi154 : (3 < l0.length) = True := eq_true (by omega)
                 (try rw [show ((3 : Int)).toNat = 3 from rfl] at hx154_0)
                 replace hx154_0 := (HB.out.cell (World.block_lt_of_cell? w _ hx154_0)).trans hx154_0
                 replace p154 := eq_true p154
                 replace q154 := eq_true q154
                 have p155 : 0 ≤ (4 : Int) := (by omega)
                 have q155 : 4 < (l0.length : Int) := of_decide_eq_true (by first | (with_reducible assumption) | assumption)
                 obtain ⟨ad155, e155, hx155_0⟩ := Kd.at_int HR0.out 4 p155 q155
                 have hw155_0 := hx155_0
                 (try rw [show ((4 : Int)).toNat = 4 from rfl] at hw155_0)
                 (try rw [show 4 * 1 = 4 from rfl] at hw155_0)
                 (try simp only [Nat.reduceMul, Nat.reduceEqDiff, Go.Addr.add, ↓reduceIte] at hw155_0)
                 obtain rfl : ad149 = ad155 := (by injection e155)
                 (try simp only [show (4 : Int).toNat = 4 from rfl, Nat.reduceMul, Nat.reduceEqDiff, Go.Addr.add, ↓reduceIte] at hx155_0)
                 have qi155 : (4 < l0.length) = True := eq_true (by omega)
                 (try rw [show ((4 : Int)).toNat = 4 from rfl] at hx155_0)
                 replace hx155_0 := (HB.out.cell (World.block_lt_of_cell? w _ hx155_0)).trans hx155_0
                 replace p155 := eq_true p155
                 replace q155 := eq_true q155
                 obtain ⟨i064, hi064, _, hsz64, _⟩ := info_parts info5
                 obtain ⟨A64, hcut64, hA64, hC64⟩ := print_drop_of (P := Try.prog) (Value.int .u8) 0 34 5 .i64 Try.underlying34 hi064 hsz64 (some ad149) c0 l0 5 (by omega) (of_decide_eq_true (by first | (with_reducible assumption) | assumption)) HC0.out
                 have HR156 := Aside0.mk (Kd.C_of_reads (h1 := fun _ => rfl) (hA64 _ (Kd.reads_of_C HR0.out)))
                 have HC156 := Aside0.mk hC64
                 clear hA64 hC64 hi064 hsz64
                 obtain ⟨i065, hi065, _, hsz65, _⟩ := info_parts info5
                 obtain ⟨A65, hcut65, hA65, hC65⟩ := print_drop_of (P := Try.prog) (Value.int .u8) 0 34 5 .i64 Try.underlying34 hi065 hsz65 (some ad149) c0 l0 8 (by omega) (of_decide_eq_true (by first | (with_reducible assumption) | assumption)) HC0.out
                 have HR158 := Aside0.mk (Kd.C_of_reads (h1 := fun _ => rfl) (hA65 _ (Kd.reads_of_C HR0.out)))
                 have HC158 := Aside0.mk hC65
                 clear hA65 hC65 hi065 hsz65
                 have p160 : 0 ≤ (11 : Int) := (by omega)
                 have q160 : 11 < (l0.length : Int) := of_decide_eq_true (by first | (with_reducible assumption) | assumption)
                 obtain ⟨ad160, e160, hx160_0⟩ := Kd.at_int HR0.out 11 p160 q160
                 have hw160_0 := hx160_0
                 (try rw [show ((11 : Int)).toNat = 11 from rfl] at hw160_0)
                 (try rw [show 11 * 1 = 11 from rfl] at hw160_0)
                 (try simp only [Nat.reduceMul, Nat.reduceEqDiff, Go.Addr.add, ↓reduceIte] at hw160_0)
                 obtain rfl : ad149 = ad160 := (by injection e160)
                 (try simp only [show (11 : Int).toNat = 11 from rfl, Nat.reduceMul, Nat.reduceEqDiff, Go.Addr.add, ↓reduceIte] at hx160_0)
                 have qi160 : (11 < l0.length) = True := eq_true (by omega)
                 (try rw [show ((11 : Int)).toNat = 11 from rfl] at hx160_0)
                 replace hx160_0 := (HB.out.cell (World.block_lt_of_cell? w _ hx160_0)).trans hx160_0
                 replace p160 := eq_true p160
                 replace q160 := eq_true q160
                 have p161 : 0 ≤ (12 : Int) := (by omega)
                 have q161 : 12 < (l0.length : Int) := of_decide_eq_true (by first | (with_reducible assumption) | assumption)
                 obtain ⟨ad161, e161, hx161_0⟩ := Kd.at_int HR0.out 12 p161 q161
                 have hw161_0 := hx161_0
                 (try rw [show ((12 : Int)).toNat = 12 from rfl] at hw161_0)
                 (try rw [show 12 * 1 = 12 from rfl] at hw161_0)
                 (try simp only [Nat.reduceMul, Nat.reduceEqDiff, Go.Addr.add, ↓reduceIte] at hw161_0)
                 obtain rfl : ad149 = ad161 := (by injection e161)
                 (try simp only [show (12 : Int).toNat = 12 from rfl, Nat.reduceMul, Nat.reduceEqDiff, Go.Addr.add, ↓reduceIte] at hx161_0)
                 have qi161 : (12 < l0.length) = True := eq_true (by omega)
                 (try rw [show ((12 : Int)).toNat = 12 from rfl] at hx161_0)
                 replace hx161_0 := (HB.out.cell (World.block_lt_of_cell? w _ hx161_0)).trans hx161_0
                 replace p161 := eq_true p161
                 replace q161 := eq_true q161
                 refine start_ (n := 43) (S := fun w' => w'.cell? ad149 = some (.int .u8 (rd l0 0)) ∧ w'.cell? ⟨ad149.block, ad149.off + 1, none⟩ = some (.int .u8 (rd l0 1)) ∧ w'.cell? ⟨ad149.block, ad149.off + 2, none⟩ = some (.int .u8 (rd l0 2)) ∧ w'.cell? ⟨ad149.block, ad149.off + 3, none⟩ = some (.int .u8 (rd l0 3)) ∧ w'.cell? ⟨ad149.block, ad149.off + 4, none⟩ = some (.int .u8 (rd l0 4)) ∧ w'.cell? ⟨ad149.block, ad149.off + 11, none⟩ = some (.int .u8 (rd l0 11)) ∧ w'.cell? ⟨ad149.block, ad149.off + 12, none⟩ = some (.int .u8 (rd l0 12))) (ds := []) #[false, false, false, false, false, false, false, false, false, false, false, false, false, false, false, false, false, false, false, false, false, false, false, false, false, false, false, false, false, false, false, false, false, false, false, false, false, false, false, false, false, false, false] (by kernel_rfl) rfl rfl ⟨((HB.out.cell (World.block_lt_of_cell? w _ hw151_0)).trans hw151_0), ((HB.out.cell (World.block_lt_of_cell? w _ hw152_0)).trans hw152_0), ((HB.out.cell (World.block_lt_of_cell? w _ hw153_0)).trans hw153_0), ((HB.out.cell (World.block_lt_of_cell? w _ hw154_0)).trans hw154_0), ((HB.out.cell (World.block_lt_of_cell? w _ hw155_0)).trans hw155_0), ((HB.out.cell (World.block_lt_of_cell? w _ hw160_0)).trans hw160_0), ((HB.out.cell (World.block_lt_of_cell? w _ hw161_0)).trans hw161_0)⟩ (fun hHeld => ?_); refine with_tabW impl_ReadReport.tab6 impl_ReadReport.bits6 (fun HT_ HW_ => ?_)
                 generalize w61.drew = w63 at BK146 HB HR156 HR158 hx151_0 hx152_0 hx153_0 hx154_0 hx155_0 hx160_0 hx161_0 hHeld ⊢
                 refine pure_ (i := 0) (N := some 26) (v := ?_) (a' := ?_) (bz 43 1) rfl rfl (any_of HT_.out (by kernel_rfl)) (fun _ _ _ h => h) (Or.inl ⟨by rfl, ?_⟩) ?_ ?_
                 rotate_left
                 ·intro w'
                  go_simp
                  with_reducible rfl
                 rotate_left
                 ·simp only [Act.put, y1, y2, y3, i64_w, i32_w]
                  rfl
                 refine pure_ (i := 1) (N := some 27) (v := ?_) (a' := ?_) (bz 43 3) rfl rfl (any_of HT_.out (by kernel_rfl)) (fun _ _ _ h => h) (Or.inl ⟨by rfl, ?_⟩) ?_ ?_
                 rotate_left
                 ·intro w'
                  go_simp
                  with_reducible rfl
                 rotate_left
                 ·simp only [Act.put, y1, y2, y3, i64_w, i32_w]
                  rfl
                 refine pure_ (i := 4) (N := some 30) (v := ?_) (a' := ?_) (bz 43 19) rfl rfl (any_of HT_.out (by kernel_rfl)) (fun _ _ _ h => h) (Or.inl ⟨by rfl, ?_⟩) ?_ ?_
                 rotate_left
                 ·intro w'
                  go_simp
                  with_reducible rfl
                 rotate_left
                 ·simp only [Act.put, y1, y2, y3, i64_w, i32_w]
                  rfl
                 refine pure_ (i := 5) (N := some 31) (v := ?_) (a' := ?_) (bz 43 51) rfl rfl (any_of HT_.out (by kernel_rfl)) (fun _ _ _ h => h) (Or.inl ⟨by rfl, ?_⟩) ?_ ?_
                 rotate_left
                 ·intro w'
                  go_simp
                  with_reducible rfl
                 rotate_left
                 ·simp only [Act.put, y1, y2, y3, i64_w, i32_w]
                  rfl
                 refine pure_ (i := 9) (N := some 35) (v := ?_) (a' := ?_) (bz 43 563) rfl rfl (any_of HT_.out (by kernel_rfl)) (fun _ _ _ h => h) (Or.inl ⟨by rfl, ?_⟩) ?_ ?_
                 rotate_left
                 ·intro w'
                  go_simp
                  with_reducible rfl
                 rotate_left
                 ·simp only [Act.put, y1, y2, y3, i64_w, i32_w]
                  rfl
                 refine pure_ (i := 10) (N := some 36) (v := ?_) (a' := ?_) (bz 43 1587) rfl rfl (any_of HT_.out (by kernel_rfl)) (fun _ _ _ h => h) (Or.inl ⟨by rfl, ?_⟩) ?_ ?_
                 rotate_left
                 ·intro w'
                  go_simp
                  with_reducible rfl
                 rotate_left
                 ·simp only [Act.put, y1, y2, y3, i64_w, i32_w]
                  rfl
                 refine pure_ (i := 15) (N := some 41) (v := ?_) (a' := ?_) (bz 43 34355) rfl rfl (any_of HT_.out (by kernel_rfl)) (fun _ _ _ h => h) (Or.inl ⟨by rfl, ?_⟩) ?_ ?_
                 rotate_left
                 ·intro w'
                  go_simp
                  with_reducible rfl
                 rotate_left
                 ·simp only [Act.put, y1, y2, y3, i64_w, i32_w]
                  rfl
                 refine pure_ (i := 16) (N := some 42) (v := ?_) (a' := ?_) (bz 43 99891) rfl rfl (any_of HT_.out (by kernel_rfl)) (fun _ _ _ h => h) (Or.inl ⟨by rfl, ?_⟩) ?_ ?_
                 rotate_left
                 ·intro w'
                  go_simp
                  with_reducible rfl
                 rotate_left
                 ·simp only [Act.put, y1, y2, y3, i64_w, i32_w]
                  rfl
                 refine pure_ (i := 21) (N := some 47) (v := ?_) (a' := ?_) (bz 43 2197043) rfl rfl (any_of HT_.out (by kernel_rfl)) (fun _ _ _ h => h) (Or.inl ⟨by rfl, ?_⟩) ?_ ?_
                 rotate_left
                 ·intro w'
                  go_simp
                  with_reducible rfl
                 rotate_left
                 ·simp only [Act.put, y1, y2, y3, i64_w, i32_w]
                  rfl
                 refine pure_ (i := 22) (N := some 48) (v := ?_) (a' := ?_) (bz 43 6391347) rfl rfl (any_of HT_.out (by kernel_rfl)) (fun _ _ _ h => h) (Or.inl ⟨by rfl, ?_⟩) ?_ ?_
                 rotate_left
                 ·intro w'
                  go_simp
                  with_reducible rfl
                 rotate_left
                 ·simp only [Act.put, y1, y2, y3, i64_w, i32_w]
                  rfl
                 refine pure_ (i := 26) (N := some 52) (v := ?_) (a' := ?_) (bz 43 73500211) rfl rfl (any_of HT_.out (by kernel_rfl)) (fun _ _ _ h => h) (Or.inl ⟨by rfl, ?_⟩) ?_ ?_
                 rotate_left
                 ·intro w'
                  go_simp
                  with_reducible rfl
                 rotate_left
                 ·simp only [Act.put, y1, y2, y3, i64_w, i32_w]
                  rfl
                 refine pure_ (i := 27) (N := some 53) (v := ?_) (a' := ?_) (bz 43 207717939) rfl rfl (any_of HT_.out (by kernel_rfl)) (fun _ _ _ h => h) (Or.inl ⟨by rfl, ?_⟩) ?_ ?_
                 rotate_left
                 ·intro w'
                  go_simp
                  with_reducible rfl
                 rotate_left
                 ·simp only [Act.put, y1, y2, y3, i64_w, i32_w]
                  rfl
                 refine pure_ (i := 29) (N := some 55) (v := ?_) (a' := ?_) (bz 43 744588851) rfl rfl (any_of HT_.out (by kernel_rfl)) (fun _ _ _ h => h) (Or.inl ⟨by rfl, ?_⟩) ?_ ?_
                 rotate_left
                 ·intro w'
                  go_simp
                  with_reducible rfl
                 rotate_left
                 ·simp only [Act.put, y1, y2, y3, i64_w, i32_w]
                  rfl
                 refine pure_ (i := 30) (N := some 56) (v := ?_) (a' := ?_) (bz 43 1818330675) rfl rfl (any_of HT_.out (by kernel_rfl)) (fun _ _ _ h => h) (Or.inl ⟨by rfl, ?_⟩) ?_ ?_
                 rotate_left
                 ·intro w'
                  go_simp
                  with_reducible rfl
                 rotate_left
                 ·simp only [Act.put, y1, y2, y3, i64_w, i32_w]
                  rfl
                 refine pure_ (i := 32) (N := some 58) (v := ?_) (a' := ?_) (bz 43 6113297971) rfl rfl (any_of HT_.out (by kernel_rfl)) (fun _ _ _ h => h) (Or.inl ⟨by rfl, ?_⟩) ?_ ?_
                 rotate_left
                 ·intro w'
                  go_simp
                  with_reducible rfl
                 rotate_left
                 ·simp only [Act.put, y1, y2, y3, i64_w, i32_w]
                  rfl
                 refine pure_ (i := 33) (N := some 59) (v := ?_) (a' := ?_) (bz 43 14703232563) rfl rfl (any_of HT_.out (by kernel_rfl)) (fun _ _ _ h => h) (Or.inl ⟨by rfl, ?_⟩) ?_ ?_
                 rotate_left
                 ·intro w'
                  go_simp
                  with_reducible rfl
                 rotate_left
                 ·simp only [Act.put, y1, y2, y3, i64_w, i32_w]
                  rfl
                 refine pure_ (i := 36) (N := some 62) (v := ?_) (a' := ?_) (bz 43 83422709299) rfl rfl (any_of HT_.out (by kernel_rfl)) (fun _ _ _ h => h) (Or.inl ⟨by rfl, ?_⟩) ?_ ?_
                 rotate_left
                 ·intro w'
                  go_simp
                  with_reducible rfl
                 rotate_left
                 ·simp only [Act.put, y1, y2, y3, i64_w, i32_w]
                  rfl
                 refine pure_ (i := 37) (N := some 63) (v := ?_) (a' := ?_) (bz 43 220861662771) rfl rfl (any_of HT_.out (by kernel_rfl)) (fun _ _ _ h => h) (Or.inl ⟨by rfl, ?_⟩) ?_ ?_
                 rotate_left
                 ·intro w'
                  go_simp
                  with_reducible rfl
                 rotate_left
                 ·simp only [Act.put, y1, y2, y3, i64_w, i32_w]
                  rfl
                 refine take_ (i := 2) (N := some 28) (v := ?_) (a' := ?_) (bz 43 220861662775) rfl rfl (take_ofW HT_.out HW_.out (by kernel_rfl)) (fun _ _ _ h => h) (Or.inl ⟨by rfl, ?_⟩) hHeld ?_ ?_
                 rotate_left
                 ·rintro w' ⟨s0, s1, s2, s3, s4, s5, s6⟩
                  go_simp
                  with_reducible rfl
                 rotate_left
                 ·simp only [Act.put, y1, y2, y3, i64_w, i32_w]
                  rfl
                 refine pure_ (i := 3) (N := some 29) (v := ?_) (a' := ?_) (bz 43 220861662783) rfl rfl (any_of HT_.out (by kernel_rfl)) (fun _ _ _ h => h) (Or.inl ⟨by rfl, ?_⟩) ?_ ?_
                 rotate_left
                 ·intro w'
                  go_simp
                  with_reducible rfl
                 rotate_left
                 ·simp only [Act.put, y1, y2, y3, i64_w, i32_w]
                  rfl
                 refine take_ (i := 6) (N := some 32) (v := ?_) (a' := ?_) (bz 43 220861662847) rfl rfl (take_ofW HT_.out HW_.out (by kernel_rfl)) (fun _ _ _ h => h) (Or.inl ⟨by rfl, ?_⟩) hHeld ?_ ?_
                 rotate_left
                 ·rintro w' ⟨s0, s1, s2, s3, s4, s5, s6⟩
                  go_simp
                  with_reducible rfl
                 rotate_left
                 ·simp only [Act.put, y1, y2, y3, i64_w, i32_w]
                  rfl
                 refine pure_ (i := 7) (N := some 33) (v := ?_) (a' := ?_) (bz 43 220861662975) rfl rfl (any_of HT_.out (by kernel_rfl)) (fun _ _ _ h => h) (Or.inl ⟨by rfl, ?_⟩) ?_ ?_
                 rotate_left
                 ·intro w'
                  go_simp
                  with_reducible rfl
                 rotate_left
                 ·simp only [Act.put, y1, y2, y3, i64_w, i32_w]
                  rfl
                 refine pure_ (i := 8) (N := some 34) (v := ?_) (a' := ?_) (bz 43 220861663231) rfl rfl (any_of HT_.out (by kernel_rfl)) (fun _ _ _ h => h) (Or.inl ⟨by rfl, ?_⟩) ?_ ?_
                 rotate_left
                 ·intro w'
                  go_simp
                  with_reducible rfl
                 rotate_left
                 ·simp only [Act.put, y1, y2, y3, i64_w, i32_w]
                  rfl
                 refine take_ (i := 11) (N := some 37) (v := ?_) (a' := ?_) (bz 43 220861665279) rfl rfl (take_ofW HT_.out HW_.out (by kernel_rfl)) (fun _ _ _ h => h) (Or.inl ⟨by rfl, ?_⟩) hHeld ?_ ?_
                 rotate_left
                 ·rintro w' ⟨s0, s1, s2, s3, s4, s5, s6⟩
                  go_simp
                  with_reducible rfl
                 rotate_left
                 ·simp only [Act.put, y1, y2, y3, i64_w, i32_w]
                  rfl
                 refine pure_ (i := 12) (N := some 38) (v := ?_) (a' := ?_) (bz 43 220861669375) rfl rfl (any_of HT_.out (by kernel_rfl)) (fun _ _ _ h => h) (Or.inl ⟨by rfl, ?_⟩) ?_ ?_
                 rotate_left
                 ·intro w'
                  go_simp
                  with_reducible rfl
                 rotate_left
                 ·simp only [Act.put, y1, y2, y3, i64_w, i32_w]
                  rfl
                 refine pure_ (i := 13) (N := some 39) (v := ?_) (a' := ?_) (bz 43 220861677567) rfl rfl (any_of HT_.out (by kernel_rfl)) (fun _ _ _ h => h) (Or.inl ⟨by rfl, ?_⟩) ?_ ?_
                 rotate_left
                 ·intro w'
                  go_simp
                  with_reducible rfl
                 rotate_left
                 ·simp only [Act.put, y1, y2, y3, i64_w, i32_w]
                  rfl
                 refine pure_ (i := 14) (N := some 40) (v := ?_) (a' := ?_) (bz 43 220861693951) rfl rfl (any_of HT_.out (by kernel_rfl)) (fun _ _ _ h => h) (Or.inl ⟨by rfl, ?_⟩) ?_ ?_
                 rotate_left
                 ·intro w'
                  go_simp
                  with_reducible rfl
                 rotate_left
                 ·simp only [Act.put, y1, y2, y3, i64_w, i32_w]
                  rfl
                 refine take_ (i := 17) (N := some 43) (v := ?_) (a' := ?_) (bz 43 220861825023) rfl rfl (take_ofW HT_.out HW_.out (by kernel_rfl)) (fun _ _ _ h => h) (Or.inl ⟨by rfl, ?_⟩) hHeld ?_ ?_
                 rotate_left
                 ·rintro w' ⟨s0, s1, s2, s3, s4, s5, s6⟩
                  go_simp
                  with_reducible rfl
                 rotate_left
                 ·simp only [Act.put, y1, y2, y3, i64_w, i32_w]
                  rfl
                 refine pure_ (i := 18) (N := some 44) (v := ?_) (a' := ?_) (bz 43 220862087167) rfl rfl (any_of HT_.out (by kernel_rfl)) (fun _ _ _ h => h) (Or.inl ⟨by rfl, ?_⟩) ?_ ?_
                 rotate_left
                 ·intro w'
                  go_simp
                  with_reducible rfl
                 rotate_left
                 ·simp only [Act.put, y1, y2, y3, i64_w, i32_w]
                  rfl
                 refine pure_ (i := 19) (N := some 45) (v := ?_) (a' := ?_) (bz 43 220862611455) rfl rfl (any_of HT_.out (by kernel_rfl)) (fun _ _ _ h => h) (Or.inl ⟨by rfl, ?_⟩) ?_ ?_
                 rotate_left
                 ·intro w'
                  go_simp
                  with_reducible rfl
                 rotate_left
                 ·simp only [Act.put, y1, y2, y3, i64_w, i32_w]
                  rfl
                 refine pure_ (i := 20) (N := some 46) (v := ?_) (a' := ?_) (bz 43 220863660031) rfl rfl (any_of HT_.out (by kernel_rfl)) (fun _ _ _ h => h) (Or.inl ⟨by rfl, ?_⟩) ?_ ?_
                 rotate_left
                 ·intro w'
                  go_simp
                  with_reducible rfl
                 rotate_left
                 ·simp only [Act.put, y1, y2, y3, i64_w, i32_w]
                  rfl
                 refine take_ (i := 23) (N := some 49) (v := ?_) (a' := ?_) (bz 43 220872048639) rfl rfl (take_ofW HT_.out HW_.out (by kernel_rfl)) (fun _ _ _ h => h) (Or.inl ⟨by rfl, ?_⟩) hHeld ?_ ?_
                 rotate_left
                 ·rintro w' ⟨s0, s1, s2, s3, s4, s5, s6⟩
                  go_simp
                  with_reducible rfl
                 rotate_left
                 ·simp only [Act.put, y1, y2, y3, i64_w, i32_w]
                  rfl
                 refine pure_ (i := 24) (N := some 50) (v := ?_) (a' := ?_) (bz 43 220888825855) rfl rfl (any_of HT_.out (by kernel_rfl)) (fun _ _ _ h => h) (Or.inl ⟨by rfl, ?_⟩) ?_ ?_
                 rotate_left
                 ·intro w'
                  go_simp
                  with_reducible rfl
                 rotate_left
                 ·simp only [Act.put, y1, y2, y3, i64_w, i32_w]
                  rfl
                 refine pure_ (i := 25) (N := some 51) (v := ?_) (a' := ?_) (bz 43 220922380287) rfl rfl (any_of HT_.out (by kernel_rfl)) (fun _ _ _ h => h) (Or.inl ⟨by rfl, ?_⟩) ?_ ?_
                 rotate_left
                 ·intro w'
                  go_simp
                  with_reducible rfl
                 rotate_left
                 ·simp only [Act.put, y1, y2, y3, i64_w, i32_w]
                  rfl
                 refine take_ (i := 34) (N := some 60) (v := ?_) (a' := ?_) (bz 43 238102249471) rfl rfl (take_ofW HT_.out HW_.out (by kernel_rfl)) (fun _ _ _ h => h) (Or.inl ⟨by rfl, ?_⟩) hHeld ?_ ?_
                 rotate_left
                 ·rintro w' ⟨s0, s1, s2, s3, s4, s5, s6⟩
                  go_simp
                  with_reducible rfl
                 rotate_left
                 ·simp only [Act.put, y1, y2, y3, i64_w, i32_w]
                  rfl
                 refine pure_ (i := 35) (N := some 61) (v := ?_) (a' := ?_) (bz 43 272461987839) rfl rfl (any_of HT_.out (by kernel_rfl)) (fun _ _ _ h => h) (Or.inl ⟨by rfl, ?_⟩) ?_ ?_
                 rotate_left
                 ·intro w'
                  go_simp
                  with_reducible rfl
                 rotate_left
                 ·simp only [Act.put, y1, y2, y3, i64_w, i32_w]
                  rfl
                 refine take_ (i := 38) (N := some 64) (v := ?_) (a' := ?_) (bz 43 547339894783) rfl rfl (take_ofW HT_.out HW_.out (by kernel_rfl)) (fun _ _ _ h => h) (Or.inl ⟨by rfl, ?_⟩) hHeld ?_ ?_
                 rotate_left
                 ·rintro w' ⟨s0, s1, s2, s3, s4, s5, s6⟩
                  go_simp
                  with_reducible rfl
                 rotate_left
                 ·simp only [Act.put, y1, y2, y3, i64_w, i32_w]
                  rfl
                 refine pure_ (i := 39) (N := some 65) (v := ?_) (a' := ?_) (bz 43 1097095708671) rfl rfl (any_of HT_.out (by kernel_rfl)) (fun _ _ _ h => h) (Or.inl ⟨by rfl, ?_⟩) ?_ ?_
                 rotate_left
                 ·intro w'
                  go_simp
                  with_reducible rfl
                 rotate_left
                 ·simp only [Act.put, y1, y2, y3, i64_w, i32_w]
                  rfl
                 refine join_ (σ := Nat) 1 (bz 43 4398046511103) (fun s_ => [(54, .int .i64 t157), (57, .int .i64 t159), (5, .pointer (some ⟨s_, 0, none⟩)), (66, .agg #[.int .i64 (wrap64 (rd l0 0)), .int .i64 (Go.bits .or .i64 (Go.bits .or .i64 (Go.bits .or .i64 (wrap64 ((wrap64 (rd l0 1)) * 16777216)) (wrap64 ((wrap64 (rd l0 2)) * 65536))) (wrap64 ((wrap64 (rd l0 3)) * 256))) (wrap64 (rd l0 4))), .int .i64 t157, .int .i64 t159, .int .i64 (wrap64 (rd l0 11)), .int .i64 (wrap64 (rd l0 12))])]) (fun s_ w' => (w'.cell? ad149 = some (.int .u8 (rd l0 0)) ∧ w'.cell? ⟨ad149.block, ad149.off + 1, none⟩ = some (.int .u8 (rd l0 1)) ∧ w'.cell? ⟨ad149.block, ad149.off + 2, none⟩ = some (.int .u8 (rd l0 2)) ∧ w'.cell? ⟨ad149.block, ad149.off + 3, none⟩ = some (.int .u8 (rd l0 3)) ∧ w'.cell? ⟨ad149.block, ad149.off + 4, none⟩ = some (.int .u8 (rd l0 4)) ∧ w'.cell? ⟨ad149.block, ad149.off + 11, none⟩ = some (.int .u8 (rd l0 11)) ∧ w'.cell? ⟨ad149.block, ad149.off + 12, none⟩ = some (.int .u8 (rd l0 12))) ∧ (w'.heap[gb146]? = some (.cells #[.int .i64 0, .int .i64 0, .int .i64 0, .int .i64 0, .int .i64 0, .int .i64 0] 31 (0, 0))) ∧ (w'.heap[s_]? = some (.cells #[.int .i64 0, .int .i64 0, .int .i64 0, .int .i64 0, .int .i64 0, .int .i64 0] 31 (0, 0))) ∧ (w.heap.size ≤ s_) ∧ (w.heap.size ≤ s_) ∧ (gb146 ≠ s_) ∧ (s_ ≠ gb146) ∧ (Below w.heap.size w w')) ?_ ?_
                 rotate_left
                 ·intro hCont
                  refine two_ (i := 28) (j := 41) (Ni := some 54) (Nj := some 5) (bz 43 1097364144127) (bz 43 3296118964223) rfl rfl rfl rfl (two_of HT_.out (by kernel_rfl)) (by decide) (by decide) (fun K hK => ?_) (fun K hK => ?_)
                  ·skip
                   refine goes_ Try.func86 (by kernel_rfl) rfl #[.slice A64 (l0.drop 5).length (c0 - 5)] (by rfl) rfl rfl (by (try simp only [List.map_toArray, List.map_cons, List.map_nil]); first | done | (rw [show (l0.drop 5).length = (l0.length - 5) from List.length_drop] <;> rfl) | rfl | (simp only [List.length_drop, List.length_take]; rfl)) ?_
                   with_reducible refine (impl_number24.calls _ _ (l0.drop 5) t157 _ ?side1 ?side2 A14.out).mono ?_
                   (case side1 => repeat (first | exact (Kd.C_below HR156.out HB.out) | (with_reducible refine Kd.C_alloc ?_ _) | (with_reducible refine Kd.C_drewN ?_ _) | (with_reducible refine Kd.C_drew ?_)))
                   (case side2 => exact HC156.out)
                   rintro e w' ⟨rfl, ⟨nd, rfl⟩⟩
                   refine ⟨_, rfl, ?_⟩
                   refine hK.out _ _ ⟨((HB.out.cell (World.block_lt_of_cell? w _ hw151_0)).trans hw151_0), ((HB.out.cell (World.block_lt_of_cell? w _ hw152_0)).trans hw152_0), ((HB.out.cell (World.block_lt_of_cell? w _ hw153_0)).trans hw153_0), ((HB.out.cell (World.block_lt_of_cell? w _ hw154_0)).trans hw154_0), ((HB.out.cell (World.block_lt_of_cell? w _ hw155_0)).trans hw155_0), ((HB.out.cell (World.block_lt_of_cell? w _ hw160_0)).trans hw160_0), ((HB.out.cell (World.block_lt_of_cell? w _ hw161_0)).trans hw161_0)⟩ (fun hHeld => ?_)
                   clear hK K
                   refine norm_ (a' := ?_) ?_ ?_
                   rotate_left
                   ·show Act.put _ (some 54) _ = _
                    simp only [Act.put, y1, y2, y3, i64_w, i32_w]
                    rfl
                   refine two_ (i := 31) (j := 41) (Ni := some 57) (Nj := some 5) (bz 43 1099511627775) (bz 43 3296387399679) rfl rfl rfl rfl (two_of HT_.out (by kernel_rfl)) (by decide) (by decide) (fun K hK => ?_) (fun K hK => ?_)
                   ·skip
                    refine goes_ Try.func86 (by kernel_rfl) rfl #[.slice A65 (l0.drop 8).length (c0 - 8)] (by rfl) rfl rfl (by (try simp only [List.map_toArray, List.map_cons, List.map_nil]); first | done | (rw [show (l0.drop 8).length = (l0.length - 8) from List.length_drop] <;> rfl) | rfl | (simp only [List.length_drop, List.length_take]; rfl)) ?_
                    with_reducible refine (impl_number24.calls _ _ (l0.drop 8) t159 _ ?side1 ?side2 A16.out).mono ?_
                    (case side1 => repeat (first | exact (Kd.C_below HR158.out (by repeat (first | (with_reducible first | exact HB.out | apply below_alloc | apply pw_below_drewN | apply below_drew1 | refine below_set ?_ GE146.out) | exact HB.out))) | (with_reducible refine Kd.C_alloc ?_ _) | (with_reducible refine Kd.C_drewN ?_ _) | (with_reducible refine Kd.C_drew ?_)))
                    (case side2 => exact HC158.out)
                    rintro e w' ⟨rfl, ⟨nd, rfl⟩⟩
                    refine ⟨_, rfl, ?_⟩
                    refine hK.out _ _ ⟨((HB.out.cell (World.block_lt_of_cell? w _ hw151_0)).trans hw151_0), ((HB.out.cell (World.block_lt_of_cell? w _ hw152_0)).trans hw152_0), ((HB.out.cell (World.block_lt_of_cell? w _ hw153_0)).trans hw153_0), ((HB.out.cell (World.block_lt_of_cell? w _ hw154_0)).trans hw154_0), ((HB.out.cell (World.block_lt_of_cell? w _ hw155_0)).trans hw155_0), ((HB.out.cell (World.block_lt_of_cell? w _ hw160_0)).trans hw160_0), ((HB.out.cell (World.block_lt_of_cell? w _ hw161_0)).trans hw161_0)⟩ (fun hHeld => ?_)
                    clear hK K
                    refine norm_ (a' := ?_) ?_ ?_
                    rotate_left
                    ·show Act.put _ (some 57) _ = _
                     simp only [Act.put, y1, y2, y3, i64_w, i32_w]
                     rfl
                    refine pure_ (i := 40) (N := some 66) (v := ?_) (a' := ?_) (bz 43 2199023255551) rfl rfl (any_of HT_.out (by kernel_rfl)) (fun _ _ _ h => h) (Or.inl ⟨by rfl, ?_⟩) ?_ ?_
                    rotate_left
                    ·intro w'
                     go_simp
                     with_reducible rfl
                    rotate_left
                    ·simp only [Act.put, y1, y2, y3, i64_w, i32_w]
                     rfl
                    refine one_ (i := 41) (N := some 5) (bz 43 4398046511103) rfl rfl (one_of HT_.out (by kernel_rfl)) (by decide) (fun K hK => ?_)
                    refine box_step ?hg (N := 5) ?hd (cs := #[.int .i64 0, .int .i64 0, .int .i64 0, .int .i64 0, .int .i64 0, .int .i64 0]) (t := 31) ?hr ?_; (case hd => rfl); (case hg => rfl); (case hr => first | (go_simp; done) | (go_simp; rfl))
                    intro gb162 hg w66 hbox hb
                    have n0_ := Aside0.mk (blk_below (g := gb146) (o := .cells #[.int .i64 0, .int .i64 0, .int .i64 0, .int .i64 0, .int .i64 0, .int .i64 0] 31 (0, 0)) (by (with_reducible repeat (first | refine z1 ?_ _ | refine z2 ?_ | refine z3 ?_ _)); exact BK146.out) hb)
                    have n1_ := Aside0.mk (below_step (by repeat (first | (with_reducible first | exact HB.out | apply below_alloc | apply pw_below_drewN | apply below_drew1 | refine below_set ?_ GE146.out) | exact HB.out)) hb)
                    have n2_ := Aside0.mk (hbox)
                    have n3_ := Aside0.mk ((by rw [hg]; exact (below_size (by repeat (first | (with_reducible first | exact HB.out | apply below_alloc | apply pw_below_drewN | apply below_drew1 | refine below_set ?_ GE146.out) | exact HB.out))) : w.heap.size ≤ gb162))
                    have n4_ := Aside0.mk ((by rw [hg]; exact (below_size (by repeat (first | (with_reducible first | exact HB.out | apply below_alloc | apply pw_below_drewN | apply below_drew1 | refine below_set ?_ GE146.out) | exact HB.out))) : w.heap.size ≤ gb162))
                    have n5_ := Aside0.mk ((by rw [hg]; exact Nat.ne_of_lt (blk_lt (g := gb146) (o := .cells #[.int .i64 0, .int .i64 0, .int .i64 0, .int .i64 0, .int .i64 0, .int .i64 0] 31 (0, 0)) (by (with_reducible repeat (first | refine z1 ?_ _ | refine z2 ?_ | refine z3 ?_ _)); exact BK146.out)) : gb146 ≠ gb162))
                    have n6_ := Aside0.mk ((by rw [hg]; exact Nat.ne_of_gt (blk_lt (g := gb146) (o := .cells #[.int .i64 0, .int .i64 0, .int .i64 0, .int .i64 0, .int .i64 0, .int .i64 0] 31 (0, 0)) (by (with_reducible repeat (first | refine z1 ?_ _ | refine z2 ?_ | refine z3 ?_ _)); exact BK146.out)) : gb162 ≠ gb146))
                    clear BK146 HB
                    have BK146 := n0_
                    have HB := n1_
                    have BK162 := n2_
                    have GW162 := n3_
                    have GE162 := n4_
                    have NB146_162 := n5_
                    have NB162_146 := n6_
                    clear n0_ n1_ n2_ n3_ n4_ n5_ n6_ hb hbox hg
                    refine hK.out _ _ ⟨((HB.out.cell (World.block_lt_of_cell? w _ hw151_0)).trans hw151_0), ((HB.out.cell (World.block_lt_of_cell? w _ hw152_0)).trans hw152_0), ((HB.out.cell (World.block_lt_of_cell? w _ hw153_0)).trans hw153_0), ((HB.out.cell (World.block_lt_of_cell? w _ hw154_0)).trans hw154_0), ((HB.out.cell (World.block_lt_of_cell? w _ hw155_0)).trans hw155_0), ((HB.out.cell (World.block_lt_of_cell? w _ hw160_0)).trans hw160_0), ((HB.out.cell (World.block_lt_of_cell? w _ hw161_0)).trans hw161_0)⟩ (fun hHeld => ?_)
                    clear hK K
                    refine norm_ (a' := ?_) ?_ ?_
                    rotate_left
                    ·show Act.put _ (some 5) _ = _
                     simp only [Act.put, y1, y2, y3, i64_w, i32_w]
                     rfl
                    exact norm_ (by simp only [putAll, Act.put, y1, y2, y3]) (hCont (gb162) _ ⟨hHeld, (by (with_reducible repeat (first | refine z1 ?_ _ | refine z2 ?_ | refine z3 ?_ _)); exact BK146.out), (by (with_reducible repeat (first | refine z1 ?_ _ | refine z2 ?_ | refine z3 ?_ _)); exact BK162.out), GW162.out, GE162.out, NB146_162.out, NB162_146.out, (by repeat (first | (with_reducible first | exact HB.out | apply below_alloc | apply pw_below_drewN | apply below_drew1 | refine below_set ?_ GE146.out | refine below_set ?_ GE162.out) | exact HB.out))⟩)
                   ·skip
                    refine box_step ?hg (N := 5) ?hd (cs := #[.int .i64 0, .int .i64 0, .int .i64 0, .int .i64 0, .int .i64 0, .int .i64 0]) (t := 31) ?hr ?_; (case hd => rfl); (case hg => rfl); (case hr => first | (go_simp; done) | (go_simp; rfl))
                    intro gb162 hg w66 hbox hb
                    have n0_ := Aside0.mk (blk_below (g := gb146) (o := .cells #[.int .i64 0, .int .i64 0, .int .i64 0, .int .i64 0, .int .i64 0, .int .i64 0] 31 (0, 0)) (by (with_reducible repeat (first | refine z1 ?_ _ | refine z2 ?_ | refine z3 ?_ _)); exact BK146.out) hb)
                    have n1_ := Aside0.mk (below_step (by repeat (first | (with_reducible first | exact HB.out | apply below_alloc | apply pw_below_drewN | apply below_drew1 | refine below_set ?_ GE146.out) | exact HB.out)) hb)
                    have n2_ := Aside0.mk (hbox)
                    have n3_ := Aside0.mk ((by rw [hg]; exact (below_size (by repeat (first | (with_reducible first | exact HB.out | apply below_alloc | apply pw_below_drewN | apply below_drew1 | refine below_set ?_ GE146.out) | exact HB.out))) : w.heap.size ≤ gb162))
                    have n4_ := Aside0.mk ((by rw [hg]; exact (below_size (by repeat (first | (with_reducible first | exact HB.out | apply below_alloc | apply pw_below_drewN | apply below_drew1 | refine below_set ?_ GE146.out) | exact HB.out))) : w.heap.size ≤ gb162))
                    have n5_ := Aside0.mk ((by rw [hg]; exact Nat.ne_of_lt (blk_lt (g := gb146) (o := .cells #[.int .i64 0, .int .i64 0, .int .i64 0, .int .i64 0, .int .i64 0, .int .i64 0] 31 (0, 0)) (by (with_reducible repeat (first | refine z1 ?_ _ | refine z2 ?_ | refine z3 ?_ _)); exact BK146.out)) : gb146 ≠ gb162))
                    have n6_ := Aside0.mk ((by rw [hg]; exact Nat.ne_of_gt (blk_lt (g := gb146) (o := .cells #[.int .i64 0, .int .i64 0, .int .i64 0, .int .i64 0, .int .i64 0, .int .i64 0] 31 (0, 0)) (by (with_reducible repeat (first | refine z1 ?_ _ | refine z2 ?_ | refine z3 ?_ _)); exact BK146.out)) : gb162 ≠ gb146))
                    clear BK146 HB
                    have BK146 := n0_
                    have HB := n1_
                    have BK162 := n2_
                    have GW162 := n3_
                    have GE162 := n4_
                    have NB146_162 := n5_
                    have NB162_146 := n6_
                    clear n0_ n1_ n2_ n3_ n4_ n5_ n6_ hb hbox hg
                    refine hK.out _ _ ⟨((HB.out.cell (World.block_lt_of_cell? w _ hw151_0)).trans hw151_0), ((HB.out.cell (World.block_lt_of_cell? w _ hw152_0)).trans hw152_0), ((HB.out.cell (World.block_lt_of_cell? w _ hw153_0)).trans hw153_0), ((HB.out.cell (World.block_lt_of_cell? w _ hw154_0)).trans hw154_0), ((HB.out.cell (World.block_lt_of_cell? w _ hw155_0)).trans hw155_0), ((HB.out.cell (World.block_lt_of_cell? w _ hw160_0)).trans hw160_0), ((HB.out.cell (World.block_lt_of_cell? w _ hw161_0)).trans hw161_0)⟩ (fun hHeld => ?_)
                    clear hK K
                    refine norm_ (a' := ?_) ?_ ?_
                    rotate_left
                    ·show Act.put _ (some 5) _ = _
                     simp only [Act.put, y1, y2, y3, i64_w, i32_w]
                     rfl
                    refine one_ (i := 31) (N := some 57) (bz 43 3298534883327) rfl rfl (one_of HT_.out (by kernel_rfl)) (by decide) (fun K hK => ?_)
                    refine goes_ Try.func86 (by kernel_rfl) rfl #[.slice A65 (l0.drop 8).length (c0 - 8)] (by rfl) rfl rfl (by (try simp only [List.map_toArray, List.map_cons, List.map_nil]); first | done | (rw [show (l0.drop 8).length = (l0.length - 8) from List.length_drop] <;> rfl) | rfl | (simp only [List.length_drop, List.length_take]; rfl)) ?_
                    with_reducible refine (impl_number24.calls _ _ (l0.drop 8) t159 _ ?side1 ?side2 A16.out).mono ?_
                    (case side1 => repeat (first | exact (Kd.C_below HR158.out HB.out) | (with_reducible refine Kd.C_alloc ?_ _) | (with_reducible refine Kd.C_drewN ?_ _) | (with_reducible refine Kd.C_drew ?_)))
                    (case side2 => exact HC158.out)
                    rintro e w' ⟨rfl, ⟨nd, rfl⟩⟩
                    refine ⟨_, rfl, ?_⟩
                    refine hK.out _ _ ⟨((HB.out.cell (World.block_lt_of_cell? w _ hw151_0)).trans hw151_0), ((HB.out.cell (World.block_lt_of_cell? w _ hw152_0)).trans hw152_0), ((HB.out.cell (World.block_lt_of_cell? w _ hw153_0)).trans hw153_0), ((HB.out.cell (World.block_lt_of_cell? w _ hw154_0)).trans hw154_0), ((HB.out.cell (World.block_lt_of_cell? w _ hw155_0)).trans hw155_0), ((HB.out.cell (World.block_lt_of_cell? w _ hw160_0)).trans hw160_0), ((HB.out.cell (World.block_lt_of_cell? w _ hw161_0)).trans hw161_0)⟩ (fun hHeld => ?_)
                    clear hK K
                    refine norm_ (a' := ?_) ?_ ?_
                    rotate_left
                    ·show Act.put _ (some 57) _ = _
                     simp only [Act.put, y1, y2, y3, i64_w, i32_w]
                     rfl
                    refine pure_ (i := 40) (N := some 66) (v := ?_) (a' := ?_) (bz 43 4398046511103) rfl rfl (any_of HT_.out (by kernel_rfl)) (fun _ _ _ h => h) (Or.inl ⟨by rfl, ?_⟩) ?_ ?_
                    rotate_left
                    ·intro w'
                     go_simp
                     with_reducible rfl
                    rotate_left
                    ·simp only [Act.put, y1, y2, y3, i64_w, i32_w]
                     rfl
                    exact norm_ (by simp only [putAll, Act.put, y1, y2, y3]) (hCont (gb162) _ ⟨hHeld, (by (with_reducible repeat (first | refine z1 ?_ _ | refine z2 ?_ | refine z3 ?_ _)); exact BK146.out), (by (with_reducible repeat (first | refine z1 ?_ _ | refine z2 ?_ | refine z3 ?_ _)); exact BK162.out), GW162.out, GE162.out, NB146_162.out, NB162_146.out, (by repeat (first | (with_reducible first | exact HB.out | apply below_alloc | apply pw_below_drewN | apply below_drew1 | refine below_set ?_ GE146.out | refine below_set ?_ GE162.out) | exact HB.out))⟩)
                  ·skip
                   refine box_step ?hg (N := 5) ?hd (cs := #[.int .i64 0, .int .i64 0, .int .i64 0, .int .i64 0, .int .i64 0, .int .i64 0]) (t := 31) ?hr ?_; (case hd => rfl); (case hg => rfl); (case hr => first | (go_simp; done) | (go_simp; rfl))
                   intro gb162 hg w66 hbox hb
                   have n0_ := Aside0.mk (blk_below (g := gb146) (o := .cells #[.int .i64 0, .int .i64 0, .int .i64 0, .int .i64 0, .int .i64 0, .int .i64 0] 31 (0, 0)) (by (with_reducible repeat (first | refine z1 ?_ _ | refine z2 ?_ | refine z3 ?_ _)); exact BK146.out) hb)
                   have n1_ := Aside0.mk (below_step (by repeat (first | (with_reducible first | exact HB.out | apply below_alloc | apply pw_below_drewN | apply below_drew1 | refine below_set ?_ GE146.out) | exact HB.out)) hb)
                   have n2_ := Aside0.mk (hbox)
                   have n3_ := Aside0.mk ((by rw [hg]; exact (below_size (by repeat (first | (with_reducible first | exact HB.out | apply below_alloc | apply pw_below_drewN | apply below_drew1 | refine below_set ?_ GE146.out) | exact HB.out))) : w.heap.size ≤ gb162))
                   have n4_ := Aside0.mk ((by rw [hg]; exact (below_size (by repeat (first | (with_reducible first | exact HB.out | apply below_alloc | apply pw_below_drewN | apply below_drew1 | refine below_set ?_ GE146.out) | exact HB.out))) : w.heap.size ≤ gb162))
                   have n5_ := Aside0.mk ((by rw [hg]; exact Nat.ne_of_lt (blk_lt (g := gb146) (o := .cells #[.int .i64 0, .int .i64 0, .int .i64 0, .int .i64 0, .int .i64 0, .int .i64 0] 31 (0, 0)) (by (with_reducible repeat (first | refine z1 ?_ _ | refine z2 ?_ | refine z3 ?_ _)); exact BK146.out)) : gb146 ≠ gb162))
                   have n6_ := Aside0.mk ((by rw [hg]; exact Nat.ne_of_gt (blk_lt (g := gb146) (o := .cells #[.int .i64 0, .int .i64 0, .int .i64 0, .int .i64 0, .int .i64 0, .int .i64 0] 31 (0, 0)) (by (with_reducible repeat (first | refine z1 ?_ _ | refine z2 ?_ | refine z3 ?_ _)); exact BK146.out)) : gb162 ≠ gb146))
                   clear BK146 HB
                   have BK146 := n0_
                   have HB := n1_
                   have BK162 := n2_
                   have GW162 := n3_
                   have GE162 := n4_
                   have NB146_162 := n5_
                   have NB162_146 := n6_
                   clear n0_ n1_ n2_ n3_ n4_ n5_ n6_ hb hbox hg
                   refine hK.out _ _ ⟨((HB.out.cell (World.block_lt_of_cell? w _ hw151_0)).trans hw151_0), ((HB.out.cell (World.block_lt_of_cell? w _ hw152_0)).trans hw152_0), ((HB.out.cell (World.block_lt_of_cell? w _ hw153_0)).trans hw153_0), ((HB.out.cell (World.block_lt_of_cell? w _ hw154_0)).trans hw154_0), ((HB.out.cell (World.block_lt_of_cell? w _ hw155_0)).trans hw155_0), ((HB.out.cell (World.block_lt_of_cell? w _ hw160_0)).trans hw160_0), ((HB.out.cell (World.block_lt_of_cell? w _ hw161_0)).trans hw161_0)⟩ (fun hHeld => ?_)
                   clear hK K
                   refine norm_ (a' := ?_) ?_ ?_
                   rotate_left
                   ·show Act.put _ (some 5) _ = _
                    simp only [Act.put, y1, y2, y3, i64_w, i32_w]
                    rfl
                   refine one_ (i := 28) (N := some 54) (bz 43 3296387399679) rfl rfl (one_of HT_.out (by kernel_rfl)) (by decide) (fun K hK => ?_)
                   refine goes_ Try.func86 (by kernel_rfl) rfl #[.slice A64 (l0.drop 5).length (c0 - 5)] (by rfl) rfl rfl (by (try simp only [List.map_toArray, List.map_cons, List.map_nil]); first | done | (rw [show (l0.drop 5).length = (l0.length - 5) from List.length_drop] <;> rfl) | rfl | (simp only [List.length_drop, List.length_take]; rfl)) ?_
                   with_reducible refine (impl_number24.calls _ _ (l0.drop 5) t157 _ ?side1 ?side2 A14.out).mono ?_
                   (case side1 => repeat (first | exact (Kd.C_below HR156.out HB.out) | (with_reducible refine Kd.C_alloc ?_ _) | (with_reducible refine Kd.C_drewN ?_ _) | (with_reducible refine Kd.C_drew ?_)))
                   (case side2 => exact HC156.out)
                   rintro e w' ⟨rfl, ⟨nd, rfl⟩⟩
                   refine ⟨_, rfl, ?_⟩
                   refine hK.out _ _ ⟨((HB.out.cell (World.block_lt_of_cell? w _ hw151_0)).trans hw151_0), ((HB.out.cell (World.block_lt_of_cell? w _ hw152_0)).trans hw152_0), ((HB.out.cell (World.block_lt_of_cell? w _ hw153_0)).trans hw153_0), ((HB.out.cell (World.block_lt_of_cell? w _ hw154_0)).trans hw154_0), ((HB.out.cell (World.block_lt_of_cell? w _ hw155_0)).trans hw155_0), ((HB.out.cell (World.block_lt_of_cell? w _ hw160_0)).trans hw160_0), ((HB.out.cell (World.block_lt_of_cell? w _ hw161_0)).trans hw161_0)⟩ (fun hHeld => ?_)
                   clear hK K
                   refine norm_ (a' := ?_) ?_ ?_
                   rotate_left
                   ·show Act.put _ (some 54) _ = _
                    simp only [Act.put, y1, y2, y3, i64_w, i32_w]
                    rfl
                   refine one_ (i := 31) (N := some 57) (bz 43 3298534883327) rfl rfl (one_of HT_.out (by kernel_rfl)) (by decide) (fun K hK => ?_)
                   refine goes_ Try.func86 (by kernel_rfl) rfl #[.slice A65 (l0.drop 8).length (c0 - 8)] (by rfl) rfl rfl (by (try simp only [List.map_toArray, List.map_cons, List.map_nil]); first | done | (rw [show (l0.drop 8).length = (l0.length - 8) from List.length_drop] <;> rfl) | rfl | (simp only [List.length_drop, List.length_take]; rfl)) ?_
                   with_reducible refine (impl_number24.calls _ _ (l0.drop 8) t159 _ ?side1 ?side2 A16.out).mono ?_
                   (case side1 => repeat (first | exact (Kd.C_below HR158.out (by repeat (first | (with_reducible first | exact HB.out | apply below_alloc | apply pw_below_drewN | apply below_drew1 | refine below_set ?_ GE146.out | refine below_set ?_ GE162.out) | exact HB.out))) | (with_reducible refine Kd.C_alloc ?_ _) | (with_reducible refine Kd.C_drewN ?_ _) | (with_reducible refine Kd.C_drew ?_)))
                   (case side2 => exact HC158.out)
                   rintro e w' ⟨rfl, ⟨nd, rfl⟩⟩
                   refine ⟨_, rfl, ?_⟩
                   refine hK.out _ _ ⟨((HB.out.cell (World.block_lt_of_cell? w _ hw151_0)).trans hw151_0), ((HB.out.cell (World.block_lt_of_cell? w _ hw152_0)).trans hw152_0), ((HB.out.cell (World.block_lt_of_cell? w _ hw153_0)).trans hw153_0), ((HB.out.cell (World.block_lt_of_cell? w _ hw154_0)).trans hw154_0), ((HB.out.cell (World.block_lt_of_cell? w _ hw155_0)).trans hw155_0), ((HB.out.cell (World.block_lt_of_cell? w _ hw160_0)).trans hw160_0), ((HB.out.cell (World.block_lt_of_cell? w _ hw161_0)).trans hw161_0)⟩ (fun hHeld => ?_)
                   clear hK K
                   refine norm_ (a' := ?_) ?_ ?_
                   rotate_left
                   ·show Act.put _ (some 57) _ = _
                    simp only [Act.put, y1, y2, y3, i64_w, i32_w]
                    rfl
                   refine pure_ (i := 40) (N := some 66) (v := ?_) (a' := ?_) (bz 43 4398046511103) rfl rfl (any_of HT_.out (by kernel_rfl)) (fun _ _ _ h => h) (Or.inl ⟨by rfl, ?_⟩) ?_ ?_
                   rotate_left
                   ·intro w'
                    go_simp
                    with_reducible rfl
                   rotate_left
                   ·simp only [Act.put, y1, y2, y3, i64_w, i32_w]
                    rfl
                   exact norm_ (by simp only [putAll, Act.put, y1, y2, y3]) (hCont (gb162) _ ⟨hHeld, (by (with_reducible repeat (first | refine z1 ?_ _ | refine z2 ?_ | refine z3 ?_ _)); exact BK146.out), (by (with_reducible repeat (first | refine z1 ?_ _ | refine z2 ?_ | refine z3 ?_ _)); exact BK162.out), GW162.out, GE162.out, NB146_162.out, NB162_146.out, (by repeat (first | (with_reducible first | exact HB.out | apply below_alloc | apply pw_below_drewN | apply below_drew1 | refine below_set ?_ GE146.out | refine below_set ?_ GE162.out) | exact HB.out))⟩)
                 rintro gb162 w67 ⟨hS_, h0_, h1_, h2_, h3_, h4_, h5_, h6_⟩
                 have n0_ : Aside0 (w67.heap[gb146]? = some (.cells #[.int .i64 0, .int .i64 0, .int .i64 0, .int .i64 0, .int .i64 0, .int .i64 0] 31 (0, 0))) := ⟨h0_⟩
                 have n1_ : Aside0 (w67.heap[gb162]? = some (.cells #[.int .i64 0, .int .i64 0, .int .i64 0, .int .i64 0, .int .i64 0, .int .i64 0] 31 (0, 0))) := ⟨h1_⟩
                 have n2_ : Aside0 (w.heap.size ≤ gb162) := ⟨h2_⟩
                 have n3_ : Aside0 (w.heap.size ≤ gb162) := ⟨h3_⟩
                 have n4_ : Aside0 (gb146 ≠ gb162) := ⟨h4_⟩
                 have n5_ : Aside0 (gb162 ≠ gb146) := ⟨h5_⟩
                 have n6_ : Aside0 (Below w.heap.size w w67) := ⟨h6_⟩
                 clear BK146 HB h0_ h1_ h2_ h3_ h4_ h5_ h6_
                 have BK146 := n0_
                 have BK162 := n1_
                 have GW162 := n2_
                 have GE162 := n3_
                 have NB146_162 := n4_
                 have NB162_146 := n5_
                 have HB := n6_
                 clear n0_ n1_ n2_ n3_ n4_ n5_ n6_
                 have hHeld : w67.cell? ad149 = some (.int .u8 (rd l0 0)) ∧ w67.cell? ⟨ad149.block, ad149.off + 1, none⟩ = some (.int .u8 (rd l0 1)) ∧ w67.cell? ⟨ad149.block, ad149.off + 2, none⟩ = some (.int .u8 (rd l0 2)) ∧ w67.cell? ⟨ad149.block, ad149.off + 3, none⟩ = some (.int .u8 (rd l0 3)) ∧ w67.cell? ⟨ad149.block, ad149.off + 4, none⟩ = some (.int .u8 (rd l0 4)) ∧ w67.cell? ⟨ad149.block, ad149.off + 11, none⟩ = some (.int .u8 (rd l0 11)) ∧ w67.cell? ⟨ad149.block, ad149.off + 12, none⟩ = some (.int .u8 (rd l0 12)) := hS_
                 refine norm_ (a' := ?_) ?_ ?_
                 rotate_left
                 ·simp only [putAll, Act.put, y1, y2, y3]
                  rfl
                 refine one_ (i := 42) (N := none) (bz 43 8796093022207) rfl rfl (one_of HT_.out (by kernel_rfl)) (by decide) (fun K hK => ?_)
                 have hs68 : w67.cell? ⟨gb162, 0, none⟩ = some (.int .i64 0) := (blk_cell BK162.out 0).trans rfl
                 have hfs68 := blk_frozen BK162.out 0
                 have hns68_0 := NB146_162.out
                 have hms68_0 := NB162_146.out
                 have hs69 : w67.cell? ⟨gb162, 1, none⟩ = some (.int .i64 0) := (blk_cell BK162.out 1).trans rfl
                 have hfs69 := blk_frozen BK162.out 1
                 have hns69_0 := NB146_162.out
                 have hms69_0 := NB162_146.out
                 have hs70 : w67.cell? ⟨gb162, 2, none⟩ = some (.int .i64 0) := (blk_cell BK162.out 2).trans rfl
                 have hfs70 := blk_frozen BK162.out 2
                 have hns70_0 := NB146_162.out
                 have hms70_0 := NB162_146.out
                 have hs71 : w67.cell? ⟨gb162, 3, none⟩ = some (.int .i64 0) := (blk_cell BK162.out 3).trans rfl
                 have hfs71 := blk_frozen BK162.out 3
                 have hns71_0 := NB146_162.out
                 have hms71_0 := NB162_146.out
                 have hs72 : w67.cell? ⟨gb162, 4, none⟩ = some (.int .i64 0) := (blk_cell BK162.out 4).trans rfl
                 have hfs72 := blk_frozen BK162.out 4
                 have hns72_0 := NB146_162.out
                 have hms72_0 := NB162_146.out
                 have hs73 : w67.cell? ⟨gb162, 5, none⟩ = some (.int .i64 0) := (blk_cell BK162.out 5).trans rfl
                 have hfs73 := blk_frozen BK162.out 5
                 have hns73_0 := NB146_162.out
                 have hms73_0 := NB162_146.out
                 refine skip_ (w1 := ?_) (by rfl) rfl ?_ ?_
                 rotate_left
                 ·go_simp
                  rfl
                 refine hK.out _ _ ⟨((cell_far (p := ⟨gb162, _, none⟩) (by first | exact nz1 hw151_0 GW162.out | exact nz2 hw151_0 GW162.out | exact nz3 hw151_0 GW162.out) _).trans (((cell_far (p := ⟨gb162, _, none⟩) (by first | exact nz1 hw151_0 GW162.out | exact nz2 hw151_0 GW162.out | exact nz3 hw151_0 GW162.out) _).trans (((cell_far (p := ⟨gb162, _, none⟩) (by first | exact nz1 hw151_0 GW162.out | exact nz2 hw151_0 GW162.out | exact nz3 hw151_0 GW162.out) _).trans (((cell_far (p := ⟨gb162, _, none⟩) (by first | exact nz1 hw151_0 GW162.out | exact nz2 hw151_0 GW162.out | exact nz3 hw151_0 GW162.out) _).trans (((cell_far (p := ⟨gb162, _, none⟩) (by first | exact nz1 hw151_0 GW162.out | exact nz2 hw151_0 GW162.out | exact nz3 hw151_0 GW162.out) _).trans (((cell_far (p := ⟨gb162, _, none⟩) (by first | exact nz1 hw151_0 GW162.out | exact nz2 hw151_0 GW162.out | exact nz3 hw151_0 GW162.out) _).trans (hHeld.1)))))))))))), ((cell_far (p := ⟨gb162, _, none⟩) (by first | exact nz1 hw152_0 GW162.out | exact nz2 hw152_0 GW162.out | exact nz3 hw152_0 GW162.out) _).trans (((cell_far (p := ⟨gb162, _, none⟩) (by first | exact nz1 hw152_0 GW162.out | exact nz2 hw152_0 GW162.out | exact nz3 hw152_0 GW162.out) _).trans (((cell_far (p := ⟨gb162, _, none⟩) (by first | exact nz1 hw152_0 GW162.out | exact nz2 hw152_0 GW162.out | exact nz3 hw152_0 GW162.out) _).trans (((cell_far (p := ⟨gb162, _, none⟩) (by first | exact nz1 hw152_0 GW162.out | exact nz2 hw152_0 GW162.out | exact nz3 hw152_0 GW162.out) _).trans (((cell_far (p := ⟨gb162, _, none⟩) (by first | exact nz1 hw152_0 GW162.out | exact nz2 hw152_0 GW162.out | exact nz3 hw152_0 GW162.out) _).trans (((cell_far (p := ⟨gb162, _, none⟩) (by first | exact nz1 hw152_0 GW162.out | exact nz2 hw152_0 GW162.out | exact nz3 hw152_0 GW162.out) _).trans (hHeld.2.1)))))))))))), ((cell_far (p := ⟨gb162, _, none⟩) (by first | exact nz1 hw153_0 GW162.out | exact nz2 hw153_0 GW162.out | exact nz3 hw153_0 GW162.out) _).trans (((cell_far (p := ⟨gb162, _, none⟩) (by first | exact nz1 hw153_0 GW162.out | exact nz2 hw153_0 GW162.out | exact nz3 hw153_0 GW162.out) _).trans (((cell_far (p := ⟨gb162, _, none⟩) (by first | exact nz1 hw153_0 GW162.out | exact nz2 hw153_0 GW162.out | exact nz3 hw153_0 GW162.out) _).trans (((cell_far (p := ⟨gb162, _, none⟩) (by first | exact nz1 hw153_0 GW162.out | exact nz2 hw153_0 GW162.out | exact nz3 hw153_0 GW162.out) _).trans (((cell_far (p := ⟨gb162, _, none⟩) (by first | exact nz1 hw153_0 GW162.out | exact nz2 hw153_0 GW162.out | exact nz3 hw153_0 GW162.out) _).trans (((cell_far (p := ⟨gb162, _, none⟩) (by first | exact nz1 hw153_0 GW162.out | exact nz2 hw153_0 GW162.out | exact nz3 hw153_0 GW162.out) _).trans (hHeld.2.2.1)))))))))))), ((cell_far (p := ⟨gb162, _, none⟩) (by first | exact nz1 hw154_0 GW162.out | exact nz2 hw154_0 GW162.out | exact nz3 hw154_0 GW162.out) _).trans (((cell_far (p := ⟨gb162, _, none⟩) (by first | exact nz1 hw154_0 GW162.out | exact nz2 hw154_0 GW162.out | exact nz3 hw154_0 GW162.out) _).trans (((cell_far (p := ⟨gb162, _, none⟩) (by first | exact nz1 hw154_0 GW162.out | exact nz2 hw154_0 GW162.out | exact nz3 hw154_0 GW162.out) _).trans (((cell_far (p := ⟨gb162, _, none⟩) (by first | exact nz1 hw154_0 GW162.out | exact nz2 hw154_0 GW162.out | exact nz3 hw154_0 GW162.out) _).trans (((cell_far (p := ⟨gb162, _, none⟩) (by first | exact nz1 hw154_0 GW162.out | exact nz2 hw154_0 GW162.out | exact nz3 hw154_0 GW162.out) _).trans (((cell_far (p := ⟨gb162, _, none⟩) (by first | exact nz1 hw154_0 GW162.out | exact nz2 hw154_0 GW162.out | exact nz3 hw154_0 GW162.out) _).trans (hHeld.2.2.2.1)))))))))))), ((cell_far (p := ⟨gb162, _, none⟩) (by first | exact nz1 hw155_0 GW162.out | exact nz2 hw155_0 GW162.out | exact nz3 hw155_0 GW162.out) _).trans (((cell_far (p := ⟨gb162, _, none⟩) (by first | exact nz1 hw155_0 GW162.out | exact nz2 hw155_0 GW162.out | exact nz3 hw155_0 GW162.out) _).trans (((cell_far (p := ⟨gb162, _, none⟩) (by first | exact nz1 hw155_0 GW162.out | exact nz2 hw155_0 GW162.out | exact nz3 hw155_0 GW162.out) _).trans (((cell_far (p := ⟨gb162, _, none⟩) (by first | exact nz1 hw155_0 GW162.out | exact nz2 hw155_0 GW162.out | exact nz3 hw155_0 GW162.out) _).trans (((cell_far (p := ⟨gb162, _, none⟩) (by first | exact nz1 hw155_0 GW162.out | exact nz2 hw155_0 GW162.out | exact nz3 hw155_0 GW162.out) _).trans (((cell_far (p := ⟨gb162, _, none⟩) (by first | exact nz1 hw155_0 GW162.out | exact nz2 hw155_0 GW162.out | exact nz3 hw155_0 GW162.out) _).trans (hHeld.2.2.2.2.1)))))))))))), ((cell_far (p := ⟨gb162, _, none⟩) (by first | exact nz1 hw160_0 GW162.out | exact nz2 hw160_0 GW162.out | exact nz3 hw160_0 GW162.out) _).trans (((cell_far (p := ⟨gb162, _, none⟩) (by first | exact nz1 hw160_0 GW162.out | exact nz2 hw160_0 GW162.out | exact nz3 hw160_0 GW162.out) _).trans (((cell_far (p := ⟨gb162, _, none⟩) (by first | exact nz1 hw160_0 GW162.out | exact nz2 hw160_0 GW162.out | exact nz3 hw160_0 GW162.out) _).trans (((cell_far (p := ⟨gb162, _, none⟩) (by first | exact nz1 hw160_0 GW162.out | exact nz2 hw160_0 GW162.out | exact nz3 hw160_0 GW162.out) _).trans (((cell_far (p := ⟨gb162, _, none⟩) (by first | exact nz1 hw160_0 GW162.out | exact nz2 hw160_0 GW162.out | exact nz3 hw160_0 GW162.out) _).trans (((cell_far (p := ⟨gb162, _, none⟩) (by first | exact nz1 hw160_0 GW162.out | exact nz2 hw160_0 GW162.out | exact nz3 hw160_0 GW162.out) _).trans (hHeld.2.2.2.2.2.1)))))))))))), ((cell_far (p := ⟨gb162, _, none⟩) (by first | exact nz1 hw161_0 GW162.out | exact nz2 hw161_0 GW162.out | exact nz3 hw161_0 GW162.out) _).trans (((cell_far (p := ⟨gb162, _, none⟩) (by first | exact nz1 hw161_0 GW162.out | exact nz2 hw161_0 GW162.out | exact nz3 hw161_0 GW162.out) _).trans (((cell_far (p := ⟨gb162, _, none⟩) (by first | exact nz1 hw161_0 GW162.out | exact nz2 hw161_0 GW162.out | exact nz3 hw161_0 GW162.out) _).trans (((cell_far (p := ⟨gb162, _, none⟩) (by first | exact nz1 hw161_0 GW162.out | exact nz2 hw161_0 GW162.out | exact nz3 hw161_0 GW162.out) _).trans (((cell_far (p := ⟨gb162, _, none⟩) (by first | exact nz1 hw161_0 GW162.out | exact nz2 hw161_0 GW162.out | exact nz3 hw161_0 GW162.out) _).trans (((cell_far (p := ⟨gb162, _, none⟩) (by first | exact nz1 hw161_0 GW162.out | exact nz2 hw161_0 GW162.out | exact nz3 hw161_0 GW162.out) _).trans (hHeld.2.2.2.2.2.2))))))))))))⟩ (fun hHeld => ?_)
                 clear hK K
                 refine done_ (done_of HT_.out (by kernel_rfl)) ?_
                 have p163 : 0 ≤ (13 : Int) := (by omega)
                 have q163 : 13 < (l0.length : Int) := of_decide_eq_true (by first | (with_reducible assumption) | assumption)
                 obtain ⟨ad163, e163, hx163_0⟩ := Kd.at_int HR0.out 13 p163 q163
                 obtain rfl : ad149 = ad163 := (by injection e163)
                 (try simp only [show (13 : Int).toNat = 13 from rfl, Nat.reduceMul, Nat.reduceEqDiff, Go.Addr.add, ↓reduceIte] at hx163_0)
                 have qi163 : (13 < l0.length) = True := eq_true (by omega)
                 (try rw [show ((13 : Int)).toNat = 13 from rfl] at hx163_0)
                 have hn163_0 : ad149.block ≠ gb162 := Nat.ne_of_lt (Nat.lt_of_lt_of_le (by have := World.block_lt_of_cell? _ _ hx163_0; first | rwa [add_block] at this | exact this) GW162.out)
                 have hn163_1 : ad149.block ≠ gb162 := Nat.ne_of_lt (Nat.lt_of_lt_of_le (by have := World.block_lt_of_cell? _ _ hx163_0; first | rwa [add_block] at this | exact this) GW162.out)
                 have hn163_2 : ad149.block ≠ gb162 := Nat.ne_of_lt (Nat.lt_of_lt_of_le (by have := World.block_lt_of_cell? _ _ hx163_0; first | rwa [add_block] at this | exact this) GW162.out)
                 have hn163_3 : ad149.block ≠ gb162 := Nat.ne_of_lt (Nat.lt_of_lt_of_le (by have := World.block_lt_of_cell? _ _ hx163_0; first | rwa [add_block] at this | exact this) GW162.out)
                 have hn163_4 : ad149.block ≠ gb162 := Nat.ne_of_lt (Nat.lt_of_lt_of_le (by have := World.block_lt_of_cell? _ _ hx163_0; first | rwa [add_block] at this | exact this) GW162.out)
                 have hn163_5 : ad149.block ≠ gb162 := Nat.ne_of_lt (Nat.lt_of_lt_of_le (by have := World.block_lt_of_cell? _ _ hx163_0; first | rwa [add_block] at this | exact this) GW162.out)
                 replace hx163_0 := (HB.out.cell (World.block_lt_of_cell? w _ hx163_0)).trans hx163_0
                 replace hx163_0 := (cell_far (p := ⟨gb162, 0, none⟩) (by first | (rw [add_block]; exact hn163_0) | (show (Addr.add _ _).block ≠ _; rw [add_block]; exact hn163_0) | exact hn163_0) (.int .i64 (wrap64 (rd l0 0)))).trans hx163_0
                 replace hx163_0 := (cell_far (p := ⟨gb162, 1, none⟩) (by first | (rw [add_block]; exact hn163_1) | (show (Addr.add _ _).block ≠ _; rw [add_block]; exact hn163_1) | exact hn163_1) (.int .i64 (Go.bits .or .i64 (Go.bits .or .i64 (Go.bits .or .i64 (wrap64 ((wrap64 (rd l0 1)) * 16777216)) (wrap64 ((wrap64 (rd l0 2)) * 65536))) (wrap64 ((wrap64 (rd l0 3)) * 256))) (wrap64 (rd l0 4))))).trans hx163_0
                 replace hx163_0 := (cell_far (p := ⟨gb162, 2, none⟩) (by first | (rw [add_block]; exact hn163_2) | (show (Addr.add _ _).block ≠ _; rw [add_block]; exact hn163_2) | exact hn163_2) (.int .i64 t157)).trans hx163_0
                 replace hx163_0 := (cell_far (p := ⟨gb162, 3, none⟩) (by first | (rw [add_block]; exact hn163_3) | (show (Addr.add _ _).block ≠ _; rw [add_block]; exact hn163_3) | exact hn163_3) (.int .i64 t159)).trans hx163_0
                 replace hx163_0 := (cell_far (p := ⟨gb162, 4, none⟩) (by first | (rw [add_block]; exact hn163_4) | (show (Addr.add _ _).block ≠ _; rw [add_block]; exact hn163_4) | exact hn163_4) (.int .i64 (wrap64 (rd l0 11)))).trans hx163_0
                 replace hx163_0 := (cell_far (p := ⟨gb162, 5, none⟩) (by first | (rw [add_block]; exact hn163_5) | (show (Addr.add _ _).block ≠ _; rw [add_block]; exact hn163_5) | exact hn163_5) (.int .i64 (wrap64 (rd l0 12)))).trans hx163_0
                 clear hn163_0 hn163_1 hn163_2 hn163_3 hn163_4 hn163_5
                 replace p163 := eq_true p163
                 replace q163 := eq_true q163
                 have hnb74 := NB146_162.out
                 have hnc74 := NB162_146.out
                 have hcz75_0 : w67.cell? ⟨gb146, 0, none⟩ = some (.int .i64 0) := (blk_cell BK146.out 0).trans rfl
                 have hcz75_1 : w67.cell? ⟨gb146, 1, none⟩ = some (.int .i64 0) := (blk_cell BK146.out 1).trans rfl
                 have hcz75_2 : w67.cell? ⟨gb146, 2, none⟩ = some (.int .i64 0) := (blk_cell BK146.out 2).trans rfl
                 have hcz75_3 : w67.cell? ⟨gb146, 3, none⟩ = some (.int .i64 0) := (blk_cell BK146.out 3).trans rfl
                 have hcz75_4 : w67.cell? ⟨gb146, 4, none⟩ = some (.int .i64 0) := (blk_cell BK146.out 4).trans rfl
                 have hcz75_5 : w67.cell? ⟨gb146, 5, none⟩ = some (.int .i64 0) := (blk_cell BK146.out 5).trans rfl
                 have hfz75_0 := blk_frozen BK146.out 0
                 have hfz75_1 := blk_frozen BK146.out 1
                 have hfz75_2 := blk_frozen BK146.out 2
                 have hfz75_3 := blk_frozen BK146.out 3
                 have hfz75_4 := blk_frozen BK146.out 4
                 have hfz75_5 := blk_frozen BK146.out 5
                 try go_wp2
                 refine bodyPost_ret (results_ct rfl _ _ gb146 31 #[.int .i64 0, .int .i64 0, .int .i64 0, .int .i64 0, .int .i64 0, .int .i64 0] (0, 0) _ rfl (by (with_reducible repeat (first | refine blk_drewN ?_ _ | refine blk_drew ?_ | refine blk_alloc ?_ _)); refine blk_put (cs := #[.int .i64 0, .int .i64 0, .int .i64 0, .int .i64 0, .int .i64 0, .int .i64 0]) ?_ 5 _ rfl; (with_reducible repeat (first | refine blk_drewN ?_ _ | refine blk_drew ?_ | refine blk_alloc ?_ _)); refine blk_put (cs := #[.int .i64 0, .int .i64 0, .int .i64 0, .int .i64 0, .int .i64 0, .int .i64 0]) ?_ 4 _ rfl; (with_reducible repeat (first | refine blk_drewN ?_ _ | refine blk_drew ?_ | refine blk_alloc ?_ _)); refine blk_put (cs := #[.int .i64 0, .int .i64 0, .int .i64 0, .int .i64 0, .int .i64 0, .int .i64 0]) ?_ 3 _ rfl; (with_reducible repeat (first | refine blk_drewN ?_ _ | refine blk_drew ?_ | refine blk_alloc ?_ _)); refine blk_put (cs := #[.int .i64 0, .int .i64 0, .int .i64 0, .int .i64 0, .int .i64 0, .int .i64 0]) ?_ 2 _ rfl; (with_reducible repeat (first | refine blk_drewN ?_ _ | refine blk_drew ?_ | refine blk_alloc ?_ _)); refine blk_put (cs := #[.int .i64 0, .int .i64 0, .int .i64 0, .int .i64 0, .int .i64 0, .int .i64 0]) ?_ 1 _ rfl; (with_reducible repeat (first | refine blk_drewN ?_ _ | refine blk_drew ?_ | refine blk_alloc ?_ _)); refine blk_put (cs := #[.int .i64 0, .int .i64 0, .int .i64 0, .int .i64 0, .int .i64 0, .int .i64 0]) ?_ 0 _ rfl; (with_reducible repeat (first | refine blk_drewN ?_ _ | refine blk_drew ?_ | refine blk_alloc ?_ _)); refine blk_far ?_ NB146_162.out _; (with_reducible repeat (first | refine blk_drewN ?_ _ | refine blk_drew ?_ | refine blk_alloc ?_ _)); refine blk_far ?_ NB146_162.out _; (with_reducible repeat (first | refine blk_drewN ?_ _ | refine blk_drew ?_ | refine blk_alloc ?_ _)); refine blk_far ?_ NB146_162.out _; (with_reducible repeat (first | refine blk_drewN ?_ _ | refine blk_drew ?_ | refine blk_alloc ?_ _)); refine blk_far ?_ NB146_162.out _; (with_reducible repeat (first | refine blk_drewN ?_ _ | refine blk_drew ?_ | refine blk_alloc ?_ _)); refine blk_far ?_ NB146_162.out _; (with_reducible repeat (first | refine blk_drewN ?_ _ | refine blk_drew ?_ | refine blk_alloc ?_ _)); refine blk_far ?_ NB146_162.out _; (with_reducible repeat (first | refine blk_drewN ?_ _ | refine blk_drew ?_ | refine blk_alloc ?_ _)); exact BK146.out) Try.underlying31 rfl (by kernel_rfl)) rfl ?_
                 exact ⟨by first | rfl | (simp [errW_none, errW_some] <;> rfl) | (simp [*, errW_none, errW_some] <;> rfl), by repeat (first | (with_reducible first | exact HB.out | apply below_alloc | apply pw_below_drewN | apply below_drew1 | refine below_set ?_ GE146.out | refine below_set ?_ GE162.out) | exact HB.out)⟩
               ·rw [if_neg c19] at H
                exact absurd H (by simp)
              ·rw [if_neg c18] at H
               exact absurd H (by simp)
             ·rw [if_neg c17] at H
              exact absurd H (by simp)
            ·rw [if_neg c15] at H
             exact absurd H (by simp)
           ·rw [if_neg c13] at H
            exact absurd H (by simp)
          ·rw [if_neg c12] at H
           exact absurd H (by simp)
         ·rw [if_neg c11] at H
          exact absurd H (by simp)
        ·rw [if_neg c10] at H
         exact absurd H (by simp)
       ·rw [if_neg c9] at H
        exact absurd H (by simp)
      ·rw [if_neg c8] at H
       exact absurd H (by simp)
     ·rw [if_neg c7] at H
      have c7b0 : (t148 == (Go.bits .or .i64 (wrap64 ((wrap64 (rd l0 14)) * 256)) (wrap64 (rd l0 15)))) = false := beq_eq_false_iff_ne.mpr c7
      have c7b1 : (t148 != (Go.bits .or .i64 (wrap64 ((wrap64 (rd l0 14)) * 256)) (wrap64 (rd l0 15)))) = true := bne_iff_ne.mpr c7
      simp only [Option.some.injEq, Prod.mk.injEq] at H
      obtain ⟨rfl, rfl, rfl, rfl, rfl, rfl, rfl⟩ := H
      go_enter Try.func42, Try.ntmps42
      try go_wp2_with (first | ((with_reducible refine gate_dst (N := 2) rfl ?_); refine box_event ?hg (N := 2) ?hd (cs := #[.int .i64 0, .int .i64 0, .int .i64 0, .int .i64 0, .int .i64 0, .int .i64 0]) (t := 31) ?hr ?_; (case hd => rfl); (case hg => rfl); (case hr => first | (go_simp; done) | (go_simp; rfl)); intro gb146 hg w76 hbox hb; have n0_ := Aside0.mk (below_step (by repeat (first | (with_reducible first | exact HB.out | apply below_alloc | apply pw_below_drewN | apply below_drew1) | exact HB.out)) hb); have n1_ := Aside0.mk (hbox); have n2_ := Aside0.mk ((by rw [hg]; exact (below_size (by repeat (first | (with_reducible first | exact HB.out | apply below_alloc | apply pw_below_drewN | apply below_drew1) | exact HB.out))) : w.heap.size ≤ gb146)); have n3_ := Aside0.mk ((by rw [hg]; exact (below_size (by repeat (first | (with_reducible first | exact HB.out | apply below_alloc | apply pw_below_drewN | apply below_drew1) | exact HB.out))) : w.heap.size ≤ gb146)); clear HB; have HB := n0_; have BK146 := n1_; have GW146 := n2_; have GE146 := n3_; clear n0_ n1_ n2_ n3_; clear hb hbox hg))
      have n0_ := Aside0.mk (blk_drew BK146.out)
      have n1_ := Aside0.mk (below_drew1 HB.out)
      clear BK146 HB
      have BK146 := n0_
      have HB := n1_
      clear n0_ n1_
      obtain ⟨i078, hi078, _, hsz78, _⟩ := info_parts info5
      obtain ⟨hcut78, hA78, hC78⟩ := print_take_of (P := Try.prog) (Value.int .u8) 0 34 5 .i64 Try.underlying34 hi078 hsz78 A0 c0 l0 14 (by omega) (of_decide_eq_true (by first | (with_reducible assumption) | assumption)) HC0.out
      have HR147 := Aside0.mk (Kd.C_of_reads (h1 := fun _ => rfl) (hA78 _ (Kd.reads_of_C HR0.out)))
      have HC147 := Aside0.mk hC78
      clear hA78 hC78 hi078 hsz78
      have p149 : 0 ≤ (14 : Int) := (by omega)
      have q149 : 14 < (l0.length : Int) := of_decide_eq_true (by first | (with_reducible assumption) | assumption)
      obtain ⟨ad149, e149, hx149_0⟩ := Kd.at_int HR0.out 14 p149 q149
      have hw149_0 := hx149_0
      (try rw [show ((14 : Int)).toNat = 14 from rfl] at hw149_0)
      (try rw [show 14 * 1 = 14 from rfl] at hw149_0)
      (try simp only [Nat.reduceMul, Nat.reduceEqDiff, Go.Addr.add, ↓reduceIte] at hw149_0)
      cases e149
      (try simp only [show (14 : Int).toNat = 14 from rfl, Nat.reduceMul, Nat.reduceEqDiff, Go.Addr.add, ↓reduceIte] at hx149_0)
      have qi149 : (14 < l0.length) = True := eq_true (by omega)
      (try rw [show ((14 : Int)).toNat = 14 from rfl] at hx149_0)
      replace hx149_0 := (HB.out.cell (World.block_lt_of_cell? w _ hx149_0)).trans hx149_0
      replace p149 := eq_true p149
      replace q149 := eq_true q149
      have p150 : 0 ≤ (15 : Int) := (by omega)
      have q150 : 15 < (l0.length : Int) := of_decide_eq_true (by first | (with_reducible assumption) | assumption)
      obtain ⟨ad150, e150, hx150_0⟩ := Kd.at_int HR0.out 15 p150 q150
      have hw150_0 := hx150_0
      (try rw [show ((15 : Int)).toNat = 15 from rfl] at hw150_0)
      (try rw [show 15 * 1 = 15 from rfl] at hw150_0)
      (try simp only [Nat.reduceMul, Nat.reduceEqDiff, Go.Addr.add, ↓reduceIte] at hw150_0)
      obtain rfl : ad149 = ad150 := (by injection e150)
      (try simp only [show (15 : Int).toNat = 15 from rfl, Nat.reduceMul, Nat.reduceEqDiff, Go.Addr.add, ↓reduceIte] at hx150_0)
      have qi150 : (15 < l0.length) = True := eq_true (by omega)
      (try rw [show ((15 : Int)).toNat = 15 from rfl] at hx150_0)
      replace hx150_0 := (HB.out.cell (World.block_lt_of_cell? w _ hx150_0)).trans hx150_0
      replace p150 := eq_true p150
      replace q150 := eq_true q150
      refine start_ (n := 14) (S := fun w' => w'.cell? ⟨ad149.block, ad149.off + 14, none⟩ = some (.int .u8 (rd l0 14)) ∧ w'.cell? ⟨ad149.block, ad149.off + 15, none⟩ = some (.int .u8 (rd l0 15))) (ds := []) #[false, false, false, false, false, false, false, false, false, false, false, false, false, false] (by kernel_rfl) rfl rfl ⟨((HB.out.cell (World.block_lt_of_cell? w _ hw149_0)).trans hw149_0), ((HB.out.cell (World.block_lt_of_cell? w _ hw150_0)).trans hw150_0)⟩ (fun hHeld => ?_); refine with_tabW impl_ReadReport.tab4 impl_ReadReport.bits4 (fun HT_ HW_ => ?_)
      generalize w76.drew = w77 at BK146 HB HR147 hx149_0 hx150_0 hHeld ⊢
      refine pure_ (i := 0) (N := some 11) (v := ?_) (a' := ?_) (bz 14 1) rfl rfl (any_of HT_.out (by kernel_rfl)) (fun _ _ _ h => h) (Or.inl ⟨by rfl, ?_⟩) ?_ ?_
      rotate_left
      ·intro w'
       go_simp
       with_reducible rfl
      rotate_left
      ·simp only [Act.put, y1, y2, y3, i64_w, i32_w]
       rfl
      refine pure_ (i := 1) (N := some 12) (v := ?_) (a' := ?_) (bz 14 3) rfl rfl (any_of HT_.out (by kernel_rfl)) (fun _ _ _ h => h) (Or.inl ⟨by rfl, ?_⟩) ?_ ?_
      rotate_left
      ·intro w'
       go_simp
       with_reducible rfl
      rotate_left
      ·simp only [Act.put, y1, y2, y3, i64_w, i32_w]
       rfl
      refine pure_ (i := 3) (N := some 14) (v := ?_) (a' := ?_) (bz 14 11) rfl rfl (any_of HT_.out (by kernel_rfl)) (fun _ _ _ h => h) (Or.inl ⟨by rfl, ?_⟩) ?_ ?_
      rotate_left
      ·intro w'
       go_simp
       with_reducible rfl
      rotate_left
      ·simp only [Act.put, y1, y2, y3, i64_w, i32_w]
       rfl
      refine pure_ (i := 4) (N := some 15) (v := ?_) (a' := ?_) (bz 14 27) rfl rfl (any_of HT_.out (by kernel_rfl)) (fun _ _ _ h => h) (Or.inl ⟨by rfl, ?_⟩) ?_ ?_
      rotate_left
      ·intro w'
       go_simp
       with_reducible rfl
      rotate_left
      ·simp only [Act.put, y1, y2, y3, i64_w, i32_w]
       rfl
      refine pure_ (i := 8) (N := some 19) (v := ?_) (a' := ?_) (bz 14 283) rfl rfl (any_of HT_.out (by kernel_rfl)) (fun _ _ _ h => h) (Or.inl ⟨by rfl, ?_⟩) ?_ ?_
      rotate_left
      ·intro w'
       go_simp
       with_reducible rfl
      rotate_left
      ·simp only [Act.put, y1, y2, y3, i64_w, i32_w]
       rfl
      refine pure_ (i := 9) (N := some 20) (v := ?_) (a' := ?_) (bz 14 795) rfl rfl (any_of HT_.out (by kernel_rfl)) (fun _ _ _ h => h) (Or.inl ⟨by rfl, ?_⟩) ?_ ?_
      rotate_left
      ·intro w'
       go_simp
       with_reducible rfl
      rotate_left
      ·simp only [Act.put, y1, y2, y3, i64_w, i32_w]
       rfl
      refine take_ (i := 5) (N := some 16) (v := ?_) (a' := ?_) (bz 14 827) rfl rfl (take_ofW HT_.out HW_.out (by kernel_rfl)) (fun _ _ _ h => h) (Or.inl ⟨by rfl, ?_⟩) hHeld ?_ ?_
      rotate_left
      ·rintro w' ⟨s0, s1⟩
       go_simp
       with_reducible rfl
      rotate_left
      ·simp only [Act.put, y1, y2, y3, i64_w, i32_w]
       rfl
      refine pure_ (i := 6) (N := some 17) (v := ?_) (a' := ?_) (bz 14 891) rfl rfl (any_of HT_.out (by kernel_rfl)) (fun _ _ _ h => h) (Or.inl ⟨by rfl, ?_⟩) ?_ ?_
      rotate_left
      ·intro w'
       go_simp
       with_reducible rfl
      rotate_left
      ·simp only [Act.put, y1, y2, y3, i64_w, i32_w]
       rfl
      refine pure_ (i := 7) (N := some 18) (v := ?_) (a' := ?_) (bz 14 1019) rfl rfl (any_of HT_.out (by kernel_rfl)) (fun _ _ _ h => h) (Or.inl ⟨by rfl, ?_⟩) ?_ ?_
      rotate_left
      ·intro w'
       go_simp
       with_reducible rfl
      rotate_left
      ·simp only [Act.put, y1, y2, y3, i64_w, i32_w]
       rfl
      refine take_ (i := 10) (N := some 21) (v := ?_) (a' := ?_) (bz 14 2043) rfl rfl (take_ofW HT_.out HW_.out (by kernel_rfl)) (fun _ _ _ h => h) (Or.inl ⟨by rfl, ?_⟩) hHeld ?_ ?_
      rotate_left
      ·rintro w' ⟨s0, s1⟩
       go_simp
       with_reducible rfl
      rotate_left
      ·simp only [Act.put, y1, y2, y3, i64_w, i32_w]
       rfl
      refine pure_ (i := 11) (N := some 22) (v := ?_) (a' := ?_) (bz 14 4091) rfl rfl (any_of HT_.out (by kernel_rfl)) (fun _ _ _ h => h) (Or.inl ⟨by rfl, ?_⟩) ?_ ?_
      rotate_left
      ·intro w'
       go_simp
       with_reducible rfl
      rotate_left
      ·simp only [Act.put, y1, y2, y3, i64_w, i32_w]
       rfl
      refine pure_ (i := 12) (N := some 23) (v := ?_) (a' := ?_) (bz 14 8187) rfl rfl (any_of HT_.out (by kernel_rfl)) (fun _ _ _ h => h) (Or.inl ⟨by rfl, ?_⟩) ?_ ?_
      rotate_left
      ·intro w'
       go_simp
       with_reducible rfl
      rotate_left
      ·simp only [Act.put, y1, y2, y3, i64_w, i32_w]
       rfl
      refine one_ (i := 2) (N := some 13) (bz 14 8191) rfl rfl (one_of HT_.out (by kernel_rfl)) (by decide) (fun K hK => ?_)
      refine goes_ Try.func85 (by kernel_rfl) rfl #[.slice (some ad149) (l0.take 14).length c0] (by rfl) rfl rfl (by (try simp only [List.map_toArray, List.map_cons, List.map_nil]); first | done | (rw [show (l0.take 14).length = 14 from (by rw [List.length_take]; have h_ : (14 : Int) ≤ (l0.length : Int) := of_decide_eq_true (by first | (with_reducible assumption) | assumption); omega)] <;> rfl) | rfl | (simp only [List.length_drop, List.length_take]; rfl)) ?_
      with_reducible refine (impl_frameCheck.calls k _ _ (l0.take 14) t148 _ ?side1 ?side2 A4.out).mono ?_
      (case side1 => repeat (first | exact (Kd.C_below HR147.out HB.out) | (with_reducible refine Kd.C_alloc ?_ _) | (with_reducible refine Kd.C_drewN ?_ _) | (with_reducible refine Kd.C_drew ?_)))
      (case side2 => exact HC147.out)
      rintro e w' ⟨rfl, ⟨nd, rfl⟩⟩
      refine ⟨_, rfl, ?_⟩
      refine hK.out _ _ ⟨((HB.out.cell (World.block_lt_of_cell? w _ hw149_0)).trans hw149_0), ((HB.out.cell (World.block_lt_of_cell? w _ hw150_0)).trans hw150_0)⟩ (fun hHeld => ?_)
      clear hK K
      refine norm_ (a' := ?_) ?_ ?_
      rotate_left
      ·show Act.put _ (some 13) _ = _
       simp only [Act.put, y1, y2, y3, i64_w, i32_w]
       rfl
      refine pure_ (i := 13) (N := some 24) (v := ?_) (a' := ?_) (bz 14 16383) rfl rfl (any_of HT_.out (by kernel_rfl)) (fun _ _ _ h => h) (Or.inl ⟨by rfl, ?_⟩) ?_ ?_
      rotate_left
      ·intro w'
       go_simp
       with_reducible rfl
      rotate_left
      ·simp only [Act.put, y1, y2, y3, i64_w, i32_w]
       rfl
      refine done_ (done_of HT_.out (by kernel_rfl)) ?_
      have hcz79_0 : w77.cell? ⟨gb146, 0, none⟩ = some (.int .i64 0) := (blk_cell BK146.out 0).trans rfl
      have hcz79_1 : w77.cell? ⟨gb146, 1, none⟩ = some (.int .i64 0) := (blk_cell BK146.out 1).trans rfl
      have hcz79_2 : w77.cell? ⟨gb146, 2, none⟩ = some (.int .i64 0) := (blk_cell BK146.out 2).trans rfl
      have hcz79_3 : w77.cell? ⟨gb146, 3, none⟩ = some (.int .i64 0) := (blk_cell BK146.out 3).trans rfl
      have hcz79_4 : w77.cell? ⟨gb146, 4, none⟩ = some (.int .i64 0) := (blk_cell BK146.out 4).trans rfl
      have hcz79_5 : w77.cell? ⟨gb146, 5, none⟩ = some (.int .i64 0) := (blk_cell BK146.out 5).trans rfl
      have hfz79_0 := blk_frozen BK146.out 0
      have hfz79_1 := blk_frozen BK146.out 1
      have hfz79_2 := blk_frozen BK146.out 2
      have hfz79_3 := blk_frozen BK146.out 3
      have hfz79_4 := blk_frozen BK146.out 4
      have hfz79_5 := blk_frozen BK146.out 5
      try go_wp2
      refine bodyPost_ret (results_ct rfl _ _ gb146 31 #[.int .i64 0, .int .i64 0, .int .i64 0, .int .i64 0, .int .i64 0, .int .i64 0] (0, 0) _ rfl (by (with_reducible repeat (first | refine blk_drewN ?_ _ | refine blk_drew ?_ | refine blk_alloc ?_ _)); refine blk_put (cs := #[.int .i64 0, .int .i64 0, .int .i64 0, .int .i64 0, .int .i64 0, .int .i64 0]) ?_ 5 _ rfl; (with_reducible repeat (first | refine blk_drewN ?_ _ | refine blk_drew ?_ | refine blk_alloc ?_ _)); refine blk_put (cs := #[.int .i64 0, .int .i64 0, .int .i64 0, .int .i64 0, .int .i64 0, .int .i64 0]) ?_ 4 _ rfl; (with_reducible repeat (first | refine blk_drewN ?_ _ | refine blk_drew ?_ | refine blk_alloc ?_ _)); refine blk_put (cs := #[.int .i64 0, .int .i64 0, .int .i64 0, .int .i64 0, .int .i64 0, .int .i64 0]) ?_ 3 _ rfl; (with_reducible repeat (first | refine blk_drewN ?_ _ | refine blk_drew ?_ | refine blk_alloc ?_ _)); refine blk_put (cs := #[.int .i64 0, .int .i64 0, .int .i64 0, .int .i64 0, .int .i64 0, .int .i64 0]) ?_ 2 _ rfl; (with_reducible repeat (first | refine blk_drewN ?_ _ | refine blk_drew ?_ | refine blk_alloc ?_ _)); refine blk_put (cs := #[.int .i64 0, .int .i64 0, .int .i64 0, .int .i64 0, .int .i64 0, .int .i64 0]) ?_ 1 _ rfl; (with_reducible repeat (first | refine blk_drewN ?_ _ | refine blk_drew ?_ | refine blk_alloc ?_ _)); refine blk_put (cs := #[.int .i64 0, .int .i64 0, .int .i64 0, .int .i64 0, .int .i64 0, .int .i64 0]) ?_ 0 _ rfl; (with_reducible repeat (first | refine blk_drewN ?_ _ | refine blk_drew ?_ | refine blk_alloc ?_ _)); exact BK146.out) Try.underlying31 rfl (by kernel_rfl)) rfl ?_
      exact ⟨by first | rfl | (simp [errW_none, errW_some] <;> rfl) | (simp [*, errW_none, errW_some] <;> rfl), by repeat (first | (with_reducible first | exact HB.out | apply below_alloc | apply pw_below_drewN | apply below_drew1 | refine below_set ?_ GE146.out) | exact HB.out)⟩
    ·rw [if_neg c6] at H
     exact absurd H (by simp)
   ·rw [if_neg c5] at H
    exact absurd H (by simp)
  ·rw [if_neg c3] at H
   exact absurd H (by simp)
 ·rw [if_neg c2] at H
  have c2b0 : ((l0.length : Int) == 16) = false := beq_eq_false_iff_ne.mpr c2
  have c2b1 : ((l0.length : Int) != 16) = true := bne_iff_ne.mpr c2
  simp only [Option.some.injEq, Prod.mk.injEq] at H
  obtain ⟨rfl, rfl, rfl, rfl, rfl, rfl, rfl⟩ := H
  go_enter Try.func42, Try.ntmps42
  go_wp2_with (first | ((with_reducible refine gate_dst (N := 2) rfl ?_); refine box_event ?hg (N := 2) ?hd (cs := #[.int .i64 0, .int .i64 0, .int .i64 0, .int .i64 0, .int .i64 0, .int .i64 0]) (t := 31) ?hr ?_; (case hd => rfl); (case hg => rfl); (case hr => first | (go_simp; done) | (go_simp; rfl)); intro gb146 hg w80 hbox hb; have n0_ := Aside0.mk (below_step (by repeat (first | (with_reducible first | exact HB.out | apply below_alloc | apply pw_below_drewN | apply below_drew1) | exact HB.out)) hb); have n1_ := Aside0.mk (hbox); have n2_ := Aside0.mk ((by rw [hg]; exact (below_size (by repeat (first | (with_reducible first | exact HB.out | apply below_alloc | apply pw_below_drewN | apply below_drew1) | exact HB.out))) : w.heap.size ≤ gb146)); have n3_ := Aside0.mk ((by rw [hg]; exact (below_size (by repeat (first | (with_reducible first | exact HB.out | apply below_alloc | apply pw_below_drewN | apply below_drew1) | exact HB.out))) : w.heap.size ≤ gb146)); clear HB; have HB := n0_; have BK146 := n1_; have GW146 := n2_; have GE146 := n3_; clear n0_ n1_ n2_ n3_; clear hb hbox hg; have hcz81_0 : w80.cell? ⟨gb146, 0, none⟩ = some (.int .i64 0) := (blk_cell BK146.out 0).trans rfl; have hcz81_1 : w80.cell? ⟨gb146, 1, none⟩ = some (.int .i64 0) := (blk_cell BK146.out 1).trans rfl; have hcz81_2 : w80.cell? ⟨gb146, 2, none⟩ = some (.int .i64 0) := (blk_cell BK146.out 2).trans rfl; have hcz81_3 : w80.cell? ⟨gb146, 3, none⟩ = some (.int .i64 0) := (blk_cell BK146.out 3).trans rfl; have hcz81_4 : w80.cell? ⟨gb146, 4, none⟩ = some (.int .i64 0) := (blk_cell BK146.out 4).trans rfl; have hcz81_5 : w80.cell? ⟨gb146, 5, none⟩ = some (.int .i64 0) := (blk_cell BK146.out 5).trans rfl; have hfz81_0 := blk_frozen BK146.out 0; have hfz81_1 := blk_frozen BK146.out 1; have hfz81_2 := blk_frozen BK146.out 2; have hfz81_3 := blk_frozen BK146.out 3; have hfz81_4 := blk_frozen BK146.out 4; have hfz81_5 := blk_frozen BK146.out 5))
  refine bodyPost_ret (results_ct rfl _ _ gb146 31 #[.int .i64 0, .int .i64 0, .int .i64 0, .int .i64 0, .int .i64 0, .int .i64 0] (0, 0) _ rfl (by (with_reducible repeat (first | refine blk_drewN ?_ _ | refine blk_drew ?_ | refine blk_alloc ?_ _)); refine blk_put (cs := #[.int .i64 0, .int .i64 0, .int .i64 0, .int .i64 0, .int .i64 0, .int .i64 0]) ?_ 5 _ rfl; (with_reducible repeat (first | refine blk_drewN ?_ _ | refine blk_drew ?_ | refine blk_alloc ?_ _)); refine blk_put (cs := #[.int .i64 0, .int .i64 0, .int .i64 0, .int .i64 0, .int .i64 0, .int .i64 0]) ?_ 4 _ rfl; (with_reducible repeat (first | refine blk_drewN ?_ _ | refine blk_drew ?_ | refine blk_alloc ?_ _)); refine blk_put (cs := #[.int .i64 0, .int .i64 0, .int .i64 0, .int .i64 0, .int .i64 0, .int .i64 0]) ?_ 3 _ rfl; (with_reducible repeat (first | refine blk_drewN ?_ _ | refine blk_drew ?_ | refine blk_alloc ?_ _)); refine blk_put (cs := #[.int .i64 0, .int .i64 0, .int .i64 0, .int .i64 0, .int .i64 0, .int .i64 0]) ?_ 2 _ rfl; (with_reducible repeat (first | refine blk_drewN ?_ _ | refine blk_drew ?_ | refine blk_alloc ?_ _)); refine blk_put (cs := #[.int .i64 0, .int .i64 0, .int .i64 0, .int .i64 0, .int .i64 0, .int .i64 0]) ?_ 1 _ rfl; (with_reducible repeat (first | refine blk_drewN ?_ _ | refine blk_drew ?_ | refine blk_alloc ?_ _)); refine blk_put (cs := #[.int .i64 0, .int .i64 0, .int .i64 0, .int .i64 0, .int .i64 0, .int .i64 0]) ?_ 0 _ rfl; (with_reducible repeat (first | refine blk_drewN ?_ _ | refine blk_drew ?_ | refine blk_alloc ?_ _)); exact BK146.out) Try.underlying31 rfl (by kernel_rfl)) rfl ?_
  exact ⟨by first | rfl | (simp [errW_none, errW_some] <;> rfl) | (simp [*, errW_none, errW_some] <;> rfl), by repeat (first | (with_reducible first | exact HB.out | apply below_alloc | apply pw_below_drewN | apply below_drew1 | refine below_set ?_ GE146.out) | exact HB.out)⟩

end Go.Proofs.Ytfbokdbaondjdaa.PFnExactReadReport
