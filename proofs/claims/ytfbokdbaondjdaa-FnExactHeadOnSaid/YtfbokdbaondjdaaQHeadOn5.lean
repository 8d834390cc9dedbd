import Derived.Test.YtfbokdbaondjdaaQHeadOn0
import Derived.Test.YtfbokdbaondjdaaCy
import Derived.Test.YtfbokdbaondjdaaQHeadOn4
namespace Go.Proofs.Ytfbokdbaondjdaa.PFnExactHeadOn
open Go.RowKit Go.Proofs.YtfbokdbaondjdaaW.PrintWords Go.Proofs.YtfbokdbaondjdaaW.PrintLast Go.Proofs.YtfbokdbaondjdaaW.PrintMore Go.Proofs.Ytfbokdbaondjdaa.Cz
attribute [local go_sem] max2_int min2_int max_two min_two max_three min_three max_four min_four
set_option linter.unusedVariables false
set_option linter.unusedSimpArgs false

theorem s5_0 {p : Prop} (h : p := by repeat (first | (with_reducible first | exact HB.out | apply below_alloc | apply pw_below_drewN | apply below_drew1 | refine below_set ?_ GE177.out | refine below_set ?_ GE178.out) | exact HB.out)) : p := h
theorem s5_1 {p : Prop} (h : p := by repeat (first | (with_reducible first | exact HB.out | apply below_alloc | apply pw_below_drewN | apply below_drew1 | refine below_set ?_ GE177.out | refine below_set ?_ GE178.out | refine below_set ?_ GE185.out) | exact HB.out)) : p := h
theorem s5_2 {p : Prop} (h : p := by repeat (first | (with_reducible first | exact HB.out | apply below_alloc | apply pw_below_drewN | apply below_drew1 | refine below_set ?_ GE177.out | refine below_set ?_ GE178.out | refine below_set ?_ GE186.out) | exact HB.out)) : p := h
theorem s5_3 {p : Prop} (h : p := by repeat (first | (with_reducible first | exact HB.out | apply below_alloc | apply pw_below_drewN | apply below_drew1 | refine below_set ?_ GE177.out | refine below_set ?_ GE178.out | refine below_set ?_ GE185.out | refine below_set ?_ GE186.out) | exact HB.out)) : p := h
theorem s5_4 {p : Prop} (h : p := by first | (simp only [putAll, Act.put, y1, y2, y3]; done) | (simp only [putAll, Act.put, y1, y2, y3]; rfl)) : p := h
theorem s5_5 {p : Prop} (h : p := by (try simp only [List.map_toArray, List.map_cons, List.map_nil]); first | done | rfl | (simp only [List.length_drop, List.length_take]; rfl)) : p := h
theorem s5_6 {p : Prop} (h : p := by repeat (first | (with_reducible first | exact HB.out | apply below_alloc | apply pw_below_drewN | apply below_drew1 | refine below_set ?_ GE177.out | refine below_set ?_ GE178.out | refine below_set ?_ GE186.out | refine below_set ?_ GE185.out) | exact HB.out)) : p := h
set_option maxRecDepth 100000 in
theorem t5_0 {p : Prop} (h : p := by
 intro hJ1_3_4_5
 refine join_ (σ := Nat) 3 (bz 8 31) (fun s_ => [(16, .agg #[.int .i64 t181, .int .i64 t182]), (18, .agg #[.int .i64 t183, .int .i64 t184]), (5, .pointer (some ⟨s_, 0, none⟩))]) (fun s_ w' => (w'.cell? ⟨gb177, 0, none⟩ = some (.int .i64 a0_0) ∧ w'.cell? ⟨gb177, 1, none⟩ = some (.int .i64 a0_1) ∧ w'.cell? ⟨gb177, 2, none⟩ = some (.int .i64 a0_2) ∧ w'.cell? ⟨gb177, 3, none⟩ = some (.int .i64 a0_3) ∧ w'.cell? ⟨gb177, 4, none⟩ = some (.int .i64 a0_4) ∧ w'.cell? ⟨gb177, 5, none⟩ = some (.int .i64 a0_5) ∧ w'.cell? ⟨gb178, 0, none⟩ = some (.int .i64 a1_0) ∧ w'.cell? ⟨gb178, 1, none⟩ = some (.int .i64 a1_1) ∧ w'.cell? ⟨gb178, 2, none⟩ = some (.int .i64 a1_2) ∧ w'.cell? ⟨gb178, 3, none⟩ = some (.int .i64 a1_3) ∧ w'.cell? ⟨gb178, 4, none⟩ = some (.int .i64 a1_4) ∧ w'.cell? ⟨gb178, 5, none⟩ = some (.int .i64 a1_5)) ∧ (w'.heap[gb177]? = some (.cells #[.int .i64 a0_0, .int .i64 a0_1, .int .i64 a0_2, .int .i64 a0_3, .int .i64 a0_4, .int .i64 a0_5] 25 (0, 0))) ∧ (w'.heap[gb178]? = some (.cells #[.int .i64 a1_0, .int .i64 a1_1, .int .i64 a1_2, .int .i64 a1_3, .int .i64 a1_4, .int .i64 a1_5] 25 (0, 0))) ∧ (w'.heap[s_]? = some (.cells #[.int .i64 0, .int .i64 0] 89 (0, 0))) ∧ (w.heap.size ≤ s_) ∧ (w.heap.size ≤ s_) ∧ (gb177 ≠ s_) ∧ (s_ ≠ gb177) ∧ (gb178 ≠ s_) ∧ (s_ ≠ gb178) ∧ (Below w.heap.size w w')) ?_ ?_
 rotate_left
 ·intro hJ1_3_4
  refine join_ (σ := Nat) 3 (bz 8 47) (fun s_ => [(16, .agg #[.int .i64 t181, .int .i64 t182]), (18, .agg #[.int .i64 t183, .int .i64 t184]), (6, .pointer (some ⟨s_, 0, none⟩))]) (fun s_ w' => (w'.cell? ⟨gb177, 0, none⟩ = some (.int .i64 a0_0) ∧ w'.cell? ⟨gb177, 1, none⟩ = some (.int .i64 a0_1) ∧ w'.cell? ⟨gb177, 2, none⟩ = some (.int .i64 a0_2) ∧ w'.cell? ⟨gb177, 3, none⟩ = some (.int .i64 a0_3) ∧ w'.cell? ⟨gb177, 4, none⟩ = some (.int .i64 a0_4) ∧ w'.cell? ⟨gb177, 5, none⟩ = some (.int .i64 a0_5) ∧ w'.cell? ⟨gb178, 0, none⟩ = some (.int .i64 a1_0) ∧ w'.cell? ⟨gb178, 1, none⟩ = some (.int .i64 a1_1) ∧ w'.cell? ⟨gb178, 2, none⟩ = some (.int .i64 a1_2) ∧ w'.cell? ⟨gb178, 3, none⟩ = some (.int .i64 a1_3) ∧ w'.cell? ⟨gb178, 4, none⟩ = some (.int .i64 a1_4) ∧ w'.cell? ⟨gb178, 5, none⟩ = some (.int .i64 a1_5)) ∧ (w'.heap[gb177]? = some (.cells #[.int .i64 a0_0, .int .i64 a0_1, .int .i64 a0_2, .int .i64 a0_3, .int .i64 a0_4, .int .i64 a0_5] 25 (0, 0))) ∧ (w'.heap[gb178]? = some (.cells #[.int .i64 a1_0, .int .i64 a1_1, .int .i64 a1_2, .int .i64 a1_3, .int .i64 a1_4, .int .i64 a1_5] 25 (0, 0))) ∧ (w'.heap[s_]? = some (.cells #[.int .i64 0, .int .i64 0] 89 (0, 0))) ∧ (w.heap.size ≤ s_) ∧ (w.heap.size ≤ s_) ∧ (gb177 ≠ s_) ∧ (s_ ≠ gb177) ∧ (gb178 ≠ s_) ∧ (s_ ≠ gb178) ∧ (Below w.heap.size w w')) ?_ ?_
  rotate_left
  ·intro hJ1_3_5
   refine join_ (σ := Nat × Nat) 3 (bz 8 55) (fun s_ => [(16, .agg #[.int .i64 t181, .int .i64 t182]), (5, .pointer (some ⟨s_.1, 0, none⟩)), (6, .pointer (some ⟨s_.2, 0, none⟩))]) (fun s_ w' => (w'.cell? ⟨gb177, 0, none⟩ = some (.int .i64 a0_0) ∧ w'.cell? ⟨gb177, 1, none⟩ = some (.int .i64 a0_1) ∧ w'.cell? ⟨gb177, 2, none⟩ = some (.int .i64 a0_2) ∧ w'.cell? ⟨gb177, 3, none⟩ = some (.int .i64 a0_3) ∧ w'.cell? ⟨gb177, 4, none⟩ = some (.int .i64 a0_4) ∧ w'.cell? ⟨gb177, 5, none⟩ = some (.int .i64 a0_5) ∧ w'.cell? ⟨gb178, 0, none⟩ = some (.int .i64 a1_0) ∧ w'.cell? ⟨gb178, 1, none⟩ = some (.int .i64 a1_1) ∧ w'.cell? ⟨gb178, 2, none⟩ = some (.int .i64 a1_2) ∧ w'.cell? ⟨gb178, 3, none⟩ = some (.int .i64 a1_3) ∧ w'.cell? ⟨gb178, 4, none⟩ = some (.int .i64 a1_4) ∧ w'.cell? ⟨gb178, 5, none⟩ = some (.int .i64 a1_5)) ∧ (w'.heap[gb177]? = some (.cells #[.int .i64 a0_0, .int .i64 a0_1, .int .i64 a0_2, .int .i64 a0_3, .int .i64 a0_4, .int .i64 a0_5] 25 (0, 0))) ∧ (w'.heap[gb178]? = some (.cells #[.int .i64 a1_0, .int .i64 a1_1, .int .i64 a1_2, .int .i64 a1_3, .int .i64 a1_4, .int .i64 a1_5] 25 (0, 0))) ∧ (w'.heap[s_.1]? = some (.cells #[.int .i64 0, .int .i64 0] 89 (0, 0))) ∧ (w'.heap[s_.2]? = some (.cells #[.int .i64 0, .int .i64 0] 89 (0, 0))) ∧ (w.heap.size ≤ s_.1) ∧ (w.heap.size ≤ s_.1) ∧ (gb177 ≠ s_.1) ∧ (s_.1 ≠ gb177) ∧ (gb178 ≠ s_.1) ∧ (s_.1 ≠ gb178) ∧ (s_.2 ≠ s_.1) ∧ (s_.1 ≠ s_.2) ∧ (w.heap.size ≤ s_.2) ∧ (w.heap.size ≤ s_.2) ∧ (gb177 ≠ s_.2) ∧ (s_.2 ≠ gb177) ∧ (gb178 ≠ s_.2) ∧ (s_.2 ≠ gb178) ∧ (Below w.heap.size w w')) ?_ ?_
   rotate_left
   ·intro hJ1_4_5
    refine join_ (σ := Unit) 4 (bz 8 15) (fun s_ => [(16, .agg #[.int .i64 t181, .int .i64 t182]), (18, .agg #[.int .i64 t183, .int .i64 t184])]) (fun s_ w' => (w'.cell? ⟨gb177, 0, none⟩ = some (.int .i64 a0_0) ∧ w'.cell? ⟨gb177, 1, none⟩ = some (.int .i64 a0_1) ∧ w'.cell? ⟨gb177, 2, none⟩ = some (.int .i64 a0_2) ∧ w'.cell? ⟨gb177, 3, none⟩ = some (.int .i64 a0_3) ∧ w'.cell? ⟨gb177, 4, none⟩ = some (.int .i64 a0_4) ∧ w'.cell? ⟨gb177, 5, none⟩ = some (.int .i64 a0_5) ∧ w'.cell? ⟨gb178, 0, none⟩ = some (.int .i64 a1_0) ∧ w'.cell? ⟨gb178, 1, none⟩ = some (.int .i64 a1_1) ∧ w'.cell? ⟨gb178, 2, none⟩ = some (.int .i64 a1_2) ∧ w'.cell? ⟨gb178, 3, none⟩ = some (.int .i64 a1_3) ∧ w'.cell? ⟨gb178, 4, none⟩ = some (.int .i64 a1_4) ∧ w'.cell? ⟨gb178, 5, none⟩ = some (.int .i64 a1_5)) ∧ (w'.heap[gb177]? = some (.cells #[.int .i64 a0_0, .int .i64 a0_1, .int .i64 a0_2, .int .i64 a0_3, .int .i64 a0_4, .int .i64 a0_5] 25 (0, 0))) ∧ (w'.heap[gb178]? = some (.cells #[.int .i64 a1_0, .int .i64 a1_1, .int .i64 a1_2, .int .i64 a1_3, .int .i64 a1_4, .int .i64 a1_5] 25 (0, 0))) ∧ (Below w.heap.size w w')) ?_ ?_
    rotate_left
    ·intro hJ1_3
     refine join_ (σ := Nat) 4 (bz 8 23) (fun s_ => [(16, .agg #[.int .i64 t181, .int .i64 t182]), (5, .pointer (some ⟨s_, 0, none⟩))]) (fun s_ w' => (w'.cell? ⟨gb177, 0, none⟩ = some (.int .i64 a0_0) ∧ w'.cell? ⟨gb177, 1, none⟩ = some (.int .i64 a0_1) ∧ w'.cell? ⟨gb177, 2, none⟩ = some (.int .i64 a0_2) ∧ w'.cell? ⟨gb177, 3, none⟩ = some (.int .i64 a0_3) ∧ w'.cell? ⟨gb177, 4, none⟩ = some (.int .i64 a0_4) ∧ w'.cell? ⟨gb177, 5, none⟩ = some (.int .i64 a0_5) ∧ w'.cell? ⟨gb178, 0, none⟩ = some (.int .i64 a1_0) ∧ w'.cell? ⟨gb178, 1, none⟩ = some (.int .i64 a1_1) ∧ w'.cell? ⟨gb178, 2, none⟩ = some (.int .i64 a1_2) ∧ w'.cell? ⟨gb178, 3, none⟩ = some (.int .i64 a1_3) ∧ w'.cell? ⟨gb178, 4, none⟩ = some (.int .i64 a1_4) ∧ w'.cell? ⟨gb178, 5, none⟩ = some (.int .i64 a1_5)) ∧ (w'.heap[gb177]? = some (.cells #[.int .i64 a0_0, .int .i64 a0_1, .int .i64 a0_2, .int .i64 a0_3, .int .i64 a0_4, .int .i64 a0_5] 25 (0, 0))) ∧ (w'.heap[gb178]? = some (.cells #[.int .i64 a1_0, .int .i64 a1_1, .int .i64 a1_2, .int .i64 a1_3, .int .i64 a1_4, .int .i64 a1_5] 25 (0, 0))) ∧ (w'.heap[s_]? = some (.cells #[.int .i64 0, .int .i64 0] 89 (0, 0))) ∧ (w.heap.size ≤ s_) ∧ (w.heap.size ≤ s_) ∧ (gb177 ≠ s_) ∧ (s_ ≠ gb177) ∧ (gb178 ≠ s_) ∧ (s_ ≠ gb178) ∧ (Below w.heap.size w w')) ?_ ?_
     rotate_left
     ·intro hJ1_4
      refine join_ (σ := Nat) 4 (bz 8 39) (fun s_ => [(16, .agg #[.int .i64 t181, .int .i64 t182]), (6, .pointer (some ⟨s_, 0, none⟩))]) (fun s_ w' => (w'.cell? ⟨gb177, 0, none⟩ = some (.int .i64 a0_0) ∧ w'.cell? ⟨gb177, 1, none⟩ = some (.int .i64 a0_1) ∧ w'.cell? ⟨gb177, 2, none⟩ = some (.int .i64 a0_2) ∧ w'.cell? ⟨gb177, 3, none⟩ = some (.int .i64 a0_3) ∧ w'.cell? ⟨gb177, 4, none⟩ = some (.int .i64 a0_4) ∧ w'.cell? ⟨gb177, 5, none⟩ = some (.int .i64 a0_5) ∧ w'.cell? ⟨gb178, 0, none⟩ = some (.int .i64 a1_0) ∧ w'.cell? ⟨gb178, 1, none⟩ = some (.int .i64 a1_1) ∧ w'.cell? ⟨gb178, 2, none⟩ = some (.int .i64 a1_2) ∧ w'.cell? ⟨gb178, 3, none⟩ = some (.int .i64 a1_3) ∧ w'.cell? ⟨gb178, 4, none⟩ = some (.int .i64 a1_4) ∧ w'.cell? ⟨gb178, 5, none⟩ = some (.int .i64 a1_5)) ∧ (w'.heap[gb177]? = some (.cells #[.int .i64 a0_0, .int .i64 a0_1, .int .i64 a0_2, .int .i64 a0_3, .int .i64 a0_4, .int .i64 a0_5] 25 (0, 0))) ∧ (w'.heap[gb178]? = some (.cells #[.int .i64 a1_0, .int .i64 a1_1, .int .i64 a1_2, .int .i64 a1_3, .int .i64 a1_4, .int .i64 a1_5] 25 (0, 0))) ∧ (w'.heap[s_]? = some (.cells #[.int .i64 0, .int .i64 0] 89 (0, 0))) ∧ (w.heap.size ≤ s_) ∧ (w.heap.size ≤ s_) ∧ (gb177 ≠ s_) ∧ (s_ ≠ gb177) ∧ (gb178 ≠ s_) ∧ (s_ ≠ gb178) ∧ (Below w.heap.size w w')) ?_ ?_
      rotate_left
      ·intro hJ1_5
       refine join_ (σ := Nat × Nat) 4 (bz 8 53) (fun s_ => [(5, .pointer (some ⟨s_.1, 0, none⟩)), (6, .pointer (some ⟨s_.2, 0, none⟩))]) (fun s_ w' => (w'.cell? ⟨gb177, 0, none⟩ = some (.int .i64 a0_0) ∧ w'.cell? ⟨gb177, 1, none⟩ = some (.int .i64 a0_1) ∧ w'.cell? ⟨gb177, 2, none⟩ = some (.int .i64 a0_2) ∧ w'.cell? ⟨gb177, 3, none⟩ = some (.int .i64 a0_3) ∧ w'.cell? ⟨gb177, 4, none⟩ = some (.int .i64 a0_4) ∧ w'.cell? ⟨gb177, 5, none⟩ = some (.int .i64 a0_5) ∧ w'.cell? ⟨gb178, 0, none⟩ = some (.int .i64 a1_0) ∧ w'.cell? ⟨gb178, 1, none⟩ = some (.int .i64 a1_1) ∧ w'.cell? ⟨gb178, 2, none⟩ = some (.int .i64 a1_2) ∧ w'.cell? ⟨gb178, 3, none⟩ = some (.int .i64 a1_3) ∧ w'.cell? ⟨gb178, 4, none⟩ = some (.int .i64 a1_4) ∧ w'.cell? ⟨gb178, 5, none⟩ = some (.int .i64 a1_5)) ∧ (w'.heap[gb177]? = some (.cells #[.int .i64 a0_0, .int .i64 a0_1, .int .i64 a0_2, .int .i64 a0_3, .int .i64 a0_4, .int .i64 a0_5] 25 (0, 0))) ∧ (w'.heap[gb178]? = some (.cells #[.int .i64 a1_0, .int .i64 a1_1, .int .i64 a1_2, .int .i64 a1_3, .int .i64 a1_4, .int .i64 a1_5] 25 (0, 0))) ∧ (w'.heap[s_.1]? = some (.cells #[.int .i64 0, .int .i64 0] 89 (0, 0))) ∧ (w'.heap[s_.2]? = some (.cells #[.int .i64 0, .int .i64 0] 89 (0, 0))) ∧ (w.heap.size ≤ s_.1) ∧ (w.heap.size ≤ s_.1) ∧ (gb177 ≠ s_.1) ∧ (s_.1 ≠ gb177) ∧ (gb178 ≠ s_.1) ∧ (s_.1 ≠ gb178) ∧ (s_.2 ≠ s_.1) ∧ (s_.1 ≠ s_.2) ∧ (w.heap.size ≤ s_.2) ∧ (w.heap.size ≤ s_.2) ∧ (gb177 ≠ s_.2) ∧ (s_.2 ≠ gb177) ∧ (gb178 ≠ s_.2) ∧ (s_.2 ≠ gb178) ∧ (Below w.heap.size w w')) ?_ ?_
       rotate_left
       ·intro hJ4_5
        refine join_ (σ := Unit) 5 (bz 8 7) (fun s_ => [(16, .agg #[.int .i64 t181, .int .i64 t182])]) (fun s_ w' => (w'.cell? ⟨gb177, 0, none⟩ = some (.int .i64 a0_0) ∧ w'.cell? ⟨gb177, 1, none⟩ = some (.int .i64 a0_1) ∧ w'.cell? ⟨gb177, 2, none⟩ = some (.int .i64 a0_2) ∧ w'.cell? ⟨gb177, 3, none⟩ = some (.int .i64 a0_3) ∧ w'.cell? ⟨gb177, 4, none⟩ = some (.int .i64 a0_4) ∧ w'.cell? ⟨gb177, 5, none⟩ = some (.int .i64 a0_5) ∧ w'.cell? ⟨gb178, 0, none⟩ = some (.int .i64 a1_0) ∧ w'.cell? ⟨gb178, 1, none⟩ = some (.int .i64 a1_1) ∧ w'.cell? ⟨gb178, 2, none⟩ = some (.int .i64 a1_2) ∧ w'.cell? ⟨gb178, 3, none⟩ = some (.int .i64 a1_3) ∧ w'.cell? ⟨gb178, 4, none⟩ = some (.int .i64 a1_4) ∧ w'.cell? ⟨gb178, 5, none⟩ = some (.int .i64 a1_5)) ∧ (w'.heap[gb177]? = some (.cells #[.int .i64 a0_0, .int .i64 a0_1, .int .i64 a0_2, .int .i64 a0_3, .int .i64 a0_4, .int .i64 a0_5] 25 (0, 0))) ∧ (w'.heap[gb178]? = some (.cells #[.int .i64 a1_0, .int .i64 a1_1, .int .i64 a1_2, .int .i64 a1_3, .int .i64 a1_4, .int .i64 a1_5] 25 (0, 0))) ∧ (Below w.heap.size w w')) ?_ ?_
        rotate_left
        ·intro hJ1
         refine join_ (σ := Nat) 5 (bz 8 21) (fun s_ => [(5, .pointer (some ⟨s_, 0, none⟩))]) (fun s_ w' => (w'.cell? ⟨gb177, 0, none⟩ = some (.int .i64 a0_0) ∧ w'.cell? ⟨gb177, 1, none⟩ = some (.int .i64 a0_1) ∧ w'.cell? ⟨gb177, 2, none⟩ = some (.int .i64 a0_2) ∧ w'.cell? ⟨gb177, 3, none⟩ = some (.int .i64 a0_3) ∧ w'.cell? ⟨gb177, 4, none⟩ = some (.int .i64 a0_4) ∧ w'.cell? ⟨gb177, 5, none⟩ = some (.int .i64 a0_5) ∧ w'.cell? ⟨gb178, 0, none⟩ = some (.int .i64 a1_0) ∧ w'.cell? ⟨gb178, 1, none⟩ = some (.int .i64 a1_1) ∧ w'.cell? ⟨gb178, 2, none⟩ = some (.int .i64 a1_2) ∧ w'.cell? ⟨gb178, 3, none⟩ = some (.int .i64 a1_3) ∧ w'.cell? ⟨gb178, 4, none⟩ = some (.int .i64 a1_4) ∧ w'.cell? ⟨gb178, 5, none⟩ = some (.int .i64 a1_5)) ∧ (w'.heap[gb177]? = some (.cells #[.int .i64 a0_0, .int .i64 a0_1, .int .i64 a0_2, .int .i64 a0_3, .int .i64 a0_4, .int .i64 a0_5] 25 (0, 0))) ∧ (w'.heap[gb178]? = some (.cells #[.int .i64 a1_0, .int .i64 a1_1, .int .i64 a1_2, .int .i64 a1_3, .int .i64 a1_4, .int .i64 a1_5] 25 (0, 0))) ∧ (w'.heap[s_]? = some (.cells #[.int .i64 0, .int .i64 0] 89 (0, 0))) ∧ (w.heap.size ≤ s_) ∧ (w.heap.size ≤ s_) ∧ (gb177 ≠ s_) ∧ (s_ ≠ gb177) ∧ (gb178 ≠ s_) ∧ (s_ ≠ gb178) ∧ (Below w.heap.size w w')) ?_ ?_
         rotate_left
         ·intro hJ4
          refine join_ (σ := Nat) 5 (bz 8 37) (fun s_ => [(6, .pointer (some ⟨s_, 0, none⟩))]) (fun s_ w' => (w'.cell? ⟨gb177, 0, none⟩ = some (.int .i64 a0_0) ∧ w'.cell? ⟨gb177, 1, none⟩ = some (.int .i64 a0_1) ∧ w'.cell? ⟨gb177, 2, none⟩ = some (.int .i64 a0_2) ∧ w'.cell? ⟨gb177, 3, none⟩ = some (.int .i64 a0_3) ∧ w'.cell? ⟨gb177, 4, none⟩ = some (.int .i64 a0_4) ∧ w'.cell? ⟨gb177, 5, none⟩ = some (.int .i64 a0_5) ∧ w'.cell? ⟨gb178, 0, none⟩ = some (.int .i64 a1_0) ∧ w'.cell? ⟨gb178, 1, none⟩ = some (.int .i64 a1_1) ∧ w'.cell? ⟨gb178, 2, none⟩ = some (.int .i64 a1_2) ∧ w'.cell? ⟨gb178, 3, none⟩ = some (.int .i64 a1_3) ∧ w'.cell? ⟨gb178, 4, none⟩ = some (.int .i64 a1_4) ∧ w'.cell? ⟨gb178, 5, none⟩ = some (.int .i64 a1_5)) ∧ (w'.heap[gb177]? = some (.cells #[.int .i64 a0_0, .int .i64 a0_1, .int .i64 a0_2, .int .i64 a0_3, .int .i64 a0_4, .int .i64 a0_5] 25 (0, 0))) ∧ (w'.heap[gb178]? = some (.cells #[.int .i64 a1_0, .int .i64 a1_1, .int .i64 a1_2, .int .i64 a1_3, .int .i64 a1_4, .int .i64 a1_5] 25 (0, 0))) ∧ (w'.heap[s_]? = some (.cells #[.int .i64 0, .int .i64 0] 89 (0, 0))) ∧ (w.heap.size ≤ s_) ∧ (w.heap.size ≤ s_) ∧ (gb177 ≠ s_) ∧ (s_ ≠ gb177) ∧ (gb178 ≠ s_) ∧ (s_ ≠ gb178) ∧ (Below w.heap.size w w')) ?_ ?_
          rotate_left
          ·intro hJ5
           refine three_ (i := 1) (j := 4) (k := 5) (Ni := some 16) (Nj := some 5) (Nk := some 6) (bz 8 7) (bz 8 21) (bz 8 37) rfl rfl rfl rfl rfl rfl (three_of HT_.out (by kernel_rfl)) (by decide) (by decide) (by decide) (fun K hK => ?_) (fun K hK => ?_) (fun K hK => ?_)
           ·skip
            refine goes_ Try.func71 (by kernel_rfl) rfl #[.agg #[.int .i64 a0_0, .int .i64 a0_1, .int .i64 a0_2, .int .i64 a0_3, .int .i64 a0_4, .int .i64 a0_5]] (by rfl) rfl rfl s5_5 ?_
            with_reducible refine (impl_Ship_way.calls a0_0 a0_1 a0_2 a0_3 a0_4 a0_5 t181 t182 _ A18.out).mono ?_
            rintro e w4 ⟨rfl, hb⟩
            refine ⟨_, rfl, ?_⟩
            have n0_ := Aside0.mk (bb (zk BK177.out) hb)
            have n1_ := Aside0.mk (bb (zk BK178.out) hb)
            have n2_ := Aside0.mk (below_step s5_0 hb)
            clear BK177 BK178 HB
            have BK177 := n0_
            have BK178 := n1_
            have HB := n2_
            clear n0_ n1_ n2_
            (try clear hb)
            (try clear hb2)
            (try clear hk)
            (try clear hi)
            refine hK.out _ _ ⟨bc BK177.out 0, bc BK177.out 1, bc BK177.out 2, bc BK177.out 3, bc BK177.out 4, bc BK177.out 5, bc BK178.out 0, bc BK178.out 1, bc BK178.out 2, bc BK178.out 3, bc BK178.out 4, bc BK178.out 5⟩ (fun hHeld => ?_)
            clear hK K
            refine norm_ (a' := ?_) ?_ ?_
            rotate_left
            ·show Act.put _ (some 16) _ = _
             simp only [Act.put, y1, y2, y3, i64_w, i32_w]
             rfl
            exact norm_ s5_4 (hJ1 () _ ⟨hHeld, (zk BK177.out), (zk BK178.out), s5_0⟩)
           ·skip
            refine box_step ?hg (N := 5) ?hd (cs := #[.int .i64 0, .int .i64 0]) (t := 89) ?hr ?_; (case hd => rfl); (case hg => rfl); (case hr => first | (go_simp; done) | (go_simp; rfl))
            intro gb185 hg w4 hbox hb
            have n0_ := Aside0.mk (bb (zk BK177.out) hb)
            have n1_ := Aside0.mk (bb (zk BK178.out) hb)
            have n2_ := Aside0.mk (below_step s5_0 hb)
            have n3_ := Aside0.mk (hbox)
            have n4_ := Aside0.mk (ns hg s5_0 : w.heap.size ≤ gb185)
            have n5_ := Aside0.mk (ns hg s5_0 : w.heap.size ≤ gb185)
            have n6_ := Aside0.mk ((nlt hg (zk BK177.out) : gb177 ≠ gb185))
            have n7_ := Aside0.mk ((ngt hg (zk BK177.out) : gb185 ≠ gb177))
            have n8_ := Aside0.mk ((nlt hg (zk BK178.out) : gb178 ≠ gb185))
            have n9_ := Aside0.mk ((ngt hg (zk BK178.out) : gb185 ≠ gb178))
            clear BK177 BK178 HB
            have BK177 := n0_
            have BK178 := n1_
            have HB := n2_
            have BK185 := n3_
            have GW185 := n4_
            have GE185 := n5_
            have NB177_185 := n6_
            have NB185_177 := n7_
            have NB178_185 := n8_
            have NB185_178 := n9_
            clear n0_ n1_ n2_ n3_ n4_ n5_ n6_ n7_ n8_ n9_ hb hbox hg
            refine hK.out _ _ ⟨bc BK177.out 0, bc BK177.out 1, bc BK177.out 2, bc BK177.out 3, bc BK177.out 4, bc BK177.out 5, bc BK178.out 0, bc BK178.out 1, bc BK178.out 2, bc BK178.out 3, bc BK178.out 4, bc BK178.out 5⟩ (fun hHeld => ?_)
            clear hK K
            refine norm_ (a' := ?_) ?_ ?_
            rotate_left
            ·show Act.put _ (some 5) _ = _
             simp only [Act.put, y1, y2, y3, i64_w, i32_w]
             rfl
            exact norm_ s5_4 (hJ4 (gb185) _ ⟨hHeld, (zk BK177.out), (zk BK178.out), (zk BK185.out), GW185.out, GE185.out, NB177_185.out, NB185_177.out, NB178_185.out, NB185_178.out, s5_1⟩)
           ·skip
            refine box_step ?hg (N := 6) ?hd (cs := #[.int .i64 0, .int .i64 0]) (t := 89) ?hr ?_; (case hd => rfl); (case hg => rfl); (case hr => first | (go_simp; done) | (go_simp; rfl))
            intro gb186 hg w4 hbox hb
            have n0_ := Aside0.mk (bb (zk BK177.out) hb)
            have n1_ := Aside0.mk (bb (zk BK178.out) hb)
            have n2_ := Aside0.mk (below_step s5_0 hb)
            have n3_ := Aside0.mk (hbox)
            have n4_ := Aside0.mk (ns hg s5_0 : w.heap.size ≤ gb186)
            have n5_ := Aside0.mk (ns hg s5_0 : w.heap.size ≤ gb186)
            have n6_ := Aside0.mk ((nlt hg (zk BK177.out) : gb177 ≠ gb186))
            have n7_ := Aside0.mk ((ngt hg (zk BK177.out) : gb186 ≠ gb177))
            have n8_ := Aside0.mk ((nlt hg (zk BK178.out) : gb178 ≠ gb186))
            have n9_ := Aside0.mk ((ngt hg (zk BK178.out) : gb186 ≠ gb178))
            clear BK177 BK178 HB
            have BK177 := n0_
            have BK178 := n1_
            have HB := n2_
            have BK186 := n3_
            have GW186 := n4_
            have GE186 := n5_
            have NB177_186 := n6_
            have NB186_177 := n7_
            have NB178_186 := n8_
            have NB186_178 := n9_
            clear n0_ n1_ n2_ n3_ n4_ n5_ n6_ n7_ n8_ n9_ hb hbox hg
            refine hK.out _ _ ⟨bc BK177.out 0, bc BK177.out 1, bc BK177.out 2, bc BK177.out 3, bc BK177.out 4, bc BK177.out 5, bc BK178.out 0, bc BK178.out 1, bc BK178.out 2, bc BK178.out 3, bc BK178.out 4, bc BK178.out 5⟩ (fun hHeld => ?_)
            clear hK K
            refine norm_ (a' := ?_) ?_ ?_
            rotate_left
            ·show Act.put _ (some 6) _ = _
             simp only [Act.put, y1, y2, y3, i64_w, i32_w]
             rfl
            exact norm_ s5_4 (hJ5 (gb186) _ ⟨hHeld, (zk BK177.out), (zk BK178.out), (zk BK186.out), GW186.out, GE186.out, NB177_186.out, NB186_177.out, NB178_186.out, NB186_178.out, s5_2⟩)
          ·skip
           rintro gb186 w4 ⟨hS_, h0_, h1_, h2_, h3_, h4_, h5_, h6_, h7_, h8_, h9_⟩
           have n0_ : Aside0 (w4.heap[gb177]? = some (.cells #[.int .i64 a0_0, .int .i64 a0_1, .int .i64 a0_2, .int .i64 a0_3, .int .i64 a0_4, .int .i64 a0_5] 25 (0, 0))) := ⟨h0_⟩
           have n1_ : Aside0 (w4.heap[gb178]? = some (.cells #[.int .i64 a1_0, .int .i64 a1_1, .int .i64 a1_2, .int .i64 a1_3, .int .i64 a1_4, .int .i64 a1_5] 25 (0, 0))) := ⟨h1_⟩
           have n2_ : Aside0 (w4.heap[gb186]? = some (.cells #[.int .i64 0, .int .i64 0] 89 (0, 0))) := ⟨h2_⟩
           have n3_ : Aside0 (w.heap.size ≤ gb186) := ⟨h3_⟩
           have n4_ : Aside0 (w.heap.size ≤ gb186) := ⟨h4_⟩
           have n5_ : Aside0 (gb177 ≠ gb186) := ⟨h5_⟩
           have n6_ : Aside0 (gb186 ≠ gb177) := ⟨h6_⟩
           have n7_ : Aside0 (gb178 ≠ gb186) := ⟨h7_⟩
           have n8_ : Aside0 (gb186 ≠ gb178) := ⟨h8_⟩
           have n9_ : Aside0 (Below w.heap.size w w4) := ⟨h9_⟩
           clear BK177 BK178 HB h0_ h1_ h2_ h3_ h4_ h5_ h6_ h7_ h8_ h9_
           have BK177 := n0_
           have BK178 := n1_
           have BK186 := n2_
           have GW186 := n3_
           have GE186 := n4_
           have NB177_186 := n5_
           have NB186_177 := n6_
           have NB178_186 := n7_
           have NB186_178 := n8_
           have HB := n9_
           clear n0_ n1_ n2_ n3_ n4_ n5_ n6_ n7_ n8_ n9_
           have hHeld : w4.cell? ⟨gb177, 0, none⟩ = some (.int .i64 a0_0) ∧ w4.cell? ⟨gb177, 1, none⟩ = some (.int .i64 a0_1) ∧ w4.cell? ⟨gb177, 2, none⟩ = some (.int .i64 a0_2) ∧ w4.cell? ⟨gb177, 3, none⟩ = some (.int .i64 a0_3) ∧ w4.cell? ⟨gb177, 4, none⟩ = some (.int .i64 a0_4) ∧ w4.cell? ⟨gb177, 5, none⟩ = some (.int .i64 a0_5) ∧ w4.cell? ⟨gb178, 0, none⟩ = some (.int .i64 a1_0) ∧ w4.cell? ⟨gb178, 1, none⟩ = some (.int .i64 a1_1) ∧ w4.cell? ⟨gb178, 2, none⟩ = some (.int .i64 a1_2) ∧ w4.cell? ⟨gb178, 3, none⟩ = some (.int .i64 a1_3) ∧ w4.cell? ⟨gb178, 4, none⟩ = some (.int .i64 a1_4) ∧ w4.cell? ⟨gb178, 5, none⟩ = some (.int .i64 a1_5) := hS_
           refine norm_ (a' := ?_) ?_ ?_
           rotate_left
           ·simp only [putAll, Act.put, y1, y2, y3]
            rfl
           refine two_ (i := 1) (j := 4) (Ni := some 16) (Nj := some 5) (bz 8 39) (bz 8 53) rfl rfl rfl rfl (two_of HT_.out (by kernel_rfl)) (by decide) (by decide) (fun K hK => ?_) (fun K hK => ?_)
           ·skip
            refine goes_ Try.func71 (by kernel_rfl) rfl #[.agg #[.int .i64 a0_0, .int .i64 a0_1, .int .i64 a0_2, .int .i64 a0_3, .int .i64 a0_4, .int .i64 a0_5]] (by rfl) rfl rfl s5_5 ?_
            with_reducible refine (impl_Ship_way.calls a0_0 a0_1 a0_2 a0_3 a0_4 a0_5 t181 t182 _ A18.out).mono ?_
            rintro e w5 ⟨rfl, hb⟩
            refine ⟨_, rfl, ?_⟩
            have n0_ := Aside0.mk (bb (zk BK177.out) hb)
            have n1_ := Aside0.mk (bb (zk BK178.out) hb)
            have n2_ := Aside0.mk (bb (zk BK186.out) hb)
            have n3_ := Aside0.mk (below_step s5_2 hb)
            clear BK177 BK178 BK186 HB
            have BK177 := n0_
            have BK178 := n1_
            have BK186 := n2_
            have HB := n3_
            clear n0_ n1_ n2_ n3_
            (try clear hb)
            (try clear hb2)
            (try clear hk)
            (try clear hi)
            refine hK.out _ _ ⟨bc BK177.out 0, bc BK177.out 1, bc BK177.out 2, bc BK177.out 3, bc BK177.out 4, bc BK177.out 5, bc BK178.out 0, bc BK178.out 1, bc BK178.out 2, bc BK178.out 3, bc BK178.out 4, bc BK178.out 5⟩ (fun hHeld => ?_)
            clear hK K
            refine norm_ (a' := ?_) ?_ ?_
            rotate_left
            ·show Act.put _ (some 16) _ = _
             simp only [Act.put, y1, y2, y3, i64_w, i32_w]
             rfl
            exact norm_ s5_4 (hJ1_5 (gb186) _ ⟨hHeld, (zk BK177.out), (zk BK178.out), (zk BK186.out), GW186.out, GE186.out, NB177_186.out, NB186_177.out, NB178_186.out, NB186_178.out, s5_2⟩)
           ·skip
            refine box_step ?hg (N := 5) ?hd (cs := #[.int .i64 0, .int .i64 0]) (t := 89) ?hr ?_; (case hd => rfl); (case hg => rfl); (case hr => first | (go_simp; done) | (go_simp; rfl))
            intro gb185 hg w5 hbox hb
            have n0_ := Aside0.mk (bb (zk BK177.out) hb)
            have n1_ := Aside0.mk (bb (zk BK178.out) hb)
            have n2_ := Aside0.mk (bb (zk BK186.out) hb)
            have n3_ := Aside0.mk (below_step s5_2 hb)
            have n4_ := Aside0.mk (hbox)
            have n5_ := Aside0.mk (ns hg s5_2 : w.heap.size ≤ gb185)
            have n6_ := Aside0.mk (ns hg s5_2 : w.heap.size ≤ gb185)
            have n7_ := Aside0.mk ((nlt hg (zk BK177.out) : gb177 ≠ gb185))
            have n8_ := Aside0.mk ((ngt hg (zk BK177.out) : gb185 ≠ gb177))
            have n9_ := Aside0.mk ((nlt hg (zk BK178.out) : gb178 ≠ gb185))
            have n10_ := Aside0.mk ((ngt hg (zk BK178.out) : gb185 ≠ gb178))
            have n11_ := Aside0.mk ((nlt hg (zk BK186.out) : gb186 ≠ gb185))
            have n12_ := Aside0.mk ((ngt hg (zk BK186.out) : gb185 ≠ gb186))
            clear BK177 BK178 BK186 HB
            have BK177 := n0_
            have BK178 := n1_
            have BK186 := n2_
            have HB := n3_
            have BK185 := n4_
            have GW185 := n5_
            have GE185 := n6_
            have NB177_185 := n7_
            have NB185_177 := n8_
            have NB178_185 := n9_
            have NB185_178 := n10_
            have NB186_185 := n11_
            have NB185_186 := n12_
            clear n0_ n1_ n2_ n3_ n4_ n5_ n6_ n7_ n8_ n9_ n10_ n11_ n12_ hb hbox hg
            refine hK.out _ _ ⟨bc BK177.out 0, bc BK177.out 1, bc BK177.out 2, bc BK177.out 3, bc BK177.out 4, bc BK177.out 5, bc BK178.out 0, bc BK178.out 1, bc BK178.out 2, bc BK178.out 3, bc BK178.out 4, bc BK178.out 5⟩ (fun hHeld => ?_)
            clear hK K
            refine norm_ (a' := ?_) ?_ ?_
            rotate_left
            ·show Act.put _ (some 5) _ = _
             simp only [Act.put, y1, y2, y3, i64_w, i32_w]
             rfl
            exact norm_ s5_4 (hJ4_5 (gb185, gb186) _ ⟨hHeld, (zk BK177.out), (zk BK178.out), (zk BK185.out), (zk BK186.out), GW185.out, GE185.out, NB177_185.out, NB185_177.out, NB178_185.out, NB185_178.out, NB186_185.out, NB185_186.out, GW186.out, GE186.out, NB177_186.out, NB186_177.out, NB178_186.out, NB186_178.out, s5_6⟩)
         ·skip
          rintro gb185 w4 ⟨hS_, h0_, h1_, h2_, h3_, h4_, h5_, h6_, h7_, h8_, h9_⟩
          have n0_ : Aside0 (w4.heap[gb177]? = some (.cells #[.int .i64 a0_0, .int .i64 a0_1, .int .i64 a0_2, .int .i64 a0_3, .int .i64 a0_4, .int .i64 a0_5] 25 (0, 0))) := ⟨h0_⟩
          have n1_ : Aside0 (w4.heap[gb178]? = some (.cells #[.int .i64 a1_0, .int .i64 a1_1, .int .i64 a1_2, .int .i64 a1_3, .int .i64 a1_4, .int .i64 a1_5] 25 (0, 0))) := ⟨h1_⟩
          have n2_ : Aside0 (w4.heap[gb185]? = some (.cells #[.int .i64 0, .int .i64 0] 89 (0, 0))) := ⟨h2_⟩
          have n3_ : Aside0 (w.heap.size ≤ gb185) := ⟨h3_⟩
          have n4_ : Aside0 (w.heap.size ≤ gb185) := ⟨h4_⟩
          have n5_ : Aside0 (gb177 ≠ gb185) := ⟨h5_⟩
          have n6_ : Aside0 (gb185 ≠ gb177) := ⟨h6_⟩
          have n7_ : Aside0 (gb178 ≠ gb185) := ⟨h7_⟩
          have n8_ : Aside0 (gb185 ≠ gb178) := ⟨h8_⟩
          have n9_ : Aside0 (Below w.heap.size w w4) := ⟨h9_⟩
          clear BK177 BK178 HB h0_ h1_ h2_ h3_ h4_ h5_ h6_ h7_ h8_ h9_
          have BK177 := n0_
          have BK178 := n1_
          have BK185 := n2_
          have GW185 := n3_
          have GE185 := n4_
          have NB177_185 := n5_
          have NB185_177 := n6_
          have NB178_185 := n7_
          have NB185_178 := n8_
          have HB := n9_
          clear n0_ n1_ n2_ n3_ n4_ n5_ n6_ n7_ n8_ n9_
          have hHeld : w4.cell? ⟨gb177, 0, none⟩ = some (.int .i64 a0_0) ∧ w4.cell? ⟨gb177, 1, none⟩ = some (.int .i64 a0_1) ∧ w4.cell? ⟨gb177, 2, none⟩ = some (.int .i64 a0_2) ∧ w4.cell? ⟨gb177, 3, none⟩ = some (.int .i64 a0_3) ∧ w4.cell? ⟨gb177, 4, none⟩ = some (.int .i64 a0_4) ∧ w4.cell? ⟨gb177, 5, none⟩ = some (.int .i64 a0_5) ∧ w4.cell? ⟨gb178, 0, none⟩ = some (.int .i64 a1_0) ∧ w4.cell? ⟨gb178, 1, none⟩ = some (.int .i64 a1_1) ∧ w4.cell? ⟨gb178, 2, none⟩ = some (.int .i64 a1_2) ∧ w4.cell? ⟨gb178, 3, none⟩ = some (.int .i64 a1_3) ∧ w4.cell? ⟨gb178, 4, none⟩ = some (.int .i64 a1_4) ∧ w4.cell? ⟨gb178, 5, none⟩ = some (.int .i64 a1_5) := hS_
          refine norm_ (a' := ?_) ?_ ?_
          rotate_left
          ·simp only [putAll, Act.put, y1, y2, y3]
           rfl
          refine two_ (i := 1) (j := 5) (Ni := some 16) (Nj := some 6) (bz 8 23) (bz 8 53) rfl rfl rfl rfl (two_of HT_.out (by kernel_rfl)) (by decide) (by decide) (fun K hK => ?_) (fun K hK => ?_)
          ·skip
           refine goes_ Try.func71 (by kernel_rfl) rfl #[.agg #[.int .i64 a0_0, .int .i64 a0_1, .int .i64 a0_2, .int .i64 a0_3, .int .i64 a0_4, .int .i64 a0_5]] (by rfl) rfl rfl s5_5 ?_
           with_reducible refine (impl_Ship_way.calls a0_0 a0_1 a0_2 a0_3 a0_4 a0_5 t181 t182 _ A18.out).mono ?_
           rintro e w5 ⟨rfl, hb⟩
           refine ⟨_, rfl, ?_⟩
           have n0_ := Aside0.mk (bb (zk BK177.out) hb)
           have n1_ := Aside0.mk (bb (zk BK178.out) hb)
           have n2_ := Aside0.mk (bb (zk BK185.out) hb)
           have n3_ := Aside0.mk (below_step s5_1 hb)
           clear BK177 BK178 BK185 HB
           have BK177 := n0_
           have BK178 := n1_
           have BK185 := n2_
           have HB := n3_
           clear n0_ n1_ n2_ n3_
           (try clear hb)
           (try clear hb2)
           (try clear hk)
           (try clear hi)
           refine hK.out _ _ ⟨bc BK177.out 0, bc BK177.out 1, bc BK177.out 2, bc BK177.out 3, bc BK177.out 4, bc BK177.out 5, bc BK178.out 0, bc BK178.out 1, bc BK178.out 2, bc BK178.out 3, bc BK178.out 4, bc BK178.out 5⟩ (fun hHeld => ?_)
           clear hK K
           refine norm_ (a' := ?_) ?_ ?_
           rotate_left
           ·show Act.put _ (some 16) _ = _
            simp only [Act.put, y1, y2, y3, i64_w, i32_w]
            rfl
           exact norm_ s5_4 (hJ1_4 (gb185) _ ⟨hHeld, (zk BK177.out), (zk BK178.out), (zk BK185.out), GW185.out, GE185.out, NB177_185.out, NB185_177.out, NB178_185.out, NB185_178.out, s5_1⟩)
          ·skip
           refine box_step ?hg (N := 6) ?hd (cs := #[.int .i64 0, .int .i64 0]) (t := 89) ?hr ?_; (case hd => rfl); (case hg => rfl); (case hr => first | (go_simp; done) | (go_simp; rfl))
           intro gb186 hg w5 hbox hb
           have n0_ := Aside0.mk (bb (zk BK177.out) hb)
           have n1_ := Aside0.mk (bb (zk BK178.out) hb)
           have n2_ := Aside0.mk (bb (zk BK185.out) hb)
           have n3_ := Aside0.mk (below_step s5_1 hb)
           have n4_ := Aside0.mk (hbox)
           have n5_ := Aside0.mk (ns hg s5_1 : w.heap.size ≤ gb186)
           have n6_ := Aside0.mk (ns hg s5_1 : w.heap.size ≤ gb186)
           have n7_ := Aside0.mk ((nlt hg (zk BK177.out) : gb177 ≠ gb186))
           have n8_ := Aside0.mk ((ngt hg (zk BK177.out) : gb186 ≠ gb177))
           have n9_ := Aside0.mk ((nlt hg (zk BK178.out) : gb178 ≠ gb186))
           have n10_ := Aside0.mk ((ngt hg (zk BK178.out) : gb186 ≠ gb178))
           have n11_ := Aside0.mk ((nlt hg (zk BK185.out) : gb185 ≠ gb186))
           have n12_ := Aside0.mk ((ngt hg (zk BK185.out) : gb186 ≠ gb185))
           clear BK177 BK178 BK185 HB
           have BK177 := n0_
           have BK178 := n1_
           have BK185 := n2_
           have HB := n3_
           have BK186 := n4_
           have GW186 := n5_
           have GE186 := n6_
           have NB177_186 := n7_
           have NB186_177 := n8_
           have NB178_186 := n9_
           have NB186_178 := n10_
           have NB185_186 := n11_
           have NB186_185 := n12_
           clear n0_ n1_ n2_ n3_ n4_ n5_ n6_ n7_ n8_ n9_ n10_ n11_ n12_ hb hbox hg
           refine hK.out _ _ ⟨bc BK177.out 0, bc BK177.out 1, bc BK177.out 2, bc BK177.out 3, bc BK177.out 4, bc BK177.out 5, bc BK178.out 0, bc BK178.out 1, bc BK178.out 2, bc BK178.out 3, bc BK178.out 4, bc BK178.out 5⟩ (fun hHeld => ?_)
           clear hK K
           refine norm_ (a' := ?_) ?_ ?_
           rotate_left
           ·show Act.put _ (some 6) _ = _
            simp only [Act.put, y1, y2, y3, i64_w, i32_w]
            rfl
           exact norm_ s5_4 (hJ4_5 (gb185, gb186) _ ⟨hHeld, (zk BK177.out), (zk BK178.out), (zk BK185.out), (zk BK186.out), GW185.out, GE185.out, NB177_185.out, NB185_177.out, NB178_185.out, NB185_178.out, NB186_185.out, NB185_186.out, GW186.out, GE186.out, NB177_186.out, NB186_177.out, NB178_186.out, NB186_178.out, s5_3⟩)
        ·skip
         rintro _ w4 ⟨hS_, h0_, h1_, h2_⟩
         have n0_ : Aside0 (w4.heap[gb177]? = some (.cells #[.int .i64 a0_0, .int .i64 a0_1, .int .i64 a0_2, .int .i64 a0_3, .int .i64 a0_4, .int .i64 a0_5] 25 (0, 0))) := ⟨h0_⟩
         have n1_ : Aside0 (w4.heap[gb178]? = some (.cells #[.int .i64 a1_0, .int .i64 a1_1, .int .i64 a1_2, .int .i64 a1_3, .int .i64 a1_4, .int .i64 a1_5] 25 (0, 0))) := ⟨h1_⟩
         have n2_ : Aside0 (Below w.heap.size w w4) := ⟨h2_⟩
         clear BK177 BK178 HB h0_ h1_ h2_
         have BK177 := n0_
         have BK178 := n1_
         have HB := n2_
         clear n0_ n1_ n2_
         have hHeld : w4.cell? ⟨gb177, 0, none⟩ = some (.int .i64 a0_0) ∧ w4.cell? ⟨gb177, 1, none⟩ = some (.int .i64 a0_1) ∧ w4.cell? ⟨gb177, 2, none⟩ = some (.int .i64 a0_2) ∧ w4.cell? ⟨gb177, 3, none⟩ = some (.int .i64 a0_3) ∧ w4.cell? ⟨gb177, 4, none⟩ = some (.int .i64 a0_4) ∧ w4.cell? ⟨gb177, 5, none⟩ = some (.int .i64 a0_5) ∧ w4.cell? ⟨gb178, 0, none⟩ = some (.int .i64 a1_0) ∧ w4.cell? ⟨gb178, 1, none⟩ = some (.int .i64 a1_1) ∧ w4.cell? ⟨gb178, 2, none⟩ = some (.int .i64 a1_2) ∧ w4.cell? ⟨gb178, 3, none⟩ = some (.int .i64 a1_3) ∧ w4.cell? ⟨gb178, 4, none⟩ = some (.int .i64 a1_4) ∧ w4.cell? ⟨gb178, 5, none⟩ = some (.int .i64 a1_5) := hS_
         refine norm_ (a' := ?_) ?_ ?_
         rotate_left
         ·simp only [putAll, Act.put, y1, y2, y3]
          rfl
         refine three_ (i := 3) (j := 4) (k := 5) (Ni := some 18) (Nj := some 5) (Nk := some 6) (bz 8 15) (bz 8 23) (bz 8 39) rfl rfl rfl rfl rfl rfl (three_of HT_.out (by kernel_rfl)) (by decide) (by decide) (by decide) (fun K hK => ?_) (fun K hK => ?_) (fun K hK => ?_)
         ·skip
          refine goes_ Try.func71 (by kernel_rfl) rfl #[.agg #[.int .i64 a1_0, .int .i64 a1_1, .int .i64 a1_2, .int .i64 a1_3, .int .i64 a1_4, .int .i64 a1_5]] (by rfl) rfl rfl s5_5 ?_
          with_reducible refine (impl_Ship_way.calls a1_0 a1_1 a1_2 a1_3 a1_4 a1_5 t183 t184 _ A19.out).mono ?_
          rintro e w5 ⟨rfl, hb⟩
          refine ⟨_, rfl, ?_⟩
          have n0_ := Aside0.mk (bb (zk BK177.out) hb)
          have n1_ := Aside0.mk (bb (zk BK178.out) hb)
          have n2_ := Aside0.mk (below_step s5_0 hb)
          clear BK177 BK178 HB
          have BK177 := n0_
          have BK178 := n1_
          have HB := n2_
          clear n0_ n1_ n2_
          (try clear hb)
          (try clear hb2)
          (try clear hk)
          (try clear hi)
          refine hK.out _ _ ⟨bc BK177.out 0, bc BK177.out 1, bc BK177.out 2, bc BK177.out 3, bc BK177.out 4, bc BK177.out 5, bc BK178.out 0, bc BK178.out 1, bc BK178.out 2, bc BK178.out 3, bc BK178.out 4, bc BK178.out 5⟩ (fun hHeld => ?_)
          clear hK K
          refine norm_ (a' := ?_) ?_ ?_
          rotate_left
          ·show Act.put _ (some 18) _ = _
           simp only [Act.put, y1, y2, y3, i64_w, i32_w]
           rfl
          exact norm_ s5_4 (hJ1_3 () _ ⟨hHeld, (zk BK177.out), (zk BK178.out), s5_0⟩)
         ·skip
          refine box_step ?hg (N := 5) ?hd (cs := #[.int .i64 0, .int .i64 0]) (t := 89) ?hr ?_; (case hd => rfl); (case hg => rfl); (case hr => first | (go_simp; done) | (go_simp; rfl))
          intro gb185 hg w5 hbox hb
          have n0_ := Aside0.mk (bb (zk BK177.out) hb)
          have n1_ := Aside0.mk (bb (zk BK178.out) hb)
          have n2_ := Aside0.mk (below_step s5_0 hb)
          have n3_ := Aside0.mk (hbox)
          have n4_ := Aside0.mk (ns hg s5_0 : w.heap.size ≤ gb185)
          have n5_ := Aside0.mk (ns hg s5_0 : w.heap.size ≤ gb185)
          have n6_ := Aside0.mk ((nlt hg (zk BK177.out) : gb177 ≠ gb185))
          have n7_ := Aside0.mk ((ngt hg (zk BK177.out) : gb185 ≠ gb177))
          have n8_ := Aside0.mk ((nlt hg (zk BK178.out) : gb178 ≠ gb185))
          have n9_ := Aside0.mk ((ngt hg (zk BK178.out) : gb185 ≠ gb178))
          clear BK177 BK178 HB
          have BK177 := n0_
          have BK178 := n1_
          have HB := n2_
          have BK185 := n3_
          have GW185 := n4_
          have GE185 := n5_
          have NB177_185 := n6_
          have NB185_177 := n7_
          have NB178_185 := n8_
          have NB185_178 := n9_
          clear n0_ n1_ n2_ n3_ n4_ n5_ n6_ n7_ n8_ n9_ hb hbox hg
          refine hK.out _ _ ⟨bc BK177.out 0, bc BK177.out 1, bc BK177.out 2, bc BK177.out 3, bc BK177.out 4, bc BK177.out 5, bc BK178.out 0, bc BK178.out 1, bc BK178.out 2, bc BK178.out 3, bc BK178.out 4, bc BK178.out 5⟩ (fun hHeld => ?_)
          clear hK K
          refine norm_ (a' := ?_) ?_ ?_
          rotate_left
          ·show Act.put _ (some 5) _ = _
           simp only [Act.put, y1, y2, y3, i64_w, i32_w]
           rfl
          exact norm_ s5_4 (hJ1_4 (gb185) _ ⟨hHeld, (zk BK177.out), (zk BK178.out), (zk BK185.out), GW185.out, GE185.out, NB177_185.out, NB185_177.out, NB178_185.out, NB185_178.out, s5_1⟩)
         ·skip
          refine box_step ?hg (N := 6) ?hd (cs := #[.int .i64 0, .int .i64 0]) (t := 89) ?hr ?_; (case hd => rfl); (case hg => rfl); (case hr => first | (go_simp; done) | (go_simp; rfl))
          intro gb186 hg w5 hbox hb
          have n0_ := Aside0.mk (bb (zk BK177.out) hb)
          have n1_ := Aside0.mk (bb (zk BK178.out) hb)
          have n2_ := Aside0.mk (below_step s5_0 hb)
          have n3_ := Aside0.mk (hbox)
          have n4_ := Aside0.mk (ns hg s5_0 : w.heap.size ≤ gb186)
          have n5_ := Aside0.mk (ns hg s5_0 : w.heap.size ≤ gb186)
          have n6_ := Aside0.mk ((nlt hg (zk BK177.out) : gb177 ≠ gb186))
          have n7_ := Aside0.mk ((ngt hg (zk BK177.out) : gb186 ≠ gb177))
          have n8_ := Aside0.mk ((nlt hg (zk BK178.out) : gb178 ≠ gb186))
          have n9_ := Aside0.mk ((ngt hg (zk BK178.out) : gb186 ≠ gb178))
          clear BK177 BK178 HB
          have BK177 := n0_
          have BK178 := n1_
          have HB := n2_
          have BK186 := n3_
          have GW186 := n4_
          have GE186 := n5_
          have NB177_186 := n6_
          have NB186_177 := n7_
          have NB178_186 := n8_
          have NB186_178 := n9_
          clear n0_ n1_ n2_ n3_ n4_ n5_ n6_ n7_ n8_ n9_ hb hbox hg
          refine hK.out _ _ ⟨bc BK177.out 0, bc BK177.out 1, bc BK177.out 2, bc BK177.out 3, bc BK177.out 4, bc BK177.out 5, bc BK178.out 0, bc BK178.out 1, bc BK178.out 2, bc BK178.out 3, bc BK178.out 4, bc BK178.out 5⟩ (fun hHeld => ?_)
          clear hK K
          refine norm_ (a' := ?_) ?_ ?_
          rotate_left
          ·show Act.put _ (some 6) _ = _
           simp only [Act.put, y1, y2, y3, i64_w, i32_w]
           rfl
          exact norm_ s5_4 (hJ1_5 (gb186) _ ⟨hHeld, (zk BK177.out), (zk BK178.out), (zk BK186.out), GW186.out, GE186.out, NB177_186.out, NB186_177.out, NB178_186.out, NB186_178.out, s5_2⟩)
       ·skip
        rintro ⟨gb185, gb186⟩ w4 ⟨hS_, h0_, h1_, h2_, h3_, h4_, h5_, h6_, h7_, h8_, h9_, h10_, h11_, h12_, h13_, h14_, h15_, h16_, h17_, h18_⟩
        have n0_ : Aside0 (w4.heap[gb177]? = some (.cells #[.int .i64 a0_0, .int .i64 a0_1, .int .i64 a0_2, .int .i64 a0_3, .int .i64 a0_4, .int .i64 a0_5] 25 (0, 0))) := ⟨h0_⟩
        have n1_ : Aside0 (w4.heap[gb178]? = some (.cells #[.int .i64 a1_0, .int .i64 a1_1, .int .i64 a1_2, .int .i64 a1_3, .int .i64 a1_4, .int .i64 a1_5] 25 (0, 0))) := ⟨h1_⟩
        have n2_ : Aside0 (w4.heap[gb185]? = some (.cells #[.int .i64 0, .int .i64 0] 89 (0, 0))) := ⟨h2_⟩
        have n3_ : Aside0 (w4.heap[gb186]? = some (.cells #[.int .i64 0, .int .i64 0] 89 (0, 0))) := ⟨h3_⟩
        have n4_ : Aside0 (w.heap.size ≤ gb185) := ⟨h4_⟩
        have n5_ : Aside0 (w.heap.size ≤ gb185) := ⟨h5_⟩
        have n6_ : Aside0 (gb177 ≠ gb185) := ⟨h6_⟩
        have n7_ : Aside0 (gb185 ≠ gb177) := ⟨h7_⟩
        have n8_ : Aside0 (gb178 ≠ gb185) := ⟨h8_⟩
        have n9_ : Aside0 (gb185 ≠ gb178) := ⟨h9_⟩
        have n10_ : Aside0 (gb186 ≠ gb185) := ⟨h10_⟩
        have n11_ : Aside0 (gb185 ≠ gb186) := ⟨h11_⟩
        have n12_ : Aside0 (w.heap.size ≤ gb186) := ⟨h12_⟩
        have n13_ : Aside0 (w.heap.size ≤ gb186) := ⟨h13_⟩
        have n14_ : Aside0 (gb177 ≠ gb186) := ⟨h14_⟩
        have n15_ : Aside0 (gb186 ≠ gb177) := ⟨h15_⟩
        have n16_ : Aside0 (gb178 ≠ gb186) := ⟨h16_⟩
        have n17_ : Aside0 (gb186 ≠ gb178) := ⟨h17_⟩
        have n18_ : Aside0 (Below w.heap.size w w4) := ⟨h18_⟩
        clear BK177 BK178 HB h0_ h1_ h2_ h3_ h4_ h5_ h6_ h7_ h8_ h9_ h10_ h11_ h12_ h13_ h14_ h15_ h16_ h17_ h18_
        have BK177 := n0_
        have BK178 := n1_
        have BK185 := n2_
        have BK186 := n3_
        have GW185 := n4_
        have GE185 := n5_
        have NB177_185 := n6_
        have NB185_177 := n7_
        have NB178_185 := n8_
        have NB185_178 := n9_
        have NB186_185 := n10_
        have NB185_186 := n11_
        have GW186 := n12_
        have GE186 := n13_
        have NB177_186 := n14_
        have NB186_177 := n15_
        have NB178_186 := n16_
        have NB186_178 := n17_
        have HB := n18_
        clear n0_ n1_ n2_ n3_ n4_ n5_ n6_ n7_ n8_ n9_ n10_ n11_ n12_ n13_ n14_ n15_ n16_ n17_ n18_
        have hHeld : w4.cell? ⟨gb177, 0, none⟩ = some (.int .i64 a0_0) ∧ w4.cell? ⟨gb177, 1, none⟩ = some (.int .i64 a0_1) ∧ w4.cell? ⟨gb177, 2, none⟩ = some (.int .i64 a0_2) ∧ w4.cell? ⟨gb177, 3, none⟩ = some (.int .i64 a0_3) ∧ w4.cell? ⟨gb177, 4, none⟩ = some (.int .i64 a0_4) ∧ w4.cell? ⟨gb177, 5, none⟩ = some (.int .i64 a0_5) ∧ w4.cell? ⟨gb178, 0, none⟩ = some (.int .i64 a1_0) ∧ w4.cell? ⟨gb178, 1, none⟩ = some (.int .i64 a1_1) ∧ w4.cell? ⟨gb178, 2, none⟩ = some (.int .i64 a1_2) ∧ w4.cell? ⟨gb178, 3, none⟩ = some (.int .i64 a1_3) ∧ w4.cell? ⟨gb178, 4, none⟩ = some (.int .i64 a1_4) ∧ w4.cell? ⟨gb178, 5, none⟩ = some (.int .i64 a1_5) := hS_
        refine norm_ (a' := ?_) ?_ ?_
        rotate_left
        ·simp only [putAll, Act.put, y1, y2, y3]
         rfl
        refine one_ (i := 1) (N := some 16) (bz 8 55) rfl rfl (one_of HT_.out (by kernel_rfl)) (by decide) (fun K hK => ?_)
        refine goes_ Try.func71 (by kernel_rfl) rfl #[.agg #[.int .i64 a0_0, .int .i64 a0_1, .int .i64 a0_2, .int .i64 a0_3, .int .i64 a0_4, .int .i64 a0_5]] (by rfl) rfl rfl s5_5 ?_
        with_reducible refine (impl_Ship_way.calls a0_0 a0_1 a0_2 a0_3 a0_4 a0_5 t181 t182 _ A18.out).mono ?_
        rintro e w5 ⟨rfl, hb⟩
        refine ⟨_, rfl, ?_⟩
        have n0_ := Aside0.mk (bb (zk BK177.out) hb)
        have n1_ := Aside0.mk (bb (zk BK178.out) hb)
        have n2_ := Aside0.mk (bb (zk BK185.out) hb)
        have n3_ := Aside0.mk (bb (zk BK186.out) hb)
        have n4_ := Aside0.mk (below_step s5_3 hb)
        clear BK177 BK178 BK185 BK186 HB
        have BK177 := n0_
        have BK178 := n1_
        have BK185 := n2_
        have BK186 := n3_
        have HB := n4_
        clear n0_ n1_ n2_ n3_ n4_
        (try clear hb)
        (try clear hb2)
        (try clear hk)
        (try clear hi)
        refine hK.out _ _ ⟨bc BK177.out 0, bc BK177.out 1, bc BK177.out 2, bc BK177.out 3, bc BK177.out 4, bc BK177.out 5, bc BK178.out 0, bc BK178.out 1, bc BK178.out 2, bc BK178.out 3, bc BK178.out 4, bc BK178.out 5⟩ (fun hHeld => ?_)
        clear hK K
        refine norm_ (a' := ?_) ?_ ?_
        rotate_left
        ·show Act.put _ (some 16) _ = _
         simp only [Act.put, y1, y2, y3, i64_w, i32_w]
         rfl
        exact norm_ s5_4 (hJ1_4_5 (gb185, gb186) _ ⟨hHeld, (zk BK177.out), (zk BK178.out), (zk BK185.out), (zk BK186.out), GW185.out, GE185.out, NB177_185.out, NB185_177.out, NB178_185.out, NB185_178.out, NB186_185.out, NB185_186.out, GW186.out, GE186.out, NB177_186.out, NB186_177.out, NB178_186.out, NB186_178.out, s5_3⟩)
      ·skip
       rintro gb186 w4 ⟨hS_, h0_, h1_, h2_, h3_, h4_, h5_, h6_, h7_, h8_, h9_⟩
       have n0_ : Aside0 (w4.heap[gb177]? = some (.cells #[.int .i64 a0_0, .int .i64 a0_1, .int .i64 a0_2, .int .i64 a0_3, .int .i64 a0_4, .int .i64 a0_5] 25 (0, 0))) := ⟨h0_⟩
       have n1_ : Aside0 (w4.heap[gb178]? = some (.cells #[.int .i64 a1_0, .int .i64 a1_1, .int .i64 a1_2, .int .i64 a1_3, .int .i64 a1_4, .int .i64 a1_5] 25 (0, 0))) := ⟨h1_⟩
       have n2_ : Aside0 (w4.heap[gb186]? = some (.cells #[.int .i64 0, .int .i64 0] 89 (0, 0))) := ⟨h2_⟩
       have n3_ : Aside0 (w.heap.size ≤ gb186) := ⟨h3_⟩
       have n4_ : Aside0 (w.heap.size ≤ gb186) := ⟨h4_⟩
       have n5_ : Aside0 (gb177 ≠ gb186) := ⟨h5_⟩
       have n6_ : Aside0 (gb186 ≠ gb177) := ⟨h6_⟩
       have n7_ : Aside0 (gb178 ≠ gb186) := ⟨h7_⟩
       have n8_ : Aside0 (gb186 ≠ gb178) := ⟨h8_⟩
       have n9_ : Aside0 (Below w.heap.size w w4) := ⟨h9_⟩
       clear BK177 BK178 HB h0_ h1_ h2_ h3_ h4_ h5_ h6_ h7_ h8_ h9_
       have BK177 := n0_
       have BK178 := n1_
       have BK186 := n2_
       have GW186 := n3_
       have GE186 := n4_
       have NB177_186 := n5_
       have NB186_177 := n6_
       have NB178_186 := n7_
       have NB186_178 := n8_
       have HB := n9_
       clear n0_ n1_ n2_ n3_ n4_ n5_ n6_ n7_ n8_ n9_
       have hHeld : w4.cell? ⟨gb177, 0, none⟩ = some (.int .i64 a0_0) ∧ w4.cell? ⟨gb177, 1, none⟩ = some (.int .i64 a0_1) ∧ w4.cell? ⟨gb177, 2, none⟩ = some (.int .i64 a0_2) ∧ w4.cell? ⟨gb177, 3, none⟩ = some (.int .i64 a0_3) ∧ w4.cell? ⟨gb177, 4, none⟩ = some (.int .i64 a0_4) ∧ w4.cell? ⟨gb177, 5, none⟩ = some (.int .i64 a0_5) ∧ w4.cell? ⟨gb178, 0, none⟩ = some (.int .i64 a1_0) ∧ w4.cell? ⟨gb178, 1, none⟩ = some (.int .i64 a1_1) ∧ w4.cell? ⟨gb178, 2, none⟩ = some (.int .i64 a1_2) ∧ w4.cell? ⟨gb178, 3, none⟩ = some (.int .i64 a1_3) ∧ w4.cell? ⟨gb178, 4, none⟩ = some (.int .i64 a1_4) ∧ w4.cell? ⟨gb178, 5, none⟩ = some (.int .i64 a1_5) := hS_
       refine norm_ (a' := ?_) ?_ ?_
       rotate_left
       ·simp only [putAll, Act.put, y1, y2, y3]
        rfl
       refine two_ (i := 3) (j := 4) (Ni := some 18) (Nj := some 5) (bz 8 47) (bz 8 55) rfl rfl rfl rfl (two_of HT_.out (by kernel_rfl)) (by decide) (by decide) (fun K hK => ?_) (fun K hK => ?_)
       ·skip
        refine goes_ Try.func71 (by kernel_rfl) rfl #[.agg #[.int .i64 a1_0, .int .i64 a1_1, .int .i64 a1_2, .int .i64 a1_3, .int .i64 a1_4, .int .i64 a1_5]] (by rfl) rfl rfl s5_5 ?_
        with_reducible refine (impl_Ship_way.calls a1_0 a1_1 a1_2 a1_3 a1_4 a1_5 t183 t184 _ A19.out).mono ?_
        rintro e w5 ⟨rfl, hb⟩
        refine ⟨_, rfl, ?_⟩
        have n0_ := Aside0.mk (bb (zk BK177.out) hb)
        have n1_ := Aside0.mk (bb (zk BK178.out) hb)
        have n2_ := Aside0.mk (bb (zk BK186.out) hb)
        have n3_ := Aside0.mk (below_step s5_2 hb)
        clear BK177 BK178 BK186 HB
        have BK177 := n0_
        have BK178 := n1_
        have BK186 := n2_
        have HB := n3_
        clear n0_ n1_ n2_ n3_
        (try clear hb)
        (try clear hb2)
        (try clear hk)
        (try clear hi)
        refine hK.out _ _ ⟨bc BK177.out 0, bc BK177.out 1, bc BK177.out 2, bc BK177.out 3, bc BK177.out 4, bc BK177.out 5, bc BK178.out 0, bc BK178.out 1, bc BK178.out 2, bc BK178.out 3, bc BK178.out 4, bc BK178.out 5⟩ (fun hHeld => ?_)
        clear hK K
        refine norm_ (a' := ?_) ?_ ?_
        rotate_left
        ·show Act.put _ (some 18) _ = _
         simp only [Act.put, y1, y2, y3, i64_w, i32_w]
         rfl
        exact norm_ s5_4 (hJ1_3_5 (gb186) _ ⟨hHeld, (zk BK177.out), (zk BK178.out), (zk BK186.out), GW186.out, GE186.out, NB177_186.out, NB186_177.out, NB178_186.out, NB186_178.out, s5_2⟩)
       ·skip
        refine box_step ?hg (N := 5) ?hd (cs := #[.int .i64 0, .int .i64 0]) (t := 89) ?hr ?_; (case hd => rfl); (case hg => rfl); (case hr => first | (go_simp; done) | (go_simp; rfl))
        intro gb185 hg w5 hbox hb
        have n0_ := Aside0.mk (bb (zk BK177.out) hb)
        have n1_ := Aside0.mk (bb (zk BK178.out) hb)
        have n2_ := Aside0.mk (bb (zk BK186.out) hb)
        have n3_ := Aside0.mk (below_step s5_2 hb)
        have n4_ := Aside0.mk (hbox)
        have n5_ := Aside0.mk (ns hg s5_2 : w.heap.size ≤ gb185)
        have n6_ := Aside0.mk (ns hg s5_2 : w.heap.size ≤ gb185)
        have n7_ := Aside0.mk ((nlt hg (zk BK177.out) : gb177 ≠ gb185))
        have n8_ := Aside0.mk ((ngt hg (zk BK177.out) : gb185 ≠ gb177))
        have n9_ := Aside0.mk ((nlt hg (zk BK178.out) : gb178 ≠ gb185))
        have n10_ := Aside0.mk ((ngt hg (zk BK178.out) : gb185 ≠ gb178))
        have n11_ := Aside0.mk ((nlt hg (zk BK186.out) : gb186 ≠ gb185))
        have n12_ := Aside0.mk ((ngt hg (zk BK186.out) : gb185 ≠ gb186))
        clear BK177 BK178 BK186 HB
        have BK177 := n0_
        have BK178 := n1_
        have BK186 := n2_
        have HB := n3_
        have BK185 := n4_
        have GW185 := n5_
        have GE185 := n6_
        have NB177_185 := n7_
        have NB185_177 := n8_
        have NB178_185 := n9_
        have NB185_178 := n10_
        have NB186_185 := n11_
        have NB185_186 := n12_
        clear n0_ n1_ n2_ n3_ n4_ n5_ n6_ n7_ n8_ n9_ n10_ n11_ n12_ hb hbox hg
        refine hK.out _ _ ⟨bc BK177.out 0, bc BK177.out 1, bc BK177.out 2, bc BK177.out 3, bc BK177.out 4, bc BK177.out 5, bc BK178.out 0, bc BK178.out 1, bc BK178.out 2, bc BK178.out 3, bc BK178.out 4, bc BK178.out 5⟩ (fun hHeld => ?_)
        clear hK K
        refine norm_ (a' := ?_) ?_ ?_
        rotate_left
        ·show Act.put _ (some 5) _ = _
         simp only [Act.put, y1, y2, y3, i64_w, i32_w]
         rfl
        exact norm_ s5_4 (hJ1_4_5 (gb185, gb186) _ ⟨hHeld, (zk BK177.out), (zk BK178.out), (zk BK185.out), (zk BK186.out), GW185.out, GE185.out, NB177_185.out, NB185_177.out, NB178_185.out, NB185_178.out, NB186_185.out, NB185_186.out, GW186.out, GE186.out, NB177_186.out, NB186_177.out, NB178_186.out, NB186_178.out, s5_6⟩)
     ·skip
      rintro gb185 w4 ⟨hS_, h0_, h1_, h2_, h3_, h4_, h5_, h6_, h7_, h8_, h9_⟩
      have n0_ : Aside0 (w4.heap[gb177]? = some (.cells #[.int .i64 a0_0, .int .i64 a0_1, .int .i64 a0_2, .int .i64 a0_3, .int .i64 a0_4, .int .i64 a0_5] 25 (0, 0))) := ⟨h0_⟩
      have n1_ : Aside0 (w4.heap[gb178]? = some (.cells #[.int .i64 a1_0, .int .i64 a1_1, .int .i64 a1_2, .int .i64 a1_3, .int .i64 a1_4, .int .i64 a1_5] 25 (0, 0))) := ⟨h1_⟩
      have n2_ : Aside0 (w4.heap[gb185]? = some (.cells #[.int .i64 0, .int .i64 0] 89 (0, 0))) := ⟨h2_⟩
      have n3_ : Aside0 (w.heap.size ≤ gb185) := ⟨h3_⟩
      have n4_ : Aside0 (w.heap.size ≤ gb185) := ⟨h4_⟩
      have n5_ : Aside0 (gb177 ≠ gb185) := ⟨h5_⟩
      have n6_ : Aside0 (gb185 ≠ gb177) := ⟨h6_⟩
      have n7_ : Aside0 (gb178 ≠ gb185) := ⟨h7_⟩
      have n8_ : Aside0 (gb185 ≠ gb178) := ⟨h8_⟩
      have n9_ : Aside0 (Below w.heap.size w w4) := ⟨h9_⟩
      clear BK177 BK178 HB h0_ h1_ h2_ h3_ h4_ h5_ h6_ h7_ h8_ h9_
      have BK177 := n0_
      have BK178 := n1_
      have BK185 := n2_
      have GW185 := n3_
      have GE185 := n4_
      have NB177_185 := n5_
      have NB185_177 := n6_
      have NB178_185 := n7_
      have NB185_178 := n8_
      have HB := n9_
      clear n0_ n1_ n2_ n3_ n4_ n5_ n6_ n7_ n8_ n9_
      have hHeld : w4.cell? ⟨gb177, 0, none⟩ = some (.int .i64 a0_0) ∧ w4.cell? ⟨gb177, 1, none⟩ = some (.int .i64 a0_1) ∧ w4.cell? ⟨gb177, 2, none⟩ = some (.int .i64 a0_2) ∧ w4.cell? ⟨gb177, 3, none⟩ = some (.int .i64 a0_3) ∧ w4.cell? ⟨gb177, 4, none⟩ = some (.int .i64 a0_4) ∧ w4.cell? ⟨gb177, 5, none⟩ = some (.int .i64 a0_5) ∧ w4.cell? ⟨gb178, 0, none⟩ = some (.int .i64 a1_0) ∧ w4.cell? ⟨gb178, 1, none⟩ = some (.int .i64 a1_1) ∧ w4.cell? ⟨gb178, 2, none⟩ = some (.int .i64 a1_2) ∧ w4.cell? ⟨gb178, 3, none⟩ = some (.int .i64 a1_3) ∧ w4.cell? ⟨gb178, 4, none⟩ = some (.int .i64 a1_4) ∧ w4.cell? ⟨gb178, 5, none⟩ = some (.int .i64 a1_5) := hS_
      refine norm_ (a' := ?_) ?_ ?_
      rotate_left
      ·simp only [putAll, Act.put, y1, y2, y3]
       rfl
      refine two_ (i := 3) (j := 5) (Ni := some 18) (Nj := some 6) (bz 8 31) (bz 8 55) rfl rfl rfl rfl (two_of HT_.out (by kernel_rfl)) (by decide) (by decide) (fun K hK => ?_) (fun K hK => ?_)
      ·skip
       refine goes_ Try.func71 (by kernel_rfl) rfl #[.agg #[.int .i64 a1_0, .int .i64 a1_1, .int .i64 a1_2, .int .i64 a1_3, .int .i64 a1_4, .int .i64 a1_5]] (by rfl) rfl rfl s5_5 ?_
       with_reducible refine (impl_Ship_way.calls a1_0 a1_1 a1_2 a1_3 a1_4 a1_5 t183 t184 _ A19.out).mono ?_
       rintro e w5 ⟨rfl, hb⟩
       refine ⟨_, rfl, ?_⟩
       have n0_ := Aside0.mk (bb (zk BK177.out) hb)
       have n1_ := Aside0.mk (bb (zk BK178.out) hb)
       have n2_ := Aside0.mk (bb (zk BK185.out) hb)
       have n3_ := Aside0.mk (below_step s5_1 hb)
       clear BK177 BK178 BK185 HB
       have BK177 := n0_
       have BK178 := n1_
       have BK185 := n2_
       have HB := n3_
       clear n0_ n1_ n2_ n3_
       (try clear hb)
       (try clear hb2)
       (try clear hk)
       (try clear hi)
       refine hK.out _ _ ⟨bc BK177.out 0, bc BK177.out 1, bc BK177.out 2, bc BK177.out 3, bc BK177.out 4, bc BK177.out 5, bc BK178.out 0, bc BK178.out 1, bc BK178.out 2, bc BK178.out 3, bc BK178.out 4, bc BK178.out 5⟩ (fun hHeld => ?_)
       clear hK K
       refine norm_ (a' := ?_) ?_ ?_
       rotate_left
       ·show Act.put _ (some 18) _ = _
        simp only [Act.put, y1, y2, y3, i64_w, i32_w]
        rfl
       exact norm_ s5_4 (hJ1_3_4 (gb185) _ ⟨hHeld, (zk BK177.out), (zk BK178.out), (zk BK185.out), GW185.out, GE185.out, NB177_185.out, NB185_177.out, NB178_185.out, NB185_178.out, s5_1⟩)
      ·skip
       refine box_step ?hg (N := 6) ?hd (cs := #[.int .i64 0, .int .i64 0]) (t := 89) ?hr ?_; (case hd => rfl); (case hg => rfl); (case hr => first | (go_simp; done) | (go_simp; rfl))
       intro gb186 hg w5 hbox hb
       have n0_ := Aside0.mk (bb (zk BK177.out) hb)
       have n1_ := Aside0.mk (bb (zk BK178.out) hb)
       have n2_ := Aside0.mk (bb (zk BK185.out) hb)
       have n3_ := Aside0.mk (below_step s5_1 hb)
       have n4_ := Aside0.mk (hbox)
       have n5_ := Aside0.mk (ns hg s5_1 : w.heap.size ≤ gb186)
       have n6_ := Aside0.mk (ns hg s5_1 : w.heap.size ≤ gb186)
       have n7_ := Aside0.mk ((nlt hg (zk BK177.out) : gb177 ≠ gb186))
       have n8_ := Aside0.mk ((ngt hg (zk BK177.out) : gb186 ≠ gb177))
       have n9_ := Aside0.mk ((nlt hg (zk BK178.out) : gb178 ≠ gb186))
       have n10_ := Aside0.mk ((ngt hg (zk BK178.out) : gb186 ≠ gb178))
       have n11_ := Aside0.mk ((nlt hg (zk BK185.out) : gb185 ≠ gb186))
       have n12_ := Aside0.mk ((ngt hg (zk BK185.out) : gb186 ≠ gb185))
       clear BK177 BK178 BK185 HB
       have BK177 := n0_
       have BK178 := n1_
       have BK185 := n2_
       have HB := n3_
       have BK186 := n4_
       have GW186 := n5_
       have GE186 := n6_
       have NB177_186 := n7_
       have NB186_177 := n8_
       have NB178_186 := n9_
       have NB186_178 := n10_
       have NB185_186 := n11_
       have NB186_185 := n12_
       clear n0_ n1_ n2_ n3_ n4_ n5_ n6_ n7_ n8_ n9_ n10_ n11_ n12_ hb hbox hg
       refine hK.out _ _ ⟨bc BK177.out 0, bc BK177.out 1, bc BK177.out 2, bc BK177.out 3, bc BK177.out 4, bc BK177.out 5, bc BK178.out 0, bc BK178.out 1, bc BK178.out 2, bc BK178.out 3, bc BK178.out 4, bc BK178.out 5⟩ (fun hHeld => ?_)
       clear hK K
       refine norm_ (a' := ?_) ?_ ?_
       rotate_left
       ·show Act.put _ (some 6) _ = _
        simp only [Act.put, y1, y2, y3, i64_w, i32_w]
        rfl
       exact norm_ s5_4 (hJ1_4_5 (gb185, gb186) _ ⟨hHeld, (zk BK177.out), (zk BK178.out), (zk BK185.out), (zk BK186.out), GW185.out, GE185.out, NB177_185.out, NB185_177.out, NB178_185.out, NB185_178.out, NB186_185.out, NB185_186.out, GW186.out, GE186.out, NB177_186.out, NB186_177.out, NB178_186.out, NB186_178.out, s5_3⟩)
    ·skip
     rintro _ w4 ⟨hS_, h0_, h1_, h2_⟩
     have n0_ : Aside0 (w4.heap[gb177]? = some (.cells #[.int .i64 a0_0, .int .i64 a0_1, .int .i64 a0_2, .int .i64 a0_3, .int .i64 a0_4, .int .i64 a0_5] 25 (0, 0))) := ⟨h0_⟩
     have n1_ : Aside0 (w4.heap[gb178]? = some (.cells #[.int .i64 a1_0, .int .i64 a1_1, .int .i64 a1_2, .int .i64 a1_3, .int .i64 a1_4, .int .i64 a1_5] 25 (0, 0))) := ⟨h1_⟩
     have n2_ : Aside0 (Below w.heap.size w w4) := ⟨h2_⟩
     clear BK177 BK178 HB h0_ h1_ h2_
     have BK177 := n0_
     have BK178 := n1_
     have HB := n2_
     clear n0_ n1_ n2_
     have hHeld : w4.cell? ⟨gb177, 0, none⟩ = some (.int .i64 a0_0) ∧ w4.cell? ⟨gb177, 1, none⟩ = some (.int .i64 a0_1) ∧ w4.cell? ⟨gb177, 2, none⟩ = some (.int .i64 a0_2) ∧ w4.cell? ⟨gb177, 3, none⟩ = some (.int .i64 a0_3) ∧ w4.cell? ⟨gb177, 4, none⟩ = some (.int .i64 a0_4) ∧ w4.cell? ⟨gb177, 5, none⟩ = some (.int .i64 a0_5) ∧ w4.cell? ⟨gb178, 0, none⟩ = some (.int .i64 a1_0) ∧ w4.cell? ⟨gb178, 1, none⟩ = some (.int .i64 a1_1) ∧ w4.cell? ⟨gb178, 2, none⟩ = some (.int .i64 a1_2) ∧ w4.cell? ⟨gb178, 3, none⟩ = some (.int .i64 a1_3) ∧ w4.cell? ⟨gb178, 4, none⟩ = some (.int .i64 a1_4) ∧ w4.cell? ⟨gb178, 5, none⟩ = some (.int .i64 a1_5) := hS_
     refine norm_ (a' := ?_) ?_ ?_
     rotate_left
     ·simp only [putAll, Act.put, y1, y2, y3]
      rfl
     refine two_ (i := 4) (j := 5) (Ni := some 5) (Nj := some 6) (bz 8 31) (bz 8 47) rfl rfl rfl rfl (two_of HT_.out (by kernel_rfl)) (by decide) (by decide) (fun K hK => ?_) (fun K hK => ?_)
     ·skip
      refine box_step ?hg (N := 5) ?hd (cs := #[.int .i64 0, .int .i64 0]) (t := 89) ?hr ?_; (case hd => rfl); (case hg => rfl); (case hr => first | (go_simp; done) | (go_simp; rfl))
      intro gb185 hg w5 hbox hb
      have n0_ := Aside0.mk (bb (zk BK177.out) hb)
      have n1_ := Aside0.mk (bb (zk BK178.out) hb)
      have n2_ := Aside0.mk (below_step s5_0 hb)
      have n3_ := Aside0.mk (hbox)
      have n4_ := Aside0.mk (ns hg s5_0 : w.heap.size ≤ gb185)
      have n5_ := Aside0.mk (ns hg s5_0 : w.heap.size ≤ gb185)
      have n6_ := Aside0.mk ((nlt hg (zk BK177.out) : gb177 ≠ gb185))
      have n7_ := Aside0.mk ((ngt hg (zk BK177.out) : gb185 ≠ gb177))
      have n8_ := Aside0.mk ((nlt hg (zk BK178.out) : gb178 ≠ gb185))
      have n9_ := Aside0.mk ((ngt hg (zk BK178.out) : gb185 ≠ gb178))
      clear BK177 BK178 HB
      have BK177 := n0_
      have BK178 := n1_
      have HB := n2_
      have BK185 := n3_
      have GW185 := n4_
      have GE185 := n5_
      have NB177_185 := n6_
      have NB185_177 := n7_
      have NB178_185 := n8_
      have NB185_178 := n9_
      clear n0_ n1_ n2_ n3_ n4_ n5_ n6_ n7_ n8_ n9_ hb hbox hg
      refine hK.out _ _ ⟨bc BK177.out 0, bc BK177.out 1, bc BK177.out 2, bc BK177.out 3, bc BK177.out 4, bc BK177.out 5, bc BK178.out 0, bc BK178.out 1, bc BK178.out 2, bc BK178.out 3, bc BK178.out 4, bc BK178.out 5⟩ (fun hHeld => ?_)
      clear hK K
      refine norm_ (a' := ?_) ?_ ?_
      rotate_left
      ·show Act.put _ (some 5) _ = _
       simp only [Act.put, y1, y2, y3, i64_w, i32_w]
       rfl
      exact norm_ s5_4 (hJ1_3_4 (gb185) _ ⟨hHeld, (zk BK177.out), (zk BK178.out), (zk BK185.out), GW185.out, GE185.out, NB177_185.out, NB185_177.out, NB178_185.out, NB185_178.out, s5_1⟩)
     ·skip
      refine box_step ?hg (N := 6) ?hd (cs := #[.int .i64 0, .int .i64 0]) (t := 89) ?hr ?_; (case hd => rfl); (case hg => rfl); (case hr => first | (go_simp; done) | (go_simp; rfl))
      intro gb186 hg w5 hbox hb
      have n0_ := Aside0.mk (bb (zk BK177.out) hb)
      have n1_ := Aside0.mk (bb (zk BK178.out) hb)
      have n2_ := Aside0.mk (below_step s5_0 hb)
      have n3_ := Aside0.mk (hbox)
      have n4_ := Aside0.mk (ns hg s5_0 : w.heap.size ≤ gb186)
      have n5_ := Aside0.mk (ns hg s5_0 : w.heap.size ≤ gb186)
      have n6_ := Aside0.mk ((nlt hg (zk BK177.out) : gb177 ≠ gb186))
      have n7_ := Aside0.mk ((ngt hg (zk BK177.out) : gb186 ≠ gb177))
      have n8_ := Aside0.mk ((nlt hg (zk BK178.out) : gb178 ≠ gb186))
      have n9_ := Aside0.mk ((ngt hg (zk BK178.out) : gb186 ≠ gb178))
      clear BK177 BK178 HB
      have BK177 := n0_
      have BK178 := n1_
      have HB := n2_
      have BK186 := n3_
      have GW186 := n4_
      have GE186 := n5_
      have NB177_186 := n6_
      have NB186_177 := n7_
      have NB178_186 := n8_
      have NB186_178 := n9_
      clear n0_ n1_ n2_ n3_ n4_ n5_ n6_ n7_ n8_ n9_ hb hbox hg
      refine hK.out _ _ ⟨bc BK177.out 0, bc BK177.out 1, bc BK177.out 2, bc BK177.out 3, bc BK177.out 4, bc BK177.out 5, bc BK178.out 0, bc BK178.out 1, bc BK178.out 2, bc BK178.out 3, bc BK178.out 4, bc BK178.out 5⟩ (fun hHeld => ?_)
      clear hK K
      refine norm_ (a' := ?_) ?_ ?_
      rotate_left
      ·show Act.put _ (some 6) _ = _
       simp only [Act.put, y1, y2, y3, i64_w, i32_w]
       rfl
      exact norm_ s5_4 (hJ1_3_5 (gb186) _ ⟨hHeld, (zk BK177.out), (zk BK178.out), (zk BK186.out), GW186.out, GE186.out, NB177_186.out, NB186_177.out, NB178_186.out, NB186_178.out, s5_2⟩)
   ·skip
    rintro ⟨gb185, gb186⟩ w4 ⟨hS_, h0_, h1_, h2_, h3_, h4_, h5_, h6_, h7_, h8_, h9_, h10_, h11_, h12_, h13_, h14_, h15_, h16_, h17_, h18_⟩
    have n0_ : Aside0 (w4.heap[gb177]? = some (.cells #[.int .i64 a0_0, .int .i64 a0_1, .int .i64 a0_2, .int .i64 a0_3, .int .i64 a0_4, .int .i64 a0_5] 25 (0, 0))) := ⟨h0_⟩
    have n1_ : Aside0 (w4.heap[gb178]? = some (.cells #[.int .i64 a1_0, .int .i64 a1_1, .int .i64 a1_2, .int .i64 a1_3, .int .i64 a1_4, .int .i64 a1_5] 25 (0, 0))) := ⟨h1_⟩
    have n2_ : Aside0 (w4.heap[gb185]? = some (.cells #[.int .i64 0, .int .i64 0] 89 (0, 0))) := ⟨h2_⟩
    have n3_ : Aside0 (w4.heap[gb186]? = some (.cells #[.int .i64 0, .int .i64 0] 89 (0, 0))) := ⟨h3_⟩
    have n4_ : Aside0 (w.heap.size ≤ gb185) := ⟨h4_⟩
    have n5_ : Aside0 (w.heap.size ≤ gb185) := ⟨h5_⟩
    have n6_ : Aside0 (gb177 ≠ gb185) := ⟨h6_⟩
    have n7_ : Aside0 (gb185 ≠ gb177) := ⟨h7_⟩
    have n8_ : Aside0 (gb178 ≠ gb185) := ⟨h8_⟩
    have n9_ : Aside0 (gb185 ≠ gb178) := ⟨h9_⟩
    have n10_ : Aside0 (gb186 ≠ gb185) := ⟨h10_⟩
    have n11_ : Aside0 (gb185 ≠ gb186) := ⟨h11_⟩
    have n12_ : Aside0 (w.heap.size ≤ gb186) := ⟨h12_⟩
    have n13_ : Aside0 (w.heap.size ≤ gb186) := ⟨h13_⟩
    have n14_ : Aside0 (gb177 ≠ gb186) := ⟨h14_⟩
    have n15_ : Aside0 (gb186 ≠ gb177) := ⟨h15_⟩
    have n16_ : Aside0 (gb178 ≠ gb186) := ⟨h16_⟩
    have n17_ : Aside0 (gb186 ≠ gb178) := ⟨h17_⟩
    have n18_ : Aside0 (Below w.heap.size w w4) := ⟨h18_⟩
    clear BK177 BK178 HB h0_ h1_ h2_ h3_ h4_ h5_ h6_ h7_ h8_ h9_ h10_ h11_ h12_ h13_ h14_ h15_ h16_ h17_ h18_
    have BK177 := n0_
    have BK178 := n1_
    have BK185 := n2_
    have BK186 := n3_
    have GW185 := n4_
    have GE185 := n5_
    have NB177_185 := n6_
    have NB185_177 := n7_
    have NB178_185 := n8_
    have NB185_178 := n9_
    have NB186_185 := n10_
    have NB185_186 := n11_
    have GW186 := n12_
    have GE186 := n13_
    have NB177_186 := n14_
    have NB186_177 := n15_
    have NB178_186 := n16_
    have NB186_178 := n17_
    have HB := n18_
    clear n0_ n1_ n2_ n3_ n4_ n5_ n6_ n7_ n8_ n9_ n10_ n11_ n12_ n13_ n14_ n15_ n16_ n17_ n18_
    have hHeld : w4.cell? ⟨gb177, 0, none⟩ = some (.int .i64 a0_0) ∧ w4.cell? ⟨gb177, 1, none⟩ = some (.int .i64 a0_1) ∧ w4.cell? ⟨gb177, 2, none⟩ = some (.int .i64 a0_2) ∧ w4.cell? ⟨gb177, 3, none⟩ = some (.int .i64 a0_3) ∧ w4.cell? ⟨gb177, 4, none⟩ = some (.int .i64 a0_4) ∧ w4.cell? ⟨gb177, 5, none⟩ = some (.int .i64 a0_5) ∧ w4.cell? ⟨gb178, 0, none⟩ = some (.int .i64 a1_0) ∧ w4.cell? ⟨gb178, 1, none⟩ = some (.int .i64 a1_1) ∧ w4.cell? ⟨gb178, 2, none⟩ = some (.int .i64 a1_2) ∧ w4.cell? ⟨gb178, 3, none⟩ = some (.int .i64 a1_3) ∧ w4.cell? ⟨gb178, 4, none⟩ = some (.int .i64 a1_4) ∧ w4.cell? ⟨gb178, 5, none⟩ = some (.int .i64 a1_5) := hS_
    refine norm_ (a' := ?_) ?_ ?_
    rotate_left
    ·simp only [putAll, Act.put, y1, y2, y3]
     rfl
    refine one_ (i := 3) (N := some 18) (bz 8 63) rfl rfl (one_of HT_.out (by kernel_rfl)) (by decide) (fun K hK => ?_)
    refine goes_ Try.func71 (by kernel_rfl) rfl #[.agg #[.int .i64 a1_0, .int .i64 a1_1, .int .i64 a1_2, .int .i64 a1_3, .int .i64 a1_4, .int .i64 a1_5]] (by rfl) rfl rfl s5_5 ?_
    with_reducible refine (impl_Ship_way.calls a1_0 a1_1 a1_2 a1_3 a1_4 a1_5 t183 t184 _ A19.out).mono ?_
    rintro e w5 ⟨rfl, hb⟩
    refine ⟨_, rfl, ?_⟩
    have n0_ := Aside0.mk (bb (zk BK177.out) hb)
    have n1_ := Aside0.mk (bb (zk BK178.out) hb)
    have n2_ := Aside0.mk (bb (zk BK185.out) hb)
    have n3_ := Aside0.mk (bb (zk BK186.out) hb)
    have n4_ := Aside0.mk (below_step s5_3 hb)
    clear BK177 BK178 BK185 BK186 HB
    have BK177 := n0_
    have BK178 := n1_
    have BK185 := n2_
    have BK186 := n3_
    have HB := n4_
    clear n0_ n1_ n2_ n3_ n4_
    (try clear hb)
    (try clear hb2)
    (try clear hk)
    (try clear hi)
    refine hK.out _ _ ⟨bc BK177.out 0, bc BK177.out 1, bc BK177.out 2, bc BK177.out 3, bc BK177.out 4, bc BK177.out 5, bc BK178.out 0, bc BK178.out 1, bc BK178.out 2, bc BK178.out 3, bc BK178.out 4, bc BK178.out 5⟩ (fun hHeld => ?_)
    clear hK K
    refine norm_ (a' := ?_) ?_ ?_
    rotate_left
    ·show Act.put _ (some 18) _ = _
     simp only [Act.put, y1, y2, y3, i64_w, i32_w]
     rfl
    exact norm_ s5_4 (hJ1_3_4_5 (gb185, gb186) _ ⟨hHeld, (zk BK177.out), (zk BK178.out), (zk BK185.out), (zk BK186.out), GW185.out, GE185.out, NB177_185.out, NB185_177.out, NB178_185.out, NB185_178.out, NB186_185.out, NB185_186.out, GW186.out, GE186.out, NB177_186.out, NB186_177.out, NB178_186.out, NB186_178.out, s5_3⟩)
  ·skip
   rintro gb186 w4 ⟨hS_, h0_, h1_, h2_, h3_, h4_, h5_, h6_, h7_, h8_, h9_⟩
   have n0_ : Aside0 (w4.heap[gb177]? = some (.cells #[.int .i64 a0_0, .int .i64 a0_1, .int .i64 a0_2, .int .i64 a0_3, .int .i64 a0_4, .int .i64 a0_5] 25 (0, 0))) := ⟨h0_⟩
   have n1_ : Aside0 (w4.heap[gb178]? = some (.cells #[.int .i64 a1_0, .int .i64 a1_1, .int .i64 a1_2, .int .i64 a1_3, .int .i64 a1_4, .int .i64 a1_5] 25 (0, 0))) := ⟨h1_⟩
   have n2_ : Aside0 (w4.heap[gb186]? = some (.cells #[.int .i64 0, .int .i64 0] 89 (0, 0))) := ⟨h2_⟩
   have n3_ : Aside0 (w.heap.size ≤ gb186) := ⟨h3_⟩
   have n4_ : Aside0 (w.heap.size ≤ gb186) := ⟨h4_⟩
   have n5_ : Aside0 (gb177 ≠ gb186) := ⟨h5_⟩
   have n6_ : Aside0 (gb186 ≠ gb177) := ⟨h6_⟩
   have n7_ : Aside0 (gb178 ≠ gb186) := ⟨h7_⟩
   have n8_ : Aside0 (gb186 ≠ gb178) := ⟨h8_⟩
   have n9_ : Aside0 (Below w.heap.size w w4) := ⟨h9_⟩
   clear BK177 BK178 HB h0_ h1_ h2_ h3_ h4_ h5_ h6_ h7_ h8_ h9_
   have BK177 := n0_
   have BK178 := n1_
   have BK186 := n2_
   have GW186 := n3_
   have GE186 := n4_
   have NB177_186 := n5_
   have NB186_177 := n6_
   have NB178_186 := n7_
   have NB186_178 := n8_
   have HB := n9_
   clear n0_ n1_ n2_ n3_ n4_ n5_ n6_ n7_ n8_ n9_
   have hHeld : w4.cell? ⟨gb177, 0, none⟩ = some (.int .i64 a0_0) ∧ w4.cell? ⟨gb177, 1, none⟩ = some (.int .i64 a0_1) ∧ w4.cell? ⟨gb177, 2, none⟩ = some (.int .i64 a0_2) ∧ w4.cell? ⟨gb177, 3, none⟩ = some (.int .i64 a0_3) ∧ w4.cell? ⟨gb177, 4, none⟩ = some (.int .i64 a0_4) ∧ w4.cell? ⟨gb177, 5, none⟩ = some (.int .i64 a0_5) ∧ w4.cell? ⟨gb178, 0, none⟩ = some (.int .i64 a1_0) ∧ w4.cell? ⟨gb178, 1, none⟩ = some (.int .i64 a1_1) ∧ w4.cell? ⟨gb178, 2, none⟩ = some (.int .i64 a1_2) ∧ w4.cell? ⟨gb178, 3, none⟩ = some (.int .i64 a1_3) ∧ w4.cell? ⟨gb178, 4, none⟩ = some (.int .i64 a1_4) ∧ w4.cell? ⟨gb178, 5, none⟩ = some (.int .i64 a1_5) := hS_
   refine norm_ (a' := ?_) ?_ ?_
   rotate_left
   ·simp only [putAll, Act.put, y1, y2, y3]
    rfl
   refine one_ (i := 4) (N := some 5) (bz 8 63) rfl rfl (one_of HT_.out (by kernel_rfl)) (by decide) (fun K hK => ?_)
   refine box_step ?hg (N := 5) ?hd (cs := #[.int .i64 0, .int .i64 0]) (t := 89) ?hr ?_; (case hd => rfl); (case hg => rfl); (case hr => first | (go_simp; done) | (go_simp; rfl))
   intro gb185 hg w5 hbox hb
   have n0_ := Aside0.mk (bb (zk BK177.out) hb)
   have n1_ := Aside0.mk (bb (zk BK178.out) hb)
   have n2_ := Aside0.mk (bb (zk BK186.out) hb)
   have n3_ := Aside0.mk (below_step s5_2 hb)
   have n4_ := Aside0.mk (hbox)
   have n5_ := Aside0.mk (ns hg s5_2 : w.heap.size ≤ gb185)
   have n6_ := Aside0.mk (ns hg s5_2 : w.heap.size ≤ gb185)
   have n7_ := Aside0.mk ((nlt hg (zk BK177.out) : gb177 ≠ gb185))
   have n8_ := Aside0.mk ((ngt hg (zk BK177.out) : gb185 ≠ gb177))
   have n9_ := Aside0.mk ((nlt hg (zk BK178.out) : gb178 ≠ gb185))
   have n10_ := Aside0.mk ((ngt hg (zk BK178.out) : gb185 ≠ gb178))
   have n11_ := Aside0.mk ((nlt hg (zk BK186.out) : gb186 ≠ gb185))
   have n12_ := Aside0.mk ((ngt hg (zk BK186.out) : gb185 ≠ gb186))
   clear BK177 BK178 BK186 HB
   have BK177 := n0_
   have BK178 := n1_
   have BK186 := n2_
   have HB := n3_
   have BK185 := n4_
   have GW185 := n5_
   have GE185 := n6_
   have NB177_185 := n7_
   have NB185_177 := n8_
   have NB178_185 := n9_
   have NB185_178 := n10_
   have NB186_185 := n11_
   have NB185_186 := n12_
   clear n0_ n1_ n2_ n3_ n4_ n5_ n6_ n7_ n8_ n9_ n10_ n11_ n12_ hb hbox hg
   refine hK.out _ _ ⟨bc BK177.out 0, bc BK177.out 1, bc BK177.out 2, bc BK177.out 3, bc BK177.out 4, bc BK177.out 5, bc BK178.out 0, bc BK178.out 1, bc BK178.out 2, bc BK178.out 3, bc BK178.out 4, bc BK178.out 5⟩ (fun hHeld => ?_)
   clear hK K
   refine norm_ (a' := ?_) ?_ ?_
   rotate_left
   ·show Act.put _ (some 5) _ = _
    simp only [Act.put, y1, y2, y3, i64_w, i32_w]
    rfl
   exact norm_ s5_4 (hJ1_3_4_5 (gb185, gb186) _ ⟨hHeld, (zk BK177.out), (zk BK178.out), (zk BK185.out), (zk BK186.out), GW185.out, GE185.out, NB177_185.out, NB185_177.out, NB178_185.out, NB185_178.out, NB186_185.out, NB185_186.out, GW186.out, GE186.out, NB177_186.out, NB186_177.out, NB178_186.out, NB186_178.out, s5_6⟩)
 ·skip
  rintro gb185 w4 ⟨hS_, h0_, h1_, h2_, h3_, h4_, h5_, h6_, h7_, h8_, h9_⟩
  have n0_ : Aside0 (w4.heap[gb177]? = some (.cells #[.int .i64 a0_0, .int .i64 a0_1, .int .i64 a0_2, .int .i64 a0_3, .int .i64 a0_4, .int .i64 a0_5] 25 (0, 0))) := ⟨h0_⟩
  have n1_ : Aside0 (w4.heap[gb178]? = some (.cells #[.int .i64 a1_0, .int .i64 a1_1, .int .i64 a1_2, .int .i64 a1_3, .int .i64 a1_4, .int .i64 a1_5] 25 (0, 0))) := ⟨h1_⟩
  have n2_ : Aside0 (w4.heap[gb185]? = some (.cells #[.int .i64 0, .int .i64 0] 89 (0, 0))) := ⟨h2_⟩
  have n3_ : Aside0 (w.heap.size ≤ gb185) := ⟨h3_⟩
  have n4_ : Aside0 (w.heap.size ≤ gb185) := ⟨h4_⟩
  have n5_ : Aside0 (gb177 ≠ gb185) := ⟨h5_⟩
  have n6_ : Aside0 (gb185 ≠ gb177) := ⟨h6_⟩
  have n7_ : Aside0 (gb178 ≠ gb185) := ⟨h7_⟩
  have n8_ : Aside0 (gb185 ≠ gb178) := ⟨h8_⟩
  have n9_ : Aside0 (Below w.heap.size w w4) := ⟨h9_⟩
  clear BK177 BK178 HB h0_ h1_ h2_ h3_ h4_ h5_ h6_ h7_ h8_ h9_
  have BK177 := n0_
  have BK178 := n1_
  have BK185 := n2_
  have GW185 := n3_
  have GE185 := n4_
  have NB177_185 := n5_
  have NB185_177 := n6_
  have NB178_185 := n7_
  have NB185_178 := n8_
  have HB := n9_
  clear n0_ n1_ n2_ n3_ n4_ n5_ n6_ n7_ n8_ n9_
  have hHeld : w4.cell? ⟨gb177, 0, none⟩ = some (.int .i64 a0_0) ∧ w4.cell? ⟨gb177, 1, none⟩ = some (.int .i64 a0_1) ∧ w4.cell? ⟨gb177, 2, none⟩ = some (.int .i64 a0_2) ∧ w4.cell? ⟨gb177, 3, none⟩ = some (.int .i64 a0_3) ∧ w4.cell? ⟨gb177, 4, none⟩ = some (.int .i64 a0_4) ∧ w4.cell? ⟨gb177, 5, none⟩ = some (.int .i64 a0_5) ∧ w4.cell? ⟨gb178, 0, none⟩ = some (.int .i64 a1_0) ∧ w4.cell? ⟨gb178, 1, none⟩ = some (.int .i64 a1_1) ∧ w4.cell? ⟨gb178, 2, none⟩ = some (.int .i64 a1_2) ∧ w4.cell? ⟨gb178, 3, none⟩ = some (.int .i64 a1_3) ∧ w4.cell? ⟨gb178, 4, none⟩ = some (.int .i64 a1_4) ∧ w4.cell? ⟨gb178, 5, none⟩ = some (.int .i64 a1_5) := hS_
  refine norm_ (a' := ?_) ?_ ?_
  rotate_left
  ·simp only [putAll, Act.put, y1, y2, y3]
   rfl
  refine one_ (i := 5) (N := some 6) (bz 8 63) rfl rfl (one_of HT_.out (by kernel_rfl)) (by decide) (fun K hK => ?_)
  refine box_step ?hg (N := 6) ?hd (cs := #[.int .i64 0, .int .i64 0]) (t := 89) ?hr ?_; (case hd => rfl); (case hg => rfl); (case hr => first | (go_simp; done) | (go_simp; rfl))
  intro gb186 hg w5 hbox hb
  have n0_ := Aside0.mk (bb (zk BK177.out) hb)
  have n1_ := Aside0.mk (bb (zk BK178.out) hb)
  have n2_ := Aside0.mk (bb (zk BK185.out) hb)
  have n3_ := Aside0.mk (below_step s5_1 hb)
  have n4_ := Aside0.mk (hbox)
  have n5_ := Aside0.mk (ns hg s5_1 : w.heap.size ≤ gb186)
  have n6_ := Aside0.mk (ns hg s5_1 : w.heap.size ≤ gb186)
  have n7_ := Aside0.mk ((nlt hg (zk BK177.out) : gb177 ≠ gb186))
  have n8_ := Aside0.mk ((ngt hg (zk BK177.out) : gb186 ≠ gb177))
  have n9_ := Aside0.mk ((nlt hg (zk BK178.out) : gb178 ≠ gb186))
  have n10_ := Aside0.mk ((ngt hg (zk BK178.out) : gb186 ≠ gb178))
  have n11_ := Aside0.mk ((nlt hg (zk BK185.out) : gb185 ≠ gb186))
  have n12_ := Aside0.mk ((ngt hg (zk BK185.out) : gb186 ≠ gb185))
  clear BK177 BK178 BK185 HB
  have BK177 := n0_
  have BK178 := n1_
  have BK185 := n2_
  have HB := n3_
  have BK186 := n4_
  have GW186 := n5_
  have GE186 := n6_
  have NB177_186 := n7_
  have NB186_177 := n8_
  have NB178_186 := n9_
  have NB186_178 := n10_
  have NB185_186 := n11_
  have NB186_185 := n12_
  clear n0_ n1_ n2_ n3_ n4_ n5_ n6_ n7_ n8_ n9_ n10_ n11_ n12_ hb hbox hg
  refine hK.out _ _ ⟨bc BK177.out 0, bc BK177.out 1, bc BK177.out 2, bc BK177.out 3, bc BK177.out 4, bc BK177.out 5, bc BK178.out 0, bc BK178.out 1, bc BK178.out 2, bc BK178.out 3, bc BK178.out 4, bc BK178.out 5⟩ (fun hHeld => ?_)
  clear hK K
  refine norm_ (a' := ?_) ?_ ?_
  rotate_left
  ·show Act.put _ (some 6) _ = _
   simp only [Act.put, y1, y2, y3, i64_w, i32_w]
   rfl
  exact norm_ s5_4 (hJ1_3_4_5 (gb185, gb186) _ ⟨hHeld, (zk BK177.out), (zk BK178.out), (zk BK185.out), (zk BK186.out), GW185.out, GE185.out, NB177_185.out, NB185_177.out, NB178_185.out, NB185_178.out, NB186_185.out, NB185_186.out, GW186.out, GE186.out, NB177_186.out, NB186_177.out, NB178_186.out, NB186_178.out, s5_3⟩)) : p := h
set_option maxRecDepth 100000 in
theorem t5_1 {p : Prop} (h : p := by
 simp only [Act.put, y1, y2, y3, i64_w, i32_w]
 rfl) : p := h
set_option maxRecDepth 100000 in
theorem t5_2 {p : Prop} (h : p := by
 rintro w' ⟨s0, s1, s2, s3, s4, s5, s6, s7, s8, s9, s10, s11, s12, s13, s14, s15⟩
 go_simp
 with_reducible rfl) : p := h
set_option maxRecDepth 100000 in
theorem t5_3 {p : Prop} (h : p := by
 intro w'
 go_simp
 with_reducible rfl) : p := h
set_option maxRecDepth 100000 in
theorem t5_4 {p : Prop} (h : p := by
 rintro w' ⟨s0, s1, s2, s3, s4, s5, s6, s7, s8, s9, s10, s11⟩
 go_simp
 with_reducible rfl) : p := h
set_option maxRecDepth 100000 in
theorem t5_5 {p : Prop} (h : p := by
 rintro w' ⟨s0, s1, s2, s3⟩
 go_simp
 with_reducible rfl) : p := h
/-! ### impl_HeadOn: function 31 -/
def impl_HeadOn.j0 : Nat → Bool → Int → Int → Int → Int → Int → Int → Int → Int → Int → Int → Int → Int → Option (Bool)
 | 0, _, _, _, _, _, _, _, _, _, _, _, _, _ => none
 | k + 1, x14, x178000, x178001, x178002, x178003, x178004, x178005, x179000, x179001, x179002, x179003, x179004, x179005 => if x14 = true then (some false) else ((impl_Ship_way.f x178000 x178001 x178002 x178003 x178004 x178005).bind fun bt181 => ((impl_Ship_way.f x179000 x179001 x179002 x179003 x179004 x179005).bind fun bt183 => ((impl_vec_dot.f bt181.1 bt181.2 bt183.1 bt183.2).bind fun t187 => (if t187 < 0 then ((impl_vec_cross.f bt181.1 bt181.2 bt183.1 bt183.2).bind fun t188 => ((impl_square.f t188).bind fun t189 => ((impl_vec_dot.f bt181.1 bt181.2 bt183.1 bt183.2).bind fun t190 => ((impl_square.f t190).bind fun t191 => (if (IntKind.u64.wrap (t189 * 100)) ≤ t191 then ((impl_bearing.f x179000 x179001 x179002 x179003 x179004 x179005 x178000 x178001 x178002 x178003 x178004 x178005).bind fun bt192 => ((impl_ahead.f bt192.1 bt192.2 bt181.1 bt181.2).bind fun t194 => (if t194 = true then ((impl_bearing.f x178000 x178001 x178002 x178003 x178004 x178005 x179000 x179001 x179002 x179003 x179004 x179005).bind fun bt195 => ((impl_ahead.f bt195.1 bt195.2 bt183.1 bt183.2).bind fun t197 => (some t197))) else (some false)))) else (some false)))))) else (some false)))))
def impl_HeadOn.f (k : Nat) (a0_0 : Int) (a0_1 : Int) (a0_2 : Int) (a0_3 : Int) (a0_4 : Int) (a0_5 : Int) (a1_0 : Int) (a1_1 : Int) (a1_2 : Int) (a1_3 : Int) (a1_4 : Int) (a1_5 : Int) : Option (Bool) := (impl_ShipOk.f a0_0 a0_1 a0_2 a0_3 a0_4 a0_5).bind fun t179 => (if t179 = true then ((impl_ShipOk.f a1_0 a1_1 a1_2 a1_3 a1_4 a1_5).bind fun t180 => (impl_HeadOn.j0 k (!t180) a0_0 a0_1 a0_2 a0_3 a0_4 a0_5 a1_0 a1_1 a1_2 a1_3 a1_4 a1_5)) else (impl_HeadOn.j0 k true a0_0 a0_1 a0_2 a0_3 a0_4 a0_5 a1_0 a1_1 a1_2 a1_3 a1_4 a1_5))
theorem impl_HeadOn.mono_l : ∀ k, (∀ y0 y1 y2 y3 y4 y5 y6 y7 y8 y9 y10 y11 y12, LeO (impl_HeadOn.j0 k y0 y1 y2 y3 y4 y5 y6 y7 y8 y9 y10 y11 y12) (impl_HeadOn.j0 (k + 1) y0 y1 y2 y3 y4 y5 y6 y7 y8 y9 y10 y11 y12))
 | 0 => fun _ _ _ _ _ _ _ _ _ _ _ _ _ r h => by simp [impl_HeadOn.j0] at h
 | k + 1 => by
  have ih0 := impl_HeadOn.mono_l k
  ·intro y0 y1 y2 y3 y4 y5 y6 y7 y8 y9 y10 y11 y12
   unfold impl_HeadOn.j0
   repeat' first
   | (with_reducible exact ih0 _ _ _ _ _ _ _ _ _ _ _ _ _)
   | (with_reducible exact LeO.refl _)
   | (with_reducible exact LeO.none _)
   | (with_reducible refine LeO.ite ?_ ?_)
   | (with_reducible refine LeO.bind ?_ (fun _ => ?_))
   | exact ih0 _ _ _ _ _ _ _ _ _ _ _ _ _
   | exact LeO.none _
   | refine LeO.ite ?_ ?_
   | refine LeO.bind ?_ (fun _ => ?_)
theorem impl_HeadOn.mono : ∀ a0 a1 a2 a3 a4 a5 a6 a7 a8 a9 a10 a11 k, LeO (impl_HeadOn.f k a0 a1 a2 a3 a4 a5 a6 a7 a8 a9 a10 a11) (impl_HeadOn.f (k + 1) a0 a1 a2 a3 a4 a5 a6 a7 a8 a9 a10 a11) := by
 intro a0 a1 a2 a3 a4 a5 a6 a7 a8 a9 a10 a11 k
 have ih0 := impl_HeadOn.mono_l k
 unfold impl_HeadOn.f
 repeat' first
   | (with_reducible exact ih0 _ _ _ _ _ _ _ _ _ _ _ _ _)
   | (with_reducible exact LeO.refl _)
   | (with_reducible exact LeO.none _)
   | (with_reducible refine LeO.ite ?_ ?_)
   | (with_reducible refine LeO.bind ?_ (fun _ => ?_))
   | exact ih0 _ _ _ _ _ _ _ _ _ _ _ _ _
   | exact LeO.none _
   | refine LeO.ite ?_ ?_
   | refine LeO.bind ?_ (fun _ => ?_)
def impl_HeadOn.T3 : Bool × List (List Nat × List Nat) := (true, [([], []), ([0], [0]), ([], []), ([2, 1], [2]), ([], []), ([], []), ([4, 1, 3, 0, 1, 4, 5], [1, 4]), ([5, 3, 6, 0, 1, 2, 3, 4, 5, 6], [3, 5])])
def impl_HeadOn.B3 : List Nat := [0, 1, 0, 7, 0, 0, 63, 127]
theorem impl_HeadOn.tab3 : rtab .any (opsOf Try.f31 3) = impl_HeadOn.T3 := by kernel_rfl
theorem impl_HeadOn.bits3 : waitsOk impl_HeadOn.T3.2 impl_HeadOn.B3 = true := by kernel_rfl
def impl_HeadOn.T4 : Bool × List (List Nat × List Nat) := (true, [([], []), ([], []), ([0, 1], [0, 1]), ([2], [2]), ([3, 2], [3]), ([4], [4]), ([4], [4]), ([5, 6, 4, 4], [4, 5, 6]), ([7, 7, 4], [4, 7]), ([8, 4], [4, 8]), ([4], [4]), ([4], [4]), ([10, 11, 8, 4], [4, 10, 11]), ([12, 12, 4], [4, 12]), ([9, 13, 4], [4, 9, 13]), ([4, 14], [4, 14]), ([15, 13], [15]), ([16], [16]), ([16], [16]), ([17, 18, 16, 16], [16, 17, 18]), ([16], [16]), ([19, 20, 19, 16], [16, 19, 20]), ([16, 21], [16, 21]), ([22, 21], [22]), ([23], [23]), ([23], [23]), ([24, 25, 23, 23], [23, 24, 25]), ([23], [23]), ([26, 27, 26, 23], [23, 26, 27]), ([23, 28], [23, 28]), ([29, 28, 0, 1, 2, 3, 4, 5, 6, 7, 8, 9, 10, 11, 12, 13, 14, 15, 16, 17, 18, 19, 20, 21, 22, 23, 24, 25, 26, 27, 28, 29], [29])])
def impl_HeadOn.B4 : List Nat := [0, 0, 3, 7, 15, 31, 31, 127, 255, 511, 31, 31, 3583, 7679, 16383, 32767, 65535, 131071, 131071, 524287, 131071, 2097151, 4194303, 8388607, 16777215, 16777215, 67108863, 16777215, 268435455, 536870911, 1073741823]
theorem impl_HeadOn.tab4 : rtab .any (opsOf Try.f31 4) = impl_HeadOn.T4 := by kernel_rfl
theorem impl_HeadOn.bits4 : waitsOk impl_HeadOn.T4.2 impl_HeadOn.B4 = true := by kernel_rfl
set_option maxHeartbeats 8000000 in
set_option maxRecDepth 100000 in
theorem impl_HeadOn.calls (k : Nat) (a0_0 : Int) (a0_1 : Int) (a0_2 : Int) (a0_3 : Int) (a0_4 : Int) (a0_5 : Int) (a1_0 : Int) (a1_1 : Int) (a1_2 : Int) (a1_3 : Int) (a1_4 : Int) (a1_5 : Int) (r : Bool) (w : World) (h : impl_HeadOn.f k a0_0 a0_1 a0_2 a0_3 a0_4 a0_5 a1_0 a1_1 a1_2 a1_3 a1_4 a1_5 = some r) :
  Calls Try.prog 31 #[.agg #[.int .i64 a0_0, .int .i64 a0_1, .int .i64 a0_2, .int .i64 a0_3, .int .i64 a0_4, .int .i64 a0_5], .agg #[.int .i64 a1_0, .int .i64 a1_1, .int .i64 a1_2, .int .i64 a1_3, .int .i64 a1_4, .int .i64 a1_5]] w fun e w' => e = .returned (.bool r) ∧ Below w.heap.size w w' := by
 have hu25 := Try.underlying25
 have hu89 := Try.underlying89
 have HB := Aside0.mk (Below.refl w.heap.size w)
 have H : ((impl_ShipOk.f a0_0 a0_1 a0_2 a0_3 a0_4 a0_5).bind fun t179 => (if t179 = true then ((impl_ShipOk.f a1_0 a1_1 a1_2 a1_3 a1_4 a1_5).bind fun t180 => (impl_HeadOn.j0 k (!t180) a0_0 a0_1 a0_2 a0_3 a0_4 a0_5 a1_0 a1_1 a1_2 a1_3 a1_4 a1_5)) else (impl_HeadOn.j0 k true a0_0 a0_1 a0_2 a0_3 a0_4 a0_5 a1_0 a1_1 a1_2 a1_3 a1_4 a1_5))) = some r := h
 clear h
 have HC3 := Aside0.mk H
 clear H
 go_enter Try.func31, Try.ntmps31
 go_upto_region 1 with (first | ((with_reducible refine gate_dst (N := 2) rfl ?_); refine box_event ?hg (N := 2) ?hd (cs := #[.int .i64 a0_0, .int .i64 a0_1, .int .i64 a0_2, .int .i64 a0_3, .int .i64 a0_4, .int .i64 a0_5]) (t := 25) ?hr ?_; (case hd => rfl); (case hg => rfl); (case hr => first | (go_simp; done) | (go_simp; rfl)); intro gb177 hg w1 hbox hb; have n0_ := Aside0.mk (below_step (by repeat (first | (with_reducible first | exact HB.out | apply below_alloc | apply pw_below_drewN | apply below_drew1) | exact HB.out)) hb); have n1_ := Aside0.mk (hbox); have n2_ := Aside0.mk (ns hg (by repeat (first | (with_reducible first | exact HB.out | apply below_alloc | apply pw_below_drewN | apply below_drew1) | exact HB.out)) : w.heap.size ≤ gb177); have n3_ := Aside0.mk (ns hg (by repeat (first | (with_reducible first | exact HB.out | apply below_alloc | apply pw_below_drewN | apply below_drew1) | exact HB.out)) : w.heap.size ≤ gb177); clear HB; have HB := n0_; have BK177 := n1_; have GW177 := n2_; have GE177 := n3_; clear n0_ n1_ n2_ n3_; clear hb hbox hg) | ((with_reducible refine gate_dst (N := 3) rfl ?_); refine box_event ?hg (N := 3) ?hd (cs := #[.int .i64 a1_0, .int .i64 a1_1, .int .i64 a1_2, .int .i64 a1_3, .int .i64 a1_4, .int .i64 a1_5]) (t := 25) ?hr ?_; (case hd => rfl); (case hg => rfl); (case hr => first | (go_simp; done) | (go_simp; rfl)); intro gb178 hg w2 hbox hb; have n0_ := Aside0.mk (bb (zk BK177.out) hb); have n1_ := Aside0.mk (below_step (by repeat (first | (with_reducible first | exact HB.out | apply below_alloc | apply pw_below_drewN | apply below_drew1 | refine below_set ?_ GE177.out) | exact HB.out)) hb); have n2_ := Aside0.mk (hbox); have n3_ := Aside0.mk (ns hg (by repeat (first | (with_reducible first | exact HB.out | apply below_alloc | apply pw_below_drewN | apply below_drew1 | refine below_set ?_ GE177.out) | exact HB.out)) : w.heap.size ≤ gb178); have n4_ := Aside0.mk (ns hg (by repeat (first | (with_reducible first | exact HB.out | apply below_alloc | apply pw_below_drewN | apply below_drew1 | refine below_set ?_ GE177.out) | exact HB.out)) : w.heap.size ≤ gb178); have n5_ := Aside0.mk ((nlt hg (zk BK177.out) : gb177 ≠ gb178)); have n6_ := Aside0.mk ((ngt hg (zk BK177.out) : gb178 ≠ gb177)); clear BK177; clear HB; have BK177 := n0_; have HB := n1_; have BK178 := n2_; have GW178 := n3_; have GE178 := n4_; have NB177_178 := n5_; have NB178_177 := n6_; clear n0_ n1_ n2_ n3_ n4_ n5_ n6_; clear hb hbox hg))
 (try simp only [Act.put, List.setIfInBounds_toArray, List.set_cons_zero, List.set_cons_succ])
 go_cut [14] (fun v14 wc => ∃ (kq : Nat) (x14_2 : Bool), v14 = .bool x14_2 ∧ Aside0 (impl_HeadOn.j0 kq x14_2 a0_0 a0_1 a0_2 a0_3 a0_4 a0_5 a1_0 a1_1 a1_2 a1_3 a1_4 a1_5 = some r) ∧ Aside0 (kq ≤ k) ∧ Aside0 (wc.heap[gb177]? = some (.cells #[.int .i64 a0_0, .int .i64 a0_1, .int .i64 a0_2, .int .i64 a0_3, .int .i64 a0_4, .int .i64 a0_5] 25 (0, 0))) ∧ Aside0 (wc.heap[gb178]? = some (.cells #[.int .i64 a1_0, .int .i64 a1_1, .int .i64 a1_2, .int .i64 a1_3, .int .i64 a1_4, .int .i64 a1_5] 25 (0, 0))) ∧ Aside0 (Below w.heap.size w wc))
 case first =>
  have H := HC3.out
  clear HC3
  replace H := Option.bind_eq_some_iff.mp H
  obtain ⟨t179, A60, H⟩ := H
  replace H : (if t179 = true then ((impl_ShipOk.f a1_0 a1_1 a1_2 a1_3 a1_4 a1_5).bind fun t180 => (impl_HeadOn.j0 k (!t180) a0_0 a0_1 a0_2 a0_3 a0_4 a0_5 a1_0 a1_1 a1_2 a1_3 a1_4 a1_5)) else (impl_HeadOn.j0 k true a0_0 a0_1 a0_2 a0_3 a0_4 a0_5 a1_0 a1_1 a1_2 a1_3 a1_4 a1_5)) = some r := H
  have A6 := Aside0.mk A60
  clear A60
  by_cases c7 : t179 = true
  ·subst c7
   have H1 : ((impl_ShipOk.f a1_0 a1_1 a1_2 a1_3 a1_4 a1_5).bind fun t180 => (impl_HeadOn.j0 k (!t180) a0_0 a0_1 a0_2 a0_3 a0_4 a0_5 a1_0 a1_1 a1_2 a1_3 a1_4 a1_5)) = some r := by rw [if_pos rfl] at H; exact H
   clear H
   have H := H1
   clear H1
   replace H := Option.bind_eq_some_iff.mp H
   obtain ⟨t180, A80, H⟩ := H
   replace H : (impl_HeadOn.j0 k (!t180) a0_0 a0_1 a0_2 a0_3 a0_4 a0_5 a1_0 a1_1 a1_2 a1_3 a1_4 a1_5) = some r := H
   have A8 := Aside0.mk A80
   clear A80
   have H' := Aside0.mk H
   clear H
   have hnb9 := NB177_178.out
   have hnc9 := NB178_177.out
   have hcz10_0 : w2.cell? ⟨gb177, 0, none⟩ = some (.int .i64 a0_0) := bc BK177.out 0
   have hcz10_1 : w2.cell? ⟨gb177, 1, none⟩ = some (.int .i64 a0_1) := bc BK177.out 1
   have hcz10_2 : w2.cell? ⟨gb177, 2, none⟩ = some (.int .i64 a0_2) := bc BK177.out 2
   have hcz10_3 : w2.cell? ⟨gb177, 3, none⟩ = some (.int .i64 a0_3) := bc BK177.out 3
   have hcz10_4 : w2.cell? ⟨gb177, 4, none⟩ = some (.int .i64 a0_4) := bc BK177.out 4
   have hcz10_5 : w2.cell? ⟨gb177, 5, none⟩ = some (.int .i64 a0_5) := bc BK177.out 5
   have hfz10_0 := blk_frozen BK177.out 0
   have hfz10_1 := blk_frozen BK177.out 1
   have hfz10_2 := blk_frozen BK177.out 2
   have hfz10_3 := blk_frozen BK177.out 3
   have hfz10_4 := blk_frozen BK177.out 4
   have hfz10_5 := blk_frozen BK177.out 5
   go_wp2_with (first | ((with_reducible refine gate_callee (f := 17) rfl ?_); refine goesL_ (some 8) rfl rfl Try.func17 (by kernel_rfl) rfl #[.agg #[.int .i64 a0_0, .int .i64 a0_1, .int .i64 a0_2, .int .i64 a0_3, .int .i64 a0_4, .int .i64 a0_5]] rfl s5_5 ?_; (with_reducible refine (impl_ShipOk.calls a0_0 a0_1 a0_2 a0_3 a0_4 a0_5 true _ A6.out).mono ?_); rintro e w3 ⟨rfl, hb⟩; refine ⟨_, rfl, ?_⟩; have n0_ := Aside0.mk (bb (zk BK177.out) hb); have n1_ := Aside0.mk (bb (zk BK178.out) hb); have n2_ := Aside0.mk (below_step s5_0 hb); clear BK177; clear BK178; clear HB; have BK177 := n0_; have BK178 := n1_; have HB := n2_; clear n0_ n1_ n2_; (try clear hb); (try clear hb2); (try clear hk); (try clear hi); have hcz12_0 : w3.cell? ⟨gb178, 0, none⟩ = some (.int .i64 a1_0) := bc BK178.out 0; have hcz12_1 : w3.cell? ⟨gb178, 1, none⟩ = some (.int .i64 a1_1) := bc BK178.out 1; have hcz12_2 : w3.cell? ⟨gb178, 2, none⟩ = some (.int .i64 a1_2) := bc BK178.out 2; have hcz12_3 : w3.cell? ⟨gb178, 3, none⟩ = some (.int .i64 a1_3) := bc BK178.out 3; have hcz12_4 : w3.cell? ⟨gb178, 4, none⟩ = some (.int .i64 a1_4) := bc BK178.out 4; have hcz12_5 : w3.cell? ⟨gb178, 5, none⟩ = some (.int .i64 a1_5) := bc BK178.out 5; have hfz12_0 := blk_frozen BK178.out 0; have hfz12_1 := blk_frozen BK178.out 1; have hfz12_2 := blk_frozen BK178.out 2; have hfz12_3 := blk_frozen BK178.out 3; have hfz12_4 := blk_frozen BK178.out 4; have hfz12_5 := blk_frozen BK178.out 5) | (go_at_call 17; (with_reducible refine (impl_ShipOk.calls a1_0 a1_1 a1_2 a1_3 a1_4 a1_5 t180 _ A8.out).mono ?_); rintro e w4 ⟨rfl, hb⟩; have n0_ := Aside0.mk (bb (zk BK177.out) hb); have n1_ := Aside0.mk (bb (zk BK178.out) hb); have n2_ := Aside0.mk (below_step s5_0 hb); clear BK177; clear BK178; clear HB; have BK177 := n0_; have BK178 := n1_; have HB := n2_; clear n0_ n1_ n2_; (try clear hb); (try clear hb2); (try clear hk); (try clear hi)))
   go_meet
   case rel => exact ⟨_, (!t180), (by first | rfl | (simp; done) | (simp [*]; done)), H', ⟨by first | omega | exact Nat.le_refl _⟩, ⟨by (with_reducible repeat (first | refine blk_drewN ?_ _ | refine blk_drew ?_ | refine blk_alloc ?_ _)); exact BK177.out⟩, ⟨by (with_reducible repeat (first | refine blk_drewN ?_ _ | refine blk_drew ?_ | refine blk_alloc ?_ _)); exact BK178.out⟩, ⟨by repeat (first | (with_reducible first | exact HB.out | apply below_alloc | apply pw_below_drewN | apply below_drew1 | refine below_set ?_ GE177.out | refine below_set ?_ GE178.out) | exact HB.out)⟩⟩
  ·replace c7 := Bool.eq_false_iff.mpr c7
   subst c7
   have H1 : (impl_HeadOn.j0 k true a0_0 a0_1 a0_2 a0_3 a0_4 a0_5 a1_0 a1_1 a1_2 a1_3 a1_4 a1_5) = some r := by rw [if_neg (show ¬ (false = true) by decide)] at H; exact H
   clear H
   have H := H1
   clear H1
   have H' := Aside0.mk H
   clear H
   have hnb14 := NB177_178.out
   have hnc14 := NB178_177.out
   have hcz15_0 : w2.cell? ⟨gb177, 0, none⟩ = some (.int .i64 a0_0) := bc BK177.out 0
   have hcz15_1 : w2.cell? ⟨gb177, 1, none⟩ = some (.int .i64 a0_1) := bc BK177.out 1
   have hcz15_2 : w2.cell? ⟨gb177, 2, none⟩ = some (.int .i64 a0_2) := bc BK177.out 2
   have hcz15_3 : w2.cell? ⟨gb177, 3, none⟩ = some (.int .i64 a0_3) := bc BK177.out 3
   have hcz15_4 : w2.cell? ⟨gb177, 4, none⟩ = some (.int .i64 a0_4) := bc BK177.out 4
   have hcz15_5 : w2.cell? ⟨gb177, 5, none⟩ = some (.int .i64 a0_5) := bc BK177.out 5
   have hfz15_0 := blk_frozen BK177.out 0
   have hfz15_1 := blk_frozen BK177.out 1
   have hfz15_2 := blk_frozen BK177.out 2
   have hfz15_3 := blk_frozen BK177.out 3
   have hfz15_4 := blk_frozen BK177.out 4
   have hfz15_5 := blk_frozen BK177.out 5
   go_wp2_with (first | ((with_reducible refine gate_callee (f := 17) rfl ?_); refine goesL_ (some 8) rfl rfl Try.func17 (by kernel_rfl) rfl #[.agg #[.int .i64 a0_0, .int .i64 a0_1, .int .i64 a0_2, .int .i64 a0_3, .int .i64 a0_4, .int .i64 a0_5]] rfl s5_5 ?_; (with_reducible refine (impl_ShipOk.calls a0_0 a0_1 a0_2 a0_3 a0_4 a0_5 false _ A6.out).mono ?_); rintro e w3 ⟨rfl, hb⟩; refine ⟨_, rfl, ?_⟩; have n0_ := Aside0.mk (bb (zk BK177.out) hb); have n1_ := Aside0.mk (bb (zk BK178.out) hb); have n2_ := Aside0.mk (below_step s5_0 hb); clear BK177; clear BK178; clear HB; have BK177 := n0_; have BK178 := n1_; have HB := n2_; clear n0_ n1_ n2_; (try clear hb); (try clear hb2); (try clear hk); (try clear hi)))
   go_meet
   case rel => exact ⟨_, (true), (by first | rfl | (simp; done) | (simp [*]; done)), H', ⟨by first | omega | exact Nat.le_refl _⟩, ⟨by (with_reducible repeat (first | refine blk_drewN ?_ _ | refine blk_drew ?_ | refine blk_alloc ?_ _)); exact BK177.out⟩, ⟨by (with_reducible repeat (first | refine blk_drewN ?_ _ | refine blk_drew ?_ | refine blk_alloc ?_ _)); exact BK178.out⟩, ⟨by repeat (first | (with_reducible first | exact HB.out | apply below_alloc | apply pw_below_drewN | apply below_drew1 | refine below_set ?_ GE177.out | refine below_set ?_ GE178.out) | exact HB.out)⟩⟩
 case rest =>
  clear HC3
  (try clear c1); (try clear p2); (try clear c3); (try clear c7); (try clear c9); (try clear c14); (try clear hcz10_0); (try clear hcz10_1); (try clear hcz10_2); (try clear hcz10_3); (try clear hcz10_4); (try clear hcz10_5); (try clear hcz12_0); (try clear hcz12_1); (try clear hcz12_2); (try clear hcz12_3); (try clear hcz12_4); (try clear hcz12_5); (try clear hcz15_0); (try clear hcz15_1); (try clear hcz15_2); (try clear hcz15_3); (try clear hcz15_4); (try clear hcz15_5); (try clear hfz10_0); (try clear hfz10_1); (try clear hfz10_2); (try clear hfz10_3); (try clear hfz10_4); (try clear hfz10_5); (try clear hfz12_0); (try clear hfz12_1); (try clear hfz12_2); (try clear hfz12_3); (try clear hfz12_4); (try clear hfz12_5); (try clear hfz15_0); (try clear hfz15_1); (try clear hfz15_2); (try clear hfz15_3); (try clear hfz15_4); (try clear hfz15_5)
  obtain ⟨kq, x14_2, rfl, HA, HJ2, BK177, BK178, HB⟩ := hcut
  cases kq with
  | zero => exact absurd HA.out (by simp [impl_HeadOn.j0])
  | succ kj2 =>
   have H := HA.out
   clear HA
   simp only [impl_HeadOn.j0] at H
   by_cases c17 : x14_2 = true
   ·subst c17
    have H1 : (some false) = some r := by rw [if_pos rfl] at H; exact H
    clear H
    have H := H1
    clear H1
    obtain rfl := Option.some.inj H
    go_wp2
    go_ret
    exact ⟨by first | rfl | (simp [errW_none, errW_some] <;> rfl) | (simp [*, errW_none, errW_some] <;> rfl), by repeat (first | (with_reducible first | exact HB.out | apply below_alloc | apply pw_below_drewN | apply below_drew1 | refine below_set ?_ GE177.out | refine below_set ?_ GE178.out) | exact HB.out)⟩
   ·replace c17 := Bool.eq_false_iff.mpr c17
    subst c17
    have H1 : ((impl_Ship_way.f a0_0 a0_1 a0_2 a0_3 a0_4 a0_5).bind fun bt181 => ((impl_Ship_way.f a1_0 a1_1 a1_2 a1_3 a1_4 a1_5).bind fun bt183 => ((impl_vec_dot.f bt181.1 bt181.2 bt183.1 bt183.2).bind fun t187 => (if t187 < 0 then ((impl_vec_cross.f bt181.1 bt181.2 bt183.1 bt183.2).bind fun t188 => ((impl_square.f t188).bind fun t189 => ((impl_vec_dot.f bt181.1 bt181.2 bt183.1 bt183.2).bind fun t190 => ((impl_square.f t190).bind fun t191 => (if (IntKind.u64.wrap (t189 * 100)) ≤ t191 then ((impl_bearing.f a1_0 a1_1 a1_2 a1_3 a1_4 a1_5 a0_0 a0_1 a0_2 a0_3 a0_4 a0_5).bind fun bt192 => ((impl_ahead.f bt192.1 bt192.2 bt181.1 bt181.2).bind fun t194 => (if t194 = true then ((impl_bearing.f a0_0 a0_1 a0_2 a0_3 a0_4 a0_5 a1_0 a1_1 a1_2 a1_3 a1_4 a1_5).bind fun bt195 => ((impl_ahead.f bt195.1 bt195.2 bt183.1 bt183.2).bind fun t197 => (some t197))) else (some false)))) else (some false)))))) else (some false))))) = some r := by rw [if_neg (show ¬ (false = true) by decide)] at H; exact H
    clear H
    have H := H1
    clear H1
    replace H := Option.bind_eq_some_iff.mp H
    obtain ⟨⟨t181, t182⟩, A180, H⟩ := H
    replace H : ((impl_Ship_way.f a1_0 a1_1 a1_2 a1_3 a1_4 a1_5).bind fun bt183 => ((impl_vec_dot.f t181 t182 bt183.1 bt183.2).bind fun t187 => (if t187 < 0 then ((impl_vec_cross.f t181 t182 bt183.1 bt183.2).bind fun t188 => ((impl_square.f t188).bind fun t189 => ((impl_vec_dot.f t181 t182 bt183.1 bt183.2).bind fun t190 => ((impl_square.f t190).bind fun t191 => (if (IntKind.u64.wrap (t189 * 100)) ≤ t191 then ((impl_bearing.f a1_0 a1_1 a1_2 a1_3 a1_4 a1_5 a0_0 a0_1 a0_2 a0_3 a0_4 a0_5).bind fun bt192 => ((impl_ahead.f bt192.1 bt192.2 t181 t182).bind fun t194 => (if t194 = true then ((impl_bearing.f a0_0 a0_1 a0_2 a0_3 a0_4 a0_5 a1_0 a1_1 a1_2 a1_3 a1_4 a1_5).bind fun bt195 => ((impl_ahead.f bt195.1 bt195.2 bt183.1 bt183.2).bind fun t197 => (some t197))) else (some false)))) else (some false)))))) else (some false)))) = some r := H
    have A18 := Aside0.mk A180
    clear A180
    replace H := Option.bind_eq_some_iff.mp H
    obtain ⟨⟨t183, t184⟩, A190, H⟩ := H
    replace H : ((impl_vec_dot.f t181 t182 t183 t184).bind fun t187 => (if t187 < 0 then ((impl_vec_cross.f t181 t182 t183 t184).bind fun t188 => ((impl_square.f t188).bind fun t189 => ((impl_vec_dot.f t181 t182 t183 t184).bind fun t190 => ((impl_square.f t190).bind fun t191 => (if (IntKind.u64.wrap (t189 * 100)) ≤ t191 then ((impl_bearing.f a1_0 a1_1 a1_2 a1_3 a1_4 a1_5 a0_0 a0_1 a0_2 a0_3 a0_4 a0_5).bind fun bt192 => ((impl_ahead.f bt192.1 bt192.2 t181 t182).bind fun t194 => (if t194 = true then ((impl_bearing.f a0_0 a0_1 a0_2 a0_3 a0_4 a0_5 a1_0 a1_1 a1_2 a1_3 a1_4 a1_5).bind fun bt195 => ((impl_ahead.f bt195.1 bt195.2 t183 t184).bind fun t197 => (some t197))) else (some false)))) else (some false)))))) else (some false))) = some r := H
    have A19 := Aside0.mk A190
    clear A190
    replace H := Option.bind_eq_some_iff.mp H
    obtain ⟨t187, A200, H⟩ := H
    replace H : (if t187 < 0 then ((impl_vec_cross.f t181 t182 t183 t184).bind fun t188 => ((impl_square.f t188).bind fun t189 => ((impl_vec_dot.f t181 t182 t183 t184).bind fun t190 => ((impl_square.f t190).bind fun t191 => (if (IntKind.u64.wrap (t189 * 100)) ≤ t191 then ((impl_bearing.f a1_0 a1_1 a1_2 a1_3 a1_4 a1_5 a0_0 a0_1 a0_2 a0_3 a0_4 a0_5).bind fun bt192 => ((impl_ahead.f bt192.1 bt192.2 t181 t182).bind fun t194 => (if t194 = true then ((impl_bearing.f a0_0 a0_1 a0_2 a0_3 a0_4 a0_5 a1_0 a1_1 a1_2 a1_3 a1_4 a1_5).bind fun bt195 => ((impl_ahead.f bt195.1 bt195.2 t183 t184).bind fun t197 => (some t197))) else (some false)))) else (some false)))))) else (some false)) = some r := H
    have A20 := Aside0.mk A200
    clear A200
    by_cases c21 : t187 < 0
    ·rw [if_pos c21] at H
     have c21b0 : decide (t187 < 0) = true := decide_eq_true c21
     clear c21
     replace H := Option.bind_eq_some_iff.mp H
     obtain ⟨t188, A220, H⟩ := H
     replace H : ((impl_square.f t188).bind fun t189 => ((impl_vec_dot.f t181 t182 t183 t184).bind fun t190 => ((impl_square.f t190).bind fun t191 => (if (IntKind.u64.wrap (t189 * 100)) ≤ t191 then ((impl_bearing.f a1_0 a1_1 a1_2 a1_3 a1_4 a1_5 a0_0 a0_1 a0_2 a0_3 a0_4 a0_5).bind fun bt192 => ((impl_ahead.f bt192.1 bt192.2 t181 t182).bind fun t194 => (if t194 = true then ((impl_bearing.f a0_0 a0_1 a0_2 a0_3 a0_4 a0_5 a1_0 a1_1 a1_2 a1_3 a1_4 a1_5).bind fun bt195 => ((impl_ahead.f bt195.1 bt195.2 t183 t184).bind fun t197 => (some t197))) else (some false)))) else (some false))))) = some r := H
     have A22 := Aside0.mk A220
     clear A220
     replace H := Option.bind_eq_some_iff.mp H
     obtain ⟨t189, A230, H⟩ := H
     replace H : ((impl_vec_dot.f t181 t182 t183 t184).bind fun t190 => ((impl_square.f t190).bind fun t191 => (if (IntKind.u64.wrap (t189 * 100)) ≤ t191 then ((impl_bearing.f a1_0 a1_1 a1_2 a1_3 a1_4 a1_5 a0_0 a0_1 a0_2 a0_3 a0_4 a0_5).bind fun bt192 => ((impl_ahead.f bt192.1 bt192.2 t181 t182).bind fun t194 => (if t194 = true then ((impl_bearing.f a0_0 a0_1 a0_2 a0_3 a0_4 a0_5 a1_0 a1_1 a1_2 a1_3 a1_4 a1_5).bind fun bt195 => ((impl_ahead.f bt195.1 bt195.2 t183 t184).bind fun t197 => (some t197))) else (some false)))) else (some false)))) = some r := H
     have A23 := Aside0.mk A230
     clear A230
     replace H := Option.bind_eq_some_iff.mp H
     obtain ⟨t190, A240, H⟩ := H
     replace H : ((impl_square.f t190).bind fun t191 => (if (IntKind.u64.wrap (t189 * 100)) ≤ t191 then ((impl_bearing.f a1_0 a1_1 a1_2 a1_3 a1_4 a1_5 a0_0 a0_1 a0_2 a0_3 a0_4 a0_5).bind fun bt192 => ((impl_ahead.f bt192.1 bt192.2 t181 t182).bind fun t194 => (if t194 = true then ((impl_bearing.f a0_0 a0_1 a0_2 a0_3 a0_4 a0_5 a1_0 a1_1 a1_2 a1_3 a1_4 a1_5).bind fun bt195 => ((impl_ahead.f bt195.1 bt195.2 t183 t184).bind fun t197 => (some t197))) else (some false)))) else (some false))) = some r := H
     have A24 := Aside0.mk A240
     clear A240
     replace H := Option.bind_eq_some_iff.mp H
     obtain ⟨t191, A250, H⟩ := H
     replace H : (if (IntKind.u64.wrap (t189 * 100)) ≤ t191 then ((impl_bearing.f a1_0 a1_1 a1_2 a1_3 a1_4 a1_5 a0_0 a0_1 a0_2 a0_3 a0_4 a0_5).bind fun bt192 => ((impl_ahead.f bt192.1 bt192.2 t181 t182).bind fun t194 => (if t194 = true then ((impl_bearing.f a0_0 a0_1 a0_2 a0_3 a0_4 a0_5 a1_0 a1_1 a1_2 a1_3 a1_4 a1_5).bind fun bt195 => ((impl_ahead.f bt195.1 bt195.2 t183 t184).bind fun t197 => (some t197))) else (some false)))) else (some false)) = some r := H
     have A25 := Aside0.mk A250
     clear A250
     by_cases c26 : (IntKind.u64.wrap (t189 * 100)) ≤ t191
     ·rw [if_pos c26] at H
      have c26b0 : decide ((IntKind.u64.wrap (t189 * 100)) ≤ t191) = true := decide_eq_true c26
      clear c26
      replace H := Option.bind_eq_some_iff.mp H
      obtain ⟨⟨t192, t193⟩, A270, H⟩ := H
      replace H : ((impl_ahead.f t192 t193 t181 t182).bind fun t194 => (if t194 = true then ((impl_bearing.f a0_0 a0_1 a0_2 a0_3 a0_4 a0_5 a1_0 a1_1 a1_2 a1_3 a1_4 a1_5).bind fun bt195 => ((impl_ahead.f bt195.1 bt195.2 t183 t184).bind fun t197 => (some t197))) else (some false))) = some r := H
      have A27 := Aside0.mk A270
      clear A270
      replace H := Option.bind_eq_some_iff.mp H
      obtain ⟨t194, A280, H⟩ := H
      replace H : (if t194 = true then ((impl_bearing.f a0_0 a0_1 a0_2 a0_3 a0_4 a0_5 a1_0 a1_1 a1_2 a1_3 a1_4 a1_5).bind fun bt195 => ((impl_ahead.f bt195.1 bt195.2 t183 t184).bind fun t197 => (some t197))) else (some false)) = some r := H
      have A28 := Aside0.mk A280
      clear A280
      by_cases c29 : t194 = true
      ·subst c29
       have H1 : ((impl_bearing.f a0_0 a0_1 a0_2 a0_3 a0_4 a0_5 a1_0 a1_1 a1_2 a1_3 a1_4 a1_5).bind fun bt195 => ((impl_ahead.f bt195.1 bt195.2 t183 t184).bind fun t197 => (some t197))) = some r := by rw [if_pos rfl] at H; exact H
       clear H
       have H := H1
       clear H1
       replace H := Option.bind_eq_some_iff.mp H
       obtain ⟨⟨t195, t196⟩, A300, H⟩ := H
       replace H : ((impl_ahead.f t195 t196 t183 t184).bind fun t197 => (some t197)) = some r := H
       have A30 := Aside0.mk A300
       clear A300
       replace H := Option.bind_eq_some_iff.mp H
       obtain ⟨t197, A310, H⟩ := H
       replace H : (some t197) = some r := H
       have A31 := Aside0.mk A310
       clear A310
       obtain rfl := Option.some.inj H
       try go_wp2
       have n0_ := Aside0.mk (blk_drew BK177.out)
       have n1_ := Aside0.mk (blk_drew BK178.out)
       have n2_ := Aside0.mk (below_drew1 HB.out)
       clear BK177 BK178 HB
       have BK177 := n0_
       have BK178 := n1_
       have HB := n2_
       clear n0_ n1_ n2_
       refine start_ (n := 8) (S := fun w' => w'.cell? ⟨gb177, 0, none⟩ = some (.int .i64 a0_0) ∧ w'.cell? ⟨gb177, 1, none⟩ = some (.int .i64 a0_1) ∧ w'.cell? ⟨gb177, 2, none⟩ = some (.int .i64 a0_2) ∧ w'.cell? ⟨gb177, 3, none⟩ = some (.int .i64 a0_3) ∧ w'.cell? ⟨gb177, 4, none⟩ = some (.int .i64 a0_4) ∧ w'.cell? ⟨gb177, 5, none⟩ = some (.int .i64 a0_5) ∧ w'.cell? ⟨gb178, 0, none⟩ = some (.int .i64 a1_0) ∧ w'.cell? ⟨gb178, 1, none⟩ = some (.int .i64 a1_1) ∧ w'.cell? ⟨gb178, 2, none⟩ = some (.int .i64 a1_2) ∧ w'.cell? ⟨gb178, 3, none⟩ = some (.int .i64 a1_3) ∧ w'.cell? ⟨gb178, 4, none⟩ = some (.int .i64 a1_4) ∧ w'.cell? ⟨gb178, 5, none⟩ = some (.int .i64 a1_5)) (ds := []) #[false, false, false, false, false, false, false, false] (by kernel_rfl) rfl rfl ⟨bc BK177.out 0, bc BK177.out 1, bc BK177.out 2, bc BK177.out 3, bc BK177.out 4, bc BK177.out 5, bc BK178.out 0, bc BK178.out 1, bc BK178.out 2, bc BK178.out 3, bc BK178.out 4, bc BK178.out 5⟩ (fun hHeld => ?_); refine with_tabW impl_HeadOn.tab3 impl_HeadOn.bits3 (fun HT_ HW_ => ?_)
       generalize wc.drew = w3 at BK177 BK178 HB hHeld ⊢
       refine take_ (i := 0) (N := some 15) (v := ?_) (a' := ?_) (bz 8 1) rfl rfl (take_ofW HT_.out HW_.out (by kernel_rfl)) (fun _ _ _ h => h) (Or.inl ⟨by rfl, ?_⟩) hHeld ?_ ?_
       rotate_left
       ·exact t5_4
       rotate_left
       ·exact t5_1
       refine take_ (i := 2) (N := some 17) (v := ?_) (a' := ?_) (bz 8 5) rfl rfl (take_ofW HT_.out HW_.out (by kernel_rfl)) (fun _ _ _ h => h) (Or.inl ⟨by rfl, ?_⟩) hHeld ?_ ?_
       rotate_left
       ·exact t5_4
       rotate_left
       ·exact t5_1
       refine join_ (σ := Nat × Nat) 2 (bz 8 63) (fun s_ => [(16, .agg #[.int .i64 t181, .int .i64 t182]), (18, .agg #[.int .i64 t183, .int .i64 t184]), (5, .pointer (some ⟨s_.1, 0, none⟩)), (6, .pointer (some ⟨s_.2, 0, none⟩))]) (fun s_ w' => (w'.cell? ⟨gb177, 0, none⟩ = some (.int .i64 a0_0) ∧ w'.cell? ⟨gb177, 1, none⟩ = some (.int .i64 a0_1) ∧ w'.cell? ⟨gb177, 2, none⟩ = some (.int .i64 a0_2) ∧ w'.cell? ⟨gb177, 3, none⟩ = some (.int .i64 a0_3) ∧ w'.cell? ⟨gb177, 4, none⟩ = some (.int .i64 a0_4) ∧ w'.cell? ⟨gb177, 5, none⟩ = some (.int .i64 a0_5) ∧ w'.cell? ⟨gb178, 0, none⟩ = some (.int .i64 a1_0) ∧ w'.cell? ⟨gb178, 1, none⟩ = some (.int .i64 a1_1) ∧ w'.cell? ⟨gb178, 2, none⟩ = some (.int .i64 a1_2) ∧ w'.cell? ⟨gb178, 3, none⟩ = some (.int .i64 a1_3) ∧ w'.cell? ⟨gb178, 4, none⟩ = some (.int .i64 a1_4) ∧ w'.cell? ⟨gb178, 5, none⟩ = some (.int .i64 a1_5)) ∧ (w'.heap[gb177]? = some (.cells #[.int .i64 a0_0, .int .i64 a0_1, .int .i64 a0_2, .int .i64 a0_3, .int .i64 a0_4, .int .i64 a0_5] 25 (0, 0))) ∧ (w'.heap[gb178]? = some (.cells #[.int .i64 a1_0, .int .i64 a1_1, .int .i64 a1_2, .int .i64 a1_3, .int .i64 a1_4, .int .i64 a1_5] 25 (0, 0))) ∧ (w'.heap[s_.1]? = some (.cells #[.int .i64 0, .int .i64 0] 89 (0, 0))) ∧ (w'.heap[s_.2]? = some (.cells #[.int .i64 0, .int .i64 0] 89 (0, 0))) ∧ (w.heap.size ≤ s_.1) ∧ (w.heap.size ≤ s_.1) ∧ (gb177 ≠ s_.1) ∧ (s_.1 ≠ gb177) ∧ (gb178 ≠ s_.1) ∧ (s_.1 ≠ gb178) ∧ (s_.2 ≠ s_.1) ∧ (s_.1 ≠ s_.2) ∧ (w.heap.size ≤ s_.2) ∧ (w.heap.size ≤ s_.2) ∧ (gb177 ≠ s_.2) ∧ (s_.2 ≠ gb177) ∧ (gb178 ≠ s_.2) ∧ (s_.2 ≠ gb178) ∧ (Below w.heap.size w w')) ?_ ?_
       rotate_left
       ·exact t5_0
       rintro ⟨gb185, gb186⟩ w4 ⟨hS_, h0_, h1_, h2_, h3_, h4_, h5_, h6_, h7_, h8_, h9_, h10_, h11_, h12_, h13_, h14_, h15_, h16_, h17_, h18_⟩
       have n0_ : Aside0 (w4.heap[gb177]? = some (.cells #[.int .i64 a0_0, .int .i64 a0_1, .int .i64 a0_2, .int .i64 a0_3, .int .i64 a0_4, .int .i64 a0_5] 25 (0, 0))) := ⟨h0_⟩
       have n1_ : Aside0 (w4.heap[gb178]? = some (.cells #[.int .i64 a1_0, .int .i64 a1_1, .int .i64 a1_2, .int .i64 a1_3, .int .i64 a1_4, .int .i64 a1_5] 25 (0, 0))) := ⟨h1_⟩
       have n2_ : Aside0 (w4.heap[gb185]? = some (.cells #[.int .i64 0, .int .i64 0] 89 (0, 0))) := ⟨h2_⟩
       have n3_ : Aside0 (w4.heap[gb186]? = some (.cells #[.int .i64 0, .int .i64 0] 89 (0, 0))) := ⟨h3_⟩
       have n4_ : Aside0 (w.heap.size ≤ gb185) := ⟨h4_⟩
       have n5_ : Aside0 (w.heap.size ≤ gb185) := ⟨h5_⟩
       have n6_ : Aside0 (gb177 ≠ gb185) := ⟨h6_⟩
       have n7_ : Aside0 (gb185 ≠ gb177) := ⟨h7_⟩
       have n8_ : Aside0 (gb178 ≠ gb185) := ⟨h8_⟩
       have n9_ : Aside0 (gb185 ≠ gb178) := ⟨h9_⟩
       have n10_ : Aside0 (gb186 ≠ gb185) := ⟨h10_⟩
       have n11_ : Aside0 (gb185 ≠ gb186) := ⟨h11_⟩
       have n12_ : Aside0 (w.heap.size ≤ gb186) := ⟨h12_⟩
       have n13_ : Aside0 (w.heap.size ≤ gb186) := ⟨h13_⟩
       have n14_ : Aside0 (gb177 ≠ gb186) := ⟨h14_⟩
       have n15_ : Aside0 (gb186 ≠ gb177) := ⟨h15_⟩
       have n16_ : Aside0 (gb178 ≠ gb186) := ⟨h16_⟩
       have n17_ : Aside0 (gb186 ≠ gb178) := ⟨h17_⟩
       have n18_ : Aside0 (Below w.heap.size w w4) := ⟨h18_⟩
       clear BK177 BK178 HB h0_ h1_ h2_ h3_ h4_ h5_ h6_ h7_ h8_ h9_ h10_ h11_ h12_ h13_ h14_ h15_ h16_ h17_ h18_
       have BK177 := n0_
       have BK178 := n1_
       have BK185 := n2_
       have BK186 := n3_
       have GW185 := n4_
       have GE185 := n5_
       have NB177_185 := n6_
       have NB185_177 := n7_
       have NB178_185 := n8_
       have NB185_178 := n9_
       have NB186_185 := n10_
       have NB185_186 := n11_
       have GW186 := n12_
       have GE186 := n13_
       have NB177_186 := n14_
       have NB186_177 := n15_
       have NB178_186 := n16_
       have NB186_178 := n17_
       have HB := n18_
       clear n0_ n1_ n2_ n3_ n4_ n5_ n6_ n7_ n8_ n9_ n10_ n11_ n12_ n13_ n14_ n15_ n16_ n17_ n18_
       have hHeld : w4.cell? ⟨gb177, 0, none⟩ = some (.int .i64 a0_0) ∧ w4.cell? ⟨gb177, 1, none⟩ = some (.int .i64 a0_1) ∧ w4.cell? ⟨gb177, 2, none⟩ = some (.int .i64 a0_2) ∧ w4.cell? ⟨gb177, 3, none⟩ = some (.int .i64 a0_3) ∧ w4.cell? ⟨gb177, 4, none⟩ = some (.int .i64 a0_4) ∧ w4.cell? ⟨gb177, 5, none⟩ = some (.int .i64 a0_5) ∧ w4.cell? ⟨gb178, 0, none⟩ = some (.int .i64 a1_0) ∧ w4.cell? ⟨gb178, 1, none⟩ = some (.int .i64 a1_1) ∧ w4.cell? ⟨gb178, 2, none⟩ = some (.int .i64 a1_2) ∧ w4.cell? ⟨gb178, 3, none⟩ = some (.int .i64 a1_3) ∧ w4.cell? ⟨gb178, 4, none⟩ = some (.int .i64 a1_4) ∧ w4.cell? ⟨gb178, 5, none⟩ = some (.int .i64 a1_5) := hS_
       refine norm_ (a' := ?_) ?_ ?_
       rotate_left
       ·simp only [putAll, Act.put, y1, y2, y3]
        rfl
       refine one_ (i := 6) (N := none) (bz 8 127) rfl rfl (one_of HT_.out (by kernel_rfl)) (by decide) (fun K hK => ?_)
       have hs38 : w4.cell? ⟨gb185, 0, none⟩ = some (.int .i64 0) := bc BK185.out 0
       have hfs38 := blk_frozen BK185.out 0
       have hns38_0 := NB177_185.out
       have hns38_1 := NB178_185.out
       have hns38_3 := NB186_185.out
       have hms38_0 := NB185_177.out
       have hms38_1 := NB185_178.out
       have hms38_3 := NB185_186.out
       have hs39 : w4.cell? ⟨gb185, 1, none⟩ = some (.int .i64 0) := bc BK185.out 1
       have hfs39 := blk_frozen BK185.out 1
       have hns39_0 := NB177_185.out
       have hns39_1 := NB178_185.out
       have hns39_3 := NB186_185.out
       have hms39_0 := NB185_177.out
       have hms39_1 := NB185_178.out
       have hms39_3 := NB185_186.out
       refine skip_ (w1 := ?_) (by rfl) rfl ?_ ?_
       rotate_left
       ·go_simp
        rfl
       refine hK.out _ _ ⟨((cell_far (p := ⟨gb185, _, none⟩) NB177_185.out _).trans (((cell_far (p := ⟨gb185, _, none⟩) NB177_185.out _).trans (hHeld.1)))), ((cell_far (p := ⟨gb185, _, none⟩) NB177_185.out _).trans (((cell_far (p := ⟨gb185, _, none⟩) NB177_185.out _).trans (hHeld.2.1)))), ((cell_far (p := ⟨gb185, _, none⟩) NB177_185.out _).trans (((cell_far (p := ⟨gb185, _, none⟩) NB177_185.out _).trans (hHeld.2.2.1)))), ((cell_far (p := ⟨gb185, _, none⟩) NB177_185.out _).trans (((cell_far (p := ⟨gb185, _, none⟩) NB177_185.out _).trans (hHeld.2.2.2.1)))), ((cell_far (p := ⟨gb185, _, none⟩) NB177_185.out _).trans (((cell_far (p := ⟨gb185, _, none⟩) NB177_185.out _).trans (hHeld.2.2.2.2.1)))), ((cell_far (p := ⟨gb185, _, none⟩) NB177_185.out _).trans (((cell_far (p := ⟨gb185, _, none⟩) NB177_185.out _).trans (hHeld.2.2.2.2.2.1)))), ((cell_far (p := ⟨gb185, _, none⟩) NB178_185.out _).trans (((cell_far (p := ⟨gb185, _, none⟩) NB178_185.out _).trans (hHeld.2.2.2.2.2.2.1)))), ((cell_far (p := ⟨gb185, _, none⟩) NB178_185.out _).trans (((cell_far (p := ⟨gb185, _, none⟩) NB178_185.out _).trans (hHeld.2.2.2.2.2.2.2.1)))), ((cell_far (p := ⟨gb185, _, none⟩) NB178_185.out _).trans (((cell_far (p := ⟨gb185, _, none⟩) NB178_185.out _).trans (hHeld.2.2.2.2.2.2.2.2.1)))), ((cell_far (p := ⟨gb185, _, none⟩) NB178_185.out _).trans (((cell_far (p := ⟨gb185, _, none⟩) NB178_185.out _).trans (hHeld.2.2.2.2.2.2.2.2.2.1)))), ((cell_far (p := ⟨gb185, _, none⟩) NB178_185.out _).trans (((cell_far (p := ⟨gb185, _, none⟩) NB178_185.out _).trans (hHeld.2.2.2.2.2.2.2.2.2.2.1)))), ((cell_far (p := ⟨gb185, _, none⟩) NB178_185.out _).trans (((cell_far (p := ⟨gb185, _, none⟩) NB178_185.out _).trans (hHeld.2.2.2.2.2.2.2.2.2.2.2))))⟩ (fun hHeld => ?_)
       clear hK K
       refine one_ (i := 7) (N := none) (bz 8 255) rfl rfl (one_of HT_.out (by kernel_rfl)) (by decide) (fun K hK => ?_)
       have hs40 : w4.cell? ⟨gb186, 0, none⟩ = some (.int .i64 0) := bc BK186.out 0
       have hfs40 := blk_frozen BK186.out 0
       have hns40_0 := NB177_186.out
       have hns40_1 := NB178_186.out
       have hns40_2 := NB185_186.out
       have hms40_0 := NB186_177.out
       have hms40_1 := NB186_178.out
       have hms40_2 := NB186_185.out
       have hs41 : w4.cell? ⟨gb186, 1, none⟩ = some (.int .i64 0) := bc BK186.out 1
       have hfs41 := blk_frozen BK186.out 1
       have hns41_0 := NB177_186.out
       have hns41_1 := NB178_186.out
       have hns41_2 := NB185_186.out
       have hms41_0 := NB186_177.out
       have hms41_1 := NB186_178.out
       have hms41_2 := NB186_185.out
       refine skip_ (w1 := ?_) (by rfl) rfl ?_ ?_
       rotate_left
       ·go_simp
        rfl
       refine hK.out _ _ ⟨((cell_far (p := ⟨gb186, _, none⟩) NB177_186.out _).trans (((cell_far (p := ⟨gb186, _, none⟩) NB177_186.out _).trans (hHeld.1)))), ((cell_far (p := ⟨gb186, _, none⟩) NB177_186.out _).trans (((cell_far (p := ⟨gb186, _, none⟩) NB177_186.out _).trans (hHeld.2.1)))), ((cell_far (p := ⟨gb186, _, none⟩) NB177_186.out _).trans (((cell_far (p := ⟨gb186, _, none⟩) NB177_186.out _).trans (hHeld.2.2.1)))), ((cell_far (p := ⟨gb186, _, none⟩) NB177_186.out _).trans (((cell_far (p := ⟨gb186, _, none⟩) NB177_186.out _).trans (hHeld.2.2.2.1)))), ((cell_far (p := ⟨gb186, _, none⟩) NB177_186.out _).trans (((cell_far (p := ⟨gb186, _, none⟩) NB177_186.out _).trans (hHeld.2.2.2.2.1)))), ((cell_far (p := ⟨gb186, _, none⟩) NB177_186.out _).trans (((cell_far (p := ⟨gb186, _, none⟩) NB177_186.out _).trans (hHeld.2.2.2.2.2.1)))), ((cell_far (p := ⟨gb186, _, none⟩) NB178_186.out _).trans (((cell_far (p := ⟨gb186, _, none⟩) NB178_186.out _).trans (hHeld.2.2.2.2.2.2.1)))), ((cell_far (p := ⟨gb186, _, none⟩) NB178_186.out _).trans (((cell_far (p := ⟨gb186, _, none⟩) NB178_186.out _).trans (hHeld.2.2.2.2.2.2.2.1)))), ((cell_far (p := ⟨gb186, _, none⟩) NB178_186.out _).trans (((cell_far (p := ⟨gb186, _, none⟩) NB178_186.out _).trans (hHeld.2.2.2.2.2.2.2.2.1)))), ((cell_far (p := ⟨gb186, _, none⟩) NB178_186.out _).trans (((cell_far (p := ⟨gb186, _, none⟩) NB178_186.out _).trans (hHeld.2.2.2.2.2.2.2.2.2.1)))), ((cell_far (p := ⟨gb186, _, none⟩) NB178_186.out _).trans (((cell_far (p := ⟨gb186, _, none⟩) NB178_186.out _).trans (hHeld.2.2.2.2.2.2.2.2.2.2.1)))), ((cell_far (p := ⟨gb186, _, none⟩) NB178_186.out _).trans (((cell_far (p := ⟨gb186, _, none⟩) NB178_186.out _).trans (hHeld.2.2.2.2.2.2.2.2.2.2.2))))⟩ (fun hHeld => ?_)
       clear hK K
       refine done_ (done_of HT_.out (by kernel_rfl)) ?_
       try go_wp2
       have n0_ : Aside0 (((((w4.setCell ⟨gb185, 0, none⟩ (.int .i64 t181)).setCell ⟨gb185, 1, none⟩ (.int .i64 t182)).setCell ⟨gb186, 0, none⟩ (.int .i64 t183)).setCell ⟨gb186, 1, none⟩ (.int .i64 t184)).heap[gb177]? = some (.cells #[.int .i64 a0_0, .int .i64 a0_1, .int .i64 a0_2, .int .i64 a0_3, .int .i64 a0_4, .int .i64 a0_5] 25 (0, 0))) := ⟨by (with_reducible repeat (first | refine blk_drewN ?_ _ | refine blk_drew ?_ | refine blk_alloc ?_ _)); refine blk_far ?_ NB177_186.out _; (with_reducible repeat (first | refine blk_drewN ?_ _ | refine blk_drew ?_ | refine blk_alloc ?_ _)); refine blk_far ?_ NB177_186.out _; (with_reducible repeat (first | refine blk_drewN ?_ _ | refine blk_drew ?_ | refine blk_alloc ?_ _)); refine blk_far ?_ NB177_185.out _; (with_reducible repeat (first | refine blk_drewN ?_ _ | refine blk_drew ?_ | refine blk_alloc ?_ _)); refine blk_far ?_ NB177_185.out _; (with_reducible repeat (first | refine blk_drewN ?_ _ | refine blk_drew ?_ | refine blk_alloc ?_ _)); exact BK177.out⟩
       have n1_ : Aside0 (((((w4.setCell ⟨gb185, 0, none⟩ (.int .i64 t181)).setCell ⟨gb185, 1, none⟩ (.int .i64 t182)).setCell ⟨gb186, 0, none⟩ (.int .i64 t183)).setCell ⟨gb186, 1, none⟩ (.int .i64 t184)).heap[gb178]? = some (.cells #[.int .i64 a1_0, .int .i64 a1_1, .int .i64 a1_2, .int .i64 a1_3, .int .i64 a1_4, .int .i64 a1_5] 25 (0, 0))) := ⟨by (with_reducible repeat (first | refine blk_drewN ?_ _ | refine blk_drew ?_ | refine blk_alloc ?_ _)); refine blk_far ?_ NB178_186.out _; (with_reducible repeat (first | refine blk_drewN ?_ _ | refine blk_drew ?_ | refine blk_alloc ?_ _)); refine blk_far ?_ NB178_186.out _; (with_reducible repeat (first | refine blk_drewN ?_ _ | refine blk_drew ?_ | refine blk_alloc ?_ _)); refine blk_far ?_ NB178_185.out _; (with_reducible repeat (first | refine blk_drewN ?_ _ | refine blk_drew ?_ | refine blk_alloc ?_ _)); refine blk_far ?_ NB178_185.out _; (with_reducible repeat (first | refine blk_drewN ?_ _ | refine blk_drew ?_ | refine blk_alloc ?_ _)); exact BK178.out⟩
       have n2_ : Aside0 (((((w4.setCell ⟨gb185, 0, none⟩ (.int .i64 t181)).setCell ⟨gb185, 1, none⟩ (.int .i64 t182)).setCell ⟨gb186, 0, none⟩ (.int .i64 t183)).setCell ⟨gb186, 1, none⟩ (.int .i64 t184)).heap[gb185]? = some (.cells #[.int .i64 t181, .int .i64 t182] 89 (0, 0))) := ⟨by (with_reducible repeat (first | refine blk_drewN ?_ _ | refine blk_drew ?_ | refine blk_alloc ?_ _)); refine blk_far ?_ NB185_186.out _; (with_reducible repeat (first | refine blk_drewN ?_ _ | refine blk_drew ?_ | refine blk_alloc ?_ _)); refine blk_far ?_ NB185_186.out _; (with_reducible repeat (first | refine blk_drewN ?_ _ | refine blk_drew ?_ | refine blk_alloc ?_ _)); refine blk_put (cs := #[.int .i64 t181, .int .i64 0]) ?_ 1 _ rfl; (with_reducible repeat (first | refine blk_drewN ?_ _ | refine blk_drew ?_ | refine blk_alloc ?_ _)); refine blk_put (cs := #[.int .i64 0, .int .i64 0]) ?_ 0 _ rfl; (with_reducible repeat (first | refine blk_drewN ?_ _ | refine blk_drew ?_ | refine blk_alloc ?_ _)); exact BK185.out⟩
       have n3_ : Aside0 (((((w4.setCell ⟨gb185, 0, none⟩ (.int .i64 t181)).setCell ⟨gb185, 1, none⟩ (.int .i64 t182)).setCell ⟨gb186, 0, none⟩ (.int .i64 t183)).setCell ⟨gb186, 1, none⟩ (.int .i64 t184)).heap[gb186]? = some (.cells #[.int .i64 t183, .int .i64 t184] 89 (0, 0))) := ⟨by (with_reducible repeat (first | refine blk_drewN ?_ _ | refine blk_drew ?_ | refine blk_alloc ?_ _)); refine blk_put (cs := #[.int .i64 t183, .int .i64 0]) ?_ 1 _ rfl; (with_reducible repeat (first | refine blk_drewN ?_ _ | refine blk_drew ?_ | refine blk_alloc ?_ _)); refine blk_put (cs := #[.int .i64 0, .int .i64 0]) ?_ 0 _ rfl; (with_reducible repeat (first | refine blk_drewN ?_ _ | refine blk_drew ?_ | refine blk_alloc ?_ _)); refine blk_far ?_ NB186_185.out _; (with_reducible repeat (first | refine blk_drewN ?_ _ | refine blk_drew ?_ | refine blk_alloc ?_ _)); refine blk_far ?_ NB186_185.out _; (with_reducible repeat (first | refine blk_drewN ?_ _ | refine blk_drew ?_ | refine blk_alloc ?_ _)); exact BK186.out⟩
       have n4_ : Aside0 (Below w.heap.size w ((((w4.setCell ⟨gb185, 0, none⟩ (.int .i64 t181)).setCell ⟨gb185, 1, none⟩ (.int .i64 t182)).setCell ⟨gb186, 0, none⟩ (.int .i64 t183)).setCell ⟨gb186, 1, none⟩ (.int .i64 t184))) := ⟨by repeat (first | (with_reducible first | exact HB.out | apply below_alloc | apply pw_below_drewN | apply below_drew1 | refine below_set ?_ GE177.out | refine below_set ?_ GE178.out | refine below_set ?_ GE185.out | refine below_set ?_ GE186.out) | exact HB.out)⟩
       (try clear BK177)
       (try clear BK178)
       (try clear BK185)
       (try clear BK186)
       (try clear HB)
       generalize ((((w4.setCell ⟨gb185, 0, none⟩ (.int .i64 t181)).setCell ⟨gb185, 1, none⟩ (.int .i64 t182)).setCell ⟨gb186, 0, none⟩ (.int .i64 t183)).setCell ⟨gb186, 1, none⟩ (.int .i64 t184)) = w5 at n0_ n1_ n2_ n3_ n4_ ⊢
       have BK177 := n0_
       have BK178 := n1_
       have BK185 := n2_
       have BK186 := n3_
       have HB := n4_
       clear n0_ n1_ n2_ n3_ n4_
       have n0_ := Aside0.mk (blk_drew BK177.out)
       have n1_ := Aside0.mk (blk_drew BK178.out)
       have n2_ := Aside0.mk (blk_drew BK185.out)
       have n3_ := Aside0.mk (blk_drew BK186.out)
       have n4_ := Aside0.mk (below_drew1 HB.out)
       clear BK177 BK178 BK185 BK186 HB
       have BK177 := n0_
       have BK178 := n1_
       have BK185 := n2_
       have BK186 := n3_
       have HB := n4_
       clear n0_ n1_ n2_ n3_ n4_
       refine start_ (n := 31) (S := fun w' => w'.cell? ⟨gb185, 0, none⟩ = some (.int .i64 t181) ∧ w'.cell? ⟨gb185, 1, none⟩ = some (.int .i64 t182) ∧ w'.cell? ⟨gb186, 0, none⟩ = some (.int .i64 t183) ∧ w'.cell? ⟨gb186, 1, none⟩ = some (.int .i64 t184) ∧ w'.cell? ⟨gb178, 0, none⟩ = some (.int .i64 a1_0) ∧ w'.cell? ⟨gb178, 1, none⟩ = some (.int .i64 a1_1) ∧ w'.cell? ⟨gb178, 2, none⟩ = some (.int .i64 a1_2) ∧ w'.cell? ⟨gb178, 3, none⟩ = some (.int .i64 a1_3) ∧ w'.cell? ⟨gb178, 4, none⟩ = some (.int .i64 a1_4) ∧ w'.cell? ⟨gb178, 5, none⟩ = some (.int .i64 a1_5) ∧ w'.cell? ⟨gb177, 0, none⟩ = some (.int .i64 a0_0) ∧ w'.cell? ⟨gb177, 1, none⟩ = some (.int .i64 a0_1) ∧ w'.cell? ⟨gb177, 2, none⟩ = some (.int .i64 a0_2) ∧ w'.cell? ⟨gb177, 3, none⟩ = some (.int .i64 a0_3) ∧ w'.cell? ⟨gb177, 4, none⟩ = some (.int .i64 a0_4) ∧ w'.cell? ⟨gb177, 5, none⟩ = some (.int .i64 a0_5)) (ds := []) #[false, false, false, false, false, false, false, false, false, false, false, false, false, false, false, false, false, false, false, false, false, false, false, false, false, false, false, false, false, false, false] (by kernel_rfl) rfl rfl ⟨bc BK185.out 0, bc BK185.out 1, bc BK186.out 0, bc BK186.out 1, bc BK178.out 0, bc BK178.out 1, bc BK178.out 2, bc BK178.out 3, bc BK178.out 4, bc BK178.out 5, bc BK177.out 0, bc BK177.out 1, bc BK177.out 2, bc BK177.out 3, bc BK177.out 4, bc BK177.out 5⟩ (fun hHeld => ?_); refine with_tabW impl_HeadOn.tab4 impl_HeadOn.bits4 (fun HT_ HW_ => ?_)
       generalize w5.drew = w6 at BK177 BK178 BK185 BK186 HB hHeld ⊢
       refine take_ (i := 0) (N := some 19) (v := ?_) (a' := ?_) (bz 31 1) rfl rfl (take_ofW HT_.out HW_.out (by kernel_rfl)) (fun _ _ _ h => h) (Or.inl ⟨by rfl, ?_⟩) hHeld ?_ ?_
       rotate_left
       ·exact t5_2
       rotate_left
       ·exact t5_1
       refine take_ (i := 1) (N := some 20) (v := ?_) (a' := ?_) (bz 31 3) rfl rfl (take_ofW HT_.out HW_.out (by kernel_rfl)) (fun _ _ _ h => h) (Or.inl ⟨by rfl, ?_⟩) hHeld ?_ ?_
       rotate_left
       ·exact t5_2
       rotate_left
       ·exact t5_1
       refine one_ (i := 2) (N := some 21) (bz 31 7) rfl rfl (one_of HT_.out (by kernel_rfl)) (by decide) (fun K hK => ?_)
       refine goes_ Try.func72 (by kernel_rfl) rfl #[.agg #[.int .i64 t181, .int .i64 t182], .agg #[.int .i64 t183, .int .i64 t184]] (by rfl) rfl rfl s5_5 ?_
       with_reducible refine (impl_vec_dot.calls t181 t182 t183 t184 t187 _ A20.out).mono ?_
       rintro e w7 ⟨rfl, hb⟩
       refine ⟨_, rfl, ?_⟩
       have n0_ := Aside0.mk (bb (zk BK177.out) hb)
       have n1_ := Aside0.mk (bb (zk BK178.out) hb)
       have n2_ := Aside0.mk (bb (zk BK185.out) hb)
       have n3_ := Aside0.mk (bb (zk BK186.out) hb)
       have n4_ := Aside0.mk (below_step s5_3 hb)
       clear BK177 BK178 BK185 BK186 HB
       have BK177 := n0_
       have BK178 := n1_
       have BK185 := n2_
       have BK186 := n3_
       have HB := n4_
       clear n0_ n1_ n2_ n3_ n4_
       (try clear hb)
       (try clear hb2)
       (try clear hk)
       (try clear hi)
       refine hK.out _ _ ⟨bc BK185.out 0, bc BK185.out 1, bc BK186.out 0, bc BK186.out 1, bc BK178.out 0, bc BK178.out 1, bc BK178.out 2, bc BK178.out 3, bc BK178.out 4, bc BK178.out 5, bc BK177.out 0, bc BK177.out 1, bc BK177.out 2, bc BK177.out 3, bc BK177.out 4, bc BK177.out 5⟩ (fun hHeld => ?_)
       clear hK K
       refine norm_ (a' := ?_) ?_ ?_
       rotate_left
       ·show Act.put _ (some 21) _ = _
        simp only [Act.put, y1, y2, y3, i64_w, i32_w]
        rfl
       refine pure_ (i := 3) (N := some 22) (v := ?_) (a' := ?_) (bz 31 15) rfl rfl (any_of HT_.out (by kernel_rfl)) (fun _ _ _ h => h) (Or.inl ⟨by rfl, ?_⟩) ?_ ?_
       rotate_left
       ·exact t5_3
       rotate_left
       ·exact t5_1
       refine pure_ (i := 4) (N := some 23) (v := ?_) (a' := ?_) (bz 31 31) rfl rfl (any_of HT_.out (by kernel_rfl)) (fun _ _ _ h => h) (Or.inl ⟨by rfl, ?_⟩) ?_ ?_
       rotate_left
       ·exact t5_3
       rotate_left
       ·exact t5_1
       refine take_ (i := 5) (N := some 24) (v := ?_) (a' := ?_) (bz 31 63) rfl rfl (take_ofW HT_.out HW_.out (by kernel_rfl)) (fun _ _ _ h => h) (Or.inl ⟨by rfl, ?_⟩) hHeld ?_ ?_
       rotate_left
       ·exact t5_2
       rotate_left
       ·exact t5_1
       refine take_ (i := 6) (N := some 25) (v := ?_) (a' := ?_) (bz 31 127) rfl rfl (take_ofW HT_.out HW_.out (by kernel_rfl)) (fun _ _ _ h => h) (Or.inl ⟨by rfl, ?_⟩) hHeld ?_ ?_
       rotate_left
       ·exact t5_2
       rotate_left
       ·exact t5_1
       refine take_ (i := 10) (N := some 29) (v := ?_) (a' := ?_) (bz 31 1151) rfl rfl (take_ofW HT_.out HW_.out (by kernel_rfl)) (fun _ _ _ h => h) (Or.inl ⟨by rfl, ?_⟩) hHeld ?_ ?_
       rotate_left
       ·exact t5_2
       rotate_left
       ·exact t5_1
       refine take_ (i := 11) (N := some 30) (v := ?_) (a' := ?_) (bz 31 3199) rfl rfl (take_ofW HT_.out HW_.out (by kernel_rfl)) (fun _ _ _ h => h) (Or.inl ⟨by rfl, ?_⟩) hHeld ?_ ?_
       rotate_left
       ·exact t5_2
       rotate_left
       ·exact t5_1
       refine one_ (i := 7) (N := some 26) (bz 31 3327) rfl rfl (one_of HT_.out (by kernel_rfl)) (by decide) (fun K hK => ?_)
       refine goes_ Try.func74 (by kernel_rfl) rfl #[.agg #[.int .i64 t181, .int .i64 t182], .agg #[.int .i64 t183, .int .i64 t184]] (by rfl) rfl rfl s5_5 ?_
       with_reducible refine (impl_vec_cross.calls t181 t182 t183 t184 t188 _ A22.out).mono ?_
       rintro e w8 ⟨rfl, hb⟩
       refine ⟨_, rfl, ?_⟩
       have n0_ := Aside0.mk (bb (zk BK177.out) hb)
       have n1_ := Aside0.mk (bb (zk BK178.out) hb)
       have n2_ := Aside0.mk (bb (zk BK185.out) hb)
       have n3_ := Aside0.mk (bb (zk BK186.out) hb)
       have n4_ := Aside0.mk (below_step s5_3 hb)
       clear BK177 BK178 BK185 BK186 HB
       have BK177 := n0_
       have BK178 := n1_
       have BK185 := n2_
       have BK186 := n3_
       have HB := n4_
       clear n0_ n1_ n2_ n3_ n4_
       (try clear hb)
       (try clear hb2)
       (try clear hk)
       (try clear hi)
       refine hK.out _ _ ⟨bc BK185.out 0, bc BK185.out 1, bc BK186.out 0, bc BK186.out 1, bc BK178.out 0, bc BK178.out 1, bc BK178.out 2, bc BK178.out 3, bc BK178.out 4, bc BK178.out 5, bc BK177.out 0, bc BK177.out 1, bc BK177.out 2, bc BK177.out 3, bc BK177.out 4, bc BK177.out 5⟩ (fun hHeld => ?_)
       clear hK K
       refine norm_ (a' := ?_) ?_ ?_
       rotate_left
       ·show Act.put _ (some 26) _ = _
        simp only [Act.put, y1, y2, y3, i64_w, i32_w]
        rfl
       refine one_ (i := 8) (N := some 27) (bz 31 3583) rfl rfl (one_of HT_.out (by kernel_rfl)) (by decide) (fun K hK => ?_)
       refine goes_ Try.func73 (by kernel_rfl) rfl #[.int .i64 t188] (by rfl) rfl rfl s5_5 ?_
       with_reducible refine (impl_square.calls t188 t189 _ A23.out).mono ?_
       rintro e w' ⟨rfl, ⟨nd, rfl⟩⟩
       refine ⟨_, rfl, ?_⟩
       refine hK.out _ _ ⟨bc BK185.out 0, bc BK185.out 1, bc BK186.out 0, bc BK186.out 1, bc BK178.out 0, bc BK178.out 1, bc BK178.out 2, bc BK178.out 3, bc BK178.out 4, bc BK178.out 5, bc BK177.out 0, bc BK177.out 1, bc BK177.out 2, bc BK177.out 3, bc BK177.out 4, bc BK177.out 5⟩ (fun hHeld => ?_)
       clear hK K
       refine norm_ (a' := ?_) ?_ ?_
       rotate_left
       ·show Act.put _ (some 27) _ = _
        simp only [Act.put, y1, y2, y3, i64_w, i32_w]
        rfl
       refine pure_ (i := 9) (N := some 28) (v := ?_) (a' := ?_) (bz 31 4095) rfl rfl (any_of HT_.out (by kernel_rfl)) (fun _ _ _ h => h) (Or.inl ⟨by rfl, ?_⟩) ?_ ?_
       rotate_left
       ·exact t5_3
       rotate_left
       ·exact t5_1
       refine one_ (i := 12) (N := some 31) (bz 31 8191) rfl rfl (one_of HT_.out (by kernel_rfl)) (by decide) (fun K hK => ?_)
       refine goes_ Try.func72 (by kernel_rfl) rfl #[.agg #[.int .i64 t181, .int .i64 t182], .agg #[.int .i64 t183, .int .i64 t184]] (by rfl) rfl rfl s5_5 ?_
       with_reducible refine (impl_vec_dot.calls t181 t182 t183 t184 t190 _ A24.out).mono ?_
       rintro e w9 ⟨rfl, hb⟩
       refine ⟨_, rfl, ?_⟩
       have n0_ := Aside0.mk (bb (zk BK177.out) hb)
       have n1_ := Aside0.mk (bb (zk BK178.out) hb)
       have n2_ := Aside0.mk (bb (zk BK185.out) hb)
       have n3_ := Aside0.mk (bb (zk BK186.out) hb)
       have n4_ := Aside0.mk (below_step s5_3 hb)
       clear BK177 BK178 BK185 BK186 HB
       have BK177 := n0_
       have BK178 := n1_
       have BK185 := n2_
       have BK186 := n3_
       have HB := n4_
       clear n0_ n1_ n2_ n3_ n4_
       (try clear hb)
       (try clear hb2)
       (try clear hk)
       (try clear hi)
       refine hK.out _ _ ⟨bc BK185.out 0, bc BK185.out 1, bc BK186.out 0, bc BK186.out 1, bc BK178.out 0, bc BK178.out 1, bc BK178.out 2, bc BK178.out 3, bc BK178.out 4, bc BK178.out 5, bc BK177.out 0, bc BK177.out 1, bc BK177.out 2, bc BK177.out 3, bc BK177.out 4, bc BK177.out 5⟩ (fun hHeld => ?_)
       clear hK K
       refine norm_ (a' := ?_) ?_ ?_
       rotate_left
       ·show Act.put _ (some 31) _ = _
        simp only [Act.put, y1, y2, y3, i64_w, i32_w]
        rfl
       refine one_ (i := 13) (N := some 32) (bz 31 16383) rfl rfl (one_of HT_.out (by kernel_rfl)) (by decide) (fun K hK => ?_)
       refine goes_ Try.func73 (by kernel_rfl) rfl #[.int .i64 t190] (by rfl) rfl rfl s5_5 ?_
       with_reducible refine (impl_square.calls t190 t191 _ A25.out).mono ?_
       rintro e w' ⟨rfl, ⟨nd, rfl⟩⟩
       refine ⟨_, rfl, ?_⟩
       refine hK.out _ _ ⟨bc BK185.out 0, bc BK185.out 1, bc BK186.out 0, bc BK186.out 1, bc BK178.out 0, bc BK178.out 1, bc BK178.out 2, bc BK178.out 3, bc BK178.out 4, bc BK178.out 5, bc BK177.out 0, bc BK177.out 1, bc BK177.out 2, bc BK177.out 3, bc BK177.out 4, bc BK177.out 5⟩ (fun hHeld => ?_)
       clear hK K
       refine norm_ (a' := ?_) ?_ ?_
       rotate_left
       ·show Act.put _ (some 32) _ = _
        simp only [Act.put, y1, y2, y3, i64_w, i32_w]
        rfl
       refine pure_ (i := 14) (N := some 33) (v := ?_) (a' := ?_) (bz 31 32767) rfl rfl (any_of HT_.out (by kernel_rfl)) (fun _ _ _ h => h) (Or.inl ⟨by rfl, ?_⟩) ?_ ?_
       rotate_left
       ·exact t5_3
       rotate_left
       ·exact t5_1
       refine pure_ (i := 15) (N := some 34) (v := ?_) (a' := ?_) (bz 31 65535) rfl rfl (any_of HT_.out (by kernel_rfl)) (fun _ _ _ h => h) (Or.inl ⟨by rfl, ?_⟩) ?_ ?_
       rotate_left
       ·exact t5_3
       rotate_left
       ·exact t5_1
       refine pure_ (i := 16) (N := some 35) (v := ?_) (a' := ?_) (bz 31 131071) rfl rfl (any_of HT_.out (by kernel_rfl)) (fun _ _ _ h => h) (Or.inl ⟨by rfl, ?_⟩) ?_ ?_
       rotate_left
       ·exact t5_3
       rotate_left
       ·exact t5_1
       refine take_ (i := 17) (N := some 36) (v := ?_) (a' := ?_) (bz 31 262143) rfl rfl (take_ofW HT_.out HW_.out (by kernel_rfl)) (fun _ _ _ h => h) (Or.inl ⟨by rfl, ?_⟩) hHeld ?_ ?_
       rotate_left
       ·exact t5_2
       rotate_left
       ·exact t5_1
       refine take_ (i := 18) (N := some 37) (v := ?_) (a' := ?_) (bz 31 524287) rfl rfl (take_ofW HT_.out HW_.out (by kernel_rfl)) (fun _ _ _ h => h) (Or.inl ⟨by rfl, ?_⟩) hHeld ?_ ?_
       rotate_left
       ·exact t5_2
       rotate_left
       ·exact t5_1
       refine take_ (i := 20) (N := some 39) (v := ?_) (a' := ?_) (bz 31 1572863) rfl rfl (take_ofW HT_.out HW_.out (by kernel_rfl)) (fun _ _ _ h => h) (Or.inl ⟨by rfl, ?_⟩) hHeld ?_ ?_
       rotate_left
       ·exact t5_2
       rotate_left
       ·exact t5_1
       refine one_ (i := 19) (N := some 38) (bz 31 2097151) rfl rfl (one_of HT_.out (by kernel_rfl)) (by decide) (fun K hK => ?_)
       refine goes_ Try.func70 (by kernel_rfl) rfl #[.agg #[.int .i64 a1_0, .int .i64 a1_1, .int .i64 a1_2, .int .i64 a1_3, .int .i64 a1_4, .int .i64 a1_5], .agg #[.int .i64 a0_0, .int .i64 a0_1, .int .i64 a0_2, .int .i64 a0_3, .int .i64 a0_4, .int .i64 a0_5]] (by rfl) rfl rfl s5_5 ?_
       with_reducible refine (impl_bearing.calls a1_0 a1_1 a1_2 a1_3 a1_4 a1_5 a0_0 a0_1 a0_2 a0_3 a0_4 a0_5 t192 t193 _ A27.out).mono ?_
       rintro e w10 ⟨rfl, hb⟩
       refine ⟨_, rfl, ?_⟩
       have n0_ := Aside0.mk (bb (zk BK177.out) hb)
       have n1_ := Aside0.mk (bb (zk BK178.out) hb)
       have n2_ := Aside0.mk (bb (zk BK185.out) hb)
       have n3_ := Aside0.mk (bb (zk BK186.out) hb)
       have n4_ := Aside0.mk (below_step s5_3 hb)
       clear BK177 BK178 BK185 BK186 HB
       have BK177 := n0_
       have BK178 := n1_
       have BK185 := n2_
       have BK186 := n3_
       have HB := n4_
       clear n0_ n1_ n2_ n3_ n4_
       (try clear hb)
       (try clear hb2)
       (try clear hk)
       (try clear hi)
       refine hK.out _ _ ⟨bc BK185.out 0, bc BK185.out 1, bc BK186.out 0, bc BK186.out 1, bc BK178.out 0, bc BK178.out 1, bc BK178.out 2, bc BK178.out 3, bc BK178.out 4, bc BK178.out 5, bc BK177.out 0, bc BK177.out 1, bc BK177.out 2, bc BK177.out 3, bc BK177.out 4, bc BK177.out 5⟩ (fun hHeld => ?_)
       clear hK K
       refine norm_ (a' := ?_) ?_ ?_
       rotate_left
       ·show Act.put _ (some 38) _ = _
        simp only [Act.put, y1, y2, y3, i64_w, i32_w]
        rfl
       refine one_ (i := 21) (N := some 40) (bz 31 4194303) rfl rfl (one_of HT_.out (by kernel_rfl)) (by decide) (fun K hK => ?_)
       refine goes_ Try.func76 (by kernel_rfl) rfl #[.agg #[.int .i64 t192, .int .i64 t193], .agg #[.int .i64 t181, .int .i64 t182]] (by rfl) rfl rfl s5_5 ?_
       with_reducible refine (impl_ahead.calls t192 t193 t181 t182 true _ A28.out).mono ?_
       rintro e w11 ⟨rfl, hb⟩
       refine ⟨_, rfl, ?_⟩
       have n0_ := Aside0.mk (bb (zk BK177.out) hb)
       have n1_ := Aside0.mk (bb (zk BK178.out) hb)
       have n2_ := Aside0.mk (bb (zk BK185.out) hb)
       have n3_ := Aside0.mk (bb (zk BK186.out) hb)
       have n4_ := Aside0.mk (below_step s5_3 hb)
       clear BK177 BK178 BK185 BK186 HB
       have BK177 := n0_
       have BK178 := n1_
       have BK185 := n2_
       have BK186 := n3_
       have HB := n4_
       clear n0_ n1_ n2_ n3_ n4_
       (try clear hb)
       (try clear hb2)
       (try clear hk)
       (try clear hi)
       refine hK.out _ _ ⟨bc BK185.out 0, bc BK185.out 1, bc BK186.out 0, bc BK186.out 1, bc BK178.out 0, bc BK178.out 1, bc BK178.out 2, bc BK178.out 3, bc BK178.out 4, bc BK178.out 5, bc BK177.out 0, bc BK177.out 1, bc BK177.out 2, bc BK177.out 3, bc BK177.out 4, bc BK177.out 5⟩ (fun hHeld => ?_)
       clear hK K
       refine norm_ (a' := ?_) ?_ ?_
       rotate_left
       ·show Act.put _ (some 40) _ = _
        simp only [Act.put, y1, y2, y3, i64_w, i32_w]
        rfl
       refine pure_ (i := 22) (N := some 41) (v := ?_) (a' := ?_) (bz 31 8388607) rfl rfl (any_of HT_.out (by kernel_rfl)) (fun _ _ _ h => h) (Or.inl ⟨by rfl, ?_⟩) ?_ ?_
       rotate_left
       ·exact t5_3
       rotate_left
       ·exact t5_1
       refine pure_ (i := 23) (N := some 42) (v := ?_) (a' := ?_) (bz 31 16777215) rfl rfl (any_of HT_.out (by kernel_rfl)) (fun _ _ _ h => h) (Or.inl ⟨by rfl, ?_⟩) ?_ ?_
       rotate_left
       ·exact t5_3
       rotate_left
       ·exact t5_1
       refine take_ (i := 24) (N := some 43) (v := ?_) (a' := ?_) (bz 31 33554431) rfl rfl (take_ofW HT_.out HW_.out (by kernel_rfl)) (fun _ _ _ h => h) (Or.inl ⟨by rfl, ?_⟩) hHeld ?_ ?_
       rotate_left
       ·exact t5_2
       rotate_left
       ·exact t5_1
       refine take_ (i := 25) (N := some 44) (v := ?_) (a' := ?_) (bz 31 67108863) rfl rfl (take_ofW HT_.out HW_.out (by kernel_rfl)) (fun _ _ _ h => h) (Or.inl ⟨by rfl, ?_⟩) hHeld ?_ ?_
       rotate_left
       ·exact t5_2
       rotate_left
       ·exact t5_1
       refine take_ (i := 27) (N := some 46) (v := ?_) (a' := ?_) (bz 31 201326591) rfl rfl (take_ofW HT_.out HW_.out (by kernel_rfl)) (fun _ _ _ h => h) (Or.inl ⟨by rfl, ?_⟩) hHeld ?_ ?_
       rotate_left
       ·exact t5_2
       rotate_left
       ·exact t5_1
       refine one_ (i := 26) (N := some 45) (bz 31 268435455) rfl rfl (one_of HT_.out (by kernel_rfl)) (by decide) (fun K hK => ?_)
       refine goes_ Try.func70 (by kernel_rfl) rfl #[.agg #[.int .i64 a0_0, .int .i64 a0_1, .int .i64 a0_2, .int .i64 a0_3, .int .i64 a0_4, .int .i64 a0_5], .agg #[.int .i64 a1_0, .int .i64 a1_1, .int .i64 a1_2, .int .i64 a1_3, .int .i64 a1_4, .int .i64 a1_5]] (by rfl) rfl rfl s5_5 ?_
       with_reducible refine (impl_bearing.calls a0_0 a0_1 a0_2 a0_3 a0_4 a0_5 a1_0 a1_1 a1_2 a1_3 a1_4 a1_5 t195 t196 _ A30.out).mono ?_
       rintro e w12 ⟨rfl, hb⟩
       refine ⟨_, rfl, ?_⟩
       have n0_ := Aside0.mk (bb (zk BK177.out) hb)
       have n1_ := Aside0.mk (bb (zk BK178.out) hb)
       have n2_ := Aside0.mk (bb (zk BK185.out) hb)
       have n3_ := Aside0.mk (bb (zk BK186.out) hb)
       have n4_ := Aside0.mk (below_step s5_3 hb)
       clear BK177 BK178 BK185 BK186 HB
       have BK177 := n0_
       have BK178 := n1_
       have BK185 := n2_
       have BK186 := n3_
       have HB := n4_
       clear n0_ n1_ n2_ n3_ n4_
       (try clear hb)
       (try clear hb2)
       (try clear hk)
       (try clear hi)
       refine hK.out _ _ ⟨bc BK185.out 0, bc BK185.out 1, bc BK186.out 0, bc BK186.out 1, bc BK178.out 0, bc BK178.out 1, bc BK178.out 2, bc BK178.out 3, bc BK178.out 4, bc BK178.out 5, bc BK177.out 0, bc BK177.out 1, bc BK177.out 2, bc BK177.out 3, bc BK177.out 4, bc BK177.out 5⟩ (fun hHeld => ?_)
       clear hK K
       refine norm_ (a' := ?_) ?_ ?_
       rotate_left
       ·show Act.put _ (some 45) _ = _
        simp only [Act.put, y1, y2, y3, i64_w, i32_w]
        rfl
       refine one_ (i := 28) (N := some 47) (bz 31 536870911) rfl rfl (one_of HT_.out (by kernel_rfl)) (by decide) (fun K hK => ?_)
       refine goes_ Try.func76 (by kernel_rfl) rfl #[.agg #[.int .i64 t195, .int .i64 t196], .agg #[.int .i64 t183, .int .i64 t184]] (by rfl) rfl rfl s5_5 ?_
       with_reducible refine (impl_ahead.calls t195 t196 t183 t184 t197 _ A31.out).mono ?_
       rintro e w13 ⟨rfl, hb⟩
       refine ⟨_, rfl, ?_⟩
       have n0_ := Aside0.mk (bb (zk BK177.out) hb)
       have n1_ := Aside0.mk (bb (zk BK178.out) hb)
       have n2_ := Aside0.mk (bb (zk BK185.out) hb)
       have n3_ := Aside0.mk (bb (zk BK186.out) hb)
       have n4_ := Aside0.mk (below_step s5_3 hb)
       clear BK177 BK178 BK185 BK186 HB
       have BK177 := n0_
       have BK178 := n1_
       have BK185 := n2_
       have BK186 := n3_
       have HB := n4_
       clear n0_ n1_ n2_ n3_ n4_
       (try clear hb)
       (try clear hb2)
       (try clear hk)
       (try clear hi)
       refine hK.out _ _ ⟨bc BK185.out 0, bc BK185.out 1, bc BK186.out 0, bc BK186.out 1, bc BK178.out 0, bc BK178.out 1, bc BK178.out 2, bc BK178.out 3, bc BK178.out 4, bc BK178.out 5, bc BK177.out 0, bc BK177.out 1, bc BK177.out 2, bc BK177.out 3, bc BK177.out 4, bc BK177.out 5⟩ (fun hHeld => ?_)
       clear hK K
       refine norm_ (a' := ?_) ?_ ?_
       rotate_left
       ·show Act.put _ (some 47) _ = _
        simp only [Act.put, y1, y2, y3, i64_w, i32_w]
        rfl
       refine pure_ (i := 29) (N := some 48) (v := ?_) (a' := ?_) (bz 31 1073741823) rfl rfl (any_of HT_.out (by kernel_rfl)) (fun _ _ _ h => h) (Or.inl ⟨by rfl, ?_⟩) ?_ ?_
       rotate_left
       ·exact t5_3
       rotate_left
       ·exact t5_1
       refine pure_ (i := 30) (N := some 4) (v := ?_) (a' := ?_) (bz 31 2147483647) rfl rfl (any_of HT_.out (by kernel_rfl)) (fun _ _ _ h => h) (Or.inl ⟨by rfl, ?_⟩) ?_ ?_
       rotate_left
       ·exact t5_3
       rotate_left
       ·exact t5_1
       refine done_ (done_of HT_.out (by kernel_rfl)) ?_
       try go_wp2
       go_ret
       exact ⟨by first | rfl | (simp [errW_none, errW_some] <;> rfl) | (simp [*, errW_none, errW_some] <;> rfl), by repeat (first | (with_reducible first | exact HB.out | apply below_alloc | apply pw_below_drewN | apply below_drew1 | refine below_set ?_ GE177.out | refine below_set ?_ GE178.out | refine below_set ?_ GE185.out | refine below_set ?_ GE186.out) | exact HB.out)⟩
      ·replace c29 := Bool.eq_false_iff.mpr c29
       subst c29
       have H1 : (some false) = some r := by rw [if_neg (show ¬ (false = true) by decide)] at H; exact H
       clear H
       have H := H1
       clear H1
       obtain rfl := Option.some.inj H
       try go_wp2
       have n0_ := Aside0.mk (blk_drew BK177.out)
       have n1_ := Aside0.mk (blk_drew BK178.out)
       have n2_ := Aside0.mk (below_drew1 HB.out)
       clear BK177 BK178 HB
       have BK177 := n0_
       have BK178 := n1_
       have HB := n2_
       clear n0_ n1_ n2_
       refine start_ (n := 8) (S := fun w' => w'.cell? ⟨gb177, 0, none⟩ = some (.int .i64 a0_0) ∧ w'.cell? ⟨gb177, 1, none⟩ = some (.int .i64 a0_1) ∧ w'.cell? ⟨gb177, 2, none⟩ = some (.int .i64 a0_2) ∧ w'.cell? ⟨gb177, 3, none⟩ = some (.int .i64 a0_3) ∧ w'.cell? ⟨gb177, 4, none⟩ = some (.int .i64 a0_4) ∧ w'.cell? ⟨gb177, 5, none⟩ = some (.int .i64 a0_5) ∧ w'.cell? ⟨gb178, 0, none⟩ = some (.int .i64 a1_0) ∧ w'.cell? ⟨gb178, 1, none⟩ = some (.int .i64 a1_1) ∧ w'.cell? ⟨gb178, 2, none⟩ = some (.int .i64 a1_2) ∧ w'.cell? ⟨gb178, 3, none⟩ = some (.int .i64 a1_3) ∧ w'.cell? ⟨gb178, 4, none⟩ = some (.int .i64 a1_4) ∧ w'.cell? ⟨gb178, 5, none⟩ = some (.int .i64 a1_5)) (ds := []) #[false, false, false, false, false, false, false, false] (by kernel_rfl) rfl rfl ⟨bc BK177.out 0, bc BK177.out 1, bc BK177.out 2, bc BK177.out 3, bc BK177.out 4, bc BK177.out 5, bc BK178.out 0, bc BK178.out 1, bc BK178.out 2, bc BK178.out 3, bc BK178.out 4, bc BK178.out 5⟩ (fun hHeld => ?_); refine with_tabW impl_HeadOn.tab3 impl_HeadOn.bits3 (fun HT_ HW_ => ?_)
       generalize wc.drew = w3 at BK177 BK178 HB hHeld ⊢
       refine take_ (i := 0) (N := some 15) (v := ?_) (a' := ?_) (bz 8 1) rfl rfl (take_ofW HT_.out HW_.out (by kernel_rfl)) (fun _ _ _ h => h) (Or.inl ⟨by rfl, ?_⟩) hHeld ?_ ?_
       rotate_left
       ·exact t5_4
       rotate_left
       ·exact t5_1
       refine take_ (i := 2) (N := some 17) (v := ?_) (a' := ?_) (bz 8 5) rfl rfl (take_ofW HT_.out HW_.out (by kernel_rfl)) (fun _ _ _ h => h) (Or.inl ⟨by rfl, ?_⟩) hHeld ?_ ?_
       rotate_left
       ·exact t5_4
       rotate_left
       ·exact t5_1
       refine join_ (σ := Nat × Nat) 2 (bz 8 63) (fun s_ => [(16, .agg #[.int .i64 t181, .int .i64 t182]), (18, .agg #[.int .i64 t183, .int .i64 t184]), (5, .pointer (some ⟨s_.1, 0, none⟩)), (6, .pointer (some ⟨s_.2, 0, none⟩))]) (fun s_ w' => (w'.cell? ⟨gb177, 0, none⟩ = some (.int .i64 a0_0) ∧ w'.cell? ⟨gb177, 1, none⟩ = some (.int .i64 a0_1) ∧ w'.cell? ⟨gb177, 2, none⟩ = some (.int .i64 a0_2) ∧ w'.cell? ⟨gb177, 3, none⟩ = some (.int .i64 a0_3) ∧ w'.cell? ⟨gb177, 4, none⟩ = some (.int .i64 a0_4) ∧ w'.cell? ⟨gb177, 5, none⟩ = some (.int .i64 a0_5) ∧ w'.cell? ⟨gb178, 0, none⟩ = some (.int .i64 a1_0) ∧ w'.cell? ⟨gb178, 1, none⟩ = some (.int .i64 a1_1) ∧ w'.cell? ⟨gb178, 2, none⟩ = some (.int .i64 a1_2) ∧ w'.cell? ⟨gb178, 3, none⟩ = some (.int .i64 a1_3) ∧ w'.cell? ⟨gb178, 4, none⟩ = some (.int .i64 a1_4) ∧ w'.cell? ⟨gb178, 5, none⟩ = some (.int .i64 a1_5)) ∧ (w'.heap[gb177]? = some (.cells #[.int .i64 a0_0, .int .i64 a0_1, .int .i64 a0_2, .int .i64 a0_3, .int .i64 a0_4, .int .i64 a0_5] 25 (0, 0))) ∧ (w'.heap[gb178]? = some (.cells #[.int .i64 a1_0, .int .i64 a1_1, .int .i64 a1_2, .int .i64 a1_3, .int .i64 a1_4, .int .i64 a1_5] 25 (0, 0))) ∧ (w'.heap[s_.1]? = some (.cells #[.int .i64 0, .int .i64 0] 89 (0, 0))) ∧ (w'.heap[s_.2]? = some (.cells #[.int .i64 0, .int .i64 0] 89 (0, 0))) ∧ (w.heap.size ≤ s_.1) ∧ (w.heap.size ≤ s_.1) ∧ (gb177 ≠ s_.1) ∧ (s_.1 ≠ gb177) ∧ (gb178 ≠ s_.1) ∧ (s_.1 ≠ gb178) ∧ (s_.2 ≠ s_.1) ∧ (s_.1 ≠ s_.2) ∧ (w.heap.size ≤ s_.2) ∧ (w.heap.size ≤ s_.2) ∧ (gb177 ≠ s_.2) ∧ (s_.2 ≠ gb177) ∧ (gb178 ≠ s_.2) ∧ (s_.2 ≠ gb178) ∧ (Below w.heap.size w w')) ?_ ?_
       rotate_left
       ·exact t5_0
       rintro ⟨gb185, gb186⟩ w4 ⟨hS_, h0_, h1_, h2_, h3_, h4_, h5_, h6_, h7_, h8_, h9_, h10_, h11_, h12_, h13_, h14_, h15_, h16_, h17_, h18_⟩
       have n0_ : Aside0 (w4.heap[gb177]? = some (.cells #[.int .i64 a0_0, .int .i64 a0_1, .int .i64 a0_2, .int .i64 a0_3, .int .i64 a0_4, .int .i64 a0_5] 25 (0, 0))) := ⟨h0_⟩
       have n1_ : Aside0 (w4.heap[gb178]? = some (.cells #[.int .i64 a1_0, .int .i64 a1_1, .int .i64 a1_2, .int .i64 a1_3, .int .i64 a1_4, .int .i64 a1_5] 25 (0, 0))) := ⟨h1_⟩
       have n2_ : Aside0 (w4.heap[gb185]? = some (.cells #[.int .i64 0, .int .i64 0] 89 (0, 0))) := ⟨h2_⟩
       have n3_ : Aside0 (w4.heap[gb186]? = some (.cells #[.int .i64 0, .int .i64 0] 89 (0, 0))) := ⟨h3_⟩
       have n4_ : Aside0 (w.heap.size ≤ gb185) := ⟨h4_⟩
       have n5_ : Aside0 (w.heap.size ≤ gb185) := ⟨h5_⟩
       have n6_ : Aside0 (gb177 ≠ gb185) := ⟨h6_⟩
       have n7_ : Aside0 (gb185 ≠ gb177) := ⟨h7_⟩
       have n8_ : Aside0 (gb178 ≠ gb185) := ⟨h8_⟩
       have n9_ : Aside0 (gb185 ≠ gb178) := ⟨h9_⟩
       have n10_ : Aside0 (gb186 ≠ gb185) := ⟨h10_⟩
       have n11_ : Aside0 (gb185 ≠ gb186) := ⟨h11_⟩
       have n12_ : Aside0 (w.heap.size ≤ gb186) := ⟨h12_⟩
       have n13_ : Aside0 (w.heap.size ≤ gb186) := ⟨h13_⟩
       have n14_ : Aside0 (gb177 ≠ gb186) := ⟨h14_⟩
       have n15_ : Aside0 (gb186 ≠ gb177) := ⟨h15_⟩
       have n16_ : Aside0 (gb178 ≠ gb186) := ⟨h16_⟩
       have n17_ : Aside0 (gb186 ≠ gb178) := ⟨h17_⟩
       have n18_ : Aside0 (Below w.heap.size w w4) := ⟨h18_⟩
       clear BK177 BK178 HB h0_ h1_ h2_ h3_ h4_ h5_ h6_ h7_ h8_ h9_ h10_ h11_ h12_ h13_ h14_ h15_ h16_ h17_ h18_
       have BK177 := n0_
       have BK178 := n1_
       have BK185 := n2_
       have BK186 := n3_
       have GW185 := n4_
       have GE185 := n5_
       have NB177_185 := n6_
       have NB185_177 := n7_
       have NB178_185 := n8_
       have NB185_178 := n9_
       have NB186_185 := n10_
       have NB185_186 := n11_
       have GW186 := n12_
       have GE186 := n13_
       have NB177_186 := n14_
       have NB186_177 := n15_
       have NB178_186 := n16_
       have NB186_178 := n17_
       have HB := n18_
       clear n0_ n1_ n2_ n3_ n4_ n5_ n6_ n7_ n8_ n9_ n10_ n11_ n12_ n13_ n14_ n15_ n16_ n17_ n18_
       have hHeld : w4.cell? ⟨gb177, 0, none⟩ = some (.int .i64 a0_0) ∧ w4.cell? ⟨gb177, 1, none⟩ = some (.int .i64 a0_1) ∧ w4.cell? ⟨gb177, 2, none⟩ = some (.int .i64 a0_2) ∧ w4.cell? ⟨gb177, 3, none⟩ = some (.int .i64 a0_3) ∧ w4.cell? ⟨gb177, 4, none⟩ = some (.int .i64 a0_4) ∧ w4.cell? ⟨gb177, 5, none⟩ = some (.int .i64 a0_5) ∧ w4.cell? ⟨gb178, 0, none⟩ = some (.int .i64 a1_0) ∧ w4.cell? ⟨gb178, 1, none⟩ = some (.int .i64 a1_1) ∧ w4.cell? ⟨gb178, 2, none⟩ = some (.int .i64 a1_2) ∧ w4.cell? ⟨gb178, 3, none⟩ = some (.int .i64 a1_3) ∧ w4.cell? ⟨gb178, 4, none⟩ = some (.int .i64 a1_4) ∧ w4.cell? ⟨gb178, 5, none⟩ = some (.int .i64 a1_5) := hS_
       refine norm_ (a' := ?_) ?_ ?_
       rotate_left
       ·simp only [putAll, Act.put, y1, y2, y3]
        rfl
       refine one_ (i := 6) (N := none) (bz 8 127) rfl rfl (one_of HT_.out (by kernel_rfl)) (by decide) (fun K hK => ?_)
       have hs57 : w4.cell? ⟨gb185, 0, none⟩ = some (.int .i64 0) := bc BK185.out 0
       have hfs57 := blk_frozen BK185.out 0
       have hns57_0 := NB177_185.out
       have hns57_1 := NB178_185.out
       have hns57_3 := NB186_185.out
       have hms57_0 := NB185_177.out
       have hms57_1 := NB185_178.out
       have hms57_3 := NB185_186.out
       have hs58 : w4.cell? ⟨gb185, 1, none⟩ = some (.int .i64 0) := bc BK185.out 1
       have hfs58 := blk_frozen BK185.out 1
       have hns58_0 := NB177_185.out
       have hns58_1 := NB178_185.out
       have hns58_3 := NB186_185.out
       have hms58_0 := NB185_177.out
       have hms58_1 := NB185_178.out
       have hms58_3 := NB185_186.out
       refine skip_ (w1 := ?_) (by rfl) rfl ?_ ?_
       rotate_left
       ·go_simp
        rfl
       refine hK.out _ _ ⟨((cell_far (p := ⟨gb185, _, none⟩) NB177_185.out _).trans (((cell_far (p := ⟨gb185, _, none⟩) NB177_185.out _).trans (hHeld.1)))), ((cell_far (p := ⟨gb185, _, none⟩) NB177_185.out _).trans (((cell_far (p := ⟨gb185, _, none⟩) NB177_185.out _).trans (hHeld.2.1)))), ((cell_far (p := ⟨gb185, _, none⟩) NB177_185.out _).trans (((cell_far (p := ⟨gb185, _, none⟩) NB177_185.out _).trans (hHeld.2.2.1)))), ((cell_far (p := ⟨gb185, _, none⟩) NB177_185.out _).trans (((cell_far (p := ⟨gb185, _, none⟩) NB177_185.out _).trans (hHeld.2.2.2.1)))), ((cell_far (p := ⟨gb185, _, none⟩) NB177_185.out _).trans (((cell_far (p := ⟨gb185, _, none⟩) NB177_185.out _).trans (hHeld.2.2.2.2.1)))), ((cell_far (p := ⟨gb185, _, none⟩) NB177_185.out _).trans (((cell_far (p := ⟨gb185, _, none⟩) NB177_185.out _).trans (hHeld.2.2.2.2.2.1)))), ((cell_far (p := ⟨gb185, _, none⟩) NB178_185.out _).trans (((cell_far (p := ⟨gb185, _, none⟩) NB178_185.out _).trans (hHeld.2.2.2.2.2.2.1)))), ((cell_far (p := ⟨gb185, _, none⟩) NB178_185.out _).trans (((cell_far (p := ⟨gb185, _, none⟩) NB178_185.out _).trans (hHeld.2.2.2.2.2.2.2.1)))), ((cell_far (p := ⟨gb185, _, none⟩) NB178_185.out _).trans (((cell_far (p := ⟨gb185, _, none⟩) NB178_185.out _).trans (hHeld.2.2.2.2.2.2.2.2.1)))), ((cell_far (p := ⟨gb185, _, none⟩) NB178_185.out _).trans (((cell_far (p := ⟨gb185, _, none⟩) NB178_185.out _).trans (hHeld.2.2.2.2.2.2.2.2.2.1)))), ((cell_far (p := ⟨gb185, _, none⟩) NB178_185.out _).trans (((cell_far (p := ⟨gb185, _, none⟩) NB178_185.out _).trans (hHeld.2.2.2.2.2.2.2.2.2.2.1)))), ((cell_far (p := ⟨gb185, _, none⟩) NB178_185.out _).trans (((cell_far (p := ⟨gb185, _, none⟩) NB178_185.out _).trans (hHeld.2.2.2.2.2.2.2.2.2.2.2))))⟩ (fun hHeld => ?_)
       clear hK K
       refine one_ (i := 7) (N := none) (bz 8 255) rfl rfl (one_of HT_.out (by kernel_rfl)) (by decide) (fun K hK => ?_)
       have hs59 : w4.cell? ⟨gb186, 0, none⟩ = some (.int .i64 0) := bc BK186.out 0
       have hfs59 := blk_frozen BK186.out 0
       have hns59_0 := NB177_186.out
       have hns59_1 := NB178_186.out
       have hns59_2 := NB185_186.out
       have hms59_0 := NB186_177.out
       have hms59_1 := NB186_178.out
       have hms59_2 := NB186_185.out
       have hs60 : w4.cell? ⟨gb186, 1, none⟩ = some (.int .i64 0) := bc BK186.out 1
       have hfs60 := blk_frozen BK186.out 1
       have hns60_0 := NB177_186.out
       have hns60_1 := NB178_186.out
       have hns60_2 := NB185_186.out
       have hms60_0 := NB186_177.out
       have hms60_1 := NB186_178.out
       have hms60_2 := NB186_185.out
       refine skip_ (w1 := ?_) (by rfl) rfl ?_ ?_
       rotate_left
       ·go_simp
        rfl
       refine hK.out _ _ ⟨((cell_far (p := ⟨gb186, _, none⟩) NB177_186.out _).trans (((cell_far (p := ⟨gb186, _, none⟩) NB177_186.out _).trans (hHeld.1)))), ((cell_far (p := ⟨gb186, _, none⟩) NB177_186.out _).trans (((cell_far (p := ⟨gb186, _, none⟩) NB177_186.out _).trans (hHeld.2.1)))), ((cell_far (p := ⟨gb186, _, none⟩) NB177_186.out _).trans (((cell_far (p := ⟨gb186, _, none⟩) NB177_186.out _).trans (hHeld.2.2.1)))), ((cell_far (p := ⟨gb186, _, none⟩) NB177_186.out _).trans (((cell_far (p := ⟨gb186, _, none⟩) NB177_186.out _).trans (hHeld.2.2.2.1)))), ((cell_far (p := ⟨gb186, _, none⟩) NB177_186.out _).trans (((cell_far (p := ⟨gb186, _, none⟩) NB177_186.out _).trans (hHeld.2.2.2.2.1)))), ((cell_far (p := ⟨gb186, _, none⟩) NB177_186.out _).trans (((cell_far (p := ⟨gb186, _, none⟩) NB177_186.out _).trans (hHeld.2.2.2.2.2.1)))), ((cell_far (p := ⟨gb186, _, none⟩) NB178_186.out _).trans (((cell_far (p := ⟨gb186, _, none⟩) NB178_186.out _).trans (hHeld.2.2.2.2.2.2.1)))), ((cell_far (p := ⟨gb186, _, none⟩) NB178_186.out _).trans (((cell_far (p := ⟨gb186, _, none⟩) NB178_186.out _).trans (hHeld.2.2.2.2.2.2.2.1)))), ((cell_far (p := ⟨gb186, _, none⟩) NB178_186.out _).trans (((cell_far (p := ⟨gb186, _, none⟩) NB178_186.out _).trans (hHeld.2.2.2.2.2.2.2.2.1)))), ((cell_far (p := ⟨gb186, _, none⟩) NB178_186.out _).trans (((cell_far (p := ⟨gb186, _, none⟩) NB178_186.out _).trans (hHeld.2.2.2.2.2.2.2.2.2.1)))), ((cell_far (p := ⟨gb186, _, none⟩) NB178_186.out _).trans (((cell_far (p := ⟨gb186, _, none⟩) NB178_186.out _).trans (hHeld.2.2.2.2.2.2.2.2.2.2.1)))), ((cell_far (p := ⟨gb186, _, none⟩) NB178_186.out _).trans (((cell_far (p := ⟨gb186, _, none⟩) NB178_186.out _).trans (hHeld.2.2.2.2.2.2.2.2.2.2.2))))⟩ (fun hHeld => ?_)
       clear hK K
       refine done_ (done_of HT_.out (by kernel_rfl)) ?_
       try go_wp2
       have n0_ : Aside0 (((((w4.setCell ⟨gb185, 0, none⟩ (.int .i64 t181)).setCell ⟨gb185, 1, none⟩ (.int .i64 t182)).setCell ⟨gb186, 0, none⟩ (.int .i64 t183)).setCell ⟨gb186, 1, none⟩ (.int .i64 t184)).heap[gb177]? = some (.cells #[.int .i64 a0_0, .int .i64 a0_1, .int .i64 a0_2, .int .i64 a0_3, .int .i64 a0_4, .int .i64 a0_5] 25 (0, 0))) := ⟨by (with_reducible repeat (first | refine blk_drewN ?_ _ | refine blk_drew ?_ | refine blk_alloc ?_ _)); refine blk_far ?_ NB177_186.out _; (with_reducible repeat (first | refine blk_drewN ?_ _ | refine blk_drew ?_ | refine blk_alloc ?_ _)); refine blk_far ?_ NB177_186.out _; (with_reducible repeat (first | refine blk_drewN ?_ _ | refine blk_drew ?_ | refine blk_alloc ?_ _)); refine blk_far ?_ NB177_185.out _; (with_reducible repeat (first | refine blk_drewN ?_ _ | refine blk_drew ?_ | refine blk_alloc ?_ _)); refine blk_far ?_ NB177_185.out _; (with_reducible repeat (first | refine blk_drewN ?_ _ | refine blk_drew ?_ | refine blk_alloc ?_ _)); exact BK177.out⟩
       have n1_ : Aside0 (((((w4.setCell ⟨gb185, 0, none⟩ (.int .i64 t181)).setCell ⟨gb185, 1, none⟩ (.int .i64 t182)).setCell ⟨gb186, 0, none⟩ (.int .i64 t183)).setCell ⟨gb186, 1, none⟩ (.int .i64 t184)).heap[gb178]? = some (.cells #[.int .i64 a1_0, .int .i64 a1_1, .int .i64 a1_2, .int .i64 a1_3, .int .i64 a1_4, .int .i64 a1_5] 25 (0, 0))) := ⟨by (with_reducible repeat (first | refine blk_drewN ?_ _ | refine blk_drew ?_ | refine blk_alloc ?_ _)); refine blk_far ?_ NB178_186.out _; (with_reducible repeat (first | refine blk_drewN ?_ _ | refine blk_drew ?_ | refine blk_alloc ?_ _)); refine blk_far ?_ NB178_186.out _; (with_reducible repeat (first | refine blk_drewN ?_ _ | refine blk_drew ?_ | refine blk_alloc ?_ _)); refine blk_far ?_ NB178_185.out _; (with_reducible repeat (first | refine blk_drewN ?_ _ | refine blk_drew ?_ | refine blk_alloc ?_ _)); refine blk_far ?_ NB178_185.out _; (with_reducible repeat (first | refine blk_drewN ?_ _ | refine blk_drew ?_ | refine blk_alloc ?_ _)); exact BK178.out⟩
       have n2_ : Aside0 (((((w4.setCell ⟨gb185, 0, none⟩ (.int .i64 t181)).setCell ⟨gb185, 1, none⟩ (.int .i64 t182)).setCell ⟨gb186, 0, none⟩ (.int .i64 t183)).setCell ⟨gb186, 1, none⟩ (.int .i64 t184)).heap[gb185]? = some (.cells #[.int .i64 t181, .int .i64 t182] 89 (0, 0))) := ⟨by (with_reducible repeat (first | refine blk_drewN ?_ _ | refine blk_drew ?_ | refine blk_alloc ?_ _)); refine blk_far ?_ NB185_186.out _; (with_reducible repeat (first | refine blk_drewN ?_ _ | refine blk_drew ?_ | refine blk_alloc ?_ _)); refine blk_far ?_ NB185_186.out _; (with_reducible repeat (first | refine blk_drewN ?_ _ | refine blk_drew ?_ | refine blk_alloc ?_ _)); refine blk_put (cs := #[.int .i64 t181, .int .i64 0]) ?_ 1 _ rfl; (with_reducible repeat (first | refine blk_drewN ?_ _ | refine blk_drew ?_ | refine blk_alloc ?_ _)); refine blk_put (cs := #[.int .i64 0, .int .i64 0]) ?_ 0 _ rfl; (with_reducible repeat (first | refine blk_drewN ?_ _ | refine blk_drew ?_ | refine blk_alloc ?_ _)); exact BK185.out⟩
       have n3_ : Aside0 (((((w4.setCell ⟨gb185, 0, none⟩ (.int .i64 t181)).setCell ⟨gb185, 1, none⟩ (.int .i64 t182)).setCell ⟨gb186, 0, none⟩ (.int .i64 t183)).setCell ⟨gb186, 1, none⟩ (.int .i64 t184)).heap[gb186]? = some (.cells #[.int .i64 t183, .int .i64 t184] 89 (0, 0))) := ⟨by (with_reducible repeat (first | refine blk_drewN ?_ _ | refine blk_drew ?_ | refine blk_alloc ?_ _)); refine blk_put (cs := #[.int .i64 t183, .int .i64 0]) ?_ 1 _ rfl; (with_reducible repeat (first | refine blk_drewN ?_ _ | refine blk_drew ?_ | refine blk_alloc ?_ _)); refine blk_put (cs := #[.int .i64 0, .int .i64 0]) ?_ 0 _ rfl; (with_reducible repeat (first | refine blk_drewN ?_ _ | refine blk_drew ?_ | refine blk_alloc ?_ _)); refine blk_far ?_ NB186_185.out _; (with_reducible repeat (first | refine blk_drewN ?_ _ | refine blk_drew ?_ | refine blk_alloc ?_ _)); refine blk_far ?_ NB186_185.out _; (with_reducible repeat (first | refine blk_drewN ?_ _ | refine blk_drew ?_ | refine blk_alloc ?_ _)); exact BK186.out⟩
       have n4_ : Aside0 (Below w.heap.size w ((((w4.setCell ⟨gb185, 0, none⟩ (.int .i64 t181)).setCell ⟨gb185, 1, none⟩ (.int .i64 t182)).setCell ⟨gb186, 0, none⟩ (.int .i64 t183)).setCell ⟨gb186, 1, none⟩ (.int .i64 t184))) := ⟨by repeat (first | (with_reducible first | exact HB.out | apply below_alloc | apply pw_below_drewN | apply below_drew1 | refine below_set ?_ GE177.out | refine below_set ?_ GE178.out | refine below_set ?_ GE185.out | refine below_set ?_ GE186.out) | exact HB.out)⟩
       (try clear BK177)
       (try clear BK178)
       (try clear BK185)
       (try clear BK186)
       (try clear HB)
       generalize ((((w4.setCell ⟨gb185, 0, none⟩ (.int .i64 t181)).setCell ⟨gb185, 1, none⟩ (.int .i64 t182)).setCell ⟨gb186, 0, none⟩ (.int .i64 t183)).setCell ⟨gb186, 1, none⟩ (.int .i64 t184)) = w5 at n0_ n1_ n2_ n3_ n4_ ⊢
       have BK177 := n0_
       have BK178 := n1_
       have BK185 := n2_
       have BK186 := n3_
       have HB := n4_
       clear n0_ n1_ n2_ n3_ n4_
       have n0_ := Aside0.mk (blk_drew BK177.out)
       have n1_ := Aside0.mk (blk_drew BK178.out)
       have n2_ := Aside0.mk (blk_drew BK185.out)
       have n3_ := Aside0.mk (blk_drew BK186.out)
       have n4_ := Aside0.mk (below_drew1 HB.out)
       clear BK177 BK178 BK185 BK186 HB
       have BK177 := n0_
       have BK178 := n1_
       have BK185 := n2_
       have BK186 := n3_
       have HB := n4_
       clear n0_ n1_ n2_ n3_ n4_
       refine start_ (n := 31) (S := fun w' => w'.cell? ⟨gb185, 0, none⟩ = some (.int .i64 t181) ∧ w'.cell? ⟨gb185, 1, none⟩ = some (.int .i64 t182) ∧ w'.cell? ⟨gb186, 0, none⟩ = some (.int .i64 t183) ∧ w'.cell? ⟨gb186, 1, none⟩ = some (.int .i64 t184) ∧ w'.cell? ⟨gb178, 0, none⟩ = some (.int .i64 a1_0) ∧ w'.cell? ⟨gb178, 1, none⟩ = some (.int .i64 a1_1) ∧ w'.cell? ⟨gb178, 2, none⟩ = some (.int .i64 a1_2) ∧ w'.cell? ⟨gb178, 3, none⟩ = some (.int .i64 a1_3) ∧ w'.cell? ⟨gb178, 4, none⟩ = some (.int .i64 a1_4) ∧ w'.cell? ⟨gb178, 5, none⟩ = some (.int .i64 a1_5) ∧ w'.cell? ⟨gb177, 0, none⟩ = some (.int .i64 a0_0) ∧ w'.cell? ⟨gb177, 1, none⟩ = some (.int .i64 a0_1) ∧ w'.cell? ⟨gb177, 2, none⟩ = some (.int .i64 a0_2) ∧ w'.cell? ⟨gb177, 3, none⟩ = some (.int .i64 a0_3) ∧ w'.cell? ⟨gb177, 4, none⟩ = some (.int .i64 a0_4) ∧ w'.cell? ⟨gb177, 5, none⟩ = some (.int .i64 a0_5)) (ds := []) #[false, false, false, false, false, false, false, false, false, false, false, false, false, false, false, false, false, false, false, false, false, false, false, false, false, false, false, false, false, false, false] (by kernel_rfl) rfl rfl ⟨bc BK185.out 0, bc BK185.out 1, bc BK186.out 0, bc BK186.out 1, bc BK178.out 0, bc BK178.out 1, bc BK178.out 2, bc BK178.out 3, bc BK178.out 4, bc BK178.out 5, bc BK177.out 0, bc BK177.out 1, bc BK177.out 2, bc BK177.out 3, bc BK177.out 4, bc BK177.out 5⟩ (fun hHeld => ?_); refine with_tabW impl_HeadOn.tab4 impl_HeadOn.bits4 (fun HT_ HW_ => ?_)
       generalize w5.drew = w6 at BK177 BK178 BK185 BK186 HB hHeld ⊢
       refine take_ (i := 0) (N := some 19) (v := ?_) (a' := ?_) (bz 31 1) rfl rfl (take_ofW HT_.out HW_.out (by kernel_rfl)) (fun _ _ _ h => h) (Or.inl ⟨by rfl, ?_⟩) hHeld ?_ ?_
       rotate_left
       ·exact t5_2
       rotate_left
       ·exact t5_1
       refine take_ (i := 1) (N := some 20) (v := ?_) (a' := ?_) (bz 31 3) rfl rfl (take_ofW HT_.out HW_.out (by kernel_rfl)) (fun _ _ _ h => h) (Or.inl ⟨by rfl, ?_⟩) hHeld ?_ ?_
       rotate_left
       ·exact t5_2
       rotate_left
       ·exact t5_1
       refine one_ (i := 2) (N := some 21) (bz 31 7) rfl rfl (one_of HT_.out (by kernel_rfl)) (by decide) (fun K hK => ?_)
       refine goes_ Try.func72 (by kernel_rfl) rfl #[.agg #[.int .i64 t181, .int .i64 t182], .agg #[.int .i64 t183, .int .i64 t184]] (by rfl) rfl rfl s5_5 ?_
       with_reducible refine (impl_vec_dot.calls t181 t182 t183 t184 t187 _ A20.out).mono ?_
       rintro e w7 ⟨rfl, hb⟩
       refine ⟨_, rfl, ?_⟩
       have n0_ := Aside0.mk (bb (zk BK177.out) hb)
       have n1_ := Aside0.mk (bb (zk BK178.out) hb)
       have n2_ := Aside0.mk (bb (zk BK185.out) hb)
       have n3_ := Aside0.mk (bb (zk BK186.out) hb)
       have n4_ := Aside0.mk (below_step s5_3 hb)
       clear BK177 BK178 BK185 BK186 HB
       have BK177 := n0_
       have BK178 := n1_
       have BK185 := n2_
       have BK186 := n3_
       have HB := n4_
       clear n0_ n1_ n2_ n3_ n4_
       (try clear hb)
       (try clear hb2)
       (try clear hk)
       (try clear hi)
       refine hK.out _ _ ⟨bc BK185.out 0, bc BK185.out 1, bc BK186.out 0, bc BK186.out 1, bc BK178.out 0, bc BK178.out 1, bc BK178.out 2, bc BK178.out 3, bc BK178.out 4, bc BK178.out 5, bc BK177.out 0, bc BK177.out 1, bc BK177.out 2, bc BK177.out 3, bc BK177.out 4, bc BK177.out 5⟩ (fun hHeld => ?_)
       clear hK K
       refine norm_ (a' := ?_) ?_ ?_
       rotate_left
       ·show Act.put _ (some 21) _ = _
        simp only [Act.put, y1, y2, y3, i64_w, i32_w]
        rfl
       refine pure_ (i := 3) (N := some 22) (v := ?_) (a' := ?_) (bz 31 15) rfl rfl (any_of HT_.out (by kernel_rfl)) (fun _ _ _ h => h) (Or.inl ⟨by rfl, ?_⟩) ?_ ?_
       rotate_left
       ·exact t5_3
       rotate_left
       ·exact t5_1
       refine pure_ (i := 4) (N := some 23) (v := ?_) (a' := ?_) (bz 31 31) rfl rfl (any_of HT_.out (by kernel_rfl)) (fun _ _ _ h => h) (Or.inl ⟨by rfl, ?_⟩) ?_ ?_
       rotate_left
       ·exact t5_3
       rotate_left
       ·exact t5_1
       refine take_ (i := 5) (N := some 24) (v := ?_) (a' := ?_) (bz 31 63) rfl rfl (take_ofW HT_.out HW_.out (by kernel_rfl)) (fun _ _ _ h => h) (Or.inl ⟨by rfl, ?_⟩) hHeld ?_ ?_
       rotate_left
       ·exact t5_2
       rotate_left
       ·exact t5_1
       refine take_ (i := 6) (N := some 25) (v := ?_) (a' := ?_) (bz 31 127) rfl rfl (take_ofW HT_.out HW_.out (by kernel_rfl)) (fun _ _ _ h => h) (Or.inl ⟨by rfl, ?_⟩) hHeld ?_ ?_
       rotate_left
       ·exact t5_2
       rotate_left
       ·exact t5_1
       refine take_ (i := 10) (N := some 29) (v := ?_) (a' := ?_) (bz 31 1151) rfl rfl (take_ofW HT_.out HW_.out (by kernel_rfl)) (fun _ _ _ h => h) (Or.inl ⟨by rfl, ?_⟩) hHeld ?_ ?_
       rotate_left
       ·exact t5_2
       rotate_left
       ·exact t5_1
       refine take_ (i := 11) (N := some 30) (v := ?_) (a' := ?_) (bz 31 3199) rfl rfl (take_ofW HT_.out HW_.out (by kernel_rfl)) (fun _ _ _ h => h) (Or.inl ⟨by rfl, ?_⟩) hHeld ?_ ?_
       rotate_left
       ·exact t5_2
       rotate_left
       ·exact t5_1
       refine one_ (i := 7) (N := some 26) (bz 31 3327) rfl rfl (one_of HT_.out (by kernel_rfl)) (by decide) (fun K hK => ?_)
       refine goes_ Try.func74 (by kernel_rfl) rfl #[.agg #[.int .i64 t181, .int .i64 t182], .agg #[.int .i64 t183, .int .i64 t184]] (by rfl) rfl rfl s5_5 ?_
       with_reducible refine (impl_vec_cross.calls t181 t182 t183 t184 t188 _ A22.out).mono ?_
       rintro e w8 ⟨rfl, hb⟩
       refine ⟨_, rfl, ?_⟩
       have n0_ := Aside0.mk (bb (zk BK177.out) hb)
       have n1_ := Aside0.mk (bb (zk BK178.out) hb)
       have n2_ := Aside0.mk (bb (zk BK185.out) hb)
       have n3_ := Aside0.mk (bb (zk BK186.out) hb)
       have n4_ := Aside0.mk (below_step s5_3 hb)
       clear BK177 BK178 BK185 BK186 HB
       have BK177 := n0_
       have BK178 := n1_
       have BK185 := n2_
       have BK186 := n3_
       have HB := n4_
       clear n0_ n1_ n2_ n3_ n4_
       (try clear hb)
       (try clear hb2)
       (try clear hk)
       (try clear hi)
       refine hK.out _ _ ⟨bc BK185.out 0, bc BK185.out 1, bc BK186.out 0, bc BK186.out 1, bc BK178.out 0, bc BK178.out 1, bc BK178.out 2, bc BK178.out 3, bc BK178.out 4, bc BK178.out 5, bc BK177.out 0, bc BK177.out 1, bc BK177.out 2, bc BK177.out 3, bc BK177.out 4, bc BK177.out 5⟩ (fun hHeld => ?_)
       clear hK K
       refine norm_ (a' := ?_) ?_ ?_
       rotate_left
       ·show Act.put _ (some 26) _ = _
        simp only [Act.put, y1, y2, y3, i64_w, i32_w]
        rfl
       refine one_ (i := 8) (N := some 27) (bz 31 3583) rfl rfl (one_of HT_.out (by kernel_rfl)) (by decide) (fun K hK => ?_)
       refine goes_ Try.func73 (by kernel_rfl) rfl #[.int .i64 t188] (by rfl) rfl rfl s5_5 ?_
       with_reducible refine (impl_square.calls t188 t189 _ A23.out).mono ?_
       rintro e w' ⟨rfl, ⟨nd, rfl⟩⟩
       refine ⟨_, rfl, ?_⟩
       refine hK.out _ _ ⟨bc BK185.out 0, bc BK185.out 1, bc BK186.out 0, bc BK186.out 1, bc BK178.out 0, bc BK178.out 1, bc BK178.out 2, bc BK178.out 3, bc BK178.out 4, bc BK178.out 5, bc BK177.out 0, bc BK177.out 1, bc BK177.out 2, bc BK177.out 3, bc BK177.out 4, bc BK177.out 5⟩ (fun hHeld => ?_)
       clear hK K
       refine norm_ (a' := ?_) ?_ ?_
       rotate_left
       ·show Act.put _ (some 27) _ = _
        simp only [Act.put, y1, y2, y3, i64_w, i32_w]
        rfl
       refine pure_ (i := 9) (N := some 28) (v := ?_) (a' := ?_) (bz 31 4095) rfl rfl (any_of HT_.out (by kernel_rfl)) (fun _ _ _ h => h) (Or.inl ⟨by rfl, ?_⟩) ?_ ?_
       rotate_left
       ·exact t5_3
       rotate_left
       ·exact t5_1
       refine one_ (i := 12) (N := some 31) (bz 31 8191) rfl rfl (one_of HT_.out (by kernel_rfl)) (by decide) (fun K hK => ?_)
       refine goes_ Try.func72 (by kernel_rfl) rfl #[.agg #[.int .i64 t181, .int .i64 t182], .agg #[.int .i64 t183, .int .i64 t184]] (by rfl) rfl rfl s5_5 ?_
       with_reducible refine (impl_vec_dot.calls t181 t182 t183 t184 t190 _ A24.out).mono ?_
       rintro e w9 ⟨rfl, hb⟩
       refine ⟨_, rfl, ?_⟩
       have n0_ := Aside0.mk (bb (zk BK177.out) hb)
       have n1_ := Aside0.mk (bb (zk BK178.out) hb)
       have n2_ := Aside0.mk (bb (zk BK185.out) hb)
       have n3_ := Aside0.mk (bb (zk BK186.out) hb)
       have n4_ := Aside0.mk (below_step s5_3 hb)
       clear BK177 BK178 BK185 BK186 HB
       have BK177 := n0_
       have BK178 := n1_
       have BK185 := n2_
       have BK186 := n3_
       have HB := n4_
       clear n0_ n1_ n2_ n3_ n4_
       (try clear hb)
       (try clear hb2)
       (try clear hk)
       (try clear hi)
       refine hK.out _ _ ⟨bc BK185.out 0, bc BK185.out 1, bc BK186.out 0, bc BK186.out 1, bc BK178.out 0, bc BK178.out 1, bc BK178.out 2, bc BK178.out 3, bc BK178.out 4, bc BK178.out 5, bc BK177.out 0, bc BK177.out 1, bc BK177.out 2, bc BK177.out 3, bc BK177.out 4, bc BK177.out 5⟩ (fun hHeld => ?_)
       clear hK K
       refine norm_ (a' := ?_) ?_ ?_
       rotate_left
       ·show Act.put _ (some 31) _ = _
        simp only [Act.put, y1, y2, y3, i64_w, i32_w]
        rfl
       refine one_ (i := 13) (N := some 32) (bz 31 16383) rfl rfl (one_of HT_.out (by kernel_rfl)) (by decide) (fun K hK => ?_)
       refine goes_ Try.func73 (by kernel_rfl) rfl #[.int .i64 t190] (by rfl) rfl rfl s5_5 ?_
       with_reducible refine (impl_square.calls t190 t191 _ A25.out).mono ?_
       rintro e w' ⟨rfl, ⟨nd, rfl⟩⟩
       refine ⟨_, rfl, ?_⟩
       refine hK.out _ _ ⟨bc BK185.out 0, bc BK185.out 1, bc BK186.out 0, bc BK186.out 1, bc BK178.out 0, bc BK178.out 1, bc BK178.out 2, bc BK178.out 3, bc BK178.out 4, bc BK178.out 5, bc BK177.out 0, bc BK177.out 1, bc BK177.out 2, bc BK177.out 3, bc BK177.out 4, bc BK177.out 5⟩ (fun hHeld => ?_)
       clear hK K
       refine norm_ (a' := ?_) ?_ ?_
       rotate_left
       ·show Act.put _ (some 32) _ = _
        simp only [Act.put, y1, y2, y3, i64_w, i32_w]
        rfl
       refine pure_ (i := 14) (N := some 33) (v := ?_) (a' := ?_) (bz 31 32767) rfl rfl (any_of HT_.out (by kernel_rfl)) (fun _ _ _ h => h) (Or.inl ⟨by rfl, ?_⟩) ?_ ?_
       rotate_left
       ·exact t5_3
       rotate_left
       ·exact t5_1
       refine pure_ (i := 15) (N := some 34) (v := ?_) (a' := ?_) (bz 31 65535) rfl rfl (any_of HT_.out (by kernel_rfl)) (fun _ _ _ h => h) (Or.inl ⟨by rfl, ?_⟩) ?_ ?_
       rotate_left
       ·exact t5_3
       rotate_left
       ·exact t5_1
       refine pure_ (i := 16) (N := some 35) (v := ?_) (a' := ?_) (bz 31 131071) rfl rfl (any_of HT_.out (by kernel_rfl)) (fun _ _ _ h => h) (Or.inl ⟨by rfl, ?_⟩) ?_ ?_
       rotate_left
       ·exact t5_3
       rotate_left
       ·exact t5_1
       refine take_ (i := 17) (N := some 36) (v := ?_) (a' := ?_) (bz 31 262143) rfl rfl (take_ofW HT_.out HW_.out (by kernel_rfl)) (fun _ _ _ h => h) (Or.inl ⟨by rfl, ?_⟩) hHeld ?_ ?_
       rotate_left
       ·exact t5_2
       rotate_left
       ·exact t5_1
       refine take_ (i := 18) (N := some 37) (v := ?_) (a' := ?_) (bz 31 524287) rfl rfl (take_ofW HT_.out HW_.out (by kernel_rfl)) (fun _ _ _ h => h) (Or.inl ⟨by rfl, ?_⟩) hHeld ?_ ?_
       rotate_left
       ·exact t5_2
       rotate_left
       ·exact t5_1
       refine take_ (i := 20) (N := some 39) (v := ?_) (a' := ?_) (bz 31 1572863) rfl rfl (take_ofW HT_.out HW_.out (by kernel_rfl)) (fun _ _ _ h => h) (Or.inl ⟨by rfl, ?_⟩) hHeld ?_ ?_
       rotate_left
       ·exact t5_2
       rotate_left
       ·exact t5_1
       refine one_ (i := 19) (N := some 38) (bz 31 2097151) rfl rfl (one_of HT_.out (by kernel_rfl)) (by decide) (fun K hK => ?_)
       refine goes_ Try.func70 (by kernel_rfl) rfl #[.agg #[.int .i64 a1_0, .int .i64 a1_1, .int .i64 a1_2, .int .i64 a1_3, .int .i64 a1_4, .int .i64 a1_5], .agg #[.int .i64 a0_0, .int .i64 a0_1, .int .i64 a0_2, .int .i64 a0_3, .int .i64 a0_4, .int .i64 a0_5]] (by rfl) rfl rfl s5_5 ?_
       with_reducible refine (impl_bearing.calls a1_0 a1_1 a1_2 a1_3 a1_4 a1_5 a0_0 a0_1 a0_2 a0_3 a0_4 a0_5 t192 t193 _ A27.out).mono ?_
       rintro e w10 ⟨rfl, hb⟩
       refine ⟨_, rfl, ?_⟩
       have n0_ := Aside0.mk (bb (zk BK177.out) hb)
       have n1_ := Aside0.mk (bb (zk BK178.out) hb)
       have n2_ := Aside0.mk (bb (zk BK185.out) hb)
       have n3_ := Aside0.mk (bb (zk BK186.out) hb)
       have n4_ := Aside0.mk (below_step s5_3 hb)
       clear BK177 BK178 BK185 BK186 HB
       have BK177 := n0_
       have BK178 := n1_
       have BK185 := n2_
       have BK186 := n3_
       have HB := n4_
       clear n0_ n1_ n2_ n3_ n4_
       (try clear hb)
       (try clear hb2)
       (try clear hk)
       (try clear hi)
       refine hK.out _ _ ⟨bc BK185.out 0, bc BK185.out 1, bc BK186.out 0, bc BK186.out 1, bc BK178.out 0, bc BK178.out 1, bc BK178.out 2, bc BK178.out 3, bc BK178.out 4, bc BK178.out 5, bc BK177.out 0, bc BK177.out 1, bc BK177.out 2, bc BK177.out 3, bc BK177.out 4, bc BK177.out 5⟩ (fun hHeld => ?_)
       clear hK K
       refine norm_ (a' := ?_) ?_ ?_
       rotate_left
       ·show Act.put _ (some 38) _ = _
        simp only [Act.put, y1, y2, y3, i64_w, i32_w]
        rfl
       refine one_ (i := 21) (N := some 40) (bz 31 4194303) rfl rfl (one_of HT_.out (by kernel_rfl)) (by decide) (fun K hK => ?_)
       refine goes_ Try.func76 (by kernel_rfl) rfl #[.agg #[.int .i64 t192, .int .i64 t193], .agg #[.int .i64 t181, .int .i64 t182]] (by rfl) rfl rfl s5_5 ?_
       with_reducible refine (impl_ahead.calls t192 t193 t181 t182 false _ A28.out).mono ?_
       rintro e w11 ⟨rfl, hb⟩
       refine ⟨_, rfl, ?_⟩
       have n0_ := Aside0.mk (bb (zk BK177.out) hb)
       have n1_ := Aside0.mk (bb (zk BK178.out) hb)
       have n2_ := Aside0.mk (bb (zk BK185.out) hb)
       have n3_ := Aside0.mk (bb (zk BK186.out) hb)
       have n4_ := Aside0.mk (below_step s5_3 hb)
       clear BK177 BK178 BK185 BK186 HB
       have BK177 := n0_
       have BK178 := n1_
       have BK185 := n2_
       have BK186 := n3_
       have HB := n4_
       clear n0_ n1_ n2_ n3_ n4_
       (try clear hb)
       (try clear hb2)
       (try clear hk)
       (try clear hi)
       refine hK.out _ _ ⟨bc BK185.out 0, bc BK185.out 1, bc BK186.out 0, bc BK186.out 1, bc BK178.out 0, bc BK178.out 1, bc BK178.out 2, bc BK178.out 3, bc BK178.out 4, bc BK178.out 5, bc BK177.out 0, bc BK177.out 1, bc BK177.out 2, bc BK177.out 3, bc BK177.out 4, bc BK177.out 5⟩ (fun hHeld => ?_)
       clear hK K
       refine norm_ (a' := ?_) ?_ ?_
       rotate_left
       ·show Act.put _ (some 40) _ = _
        simp only [Act.put, y1, y2, y3, i64_w, i32_w]
        rfl
       refine pure_ (i := 22) (N := some 41) (v := ?_) (a' := ?_) (bz 31 8388607) rfl rfl (any_of HT_.out (by kernel_rfl)) (fun _ _ _ h => h) (Or.inl ⟨by rfl, ?_⟩) ?_ ?_
       rotate_left
       ·exact t5_3
       rotate_left
       ·exact t5_1
       refine pure_ (i := 23) (N := some 42) (v := ?_) (a' := ?_) (bz 31 16777215) rfl rfl (any_of HT_.out (by kernel_rfl)) (fun _ _ _ h => h) (Or.inl ⟨by rfl, ?_⟩) ?_ ?_
       rotate_left
       ·exact t5_3
       rotate_left
       ·exact t5_1
       refine pure_ (i := 24) (N := some 43) (v := undef) (a' := ?_) (bz 31 33554431) rfl rfl (any_of HT_.out (by kernel_rfl)) (fun _ _ _ h => h) (Or.inr ⟨by rfl, rfl⟩) ?_ ?_
       rotate_left
       ·exact t5_1
       refine pure_ (i := 25) (N := some 44) (v := undef) (a' := ?_) (bz 31 67108863) rfl rfl (any_of HT_.out (by kernel_rfl)) (fun _ _ _ h => h) (Or.inr ⟨by rfl, rfl⟩) ?_ ?_
       rotate_left
       ·exact t5_1
       refine pure_ (i := 26) (N := some 45) (v := undef) (a' := ?_) (bz 31 134217727) rfl rfl (any_of HT_.out (by kernel_rfl)) (fun _ _ _ h => h) (Or.inr ⟨by rfl, rfl⟩) ?_ ?_
       rotate_left
       ·exact t5_1
       refine pure_ (i := 27) (N := some 46) (v := undef) (a' := ?_) (bz 31 268435455) rfl rfl (any_of HT_.out (by kernel_rfl)) (fun _ _ _ h => h) (Or.inr ⟨by rfl, rfl⟩) ?_ ?_
       rotate_left
       ·exact t5_1
       refine pure_ (i := 28) (N := some 47) (v := undef) (a' := ?_) (bz 31 536870911) rfl rfl (any_of HT_.out (by kernel_rfl)) (fun _ _ _ h => h) (Or.inr ⟨by rfl, rfl⟩) ?_ ?_
       rotate_left
       ·exact t5_1
       refine pure_ (i := 29) (N := some 48) (v := ?_) (a' := ?_) (bz 31 1073741823) rfl rfl (any_of HT_.out (by kernel_rfl)) (fun _ _ _ h => h) (Or.inl ⟨by rfl, ?_⟩) ?_ ?_
       rotate_left
       ·exact t5_3
       rotate_left
       ·exact t5_1
       refine pure_ (i := 30) (N := some 4) (v := ?_) (a' := ?_) (bz 31 2147483647) rfl rfl (any_of HT_.out (by kernel_rfl)) (fun _ _ _ h => h) (Or.inl ⟨by rfl, ?_⟩) ?_ ?_
       rotate_left
       ·exact t5_3
       rotate_left
       ·exact t5_1
       refine done_ (done_of HT_.out (by kernel_rfl)) ?_
       try go_wp2
       go_ret
       exact ⟨by first | rfl | (simp [errW_none, errW_some] <;> rfl) | (simp [*, errW_none, errW_some] <;> rfl), by repeat (first | (with_reducible first | exact HB.out | apply below_alloc | apply pw_below_drewN | apply below_drew1 | refine below_set ?_ GE177.out | refine below_set ?_ GE178.out | refine below_set ?_ GE185.out | refine below_set ?_ GE186.out) | exact HB.out)⟩
     ·rw [if_neg c26] at H
      have c26b0 : decide ((IntKind.u64.wrap (t189 * 100)) ≤ t191) = false := decide_eq_false c26
      clear c26
      obtain rfl := Option.some.inj H
      try go_wp2
      have n0_ := Aside0.mk (blk_drew BK177.out)
      have n1_ := Aside0.mk (blk_drew BK178.out)
      have n2_ := Aside0.mk (below_drew1 HB.out)
      clear BK177 BK178 HB
      have BK177 := n0_
      have BK178 := n1_
      have HB := n2_
      clear n0_ n1_ n2_
      refine start_ (n := 8) (S := fun w' => w'.cell? ⟨gb177, 0, none⟩ = some (.int .i64 a0_0) ∧ w'.cell? ⟨gb177, 1, none⟩ = some (.int .i64 a0_1) ∧ w'.cell? ⟨gb177, 2, none⟩ = some (.int .i64 a0_2) ∧ w'.cell? ⟨gb177, 3, none⟩ = some (.int .i64 a0_3) ∧ w'.cell? ⟨gb177, 4, none⟩ = some (.int .i64 a0_4) ∧ w'.cell? ⟨gb177, 5, none⟩ = some (.int .i64 a0_5) ∧ w'.cell? ⟨gb178, 0, none⟩ = some (.int .i64 a1_0) ∧ w'.cell? ⟨gb178, 1, none⟩ = some (.int .i64 a1_1) ∧ w'.cell? ⟨gb178, 2, none⟩ = some (.int .i64 a1_2) ∧ w'.cell? ⟨gb178, 3, none⟩ = some (.int .i64 a1_3) ∧ w'.cell? ⟨gb178, 4, none⟩ = some (.int .i64 a1_4) ∧ w'.cell? ⟨gb178, 5, none⟩ = some (.int .i64 a1_5)) (ds := []) #[false, false, false, false, false, false, false, false] (by kernel_rfl) rfl rfl ⟨bc BK177.out 0, bc BK177.out 1, bc BK177.out 2, bc BK177.out 3, bc BK177.out 4, bc BK177.out 5, bc BK178.out 0, bc BK178.out 1, bc BK178.out 2, bc BK178.out 3, bc BK178.out 4, bc BK178.out 5⟩ (fun hHeld => ?_); refine with_tabW impl_HeadOn.tab3 impl_HeadOn.bits3 (fun HT_ HW_ => ?_)
      generalize wc.drew = w3 at BK177 BK178 HB hHeld ⊢
      refine take_ (i := 0) (N := some 15) (v := ?_) (a' := ?_) (bz 8 1) rfl rfl (take_ofW HT_.out HW_.out (by kernel_rfl)) (fun _ _ _ h => h) (Or.inl ⟨by rfl, ?_⟩) hHeld ?_ ?_
      rotate_left
      ·exact t5_4
      rotate_left
      ·exact t5_1
      refine take_ (i := 2) (N := some 17) (v := ?_) (a' := ?_) (bz 8 5) rfl rfl (take_ofW HT_.out HW_.out (by kernel_rfl)) (fun _ _ _ h => h) (Or.inl ⟨by rfl, ?_⟩) hHeld ?_ ?_
      rotate_left
      ·exact t5_4
      rotate_left
      ·exact t5_1
      refine join_ (σ := Nat × Nat) 2 (bz 8 63) (fun s_ => [(16, .agg #[.int .i64 t181, .int .i64 t182]), (18, .agg #[.int .i64 t183, .int .i64 t184]), (5, .pointer (some ⟨s_.1, 0, none⟩)), (6, .pointer (some ⟨s_.2, 0, none⟩))]) (fun s_ w' => (w'.cell? ⟨gb177, 0, none⟩ = some (.int .i64 a0_0) ∧ w'.cell? ⟨gb177, 1, none⟩ = some (.int .i64 a0_1) ∧ w'.cell? ⟨gb177, 2, none⟩ = some (.int .i64 a0_2) ∧ w'.cell? ⟨gb177, 3, none⟩ = some (.int .i64 a0_3) ∧ w'.cell? ⟨gb177, 4, none⟩ = some (.int .i64 a0_4) ∧ w'.cell? ⟨gb177, 5, none⟩ = some (.int .i64 a0_5) ∧ w'.cell? ⟨gb178, 0, none⟩ = some (.int .i64 a1_0) ∧ w'.cell? ⟨gb178, 1, none⟩ = some (.int .i64 a1_1) ∧ w'.cell? ⟨gb178, 2, none⟩ = some (.int .i64 a1_2) ∧ w'.cell? ⟨gb178, 3, none⟩ = some (.int .i64 a1_3) ∧ w'.cell? ⟨gb178, 4, none⟩ = some (.int .i64 a1_4) ∧ w'.cell? ⟨gb178, 5, none⟩ = some (.int .i64 a1_5)) ∧ (w'.heap[gb177]? = some (.cells #[.int .i64 a0_0, .int .i64 a0_1, .int .i64 a0_2, .int .i64 a0_3, .int .i64 a0_4, .int .i64 a0_5] 25 (0, 0))) ∧ (w'.heap[gb178]? = some (.cells #[.int .i64 a1_0, .int .i64 a1_1, .int .i64 a1_2, .int .i64 a1_3, .int .i64 a1_4, .int .i64 a1_5] 25 (0, 0))) ∧ (w'.heap[s_.1]? = some (.cells #[.int .i64 0, .int .i64 0] 89 (0, 0))) ∧ (w'.heap[s_.2]? = some (.cells #[.int .i64 0, .int .i64 0] 89 (0, 0))) ∧ (w.heap.size ≤ s_.1) ∧ (w.heap.size ≤ s_.1) ∧ (gb177 ≠ s_.1) ∧ (s_.1 ≠ gb177) ∧ (gb178 ≠ s_.1) ∧ (s_.1 ≠ gb178) ∧ (s_.2 ≠ s_.1) ∧ (s_.1 ≠ s_.2) ∧ (w.heap.size ≤ s_.2) ∧ (w.heap.size ≤ s_.2) ∧ (gb177 ≠ s_.2) ∧ (s_.2 ≠ gb177) ∧ (gb178 ≠ s_.2) ∧ (s_.2 ≠ gb178) ∧ (Below w.heap.size w w')) ?_ ?_
      rotate_left
      ·exact t5_0
      rintro ⟨gb185, gb186⟩ w4 ⟨hS_, h0_, h1_, h2_, h3_, h4_, h5_, h6_, h7_, h8_, h9_, h10_, h11_, h12_, h13_, h14_, h15_, h16_, h17_, h18_⟩
      have n0_ : Aside0 (w4.heap[gb177]? = some (.cells #[.int .i64 a0_0, .int .i64 a0_1, .int .i64 a0_2, .int .i64 a0_3, .int .i64 a0_4, .int .i64 a0_5] 25 (0, 0))) := ⟨h0_⟩
      have n1_ : Aside0 (w4.heap[gb178]? = some (.cells #[.int .i64 a1_0, .int .i64 a1_1, .int .i64 a1_2, .int .i64 a1_3, .int .i64 a1_4, .int .i64 a1_5] 25 (0, 0))) := ⟨h1_⟩
      have n2_ : Aside0 (w4.heap[gb185]? = some (.cells #[.int .i64 0, .int .i64 0] 89 (0, 0))) := ⟨h2_⟩
      have n3_ : Aside0 (w4.heap[gb186]? = some (.cells #[.int .i64 0, .int .i64 0] 89 (0, 0))) := ⟨h3_⟩
      have n4_ : Aside0 (w.heap.size ≤ gb185) := ⟨h4_⟩
      have n5_ : Aside0 (w.heap.size ≤ gb185) := ⟨h5_⟩
      have n6_ : Aside0 (gb177 ≠ gb185) := ⟨h6_⟩
      have n7_ : Aside0 (gb185 ≠ gb177) := ⟨h7_⟩
      have n8_ : Aside0 (gb178 ≠ gb185) := ⟨h8_⟩
      have n9_ : Aside0 (gb185 ≠ gb178) := ⟨h9_⟩
      have n10_ : Aside0 (gb186 ≠ gb185) := ⟨h10_⟩
      have n11_ : Aside0 (gb185 ≠ gb186) := ⟨h11_⟩
      have n12_ : Aside0 (w.heap.size ≤ gb186) := ⟨h12_⟩
      have n13_ : Aside0 (w.heap.size ≤ gb186) := ⟨h13_⟩
      have n14_ : Aside0 (gb177 ≠ gb186) := ⟨h14_⟩
      have n15_ : Aside0 (gb186 ≠ gb177) := ⟨h15_⟩
      have n16_ : Aside0 (gb178 ≠ gb186) := ⟨h16_⟩
      have n17_ : Aside0 (gb186 ≠ gb178) := ⟨h17_⟩
      have n18_ : Aside0 (Below w.heap.size w w4) := ⟨h18_⟩
      clear BK177 BK178 HB h0_ h1_ h2_ h3_ h4_ h5_ h6_ h7_ h8_ h9_ h10_ h11_ h12_ h13_ h14_ h15_ h16_ h17_ h18_
      have BK177 := n0_
      have BK178 := n1_
      have BK185 := n2_
      have BK186 := n3_
      have GW185 := n4_
      have GE185 := n5_
      have NB177_185 := n6_
      have NB185_177 := n7_
      have NB178_185 := n8_
      have NB185_178 := n9_
      have NB186_185 := n10_
      have NB185_186 := n11_
      have GW186 := n12_
      have GE186 := n13_
      have NB177_186 := n14_
      have NB186_177 := n15_
      have NB178_186 := n16_
      have NB186_178 := n17_
      have HB := n18_
      clear n0_ n1_ n2_ n3_ n4_ n5_ n6_ n7_ n8_ n9_ n10_ n11_ n12_ n13_ n14_ n15_ n16_ n17_ n18_
      have hHeld : w4.cell? ⟨gb177, 0, none⟩ = some (.int .i64 a0_0) ∧ w4.cell? ⟨gb177, 1, none⟩ = some (.int .i64 a0_1) ∧ w4.cell? ⟨gb177, 2, none⟩ = some (.int .i64 a0_2) ∧ w4.cell? ⟨gb177, 3, none⟩ = some (.int .i64 a0_3) ∧ w4.cell? ⟨gb177, 4, none⟩ = some (.int .i64 a0_4) ∧ w4.cell? ⟨gb177, 5, none⟩ = some (.int .i64 a0_5) ∧ w4.cell? ⟨gb178, 0, none⟩ = some (.int .i64 a1_0) ∧ w4.cell? ⟨gb178, 1, none⟩ = some (.int .i64 a1_1) ∧ w4.cell? ⟨gb178, 2, none⟩ = some (.int .i64 a1_2) ∧ w4.cell? ⟨gb178, 3, none⟩ = some (.int .i64 a1_3) ∧ w4.cell? ⟨gb178, 4, none⟩ = some (.int .i64 a1_4) ∧ w4.cell? ⟨gb178, 5, none⟩ = some (.int .i64 a1_5) := hS_
      refine norm_ (a' := ?_) ?_ ?_
      rotate_left
      ·simp only [putAll, Act.put, y1, y2, y3]
       rfl
      refine one_ (i := 6) (N := none) (bz 8 127) rfl rfl (one_of HT_.out (by kernel_rfl)) (by decide) (fun K hK => ?_)
      have hs74 : w4.cell? ⟨gb185, 0, none⟩ = some (.int .i64 0) := bc BK185.out 0
      have hfs74 := blk_frozen BK185.out 0
      have hns74_0 := NB177_185.out
      have hns74_1 := NB178_185.out
      have hns74_3 := NB186_185.out
      have hms74_0 := NB185_177.out
      have hms74_1 := NB185_178.out
      have hms74_3 := NB185_186.out
      have hs75 : w4.cell? ⟨gb185, 1, none⟩ = some (.int .i64 0) := bc BK185.out 1
      have hfs75 := blk_frozen BK185.out 1
      have hns75_0 := NB177_185.out
      have hns75_1 := NB178_185.out
      have hns75_3 := NB186_185.out
      have hms75_0 := NB185_177.out
      have hms75_1 := NB185_178.out
      have hms75_3 := NB185_186.out
      refine skip_ (w1 := ?_) (by rfl) rfl ?_ ?_
      rotate_left
      ·go_simp
       rfl
      refine hK.out _ _ ⟨((cell_far (p := ⟨gb185, _, none⟩) NB177_185.out _).trans (((cell_far (p := ⟨gb185, _, none⟩) NB177_185.out _).trans (hHeld.1)))), ((cell_far (p := ⟨gb185, _, none⟩) NB177_185.out _).trans (((cell_far (p := ⟨gb185, _, none⟩) NB177_185.out _).trans (hHeld.2.1)))), ((cell_far (p := ⟨gb185, _, none⟩) NB177_185.out _).trans (((cell_far (p := ⟨gb185, _, none⟩) NB177_185.out _).trans (hHeld.2.2.1)))), ((cell_far (p := ⟨gb185, _, none⟩) NB177_185.out _).trans (((cell_far (p := ⟨gb185, _, none⟩) NB177_185.out _).trans (hHeld.2.2.2.1)))), ((cell_far (p := ⟨gb185, _, none⟩) NB177_185.out _).trans (((cell_far (p := ⟨gb185, _, none⟩) NB177_185.out _).trans (hHeld.2.2.2.2.1)))), ((cell_far (p := ⟨gb185, _, none⟩) NB177_185.out _).trans (((cell_far (p := ⟨gb185, _, none⟩) NB177_185.out _).trans (hHeld.2.2.2.2.2.1)))), ((cell_far (p := ⟨gb185, _, none⟩) NB178_185.out _).trans (((cell_far (p := ⟨gb185, _, none⟩) NB178_185.out _).trans (hHeld.2.2.2.2.2.2.1)))), ((cell_far (p := ⟨gb185, _, none⟩) NB178_185.out _).trans (((cell_far (p := ⟨gb185, _, none⟩) NB178_185.out _).trans (hHeld.2.2.2.2.2.2.2.1)))), ((cell_far (p := ⟨gb185, _, none⟩) NB178_185.out _).trans (((cell_far (p := ⟨gb185, _, none⟩) NB178_185.out _).trans (hHeld.2.2.2.2.2.2.2.2.1)))), ((cell_far (p := ⟨gb185, _, none⟩) NB178_185.out _).trans (((cell_far (p := ⟨gb185, _, none⟩) NB178_185.out _).trans (hHeld.2.2.2.2.2.2.2.2.2.1)))), ((cell_far (p := ⟨gb185, _, none⟩) NB178_185.out _).trans (((cell_far (p := ⟨gb185, _, none⟩) NB178_185.out _).trans (hHeld.2.2.2.2.2.2.2.2.2.2.1)))), ((cell_far (p := ⟨gb185, _, none⟩) NB178_185.out _).trans (((cell_far (p := ⟨gb185, _, none⟩) NB178_185.out _).trans (hHeld.2.2.2.2.2.2.2.2.2.2.2))))⟩ (fun hHeld => ?_)
      clear hK K
      refine one_ (i := 7) (N := none) (bz 8 255) rfl rfl (one_of HT_.out (by kernel_rfl)) (by decide) (fun K hK => ?_)
      have hs76 : w4.cell? ⟨gb186, 0, none⟩ = some (.int .i64 0) := bc BK186.out 0
      have hfs76 := blk_frozen BK186.out 0
      have hns76_0 := NB177_186.out
      have hns76_1 := NB178_186.out
      have hns76_2 := NB185_186.out
      have hms76_0 := NB186_177.out
      have hms76_1 := NB186_178.out
      have hms76_2 := NB186_185.out
      have hs77 : w4.cell? ⟨gb186, 1, none⟩ = some (.int .i64 0) := bc BK186.out 1
      have hfs77 := blk_frozen BK186.out 1
      have hns77_0 := NB177_186.out
      have hns77_1 := NB178_186.out
      have hns77_2 := NB185_186.out
      have hms77_0 := NB186_177.out
      have hms77_1 := NB186_178.out
      have hms77_2 := NB186_185.out
      refine skip_ (w1 := ?_) (by rfl) rfl ?_ ?_
      rotate_left
      ·go_simp
       rfl
      refine hK.out _ _ ⟨((cell_far (p := ⟨gb186, _, none⟩) NB177_186.out _).trans (((cell_far (p := ⟨gb186, _, none⟩) NB177_186.out _).trans (hHeld.1)))), ((cell_far (p := ⟨gb186, _, none⟩) NB177_186.out _).trans (((cell_far (p := ⟨gb186, _, none⟩) NB177_186.out _).trans (hHeld.2.1)))), ((cell_far (p := ⟨gb186, _, none⟩) NB177_186.out _).trans (((cell_far (p := ⟨gb186, _, none⟩) NB177_186.out _).trans (hHeld.2.2.1)))), ((cell_far (p := ⟨gb186, _, none⟩) NB177_186.out _).trans (((cell_far (p := ⟨gb186, _, none⟩) NB177_186.out _).trans (hHeld.2.2.2.1)))), ((cell_far (p := ⟨gb186, _, none⟩) NB177_186.out _).trans (((cell_far (p := ⟨gb186, _, none⟩) NB177_186.out _).trans (hHeld.2.2.2.2.1)))), ((cell_far (p := ⟨gb186, _, none⟩) NB177_186.out _).trans (((cell_far (p := ⟨gb186, _, none⟩) NB177_186.out _).trans (hHeld.2.2.2.2.2.1)))), ((cell_far (p := ⟨gb186, _, none⟩) NB178_186.out _).trans (((cell_far (p := ⟨gb186, _, none⟩) NB178_186.out _).trans (hHeld.2.2.2.2.2.2.1)))), ((cell_far (p := ⟨gb186, _, none⟩) NB178_186.out _).trans (((cell_far (p := ⟨gb186, _, none⟩) NB178_186.out _).trans (hHeld.2.2.2.2.2.2.2.1)))), ((cell_far (p := ⟨gb186, _, none⟩) NB178_186.out _).trans (((cell_far (p := ⟨gb186, _, none⟩) NB178_186.out _).trans (hHeld.2.2.2.2.2.2.2.2.1)))), ((cell_far (p := ⟨gb186, _, none⟩) NB178_186.out _).trans (((cell_far (p := ⟨gb186, _, none⟩) NB178_186.out _).trans (hHeld.2.2.2.2.2.2.2.2.2.1)))), ((cell_far (p := ⟨gb186, _, none⟩) NB178_186.out _).trans (((cell_far (p := ⟨gb186, _, none⟩) NB178_186.out _).trans (hHeld.2.2.2.2.2.2.2.2.2.2.1)))), ((cell_far (p := ⟨gb186, _, none⟩) NB178_186.out _).trans (((cell_far (p := ⟨gb186, _, none⟩) NB178_186.out _).trans (hHeld.2.2.2.2.2.2.2.2.2.2.2))))⟩ (fun hHeld => ?_)
      clear hK K
      refine done_ (done_of HT_.out (by kernel_rfl)) ?_
      try go_wp2
      have n0_ : Aside0 (((((w4.setCell ⟨gb185, 0, none⟩ (.int .i64 t181)).setCell ⟨gb185, 1, none⟩ (.int .i64 t182)).setCell ⟨gb186, 0, none⟩ (.int .i64 t183)).setCell ⟨gb186, 1, none⟩ (.int .i64 t184)).heap[gb177]? = some (.cells #[.int .i64 a0_0, .int .i64 a0_1, .int .i64 a0_2, .int .i64 a0_3, .int .i64 a0_4, .int .i64 a0_5] 25 (0, 0))) := ⟨by (with_reducible repeat (first | refine blk_drewN ?_ _ | refine blk_drew ?_ | refine blk_alloc ?_ _)); refine blk_far ?_ NB177_186.out _; (with_reducible repeat (first | refine blk_drewN ?_ _ | refine blk_drew ?_ | refine blk_alloc ?_ _)); refine blk_far ?_ NB177_186.out _; (with_reducible repeat (first | refine blk_drewN ?_ _ | refine blk_drew ?_ | refine blk_alloc ?_ _)); refine blk_far ?_ NB177_185.out _; (with_reducible repeat (first | refine blk_drewN ?_ _ | refine blk_drew ?_ | refine blk_alloc ?_ _)); refine blk_far ?_ NB177_185.out _; (with_reducible repeat (first | refine blk_drewN ?_ _ | refine blk_drew ?_ | refine blk_alloc ?_ _)); exact BK177.out⟩
      have n1_ : Aside0 (((((w4.setCell ⟨gb185, 0, none⟩ (.int .i64 t181)).setCell ⟨gb185, 1, none⟩ (.int .i64 t182)).setCell ⟨gb186, 0, none⟩ (.int .i64 t183)).setCell ⟨gb186, 1, none⟩ (.int .i64 t184)).heap[gb178]? = some (.cells #[.int .i64 a1_0, .int .i64 a1_1, .int .i64 a1_2, .int .i64 a1_3, .int .i64 a1_4, .int .i64 a1_5] 25 (0, 0))) := ⟨by (with_reducible repeat (first | refine blk_drewN ?_ _ | refine blk_drew ?_ | refine blk_alloc ?_ _)); refine blk_far ?_ NB178_186.out _; (with_reducible repeat (first | refine blk_drewN ?_ _ | refine blk_drew ?_ | refine blk_alloc ?_ _)); refine blk_far ?_ NB178_186.out _; (with_reducible repeat (first | refine blk_drewN ?_ _ | refine blk_drew ?_ | refine blk_alloc ?_ _)); refine blk_far ?_ NB178_185.out _; (with_reducible repeat (first | refine blk_drewN ?_ _ | refine blk_drew ?_ | refine blk_alloc ?_ _)); refine blk_far ?_ NB178_185.out _; (with_reducible repeat (first | refine blk_drewN ?_ _ | refine blk_drew ?_ | refine blk_alloc ?_ _)); exact BK178.out⟩
      have n2_ : Aside0 (((((w4.setCell ⟨gb185, 0, none⟩ (.int .i64 t181)).setCell ⟨gb185, 1, none⟩ (.int .i64 t182)).setCell ⟨gb186, 0, none⟩ (.int .i64 t183)).setCell ⟨gb186, 1, none⟩ (.int .i64 t184)).heap[gb185]? = some (.cells #[.int .i64 t181, .int .i64 t182] 89 (0, 0))) := ⟨by (with_reducible repeat (first | refine blk_drewN ?_ _ | refine blk_drew ?_ | refine blk_alloc ?_ _)); refine blk_far ?_ NB185_186.out _; (with_reducible repeat (first | refine blk_drewN ?_ _ | refine blk_drew ?_ | refine blk_alloc ?_ _)); refine blk_far ?_ NB185_186.out _; (with_reducible repeat (first | refine blk_drewN ?_ _ | refine blk_drew ?_ | refine blk_alloc ?_ _)); refine blk_put (cs := #[.int .i64 t181, .int .i64 0]) ?_ 1 _ rfl; (with_reducible repeat (first | refine blk_drewN ?_ _ | refine blk_drew ?_ | refine blk_alloc ?_ _)); refine blk_put (cs := #[.int .i64 0, .int .i64 0]) ?_ 0 _ rfl; (with_reducible repeat (first | refine blk_drewN ?_ _ | refine blk_drew ?_ | refine blk_alloc ?_ _)); exact BK185.out⟩
      have n3_ : Aside0 (((((w4.setCell ⟨gb185, 0, none⟩ (.int .i64 t181)).setCell ⟨gb185, 1, none⟩ (.int .i64 t182)).setCell ⟨gb186, 0, none⟩ (.int .i64 t183)).setCell ⟨gb186, 1, none⟩ (.int .i64 t184)).heap[gb186]? = some (.cells #[.int .i64 t183, .int .i64 t184] 89 (0, 0))) := ⟨by (with_reducible repeat (first | refine blk_drewN ?_ _ | refine blk_drew ?_ | refine blk_alloc ?_ _)); refine blk_put (cs := #[.int .i64 t183, .int .i64 0]) ?_ 1 _ rfl; (with_reducible repeat (first | refine blk_drewN ?_ _ | refine blk_drew ?_ | refine blk_alloc ?_ _)); refine blk_put (cs := #[.int .i64 0, .int .i64 0]) ?_ 0 _ rfl; (with_reducible repeat (first | refine blk_drewN ?_ _ | refine blk_drew ?_ | refine blk_alloc ?_ _)); refine blk_far ?_ NB186_185.out _; (with_reducible repeat (first | refine blk_drewN ?_ _ | refine blk_drew ?_ | refine blk_alloc ?_ _)); refine blk_far ?_ NB186_185.out _; (with_reducible repeat (first | refine blk_drewN ?_ _ | refine blk_drew ?_ | refine blk_alloc ?_ _)); exact BK186.out⟩
      have n4_ : Aside0 (Below w.heap.size w ((((w4.setCell ⟨gb185, 0, none⟩ (.int .i64 t181)).setCell ⟨gb185, 1, none⟩ (.int .i64 t182)).setCell ⟨gb186, 0, none⟩ (.int .i64 t183)).setCell ⟨gb186, 1, none⟩ (.int .i64 t184))) := ⟨by repeat (first | (with_reducible first | exact HB.out | apply below_alloc | apply pw_below_drewN | apply below_drew1 | refine below_set ?_ GE177.out | refine below_set ?_ GE178.out | refine below_set ?_ GE185.out | refine below_set ?_ GE186.out) | exact HB.out)⟩
      (try clear BK177)
      (try clear BK178)
      (try clear BK185)
      (try clear BK186)
      (try clear HB)
      generalize ((((w4.setCell ⟨gb185, 0, none⟩ (.int .i64 t181)).setCell ⟨gb185, 1, none⟩ (.int .i64 t182)).setCell ⟨gb186, 0, none⟩ (.int .i64 t183)).setCell ⟨gb186, 1, none⟩ (.int .i64 t184)) = w5 at n0_ n1_ n2_ n3_ n4_ ⊢
      have BK177 := n0_
      have BK178 := n1_
      have BK185 := n2_
      have BK186 := n3_
      have HB := n4_
      clear n0_ n1_ n2_ n3_ n4_
      have n0_ := Aside0.mk (blk_drew BK177.out)
      have n1_ := Aside0.mk (blk_drew BK178.out)
      have n2_ := Aside0.mk (blk_drew BK185.out)
      have n3_ := Aside0.mk (blk_drew BK186.out)
      have n4_ := Aside0.mk (below_drew1 HB.out)
      clear BK177 BK178 BK185 BK186 HB
      have BK177 := n0_
      have BK178 := n1_
      have BK185 := n2_
      have BK186 := n3_
      have HB := n4_
      clear n0_ n1_ n2_ n3_ n4_
      refine start_ (n := 31) (S := fun w' => w'.cell? ⟨gb185, 0, none⟩ = some (.int .i64 t181) ∧ w'.cell? ⟨gb185, 1, none⟩ = some (.int .i64 t182) ∧ w'.cell? ⟨gb186, 0, none⟩ = some (.int .i64 t183) ∧ w'.cell? ⟨gb186, 1, none⟩ = some (.int .i64 t184)) (ds := []) #[false, false, false, false, false, false, false, false, false, false, false, false, false, false, false, false, false, false, false, false, false, false, false, false, false, false, false, false, false, false, false] (by kernel_rfl) rfl rfl ⟨bc BK185.out 0, bc BK185.out 1, bc BK186.out 0, bc BK186.out 1⟩ (fun hHeld => ?_); refine with_tabW impl_HeadOn.tab4 impl_HeadOn.bits4 (fun HT_ HW_ => ?_)
      generalize w5.drew = w6 at BK177 BK178 BK185 BK186 HB hHeld ⊢
      refine take_ (i := 0) (N := some 19) (v := ?_) (a' := ?_) (bz 31 1) rfl rfl (take_ofW HT_.out HW_.out (by kernel_rfl)) (fun _ _ _ h => h) (Or.inl ⟨by rfl, ?_⟩) hHeld ?_ ?_
      rotate_left
      ·exact t5_5
      rotate_left
      ·exact t5_1
      refine take_ (i := 1) (N := some 20) (v := ?_) (a' := ?_) (bz 31 3) rfl rfl (take_ofW HT_.out HW_.out (by kernel_rfl)) (fun _ _ _ h => h) (Or.inl ⟨by rfl, ?_⟩) hHeld ?_ ?_
      rotate_left
      ·exact t5_5
      rotate_left
      ·exact t5_1
      refine one_ (i := 2) (N := some 21) (bz 31 7) rfl rfl (one_of HT_.out (by kernel_rfl)) (by decide) (fun K hK => ?_)
      refine goes_ Try.func72 (by kernel_rfl) rfl #[.agg #[.int .i64 t181, .int .i64 t182], .agg #[.int .i64 t183, .int .i64 t184]] (by rfl) rfl rfl s5_5 ?_
      with_reducible refine (impl_vec_dot.calls t181 t182 t183 t184 t187 _ A20.out).mono ?_
      rintro e w7 ⟨rfl, hb⟩
      refine ⟨_, rfl, ?_⟩
      have n0_ := Aside0.mk (bb (zk BK177.out) hb)
      have n1_ := Aside0.mk (bb (zk BK178.out) hb)
      have n2_ := Aside0.mk (bb (zk BK185.out) hb)
      have n3_ := Aside0.mk (bb (zk BK186.out) hb)
      have n4_ := Aside0.mk (below_step s5_3 hb)
      clear BK177 BK178 BK185 BK186 HB
      have BK177 := n0_
      have BK178 := n1_
      have BK185 := n2_
      have BK186 := n3_
      have HB := n4_
      clear n0_ n1_ n2_ n3_ n4_
      (try clear hb)
      (try clear hb2)
      (try clear hk)
      (try clear hi)
      refine hK.out _ _ ⟨bc BK185.out 0, bc BK185.out 1, bc BK186.out 0, bc BK186.out 1⟩ (fun hHeld => ?_)
      clear hK K
      refine norm_ (a' := ?_) ?_ ?_
      rotate_left
      ·show Act.put _ (some 21) _ = _
       simp only [Act.put, y1, y2, y3, i64_w, i32_w]
       rfl
      refine pure_ (i := 3) (N := some 22) (v := ?_) (a' := ?_) (bz 31 15) rfl rfl (any_of HT_.out (by kernel_rfl)) (fun _ _ _ h => h) (Or.inl ⟨by rfl, ?_⟩) ?_ ?_
      rotate_left
      ·exact t5_3
      rotate_left
      ·exact t5_1
      refine pure_ (i := 4) (N := some 23) (v := ?_) (a' := ?_) (bz 31 31) rfl rfl (any_of HT_.out (by kernel_rfl)) (fun _ _ _ h => h) (Or.inl ⟨by rfl, ?_⟩) ?_ ?_
      rotate_left
      ·exact t5_3
      rotate_left
      ·exact t5_1
      refine take_ (i := 5) (N := some 24) (v := ?_) (a' := ?_) (bz 31 63) rfl rfl (take_ofW HT_.out HW_.out (by kernel_rfl)) (fun _ _ _ h => h) (Or.inl ⟨by rfl, ?_⟩) hHeld ?_ ?_
      rotate_left
      ·exact t5_5
      rotate_left
      ·exact t5_1
      refine take_ (i := 6) (N := some 25) (v := ?_) (a' := ?_) (bz 31 127) rfl rfl (take_ofW HT_.out HW_.out (by kernel_rfl)) (fun _ _ _ h => h) (Or.inl ⟨by rfl, ?_⟩) hHeld ?_ ?_
      rotate_left
      ·exact t5_5
      rotate_left
      ·exact t5_1
      refine take_ (i := 10) (N := some 29) (v := ?_) (a' := ?_) (bz 31 1151) rfl rfl (take_ofW HT_.out HW_.out (by kernel_rfl)) (fun _ _ _ h => h) (Or.inl ⟨by rfl, ?_⟩) hHeld ?_ ?_
      rotate_left
      ·exact t5_5
      rotate_left
      ·exact t5_1
      refine take_ (i := 11) (N := some 30) (v := ?_) (a' := ?_) (bz 31 3199) rfl rfl (take_ofW HT_.out HW_.out (by kernel_rfl)) (fun _ _ _ h => h) (Or.inl ⟨by rfl, ?_⟩) hHeld ?_ ?_
      rotate_left
      ·exact t5_5
      rotate_left
      ·exact t5_1
      refine one_ (i := 7) (N := some 26) (bz 31 3327) rfl rfl (one_of HT_.out (by kernel_rfl)) (by decide) (fun K hK => ?_)
      refine goes_ Try.func74 (by kernel_rfl) rfl #[.agg #[.int .i64 t181, .int .i64 t182], .agg #[.int .i64 t183, .int .i64 t184]] (by rfl) rfl rfl s5_5 ?_
      with_reducible refine (impl_vec_cross.calls t181 t182 t183 t184 t188 _ A22.out).mono ?_
      rintro e w8 ⟨rfl, hb⟩
      refine ⟨_, rfl, ?_⟩
      have n0_ := Aside0.mk (bb (zk BK177.out) hb)
      have n1_ := Aside0.mk (bb (zk BK178.out) hb)
      have n2_ := Aside0.mk (bb (zk BK185.out) hb)
      have n3_ := Aside0.mk (bb (zk BK186.out) hb)
      have n4_ := Aside0.mk (below_step s5_3 hb)
      clear BK177 BK178 BK185 BK186 HB
      have BK177 := n0_
      have BK178 := n1_
      have BK185 := n2_
      have BK186 := n3_
      have HB := n4_
      clear n0_ n1_ n2_ n3_ n4_
      (try clear hb)
      (try clear hb2)
      (try clear hk)
      (try clear hi)
      refine hK.out _ _ ⟨bc BK185.out 0, bc BK185.out 1, bc BK186.out 0, bc BK186.out 1⟩ (fun hHeld => ?_)
      clear hK K
      refine norm_ (a' := ?_) ?_ ?_
      rotate_left
      ·show Act.put _ (some 26) _ = _
       simp only [Act.put, y1, y2, y3, i64_w, i32_w]
       rfl
      refine one_ (i := 8) (N := some 27) (bz 31 3583) rfl rfl (one_of HT_.out (by kernel_rfl)) (by decide) (fun K hK => ?_)
      refine goes_ Try.func73 (by kernel_rfl) rfl #[.int .i64 t188] (by rfl) rfl rfl s5_5 ?_
      with_reducible refine (impl_square.calls t188 t189 _ A23.out).mono ?_
      rintro e w' ⟨rfl, ⟨nd, rfl⟩⟩
      refine ⟨_, rfl, ?_⟩
      refine hK.out _ _ ⟨bc BK185.out 0, bc BK185.out 1, bc BK186.out 0, bc BK186.out 1⟩ (fun hHeld => ?_)
      clear hK K
      refine norm_ (a' := ?_) ?_ ?_
      rotate_left
      ·show Act.put _ (some 27) _ = _
       simp only [Act.put, y1, y2, y3, i64_w, i32_w]
       rfl
      refine pure_ (i := 9) (N := some 28) (v := ?_) (a' := ?_) (bz 31 4095) rfl rfl (any_of HT_.out (by kernel_rfl)) (fun _ _ _ h => h) (Or.inl ⟨by rfl, ?_⟩) ?_ ?_
      rotate_left
      ·exact t5_3
      rotate_left
      ·exact t5_1
      refine one_ (i := 12) (N := some 31) (bz 31 8191) rfl rfl (one_of HT_.out (by kernel_rfl)) (by decide) (fun K hK => ?_)
      refine goes_ Try.func72 (by kernel_rfl) rfl #[.agg #[.int .i64 t181, .int .i64 t182], .agg #[.int .i64 t183, .int .i64 t184]] (by rfl) rfl rfl s5_5 ?_
      with_reducible refine (impl_vec_dot.calls t181 t182 t183 t184 t190 _ A24.out).mono ?_
      rintro e w9 ⟨rfl, hb⟩
      refine ⟨_, rfl, ?_⟩
      have n0_ := Aside0.mk (bb (zk BK177.out) hb)
      have n1_ := Aside0.mk (bb (zk BK178.out) hb)
      have n2_ := Aside0.mk (bb (zk BK185.out) hb)
      have n3_ := Aside0.mk (bb (zk BK186.out) hb)
      have n4_ := Aside0.mk (below_step s5_3 hb)
      clear BK177 BK178 BK185 BK186 HB
      have BK177 := n0_
      have BK178 := n1_
      have BK185 := n2_
      have BK186 := n3_
      have HB := n4_
      clear n0_ n1_ n2_ n3_ n4_
      (try clear hb)
      (try clear hb2)
      (try clear hk)
      (try clear hi)
      refine hK.out _ _ ⟨bc BK185.out 0, bc BK185.out 1, bc BK186.out 0, bc BK186.out 1⟩ (fun hHeld => ?_)
      clear hK K
      refine norm_ (a' := ?_) ?_ ?_
      rotate_left
      ·show Act.put _ (some 31) _ = _
       simp only [Act.put, y1, y2, y3, i64_w, i32_w]
       rfl
      refine one_ (i := 13) (N := some 32) (bz 31 16383) rfl rfl (one_of HT_.out (by kernel_rfl)) (by decide) (fun K hK => ?_)
      refine goes_ Try.func73 (by kernel_rfl) rfl #[.int .i64 t190] (by rfl) rfl rfl s5_5 ?_
      with_reducible refine (impl_square.calls t190 t191 _ A25.out).mono ?_
      rintro e w' ⟨rfl, ⟨nd, rfl⟩⟩
      refine ⟨_, rfl, ?_⟩
      refine hK.out _ _ ⟨bc BK185.out 0, bc BK185.out 1, bc BK186.out 0, bc BK186.out 1⟩ (fun hHeld => ?_)
      clear hK K
      refine norm_ (a' := ?_) ?_ ?_
      rotate_left
      ·show Act.put _ (some 32) _ = _
       simp only [Act.put, y1, y2, y3, i64_w, i32_w]
       rfl
      refine pure_ (i := 14) (N := some 33) (v := ?_) (a' := ?_) (bz 31 32767) rfl rfl (any_of HT_.out (by kernel_rfl)) (fun _ _ _ h => h) (Or.inl ⟨by rfl, ?_⟩) ?_ ?_
      rotate_left
      ·exact t5_3
      rotate_left
      ·exact t5_1
      refine pure_ (i := 15) (N := some 34) (v := ?_) (a' := ?_) (bz 31 65535) rfl rfl (any_of HT_.out (by kernel_rfl)) (fun _ _ _ h => h) (Or.inl ⟨by rfl, ?_⟩) ?_ ?_
      rotate_left
      ·exact t5_3
      rotate_left
      ·exact t5_1
      refine pure_ (i := 16) (N := some 35) (v := ?_) (a' := ?_) (bz 31 131071) rfl rfl (any_of HT_.out (by kernel_rfl)) (fun _ _ _ h => h) (Or.inl ⟨by rfl, ?_⟩) ?_ ?_
      rotate_left
      ·exact t5_3
      rotate_left
      ·exact t5_1
      refine pure_ (i := 17) (N := some 36) (v := undef) (a' := ?_) (bz 31 262143) rfl rfl (any_of HT_.out (by kernel_rfl)) (fun _ _ _ h => h) (Or.inr ⟨by rfl, rfl⟩) ?_ ?_
      rotate_left
      ·exact t5_1
      refine pure_ (i := 18) (N := some 37) (v := undef) (a' := ?_) (bz 31 524287) rfl rfl (any_of HT_.out (by kernel_rfl)) (fun _ _ _ h => h) (Or.inr ⟨by rfl, rfl⟩) ?_ ?_
      rotate_left
      ·exact t5_1
      refine pure_ (i := 19) (N := some 38) (v := undef) (a' := ?_) (bz 31 1048575) rfl rfl (any_of HT_.out (by kernel_rfl)) (fun _ _ _ h => h) (Or.inr ⟨by rfl, rfl⟩) ?_ ?_
      rotate_left
      ·exact t5_1
      refine pure_ (i := 20) (N := some 39) (v := undef) (a' := ?_) (bz 31 2097151) rfl rfl (any_of HT_.out (by kernel_rfl)) (fun _ _ _ h => h) (Or.inr ⟨by rfl, rfl⟩) ?_ ?_
      rotate_left
      ·exact t5_1
      refine pure_ (i := 21) (N := some 40) (v := undef) (a' := ?_) (bz 31 4194303) rfl rfl (any_of HT_.out (by kernel_rfl)) (fun _ _ _ h => h) (Or.inr ⟨by rfl, rfl⟩) ?_ ?_
      rotate_left
      ·exact t5_1
      refine pure_ (i := 22) (N := some 41) (v := ?_) (a' := ?_) (bz 31 8388607) rfl rfl (any_of HT_.out (by kernel_rfl)) (fun _ _ _ h => h) (Or.inl ⟨by rfl, ?_⟩) ?_ ?_
      rotate_left
      ·exact t5_3
      rotate_left
      ·exact t5_1
      refine pure_ (i := 23) (N := some 42) (v := ?_) (a' := ?_) (bz 31 16777215) rfl rfl (any_of HT_.out (by kernel_rfl)) (fun _ _ _ h => h) (Or.inl ⟨by rfl, ?_⟩) ?_ ?_
      rotate_left
      ·exact t5_3
      rotate_left
      ·exact t5_1
      refine pure_ (i := 24) (N := some 43) (v := undef) (a' := ?_) (bz 31 33554431) rfl rfl (any_of HT_.out (by kernel_rfl)) (fun _ _ _ h => h) (Or.inr ⟨by rfl, rfl⟩) ?_ ?_
      rotate_left
      ·exact t5_1
      refine pure_ (i := 25) (N := some 44) (v := undef) (a' := ?_) (bz 31 67108863) rfl rfl (any_of HT_.out (by kernel_rfl)) (fun _ _ _ h => h) (Or.inr ⟨by rfl, rfl⟩) ?_ ?_
      rotate_left
      ·exact t5_1
      refine pure_ (i := 26) (N := some 45) (v := undef) (a' := ?_) (bz 31 134217727) rfl rfl (any_of HT_.out (by kernel_rfl)) (fun _ _ _ h => h) (Or.inr ⟨by rfl, rfl⟩) ?_ ?_
      rotate_left
      ·exact t5_1
      refine pure_ (i := 27) (N := some 46) (v := undef) (a' := ?_) (bz 31 268435455) rfl rfl (any_of HT_.out (by kernel_rfl)) (fun _ _ _ h => h) (Or.inr ⟨by rfl, rfl⟩) ?_ ?_
      rotate_left
      ·exact t5_1
      refine pure_ (i := 28) (N := some 47) (v := undef) (a' := ?_) (bz 31 536870911) rfl rfl (any_of HT_.out (by kernel_rfl)) (fun _ _ _ h => h) (Or.inr ⟨by rfl, rfl⟩) ?_ ?_
      rotate_left
      ·exact t5_1
      refine pure_ (i := 29) (N := some 48) (v := ?_) (a' := ?_) (bz 31 1073741823) rfl rfl (any_of HT_.out (by kernel_rfl)) (fun _ _ _ h => h) (Or.inl ⟨by rfl, ?_⟩) ?_ ?_
      rotate_left
      ·exact t5_3
      rotate_left
      ·exact t5_1
      refine pure_ (i := 30) (N := some 4) (v := ?_) (a' := ?_) (bz 31 2147483647) rfl rfl (any_of HT_.out (by kernel_rfl)) (fun _ _ _ h => h) (Or.inl ⟨by rfl, ?_⟩) ?_ ?_
      rotate_left
      ·exact t5_3
      rotate_left
      ·exact t5_1
      refine done_ (done_of HT_.out (by kernel_rfl)) ?_
      try go_wp2
      go_ret
      exact ⟨by first | rfl | (simp [errW_none, errW_some] <;> rfl) | (simp [*, errW_none, errW_some] <;> rfl), by repeat (first | (with_reducible first | exact HB.out | apply below_alloc | apply pw_below_drewN | apply below_drew1 | refine below_set ?_ GE177.out | refine below_set ?_ GE178.out | refine below_set ?_ GE185.out | refine below_set ?_ GE186.out) | exact HB.out)⟩
    ·rw [if_neg c21] at H
     have c21b0 : decide (t187 < 0) = false := decide_eq_false c21
     clear c21
     obtain rfl := Option.some.inj H
     try go_wp2
     have n0_ := Aside0.mk (blk_drew BK177.out)
     have n1_ := Aside0.mk (blk_drew BK178.out)
     have n2_ := Aside0.mk (below_drew1 HB.out)
     clear BK177 BK178 HB
     have BK177 := n0_
     have BK178 := n1_
     have HB := n2_
     clear n0_ n1_ n2_
     refine start_ (n := 8) (S := fun w' => w'.cell? ⟨gb177, 0, none⟩ = some (.int .i64 a0_0) ∧ w'.cell? ⟨gb177, 1, none⟩ = some (.int .i64 a0_1) ∧ w'.cell? ⟨gb177, 2, none⟩ = some (.int .i64 a0_2) ∧ w'.cell? ⟨gb177, 3, none⟩ = some (.int .i64 a0_3) ∧ w'.cell? ⟨gb177, 4, none⟩ = some (.int .i64 a0_4) ∧ w'.cell? ⟨gb177, 5, none⟩ = some (.int .i64 a0_5) ∧ w'.cell? ⟨gb178, 0, none⟩ = some (.int .i64 a1_0) ∧ w'.cell? ⟨gb178, 1, none⟩ = some (.int .i64 a1_1) ∧ w'.cell? ⟨gb178, 2, none⟩ = some (.int .i64 a1_2) ∧ w'.cell? ⟨gb178, 3, none⟩ = some (.int .i64 a1_3) ∧ w'.cell? ⟨gb178, 4, none⟩ = some (.int .i64 a1_4) ∧ w'.cell? ⟨gb178, 5, none⟩ = some (.int .i64 a1_5)) (ds := []) #[false, false, false, false, false, false, false, false] (by kernel_rfl) rfl rfl ⟨bc BK177.out 0, bc BK177.out 1, bc BK177.out 2, bc BK177.out 3, bc BK177.out 4, bc BK177.out 5, bc BK178.out 0, bc BK178.out 1, bc BK178.out 2, bc BK178.out 3, bc BK178.out 4, bc BK178.out 5⟩ (fun hHeld => ?_); refine with_tabW impl_HeadOn.tab3 impl_HeadOn.bits3 (fun HT_ HW_ => ?_)
     generalize wc.drew = w3 at BK177 BK178 HB hHeld ⊢
     refine take_ (i := 0) (N := some 15) (v := ?_) (a' := ?_) (bz 8 1) rfl rfl (take_ofW HT_.out HW_.out (by kernel_rfl)) (fun _ _ _ h => h) (Or.inl ⟨by rfl, ?_⟩) hHeld ?_ ?_
     rotate_left
     ·exact t5_4
     rotate_left
     ·exact t5_1
     refine take_ (i := 2) (N := some 17) (v := ?_) (a' := ?_) (bz 8 5) rfl rfl (take_ofW HT_.out HW_.out (by kernel_rfl)) (fun _ _ _ h => h) (Or.inl ⟨by rfl, ?_⟩) hHeld ?_ ?_
     rotate_left
     ·exact t5_4
     rotate_left
     ·exact t5_1
     refine join_ (σ := Nat × Nat) 2 (bz 8 63) (fun s_ => [(16, .agg #[.int .i64 t181, .int .i64 t182]), (18, .agg #[.int .i64 t183, .int .i64 t184]), (5, .pointer (some ⟨s_.1, 0, none⟩)), (6, .pointer (some ⟨s_.2, 0, none⟩))]) (fun s_ w' => (w'.cell? ⟨gb177, 0, none⟩ = some (.int .i64 a0_0) ∧ w'.cell? ⟨gb177, 1, none⟩ = some (.int .i64 a0_1) ∧ w'.cell? ⟨gb177, 2, none⟩ = some (.int .i64 a0_2) ∧ w'.cell? ⟨gb177, 3, none⟩ = some (.int .i64 a0_3) ∧ w'.cell? ⟨gb177, 4, none⟩ = some (.int .i64 a0_4) ∧ w'.cell? ⟨gb177, 5, none⟩ = some (.int .i64 a0_5) ∧ w'.cell? ⟨gb178, 0, none⟩ = some (.int .i64 a1_0) ∧ w'.cell? ⟨gb178, 1, none⟩ = some (.int .i64 a1_1) ∧ w'.cell? ⟨gb178, 2, none⟩ = some (.int .i64 a1_2) ∧ w'.cell? ⟨gb178, 3, none⟩ = some (.int .i64 a1_3) ∧ w'.cell? ⟨gb178, 4, none⟩ = some (.int .i64 a1_4) ∧ w'.cell? ⟨gb178, 5, none⟩ = some (.int .i64 a1_5)) ∧ (w'.heap[gb177]? = some (.cells #[.int .i64 a0_0, .int .i64 a0_1, .int .i64 a0_2, .int .i64 a0_3, .int .i64 a0_4, .int .i64 a0_5] 25 (0, 0))) ∧ (w'.heap[gb178]? = some (.cells #[.int .i64 a1_0, .int .i64 a1_1, .int .i64 a1_2, .int .i64 a1_3, .int .i64 a1_4, .int .i64 a1_5] 25 (0, 0))) ∧ (w'.heap[s_.1]? = some (.cells #[.int .i64 0, .int .i64 0] 89 (0, 0))) ∧ (w'.heap[s_.2]? = some (.cells #[.int .i64 0, .int .i64 0] 89 (0, 0))) ∧ (w.heap.size ≤ s_.1) ∧ (w.heap.size ≤ s_.1) ∧ (gb177 ≠ s_.1) ∧ (s_.1 ≠ gb177) ∧ (gb178 ≠ s_.1) ∧ (s_.1 ≠ gb178) ∧ (s_.2 ≠ s_.1) ∧ (s_.1 ≠ s_.2) ∧ (w.heap.size ≤ s_.2) ∧ (w.heap.size ≤ s_.2) ∧ (gb177 ≠ s_.2) ∧ (s_.2 ≠ gb177) ∧ (gb178 ≠ s_.2) ∧ (s_.2 ≠ gb178) ∧ (Below w.heap.size w w')) ?_ ?_
     rotate_left
     ·exact t5_0
     rintro ⟨gb185, gb186⟩ w4 ⟨hS_, h0_, h1_, h2_, h3_, h4_, h5_, h6_, h7_, h8_, h9_, h10_, h11_, h12_, h13_, h14_, h15_, h16_, h17_, h18_⟩
     have n0_ : Aside0 (w4.heap[gb177]? = some (.cells #[.int .i64 a0_0, .int .i64 a0_1, .int .i64 a0_2, .int .i64 a0_3, .int .i64 a0_4, .int .i64 a0_5] 25 (0, 0))) := ⟨h0_⟩
     have n1_ : Aside0 (w4.heap[gb178]? = some (.cells #[.int .i64 a1_0, .int .i64 a1_1, .int .i64 a1_2, .int .i64 a1_3, .int .i64 a1_4, .int .i64 a1_5] 25 (0, 0))) := ⟨h1_⟩
     have n2_ : Aside0 (w4.heap[gb185]? = some (.cells #[.int .i64 0, .int .i64 0] 89 (0, 0))) := ⟨h2_⟩
     have n3_ : Aside0 (w4.heap[gb186]? = some (.cells #[.int .i64 0, .int .i64 0] 89 (0, 0))) := ⟨h3_⟩
     have n4_ : Aside0 (w.heap.size ≤ gb185) := ⟨h4_⟩
     have n5_ : Aside0 (w.heap.size ≤ gb185) := ⟨h5_⟩
     have n6_ : Aside0 (gb177 ≠ gb185) := ⟨h6_⟩
     have n7_ : Aside0 (gb185 ≠ gb177) := ⟨h7_⟩
     have n8_ : Aside0 (gb178 ≠ gb185) := ⟨h8_⟩
     have n9_ : Aside0 (gb185 ≠ gb178) := ⟨h9_⟩
     have n10_ : Aside0 (gb186 ≠ gb185) := ⟨h10_⟩
     have n11_ : Aside0 (gb185 ≠ gb186) := ⟨h11_⟩
     have n12_ : Aside0 (w.heap.size ≤ gb186) := ⟨h12_⟩
     have n13_ : Aside0 (w.heap.size ≤ gb186) := ⟨h13_⟩
     have n14_ : Aside0 (gb177 ≠ gb186) := ⟨h14_⟩
     have n15_ : Aside0 (gb186 ≠ gb177) := ⟨h15_⟩
     have n16_ : Aside0 (gb178 ≠ gb186) := ⟨h16_⟩
     have n17_ : Aside0 (gb186 ≠ gb178) := ⟨h17_⟩
     have n18_ : Aside0 (Below w.heap.size w w4) := ⟨h18_⟩
     clear BK177 BK178 HB h0_ h1_ h2_ h3_ h4_ h5_ h6_ h7_ h8_ h9_ h10_ h11_ h12_ h13_ h14_ h15_ h16_ h17_ h18_
     have BK177 := n0_
     have BK178 := n1_
     have BK185 := n2_
     have BK186 := n3_
     have GW185 := n4_
     have GE185 := n5_
     have NB177_185 := n6_
     have NB185_177 := n7_
     have NB178_185 := n8_
     have NB185_178 := n9_
     have NB186_185 := n10_
     have NB185_186 := n11_
     have GW186 := n12_
     have GE186 := n13_
     have NB177_186 := n14_
     have NB186_177 := n15_
     have NB178_186 := n16_
     have NB186_178 := n17_
     have HB := n18_
     clear n0_ n1_ n2_ n3_ n4_ n5_ n6_ n7_ n8_ n9_ n10_ n11_ n12_ n13_ n14_ n15_ n16_ n17_ n18_
     have hHeld : w4.cell? ⟨gb177, 0, none⟩ = some (.int .i64 a0_0) ∧ w4.cell? ⟨gb177, 1, none⟩ = some (.int .i64 a0_1) ∧ w4.cell? ⟨gb177, 2, none⟩ = some (.int .i64 a0_2) ∧ w4.cell? ⟨gb177, 3, none⟩ = some (.int .i64 a0_3) ∧ w4.cell? ⟨gb177, 4, none⟩ = some (.int .i64 a0_4) ∧ w4.cell? ⟨gb177, 5, none⟩ = some (.int .i64 a0_5) ∧ w4.cell? ⟨gb178, 0, none⟩ = some (.int .i64 a1_0) ∧ w4.cell? ⟨gb178, 1, none⟩ = some (.int .i64 a1_1) ∧ w4.cell? ⟨gb178, 2, none⟩ = some (.int .i64 a1_2) ∧ w4.cell? ⟨gb178, 3, none⟩ = some (.int .i64 a1_3) ∧ w4.cell? ⟨gb178, 4, none⟩ = some (.int .i64 a1_4) ∧ w4.cell? ⟨gb178, 5, none⟩ = some (.int .i64 a1_5) := hS_
     refine norm_ (a' := ?_) ?_ ?_
     rotate_left
     ·simp only [putAll, Act.put, y1, y2, y3]
      rfl
     refine one_ (i := 6) (N := none) (bz 8 127) rfl rfl (one_of HT_.out (by kernel_rfl)) (by decide) (fun K hK => ?_)
     have hs89 : w4.cell? ⟨gb185, 0, none⟩ = some (.int .i64 0) := bc BK185.out 0
     have hfs89 := blk_frozen BK185.out 0
     have hns89_0 := NB177_185.out
     have hns89_1 := NB178_185.out
     have hns89_3 := NB186_185.out
     have hms89_0 := NB185_177.out
     have hms89_1 := NB185_178.out
     have hms89_3 := NB185_186.out
     have hs90 : w4.cell? ⟨gb185, 1, none⟩ = some (.int .i64 0) := bc BK185.out 1
     have hfs90 := blk_frozen BK185.out 1
     have hns90_0 := NB177_185.out
     have hns90_1 := NB178_185.out
     have hns90_3 := NB186_185.out
     have hms90_0 := NB185_177.out
     have hms90_1 := NB185_178.out
     have hms90_3 := NB185_186.out
     refine skip_ (w1 := ?_) (by rfl) rfl ?_ ?_
     rotate_left
     ·go_simp
      rfl
     refine hK.out _ _ ⟨((cell_far (p := ⟨gb185, _, none⟩) NB177_185.out _).trans (((cell_far (p := ⟨gb185, _, none⟩) NB177_185.out _).trans (hHeld.1)))), ((cell_far (p := ⟨gb185, _, none⟩) NB177_185.out _).trans (((cell_far (p := ⟨gb185, _, none⟩) NB177_185.out _).trans (hHeld.2.1)))), ((cell_far (p := ⟨gb185, _, none⟩) NB177_185.out _).trans (((cell_far (p := ⟨gb185, _, none⟩) NB177_185.out _).trans (hHeld.2.2.1)))), ((cell_far (p := ⟨gb185, _, none⟩) NB177_185.out _).trans (((cell_far (p := ⟨gb185, _, none⟩) NB177_185.out _).trans (hHeld.2.2.2.1)))), ((cell_far (p := ⟨gb185, _, none⟩) NB177_185.out _).trans (((cell_far (p := ⟨gb185, _, none⟩) NB177_185.out _).trans (hHeld.2.2.2.2.1)))), ((cell_far (p := ⟨gb185, _, none⟩) NB177_185.out _).trans (((cell_far (p := ⟨gb185, _, none⟩) NB177_185.out _).trans (hHeld.2.2.2.2.2.1)))), ((cell_far (p := ⟨gb185, _, none⟩) NB178_185.out _).trans (((cell_far (p := ⟨gb185, _, none⟩) NB178_185.out _).trans (hHeld.2.2.2.2.2.2.1)))), ((cell_far (p := ⟨gb185, _, none⟩) NB178_185.out _).trans (((cell_far (p := ⟨gb185, _, none⟩) NB178_185.out _).trans (hHeld.2.2.2.2.2.2.2.1)))), ((cell_far (p := ⟨gb185, _, none⟩) NB178_185.out _).trans (((cell_far (p := ⟨gb185, _, none⟩) NB178_185.out _).trans (hHeld.2.2.2.2.2.2.2.2.1)))), ((cell_far (p := ⟨gb185, _, none⟩) NB178_185.out _).trans (((cell_far (p := ⟨gb185, _, none⟩) NB178_185.out _).trans (hHeld.2.2.2.2.2.2.2.2.2.1)))), ((cell_far (p := ⟨gb185, _, none⟩) NB178_185.out _).trans (((cell_far (p := ⟨gb185, _, none⟩) NB178_185.out _).trans (hHeld.2.2.2.2.2.2.2.2.2.2.1)))), ((cell_far (p := ⟨gb185, _, none⟩) NB178_185.out _).trans (((cell_far (p := ⟨gb185, _, none⟩) NB178_185.out _).trans (hHeld.2.2.2.2.2.2.2.2.2.2.2))))⟩ (fun hHeld => ?_)
     clear hK K
     refine one_ (i := 7) (N := none) (bz 8 255) rfl rfl (one_of HT_.out (by kernel_rfl)) (by decide) (fun K hK => ?_)
     have hs91 : w4.cell? ⟨gb186, 0, none⟩ = some (.int .i64 0) := bc BK186.out 0
     have hfs91 := blk_frozen BK186.out 0
     have hns91_0 := NB177_186.out
     have hns91_1 := NB178_186.out
     have hns91_2 := NB185_186.out
     have hms91_0 := NB186_177.out
     have hms91_1 := NB186_178.out
     have hms91_2 := NB186_185.out
     have hs92 : w4.cell? ⟨gb186, 1, none⟩ = some (.int .i64 0) := bc BK186.out 1
     have hfs92 := blk_frozen BK186.out 1
     have hns92_0 := NB177_186.out
     have hns92_1 := NB178_186.out
     have hns92_2 := NB185_186.out
     have hms92_0 := NB186_177.out
     have hms92_1 := NB186_178.out
     have hms92_2 := NB186_185.out
     refine skip_ (w1 := ?_) (by rfl) rfl ?_ ?_
     rotate_left
     ·go_simp
      rfl
     refine hK.out _ _ ⟨((cell_far (p := ⟨gb186, _, none⟩) NB177_186.out _).trans (((cell_far (p := ⟨gb186, _, none⟩) NB177_186.out _).trans (hHeld.1)))), ((cell_far (p := ⟨gb186, _, none⟩) NB177_186.out _).trans (((cell_far (p := ⟨gb186, _, none⟩) NB177_186.out _).trans (hHeld.2.1)))), ((cell_far (p := ⟨gb186, _, none⟩) NB177_186.out _).trans (((cell_far (p := ⟨gb186, _, none⟩) NB177_186.out _).trans (hHeld.2.2.1)))), ((cell_far (p := ⟨gb186, _, none⟩) NB177_186.out _).trans (((cell_far (p := ⟨gb186, _, none⟩) NB177_186.out _).trans (hHeld.2.2.2.1)))), ((cell_far (p := ⟨gb186, _, none⟩) NB177_186.out _).trans (((cell_far (p := ⟨gb186, _, none⟩) NB177_186.out _).trans (hHeld.2.2.2.2.1)))), ((cell_far (p := ⟨gb186, _, none⟩) NB177_186.out _).trans (((cell_far (p := ⟨gb186, _, none⟩) NB177_186.out _).trans (hHeld.2.2.2.2.2.1)))), ((cell_far (p := ⟨gb186, _, none⟩) NB178_186.out _).trans (((cell_far (p := ⟨gb186, _, none⟩) NB178_186.out _).trans (hHeld.2.2.2.2.2.2.1)))), ((cell_far (p := ⟨gb186, _, none⟩) NB178_186.out _).trans (((cell_far (p := ⟨gb186, _, none⟩) NB178_186.out _).trans (hHeld.2.2.2.2.2.2.2.1)))), ((cell_far (p := ⟨gb186, _, none⟩) NB178_186.out _).trans (((cell_far (p := ⟨gb186, _, none⟩) NB178_186.out _).trans (hHeld.2.2.2.2.2.2.2.2.1)))), ((cell_far (p := ⟨gb186, _, none⟩) NB178_186.out _).trans (((cell_far (p := ⟨gb186, _, none⟩) NB178_186.out _).trans (hHeld.2.2.2.2.2.2.2.2.2.1)))), ((cell_far (p := ⟨gb186, _, none⟩) NB178_186.out _).trans (((cell_far (p := ⟨gb186, _, none⟩) NB178_186.out _).trans (hHeld.2.2.2.2.2.2.2.2.2.2.1)))), ((cell_far (p := ⟨gb186, _, none⟩) NB178_186.out _).trans (((cell_far (p := ⟨gb186, _, none⟩) NB178_186.out _).trans (hHeld.2.2.2.2.2.2.2.2.2.2.2))))⟩ (fun hHeld => ?_)
     clear hK K
     refine done_ (done_of HT_.out (by kernel_rfl)) ?_
     try go_wp2
     have n0_ : Aside0 (((((w4.setCell ⟨gb185, 0, none⟩ (.int .i64 t181)).setCell ⟨gb185, 1, none⟩ (.int .i64 t182)).setCell ⟨gb186, 0, none⟩ (.int .i64 t183)).setCell ⟨gb186, 1, none⟩ (.int .i64 t184)).heap[gb177]? = some (.cells #[.int .i64 a0_0, .int .i64 a0_1, .int .i64 a0_2, .int .i64 a0_3, .int .i64 a0_4, .int .i64 a0_5] 25 (0, 0))) := ⟨by (with_reducible repeat (first | refine blk_drewN ?_ _ | refine blk_drew ?_ | refine blk_alloc ?_ _)); refine blk_far ?_ NB177_186.out _; (with_reducible repeat (first | refine blk_drewN ?_ _ | refine blk_drew ?_ | refine blk_alloc ?_ _)); refine blk_far ?_ NB177_186.out _; (with_reducible repeat (first | refine blk_drewN ?_ _ | refine blk_drew ?_ | refine blk_alloc ?_ _)); refine blk_far ?_ NB177_185.out _; (with_reducible repeat (first | refine blk_drewN ?_ _ | refine blk_drew ?_ | refine blk_alloc ?_ _)); refine blk_far ?_ NB177_185.out _; (with_reducible repeat (first | refine blk_drewN ?_ _ | refine blk_drew ?_ | refine blk_alloc ?_ _)); exact BK177.out⟩
     have n1_ : Aside0 (((((w4.setCell ⟨gb185, 0, none⟩ (.int .i64 t181)).setCell ⟨gb185, 1, none⟩ (.int .i64 t182)).setCell ⟨gb186, 0, none⟩ (.int .i64 t183)).setCell ⟨gb186, 1, none⟩ (.int .i64 t184)).heap[gb178]? = some (.cells #[.int .i64 a1_0, .int .i64 a1_1, .int .i64 a1_2, .int .i64 a1_3, .int .i64 a1_4, .int .i64 a1_5] 25 (0, 0))) := ⟨by (with_reducible repeat (first | refine blk_drewN ?_ _ | refine blk_drew ?_ | refine blk_alloc ?_ _)); refine blk_far ?_ NB178_186.out _; (with_reducible repeat (first | refine blk_drewN ?_ _ | refine blk_drew ?_ | refine blk_alloc ?_ _)); refine blk_far ?_ NB178_186.out _; (with_reducible repeat (first | refine blk_drewN ?_ _ | refine blk_drew ?_ | refine blk_alloc ?_ _)); refine blk_far ?_ NB178_185.out _; (with_reducible repeat (first | refine blk_drewN ?_ _ | refine blk_drew ?_ | refine blk_alloc ?_ _)); refine blk_far ?_ NB178_185.out _; (with_reducible repeat (first | refine blk_drewN ?_ _ | refine blk_drew ?_ | refine blk_alloc ?_ _)); exact BK178.out⟩
     have n2_ : Aside0 (((((w4.setCell ⟨gb185, 0, none⟩ (.int .i64 t181)).setCell ⟨gb185, 1, none⟩ (.int .i64 t182)).setCell ⟨gb186, 0, none⟩ (.int .i64 t183)).setCell ⟨gb186, 1, none⟩ (.int .i64 t184)).heap[gb185]? = some (.cells #[.int .i64 t181, .int .i64 t182] 89 (0, 0))) := ⟨by (with_reducible repeat (first | refine blk_drewN ?_ _ | refine blk_drew ?_ | refine blk_alloc ?_ _)); refine blk_far ?_ NB185_186.out _; (with_reducible repeat (first | refine blk_drewN ?_ _ | refine blk_drew ?_ | refine blk_alloc ?_ _)); refine blk_far ?_ NB185_186.out _; (with_reducible repeat (first | refine blk_drewN ?_ _ | refine blk_drew ?_ | refine blk_alloc ?_ _)); refine blk_put (cs := #[.int .i64 t181, .int .i64 0]) ?_ 1 _ rfl; (with_reducible repeat (first | refine blk_drewN ?_ _ | refine blk_drew ?_ | refine blk_alloc ?_ _)); refine blk_put (cs := #[.int .i64 0, .int .i64 0]) ?_ 0 _ rfl; (with_reducible repeat (first | refine blk_drewN ?_ _ | refine blk_drew ?_ | refine blk_alloc ?_ _)); exact BK185.out⟩
     have n3_ : Aside0 (((((w4.setCell ⟨gb185, 0, none⟩ (.int .i64 t181)).setCell ⟨gb185, 1, none⟩ (.int .i64 t182)).setCell ⟨gb186, 0, none⟩ (.int .i64 t183)).setCell ⟨gb186, 1, none⟩ (.int .i64 t184)).heap[gb186]? = some (.cells #[.int .i64 t183, .int .i64 t184] 89 (0, 0))) := ⟨by (with_reducible repeat (first | refine blk_drewN ?_ _ | refine blk_drew ?_ | refine blk_alloc ?_ _)); refine blk_put (cs := #[.int .i64 t183, .int .i64 0]) ?_ 1 _ rfl; (with_reducible repeat (first | refine blk_drewN ?_ _ | refine blk_drew ?_ | refine blk_alloc ?_ _)); refine blk_put (cs := #[.int .i64 0, .int .i64 0]) ?_ 0 _ rfl; (with_reducible repeat (first | refine blk_drewN ?_ _ | refine blk_drew ?_ | refine blk_alloc ?_ _)); refine blk_far ?_ NB186_185.out _; (with_reducible repeat (first | refine blk_drewN ?_ _ | refine blk_drew ?_ | refine blk_alloc ?_ _)); refine blk_far ?_ NB186_185.out _; (with_reducible repeat (first | refine blk_drewN ?_ _ | refine blk_drew ?_ | refine blk_alloc ?_ _)); exact BK186.out⟩
     have n4_ : Aside0 (Below w.heap.size w ((((w4.setCell ⟨gb185, 0, none⟩ (.int .i64 t181)).setCell ⟨gb185, 1, none⟩ (.int .i64 t182)).setCell ⟨gb186, 0, none⟩ (.int .i64 t183)).setCell ⟨gb186, 1, none⟩ (.int .i64 t184))) := ⟨by repeat (first | (with_reducible first | exact HB.out | apply below_alloc | apply pw_below_drewN | apply below_drew1 | refine below_set ?_ GE177.out | refine below_set ?_ GE178.out | refine below_set ?_ GE185.out | refine below_set ?_ GE186.out) | exact HB.out)⟩
     (try clear BK177)
     (try clear BK178)
     (try clear BK185)
     (try clear BK186)
     (try clear HB)
     generalize ((((w4.setCell ⟨gb185, 0, none⟩ (.int .i64 t181)).setCell ⟨gb185, 1, none⟩ (.int .i64 t182)).setCell ⟨gb186, 0, none⟩ (.int .i64 t183)).setCell ⟨gb186, 1, none⟩ (.int .i64 t184)) = w5 at n0_ n1_ n2_ n3_ n4_ ⊢
     have BK177 := n0_
     have BK178 := n1_
     have BK185 := n2_
     have BK186 := n3_
     have HB := n4_
     clear n0_ n1_ n2_ n3_ n4_
     have n0_ := Aside0.mk (blk_drew BK177.out)
     have n1_ := Aside0.mk (blk_drew BK178.out)
     have n2_ := Aside0.mk (blk_drew BK185.out)
     have n3_ := Aside0.mk (blk_drew BK186.out)
     have n4_ := Aside0.mk (below_drew1 HB.out)
     clear BK177 BK178 BK185 BK186 HB
     have BK177 := n0_
     have BK178 := n1_
     have BK185 := n2_
     have BK186 := n3_
     have HB := n4_
     clear n0_ n1_ n2_ n3_ n4_
     refine start_ (n := 31) (S := fun w' => w'.cell? ⟨gb185, 0, none⟩ = some (.int .i64 t181) ∧ w'.cell? ⟨gb185, 1, none⟩ = some (.int .i64 t182) ∧ w'.cell? ⟨gb186, 0, none⟩ = some (.int .i64 t183) ∧ w'.cell? ⟨gb186, 1, none⟩ = some (.int .i64 t184)) (ds := []) #[false, false, false, false, false, false, false, false, false, false, false, false, false, false, false, false, false, false, false, false, false, false, false, false, false, false, false, false, false, false, false] (by kernel_rfl) rfl rfl ⟨bc BK185.out 0, bc BK185.out 1, bc BK186.out 0, bc BK186.out 1⟩ (fun hHeld => ?_); refine with_tabW impl_HeadOn.tab4 impl_HeadOn.bits4 (fun HT_ HW_ => ?_)
     generalize w5.drew = w6 at BK177 BK178 BK185 BK186 HB hHeld ⊢
     refine take_ (i := 0) (N := some 19) (v := ?_) (a' := ?_) (bz 31 1) rfl rfl (take_ofW HT_.out HW_.out (by kernel_rfl)) (fun _ _ _ h => h) (Or.inl ⟨by rfl, ?_⟩) hHeld ?_ ?_
     rotate_left
     ·exact t5_5
     rotate_left
     ·exact t5_1
     refine take_ (i := 1) (N := some 20) (v := ?_) (a' := ?_) (bz 31 3) rfl rfl (take_ofW HT_.out HW_.out (by kernel_rfl)) (fun _ _ _ h => h) (Or.inl ⟨by rfl, ?_⟩) hHeld ?_ ?_
     rotate_left
     ·exact t5_5
     rotate_left
     ·exact t5_1
     refine one_ (i := 2) (N := some 21) (bz 31 7) rfl rfl (one_of HT_.out (by kernel_rfl)) (by decide) (fun K hK => ?_)
     refine goes_ Try.func72 (by kernel_rfl) rfl #[.agg #[.int .i64 t181, .int .i64 t182], .agg #[.int .i64 t183, .int .i64 t184]] (by rfl) rfl rfl s5_5 ?_
     with_reducible refine (impl_vec_dot.calls t181 t182 t183 t184 t187 _ A20.out).mono ?_
     rintro e w7 ⟨rfl, hb⟩
     refine ⟨_, rfl, ?_⟩
     have n0_ := Aside0.mk (bb (zk BK177.out) hb)
     have n1_ := Aside0.mk (bb (zk BK178.out) hb)
     have n2_ := Aside0.mk (bb (zk BK185.out) hb)
     have n3_ := Aside0.mk (bb (zk BK186.out) hb)
     have n4_ := Aside0.mk (below_step s5_3 hb)
     clear BK177 BK178 BK185 BK186 HB
     have BK177 := n0_
     have BK178 := n1_
     have BK185 := n2_
     have BK186 := n3_
     have HB := n4_
     clear n0_ n1_ n2_ n3_ n4_
     (try clear hb)
     (try clear hb2)
     (try clear hk)
     (try clear hi)
     refine hK.out _ _ ⟨bc BK185.out 0, bc BK185.out 1, bc BK186.out 0, bc BK186.out 1⟩ (fun hHeld => ?_)
     clear hK K
     refine norm_ (a' := ?_) ?_ ?_
     rotate_left
     ·show Act.put _ (some 21) _ = _
      simp only [Act.put, y1, y2, y3, i64_w, i32_w]
      rfl
     refine pure_ (i := 3) (N := some 22) (v := ?_) (a' := ?_) (bz 31 15) rfl rfl (any_of HT_.out (by kernel_rfl)) (fun _ _ _ h => h) (Or.inl ⟨by rfl, ?_⟩) ?_ ?_
     rotate_left
     ·exact t5_3
     rotate_left
     ·exact t5_1
     refine pure_ (i := 4) (N := some 23) (v := ?_) (a' := ?_) (bz 31 31) rfl rfl (any_of HT_.out (by kernel_rfl)) (fun _ _ _ h => h) (Or.inl ⟨by rfl, ?_⟩) ?_ ?_
     rotate_left
     ·exact t5_3
     rotate_left
     ·exact t5_1
     refine pure_ (i := 5) (N := some 24) (v := undef) (a' := ?_) (bz 31 63) rfl rfl (any_of HT_.out (by kernel_rfl)) (fun _ _ _ h => h) (Or.inr ⟨by rfl, rfl⟩) ?_ ?_
     rotate_left
     ·exact t5_1
     refine pure_ (i := 6) (N := some 25) (v := undef) (a' := ?_) (bz 31 127) rfl rfl (any_of HT_.out (by kernel_rfl)) (fun _ _ _ h => h) (Or.inr ⟨by rfl, rfl⟩) ?_ ?_
     rotate_left
     ·exact t5_1
     refine pure_ (i := 7) (N := some 26) (v := undef) (a' := ?_) (bz 31 255) rfl rfl (any_of HT_.out (by kernel_rfl)) (fun _ _ _ h => h) (Or.inr ⟨by rfl, rfl⟩) ?_ ?_
     rotate_left
     ·exact t5_1
     refine pure_ (i := 8) (N := some 27) (v := undef) (a' := ?_) (bz 31 511) rfl rfl (any_of HT_.out (by kernel_rfl)) (fun _ _ _ h => h) (Or.inr ⟨by rfl, rfl⟩) ?_ ?_
     rotate_left
     ·exact t5_1
     refine pure_ (i := 9) (N := some 28) (v := undef) (a' := ?_) (bz 31 1023) rfl rfl (any_of HT_.out (by kernel_rfl)) (fun _ _ _ h => h) (Or.inr ⟨by rfl, rfl⟩) ?_ ?_
     rotate_left
     ·exact t5_1
     refine pure_ (i := 10) (N := some 29) (v := undef) (a' := ?_) (bz 31 2047) rfl rfl (any_of HT_.out (by kernel_rfl)) (fun _ _ _ h => h) (Or.inr ⟨by rfl, rfl⟩) ?_ ?_
     rotate_left
     ·exact t5_1
     refine pure_ (i := 11) (N := some 30) (v := undef) (a' := ?_) (bz 31 4095) rfl rfl (any_of HT_.out (by kernel_rfl)) (fun _ _ _ h => h) (Or.inr ⟨by rfl, rfl⟩) ?_ ?_
     rotate_left
     ·exact t5_1
     refine pure_ (i := 12) (N := some 31) (v := undef) (a' := ?_) (bz 31 8191) rfl rfl (any_of HT_.out (by kernel_rfl)) (fun _ _ _ h => h) (Or.inr ⟨by rfl, rfl⟩) ?_ ?_
     rotate_left
     ·exact t5_1
     refine pure_ (i := 13) (N := some 32) (v := undef) (a' := ?_) (bz 31 16383) rfl rfl (any_of HT_.out (by kernel_rfl)) (fun _ _ _ h => h) (Or.inr ⟨by rfl, rfl⟩) ?_ ?_
     rotate_left
     ·exact t5_1
     refine pure_ (i := 14) (N := some 33) (v := undef) (a' := ?_) (bz 31 32767) rfl rfl (any_of HT_.out (by kernel_rfl)) (fun _ _ _ h => h) (Or.inr ⟨by rfl, rfl⟩) ?_ ?_
     rotate_left
     ·exact t5_1
     refine pure_ (i := 15) (N := some 34) (v := ?_) (a' := ?_) (bz 31 65535) rfl rfl (any_of HT_.out (by kernel_rfl)) (fun _ _ _ h => h) (Or.inl ⟨by rfl, ?_⟩) ?_ ?_
     rotate_left
     ·exact t5_3
     rotate_left
     ·exact t5_1
     refine pure_ (i := 16) (N := some 35) (v := ?_) (a' := ?_) (bz 31 131071) rfl rfl (any_of HT_.out (by kernel_rfl)) (fun _ _ _ h => h) (Or.inl ⟨by rfl, ?_⟩) ?_ ?_
     rotate_left
     ·exact t5_3
     rotate_left
     ·exact t5_1
     refine pure_ (i := 17) (N := some 36) (v := undef) (a' := ?_) (bz 31 262143) rfl rfl (any_of HT_.out (by kernel_rfl)) (fun _ _ _ h => h) (Or.inr ⟨by rfl, rfl⟩) ?_ ?_
     rotate_left
     ·exact t5_1
     refine pure_ (i := 18) (N := some 37) (v := undef) (a' := ?_) (bz 31 524287) rfl rfl (any_of HT_.out (by kernel_rfl)) (fun _ _ _ h => h) (Or.inr ⟨by rfl, rfl⟩) ?_ ?_
     rotate_left
     ·exact t5_1
     refine pure_ (i := 19) (N := some 38) (v := undef) (a' := ?_) (bz 31 1048575) rfl rfl (any_of HT_.out (by kernel_rfl)) (fun _ _ _ h => h) (Or.inr ⟨by rfl, rfl⟩) ?_ ?_
     rotate_left
     ·exact t5_1
     refine pure_ (i := 20) (N := some 39) (v := undef) (a' := ?_) (bz 31 2097151) rfl rfl (any_of HT_.out (by kernel_rfl)) (fun _ _ _ h => h) (Or.inr ⟨by rfl, rfl⟩) ?_ ?_
     rotate_left
     ·exact t5_1
     refine pure_ (i := 21) (N := some 40) (v := undef) (a' := ?_) (bz 31 4194303) rfl rfl (any_of HT_.out (by kernel_rfl)) (fun _ _ _ h => h) (Or.inr ⟨by rfl, rfl⟩) ?_ ?_
     rotate_left
     ·exact t5_1
     refine pure_ (i := 22) (N := some 41) (v := ?_) (a' := ?_) (bz 31 8388607) rfl rfl (any_of HT_.out (by kernel_rfl)) (fun _ _ _ h => h) (Or.inl ⟨by rfl, ?_⟩) ?_ ?_
     rotate_left
     ·exact t5_3
     rotate_left
     ·exact t5_1
     refine pure_ (i := 23) (N := some 42) (v := ?_) (a' := ?_) (bz 31 16777215) rfl rfl (any_of HT_.out (by kernel_rfl)) (fun _ _ _ h => h) (Or.inl ⟨by rfl, ?_⟩) ?_ ?_
     rotate_left
     ·exact t5_3
     rotate_left
     ·exact t5_1
     refine pure_ (i := 24) (N := some 43) (v := undef) (a' := ?_) (bz 31 33554431) rfl rfl (any_of HT_.out (by kernel_rfl)) (fun _ _ _ h => h) (Or.inr ⟨by rfl, rfl⟩) ?_ ?_
     rotate_left
     ·exact t5_1
     refine pure_ (i := 25) (N := some 44) (v := undef) (a' := ?_) (bz 31 67108863) rfl rfl (any_of HT_.out (by kernel_rfl)) (fun _ _ _ h => h) (Or.inr ⟨by rfl, rfl⟩) ?_ ?_
     rotate_left
     ·exact t5_1
     refine pure_ (i := 26) (N := some 45) (v := undef) (a' := ?_) (bz 31 134217727) rfl rfl (any_of HT_.out (by kernel_rfl)) (fun _ _ _ h => h) (Or.inr ⟨by rfl, rfl⟩) ?_ ?_
     rotate_left
     ·exact t5_1
     refine pure_ (i := 27) (N := some 46) (v := undef) (a' := ?_) (bz 31 268435455) rfl rfl (any_of HT_.out (by kernel_rfl)) (fun _ _ _ h => h) (Or.inr ⟨by rfl, rfl⟩) ?_ ?_
     rotate_left
     ·exact t5_1
     refine pure_ (i := 28) (N := some 47) (v := undef) (a' := ?_) (bz 31 536870911) rfl rfl (any_of HT_.out (by kernel_rfl)) (fun _ _ _ h => h) (Or.inr ⟨by rfl, rfl⟩) ?_ ?_
     rotate_left
     ·exact t5_1
     refine pure_ (i := 29) (N := some 48) (v := ?_) (a' := ?_) (bz 31 1073741823) rfl rfl (any_of HT_.out (by kernel_rfl)) (fun _ _ _ h => h) (Or.inl ⟨by rfl, ?_⟩) ?_ ?_
     rotate_left
     ·exact t5_3
     rotate_left
     ·exact t5_1
     refine pure_ (i := 30) (N := some 4) (v := ?_) (a' := ?_) (bz 31 2147483647) rfl rfl (any_of HT_.out (by kernel_rfl)) (fun _ _ _ h => h) (Or.inl ⟨by rfl, ?_⟩) ?_ ?_
     rotate_left
     ·exact t5_3
     rotate_left
     ·exact t5_1
     refine done_ (done_of HT_.out (by kernel_rfl)) ?_
     try go_wp2
     go_ret
     exact ⟨by first | rfl | (simp [errW_none, errW_some] <;> rfl) | (simp [*, errW_none, errW_some] <;> rfl), by repeat (first | (with_reducible first | exact HB.out | apply below_alloc | apply pw_below_drewN | apply below_drew1 | refine below_set ?_ GE177.out | refine below_set ?_ GE178.out | refine below_set ?_ GE185.out | refine below_set ?_ GE186.out) | exact HB.out)⟩

end Go.Proofs.Ytfbokdbaondjdaa.PFnExactHeadOn
