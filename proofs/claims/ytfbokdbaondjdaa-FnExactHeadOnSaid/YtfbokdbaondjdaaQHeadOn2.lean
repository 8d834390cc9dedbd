import Derived.Test.YtfbokdbaondjdaaQHeadOn0
import Derived.Test.YtfbokdbaondjdaaCy
import Derived.Test.YtfbokdbaondjdaaQHeadOn1
namespace Go.Proofs.Ytfbokdbaondjdaa.PFnExactHeadOn
open Go.RowKit Go.Proofs.YtfbokdbaondjdaaW.PrintWords Go.Proofs.YtfbokdbaondjdaaW.PrintLast Go.Proofs.YtfbokdbaondjdaaW.PrintMore Go.Proofs.Ytfbokdbaondjdaa.Cz
attribute [local go_sem] max2_int min2_int max_two min_two max_three min_three max_four min_four
set_option linter.unusedVariables false
set_option linter.unusedSimpArgs false

theorem s2_0 {p : Prop} (h : p := by repeat (first | (with_reducible first | exact HB.out | apply below_alloc | apply pw_below_drewN | apply below_drew1 | refine below_set ?_ GE122.out | refine below_set ?_ GE123.out) | exact HB.out)) : p := h
theorem s2_1 {p : Prop} (h : p := by repeat (first | (with_reducible first | exact HB.out | apply below_alloc | apply pw_below_drewN | apply below_drew1 | refine below_set ?_ GE122.out | refine below_set ?_ GE123.out | refine below_set ?_ GE128.out) | exact HB.out)) : p := h
theorem s2_2 {p : Prop} (h : p := by repeat (first | (with_reducible first | exact HB.out | apply below_alloc | apply pw_below_drewN | apply below_drew1 | refine below_set ?_ GE122.out | refine below_set ?_ GE123.out | refine below_set ?_ GE129.out) | exact HB.out)) : p := h
theorem s2_3 {p : Prop} (h : p := by repeat (first | (with_reducible first | exact HB.out | apply below_alloc | apply pw_below_drewN | apply below_drew1 | refine below_set ?_ GE122.out | refine below_set ?_ GE123.out | refine below_set ?_ GE128.out | refine below_set ?_ GE129.out) | exact HB.out)) : p := h
theorem s2_4 {p : Prop} (h : p := by first | (simp only [putAll, Act.put, y1, y2, y3]; done) | (simp only [putAll, Act.put, y1, y2, y3]; rfl)) : p := h
theorem s2_5 {p : Prop} (h : p := by (try simp only [List.map_toArray, List.map_cons, List.map_nil]); first | done | rfl | (simp only [List.length_drop, List.length_take]; rfl)) : p := h
theorem s2_6 {p : Prop} (h : p := by repeat (first | (with_reducible first | exact HB.out | apply below_alloc | apply pw_below_drewN | apply below_drew1 | refine below_set ?_ GE122.out | refine below_set ?_ GE123.out | refine below_set ?_ GE129.out | refine below_set ?_ GE128.out) | exact HB.out)) : p := h
theorem s2_7 {p : Prop} (h : p := by repeat (first | (with_reducible first | exact HB.out | apply below_alloc | apply pw_below_drewN | apply below_drew1 | refine below_set ?_ GE122.out) | exact HB.out)) : p := h
theorem s2_8 {p : Prop} (h : p := by repeat (first | (with_reducible first | exact HB.out | apply below_alloc | apply pw_below_drewN | apply below_drew1) | exact HB.out)) : p := h
set_option maxRecDepth 100000 in
theorem t2_0 {p : Prop} (h : p := by
 intro hJ2_4_5_6
 refine join_ (σ := Nat) 3 (bz 9 63) (fun s_ => [(9, .agg #[.int .i64 t124, .int .i64 t125]), (11, .agg #[.int .i64 t126, .int .i64 t127]), (5, .pointer (some ⟨s_, 0, none⟩))]) (fun s_ w' => (w'.cell? ⟨gb122, 0, none⟩ = some (.int .i64 a0_0) ∧ w'.cell? ⟨gb122, 1, none⟩ = some (.int .i64 a0_1) ∧ w'.cell? ⟨gb122, 2, none⟩ = some (.int .i64 a0_2) ∧ w'.cell? ⟨gb122, 3, none⟩ = some (.int .i64 a0_3) ∧ w'.cell? ⟨gb122, 4, none⟩ = some (.int .i64 a0_4) ∧ w'.cell? ⟨gb122, 5, none⟩ = some (.int .i64 a0_5) ∧ w'.cell? ⟨gb123, 0, none⟩ = some (.int .i64 a1_0) ∧ w'.cell? ⟨gb123, 1, none⟩ = some (.int .i64 a1_1) ∧ w'.cell? ⟨gb123, 2, none⟩ = some (.int .i64 a1_2) ∧ w'.cell? ⟨gb123, 3, none⟩ = some (.int .i64 a1_3) ∧ w'.cell? ⟨gb123, 4, none⟩ = some (.int .i64 a1_4) ∧ w'.cell? ⟨gb123, 5, none⟩ = some (.int .i64 a1_5)) ∧ (w'.heap[gb122]? = some (.cells #[.int .i64 a0_0, .int .i64 a0_1, .int .i64 a0_2, .int .i64 a0_3, .int .i64 a0_4, .int .i64 a0_5] 25 (0, 0))) ∧ (w'.heap[gb123]? = some (.cells #[.int .i64 a1_0, .int .i64 a1_1, .int .i64 a1_2, .int .i64 a1_3, .int .i64 a1_4, .int .i64 a1_5] 25 (0, 0))) ∧ (w'.heap[s_]? = some (.cells #[.int .i64 0, .int .i64 0] 83 (0, 0))) ∧ (w.heap.size ≤ s_) ∧ (w.heap.size ≤ s_) ∧ (gb122 ≠ s_) ∧ (s_ ≠ gb122) ∧ (gb123 ≠ s_) ∧ (s_ ≠ gb123) ∧ (Below w.heap.size w w')) ?_ ?_
 rotate_left
 ·intro hJ2_4_5
  refine join_ (σ := Nat) 3 (bz 9 95) (fun s_ => [(9, .agg #[.int .i64 t124, .int .i64 t125]), (11, .agg #[.int .i64 t126, .int .i64 t127]), (6, .pointer (some ⟨s_, 0, none⟩))]) (fun s_ w' => (w'.cell? ⟨gb122, 0, none⟩ = some (.int .i64 a0_0) ∧ w'.cell? ⟨gb122, 1, none⟩ = some (.int .i64 a0_1) ∧ w'.cell? ⟨gb122, 2, none⟩ = some (.int .i64 a0_2) ∧ w'.cell? ⟨gb122, 3, none⟩ = some (.int .i64 a0_3) ∧ w'.cell? ⟨gb122, 4, none⟩ = some (.int .i64 a0_4) ∧ w'.cell? ⟨gb122, 5, none⟩ = some (.int .i64 a0_5) ∧ w'.cell? ⟨gb123, 0, none⟩ = some (.int .i64 a1_0) ∧ w'.cell? ⟨gb123, 1, none⟩ = some (.int .i64 a1_1) ∧ w'.cell? ⟨gb123, 2, none⟩ = some (.int .i64 a1_2) ∧ w'.cell? ⟨gb123, 3, none⟩ = some (.int .i64 a1_3) ∧ w'.cell? ⟨gb123, 4, none⟩ = some (.int .i64 a1_4) ∧ w'.cell? ⟨gb123, 5, none⟩ = some (.int .i64 a1_5)) ∧ (w'.heap[gb122]? = some (.cells #[.int .i64 a0_0, .int .i64 a0_1, .int .i64 a0_2, .int .i64 a0_3, .int .i64 a0_4, .int .i64 a0_5] 25 (0, 0))) ∧ (w'.heap[gb123]? = some (.cells #[.int .i64 a1_0, .int .i64 a1_1, .int .i64 a1_2, .int .i64 a1_3, .int .i64 a1_4, .int .i64 a1_5] 25 (0, 0))) ∧ (w'.heap[s_]? = some (.cells #[.int .i64 0, .int .i64 0] 83 (0, 0))) ∧ (w.heap.size ≤ s_) ∧ (w.heap.size ≤ s_) ∧ (gb122 ≠ s_) ∧ (s_ ≠ gb122) ∧ (gb123 ≠ s_) ∧ (s_ ≠ gb123) ∧ (Below w.heap.size w w')) ?_ ?_
  rotate_left
  ·intro hJ2_4_6
   refine join_ (σ := Nat × Nat) 3 (bz 9 111) (fun s_ => [(9, .agg #[.int .i64 t124, .int .i64 t125]), (5, .pointer (some ⟨s_.1, 0, none⟩)), (6, .pointer (some ⟨s_.2, 0, none⟩))]) (fun s_ w' => (w'.cell? ⟨gb122, 0, none⟩ = some (.int .i64 a0_0) ∧ w'.cell? ⟨gb122, 1, none⟩ = some (.int .i64 a0_1) ∧ w'.cell? ⟨gb122, 2, none⟩ = some (.int .i64 a0_2) ∧ w'.cell? ⟨gb122, 3, none⟩ = some (.int .i64 a0_3) ∧ w'.cell? ⟨gb122, 4, none⟩ = some (.int .i64 a0_4) ∧ w'.cell? ⟨gb122, 5, none⟩ = some (.int .i64 a0_5) ∧ w'.cell? ⟨gb123, 0, none⟩ = some (.int .i64 a1_0) ∧ w'.cell? ⟨gb123, 1, none⟩ = some (.int .i64 a1_1) ∧ w'.cell? ⟨gb123, 2, none⟩ = some (.int .i64 a1_2) ∧ w'.cell? ⟨gb123, 3, none⟩ = some (.int .i64 a1_3) ∧ w'.cell? ⟨gb123, 4, none⟩ = some (.int .i64 a1_4) ∧ w'.cell? ⟨gb123, 5, none⟩ = some (.int .i64 a1_5)) ∧ (w'.heap[gb122]? = some (.cells #[.int .i64 a0_0, .int .i64 a0_1, .int .i64 a0_2, .int .i64 a0_3, .int .i64 a0_4, .int .i64 a0_5] 25 (0, 0))) ∧ (w'.heap[gb123]? = some (.cells #[.int .i64 a1_0, .int .i64 a1_1, .int .i64 a1_2, .int .i64 a1_3, .int .i64 a1_4, .int .i64 a1_5] 25 (0, 0))) ∧ (w'.heap[s_.1]? = some (.cells #[.int .i64 0, .int .i64 0] 83 (0, 0))) ∧ (w'.heap[s_.2]? = some (.cells #[.int .i64 0, .int .i64 0] 83 (0, 0))) ∧ (w.heap.size ≤ s_.1) ∧ (w.heap.size ≤ s_.1) ∧ (gb122 ≠ s_.1) ∧ (s_.1 ≠ gb122) ∧ (gb123 ≠ s_.1) ∧ (s_.1 ≠ gb123) ∧ (s_.2 ≠ s_.1) ∧ (s_.1 ≠ s_.2) ∧ (w.heap.size ≤ s_.2) ∧ (w.heap.size ≤ s_.2) ∧ (gb122 ≠ s_.2) ∧ (s_.2 ≠ gb122) ∧ (gb123 ≠ s_.2) ∧ (s_.2 ≠ gb123) ∧ (Below w.heap.size w w')) ?_ ?_
   rotate_left
   ·intro hJ2_5_6
    refine join_ (σ := Unit) 4 (bz 9 31) (fun s_ => [(9, .agg #[.int .i64 t124, .int .i64 t125]), (11, .agg #[.int .i64 t126, .int .i64 t127])]) (fun s_ w' => (w'.cell? ⟨gb122, 0, none⟩ = some (.int .i64 a0_0) ∧ w'.cell? ⟨gb122, 1, none⟩ = some (.int .i64 a0_1) ∧ w'.cell? ⟨gb122, 2, none⟩ = some (.int .i64 a0_2) ∧ w'.cell? ⟨gb122, 3, none⟩ = some (.int .i64 a0_3) ∧ w'.cell? ⟨gb122, 4, none⟩ = some (.int .i64 a0_4) ∧ w'.cell? ⟨gb122, 5, none⟩ = some (.int .i64 a0_5) ∧ w'.cell? ⟨gb123, 0, none⟩ = some (.int .i64 a1_0) ∧ w'.cell? ⟨gb123, 1, none⟩ = some (.int .i64 a1_1) ∧ w'.cell? ⟨gb123, 2, none⟩ = some (.int .i64 a1_2) ∧ w'.cell? ⟨gb123, 3, none⟩ = some (.int .i64 a1_3) ∧ w'.cell? ⟨gb123, 4, none⟩ = some (.int .i64 a1_4) ∧ w'.cell? ⟨gb123, 5, none⟩ = some (.int .i64 a1_5)) ∧ (w'.heap[gb122]? = some (.cells #[.int .i64 a0_0, .int .i64 a0_1, .int .i64 a0_2, .int .i64 a0_3, .int .i64 a0_4, .int .i64 a0_5] 25 (0, 0))) ∧ (w'.heap[gb123]? = some (.cells #[.int .i64 a1_0, .int .i64 a1_1, .int .i64 a1_2, .int .i64 a1_3, .int .i64 a1_4, .int .i64 a1_5] 25 (0, 0))) ∧ (Below w.heap.size w w')) ?_ ?_
    rotate_left
    ·intro hJ2_4
     refine join_ (σ := Nat) 4 (bz 9 47) (fun s_ => [(9, .agg #[.int .i64 t124, .int .i64 t125]), (5, .pointer (some ⟨s_, 0, none⟩))]) (fun s_ w' => (w'.cell? ⟨gb122, 0, none⟩ = some (.int .i64 a0_0) ∧ w'.cell? ⟨gb122, 1, none⟩ = some (.int .i64 a0_1) ∧ w'.cell? ⟨gb122, 2, none⟩ = some (.int .i64 a0_2) ∧ w'.cell? ⟨gb122, 3, none⟩ = some (.int .i64 a0_3) ∧ w'.cell? ⟨gb122, 4, none⟩ = some (.int .i64 a0_4) ∧ w'.cell? ⟨gb122, 5, none⟩ = some (.int .i64 a0_5) ∧ w'.cell? ⟨gb123, 0, none⟩ = some (.int .i64 a1_0) ∧ w'.cell? ⟨gb123, 1, none⟩ = some (.int .i64 a1_1) ∧ w'.cell? ⟨gb123, 2, none⟩ = some (.int .i64 a1_2) ∧ w'.cell? ⟨gb123, 3, none⟩ = some (.int .i64 a1_3) ∧ w'.cell? ⟨gb123, 4, none⟩ = some (.int .i64 a1_4) ∧ w'.cell? ⟨gb123, 5, none⟩ = some (.int .i64 a1_5)) ∧ (w'.heap[gb122]? = some (.cells #[.int .i64 a0_0, .int .i64 a0_1, .int .i64 a0_2, .int .i64 a0_3, .int .i64 a0_4, .int .i64 a0_5] 25 (0, 0))) ∧ (w'.heap[gb123]? = some (.cells #[.int .i64 a1_0, .int .i64 a1_1, .int .i64 a1_2, .int .i64 a1_3, .int .i64 a1_4, .int .i64 a1_5] 25 (0, 0))) ∧ (w'.heap[s_]? = some (.cells #[.int .i64 0, .int .i64 0] 83 (0, 0))) ∧ (w.heap.size ≤ s_) ∧ (w.heap.size ≤ s_) ∧ (gb122 ≠ s_) ∧ (s_ ≠ gb122) ∧ (gb123 ≠ s_) ∧ (s_ ≠ gb123) ∧ (Below w.heap.size w w')) ?_ ?_
     rotate_left
     ·intro hJ2_5
      refine join_ (σ := Nat) 4 (bz 9 79) (fun s_ => [(9, .agg #[.int .i64 t124, .int .i64 t125]), (6, .pointer (some ⟨s_, 0, none⟩))]) (fun s_ w' => (w'.cell? ⟨gb122, 0, none⟩ = some (.int .i64 a0_0) ∧ w'.cell? ⟨gb122, 1, none⟩ = some (.int .i64 a0_1) ∧ w'.cell? ⟨gb122, 2, none⟩ = some (.int .i64 a0_2) ∧ w'.cell? ⟨gb122, 3, none⟩ = some (.int .i64 a0_3) ∧ w'.cell? ⟨gb122, 4, none⟩ = some (.int .i64 a0_4) ∧ w'.cell? ⟨gb122, 5, none⟩ = some (.int .i64 a0_5) ∧ w'.cell? ⟨gb123, 0, none⟩ = some (.int .i64 a1_0) ∧ w'.cell? ⟨gb123, 1, none⟩ = some (.int .i64 a1_1) ∧ w'.cell? ⟨gb123, 2, none⟩ = some (.int .i64 a1_2) ∧ w'.cell? ⟨gb123, 3, none⟩ = some (.int .i64 a1_3) ∧ w'.cell? ⟨gb123, 4, none⟩ = some (.int .i64 a1_4) ∧ w'.cell? ⟨gb123, 5, none⟩ = some (.int .i64 a1_5)) ∧ (w'.heap[gb122]? = some (.cells #[.int .i64 a0_0, .int .i64 a0_1, .int .i64 a0_2, .int .i64 a0_3, .int .i64 a0_4, .int .i64 a0_5] 25 (0, 0))) ∧ (w'.heap[gb123]? = some (.cells #[.int .i64 a1_0, .int .i64 a1_1, .int .i64 a1_2, .int .i64 a1_3, .int .i64 a1_4, .int .i64 a1_5] 25 (0, 0))) ∧ (w'.heap[s_]? = some (.cells #[.int .i64 0, .int .i64 0] 83 (0, 0))) ∧ (w.heap.size ≤ s_) ∧ (w.heap.size ≤ s_) ∧ (gb122 ≠ s_) ∧ (s_ ≠ gb122) ∧ (gb123 ≠ s_) ∧ (s_ ≠ gb123) ∧ (Below w.heap.size w w')) ?_ ?_
      rotate_left
      ·intro hJ2_6
       refine join_ (σ := Nat × Nat) 4 (bz 9 107) (fun s_ => [(5, .pointer (some ⟨s_.1, 0, none⟩)), (6, .pointer (some ⟨s_.2, 0, none⟩))]) (fun s_ w' => (w'.cell? ⟨gb122, 0, none⟩ = some (.int .i64 a0_0) ∧ w'.cell? ⟨gb122, 1, none⟩ = some (.int .i64 a0_1) ∧ w'.cell? ⟨gb122, 2, none⟩ = some (.int .i64 a0_2) ∧ w'.cell? ⟨gb122, 3, none⟩ = some (.int .i64 a0_3) ∧ w'.cell? ⟨gb122, 4, none⟩ = some (.int .i64 a0_4) ∧ w'.cell? ⟨gb122, 5, none⟩ = some (.int .i64 a0_5) ∧ w'.cell? ⟨gb123, 0, none⟩ = some (.int .i64 a1_0) ∧ w'.cell? ⟨gb123, 1, none⟩ = some (.int .i64 a1_1) ∧ w'.cell? ⟨gb123, 2, none⟩ = some (.int .i64 a1_2) ∧ w'.cell? ⟨gb123, 3, none⟩ = some (.int .i64 a1_3) ∧ w'.cell? ⟨gb123, 4, none⟩ = some (.int .i64 a1_4) ∧ w'.cell? ⟨gb123, 5, none⟩ = some (.int .i64 a1_5)) ∧ (w'.heap[gb122]? = some (.cells #[.int .i64 a0_0, .int .i64 a0_1, .int .i64 a0_2, .int .i64 a0_3, .int .i64 a0_4, .int .i64 a0_5] 25 (0, 0))) ∧ (w'.heap[gb123]? = some (.cells #[.int .i64 a1_0, .int .i64 a1_1, .int .i64 a1_2, .int .i64 a1_3, .int .i64 a1_4, .int .i64 a1_5] 25 (0, 0))) ∧ (w'.heap[s_.1]? = some (.cells #[.int .i64 0, .int .i64 0] 83 (0, 0))) ∧ (w'.heap[s_.2]? = some (.cells #[.int .i64 0, .int .i64 0] 83 (0, 0))) ∧ (w.heap.size ≤ s_.1) ∧ (w.heap.size ≤ s_.1) ∧ (gb122 ≠ s_.1) ∧ (s_.1 ≠ gb122) ∧ (gb123 ≠ s_.1) ∧ (s_.1 ≠ gb123) ∧ (s_.2 ≠ s_.1) ∧ (s_.1 ≠ s_.2) ∧ (w.heap.size ≤ s_.2) ∧ (w.heap.size ≤ s_.2) ∧ (gb122 ≠ s_.2) ∧ (s_.2 ≠ gb122) ∧ (gb123 ≠ s_.2) ∧ (s_.2 ≠ gb123) ∧ (Below w.heap.size w w')) ?_ ?_
       rotate_left
       ·intro hJ5_6
        refine join_ (σ := Unit) 5 (bz 9 15) (fun s_ => [(9, .agg #[.int .i64 t124, .int .i64 t125])]) (fun s_ w' => (w'.cell? ⟨gb122, 0, none⟩ = some (.int .i64 a0_0) ∧ w'.cell? ⟨gb122, 1, none⟩ = some (.int .i64 a0_1) ∧ w'.cell? ⟨gb122, 2, none⟩ = some (.int .i64 a0_2) ∧ w'.cell? ⟨gb122, 3, none⟩ = some (.int .i64 a0_3) ∧ w'.cell? ⟨gb122, 4, none⟩ = some (.int .i64 a0_4) ∧ w'.cell? ⟨gb122, 5, none⟩ = some (.int .i64 a0_5) ∧ w'.cell? ⟨gb123, 0, none⟩ = some (.int .i64 a1_0) ∧ w'.cell? ⟨gb123, 1, none⟩ = some (.int .i64 a1_1) ∧ w'.cell? ⟨gb123, 2, none⟩ = some (.int .i64 a1_2) ∧ w'.cell? ⟨gb123, 3, none⟩ = some (.int .i64 a1_3) ∧ w'.cell? ⟨gb123, 4, none⟩ = some (.int .i64 a1_4) ∧ w'.cell? ⟨gb123, 5, none⟩ = some (.int .i64 a1_5)) ∧ (w'.heap[gb122]? = some (.cells #[.int .i64 a0_0, .int .i64 a0_1, .int .i64 a0_2, .int .i64 a0_3, .int .i64 a0_4, .int .i64 a0_5] 25 (0, 0))) ∧ (w'.heap[gb123]? = some (.cells #[.int .i64 a1_0, .int .i64 a1_1, .int .i64 a1_2, .int .i64 a1_3, .int .i64 a1_4, .int .i64 a1_5] 25 (0, 0))) ∧ (Below w.heap.size w w')) ?_ ?_
        rotate_left
        ·intro hJ2
         refine join_ (σ := Nat) 5 (bz 9 43) (fun s_ => [(5, .pointer (some ⟨s_, 0, none⟩))]) (fun s_ w' => (w'.cell? ⟨gb122, 0, none⟩ = some (.int .i64 a0_0) ∧ w'.cell? ⟨gb122, 1, none⟩ = some (.int .i64 a0_1) ∧ w'.cell? ⟨gb122, 2, none⟩ = some (.int .i64 a0_2) ∧ w'.cell? ⟨gb122, 3, none⟩ = some (.int .i64 a0_3) ∧ w'.cell? ⟨gb122, 4, none⟩ = some (.int .i64 a0_4) ∧ w'.cell? ⟨gb122, 5, none⟩ = some (.int .i64 a0_5) ∧ w'.cell? ⟨gb123, 0, none⟩ = some (.int .i64 a1_0) ∧ w'.cell? ⟨gb123, 1, none⟩ = some (.int .i64 a1_1) ∧ w'.cell? ⟨gb123, 2, none⟩ = some (.int .i64 a1_2) ∧ w'.cell? ⟨gb123, 3, none⟩ = some (.int .i64 a1_3) ∧ w'.cell? ⟨gb123, 4, none⟩ = some (.int .i64 a1_4) ∧ w'.cell? ⟨gb123, 5, none⟩ = some (.int .i64 a1_5)) ∧ (w'.heap[gb122]? = some (.cells #[.int .i64 a0_0, .int .i64 a0_1, .int .i64 a0_2, .int .i64 a0_3, .int .i64 a0_4, .int .i64 a0_5] 25 (0, 0))) ∧ (w'.heap[gb123]? = some (.cells #[.int .i64 a1_0, .int .i64 a1_1, .int .i64 a1_2, .int .i64 a1_3, .int .i64 a1_4, .int .i64 a1_5] 25 (0, 0))) ∧ (w'.heap[s_]? = some (.cells #[.int .i64 0, .int .i64 0] 83 (0, 0))) ∧ (w.heap.size ≤ s_) ∧ (w.heap.size ≤ s_) ∧ (gb122 ≠ s_) ∧ (s_ ≠ gb122) ∧ (gb123 ≠ s_) ∧ (s_ ≠ gb123) ∧ (Below w.heap.size w w')) ?_ ?_
         rotate_left
         ·intro hJ5
          refine join_ (σ := Nat) 5 (bz 9 75) (fun s_ => [(6, .pointer (some ⟨s_, 0, none⟩))]) (fun s_ w' => (w'.cell? ⟨gb122, 0, none⟩ = some (.int .i64 a0_0) ∧ w'.cell? ⟨gb122, 1, none⟩ = some (.int .i64 a0_1) ∧ w'.cell? ⟨gb122, 2, none⟩ = some (.int .i64 a0_2) ∧ w'.cell? ⟨gb122, 3, none⟩ = some (.int .i64 a0_3) ∧ w'.cell? ⟨gb122, 4, none⟩ = some (.int .i64 a0_4) ∧ w'.cell? ⟨gb122, 5, none⟩ = some (.int .i64 a0_5) ∧ w'.cell? ⟨gb123, 0, none⟩ = some (.int .i64 a1_0) ∧ w'.cell? ⟨gb123, 1, none⟩ = some (.int .i64 a1_1) ∧ w'.cell? ⟨gb123, 2, none⟩ = some (.int .i64 a1_2) ∧ w'.cell? ⟨gb123, 3, none⟩ = some (.int .i64 a1_3) ∧ w'.cell? ⟨gb123, 4, none⟩ = some (.int .i64 a1_4) ∧ w'.cell? ⟨gb123, 5, none⟩ = some (.int .i64 a1_5)) ∧ (w'.heap[gb122]? = some (.cells #[.int .i64 a0_0, .int .i64 a0_1, .int .i64 a0_2, .int .i64 a0_3, .int .i64 a0_4, .int .i64 a0_5] 25 (0, 0))) ∧ (w'.heap[gb123]? = some (.cells #[.int .i64 a1_0, .int .i64 a1_1, .int .i64 a1_2, .int .i64 a1_3, .int .i64 a1_4, .int .i64 a1_5] 25 (0, 0))) ∧ (w'.heap[s_]? = some (.cells #[.int .i64 0, .int .i64 0] 83 (0, 0))) ∧ (w.heap.size ≤ s_) ∧ (w.heap.size ≤ s_) ∧ (gb122 ≠ s_) ∧ (s_ ≠ gb122) ∧ (gb123 ≠ s_) ∧ (s_ ≠ gb123) ∧ (Below w.heap.size w w')) ?_ ?_
          rotate_left
          ·intro hJ6
           refine three_ (i := 2) (j := 5) (k := 6) (Ni := some 9) (Nj := some 5) (Nk := some 6) (bz 9 15) (bz 9 43) (bz 9 75) rfl rfl rfl rfl rfl rfl (three_of HT_.out (by kernel_rfl)) (by decide) (by decide) (by decide) (fun K hK => ?_) (fun K hK => ?_) (fun K hK => ?_)
           ·skip
            refine goes_ Try.func65 (by kernel_rfl) rfl #[.agg #[.int .i64 a0_0, .int .i64 a0_1, .int .i64 a0_2, .int .i64 a0_3, .int .i64 a0_4, .int .i64 a0_5], .agg #[.int .i64 a1_0, .int .i64 a1_1, .int .i64 a1_2, .int .i64 a1_3, .int .i64 a1_4, .int .i64 a1_5]] (by rfl) rfl rfl s2_5 ?_
            with_reducible refine (spec_l8Bearing.calls a0_0 a0_1 a0_2 a0_3 a0_4 a0_5 a1_0 a1_1 a1_2 a1_3 a1_4 a1_5 t124 t125 _ A3.out).mono ?_
            rintro e w4 ⟨rfl, hb⟩
            refine ⟨_, rfl, ?_⟩
            have n0_ := Aside0.mk (bb (zk BK122.out) hb)
            have n1_ := Aside0.mk (bb (zk BK123.out) hb)
            have n2_ := Aside0.mk (below_step s2_0 hb)
            clear BK122 BK123 HB
            have BK122 := n0_
            have BK123 := n1_
            have HB := n2_
            clear n0_ n1_ n2_
            (try clear hb)
            (try clear hb2)
            (try clear hk)
            (try clear hi)
            refine hK.out _ _ ⟨bc BK122.out 0, bc BK122.out 1, bc BK122.out 2, bc BK122.out 3, bc BK122.out 4, bc BK122.out 5, bc BK123.out 0, bc BK123.out 1, bc BK123.out 2, bc BK123.out 3, bc BK123.out 4, bc BK123.out 5⟩ (fun hHeld => ?_)
            clear hK K
            refine norm_ (a' := ?_) ?_ ?_
            rotate_left
            ·show Act.put _ (some 9) _ = _
             simp only [Act.put, y1, y2, y3, i64_w, i32_w]
             rfl
            exact norm_ s2_4 (hJ2 () _ ⟨hHeld, (zk BK122.out), (zk BK123.out), s2_0⟩)
           ·skip
            refine box_step ?hg (N := 5) ?hd (cs := #[.int .i64 0, .int .i64 0]) (t := 83) ?hr ?_; (case hd => rfl); (case hg => rfl); (case hr => first | (go_simp; done) | (go_simp; rfl))
            intro gb128 hg w4 hbox hb
            have n0_ := Aside0.mk (bb (zk BK122.out) hb)
            have n1_ := Aside0.mk (bb (zk BK123.out) hb)
            have n2_ := Aside0.mk (below_step s2_0 hb)
            have n3_ := Aside0.mk (hbox)
            have n4_ := Aside0.mk (ns hg s2_0 : w.heap.size ≤ gb128)
            have n5_ := Aside0.mk (ns hg s2_0 : w.heap.size ≤ gb128)
            have n6_ := Aside0.mk ((nlt hg (zk BK122.out) : gb122 ≠ gb128))
            have n7_ := Aside0.mk ((ngt hg (zk BK122.out) : gb128 ≠ gb122))
            have n8_ := Aside0.mk ((nlt hg (zk BK123.out) : gb123 ≠ gb128))
            have n9_ := Aside0.mk ((ngt hg (zk BK123.out) : gb128 ≠ gb123))
            clear BK122 BK123 HB
            have BK122 := n0_
            have BK123 := n1_
            have HB := n2_
            have BK128 := n3_
            have GW128 := n4_
            have GE128 := n5_
            have NB122_128 := n6_
            have NB128_122 := n7_
            have NB123_128 := n8_
            have NB128_123 := n9_
            clear n0_ n1_ n2_ n3_ n4_ n5_ n6_ n7_ n8_ n9_ hb hbox hg
            refine hK.out _ _ ⟨bc BK122.out 0, bc BK122.out 1, bc BK122.out 2, bc BK122.out 3, bc BK122.out 4, bc BK122.out 5, bc BK123.out 0, bc BK123.out 1, bc BK123.out 2, bc BK123.out 3, bc BK123.out 4, bc BK123.out 5⟩ (fun hHeld => ?_)
            clear hK K
            refine norm_ (a' := ?_) ?_ ?_
            rotate_left
            ·show Act.put _ (some 5) _ = _
             simp only [Act.put, y1, y2, y3, i64_w, i32_w]
             rfl
            exact norm_ s2_4 (hJ5 (gb128) _ ⟨hHeld, (zk BK122.out), (zk BK123.out), (zk BK128.out), GW128.out, GE128.out, NB122_128.out, NB128_122.out, NB123_128.out, NB128_123.out, s2_1⟩)
           ·skip
            refine box_step ?hg (N := 6) ?hd (cs := #[.int .i64 0, .int .i64 0]) (t := 83) ?hr ?_; (case hd => rfl); (case hg => rfl); (case hr => first | (go_simp; done) | (go_simp; rfl))
            intro gb129 hg w4 hbox hb
            have n0_ := Aside0.mk (bb (zk BK122.out) hb)
            have n1_ := Aside0.mk (bb (zk BK123.out) hb)
            have n2_ := Aside0.mk (below_step s2_0 hb)
            have n3_ := Aside0.mk (hbox)
            have n4_ := Aside0.mk (ns hg s2_0 : w.heap.size ≤ gb129)
            have n5_ := Aside0.mk (ns hg s2_0 : w.heap.size ≤ gb129)
            have n6_ := Aside0.mk ((nlt hg (zk BK122.out) : gb122 ≠ gb129))
            have n7_ := Aside0.mk ((ngt hg (zk BK122.out) : gb129 ≠ gb122))
            have n8_ := Aside0.mk ((nlt hg (zk BK123.out) : gb123 ≠ gb129))
            have n9_ := Aside0.mk ((ngt hg (zk BK123.out) : gb129 ≠ gb123))
            clear BK122 BK123 HB
            have BK122 := n0_
            have BK123 := n1_
            have HB := n2_
            have BK129 := n3_
            have GW129 := n4_
            have GE129 := n5_
            have NB122_129 := n6_
            have NB129_122 := n7_
            have NB123_129 := n8_
            have NB129_123 := n9_
            clear n0_ n1_ n2_ n3_ n4_ n5_ n6_ n7_ n8_ n9_ hb hbox hg
            refine hK.out _ _ ⟨bc BK122.out 0, bc BK122.out 1, bc BK122.out 2, bc BK122.out 3, bc BK122.out 4, bc BK122.out 5, bc BK123.out 0, bc BK123.out 1, bc BK123.out 2, bc BK123.out 3, bc BK123.out 4, bc BK123.out 5⟩ (fun hHeld => ?_)
            clear hK K
            refine norm_ (a' := ?_) ?_ ?_
            rotate_left
            ·show Act.put _ (some 6) _ = _
             simp only [Act.put, y1, y2, y3, i64_w, i32_w]
             rfl
            exact norm_ s2_4 (hJ6 (gb129) _ ⟨hHeld, (zk BK122.out), (zk BK123.out), (zk BK129.out), GW129.out, GE129.out, NB122_129.out, NB129_122.out, NB123_129.out, NB129_123.out, s2_2⟩)
          ·skip
           rintro gb129 w4 ⟨hS_, h0_, h1_, h2_, h3_, h4_, h5_, h6_, h7_, h8_, h9_⟩
           have n0_ : Aside0 (w4.heap[gb122]? = some (.cells #[.int .i64 a0_0, .int .i64 a0_1, .int .i64 a0_2, .int .i64 a0_3, .int .i64 a0_4, .int .i64 a0_5] 25 (0, 0))) := ⟨h0_⟩
           have n1_ : Aside0 (w4.heap[gb123]? = some (.cells #[.int .i64 a1_0, .int .i64 a1_1, .int .i64 a1_2, .int .i64 a1_3, .int .i64 a1_4, .int .i64 a1_5] 25 (0, 0))) := ⟨h1_⟩
           have n2_ : Aside0 (w4.heap[gb129]? = some (.cells #[.int .i64 0, .int .i64 0] 83 (0, 0))) := ⟨h2_⟩
           have n3_ : Aside0 (w.heap.size ≤ gb129) := ⟨h3_⟩
           have n4_ : Aside0 (w.heap.size ≤ gb129) := ⟨h4_⟩
           have n5_ : Aside0 (gb122 ≠ gb129) := ⟨h5_⟩
           have n6_ : Aside0 (gb129 ≠ gb122) := ⟨h6_⟩
           have n7_ : Aside0 (gb123 ≠ gb129) := ⟨h7_⟩
           have n8_ : Aside0 (gb129 ≠ gb123) := ⟨h8_⟩
           have n9_ : Aside0 (Below w.heap.size w w4) := ⟨h9_⟩
           clear BK122 BK123 HB h0_ h1_ h2_ h3_ h4_ h5_ h6_ h7_ h8_ h9_
           have BK122 := n0_
           have BK123 := n1_
           have BK129 := n2_
           have GW129 := n3_
           have GE129 := n4_
           have NB122_129 := n5_
           have NB129_122 := n6_
           have NB123_129 := n7_
           have NB129_123 := n8_
           have HB := n9_
           clear n0_ n1_ n2_ n3_ n4_ n5_ n6_ n7_ n8_ n9_
           have hHeld : w4.cell? ⟨gb122, 0, none⟩ = some (.int .i64 a0_0) ∧ w4.cell? ⟨gb122, 1, none⟩ = some (.int .i64 a0_1) ∧ w4.cell? ⟨gb122, 2, none⟩ = some (.int .i64 a0_2) ∧ w4.cell? ⟨gb122, 3, none⟩ = some (.int .i64 a0_3) ∧ w4.cell? ⟨gb122, 4, none⟩ = some (.int .i64 a0_4) ∧ w4.cell? ⟨gb122, 5, none⟩ = some (.int .i64 a0_5) ∧ w4.cell? ⟨gb123, 0, none⟩ = some (.int .i64 a1_0) ∧ w4.cell? ⟨gb123, 1, none⟩ = some (.int .i64 a1_1) ∧ w4.cell? ⟨gb123, 2, none⟩ = some (.int .i64 a1_2) ∧ w4.cell? ⟨gb123, 3, none⟩ = some (.int .i64 a1_3) ∧ w4.cell? ⟨gb123, 4, none⟩ = some (.int .i64 a1_4) ∧ w4.cell? ⟨gb123, 5, none⟩ = some (.int .i64 a1_5) := hS_
           refine norm_ (a' := ?_) ?_ ?_
           rotate_left
           ·simp only [putAll, Act.put, y1, y2, y3]
            rfl
           refine two_ (i := 2) (j := 5) (Ni := some 9) (Nj := some 5) (bz 9 79) (bz 9 107) rfl rfl rfl rfl (two_of HT_.out (by kernel_rfl)) (by decide) (by decide) (fun K hK => ?_) (fun K hK => ?_)
           ·skip
            refine goes_ Try.func65 (by kernel_rfl) rfl #[.agg #[.int .i64 a0_0, .int .i64 a0_1, .int .i64 a0_2, .int .i64 a0_3, .int .i64 a0_4, .int .i64 a0_5], .agg #[.int .i64 a1_0, .int .i64 a1_1, .int .i64 a1_2, .int .i64 a1_3, .int .i64 a1_4, .int .i64 a1_5]] (by rfl) rfl rfl s2_5 ?_
            with_reducible refine (spec_l8Bearing.calls a0_0 a0_1 a0_2 a0_3 a0_4 a0_5 a1_0 a1_1 a1_2 a1_3 a1_4 a1_5 t124 t125 _ A3.out).mono ?_
            rintro e w5 ⟨rfl, hb⟩
            refine ⟨_, rfl, ?_⟩
            have n0_ := Aside0.mk (bb (zk BK122.out) hb)
            have n1_ := Aside0.mk (bb (zk BK123.out) hb)
            have n2_ := Aside0.mk (bb (zk BK129.out) hb)
            have n3_ := Aside0.mk (below_step s2_2 hb)
            clear BK122 BK123 BK129 HB
            have BK122 := n0_
            have BK123 := n1_
            have BK129 := n2_
            have HB := n3_
            clear n0_ n1_ n2_ n3_
            (try clear hb)
            (try clear hb2)
            (try clear hk)
            (try clear hi)
            refine hK.out _ _ ⟨bc BK122.out 0, bc BK122.out 1, bc BK122.out 2, bc BK122.out 3, bc BK122.out 4, bc BK122.out 5, bc BK123.out 0, bc BK123.out 1, bc BK123.out 2, bc BK123.out 3, bc BK123.out 4, bc BK123.out 5⟩ (fun hHeld => ?_)
            clear hK K
            refine norm_ (a' := ?_) ?_ ?_
            rotate_left
            ·show Act.put _ (some 9) _ = _
             simp only [Act.put, y1, y2, y3, i64_w, i32_w]
             rfl
            exact norm_ s2_4 (hJ2_6 (gb129) _ ⟨hHeld, (zk BK122.out), (zk BK123.out), (zk BK129.out), GW129.out, GE129.out, NB122_129.out, NB129_122.out, NB123_129.out, NB129_123.out, s2_2⟩)
           ·skip
            refine box_step ?hg (N := 5) ?hd (cs := #[.int .i64 0, .int .i64 0]) (t := 83) ?hr ?_; (case hd => rfl); (case hg => rfl); (case hr => first | (go_simp; done) | (go_simp; rfl))
            intro gb128 hg w5 hbox hb
            have n0_ := Aside0.mk (bb (zk BK122.out) hb)
            have n1_ := Aside0.mk (bb (zk BK123.out) hb)
            have n2_ := Aside0.mk (bb (zk BK129.out) hb)
            have n3_ := Aside0.mk (below_step s2_2 hb)
            have n4_ := Aside0.mk (hbox)
            have n5_ := Aside0.mk (ns hg s2_2 : w.heap.size ≤ gb128)
            have n6_ := Aside0.mk (ns hg s2_2 : w.heap.size ≤ gb128)
            have n7_ := Aside0.mk ((nlt hg (zk BK122.out) : gb122 ≠ gb128))
            have n8_ := Aside0.mk ((ngt hg (zk BK122.out) : gb128 ≠ gb122))
            have n9_ := Aside0.mk ((nlt hg (zk BK123.out) : gb123 ≠ gb128))
            have n10_ := Aside0.mk ((ngt hg (zk BK123.out) : gb128 ≠ gb123))
            have n11_ := Aside0.mk ((nlt hg (zk BK129.out) : gb129 ≠ gb128))
            have n12_ := Aside0.mk ((ngt hg (zk BK129.out) : gb128 ≠ gb129))
            clear BK122 BK123 BK129 HB
            have BK122 := n0_
            have BK123 := n1_
            have BK129 := n2_
            have HB := n3_
            have BK128 := n4_
            have GW128 := n5_
            have GE128 := n6_
            have NB122_128 := n7_
            have NB128_122 := n8_
            have NB123_128 := n9_
            have NB128_123 := n10_
            have NB129_128 := n11_
            have NB128_129 := n12_
            clear n0_ n1_ n2_ n3_ n4_ n5_ n6_ n7_ n8_ n9_ n10_ n11_ n12_ hb hbox hg
            refine hK.out _ _ ⟨bc BK122.out 0, bc BK122.out 1, bc BK122.out 2, bc BK122.out 3, bc BK122.out 4, bc BK122.out 5, bc BK123.out 0, bc BK123.out 1, bc BK123.out 2, bc BK123.out 3, bc BK123.out 4, bc BK123.out 5⟩ (fun hHeld => ?_)
            clear hK K
            refine norm_ (a' := ?_) ?_ ?_
            rotate_left
            ·show Act.put _ (some 5) _ = _
             simp only [Act.put, y1, y2, y3, i64_w, i32_w]
             rfl
            exact norm_ s2_4 (hJ5_6 (gb128, gb129) _ ⟨hHeld, (zk BK122.out), (zk BK123.out), (zk BK128.out), (zk BK129.out), GW128.out, GE128.out, NB122_128.out, NB128_122.out, NB123_128.out, NB128_123.out, NB129_128.out, NB128_129.out, GW129.out, GE129.out, NB122_129.out, NB129_122.out, NB123_129.out, NB129_123.out, s2_6⟩)
         ·skip
          rintro gb128 w4 ⟨hS_, h0_, h1_, h2_, h3_, h4_, h5_, h6_, h7_, h8_, h9_⟩
          have n0_ : Aside0 (w4.heap[gb122]? = some (.cells #[.int .i64 a0_0, .int .i64 a0_1, .int .i64 a0_2, .int .i64 a0_3, .int .i64 a0_4, .int .i64 a0_5] 25 (0, 0))) := ⟨h0_⟩
          have n1_ : Aside0 (w4.heap[gb123]? = some (.cells #[.int .i64 a1_0, .int .i64 a1_1, .int .i64 a1_2, .int .i64 a1_3, .int .i64 a1_4, .int .i64 a1_5] 25 (0, 0))) := ⟨h1_⟩
          have n2_ : Aside0 (w4.heap[gb128]? = some (.cells #[.int .i64 0, .int .i64 0] 83 (0, 0))) := ⟨h2_⟩
          have n3_ : Aside0 (w.heap.size ≤ gb128) := ⟨h3_⟩
          have n4_ : Aside0 (w.heap.size ≤ gb128) := ⟨h4_⟩
          have n5_ : Aside0 (gb122 ≠ gb128) := ⟨h5_⟩
          have n6_ : Aside0 (gb128 ≠ gb122) := ⟨h6_⟩
          have n7_ : Aside0 (gb123 ≠ gb128) := ⟨h7_⟩
          have n8_ : Aside0 (gb128 ≠ gb123) := ⟨h8_⟩
          have n9_ : Aside0 (Below w.heap.size w w4) := ⟨h9_⟩
          clear BK122 BK123 HB h0_ h1_ h2_ h3_ h4_ h5_ h6_ h7_ h8_ h9_
          have BK122 := n0_
          have BK123 := n1_
          have BK128 := n2_
          have GW128 := n3_
          have GE128 := n4_
          have NB122_128 := n5_
          have NB128_122 := n6_
          have NB123_128 := n7_
          have NB128_123 := n8_
          have HB := n9_
          clear n0_ n1_ n2_ n3_ n4_ n5_ n6_ n7_ n8_ n9_
          have hHeld : w4.cell? ⟨gb122, 0, none⟩ = some (.int .i64 a0_0) ∧ w4.cell? ⟨gb122, 1, none⟩ = some (.int .i64 a0_1) ∧ w4.cell? ⟨gb122, 2, none⟩ = some (.int .i64 a0_2) ∧ w4.cell? ⟨gb122, 3, none⟩ = some (.int .i64 a0_3) ∧ w4.cell? ⟨gb122, 4, none⟩ = some (.int .i64 a0_4) ∧ w4.cell? ⟨gb122, 5, none⟩ = some (.int .i64 a0_5) ∧ w4.cell? ⟨gb123, 0, none⟩ = some (.int .i64 a1_0) ∧ w4.cell? ⟨gb123, 1, none⟩ = some (.int .i64 a1_1) ∧ w4.cell? ⟨gb123, 2, none⟩ = some (.int .i64 a1_2) ∧ w4.cell? ⟨gb123, 3, none⟩ = some (.int .i64 a1_3) ∧ w4.cell? ⟨gb123, 4, none⟩ = some (.int .i64 a1_4) ∧ w4.cell? ⟨gb123, 5, none⟩ = some (.int .i64 a1_5) := hS_
          refine norm_ (a' := ?_) ?_ ?_
          rotate_left
          ·simp only [putAll, Act.put, y1, y2, y3]
           rfl
          refine two_ (i := 2) (j := 6) (Ni := some 9) (Nj := some 6) (bz 9 47) (bz 9 107) rfl rfl rfl rfl (two_of HT_.out (by kernel_rfl)) (by decide) (by decide) (fun K hK => ?_) (fun K hK => ?_)
          ·skip
           refine goes_ Try.func65 (by kernel_rfl) rfl #[.agg #[.int .i64 a0_0, .int .i64 a0_1, .int .i64 a0_2, .int .i64 a0_3, .int .i64 a0_4, .int .i64 a0_5], .agg #[.int .i64 a1_0, .int .i64 a1_1, .int .i64 a1_2, .int .i64 a1_3, .int .i64 a1_4, .int .i64 a1_5]] (by rfl) rfl rfl s2_5 ?_
           with_reducible refine (spec_l8Bearing.calls a0_0 a0_1 a0_2 a0_3 a0_4 a0_5 a1_0 a1_1 a1_2 a1_3 a1_4 a1_5 t124 t125 _ A3.out).mono ?_
           rintro e w5 ⟨rfl, hb⟩
           refine ⟨_, rfl, ?_⟩
           have n0_ := Aside0.mk (bb (zk BK122.out) hb)
           have n1_ := Aside0.mk (bb (zk BK123.out) hb)
           have n2_ := Aside0.mk (bb (zk BK128.out) hb)
           have n3_ := Aside0.mk (below_step s2_1 hb)
           clear BK122 BK123 BK128 HB
           have BK122 := n0_
           have BK123 := n1_
           have BK128 := n2_
           have HB := n3_
           clear n0_ n1_ n2_ n3_
           (try clear hb)
           (try clear hb2)
           (try clear hk)
           (try clear hi)
           refine hK.out _ _ ⟨bc BK122.out 0, bc BK122.out 1, bc BK122.out 2, bc BK122.out 3, bc BK122.out 4, bc BK122.out 5, bc BK123.out 0, bc BK123.out 1, bc BK123.out 2, bc BK123.out 3, bc BK123.out 4, bc BK123.out 5⟩ (fun hHeld => ?_)
           clear hK K
           refine norm_ (a' := ?_) ?_ ?_
           rotate_left
           ·show Act.put _ (some 9) _ = _
            simp only [Act.put, y1, y2, y3, i64_w, i32_w]
            rfl
           exact norm_ s2_4 (hJ2_5 (gb128) _ ⟨hHeld, (zk BK122.out), (zk BK123.out), (zk BK128.out), GW128.out, GE128.out, NB122_128.out, NB128_122.out, NB123_128.out, NB128_123.out, s2_1⟩)
          ·skip
           refine box_step ?hg (N := 6) ?hd (cs := #[.int .i64 0, .int .i64 0]) (t := 83) ?hr ?_; (case hd => rfl); (case hg => rfl); (case hr => first | (go_simp; done) | (go_simp; rfl))
           intro gb129 hg w5 hbox hb
           have n0_ := Aside0.mk (bb (zk BK122.out) hb)
           have n1_ := Aside0.mk (bb (zk BK123.out) hb)
           have n2_ := Aside0.mk (bb (zk BK128.out) hb)
           have n3_ := Aside0.mk (below_step s2_1 hb)
           have n4_ := Aside0.mk (hbox)
           have n5_ := Aside0.mk (ns hg s2_1 : w.heap.size ≤ gb129)
           have n6_ := Aside0.mk (ns hg s2_1 : w.heap.size ≤ gb129)
           have n7_ := Aside0.mk ((nlt hg (zk BK122.out) : gb122 ≠ gb129))
           have n8_ := Aside0.mk ((ngt hg (zk BK122.out) : gb129 ≠ gb122))
           have n9_ := Aside0.mk ((nlt hg (zk BK123.out) : gb123 ≠ gb129))
           have n10_ := Aside0.mk ((ngt hg (zk BK123.out) : gb129 ≠ gb123))
           have n11_ := Aside0.mk ((nlt hg (zk BK128.out) : gb128 ≠ gb129))
           have n12_ := Aside0.mk ((ngt hg (zk BK128.out) : gb129 ≠ gb128))
           clear BK122 BK123 BK128 HB
           have BK122 := n0_
           have BK123 := n1_
           have BK128 := n2_
           have HB := n3_
           have BK129 := n4_
           have GW129 := n5_
           have GE129 := n6_
           have NB122_129 := n7_
           have NB129_122 := n8_
           have NB123_129 := n9_
           have NB129_123 := n10_
           have NB128_129 := n11_
           have NB129_128 := n12_
           clear n0_ n1_ n2_ n3_ n4_ n5_ n6_ n7_ n8_ n9_ n10_ n11_ n12_ hb hbox hg
           refine hK.out _ _ ⟨bc BK122.out 0, bc BK122.out 1, bc BK122.out 2, bc BK122.out 3, bc BK122.out 4, bc BK122.out 5, bc BK123.out 0, bc BK123.out 1, bc BK123.out 2, bc BK123.out 3, bc BK123.out 4, bc BK123.out 5⟩ (fun hHeld => ?_)
           clear hK K
           refine norm_ (a' := ?_) ?_ ?_
           rotate_left
           ·show Act.put _ (some 6) _ = _
            simp only [Act.put, y1, y2, y3, i64_w, i32_w]
            rfl
           exact norm_ s2_4 (hJ5_6 (gb128, gb129) _ ⟨hHeld, (zk BK122.out), (zk BK123.out), (zk BK128.out), (zk BK129.out), GW128.out, GE128.out, NB122_128.out, NB128_122.out, NB123_128.out, NB128_123.out, NB129_128.out, NB128_129.out, GW129.out, GE129.out, NB122_129.out, NB129_122.out, NB123_129.out, NB129_123.out, s2_3⟩)
        ·skip
         rintro _ w4 ⟨hS_, h0_, h1_, h2_⟩
         have n0_ : Aside0 (w4.heap[gb122]? = some (.cells #[.int .i64 a0_0, .int .i64 a0_1, .int .i64 a0_2, .int .i64 a0_3, .int .i64 a0_4, .int .i64 a0_5] 25 (0, 0))) := ⟨h0_⟩
         have n1_ : Aside0 (w4.heap[gb123]? = some (.cells #[.int .i64 a1_0, .int .i64 a1_1, .int .i64 a1_2, .int .i64 a1_3, .int .i64 a1_4, .int .i64 a1_5] 25 (0, 0))) := ⟨h1_⟩
         have n2_ : Aside0 (Below w.heap.size w w4) := ⟨h2_⟩
         clear BK122 BK123 HB h0_ h1_ h2_
         have BK122 := n0_
         have BK123 := n1_
         have HB := n2_
         clear n0_ n1_ n2_
         have hHeld : w4.cell? ⟨gb122, 0, none⟩ = some (.int .i64 a0_0) ∧ w4.cell? ⟨gb122, 1, none⟩ = some (.int .i64 a0_1) ∧ w4.cell? ⟨gb122, 2, none⟩ = some (.int .i64 a0_2) ∧ w4.cell? ⟨gb122, 3, none⟩ = some (.int .i64 a0_3) ∧ w4.cell? ⟨gb122, 4, none⟩ = some (.int .i64 a0_4) ∧ w4.cell? ⟨gb122, 5, none⟩ = some (.int .i64 a0_5) ∧ w4.cell? ⟨gb123, 0, none⟩ = some (.int .i64 a1_0) ∧ w4.cell? ⟨gb123, 1, none⟩ = some (.int .i64 a1_1) ∧ w4.cell? ⟨gb123, 2, none⟩ = some (.int .i64 a1_2) ∧ w4.cell? ⟨gb123, 3, none⟩ = some (.int .i64 a1_3) ∧ w4.cell? ⟨gb123, 4, none⟩ = some (.int .i64 a1_4) ∧ w4.cell? ⟨gb123, 5, none⟩ = some (.int .i64 a1_5) := hS_
         refine norm_ (a' := ?_) ?_ ?_
         rotate_left
         ·simp only [putAll, Act.put, y1, y2, y3]
          rfl
         refine three_ (i := 4) (j := 5) (k := 6) (Ni := some 11) (Nj := some 5) (Nk := some 6) (bz 9 31) (bz 9 47) (bz 9 79) rfl rfl rfl rfl rfl rfl (three_of HT_.out (by kernel_rfl)) (by decide) (by decide) (by decide) (fun K hK => ?_) (fun K hK => ?_) (fun K hK => ?_)
         ·skip
          refine goes_ Try.func66 (by kernel_rfl) rfl #[.agg #[.int .i64 a0_0, .int .i64 a0_1, .int .i64 a0_2, .int .i64 a0_3, .int .i64 a0_4, .int .i64 a0_5]] (by rfl) rfl rfl s2_5 ?_
          with_reducible refine (spec_l8Way.calls a0_0 a0_1 a0_2 a0_3 a0_4 a0_5 t126 t127 _ A4.out).mono ?_
          rintro e w5 ⟨rfl, hb⟩
          refine ⟨_, rfl, ?_⟩
          have n0_ := Aside0.mk (bb (zk BK122.out) hb)
          have n1_ := Aside0.mk (bb (zk BK123.out) hb)
          have n2_ := Aside0.mk (below_step s2_0 hb)
          clear BK122 BK123 HB
          have BK122 := n0_
          have BK123 := n1_
          have HB := n2_
          clear n0_ n1_ n2_
          (try clear hb)
          (try clear hb2)
          (try clear hk)
          (try clear hi)
          refine hK.out _ _ ⟨bc BK122.out 0, bc BK122.out 1, bc BK122.out 2, bc BK122.out 3, bc BK122.out 4, bc BK122.out 5, bc BK123.out 0, bc BK123.out 1, bc BK123.out 2, bc BK123.out 3, bc BK123.out 4, bc BK123.out 5⟩ (fun hHeld => ?_)
          clear hK K
          refine norm_ (a' := ?_) ?_ ?_
          rotate_left
          ·show Act.put _ (some 11) _ = _
           simp only [Act.put, y1, y2, y3, i64_w, i32_w]
           rfl
          exact norm_ s2_4 (hJ2_4 () _ ⟨hHeld, (zk BK122.out), (zk BK123.out), s2_0⟩)
         ·skip
          refine box_step ?hg (N := 5) ?hd (cs := #[.int .i64 0, .int .i64 0]) (t := 83) ?hr ?_; (case hd => rfl); (case hg => rfl); (case hr => first | (go_simp; done) | (go_simp; rfl))
          intro gb128 hg w5 hbox hb
          have n0_ := Aside0.mk (bb (zk BK122.out) hb)
          have n1_ := Aside0.mk (bb (zk BK123.out) hb)
          have n2_ := Aside0.mk (below_step s2_0 hb)
          have n3_ := Aside0.mk (hbox)
          have n4_ := Aside0.mk (ns hg s2_0 : w.heap.size ≤ gb128)
          have n5_ := Aside0.mk (ns hg s2_0 : w.heap.size ≤ gb128)
          have n6_ := Aside0.mk ((nlt hg (zk BK122.out) : gb122 ≠ gb128))
          have n7_ := Aside0.mk ((ngt hg (zk BK122.out) : gb128 ≠ gb122))
          have n8_ := Aside0.mk ((nlt hg (zk BK123.out) : gb123 ≠ gb128))
          have n9_ := Aside0.mk ((ngt hg (zk BK123.out) : gb128 ≠ gb123))
          clear BK122 BK123 HB
          have BK122 := n0_
          have BK123 := n1_
          have HB := n2_
          have BK128 := n3_
          have GW128 := n4_
          have GE128 := n5_
          have NB122_128 := n6_
          have NB128_122 := n7_
          have NB123_128 := n8_
          have NB128_123 := n9_
          clear n0_ n1_ n2_ n3_ n4_ n5_ n6_ n7_ n8_ n9_ hb hbox hg
          refine hK.out _ _ ⟨bc BK122.out 0, bc BK122.out 1, bc BK122.out 2, bc BK122.out 3, bc BK122.out 4, bc BK122.out 5, bc BK123.out 0, bc BK123.out 1, bc BK123.out 2, bc BK123.out 3, bc BK123.out 4, bc BK123.out 5⟩ (fun hHeld => ?_)
          clear hK K
          refine norm_ (a' := ?_) ?_ ?_
          rotate_left
          ·show Act.put _ (some 5) _ = _
           simp only [Act.put, y1, y2, y3, i64_w, i32_w]
           rfl
          exact norm_ s2_4 (hJ2_5 (gb128) _ ⟨hHeld, (zk BK122.out), (zk BK123.out), (zk BK128.out), GW128.out, GE128.out, NB122_128.out, NB128_122.out, NB123_128.out, NB128_123.out, s2_1⟩)
         ·skip
          refine box_step ?hg (N := 6) ?hd (cs := #[.int .i64 0, .int .i64 0]) (t := 83) ?hr ?_; (case hd => rfl); (case hg => rfl); (case hr => first | (go_simp; done) | (go_simp; rfl))
          intro gb129 hg w5 hbox hb
          have n0_ := Aside0.mk (bb (zk BK122.out) hb)
          have n1_ := Aside0.mk (bb (zk BK123.out) hb)
          have n2_ := Aside0.mk (below_step s2_0 hb)
          have n3_ := Aside0.mk (hbox)
          have n4_ := Aside0.mk (ns hg s2_0 : w.heap.size ≤ gb129)
          have n5_ := Aside0.mk (ns hg s2_0 : w.heap.size ≤ gb129)
          have n6_ := Aside0.mk ((nlt hg (zk BK122.out) : gb122 ≠ gb129))
          have n7_ := Aside0.mk ((ngt hg (zk BK122.out) : gb129 ≠ gb122))
          have n8_ := Aside0.mk ((nlt hg (zk BK123.out) : gb123 ≠ gb129))
          have n9_ := Aside0.mk ((ngt hg (zk BK123.out) : gb129 ≠ gb123))
          clear BK122 BK123 HB
          have BK122 := n0_
          have BK123 := n1_
          have HB := n2_
          have BK129 := n3_
          have GW129 := n4_
          have GE129 := n5_
          have NB122_129 := n6_
          have NB129_122 := n7_
          have NB123_129 := n8_
          have NB129_123 := n9_
          clear n0_ n1_ n2_ n3_ n4_ n5_ n6_ n7_ n8_ n9_ hb hbox hg
          refine hK.out _ _ ⟨bc BK122.out 0, bc BK122.out 1, bc BK122.out 2, bc BK122.out 3, bc BK122.out 4, bc BK122.out 5, bc BK123.out 0, bc BK123.out 1, bc BK123.out 2, bc BK123.out 3, bc BK123.out 4, bc BK123.out 5⟩ (fun hHeld => ?_)
          clear hK K
          refine norm_ (a' := ?_) ?_ ?_
          rotate_left
          ·show Act.put _ (some 6) _ = _
           simp only [Act.put, y1, y2, y3, i64_w, i32_w]
           rfl
          exact norm_ s2_4 (hJ2_6 (gb129) _ ⟨hHeld, (zk BK122.out), (zk BK123.out), (zk BK129.out), GW129.out, GE129.out, NB122_129.out, NB129_122.out, NB123_129.out, NB129_123.out, s2_2⟩)
       ·skip
        rintro ⟨gb128, gb129⟩ w4 ⟨hS_, h0_, h1_, h2_, h3_, h4_, h5_, h6_, h7_, h8_, h9_, h10_, h11_, h12_, h13_, h14_, h15_, h16_, h17_, h18_⟩
        have n0_ : Aside0 (w4.heap[gb122]? = some (.cells #[.int .i64 a0_0, .int .i64 a0_1, .int .i64 a0_2, .int .i64 a0_3, .int .i64 a0_4, .int .i64 a0_5] 25 (0, 0))) := ⟨h0_⟩
        have n1_ : Aside0 (w4.heap[gb123]? = some (.cells #[.int .i64 a1_0, .int .i64 a1_1, .int .i64 a1_2, .int .i64 a1_3, .int .i64 a1_4, .int .i64 a1_5] 25 (0, 0))) := ⟨h1_⟩
        have n2_ : Aside0 (w4.heap[gb128]? = some (.cells #[.int .i64 0, .int .i64 0] 83 (0, 0))) := ⟨h2_⟩
        have n3_ : Aside0 (w4.heap[gb129]? = some (.cells #[.int .i64 0, .int .i64 0] 83 (0, 0))) := ⟨h3_⟩
        have n4_ : Aside0 (w.heap.size ≤ gb128) := ⟨h4_⟩
        have n5_ : Aside0 (w.heap.size ≤ gb128) := ⟨h5_⟩
        have n6_ : Aside0 (gb122 ≠ gb128) := ⟨h6_⟩
        have n7_ : Aside0 (gb128 ≠ gb122) := ⟨h7_⟩
        have n8_ : Aside0 (gb123 ≠ gb128) := ⟨h8_⟩
        have n9_ : Aside0 (gb128 ≠ gb123) := ⟨h9_⟩
        have n10_ : Aside0 (gb129 ≠ gb128) := ⟨h10_⟩
        have n11_ : Aside0 (gb128 ≠ gb129) := ⟨h11_⟩
        have n12_ : Aside0 (w.heap.size ≤ gb129) := ⟨h12_⟩
        have n13_ : Aside0 (w.heap.size ≤ gb129) := ⟨h13_⟩
        have n14_ : Aside0 (gb122 ≠ gb129) := ⟨h14_⟩
        have n15_ : Aside0 (gb129 ≠ gb122) := ⟨h15_⟩
        have n16_ : Aside0 (gb123 ≠ gb129) := ⟨h16_⟩
        have n17_ : Aside0 (gb129 ≠ gb123) := ⟨h17_⟩
        have n18_ : Aside0 (Below w.heap.size w w4) := ⟨h18_⟩
        clear BK122 BK123 HB h0_ h1_ h2_ h3_ h4_ h5_ h6_ h7_ h8_ h9_ h10_ h11_ h12_ h13_ h14_ h15_ h16_ h17_ h18_
        have BK122 := n0_
        have BK123 := n1_
        have BK128 := n2_
        have BK129 := n3_
        have GW128 := n4_
        have GE128 := n5_
        have NB122_128 := n6_
        have NB128_122 := n7_
        have NB123_128 := n8_
        have NB128_123 := n9_
        have NB129_128 := n10_
        have NB128_129 := n11_
        have GW129 := n12_
        have GE129 := n13_
        have NB122_129 := n14_
        have NB129_122 := n15_
        have NB123_129 := n16_
        have NB129_123 := n17_
        have HB := n18_
        clear n0_ n1_ n2_ n3_ n4_ n5_ n6_ n7_ n8_ n9_ n10_ n11_ n12_ n13_ n14_ n15_ n16_ n17_ n18_
        have hHeld : w4.cell? ⟨gb122, 0, none⟩ = some (.int .i64 a0_0) ∧ w4.cell? ⟨gb122, 1, none⟩ = some (.int .i64 a0_1) ∧ w4.cell? ⟨gb122, 2, none⟩ = some (.int .i64 a0_2) ∧ w4.cell? ⟨gb122, 3, none⟩ = some (.int .i64 a0_3) ∧ w4.cell? ⟨gb122, 4, none⟩ = some (.int .i64 a0_4) ∧ w4.cell? ⟨gb122, 5, none⟩ = some (.int .i64 a0_5) ∧ w4.cell? ⟨gb123, 0, none⟩ = some (.int .i64 a1_0) ∧ w4.cell? ⟨gb123, 1, none⟩ = some (.int .i64 a1_1) ∧ w4.cell? ⟨gb123, 2, none⟩ = some (.int .i64 a1_2) ∧ w4.cell? ⟨gb123, 3, none⟩ = some (.int .i64 a1_3) ∧ w4.cell? ⟨gb123, 4, none⟩ = some (.int .i64 a1_4) ∧ w4.cell? ⟨gb123, 5, none⟩ = some (.int .i64 a1_5) := hS_
        refine norm_ (a' := ?_) ?_ ?_
        rotate_left
        ·simp only [putAll, Act.put, y1, y2, y3]
         rfl
        refine one_ (i := 2) (N := some 9) (bz 9 111) rfl rfl (one_of HT_.out (by kernel_rfl)) (by decide) (fun K hK => ?_)
        refine goes_ Try.func65 (by kernel_rfl) rfl #[.agg #[.int .i64 a0_0, .int .i64 a0_1, .int .i64 a0_2, .int .i64 a0_3, .int .i64 a0_4, .int .i64 a0_5], .agg #[.int .i64 a1_0, .int .i64 a1_1, .int .i64 a1_2, .int .i64 a1_3, .int .i64 a1_4, .int .i64 a1_5]] (by rfl) rfl rfl s2_5 ?_
        with_reducible refine (spec_l8Bearing.calls a0_0 a0_1 a0_2 a0_3 a0_4 a0_5 a1_0 a1_1 a1_2 a1_3 a1_4 a1_5 t124 t125 _ A3.out).mono ?_
        rintro e w5 ⟨rfl, hb⟩
        refine ⟨_, rfl, ?_⟩
        have n0_ := Aside0.mk (bb (zk BK122.out) hb)
        have n1_ := Aside0.mk (bb (zk BK123.out) hb)
        have n2_ := Aside0.mk (bb (zk BK128.out) hb)
        have n3_ := Aside0.mk (bb (zk BK129.out) hb)
        have n4_ := Aside0.mk (below_step s2_3 hb)
        clear BK122 BK123 BK128 BK129 HB
        have BK122 := n0_
        have BK123 := n1_
        have BK128 := n2_
        have BK129 := n3_
        have HB := n4_
        clear n0_ n1_ n2_ n3_ n4_
        (try clear hb)
        (try clear hb2)
        (try clear hk)
        (try clear hi)
        refine hK.out _ _ ⟨bc BK122.out 0, bc BK122.out 1, bc BK122.out 2, bc BK122.out 3, bc BK122.out 4, bc BK122.out 5, bc BK123.out 0, bc BK123.out 1, bc BK123.out 2, bc BK123.out 3, bc BK123.out 4, bc BK123.out 5⟩ (fun hHeld => ?_)
        clear hK K
        refine norm_ (a' := ?_) ?_ ?_
        rotate_left
        ·show Act.put _ (some 9) _ = _
         simp only [Act.put, y1, y2, y3, i64_w, i32_w]
         rfl
        exact norm_ s2_4 (hJ2_5_6 (gb128, gb129) _ ⟨hHeld, (zk BK122.out), (zk BK123.out), (zk BK128.out), (zk BK129.out), GW128.out, GE128.out, NB122_128.out, NB128_122.out, NB123_128.out, NB128_123.out, NB129_128.out, NB128_129.out, GW129.out, GE129.out, NB122_129.out, NB129_122.out, NB123_129.out, NB129_123.out, s2_3⟩)
      ·skip
       rintro gb129 w4 ⟨hS_, h0_, h1_, h2_, h3_, h4_, h5_, h6_, h7_, h8_, h9_⟩
       have n0_ : Aside0 (w4.heap[gb122]? = some (.cells #[.int .i64 a0_0, .int .i64 a0_1, .int .i64 a0_2, .int .i64 a0_3, .int .i64 a0_4, .int .i64 a0_5] 25 (0, 0))) := ⟨h0_⟩
       have n1_ : Aside0 (w4.heap[gb123]? = some (.cells #[.int .i64 a1_0, .int .i64 a1_1, .int .i64 a1_2, .int .i64 a1_3, .int .i64 a1_4, .int .i64 a1_5] 25 (0, 0))) := ⟨h1_⟩
       have n2_ : Aside0 (w4.heap[gb129]? = some (.cells #[.int .i64 0, .int .i64 0] 83 (0, 0))) := ⟨h2_⟩
       have n3_ : Aside0 (w.heap.size ≤ gb129) := ⟨h3_⟩
       have n4_ : Aside0 (w.heap.size ≤ gb129) := ⟨h4_⟩
       have n5_ : Aside0 (gb122 ≠ gb129) := ⟨h5_⟩
       have n6_ : Aside0 (gb129 ≠ gb122) := ⟨h6_⟩
       have n7_ : Aside0 (gb123 ≠ gb129) := ⟨h7_⟩
       have n8_ : Aside0 (gb129 ≠ gb123) := ⟨h8_⟩
       have n9_ : Aside0 (Below w.heap.size w w4) := ⟨h9_⟩
       clear BK122 BK123 HB h0_ h1_ h2_ h3_ h4_ h5_ h6_ h7_ h8_ h9_
       have BK122 := n0_
       have BK123 := n1_
       have BK129 := n2_
       have GW129 := n3_
       have GE129 := n4_
       have NB122_129 := n5_
       have NB129_122 := n6_
       have NB123_129 := n7_
       have NB129_123 := n8_
       have HB := n9_
       clear n0_ n1_ n2_ n3_ n4_ n5_ n6_ n7_ n8_ n9_
       have hHeld : w4.cell? ⟨gb122, 0, none⟩ = some (.int .i64 a0_0) ∧ w4.cell? ⟨gb122, 1, none⟩ = some (.int .i64 a0_1) ∧ w4.cell? ⟨gb122, 2, none⟩ = some (.int .i64 a0_2) ∧ w4.cell? ⟨gb122, 3, none⟩ = some (.int .i64 a0_3) ∧ w4.cell? ⟨gb122, 4, none⟩ = some (.int .i64 a0_4) ∧ w4.cell? ⟨gb122, 5, none⟩ = some (.int .i64 a0_5) ∧ w4.cell? ⟨gb123, 0, none⟩ = some (.int .i64 a1_0) ∧ w4.cell? ⟨gb123, 1, none⟩ = some (.int .i64 a1_1) ∧ w4.cell? ⟨gb123, 2, none⟩ = some (.int .i64 a1_2) ∧ w4.cell? ⟨gb123, 3, none⟩ = some (.int .i64 a1_3) ∧ w4.cell? ⟨gb123, 4, none⟩ = some (.int .i64 a1_4) ∧ w4.cell? ⟨gb123, 5, none⟩ = some (.int .i64 a1_5) := hS_
       refine norm_ (a' := ?_) ?_ ?_
       rotate_left
       ·simp only [putAll, Act.put, y1, y2, y3]
        rfl
       refine two_ (i := 4) (j := 5) (Ni := some 11) (Nj := some 5) (bz 9 95) (bz 9 111) rfl rfl rfl rfl (two_of HT_.out (by kernel_rfl)) (by decide) (by decide) (fun K hK => ?_) (fun K hK => ?_)
       ·skip
        refine goes_ Try.func66 (by kernel_rfl) rfl #[.agg #[.int .i64 a0_0, .int .i64 a0_1, .int .i64 a0_2, .int .i64 a0_3, .int .i64 a0_4, .int .i64 a0_5]] (by rfl) rfl rfl s2_5 ?_
        with_reducible refine (spec_l8Way.calls a0_0 a0_1 a0_2 a0_3 a0_4 a0_5 t126 t127 _ A4.out).mono ?_
        rintro e w5 ⟨rfl, hb⟩
        refine ⟨_, rfl, ?_⟩
        have n0_ := Aside0.mk (bb (zk BK122.out) hb)
        have n1_ := Aside0.mk (bb (zk BK123.out) hb)
        have n2_ := Aside0.mk (bb (zk BK129.out) hb)
        have n3_ := Aside0.mk (below_step s2_2 hb)
        clear BK122 BK123 BK129 HB
        have BK122 := n0_
        have BK123 := n1_
        have BK129 := n2_
        have HB := n3_
        clear n0_ n1_ n2_ n3_
        (try clear hb)
        (try clear hb2)
        (try clear hk)
        (try clear hi)
        refine hK.out _ _ ⟨bc BK122.out 0, bc BK122.out 1, bc BK122.out 2, bc BK122.out 3, bc BK122.out 4, bc BK122.out 5, bc BK123.out 0, bc BK123.out 1, bc BK123.out 2, bc BK123.out 3, bc BK123.out 4, bc BK123.out 5⟩ (fun hHeld => ?_)
        clear hK K
        refine norm_ (a' := ?_) ?_ ?_
        rotate_left
        ·show Act.put _ (some 11) _ = _
         simp only [Act.put, y1, y2, y3, i64_w, i32_w]
         rfl
        exact norm_ s2_4 (hJ2_4_6 (gb129) _ ⟨hHeld, (zk BK122.out), (zk BK123.out), (zk BK129.out), GW129.out, GE129.out, NB122_129.out, NB129_122.out, NB123_129.out, NB129_123.out, s2_2⟩)
       ·skip
        refine box_step ?hg (N := 5) ?hd (cs := #[.int .i64 0, .int .i64 0]) (t := 83) ?hr ?_; (case hd => rfl); (case hg => rfl); (case hr => first | (go_simp; done) | (go_simp; rfl))
        intro gb128 hg w5 hbox hb
        have n0_ := Aside0.mk (bb (zk BK122.out) hb)
        have n1_ := Aside0.mk (bb (zk BK123.out) hb)
        have n2_ := Aside0.mk (bb (zk BK129.out) hb)
        have n3_ := Aside0.mk (below_step s2_2 hb)
        have n4_ := Aside0.mk (hbox)
        have n5_ := Aside0.mk (ns hg s2_2 : w.heap.size ≤ gb128)
        have n6_ := Aside0.mk (ns hg s2_2 : w.heap.size ≤ gb128)
        have n7_ := Aside0.mk ((nlt hg (zk BK122.out) : gb122 ≠ gb128))
        have n8_ := Aside0.mk ((ngt hg (zk BK122.out) : gb128 ≠ gb122))
        have n9_ := Aside0.mk ((nlt hg (zk BK123.out) : gb123 ≠ gb128))
        have n10_ := Aside0.mk ((ngt hg (zk BK123.out) : gb128 ≠ gb123))
        have n11_ := Aside0.mk ((nlt hg (zk BK129.out) : gb129 ≠ gb128))
        have n12_ := Aside0.mk ((ngt hg (zk BK129.out) : gb128 ≠ gb129))
        clear BK122 BK123 BK129 HB
        have BK122 := n0_
        have BK123 := n1_
        have BK129 := n2_
        have HB := n3_
        have BK128 := n4_
        have GW128 := n5_
        have GE128 := n6_
        have NB122_128 := n7_
        have NB128_122 := n8_
        have NB123_128 := n9_
        have NB128_123 := n10_
        have NB129_128 := n11_
        have NB128_129 := n12_
        clear n0_ n1_ n2_ n3_ n4_ n5_ n6_ n7_ n8_ n9_ n10_ n11_ n12_ hb hbox hg
        refine hK.out _ _ ⟨bc BK122.out 0, bc BK122.out 1, bc BK122.out 2, bc BK122.out 3, bc BK122.out 4, bc BK122.out 5, bc BK123.out 0, bc BK123.out 1, bc BK123.out 2, bc BK123.out 3, bc BK123.out 4, bc BK123.out 5⟩ (fun hHeld => ?_)
        clear hK K
        refine norm_ (a' := ?_) ?_ ?_
        rotate_left
        ·show Act.put _ (some 5) _ = _
         simp only [Act.put, y1, y2, y3, i64_w, i32_w]
         rfl
        exact norm_ s2_4 (hJ2_5_6 (gb128, gb129) _ ⟨hHeld, (zk BK122.out), (zk BK123.out), (zk BK128.out), (zk BK129.out), GW128.out, GE128.out, NB122_128.out, NB128_122.out, NB123_128.out, NB128_123.out, NB129_128.out, NB128_129.out, GW129.out, GE129.out, NB122_129.out, NB129_122.out, NB123_129.out, NB129_123.out, s2_6⟩)
     ·skip
      rintro gb128 w4 ⟨hS_, h0_, h1_, h2_, h3_, h4_, h5_, h6_, h7_, h8_, h9_⟩
      have n0_ : Aside0 (w4.heap[gb122]? = some (.cells #[.int .i64 a0_0, .int .i64 a0_1, .int .i64 a0_2, .int .i64 a0_3, .int .i64 a0_4, .int .i64 a0_5] 25 (0, 0))) := ⟨h0_⟩
      have n1_ : Aside0 (w4.heap[gb123]? = some (.cells #[.int .i64 a1_0, .int .i64 a1_1, .int .i64 a1_2, .int .i64 a1_3, .int .i64 a1_4, .int .i64 a1_5] 25 (0, 0))) := ⟨h1_⟩
      have n2_ : Aside0 (w4.heap[gb128]? = some (.cells #[.int .i64 0, .int .i64 0] 83 (0, 0))) := ⟨h2_⟩
      have n3_ : Aside0 (w.heap.size ≤ gb128) := ⟨h3_⟩
      have n4_ : Aside0 (w.heap.size ≤ gb128) := ⟨h4_⟩
      have n5_ : Aside0 (gb122 ≠ gb128) := ⟨h5_⟩
      have n6_ : Aside0 (gb128 ≠ gb122) := ⟨h6_⟩
      have n7_ : Aside0 (gb123 ≠ gb128) := ⟨h7_⟩
      have n8_ : Aside0 (gb128 ≠ gb123) := ⟨h8_⟩
      have n9_ : Aside0 (Below w.heap.size w w4) := ⟨h9_⟩
      clear BK122 BK123 HB h0_ h1_ h2_ h3_ h4_ h5_ h6_ h7_ h8_ h9_
      have BK122 := n0_
      have BK123 := n1_
      have BK128 := n2_
      have GW128 := n3_
      have GE128 := n4_
      have NB122_128 := n5_
      have NB128_122 := n6_
      have NB123_128 := n7_
      have NB128_123 := n8_
      have HB := n9_
      clear n0_ n1_ n2_ n3_ n4_ n5_ n6_ n7_ n8_ n9_
      have hHeld : w4.cell? ⟨gb122, 0, none⟩ = some (.int .i64 a0_0) ∧ w4.cell? ⟨gb122, 1, none⟩ = some (.int .i64 a0_1) ∧ w4.cell? ⟨gb122, 2, none⟩ = some (.int .i64 a0_2) ∧ w4.cell? ⟨gb122, 3, none⟩ = some (.int .i64 a0_3) ∧ w4.cell? ⟨gb122, 4, none⟩ = some (.int .i64 a0_4) ∧ w4.cell? ⟨gb122, 5, none⟩ = some (.int .i64 a0_5) ∧ w4.cell? ⟨gb123, 0, none⟩ = some (.int .i64 a1_0) ∧ w4.cell? ⟨gb123, 1, none⟩ = some (.int .i64 a1_1) ∧ w4.cell? ⟨gb123, 2, none⟩ = some (.int .i64 a1_2) ∧ w4.cell? ⟨gb123, 3, none⟩ = some (.int .i64 a1_3) ∧ w4.cell? ⟨gb123, 4, none⟩ = some (.int .i64 a1_4) ∧ w4.cell? ⟨gb123, 5, none⟩ = some (.int .i64 a1_5) := hS_
      refine norm_ (a' := ?_) ?_ ?_
      rotate_left
      ·simp only [putAll, Act.put, y1, y2, y3]
       rfl
      refine two_ (i := 4) (j := 6) (Ni := some 11) (Nj := some 6) (bz 9 63) (bz 9 111) rfl rfl rfl rfl (two_of HT_.out (by kernel_rfl)) (by decide) (by decide) (fun K hK => ?_) (fun K hK => ?_)
      ·skip
       refine goes_ Try.func66 (by kernel_rfl) rfl #[.agg #[.int .i64 a0_0, .int .i64 a0_1, .int .i64 a0_2, .int .i64 a0_3, .int .i64 a0_4, .int .i64 a0_5]] (by rfl) rfl rfl s2_5 ?_
       with_reducible refine (spec_l8Way.calls a0_0 a0_1 a0_2 a0_3 a0_4 a0_5 t126 t127 _ A4.out).mono ?_
       rintro e w5 ⟨rfl, hb⟩
       refine ⟨_, rfl, ?_⟩
       have n0_ := Aside0.mk (bb (zk BK122.out) hb)
       have n1_ := Aside0.mk (bb (zk BK123.out) hb)
       have n2_ := Aside0.mk (bb (zk BK128.out) hb)
       have n3_ := Aside0.mk (below_step s2_1 hb)
       clear BK122 BK123 BK128 HB
       have BK122 := n0_
       have BK123 := n1_
       have BK128 := n2_
       have HB := n3_
       clear n0_ n1_ n2_ n3_
       (try clear hb)
       (try clear hb2)
       (try clear hk)
       (try clear hi)
       refine hK.out _ _ ⟨bc BK122.out 0, bc BK122.out 1, bc BK122.out 2, bc BK122.out 3, bc BK122.out 4, bc BK122.out 5, bc BK123.out 0, bc BK123.out 1, bc BK123.out 2, bc BK123.out 3, bc BK123.out 4, bc BK123.out 5⟩ (fun hHeld => ?_)
       clear hK K
       refine norm_ (a' := ?_) ?_ ?_
       rotate_left
       ·show Act.put _ (some 11) _ = _
        simp only [Act.put, y1, y2, y3, i64_w, i32_w]
        rfl
       exact norm_ s2_4 (hJ2_4_5 (gb128) _ ⟨hHeld, (zk BK122.out), (zk BK123.out), (zk BK128.out), GW128.out, GE128.out, NB122_128.out, NB128_122.out, NB123_128.out, NB128_123.out, s2_1⟩)
      ·skip
       refine box_step ?hg (N := 6) ?hd (cs := #[.int .i64 0, .int .i64 0]) (t := 83) ?hr ?_; (case hd => rfl); (case hg => rfl); (case hr => first | (go_simp; done) | (go_simp; rfl))
       intro gb129 hg w5 hbox hb
       have n0_ := Aside0.mk (bb (zk BK122.out) hb)
       have n1_ := Aside0.mk (bb (zk BK123.out) hb)
       have n2_ := Aside0.mk (bb (zk BK128.out) hb)
       have n3_ := Aside0.mk (below_step s2_1 hb)
       have n4_ := Aside0.mk (hbox)
       have n5_ := Aside0.mk (ns hg s2_1 : w.heap.size ≤ gb129)
       have n6_ := Aside0.mk (ns hg s2_1 : w.heap.size ≤ gb129)
       have n7_ := Aside0.mk ((nlt hg (zk BK122.out) : gb122 ≠ gb129))
       have n8_ := Aside0.mk ((ngt hg (zk BK122.out) : gb129 ≠ gb122))
       have n9_ := Aside0.mk ((nlt hg (zk BK123.out) : gb123 ≠ gb129))
       have n10_ := Aside0.mk ((ngt hg (zk BK123.out) : gb129 ≠ gb123))
       have n11_ := Aside0.mk ((nlt hg (zk BK128.out) : gb128 ≠ gb129))
       have n12_ := Aside0.mk ((ngt hg (zk BK128.out) : gb129 ≠ gb128))
       clear BK122 BK123 BK128 HB
       have BK122 := n0_
       have BK123 := n1_
       have BK128 := n2_
       have HB := n3_
       have BK129 := n4_
       have GW129 := n5_
       have GE129 := n6_
       have NB122_129 := n7_
       have NB129_122 := n8_
       have NB123_129 := n9_
       have NB129_123 := n10_
       have NB128_129 := n11_
       have NB129_128 := n12_
       clear n0_ n1_ n2_ n3_ n4_ n5_ n6_ n7_ n8_ n9_ n10_ n11_ n12_ hb hbox hg
       refine hK.out _ _ ⟨bc BK122.out 0, bc BK122.out 1, bc BK122.out 2, bc BK122.out 3, bc BK122.out 4, bc BK122.out 5, bc BK123.out 0, bc BK123.out 1, bc BK123.out 2, bc BK123.out 3, bc BK123.out 4, bc BK123.out 5⟩ (fun hHeld => ?_)
       clear hK K
       refine norm_ (a' := ?_) ?_ ?_
       rotate_left
       ·show Act.put _ (some 6) _ = _
        simp only [Act.put, y1, y2, y3, i64_w, i32_w]
        rfl
       exact norm_ s2_4 (hJ2_5_6 (gb128, gb129) _ ⟨hHeld, (zk BK122.out), (zk BK123.out), (zk BK128.out), (zk BK129.out), GW128.out, GE128.out, NB122_128.out, NB128_122.out, NB123_128.out, NB128_123.out, NB129_128.out, NB128_129.out, GW129.out, GE129.out, NB122_129.out, NB129_122.out, NB123_129.out, NB129_123.out, s2_3⟩)
    ·skip
     rintro _ w4 ⟨hS_, h0_, h1_, h2_⟩
     have n0_ : Aside0 (w4.heap[gb122]? = some (.cells #[.int .i64 a0_0, .int .i64 a0_1, .int .i64 a0_2, .int .i64 a0_3, .int .i64 a0_4, .int .i64 a0_5] 25 (0, 0))) := ⟨h0_⟩
     have n1_ : Aside0 (w4.heap[gb123]? = some (.cells #[.int .i64 a1_0, .int .i64 a1_1, .int .i64 a1_2, .int .i64 a1_3, .int .i64 a1_4, .int .i64 a1_5] 25 (0, 0))) := ⟨h1_⟩
     have n2_ : Aside0 (Below w.heap.size w w4) := ⟨h2_⟩
     clear BK122 BK123 HB h0_ h1_ h2_
     have BK122 := n0_
     have BK123 := n1_
     have HB := n2_
     clear n0_ n1_ n2_
     have hHeld : w4.cell? ⟨gb122, 0, none⟩ = some (.int .i64 a0_0) ∧ w4.cell? ⟨gb122, 1, none⟩ = some (.int .i64 a0_1) ∧ w4.cell? ⟨gb122, 2, none⟩ = some (.int .i64 a0_2) ∧ w4.cell? ⟨gb122, 3, none⟩ = some (.int .i64 a0_3) ∧ w4.cell? ⟨gb122, 4, none⟩ = some (.int .i64 a0_4) ∧ w4.cell? ⟨gb122, 5, none⟩ = some (.int .i64 a0_5) ∧ w4.cell? ⟨gb123, 0, none⟩ = some (.int .i64 a1_0) ∧ w4.cell? ⟨gb123, 1, none⟩ = some (.int .i64 a1_1) ∧ w4.cell? ⟨gb123, 2, none⟩ = some (.int .i64 a1_2) ∧ w4.cell? ⟨gb123, 3, none⟩ = some (.int .i64 a1_3) ∧ w4.cell? ⟨gb123, 4, none⟩ = some (.int .i64 a1_4) ∧ w4.cell? ⟨gb123, 5, none⟩ = some (.int .i64 a1_5) := hS_
     refine norm_ (a' := ?_) ?_ ?_
     rotate_left
     ·simp only [putAll, Act.put, y1, y2, y3]
      rfl
     refine two_ (i := 5) (j := 6) (Ni := some 5) (Nj := some 6) (bz 9 63) (bz 9 95) rfl rfl rfl rfl (two_of HT_.out (by kernel_rfl)) (by decide) (by decide) (fun K hK => ?_) (fun K hK => ?_)
     ·skip
      refine box_step ?hg (N := 5) ?hd (cs := #[.int .i64 0, .int .i64 0]) (t := 83) ?hr ?_; (case hd => rfl); (case hg => rfl); (case hr => first | (go_simp; done) | (go_simp; rfl))
      intro gb128 hg w5 hbox hb
      have n0_ := Aside0.mk (bb (zk BK122.out) hb)
      have n1_ := Aside0.mk (bb (zk BK123.out) hb)
      have n2_ := Aside0.mk (below_step s2_0 hb)
      have n3_ := Aside0.mk (hbox)
      have n4_ := Aside0.mk (ns hg s2_0 : w.heap.size ≤ gb128)
      have n5_ := Aside0.mk (ns hg s2_0 : w.heap.size ≤ gb128)
      have n6_ := Aside0.mk ((nlt hg (zk BK122.out) : gb122 ≠ gb128))
      have n7_ := Aside0.mk ((ngt hg (zk BK122.out) : gb128 ≠ gb122))
      have n8_ := Aside0.mk ((nlt hg (zk BK123.out) : gb123 ≠ gb128))
      have n9_ := Aside0.mk ((ngt hg (zk BK123.out) : gb128 ≠ gb123))
      clear BK122 BK123 HB
      have BK122 := n0_
      have BK123 := n1_
      have HB := n2_
      have BK128 := n3_
      have GW128 := n4_
      have GE128 := n5_
      have NB122_128 := n6_
      have NB128_122 := n7_
      have NB123_128 := n8_
      have NB128_123 := n9_
      clear n0_ n1_ n2_ n3_ n4_ n5_ n6_ n7_ n8_ n9_ hb hbox hg
      refine hK.out _ _ ⟨bc BK122.out 0, bc BK122.out 1, bc BK122.out 2, bc BK122.out 3, bc BK122.out 4, bc BK122.out 5, bc BK123.out 0, bc BK123.out 1, bc BK123.out 2, bc BK123.out 3, bc BK123.out 4, bc BK123.out 5⟩ (fun hHeld => ?_)
      clear hK K
      refine norm_ (a' := ?_) ?_ ?_
      rotate_left
      ·show Act.put _ (some 5) _ = _
       simp only [Act.put, y1, y2, y3, i64_w, i32_w]
       rfl
      exact norm_ s2_4 (hJ2_4_5 (gb128) _ ⟨hHeld, (zk BK122.out), (zk BK123.out), (zk BK128.out), GW128.out, GE128.out, NB122_128.out, NB128_122.out, NB123_128.out, NB128_123.out, s2_1⟩)
     ·skip
      refine box_step ?hg (N := 6) ?hd (cs := #[.int .i64 0, .int .i64 0]) (t := 83) ?hr ?_; (case hd => rfl); (case hg => rfl); (case hr => first | (go_simp; done) | (go_simp; rfl))
      intro gb129 hg w5 hbox hb
      have n0_ := Aside0.mk (bb (zk BK122.out) hb)
      have n1_ := Aside0.mk (bb (zk BK123.out) hb)
      have n2_ := Aside0.mk (below_step s2_0 hb)
      have n3_ := Aside0.mk (hbox)
      have n4_ := Aside0.mk (ns hg s2_0 : w.heap.size ≤ gb129)
      have n5_ := Aside0.mk (ns hg s2_0 : w.heap.size ≤ gb129)
      have n6_ := Aside0.mk ((nlt hg (zk BK122.out) : gb122 ≠ gb129))
      have n7_ := Aside0.mk ((ngt hg (zk BK122.out) : gb129 ≠ gb122))
      have n8_ := Aside0.mk ((nlt hg (zk BK123.out) : gb123 ≠ gb129))
      have n9_ := Aside0.mk ((ngt hg (zk BK123.out) : gb129 ≠ gb123))
      clear BK122 BK123 HB
      have BK122 := n0_
      have BK123 := n1_
      have HB := n2_
      have BK129 := n3_
      have GW129 := n4_
      have GE129 := n5_
      have NB122_129 := n6_
      have NB129_122 := n7_
      have NB123_129 := n8_
      have NB129_123 := n9_
      clear n0_ n1_ n2_ n3_ n4_ n5_ n6_ n7_ n8_ n9_ hb hbox hg
      refine hK.out _ _ ⟨bc BK122.out 0, bc BK122.out 1, bc BK122.out 2, bc BK122.out 3, bc BK122.out 4, bc BK122.out 5, bc BK123.out 0, bc BK123.out 1, bc BK123.out 2, bc BK123.out 3, bc BK123.out 4, bc BK123.out 5⟩ (fun hHeld => ?_)
      clear hK K
      refine norm_ (a' := ?_) ?_ ?_
      rotate_left
      ·show Act.put _ (some 6) _ = _
       simp only [Act.put, y1, y2, y3, i64_w, i32_w]
       rfl
      exact norm_ s2_4 (hJ2_4_6 (gb129) _ ⟨hHeld, (zk BK122.out), (zk BK123.out), (zk BK129.out), GW129.out, GE129.out, NB122_129.out, NB129_122.out, NB123_129.out, NB129_123.out, s2_2⟩)
   ·skip
    rintro ⟨gb128, gb129⟩ w4 ⟨hS_, h0_, h1_, h2_, h3_, h4_, h5_, h6_, h7_, h8_, h9_, h10_, h11_, h12_, h13_, h14_, h15_, h16_, h17_, h18_⟩
    have n0_ : Aside0 (w4.heap[gb122]? = some (.cells #[.int .i64 a0_0, .int .i64 a0_1, .int .i64 a0_2, .int .i64 a0_3, .int .i64 a0_4, .int .i64 a0_5] 25 (0, 0))) := ⟨h0_⟩
    have n1_ : Aside0 (w4.heap[gb123]? = some (.cells #[.int .i64 a1_0, .int .i64 a1_1, .int .i64 a1_2, .int .i64 a1_3, .int .i64 a1_4, .int .i64 a1_5] 25 (0, 0))) := ⟨h1_⟩
    have n2_ : Aside0 (w4.heap[gb128]? = some (.cells #[.int .i64 0, .int .i64 0] 83 (0, 0))) := ⟨h2_⟩
    have n3_ : Aside0 (w4.heap[gb129]? = some (.cells #[.int .i64 0, .int .i64 0] 83 (0, 0))) := ⟨h3_⟩
    have n4_ : Aside0 (w.heap.size ≤ gb128) := ⟨h4_⟩
    have n5_ : Aside0 (w.heap.size ≤ gb128) := ⟨h5_⟩
    have n6_ : Aside0 (gb122 ≠ gb128) := ⟨h6_⟩
    have n7_ : Aside0 (gb128 ≠ gb122) := ⟨h7_⟩
    have n8_ : Aside0 (gb123 ≠ gb128) := ⟨h8_⟩
    have n9_ : Aside0 (gb128 ≠ gb123) := ⟨h9_⟩
    have n10_ : Aside0 (gb129 ≠ gb128) := ⟨h10_⟩
    have n11_ : Aside0 (gb128 ≠ gb129) := ⟨h11_⟩
    have n12_ : Aside0 (w.heap.size ≤ gb129) := ⟨h12_⟩
    have n13_ : Aside0 (w.heap.size ≤ gb129) := ⟨h13_⟩
    have n14_ : Aside0 (gb122 ≠ gb129) := ⟨h14_⟩
    have n15_ : Aside0 (gb129 ≠ gb122) := ⟨h15_⟩
    have n16_ : Aside0 (gb123 ≠ gb129) := ⟨h16_⟩
    have n17_ : Aside0 (gb129 ≠ gb123) := ⟨h17_⟩
    have n18_ : Aside0 (Below w.heap.size w w4) := ⟨h18_⟩
    clear BK122 BK123 HB h0_ h1_ h2_ h3_ h4_ h5_ h6_ h7_ h8_ h9_ h10_ h11_ h12_ h13_ h14_ h15_ h16_ h17_ h18_
    have BK122 := n0_
    have BK123 := n1_
    have BK128 := n2_
    have BK129 := n3_
    have GW128 := n4_
    have GE128 := n5_
    have NB122_128 := n6_
    have NB128_122 := n7_
    have NB123_128 := n8_
    have NB128_123 := n9_
    have NB129_128 := n10_
    have NB128_129 := n11_
    have GW129 := n12_
    have GE129 := n13_
    have NB122_129 := n14_
    have NB129_122 := n15_
    have NB123_129 := n16_
    have NB129_123 := n17_
    have HB := n18_
    clear n0_ n1_ n2_ n3_ n4_ n5_ n6_ n7_ n8_ n9_ n10_ n11_ n12_ n13_ n14_ n15_ n16_ n17_ n18_
    have hHeld : w4.cell? ⟨gb122, 0, none⟩ = some (.int .i64 a0_0) ∧ w4.cell? ⟨gb122, 1, none⟩ = some (.int .i64 a0_1) ∧ w4.cell? ⟨gb122, 2, none⟩ = some (.int .i64 a0_2) ∧ w4.cell? ⟨gb122, 3, none⟩ = some (.int .i64 a0_3) ∧ w4.cell? ⟨gb122, 4, none⟩ = some (.int .i64 a0_4) ∧ w4.cell? ⟨gb122, 5, none⟩ = some (.int .i64 a0_5) ∧ w4.cell? ⟨gb123, 0, none⟩ = some (.int .i64 a1_0) ∧ w4.cell? ⟨gb123, 1, none⟩ = some (.int .i64 a1_1) ∧ w4.cell? ⟨gb123, 2, none⟩ = some (.int .i64 a1_2) ∧ w4.cell? ⟨gb123, 3, none⟩ = some (.int .i64 a1_3) ∧ w4.cell? ⟨gb123, 4, none⟩ = some (.int .i64 a1_4) ∧ w4.cell? ⟨gb123, 5, none⟩ = some (.int .i64 a1_5) := hS_
    refine norm_ (a' := ?_) ?_ ?_
    rotate_left
    ·simp only [putAll, Act.put, y1, y2, y3]
     rfl
    refine one_ (i := 4) (N := some 11) (bz 9 127) rfl rfl (one_of HT_.out (by kernel_rfl)) (by decide) (fun K hK => ?_)
    refine goes_ Try.func66 (by kernel_rfl) rfl #[.agg #[.int .i64 a0_0, .int .i64 a0_1, .int .i64 a0_2, .int .i64 a0_3, .int .i64 a0_4, .int .i64 a0_5]] (by rfl) rfl rfl s2_5 ?_
    with_reducible refine (spec_l8Way.calls a0_0 a0_1 a0_2 a0_3 a0_4 a0_5 t126 t127 _ A4.out).mono ?_
    rintro e w5 ⟨rfl, hb⟩
    refine ⟨_, rfl, ?_⟩
    have n0_ := Aside0.mk (bb (zk BK122.out) hb)
    have n1_ := Aside0.mk (bb (zk BK123.out) hb)
    have n2_ := Aside0.mk (bb (zk BK128.out) hb)
    have n3_ := Aside0.mk (bb (zk BK129.out) hb)
    have n4_ := Aside0.mk (below_step s2_3 hb)
    clear BK122 BK123 BK128 BK129 HB
    have BK122 := n0_
    have BK123 := n1_
    have BK128 := n2_
    have BK129 := n3_
    have HB := n4_
    clear n0_ n1_ n2_ n3_ n4_
    (try clear hb)
    (try clear hb2)
    (try clear hk)
    (try clear hi)
    refine hK.out _ _ ⟨bc BK122.out 0, bc BK122.out 1, bc BK122.out 2, bc BK122.out 3, bc BK122.out 4, bc BK122.out 5, bc BK123.out 0, bc BK123.out 1, bc BK123.out 2, bc BK123.out 3, bc BK123.out 4, bc BK123.out 5⟩ (fun hHeld => ?_)
    clear hK K
    refine norm_ (a' := ?_) ?_ ?_
    rotate_left
    ·show Act.put _ (some 11) _ = _
     simp only [Act.put, y1, y2, y3, i64_w, i32_w]
     rfl
    exact norm_ s2_4 (hJ2_4_5_6 (gb128, gb129) _ ⟨hHeld, (zk BK122.out), (zk BK123.out), (zk BK128.out), (zk BK129.out), GW128.out, GE128.out, NB122_128.out, NB128_122.out, NB123_128.out, NB128_123.out, NB129_128.out, NB128_129.out, GW129.out, GE129.out, NB122_129.out, NB129_122.out, NB123_129.out, NB129_123.out, s2_3⟩)
  ·skip
   rintro gb129 w4 ⟨hS_, h0_, h1_, h2_, h3_, h4_, h5_, h6_, h7_, h8_, h9_⟩
   have n0_ : Aside0 (w4.heap[gb122]? = some (.cells #[.int .i64 a0_0, .int .i64 a0_1, .int .i64 a0_2, .int .i64 a0_3, .int .i64 a0_4, .int .i64 a0_5] 25 (0, 0))) := ⟨h0_⟩
   have n1_ : Aside0 (w4.heap[gb123]? = some (.cells #[.int .i64 a1_0, .int .i64 a1_1, .int .i64 a1_2, .int .i64 a1_3, .int .i64 a1_4, .int .i64 a1_5] 25 (0, 0))) := ⟨h1_⟩
   have n2_ : Aside0 (w4.heap[gb129]? = some (.cells #[.int .i64 0, .int .i64 0] 83 (0, 0))) := ⟨h2_⟩
   have n3_ : Aside0 (w.heap.size ≤ gb129) := ⟨h3_⟩
   have n4_ : Aside0 (w.heap.size ≤ gb129) := ⟨h4_⟩
   have n5_ : Aside0 (gb122 ≠ gb129) := ⟨h5_⟩
   have n6_ : Aside0 (gb129 ≠ gb122) := ⟨h6_⟩
   have n7_ : Aside0 (gb123 ≠ gb129) := ⟨h7_⟩
   have n8_ : Aside0 (gb129 ≠ gb123) := ⟨h8_⟩
   have n9_ : Aside0 (Below w.heap.size w w4) := ⟨h9_⟩
   clear BK122 BK123 HB h0_ h1_ h2_ h3_ h4_ h5_ h6_ h7_ h8_ h9_
   have BK122 := n0_
   have BK123 := n1_
   have BK129 := n2_
   have GW129 := n3_
   have GE129 := n4_
   have NB122_129 := n5_
   have NB129_122 := n6_
   have NB123_129 := n7_
   have NB129_123 := n8_
   have HB := n9_
   clear n0_ n1_ n2_ n3_ n4_ n5_ n6_ n7_ n8_ n9_
   have hHeld : w4.cell? ⟨gb122, 0, none⟩ = some (.int .i64 a0_0) ∧ w4.cell? ⟨gb122, 1, none⟩ = some (.int .i64 a0_1) ∧ w4.cell? ⟨gb122, 2, none⟩ = some (.int .i64 a0_2) ∧ w4.cell? ⟨gb122, 3, none⟩ = some (.int .i64 a0_3) ∧ w4.cell? ⟨gb122, 4, none⟩ = some (.int .i64 a0_4) ∧ w4.cell? ⟨gb122, 5, none⟩ = some (.int .i64 a0_5) ∧ w4.cell? ⟨gb123, 0, none⟩ = some (.int .i64 a1_0) ∧ w4.cell? ⟨gb123, 1, none⟩ = some (.int .i64 a1_1) ∧ w4.cell? ⟨gb123, 2, none⟩ = some (.int .i64 a1_2) ∧ w4.cell? ⟨gb123, 3, none⟩ = some (.int .i64 a1_3) ∧ w4.cell? ⟨gb123, 4, none⟩ = some (.int .i64 a1_4) ∧ w4.cell? ⟨gb123, 5, none⟩ = some (.int .i64 a1_5) := hS_
   refine norm_ (a' := ?_) ?_ ?_
   rotate_left
   ·simp only [putAll, Act.put, y1, y2, y3]
    rfl
   refine one_ (i := 5) (N := some 5) (bz 9 127) rfl rfl (one_of HT_.out (by kernel_rfl)) (by decide) (fun K hK => ?_)
   refine box_step ?hg (N := 5) ?hd (cs := #[.int .i64 0, .int .i64 0]) (t := 83) ?hr ?_; (case hd => rfl); (case hg => rfl); (case hr => first | (go_simp; done) | (go_simp; rfl))
   intro gb128 hg w5 hbox hb
   have n0_ := Aside0.mk (bb (zk BK122.out) hb)
   have n1_ := Aside0.mk (bb (zk BK123.out) hb)
   have n2_ := Aside0.mk (bb (zk BK129.out) hb)
   have n3_ := Aside0.mk (below_step s2_2 hb)
   have n4_ := Aside0.mk (hbox)
   have n5_ := Aside0.mk (ns hg s2_2 : w.heap.size ≤ gb128)
   have n6_ := Aside0.mk (ns hg s2_2 : w.heap.size ≤ gb128)
   have n7_ := Aside0.mk ((nlt hg (zk BK122.out) : gb122 ≠ gb128))
   have n8_ := Aside0.mk ((ngt hg (zk BK122.out) : gb128 ≠ gb122))
   have n9_ := Aside0.mk ((nlt hg (zk BK123.out) : gb123 ≠ gb128))
   have n10_ := Aside0.mk ((ngt hg (zk BK123.out) : gb128 ≠ gb123))
   have n11_ := Aside0.mk ((nlt hg (zk BK129.out) : gb129 ≠ gb128))
   have n12_ := Aside0.mk ((ngt hg (zk BK129.out) : gb128 ≠ gb129))
   clear BK122 BK123 BK129 HB
   have BK122 := n0_
   have BK123 := n1_
   have BK129 := n2_
   have HB := n3_
   have BK128 := n4_
   have GW128 := n5_
   have GE128 := n6_
   have NB122_128 := n7_
   have NB128_122 := n8_
   have NB123_128 := n9_
   have NB128_123 := n10_
   have NB129_128 := n11_
   have NB128_129 := n12_
   clear n0_ n1_ n2_ n3_ n4_ n5_ n6_ n7_ n8_ n9_ n10_ n11_ n12_ hb hbox hg
   refine hK.out _ _ ⟨bc BK122.out 0, bc BK122.out 1, bc BK122.out 2, bc BK122.out 3, bc BK122.out 4, bc BK122.out 5, bc BK123.out 0, bc BK123.out 1, bc BK123.out 2, bc BK123.out 3, bc BK123.out 4, bc BK123.out 5⟩ (fun hHeld => ?_)
   clear hK K
   refine norm_ (a' := ?_) ?_ ?_
   rotate_left
   ·show Act.put _ (some 5) _ = _
    simp only [Act.put, y1, y2, y3, i64_w, i32_w]
    rfl
   exact norm_ s2_4 (hJ2_4_5_6 (gb128, gb129) _ ⟨hHeld, (zk BK122.out), (zk BK123.out), (zk BK128.out), (zk BK129.out), GW128.out, GE128.out, NB122_128.out, NB128_122.out, NB123_128.out, NB128_123.out, NB129_128.out, NB128_129.out, GW129.out, GE129.out, NB122_129.out, NB129_122.out, NB123_129.out, NB129_123.out, s2_6⟩)
 ·skip
  rintro gb128 w4 ⟨hS_, h0_, h1_, h2_, h3_, h4_, h5_, h6_, h7_, h8_, h9_⟩
  have n0_ : Aside0 (w4.heap[gb122]? = some (.cells #[.int .i64 a0_0, .int .i64 a0_1, .int .i64 a0_2, .int .i64 a0_3, .int .i64 a0_4, .int .i64 a0_5] 25 (0, 0))) := ⟨h0_⟩
  have n1_ : Aside0 (w4.heap[gb123]? = some (.cells #[.int .i64 a1_0, .int .i64 a1_1, .int .i64 a1_2, .int .i64 a1_3, .int .i64 a1_4, .int .i64 a1_5] 25 (0, 0))) := ⟨h1_⟩
  have n2_ : Aside0 (w4.heap[gb128]? = some (.cells #[.int .i64 0, .int .i64 0] 83 (0, 0))) := ⟨h2_⟩
  have n3_ : Aside0 (w.heap.size ≤ gb128) := ⟨h3_⟩
  have n4_ : Aside0 (w.heap.size ≤ gb128) := ⟨h4_⟩
  have n5_ : Aside0 (gb122 ≠ gb128) := ⟨h5_⟩
  have n6_ : Aside0 (gb128 ≠ gb122) := ⟨h6_⟩
  have n7_ : Aside0 (gb123 ≠ gb128) := ⟨h7_⟩
  have n8_ : Aside0 (gb128 ≠ gb123) := ⟨h8_⟩
  have n9_ : Aside0 (Below w.heap.size w w4) := ⟨h9_⟩
  clear BK122 BK123 HB h0_ h1_ h2_ h3_ h4_ h5_ h6_ h7_ h8_ h9_
  have BK122 := n0_
  have BK123 := n1_
  have BK128 := n2_
  have GW128 := n3_
  have GE128 := n4_
  have NB122_128 := n5_
  have NB128_122 := n6_
  have NB123_128 := n7_
  have NB128_123 := n8_
  have HB := n9_
  clear n0_ n1_ n2_ n3_ n4_ n5_ n6_ n7_ n8_ n9_
  have hHeld : w4.cell? ⟨gb122, 0, none⟩ = some (.int .i64 a0_0) ∧ w4.cell? ⟨gb122, 1, none⟩ = some (.int .i64 a0_1) ∧ w4.cell? ⟨gb122, 2, none⟩ = some (.int .i64 a0_2) ∧ w4.cell? ⟨gb122, 3, none⟩ = some (.int .i64 a0_3) ∧ w4.cell? ⟨gb122, 4, none⟩ = some (.int .i64 a0_4) ∧ w4.cell? ⟨gb122, 5, none⟩ = some (.int .i64 a0_5) ∧ w4.cell? ⟨gb123, 0, none⟩ = some (.int .i64 a1_0) ∧ w4.cell? ⟨gb123, 1, none⟩ = some (.int .i64 a1_1) ∧ w4.cell? ⟨gb123, 2, none⟩ = some (.int .i64 a1_2) ∧ w4.cell? ⟨gb123, 3, none⟩ = some (.int .i64 a1_3) ∧ w4.cell? ⟨gb123, 4, none⟩ = some (.int .i64 a1_4) ∧ w4.cell? ⟨gb123, 5, none⟩ = some (.int .i64 a1_5) := hS_
  refine norm_ (a' := ?_) ?_ ?_
  rotate_left
  ·simp only [putAll, Act.put, y1, y2, y3]
   rfl
  refine one_ (i := 6) (N := some 6) (bz 9 127) rfl rfl (one_of HT_.out (by kernel_rfl)) (by decide) (fun K hK => ?_)
  refine box_step ?hg (N := 6) ?hd (cs := #[.int .i64 0, .int .i64 0]) (t := 83) ?hr ?_; (case hd => rfl); (case hg => rfl); (case hr => first | (go_simp; done) | (go_simp; rfl))
  intro gb129 hg w5 hbox hb
  have n0_ := Aside0.mk (bb (zk BK122.out) hb)
  have n1_ := Aside0.mk (bb (zk BK123.out) hb)
  have n2_ := Aside0.mk (bb (zk BK128.out) hb)
  have n3_ := Aside0.mk (below_step s2_1 hb)
  have n4_ := Aside0.mk (hbox)
  have n5_ := Aside0.mk (ns hg s2_1 : w.heap.size ≤ gb129)
  have n6_ := Aside0.mk (ns hg s2_1 : w.heap.size ≤ gb129)
  have n7_ := Aside0.mk ((nlt hg (zk BK122.out) : gb122 ≠ gb129))
  have n8_ := Aside0.mk ((ngt hg (zk BK122.out) : gb129 ≠ gb122))
  have n9_ := Aside0.mk ((nlt hg (zk BK123.out) : gb123 ≠ gb129))
  have n10_ := Aside0.mk ((ngt hg (zk BK123.out) : gb129 ≠ gb123))
  have n11_ := Aside0.mk ((nlt hg (zk BK128.out) : gb128 ≠ gb129))
  have n12_ := Aside0.mk ((ngt hg (zk BK128.out) : gb129 ≠ gb128))
  clear BK122 BK123 BK128 HB
  have BK122 := n0_
  have BK123 := n1_
  have BK128 := n2_
  have HB := n3_
  have BK129 := n4_
  have GW129 := n5_
  have GE129 := n6_
  have NB122_129 := n7_
  have NB129_122 := n8_
  have NB123_129 := n9_
  have NB129_123 := n10_
  have NB128_129 := n11_
  have NB129_128 := n12_
  clear n0_ n1_ n2_ n3_ n4_ n5_ n6_ n7_ n8_ n9_ n10_ n11_ n12_ hb hbox hg
  refine hK.out _ _ ⟨bc BK122.out 0, bc BK122.out 1, bc BK122.out 2, bc BK122.out 3, bc BK122.out 4, bc BK122.out 5, bc BK123.out 0, bc BK123.out 1, bc BK123.out 2, bc BK123.out 3, bc BK123.out 4, bc BK123.out 5⟩ (fun hHeld => ?_)
  clear hK K
  refine norm_ (a' := ?_) ?_ ?_
  rotate_left
  ·show Act.put _ (some 6) _ = _
   simp only [Act.put, y1, y2, y3, i64_w, i32_w]
   rfl
  exact norm_ s2_4 (hJ2_4_5_6 (gb128, gb129) _ ⟨hHeld, (zk BK122.out), (zk BK123.out), (zk BK128.out), (zk BK129.out), GW128.out, GE128.out, NB122_128.out, NB128_122.out, NB123_128.out, NB128_123.out, NB129_128.out, NB128_129.out, GW129.out, GE129.out, NB122_129.out, NB129_122.out, NB123_129.out, NB129_123.out, s2_3⟩)) : p := h
set_option maxRecDepth 100000 in
theorem t2_1 {p : Prop} (h : p := by
 simp only [Act.put, y1, y2, y3, i64_w, i32_w]
 rfl) : p := h
set_option maxRecDepth 100000 in
theorem t2_2 {p : Prop} (h : p := by
 rintro w' ⟨s0, s1, s2, s3, s4, s5, s6, s7, s8, s9, s10, s11⟩
 go_simp
 with_reducible rfl) : p := h
set_option maxRecDepth 100000 in
theorem t2_3 {p : Prop} (h : p := by
 rintro w' ⟨s0, s1, s2, s3⟩
 go_simp
 with_reducible rfl) : p := h
/-! ### spec_l8Ahead: function 75 -/
def spec_l8Ahead.f (a0_0 : Int) (a0_1 : Int) (a0_2 : Int) (a0_3 : Int) (a0_4 : Int) (a0_5 : Int) (a1_0 : Int) (a1_1 : Int) (a1_2 : Int) (a1_3 : Int) (a1_4 : Int) (a1_5 : Int) : Option (Bool) := (spec_l8Bearing.f a0_0 a0_1 a0_2 a0_3 a0_4 a0_5 a1_0 a1_1 a1_2 a1_3 a1_4 a1_5).bind fun bt124 => ((spec_l8Way.f a0_0 a0_1 a0_2 a0_3 a0_4 a0_5).bind fun bt126 => ((spec_l8Dot.f bt124.1 bt124.2 bt126.1 bt126.2).bind fun t130 => (if t130 > 0 then ((spec_l8Cross.f bt124.1 bt124.2 bt126.1 bt126.2).bind fun t131 => ((spec_l8Dot.f bt124.1 bt124.2 bt126.1 bt126.2).bind fun t132 => ((spec_l8Least.f t131 100 t132 1).bind fun t133 => (some t133)))) else (some false))))
def spec_l8Ahead.T1 : Bool × List (List Nat × List Nat) := (true, [([], []), ([], []), ([0, 1], [0, 1]), ([], []), ([3, 2], [3]), ([], []), ([], []), ([5, 2, 4, 0, 1, 2, 5, 6], [2, 5]), ([6, 4, 7, 0, 1, 2, 3, 4, 5, 6, 7], [4, 6])])
def spec_l8Ahead.B1 : List Nat := [0, 0, 3, 0, 15, 0, 0, 127, 255]
theorem spec_l8Ahead.tab1 : rtab .any (opsOf Try.f75 1) = spec_l8Ahead.T1 := by kernel_rfl
theorem spec_l8Ahead.bits1 : waitsOk spec_l8Ahead.T1.2 spec_l8Ahead.B1 = true := by kernel_rfl
def spec_l8Ahead.T2 : Bool × List (List Nat × List Nat) := (true, [([], []), ([], []), ([0, 1], [0, 1]), ([2], [2]), ([3, 2], [3]), ([4], [4]), ([4], [4]), ([5, 6, 4, 4], [4, 5, 6]), ([4], [4]), ([4], [4]), ([8, 9, 7, 4], [4, 8, 9]), ([7, 10, 10, 4], [4, 7, 10]), ([4, 11], [4, 11]), ([12, 11, 0, 1, 2, 3, 4, 5, 6, 7, 8, 9, 10, 11, 12], [12])])
def spec_l8Ahead.B2 : List Nat := [0, 0, 3, 7, 15, 31, 31, 127, 31, 31, 1023, 2047, 4095, 8191]
theorem spec_l8Ahead.tab2 : rtab .any (opsOf Try.f75 2) = spec_l8Ahead.T2 := by kernel_rfl
theorem spec_l8Ahead.bits2 : waitsOk spec_l8Ahead.T2.2 spec_l8Ahead.B2 = true := by kernel_rfl
set_option maxHeartbeats 8000000 in
set_option maxRecDepth 100000 in
theorem spec_l8Ahead.calls (a0_0 : Int) (a0_1 : Int) (a0_2 : Int) (a0_3 : Int) (a0_4 : Int) (a0_5 : Int) (a1_0 : Int) (a1_1 : Int) (a1_2 : Int) (a1_3 : Int) (a1_4 : Int) (a1_5 : Int) (r : Bool) (w : World) (h : spec_l8Ahead.f a0_0 a0_1 a0_2 a0_3 a0_4 a0_5 a1_0 a1_1 a1_2 a1_3 a1_4 a1_5 = some r) :
  Calls Try.prog 75 #[.agg #[.int .i64 a0_0, .int .i64 a0_1, .int .i64 a0_2, .int .i64 a0_3, .int .i64 a0_4, .int .i64 a0_5], .agg #[.int .i64 a1_0, .int .i64 a1_1, .int .i64 a1_2, .int .i64 a1_3, .int .i64 a1_4, .int .i64 a1_5]] w fun e w' => e = .returned (.bool r) ∧ Below w.heap.size w w' := by
 have hu25 := Try.underlying25
 have hu83 := Try.underlying83
 have HB := Aside0.mk (Below.refl w.heap.size w)
 have H : ((spec_l8Bearing.f a0_0 a0_1 a0_2 a0_3 a0_4 a0_5 a1_0 a1_1 a1_2 a1_3 a1_4 a1_5).bind fun bt124 => ((spec_l8Way.f a0_0 a0_1 a0_2 a0_3 a0_4 a0_5).bind fun bt126 => ((spec_l8Dot.f bt124.1 bt124.2 bt126.1 bt126.2).bind fun t130 => (if t130 > 0 then ((spec_l8Cross.f bt124.1 bt124.2 bt126.1 bt126.2).bind fun t131 => ((spec_l8Dot.f bt124.1 bt124.2 bt126.1 bt126.2).bind fun t132 => ((spec_l8Least.f t131 100 t132 1).bind fun t133 => (some t133)))) else (some false))))) = some r := h
 clear h
 replace H := Option.bind_eq_some_iff.mp H
 obtain ⟨⟨t124, t125⟩, A30, H⟩ := H
 replace H : ((spec_l8Way.f a0_0 a0_1 a0_2 a0_3 a0_4 a0_5).bind fun bt126 => ((spec_l8Dot.f t124 t125 bt126.1 bt126.2).bind fun t130 => (if t130 > 0 then ((spec_l8Cross.f t124 t125 bt126.1 bt126.2).bind fun t131 => ((spec_l8Dot.f t124 t125 bt126.1 bt126.2).bind fun t132 => ((spec_l8Least.f t131 100 t132 1).bind fun t133 => (some t133)))) else (some false)))) = some r := H
 have A3 := Aside0.mk A30
 clear A30
 replace H := Option.bind_eq_some_iff.mp H
 obtain ⟨⟨t126, t127⟩, A40, H⟩ := H
 replace H : ((spec_l8Dot.f t124 t125 t126 t127).bind fun t130 => (if t130 > 0 then ((spec_l8Cross.f t124 t125 t126 t127).bind fun t131 => ((spec_l8Dot.f t124 t125 t126 t127).bind fun t132 => ((spec_l8Least.f t131 100 t132 1).bind fun t133 => (some t133)))) else (some false))) = some r := H
 have A4 := Aside0.mk A40
 clear A40
 replace H := Option.bind_eq_some_iff.mp H
 obtain ⟨t130, A50, H⟩ := H
 replace H : (if t130 > 0 then ((spec_l8Cross.f t124 t125 t126 t127).bind fun t131 => ((spec_l8Dot.f t124 t125 t126 t127).bind fun t132 => ((spec_l8Least.f t131 100 t132 1).bind fun t133 => (some t133)))) else (some false)) = some r := H
 have A5 := Aside0.mk A50
 clear A50
 by_cases c6 : t130 > 0
 ·rw [if_pos c6] at H
  have c6b0 : decide (0 < t130) = true := decide_eq_true c6
  clear c6
  replace H := Option.bind_eq_some_iff.mp H
  obtain ⟨t131, A70, H⟩ := H
  replace H : ((spec_l8Dot.f t124 t125 t126 t127).bind fun t132 => ((spec_l8Least.f t131 100 t132 1).bind fun t133 => (some t133))) = some r := H
  have A7 := Aside0.mk A70
  clear A70
  replace H := Option.bind_eq_some_iff.mp H
  obtain ⟨t132, A80, H⟩ := H
  replace H : ((spec_l8Least.f t131 100 t132 1).bind fun t133 => (some t133)) = some r := H
  have A8 := Aside0.mk A80
  clear A80
  replace H := Option.bind_eq_some_iff.mp H
  obtain ⟨t133, A90, H⟩ := H
  replace H : (some t133) = some r := H
  have A9 := Aside0.mk A90
  clear A90
  obtain rfl := Option.some.inj H
  go_enter Try.func75, Try.ntmps75
  try go_wp2_with (first | ((with_reducible refine gate_dst (N := 2) rfl ?_); refine box_event ?hg (N := 2) ?hd (cs := #[.int .i64 a0_0, .int .i64 a0_1, .int .i64 a0_2, .int .i64 a0_3, .int .i64 a0_4, .int .i64 a0_5]) (t := 25) ?hr ?_; (case hd => rfl); (case hg => rfl); (case hr => first | (go_simp; done) | (go_simp; rfl)); intro gb122 hg w1 hbox hb; have n0_ := Aside0.mk (below_step s2_8 hb); have n1_ := Aside0.mk (hbox); have n2_ := Aside0.mk (ns hg s2_8 : w.heap.size ≤ gb122); have n3_ := Aside0.mk (ns hg s2_8 : w.heap.size ≤ gb122); clear HB; have HB := n0_; have BK122 := n1_; have GW122 := n2_; have GE122 := n3_; clear n0_ n1_ n2_ n3_; clear hb hbox hg) | ((with_reducible refine gate_dst (N := 3) rfl ?_); refine box_event ?hg (N := 3) ?hd (cs := #[.int .i64 a1_0, .int .i64 a1_1, .int .i64 a1_2, .int .i64 a1_3, .int .i64 a1_4, .int .i64 a1_5]) (t := 25) ?hr ?_; (case hd => rfl); (case hg => rfl); (case hr => first | (go_simp; done) | (go_simp; rfl)); intro gb123 hg w2 hbox hb; have n0_ := Aside0.mk (bb (zk BK122.out) hb); have n1_ := Aside0.mk (below_step s2_7 hb); have n2_ := Aside0.mk (hbox); have n3_ := Aside0.mk (ns hg s2_7 : w.heap.size ≤ gb123); have n4_ := Aside0.mk (ns hg s2_7 : w.heap.size ≤ gb123); have n5_ := Aside0.mk ((nlt hg (zk BK122.out) : gb122 ≠ gb123)); have n6_ := Aside0.mk ((ngt hg (zk BK122.out) : gb123 ≠ gb122)); clear BK122; clear HB; have BK122 := n0_; have HB := n1_; have BK123 := n2_; have GW123 := n3_; have GE123 := n4_; have NB122_123 := n5_; have NB123_122 := n6_; clear n0_ n1_ n2_ n3_ n4_ n5_ n6_; clear hb hbox hg))
  have n0_ := Aside0.mk (blk_drew BK122.out)
  have n1_ := Aside0.mk (blk_drew BK123.out)
  have n2_ := Aside0.mk (below_drew1 HB.out)
  clear BK122 BK123 HB
  have BK122 := n0_
  have BK123 := n1_
  have HB := n2_
  clear n0_ n1_ n2_
  refine start_ (n := 9) (S := fun w' => w'.cell? ⟨gb122, 0, none⟩ = some (.int .i64 a0_0) ∧ w'.cell? ⟨gb122, 1, none⟩ = some (.int .i64 a0_1) ∧ w'.cell? ⟨gb122, 2, none⟩ = some (.int .i64 a0_2) ∧ w'.cell? ⟨gb122, 3, none⟩ = some (.int .i64 a0_3) ∧ w'.cell? ⟨gb122, 4, none⟩ = some (.int .i64 a0_4) ∧ w'.cell? ⟨gb122, 5, none⟩ = some (.int .i64 a0_5) ∧ w'.cell? ⟨gb123, 0, none⟩ = some (.int .i64 a1_0) ∧ w'.cell? ⟨gb123, 1, none⟩ = some (.int .i64 a1_1) ∧ w'.cell? ⟨gb123, 2, none⟩ = some (.int .i64 a1_2) ∧ w'.cell? ⟨gb123, 3, none⟩ = some (.int .i64 a1_3) ∧ w'.cell? ⟨gb123, 4, none⟩ = some (.int .i64 a1_4) ∧ w'.cell? ⟨gb123, 5, none⟩ = some (.int .i64 a1_5)) (ds := []) #[false, false, false, false, false, false, false, false, false] (by kernel_rfl) rfl rfl ⟨bc BK122.out 0, bc BK122.out 1, bc BK122.out 2, bc BK122.out 3, bc BK122.out 4, bc BK122.out 5, bc BK123.out 0, bc BK123.out 1, bc BK123.out 2, bc BK123.out 3, bc BK123.out 4, bc BK123.out 5⟩ (fun hHeld => ?_); refine with_tabW spec_l8Ahead.tab1 spec_l8Ahead.bits1 (fun HT_ HW_ => ?_)
  generalize w2.drew = w3 at BK122 BK123 HB hHeld ⊢
  refine take_ (i := 0) (N := some 7) (v := ?_) (a' := ?_) (bz 9 1) rfl rfl (take_ofW HT_.out HW_.out (by kernel_rfl)) (fun _ _ _ h => h) (Or.inl ⟨by rfl, ?_⟩) hHeld ?_ ?_
  rotate_left
  ·exact t2_2
  rotate_left
  ·exact t2_1
  refine take_ (i := 1) (N := some 8) (v := ?_) (a' := ?_) (bz 9 3) rfl rfl (take_ofW HT_.out HW_.out (by kernel_rfl)) (fun _ _ _ h => h) (Or.inl ⟨by rfl, ?_⟩) hHeld ?_ ?_
  rotate_left
  ·exact t2_2
  rotate_left
  ·exact t2_1
  refine take_ (i := 3) (N := some 10) (v := ?_) (a' := ?_) (bz 9 11) rfl rfl (take_ofW HT_.out HW_.out (by kernel_rfl)) (fun _ _ _ h => h) (Or.inl ⟨by rfl, ?_⟩) hHeld ?_ ?_
  rotate_left
  ·exact t2_2
  rotate_left
  ·exact t2_1
  refine join_ (σ := Nat × Nat) 2 (bz 9 127) (fun s_ => [(9, .agg #[.int .i64 t124, .int .i64 t125]), (11, .agg #[.int .i64 t126, .int .i64 t127]), (5, .pointer (some ⟨s_.1, 0, none⟩)), (6, .pointer (some ⟨s_.2, 0, none⟩))]) (fun s_ w' => (w'.cell? ⟨gb122, 0, none⟩ = some (.int .i64 a0_0) ∧ w'.cell? ⟨gb122, 1, none⟩ = some (.int .i64 a0_1) ∧ w'.cell? ⟨gb122, 2, none⟩ = some (.int .i64 a0_2) ∧ w'.cell? ⟨gb122, 3, none⟩ = some (.int .i64 a0_3) ∧ w'.cell? ⟨gb122, 4, none⟩ = some (.int .i64 a0_4) ∧ w'.cell? ⟨gb122, 5, none⟩ = some (.int .i64 a0_5) ∧ w'.cell? ⟨gb123, 0, none⟩ = some (.int .i64 a1_0) ∧ w'.cell? ⟨gb123, 1, none⟩ = some (.int .i64 a1_1) ∧ w'.cell? ⟨gb123, 2, none⟩ = some (.int .i64 a1_2) ∧ w'.cell? ⟨gb123, 3, none⟩ = some (.int .i64 a1_3) ∧ w'.cell? ⟨gb123, 4, none⟩ = some (.int .i64 a1_4) ∧ w'.cell? ⟨gb123, 5, none⟩ = some (.int .i64 a1_5)) ∧ (w'.heap[gb122]? = some (.cells #[.int .i64 a0_0, .int .i64 a0_1, .int .i64 a0_2, .int .i64 a0_3, .int .i64 a0_4, .int .i64 a0_5] 25 (0, 0))) ∧ (w'.heap[gb123]? = some (.cells #[.int .i64 a1_0, .int .i64 a1_1, .int .i64 a1_2, .int .i64 a1_3, .int .i64 a1_4, .int .i64 a1_5] 25 (0, 0))) ∧ (w'.heap[s_.1]? = some (.cells #[.int .i64 0, .int .i64 0] 83 (0, 0))) ∧ (w'.heap[s_.2]? = some (.cells #[.int .i64 0, .int .i64 0] 83 (0, 0))) ∧ (w.heap.size ≤ s_.1) ∧ (w.heap.size ≤ s_.1) ∧ (gb122 ≠ s_.1) ∧ (s_.1 ≠ gb122) ∧ (gb123 ≠ s_.1) ∧ (s_.1 ≠ gb123) ∧ (s_.2 ≠ s_.1) ∧ (s_.1 ≠ s_.2) ∧ (w.heap.size ≤ s_.2) ∧ (w.heap.size ≤ s_.2) ∧ (gb122 ≠ s_.2) ∧ (s_.2 ≠ gb122) ∧ (gb123 ≠ s_.2) ∧ (s_.2 ≠ gb123) ∧ (Below w.heap.size w w')) ?_ ?_
  rotate_left
  ·exact t2_0
  rintro ⟨gb128, gb129⟩ w4 ⟨hS_, h0_, h1_, h2_, h3_, h4_, h5_, h6_, h7_, h8_, h9_, h10_, h11_, h12_, h13_, h14_, h15_, h16_, h17_, h18_⟩
  have n0_ : Aside0 (w4.heap[gb122]? = some (.cells #[.int .i64 a0_0, .int .i64 a0_1, .int .i64 a0_2, .int .i64 a0_3, .int .i64 a0_4, .int .i64 a0_5] 25 (0, 0))) := ⟨h0_⟩
  have n1_ : Aside0 (w4.heap[gb123]? = some (.cells #[.int .i64 a1_0, .int .i64 a1_1, .int .i64 a1_2, .int .i64 a1_3, .int .i64 a1_4, .int .i64 a1_5] 25 (0, 0))) := ⟨h1_⟩
  have n2_ : Aside0 (w4.heap[gb128]? = some (.cells #[.int .i64 0, .int .i64 0] 83 (0, 0))) := ⟨h2_⟩
  have n3_ : Aside0 (w4.heap[gb129]? = some (.cells #[.int .i64 0, .int .i64 0] 83 (0, 0))) := ⟨h3_⟩
  have n4_ : Aside0 (w.heap.size ≤ gb128) := ⟨h4_⟩
  have n5_ : Aside0 (w.heap.size ≤ gb128) := ⟨h5_⟩
  have n6_ : Aside0 (gb122 ≠ gb128) := ⟨h6_⟩
  have n7_ : Aside0 (gb128 ≠ gb122) := ⟨h7_⟩
  have n8_ : Aside0 (gb123 ≠ gb128) := ⟨h8_⟩
  have n9_ : Aside0 (gb128 ≠ gb123) := ⟨h9_⟩
  have n10_ : Aside0 (gb129 ≠ gb128) := ⟨h10_⟩
  have n11_ : Aside0 (gb128 ≠ gb129) := ⟨h11_⟩
  have n12_ : Aside0 (w.heap.size ≤ gb129) := ⟨h12_⟩
  have n13_ : Aside0 (w.heap.size ≤ gb129) := ⟨h13_⟩
  have n14_ : Aside0 (gb122 ≠ gb129) := ⟨h14_⟩
  have n15_ : Aside0 (gb129 ≠ gb122) := ⟨h15_⟩
  have n16_ : Aside0 (gb123 ≠ gb129) := ⟨h16_⟩
  have n17_ : Aside0 (gb129 ≠ gb123) := ⟨h17_⟩
  have n18_ : Aside0 (Below w.heap.size w w4) := ⟨h18_⟩
  clear BK122 BK123 HB h0_ h1_ h2_ h3_ h4_ h5_ h6_ h7_ h8_ h9_ h10_ h11_ h12_ h13_ h14_ h15_ h16_ h17_ h18_
  have BK122 := n0_
  have BK123 := n1_
  have BK128 := n2_
  have BK129 := n3_
  have GW128 := n4_
  have GE128 := n5_
  have NB122_128 := n6_
  have NB128_122 := n7_
  have NB123_128 := n8_
  have NB128_123 := n9_
  have NB129_128 := n10_
  have NB128_129 := n11_
  have GW129 := n12_
  have GE129 := n13_
  have NB122_129 := n14_
  have NB129_122 := n15_
  have NB123_129 := n16_
  have NB129_123 := n17_
  have HB := n18_
  clear n0_ n1_ n2_ n3_ n4_ n5_ n6_ n7_ n8_ n9_ n10_ n11_ n12_ n13_ n14_ n15_ n16_ n17_ n18_
  have hHeld : w4.cell? ⟨gb122, 0, none⟩ = some (.int .i64 a0_0) ∧ w4.cell? ⟨gb122, 1, none⟩ = some (.int .i64 a0_1) ∧ w4.cell? ⟨gb122, 2, none⟩ = some (.int .i64 a0_2) ∧ w4.cell? ⟨gb122, 3, none⟩ = some (.int .i64 a0_3) ∧ w4.cell? ⟨gb122, 4, none⟩ = some (.int .i64 a0_4) ∧ w4.cell? ⟨gb122, 5, none⟩ = some (.int .i64 a0_5) ∧ w4.cell? ⟨gb123, 0, none⟩ = some (.int .i64 a1_0) ∧ w4.cell? ⟨gb123, 1, none⟩ = some (.int .i64 a1_1) ∧ w4.cell? ⟨gb123, 2, none⟩ = some (.int .i64 a1_2) ∧ w4.cell? ⟨gb123, 3, none⟩ = some (.int .i64 a1_3) ∧ w4.cell? ⟨gb123, 4, none⟩ = some (.int .i64 a1_4) ∧ w4.cell? ⟨gb123, 5, none⟩ = some (.int .i64 a1_5) := hS_
  refine norm_ (a' := ?_) ?_ ?_
  rotate_left
  ·simp only [putAll, Act.put, y1, y2, y3]
   rfl
  refine one_ (i := 7) (N := none) (bz 9 255) rfl rfl (one_of HT_.out (by kernel_rfl)) (by decide) (fun K hK => ?_)
  have hs18 : w4.cell? ⟨gb128, 0, none⟩ = some (.int .i64 0) := bc BK128.out 0
  have hfs18 := blk_frozen BK128.out 0
  have hns18_0 := NB122_128.out
  have hns18_1 := NB123_128.out
  have hns18_3 := NB129_128.out
  have hms18_0 := NB128_122.out
  have hms18_1 := NB128_123.out
  have hms18_3 := NB128_129.out
  have hs19 : w4.cell? ⟨gb128, 1, none⟩ = some (.int .i64 0) := bc BK128.out 1
  have hfs19 := blk_frozen BK128.out 1
  have hns19_0 := NB122_128.out
  have hns19_1 := NB123_128.out
  have hns19_3 := NB129_128.out
  have hms19_0 := NB128_122.out
  have hms19_1 := NB128_123.out
  have hms19_3 := NB128_129.out
  refine skip_ (w1 := ?_) (by rfl) rfl ?_ ?_
  rotate_left
  ·go_simp
   rfl
  refine hK.out _ _ ⟨((cell_far (p := ⟨gb128, _, none⟩) NB122_128.out _).trans (((cell_far (p := ⟨gb128, _, none⟩) NB122_128.out _).trans (hHeld.1)))), ((cell_far (p := ⟨gb128, _, none⟩) NB122_128.out _).trans (((cell_far (p := ⟨gb128, _, none⟩) NB122_128.out _).trans (hHeld.2.1)))), ((cell_far (p := ⟨gb128, _, none⟩) NB122_128.out _).trans (((cell_far (p := ⟨gb128, _, none⟩) NB122_128.out _).trans (hHeld.2.2.1)))), ((cell_far (p := ⟨gb128, _, none⟩) NB122_128.out _).trans (((cell_far (p := ⟨gb128, _, none⟩) NB122_128.out _).trans (hHeld.2.2.2.1)))), ((cell_far (p := ⟨gb128, _, none⟩) NB122_128.out _).trans (((cell_far (p := ⟨gb128, _, none⟩) NB122_128.out _).trans (hHeld.2.2.2.2.1)))), ((cell_far (p := ⟨gb128, _, none⟩) NB122_128.out _).trans (((cell_far (p := ⟨gb128, _, none⟩) NB122_128.out _).trans (hHeld.2.2.2.2.2.1)))), ((cell_far (p := ⟨gb128, _, none⟩) NB123_128.out _).trans (((cell_far (p := ⟨gb128, _, none⟩) NB123_128.out _).trans (hHeld.2.2.2.2.2.2.1)))), ((cell_far (p := ⟨gb128, _, none⟩) NB123_128.out _).trans (((cell_far (p := ⟨gb128, _, none⟩) NB123_128.out _).trans (hHeld.2.2.2.2.2.2.2.1)))), ((cell_far (p := ⟨gb128, _, none⟩) NB123_128.out _).trans (((cell_far (p := ⟨gb128, _, none⟩) NB123_128.out _).trans (hHeld.2.2.2.2.2.2.2.2.1)))), ((cell_far (p := ⟨gb128, _, none⟩) NB123_128.out _).trans (((cell_far (p := ⟨gb128, _, none⟩) NB123_128.out _).trans (hHeld.2.2.2.2.2.2.2.2.2.1)))), ((cell_far (p := ⟨gb128, _, none⟩) NB123_128.out _).trans (((cell_far (p := ⟨gb128, _, none⟩) NB123_128.out _).trans (hHeld.2.2.2.2.2.2.2.2.2.2.1)))), ((cell_far (p := ⟨gb128, _, none⟩) NB123_128.out _).trans (((cell_far (p := ⟨gb128, _, none⟩) NB123_128.out _).trans (hHeld.2.2.2.2.2.2.2.2.2.2.2))))⟩ (fun hHeld => ?_)
  clear hK K
  refine one_ (i := 8) (N := none) (bz 9 511) rfl rfl (one_of HT_.out (by kernel_rfl)) (by decide) (fun K hK => ?_)
  have hs20 : w4.cell? ⟨gb129, 0, none⟩ = some (.int .i64 0) := bc BK129.out 0
  have hfs20 := blk_frozen BK129.out 0
  have hns20_0 := NB122_129.out
  have hns20_1 := NB123_129.out
  have hns20_2 := NB128_129.out
  have hms20_0 := NB129_122.out
  have hms20_1 := NB129_123.out
  have hms20_2 := NB129_128.out
  have hs21 : w4.cell? ⟨gb129, 1, none⟩ = some (.int .i64 0) := bc BK129.out 1
  have hfs21 := blk_frozen BK129.out 1
  have hns21_0 := NB122_129.out
  have hns21_1 := NB123_129.out
  have hns21_2 := NB128_129.out
  have hms21_0 := NB129_122.out
  have hms21_1 := NB129_123.out
  have hms21_2 := NB129_128.out
  refine skip_ (w1 := ?_) (by rfl) rfl ?_ ?_
  rotate_left
  ·go_simp
   rfl
  refine hK.out _ _ ⟨((cell_far (p := ⟨gb129, _, none⟩) NB122_129.out _).trans (((cell_far (p := ⟨gb129, _, none⟩) NB122_129.out _).trans (hHeld.1)))), ((cell_far (p := ⟨gb129, _, none⟩) NB122_129.out _).trans (((cell_far (p := ⟨gb129, _, none⟩) NB122_129.out _).trans (hHeld.2.1)))), ((cell_far (p := ⟨gb129, _, none⟩) NB122_129.out _).trans (((cell_far (p := ⟨gb129, _, none⟩) NB122_129.out _).trans (hHeld.2.2.1)))), ((cell_far (p := ⟨gb129, _, none⟩) NB122_129.out _).trans (((cell_far (p := ⟨gb129, _, none⟩) NB122_129.out _).trans (hHeld.2.2.2.1)))), ((cell_far (p := ⟨gb129, _, none⟩) NB122_129.out _).trans (((cell_far (p := ⟨gb129, _, none⟩) NB122_129.out _).trans (hHeld.2.2.2.2.1)))), ((cell_far (p := ⟨gb129, _, none⟩) NB122_129.out _).trans (((cell_far (p := ⟨gb129, _, none⟩) NB122_129.out _).trans (hHeld.2.2.2.2.2.1)))), ((cell_far (p := ⟨gb129, _, none⟩) NB123_129.out _).trans (((cell_far (p := ⟨gb129, _, none⟩) NB123_129.out _).trans (hHeld.2.2.2.2.2.2.1)))), ((cell_far (p := ⟨gb129, _, none⟩) NB123_129.out _).trans (((cell_far (p := ⟨gb129, _, none⟩) NB123_129.out _).trans (hHeld.2.2.2.2.2.2.2.1)))), ((cell_far (p := ⟨gb129, _, none⟩) NB123_129.out _).trans (((cell_far (p := ⟨gb129, _, none⟩) NB123_129.out _).trans (hHeld.2.2.2.2.2.2.2.2.1)))), ((cell_far (p := ⟨gb129, _, none⟩) NB123_129.out _).trans (((cell_far (p := ⟨gb129, _, none⟩) NB123_129.out _).trans (hHeld.2.2.2.2.2.2.2.2.2.1)))), ((cell_far (p := ⟨gb129, _, none⟩) NB123_129.out _).trans (((cell_far (p := ⟨gb129, _, none⟩) NB123_129.out _).trans (hHeld.2.2.2.2.2.2.2.2.2.2.1)))), ((cell_far (p := ⟨gb129, _, none⟩) NB123_129.out _).trans (((cell_far (p := ⟨gb129, _, none⟩) NB123_129.out _).trans (hHeld.2.2.2.2.2.2.2.2.2.2.2))))⟩ (fun hHeld => ?_)
  clear hK K
  refine done_ (done_of HT_.out (by kernel_rfl)) ?_
  try go_wp2
  have n0_ : Aside0 (((((w4.setCell ⟨gb128, 0, none⟩ (.int .i64 t124)).setCell ⟨gb128, 1, none⟩ (.int .i64 t125)).setCell ⟨gb129, 0, none⟩ (.int .i64 t126)).setCell ⟨gb129, 1, none⟩ (.int .i64 t127)).heap[gb122]? = some (.cells #[.int .i64 a0_0, .int .i64 a0_1, .int .i64 a0_2, .int .i64 a0_3, .int .i64 a0_4, .int .i64 a0_5] 25 (0, 0))) := ⟨by (with_reducible repeat (first | refine blk_drewN ?_ _ | refine blk_drew ?_ | refine blk_alloc ?_ _)); refine blk_far ?_ NB122_129.out _; (with_reducible repeat (first | refine blk_drewN ?_ _ | refine blk_drew ?_ | refine blk_alloc ?_ _)); refine blk_far ?_ NB122_129.out _; (with_reducible repeat (first | refine blk_drewN ?_ _ | refine blk_drew ?_ | refine blk_alloc ?_ _)); refine blk_far ?_ NB122_128.out _; (with_reducible repeat (first | refine blk_drewN ?_ _ | refine blk_drew ?_ | refine blk_alloc ?_ _)); refine blk_far ?_ NB122_128.out _; (with_reducible repeat (first | refine blk_drewN ?_ _ | refine blk_drew ?_ | refine blk_alloc ?_ _)); exact BK122.out⟩
  have n1_ : Aside0 (((((w4.setCell ⟨gb128, 0, none⟩ (.int .i64 t124)).setCell ⟨gb128, 1, none⟩ (.int .i64 t125)).setCell ⟨gb129, 0, none⟩ (.int .i64 t126)).setCell ⟨gb129, 1, none⟩ (.int .i64 t127)).heap[gb123]? = some (.cells #[.int .i64 a1_0, .int .i64 a1_1, .int .i64 a1_2, .int .i64 a1_3, .int .i64 a1_4, .int .i64 a1_5] 25 (0, 0))) := ⟨by (with_reducible repeat (first | refine blk_drewN ?_ _ | refine blk_drew ?_ | refine blk_alloc ?_ _)); refine blk_far ?_ NB123_129.out _; (with_reducible repeat (first | refine blk_drewN ?_ _ | refine blk_drew ?_ | refine blk_alloc ?_ _)); refine blk_far ?_ NB123_129.out _; (with_reducible repeat (first | refine blk_drewN ?_ _ | refine blk_drew ?_ | refine blk_alloc ?_ _)); refine blk_far ?_ NB123_128.out _; (with_reducible repeat (first | refine blk_drewN ?_ _ | refine blk_drew ?_ | refine blk_alloc ?_ _)); refine blk_far ?_ NB123_128.out _; (with_reducible repeat (first | refine blk_drewN ?_ _ | refine blk_drew ?_ | refine blk_alloc ?_ _)); exact BK123.out⟩
  have n2_ : Aside0 (((((w4.setCell ⟨gb128, 0, none⟩ (.int .i64 t124)).setCell ⟨gb128, 1, none⟩ (.int .i64 t125)).setCell ⟨gb129, 0, none⟩ (.int .i64 t126)).setCell ⟨gb129, 1, none⟩ (.int .i64 t127)).heap[gb128]? = some (.cells #[.int .i64 t124, .int .i64 t125] 83 (0, 0))) := ⟨by (with_reducible repeat (first | refine blk_drewN ?_ _ | refine blk_drew ?_ | refine blk_alloc ?_ _)); refine blk_far ?_ NB128_129.out _; (with_reducible repeat (first | refine blk_drewN ?_ _ | refine blk_drew ?_ | refine blk_alloc ?_ _)); refine blk_far ?_ NB128_129.out _; (with_reducible repeat (first | refine blk_drewN ?_ _ | refine blk_drew ?_ | refine blk_alloc ?_ _)); refine blk_put (cs := #[.int .i64 t124, .int .i64 0]) ?_ 1 _ rfl; (with_reducible repeat (first | refine blk_drewN ?_ _ | refine blk_drew ?_ | refine blk_alloc ?_ _)); refine blk_put (cs := #[.int .i64 0, .int .i64 0]) ?_ 0 _ rfl; (with_reducible repeat (first | refine blk_drewN ?_ _ | refine blk_drew ?_ | refine blk_alloc ?_ _)); exact BK128.out⟩
  have n3_ : Aside0 (((((w4.setCell ⟨gb128, 0, none⟩ (.int .i64 t124)).setCell ⟨gb128, 1, none⟩ (.int .i64 t125)).setCell ⟨gb129, 0, none⟩ (.int .i64 t126)).setCell ⟨gb129, 1, none⟩ (.int .i64 t127)).heap[gb129]? = some (.cells #[.int .i64 t126, .int .i64 t127] 83 (0, 0))) := ⟨by (with_reducible repeat (first | refine blk_drewN ?_ _ | refine blk_drew ?_ | refine blk_alloc ?_ _)); refine blk_put (cs := #[.int .i64 t126, .int .i64 0]) ?_ 1 _ rfl; (with_reducible repeat (first | refine blk_drewN ?_ _ | refine blk_drew ?_ | refine blk_alloc ?_ _)); refine blk_put (cs := #[.int .i64 0, .int .i64 0]) ?_ 0 _ rfl; (with_reducible repeat (first | refine blk_drewN ?_ _ | refine blk_drew ?_ | refine blk_alloc ?_ _)); refine blk_far ?_ NB129_128.out _; (with_reducible repeat (first | refine blk_drewN ?_ _ | refine blk_drew ?_ | refine blk_alloc ?_ _)); refine blk_far ?_ NB129_128.out _; (with_reducible repeat (first | refine blk_drewN ?_ _ | refine blk_drew ?_ | refine blk_alloc ?_ _)); exact BK129.out⟩
  have n4_ : Aside0 (Below w.heap.size w ((((w4.setCell ⟨gb128, 0, none⟩ (.int .i64 t124)).setCell ⟨gb128, 1, none⟩ (.int .i64 t125)).setCell ⟨gb129, 0, none⟩ (.int .i64 t126)).setCell ⟨gb129, 1, none⟩ (.int .i64 t127))) := ⟨by repeat (first | (with_reducible first | exact HB.out | apply below_alloc | apply pw_below_drewN | apply below_drew1 | refine below_set ?_ GE122.out | refine below_set ?_ GE123.out | refine below_set ?_ GE128.out | refine below_set ?_ GE129.out) | exact HB.out)⟩
  (try clear BK122)
  (try clear BK123)
  (try clear BK128)
  (try clear BK129)
  (try clear HB)
  generalize ((((w4.setCell ⟨gb128, 0, none⟩ (.int .i64 t124)).setCell ⟨gb128, 1, none⟩ (.int .i64 t125)).setCell ⟨gb129, 0, none⟩ (.int .i64 t126)).setCell ⟨gb129, 1, none⟩ (.int .i64 t127)) = w5 at n0_ n1_ n2_ n3_ n4_ ⊢
  have BK122 := n0_
  have BK123 := n1_
  have BK128 := n2_
  have BK129 := n3_
  have HB := n4_
  clear n0_ n1_ n2_ n3_ n4_
  have n0_ := Aside0.mk (blk_drew BK122.out)
  have n1_ := Aside0.mk (blk_drew BK123.out)
  have n2_ := Aside0.mk (blk_drew BK128.out)
  have n3_ := Aside0.mk (blk_drew BK129.out)
  have n4_ := Aside0.mk (below_drew1 HB.out)
  clear BK122 BK123 BK128 BK129 HB
  have BK122 := n0_
  have BK123 := n1_
  have BK128 := n2_
  have BK129 := n3_
  have HB := n4_
  clear n0_ n1_ n2_ n3_ n4_
  refine start_ (n := 14) (S := fun w' => w'.cell? ⟨gb128, 0, none⟩ = some (.int .i64 t124) ∧ w'.cell? ⟨gb128, 1, none⟩ = some (.int .i64 t125) ∧ w'.cell? ⟨gb129, 0, none⟩ = some (.int .i64 t126) ∧ w'.cell? ⟨gb129, 1, none⟩ = some (.int .i64 t127)) (ds := []) #[false, false, false, false, false, false, false, false, false, false, false, false, false, false] (by kernel_rfl) rfl rfl ⟨bc BK128.out 0, bc BK128.out 1, bc BK129.out 0, bc BK129.out 1⟩ (fun hHeld => ?_); refine with_tabW spec_l8Ahead.tab2 spec_l8Ahead.bits2 (fun HT_ HW_ => ?_)
  generalize w5.drew = w6 at BK122 BK123 BK128 BK129 HB hHeld ⊢
  refine take_ (i := 0) (N := some 12) (v := ?_) (a' := ?_) (bz 14 1) rfl rfl (take_ofW HT_.out HW_.out (by kernel_rfl)) (fun _ _ _ h => h) (Or.inl ⟨by rfl, ?_⟩) hHeld ?_ ?_
  rotate_left
  ·exact t2_3
  rotate_left
  ·exact t2_1
  refine take_ (i := 1) (N := some 13) (v := ?_) (a' := ?_) (bz 14 3) rfl rfl (take_ofW HT_.out HW_.out (by kernel_rfl)) (fun _ _ _ h => h) (Or.inl ⟨by rfl, ?_⟩) hHeld ?_ ?_
  rotate_left
  ·exact t2_3
  rotate_left
  ·exact t2_1
  refine one_ (i := 2) (N := some 14) (bz 14 7) rfl rfl (one_of HT_.out (by kernel_rfl)) (by decide) (fun K hK => ?_)
  refine goes_ Try.func68 (by kernel_rfl) rfl #[.agg #[.int .i64 t124, .int .i64 t125], .agg #[.int .i64 t126, .int .i64 t127]] (by rfl) rfl rfl s2_5 ?_
  with_reducible refine (spec_l8Dot.calls t124 t125 t126 t127 t130 _ A5.out).mono ?_
  rintro e w7 ⟨rfl, hb⟩
  refine ⟨_, rfl, ?_⟩
  have n0_ := Aside0.mk (bb (zk BK122.out) hb)
  have n1_ := Aside0.mk (bb (zk BK123.out) hb)
  have n2_ := Aside0.mk (bb (zk BK128.out) hb)
  have n3_ := Aside0.mk (bb (zk BK129.out) hb)
  have n4_ := Aside0.mk (below_step s2_3 hb)
  clear BK122 BK123 BK128 BK129 HB
  have BK122 := n0_
  have BK123 := n1_
  have BK128 := n2_
  have BK129 := n3_
  have HB := n4_
  clear n0_ n1_ n2_ n3_ n4_
  (try clear hb)
  (try clear hb2)
  (try clear hk)
  (try clear hi)
  refine hK.out _ _ ⟨bc BK128.out 0, bc BK128.out 1, bc BK129.out 0, bc BK129.out 1⟩ (fun hHeld => ?_)
  clear hK K
  refine norm_ (a' := ?_) ?_ ?_
  rotate_left
  ·show Act.put _ (some 14) _ = _
   simp only [Act.put, y1, y2, y3, i64_w, i32_w]
   rfl
  refine pure_ (i := 3) (N := some 15) (v := ?_) (a' := ?_) (bz 14 15) rfl rfl (any_of HT_.out (by kernel_rfl)) (fun _ _ _ h => h) (Or.inl ⟨by rfl, ?_⟩) ?_ ?_
  rotate_left
  ·intro w'
   go_simp
   with_reducible rfl
  rotate_left
  ·exact t2_1
  refine pure_ (i := 4) (N := some 16) (v := ?_) (a' := ?_) (bz 14 31) rfl rfl (any_of HT_.out (by kernel_rfl)) (fun _ _ _ h => h) (Or.inl ⟨by rfl, ?_⟩) ?_ ?_
  rotate_left
  ·intro w'
   go_simp
   with_reducible rfl
  rotate_left
  ·exact t2_1
  refine take_ (i := 5) (N := some 17) (v := ?_) (a' := ?_) (bz 14 63) rfl rfl (take_ofW HT_.out HW_.out (by kernel_rfl)) (fun _ _ _ h => h) (Or.inl ⟨by rfl, ?_⟩) hHeld ?_ ?_
  rotate_left
  ·exact t2_3
  rotate_left
  ·exact t2_1
  refine take_ (i := 6) (N := some 18) (v := ?_) (a' := ?_) (bz 14 127) rfl rfl (take_ofW HT_.out HW_.out (by kernel_rfl)) (fun _ _ _ h => h) (Or.inl ⟨by rfl, ?_⟩) hHeld ?_ ?_
  rotate_left
  ·exact t2_3
  rotate_left
  ·exact t2_1
  refine take_ (i := 8) (N := some 20) (v := ?_) (a' := ?_) (bz 14 383) rfl rfl (take_ofW HT_.out HW_.out (by kernel_rfl)) (fun _ _ _ h => h) (Or.inl ⟨by rfl, ?_⟩) hHeld ?_ ?_
  rotate_left
  ·exact t2_3
  rotate_left
  ·exact t2_1
  refine take_ (i := 9) (N := some 21) (v := ?_) (a' := ?_) (bz 14 895) rfl rfl (take_ofW HT_.out HW_.out (by kernel_rfl)) (fun _ _ _ h => h) (Or.inl ⟨by rfl, ?_⟩) hHeld ?_ ?_
  rotate_left
  ·exact t2_3
  rotate_left
  ·exact t2_1
  refine one_ (i := 7) (N := some 19) (bz 14 1023) rfl rfl (one_of HT_.out (by kernel_rfl)) (by decide) (fun K hK => ?_)
  refine goes_ Try.func67 (by kernel_rfl) rfl #[.agg #[.int .i64 t124, .int .i64 t125], .agg #[.int .i64 t126, .int .i64 t127]] (by rfl) rfl rfl s2_5 ?_
  with_reducible refine (spec_l8Cross.calls t124 t125 t126 t127 t131 _ A7.out).mono ?_
  rintro e w8 ⟨rfl, hb⟩
  refine ⟨_, rfl, ?_⟩
  have n0_ := Aside0.mk (bb (zk BK122.out) hb)
  have n1_ := Aside0.mk (bb (zk BK123.out) hb)
  have n2_ := Aside0.mk (bb (zk BK128.out) hb)
  have n3_ := Aside0.mk (bb (zk BK129.out) hb)
  have n4_ := Aside0.mk (below_step s2_3 hb)
  clear BK122 BK123 BK128 BK129 HB
  have BK122 := n0_
  have BK123 := n1_
  have BK128 := n2_
  have BK129 := n3_
  have HB := n4_
  clear n0_ n1_ n2_ n3_ n4_
  (try clear hb)
  (try clear hb2)
  (try clear hk)
  (try clear hi)
  refine hK.out _ _ ⟨bc BK128.out 0, bc BK128.out 1, bc BK129.out 0, bc BK129.out 1⟩ (fun hHeld => ?_)
  clear hK K
  refine norm_ (a' := ?_) ?_ ?_
  rotate_left
  ·show Act.put _ (some 19) _ = _
   simp only [Act.put, y1, y2, y3, i64_w, i32_w]
   rfl
  refine one_ (i := 10) (N := some 22) (bz 14 2047) rfl rfl (one_of HT_.out (by kernel_rfl)) (by decide) (fun K hK => ?_)
  refine goes_ Try.func68 (by kernel_rfl) rfl #[.agg #[.int .i64 t124, .int .i64 t125], .agg #[.int .i64 t126, .int .i64 t127]] (by rfl) rfl rfl s2_5 ?_
  with_reducible refine (spec_l8Dot.calls t124 t125 t126 t127 t132 _ A8.out).mono ?_
  rintro e w9 ⟨rfl, hb⟩
  refine ⟨_, rfl, ?_⟩
  have n0_ := Aside0.mk (bb (zk BK122.out) hb)
  have n1_ := Aside0.mk (bb (zk BK123.out) hb)
  have n2_ := Aside0.mk (bb (zk BK128.out) hb)
  have n3_ := Aside0.mk (bb (zk BK129.out) hb)
  have n4_ := Aside0.mk (below_step s2_3 hb)
  clear BK122 BK123 BK128 BK129 HB
  have BK122 := n0_
  have BK123 := n1_
  have BK128 := n2_
  have BK129 := n3_
  have HB := n4_
  clear n0_ n1_ n2_ n3_ n4_
  (try clear hb)
  (try clear hb2)
  (try clear hk)
  (try clear hi)
  refine hK.out _ _ ⟨bc BK128.out 0, bc BK128.out 1, bc BK129.out 0, bc BK129.out 1⟩ (fun hHeld => ?_)
  clear hK K
  refine norm_ (a' := ?_) ?_ ?_
  rotate_left
  ·show Act.put _ (some 22) _ = _
   simp only [Act.put, y1, y2, y3, i64_w, i32_w]
   rfl
  refine one_ (i := 11) (N := some 23) (bz 14 4095) rfl rfl (one_of HT_.out (by kernel_rfl)) (by decide) (fun K hK => ?_)
  refine goes_ Try.func69 (by kernel_rfl) rfl #[.int .i64 t131, .int .i64 100, .int .i64 t132, .int .i64 1] (by rfl) rfl rfl s2_5 ?_
  with_reducible refine (spec_l8Least.calls t131 100 t132 1 t133 _ A9.out).mono ?_
  rintro e w' ⟨rfl, ⟨nd, rfl⟩⟩
  refine ⟨_, rfl, ?_⟩
  refine hK.out _ _ ⟨bc BK128.out 0, bc BK128.out 1, bc BK129.out 0, bc BK129.out 1⟩ (fun hHeld => ?_)
  clear hK K
  refine norm_ (a' := ?_) ?_ ?_
  rotate_left
  ·show Act.put _ (some 23) _ = _
   simp only [Act.put, y1, y2, y3, i64_w, i32_w]
   rfl
  refine pure_ (i := 12) (N := some 24) (v := ?_) (a' := ?_) (bz 14 8191) rfl rfl (any_of HT_.out (by kernel_rfl)) (fun _ _ _ h => h) (Or.inl ⟨by rfl, ?_⟩) ?_ ?_
  rotate_left
  ·intro w'
   go_simp
   with_reducible rfl
  rotate_left
  ·exact t2_1
  refine pure_ (i := 13) (N := some 4) (v := ?_) (a' := ?_) (bz 14 16383) rfl rfl (any_of HT_.out (by kernel_rfl)) (fun _ _ _ h => h) (Or.inl ⟨by rfl, ?_⟩) ?_ ?_
  rotate_left
  ·intro w'
   go_simp
   with_reducible rfl
  rotate_left
  ·exact t2_1
  refine done_ (done_of HT_.out (by kernel_rfl)) ?_
  try go_wp2
  go_ret
  exact ⟨by first | rfl | (simp [errW_none, errW_some] <;> rfl) | (simp [*, errW_none, errW_some] <;> rfl), by repeat (first | (with_reducible first | exact HB.out | apply below_alloc | apply pw_below_drewN | apply below_drew1 | refine below_set ?_ GE122.out | refine below_set ?_ GE123.out | refine below_set ?_ GE128.out | refine below_set ?_ GE129.out) | exact HB.out)⟩
 ·rw [if_neg c6] at H
  have c6b0 : decide (0 < t130) = false := decide_eq_false c6
  clear c6
  obtain rfl := Option.some.inj H
  go_enter Try.func75, Try.ntmps75
  try go_wp2_with (first | ((with_reducible refine gate_dst (N := 2) rfl ?_); refine box_event ?hg (N := 2) ?hd (cs := #[.int .i64 a0_0, .int .i64 a0_1, .int .i64 a0_2, .int .i64 a0_3, .int .i64 a0_4, .int .i64 a0_5]) (t := 25) ?hr ?_; (case hd => rfl); (case hg => rfl); (case hr => first | (go_simp; done) | (go_simp; rfl)); intro gb122 hg w1 hbox hb; have n0_ := Aside0.mk (below_step s2_8 hb); have n1_ := Aside0.mk (hbox); have n2_ := Aside0.mk (ns hg s2_8 : w.heap.size ≤ gb122); have n3_ := Aside0.mk (ns hg s2_8 : w.heap.size ≤ gb122); clear HB; have HB := n0_; have BK122 := n1_; have GW122 := n2_; have GE122 := n3_; clear n0_ n1_ n2_ n3_; clear hb hbox hg) | ((with_reducible refine gate_dst (N := 3) rfl ?_); refine box_event ?hg (N := 3) ?hd (cs := #[.int .i64 a1_0, .int .i64 a1_1, .int .i64 a1_2, .int .i64 a1_3, .int .i64 a1_4, .int .i64 a1_5]) (t := 25) ?hr ?_; (case hd => rfl); (case hg => rfl); (case hr => first | (go_simp; done) | (go_simp; rfl)); intro gb123 hg w2 hbox hb; have n0_ := Aside0.mk (bb (zk BK122.out) hb); have n1_ := Aside0.mk (below_step s2_7 hb); have n2_ := Aside0.mk (hbox); have n3_ := Aside0.mk (ns hg s2_7 : w.heap.size ≤ gb123); have n4_ := Aside0.mk (ns hg s2_7 : w.heap.size ≤ gb123); have n5_ := Aside0.mk ((nlt hg (zk BK122.out) : gb122 ≠ gb123)); have n6_ := Aside0.mk ((ngt hg (zk BK122.out) : gb123 ≠ gb122)); clear BK122; clear HB; have BK122 := n0_; have HB := n1_; have BK123 := n2_; have GW123 := n3_; have GE123 := n4_; have NB122_123 := n5_; have NB123_122 := n6_; clear n0_ n1_ n2_ n3_ n4_ n5_ n6_; clear hb hbox hg))
  have n0_ := Aside0.mk (blk_drew BK122.out)
  have n1_ := Aside0.mk (blk_drew BK123.out)
  have n2_ := Aside0.mk (below_drew1 HB.out)
  clear BK122 BK123 HB
  have BK122 := n0_
  have BK123 := n1_
  have HB := n2_
  clear n0_ n1_ n2_
  refine start_ (n := 9) (S := fun w' => w'.cell? ⟨gb122, 0, none⟩ = some (.int .i64 a0_0) ∧ w'.cell? ⟨gb122, 1, none⟩ = some (.int .i64 a0_1) ∧ w'.cell? ⟨gb122, 2, none⟩ = some (.int .i64 a0_2) ∧ w'.cell? ⟨gb122, 3, none⟩ = some (.int .i64 a0_3) ∧ w'.cell? ⟨gb122, 4, none⟩ = some (.int .i64 a0_4) ∧ w'.cell? ⟨gb122, 5, none⟩ = some (.int .i64 a0_5) ∧ w'.cell? ⟨gb123, 0, none⟩ = some (.int .i64 a1_0) ∧ w'.cell? ⟨gb123, 1, none⟩ = some (.int .i64 a1_1) ∧ w'.cell? ⟨gb123, 2, none⟩ = some (.int .i64 a1_2) ∧ w'.cell? ⟨gb123, 3, none⟩ = some (.int .i64 a1_3) ∧ w'.cell? ⟨gb123, 4, none⟩ = some (.int .i64 a1_4) ∧ w'.cell? ⟨gb123, 5, none⟩ = some (.int .i64 a1_5)) (ds := []) #[false, false, false, false, false, false, false, false, false] (by kernel_rfl) rfl rfl ⟨bc BK122.out 0, bc BK122.out 1, bc BK122.out 2, bc BK122.out 3, bc BK122.out 4, bc BK122.out 5, bc BK123.out 0, bc BK123.out 1, bc BK123.out 2, bc BK123.out 3, bc BK123.out 4, bc BK123.out 5⟩ (fun hHeld => ?_); refine with_tabW spec_l8Ahead.tab1 spec_l8Ahead.bits1 (fun HT_ HW_ => ?_)
  generalize w2.drew = w3 at BK122 BK123 HB hHeld ⊢
  refine take_ (i := 0) (N := some 7) (v := ?_) (a' := ?_) (bz 9 1) rfl rfl (take_ofW HT_.out HW_.out (by kernel_rfl)) (fun _ _ _ h => h) (Or.inl ⟨by rfl, ?_⟩) hHeld ?_ ?_
  rotate_left
  ·exact t2_2
  rotate_left
  ·exact t2_1
  refine take_ (i := 1) (N := some 8) (v := ?_) (a' := ?_) (bz 9 3) rfl rfl (take_ofW HT_.out HW_.out (by kernel_rfl)) (fun _ _ _ h => h) (Or.inl ⟨by rfl, ?_⟩) hHeld ?_ ?_
  rotate_left
  ·exact t2_2
  rotate_left
  ·exact t2_1
  refine take_ (i := 3) (N := some 10) (v := ?_) (a' := ?_) (bz 9 11) rfl rfl (take_ofW HT_.out HW_.out (by kernel_rfl)) (fun _ _ _ h => h) (Or.inl ⟨by rfl, ?_⟩) hHeld ?_ ?_
  rotate_left
  ·exact t2_2
  rotate_left
  ·exact t2_1
  refine join_ (σ := Nat × Nat) 2 (bz 9 127) (fun s_ => [(9, .agg #[.int .i64 t124, .int .i64 t125]), (11, .agg #[.int .i64 t126, .int .i64 t127]), (5, .pointer (some ⟨s_.1, 0, none⟩)), (6, .pointer (some ⟨s_.2, 0, none⟩))]) (fun s_ w' => (w'.cell? ⟨gb122, 0, none⟩ = some (.int .i64 a0_0) ∧ w'.cell? ⟨gb122, 1, none⟩ = some (.int .i64 a0_1) ∧ w'.cell? ⟨gb122, 2, none⟩ = some (.int .i64 a0_2) ∧ w'.cell? ⟨gb122, 3, none⟩ = some (.int .i64 a0_3) ∧ w'.cell? ⟨gb122, 4, none⟩ = some (.int .i64 a0_4) ∧ w'.cell? ⟨gb122, 5, none⟩ = some (.int .i64 a0_5) ∧ w'.cell? ⟨gb123, 0, none⟩ = some (.int .i64 a1_0) ∧ w'.cell? ⟨gb123, 1, none⟩ = some (.int .i64 a1_1) ∧ w'.cell? ⟨gb123, 2, none⟩ = some (.int .i64 a1_2) ∧ w'.cell? ⟨gb123, 3, none⟩ = some (.int .i64 a1_3) ∧ w'.cell? ⟨gb123, 4, none⟩ = some (.int .i64 a1_4) ∧ w'.cell? ⟨gb123, 5, none⟩ = some (.int .i64 a1_5)) ∧ (w'.heap[gb122]? = some (.cells #[.int .i64 a0_0, .int .i64 a0_1, .int .i64 a0_2, .int .i64 a0_3, .int .i64 a0_4, .int .i64 a0_5] 25 (0, 0))) ∧ (w'.heap[gb123]? = some (.cells #[.int .i64 a1_0, .int .i64 a1_1, .int .i64 a1_2, .int .i64 a1_3, .int .i64 a1_4, .int .i64 a1_5] 25 (0, 0))) ∧ (w'.heap[s_.1]? = some (.cells #[.int .i64 0, .int .i64 0] 83 (0, 0))) ∧ (w'.heap[s_.2]? = some (.cells #[.int .i64 0, .int .i64 0] 83 (0, 0))) ∧ (w.heap.size ≤ s_.1) ∧ (w.heap.size ≤ s_.1) ∧ (gb122 ≠ s_.1) ∧ (s_.1 ≠ gb122) ∧ (gb123 ≠ s_.1) ∧ (s_.1 ≠ gb123) ∧ (s_.2 ≠ s_.1) ∧ (s_.1 ≠ s_.2) ∧ (w.heap.size ≤ s_.2) ∧ (w.heap.size ≤ s_.2) ∧ (gb122 ≠ s_.2) ∧ (s_.2 ≠ gb122) ∧ (gb123 ≠ s_.2) ∧ (s_.2 ≠ gb123) ∧ (Below w.heap.size w w')) ?_ ?_
  rotate_left
  ·exact t2_0
  rintro ⟨gb128, gb129⟩ w4 ⟨hS_, h0_, h1_, h2_, h3_, h4_, h5_, h6_, h7_, h8_, h9_, h10_, h11_, h12_, h13_, h14_, h15_, h16_, h17_, h18_⟩
  have n0_ : Aside0 (w4.heap[gb122]? = some (.cells #[.int .i64 a0_0, .int .i64 a0_1, .int .i64 a0_2, .int .i64 a0_3, .int .i64 a0_4, .int .i64 a0_5] 25 (0, 0))) := ⟨h0_⟩
  have n1_ : Aside0 (w4.heap[gb123]? = some (.cells #[.int .i64 a1_0, .int .i64 a1_1, .int .i64 a1_2, .int .i64 a1_3, .int .i64 a1_4, .int .i64 a1_5] 25 (0, 0))) := ⟨h1_⟩
  have n2_ : Aside0 (w4.heap[gb128]? = some (.cells #[.int .i64 0, .int .i64 0] 83 (0, 0))) := ⟨h2_⟩
  have n3_ : Aside0 (w4.heap[gb129]? = some (.cells #[.int .i64 0, .int .i64 0] 83 (0, 0))) := ⟨h3_⟩
  have n4_ : Aside0 (w.heap.size ≤ gb128) := ⟨h4_⟩
  have n5_ : Aside0 (w.heap.size ≤ gb128) := ⟨h5_⟩
  have n6_ : Aside0 (gb122 ≠ gb128) := ⟨h6_⟩
  have n7_ : Aside0 (gb128 ≠ gb122) := ⟨h7_⟩
  have n8_ : Aside0 (gb123 ≠ gb128) := ⟨h8_⟩
  have n9_ : Aside0 (gb128 ≠ gb123) := ⟨h9_⟩
  have n10_ : Aside0 (gb129 ≠ gb128) := ⟨h10_⟩
  have n11_ : Aside0 (gb128 ≠ gb129) := ⟨h11_⟩
  have n12_ : Aside0 (w.heap.size ≤ gb129) := ⟨h12_⟩
  have n13_ : Aside0 (w.heap.size ≤ gb129) := ⟨h13_⟩
  have n14_ : Aside0 (gb122 ≠ gb129) := ⟨h14_⟩
  have n15_ : Aside0 (gb129 ≠ gb122) := ⟨h15_⟩
  have n16_ : Aside0 (gb123 ≠ gb129) := ⟨h16_⟩
  have n17_ : Aside0 (gb129 ≠ gb123) := ⟨h17_⟩
  have n18_ : Aside0 (Below w.heap.size w w4) := ⟨h18_⟩
  clear BK122 BK123 HB h0_ h1_ h2_ h3_ h4_ h5_ h6_ h7_ h8_ h9_ h10_ h11_ h12_ h13_ h14_ h15_ h16_ h17_ h18_
  have BK122 := n0_
  have BK123 := n1_
  have BK128 := n2_
  have BK129 := n3_
  have GW128 := n4_
  have GE128 := n5_
  have NB122_128 := n6_
  have NB128_122 := n7_
  have NB123_128 := n8_
  have NB128_123 := n9_
  have NB129_128 := n10_
  have NB128_129 := n11_
  have GW129 := n12_
  have GE129 := n13_
  have NB122_129 := n14_
  have NB129_122 := n15_
  have NB123_129 := n16_
  have NB129_123 := n17_
  have HB := n18_
  clear n0_ n1_ n2_ n3_ n4_ n5_ n6_ n7_ n8_ n9_ n10_ n11_ n12_ n13_ n14_ n15_ n16_ n17_ n18_
  have hHeld : w4.cell? ⟨gb122, 0, none⟩ = some (.int .i64 a0_0) ∧ w4.cell? ⟨gb122, 1, none⟩ = some (.int .i64 a0_1) ∧ w4.cell? ⟨gb122, 2, none⟩ = some (.int .i64 a0_2) ∧ w4.cell? ⟨gb122, 3, none⟩ = some (.int .i64 a0_3) ∧ w4.cell? ⟨gb122, 4, none⟩ = some (.int .i64 a0_4) ∧ w4.cell? ⟨gb122, 5, none⟩ = some (.int .i64 a0_5) ∧ w4.cell? ⟨gb123, 0, none⟩ = some (.int .i64 a1_0) ∧ w4.cell? ⟨gb123, 1, none⟩ = some (.int .i64 a1_1) ∧ w4.cell? ⟨gb123, 2, none⟩ = some (.int .i64 a1_2) ∧ w4.cell? ⟨gb123, 3, none⟩ = some (.int .i64 a1_3) ∧ w4.cell? ⟨gb123, 4, none⟩ = some (.int .i64 a1_4) ∧ w4.cell? ⟨gb123, 5, none⟩ = some (.int .i64 a1_5) := hS_
  refine norm_ (a' := ?_) ?_ ?_
  rotate_left
  ·simp only [putAll, Act.put, y1, y2, y3]
   rfl
  refine one_ (i := 7) (N := none) (bz 9 255) rfl rfl (one_of HT_.out (by kernel_rfl)) (by decide) (fun K hK => ?_)
  have hs35 : w4.cell? ⟨gb128, 0, none⟩ = some (.int .i64 0) := bc BK128.out 0
  have hfs35 := blk_frozen BK128.out 0
  have hns35_0 := NB122_128.out
  have hns35_1 := NB123_128.out
  have hns35_3 := NB129_128.out
  have hms35_0 := NB128_122.out
  have hms35_1 := NB128_123.out
  have hms35_3 := NB128_129.out
  have hs36 : w4.cell? ⟨gb128, 1, none⟩ = some (.int .i64 0) := bc BK128.out 1
  have hfs36 := blk_frozen BK128.out 1
  have hns36_0 := NB122_128.out
  have hns36_1 := NB123_128.out
  have hns36_3 := NB129_128.out
  have hms36_0 := NB128_122.out
  have hms36_1 := NB128_123.out
  have hms36_3 := NB128_129.out
  refine skip_ (w1 := ?_) (by rfl) rfl ?_ ?_
  rotate_left
  ·go_simp
   rfl
  refine hK.out _ _ ⟨((cell_far (p := ⟨gb128, _, none⟩) NB122_128.out _).trans (((cell_far (p := ⟨gb128, _, none⟩) NB122_128.out _).trans (hHeld.1)))), ((cell_far (p := ⟨gb128, _, none⟩) NB122_128.out _).trans (((cell_far (p := ⟨gb128, _, none⟩) NB122_128.out _).trans (hHeld.2.1)))), ((cell_far (p := ⟨gb128, _, none⟩) NB122_128.out _).trans (((cell_far (p := ⟨gb128, _, none⟩) NB122_128.out _).trans (hHeld.2.2.1)))), ((cell_far (p := ⟨gb128, _, none⟩) NB122_128.out _).trans (((cell_far (p := ⟨gb128, _, none⟩) NB122_128.out _).trans (hHeld.2.2.2.1)))), ((cell_far (p := ⟨gb128, _, none⟩) NB122_128.out _).trans (((cell_far (p := ⟨gb128, _, none⟩) NB122_128.out _).trans (hHeld.2.2.2.2.1)))), ((cell_far (p := ⟨gb128, _, none⟩) NB122_128.out _).trans (((cell_far (p := ⟨gb128, _, none⟩) NB122_128.out _).trans (hHeld.2.2.2.2.2.1)))), ((cell_far (p := ⟨gb128, _, none⟩) NB123_128.out _).trans (((cell_far (p := ⟨gb128, _, none⟩) NB123_128.out _).trans (hHeld.2.2.2.2.2.2.1)))), ((cell_far (p := ⟨gb128, _, none⟩) NB123_128.out _).trans (((cell_far (p := ⟨gb128, _, none⟩) NB123_128.out _).trans (hHeld.2.2.2.2.2.2.2.1)))), ((cell_far (p := ⟨gb128, _, none⟩) NB123_128.out _).trans (((cell_far (p := ⟨gb128, _, none⟩) NB123_128.out _).trans (hHeld.2.2.2.2.2.2.2.2.1)))), ((cell_far (p := ⟨gb128, _, none⟩) NB123_128.out _).trans (((cell_far (p := ⟨gb128, _, none⟩) NB123_128.out _).trans (hHeld.2.2.2.2.2.2.2.2.2.1)))), ((cell_far (p := ⟨gb128, _, none⟩) NB123_128.out _).trans (((cell_far (p := ⟨gb128, _, none⟩) NB123_128.out _).trans (hHeld.2.2.2.2.2.2.2.2.2.2.1)))), ((cell_far (p := ⟨gb128, _, none⟩) NB123_128.out _).trans (((cell_far (p := ⟨gb128, _, none⟩) NB123_128.out _).trans (hHeld.2.2.2.2.2.2.2.2.2.2.2))))⟩ (fun hHeld => ?_)
  clear hK K
  refine one_ (i := 8) (N := none) (bz 9 511) rfl rfl (one_of HT_.out (by kernel_rfl)) (by decide) (fun K hK => ?_)
  have hs37 : w4.cell? ⟨gb129, 0, none⟩ = some (.int .i64 0) := bc BK129.out 0
  have hfs37 := blk_frozen BK129.out 0
  have hns37_0 := NB122_129.out
  have hns37_1 := NB123_129.out
  have hns37_2 := NB128_129.out
  have hms37_0 := NB129_122.out
  have hms37_1 := NB129_123.out
  have hms37_2 := NB129_128.out
  have hs38 : w4.cell? ⟨gb129, 1, none⟩ = some (.int .i64 0) := bc BK129.out 1
  have hfs38 := blk_frozen BK129.out 1
  have hns38_0 := NB122_129.out
  have hns38_1 := NB123_129.out
  have hns38_2 := NB128_129.out
  have hms38_0 := NB129_122.out
  have hms38_1 := NB129_123.out
  have hms38_2 := NB129_128.out
  refine skip_ (w1 := ?_) (by rfl) rfl ?_ ?_
  rotate_left
  ·go_simp
   rfl
  refine hK.out _ _ ⟨((cell_far (p := ⟨gb129, _, none⟩) NB122_129.out _).trans (((cell_far (p := ⟨gb129, _, none⟩) NB122_129.out _).trans (hHeld.1)))), ((cell_far (p := ⟨gb129, _, none⟩) NB122_129.out _).trans (((cell_far (p := ⟨gb129, _, none⟩) NB122_129.out _).trans (hHeld.2.1)))), ((cell_far (p := ⟨gb129, _, none⟩) NB122_129.out _).trans (((cell_far (p := ⟨gb129, _, none⟩) NB122_129.out _).trans (hHeld.2.2.1)))), ((cell_far (p := ⟨gb129, _, none⟩) NB122_129.out _).trans (((cell_far (p := ⟨gb129, _, none⟩) NB122_129.out _).trans (hHeld.2.2.2.1)))), ((cell_far (p := ⟨gb129, _, none⟩) NB122_129.out _).trans (((cell_far (p := ⟨gb129, _, none⟩) NB122_129.out _).trans (hHeld.2.2.2.2.1)))), ((cell_far (p := ⟨gb129, _, none⟩) NB122_129.out _).trans (((cell_far (p := ⟨gb129, _, none⟩) NB122_129.out _).trans (hHeld.2.2.2.2.2.1)))), ((cell_far (p := ⟨gb129, _, none⟩) NB123_129.out _).trans (((cell_far (p := ⟨gb129, _, none⟩) NB123_129.out _).trans (hHeld.2.2.2.2.2.2.1)))), ((cell_far (p := ⟨gb129, _, none⟩) NB123_129.out _).trans (((cell_far (p := ⟨gb129, _, none⟩) NB123_129.out _).trans (hHeld.2.2.2.2.2.2.2.1)))), ((cell_far (p := ⟨gb129, _, none⟩) NB123_129.out _).trans (((cell_far (p := ⟨gb129, _, none⟩) NB123_129.out _).trans (hHeld.2.2.2.2.2.2.2.2.1)))), ((cell_far (p := ⟨gb129, _, none⟩) NB123_129.out _).trans (((cell_far (p := ⟨gb129, _, none⟩) NB123_129.out _).trans (hHeld.2.2.2.2.2.2.2.2.2.1)))), ((cell_far (p := ⟨gb129, _, none⟩) NB123_129.out _).trans (((cell_far (p := ⟨gb129, _, none⟩) NB123_129.out _).trans (hHeld.2.2.2.2.2.2.2.2.2.2.1)))), ((cell_far (p := ⟨gb129, _, none⟩) NB123_129.out _).trans (((cell_far (p := ⟨gb129, _, none⟩) NB123_129.out _).trans (hHeld.2.2.2.2.2.2.2.2.2.2.2))))⟩ (fun hHeld => ?_)
  clear hK K
  refine done_ (done_of HT_.out (by kernel_rfl)) ?_
  try go_wp2
  have n0_ : Aside0 (((((w4.setCell ⟨gb128, 0, none⟩ (.int .i64 t124)).setCell ⟨gb128, 1, none⟩ (.int .i64 t125)).setCell ⟨gb129, 0, none⟩ (.int .i64 t126)).setCell ⟨gb129, 1, none⟩ (.int .i64 t127)).heap[gb122]? = some (.cells #[.int .i64 a0_0, .int .i64 a0_1, .int .i64 a0_2, .int .i64 a0_3, .int .i64 a0_4, .int .i64 a0_5] 25 (0, 0))) := ⟨by (with_reducible repeat (first | refine blk_drewN ?_ _ | refine blk_drew ?_ | refine blk_alloc ?_ _)); refine blk_far ?_ NB122_129.out _; (with_reducible repeat (first | refine blk_drewN ?_ _ | refine blk_drew ?_ | refine blk_alloc ?_ _)); refine blk_far ?_ NB122_129.out _; (with_reducible repeat (first | refine blk_drewN ?_ _ | refine blk_drew ?_ | refine blk_alloc ?_ _)); refine blk_far ?_ NB122_128.out _; (with_reducible repeat (first | refine blk_drewN ?_ _ | refine blk_drew ?_ | refine blk_alloc ?_ _)); refine blk_far ?_ NB122_128.out _; (with_reducible repeat (first | refine blk_drewN ?_ _ | refine blk_drew ?_ | refine blk_alloc ?_ _)); exact BK122.out⟩
  have n1_ : Aside0 (((((w4.setCell ⟨gb128, 0, none⟩ (.int .i64 t124)).setCell ⟨gb128, 1, none⟩ (.int .i64 t125)).setCell ⟨gb129, 0, none⟩ (.int .i64 t126)).setCell ⟨gb129, 1, none⟩ (.int .i64 t127)).heap[gb123]? = some (.cells #[.int .i64 a1_0, .int .i64 a1_1, .int .i64 a1_2, .int .i64 a1_3, .int .i64 a1_4, .int .i64 a1_5] 25 (0, 0))) := ⟨by (with_reducible repeat (first | refine blk_drewN ?_ _ | refine blk_drew ?_ | refine blk_alloc ?_ _)); refine blk_far ?_ NB123_129.out _; (with_reducible repeat (first | refine blk_drewN ?_ _ | refine blk_drew ?_ | refine blk_alloc ?_ _)); refine blk_far ?_ NB123_129.out _; (with_reducible repeat (first | refine blk_drewN ?_ _ | refine blk_drew ?_ | refine blk_alloc ?_ _)); refine blk_far ?_ NB123_128.out _; (with_reducible repeat (first | refine blk_drewN ?_ _ | refine blk_drew ?_ | refine blk_alloc ?_ _)); refine blk_far ?_ NB123_128.out _; (with_reducible repeat (first | refine blk_drewN ?_ _ | refine blk_drew ?_ | refine blk_alloc ?_ _)); exact BK123.out⟩
  have n2_ : Aside0 (((((w4.setCell ⟨gb128, 0, none⟩ (.int .i64 t124)).setCell ⟨gb128, 1, none⟩ (.int .i64 t125)).setCell ⟨gb129, 0, none⟩ (.int .i64 t126)).setCell ⟨gb129, 1, none⟩ (.int .i64 t127)).heap[gb128]? = some (.cells #[.int .i64 t124, .int .i64 t125] 83 (0, 0))) := ⟨by (with_reducible repeat (first | refine blk_drewN ?_ _ | refine blk_drew ?_ | refine blk_alloc ?_ _)); refine blk_far ?_ NB128_129.out _; (with_reducible repeat (first | refine blk_drewN ?_ _ | refine blk_drew ?_ | refine blk_alloc ?_ _)); refine blk_far ?_ NB128_129.out _; (with_reducible repeat (first | refine blk_drewN ?_ _ | refine blk_drew ?_ | refine blk_alloc ?_ _)); refine blk_put (cs := #[.int .i64 t124, .int .i64 0]) ?_ 1 _ rfl; (with_reducible repeat (first | refine blk_drewN ?_ _ | refine blk_drew ?_ | refine blk_alloc ?_ _)); refine blk_put (cs := #[.int .i64 0, .int .i64 0]) ?_ 0 _ rfl; (with_reducible repeat (first | refine blk_drewN ?_ _ | refine blk_drew ?_ | refine blk_alloc ?_ _)); exact BK128.out⟩
  have n3_ : Aside0 (((((w4.setCell ⟨gb128, 0, none⟩ (.int .i64 t124)).setCell ⟨gb128, 1, none⟩ (.int .i64 t125)).setCell ⟨gb129, 0, none⟩ (.int .i64 t126)).setCell ⟨gb129, 1, none⟩ (.int .i64 t127)).heap[gb129]? = some (.cells #[.int .i64 t126, .int .i64 t127] 83 (0, 0))) := ⟨by (with_reducible repeat (first | refine blk_drewN ?_ _ | refine blk_drew ?_ | refine blk_alloc ?_ _)); refine blk_put (cs := #[.int .i64 t126, .int .i64 0]) ?_ 1 _ rfl; (with_reducible repeat (first | refine blk_drewN ?_ _ | refine blk_drew ?_ | refine blk_alloc ?_ _)); refine blk_put (cs := #[.int .i64 0, .int .i64 0]) ?_ 0 _ rfl; (with_reducible repeat (first | refine blk_drewN ?_ _ | refine blk_drew ?_ | refine blk_alloc ?_ _)); refine blk_far ?_ NB129_128.out _; (with_reducible repeat (first | refine blk_drewN ?_ _ | refine blk_drew ?_ | refine blk_alloc ?_ _)); refine blk_far ?_ NB129_128.out _; (with_reducible repeat (first | refine blk_drewN ?_ _ | refine blk_drew ?_ | refine blk_alloc ?_ _)); exact BK129.out⟩
  have n4_ : Aside0 (Below w.heap.size w ((((w4.setCell ⟨gb128, 0, none⟩ (.int .i64 t124)).setCell ⟨gb128, 1, none⟩ (.int .i64 t125)).setCell ⟨gb129, 0, none⟩ (.int .i64 t126)).setCell ⟨gb129, 1, none⟩ (.int .i64 t127))) := ⟨by repeat (first | (with_reducible first | exact HB.out | apply below_alloc | apply pw_below_drewN | apply below_drew1 | refine below_set ?_ GE122.out | refine below_set ?_ GE123.out | refine below_set ?_ GE128.out | refine below_set ?_ GE129.out) | exact HB.out)⟩
  (try clear BK122)
  (try clear BK123)
  (try clear BK128)
  (try clear BK129)
  (try clear HB)
  generalize ((((w4.setCell ⟨gb128, 0, none⟩ (.int .i64 t124)).setCell ⟨gb128, 1, none⟩ (.int .i64 t125)).setCell ⟨gb129, 0, none⟩ (.int .i64 t126)).setCell ⟨gb129, 1, none⟩ (.int .i64 t127)) = w5 at n0_ n1_ n2_ n3_ n4_ ⊢
  have BK122 := n0_
  have BK123 := n1_
  have BK128 := n2_
  have BK129 := n3_
  have HB := n4_
  clear n0_ n1_ n2_ n3_ n4_
  have n0_ := Aside0.mk (blk_drew BK122.out)
  have n1_ := Aside0.mk (blk_drew BK123.out)
  have n2_ := Aside0.mk (blk_drew BK128.out)
  have n3_ := Aside0.mk (blk_drew BK129.out)
  have n4_ := Aside0.mk (below_drew1 HB.out)
  clear BK122 BK123 BK128 BK129 HB
  have BK122 := n0_
  have BK123 := n1_
  have BK128 := n2_
  have BK129 := n3_
  have HB := n4_
  clear n0_ n1_ n2_ n3_ n4_
  refine start_ (n := 14) (S := fun w' => w'.cell? ⟨gb128, 0, none⟩ = some (.int .i64 t124) ∧ w'.cell? ⟨gb128, 1, none⟩ = some (.int .i64 t125) ∧ w'.cell? ⟨gb129, 0, none⟩ = some (.int .i64 t126) ∧ w'.cell? ⟨gb129, 1, none⟩ = some (.int .i64 t127)) (ds := []) #[false, false, false, false, false, false, false, false, false, false, false, false, false, false] (by kernel_rfl) rfl rfl ⟨bc BK128.out 0, bc BK128.out 1, bc BK129.out 0, bc BK129.out 1⟩ (fun hHeld => ?_); refine with_tabW spec_l8Ahead.tab2 spec_l8Ahead.bits2 (fun HT_ HW_ => ?_)
  generalize w5.drew = w6 at BK122 BK123 BK128 BK129 HB hHeld ⊢
  refine take_ (i := 0) (N := some 12) (v := ?_) (a' := ?_) (bz 14 1) rfl rfl (take_ofW HT_.out HW_.out (by kernel_rfl)) (fun _ _ _ h => h) (Or.inl ⟨by rfl, ?_⟩) hHeld ?_ ?_
  rotate_left
  ·exact t2_3
  rotate_left
  ·exact t2_1
  refine take_ (i := 1) (N := some 13) (v := ?_) (a' := ?_) (bz 14 3) rfl rfl (take_ofW HT_.out HW_.out (by kernel_rfl)) (fun _ _ _ h => h) (Or.inl ⟨by rfl, ?_⟩) hHeld ?_ ?_
  rotate_left
  ·exact t2_3
  rotate_left
  ·exact t2_1
  refine one_ (i := 2) (N := some 14) (bz 14 7) rfl rfl (one_of HT_.out (by kernel_rfl)) (by decide) (fun K hK => ?_)
  refine goes_ Try.func68 (by kernel_rfl) rfl #[.agg #[.int .i64 t124, .int .i64 t125], .agg #[.int .i64 t126, .int .i64 t127]] (by rfl) rfl rfl s2_5 ?_
  with_reducible refine (spec_l8Dot.calls t124 t125 t126 t127 t130 _ A5.out).mono ?_
  rintro e w7 ⟨rfl, hb⟩
  refine ⟨_, rfl, ?_⟩
  have n0_ := Aside0.mk (bb (zk BK122.out) hb)
  have n1_ := Aside0.mk (bb (zk BK123.out) hb)
  have n2_ := Aside0.mk (bb (zk BK128.out) hb)
  have n3_ := Aside0.mk (bb (zk BK129.out) hb)
  have n4_ := Aside0.mk (below_step s2_3 hb)
  clear BK122 BK123 BK128 BK129 HB
  have BK122 := n0_
  have BK123 := n1_
  have BK128 := n2_
  have BK129 := n3_
  have HB := n4_
  clear n0_ n1_ n2_ n3_ n4_
  (try clear hb)
  (try clear hb2)
  (try clear hk)
  (try clear hi)
  refine hK.out _ _ ⟨bc BK128.out 0, bc BK128.out 1, bc BK129.out 0, bc BK129.out 1⟩ (fun hHeld => ?_)
  clear hK K
  refine norm_ (a' := ?_) ?_ ?_
  rotate_left
  ·show Act.put _ (some 14) _ = _
   simp only [Act.put, y1, y2, y3, i64_w, i32_w]
   rfl
  refine pure_ (i := 3) (N := some 15) (v := ?_) (a' := ?_) (bz 14 15) rfl rfl (any_of HT_.out (by kernel_rfl)) (fun _ _ _ h => h) (Or.inl ⟨by rfl, ?_⟩) ?_ ?_
  rotate_left
  ·intro w'
   go_simp
   with_reducible rfl
  rotate_left
  ·exact t2_1
  refine pure_ (i := 4) (N := some 16) (v := ?_) (a' := ?_) (bz 14 31) rfl rfl (any_of HT_.out (by kernel_rfl)) (fun _ _ _ h => h) (Or.inl ⟨by rfl, ?_⟩) ?_ ?_
  rotate_left
  ·intro w'
   go_simp
   with_reducible rfl
  rotate_left
  ·exact t2_1
  refine pure_ (i := 5) (N := some 17) (v := undef) (a' := ?_) (bz 14 63) rfl rfl (any_of HT_.out (by kernel_rfl)) (fun _ _ _ h => h) (Or.inr ⟨by rfl, rfl⟩) ?_ ?_
  rotate_left
  ·exact t2_1
  refine pure_ (i := 6) (N := some 18) (v := undef) (a' := ?_) (bz 14 127) rfl rfl (any_of HT_.out (by kernel_rfl)) (fun _ _ _ h => h) (Or.inr ⟨by rfl, rfl⟩) ?_ ?_
  rotate_left
  ·exact t2_1
  refine pure_ (i := 7) (N := some 19) (v := undef) (a' := ?_) (bz 14 255) rfl rfl (any_of HT_.out (by kernel_rfl)) (fun _ _ _ h => h) (Or.inr ⟨by rfl, rfl⟩) ?_ ?_
  rotate_left
  ·exact t2_1
  refine pure_ (i := 8) (N := some 20) (v := undef) (a' := ?_) (bz 14 511) rfl rfl (any_of HT_.out (by kernel_rfl)) (fun _ _ _ h => h) (Or.inr ⟨by rfl, rfl⟩) ?_ ?_
  rotate_left
  ·exact t2_1
  refine pure_ (i := 9) (N := some 21) (v := undef) (a' := ?_) (bz 14 1023) rfl rfl (any_of HT_.out (by kernel_rfl)) (fun _ _ _ h => h) (Or.inr ⟨by rfl, rfl⟩) ?_ ?_
  rotate_left
  ·exact t2_1
  refine pure_ (i := 10) (N := some 22) (v := undef) (a' := ?_) (bz 14 2047) rfl rfl (any_of HT_.out (by kernel_rfl)) (fun _ _ _ h => h) (Or.inr ⟨by rfl, rfl⟩) ?_ ?_
  rotate_left
  ·exact t2_1
  refine pure_ (i := 11) (N := some 23) (v := undef) (a' := ?_) (bz 14 4095) rfl rfl (any_of HT_.out (by kernel_rfl)) (fun _ _ _ h => h) (Or.inr ⟨by rfl, rfl⟩) ?_ ?_
  rotate_left
  ·exact t2_1
  refine pure_ (i := 12) (N := some 24) (v := ?_) (a' := ?_) (bz 14 8191) rfl rfl (any_of HT_.out (by kernel_rfl)) (fun _ _ _ h => h) (Or.inl ⟨by rfl, ?_⟩) ?_ ?_
  rotate_left
  ·intro w'
   go_simp
   with_reducible rfl
  rotate_left
  ·exact t2_1
  refine pure_ (i := 13) (N := some 4) (v := ?_) (a' := ?_) (bz 14 16383) rfl rfl (any_of HT_.out (by kernel_rfl)) (fun _ _ _ h => h) (Or.inl ⟨by rfl, ?_⟩) ?_ ?_
  rotate_left
  ·intro w'
   go_simp
   with_reducible rfl
  rotate_left
  ·exact t2_1
  refine done_ (done_of HT_.out (by kernel_rfl)) ?_
  try go_wp2
  go_ret
  exact ⟨by first | rfl | (simp [errW_none, errW_some] <;> rfl) | (simp [*, errW_none, errW_some] <;> rfl), by repeat (first | (with_reducible first | exact HB.out | apply below_alloc | apply pw_below_drewN | apply below_drew1 | refine below_set ?_ GE122.out | refine below_set ?_ GE123.out | refine below_set ?_ GE128.out | refine below_set ?_ GE129.out) | exact HB.out)⟩

end Go.Proofs.Ytfbokdbaondjdaa.PFnExactHeadOn
