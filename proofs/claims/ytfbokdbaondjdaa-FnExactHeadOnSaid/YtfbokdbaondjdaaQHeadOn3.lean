import Derived.Test.YtfbokdbaondjdaaQHeadOn0
import Derived.Test.YtfbokdbaondjdaaCy
import Derived.Test.YtfbokdbaondjdaaQHeadOn1
import Derived.Test.YtfbokdbaondjdaaQHeadOn2
namespace Go.Proofs.Ytfbokdbaondjdaa.PFnExactHeadOn
open Go.RowKit Go.Proofs.YtfbokdbaondjdaaW.PrintWords Go.Proofs.YtfbokdbaondjdaaW.PrintLast Go.Proofs.YtfbokdbaondjdaaW.PrintMore Go.Proofs.Ytfbokdbaondjdaa.Cz
attribute [local go_sem] max2_int min2_int max_two min_two max_three min_three max_four min_four
set_option linter.unusedVariables false
set_option linter.unusedSimpArgs false

theorem s3_0 {p : Prop} (h : p := by repeat (first | (with_reducible first | exact HB.out | apply below_alloc | apply pw_below_drewN | apply below_drew1 | refine below_set ?_ GE134.out | refine below_set ?_ GE135.out) | exact HB.out)) : p := h
theorem s3_1 {p : Prop} (h : p := by repeat (first | (with_reducible first | exact HB.out | apply below_alloc | apply pw_below_drewN | apply below_drew1 | refine below_set ?_ GE134.out | refine below_set ?_ GE135.out | refine below_set ?_ GE142.out) | exact HB.out)) : p := h
theorem s3_2 {p : Prop} (h : p := by repeat (first | (with_reducible first | exact HB.out | apply below_alloc | apply pw_below_drewN | apply below_drew1 | refine below_set ?_ GE134.out | refine below_set ?_ GE135.out | refine below_set ?_ GE143.out) | exact HB.out)) : p := h
theorem s3_3 {p : Prop} (h : p := by repeat (first | (with_reducible first | exact HB.out | apply below_alloc | apply pw_below_drewN | apply below_drew1 | refine below_set ?_ GE134.out | refine below_set ?_ GE135.out | refine below_set ?_ GE142.out | refine below_set ?_ GE143.out) | exact HB.out)) : p := h
theorem s3_4 {p : Prop} (h : p := by first | (simp only [putAll, Act.put, y1, y2, y3]; done) | (simp only [putAll, Act.put, y1, y2, y3]; rfl)) : p := h
theorem s3_5 {p : Prop} (h : p := by (try simp only [List.map_toArray, List.map_cons, List.map_nil]); first | done | rfl | (simp only [List.length_drop, List.length_take]; rfl)) : p := h
theorem s3_6 {p : Prop} (h : p := by repeat (first | (with_reducible first | exact HB.out | apply below_alloc | apply pw_below_drewN | apply below_drew1 | refine below_set ?_ GE134.out | refine below_set ?_ GE135.out | refine below_set ?_ GE143.out | refine below_set ?_ GE142.out) | exact HB.out)) : p := h
set_option maxRecDepth 100000 in
theorem t3_0 {p : Prop} (h : p := by
 intro hJ1_3_4_5
 refine join_ (σ := Nat) 3 (bz 8 31) (fun s_ => [(16, .agg #[.int .i64 t138, .int .i64 t139]), (18, .agg #[.int .i64 t140, .int .i64 t141]), (5, .pointer (some ⟨s_, 0, none⟩))]) (fun s_ w' => (w'.cell? ⟨gb134, 0, none⟩ = some (.int .i64 a0_0) ∧ w'.cell? ⟨gb134, 1, none⟩ = some (.int .i64 a0_1) ∧ w'.cell? ⟨gb134, 2, none⟩ = some (.int .i64 a0_2) ∧ w'.cell? ⟨gb134, 3, none⟩ = some (.int .i64 a0_3) ∧ w'.cell? ⟨gb134, 4, none⟩ = some (.int .i64 a0_4) ∧ w'.cell? ⟨gb134, 5, none⟩ = some (.int .i64 a0_5) ∧ w'.cell? ⟨gb135, 0, none⟩ = some (.int .i64 a1_0) ∧ w'.cell? ⟨gb135, 1, none⟩ = some (.int .i64 a1_1) ∧ w'.cell? ⟨gb135, 2, none⟩ = some (.int .i64 a1_2) ∧ w'.cell? ⟨gb135, 3, none⟩ = some (.int .i64 a1_3) ∧ w'.cell? ⟨gb135, 4, none⟩ = some (.int .i64 a1_4) ∧ w'.cell? ⟨gb135, 5, none⟩ = some (.int .i64 a1_5)) ∧ (w'.heap[gb134]? = some (.cells #[.int .i64 a0_0, .int .i64 a0_1, .int .i64 a0_2, .int .i64 a0_3, .int .i64 a0_4, .int .i64 a0_5] 25 (0, 0))) ∧ (w'.heap[gb135]? = some (.cells #[.int .i64 a1_0, .int .i64 a1_1, .int .i64 a1_2, .int .i64 a1_3, .int .i64 a1_4, .int .i64 a1_5] 25 (0, 0))) ∧ (w'.heap[s_]? = some (.cells #[.int .i64 0, .int .i64 0] 83 (0, 0))) ∧ (w.heap.size ≤ s_) ∧ (w.heap.size ≤ s_) ∧ (gb134 ≠ s_) ∧ (s_ ≠ gb134) ∧ (gb135 ≠ s_) ∧ (s_ ≠ gb135) ∧ (Below w.heap.size w w')) ?_ ?_
 rotate_left
 ·intro hJ1_3_4
  refine join_ (σ := Nat) 3 (bz 8 47) (fun s_ => [(16, .agg #[.int .i64 t138, .int .i64 t139]), (18, .agg #[.int .i64 t140, .int .i64 t141]), (6, .pointer (some ⟨s_, 0, none⟩))]) (fun s_ w' => (w'.cell? ⟨gb134, 0, none⟩ = some (.int .i64 a0_0) ∧ w'.cell? ⟨gb134, 1, none⟩ = some (.int .i64 a0_1) ∧ w'.cell? ⟨gb134, 2, none⟩ = some (.int .i64 a0_2) ∧ w'.cell? ⟨gb134, 3, none⟩ = some (.int .i64 a0_3) ∧ w'.cell? ⟨gb134, 4, none⟩ = some (.int .i64 a0_4) ∧ w'.cell? ⟨gb134, 5, none⟩ = some (.int .i64 a0_5) ∧ w'.cell? ⟨gb135, 0, none⟩ = some (.int .i64 a1_0) ∧ w'.cell? ⟨gb135, 1, none⟩ = some (.int .i64 a1_1) ∧ w'.cell? ⟨gb135, 2, none⟩ = some (.int .i64 a1_2) ∧ w'.cell? ⟨gb135, 3, none⟩ = some (.int .i64 a1_3) ∧ w'.cell? ⟨gb135, 4, none⟩ = some (.int .i64 a1_4) ∧ w'.cell? ⟨gb135, 5, none⟩ = some (.int .i64 a1_5)) ∧ (w'.heap[gb134]? = some (.cells #[.int .i64 a0_0, .int .i64 a0_1, .int .i64 a0_2, .int .i64 a0_3, .int .i64 a0_4, .int .i64 a0_5] 25 (0, 0))) ∧ (w'.heap[gb135]? = some (.cells #[.int .i64 a1_0, .int .i64 a1_1, .int .i64 a1_2, .int .i64 a1_3, .int .i64 a1_4, .int .i64 a1_5] 25 (0, 0))) ∧ (w'.heap[s_]? = some (.cells #[.int .i64 0, .int .i64 0] 83 (0, 0))) ∧ (w.heap.size ≤ s_) ∧ (w.heap.size ≤ s_) ∧ (gb134 ≠ s_) ∧ (s_ ≠ gb134) ∧ (gb135 ≠ s_) ∧ (s_ ≠ gb135) ∧ (Below w.heap.size w w')) ?_ ?_
  rotate_left
  ·intro hJ1_3_5
   refine join_ (σ := Nat × Nat) 3 (bz 8 55) (fun s_ => [(16, .agg #[.int .i64 t138, .int .i64 t139]), (5, .pointer (some ⟨s_.1, 0, none⟩)), (6, .pointer (some ⟨s_.2, 0, none⟩))]) (fun s_ w' => (w'.cell? ⟨gb134, 0, none⟩ = some (.int .i64 a0_0) ∧ w'.cell? ⟨gb134, 1, none⟩ = some (.int .i64 a0_1) ∧ w'.cell? ⟨gb134, 2, none⟩ = some (.int .i64 a0_2) ∧ w'.cell? ⟨gb134, 3, none⟩ = some (.int .i64 a0_3) ∧ w'.cell? ⟨gb134, 4, none⟩ = some (.int .i64 a0_4) ∧ w'.cell? ⟨gb134, 5, none⟩ = some (.int .i64 a0_5) ∧ w'.cell? ⟨gb135, 0, none⟩ = some (.int .i64 a1_0) ∧ w'.cell? ⟨gb135, 1, none⟩ = some (.int .i64 a1_1) ∧ w'.cell? ⟨gb135, 2, none⟩ = some (.int .i64 a1_2) ∧ w'.cell? ⟨gb135, 3, none⟩ = some (.int .i64 a1_3) ∧ w'.cell? ⟨gb135, 4, none⟩ = some (.int .i64 a1_4) ∧ w'.cell? ⟨gb135, 5, none⟩ = some (.int .i64 a1_5)) ∧ (w'.heap[gb134]? = some (.cells #[.int .i64 a0_0, .int .i64 a0_1, .int .i64 a0_2, .int .i64 a0_3, .int .i64 a0_4, .int .i64 a0_5] 25 (0, 0))) ∧ (w'.heap[gb135]? = some (.cells #[.int .i64 a1_0, .int .i64 a1_1, .int .i64 a1_2, .int .i64 a1_3, .int .i64 a1_4, .int .i64 a1_5] 25 (0, 0))) ∧ (w'.heap[s_.1]? = some (.cells #[.int .i64 0, .int .i64 0] 83 (0, 0))) ∧ (w'.heap[s_.2]? = some (.cells #[.int .i64 0, .int .i64 0] 83 (0, 0))) ∧ (w.heap.size ≤ s_.1) ∧ (w.heap.size ≤ s_.1) ∧ (gb134 ≠ s_.1) ∧ (s_.1 ≠ gb134) ∧ (gb135 ≠ s_.1) ∧ (s_.1 ≠ gb135) ∧ (s_.2 ≠ s_.1) ∧ (s_.1 ≠ s_.2) ∧ (w.heap.size ≤ s_.2) ∧ (w.heap.size ≤ s_.2) ∧ (gb134 ≠ s_.2) ∧ (s_.2 ≠ gb134) ∧ (gb135 ≠ s_.2) ∧ (s_.2 ≠ gb135) ∧ (Below w.heap.size w w')) ?_ ?_
   rotate_left
   ·intro hJ1_4_5
    refine join_ (σ := Unit) 4 (bz 8 15) (fun s_ => [(16, .agg #[.int .i64 t138, .int .i64 t139]), (18, .agg #[.int .i64 t140, .int .i64 t141])]) (fun s_ w' => (w'.cell? ⟨gb134, 0, none⟩ = some (.int .i64 a0_0) ∧ w'.cell? ⟨gb134, 1, none⟩ = some (.int .i64 a0_1) ∧ w'.cell? ⟨gb134, 2, none⟩ = some (.int .i64 a0_2) ∧ w'.cell? ⟨gb134, 3, none⟩ = some (.int .i64 a0_3) ∧ w'.cell? ⟨gb134, 4, none⟩ = some (.int .i64 a0_4) ∧ w'.cell? ⟨gb134, 5, none⟩ = some (.int .i64 a0_5) ∧ w'.cell? ⟨gb135, 0, none⟩ = some (.int .i64 a1_0) ∧ w'.cell? ⟨gb135, 1, none⟩ = some (.int .i64 a1_1) ∧ w'.cell? ⟨gb135, 2, none⟩ = some (.int .i64 a1_2) ∧ w'.cell? ⟨gb135, 3, none⟩ = some (.int .i64 a1_3) ∧ w'.cell? ⟨gb135, 4, none⟩ = some (.int .i64 a1_4) ∧ w'.cell? ⟨gb135, 5, none⟩ = some (.int .i64 a1_5)) ∧ (w'.heap[gb134]? = some (.cells #[.int .i64 a0_0, .int .i64 a0_1, .int .i64 a0_2, .int .i64 a0_3, .int .i64 a0_4, .int .i64 a0_5] 25 (0, 0))) ∧ (w'.heap[gb135]? = some (.cells #[.int .i64 a1_0, .int .i64 a1_1, .int .i64 a1_2, .int .i64 a1_3, .int .i64 a1_4, .int .i64 a1_5] 25 (0, 0))) ∧ (Below w.heap.size w w')) ?_ ?_
    rotate_left
    ·intro hJ1_3
     refine join_ (σ := Nat) 4 (bz 8 23) (fun s_ => [(16, .agg #[.int .i64 t138, .int .i64 t139]), (5, .pointer (some ⟨s_, 0, none⟩))]) (fun s_ w' => (w'.cell? ⟨gb134, 0, none⟩ = some (.int .i64 a0_0) ∧ w'.cell? ⟨gb134, 1, none⟩ = some (.int .i64 a0_1) ∧ w'.cell? ⟨gb134, 2, none⟩ = some (.int .i64 a0_2) ∧ w'.cell? ⟨gb134, 3, none⟩ = some (.int .i64 a0_3) ∧ w'.cell? ⟨gb134, 4, none⟩ = some (.int .i64 a0_4) ∧ w'.cell? ⟨gb134, 5, none⟩ = some (.int .i64 a0_5) ∧ w'.cell? ⟨gb135, 0, none⟩ = some (.int .i64 a1_0) ∧ w'.cell? ⟨gb135, 1, none⟩ = some (.int .i64 a1_1) ∧ w'.cell? ⟨gb135, 2, none⟩ = some (.int .i64 a1_2) ∧ w'.cell? ⟨gb135, 3, none⟩ = some (.int .i64 a1_3) ∧ w'.cell? ⟨gb135, 4, none⟩ = some (.int .i64 a1_4) ∧ w'.cell? ⟨gb135, 5, none⟩ = some (.int .i64 a1_5)) ∧ (w'.heap[gb134]? = some (.cells #[.int .i64 a0_0, .int .i64 a0_1, .int .i64 a0_2, .int .i64 a0_3, .int .i64 a0_4, .int .i64 a0_5] 25 (0, 0))) ∧ (w'.heap[gb135]? = some (.cells #[.int .i64 a1_0, .int .i64 a1_1, .int .i64 a1_2, .int .i64 a1_3, .int .i64 a1_4, .int .i64 a1_5] 25 (0, 0))) ∧ (w'.heap[s_]? = some (.cells #[.int .i64 0, .int .i64 0] 83 (0, 0))) ∧ (w.heap.size ≤ s_) ∧ (w.heap.size ≤ s_) ∧ (gb134 ≠ s_) ∧ (s_ ≠ gb134) ∧ (gb135 ≠ s_) ∧ (s_ ≠ gb135) ∧ (Below w.heap.size w w')) ?_ ?_
     rotate_left
     ·intro hJ1_4
      refine join_ (σ := Nat) 4 (bz 8 39) (fun s_ => [(16, .agg #[.int .i64 t138, .int .i64 t139]), (6, .pointer (some ⟨s_, 0, none⟩))]) (fun s_ w' => (w'.cell? ⟨gb134, 0, none⟩ = some (.int .i64 a0_0) ∧ w'.cell? ⟨gb134, 1, none⟩ = some (.int .i64 a0_1) ∧ w'.cell? ⟨gb134, 2, none⟩ = some (.int .i64 a0_2) ∧ w'.cell? ⟨gb134, 3, none⟩ = some (.int .i64 a0_3) ∧ w'.cell? ⟨gb134, 4, none⟩ = some (.int .i64 a0_4) ∧ w'.cell? ⟨gb134, 5, none⟩ = some (.int .i64 a0_5) ∧ w'.cell? ⟨gb135, 0, none⟩ = some (.int .i64 a1_0) ∧ w'.cell? ⟨gb135, 1, none⟩ = some (.int .i64 a1_1) ∧ w'.cell? ⟨gb135, 2, none⟩ = some (.int .i64 a1_2) ∧ w'.cell? ⟨gb135, 3, none⟩ = some (.int .i64 a1_3) ∧ w'.cell? ⟨gb135, 4, none⟩ = some (.int .i64 a1_4) ∧ w'.cell? ⟨gb135, 5, none⟩ = some (.int .i64 a1_5)) ∧ (w'.heap[gb134]? = some (.cells #[.int .i64 a0_0, .int .i64 a0_1, .int .i64 a0_2, .int .i64 a0_3, .int .i64 a0_4, .int .i64 a0_5] 25 (0, 0))) ∧ (w'.heap[gb135]? = some (.cells #[.int .i64 a1_0, .int .i64 a1_1, .int .i64 a1_2, .int .i64 a1_3, .int .i64 a1_4, .int .i64 a1_5] 25 (0, 0))) ∧ (w'.heap[s_]? = some (.cells #[.int .i64 0, .int .i64 0] 83 (0, 0))) ∧ (w.heap.size ≤ s_) ∧ (w.heap.size ≤ s_) ∧ (gb134 ≠ s_) ∧ (s_ ≠ gb134) ∧ (gb135 ≠ s_) ∧ (s_ ≠ gb135) ∧ (Below w.heap.size w w')) ?_ ?_
      rotate_left
      ·intro hJ1_5
       refine join_ (σ := Nat × Nat) 4 (bz 8 53) (fun s_ => [(5, .pointer (some ⟨s_.1, 0, none⟩)), (6, .pointer (some ⟨s_.2, 0, none⟩))]) (fun s_ w' => (w'.cell? ⟨gb134, 0, none⟩ = some (.int .i64 a0_0) ∧ w'.cell? ⟨gb134, 1, none⟩ = some (.int .i64 a0_1) ∧ w'.cell? ⟨gb134, 2, none⟩ = some (.int .i64 a0_2) ∧ w'.cell? ⟨gb134, 3, none⟩ = some (.int .i64 a0_3) ∧ w'.cell? ⟨gb134, 4, none⟩ = some (.int .i64 a0_4) ∧ w'.cell? ⟨gb134, 5, none⟩ = some (.int .i64 a0_5) ∧ w'.cell? ⟨gb135, 0, none⟩ = some (.int .i64 a1_0) ∧ w'.cell? ⟨gb135, 1, none⟩ = some (.int .i64 a1_1) ∧ w'.cell? ⟨gb135, 2, none⟩ = some (.int .i64 a1_2) ∧ w'.cell? ⟨gb135, 3, none⟩ = some (.int .i64 a1_3) ∧ w'.cell? ⟨gb135, 4, none⟩ = some (.int .i64 a1_4) ∧ w'.cell? ⟨gb135, 5, none⟩ = some (.int .i64 a1_5)) ∧ (w'.heap[gb134]? = some (.cells #[.int .i64 a0_0, .int .i64 a0_1, .int .i64 a0_2, .int .i64 a0_3, .int .i64 a0_4, .int .i64 a0_5] 25 (0, 0))) ∧ (w'.heap[gb135]? = some (.cells #[.int .i64 a1_0, .int .i64 a1_1, .int .i64 a1_2, .int .i64 a1_3, .int .i64 a1_4, .int .i64 a1_5] 25 (0, 0))) ∧ (w'.heap[s_.1]? = some (.cells #[.int .i64 0, .int .i64 0] 83 (0, 0))) ∧ (w'.heap[s_.2]? = some (.cells #[.int .i64 0, .int .i64 0] 83 (0, 0))) ∧ (w.heap.size ≤ s_.1) ∧ (w.heap.size ≤ s_.1) ∧ (gb134 ≠ s_.1) ∧ (s_.1 ≠ gb134) ∧ (gb135 ≠ s_.1) ∧ (s_.1 ≠ gb135) ∧ (s_.2 ≠ s_.1) ∧ (s_.1 ≠ s_.2) ∧ (w.heap.size ≤ s_.2) ∧ (w.heap.size ≤ s_.2) ∧ (gb134 ≠ s_.2) ∧ (s_.2 ≠ gb134) ∧ (gb135 ≠ s_.2) ∧ (s_.2 ≠ gb135) ∧ (Below w.heap.size w w')) ?_ ?_
       rotate_left
       ·intro hJ4_5
        refine join_ (σ := Unit) 5 (bz 8 7) (fun s_ => [(16, .agg #[.int .i64 t138, .int .i64 t139])]) (fun s_ w' => (w'.cell? ⟨gb134, 0, none⟩ = some (.int .i64 a0_0) ∧ w'.cell? ⟨gb134, 1, none⟩ = some (.int .i64 a0_1) ∧ w'.cell? ⟨gb134, 2, none⟩ = some (.int .i64 a0_2) ∧ w'.cell? ⟨gb134, 3, none⟩ = some (.int .i64 a0_3) ∧ w'.cell? ⟨gb134, 4, none⟩ = some (.int .i64 a0_4) ∧ w'.cell? ⟨gb134, 5, none⟩ = some (.int .i64 a0_5) ∧ w'.cell? ⟨gb135, 0, none⟩ = some (.int .i64 a1_0) ∧ w'.cell? ⟨gb135, 1, none⟩ = some (.int .i64 a1_1) ∧ w'.cell? ⟨gb135, 2, none⟩ = some (.int .i64 a1_2) ∧ w'.cell? ⟨gb135, 3, none⟩ = some (.int .i64 a1_3) ∧ w'.cell? ⟨gb135, 4, none⟩ = some (.int .i64 a1_4) ∧ w'.cell? ⟨gb135, 5, none⟩ = some (.int .i64 a1_5)) ∧ (w'.heap[gb134]? = some (.cells #[.int .i64 a0_0, .int .i64 a0_1, .int .i64 a0_2, .int .i64 a0_3, .int .i64 a0_4, .int .i64 a0_5] 25 (0, 0))) ∧ (w'.heap[gb135]? = some (.cells #[.int .i64 a1_0, .int .i64 a1_1, .int .i64 a1_2, .int .i64 a1_3, .int .i64 a1_4, .int .i64 a1_5] 25 (0, 0))) ∧ (Below w.heap.size w w')) ?_ ?_
        rotate_left
        ·intro hJ1
         refine join_ (σ := Nat) 5 (bz 8 21) (fun s_ => [(5, .pointer (some ⟨s_, 0, none⟩))]) (fun s_ w' => (w'.cell? ⟨gb134, 0, none⟩ = some (.int .i64 a0_0) ∧ w'.cell? ⟨gb134, 1, none⟩ = some (.int .i64 a0_1) ∧ w'.cell? ⟨gb134, 2, none⟩ = some (.int .i64 a0_2) ∧ w'.cell? ⟨gb134, 3, none⟩ = some (.int .i64 a0_3) ∧ w'.cell? ⟨gb134, 4, none⟩ = some (.int .i64 a0_4) ∧ w'.cell? ⟨gb134, 5, none⟩ = some (.int .i64 a0_5) ∧ w'.cell? ⟨gb135, 0, none⟩ = some (.int .i64 a1_0) ∧ w'.cell? ⟨gb135, 1, none⟩ = some (.int .i64 a1_1) ∧ w'.cell? ⟨gb135, 2, none⟩ = some (.int .i64 a1_2) ∧ w'.cell? ⟨gb135, 3, none⟩ = some (.int .i64 a1_3) ∧ w'.cell? ⟨gb135, 4, none⟩ = some (.int .i64 a1_4) ∧ w'.cell? ⟨gb135, 5, none⟩ = some (.int .i64 a1_5)) ∧ (w'.heap[gb134]? = some (.cells #[.int .i64 a0_0, .int .i64 a0_1, .int .i64 a0_2, .int .i64 a0_3, .int .i64 a0_4, .int .i64 a0_5] 25 (0, 0))) ∧ (w'.heap[gb135]? = some (.cells #[.int .i64 a1_0, .int .i64 a1_1, .int .i64 a1_2, .int .i64 a1_3, .int .i64 a1_4, .int .i64 a1_5] 25 (0, 0))) ∧ (w'.heap[s_]? = some (.cells #[.int .i64 0, .int .i64 0] 83 (0, 0))) ∧ (w.heap.size ≤ s_) ∧ (w.heap.size ≤ s_) ∧ (gb134 ≠ s_) ∧ (s_ ≠ gb134) ∧ (gb135 ≠ s_) ∧ (s_ ≠ gb135) ∧ (Below w.heap.size w w')) ?_ ?_
         rotate_left
         ·intro hJ4
          refine join_ (σ := Nat) 5 (bz 8 37) (fun s_ => [(6, .pointer (some ⟨s_, 0, none⟩))]) (fun s_ w' => (w'.cell? ⟨gb134, 0, none⟩ = some (.int .i64 a0_0) ∧ w'.cell? ⟨gb134, 1, none⟩ = some (.int .i64 a0_1) ∧ w'.cell? ⟨gb134, 2, none⟩ = some (.int .i64 a0_2) ∧ w'.cell? ⟨gb134, 3, none⟩ = some (.int .i64 a0_3) ∧ w'.cell? ⟨gb134, 4, none⟩ = some (.int .i64 a0_4) ∧ w'.cell? ⟨gb134, 5, none⟩ = some (.int .i64 a0_5) ∧ w'.cell? ⟨gb135, 0, none⟩ = some (.int .i64 a1_0) ∧ w'.cell? ⟨gb135, 1, none⟩ = some (.int .i64 a1_1) ∧ w'.cell? ⟨gb135, 2, none⟩ = some (.int .i64 a1_2) ∧ w'.cell? ⟨gb135, 3, none⟩ = some (.int .i64 a1_3) ∧ w'.cell? ⟨gb135, 4, none⟩ = some (.int .i64 a1_4) ∧ w'.cell? ⟨gb135, 5, none⟩ = some (.int .i64 a1_5)) ∧ (w'.heap[gb134]? = some (.cells #[.int .i64 a0_0, .int .i64 a0_1, .int .i64 a0_2, .int .i64 a0_3, .int .i64 a0_4, .int .i64 a0_5] 25 (0, 0))) ∧ (w'.heap[gb135]? = some (.cells #[.int .i64 a1_0, .int .i64 a1_1, .int .i64 a1_2, .int .i64 a1_3, .int .i64 a1_4, .int .i64 a1_5] 25 (0, 0))) ∧ (w'.heap[s_]? = some (.cells #[.int .i64 0, .int .i64 0] 83 (0, 0))) ∧ (w.heap.size ≤ s_) ∧ (w.heap.size ≤ s_) ∧ (gb134 ≠ s_) ∧ (s_ ≠ gb134) ∧ (gb135 ≠ s_) ∧ (s_ ≠ gb135) ∧ (Below w.heap.size w w')) ?_ ?_
          rotate_left
          ·intro hJ5
           refine three_ (i := 1) (j := 4) (k := 5) (Ni := some 16) (Nj := some 5) (Nk := some 6) (bz 8 7) (bz 8 21) (bz 8 37) rfl rfl rfl rfl rfl rfl (three_of HT_.out (by kernel_rfl)) (by decide) (by decide) (by decide) (fun K hK => ?_) (fun K hK => ?_) (fun K hK => ?_)
           ·skip
            refine goes_ Try.func66 (by kernel_rfl) rfl #[.agg #[.int .i64 a0_0, .int .i64 a0_1, .int .i64 a0_2, .int .i64 a0_3, .int .i64 a0_4, .int .i64 a0_5]] (by rfl) rfl rfl s3_5 ?_
            with_reducible refine (spec_l8Way.calls a0_0 a0_1 a0_2 a0_3 a0_4 a0_5 t138 t139 _ A18.out).mono ?_
            rintro e w4 ⟨rfl, hb⟩
            refine ⟨_, rfl, ?_⟩
            have n0_ := Aside0.mk (bb (zk BK134.out) hb)
            have n1_ := Aside0.mk (bb (zk BK135.out) hb)
            have n2_ := Aside0.mk (below_step s3_0 hb)
            clear BK134 BK135 HB
            have BK134 := n0_
            have BK135 := n1_
            have HB := n2_
            clear n0_ n1_ n2_
            (try clear hb)
            (try clear hb2)
            (try clear hk)
            (try clear hi)
            refine hK.out _ _ ⟨bc BK134.out 0, bc BK134.out 1, bc BK134.out 2, bc BK134.out 3, bc BK134.out 4, bc BK134.out 5, bc BK135.out 0, bc BK135.out 1, bc BK135.out 2, bc BK135.out 3, bc BK135.out 4, bc BK135.out 5⟩ (fun hHeld => ?_)
            clear hK K
            refine norm_ (a' := ?_) ?_ ?_
            rotate_left
            ·show Act.put _ (some 16) _ = _
             simp only [Act.put, y1, y2, y3, i64_w, i32_w]
             rfl
            exact norm_ s3_4 (hJ1 () _ ⟨hHeld, (zk BK134.out), (zk BK135.out), s3_0⟩)
           ·skip
            refine box_step ?hg (N := 5) ?hd (cs := #[.int .i64 0, .int .i64 0]) (t := 83) ?hr ?_; (case hd => rfl); (case hg => rfl); (case hr => first | (go_simp; done) | (go_simp; rfl))
            intro gb142 hg w4 hbox hb
            have n0_ := Aside0.mk (bb (zk BK134.out) hb)
            have n1_ := Aside0.mk (bb (zk BK135.out) hb)
            have n2_ := Aside0.mk (below_step s3_0 hb)
            have n3_ := Aside0.mk (hbox)
            have n4_ := Aside0.mk (ns hg s3_0 : w.heap.size ≤ gb142)
            have n5_ := Aside0.mk (ns hg s3_0 : w.heap.size ≤ gb142)
            have n6_ := Aside0.mk ((nlt hg (zk BK134.out) : gb134 ≠ gb142))
            have n7_ := Aside0.mk ((ngt hg (zk BK134.out) : gb142 ≠ gb134))
            have n8_ := Aside0.mk ((nlt hg (zk BK135.out) : gb135 ≠ gb142))
            have n9_ := Aside0.mk ((ngt hg (zk BK135.out) : gb142 ≠ gb135))
            clear BK134 BK135 HB
            have BK134 := n0_
            have BK135 := n1_
            have HB := n2_
            have BK142 := n3_
            have GW142 := n4_
            have GE142 := n5_
            have NB134_142 := n6_
            have NB142_134 := n7_
            have NB135_142 := n8_
            have NB142_135 := n9_
            clear n0_ n1_ n2_ n3_ n4_ n5_ n6_ n7_ n8_ n9_ hb hbox hg
            refine hK.out _ _ ⟨bc BK134.out 0, bc BK134.out 1, bc BK134.out 2, bc BK134.out 3, bc BK134.out 4, bc BK134.out 5, bc BK135.out 0, bc BK135.out 1, bc BK135.out 2, bc BK135.out 3, bc BK135.out 4, bc BK135.out 5⟩ (fun hHeld => ?_)
            clear hK K
            refine norm_ (a' := ?_) ?_ ?_
            rotate_left
            ·show Act.put _ (some 5) _ = _
             simp only [Act.put, y1, y2, y3, i64_w, i32_w]
             rfl
            exact norm_ s3_4 (hJ4 (gb142) _ ⟨hHeld, (zk BK134.out), (zk BK135.out), (zk BK142.out), GW142.out, GE142.out, NB134_142.out, NB142_134.out, NB135_142.out, NB142_135.out, s3_1⟩)
           ·skip
            refine box_step ?hg (N := 6) ?hd (cs := #[.int .i64 0, .int .i64 0]) (t := 83) ?hr ?_; (case hd => rfl); (case hg => rfl); (case hr => first | (go_simp; done) | (go_simp; rfl))
            intro gb143 hg w4 hbox hb
            have n0_ := Aside0.mk (bb (zk BK134.out) hb)
            have n1_ := Aside0.mk (bb (zk BK135.out) hb)
            have n2_ := Aside0.mk (below_step s3_0 hb)
            have n3_ := Aside0.mk (hbox)
            have n4_ := Aside0.mk (ns hg s3_0 : w.heap.size ≤ gb143)
            have n5_ := Aside0.mk (ns hg s3_0 : w.heap.size ≤ gb143)
            have n6_ := Aside0.mk ((nlt hg (zk BK134.out) : gb134 ≠ gb143))
            have n7_ := Aside0.mk ((ngt hg (zk BK134.out) : gb143 ≠ gb134))
            have n8_ := Aside0.mk ((nlt hg (zk BK135.out) : gb135 ≠ gb143))
            have n9_ := Aside0.mk ((ngt hg (zk BK135.out) : gb143 ≠ gb135))
            clear BK134 BK135 HB
            have BK134 := n0_
            have BK135 := n1_
            have HB := n2_
            have BK143 := n3_
            have GW143 := n4_
            have GE143 := n5_
            have NB134_143 := n6_
            have NB143_134 := n7_
            have NB135_143 := n8_
            have NB143_135 := n9_
            clear n0_ n1_ n2_ n3_ n4_ n5_ n6_ n7_ n8_ n9_ hb hbox hg
            refine hK.out _ _ ⟨bc BK134.out 0, bc BK134.out 1, bc BK134.out 2, bc BK134.out 3, bc BK134.out 4, bc BK134.out 5, bc BK135.out 0, bc BK135.out 1, bc BK135.out 2, bc BK135.out 3, bc BK135.out 4, bc BK135.out 5⟩ (fun hHeld => ?_)
            clear hK K
            refine norm_ (a' := ?_) ?_ ?_
            rotate_left
            ·show Act.put _ (some 6) _ = _
             simp only [Act.put, y1, y2, y3, i64_w, i32_w]
             rfl
            exact norm_ s3_4 (hJ5 (gb143) _ ⟨hHeld, (zk BK134.out), (zk BK135.out), (zk BK143.out), GW143.out, GE143.out, NB134_143.out, NB143_134.out, NB135_143.out, NB143_135.out, s3_2⟩)
          ·skip
           rintro gb143 w4 ⟨hS_, h0_, h1_, h2_, h3_, h4_, h5_, h6_, h7_, h8_, h9_⟩
           have n0_ : Aside0 (w4.heap[gb134]? = some (.cells #[.int .i64 a0_0, .int .i64 a0_1, .int .i64 a0_2, .int .i64 a0_3, .int .i64 a0_4, .int .i64 a0_5] 25 (0, 0))) := ⟨h0_⟩
           have n1_ : Aside0 (w4.heap[gb135]? = some (.cells #[.int .i64 a1_0, .int .i64 a1_1, .int .i64 a1_2, .int .i64 a1_3, .int .i64 a1_4, .int .i64 a1_5] 25 (0, 0))) := ⟨h1_⟩
           have n2_ : Aside0 (w4.heap[gb143]? = some (.cells #[.int .i64 0, .int .i64 0] 83 (0, 0))) := ⟨h2_⟩
           have n3_ : Aside0 (w.heap.size ≤ gb143) := ⟨h3_⟩
           have n4_ : Aside0 (w.heap.size ≤ gb143) := ⟨h4_⟩
           have n5_ : Aside0 (gb134 ≠ gb143) := ⟨h5_⟩
           have n6_ : Aside0 (gb143 ≠ gb134) := ⟨h6_⟩
           have n7_ : Aside0 (gb135 ≠ gb143) := ⟨h7_⟩
           have n8_ : Aside0 (gb143 ≠ gb135) := ⟨h8_⟩
           have n9_ : Aside0 (Below w.heap.size w w4) := ⟨h9_⟩
           clear BK134 BK135 HB h0_ h1_ h2_ h3_ h4_ h5_ h6_ h7_ h8_ h9_
           have BK134 := n0_
           have BK135 := n1_
           have BK143 := n2_
           have GW143 := n3_
           have GE143 := n4_
           have NB134_143 := n5_
           have NB143_134 := n6_
           have NB135_143 := n7_
           have NB143_135 := n8_
           have HB := n9_
           clear n0_ n1_ n2_ n3_ n4_ n5_ n6_ n7_ n8_ n9_
           have hHeld : w4.cell? ⟨gb134, 0, none⟩ = some (.int .i64 a0_0) ∧ w4.cell? ⟨gb134, 1, none⟩ = some (.int .i64 a0_1) ∧ w4.cell? ⟨gb134, 2, none⟩ = some (.int .i64 a0_2) ∧ w4.cell? ⟨gb134, 3, none⟩ = some (.int .i64 a0_3) ∧ w4.cell? ⟨gb134, 4, none⟩ = some (.int .i64 a0_4) ∧ w4.cell? ⟨gb134, 5, none⟩ = some (.int .i64 a0_5) ∧ w4.cell? ⟨gb135, 0, none⟩ = some (.int .i64 a1_0) ∧ w4.cell? ⟨gb135, 1, none⟩ = some (.int .i64 a1_1) ∧ w4.cell? ⟨gb135, 2, none⟩ = some (.int .i64 a1_2) ∧ w4.cell? ⟨gb135, 3, none⟩ = some (.int .i64 a1_3) ∧ w4.cell? ⟨gb135, 4, none⟩ = some (.int .i64 a1_4) ∧ w4.cell? ⟨gb135, 5, none⟩ = some (.int .i64 a1_5) := hS_
           refine norm_ (a' := ?_) ?_ ?_
           rotate_left
           ·simp only [putAll, Act.put, y1, y2, y3]
            rfl
           refine two_ (i := 1) (j := 4) (Ni := some 16) (Nj := some 5) (bz 8 39) (bz 8 53) rfl rfl rfl rfl (two_of HT_.out (by kernel_rfl)) (by decide) (by decide) (fun K hK => ?_) (fun K hK => ?_)
           ·skip
            refine goes_ Try.func66 (by kernel_rfl) rfl #[.agg #[.int .i64 a0_0, .int .i64 a0_1, .int .i64 a0_2, .int .i64 a0_3, .int .i64 a0_4, .int .i64 a0_5]] (by rfl) rfl rfl s3_5 ?_
            with_reducible refine (spec_l8Way.calls a0_0 a0_1 a0_2 a0_3 a0_4 a0_5 t138 t139 _ A18.out).mono ?_
            rintro e w5 ⟨rfl, hb⟩
            refine ⟨_, rfl, ?_⟩
            have n0_ := Aside0.mk (bb (zk BK134.out) hb)
            have n1_ := Aside0.mk (bb (zk BK135.out) hb)
            have n2_ := Aside0.mk (bb (zk BK143.out) hb)
            have n3_ := Aside0.mk (below_step s3_2 hb)
            clear BK134 BK135 BK143 HB
            have BK134 := n0_
            have BK135 := n1_
            have BK143 := n2_
            have HB := n3_
            clear n0_ n1_ n2_ n3_
            (try clear hb)
            (try clear hb2)
            (try clear hk)
            (try clear hi)
            refine hK.out _ _ ⟨bc BK134.out 0, bc BK134.out 1, bc BK134.out 2, bc BK134.out 3, bc BK134.out 4, bc BK134.out 5, bc BK135.out 0, bc BK135.out 1, bc BK135.out 2, bc BK135.out 3, bc BK135.out 4, bc BK135.out 5⟩ (fun hHeld => ?_)
            clear hK K
            refine norm_ (a' := ?_) ?_ ?_
            rotate_left
            ·show Act.put _ (some 16) _ = _
             simp only [Act.put, y1, y2, y3, i64_w, i32_w]
             rfl
            exact norm_ s3_4 (hJ1_5 (gb143) _ ⟨hHeld, (zk BK134.out), (zk BK135.out), (zk BK143.out), GW143.out, GE143.out, NB134_143.out, NB143_134.out, NB135_143.out, NB143_135.out, s3_2⟩)
           ·skip
            refine box_step ?hg (N := 5) ?hd (cs := #[.int .i64 0, .int .i64 0]) (t := 83) ?hr ?_; (case hd => rfl); (case hg => rfl); (case hr => first | (go_simp; done) | (go_simp; rfl))
            intro gb142 hg w5 hbox hb
            have n0_ := Aside0.mk (bb (zk BK134.out) hb)
            have n1_ := Aside0.mk (bb (zk BK135.out) hb)
            have n2_ := Aside0.mk (bb (zk BK143.out) hb)
            have n3_ := Aside0.mk (below_step s3_2 hb)
            have n4_ := Aside0.mk (hbox)
            have n5_ := Aside0.mk (ns hg s3_2 : w.heap.size ≤ gb142)
            have n6_ := Aside0.mk (ns hg s3_2 : w.heap.size ≤ gb142)
            have n7_ := Aside0.mk ((nlt hg (zk BK134.out) : gb134 ≠ gb142))
            have n8_ := Aside0.mk ((ngt hg (zk BK134.out) : gb142 ≠ gb134))
            have n9_ := Aside0.mk ((nlt hg (zk BK135.out) : gb135 ≠ gb142))
            have n10_ := Aside0.mk ((ngt hg (zk BK135.out) : gb142 ≠ gb135))
            have n11_ := Aside0.mk ((nlt hg (zk BK143.out) : gb143 ≠ gb142))
            have n12_ := Aside0.mk ((ngt hg (zk BK143.out) : gb142 ≠ gb143))
            clear BK134 BK135 BK143 HB
            have BK134 := n0_
            have BK135 := n1_
            have BK143 := n2_
            have HB := n3_
            have BK142 := n4_
            have GW142 := n5_
            have GE142 := n6_
            have NB134_142 := n7_
            have NB142_134 := n8_
            have NB135_142 := n9_
            have NB142_135 := n10_
            have NB143_142 := n11_
            have NB142_143 := n12_
            clear n0_ n1_ n2_ n3_ n4_ n5_ n6_ n7_ n8_ n9_ n10_ n11_ n12_ hb hbox hg
            refine hK.out _ _ ⟨bc BK134.out 0, bc BK134.out 1, bc BK134.out 2, bc BK134.out 3, bc BK134.out 4, bc BK134.out 5, bc BK135.out 0, bc BK135.out 1, bc BK135.out 2, bc BK135.out 3, bc BK135.out 4, bc BK135.out 5⟩ (fun hHeld => ?_)
            clear hK K
            refine norm_ (a' := ?_) ?_ ?_
            rotate_left
            ·show Act.put _ (some 5) _ = _
             simp only [Act.put, y1, y2, y3, i64_w, i32_w]
             rfl
            exact norm_ s3_4 (hJ4_5 (gb142, gb143) _ ⟨hHeld, (zk BK134.out), (zk BK135.out), (zk BK142.out), (zk BK143.out), GW142.out, GE142.out, NB134_142.out, NB142_134.out, NB135_142.out, NB142_135.out, NB143_142.out, NB142_143.out, GW143.out, GE143.out, NB134_143.out, NB143_134.out, NB135_143.out, NB143_135.out, s3_6⟩)
         ·skip
          rintro gb142 w4 ⟨hS_, h0_, h1_, h2_, h3_, h4_, h5_, h6_, h7_, h8_, h9_⟩
          have n0_ : Aside0 (w4.heap[gb134]? = some (.cells #[.int .i64 a0_0, .int .i64 a0_1, .int .i64 a0_2, .int .i64 a0_3, .int .i64 a0_4, .int .i64 a0_5] 25 (0, 0))) := ⟨h0_⟩
          have n1_ : Aside0 (w4.heap[gb135]? = some (.cells #[.int .i64 a1_0, .int .i64 a1_1, .int .i64 a1_2, .int .i64 a1_3, .int .i64 a1_4, .int .i64 a1_5] 25 (0, 0))) := ⟨h1_⟩
          have n2_ : Aside0 (w4.heap[gb142]? = some (.cells #[.int .i64 0, .int .i64 0] 83 (0, 0))) := ⟨h2_⟩
          have n3_ : Aside0 (w.heap.size ≤ gb142) := ⟨h3_⟩
          have n4_ : Aside0 (w.heap.size ≤ gb142) := ⟨h4_⟩
          have n5_ : Aside0 (gb134 ≠ gb142) := ⟨h5_⟩
          have n6_ : Aside0 (gb142 ≠ gb134) := ⟨h6_⟩
          have n7_ : Aside0 (gb135 ≠ gb142) := ⟨h7_⟩
          have n8_ : Aside0 (gb142 ≠ gb135) := ⟨h8_⟩
          have n9_ : Aside0 (Below w.heap.size w w4) := ⟨h9_⟩
          clear BK134 BK135 HB h0_ h1_ h2_ h3_ h4_ h5_ h6_ h7_ h8_ h9_
          have BK134 := n0_
          have BK135 := n1_
          have BK142 := n2_
          have GW142 := n3_
          have GE142 := n4_
          have NB134_142 := n5_
          have NB142_134 := n6_
          have NB135_142 := n7_
          have NB142_135 := n8_
          have HB := n9_
          clear n0_ n1_ n2_ n3_ n4_ n5_ n6_ n7_ n8_ n9_
          have hHeld : w4.cell? ⟨gb134, 0, none⟩ = some (.int .i64 a0_0) ∧ w4.cell? ⟨gb134, 1, none⟩ = some (.int .i64 a0_1) ∧ w4.cell? ⟨gb134, 2, none⟩ = some (.int .i64 a0_2) ∧ w4.cell? ⟨gb134, 3, none⟩ = some (.int .i64 a0_3) ∧ w4.cell? ⟨gb134, 4, none⟩ = some (.int .i64 a0_4) ∧ w4.cell? ⟨gb134, 5, none⟩ = some (.int .i64 a0_5) ∧ w4.cell? ⟨gb135, 0, none⟩ = some (.int .i64 a1_0) ∧ w4.cell? ⟨gb135, 1, none⟩ = some (.int .i64 a1_1) ∧ w4.cell? ⟨gb135, 2, none⟩ = some (.int .i64 a1_2) ∧ w4.cell? ⟨gb135, 3, none⟩ = some (.int .i64 a1_3) ∧ w4.cell? ⟨gb135, 4, none⟩ = some (.int .i64 a1_4) ∧ w4.cell? ⟨gb135, 5, none⟩ = some (.int .i64 a1_5) := hS_
          refine norm_ (a' := ?_) ?_ ?_
          rotate_left
          ·simp only [putAll, Act.put, y1, y2, y3]
           rfl
          refine two_ (i := 1) (j := 5) (Ni := some 16) (Nj := some 6) (bz 8 23) (bz 8 53) rfl rfl rfl rfl (two_of HT_.out (by kernel_rfl)) (by decide) (by decide) (fun K hK => ?_) (fun K hK => ?_)
          ·skip
           refine goes_ Try.func66 (by kernel_rfl) rfl #[.agg #[.int .i64 a0_0, .int .i64 a0_1, .int .i64 a0_2, .int .i64 a0_3, .int .i64 a0_4, .int .i64 a0_5]] (by rfl) rfl rfl s3_5 ?_
           with_reducible refine (spec_l8Way.calls a0_0 a0_1 a0_2 a0_3 a0_4 a0_5 t138 t139 _ A18.out).mono ?_
           rintro e w5 ⟨rfl, hb⟩
           refine ⟨_, rfl, ?_⟩
           have n0_ := Aside0.mk (bb (zk BK134.out) hb)
           have n1_ := Aside0.mk (bb (zk BK135.out) hb)
           have n2_ := Aside0.mk (bb (zk BK142.out) hb)
           have n3_ := Aside0.mk (below_step s3_1 hb)
           clear BK134 BK135 BK142 HB
           have BK134 := n0_
           have BK135 := n1_
           have BK142 := n2_
           have HB := n3_
           clear n0_ n1_ n2_ n3_
           (try clear hb)
           (try clear hb2)
           (try clear hk)
           (try clear hi)
           refine hK.out _ _ ⟨bc BK134.out 0, bc BK134.out 1, bc BK134.out 2, bc BK134.out 3, bc BK134.out 4, bc BK134.out 5, bc BK135.out 0, bc BK135.out 1, bc BK135.out 2, bc BK135.out 3, bc BK135.out 4, bc BK135.out 5⟩ (fun hHeld => ?_)
           clear hK K
           refine norm_ (a' := ?_) ?_ ?_
           rotate_left
           ·show Act.put _ (some 16) _ = _
            simp only [Act.put, y1, y2, y3, i64_w, i32_w]
            rfl
           exact norm_ s3_4 (hJ1_4 (gb142) _ ⟨hHeld, (zk BK134.out), (zk BK135.out), (zk BK142.out), GW142.out, GE142.out, NB134_142.out, NB142_134.out, NB135_142.out, NB142_135.out, s3_1⟩)
          ·skip
           refine box_step ?hg (N := 6) ?hd (cs := #[.int .i64 0, .int .i64 0]) (t := 83) ?hr ?_; (case hd => rfl); (case hg => rfl); (case hr => first | (go_simp; done) | (go_simp; rfl))
           intro gb143 hg w5 hbox hb
           have n0_ := Aside0.mk (bb (zk BK134.out) hb)
           have n1_ := Aside0.mk (bb (zk BK135.out) hb)
           have n2_ := Aside0.mk (bb (zk BK142.out) hb)
           have n3_ := Aside0.mk (below_step s3_1 hb)
           have n4_ := Aside0.mk (hbox)
           have n5_ := Aside0.mk (ns hg s3_1 : w.heap.size ≤ gb143)
           have n6_ := Aside0.mk (ns hg s3_1 : w.heap.size ≤ gb143)
           have n7_ := Aside0.mk ((nlt hg (zk BK134.out) : gb134 ≠ gb143))
           have n8_ := Aside0.mk ((ngt hg (zk BK134.out) : gb143 ≠ gb134))
           have n9_ := Aside0.mk ((nlt hg (zk BK135.out) : gb135 ≠ gb143))
           have n10_ := Aside0.mk ((ngt hg (zk BK135.out) : gb143 ≠ gb135))
           have n11_ := Aside0.mk ((nlt hg (zk BK142.out) : gb142 ≠ gb143))
           have n12_ := Aside0.mk ((ngt hg (zk BK142.out) : gb143 ≠ gb142))
           clear BK134 BK135 BK142 HB
           have BK134 := n0_
           have BK135 := n1_
           have BK142 := n2_
           have HB := n3_
           have BK143 := n4_
           have GW143 := n5_
           have GE143 := n6_
           have NB134_143 := n7_
           have NB143_134 := n8_
           have NB135_143 := n9_
           have NB143_135 := n10_
           have NB142_143 := n11_
           have NB143_142 := n12_
           clear n0_ n1_ n2_ n3_ n4_ n5_ n6_ n7_ n8_ n9_ n10_ n11_ n12_ hb hbox hg
           refine hK.out _ _ ⟨bc BK134.out 0, bc BK134.out 1, bc BK134.out 2, bc BK134.out 3, bc BK134.out 4, bc BK134.out 5, bc BK135.out 0, bc BK135.out 1, bc BK135.out 2, bc BK135.out 3, bc BK135.out 4, bc BK135.out 5⟩ (fun hHeld => ?_)
           clear hK K
           refine norm_ (a' := ?_) ?_ ?_
           rotate_left
           ·show Act.put _ (some 6) _ = _
            simp only [Act.put, y1, y2, y3, i64_w, i32_w]
            rfl
           exact norm_ s3_4 (hJ4_5 (gb142, gb143) _ ⟨hHeld, (zk BK134.out), (zk BK135.out), (zk BK142.out), (zk BK143.out), GW142.out, GE142.out, NB134_142.out, NB142_134.out, NB135_142.out, NB142_135.out, NB143_142.out, NB142_143.out, GW143.out, GE143.out, NB134_143.out, NB143_134.out, NB135_143.out, NB143_135.out, s3_3⟩)
        ·skip
         rintro _ w4 ⟨hS_, h0_, h1_, h2_⟩
         have n0_ : Aside0 (w4.heap[gb134]? = some (.cells #[.int .i64 a0_0, .int .i64 a0_1, .int .i64 a0_2, .int .i64 a0_3, .int .i64 a0_4, .int .i64 a0_5] 25 (0, 0))) := ⟨h0_⟩
         have n1_ : Aside0 (w4.heap[gb135]? = some (.cells #[.int .i64 a1_0, .int .i64 a1_1, .int .i64 a1_2, .int .i64 a1_3, .int .i64 a1_4, .int .i64 a1_5] 25 (0, 0))) := ⟨h1_⟩
         have n2_ : Aside0 (Below w.heap.size w w4) := ⟨h2_⟩
         clear BK134 BK135 HB h0_ h1_ h2_
         have BK134 := n0_
         have BK135 := n1_
         have HB := n2_
         clear n0_ n1_ n2_
         have hHeld : w4.cell? ⟨gb134, 0, none⟩ = some (.int .i64 a0_0) ∧ w4.cell? ⟨gb134, 1, none⟩ = some (.int .i64 a0_1) ∧ w4.cell? ⟨gb134, 2, none⟩ = some (.int .i64 a0_2) ∧ w4.cell? ⟨gb134, 3, none⟩ = some (.int .i64 a0_3) ∧ w4.cell? ⟨gb134, 4, none⟩ = some (.int .i64 a0_4) ∧ w4.cell? ⟨gb134, 5, none⟩ = some (.int .i64 a0_5) ∧ w4.cell? ⟨gb135, 0, none⟩ = some (.int .i64 a1_0) ∧ w4.cell? ⟨gb135, 1, none⟩ = some (.int .i64 a1_1) ∧ w4.cell? ⟨gb135, 2, none⟩ = some (.int .i64 a1_2) ∧ w4.cell? ⟨gb135, 3, none⟩ = some (.int .i64 a1_3) ∧ w4.cell? ⟨gb135, 4, none⟩ = some (.int .i64 a1_4) ∧ w4.cell? ⟨gb135, 5, none⟩ = some (.int .i64 a1_5) := hS_
         refine norm_ (a' := ?_) ?_ ?_
         rotate_left
         ·simp only [putAll, Act.put, y1, y2, y3]
          rfl
         refine three_ (i := 3) (j := 4) (k := 5) (Ni := some 18) (Nj := some 5) (Nk := some 6) (bz 8 15) (bz 8 23) (bz 8 39) rfl rfl rfl rfl rfl rfl (three_of HT_.out (by kernel_rfl)) (by decide) (by decide) (by decide) (fun K hK => ?_) (fun K hK => ?_) (fun K hK => ?_)
         ·skip
          refine goes_ Try.func66 (by kernel_rfl) rfl #[.agg #[.int .i64 a1_0, .int .i64 a1_1, .int .i64 a1_2, .int .i64 a1_3, .int .i64 a1_4, .int .i64 a1_5]] (by rfl) rfl rfl s3_5 ?_
          with_reducible refine (spec_l8Way.calls a1_0 a1_1 a1_2 a1_3 a1_4 a1_5 t140 t141 _ A19.out).mono ?_
          rintro e w5 ⟨rfl, hb⟩
          refine ⟨_, rfl, ?_⟩
          have n0_ := Aside0.mk (bb (zk BK134.out) hb)
          have n1_ := Aside0.mk (bb (zk BK135.out) hb)
          have n2_ := Aside0.mk (below_step s3_0 hb)
          clear BK134 BK135 HB
          have BK134 := n0_
          have BK135 := n1_
          have HB := n2_
          clear n0_ n1_ n2_
          (try clear hb)
          (try clear hb2)
          (try clear hk)
          (try clear hi)
          refine hK.out _ _ ⟨bc BK134.out 0, bc BK134.out 1, bc BK134.out 2, bc BK134.out 3, bc BK134.out 4, bc BK134.out 5, bc BK135.out 0, bc BK135.out 1, bc BK135.out 2, bc BK135.out 3, bc BK135.out 4, bc BK135.out 5⟩ (fun hHeld => ?_)
          clear hK K
          refine norm_ (a' := ?_) ?_ ?_
          rotate_left
          ·show Act.put _ (some 18) _ = _
           simp only [Act.put, y1, y2, y3, i64_w, i32_w]
           rfl
          exact norm_ s3_4 (hJ1_3 () _ ⟨hHeld, (zk BK134.out), (zk BK135.out), s3_0⟩)
         ·skip
          refine box_step ?hg (N := 5) ?hd (cs := #[.int .i64 0, .int .i64 0]) (t := 83) ?hr ?_; (case hd => rfl); (case hg => rfl); (case hr => first | (go_simp; done) | (go_simp; rfl))
          intro gb142 hg w5 hbox hb
          have n0_ := Aside0.mk (bb (zk BK134.out) hb)
          have n1_ := Aside0.mk (bb (zk BK135.out) hb)
          have n2_ := Aside0.mk (below_step s3_0 hb)
          have n3_ := Aside0.mk (hbox)
          have n4_ := Aside0.mk (ns hg s3_0 : w.heap.size ≤ gb142)
          have n5_ := Aside0.mk (ns hg s3_0 : w.heap.size ≤ gb142)
          have n6_ := Aside0.mk ((nlt hg (zk BK134.out) : gb134 ≠ gb142))
          have n7_ := Aside0.mk ((ngt hg (zk BK134.out) : gb142 ≠ gb134))
          have n8_ := Aside0.mk ((nlt hg (zk BK135.out) : gb135 ≠ gb142))
          have n9_ := Aside0.mk ((ngt hg (zk BK135.out) : gb142 ≠ gb135))
          clear BK134 BK135 HB
          have BK134 := n0_
          have BK135 := n1_
          have HB := n2_
          have BK142 := n3_
          have GW142 := n4_
          have GE142 := n5_
          have NB134_142 := n6_
          have NB142_134 := n7_
          have NB135_142 := n8_
          have NB142_135 := n9_
          clear n0_ n1_ n2_ n3_ n4_ n5_ n6_ n7_ n8_ n9_ hb hbox hg
          refine hK.out _ _ ⟨bc BK134.out 0, bc BK134.out 1, bc BK134.out 2, bc BK134.out 3, bc BK134.out 4, bc BK134.out 5, bc BK135.out 0, bc BK135.out 1, bc BK135.out 2, bc BK135.out 3, bc BK135.out 4, bc BK135.out 5⟩ (fun hHeld => ?_)
          clear hK K
          refine norm_ (a' := ?_) ?_ ?_
          rotate_left
          ·show Act.put _ (some 5) _ = _
           simp only [Act.put, y1, y2, y3, i64_w, i32_w]
           rfl
          exact norm_ s3_4 (hJ1_4 (gb142) _ ⟨hHeld, (zk BK134.out), (zk BK135.out), (zk BK142.out), GW142.out, GE142.out, NB134_142.out, NB142_134.out, NB135_142.out, NB142_135.out, s3_1⟩)
         ·skip
          refine box_step ?hg (N := 6) ?hd (cs := #[.int .i64 0, .int .i64 0]) (t := 83) ?hr ?_; (case hd => rfl); (case hg => rfl); (case hr => first | (go_simp; done) | (go_simp; rfl))
          intro gb143 hg w5 hbox hb
          have n0_ := Aside0.mk (bb (zk BK134.out) hb)
          have n1_ := Aside0.mk (bb (zk BK135.out) hb)
          have n2_ := Aside0.mk (below_step s3_0 hb)
          have n3_ := Aside0.mk (hbox)
          have n4_ := Aside0.mk (ns hg s3_0 : w.heap.size ≤ gb143)
          have n5_ := Aside0.mk (ns hg s3_0 : w.heap.size ≤ gb143)
          have n6_ := Aside0.mk ((nlt hg (zk BK134.out) : gb134 ≠ gb143))
          have n7_ := Aside0.mk ((ngt hg (zk BK134.out) : gb143 ≠ gb134))
          have n8_ := Aside0.mk ((nlt hg (zk BK135.out) : gb135 ≠ gb143))
          have n9_ := Aside0.mk ((ngt hg (zk BK135.out) : gb143 ≠ gb135))
          clear BK134 BK135 HB
          have BK134 := n0_
          have BK135 := n1_
          have HB := n2_
          have BK143 := n3_
          have GW143 := n4_
          have GE143 := n5_
          have NB134_143 := n6_
          have NB143_134 := n7_
          have NB135_143 := n8_
          have NB143_135 := n9_
          clear n0_ n1_ n2_ n3_ n4_ n5_ n6_ n7_ n8_ n9_ hb hbox hg
          refine hK.out _ _ ⟨bc BK134.out 0, bc BK134.out 1, bc BK134.out 2, bc BK134.out 3, bc BK134.out 4, bc BK134.out 5, bc BK135.out 0, bc BK135.out 1, bc BK135.out 2, bc BK135.out 3, bc BK135.out 4, bc BK135.out 5⟩ (fun hHeld => ?_)
          clear hK K
          refine norm_ (a' := ?_) ?_ ?_
          rotate_left
          ·show Act.put _ (some 6) _ = _
           simp only [Act.put, y1, y2, y3, i64_w, i32_w]
           rfl
          exact norm_ s3_4 (hJ1_5 (gb143) _ ⟨hHeld, (zk BK134.out), (zk BK135.out), (zk BK143.out), GW143.out, GE143.out, NB134_143.out, NB143_134.out, NB135_143.out, NB143_135.out, s3_2⟩)
       ·skip
        rintro ⟨gb142, gb143⟩ w4 ⟨hS_, h0_, h1_, h2_, h3_, h4_, h5_, h6_, h7_, h8_, h9_, h10_, h11_, h12_, h13_, h14_, h15_, h16_, h17_, h18_⟩
        have n0_ : Aside0 (w4.heap[gb134]? = some (.cells #[.int .i64 a0_0, .int .i64 a0_1, .int .i64 a0_2, .int .i64 a0_3, .int .i64 a0_4, .int .i64 a0_5] 25 (0, 0))) := ⟨h0_⟩
        have n1_ : Aside0 (w4.heap[gb135]? = some (.cells #[.int .i64 a1_0, .int .i64 a1_1, .int .i64 a1_2, .int .i64 a1_3, .int .i64 a1_4, .int .i64 a1_5] 25 (0, 0))) := ⟨h1_⟩
        have n2_ : Aside0 (w4.heap[gb142]? = some (.cells #[.int .i64 0, .int .i64 0] 83 (0, 0))) := ⟨h2_⟩
        have n3_ : Aside0 (w4.heap[gb143]? = some (.cells #[.int .i64 0, .int .i64 0] 83 (0, 0))) := ⟨h3_⟩
        have n4_ : Aside0 (w.heap.size ≤ gb142) := ⟨h4_⟩
        have n5_ : Aside0 (w.heap.size ≤ gb142) := ⟨h5_⟩
        have n6_ : Aside0 (gb134 ≠ gb142) := ⟨h6_⟩
        have n7_ : Aside0 (gb142 ≠ gb134) := ⟨h7_⟩
        have n8_ : Aside0 (gb135 ≠ gb142) := ⟨h8_⟩
        have n9_ : Aside0 (gb142 ≠ gb135) := ⟨h9_⟩
        have n10_ : Aside0 (gb143 ≠ gb142) := ⟨h10_⟩
        have n11_ : Aside0 (gb142 ≠ gb143) := ⟨h11_⟩
        have n12_ : Aside0 (w.heap.size ≤ gb143) := ⟨h12_⟩
        have n13_ : Aside0 (w.heap.size ≤ gb143) := ⟨h13_⟩
        have n14_ : Aside0 (gb134 ≠ gb143) := ⟨h14_⟩
        have n15_ : Aside0 (gb143 ≠ gb134) := ⟨h15_⟩
        have n16_ : Aside0 (gb135 ≠ gb143) := ⟨h16_⟩
        have n17_ : Aside0 (gb143 ≠ gb135) := ⟨h17_⟩
        have n18_ : Aside0 (Below w.heap.size w w4) := ⟨h18_⟩
        clear BK134 BK135 HB h0_ h1_ h2_ h3_ h4_ h5_ h6_ h7_ h8_ h9_ h10_ h11_ h12_ h13_ h14_ h15_ h16_ h17_ h18_
        have BK134 := n0_
        have BK135 := n1_
        have BK142 := n2_
        have BK143 := n3_
        have GW142 := n4_
        have GE142 := n5_
        have NB134_142 := n6_
        have NB142_134 := n7_
        have NB135_142 := n8_
        have NB142_135 := n9_
        have NB143_142 := n10_
        have NB142_143 := n11_
        have GW143 := n12_
        have GE143 := n13_
        have NB134_143 := n14_
        have NB143_134 := n15_
        have NB135_143 := n16_
        have NB143_135 := n17_
        have HB := n18_
        clear n0_ n1_ n2_ n3_ n4_ n5_ n6_ n7_ n8_ n9_ n10_ n11_ n12_ n13_ n14_ n15_ n16_ n17_ n18_
        have hHeld : w4.cell? ⟨gb134, 0, none⟩ = some (.int .i64 a0_0) ∧ w4.cell? ⟨gb134, 1, none⟩ = some (.int .i64 a0_1) ∧ w4.cell? ⟨gb134, 2, none⟩ = some (.int .i64 a0_2) ∧ w4.cell? ⟨gb134, 3, none⟩ = some (.int .i64 a0_3) ∧ w4.cell? ⟨gb134, 4, none⟩ = some (.int .i64 a0_4) ∧ w4.cell? ⟨gb134, 5, none⟩ = some (.int .i64 a0_5) ∧ w4.cell? ⟨gb135, 0, none⟩ = some (.int .i64 a1_0) ∧ w4.cell? ⟨gb135, 1, none⟩ = some (.int .i64 a1_1) ∧ w4.cell? ⟨gb135, 2, none⟩ = some (.int .i64 a1_2) ∧ w4.cell? ⟨gb135, 3, none⟩ = some (.int .i64 a1_3) ∧ w4.cell? ⟨gb135, 4, none⟩ = some (.int .i64 a1_4) ∧ w4.cell? ⟨gb135, 5, none⟩ = some (.int .i64 a1_5) := hS_
        refine norm_ (a' := ?_) ?_ ?_
        rotate_left
        ·simp only [putAll, Act.put, y1, y2, y3]
         rfl
        refine one_ (i := 1) (N := some 16) (bz 8 55) rfl rfl (one_of HT_.out (by kernel_rfl)) (by decide) (fun K hK => ?_)
        refine goes_ Try.func66 (by kernel_rfl) rfl #[.agg #[.int .i64 a0_0, .int .i64 a0_1, .int .i64 a0_2, .int .i64 a0_3, .int .i64 a0_4, .int .i64 a0_5]] (by rfl) rfl rfl s3_5 ?_
        with_reducible refine (spec_l8Way.calls a0_0 a0_1 a0_2 a0_3 a0_4 a0_5 t138 t139 _ A18.out).mono ?_
        rintro e w5 ⟨rfl, hb⟩
        refine ⟨_, rfl, ?_⟩
        have n0_ := Aside0.mk (bb (zk BK134.out) hb)
        have n1_ := Aside0.mk (bb (zk BK135.out) hb)
        have n2_ := Aside0.mk (bb (zk BK142.out) hb)
        have n3_ := Aside0.mk (bb (zk BK143.out) hb)
        have n4_ := Aside0.mk (below_step s3_3 hb)
        clear BK134 BK135 BK142 BK143 HB
        have BK134 := n0_
        have BK135 := n1_
        have BK142 := n2_
        have BK143 := n3_
        have HB := n4_
        clear n0_ n1_ n2_ n3_ n4_
        (try clear hb)
        (try clear hb2)
        (try clear hk)
        (try clear hi)
        refine hK.out _ _ ⟨bc BK134.out 0, bc BK134.out 1, bc BK134.out 2, bc BK134.out 3, bc BK134.out 4, bc BK134.out 5, bc BK135.out 0, bc BK135.out 1, bc BK135.out 2, bc BK135.out 3, bc BK135.out 4, bc BK135.out 5⟩ (fun hHeld => ?_)
        clear hK K
        refine norm_ (a' := ?_) ?_ ?_
        rotate_left
        ·show Act.put _ (some 16) _ = _
         simp only [Act.put, y1, y2, y3, i64_w, i32_w]
         rfl
        exact norm_ s3_4 (hJ1_4_5 (gb142, gb143) _ ⟨hHeld, (zk BK134.out), (zk BK135.out), (zk BK142.out), (zk BK143.out), GW142.out, GE142.out, NB134_142.out, NB142_134.out, NB135_142.out, NB142_135.out, NB143_142.out, NB142_143.out, GW143.out, GE143.out, NB134_143.out, NB143_134.out, NB135_143.out, NB143_135.out, s3_3⟩)
      ·skip
       rintro gb143 w4 ⟨hS_, h0_, h1_, h2_, h3_, h4_, h5_, h6_, h7_, h8_, h9_⟩
       have n0_ : Aside0 (w4.heap[gb134]? = some (.cells #[.int .i64 a0_0, .int .i64 a0_1, .int .i64 a0_2, .int .i64 a0_3, .int .i64 a0_4, .int .i64 a0_5] 25 (0, 0))) := ⟨h0_⟩
       have n1_ : Aside0 (w4.heap[gb135]? = some (.cells #[.int .i64 a1_0, .int .i64 a1_1, .int .i64 a1_2, .int .i64 a1_3, .int .i64 a1_4, .int .i64 a1_5] 25 (0, 0))) := ⟨h1_⟩
       have n2_ : Aside0 (w4.heap[gb143]? = some (.cells #[.int .i64 0, .int .i64 0] 83 (0, 0))) := ⟨h2_⟩
       have n3_ : Aside0 (w.heap.size ≤ gb143) := ⟨h3_⟩
       have n4_ : Aside0 (w.heap.size ≤ gb143) := ⟨h4_⟩
       have n5_ : Aside0 (gb134 ≠ gb143) := ⟨h5_⟩
       have n6_ : Aside0 (gb143 ≠ gb134) := ⟨h6_⟩
       have n7_ : Aside0 (gb135 ≠ gb143) := ⟨h7_⟩
       have n8_ : Aside0 (gb143 ≠ gb135) := ⟨h8_⟩
       have n9_ : Aside0 (Below w.heap.size w w4) := ⟨h9_⟩
       clear BK134 BK135 HB h0_ h1_ h2_ h3_ h4_ h5_ h6_ h7_ h8_ h9_
       have BK134 := n0_
       have BK135 := n1_
       have BK143 := n2_
       have GW143 := n3_
       have GE143 := n4_
       have NB134_143 := n5_
       have NB143_134 := n6_
       have NB135_143 := n7_
       have NB143_135 := n8_
       have HB := n9_
       clear n0_ n1_ n2_ n3_ n4_ n5_ n6_ n7_ n8_ n9_
       have hHeld : w4.cell? ⟨gb134, 0, none⟩ = some (.int .i64 a0_0) ∧ w4.cell? ⟨gb134, 1, none⟩ = some (.int .i64 a0_1) ∧ w4.cell? ⟨gb134, 2, none⟩ = some (.int .i64 a0_2) ∧ w4.cell? ⟨gb134, 3, none⟩ = some (.int .i64 a0_3) ∧ w4.cell? ⟨gb134, 4, none⟩ = some (.int .i64 a0_4) ∧ w4.cell? ⟨gb134, 5, none⟩ = some (.int .i64 a0_5) ∧ w4.cell? ⟨gb135, 0, none⟩ = some (.int .i64 a1_0) ∧ w4.cell? ⟨gb135, 1, none⟩ = some (.int .i64 a1_1) ∧ w4.cell? ⟨gb135, 2, none⟩ = some (.int .i64 a1_2) ∧ w4.cell? ⟨gb135, 3, none⟩ = some (.int .i64 a1_3) ∧ w4.cell? ⟨gb135, 4, none⟩ = some (.int .i64 a1_4) ∧ w4.cell? ⟨gb135, 5, none⟩ = some (.int .i64 a1_5) := hS_
       refine norm_ (a' := ?_) ?_ ?_
       rotate_left
       ·simp only [putAll, Act.put, y1, y2, y3]
        rfl
       refine two_ (i := 3) (j := 4) (Ni := some 18) (Nj := some 5) (bz 8 47) (bz 8 55) rfl rfl rfl rfl (two_of HT_.out (by kernel_rfl)) (by decide) (by decide) (fun K hK => ?_) (fun K hK => ?_)
       ·skip
        refine goes_ Try.func66 (by kernel_rfl) rfl #[.agg #[.int .i64 a1_0, .int .i64 a1_1, .int .i64 a1_2, .int .i64 a1_3, .int .i64 a1_4, .int .i64 a1_5]] (by rfl) rfl rfl s3_5 ?_
        with_reducible refine (spec_l8Way.calls a1_0 a1_1 a1_2 a1_3 a1_4 a1_5 t140 t141 _ A19.out).mono ?_
        rintro e w5 ⟨rfl, hb⟩
        refine ⟨_, rfl, ?_⟩
        have n0_ := Aside0.mk (bb (zk BK134.out) hb)
        have n1_ := Aside0.mk (bb (zk BK135.out) hb)
        have n2_ := Aside0.mk (bb (zk BK143.out) hb)
        have n3_ := Aside0.mk (below_step s3_2 hb)
        clear BK134 BK135 BK143 HB
        have BK134 := n0_
        have BK135 := n1_
        have BK143 := n2_
        have HB := n3_
        clear n0_ n1_ n2_ n3_
        (try clear hb)
        (try clear hb2)
        (try clear hk)
        (try clear hi)
        refine hK.out _ _ ⟨bc BK134.out 0, bc BK134.out 1, bc BK134.out 2, bc BK134.out 3, bc BK134.out 4, bc BK134.out 5, bc BK135.out 0, bc BK135.out 1, bc BK135.out 2, bc BK135.out 3, bc BK135.out 4, bc BK135.out 5⟩ (fun hHeld => ?_)
        clear hK K
        refine norm_ (a' := ?_) ?_ ?_
        rotate_left
        ·show Act.put _ (some 18) _ = _
         simp only [Act.put, y1, y2, y3, i64_w, i32_w]
         rfl
        exact norm_ s3_4 (hJ1_3_5 (gb143) _ ⟨hHeld, (zk BK134.out), (zk BK135.out), (zk BK143.out), GW143.out, GE143.out, NB134_143.out, NB143_134.out, NB135_143.out, NB143_135.out, s3_2⟩)
       ·skip
        refine box_step ?hg (N := 5) ?hd (cs := #[.int .i64 0, .int .i64 0]) (t := 83) ?hr ?_; (case hd => rfl); (case hg => rfl); (case hr => first | (go_simp; done) | (go_simp; rfl))
        intro gb142 hg w5 hbox hb
        have n0_ := Aside0.mk (bb (zk BK134.out) hb)
        have n1_ := Aside0.mk (bb (zk BK135.out) hb)
        have n2_ := Aside0.mk (bb (zk BK143.out) hb)
        have n3_ := Aside0.mk (below_step s3_2 hb)
        have n4_ := Aside0.mk (hbox)
        have n5_ := Aside0.mk (ns hg s3_2 : w.heap.size ≤ gb142)
        have n6_ := Aside0.mk (ns hg s3_2 : w.heap.size ≤ gb142)
        have n7_ := Aside0.mk ((nlt hg (zk BK134.out) : gb134 ≠ gb142))
        have n8_ := Aside0.mk ((ngt hg (zk BK134.out) : gb142 ≠ gb134))
        have n9_ := Aside0.mk ((nlt hg (zk BK135.out) : gb135 ≠ gb142))
        have n10_ := Aside0.mk ((ngt hg (zk BK135.out) : gb142 ≠ gb135))
        have n11_ := Aside0.mk ((nlt hg (zk BK143.out) : gb143 ≠ gb142))
        have n12_ := Aside0.mk ((ngt hg (zk BK143.out) : gb142 ≠ gb143))
        clear BK134 BK135 BK143 HB
        have BK134 := n0_
        have BK135 := n1_
        have BK143 := n2_
        have HB := n3_
        have BK142 := n4_
        have GW142 := n5_
        have GE142 := n6_
        have NB134_142 := n7_
        have NB142_134 := n8_
        have NB135_142 := n9_
        have NB142_135 := n10_
        have NB143_142 := n11_
        have NB142_143 := n12_
        clear n0_ n1_ n2_ n3_ n4_ n5_ n6_ n7_ n8_ n9_ n10_ n11_ n12_ hb hbox hg
        refine hK.out _ _ ⟨bc BK134.out 0, bc BK134.out 1, bc BK134.out 2, bc BK134.out 3, bc BK134.out 4, bc BK134.out 5, bc BK135.out 0, bc BK135.out 1, bc BK135.out 2, bc BK135.out 3, bc BK135.out 4, bc BK135.out 5⟩ (fun hHeld => ?_)
        clear hK K
        refine norm_ (a' := ?_) ?_ ?_
        rotate_left
        ·show Act.put _ (some 5) _ = _
         simp only [Act.put, y1, y2, y3, i64_w, i32_w]
         rfl
        exact norm_ s3_4 (hJ1_4_5 (gb142, gb143) _ ⟨hHeld, (zk BK134.out), (zk BK135.out), (zk BK142.out), (zk BK143.out), GW142.out, GE142.out, NB134_142.out, NB142_134.out, NB135_142.out, NB142_135.out, NB143_142.out, NB142_143.out, GW143.out, GE143.out, NB134_143.out, NB143_134.out, NB135_143.out, NB143_135.out, s3_6⟩)
     ·skip
      rintro gb142 w4 ⟨hS_, h0_, h1_, h2_, h3_, h4_, h5_, h6_, h7_, h8_, h9_⟩
      have n0_ : Aside0 (w4.heap[gb134]? = some (.cells #[.int .i64 a0_0, .int .i64 a0_1, .int .i64 a0_2, .int .i64 a0_3, .int .i64 a0_4, .int .i64 a0_5] 25 (0, 0))) := ⟨h0_⟩
      have n1_ : Aside0 (w4.heap[gb135]? = some (.cells #[.int .i64 a1_0, .int .i64 a1_1, .int .i64 a1_2, .int .i64 a1_3, .int .i64 a1_4, .int .i64 a1_5] 25 (0, 0))) := ⟨h1_⟩
      have n2_ : Aside0 (w4.heap[gb142]? = some (.cells #[.int .i64 0, .int .i64 0] 83 (0, 0))) := ⟨h2_⟩
      have n3_ : Aside0 (w.heap.size ≤ gb142) := ⟨h3_⟩
      have n4_ : Aside0 (w.heap.size ≤ gb142) := ⟨h4_⟩
      have n5_ : Aside0 (gb134 ≠ gb142) := ⟨h5_⟩
      have n6_ : Aside0 (gb142 ≠ gb134) := ⟨h6_⟩
      have n7_ : Aside0 (gb135 ≠ gb142) := ⟨h7_⟩
      have n8_ : Aside0 (gb142 ≠ gb135) := ⟨h8_⟩
      have n9_ : Aside0 (Below w.heap.size w w4) := ⟨h9_⟩
      clear BK134 BK135 HB h0_ h1_ h2_ h3_ h4_ h5_ h6_ h7_ h8_ h9_
      have BK134 := n0_
      have BK135 := n1_
      have BK142 := n2_
      have GW142 := n3_
      have GE142 := n4_
      have NB134_142 := n5_
      have NB142_134 := n6_
      have NB135_142 := n7_
      have NB142_135 := n8_
      have HB := n9_
      clear n0_ n1_ n2_ n3_ n4_ n5_ n6_ n7_ n8_ n9_
      have hHeld : w4.cell? ⟨gb134, 0, none⟩ = some (.int .i64 a0_0) ∧ w4.cell? ⟨gb134, 1, none⟩ = some (.int .i64 a0_1) ∧ w4.cell? ⟨gb134, 2, none⟩ = some (.int .i64 a0_2) ∧ w4.cell? ⟨gb134, 3, none⟩ = some (.int .i64 a0_3) ∧ w4.cell? ⟨gb134, 4, none⟩ = some (.int .i64 a0_4) ∧ w4.cell? ⟨gb134, 5, none⟩ = some (.int .i64 a0_5) ∧ w4.cell? ⟨gb135, 0, none⟩ = some (.int .i64 a1_0) ∧ w4.cell? ⟨gb135, 1, none⟩ = some (.int .i64 a1_1) ∧ w4.cell? ⟨gb135, 2, none⟩ = some (.int .i64 a1_2) ∧ w4.cell? ⟨gb135, 3, none⟩ = some (.int .i64 a1_3) ∧ w4.cell? ⟨gb135, 4, none⟩ = some (.int .i64 a1_4) ∧ w4.cell? ⟨gb135, 5, none⟩ = some (.int .i64 a1_5) := hS_
      refine norm_ (a' := ?_) ?_ ?_
      rotate_left
      ·simp only [putAll, Act.put, y1, y2, y3]
       rfl
      refine two_ (i := 3) (j := 5) (Ni := some 18) (Nj := some 6) (bz 8 31) (bz 8 55) rfl rfl rfl rfl (two_of HT_.out (by kernel_rfl)) (by decide) (by decide) (fun K hK => ?_) (fun K hK => ?_)
      ·skip
       refine goes_ Try.func66 (by kernel_rfl) rfl #[.agg #[.int .i64 a1_0, .int .i64 a1_1, .int .i64 a1_2, .int .i64 a1_3, .int .i64 a1_4, .int .i64 a1_5]] (by rfl) rfl rfl s3_5 ?_
       with_reducible refine (spec_l8Way.calls a1_0 a1_1 a1_2 a1_3 a1_4 a1_5 t140 t141 _ A19.out).mono ?_
       rintro e w5 ⟨rfl, hb⟩
       refine ⟨_, rfl, ?_⟩
       have n0_ := Aside0.mk (bb (zk BK134.out) hb)
       have n1_ := Aside0.mk (bb (zk BK135.out) hb)
       have n2_ := Aside0.mk (bb (zk BK142.out) hb)
       have n3_ := Aside0.mk (below_step s3_1 hb)
       clear BK134 BK135 BK142 HB
       have BK134 := n0_
       have BK135 := n1_
       have BK142 := n2_
       have HB := n3_
       clear n0_ n1_ n2_ n3_
       (try clear hb)
       (try clear hb2)
       (try clear hk)
       (try clear hi)
       refine hK.out _ _ ⟨bc BK134.out 0, bc BK134.out 1, bc BK134.out 2, bc BK134.out 3, bc BK134.out 4, bc BK134.out 5, bc BK135.out 0, bc BK135.out 1, bc BK135.out 2, bc BK135.out 3, bc BK135.out 4, bc BK135.out 5⟩ (fun hHeld => ?_)
       clear hK K
       refine norm_ (a' := ?_) ?_ ?_
       rotate_left
       ·show Act.put _ (some 18) _ = _
        simp only [Act.put, y1, y2, y3, i64_w, i32_w]
        rfl
       exact norm_ s3_4 (hJ1_3_4 (gb142) _ ⟨hHeld, (zk BK134.out), (zk BK135.out), (zk BK142.out), GW142.out, GE142.out, NB134_142.out, NB142_134.out, NB135_142.out, NB142_135.out, s3_1⟩)
      ·skip
       refine box_step ?hg (N := 6) ?hd (cs := #[.int .i64 0, .int .i64 0]) (t := 83) ?hr ?_; (case hd => rfl); (case hg => rfl); (case hr => first | (go_simp; done) | (go_simp; rfl))
       intro gb143 hg w5 hbox hb
       have n0_ := Aside0.mk (bb (zk BK134.out) hb)
       have n1_ := Aside0.mk (bb (zk BK135.out) hb)
       have n2_ := Aside0.mk (bb (zk BK142.out) hb)
       have n3_ := Aside0.mk (below_step s3_1 hb)
       have n4_ := Aside0.mk (hbox)
       have n5_ := Aside0.mk (ns hg s3_1 : w.heap.size ≤ gb143)
       have n6_ := Aside0.mk (ns hg s3_1 : w.heap.size ≤ gb143)
       have n7_ := Aside0.mk ((nlt hg (zk BK134.out) : gb134 ≠ gb143))
       have n8_ := Aside0.mk ((ngt hg (zk BK134.out) : gb143 ≠ gb134))
       have n9_ := Aside0.mk ((nlt hg (zk BK135.out) : gb135 ≠ gb143))
       have n10_ := Aside0.mk ((ngt hg (zk BK135.out) : gb143 ≠ gb135))
       have n11_ := Aside0.mk ((nlt hg (zk BK142.out) : gb142 ≠ gb143))
       have n12_ := Aside0.mk ((ngt hg (zk BK142.out) : gb143 ≠ gb142))
       clear BK134 BK135 BK142 HB
       have BK134 := n0_
       have BK135 := n1_
       have BK142 := n2_
       have HB := n3_
       have BK143 := n4_
       have GW143 := n5_
       have GE143 := n6_
       have NB134_143 := n7_
       have NB143_134 := n8_
       have NB135_143 := n9_
       have NB143_135 := n10_
       have NB142_143 := n11_
       have NB143_142 := n12_
       clear n0_ n1_ n2_ n3_ n4_ n5_ n6_ n7_ n8_ n9_ n10_ n11_ n12_ hb hbox hg
       refine hK.out _ _ ⟨bc BK134.out 0, bc BK134.out 1, bc BK134.out 2, bc BK134.out 3, bc BK134.out 4, bc BK134.out 5, bc BK135.out 0, bc BK135.out 1, bc BK135.out 2, bc BK135.out 3, bc BK135.out 4, bc BK135.out 5⟩ (fun hHeld => ?_)
       clear hK K
       refine norm_ (a' := ?_) ?_ ?_
       rotate_left
       ·show Act.put _ (some 6) _ = _
        simp only [Act.put, y1, y2, y3, i64_w, i32_w]
        rfl
       exact norm_ s3_4 (hJ1_4_5 (gb142, gb143) _ ⟨hHeld, (zk BK134.out), (zk BK135.out), (zk BK142.out), (zk BK143.out), GW142.out, GE142.out, NB134_142.out, NB142_134.out, NB135_142.out, NB142_135.out, NB143_142.out, NB142_143.out, GW143.out, GE143.out, NB134_143.out, NB143_134.out, NB135_143.out, NB143_135.out, s3_3⟩)
    ·skip
     rintro _ w4 ⟨hS_, h0_, h1_, h2_⟩
     have n0_ : Aside0 (w4.heap[gb134]? = some (.cells #[.int .i64 a0_0, .int .i64 a0_1, .int .i64 a0_2, .int .i64 a0_3, .int .i64 a0_4, .int .i64 a0_5] 25 (0, 0))) := ⟨h0_⟩
     have n1_ : Aside0 (w4.heap[gb135]? = some (.cells #[.int .i64 a1_0, .int .i64 a1_1, .int .i64 a1_2, .int .i64 a1_3, .int .i64 a1_4, .int .i64 a1_5] 25 (0, 0))) := ⟨h1_⟩
     have n2_ : Aside0 (Below w.heap.size w w4) := ⟨h2_⟩
     clear BK134 BK135 HB h0_ h1_ h2_
     have BK134 := n0_
     have BK135 := n1_
     have HB := n2_
     clear n0_ n1_ n2_
     have hHeld : w4.cell? ⟨gb134, 0, none⟩ = some (.int .i64 a0_0) ∧ w4.cell? ⟨gb134, 1, none⟩ = some (.int .i64 a0_1) ∧ w4.cell? ⟨gb134, 2, none⟩ = some (.int .i64 a0_2) ∧ w4.cell? ⟨gb134, 3, none⟩ = some (.int .i64 a0_3) ∧ w4.cell? ⟨gb134, 4, none⟩ = some (.int .i64 a0_4) ∧ w4.cell? ⟨gb134, 5, none⟩ = some (.int .i64 a0_5) ∧ w4.cell? ⟨gb135, 0, none⟩ = some (.int .i64 a1_0) ∧ w4.cell? ⟨gb135, 1, none⟩ = some (.int .i64 a1_1) ∧ w4.cell? ⟨gb135, 2, none⟩ = some (.int .i64 a1_2) ∧ w4.cell? ⟨gb135, 3, none⟩ = some (.int .i64 a1_3) ∧ w4.cell? ⟨gb135, 4, none⟩ = some (.int .i64 a1_4) ∧ w4.cell? ⟨gb135, 5, none⟩ = some (.int .i64 a1_5) := hS_
     refine norm_ (a' := ?_) ?_ ?_
     rotate_left
     ·simp only [putAll, Act.put, y1, y2, y3]
      rfl
     refine two_ (i := 4) (j := 5) (Ni := some 5) (Nj := some 6) (bz 8 31) (bz 8 47) rfl rfl rfl rfl (two_of HT_.out (by kernel_rfl)) (by decide) (by decide) (fun K hK => ?_) (fun K hK => ?_)
     ·skip
      refine box_step ?hg (N := 5) ?hd (cs := #[.int .i64 0, .int .i64 0]) (t := 83) ?hr ?_; (case hd => rfl); (case hg => rfl); (case hr => first | (go_simp; done) | (go_simp; rfl))
      intro gb142 hg w5 hbox hb
      have n0_ := Aside0.mk (bb (zk BK134.out) hb)
      have n1_ := Aside0.mk (bb (zk BK135.out) hb)
      have n2_ := Aside0.mk (below_step s3_0 hb)
      have n3_ := Aside0.mk (hbox)
      have n4_ := Aside0.mk (ns hg s3_0 : w.heap.size ≤ gb142)
      have n5_ := Aside0.mk (ns hg s3_0 : w.heap.size ≤ gb142)
      have n6_ := Aside0.mk ((nlt hg (zk BK134.out) : gb134 ≠ gb142))
      have n7_ := Aside0.mk ((ngt hg (zk BK134.out) : gb142 ≠ gb134))
      have n8_ := Aside0.mk ((nlt hg (zk BK135.out) : gb135 ≠ gb142))
      have n9_ := Aside0.mk ((ngt hg (zk BK135.out) : gb142 ≠ gb135))
      clear BK134 BK135 HB
      have BK134 := n0_
      have BK135 := n1_
      have HB := n2_
      have BK142 := n3_
      have GW142 := n4_
      have GE142 := n5_
      have NB134_142 := n6_
      have NB142_134 := n7_
      have NB135_142 := n8_
      have NB142_135 := n9_
      clear n0_ n1_ n2_ n3_ n4_ n5_ n6_ n7_ n8_ n9_ hb hbox hg
      refine hK.out _ _ ⟨bc BK134.out 0, bc BK134.out 1, bc BK134.out 2, bc BK134.out 3, bc BK134.out 4, bc BK134.out 5, bc BK135.out 0, bc BK135.out 1, bc BK135.out 2, bc BK135.out 3, bc BK135.out 4, bc BK135.out 5⟩ (fun hHeld => ?_)
      clear hK K
      refine norm_ (a' := ?_) ?_ ?_
      rotate_left
      ·show Act.put _ (some 5) _ = _
       simp only [Act.put, y1, y2, y3, i64_w, i32_w]
       rfl
      exact norm_ s3_4 (hJ1_3_4 (gb142) _ ⟨hHeld, (zk BK134.out), (zk BK135.out), (zk BK142.out), GW142.out, GE142.out, NB134_142.out, NB142_134.out, NB135_142.out, NB142_135.out, s3_1⟩)
     ·skip
      refine box_step ?hg (N := 6) ?hd (cs := #[.int .i64 0, .int .i64 0]) (t := 83) ?hr ?_; (case hd => rfl); (case hg => rfl); (case hr => first | (go_simp; done) | (go_simp; rfl))
      intro gb143 hg w5 hbox hb
      have n0_ := Aside0.mk (bb (zk BK134.out) hb)
      have n1_ := Aside0.mk (bb (zk BK135.out) hb)
      have n2_ := Aside0.mk (below_step s3_0 hb)
      have n3_ := Aside0.mk (hbox)
      have n4_ := Aside0.mk (ns hg s3_0 : w.heap.size ≤ gb143)
      have n5_ := Aside0.mk (ns hg s3_0 : w.heap.size ≤ gb143)
      have n6_ := Aside0.mk ((nlt hg (zk BK134.out) : gb134 ≠ gb143))
      have n7_ := Aside0.mk ((ngt hg (zk BK134.out) : gb143 ≠ gb134))
      have n8_ := Aside0.mk ((nlt hg (zk BK135.out) : gb135 ≠ gb143))
      have n9_ := Aside0.mk ((ngt hg (zk BK135.out) : gb143 ≠ gb135))
      clear BK134 BK135 HB
      have BK134 := n0_
      have BK135 := n1_
      have HB := n2_
      have BK143 := n3_
      have GW143 := n4_
      have GE143 := n5_
      have NB134_143 := n6_
      have NB143_134 := n7_
      have NB135_143 := n8_
      have NB143_135 := n9_
      clear n0_ n1_ n2_ n3_ n4_ n5_ n6_ n7_ n8_ n9_ hb hbox hg
      refine hK.out _ _ ⟨bc BK134.out 0, bc BK134.out 1, bc BK134.out 2, bc BK134.out 3, bc BK134.out 4, bc BK134.out 5, bc BK135.out 0, bc BK135.out 1, bc BK135.out 2, bc BK135.out 3, bc BK135.out 4, bc BK135.out 5⟩ (fun hHeld => ?_)
      clear hK K
      refine norm_ (a' := ?_) ?_ ?_
      rotate_left
      ·show Act.put _ (some 6) _ = _
       simp only [Act.put, y1, y2, y3, i64_w, i32_w]
       rfl
      exact norm_ s3_4 (hJ1_3_5 (gb143) _ ⟨hHeld, (zk BK134.out), (zk BK135.out), (zk BK143.out), GW143.out, GE143.out, NB134_143.out, NB143_134.out, NB135_143.out, NB143_135.out, s3_2⟩)
   ·skip
    rintro ⟨gb142, gb143⟩ w4 ⟨hS_, h0_, h1_, h2_, h3_, h4_, h5_, h6_, h7_, h8_, h9_, h10_, h11_, h12_, h13_, h14_, h15_, h16_, h17_, h18_⟩
    have n0_ : Aside0 (w4.heap[gb134]? = some (.cells #[.int .i64 a0_0, .int .i64 a0_1, .int .i64 a0_2, .int .i64 a0_3, .int .i64 a0_4, .int .i64 a0_5] 25 (0, 0))) := ⟨h0_⟩
    have n1_ : Aside0 (w4.heap[gb135]? = some (.cells #[.int .i64 a1_0, .int .i64 a1_1, .int .i64 a1_2, .int .i64 a1_3, .int .i64 a1_4, .int .i64 a1_5] 25 (0, 0))) := ⟨h1_⟩
    have n2_ : Aside0 (w4.heap[gb142]? = some (.cells #[.int .i64 0, .int .i64 0] 83 (0, 0))) := ⟨h2_⟩
    have n3_ : Aside0 (w4.heap[gb143]? = some (.cells #[.int .i64 0, .int .i64 0] 83 (0, 0))) := ⟨h3_⟩
    have n4_ : Aside0 (w.heap.size ≤ gb142) := ⟨h4_⟩
    have n5_ : Aside0 (w.heap.size ≤ gb142) := ⟨h5_⟩
    have n6_ : Aside0 (gb134 ≠ gb142) := ⟨h6_⟩
    have n7_ : Aside0 (gb142 ≠ gb134) := ⟨h7_⟩
    have n8_ : Aside0 (gb135 ≠ gb142) := ⟨h8_⟩
    have n9_ : Aside0 (gb142 ≠ gb135) := ⟨h9_⟩
    have n10_ : Aside0 (gb143 ≠ gb142) := ⟨h10_⟩
    have n11_ : Aside0 (gb142 ≠ gb143) := ⟨h11_⟩
    have n12_ : Aside0 (w.heap.size ≤ gb143) := ⟨h12_⟩
    have n13_ : Aside0 (w.heap.size ≤ gb143) := ⟨h13_⟩
    have n14_ : Aside0 (gb134 ≠ gb143) := ⟨h14_⟩
    have n15_ : Aside0 (gb143 ≠ gb134) := ⟨h15_⟩
    have n16_ : Aside0 (gb135 ≠ gb143) := ⟨h16_⟩
    have n17_ : Aside0 (gb143 ≠ gb135) := ⟨h17_⟩
    have n18_ : Aside0 (Below w.heap.size w w4) := ⟨h18_⟩
    clear BK134 BK135 HB h0_ h1_ h2_ h3_ h4_ h5_ h6_ h7_ h8_ h9_ h10_ h11_ h12_ h13_ h14_ h15_ h16_ h17_ h18_
    have BK134 := n0_
    have BK135 := n1_
    have BK142 := n2_
    have BK143 := n3_
    have GW142 := n4_
    have GE142 := n5_
    have NB134_142 := n6_
    have NB142_134 := n7_
    have NB135_142 := n8_
    have NB142_135 := n9_
    have NB143_142 := n10_
    have NB142_143 := n11_
    have GW143 := n12_
    have GE143 := n13_
    have NB134_143 := n14_
    have NB143_134 := n15_
    have NB135_143 := n16_
    have NB143_135 := n17_
    have HB := n18_
    clear n0_ n1_ n2_ n3_ n4_ n5_ n6_ n7_ n8_ n9_ n10_ n11_ n12_ n13_ n14_ n15_ n16_ n17_ n18_
    have hHeld : w4.cell? ⟨gb134, 0, none⟩ = some (.int .i64 a0_0) ∧ w4.cell? ⟨gb134, 1, none⟩ = some (.int .i64 a0_1) ∧ w4.cell? ⟨gb134, 2, none⟩ = some (.int .i64 a0_2) ∧ w4.cell? ⟨gb134, 3, none⟩ = some (.int .i64 a0_3) ∧ w4.cell? ⟨gb134, 4, none⟩ = some (.int .i64 a0_4) ∧ w4.cell? ⟨gb134, 5, none⟩ = some (.int .i64 a0_5) ∧ w4.cell? ⟨gb135, 0, none⟩ = some (.int .i64 a1_0) ∧ w4.cell? ⟨gb135, 1, none⟩ = some (.int .i64 a1_1) ∧ w4.cell? ⟨gb135, 2, none⟩ = some (.int .i64 a1_2) ∧ w4.cell? ⟨gb135, 3, none⟩ = some (.int .i64 a1_3) ∧ w4.cell? ⟨gb135, 4, none⟩ = some (.int .i64 a1_4) ∧ w4.cell? ⟨gb135, 5, none⟩ = some (.int .i64 a1_5) := hS_
    refine norm_ (a' := ?_) ?_ ?_
    rotate_left
    ·simp only [putAll, Act.put, y1, y2, y3]
     rfl
    refine one_ (i := 3) (N := some 18) (bz 8 63) rfl rfl (one_of HT_.out (by kernel_rfl)) (by decide) (fun K hK => ?_)
    refine goes_ Try.func66 (by kernel_rfl) rfl #[.agg #[.int .i64 a1_0, .int .i64 a1_1, .int .i64 a1_2, .int .i64 a1_3, .int .i64 a1_4, .int .i64 a1_5]] (by rfl) rfl rfl s3_5 ?_
    with_reducible refine (spec_l8Way.calls a1_0 a1_1 a1_2 a1_3 a1_4 a1_5 t140 t141 _ A19.out).mono ?_
    rintro e w5 ⟨rfl, hb⟩
    refine ⟨_, rfl, ?_⟩
    have n0_ := Aside0.mk (bb (zk BK134.out) hb)
    have n1_ := Aside0.mk (bb (zk BK135.out) hb)
    have n2_ := Aside0.mk (bb (zk BK142.out) hb)
    have n3_ := Aside0.mk (bb (zk BK143.out) hb)
    have n4_ := Aside0.mk (below_step s3_3 hb)
    clear BK134 BK135 BK142 BK143 HB
    have BK134 := n0_
    have BK135 := n1_
    have BK142 := n2_
    have BK143 := n3_
    have HB := n4_
    clear n0_ n1_ n2_ n3_ n4_
    (try clear hb)
    (try clear hb2)
    (try clear hk)
    (try clear hi)
    refine hK.out _ _ ⟨bc BK134.out 0, bc BK134.out 1, bc BK134.out 2, bc BK134.out 3, bc BK134.out 4, bc BK134.out 5, bc BK135.out 0, bc BK135.out 1, bc BK135.out 2, bc BK135.out 3, bc BK135.out 4, bc BK135.out 5⟩ (fun hHeld => ?_)
    clear hK K
    refine norm_ (a' := ?_) ?_ ?_
    rotate_left
    ·show Act.put _ (some 18) _ = _
     simp only [Act.put, y1, y2, y3, i64_w, i32_w]
     rfl
    exact norm_ s3_4 (hJ1_3_4_5 (gb142, gb143) _ ⟨hHeld, (zk BK134.out), (zk BK135.out), (zk BK142.out), (zk BK143.out), GW142.out, GE142.out, NB134_142.out, NB142_134.out, NB135_142.out, NB142_135.out, NB143_142.out, NB142_143.out, GW143.out, GE143.out, NB134_143.out, NB143_134.out, NB135_143.out, NB143_135.out, s3_3⟩)
  ·skip
   rintro gb143 w4 ⟨hS_, h0_, h1_, h2_, h3_, h4_, h5_, h6_, h7_, h8_, h9_⟩
   have n0_ : Aside0 (w4.heap[gb134]? = some (.cells #[.int .i64 a0_0, .int .i64 a0_1, .int .i64 a0_2, .int .i64 a0_3, .int .i64 a0_4, .int .i64 a0_5] 25 (0, 0))) := ⟨h0_⟩
   have n1_ : Aside0 (w4.heap[gb135]? = some (.cells #[.int .i64 a1_0, .int .i64 a1_1, .int .i64 a1_2, .int .i64 a1_3, .int .i64 a1_4, .int .i64 a1_5] 25 (0, 0))) := ⟨h1_⟩
   have n2_ : Aside0 (w4.heap[gb143]? = some (.cells #[.int .i64 0, .int .i64 0] 83 (0, 0))) := ⟨h2_⟩
   have n3_ : Aside0 (w.heap.size ≤ gb143) := ⟨h3_⟩
   have n4_ : Aside0 (w.heap.size ≤ gb143) := ⟨h4_⟩
   have n5_ : Aside0 (gb134 ≠ gb143) := ⟨h5_⟩
   have n6_ : Aside0 (gb143 ≠ gb134) := ⟨h6_⟩
   have n7_ : Aside0 (gb135 ≠ gb143) := ⟨h7_⟩
   have n8_ : Aside0 (gb143 ≠ gb135) := ⟨h8_⟩
   have n9_ : Aside0 (Below w.heap.size w w4) := ⟨h9_⟩
   clear BK134 BK135 HB h0_ h1_ h2_ h3_ h4_ h5_ h6_ h7_ h8_ h9_
   have BK134 := n0_
   have BK135 := n1_
   have BK143 := n2_
   have GW143 := n3_
   have GE143 := n4_
   have NB134_143 := n5_
   have NB143_134 := n6_
   have NB135_143 := n7_
   have NB143_135 := n8_
   have HB := n9_
   clear n0_ n1_ n2_ n3_ n4_ n5_ n6_ n7_ n8_ n9_
   have hHeld : w4.cell? ⟨gb134, 0, none⟩ = some (.int .i64 a0_0) ∧ w4.cell? ⟨gb134, 1, none⟩ = some (.int .i64 a0_1) ∧ w4.cell? ⟨gb134, 2, none⟩ = some (.int .i64 a0_2) ∧ w4.cell? ⟨gb134, 3, none⟩ = some (.int .i64 a0_3) ∧ w4.cell? ⟨gb134, 4, none⟩ = some (.int .i64 a0_4) ∧ w4.cell? ⟨gb134, 5, none⟩ = some (.int .i64 a0_5) ∧ w4.cell? ⟨gb135, 0, none⟩ = some (.int .i64 a1_0) ∧ w4.cell? ⟨gb135, 1, none⟩ = some (.int .i64 a1_1) ∧ w4.cell? ⟨gb135, 2, none⟩ = some (.int .i64 a1_2) ∧ w4.cell? ⟨gb135, 3, none⟩ = some (.int .i64 a1_3) ∧ w4.cell? ⟨gb135, 4, none⟩ = some (.int .i64 a1_4) ∧ w4.cell? ⟨gb135, 5, none⟩ = some (.int .i64 a1_5) := hS_
   refine norm_ (a' := ?_) ?_ ?_
   rotate_left
   ·simp only [putAll, Act.put, y1, y2, y3]
    rfl
   refine one_ (i := 4) (N := some 5) (bz 8 63) rfl rfl (one_of HT_.out (by kernel_rfl)) (by decide) (fun K hK => ?_)
   refine box_step ?hg (N := 5) ?hd (cs := #[.int .i64 0, .int .i64 0]) (t := 83) ?hr ?_; (case hd => rfl); (case hg => rfl); (case hr => first | (go_simp; done) | (go_simp; rfl))
   intro gb142 hg w5 hbox hb
   have n0_ := Aside0.mk (bb (zk BK134.out) hb)
   have n1_ := Aside0.mk (bb (zk BK135.out) hb)
   have n2_ := Aside0.mk (bb (zk BK143.out) hb)
   have n3_ := Aside0.mk (below_step s3_2 hb)
   have n4_ := Aside0.mk (hbox)
   have n5_ := Aside0.mk (ns hg s3_2 : w.heap.size ≤ gb142)
   have n6_ := Aside0.mk (ns hg s3_2 : w.heap.size ≤ gb142)
   have n7_ := Aside0.mk ((nlt hg (zk BK134.out) : gb134 ≠ gb142))
   have n8_ := Aside0.mk ((ngt hg (zk BK134.out) : gb142 ≠ gb134))
   have n9_ := Aside0.mk ((nlt hg (zk BK135.out) : gb135 ≠ gb142))
   have n10_ := Aside0.mk ((ngt hg (zk BK135.out) : gb142 ≠ gb135))
   have n11_ := Aside0.mk ((nlt hg (zk BK143.out) : gb143 ≠ gb142))
   have n12_ := Aside0.mk ((ngt hg (zk BK143.out) : gb142 ≠ gb143))
   clear BK134 BK135 BK143 HB
   have BK134 := n0_
   have BK135 := n1_
   have BK143 := n2_
   have HB := n3_
   have BK142 := n4_
   have GW142 := n5_
   have GE142 := n6_
   have NB134_142 := n7_
   have NB142_134 := n8_
   have NB135_142 := n9_
   have NB142_135 := n10_
   have NB143_142 := n11_
   have NB142_143 := n12_
   clear n0_ n1_ n2_ n3_ n4_ n5_ n6_ n7_ n8_ n9_ n10_ n11_ n12_ hb hbox hg
   refine hK.out _ _ ⟨bc BK134.out 0, bc BK134.out 1, bc BK134.out 2, bc BK134.out 3, bc BK134.out 4, bc BK134.out 5, bc BK135.out 0, bc BK135.out 1, bc BK135.out 2, bc BK135.out 3, bc BK135.out 4, bc BK135.out 5⟩ (fun hHeld => ?_)
   clear hK K
   refine norm_ (a' := ?_) ?_ ?_
   rotate_left
   ·show Act.put _ (some 5) _ = _
    simp only [Act.put, y1, y2, y3, i64_w, i32_w]
    rfl
   exact norm_ s3_4 (hJ1_3_4_5 (gb142, gb143) _ ⟨hHeld, (zk BK134.out), (zk BK135.out), (zk BK142.out), (zk BK143.out), GW142.out, GE142.out, NB134_142.out, NB142_134.out, NB135_142.out, NB142_135.out, NB143_142.out, NB142_143.out, GW143.out, GE143.out, NB134_143.out, NB143_134.out, NB135_143.out, NB143_135.out, s3_6⟩)
 ·skip
  rintro gb142 w4 ⟨hS_, h0_, h1_, h2_, h3_, h4_, h5_, h6_, h7_, h8_, h9_⟩
  have n0_ : Aside0 (w4.heap[gb134]? = some (.cells #[.int .i64 a0_0, .int .i64 a0_1, .int .i64 a0_2, .int .i64 a0_3, .int .i64 a0_4, .int .i64 a0_5] 25 (0, 0))) := ⟨h0_⟩
  have n1_ : Aside0 (w4.heap[gb135]? = some (.cells #[.int .i64 a1_0, .int .i64 a1_1, .int .i64 a1_2, .int .i64 a1_3, .int .i64 a1_4, .int .i64 a1_5] 25 (0, 0))) := ⟨h1_⟩
  have n2_ : Aside0 (w4.heap[gb142]? = some (.cells #[.int .i64 0, .int .i64 0] 83 (0, 0))) := ⟨h2_⟩
  have n3_ : Aside0 (w.heap.size ≤ gb142) := ⟨h3_⟩
  have n4_ : Aside0 (w.heap.size ≤ gb142) := ⟨h4_⟩
  have n5_ : Aside0 (gb134 ≠ gb142) := ⟨h5_⟩
  have n6_ : Aside0 (gb142 ≠ gb134) := ⟨h6_⟩
  have n7_ : Aside0 (gb135 ≠ gb142) := ⟨h7_⟩
  have n8_ : Aside0 (gb142 ≠ gb135) := ⟨h8_⟩
  have n9_ : Aside0 (Below w.heap.size w w4) := ⟨h9_⟩
  clear BK134 BK135 HB h0_ h1_ h2_ h3_ h4_ h5_ h6_ h7_ h8_ h9_
  have BK134 := n0_
  have BK135 := n1_
  have BK142 := n2_
  have GW142 := n3_
  have GE142 := n4_
  have NB134_142 := n5_
  have NB142_134 := n6_
  have NB135_142 := n7_
  have NB142_135 := n8_
  have HB := n9_
  clear n0_ n1_ n2_ n3_ n4_ n5_ n6_ n7_ n8_ n9_
  have hHeld : w4.cell? ⟨gb134, 0, none⟩ = some (.int .i64 a0_0) ∧ w4.cell? ⟨gb134, 1, none⟩ = some (.int .i64 a0_1) ∧ w4.cell? ⟨gb134, 2, none⟩ = some (.int .i64 a0_2) ∧ w4.cell? ⟨gb134, 3, none⟩ = some (.int .i64 a0_3) ∧ w4.cell? ⟨gb134, 4, none⟩ = some (.int .i64 a0_4) ∧ w4.cell? ⟨gb134, 5, none⟩ = some (.int .i64 a0_5) ∧ w4.cell? ⟨gb135, 0, none⟩ = some (.int .i64 a1_0) ∧ w4.cell? ⟨gb135, 1, none⟩ = some (.int .i64 a1_1) ∧ w4.cell? ⟨gb135, 2, none⟩ = some (.int .i64 a1_2) ∧ w4.cell? ⟨gb135, 3, none⟩ = some (.int .i64 a1_3) ∧ w4.cell? ⟨gb135, 4, none⟩ = some (.int .i64 a1_4) ∧ w4.cell? ⟨gb135, 5, none⟩ = some (.int .i64 a1_5) := hS_
  refine norm_ (a' := ?_) ?_ ?_
  rotate_left
  ·simp only [putAll, Act.put, y1, y2, y3]
   rfl
  refine one_ (i := 5) (N := some 6) (bz 8 63) rfl rfl (one_of HT_.out (by kernel_rfl)) (by decide) (fun K hK => ?_)
  refine box_step ?hg (N := 6) ?hd (cs := #[.int .i64 0, .int .i64 0]) (t := 83) ?hr ?_; (case hd => rfl); (case hg => rfl); (case hr => first | (go_simp; done) | (go_simp; rfl))
  intro gb143 hg w5 hbox hb
  have n0_ := Aside0.mk (bb (zk BK134.out) hb)
  have n1_ := Aside0.mk (bb (zk BK135.out) hb)
  have n2_ := Aside0.mk (bb (zk BK142.out) hb)
  have n3_ := Aside0.mk (below_step s3_1 hb)
  have n4_ := Aside0.mk (hbox)
  have n5_ := Aside0.mk (ns hg s3_1 : w.heap.size ≤ gb143)
  have n6_ := Aside0.mk (ns hg s3_1 : w.heap.size ≤ gb143)
  have n7_ := Aside0.mk ((nlt hg (zk BK134.out) : gb134 ≠ gb143))
  have n8_ := Aside0.mk ((ngt hg (zk BK134.out) : gb143 ≠ gb134))
  have n9_ := Aside0.mk ((nlt hg (zk BK135.out) : gb135 ≠ gb143))
  have n10_ := Aside0.mk ((ngt hg (zk BK135.out) : gb143 ≠ gb135))
  have n11_ := Aside0.mk ((nlt hg (zk BK142.out) : gb142 ≠ gb143))
  have n12_ := Aside0.mk ((ngt hg (zk BK142.out) : gb143 ≠ gb142))
  clear BK134 BK135 BK142 HB
  have BK134 := n0_
  have BK135 := n1_
  have BK142 := n2_
  have HB := n3_
  have BK143 := n4_
  have GW143 := n5_
  have GE143 := n6_
  have NB134_143 := n7_
  have NB143_134 := n8_
  have NB135_143 := n9_
  have NB143_135 := n10_
  have NB142_143 := n11_
  have NB143_142 := n12_
  clear n0_ n1_ n2_ n3_ n4_ n5_ n6_ n7_ n8_ n9_ n10_ n11_ n12_ hb hbox hg
  refine hK.out _ _ ⟨bc BK134.out 0, bc BK134.out 1, bc BK134.out 2, bc BK134.out 3, bc BK134.out 4, bc BK134.out 5, bc BK135.out 0, bc BK135.out 1, bc BK135.out 2, bc BK135.out 3, bc BK135.out 4, bc BK135.out 5⟩ (fun hHeld => ?_)
  clear hK K
  refine norm_ (a' := ?_) ?_ ?_
  rotate_left
  ·show Act.put _ (some 6) _ = _
   simp only [Act.put, y1, y2, y3, i64_w, i32_w]
   rfl
  exact norm_ s3_4 (hJ1_3_4_5 (gb142, gb143) _ ⟨hHeld, (zk BK134.out), (zk BK135.out), (zk BK142.out), (zk BK143.out), GW142.out, GE142.out, NB134_142.out, NB142_134.out, NB135_142.out, NB142_135.out, NB143_142.out, NB142_143.out, GW143.out, GE143.out, NB134_143.out, NB143_134.out, NB135_143.out, NB143_135.out, s3_3⟩)) : p := h
set_option maxRecDepth 100000 in
theorem t3_1 {p : Prop} (h : p := by
 simp only [Act.put, y1, y2, y3, i64_w, i32_w]
 rfl) : p := h
set_option maxRecDepth 100000 in
theorem t3_2 {p : Prop} (h : p := by
 rintro w' ⟨s0, s1, s2, s3, s4, s5, s6, s7, s8, s9, s10, s11, s12, s13, s14, s15⟩
 go_simp
 with_reducible rfl) : p := h
set_option maxRecDepth 100000 in
theorem t3_3 {p : Prop} (h : p := by
 intro w'
 go_simp
 with_reducible rfl) : p := h
set_option maxRecDepth 100000 in
theorem t3_4 {p : Prop} (h : p := by
 rintro w' ⟨s0, s1, s2, s3, s4, s5, s6, s7, s8, s9, s10, s11⟩
 go_simp
 with_reducible rfl) : p := h
set_option maxRecDepth 100000 in
theorem t3_5 {p : Prop} (h : p := by
 rintro w' ⟨s0, s1, s2, s3⟩
 go_simp
 with_reducible rfl) : p := h
/-! ### spec_HeadOn: function 30 -/
def spec_HeadOn.j0 : Nat → Bool → Int → Int → Int → Int → Int → Int → Int → Int → Int → Int → Int → Int → Option (Bool)
 | 0, _, _, _, _, _, _, _, _, _, _, _, _, _ => none
 | k + 1, x14, x135000, x135001, x135002, x135003, x135004, x135005, x136000, x136001, x136002, x136003, x136004, x136005 => if x14 = true then (some false) else ((spec_l8Way.f x135000 x135001 x135002 x135003 x135004 x135005).bind fun bt138 => ((spec_l8Way.f x136000 x136001 x136002 x136003 x136004 x136005).bind fun bt140 => ((spec_l8Dot.f bt138.1 bt138.2 bt140.1 bt140.2).bind fun t144 => (if t144 < 0 then ((spec_l8Cross.f bt138.1 bt138.2 bt140.1 bt140.2).bind fun t145 => ((spec_l8Dot.f bt138.1 bt138.2 bt140.1 bt140.2).bind fun t146 => ((spec_l8Least.f t145 100 t146 1).bind fun t147 => (if t147 = true then ((spec_l8Ahead.f x135000 x135001 x135002 x135003 x135004 x135005 x136000 x136001 x136002 x136003 x136004 x136005).bind fun t148 => (if t148 = true then ((spec_l8Ahead.f x136000 x136001 x136002 x136003 x136004 x136005 x135000 x135001 x135002 x135003 x135004 x135005).bind fun t149 => (some t149)) else (some false))) else (some false))))) else (some false)))))
def spec_HeadOn.f (k : Nat) (a0_0 : Int) (a0_1 : Int) (a0_2 : Int) (a0_3 : Int) (a0_4 : Int) (a0_5 : Int) (a1_0 : Int) (a1_1 : Int) (a1_2 : Int) (a1_3 : Int) (a1_4 : Int) (a1_5 : Int) : Option (Bool) := (spec_ShipOk.f a0_0 a0_1 a0_2 a0_3 a0_4 a0_5).bind fun t136 => (if t136 = true then ((spec_ShipOk.f a1_0 a1_1 a1_2 a1_3 a1_4 a1_5).bind fun t137 => (spec_HeadOn.j0 k (!t137) a0_0 a0_1 a0_2 a0_3 a0_4 a0_5 a1_0 a1_1 a1_2 a1_3 a1_4 a1_5)) else (spec_HeadOn.j0 k true a0_0 a0_1 a0_2 a0_3 a0_4 a0_5 a1_0 a1_1 a1_2 a1_3 a1_4 a1_5))
theorem spec_HeadOn.mono_l : ∀ k, (∀ y0 y1 y2 y3 y4 y5 y6 y7 y8 y9 y10 y11 y12, LeO (spec_HeadOn.j0 k y0 y1 y2 y3 y4 y5 y6 y7 y8 y9 y10 y11 y12) (spec_HeadOn.j0 (k + 1) y0 y1 y2 y3 y4 y5 y6 y7 y8 y9 y10 y11 y12))
 | 0 => fun _ _ _ _ _ _ _ _ _ _ _ _ _ r h => by simp [spec_HeadOn.j0] at h
 | k + 1 => by
  have ih0 := spec_HeadOn.mono_l k
  ·intro y0 y1 y2 y3 y4 y5 y6 y7 y8 y9 y10 y11 y12
   unfold spec_HeadOn.j0
   repeat' first
   | (with_reducible exact ih0 _ _ _ _ _ _ _ _ _ _ _ _ _)
   | (with_reducible exact LeO.refl _)
   | (with_reducible exact LeO.none _)
   | (with_reducible refine LeO.ite ?_ ?_)
   | (with_reducible refine LeO.bind ?_ (fun _ => ?_))
   | exact ih0 _ _ _ _ _ _ _ _ _ _ _ _ _
   | exact LeO.none _
   | refine LeO.ite ?_ ?_
   | refine LeO.bind ?_ (fun _ => ?_)
theorem spec_HeadOn.mono : ∀ a0 a1 a2 a3 a4 a5 a6 a7 a8 a9 a10 a11 k, LeO (spec_HeadOn.f k a0 a1 a2 a3 a4 a5 a6 a7 a8 a9 a10 a11) (spec_HeadOn.f (k + 1) a0 a1 a2 a3 a4 a5 a6 a7 a8 a9 a10 a11) := by
 intro a0 a1 a2 a3 a4 a5 a6 a7 a8 a9 a10 a11 k
 have ih0 := spec_HeadOn.mono_l k
 unfold spec_HeadOn.f
 repeat' first
   | (with_reducible exact ih0 _ _ _ _ _ _ _ _ _ _ _ _ _)
   | (with_reducible exact LeO.refl _)
   | (with_reducible exact LeO.none _)
   | (with_reducible refine LeO.ite ?_ ?_)
   | (with_reducible refine LeO.bind ?_ (fun _ => ?_))
   | exact ih0 _ _ _ _ _ _ _ _ _ _ _ _ _
   | exact LeO.none _
   | refine LeO.ite ?_ ?_
   | refine LeO.bind ?_ (fun _ => ?_)
def spec_HeadOn.T3 : Bool × List (List Nat × List Nat) := (true, [([], []), ([0], [0]), ([], []), ([2, 1], [2]), ([], []), ([], []), ([4, 1, 3, 0, 1, 4, 5], [1, 4]), ([5, 3, 6, 0, 1, 2, 3, 4, 5, 6], [3, 5])])
def spec_HeadOn.B3 : List Nat := [0, 1, 0, 7, 0, 0, 63, 127]
theorem spec_HeadOn.tab3 : rtab .any (opsOf Try.f30 3) = spec_HeadOn.T3 := by kernel_rfl
theorem spec_HeadOn.bits3 : waitsOk spec_HeadOn.T3.2 spec_HeadOn.B3 = true := by kernel_rfl
def spec_HeadOn.T4 : Bool × List (List Nat × List Nat) := (true, [([], []), ([], []), ([0, 1], [0, 1]), ([2], [2]), ([3, 2], [3]), ([4], [4]), ([4], [4]), ([5, 6, 4, 4], [4, 5, 6]), ([4], [4]), ([4], [4]), ([8, 9, 7, 4], [4, 8, 9]), ([7, 10, 10, 4], [4, 7, 10]), ([4, 11], [4, 11]), ([12, 11], [12]), ([13], [13]), ([13], [13]), ([14, 15, 13, 13], [13, 14, 15]), ([13, 16], [13, 16]), ([17, 16], [17]), ([18], [18]), ([18], [18]), ([19, 20, 18, 18], [18, 19, 20]), ([18, 21], [18, 21]), ([22, 21, 0, 1, 2, 3, 4, 5, 6, 7, 8, 9, 10, 11, 12, 13, 14, 15, 16, 17, 18, 19, 20, 21, 22], [22])])
def spec_HeadOn.B4 : List Nat := [0, 0, 3, 7, 15, 31, 31, 127, 31, 31, 1023, 2047, 4095, 8191, 16383, 16383, 65535, 131071, 262143, 524287, 524287, 2097151, 4194303, 8388607]
theorem spec_HeadOn.tab4 : rtab .any (opsOf Try.f30 4) = spec_HeadOn.T4 := by kernel_rfl
theorem spec_HeadOn.bits4 : waitsOk spec_HeadOn.T4.2 spec_HeadOn.B4 = true := by kernel_rfl
set_option maxHeartbeats 8000000 in
set_option maxRecDepth 100000 in
theorem spec_HeadOn.calls (k : Nat) (a0_0 : Int) (a0_1 : Int) (a0_2 : Int) (a0_3 : Int) (a0_4 : Int) (a0_5 : Int) (a1_0 : Int) (a1_1 : Int) (a1_2 : Int) (a1_3 : Int) (a1_4 : Int) (a1_5 : Int) (r : Bool) (w : World) (h : spec_HeadOn.f k a0_0 a0_1 a0_2 a0_3 a0_4 a0_5 a1_0 a1_1 a1_2 a1_3 a1_4 a1_5 = some r) :
  Calls Try.prog 30 #[.agg #[.int .i64 a0_0, .int .i64 a0_1, .int .i64 a0_2, .int .i64 a0_3, .int .i64 a0_4, .int .i64 a0_5], .agg #[.int .i64 a1_0, .int .i64 a1_1, .int .i64 a1_2, .int .i64 a1_3, .int .i64 a1_4, .int .i64 a1_5]] w fun e w' => e = .returned (.bool r) ∧ Below w.heap.size w w' := by
 have hu25 := Try.underlying25
 have hu83 := Try.underlying83
 have HB := Aside0.mk (Below.refl w.heap.size w)
 have H : ((spec_ShipOk.f a0_0 a0_1 a0_2 a0_3 a0_4 a0_5).bind fun t136 => (if t136 = true then ((spec_ShipOk.f a1_0 a1_1 a1_2 a1_3 a1_4 a1_5).bind fun t137 => (spec_HeadOn.j0 k (!t137) a0_0 a0_1 a0_2 a0_3 a0_4 a0_5 a1_0 a1_1 a1_2 a1_3 a1_4 a1_5)) else (spec_HeadOn.j0 k true a0_0 a0_1 a0_2 a0_3 a0_4 a0_5 a1_0 a1_1 a1_2 a1_3 a1_4 a1_5))) = some r := h
 clear h
 have HC3 := Aside0.mk H
 clear H
 go_enter Try.func30, Try.ntmps30
 go_upto_region 1 with (first | ((with_reducible refine gate_dst (N := 2) rfl ?_); refine box_event ?hg (N := 2) ?hd (cs := #[.int .i64 a0_0, .int .i64 a0_1, .int .i64 a0_2, .int .i64 a0_3, .int .i64 a0_4, .int .i64 a0_5]) (t := 25) ?hr ?_; (case hd => rfl); (case hg => rfl); (case hr => first | (go_simp; done) | (go_simp; rfl)); intro gb134 hg w1 hbox hb; have n0_ := Aside0.mk (below_step (by repeat (first | (with_reducible first | exact HB.out | apply below_alloc | apply pw_below_drewN | apply below_drew1) | exact HB.out)) hb); have n1_ := Aside0.mk (hbox); have n2_ := Aside0.mk (ns hg (by repeat (first | (with_reducible first | exact HB.out | apply below_alloc | apply pw_below_drewN | apply below_drew1) | exact HB.out)) : w.heap.size ≤ gb134); have n3_ := Aside0.mk (ns hg (by repeat (first | (with_reducible first | exact HB.out | apply below_alloc | apply pw_below_drewN | apply below_drew1) | exact HB.out)) : w.heap.size ≤ gb134); clear HB; have HB := n0_; have BK134 := n1_; have GW134 := n2_; have GE134 := n3_; clear n0_ n1_ n2_ n3_; clear hb hbox hg) | ((with_reducible refine gate_dst (N := 3) rfl ?_); refine box_event ?hg (N := 3) ?hd (cs := #[.int .i64 a1_0, .int .i64 a1_1, .int .i64 a1_2, .int .i64 a1_3, .int .i64 a1_4, .int .i64 a1_5]) (t := 25) ?hr ?_; (case hd => rfl); (case hg => rfl); (case hr => first | (go_simp; done) | (go_simp; rfl)); intro gb135 hg w2 hbox hb; have n0_ := Aside0.mk (bb (zk BK134.out) hb); have n1_ := Aside0.mk (below_step (by repeat (first | (with_reducible first | exact HB.out | apply below_alloc | apply pw_below_drewN | apply below_drew1 | refine below_set ?_ GE134.out) | exact HB.out)) hb); have n2_ := Aside0.mk (hbox); have n3_ := Aside0.mk (ns hg (by repeat (first | (with_reducible first | exact HB.out | apply below_alloc | apply pw_below_drewN | apply below_drew1 | refine below_set ?_ GE134.out) | exact HB.out)) : w.heap.size ≤ gb135); have n4_ := Aside0.mk (ns hg (by repeat (first | (with_reducible first | exact HB.out | apply below_alloc | apply pw_below_drewN | apply below_drew1 | refine below_set ?_ GE134.out) | exact HB.out)) : w.heap.size ≤ gb135); have n5_ := Aside0.mk ((nlt hg (zk BK134.out) : gb134 ≠ gb135)); have n6_ := Aside0.mk ((ngt hg (zk BK134.out) : gb135 ≠ gb134)); clear BK134; clear HB; have BK134 := n0_; have HB := n1_; have BK135 := n2_; have GW135 := n3_; have GE135 := n4_; have NB134_135 := n5_; have NB135_134 := n6_; clear n0_ n1_ n2_ n3_ n4_ n5_ n6_; clear hb hbox hg))
 (try simp only [Act.put, List.setIfInBounds_toArray, List.set_cons_zero, List.set_cons_succ])
 go_cut [14] (fun v14 wc => ∃ (kq : Nat) (x14_2 : Bool), v14 = .bool x14_2 ∧ Aside0 (spec_HeadOn.j0 kq x14_2 a0_0 a0_1 a0_2 a0_3 a0_4 a0_5 a1_0 a1_1 a1_2 a1_3 a1_4 a1_5 = some r) ∧ Aside0 (kq ≤ k) ∧ Aside0 (wc.heap[gb134]? = some (.cells #[.int .i64 a0_0, .int .i64 a0_1, .int .i64 a0_2, .int .i64 a0_3, .int .i64 a0_4, .int .i64 a0_5] 25 (0, 0))) ∧ Aside0 (wc.heap[gb135]? = some (.cells #[.int .i64 a1_0, .int .i64 a1_1, .int .i64 a1_2, .int .i64 a1_3, .int .i64 a1_4, .int .i64 a1_5] 25 (0, 0))) ∧ Aside0 (Below w.heap.size w wc))
 case first =>
  have H := HC3.out
  clear HC3
  replace H := Option.bind_eq_some_iff.mp H
  obtain ⟨t136, A60, H⟩ := H
  replace H : (if t136 = true then ((spec_ShipOk.f a1_0 a1_1 a1_2 a1_3 a1_4 a1_5).bind fun t137 => (spec_HeadOn.j0 k (!t137) a0_0 a0_1 a0_2 a0_3 a0_4 a0_5 a1_0 a1_1 a1_2 a1_3 a1_4 a1_5)) else (spec_HeadOn.j0 k true a0_0 a0_1 a0_2 a0_3 a0_4 a0_5 a1_0 a1_1 a1_2 a1_3 a1_4 a1_5)) = some r := H
  have A6 := Aside0.mk A60
  clear A60
  by_cases c7 : t136 = true
  ·subst c7
   have H1 : ((spec_ShipOk.f a1_0 a1_1 a1_2 a1_3 a1_4 a1_5).bind fun t137 => (spec_HeadOn.j0 k (!t137) a0_0 a0_1 a0_2 a0_3 a0_4 a0_5 a1_0 a1_1 a1_2 a1_3 a1_4 a1_5)) = some r := by rw [if_pos rfl] at H; exact H
   clear H
   have H := H1
   clear H1
   replace H := Option.bind_eq_some_iff.mp H
   obtain ⟨t137, A80, H⟩ := H
   replace H : (spec_HeadOn.j0 k (!t137) a0_0 a0_1 a0_2 a0_3 a0_4 a0_5 a1_0 a1_1 a1_2 a1_3 a1_4 a1_5) = some r := H
   have A8 := Aside0.mk A80
   clear A80
   have H' := Aside0.mk H
   clear H
   have hnb9 := NB134_135.out
   have hnc9 := NB135_134.out
   have hcz10_0 : w2.cell? ⟨gb134, 0, none⟩ = some (.int .i64 a0_0) := bc BK134.out 0
   have hcz10_1 : w2.cell? ⟨gb134, 1, none⟩ = some (.int .i64 a0_1) := bc BK134.out 1
   have hcz10_2 : w2.cell? ⟨gb134, 2, none⟩ = some (.int .i64 a0_2) := bc BK134.out 2
   have hcz10_3 : w2.cell? ⟨gb134, 3, none⟩ = some (.int .i64 a0_3) := bc BK134.out 3
   have hcz10_4 : w2.cell? ⟨gb134, 4, none⟩ = some (.int .i64 a0_4) := bc BK134.out 4
   have hcz10_5 : w2.cell? ⟨gb134, 5, none⟩ = some (.int .i64 a0_5) := bc BK134.out 5
   have hfz10_0 := blk_frozen BK134.out 0
   have hfz10_1 := blk_frozen BK134.out 1
   have hfz10_2 := blk_frozen BK134.out 2
   have hfz10_3 := blk_frozen BK134.out 3
   have hfz10_4 := blk_frozen BK134.out 4
   have hfz10_5 := blk_frozen BK134.out 5
   go_wp2_with (first | ((with_reducible refine gate_callee (f := 15) rfl ?_); refine goesL_ (some 8) rfl rfl Try.func15 (by kernel_rfl) rfl #[.agg #[.int .i64 a0_0, .int .i64 a0_1, .int .i64 a0_2, .int .i64 a0_3, .int .i64 a0_4, .int .i64 a0_5]] rfl s3_5 ?_; (with_reducible refine (spec_ShipOk.calls a0_0 a0_1 a0_2 a0_3 a0_4 a0_5 true _ A6.out).mono ?_); rintro e w3 ⟨rfl, hb⟩; refine ⟨_, rfl, ?_⟩; have n0_ := Aside0.mk (bb (zk BK134.out) hb); have n1_ := Aside0.mk (bb (zk BK135.out) hb); have n2_ := Aside0.mk (below_step s3_0 hb); clear BK134; clear BK135; clear HB; have BK134 := n0_; have BK135 := n1_; have HB := n2_; clear n0_ n1_ n2_; (try clear hb); (try clear hb2); (try clear hk); (try clear hi); have hcz12_0 : w3.cell? ⟨gb135, 0, none⟩ = some (.int .i64 a1_0) := bc BK135.out 0; have hcz12_1 : w3.cell? ⟨gb135, 1, none⟩ = some (.int .i64 a1_1) := bc BK135.out 1; have hcz12_2 : w3.cell? ⟨gb135, 2, none⟩ = some (.int .i64 a1_2) := bc BK135.out 2; have hcz12_3 : w3.cell? ⟨gb135, 3, none⟩ = some (.int .i64 a1_3) := bc BK135.out 3; have hcz12_4 : w3.cell? ⟨gb135, 4, none⟩ = some (.int .i64 a1_4) := bc BK135.out 4; have hcz12_5 : w3.cell? ⟨gb135, 5, none⟩ = some (.int .i64 a1_5) := bc BK135.out 5; have hfz12_0 := blk_frozen BK135.out 0; have hfz12_1 := blk_frozen BK135.out 1; have hfz12_2 := blk_frozen BK135.out 2; have hfz12_3 := blk_frozen BK135.out 3; have hfz12_4 := blk_frozen BK135.out 4; have hfz12_5 := blk_frozen BK135.out 5) | (go_at_call 15; (with_reducible refine (spec_ShipOk.calls a1_0 a1_1 a1_2 a1_3 a1_4 a1_5 t137 _ A8.out).mono ?_); rintro e w4 ⟨rfl, hb⟩; have n0_ := Aside0.mk (bb (zk BK134.out) hb); have n1_ := Aside0.mk (bb (zk BK135.out) hb); have n2_ := Aside0.mk (below_step s3_0 hb); clear BK134; clear BK135; clear HB; have BK134 := n0_; have BK135 := n1_; have HB := n2_; clear n0_ n1_ n2_; (try clear hb); (try clear hb2); (try clear hk); (try clear hi)))
   go_meet
   case rel => exact ⟨_, (!t137), (by first | rfl | (simp; done) | (simp [*]; done)), H', ⟨by first | omega | exact Nat.le_refl _⟩, ⟨by (with_reducible repeat (first | refine blk_drewN ?_ _ | refine blk_drew ?_ | refine blk_alloc ?_ _)); exact BK134.out⟩, ⟨by (with_reducible repeat (first | refine blk_drewN ?_ _ | refine blk_drew ?_ | refine blk_alloc ?_ _)); exact BK135.out⟩, ⟨by repeat (first | (with_reducible first | exact HB.out | apply below_alloc | apply pw_below_drewN | apply below_drew1 | refine below_set ?_ GE134.out | refine below_set ?_ GE135.out) | exact HB.out)⟩⟩
  ·replace c7 := Bool.eq_false_iff.mpr c7
   subst c7
   have H1 : (spec_HeadOn.j0 k true a0_0 a0_1 a0_2 a0_3 a0_4 a0_5 a1_0 a1_1 a1_2 a1_3 a1_4 a1_5) = some r := by rw [if_neg (show ¬ (false = true) by decide)] at H; exact H
   clear H
   have H := H1
   clear H1
   have H' := Aside0.mk H
   clear H
   have hnb14 := NB134_135.out
   have hnc14 := NB135_134.out
   have hcz15_0 : w2.cell? ⟨gb134, 0, none⟩ = some (.int .i64 a0_0) := bc BK134.out 0
   have hcz15_1 : w2.cell? ⟨gb134, 1, none⟩ = some (.int .i64 a0_1) := bc BK134.out 1
   have hcz15_2 : w2.cell? ⟨gb134, 2, none⟩ = some (.int .i64 a0_2) := bc BK134.out 2
   have hcz15_3 : w2.cell? ⟨gb134, 3, none⟩ = some (.int .i64 a0_3) := bc BK134.out 3
   have hcz15_4 : w2.cell? ⟨gb134, 4, none⟩ = some (.int .i64 a0_4) := bc BK134.out 4
   have hcz15_5 : w2.cell? ⟨gb134, 5, none⟩ = some (.int .i64 a0_5) := bc BK134.out 5
   have hfz15_0 := blk_frozen BK134.out 0
   have hfz15_1 := blk_frozen BK134.out 1
   have hfz15_2 := blk_frozen BK134.out 2
   have hfz15_3 := blk_frozen BK134.out 3
   have hfz15_4 := blk_frozen BK134.out 4
   have hfz15_5 := blk_frozen BK134.out 5
   go_wp2_with (first | ((with_reducible refine gate_callee (f := 15) rfl ?_); refine goesL_ (some 8) rfl rfl Try.func15 (by kernel_rfl) rfl #[.agg #[.int .i64 a0_0, .int .i64 a0_1, .int .i64 a0_2, .int .i64 a0_3, .int .i64 a0_4, .int .i64 a0_5]] rfl s3_5 ?_; (with_reducible refine (spec_ShipOk.calls a0_0 a0_1 a0_2 a0_3 a0_4 a0_5 false _ A6.out).mono ?_); rintro e w3 ⟨rfl, hb⟩; refine ⟨_, rfl, ?_⟩; have n0_ := Aside0.mk (bb (zk BK134.out) hb); have n1_ := Aside0.mk (bb (zk BK135.out) hb); have n2_ := Aside0.mk (below_step s3_0 hb); clear BK134; clear BK135; clear HB; have BK134 := n0_; have BK135 := n1_; have HB := n2_; clear n0_ n1_ n2_; (try clear hb); (try clear hb2); (try clear hk); (try clear hi)))
   go_meet
   case rel => exact ⟨_, (true), (by first | rfl | (simp; done) | (simp [*]; done)), H', ⟨by first | omega | exact Nat.le_refl _⟩, ⟨by (with_reducible repeat (first | refine blk_drewN ?_ _ | refine blk_drew ?_ | refine blk_alloc ?_ _)); exact BK134.out⟩, ⟨by (with_reducible repeat (first | refine blk_drewN ?_ _ | refine blk_drew ?_ | refine blk_alloc ?_ _)); exact BK135.out⟩, ⟨by repeat (first | (with_reducible first | exact HB.out | apply below_alloc | apply pw_below_drewN | apply below_drew1 | refine below_set ?_ GE134.out | refine below_set ?_ GE135.out) | exact HB.out)⟩⟩
 case rest =>
  clear HC3
  (try clear c1); (try clear p2); (try clear c3); (try clear c7); (try clear c9); (try clear c14); (try clear c15); (try clear hcz10_0); (try clear hcz10_1); (try clear hcz10_2); (try clear hcz10_3); (try clear hcz10_4); (try clear hcz10_5); (try clear hcz12_0); (try clear hcz12_1); (try clear hcz12_2); (try clear hcz12_3); (try clear hcz12_4); (try clear hcz12_5); (try clear hcz15_0); (try clear hcz15_1); (try clear hcz15_2); (try clear hcz15_3); (try clear hcz15_4); (try clear hcz15_5); (try clear hfz10_0); (try clear hfz10_1); (try clear hfz10_2); (try clear hfz10_3); (try clear hfz10_4); (try clear hfz10_5); (try clear hfz12_0); (try clear hfz12_1); (try clear hfz12_2); (try clear hfz12_3); (try clear hfz12_4); (try clear hfz12_5); (try clear hfz15_0); (try clear hfz15_1); (try clear hfz15_2); (try clear hfz15_3); (try clear hfz15_4); (try clear hfz15_5)
  obtain ⟨kq, x14_2, rfl, HA, HJ2, BK134, BK135, HB⟩ := hcut
  cases kq with
  | zero => exact absurd HA.out (by simp [spec_HeadOn.j0])
  | succ kj2 =>
   have H := HA.out
   clear HA
   simp only [spec_HeadOn.j0] at H
   by_cases c17 : x14_2 = true
   ·subst c17
    have H1 : (some false) = some r := by rw [if_pos rfl] at H; exact H
    clear H
    have H := H1
    clear H1
    obtain rfl := Option.some.inj H
    go_wp2
    go_ret
    exact ⟨by first | rfl | (simp [errW_none, errW_some] <;> rfl) | (simp [*, errW_none, errW_some] <;> rfl), by repeat (first | (with_reducible first | exact HB.out | apply below_alloc | apply pw_below_drewN | apply below_drew1 | refine below_set ?_ GE134.out | refine below_set ?_ GE135.out) | exact HB.out)⟩
   ·replace c17 := Bool.eq_false_iff.mpr c17
    subst c17
    have H1 : ((spec_l8Way.f a0_0 a0_1 a0_2 a0_3 a0_4 a0_5).bind fun bt138 => ((spec_l8Way.f a1_0 a1_1 a1_2 a1_3 a1_4 a1_5).bind fun bt140 => ((spec_l8Dot.f bt138.1 bt138.2 bt140.1 bt140.2).bind fun t144 => (if t144 < 0 then ((spec_l8Cross.f bt138.1 bt138.2 bt140.1 bt140.2).bind fun t145 => ((spec_l8Dot.f bt138.1 bt138.2 bt140.1 bt140.2).bind fun t146 => ((spec_l8Least.f t145 100 t146 1).bind fun t147 => (if t147 = true then ((spec_l8Ahead.f a0_0 a0_1 a0_2 a0_3 a0_4 a0_5 a1_0 a1_1 a1_2 a1_3 a1_4 a1_5).bind fun t148 => (if t148 = true then ((spec_l8Ahead.f a1_0 a1_1 a1_2 a1_3 a1_4 a1_5 a0_0 a0_1 a0_2 a0_3 a0_4 a0_5).bind fun t149 => (some t149)) else (some false))) else (some false))))) else (some false))))) = some r := by rw [if_neg (show ¬ (false = true) by decide)] at H; exact H
    clear H
    have H := H1
    clear H1
    replace H := Option.bind_eq_some_iff.mp H
    obtain ⟨⟨t138, t139⟩, A180, H⟩ := H
    replace H : ((spec_l8Way.f a1_0 a1_1 a1_2 a1_3 a1_4 a1_5).bind fun bt140 => ((spec_l8Dot.f t138 t139 bt140.1 bt140.2).bind fun t144 => (if t144 < 0 then ((spec_l8Cross.f t138 t139 bt140.1 bt140.2).bind fun t145 => ((spec_l8Dot.f t138 t139 bt140.1 bt140.2).bind fun t146 => ((spec_l8Least.f t145 100 t146 1).bind fun t147 => (if t147 = true then ((spec_l8Ahead.f a0_0 a0_1 a0_2 a0_3 a0_4 a0_5 a1_0 a1_1 a1_2 a1_3 a1_4 a1_5).bind fun t148 => (if t148 = true then ((spec_l8Ahead.f a1_0 a1_1 a1_2 a1_3 a1_4 a1_5 a0_0 a0_1 a0_2 a0_3 a0_4 a0_5).bind fun t149 => (some t149)) else (some false))) else (some false))))) else (some false)))) = some r := H
    have A18 := Aside0.mk A180
    clear A180
    replace H := Option.bind_eq_some_iff.mp H
    obtain ⟨⟨t140, t141⟩, A190, H⟩ := H
    replace H : ((spec_l8Dot.f t138 t139 t140 t141).bind fun t144 => (if t144 < 0 then ((spec_l8Cross.f t138 t139 t140 t141).bind fun t145 => ((spec_l8Dot.f t138 t139 t140 t141).bind fun t146 => ((spec_l8Least.f t145 100 t146 1).bind fun t147 => (if t147 = true then ((spec_l8Ahead.f a0_0 a0_1 a0_2 a0_3 a0_4 a0_5 a1_0 a1_1 a1_2 a1_3 a1_4 a1_5).bind fun t148 => (if t148 = true then ((spec_l8Ahead.f a1_0 a1_1 a1_2 a1_3 a1_4 a1_5 a0_0 a0_1 a0_2 a0_3 a0_4 a0_5).bind fun t149 => (some t149)) else (some false))) else (some false))))) else (some false))) = some r := H
    have A19 := Aside0.mk A190
    clear A190
    replace H := Option.bind_eq_some_iff.mp H
    obtain ⟨t144, A200, H⟩ := H
    replace H : (if t144 < 0 then ((spec_l8Cross.f t138 t139 t140 t141).bind fun t145 => ((spec_l8Dot.f t138 t139 t140 t141).bind fun t146 => ((spec_l8Least.f t145 100 t146 1).bind fun t147 => (if t147 = true then ((spec_l8Ahead.f a0_0 a0_1 a0_2 a0_3 a0_4 a0_5 a1_0 a1_1 a1_2 a1_3 a1_4 a1_5).bind fun t148 => (if t148 = true then ((spec_l8Ahead.f a1_0 a1_1 a1_2 a1_3 a1_4 a1_5 a0_0 a0_1 a0_2 a0_3 a0_4 a0_5).bind fun t149 => (some t149)) else (some false))) else (some false))))) else (some false)) = some r := H
    have A20 := Aside0.mk A200
    clear A200
    by_cases c21 : t144 < 0
    ·rw [if_pos c21] at H
     have c21b0 : decide (t144 < 0) = true := decide_eq_true c21
     clear c21
     replace H := Option.bind_eq_some_iff.mp H
     obtain ⟨t145, A220, H⟩ := H
     replace H : ((spec_l8Dot.f t138 t139 t140 t141).bind fun t146 => ((spec_l8Least.f t145 100 t146 1).bind fun t147 => (if t147 = true then ((spec_l8Ahead.f a0_0 a0_1 a0_2 a0_3 a0_4 a0_5 a1_0 a1_1 a1_2 a1_3 a1_4 a1_5).bind fun t148 => (if t148 = true then ((spec_l8Ahead.f a1_0 a1_1 a1_2 a1_3 a1_4 a1_5 a0_0 a0_1 a0_2 a0_3 a0_4 a0_5).bind fun t149 => (some t149)) else (some false))) else (some false)))) = some r := H
     have A22 := Aside0.mk A220
     clear A220
     replace H := Option.bind_eq_some_iff.mp H
     obtain ⟨t146, A230, H⟩ := H
     replace H : ((spec_l8Least.f t145 100 t146 1).bind fun t147 => (if t147 = true then ((spec_l8Ahead.f a0_0 a0_1 a0_2 a0_3 a0_4 a0_5 a1_0 a1_1 a1_2 a1_3 a1_4 a1_5).bind fun t148 => (if t148 = true then ((spec_l8Ahead.f a1_0 a1_1 a1_2 a1_3 a1_4 a1_5 a0_0 a0_1 a0_2 a0_3 a0_4 a0_5).bind fun t149 => (some t149)) else (some false))) else (some false))) = some r := H
     have A23 := Aside0.mk A230
     clear A230
     replace H := Option.bind_eq_some_iff.mp H
     obtain ⟨t147, A240, H⟩ := H
     replace H : (if t147 = true then ((spec_l8Ahead.f a0_0 a0_1 a0_2 a0_3 a0_4 a0_5 a1_0 a1_1 a1_2 a1_3 a1_4 a1_5).bind fun t148 => (if t148 = true then ((spec_l8Ahead.f a1_0 a1_1 a1_2 a1_3 a1_4 a1_5 a0_0 a0_1 a0_2 a0_3 a0_4 a0_5).bind fun t149 => (some t149)) else (some false))) else (some false)) = some r := H
     have A24 := Aside0.mk A240
     clear A240
     by_cases c25 : t147 = true
     ·subst c25
      have H1 : ((spec_l8Ahead.f a0_0 a0_1 a0_2 a0_3 a0_4 a0_5 a1_0 a1_1 a1_2 a1_3 a1_4 a1_5).bind fun t148 => (if t148 = true then ((spec_l8Ahead.f a1_0 a1_1 a1_2 a1_3 a1_4 a1_5 a0_0 a0_1 a0_2 a0_3 a0_4 a0_5).bind fun t149 => (some t149)) else (some false))) = some r := by rw [if_pos rfl] at H; exact H
      clear H
      have H := H1
      clear H1
      replace H := Option.bind_eq_some_iff.mp H
      obtain ⟨t148, A260, H⟩ := H
      replace H : (if t148 = true then ((spec_l8Ahead.f a1_0 a1_1 a1_2 a1_3 a1_4 a1_5 a0_0 a0_1 a0_2 a0_3 a0_4 a0_5).bind fun t149 => (some t149)) else (some false)) = some r := H
      have A26 := Aside0.mk A260
      clear A260
      by_cases c27 : t148 = true
      ·subst c27
       have H1 : ((spec_l8Ahead.f a1_0 a1_1 a1_2 a1_3 a1_4 a1_5 a0_0 a0_1 a0_2 a0_3 a0_4 a0_5).bind fun t149 => (some t149)) = some r := by rw [if_pos rfl] at H; exact H
       clear H
       have H := H1
       clear H1
       replace H := Option.bind_eq_some_iff.mp H
       obtain ⟨t149, A280, H⟩ := H
       replace H : (some t149) = some r := H
       have A28 := Aside0.mk A280
       clear A280
       obtain rfl := Option.some.inj H
       try go_wp2
       have n0_ := Aside0.mk (blk_drew BK134.out)
       have n1_ := Aside0.mk (blk_drew BK135.out)
       have n2_ := Aside0.mk (below_drew1 HB.out)
       clear BK134 BK135 HB
       have BK134 := n0_
       have BK135 := n1_
       have HB := n2_
       clear n0_ n1_ n2_
       refine start_ (n := 8) (S := fun w' => w'.cell? ⟨gb134, 0, none⟩ = some (.int .i64 a0_0) ∧ w'.cell? ⟨gb134, 1, none⟩ = some (.int .i64 a0_1) ∧ w'.cell? ⟨gb134, 2, none⟩ = some (.int .i64 a0_2) ∧ w'.cell? ⟨gb134, 3, none⟩ = some (.int .i64 a0_3) ∧ w'.cell? ⟨gb134, 4, none⟩ = some (.int .i64 a0_4) ∧ w'.cell? ⟨gb134, 5, none⟩ = some (.int .i64 a0_5) ∧ w'.cell? ⟨gb135, 0, none⟩ = some (.int .i64 a1_0) ∧ w'.cell? ⟨gb135, 1, none⟩ = some (.int .i64 a1_1) ∧ w'.cell? ⟨gb135, 2, none⟩ = some (.int .i64 a1_2) ∧ w'.cell? ⟨gb135, 3, none⟩ = some (.int .i64 a1_3) ∧ w'.cell? ⟨gb135, 4, none⟩ = some (.int .i64 a1_4) ∧ w'.cell? ⟨gb135, 5, none⟩ = some (.int .i64 a1_5)) (ds := []) #[false, false, false, false, false, false, false, false] (by kernel_rfl) rfl rfl ⟨bc BK134.out 0, bc BK134.out 1, bc BK134.out 2, bc BK134.out 3, bc BK134.out 4, bc BK134.out 5, bc BK135.out 0, bc BK135.out 1, bc BK135.out 2, bc BK135.out 3, bc BK135.out 4, bc BK135.out 5⟩ (fun hHeld => ?_); refine with_tabW spec_HeadOn.tab3 spec_HeadOn.bits3 (fun HT_ HW_ => ?_)
       generalize wc.drew = w3 at BK134 BK135 HB hHeld ⊢
       refine take_ (i := 0) (N := some 15) (v := ?_) (a' := ?_) (bz 8 1) rfl rfl (take_ofW HT_.out HW_.out (by kernel_rfl)) (fun _ _ _ h => h) (Or.inl ⟨by rfl, ?_⟩) hHeld ?_ ?_
       rotate_left
       ·exact t3_4
       rotate_left
       ·exact t3_1
       refine take_ (i := 2) (N := some 17) (v := ?_) (a' := ?_) (bz 8 5) rfl rfl (take_ofW HT_.out HW_.out (by kernel_rfl)) (fun _ _ _ h => h) (Or.inl ⟨by rfl, ?_⟩) hHeld ?_ ?_
       rotate_left
       ·exact t3_4
       rotate_left
       ·exact t3_1
       refine join_ (σ := Nat × Nat) 2 (bz 8 63) (fun s_ => [(16, .agg #[.int .i64 t138, .int .i64 t139]), (18, .agg #[.int .i64 t140, .int .i64 t141]), (5, .pointer (some ⟨s_.1, 0, none⟩)), (6, .pointer (some ⟨s_.2, 0, none⟩))]) (fun s_ w' => (w'.cell? ⟨gb134, 0, none⟩ = some (.int .i64 a0_0) ∧ w'.cell? ⟨gb134, 1, none⟩ = some (.int .i64 a0_1) ∧ w'.cell? ⟨gb134, 2, none⟩ = some (.int .i64 a0_2) ∧ w'.cell? ⟨gb134, 3, none⟩ = some (.int .i64 a0_3) ∧ w'.cell? ⟨gb134, 4, none⟩ = some (.int .i64 a0_4) ∧ w'.cell? ⟨gb134, 5, none⟩ = some (.int .i64 a0_5) ∧ w'.cell? ⟨gb135, 0, none⟩ = some (.int .i64 a1_0) ∧ w'.cell? ⟨gb135, 1, none⟩ = some (.int .i64 a1_1) ∧ w'.cell? ⟨gb135, 2, none⟩ = some (.int .i64 a1_2) ∧ w'.cell? ⟨gb135, 3, none⟩ = some (.int .i64 a1_3) ∧ w'.cell? ⟨gb135, 4, none⟩ = some (.int .i64 a1_4) ∧ w'.cell? ⟨gb135, 5, none⟩ = some (.int .i64 a1_5)) ∧ (w'.heap[gb134]? = some (.cells #[.int .i64 a0_0, .int .i64 a0_1, .int .i64 a0_2, .int .i64 a0_3, .int .i64 a0_4, .int .i64 a0_5] 25 (0, 0))) ∧ (w'.heap[gb135]? = some (.cells #[.int .i64 a1_0, .int .i64 a1_1, .int .i64 a1_2, .int .i64 a1_3, .int .i64 a1_4, .int .i64 a1_5] 25 (0, 0))) ∧ (w'.heap[s_.1]? = some (.cells #[.int .i64 0, .int .i64 0] 83 (0, 0))) ∧ (w'.heap[s_.2]? = some (.cells #[.int .i64 0, .int .i64 0] 83 (0, 0))) ∧ (w.heap.size ≤ s_.1) ∧ (w.heap.size ≤ s_.1) ∧ (gb134 ≠ s_.1) ∧ (s_.1 ≠ gb134) ∧ (gb135 ≠ s_.1) ∧ (s_.1 ≠ gb135) ∧ (s_.2 ≠ s_.1) ∧ (s_.1 ≠ s_.2) ∧ (w.heap.size ≤ s_.2) ∧ (w.heap.size ≤ s_.2) ∧ (gb134 ≠ s_.2) ∧ (s_.2 ≠ gb134) ∧ (gb135 ≠ s_.2) ∧ (s_.2 ≠ gb135) ∧ (Below w.heap.size w w')) ?_ ?_
       rotate_left
       ·exact t3_0
       rintro ⟨gb142, gb143⟩ w4 ⟨hS_, h0_, h1_, h2_, h3_, h4_, h5_, h6_, h7_, h8_, h9_, h10_, h11_, h12_, h13_, h14_, h15_, h16_, h17_, h18_⟩
       have n0_ : Aside0 (w4.heap[gb134]? = some (.cells #[.int .i64 a0_0, .int .i64 a0_1, .int .i64 a0_2, .int .i64 a0_3, .int .i64 a0_4, .int .i64 a0_5] 25 (0, 0))) := ⟨h0_⟩
       have n1_ : Aside0 (w4.heap[gb135]? = some (.cells #[.int .i64 a1_0, .int .i64 a1_1, .int .i64 a1_2, .int .i64 a1_3, .int .i64 a1_4, .int .i64 a1_5] 25 (0, 0))) := ⟨h1_⟩
       have n2_ : Aside0 (w4.heap[gb142]? = some (.cells #[.int .i64 0, .int .i64 0] 83 (0, 0))) := ⟨h2_⟩
       have n3_ : Aside0 (w4.heap[gb143]? = some (.cells #[.int .i64 0, .int .i64 0] 83 (0, 0))) := ⟨h3_⟩
       have n4_ : Aside0 (w.heap.size ≤ gb142) := ⟨h4_⟩
       have n5_ : Aside0 (w.heap.size ≤ gb142) := ⟨h5_⟩
       have n6_ : Aside0 (gb134 ≠ gb142) := ⟨h6_⟩
       have n7_ : Aside0 (gb142 ≠ gb134) := ⟨h7_⟩
       have n8_ : Aside0 (gb135 ≠ gb142) := ⟨h8_⟩
       have n9_ : Aside0 (gb142 ≠ gb135) := ⟨h9_⟩
       have n10_ : Aside0 (gb143 ≠ gb142) := ⟨h10_⟩
       have n11_ : Aside0 (gb142 ≠ gb143) := ⟨h11_⟩
       have n12_ : Aside0 (w.heap.size ≤ gb143) := ⟨h12_⟩
       have n13_ : Aside0 (w.heap.size ≤ gb143) := ⟨h13_⟩
       have n14_ : Aside0 (gb134 ≠ gb143) := ⟨h14_⟩
       have n15_ : Aside0 (gb143 ≠ gb134) := ⟨h15_⟩
       have n16_ : Aside0 (gb135 ≠ gb143) := ⟨h16_⟩
       have n17_ : Aside0 (gb143 ≠ gb135) := ⟨h17_⟩
       have n18_ : Aside0 (Below w.heap.size w w4) := ⟨h18_⟩
       clear BK134 BK135 HB h0_ h1_ h2_ h3_ h4_ h5_ h6_ h7_ h8_ h9_ h10_ h11_ h12_ h13_ h14_ h15_ h16_ h17_ h18_
       have BK134 := n0_
       have BK135 := n1_
       have BK142 := n2_
       have BK143 := n3_
       have GW142 := n4_
       have GE142 := n5_
       have NB134_142 := n6_
       have NB142_134 := n7_
       have NB135_142 := n8_
       have NB142_135 := n9_
       have NB143_142 := n10_
       have NB142_143 := n11_
       have GW143 := n12_
       have GE143 := n13_
       have NB134_143 := n14_
       have NB143_134 := n15_
       have NB135_143 := n16_
       have NB143_135 := n17_
       have HB := n18_
       clear n0_ n1_ n2_ n3_ n4_ n5_ n6_ n7_ n8_ n9_ n10_ n11_ n12_ n13_ n14_ n15_ n16_ n17_ n18_
       have hHeld : w4.cell? ⟨gb134, 0, none⟩ = some (.int .i64 a0_0) ∧ w4.cell? ⟨gb134, 1, none⟩ = some (.int .i64 a0_1) ∧ w4.cell? ⟨gb134, 2, none⟩ = some (.int .i64 a0_2) ∧ w4.cell? ⟨gb134, 3, none⟩ = some (.int .i64 a0_3) ∧ w4.cell? ⟨gb134, 4, none⟩ = some (.int .i64 a0_4) ∧ w4.cell? ⟨gb134, 5, none⟩ = some (.int .i64 a0_5) ∧ w4.cell? ⟨gb135, 0, none⟩ = some (.int .i64 a1_0) ∧ w4.cell? ⟨gb135, 1, none⟩ = some (.int .i64 a1_1) ∧ w4.cell? ⟨gb135, 2, none⟩ = some (.int .i64 a1_2) ∧ w4.cell? ⟨gb135, 3, none⟩ = some (.int .i64 a1_3) ∧ w4.cell? ⟨gb135, 4, none⟩ = some (.int .i64 a1_4) ∧ w4.cell? ⟨gb135, 5, none⟩ = some (.int .i64 a1_5) := hS_
       refine norm_ (a' := ?_) ?_ ?_
       rotate_left
       ·simp only [putAll, Act.put, y1, y2, y3]
        rfl
       refine one_ (i := 6) (N := none) (bz 8 127) rfl rfl (one_of HT_.out (by kernel_rfl)) (by decide) (fun K hK => ?_)
       have hs35 : w4.cell? ⟨gb142, 0, none⟩ = some (.int .i64 0) := bc BK142.out 0
       have hfs35 := blk_frozen BK142.out 0
       have hns35_0 := NB134_142.out
       have hns35_1 := NB135_142.out
       have hns35_3 := NB143_142.out
       have hms35_0 := NB142_134.out
       have hms35_1 := NB142_135.out
       have hms35_3 := NB142_143.out
       have hs36 : w4.cell? ⟨gb142, 1, none⟩ = some (.int .i64 0) := bc BK142.out 1
       have hfs36 := blk_frozen BK142.out 1
       have hns36_0 := NB134_142.out
       have hns36_1 := NB135_142.out
       have hns36_3 := NB143_142.out
       have hms36_0 := NB142_134.out
       have hms36_1 := NB142_135.out
       have hms36_3 := NB142_143.out
       refine skip_ (w1 := ?_) (by rfl) rfl ?_ ?_
       rotate_left
       ·go_simp
        rfl
       refine hK.out _ _ ⟨((cell_far (p := ⟨gb142, _, none⟩) NB134_142.out _).trans (((cell_far (p := ⟨gb142, _, none⟩) NB134_142.out _).trans (hHeld.1)))), ((cell_far (p := ⟨gb142, _, none⟩) NB134_142.out _).trans (((cell_far (p := ⟨gb142, _, none⟩) NB134_142.out _).trans (hHeld.2.1)))), ((cell_far (p := ⟨gb142, _, none⟩) NB134_142.out _).trans (((cell_far (p := ⟨gb142, _, none⟩) NB134_142.out _).trans (hHeld.2.2.1)))), ((cell_far (p := ⟨gb142, _, none⟩) NB134_142.out _).trans (((cell_far (p := ⟨gb142, _, none⟩) NB134_142.out _).trans (hHeld.2.2.2.1)))), ((cell_far (p := ⟨gb142, _, none⟩) NB134_142.out _).trans (((cell_far (p := ⟨gb142, _, none⟩) NB134_142.out _).trans (hHeld.2.2.2.2.1)))), ((cell_far (p := ⟨gb142, _, none⟩) NB134_142.out _).trans (((cell_far (p := ⟨gb142, _, none⟩) NB134_142.out _).trans (hHeld.2.2.2.2.2.1)))), ((cell_far (p := ⟨gb142, _, none⟩) NB135_142.out _).trans (((cell_far (p := ⟨gb142, _, none⟩) NB135_142.out _).trans (hHeld.2.2.2.2.2.2.1)))), ((cell_far (p := ⟨gb142, _, none⟩) NB135_142.out _).trans (((cell_far (p := ⟨gb142, _, none⟩) NB135_142.out _).trans (hHeld.2.2.2.2.2.2.2.1)))), ((cell_far (p := ⟨gb142, _, none⟩) NB135_142.out _).trans (((cell_far (p := ⟨gb142, _, none⟩) NB135_142.out _).trans (hHeld.2.2.2.2.2.2.2.2.1)))), ((cell_far (p := ⟨gb142, _, none⟩) NB135_142.out _).trans (((cell_far (p := ⟨gb142, _, none⟩) NB135_142.out _).trans (hHeld.2.2.2.2.2.2.2.2.2.1)))), ((cell_far (p := ⟨gb142, _, none⟩) NB135_142.out _).trans (((cell_far (p := ⟨gb142, _, none⟩) NB135_142.out _).trans (hHeld.2.2.2.2.2.2.2.2.2.2.1)))), ((cell_far (p := ⟨gb142, _, none⟩) NB135_142.out _).trans (((cell_far (p := ⟨gb142, _, none⟩) NB135_142.out _).trans (hHeld.2.2.2.2.2.2.2.2.2.2.2))))⟩ (fun hHeld => ?_)
       clear hK K
       refine one_ (i := 7) (N := none) (bz 8 255) rfl rfl (one_of HT_.out (by kernel_rfl)) (by decide) (fun K hK => ?_)
       have hs37 : w4.cell? ⟨gb143, 0, none⟩ = some (.int .i64 0) := bc BK143.out 0
       have hfs37 := blk_frozen BK143.out 0
       have hns37_0 := NB134_143.out
       have hns37_1 := NB135_143.out
       have hns37_2 := NB142_143.out
       have hms37_0 := NB143_134.out
       have hms37_1 := NB143_135.out
       have hms37_2 := NB143_142.out
       have hs38 : w4.cell? ⟨gb143, 1, none⟩ = some (.int .i64 0) := bc BK143.out 1
       have hfs38 := blk_frozen BK143.out 1
       have hns38_0 := NB134_143.out
       have hns38_1 := NB135_143.out
       have hns38_2 := NB142_143.out
       have hms38_0 := NB143_134.out
       have hms38_1 := NB143_135.out
       have hms38_2 := NB143_142.out
       refine skip_ (w1 := ?_) (by rfl) rfl ?_ ?_
       rotate_left
       ·go_simp
        rfl
       refine hK.out _ _ ⟨((cell_far (p := ⟨gb143, _, none⟩) NB134_143.out _).trans (((cell_far (p := ⟨gb143, _, none⟩) NB134_143.out _).trans (hHeld.1)))), ((cell_far (p := ⟨gb143, _, none⟩) NB134_143.out _).trans (((cell_far (p := ⟨gb143, _, none⟩) NB134_143.out _).trans (hHeld.2.1)))), ((cell_far (p := ⟨gb143, _, none⟩) NB134_143.out _).trans (((cell_far (p := ⟨gb143, _, none⟩) NB134_143.out _).trans (hHeld.2.2.1)))), ((cell_far (p := ⟨gb143, _, none⟩) NB134_143.out _).trans (((cell_far (p := ⟨gb143, _, none⟩) NB134_143.out _).trans (hHeld.2.2.2.1)))), ((cell_far (p := ⟨gb143, _, none⟩) NB134_143.out _).trans (((cell_far (p := ⟨gb143, _, none⟩) NB134_143.out _).trans (hHeld.2.2.2.2.1)))), ((cell_far (p := ⟨gb143, _, none⟩) NB134_143.out _).trans (((cell_far (p := ⟨gb143, _, none⟩) NB134_143.out _).trans (hHeld.2.2.2.2.2.1)))), ((cell_far (p := ⟨gb143, _, none⟩) NB135_143.out _).trans (((cell_far (p := ⟨gb143, _, none⟩) NB135_143.out _).trans (hHeld.2.2.2.2.2.2.1)))), ((cell_far (p := ⟨gb143, _, none⟩) NB135_143.out _).trans (((cell_far (p := ⟨gb143, _, none⟩) NB135_143.out _).trans (hHeld.2.2.2.2.2.2.2.1)))), ((cell_far (p := ⟨gb143, _, none⟩) NB135_143.out _).trans (((cell_far (p := ⟨gb143, _, none⟩) NB135_143.out _).trans (hHeld.2.2.2.2.2.2.2.2.1)))), ((cell_far (p := ⟨gb143, _, none⟩) NB135_143.out _).trans (((cell_far (p := ⟨gb143, _, none⟩) NB135_143.out _).trans (hHeld.2.2.2.2.2.2.2.2.2.1)))), ((cell_far (p := ⟨gb143, _, none⟩) NB135_143.out _).trans (((cell_far (p := ⟨gb143, _, none⟩) NB135_143.out _).trans (hHeld.2.2.2.2.2.2.2.2.2.2.1)))), ((cell_far (p := ⟨gb143, _, none⟩) NB135_143.out _).trans (((cell_far (p := ⟨gb143, _, none⟩) NB135_143.out _).trans (hHeld.2.2.2.2.2.2.2.2.2.2.2))))⟩ (fun hHeld => ?_)
       clear hK K
       refine done_ (done_of HT_.out (by kernel_rfl)) ?_
       try go_wp2
       have n0_ : Aside0 (((((w4.setCell ⟨gb142, 0, none⟩ (.int .i64 t138)).setCell ⟨gb142, 1, none⟩ (.int .i64 t139)).setCell ⟨gb143, 0, none⟩ (.int .i64 t140)).setCell ⟨gb143, 1, none⟩ (.int .i64 t141)).heap[gb134]? = some (.cells #[.int .i64 a0_0, .int .i64 a0_1, .int .i64 a0_2, .int .i64 a0_3, .int .i64 a0_4, .int .i64 a0_5] 25 (0, 0))) := ⟨by (with_reducible repeat (first | refine blk_drewN ?_ _ | refine blk_drew ?_ | refine blk_alloc ?_ _)); refine blk_far ?_ NB134_143.out _; (with_reducible repeat (first | refine blk_drewN ?_ _ | refine blk_drew ?_ | refine blk_alloc ?_ _)); refine blk_far ?_ NB134_143.out _; (with_reducible repeat (first | refine blk_drewN ?_ _ | refine blk_drew ?_ | refine blk_alloc ?_ _)); refine blk_far ?_ NB134_142.out _; (with_reducible repeat (first | refine blk_drewN ?_ _ | refine blk_drew ?_ | refine blk_alloc ?_ _)); refine blk_far ?_ NB134_142.out _; (with_reducible repeat (first | refine blk_drewN ?_ _ | refine blk_drew ?_ | refine blk_alloc ?_ _)); exact BK134.out⟩
       have n1_ : Aside0 (((((w4.setCell ⟨gb142, 0, none⟩ (.int .i64 t138)).setCell ⟨gb142, 1, none⟩ (.int .i64 t139)).setCell ⟨gb143, 0, none⟩ (.int .i64 t140)).setCell ⟨gb143, 1, none⟩ (.int .i64 t141)).heap[gb135]? = some (.cells #[.int .i64 a1_0, .int .i64 a1_1, .int .i64 a1_2, .int .i64 a1_3, .int .i64 a1_4, .int .i64 a1_5] 25 (0, 0))) := ⟨by (with_reducible repeat (first | refine blk_drewN ?_ _ | refine blk_drew ?_ | refine blk_alloc ?_ _)); refine blk_far ?_ NB135_143.out _; (with_reducible repeat (first | refine blk_drewN ?_ _ | refine blk_drew ?_ | refine blk_alloc ?_ _)); refine blk_far ?_ NB135_143.out _; (with_reducible repeat (first | refine blk_drewN ?_ _ | refine blk_drew ?_ | refine blk_alloc ?_ _)); refine blk_far ?_ NB135_142.out _; (with_reducible repeat (first | refine blk_drewN ?_ _ | refine blk_drew ?_ | refine blk_alloc ?_ _)); refine blk_far ?_ NB135_142.out _; (with_reducible repeat (first | refine blk_drewN ?_ _ | refine blk_drew ?_ | refine blk_alloc ?_ _)); exact BK135.out⟩
       have n2_ : Aside0 (((((w4.setCell ⟨gb142, 0, none⟩ (.int .i64 t138)).setCell ⟨gb142, 1, none⟩ (.int .i64 t139)).setCell ⟨gb143, 0, none⟩ (.int .i64 t140)).setCell ⟨gb143, 1, none⟩ (.int .i64 t141)).heap[gb142]? = some (.cells #[.int .i64 t138, .int .i64 t139] 83 (0, 0))) := ⟨by (with_reducible repeat (first | refine blk_drewN ?_ _ | refine blk_drew ?_ | refine blk_alloc ?_ _)); refine blk_far ?_ NB142_143.out _; (with_reducible repeat (first | refine blk_drewN ?_ _ | refine blk_drew ?_ | refine blk_alloc ?_ _)); refine blk_far ?_ NB142_143.out _; (with_reducible repeat (first | refine blk_drewN ?_ _ | refine blk_drew ?_ | refine blk_alloc ?_ _)); refine blk_put (cs := #[.int .i64 t138, .int .i64 0]) ?_ 1 _ rfl; (with_reducible repeat (first | refine blk_drewN ?_ _ | refine blk_drew ?_ | refine blk_alloc ?_ _)); refine blk_put (cs := #[.int .i64 0, .int .i64 0]) ?_ 0 _ rfl; (with_reducible repeat (first | refine blk_drewN ?_ _ | refine blk_drew ?_ | refine blk_alloc ?_ _)); exact BK142.out⟩
       have n3_ : Aside0 (((((w4.setCell ⟨gb142, 0, none⟩ (.int .i64 t138)).setCell ⟨gb142, 1, none⟩ (.int .i64 t139)).setCell ⟨gb143, 0, none⟩ (.int .i64 t140)).setCell ⟨gb143, 1, none⟩ (.int .i64 t141)).heap[gb143]? = some (.cells #[.int .i64 t140, .int .i64 t141] 83 (0, 0))) := ⟨by (with_reducible repeat (first | refine blk_drewN ?_ _ | refine blk_drew ?_ | refine blk_alloc ?_ _)); refine blk_put (cs := #[.int .i64 t140, .int .i64 0]) ?_ 1 _ rfl; (with_reducible repeat (first | refine blk_drewN ?_ _ | refine blk_drew ?_ | refine blk_alloc ?_ _)); refine blk_put (cs := #[.int .i64 0, .int .i64 0]) ?_ 0 _ rfl; (with_reducible repeat (first | refine blk_drewN ?_ _ | refine blk_drew ?_ | refine blk_alloc ?_ _)); refine blk_far ?_ NB143_142.out _; (with_reducible repeat (first | refine blk_drewN ?_ _ | refine blk_drew ?_ | refine blk_alloc ?_ _)); refine blk_far ?_ NB143_142.out _; (with_reducible repeat (first | refine blk_drewN ?_ _ | refine blk_drew ?_ | refine blk_alloc ?_ _)); exact BK143.out⟩
       have n4_ : Aside0 (Below w.heap.size w ((((w4.setCell ⟨gb142, 0, none⟩ (.int .i64 t138)).setCell ⟨gb142, 1, none⟩ (.int .i64 t139)).setCell ⟨gb143, 0, none⟩ (.int .i64 t140)).setCell ⟨gb143, 1, none⟩ (.int .i64 t141))) := ⟨by repeat (first | (with_reducible first | exact HB.out | apply below_alloc | apply pw_below_drewN | apply below_drew1 | refine below_set ?_ GE134.out | refine below_set ?_ GE135.out | refine below_set ?_ GE142.out | refine below_set ?_ GE143.out) | exact HB.out)⟩
       (try clear BK134)
       (try clear BK135)
       (try clear BK142)
       (try clear BK143)
       (try clear HB)
       generalize ((((w4.setCell ⟨gb142, 0, none⟩ (.int .i64 t138)).setCell ⟨gb142, 1, none⟩ (.int .i64 t139)).setCell ⟨gb143, 0, none⟩ (.int .i64 t140)).setCell ⟨gb143, 1, none⟩ (.int .i64 t141)) = w5 at n0_ n1_ n2_ n3_ n4_ ⊢
       have BK134 := n0_
       have BK135 := n1_
       have BK142 := n2_
       have BK143 := n3_
       have HB := n4_
       clear n0_ n1_ n2_ n3_ n4_
       have n0_ := Aside0.mk (blk_drew BK134.out)
       have n1_ := Aside0.mk (blk_drew BK135.out)
       have n2_ := Aside0.mk (blk_drew BK142.out)
       have n3_ := Aside0.mk (blk_drew BK143.out)
       have n4_ := Aside0.mk (below_drew1 HB.out)
       clear BK134 BK135 BK142 BK143 HB
       have BK134 := n0_
       have BK135 := n1_
       have BK142 := n2_
       have BK143 := n3_
       have HB := n4_
       clear n0_ n1_ n2_ n3_ n4_
       refine start_ (n := 24) (S := fun w' => w'.cell? ⟨gb142, 0, none⟩ = some (.int .i64 t138) ∧ w'.cell? ⟨gb142, 1, none⟩ = some (.int .i64 t139) ∧ w'.cell? ⟨gb143, 0, none⟩ = some (.int .i64 t140) ∧ w'.cell? ⟨gb143, 1, none⟩ = some (.int .i64 t141) ∧ w'.cell? ⟨gb134, 0, none⟩ = some (.int .i64 a0_0) ∧ w'.cell? ⟨gb134, 1, none⟩ = some (.int .i64 a0_1) ∧ w'.cell? ⟨gb134, 2, none⟩ = some (.int .i64 a0_2) ∧ w'.cell? ⟨gb134, 3, none⟩ = some (.int .i64 a0_3) ∧ w'.cell? ⟨gb134, 4, none⟩ = some (.int .i64 a0_4) ∧ w'.cell? ⟨gb134, 5, none⟩ = some (.int .i64 a0_5) ∧ w'.cell? ⟨gb135, 0, none⟩ = some (.int .i64 a1_0) ∧ w'.cell? ⟨gb135, 1, none⟩ = some (.int .i64 a1_1) ∧ w'.cell? ⟨gb135, 2, none⟩ = some (.int .i64 a1_2) ∧ w'.cell? ⟨gb135, 3, none⟩ = some (.int .i64 a1_3) ∧ w'.cell? ⟨gb135, 4, none⟩ = some (.int .i64 a1_4) ∧ w'.cell? ⟨gb135, 5, none⟩ = some (.int .i64 a1_5)) (ds := []) #[false, false, false, false, false, false, false, false, false, false, false, false, false, false, false, false, false, false, false, false, false, false, false, false] (by kernel_rfl) rfl rfl ⟨bc BK142.out 0, bc BK142.out 1, bc BK143.out 0, bc BK143.out 1, bc BK134.out 0, bc BK134.out 1, bc BK134.out 2, bc BK134.out 3, bc BK134.out 4, bc BK134.out 5, bc BK135.out 0, bc BK135.out 1, bc BK135.out 2, bc BK135.out 3, bc BK135.out 4, bc BK135.out 5⟩ (fun hHeld => ?_); refine with_tabW spec_HeadOn.tab4 spec_HeadOn.bits4 (fun HT_ HW_ => ?_)
       generalize w5.drew = w6 at BK134 BK135 BK142 BK143 HB hHeld ⊢
       refine take_ (i := 0) (N := some 19) (v := ?_) (a' := ?_) (bz 24 1) rfl rfl (take_ofW HT_.out HW_.out (by kernel_rfl)) (fun _ _ _ h => h) (Or.inl ⟨by rfl, ?_⟩) hHeld ?_ ?_
       rotate_left
       ·exact t3_2
       rotate_left
       ·exact t3_1
       refine take_ (i := 1) (N := some 20) (v := ?_) (a' := ?_) (bz 24 3) rfl rfl (take_ofW HT_.out HW_.out (by kernel_rfl)) (fun _ _ _ h => h) (Or.inl ⟨by rfl, ?_⟩) hHeld ?_ ?_
       rotate_left
       ·exact t3_2
       rotate_left
       ·exact t3_1
       refine one_ (i := 2) (N := some 21) (bz 24 7) rfl rfl (one_of HT_.out (by kernel_rfl)) (by decide) (fun K hK => ?_)
       refine goes_ Try.func68 (by kernel_rfl) rfl #[.agg #[.int .i64 t138, .int .i64 t139], .agg #[.int .i64 t140, .int .i64 t141]] (by rfl) rfl rfl s3_5 ?_
       with_reducible refine (spec_l8Dot.calls t138 t139 t140 t141 t144 _ A20.out).mono ?_
       rintro e w7 ⟨rfl, hb⟩
       refine ⟨_, rfl, ?_⟩
       have n0_ := Aside0.mk (bb (zk BK134.out) hb)
       have n1_ := Aside0.mk (bb (zk BK135.out) hb)
       have n2_ := Aside0.mk (bb (zk BK142.out) hb)
       have n3_ := Aside0.mk (bb (zk BK143.out) hb)
       have n4_ := Aside0.mk (below_step s3_3 hb)
       clear BK134 BK135 BK142 BK143 HB
       have BK134 := n0_
       have BK135 := n1_
       have BK142 := n2_
       have BK143 := n3_
       have HB := n4_
       clear n0_ n1_ n2_ n3_ n4_
       (try clear hb)
       (try clear hb2)
       (try clear hk)
       (try clear hi)
       refine hK.out _ _ ⟨bc BK142.out 0, bc BK142.out 1, bc BK143.out 0, bc BK143.out 1, bc BK134.out 0, bc BK134.out 1, bc BK134.out 2, bc BK134.out 3, bc BK134.out 4, bc BK134.out 5, bc BK135.out 0, bc BK135.out 1, bc BK135.out 2, bc BK135.out 3, bc BK135.out 4, bc BK135.out 5⟩ (fun hHeld => ?_)
       clear hK K
       refine norm_ (a' := ?_) ?_ ?_
       rotate_left
       ·show Act.put _ (some 21) _ = _
        simp only [Act.put, y1, y2, y3, i64_w, i32_w]
        rfl
       refine pure_ (i := 3) (N := some 22) (v := ?_) (a' := ?_) (bz 24 15) rfl rfl (any_of HT_.out (by kernel_rfl)) (fun _ _ _ h => h) (Or.inl ⟨by rfl, ?_⟩) ?_ ?_
       rotate_left
       ·exact t3_3
       rotate_left
       ·exact t3_1
       refine pure_ (i := 4) (N := some 23) (v := ?_) (a' := ?_) (bz 24 31) rfl rfl (any_of HT_.out (by kernel_rfl)) (fun _ _ _ h => h) (Or.inl ⟨by rfl, ?_⟩) ?_ ?_
       rotate_left
       ·exact t3_3
       rotate_left
       ·exact t3_1
       refine take_ (i := 5) (N := some 24) (v := ?_) (a' := ?_) (bz 24 63) rfl rfl (take_ofW HT_.out HW_.out (by kernel_rfl)) (fun _ _ _ h => h) (Or.inl ⟨by rfl, ?_⟩) hHeld ?_ ?_
       rotate_left
       ·exact t3_2
       rotate_left
       ·exact t3_1
       refine take_ (i := 6) (N := some 25) (v := ?_) (a' := ?_) (bz 24 127) rfl rfl (take_ofW HT_.out HW_.out (by kernel_rfl)) (fun _ _ _ h => h) (Or.inl ⟨by rfl, ?_⟩) hHeld ?_ ?_
       rotate_left
       ·exact t3_2
       rotate_left
       ·exact t3_1
       refine take_ (i := 8) (N := some 27) (v := ?_) (a' := ?_) (bz 24 383) rfl rfl (take_ofW HT_.out HW_.out (by kernel_rfl)) (fun _ _ _ h => h) (Or.inl ⟨by rfl, ?_⟩) hHeld ?_ ?_
       rotate_left
       ·exact t3_2
       rotate_left
       ·exact t3_1
       refine take_ (i := 9) (N := some 28) (v := ?_) (a' := ?_) (bz 24 895) rfl rfl (take_ofW HT_.out HW_.out (by kernel_rfl)) (fun _ _ _ h => h) (Or.inl ⟨by rfl, ?_⟩) hHeld ?_ ?_
       rotate_left
       ·exact t3_2
       rotate_left
       ·exact t3_1
       refine one_ (i := 7) (N := some 26) (bz 24 1023) rfl rfl (one_of HT_.out (by kernel_rfl)) (by decide) (fun K hK => ?_)
       refine goes_ Try.func67 (by kernel_rfl) rfl #[.agg #[.int .i64 t138, .int .i64 t139], .agg #[.int .i64 t140, .int .i64 t141]] (by rfl) rfl rfl s3_5 ?_
       with_reducible refine (spec_l8Cross.calls t138 t139 t140 t141 t145 _ A22.out).mono ?_
       rintro e w8 ⟨rfl, hb⟩
       refine ⟨_, rfl, ?_⟩
       have n0_ := Aside0.mk (bb (zk BK134.out) hb)
       have n1_ := Aside0.mk (bb (zk BK135.out) hb)
       have n2_ := Aside0.mk (bb (zk BK142.out) hb)
       have n3_ := Aside0.mk (bb (zk BK143.out) hb)
       have n4_ := Aside0.mk (below_step s3_3 hb)
       clear BK134 BK135 BK142 BK143 HB
       have BK134 := n0_
       have BK135 := n1_
       have BK142 := n2_
       have BK143 := n3_
       have HB := n4_
       clear n0_ n1_ n2_ n3_ n4_
       (try clear hb)
       (try clear hb2)
       (try clear hk)
       (try clear hi)
       refine hK.out _ _ ⟨bc BK142.out 0, bc BK142.out 1, bc BK143.out 0, bc BK143.out 1, bc BK134.out 0, bc BK134.out 1, bc BK134.out 2, bc BK134.out 3, bc BK134.out 4, bc BK134.out 5, bc BK135.out 0, bc BK135.out 1, bc BK135.out 2, bc BK135.out 3, bc BK135.out 4, bc BK135.out 5⟩ (fun hHeld => ?_)
       clear hK K
       refine norm_ (a' := ?_) ?_ ?_
       rotate_left
       ·show Act.put _ (some 26) _ = _
        simp only [Act.put, y1, y2, y3, i64_w, i32_w]
        rfl
       refine one_ (i := 10) (N := some 29) (bz 24 2047) rfl rfl (one_of HT_.out (by kernel_rfl)) (by decide) (fun K hK => ?_)
       refine goes_ Try.func68 (by kernel_rfl) rfl #[.agg #[.int .i64 t138, .int .i64 t139], .agg #[.int .i64 t140, .int .i64 t141]] (by rfl) rfl rfl s3_5 ?_
       with_reducible refine (spec_l8Dot.calls t138 t139 t140 t141 t146 _ A23.out).mono ?_
       rintro e w9 ⟨rfl, hb⟩
       refine ⟨_, rfl, ?_⟩
       have n0_ := Aside0.mk (bb (zk BK134.out) hb)
       have n1_ := Aside0.mk (bb (zk BK135.out) hb)
       have n2_ := Aside0.mk (bb (zk BK142.out) hb)
       have n3_ := Aside0.mk (bb (zk BK143.out) hb)
       have n4_ := Aside0.mk (below_step s3_3 hb)
       clear BK134 BK135 BK142 BK143 HB
       have BK134 := n0_
       have BK135 := n1_
       have BK142 := n2_
       have BK143 := n3_
       have HB := n4_
       clear n0_ n1_ n2_ n3_ n4_
       (try clear hb)
       (try clear hb2)
       (try clear hk)
       (try clear hi)
       refine hK.out _ _ ⟨bc BK142.out 0, bc BK142.out 1, bc BK143.out 0, bc BK143.out 1, bc BK134.out 0, bc BK134.out 1, bc BK134.out 2, bc BK134.out 3, bc BK134.out 4, bc BK134.out 5, bc BK135.out 0, bc BK135.out 1, bc BK135.out 2, bc BK135.out 3, bc BK135.out 4, bc BK135.out 5⟩ (fun hHeld => ?_)
       clear hK K
       refine norm_ (a' := ?_) ?_ ?_
       rotate_left
       ·show Act.put _ (some 29) _ = _
        simp only [Act.put, y1, y2, y3, i64_w, i32_w]
        rfl
       refine one_ (i := 11) (N := some 30) (bz 24 4095) rfl rfl (one_of HT_.out (by kernel_rfl)) (by decide) (fun K hK => ?_)
       refine goes_ Try.func69 (by kernel_rfl) rfl #[.int .i64 t145, .int .i64 100, .int .i64 t146, .int .i64 1] (by rfl) rfl rfl s3_5 ?_
       with_reducible refine (spec_l8Least.calls t145 100 t146 1 true _ A24.out).mono ?_
       rintro e w' ⟨rfl, ⟨nd, rfl⟩⟩
       refine ⟨_, rfl, ?_⟩
       refine hK.out _ _ ⟨bc BK142.out 0, bc BK142.out 1, bc BK143.out 0, bc BK143.out 1, bc BK134.out 0, bc BK134.out 1, bc BK134.out 2, bc BK134.out 3, bc BK134.out 4, bc BK134.out 5, bc BK135.out 0, bc BK135.out 1, bc BK135.out 2, bc BK135.out 3, bc BK135.out 4, bc BK135.out 5⟩ (fun hHeld => ?_)
       clear hK K
       refine norm_ (a' := ?_) ?_ ?_
       rotate_left
       ·show Act.put _ (some 30) _ = _
        simp only [Act.put, y1, y2, y3, i64_w, i32_w]
        rfl
       refine pure_ (i := 12) (N := some 31) (v := ?_) (a' := ?_) (bz 24 8191) rfl rfl (any_of HT_.out (by kernel_rfl)) (fun _ _ _ h => h) (Or.inl ⟨by rfl, ?_⟩) ?_ ?_
       rotate_left
       ·exact t3_3
       rotate_left
       ·exact t3_1
       refine pure_ (i := 13) (N := some 32) (v := ?_) (a' := ?_) (bz 24 16383) rfl rfl (any_of HT_.out (by kernel_rfl)) (fun _ _ _ h => h) (Or.inl ⟨by rfl, ?_⟩) ?_ ?_
       rotate_left
       ·exact t3_3
       rotate_left
       ·exact t3_1
       refine take_ (i := 14) (N := some 33) (v := ?_) (a' := ?_) (bz 24 32767) rfl rfl (take_ofW HT_.out HW_.out (by kernel_rfl)) (fun _ _ _ h => h) (Or.inl ⟨by rfl, ?_⟩) hHeld ?_ ?_
       rotate_left
       ·exact t3_2
       rotate_left
       ·exact t3_1
       refine take_ (i := 15) (N := some 34) (v := ?_) (a' := ?_) (bz 24 65535) rfl rfl (take_ofW HT_.out HW_.out (by kernel_rfl)) (fun _ _ _ h => h) (Or.inl ⟨by rfl, ?_⟩) hHeld ?_ ?_
       rotate_left
       ·exact t3_2
       rotate_left
       ·exact t3_1
       refine one_ (i := 16) (N := some 35) (bz 24 131071) rfl rfl (one_of HT_.out (by kernel_rfl)) (by decide) (fun K hK => ?_)
       refine goes_ Try.func75 (by kernel_rfl) rfl #[.agg #[.int .i64 a0_0, .int .i64 a0_1, .int .i64 a0_2, .int .i64 a0_3, .int .i64 a0_4, .int .i64 a0_5], .agg #[.int .i64 a1_0, .int .i64 a1_1, .int .i64 a1_2, .int .i64 a1_3, .int .i64 a1_4, .int .i64 a1_5]] (by rfl) rfl rfl s3_5 ?_
       with_reducible refine (spec_l8Ahead.calls a0_0 a0_1 a0_2 a0_3 a0_4 a0_5 a1_0 a1_1 a1_2 a1_3 a1_4 a1_5 true _ A26.out).mono ?_
       rintro e w10 ⟨rfl, hb⟩
       refine ⟨_, rfl, ?_⟩
       have n0_ := Aside0.mk (bb (zk BK134.out) hb)
       have n1_ := Aside0.mk (bb (zk BK135.out) hb)
       have n2_ := Aside0.mk (bb (zk BK142.out) hb)
       have n3_ := Aside0.mk (bb (zk BK143.out) hb)
       have n4_ := Aside0.mk (below_step s3_3 hb)
       clear BK134 BK135 BK142 BK143 HB
       have BK134 := n0_
       have BK135 := n1_
       have BK142 := n2_
       have BK143 := n3_
       have HB := n4_
       clear n0_ n1_ n2_ n3_ n4_
       (try clear hb)
       (try clear hb2)
       (try clear hk)
       (try clear hi)
       refine hK.out _ _ ⟨bc BK142.out 0, bc BK142.out 1, bc BK143.out 0, bc BK143.out 1, bc BK134.out 0, bc BK134.out 1, bc BK134.out 2, bc BK134.out 3, bc BK134.out 4, bc BK134.out 5, bc BK135.out 0, bc BK135.out 1, bc BK135.out 2, bc BK135.out 3, bc BK135.out 4, bc BK135.out 5⟩ (fun hHeld => ?_)
       clear hK K
       refine norm_ (a' := ?_) ?_ ?_
       rotate_left
       ·show Act.put _ (some 35) _ = _
        simp only [Act.put, y1, y2, y3, i64_w, i32_w]
        rfl
       refine pure_ (i := 17) (N := some 36) (v := ?_) (a' := ?_) (bz 24 262143) rfl rfl (any_of HT_.out (by kernel_rfl)) (fun _ _ _ h => h) (Or.inl ⟨by rfl, ?_⟩) ?_ ?_
       rotate_left
       ·exact t3_3
       rotate_left
       ·exact t3_1
       refine pure_ (i := 18) (N := some 37) (v := ?_) (a' := ?_) (bz 24 524287) rfl rfl (any_of HT_.out (by kernel_rfl)) (fun _ _ _ h => h) (Or.inl ⟨by rfl, ?_⟩) ?_ ?_
       rotate_left
       ·exact t3_3
       rotate_left
       ·exact t3_1
       refine take_ (i := 19) (N := some 38) (v := ?_) (a' := ?_) (bz 24 1048575) rfl rfl (take_ofW HT_.out HW_.out (by kernel_rfl)) (fun _ _ _ h => h) (Or.inl ⟨by rfl, ?_⟩) hHeld ?_ ?_
       rotate_left
       ·exact t3_2
       rotate_left
       ·exact t3_1
       refine take_ (i := 20) (N := some 39) (v := ?_) (a' := ?_) (bz 24 2097151) rfl rfl (take_ofW HT_.out HW_.out (by kernel_rfl)) (fun _ _ _ h => h) (Or.inl ⟨by rfl, ?_⟩) hHeld ?_ ?_
       rotate_left
       ·exact t3_2
       rotate_left
       ·exact t3_1
       refine one_ (i := 21) (N := some 40) (bz 24 4194303) rfl rfl (one_of HT_.out (by kernel_rfl)) (by decide) (fun K hK => ?_)
       refine goes_ Try.func75 (by kernel_rfl) rfl #[.agg #[.int .i64 a1_0, .int .i64 a1_1, .int .i64 a1_2, .int .i64 a1_3, .int .i64 a1_4, .int .i64 a1_5], .agg #[.int .i64 a0_0, .int .i64 a0_1, .int .i64 a0_2, .int .i64 a0_3, .int .i64 a0_4, .int .i64 a0_5]] (by rfl) rfl rfl s3_5 ?_
       with_reducible refine (spec_l8Ahead.calls a1_0 a1_1 a1_2 a1_3 a1_4 a1_5 a0_0 a0_1 a0_2 a0_3 a0_4 a0_5 t149 _ A28.out).mono ?_
       rintro e w11 ⟨rfl, hb⟩
       refine ⟨_, rfl, ?_⟩
       have n0_ := Aside0.mk (bb (zk BK134.out) hb)
       have n1_ := Aside0.mk (bb (zk BK135.out) hb)
       have n2_ := Aside0.mk (bb (zk BK142.out) hb)
       have n3_ := Aside0.mk (bb (zk BK143.out) hb)
       have n4_ := Aside0.mk (below_step s3_3 hb)
       clear BK134 BK135 BK142 BK143 HB
       have BK134 := n0_
       have BK135 := n1_
       have BK142 := n2_
       have BK143 := n3_
       have HB := n4_
       clear n0_ n1_ n2_ n3_ n4_
       (try clear hb)
       (try clear hb2)
       (try clear hk)
       (try clear hi)
       refine hK.out _ _ ⟨bc BK142.out 0, bc BK142.out 1, bc BK143.out 0, bc BK143.out 1, bc BK134.out 0, bc BK134.out 1, bc BK134.out 2, bc BK134.out 3, bc BK134.out 4, bc BK134.out 5, bc BK135.out 0, bc BK135.out 1, bc BK135.out 2, bc BK135.out 3, bc BK135.out 4, bc BK135.out 5⟩ (fun hHeld => ?_)
       clear hK K
       refine norm_ (a' := ?_) ?_ ?_
       rotate_left
       ·show Act.put _ (some 40) _ = _
        simp only [Act.put, y1, y2, y3, i64_w, i32_w]
        rfl
       refine pure_ (i := 22) (N := some 41) (v := ?_) (a' := ?_) (bz 24 8388607) rfl rfl (any_of HT_.out (by kernel_rfl)) (fun _ _ _ h => h) (Or.inl ⟨by rfl, ?_⟩) ?_ ?_
       rotate_left
       ·exact t3_3
       rotate_left
       ·exact t3_1
       refine pure_ (i := 23) (N := some 4) (v := ?_) (a' := ?_) (bz 24 16777215) rfl rfl (any_of HT_.out (by kernel_rfl)) (fun _ _ _ h => h) (Or.inl ⟨by rfl, ?_⟩) ?_ ?_
       rotate_left
       ·exact t3_3
       rotate_left
       ·exact t3_1
       refine done_ (done_of HT_.out (by kernel_rfl)) ?_
       try go_wp2
       go_ret
       exact ⟨by first | rfl | (simp [errW_none, errW_some] <;> rfl) | (simp [*, errW_none, errW_some] <;> rfl), by repeat (first | (with_reducible first | exact HB.out | apply below_alloc | apply pw_below_drewN | apply below_drew1 | refine below_set ?_ GE134.out | refine below_set ?_ GE135.out | refine below_set ?_ GE142.out | refine below_set ?_ GE143.out) | exact HB.out)⟩
      ·replace c27 := Bool.eq_false_iff.mpr c27
       subst c27
       have H1 : (some false) = some r := by rw [if_neg (show ¬ (false = true) by decide)] at H; exact H
       clear H
       have H := H1
       clear H1
       obtain rfl := Option.some.inj H
       try go_wp2
       have n0_ := Aside0.mk (blk_drew BK134.out)
       have n1_ := Aside0.mk (blk_drew BK135.out)
       have n2_ := Aside0.mk (below_drew1 HB.out)
       clear BK134 BK135 HB
       have BK134 := n0_
       have BK135 := n1_
       have HB := n2_
       clear n0_ n1_ n2_
       refine start_ (n := 8) (S := fun w' => w'.cell? ⟨gb134, 0, none⟩ = some (.int .i64 a0_0) ∧ w'.cell? ⟨gb134, 1, none⟩ = some (.int .i64 a0_1) ∧ w'.cell? ⟨gb134, 2, none⟩ = some (.int .i64 a0_2) ∧ w'.cell? ⟨gb134, 3, none⟩ = some (.int .i64 a0_3) ∧ w'.cell? ⟨gb134, 4, none⟩ = some (.int .i64 a0_4) ∧ w'.cell? ⟨gb134, 5, none⟩ = some (.int .i64 a0_5) ∧ w'.cell? ⟨gb135, 0, none⟩ = some (.int .i64 a1_0) ∧ w'.cell? ⟨gb135, 1, none⟩ = some (.int .i64 a1_1) ∧ w'.cell? ⟨gb135, 2, none⟩ = some (.int .i64 a1_2) ∧ w'.cell? ⟨gb135, 3, none⟩ = some (.int .i64 a1_3) ∧ w'.cell? ⟨gb135, 4, none⟩ = some (.int .i64 a1_4) ∧ w'.cell? ⟨gb135, 5, none⟩ = some (.int .i64 a1_5)) (ds := []) #[false, false, false, false, false, false, false, false] (by kernel_rfl) rfl rfl ⟨bc BK134.out 0, bc BK134.out 1, bc BK134.out 2, bc BK134.out 3, bc BK134.out 4, bc BK134.out 5, bc BK135.out 0, bc BK135.out 1, bc BK135.out 2, bc BK135.out 3, bc BK135.out 4, bc BK135.out 5⟩ (fun hHeld => ?_); refine with_tabW spec_HeadOn.tab3 spec_HeadOn.bits3 (fun HT_ HW_ => ?_)
       generalize wc.drew = w3 at BK134 BK135 HB hHeld ⊢
       refine take_ (i := 0) (N := some 15) (v := ?_) (a' := ?_) (bz 8 1) rfl rfl (take_ofW HT_.out HW_.out (by kernel_rfl)) (fun _ _ _ h => h) (Or.inl ⟨by rfl, ?_⟩) hHeld ?_ ?_
       rotate_left
       ·exact t3_4
       rotate_left
       ·exact t3_1
       refine take_ (i := 2) (N := some 17) (v := ?_) (a' := ?_) (bz 8 5) rfl rfl (take_ofW HT_.out HW_.out (by kernel_rfl)) (fun _ _ _ h => h) (Or.inl ⟨by rfl, ?_⟩) hHeld ?_ ?_
       rotate_left
       ·exact t3_4
       rotate_left
       ·exact t3_1
       refine join_ (σ := Nat × Nat) 2 (bz 8 63) (fun s_ => [(16, .agg #[.int .i64 t138, .int .i64 t139]), (18, .agg #[.int .i64 t140, .int .i64 t141]), (5, .pointer (some ⟨s_.1, 0, none⟩)), (6, .pointer (some ⟨s_.2, 0, none⟩))]) (fun s_ w' => (w'.cell? ⟨gb134, 0, none⟩ = some (.int .i64 a0_0) ∧ w'.cell? ⟨gb134, 1, none⟩ = some (.int .i64 a0_1) ∧ w'.cell? ⟨gb134, 2, none⟩ = some (.int .i64 a0_2) ∧ w'.cell? ⟨gb134, 3, none⟩ = some (.int .i64 a0_3) ∧ w'.cell? ⟨gb134, 4, none⟩ = some (.int .i64 a0_4) ∧ w'.cell? ⟨gb134, 5, none⟩ = some (.int .i64 a0_5) ∧ w'.cell? ⟨gb135, 0, none⟩ = some (.int .i64 a1_0) ∧ w'.cell? ⟨gb135, 1, none⟩ = some (.int .i64 a1_1) ∧ w'.cell? ⟨gb135, 2, none⟩ = some (.int .i64 a1_2) ∧ w'.cell? ⟨gb135, 3, none⟩ = some (.int .i64 a1_3) ∧ w'.cell? ⟨gb135, 4, none⟩ = some (.int .i64 a1_4) ∧ w'.cell? ⟨gb135, 5, none⟩ = some (.int .i64 a1_5)) ∧ (w'.heap[gb134]? = some (.cells #[.int .i64 a0_0, .int .i64 a0_1, .int .i64 a0_2, .int .i64 a0_3, .int .i64 a0_4, .int .i64 a0_5] 25 (0, 0))) ∧ (w'.heap[gb135]? = some (.cells #[.int .i64 a1_0, .int .i64 a1_1, .int .i64 a1_2, .int .i64 a1_3, .int .i64 a1_4, .int .i64 a1_5] 25 (0, 0))) ∧ (w'.heap[s_.1]? = some (.cells #[.int .i64 0, .int .i64 0] 83 (0, 0))) ∧ (w'.heap[s_.2]? = some (.cells #[.int .i64 0, .int .i64 0] 83 (0, 0))) ∧ (w.heap.size ≤ s_.1) ∧ (w.heap.size ≤ s_.1) ∧ (gb134 ≠ s_.1) ∧ (s_.1 ≠ gb134) ∧ (gb135 ≠ s_.1) ∧ (s_.1 ≠ gb135) ∧ (s_.2 ≠ s_.1) ∧ (s_.1 ≠ s_.2) ∧ (w.heap.size ≤ s_.2) ∧ (w.heap.size ≤ s_.2) ∧ (gb134 ≠ s_.2) ∧ (s_.2 ≠ gb134) ∧ (gb135 ≠ s_.2) ∧ (s_.2 ≠ gb135) ∧ (Below w.heap.size w w')) ?_ ?_
       rotate_left
       ·exact t3_0
       rintro ⟨gb142, gb143⟩ w4 ⟨hS_, h0_, h1_, h2_, h3_, h4_, h5_, h6_, h7_, h8_, h9_, h10_, h11_, h12_, h13_, h14_, h15_, h16_, h17_, h18_⟩
       have n0_ : Aside0 (w4.heap[gb134]? = some (.cells #[.int .i64 a0_0, .int .i64 a0_1, .int .i64 a0_2, .int .i64 a0_3, .int .i64 a0_4, .int .i64 a0_5] 25 (0, 0))) := ⟨h0_⟩
       have n1_ : Aside0 (w4.heap[gb135]? = some (.cells #[.int .i64 a1_0, .int .i64 a1_1, .int .i64 a1_2, .int .i64 a1_3, .int .i64 a1_4, .int .i64 a1_5] 25 (0, 0))) := ⟨h1_⟩
       have n2_ : Aside0 (w4.heap[gb142]? = some (.cells #[.int .i64 0, .int .i64 0] 83 (0, 0))) := ⟨h2_⟩
       have n3_ : Aside0 (w4.heap[gb143]? = some (.cells #[.int .i64 0, .int .i64 0] 83 (0, 0))) := ⟨h3_⟩
       have n4_ : Aside0 (w.heap.size ≤ gb142) := ⟨h4_⟩
       have n5_ : Aside0 (w.heap.size ≤ gb142) := ⟨h5_⟩
       have n6_ : Aside0 (gb134 ≠ gb142) := ⟨h6_⟩
       have n7_ : Aside0 (gb142 ≠ gb134) := ⟨h7_⟩
       have n8_ : Aside0 (gb135 ≠ gb142) := ⟨h8_⟩
       have n9_ : Aside0 (gb142 ≠ gb135) := ⟨h9_⟩
       have n10_ : Aside0 (gb143 ≠ gb142) := ⟨h10_⟩
       have n11_ : Aside0 (gb142 ≠ gb143) := ⟨h11_⟩
       have n12_ : Aside0 (w.heap.size ≤ gb143) := ⟨h12_⟩
       have n13_ : Aside0 (w.heap.size ≤ gb143) := ⟨h13_⟩
       have n14_ : Aside0 (gb134 ≠ gb143) := ⟨h14_⟩
       have n15_ : Aside0 (gb143 ≠ gb134) := ⟨h15_⟩
       have n16_ : Aside0 (gb135 ≠ gb143) := ⟨h16_⟩
       have n17_ : Aside0 (gb143 ≠ gb135) := ⟨h17_⟩
       have n18_ : Aside0 (Below w.heap.size w w4) := ⟨h18_⟩
       clear BK134 BK135 HB h0_ h1_ h2_ h3_ h4_ h5_ h6_ h7_ h8_ h9_ h10_ h11_ h12_ h13_ h14_ h15_ h16_ h17_ h18_
       have BK134 := n0_
       have BK135 := n1_
       have BK142 := n2_
       have BK143 := n3_
       have GW142 := n4_
       have GE142 := n5_
       have NB134_142 := n6_
       have NB142_134 := n7_
       have NB135_142 := n8_
       have NB142_135 := n9_
       have NB143_142 := n10_
       have NB142_143 := n11_
       have GW143 := n12_
       have GE143 := n13_
       have NB134_143 := n14_
       have NB143_134 := n15_
       have NB135_143 := n16_
       have NB143_135 := n17_
       have HB := n18_
       clear n0_ n1_ n2_ n3_ n4_ n5_ n6_ n7_ n8_ n9_ n10_ n11_ n12_ n13_ n14_ n15_ n16_ n17_ n18_
       have hHeld : w4.cell? ⟨gb134, 0, none⟩ = some (.int .i64 a0_0) ∧ w4.cell? ⟨gb134, 1, none⟩ = some (.int .i64 a0_1) ∧ w4.cell? ⟨gb134, 2, none⟩ = some (.int .i64 a0_2) ∧ w4.cell? ⟨gb134, 3, none⟩ = some (.int .i64 a0_3) ∧ w4.cell? ⟨gb134, 4, none⟩ = some (.int .i64 a0_4) ∧ w4.cell? ⟨gb134, 5, none⟩ = some (.int .i64 a0_5) ∧ w4.cell? ⟨gb135, 0, none⟩ = some (.int .i64 a1_0) ∧ w4.cell? ⟨gb135, 1, none⟩ = some (.int .i64 a1_1) ∧ w4.cell? ⟨gb135, 2, none⟩ = some (.int .i64 a1_2) ∧ w4.cell? ⟨gb135, 3, none⟩ = some (.int .i64 a1_3) ∧ w4.cell? ⟨gb135, 4, none⟩ = some (.int .i64 a1_4) ∧ w4.cell? ⟨gb135, 5, none⟩ = some (.int .i64 a1_5) := hS_
       refine norm_ (a' := ?_) ?_ ?_
       rotate_left
       ·simp only [putAll, Act.put, y1, y2, y3]
        rfl
       refine one_ (i := 6) (N := none) (bz 8 127) rfl rfl (one_of HT_.out (by kernel_rfl)) (by decide) (fun K hK => ?_)
       have hs52 : w4.cell? ⟨gb142, 0, none⟩ = some (.int .i64 0) := bc BK142.out 0
       have hfs52 := blk_frozen BK142.out 0
       have hns52_0 := NB134_142.out
       have hns52_1 := NB135_142.out
       have hns52_3 := NB143_142.out
       have hms52_0 := NB142_134.out
       have hms52_1 := NB142_135.out
       have hms52_3 := NB142_143.out
       have hs53 : w4.cell? ⟨gb142, 1, none⟩ = some (.int .i64 0) := bc BK142.out 1
       have hfs53 := blk_frozen BK142.out 1
       have hns53_0 := NB134_142.out
       have hns53_1 := NB135_142.out
       have hns53_3 := NB143_142.out
       have hms53_0 := NB142_134.out
       have hms53_1 := NB142_135.out
       have hms53_3 := NB142_143.out
       refine skip_ (w1 := ?_) (by rfl) rfl ?_ ?_
       rotate_left
       ·go_simp
        rfl
       refine hK.out _ _ ⟨((cell_far (p := ⟨gb142, _, none⟩) NB134_142.out _).trans (((cell_far (p := ⟨gb142, _, none⟩) NB134_142.out _).trans (hHeld.1)))), ((cell_far (p := ⟨gb142, _, none⟩) NB134_142.out _).trans (((cell_far (p := ⟨gb142, _, none⟩) NB134_142.out _).trans (hHeld.2.1)))), ((cell_far (p := ⟨gb142, _, none⟩) NB134_142.out _).trans (((cell_far (p := ⟨gb142, _, none⟩) NB134_142.out _).trans (hHeld.2.2.1)))), ((cell_far (p := ⟨gb142, _, none⟩) NB134_142.out _).trans (((cell_far (p := ⟨gb142, _, none⟩) NB134_142.out _).trans (hHeld.2.2.2.1)))), ((cell_far (p := ⟨gb142, _, none⟩) NB134_142.out _).trans (((cell_far (p := ⟨gb142, _, none⟩) NB134_142.out _).trans (hHeld.2.2.2.2.1)))), ((cell_far (p := ⟨gb142, _, none⟩) NB134_142.out _).trans (((cell_far (p := ⟨gb142, _, none⟩) NB134_142.out _).trans (hHeld.2.2.2.2.2.1)))), ((cell_far (p := ⟨gb142, _, none⟩) NB135_142.out _).trans (((cell_far (p := ⟨gb142, _, none⟩) NB135_142.out _).trans (hHeld.2.2.2.2.2.2.1)))), ((cell_far (p := ⟨gb142, _, none⟩) NB135_142.out _).trans (((cell_far (p := ⟨gb142, _, none⟩) NB135_142.out _).trans (hHeld.2.2.2.2.2.2.2.1)))), ((cell_far (p := ⟨gb142, _, none⟩) NB135_142.out _).trans (((cell_far (p := ⟨gb142, _, none⟩) NB135_142.out _).trans (hHeld.2.2.2.2.2.2.2.2.1)))), ((cell_far (p := ⟨gb142, _, none⟩) NB135_142.out _).trans (((cell_far (p := ⟨gb142, _, none⟩) NB135_142.out _).trans (hHeld.2.2.2.2.2.2.2.2.2.1)))), ((cell_far (p := ⟨gb142, _, none⟩) NB135_142.out _).trans (((cell_far (p := ⟨gb142, _, none⟩) NB135_142.out _).trans (hHeld.2.2.2.2.2.2.2.2.2.2.1)))), ((cell_far (p := ⟨gb142, _, none⟩) NB135_142.out _).trans (((cell_far (p := ⟨gb142, _, none⟩) NB135_142.out _).trans (hHeld.2.2.2.2.2.2.2.2.2.2.2))))⟩ (fun hHeld => ?_)
       clear hK K
       refine one_ (i := 7) (N := none) (bz 8 255) rfl rfl (one_of HT_.out (by kernel_rfl)) (by decide) (fun K hK => ?_)
       have hs54 : w4.cell? ⟨gb143, 0, none⟩ = some (.int .i64 0) := bc BK143.out 0
       have hfs54 := blk_frozen BK143.out 0
       have hns54_0 := NB134_143.out
       have hns54_1 := NB135_143.out
       have hns54_2 := NB142_143.out
       have hms54_0 := NB143_134.out
       have hms54_1 := NB143_135.out
       have hms54_2 := NB143_142.out
       have hs55 : w4.cell? ⟨gb143, 1, none⟩ = some (.int .i64 0) := bc BK143.out 1
       have hfs55 := blk_frozen BK143.out 1
       have hns55_0 := NB134_143.out
       have hns55_1 := NB135_143.out
       have hns55_2 := NB142_143.out
       have hms55_0 := NB143_134.out
       have hms55_1 := NB143_135.out
       have hms55_2 := NB143_142.out
       refine skip_ (w1 := ?_) (by rfl) rfl ?_ ?_
       rotate_left
       ·go_simp
        rfl
       refine hK.out _ _ ⟨((cell_far (p := ⟨gb143, _, none⟩) NB134_143.out _).trans (((cell_far (p := ⟨gb143, _, none⟩) NB134_143.out _).trans (hHeld.1)))), ((cell_far (p := ⟨gb143, _, none⟩) NB134_143.out _).trans (((cell_far (p := ⟨gb143, _, none⟩) NB134_143.out _).trans (hHeld.2.1)))), ((cell_far (p := ⟨gb143, _, none⟩) NB134_143.out _).trans (((cell_far (p := ⟨gb143, _, none⟩) NB134_143.out _).trans (hHeld.2.2.1)))), ((cell_far (p := ⟨gb143, _, none⟩) NB134_143.out _).trans (((cell_far (p := ⟨gb143, _, none⟩) NB134_143.out _).trans (hHeld.2.2.2.1)))), ((cell_far (p := ⟨gb143, _, none⟩) NB134_143.out _).trans (((cell_far (p := ⟨gb143, _, none⟩) NB134_143.out _).trans (hHeld.2.2.2.2.1)))), ((cell_far (p := ⟨gb143, _, none⟩) NB134_143.out _).trans (((cell_far (p := ⟨gb143, _, none⟩) NB134_143.out _).trans (hHeld.2.2.2.2.2.1)))), ((cell_far (p := ⟨gb143, _, none⟩) NB135_143.out _).trans (((cell_far (p := ⟨gb143, _, none⟩) NB135_143.out _).trans (hHeld.2.2.2.2.2.2.1)))), ((cell_far (p := ⟨gb143, _, none⟩) NB135_143.out _).trans (((cell_far (p := ⟨gb143, _, none⟩) NB135_143.out _).trans (hHeld.2.2.2.2.2.2.2.1)))), ((cell_far (p := ⟨gb143, _, none⟩) NB135_143.out _).trans (((cell_far (p := ⟨gb143, _, none⟩) NB135_143.out _).trans (hHeld.2.2.2.2.2.2.2.2.1)))), ((cell_far (p := ⟨gb143, _, none⟩) NB135_143.out _).trans (((cell_far (p := ⟨gb143, _, none⟩) NB135_143.out _).trans (hHeld.2.2.2.2.2.2.2.2.2.1)))), ((cell_far (p := ⟨gb143, _, none⟩) NB135_143.out _).trans (((cell_far (p := ⟨gb143, _, none⟩) NB135_143.out _).trans (hHeld.2.2.2.2.2.2.2.2.2.2.1)))), ((cell_far (p := ⟨gb143, _, none⟩) NB135_143.out _).trans (((cell_far (p := ⟨gb143, _, none⟩) NB135_143.out _).trans (hHeld.2.2.2.2.2.2.2.2.2.2.2))))⟩ (fun hHeld => ?_)
       clear hK K
       refine done_ (done_of HT_.out (by kernel_rfl)) ?_
       try go_wp2
       have n0_ : Aside0 (((((w4.setCell ⟨gb142, 0, none⟩ (.int .i64 t138)).setCell ⟨gb142, 1, none⟩ (.int .i64 t139)).setCell ⟨gb143, 0, none⟩ (.int .i64 t140)).setCell ⟨gb143, 1, none⟩ (.int .i64 t141)).heap[gb134]? = some (.cells #[.int .i64 a0_0, .int .i64 a0_1, .int .i64 a0_2, .int .i64 a0_3, .int .i64 a0_4, .int .i64 a0_5] 25 (0, 0))) := ⟨by (with_reducible repeat (first | refine blk_drewN ?_ _ | refine blk_drew ?_ | refine blk_alloc ?_ _)); refine blk_far ?_ NB134_143.out _; (with_reducible repeat (first | refine blk_drewN ?_ _ | refine blk_drew ?_ | refine blk_alloc ?_ _)); refine blk_far ?_ NB134_143.out _; (with_reducible repeat (first | refine blk_drewN ?_ _ | refine blk_drew ?_ | refine blk_alloc ?_ _)); refine blk_far ?_ NB134_142.out _; (with_reducible repeat (first | refine blk_drewN ?_ _ | refine blk_drew ?_ | refine blk_alloc ?_ _)); refine blk_far ?_ NB134_142.out _; (with_reducible repeat (first | refine blk_drewN ?_ _ | refine blk_drew ?_ | refine blk_alloc ?_ _)); exact BK134.out⟩
       have n1_ : Aside0 (((((w4.setCell ⟨gb142, 0, none⟩ (.int .i64 t138)).setCell ⟨gb142, 1, none⟩ (.int .i64 t139)).setCell ⟨gb143, 0, none⟩ (.int .i64 t140)).setCell ⟨gb143, 1, none⟩ (.int .i64 t141)).heap[gb135]? = some (.cells #[.int .i64 a1_0, .int .i64 a1_1, .int .i64 a1_2, .int .i64 a1_3, .int .i64 a1_4, .int .i64 a1_5] 25 (0, 0))) := ⟨by (with_reducible repeat (first | refine blk_drewN ?_ _ | refine blk_drew ?_ | refine blk_alloc ?_ _)); refine blk_far ?_ NB135_143.out _; (with_reducible repeat (first | refine blk_drewN ?_ _ | refine blk_drew ?_ | refine blk_alloc ?_ _)); refine blk_far ?_ NB135_143.out _; (with_reducible repeat (first | refine blk_drewN ?_ _ | refine blk_drew ?_ | refine blk_alloc ?_ _)); refine blk_far ?_ NB135_142.out _; (with_reducible repeat (first | refine blk_drewN ?_ _ | refine blk_drew ?_ | refine blk_alloc ?_ _)); refine blk_far ?_ NB135_142.out _; (with_reducible repeat (first | refine blk_drewN ?_ _ | refine blk_drew ?_ | refine blk_alloc ?_ _)); exact BK135.out⟩
       have n2_ : Aside0 (((((w4.setCell ⟨gb142, 0, none⟩ (.int .i64 t138)).setCell ⟨gb142, 1, none⟩ (.int .i64 t139)).setCell ⟨gb143, 0, none⟩ (.int .i64 t140)).setCell ⟨gb143, 1, none⟩ (.int .i64 t141)).heap[gb142]? = some (.cells #[.int .i64 t138, .int .i64 t139] 83 (0, 0))) := ⟨by (with_reducible repeat (first | refine blk_drewN ?_ _ | refine blk_drew ?_ | refine blk_alloc ?_ _)); refine blk_far ?_ NB142_143.out _; (with_reducible repeat (first | refine blk_drewN ?_ _ | refine blk_drew ?_ | refine blk_alloc ?_ _)); refine blk_far ?_ NB142_143.out _; (with_reducible repeat (first | refine blk_drewN ?_ _ | refine blk_drew ?_ | refine blk_alloc ?_ _)); refine blk_put (cs := #[.int .i64 t138, .int .i64 0]) ?_ 1 _ rfl; (with_reducible repeat (first | refine blk_drewN ?_ _ | refine blk_drew ?_ | refine blk_alloc ?_ _)); refine blk_put (cs := #[.int .i64 0, .int .i64 0]) ?_ 0 _ rfl; (with_reducible repeat (first | refine blk_drewN ?_ _ | refine blk_drew ?_ | refine blk_alloc ?_ _)); exact BK142.out⟩
       have n3_ : Aside0 (((((w4.setCell ⟨gb142, 0, none⟩ (.int .i64 t138)).setCell ⟨gb142, 1, none⟩ (.int .i64 t139)).setCell ⟨gb143, 0, none⟩ (.int .i64 t140)).setCell ⟨gb143, 1, none⟩ (.int .i64 t141)).heap[gb143]? = some (.cells #[.int .i64 t140, .int .i64 t141] 83 (0, 0))) := ⟨by (with_reducible repeat (first | refine blk_drewN ?_ _ | refine blk_drew ?_ | refine blk_alloc ?_ _)); refine blk_put (cs := #[.int .i64 t140, .int .i64 0]) ?_ 1 _ rfl; (with_reducible repeat (first | refine blk_drewN ?_ _ | refine blk_drew ?_ | refine blk_alloc ?_ _)); refine blk_put (cs := #[.int .i64 0, .int .i64 0]) ?_ 0 _ rfl; (with_reducible repeat (first | refine blk_drewN ?_ _ | refine blk_drew ?_ | refine blk_alloc ?_ _)); refine blk_far ?_ NB143_142.out _; (with_reducible repeat (first | refine blk_drewN ?_ _ | refine blk_drew ?_ | refine blk_alloc ?_ _)); refine blk_far ?_ NB143_142.out _; (with_reducible repeat (first | refine blk_drewN ?_ _ | refine blk_drew ?_ | refine blk_alloc ?_ _)); exact BK143.out⟩
       have n4_ : Aside0 (Below w.heap.size w ((((w4.setCell ⟨gb142, 0, none⟩ (.int .i64 t138)).setCell ⟨gb142, 1, none⟩ (.int .i64 t139)).setCell ⟨gb143, 0, none⟩ (.int .i64 t140)).setCell ⟨gb143, 1, none⟩ (.int .i64 t141))) := ⟨by repeat (first | (with_reducible first | exact HB.out | apply below_alloc | apply pw_below_drewN | apply below_drew1 | refine below_set ?_ GE134.out | refine below_set ?_ GE135.out | refine below_set ?_ GE142.out | refine below_set ?_ GE143.out) | exact HB.out)⟩
       (try clear BK134)
       (try clear BK135)
       (try clear BK142)
       (try clear BK143)
       (try clear HB)
       generalize ((((w4.setCell ⟨gb142, 0, none⟩ (.int .i64 t138)).setCell ⟨gb142, 1, none⟩ (.int .i64 t139)).setCell ⟨gb143, 0, none⟩ (.int .i64 t140)).setCell ⟨gb143, 1, none⟩ (.int .i64 t141)) = w5 at n0_ n1_ n2_ n3_ n4_ ⊢
       have BK134 := n0_
       have BK135 := n1_
       have BK142 := n2_
       have BK143 := n3_
       have HB := n4_
       clear n0_ n1_ n2_ n3_ n4_
       have n0_ := Aside0.mk (blk_drew BK134.out)
       have n1_ := Aside0.mk (blk_drew BK135.out)
       have n2_ := Aside0.mk (blk_drew BK142.out)
       have n3_ := Aside0.mk (blk_drew BK143.out)
       have n4_ := Aside0.mk (below_drew1 HB.out)
       clear BK134 BK135 BK142 BK143 HB
       have BK134 := n0_
       have BK135 := n1_
       have BK142 := n2_
       have BK143 := n3_
       have HB := n4_
       clear n0_ n1_ n2_ n3_ n4_
       refine start_ (n := 24) (S := fun w' => w'.cell? ⟨gb142, 0, none⟩ = some (.int .i64 t138) ∧ w'.cell? ⟨gb142, 1, none⟩ = some (.int .i64 t139) ∧ w'.cell? ⟨gb143, 0, none⟩ = some (.int .i64 t140) ∧ w'.cell? ⟨gb143, 1, none⟩ = some (.int .i64 t141) ∧ w'.cell? ⟨gb134, 0, none⟩ = some (.int .i64 a0_0) ∧ w'.cell? ⟨gb134, 1, none⟩ = some (.int .i64 a0_1) ∧ w'.cell? ⟨gb134, 2, none⟩ = some (.int .i64 a0_2) ∧ w'.cell? ⟨gb134, 3, none⟩ = some (.int .i64 a0_3) ∧ w'.cell? ⟨gb134, 4, none⟩ = some (.int .i64 a0_4) ∧ w'.cell? ⟨gb134, 5, none⟩ = some (.int .i64 a0_5) ∧ w'.cell? ⟨gb135, 0, none⟩ = some (.int .i64 a1_0) ∧ w'.cell? ⟨gb135, 1, none⟩ = some (.int .i64 a1_1) ∧ w'.cell? ⟨gb135, 2, none⟩ = some (.int .i64 a1_2) ∧ w'.cell? ⟨gb135, 3, none⟩ = some (.int .i64 a1_3) ∧ w'.cell? ⟨gb135, 4, none⟩ = some (.int .i64 a1_4) ∧ w'.cell? ⟨gb135, 5, none⟩ = some (.int .i64 a1_5)) (ds := []) #[false, false, false, false, false, false, false, false, false, false, false, false, false, false, false, false, false, false, false, false, false, false, false, false] (by kernel_rfl) rfl rfl ⟨bc BK142.out 0, bc BK142.out 1, bc BK143.out 0, bc BK143.out 1, bc BK134.out 0, bc BK134.out 1, bc BK134.out 2, bc BK134.out 3, bc BK134.out 4, bc BK134.out 5, bc BK135.out 0, bc BK135.out 1, bc BK135.out 2, bc BK135.out 3, bc BK135.out 4, bc BK135.out 5⟩ (fun hHeld => ?_); refine with_tabW spec_HeadOn.tab4 spec_HeadOn.bits4 (fun HT_ HW_ => ?_)
       generalize w5.drew = w6 at BK134 BK135 BK142 BK143 HB hHeld ⊢
       refine take_ (i := 0) (N := some 19) (v := ?_) (a' := ?_) (bz 24 1) rfl rfl (take_ofW HT_.out HW_.out (by kernel_rfl)) (fun _ _ _ h => h) (Or.inl ⟨by rfl, ?_⟩) hHeld ?_ ?_
       rotate_left
       ·exact t3_2
       rotate_left
       ·exact t3_1
       refine take_ (i := 1) (N := some 20) (v := ?_) (a' := ?_) (bz 24 3) rfl rfl (take_ofW HT_.out HW_.out (by kernel_rfl)) (fun _ _ _ h => h) (Or.inl ⟨by rfl, ?_⟩) hHeld ?_ ?_
       rotate_left
       ·exact t3_2
       rotate_left
       ·exact t3_1
       refine one_ (i := 2) (N := some 21) (bz 24 7) rfl rfl (one_of HT_.out (by kernel_rfl)) (by decide) (fun K hK => ?_)
       refine goes_ Try.func68 (by kernel_rfl) rfl #[.agg #[.int .i64 t138, .int .i64 t139], .agg #[.int .i64 t140, .int .i64 t141]] (by rfl) rfl rfl s3_5 ?_
       with_reducible refine (spec_l8Dot.calls t138 t139 t140 t141 t144 _ A20.out).mono ?_
       rintro e w7 ⟨rfl, hb⟩
       refine ⟨_, rfl, ?_⟩
       have n0_ := Aside0.mk (bb (zk BK134.out) hb)
       have n1_ := Aside0.mk (bb (zk BK135.out) hb)
       have n2_ := Aside0.mk (bb (zk BK142.out) hb)
       have n3_ := Aside0.mk (bb (zk BK143.out) hb)
       have n4_ := Aside0.mk (below_step s3_3 hb)
       clear BK134 BK135 BK142 BK143 HB
       have BK134 := n0_
       have BK135 := n1_
       have BK142 := n2_
       have BK143 := n3_
       have HB := n4_
       clear n0_ n1_ n2_ n3_ n4_
       (try clear hb)
       (try clear hb2)
       (try clear hk)
       (try clear hi)
       refine hK.out _ _ ⟨bc BK142.out 0, bc BK142.out 1, bc BK143.out 0, bc BK143.out 1, bc BK134.out 0, bc BK134.out 1, bc BK134.out 2, bc BK134.out 3, bc BK134.out 4, bc BK134.out 5, bc BK135.out 0, bc BK135.out 1, bc BK135.out 2, bc BK135.out 3, bc BK135.out 4, bc BK135.out 5⟩ (fun hHeld => ?_)
       clear hK K
       refine norm_ (a' := ?_) ?_ ?_
       rotate_left
       ·show Act.put _ (some 21) _ = _
        simp only [Act.put, y1, y2, y3, i64_w, i32_w]
        rfl
       refine pure_ (i := 3) (N := some 22) (v := ?_) (a' := ?_) (bz 24 15) rfl rfl (any_of HT_.out (by kernel_rfl)) (fun _ _ _ h => h) (Or.inl ⟨by rfl, ?_⟩) ?_ ?_
       rotate_left
       ·exact t3_3
       rotate_left
       ·exact t3_1
       refine pure_ (i := 4) (N := some 23) (v := ?_) (a' := ?_) (bz 24 31) rfl rfl (any_of HT_.out (by kernel_rfl)) (fun _ _ _ h => h) (Or.inl ⟨by rfl, ?_⟩) ?_ ?_
       rotate_left
       ·exact t3_3
       rotate_left
       ·exact t3_1
       refine take_ (i := 5) (N := some 24) (v := ?_) (a' := ?_) (bz 24 63) rfl rfl (take_ofW HT_.out HW_.out (by kernel_rfl)) (fun _ _ _ h => h) (Or.inl ⟨by rfl, ?_⟩) hHeld ?_ ?_
       rotate_left
       ·exact t3_2
       rotate_left
       ·exact t3_1
       refine take_ (i := 6) (N := some 25) (v := ?_) (a' := ?_) (bz 24 127) rfl rfl (take_ofW HT_.out HW_.out (by kernel_rfl)) (fun _ _ _ h => h) (Or.inl ⟨by rfl, ?_⟩) hHeld ?_ ?_
       rotate_left
       ·exact t3_2
       rotate_left
       ·exact t3_1
       refine take_ (i := 8) (N := some 27) (v := ?_) (a' := ?_) (bz 24 383) rfl rfl (take_ofW HT_.out HW_.out (by kernel_rfl)) (fun _ _ _ h => h) (Or.inl ⟨by rfl, ?_⟩) hHeld ?_ ?_
       rotate_left
       ·exact t3_2
       rotate_left
       ·exact t3_1
       refine take_ (i := 9) (N := some 28) (v := ?_) (a' := ?_) (bz 24 895) rfl rfl (take_ofW HT_.out HW_.out (by kernel_rfl)) (fun _ _ _ h => h) (Or.inl ⟨by rfl, ?_⟩) hHeld ?_ ?_
       rotate_left
       ·exact t3_2
       rotate_left
       ·exact t3_1
       refine one_ (i := 7) (N := some 26) (bz 24 1023) rfl rfl (one_of HT_.out (by kernel_rfl)) (by decide) (fun K hK => ?_)
       refine goes_ Try.func67 (by kernel_rfl) rfl #[.agg #[.int .i64 t138, .int .i64 t139], .agg #[.int .i64 t140, .int .i64 t141]] (by rfl) rfl rfl s3_5 ?_
       with_reducible refine (spec_l8Cross.calls t138 t139 t140 t141 t145 _ A22.out).mono ?_
       rintro e w8 ⟨rfl, hb⟩
       refine ⟨_, rfl, ?_⟩
       have n0_ := Aside0.mk (bb (zk BK134.out) hb)
       have n1_ := Aside0.mk (bb (zk BK135.out) hb)
       have n2_ := Aside0.mk (bb (zk BK142.out) hb)
       have n3_ := Aside0.mk (bb (zk BK143.out) hb)
       have n4_ := Aside0.mk (below_step s3_3 hb)
       clear BK134 BK135 BK142 BK143 HB
       have BK134 := n0_
       have BK135 := n1_
       have BK142 := n2_
       have BK143 := n3_
       have HB := n4_
       clear n0_ n1_ n2_ n3_ n4_
       (try clear hb)
       (try clear hb2)
       (try clear hk)
       (try clear hi)
       refine hK.out _ _ ⟨bc BK142.out 0, bc BK142.out 1, bc BK143.out 0, bc BK143.out 1, bc BK134.out 0, bc BK134.out 1, bc BK134.out 2, bc BK134.out 3, bc BK134.out 4, bc BK134.out 5, bc BK135.out 0, bc BK135.out 1, bc BK135.out 2, bc BK135.out 3, bc BK135.out 4, bc BK135.out 5⟩ (fun hHeld => ?_)
       clear hK K
       refine norm_ (a' := ?_) ?_ ?_
       rotate_left
       ·show Act.put _ (some 26) _ = _
        simp only [Act.put, y1, y2, y3, i64_w, i32_w]
        rfl
       refine one_ (i := 10) (N := some 29) (bz 24 2047) rfl rfl (one_of HT_.out (by kernel_rfl)) (by decide) (fun K hK => ?_)
       refine goes_ Try.func68 (by kernel_rfl) rfl #[.agg #[.int .i64 t138, .int .i64 t139], .agg #[.int .i64 t140, .int .i64 t141]] (by rfl) rfl rfl s3_5 ?_
       with_reducible refine (spec_l8Dot.calls t138 t139 t140 t141 t146 _ A23.out).mono ?_
       rintro e w9 ⟨rfl, hb⟩
       refine ⟨_, rfl, ?_⟩
       have n0_ := Aside0.mk (bb (zk BK134.out) hb)
       have n1_ := Aside0.mk (bb (zk BK135.out) hb)
       have n2_ := Aside0.mk (bb (zk BK142.out) hb)
       have n3_ := Aside0.mk (bb (zk BK143.out) hb)
       have n4_ := Aside0.mk (below_step s3_3 hb)
       clear BK134 BK135 BK142 BK143 HB
       have BK134 := n0_
       have BK135 := n1_
       have BK142 := n2_
       have BK143 := n3_
       have HB := n4_
       clear n0_ n1_ n2_ n3_ n4_
       (try clear hb)
       (try clear hb2)
       (try clear hk)
       (try clear hi)
       refine hK.out _ _ ⟨bc BK142.out 0, bc BK142.out 1, bc BK143.out 0, bc BK143.out 1, bc BK134.out 0, bc BK134.out 1, bc BK134.out 2, bc BK134.out 3, bc BK134.out 4, bc BK134.out 5, bc BK135.out 0, bc BK135.out 1, bc BK135.out 2, bc BK135.out 3, bc BK135.out 4, bc BK135.out 5⟩ (fun hHeld => ?_)
       clear hK K
       refine norm_ (a' := ?_) ?_ ?_
       rotate_left
       ·show Act.put _ (some 29) _ = _
        simp only [Act.put, y1, y2, y3, i64_w, i32_w]
        rfl
       refine one_ (i := 11) (N := some 30) (bz 24 4095) rfl rfl (one_of HT_.out (by kernel_rfl)) (by decide) (fun K hK => ?_)
       refine goes_ Try.func69 (by kernel_rfl) rfl #[.int .i64 t145, .int .i64 100, .int .i64 t146, .int .i64 1] (by rfl) rfl rfl s3_5 ?_
       with_reducible refine (spec_l8Least.calls t145 100 t146 1 true _ A24.out).mono ?_
       rintro e w' ⟨rfl, ⟨nd, rfl⟩⟩
       refine ⟨_, rfl, ?_⟩
       refine hK.out _ _ ⟨bc BK142.out 0, bc BK142.out 1, bc BK143.out 0, bc BK143.out 1, bc BK134.out 0, bc BK134.out 1, bc BK134.out 2, bc BK134.out 3, bc BK134.out 4, bc BK134.out 5, bc BK135.out 0, bc BK135.out 1, bc BK135.out 2, bc BK135.out 3, bc BK135.out 4, bc BK135.out 5⟩ (fun hHeld => ?_)
       clear hK K
       refine norm_ (a' := ?_) ?_ ?_
       rotate_left
       ·show Act.put _ (some 30) _ = _
        simp only [Act.put, y1, y2, y3, i64_w, i32_w]
        rfl
       refine pure_ (i := 12) (N := some 31) (v := ?_) (a' := ?_) (bz 24 8191) rfl rfl (any_of HT_.out (by kernel_rfl)) (fun _ _ _ h => h) (Or.inl ⟨by rfl, ?_⟩) ?_ ?_
       rotate_left
       ·exact t3_3
       rotate_left
       ·exact t3_1
       refine pure_ (i := 13) (N := some 32) (v := ?_) (a' := ?_) (bz 24 16383) rfl rfl (any_of HT_.out (by kernel_rfl)) (fun _ _ _ h => h) (Or.inl ⟨by rfl, ?_⟩) ?_ ?_
       rotate_left
       ·exact t3_3
       rotate_left
       ·exact t3_1
       refine take_ (i := 14) (N := some 33) (v := ?_) (a' := ?_) (bz 24 32767) rfl rfl (take_ofW HT_.out HW_.out (by kernel_rfl)) (fun _ _ _ h => h) (Or.inl ⟨by rfl, ?_⟩) hHeld ?_ ?_
       rotate_left
       ·exact t3_2
       rotate_left
       ·exact t3_1
       refine take_ (i := 15) (N := some 34) (v := ?_) (a' := ?_) (bz 24 65535) rfl rfl (take_ofW HT_.out HW_.out (by kernel_rfl)) (fun _ _ _ h => h) (Or.inl ⟨by rfl, ?_⟩) hHeld ?_ ?_
       rotate_left
       ·exact t3_2
       rotate_left
       ·exact t3_1
       refine one_ (i := 16) (N := some 35) (bz 24 131071) rfl rfl (one_of HT_.out (by kernel_rfl)) (by decide) (fun K hK => ?_)
       refine goes_ Try.func75 (by kernel_rfl) rfl #[.agg #[.int .i64 a0_0, .int .i64 a0_1, .int .i64 a0_2, .int .i64 a0_3, .int .i64 a0_4, .int .i64 a0_5], .agg #[.int .i64 a1_0, .int .i64 a1_1, .int .i64 a1_2, .int .i64 a1_3, .int .i64 a1_4, .int .i64 a1_5]] (by rfl) rfl rfl s3_5 ?_
       with_reducible refine (spec_l8Ahead.calls a0_0 a0_1 a0_2 a0_3 a0_4 a0_5 a1_0 a1_1 a1_2 a1_3 a1_4 a1_5 false _ A26.out).mono ?_
       rintro e w10 ⟨rfl, hb⟩
       refine ⟨_, rfl, ?_⟩
       have n0_ := Aside0.mk (bb (zk BK134.out) hb)
       have n1_ := Aside0.mk (bb (zk BK135.out) hb)
       have n2_ := Aside0.mk (bb (zk BK142.out) hb)
       have n3_ := Aside0.mk (bb (zk BK143.out) hb)
       have n4_ := Aside0.mk (below_step s3_3 hb)
       clear BK134 BK135 BK142 BK143 HB
       have BK134 := n0_
       have BK135 := n1_
       have BK142 := n2_
       have BK143 := n3_
       have HB := n4_
       clear n0_ n1_ n2_ n3_ n4_
       (try clear hb)
       (try clear hb2)
       (try clear hk)
       (try clear hi)
       refine hK.out _ _ ⟨bc BK142.out 0, bc BK142.out 1, bc BK143.out 0, bc BK143.out 1, bc BK134.out 0, bc BK134.out 1, bc BK134.out 2, bc BK134.out 3, bc BK134.out 4, bc BK134.out 5, bc BK135.out 0, bc BK135.out 1, bc BK135.out 2, bc BK135.out 3, bc BK135.out 4, bc BK135.out 5⟩ (fun hHeld => ?_)
       clear hK K
       refine norm_ (a' := ?_) ?_ ?_
       rotate_left
       ·show Act.put _ (some 35) _ = _
        simp only [Act.put, y1, y2, y3, i64_w, i32_w]
        rfl
       refine pure_ (i := 17) (N := some 36) (v := ?_) (a' := ?_) (bz 24 262143) rfl rfl (any_of HT_.out (by kernel_rfl)) (fun _ _ _ h => h) (Or.inl ⟨by rfl, ?_⟩) ?_ ?_
       rotate_left
       ·exact t3_3
       rotate_left
       ·exact t3_1
       refine pure_ (i := 18) (N := some 37) (v := ?_) (a' := ?_) (bz 24 524287) rfl rfl (any_of HT_.out (by kernel_rfl)) (fun _ _ _ h => h) (Or.inl ⟨by rfl, ?_⟩) ?_ ?_
       rotate_left
       ·exact t3_3
       rotate_left
       ·exact t3_1
       refine pure_ (i := 19) (N := some 38) (v := undef) (a' := ?_) (bz 24 1048575) rfl rfl (any_of HT_.out (by kernel_rfl)) (fun _ _ _ h => h) (Or.inr ⟨by rfl, rfl⟩) ?_ ?_
       rotate_left
       ·exact t3_1
       refine pure_ (i := 20) (N := some 39) (v := undef) (a' := ?_) (bz 24 2097151) rfl rfl (any_of HT_.out (by kernel_rfl)) (fun _ _ _ h => h) (Or.inr ⟨by rfl, rfl⟩) ?_ ?_
       rotate_left
       ·exact t3_1
       refine pure_ (i := 21) (N := some 40) (v := undef) (a' := ?_) (bz 24 4194303) rfl rfl (any_of HT_.out (by kernel_rfl)) (fun _ _ _ h => h) (Or.inr ⟨by rfl, rfl⟩) ?_ ?_
       rotate_left
       ·exact t3_1
       refine pure_ (i := 22) (N := some 41) (v := ?_) (a' := ?_) (bz 24 8388607) rfl rfl (any_of HT_.out (by kernel_rfl)) (fun _ _ _ h => h) (Or.inl ⟨by rfl, ?_⟩) ?_ ?_
       rotate_left
       ·exact t3_3
       rotate_left
       ·exact t3_1
       refine pure_ (i := 23) (N := some 4) (v := ?_) (a' := ?_) (bz 24 16777215) rfl rfl (any_of HT_.out (by kernel_rfl)) (fun _ _ _ h => h) (Or.inl ⟨by rfl, ?_⟩) ?_ ?_
       rotate_left
       ·exact t3_3
       rotate_left
       ·exact t3_1
       refine done_ (done_of HT_.out (by kernel_rfl)) ?_
       try go_wp2
       go_ret
       exact ⟨by first | rfl | (simp [errW_none, errW_some] <;> rfl) | (simp [*, errW_none, errW_some] <;> rfl), by repeat (first | (with_reducible first | exact HB.out | apply below_alloc | apply pw_below_drewN | apply below_drew1 | refine below_set ?_ GE134.out | refine below_set ?_ GE135.out | refine below_set ?_ GE142.out | refine below_set ?_ GE143.out) | exact HB.out)⟩
     ·replace c25 := Bool.eq_false_iff.mpr c25
      subst c25
      have H1 : (some false) = some r := by rw [if_neg (show ¬ (false = true) by decide)] at H; exact H
      clear H
      have H := H1
      clear H1
      obtain rfl := Option.some.inj H
      try go_wp2
      have n0_ := Aside0.mk (blk_drew BK134.out)
      have n1_ := Aside0.mk (blk_drew BK135.out)
      have n2_ := Aside0.mk (below_drew1 HB.out)
      clear BK134 BK135 HB
      have BK134 := n0_
      have BK135 := n1_
      have HB := n2_
      clear n0_ n1_ n2_
      refine start_ (n := 8) (S := fun w' => w'.cell? ⟨gb134, 0, none⟩ = some (.int .i64 a0_0) ∧ w'.cell? ⟨gb134, 1, none⟩ = some (.int .i64 a0_1) ∧ w'.cell? ⟨gb134, 2, none⟩ = some (.int .i64 a0_2) ∧ w'.cell? ⟨gb134, 3, none⟩ = some (.int .i64 a0_3) ∧ w'.cell? ⟨gb134, 4, none⟩ = some (.int .i64 a0_4) ∧ w'.cell? ⟨gb134, 5, none⟩ = some (.int .i64 a0_5) ∧ w'.cell? ⟨gb135, 0, none⟩ = some (.int .i64 a1_0) ∧ w'.cell? ⟨gb135, 1, none⟩ = some (.int .i64 a1_1) ∧ w'.cell? ⟨gb135, 2, none⟩ = some (.int .i64 a1_2) ∧ w'.cell? ⟨gb135, 3, none⟩ = some (.int .i64 a1_3) ∧ w'.cell? ⟨gb135, 4, none⟩ = some (.int .i64 a1_4) ∧ w'.cell? ⟨gb135, 5, none⟩ = some (.int .i64 a1_5)) (ds := []) #[false, false, false, false, false, false, false, false] (by kernel_rfl) rfl rfl ⟨bc BK134.out 0, bc BK134.out 1, bc BK134.out 2, bc BK134.out 3, bc BK134.out 4, bc BK134.out 5, bc BK135.out 0, bc BK135.out 1, bc BK135.out 2, bc BK135.out 3, bc BK135.out 4, bc BK135.out 5⟩ (fun hHeld => ?_); refine with_tabW spec_HeadOn.tab3 spec_HeadOn.bits3 (fun HT_ HW_ => ?_)
      generalize wc.drew = w3 at BK134 BK135 HB hHeld ⊢
      refine take_ (i := 0) (N := some 15) (v := ?_) (a' := ?_) (bz 8 1) rfl rfl (take_ofW HT_.out HW_.out (by kernel_rfl)) (fun _ _ _ h => h) (Or.inl ⟨by rfl, ?_⟩) hHeld ?_ ?_
      rotate_left
      ·exact t3_4
      rotate_left
      ·exact t3_1
      refine take_ (i := 2) (N := some 17) (v := ?_) (a' := ?_) (bz 8 5) rfl rfl (take_ofW HT_.out HW_.out (by kernel_rfl)) (fun _ _ _ h => h) (Or.inl ⟨by rfl, ?_⟩) hHeld ?_ ?_
      rotate_left
      ·exact t3_4
      rotate_left
      ·exact t3_1
      refine join_ (σ := Nat × Nat) 2 (bz 8 63) (fun s_ => [(16, .agg #[.int .i64 t138, .int .i64 t139]), (18, .agg #[.int .i64 t140, .int .i64 t141]), (5, .pointer (some ⟨s_.1, 0, none⟩)), (6, .pointer (some ⟨s_.2, 0, none⟩))]) (fun s_ w' => (w'.cell? ⟨gb134, 0, none⟩ = some (.int .i64 a0_0) ∧ w'.cell? ⟨gb134, 1, none⟩ = some (.int .i64 a0_1) ∧ w'.cell? ⟨gb134, 2, none⟩ = some (.int .i64 a0_2) ∧ w'.cell? ⟨gb134, 3, none⟩ = some (.int .i64 a0_3) ∧ w'.cell? ⟨gb134, 4, none⟩ = some (.int .i64 a0_4) ∧ w'.cell? ⟨gb134, 5, none⟩ = some (.int .i64 a0_5) ∧ w'.cell? ⟨gb135, 0, none⟩ = some (.int .i64 a1_0) ∧ w'.cell? ⟨gb135, 1, none⟩ = some (.int .i64 a1_1) ∧ w'.cell? ⟨gb135, 2, none⟩ = some (.int .i64 a1_2) ∧ w'.cell? ⟨gb135, 3, none⟩ = some (.int .i64 a1_3) ∧ w'.cell? ⟨gb135, 4, none⟩ = some (.int .i64 a1_4) ∧ w'.cell? ⟨gb135, 5, none⟩ = some (.int .i64 a1_5)) ∧ (w'.heap[gb134]? = some (.cells #[.int .i64 a0_0, .int .i64 a0_1, .int .i64 a0_2, .int .i64 a0_3, .int .i64 a0_4, .int .i64 a0_5] 25 (0, 0))) ∧ (w'.heap[gb135]? = some (.cells #[.int .i64 a1_0, .int .i64 a1_1, .int .i64 a1_2, .int .i64 a1_3, .int .i64 a1_4, .int .i64 a1_5] 25 (0, 0))) ∧ (w'.heap[s_.1]? = some (.cells #[.int .i64 0, .int .i64 0] 83 (0, 0))) ∧ (w'.heap[s_.2]? = some (.cells #[.int .i64 0, .int .i64 0] 83 (0, 0))) ∧ (w.heap.size ≤ s_.1) ∧ (w.heap.size ≤ s_.1) ∧ (gb134 ≠ s_.1) ∧ (s_.1 ≠ gb134) ∧ (gb135 ≠ s_.1) ∧ (s_.1 ≠ gb135) ∧ (s_.2 ≠ s_.1) ∧ (s_.1 ≠ s_.2) ∧ (w.heap.size ≤ s_.2) ∧ (w.heap.size ≤ s_.2) ∧ (gb134 ≠ s_.2) ∧ (s_.2 ≠ gb134) ∧ (gb135 ≠ s_.2) ∧ (s_.2 ≠ gb135) ∧ (Below w.heap.size w w')) ?_ ?_
      rotate_left
      ·exact t3_0
      rintro ⟨gb142, gb143⟩ w4 ⟨hS_, h0_, h1_, h2_, h3_, h4_, h5_, h6_, h7_, h8_, h9_, h10_, h11_, h12_, h13_, h14_, h15_, h16_, h17_, h18_⟩
      have n0_ : Aside0 (w4.heap[gb134]? = some (.cells #[.int .i64 a0_0, .int .i64 a0_1, .int .i64 a0_2, .int .i64 a0_3, .int .i64 a0_4, .int .i64 a0_5] 25 (0, 0))) := ⟨h0_⟩
      have n1_ : Aside0 (w4.heap[gb135]? = some (.cells #[.int .i64 a1_0, .int .i64 a1_1, .int .i64 a1_2, .int .i64 a1_3, .int .i64 a1_4, .int .i64 a1_5] 25 (0, 0))) := ⟨h1_⟩
      have n2_ : Aside0 (w4.heap[gb142]? = some (.cells #[.int .i64 0, .int .i64 0] 83 (0, 0))) := ⟨h2_⟩
      have n3_ : Aside0 (w4.heap[gb143]? = some (.cells #[.int .i64 0, .int .i64 0] 83 (0, 0))) := ⟨h3_⟩
      have n4_ : Aside0 (w.heap.size ≤ gb142) := ⟨h4_⟩
      have n5_ : Aside0 (w.heap.size ≤ gb142) := ⟨h5_⟩
      have n6_ : Aside0 (gb134 ≠ gb142) := ⟨h6_⟩
      have n7_ : Aside0 (gb142 ≠ gb134) := ⟨h7_⟩
      have n8_ : Aside0 (gb135 ≠ gb142) := ⟨h8_⟩
      have n9_ : Aside0 (gb142 ≠ gb135) := ⟨h9_⟩
      have n10_ : Aside0 (gb143 ≠ gb142) := ⟨h10_⟩
      have n11_ : Aside0 (gb142 ≠ gb143) := ⟨h11_⟩
      have n12_ : Aside0 (w.heap.size ≤ gb143) := ⟨h12_⟩
      have n13_ : Aside0 (w.heap.size ≤ gb143) := ⟨h13_⟩
      have n14_ : Aside0 (gb134 ≠ gb143) := ⟨h14_⟩
      have n15_ : Aside0 (gb143 ≠ gb134) := ⟨h15_⟩
      have n16_ : Aside0 (gb135 ≠ gb143) := ⟨h16_⟩
      have n17_ : Aside0 (gb143 ≠ gb135) := ⟨h17_⟩
      have n18_ : Aside0 (Below w.heap.size w w4) := ⟨h18_⟩
      clear BK134 BK135 HB h0_ h1_ h2_ h3_ h4_ h5_ h6_ h7_ h8_ h9_ h10_ h11_ h12_ h13_ h14_ h15_ h16_ h17_ h18_
      have BK134 := n0_
      have BK135 := n1_
      have BK142 := n2_
      have BK143 := n3_
      have GW142 := n4_
      have GE142 := n5_
      have NB134_142 := n6_
      have NB142_134 := n7_
      have NB135_142 := n8_
      have NB142_135 := n9_
      have NB143_142 := n10_
      have NB142_143 := n11_
      have GW143 := n12_
      have GE143 := n13_
      have NB134_143 := n14_
      have NB143_134 := n15_
      have NB135_143 := n16_
      have NB143_135 := n17_
      have HB := n18_
      clear n0_ n1_ n2_ n3_ n4_ n5_ n6_ n7_ n8_ n9_ n10_ n11_ n12_ n13_ n14_ n15_ n16_ n17_ n18_
      have hHeld : w4.cell? ⟨gb134, 0, none⟩ = some (.int .i64 a0_0) ∧ w4.cell? ⟨gb134, 1, none⟩ = some (.int .i64 a0_1) ∧ w4.cell? ⟨gb134, 2, none⟩ = some (.int .i64 a0_2) ∧ w4.cell? ⟨gb134, 3, none⟩ = some (.int .i64 a0_3) ∧ w4.cell? ⟨gb134, 4, none⟩ = some (.int .i64 a0_4) ∧ w4.cell? ⟨gb134, 5, none⟩ = some (.int .i64 a0_5) ∧ w4.cell? ⟨gb135, 0, none⟩ = some (.int .i64 a1_0) ∧ w4.cell? ⟨gb135, 1, none⟩ = some (.int .i64 a1_1) ∧ w4.cell? ⟨gb135, 2, none⟩ = some (.int .i64 a1_2) ∧ w4.cell? ⟨gb135, 3, none⟩ = some (.int .i64 a1_3) ∧ w4.cell? ⟨gb135, 4, none⟩ = some (.int .i64 a1_4) ∧ w4.cell? ⟨gb135, 5, none⟩ = some (.int .i64 a1_5) := hS_
      refine norm_ (a' := ?_) ?_ ?_
      rotate_left
      ·simp only [putAll, Act.put, y1, y2, y3]
       rfl
      refine one_ (i := 6) (N := none) (bz 8 127) rfl rfl (one_of HT_.out (by kernel_rfl)) (by decide) (fun K hK => ?_)
      have hs68 : w4.cell? ⟨gb142, 0, none⟩ = some (.int .i64 0) := bc BK142.out 0
      have hfs68 := blk_frozen BK142.out 0
      have hns68_0 := NB134_142.out
      have hns68_1 := NB135_142.out
      have hns68_3 := NB143_142.out
      have hms68_0 := NB142_134.out
      have hms68_1 := NB142_135.out
      have hms68_3 := NB142_143.out
      have hs69 : w4.cell? ⟨gb142, 1, none⟩ = some (.int .i64 0) := bc BK142.out 1
      have hfs69 := blk_frozen BK142.out 1
      have hns69_0 := NB134_142.out
      have hns69_1 := NB135_142.out
      have hns69_3 := NB143_142.out
      have hms69_0 := NB142_134.out
      have hms69_1 := NB142_135.out
      have hms69_3 := NB142_143.out
      refine skip_ (w1 := ?_) (by rfl) rfl ?_ ?_
      rotate_left
      ·go_simp
       rfl
      refine hK.out _ _ ⟨((cell_far (p := ⟨gb142, _, none⟩) NB134_142.out _).trans (((cell_far (p := ⟨gb142, _, none⟩) NB134_142.out _).trans (hHeld.1)))), ((cell_far (p := ⟨gb142, _, none⟩) NB134_142.out _).trans (((cell_far (p := ⟨gb142, _, none⟩) NB134_142.out _).trans (hHeld.2.1)))), ((cell_far (p := ⟨gb142, _, none⟩) NB134_142.out _).trans (((cell_far (p := ⟨gb142, _, none⟩) NB134_142.out _).trans (hHeld.2.2.1)))), ((cell_far (p := ⟨gb142, _, none⟩) NB134_142.out _).trans (((cell_far (p := ⟨gb142, _, none⟩) NB134_142.out _).trans (hHeld.2.2.2.1)))), ((cell_far (p := ⟨gb142, _, none⟩) NB134_142.out _).trans (((cell_far (p := ⟨gb142, _, none⟩) NB134_142.out _).trans (hHeld.2.2.2.2.1)))), ((cell_far (p := ⟨gb142, _, none⟩) NB134_142.out _).trans (((cell_far (p := ⟨gb142, _, none⟩) NB134_142.out _).trans (hHeld.2.2.2.2.2.1)))), ((cell_far (p := ⟨gb142, _, none⟩) NB135_142.out _).trans (((cell_far (p := ⟨gb142, _, none⟩) NB135_142.out _).trans (hHeld.2.2.2.2.2.2.1)))), ((cell_far (p := ⟨gb142, _, none⟩) NB135_142.out _).trans (((cell_far (p := ⟨gb142, _, none⟩) NB135_142.out _).trans (hHeld.2.2.2.2.2.2.2.1)))), ((cell_far (p := ⟨gb142, _, none⟩) NB135_142.out _).trans (((cell_far (p := ⟨gb142, _, none⟩) NB135_142.out _).trans (hHeld.2.2.2.2.2.2.2.2.1)))), ((cell_far (p := ⟨gb142, _, none⟩) NB135_142.out _).trans (((cell_far (p := ⟨gb142, _, none⟩) NB135_142.out _).trans (hHeld.2.2.2.2.2.2.2.2.2.1)))), ((cell_far (p := ⟨gb142, _, none⟩) NB135_142.out _).trans (((cell_far (p := ⟨gb142, _, none⟩) NB135_142.out _).trans (hHeld.2.2.2.2.2.2.2.2.2.2.1)))), ((cell_far (p := ⟨gb142, _, none⟩) NB135_142.out _).trans (((cell_far (p := ⟨gb142, _, none⟩) NB135_142.out _).trans (hHeld.2.2.2.2.2.2.2.2.2.2.2))))⟩ (fun hHeld => ?_)
      clear hK K
      refine one_ (i := 7) (N := none) (bz 8 255) rfl rfl (one_of HT_.out (by kernel_rfl)) (by decide) (fun K hK => ?_)
      have hs70 : w4.cell? ⟨gb143, 0, none⟩ = some (.int .i64 0) := bc BK143.out 0
      have hfs70 := blk_frozen BK143.out 0
      have hns70_0 := NB134_143.out
      have hns70_1 := NB135_143.out
      have hns70_2 := NB142_143.out
      have hms70_0 := NB143_134.out
      have hms70_1 := NB143_135.out
      have hms70_2 := NB143_142.out
      have hs71 : w4.cell? ⟨gb143, 1, none⟩ = some (.int .i64 0) := bc BK143.out 1
      have hfs71 := blk_frozen BK143.out 1
      have hns71_0 := NB134_143.out
      have hns71_1 := NB135_143.out
      have hns71_2 := NB142_143.out
      have hms71_0 := NB143_134.out
      have hms71_1 := NB143_135.out
      have hms71_2 := NB143_142.out
      refine skip_ (w1 := ?_) (by rfl) rfl ?_ ?_
      rotate_left
      ·go_simp
       rfl
      refine hK.out _ _ ⟨((cell_far (p := ⟨gb143, _, none⟩) NB134_143.out _).trans (((cell_far (p := ⟨gb143, _, none⟩) NB134_143.out _).trans (hHeld.1)))), ((cell_far (p := ⟨gb143, _, none⟩) NB134_143.out _).trans (((cell_far (p := ⟨gb143, _, none⟩) NB134_143.out _).trans (hHeld.2.1)))), ((cell_far (p := ⟨gb143, _, none⟩) NB134_143.out _).trans (((cell_far (p := ⟨gb143, _, none⟩) NB134_143.out _).trans (hHeld.2.2.1)))), ((cell_far (p := ⟨gb143, _, none⟩) NB134_143.out _).trans (((cell_far (p := ⟨gb143, _, none⟩) NB134_143.out _).trans (hHeld.2.2.2.1)))), ((cell_far (p := ⟨gb143, _, none⟩) NB134_143.out _).trans (((cell_far (p := ⟨gb143, _, none⟩) NB134_143.out _).trans (hHeld.2.2.2.2.1)))), ((cell_far (p := ⟨gb143, _, none⟩) NB134_143.out _).trans (((cell_far (p := ⟨gb143, _, none⟩) NB134_143.out _).trans (hHeld.2.2.2.2.2.1)))), ((cell_far (p := ⟨gb143, _, none⟩) NB135_143.out _).trans (((cell_far (p := ⟨gb143, _, none⟩) NB135_143.out _).trans (hHeld.2.2.2.2.2.2.1)))), ((cell_far (p := ⟨gb143, _, none⟩) NB135_143.out _).trans (((cell_far (p := ⟨gb143, _, none⟩) NB135_143.out _).trans (hHeld.2.2.2.2.2.2.2.1)))), ((cell_far (p := ⟨gb143, _, none⟩) NB135_143.out _).trans (((cell_far (p := ⟨gb143, _, none⟩) NB135_143.out _).trans (hHeld.2.2.2.2.2.2.2.2.1)))), ((cell_far (p := ⟨gb143, _, none⟩) NB135_143.out _).trans (((cell_far (p := ⟨gb143, _, none⟩) NB135_143.out _).trans (hHeld.2.2.2.2.2.2.2.2.2.1)))), ((cell_far (p := ⟨gb143, _, none⟩) NB135_143.out _).trans (((cell_far (p := ⟨gb143, _, none⟩) NB135_143.out _).trans (hHeld.2.2.2.2.2.2.2.2.2.2.1)))), ((cell_far (p := ⟨gb143, _, none⟩) NB135_143.out _).trans (((cell_far (p := ⟨gb143, _, none⟩) NB135_143.out _).trans (hHeld.2.2.2.2.2.2.2.2.2.2.2))))⟩ (fun hHeld => ?_)
      clear hK K
      refine done_ (done_of HT_.out (by kernel_rfl)) ?_
      try go_wp2
      have n0_ : Aside0 (((((w4.setCell ⟨gb142, 0, none⟩ (.int .i64 t138)).setCell ⟨gb142, 1, none⟩ (.int .i64 t139)).setCell ⟨gb143, 0, none⟩ (.int .i64 t140)).setCell ⟨gb143, 1, none⟩ (.int .i64 t141)).heap[gb134]? = some (.cells #[.int .i64 a0_0, .int .i64 a0_1, .int .i64 a0_2, .int .i64 a0_3, .int .i64 a0_4, .int .i64 a0_5] 25 (0, 0))) := ⟨by (with_reducible repeat (first | refine blk_drewN ?_ _ | refine blk_drew ?_ | refine blk_alloc ?_ _)); refine blk_far ?_ NB134_143.out _; (with_reducible repeat (first | refine blk_drewN ?_ _ | refine blk_drew ?_ | refine blk_alloc ?_ _)); refine blk_far ?_ NB134_143.out _; (with_reducible repeat (first | refine blk_drewN ?_ _ | refine blk_drew ?_ | refine blk_alloc ?_ _)); refine blk_far ?_ NB134_142.out _; (with_reducible repeat (first | refine blk_drewN ?_ _ | refine blk_drew ?_ | refine blk_alloc ?_ _)); refine blk_far ?_ NB134_142.out _; (with_reducible repeat (first | refine blk_drewN ?_ _ | refine blk_drew ?_ | refine blk_alloc ?_ _)); exact BK134.out⟩
      have n1_ : Aside0 (((((w4.setCell ⟨gb142, 0, none⟩ (.int .i64 t138)).setCell ⟨gb142, 1, none⟩ (.int .i64 t139)).setCell ⟨gb143, 0, none⟩ (.int .i64 t140)).setCell ⟨gb143, 1, none⟩ (.int .i64 t141)).heap[gb135]? = some (.cells #[.int .i64 a1_0, .int .i64 a1_1, .int .i64 a1_2, .int .i64 a1_3, .int .i64 a1_4, .int .i64 a1_5] 25 (0, 0))) := ⟨by (with_reducible repeat (first | refine blk_drewN ?_ _ | refine blk_drew ?_ | refine blk_alloc ?_ _)); refine blk_far ?_ NB135_143.out _; (with_reducible repeat (first | refine blk_drewN ?_ _ | refine blk_drew ?_ | refine blk_alloc ?_ _)); refine blk_far ?_ NB135_143.out _; (with_reducible repeat (first | refine blk_drewN ?_ _ | refine blk_drew ?_ | refine blk_alloc ?_ _)); refine blk_far ?_ NB135_142.out _; (with_reducible repeat (first | refine blk_drewN ?_ _ | refine blk_drew ?_ | refine blk_alloc ?_ _)); refine blk_far ?_ NB135_142.out _; (with_reducible repeat (first | refine blk_drewN ?_ _ | refine blk_drew ?_ | refine blk_alloc ?_ _)); exact BK135.out⟩
      have n2_ : Aside0 (((((w4.setCell ⟨gb142, 0, none⟩ (.int .i64 t138)).setCell ⟨gb142, 1, none⟩ (.int .i64 t139)).setCell ⟨gb143, 0, none⟩ (.int .i64 t140)).setCell ⟨gb143, 1, none⟩ (.int .i64 t141)).heap[gb142]? = some (.cells #[.int .i64 t138, .int .i64 t139] 83 (0, 0))) := ⟨by (with_reducible repeat (first | refine blk_drewN ?_ _ | refine blk_drew ?_ | refine blk_alloc ?_ _)); refine blk_far ?_ NB142_143.out _; (with_reducible repeat (first | refine blk_drewN ?_ _ | refine blk_drew ?_ | refine blk_alloc ?_ _)); refine blk_far ?_ NB142_143.out _; (with_reducible repeat (first | refine blk_drewN ?_ _ | refine blk_drew ?_ | refine blk_alloc ?_ _)); refine blk_put (cs := #[.int .i64 t138, .int .i64 0]) ?_ 1 _ rfl; (with_reducible repeat (first | refine blk_drewN ?_ _ | refine blk_drew ?_ | refine blk_alloc ?_ _)); refine blk_put (cs := #[.int .i64 0, .int .i64 0]) ?_ 0 _ rfl; (with_reducible repeat (first | refine blk_drewN ?_ _ | refine blk_drew ?_ | refine blk_alloc ?_ _)); exact BK142.out⟩
      have n3_ : Aside0 (((((w4.setCell ⟨gb142, 0, none⟩ (.int .i64 t138)).setCell ⟨gb142, 1, none⟩ (.int .i64 t139)).setCell ⟨gb143, 0, none⟩ (.int .i64 t140)).setCell ⟨gb143, 1, none⟩ (.int .i64 t141)).heap[gb143]? = some (.cells #[.int .i64 t140, .int .i64 t141] 83 (0, 0))) := ⟨by (with_reducible repeat (first | refine blk_drewN ?_ _ | refine blk_drew ?_ | refine blk_alloc ?_ _)); refine blk_put (cs := #[.int .i64 t140, .int .i64 0]) ?_ 1 _ rfl; (with_reducible repeat (first | refine blk_drewN ?_ _ | refine blk_drew ?_ | refine blk_alloc ?_ _)); refine blk_put (cs := #[.int .i64 0, .int .i64 0]) ?_ 0 _ rfl; (with_reducible repeat (first | refine blk_drewN ?_ _ | refine blk_drew ?_ | refine blk_alloc ?_ _)); refine blk_far ?_ NB143_142.out _; (with_reducible repeat (first | refine blk_drewN ?_ _ | refine blk_drew ?_ | refine blk_alloc ?_ _)); refine blk_far ?_ NB143_142.out _; (with_reducible repeat (first | refine blk_drewN ?_ _ | refine blk_drew ?_ | refine blk_alloc ?_ _)); exact BK143.out⟩
      have n4_ : Aside0 (Below w.heap.size w ((((w4.setCell ⟨gb142, 0, none⟩ (.int .i64 t138)).setCell ⟨gb142, 1, none⟩ (.int .i64 t139)).setCell ⟨gb143, 0, none⟩ (.int .i64 t140)).setCell ⟨gb143, 1, none⟩ (.int .i64 t141))) := ⟨by repeat (first | (with_reducible first | exact HB.out | apply below_alloc | apply pw_below_drewN | apply below_drew1 | refine below_set ?_ GE134.out | refine below_set ?_ GE135.out | refine below_set ?_ GE142.out | refine below_set ?_ GE143.out) | exact HB.out)⟩
      (try clear BK134)
      (try clear BK135)
      (try clear BK142)
      (try clear BK143)
      (try clear HB)
      generalize ((((w4.setCell ⟨gb142, 0, none⟩ (.int .i64 t138)).setCell ⟨gb142, 1, none⟩ (.int .i64 t139)).setCell ⟨gb143, 0, none⟩ (.int .i64 t140)).setCell ⟨gb143, 1, none⟩ (.int .i64 t141)) = w5 at n0_ n1_ n2_ n3_ n4_ ⊢
      have BK134 := n0_
      have BK135 := n1_
      have BK142 := n2_
      have BK143 := n3_
      have HB := n4_
      clear n0_ n1_ n2_ n3_ n4_
      have n0_ := Aside0.mk (blk_drew BK134.out)
      have n1_ := Aside0.mk (blk_drew BK135.out)
      have n2_ := Aside0.mk (blk_drew BK142.out)
      have n3_ := Aside0.mk (blk_drew BK143.out)
      have n4_ := Aside0.mk (below_drew1 HB.out)
      clear BK134 BK135 BK142 BK143 HB
      have BK134 := n0_
      have BK135 := n1_
      have BK142 := n2_
      have BK143 := n3_
      have HB := n4_
      clear n0_ n1_ n2_ n3_ n4_
      refine start_ (n := 24) (S := fun w' => w'.cell? ⟨gb142, 0, none⟩ = some (.int .i64 t138) ∧ w'.cell? ⟨gb142, 1, none⟩ = some (.int .i64 t139) ∧ w'.cell? ⟨gb143, 0, none⟩ = some (.int .i64 t140) ∧ w'.cell? ⟨gb143, 1, none⟩ = some (.int .i64 t141)) (ds := []) #[false, false, false, false, false, false, false, false, false, false, false, false, false, false, false, false, false, false, false, false, false, false, false, false] (by kernel_rfl) rfl rfl ⟨bc BK142.out 0, bc BK142.out 1, bc BK143.out 0, bc BK143.out 1⟩ (fun hHeld => ?_); refine with_tabW spec_HeadOn.tab4 spec_HeadOn.bits4 (fun HT_ HW_ => ?_)
      generalize w5.drew = w6 at BK134 BK135 BK142 BK143 HB hHeld ⊢
      refine take_ (i := 0) (N := some 19) (v := ?_) (a' := ?_) (bz 24 1) rfl rfl (take_ofW HT_.out HW_.out (by kernel_rfl)) (fun _ _ _ h => h) (Or.inl ⟨by rfl, ?_⟩) hHeld ?_ ?_
      rotate_left
      ·exact t3_5
      rotate_left
      ·exact t3_1
      refine take_ (i := 1) (N := some 20) (v := ?_) (a' := ?_) (bz 24 3) rfl rfl (take_ofW HT_.out HW_.out (by kernel_rfl)) (fun _ _ _ h => h) (Or.inl ⟨by rfl, ?_⟩) hHeld ?_ ?_
      rotate_left
      ·exact t3_5
      rotate_left
      ·exact t3_1
      refine one_ (i := 2) (N := some 21) (bz 24 7) rfl rfl (one_of HT_.out (by kernel_rfl)) (by decide) (fun K hK => ?_)
      refine goes_ Try.func68 (by kernel_rfl) rfl #[.agg #[.int .i64 t138, .int .i64 t139], .agg #[.int .i64 t140, .int .i64 t141]] (by rfl) rfl rfl s3_5 ?_
      with_reducible refine (spec_l8Dot.calls t138 t139 t140 t141 t144 _ A20.out).mono ?_
      rintro e w7 ⟨rfl, hb⟩
      refine ⟨_, rfl, ?_⟩
      have n0_ := Aside0.mk (bb (zk BK134.out) hb)
      have n1_ := Aside0.mk (bb (zk BK135.out) hb)
      have n2_ := Aside0.mk (bb (zk BK142.out) hb)
      have n3_ := Aside0.mk (bb (zk BK143.out) hb)
      have n4_ := Aside0.mk (below_step s3_3 hb)
      clear BK134 BK135 BK142 BK143 HB
      have BK134 := n0_
      have BK135 := n1_
      have BK142 := n2_
      have BK143 := n3_
      have HB := n4_
      clear n0_ n1_ n2_ n3_ n4_
      (try clear hb)
      (try clear hb2)
      (try clear hk)
      (try clear hi)
      refine hK.out _ _ ⟨bc BK142.out 0, bc BK142.out 1, bc BK143.out 0, bc BK143.out 1⟩ (fun hHeld => ?_)
      clear hK K
      refine norm_ (a' := ?_) ?_ ?_
      rotate_left
      ·show Act.put _ (some 21) _ = _
       simp only [Act.put, y1, y2, y3, i64_w, i32_w]
       rfl
      refine pure_ (i := 3) (N := some 22) (v := ?_) (a' := ?_) (bz 24 15) rfl rfl (any_of HT_.out (by kernel_rfl)) (fun _ _ _ h => h) (Or.inl ⟨by rfl, ?_⟩) ?_ ?_
      rotate_left
      ·exact t3_3
      rotate_left
      ·exact t3_1
      refine pure_ (i := 4) (N := some 23) (v := ?_) (a' := ?_) (bz 24 31) rfl rfl (any_of HT_.out (by kernel_rfl)) (fun _ _ _ h => h) (Or.inl ⟨by rfl, ?_⟩) ?_ ?_
      rotate_left
      ·exact t3_3
      rotate_left
      ·exact t3_1
      refine take_ (i := 5) (N := some 24) (v := ?_) (a' := ?_) (bz 24 63) rfl rfl (take_ofW HT_.out HW_.out (by kernel_rfl)) (fun _ _ _ h => h) (Or.inl ⟨by rfl, ?_⟩) hHeld ?_ ?_
      rotate_left
      ·exact t3_5
      rotate_left
      ·exact t3_1
      refine take_ (i := 6) (N := some 25) (v := ?_) (a' := ?_) (bz 24 127) rfl rfl (take_ofW HT_.out HW_.out (by kernel_rfl)) (fun _ _ _ h => h) (Or.inl ⟨by rfl, ?_⟩) hHeld ?_ ?_
      rotate_left
      ·exact t3_5
      rotate_left
      ·exact t3_1
      refine take_ (i := 8) (N := some 27) (v := ?_) (a' := ?_) (bz 24 383) rfl rfl (take_ofW HT_.out HW_.out (by kernel_rfl)) (fun _ _ _ h => h) (Or.inl ⟨by rfl, ?_⟩) hHeld ?_ ?_
      rotate_left
      ·exact t3_5
      rotate_left
      ·exact t3_1
      refine take_ (i := 9) (N := some 28) (v := ?_) (a' := ?_) (bz 24 895) rfl rfl (take_ofW HT_.out HW_.out (by kernel_rfl)) (fun _ _ _ h => h) (Or.inl ⟨by rfl, ?_⟩) hHeld ?_ ?_
      rotate_left
      ·exact t3_5
      rotate_left
      ·exact t3_1
      refine one_ (i := 7) (N := some 26) (bz 24 1023) rfl rfl (one_of HT_.out (by kernel_rfl)) (by decide) (fun K hK => ?_)
      refine goes_ Try.func67 (by kernel_rfl) rfl #[.agg #[.int .i64 t138, .int .i64 t139], .agg #[.int .i64 t140, .int .i64 t141]] (by rfl) rfl rfl s3_5 ?_
      with_reducible refine (spec_l8Cross.calls t138 t139 t140 t141 t145 _ A22.out).mono ?_
      rintro e w8 ⟨rfl, hb⟩
      refine ⟨_, rfl, ?_⟩
      have n0_ := Aside0.mk (bb (zk BK134.out) hb)
      have n1_ := Aside0.mk (bb (zk BK135.out) hb)
      have n2_ := Aside0.mk (bb (zk BK142.out) hb)
      have n3_ := Aside0.mk (bb (zk BK143.out) hb)
      have n4_ := Aside0.mk (below_step s3_3 hb)
      clear BK134 BK135 BK142 BK143 HB
      have BK134 := n0_
      have BK135 := n1_
      have BK142 := n2_
      have BK143 := n3_
      have HB := n4_
      clear n0_ n1_ n2_ n3_ n4_
      (try clear hb)
      (try clear hb2)
      (try clear hk)
      (try clear hi)
      refine hK.out _ _ ⟨bc BK142.out 0, bc BK142.out 1, bc BK143.out 0, bc BK143.out 1⟩ (fun hHeld => ?_)
      clear hK K
      refine norm_ (a' := ?_) ?_ ?_
      rotate_left
      ·show Act.put _ (some 26) _ = _
       simp only [Act.put, y1, y2, y3, i64_w, i32_w]
       rfl
      refine one_ (i := 10) (N := some 29) (bz 24 2047) rfl rfl (one_of HT_.out (by kernel_rfl)) (by decide) (fun K hK => ?_)
      refine goes_ Try.func68 (by kernel_rfl) rfl #[.agg #[.int .i64 t138, .int .i64 t139], .agg #[.int .i64 t140, .int .i64 t141]] (by rfl) rfl rfl s3_5 ?_
      with_reducible refine (spec_l8Dot.calls t138 t139 t140 t141 t146 _ A23.out).mono ?_
      rintro e w9 ⟨rfl, hb⟩
      refine ⟨_, rfl, ?_⟩
      have n0_ := Aside0.mk (bb (zk BK134.out) hb)
      have n1_ := Aside0.mk (bb (zk BK135.out) hb)
      have n2_ := Aside0.mk (bb (zk BK142.out) hb)
      have n3_ := Aside0.mk (bb (zk BK143.out) hb)
      have n4_ := Aside0.mk (below_step s3_3 hb)
      clear BK134 BK135 BK142 BK143 HB
      have BK134 := n0_
      have BK135 := n1_
      have BK142 := n2_
      have BK143 := n3_
      have HB := n4_
      clear n0_ n1_ n2_ n3_ n4_
      (try clear hb)
      (try clear hb2)
      (try clear hk)
      (try clear hi)
      refine hK.out _ _ ⟨bc BK142.out 0, bc BK142.out 1, bc BK143.out 0, bc BK143.out 1⟩ (fun hHeld => ?_)
      clear hK K
      refine norm_ (a' := ?_) ?_ ?_
      rotate_left
      ·show Act.put _ (some 29) _ = _
       simp only [Act.put, y1, y2, y3, i64_w, i32_w]
       rfl
      refine one_ (i := 11) (N := some 30) (bz 24 4095) rfl rfl (one_of HT_.out (by kernel_rfl)) (by decide) (fun K hK => ?_)
      refine goes_ Try.func69 (by kernel_rfl) rfl #[.int .i64 t145, .int .i64 100, .int .i64 t146, .int .i64 1] (by rfl) rfl rfl s3_5 ?_
      with_reducible refine (spec_l8Least.calls t145 100 t146 1 false _ A24.out).mono ?_
      rintro e w' ⟨rfl, ⟨nd, rfl⟩⟩
      refine ⟨_, rfl, ?_⟩
      refine hK.out _ _ ⟨bc BK142.out 0, bc BK142.out 1, bc BK143.out 0, bc BK143.out 1⟩ (fun hHeld => ?_)
      clear hK K
      refine norm_ (a' := ?_) ?_ ?_
      rotate_left
      ·show Act.put _ (some 30) _ = _
       simp only [Act.put, y1, y2, y3, i64_w, i32_w]
       rfl
      refine pure_ (i := 12) (N := some 31) (v := ?_) (a' := ?_) (bz 24 8191) rfl rfl (any_of HT_.out (by kernel_rfl)) (fun _ _ _ h => h) (Or.inl ⟨by rfl, ?_⟩) ?_ ?_
      rotate_left
      ·exact t3_3
      rotate_left
      ·exact t3_1
      refine pure_ (i := 13) (N := some 32) (v := ?_) (a' := ?_) (bz 24 16383) rfl rfl (any_of HT_.out (by kernel_rfl)) (fun _ _ _ h => h) (Or.inl ⟨by rfl, ?_⟩) ?_ ?_
      rotate_left
      ·exact t3_3
      rotate_left
      ·exact t3_1
      refine pure_ (i := 14) (N := some 33) (v := undef) (a' := ?_) (bz 24 32767) rfl rfl (any_of HT_.out (by kernel_rfl)) (fun _ _ _ h => h) (Or.inr ⟨by rfl, rfl⟩) ?_ ?_
      rotate_left
      ·exact t3_1
      refine pure_ (i := 15) (N := some 34) (v := undef) (a' := ?_) (bz 24 65535) rfl rfl (any_of HT_.out (by kernel_rfl)) (fun _ _ _ h => h) (Or.inr ⟨by rfl, rfl⟩) ?_ ?_
      rotate_left
      ·exact t3_1
      refine pure_ (i := 16) (N := some 35) (v := undef) (a' := ?_) (bz 24 131071) rfl rfl (any_of HT_.out (by kernel_rfl)) (fun _ _ _ h => h) (Or.inr ⟨by rfl, rfl⟩) ?_ ?_
      rotate_left
      ·exact t3_1
      refine pure_ (i := 17) (N := some 36) (v := ?_) (a' := ?_) (bz 24 262143) rfl rfl (any_of HT_.out (by kernel_rfl)) (fun _ _ _ h => h) (Or.inl ⟨by rfl, ?_⟩) ?_ ?_
      rotate_left
      ·exact t3_3
      rotate_left
      ·exact t3_1
      refine pure_ (i := 18) (N := some 37) (v := ?_) (a' := ?_) (bz 24 524287) rfl rfl (any_of HT_.out (by kernel_rfl)) (fun _ _ _ h => h) (Or.inl ⟨by rfl, ?_⟩) ?_ ?_
      rotate_left
      ·exact t3_3
      rotate_left
      ·exact t3_1
      refine pure_ (i := 19) (N := some 38) (v := undef) (a' := ?_) (bz 24 1048575) rfl rfl (any_of HT_.out (by kernel_rfl)) (fun _ _ _ h => h) (Or.inr ⟨by rfl, rfl⟩) ?_ ?_
      rotate_left
      ·exact t3_1
      refine pure_ (i := 20) (N := some 39) (v := undef) (a' := ?_) (bz 24 2097151) rfl rfl (any_of HT_.out (by kernel_rfl)) (fun _ _ _ h => h) (Or.inr ⟨by rfl, rfl⟩) ?_ ?_
      rotate_left
      ·exact t3_1
      refine pure_ (i := 21) (N := some 40) (v := undef) (a' := ?_) (bz 24 4194303) rfl rfl (any_of HT_.out (by kernel_rfl)) (fun _ _ _ h => h) (Or.inr ⟨by rfl, rfl⟩) ?_ ?_
      rotate_left
      ·exact t3_1
      refine pure_ (i := 22) (N := some 41) (v := ?_) (a' := ?_) (bz 24 8388607) rfl rfl (any_of HT_.out (by kernel_rfl)) (fun _ _ _ h => h) (Or.inl ⟨by rfl, ?_⟩) ?_ ?_
      rotate_left
      ·exact t3_3
      rotate_left
      ·exact t3_1
      refine pure_ (i := 23) (N := some 4) (v := ?_) (a' := ?_) (bz 24 16777215) rfl rfl (any_of HT_.out (by kernel_rfl)) (fun _ _ _ h => h) (Or.inl ⟨by rfl, ?_⟩) ?_ ?_
      rotate_left
      ·exact t3_3
      rotate_left
      ·exact t3_1
      refine done_ (done_of HT_.out (by kernel_rfl)) ?_
      try go_wp2
      go_ret
      exact ⟨by first | rfl | (simp [errW_none, errW_some] <;> rfl) | (simp [*, errW_none, errW_some] <;> rfl), by repeat (first | (with_reducible first | exact HB.out | apply below_alloc | apply pw_below_drewN | apply below_drew1 | refine below_set ?_ GE134.out | refine below_set ?_ GE135.out | refine below_set ?_ GE142.out | refine below_set ?_ GE143.out) | exact HB.out)⟩
    ·rw [if_neg c21] at H
     have c21b0 : decide (t144 < 0) = false := decide_eq_false c21
     clear c21
     obtain rfl := Option.some.inj H
     try go_wp2
     have n0_ := Aside0.mk (blk_drew BK134.out)
     have n1_ := Aside0.mk (blk_drew BK135.out)
     have n2_ := Aside0.mk (below_drew1 HB.out)
     clear BK134 BK135 HB
     have BK134 := n0_
     have BK135 := n1_
     have HB := n2_
     clear n0_ n1_ n2_
     refine start_ (n := 8) (S := fun w' => w'.cell? ⟨gb134, 0, none⟩ = some (.int .i64 a0_0) ∧ w'.cell? ⟨gb134, 1, none⟩ = some (.int .i64 a0_1) ∧ w'.cell? ⟨gb134, 2, none⟩ = some (.int .i64 a0_2) ∧ w'.cell? ⟨gb134, 3, none⟩ = some (.int .i64 a0_3) ∧ w'.cell? ⟨gb134, 4, none⟩ = some (.int .i64 a0_4) ∧ w'.cell? ⟨gb134, 5, none⟩ = some (.int .i64 a0_5) ∧ w'.cell? ⟨gb135, 0, none⟩ = some (.int .i64 a1_0) ∧ w'.cell? ⟨gb135, 1, none⟩ = some (.int .i64 a1_1) ∧ w'.cell? ⟨gb135, 2, none⟩ = some (.int .i64 a1_2) ∧ w'.cell? ⟨gb135, 3, none⟩ = some (.int .i64 a1_3) ∧ w'.cell? ⟨gb135, 4, none⟩ = some (.int .i64 a1_4) ∧ w'.cell? ⟨gb135, 5, none⟩ = some (.int .i64 a1_5)) (ds := []) #[false, false, false, false, false, false, false, false] (by kernel_rfl) rfl rfl ⟨bc BK134.out 0, bc BK134.out 1, bc BK134.out 2, bc BK134.out 3, bc BK134.out 4, bc BK134.out 5, bc BK135.out 0, bc BK135.out 1, bc BK135.out 2, bc BK135.out 3, bc BK135.out 4, bc BK135.out 5⟩ (fun hHeld => ?_); refine with_tabW spec_HeadOn.tab3 spec_HeadOn.bits3 (fun HT_ HW_ => ?_)
     generalize wc.drew = w3 at BK134 BK135 HB hHeld ⊢
     refine take_ (i := 0) (N := some 15) (v := ?_) (a' := ?_) (bz 8 1) rfl rfl (take_ofW HT_.out HW_.out (by kernel_rfl)) (fun _ _ _ h => h) (Or.inl ⟨by rfl, ?_⟩) hHeld ?_ ?_
     rotate_left
     ·exact t3_4
     rotate_left
     ·exact t3_1
     refine take_ (i := 2) (N := some 17) (v := ?_) (a' := ?_) (bz 8 5) rfl rfl (take_ofW HT_.out HW_.out (by kernel_rfl)) (fun _ _ _ h => h) (Or.inl ⟨by rfl, ?_⟩) hHeld ?_ ?_
     rotate_left
     ·exact t3_4
     rotate_left
     ·exact t3_1
     refine join_ (σ := Nat × Nat) 2 (bz 8 63) (fun s_ => [(16, .agg #[.int .i64 t138, .int .i64 t139]), (18, .agg #[.int .i64 t140, .int .i64 t141]), (5, .pointer (some ⟨s_.1, 0, none⟩)), (6, .pointer (some ⟨s_.2, 0, none⟩))]) (fun s_ w' => (w'.cell? ⟨gb134, 0, none⟩ = some (.int .i64 a0_0) ∧ w'.cell? ⟨gb134, 1, none⟩ = some (.int .i64 a0_1) ∧ w'.cell? ⟨gb134, 2, none⟩ = some (.int .i64 a0_2) ∧ w'.cell? ⟨gb134, 3, none⟩ = some (.int .i64 a0_3) ∧ w'.cell? ⟨gb134, 4, none⟩ = some (.int .i64 a0_4) ∧ w'.cell? ⟨gb134, 5, none⟩ = some (.int .i64 a0_5) ∧ w'.cell? ⟨gb135, 0, none⟩ = some (.int .i64 a1_0) ∧ w'.cell? ⟨gb135, 1, none⟩ = some (.int .i64 a1_1) ∧ w'.cell? ⟨gb135, 2, none⟩ = some (.int .i64 a1_2) ∧ w'.cell? ⟨gb135, 3, none⟩ = some (.int .i64 a1_3) ∧ w'.cell? ⟨gb135, 4, none⟩ = some (.int .i64 a1_4) ∧ w'.cell? ⟨gb135, 5, none⟩ = some (.int .i64 a1_5)) ∧ (w'.heap[gb134]? = some (.cells #[.int .i64 a0_0, .int .i64 a0_1, .int .i64 a0_2, .int .i64 a0_3, .int .i64 a0_4, .int .i64 a0_5] 25 (0, 0))) ∧ (w'.heap[gb135]? = some (.cells #[.int .i64 a1_0, .int .i64 a1_1, .int .i64 a1_2, .int .i64 a1_3, .int .i64 a1_4, .int .i64 a1_5] 25 (0, 0))) ∧ (w'.heap[s_.1]? = some (.cells #[.int .i64 0, .int .i64 0] 83 (0, 0))) ∧ (w'.heap[s_.2]? = some (.cells #[.int .i64 0, .int .i64 0] 83 (0, 0))) ∧ (w.heap.size ≤ s_.1) ∧ (w.heap.size ≤ s_.1) ∧ (gb134 ≠ s_.1) ∧ (s_.1 ≠ gb134) ∧ (gb135 ≠ s_.1) ∧ (s_.1 ≠ gb135) ∧ (s_.2 ≠ s_.1) ∧ (s_.1 ≠ s_.2) ∧ (w.heap.size ≤ s_.2) ∧ (w.heap.size ≤ s_.2) ∧ (gb134 ≠ s_.2) ∧ (s_.2 ≠ gb134) ∧ (gb135 ≠ s_.2) ∧ (s_.2 ≠ gb135) ∧ (Below w.heap.size w w')) ?_ ?_
     rotate_left
     ·exact t3_0
     rintro ⟨gb142, gb143⟩ w4 ⟨hS_, h0_, h1_, h2_, h3_, h4_, h5_, h6_, h7_, h8_, h9_, h10_, h11_, h12_, h13_, h14_, h15_, h16_, h17_, h18_⟩
     have n0_ : Aside0 (w4.heap[gb134]? = some (.cells #[.int .i64 a0_0, .int .i64 a0_1, .int .i64 a0_2, .int .i64 a0_3, .int .i64 a0_4, .int .i64 a0_5] 25 (0, 0))) := ⟨h0_⟩
     have n1_ : Aside0 (w4.heap[gb135]? = some (.cells #[.int .i64 a1_0, .int .i64 a1_1, .int .i64 a1_2, .int .i64 a1_3, .int .i64 a1_4, .int .i64 a1_5] 25 (0, 0))) := ⟨h1_⟩
     have n2_ : Aside0 (w4.heap[gb142]? = some (.cells #[.int .i64 0, .int .i64 0] 83 (0, 0))) := ⟨h2_⟩
     have n3_ : Aside0 (w4.heap[gb143]? = some (.cells #[.int .i64 0, .int .i64 0] 83 (0, 0))) := ⟨h3_⟩
     have n4_ : Aside0 (w.heap.size ≤ gb142) := ⟨h4_⟩
     have n5_ : Aside0 (w.heap.size ≤ gb142) := ⟨h5_⟩
     have n6_ : Aside0 (gb134 ≠ gb142) := ⟨h6_⟩
     have n7_ : Aside0 (gb142 ≠ gb134) := ⟨h7_⟩
     have n8_ : Aside0 (gb135 ≠ gb142) := ⟨h8_⟩
     have n9_ : Aside0 (gb142 ≠ gb135) := ⟨h9_⟩
     have n10_ : Aside0 (gb143 ≠ gb142) := ⟨h10_⟩
     have n11_ : Aside0 (gb142 ≠ gb143) := ⟨h11_⟩
     have n12_ : Aside0 (w.heap.size ≤ gb143) := ⟨h12_⟩
     have n13_ : Aside0 (w.heap.size ≤ gb143) := ⟨h13_⟩
     have n14_ : Aside0 (gb134 ≠ gb143) := ⟨h14_⟩
     have n15_ : Aside0 (gb143 ≠ gb134) := ⟨h15_⟩
     have n16_ : Aside0 (gb135 ≠ gb143) := ⟨h16_⟩
     have n17_ : Aside0 (gb143 ≠ gb135) := ⟨h17_⟩
     have n18_ : Aside0 (Below w.heap.size w w4) := ⟨h18_⟩
     clear BK134 BK135 HB h0_ h1_ h2_ h3_ h4_ h5_ h6_ h7_ h8_ h9_ h10_ h11_ h12_ h13_ h14_ h15_ h16_ h17_ h18_
     have BK134 := n0_
     have BK135 := n1_
     have BK142 := n2_
     have BK143 := n3_
     have GW142 := n4_
     have GE142 := n5_
     have NB134_142 := n6_
     have NB142_134 := n7_
     have NB135_142 := n8_
     have NB142_135 := n9_
     have NB143_142 := n10_
     have NB142_143 := n11_
     have GW143 := n12_
     have GE143 := n13_
     have NB134_143 := n14_
     have NB143_134 := n15_
     have NB135_143 := n16_
     have NB143_135 := n17_
     have HB := n18_
     clear n0_ n1_ n2_ n3_ n4_ n5_ n6_ n7_ n8_ n9_ n10_ n11_ n12_ n13_ n14_ n15_ n16_ n17_ n18_
     have hHeld : w4.cell? ⟨gb134, 0, none⟩ = some (.int .i64 a0_0) ∧ w4.cell? ⟨gb134, 1, none⟩ = some (.int .i64 a0_1) ∧ w4.cell? ⟨gb134, 2, none⟩ = some (.int .i64 a0_2) ∧ w4.cell? ⟨gb134, 3, none⟩ = some (.int .i64 a0_3) ∧ w4.cell? ⟨gb134, 4, none⟩ = some (.int .i64 a0_4) ∧ w4.cell? ⟨gb134, 5, none⟩ = some (.int .i64 a0_5) ∧ w4.cell? ⟨gb135, 0, none⟩ = some (.int .i64 a1_0) ∧ w4.cell? ⟨gb135, 1, none⟩ = some (.int .i64 a1_1) ∧ w4.cell? ⟨gb135, 2, none⟩ = some (.int .i64 a1_2) ∧ w4.cell? ⟨gb135, 3, none⟩ = some (.int .i64 a1_3) ∧ w4.cell? ⟨gb135, 4, none⟩ = some (.int .i64 a1_4) ∧ w4.cell? ⟨gb135, 5, none⟩ = some (.int .i64 a1_5) := hS_
     refine norm_ (a' := ?_) ?_ ?_
     rotate_left
     ·simp only [putAll, Act.put, y1, y2, y3]
      rfl
     refine one_ (i := 6) (N := none) (bz 8 127) rfl rfl (one_of HT_.out (by kernel_rfl)) (by decide) (fun K hK => ?_)
     have hs83 : w4.cell? ⟨gb142, 0, none⟩ = some (.int .i64 0) := bc BK142.out 0
     have hfs83 := blk_frozen BK142.out 0
     have hns83_0 := NB134_142.out
     have hns83_1 := NB135_142.out
     have hns83_3 := NB143_142.out
     have hms83_0 := NB142_134.out
     have hms83_1 := NB142_135.out
     have hms83_3 := NB142_143.out
     have hs84 : w4.cell? ⟨gb142, 1, none⟩ = some (.int .i64 0) := bc BK142.out 1
     have hfs84 := blk_frozen BK142.out 1
     have hns84_0 := NB134_142.out
     have hns84_1 := NB135_142.out
     have hns84_3 := NB143_142.out
     have hms84_0 := NB142_134.out
     have hms84_1 := NB142_135.out
     have hms84_3 := NB142_143.out
     refine skip_ (w1 := ?_) (by rfl) rfl ?_ ?_
     rotate_left
     ·go_simp
      rfl
     refine hK.out _ _ ⟨((cell_far (p := ⟨gb142, _, none⟩) NB134_142.out _).trans (((cell_far (p := ⟨gb142, _, none⟩) NB134_142.out _).trans (hHeld.1)))), ((cell_far (p := ⟨gb142, _, none⟩) NB134_142.out _).trans (((cell_far (p := ⟨gb142, _, none⟩) NB134_142.out _).trans (hHeld.2.1)))), ((cell_far (p := ⟨gb142, _, none⟩) NB134_142.out _).trans (((cell_far (p := ⟨gb142, _, none⟩) NB134_142.out _).trans (hHeld.2.2.1)))), ((cell_far (p := ⟨gb142, _, none⟩) NB134_142.out _).trans (((cell_far (p := ⟨gb142, _, none⟩) NB134_142.out _).trans (hHeld.2.2.2.1)))), ((cell_far (p := ⟨gb142, _, none⟩) NB134_142.out _).trans (((cell_far (p := ⟨gb142, _, none⟩) NB134_142.out _).trans (hHeld.2.2.2.2.1)))), ((cell_far (p := ⟨gb142, _, none⟩) NB134_142.out _).trans (((cell_far (p := ⟨gb142, _, none⟩) NB134_142.out _).trans (hHeld.2.2.2.2.2.1)))), ((cell_far (p := ⟨gb142, _, none⟩) NB135_142.out _).trans (((cell_far (p := ⟨gb142, _, none⟩) NB135_142.out _).trans (hHeld.2.2.2.2.2.2.1)))), ((cell_far (p := ⟨gb142, _, none⟩) NB135_142.out _).trans (((cell_far (p := ⟨gb142, _, none⟩) NB135_142.out _).trans (hHeld.2.2.2.2.2.2.2.1)))), ((cell_far (p := ⟨gb142, _, none⟩) NB135_142.out _).trans (((cell_far (p := ⟨gb142, _, none⟩) NB135_142.out _).trans (hHeld.2.2.2.2.2.2.2.2.1)))), ((cell_far (p := ⟨gb142, _, none⟩) NB135_142.out _).trans (((cell_far (p := ⟨gb142, _, none⟩) NB135_142.out _).trans (hHeld.2.2.2.2.2.2.2.2.2.1)))), ((cell_far (p := ⟨gb142, _, none⟩) NB135_142.out _).trans (((cell_far (p := ⟨gb142, _, none⟩) NB135_142.out _).trans (hHeld.2.2.2.2.2.2.2.2.2.2.1)))), ((cell_far (p := ⟨gb142, _, none⟩) NB135_142.out _).trans (((cell_far (p := ⟨gb142, _, none⟩) NB135_142.out _).trans (hHeld.2.2.2.2.2.2.2.2.2.2.2))))⟩ (fun hHeld => ?_)
     clear hK K
     refine one_ (i := 7) (N := none) (bz 8 255) rfl rfl (one_of HT_.out (by kernel_rfl)) (by decide) (fun K hK => ?_)
     have hs85 : w4.cell? ⟨gb143, 0, none⟩ = some (.int .i64 0) := bc BK143.out 0
     have hfs85 := blk_frozen BK143.out 0
     have hns85_0 := NB134_143.out
     have hns85_1 := NB135_143.out
     have hns85_2 := NB142_143.out
     have hms85_0 := NB143_134.out
     have hms85_1 := NB143_135.out
     have hms85_2 := NB143_142.out
     have hs86 : w4.cell? ⟨gb143, 1, none⟩ = some (.int .i64 0) := bc BK143.out 1
     have hfs86 := blk_frozen BK143.out 1
     have hns86_0 := NB134_143.out
     have hns86_1 := NB135_143.out
     have hns86_2 := NB142_143.out
     have hms86_0 := NB143_134.out
     have hms86_1 := NB143_135.out
     have hms86_2 := NB143_142.out
     refine skip_ (w1 := ?_) (by rfl) rfl ?_ ?_
     rotate_left
     ·go_simp
      rfl
     refine hK.out _ _ ⟨((cell_far (p := ⟨gb143, _, none⟩) NB134_143.out _).trans (((cell_far (p := ⟨gb143, _, none⟩) NB134_143.out _).trans (hHeld.1)))), ((cell_far (p := ⟨gb143, _, none⟩) NB134_143.out _).trans (((cell_far (p := ⟨gb143, _, none⟩) NB134_143.out _).trans (hHeld.2.1)))), ((cell_far (p := ⟨gb143, _, none⟩) NB134_143.out _).trans (((cell_far (p := ⟨gb143, _, none⟩) NB134_143.out _).trans (hHeld.2.2.1)))), ((cell_far (p := ⟨gb143, _, none⟩) NB134_143.out _).trans (((cell_far (p := ⟨gb143, _, none⟩) NB134_143.out _).trans (hHeld.2.2.2.1)))), ((cell_far (p := ⟨gb143, _, none⟩) NB134_143.out _).trans (((cell_far (p := ⟨gb143, _, none⟩) NB134_143.out _).trans (hHeld.2.2.2.2.1)))), ((cell_far (p := ⟨gb143, _, none⟩) NB134_143.out _).trans (((cell_far (p := ⟨gb143, _, none⟩) NB134_143.out _).trans (hHeld.2.2.2.2.2.1)))), ((cell_far (p := ⟨gb143, _, none⟩) NB135_143.out _).trans (((cell_far (p := ⟨gb143, _, none⟩) NB135_143.out _).trans (hHeld.2.2.2.2.2.2.1)))), ((cell_far (p := ⟨gb143, _, none⟩) NB135_143.out _).trans (((cell_far (p := ⟨gb143, _, none⟩) NB135_143.out _).trans (hHeld.2.2.2.2.2.2.2.1)))), ((cell_far (p := ⟨gb143, _, none⟩) NB135_143.out _).trans (((cell_far (p := ⟨gb143, _, none⟩) NB135_143.out _).trans (hHeld.2.2.2.2.2.2.2.2.1)))), ((cell_far (p := ⟨gb143, _, none⟩) NB135_143.out _).trans (((cell_far (p := ⟨gb143, _, none⟩) NB135_143.out _).trans (hHeld.2.2.2.2.2.2.2.2.2.1)))), ((cell_far (p := ⟨gb143, _, none⟩) NB135_143.out _).trans (((cell_far (p := ⟨gb143, _, none⟩) NB135_143.out _).trans (hHeld.2.2.2.2.2.2.2.2.2.2.1)))), ((cell_far (p := ⟨gb143, _, none⟩) NB135_143.out _).trans (((cell_far (p := ⟨gb143, _, none⟩) NB135_143.out _).trans (hHeld.2.2.2.2.2.2.2.2.2.2.2))))⟩ (fun hHeld => ?_)
     clear hK K
     refine done_ (done_of HT_.out (by kernel_rfl)) ?_
     try go_wp2
     have n0_ : Aside0 (((((w4.setCell ⟨gb142, 0, none⟩ (.int .i64 t138)).setCell ⟨gb142, 1, none⟩ (.int .i64 t139)).setCell ⟨gb143, 0, none⟩ (.int .i64 t140)).setCell ⟨gb143, 1, none⟩ (.int .i64 t141)).heap[gb134]? = some (.cells #[.int .i64 a0_0, .int .i64 a0_1, .int .i64 a0_2, .int .i64 a0_3, .int .i64 a0_4, .int .i64 a0_5] 25 (0, 0))) := ⟨by (with_reducible repeat (first | refine blk_drewN ?_ _ | refine blk_drew ?_ | refine blk_alloc ?_ _)); refine blk_far ?_ NB134_143.out _; (with_reducible repeat (first | refine blk_drewN ?_ _ | refine blk_drew ?_ | refine blk_alloc ?_ _)); refine blk_far ?_ NB134_143.out _; (with_reducible repeat (first | refine blk_drewN ?_ _ | refine blk_drew ?_ | refine blk_alloc ?_ _)); refine blk_far ?_ NB134_142.out _; (with_reducible repeat (first | refine blk_drewN ?_ _ | refine blk_drew ?_ | refine blk_alloc ?_ _)); refine blk_far ?_ NB134_142.out _; (with_reducible repeat (first | refine blk_drewN ?_ _ | refine blk_drew ?_ | refine blk_alloc ?_ _)); exact BK134.out⟩
     have n1_ : Aside0 (((((w4.setCell ⟨gb142, 0, none⟩ (.int .i64 t138)).setCell ⟨gb142, 1, none⟩ (.int .i64 t139)).setCell ⟨gb143, 0, none⟩ (.int .i64 t140)).setCell ⟨gb143, 1, none⟩ (.int .i64 t141)).heap[gb135]? = some (.cells #[.int .i64 a1_0, .int .i64 a1_1, .int .i64 a1_2, .int .i64 a1_3, .int .i64 a1_4, .int .i64 a1_5] 25 (0, 0))) := ⟨by (with_reducible repeat (first | refine blk_drewN ?_ _ | refine blk_drew ?_ | refine blk_alloc ?_ _)); refine blk_far ?_ NB135_143.out _; (with_reducible repeat (first | refine blk_drewN ?_ _ | refine blk_drew ?_ | refine blk_alloc ?_ _)); refine blk_far ?_ NB135_143.out _; (with_reducible repeat (first | refine blk_drewN ?_ _ | refine blk_drew ?_ | refine blk_alloc ?_ _)); refine blk_far ?_ NB135_142.out _; (with_reducible repeat (first | refine blk_drewN ?_ _ | refine blk_drew ?_ | refine blk_alloc ?_ _)); refine blk_far ?_ NB135_142.out _; (with_reducible repeat (first | refine blk_drewN ?_ _ | refine blk_drew ?_ | refine blk_alloc ?_ _)); exact BK135.out⟩
     have n2_ : Aside0 (((((w4.setCell ⟨gb142, 0, none⟩ (.int .i64 t138)).setCell ⟨gb142, 1, none⟩ (.int .i64 t139)).setCell ⟨gb143, 0, none⟩ (.int .i64 t140)).setCell ⟨gb143, 1, none⟩ (.int .i64 t141)).heap[gb142]? = some (.cells #[.int .i64 t138, .int .i64 t139] 83 (0, 0))) := ⟨by (with_reducible repeat (first | refine blk_drewN ?_ _ | refine blk_drew ?_ | refine blk_alloc ?_ _)); refine blk_far ?_ NB142_143.out _; (with_reducible repeat (first | refine blk_drewN ?_ _ | refine blk_drew ?_ | refine blk_alloc ?_ _)); refine blk_far ?_ NB142_143.out _; (with_reducible repeat (first | refine blk_drewN ?_ _ | refine blk_drew ?_ | refine blk_alloc ?_ _)); refine blk_put (cs := #[.int .i64 t138, .int .i64 0]) ?_ 1 _ rfl; (with_reducible repeat (first | refine blk_drewN ?_ _ | refine blk_drew ?_ | refine blk_alloc ?_ _)); refine blk_put (cs := #[.int .i64 0, .int .i64 0]) ?_ 0 _ rfl; (with_reducible repeat (first | refine blk_drewN ?_ _ | refine blk_drew ?_ | refine blk_alloc ?_ _)); exact BK142.out⟩
     have n3_ : Aside0 (((((w4.setCell ⟨gb142, 0, none⟩ (.int .i64 t138)).setCell ⟨gb142, 1, none⟩ (.int .i64 t139)).setCell ⟨gb143, 0, none⟩ (.int .i64 t140)).setCell ⟨gb143, 1, none⟩ (.int .i64 t141)).heap[gb143]? = some (.cells #[.int .i64 t140, .int .i64 t141] 83 (0, 0))) := ⟨by (with_reducible repeat (first | refine blk_drewN ?_ _ | refine blk_drew ?_ | refine blk_alloc ?_ _)); refine blk_put (cs := #[.int .i64 t140, .int .i64 0]) ?_ 1 _ rfl; (with_reducible repeat (first | refine blk_drewN ?_ _ | refine blk_drew ?_ | refine blk_alloc ?_ _)); refine blk_put (cs := #[.int .i64 0, .int .i64 0]) ?_ 0 _ rfl; (with_reducible repeat (first | refine blk_drewN ?_ _ | refine blk_drew ?_ | refine blk_alloc ?_ _)); refine blk_far ?_ NB143_142.out _; (with_reducible repeat (first | refine blk_drewN ?_ _ | refine blk_drew ?_ | refine blk_alloc ?_ _)); refine blk_far ?_ NB143_142.out _; (with_reducible repeat (first | refine blk_drewN ?_ _ | refine blk_drew ?_ | refine blk_alloc ?_ _)); exact BK143.out⟩
     have n4_ : Aside0 (Below w.heap.size w ((((w4.setCell ⟨gb142, 0, none⟩ (.int .i64 t138)).setCell ⟨gb142, 1, none⟩ (.int .i64 t139)).setCell ⟨gb143, 0, none⟩ (.int .i64 t140)).setCell ⟨gb143, 1, none⟩ (.int .i64 t141))) := ⟨by repeat (first | (with_reducible first | exact HB.out | apply below_alloc | apply pw_below_drewN | apply below_drew1 | refine below_set ?_ GE134.out | refine below_set ?_ GE135.out | refine below_set ?_ GE142.out | refine below_set ?_ GE143.out) | exact HB.out)⟩
     (try clear BK134)
     (try clear BK135)
     (try clear BK142)
     (try clear BK143)
     (try clear HB)
     generalize ((((w4.setCell ⟨gb142, 0, none⟩ (.int .i64 t138)).setCell ⟨gb142, 1, none⟩ (.int .i64 t139)).setCell ⟨gb143, 0, none⟩ (.int .i64 t140)).setCell ⟨gb143, 1, none⟩ (.int .i64 t141)) = w5 at n0_ n1_ n2_ n3_ n4_ ⊢
     have BK134 := n0_
     have BK135 := n1_
     have BK142 := n2_
     have BK143 := n3_
     have HB := n4_
     clear n0_ n1_ n2_ n3_ n4_
     have n0_ := Aside0.mk (blk_drew BK134.out)
     have n1_ := Aside0.mk (blk_drew BK135.out)
     have n2_ := Aside0.mk (blk_drew BK142.out)
     have n3_ := Aside0.mk (blk_drew BK143.out)
     have n4_ := Aside0.mk (below_drew1 HB.out)
     clear BK134 BK135 BK142 BK143 HB
     have BK134 := n0_
     have BK135 := n1_
     have BK142 := n2_
     have BK143 := n3_
     have HB := n4_
     clear n0_ n1_ n2_ n3_ n4_
     refine start_ (n := 24) (S := fun w' => w'.cell? ⟨gb142, 0, none⟩ = some (.int .i64 t138) ∧ w'.cell? ⟨gb142, 1, none⟩ = some (.int .i64 t139) ∧ w'.cell? ⟨gb143, 0, none⟩ = some (.int .i64 t140) ∧ w'.cell? ⟨gb143, 1, none⟩ = some (.int .i64 t141)) (ds := []) #[false, false, false, false, false, false, false, false, false, false, false, false, false, false, false, false, false, false, false, false, false, false, false, false] (by kernel_rfl) rfl rfl ⟨bc BK142.out 0, bc BK142.out 1, bc BK143.out 0, bc BK143.out 1⟩ (fun hHeld => ?_); refine with_tabW spec_HeadOn.tab4 spec_HeadOn.bits4 (fun HT_ HW_ => ?_)
     generalize w5.drew = w6 at BK134 BK135 BK142 BK143 HB hHeld ⊢
     refine take_ (i := 0) (N := some 19) (v := ?_) (a' := ?_) (bz 24 1) rfl rfl (take_ofW HT_.out HW_.out (by kernel_rfl)) (fun _ _ _ h => h) (Or.inl ⟨by rfl, ?_⟩) hHeld ?_ ?_
     rotate_left
     ·exact t3_5
     rotate_left
     ·exact t3_1
     refine take_ (i := 1) (N := some 20) (v := ?_) (a' := ?_) (bz 24 3) rfl rfl (take_ofW HT_.out HW_.out (by kernel_rfl)) (fun _ _ _ h => h) (Or.inl ⟨by rfl, ?_⟩) hHeld ?_ ?_
     rotate_left
     ·exact t3_5
     rotate_left
     ·exact t3_1
     refine one_ (i := 2) (N := some 21) (bz 24 7) rfl rfl (one_of HT_.out (by kernel_rfl)) (by decide) (fun K hK => ?_)
     refine goes_ Try.func68 (by kernel_rfl) rfl #[.agg #[.int .i64 t138, .int .i64 t139], .agg #[.int .i64 t140, .int .i64 t141]] (by rfl) rfl rfl s3_5 ?_
     with_reducible refine (spec_l8Dot.calls t138 t139 t140 t141 t144 _ A20.out).mono ?_
     rintro e w7 ⟨rfl, hb⟩
     refine ⟨_, rfl, ?_⟩
     have n0_ := Aside0.mk (bb (zk BK134.out) hb)
     have n1_ := Aside0.mk (bb (zk BK135.out) hb)
     have n2_ := Aside0.mk (bb (zk BK142.out) hb)
     have n3_ := Aside0.mk (bb (zk BK143.out) hb)
     have n4_ := Aside0.mk (below_step s3_3 hb)
     clear BK134 BK135 BK142 BK143 HB
     have BK134 := n0_
     have BK135 := n1_
     have BK142 := n2_
     have BK143 := n3_
     have HB := n4_
     clear n0_ n1_ n2_ n3_ n4_
     (try clear hb)
     (try clear hb2)
     (try clear hk)
     (try clear hi)
     refine hK.out _ _ ⟨bc BK142.out 0, bc BK142.out 1, bc BK143.out 0, bc BK143.out 1⟩ (fun hHeld => ?_)
     clear hK K
     refine norm_ (a' := ?_) ?_ ?_
     rotate_left
     ·show Act.put _ (some 21) _ = _
      simp only [Act.put, y1, y2, y3, i64_w, i32_w]
      rfl
     refine pure_ (i := 3) (N := some 22) (v := ?_) (a' := ?_) (bz 24 15) rfl rfl (any_of HT_.out (by kernel_rfl)) (fun _ _ _ h => h) (Or.inl ⟨by rfl, ?_⟩) ?_ ?_
     rotate_left
     ·exact t3_3
     rotate_left
     ·exact t3_1
     refine pure_ (i := 4) (N := some 23) (v := ?_) (a' := ?_) (bz 24 31) rfl rfl (any_of HT_.out (by kernel_rfl)) (fun _ _ _ h => h) (Or.inl ⟨by rfl, ?_⟩) ?_ ?_
     rotate_left
     ·exact t3_3
     rotate_left
     ·exact t3_1
     refine pure_ (i := 5) (N := some 24) (v := undef) (a' := ?_) (bz 24 63) rfl rfl (any_of HT_.out (by kernel_rfl)) (fun _ _ _ h => h) (Or.inr ⟨by rfl, rfl⟩) ?_ ?_
     rotate_left
     ·exact t3_1
     refine pure_ (i := 6) (N := some 25) (v := undef) (a' := ?_) (bz 24 127) rfl rfl (any_of HT_.out (by kernel_rfl)) (fun _ _ _ h => h) (Or.inr ⟨by rfl, rfl⟩) ?_ ?_
     rotate_left
     ·exact t3_1
     refine pure_ (i := 7) (N := some 26) (v := undef) (a' := ?_) (bz 24 255) rfl rfl (any_of HT_.out (by kernel_rfl)) (fun _ _ _ h => h) (Or.inr ⟨by rfl, rfl⟩) ?_ ?_
     rotate_left
     ·exact t3_1
     refine pure_ (i := 8) (N := some 27) (v := undef) (a' := ?_) (bz 24 511) rfl rfl (any_of HT_.out (by kernel_rfl)) (fun _ _ _ h => h) (Or.inr ⟨by rfl, rfl⟩) ?_ ?_
     rotate_left
     ·exact t3_1
     refine pure_ (i := 9) (N := some 28) (v := undef) (a' := ?_) (bz 24 1023) rfl rfl (any_of HT_.out (by kernel_rfl)) (fun _ _ _ h => h) (Or.inr ⟨by rfl, rfl⟩) ?_ ?_
     rotate_left
     ·exact t3_1
     refine pure_ (i := 10) (N := some 29) (v := undef) (a' := ?_) (bz 24 2047) rfl rfl (any_of HT_.out (by kernel_rfl)) (fun _ _ _ h => h) (Or.inr ⟨by rfl, rfl⟩) ?_ ?_
     rotate_left
     ·exact t3_1
     refine pure_ (i := 11) (N := some 30) (v := undef) (a' := ?_) (bz 24 4095) rfl rfl (any_of HT_.out (by kernel_rfl)) (fun _ _ _ h => h) (Or.inr ⟨by rfl, rfl⟩) ?_ ?_
     rotate_left
     ·exact t3_1
     refine pure_ (i := 12) (N := some 31) (v := ?_) (a' := ?_) (bz 24 8191) rfl rfl (any_of HT_.out (by kernel_rfl)) (fun _ _ _ h => h) (Or.inl ⟨by rfl, ?_⟩) ?_ ?_
     rotate_left
     ·exact t3_3
     rotate_left
     ·exact t3_1
     refine pure_ (i := 13) (N := some 32) (v := ?_) (a' := ?_) (bz 24 16383) rfl rfl (any_of HT_.out (by kernel_rfl)) (fun _ _ _ h => h) (Or.inl ⟨by rfl, ?_⟩) ?_ ?_
     rotate_left
     ·exact t3_3
     rotate_left
     ·exact t3_1
     refine pure_ (i := 14) (N := some 33) (v := undef) (a' := ?_) (bz 24 32767) rfl rfl (any_of HT_.out (by kernel_rfl)) (fun _ _ _ h => h) (Or.inr ⟨by rfl, rfl⟩) ?_ ?_
     rotate_left
     ·exact t3_1
     refine pure_ (i := 15) (N := some 34) (v := undef) (a' := ?_) (bz 24 65535) rfl rfl (any_of HT_.out (by kernel_rfl)) (fun _ _ _ h => h) (Or.inr ⟨by rfl, rfl⟩) ?_ ?_
     rotate_left
     ·exact t3_1
     refine pure_ (i := 16) (N := some 35) (v := undef) (a' := ?_) (bz 24 131071) rfl rfl (any_of HT_.out (by kernel_rfl)) (fun _ _ _ h => h) (Or.inr ⟨by rfl, rfl⟩) ?_ ?_
     rotate_left
     ·exact t3_1
     refine pure_ (i := 17) (N := some 36) (v := ?_) (a' := ?_) (bz 24 262143) rfl rfl (any_of HT_.out (by kernel_rfl)) (fun _ _ _ h => h) (Or.inl ⟨by rfl, ?_⟩) ?_ ?_
     rotate_left
     ·exact t3_3
     rotate_left
     ·exact t3_1
     refine pure_ (i := 18) (N := some 37) (v := ?_) (a' := ?_) (bz 24 524287) rfl rfl (any_of HT_.out (by kernel_rfl)) (fun _ _ _ h => h) (Or.inl ⟨by rfl, ?_⟩) ?_ ?_
     rotate_left
     ·exact t3_3
     rotate_left
     ·exact t3_1
     refine pure_ (i := 19) (N := some 38) (v := undef) (a' := ?_) (bz 24 1048575) rfl rfl (any_of HT_.out (by kernel_rfl)) (fun _ _ _ h => h) (Or.inr ⟨by rfl, rfl⟩) ?_ ?_
     rotate_left
     ·exact t3_1
     refine pure_ (i := 20) (N := some 39) (v := undef) (a' := ?_) (bz 24 2097151) rfl rfl (any_of HT_.out (by kernel_rfl)) (fun _ _ _ h => h) (Or.inr ⟨by rfl, rfl⟩) ?_ ?_
     rotate_left
     ·exact t3_1
     refine pure_ (i := 21) (N := some 40) (v := undef) (a' := ?_) (bz 24 4194303) rfl rfl (any_of HT_.out (by kernel_rfl)) (fun _ _ _ h => h) (Or.inr ⟨by rfl, rfl⟩) ?_ ?_
     rotate_left
     ·exact t3_1
     refine pure_ (i := 22) (N := some 41) (v := ?_) (a' := ?_) (bz 24 8388607) rfl rfl (any_of HT_.out (by kernel_rfl)) (fun _ _ _ h => h) (Or.inl ⟨by rfl, ?_⟩) ?_ ?_
     rotate_left
     ·exact t3_3
     rotate_left
     ·exact t3_1
     refine pure_ (i := 23) (N := some 4) (v := ?_) (a' := ?_) (bz 24 16777215) rfl rfl (any_of HT_.out (by kernel_rfl)) (fun _ _ _ h => h) (Or.inl ⟨by rfl, ?_⟩) ?_ ?_
     rotate_left
     ·exact t3_3
     rotate_left
     ·exact t3_1
     refine done_ (done_of HT_.out (by kernel_rfl)) ?_
     try go_wp2
     go_ret
     exact ⟨by first | rfl | (simp [errW_none, errW_some] <;> rfl) | (simp [*, errW_none, errW_some] <;> rfl), by repeat (first | (with_reducible first | exact HB.out | apply below_alloc | apply pw_below_drewN | apply below_drew1 | refine below_set ?_ GE134.out | refine below_set ?_ GE135.out | refine below_set ?_ GE142.out | refine below_set ?_ GE143.out) | exact HB.out)⟩

end Go.Proofs.Ytfbokdbaondjdaa.PFnExactHeadOn
