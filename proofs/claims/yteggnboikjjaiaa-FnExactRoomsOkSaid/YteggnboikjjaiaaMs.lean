/- MassesOk and tanksOk of the program, in closed form. -/
import Derived.Test.YteggnboikjjaiaaCq
namespace Go.Proofs.Yteggnboikjjaiaa.Cf
open Go Go.RowKit Go.Lib Go.Proofs.YteggnboikjjaiaaW.PrintWords
set_option linter.unusedVariables false
set_option linter.unusedSimpArgs false

def ok_MassesOk (a0 a1 a2 : Int) : Bool := (decide (0 ≤ a0) && decide (a0 ≤ 10000)) && (decide ((-1200) ≤ a1) && decide (a1 ≤ 2400)) && (decide (0 ≤ a2) && decide (a2 ≤ 1000))
theorem MassesOk_clo (a0 a1 a2 : Int) (W : World) : Calls Try.prog 60 #[.agg #[.int .i64 a0, .int .i64 a1, .int .i64 a2]] W fun e w' => e = .returned (.bool (!(ok_MassesOk a0 a1 a2))) ∧ Below W.heap.size W w' := by
  unfold ok_MassesOk
  have h0 : ∀ W : World, Calls Try.prog 61 #[.int .i64 a0, .int .i64 0, .int .i64 10000] W fun e w' => e = .returned (.bool (decide (0 ≤ a0) && decide (a0 ≤ 10000))) ∧ w' = W := fun W => in_any a0 0 10000 W
  generalize (decide (0 ≤ a0) && decide (a0 ≤ 10000)) = b0 at h0 ⊢
  have h1 : ∀ W : World, Calls Try.prog 61 #[.int .i64 a1, .int .i64 (-1200), .int .i64 2400] W fun e w' => e = .returned (.bool (decide ((-1200) ≤ a1) && decide (a1 ≤ 2400))) ∧ w' = W := fun W => in_any a1 (-1200) 2400 W
  generalize (decide ((-1200) ≤ a1) && decide (a1 ≤ 2400)) = b1 at h1 ⊢
  have h2 : ∀ W : World, Calls Try.prog 61 #[.int .i64 a2, .int .i64 0, .int .i64 1000] W fun e w' => e = .returned (.bool (decide (0 ≤ a2) && decide (a2 ≤ 1000))) ∧ w' = W := fun W => in_any a2 0 1000 W
  generalize (decide (0 ≤ a2) && decide (a2 ≤ 1000)) = b2 at h2 ⊢
  cases b0
  · go_enter Try.func60, Try.ntmps60
    go_wp2_with fail
    refine (h0 _).mono ?_
    rintro e w1 ⟨rfl, rfl⟩
    go_wp2
    go_ret
    exact ⟨rfl, (Below.refl _ _).alloc (Nat.le_refl _) _⟩
  ·
    cases b1
    · go_enter Try.func60, Try.ntmps60
      go_wp2_with fail
      refine (h0 _).mono ?_
      rintro e w1 ⟨rfl, rfl⟩
      go_wp2_with fail
      refine (h1 _).mono ?_
      rintro e w1 ⟨rfl, rfl⟩
      go_wp2
      go_ret
      exact ⟨rfl, (Below.refl _ _).alloc (Nat.le_refl _) _⟩
    ·
      cases b2
      · go_enter Try.func60, Try.ntmps60
        go_wp2_with fail
        refine (h0 _).mono ?_
        rintro e w1 ⟨rfl, rfl⟩
        go_wp2_with fail
        refine (h1 _).mono ?_
        rintro e w1 ⟨rfl, rfl⟩
        go_wp2_with fail
        refine (h2 _).mono ?_
        rintro e w1 ⟨rfl, rfl⟩
        go_wp2
        go_ret
        exact ⟨rfl, (Below.refl _ _).alloc (Nat.le_refl _) _⟩
      ·
        go_enter Try.func60, Try.ntmps60
        go_wp2_with fail
        refine (h0 _).mono ?_
        rintro e w1 ⟨rfl, rfl⟩
        go_wp2_with fail
        refine (h1 _).mono ?_
        rintro e w1 ⟨rfl, rfl⟩
        go_wp2_with fail
        refine (h2 _).mono ?_
        rintro e w1 ⟨rfl, rfl⟩
        go_wp2
        go_ret
        exact ⟨rfl, (Below.refl _ _).alloc (Nat.le_refl _) _⟩

theorem any_not_MassesOk {α : Type} (l : List α) (q : α → Bool) : (!(l.any fun x => !(q x))) = l.all q := by
  induction l with
  | nil => rfl
  | cons a l ih =>
    simp only [List.any_cons, List.all_cons, Bool.not_or, Bool.not_not]
    rw [ih]
theorem MassesOk_any {α : Type} [Inhabited α] (f0 : α → Int) (f1 : α → Int) (f2 : α → Int) (A : Option Addr) (c : Nat) (zs : List α) (w : World) (hbig : zs.length ≤ 9223372036854775807)
    (hr : ∀ j, j < zs.length → ∃ ad, A = some ad ∧ ∀ i v, ((fun x : α => [.int .i64 (f0 x), .int .i64 (f1 x), .int .i64 (f2 x)]) zs[j]!)[i]? = some v → w.cell? (ad.add (j * 3 + i)) = some v) :
    Calls Try.prog 18 #[.slice A zs.length c] w fun e w' => e = .returned (.bool (decide ((zs.length : Int) ≤ 40) && zs.all fun x => ok_MassesOk (f0 x) (f1 x) (f2 x))) ∧ Below w.heap.size w w' := by
  have hK : ∀ w, (Go.sizeOf 68).run Try.prog w = .ok 3 w := fun _ => by kernel_rfl
  have eg : ∀ args w, (callFunc 60 args).run Try.prog w = .ok (.enter 60 args) w := enters_of Try.func60 (by kernel_rfl) rfl
  have hp : ∀ w : World, Answers 60 #[] (fun x : α => .agg ([.int .i64 (f0 x), .int .i64 (f1 x), .int .i64 (f2 x)] : List Value).toArray) (fun x => !(ok_MassesOk (f0 x) (f1 x) (f2 x))) w := fun w W x hb => MassesOk_clo (f0 x) (f1 x) (f2 x) W
  have hcall := containsFunc_Mass 3 hK (fun x : α => [.int .i64 (f0 x), .int .i64 (f1 x), .int .i64 (f2 x)]) (fun _ => rfl) (fun x => !(ok_MassesOk (f0 x) (f1 x) (f2 x))) 60 #[] eg A c zs w (hp w) hbig hr
  rw [← any_not_MassesOk]
  generalize (zs.any fun x => !(ok_MassesOk (f0 x) (f1 x) (f2 x))) = r at hcall ⊢
  clear hr hp eg hK
  by_cases hl : (zs.length : Int) ≤ 40
  · have hd : decide ((zs.length : Int) ≤ 40) = true := decide_eq_true hl
    have hd2 : decide (zs.length ≤ 40) = true := decide_eq_true (by omega)
    clear hl
    rw [hd]
    go_enter Try.func18, Try.ntmps18
    go_wp2_with fail
    refine hcall.mono ?_
    rintro e w1 ⟨rfl, hb⟩
    go_wp2
    go_ret
    exact ⟨by simp, hb⟩
  · have hd : decide ((zs.length : Int) ≤ 40) = false := decide_eq_false hl
    have hd2 : decide (zs.length ≤ 40) = false := decide_eq_false (by omega)
    clear hl hcall
    rw [hd]
    go_enter Try.func18, Try.ntmps18
    go_wp2
    go_ret
    exact ⟨by simp, Below.refl _ _⟩

def ok_tanksOk (a0 a1 : Int) : Bool := (decide (0 ≤ a0) && decide (a0 ≤ 100)) && (decide (0 ≤ a1) && decide (a1 ≤ 50))
theorem tanksOk_clo (a0 a1 : Int) (W : World) : Calls Try.prog 90 #[.agg #[.int .i64 a0, .int .i64 a1]] W fun e w' => e = .returned (.bool (!(ok_tanksOk a0 a1))) ∧ Below W.heap.size W w' := by
  unfold ok_tanksOk
  have h0 : ∀ W : World, Calls Try.prog 61 #[.int .i64 a0, .int .i64 0, .int .i64 100] W fun e w' => e = .returned (.bool (decide (0 ≤ a0) && decide (a0 ≤ 100))) ∧ w' = W := fun W => in_any a0 0 100 W
  generalize (decide (0 ≤ a0) && decide (a0 ≤ 100)) = b0 at h0 ⊢
  have h1 : ∀ W : World, Calls Try.prog 61 #[.int .i64 a1, .int .i64 0, .int .i64 50] W fun e w' => e = .returned (.bool (decide (0 ≤ a1) && decide (a1 ≤ 50))) ∧ w' = W := fun W => in_any a1 0 50 W
  generalize (decide (0 ≤ a1) && decide (a1 ≤ 50)) = b1 at h1 ⊢
  cases b0
  · go_enter Try.func90, Try.ntmps90
    go_wp2_with fail
    refine (h0 _).mono ?_
    rintro e w1 ⟨rfl, rfl⟩
    go_wp2
    go_ret
    exact ⟨rfl, (Below.refl _ _).alloc (Nat.le_refl _) _⟩
  ·
    cases b1
    · go_enter Try.func90, Try.ntmps90
      go_wp2_with fail
      refine (h0 _).mono ?_
      rintro e w1 ⟨rfl, rfl⟩
      go_wp2_with fail
      refine (h1 _).mono ?_
      rintro e w1 ⟨rfl, rfl⟩
      go_wp2
      go_ret
      exact ⟨rfl, (Below.refl _ _).alloc (Nat.le_refl _) _⟩
    ·
      go_enter Try.func90, Try.ntmps90
      go_wp2_with fail
      refine (h0 _).mono ?_
      rintro e w1 ⟨rfl, rfl⟩
      go_wp2_with fail
      refine (h1 _).mono ?_
      rintro e w1 ⟨rfl, rfl⟩
      go_wp2
      go_ret
      exact ⟨rfl, (Below.refl _ _).alloc (Nat.le_refl _) _⟩

theorem any_not_tanksOk {α : Type} (l : List α) (q : α → Bool) : (!(l.any fun x => !(q x))) = l.all q := by
  induction l with
  | nil => rfl
  | cons a l ih =>
    simp only [List.any_cons, List.all_cons, Bool.not_or, Bool.not_not]
    rw [ih]
theorem tanksOk_any {α : Type} [Inhabited α] (f0 : α → Int) (f1 : α → Int) (A : Option Addr) (c : Nat) (zs : List α) (w : World) (hbig : zs.length ≤ 9223372036854775807)
    (hr : ∀ j, j < zs.length → ∃ ad, A = some ad ∧ ∀ i v, ((fun x : α => [.int .i64 (f0 x), .int .i64 (f1 x)]) zs[j]!)[i]? = some v → w.cell? (ad.add (j * 2 + i)) = some v) :
    Calls Try.prog 80 #[.slice A zs.length c] w fun e w' => e = .returned (.bool (decide ((zs.length : Int) ≤ 10) && zs.all fun x => ok_tanksOk (f0 x) (f1 x))) ∧ Below w.heap.size w w' := by
  have hK : ∀ w, (Go.sizeOf 91).run Try.prog w = .ok 2 w := fun _ => by kernel_rfl
  have eg : ∀ args w, (callFunc 90 args).run Try.prog w = .ok (.enter 90 args) w := enters_of Try.func90 (by kernel_rfl) rfl
  have hp : ∀ w : World, Answers 90 #[] (fun x : α => .agg ([.int .i64 (f0 x), .int .i64 (f1 x)] : List Value).toArray) (fun x => !(ok_tanksOk (f0 x) (f1 x))) w := fun w W x hb => tanksOk_clo (f0 x) (f1 x) W
  have hcall := containsFunc_Tank 2 hK (fun x : α => [.int .i64 (f0 x), .int .i64 (f1 x)]) (fun _ => rfl) (fun x => !(ok_tanksOk (f0 x) (f1 x))) 90 #[] eg A c zs w (hp w) hbig hr
  rw [← any_not_tanksOk]
  generalize (zs.any fun x => !(ok_tanksOk (f0 x) (f1 x))) = r at hcall ⊢
  clear hr hp eg hK
  by_cases hl : (zs.length : Int) ≤ 10
  · have hd : decide ((zs.length : Int) ≤ 10) = true := decide_eq_true hl
    have hd2 : decide (zs.length ≤ 10) = true := decide_eq_true (by omega)
    clear hl
    rw [hd]
    go_enter Try.func80, Try.ntmps80
    go_wp2_with fail
    refine hcall.mono ?_
    rintro e w1 ⟨rfl, hb⟩
    go_wp2
    go_ret
    exact ⟨by simp, hb⟩
  · have hd : decide ((zs.length : Int) ≤ 10) = false := decide_eq_false hl
    have hd2 : decide (zs.length ≤ 10) = false := decide_eq_false (by omega)
    clear hl hcall
    rw [hd]
    go_enter Try.func80, Try.ntmps80
    go_wp2
    go_ret
    exact ⟨by simp, Below.refl _ _⟩
end Go.Proofs.Yteggnboikjjaiaa.Cf
