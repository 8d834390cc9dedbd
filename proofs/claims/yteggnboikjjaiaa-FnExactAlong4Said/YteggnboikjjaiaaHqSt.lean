/- The plain part for Strips2: both loops lay the same list. -/
import Derived.Test.YteggnboikjjaiaaHq
import Derived.Test.YteggnboikjjaiaaPH2x26
import Derived.Test.YteggnboikjjaiaaPH2x29
namespace Go.Proofs.Yteggnboikjjaiaa.Hq
open Go.RowKit Go.Proofs.Yteggnboikjjaiaa.PH2 Go.Proofs.YteggnboikjjaiaaW.PrintWords Go.Proofs.Yteggnboikjjaiaa.Hp Go.Proofs.Yteggnboikjjaiaa.Cf Go.Proofs.Yteggnboikjjaiaa.Pl
set_option linter.unusedVariables false
set_option linter.unusedSimpArgs false
def quad (l : List (List Int)) (i k : Nat) : Int := cellAt l k i + cellAt l k (i + 1) + cellAt l (k + 1) i + cellAt l (k + 1) (i + 1)
def sumQ (l : List (List Int)) (i : Nat) : Nat → Int
  | 0 => 0
  | k + 1 => sumQ l i k + quad l i k
def stripsL (s r : Int) (l : List (List Int)) (w : Nat) : List Int := (List.range (l.length - 1)).map fun i => r * s * sumQ l i w
theorem mul_bd {a b A B : Int} (ha : 0 ≤ a ∧ a ≤ A) (hb : 0 ≤ b ∧ b ≤ B) : 0 ≤ a * b ∧ a * b ≤ A * B :=
  ⟨Int.mul_nonneg ha.1 hb.1, Int.mul_le_mul ha.2 hb.2 hb.1 (by omega)⟩
theorem quad_bd {s r : Int} {l : List (List Int)} (h : okHull s r l = true) (i k : Nat) (hi : i + 1 < l.length) (hk : k + 1 < (l.headD []).length) : 0 ≤ quad l i k ∧ quad l i k ≤ 200 := by
  have h1 := cell_bd h k i (by omega) (by omega)
  have h2 := cell_bd h k (i + 1) (by omega) (by omega)
  have h3 := cell_bd h (k + 1) i (by omega) (by omega)
  have h4 := cell_bd h (k + 1) (i + 1) (by omega) (by omega)
  unfold quad
  omega
theorem sumQ_bd {s r : Int} {l : List (List Int)} (h : okHull s r l = true) (i : Nat) (hi : i + 1 < l.length) : ∀ k : Nat, k < (l.headD []).length → 0 ≤ sumQ l i k ∧ sumQ l i k ≤ 200 * k := by
  intro k
  induction k with
  | zero => intro _; simp [sumQ]
  | succ k ih =>
    intro hk
    have h1 := ih (by omega)
    have h2 := quad_bd h i k hi hk
    simp only [sumQ]
    omega
theorem rs_bd {s r : Int} {l : List (List Int)} (h : okHull s r l = true) : 0 ≤ r * s ∧ r * s ≤ 2000 := by
  have hL := okHull_len h
  have := mul_bd (a := r) (b := s) (A := 20) (B := 100) (by omega) (by omega)
  omega

/-! ### The reference -/
theorem spec_inner {s r : Int} {l : List (List Int)} (ho : okHull s r l = true) (M i : Nat) (hM : M < (l.headD []).length) (hi : i + 1 < l.length) (X R : List Int) (hX : X.length = i)
    (hR : Ev (fun k => spec_Strips2.l0 k M (X ++ [r * s * sumQ l i M]) ((i + 1 : Nat) : Int) s r l) R) (e : Nat) : ∀ j : Nat, j + e = M → Ev (fun k => spec_Strips2.l1 k M X i (sumQ l i j) j s r l) R := by
  have hL := okHull_len ho
  have hrow : ∀ k : Nat, k < l.length → ((rd_L1 l (k : Int)).length : Int) = ((l.headD []).length : Int) := fun k hk => by rw [rdL_getD, hL.2.2.1 k hk]
  have hp := rs_bd ho
  induction e with
  | zero =>
    intro j hj
    have hq := sumQ_bd ho i hi M hM
    have hm := mul_bd hp (b := sumQ l i M) (B := 2000) (by omega)
    refine Ev.step (fun k => ?_) hR
    obtain rfl : j = M := by omega
    simp only [spec_Strips2.l1]
    rw [if_neg (by omega), if_pos (by omega), wk (n := l.length) (by omega) (by omega), w64 (r * s) (by omega) (by omega), w64 _ (by omega) (by omega)]
  | succ e ih =>
    intro j hj
    have hq := sumQ_bd ho i hi j (by omega)
    have h1 := cell_bd ho j i (by omega) (by omega)
    have h2 := cell_bd ho j (i + 1) (by omega) (by omega)
    have h3 := cell_bd ho (j + 1) i (by omega) (by omega)
    have h4 := cell_bd ho (j + 1) (i + 1) (by omega) (by omega)
    refine Ev.step (f := fun k => spec_Strips2.l1 k M X i (sumQ l i (j + 1)) ((j + 1 : Nat) : Int) s r l) (fun k => ?_) (ih (j + 1) (by omega))
    simp only [spec_Strips2.l1]
    rw [if_pos (by omega), if_pos (by omega), if_pos (by omega), if_pos (by omega), hrow i (by omega), if_pos (by omega), wk (n := l.length) (by omega) (by omega), if_pos (by omega), if_pos (by omega), hrow (i + 1) (by omega), if_pos (by omega),
      wk (i := j) (n := 12) (by omega) (by omega), if_pos (by omega), if_pos (by omega), if_pos (by omega)]
    rw [rd_cell, rd_cell, rd_cell, rd_cell]
    rw [w64 (sumQ l i j + cellAt l j i) (by omega) (by omega), w64 (sumQ l i j + cellAt l j i + cellAt l j (i + 1)) (by omega) (by omega), w64 (sumQ l i j + cellAt l j i + cellAt l j (i + 1) + cellAt l (j + 1) i) (by omega) (by omega), w64 _ (by omega) (by omega)]
    have e1 : sumQ l i (j + 1) = sumQ l i j + cellAt l j i + cellAt l j (i + 1) + cellAt l (j + 1) i + cellAt l (j + 1) (i + 1) := by simp only [sumQ, quad]; omega
    rw [e1]
theorem spec_outer {s r : Int} {l : List (List Int)} (ho : okHull s r l = true) (M : Nat) (hM : M < (l.headD []).length) (d : Nat) : ∀ i : Nat, i + 1 + d = l.length →
    Ev (fun k => spec_Strips2.l0 k M ((List.range i).map fun i => r * s * sumQ l i M) i s r l) (stripsL s r l M) := by
  have hL := okHull_len ho
  induction d with
  | zero =>
    intro i hd
    refine Ev.ret fun k => ?_
    simp only [spec_Strips2.l0]
    rw [wk (n := l.length) (by omega) (by omega), if_neg (by omega)]
    have : i = l.length - 1 := by omega
    rw [this]
    rfl
  | succ d ih =>
    intro i hd
    refine Ev.step (f := fun k => spec_Strips2.l1 k M ((List.range i).map fun i => r * s * sumQ l i M) i (sumQ l i 0) ((0 : Nat) : Int) s r l) (fun k => ?_) (spec_inner ho M i hM (by omega) _ _ (by simp) ?_ M 0 (by omega))
    · simp only [spec_Strips2.l0]
      rw [wk (n := l.length) (by omega) (by omega), if_pos (by omega)]
      rfl
    · have := ih (i + 1) (by omega)
      rw [List.range_succ, List.map_append] at this
      exact this
def strips2F (s r : Int) (l : List (List Int)) (m : Int) : List Int := if okWater s r l m = true then stripsL s r l m.toNat else []
theorem strips2_spec (s r m : Int) (l : List (List Int)) : Ev (fun k => spec_Strips2.f k s r l m) (strips2F s r l m) := by
  unfold spec_Strips2.f strips2F
  rw [swater]
  simp only [Option.bind_some]
  cases hw : okWater s r l m
  · exact Ev.const fun _ => by simp
  · obtain ⟨M, rfl, hM, ho⟩ := okWater_facts hw
    have hL := okHull_len ho
    simp only [if_true, Int.toNat_natCast]
    exact spec_outer ho M hM (l.length - 1) 0 (by omega)

/-! ### The program -/
def stI (s r : Int) (l : List (List Int)) (M i j : Nat) : List Int := ((List.range i).map fun i => r * s * sumQ l i M) ++ (r * s * sumQ l i j) :: List.replicate (l.length - 2 - i) 0
theorem rd_mid (A : List Int) (x : Int) (B : List Int) (i : Nat) (h : A.length = i) : rd (A ++ x :: B) (i : Int) = x := by subst h; simp [rd]
theorem set_mid (A : List Int) (x y : Int) (B : List Int) (i : Nat) (h : A.length = i) : (A ++ x :: B).set i y = A ++ y :: B := by subst h; simp
theorem impl_inner {s r : Int} {l : List (List Int)} (ho : okHull s r l = true) (M i : Nat) (N : Int) (hM : M < (l.headD []).length) (hi : i + 1 < l.length) (R : List Int)
    (hR : Ev (fun k => impl_Strips2.l0 k M (stI s r l M i M) N ((i + 1 : Nat) : Int) s r l) R) (e : Nat) : ∀ j : Nat, j + e = M → Ev (fun k => impl_Strips2.l1 k M (stI s r l M i j) i N i M j s r l) R := by
  have hL := okHull_len ho
  have hrow : ∀ k : Nat, k < l.length → ((rd_L1 l (k : Int)).length : Int) = ((l.headD []).length : Int) := fun k hk => by rw [rdL_getD, hL.2.2.1 k hk]
  have hp := rs_bd ho
  have hlen : ∀ j, (stI s r l M i j).length = l.length - 1 := fun j => by unfold stI; simp; omega
  induction e with
  | zero =>
    intro j hj
    refine Ev.step (fun k => ?_) hR
    obtain rfl : j = M := by omega
    simp only [impl_Strips2.l1]
    rw [if_neg (by omega), wk (n := l.length) (by omega) (by omega)]
  | succ e ih =>
    intro j hj
    have hq := sumQ_bd ho i hi j (by omega)
    have h1 := cell_bd ho j i (by omega) (by omega)
    have h2 := cell_bd ho j (i + 1) (by omega) (by omega)
    have h3 := cell_bd ho (j + 1) i (by omega) (by omega)
    have h4 := cell_bd ho (j + 1) (i + 1) (by omega) (by omega)
    have hq2 := quad_bd ho i j hi (by omega)
    have hm1 := mul_bd hp (b := sumQ l i j) (B := 2000) (by omega)
    have hm2 := mul_bd hp (b := quad l i j) (B := 200) (by omega)
    refine Ev.step (f := fun k => impl_Strips2.l1 k M (stI s r l M i (j + 1)) i N i M ((j + 1 : Nat) : Int) s r l) (fun k => ?_) (ih (j + 1) (by omega))
    simp only [impl_Strips2.l1]
    rw [if_pos (by omega), if_pos (by omega), if_pos (by have := hlen j; omega), if_pos (by omega), if_pos (by omega), hrow i (by omega), if_pos (by omega), wk (n := l.length) (by omega) (by omega), if_pos (by omega), if_pos (by omega), hrow (i + 1) (by omega), if_pos (by omega),
      wk (i := j) (n := 12) (by omega) (by omega), if_pos (by omega), if_pos (by omega), if_pos (by omega)]
    rw [rd_cell, rd_cell, rd_cell, rd_cell]
    rw [w64 (cellAt l j i + cellAt l j (i + 1)) (by omega) (by omega), w64 (cellAt l j i + cellAt l j (i + 1) + cellAt l (j + 1) i) (by omega) (by omega), w64 (cellAt l j i + cellAt l j (i + 1) + cellAt l (j + 1) i + cellAt l (j + 1) (i + 1)) (by omega) (by omega)]
    have e1 : cellAt l j i + cellAt l j (i + 1) + cellAt l (j + 1) i + cellAt l (j + 1) (i + 1) = quad l i j := rfl
    rw [e1, w64 (r * s) (by omega) (by omega), w64 (r * s * quad l i j) (by omega) (by omega), Int.toNat_natCast]
    have e2 : rd (stI s r l M i j) (i : Int) = r * s * sumQ l i j := rd_mid _ _ _ _ (by simp)
    rw [e2, w64 _ (by omega) (by omega)]
    have e3 : (stI s r l M i j).set i (r * s * sumQ l i j + r * s * quad l i j) = stI s r l M i (j + 1) := by
      unfold stI
      rw [set_mid _ _ _ _ _ (by simp)]
      simp only [sumQ, Int.mul_add]
    rw [e3]
theorem impl_outer {s r : Int} {l : List (List Int)} (ho : okHull s r l = true) (M : Nat) (hM : M < (l.headD []).length) (d : Nat) : ∀ i : Nat, i + 1 + d = l.length →
    Ev (fun k => impl_Strips2.l0 k M (((List.range i).map fun i => r * s * sumQ l i M) ++ List.replicate (l.length - 1 - i) 0) ((l.length - 1 : Nat) : Int) i s r l) (stripsL s r l M) := by
  have hL := okHull_len ho
  induction d with
  | zero =>
    intro i hd
    refine Ev.ret fun k => ?_
    simp only [impl_Strips2.l0]
    rw [if_neg (by omega)]
    have : i = l.length - 1 := by omega
    rw [this, Nat.sub_self]
    simp [stripsL]
  | succ d ih =>
    intro i hd
    have e1 : ((List.range i).map fun i => r * s * sumQ l i M) ++ List.replicate (l.length - 1 - i) 0 = stI s r l M i 0 := by
      unfold stI
      have : l.length - 1 - i = (l.length - 2 - i) + 1 := by omega
      rw [this, List.replicate_succ]
      simp [sumQ]
    have e2 : stI s r l M i M = ((List.range (i + 1)).map fun i => r * s * sumQ l i M) ++ List.replicate (l.length - 1 - (i + 1)) 0 := by
      unfold stI
      have : l.length - 1 - (i + 1) = l.length - 2 - i := by omega
      rw [this, List.range_succ, List.map_append]
      simp
    rw [e1]
    refine Ev.step (f := fun k => impl_Strips2.l1 k M (stI s r l M i 0) i ((l.length - 1 : Nat) : Int) i M ((0 : Nat) : Int) s r l) (fun k => ?_) (impl_inner ho M i _ hM (by omega) _ ?_ M 0 (by omega))
    · simp only [impl_Strips2.l0]
      rw [if_pos (by omega)]
      rfl
    · rw [e2]
      exact ih (i + 1) (by omega)
theorem strips2_impl (s r m : Int) (l : List (List Int)) : Ev (fun k => impl_Strips2.f k s r l m) (strips2F s r l m) := by
  unfold impl_Strips2.f strips2F impl_waterOk.f
  simp only [Option.bind_some]
  cases hw : okWater s r l m
  · exact Ev.const fun _ => by simp
  · obtain ⟨M, rfl, hM, ho⟩ := okWater_facts hw
    have hL := okHull_len ho
    simp only [if_true, Int.toNat_natCast]
    have e1 : wrap64 ((l.length : Int) - 1) = ((l.length - 1 : Nat) : Int) := by rw [w64 _ (by omega) (by omega)]; omega
    refine Ev.congr (fun k => ?_) (impl_outer ho M hM (l.length - 1) 0 (by omega))
    rw [e1, Int.toNat_natCast, if_pos (by omega), if_pos (by omega)]
    simp
end Go.Proofs.Yteggnboikjjaiaa.Hq
