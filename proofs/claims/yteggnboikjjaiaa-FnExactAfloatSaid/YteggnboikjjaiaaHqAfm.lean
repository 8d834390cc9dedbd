/- The plain part for hulls, second print: water lines, strips, volumes, heights. -/
import Derived.Test.YteggnboikjjaiaaPH2x12
import Derived.Test.YteggnboikjjaiaaPH2x19
import Derived.Test.YteggnboikjjaiaaPH2x3
import Derived.Test.YteggnboikjjaiaaPH2x6
import Derived.Test.YteggnboikjjaiaaPH2x9
import Derived.Test.YteggnboikjjaiaaPH2x26
import Derived.Test.YteggnboikjjaiaaPH2x29
import Derived.Test.YteggnboikjjaiaaPH2x27
import Derived.Test.YteggnboikjjaiaaPH2x28
import Derived.Test.YteggnboikjjaiaaPH2x30
import Derived.Test.YteggnboikjjaiaaPH2x31
import Derived.Test.YteggnboikjjaiaaPH2x32
import Derived.Test.YteggnboikjjaiaaPH2x39
import Derived.Test.YteggnboikjjaiaaPH2x40
import Derived.Test.YteggnboikjjaiaaPH2x41
namespace Go.Proofs.Yteggnboikjjaiaa.Hq
open Go.RowKit Go.Proofs.Yteggnboikjjaiaa.PH2 Go.Proofs.YteggnboikjjaiaaW.PrintWords Go.Proofs.Yteggnboikjjaiaa.Hp Go.Proofs.Yteggnboikjjaiaa.Cf Go.Proofs.Yteggnboikjjaiaa.Pl
set_option linter.unusedVariables false
set_option linter.unusedSimpArgs false

theorem w64 (x : Int) (h0 : -9223372036854775808 ≤ x) (h1 : x < 9223372036854775808) : wrap64 x = x := by
  unfold wrap64
  omega
theorem hull_law (S I : Nat → Int → Int → List (List Int) → Option Int) (a b : Int) (l : List (List Int)) (v : Int) (hS : sizeH l ≤ 1048576 → Ev (fun k => S k a b l) v) (hI : sizeH l ≤ 1048576 → Ev (fun k => I k a b l) v) :
    Ev (fun k => (laws_szHull.f a b l 1048576).bind fun t132 => (if t132 < 0 then (some true) else ((laws_toHull.f a b l).bind fun bt133 => ((S k bt133.1 bt133.2.1 bt133.2.2).bind fun t138 => ((laws_toHull.f a b l).bind fun bt139 => ((I k bt139.1 bt139.2.1 bt139.2.2).bind fun t145 => (if t145 = t138 then ((laws_toHull.f a b l).bind fun bt146 => ((laws_eqHull.f bt139.1 bt139.2.1 bt139.2.2 bt146.1 bt146.2.1 bt146.2.2).bind fun t151 => (if t151 = true then (some true) else (some false)))) else (some false))))))) ) true := by
  by_cases hs : sizeH l ≤ 1048576
  · have e1 : laws_szHull.f a b l 1048576 = some (1048576 - (sizeH l : Int)) := by
      unfold laws_szHull.f szOf
      rw [if_pos (by omega), if_pos (by omega)]
    have e2 : laws_toHull.f a b l = some (a, b, l) := by unfold laws_toHull.f; rw [if_pos hs]
    have e3 : laws_eqHull.f a b l a b l = some true := by unfold laws_eqHull.f; rw [if_pos ⟨rfl, rfl, rfl, hs⟩]
    refine Ev.congr (f := fun k => (S k a b l).bind fun t138 => (I k a b l).bind fun t145 => if t145 = t138 then some true else some false) (fun k => ?_) (Ev.bind (hS hs) (Ev.bind (hI hs) (Ev.const fun _ => by rw [if_pos rfl])))
    rw [e1, e2]
    simp only [Option.bind_some, e3, if_true]
    rw [if_neg (by omega)]
  · refine Ev.const fun k => ?_
    have e1 : laws_szHull.f a b l 1048576 = some (-1) := by
      unfold laws_szHull.f szOf
      rw [if_pos (by omega), if_neg (by omega)]
    rw [e1]
    simp

theorem rdL_getD (l : List (List Int)) (i : Nat) : rd_L1 l (i : Int) = l.getD i [] := by simp [rd_L1]
theorem rd_cell (l : List (List Int)) (i m : Nat) : rd (rd_L1 l (i : Int)) (m : Int) = cellAt l m i := by rw [rdL_getD]; simp [rd, cellAt]
theorem swater (s r : Int) (l : List (List Int)) (m : Int) : spec_l1Water.f s r l m = some (okWater s r l m) := by
  unfold spec_l1Water.f spec_HullOk.f okWater
  cases ho : okHull s r l
  · simp
  · have hL := okHull_len ho
    have e : rd_L1 l 0 = l.headD [] := by cases l <;> simp [rd_L1]
    simp only [Option.bind_some, if_true, Bool.true_and]
    rw [if_pos (by omega), e]
    unfold spec_l1In.f
    rw [w64 _ (by omega) (by omega)]
    rfl
theorem okWater_facts {s r : Int} {l : List (List Int)} {m : Int} (h : okWater s r l m = true) : ∃ M : Nat, m = (M : Int) ∧ M < (l.headD []).length ∧ okHull s r l = true := by
  unfold okWater at h
  simp only [Bool.and_eq_true, decide_eq_true_eq] at h
  exact ⟨m.toNat, by omega, by omega, h.1⟩
theorem cell_bd {s r : Int} {l : List (List Int)} (h : okHull s r l = true) (m k : Nat) (hk : k < l.length) (hm : m < (l.headD []).length) : 0 ≤ cellAt l m k ∧ cellAt l m k ≤ 50 := by
  have hL := (okHull_len h).2.2.1 k hk
  unfold okHull at h
  simp only [Bool.and_eq_true, decide_eq_true_eq] at h
  have := List.all_eq_true.1 h.2.2.2 _ (List.getElem_mem hk)
  unfold okRow at this
  simp only [Bool.and_eq_true, decide_eq_true_eq] at this
  have hm' : m < l[k].length := by rw [List.getD_eq_getElem?_getD, List.getElem?_eq_getElem hk] at hL; simp only [Option.getD_some] at hL; omega
  have h2 := List.all_eq_true.1 this.2 _ (List.getElem_mem hm')
  simp only [Bool.and_eq_true, decide_eq_true_eq] at h2
  have e : cellAt l m k = l[k][m] := by unfold cellAt; simp [hk, hm']
  rw [e]
  exact h2
end Go.Proofs.Yteggnboikjjaiaa.Hq

/- The plain part for Strips2: both loops lay the same list. -/
namespace Go.Proofs.Yteggnboikjjaiaa.Hq
open Go.RowKit Go.Proofs.Yteggnboikjjaiaa.PH2 Go.Proofs.YteggnboikjjaiaaW.PrintWords Go.Proofs.Yteggnboikjjaiaa.Hp Go.Proofs.Yteggnboikjjaiaa.Cf Go.Proofs.Yteggnboikjjaiaa.Pl
set_option linter.unusedVariables false
set_option linter.unusedSimpArgs false
def quad (l : List (List Int)) (i k : Nat) : Int := cellAt l k i + cellAt l k (i + 1) + cellAt l (k + 1) i + cellAt l (k + 1) (i + 1)
def sumQ (l : List (List Int)) (i : Nat) : Nat → Int
  | 0 => 0
  | k + 1 => sumQ l i k + quad l i k
def stripsL (s r : Int) (l : List (List Int)) (w : Nat) : List Int := (List.range (l.length - 1)).map fun i => r * s * sumQ l i w
theorem mul_bd {a b A B : Int} (ha : 0 ≤ a ∧ a ≤ A) (hb : 0 ≤ b ∧ b ≤ B) : 0 ≤ a * b ∧ a * b ≤ A * B :=
  ⟨Int.mul_nonneg ha.1 hb.1, Int.mul_le_mul ha.2 hb.2 hb.1 (by omega)⟩
theorem quad_bd {s r : Int} {l : List (List Int)} (h : okHull s r l = true) (i k : Nat) (hi : i + 1 < l.length) (hk : k + 1 < (l.headD []).length) : 0 ≤ quad l i k ∧ quad l i k ≤ 200 := by
  have h1 := cell_bd h k i (by omega) (by omega)
  have h2 := cell_bd h k (i + 1) (by omega) (by omega)
  have h3 := cell_bd h (k + 1) i (by omega) (by omega)
  have h4 := cell_bd h (k + 1) (i + 1) (by omega) (by omega)
  unfold quad
  omega
theorem sumQ_bd {s r : Int} {l : List (List Int)} (h : okHull s r l = true) (i : Nat) (hi : i + 1 < l.length) : ∀ k : Nat, k < (l.headD []).length → 0 ≤ sumQ l i k ∧ sumQ l i k ≤ 200 * k := by
  intro k
  induction k with
  | zero => intro _; simp [sumQ]
  | succ k ih =>
    intro hk
    have h1 := ih (by omega)
    have h2 := quad_bd h i k hi hk
    simp only [sumQ]
    omega
theorem rs_bd {s r : Int} {l : List (List Int)} (h : okHull s r l = true) : 0 ≤ r * s ∧ r * s ≤ 2000 := by
  have hL := okHull_len h
  have := mul_bd (a := r) (b := s) (A := 20) (B := 100) (by omega) (by omega)
  omega

/-! ### The reference -/
theorem spec_inner {s r : Int} {l : List (List Int)} (ho : okHull s r l = true) (M i : Nat) (hM : M < (l.headD []).length) (hi : i + 1 < l.length) (X R : List Int) (hX : X.length = i)
    (hR : Ev (fun k => spec_Strips2.l0 k M (X ++ [r * s * sumQ l i M]) ((i + 1 : Nat) : Int) s r l) R) (e : Nat) : ∀ j : Nat, j + e = M → Ev (fun k => spec_Strips2.l1 k M X i (sumQ l i j) j s r l) R := by
  have hL := okHull_len ho
  have hrow : ∀ k : Nat, k < l.length → ((rd_L1 l (k : Int)).length : Int) = ((l.headD []).length : Int) := fun k hk => by rw [rdL_getD, hL.2.2.1 k hk]
  have hp := rs_bd ho
  induction e with
  | zero =>
    intro j hj
    have hq := sumQ_bd ho i hi M hM
    have hm := mul_bd hp (b := sumQ l i M) (B := 2000) (by omega)
    refine Ev.step (fun k => ?_) hR
    obtain rfl : j = M := by omega
    simp only [spec_Strips2.l1]
    rw [if_neg (by omega), if_pos (by omega), wk (n := l.length) (by omega) (by omega), w64 (r * s) (by omega) (by omega), w64 _ (by omega) (by omega)]
  | succ e ih =>
    intro j hj
    have hq := sumQ_bd ho i hi j (by omega)
    have h1 := cell_bd ho j i (by omega) (by omega)
    have h2 := cell_bd ho j (i + 1) (by omega) (by omega)
    have h3 := cell_bd ho (j + 1) i (by omega) (by omega)
    have h4 := cell_bd ho (j + 1) (i + 1) (by omega) (by omega)
    refine Ev.step (f := fun k => spec_Strips2.l1 k M X i (sumQ l i (j + 1)) ((j + 1 : Nat) : Int) s r l) (fun k => ?_) (ih (j + 1) (by omega))
    simp only [spec_Strips2.l1]
    rw [if_pos (by omega), if_pos (by omega), if_pos (by omega), if_pos (by omega), hrow i (by omega), if_pos (by omega), wk (n := l.length) (by omega) (by omega), if_pos (by omega), if_pos (by omega), hrow (i + 1) (by omega), if_pos (by omega),
      wk (i := j) (n := 12) (by omega) (by omega), if_pos (by omega), if_pos (by omega), if_pos (by omega)]
    rw [rd_cell, rd_cell, rd_cell, rd_cell]
    rw [w64 (sumQ l i j + cellAt l j i) (by omega) (by omega), w64 (sumQ l i j + cellAt l j i + cellAt l j (i + 1)) (by omega) (by omega), w64 (sumQ l i j + cellAt l j i + cellAt l j (i + 1) + cellAt l (j + 1) i) (by omega) (by omega), w64 _ (by omega) (by omega)]
    have e1 : sumQ l i (j + 1) = sumQ l i j + cellAt l j i + cellAt l j (i + 1) + cellAt l (j + 1) i + cellAt l (j + 1) (i + 1) := by simp only [sumQ, quad]; omega
    rw [e1]
theorem spec_outer {s r : Int} {l : List (List Int)} (ho : okHull s r l = true) (M : Nat) (hM : M < (l.headD []).length) (d : Nat) : ∀ i : Nat, i + 1 + d = l.length →
    Ev (fun k => spec_Strips2.l0 k M ((List.range i).map fun i => r * s * sumQ l i M) i s r l) (stripsL s r l M) := by
  have hL := okHull_len ho
  induction d with
  | zero =>
    intro i hd
    refine Ev.ret fun k => ?_
    simp only [spec_Strips2.l0]
    rw [wk (n := l.length) (by omega) (by omega), if_neg (by omega)]
    have : i = l.length - 1 := by omega
    rw [this]
    rfl
  | succ d ih =>
    intro i hd
    refine Ev.step (f := fun k => spec_Strips2.l1 k M ((List.range i).map fun i => r * s * sumQ l i M) i (sumQ l i 0) ((0 : Nat) : Int) s r l) (fun k => ?_) (spec_inner ho M i hM (by omega) _ _ (by simp) ?_ M 0 (by omega))
    · simp only [spec_Strips2.l0]
      rw [wk (n := l.length) (by omega) (by omega), if_pos (by omega)]
      rfl
    · have := ih (i + 1) (by omega)
      rw [List.range_succ, List.map_append] at this
      exact this
def strips2F (s r : Int) (l : List (List Int)) (m : Int) : List Int := if okWater s r l m = true then stripsL s r l m.toNat else []
theorem strips2_spec (s r m : Int) (l : List (List Int)) : Ev (fun k => spec_Strips2.f k s r l m) (strips2F s r l m) := by
  unfold spec_Strips2.f strips2F
  rw [swater]
  simp only [Option.bind_some]
  cases hw : okWater s r l m
  · exact Ev.const fun _ => by simp
  · obtain ⟨M, rfl, hM, ho⟩ := okWater_facts hw
    have hL := okHull_len ho
    simp only [if_true, Int.toNat_natCast]
    exact spec_outer ho M hM (l.length - 1) 0 (by omega)

/-! ### The program -/
def stI (s r : Int) (l : List (List Int)) (M i j : Nat) : List Int := ((List.range i).map fun i => r * s * sumQ l i M) ++ (r * s * sumQ l i j) :: List.replicate (l.length - 2 - i) 0
theorem rd_mid (A : List Int) (x : Int) (B : List Int) (i : Nat) (h : A.length = i) : rd (A ++ x :: B) (i : Int) = x := by subst h; simp [rd]
theorem set_mid (A : List Int) (x y : Int) (B : List Int) (i : Nat) (h : A.length = i) : (A ++ x :: B).set i y = A ++ y :: B := by subst h; simp
theorem impl_inner {s r : Int} {l : List (List Int)} (ho : okHull s r l = true) (M i : Nat) (N : Int) (hM : M < (l.headD []).length) (hi : i + 1 < l.length) (R : List Int)
    (hR : Ev (fun k => impl_Strips2.l0 k M (stI s r l M i M) N ((i + 1 : Nat) : Int) s r l) R) (e : Nat) : ∀ j : Nat, j + e = M → Ev (fun k => impl_Strips2.l1 k M (stI s r l M i j) i N i M j s r l) R := by
  have hL := okHull_len ho
  have hrow : ∀ k : Nat, k < l.length → ((rd_L1 l (k : Int)).length : Int) = ((l.headD []).length : Int) := fun k hk => by rw [rdL_getD, hL.2.2.1 k hk]
  have hp := rs_bd ho
  have hlen : ∀ j, (stI s r l M i j).length = l.length - 1 := fun j => by unfold stI; simp; omega
  induction e with
  | zero =>
    intro j hj
    refine Ev.step (fun k => ?_) hR
    obtain rfl : j = M := by omega
    simp only [impl_Strips2.l1]
    rw [if_neg (by omega), wk (n := l.length) (by omega) (by omega)]
  | succ e ih =>
    intro j hj
    have hq := sumQ_bd ho i hi j (by omega)
    have h1 := cell_bd ho j i (by omega) (by omega)
    have h2 := cell_bd ho j (i + 1) (by omega) (by omega)
    have h3 := cell_bd ho (j + 1) i (by omega) (by omega)
    have h4 := cell_bd ho (j + 1) (i + 1) (by omega) (by omega)
    have hq2 := quad_bd ho i j hi (by omega)
    have hm1 := mul_bd hp (b := sumQ l i j) (B := 2000) (by omega)
    have hm2 := mul_bd hp (b := quad l i j) (B := 200) (by omega)
    refine Ev.step (f := fun k => impl_Strips2.l1 k M (stI s r l M i (j + 1)) i N i M ((j + 1 : Nat) : Int) s r l) (fun k => ?_) (ih (j + 1) (by omega))
    simp only [impl_Strips2.l1]
    rw [if_pos (by omega), if_pos (by omega), if_pos (by have := hlen j; omega), if_pos (by omega), if_pos (by omega), hrow i (by omega), if_pos (by omega), wk (n := l.length) (by omega) (by omega), if_pos (by omega), if_pos (by omega), hrow (i + 1) (by omega), if_pos (by omega),
      wk (i := j) (n := 12) (by omega) (by omega), if_pos (by omega), if_pos (by omega), if_pos (by omega)]
    rw [rd_cell, rd_cell, rd_cell, rd_cell]
    rw [w64 (cellAt l j i + cellAt l j (i + 1)) (by omega) (by omega), w64 (cellAt l j i + cellAt l j (i + 1) + cellAt l (j + 1) i) (by omega) (by omega), w64 (cellAt l j i + cellAt l j (i + 1) + cellAt l (j + 1) i + cellAt l (j + 1) (i + 1)) (by omega) (by omega)]
    have e1 : cellAt l j i + cellAt l j (i + 1) + cellAt l (j + 1) i + cellAt l (j + 1) (i + 1) = quad l i j := rfl
    rw [e1, w64 (r * s) (by omega) (by omega), w64 (r * s * quad l i j) (by omega) (by omega), Int.toNat_natCast]
    have e2 : rd (stI s r l M i j) (i : Int) = r * s * sumQ l i j := rd_mid _ _ _ _ (by simp)
    rw [e2, w64 _ (by omega) (by omega)]
    have e3 : (stI s r l M i j).set i (r * s * sumQ l i j + r * s * quad l i j) = stI s r l M i (j + 1) := by
      unfold stI
      rw [set_mid _ _ _ _ _ (by simp)]
      simp only [sumQ, Int.mul_add]
    rw [e3]
theorem impl_outer {s r : Int} {l : List (List Int)} (ho : okHull s r l = true) (M : Nat) (hM : M < (l.headD []).length) (d : Nat) : ∀ i : Nat, i + 1 + d = l.length →
    Ev (fun k => impl_Strips2.l0 k M (((List.range i).map fun i => r * s * sumQ l i M) ++ List.replicate (l.length - 1 - i) 0) ((l.length - 1 : Nat) : Int) i s r l) (stripsL s r l M) := by
  have hL := okHull_len ho
  induction d with
  | zero =>
    intro i hd
    refine Ev.ret fun k => ?_
    simp only [impl_Strips2.l0]
    rw [if_neg (by omega)]
    have : i = l.length - 1 := by omega
    rw [this, Nat.sub_self]
    simp [stripsL]
  | succ d ih =>
    intro i hd
    have e1 : ((List.range i).map fun i => r * s * sumQ l i M) ++ List.replicate (l.length - 1 - i) 0 = stI s r l M i 0 := by
      unfold stI
      have : l.length - 1 - i = (l.length - 2 - i) + 1 := by omega
      rw [this, List.replicate_succ]
      simp [sumQ]
    have e2 : stI s r l M i M = ((List.range (i + 1)).map fun i => r * s * sumQ l i M) ++ List.replicate (l.length - 1 - (i + 1)) 0 := by
      unfold stI
      have : l.length - 1 - (i + 1) = l.length - 2 - i := by omega
      rw [this, List.range_succ, List.map_append]
      simp
    rw [e1]
    refine Ev.step (f := fun k => impl_Strips2.l1 k M (stI s r l M i 0) i ((l.length - 1 : Nat) : Int) i M ((0 : Nat) : Int) s r l) (fun k => ?_) (impl_inner ho M i _ hM (by omega) _ ?_ M 0 (by omega))
    · simp only [impl_Strips2.l0]
      rw [if_pos (by omega)]
      rfl
    · rw [e2]
      exact ih (i + 1) (by omega)
theorem strips2_impl (s r m : Int) (l : List (List Int)) : Ev (fun k => impl_Strips2.f k s r l m) (strips2F s r l m) := by
  unfold impl_Strips2.f strips2F impl_waterOk.f
  simp only [Option.bind_some]
  cases hw : okWater s r l m
  · exact Ev.const fun _ => by simp
  · obtain ⟨M, rfl, hM, ho⟩ := okWater_facts hw
    have hL := okHull_len ho
    simp only [if_true, Int.toNat_natCast]
    have e1 : wrap64 ((l.length : Int) - 1) = ((l.length - 1 : Nat) : Int) := by rw [w64 _ (by omega) (by omega)]; omega
    refine Ev.congr (fun k => ?_) (impl_outer ho M hM (l.length - 1) 0 (by omega))
    rw [e1, Int.toNat_natCast, if_pos (by omega), if_pos (by omega)]
    simp
end Go.Proofs.Yteggnboikjjaiaa.Hq

/- The plain part for Volume2, Along4 and Afloat. -/
namespace Go.Proofs.Yteggnboikjjaiaa.Hq
open Go.RowKit Go.Proofs.Yteggnboikjjaiaa.PH2 Go.Proofs.YteggnboikjjaiaaW.PrintWords Go.Proofs.Yteggnboikjjaiaa.Hp Go.Proofs.Yteggnboikjjaiaa.Cf Go.Proofs.Yteggnboikjjaiaa.Pl
set_option linter.unusedVariables false
set_option linter.unusedSimpArgs false
def sumL (acc : Int) : List Int → Int
  | [] => acc
  | x :: t => sumL (wrap64 (acc + x)) t
theorem sum_spec_loop (l : List Int) (hn : l.length ≤ 9223372036854775807) (d : Nat) : ∀ (i : Nat) (acc : Int), i + d = l.length → Ev (fun k => spec_l1Sum.l0 k l acc i) (sumL acc (l.drop i)) := by
  induction d with
  | zero =>
    intro i acc hd
    refine Ev.ret fun k => ?_
    simp only [spec_l1Sum.l0]
    rw [if_neg (by omega), List.drop_of_length_le (by omega)]
    rfl
  | succ d ih =>
    intro i acc hd
    have hi : i < l.length := by omega
    rw [drop_at l i hi]
    refine Ev.step (f := fun k => spec_l1Sum.l0 k l (wrap64 (acc + l[i])) ((i + 1 : Nat) : Int)) (fun k => ?_) (ih (i + 1) _ (by omega))
    simp only [spec_l1Sum.l0]
    rw [if_pos (by omega), if_pos (by omega), rd_at l i hi, wk (n := l.length) (by omega) hn]
theorem sum_impl_loop (l : List Int) (hn : l.length ≤ 9223372036854775807) (d : Nat) : ∀ (i : Nat) (acc : Int), i + d = l.length → Ev (fun k => impl_sumOf.l0 k acc l l.length i) (sumL acc (l.drop i)) := by
  induction d with
  | zero =>
    intro i acc hd
    refine Ev.ret fun k => ?_
    simp only [impl_sumOf.l0]
    rw [if_neg (by omega), List.drop_of_length_le (by omega)]
    rfl
  | succ d ih =>
    intro i acc hd
    have hi : i < l.length := by omega
    rw [drop_at l i hi]
    refine Ev.step (f := fun k => impl_sumOf.l0 k (wrap64 (acc + l[i])) l l.length ((i + 1 : Nat) : Int)) (fun k => ?_) (ih (i + 1) _ (by omega))
    simp only [impl_sumOf.l0]
    rw [if_pos (by omega), if_pos (by omega), if_pos (by omega), rd_at l i hi, wk (n := l.length) (by omega) hn]
theorem strips2_len (s r m : Int) (l : List (List Int)) : (strips2F s r l m).length ≤ 12 := by
  unfold strips2F
  cases hw : okWater s r l m
  · simp
  · obtain ⟨M, rfl, hM, ho⟩ := okWater_facts hw
    have hL := okHull_len ho
    simp [stripsL]
    omega
def volF (s r : Int) (l : List (List Int)) (m : Int) : Int := sumL 0 (strips2F s r l m)
theorem vol_spec (s r m : Int) (l : List (List Int)) : Ev (fun k => spec_Volume2.f k s r l m) (volF s r l m) := by
  unfold spec_Volume2.f volF spec_l1Sum.f
  have h := strips2_len s r m l
  have h2 := sum_spec_loop (strips2F s r l m) (by omega) (strips2F s r l m).length 0 0 (by omega)
  rw [List.drop_zero] at h2
  exact Ev.bind (strips2_spec s r m l) (Ev.bind h2 (Ev.const fun _ => rfl))
theorem vol_impl (s r m : Int) (l : List (List Int)) : Ev (fun k => impl_Volume2.f k s r l m) (volF s r l m) := by
  unfold impl_Volume2.f volF impl_sumOf.f
  have h := strips2_len s r m l
  have h2 := sum_impl_loop (strips2F s r l m) (by omega) (strips2F s r l m).length 0 0 (by omega)
  rw [List.drop_zero] at h2
  exact Ev.bind (strips2_impl s r m l) (Ev.bind h2 (Ev.const fun _ => rfl))
end Go.Proofs.Yteggnboikjjaiaa.Hq
namespace Go.Proofs.Yteggnboikjjaiaa.Pure
open Go.RowKit Go.Proofs.Yteggnboikjjaiaa.PH2 Go.Proofs.YteggnboikjjaiaaW.PrintWords Go.Proofs.Yteggnboikjjaiaa.Hp Go.Proofs.Yteggnboikjjaiaa.Hq
theorem FnExactVolume2 : ∀ (a0_0 : Int) (a0_1 : Int) (l0_2 : List (List Int)) (a1 : Int), ∃ k, laws_FnExactVolume2.f k a0_0 a0_1 l0_2 a1 = some true := by
  intro a b l m
  refine Ev.rounds (g := fun k => laws_FnExactVolume2.f k a b l m) ?_
  exact hull_law (fun k x y z => spec_Volume2.f k x y z m) (fun k x y z => impl_Volume2.f k x y z m) a b l _ (fun _ => vol_spec a b m l) (fun _ => vol_impl a b m l)
end Go.Proofs.Yteggnboikjjaiaa.Pure

/- The plain part for Afloat. -/
namespace Go.Proofs.Yteggnboikjjaiaa.Hq
open Go.RowKit Go.Proofs.Yteggnboikjjaiaa.PH2 Go.Proofs.YteggnboikjjaiaaW.PrintWords Go.Proofs.Yteggnboikjjaiaa.Hp Go.Proofs.Yteggnboikjjaiaa.Cf Go.Proofs.Yteggnboikjjaiaa.Pl
set_option linter.unusedVariables false
set_option linter.unusedSimpArgs false
def aflF (s r : Int) (l : List (List Int)) (v : Int) : Nat → Nat → Int
  | _, 0 => -1
  | i, d + 1 => if volF s r l i ≥ wrap64 (2 * v) then i else aflF s r l v (i + 1) d
theorem afl_spec_loop {s r : Int} {l : List (List Int)} (ho : okHull s r l = true) (v : Int) (d : Nat) : ∀ i : Nat, i + d = (l.headD []).length → Ev (fun k => spec_Afloat.l0 k v i s r l) (aflF s r l v i d) := by
  have hL := okHull_len ho
  have hh : rd_L1 l 0 = l.headD [] := by cases l <;> simp [rd_L1]
  induction d with
  | zero =>
    intro i hd
    refine Ev.ret fun k => ?_
    simp only [spec_Afloat.l0]
    rw [if_pos (by omega), hh, if_neg (by omega)]
    rfl
  | succ d ih =>
    intro i hd
    refine Ev.step (f := fun k => (spec_Volume2.f k s r l i).bind fun t => if t ≥ wrap64 (2 * v) then some (i : Int) else spec_Afloat.l0 k v ((i + 1 : Nat) : Int) s r l) (fun k => ?_) (Ev.bind (vol_spec s r i l) ?_)
    · simp only [spec_Afloat.l0]
      rw [if_pos (by omega), hh, if_pos (by omega), wk (n := 12) (by omega) (by omega)]
    · by_cases h : volF s r l i ≥ wrap64 (2 * v)
      · exact Ev.const fun _ => by rw [if_pos h]; simp only [aflF]; rw [if_pos h]
      · refine Ev.congr (fun k => by rw [if_neg h]) ?_
        have := ih (i + 1) (by omega)
        simp only [aflF]
        rw [if_neg h]
        exact this
theorem afl_impl_loop {s r : Int} {l : List (List Int)} (ho : okHull s r l = true) (v : Int) (d : Nat) : ∀ i : Nat, i + d = (l.headD []).length → Ev (fun k => impl_Afloat.l0 k v (l.headD []).length i s r l) (aflF s r l v i d) := by
  have hL := okHull_len ho
  induction d with
  | zero =>
    intro i hd
    refine Ev.ret fun k => ?_
    simp only [impl_Afloat.l0]
    rw [if_neg (by omega)]
    rfl
  | succ d ih =>
    intro i hd
    refine Ev.step (f := fun k => (impl_Volume2.f k s r l i).bind fun t => if t ≥ wrap64 (2 * v) then some (i : Int) else impl_Afloat.l0 k v (l.headD []).length ((i + 1 : Nat) : Int) s r l) (fun k => ?_) (Ev.bind (vol_impl s r i l) ?_)
    · simp only [impl_Afloat.l0]
      rw [if_pos (by omega), wk (n := 12) (by omega) (by omega)]
    · by_cases h : volF s r l i ≥ wrap64 (2 * v)
      · exact Ev.const fun _ => by rw [if_pos h]; simp only [aflF]; rw [if_pos h]
      · refine Ev.congr (fun k => by rw [if_neg h]) ?_
        have := ih (i + 1) (by omega)
        simp only [aflF]
        rw [if_neg h]
        exact this
theorem afl_both (s r v : Int) (l : List (List Int)) : ∃ x, Ev (fun k => spec_Afloat.f k s r l v) x ∧ Ev (fun k => impl_Afloat.f k s r l v) x := by
  unfold spec_Afloat.f impl_Afloat.f spec_HullOk.f impl_HullOk.f spec_l1In.f impl_in.f
  simp only [Option.bind_some]
  have no1 : Ev (fun k => spec_Afloat.j0 k v true s r l) (-1) := Ev.ret fun k => by simp only [spec_Afloat.j0, if_true]
  have no2 : Ev (fun k => impl_Afloat.j0 k v true s r l) (-1) := Ev.ret fun k => by simp only [impl_Afloat.j0, if_true]
  cases ho : okHull s r l
  · exact ⟨-1, no1, no2⟩
  · have hL := okHull_len ho
    have hh : rd_L1 l 0 = l.headD [] := by cases l <;> simp [rd_L1]
    simp only [if_true]
    by_cases h : 0 ≤ v ∧ v ≤ 1000000000
    · simp only [h, and_self, decide_true, Bool.not_true]
      refine ⟨aflF s r l v 0 (l.headD []).length, Ev.step (fun k => ?_) (afl_spec_loop ho v (l.headD []).length 0 (by omega)), Ev.step (fun k => ?_) (afl_impl_loop ho v (l.headD []).length 0 (by omega))⟩
      · simp only [spec_Afloat.j0, Bool.false_eq_true, if_false]
        rfl
      · simp only [impl_Afloat.j0, Bool.false_eq_true, if_false]
        rw [if_pos (by omega), hh]
        rfl
    · simp only [h, decide_false, Bool.not_false]
      exact ⟨-1, no1, no2⟩
end Go.Proofs.Yteggnboikjjaiaa.Hq
namespace Go.Proofs.Yteggnboikjjaiaa.Pure
open Go.RowKit Go.Proofs.Yteggnboikjjaiaa.PH2 Go.Proofs.YteggnboikjjaiaaW.PrintWords Go.Proofs.Yteggnboikjjaiaa.Hp Go.Proofs.Yteggnboikjjaiaa.Hq
theorem FnExactAfloat : ∀ (a0_0 : Int) (a0_1 : Int) (l0_2 : List (List Int)) (a1 : Int), ∃ k, laws_FnExactAfloat.f k a0_0 a0_1 l0_2 a1 = some true := by
  intro a b l m
  refine Ev.rounds (g := fun k => laws_FnExactAfloat.f k a b l m) ?_
  obtain ⟨x, h1, h2⟩ := afl_both a b m l
  exact hull_law (fun k x y z => spec_Afloat.f k x y z m) (fun k x y z => impl_Afloat.f k x y z m) a b l x (fun _ => h1) (fun _ => h2)
end Go.Proofs.Yteggnboikjjaiaa.Pure
