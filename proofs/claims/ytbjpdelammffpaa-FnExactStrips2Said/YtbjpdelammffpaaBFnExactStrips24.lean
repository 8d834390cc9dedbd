import Derived.Test.YtbjpdelammffpaaBFnExactStrips23
import Derived.Test.YtbjpdelammffpaaBFnExactStrips21
/- The plain part for Strips2: both loops lay the same list. -/
namespace Go.Proofs.Ytbjpdelammffpaa.Hq
open Go.RowKit Go.Proofs.Ytbjpdelammffpaa.PH2 Go.Proofs.YtbjpdelammffpaaW.PrintWords Go.Proofs.Ytbjpdelammffpaa.Hp Go.Proofs.Ytbjpdelammffpaa.Cf Go.Proofs.Ytbjpdelammffpaa.Pl
set_option linter.unusedVariables false
set_option linter.unusedSimpArgs false
def quad (l : List (List Int)) (i k : Nat) : Int := cellAt l k i + cellAt l k (i + 1) + cellAt l (k + 1) i + cellAt l (k + 1) (i + 1)
def sumQ (l : List (List Int)) (i : Nat) : Nat → Int
  | 0 => 0
  | k + 1 => sumQ l i k + quad l i k
def stripsL (s r : Int) (l : List (List Int)) (w : Nat) : List Int := (List.range (l.length - 1)).map fun i => r * s * sumQ l i w
theorem mul_bd {a b A B : Int} (ha : 0 ≤ a ∧ a ≤ A) (hb : 0 ≤ b ∧ b ≤ B) : 0 ≤ a * b ∧ a * b ≤ A * B :=
  ⟨Int.mul_nonneg ha.1 hb.1, Int.mul_le_mul ha.2 hb.2 hb.1 (by omega)⟩
theorem quad_bd {s r : Int} {l : List (List Int)} (h : okHull s r l = true) (i k : Nat) (hi : i + 1 < l.length) (hk : k + 1 < (l.headD []).length) : 0 ≤ quad l i k ∧ quad l i k ≤ 200 := by
  have h1 := cell_bd h k i (by omega) (by omega)
  have h2 := cell_bd h k (i + 1) (by omega) (by omega)
  have h3 := cell_bd h (k + 1) i (by omega) (by omega)
  have h4 := cell_bd h (k + 1) (i + 1) (by omega) (by omega)
  unfold quad
  omega
theorem sumQ_bd {s r : Int} {l : List (List Int)} (h : okHull s r l = true) (i : Nat) (hi : i + 1 < l.length) : ∀ k : Nat, k < (l.headD []).length → 0 ≤ sumQ l i k ∧ sumQ l i k ≤ 200 * k := by
  intro k
  induction k with
  | zero => intro _; simp [sumQ]
  | succ k ih =>
    intro hk
    have h1 := ih (by omega)
    have h2 := quad_bd h i k hi hk
    simp only [sumQ]
    omega
theorem rs_bd {s r : Int} {l : List (List Int)} (h : okHull s r l = true) : 0 ≤ r * s ∧ r * s ≤ 2000 := by
  have hL := okHull_len h
  have := mul_bd (a := r) (b := s) (A := 20) (B := 100) (by omega) (by omega)
  omega

/-! ### The reference -/
theorem spec_inner {s r : Int} {l : List (List Int)} (ho : okHull s r l = true) (M i : Nat) (hM : M < (l.headD []).length) (hi : i + 1 < l.length) (X R : List Int) (hX : X.length = i)
    (hR : Ev (fun k => spec_Strips2.l0 k M (X ++ [r * s * sumQ l i M]) ((i + 1 : Nat) : Int) s r l) R) (e : Nat) : ∀ j : Nat, j + e = M → Ev (fun k => spec_Strips2.l1 k M X i (sumQ l i j) j s r l) R := by
  have hL := okHull_len ho
  have hrow : ∀ k : Nat, k < l.length → ((rd_L1 l (k : Int)).length : Int) = ((l.headD []).length : Int) := fun k hk => by rw [rdL_getD, hL.2.2.1 k hk]
  have hp := rs_bd ho
  induction e with
  | zero =>
    intro j hj
    have hq := sumQ_bd ho i hi M hM
    have hm := mul_bd hp (b := sumQ l i M) (B := 2000) (by omega)
    refine Ev.step (fun k => ?_) hR
    obtain rfl : j = M := by omega
    simp only [spec_Strips2.l1]
    rw [if_neg (by omega), if_pos (by omega), wk (n := l.length) (by omega) (by omega), w64 (r * s) (by omega) (by omega), w64 _ (by omega) (by omega)]
  | succ e ih =>
    intro j hj
    have hq := sumQ_bd ho i hi j (by omega)
    have h1 := cell_bd ho j i (by omega) (by omega)
    have h2 := cell_bd ho j (i + 1) (by omega) (by omega)
    have h3 := cell_bd ho (j + 1) i (by omega) (by omega)
    have h4 := cell_bd ho (j + 1) (i + 1) (by omega) (by omega)
    refine Ev.step (f := fun k => spec_Strips2.l1 k M X i (sumQ l i (j + 1)) ((j + 1 : Nat) : Int) s r l) (fun k => ?_) (ih (j + 1) (by omega))
    simp only [spec_Strips2.l1]
    rw [if_pos (by omega), if_pos (by omega), if_pos (by omega), if_pos (by omega), hrow i (by omega), if_pos (by omega), wk (n := l.length) (by omega) (by omega), if_pos (by omega), if_pos (by omega), hrow (i + 1) (by omega), if_pos (by omega),
      wk (i := j) (n := 12) (by omega) (by omega), if_pos (by omega), if_pos (by omega), if_pos (by omega)]
    rw [rd_cell, rd_cell, rd_cell, rd_cell]
    rw [w64 (sumQ l i j + cellAt l j i) (by omega) (by omega), w64 (sumQ l i j + cellAt l j i + cellAt l j (i + 1)) (by omega) (by omega), w64 (sumQ l i j + cellAt l j i + cellAt l j (i + 1) + cellAt l (j + 1) i) (by omega) (by omega), w64 _ (by omega) (by omega)]
    have e1 : sumQ l i (j + 1) = sumQ l i j + cellAt l j i + cellAt l j (i + 1) + cellAt l (j + 1) i + cellAt l (j + 1) (i + 1) := by simp only [sumQ, quad]; omega
    rw [e1]
theorem spec_outer {s r : Int} {l : List (List Int)} (ho : okHull s r l = true) (M : Nat) (hM : M < (l.headD []).length) (d : Nat) : ∀ i : Nat, i + 1 + d = l.length →
    Ev (fun k => spec_Strips2.l0 k M ((List.range i).map fun i => r * s * sumQ l i M) i s r l) (stripsL s r l M) := by
  have hL := okHull_len ho
  induction d with
  | zero =>
    intro i hd
    refine Ev.ret fun k => ?_
    simp only [spec_Strips2.l0]
    rw [wk (n := l.length) (by omega) (by omega), if_neg (by omega)]
    have : i = l.length - 1 := by omega
    rw [this]
    rfl
  | succ d ih =>
    intro i hd
    refine Ev.step (f := fun k => spec_Strips2.l1 k M ((List.range i).map fun i => r * s * sumQ l i M) i (sumQ l i 0) ((0 : Nat) : Int) s r l) (fun k => ?_) (spec_inner ho M i hM (by omega) _ _ (by simp) ?_ M 0 (by omega))
    · simp only [spec_Strips2.l0]
      rw [wk (n := l.length) (by omega) (by omega), if_pos (by omega)]
      rfl
    · have := ih (i + 1) (by omega)
      rw [List.range_succ, List.map_append] at this
      exact this
def strips2F (s r : Int) (l : List (List Int)) (m : Int) : List Int := if okWater s r l m = true then stripsL s r l m.toNat else []
theorem strips2_spec (s r m : Int) (l : List (List Int)) : Ev (fun k => spec_Strips2.f k s r l m) (strips2F s r l m) := by
  unfold spec_Strips2.f strips2F
  rw [swater]
  simp only [Option.bind_some]
  cases hw : okWater s r l m
  · exact Ev.const fun _ => by simp
  · obtain ⟨M, rfl, hM, ho⟩ := okWater_facts hw
    have hL := okHull_len ho
    simp only [if_true, Int.toNat_natCast]
    exact spec_outer ho M hM (l.length - 1) 0 (by omega)

/-! ### The program -/
def stI (s r : Int) (l : List (List Int)) (M i j : Nat) : List Int := ((List.range i).map fun i => r * s * sumQ l i M) ++ (r * s * sumQ l i j) :: List.replicate (l.length - 2 - i) 0
theorem rd_mid (A : List Int) (x : Int) (B : List Int) (i : Nat) (h : A.length = i) : rd (A ++ x :: B) (i : Int) = x := by subst h; simp [rd]
theorem set_mid (A : List Int) (x y : Int) (B : List Int) (i : Nat) (h : A.length = i) : (A ++ x :: B).set i y = A ++ y :: B := by subst h; simp
theorem impl_inner {s r : Int} {l : List (List Int)} (ho : okHull s r l = true) (M i : Nat) (N : Int) (hM : M < (l.headD []).length) (hi : i + 1 < l.length) (R : List Int)
    (hR : Ev (fun k => impl_Strips2.l0 k M (stI s r l M i M) N ((i + 1 : Nat) : Int) s r l) R) (e : Nat) : ∀ j : Nat, j + e = M → Ev (fun k => impl_Strips2.l1 k M (stI s r l M i j) i N i M j s r l) R := by
  have hL := okHull_len ho
  have hrow : ∀ k : Nat, k < l.length → ((rd_L1 l (k : Int)).length : Int) = ((l.headD []).length : Int) := fun k hk => by rw [rdL_getD, hL.2.2.1 k hk]
  have hp := rs_bd ho
  have hlen : ∀ j, (stI s r l M i j).length = l.length - 1 := fun j => by unfold stI; simp; omega
  induction e with
  | zero =>
    intro j hj
    refine Ev.step (fun k => ?_) hR
    obtain rfl : j = M := by omega
    simp only [impl_Strips2.l1]
    rw [if_neg (by omega), wk (n := l.length) (by omega) (by omega)]
  | succ e ih =>
    intro j hj
    have hq := sumQ_bd ho i hi j (by omega)
    have h1 := cell_bd ho j i (by omega) (by omega)
    have h2 := cell_bd ho j (i + 1) (by omega) (by omega)
    have h3 := cell_bd ho (j + 1) i (by omega) (by omega)
    have h4 := cell_bd ho (j + 1) (i + 1) (by omega) (by omega)
    have hq2 := quad_bd ho i j hi (by omega)
    have hm1 := mul_bd hp (b := sumQ l i j) (B := 2000) (by omega)
    have hm2 := mul_bd hp (b := quad l i j) (B := 200) (by omega)
    refine Ev.step (f := fun k => impl_Strips2.l1 k M (stI s r l M i (j + 1)) i N i M ((j + 1 : Nat) : Int) s r l) (fun k => ?_) (ih (j + 1) (by omega))
    simp only [impl_Strips2.l1]
    rw [if_pos (by omega), if_pos (by omega), if_pos (by have := hlen j; omega), if_pos (by omega), if_pos (by omega), hrow i (by omega), if_pos (by omega), wk (n := l.length) (by omega) (by omega), if_pos (by omega), if_pos (by omega), hrow (i + 1) (by omega), if_pos (by omega),
      wk (i := j) (n := 12) (by omega) (by omega), if_pos (by omega), if_pos (by omega), if_pos (by omega)]
    rw [rd_cell, rd_cell, rd_cell, rd_cell]
    rw [w64 (cellAt l j i + cellAt l j (i + 1)) (by omega) (by omega), w64 (cellAt l j i + cellAt l j (i + 1) + cellAt l (j + 1) i) (by omega) (by omega), w64 (cellAt l j i + cellAt l j (i + 1) + cellAt l (j + 1) i + cellAt l (j + 1) (i + 1)) (by omega) (by omega)]
    have e1 : cellAt l j i + cellAt l j (i + 1) + cellAt l (j + 1) i + cellAt l (j + 1) (i + 1) = quad l i j := rfl
    rw [e1, w64 (r * s) (by omega) (by omega), w64 (r * s * quad l i j) (by omega) (by omega), Int.toNat_natCast]
    have e2 : rd (stI s r l M i j) (i : Int) = r * s * sumQ l i j := rd_mid _ _ _ _ (by simp)
    rw [e2, w64 _ (by omega) (by omega)]
    have e3 : (stI s r l M i j).set i (r * s * sumQ l i j + r * s * quad l i j) = stI s r l M i (j + 1) := by
      unfold stI
      rw [set_mid _ _ _ _ _ (by simp)]
      simp only [sumQ, Int.mul_add]
    rw [e3]
theorem impl_outer {s r : Int} {l : List (List Int)} (ho : okHull s r l = true) (M : Nat) (hM : M < (l.headD []).length) (d : Nat) : ∀ i : Nat, i + 1 + d = l.length →
    Ev (fun k => impl_Strips2.l0 k M (((List.range i).map fun i => r * s * sumQ l i M) ++ List.replicate (l.length - 1 - i) 0) ((l.length - 1 : Nat) : Int) i s r l) (stripsL s r l M) := by
  have hL := okHull_len ho
  induction d with
  | zero =>
    intro i hd
    refine Ev.ret fun k => ?_
    simp only [impl_Strips2.l0]
    rw [if_neg (by omega)]
    have : i = l.length - 1 := by omega
    rw [this, Nat.sub_self]
    simp [stripsL]
  | succ d ih =>
    intro i hd
    have e1 : ((List.range i).map fun i => r * s * sumQ l i M) ++ List.replicate (l.length - 1 - i) 0 = stI s r l M i 0 := by
      unfold stI
      have : l.length - 1 - i = (l.length - 2 - i) + 1 := by omega
      rw [this, List.replicate_succ]
      simp [sumQ]
    have e2 : stI s r l M i M = ((List.range (i + 1)).map fun i => r * s * sumQ l i M) ++ List.replicate (l.length - 1 - (i + 1)) 0 := by
      unfold stI
      have : l.length - 1 - (i + 1) = l.length - 2 - i := by omega
      rw [this, List.range_succ, List.map_append]
      simp
    rw [e1]
    refine Ev.step (f := fun k => impl_Strips2.l1 k M (stI s r l M i 0) i ((l.length - 1 : Nat) : Int) i M ((0 : Nat) : Int) s r l) (fun k => ?_) (impl_inner ho M i _ hM (by omega) _ ?_ M 0 (by omega))
    · simp only [impl_Strips2.l0]
      rw [if_pos (by omega)]
      rfl
    · rw [e2]
      exact ih (i + 1) (by omega)
theorem strips2_impl (s r m : Int) (l : List (List Int)) : Ev (fun k => impl_Strips2.f k s r l m) (strips2F s r l m) := by
  unfold impl_Strips2.f strips2F impl_waterOk.f
  simp only [Option.bind_some]
  cases hw : okWater s r l m
  · exact Ev.const fun _ => by simp
  · obtain ⟨M, rfl, hM, ho⟩ := okWater_facts hw
    have hL := okHull_len ho
    simp only [if_true, Int.toNat_natCast]
    have e1 : wrap64 ((l.length : Int) - 1) = ((l.length - 1 : Nat) : Int) := by rw [w64 _ (by omega) (by omega)]; omega
    refine Ev.congr (fun k => ?_) (impl_outer ho M hM (l.length - 1) 0 (by omega))
    rw [e1, Int.toNat_natCast, if_pos (by omega), if_pos (by omega)]
    simp
end Go.Proofs.Ytbjpdelammffpaa.Hq
/- Plain: equality, marks of whole numbers. -/
namespace Go.Proofs.Ytbjpdelammffpaa.Mp
open Go.RowKit Go.Proofs.Ytbjpdelammffpaa.PH2 Go.Proofs.YtbjpdelammffpaaW.PrintWords Go.Proofs.Ytbjpdelammffpaa.Mk
set_option linter.unusedVariables false
set_option linter.unusedSimpArgs false
theorem Ev.ret {α : Type} {g : Nat → Option α} {r : α} (h : ∀ k, g (k + 1) = some r) : Ev g r := ⟨1, fun k hk => by obtain ⟨m, rfl⟩ : ∃ m, k = m + 1 := ⟨k - 1, by omega⟩; exact h m⟩
theorem Ev.const {α : Type} {g : Nat → Option α} {r : α} (h : ∀ k, g k = some r) : Ev g r := ⟨0, fun k _ => h k⟩
theorem wk {i n : Nat} (h : i < n) (hn : n ≤ 9223372036854775807) : wrap64 ((i : Int) + 1) = ((i + 1 : Nat) : Int) := by
  unfold wrap64
  omega
theorem w64 (x : Int) (h0 : -9223372036854775808 ≤ x) (h1 : x < 9223372036854775808) : wrap64 x = x := by
  unfold wrap64
  omega
theorem rdi (l : List Int) (i : Nat) (h : i < l.length) : rd l (i : Int) = l[i] := by simp [rd, h]
theorem eqI_loop (l : List Int) (hn : l.length ≤ 9223372036854775807) (d : Nat) : ∀ (i : Nat), i + d = l.length → Ev (fun k => laws_eqIntS.l0 k l l i) true := by
  induction d with
  | zero =>
    intro i hd
    refine Ev.ret fun k => ?_
    simp only [laws_eqIntS.l0]
    rw [if_neg (by omega)]
  | succ d ih =>
    intro i hd
    refine Ev.step (f := fun k => laws_eqIntS.l0 k l l ((i + 1 : Nat) : Int)) (fun k => ?_) (ih (i + 1) (by omega))
    simp only [laws_eqIntS.l0]
    rw [if_pos (by omega), if_pos (by omega), if_pos (by omega), if_pos trivial, wk (n := l.length) (by omega) hn]
theorem eqI (l : List Int) (hn : l.length ≤ 9223372036854775807) : Ev (fun k => laws_eqIntS.f k l l) true := by
  refine Ev.congr (f := fun k => laws_eqIntS.l0 k l l ((0 : Nat) : Int)) (fun k => ?_) (eqI_loop l hn l.length 0 (by omega))
  unfold laws_eqIntS.f
  rw [if_pos rfl]
  rfl
def numbered : Nat → Int → List Int
  | 0, _ => []
  | n + 1, a => a :: numbered n (a + 1)
theorem numbered_len (n : Nat) : ∀ a, (numbered n a).length = n := by
  induction n with
  | zero => intro a; rfl
  | succ n ih => intro a; simp [numbered, ih]
theorem markI_loop (d : Nat) : ∀ (i : Nat) (dn xs : List Int) (a : Int), dn.length = i → xs.length = d → i + d ≤ 2000000 → 0 ≤ a → a + d ≤ 100000000 → Ev (fun k => laws_markIntS.l0 k (dn ++ xs) a i) (a + d, dn ++ numbered d a) := by
  induction d with
  | zero =>
    intro i dn xs a hl hx hb h0 h1
    obtain rfl : xs = [] := List.length_eq_zero_iff.1 hx
    refine Ev.ret fun k => ?_
    simp only [laws_markIntS.l0]
    rw [if_neg (by simp; omega)]
    simp [numbered]
  | succ d ih =>
    intro i dn xs a hl hx hb h0 h1
    cases xs with
    | nil => simp at hx
    | cons x xs =>
      have e : (dn ++ x :: xs).set i a = (dn ++ [a]) ++ xs := by subst hl; simp
      have h := ih (i + 1) (dn ++ [a]) xs (a + 1) (by simp [hl]) (by simpa using hx) (by omega) (by omega) (by omega)
      refine Ev.step (f := fun k => laws_markIntS.l0 k ((dn ++ [a]) ++ xs) (a + 1) ((i + 1 : Nat) : Int)) (fun k => ?_) ?_
      · simp only [laws_markIntS.l0]
        rw [if_pos (by simp; omega), if_pos (by omega), Int.toNat_natCast, e, w64 (a + 1) (by omega) (by omega), wk (n := 2000000) (by omega) (by omega)]
      · rw [show ((a + ((d + 1 : Nat) : Int), dn ++ numbered (d + 1) a) : Int × List Int) = (a + 1 + (d : Int), (dn ++ [a]) ++ numbered d (a + 1)) by simp [numbered]; omega]
        exact h
theorem markI (x : List Int) (a : Int) (hx : x.length ≤ 2000000) (h0 : 0 ≤ a) (h1 : a + x.length ≤ 100000000) : Ev (fun k => laws_markIntS.f k x a) (a + x.length, numbered x.length a) := markI_loop x.length 0 [] x a rfl rfl (by omega) h0 h1
theorem numbered_get (n : Nat) : ∀ (a : Int) (i : Nat) (h : i < (numbered n a).length), (numbered n a)[i] = a + i := by
  induction n with
  | zero => intro a i h; simp [numbered] at h
  | succ n ih =>
    intro a i h
    cases i with
    | zero => simp [numbered]
    | succ i =>
      simp only [numbered, List.getElem_cons_succ]
      rw [ih]
      omega
theorem heldI_loop (n : Nat) (b : Int) (hn : n ≤ 2000000) (hb0 : 0 ≤ b) (hb1 : b + n ≤ 100000000) (d : Nat) : ∀ (i : Nat), i + d = n → Ev (fun k => laws_heldIntS.l0 k (numbered n b) (b + i) i) (b + n) := by
  induction d with
  | zero =>
    intro i hd
    refine Ev.ret fun k => ?_
    simp only [laws_heldIntS.l0]
    rw [if_neg (by rw [numbered_len]; omega), show i = n by omega]
  | succ d ih =>
    intro i hd
    refine Ev.step (f := fun k => laws_heldIntS.l0 k (numbered n b) (b + ((i + 1 : Nat) : Int)) ((i + 1 : Nat) : Int)) (fun k => ?_) (ih (i + 1) (by omega))
    simp only [laws_heldIntS.l0]
    rw [if_pos (by rw [numbered_len]; omega), if_pos (by omega), rdi _ i (by rw [numbered_len]; omega), numbered_get, if_pos rfl, w64 _ (by omega) (by omega), wk (n := n) (by omega) (by omega)]
    rw [show b + (i : Int) + 1 = b + ((i + 1 : Nat) : Int) by omega]
theorem heldI (n : Nat) (b : Int) (hn : n ≤ 2000000) (hb0 : 0 ≤ b) (hb1 : b + n ≤ 100000000) : Ev (fun k => laws_heldIntS.f k (numbered n b) b) (b + n) := by
  refine Ev.congr (f := fun k => laws_heldIntS.l0 k (numbered n b) (b + ((0 : Nat) : Int)) ((0 : Nat) : Int)) (fun k => ?_) (heldI_loop n b hn hb0 hb1 n 0 (by omega))
  unfold laws_heldIntS.f
  simp
def total : List (List Int) → Nat
  | [] => 0
  | x :: xs => x.length + total xs
def nums : List (List Int) → Int → List (List Int)
  | [], _ => []
  | x :: xs, a => numbered x.length a :: nums xs (a + x.length)
theorem nums_len (l : List (List Int)) : ∀ a, (nums l a).length = l.length := by
  induction l with
  | nil => intro a; rfl
  | cons x xs ih => intro a; simp [nums, ih]
theorem markSS (l : List (List Int)) : ∀ (a : Int), total l ≤ 2000000 → 0 ≤ a → a + total l ≤ 100000000 → Ev (fun k => mSS (laws_markIntS.f k) l a) (a + total l, nums l a) := by
  induction l with
  | nil => intro a _ _ _; exact Ev.const fun k => by simp [mSS, total, nums]
  | cons x xs ih =>
    intro a h h0 h1
    simp only [total] at h h1
    have hx := markI x a (by omega) h0 (by omega)
    have hr := ih (a + x.length) (by omega) (by omega) (by omega)
    simp only [mSS]
    refine Ev.bind hx (Ev.bind hr (Ev.const fun k => ?_))
    simp only [total, nums]
    congr 2
    omega
end Go.Proofs.Ytbjpdelammffpaa.Mp
/- The law of Strips2, for all arguments. -/
namespace Go.Proofs.Ytbjpdelammffpaa.Lw
open Go Go.RowKit Go.Proofs.YtbjpdelammffpaaW.PrintWords Go.Proofs.YtbjpdelammffpaaW.PrintLast Go.Proofs.YtbjpdelammffpaaW.PrintMore Go.Proofs.Ytbjpdelammffpaa.PH2 Go.Proofs.Ytbjpdelammffpaa.Mk Go.Proofs.Ytbjpdelammffpaa.Rs
set_option linter.unusedVariables false
set_option maxHeartbeats 8000000 in
theorem early (s r m : Int) (A0 : Option Addr) (c0 : Nat) (l0 : List (List Int)) (left : Int) (w : World) (hr : Kd.C (Kd.slice 3 (Kd.int .i64)) w A0 l0.length l0) (hc : l0.length ≤ c0) (h1 : laws_szHull.f s r l0 1048576 = some left) (hl : left < 0) :
    Calls Try.prog 3 #[.agg #[.int .i64 s, .int .i64 r, .slice A0 l0.length c0], .int .i64 m] w fun e w' => e = .returned (.bool true) ∧ Below w.heap.size w w' := by
  have hb0 : Below w.heap.size w (w.alloc (.cells #[.int .i64 s, .int .i64 r, .slice A0 l0.length c0] 24)) := (Below.refl _ _).alloc (Nat.le_refl _) _
  have ct := Aside0.mk (laws_szHull.calls s r A0 c0 l0 1048576 left _ (Kd.C_below hr hb0) hc h1)
  have HB0 := Aside0.mk hb0
  clear hr hc h1 hb0
  have t1 : decide (left < 0) = true := decide_eq_true hl
  clear hl
  go_enter Try.func3, Try.ntmps3
  go_wp2_with fail
  refine ct.out.mono ?_
  rintro e w1 ⟨rfl, hb⟩
  have HB := Aside0.mk (HB0.out.trans (hb.mono HB0.out.size))
  clear ct hb
  go_wp2
  go_ret
  exact ⟨rfl, HB.out⟩
theorem total_eq (l : List (List Int)) : Mp.total l = Hp.totL l := by
  induction l with
  | nil => rfl
  | cons x xs ih => simp only [Mp.total, ih]; simp [Hp.totL]
theorem strips2Row (s r : Int) (A0 : Option Addr) (c0 : Nat) (l0 : List (List Int)) (m : Int) (w : World) (hc : l0.length ≤ c0) (hr : Kd.C (Kd.slice 3 (Kd.int .i64)) w A0 l0.length l0) :
    Calls Try.prog 3 #[.agg #[.int .i64 s, .int .i64 r, .slice A0 l0.length c0], .int .i64 m] w fun e w' => e = .returned (.bool true) ∧ Below w.heap.size w w' := by
  by_cases hl : Hp.sizeH l0 ≤ 1048576
  · have h1 : laws_szHull.f s r l0 1048576 = some (1048576 - (Hp.sizeH l0 : Int)) := by
      unfold laws_szHull.f Hp.szOf
      rw [if_pos (by omega), if_pos (by omega)]
    have h2 : laws_toHull.f s r l0 = some (s, r, l0) := by unfold laws_toHull.f; rw [if_pos hl]
    have h6 : laws_eqHull.f s r l0 s r l0 = some true := by unfold laws_eqHull.f; rw [if_pos ⟨rfl, rfl, rfl, hl⟩]
    have ht : Mp.total l0 ≤ 1048576 := by rw [total_eq]; unfold Hp.sizeH at hl; omega
    have hR : (Hq.strips2F s r l0 m).length ≤ 12 := by
      unfold Hq.strips2F
      split
      · rename_i hw
        obtain ⟨M, rfl, hM, ho⟩ := Hq.okWater_facts hw
        have := Pl.okHull_len ho
        simp [Hq.stripsL]
        omega
      · simp
    obtain ⟨K3, E3⟩ := Hq.strips2_spec s r m l0
    obtain ⟨K4, E4⟩ := Hq.strips2_impl s r m l0
    obtain ⟨K5, E5⟩ := Mp.eqI (Hq.strips2F s r l0 m) (by omega)
    obtain ⟨K7, E7⟩ := Mp.markSS l0 1 (by omega) (by omega) (by omega)
    obtain ⟨K9, E9⟩ := Mp.markI (Hq.strips2F s r l0 m) 1 (by omega) (by omega) (by omega)
    obtain ⟨K10, E10⟩ := Mp.heldI (Hq.strips2F s r l0 m).length 1 (by omega) (by omega) (by omega)
    exact law_Strips2 (K3 + K4 + K5 + K7 + K9 + K10) s r m A0 c0 l0 _ (Hq.strips2F s r l0 m) _ _ _ _ w hr hc h1 (by omega) h2 (E3 _ (by omega)) (E4 _ (by omega)) (E5 _ (by omega)) h6 (E7 _ (by omega)) (by omega) (E9 _ (by omega)) (E10 _ (by omega)) (by omega) (Mp.numbered_len _ _)
  · have h1 : laws_szHull.f s r l0 1048576 = some (-1) := by
      unfold laws_szHull.f Hp.szOf
      rw [if_pos (by omega), if_neg (by omega)]
    exact early s r m A0 c0 l0 _ w hr hc h1 (by omega)
end Go.Proofs.Ytbjpdelammffpaa.Lw
