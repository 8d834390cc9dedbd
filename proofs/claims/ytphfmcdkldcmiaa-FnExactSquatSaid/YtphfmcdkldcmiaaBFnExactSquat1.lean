import Derived.WalkKit
import Derived.WalkLawsBesides
import Derived.Deep.Draws
import Derived.Deep.RegionHeld
import Derived.Test.YtphfmcdkldcmiaaProg
import Derived.KernelRfl
import Derived.Deep.RegionHeld3
import Derived.Test.YtphfmcdkldcmiaaBFnExactSquat0
import Derived.IntWalk
import Derived.Deep.QuietTactic
import Derived.BigQuiet
import Derived.Laws.BitsAllLaws
import Derived.Laws.Externs
import Derived.ProofKit
import Derived.Deep.Slices
import Derived.SizedLaws
import Derived.Laws.Cover2
/- Floats in a walk: every operation runs, a NaN's bits being asked of the tape; two floats are alike if their bits are the same or both are NaNs; operations and comparisons keep that. -/
namespace Go.Proofs.Ytphfmcdkldcmiaa.Fl
open Go Go.RowKit

/-- Is it a NaN? -/
def nanB (k : FloatKind) (x : Nat) : Bool := (k.decode x).isNaN
/-- The same bits, or both a NaN. -/
def Same (k : FloatKind) (x y : Nat) : Prop := x = y ∨ (nanB k x = true ∧ nanB k y = true)
theorem Same.refl (k : FloatKind) (x : Nat) : Same k x x := .inl rfl
theorem Same.symm {k : FloatKind} {x y : Nat} (h : Same k x y) : Same k y x := by
  rcases h with h | h
  · exact .inl h.symm
  · exact .inr ⟨h.2, h.1⟩
theorem Same.trans {k : FloatKind} {x y z : Nat} (h : Same k x y) (h' : Same k y z) : Same k x z := by
  rcases h with rfl | h
  · exact h'
  · rcases h' with rfl | h'
    · exact .inr h
    · exact .inr ⟨h.1, h'.2⟩

theorem read_nan {k : FloatKind} {x : Nat} (h : nanB k x = true) : ∃ s t, k.format.read x = .nan s t := by
  have h' : (k.format.read x).isNaN = true := h
  cases hd : k.format.read x with
  | nan s t => exact ⟨s, t, rfl⟩
  | number s m e => rw [hd] at h'; cases h'
  | infinity s => rw [hd] at h'; cases h'

/-! ### Order -/
theorem order_nan_l {k : FloatKind} {x : Nat} (y : Nat) (h : nanB k x = true) : k.format.order x y = none := by
  obtain ⟨s, t, e⟩ := read_nan h
  unfold Ieee.Format.order
  rw [e]
  rfl
theorem order_nan_r {k : FloatKind} {y : Nat} (x : Nat) (h : nanB k y = true) : k.format.order x y = none := by
  obtain ⟨s, t, e⟩ := read_nan h
  unfold Ieee.Format.order
  rw [e]
  cases k.format.read x <;> rfl
theorem order_same {k : FloatKind} {x x' y y' : Nat} (hx : Same k x x') (hy : Same k y y') : k.format.order x y = k.format.order x' y' := by
  rcases hx with rfl | hx
  · rcases hy with rfl | hy
    · rfl
    · rw [order_nan_r _ hy.1, order_nan_r _ hy.2]
  · rw [order_nan_l _ hx.1, order_nan_l _ hx.2]
theorem order_self {k : FloatKind} {x : Nat} (h : nanB k x = false) : k.format.order x x = some .eq := by
  have h' : (k.format.read x).isNaN = false := h
  unfold Ieee.Format.order
  cases hd : k.format.read x with
  | nan s t => rw [hd] at h'; cases h'
  | number s m e => simp [Ieee.Datum.order, compare, compareOfLessAndEq]
  | infinity s => cases s <;> rfl
theorem order_self_eq (k : FloatKind) (x : Nat) : (k.format.order x x == some .eq) = !(nanB k x) := by
  cases h : nanB k x with
  | true => rw [order_nan_l _ h]; rfl
  | false => rw [order_self h]; rfl
theorem order_self_ne (k : FloatKind) (x : Nat) : (k.format.order x x != some .eq) = nanB k x := by
  cases h : nanB k x with
  | true => rw [order_nan_l _ h]; rfl
  | false => rw [order_self h]; rfl

/-! ### + - * / -/
theorem bits_nan_l {op : BinOp} {k : FloatKind} {x : Nat} (y : Nat) (h : nanB k x = true) : floatBits op k x y = none := by
  obtain ⟨s, t, e⟩ := read_nan h
  unfold floatBits
  split <;> simp only [Ieee.Format.add, Ieee.Format.sub, Ieee.Format.mul, Ieee.Format.div, e] <;> rfl
theorem bits_nan_r {op : BinOp} {k : FloatKind} {y : Nat} (x : Nat) (h : nanB k y = true) : floatBits op k x y = none := by
  obtain ⟨s, t, e⟩ := read_nan h
  unfold floatBits
  split <;> simp only [Ieee.Format.add, Ieee.Format.sub, Ieee.Format.mul, Ieee.Format.div, e] <;> (cases k.format.read x <;> rfl)
theorem bits_same {op : BinOp} {k : FloatKind} {x x' y y' : Nat} (hx : Same k x x') (hy : Same k y y') : floatBits op k x y = floatBits op k x' y' := by
  rcases hx with rfl | hx
  · rcases hy with rfl | hy
    · rfl
    · rw [bits_nan_r _ hy.1, bits_nan_r _ hy.2]
  · rw [bits_nan_l _ hx.1, bits_nan_l _ hx.2]

/-- What an operation gives in the world w. -/
def fAr (op : BinOp) (k : FloatKind) (x y : Nat) (w : World) : Nat := (floatBits op k x y).getD ((Question.nanBits k x y).cut (w.tape w.drawn (.nanBits k x y)))
/-- How many draws it makes. -/
def fN (op : BinOp) (k : FloatKind) (x y : Nat) : Nat := if (floatBits op k x y).isSome then 0 else 1
/-- What it gives, one NaN standing for all. -/
def qnan (k : FloatKind) : Nat := match k with | .f32 => 0x7fc00000 | .f64 => 0x7ff8000000000000
def fP (op : BinOp) (k : FloatKind) (x y : Nat) : Nat := (floatBits op k x y).getD (qnan k)

theorem nan_of_rung (k : FloatKind) (neg : Bool) (f : Nat) (h0 : 0 < f) (h1 : f < k.format.binade) (hk : 1 ≤ k.format.exponentBits) : (k.format.read (k.format.word neg (k.format.infRung + f))).isNaN = true := by
  have hr := k.format.infRung_add_binade
  have hlt : k.format.infRung + f < k.format.signWeight := by omega
  have hmod : k.format.word neg (k.format.infRung + f) % k.format.signWeight = k.format.infRung + f := by
    unfold Ieee.Format.word
    split
    · rw [Nat.add_mod_left, Nat.mod_eq_of_lt hlt]
    · rw [Nat.mod_eq_of_lt hlt]
  have hb : k.format.binade ≤ k.format.infRung := by
    have h2 : 2 ^ 1 ≤ 2 ^ k.format.exponentBits := Nat.pow_le_pow_right (by omega) hk
    unfold Ieee.Format.infRung
    exact Nat.le_mul_of_pos_left _ (by omega)
  unfold Ieee.Format.read
  simp only [hmod]
  rw [if_neg (by omega), if_neg (by omega), if_neg (by omega)]
  rfl

theorem nan_f32 (a f : Nat) (ha : a < 2) (hf : f < 2 ^ 23 - 1) : nanB .f32 (a * 2 ^ 31 + 0x7f800000 + 1 + f) = true := by
  have h := nan_of_rung .f32 (a == 1) (1 + f) (by omega) (show 1 + f < 2 ^ 23 by omega) (by decide)
  have e : FloatKind.f32.format.word (a == 1) (FloatKind.f32.format.infRung + (1 + f)) = a * 2 ^ 31 + 0x7f800000 + 1 + f := by
    have e1 : FloatKind.f32.format.infRung = 0x7f800000 := by decide
    have e2 : FloatKind.f32.format.signWeight = 2 ^ 31 := by decide
    unfold Ieee.Format.word
    rw [e1, e2]
    rcases Nat.lt_or_ge a 1 with h | h
    · obtain rfl : a = 0 := by omega
      simp; omega
    · obtain rfl : a = 1 := by omega
      simp; omega
  rw [e] at h
  exact h
theorem nan_f64 (a f : Nat) (ha : a < 2) (hf : f < 2 ^ 52 - 1) : nanB .f64 (a * 2 ^ 63 + 0x7ff0000000000000 + 1 + f) = true := by
  have h := nan_of_rung .f64 (a == 1) (1 + f) (by omega) (show 1 + f < 2 ^ 52 by omega) (by decide)
  have e : FloatKind.f64.format.word (a == 1) (FloatKind.f64.format.infRung + (1 + f)) = a * 2 ^ 63 + 0x7ff0000000000000 + 1 + f := by
    have e1 : FloatKind.f64.format.infRung = 0x7ff0000000000000 := by decide
    have e2 : FloatKind.f64.format.signWeight = 2 ^ 63 := by decide
    unfold Ieee.Format.word
    rw [e1, e2]
    rcases Nat.lt_or_ge a 1 with h | h
    · obtain rfl : a = 0 := by omega
      simp; omega
    · obtain rfl : a = 1 := by omega
      simp; omega
  rw [e] at h
  exact h
theorem nan_bits (k : FloatKind) (x y t : Nat) : nanB k ((Question.nanBits k x y).cut t) = true := by
  cases k
  · exact nan_f32 _ _ (by omega) (by omega)
  · exact nan_f64 _ _ (by omega) (by omega)
theorem nan_conv (k : FloatKind) (x t : Nat) : nanB k ((Question.nanConv k x).cut t) = true := by
  cases k
  · exact nan_f32 _ _ (by omega) (by omega)
  · exact nan_f64 _ _ (by omega) (by omega)
theorem nan_q (k : FloatKind) : nanB k (qnan k) = true := by cases k <;> decide

theorem fAr_same {op : BinOp} {k : FloatKind} {x x' y y' : Nat} (hx : Same k x x') (hy : Same k y y') (w : World) : Same k (fAr op k x y w) (fP op k x' y') := by
  unfold fAr fP
  rw [bits_same hx hy]
  cases floatBits op k x' y' with
  | some r => exact .inl rfl
  | none => exact .inr ⟨nan_bits _ _ _ _, nan_q _⟩
theorem fP_same {op : BinOp} {k : FloatKind} {x x' y y' : Nat} (hx : Same k x x') (hy : Same k y y') : fP op k x y = fP op k x' y' := by
  unfold fP
  rw [bits_same hx hy]

section
variable {P : Program}
theorem run_choose_nan (w : World) (k : FloatKind) (x y : Nat) : (choose (.nanBits k x y)).run P w = .ok ((Question.nanBits k x y).cut (w.tape w.drawn (.nanBits k x y))) (w.drewN 1) := by
  simp only [choose, Sem.run, Question.forced]
  rfl
theorem run_choose_conv (w : World) (k : FloatKind) (x : Nat) : (choose (.nanConv k x)).run P w = .ok ((Question.nanConv k x).cut (w.tape w.drawn (.nanConv k x))) (w.drewN 1) := by
  simp only [choose, Sem.run, Question.forced]
  rfl
theorem run_arith (op : BinOp) (hop : op = .add ∨ op = .sub ∨ op = .mul ∨ op = .quo) (w : World) (t : TypeId) (k : FloatKind) (x y : Nat) :
    (binOp op t (.float k x) (.float k y)).run P w = .ok (.float k (fAr op k x y w)) (w.drewN (fN op k x y)) := by
  unfold fAr fN
  cases h : floatBits op k x y with
  | some r => exact run_float_arith w op t k x y r h
  | none =>
    unfold floatBits at h
    rcases hop with rfl | rfl | rfl | rfl <;> simp only at h <;> (simp [binOp, Op.floatArith, h]; rfl)
@[go_sem] theorem run_fadd (w : World) (t : TypeId) (k : FloatKind) (x y : Nat) : (binOp .add t (.float k x) (.float k y)).run P w = .ok (.float k (fAr .add k x y w)) (w.drewN (fN .add k x y)) := run_arith .add (.inl rfl) w t k x y
@[go_sem] theorem run_fsub (w : World) (t : TypeId) (k : FloatKind) (x y : Nat) : (binOp .sub t (.float k x) (.float k y)).run P w = .ok (.float k (fAr .sub k x y w)) (w.drewN (fN .sub k x y)) := run_arith .sub (.inr (.inl rfl)) w t k x y
@[go_sem] theorem run_fmul (w : World) (t : TypeId) (k : FloatKind) (x y : Nat) : (binOp .mul t (.float k x) (.float k y)).run P w = .ok (.float k (fAr .mul k x y w)) (w.drewN (fN .mul k x y)) := run_arith .mul (.inr (.inr (.inl rfl))) w t k x y
theorem run_fquo (w : World) (t : TypeId) (k : FloatKind) (x y : Nat) : (binOp .quo t (.float k x) (.float k y)).run P w = .ok (.float k (fAr .quo k x y w)) (w.drewN (fN .quo k x y)) := run_arith .quo (.inr (.inr (.inr rfl))) w t k x y
end

/-! ### float64(x) of a float32: no number is too great -/
/-- What the conversion gives, one NaN standing for all. -/
def gP (x : Nat) : Nat := match FloatKind.f32.decode x with
  | .nan _ _ => qnan .f64
  | d => FloatKind.f64.encode d
def gW (x : Nat) (w : World) : Nat := if nanB .f32 x then (Question.nanConv .f64 x).cut (w.tape w.drawn (.nanConv .f64 x)) else gP x
def gN (x : Nat) : Nat := if nanB .f32 x then 1 else 0
theorem gP_same {x x' : Nat} (h : Same .f32 x x') : gP x = gP x' := by
  rcases h with rfl | h
  · rfl
  · obtain ⟨s, t, e⟩ := read_nan h.1
    obtain ⟨s', t', e'⟩ := read_nan h.2
    have e1 : FloatKind.f32.decode x = .nan s t := e
    have e2 : FloatKind.f32.decode x' = .nan s' t' := e'
    unfold gP
    rw [e1, e2]
theorem gW_same {x x' : Nat} (h : Same .f32 x x') (w : World) : Same .f64 (gW x w) (gP x') := by
  rw [← gP_same h]
  unfold gW
  cases hn : nanB .f32 x with
  | true =>
    obtain ⟨s, t, e⟩ := read_nan hn
    have e1 : FloatKind.f32.decode x = .nan s t := e
    have e2 : gP x = qnan .f64 := by unfold gP; rw [e1]
    rw [e2, if_pos rfl]
    exact .inr ⟨nan_conv .f64 x _, nan_q _⟩
  | false => exact .inl rfl

/-- The word of a number whose rung is below infinity's is no infinity. -/
theorem word_finite (f : Ieee.Format) (neg : Bool) (r : Nat) (h : r < f.infRung) : (f.read (f.word neg r)).isInfinity = false := by
  have hlt : r < f.signWeight := Nat.lt_trans h f.infRung_lt
  have hmod : f.word neg r % f.signWeight = r := by
    unfold Ieee.Format.word
    split
    · rw [Nat.add_mod_left, Nat.mod_eq_of_lt hlt]
    · rw [Nat.mod_eq_of_lt hlt]
  unfold Ieee.Format.read
  simp only [hmod]
  by_cases hb : r < f.binade
  · rw [if_pos hb]; rfl
  · rw [if_neg hb, if_pos h]; rfl

/-- A float32's number: its digits and its place. -/
theorem f32_number {x : Nat} {s : Bool} {m : Nat} {e : Int} (h : FloatKind.f32.decode x = .number s m e) : m < 2 ^ 24 ∧ -149 ≤ e ∧ e ≤ 104 := by
  have hb : FloatKind.f32.format.binade = 2 ^ 23 := rfl
  have hi : FloatKind.f32.format.infRung = 255 * 2 ^ 23 := rfl
  have hp : FloatKind.f32.format.leastPlace = -149 := rfl
  have h' : FloatKind.f32.format.read x = .number s m e := h
  unfold Ieee.Format.read at h'
  simp only [hb, hi, hp] at h'
  split at h'
  · cases h'; omega
  · split at h'
    · cases h'; omega
    · split at h' <;> cases h'

theorem cut_zero (way : Ieee.Toward) (neg : Bool) (n : Nat) : way.cut neg n 0 = n := by
  unfold Ieee.Toward.cut
  have : (1 <<< min 0 (n.log2 + 2)) = 1 := by simp
  simp only [this, Nat.div_one, Nat.mod_one]
  cases way <;> simp

theorem log2_lt24 {m : Nat} (h0 : m ≠ 0) (h : m < 2 ^ 24) : m.log2 < 24 := (Nat.log2_lt h0).2 h

theorem f64_near (B q k : Nat) (_hB : 0 < B) (hq : q ≤ 1149) (hk : k < 2 * B) : q * B + k < 2047 * B := by
  have := Nat.mul_le_mul_right B hq
  omega
theorem nearest_f64 (s : Bool) (m : Nat) (e : Int) (hm : m < 2 ^ 24) (he : -149 ≤ e ∧ e ≤ 104) : ∃ r, r < FloatKind.f64.format.infRung ∧ FloatKind.f64.encode (.number s m e) = FloatKind.f64.format.word s r := by
  have hi : FloatKind.f64.format.infRung = 2047 * 2 ^ 52 := rfl
  have hb : FloatKind.f64.format.binade = 2 ^ 52 := rfl
  have hp : FloatKind.f64.format.leastPlace = -1074 := rfl
  have hf : (FloatKind.f64.format.fractionBits : Int) = 52 := rfl
  show ∃ r, r < _ ∧ FloatKind.f64.format.nearest s m e = _
  unfold Ieee.Format.nearest
  by_cases h0 : m = 0
  · rw [if_pos h0]; exact ⟨0, by rw [hi]; decide, rfl⟩
  · rw [if_neg h0]
    have hl := log2_lt24 h0 hm
    simp only [hb, hi, hp, hf]
    have hmax : max (e + (m.log2 : Int) - 52) (-1074) = e + m.log2 - 52 := by omega
    rw [hmax]
    have h1 : (e - (e + (m.log2 : Int) - 52)).toNat = 52 - m.log2 := by omega
    have h2 : ((e + (m.log2 : Int) - 52) - e).toNat = 0 := by omega
    rw [h1, h2, cut_zero]
    refine ⟨_, ?_, rfl⟩
    have hk : m <<< (52 - m.log2) < 2 * 2 ^ 52 := by
      rw [Nat.shiftLeft_eq]
      have hml : m < 2 ^ (m.log2 + 1) := Nat.lt_log2_self
      calc m * 2 ^ (52 - m.log2) < 2 ^ (m.log2 + 1) * 2 ^ (52 - m.log2) := Nat.mul_lt_mul_of_pos_right hml (Nat.two_pow_pos _)
        _ = 2 ^ (1 + 52) := by rw [← Nat.pow_add, show m.log2 + 1 + (52 - m.log2) = 1 + 52 by omega]
        _ = 2 * 2 ^ 52 := by rw [Nat.pow_add, Nat.pow_one]
    have hq : (e + (m.log2 : Int) - 52 - -1074).toNat ≤ 1149 := by omega
    exact Nat.lt_of_le_of_lt (Nat.min_le_left ..) (f64_near (2 ^ 52) _ _ (Nat.two_pow_pos 52) hq hk)

section
variable {P : Program}
@[go_sem] theorem run_great (w : World) (src dst : TypeId) (x : Nat) (hs : P.underlying src = some (.float .f32)) (hd : P.underlying dst = some (.float .f64)) :
    (convert src dst (.float .f32 x)).run P w = .ok (.float .f64 (gW x w)) (w.drewN (gN x)) := by
  cases h : FloatKind.f32.decode x with
  | nan s t =>
    have hn : nanB .f32 x = true := by unfold nanB; rw [h]; rfl
    simp [convert, run_underlying hs, run_underlying hd, Conv.floatToFloat, h, gW, gN, hn]
    rfl
  | infinity s =>
    have hn : nanB .f32 x = false := by unfold nanB; rw [h]; rfl
    simp [convert, run_underlying hs, run_underlying hd, Conv.floatToFloat, h, gW, gN, hn, gP, World.drewN_zero]
  | number s m e =>
    have hn : nanB .f32 x = false := by unfold nanB; rw [h]; rfl
    obtain ⟨hm, he⟩ := f32_number h
    obtain ⟨r, hr, hw⟩ := nearest_f64 s m e hm he
    have hinf : (FloatKind.f64.decode (FloatKind.f64.encode (.number s m e))).isInfinity = false := by
      rw [hw]; exact word_finite _ _ _ hr
    simp [convert, run_underlying hs, run_underlying hd, Conv.floatToFloat, h, gW, gN, hn, gP, World.drewN_zero, hinf]
end

/-! ### 1/x of what is no NaN -/
theorem quo_one {a : Nat} (h : nanB .f64 a = false) : ∃ r, floatBits .quo .f64 4607182418800017408 a = some r := by
  have h' : (FloatKind.f64.format.read a).isNaN = false := h
  have h1 : FloatKind.f64.format.read 4607182418800017408 = .number false 4503599627370496 (-52) := by decide
  show ∃ r, FloatKind.f64.format.div 4607182418800017408 a = some r
  unfold Ieee.Format.div
  rw [h1]
  cases hd : FloatKind.f64.format.read a with
  | nan s t => rw [hd] at h'; cases h'
  | infinity s => exact ⟨_, rfl⟩
  | number s m e =>
    simp only [Ieee.Datum.quotient]
    by_cases h0 : m = 0
    · rw [if_pos h0, if_neg (by decide)]; exact ⟨_, rfl⟩
    · rw [if_neg h0]; exact ⟨_, rfl⟩

@[go_sem] theorem run_store_float {P : Program} (w : World) (a : Addr) (m : Mode) (k : FloatKind) (b : Nat) : (store a (.float k b) m).run P w = stored P w a (.float k b) m := run_store P w a _ m rfl

@[go_sem] theorem unary_fneg (k : FloatKind) (b : Nat) : Op.unary .neg (.float k b) = pure (.float k (Op.negFloat k b)) := rfl

/-- The end of a body whose result lies in memory. -/
theorem ret_val {P : Program} {fn : Func} {R : Ending → World → Prop} {a : Act} {w : World} (h : ∃ v, (results fn a.tmps).run P w = .ok v w ∧ R (.returned v) w) (hd : a.defers = []) : bodyPost P fn R .ret a w :=
  let ⟨_, hr, hR⟩ := h
  bodyPost_ret hr hd hR

/-! ### The world -/
@[go_sem] theorem alloc_drewN (w : World) (n : Nat) (o : Obj) : (w.drewN n).alloc o = (w.alloc o).drewN n := rfl
@[go_sem] theorem setCell_drewN (w : World) (n : Nat) (a : Addr) (v : Value) : (w.drewN n).setCell a v = (w.setCell a v).drewN n := by
  unfold World.setCell World.drewN; rfl
theorem below_drewN {B : Nat} {w w' : World} (h : Below B w w') (n : Nat) : Below B w (w'.drewN n) := ⟨h.os, h.tape, h.output, h.size, h.block⟩
theorem below_al {w W : World} (h : Below w.heap.size w W) (o : Obj) : Below w.heap.size w (W.alloc o) := h.alloc h.size o
theorem below_st {w W : World} {p : Addr} (h : Below w.heap.size w W) (hp : w.heap.size ≤ p.block) (v : Value) : Below w.heap.size w (W.setCell p v) := h.setCell hp v
theorem cell_al {W : World} {a : Addr} {v : Value} (h : W.cell? a = some v) (o : Obj) : (W.alloc o).cell? a = some v := by
  rw [World.cell?_alloc_some W a o (by rw [h]; rfl), h]
theorem cell_st {W : World} {p a : Addr} {v u : Value} (hp : p.block ≠ a.block) (h : W.cell? a = some v) : (W.setCell p u).cell? a = some v := by
  rw [World.cell?_setCell_far W p a u hp, h]
theorem heap_alloc_at (w : World) (g : Nat) (o : Obj) (h : g = w.heap.size) : (w.alloc o).heap[g]? = some o := by
  subst h
  exact heap_alloc_new w o
theorem blk_cell {w : World} {g : Nat} {cs : Array Value} {t : TypeId} {fr : Nat × Nat} (h : w.heap[g]? = some (.cells cs t fr)) (i : Nat) : w.cell? ⟨g, i, none⟩ = cs[i]? := by simp [World.cell?, h]
theorem blk_free {w : World} {g : Nat} {cs : Array Value} {t : TypeId} (h : w.heap[g]? = some (.cells cs t (0, 0))) (i : Nat) : w.frozen? ⟨g, i, none⟩ = false := by simp [World.frozen?, h]
/-- Two floats, alike to x and y. -/
def PairOf (k : FloatKind) (x y : Nat) (w : World) (e : Ending) (w' : World) : Prop := ∃ r i, e = .returned (.agg #[.float k r, .float k i]) ∧ Same k r x ∧ Same k i y ∧ Below w.heap.size w w'
/-- After a call that makes memory of its own, what was there stands. -/
theorem below_cells {W w1 : World} (hb : Below W.heap.size W w1) : (∀ b o, b < W.heap.size → w1.cell? ⟨b, o, none⟩ = W.cell? ⟨b, o, none⟩) ∧ (∀ b o, b < W.heap.size → w1.frozen? ⟨b, o, none⟩ = W.frozen? ⟨b, o, none⟩) :=
  ⟨fun b o h => hb.cell (p := ⟨b, o, none⟩) h, fun b o h => hb.frozen (p := ⟨b, o, none⟩) h⟩
end Go.Proofs.Ytphfmcdkldcmiaa.Fl
/- Contracts of the functions over floats. -/
namespace Go.Proofs.Ytphfmcdkldcmiaa.Fl
open Go Go.RowKit
set_option linter.unusedVariables false
set_option linter.unusedSimpArgs false

theorem toWave_any (a b : Nat) (w : World) : Calls Try.prog 15 #[.agg #[.float .f64 a, .float .f64 b]] w fun e w' => e = .returned (.agg #[.float .f64 a, .float .f64 b]) ∧ Below w.heap.size w w' := by
  go_enter Try.func15, Try.ntmps15
  go_wp2
  all_goals exact bodyPost_ret (v := .agg #[.float .f64 a, .float .f64 b]) (by simp [results, Try.results15, go_sem]) rfl ⟨rfl, (by repeat (first | exact Below.refl _ _ | apply below_al | apply below_drewN | refine below_st ?_ (by simp; try omega) _))⟩

theorem toSmall_any (a b : Nat) (w : World) : Calls Try.prog 65 #[.agg #[.float .f32 a, .float .f32 b]] w fun e w' => e = .returned (.agg #[.float .f32 a, .float .f32 b]) ∧ Below w.heap.size w w' := by
  go_enter Try.func65, Try.ntmps65
  go_wp2
  all_goals exact bodyPost_ret (v := .agg #[.float .f32 a, .float .f32 b]) (by simp [results, Try.results65, go_sem]) rfl ⟨rfl, (by repeat (first | exact Below.refl _ _ | apply below_al | apply below_drewN | refine below_st ?_ (by simp; try omega) _))⟩

theorem AddSmall_spec (a b c d : Nat) (w : World) : Calls Try.prog 63 #[.agg #[.float .f32 a, .float .f32 b], .agg #[.float .f32 c, .float .f32 d]] w (PairOf .f32 (fP .add .f32 a c) (fP .add .f32 b d) w) := by
  go_enter Try.func63, Try.ntmps63
  go_wp2
  all_goals (refine ret_val ?_ rfl; simp [results, Try.results63, go_sem]; exact ⟨_, _, rfl, fAr_same (Same.refl _ _) (Same.refl _ _) _, fAr_same (Same.refl _ _) (Same.refl _ _) _, (by repeat (first | exact Below.refl _ _ | apply below_al | apply below_drewN | refine below_st ?_ (by simp; try omega) _))⟩)

theorem AddSmall_impl (a b c d : Nat) (w : World) : Calls Try.prog 52 #[.agg #[.float .f32 a, .float .f32 b], .agg #[.float .f32 c, .float .f32 d]] w (PairOf .f32 (fP .add .f32 a c) (fP .add .f32 b d) w) := by
  go_enter Try.func52, Try.ntmps52
  go_wp2
  all_goals (refine ret_val ?_ rfl; simp [results, Try.results52, go_sem]; exact ⟨_, _, rfl, fAr_same (Same.refl _ _) (Same.refl _ _) _, fAr_same (Same.refl _ _) (Same.refl _ _) _, (by repeat (first | exact Below.refl _ _ | apply below_al | apply below_drewN | refine below_st ?_ (by simp; try omega) _))⟩)

theorem great_spec (a b : Nat) (w : World) : Calls Try.prog 64 #[.agg #[.float .f32 a, .float .f32 b]] w (PairOf .f64 (gP a) (gP b) w) := by
  have u32 := Try.underlying36
  have u64 := Try.underlying23
  go_enter Try.func64, Try.ntmps64
  go_wp2
  all_goals (refine ret_val ?_ rfl; simp [results, Try.results64, go_sem]; exact ⟨_, _, rfl, gW_same (Same.refl _ _) _, gW_same (Same.refl _ _) _, (by repeat (first | exact Below.refl _ _ | apply below_al | apply below_drewN | refine below_st ?_ (by simp; try omega) _))⟩)

theorem great_impl (a b : Nat) (w : World) : Calls Try.prog 49 #[.agg #[.float .f32 a, .float .f32 b]] w (PairOf .f64 (gP a) (gP b) w) := by
  have u32 := Try.underlying36
  have u64 := Try.underlying23
  go_enter Try.func49, Try.ntmps49
  go_wp2
  all_goals (refine ret_val ?_ rfl; simp [results, Try.results49, go_sem]; exact ⟨_, _, rfl, gW_same (Same.refl _ _) _, gW_same (Same.refl _ _) _, (by repeat (first | exact Below.refl _ _ | apply below_al | apply below_drewN | refine below_st ?_ (by simp; try omega) _))⟩)

theorem by_any (a b : Nat) (w : World) : Calls Try.prog 62 #[.float .f64 a, .float .f64 b] w fun e w' => e = .returned (.float .f64 (fAr .mul .f64 a b w)) ∧ w.drewN (fN .mul .f64 a b) = w' := by
  go_enter Try.func62, Try.ntmps62
  go_wp2
  all_goals (go_ret; exact ⟨rfl, rfl⟩)

theorem addWave_any (a b c d : Nat) (w : World) : Calls Try.prog 61 #[.agg #[.float .f64 a, .float .f64 b], .agg #[.float .f64 c, .float .f64 d]] w (PairOf .f64 (fP .add .f64 a c) (fP .add .f64 b d) w) := by
  go_enter Try.func61, Try.ntmps61
  go_wp2
  all_goals (refine ret_val ?_ rfl; simp [results, Try.results61, go_sem]; exact ⟨_, _, rfl, fAr_same (Same.refl _ _) (Same.refl _ _) _, fAr_same (Same.refl _ _) (Same.refl _ _) _, (by repeat (first | exact Below.refl _ _ | apply below_al | apply below_drewN | refine below_st ?_ (by simp; try omega) _))⟩)

theorem times_spec (a b c d : Nat) (w : World) : Calls Try.prog 60 #[.agg #[.float .f64 a, .float .f64 b], .agg #[.float .f64 c, .float .f64 d]] w (PairOf .f64 (fP .sub .f64 (fP .mul .f64 a c) (fP .mul .f64 b d)) (fP .add .f64 (fP .mul .f64 a d) (fP .mul .f64 b c)) w) := by
  go_enter Try.func60, Try.ntmps60
  go_wp2
  all_goals (refine ret_val ?_ rfl; simp [results, Try.results60, go_sem]; exact ⟨_, _, rfl, fAr_same (fAr_same (Same.refl _ _) (Same.refl _ _) _) (fAr_same (Same.refl _ _) (Same.refl _ _) _) _, fAr_same (fAr_same (Same.refl _ _) (Same.refl _ _) _) (fAr_same (Same.refl _ _) (Same.refl _ _) _) _, (by repeat (first | exact Below.refl _ _ | apply below_al | apply below_drewN | refine below_st ?_ (by simp; try omega) _))⟩)

theorem sameFloat_any {a b : Nat} (h : Same .f64 a b) (w : World) : Calls Try.prog 29 #[.float .f64 a, .float .f64 b] w fun e w' => e = .returned (.bool true) ∧ ∃ n, w' = w.drewN n := by
  cases hn : nanB .f64 a with
  | true =>
    have hb : nanB .f64 b = true := by
      rcases h with rfl | h
      · exact hn
      · exact h.2
    have h1 := order_nan_l a hn
    have h2 := order_nan_l b hb
    clear h hn hb
    go_enter Try.func29, Try.ntmps29
    go_wp2
    all_goals (go_ret; exact ⟨rfl, 0, rfl⟩)
  | false =>
    obtain rfl : a = b := by
      rcases h with h | h
      · exact h
      · rw [h.1] at hn; cases hn
    have h1 := order_self hn
    obtain ⟨r, hr⟩ := quo_one hn
    have hq := fun (w : World) (t : TypeId) => run_float_arith (P := Try.prog) w .quo t .f64 4607182418800017408 a r hr
    clear h hn hr
    go_enter Try.func29, Try.ntmps29
    go_wp2
    all_goals (go_ret; exact ⟨by simp, 0, rfl⟩)

theorem eqWave_any {a b c d : Nat} (h1 : Same .f64 a c) (h2 : Same .f64 b d) (w : World) : Calls Try.prog 17 #[.agg #[.float .f64 a, .float .f64 b], .agg #[.float .f64 c, .float .f64 d]] w fun e w' => e = .returned (.bool true) ∧ Below w.heap.size w w' := by
  go_enter Try.func17, Try.ntmps17
  go_wp2_with (go_at_call 29; first | ((with_reducible refine (sameFloat_any h1 _).mono ?_); rintro e w' ⟨rfl, n, rfl⟩) | ((with_reducible refine (sameFloat_any h2 _).mono ?_); rintro e w' ⟨rfl, n, rfl⟩))
  all_goals (go_ret; exact ⟨rfl, (by repeat (first | exact Below.refl _ _ | apply below_al | apply below_drewN | refine below_st ?_ (by simp; try omega) _))⟩)

theorem eqSmall_any {a b c d : Nat} (h1 : Same .f32 a c) (h2 : Same .f32 b d) (w : World) : Calls Try.prog 23 #[.agg #[.float .f32 a, .float .f32 b], .agg #[.float .f32 c, .float .f32 d]] w fun e w' => e = .returned (.bool true) ∧ Below w.heap.size w w' := by
  have u32 := Try.underlying36
  have u64 := Try.underlying23
  have g1 := fun w w' : World => (gW_same h1 w).trans (gW_same (Same.refl _ c) w').symm
  have g2 := fun w w' : World => (gW_same h2 w).trans (gW_same (Same.refl _ d) w').symm
  go_enter Try.func23, Try.ntmps23
  go_wp2_with (go_at_call 29; first | ((with_reducible refine (sameFloat_any (g1 _ _) _).mono ?_); rintro e w' ⟨rfl, n, rfl⟩) | ((with_reducible refine (sameFloat_any (g2 _ _) _).mono ?_); rintro e w' ⟨rfl, n, rfl⟩))
  all_goals (go_ret; exact ⟨rfl, (by repeat (first | exact Below.refl _ _ | apply below_al | apply below_drewN | refine below_st ?_ (by simp; try omega) _))⟩)

end Go.Proofs.Ytphfmcdkldcmiaa.Fl
/- Rows of floats: copied, compared, marked. -/
namespace Go.Proofs.Ytphfmcdkldcmiaa.Fl
open Go Go.RowKit Go.Proofs.YtphfmcdkldcmiaaW.PrintWords Go.Proofs.YtphfmcdkldcmiaaW.PrintLast Go.Proofs.YtphfmcdkldcmiaaW.PrintMore
set_option linter.unusedVariables false
set_option linter.unusedSimpArgs false
abbrev kf : Kd Nat := Kd.scalar (Value.float .f64) (fun _ => rfl)
abbrev rf (l : List Nat) (i : Int) : Nat := rdOf 0 l i
theorem at_float {w : World} {A : Option Addr} {n : Nat} {xs : List Nat} (h : kf.C w A n xs) (i : Int) (h0 : 0 ≤ i) (h1 : i < n) : ∃ ad, A = some ad ∧ w.cell? (ad.add i.toNat) = some (.float .f64 (rf xs i)) :=
  ReadsOf.at_ (Kd.reads_of_C (enc := Value.float .f64) (d := (0 : Nat)) (h1 := fun _ => rfl) h) i h0 h1
theorem at_fn {w : World} {A : Option Addr} {n : Nat} {xs : List Nat} (h : kf.C w A n xs) (i : Nat) (h1 : i < n) : ∃ ad, A = some ad ∧ w.cell? (ad.add i) = some (.float .f64 (rf xs i)) := at_float h i (by omega) (by omega)
section
variable {α : Type} {enc : α → Value} {h1 : ∀ x, (enc x).oneCell' = true} {e base g n cap : Nat} {ok : Nat → Prop} {xs : List α} {W : World}
theorem R_cellN (d : α) (h : (Kd.scalar enc h1).R e W base ok (.slice (some ⟨g, 0, none⟩) n cap) xs) (i : Nat) (hi : i < n) : W.cell? ⟨g, i, none⟩ = some (enc (rdOf d xs i)) ∧ W.frozen? ⟨g, i, none⟩ = false := Kd.R_celln d h i (by omega) (by omega)
theorem R_putN (h : (Kd.scalar enc h1).R e W base ok (.slice (some ⟨g, 0, none⟩) n cap) xs) (i : Nat) (x : α) : (Kd.scalar enc h1).R e (W.setCell ⟨g, i, none⟩ (enc x)) base ok (.slice (some ⟨g, 0, none⟩) n cap) (xs.set i x) ∧ W.grownBy (W.setCell ⟨g, i, none⟩ (enc x)) (some g) := Kd.R_putg h i x
end
theorem wk {i n : Nat} (h : i < n) (hn : n ≤ 9223372036854775807) : wrap64 ((i : Int) + 1) = ((i + 1 : Nat) : Int) := by
  unfold wrap64
  omega
/-- The same up to n. -/
def Upto (n : Nat) (B P : List Nat) : Prop := B.length = P.length ∧ ∀ j : Nat, j < n → Same .f64 (rf B j) (rf P j)
theorem Upto.set {n : Nat} {B P : List Nat} (h : Upto n B P) (hn : n < P.length) {x : Nat} (hx : Same .f64 x (rf P n)) : Upto (n + 1) (B.set n x) P := by
  obtain ⟨h1, h2⟩ := h
  refine ⟨by simpa using h1, fun j hj => ?_⟩
  unfold rf rdOf at *
  simp only [Int.toNat_natCast] at *
  by_cases e : j = n
  · subst e
    rw [List.getD_eq_getElem?_getD, List.getElem?_set_self (by omega)]
    exact hx
  · rw [List.getD_eq_getElem?_getD, List.getElem?_set_ne (by omega), ← List.getD_eq_getElem?_getD]
    exact h2 j (by omega)
set_option maxHeartbeats 8000000 in
theorem toF_any (A0 : Option Addr) (c0 : Nat) (l : List Nat) (w : World) (hr : kf.C w A0 l.length l) (hc : l.length ≤ c0) (hl : l.length ≤ 1048576) :
    Calls Try.prog 14 #[.slice A0 l.length c0] w fun e w' => ∃ (v : Value) (B : List Nat), e = .returned v ∧ Kd.R kf 23 w' w.heap.size (fun _ => True) v B ∧ Upto l.length B l ∧ Below w.heap.size w w' := by
  have HR := Aside0.mk hr
  have HC := Aside0.mk hc
  have HL := Aside0.mk hl
  clear hr hc hl
  go_enter Try.func14, Try.ntmps14
  go_wp2_with (first | ((with_reducible refine gate_dst (N := 7) rfl ?_); refine Kd.R_make kf _ 23 rfl (N := 7) rfl 22 _ _ rfl (l.length : Int) rfl rfl Try.underlying22 (.float .f64 0) 8 (by kernel_rfl) rfl (by decide) (by omega) 0 (ok := fun _ => True) (okp := fun _ => True) rfl (fun _ hk => hk) trivial (by omega) (by have := HL.out; omega) (Below.refl _ _) (Nat.le_refl _) ?_; intro vm wm hom hbm hg_ hnew_; clear hg_ hnew_; have HO := Aside0.mk hom; have HB := Aside0.mk hbm; clear hom hbm))
  go_loopw [4] (fun s4 wr => ∃ (i : Nat) (B : List Nat), s4 = .int .i64 (i : Int) ∧ Aside0 (i ≤ l.length ∧ Upto i B l) ∧ Aside0 (Kd.R kf 23 wr w.heap.size (fun _ => True) vm B) ∧ Aside0 (Below w.heap.size w wr)) (fun i _ => l.length - (RowKit.intOf i).toNat)
  case atStart => exact ⟨0, _, rfl, ⟨by omega, by simp, fun j hj => by omega⟩, HO, HB⟩
  case round =>
    clear HO HB
    obtain ⟨i, B, rfl, HI, HO, HB⟩ := hrel
    by_cases hi : i < l.length
    · have hd : decide ((i : Int) < (l.length : Int)) = true := decide_eq_true (by omega)
      obtain ⟨ad, eA, hx⟩ := at_fn HR.out i hi
      subst eA
      replace hx := (HB.out.cell (World.block_lt_of_cell? w _ hx)).trans hx
      have hBl := HI.out.2.1
      have hi2 : i < B.length := by omega
      obtain ⟨g, co, eo, gb, gl, cl, hG⟩ := Kd.R_form HO.out (by omega)
      subst eo
      obtain ⟨hy, hf⟩ := R_cellN 0 HO.out i (by omega)
      have HP := Aside0.mk (R_putN HO.out i (rf l (i : Int)))
      have GB := Aside0.mk gb
      have HU := Aside0.mk (HI.out.2.set hi (Same.refl .f64 (rf l (i : Int))))
      clear hG gb gl hBl
      go_wp2
      have e1 := wk hi (by have := HL.out; omega)
      exact ⟨⟨i + 1, _, congrArg (Value.int .i64) e1, ⟨by omega, HU.out⟩, ⟨HP.out.1⟩, ⟨below_set HB.out GB.out⟩⟩, by rw [e1]; simp [RowKit.intOf]; omega⟩
    · have hd : decide ((i : Int) < (l.length : Int)) = false := decide_eq_false (by omega)
      go_wp2
      go_ret
      obtain rfl : i = l.length := by have := HI.out.1; omega
      exact ⟨_, B, rfl, HO.out, HI.out.2, HB.out⟩
/-! ### Comparing -/
set_option maxHeartbeats 8000000 in
theorem eqF_any (A0 : Option Addr) (c0 : Nat) (x : List Nat) (A1 : Option Addr) (c1 : Nat) (y : List Nat) (n : Nat) (w : World) (hr : kf.C w A0 x.length x) (hs : kf.C w A1 y.length y) (hl : x.length = n) (hl' : y.length = n) (hn : n ≤ 1048576) (hu : ∀ j : Nat, j < n → Same .f64 (rf x j) (rf y j)) :
    Calls Try.prog 18 #[.slice A0 n c0, .slice A1 n c1] w fun e w' => e = .returned (.bool true) ∧ Below w.heap.size w w' := by
  rw [hl] at hr
  rw [hl'] at hs
  have HR := Aside0.mk hr
  have HS := Aside0.mk hs
  have HL := Aside0.mk hn
  have HU := Aside0.mk hu
  clear hr hs hl hl' hn hu
  go_enter Try.func18, Try.ntmps18
  go_wp2
  go_loopw [5] (fun s5 wr => ∃ (i : Nat), s5 = .int .i64 (i : Int) ∧ Aside0 (i ≤ n) ∧ Aside0 (Below w.heap.size w wr)) (fun i _ => n - (RowKit.intOf i).toNat)
  case atStart => exact ⟨0, rfl, ⟨by omega⟩, ⟨Below.refl _ _⟩⟩
  case round =>
    obtain ⟨i, rfl, HI, HB⟩ := hrel
    by_cases hi : i < n
    · have hd : decide ((i : Int) < (n : Int)) = true := decide_eq_true (by omega)
      obtain ⟨ad, eA, hx⟩ := at_fn HR.out i hi
      subst eA
      replace hx := (HB.out.cell (World.block_lt_of_cell? w _ hx)).trans hx
      obtain ⟨ad', eA, hy⟩ := at_fn HS.out i hi
      subst eA
      replace hy := (HB.out.cell (World.block_lt_of_cell? w _ hy)).trans hy
      have e1 := wk hi (by have := HL.out; omega)
      have ct := fun w' => sameFloat_any (HU.out i hi) w'
      go_upto_region 6 with fail
      go_quiet ((go_at_call 29; exact (ct _).mono (fun e w' ⟨h1, k, h2⟩ => ⟨h1, _, h2.trans (World.drewN_drewN ..)⟩)))
      go_wp2
      exact ⟨⟨i + 1, congrArg (Value.int .i64) e1, ⟨by omega⟩, ⟨below_drewN HB.out _⟩⟩, by rw [e1]; simp [RowKit.intOf]; omega⟩
    · have hd : decide ((i : Int) < (n : Int)) = false := decide_eq_false (by omega)
      go_wp2
      go_ret
      exact ⟨rfl, HB.out⟩
/-! ### Marks -/
theorem word_num (f : Ieee.Format) (neg : Bool) (r : Nat) (h : r < f.infRung) : (f.read (f.word neg r)).isNaN = false := by
  have hlt : r < f.signWeight := Nat.lt_trans h f.infRung_lt
  have hmod : f.word neg r % f.signWeight = r := by
    unfold Ieee.Format.word
    split
    · rw [Nat.add_mod_left, Nat.mod_eq_of_lt hlt]
    · rw [Nat.mod_eq_of_lt hlt]
  unfold Ieee.Format.read
  simp only [hmod]
  by_cases hb : r < f.binade
  · rw [if_pos hb]; rfl
  · rw [if_neg hb, if_pos h]; rfl
theorem nan_int (n : Int) (h0 : 0 ≤ n) (h1 : n < 16777216) : nanB .f64 (floatOfInt .f64 n) = false := by
  obtain ⟨r, hr, hw⟩ := nearest_f64 (decide (n < 0)) n.natAbs 0 (by omega) (by omega)
  have e : floatOfInt .f64 n = FloatKind.f64.format.word (decide (n < 0)) r := hw
  rw [e]
  exact word_num _ _ _ hr
theorem w64 (x : Int) (h0 : -9223372036854775808 ≤ x) (h1 : x < 9223372036854775808) : wrap64 x = x := by
  unfold wrap64
  omega
set_option maxHeartbeats 8000000 in
theorem markF_any (ok : Nat → Prop) (A : Option Addr) (c : Nat) (x : List Nat) (a : Int) (n : Nat) (w W : World) (hB : Below w.heap.size w W)
    (ho : Kd.R kf 23 W w.heap.size ok (.slice A n c) x) (ha : 0 ≤ a) (hl : a + n ≤ 10000000) :
    Calls Try.prog 33 #[.slice A n c, .int .i64 a] W fun e W' => e = .returned (.int .i64 (a + n)) ∧ (∃ x', Kd.R kf 23 W' w.heap.size ok (.slice A n c) x' ∧ x'.length = n ∧ ∀ j : Nat, j < n → rf x' j = floatOfInt .f64 (a + j)) ∧ Below w.heap.size w W' ∧ Kept W W' ok := by
  have hx : x.length = n := (Kd.R_reads' ho).1.symm
  have HB := Aside0.mk hB
  have HO := Aside0.mk ho
  have HL := Aside0.mk hl
  have HX := Aside0.mk hx
  have HA := Aside0.mk ha
  clear hB ho hl hx ha
  have uf := Try.underlying23
  have ui : (Try.prog.underlying 3).isSome = true := by rw [Try.underlying3]; rfl
  go_enter Try.func33, Try.ntmps33
  go_wp2
  go_loopw [1, 5] (fun s1 s5 wr => ∃ (i : Nat) (B : List Nat), s1 = .int .i64 (a + i) ∧ s5 = .int .i64 (i : Int) ∧ Aside0 (i ≤ n ∧ B.length = n ∧ ∀ j : Nat, j < i → rf B j = floatOfInt .f64 (a + j)) ∧ Aside0 (Kd.R kf 23 wr w.heap.size ok (.slice A n c) B) ∧ Aside0 (Kept W wr ok) ∧ Aside0 (Below w.heap.size w wr)) (fun _ i _ => n - (RowKit.intOf i).toNat)
  case atStart => exact ⟨0, x, by simp, rfl, ⟨by omega, HX.out, fun j hj => by omega⟩, ⟨HO.out⟩, ⟨Kept.refl W ok⟩, HB⟩
  case round =>
    clear HO HB
    obtain ⟨i, B, rfl, rfl, HI, HO, HK, HB⟩ := hrel
    by_cases hi : i < n
    · have hd : decide ((i : Int) < (n : Int)) = true := decide_eq_true (by omega)
      have hBl := HI.out.2.1
      obtain ⟨g, co, eo, gb, gl, cl, hG⟩ := Kd.R_form HO.out (by omega)
      injection eo with eo1 eo2 eo3
      subst eo1 eo3
      obtain ⟨hy, hf⟩ := R_cellN 0 HO.out i hi
      have HP := Aside0.mk (R_putN HO.out i (floatOfInt .f64 (a + i)))
      have GB := Aside0.mk gb
      have GO := Aside0.mk ((Kd.R_own HO.out))
      have hokg : ok g := HO.out.1 g (by simp [Value.ownBlock])
      have GK := Aside0.mk (HK.out.setCell (p := ⟨g, i, none⟩) (.inl hokg) (.float .f64 (floatOfInt .f64 (a + i))))
      have e1 := wk hi (by have := HL.out; have := HA.out; omega)
      have e2 : wrap64 (a + (i : Int) + 1) = a + ((i + 1 : Nat) : Int) := by rw [w64 _ (by have := HL.out; have := HA.out; omega) (by have := HL.out; have := HA.out; omega)]; omega
      clear hG gb gl hBl GO hokg eo2
      go_wp2
      refine ⟨⟨i + 1, _, congrArg (Value.int .i64) e2, congrArg (Value.int .i64) e1, ⟨by omega, by have := HI.out.2.1; simpa using this, fun j hj => ?_⟩, ⟨HP.out.1⟩, GK, ⟨below_set HB.out GB.out⟩⟩, by rw [e1]; simp [RowKit.intOf]; omega⟩
      have h1 := HI.out.2.1
      unfold rf rdOf
      simp only [Int.toNat_natCast]
      by_cases e : j = i
      · subst e
        rw [List.getD_eq_getElem?_getD, List.getElem?_set_self (by omega)]
        rfl
      · rw [List.getD_eq_getElem?_getD, List.getElem?_set_ne (by omega), ← List.getD_eq_getElem?_getD]
        exact HI.out.2.2 j (by omega)
    · have hd : decide ((i : Int) < (n : Int)) = false := decide_eq_false (by omega)
      go_wp2
      go_ret
      obtain rfl : i = n := by have := HI.out.1; omega
      exact ⟨rfl, ⟨B, HO.out, HI.out.2.1, HI.out.2.2⟩, HB.out, HK.out⟩
set_option maxHeartbeats 8000000 in
theorem heldF_any (A : Option Addr) (c : Nat) (x : List Nat) (a : Int) (n : Nat) (w : World) (hr : kf.C w A n x) (hx : ∀ j : Nat, j < n → rf x j = floatOfInt .f64 (a + j)) (ha : 0 ≤ a) (hl : a + n ≤ 10000000) :
    Calls Try.prog 34 #[.slice A n c, .int .i64 a] w fun e w' => e = .returned (.int .i64 (a + n)) ∧ Below w.heap.size w w' := by
  have HR := Aside0.mk hr
  have HX := Aside0.mk hx
  have HL := Aside0.mk hl
  have HA := Aside0.mk ha
  clear hr hx hl ha
  have uf := Try.underlying23
  have ui : (Try.prog.underlying 3).isSome = true := by rw [Try.underlying3]; rfl
  go_enter Try.func34, Try.ntmps34
  go_wp2
  go_loopw [1, 5] (fun s1 s5 wr => ∃ (i : Nat), s1 = .int .i64 (a + i) ∧ s5 = .int .i64 (i : Int) ∧ Aside0 (i ≤ n) ∧ Aside0 (Below w.heap.size w wr)) (fun _ i _ => n - (RowKit.intOf i).toNat)
  case atStart => exact ⟨0, by simp, rfl, ⟨by omega⟩, ⟨Below.refl _ _⟩⟩
  case round =>
    obtain ⟨i, rfl, rfl, HI, HB⟩ := hrel
    by_cases hi : i < n
    · have hd : decide ((i : Int) < (n : Int)) = true := decide_eq_true (by omega)
      obtain ⟨ad, eA, hy⟩ := at_fn HR.out i hi
      subst eA
      rw [HX.out i hi] at hy
      replace hy := (HB.out.cell (World.block_lt_of_cell? w _ hy)).trans hy
      have ho := order_self (nan_int (a + i) (by have := HA.out; omega) (by have := HL.out; omega))
      have e1 := wk hi (by have := HL.out; have := HA.out; omega)
      have e2 : wrap64 (a + (i : Int) + 1) = a + ((i + 1 : Nat) : Int) := by rw [w64 _ (by have := HL.out; have := HA.out; omega) (by have := HL.out; have := HA.out; omega)]; omega
      go_wp2
      exact ⟨⟨i + 1, congrArg (Value.int .i64) e2, congrArg (Value.int .i64) e1, ⟨by omega⟩, HB⟩, by rw [e1]; simp [RowKit.intOf]; omega⟩
    · have hd : decide ((i : Int) < (n : Int)) = false := decide_eq_false (by omega)
      go_wp2
      go_ret
      obtain rfl : i = n := by have := HI.out; omega
      exact ⟨rfl, HB.out⟩
end Go.Proofs.Ytphfmcdkldcmiaa.Fl
/- Which floats are finite: what the program asks, and what the reference asks. -/
namespace Go.Proofs.Ytphfmcdkldcmiaa.Fl
open Go Go.RowKit Go.Proofs.YtphfmcdkldcmiaaW.PrintWords Go.Proofs.YtphfmcdkldcmiaaW.PrintLast Go.Proofs.YtphfmcdkldcmiaaW.PrintMore
set_option linter.unusedVariables false
set_option linter.unusedSimpArgs false
/-- Is it a number, neither infinite nor a NaN? -/
def finB (x : Nat) : Bool := match FloatKind.f64.format.read x with
  | .number .. => true
  | _ => false
/-- Without its sign. -/
def absF (x : Nat) : Nat := x % 9223372036854775808
theorem read_abs (x : Nat) : FloatKind.f64.format.read (absF x) = match FloatKind.f64.format.read x with
  | .number _ m e => .number false m e
  | .infinity _ => .infinity false
  | .nan _ t => .nan false t := by
  have hs : FloatKind.f64.format.signWeight = 9223372036854775808 := by decide
  unfold absF Ieee.Format.read
  simp only [hs]
  have h1 : x % 9223372036854775808 % 9223372036854775808 = x % 9223372036854775808 := Nat.mod_mod _ _
  have h2 : x % 9223372036854775808 / 9223372036854775808 = 0 := Nat.div_eq_of_lt (Nat.mod_lt _ (by omega))
  simp only [h1, h2]
  split
  · rfl
  · split
    · rfl
    · split <;> rfl
/-- A number's digits and its place. -/
theorem f64_number {x : Nat} {s : Bool} {m : Nat} {e : Int} (h : FloatKind.f64.format.read x = .number s m e) : m < 9007199254740992 ∧ -1074 ≤ e ∧ e ≤ 971 := by
  have hb : FloatKind.f64.format.binade = 4503599627370496 := rfl
  have hi : FloatKind.f64.format.infRung = 2047 * 4503599627370496 := rfl
  have hp : FloatKind.f64.format.leastPlace = -1074 := rfl
  unfold Ieee.Format.read at h
  simp only [hb, hi, hp] at h
  split at h
  · cases h; omega
  · split at h
    · cases h; omega
    · split at h <;> cases h
theorem nan_fin {x : Nat} (h : nanB .f64 x = true) : finB x = false := by
  obtain ⟨s, t, e⟩ := read_nan h
  unfold finB
  rw [e]
/-- 'x > MaxFloat64' of what has no sign. -/
theorem big_abs (x : Nat) (hn : nanB .f64 x = false) : (FloatKind.f64.format.order (absF x) 9218868437227405311 == some .gt) = !(finB x) := by
  have h' : (FloatKind.f64.format.read x).isNaN = false := hn
  have hm : FloatKind.f64.format.read 9218868437227405311 = .number false 9007199254740991 971 := by decide
  unfold Ieee.Format.order finB
  rw [read_abs, hm]
  cases h : FloatKind.f64.format.read x with
  | nan s t => rw [h] at h'; cases h'
  | infinity s => rfl
  | number s m e =>
    obtain ⟨h1, h2, h3⟩ := f64_number h
    have hb : min e 971 = e := by omega
    have hc : m ≤ 9007199254740991 <<< (971 - e).toNat := Nat.le_trans (by omega) (Nat.le_shiftLeft ..)
    simp only [Ieee.Datum.order, hb, Int.sub_self, Int.toNat_zero, Ieee.signed, Nat.shiftLeft_zero, Bool.false_eq_true, if_false, Bool.not_true]
    rw [beq_eq_false_iff_ne]
    intro hg
    injection hg with hg
    simp only [compare, compareOfLessAndEq] at hg
    split at hg
    · cases hg
    · split at hg
      · cases hg
      · omega
/-- 'x-x == 0'. -/
theorem self_sub (x : Nat) (w : World) : (FloatKind.f64.format.order (fAr .sub .f64 x x w) 0 == some .eq) = finB x := by
  cases h : FloatKind.f64.format.read x with
  | nan s t =>
    have hn : nanB .f64 x = true := by show (FloatKind.f64.format.read x).isNaN = true; rw [h]; rfl
    have hf : finB x = false := nan_fin hn
    rw [hf]
    have : nanB .f64 (fAr .sub .f64 x x w) = true := by unfold fAr; rw [bits_nan_l x hn]; exact nan_bits .f64 x x _
    rw [order_nan_l _ this]; rfl
  | infinity s =>
    have hf : finB x = false := by unfold finB; rw [h]
    rw [hf]
    have hb : floatBits .sub .f64 x x = none := by
      show FloatKind.f64.format.sub x x = none
      unfold Ieee.Format.sub
      rw [h]
      cases s <;> rfl
    have : nanB .f64 (fAr .sub .f64 x x w) = true := by unfold fAr; rw [hb]; exact nan_bits .f64 x x _
    rw [order_nan_l _ this]; rfl
  | number s m e =>
    have hf : finB x = true := by unfold finB; rw [h]
    rw [hf]
    have hb : floatBits .sub .f64 x x = some 0 := by
      show FloatKind.f64.format.sub x x = some 0
      unfold Ieee.Format.sub
      rw [h]
      have ht : Ieee.signed s m (e - min e e).toNat + Ieee.signed (!s) m (e - min e e).toNat = 0 := by
        unfold Ieee.signed
        cases s <;> simp <;> omega
      simp only [Ieee.Datum.opposite, Ieee.Datum.sum, ht]
      cases s <;> rfl
    have : fAr .sub .f64 x x w = 0 := by unfold fAr; rw [hb]; rfl
    rw [this]
    have h0 : nanB .f64 0 = false := by decide
    rw [order_self h0]; rfl
end Go.Proofs.Ytphfmcdkldcmiaa.Fl
/- The contracts about finiteness. -/
namespace Go.Proofs.Ytphfmcdkldcmiaa.Fl
open Go Go.RowKit Go.Proofs.YtphfmcdkldcmiaaW.PrintWords Go.Proofs.YtphfmcdkldcmiaaW.PrintLast Go.Proofs.YtphfmcdkldcmiaaW.PrintMore
set_option linter.unusedVariables false
set_option linter.unusedSimpArgs false
theorem andNot_abs (x : Nat) (hx : x < 18446744073709551616) : (bits .andNot .u64 (x : Int) 9223372036854775808).toNat = absF x := by
  have e := u64_andNot_nat x 9223372036854775808 hx (by omega)
  have e2 : ((9223372036854775808 : Nat) : Int) = 9223372036854775808 := rfl
  rw [e2] at e
  rw [e, Int.toNat_natCast]
  unfold absF
  have : (18446744073709551615 - 9223372036854775808 : Nat) = 2 ^ 63 - 1 := by decide
  rw [this, Nat.and_two_pow_sub_one_eq_mod]
theorem isNaN_any (x : Nat) (w : World) : Calls Try.prog 77 #[.float .f64 x] w fun e w' => e = .returned (.bool (nanB .f64 x)) ∧ w' = w := by
  have h := order_self_ne .f64 x
  go_enter Try.func77, Try.ntmps77
  go_wp2
  go_ret
  exact ⟨rfl, rfl⟩
theorem abs_any (x : Nat) (hx : x < 18446744073709551616) (w : World) : Calls Try.prog 69 #[.float .f64 x] w fun e w' => e = .returned (.float .f64 (absF x)) ∧ w' = w := by
  have h := andNot_abs x hx
  have x1 : ∀ w : World, (callFunc 80 #[.float .f64 x]).run Try.prog w = .ok (.value (.int .u64 (x : Int))) w := fun w => by
    rw [run_callFunc_extern (e := Extern.MathFloatBits.float64bits) Try.func80 (by kernel_rfl) (by kernel_rfl) (by kernel_rfl) (by kernel_rfl)]
    rfl
  have x2 : ∀ (n : Int) (w : World), (callFunc 79 #[.int .u64 n]).run Try.prog w = .ok (.value (.float .f64 n.toNat)) w := fun n w => by
    rw [run_callFunc_extern (e := Extern.MathFloatBits.float64frombits) Try.func79 (by kernel_rfl) (by kernel_rfl) (by kernel_rfl) (by kernel_rfl)]
    rfl
  go_enter Try.func69, Try.ntmps69
  go_wp2
  go_ret
  exact ⟨rfl, rfl⟩
theorem isInf_any (x : Nat) (hx : x < 18446744073709551616) (hn : nanB .f64 x = false) (w : World) : Calls Try.prog 78 #[.float .f64 x, .int .i64 0] w fun e w' => e = .returned (.bool (!(finB x))) ∧ w' = w := by
  have h := big_abs x hn
  have ct := fun w => abs_any x hx w
  go_enter Try.func78, Try.ntmps78
  go_wp2_with (go_at_call 69; (refine (ct _).mono ?_); rintro e w' ⟨rfl, rfl⟩)
  go_ret
  exact ⟨rfl, rfl⟩
theorem l4Finite_any (x : Nat) (w : World) : Calls Try.prog 66 #[.float .f64 x] w fun e w' => e = .returned (.bool (finB x)) ∧ ∃ n, w' = w.drewN n := by
  have h := self_sub x w
  go_enter Try.func66, Try.ntmps66
  go_wp2
  go_ret
  exact ⟨rfl, _, rfl⟩
end Go.Proofs.Ytphfmcdkldcmiaa.Fl
/- Squat, by the reference and by the program. -/
namespace Go.Proofs.Ytphfmcdkldcmiaa.Fl
open Go Go.RowKit Go.Proofs.YtphfmcdkldcmiaaW.PrintWords Go.Proofs.YtphfmcdkldcmiaaW.PrintLast Go.Proofs.YtphfmcdkldcmiaaW.PrintMore
set_option linter.unusedVariables false
set_option linter.unusedSimpArgs false
theorem all_of (l : List Nat) (h : ∀ j : Nat, j < l.length → finB (rf l j) = true) : l.all finB = true := by
  rw [List.all_eq_true]
  intro x hx
  obtain ⟨j, hj, rfl⟩ := List.getElem_of_mem hx
  have := h j hj
  unfold rf rdOf at this
  simpa [hj] using this
theorem not_all (l : List Nat) (j : Nat) (hj : j < l.length) (h : finB (rf l j) = false) : l.all finB = false := by
  rw [List.all_eq_false]
  refine ⟨l[j], List.getElem_mem hj, ?_⟩
  unfold rf rdOf at h
  simp [hj] at h
  simp [h]
set_option maxHeartbeats 8000000 in
theorem finite_any (A0 : Option Addr) (c0 : Nat) (l : List Nat) (n : Nat) (w : World) (hr : kf.C w A0 n l) (hn : n ≤ 1048576) (hx : ∀ j : Nat, j < n → rf l j < 18446744073709551616) :
    Calls Try.prog 67 #[.slice A0 n c0] w fun e w' => e = .returned (.bool (l.all finB)) ∧ Below w.heap.size w w' := by
  have hlen : l.length = n := hr.1
  have HR := Aside0.mk hr
  have HL := Aside0.mk hn
  have HX := Aside0.mk hx
  have HN := Aside0.mk hlen
  clear hr hn hx hlen
  go_enter Try.func67, Try.ntmps67
  go_wp2
  go_loopw [7] (fun s7 wr => ∃ (i : Nat), s7 = .int .i64 (i : Int) ∧ Aside0 (i ≤ n ∧ ∀ j : Nat, j < i → finB (rf l j) = true) ∧ Aside0 (Below w.heap.size w wr)) (fun i _ => n - (RowKit.intOf i).toNat)
  case atStart => exact ⟨0, rfl, ⟨by omega, fun j hj => by omega⟩, ⟨Below.refl _ _⟩⟩
  case round =>
    obtain ⟨i, rfl, HI, HB⟩ := hrel
    by_cases hi : i < n
    · have hd : decide ((i : Int) < (n : Int)) = true := decide_eq_true (by omega)
      obtain ⟨ad, eA, hx⟩ := at_fn HR.out i hi
      subst eA
      replace hx := (HB.out.cell (World.block_lt_of_cell? w _ hx)).trans hx
      have e1 := wk hi (by have := HL.out; omega)
      cases hnan : nanB .f64 (rf l (i : Int)) with
      | true =>
        have e2 := Aside0.mk (not_all l i (by have := HN.out; omega) (nan_fin hnan))
        have ct := fun w => isNaN_any (rf l (i : Int)) w
        rw [hnan] at ct
        go_wp2_with (go_at_call 77; refine (ct _).mono ?_; rintro e w' ⟨rfl, rfl⟩)
        go_ret
        exact ⟨by rw [e2.out]; rfl, HB.out⟩
      | false =>
        have ct := fun w => isNaN_any (rf l (i : Int)) w
        rw [hnan] at ct
        have cu := fun w => isInf_any (rf l (i : Int)) (HX.out i hi) hnan w
        cases hfin : finB (rf l (i : Int)) with
        | true =>
          rw [hfin] at cu
          have HS := Aside0.mk (show ∀ j : Nat, j < i + 1 → finB (rf l j) = true from fun j hj => by
            by_cases e : j = i
            · subst e; exact hfin
            · exact HI.out.2 j (by omega))
          go_wp2_with (first | (go_at_call 77; refine (ct _).mono ?_; rintro e w' ⟨rfl, rfl⟩) | (go_at_call 78; refine (cu _).mono ?_; rintro e w' ⟨rfl, rfl⟩))
          exact ⟨⟨i + 1, congrArg (Value.int .i64) (by first | exact e1 | omega), ⟨by omega, HS.out⟩, HB⟩, by (try rw [e1]); simp [RowKit.intOf]; omega⟩
        | false =>
          rw [hfin] at cu
          have e2 := Aside0.mk (not_all l i (by have := HN.out; omega) hfin)
          go_wp2_with (first | (go_at_call 77; refine (ct _).mono ?_; rintro e w' ⟨rfl, rfl⟩) | (go_at_call 78; refine (cu _).mono ?_; rintro e w' ⟨rfl, rfl⟩))
          go_ret
          exact ⟨by rw [e2.out]; rfl, HB.out⟩
    · have hd : decide ((i : Int) < (n : Int)) = false := decide_eq_false (by omega)
      go_wp2
      go_ret
      obtain rfl : i = n := by have := HI.out.1; omega
      have e2 := all_of l (fun j hj => HI.out.2 j (by have := HN.out; omega))
      exact ⟨by rw [e2]; rfl, HB.out⟩
/-! ### Squat -/
def ltB (x : Nat) : Bool := FloatKind.f64.format.order x 0 == some .lt
def eqB (x : Nat) : Bool := FloatKind.f64.format.order x 0 == some .eq
def sqOk (a b c d : Nat) : Bool := (finB a && finB b && finB c && finB d) && !(ltB a) && !(ltB b) && !(ltB c) && !(ltB d || eqB d)
def sqVal (a b c d : Nat) : Nat := fP .quo .f64 (fP .mul .f64 (fP .mul .f64 (fP .mul .f64 a a) b) (fP .add .f64 4607182418800017408 (fP .quo .f64 c d))) 4636737291354636288
attribute [local go_sem] run_fquo
/-- A row of four floats just laid. -/
theorem C_four (w : World) (a b c d : Nat) (t : TypeId) : kf.C (w.alloc (.cells #[.float .f64 a, .float .f64 b, .float .f64 c, .float .f64 d] t)) (some ⟨w.heap.size, 0, none⟩) 4 [a, b, c, d] := by
  refine Kd.C_of_reads (d := 0) ⟨rfl, by decide, fun _ => ⟨_, rfl, fun j hj => ?_⟩⟩
  rw [add_plain, blk_cell (heap_alloc_at w _ _ rfl)]
  match j, hj with
  | 0, _ => rfl
  | 1, _ => rfl
  | 2, _ => rfl
  | 3, _ => rfl
/-- What Squat answers. -/
def SqIs (a b c d : Nat) (e : Ending) : Prop := ∃ v : Nat, e = .returned (.tuple #[.float .f64 v, .bool (sqOk a b c d)]) ∧ Same .f64 v (if sqOk a b c d then sqVal a b c d else 0)
set_option maxHeartbeats 8000000 in
theorem squat_impl (a b c d : Nat) (ha : a < 18446744073709551616) (hb : b < 18446744073709551616) (hc : c < 18446744073709551616) (hd : d < 18446744073709551616) (w : World) :
    Calls Try.prog 36 #[.float .f64 a, .float .f64 b, .float .f64 c, .float .f64 d] w fun e w' => SqIs a b c d e ∧ Below w.heap.size w w' := by
  have HC := Aside0.mk (C_four w a b c d 23)
  have HX := Aside0.mk (show ∀ j : Nat, j < 4 → rf [a, b, c, d] j < 18446744073709551616 from fun j hj => by
    match j, hj with
    | 0, _ => exact ha
    | 1, _ => exact hb
    | 2, _ => exact hc
    | 3, _ => exact hd)
  clear ha hb hc hd
  have ct := Aside0.mk (finite_any (some ⟨w.heap.size, 0, none⟩) 4 [a, b, c, d] 4 _ HC.out (by omega) HX.out)
  have hall : [a, b, c, d].all finB = (finB a && finB b && finB c && finB d) := by simp [Bool.and_assoc]
  cases hF : ([a, b, c, d].all finB) with
  | false =>
    have hok := Aside0.mk (show sqOk a b c d = false by unfold sqOk ltB eqB; rw [← hall]; simp [hF])
    rw [hF] at ct
    clear hall
    go_enter Try.func36, Try.ntmps36
    go_wp2_with (first | (go_at_call 67; refine ct.out.mono ?_; rintro e w1 ⟨rfl, hb1⟩; have HB := Aside0.mk ((below_al (Below.refl w.heap.size w) _).trans (hb1.mono (by simp))); clear hb1) | (go_at_call 62; refine (by_any _ _ _).mono ?_; rintro e w' ⟨rfl, rfl⟩))
    refine ret_val ?_ rfl; simp [results, Try.results36, go_sem]
    exact ⟨⟨0, by rw [hok.out], by rw [hok.out]; exact Same.refl _ _⟩, HB.out⟩
  | true =>
    rw [hF] at ct
    cases h1 : (FloatKind.f64.format.order a 0 == some .lt) with
    | true =>
      have hok := Aside0.mk (show sqOk a b c d = false by unfold sqOk ltB eqB; rw [← hall]; simp [hF, h1])
      clear hall
      go_enter Try.func36, Try.ntmps36
      go_wp2_with (first | (go_at_call 67; refine ct.out.mono ?_; rintro e w1 ⟨rfl, hb1⟩; have HB := Aside0.mk ((below_al (Below.refl w.heap.size w) _).trans (hb1.mono (by simp))); clear hb1) | (go_at_call 62; refine (by_any _ _ _).mono ?_; rintro e w' ⟨rfl, rfl⟩))
      refine ret_val ?_ rfl; simp [results, Try.results36, go_sem]
      exact ⟨⟨0, by rw [hok.out], by rw [hok.out]; exact Same.refl _ _⟩, HB.out⟩
    | false =>
      cases h2 : (FloatKind.f64.format.order b 0 == some .lt) with
      | true =>
        have hok := Aside0.mk (show sqOk a b c d = false by unfold sqOk ltB eqB; rw [← hall]; simp [hF, h1, h2])
        clear hall
        go_enter Try.func36, Try.ntmps36
        go_wp2_with (first | (go_at_call 67; refine ct.out.mono ?_; rintro e w1 ⟨rfl, hb1⟩; have HB := Aside0.mk ((below_al (Below.refl w.heap.size w) _).trans (hb1.mono (by simp))); clear hb1) | (go_at_call 62; refine (by_any _ _ _).mono ?_; rintro e w' ⟨rfl, rfl⟩))
        refine ret_val ?_ rfl; simp [results, Try.results36, go_sem]
        exact ⟨⟨0, by rw [hok.out], by rw [hok.out]; exact Same.refl _ _⟩, HB.out⟩
      | false =>
        cases h3 : (FloatKind.f64.format.order c 0 == some .lt) with
        | true =>
          have hok := Aside0.mk (show sqOk a b c d = false by unfold sqOk ltB eqB; rw [← hall]; simp [hF, h1, h2, h3])
          clear hall
          go_enter Try.func36, Try.ntmps36
          go_wp2_with (first | (go_at_call 67; refine ct.out.mono ?_; rintro e w1 ⟨rfl, hb1⟩; have HB := Aside0.mk ((below_al (Below.refl w.heap.size w) _).trans (hb1.mono (by simp))); clear hb1) | (go_at_call 62; refine (by_any _ _ _).mono ?_; rintro e w' ⟨rfl, rfl⟩))
          refine ret_val ?_ rfl; simp [results, Try.results36, go_sem]
          exact ⟨⟨0, by rw [hok.out], by rw [hok.out]; exact Same.refl _ _⟩, HB.out⟩
        | false =>
          cases h4 : (FloatKind.f64.format.order d 0 == some .lt || FloatKind.f64.format.order d 0 == some .eq) with
          | true =>
            have hok := Aside0.mk (show sqOk a b c d = false by unfold sqOk ltB eqB; rw [← hall]; simp [hF, h1, h2, h3, h4])
            clear hall
            go_enter Try.func36, Try.ntmps36
            go_wp2_with (first | (go_at_call 67; refine ct.out.mono ?_; rintro e w1 ⟨rfl, hb1⟩; have HB := Aside0.mk ((below_al (Below.refl w.heap.size w) _).trans (hb1.mono (by simp))); clear hb1) | (go_at_call 62; refine (by_any _ _ _).mono ?_; rintro e w' ⟨rfl, rfl⟩))
            refine ret_val ?_ rfl; simp [results, Try.results36, go_sem]
            exact ⟨⟨0, by rw [hok.out], by rw [hok.out]; exact Same.refl _ _⟩, HB.out⟩
          | false =>
            have hok := Aside0.mk (show sqOk a b c d = true by unfold sqOk ltB eqB; rw [← hall]; simp [hF, h1, h2, h3, h4])
            clear hall
            go_enter Try.func36, Try.ntmps36
            go_wp2_with (first | (go_at_call 67; refine ct.out.mono ?_; rintro e w1 ⟨rfl, hb1⟩; have HB := Aside0.mk ((below_al (Below.refl w.heap.size w) _).trans (hb1.mono (by simp))); clear hb1) | (go_at_call 62; refine (by_any _ _ _).mono ?_; rintro e w' ⟨rfl, rfl⟩))
            refine ret_val ?_ rfl; simp [results, Try.results36, go_sem]
            exact ⟨⟨_, by rw [hok.out], by rw [hok.out]; exact fAr_same (fAr_same (fAr_same (fAr_same (Same.refl _ _) (Same.refl _ _) _) (Same.refl _ _) _) (fAr_same (Same.refl _ _) (fAr_same (Same.refl _ _) (Same.refl _ _) _) _) _) (Same.refl _ _) _⟩, by repeat (first | exact HB.out | apply below_drewN)⟩
theorem sq_bad (a b c d : Nat) (j : Nat) (hj : j < 4) (h : (finB (rf [a, b, c, d] j) && !(FloatKind.f64.format.order (rf [a, b, c, d] j) 0 == some .lt)) = false) : sqOk a b c d = false := by
  unfold sqOk ltB eqB
  match j, hj with
  | 0, _ => have h' : (finB a && !(FloatKind.f64.format.order a 0 == some .lt)) = false := h; revert h'; cases finB a <;> cases (FloatKind.f64.format.order a 0 == some .lt) <;> simp
  | 1, _ => have h' : (finB b && !(FloatKind.f64.format.order b 0 == some .lt)) = false := h; revert h'; cases finB b <;> cases (FloatKind.f64.format.order b 0 == some .lt) <;> simp
  | 2, _ => have h' : (finB c && !(FloatKind.f64.format.order c 0 == some .lt)) = false := h; revert h'; cases finB c <;> cases (FloatKind.f64.format.order c 0 == some .lt) <;> simp
  | 3, _ => have h' : (finB d && !(FloatKind.f64.format.order d 0 == some .lt)) = false := h; revert h'; cases finB d <;> cases (FloatKind.f64.format.order d 0 == some .lt) <;> simp
theorem sq_good (a b c d : Nat) (h : ∀ j : Nat, j < 4 → (finB (rf [a, b, c, d] j) && !(FloatKind.f64.format.order (rf [a, b, c, d] j) 0 == some .lt)) = true) : sqOk a b c d = !(FloatKind.f64.format.order d 0 == some .eq) := by
  have h0 : (finB a && !(FloatKind.f64.format.order a 0 == some .lt)) = true := h 0 (by omega)
  have h1 : (finB b && !(FloatKind.f64.format.order b 0 == some .lt)) = true := h 1 (by omega)
  have h2 : (finB c && !(FloatKind.f64.format.order c 0 == some .lt)) = true := h 2 (by omega)
  have h3 : (finB d && !(FloatKind.f64.format.order d 0 == some .lt)) = true := h 3 (by omega)
  rw [Bool.and_eq_true] at h0 h1 h2 h3
  unfold sqOk ltB eqB
  rw [h0.1, h1.1, h2.1, h3.1, h0.2, h1.2, h2.2]
  have : (FloatKind.f64.format.order d 0 == some .lt) = false := by have := h3.2; simpa using this
  rw [this]
  simp
set_option maxHeartbeats 8000000 in
theorem squat_spec (a b c d : Nat) (w : World) :
    Calls Try.prog 35 #[.float .f64 a, .float .f64 b, .float .f64 c, .float .f64 d] w fun e w' => SqIs a b c d e ∧ Below w.heap.size w w' := by
  have HC := Aside0.mk (C_four w a b c d 23)
  have HB0 := Aside0.mk (below_al (Below.refl w.heap.size w) (.cells #[.float .f64 a, .float .f64 b, .float .f64 c, .float .f64 d] 23))
  go_enter Try.func35, Try.ntmps35
  go_wp2
  go_loopw [11] (fun s11 wr => ∃ (i : Nat), s11 = .int .i64 (i : Int) ∧ Aside0 (i ≤ 4 ∧ ∀ j : Nat, j < i → (finB (rf [a, b, c, d] j) && !(FloatKind.f64.format.order (rf [a, b, c, d] j) 0 == some .lt)) = true) ∧ Aside0 (Below (w.heap.size + 1) (w.alloc (.cells #[.float .f64 a, .float .f64 b, .float .f64 c, .float .f64 d] 23)) wr)) (fun i _ => 4 - (RowKit.intOf i).toNat)
  case atStart => exact ⟨0, rfl, ⟨by omega, fun j hj => by omega⟩, ⟨Below.refl _ _⟩⟩
  case round =>
    obtain ⟨i, rfl, HI, HB⟩ := hrel
    have hsz : (w.alloc (.cells #[.float .f64 a, .float .f64 b, .float .f64 c, .float .f64 d] 23)).heap.size = w.heap.size + 1 := by simp
    by_cases hi : i < 4
    · have hd : decide ((i : Int) < 4) = true := decide_eq_true (by omega)
      obtain ⟨ad, eA, hx⟩ := at_fn HC.out i hi
      injection eA with eA
      subst eA
      replace hx := (HB.out.cell (by have := World.block_lt_of_cell? _ _ hx; omega)).trans hx
      rw [add_plain] at hx
      obtain ⟨x, hxx⟩ : ∃ x, x = rf [a, b, c, d] (i : Int) := ⟨_, rfl⟩
      have HXX := Aside0.mk hxx
      rw [← hxx] at hx
      clear hxx
      have ct := fun w => l4Finite_any x w
      cases hF : finB x with
      | false =>
        have hok := Aside0.mk (sq_bad a b c d i hi (by rw [← HXX.out, hF]; rfl))
        rw [hF] at ct
        go_wp2_with (go_at_call 66; refine (ct _).mono ?_; rintro e w' ⟨rfl, n, rfl⟩)
        refine ret_val ?_ rfl; simp [results, Try.results35, go_sem]
        exact ⟨⟨0, by rw [hok.out], by rw [hok.out]; exact Same.refl _ _⟩, below_drewN (HB0.out.trans (HB.out.mono (by simp))) _⟩
      | true =>
        rw [hF] at ct
        cases hlt : (FloatKind.f64.format.order x 0 == some .lt) with
        | true =>
          have hok := Aside0.mk (sq_bad a b c d i hi (by rw [← HXX.out, hF, hlt]; rfl))
          go_wp2_with (go_at_call 66; refine (ct _).mono ?_; rintro e w' ⟨rfl, n, rfl⟩)
          refine ret_val ?_ rfl; simp [results, Try.results35, go_sem]
          exact ⟨⟨0, by rw [hok.out], by rw [hok.out]; exact Same.refl _ _⟩, below_drewN (HB0.out.trans (HB.out.mono (by simp))) _⟩
        | false =>
          have HS := Aside0.mk (show ∀ j : Nat, j < i + 1 → (finB (rf [a, b, c, d] j) && !(FloatKind.f64.format.order (rf [a, b, c, d] j) 0 == some .lt)) = true from fun j hj => by
            by_cases e : j = i
            · subst e; rw [← HXX.out, hF, hlt]; rfl
            · exact HI.out.2 j (by omega))
          go_wp2_with (go_at_call 66; refine (ct _).mono ?_; rintro e w' ⟨rfl, n, rfl⟩)
          exact ⟨⟨i + 1, congrArg (Value.int .i64) (by first | rfl | omega), ⟨by omega, HS.out⟩, ⟨below_drewN HB.out _⟩⟩, by simp [RowKit.intOf]; omega⟩
    · have hd : decide ((i : Int) < 4) = false := decide_eq_false (by omega)
      obtain rfl : i = 4 := by have := HI.out.1; omega
      have hg := sq_good a b c d HI.out.2
      cases heq : (FloatKind.f64.format.order d 0 == some .eq) with
      | true =>
        have hok := Aside0.mk (show sqOk a b c d = false by rw [hg, heq]; rfl)
        clear hg
        go_wp2
        refine ret_val ?_ rfl; simp [results, Try.results35, go_sem]
        exact ⟨⟨0, by rw [hok.out], by rw [hok.out]; exact Same.refl _ _⟩, HB0.out.trans (HB.out.mono (by simp))⟩
      | false =>
        have hok := Aside0.mk (show sqOk a b c d = true by rw [hg, heq]; rfl)
        clear hg
        go_wp2
        refine ret_val ?_ rfl; simp [results, Try.results35, go_sem]
        exact ⟨⟨_, by rw [hok.out], by rw [hok.out]; exact fAr_same (fAr_same (fAr_same (fAr_same (Same.refl _ _) (Same.refl _ _) _) (Same.refl _ _) _) (fAr_same (Same.refl _ _) (fAr_same (Same.refl _ _) (Same.refl _ _) _) _) _) (Same.refl _ _) _⟩, by repeat (first | exact HB0.out.trans (HB.out.mono (by simp)) | apply below_drewN)⟩
end Go.Proofs.Ytphfmcdkldcmiaa.Fl
/- The law of Squat. -/
namespace Go.Proofs.Ytphfmcdkldcmiaa.Fl
open Go Go.RowKit Go.Proofs.YtphfmcdkldcmiaaW.PrintWords Go.Proofs.YtphfmcdkldcmiaaW.PrintLast Go.Proofs.YtphfmcdkldcmiaaW.PrintMore
set_option linter.unusedVariables false
set_option linter.unusedSimpArgs false
theorem wf64 {a : Nat} (h : (Lit.float .f64 a).wf = true) : a < 18446744073709551616 := of_decide_eq_true h
set_option maxHeartbeats 8000000 in
theorem row_Squat (a b c d : Nat) (w : World) (ha : (Lit.float .f64 a).wf = true) (hb : (Lit.float .f64 b).wf = true) (hc : (Lit.float .f64 c).wf = true) (hd : (Lit.float .f64 d).wf = true) :
    Calls Try.prog 7 #[.float .f64 a, .float .f64 b, .float .f64 c, .float .f64 d] w fun e w' => e = .returned (.bool true) ∧ Below w.heap.size w w' := by
  have c1 := fun w => squat_spec a b c d w
  have c2 := fun w => squat_impl a b c d (wf64 ha) (wf64 hb) (wf64 hc) (wf64 hd) w
  clear ha hb hc hd
  unfold SqIs at c1 c2
  generalize sqOk a b c d = ok at c1 c2
  generalize (if ok = true then sqVal a b c d else 0) = val at c1 c2
  go_enter Try.func7, Try.ntmps7
  go_wp2_with fail
  refine (c1 _).mono ?_
  rintro e w1 ⟨⟨v1, rfl, h1⟩, hb1⟩
  have HB := Aside0.mk hb1
  have H1 := Aside0.mk h1
  clear hb1 h1
  go_wp2_with fail
  refine (c2 _).mono ?_
  rintro e w2 ⟨⟨v2, rfl, h2⟩, hb2⟩
  have H2 := Aside0.mk h2
  replace HB := Aside0.mk (HB.out.trans (hb2.mono HB.out.size))
  clear hb2 h2
  have ct := sameFloat_any (H2.out.trans H1.out.symm) w2
  clear c1 c2
  cases ok with
  | true =>
    go_wp2_with fail
    refine ct.mono ?_
    rintro e w' ⟨rfl, n, rfl⟩
    go_wp2
    go_ret
    exact ⟨rfl, below_drewN HB.out _⟩
  | false =>
    go_wp2_with fail
    refine ct.mono ?_
    rintro e w' ⟨rfl, n, rfl⟩
    go_wp2
    go_ret
    exact ⟨rfl, below_drewN HB.out _⟩
end Go.Proofs.Ytphfmcdkldcmiaa.Fl
/- Arguments that came in, read as plain data of the print's kinds: a struct by its fields, a slice by its elements. -/
namespace Go.Proofs.Ytphfmcdkldcmiaa.Op
open Go.ChangeShapes Go.WideShapes Go.Deep Go.Proofs.YtphfmcdkldcmiaaW.PrintWords

/-- Whatever the data's reader takes of type t is a value of the kind d, and Q holds of it. -/
def Opens {α : Type} (P : Program) (d : Kd α) (t : TypeId) (Q : α → Prop) : Prop :=
  ∀ (H : Type) (enc : TypeId × Value → H) (w : World) (base : Nat) (spare : Nat → Bool) (held : Bool) (fuel : Nat) (cs : List Value) (x : DataW H × List MemPlace),
    DataW.trod enc P w base spare held fuel t cs = some x → ∃ a : α, d.K w a cs ∧ Q a

theorem opens_int {P : Program} {t : TypeId} {k : IntKind} (ht : P.underlying t = some (.int k)) : Opens P (Kd.int k) t (fun n => (Lit.int k n).wf = true) := by
  intro H enc w base spare held fuel cs x h
  cases fuel with
  | zero => simp [DataW.trod] at h
  | succ n =>
    simp only [DataW.trod, ht] at h
    split at h <;> simp_all
    exact ⟨_, rfl, h.1.2⟩

theorem opens_bool {P : Program} {t : TypeId} (ht : P.underlying t = some .bool) : Opens P Kd.bool t (fun _ => True) := by
  intro H enc w base spare held fuel cs x h
  cases fuel with
  | zero => simp [DataW.trod] at h
  | succ n =>
    simp only [DataW.trod, ht] at h
    split at h <;> first | (simp_all; done) | exact ⟨_, rfl, trivial⟩

theorem fmt_one (k : FloatKind) (x : Nat) : (Value.float k x).oneCell' = true := rfl
/-- Floats, by their bits. -/
def kfloat (k : FloatKind) : Kd Nat := Kd.scalar (Value.float k) (fmt_one k)
theorem opens_float {P : Program} {t : TypeId} {k : FloatKind} (ht : P.underlying t = some (.float k)) : Opens P (kfloat k) t (fun n => (Lit.float k n).wf = true) := by
  intro H enc w base spare held fuel cs x h
  cases fuel with
  | zero => simp [DataW.trod] at h
  | succ n =>
    simp only [DataW.trod, ht] at h
    split at h <;> simp_all
    exact ⟨_, rfl, h.1.2⟩

theorem opens_slice {P : Program} {α : Type} {d : Kd α} {t e : TypeId} {Q : α → Prop} (ht : P.underlying t = some (.slice e)) (hc : P.cellsOf e = d.sz) (hd : Opens P d e Q) :
    Opens P (Kd.slice e d) t (fun xs => xs.length ≤ maxLen ∧ ∀ x ∈ xs, Q x) := by
  intro H enc w base spare held fuel cs x h
  rcases open_slice ht h with ⟨rfl, _⟩ | ⟨a, len, cap, m, n, D, Pl, rfl, hb, hl, hm, hmm, rfl, hx⟩
  · exact ⟨[], ⟨none, 0, rfl, Nat.le_refl _, Kd.C_nil _ _⟩, Nat.zero_le _, fun x hx => by cases hx⟩
  · have hle : len ≤ m := by rw [hmm]; split <;> omega
    have key : ∀ i, i < len → ∃ z : α, Q z ∧ ∃ c, c.length = d.sz ∧ d.K w z c ∧ ∀ j u, c[j]? = some u → w.cell? (a.add (i * d.sz + j)) = some u := by
      intro i hi
      obtain ⟨cs', h1, h2⟩ := hx i (by omega)
      obtain ⟨z, hz, hq⟩ := hd H enc w base spare held n cs' _ h2
      refine ⟨z, hq, cs', d.K_len hz, hz, fun j u hj => ?_⟩
      rw [hc] at h1
      have hlt : j < d.sz := by
        have := (List.getElem?_eq_some_iff.1 hj).1
        have := (World.cells?_some h1).2.1
        omega
      have := (World.cells?_some h1).2.2 j hlt
      rw [Deep.add_add, hj] at this
      exact this
    have hex : ∃ xs : List α, xs.length = len ∧ ∀ i z, xs[i]? = some z → Q z ∧ ∃ c, c.length = d.sz ∧ d.K w z c ∧ ∀ j u, c[j]? = some u → w.cell? (a.add (i * d.sz + j)) = some u := by
      clear hx h hmm
      revert key
      generalize len = L
      intro key
      induction L with
      | zero => exact ⟨[], rfl, fun i z hz => by simp at hz⟩
      | succ L ih =>
        obtain ⟨xs, hlen, hxs⟩ := ih (fun i hi => key i (by omega))
        obtain ⟨z, hz⟩ := key L (by omega)
        refine ⟨xs ++ [z], by simp [hlen], fun i y hy => ?_⟩
        by_cases hi : i < xs.length
        · rw [List.getElem?_append_left hi] at hy
          exact hxs i y hy
        · have hlt : i < (xs ++ [z]).length := (List.getElem?_eq_some_iff.1 hy).1
          simp at hlt
          obtain rfl : i = L := by omega
          rw [List.getElem?_append_right (by omega), hlen, Nat.sub_self] at hy
          cases hy
          exact hz
    obtain ⟨xs, hlen, hxs⟩ := hex
    refine ⟨xs, ⟨some a, cap, by rw [hlen], by omega, ⟨rfl, ?_, fun _ => ⟨a, rfl, fun j p hj => (hxs j p hj).2⟩⟩⟩, by omega, fun z hz => ?_⟩
    · have : maxLen = 9223372036854775807 := rfl
      omega
    · obtain ⟨i, hi⟩ := List.getElem?_of_mem hz
      exact (hxs i z hi).1

/-- The fields from offset 'off' on, as a kind. -/
def Fields {α : Type} (P : Program) (d : Kd α) (fs : List Field) (off : Nat) (Q : α → Prop) : Prop :=
  ∀ (H : Type) (enc : TypeId × Value → H) (w : World) (base : Nat) (spare : Nat → Bool) (held : Bool) (fuel : Nat) (cs : List Value) (xs : List (DataW H × List MemPlace)),
    fs.mapM (fun f => DataW.trod enc P w base spare held fuel f.type ((cs.drop f.offset).take (P.cellsOf f.type))) = some xs → off + d.sz ≤ cs.length → ∃ a : α, d.K w a ((cs.drop off).take d.sz) ∧ Q a

theorem fields_one {P : Program} {α : Type} {d : Kd α} {f : Field} {off : Nat} {Q : α → Prop} (ho : f.offset = off) (hc : P.cellsOf f.type = d.sz) (hd : Opens P d f.type Q) : Fields P d [f] off Q := by
  intro H enc w base spare held fuel cs xs h hl
  simp only [List.mapM_cons, List.mapM_nil, Option.bind_eq_bind, Option.pure_def] at h
  obtain ⟨y, hy, _⟩ := Option.bind_eq_some_iff.1 h
  rw [hc, ho] at hy
  exact hd H enc w base spare held fuel _ _ hy

theorem fields_cons {P : Program} {α β : Type} {d : Kd α} {d' : Kd β} {f : Field} {fs : List Field} {off : Nat} {Q : α → Prop} {Q' : β → Prop} (ho : f.offset = off) (hc : P.cellsOf f.type = d.sz)
    (hd : Opens P d f.type Q) (hr : Fields P d' fs (off + d.sz) Q') : Fields P (Kd.pair d d') (f :: fs) off (fun x => Q x.1 ∧ Q' x.2) := by
  intro H enc w base spare held fuel cs xs h hl
  have hsz : (Kd.pair d d').sz = d.sz + d'.sz := rfl
  rw [hsz] at hl
  simp only [List.mapM_cons, Option.bind_eq_bind, Option.pure_def] at h
  obtain ⟨y, hy, h⟩ := Option.bind_eq_some_iff.1 h
  obtain ⟨ys, hys, _⟩ := Option.bind_eq_some_iff.1 h
  rw [hc, ho] at hy
  obtain ⟨a, ha, hqa⟩ := hd H enc w base spare held fuel _ _ hy
  obtain ⟨b, hb, hqb⟩ := hr H enc w base spare held fuel cs ys hys (by omega)
  refine ⟨(a, b), ⟨(cs.drop off).take d.sz, (cs.drop (off + d.sz)).take d'.sz, ?_, ha, hb⟩, hqa, hqb⟩
  rw [hsz, List.take_add, List.drop_drop]

theorem opens_struct {P : Program} {α β : Type} {d : Kd α} {t : TypeId} {fs : Array Field} {Q : α → Prop} (f : β → α) (g : α → β) (hfg : ∀ a, f (g a) = a) (ht : P.underlying t = some (.struct fs)) (hc : P.cellsOf t = d.sz)
    (hr : Fields P d fs.toList 0 Q) : Opens P (Kd.iso d f) t (fun b => Q (f b)) := by
  intro H enc w base spare held fuel cs x h
  cases fuel with
  | zero => simp [DataW.trod] at h
  | succ n =>
    have hh : (if cs.length = P.cellsOf t then (fs.toList.mapM fun f => DataW.trod enc P w base spare held n f.type ((cs.drop f.offset).take (P.cellsOf f.type))).map fun xs => (DataW.agg (xs.map (·.1)), xs.flatMap (·.2)) else none) = some x := by
      rw [← h]
      simp only [DataW.trod, ht]
    split at hh
    · rename_i hlen
      obtain ⟨xs, hxs, _⟩ := Option.map_eq_some_iff.1 hh
      obtain ⟨a, ha, hq⟩ := hr H enc w base spare held n cs xs hxs (by omega)
      refine ⟨g a, ?_, by show Q (f (g a)); rw [hfg]; exact hq⟩
      show d.K w (f (g a)) cs
      rw [hfg]
      rw [List.drop_zero, List.take_of_length_le (by omega)] at ha
      exact ha
    · cases hh

/-! ### Of a whole argument -/
theorem arg_int {P : Program} {t : TypeId} {k : IntKind} {H : Type} {enc : TypeId × Value → H} {w : World} {r : Reach} {b0 base : Nat} {spare : Nat → Bool} {held : Bool} {v : Value} {x : DataW H} {ps : List MemPlace}
    (ht : P.underlying t = some (.int k)) (hv : Value.okWide P w r b0 t v) (h : DataW.Trod enc P w base spare held t v x ps) : ∃ n : Int, v = .int k n ∧ (Lit.int k n).wf = true := by
  obtain ⟨n, rfl, _, _, wn⟩ := open_int ht hv h
  exact ⟨n, rfl, wn⟩
theorem arg_bool {P : Program} {t : TypeId} {H : Type} {enc : TypeId × Value → H} {w : World} {r : Reach} {b0 base : Nat} {spare : Nat → Bool} {held : Bool} {v : Value} {x : DataW H} {ps : List MemPlace}
    (ht : P.underlying t = some .bool) (hv : Value.okWide P w r b0 t v) (h : DataW.Trod enc P w base spare held t v x ps) : ∃ b : Bool, v = .bool b := by
  obtain ⟨b, rfl, _, _⟩ := RowKit.open_bool ht hv h
  exact ⟨b, rfl⟩
theorem arg_float {P : Program} {t : TypeId} {k : FloatKind} {H : Type} {enc : TypeId × Value → H} {w : World} {r : Reach} {b0 base : Nat} {spare : Nat → Bool} {held : Bool} {v : Value} {x : DataW H} {ps : List MemPlace}
    (ht : P.underlying t = some (.float k)) (hv : Value.okWide P w r b0 t v) (h : DataW.Trod enc P w base spare held t v x ps) : ∃ n : Nat, v = .float k n ∧ (Lit.float k n).wf = true := by
  obtain ⟨n, rfl, _, _, wn⟩ := open_float ht hv h
  exact ⟨n, rfl, wn⟩
theorem arr_eq {cs : Array Value} {l : List Value} (h : cs.toList = l) : cs = l.toArray := by rw [← h]
/-- A struct by value. -/
theorem arg_struct {P : Program} {α : Type} {d : Kd α} {t : TypeId} {fs : Array Field} {Q : α → Prop} {H : Type} {enc : TypeId × Value → H} {w : World} {r : Reach} {b0 base : Nat} {spare : Nat → Bool} {held : Bool} {v : Value} {x : DataW H} {ps : List MemPlace}
    (ht : P.underlying t = some (.struct fs)) (hd : Opens P d t Q) (hv : Value.okWide P w r b0 t v) (h : DataW.Trod enc P w base spare held t v x ps) : ∃ (a : α) (cs : Array Value), v = .agg cs ∧ d.K w a cs.toList ∧ Q a := by
  obtain ⟨cs, rfl, _⟩ := okWide_struct ht hv
  obtain ⟨fuel, hf⟩ := h
  obtain ⟨a, ha, hq⟩ := hd H enc w base spare held fuel _ _ hf
  exact ⟨a, cs, rfl, ha, hq⟩

/-- A slice. -/
theorem arg_slice {P : Program} {α : Type} {d : Kd α} {t e : TypeId} {Q : α → Prop} {H : Type} {enc : TypeId × Value → H} {w : World} {r : Reach} {b0 base : Nat} {spare : Nat → Bool} {held : Bool} {v : Value} {x : DataW H} {ps : List MemPlace}
    (ht : P.underlying t = some (.slice e)) (hc : P.cellsOf e = d.sz) (hd : Opens P d e Q) (hv : Value.okWide P w r b0 t v) (h : DataW.Trod enc P w base spare held t v x ps) :
    ∃ (xs : List α) (A : Option Addr) (c : Nat), v = .slice A xs.length c ∧ xs.length ≤ c ∧ d.C w A xs.length xs ∧ xs.length ≤ maxLen ∧ ∀ z ∈ xs, Q z := by
  obtain ⟨a0, len, cap, rfl⟩ := okWide_slice ht hv
  obtain ⟨fuel, hf⟩ := h
  obtain ⟨xs, ⟨A, c, hA, hl, hC⟩, hm, hq⟩ := opens_slice ht hc hd H enc w base spare held fuel _ _ hf
  simp only [Value.cells, List.cons.injEq, Value.slice.injEq, and_true] at hA
  obtain ⟨rfl, rfl, rfl⟩ := hA
  exact ⟨xs, _, _, rfl, hl, hC, hm, hq⟩
theorem rows_le {α : Type} {e : Nat} {d : Kd α} {w : World} {A : Option Addr} {n : Nat} {xs : List (List α)} (h : Kd.C (Kd.slice e d) w A n xs) : ∀ x ∈ xs, x.length ≤ 9223372036854775807 := by
  intro x hx
  obtain ⟨j, hj, rfl⟩ := List.getElem_of_mem hx
  have hn := h.1
  obtain ⟨ad, _, hc⟩ := h.2.2 (by omega)
  obtain ⟨c, _, hk, _⟩ := hc j _ (List.getElem?_eq_getElem hj)
  obtain ⟨A', c', _, _, hC⟩ := hk
  exact hC.2.1
end Go.Proofs.Ytphfmcdkldcmiaa.Op
