/- Floats in a walk: every operation runs, a NaN's bits being asked of the tape; two floats are alike if their bits are the same or both are NaNs; operations and comparisons keep that. -/
import Derived.WalkKit
import Derived.WalkLawsBesides
import Derived.Deep.Draws
import Derived.Deep.RegionHeld
namespace Go.Proofs.Ytfbgjjmnkkgioaa.Fl
open Go Go.RowKit

/-- Is it a NaN? -/
def nanB (k : FloatKind) (x : Nat) : Bool := (k.decode x).isNaN
/-- The same bits, or both a NaN. -/
def Same (k : FloatKind) (x y : Nat) : Prop := x = y ∨ (nanB k x = true ∧ nanB k y = true)
theorem Same.refl (k : FloatKind) (x : Nat) : Same k x x := .inl rfl
theorem Same.symm {k : FloatKind} {x y : Nat} (h : Same k x y) : Same k y x := by
  rcases h with h | h
  · exact .inl h.symm
  · exact .inr ⟨h.2, h.1⟩
theorem Same.trans {k : FloatKind} {x y z : Nat} (h : Same k x y) (h' : Same k y z) : Same k x z := by
  rcases h with rfl | h
  · exact h'
  · rcases h' with rfl | h'
    · exact .inr h
    · exact .inr ⟨h.1, h'.2⟩

theorem read_nan {k : FloatKind} {x : Nat} (h : nanB k x = true) : ∃ s t, k.format.read x = .nan s t := by
  have h' : (k.format.read x).isNaN = true := h
  cases hd : k.format.read x with
  | nan s t => exact ⟨s, t, rfl⟩
  | number s m e => rw [hd] at h'; cases h'
  | infinity s => rw [hd] at h'; cases h'

/-! ### Order -/
theorem order_nan_l {k : FloatKind} {x : Nat} (y : Nat) (h : nanB k x = true) : k.format.order x y = none := by
  obtain ⟨s, t, e⟩ := read_nan h
  unfold Ieee.Format.order
  rw [e]
  rfl
theorem order_nan_r {k : FloatKind} {y : Nat} (x : Nat) (h : nanB k y = true) : k.format.order x y = none := by
  obtain ⟨s, t, e⟩ := read_nan h
  unfold Ieee.Format.order
  rw [e]
  cases k.format.read x <;> rfl
theorem order_same {k : FloatKind} {x x' y y' : Nat} (hx : Same k x x') (hy : Same k y y') : k.format.order x y = k.format.order x' y' := by
  rcases hx with rfl | hx
  · rcases hy with rfl | hy
    · rfl
    · rw [order_nan_r _ hy.1, order_nan_r _ hy.2]
  · rw [order_nan_l _ hx.1, order_nan_l _ hx.2]
theorem order_self {k : FloatKind} {x : Nat} (h : nanB k x = false) : k.format.order x x = some .eq := by
  have h' : (k.format.read x).isNaN = false := h
  unfold Ieee.Format.order
  cases hd : k.format.read x with
  | nan s t => rw [hd] at h'; cases h'
  | number s m e => simp [Ieee.Datum.order, compare, compareOfLessAndEq]
  | infinity s => cases s <;> rfl
theorem order_self_eq (k : FloatKind) (x : Nat) : (k.format.order x x == some .eq) = !(nanB k x) := by
  cases h : nanB k x with
  | true => rw [order_nan_l _ h]; rfl
  | false => rw [order_self h]; rfl
theorem order_self_ne (k : FloatKind) (x : Nat) : (k.format.order x x != some .eq) = nanB k x := by
  cases h : nanB k x with
  | true => rw [order_nan_l _ h]; rfl
  | false => rw [order_self h]; rfl

/-! ### + - * / -/
theorem bits_nan_l {op : BinOp} {k : FloatKind} {x : Nat} (y : Nat) (h : nanB k x = true) : floatBits op k x y = none := by
  obtain ⟨s, t, e⟩ := read_nan h
  unfold floatBits
  split <;> simp only [Ieee.Format.add, Ieee.Format.sub, Ieee.Format.mul, Ieee.Format.div, e] <;> rfl
theorem bits_nan_r {op : BinOp} {k : FloatKind} {y : Nat} (x : Nat) (h : nanB k y = true) : floatBits op k x y = none := by
  obtain ⟨s, t, e⟩ := read_nan h
  unfold floatBits
  split <;> simp only [Ieee.Format.add, Ieee.Format.sub, Ieee.Format.mul, Ieee.Format.div, e] <;> (cases k.format.read x <;> rfl)
theorem bits_same {op : BinOp} {k : FloatKind} {x x' y y' : Nat} (hx : Same k x x') (hy : Same k y y') : floatBits op k x y = floatBits op k x' y' := by
  rcases hx with rfl | hx
  · rcases hy with rfl | hy
    · rfl
    · rw [bits_nan_r _ hy.1, bits_nan_r _ hy.2]
  · rw [bits_nan_l _ hx.1, bits_nan_l _ hx.2]

/-- What an operation gives in the world w. -/
def fAr (op : BinOp) (k : FloatKind) (x y : Nat) (w : World) : Nat := (floatBits op k x y).getD ((Question.nanBits k x y).cut (w.tape w.drawn (.nanBits k x y)))
/-- How many draws it makes. -/
def fN (op : BinOp) (k : FloatKind) (x y : Nat) : Nat := if (floatBits op k x y).isSome then 0 else 1
/-- What it gives, one NaN standing for all. -/
def qnan (k : FloatKind) : Nat := match k with | .f32 => 0x7fc00000 | .f64 => 0x7ff8000000000000
def fP (op : BinOp) (k : FloatKind) (x y : Nat) : Nat := (floatBits op k x y).getD (qnan k)

theorem nan_of_rung (k : FloatKind) (neg : Bool) (f : Nat) (h0 : 0 < f) (h1 : f < k.format.binade) (hk : 1 ≤ k.format.exponentBits) : (k.format.read (k.format.word neg (k.format.infRung + f))).isNaN = true := by
  have hr := k.format.infRung_add_binade
  have hlt : k.format.infRung + f < k.format.signWeight := by omega
  have hmod : k.format.word neg (k.format.infRung + f) % k.format.signWeight = k.format.infRung + f := by
    unfold Ieee.Format.word
    split
    · rw [Nat.add_mod_left, Nat.mod_eq_of_lt hlt]
    · rw [Nat.mod_eq_of_lt hlt]
  have hb : k.format.binade ≤ k.format.infRung := by
    have h2 : 2 ^ 1 ≤ 2 ^ k.format.exponentBits := Nat.pow_le_pow_right (by omega) hk
    unfold Ieee.Format.infRung
    exact Nat.le_mul_of_pos_left _ (by omega)
  unfold Ieee.Format.read
  simp only [hmod]
  rw [if_neg (by omega), if_neg (by omega), if_neg (by omega)]
  rfl

theorem nan_f32 (a f : Nat) (ha : a < 2) (hf : f < 2 ^ 23 - 1) : nanB .f32 (a * 2 ^ 31 + 0x7f800000 + 1 + f) = true := by
  have h := nan_of_rung .f32 (a == 1) (1 + f) (by omega) (show 1 + f < 2 ^ 23 by omega) (by decide)
  have e : FloatKind.f32.format.word (a == 1) (FloatKind.f32.format.infRung + (1 + f)) = a * 2 ^ 31 + 0x7f800000 + 1 + f := by
    have e1 : FloatKind.f32.format.infRung = 0x7f800000 := by decide
    have e2 : FloatKind.f32.format.signWeight = 2 ^ 31 := by decide
    unfold Ieee.Format.word
    rw [e1, e2]
    rcases Nat.lt_or_ge a 1 with h | h
    · obtain rfl : a = 0 := by omega
      simp; omega
    · obtain rfl : a = 1 := by omega
      simp; omega
  rw [e] at h
  exact h
theorem nan_f64 (a f : Nat) (ha : a < 2) (hf : f < 2 ^ 52 - 1) : nanB .f64 (a * 2 ^ 63 + 0x7ff0000000000000 + 1 + f) = true := by
  have h := nan_of_rung .f64 (a == 1) (1 + f) (by omega) (show 1 + f < 2 ^ 52 by omega) (by decide)
  have e : FloatKind.f64.format.word (a == 1) (FloatKind.f64.format.infRung + (1 + f)) = a * 2 ^ 63 + 0x7ff0000000000000 + 1 + f := by
    have e1 : FloatKind.f64.format.infRung = 0x7ff0000000000000 := by decide
    have e2 : FloatKind.f64.format.signWeight = 2 ^ 63 := by decide
    unfold Ieee.Format.word
    rw [e1, e2]
    rcases Nat.lt_or_ge a 1 with h | h
    · obtain rfl : a = 0 := by omega
      simp; omega
    · obtain rfl : a = 1 := by omega
      simp; omega
  rw [e] at h
  exact h
theorem nan_bits (k : FloatKind) (x y t : Nat) : nanB k ((Question.nanBits k x y).cut t) = true := by
  cases k
  · exact nan_f32 _ _ (by omega) (by omega)
  · exact nan_f64 _ _ (by omega) (by omega)
theorem nan_conv (k : FloatKind) (x t : Nat) : nanB k ((Question.nanConv k x).cut t) = true := by
  cases k
  · exact nan_f32 _ _ (by omega) (by omega)
  · exact nan_f64 _ _ (by omega) (by omega)
theorem nan_q (k : FloatKind) : nanB k (qnan k) = true := by cases k <;> decide

theorem fAr_same {op : BinOp} {k : FloatKind} {x x' y y' : Nat} (hx : Same k x x') (hy : Same k y y') (w : World) : Same k (fAr op k x y w) (fP op k x' y') := by
  unfold fAr fP
  rw [bits_same hx hy]
  cases floatBits op k x' y' with
  | some r => exact .inl rfl
  | none => exact .inr ⟨nan_bits _ _ _ _, nan_q _⟩
theorem fP_same {op : BinOp} {k : FloatKind} {x x' y y' : Nat} (hx : Same k x x') (hy : Same k y y') : fP op k x y = fP op k x' y' := by
  unfold fP
  rw [bits_same hx hy]

section
variable {P : Program}
theorem run_choose_nan (w : World) (k : FloatKind) (x y : Nat) : (choose (.nanBits k x y)).run P w = .ok ((Question.nanBits k x y).cut (w.tape w.drawn (.nanBits k x y))) (w.drewN 1) := by
  simp only [choose, Sem.run, Question.forced]
  rfl
theorem run_choose_conv (w : World) (k : FloatKind) (x : Nat) : (choose (.nanConv k x)).run P w = .ok ((Question.nanConv k x).cut (w.tape w.drawn (.nanConv k x))) (w.drewN 1) := by
  simp only [choose, Sem.run, Question.forced]
  rfl
theorem run_arith (op : BinOp) (hop : op = .add ∨ op = .sub ∨ op = .mul ∨ op = .quo) (w : World) (t : TypeId) (k : FloatKind) (x y : Nat) :
    (binOp op t (.float k x) (.float k y)).run P w = .ok (.float k (fAr op k x y w)) (w.drewN (fN op k x y)) := by
  unfold fAr fN
  cases h : floatBits op k x y with
  | some r => exact run_float_arith w op t k x y r h
  | none =>
    unfold floatBits at h
    rcases hop with rfl | rfl | rfl | rfl <;> simp only at h <;> (simp [binOp, Op.floatArith, h]; rfl)
@[go_sem] theorem run_fadd (w : World) (t : TypeId) (k : FloatKind) (x y : Nat) : (binOp .add t (.float k x) (.float k y)).run P w = .ok (.float k (fAr .add k x y w)) (w.drewN (fN .add k x y)) := run_arith .add (.inl rfl) w t k x y
@[go_sem] theorem run_fsub (w : World) (t : TypeId) (k : FloatKind) (x y : Nat) : (binOp .sub t (.float k x) (.float k y)).run P w = .ok (.float k (fAr .sub k x y w)) (w.drewN (fN .sub k x y)) := run_arith .sub (.inr (.inl rfl)) w t k x y
@[go_sem] theorem run_fmul (w : World) (t : TypeId) (k : FloatKind) (x y : Nat) : (binOp .mul t (.float k x) (.float k y)).run P w = .ok (.float k (fAr .mul k x y w)) (w.drewN (fN .mul k x y)) := run_arith .mul (.inr (.inr (.inl rfl))) w t k x y
theorem run_fquo (w : World) (t : TypeId) (k : FloatKind) (x y : Nat) : (binOp .quo t (.float k x) (.float k y)).run P w = .ok (.float k (fAr .quo k x y w)) (w.drewN (fN .quo k x y)) := run_arith .quo (.inr (.inr (.inr rfl))) w t k x y
end

/-! ### float64(x) of a float32: no number is too great -/
/-- What the conversion gives, one NaN standing for all. -/
def gP (x : Nat) : Nat := match FloatKind.f32.decode x with
  | .nan _ _ => qnan .f64
  | d => FloatKind.f64.encode d
def gW (x : Nat) (w : World) : Nat := if nanB .f32 x then (Question.nanConv .f64 x).cut (w.tape w.drawn (.nanConv .f64 x)) else gP x
def gN (x : Nat) : Nat := if nanB .f32 x then 1 else 0
theorem gP_same {x x' : Nat} (h : Same .f32 x x') : gP x = gP x' := by
  rcases h with rfl | h
  · rfl
  · obtain ⟨s, t, e⟩ := read_nan h.1
    obtain ⟨s', t', e'⟩ := read_nan h.2
    have e1 : FloatKind.f32.decode x = .nan s t := e
    have e2 : FloatKind.f32.decode x' = .nan s' t' := e'
    unfold gP
    rw [e1, e2]
theorem gW_same {x x' : Nat} (h : Same .f32 x x') (w : World) : Same .f64 (gW x w) (gP x') := by
  rw [← gP_same h]
  unfold gW
  cases hn : nanB .f32 x with
  | true =>
    obtain ⟨s, t, e⟩ := read_nan hn
    have e1 : FloatKind.f32.decode x = .nan s t := e
    have e2 : gP x = qnan .f64 := by unfold gP; rw [e1]
    rw [e2, if_pos rfl]
    exact .inr ⟨nan_conv .f64 x _, nan_q _⟩
  | false => exact .inl rfl

/-- The word of a number whose rung is below infinity's is no infinity. -/
theorem word_finite (f : Ieee.Format) (neg : Bool) (r : Nat) (h : r < f.infRung) : (f.read (f.word neg r)).isInfinity = false := by
  have hlt : r < f.signWeight := Nat.lt_trans h f.infRung_lt
  have hmod : f.word neg r % f.signWeight = r := by
    unfold Ieee.Format.word
    split
    · rw [Nat.add_mod_left, Nat.mod_eq_of_lt hlt]
    · rw [Nat.mod_eq_of_lt hlt]
  unfold Ieee.Format.read
  simp only [hmod]
  by_cases hb : r < f.binade
  · rw [if_pos hb]; rfl
  · rw [if_neg hb, if_pos h]; rfl

/-- A float32's number: its digits and its place. -/
theorem f32_number {x : Nat} {s : Bool} {m : Nat} {e : Int} (h : FloatKind.f32.decode x = .number s m e) : m < 2 ^ 24 ∧ -149 ≤ e ∧ e ≤ 104 := by
  have hb : FloatKind.f32.format.binade = 2 ^ 23 := rfl
  have hi : FloatKind.f32.format.infRung = 255 * 2 ^ 23 := rfl
  have hp : FloatKind.f32.format.leastPlace = -149 := rfl
  have h' : FloatKind.f32.format.read x = .number s m e := h
  unfold Ieee.Format.read at h'
  simp only [hb, hi, hp] at h'
  split at h'
  · cases h'; omega
  · split at h'
    · cases h'; omega
    · split at h' <;> cases h'

theorem cut_zero (way : Ieee.Toward) (neg : Bool) (n : Nat) : way.cut neg n 0 = n := by
  unfold Ieee.Toward.cut
  have : (1 <<< min 0 (n.log2 + 2)) = 1 := by simp
  simp only [this, Nat.div_one, Nat.mod_one]
  cases way <;> simp

theorem log2_lt24 {m : Nat} (h0 : m ≠ 0) (h : m < 2 ^ 24) : m.log2 < 24 := (Nat.log2_lt h0).2 h

theorem f64_near (B q k : Nat) (_hB : 0 < B) (hq : q ≤ 1149) (hk : k < 2 * B) : q * B + k < 2047 * B := by
  have := Nat.mul_le_mul_right B hq
  omega
theorem nearest_f64 (s : Bool) (m : Nat) (e : Int) (hm : m < 2 ^ 24) (he : -149 ≤ e ∧ e ≤ 104) : ∃ r, r < FloatKind.f64.format.infRung ∧ FloatKind.f64.encode (.number s m e) = FloatKind.f64.format.word s r := by
  have hi : FloatKind.f64.format.infRung = 2047 * 2 ^ 52 := rfl
  have hb : FloatKind.f64.format.binade = 2 ^ 52 := rfl
  have hp : FloatKind.f64.format.leastPlace = -1074 := rfl
  have hf : (FloatKind.f64.format.fractionBits : Int) = 52 := rfl
  show ∃ r, r < _ ∧ FloatKind.f64.format.nearest s m e = _
  unfold Ieee.Format.nearest
  by_cases h0 : m = 0
  · rw [if_pos h0]; exact ⟨0, by rw [hi]; decide, rfl⟩
  · rw [if_neg h0]
    have hl := log2_lt24 h0 hm
    simp only [hb, hi, hp, hf]
    have hmax : max (e + (m.log2 : Int) - 52) (-1074) = e + m.log2 - 52 := by omega
    rw [hmax]
    have h1 : (e - (e + (m.log2 : Int) - 52)).toNat = 52 - m.log2 := by omega
    have h2 : ((e + (m.log2 : Int) - 52) - e).toNat = 0 := by omega
    rw [h1, h2, cut_zero]
    refine ⟨_, ?_, rfl⟩
    have hk : m <<< (52 - m.log2) < 2 * 2 ^ 52 := by
      rw [Nat.shiftLeft_eq]
      have hml : m < 2 ^ (m.log2 + 1) := Nat.lt_log2_self
      calc m * 2 ^ (52 - m.log2) < 2 ^ (m.log2 + 1) * 2 ^ (52 - m.log2) := Nat.mul_lt_mul_of_pos_right hml (Nat.two_pow_pos _)
        _ = 2 ^ (1 + 52) := by rw [← Nat.pow_add, show m.log2 + 1 + (52 - m.log2) = 1 + 52 by omega]
        _ = 2 * 2 ^ 52 := by rw [Nat.pow_add, Nat.pow_one]
    have hq : (e + (m.log2 : Int) - 52 - -1074).toNat ≤ 1149 := by omega
    exact Nat.lt_of_le_of_lt (Nat.min_le_left ..) (f64_near (2 ^ 52) _ _ (Nat.two_pow_pos 52) hq hk)

section
variable {P : Program}
@[go_sem] theorem run_great (w : World) (src dst : TypeId) (x : Nat) (hs : P.underlying src = some (.float .f32)) (hd : P.underlying dst = some (.float .f64)) :
    (convert src dst (.float .f32 x)).run P w = .ok (.float .f64 (gW x w)) (w.drewN (gN x)) := by
  cases h : FloatKind.f32.decode x with
  | nan s t =>
    have hn : nanB .f32 x = true := by unfold nanB; rw [h]; rfl
    simp [convert, run_underlying hs, run_underlying hd, Conv.floatToFloat, h, gW, gN, hn]
    rfl
  | infinity s =>
    have hn : nanB .f32 x = false := by unfold nanB; rw [h]; rfl
    simp [convert, run_underlying hs, run_underlying hd, Conv.floatToFloat, h, gW, gN, hn, gP, World.drewN_zero]
  | number s m e =>
    have hn : nanB .f32 x = false := by unfold nanB; rw [h]; rfl
    obtain ⟨hm, he⟩ := f32_number h
    obtain ⟨r, hr, hw⟩ := nearest_f64 s m e hm he
    have hinf : (FloatKind.f64.decode (FloatKind.f64.encode (.number s m e))).isInfinity = false := by
      rw [hw]; exact word_finite _ _ _ hr
    simp [convert, run_underlying hs, run_underlying hd, Conv.floatToFloat, h, gW, gN, hn, gP, World.drewN_zero, hinf]
end

/-! ### 1/x of what is no NaN -/
theorem quo_one {a : Nat} (h : nanB .f64 a = false) : ∃ r, floatBits .quo .f64 4607182418800017408 a = some r := by
  have h' : (FloatKind.f64.format.read a).isNaN = false := h
  have h1 : FloatKind.f64.format.read 4607182418800017408 = .number false 4503599627370496 (-52) := by decide
  show ∃ r, FloatKind.f64.format.div 4607182418800017408 a = some r
  unfold Ieee.Format.div
  rw [h1]
  cases hd : FloatKind.f64.format.read a with
  | nan s t => rw [hd] at h'; cases h'
  | infinity s => exact ⟨_, rfl⟩
  | number s m e =>
    simp only [Ieee.Datum.quotient]
    by_cases h0 : m = 0
    · rw [if_pos h0, if_neg (by decide)]; exact ⟨_, rfl⟩
    · rw [if_neg h0]; exact ⟨_, rfl⟩

@[go_sem] theorem run_store_float {P : Program} (w : World) (a : Addr) (m : Mode) (k : FloatKind) (b : Nat) : (store a (.float k b) m).run P w = stored P w a (.float k b) m := run_store P w a _ m rfl

@[go_sem] theorem unary_fneg (k : FloatKind) (b : Nat) : Op.unary .neg (.float k b) = pure (.float k (Op.negFloat k b)) := rfl

/-- The end of a body whose result lies in memory. -/
theorem ret_val {P : Program} {fn : Func} {R : Ending → World → Prop} {a : Act} {w : World} (h : ∃ v, (results fn a.tmps).run P w = .ok v w ∧ R (.returned v) w) (hd : a.defers = []) : bodyPost P fn R .ret a w :=
  let ⟨_, hr, hR⟩ := h
  bodyPost_ret hr hd hR

/-! ### The world -/
@[go_sem] theorem alloc_drewN (w : World) (n : Nat) (o : Obj) : (w.drewN n).alloc o = (w.alloc o).drewN n := rfl
@[go_sem] theorem setCell_drewN (w : World) (n : Nat) (a : Addr) (v : Value) : (w.drewN n).setCell a v = (w.setCell a v).drewN n := by
  unfold World.setCell World.drewN; rfl
theorem below_drewN {B : Nat} {w w' : World} (h : Below B w w') (n : Nat) : Below B w (w'.drewN n) := ⟨h.os, h.tape, h.output, h.size, h.block⟩
theorem below_al {w W : World} (h : Below w.heap.size w W) (o : Obj) : Below w.heap.size w (W.alloc o) := h.alloc h.size o
theorem below_st {w W : World} {p : Addr} (h : Below w.heap.size w W) (hp : w.heap.size ≤ p.block) (v : Value) : Below w.heap.size w (W.setCell p v) := h.setCell hp v
theorem cell_al {W : World} {a : Addr} {v : Value} (h : W.cell? a = some v) (o : Obj) : (W.alloc o).cell? a = some v := by
  rw [World.cell?_alloc_some W a o (by rw [h]; rfl), h]
theorem cell_st {W : World} {p a : Addr} {v u : Value} (hp : p.block ≠ a.block) (h : W.cell? a = some v) : (W.setCell p u).cell? a = some v := by
  rw [World.cell?_setCell_far W p a u hp, h]
theorem heap_alloc_at (w : World) (g : Nat) (o : Obj) (h : g = w.heap.size) : (w.alloc o).heap[g]? = some o := by
  subst h
  exact heap_alloc_new w o
theorem blk_cell {w : World} {g : Nat} {cs : Array Value} {t : TypeId} {fr : Nat × Nat} (h : w.heap[g]? = some (.cells cs t fr)) (i : Nat) : w.cell? ⟨g, i, none⟩ = cs[i]? := by simp [World.cell?, h]
theorem blk_free {w : World} {g : Nat} {cs : Array Value} {t : TypeId} (h : w.heap[g]? = some (.cells cs t (0, 0))) (i : Nat) : w.frozen? ⟨g, i, none⟩ = false := by simp [World.frozen?, h]
/-- Two floats, alike to x and y. -/
def PairOf (k : FloatKind) (x y : Nat) (w : World) (e : Ending) (w' : World) : Prop := ∃ r i, e = .returned (.agg #[.float k r, .float k i]) ∧ Same k r x ∧ Same k i y ∧ Below w.heap.size w w'
/-- After a call that makes memory of its own, what was there stands. -/
theorem below_cells {W w1 : World} (hb : Below W.heap.size W w1) : (∀ b o, b < W.heap.size → w1.cell? ⟨b, o, none⟩ = W.cell? ⟨b, o, none⟩) ∧ (∀ b o, b < W.heap.size → w1.frozen? ⟨b, o, none⟩ = W.frozen? ⟨b, o, none⟩) :=
  ⟨fun b o h => hb.cell (p := ⟨b, o, none⟩) h, fun b o h => hb.frozen (p := ⟨b, o, none⟩) h⟩
end Go.Proofs.Ytfbgjjmnkkgioaa.Fl
