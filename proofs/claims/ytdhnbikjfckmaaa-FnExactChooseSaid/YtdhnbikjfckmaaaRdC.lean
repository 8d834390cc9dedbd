/- The plain part: what the program's and the reference's RadiosOk compute is the same. -/
import Derived.Test.YtdhnbikjfckmaaaDcC
import Derived.Test.YtdhnbikjfckmaaaPD2x1
import Derived.Test.YtdhnbikjfckmaaaPD2x11
import Derived.Test.YtdhnbikjfckmaaaPD2x12
import Derived.Test.YtdhnbikjfckmaaaPD2x15
import Derived.Test.YtdhnbikjfckmaaaPD2x16
import Derived.Test.YtdhnbikjfckmaaaPD2x17
import Derived.Test.YtdhnbikjfckmaaaPD2x18
import Derived.Test.YtdhnbikjfckmaaaPD2x19
import Derived.Test.YtdhnbikjfckmaaaPD2x2
import Derived.Test.YtdhnbikjfckmaaaPD2x3
import Derived.Test.YtdhnbikjfckmaaaPD2x5
import Derived.Test.YtdhnbikjfckmaaaPD2x6
import Derived.Test.YtdhnbikjfckmaaaPD2x8
import Derived.Test.YtdhnbikjfckmaaaPD2x9
namespace Go.Proofs.Ytdhnbikjfckmaaa.Rd
open Go.RowKit Go.Proofs.Ytdhnbikjfckmaaa.PD2 Go.Proofs.YtdhnbikjfckmaaaW.PrintWords Go.Proofs.Ytdhnbikjfckmaaa.Dc
set_option linter.unusedVariables false
set_option linter.unusedSimpArgs false
abbrev LR := S63
abbrev IR := S64
def szOf (n : Nat) (m : Int) : Int := if (n : Int) ≤ m then m - n else -1
def cvR (x : LR) : IR := ⟨x.f0, x.f1, x.f2⟩
theorem rdl (l : List LR) (i : Nat) (h : i < l.length) : rd_T63 l (i : Int) = l[i] := by simp [rd_T63, h]
theorem rds (l : List IR) (i : Nat) (h : i < l.length) : rd_T64 l (i : Int) = l[i] := by simp [rd_T64, h]
theorem radio_le {w : World} {A : Option Addr} {n : Nat} {xs : List LR} (h : Kd.C k63 w A n xs) : ∀ x ∈ xs, x.f2.length ≤ 9223372036854775807 := by
  intro x hx
  obtain ⟨j, hj, rfl⟩ := List.getElem_of_mem hx
  have hn := h.1
  obtain ⟨ad, _, hc⟩ := h.2.2 (by omega)
  obtain ⟨c, _, hk, _⟩ := hc j _ (List.getElem?_eq_getElem hj)
  obtain ⟨_, _, rfl, _, ⟨_, _, rfl, _, ⟨A', c', _, _, hC⟩⟩⟩ := hk
  exact hC.2.1
/-! ### The copy -/
theorem to_loop (l : List LR) (hn : l.length ≤ 9223372036854775807) (hr : ∀ x ∈ l, x.f2.length ≤ 1048576) (d : Nat) : ∀ (i : Nat) (xs : List IR), xs.length = l.length → i + d = l.length → xs.take i = (l.map cvR).take i → Ev (fun k => laws_toRadioS.l0 k l xs i) (l.map cvR) := by
  induction d with
  | zero =>
    intro i xs hl hd ht
    refine Ev.ret fun k => ?_
    simp only [laws_toRadioS.l0]
    rw [if_neg (by omega)]
    rw [List.take_of_length_le (by omega), List.take_of_length_le (by simp; omega)] at ht
    exact congrArg some ht
  | succ d ih =>
    intro i xs hl hd ht
    have hi : i < l.length := by omega
    have t1 : Ev (fun k => laws_toRadio.f k l[i].f0 l[i].f1 l[i].f2) (l[i].f0, l[i].f1, l[i].f2) := by
      unfold laws_toRadio.f
      exact Ev.bind (toIntS _ (hr _ (List.getElem_mem hi))) (Ev.const fun _ => rfl)
    refine Ev.step (f := fun k => (laws_toRadio.f k l[i].f0 l[i].f1 l[i].f2).bind fun bt => if (i : Int) < (xs.length : Int) then laws_toRadioS.l0 k l (xs.set i (⟨bt.1, bt.2.1, bt.2.2⟩ : IR)) ((i + 1 : Nat) : Int) else none) (fun k => ?_) (Ev.bind t1 (Ev.yes (by omega) (ih (i + 1) (xs.set i (cvR l[i])) (by simpa using hl) (by omega) ?_)))
    · simp only [laws_toRadioS.l0]
      rw [if_pos (by omega), if_pos (by omega), wk (n := l.length) (by omega) hn, Int.toNat_natCast, rdl l i hi]
    · rw [List.take_succ_eq_append_getElem (by simp; omega), List.take_succ_eq_append_getElem (by simp; omega)]
      congr 1
      · rw [List.take_set_of_le (Nat.le_refl i)]; exact ht
      · simp
theorem toR (l : List LR) (hn : l.length ≤ 1048576) (hr : ∀ x ∈ l, x.f2.length ≤ 1048576) : Ev (fun k => laws_toRadioS.f k l) (l.map cvR) := by
  refine Ev.congr (f := fun k => laws_toRadioS.l0 k l (List.replicate l.length z64) ((0 : Nat) : Int)) (fun k => ?_) (to_loop l (by omega) hr l.length 0 _ (by simp) (by omega) (by simp))
  unfold laws_toRadioS.f
  rw [if_pos (by omega), if_pos (by simp; omega), Int.toNat_natCast]
  rfl
/-! ### Equality -/
theorem eq_loop (l : List IR) (hn : l.length ≤ 9223372036854775807) (hr : ∀ x ∈ l, x.f2.length ≤ 9223372036854775807) (d : Nat) : ∀ (i : Nat), i + d = l.length → Ev (fun k => laws_eqRadioS.l0 k l l i) true := by
  induction d with
  | zero =>
    intro i hd
    refine Ev.ret fun k => ?_
    simp only [laws_eqRadioS.l0]
    rw [if_neg (by omega)]
  | succ d ih =>
    intro i hd
    have hi : i < l.length := by omega
    have t1 : Ev (fun k => laws_eqRadio.f k l[i].f0 l[i].f1 l[i].f2 l[i].f0 l[i].f1 l[i].f2) true := by
      unfold laws_eqRadio.f
      exact Ev.yes rfl (Ev.yes rfl (Ev.bind (eqIntS _ (hr _ (List.getElem_mem hi))) (Ev.yes rfl (Ev.const fun _ => rfl))))
    refine Ev.step (f := fun k => (laws_eqRadio.f k l[i].f0 l[i].f1 l[i].f2 l[i].f0 l[i].f1 l[i].f2).bind fun t => if t = true then laws_eqRadioS.l0 k l l ((i + 1 : Nat) : Int) else some false) (fun k => ?_) (Ev.bind t1 (Ev.yes rfl (ih (i + 1) (by omega))))
    simp only [laws_eqRadioS.l0]
    rw [if_pos (by omega), if_pos (by omega), if_pos (by omega), wk (n := l.length) (by omega) hn, rds l i hi]
theorem eqR (l : List IR) (hn : l.length ≤ 9223372036854775807) (hr : ∀ x ∈ l, x.f2.length ≤ 9223372036854775807) : Ev (fun k => laws_eqRadioS.f k l l) true := by
  refine Ev.congr (f := fun k => laws_eqRadioS.l0 k l l ((0 : Nat) : Int)) (fun k => ?_) (eq_loop l hn hr l.length 0 (by omega))
  unfold laws_eqRadioS.f
  rw [if_pos rfl]
  rfl
/-! ### The size -/
def tot (l : List LR) : Nat := (l.map fun x => x.f2.length).sum
theorem tot_le (l : List LR) : ∀ x ∈ l, x.f2.length ≤ tot l := by
  intro x hx
  induction l with
  | nil => cases hx
  | cons y l ih =>
    have e : tot (y :: l) = y.f2.length + tot l := by simp [tot]
    rcases List.mem_cons.1 hx with rfl | hx
    · omega
    · have := ih hx; omega
theorem szInt (l : List Int) (m : Int) (h0 : 0 ≤ m) (h1 : m ≤ 1048576) (hn : l.length ≤ 9223372036854775807) : laws_szIntS.f l m = some (szOf l.length m) := by
  unfold laws_szIntS.f szOf
  have e : wrap64 (m - (l.length : Int)) = m - l.length := by unfold wrap64; omega
  rw [e]
  by_cases h : (l.length : Int) ≤ m
  · rw [if_pos h, if_neg (by omega)]
  · rw [if_neg h, if_pos (by omega)]
theorem sz_loop (l : List LR) (hn : l.length ≤ 9223372036854775807) (hr : ∀ x ∈ l, x.f2.length ≤ 9223372036854775807) (d : Nat) : ∀ (i : Nat) (m : Int), i + d = l.length → 0 ≤ m → m ≤ 1048576 → Ev (fun k => laws_szRadioS.l0 k l m i) (szOf (tot (l.drop i)) m) := by
  induction d with
  | zero =>
    intro i m hd h0 h1
    refine Ev.ret fun k => ?_
    simp only [laws_szRadioS.l0]
    rw [if_neg (by omega), List.drop_of_length_le (by omega)]
    unfold szOf tot
    simp [h0]
  | succ d ih =>
    intro i m hd h0 h1
    have hi : i < l.length := by omega
    have ht : tot (l.drop i) = l[i].f2.length + tot (l.drop (i + 1)) := by unfold tot; rw [drop_at l i hi, List.map_cons, List.sum_cons]
    have e1 : laws_szRadio.f l[i].f0 l[i].f1 l[i].f2 m = some (szOf l[i].f2.length m) := by
      unfold laws_szRadio.f
      rw [szInt _ m h0 h1 (hr _ (List.getElem_mem hi))]
      simp only [Option.bind_some]
      unfold szOf
      by_cases h : (l[i].f2.length : Int) ≤ m
      · rw [if_pos h, if_neg (by omega)]
      · rw [if_neg h, if_pos (by omega)]
    have hrow : ∀ k, laws_szRadioS.l0 (k + 1) l m i = if szOf l[i].f2.length m < 0 then some (-1) else laws_szRadioS.l0 k l (szOf l[i].f2.length m) ((i + 1 : Nat) : Int) := by
      intro k
      simp only [laws_szRadioS.l0]
      rw [if_pos (by omega), if_pos (by omega), rdl l i hi, e1, wk (n := l.length) (by omega) hn]
      rfl
    by_cases h : (l[i].f2.length : Int) ≤ m
    · have e2 : szOf l[i].f2.length m = m - l[i].f2.length := by unfold szOf; rw [if_pos h]
      have e3 : szOf (tot (l.drop i)) m = szOf (tot (l.drop (i + 1))) (m - l[i].f2.length) := by unfold szOf; rw [ht]; split <;> split <;> omega
      rw [e3]
      exact Ev.step (fun k => by rw [hrow, e2, if_neg (by omega)]) (ih (i + 1) _ (by omega) (by omega) (by omega))
    · have e2 : szOf l[i].f2.length m = -1 := by unfold szOf; rw [if_neg h]
      have e3 : szOf (tot (l.drop i)) m = -1 := by unfold szOf; rw [ht, if_neg (by omega)]
      rw [e3]
      exact Ev.ret fun k => by rw [hrow, e2, if_pos (by omega)]
def sizeR (l : List LR) : Nat := l.length + tot l
theorem szR (l : List LR) (hn : l.length ≤ 9223372036854775807) (hr : ∀ x ∈ l, x.f2.length ≤ 9223372036854775807) : Ev (fun k => laws_szRadioS.f k l 1048576) (szOf (sizeR l) 1048576) := by
  have e : wrap64 (1048576 - (l.length : Int)) = 1048576 - l.length := by unfold wrap64; omega
  unfold laws_szRadioS.f
  rw [e]
  by_cases h : (l.length : Int) ≤ 1048576
  · have := sz_loop l hn hr l.length 0 (1048576 - l.length) (by omega) (by omega) (by omega)
    rw [List.drop_zero] at this
    have e3 : szOf (sizeR l) 1048576 = szOf (tot l) (1048576 - l.length) := by unfold szOf sizeR; split <;> split <;> omega
    rw [e3]
    exact Ev.no (by omega) this
  · have e3 : szOf (sizeR l) 1048576 = -1 := by unfold szOf sizeR; rw [if_neg (by omega)]
    rw [e3]
    exact Ev.yes (by omega) (Ev.const fun _ => rfl)
/-! ### Is it in the list? -/
theorem has_same (l : List Int) (hn : l.length ≤ 9223372036854775807) (a : Int) : ∀ (k : Nat) (i : Nat), ((slices_Index_int_int.l0 k l a l.length i).bind fun t => some (decide (t ≥ 0))) = spec_l9Has.l0 k l a i := by
  intro k
  induction k with
  | zero => intro i; rfl
  | succ k ih =>
    intro i
    simp only [slices_Index_int_int.l0, spec_l9Has.l0]
    by_cases h : (i : Int) < (l.length : Int)
    · have h0 : (0 : Int) ≤ (i : Int) := by omega
      simp only [if_pos h, if_pos h0]
      by_cases h2 : rd l (i : Int) = a
      · have h3 : a = rd l (i : Int) := h2.symm
        simp only [if_pos h2, if_pos h3, Option.bind_some]
        simp
      · have h3 : ¬ a = rd l (i : Int) := fun e => h2 e.symm
        simp only [if_neg h2, if_neg h3]
        rw [wk (n := l.length) (by omega) hn]
        exact ih (i + 1)
    · rw [if_neg h, if_neg h]
      rfl
theorem has_f (l : List Int) (hn : l.length ≤ 9223372036854775807) (a : Int) (k : Nat) : slices_Contains_int_int.f k l a = spec_l9Has.f k l a := has_same l hn a k 0
theorem has_ends (l : List Int) (hn : l.length ≤ 9223372036854775807) (a : Int) (d : Nat) : ∀ i : Nat, i + d = l.length → ∃ r, Ev (fun k => spec_l9Has.l0 k l a i) r := by
  induction d with
  | zero =>
    intro i hd
    refine ⟨false, Ev.ret fun k => ?_⟩
    simp only [spec_l9Has.l0]
    rw [if_neg (by omega)]
  | succ d ih =>
    intro i hd
    by_cases h : rd l (i : Int) = a
    · refine ⟨true, Ev.ret fun k => ?_⟩
      simp only [spec_l9Has.l0]
      rw [if_pos (by omega), if_pos (by omega), if_pos h]
    · obtain ⟨r, hr⟩ := ih (i + 1) (by omega)
      refine ⟨r, Ev.step (fun k => ?_) hr⟩
      simp only [spec_l9Has.l0]
      rw [if_pos (by omega), if_pos (by omega), if_neg h, wk (n := l.length) (by omega) hn]
theorem id_impl (x : Int) : impl_idOk.f x = spec_l1In.f x 1 999999999 := by unfold impl_idOk.f; rw [in_impl, in_spec]; rfl
theorem slot_impl (x : Int) : impl_slotOk.f x = spec_l1In.f x 0 19 := by unfold impl_slotOk.f; rw [in_impl, in_spec]; rfl
theorem in_same (a b c : Int) : impl_in.f a b c = spec_l1In.f a b c := by rw [in_impl, in_spec]
/-! ### Both loops, round by round -/
theorem rd_le (l : List IR) (hr : ∀ x ∈ l, x.f2.length ≤ 9223372036854775807) (i : Int) : (rd_T64 l i).f2.length ≤ 9223372036854775807 := by
  unfold rd_T64
  rw [List.getD_eq_getElem?_getD]
  by_cases h : i.toNat < l.length
  · rw [List.getElem?_eq_getElem h]
    exact hr _ (List.getElem_mem h)
  · rw [List.getElem?_eq_none (by omega)]
    simp [z64]
theorem radios_same (l : List IR) (hr : ∀ x ∈ l, x.f2.length ≤ 9223372036854775807) : ∀ k : Nat, (∀ i : Int, impl_RadiosOk.l0 k l l l.length i = spec_RadiosOk.l0 k l i) ∧
    (∀ (i : Int) (b : Bool) (x y : Int) (h : List Int), impl_RadiosOk.j1 k l i l l.length i b x y h = spec_RadiosOk.j1 k l i b x y h) ∧ (∀ (i j x y : Int) (h : List Int), impl_RadiosOk.l1 k l i l l.length i h h.length j x y h = spec_RadiosOk.l1 k l i j x y h) := by
  intro k
  induction k with
  | zero => exact ⟨fun _ => rfl, fun _ _ _ _ _ => rfl, fun _ _ _ _ _ => rfl⟩
  | succ k ih =>
    obtain ⟨ih0, ih1, ih2⟩ := ih
    refine ⟨fun i => ?_, fun i b x y h => ?_, fun i j x y h => ?_⟩
    · simp only [impl_RadiosOk.l0, spec_RadiosOk.l0, ih1, id_impl, slot_impl]
      by_cases h1 : i < (l.length : Int)
      · simp only [if_pos h1]
      · simp only [if_neg h1]
    · simp only [impl_RadiosOk.j1, spec_RadiosOk.j1, ih2]
    · simp only [impl_RadiosOk.l1, spec_RadiosOk.l1, ih0, ih2, in_same, has_f _ (rd_le l hr _)]
      by_cases h1 : j < (h.length : Int)
      · simp only [if_pos h1]
      · simp only [if_neg h1]
/-! ### The reference comes to an end -/
theorem radios_ends (l : List IR) (hn : l.length ≤ 24) (hr : ∀ x ∈ l, x.f2.length ≤ 9223372036854775807) (d : Nat) : ∀ i : Nat, i + d = l.length → ∃ r, Ev (fun k => spec_RadiosOk.l0 k l i) r := by
  induction d with
  | zero =>
    intro i hd
    refine ⟨true, Ev.ret fun k => ?_⟩
    simp only [spec_RadiosOk.l0]
    rw [if_neg (by omega)]
  | succ d ih =>
    intro i hd
    have hi : i < l.length := by omega
    obtain ⟨r0, h0⟩ := ih (i + 1) (by omega)
    have hx := hr _ (List.getElem_mem hi)
    have inner : ∀ (x y : Int) (h : List Int), h.length ≤ 9223372036854775807 → ∀ (e j : Nat), j + e = h.length → ∃ r, Ev (fun k => spec_RadiosOk.l1 k l i j x y h) r := by
      intro x y h hh e
      induction e with
      | zero =>
        intro j hj
        refine ⟨r0, Ev.step (fun k => ?_) h0⟩
        simp only [spec_RadiosOk.l1]
        rw [if_neg (by omega), wk (n := l.length) (by omega) (by omega)]
      | succ e ihe =>
        intro j hj
        have w1 : wrap64 ((l.length : Int) - 1) = l.length - 1 := w64 _ (by omega) (by omega)
        by_cases c1 : 0 ≤ rd h (j : Int) ∧ rd h (j : Int) ≤ (l.length : Int) - 1
        · by_cases c2 : rd h (j : Int) = (i : Int)
          · refine ⟨false, Ev.ret fun k => ?_⟩
            simp only [spec_RadiosOk.l1]
            rw [if_pos (by omega), if_pos (by omega), in_spec, w1, decide_eq_true c1]
            simp only [Option.bind_some, if_true]
            rw [if_pos c2]
          · obtain ⟨b, hb⟩ := has_ends (rd_T64 l (rd h (j : Int))).f2 (rd_le l hr _) i _ 0 (Nat.zero_add _)
            obtain ⟨r1, h1⟩ := ihe (j + 1) (by omega)
            have fin : ∃ r, Ev (fun k => (spec_l9Has.f k (rd_T64 l (rd h (j : Int))).f2 i).bind fun t => if t = true then spec_RadiosOk.l1 k l i ((j + 1 : Nat) : Int) x y h else some false) r := by
              cases b
              · exact ⟨false, Ev.bind (g := fun k => spec_l9Has.f k _ _) hb (Ev.no (by simp) (Ev.const fun _ => rfl))⟩
              · exact ⟨r1, Ev.bind (g := fun k => spec_l9Has.f k _ _) hb (Ev.yes rfl h1)⟩
            by_cases c3 : j = 0
            · obtain ⟨r, hr'⟩ := fin
              refine ⟨r, Ev.step (fun k => ?_) hr'⟩
              simp only [spec_RadiosOk.l1]
              rw [if_pos (by omega), if_pos (by omega), in_spec, w1, decide_eq_true c1]
              simp only [Option.bind_some, if_true]
              rw [if_neg c2, if_neg (by omega), if_pos (by omega), if_pos (by omega), wk (n := h.length) (by omega) hh]
            · have w2 : wrap64 ((j : Int) - 1) = (j : Int) - 1 := w64 _ (by omega) (by omega)
              by_cases c4 : rd h ((j : Int) - 1) ≥ rd h (j : Int)
              · refine ⟨false, Ev.ret fun k => ?_⟩
                simp only [spec_RadiosOk.l1]
                rw [if_pos (by omega), if_pos (by omega), in_spec, w1, decide_eq_true c1]
                simp only [Option.bind_some, if_true]
                rw [if_neg c2, if_pos (by omega), w2, if_pos (by omega), if_pos (by omega), if_pos c4]
              · obtain ⟨r, hr'⟩ := fin
                refine ⟨r, Ev.step (fun k => ?_) hr'⟩
                simp only [spec_RadiosOk.l1]
                rw [if_pos (by omega), if_pos (by omega), in_spec, w1, decide_eq_true c1]
                simp only [Option.bind_some, if_true]
                rw [if_neg c2, if_pos (by omega), w2, if_pos (by omega), if_pos (by omega), if_neg c4, if_pos (by omega), if_pos (by omega), wk (n := h.length) (by omega) hh]
        · refine ⟨false, Ev.ret fun k => ?_⟩
          simp only [spec_RadiosOk.l1]
          rw [if_pos (by omega), if_pos (by omega), in_spec, w1, decide_eq_false c1]
          simp
    have jend : ∀ (b : Bool), ∃ r, Ev (fun k => spec_RadiosOk.j1 k l i b l[i].f0 l[i].f1 l[i].f2) r := by
      intro b
      cases b
      · obtain ⟨r, h⟩ := inner l[i].f0 l[i].f1 l[i].f2 hx l[i].f2.length 0 (by omega)
        refine ⟨r, Ev.step (fun k => ?_) h⟩
        simp only [spec_RadiosOk.j1, Bool.false_eq_true, if_false]
        rfl
      · exact ⟨false, Ev.ret fun k => by simp only [spec_RadiosOk.j1, if_true]⟩
    by_cases c1 : 1 ≤ l[i].f0 ∧ l[i].f0 ≤ 999999999
    · by_cases c2 : i = 0
      · obtain ⟨r, h⟩ := jend (!(decide (0 ≤ l[i].f1 ∧ l[i].f1 ≤ 19)))
        refine ⟨r, Ev.step (fun k => ?_) h⟩
        simp only [spec_RadiosOk.l0]
        rw [if_pos (by omega), if_pos (by omega), rds l i hi, in_spec, decide_eq_true c1]
        simp only [Option.bind_some, if_true]
        rw [if_neg (by omega), in_spec]
        simp only [Option.bind_some]
      · have w2 : wrap64 ((i : Int) - 1) = (i : Int) - 1 := w64 _ (by omega) (by omega)
        by_cases c3 : (rd_T64 l ((i : Int) - 1)).f0 ≥ l[i].f0
        · obtain ⟨r, h⟩ := jend true
          refine ⟨r, Ev.step (fun k => ?_) h⟩
          simp only [spec_RadiosOk.l0]
          rw [if_pos (by omega), if_pos (by omega), rds l i hi, in_spec, decide_eq_true c1]
          simp only [Option.bind_some, if_true]
          rw [if_pos (by omega), w2, if_pos (by omega), if_pos (by omega), if_pos c3]
        · obtain ⟨r, h⟩ := jend (!(decide (0 ≤ l[i].f1 ∧ l[i].f1 ≤ 19)))
          refine ⟨r, Ev.step (fun k => ?_) h⟩
          simp only [spec_RadiosOk.l0]
          rw [if_pos (by omega), if_pos (by omega), rds l i hi, in_spec, decide_eq_true c1]
          simp only [Option.bind_some, if_true]
          rw [if_pos (by omega), w2, if_pos (by omega), if_pos (by omega), if_neg c3, in_spec]
          simp only [Option.bind_some]
    · obtain ⟨r, h⟩ := jend true
      refine ⟨r, Ev.step (fun k => ?_) h⟩
      simp only [spec_RadiosOk.l0]
      rw [if_pos (by omega), if_pos (by omega), rds l i hi, in_spec, decide_eq_false c1]
      simp
theorem radios_both (l : List IR) (hn : l.length ≤ 9223372036854775807) (hr : ∀ x ∈ l, x.f2.length ≤ 9223372036854775807) : ∃ r, Ev (fun k => spec_RadiosOk.f k l) r ∧ Ev (fun k => impl_RadiosOk.f k l) r := by
  unfold spec_RadiosOk.f impl_RadiosOk.f
  rw [in_spec, in_impl]
  simp only [Option.bind_some]
  by_cases h : (1 : Int) ≤ (l.length : Int) ∧ (l.length : Int) ≤ 24
  · obtain ⟨r, h1⟩ := radios_ends l (by omega) hr l.length 0 (by omega)
    rw [decide_eq_true h]
    refine ⟨r, Ev.yes rfl h1, Ev.yes rfl (Ev.congr (fun k => ?_) h1)⟩
    exact (radios_same l hr k).1 0
  · rw [decide_eq_false h]
    exact ⟨false, Ev.no (by simp) (Ev.const fun _ => rfl), Ev.no (by simp) (Ev.const fun _ => rfl)⟩
end Go.Proofs.Ytdhnbikjfckmaaa.Rd
