/- The plain part for Choose: the free slots, marked or sought. -/
import Derived.Test.YtdhnbikjfckmaaaRdC
import Derived.Test.YtdhnbikjfckmaaaCh
import Derived.Test.YtdhnbikjfckmaaaPD2x13
import Derived.Test.YtdhnbikjfckmaaaPD2x22
import Derived.Test.YtdhnbikjfckmaaaPD2x23
namespace Go.Proofs.Ytdhnbikjfckmaaa.Co
open Go.RowKit Go.Proofs.Ytdhnbikjfckmaaa.PD2 Go.Proofs.YtdhnbikjfckmaaaW.PrintWords Go.Proofs.Ytdhnbikjfckmaaa.Dc Go.Proofs.Ytdhnbikjfckmaaa.Rd Go.Proofs.Ytdhnbikjfckmaaa.Ch
set_option linter.unusedVariables false
set_option linter.unusedSimpArgs false
def hok (l : List IR) (h : List Int) : Prop := ∀ u (hu : u < h.length), 0 ≤ h[u] ∧ h[u] ≤ (l.length : Int) - 1
def good (l : List IR) (x : IR) : Prop := (0 ≤ x.f1 ∧ x.f1 ≤ 19) ∧ hok l x.f2
theorem has_key {o : Option Bool} {z : Option Bool} (h : (o.bind fun t => if t = true then z else some false) = some true) : z = some true := by
  obtain ⟨b, _, h⟩ := Option.bind_eq_some_iff.mp h
  split at h
  · exact h
  · cases h
theorem radios_fact (l : List IR) (hn : l.length ≤ 24) (hr : ∀ x ∈ l, x.f2.length ≤ 9223372036854775807) : ∀ k : Nat,
    (∀ i : Nat, spec_RadiosOk.l0 k l i = some true → ∀ j, i ≤ j → ∀ hj : j < l.length, good l l[j]) ∧
    (∀ i : Nat, ∀ b : Bool, ∀ hi : i < l.length, spec_RadiosOk.j1 k l i b l[i].f0 l[i].f1 l[i].f2 = some true → b = false ∧ hok l l[i].f2 ∧ ∀ j, i < j → ∀ hj : j < l.length, good l l[j]) ∧
    (∀ i : Nat, ∀ hi : i < l.length, ∀ t : Nat, spec_RadiosOk.l1 k l i t l[i].f0 l[i].f1 l[i].f2 = some true → (∀ u, t ≤ u → ∀ hu : u < l[i].f2.length, 0 ≤ l[i].f2[u] ∧ l[i].f2[u] ≤ (l.length : Int) - 1) ∧ ∀ j, i < j → ∀ hj : j < l.length, good l l[j]) := by
  intro k
  induction k with
  | zero => exact ⟨fun i h => by simp [spec_RadiosOk.l0] at h, fun i b hi h => by simp [spec_RadiosOk.j1] at h, fun i hi t h => by simp [spec_RadiosOk.l1] at h⟩
  | succ k ih =>
    obtain ⟨P0, P1, P2⟩ := ih
    refine ⟨fun i h j hij hj => ?_, fun i b hi h => ?_, fun i hi t h => ?_⟩
    · have hi : i < l.length := by omega
      have fin : ∀ b : Bool, (b = false → 0 ≤ l[i].f1 ∧ l[i].f1 ≤ 19) → spec_RadiosOk.j1 k l i b l[i].f0 l[i].f1 l[i].f2 = some true → good l l[j] := fun b hb h => by
        obtain ⟨h1, h2, h3⟩ := P1 i b hi h
        by_cases e : j = i
        · subst e
          exact ⟨hb h1, h2⟩
        · exact h3 j (by omega) hj
      have fin2 : spec_RadiosOk.j1 k l i (!(decide (0 ≤ l[i].f1 ∧ l[i].f1 ≤ 19))) l[i].f0 l[i].f1 l[i].f2 = some true → good l l[j] := fin _ (fun h => by simpa using h)
      have fin3 : spec_RadiosOk.j1 k l i true l[i].f0 l[i].f1 l[i].f2 = some true → good l l[j] := fin _ (fun h => by cases h)
      simp only [spec_RadiosOk.l0] at h
      rw [if_pos (by omega), if_pos (by omega), rds l i hi, in_spec] at h
      simp only [Option.bind_some, in_spec] at h
      repeat' (split at h)
      all_goals first | (cases h; done) | exact fin2 h | exact fin3 h
    · simp only [spec_RadiosOk.j1] at h
      split at h
      · cases h
      · rename_i hb
        obtain ⟨h1, h2⟩ := P2 i hi 0 h
        exact ⟨by cases b; rfl; exact absurd rfl hb, fun u hu => h1 u (Nat.zero_le _) hu, h2⟩
    · have w1 : wrap64 ((l.length : Int) - 1) = l.length - 1 := w64 _ (by omega) (by omega)
      have hx := hr _ (List.getElem_mem hi)
      simp only [spec_RadiosOk.l1] at h
      by_cases c : (t : Int) < (l[i].f2.length : Int)
      · rw [if_pos c, if_pos (by omega), in_spec, w1, wk (n := l[i].f2.length) (by omega) hx] at h
        simp only [Option.bind_some] at h
        have et : rd l[i].f2 (t : Int) = l[i].f2[t] := rd_at _ t (by omega)
        by_cases c1 : 0 ≤ rd l[i].f2 (t : Int) ∧ rd l[i].f2 (t : Int) ≤ (l.length : Int) - 1
        · rw [decide_eq_true c1, if_pos rfl] at h
          have nxt : spec_RadiosOk.l1 k l i ((t + 1 : Nat) : Int) l[i].f0 l[i].f1 l[i].f2 = some true := by
            repeat' (split at h)
            all_goals first | (cases h; done) | exact has_key h
          obtain ⟨h1, h2⟩ := P2 i hi (t + 1) nxt
          refine ⟨fun u hu hl => ?_, h2⟩
          by_cases e : u = t
          · subst e
            rw [← et]
            exact c1
          · exact h1 u (by omega) hl
        · rw [decide_eq_false c1] at h
          simp at h
      · rw [if_neg c, wk (n := l.length) (by omega) (by omega)] at h
        exact ⟨fun u hu hl => by omega, fun j hj hl => P0 (i + 1) h j (by omega) hl⟩
theorem radios_true (l : List IR) (hr : ∀ x ∈ l, x.f2.length ≤ 9223372036854775807) {k : Nat} (h : spec_RadiosOk.f k l = some true) : l.length ≤ 24 ∧ ∀ j, ∀ hj : j < l.length, good l l[j] := by
  unfold spec_RadiosOk.f at h
  rw [in_spec] at h
  simp only [Option.bind_some] at h
  split at h
  · rename_i h2
    have := of_decide_eq_true h2
    exact ⟨by omega, fun j hj => (radios_fact l (by omega) hr k).1 0 h j (Nat.zero_le _) hj⟩
  · cases h

/-! ### The reference's Choose -/
abbrev sl : IR → Int := fun x => x.f1
theorem gete (l : List IR) (i : Nat) (h : i < l.length) : l[i]! = l[i] := getElem!_pos l i h
def tkTo (l : List IR) (hs : List Int) (j : Nat) : List Bool := (List.range 20).map fun s : Nat => (hs.take j).any (takenB sl l (s : Int))
theorem tk_len (l : List IR) (hs : List Int) (j : Nat) : (tkTo l hs j).length = 20 := by simp [tkTo]
theorem tk_step (l : List IR) (hs : List Int) (j : Nat) (hj : j < hs.length) (h0 : 0 ≤ sl l[(hs[j]).toNat]!) : (tkTo l hs j).set (sl l[(hs[j]).toNat]!).toNat true = tkTo l hs (j + 1) := by
  refine List.ext_getElem (by simp [tkTo]) fun s h1 h2 => ?_
  have hs2 : s < 20 := by simpa [tkTo] using h2
  rw [List.getElem_set]
  simp only [tkTo, List.getElem_map, List.getElem_range]
  rw [List.take_succ_eq_append_getElem hj, List.any_append]
  simp only [List.any_cons, List.any_nil, Bool.or_false, takenB]
  split
  · rename_i e
    have : sl l[(hs[j]).toNat]! = (s : Int) := by omega
    rw [this]
    simp
  · rename_i e
    have : ¬ sl l[(hs[j]).toNat]! = (s : Int) := by omega
    have e2 : (sl l[(hs[j]).toNat]! == (s : Int)) = false := by simpa using this
    rw [e2, Bool.or_false]
theorem seek_loop (l : List IR) (T : Nat) (hT : T < l.length) (coin : Int) (hc : 0 ≤ coin) (hs : List Int) (tk : List Bool) (htk : tk = tkTo l hs hs.length) (d : Nat) : ∀ i : Nat, i + d = 20 → l[T]!.f2 = hs →
    Ev (fun k => spec_Choose.l1 k l T coin tk (freeTo sl l hs i) i) (chooseF sl (fun x => x.f2) l T coin) := by
  induction d with
  | zero =>
    intro i hd hh
    obtain rfl : i = 20 := by omega
    refine Ev.ret fun k => ?_
    simp only [spec_Choose.l1]
    rw [if_neg (by omega)]
    unfold chooseF
    simp only [Int.toNat_natCast]
    rw [hh]
    generalize freeTo sl l hs 20 = L
    by_cases hL : L.length = 0
    · rw [if_pos (by omega), if_pos (by omega), if_pos (by omega), if_pos hL, rds l T hT, gete l T hT]
    · rw [if_neg (by omega), if_neg hL, if_pos (Int.tmod_nonneg _ hc), if_pos (Int.tmod_lt_of_pos _ (by omega))]
      rfl
  | succ d ih =>
    intro i hd hh
    have hf := freeTo_succ sl l hs i
    have hl := freeTo_len sl l hs i
    have hrd : rdOf false tk (i : Int) = hs.any (takenB sl l (i : Int)) := by
      rw [htk]
      simp [rdOf, tkTo, show i < 20 by omega]
    have hn := ih (i + 1) (by omega) hh
    rw [hf] at hn
    refine Ev.step (fun k => ?_) hn
    simp only [spec_Choose.l1]
    rw [if_pos (by omega), if_pos (by omega), if_pos (by rw [htk, tk_len]; omega), hrd, wk (n := 20) (by omega) (by omega)]
    cases hs.any (takenB sl l (i : Int))
    · simp only [Bool.false_eq_true, if_false]
      rw [if_pos (by omega)]
    · simp only [if_true, List.append_nil]
theorem mark_loop (l : List IR) (hg : ∀ j, ∀ hj : j < l.length, good l l[j]) (hr : ∀ x ∈ l, x.f2.length ≤ 9223372036854775807) (T : Nat) (hT : T < l.length) (coin : Int) (hc : 0 ≤ coin) (hs : List Int) (hh : l[T]!.f2 = hs) (d : Nat) : ∀ j : Nat, j + d = hs.length →
    Ev (fun k => spec_Choose.l0 k l T coin (tkTo l hs j) j) (chooseF sl (fun x => x.f2) l T coin) := by
  have hh2 : l[T].f2 = hs := by rw [← gete l T hT]; exact hh
  have hgT := (hg T hT).2
  rw [hh2] at hgT
  have hlen : hs.length ≤ 9223372036854775807 := by rw [← hh2]; exact hr _ (List.getElem_mem hT)
  induction d with
  | zero =>
    intro j hd
    have := seek_loop l T hT coin hc hs (tkTo l hs j) (by rw [show j = hs.length by omega]) 20 0 (by omega) hh
    refine Ev.step (fun k => ?_) this
    simp only [spec_Choose.l0]
    rw [if_pos (by omega), if_pos (by omega), rds l T hT, hh2, if_neg (by omega)]
    rfl
  | succ d ih =>
    intro j hd
    have hj : j < hs.length := by omega
    have hb := hgT j hj
    obtain ⟨X, hX⟩ : ∃ X : Nat, hs[j] = (X : Int) := ⟨hs[j].toNat, by omega⟩
    have hXl : X < l.length := by omega
    have hsl := (hg X hXl).1
    have e1 : sl l[(hs[j]).toNat]! = l[X].f1 := by rw [hX, Int.toNat_natCast, gete l X hXl]
    have st := tk_step l hs j hj (by rw [e1]; exact hsl.1)
    rw [e1] at st
    have hn := ih (j + 1) (by omega)
    rw [← st] at hn
    refine Ev.step (fun k => ?_) hn
    simp only [spec_Choose.l0]
    rw [if_pos (by omega), if_pos (by omega), rds l T hT, hh2, rd_at hs j hj, hX, rds l X hXl, if_pos (by omega), if_pos (by omega), if_pos (by omega), if_pos (by omega), if_pos hsl.1, if_pos (by rw [tk_len]; omega), wk (n := hs.length) hj hlen]
theorem chooseG_true (l : List IR) (T : Nat) (hT : T < l.length) (coin : Int) (hc : 0 ≤ coin) : chooseG sl (fun x : IR => x.f2) true l (T : Int) coin = chooseF sl (fun x => x.f2) l T coin := by
  unfold chooseG
  rw [if_pos rfl, if_pos ⟨by omega, by omega, hc⟩]
theorem choose_both (l : List IR) (hn : l.length ≤ 9223372036854775807) (hr : ∀ x ∈ l, x.f2.length ≤ 9223372036854775807) (a c : Int) : ∃ x, Ev (fun k => spec_Choose.f k l a c) x ∧ Ev (fun k => impl_Choose.f k l a c) x := by
  obtain ⟨ok, h1, h2⟩ := radios_both l hn hr
  have no : Ev (fun k => spec_Choose.j0 k l a c true) (-1, false) := Ev.ret fun k => by simp only [spec_Choose.j0, if_true]
  unfold spec_Choose.f impl_Choose.f
  cases ok
  · refine ⟨(-1, false), Ev.bind h1 (Ev.no (by simp) no), Ev.bind h2 (Ev.const fun _ => ?_)⟩
    unfold impl_Choose.g
    rw [if_neg (by simp)]
    rfl
  · obtain ⟨k0, hk0⟩ := h1
    obtain ⟨hl, hg⟩ := radios_true l hr (hk0 k0 (Nat.le_refl _))
    have h1 : Ev (fun k => spec_RadiosOk.f k l) true := ⟨k0, hk0⟩
    have w1 : wrap64 ((l.length : Int) - 1) = (l.length : Int) - 1 := w64 _ (by omega) (by omega)
    by_cases hin : 0 ≤ a ∧ a ≤ (l.length : Int) - 1
    · obtain ⟨T, rfl⟩ : ∃ T : Nat, a = (T : Int) := ⟨a.toNat, by omega⟩
      have hT : T < l.length := by omega
      have hall : (l[(T : Int).toNat]!.f2.all fun h => decide (0 ≤ h) && decide (h < (l.length : Int))) = true := by
        rw [Int.toNat_natCast, gete l T hT]
        refine List.all_eq_true.2 fun x hx => ?_
        obtain ⟨u, hu, rfl⟩ := List.getElem_of_mem hx
        have := (hg T hT).2 u hu
        simp only [Bool.and_eq_true, decide_eq_true_eq]
        omega
      have hg2 : impl_Choose.g true l (T : Int) c = some (chooseG sl (fun x : IR => x.f2) true l (T : Int) c) := by
        unfold impl_Choose.g
        rw [hall, if_neg (by simp)]
      by_cases hc : 0 ≤ c
      · rw [chooseG_true l T hT c hc] at hg2
        refine ⟨chooseF sl (fun x => x.f2) l T c, Ev.bind h1 (Ev.yes rfl ?_), Ev.bind h2 (Ev.const fun _ => hg2)⟩
        have := mark_loop l hg hr T hT c hc l[T]!.f2 rfl l[T]!.f2.length 0 (by omega)
        refine Ev.congr (f := fun k => spec_Choose.j0 k l T c false) (fun k => ?_) (Ev.step (fun k => ?_) this)
        · rw [in_spec, w1, decide_eq_true hin]
          simp only [Option.bind_some, if_true]
          rw [decide_eq_false (show ¬ c < 0 by omega)]
        · simp only [spec_Choose.j0, Bool.false_eq_true, if_false]
          rw [if_pos (by omega)]
          have e : List.replicate 20 false = tkTo l l[T]!.f2 0 := by
            unfold tkTo
            simp only [List.take_zero, List.any_nil]
            rfl
          rw [e]
          rfl
      · have e : chooseG sl (fun x : IR => x.f2) true l (T : Int) c = (-1, false) := by
          unfold chooseG
          rw [if_pos rfl, if_neg (fun h => hc h.2.2)]
        rw [e] at hg2
        refine ⟨(-1, false), Ev.bind h1 (Ev.yes rfl (Ev.congr (fun k => ?_) no)), Ev.bind h2 (Ev.const fun _ => hg2)⟩
        rw [in_spec, w1, decide_eq_true hin]
        simp only [Option.bind_some, if_true]
        rw [decide_eq_true (show c < 0 by omega)]
    · refine ⟨(-1, false), Ev.bind h1 (Ev.yes rfl (Ev.congr (fun k => ?_) no)), Ev.bind h2 (Ev.const fun _ => ?_)⟩
      · rw [in_spec, w1, decide_eq_false hin]
        simp
      · unfold impl_Choose.g
        have e : (decide (0 ≤ a) && decide (a ≤ (l.length : Int) - 1)) = false := by rw [← Bool.decide_and]; exact decide_eq_false hin
        rw [e, if_neg (by simp)]
        unfold chooseG
        rw [if_pos rfl, if_neg (fun h => hin ⟨h.1, h.2.1⟩)]
end Go.Proofs.Ytdhnbikjfckmaaa.Co
namespace Go.Proofs.Ytdhnbikjfckmaaa.Pure
open Go.RowKit Go.Proofs.Ytdhnbikjfckmaaa.PD2 Go.Proofs.YtdhnbikjfckmaaaW.PrintWords Go.Proofs.Ytdhnbikjfckmaaa.Dc Go.Proofs.Ytdhnbikjfckmaaa.Rd Go.Proofs.Ytdhnbikjfckmaaa.Co
theorem FnExactChoose : ∀ (l0 : List (S63)) (a1 : Int) (a2 : Int), l0.length ≤ maxLen → (∀ x ∈ l0, x.f2.length ≤ 9223372036854775807) → ∃ k, laws_FnExactChoose.f k l0 a1 a2 = some true := by
  intro l a c hn hr
  have hm : maxLen = 9223372036854775807 := rfl
  refine Ev.rounds (g := fun k => laws_FnExactChoose.f k l a c) ?_
  unfold laws_FnExactChoose.f
  refine Ev.bind (szR l (by omega) hr) ?_
  by_cases h : sizeR l ≤ 1048576
  · have e : Rd.szOf (sizeR l) 1048576 = 1048576 - (sizeR l : Int) := by unfold Rd.szOf; rw [if_pos (by omega)]
    have l1 : l.length ≤ 1048576 := by unfold sizeR at h; omega
    have l2 : ∀ x ∈ l, x.f2.length ≤ 1048576 := fun x hx => by have := tot_le l x hx; unfold sizeR at h; omega
    have l3 : (l.map cvR).length ≤ 9223372036854775807 := by rw [List.length_map]; omega
    have l4 : ∀ x ∈ l.map cvR, x.f2.length ≤ 9223372036854775807 := by
      intro x hx
      obtain ⟨y, hy, rfl⟩ := List.mem_map.1 hx
      have := l2 y hy
      show y.f2.length ≤ _
      omega
    obtain ⟨r, h1, h2⟩ := choose_both (l.map cvR) l3 l4 a c
    rw [e]
    refine Ev.no (by omega) (Ev.bind (toR l l1 l2) (Ev.bind h1 (Ev.bind (toR l l1 l2) (Ev.bind h2 (Ev.yes rfl ?_)))))
    simp only [bne_self_eq_false]
    refine Ev.step (f := fun k => (laws_toRadioS.f k l).bind fun t => (laws_eqRadioS.f k (l.map cvR) t).bind fun t2 => if t2 = true then some true else some false) (fun k => ?_) (Ev.bind (toR l l1 l2) (Ev.bind (eqR _ l3 l4) (Ev.yes rfl (Ev.const fun _ => rfl))))
    simp only [laws_FnExactChoose.j0, Bool.false_eq_true, if_false]
  · have e : Rd.szOf (sizeR l) 1048576 = -1 := by unfold Rd.szOf; rw [if_neg (by omega)]
    rw [e]
    exact Ev.yes (by omega) (Ev.const fun _ => rfl)
end Go.Proofs.Ytdhnbikjfckmaaa.Pure
